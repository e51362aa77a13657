/- Part of the proof that the last text ends. -/
import Derived.Test.YtlfimpogphmbdaaGreatM11
import Derived.Laws.BytesArg
import Derived.Test.YtlfimpogphmbdaaGreatM10
set_option linter.all false
namespace Go.DL
open Go
section
variable (P:Program)(ro:Option Nat)(n:Nat)(ops:Array Oper)(N:Nat)(Q:DX->St->Prop)(df:List DDf)
def MOps4 (E C K:List Nat):List Nat->Sig->Fr->Sig->Prop
  |[],_,O,V=>DOps P ro n ops Q [] ⟨O,V,df⟩
  | i::r,S0,O,V => ∃ o,ops[i]? = some o /\
    ((∃ d,Calm P n ops N (if C.contains i=true then S0 else fun _=>none) O o d/\MOps4 E C K r S0 (putD o.dst d O) V) \/
     (E.contains i=true/\Eff P ro n ops df O V o (fun d S' => ∃S1,Sub S1 S'/\(K.contains i=false->S1=S0)/\MOps4 E C K r S1 (putD o.dst d O) S') (fun d S' => ∀U',Q (.panic d) ⟨U',S',df⟩)))
def MO4:List (Bool × Bool × Bool × Oper)->Sig->Fr->Sig->Prop
  |[],_,O,V=>DOps P ro n ops Q [] ⟨O,V,df⟩
  | (e,c,k,o)::r,S0,O,V =>
    (∃ d,Calm P n ops N (if c=true then S0 else fun _=>none) O o d/\MO4 r S0 (putD o.dst d O) V) \/
     (e=true/\Eff P ro n ops df O V o (fun d S' => ∃S1,Sub S1 S'/\(k=false->S1=S0)/\MO4 r S1 (putD o.dst d O) S') (fun d S' => ∀U',Q (.panic d) ⟨U',S',df⟩))
end
section
variable {P:Program}{ro:Option Nat}{n:Nat}{ops:Array Oper}{N:Nat}{S0:Sig}{Q:DX->St->Prop}{df:List DDf}{E C K:List Nat}{tab:Nat->Ty}
theorem MOps4.alike: ∀(l:List Nat) {S0:Sig} {O U':Fr} {V:Sig},Alike O U'->MOps4 P ro n ops N Q df E C K l S0 O V->MOps4 P ro n ops N Q df E C K l S0 U' V
 |[],_,_,_,_,h,k=>CP h k
 |i::r,_,_,_,_,h,⟨o,ho,k⟩=>⟨o,ho,(match k with
  |.inl ⟨d,h2,h3⟩ => .inl ⟨d,h2.congr fun t _=>h t,MOps4.alike r (h.put _ _) h3⟩
  |.inr ⟨h1,h2⟩ => .inr ⟨h1,h2.congr (fun t _=>h t) fun d S' ⟨S1,h3,h5,h4⟩=>⟨S1,h3,h5,MOps4.alike r (h.put _ _) h4⟩⟩)⟩
theorem Calm.base{S0 S1:Sig}{O:Fr}{o:Oper}{d:D}(h:Calm P n ops N S0 O o d)(hs:Sub S0 S1):Calm P n ops N S1 O o d :=
 ⟨h.ok,by
  rcases h.run with⟨a,b,c,e⟩|h|⟨a,e⟩
  ·exact .inl ⟨a,b,c,fun V hZ=>e V (hs.trans hZ)⟩
  ·exact .inr (.inl h)
  ·exact .inr (.inr ⟨a,fun V hZ=>e V (hs.trans hZ)⟩)⟩
theorem J5{i:Nat}{oi:Oper}(hi:ops[i]? = some oi)(post:List Nat): ∀(pre:List Nat) (O:Fr) (V:Sig),
  (∀x∈pre,E.contains x=false/\(K.contains i&&C.contains x)=false /\ ∃ox,ops[x]? = some ox/\oi.apart ops ox=true)->MOps4 P ro n ops N Q df E C K (pre++i::post) S0 O V->MOps4 P ro n ops N Q df E C K (i::(pre++post)) S0 O V
 |[],_,_,_,h=>h
 | x::pre,O,V,hp,h=>by
  obtain⟨hxE,hxK,ox,hox,hap⟩:=hp x (by simp)
  obtain⟨a1,a2,a3⟩:=Oper.apart_spec hap
  obtain⟨ox',hox',hx⟩:=h
  obtain rfl:ox'=ox:=by rw[hox]at hox';cases hox';rfl
  rcases hx with⟨d,hy,h⟩|⟨hE,_⟩
  ·obtain⟨oi',hoi',hh⟩:=J5 hi post pre _ V (fun y hy=>hp y (by simp[hy])) h
   obtain rfl:oi'=oi:=by rw[hi]at hoi';cases hoi';rfl
   refine⟨oi',hi,?_⟩
   rcases hh with⟨e,h2,h3⟩|⟨h1,h2⟩
   ·refine .inl ⟨e,h2.congr fun t ht=>AI fun hd=>a3 t hd ht,ox',hox,.inl ⟨d,hy.congr fun t ht=>(AI fun hd=>a1 t hd ht).symm,?_⟩⟩
    exact MOps4.alike _ (BD _ _ _ fun t p q=>a2 t p q) h3
   ·refine .inr ⟨h1,h2.congr (fun t ht=>AI fun hd=>a3 t hd ht) fun e S' ⟨S1,h3,h5,h4⟩=>⟨S1,h3,h5,ox',hox,.inl ⟨d,?_,MOps4.alike _ (BD _ _ _ fun t p q=>a2 t p q) h4⟩⟩⟩
    have hy2:=hy.congr (U':=putD oi'.dst e O) fun t ht=>(AI fun hd=>a1 t hd ht).symm
    cases hk:K.contains i with
    |false=>rw[h5 hk];exact hy2
    |true =>
     rw[hk,Bool.true_and]at hxK
     rw[hxK]at hy2⊢
     exact hy2
  ·rw[hxE]at hE;cases hE
def K1(ops:Array Oper)(E C K:List Nat):List Nat->List Nat->Bool
 |_,[]=>true
 | done,i::r => !done.contains i && (match ops[i]? with
  |some o=>(o.after.all fun e => !Region.binds .any e||done.contains e.on)&&done.all fun x=>(!E.contains x&&!(K.contains i&&C.contains x)&&match ops[x]? with
   |some ox=>o.apart ops ox
   |none=>false)||Ex ops ops.size i x
  |none=>false)&&K1 ops E C K (i::done) r
theorem He{i:Nat}{l2:List Nat}: ∀(l1 done:List Nat),K1 ops E C K done (l1++i::l2)=true->i∉l1/\i∉done/\i∉l2 /\ ∃o,ops[i]? = some o/\(∀e∈o.after,Region.binds .any e=true->e.on∈l1\/e.on∈done) /\
   ∀x,x∈l1->Ex ops ops.size i x=true\/(E.contains x=false/\(K.contains i&&C.contains x)=false /\ ∃ox,ops[x]? = some ox/\o.apart ops ox=true)
 | [],done,h=>by
  simp only[List.nil_append,K1,Bool.and_eq_true,Bool.not_eq_true',List.contains_eq_mem,decide_eq_false_iff_not]at h
  obtain⟨⟨h1,h2⟩,h3⟩:=h
  have later:∀(l d:List Nat),i∈d->K1 ops E C K d l=true->i∉l:=by
   intro l
   induction l with
   |nil=>intro _ _ _ h;cases h
   |cons y l ih =>
    intro d hd hm hmem
    simp only[K1,Bool.and_eq_true,Bool.not_eq_true',List.contains_eq_mem,decide_eq_false_iff_not]at hm
    obtain⟨⟨m1,_⟩,m3⟩:=hm
    rcases List.mem_cons.1 hmem with rfl|hmem
    ·exact m1 hd
    ·exact ih (y::d) (by simp[hd]) m3 hmem
  refine⟨by simp,h1,later l2 _ (by simp) h3,?_⟩
  split at h2
  ·rename_i o ho
   simp only[Bool.and_eq_true]at h2
   refine⟨o,ho,fun e he hb =>?_,fun x hx=>by cases hx⟩
   have:=Array.all_eq_true_iff_forall_mem.1 h2.1 e he
   simp only[hb,Bool.not_true,Bool.false_or,List.contains_eq_mem,decide_eq_true_eq]at this
   exact .inr this
  ·cases h2
 | y::l1,done,h=>by
  simp only[List.cons_append,K1,Bool.and_eq_true]at h
  obtain⟨h1,h2,h3,o,ho,he,hx⟩:=He l1 (y::done) h.2
  have hiy:i≠y:=fun e=>h2 (by simp[e])
  refine⟨by simp[hiy,h1],fun hd=>h2 (by simp[hd]),h3,o,ho,fun e hm hb =>?_,?_⟩
  ·rcases he e hm hb with h4|h4
   ·exact .inl (by simp[h4])
   ·rcases List.mem_cons.1 h4 with h5|h5
    ·exact .inl (by simp[h5])
    ·exact .inr h5
  ·intro x hmem
   rcases List.mem_cons.1 hmem with rfl|hmem
   ·
    have back:∀(l d:List Nat),x∈d->K1 ops E C K d (l++i::l2)=true->Ex ops ops.size i x=true\/(E.contains x=false/\(K.contains i&&C.contains x)=false /\ ∃ox,ops[x]? = some ox/\o.apart ops ox=true):=by
     intro l
     induction l with
     | nil =>
      intro d hd hm
      simp only[List.nil_append,K1,Bool.and_eq_true,ho]at hm
      have:=List.all_eq_true.1 hm.1.2.2 x hd
      simp only[Bool.or_eq_true,Bool.and_eq_true,Bool.not_eq_true']at this
      rcases this.symm with h4|⟨⟨h4,h6⟩,h5⟩
      ·exact .inl h4
      ·refine .inr ⟨h4,h6,?_⟩
       split at h5
       ·rename_i ox hox;exact⟨ox,hox,h5⟩
       ·cases h5
     |cons z l ih =>
      intro d hd hm
      simp only[List.cons_append,K1,Bool.and_eq_true]at hm
      exact ih (z::d) (by simp[hd]) hm.2
    exact back l1 _ (by simp) h.2
   ·exact hx x hmem
def HK(ops:Array Oper)(E C K ord:List Nat):Bool:=K1 ops E C K [] ord&&(List.range ops.size).all ord.contains&&ord.length==ops.size
theorem Sn(hN:P.funcs.size=N){ord:List Nat}(hB:HK ops E C K ord=true){g0:G}{rr:Option Nat}(hr:RoRep g0 ro rr): ∀(m:Nat) (r:List Nat) (listed:Array Bool) (S0:Sig) (O:Fr) (V:Sig),r.length=m->listed.size=ops.size->
  r=ord.filter (fun i => !listed.getD i true)->Closed ops listed->MOps4 P ro n ops N Q df E C K r S0 O V->Sub S0 V->
   ∀(g:G) (w:World) (a:Act),g0.le g->SimS P g n ⟨O,V,df⟩ a w->wpAnyIn (FX P rr) 0 P .any ops (Post P g0 n Q) m listed a w:=by
 unfold HK at hB
 simp only[Bool.and_eq_true]at hB
 obtain⟨⟨hmix,hall⟩,_⟩:=hB
 have hmem:∀(r:List Nat) (listed:Array Bool),r=ord.filter (fun i => !listed.getD i true)->∀i∈Region.ready .any ops listed,i∈r:=by
  intro r listed hf i hi
  obtain⟨h1,o,ho,_⟩:=mem_ready.1 hi
  have:=List.all_eq_true.1 hall i (by simpa using(Array.getElem?_eq_some_iff.1 ho).1)
  rw[hf,List.mem_filter]
  exact⟨by simpa using this,by rw[h1];rfl⟩
 intro m
 induction m with
 |zero =>
  intro r listed S0 O V hl hsz hf hcl h hC g w a hg hs
  obtain rfl:r=[]:=List.length_eq_zero_iff.1 hl
  refine⟨List.eq_nil_iff_forall_not_mem.2 fun i hi =>?_,?_⟩
  ·have:=hmem [] listed hf i hi;cases this
  ·exact Post.le hg (h g w a rr (hr.mono hg) hs)
 | succ m ih =>
  intro r listed S0 O V hl hsz hf hcl h hC g w a hg hs
  obtain⟨y,t,rfl⟩:∃y t,r=y::t:=by cases r with|nil=>cases hl|cons y t=>exact⟨y,t,rfl⟩
  refine⟨fun he =>?_,fun i hi =>?_⟩
  ·exfalso
   obtain⟨l1,l2,hord,hl1,hy,hl2⟩:=List.filter_eq_cons_iff.1 hf.symm
   subst hord
   obtain⟨h1,_,_,o,ho,hea,_⟩:=He l1 [] hmix
   have:y∈Region.ready .any ops listed:=by
    refine mem_ready.2 ⟨by simpa using hy,o,ho,fun e hm hb =>?_⟩
    rcases hea e hm hb with h4|h4
    ·have h5:=hl1 _ h4
     simp only[Bool.not_eq_true,Bool.not_eq_false']at h5
     have hlt:e.on<listed.size:=by
      have:e.on∈l1++y::l2:=by simp[h4]
      obtain⟨p1,p2,hp⟩:=List.append_of_mem this
      rw[hp]at hmix
      obtain⟨_,_,_,o',ho',_⟩:=He p1 [] hmix
      rw[hsz];exact(Array.getElem?_eq_some_iff.1 ho').1
     simpa[hlt] using h5
    ·cases h4
   rw[he]at this;cases this
  ·obtain⟨pre,post,hsplit⟩:=List.append_of_mem (hmem _ listed hf i hi)
   rw[hsplit]at hf h hl
   obtain⟨l1',l2',hord,hf1,hf2⟩:=List.filter_eq_append_iff.1 hf.symm
   obtain⟨m1,m2,hl2',hm1,hiu,hf3⟩:=List.filter_eq_cons_iff.1 hf2
   have hord':ord=(l1'++m1)++i::m2:=by rw[hord,hl2'];simp
   rw[hord']at hmix
   obtain⟨n1,_,n3,o,ho,hea,hx⟩:=He (l1'++m1) [] hmix
   obtain⟨hiun,o',ho',hdone⟩:=mem_ready.1 hi
   obtain rfl:o'=o:=by rw[ho]at ho';cases ho';rfl
   have hfront:=J5 ho post pre O V (fun x hxp=>by
    have hx1:x∈l1'++m1:=by
     have:x∈l1'.filter (fun i => !listed.getD i true):=by rw[hf1];exact hxp
     simp[(List.mem_filter.1 this).1]
    have hxu:listed.getD x true=false:=by
     have:x∈l1'.filter (fun i => !listed.getD i true):=by rw[hf1];exact hxp
     simpa using(List.mem_filter.1 this).2
    rcases hx x hx1 with h4|h4
    ·exfalso
     have:=Cw hcl ops.size i x o' ho hdone h4
     rcases Nat.lt_or_ge x listed.size with hlt|hlt
     ·simp[hlt]at this hxu;rw[hxu]at this;cases this
     ·simp[Array.getElem?_eq_none hlt]at this
    ·exact h4) h
   have hnext:pre++post=ord.filter (fun j => !(listed.setIfInBounds i true).getD j true):=by
    have hil:i<listed.size:=by
     rw[hsz];exact(Array.getElem?_eq_some_iff.1 ho).1
    rw[hord',List.filter_append,List.filter_cons]
    have e1:(listed.setIfInBounds i true).getD i true=true:=by simp[hil]
    rw[e1,Aw n1,Aw n3]
    simp only[Bool.not_true,Bool.false_eq_true,if_false,List.filter_append,hf1,hf3]
    rw[List.filter_eq_nil_iff.2 (fun x hx=>by simpa using hm1 x hx),List.append_nil]
   have hlen:(pre++post).length=m:=by simp at hl⊢; omega
   obtain⟨o2,ho2,hh⟩:=hfront
   obtain rfl:o2=o':=by rw[ho]at ho2;cases ho2;rfl
   unfold wpOpIn
   simp only[ho]
   rcases hh with⟨d,hy,hM⟩|⟨_,hE⟩
   ·have hy0:Calm P n ops N S0 O o2 d:=hy.base (by split;exact Sub.refl _;exact fun _ _ h=>by cases h)
    exact EK hN (hr.mono hg) hg hs hC hy0 fun g' w' a' hg' hs'=>ih _ _ _ _ _ hlen (by simpa using hsz) hnext (hcl.set hi) hM hC g' w' a' (hg.trans hg') hs'
   ·exact D2 (hr.mono hg) hg hs hE (fun g' w' a' d S' hg' hR hs'=>by obtain⟨S1,h3,_,h4⟩:=hR;exact ih _ _ _ _ _ hlen (by simpa using hsz) hnext (hcl.set hi) h4 h3 g' w' a' (hg.trans hg') hs') fun d S' hp=>hp
def RW(ops:List Oper)(E C K:List Nat):List Nat->Option (List (Bool×Bool×Bool×Oper))
 |[]=>some []
 | i::r=>match nthO ops i with
  |some o=>match RW ops E C K r with
   |some l=>some ((E.contains i,C.contains i,K.contains i,o)::l)
   |none=>none
  |none=>none
theorem FA{lo:List Oper}: ∀{ord:List Nat} {lp:List (Bool×Bool×Bool×Oper)} {S0:Sig} {O:Fr} {V:Sig},RW lo E C K ord=some lp->MO4 P ro n lo.toArray N Q df lp S0 O V->MOps4 P ro n lo.toArray N Q df E C K ord S0 O V
 |[],_,_,_,_,hp,h=>by cases hp;exact h
 |i::r,lp,S0,O,V,hp,h=>by
  simp only[RW]at hp
  split at hp<;>(try (cases hp;done))
  rename_i o ho
  split at hp<;>(try (cases hp;done))
  rename_i l hl
  cases hp
  refine⟨o,by rw[J1]at ho;simpa using ho,?_⟩
  rcases h with⟨d,h2,h3⟩|⟨h1,h2⟩
  ·exact .inl ⟨d,h2,FA hl h3⟩
  ·exact .inr ⟨h1,h2.congr (fun _ _=>rfl) fun d S' ⟨S1,h3,h5,h4⟩=>⟨S1,h3,h5,FA hl h4⟩⟩
theorem Wp(hN:P.funcs.size=N)(hm:P.follows .mixedOrders=true){l:List Oper}{id:Nat}{O:Fr}{V:Sig}(ord E C K:List Nat)(S0:Sig)(hB:HK l.toArray E C K ord=true)(hC:Sub S0 V)
  {lp:List (Bool×Bool×Bool×Oper)} (hlp:RW l E C K ord=some lp) (h0:MO4 P ro n l.toArray N Q df lp S0 O V):DWp P ro n (.region id l.toArray true) Q ⟨O,V,df⟩:=by
 intro g w a r hr hs
 refine wpIn_region_any hm ?_
 have hcl:Closed l.toArray (Array.replicate l.toArray.size false):=by
  intro q o _ hq
  rcases Nat.lt_or_ge q l.length with h'|h'
  ·simp[h']at hq
  ·simp[h']at hq
 have hs':SimS P g n ⟨O,V,df⟩ a { w with drawn:=w.drawn+1 } :=
  ⟨⟨fun b o v h=>hs.sim.imm b o v h,hs.sim.keep,fun i o h=>by
   have:=hs.sim.obj i o h
   cases o<;>exact this,hs.sim.inj,hs.sim.free,hs.sim.htop,hs.sim.hdom,hs.sim.fin,hs.sim.io⟩,hs.tmps,hs.df⟩
 have hlt:∀i∈ord,i<l.toArray.size:=by
  intro i hi
  obtain⟨p1,p2,hp⟩:=List.append_of_mem hi
  have hB':=hB
  unfold HK at hB'
  simp only[Bool.and_eq_true]at hB'
  rw[hp]at hB'
  obtain⟨_,_,_,o',ho',_⟩:=He p1 [] hB'.1.1
  exact(Array.getElem?_eq_some_iff.1 ho').1
 have hlen:ord.length=l.toArray.size:=by
  have hB':=hB
  unfold HK at hB'
  simp only[Bool.and_eq_true,beq_iff_eq]at hB'
  exact hB'.2
 have:=Sn hN hB hr ord.length ord (Array.replicate l.toArray.size false) S0 O V rfl (by simp) (Di hlt).symm hcl (FA hlp h0) hC g _ a (.refl g) hs'
 rw[hlen]at this
 exact this
theorem Vy(ht:Ba P tab){e c k:Bool}{t:Nat}{op:Op}{ty:TypeId}{pos:String}{after:Array Edge}{d:D}{l:List (Bool×Bool×Bool×Oper)}{O Sr:Fr}{V:Sig}(hr:E4 op=true)(htn:decide (t<n)=true)(hl:A5 O (A9 op.operands.toList)=some Sr)(hd:dopX tab Sr (if c=true then S0 else fun _=>none) op=some d)
  (h:MO4 P ro n ops N Q df l S0 ((t,d)::O) V):MO4 P ro n ops N Q df ((e,c,k,⟨some t,op,ty,pos,after,none⟩)::l) S0 O V:=by
 have hd':=(Be (C3 hl)) ▸ hd
 refine .inl ⟨d,⟨htn,.inl ⟨by rw[B5];rfl,CF hr,JY ht hd',fun S' hZ g w a hs hT =>?_⟩⟩,h⟩
 refine FT ht hs hT (?_:dopX tab (only _ O) S' op=some d)
 rw[Be (U':=O) fun x hx=>Cd (o:=⟨some t,op,ty,pos,after,none⟩) hx]
 exact Hu hZ hd'
theorem Sw(ht:Ba P tab){c k:Bool}{o:Oper}{d:D}{S':Sig}{l:List (Bool×Bool×Bool×Oper)}{O:Fr}{V:Sig}(S1:Sig)(ho:At n o=true)(hw:AJ ops O o=some true)(he:eopD tab O V o.op=some (d,S'))(hC:Sub S1 S')(hk:k=false->S1=S0)
  (h:MO4 P ro n ops N Q df l S1 (putD o.dst d O) S'):MO4 P ro n ops N Q df ((true,c,k,o)::l) S0 O V:=by
 refine .inr ⟨rfl,ho,by rw[B5];exact hw,?_⟩
 refine F6 ht (by rw[B5];exact hw) (by rw[Bt (U':=O) fun x hx=>Cd hx];exact he) ho (AL ⟨rfl,?_⟩)
 cases hd:o.dst with
 |none=>rw[hd]at h;exact⟨S1,hC,hk,h⟩
 |some t =>
  rw[hd]at h
  simp only[putD,Aa,if_true]
  exact⟨S1,hC,hk,h⟩
end
theorem find_born{es:Array MapEntry}(hnd:(es.toList.map (·.born)).Nodup){j:Nat}{e:MapEntry}(hj:es[j]? = some e):es.findIdx? (fun x=>(x.born:Int)==(e.born:Int))=some j:=by
 rw[Array.findIdx?_eq_some_iff_getElem]
 obtain⟨hl,rfl⟩:=Array.getElem?_eq_some_iff.1 hj
 refine⟨hl,by simp,fun k hk =>?_⟩
 simp only[Bool.not_eq_true,beq_eq_false_iff_ne,ne_eq]
 intro he
 have he:es[k].born=es[j].born:=by omega
 have:=(List.pairwise_iff_getElem.1 hnd) k j (by simp;omega) (by simp;omega) hk
 simp at this
 exact this he
theorem Ot(es:Array MapEntry)(j:Nat)(f:MapEntry->MapEntry)(hf:∀e,(f e).born=e.born):(es.modify j f).toList.map (·.born)=es.toList.map (·.born):=by
 apply List.ext_getElem?; intro k
 simp only[List.getElem?_map,Array.getElem?_toList,Array.getElem?_modify]
 by_cases hk:j=k
 ·subst hk;rw[if_pos rfl];cases es[j]? with
  |none=>rfl
  |some e=>simp[hf]
 ·rw[if_neg hk]
theorem Qt(es:Array MapEntry)(j:Nat)(f h:MapEntry->MapEntry):(es.modify j f).modify j h=es.modify j fun e=>h (f e):=by
 apply Array.ext_getElem?; intro k
 simp only[Array.getElem?_modify]
 by_cases hk:j=k
 ·subst hk;simp[Option.map_map];rfl
 ·simp[hk]
theorem On(es:Array MapEntry)(e:MapEntry)(f:MapEntry->MapEntry):(es.push e).modify es.size f=es.push (f e):=by
 apply Array.ext_getElem?; intro k
 simp only[Array.getElem?_modify,Array.getElem?_push]
 by_cases hk:es.size=k
 ·subst hk;simp
 ·have:¬k=es.size:=fun h=>hk h.symm
  simp[hk,this]
theorem IU{P:Program}{w:World}{r clock clock' clock'':Nat}{es es' es'':Array MapEntry}(h:w.heap[r]? = some (.map es clock)):(setObj r (.map es'' clock'')).run P (setB w r (.map es' clock'))=.ok () (setB w r (.map es'' clock'')):=by
 have h2:(setB w r (.map es' clock')).heap[r]? = some (.map es' clock'):=De h
 have h3:=Mz w r (.map es' clock') (.map es'' clock'')
 rw[<-h3]
 simp only[setObj,Sem.run,h2];rfl
section
variable {P:Program}{tab:Nat->Ty}(ht:Ba P tab){g:G}{V:Sig}{w:World}(hs:Sim P g V w)
include ht hs
theorem Rd{t kt et id:Nat}{x k d zd:D}{l l':List (D×D)}{m u v:Value}(hkt:(tab t).k=.map kt et)(hoth:A6 (tab et).k=false)(hz:GO (tab et)=some zd)(hk:Bi (tab kt).k k=true)(hm:x=.map id)(hZ:V id=some (.map l))(hp:Cn (tab kt).k k d l=some l')
  (h1:Rep g x m) (h2:Rep g k u) (h3:Rep g d v):∃w1 v0 s w2,(Instr.mapEntry t m u).run P w=.ok (.tuple #[v0,goInt s]) w1/\(Instr.entryStore t m (goInt s) v).run P w1=.ok () w2/\Sim P g (V.set id (.map l')) w2:=by
 subst hm
 obtain⟨b',hb',rfl⟩:=h1
 obtain⟨b,es,clock,hb,hh,hr,hst⟩:=hs.obj _ _ hZ
 rw[hb']at hb;cases hb
 obtain⟨desc,hd1,hd2,hck⟩:=KA (t:=t) (et:=et) ht hs hk h2 false
 have hu:=Gu ht hkt
 unfold Cn at hp
 split at hp<;>(try (cases hp;done))
 ·rename_i j dd hf
  cases hp
  obtain⟨r',e1,e2⟩:=Ea (g:=g) hd2 h2 hr hf
  cases r' with
  |none=>exact e2.elim
  | some q =>
   obtain⟨j',y⟩:=q
   obtain⟨rfl,e2,_,e,a1,a2,a3⟩:=e2
   rw[Nat.sub_zero]at a1
   have a1':es[j]? = some e:=by simpa using a1
   refine⟨setB w b' (.map (es.modify j fun e=>{ e with key:=u }) clock),y,e.born,setB w b' (.map (es.modify j fun e=>{ e with key:=u,val:=v }) clock),?_,?_,?_⟩
   ·simp only[Instr.mapEntry,Sem.run_bind,A2 hu,Result.andThen_ok,C9 hh,hck,Instr.findKey,A2 hd1,e1,Sem.run_pure,a1',Option.map_some,Option.getD_some,Instr.keyThatStays,IT hk a2 h2,if_true,FY ht hs hh]
   ·have hg:(getObj b').run P (setB w b' (.map (es.modify j fun e=>{ e with key:=u }) clock))=.ok (.map (es.modify j fun e=>{ e with key:=u }) clock) (setB w b' (.map (es.modify j fun e=>{ e with key:=u }) clock)):=C9 (De hh)
    have hfi:=find_born (es:=es.modify j fun e=>{ e with key:=u }) (e:={ e with key:=u }) (by rw[Ot es j (fun e=>{ e with key:=u }) fun _=>rfl];exact hst.1) (j:=j) (by rw[Array.getElem?_modify,if_pos rfl,a1'];rfl)
    simp only at hfi
    simp only[Instr.entryStore,Sem.run_bind,hg,Result.andThen_ok,asInt,asIntOf,goInt,Sem.run_pure,hfi,Qt,IU hh]
   ·refine hs.setAny hZ rfl rfl hb' hh ⟨b',_,clock,hb',De hh,?_,hst.modify j⟩
    simpa using RepM.set h2 h3 j hr
 ·rename_i hf
  cases hp
  obtain⟨r',e1,e2⟩:=Ea (g:=g) hd2 h2 hr hf
  cases r' with
  |some q=>exact e2.elim
  | none =>
   obtain⟨z,z1,z2⟩:=In ht hoth hz w
   refine⟨setB w b' (.map (es.push { key:=u,val:=z,born:=clock }) (clock+1)),z,clock,setB w b' (.map (es.push { key:=u,val:=v,born:=clock }) (clock+1)),?_,?_,?_⟩
   ·simp only[Instr.mapEntry,Sem.run_bind,A2 hu,Result.andThen_ok,C9 hh,hck,Instr.findKey,A2 hd1,e1,Sem.run_pure,z1,FY ht hs hh]
   ·have hg:(getObj b').run P (setB w b' (.map (es.push { key:=u,val:=z,born:=clock }) (clock+1)))=.ok (.map (es.push { key:=u,val:=z,born:=clock }) (clock+1)) (setB w b' (.map (es.push { key:=u,val:=z,born:=clock }) (clock+1))):=C9 (De hh)
    have hfi:=find_born (es:=es.push { key:=u,val:=z,born:=clock }) (e:={ key:=u,val:=z,born:=clock }) (hst.push).1 (j:=es.size) (by simp)
    simp only at hfi
    simp only[Instr.entryStore,Sem.run_bind,hg,Result.andThen_ok,asInt,asIntOf,goInt,Sem.run_pure,hfi,On,IU hh]
   ·refine hs.setAny hZ rfl rfl hb' hh ⟨b',_,clock+1,hb',De hh,?_,hst.push⟩
    simpa using RepM.push (e:={ key:=u,val:=v,born:=clock }) h2 h3 hr
end
section
variable {P:Program}{ro:Option Nat}{n:Nat}{ops:Array Oper}{Q:DX->St->Prop}{rest:List Oper}{tab:Nat->Ty}{O:List (Nat×D)}{V:Sig}{df:List DDf}
theorem OL(ht:Ba P tab){t1 t2 T kt et id:Nat}{x k v:Operand}{ty1 ty2 ty3:TypeId}{p1 p2 p3:String}{f1 f2 f3:Array Edge}{zd:D}{l l':List (D×D)}(hkt:(tab T).k=.map kt et)(hoth:A6 (tab et).k=false)(hz:GO (tab et)=some zd)
  (hk:Bi (tab kt).k (ev O k)=true) (hm:ev O x=.map id) (hZ:V id=some (.map l)) (hp:Cn (tab kt).k (ev O k) (ev O v) l=some l') (ht1:t1<n) (ht2:t2<n) (hx1:x≠.tmp t1) (hx2:x≠.tmp t2) (hv1:v≠.tmp t1) (hv2:v≠.tmp t2)
  (h:DOps P ro n ops Q rest ⟨(t2,.any)::(t1,.any)::O,V.set id (.map l'),df⟩) :
  DOps P ro n ops Q (⟨some t1,.mapEntry T x k,ty1,p1,f1,none⟩::⟨some t2,.extract (.tmp t1) 1,ty2,p2,f2,none⟩::⟨none,.entryStore T x (.tmp t2) v,ty3,p3,f3,none⟩::rest) ⟨O,V,df⟩:=by
 intro g w a r hrr hs
 have E:=fun y=>As hs.tmps y
 obtain⟨w1,v0,s,w2,h1,h2,h3⟩:=Rd ht hs.sim hkt hoth hz hk hm hZ hp (E x) (E k) (E v)
 have hsz:=hs.tmps.1
 have e1:((a.put (some t1) (.tuple #[v0,goInt s])).eval (.tmp t1))=.tuple #[v0,goInt s]:=by
  have:t1<a.tmps.size:=by rw[hsz];exact ht1
  simp[Act.put,Act.eval,this]
 have e2:(((a.put (some t1) (.tuple #[v0,goInt s])).put (some t2) (goInt s)).eval (.tmp t2))=goInt s:=by
  have:t2<a.tmps.size:=by rw[hsz];exact ht2
  simp[Act.put,Act.eval,this]
 have e3:∀y,y≠.tmp t1->y≠.tmp t2->((a.put (some t1) (.tuple #[v0,goInt s])).put (some t2) (goInt s)).eval y=a.eval y:=fun y hy1 hy2=>by
  rw[Act.eval_put fun d hd=>by cases hd;exact hy2,Act.eval_put fun d hd=>by cases hd;exact hy1]
 have hS:SimS P g n ⟨(t2,.any)::(t1,.any)::O,V.set id (.map l'),df⟩ ((a.put (some t1) (.tuple #[v0,goInt s])).put (some t2) (goInt s)) w2:=by
  refine⟨h3,?_,?_⟩
  ·exact(hs.tmps.put (o:=⟨some t1,.mapEntry T x k,ty1,p1,f1,none⟩) (d := .any) trivial (by simpa[At] using ht1)).put (o:=⟨some t2,.extract (.tmp t1) 1,ty2,p2,f2,none⟩) (d := .any) trivial (by simpa[At] using ht2)
  ·rw[Act.put_df,Act.put_df];exact hs.df
 have:=h g w2 _ r hrr hS
 have hw:∀dst op ty pos af y,Region.wanted ⟨dst,op,ty,pos,af,none⟩ y=true:=fun _ _ _ _ _ _=>rfl
 unfold wpListIn
 rw[hw,if_pos rfl]
 refine⟨fun f hf=>(Af (fun c e=>by cases e) _ _ f hf).elim,?_⟩
 rw[Oper.semAt_eq _ _ _ (fun c e=>by cases e)]
 simp only[execOp,Sem.run_bind,h1,Result.andThen_ok]
 simp only[Sem.run_pure,Oper.uponIn_value]
 unfold wpListIn
 rw[hw,if_pos rfl]
 refine⟨fun f hf=>(Af (fun c e=>by cases e) _ _ f hf).elim,?_⟩
 rw[Oper.semAt_eq _ _ _ (fun c e=>by cases e)]
 simp only[execOp,e1,Instr.extract,List.size_toArray,List.length_cons,List.getElem?_toArray,List.getElem?_cons_succ,List.getElem?_cons_zero,Sem.run_bind,Sem.run_pure,Result.andThen_ok,Oper.uponIn_value]
 unfold wpListIn
 rw[hw,if_pos rfl]
 refine⟨fun f hf=>(Af (fun c e=>by cases e) _ _ f hf).elim,?_⟩
 rw[Oper.semAt_eq _ _ _ (fun c e=>by cases e)]
 simp only[execOp,e2,e3 x hx1 hx2,e3 v hv1 hv2,Sem.run_bind,h2,Result.andThen_ok,Sem.run_pure]
 exact this
end
section
variable {P:Program}{ro:Option Nat}{n:Nat}{ops:Array Oper}{N:Nat}{S0:Sig}{Q:DX->St->Prop}{df:List DDf}{E:List Nat}
def Chain(ops:Array Oper)(k:Nat):Prop := ∀i,k<=i->∀o,ops[i]? = some o->(∀e∈o.after,Region.binds .any e=true->e.on<i)/\(k<i->∃e∈o.after,Region.binds .any e=true/\e.on=i-1)
theorem OR{F:Fence}{R:Exit->Act->World->Prop}{k:Nat}(hch:Chain ops k): ∀(m q:Nat) (listed:Array Bool) (a:Act) (w:World),q+m=ops.size->k<=q->listed.size=ops.size->(∀i,i<q->listed.getD i true=true)->(∀i,q<=i->i<ops.size->listed.getD i true=false)->
  wpListIn F 0 P ops R (ops.toList.drop q) a w->wpAnyIn F 0 P .any ops R m listed a w:=by
 intro m
 induction m with
 |zero =>
  intro q listed a w hq hk hsz h1 h2 h
  rw[List.drop_of_length_le (by simp;omega)]at h
  refine⟨List.eq_nil_iff_forall_not_mem.2 fun i hi =>?_,h⟩
  obtain⟨h3,o,ho,_⟩:=mem_ready.1 hi
  have:=(Array.getElem?_eq_some_iff.1 ho).1
  rw[h1 i (by omega)]at h3;cases h3
 | succ m ih =>
  intro q listed a w hq hk hsz h1 h2 h
  have hql:q<ops.size:=by omega
  have ho:ops[q]? = some ops[q]:=Array.getElem?_eq_getElem hql
  have hd:ops.toList.drop q=ops[q]::ops.toList.drop (q+1):=by rw[List.drop_eq_getElem_cons (by simpa using hql)];simp
  rw[hd]at h
  have hin:∀j,j<q->∀(b:Bool),listed.getD j b=true:=fun j hj b=>by
   have:=h1 j hj
   have hl:j<listed.size:=by omega
   simpa[hl] using this
  refine⟨fun he =>?_,fun i hi =>?_⟩
  ·exfalso
   have:q∈Region.ready .any ops listed:=mem_ready.2 ⟨h2 q (Nat.le_refl _) hql,_,ho,fun e hm hb=>hin _ ((hch q hk _ ho).1 e hm hb) _⟩
   rw[he]at this;cases this
  ·obtain⟨h3,o,hoi,hdone⟩:=mem_ready.1 hi
   have hil:=(Array.getElem?_eq_some_iff.1 hoi).1
   have hiq:i=q:=by
    rcases Nat.lt_trichotomy i q with hlt|heq|hgt
    ·rw[h1 i hlt]at h3;cases h3
    ·exact heq
    ·exfalso
     obtain⟨e,hm,hb,hon⟩:=(hch i (by omega) o hoi).2 (by omega)
     have h4:=hdone e hm hb
     have h5:=h2 (i-1) (by omega) (by omega)
     rw[hon]at h4
     have hl:i-1<listed.size:=by omega
     simp[hl]at h4 h5
     rw[h5]at h4;cases h4
   subst hiq
   have hset1:∀j,j<i+1->(listed.setIfInBounds i true).getD j true=true:=fun j hj=>by
    by_cases hji:j=i
    ·subst hji
     have:j<listed.size:=by omega
     simp[this]
    ·rw[getD_set_ne true (fun e=>hji e.symm)];exact h1 j (by omega)
   have hset2:∀j,i+1<=j->j<ops.size->(listed.setIfInBounds i true).getD j true=false:=fun j hj hjs=>by
    rw[getD_set_ne true (show i≠j by omega)];exact h2 j (by omega) hjs
   have step:∀a w,wpListIn F 0 P ops R (ops.toList.drop (i+1)) a w->wpAnyIn F 0 P .any ops R m (listed.setIfInBounds i true) a w:=fun a w h=>ih (i+1) _ a w (by omega) (by omega) (by simpa using hsz) hset1 hset2 h
   unfold wpListIn at h
   unfold wpOpIn
   rw[ho]
   simp only
   split
   ·rename_i hw
    rw[if_pos hw]at h
    exact Oper.wpIn_mono step h
   ·rename_i hw
    rw[if_neg hw]at h
    exact⟨h.1,step _ _ h.2⟩
theorem Sj(hN:P.funcs.size=N){ord:List Nat}{k:Nat}(hops:k<ops.size)(hch:Chain ops k)(hmix:mixB ops E [] ord=true)(hall:∀i,i<k->i∈ord)(hlt:∀i∈ord,i<k)
  (hw1:∀i,i<k->Ex ops ops.size k i=true) {g0:G} {rr:Option Nat} (hr:RoRep g0 ro rr) :
  ∀(m:Nat) (r:List Nat) (listed:Array Bool) (O:Fr) (V:Sig),r.length=m->listed.size=ops.size->r=ord.filter (fun i => !listed.getD i true)->(∀i,k<=i->i<ops.size->listed.getD i true=false)->Closed ops listed->
   MOps P ro n ops N S0 (Then (fun s=>DOps P ro n ops Q (ops.toList.drop k) s) Q) df E r O V->Sub S0 V->
   ∀(g:G) (w:World) (a:Act),g0.le g->SimS P g n ⟨O,V,df⟩ a w->wpAnyIn (FX P rr) 0 P .any ops (Post P g0 n Q) (m+(ops.size-k)) listed a w:=by
 have hmem:∀(r:List Nat) (listed:Array Bool),listed.size=ops.size->(∀i,k<=i->i<ops.size->listed.getD i true=false)->Closed ops listed->r=ord.filter (fun i => !listed.getD i true)->∀i∈Region.ready .any ops listed,i∈r\/(k<=i/\r=[]):=by
  intro r listed hsz hlk hcl hf i hi
  obtain⟨h1,o,ho,hd⟩:=mem_ready.1 hi
  have hik:i<ops.size:=(Array.getElem?_eq_some_iff.1 ho).1
  rcases Nat.lt_trichotomy i k with hlt|heq|hgt
  ·left
   rw[hf,List.mem_filter]
   exact⟨hall i hlt,by rw[h1];rfl⟩
  ·subst heq
   right
   refine⟨Nat.le_refl _,?_⟩
   rw[hf,List.filter_eq_nil_iff]
   intro x hx
   have:=Cw hcl ops.size i x o ho hd (hw1 x (hlt x hx))
   rcases Nat.lt_or_ge x listed.size with h|h
   ·simp[h]at this⊢; exact this
   ·simp[Array.getElem?_eq_none h]at this
  ·exfalso
   obtain⟨e,hm,hb,hon⟩:=(hch i (by omega) o ho).2 hgt
   have h4:=hd e hm hb
   have h5:=hlk (i-1) (by omega) (by omega)
   rw[hon]at h4
   have hl:i-1<listed.size:=by omega
   simp[hl]at h4 h5
   rw[h5]at h4;cases h4
 intro m
 induction m with
 | zero =>
  intro r listed O V hl hsz hf hlk hcl h hC g w a hg hs
  obtain rfl:r=[]:=List.length_eq_zero_iff.1 hl
  have hdone:∀x,x<k->listed.getD x true=true:=by
   intro x hx
   have:=(List.filter_eq_nil_iff.1 hf.symm) x (hall x hx)
   simpa using this
  have h1:DOps P ro n ops Q (ops.toList.drop k) ⟨O,V,df⟩:=fun g w a r hr hs=>by
   have h':=h g w a r hr hs
   obtain⟨g',s',x,k1,k2,k3,k4⟩:=h'
   cases x with
   |normal=>exact Az k1 _ (k4 g' w a r (hr.mono k1) k2)
   |ret=>cases k3
   |exit _=>cases k3
   |panic _=>obtain⟨v,k3,_⟩:=k3;cases k3
  rw[Nat.zero_add]
  exact OR hch (ops.size-k) k listed a w (by omega) (Nat.le_refl _) hsz hdone hlk (Az hg _ (h1 g w a rr (hr.mono hg) hs))
 | succ m ih =>
  intro r listed O V hl hsz hf hlk hcl h hC g w a hg hs
  rw[show m+1+(ops.size-k)=(m+(ops.size-k))+1 by omega]
  obtain⟨y,t,rfl⟩:∃y t,r=y::t:=by cases r with|nil=>cases hl|cons y t=>exact⟨y,t,rfl⟩
  refine⟨fun he =>?_,fun i hi =>?_⟩
  ·exfalso
   obtain⟨l1,l2,hord,hl1,hy,hl2⟩:=List.filter_eq_cons_iff.1 hf.symm
   subst hord
   obtain⟨h1,_,_,o,ho,hea,_⟩:=En l1 [] hmix
   have:y∈Region.ready .any ops listed:=by
    refine mem_ready.2 ⟨by simpa using hy,o,ho,fun e hm hb =>?_⟩
    rcases hea e hm hb with h4|h4
    ·have h5:=hl1 _ h4
     simp only[Bool.not_eq_true,Bool.not_eq_false']at h5
     have hlt':e.on<listed.size:=by
      have:=hlt e.on (by simp[h4])
      omega
     simpa[hlt'] using h5
    ·cases h4
   rw[he]at this;cases this
  ·have hir:i∈y::t:=by
    rcases hmem _ listed hsz hlk hcl hf i hi with h|h
    ·exact h
    ·exact absurd h.2 (by simp)
   obtain⟨pre,post,hsplit⟩:=List.append_of_mem hir
   rw[hsplit]at hf h hl
   obtain⟨l1',l2',hord,hf1,hf2⟩:=List.filter_eq_append_iff.1 hf.symm
   obtain⟨m1,m2,hl2',hm1,hiu,hf3⟩:=List.filter_eq_cons_iff.1 hf2
   have hord':ord=(l1'++m1)++i::m2:=by rw[hord,hl2'];simp
   have hik:i<k:=hlt i (by rw[hord'];simp)
   rw[hord']at hmix
   obtain⟨n1,_,n3,o,ho,hea,hx⟩:=En (l1'++m1) [] hmix
   obtain⟨hiun,o',ho',hdone⟩:=mem_ready.1 hi
   obtain rfl:o'=o:=by rw[ho]at ho';cases ho';rfl
   have hfront:=G3 ho post pre O V (fun x hxp=>by
    have hx1:x∈l1'++m1:=by
     have:x∈l1'.filter (fun i => !listed.getD i true):=by rw[hf1];exact hxp
     simp[(List.mem_filter.1 this).1]
    have hxu:listed.getD x true=false:=by
     have:x∈l1'.filter (fun i => !listed.getD i true):=by rw[hf1];exact hxp
     simpa using(List.mem_filter.1 this).2
    rcases hx x hx1 with h4|h4
    ·exfalso
     have:=Cw hcl ops.size i x o' ho hdone h4
     rcases Nat.lt_or_ge x listed.size with hlt|hlt
     ·simp[hlt]at this hxu;rw[hxu]at this;cases this
     ·simp[Array.getElem?_eq_none hlt]at this
    ·exact h4) h
   have hnext:pre++post=ord.filter (fun j => !(listed.setIfInBounds i true).getD j true):=by
    have hil:i<listed.size:=by
     rw[hsz];exact(Array.getElem?_eq_some_iff.1 ho).1
    rw[hord',List.filter_append,List.filter_cons]
    have e1:(listed.setIfInBounds i true).getD i true=true:=by simp[hil]
    rw[e1,Aw n1,Aw n3]
    simp only[Bool.not_true,Bool.false_eq_true,if_false,List.filter_append,hf1,hf3]
    rw[List.filter_eq_nil_iff.2 (fun x hx=>by simpa using hm1 x hx),List.append_nil]
   have hlen:(pre++post).length=m:=by simp at hl⊢; omega
   have hlk':∀j,k<=j->j<ops.size->(listed.setIfInBounds i true).getD j true=false:=fun j hj hjs=>by rw[getD_set_ne true (show i≠j by omega)];exact hlk j hj hjs
   obtain⟨o2,ho2,hh⟩:=hfront
   obtain rfl:o2=o':=by rw[ho]at ho2;cases ho2;rfl
   unfold wpOpIn
   simp only[ho]
   rcases hh with⟨d,hy,hM⟩|⟨_,hE⟩
   ·exact EK (Q:=Q) hN (hr.mono hg) hg hs hC hy fun g' w' a' hg' hs'=>ih _ _ _ _ hlen (by simpa using hsz) hnext hlk' (hcl.set hi) hM hC g' w' a' (hg.trans hg') hs'
   ·exact D2 (Q:=Q) (hr.mono hg) hg hs hE (fun g' w' a' d S' hg' hR hs'=>ih _ _ _ _ hlen (by simpa using hsz) hnext hlk' (hcl.set hi) hR.2 hR.1 g' w' a' (hg.trans hg') hs') fun d S' hp=>hp
def WW(ops:Array Oper)(k:Nat):Bool:=(List.range ops.size).all fun i=>decide (i<k)||match ops[i]? with
 |some o=>o.after.all (fun e => !Region.binds .any e||decide (e.on<i))&&(decide (i=k)||o.after.any (fun e=>Region.binds .any e&&e.on==i-1))
 |none=>false
theorem Wy{k:Nat}(h:WW ops k=true):Chain ops k:=fun i hk o ho=>by
 have hi:=(Array.getElem?_eq_some_iff.1 ho).1
 have:=List.all_eq_true.1 h i (List.mem_range.2 hi)
 rw[ho,decide_eq_false (by omega),Bool.false_or]at this
 simp only[Bool.and_eq_true,Bool.or_eq_true,decide_eq_true_eq]at this
 refine⟨fun e hm hb =>?_,fun hlt =>?_⟩
 ·have:=Array.all_eq_true_iff_forall_mem.1 this.1 e hm
  simpa[hb] using this
 ·rcases this.2 with h2|h2
  ·omega
  ·rw[Array.any_eq_true']at h2
   obtain⟨e,hm,h3⟩:=h2
   simp only[Bool.and_eq_true,beq_iff_eq]at h3
   exact⟨e,hm,h3⟩
def Oy(ops:Array Oper)(E ord:List Nat)(k:Nat):Bool:=mixB ops E [] ord&&(List.range k).all ord.contains&&(ord.length==k)&&ord.all (fun i=>decide (i<k))&&decide (k<ops.size)&&(List.range k).all (fun i=>Ex ops ops.size k i)&&WW ops k
theorem Wo(hN:P.funcs.size=N)(hm:P.follows .mixedOrders=true){l:List Oper}{id:Nat}{O:Fr}{V:Sig}(k:Nat)(ord E:List Nat)(S0:Sig)(hB:Oy l.toArray E ord k=true)(hC:Sub S0 V)
  {lp:List (Bool×Oper)} (hlp:GB l E ord=some lp) (h:MO P ro n l.toArray N S0 (Then (fun s=>DOps P ro n l.toArray Q (l.drop k) s) Q) df lp O V):DWp P ro n (.region id l.toArray true) Q ⟨O,V,df⟩:=by
 intro g w a r hr hs
 refine wpIn_region_any hm ?_
 unfold Oy at hB
 simp only[Bool.and_eq_true,beq_iff_eq,decide_eq_true_eq]at hB
 obtain⟨⟨⟨⟨⟨⟨b1,b2⟩,b3⟩,b4⟩,b5⟩,b6⟩,b7⟩:=hB
 have hlt:∀i∈ord,i<k:=fun i hi=>by simpa using List.all_eq_true.1 b4 i hi
 have hs':SimS P g n ⟨O,V,df⟩ a { w with drawn:=w.drawn+1 } :=
  ⟨⟨fun b o v h=>hs.sim.imm b o v h,hs.sim.keep,fun i o h=>by
   have:=hs.sim.obj i o h
   cases o<;>exact this,hs.sim.inj,hs.sim.free,hs.sim.htop,hs.sim.hdom,hs.sim.fin,hs.sim.io⟩,hs.tmps,hs.df⟩
 have hcl:Closed l.toArray (Array.replicate l.toArray.size false):=by
  intro q o _ hq
  rcases Nat.lt_or_ge q l.length with h'|h'
  ·simp[h']at hq
  ·simp[h']at hq
 have hmo:=EB (P:=P) (ro:=ro) (n:=n) (N:=N) (S0:=S0) (Q:=Then (fun s=>DOps P ro n l.toArray Q (l.drop k) s) Q) (df:=df) (ops:=l.toArray) (E:=E) (ord:=ord) (fun i hi=>by have:=hlt i hi;omega) (by rw[IY hlp];exact h)
 have:=Sj (P:=P) hN (ops:=l.toArray) (k:=k) b5 (Wy b7) b1 (fun i hi=>by simpa using List.all_eq_true.1 b2 i (by simpa using hi)) hlt
  (fun i hi=>List.all_eq_true.1 b6 i (List.mem_range.2 hi))
  hr ord.length ord (Array.replicate l.toArray.size false) O V rfl (by simp) (Di (fun i hi=>by have:=hlt i hi;omega)).symm (fun i hi his=>by
   rw[Array.getD_eq_getD_getElem?]
   simp only[Array.getElem?_replicate,his,if_true];rfl) hcl (by simpa using hmo) hC g _ a (.refl g) hs'
 rw[b3,show k+(l.toArray.size-k)=l.toArray.size by omega]at this
 exact this
end
section
variable {P:Program}{ro:Option Nat}{n:Nat}{ops:Array Oper}{Q:DX->St->Prop}{rest:List Oper}{tab:Nat->Ty}{O:List (Nat×D)}{V:Sig}{df:List DDf}
variable (ht:Ba P tab)
include ht
theorem Ws{t T T' ty e:Nat}{x:Operand}{s:List UInt8}{pos:String}{after:Array Edge}{gd:Option (Nat×Bool)}
  (h:DOps P ro n ops Q rest ⟨(t,.str s)::O,V,df⟩) (hw:AJ ops O ⟨some t,.convert T T' x,ty,pos,after,gd⟩=some true) (htn:t<n) (hk:(tab T).k=.slice e) (hk':(tab T').k=.str) (hke:(tab e).k=.int .u8) (h1:esOf (ev O x)=some (s.map fun b=>[D.int .u8 (b.toNat:Int)])) :
  DOps P ro n ops Q (⟨some t,.convert T T' x,ty,pos,after,gd⟩::rest) ⟨O,V,df⟩:=by
 refine Ek (fun d S'=>d=.str s/\S'=V) hw (fun c e=>by cases e) (Af fun c e=>by cases e) (by simp[At,htn]) ?_
  (fun d S' ⟨a2,a3⟩=>by subst a2 a3;exact h)
 intro g w a hs hT
 have hxv:=As hT x
 obtain⟨xa,xc,q1,q2,q3⟩:=CI h1 hxv
 obtain⟨vs,v1,v2,v3⟩:=CM hs (sz:=1) (fun c hc=>by obtain⟨b,_,rfl⟩:=List.mem_map.1 hc;rfl) q3
 have hrun:(convert T T' (a.eval x)).run P w=.ok (.string ⟨s.toArray⟩) w:=by
  rw[q1]
  cases xa with
  | none =>
   have hs0:s=[]:=by
    rcases v3 with h|⟨b,o,h,_⟩
    ·simpa using h
    ·cases h
   subst hs0
   exact run_convert_bytes_nil w T e (B8 ht hk) (Lt ht hke) _ _ T' (IJ ht hk')
  | some ad =>
   rw[List.length_map]
   refine run_convert_bytes_back w T T' e ad xc s (B8 ht hk) (Lt ht hke) (IJ ht hk') fun j hj =>?_
   rcases v3 with h|⟨b,o,h,hc⟩
   ·rw[List.length_map]at h;omega
   ·cases h
    have hfl:∀l:List UInt8,(l.map fun b=>[D.int .u8 (b.toNat:Int)]).flatten=l.map fun b=>D.int .u8 (b.toNat:Int):=fun l=>by
     induction l with
     |nil=>rfl
     |cons y l ih=>rw[List.map_cons,List.flatten_cons,ih];rfl
    rw[hfl]at v1
    have hg:=RepL.get v1 j
    rw[List.getElem?_map,List.getElem?_eq_getElem hj]at hg
    have hjv:j<vs.length:=by rw[v2,List.length_map];omega
    rw[List.getElem?_eq_getElem hjv]at hg
    simp only[Option.map_some]at hg
    have:=hc j _ (List.getElem?_eq_getElem hjv)
    rw[show vs[j]=.int .u8 ((s[j]).toNat:Int) from BH hg]at this
    have hplain:(⟨b,o,none⟩:Addr).add j=⟨b,o+j,none⟩:=by unfold Addr.add;split<;>simp_all
    rw[hplain]
    exact this
 exact⟨g,w,.string ⟨s.toArray⟩,.str s,V,by simp only[execOp];rw[Sem.run_bind,hrun];rfl,.refl g,hs,rfl,rfl,rfl⟩
end
section
variable {P:Program}{tab:Nat->Ty}(ht:Ba P tab){ro:Option Nat}{n:Nat}{ops:Array Oper}{Q:DX->St->Prop}{df:List DDf}{rest:List Oper}{O:List (Nat×D)}{V:Sig}
include ht
theorem RO{g:G}{w:World}{T e i off len cap:Nat}{k k':IntKind}{v u u':Value}{hi m:Nat}(hk:(tab T).k=.slice e)(he:A6 (tab e).k=false)(hv:Rep g (.sref i off len cap) v)(hu:Rep g (.int k hi) u)(hu':Rep g (.int k' m) u')(hhi:hi<=m)(hm:m<=cap):
  ∃r,(Instr.sliceAt T v none (some u) (some u')).run P w=.ok r w/\Rep g (.sref i off hi m) r:=by
 obtain⟨b,hb,rfl⟩:=hv
 obtain rfl:=BH hu
 obtain rfl:=BH hu'
 refine⟨_,?_,Ol (len:=hi) (cap:=m) (off:=off) hb⟩
 have hu:=B8 ht hk
 have c1:(0:Int)<=(hi:Int):=by omega
 have c2:(hi:Int)<=(m:Int):=by omega
 have c3:(0:Int)<=(m:Int):=by omega
 have c4:(m:Int)<=(cap:Int):=by omega
 simp only[Option.map_some,Instr.sliceAt,Instr.slice,Instr.sliceBounds,Instr.sliceBound,asIntOf,Sem.run_bind,Sem.run_pure,Result.andThen_ok,A2 hu,c1,c2,c3,c4,and_self,if_true,B6 (ht e) (Aj he),Int.toNat_natCast,Nat.sub_zero,Nat.zero_mul]
 congr 1
 split<;>simp[Addr.add]
theorem Rm{t T ty e i off len cap:Nat}{k k':IntKind}{x y z:Operand}{hi m:Nat}{pos:String}{after:Array Edge}
  (h:DOps P ro n ops Q rest ⟨(t,.sref i off hi m)::O,V,df⟩)
  (htn:t<n) (hk:(tab T).k=.slice e) (he:A6 (tab e).k=false) (h1:ev O x=.sref i off len cap) (h2:ev O y=.int k hi) (h3:ev O z=.int k' m) (hhi:hi<=m) (hm:m<=cap) :
  DOps P ro n ops Q (⟨some t,.slice T x none (some y) (some z),ty,pos,after,none⟩::rest) ⟨O,V,df⟩:=by
 refine Ek (fun d S'=>d=.sref i off hi m/\S'=V) rfl (fun c e=>by cases e) (Af fun c e=>by cases e) (by simp[At,htn]) ?_
  (fun d S' ⟨a2,a3⟩=>by subst a2 a3;exact h)
 intro g w a hs hT
 have hx:=As hT x
 have hy:=As hT y
 have hz:=As hT z
 rw[h1]at hx
 rw[h2]at hy
 rw[h3]at hz
 obtain⟨r,h4,h5⟩:=RO (w:=w) ht hk he hx hy hz hhi hm
 exact⟨g,w,r,_,V,by simp only[execOp,Option.map_some,Option.map_none,Sem.run_bind,h4,Result.andThen_ok,Sem.run_pure],.refl g,hs,h5,rfl,rfl⟩
omit ht in
theorem Ml{i j c sz:Nat}{es:List (List D)}{r az bs:List D}(hj:V j=some (.cells (es.flatten++r)))(hi:V i=some (.cells (az ++ .sref j 0 es.length c::bs)))(hij:i≠j)(m3:es.length<=c)(m4:∀e∈es,e.length=sz):Wk P n ⟨O,V,df⟩ ⟨O,(V.del j).set i (.cells (az ++ .slice es .no::bs)),df⟩:=by
 intro g w a hs
 obtain⟨b,_,_,hb,_,_⟩:=hs.sim.obj j _ hj
 obtain⟨g',hle,hs',hri⟩:=hs.sim.freeze (i:=j) hj hb
 have hi':(V.del j) i=some (.cells (az ++ .sref j 0 es.length c::bs)):=by simp only[Sig.del,hij,if_false];exact hi
 simp only at hs'
 refine⟨g',hle,⟨hs'.retell hi' fun vs=>Io fun v hv =>?_,hs.tmps.mono hle,hs.df.mono hle⟩⟩
 obtain⟨b',hb',hv⟩:=hv
 obtain rfl:b'=b:=by have:=hle.rho _ _ hb;rw[this]at hb';cases hb';rfl
 exact⟨_,c,hv,m3,.inr ⟨sz,b',0,rfl,G0 m4 hri⟩,trivial⟩
end
end Go.DL
