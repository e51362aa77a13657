/- A part of the proof. -/
import Derived.Test.YteldimffglchkaaGreatDoorM10
import Derived.Test.YteldimffglchkaaGreatDoorM09
import Derived.Test.YteldimffglchkaaGreatDoorM02
import Derived.Test.YteldimffglchkaaGreatDoorProg
import Derived.KernelRfl
import Derived.Test.YteldimffglchkaaGreatDoorM05
set_option linter.all false
namespace Go.DL
open Go.Proofs.Tryz
open Go
section
variable (P:Program)(ro:Ro)(n:Nat)(ops:Array Oper)(N:Nat)(Q:DX->St->Prop)(df:List DDf)
def MOps4 (E C K:List Nat):List Nat->Sig->Fr->Sig->Prop
  |[],_,γ,O=>DOps P ro n ops Q [] ⟨γ,O,df⟩
  | i::r,S0,γ,O => ∃ o,ops[i]? = some o /\
    ((∃ d,Calm P n ops N (if C.contains i=true then S0 else fun _=>none) γ o d/\MOps4 E C K r S0 (putD o.dst d γ) O) \/
     (E.contains i=true/\Eff P ro n ops df γ O o (fun d U'=> ∃S1,Sub S1 U'/\(K.contains i=false->S1=S0)/\MOps4 E C K r S1 (putD o.dst d γ) U') (fun d U'=> ∀V',Q (.panic d) ⟨V',U',df⟩)))
def MO4:List (Bool × Bool × Bool × Oper)->Sig->Fr->Sig->Prop
  |[],_,γ,O=>DOps P ro n ops Q [] ⟨γ,O,df⟩
  | (e,c,k,o)::r,S0,γ,O =>
    (∃ d,Calm P n ops N (if c=true then S0 else fun _=>none) γ o d/\MO4 r S0 (putD o.dst d γ) O) \/
     (e=true/\Eff P ro n ops df γ O o (fun d U'=> ∃S1,Sub S1 U'/\(k=false->S1=S0)/\MO4 r S1 (putD o.dst d γ) U') (fun d U'=> ∀V',Q (.panic d) ⟨V',U',df⟩))
end
section
variable {P:Program}{ro:Ro}{n:Nat}{ops:Array Oper}{N:Nat}{S0:Sig}{Q:DX->St->Prop}{df:List DDf}{E C K:List Nat}{tab:Nat->Ty}
theorem MOps4.alike: ∀(l:List Nat) {S0:Sig}{γ V':Fr}{O:Sig},Alike γ V'->MOps4 P ro n ops N Q df E C K l S0 γ O->MOps4 P ro n ops N Q df E C K l S0 V' O
 |[],_,_,_,_,h,k=>C0 h k
 |i::r,_,_,_,_,h,⟨o,ho,k⟩=>⟨o,ho,(match k with
  |.inl ⟨d,h2,h3⟩=>.inl ⟨d,h2.congr fun t _=>h t,MOps4.alike r (h.put _ _) h3⟩
  |.inr ⟨h1,h2⟩=>.inr ⟨h1,h2.congr (fun t _=>h t) fun d U' ⟨S1,h3,h5,h4⟩=>⟨S1,h3,h5,MOps4.alike r (h.put _ _) h4⟩⟩)⟩
theorem Calm.base{S0 S1:Sig}{γ:Fr}{o:Oper}{d:D}(h:Calm P n ops N S0 γ o d)(hs:Sub S0 S1):Calm P n ops N S1 γ o d:=
 ⟨h.ok,by
  rcases h.run with⟨a,b,c,e⟩|h|⟨a,e⟩
  ·exact .inl ⟨a,b,c,fun O hU=>e O (hs.trans hU)⟩
  ·exact .inr (.inl h)
  ·exact .inr (.inr ⟨a,fun O hU=>e O (hs.trans hU)⟩)⟩
theorem Il{i:Nat}{oi:Oper}(hi:ops[i]? = some oi)(post:List Nat): ∀(pre:List Nat) (γ:Fr) (O:Sig),
  (∀x∈pre,E.contains x=false/\(K.contains i&&C.contains x)=false /\ ∃ox,ops[x]? = some ox/\oi.apart ops ox=true)->MOps4 P ro n ops N Q df E C K (pre++i::post) S0 γ O->MOps4 P ro n ops N Q df E C K (i::(pre++post)) S0 γ O
 |[],_,_,_,h=>h
 | x::pre,γ,O,hp,h=>by
  obtain⟨aN,aI,ox,aA,aW⟩:=hp x (by simp)
  obtain⟨a1,a2,a3⟩:=Oper.apart_spec aW
  obtain⟨ox',aw,hx⟩:=h
  obtain rfl:ox'=ox:=by rw[aA]at aw;cases aw;rfl
  rcases hx with⟨d,hy,h⟩|⟨hE,_⟩
  ·obtain⟨oi',ax,hh⟩:=Il hi post pre _ O (fun y hy=>hp y (by simp[hy])) h
   obtain rfl:oi'=oi:=by rw[hi]at ax;cases ax;rfl
   refine⟨oi',hi,?_⟩
   rcases hh with⟨e,h2,h3⟩|⟨h1,h2⟩
   ·refine .inl ⟨e,h2.congr fun t ht=>AD fun hd=>a3 t hd ht,ox',aA,.inl ⟨d,hy.congr fun t ht=>(AD fun hd=>a1 t hd ht).symm,?_⟩⟩
    exact MOps4.alike _ (Bq _ _ _ fun t p q=>a2 t p q) h3
   ·refine .inr ⟨h1,h2.congr (fun t ht=>AD fun hd=>a3 t hd ht) fun e U' ⟨S1,h3,h5,h4⟩=>⟨S1,h3,h5,ox',aA,.inl ⟨d,?_,MOps4.alike _ (Bq _ _ _ fun t p q=>a2 t p q) h4⟩⟩⟩
    have aF:=hy.congr (V':=putD oi'.dst e γ) fun t ht=>(AD fun hd=>a1 t hd ht).symm
    cases hk:K.contains i with
    |false=>rw[h5 hk];exact aF
    |true=>
     rw[hk,Bool.true_and]at aI
     rw[aI]at aF⊢
     exact aF
  ·rw[aN]at hE;cases hE
def Jf(ops:Array Oper)(E C K:List Nat):List Nat->List Nat->Bool
 |_,[]=>true
 | done,i::r => !done.contains i && (match ops[i]? with
  |some o=>(o.after.all fun e=> !Region.binds .any e||done.contains e.on)&&done.all fun x=>(!E.contains x&&!(K.contains i&&C.contains x)&&match ops[x]? with
   |some ox=>o.apart ops ox
   |none=>false)||FK ops ops.size i x
  |none=>false)&&Jf ops E C K (i::done) r
theorem D6{i:Nat}{l2:List Nat}: ∀(l1 done:List Nat),Jf ops E C K done (l1++i::l2)=true->i∉l1/\i∉done/\i∉l2 /\ ∃o,ops[i]? = some o/\(∀e∈o.after,Region.binds .any e=true->e.on∈l1\/e.on∈done) /\
   ∀x,x∈l1->FK ops ops.size i x=true\/(E.contains x=false/\(K.contains i&&C.contains x)=false /\ ∃ox,ops[x]? = some ox/\o.apart ops ox=true)
 | [],done,h=>by
  simp only[List.nil_append,Jf,Bool.and_eq_true,Bool.not_eq_true',List.contains_eq_mem,decide_eq_false_iff_not]at h
  obtain⟨⟨h1,h2⟩,h3⟩:=h
  have later:∀(l d:List Nat),i∈d->Jf ops E C K d l=true->i∉l:=by
   intro l
   induction l with
   |nil=>intro _ _ _ h;cases h
   |cons y l ih=>
    intro d hd hm aa
    simp only[Jf,Bool.and_eq_true,Bool.not_eq_true',List.contains_eq_mem,decide_eq_false_iff_not]at hm
    obtain⟨⟨m1,_⟩,m3⟩:=hm
    rcases List.mem_cons.1 aa with rfl|aa
    ·exact m1 hd
    ·exact ih (y::d) (by simp[hd]) m3 aa
  refine⟨by simp,h1,later l2 _ (by simp) h3,?_⟩
  split at h2
  ·rename_i o ho
   simp only[Bool.and_eq_true]at h2
   refine⟨o,ho,fun e he hb=>?_,fun x hx=>by cases hx⟩
   have:=Array.all_eq_true_iff_forall_mem.1 h2.1 e he
   simp only[hb,Bool.not_true,Bool.false_or,List.contains_eq_mem,decide_eq_true_eq]at this
   exact .inr this
  ·cases h2
 | y::l1,done,h=>by
  simp only[List.cons_append,Jf,Bool.and_eq_true]at h
  obtain⟨h1,h2,h3,o,ho,he,hx⟩:=D6 l1 (y::done) h.2
  have aZ:i≠y:=fun e=>h2 (by simp[e])
  refine⟨by simp[aZ,h1],fun hd=>h2 (by simp[hd]),h3,o,ho,fun e hm hb=>?_,?_⟩
  ·rcases he e hm hb with h4|h4
   ·exact .inl (by simp[h4])
   ·rcases List.mem_cons.1 h4 with h5|h5
    ·exact .inl (by simp[h5])
    ·exact .inr h5
  ·intro x aa
   rcases List.mem_cons.1 aa with rfl|aa
   ·
    have back:∀(l d:List Nat),x∈d->Jf ops E C K d (l++i::l2)=true->FK ops ops.size i x=true\/(E.contains x=false/\(K.contains i&&C.contains x)=false /\ ∃ox,ops[x]? = some ox/\o.apart ops ox=true):=by
     intro l
     induction l with
     | nil =>
      intro d hd hm
      simp only[List.nil_append,Jf,Bool.and_eq_true,ho]at hm
      have:=List.all_eq_true.1 hm.1.2.2 x hd
      simp only[Bool.or_eq_true,Bool.and_eq_true,Bool.not_eq_true']at this
      rcases this.symm with h4|⟨⟨h4,h6⟩,h5⟩
      ·exact .inl h4
      ·refine .inr ⟨h4,h6,?_⟩
       split at h5
       ·rename_i ox aA;exact⟨ox,aA,h5⟩
       ·cases h5
     |cons z l ih=>
      intro d hd hm
      simp only[List.cons_append,Jf,Bool.and_eq_true]at hm
      exact ih (z::d) (by simp[hd]) hm.2
    exact back l1 _ (by simp) h.2
   ·exact hx x aa
def CZ(ops:Array Oper)(E C K ord:List Nat):Bool:=Jf ops E C K [] ord&&(List.range ops.size).all ord.contains&&ord.length==ops.size
theorem QJ(hN:P.funcs.size=N){ord:List Nat}(hB:CZ ops E C K ord=true){g0:G}{rr:Rx}(hr:RoRep g0 ro rr): ∀(m:Nat) (r:List Nat) (listed:Array Bool) (S0:Sig) (γ:Fr) (O:Sig),r.length=m->listed.size=ops.size->
  r=ord.filter (fun i=> !listed.getD i true)->Closed ops listed->MOps4 P ro n ops N Q df E C K r S0 γ O->Sub S0 O->
   ∀(g:G) (w:World) (a:Act),g0.le g->SimS P g n ⟨γ,O,df⟩ a w->wpAnyIn (FX P rr) 0 P .any ops (Post P g0 n Q) m listed a w:=by
 unfold CZ at hB
 simp only[Bool.and_eq_true]at hB
 obtain⟨⟨ae,aE⟩,_⟩:=hB
 have aa:∀(r:List Nat) (listed:Array Bool),r=ord.filter (fun i=> !listed.getD i true)->∀i∈Region.ready .any ops listed,i∈r:=by
  intro r listed hf i hi
  obtain⟨h1,o,ho,_⟩:=mem_ready.1 hi
  have:=List.all_eq_true.1 aE i (by simpa using(Array.getElem?_eq_some_iff.1 ho).1)
  rw[hf,List.mem_filter]
  exact⟨by simpa using this,by rw[h1];rfl⟩
 intro m
 induction m with
 |zero=>
  intro r listed S0 γ O hl hsz hf ar h hC g w a hg hs
  obtain rfl:r=[]:=List.length_eq_zero_iff.1 hl
  refine⟨List.eq_nil_iff_forall_not_mem.2 fun i hi=>?_,?_⟩
  ·have:=aa [] listed hf i hi;cases this
  ·exact Post.le hg (h g w a rr (hr.mono hg) hs)
 | succ m ih =>
  intro r listed S0 γ O hl hsz hf ar h hC g w a hg hs
  obtain⟨y,t,rfl⟩:∃y t,r=y::t:=by cases r with|nil=>cases hl|cons y t=>exact⟨y,t,rfl⟩
  refine⟨fun he=>?_,fun i hi=>?_⟩
  ·exfalso
   obtain⟨l1,l2,ak,aR,hy,aY⟩:=List.filter_eq_cons_iff.1 hf.symm
   subst ak
   obtain⟨h1,_,_,o,ho,aL,_⟩:=D6 l1 [] ae
   have:y∈Region.ready .any ops listed:=by
    refine mem_ready.2 ⟨by simpa using hy,o,ho,fun e hm hb=>?_⟩
    rcases aL e hm hb with h4|h4
    ·have h5:=aR _ h4
     simp only[Bool.not_eq_true,Bool.not_eq_false']at h5
     have am:e.on<listed.size:=by
      have:e.on∈l1++y::l2:=by simp[h4]
      obtain⟨p1,p2,hp⟩:=List.append_of_mem this
      rw[hp]at ae
      obtain⟨_,_,_,o',aq,_⟩:=D6 p1 [] ae
      rw[hsz];exact(Array.getElem?_eq_some_iff.1 aq).1
     simpa[am] using h5
    ·cases h4
   rw[he]at this;cases this
  ·obtain⟨pre,post,aj⟩:=List.append_of_mem (aa _ listed hf i hi)
   rw[aj]at hf h hl
   obtain⟨l1',l2',ak,aD,aV⟩:=List.filter_eq_append_iff.1 hf.symm
   obtain⟨m1,m2,aB,aP,a8,aU⟩:=List.filter_eq_cons_iff.1 aV
   have ag:ord=(l1'++m1)++i::m2:=by rw[ak,aB];simp
   rw[ag]at ae
   obtain⟨n1,_,n3,o,ho,aL,hx⟩:=D6 (l1'++m1) [] ae
   obtain⟨aS,o',aq,ay⟩:=mem_ready.1 hi
   obtain rfl:o'=o:=by rw[ho]at aq;cases aq;rfl
   have ap:=Il ho post pre γ O (fun x aH=>by
    have aO:x∈l1'++m1:=by
     have:x∈l1'.filter (fun i=> !listed.getD i true):=by rw[aD];exact aH
     simp[(List.mem_filter.1 this).1]
    have aG:listed.getD x true=false:=by
     have:x∈l1'.filter (fun i=> !listed.getD i true):=by rw[aD];exact aH
     simpa using(List.mem_filter.1 this).2
    rcases hx x aO with h4|h4
    ·exfalso
     have:=CE ar ops.size i x o' ho ay h4
     rcases Nat.lt_or_ge x listed.size with am|am
     ·simp[am]at this aG;rw[aG]at this;cases this
     ·simp[Array.getElem?_eq_none am]at this
    ·exact h4) h
   have ah:pre++post=ord.filter (fun j=> !(listed.setIfInBounds i true).getD j true):=by
    have aT:i<listed.size:=by
     rw[hsz];exact(Array.getElem?_eq_some_iff.1 ho).1
    rw[ag,List.filter_append,List.filter_cons]
    have e1:(listed.setIfInBounds i true).getD i true=true:=by simp[aT]
    rw[e1,AJ n1,AJ n3]
    simp only[Bool.not_true,Bool.false_eq_true,if_false,List.filter_append,aD,aU]
    rw[List.filter_eq_nil_iff.2 (fun x hx=>by simpa using aP x hx),List.append_nil]
   have hlen:(pre++post).length=m:=by simp at hl⊢; omega
   obtain⟨o2,aK,hh⟩:=ap
   obtain rfl:o2=o':=by rw[ho]at aK;cases aK;rfl
   unfold wpOpIn
   simp only[ho]
   rcases hh with⟨d,hy,hM⟩|⟨_,hE⟩
   ·have aX:Calm P n ops N S0 γ o2 d:=hy.base (by split;exact Sub.refl _;exact fun _ _ h=>by cases h)
    exact Fa hN (hr.mono hg) hg hs hC aX fun g' w' a' aC au=>ih _ _ _ _ _ hlen (by simpa using hsz) ah (ar.set hi) hM hC g' w' a' (hg.trans aC) au
   ·exact CP (hr.mono hg) hg hs hE (fun g' w' a' d U' aC hR au=>by obtain⟨S1,h3,_,h4⟩:=hR;exact ih _ _ _ _ _ hlen (by simpa using hsz) ah (ar.set hi) h4 h3 g' w' a' (hg.trans aC) au) fun d U' hp=>hp
def KG(ops:List Oper)(E C K:List Nat):List Nat->Option (List (Bool×Bool×Bool×Oper))
 |[]=>some []
 | i::r=>match nthO ops i with
  |some o=>match KG ops E C K r with
   |some l=>some ((E.contains i,C.contains i,K.contains i,o)::l)
   |none=>none
  |none=>none
theorem EO{lo:List Oper}: ∀{ord:List Nat}{lp:List (Bool×Bool×Bool×Oper)}{S0:Sig}{γ:Fr}{O:Sig},KG lo E C K ord=some lp->MO4 P ro n lo.toArray N Q df lp S0 γ O->MOps4 P ro n lo.toArray N Q df E C K ord S0 γ O
 |[],_,_,_,_,hp,h=>by cases hp;exact h
 |i::r,lp,S0,γ,O,hp,h=>by
  simp only[KG]at hp
  split at hp<;>(try (cases hp;done))
  rename_i o ho
  split at hp<;>(try (cases hp;done))
  rename_i l hl
  cases hp
  refine⟨o,by rw[GX]at ho;simpa using ho,?_⟩
  rcases h with⟨d,h2,h3⟩|⟨h1,h2⟩
  ·exact .inl ⟨d,h2,EO hl h3⟩
  ·exact .inr ⟨h1,h2.congr (fun _ _=>rfl) fun d U' ⟨S1,h3,h5,h4⟩=>⟨S1,h3,h5,EO hl h4⟩⟩
theorem V3(hN:P.funcs.size=N)(hm:P.follows .mixedOrders=true){l:List Oper}{id:Nat}{γ:Fr}{O:Sig}(ord E C K:List Nat)(S0:Sig)(hB:CZ l.toArray E C K ord=true)(hC:Sub S0 O)
  {lp:List (Bool×Bool×Bool×Oper)} (aQ:KG l E C K ord=some lp) (h0:MO4 P ro n l.toArray N Q df lp S0 γ O):DWp P ro n (.region id l.toArray true) Q ⟨γ,O,df⟩:=by
 intro g w a r hr hs
 refine wpIn_region_any hm ?_
 have ar:Closed l.toArray (Array.replicate l.toArray.size false):=by
  intro q o _ hq
  rcases Nat.lt_or_ge q l.length with h'|h'
  ·simp[h']at hq
  ·simp[h']at hq
 have au:SimS P g n ⟨γ,O,df⟩ a { w with drawn:=w.drawn+1 }:=
  ⟨⟨fun b o v h=>hs.sim.imm b o v h,hs.sim.keep,fun i o h=>by
   have:=hs.sim.obj i o h
   cases o<;>exact this,hs.sim.inj,hs.sim.free,hs.sim.htop,hs.sim.hdom,hs.sim.fin,hs.sim.io,hs.sim.tab⟩,hs.tmps,hs.df⟩
 have am:∀i∈ord,i<l.toArray.size:=by
  intro i hi
  obtain⟨p1,p2,hp⟩:=List.append_of_mem hi
  have ai:=hB
  unfold CZ at ai
  simp only[Bool.and_eq_true]at ai
  rw[hp]at ai
  obtain⟨_,_,_,o',aq,_⟩:=D6 p1 [] ai.1.1
  exact(Array.getElem?_eq_some_iff.1 aq).1
 have hlen:ord.length=l.toArray.size:=by
  have ai:=hB
  unfold CZ at ai
  simp only[Bool.and_eq_true,beq_iff_eq]at ai
  exact ai.2
 have:=QJ hN hB hr ord.length ord (Array.replicate l.toArray.size false) S0 γ O rfl (by simp) (Dl am).symm ar (EO aQ h0) hC g _ a (.refl g) au
 rw[hlen]at this
 exact this
theorem Uh(ht:B2 P tab){e c k:Bool}{t:Nat}{op:Op}{ty:TypeId}{pos:String}{after:Array Edge}{d:D}{l:List (Bool×Bool×Bool×Oper)}{γ Sr:Fr}{O:Sig}(hr:D1 op=true)(aJ:decide (t<n)=true)(hl:A0 γ (A5 op.operands.toList)=some Sr)(hd:dopX tab Sr (if c=true then S0 else fun _=>none) op=some d)
  (h:MO4 P ro n ops N Q df l S0 ((t,d)::γ) O):MO4 P ro n ops N Q df ((e,c,k,⟨some t,op,ty,pos,after,none⟩)::l) S0 γ O:=by
 have aM:=(Be (C3 hl)) ▸ hd
 refine .inl ⟨d,⟨aJ,.inl ⟨by rw[Ak];rfl,C8 hr,Jc ht aM,fun U' hU g w a hs hT=>?_⟩⟩,h⟩
 refine F7 ht hs hT (?_:dopX tab (only _ γ) U' op=some d)
 rw[Be (V':=γ) fun x hx=>Bo (o:=⟨some t,op,ty,pos,after,none⟩) hx]
 exact F8 hU aM
theorem mo4_eff(ht:B2 P tab){c k:Bool}{o:Oper}{d:D}{U':Sig}{l:List (Bool×Bool×Bool×Oper)}{γ:Fr}{O:Sig}(S1:Sig)(ho:Ap n o=true)(hw:Ax ops γ o=some true)(he:eopD tab γ O o.op=some (d,U'))(hC:Sub S1 U')(hk:k=false->S1=S0)
  (h:MO4 P ro n ops N Q df l S1 (putD o.dst d γ) U'):MO4 P ro n ops N Q df ((true,c,k,o)::l) S0 γ O:=by
 refine .inr ⟨rfl,ho,by rw[Ak];exact hw,?_⟩
 refine Fo ht (by rw[Ak];exact hw) (by rw[Bp (V':=γ) fun x hx=>Bo hx];exact he) ho (Aw ⟨rfl,?_⟩)
 cases hd:o.dst with
 |none=>rw[hd]at h;exact⟨S1,hC,hk,h⟩
 |some t=>
  rw[hd]at h
  simp only[putD,A6,if_true]
  exact⟨S1,hC,hk,h⟩
end
section
variable (P:Program)(ro:Ro)(n:Nat)(ops:Array Oper)(N:Nat)(Q:DX->St->Prop)(df:List DDf)
def MOpsI (E C K:List Nat):List Nat->(Sig->Prop)->Fr->Sig->Prop
  |[],_,γ,O=>DOps P ro n ops Q [] ⟨γ,O,df⟩
  | i::r,B,γ,O => ∃ o,ops[i]? = some o /\
    ((∃ d,(∀ s,(C.contains i=true->B s)->Calm P n ops N s γ o d)/\MOpsI E C K r B (putD o.dst d γ) O) \/
     (E.contains i=true/\Eff P ro n ops df γ O o (fun d U'=> ∃B1:Sig->Prop,B1 U'/\(K.contains i=false->B1=B)/\MOpsI E C K r B1 (putD o.dst d γ) U') (fun d U'=> ∀V',Q (.panic d) ⟨V',U',df⟩)))
def MOI:List (Bool × Bool × Bool × Oper)->(Sig->Prop)->Fr->Sig->Prop
  |[],_,γ,O=>DOps P ro n ops Q [] ⟨γ,O,df⟩
  | (e,c,k,o)::r,B,γ,O =>
    (∃ d,(∀ s,(c=true->B s)->Calm P n ops N s γ o d)/\MOI r B (putD o.dst d γ) O) \/
     (e=true/\Eff P ro n ops df γ O o (fun d U'=> ∃B1:Sig->Prop,B1 U'/\(k=false->B1=B)/\MOI r B1 (putD o.dst d γ) U') (fun d U'=> ∀V',Q (.panic d) ⟨V',U',df⟩))
end
section
variable {P:Program}{ro:Ro}{n:Nat}{ops:Array Oper}{N:Nat}{B:Sig->Prop}{Q:DX->St->Prop}{df:List DDf}{E C K:List Nat}{tab:Nat->Ty}
theorem MOpsI.alike: ∀(l:List Nat) {B:Sig->Prop}{γ V':Fr}{O:Sig},Alike γ V'->MOpsI P ro n ops N Q df E C K l B γ O->MOpsI P ro n ops N Q df E C K l B V' O
 |[],_,_,_,_,h,k=>C0 h k
 |i::r,_,_,_,_,h,⟨o,ho,k⟩=>⟨o,ho,(match k with
  |.inl ⟨d,h2,h3⟩=>.inl ⟨d,fun s hs=>(h2 s hs).congr fun t _=>h t,MOpsI.alike r (h.put _ _) h3⟩
  |.inr ⟨h1,h2⟩=>.inr ⟨h1,h2.congr (fun t _=>h t) fun d U' ⟨S1,h3,h5,h4⟩=>⟨S1,h3,h5,MOpsI.alike r (h.put _ _) h4⟩⟩)⟩
theorem Ik{i:Nat}{oi:Oper}(hi:ops[i]? = some oi)(post:List Nat): ∀(pre:List Nat) (γ:Fr) (O:Sig),
  (∀x∈pre,E.contains x=false/\(K.contains i&&C.contains x)=false /\ ∃ox,ops[x]? = some ox/\oi.apart ops ox=true)->MOpsI P ro n ops N Q df E C K (pre++i::post) B γ O->MOpsI P ro n ops N Q df E C K (i::(pre++post)) B γ O
 |[],_,_,_,h=>h
 | x::pre,γ,O,hp,h=>by
  obtain⟨aN,aI,ox,aA,aW⟩:=hp x (by simp)
  obtain⟨a1,a2,a3⟩:=Oper.apart_spec aW
  obtain⟨ox',aw,hx⟩:=h
  obtain rfl:ox'=ox:=by rw[aA]at aw;cases aw;rfl
  rcases hx with⟨d,hy,h⟩|⟨hE,_⟩
  ·obtain⟨oi',ax,hh⟩:=Ik hi post pre _ O (fun y hy=>hp y (by simp[hy])) h
   obtain rfl:oi'=oi:=by rw[hi]at ax;cases ax;rfl
   refine⟨oi',hi,?_⟩
   rcases hh with⟨e,h2,h3⟩|⟨h1,h2⟩
   ·refine .inl ⟨e,fun s hs=>(h2 s hs).congr fun t ht=>AD fun hd=>a3 t hd ht,ox',aA,.inl ⟨d,fun s hs=>(hy s hs).congr fun t ht=>(AD fun hd=>a1 t hd ht).symm,?_⟩⟩
    exact MOpsI.alike _ (Bq _ _ _ fun t p q=>a2 t p q) h3
   ·refine .inr ⟨h1,h2.congr (fun t ht=>AD fun hd=>a3 t hd ht) fun e U' ⟨S1,h3,h5,h4⟩=>⟨S1,h3,h5,ox',aA,.inl ⟨d,?_,MOpsI.alike _ (Bq _ _ _ fun t p q=>a2 t p q) h4⟩⟩⟩
    have aF:∀s,(C.contains x=true->B s)->Calm P n ops N s (putD oi'.dst e γ) ox' d:=fun s hs=>(hy s hs).congr fun t ht=>(AD fun hd=>a1 t hd ht).symm
    cases hk:K.contains i with
    |false=>rw[h5 hk];exact aF
    |true=>
     rw[hk,Bool.true_and]at aI
     exact fun s _=>aF s fun hc=>by rw[aI]at hc;cases hc
  ·rw[aN]at hE;cases hE
theorem QI(hN:P.funcs.size=N){ord:List Nat}(hB:CZ ops E C K ord=true){g0:G}{rr:Rx}(hr:RoRep g0 ro rr): ∀(m:Nat) (r:List Nat) (listed:Array Bool) (B:Sig->Prop) (γ:Fr) (O:Sig),r.length=m->listed.size=ops.size->
  r=ord.filter (fun i=> !listed.getD i true)->Closed ops listed->MOpsI P ro n ops N Q df E C K r B γ O->B O->
   ∀(g:G) (w:World) (a:Act),g0.le g->SimS P g n ⟨γ,O,df⟩ a w->wpAnyIn (FX P rr) 0 P .any ops (Post P g0 n Q) m listed a w:=by
 unfold CZ at hB
 simp only[Bool.and_eq_true]at hB
 obtain⟨⟨ae,aE⟩,_⟩:=hB
 have aa:∀(r:List Nat) (listed:Array Bool),r=ord.filter (fun i=> !listed.getD i true)->∀i∈Region.ready .any ops listed,i∈r:=by
  intro r listed hf i hi
  obtain⟨h1,o,ho,_⟩:=mem_ready.1 hi
  have:=List.all_eq_true.1 aE i (by simpa using(Array.getElem?_eq_some_iff.1 ho).1)
  rw[hf,List.mem_filter]
  exact⟨by simpa using this,by rw[h1];rfl⟩
 intro m
 induction m with
 |zero=>
  intro r listed B γ O hl hsz hf ar h hC g w a hg hs
  obtain rfl:r=[]:=List.length_eq_zero_iff.1 hl
  refine⟨List.eq_nil_iff_forall_not_mem.2 fun i hi=>?_,?_⟩
  ·have:=aa [] listed hf i hi;cases this
  ·exact Post.le hg (h g w a rr (hr.mono hg) hs)
 | succ m ih =>
  intro r listed B γ O hl hsz hf ar h hC g w a hg hs
  obtain⟨y,t,rfl⟩:∃y t,r=y::t:=by cases r with|nil=>cases hl|cons y t=>exact⟨y,t,rfl⟩
  refine⟨fun he=>?_,fun i hi=>?_⟩
  ·exfalso
   obtain⟨l1,l2,ak,aR,hy,aY⟩:=List.filter_eq_cons_iff.1 hf.symm
   subst ak
   obtain⟨h1,_,_,o,ho,aL,_⟩:=D6 l1 [] ae
   have:y∈Region.ready .any ops listed:=by
    refine mem_ready.2 ⟨by simpa using hy,o,ho,fun e hm hb=>?_⟩
    rcases aL e hm hb with h4|h4
    ·have h5:=aR _ h4
     simp only[Bool.not_eq_true,Bool.not_eq_false']at h5
     have am:e.on<listed.size:=by
      have:e.on∈l1++y::l2:=by simp[h4]
      obtain⟨p1,p2,hp⟩:=List.append_of_mem this
      rw[hp]at ae
      obtain⟨_,_,_,o',aq,_⟩:=D6 p1 [] ae
      rw[hsz];exact(Array.getElem?_eq_some_iff.1 aq).1
     simpa[am] using h5
    ·cases h4
   rw[he]at this;cases this
  ·obtain⟨pre,post,aj⟩:=List.append_of_mem (aa _ listed hf i hi)
   rw[aj]at hf h hl
   obtain⟨l1',l2',ak,aD,aV⟩:=List.filter_eq_append_iff.1 hf.symm
   obtain⟨m1,m2,aB,aP,a8,aU⟩:=List.filter_eq_cons_iff.1 aV
   have ag:ord=(l1'++m1)++i::m2:=by rw[ak,aB];simp
   rw[ag]at ae
   obtain⟨n1,_,n3,o,ho,aL,hx⟩:=D6 (l1'++m1) [] ae
   obtain⟨aS,o',aq,ay⟩:=mem_ready.1 hi
   obtain rfl:o'=o:=by rw[ho]at aq;cases aq;rfl
   have ap:=Ik ho post pre γ O (fun x aH=>by
    have aO:x∈l1'++m1:=by
     have:x∈l1'.filter (fun i=> !listed.getD i true):=by rw[aD];exact aH
     simp[(List.mem_filter.1 this).1]
    have aG:listed.getD x true=false:=by
     have:x∈l1'.filter (fun i=> !listed.getD i true):=by rw[aD];exact aH
     simpa using(List.mem_filter.1 this).2
    rcases hx x aO with h4|h4
    ·exfalso
     have:=CE ar ops.size i x o' ho ay h4
     rcases Nat.lt_or_ge x listed.size with am|am
     ·simp[am]at this aG;rw[aG]at this;cases this
     ·simp[Array.getElem?_eq_none am]at this
    ·exact h4) h
   have ah:pre++post=ord.filter (fun j=> !(listed.setIfInBounds i true).getD j true):=by
    have aT:i<listed.size:=by
     rw[hsz];exact(Array.getElem?_eq_some_iff.1 ho).1
    rw[ag,List.filter_append,List.filter_cons]
    have e1:(listed.setIfInBounds i true).getD i true=true:=by simp[aT]
    rw[e1,AJ n1,AJ n3]
    simp only[Bool.not_true,Bool.false_eq_true,if_false,List.filter_append,aD,aU]
    rw[List.filter_eq_nil_iff.2 (fun x hx=>by simpa using aP x hx),List.append_nil]
   have hlen:(pre++post).length=m:=by simp at hl⊢; omega
   obtain⟨o2,aK,hh⟩:=ap
   obtain rfl:o2=o':=by rw[ho]at aK;cases aK;rfl
   unfold wpOpIn
   simp only[ho]
   rcases hh with⟨d,hy,hM⟩|⟨_,hE⟩
   ·exact Fa hN (hr.mono hg) hg hs (Sub.refl _) (hy _ fun _=>hC) fun g' w' a' aC au=>ih _ _ _ _ _ hlen (by simpa using hsz) ah (ar.set hi) hM hC g' w' a' (hg.trans aC) au
   ·exact CP (hr.mono hg) hg hs hE (fun g' w' a' d U' aC hR au=>by obtain⟨B1,h3,_,h4⟩:=hR;exact ih _ _ _ _ _ hlen (by simpa using hsz) ah (ar.set hi) h4 h3 g' w' a' (hg.trans aC) au) fun d U' hp=>hp
theorem EN{lo:List Oper}: ∀{ord:List Nat}{lp:List (Bool×Bool×Bool×Oper)}{B:Sig->Prop}{γ:Fr}{O:Sig},KG lo E C K ord=some lp->MOI P ro n lo.toArray N Q df lp B γ O->MOpsI P ro n lo.toArray N Q df E C K ord B γ O
 |[],_,_,_,_,hp,h=>by cases hp;exact h
 |i::r,lp,B,γ,O,hp,h=>by
  simp only[KG]at hp
  split at hp<;>(try (cases hp;done))
  rename_i o ho
  split at hp<;>(try (cases hp;done))
  rename_i l hl
  cases hp
  refine⟨o,by rw[GX]at ho;simpa using ho,?_⟩
  rcases h with⟨d,h2,h3⟩|⟨h1,h2⟩
  ·exact .inl ⟨d,h2,EN hl h3⟩
  ·exact .inr ⟨h1,h2.congr (fun _ _=>rfl) fun d U' ⟨S1,h3,h5,h4⟩=>⟨S1,h3,h5,EN hl h4⟩⟩
theorem V4(hN:P.funcs.size=N)(hm:P.follows .mixedOrders=true){l:List Oper}{id:Nat}{γ:Fr}{O:Sig}(ord E C K:List Nat)(B:Sig->Prop)(hB:CZ l.toArray E C K ord=true)(hC:B O)
  {lp:List (Bool×Bool×Bool×Oper)} (aQ:KG l E C K ord=some lp) (h0:MOI P ro n l.toArray N Q df lp B γ O):DWp P ro n (.region id l.toArray true) Q ⟨γ,O,df⟩:=by
 intro g w a r hr hs
 refine wpIn_region_any hm ?_
 have ar:Closed l.toArray (Array.replicate l.toArray.size false):=by
  intro q o _ hq
  rcases Nat.lt_or_ge q l.length with h'|h'
  ·simp[h']at hq
  ·simp[h']at hq
 have au:SimS P g n ⟨γ,O,df⟩ a { w with drawn:=w.drawn+1 }:=
  ⟨⟨fun b o v h=>hs.sim.imm b o v h,hs.sim.keep,fun i o h=>by
   have:=hs.sim.obj i o h
   cases o<;>exact this,hs.sim.inj,hs.sim.free,hs.sim.htop,hs.sim.hdom,hs.sim.fin,hs.sim.io,hs.sim.tab⟩,hs.tmps,hs.df⟩
 have am:∀i∈ord,i<l.toArray.size:=by
  intro i hi
  obtain⟨p1,p2,hp⟩:=List.append_of_mem hi
  have ai:=hB
  unfold CZ at ai
  simp only[Bool.and_eq_true]at ai
  rw[hp]at ai
  obtain⟨_,_,_,o',aq,_⟩:=D6 p1 [] ai.1.1
  exact(Array.getElem?_eq_some_iff.1 aq).1
 have hlen:ord.length=l.toArray.size:=by
  have ai:=hB
  unfold CZ at ai
  simp only[Bool.and_eq_true,beq_iff_eq]at ai
  exact ai.2
 have:=QI hN hB hr ord.length ord (Array.replicate l.toArray.size false) B γ O rfl (by simp) (Dl am).symm ar (EN aQ h0) hC g _ a (.refl g) au
 rw[hlen]at this
 exact this
theorem O4(ht:B2 P tab){e c k:Bool}{t:Nat}{op:Op}{ty:TypeId}{pos:String}{after:Array Edge}{d:D}{l:List (Bool×Bool×Bool×Oper)}{γ Sr:Fr}{O:Sig}(hr:D1 op=true)(aJ:decide (t<n)=true)(hl:A0 γ (A5 op.operands.toList)=some Sr)(hd:∀s,(c=true->B s)->dopX tab Sr s op=some d)
  (h:MOI P ro n ops N Q df l B ((t,d)::γ) O):MOI P ro n ops N Q df ((e,c,k,⟨some t,op,ty,pos,after,none⟩)::l) B γ O:=by
 refine .inl ⟨d,fun s hs=>?_,h⟩
 have aM:=(Be (C3 hl)) ▸ hd s hs
 refine⟨aJ,.inl ⟨by rw[Ak];rfl,C8 hr,Jc ht aM,fun U' hU g w a hs hT=>?_⟩⟩
 refine F7 ht hs hT (?_:dopX tab (only _ γ) U' op=some d)
 rw[Be (V':=γ) fun x hx=>Bo (o:=⟨some t,op,ty,pos,after,none⟩) hx]
 exact F8 hU aM
theorem QR(ht:B2 P tab){c k:Bool}{o:Oper}{d:D}{U':Sig}{l:List (Bool×Bool×Bool×Oper)}{γ:Fr}{O:Sig}(B1:Sig->Prop)(ho:Ap n o=true)(hw:Ax ops γ o=some true)(he:eopD tab γ O o.op=some (d,U'))(hC:B1 U')(hk:k=false->B1=B)
  (h:MOI P ro n ops N Q df l B1 (putD o.dst d γ) U'):MOI P ro n ops N Q df ((true,c,k,o)::l) B γ O:=by
 refine .inr ⟨rfl,ho,by rw[Ak];exact hw,?_⟩
 refine Fo ht (by rw[Ak];exact hw) (by rw[Bp (V':=γ) fun x hx=>Bo hx];exact he) ho (Aw ⟨rfl,?_⟩)
 cases hd:o.dst with
 |none=>rw[hd]at h;exact⟨B1,hC,hk,h⟩
 |some t=>
  rw[hd]at h
  simp only[putD,A6,if_true]
  exact⟨B1,hC,hk,h⟩
theorem moI_1{c k:Bool}{t:Nat}{op:Op}{ty:TypeId}{pos:String}{after:Array Edge}{l:List (Bool×Bool×Bool×Oper)}{γ:Fr}{O:Sig}(B1:Sig->Prop)(hk:k=false->B1=B)(h:∀U2,(∀x∈op.operands,ev U2 x=ev γ x)->DOps P ro n ops (EQ df (some t) (fun d U'=>B1 U'/\MOI P ro n ops N Q df l B1 ((t,d)::γ) U') (fun d U'=> ∀V',Q (.panic d) ⟨V',U',df⟩)) [⟨some t,op,ty,pos,after,none⟩] ⟨U2,O,df⟩)(aJ:decide (t<n)=true)(hw:Ax ops (only (Oper.looksAt ops ⟨some t,op,ty,pos,after,none⟩) γ) ⟨some t,op,ty,pos,after,none⟩=some true):MOI P ro n ops N Q df ((true,c,k,⟨some t,op,ty,pos,after,none⟩)::l) B γ O:=
 .inr ⟨rfl,aJ,hw,Mx (h _ fun x hx=>Bo (o:=⟨some t,op,ty,pos,after,none⟩) hx) fun x s hq=>by
  cases x with
  |normal=>exact⟨hq.1,⟨B1,hq.2.1,hk,hq.2.2⟩⟩
  |panic d=>exact hq
  |_=>exact hq⟩
end
end Go.DL
namespace Go.DL
open Go.Proofs.Tryz
open Go Go.Proofs
@[simp] abbrev sT(n:Nat):Ty:=⟨.slice n,false,1,24,[.nils]⟩
@[simp] abbrev pT(n:Nat):Ty:=⟨.ptr n,false,1,8,[.nilp]⟩
@[simp] abbrev iT:Ty:=⟨.int .i64,false,1,8,[.int .i64 0]⟩
@[simp] abbrev fT:Ty:=⟨.func,false,1,8,[.nilf]⟩
def tyRows:List (Nat×Ty):=[
 (1,fT),
 (2,iT),
 (3,iT),
 (4,⟨.bool,false,1,1,[.bool false]⟩),
 (5,⟨.int .u8,false,1,1,[.int .u8 0]⟩),
 (6,⟨.int .u8,false,1,1,[.int .u8 0]⟩),
 (7,⟨.struct [(0,2),(1,3),(2,4),(3,6)],true,4,24,[.int .i64 0,.int .i64 0,.bool false,.int .u8 0]⟩),
 (8,⟨.struct [(0,2),(1,3),(2,4),(3,6)],true,4,24,[.int .i64 0,.int .i64 0,.bool false,.int .u8 0]⟩),
 (9,⟨.str,false,1,16,[.str []]⟩),
 (10,⟨.str,false,1,16,[.str []]⟩),
 (11,⟨.str,false,1,16,[.str []]⟩),
 (12,⟨.int .u64,false,1,8,[.int .u64 0]⟩),
 (13,⟨.struct [(0,9),(1,12)],true,2,24,[.str [],.int .u64 0]⟩),
 (14,⟨.struct [(0,9),(1,12)],true,2,24,[.str [],.int .u64 0]⟩),
 (15,pT 464),
 (16,pT 467),
 (17,pT 474),
 (18,⟨.struct [(0,17)],true,1,8,[.nilp]⟩),
 (19,⟨.struct [(0,17)],true,1,8,[.nilp]⟩),
 (20,⟨.iface,false,1,16,[.niliface]⟩),
 (21,⟨.int .i32,false,1,4,[.int .i32 0]⟩),
 (22,sT 208),
 (23,sT 3),
 (24,sT 64),
 (25,sT 211),
 (26,⟨.struct [(0,22),(1,3),(2,23),(3,24),(4,25),(5,3)],true,6,112,[.nils,.int .i64 0,.nils,.nils,.nils,.int .i64 0]⟩),
 (27,⟨.struct [(0,22),(1,3),(2,23),(3,24),(4,25),(5,3)],true,6,112,[.nils,.int .i64 0,.nils,.nils,.nils,.int .i64 0]⟩),
 (28,sT 87),
 (30,⟨.struct [(0,28),(1,23),(2,3)],true,3,56,[.nils,.nils,.int .i64 0]⟩),
 (31,sT 131),
 (32,sT 40),
 (33,⟨.struct [(0,3),(1,32),(2,32)],true,3,56,[.int .i64 0,.nils,.nils]⟩),
 (34,⟨.struct [(0,3),(1,32),(2,32)],true,3,56,[.int .i64 0,.nils,.nils]⟩),
 (35,⟨.struct [(0,31),(1,34)],true,4,80,[.nils,.int .i64 0,.nils,.nils]⟩),
 (36,⟨.struct [(0,31),(1,34)],true,4,80,[.nils,.int .i64 0,.nils,.nils]⟩),
 (37,iT),
 (38,iT),
 (39,⟨.struct [(0,38),(1,3)],true,2,16,[.int .i64 0,.int .i64 0]⟩),
 (40,⟨.struct [(0,38),(1,3)],true,2,16,[.int .i64 0,.int .i64 0]⟩),
 (41,iT),
 (42,sT 203),
 (44,⟨.struct [(0,37),(1,40),(3,3),(4,32),(5,41),(6,34),(9,31),(10,42)],true,11,168,[.int .i64 0,.int .i64 0,.int .i64 0,.int .i64 0,.nils,.int .i64 0,.int .i64 0,.nils,.nils,.nils,.nils]⟩),
 (45,iT),
 (48,fT),
 (49,fT),
 (50,fT),
 (51,⟨.array 3 3,true,3,24,[.int .i64 0,.int .i64 0,.int .i64 0]⟩),
 (52,⟨.int .u16,false,1,2,[.int .u16 0]⟩),
 (53,⟨.struct [(0,5),(1,51),(4,52)],true,5,40,[.int .u8 0,.int .i64 0,.int .i64 0,.int .i64 0,.int .u16 0]⟩),
 (55,fT),
 (58,iT),
 (59,iT),
 (60,sT 62),
 (62,⟨.struct [(0,59),(1,3),(2,23),(3,3),(4,3),(5,60)],true,6,80,[.int .i64 0,.int .i64 0,.nils,.int .i64 0,.int .i64 0,.nils]⟩),
 (63,⟨.struct [(0,58),(1,3),(2,62),(8,3)],true,9,104,[.int .i64 0,.int .i64 0,.int .i64 0,.int .i64 0,.nils,.int .i64 0,.int .i64 0,.nils,.int .i64 0]⟩),
 (64,⟨.struct [(0,58),(1,3),(2,62),(8,3)],true,9,104,[.int .i64 0,.int .i64 0,.int .i64 0,.int .i64 0,.nils,.int .i64 0,.int .i64 0,.nils,.int .i64 0]⟩),
 (66,fT),
 (71,fT),
 (75,sT 79),
 (77,fT),
 (78,⟨.struct [(0,3),(1,3)],true,2,16,[.int .i64 0,.int .i64 0]⟩),
 (79,⟨.struct [(0,3),(1,3)],true,2,16,[.int .i64 0,.int .i64 0]⟩),
 (81,fT),
 (82,fT),
 (83,fT),
 (85,iT),
 (86,⟨.struct [(0,85),(1,3)],true,2,16,[.int .i64 0,.int .i64 0]⟩),
 (87,⟨.struct [(0,85),(1,3)],true,2,16,[.int .i64 0,.int .i64 0]⟩),
 (91,fT),
 (96,sT 5),
 (98,pT 103),
 (101,⟨.map 3 79,false,1,8,[.nilmap]⟩),
 (103,⟨.struct [(0,30),(3,27),(9,101)],true,10,176,[.nils,.nils,.int .i64 0,.nils,.int .i64 0,.nils,.nils,.nils,.int .i64 0,.nilmap]⟩),
 (104,pT 106),
 (106,⟨.struct [(0,44),(11,27),(17,34)],true,20,336,[.int .i64 0,.int .i64 0,.int .i64 0,.int .i64 0,.nils,.int .i64 0,.int .i64 0,.nils,.nils,.nils,.nils,.nils,.int .i64 0,.nils,.nils,.nils,.int .i64 0,.int .i64 0,.nils,.nils]⟩),
 (107,fT),
 (108,fT),
 (109,⟨.array 22 108,true,22,176,[.nilf,.nilf,.nilf,.nilf,.nilf,.nilf,.nilf,.nilf,.nilf,.nilf,.nilf,.nilf,.nilf,.nilf,.nilf,.nilf,.nilf,.nilf,.nilf,.nilf,.nilf,.nilf]⟩),
 (110,fT),
 (112,fT),
 (113,fT),
 (120,sT 23),
 (122,⟨.struct [(0,120),(1,23)],true,2,48,[.nils,.nils]⟩),
 (123,fT),
 (125,pT 127),
 (126,⟨.struct [(0,30)],true,3,56,[.nils,.nils,.int .i64 0]⟩),
 (127,⟨.struct [(0,30)],true,3,56,[.nils,.nils,.int .i64 0]⟩),
 (128,fT),
 (130,⟨.struct [(0,3),(1,32)],true,2,32,[.int .i64 0,.nils]⟩),
 (131,⟨.struct [(0,3),(1,32)],true,2,32,[.int .i64 0,.nils]⟩),
 (145,fT),
 (147,sT 5),
 (157,pT 159),
 (159,⟨.struct [(0,157),(1,96)],true,2,32,[.nilp,.nils]⟩),
 (161,⟨.iface,false,1,16,[.niliface]⟩),
 (165,sT 9),
 (174,⟨.map 9 85,false,1,8,[.nilmap]⟩),
 (180,⟨.struct [(0,3),(1,3),(2,4)],true,3,24,[.int .i64 0,.int .i64 0,.bool false]⟩),
 (181,sT 180),
 (182,fT),
 (188,fT),
 (189,fT),
 (196,fT),
 (199,⟨.struct [(0,27),(6,30),(9,44),(20,34)],true,23,392,[.nils,.int .i64 0,.nils,.nils,.nils,.int .i64 0,.nils,.nils,.int .i64 0,.int .i64 0,.int .i64 0,.int .i64 0,.int .i64 0,.nils,.int .i64 0,.int .i64 0,.nils,.nils,.nils,.nils,.int .i64 0,.nils,.nils]⟩),
 (201,iT),
 (203,⟨.struct [(0,201),(1,3),(2,32)],true,3,40,[.int .i64 0,.int .i64 0,.nils]⟩),
 (205,⟨.struct [(0,3),(1,3)],true,2,16,[.int .i64 0,.int .i64 0]⟩),
 (206,sT 205),
 (208,⟨.struct [(0,23),(1,23),(2,206)],true,3,72,[.nils,.nils,.nils]⟩),
 (209,iT),
 (211,⟨.struct [(0,209),(1,3),(2,23)],true,3,40,[.int .i64 0,.int .i64 0,.nils]⟩),
 (237,fT),
 (240,pT 147),
 (245,⟨.struct [],true,0,0,[]⟩),
 (246,pT 5),
 (248,fT),
 (256,pT 40),
 (267,fT),
 (268,fT),
 (271,⟨.struct [(0,3),(1,3)],true,2,16,[.int .i64 0,.int .i64 0]⟩),
 (274,⟨.iface,false,1,16,[.niliface]⟩),
 (276,iT),
 (277,⟨.struct [],true,0,0,[]⟩),
 (279,fT),
 (283,⟨.map 209 85,false,1,8,[.nilmap]⟩),
 (296,fT),
 (300,fT),
 (307,⟨.map 3 4,false,1,8,[.nilmap]⟩),
 (310,pT 357),
 (313,pT 131),
 (316,⟨.struct [],true,0,0,[]⟩),
 (320,⟨.int .u64,false,1,8,[.int .u64 0]⟩),
 (323,fT),
 (324,pT 421),
 (338,⟨.int .u64,false,1,8,[.int .u64 0]⟩),
 (354,⟨.map 3 23,false,1,8,[.nilmap]⟩),
 (355,⟨.map 3 131,false,1,8,[.nilmap]⟩),
 (357,⟨.struct [(0,27),(6,354),(7,355)],true,8,128,[.nils,.int .i64 0,.nils,.nils,.nils,.int .i64 0,.nilmap,.nilmap]⟩),
 (361,fT),
 (363,fT),
 (366,fT),
 (367,pT 372),
 (370,sT 415),
 (372,⟨.struct [(0,120),(1,370),(2,354)],true,3,56,[.nils,.nils,.nilmap]⟩),
 (373,⟨.int .u32,false,1,4,[.int .u32 0]⟩),
 (403,fT),
 (407,⟨.map 3 3,false,1,8,[.nilmap]⟩),
 (408,fT),
 (409,fT),
 (413,fT),
 (415,⟨.array 1 338,true,1,8,[.int .u64 0]⟩),
 (418,⟨.int .u64,false,1,8,[.int .u64 0]⟩),
 (419,⟨.array 63 418,true,63,504,(List.replicate 63 (.int .u64 0))⟩),
 (421,⟨.struct [(0,122),(2,419)],true,65,552,[.nils,.nils,.int .u64 0,.int .u64 0,.int .u64 0,.int .u64 0,.int .u64 0,.int .u64 0,.int .u64 0,.int .u64 0,.int .u64 0,.int .u64 0,.int .u64 0,.int .u64 0,.int .u64 0,.int .u64 0,.int .u64 0,.int .u64 0,.int .u64 0,.int .u64 0,.int .u64 0,.int .u64 0,.int .u64 0,.int .u64 0,.int .u64 0,.int .u64 0,.int .u64 0,.int .u64 0,.int .u64 0,.int .u64 0,.int .u64 0,.int .u64 0,.int .u64 0,.int .u64 0,.int .u64 0,.int .u64 0,.int .u64 0,.int .u64 0,.int .u64 0,.int .u64 0,.int .u64 0,.int .u64 0,.int .u64 0,.int .u64 0,.int .u64 0,.int .u64 0,.int .u64 0,.int .u64 0,.int .u64 0,.int .u64 0,.int .u64 0,.int .u64 0,.int .u64 0,.int .u64 0,.int .u64 0,.int .u64 0,.int .u64 0,.int .u64 0,.int .u64 0,.int .u64 0,.int .u64 0,.int .u64 0,.int .u64 0,.int .u64 0,.int .u64 0]⟩),
 (425,pT 3),
 (464,⟨.struct [(0,17),(1,17),(2,17),(3,9)],true,4,40,[.nilp,.nilp,.nilp,.str []]⟩),
 (465,⟨.array 0 16,true,0,0,[]⟩),
 (467,⟨.struct [(0,465)],true,0,0,[]⟩),
 (468,⟨.int .u8,false,1,1,[.int .u8 0]⟩),
 (469,⟨.int .u8,false,1,1,[.int .u8 0]⟩),
 (470,fT),
 (471,⟨.int .i32,false,1,4,[.int .i32 0]⟩),
 (472,⟨.int .i32,false,1,4,[.int .i32 0]⟩),
 (474,⟨.struct [(0,12),(1,12),(2,373),(3,468),(4,5),(5,5),(6,469),(7,470),(8,246),(9,471),(10,472)],true,11,48,[.int .u64 0,.int .u64 0,.int .u32 0,.int .u8 0,.int .u8 0,.int .u8 0,.int .u8 0,.nilf,.nilp,.int .i32 0,.int .i32 0]⟩)
]
def tab(t:Nat):Ty:=(tyRows.lookup t).getD ⟨.other,false,0,0,[]⟩
theorem TV:tyRows.all (fun p=>N1 prog p.1 p.2)=true:=by kernel_rfl
theorem JQ{α:Type}: ∀{l:List (Nat×α)}{t:Nat}{x:α},l.lookup t=some x->(t,x)∈l
 |(k,y)::l,t,x,h=>by
  simp only[List.lookup]at h
  split at h
  ·rename_i e;cases h;have:=beq_iff_eq.1 e;subst this;simp
  ·exact List.mem_cons_of_mem _ (JQ h)
theorem Ac:B2 prog tab:=by
 intro t
 unfold tab
 cases h:tyRows.lookup t with
 |none=>exact trivial
 |some i=>exact Lm (List.all_eq_true.1 TV _ (JQ h))
theorem Ab:prog.funcs.size=431:=by kernel_rfl
@[simp] theorem tab1:tab 1=fT:=rfl
@[simp] theorem tab2:tab 2=iT:=rfl
@[simp] theorem tab3:tab 3=iT:=rfl
@[simp] theorem tab4:tab 4=⟨.bool,false,1,1,[.bool false]⟩:=rfl
@[simp] theorem tab5:tab 5=⟨.int .u8,false,1,1,[.int .u8 0]⟩:=rfl
@[simp] theorem tab6:tab 6=⟨.int .u8,false,1,1,[.int .u8 0]⟩:=rfl
@[simp] theorem tab7:tab 7=⟨.struct [(0,2),(1,3),(2,4),(3,6)],true,4,24,[.int .i64 0,.int .i64 0,.bool false,.int .u8 0]⟩:=rfl
@[simp] theorem tab8:tab 8=⟨.struct [(0,2),(1,3),(2,4),(3,6)],true,4,24,[.int .i64 0,.int .i64 0,.bool false,.int .u8 0]⟩:=rfl
@[simp] theorem tab9:tab 9=⟨.str,false,1,16,[.str []]⟩:=rfl
@[simp] theorem tab10:tab 10=⟨.str,false,1,16,[.str []]⟩:=rfl
@[simp] theorem tab11:tab 11=⟨.str,false,1,16,[.str []]⟩:=rfl
@[simp] theorem tab12:tab 12=⟨.int .u64,false,1,8,[.int .u64 0]⟩:=rfl
@[simp] theorem tab13:tab 13=⟨.struct [(0,9),(1,12)],true,2,24,[.str [],.int .u64 0]⟩:=rfl
@[simp] theorem tab14:tab 14=⟨.struct [(0,9),(1,12)],true,2,24,[.str [],.int .u64 0]⟩:=rfl
@[simp] theorem tab15:tab 15=pT 464:=rfl
@[simp] theorem tab16:tab 16=pT 467:=rfl
@[simp] theorem tab17:tab 17=pT 474:=rfl
@[simp] theorem tab18:tab 18=⟨.struct [(0,17)],true,1,8,[.nilp]⟩:=rfl
@[simp] theorem tab19:tab 19=⟨.struct [(0,17)],true,1,8,[.nilp]⟩:=rfl
@[simp] theorem tab20:tab 20=⟨.iface,false,1,16,[.niliface]⟩:=rfl
@[simp] theorem tab21:tab 21=⟨.int .i32,false,1,4,[.int .i32 0]⟩:=rfl
@[simp] theorem tab22:tab 22=sT 208:=rfl
@[simp] theorem tab23:tab 23=sT 3:=rfl
@[simp] theorem tab24:tab 24=sT 64:=rfl
@[simp] theorem tab25:tab 25=sT 211:=rfl
@[simp] theorem tab26:tab 26=⟨.struct [(0,22),(1,3),(2,23),(3,24),(4,25),(5,3)],true,6,112,[.nils,.int .i64 0,.nils,.nils,.nils,.int .i64 0]⟩:=rfl
@[simp] theorem tab27:tab 27=⟨.struct [(0,22),(1,3),(2,23),(3,24),(4,25),(5,3)],true,6,112,[.nils,.int .i64 0,.nils,.nils,.nils,.int .i64 0]⟩:=rfl
@[simp] theorem tab28:tab 28=sT 87:=rfl
@[simp] theorem tab30:tab 30=⟨.struct [(0,28),(1,23),(2,3)],true,3,56,[.nils,.nils,.int .i64 0]⟩:=rfl
@[simp] theorem tab31:tab 31=sT 131:=rfl
@[simp] theorem tab32:tab 32=sT 40:=rfl
@[simp] theorem tab33:tab 33=⟨.struct [(0,3),(1,32),(2,32)],true,3,56,[.int .i64 0,.nils,.nils]⟩:=rfl
@[simp] theorem tab34:tab 34=⟨.struct [(0,3),(1,32),(2,32)],true,3,56,[.int .i64 0,.nils,.nils]⟩:=rfl
@[simp] theorem tab35:tab 35=⟨.struct [(0,31),(1,34)],true,4,80,[.nils,.int .i64 0,.nils,.nils]⟩:=rfl
@[simp] theorem tab36:tab 36=⟨.struct [(0,31),(1,34)],true,4,80,[.nils,.int .i64 0,.nils,.nils]⟩:=rfl
@[simp] theorem tab37:tab 37=iT:=rfl
@[simp] theorem tab38:tab 38=iT:=rfl
@[simp] theorem tab39:tab 39=⟨.struct [(0,38),(1,3)],true,2,16,[.int .i64 0,.int .i64 0]⟩:=rfl
@[simp] theorem tab40:tab 40=⟨.struct [(0,38),(1,3)],true,2,16,[.int .i64 0,.int .i64 0]⟩:=rfl
@[simp] theorem tab41:tab 41=iT:=rfl
@[simp] theorem tab42:tab 42=sT 203:=rfl
@[simp] theorem tab44:tab 44=⟨.struct [(0,37),(1,40),(3,3),(4,32),(5,41),(6,34),(9,31),(10,42)],true,11,168,[.int .i64 0,.int .i64 0,.int .i64 0,.int .i64 0,.nils,.int .i64 0,.int .i64 0,.nils,.nils,.nils,.nils]⟩:=rfl
@[simp] theorem tab45:tab 45=iT:=rfl
@[simp] theorem tab48:tab 48=fT:=rfl
@[simp] theorem tab49:tab 49=fT:=rfl
@[simp] theorem tab50:tab 50=fT:=rfl
@[simp] theorem tab51:tab 51=⟨.array 3 3,true,3,24,[.int .i64 0,.int .i64 0,.int .i64 0]⟩:=rfl
@[simp] theorem tab52:tab 52=⟨.int .u16,false,1,2,[.int .u16 0]⟩:=rfl
@[simp] theorem tab53:tab 53=⟨.struct [(0,5),(1,51),(4,52)],true,5,40,[.int .u8 0,.int .i64 0,.int .i64 0,.int .i64 0,.int .u16 0]⟩:=rfl
@[simp] theorem tab55:tab 55=fT:=rfl
@[simp] theorem tab58:tab 58=iT:=rfl
@[simp] theorem tab59:tab 59=iT:=rfl
@[simp] theorem tab60:tab 60=sT 62:=rfl
@[simp] theorem tab62:tab 62=⟨.struct [(0,59),(1,3),(2,23),(3,3),(4,3),(5,60)],true,6,80,[.int .i64 0,.int .i64 0,.nils,.int .i64 0,.int .i64 0,.nils]⟩:=rfl
@[simp] theorem tab63:tab 63=⟨.struct [(0,58),(1,3),(2,62),(8,3)],true,9,104,[.int .i64 0,.int .i64 0,.int .i64 0,.int .i64 0,.nils,.int .i64 0,.int .i64 0,.nils,.int .i64 0]⟩:=rfl
@[simp] theorem tab64:tab 64=⟨.struct [(0,58),(1,3),(2,62),(8,3)],true,9,104,[.int .i64 0,.int .i64 0,.int .i64 0,.int .i64 0,.nils,.int .i64 0,.int .i64 0,.nils,.int .i64 0]⟩:=rfl
@[simp] theorem tab66:tab 66=fT:=rfl
@[simp] theorem tab71:tab 71=fT:=rfl
@[simp] theorem tab75:tab 75=sT 79:=rfl
@[simp] theorem tab77:tab 77=fT:=rfl
@[simp] theorem tab78:tab 78=⟨.struct [(0,3),(1,3)],true,2,16,[.int .i64 0,.int .i64 0]⟩:=rfl
@[simp] theorem tab79:tab 79=⟨.struct [(0,3),(1,3)],true,2,16,[.int .i64 0,.int .i64 0]⟩:=rfl
@[simp] theorem tab81:tab 81=fT:=rfl
@[simp] theorem tab82:tab 82=fT:=rfl
@[simp] theorem tab83:tab 83=fT:=rfl
@[simp] theorem tab85:tab 85=iT:=rfl
@[simp] theorem tab86:tab 86=⟨.struct [(0,85),(1,3)],true,2,16,[.int .i64 0,.int .i64 0]⟩:=rfl
@[simp] theorem tab87:tab 87=⟨.struct [(0,85),(1,3)],true,2,16,[.int .i64 0,.int .i64 0]⟩:=rfl
@[simp] theorem tab91:tab 91=fT:=rfl
@[simp] theorem tab96:tab 96=sT 5:=rfl
@[simp] theorem tab98:tab 98=pT 103:=rfl
@[simp] theorem tab101:tab 101=⟨.map 3 79,false,1,8,[.nilmap]⟩:=rfl
@[simp] theorem tab103:tab 103=⟨.struct [(0,30),(3,27),(9,101)],true,10,176,[.nils,.nils,.int .i64 0,.nils,.int .i64 0,.nils,.nils,.nils,.int .i64 0,.nilmap]⟩:=rfl
@[simp] theorem tab104:tab 104=pT 106:=rfl
@[simp] theorem tab106:tab 106=⟨.struct [(0,44),(11,27),(17,34)],true,20,336,[.int .i64 0,.int .i64 0,.int .i64 0,.int .i64 0,.nils,.int .i64 0,.int .i64 0,.nils,.nils,.nils,.nils,.nils,.int .i64 0,.nils,.nils,.nils,.int .i64 0,.int .i64 0,.nils,.nils]⟩:=rfl
@[simp] theorem tab107:tab 107=fT:=rfl
@[simp] theorem tab108:tab 108=fT:=rfl
@[simp] theorem tab109:tab 109=⟨.array 22 108,true,22,176,[.nilf,.nilf,.nilf,.nilf,.nilf,.nilf,.nilf,.nilf,.nilf,.nilf,.nilf,.nilf,.nilf,.nilf,.nilf,.nilf,.nilf,.nilf,.nilf,.nilf,.nilf,.nilf]⟩:=rfl
@[simp] theorem tab110:tab 110=fT:=rfl
@[simp] theorem tab112:tab 112=fT:=rfl
@[simp] theorem tab113:tab 113=fT:=rfl
@[simp] theorem tab120:tab 120=sT 23:=rfl
@[simp] theorem tab122:tab 122=⟨.struct [(0,120),(1,23)],true,2,48,[.nils,.nils]⟩:=rfl
@[simp] theorem tab123:tab 123=fT:=rfl
@[simp] theorem tab125:tab 125=pT 127:=rfl
@[simp] theorem tab126:tab 126=⟨.struct [(0,30)],true,3,56,[.nils,.nils,.int .i64 0]⟩:=rfl
@[simp] theorem tab127:tab 127=⟨.struct [(0,30)],true,3,56,[.nils,.nils,.int .i64 0]⟩:=rfl
@[simp] theorem tab128:tab 128=fT:=rfl
@[simp] theorem tab130:tab 130=⟨.struct [(0,3),(1,32)],true,2,32,[.int .i64 0,.nils]⟩:=rfl
@[simp] theorem tab131:tab 131=⟨.struct [(0,3),(1,32)],true,2,32,[.int .i64 0,.nils]⟩:=rfl
@[simp] theorem tab145:tab 145=fT:=rfl
@[simp] theorem tab147:tab 147=sT 5:=rfl
@[simp] theorem tab157:tab 157=pT 159:=rfl
@[simp] theorem tab159:tab 159=⟨.struct [(0,157),(1,96)],true,2,32,[.nilp,.nils]⟩:=rfl
@[simp] theorem tab161:tab 161=⟨.iface,false,1,16,[.niliface]⟩:=rfl
@[simp] theorem tab165:tab 165=sT 9:=rfl
@[simp] theorem tab174:tab 174=⟨.map 9 85,false,1,8,[.nilmap]⟩:=rfl
@[simp] theorem tab180:tab 180=⟨.struct [(0,3),(1,3),(2,4)],true,3,24,[.int .i64 0,.int .i64 0,.bool false]⟩:=rfl
@[simp] theorem tab181:tab 181=sT 180:=rfl
@[simp] theorem tab182:tab 182=fT:=rfl
@[simp] theorem tab188:tab 188=fT:=rfl
@[simp] theorem tab189:tab 189=fT:=rfl
@[simp] theorem tab196:tab 196=fT:=rfl
@[simp] theorem tab199:tab 199=⟨.struct [(0,27),(6,30),(9,44),(20,34)],true,23,392,[.nils,.int .i64 0,.nils,.nils,.nils,.int .i64 0,.nils,.nils,.int .i64 0,.int .i64 0,.int .i64 0,.int .i64 0,.int .i64 0,.nils,.int .i64 0,.int .i64 0,.nils,.nils,.nils,.nils,.int .i64 0,.nils,.nils]⟩:=rfl
@[simp] theorem tab201:tab 201=iT:=rfl
@[simp] theorem tab203:tab 203=⟨.struct [(0,201),(1,3),(2,32)],true,3,40,[.int .i64 0,.int .i64 0,.nils]⟩:=rfl
@[simp] theorem tab205:tab 205=⟨.struct [(0,3),(1,3)],true,2,16,[.int .i64 0,.int .i64 0]⟩:=rfl
@[simp] theorem tab206:tab 206=sT 205:=rfl
@[simp] theorem tab208:tab 208=⟨.struct [(0,23),(1,23),(2,206)],true,3,72,[.nils,.nils,.nils]⟩:=rfl
@[simp] theorem tab209:tab 209=iT:=rfl
@[simp] theorem tab211:tab 211=⟨.struct [(0,209),(1,3),(2,23)],true,3,40,[.int .i64 0,.int .i64 0,.nils]⟩:=rfl
@[simp] theorem tab237:tab 237=fT:=rfl
@[simp] theorem tab240:tab 240=pT 147:=rfl
@[simp] theorem tab245:tab 245=⟨.struct [],true,0,0,[]⟩:=rfl
@[simp] theorem tab246:tab 246=pT 5:=rfl
@[simp] theorem tab248:tab 248=fT:=rfl
@[simp] theorem tab256:tab 256=pT 40:=rfl
@[simp] theorem tab267:tab 267=fT:=rfl
@[simp] theorem tab268:tab 268=fT:=rfl
@[simp] theorem tab271:tab 271=⟨.struct [(0,3),(1,3)],true,2,16,[.int .i64 0,.int .i64 0]⟩:=rfl
@[simp] theorem tab274:tab 274=⟨.iface,false,1,16,[.niliface]⟩:=rfl
@[simp] theorem tab276:tab 276=iT:=rfl
@[simp] theorem tab277:tab 277=⟨.struct [],true,0,0,[]⟩:=rfl
@[simp] theorem tab279:tab 279=fT:=rfl
@[simp] theorem tab283:tab 283=⟨.map 209 85,false,1,8,[.nilmap]⟩:=rfl
@[simp] theorem tab296:tab 296=fT:=rfl
@[simp] theorem tab300:tab 300=fT:=rfl
@[simp] theorem tab307:tab 307=⟨.map 3 4,false,1,8,[.nilmap]⟩:=rfl
@[simp] theorem tab310:tab 310=pT 357:=rfl
@[simp] theorem tab313:tab 313=pT 131:=rfl
@[simp] theorem tab316:tab 316=⟨.struct [],true,0,0,[]⟩:=rfl
@[simp] theorem tab320:tab 320=⟨.int .u64,false,1,8,[.int .u64 0]⟩:=rfl
@[simp] theorem tab323:tab 323=fT:=rfl
@[simp] theorem tab324:tab 324=pT 421:=rfl
@[simp] theorem tab338:tab 338=⟨.int .u64,false,1,8,[.int .u64 0]⟩:=rfl
@[simp] theorem tab354:tab 354=⟨.map 3 23,false,1,8,[.nilmap]⟩:=rfl
@[simp] theorem tab355:tab 355=⟨.map 3 131,false,1,8,[.nilmap]⟩:=rfl
@[simp] theorem tab357:tab 357=⟨.struct [(0,27),(6,354),(7,355)],true,8,128,[.nils,.int .i64 0,.nils,.nils,.nils,.int .i64 0,.nilmap,.nilmap]⟩:=rfl
@[simp] theorem tab361:tab 361=fT:=rfl
@[simp] theorem tab363:tab 363=fT:=rfl
@[simp] theorem tab366:tab 366=fT:=rfl
@[simp] theorem tab367:tab 367=pT 372:=rfl
@[simp] theorem tab370:tab 370=sT 415:=rfl
@[simp] theorem tab372:tab 372=⟨.struct [(0,120),(1,370),(2,354)],true,3,56,[.nils,.nils,.nilmap]⟩:=rfl
@[simp] theorem tab373:tab 373=⟨.int .u32,false,1,4,[.int .u32 0]⟩:=rfl
@[simp] theorem tab403:tab 403=fT:=rfl
@[simp] theorem tab407:tab 407=⟨.map 3 3,false,1,8,[.nilmap]⟩:=rfl
@[simp] theorem tab408:tab 408=fT:=rfl
@[simp] theorem tab409:tab 409=fT:=rfl
@[simp] theorem tab413:tab 413=fT:=rfl
@[simp] theorem tab415:tab 415=⟨.array 1 338,true,1,8,[.int .u64 0]⟩:=rfl
@[simp] theorem tab418:tab 418=⟨.int .u64,false,1,8,[.int .u64 0]⟩:=rfl
@[simp] theorem tab419:tab 419=⟨.array 63 418,true,63,504,(List.replicate 63 (.int .u64 0))⟩:=rfl
@[simp] theorem tab421:tab 421=⟨.struct [(0,122),(2,419)],true,65,552,[.nils,.nils,.int .u64 0,.int .u64 0,.int .u64 0,.int .u64 0,.int .u64 0,.int .u64 0,.int .u64 0,.int .u64 0,.int .u64 0,.int .u64 0,.int .u64 0,.int .u64 0,.int .u64 0,.int .u64 0,.int .u64 0,.int .u64 0,.int .u64 0,.int .u64 0,.int .u64 0,.int .u64 0,.int .u64 0,.int .u64 0,.int .u64 0,.int .u64 0,.int .u64 0,.int .u64 0,.int .u64 0,.int .u64 0,.int .u64 0,.int .u64 0,.int .u64 0,.int .u64 0,.int .u64 0,.int .u64 0,.int .u64 0,.int .u64 0,.int .u64 0,.int .u64 0,.int .u64 0,.int .u64 0,.int .u64 0,.int .u64 0,.int .u64 0,.int .u64 0,.int .u64 0,.int .u64 0,.int .u64 0,.int .u64 0,.int .u64 0,.int .u64 0,.int .u64 0,.int .u64 0,.int .u64 0,.int .u64 0,.int .u64 0,.int .u64 0,.int .u64 0,.int .u64 0,.int .u64 0,.int .u64 0,.int .u64 0,.int .u64 0,.int .u64 0]⟩:=rfl
@[simp] theorem tab425:tab 425=pT 3:=rfl
@[simp] theorem tab464:tab 464=⟨.struct [(0,17),(1,17),(2,17),(3,9)],true,4,40,[.nilp,.nilp,.nilp,.str []]⟩:=rfl
@[simp] theorem tab465:tab 465=⟨.array 0 16,true,0,0,[]⟩:=rfl
@[simp] theorem tab467:tab 467=⟨.struct [(0,465)],true,0,0,[]⟩:=rfl
@[simp] theorem tab468:tab 468=⟨.int .u8,false,1,1,[.int .u8 0]⟩:=rfl
@[simp] theorem tab469:tab 469=⟨.int .u8,false,1,1,[.int .u8 0]⟩:=rfl
@[simp] theorem tab470:tab 470=fT:=rfl
@[simp] theorem tab471:tab 471=⟨.int .i32,false,1,4,[.int .i32 0]⟩:=rfl
@[simp] theorem tab472:tab 472=⟨.int .i32,false,1,4,[.int .i32 0]⟩:=rfl
@[simp] theorem tab474:tab 474=⟨.struct [(0,12),(1,12),(2,373),(3,468),(4,5),(5,5),(6,469),(7,470),(8,246),(9,471),(10,472)],true,11,48,[.int .u64 0,.int .u64 0,.int .u32 0,.int .u8 0,.int .u8 0,.int .u8 0,.int .u8 0,.nilf,.nilp,.int .i32 0,.int .i32 0]⟩:=rfl
theorem mixed:prog.follows .mixedOrders=true:=by kernel_rfl
end Go.DL
