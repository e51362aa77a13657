/- A part of the proof. -/
import Derived.Test.YteldimffglchkaaGreatDoorR07
set_option linter.all false
namespace Go.DL
open Go
def isAl(o:Oper):Option (Nat×Nat):=match o with
 |⟨some t,.alloc T,_,_,_,none⟩=>some (t,T)
 |_=>none
theorem ET{o:Oper}{t T:Nat}(h:isAl o=some (t,T)): ∃ty pos af,o=⟨some t,.alloc T,ty,pos,af,none⟩:=by
 unfold isAl at h
 split at h
 ·cases h;exact⟨_,_,_,rfl⟩
 ·cases h
section
variable (P:Program)(ro:Ro)(n:Nat)(ops:Array Oper)(N:Nat)(S0:Sig)(Q:DX->St->Prop)(df:List DDf)(tab:Nat->Ty)
def Step2(e:Bool)(o:Oper)(γ:Fr)(O:Sig)(K:Fr->Sig->Prop):Prop:=
 match isAl o with
 |some (t,T)=> ∀k,O k=none->K ((t,.ptr k 0)::γ) (O.set k (.cells (tab T).zero))
 |none=>(∃d,Calm P n ops N S0 γ o d/\K (putD o.dst d γ) O) \/
  (e=true/\Eff P ro n ops df γ O o (fun d U'=>Sub S0 U'/\K (putD o.dst d γ) U') (fun d U'=> ∀V',Q (.panic d) ⟨V',U',df⟩))
def MOps2(E:List Nat):List Nat->Fr->Sig->Prop
 |[],γ,O=>DOps P ro n ops Q [] ⟨γ,O,df⟩
 |i::r,γ,O=> ∃o,ops[i]? = some o/\Step2 P ro n ops N S0 Q df tab (E.contains i) o γ O (MOps2 E r)
def MO2:List (Bool×Oper)->Fr->Sig->Prop
 |[],γ,O=>DOps P ro n ops Q [] ⟨γ,O,df⟩
 |(e,o)::r,γ,O=>Step2 P ro n ops N S0 Q df tab e o γ O (MO2 r)
end
section
variable {P:Program}{ro:Ro}{n:Nat}{ops:Array Oper}{N:Nat}{S0:Sig}{Q:DX->St->Prop}{df:List DDf}{E:List Nat}{tab:Nat->Ty}
theorem Step2.mono{e:Bool}{o:Oper}{γ V':Fr}{O:Sig}{K K':Fr->Sig->Prop}(h:Step2 P ro n ops N S0 Q df tab e o γ O K)(aj:Alike γ V')(hK:∀γ V' O,Alike γ V'->K γ O->K' V' O):Step2 P ro n ops N S0 Q df tab e o V' O K':=by
 unfold Step2 at h⊢
 split at h
 ·exact fun k hk=>hK _ _ _ (aj.put (some _) _) (h k hk)
 ·rcases h with⟨d,h2,h3⟩|⟨h1,h2⟩
  ·exact .inl ⟨d,h2.congr fun t _=>aj t,hK _ _ _ (aj.put _ _) h3⟩
  ·exact .inr ⟨h1,h2.congr (fun t _=>aj t) fun d U' ⟨h3,h4⟩=>⟨h3,hK _ _ _ (aj.put _ _) h4⟩⟩
theorem MOps2.alike: ∀(l:List Nat) {γ V':Fr}{O:Sig},Alike γ V'->MOps2 P ro n ops N S0 Q df tab E l γ O->MOps2 P ro n ops N S0 Q df tab E l V' O
 |[],_,_,_,h,k=>C5 h k
 |i::r,_,_,_,h,⟨o,ho,k⟩=>⟨o,ho,k.mono h fun _ _ _ h' k'=>MOps2.alike r h' k'⟩
theorem set_comm(O:Sig){k k':Nat}(h:k≠k')(x y:DObj):(O.set k x).set k' y=(O.set k' y).set k x:=by
 funext j
 simp only[Sig.set]
 by_cases h1:j=k'<;>by_cases h2:j=k<;>simp_all
theorem IV{i:Nat}{oi:Oper}(hi:ops[i]? = some oi)(post:List Nat): ∀(pre:List Nat) (γ:Fr) (O:Sig),
  (∀x∈pre,E.contains x=false /\ ∃ox,ops[x]? = some ox/\oi.apart ops ox=true/\((isAl ox).isSome=true->(isAl oi).isSome=true))->MOps2 P ro n ops N S0 Q df tab E (pre++i::post) γ O->MOps2 P ro n ops N S0 Q df tab E (i::(pre++post)) γ O
 |[],_,_,_,h=>h
 | x::pre,γ,O,hp,h=>by
  obtain⟨aQ,ox,ar,bb,aj⟩:=hp x (by simp)
  obtain⟨a1,a2,a3⟩:=Oper.apart_spec bb
  obtain⟨ox',aB,hx⟩:=h
  obtain rfl:ox'=ox:=by rw[ar]at aB;cases aB;rfl
  have ih:∀γ O,MOps2 P ro n ops N S0 Q df tab E (pre++i::post) γ O->MOps2 P ro n ops N S0 Q df tab E (i::(pre++post)) γ O:=fun γ O=>IV hi post pre γ O fun y hy=>hp y (by simp[hy])
  refine⟨oi,hi,?_⟩
  cases aD:isAl ox' with
  | some p =>
   obtain⟨t,T⟩:=p
   cases ax:isAl oi with
   |none=>rw[aD,ax]at aj;simp at aj
   | some q =>
    obtain⟨t',T'⟩:=q
    obtain⟨_,_,_,rfl⟩:=ET aD
    obtain⟨_,_,_,rfl⟩:=ET ax
    simp only[Step2,isAl]at hx⊢
    intro k' aP
    refine⟨_,ar,?_⟩
    simp only[Step2,isAl]
    intro k hk
    have hne:k≠k':=by
     rintro rfl
     simp[Sig.set]at hk
    have bd:O k=none:=by rw[w7 _ _ hne]at hk;exact hk
    obtain⟨oi',ac,hh⟩:=ih _ _ (hx k bd)
    rw[hi]at ac;cases ac
    simp only[Step2,isAl]at hh
    have h3:=hh k' (by rw[w7 _ _ (Ne.symm hne)];exact aP)
    rw[set_comm O hne]at h3
    exact MOps2.alike _ (AF (a:=some t') (b:=some t) _ _ _ fun t p q=>a2 t p q) h3
  | none =>
   simp only[Step2,aD]at hx
   rcases hx with⟨d,hy,h⟩|⟨hE,_⟩
   ·obtain⟨oi',ac,hh⟩:=ih _ O h
    rw[hi]at ac;cases ac
    cases ax:isAl oi with
    |some q=>
     obtain⟨t',T'⟩:=q
     obtain⟨_,_,_,rfl⟩:=ET ax
     simp only[Step2,isAl]at hh⊢
     intro k' aP
     refine⟨ox',ar,?_⟩
     simp only[Step2,aD]
     refine .inl ⟨d,hy.congr fun t ht=>(Ai (dst:=some t') fun hd=>a1 t hd ht).symm,?_⟩
     exact MOps2.alike _ (AF _ _ _ fun t p q=>a2 t p q) (hh k' aP)
    | none =>
     simp only[Step2,ax]at hh⊢
     rcases hh with⟨e,h2,h3⟩|⟨h1,h2⟩
     ·refine .inl ⟨e,h2.congr fun t ht=>Ai fun hd=>a3 t hd ht,ox',ar,?_⟩
      simp only[Step2,aD]
      refine .inl ⟨d,hy.congr fun t ht=>(Ai fun hd=>a1 t hd ht).symm,?_⟩
      exact MOps2.alike _ (AF _ _ _ fun t p q=>a2 t p q) h3
     ·refine .inr ⟨h1,h2.congr (fun t ht=>Ai fun hd=>a3 t hd ht) fun e U' ⟨h3,h4⟩=>⟨h3,ox',ar,?_⟩⟩
      simp only[Step2,aD]
      refine .inl ⟨d,hy.congr fun t ht=>(Ai fun hd=>a1 t hd ht).symm,?_⟩
      exact MOps2.alike _ (AF _ _ _ fun t p q=>a2 t p q) h4
   ·rw[aQ]at hE;cases hE
def JL(ops:Array Oper)(E:List Nat):List Nat->List Nat->Bool
 |_,[]=>true
 | done,i::r => !done.contains i && (match ops[i]? with
  |some o=>(o.after.all fun e=> !Region.binds .any e||done.contains e.on)&&done.all fun x=>(!E.contains x&&match ops[x]? with
   |some ox=>o.apart ops ox&&(!(isAl ox).isSome||(isAl o).isSome)
   |none=>false)||reach ops ops.size i x
  |none=>false)&&JL ops E (i::done) r
theorem H2 {i:Nat} {l2:List Nat} : ∀ (l1 done:List Nat),JL ops E done (l1++i::l2)=true->i ∉ l1/\i ∉ done/\i ∉ l2 /\ ∃ o,ops[i]? = some o/\(∀ e ∈ o.after,Region.binds .any e=true->e.on ∈ l1\/e.on ∈ done) /\
   ∀x,x∈l1->reach ops ops.size i x=true\/(E.contains x=false /\ ∃ox,ops[x]? = some ox/\o.apart ops ox=true/\((isAl ox).isSome=true->(isAl o).isSome=true))
 | [],done,h=>by
  simp only[List.nil_append,JL,Bool.and_eq_true,Bool.not_eq_true',List.contains_eq_mem,decide_eq_false_iff_not]at h
  obtain⟨⟨h1,h2⟩,h3⟩:=h
  have later:∀(l d:List Nat),i∈d->JL ops E d l=true->i∉l:=by
   intro l
   induction l with
   |nil=>intro _ _ _ h;cases h
   |cons y l ih=>
    intro d hd hm aa
    simp only[JL,Bool.and_eq_true,Bool.not_eq_true',List.contains_eq_mem,decide_eq_false_iff_not]at hm
    obtain⟨⟨m1,_⟩,m3⟩:=hm
    rcases List.mem_cons.1 aa with rfl|aa
    ·exact m1 hd
    ·exact ih (y::d) (by simp[hd]) m3 aa
  refine⟨by simp,h1,later l2 _ (by simp) h3,?_⟩
  split at h2
  ·rename_i o ho
   simp only[Bool.and_eq_true]at h2
   refine⟨o,ho,fun e he hb=>?_,fun x hx=>by cases hx⟩
   have:=Array.all_eq_true_iff_forall_mem.1 h2.1 e he
   simp only[hb,Bool.not_true,Bool.false_or,List.contains_eq_mem,decide_eq_true_eq]at this
   exact .inr this
  ·cases h2
 | y::l1,done,h=>by
  simp only[List.cons_append,JL,Bool.and_eq_true]at h
  obtain⟨h1,h2,h3,o,ho,he,hx⟩:=H2 l1 (y::done) h.2
  have aW:i≠y:=fun e=>h2 (by simp[e])
  refine⟨by simp[aW,h1],fun hd=>h2 (by simp[hd]),h3,o,ho,fun e hm hb=>?_,?_⟩
  ·rcases he e hm hb with h4|h4
   ·exact .inl (by simp[h4])
   ·rcases List.mem_cons.1 h4 with h5|h5
    ·exact .inl (by simp[h5])
    ·exact .inr h5
  ·intro x aa
   rcases List.mem_cons.1 aa with rfl|aa
   ·have back:∀(l d:List Nat),x∈d->JL ops E d (l++i::l2)=true->reach ops ops.size i x=true\/(E.contains x=false /\ ∃ox,ops[x]? = some ox/\o.apart ops ox=true/\((isAl ox).isSome=true->(isAl o).isSome=true)):=by
     intro l
     induction l with
     | nil =>
      intro d hd hm
      simp only[List.nil_append,JL,Bool.and_eq_true,ho]at hm
      have:=List.all_eq_true.1 hm.1.2.2 x hd
      simp only[Bool.or_eq_true,Bool.and_eq_true,Bool.not_eq_true']at this
      rcases this.symm with h4|⟨h4,h5⟩
      ·exact .inl h4
      ·refine .inr ⟨h4,?_⟩
       split at h5
       ·rename_i ox ar
        simp only[Bool.and_eq_true,Bool.or_eq_true,Bool.not_eq_true']at h5
        exact⟨ox,ar,h5.1,fun hs=>by rcases h5.2 with h6|h6;rw[h6]at hs;cases hs;exact h6⟩
       ·cases h5
     |cons z l ih=>
      intro d hd hm
      simp only[List.cons_append,JL,Bool.and_eq_true]at hm
      exact ih (z::d) (by simp[hd]) hm.2
    exact back l1 _ (by simp) h.2
   ·exact hx x aa
def HI(ops:Array Oper)(E ord:List Nat):Bool:=JL ops E [] ord&&(List.range ops.size).all ord.contains&&ord.length==ops.size
def Q0(tab:Nat->Ty)(n:Nat)(ops:Array Oper):Bool:=ops.all fun o=>match isAl o with
 |some (t,T)=>decide (t<n)&&!A0 (tab T).k
 |none=>true
theorem QJ(ht:AP P tab)(hN:P.funcs.size=N){ord:List Nat}(hB:HI ops E ord=true)(hA:Q0 tab n ops=true){g0:G}{rr:Rx}(hr:RoRep g0 ro rr): ∀(m:Nat) (r:List Nat) (listed:Array Bool) (γ:Fr) (O:Sig),r.length=m->listed.size=ops.size->
  r=ord.filter (fun i=> !listed.getD i true)->Closed ops listed->MOps2 P ro n ops N S0 Q df tab E r γ O->Sub S0 O->
   ∀(g:G) (w:World) (a:Act),g0.le g->SimS P g n ⟨γ,O,df⟩ a w->wpAnyIn (FX P rr) 0 P .any ops (Post P g0 n Q) m listed a w:=by
 unfold HI at hB
 simp only[Bool.and_eq_true]at hB
 obtain⟨⟨ag,aH⟩,_⟩:=hB
 have aa:∀(r:List Nat) (listed:Array Bool),r=ord.filter (fun i=> !listed.getD i true)->∀i∈Region.ready .any ops listed,i∈r:=by
  intro r listed hf i hi
  obtain⟨h1,o,ho,_⟩:=mem_ready.1 hi
  have:=List.all_eq_true.1 aH i (by simpa using(Array.getElem?_eq_some_iff.1 ho).1)
  rw[hf,List.mem_filter]
  exact⟨by simpa using this,by rw[h1];rfl⟩
 intro m
 induction m with
 |zero=>
  intro r listed γ O hl hsz hf ap h hC g w a hg hs
  obtain rfl:r=[]:=List.length_eq_zero_iff.1 hl
  refine⟨List.eq_nil_iff_forall_not_mem.2 fun i hi=>?_,?_⟩
  ·have:=aa [] listed hf i hi;cases this
  ·exact Post.le hg (h g w a rr (hr.mono hg) hs)
 | succ m ih =>
  intro r listed γ O hl hsz hf ap h hC g w a hg hs
  obtain⟨y,t,rfl⟩:∃y t,r=y::t:=by cases r with|nil=>cases hl|cons y t=>exact⟨y,t,rfl⟩
  refine⟨fun he=>?_,fun i hi=>?_⟩
  ·exfalso
   obtain⟨l1,l2,au,aV,hy,bi⟩:=List.filter_eq_cons_iff.1 hf.symm
   subst au
   obtain⟨h1,_,_,o,ho,aN,_⟩:=H2 l1 [] ag
   have:y∈Region.ready .any ops listed:=by
    refine mem_ready.2 ⟨by simpa using hy,o,ho,fun e hm hb=>?_⟩
    rcases aN e hm hb with h4|h4
    ·have h5:=aV _ h4
     simp only[Bool.not_eq_true,Bool.not_eq_false']at h5
     have ai:e.on<listed.size:=by
      have:e.on∈l1++y::l2:=by simp[h4]
      obtain⟨p1,p2,hp⟩:=List.append_of_mem this
      rw[hp]at ag
      obtain⟨_,_,_,o',aA,_⟩:=H2 p1 [] ag
      rw[hsz];exact(Array.getElem?_eq_some_iff.1 aA).1
     simpa[ai] using h5
    ·cases h4
   rw[he]at this;cases this
  ·obtain⟨pre,post,aq⟩:=List.append_of_mem (aa _ listed hf i hi)
   rw[aq]at hf h hl
   obtain⟨l1',l2',au,aG,ba⟩:=List.filter_eq_append_iff.1 hf.symm
   obtain⟨m1,m2,aF,aT,bj,aZ⟩:=List.filter_eq_cons_iff.1 ba
   have ak:ord=(l1'++m1)++i::m2:=by rw[au,aF];simp
   rw[ak]at ag
   obtain⟨n1,_,n3,o,ho,aN,hx⟩:=H2 (l1'++m1) [] ag
   obtain⟨aX,o',aA,aC⟩:=mem_ready.1 hi
   obtain rfl:o'=o:=by rw[ho]at aA;cases aA;rfl
   have aw:=IV ho post pre γ O (fun x aJ=>by
    have aR:x∈l1'++m1:=by
     have:x∈l1'.filter (fun i=> !listed.getD i true):=by rw[aG];exact aJ
     simp[(List.mem_filter.1 this).1]
    have aI:listed.getD x true=false:=by
     have:x∈l1'.filter (fun i=> !listed.getD i true):=by rw[aG];exact aJ
     simpa using(List.mem_filter.1 this).2
    rcases hx x aR with h4|h4
    ·exfalso
     have:=Ct ap ops.size i x o' ho aC h4
     rcases Nat.lt_or_ge x listed.size with ai|ai
     ·simp[ai]at this aI;rw[aI]at this;cases this
     ·simp[Array.getElem?_eq_none ai]at this
    ·exact h4) h
   have ae:pre++post=ord.filter (fun j=> !(listed.setIfInBounds i true).getD j true):=by
    have aY:i<listed.size:=by
     rw[hsz];exact(Array.getElem?_eq_some_iff.1 ho).1
    rw[ak,List.filter_append,List.filter_cons]
    have e1:(listed.setIfInBounds i true).getD i true=true:=by simp[aY]
    rw[e1,As n1,As n3]
    simp only[Bool.not_true,Bool.false_eq_true,if_false,List.filter_append,aG,aZ]
    rw[List.filter_eq_nil_iff.2 (fun x hx=>by simpa using aT x hx),List.append_nil]
   have hlen:(pre++post).length=m:=by simp at hl⊢; omega
   obtain⟨o2,aK,hh⟩:=aw
   obtain rfl:o2=o':=by rw[ho]at aK;cases aK;rfl
   have aE:=Array.all_eq_true_iff_forall_mem.1 hA o2 (Array.mem_of_getElem? ho)
   unfold wpOpIn
   simp only[ho]
   cases ax:isAl o2 with
   | some p =>
    obtain⟨t,T⟩:=p
    rw[ax]at aE
    simp only[Bool.and_eq_true,decide_eq_true_eq,Bool.not_eq_true']at aE
    obtain⟨_,_,_,rfl⟩:=ET ax
    simp only[Step2,isAl]at hh
    refine Ca (Q:=Q) (R:=fun d U'=> ∃k,O k=none/\d=.ptr k 0/\U'=O.set k (.cells (tab T).zero)) (Rp:=fun _ _=>False) (hr.mono hg) hg hs ⟨by simp[At,aE.1],rfl,?_⟩ (fun g' w' a' d U' ay hR ah=>?_) fun _ _ h=>h.elim
    ·exact D5 ht aE.2 aE.1 fun k hk=>Aw ⟨rfl,k,hk,by simp[A3],rfl⟩
    ·obtain⟨k,hk,rfl,rfl⟩:=hR
     exact ih _ _ _ _ hlen (by simpa using hsz) ae (ap.set hi) (hh k hk) (fun i o h=>(Sub.refl _).set hk i o (hC i o h)) g' w' a' (hg.trans ay) ah
   |none=>
    simp only[Step2,ax]at hh
    rcases hh with⟨d,hy,hM⟩|⟨_,hE⟩
    ·exact DV (Q:=Q) hN (hr.mono hg) hg hs hC hy fun g' w' a' ay ah=>ih _ _ _ _ hlen (by simpa using hsz) ae (ap.set hi) hM hC g' w' a' (hg.trans ay) ah
    ·exact Ca (Q:=Q) (hr.mono hg) hg hs hE (fun g' w' a' d U' ay hR ah=>ih _ _ _ _ hlen (by simpa using hsz) ae (ap.set hi) hR.2 hR.1 g' w' a' (hg.trans ay) ah) fun d U' hp=>hp
theorem I8: ∀{ord:List Nat}{γ:Fr}{O:Sig},(∀i∈ord,i<ops.size)->MO2 P ro n ops N S0 Q df tab (pick ops E ord) γ O->MOps2 P ro n ops N S0 Q df tab E ord γ O
 |[],_,_,_,h=>h
 | i::r,γ,O,ai,h=>by
  have hi:ops[i]? = some ops[i]! :=by
   have:=ai i (by simp)
   simp[this]
  have hp:pick ops E (i::r)=(E.contains i,ops[i]!)::pick ops E r:=by
   unfold pick
   rw[List.filterMap_cons,hi]
   rfl
  rw[hp]at h
  refine⟨_,hi,?_⟩
  refine Step2.mono h (fun _=>rfl) fun γ V' O aj h=>MOps2.alike _ aj (I8 (fun j hj=>ai j (by simp[hj])) h)
theorem VI(ht:AP P tab)(hN:P.funcs.size=N)(hm:P.follows .mixedOrders=true){l:List Oper}{id:Nat}{γ:Fr}{O:Sig}(ord E:List Nat)(S0:Sig)(hB:HI l.toArray E ord=true)(hA:Q0 tab n l.toArray=true)(hC:Sub S0 O)
  {lp:List (Bool×Oper)} (aU:Gs l E ord=some lp) (h:MO2 P ro n l.toArray N S0 Q df tab lp γ O):DWp P ro n (.region id l.toArray true) Q ⟨γ,O,df⟩:=by
 intro g w a r hr hs
 refine wpIn_region_any hm ?_
 have ap:Closed l.toArray (Array.replicate l.toArray.size false):=by
  intro q o _ hq
  rcases Nat.lt_or_ge q l.length with h'|h'
  ·simp[h']at hq
  ·simp[h']at hq
 have ah:SimS P g n ⟨γ,O,df⟩ a { w with drawn:=w.drawn+1 }:=
  ⟨⟨fun b o v h=>hs.sim.imm b o v h,hs.sim.keep,fun i o h=>by
   have:=hs.sim.obj i o h
   cases o<;>exact this,hs.sim.inj,hs.sim.free,hs.sim.htop,hs.sim.hdom,hs.sim.fin,hs.sim.io,hs.sim.tab⟩,hs.tmps,hs.df⟩
 have ai:∀i∈ord,i<l.toArray.size:=by
  intro i hi
  obtain⟨p1,p2,hp⟩:=List.append_of_mem hi
  have am:=hB
  unfold HI at am
  simp only[Bool.and_eq_true]at am
  rw[hp]at am
  obtain⟨_,_,_,o',aA,_⟩:=H2 p1 [] am.1.1
  exact(Array.getElem?_eq_some_iff.1 aA).1
 have hlen:ord.length=l.toArray.size:=by
  have am:=hB
  unfold HI at am
  simp only[Bool.and_eq_true,beq_iff_eq]at am
  exact am.2
 have:=QJ ht hN hB hA hr ord.length ord (Array.replicate l.toArray.size false) γ O rfl (by simp) (CF ai).symm ap (I8 ai (by rw[IN aU];exact h)) hC g _ a (.refl g) ah
 rw[hlen]at this
 exact this
theorem IZ: ∀{l:List (Bool×Oper)}{γ:Fr}{O:Sig},(l.all fun p=> !(isAl p.2).isSome)=true->MO P ro n ops N S0 Q df l γ O->MO2 P ro n ops N S0 Q df tab l γ O
 |[],_,_,_,h=>h
 |(e,o)::l,γ,O,hl,h=>by
  simp only[List.all_cons,Bool.and_eq_true,Bool.not_eq_true']at hl
  have hn:isAl o=none:=by cases h:isAl o with|none=>rfl|some _=>rw[h]at hl;simp at hl
  show Step2 P ro n ops N S0 Q df tab e o γ O _
  simp only[Step2,hn]
  rcases h with⟨d,h2,h3⟩|⟨h1,h2⟩
  ·exact .inl ⟨d,h2,IZ hl.2 h3⟩
  ·exact .inr ⟨h1,h2.congr (fun _ _=>rfl) fun d U' ⟨h3,h4⟩=>⟨h3,IZ hl.2 h4⟩⟩
theorem M3{e:Bool}{t T:Nat}{ty:TypeId}{pos:String}{after:Array Edge}{l:List (Bool×Oper)}{γ:Fr}{O:Sig}(h:∀k,O k=none->MO2 P ro n ops N S0 Q df tab l ((t,.ptr k 0)::γ) (O.set k (.cells (tab T).zero))):
  MO2 P ro n ops N S0 Q df tab ((e,⟨some t,.alloc T,ty,pos,after,none⟩)::l) γ O:=h
theorem UK{e:Bool}{o:Oper}{l:List (Bool×Oper)}{γ:Fr}{O:Sig}{d:D}(ha:isAl o=none)(hc:Calm P n ops N S0 γ o d)(h:MO2 P ro n ops N S0 Q df tab l (putD o.dst d γ) O):
  MO2 P ro n ops N S0 Q df tab ((e,o)::l) γ O:=by
 show Step2 P ro n ops N S0 Q df tab e o γ O _
 simp only[Step2,ha]
 exact .inl ⟨d,hc,h⟩
theorem CB(ht:AP P tab){e:Bool}{t:Nat}{op:Op}{ty:TypeId}{pos:String}{after:Array Edge}{d:D}{l:List (Bool×Oper)}{γ Sr:Fr}{O:Sig}(hr:Db op=true)(aS:decide (t<n)=true)(hl:A1 γ (A7 op.operands.toList)=some Sr)(hd:dopX tab Sr S0 op=some d)
  (h:MO2 P ro n ops N S0 Q df tab l ((t,d)::γ) O):MO2 P ro n ops N S0 Q df tab ((e,⟨some t,op,ty,pos,after,none⟩)::l) γ O:=by
 have aO:=(B2 (Cn hl)) ▸ hd
 refine UK (d:=d) ?_ ⟨aS,.inl ⟨by rw[Ak];rfl,BH hr,GG ht aO,fun U' hZ g w a hs hT=>?_⟩⟩ h
 ·unfold isAl;split
  ·rename_i be;cases be;cases hr
  ·rfl
 ·refine DS ht hs hT (?_:dopX tab (only _ γ) U' op=some d)
  rw[B2 (V':=γ) fun x hx=>AR (o:=⟨some t,op,ty,pos,after,none⟩) hx]
  exact DT hZ aO
end
section
variable (P:Program)(ro:Ro)(n:Nat)(ops:Array Oper)(N:Nat)(S0:Sig)(Q:DX->St->Prop)(df:List DDf)(tab:Nat->Ty)
def USt(o:Oper)(γ:Fr)(O:Sig)(K:Fr->Sig->Prop):Prop:=
 (∃(dj:Nat->D) (x:DObj),(∀τ,Eff P ro n ops df γ τ o (fun d' X'=> ∃j,τ j=none/\d'=dj j/\X'=τ.set j x) (fun _ _=>False)) /\ ∀j,O j=none->K (putD o.dst (dj j) γ) (O.set j x)) \/
 (∃(j:Nat) (y x:DObj) (d:D),O j=some y/\S0 j=none/\(∀τ,τ j=some y->Eff P ro n ops df γ τ o (fun d' X'=>d'=d/\X'=τ.set j x) (fun _ _=>False))/\K (putD o.dst d γ) (O.set j x)) \/
 (∃Rr:Sig->D->Sig->Prop,(∀τ,Eff P ro n ops df γ τ o (Rr τ) (fun _ _=>False))/\(∀τ k x d X',τ k=none->Rr (τ.set k x) d X'->∃U',Rr τ d U'/\U' k=none/\X'=U'.set k x) /\ ∀d U',Rr O d U'->Sub S0 U'/\K (putD o.dst d γ) U')
def Step3(e u:Bool)(o:Oper)(γ:Fr)(O:Sig)(K:Fr->Sig->Prop):Prop:=
 match isAl o with
 |some (t,T)=> ∀k,O k=none->K ((t,.ptr k 0)::γ) (O.set k (.cells (tab T).zero))
 |none=>(∃d,Calm P n ops N S0 γ o d/\K (putD o.dst d γ) O) \/
  (e=true/\Eff P ro n ops df γ O o (fun d U'=>Sub S0 U'/\K (putD o.dst d γ) U') (fun d U'=> ∀V',Q (.panic d) ⟨V',U',df⟩)) \/
  (u=true/\USt P ro n ops S0 df o γ O K)
def MOps3(E U:List Nat):List Nat->Fr->Sig->Prop
 |[],γ,O=>DOps P ro n ops Q [] ⟨γ,O,df⟩
 |i::r,γ,O=> ∃o,ops[i]? = some o/\Step3 P ro n ops N S0 Q df tab (E.contains i) (U.contains i) o γ O (MOps3 E U r)
def MO3:List (Bool×Bool×Oper)->Fr->Sig->Prop
 |[],γ,O=>DOps P ro n ops Q [] ⟨γ,O,df⟩
 |(e,u,o)::r,γ,O=>Step3 P ro n ops N S0 Q df tab e u o γ O (MO3 r)
end
section
variable {P:Program}{ro:Ro}{n:Nat}{ops:Array Oper}{N:Nat}{S0:Sig}{Q:DX->St->Prop}{df:List DDf}{E U:List Nat}{tab:Nat->Ty}
theorem USt.congr{o:Oper}{γ V':Fr}{O:Sig}{K K':Fr->Sig->Prop}(h:USt P ro n ops S0 df o γ O K)(aj:∀t∈o.looksAt ops,getD γ t=getD V' t)(hK:∀d U',K (putD o.dst d γ) U'->K' (putD o.dst d V') U'):USt P ro n ops S0 df o V' O K':=by
 rcases h with⟨dj,x,hE,h⟩|⟨j,y,x,d,hj,h0,hE,h⟩|⟨Rr,hE,hn,h⟩
 rotate_left 2
 ·exact .inr (.inr ⟨Rr,fun τ=>(hE τ).congr aj fun _ _ h=>h,hn,fun d U' hR=>⟨(h d U' hR).1,hK _ _ (h d U' hR).2⟩⟩)
 ·exact .inl ⟨dj,x,fun τ=>(hE τ).congr aj fun _ _ h=>h,fun j hj=>hK _ _ (h j hj)⟩
 ·refine .inr (.inl ?_)
  exact⟨j,y,x,d,hj,h0,fun τ hτ=>(hE τ hτ).congr aj fun _ _ h=>h,hK _ _ h⟩
theorem Step3.mono{e u:Bool}{o:Oper}{γ V':Fr}{O:Sig}{K K':Fr->Sig->Prop}(h:Step3 P ro n ops N S0 Q df tab e u o γ O K)(aj:Alike γ V')(hK:∀γ V' O,Alike γ V'->K γ O->K' V' O):Step3 P ro n ops N S0 Q df tab e u o V' O K':=by
 unfold Step3 at h⊢
 split at h
 ·exact fun k hk=>hK _ _ _ (aj.put (some _) _) (h k hk)
 ·rcases h with⟨d,h2,h3⟩|⟨h1,h2⟩|⟨h1,h2⟩
  ·exact .inl ⟨d,h2.congr fun t _=>aj t,hK _ _ _ (aj.put _ _) h3⟩
  ·exact .inr (.inl ⟨h1,h2.congr (fun t _=>aj t) fun d U' ⟨h3,h4⟩=>⟨h3,hK _ _ _ (aj.put _ _) h4⟩⟩)
  ·exact .inr (.inr ⟨h1,h2.congr (fun t _=>aj t) fun d U' h4=>hK _ _ _ (aj.put _ _) h4⟩)
theorem MOps3.alike: ∀(l:List Nat) {γ V':Fr}{O:Sig},Alike γ V'->MOps3 P ro n ops N S0 Q df tab E U l γ O->MOps3 P ro n ops N S0 Q df tab E U l V' O
 |[],_,_,_,h,k=>C5 h k
 |i::r,_,_,_,h,⟨o,ho,k⟩=>⟨o,ho,k.mono h fun _ _ _ h' k'=>MOps3.alike r h' k'⟩
theorem IU{i:Nat}{oi:Oper}(hi:ops[i]? = some oi)(post:List Nat): ∀(pre:List Nat) (γ:Fr) (O:Sig),
  (∀x∈pre,E.contains x=false/\(U.contains x=true->(isAl oi).isSome=true) /\ ∃ox,ops[x]? = some ox/\oi.apart ops ox=true/\((isAl ox).isSome=true->(isAl oi).isSome=true))->MOps3 P ro n ops N S0 Q df tab E U (pre++i::post) γ O->MOps3 P ro n ops N S0 Q df tab E U (i::(pre++post)) γ O
 |[],_,_,_,h=>h
 | x::pre,γ,O,hp,h=>by
  obtain⟨aQ,bf,ox,ar,bb,aj⟩:=hp x (by simp)
  obtain⟨a1,a2,a3⟩:=Oper.apart_spec bb
  obtain⟨ox',aB,hx⟩:=h
  obtain rfl:ox'=ox:=by rw[ar]at aB;cases aB;rfl
  have ih:∀γ O,MOps3 P ro n ops N S0 Q df tab E U (pre++i::post) γ O->MOps3 P ro n ops N S0 Q df tab E U (i::(pre++post)) γ O:=fun γ O=>IU hi post pre γ O fun y hy=>hp y (by simp[hy])
  refine⟨oi,hi,?_⟩
  cases aD:isAl ox' with
  | some p =>
   obtain⟨t,T⟩:=p
   cases ax:isAl oi with
   |none=>rw[aD,ax]at aj;simp at aj
   | some q =>
    obtain⟨t',T'⟩:=q
    obtain⟨_,_,_,rfl⟩:=ET aD
    obtain⟨_,_,_,rfl⟩:=ET ax
    simp only[Step3,isAl]at hx⊢
    intro k' aP
    refine⟨_,ar,?_⟩
    simp only[Step3,isAl]
    intro k hk
    have hne:k≠k':=by
     rintro rfl
     simp[Sig.set]at hk
    have bd:O k=none:=by rw[w7 _ _ hne]at hk;exact hk
    obtain⟨oi',ac,hh⟩:=ih _ _ (hx k bd)
    rw[hi]at ac;cases ac
    simp only[Step3,isAl]at hh
    have h3:=hh k' (by rw[w7 _ _ (Ne.symm hne)];exact aP)
    rw[set_comm O hne]at h3
    exact MOps3.alike _ (AF (a:=some t') (b:=some t) _ _ _ fun t p q=>a2 t p q) h3
  | none =>
   simp only[Step3,aD]at hx
   rcases hx with⟨d,hy,h⟩|⟨hE,_⟩|⟨bk,hu⟩
   ·obtain⟨oi',ac,hh⟩:=ih _ O h
    rw[hi]at ac;cases ac
    cases ax:isAl oi with
    |some q=>
     obtain⟨t',T'⟩:=q
     obtain⟨_,_,_,rfl⟩:=ET ax
     simp only[Step3,isAl]at hh⊢
     intro k' aP
     refine⟨ox',ar,?_⟩
     simp only[Step3,aD]
     refine .inl ⟨d,hy.congr fun t ht=>(Ai (dst:=some t') fun hd=>a1 t hd ht).symm,?_⟩
     exact MOps3.alike _ (AF _ _ _ fun t p q=>a2 t p q) (hh k' aP)
    | none =>
     simp only[Step3,ax]at hh⊢
     rcases hh with⟨e,h2,h3⟩|⟨h1,h2⟩|⟨h1,h2⟩
     ·refine .inl ⟨e,h2.congr fun t ht=>Ai fun hd=>a3 t hd ht,ox',ar,?_⟩
      simp only[Step3,aD]
      refine .inl ⟨d,hy.congr fun t ht=>(Ai fun hd=>a1 t hd ht).symm,?_⟩
      exact MOps3.alike _ (AF _ _ _ fun t p q=>a2 t p q) h3
     ·refine .inr (.inl ⟨h1,h2.congr (fun t ht=>Ai fun hd=>a3 t hd ht) fun e U' ⟨h3,h4⟩=>⟨h3,ox',ar,?_⟩⟩)
      simp only[Step3,aD]
      refine .inl ⟨d,hy.congr fun t ht=>(Ai fun hd=>a1 t hd ht).symm,?_⟩
      exact MOps3.alike _ (AF _ _ _ fun t p q=>a2 t p q) h4
     ·refine .inr (.inr ⟨h1,h2.congr (fun t ht=>Ai fun hd=>a3 t hd ht) fun e U' h4=>⟨ox',ar,?_⟩⟩)
      simp only[Step3,aD]
      refine .inl ⟨d,hy.congr fun t ht=>(Ai fun hd=>a1 t hd ht).symm,?_⟩
      exact MOps3.alike _ (AF _ _ _ fun t p q=>a2 t p q) h4
   ·rw[aQ]at hE;cases hE
   ·cases ax:isAl oi with
    |none=>rw[ax]at bf;exact absurd (bf bk) (by simp)
    | some q =>
     obtain⟨t',T'⟩:=q
     obtain⟨_,_,_,rfl⟩:=ET ax
     simp only[Step3,isAl]
     intro k hk
     refine⟨ox',ar,?_⟩
     simp only[Step3,aD]
     refine .inr (.inr ⟨bk,?_⟩)
     rcases hu with⟨dj,xo,hE,hK⟩|⟨j,y,xo,d,hj,h0,hE,hK⟩|⟨Rr,hE,hn,hK⟩
     rotate_left 2
     ·refine .inr (.inr ⟨Rr,fun τ=>(hE τ).congr (fun t ht=>(Ai (dst:=some t') fun hd=>a1 t hd ht).symm) fun _ _ h=>h,hn,fun d X' hR=>?_⟩)
      obtain⟨U',h1,h2,rfl⟩:=hn O k _ d X' hk hR
      obtain⟨hs,bp⟩:=hK d U' h1
      refine⟨hs.set (hs.none h2),?_⟩
      obtain⟨oi',ac,hh⟩:=ih _ _ bp
      rw[hi]at ac;cases ac
      simp only[Step3,isAl]at hh
      exact MOps3.alike _ (AF (a:=some t') (b:=ox'.dst) _ _ _ fun t p q=>a2 t p q) (hh k h2)
     ·refine .inl ⟨dj,xo,fun τ=>(hE τ).congr (fun t ht=>(Ai (dst:=some t') fun hd=>a1 t hd ht).symm) fun _ _ h=>h,fun j hj=>?_⟩
      have hne:j≠k:=by
       rintro rfl
       simp[Sig.set]at hj
      have bn:O j=none:=by rw[w7 _ _ hne]at hj;exact hj
      obtain⟨oi',ac,hh⟩:=ih _ _ (hK j bn)
      rw[hi]at ac;cases ac
      simp only[Step3,isAl]at hh
      have h3:=hh k (by rw[w7 _ _ (Ne.symm hne)];exact hk)
      rw[set_comm O hne]at h3
      exact MOps3.alike _ (AF (a:=some t') (b:=ox'.dst) _ _ _ fun t p q=>a2 t p q) h3
     ·have hne:j≠k:=fun e=>by rw[e,hk]at hj;cases hj
      refine .inr (.inl ?_)
      refine⟨j,y,xo,d,by rw[w7 _ _ hne];exact hj,h0,fun τ hτ=>(hE τ hτ).congr (fun t ht=>(Ai (dst:=some t') fun hd=>a1 t hd ht).symm) fun _ _ h=>h,?_⟩
      obtain⟨oi',ac,hh⟩:=ih _ _ hK
      rw[hi]at ac;cases ac
      simp only[Step3,isAl]at hh
      have h3:=hh k (by rw[w7 _ _ (Ne.symm hne)];exact hk)
      rw[set_comm O hne]at h3
      exact MOps3.alike _ (AF (a:=some t') (b:=ox'.dst) _ _ _ fun t p q=>a2 t p q) h3
def JK(ops:Array Oper)(E U:List Nat):List Nat->List Nat->Bool
 |_,[]=>true
 | done,i::r => !done.contains i && (match ops[i]? with
  |some o=>(o.after.all fun e=> !Region.binds .any e||done.contains e.on)&&done.all fun x=>(!E.contains x&&(!U.contains x||(isAl o).isSome)&&match ops[x]? with
   |some ox=>o.apart ops ox&&(!(isAl ox).isSome||(isAl o).isSome)
   |none=>false)||reach ops ops.size i x
  |none=>false)&&JK ops E U (i::done) r
theorem H1 {i:Nat} {l2:List Nat} : ∀ (l1 done:List Nat),JK ops E U done (l1++i::l2)=true->i ∉ l1/\i ∉ done/\i ∉ l2 /\ ∃ o,ops[i]? = some o/\(∀ e ∈ o.after,Region.binds .any e=true->e.on ∈ l1\/e.on ∈ done) /\
   ∀x,x∈l1->reach ops ops.size i x=true\/(E.contains x=false/\(U.contains x=true->(isAl o).isSome=true) /\ ∃ox,ops[x]? = some ox/\o.apart ops ox=true/\((isAl ox).isSome=true->(isAl o).isSome=true))
 | [],done,h=>by
  simp only[List.nil_append,JK,Bool.and_eq_true,Bool.not_eq_true',List.contains_eq_mem,decide_eq_false_iff_not]at h
  obtain⟨⟨h1,h2⟩,h3⟩:=h
  have later:∀(l d:List Nat),i∈d->JK ops E U d l=true->i∉l:=by
   intro l
   induction l with
   |nil=>intro _ _ _ h;cases h
   |cons y l ih=>
    intro d hd hm aa
    simp only[JK,Bool.and_eq_true,Bool.not_eq_true',List.contains_eq_mem,decide_eq_false_iff_not]at hm
    obtain⟨⟨m1,_⟩,m3⟩:=hm
    rcases List.mem_cons.1 aa with rfl|aa
    ·exact m1 hd
    ·exact ih (y::d) (by simp[hd]) m3 aa
  refine⟨by simp,h1,later l2 _ (by simp) h3,?_⟩
  split at h2
  ·rename_i o ho
   simp only[Bool.and_eq_true]at h2
   refine⟨o,ho,fun e he hb=>?_,fun x hx=>by cases hx⟩
   have:=Array.all_eq_true_iff_forall_mem.1 h2.1 e he
   simp only[hb,Bool.not_true,Bool.false_or,List.contains_eq_mem,decide_eq_true_eq]at this
   exact .inr this
  ·cases h2
 | y::l1,done,h=>by
  simp only[List.cons_append,JK,Bool.and_eq_true]at h
  obtain⟨h1,h2,h3,o,ho,he,hx⟩:=H1 l1 (y::done) h.2
  have aW:i≠y:=fun e=>h2 (by simp[e])
  refine⟨by simp[aW,h1],fun hd=>h2 (by simp[hd]),h3,o,ho,fun e hm hb=>?_,?_⟩
  ·rcases he e hm hb with h4|h4
   ·exact .inl (by simp[h4])
   ·rcases List.mem_cons.1 h4 with h5|h5
    ·exact .inl (by simp[h5])
    ·exact .inr h5
  ·intro x aa
   rcases List.mem_cons.1 aa with rfl|aa
   ·have back:∀(l d:List Nat),x∈d->JK ops E U d (l++i::l2)=true->reach ops ops.size i x=true\/(E.contains x=false/\(U.contains x=true->(isAl o).isSome=true) /\ ∃ox,ops[x]? = some ox/\o.apart ops ox=true/\((isAl ox).isSome=true->(isAl o).isSome=true)):=by
     intro l
     induction l with
     | nil =>
      intro d hd hm
      simp only[List.nil_append,JK,Bool.and_eq_true,ho]at hm
      have:=List.all_eq_true.1 hm.1.2.2 x hd
      simp only[Bool.or_eq_true,Bool.and_eq_true,Bool.not_eq_true']at this
      rcases this.symm with h4|⟨⟨h4,hu⟩,h5⟩
      ·exact .inl h4
      ·refine .inr ⟨h4,(fun bm=>hu.resolve_left fun h=>by rw[bm]at h;cases h),?_⟩
       split at h5
       ·rename_i ox ar
        simp only[Bool.and_eq_true,Bool.or_eq_true,Bool.not_eq_true']at h5
        exact⟨ox,ar,h5.1,fun hs=>by rcases h5.2 with h6|h6;rw[h6]at hs;cases hs;exact h6⟩
       ·cases h5
     |cons z l ih=>
      intro d hd hm
      simp only[List.cons_append,JK,Bool.and_eq_true]at hm
      exact ih (z::d) (by simp[hd]) hm.2
    exact back l1 _ (by simp) h.2
   ·exact hx x aa
def HH(ops:Array Oper)(E U ord:List Nat):Bool:=JK ops E U [] ord&&(List.range ops.size).all ord.contains&&ord.length==ops.size
theorem QI(ht:AP P tab)(hN:P.funcs.size=N){ord:List Nat}(hB:HH ops E U ord=true)(hA:Q0 tab n ops=true){g0:G}{rr:Rx}(hr:RoRep g0 ro rr): ∀(m:Nat) (r:List Nat) (listed:Array Bool) (γ:Fr) (O:Sig),r.length=m->listed.size=ops.size->
  r=ord.filter (fun i=> !listed.getD i true)->Closed ops listed->MOps3 P ro n ops N S0 Q df tab E U r γ O->Sub S0 O->
   ∀(g:G) (w:World) (a:Act),g0.le g->SimS P g n ⟨γ,O,df⟩ a w->wpAnyIn (FX P rr) 0 P .any ops (Post P g0 n Q) m listed a w:=by
 unfold HH at hB
 simp only[Bool.and_eq_true]at hB
 obtain⟨⟨ag,aH⟩,_⟩:=hB
 have aa:∀(r:List Nat) (listed:Array Bool),r=ord.filter (fun i=> !listed.getD i true)->∀i∈Region.ready .any ops listed,i∈r:=by
  intro r listed hf i hi
  obtain⟨h1,o,ho,_⟩:=mem_ready.1 hi
  have:=List.all_eq_true.1 aH i (by simpa using(Array.getElem?_eq_some_iff.1 ho).1)
  rw[hf,List.mem_filter]
  exact⟨by simpa using this,by rw[h1];rfl⟩
 intro m
 induction m with
 |zero=>
  intro r listed γ O hl hsz hf ap h hC g w a hg hs
  obtain rfl:r=[]:=List.length_eq_zero_iff.1 hl
  refine⟨List.eq_nil_iff_forall_not_mem.2 fun i hi=>?_,?_⟩
  ·have:=aa [] listed hf i hi;cases this
  ·exact Post.le hg (h g w a rr (hr.mono hg) hs)
 | succ m ih =>
  intro r listed γ O hl hsz hf ap h hC g w a hg hs
  obtain⟨y,t,rfl⟩:∃y t,r=y::t:=by cases r with|nil=>cases hl|cons y t=>exact⟨y,t,rfl⟩
  refine⟨fun he=>?_,fun i hi=>?_⟩
  ·exfalso
   obtain⟨l1,l2,au,aV,hy,bi⟩:=List.filter_eq_cons_iff.1 hf.symm
   subst au
   obtain⟨h1,_,_,o,ho,aN,_⟩:=H1 l1 [] ag
   have:y∈Region.ready .any ops listed:=by
    refine mem_ready.2 ⟨by simpa using hy,o,ho,fun e hm hb=>?_⟩
    rcases aN e hm hb with h4|h4
    ·have h5:=aV _ h4
     simp only[Bool.not_eq_true,Bool.not_eq_false']at h5
     have ai:e.on<listed.size:=by
      have:e.on∈l1++y::l2:=by simp[h4]
      obtain⟨p1,p2,hp⟩:=List.append_of_mem this
      rw[hp]at ag
      obtain⟨_,_,_,o',aA,_⟩:=H1 p1 [] ag
      rw[hsz];exact(Array.getElem?_eq_some_iff.1 aA).1
     simpa[ai] using h5
    ·cases h4
   rw[he]at this;cases this
  ·obtain⟨pre,post,aq⟩:=List.append_of_mem (aa _ listed hf i hi)
   rw[aq]at hf h hl
   obtain⟨l1',l2',au,aG,ba⟩:=List.filter_eq_append_iff.1 hf.symm
   obtain⟨m1,m2,aF,aT,bj,aZ⟩:=List.filter_eq_cons_iff.1 ba
   have ak:ord=(l1'++m1)++i::m2:=by rw[au,aF];simp
   rw[ak]at ag
   obtain⟨n1,_,n3,o,ho,aN,hx⟩:=H1 (l1'++m1) [] ag
   obtain⟨aX,o',aA,aC⟩:=mem_ready.1 hi
   obtain rfl:o'=o:=by rw[ho]at aA;cases aA;rfl
   have aw:=IU ho post pre γ O (fun x aJ=>by
    have aR:x∈l1'++m1:=by
     have:x∈l1'.filter (fun i=> !listed.getD i true):=by rw[aG];exact aJ
     simp[(List.mem_filter.1 this).1]
    have aI:listed.getD x true=false:=by
     have:x∈l1'.filter (fun i=> !listed.getD i true):=by rw[aG];exact aJ
     simpa using(List.mem_filter.1 this).2
    rcases hx x aR with h4|h4
    ·exfalso
     have:=Ct ap ops.size i x o' ho aC h4
     rcases Nat.lt_or_ge x listed.size with ai|ai
     ·simp[ai]at this aI;rw[aI]at this;cases this
     ·simp[Array.getElem?_eq_none ai]at this
    ·exact h4) h
   have ae:pre++post=ord.filter (fun j=> !(listed.setIfInBounds i true).getD j true):=by
    have aY:i<listed.size:=by
     rw[hsz];exact(Array.getElem?_eq_some_iff.1 ho).1
    rw[ak,List.filter_append,List.filter_cons]
    have e1:(listed.setIfInBounds i true).getD i true=true:=by simp[aY]
    rw[e1,As n1,As n3]
    simp only[Bool.not_true,Bool.false_eq_true,if_false,List.filter_append,aG,aZ]
    rw[List.filter_eq_nil_iff.2 (fun x hx=>by simpa using aT x hx),List.append_nil]
   have hlen:(pre++post).length=m:=by simp at hl⊢; omega
   obtain⟨o2,aK,hh⟩:=aw
   obtain rfl:o2=o':=by rw[ho]at aK;cases aK;rfl
   have aE:=Array.all_eq_true_iff_forall_mem.1 hA o2 (Array.mem_of_getElem? ho)
   unfold wpOpIn
   simp only[ho]
   cases ax:isAl o2 with
   | some p =>
    obtain⟨t,T⟩:=p
    rw[ax]at aE
    simp only[Bool.and_eq_true,decide_eq_true_eq,Bool.not_eq_true']at aE
    obtain⟨_,_,_,rfl⟩:=ET ax
    simp only[Step3,isAl]at hh
    refine Ca (Q:=Q) (R:=fun d U'=> ∃k,O k=none/\d=.ptr k 0/\U'=O.set k (.cells (tab T).zero)) (Rp:=fun _ _=>False) (hr.mono hg) hg hs ⟨by simp[At,aE.1],rfl,?_⟩ (fun g' w' a' d U' ay hR ah=>?_) fun _ _ h=>h.elim
    ·exact D5 ht aE.2 aE.1 fun k hk=>Aw ⟨rfl,k,hk,by simp[A3],rfl⟩
    ·obtain⟨k,hk,rfl,rfl⟩:=hR
     exact ih _ _ _ _ hlen (by simpa using hsz) ae (ap.set hi) (hh k hk) (fun i o h=>(Sub.refl _).set hk i o (hC i o h)) g' w' a' (hg.trans ay) ah
   | none =>
    simp only[Step3,ax]at hh
    rcases hh with⟨d,hy,hM⟩|⟨_,hE⟩|⟨_,hu⟩
    ·exact DV (Q:=Q) hN (hr.mono hg) hg hs hC hy fun g' w' a' ay ah=>ih _ _ _ _ hlen (by simpa using hsz) ae (ap.set hi) hM hC g' w' a' (hg.trans ay) ah
    ·exact Ca (Q:=Q) (hr.mono hg) hg hs hE (fun g' w' a' d U' ay hR ah=>ih _ _ _ _ hlen (by simpa using hsz) ae (ap.set hi) hR.2 hR.1 g' w' a' (hg.trans ay) ah) fun d U' hp=>hp
    ·rcases hu with⟨dj,x,hE,hK⟩|⟨j,y,x,d,hj,h0,hE,hK⟩|⟨Rr,hE,hn,hK⟩
     rotate_left 2
     ·refine Ca (Q:=Q) (hr.mono hg) hg hs (hE O) (fun g' w' a' d U' ay hR ah=>?_) fun _ _ h=>h.elim
      exact ih _ _ _ _ hlen (by simpa using hsz) ae (ap.set hi) (hK d U' hR).2 (hK d U' hR).1 g' w' a' (hg.trans ay) ah
     ·refine Ca (Q:=Q) (hr.mono hg) hg hs (hE O) (fun g' w' a' d U' ay hR ah=>?_) fun _ _ h=>h.elim
      obtain⟨j,hj,rfl,rfl⟩:=hR
      exact ih _ _ _ _ hlen (by simpa using hsz) ae (ap.set hi) (hK j hj) (fun i o h=>(Sub.refl _).set hj i o (hC i o h)) g' w' a' (hg.trans ay) ah
     ·refine Ca (Q:=Q) (hr.mono hg) hg hs (hE O hj) (fun g' w' a' d' U' ay hR ah=>?_) fun _ _ h=>h.elim
      obtain⟨rfl,rfl⟩:=hR
      exact ih _ _ _ _ hlen (by simpa using hsz) ae (ap.set hi) hK (fun i o h=>by rw[w7 _ _ fun e=>by rw[e,h0]at h;cases h];exact hC i o h) g' w' a' (hg.trans ay) ah
def Qw(ops:List Oper)(E U:List Nat):List Nat->Option (List (Bool×Bool×Oper))
 |[]=>some []
 | i::r=>match nthO ops i with
  |some o=>match Qw ops E U r with
   |some l=>some ((E.contains i,U.contains i,o)::l)
   |none=>none
  |none=>none
theorem I7{lo:List Oper}: ∀{ord:List Nat}{lp:List (Bool×Bool×Oper)}{γ:Fr}{O:Sig},Qw lo E U ord=some lp->MO3 P ro n lo.toArray N S0 Q df tab lp γ O->MOps3 P ro n lo.toArray N S0 Q df tab E U ord γ O
 |[],_,_,_,hp,h=>by cases hp;exact h
 |i::r,lp,γ,O,hp,h=>by
  simp only[Qw]at hp
  split at hp<;>(try (cases hp;done))
  rename_i o ho
  split at hp<;>(try (cases hp;done))
  rename_i l hl
  cases hp
  refine⟨o,by rw[HF]at ho;simpa using ho,?_⟩
  exact Step3.mono h (fun _=>rfl) fun γ V' O aj h=>MOps3.alike _ aj (I7 hl h)
theorem VE(ht:AP P tab)(hN:P.funcs.size=N)(hm:P.follows .mixedOrders=true){l:List Oper}{id:Nat}{γ:Fr}{O:Sig}(ord E U:List Nat)(S0:Sig)(hB:HH l.toArray E U ord=true)(hA:Q0 tab n l.toArray=true)(hC:Sub S0 O)
  {lp:List (Bool×Bool×Oper)} (aU:Qw l E U ord=some lp) (h:MO3 P ro n l.toArray N S0 Q df tab lp γ O):DWp P ro n (.region id l.toArray true) Q ⟨γ,O,df⟩:=by
 intro g w a r hr hs
 refine wpIn_region_any hm ?_
 have ap:Closed l.toArray (Array.replicate l.toArray.size false):=by
  intro q o _ hq
  rcases Nat.lt_or_ge q l.length with h'|h'
  ·simp[h']at hq
  ·simp[h']at hq
 have ah:SimS P g n ⟨γ,O,df⟩ a { w with drawn:=w.drawn+1 }:=
  ⟨⟨fun b o v h=>hs.sim.imm b o v h,hs.sim.keep,fun i o h=>by
   have:=hs.sim.obj i o h
   cases o<;>exact this,hs.sim.inj,hs.sim.free,hs.sim.htop,hs.sim.hdom,hs.sim.fin,hs.sim.io,hs.sim.tab⟩,hs.tmps,hs.df⟩
 have ai:∀i∈ord,i<l.toArray.size:=by
  intro i hi
  obtain⟨p1,p2,hp⟩:=List.append_of_mem hi
  have am:=hB
  unfold HH at am
  simp only[Bool.and_eq_true]at am
  rw[hp]at am
  obtain⟨_,_,_,o',aA,_⟩:=H1 p1 [] am.1.1
  exact(Array.getElem?_eq_some_iff.1 aA).1
 have hlen:ord.length=l.toArray.size:=by
  have am:=hB
  unfold HH at am
  simp only[Bool.and_eq_true,beq_iff_eq]at am
  exact am.2
 have:=QI ht hN hB hA hr ord.length ord (Array.replicate l.toArray.size false) γ O rfl (by simp) (CF ai).symm ap (I7 aU h) hC g _ a (.refl g) ah
 rw[hlen]at this
 exact this
theorem IY: ∀{l:List (Bool×Bool×Oper)}{γ:Fr}{O:Sig},(l.all fun p=> !(isAl p.2.2).isSome)=true->MO P ro n ops N S0 Q df (l.map fun p=>(p.1,p.2.2)) γ O->MO3 P ro n ops N S0 Q df tab l γ O
 |[],_,_,_,h=>h
 |(e,u,o)::l,γ,O,hl,h=>by
  simp only[List.all_cons,Bool.and_eq_true,Bool.not_eq_true']at hl
  have hn:isAl o=none:=by cases h:isAl o with|none=>rfl|some _=>rw[h]at hl;simp at hl
  show Step3 P ro n ops N S0 Q df tab e u o γ O _
  simp only[Step3,hn]
  rcases h with⟨d,h2,h3⟩|⟨h1,h2⟩
  ·exact .inl ⟨d,h2,IY hl.2 h3⟩
  ·exact .inr (.inl ⟨h1,h2.congr (fun _ _=>rfl) fun d U' ⟨h3,h4⟩=>⟨h3,IY hl.2 h4⟩⟩)
theorem QU{e u:Bool}{t T:Nat}{ty:TypeId}{pos:String}{after:Array Edge}{l:List (Bool×Bool×Oper)}{γ:Fr}{O:Sig}(h:∀k,O k=none->MO3 P ro n ops N S0 Q df tab l ((t,.ptr k 0)::γ) (O.set k (.cells (tab T).zero))):
  MO3 P ro n ops N S0 Q df tab ((e,u,⟨some t,.alloc T,ty,pos,after,none⟩)::l) γ O:=h
theorem UJ(ht:AP P tab){e u:Bool}{t:Nat}{op:Op}{ty:TypeId}{pos:String}{after:Array Edge}{d:D}{l:List (Bool×Bool×Oper)}{γ Sr:Fr}{O:Sig}(hr:Db op=true)(aS:decide (t<n)=true)(hl:A1 γ (A7 op.operands.toList)=some Sr)(hd:dopX tab Sr S0 op=some d)
  (h:MO3 P ro n ops N S0 Q df tab l ((t,d)::γ) O):MO3 P ro n ops N S0 Q df tab ((e,u,⟨some t,op,ty,pos,after,none⟩)::l) γ O:=by
 have aO:=(B2 (Cn hl)) ▸ hd
 have ha:isAl ⟨some t,op,ty,pos,after,none⟩=none:=by
  unfold isAl;split
  ·rename_i be;cases be;cases hr
  ·rfl
 show Step3 P ro n ops N S0 Q df tab e u _ γ O _
 simp only[Step3,ha]
 refine .inl ⟨d,⟨aS,.inl ⟨by rw[Ak];rfl,BH hr,GG ht aO,fun U' hZ g w a hs hT=>?_⟩⟩,h⟩
 refine DS ht hs hT (?_:dopX tab (only _ γ) U' op=some d)
 rw[B2 (V':=γ) fun x hx=>AR (o:=⟨some t,op,ty,pos,after,none⟩) hx]
 exact DT hZ aO
theorem mo3_u{e:Bool}{o:Oper}{l:List (Bool×Bool×Oper)}{γ:Fr}{O:Sig}(ha:isAl o=none)(h:USt P ro n ops S0 df o γ O (MO3 P ro n ops N S0 Q df tab l)):MO3 P ro n ops N S0 Q df tab ((e,true,o)::l) γ O:=by
 show Step3 P ro n ops N S0 Q df tab e true o γ O _
 simp only[Step3,ha]
 exact .inr (.inr ⟨trivial,h⟩)
end
section
variable (P:Program)(ro:Ro)(n:Nat)(ops:Array Oper)(N:Nat)(Q:DX->St->Prop)(df:List DDf)
def MOps4 (E C K:List Nat):List Nat->Sig->Fr->Sig->Prop
  |[],_,γ,O=>DOps P ro n ops Q [] ⟨γ,O,df⟩
  | i::r,S0,γ,O => ∃ o,ops[i]? = some o /\
    ((∃ d,Calm P n ops N (if C.contains i=true then S0 else fun _=>none) γ o d/\MOps4 E C K r S0 (putD o.dst d γ) O) \/
     (E.contains i=true/\Eff P ro n ops df γ O o (fun d U'=> ∃S1,Sub S1 U'/\(K.contains i=false->S1=S0)/\MOps4 E C K r S1 (putD o.dst d γ) U') (fun d U'=> ∀V',Q (.panic d) ⟨V',U',df⟩)))
def MO4:List (Bool × Bool × Bool × Oper)->Sig->Fr->Sig->Prop
  |[],_,γ,O=>DOps P ro n ops Q [] ⟨γ,O,df⟩
  | (e,c,k,o)::r,S0,γ,O =>
    (∃ d,Calm P n ops N (if c=true then S0 else fun _=>none) γ o d/\MO4 r S0 (putD o.dst d γ) O) \/
     (e=true/\Eff P ro n ops df γ O o (fun d U'=> ∃S1,Sub S1 U'/\(k=false->S1=S0)/\MO4 r S1 (putD o.dst d γ) U') (fun d U'=> ∀V',Q (.panic d) ⟨V',U',df⟩))
end
section
variable {P:Program}{ro:Ro}{n:Nat}{ops:Array Oper}{N:Nat}{S0:Sig}{Q:DX->St->Prop}{df:List DDf}{E C K:List Nat}{tab:Nat->Ty}
theorem MOps4.alike: ∀(l:List Nat) {S0:Sig}{γ V':Fr}{O:Sig},Alike γ V'->MOps4 P ro n ops N Q df E C K l S0 γ O->MOps4 P ro n ops N Q df E C K l S0 V' O
 |[],_,_,_,_,h,k=>C5 h k
 |i::r,_,_,_,_,h,⟨o,ho,k⟩=>⟨o,ho,(match k with
  |.inl ⟨d,h2,h3⟩=>.inl ⟨d,h2.congr fun t _=>h t,MOps4.alike r (h.put _ _) h3⟩
  |.inr ⟨h1,h2⟩=>.inr ⟨h1,h2.congr (fun t _=>h t) fun d U' ⟨S1,h3,h5,h4⟩=>⟨S1,h3,h5,MOps4.alike r (h.put _ _) h4⟩⟩)⟩
theorem Calm.base{S0 S1:Sig}{γ:Fr}{o:Oper}{d:D}(h:Calm P n ops N S0 γ o d)(hs:Sub S0 S1):Calm P n ops N S1 γ o d:=
 ⟨h.ok,by
  rcases h.run with⟨a,b,c,e⟩|h|⟨a,e⟩
  ·exact .inl ⟨a,b,c,fun O hZ=>e O (hs.trans hZ)⟩
  ·exact .inr (.inl h)
  ·exact .inr (.inr ⟨a,fun O hZ=>e O (hs.trans hZ)⟩)⟩
theorem IT{i:Nat}{oi:Oper}(hi:ops[i]? = some oi)(post:List Nat): ∀(pre:List Nat) (γ:Fr) (O:Sig),
  (∀x∈pre,E.contains x=false/\(K.contains i&&C.contains x)=false /\ ∃ox,ops[x]? = some ox/\oi.apart ops ox=true)->MOps4 P ro n ops N Q df E C K (pre++i::post) S0 γ O->MOps4 P ro n ops N Q df E C K (i::(pre++post)) S0 γ O
 |[],_,_,_,h=>h
 | x::pre,γ,O,hp,h=>by
  obtain⟨aQ,bh,ox,ar,bb⟩:=hp x (by simp)
  obtain⟨a1,a2,a3⟩:=Oper.apart_spec bb
  obtain⟨ox',aB,hx⟩:=h
  obtain rfl:ox'=ox:=by rw[ar]at aB;cases aB;rfl
  rcases hx with⟨d,hy,h⟩|⟨hE,_⟩
  ·obtain⟨oi',ac,hh⟩:=IT hi post pre _ O (fun y hy=>hp y (by simp[hy])) h
   obtain rfl:oi'=oi:=by rw[hi]at ac;cases ac;rfl
   refine⟨oi',hi,?_⟩
   rcases hh with⟨e,h2,h3⟩|⟨h1,h2⟩
   ·refine .inl ⟨e,h2.congr fun t ht=>Ai fun hd=>a3 t hd ht,ox',ar,.inl ⟨d,hy.congr fun t ht=>(Ai fun hd=>a1 t hd ht).symm,?_⟩⟩
    exact MOps4.alike _ (AF _ _ _ fun t p q=>a2 t p q) h3
   ·refine .inr ⟨h1,h2.congr (fun t ht=>Ai fun hd=>a3 t hd ht) fun e U' ⟨S1,h3,h5,h4⟩=>⟨S1,h3,h5,ox',ar,.inl ⟨d,?_,MOps4.alike _ (AF _ _ _ fun t p q=>a2 t p q) h4⟩⟩⟩
    have bc:=hy.congr (V':=putD oi'.dst e γ) fun t ht=>(Ai fun hd=>a1 t hd ht).symm
    cases hk:K.contains i with
    |false=>rw[h5 hk];exact bc
    |true=>
     rw[hk,Bool.true_and]at bh
     rw[bh]at bc⊢
     exact bc
  ·rw[aQ]at hE;cases hE
def JJ(ops:Array Oper)(E C K:List Nat):List Nat->List Nat->Bool
 |_,[]=>true
 | done,i::r => !done.contains i && (match ops[i]? with
  |some o=>(o.after.all fun e=> !Region.binds .any e||done.contains e.on)&&done.all fun x=>(!E.contains x&&!(K.contains i&&C.contains x)&&match ops[x]? with
   |some ox=>o.apart ops ox
   |none=>false)||reach ops ops.size i x
  |none=>false)&&JJ ops E C K (i::done) r
theorem Du{i:Nat}{l2:List Nat}: ∀(l1 done:List Nat),JJ ops E C K done (l1++i::l2)=true->i∉l1/\i∉done/\i∉l2 /\ ∃o,ops[i]? = some o/\(∀e∈o.after,Region.binds .any e=true->e.on∈l1\/e.on∈done) /\
   ∀x,x∈l1->reach ops ops.size i x=true\/(E.contains x=false/\(K.contains i&&C.contains x)=false /\ ∃ox,ops[x]? = some ox/\o.apart ops ox=true)
 | [],done,h=>by
  simp only[List.nil_append,JJ,Bool.and_eq_true,Bool.not_eq_true',List.contains_eq_mem,decide_eq_false_iff_not]at h
  obtain⟨⟨h1,h2⟩,h3⟩:=h
  have later:∀(l d:List Nat),i∈d->JJ ops E C K d l=true->i∉l:=by
   intro l
   induction l with
   |nil=>intro _ _ _ h;cases h
   |cons y l ih=>
    intro d hd hm aa
    simp only[JJ,Bool.and_eq_true,Bool.not_eq_true',List.contains_eq_mem,decide_eq_false_iff_not]at hm
    obtain⟨⟨m1,_⟩,m3⟩:=hm
    rcases List.mem_cons.1 aa with rfl|aa
    ·exact m1 hd
    ·exact ih (y::d) (by simp[hd]) m3 aa
  refine⟨by simp,h1,later l2 _ (by simp) h3,?_⟩
  split at h2
  ·rename_i o ho
   simp only[Bool.and_eq_true]at h2
   refine⟨o,ho,fun e he hb=>?_,fun x hx=>by cases hx⟩
   have:=Array.all_eq_true_iff_forall_mem.1 h2.1 e he
   simp only[hb,Bool.not_true,Bool.false_or,List.contains_eq_mem,decide_eq_true_eq]at this
   exact .inr this
  ·cases h2
 | y::l1,done,h=>by
  simp only[List.cons_append,JJ,Bool.and_eq_true]at h
  obtain⟨h1,h2,h3,o,ho,he,hx⟩:=Du l1 (y::done) h.2
  have aW:i≠y:=fun e=>h2 (by simp[e])
  refine⟨by simp[aW,h1],fun hd=>h2 (by simp[hd]),h3,o,ho,fun e hm hb=>?_,?_⟩
  ·rcases he e hm hb with h4|h4
   ·exact .inl (by simp[h4])
   ·rcases List.mem_cons.1 h4 with h5|h5
    ·exact .inl (by simp[h5])
    ·exact .inr h5
  ·intro x aa
   rcases List.mem_cons.1 aa with rfl|aa
   ·
    have back:∀(l d:List Nat),x∈d->JJ ops E C K d (l++i::l2)=true->reach ops ops.size i x=true\/(E.contains x=false/\(K.contains i&&C.contains x)=false /\ ∃ox,ops[x]? = some ox/\o.apart ops ox=true):=by
     intro l
     induction l with
     | nil =>
      intro d hd hm
      simp only[List.nil_append,JJ,Bool.and_eq_true,ho]at hm
      have:=List.all_eq_true.1 hm.1.2.2 x hd
      simp only[Bool.or_eq_true,Bool.and_eq_true,Bool.not_eq_true']at this
      rcases this.symm with h4|⟨⟨h4,h6⟩,h5⟩
      ·exact .inl h4
      ·refine .inr ⟨h4,h6,?_⟩
       split at h5
       ·rename_i ox ar;exact⟨ox,ar,h5⟩
       ·cases h5
     |cons z l ih=>
      intro d hd hm
      simp only[List.cons_append,JJ,Bool.and_eq_true]at hm
      exact ih (z::d) (by simp[hd]) hm.2
    exact back l1 _ (by simp) h.2
   ·exact hx x aa
def Dn(ops:Array Oper)(E C K ord:List Nat):Bool:=JJ ops E C K [] ord&&(List.range ops.size).all ord.contains&&ord.length==ops.size
theorem QH(hN:P.funcs.size=N){ord:List Nat}(hB:Dn ops E C K ord=true){g0:G}{rr:Rx}(hr:RoRep g0 ro rr): ∀(m:Nat) (r:List Nat) (listed:Array Bool) (S0:Sig) (γ:Fr) (O:Sig),r.length=m->listed.size=ops.size->
  r=ord.filter (fun i=> !listed.getD i true)->Closed ops listed->MOps4 P ro n ops N Q df E C K r S0 γ O->Sub S0 O->
   ∀(g:G) (w:World) (a:Act),g0.le g->SimS P g n ⟨γ,O,df⟩ a w->wpAnyIn (FX P rr) 0 P .any ops (Post P g0 n Q) m listed a w:=by
 unfold Dn at hB
 simp only[Bool.and_eq_true]at hB
 obtain⟨⟨ag,aH⟩,_⟩:=hB
 have aa:∀(r:List Nat) (listed:Array Bool),r=ord.filter (fun i=> !listed.getD i true)->∀i∈Region.ready .any ops listed,i∈r:=by
  intro r listed hf i hi
  obtain⟨h1,o,ho,_⟩:=mem_ready.1 hi
  have:=List.all_eq_true.1 aH i (by simpa using(Array.getElem?_eq_some_iff.1 ho).1)
  rw[hf,List.mem_filter]
  exact⟨by simpa using this,by rw[h1];rfl⟩
 intro m
 induction m with
 |zero=>
  intro r listed S0 γ O hl hsz hf ap h hC g w a hg hs
  obtain rfl:r=[]:=List.length_eq_zero_iff.1 hl
  refine⟨List.eq_nil_iff_forall_not_mem.2 fun i hi=>?_,?_⟩
  ·have:=aa [] listed hf i hi;cases this
  ·exact Post.le hg (h g w a rr (hr.mono hg) hs)
 | succ m ih =>
  intro r listed S0 γ O hl hsz hf ap h hC g w a hg hs
  obtain⟨y,t,rfl⟩:∃y t,r=y::t:=by cases r with|nil=>cases hl|cons y t=>exact⟨y,t,rfl⟩
  refine⟨fun he=>?_,fun i hi=>?_⟩
  ·exfalso
   obtain⟨l1,l2,au,aV,hy,bi⟩:=List.filter_eq_cons_iff.1 hf.symm
   subst au
   obtain⟨h1,_,_,o,ho,aN,_⟩:=Du l1 [] ag
   have:y∈Region.ready .any ops listed:=by
    refine mem_ready.2 ⟨by simpa using hy,o,ho,fun e hm hb=>?_⟩
    rcases aN e hm hb with h4|h4
    ·have h5:=aV _ h4
     simp only[Bool.not_eq_true,Bool.not_eq_false']at h5
     have ai:e.on<listed.size:=by
      have:e.on∈l1++y::l2:=by simp[h4]
      obtain⟨p1,p2,hp⟩:=List.append_of_mem this
      rw[hp]at ag
      obtain⟨_,_,_,o',aA,_⟩:=Du p1 [] ag
      rw[hsz];exact(Array.getElem?_eq_some_iff.1 aA).1
     simpa[ai] using h5
    ·cases h4
   rw[he]at this;cases this
  ·obtain⟨pre,post,aq⟩:=List.append_of_mem (aa _ listed hf i hi)
   rw[aq]at hf h hl
   obtain⟨l1',l2',au,aG,ba⟩:=List.filter_eq_append_iff.1 hf.symm
   obtain⟨m1,m2,aF,aT,bj,aZ⟩:=List.filter_eq_cons_iff.1 ba
   have ak:ord=(l1'++m1)++i::m2:=by rw[au,aF];simp
   rw[ak]at ag
   obtain⟨n1,_,n3,o,ho,aN,hx⟩:=Du (l1'++m1) [] ag
   obtain⟨aX,o',aA,aC⟩:=mem_ready.1 hi
   obtain rfl:o'=o:=by rw[ho]at aA;cases aA;rfl
   have aw:=IT ho post pre γ O (fun x aJ=>by
    have aR:x∈l1'++m1:=by
     have:x∈l1'.filter (fun i=> !listed.getD i true):=by rw[aG];exact aJ
     simp[(List.mem_filter.1 this).1]
    have aI:listed.getD x true=false:=by
     have:x∈l1'.filter (fun i=> !listed.getD i true):=by rw[aG];exact aJ
     simpa using(List.mem_filter.1 this).2
    rcases hx x aR with h4|h4
    ·exfalso
     have:=Ct ap ops.size i x o' ho aC h4
     rcases Nat.lt_or_ge x listed.size with ai|ai
     ·simp[ai]at this aI;rw[aI]at this;cases this
     ·simp[Array.getElem?_eq_none ai]at this
    ·exact h4) h
   have ae:pre++post=ord.filter (fun j=> !(listed.setIfInBounds i true).getD j true):=by
    have aY:i<listed.size:=by
     rw[hsz];exact(Array.getElem?_eq_some_iff.1 ho).1
    rw[ak,List.filter_append,List.filter_cons]
    have e1:(listed.setIfInBounds i true).getD i true=true:=by simp[aY]
    rw[e1,As n1,As n3]
    simp only[Bool.not_true,Bool.false_eq_true,if_false,List.filter_append,aG,aZ]
    rw[List.filter_eq_nil_iff.2 (fun x hx=>by simpa using aT x hx),List.append_nil]
   have hlen:(pre++post).length=m:=by simp at hl⊢; omega
   obtain⟨o2,aK,hh⟩:=aw
   obtain rfl:o2=o':=by rw[ho]at aK;cases aK;rfl
   unfold wpOpIn
   simp only[ho]
   rcases hh with⟨d,hy,hM⟩|⟨_,hE⟩
   ·have bl:Calm P n ops N S0 γ o2 d:=hy.base (by split;exact Sub.refl _;exact fun _ _ h=>by cases h)
    exact DV hN (hr.mono hg) hg hs hC bl fun g' w' a' ay ah=>ih _ _ _ _ _ hlen (by simpa using hsz) ae (ap.set hi) hM hC g' w' a' (hg.trans ay) ah
   ·exact Ca (hr.mono hg) hg hs hE (fun g' w' a' d U' ay hR ah=>by obtain⟨S1,h3,_,h4⟩:=hR;exact ih _ _ _ _ _ hlen (by simpa using hsz) ae (ap.set hi) h4 h3 g' w' a' (hg.trans ay) ah) fun d U' hp=>hp
def Lb(ops:List Oper)(E C K:List Nat):List Nat->Option (List (Bool×Bool×Bool×Oper))
 |[]=>some []
 | i::r=>match nthO ops i with
  |some o=>match Lb ops E C K r with
   |some l=>some ((E.contains i,C.contains i,K.contains i,o)::l)
   |none=>none
  |none=>none
theorem Ft{lo:List Oper}: ∀{ord:List Nat}{lp:List (Bool×Bool×Bool×Oper)}{S0:Sig}{γ:Fr}{O:Sig},Lb lo E C K ord=some lp->MO4 P ro n lo.toArray N Q df lp S0 γ O->MOps4 P ro n lo.toArray N Q df E C K ord S0 γ O
 |[],_,_,_,_,hp,h=>by cases hp;exact h
 |i::r,lp,S0,γ,O,hp,h=>by
  simp only[Lb]at hp
  split at hp<;>(try (cases hp;done))
  rename_i o ho
  split at hp<;>(try (cases hp;done))
  rename_i l hl
  cases hp
  refine⟨o,by rw[HF]at ho;simpa using ho,?_⟩
  rcases h with⟨d,h2,h3⟩|⟨h1,h2⟩
  ·exact .inl ⟨d,h2,Ft hl h3⟩
  ·exact .inr ⟨h1,h2.congr (fun _ _=>rfl) fun d U' ⟨S1,h3,h5,h4⟩=>⟨S1,h3,h5,Ft hl h4⟩⟩
theorem VG(hN:P.funcs.size=N)(hm:P.follows .mixedOrders=true){l:List Oper}{id:Nat}{γ:Fr}{O:Sig}(ord E C K:List Nat)(S0:Sig)(hB:Dn l.toArray E C K ord=true)(hC:Sub S0 O)
  {lp:List (Bool×Bool×Bool×Oper)} (aU:Lb l E C K ord=some lp) (h0:MO4 P ro n l.toArray N Q df lp S0 γ O):DWp P ro n (.region id l.toArray true) Q ⟨γ,O,df⟩:=by
 intro g w a r hr hs
 refine wpIn_region_any hm ?_
 have ap:Closed l.toArray (Array.replicate l.toArray.size false):=by
  intro q o _ hq
  rcases Nat.lt_or_ge q l.length with h'|h'
  ·simp[h']at hq
  ·simp[h']at hq
 have ah:SimS P g n ⟨γ,O,df⟩ a { w with drawn:=w.drawn+1 }:=
  ⟨⟨fun b o v h=>hs.sim.imm b o v h,hs.sim.keep,fun i o h=>by
   have:=hs.sim.obj i o h
   cases o<;>exact this,hs.sim.inj,hs.sim.free,hs.sim.htop,hs.sim.hdom,hs.sim.fin,hs.sim.io,hs.sim.tab⟩,hs.tmps,hs.df⟩
 have ai:∀i∈ord,i<l.toArray.size:=by
  intro i hi
  obtain⟨p1,p2,hp⟩:=List.append_of_mem hi
  have am:=hB
  unfold Dn at am
  simp only[Bool.and_eq_true]at am
  rw[hp]at am
  obtain⟨_,_,_,o',aA,_⟩:=Du p1 [] am.1.1
  exact(Array.getElem?_eq_some_iff.1 aA).1
 have hlen:ord.length=l.toArray.size:=by
  have am:=hB
  unfold Dn at am
  simp only[Bool.and_eq_true,beq_iff_eq]at am
  exact am.2
 have:=QH hN hB hr ord.length ord (Array.replicate l.toArray.size false) S0 γ O rfl (by simp) (CF ai).symm ap (Ft aU h0) hC g _ a (.refl g) ah
 rw[hlen]at this
 exact this
theorem UI(ht:AP P tab){e c k:Bool}{t:Nat}{op:Op}{ty:TypeId}{pos:String}{after:Array Edge}{d:D}{l:List (Bool×Bool×Bool×Oper)}{γ Sr:Fr}{O:Sig}(hr:Db op=true)(aS:decide (t<n)=true)(hl:A1 γ (A7 op.operands.toList)=some Sr)(hd:dopX tab Sr (if c=true then S0 else fun _=>none) op=some d)
  (h:MO4 P ro n ops N Q df l S0 ((t,d)::γ) O):MO4 P ro n ops N Q df ((e,c,k,⟨some t,op,ty,pos,after,none⟩)::l) S0 γ O:=by
 have aO:=(B2 (Cn hl)) ▸ hd
 refine .inl ⟨d,⟨aS,.inl ⟨by rw[Ak];rfl,BH hr,GG ht aO,fun U' hZ g w a hs hT=>?_⟩⟩,h⟩
 refine DS ht hs hT (?_:dopX tab (only _ γ) U' op=some d)
 rw[B2 (V':=γ) fun x hx=>AR (o:=⟨some t,op,ty,pos,after,none⟩) hx]
 exact DT hZ aO
theorem mo4_eff(ht:AP P tab){c k:Bool}{o:Oper}{d:D}{U':Sig}{l:List (Bool×Bool×Bool×Oper)}{γ:Fr}{O:Sig}(S1:Sig)(ho:At n o=true)(hw:AC ops γ o=some true)(he:eopD tab γ O o.op=some (d,U'))(hC:Sub S1 U')(hk:k=false->S1=S0)
  (h:MO4 P ro n ops N Q df l S1 (putD o.dst d γ) U'):MO4 P ro n ops N Q df ((true,c,k,o)::l) S0 γ O:=by
 refine .inr ⟨rfl,ho,by rw[Ak];exact hw,?_⟩
 refine G2 ht (by rw[Ak];exact hw) (by rw[BA (V':=γ) fun x hx=>AR hx];exact he) ho (Aw ⟨rfl,?_⟩)
 cases hd:o.dst with
 |none=>rw[hd]at h;exact⟨S1,hC,hk,h⟩
 |some t=>
  rw[hd]at h
  simp only[putD,A3,if_true]
  exact⟨S1,hC,hk,h⟩
end
end Go.DL
