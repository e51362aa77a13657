/- A part of the proof. -/
import Derived.Test.YteldimffglchkaaGreatDoorQ19
import Derived.Test.YteldimffglchkaaGreatDoorQ10
import Derived.Test.YteldimffglchkaaGreatDoorQ17
import Derived.Test.YteldimffglchkaaGreatDoorQ18
import Derived.Test.YteldimffglchkaaGreatDoorQ16
set_option linter.all false
namespace Go.DL
open Go.Proofs.Tryz
open Go Go.Proofs
section
variable {P:Program}{ro:Ro}{n:Nat}{Q:DX->St->Prop}{df:List DDf}{γ:List (Nat×D)}{O:Sig}
theorem loopD4{Sk:Fr}{α β δ ε:Type}{c:Code}(keep:List Nat)(I:α->β->δ->ε->Prop)(ov:α->β->δ->ε->Fr)(sg:α->β->δ->ε->Sig)(dg:α->β->δ->ε->List DDf)(μ:α->β->δ->ε->Nat)(x0:α)(y0:β)(z0:δ)(u0:ε)(h0:I x0 y0 z0 u0)
  (round:∀x y z u,I x y z u->DWp P ro n c (Then (fun s'=> ∃x' y' z' u',I x' y' z' u'/\μ x' y' z' u'<μ x y z u/\Wk P n s' ⟨ov x' y' z' u'++Sk,sg x' y' z' u',dg x' y' z' u'⟩) Q) ⟨ov x y z u++Sk,sg x y z u,dg x y z u⟩) (hk:Dc γ keep=some Sk:=by exact tdR) (h1:TellsR γ (ov x0 y0 z0 u0++Sk):=by(first|refine FG ?_ ?_|skip)<;>(repeat' first|exact FF|refine EW tdR ?_ ?_|(first|exact A8 _|exact BD _ _|exact Ak _ (.inl rfl)|exact E2 _|(refine Hp _ ?_;first|omega|(simp;done)|(simp;omega))|(refine Ch ?_;(simp;done))|(refine Ch ?_;(simp[cI,cS,cII,F6,ET,Gs];done))|(refine DF _ ?_;(simp[cI,cS,cII];done))|(refine Ch ?_;(simp_all;done))|assumption))) (h2:Sub (sg x0 y0 z0 u0) O:=by first|exact Sub.refl _|(refine D6 ?_;simp;done)|assumption|exact(Sub.refl _).set (by assumption)) (h3:dg x0 y0 z0 u0=df:=by rfl):DWp P ro n (.loop c) Q ⟨γ,O,df⟩:=by
 subst h3
 refine Nq (fun x:{x:α×β×δ×ε // I x.1 x.2.1 x.2.2.1 x.2.2.2}=>⟨ov x.1.1 x.1.2.1 x.1.2.2.1 x.1.2.2.2++Sk,sg x.1.1 x.1.2.1 x.1.2.2.1 x.1.2.2.2,dg x.1.1 x.1.2.1 x.1.2.2.1 x.1.2.2.2⟩) (fun x=>μ x.1.1 x.1.2.1 x.1.2.2.1 x.1.2.2.2) ⟨(x0,y0,z0,u0),h0⟩ (JH h1 h2) fun x=>F4 (round x.1.1 x.1.2.1 x.1.2.2.1 x.1.2.2.2 x.2) ?_
 intro e s h
 cases e with
 |normal=>obtain⟨x',y',z',u',h3,h4,h5⟩:=h;exact⟨⟨(x',y',z',u'),h3⟩,h4,h5⟩
 |_=>exact h
end
theorem Kg: ∀(js:List Nat) (O:Sig) (j:Nat),j∉js->dels js O j=O j
 |[],_,_,_=>rfl
 |i::r,O,j,h=>by
  simp only[List.mem_cons,not_or]at h
  simp only[dels,List.foldl_cons]
  rw[show List.foldl Sig.del (O.del i) r=dels r (O.del i) from rfl,Kg r _ j h.2]
  simp only[Sig.del,h.1,if_false]
def RowAt(O:Sig)(sz:Nat):MR->List (List D)->Prop
 |none,es=>es=[]
 |some (i,cap,rest),es=>O i=some (.cells (es.flatten++rest))/\(es.flatten++rest).length=cap*sz/\es.length<=cap /\ ∀e∈es,e.length=sz
def Fa:MR->Nat->Prop
 |none,_=>False
 |some (i,_,_),j=>j=i
theorem RowAt.cells{O:Sig}{sz:Nat}{st:MR}{es:List (List D)}(h:RowAt O sz st es){j:Nat}(hj:Fa st j): ∃cs,O j=some (.cells cs):=by
 cases st with
 |none=>exact hj.elim
 |some x=>cases hj;exact⟨_,h.1⟩
theorem RowAt.keep{O U':Sig}{sz:Nat}{st:MR}{es:List (List D)}(h:RowAt O sz st es)(hk:∀j o,O j=some o->Fa st j->U' j=some o):RowAt U' sz st es:=by
 cases st with
 |none=>exact h
 |some x=>exact⟨hk _ _ h.1 rfl,h.2⟩
theorem RowAt.mS{O:Sig}{sz:Nat}{st:MR}{es:List (List D)}(h:RowAt O sz st es): ∃U',O=mS U' st es/\mOK U' sz st es/\(∀j o,O j=some o->¬Fa st j->U' j=some o) /\ ∀j o,U' j=some o->O j=some o /\ ¬Fa st j:=by
 cases st with
 |none=>exact⟨O,rfl,h,fun j o h _=>h,fun j o h=>⟨h,id⟩⟩
 | some x =>
  obtain⟨i,cap,rest⟩:=x
  obtain⟨h1,h2,h3,h4⟩:=h
  refine⟨O.del i,?_,⟨by simp[Sig.del],h2,h3,h4⟩,fun j o hj hn=>?_,fun j o hj=>?_⟩
  ·funext j
   simp only[DL.mS,Sig.set,Sig.del]
   by_cases e:j=i
   ·subst e;simp[h1]
   ·simp[e]
  ·have:j≠i:=hn
   simp only[Sig.del,this,if_false];exact hj
  ·by_cases e:j=i
   ·simp[Sig.del,e]at hj
   ·simp only[Sig.del,e,if_false]at hj;exact⟨hj,e⟩
theorem Sz{O:Sig}{sz:Nat}{st:MR}{es:List (List D)}(h:mOK O sz st es):RowAt (mS O st es) sz st es:=by
 cases st with
 |none=>exact h
 |some x=>obtain⟨i,cap,rest⟩:=x;exact⟨w6 .., h.2⟩
def RowK(O:Sig)(st:MR)(U':Sig)(st':MR):Prop:= ∀j o,O j=some o->¬Fa st j->U' j=some o /\ ¬Fa st' j
theorem RowK.refl(O:Sig)(st:MR):RowK O st O st:=fun j o h hn=>⟨h,hn⟩
theorem RowK.trans{O S1 U2:Sig}{st st1 st2:MR}(h:RowK O st S1 st1)(k:RowK S1 st1 U2 st2):RowK O st U2 st2:=fun j o hj hn=>k _ _ (h j o hj hn).1 (h j o hj hn).2
theorem rowK_mS{O:Sig}{sz:Nat}{st st':MR}{es es':List (List D)}(h:RowAt O sz st es){S1:Sig}(h1:mOK S1 sz st' es')(hk:∀j o,O j=some o->¬Fa st j->S1 j=some o):RowK O st (mS S1 st' es') st':=fun j o hj hn=>by
 have aD:=hk j o hj hn
 have hr:¬Fa st' j:=by
  cases st' with
  |none=>exact id
  |some x=>
   obtain⟨i,cap,rest⟩:=x
   intro e
   have e:j=i:=e
   rw[e,h1.1]at aD;cases aD
 exact⟨PD h1 aD,hr⟩
section
variable {ro:Ro}{n:Nat}{ops:Array Oper}{N:Nat}{S0:Sig}{Q:DX->St->Prop}{df:List DDf}{rest:List Oper}{γ Sr:List (Nat×D)}{O:Sig}{t:Nat}{ty:TypeId}{pos:String}{after:Array Edge}{d:D}
theorem rapp{T T' e e' sz:Nat}{s x:Operand}{es new:List (List D)}{st:MR}(h:∀st' U',RowAt U' sz st' (es++new)->RowK O st U' st'->DOps prog ro n ops Q rest ⟨(t,mD st' (es.length+new.length))::γ,U',df⟩)(hm:RowAt O sz st es:=by assumption)
  (hl:A0 γ (A4 [s,x])=some Sr:=by exact tdR) (hk:(tab T).k=.slice e:=by(simp<;>rfl)) (au:(tab T').k=.slice e':=by(simp<;>rfl)) (he:A1 (tab e).k=false:=by simp) (hsz:(tab e).size=sz:=by simp)
  (h1:ev Sr s=mD st es.length:=by first|with_unfolding_all rfl|(simp[ev,getD,List.lookup];done)) (h2:esOf (ev Sr x)=some new:=by(simp<;>with_unfolding_all rfl))
  (hlen':∀c∈new,c.length=sz:=by first|exact C4 _|exact DW _|exact CB _|simp) (aw:∀c∈new,Bz c=true:=by simp[cI,cS,cII,Bz,D.flat])
  (hb:(es.length+new.length)*(tab e).bytes<=140737488355328:=by first|(simp;done)|(simp;omega)) (hm2:es.length+new.length<=9223372036854775807:=by first|(simp;done)|(simp;omega)) (aq:decide (t<n)=true:=by exact tdR) :
  DOps prog ro n ops Q (⟨some t,(cA s x T T'),ty,pos,after,none⟩::rest) ⟨γ,O,df⟩:=by
 obtain⟨e1,e2⟩:=evs hl
 obtain⟨S1,rfl,aL,aN,aI⟩:=hm.mS
 exact Lw Ab (by simpa using aq) hk au he hsz (by rw[<-e1];exact h1) aL (by rw[<-e2];exact h2) hlen' aw hb hm2 (fun st' h'=>by rw[List.length_append];exact h st' _ (Sz h') (rowK_mS hm h' aN))
end
noncomputable def Sig.out(O:Sig)(touch:Nat->Prop):Sig:=open Classical in fun j=>if touch j then none else O j
theorem Cm(O:Sig)(touch:Nat->Prop):Sub (O.out touch) O:=fun j o h=>by
 unfold Sig.out at h;split at h
 ·cases h
 ·exact h
theorem Cn{O:Sig}{touch:Nat->Prop}{j:Nat}{o:DObj}(h:(O.out touch) j=some o):O j=some o /\ ¬touch j:=by
 unfold Sig.out at h;split at h
 ·cases h
 ·exact⟨h,by assumption⟩
theorem Da{O:Sig}{touch:Nat->Prop}{j:Nat}{o:DObj}(h:O j=some o)(ht:¬touch j):(O.out touch) j=some o:=by
 unfold Sig.out;rw[if_neg ht];exact h
section
variable {ro:Ro}{n:Nat}{ops:Array Oper}{N:Nat}{S0:Sig}{Q:DX->St->Prop}{df:List DDf}{rest:List Oper}{γ Sr:List (Nat×D)}{O:Sig}{t:Nat}{ty:TypeId}{pos:String}{after:Array Edge}{d:D}
def RWK(O:Sig)(r:RW)(U':Sig)(r':RW):Prop:= ∀j o,O j=some o->¬r.is j->U' j=some o /\ ¬r'.is j
theorem RWK.refl(O:Sig)(r:RW):RWK O r O r:=fun _ _ h k=>⟨h,k⟩
theorem RWK.trans{O S1 U2:Sig}{r r1 r2:RW}(h:RWK O r S1 r1)(k:RWK S1 r1 U2 r2):RWK O r U2 r2:=fun j o hj hn=>k j o (h j o hj hn).1 (h j o hj hn).2
theorem xapp{T T' e e' sz:Nat}{s x:Operand}{es new:List (List D)}{r:RW}(h:∀i c cs U',RWAt U' sz (.row i c cs) (es++new)->RWK O r U' (.row i c cs)->DOps prog ro n ops Q rest ⟨(t,.sref i 0 (es.length+new.length) c)::γ,U',df⟩)(hm:RWAt O sz r es:=by assumption)
  (hl:A0 γ (A4 [s,x])=some Sr:=by exact tdR) (hk:(tab T).k=.slice e:=by(simp<;>rfl)) (au:(tab T').k=.slice e':=by(simp<;>rfl)) (he:A1 (tab e).k=false:=by simp) (hsz:(tab e).size=sz:=by simp)
  (h1:ev Sr s=r.d es.length:=by first|with_unfolding_all rfl|(simp[ev,getD,List.lookup];done)) (h2:esOf (ev Sr x)=some new:=by(simp<;>with_unfolding_all rfl))
  (hne:new≠[]:=by simp) (hlen':∀c∈new,c.length=sz:=by first|exact C4 _|exact DW _|exact CB _|simp) (aw:∀c∈new,Bz c=true:=by simp[cI,cS,cII,Bz,D.flat])
  (hb:(es.length+new.length)*(tab e).bytes<=140737488355328:=by first|(simp;done)|(simp;omega)) (hm2:es.length+new.length<=9223372036854775807:=by first|(simp;done)|(simp;omega)) (aq:decide (t<n)=true:=by exact tdR) :
  DOps prog ro n ops Q (⟨some t,(cA s x T T'),ty,pos,after,none⟩::rest) ⟨γ,O,df⟩:=by
 obtain⟨e1,e2⟩:=evs hl
 exact DU Ab (by simpa using aq) hk au he hsz (by rw[<-e1];exact h1) hm (by rw[<-e2];exact H1 h2 hlen') hlen' aw hb hm2 fun r' U' h1 h2 h3=>by
  rcases h3 with⟨h3,_⟩|⟨i,c,cs,rfl⟩
  ·exact absurd h3 hne
  ·exact h i c cs U' h1 h2
theorem xappR{T T' e e' sz:Nat}{s x:Operand}{es new:List (List D)}{r:RW}(h:∀r' U',RWAt U' sz r' (es++new)->RWK O r U' r'->DOps prog ro n ops Q rest ⟨(t,r'.d (es.length+new.length))::γ,U',df⟩)(hm:RWAt O sz r es)(h2:IN prog O sz (ev Sr x) new)(aw:∀c∈new,Bz c=true)
  (hlen':∀c∈new,c.length=sz)
  (hl:A0 γ (A4 [s,x])=some Sr:=by exact tdR) (hk:(tab T).k=.slice e:=by(simp<;>rfl)) (au:(tab T').k=.slice e':=by(simp<;>rfl)) (he:A1 (tab e).k=false:=by simp) (hsz:(tab e).size=sz:=by simp)
  (h1:ev Sr s=r.d es.length:=by first|with_unfolding_all rfl|(simp[ev,getD,List.lookup];done))
  (hb:(es.length+new.length)*(tab e).bytes<=140737488355328:=by first|(simp;done)|(simp;omega)) (hm2:es.length+new.length<=9223372036854775807:=by first|(simp;done)|(simp;omega)) (aq:decide (t<n)=true:=by exact tdR) :
  DOps prog ro n ops Q (⟨some t,(cA s x T T'),ty,pos,after,none⟩::rest) ⟨γ,O,df⟩:=by
 obtain⟨e1,e2⟩:=evs hl
 exact DU Ab (by simpa using aq) hk au he hsz (by rw[<-e1];exact h1) hm (by rw[<-e2];exact h2) hlen' aw hb hm2 fun r' U' h1 h2 _=>h r' U' h1 h2
theorem FW{T T' e e' sz:Nat}{s x:Operand}{es new:List (List D)}{r:RW}{l:List (Bool×Oper)}(h:∀i c cs U',RWAt U' sz (.row i c cs) (es++new)->RWK O r U' (.row i c cs)->MO prog ro n ops N S0 Q df l ((t,.sref i 0 (es.length+new.length) c)::γ) U')(hC:∀j o,S0 j=some o->O j=some o /\ ¬r.is j)(hm:RWAt O sz r es:=by assumption)
  (hl:A0 γ (A4 [s,x])=some Sr:=by exact tdR) (hk:(tab T).k=.slice e:=by(simp<;>rfl)) (au:(tab T').k=.slice e':=by(simp<;>rfl)) (he:A1 (tab e).k=false:=by simp) (hsz:(tab e).size=sz:=by simp)
  (h1:ev Sr s=r.d es.length:=by first|with_unfolding_all rfl|(simp[ev,getD,List.lookup];done)) (h2:esOf (ev Sr x)=some new:=by(simp<;>with_unfolding_all rfl))
  (hne:new≠[]:=by simp) (hlen':∀c∈new,c.length=sz:=by first|exact C4 _|exact DW _|exact CB _|simp) (aw:∀c∈new,Bz c=true:=by simp[cI,cS,cII,Bz,D.flat])
  (hb:(es.length+new.length)*(tab e).bytes<=140737488355328:=by first|(simp;done)|(simp;omega)) (hm2:es.length+new.length<=9223372036854775807:=by first|(simp;done)|(simp;omega)) (aq:decide (t<n)=true:=by exact tdR) :
  MO prog ro n ops N S0 Q df ((true,⟨some t,(cA s x T T'),ty,pos,after,none⟩)::l) γ O:=
 mo1 (fun V2 hx=>by
  obtain⟨e1,e2⟩:=GW hl hx
  refine DU Ab (by simpa using aq) hk au he hsz (by rw[e1];exact h1) hm (by rw[e2];exact H1 h2 hlen') hlen' aw hb hm2 (fun r' U' h' hK h3=>?_)
  rcases h3 with⟨h3,_⟩|⟨i,c,cs,rfl⟩
  ·exact absurd h3 hne
  refine Av ⟨rfl,?_⟩
  simp only[A6,if_true]
  exact⟨fun j o hj=>(hK j o (hC j o hj).1 (hC j o hj).2).1,h i c cs U' h' hK⟩) aq
end
structure Rows(O:Sig)(R:Nat->RW)(sz:Nat->Nat)(ct:Nat->List (List D)):Prop where
 ok:∀a,RWAt O (sz a) (R a) (ct a)
 dj:∀a b j,(R a).is j->(R b).is j->a=b
def updF{α:Type}(f:Nat->α)(k:Nat)(x:α):Nat->α:=fun j=>if j=k then x else f j
@[simp] theorem Ah{α:Type}(f:Nat->α)(k:Nat)(x:α):updF f k x k=x:=by unfold updF;rw[if_pos rfl]
theorem A7{α:Type}(f:Nat->α){k j:Nat}(x:α)(h:j≠k):updF f k x j=f j:=by unfold updF;rw[if_neg h]
section
variable {O U':Sig}{R:Nat->RW}{sz:Nat->Nat}{ct:Nat->List (List D)}
theorem Rows.upd(h:Rows O R sz ct){a:Nat}{r':RW}{es':List (List D)}(hr:RWAt U' (sz a) r' es')(hk:RWK O (R a) U' r'):Rows U' (updF R a r') sz (updF ct a es'):=by
 have hne:∀b,b≠a->∀j,(R b).is j->∃o,O j=some o /\ ¬(R a).is j:=fun b hb j hj=>by
  obtain⟨cs,hc⟩:=(h.ok b).cells hj
  exact⟨_,hc,fun ha=>hb (h.dj b a j hj ha)⟩
 refine⟨fun b=>?_,fun b c j hb hc=>?_⟩
 ·by_cases e:b=a
  ·subst e;rw[Ah,Ah];exact hr
  ·rw[A7 _ _ e,A7 _ _ e]
   exact(h.ok b).keep fun j o hj hb=>by
    obtain⟨o',aT,hn⟩:=hne b e j hb
    exact(hk j o hj hn).1
 ·by_cases e:b=a
  ·subst e
   by_cases e2:c=b
   ·exact e2.symm
   ·rw[Ah]at hb
    rw[A7 _ _ e2]at hc
    obtain⟨o,ho,hn⟩:=hne c e2 j hc
    exact absurd hb (hk j o ho hn).2
  ·rw[A7 _ _ e]at hb
   by_cases e2:c=a
   ·subst e2
    rw[Ah]at hc
    obtain⟨o,ho,hn⟩:=hne b e j hb
    exact absurd hc (hk j o ho hn).2
   ·rw[A7 _ _ e2]at hc
    exact h.dj b c j hb hc
theorem Rows.keep(h:Rows O R sz ct)(hk:∀j o,O j=some o->(∃a,(R a).is j)->U' j=some o):Rows U' R sz ct:=
 ⟨fun a=>(h.ok a).keep fun j o hj ha=>hk j o hj ⟨a,ha⟩,h.dj⟩
theorem Rows.retell{ct':Nat->List (List D)}(h:Rows O R sz ct)(he:∀a,ct' a=ct a):Rows O R sz ct':=by
 obtain rfl:ct'=ct:=funext he
 exact h
theorem Rows.re(h:Rows O R sz ct){a:Nat}{r':RW}{es':List (List D)}(hr:RWAt O (sz a) r' es')(hi:∀j,r'.is j->(R a).is j):Rows O (updF R a r') sz (updF ct a es'):=by
 refine⟨fun b=>?_,fun b c j hb hc=>?_⟩
 ·by_cases e:b=a
  ·subst e;rw[Ah,Ah];exact hr
  ·rw[A7 _ _ e,A7 _ _ e];exact h.ok b
 ·have aQ:(R b).is j:=by
   by_cases e:b=a
   ·subst e;rw[Ah]at hb;exact hi j hb
   ·rwa [A7 _ _ e]at hb
  have aP:(R c).is j:=by
   by_cases e:c=a
   ·subst e;rw[Ah]at hc;exact hi j hc
   ·rwa [A7 _ _ e]at hc
  exact h.dj b c j aQ aP
end
def toC(p:BProg)(x:CIns)(l:CLev):CLev:=
 ⟨l.st-(Ao p x).1+(Ao p x).2,if x.op=14 then l.env+1 else if x.op=15 then l.env-1 else l.env⟩
structure InsOK(p:BProg)(N k:Nat)(x:CIns)(l:CLev)(m:Met)(env:Int)(next:Bool):Prop where
 take:(Ao p x).1<=l.st
 name:x.op=3->x.a<l.env
 drop:x.op=15->env<l.env
 nexts:x.op=20->next=true
 fin:x.op=21->l.st=1/\l.env=env
 on:x.op≠21->x.op≠18->k+1<N/\m (k+1)=some (toC p x l)
 jump:x.op=17\/x.op=18->0<=x.a/\x.a<N/\m x.a.toNat=some (toC p x l)
theorem DO{N:Nat}{met m:Met}{n:Int}{l:CLev}(h:BE N met n l=some m):0<=n/\n<N/\m n.toNat=some l /\ ∀j x,met j=some x->m j=some x:=by
 unfold BE at h
 split at h
 ·cases h
 ·rename_i e
  cases h
  refine⟨by omega,by omega,by unfold updM;rw[if_pos rfl],fun j x hx=>?_⟩
  unfold updM
  by_cases ej:j=n.toNat
  ·rw[if_pos ej]
   subst ej
   rw[hx]at e
   by_cases el:x=l
   ·rw[el]
   ·exact absurd (.inr (.inr ⟨by simp,by simpa using el⟩)) e
  ·rw[if_neg ej];exact hx
theorem InsOK.mono{p:BProg}{N k:Nat}{x:CIns}{l:CLev}{m m':Met}{env:Int}{next:Bool}(h:InsOK p N k x l m env next)(hm:∀j x,m j=some x->m' j=some x):InsOK p N k x l m' env next:=
 ⟨h.take,h.name,h.drop,h.nexts,h.fin,fun a b=>⟨(h.on a b).1,hm _ _ (h.on a b).2⟩,fun a=>⟨(h.jump a).1,(h.jump a).2.1,hm _ _ (h.jump a).2.2⟩⟩
section
variable {p:BProg}{c:CProg}{env:Int}{next:Bool}
theorem OV {q:Nat} {x:CIns} {l:CLev} {met m:Met} (h:E7 p c env next q x l met=some m):InsOK p c.ins.length q x l m env next /\ ∀ j x,met j=some x->m j=some x:=by
 unfold E7 at h
 split at h
 ·cases h
 ·rename_i e0
  have t:(Ao p x).1<=l.st:=by omega
  have nm:x.op=3->x.a<l.env:=fun h3=>by omega
  have dr:x.op=15->env<l.env:=fun h3=>by omega
  have nx:x.op=20->next=true:=fun aR=>by
   cases next with
   |true=>rfl
   |false=>exact absurd (.inr (.inr (.inr ⟨aR,rfl⟩))) e0
  split at h
  ·rename_i ak
   split at h
   ·rename_i e
    cases h
    exact⟨⟨t,nm,dr,nx,fun _=>e,fun a=>absurd ak a,fun a=>by omega⟩,fun _ _ h=>h⟩
   ·cases h
  ·rename_i ak
   split at h
   ·rename_i ap
    obtain⟨r1,r2,r3,r4⟩:=DO h
    rw[show((q:Int)+1).toNat=q+1 by omega]at r3
    exact⟨⟨t,nm,dr,nx,fun a=>absurd a ak,fun _ _=>⟨by omega,by unfold toC;rw[if_pos ap];exact r3⟩,fun a=>by omega⟩,r4⟩
   ·rename_i ap
    split at h
    ·rename_i am
     obtain⟨r1,r2,r3,r4⟩:=DO h
     rw[show((q:Int)+1).toNat=q+1 by omega]at r3
     exact⟨⟨t,nm,dr,nx,fun a=>absurd a ak,fun _ _=>⟨by omega,by unfold toC;rw[if_neg ap,if_pos am];exact r3⟩,fun a=>by omega⟩,r4⟩
    ·rename_i am
     have eto:toC p x l=⟨l.st-(Ao p x).1+(Ao p x).2,l.env⟩:=by unfold toC;rw[if_neg ap,if_neg am]
     split at h
     ·rename_i aA
      obtain⟨r1,r2,r3,r4⟩:=DO h
      exact⟨⟨t,nm,dr,nx,fun a=>absurd a ak,fun _ a=>absurd aA a,fun _=>⟨r1,r2,by rw[eto];exact r3⟩⟩,r4⟩
     ·rename_i aA
      split at h
      ·split at h
       ·cases h
       ·rename_i m1 e1
        obtain⟨s1,s2,s3,s4⟩:=DO e1
        obtain⟨r1,r2,r3,r4⟩:=DO h
        rw[show((q:Int)+1).toNat=q+1 by omega]at r3
        exact⟨⟨t,nm,dr,nx,fun a=>absurd a ak,fun _ _=>⟨by omega,by rw[eto];exact r3⟩,fun _=>⟨s1,s2,by rw[eto];exact r4 _ _ s3⟩⟩,fun j x hx=>r4 j x (s4 j x hx)⟩
      ·rename_i aZ
       obtain⟨r1,r2,r3,r4⟩:=DO h
       rw[show((q:Int)+1).toNat=q+1 by omega]at r3
       exact⟨⟨t,nm,dr,nx,fun a=>absurd a ak,fun _ _=>⟨by omega,by rw[eto];exact r3⟩,fun a=>absurd a (by omega)⟩,r4⟩
theorem step_to {q:Nat} {x:CIns} {l:CLev} {met m:Met} (h:E7 p c env next q x l met=some m) (j:Nat):m j=met j\/m j=some (toC p x l):=by
 unfold E7 at h
 split at h
 ·cases h
 ·split at h
  ·split at h
   ·cases h;exact .inl rfl
   ·cases h
  ·split at h
   ·rename_i ap
    refine(reach_at h j).imp id fun e=>?_
    unfold toC;rw[if_pos ap];exact e.2
   ·rename_i ap
    split at h
    ·rename_i am
     refine(reach_at h j).imp id fun e=>?_
     unfold toC;rw[if_neg ap,if_pos am];exact e.2
    ·rename_i am
     have eto:toC p x l=⟨l.st-(Ao p x).1+(Ao p x).2,l.env⟩:=by unfold toC;rw[if_neg ap,if_neg am]
     rw[eto]
     split at h
     ·exact(reach_at h j).imp id fun e=>e.2
     ·split at h
      ·split at h
       ·cases h
       ·rename_i e0
        rcases reach_at h j with e|e
        ·exact(reach_at e0 j).imp e.trans fun e2=>e.trans e2.2
        ·exact .inr e.2
      ·exact(reach_at h j).imp id fun e=>e.2
theorem HH: ∀(f q:Nat) (met m:Met),Dh p c env next f q met=some m->∀j x,met j=some x->m j=some x
 |0,_,_,_,h,_,_,hx=>by cases h;exact hx
 | f+1,q,met,m,h,j,x,hx=>by
  rw[Dh]at h
  split at h
  ·exact HH f _ _ _ h j x hx
  ·split at h
   ·cases h
   ·rename_i e
    exact HH f _ _ _ h j x ((OV e).2 j x hx)
theorem OP(p:BProg)(x:CIns):0<=(Ao p x).2:=by
 unfold Ao
 split;simp
 split;simp
 split;simp
 split;simp
 split;simp
 split;simp
 simp
theorem M1 (hf : ∀ q:Nat,(AD c q).op=17\/(AD c q).op=18->(q:Int) < (AD c q).a) : ∀ (f q:Nat) (met m:Met),Dh p c env next f q met=some m->(∀ j l,met j=some l->q<=j/\j < q+f/\0<=l.st/\env<=l.env\/InsOK p c.ins.length j (AD c j) l met env next/\0<=l.st/\env<=l.env) ->
  q+f=c.ins.length->∀j l,m j=some l->InsOK p c.ins.length j (AD c j) l m env next/\0<=l.st/\env<=l.env
 |0,q,met,m,h,hI,_,j,l,hl=>by
  cases h
  rcases hI j l hl with h|h
  ·omega
  ·exact h
 | f+1,q,met,m,h,hI,hN,j,l,hl=>by
  rw[Dh]at h
  split at h
  ·rename_i hq
   refine M1 hf f _ _ _ h (fun i l' hi=>?_) (by omega) j l hl
   rcases hI i l' hi with h'|h'
   ·by_cases e:i=q
    ·subst e;rw[hq]at hi;cases hi
    ·exact .inl (by omega)
   ·exact .inr h'
  ·rename_i l0 hq
   split at h
   ·cases h
   ·rename_i m0 e
    obtain⟨o1,o2⟩:=OV e
    have h0:0<=l0.st/\env<=l0.env:=by
     rcases hI q l0 hq with h'|h'
     ·exact⟨h'.2.2.1,h'.2.2.2⟩
     ·exact h'.2
    refine M1 hf f _ _ _ h (fun i l' hi=>?_) (by omega) j l hl
    by_cases eq:i=q
    ·subst eq
     have:=o2 i l0 hq
     rw[this]at hi;cases hi
     exact .inr ⟨o1,h0⟩
    ·rcases JR e (hf q) i with e2|⟨e2,_⟩
     ·rw[e2]at hi
      rcases hI i l' hi with h'|h'
      ·exact .inl (by omega)
      ·exact .inr ⟨h'.1.mono o2,h'.2⟩
     ·have aU:i<c.ins.length:=Classical.byContradiction fun hn=>by
       have hd:=ML e (fun j hj=>by
        cases hm:met j with
        |none=>rfl
        | some y =>
         rcases hI j y hm with h'|h'
         ·omega
         ·exfalso
          have:c.ins[j]? = none:=List.getElem?_eq_none (by omega)
          have hz:AD c j=⟨0,0⟩:=by unfold AD;rw[this];rfl
          rw[hz]at h'
          have:=(h'.1.on (by simp) (by simp)).1
          omega) i (by omega)
       rw[hd]at hi;cases hi
      have g:m0 i=met i\/l'=toC p (AD c q) l0:=(step_to e i).imp id fun e3=>by rw[hi]at e3;exact Option.some.inj e3
      rcases g with g|g
      ·rw[g]at hi
       rcases hI i l' hi with h'|h'
       ·exact .inl (by omega)
       ·exact .inr ⟨h'.1.mono o2,h'.2⟩
      ·refine .inl ⟨by omega,by omega,?_,?_⟩
       ·rw[g];unfold toC;simp only
        have:(Ao p (AD c q)).1<=l0.st:=o1.take
        have:=OP p (AD c q)
        omega
       ·rw[g];unfold toC;simp only
        split
        ·omega
        ·split
         ·rename_i _ am
          have:=o1.drop am
          omega
         ·omega
end
theorem PX{p:BProg}{c:CProg}(h:EV p c.ins.length c.ins 0=true)(q:Nat)(ax:(AD c q).op=17\/(AD c q).op=18):(q:Int)<(AD c q).a:=by
 have ha:AD c q=((c.ins[q]?).getD ⟨0,0⟩):=rfl
 rw[ha]at ax⊢
 cases hc:c.ins[q]? with
 |none=>rw[hc]at ax;simp at ax
 |some y=>
  rw[hc]at ax
  simp only[Option.getD_some]at ax⊢
  have:=(F9 _ _).1 h q y hc
  unfold fitsC at this
  rw[if_neg (by omega),if_neg (by omega),if_neg (by omega),if_neg (by omega),if_pos ax]at this
  simp only[decide_eq_true_eq]at this
  omega
theorem way_ok{p:BProg}{c:CProg}(hf:∀q:Nat,(AD c q).op=17\/(AD c q).op=18->(q:Int)<(AD c q).a){s:CSt}{w:Met}(h:wayM p c s=some w):
  0<=s.pos/\s.pos<c.ins.length/\w s.pos.toNat=some ⟨0,s.env⟩ /\ ∀j l,w j=some l->InsOK p c.ins.length j (AD c j) l w s.env s.next/\0<=l.st/\s.env<=l.env:=by
 unfold wayM at h
 split at h
 ·cases h
 ·refine⟨by omega,by omega,HH _ _ _ _ h _ _ (by unfold updM;rw[if_pos rfl]),?_⟩
  refine M1 hf _ _ _ _ h (fun j l hl=>?_) (by omega)
  unfold updM at hl
  split at hl
  ·cases hl;exact .inl ⟨by omega,by omega,by simp,by simp⟩
  ·cases hl
structure LevOK(p:BProg)(c:CProg)(m:Met)(nx:Bool):Prop where
 dom:∀(k:Nat) (l:CLev),m k=some l->k<c.ins.length
 ok:∀(k:Nat) (l:CLev),m k=some l->∃(env:Int) (next:Bool),InsOK p c.ins.length k (AD c k) l m env next/\0<=l.st/\env<=l.env/\0<=env/\(next=true->nx=true)
 fits:∀(k:Nat) (x:CIns),c.ins[k]? = some x->fitsC p c.ins.length k x=true
theorem PK{p:BProg}{c:CProg}{l:List CSt}{lv:List CLev}(h:G1 p c l=some lv): ∃W,Fc p c l (fun _=>none)=some W/\lv.length=c.ins.length /\ ∀k x,lv[k]? = some x ↔ W k=some x:=by
 unfold G1 at h
 cases hL:Fc p c l (fun _=>none)with
 |none=>rw[hL]at h;cases h
 | some W =>
  rw[hL]at h
  simp only at h
  split at h
  ·rename_i aE
   cases h
   refine⟨W,rfl,by rw[List.length_map,List.length_range],fun k x=>?_⟩
   by_cases hk:k<c.ins.length
   ·have:=List.all_eq_true.1 aE k (List.mem_range.2 hk)
    obtain⟨y,hy⟩:=Option.isSome_iff_exists.1 this
    rw[List.getElem?_map,List.getElem?_range hk,hy]
    simp[hy]
   ·rw[List.getElem?_eq_none (by rw[List.length_map,List.length_range];omega)]
    constructor
    ·intro e;cases e
    ·intro e
     rcases((F1 _ _ _).1 hL).2.2 k x e with h|⟨s,_,w,hw,ay⟩
     ·cases h
     ·rw[LU hw k (by omega)]at ay;cases ay
  ·cases h
theorem PH{p:BProg}{c:CProg}{lv:List CLev}(h:Ec p c=some lv):okP p=true/\lv.length=c.ins.length/\LevOK p c (fun j=>lv[j]?) true:=by
 unfold Ec at h
 split at h
 ·rename_i hc
  simp only[Bool.and_eq_true,decide_eq_true_eq]at hc
  obtain⟨aH,h1,h2,h3⟩:=hc
  have hf:=PX h3
  obtain⟨W,hW,hl,hx⟩:=PK h
  have hI:=(F1 _ _ _).1 hW
  refine⟨aH,hl,fun k l hk=>by rw[<-hl];exact(List.getElem?_eq_some_iff.1 hk).1,fun k l hk=>?_,fun k x hk=>by have:=(F9 _ _).1 h3 k x hk;rwa [Nat.zero_add]at this⟩
  rcases hI.2.2 k l ((hx k l).1 hk)with h|⟨s,hs,w,hw,ay⟩
  ·cases h
  ·obtain⟨w1,aF,aB⟩:=hI.2.1 s hs
   rw[hw]at aF;cases aF
   obtain⟨i1,i2,i3⟩:=(way_ok hf hw).2.2.2 k l ay
   refine⟨s.env,s.next,i1.mono fun j x hj=>(hx j x).2 (aB j x hj),i2,i3,?_,fun _=>rfl⟩
   unfold stsP at hs
   rcases List.mem_append.1 hs with hs|hs
   ·rw[<-List.map_uncurry_zip_eq_zipWith]at hs
    obtain⟨⟨m,n⟩,_,rfl⟩:=List.mem_map.1 hs
    exact(GP aH m.gen.toNat).1
   ·rw[List.mem_singleton]at hs;rw[hs];exact Int.le_refl 0
 ·cases h
structure MVal where
 kind:Int
 n:Int
 deriving DecidableEq
structure MThing where
 cls:Int
 slots:List MVal
 deriving DecidableEq
structure MEv where
 deed:Int
 n:Int
 vals:List MVal
 deriving DecidableEq
structure GoS where
 objs:List MThing
 evs:List MEv
 pos:Int
 stk:List MVal
 env:List MVal
structure GoH where
 kind:Int
 val:MVal
 gen:Int
 args:List MVal
 fin:Int
 pos:Int
 stk:List MVal
 env:List MVal
 objs:List MThing
 evs:List MEv
structure CWorld where
 own:Int->Bool
 slots:Int->List Int
 fresh:Int->List MVal
def E4:MVal:=⟨2,0⟩
def vInt(n:Int):MVal:=⟨1,n⟩
def vObj(n:Int):MVal:=⟨3,n⟩
def vZ:MVal:=⟨0,0⟩
def AI(v:MVal):Int:=if v.kind=1 then v.n else 0
def Do(b:Bool):Int:=if b then 1 else 0
def Dx(n:Int):Int:=min (max n (-1000000000)) 1000000000
def Gq(op:Int)(v w:MVal):MVal:=
 if op=9 then vInt (Dx (AI v+AI w)) else if op=10 then vInt (Dx (AI v-AI w)) else if op=11 then vInt (Dx (AI v*AI w)) else
 if op=12 then vInt (Do (decide (AI v<AI w))) else vInt (Do (decide (v=w)))
def okV(objs:Int)(v:MVal):Bool:=if v.kind=1 then decide (-1000000000<=v.n/\v.n<=1000000000) else if v.kind=2 then decide (v.n=0) else if v.kind=3 then decide (0<=v.n/\v.n<objs) else false
def okVs(objs:Int)(l:List MVal):Bool:=l.all (okV objs)
def B8(w:CWorld)(l:List MThing):Bool:=decide (l.length<=40)&&l.all fun o=>w.own o.cls&&(decide (o.slots.length=(w.slots o.cls).length)&&okVs l.length o.slots)
def CH(l:List MThing)(n:Int):MThing:=(l[n.toNat]?).getD ⟨0,[]⟩
def Bb(w:CWorld)(objs:List MThing)(v:MVal)(s:Int):Int:=if v.kind=3 then idxG s (w.slots (CH objs v.n).cls) 0 else -1
def Ce(w:CWorld)(x:MThing)(c:Int):MThing:=
 ⟨c,List.zipWith (fun s v=>if 0<=idxG s (w.slots x.cls) 0 then(x.slots[(idxG s (w.slots x.cls) 0).toNat]?).getD vZ else v) (w.slots c) (w.fresh c)⟩
def Dj(l:List MVal):MVal:=(l.getLast?).getD vZ
def setObj(l:List MThing)(n:Int)(x:MThing):List MThing:=l.set n.toNat x
def Fz(s:GoS)(e:Int)(stk:List MVal):GoH:=⟨4,vZ,0,[],e,0,[],[],s.objs,s.evs⟩
def HY(p:BProg)(w:CWorld)(x:CIns)(s:GoS):GoS ⊕ GoH:=
 let v:=Dj s.stk
 let r:=s.stk.dropLast
 if x.op=1 then .inl { s with stk:=s.stk++[vInt x.a] }
 else if x.op=2 then .inl { s with stk:=s.stk++[E4] }
 else if x.op=3 then .inl { s with stk:=s.stk++[(s.env[x.a.toNat]?).getD vZ] }
 else if x.op=4 then(if 40<=s.objs.length then .inr (Fz s 8 r) else .inl { s with objs:=s.objs++[⟨x.a,w.fresh x.a⟩],stk:=s.stk++[vObj s.objs.length] })
 else if x.op=5 then(if Bb w s.objs v x.a<0 then .inr (Fz s 5 r) else .inl { s with stk:=r++[((CH s.objs v.n).slots[(Bb w s.objs v x.a).toNat]?).getD vZ] })
 else if x.op=6 then(if v.kind=3 then .inl { s with objs:=setObj s.objs v.n (Ce w (CH s.objs v.n) x.a),stk:=r++[v] } else .inr (Fz s 6 r))
 else if x.op=7 then .inl { s with evs:=s.evs++[⟨2,0,[v]⟩],stk:=r++[v] }
 else if x.op=8 then(if Bb w s.objs (Dj r) x.a<0 then .inr (Fz s 5 r) else
  .inl { s with objs:=setObj s.objs (Dj r).n ⟨(CH s.objs (Dj r).n).cls,(CH s.objs (Dj r).n).slots.set (Bb w s.objs (Dj r) x.a).toNat v⟩,stk:=r.dropLast++[v] })
 else if x.op=14 then .inl { s with env:=s.env++[v],stk:=r }
 else if x.op=15 then .inl { s with env:=s.env.dropLast }
 else if x.op=16 then .inl { s with stk:=r }
 else if x.op=17 then .inl { s with stk:=r,pos:=if AI v=0 then x.a else s.pos }
 else if x.op=18 then .inl { s with pos:=x.a }
 else if x.op=19 then .inr ⟨2,vZ,x.a,s.stk.drop (s.stk.length-(p.gens.getD x.a.toNat 0).toNat),0,s.pos,s.stk.take (s.stk.length-(p.gens.getD x.a.toNat 0).toNat),s.env,s.objs,s.evs⟩
 else if x.op=20 then .inr ⟨3,vZ,0,[],0,s.pos,s.stk,s.env,s.objs,s.evs⟩
 else if x.op=21 then .inr ⟨1,v,0,[],0,0,[],[],s.objs,s.evs⟩
 else .inl { s with stk:=r.dropLast++[Gq x.op (Dj r) v] }
def mRun(p:BProg)(w:CWorld)(c:CProg):Nat->GoS->GoH
 |0,s=>Fz s 0 []
 |f+1,s=>match HY p w (AD c s.pos.toNat) { s with pos:=s.pos+1 } with
  |.inl t=>mRun p w c f t
  |.inr h=>h
theorem AY{N:Int}{l:List MVal}:okVs N l=true ↔ ∀v∈l,okV N v=true:=by unfold okVs;exact List.all_eq_true
theorem SB{M N:Int}{v:MVal}(h:okV M v=true)(hN:M<=N):okV N v=true:=by
 unfold okV at h⊢
 split
 ·rw[if_pos (by assumption)]at h;exact h
 ·rw[if_neg (by assumption)]at h
  split
  ·rw[if_pos (by assumption)]at h;exact h
  ·rw[if_neg (by assumption)]at h
   split
   ·rw[if_pos (by assumption)]at h;simp only[decide_eq_true_eq]at h⊢; omega
   ·rw[if_neg (by assumption)]at h;exact h
theorem Ey{M N:Int}{l:List MVal}(h:okVs M l=true)(hN:M<=N):okVs N l=true:=AY.2 fun v hv=>SB (AY.1 h v hv) hN
theorem C1{N:Int}{l:List MVal}{v:MVal}(h:okVs N l=true)(hv:okV N v=true):okVs N (l++[v])=true:=AY.2 fun x hx=>by
 rcases List.mem_append.1 hx with hx|hx
 ·exact AY.1 h x hx
 ·rw[List.mem_singleton]at hx;rw[hx];exact hv
theorem Co{N:Int}{l:List MVal}(h:okVs N l=true):okVs N l.dropLast=true:=AY.2 fun x hx=>AY.1 h x (List.dropLast_subset l hx)
theorem Ed{N:Int}{l:List MVal}(h:okVs N l=true)(h1:1<=l.length):okV N (Dj l)=true:=by
 unfold Dj
 rw[List.getLast?_eq_getElem?, List.getElem?_eq_getElem (by omega)]
 exact AY.1 h _ (List.getElem_mem _)
theorem By{w:CWorld}{l:List MThing}:B8 w l=true ↔ l.length<=40 /\ ∀o∈l,w.own o.cls=true/\o.slots.length=(w.slots o.cls).length/\okVs l.length o.slots=true:=by
 unfold B8
 simp only[Bool.and_eq_true,decide_eq_true_eq,List.all_eq_true]
theorem EZ{w:CWorld}{l:List MThing}(h:B8 w l=true){v:MVal}(hv:okV l.length v=true)(h3:v.kind=3):(CH l v.n)∈l/\0<=v.n/\v.n<l.length:=by
 unfold okV at hv
 rw[if_neg (by omega),if_neg (by omega),if_pos h3]at hv
 simp only[decide_eq_true_eq]at hv
 unfold CH
 rw[List.getElem?_eq_getElem (by omega)]
 exact⟨List.getElem_mem _,hv⟩
theorem J1{w:CWorld}{l:List MThing}(h:B8 w l=true){n:Int}{x:MThing}(h1:w.own x.cls=true)(h2:x.slots.length=(w.slots x.cls).length)(h3:okVs l.length x.slots=true):B8 w (setObj l n x)=true:=by
 rw[By]at h⊢
 unfold setObj
 rw[List.length_set]
 refine⟨h.1,fun o ho=>?_⟩
 rcases List.mem_or_eq_of_mem_set ho with ho|rfl
 ·exact h.2 o ho
 ·exact⟨h1,h2,h3⟩
theorem GN{α}[DecidableEq α]{s:α}: ∀(l:List α) (k:Nat),0<=idxG s l k->k<=idxG s l k/\idxG s l k<k+l.length
 |[],_,h=>by rw[idxG]at h;omega
 | x::r,k,h=>by
  rw[idxG]at h⊢
  rw[List.length_cons]
  split
  ·omega
  ·rename_i e
   rw[if_neg e]at h
   have:=GN r (k+1) h
   omega
structure WldOK(p:BProg)(w:CWorld):Prop where
 own:∀c:Int,3<=c->c<3+p.classes.length->w.own c=true
 len:∀c,w.own c=true->(w.fresh c).length=(w.slots c).length
 ok:∀c,w.own c=true->okVs 0 (w.fresh c)=true
theorem turn_ok{p:BProg}{w:CWorld}(hw:WldOK p w){N:Int}(hN:0<=N){x:MThing}{c:Int}(hc:w.own c=true)(hx:w.own x.cls=true)(hl:x.slots.length=(w.slots x.cls).length)(hs:okVs N x.slots=true):
  (Ce w x c).slots.length=(w.slots c).length/\okVs N (Ce w x c).slots=true:=by
 have hlen:=hw.len c hc
 unfold Ce
 simp only
 refine⟨by rw[List.length_zipWith,hlen,Nat.min_self],AY.2 fun v hv=>?_⟩
 rw[<-List.map_uncurry_zip_eq_zipWith]at hv
 obtain⟨⟨a,b⟩,aK,rfl⟩:=List.mem_map.1 hv
 simp only[Function.uncurry]
 split
 ·rename_i h0
  have:=GN (s:=a) (w.slots x.cls) 0 (by exact_mod_cast h0)
  rw[List.getElem?_eq_getElem (by omega)]
  exact AY.1 hs _ (List.getElem_mem _)
 ·exact AY.1 (Ey (hw.ok c hc) hN) b (List.of_mem_zip aK).2
structure GInv(w:CWorld)(m:Met)(s:GoS):Prop where
 lo:0<=s.pos
 lev:∃l,m s.pos.toNat=some l/\(s.stk.length:Int)=l.st/\(s.env.length:Int)=l.env
 stk:okVs s.objs.length s.stk=true
 env:okVs s.objs.length s.env=true
 objs:B8 w s.objs=true
structure HInv(p:BProg)(w:CWorld)(m:Met)(nx:Bool)(at0:Int)(h:GoH):Prop where
 objs:B8 w h.objs=true
 kind:h.kind=1\/h.kind=2\/h.kind=3\/h.kind=4
 goes:h.kind=3->nx=true
 val:h.kind=1->okV h.objs.length h.val=true
 asks:h.kind=2->0<=h.gen/\h.gen<p.gens.length/\(h.args.length:Int)=p.gens.getD h.gen.toNat 0/\okVs h.objs.length h.args=true
 frame:h.kind=2\/h.kind=3->at0<h.pos/\(∃l,m h.pos.toNat=some l/\(h.stk.length:Int)+1=l.st/\(h.env.length:Int)=l.env)/\okVs h.objs.length h.stk=true/\okVs h.objs.length h.env=true
theorem SC(N:Int)(op:Int)(v w:MVal):okV N (Gq op v w)=true:=by
 have hc:∀n,okV N (vInt (Dx n))=true:=fun n=>by
  unfold okV vInt Dx
  simp only[if_true,decide_eq_true_eq]
  omega
 have ht:∀b,okV N (vInt (Do b))=true:=fun b=>by
  unfold okV vInt Do
  cases b<;>simp
 unfold Gq
 split
 ·exact hc _
 split
 ·exact hc _
 split
 ·exact hc _
 split
 ·exact ht _
 ·exact ht _
section
variable {p:BProg}{w:CWorld}{c:CProg}{m:Met}{nx:Bool}
theorem Cz{N:Nat}{x:CIns}{l:CLev}{env:Int}{next:Bool}{s t:GoS}(hI:InsOK p N s.pos.toNat x l m env next)(h0:0<=s.pos)(ak:x.op≠21)(aA:x.op≠18)
  (hp:t.pos=s.pos+1) (h1:(t.stk.length:Int)=(toC p x l).st) (h2:(t.env.length:Int)=(toC p x l).env) (h3:okVs t.objs.length t.stk=true) (h4:okVs t.objs.length t.env=true) (h5:B8 w t.objs=true):GInv w m t/\s.pos<t.pos:=by
 refine⟨⟨by omega,⟨_,?_,h1,h2⟩,h3,h4,h5⟩,by omega⟩
 rw[hp,show(s.pos+1).toNat=s.pos.toNat+1 by omega]
 exact(hI.on ak aA).2
theorem J2(hg:∀n:Nat,0<=p.gens.getD n 0)(hw:WldOK p w)(hL:LevOK p c m nx){s:GoS}(hs:GInv w m s):match HY p w (AD c s.pos.toNat) { s with pos:=s.pos+1 } with
  |.inl t=>GInv w m t/\s.pos<t.pos
  |.inr h=>HInv p w m nx s.pos h:=by
 obtain⟨h0,⟨l,hl,aS,ag⟩,ai,ae,ac⟩:=hs
 obtain⟨env,next,hI,g1,g2,g3,g4⟩:=hL.ok _ _ hl
 have hk:s.pos.toNat<c.ins.length:=hL.dom _ _ hl
 have hx:c.ins[s.pos.toNat]? = some (AD c s.pos.toNat):=by unfold AD;rw[List.getElem?_eq_getElem hk];rfl
 have aa:=hL.fits _ _ hx
 generalize AD c s.pos.toNat=x at hI hx aa
 have ht:=hI.take
 have aO:s.stk.dropLast.length=s.stk.length-1:=List.length_dropLast
 have aj:=Co ai
 have aJ:=Co aj
 have aY:s.stk.dropLast.dropLast.length=s.stk.length-1-1:=by rw[List.length_dropLast,aO]
 have ar:1<=s.stk.length->okV s.objs.length (Dj s.stk)=true:=Ed ai
 have aM:2<=s.stk.length->okV s.objs.length (Dj s.stk.dropLast)=true:=fun h=>Ed aj (by omega)
 unfold fitsC at aa
 unfold HY
 simp only
 by_cases e1:x.op=1
 ·rw[if_pos e1]at aa
  rw[if_pos e1]
  have u:Ao p x=(0,1):=by unfold Ao;rw[if_pos (by omega)]
  refine Cz hI h0 (by omega) (by omega) rfl ?_ ?_ (C1 ai ?_) ae ac
  ·unfold toC;rw[u,List.length_append];simp only[List.length_singleton];omega
  ·unfold toC;rw[if_neg (by omega),if_neg (by omega)];exact ag
  ·unfold inB at aa
   unfold okV vInt
   simp only[if_true,Bool.and_eq_true,decide_eq_true_eq]at aa⊢
   omega
 rw[if_neg e1]at aa
 rw[if_neg e1]
 by_cases e2:x.op=2
 ·rw[if_pos e2]
  have u:Ao p x=(0,1):=by unfold Ao;rw[if_pos (by omega)]
  refine Cz hI h0 (by omega) (by omega) rfl ?_ ?_ (C1 ai ?_) ae ac
  ·unfold toC;rw[u,List.length_append];simp only[List.length_singleton];omega
  ·unfold toC;rw[if_neg (by omega),if_neg (by omega)];exact ag
  ·simp[okV,E4]
 rw[if_neg e2]
 by_cases e3:x.op=3
 ·rw[if_pos e3]at aa
  rw[if_pos e3]
  have hn:=hI.name e3
  simp only[decide_eq_true_eq]at aa
  have u:Ao p x=(0,1):=by unfold Ao;rw[if_pos (by omega)]
  refine Cz hI h0 (by omega) (by omega) rfl ?_ ?_ (C1 ai ?_) ae ac
  ·unfold toC;rw[u,List.length_append];simp only[List.length_singleton];omega
  ·unfold toC;rw[if_neg (by omega),if_neg (by omega)];exact ag
  ·simp only
   rw[List.getElem?_eq_getElem (by omega)]
   exact AY.1 ae _ (List.getElem_mem _)
 rw[if_neg e3]at aa
 rw[if_neg e3]
 by_cases e4:x.op=4
 ·rw [if_pos (by omega)] at aa
  rw[if_pos e4]
  simp only[decide_eq_true_eq]at aa
  have ah:=hw.own x.a aa.1 aa.2
  have u:Ao p x=(0,1):=by unfold Ao;rw[if_pos (by omega)]
  by_cases hn:40<=s.objs.length
  ·rw[if_pos hn]
   exact⟨ac,.inr (.inr (.inr rfl)),(nomatch ·),(nomatch ·),(nomatch ·),fun h=>by simp[Fz]at h⟩
  ·rw[if_neg hn]
   have aC:((s.objs.length:Nat):Int)<=((s.objs++[(⟨x.a,w.fresh x.a⟩:MThing)]).length:Nat):=by rw[List.length_append];simp only[List.length_singleton];omega
   refine Cz hI h0 (by omega) (by omega) rfl ?_ ?_ (C1 (Ey ai aC) ?_) (Ey ae aC) ?_
   ·unfold toC;rw[u,List.length_append];simp only[List.length_singleton];omega
   ·unfold toC;rw[if_neg (by omega),if_neg (by omega)];exact ag
   ·simp only[okV,vObj,List.length_append,List.length_singleton];simp;omega
   ·rw[By]at ac⊢
    refine⟨by rw[List.length_append];simp only[List.length_singleton];omega,fun o ho=>?_⟩
    rcases List.mem_append.1 ho with ho|ho
    ·exact⟨(ac.2 o ho).1,(ac.2 o ho).2.1,Ey (ac.2 o ho).2.2 aC⟩
    ·rw[List.mem_singleton]at ho;rw[ho]
     exact⟨ah,hw.len _ ah,Ey (hw.ok _ ah) (by omega)⟩
 rw[if_neg e4]
 by_cases e5:x.op=5
 ·rw [if_pos e5]
  have u:Ao p x=(1,1):=by unfold Ao;rw[if_neg (by omega),if_pos (by omega)]
  rw[u]at ht
  simp only at ht
  by_cases hn:Bb w s.objs (Dj s.stk) x.a<0
  ·rw[if_pos hn]
   exact⟨ac,.inr (.inr (.inr rfl)),(nomatch ·),(nomatch ·),(nomatch ·),fun h=>by simp[Fz]at h⟩
  ·rw[if_neg hn]
   refine Cz hI h0 (by omega) (by omega) rfl ?_ ?_ (C1 aj ?_) ae ac
   ·unfold toC;rw[u,List.length_append];simp only[List.length_singleton];omega
   ·unfold toC;rw[if_neg (by omega),if_neg (by omega)];exact ag
   ·unfold Bb at hn⊢
    split at hn
    ·rename_i h3
     rw[if_pos h3]
     obtain⟨o1,o2⟩:=EZ ac (ar (by omega)) h3
     have:=GN (s:=x.a) (w.slots (CH s.objs (Dj s.stk).n).cls) 0 (by omega)
     obtain⟨q1,q2,q3⟩:=(By.1 ac).2 _ o1
     rw[List.getElem?_eq_getElem (by omega)]
     exact AY.1 q3 _ (List.getElem_mem _)
    ·omega
 rw[if_neg e5]
 by_cases e6:x.op=6
 ·rw[if_pos (by omega)]at aa
  rw[if_pos e6]
  simp only[decide_eq_true_eq]at aa
  have ah:=hw.own x.a aa.1 aa.2
  have u:Ao p x=(1,1):=by unfold Ao;rw[if_neg (by omega),if_pos (by omega)]
  rw[u]at ht
  simp only at ht
  by_cases h3:(Dj s.stk).kind=3
  ·rw[if_pos h3]
   have hsz:(setObj s.objs (Dj s.stk).n (Ce w (CH s.objs (Dj s.stk).n) x.a)).length=s.objs.length:=List.length_set
   obtain⟨o1,o2⟩:=EZ ac (ar (by omega)) h3
   obtain⟨q1,q2,q3⟩:=(By.1 ac).2 _ o1
   obtain⟨t1,t2⟩:=turn_ok hw (Int.natCast_nonneg s.objs.length) ah q1 q2 q3
   refine Cz hI h0 (by omega) (by omega) rfl ?_ ?_ (C1 ?_ ?_) ?_ (J1 ac ah t1 t2)
   ·unfold toC;rw[u,List.length_append];simp only[List.length_singleton];omega
   ·unfold toC;rw[if_neg (by omega),if_neg (by omega)];exact ag
   ·simp only[hsz];exact aj
   ·simp only[hsz];exact ar (by omega)
   ·simp only[hsz];exact ae
  ·rw[if_neg h3]
   exact⟨ac,.inr (.inr (.inr rfl)),(nomatch ·),(nomatch ·),(nomatch ·),fun h=>by simp[Fz]at h⟩
 rw[if_neg (by omega)]at aa
 rw[if_neg e6]
 by_cases e7:x.op=7
 ·rw[if_pos e7]
  have u:Ao p x=(1,1):=by unfold Ao;rw[if_neg (by omega),if_pos (by omega)]
  rw[u]at ht
  simp only at ht
  refine Cz hI h0 (by omega) (by omega) rfl ?_ ?_ (C1 aj (ar (by omega))) ae ac
  ·unfold toC;rw[u,List.length_append];simp only[List.length_singleton];omega
  ·unfold toC;rw[if_neg (by omega),if_neg (by omega)];exact ag
 rw[if_neg e7]
 by_cases e8:x.op=8
 ·rw [if_pos e8]
  have u:Ao p x=(2,1):=by unfold Ao;rw[if_neg (by omega),if_neg (by omega),if_neg (by omega),if_neg (by omega),if_neg (by omega),if_neg (by omega)]
  rw[u]at ht
  simp only at ht
  by_cases hn:Bb w s.objs (Dj s.stk.dropLast) x.a<0
  ·rw[if_pos hn]
   exact⟨ac,.inr (.inr (.inr rfl)),(nomatch ·),(nomatch ·),(nomatch ·),fun h=>by simp[Fz]at h⟩
  ·rw[if_neg hn]
   unfold Bb at hn
   split at hn
   ·rename_i h3
    obtain⟨o1,o2⟩:=EZ ac (aM (by omega)) h3
    obtain⟨q1,q2,q3⟩:=(By.1 ac).2 _ o1
    refine Cz hI h0 (by omega) (by omega) rfl ?_ ?_ (C1 ?_ ?_) ?_ (J1 ac q1 ?_ ?_)
    ·unfold toC;rw[u,List.length_append];simp only[List.length_singleton];omega
    ·unfold toC;rw[if_neg (by omega),if_neg (by omega)];exact ag
    ·simp only[setObj,List.length_set];exact aJ
    ·simp only[setObj,List.length_set];exact ar (by omega)
    ·simp only[setObj,List.length_set];exact ae
    ·rw[List.length_set];exact q2
    ·refine AY.2 fun v hv=>?_
     rcases List.mem_or_eq_of_mem_set hv with hv|rfl
     ·exact AY.1 q3 v hv
     ·exact ar (by omega)
   ·omega
 rw[if_neg e8]
 rw[if_neg (by omega)]at aa
 by_cases e14:x.op=14
 ·rw[if_pos e14]
  have u:Ao p x=(1,0):=by unfold Ao;rw[if_neg (by omega),if_neg (by omega),if_pos (by omega)]
  rw[u]at ht
  simp only at ht
  refine Cz hI h0 (by omega) (by omega) rfl ?_ ?_ aj (C1 ae (ar (by omega))) ac
  ·unfold toC;rw[u];simp only;omega
  ·unfold toC;rw[if_pos e14,List.length_append];simp only[List.length_singleton];omega
 rw[if_neg e14]
 by_cases e15:x.op=15
 ·rw[if_pos e15]
  have aX:=hI.drop e15
  have u:Ao p x=(0,0):=by unfold Ao;rw[if_neg (by omega),if_neg (by omega),if_neg (by omega),if_neg (by omega),if_pos (by omega)]
  refine Cz hI h0 (by omega) (by omega) rfl ?_ ?_ ai (Co ae) ac
  ·unfold toC;rw[u];simp only;omega
  ·unfold toC;rw[if_neg e14,if_pos e15];simp only[List.length_dropLast];omega
 rw[if_neg e15]
 have en0:(toC p x l).env=l.env:=by unfold toC;rw[if_neg e14,if_neg e15]
 by_cases e16:x.op=16
 ·rw[if_pos e16]
  have u:Ao p x=(1,0):=by unfold Ao;rw[if_neg (by omega),if_neg (by omega),if_pos (by omega)]
  rw[u]at ht
  simp only at ht
  refine Cz hI h0 (by omega) (by omega) rfl ?_ (by rw[en0];exact ag) aj ae ac
  unfold toC;rw[u];simp only;omega
 rw[if_neg e16]
 by_cases e17:x.op=17
 ·rw[if_pos e17]
  rw[if_pos (by omega)]at aa
  simp only[decide_eq_true_eq]at aa
  have u:Ao p x=(1,0):=by unfold Ao;rw[if_neg (by omega),if_neg (by omega),if_pos (by omega)]
  rw[u]at ht
  simp only at ht
  have est:((s.stk.dropLast.length:Nat):Int)=(toC p x l).st:=by unfold toC;rw[u];simp only;omega
  by_cases hz:AI (Dj s.stk)=0
  ·simp only[if_pos hz]
   refine⟨⟨by simp only;omega,⟨_,(hI.jump (.inl e17)).2.2,est,by rw[en0];exact ag⟩,aj,ae,ac⟩,by first|omega|(simp only;omega)⟩
  ·simp only[if_neg hz]
   exact Cz hI h0 (by omega) (by omega) rfl est (by rw[en0];exact ag) aj ae ac
 rw[if_neg e17]
 by_cases e18:x.op=18
 ·rw[if_pos e18]
  rw[if_pos (by omega)]at aa
  simp only[decide_eq_true_eq]at aa
  have u:Ao p x=(0,0):=by unfold Ao;rw[if_neg (by omega),if_neg (by omega),if_neg (by omega),if_neg (by omega),if_pos (by omega)]
  refine⟨⟨by simp only;omega,⟨_,(hI.jump (.inr e18)).2.2,?_,by rw[en0];exact ag⟩,ai,ae,ac⟩,by first|omega|(simp only;omega)⟩
  unfold toC;rw[u];simp only;omega
 rw[if_neg e18]
 rw[if_neg (by omega)]at aa
 by_cases e19:x.op=19
 ·rw[if_pos e19]at aa
  rw[if_pos e19]
  simp only[decide_eq_true_eq]at aa
  have u:Ao p x=(p.gens.getD x.a.toNat 0,1):=by unfold Ao;rw[if_neg (by omega),if_neg (by omega),if_neg (by omega),if_pos e19]
  rw[u]at ht
  simp only at ht
  have aI:=(hI.on (by omega) (by omega)).2
  have aG:toC p x l=⟨l.st-p.gens.getD x.a.toNat 0+1,l.env⟩:=by unfold toC;rw[u,if_neg e14,if_neg e15]
  have aV:0<=p.gens.getD x.a.toNat 0:=hg _
  refine⟨ac,.inr (.inl rfl),(nomatch ·),(nomatch ·),fun _=>⟨aa.1,aa.2,?_,?_⟩,fun _=>⟨by simp only;omega,⟨toC p x l,?_,?_,?_⟩,?_,ae⟩⟩
  ·show((s.stk.drop (s.stk.length-(p.gens.getD x.a.toNat 0).toNat)).length:Int)=p.gens.getD x.a.toNat 0
   rw[List.length_drop];omega
  ·exact AY.2 fun v hv=>AY.1 ai v (List.mem_of_mem_drop hv)
  ·simp only
   rw[show(s.pos+1).toNat=s.pos.toNat+1 by omega]
   exact aI
  ·rw[aG];simp only[List.length_take];omega
  ·rw[aG];exact ag
  ·exact AY.2 fun v hv=>AY.1 ai v (List.mem_of_mem_take hv)
 rw[if_neg e19]at aa
 rw[if_neg e19]
 simp only[decide_eq_true_eq]at aa
 by_cases e20:x.op=20
 ·rw[if_pos e20]
  have u:Ao p x=(0,1):=by unfold Ao;rw[if_pos (by omega)]
  refine⟨ac,.inr (.inr (.inl rfl)),fun _=>g4 (hI.nexts e20),(nomatch ·),(nomatch ·),fun _=>⟨by simp only;omega,⟨_,?_,?_,by rw[en0];exact ag⟩,ai,ae⟩⟩
  ·simp only
   rw[show(s.pos+1).toNat=s.pos.toNat+1 by omega]
   exact(hI.on (by omega) (by omega)).2
  ·unfold toC;rw[u];simp only;omega
 rw[if_neg e20]
 by_cases e21:x.op=21
 ·rw[if_pos e21]
  have:=(hI.fin e21).1
  exact⟨ac,.inl rfl,(nomatch ·),fun _=>ar (by omega),(nomatch ·),fun h=>by simp at h⟩
 rw[if_neg e21]
 have u:Ao p x=(2,1):=by unfold Ao;rw[if_neg (by omega),if_neg (by omega),if_neg (by omega),if_neg (by omega),if_neg (by omega),if_neg (by omega)]
 rw[u]at ht
 simp only at ht
 refine Cz hI h0 (by omega) (by omega) rfl ?_ (by rw[en0];exact ag) (C1 aJ (SC _ _ _ _)) ae ac
 unfold toC;rw[u,List.length_append];simp only[List.length_singleton];omega
end
theorem HInv.mono{p:BProg}{w:CWorld}{m:Met}{nx:Bool}{a b:Int}{h:GoH}(hh:HInv p w m nx b h)(aK:a<=b):HInv p w m nx a h:=
 ⟨hh.objs,hh.kind,hh.goes,hh.val,hh.asks,fun hk=>⟨by have:=(hh.frame hk).1;omega,(hh.frame hk).2⟩⟩
section
variable {p:BProg}{w:CWorld}{c:CProg}{m:Met}{nx:Bool}
theorem KJ(hg:∀n:Nat,0<=p.gens.getD n 0)(hw:WldOK p w)(hL:LevOK p c m nx): ∀(f g:Nat) (s:GoS),GInv w m s->c.ins.length<=s.pos.toNat+f->c.ins.length<=s.pos.toNat+g->mRun p w c f s=mRun p w c g s
 |0,_,s,hs,hf,_=>by
  obtain⟨l,hl,_⟩:=hs.lev
  have:=hL.dom _ _ hl
  omega
 |_+1,0,s,hs,_,hf=>by
  obtain⟨l,hl,_⟩:=hs.lev
  have:=hL.dom _ _ hl
  omega
 | f+1,g+1,s,hs,hf,aW=>by
  have hk:=J2 hg hw hL hs
  rw[mRun,mRun]
  cases e:HY p w (AD c s.pos.toNat) { s with pos:=s.pos+1 } with
  |inl t=>
   rw[e]at hk
   have h0:=hs.lo
   exact KJ hg hw hL f g t hk.1 (by have:=hk.2;omega) (by have:=hk.2;omega)
  |inr h=>rfl
end
def FA(lv:List CLev)(N:Int)(pos:Int)(stk env:List MVal):Bool:=
 decide (0<=pos/\pos<lv.length/\(stk.length:Int)=((lv[pos.toNat]?).getD ⟨0,0⟩).st/\(env.length:Int)=((lv[pos.toNat]?).getD ⟨0,0⟩).env)&&(okVs N stk&&okVs N env)
def goC(p:BProg)(w:CWorld)(c:CProg)(objs:List MThing)(pos:Int)(stk env:List MVal):Option GoH:=match Ec p c with
 |none=>none
 |some lv=>if B8 w objs&&FA lv objs.length pos stk env then some (mRun p w c c.ins.length ⟨objs,[],pos,stk,env⟩) else none
theorem PU{w:CWorld}{lv:List CLev}{objs:List MThing}{evs:List MEv}{pos:Int}{stk env:List MVal}(ho:B8 w objs=true):FA lv objs.length pos stk env=true ↔ GInv w (fun j=>lv[j]?) ⟨objs,evs,pos,stk,env⟩:=by
 unfold FA
 simp only[Bool.and_eq_true,decide_eq_true_eq]
 constructor
 ·rintro⟨⟨h1,h2,h3,h4⟩,h5,h6⟩
  have e:lv[pos.toNat]? = some (lv[pos.toNat]'(by omega)):=List.getElem?_eq_getElem (by omega)
  rw[e]at h3 h4
  exact⟨h1,⟨_,e,h3,h4⟩,h5,h6,ho⟩
 ·rintro⟨h1,⟨l,h2,h3,h4⟩,h5,h6,_⟩
  simp only at h1 h2 h3 h4 h5 h6
  have:=(List.getElem?_eq_some_iff.1 h2).1
  refine⟨⟨h1,by omega,?_,?_⟩,h5,h6⟩
  ·rw[h2];exact h3
  ·rw[h2];exact h4
theorem GInv.sub{w:CWorld}{m m':Met}{s:GoS}(h:GInv w m s)(hm:∀j l,m j=some l->m' j=some l):GInv w m' s:=by
 obtain⟨h1,⟨l,h2,h3⟩,h4,h5,h6⟩:=h
 exact⟨h1,⟨l,hm _ _ h2,h3⟩,h4,h5,h6⟩
end Go.DL
