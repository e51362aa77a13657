/- A part of the proof. -/
import Derived.Test.YteldimffglchkaaGreatDoorM27
import Derived.Test.YteldimffglchkaaGreatDoorM21
set_option linter.all false
namespace Go.DL
open Go.Proofs.Tryz
open Go Go.Proofs
set_option maxHeartbeats 8000000
def curT(w:CWorld)(x:MThing)(c:Int)(q:Nat):List MVal:=(Cn w x c).slots.take q++(w.fresh c).drop q
theorem Cs(w:CWorld)(x:MThing)(c:Int)(h:(w.fresh c).length=(w.slots c).length):(Cn w x c).slots.length=(w.slots c).length:=by unfold Cn;simp[h]
theorem OF(w:CWorld)(x:MThing)(c:Int)(h:(w.fresh c).length=(w.slots c).length)(q:Nat)(hq:q<=(w.slots c).length):(curT w x c q).length=(w.slots c).length:=by
 unfold curT;rw[List.length_append,List.length_take,List.length_drop,Cs w x c h,h];omega
theorem Q7(w:CWorld)(x:MThing)(c:Int)(h:(w.fresh c).length=(w.slots c).length)(q:Nat)(hq:q<(w.slots c).length):(Cn w x c).slots[q]'(by rw[Cs w x c h];exact hq)=(if 0<=idxG ((w.slots c)[q]) (w.slots x.cls) 0 then(x.slots[(idxG ((w.slots c)[q]) (w.slots x.cls) 0).toNat]?).getD vZ else(w.fresh c)[q]'(by rw[h];exact hq)):=by
 unfold Cn;simp
theorem Tu(w:CWorld)(x:MThing)(c:Int)(h:(w.fresh c).length=(w.slots c).length)(q:Nat)(hq:q<(w.slots c).length):curT w x c (q+1)=(curT w x c q).set q ((Cn w x c).slots[q]'(by rw[Cs w x c h];exact hq)):=by
 unfold curT
 have ht:q<(Cn w x c).slots.length:=by rw[Cs w x c h];exact hq
 rw[List.take_succ_eq_append_getElem ht,List.set_append_right _ _ (by rw[List.length_take];omega),List.append_assoc]
 congr 1
 rw[show(w.fresh c).drop q=(w.fresh c)[q]'(by rw[h];exact hq)::(w.fresh c).drop (q+1) from Ad (by rw[h];exact hq),List.length_take_of_le (by omega),Nat.sub_self]
 rfl
theorem Vb(w:CWorld)(x:MThing)(c:Int)(h:(w.fresh c).length=(w.slots c).length)(q:Nat)(hq:q<(w.slots c).length):(curT w x c q)[q]? = some ((w.fresh c)[q]'(by rw[h];exact hq)):=by
 unfold curT
 have ht:q<(Cn w x c).slots.length:=by rw[Cs w x c h];exact hq
 rw[List.getElem?_append_right (by rw[List.length_take];omega),List.length_take_of_le (by omega),Nat.sub_self,Ad (l:=w.fresh c) (by rw[h];exact hq)]
 rfl
theorem curT_0(w:CWorld)(x:MThing)(c:Int):curT w x c 0=w.fresh c:=by unfold curT;simp
theorem Vc(w:CWorld)(x:MThing)(c:Int)(h:(w.fresh c).length=(w.slots c).length):curT w x c (w.slots c).length=(Cn w x c).slots:=by
 unfold curT;rw[<-h,List.drop_length,List.append_nil,List.take_of_length_le (by rw[Cs w x c h,h];exact Nat.le_refl _)]
theorem So(p:BProg)(i1 i2:Nat)(x:MThing)(c:Int)(rx:RW)(S0 O:Sig)(hp:p.wt<=1073741824)(hK:KnwS p i1 i2 S0 O)(hc:ownF p c=true)(aS:ownF p x.cls=true)(hn:(hasP p c).length<=1000000)(hx:RWAt O 2 rx (x.slots.map cVal))(bu:∀es,rx=.full es->es=[])(bQ:x.slots.length=(hasP p x.cls).length):
  DCall prog 246 [cKnw p i1 i2,.agg [dI x.cls,rx.d x.slots.length],dI c] O fun y U'=> ∃r,y=.ret (.agg [dI c,r.d (Cn (A2 p) x c).slots.length])/\FrV O r (Cn (A2 p) x c).slots U':=by
 obtain⟨hS,ay,hm2⟩:=hK
 have aK:=No p c
 have aG:=hc
 unfold ownF at aG aS
 simp only[Bool.and_eq_true,decide_eq_true_eq]at aG aS
 obtain⟨j,hj⟩:∃j:Nat,c=(j:Int)+3:=⟨(c-3).toNat,by omega⟩
 obtain⟨jx,bF⟩:∃j:Nat,x.cls=(j:Int)+3:=⟨(x.cls-3).toNat,by omega⟩
 obtain⟨g1,g2⟩:=KI p j p.classes.length (by omega)
 obtain⟨g3,g4⟩:=KI p jx p.classes.length (by omega)
 rw[<-hj]at g1 g2
 rw[<-bF]at g3 g4
 have ak:hitD tab 23 false (C9 (.int .i64) (.int .i64 c) (eIO (mp1 p p.classes.length)) 0)=some (sl (cI (hasP p c))):=by rw[Us,g1,g2];rfl
 have ap:hitD tab 23 false (C9 (.int .i64) (.int .i64 x.cls) (eIO (mp1 p p.classes.length)) 0)=some (sl (cI (hasP p x.cls))):=by rw[Us,g3,g4];rfl
 have bW:=Ch p x.cls
 have bR:=E4 p
 by_cases he:hasP p c=[]
 ·have bk:(A2 p).fresh c=[]:=List.length_eq_zero_iff.1 (by rw[aK,he];rfl)
  have aO:(Cn (A2 p) x c).slots=[]:=List.length_eq_zero_iff.1 (by rw[Cs _ x c aK];show(hasP p c).length=0;rw[he];rfl)
  rw[he]at ak
  unfold cKnw
  refine en func246 ntmps246 ?_
  refine gz ?_ o246 [6]
  refine newV (fun i6 ai=>?_)
  have n1:i1≠i6:=fun e=>by rw[<-e,ay]at ai;cases ai
  have bc:KnwS p i1 i2 S0 (O.set i6 (.cells [.int .i64 0,.nils])):=⟨fun j o hj=>(hS.set (hS.none ai)) j o hj,by rw[w7 _ _ n1];exact ay,by rw[w7 _ _ fun e=>by rw[e,ai]at hm2;cases hm2];exact hm2⟩
  refine gz ?_ o246 [6]
  refine A3 (IJ p i1 i2 c S0 _ hp bc hc hn) (fun d S1 hr=>?_) (fun d S1 hr=>by obtain⟨_,h,_⟩:=hr;cases h)
  obtain⟨r,hd,hF⟩:=hr
  have ax:=(hF.2.1 i1 _ ((w7 _ _ n1).trans ay) id)
  have o6:=(hF.2.1 i6 _ (w6 ..) id)
  have bd:FrV (O.set i6 (.cells [.int .i64 0,.nils])) r (Cn (A2 p) x c).slots S1:=by rw[aO,<-bk];exact hF
  have aN:=bd.set ai
  cases hd
  rw[bk]
  rcases r with _|es|⟨i,c',cs⟩
  ·refine gf (gi ax.1 ak) ?_ o246 [6]
   refine CG [0,4,6,7,19,20,47] (fun (q:Nat)=>True) (fun _=>[(21,dI 0)]) (fun _=>S1) (fun _=>1) (0) (by trivial) (fun q hI=>?_)
   refine gf o6.1 ?_ o246 [6]
   exact finC (U':=S1.set i6 (.cells [dI c,.nils])) ⟨.nil,by rw[aO],aN _⟩
  ·refine gf (gi ax.1 ak) ?_ o246 [6]
   refine CG [0,4,6,7,19,20,47] (fun (q:Nat)=>True) (fun _=>[(21,dI 0)]) (fun _=>S1) (fun _=>1) (0) (by trivial) (fun q hI=>?_)
   refine gf o6.1 ?_ o246 [6]
   exact finC (U':=S1.set i6 (.cells [dI c,.slice es .clip])) ⟨.full es,by rw[aO],aN _⟩
  ·refine gf (gi ax.1 ak) ?_ o246 [6]
   refine CG [0,4,6,7,19,20,47] (fun (q:Nat)=>True) (fun _=>[(21,dI 0)]) (fun _=>S1) (fun _=>1) (0) (by trivial) (fun q hI=>?_)
   refine gf o6.1 ?_ o246 [6]
   exact finC (U':=S1.set i6 (.cells [dI c,.sref i 0 0 c'])) ⟨.row i c' cs,by rw[aO],aN _⟩
 ·unfold cKnw
  refine en func246 ntmps246 ?_
  refine gz ?_ o246 [6]
  refine newV (fun i6 ai=>?_)
  have n1:i1≠i6:=fun e=>by rw[<-e,ay]at ai;cases ai
  have bc:KnwS p i1 i2 S0 (O.set i6 (.cells [.int .i64 0,.nils])):=⟨fun j o hj=>(hS.set (hS.none ai)) j o hj,by rw[w7 _ _ n1];exact ay,by rw[w7 _ _ fun e=>by rw[e,ai]at hm2;cases hm2];exact hm2⟩
  refine gz ?_ o246 [6]
  refine A3 (IJ p i1 i2 c S0 _ hp bc hc hn) (fun d S1 hr=>?_) (fun d S1 hr=>by obtain⟨_,h,_⟩:=hr;cases h)
  obtain⟨r,hd,hF⟩:=hr
  cases hd
  have bA:∃i c' cs,r=.row i c' cs:=by
   rcases r with _|es|⟨i,c',cs⟩
   ·have:=hF.1;exact absurd (show((A2 p).fresh c).map cVal=[] from this) (by intro h;have:=congrArg List.length h;rw[List.length_map,aK]at this;exact he (List.length_eq_zero_iff.1 this))
   ·have:=hF.1.1;rw[hF.2.2 es rfl]at this;exact absurd this (by intro h;have:=congrArg List.length h;rw[List.length_map,aK]at this;exact he (List.length_eq_zero_iff.1 this))
   ·exact⟨i,c',cs,rfl⟩
  obtain⟨i,c',cs,rfl⟩:=bA
  have ax:=(hF.2.1 i1 _ ((w7 _ _ n1).trans ay) id)
  have o6:=(hF.2.1 i6 _ (w6 ..) id)
  refine gf (gi ax.1 ak) ?_ o246 [6]
  have hw:((A2 p).fresh c).length=((A2 p).slots c).length:=aK
  have bV:(hasP p x.cls).length<=1073741824:=by omega
  refine Di [0,4,6,7,19,20,47] (fun (q:Nat) (S4:Sig)=>q<=(hasP p c).length/\RWAt S4 2 (.row i c' cs) ((curT (A2 p) x c q).map cVal) /\ ∀j o,S1 j=some o->j≠i->S4 j=some o) (fun q _=>[(21,dI q)]) (fun _ S4=>S4) (fun q _=>(hasP p c).length-q) (0) (S1) (by exact⟨Nat.zero_le _,by rw[curT_0];exact hF.1,fun _ _ h _=>h⟩) (fun q S4 hI=>?_)
  obtain⟨bC,hR,aA⟩:=hI
  have bi:=aA i1 _ ax.1 (fun e=>ax.2 e)
  by_cases aF:q<(hasP p c).length
  ·have be:q<(Cn (A2 p) x c).slots.length:=by rw[Cs _ x c hw];exact aF
   have au:=Q7 (A2 p) x c hw q aF
   have bn:=OF (A2 p) x c hw q bC
   have bm:=Tu (A2 p) x c hw q aF
   have bp:=Vb (A2 p) x c hw q aF
   change (Cn (A2 p) x c).slots[q]=(if 0<=idxG ((hasP p c)[q]) (hasP p x.cls) 0 then(x.slots[(idxG ((hasP p c)[q]) (hasP p x.cls) 0).toNat]?).getD vZ else _)at au
   change (curT (A2 p) x c q).length=(hasP p c).length at bn
   by_cases aw:0<=idxG ((hasP p c)[q]) (hasP p x.cls) 0
   ·rw[if_pos aw]at au
    obtain⟨k,hk⟩:∃k:Nat,idxG ((hasP p c)[q]) (hasP p x.cls) 0=k:=⟨(idxG ((hasP p c)[q]) (hasP p x.cls) 0).toNat,by omega⟩
    obtain⟨m1,m2⟩:=H6 (s:=(hasP p c)[q]) (hasP p x.cls) 0 aw
    have ag:k<x.slots.length:=by omega
    rw[hk,Int.toNat_natCast,List.getElem?_eq_getElem ag,Option.getD_some]at au
    obtain⟨ix,cx,csx,bz,Lx,y1,y2,y3⟩:=rowV (R:=fun _=>rx) (a:=0) hx (fun e=>by
     have e':rx=.nil:=e
     rw[e']at hx
     have:=congrArg List.length (show x.slots.map cVal=[] from hx)
     simp at this;rw[this]at ag;simp at ag) bu ag
    have aU:rx=.row ix cx csx:=bz
    subst aU
    obtain⟨y4,y5⟩:=hF.2.1 ix _ ((w7 _ _ fun e=>by rw[e,ai]at y1;cases y1).trans y1) id
    have y6:=aA ix _ y4 (fun e=>y5 e)
    obtain⟨L,hL⟩:∃L,L=((curT (A2 p) x c q).map cVal).flatten++cs:=⟨_,rfl⟩
    have z1:S4 i=some (.cells L):=by rw[hL];exact hR.1
    have bb:L.length=(curT (A2 p) x c q).length*2+cs.length:=by rw[hL,FF]
    have hf:¬L.length<q*2+2:=by omega
    have aC:=Q4 (curT (A2 p) x c q) q (by omega) (x.slots[k]) cs
    rw[<-hL,<-au,<-bm,au,List.append_assoc]at aC
    have aM:=OF (A2 p) x c hw (q+1) aF
    change (curT (A2 p) x c (q+1)).length=(hasP p c).length at aM
    have ar:RWAt (S4.set i (.cells (List.take (q*2) L++(cVal (x.slots[k])++List.drop (q*2+2) L)))) 2 (.row i c' cs) ((curT (A2 p) x c (q+1)).map cVal):=by
     obtain⟨b1,b2,b3,b4⟩:=hR
     refine⟨by rw[w6,aC],?_,by rw[List.length_map,aM];rw[List.length_map,bn]at b3;exact b3,Bm⟩
     rw[FF]at b2⊢
     omega
    refine gf (gi bi (gi ap (gi hk (gi y6 (gi y2 (gi y3 (gi z1 hf))))))) ?_ o246 [6]
    exact⟨q+1,S4.set i (.cells (List.take (q*2) L++(cVal (x.slots[k])++List.drop (q*2+2) L))),⟨by omega,ar,fun j o hj ah=>by rw[w7 _ _ ah];exact aA j o hj ah⟩,td1,wkR⟩
   ·rw[if_neg aw]at au
    have aD:curT (A2 p) x c (q+1)=curT (A2 p) x c q:=by
     rw[bm,au]
     rw[List.getElem?_eq_getElem (by omega)]at bp
     rw[<-Option.some.inj bp,List.set_getElem_self]
    refine gf (gi bi ap) ?_ o246 [6]
    exact⟨q+1,S4,⟨by omega,by rw[aD];exact hR,aA⟩,td1,wkR⟩
  ·obtain rfl:q=(hasP p c).length:=by omega
   have a8:=Vc (A2 p) x c hw
   rw[show curT (A2 p) x c (hasP p c).length=(Cn (A2 p) x c).slots from a8]at hR
   have o7:=aA i6 _ o6.1 (fun e=>o6.2 e)
   have bd:FrV (O.set i6 (.cells [.int .i64 0,.nils])) (.row i c' cs) (Cn (A2 p) x c).slots S4:=⟨hR,fun j o hj _=>by
    obtain⟨b1,b2⟩:=hF.2.1 j o hj id
    exact⟨aA j o b1 (fun e=>b2 e),b2⟩,fun es h=>by cases h⟩
   have aN:=bd.set ai
   have be:(Cn (A2 p) x c).slots.length=((A2 p).fresh c).length:=by rw[Cs _ x c hw,hw]
   refine gf o7 ?_ o246 [6]
   exact finC (U':=S4.set i6 (.cells [dI c,.sref i 0 ((A2 p).fresh c).length c'])) ⟨.row i c' cs,by rw[be],aN _⟩
theorem Uu(es:List (List D))(h2:∀c∈es,c.length=2)(k:Nat)(hk:k<es.length)(e:List D)(cs:List D):List.take (k*2) (es.flatten++cs)++e++List.drop (k*2+2) (es.flatten++cs)=(es.set k e).flatten++cs:=by
 have e0:es=es.take k++es[k]::es.drop (k+1):=by rw[<-Ad hk,List.take_append_drop]
 have h:(es.take k).flatten.length=k*2:=by rw[Av fun c hc=>h2 c (List.mem_of_mem_take hc),List.length_take_of_le (by omega)]
 have hl:(es[k]).length=2:=h2 _ (List.getElem_mem hk)
 have hs:es.set k e=es.take k++e::es.drop (k+1):=by rw[List.set_eq_take_append_cons_drop,if_pos hk]
 have e2:es.flatten++cs=(es.take k).flatten++(es[k]++((es.drop (k+1)).flatten++cs)):=by
  calc _=(es.take k++es[k]::es.drop (k+1)).flatten++cs:=by rw[<-e0]
   _=_:=by rw[List.flatten_append,List.flatten_cons];simp only[List.append_assoc]
 have e3:(es.set k e).flatten++cs=(es.take k).flatten++(e++((es.drop (k+1)).flatten++cs)):=by
  rw[hs,List.flatten_append,List.flatten_cons];simp only[List.append_assoc]
 rw[e2,e3,<-h,List.take_left,<-List.drop_drop,List.drop_left,List.append_assoc,<-hl,List.drop_left]
theorem N3(S S':Nat->RW)(l:List MThing)(m:Nat)(hm:m<l.length)(x:MThing)(h:∀k,k≠m->S' k=S k):tCells S' (l.set m x)=(tCells S l).set m [dI x.cls,(S' m).d x.slots.length]:=by
 refine List.ext_getElem? fun k=>?_
 by_cases hk:k<l.length
 ·rw[BA S' (l.set m x) k (by simpa using hk)]
  by_cases e:k=m
  ·subst e;rw[List.getElem_set_self,List.getElem?_set_self (by rw[A4];exact hk)]
  ·rw[List.getElem_set_ne (fun h=>e h.symm),List.getElem?_set_ne (fun h=>e h.symm),BA S l k hk,h k e]
 ·rw[List.getElem?_eq_none (by rw[A4];simp;omega),List.getElem?_eq_none (by simp[A4];omega)]
theorem ThS.row{R:Nat->RW}{l:List MThing}{S0 O:Sig}(h:ThS R l S0 O)(hl:0<l.length): ∃i c cs,R 3=.row i c cs:=by
 have hk:=h.row3
 cases hR:R 3 with
 |nil=>rw[hR]at hk;have:=congrArg List.length (show tCells (fun k=>R (k+4)) l=[] from hk);rw[A4]at this;simp at this;rw[this]at hl;simp at hl
 |full es=>rw[hR]at hk;have:=congrArg List.length hk.1;rw[A4,h.nf 3 es hR]at this;simp at this;rw[this]at hl;simp at hl
 |row i c cs=>exact⟨i,c,cs,rfl⟩
theorem ThS.turn{R:Nat->RW}{l:List MThing}{S0 O S3:Sig}(h:ThS R l S0 O){m:Nat}(hm:m<l.length){x:MThing}{r:RW}(hF:FrV O r x.slots S3){i c:Nat}{cs:List D}(hi:R 3=.row i c cs){L:List D}(hL:L=(tCells (fun k=>R (k+4)) l).flatten++cs):
  ThS (updF R (m+4) r) (l.set m x) S0 (S3.set i (.cells (L.take (m*2)++[dI x.cls,r.d x.slots.length]++L.drop (m*2+2)))):=by
 obtain⟨f1,f2,f3⟩:=hF
 have e2:rSz (m+4)=2:=by unfold rSz;rw[if_neg (by omega)]
 have u1:=h.rows.upd (a:=m+4) (r':=r) (by rw[e2];exact f1) (fun j o hj _=>f2 j o hj id)
 have h3:updF R (m+4) r 3=.row i c cs:=by rw[A7 _ _ (by omega),hi]
 have aJ:(updF R (m+4) r 3).is i:=by rw[h3];rfl
 have q3:=h.row3
 rw[hi]at q3
 obtain⟨z1,z2,z3,z4⟩:=q3
 have ht:tCells (fun k=>updF R (m+4) r (k+4)) (l.set m x)=(tCells (fun k=>R (k+4)) l).set m [dI x.cls,r.d x.slots.length]:=by
  rw[N3 (fun k=>R (k+4)) _ l m hm x fun k hk=>A7 _ _ (by omega)]
  simp only[Ah]
 have bJ:=Uu (tCells (fun k=>R (k+4)) l) CM m (by rw[A4];exact hm) [dI x.cls,r.d x.slots.length] cs
 subst hL
 rw[bJ]
 have aR:(((tCells (fun k=>R (k+4)) l).set m [dI x.cls,r.d x.slots.length]).flatten++cs).length=((tCells (fun k=>R (k+4)) l).flatten++cs).length:=by
  rw[<-ht,List.length_append,List.length_append,Av CM,Av CM,A4,A4,List.length_set]
 refine⟨⟨fun a=>?_,u1.dj⟩,fun a ha=>by rw[A7 _ _ (by omega)];exact h.lo a ha,fun a es he=>?_,fun j o hj=>?_⟩
 ·by_cases ea:a=3
  ·subst ea
   rw[h3]
   show RWAt _ 2 _ (tCells (fun k=>updF R (m+4) r (k+4)) (l.set m x))
   refine⟨by rw[w6,ht],by rw[ht,aR];exact z2,by rw[A4,List.length_set];rw[A4]at z3;exact z3,CM⟩
  ·have e:rCt (updF R (m+4) r) ⟨l.set m x,[],0,[],[]⟩ a=updF (rCt R ⟨l,[],0,[],[]⟩) (m+4) (x.slots.map cVal) a:=by
    match a with
    |0=>rw[A7 _ _ (by omega)];rfl
    |1=>rw[A7 _ _ (by omega)];rfl
    |2=>rw[A7 _ _ (by omega)];rfl
    |3=>exact absurd rfl ea
    |k+4=>
     show(((l.set m x)[k]?).getD ⟨0,[]⟩).slots.map cVal=_
     by_cases ek:k=m
     ·subst ek;rw[Ah,List.getElem?_set_self hm];rfl
     ·rw[A7 _ _ (by omega),List.getElem?_set_ne (fun h=>ek h.symm)];rfl
   rw[e]
   exact(u1.ok a).keep fun j o hj am=>by rw[w7 _ _ fun e2=>ea (u1.dj a 3 j am (by rw[e2];exact aJ))];exact hj
 ·by_cases e4:a=m+4
  ·subst e4;rw[Ah]at he;exact f3 es he
  ·rw[A7 _ _ e4]at he;exact h.nf a es he
 ·obtain⟨k1,k2⟩:=h.keep j o hj
  obtain⟨k3,k4⟩:=f2 j o k1 id
  refine⟨by rw[w7 _ _ fun e=>k2 3 (by rw[hi,e];rfl)];exact k3,fun a ha=>?_⟩
  by_cases e4:a=m+4
  ·subst e4;rw[Ah]at ha;exact k4 ha
  ·rw[A7 _ _ e4]at ha;exact k2 a ha
theorem storeTh{ir:Nat}{O:Sig}{ro:Ro}{n:Nat}{ops:Array Oper}{Q:DX->St->Prop}{df:List DDf}{rest:List Oper}{γ Sr:Fr}{ty:TypeId}{pos:String}{after:Array Edge}{x y:Operand}{ds:List D}{r1:RW}{a:Int}{m k:Nat}(hc:O ir=some (.cells ds))(h:DOps prog ro n ops Q rest ⟨γ,O.set ir (.cells (ds.take k++[dI a,r1.d m]++ds.drop (k+2))),df⟩)
  (hl:A0 γ (A5 [x,y])=some Sr:=by exact tdR) (h1:ev Sr x=.ptr ir k:=by exact tdR) (h2:ev Sr y=.agg [dI a,r1.d m]:=by exact tdR) (hlen:k+2<=ds.length:=by simp) :
  DOps prog ro n ops Q (⟨none,.store 131 x y,ty,pos,after,none⟩::rest) ⟨γ,O,df⟩:=
 DO Ac (d:=.any) hl (by show DN tab O 131 (ev Sr x) (ev Sr y)=_;rw[h1,h2];exact TW hc hlen) h
theorem SI(p:BProg)(l:List MThing)(o:Own)(m:Nat)(c:Int)(O:Sig)(hp:p.wt<=1073741824)(hk:okP p=true)(hh:∀c,(hasP p c).length<=1000000)(hm:m<l.length)(aH:Bc (A2 p) l=true)(hc:ownF p c=true):DCall prog 182 [.agg (Ag p),.slice (l.map cTh) o,dI m,dI c] O fun y U'=> ∃R,y=.ret (.tup [(R 3).d l.length,dI 0])/\ThS R (l.set m (Cn (A2 p) l[m] c)) O U':=by
 obtain⟨o1,o2⟩:=BB.1 aH
 have hs:∀x∈l,x.slots.length<=1000000:=fun x hx=>by
  rw[(o2 x hx).2.1];exact hh x.cls
 obtain⟨u1,u2,u3⟩:=o2 _ (List.getElem_mem hm)
 have aS:ownF p (l[m]).cls=true:=by have:(ownF p (l[m]).cls&&okP p)=true:=u1;simp only[Bool.and_eq_true]at this;exact this.1
 refine en func182 ntmps182 ?_
 repeat' first|refine gf (gi hc (gi hk aH)) ?_|refine CX (KY p l o O (by omega) (by omega) (fun x hx=>by have:=hs x hx;omega)) ?_|refine callPG (KY p l o O (by omega) (by omega) (fun x hx=>by have:=hs x hx;omega)) ?_|refine gf (gi hc (gi hk aH)) ?_ o182|apply gy<;>intro hh
 refine A3 (Sp l o O (by omega) hs) (fun d S1 hr=>?_) (fun d S1 hr=>by obtain⟨_,h,_⟩:=hr;cases h)
 obtain⟨R1,hd,hT⟩:=hr
 obtain⟨i,c1,cs,h3⟩:=hT.row (by omega)
 cases hd
 have q3:=hT.row3
 rw[h3]at q3
 obtain⟨y1,y2⟩:=Oi (CM (S:=fun k=>R1 (k+4)) (l:=l)) (BA _ _ m hm) cs
 obtain⟨L,hL⟩:∃L,L=(tCells (fun k=>R1 (k+4)) l).flatten++cs:=⟨_,rfl⟩
 have z1:S1 i=some (.cells L):=by rw[hL];exact q3.1
 rw[<-hL]at y1 y2
 have bb:m*2+2<=L.length:=by
  rw[hL,List.length_append,Av CM,A4];omega
 have bx:List.take 2 (List.drop (m*2) L)=[dI (l[m]).cls,(R1 (m+4)).d (l[m]).slots.length]:=by
  refine List.ext_getElem? fun k=>?_
  match k with
  |0=>rw[List.getElem?_take_of_lt (by omega),List.getElem?_drop,Nat.add_zero];exact y1
  |1=>rw[List.getElem?_take_of_lt (by omega),List.getElem?_drop];exact y2
  |k+2=>rw[List.getElem?_eq_none (by simp;omega),List.getElem?_eq_none (by simp)]
 rw[h3]
 refine gz ?_
 refine EP (id:=5) [0,1,2,4,5,6,7,8,3,9,10] [3,9] S1 (Sub.refl _) ?_
 refine gf (gi z1 (gi bb bx)) ?_ o182
 refine Bx (Md p S1 hp hk) (fun d S2 hr=>?_) (fun d S2 hr=>by obtain⟨_,_,h,_⟩:=hr;cases h)
 obtain⟨i1,i2,hd,hK⟩:=hr
 cases hd
 refine⟨hK.1,?_⟩
 have hx:RWAt S2 2 (R1 (m+4)) ((l[m]).slots.map cVal):=by
  have q:=hT.rows.ok (m+4)
  rw[show rSz (m+4)=2 by unfold rSz;rw[if_neg (by omega)],show rCt R1 ⟨l,[],0,[],[]⟩ (m+4)=(l[m]).slots.map cVal by show((l[m]?).getD ⟨0,[]⟩).slots.map cVal=_;rw[List.getElem?_eq_getElem hm];rfl]at q
  exact q.keep fun j o hj _=>hK.1 j o hj
 refine Bx (So p i1 i2 l[m] c (R1 (m+4)) S1 S2 hp hK hc aS (hh c) hx (hT.nf _) u2) (fun d S3 hr=>?_) (fun d S3 hr=>by obtain⟨_,h,_⟩:=hr;cases h)
 obtain⟨r,hd,hF⟩:=hr
 cases hd
 refine⟨fun j o hj=>(hF.2.1 j o (hK.1 j o hj) id).1,?_⟩
 refine gz ?_ o182
 have bt:FrV S1 r (Cn (A2 p) l[m] c).slots S3:=⟨hF.1,fun j o hj _=>hF.2.1 j o (hK.1 j o hj) id,hF.2.2⟩
 have z3:S3 i=some (.cells L):=(bt.2.1 i _ z1 id).1
 have bM:=hT.turn hm (x:=Cn (A2 p) l[m] c) bt h3 hL
 refine storeTh (r1:=r) z3 ?_ (hlen:=bb)
 refine gz ?_ o182
 exact fin2 (U':=_) ⟨_,by rw[A7 _ _ (by omega),h3,EE],bM⟩
def mixC(S:Nat->RW)(l:List MThing)(k:Nat):List (List D):=(l.take k).map cTh++(tCells S l).drop k
theorem Rq{n:Nat}{γ:Fr}{df:List DDf}{O:Sig}{S:Nat->RW}{l:List MThing}{i:Nat}{cs:List D}(hi:O i=some (.cells ((tCells S l).flatten++cs)))(hS:∀k (h:k<l.length),RWAt O 2 (S k) ((l[k]).slots.map cVal))(aj:∀k, ¬(S k).is i)(bl:∀a b j,(S a).is j->(S b).is j->a=b):
  ∀k,k<=l.length->∃U',Wk prog n ⟨γ,O,df⟩ ⟨γ,U',df⟩/\U' i=some (.cells ((mixC S l k).flatten++cs)) /\ ∀j o,O j=some o->j≠i->(∀q,q<k->¬(S q).is j)->U' j=some o
 |0,_=>⟨O,Wk.refl _ _ _,by unfold mixC;simpa using hi,fun j o h _ _=>h⟩
 | k+1,hk=>by
  obtain⟨S1,w1,o1,k1⟩:=Rq hi hS aj bl k (by omega)
  have ag:k<l.length:=by omega
  have hr:RWAt S1 2 (S k) ((l[k]).slots.map cVal):=(hS k ag).keep fun j o hj bj=>k1 j o hj (fun e=>aj k (e ▸ bj)) (fun q hq aZ=>by have:=bl q k j aZ bj;omega)
  have aL:(tCells S l).drop k=[dI (l[k]).cls,(S k).d (l[k]).slots.length]::(tCells S l).drop (k+1):=by
   have aR:k<(tCells S l).length:=by rw[A4];exact ag
   rw[Ad aR]
   have:=BA S l k ag
   rw[List.getElem?_eq_getElem aR]at this
   rw[Option.some.inj this]
  have e1:(mixC S l k).flatten++cs=(((l.take k).map cTh).flatten++[dI (l[k]).cls])++(S k).d ((l[k]).slots.map cVal).length::(((tCells S l).drop (k+1)).flatten++cs):=by
   unfold mixC
   rw[aL,List.flatten_append,List.flatten_cons,List.length_map]
   simp only[List.append_assoc,List.cons_append,List.nil_append]
  have e2:(mixC S l (k+1)).flatten++cs=(((l.take k).map cTh).flatten++[dI (l[k]).cls]) ++ .slice ((l[k]).slots.map cVal) .no::(((tCells S l).drop (k+1)).flatten++cs):=by
   unfold mixC
   rw[List.take_succ_eq_append_getElem ag,List.map_append,List.flatten_append,List.flatten_append]
   simp only[List.map_cons,List.map_nil,List.flatten_cons,List.flatten_nil,List.append_nil,List.append_assoc,List.cons_append,List.nil_append,cTh]
  rw[e1]at o1
  obtain⟨S2,w2,o2,k2⟩:=BE (P:=prog) (n:=n) (γ:=γ) (df:=df) hr o1 (aj k)
  refine⟨S2,w1.trans w2,by rw[e2];exact o2,fun j o hj ah hq=>k2 j o (k1 j o hj ah fun q bT=>hq q (by omega)) ah (hq k (by omega))⟩
theorem Uj(S:Nat->RW)(l:List MThing):mixC S l l.length=l.map cTh:=by
 unfold mixC;rw[List.take_length,List.drop_of_length_le (by rw[A4];exact Nat.le_refl _),List.append_nil]
theorem Nn{n:Nat}{γ:Fr}{df:List DDf}{O:Sig}{R:Nat->RW}{s:GoS}{ir:Nat}{a0 b0:List D}(hR:Rows O R rSz (rCt R s))(aj:∀a, ¬(R a).is ir)(aX:∀es,R 3=.full es->es=[])(hi:O ir=some (.cells (a0++(R 3).d s.objs.length::b0))):
  ∃U',Wk prog n ⟨γ,O,df⟩ ⟨γ,U',df⟩/\U' ir=some (.cells (a0 ++ .slice (s.objs.map cTh) .no::b0)) /\ ∀j o,O j=some o->j≠ir->(∀q,3<=q->¬(R q).is j)->U' j=some o:=by
 have q3:RWAt O 2 (R 3) (tCells (fun k=>R (k+4)) s.objs):=hR.ok 3
 have bN:∀k (h:k<s.objs.length),RWAt O 2 (R (k+4)) ((s.objs[k]).slots.map cVal):=fun k h=>by
  have q:=hR.ok (k+4)
  rw[show rSz (k+4)=2 by unfold rSz;rw[if_neg (by omega)],show rCt R s (k+4)=(s.objs[k]).slots.map cVal by show((s.objs[k]?).getD ⟨0,[]⟩).slots.map cVal=_;rw[List.getElem?_eq_getElem h];rfl]at q
  exact q
 by_cases h0:s.objs=[]
 ·rw[h0]at q3 hi⊢
  obtain⟨S2,w2,o2,k2⟩:=BE (P:=prog) (n:=n) (γ:=γ) (df:=df) (es:=[]) (r:=R 3) (i:=ir) q3 hi (aj 3)
  exact⟨S2,w2,o2,fun j o hj ah hq=>k2 j o hj ah (hq 3 (by omega))⟩
 ·have bD:0<s.objs.length:=List.length_pos_iff.2 h0
  cases h3:R 3 with
  |nil=>rw[h3]at q3;have:=congrArg List.length (show tCells (fun k=>R (k+4)) s.objs=[] from q3);rw[A4]at this;simp at this;exact absurd this h0
  |full es=>rw[h3]at q3;have:=congrArg List.length q3.1;rw[A4,aX es h3]at this;simp at this;exact absurd this h0
  | row i c cs =>
   rw[h3]at q3 hi
   obtain⟨z1,z2,z3,z4⟩:=q3
   have aJ:(R 3).is i:=by rw[h3];rfl
   have hne:ir≠i:=fun e=>aj 3 (e ▸ aJ)
   obtain⟨S1,w1,o1,k1⟩:=Rq (n:=n) (γ:=γ) (df:=df) (S:=fun k=>R (k+4)) z1 bN (fun k h=>by have:=hR.dj _ _ _ h aJ;omega) (fun a b j ha hb=>by have:=hR.dj _ _ _ ha hb;omega) s.objs.length (Nat.le_refl _)
   have bH:=k1 ir _ hi hne (fun q _=>aj (q+4))
   rw[Uj]at o1
   have bf:∀c∈s.objs.map cTh,c.length=2:=fun c hc=>by obtain⟨x,_,rfl⟩:=List.mem_map.1 hc;rfl
   have hr:RWAt S1 2 (.row i c cs) (s.objs.map cTh):=⟨o1,by
    rw[List.length_append,Av bf,List.length_map]
    rw[List.length_append,Av CM,A4]at z2
    exact z2,by rw[List.length_map];rw[A4]at z3;exact z3,bf⟩
   obtain⟨S2,w2,o2,k2⟩:=BE (P:=prog) (n:=n) (γ:=γ) (df:=df) (i:=ir) hr (by rw[List.length_map];exact bH) (fun h=>hne h)
   exact⟨S2,w1.trans w2,o2,fun j o hj ah hq=>k2 j o (k1 j o hj (fun e=>hq 3 (by omega) (by rw[e];exact aJ)) fun q _=>hq (q+4) (by omega)) ah (fun h=>hq 3 (by omega) (by rw[h3];exact h))⟩
def Ey(R R':Nat->RW):Nat->RW:=fun a=>if a<3 then R a else R' a
theorem Dv{R R':Nat->RW}{a:Nat}(h:a<3):Ey R R' a=R a:=by unfold Ey;rw[if_pos h]
theorem Dw{R R':Nat->RW}{a:Nat}(h:3<=a):Ey R R' a=R' a:=by unfold Ey;rw[if_neg (by omega)]
section
variable {ir:Nat}{p:BProg}{R:Nat->RW}{s:GoS}{O:Sig}
theorem RunS.swap(h:RunS ir p R s O){R':Nat->RW}{l:List MThing}{S2 S3:Sig}{X ds:List D}(h2:∀j o,O j=some o->j≠ir->(∀q,3<=q->¬(R q).is j)->S2 j=some o)(bG:S2 ir=some (.cells X))(hT:ThS R' l S2 S3)(hd:ds=AO p (Ey R R') { s with objs:=l }):
  RunS ir p (Ey R R') { s with objs:=l } (S3.set ir (.cells ds))/\RunK ir R O (Ey R R') (S3.set ir (.cells ds)):=by
 have aY:∀a,a<3->∀j o,O j=some o->(R a).is j->S2 j=some o:=fun a ha j o hj am=>h2 j o hj (fun e=>h.ni a (e ▸ am)) (fun q hq aZ=>by have:=h.rows.dj a q j am aZ;omega)
 have aI:=(hT.keep ir _ bG).2
 have aj:∀a, ¬(Ey R R' a).is ir:=fun a=>by
  by_cases ha:a<3
  ·rw[Dv ha];exact h.ni a
  ·rw[Dw (by omega)];exact aI a
 refine⟨⟨by rw[w6,hd],⟨fun a=>?_,fun a b j ha hb=>?_⟩,aj,fun a es he=>?_⟩,fun j o hj ah hn=>?_⟩
 ·by_cases ha:a<3
  ·have e:rCt (Ey R R') { s with objs:=l } a=rCt R s a:=by
    match a with
    |0=>rfl
    |1=>rfl
    |2=>rfl
    |k+3=>omega
   rw[e,Dv ha]
   exact(h.rows.ok a).keep fun j o hj am=>by rw[w7 _ _ fun e2=>h.ni a (by rw[<-e2];exact am)];exact(hT.keep j o (aY a ha j o hj am)).1
  ·have e:rCt (Ey R R') { s with objs:=l } a=rCt R' ⟨l,[],0,[],[]⟩ a:=by
    match a with
    |0=>omega
    |1=>omega
    |2=>omega
    |3=>
     show tCells (fun k=>Ey R R' (k+4)) l=tCells (fun k=>R' (k+4)) l
     congr 1
    |k+4=>rfl
   rw[e,Dw (by omega)]
   exact(hT.rows.ok a).keep fun j o hj am=>by rw[w7 _ _ fun e2=>aI a (by rw[<-e2];exact am)];exact hj
 ·by_cases h1:a<3<;>by_cases h3:b<3
  ·rw[Dv h1]at ha;rw[Dv h3]at hb;exact h.rows.dj a b j ha hb
  ·rw[Dv h1]at ha;rw[Dw (by omega)]at hb
   obtain⟨z,hz⟩:=(h.rows.ok a).cells ha
   exact absurd hb ((hT.keep j _ (aY a h1 j _ hz ha)).2 b)
  ·rw[Dw (by omega)]at ha;rw[Dv h3]at hb
   obtain⟨z,hz⟩:=(h.rows.ok b).cells hb
   exact absurd ha ((hT.keep j _ (aY b h3 j _ hz hb)).2 a)
  ·rw[Dw (by omega)]at ha;rw[Dw (by omega)]at hb;exact hT.rows.dj a b j ha hb
 ·by_cases ha:a<3
  ·rw[Dv ha]at he;exact h.nf a es he
  ·rw[Dw (by omega)]at he;exact hT.nf a es he
 ·have k2:=h2 j o hj ah fun q _=>hn q
  obtain⟨k3,k4⟩:=hT.keep j o k2
  refine⟨by rw[w7 _ _ ah];exact k3,fun a ha=>?_⟩
  by_cases h1:a<3
  ·rw[Dv h1]at ha;exact hn a ha
  ·rw[Dw (by omega)]at ha;exact k4 a ha
theorem freezeD{ro:Ro}{n:Nat}{Q:DX->St->Prop}{c:Code}{γ:Fr}{df:List DDf}(a0 b0:List D)(hR:Rows O R rSz (rCt R s))(aj:∀a, ¬(R a).is ir)(aX:∀es,R 3=.full es->es=[])(hi:O ir=some (.cells (a0++(R 3).d s.objs.length::b0)))
  (h:∀U',U' ir=some (.cells (a0 ++ .slice (s.objs.map cTh) .no::b0))->(∀j o,O j=some o->j≠ir->(∀q,3<=q->¬(R q).is j)->U' j=some o)->DWp prog ro n c Q ⟨γ,U',df⟩):DWp prog ro n c Q ⟨γ,O,df⟩:=by
 obtain⟨S2,w,a,b⟩:=Nn (n:=n) (γ:=γ) (df:=df) hR aj aX hi
 exact Fz w (h S2 a b)
theorem T3(x:CIns)(r:List MVal)(v:MVal)(hp:p.wt<=1073741824)(hk:okP p=true)(hh:∀c,(hasP p c).length<=1000000)(hc:ownF p x.a=true)(hR:RunS ir p R s O)(hs:s.stk=r++[v])(hn:s.stk.length<=1000000)(hv:okV s.objs.length v=true)(ho:Bc (A2 p) s.objs=true):DCall prog 110 [.ptr ir 0,.agg (cIns x)] O fun y U'=> ∃R',RunK ir R O R' U' /\
  if v.kind=3 then y=.ret (.bool false)/\RunS ir p R' { s with objs:=setObj s.objs v.n (Cn (A2 p) (CQ s.objs v.n) x.a),stk:=r++[v] } U' else y=.ret (.bool true)/\HaltS ir p R' { s with stk:=r } .nils false (FO s 6 r) U':=by
 have hl:s.stk.length=r.length+1:=by rw[hs];simp
 refine en func110 ntmps110 ?_
 refine gz ?_ o110
 refine A3 (BS r v hR hs hn) (fun d S1 hr=>?_) (fun d S1 hr=>by cases hr.1)
 obtain⟨hd,R1,ar,br⟩:=hr
 cases hd
 by_cases h3:v.kind=3
 rotate_left
 ·refine gf h3 ?_ o110
  refine A3 (Gw 6 r ar) (fun d S3 hr=>?_) (fun d S3 hr=>by cases hr.1)
  obtain⟨hd,h1,h2⟩:=hr
  cases hd
  refine gz ?_ o110
  exact fin1 (U':=S3) ⟨R1,br.trans h2,by rw[if_neg h3];exact⟨rfl,h1⟩⟩
 ·obtain⟨w1,w2,w3⟩:=Fh ho hv h3
  obtain⟨m,hm⟩:∃m:Nat,v.n=m:=⟨v.n.toNat,by omega⟩
  have bh:m<s.objs.length:=by omega
  have aH:CQ s.objs v.n=s.objs[m]:=by unfold CQ;rw[hm,Int.toNat_natCast,List.getElem?_eq_getElem bh];rfl
  refine gf h3 ?_
  have q1:=ar.obj
  refine freezeD (R:=R1) (s:={ s with stk:=r }) (ir:=ir) [dI 0,dI 0,dI 0,dI 0,.nils,dI 0,dI 0,.nils,.nils] ((R1 2).d s.evs.length::(Ag p++[dI s.pos,(R1 0).d r.length,(R1 1).d s.env.length])) ar.rows ar.ni (ar.nf 3) (by rw[q1];simp[AO]) (fun S2 o2 k2=>?_)
  refine mixI (id:=4) [0,1,2,3,4,5,6,7,8,9,10,11,12,13,14,15,16,17,18,19,20,21] [14,21] [4,9] [14,21] (fun z=>z=S2) rfl ?_
  refine iP (.ptr ir 0) ?_
  refine iP (.ptr ir 0) ?_
  refine iP (.ptr ir 0) ?_
  refine iP (.ptr ir 11) ?_
  refine iR (.agg (Ag p)) (fun z hz=>?_) ?_
  ·rw[hz];simp[o2]
  refine iP (.ptr ir 0) ?_
  refine iP (.ptr ir 0) ?_
  refine iP (.ptr ir 0) ?_
  refine iP (.ptr ir 9) ?_
  refine iR (.slice (s.objs.map cTh) .no) (fun z hz=>?_) ?_
  ·rw[hz];simp[o2]
  refine iP (.cptr (cVal v) 1) ?_
  refine iP (dI v.n) ?_
  refine iP (.cptr (cIns x) 1) ?_
  refine iP (dI x.a) ?_
  have aq:=SI p s.objs .no m x.a S2 hp hk hh bh ho hc
  rw[<-hm]at aq
  refine iW (fun _=>True) aq (fun d S3 hr=>?_) (fun d S3 hr=>by obtain⟨_,h,_⟩:=hr;cases h)
  obtain⟨R2,hd,hT⟩:=hr
  obtain⟨i,c,cs,h4⟩:=hT.row (by rw[List.length_set];omega)
  cases hd
  refine⟨trivial,?_⟩
  rw[h4]
  have o3:=(hT.keep ir _ o2).1
  refine iP (.tup [.sref i 0 s.objs.length c,dI 0]) ?_
  refine iP (.sref i 0 s.objs.length c) ?_
  refine iP (dI 0) ?_
  refine iP (.ptr ir 0) ?_
  refine iP (.ptr ir 0) ?_
  refine iP (.ptr ir 9) ?_
  refine iS (d:=.any) (U':=S3.set ir (.cells ([dI 0,dI 0,dI 0,dI 0,.nils,dI 0,dI 0,.nils,.nils,.sref i 0 s.objs.length c,(R1 2).d s.evs.length]++Ag p++[dI s.pos,(R1 0).d r.length,(R1 1).d s.env.length]))) (fun _=>True) trivial ?_ (he:=by simp[o3])
  refine iN ?_
  refine gz ?_ o110
  obtain⟨p1,p2⟩:=ar.swap k2 o2 hT rfl
  refine drp (S3.set ir (.cells (AO p (Ey R1 R2) { s with stk:=r,objs:=s.objs.set m (Cn (A2 p) s.objs[m] x.a) }))) ?_ (by unfold AO;rw[show Ey R1 R2 3=R2 3 from rfl,h4,List.length_set];exact Sub.refl _)
  refine A3 (Bl v p1 (by simp;omega)) (fun d S4 hr=>?_) (fun d S4 hr=>by cases hr.1)
  obtain⟨hd,R4,bO,bP⟩:=hr
  cases hd
  have e5:setObj s.objs v.n (Cn (A2 p) (CQ s.objs v.n) x.a)=s.objs.set m (Cn (A2 p) s.objs[m] x.a):=by unfold setObj;rw[aH,hm];rfl
  refine gz ?_ o110
  exact fin1 (U':=S4) ⟨R4,(br.trans p2).trans bP,by rw[if_pos h3,e5];exact⟨rfl,bO⟩⟩
end
theorem JW{f g:Nat->Option (Nat×Nat)}: ∀(ps:List (Nat×Value)) (cs:Array Value),(∀p∈ps,f p.1=g p.1)->Instr.fill f cs ps=Instr.fill g cs ps
 |[],cs,_=>rfl
 | (i,v)::ps,cs,h=>by
  rw[Instr.fill,Instr.fill,h (i,v) (by simp)]
  cases g i with
  |none=>rfl
  |some q=>
   obtain⟨o,z⟩:=q
   simp only
   split
   ·rfl
   ·exact JW ps _ fun p hp=>h p (by simp[hp])
section
variable {ro:Ro}{n:Nat}{ops:Array Oper}{Q:DX->St->Prop}{df:List DDf}{rest:List Oper}{γ:List (Nat×D)}{O:Sig}{t:Nat}{ty:TypeId}{pos:String}{after:Array Edge}
theorem bldA{T len e:Nat}{parts:Array (Nat×Operand)}{out:List D}(h:DOps prog ro n ops Q rest ⟨(t,.agg out)::γ,O,df⟩)(hk:(tab T).k=.array len e:=by(simp<;>rfl))(he:A1 (tab e).k=false:=by simp)(hp:parts.all (fun p=>decide (p.1<len))=true:=by rfl)
  (ho:Po tab ((List.range len).map fun i=>(i*(tab e).size,e)) (tab T).zero (parts.toList.map fun p=>(p.1,ev γ p.2))=some out) (bw:decide (t<n)=true:=by exact tdR):DOps prog ro n ops Q (⟨some t,.build T parts,ty,pos,after,none⟩::rest) ⟨γ,O,df⟩:=by
 refine By (fun d U'=>d=.agg out/\U'=O) rfl (fun c e=>by cases e) (Aa fun c e=>by cases e) (by simp only[Ap];exact bw) ?_ (fun d U' ⟨a,b⟩=>by subst a b;exact h)
 intro g w a hs hT
 obtain⟨inf,desc,z,h1,h2,h3,h4,h5,h6,h7,h8,h9,b8⟩:=BJ (Ac T) (by rw[hk];simp)
 obtain⟨inf',desc',z',g1,g2,g3,g4,g5,g6,g7,g8,g9,g10⟩:=BJ (Ac e) (Ae he)
 have hz:RepL g (tab T).zero z.cells.toList:=by
  rw[h9]
  exact AF (by simp) fun j x v e1 e2=>by
   rw[List.getElem?_map,e2]at e1
   cases e1;exact Dh g v
 have aV:∀l:List (Nat×Operand),RepL g ((l.map fun p=>(p.1,ev γ p.2)).map (·.2)) ((l.map fun p=>(p.1,a.eval p.2)).map (·.2)):=fun l=>by
  induction l with
  |nil=>rfl
  |cons p l ih=>exact⟨_,_,rfl,Ai hT p.2,ih⟩
 obtain⟨r,aW,bB⟩:=IG (P:=prog) (tab:=tab) (g:=g) (fs:=(List.range len).map fun i=>(i*(tab e).size,e)) (places:=((List.range len).map fun i=>(i*(tab e).size,e)).map fun p=>(p.1,(tab p.2).size)) rfl (ps:=parts.toList.map fun p=>(p.1,a.eval p.2)) (cs:=z.cells) ho (by simp) (aV _) hz
 have hsz:inf'.size=(tab e).size:=by first|exact g4|exact g5|exact g6|exact g3|omega
 have hb:prog.built T (parts.toList.map fun p=>(p.1,a.eval p.2))=some r:=by
  unfold Program.built
  rw[h1,FT Ac hk]
  simp only[h7,g1]
  rw[<-aW]
  refine JW _ _ fun q hq=>?_
  obtain⟨p,bE,rfl⟩:=List.mem_map.1 hq
  have aQ:p.1<len:=by
   have:=Array.all_eq_true_iff_forall_mem.1 hp p (by simpa using bE)
   simpa using this
  simp[aQ,hsz]
 have:=run_build (P:=prog) w T (parts.map fun p=>(p.1,a.eval p.2)) r (by simpa using hb)
 refine⟨g,w,.agg r,.agg out,O,?_,.refl g,hs,⟨r.toList,by simp,bB⟩,rfl,rfl⟩
 simp only[execOp,Sem.run_bind]
 rw[this]
 rfl
end
def cActs:List D:=.nilf::(([105,106,107,108,109,110,111,112,113,113,113,113,113,114,115,116,117,118,119,120,121]:List Nat).map fun f=>D.func (.func f) [] [])
theorem UO(O:Sig):DCall prog 49 [] O (rS (.agg cActs) O):=by
 refine en func49 ntmps49 ?_
 refine gz ?_ [] [0]
 refine newV (fun i0 bU=>?_)
 refine gz ?_ [] [0]
 refine bldA (len:=22) (e:=108) (out:=cActs) ?_ (hp:=by simp) (ho:=by kernel_rfl)
 simp only[cActs,List.map_cons,List.map_nil]
 refine gz ?_ [] [0]
 exact finC (U':=O) ⟨rfl,rfl⟩
@[reducible,instance] def a49:=fun O=>ah0 (@UO O)
theorem JV(bq:List Int): ∀(l:List Init) (seen:List Int),DW bq seen l=true->∀x∈l,inB x.n=true
 |[],_,_,_,h=>by cases h
 |y::r,seen,h,x,hx=>by
  rw[DW]at h
  simp only[Bool.and_eq_true]at h
  rcases List.mem_cons.1 hx with rfl|hx
  ·exact h.1.2
  ·exact JV bq r _ h.2 x hx
theorem LU(p:BProg): ∀(l:List BClass) (i:Nat),Bh p i l=true->∀c∈l, ∀x∈c.inits,inB x.n=true
 |[],_,_,_,h=>by cases h
 |y::r,i,h,c,hc=>by
  rw[Bh]at h
  simp only[Bool.and_eq_true]at h
  rcases List.mem_cons.1 hc with rfl|hc
  ·exact JV _ _ _ h.1.2
  ·exact LU p r _ h.2 c hc
def OW(m:List (Int×Int)):Prop:= ∀k,hasM k m=true->inB (getM 0 k m)=true
theorem Q3{m:List (Int×Int)}(h:OW m)(s n:Int)(hn:inB n=true):OW (putM s n m):=fun k hk=>by
 rw[Em]
 by_cases e:k=s
 ·rw[if_pos e];exact hn
 ·rw[if_neg e]
  rw[Gl]at hk
  simp only[e,decide_false,Bool.false_or]at hk
  exact h k hk
theorem JA: ∀(l:List Init) (m:List (Int×Int)),OW m->(∀x∈l,inB x.n=true)->OW (Dy l m)
 |[],_,h,_=>h
 |x::r,_,h,hl=>JA r _ (Q3 h x.slot x.n (hl x (by simp))) fun y hy=>hl y (by simp[hy])
theorem MY{p:BProg}(hk:okP p=true)(order:List Int):OW (Hs p order):=by
 have hc:∀c∈p.classes, ∀x∈c.inits,inB x.n=true:=by
  have h2:=Eh hk
  unfold AA at h2
  simp only[Bool.and_eq_true]at h2
  obtain⟨_,h4⟩:=h2
  split at h4
  ·cases h4
  ·simp only[Bool.and_eq_true]at h4
   exact LU p _ _ h4.2
 unfold Hs
 induction order with
 |nil=>intro k hk;simp[hasM]at hk
 | cons c r ih =>
  rw[List.foldr_cons,Dk]
  split
  ·refine JA _ _ ih fun x hx=>?_
   cases hg:p.classes[(c-3).toNat]? with
   |none=>rw[hg]at hx;simp at hx
   |some cl=>rw[hg]at hx;exact hc cl (List.mem_of_getElem? hg) x hx
  ·exact ih
theorem Hf{m:List (Int×Int)}(h:OW m): ∀l:List Int, ∀x∈beginL m l,inB x.n=true
 |[],_,hx=>by cases hx
 | s::r,x,hx=>by
  rw[beginL]at hx
  split at hx
  ·rename_i hs
   rcases List.mem_cons.1 hx with rfl|hx
   ·exact h s hs
   ·exact Hf h r x hx
  ·exact Hf h r x hx
theorem LW{p:BProg}(hk:okP p=true)(c:Int):(hasP p c).length<=40:=by
 have h1:=Ch p c
 have h2:=Eh hk
 unfold AA at h2
 simp only[Bool.and_eq_true,decide_eq_true_eq]at h2
 obtain⟨h3,h4⟩:=h2
 have key:∀(l:List BClass) (n m:Int),C5 n l=some m->wtL (fun c:BClass=>c.slots.length) l<=4*l.length:=fun l=>by
  induction l with
  |nil=>intro n m _;exact Nat.le_refl _
  | cons c r ih =>
   intro n m h
   rw[C5]at h
   split at h
   ·cases h
   ·split at h
    ·cases h
    ·have:=ih _ _ h
     simp only[wtL,List.length_cons];omega
 split at h4
 ·cases h4
 ·rename_i n hn
  have:=key _ _ _ hn
  omega
theorem TM{p:BProg}(hk:okP p=true):WldOK p (A2 p):=by
 refine⟨fun c h1 h2=>?_,fun c _=>No p c,fun c _=>B6.2 fun v hv=>?_⟩
 ·show(ownF p c&&okP p)=true
  unfold ownF;rw[hk];simp;omega
 ·unfold A2 at hv
  obtain⟨s,_,rfl⟩:=List.mem_map.1 hv
  unfold frV
  split
  ·rename_i i hi
   have:=Hf (MY hk _) _ i (List.mem_of_find?_eq_some hi)
   unfold inB at this
   unfold okV vInt
   simp only[Bool.and_eq_true,decide_eq_true_eq]at this
   simp[this]
  ·simp[okV,E8]
theorem stk1{l:List MVal}(h:1<=l.length): ∃r v,l=r++[v]/\Dp l=v/\l.dropLast=r:=by
 have hne:l≠[]:=fun e=>by rw[e]at h;simp at h
 refine⟨l.dropLast,l.getLast hne,(List.dropLast_concat_getLast hne).symm,?_,rfl⟩
 unfold Dp;rw[List.getLast?_eq_some_getLast hne];rfl
theorem stk2{l:List MVal}(h:2<=l.length): ∃r w v,l=r++[w,v]/\Dp l=v/\Dp l.dropLast=w/\l.dropLast.dropLast=r/\l.dropLast=r++[w]:=by
 obtain⟨r,v,h1,h2,h3⟩:=stk1 (l:=l) (by omega)
 obtain⟨q,w,g1,g2,g3⟩:=stk1 (l:=l.dropLast) (by rw[List.length_dropLast];omega)
 refine⟨q,w,v,?_,h2,g2,g3,g1⟩
 rw[h1,<-h3,g1];simp
theorem OG{N:Int}{v:MVal}(h:okV N v=true): -1000000000<=AK v/\AK v<=1000000000:=by
 unfold AK
 split
 ·rename_i h1
  unfold okV at h
  rw[if_pos h1]at h
  simpa using h
 ·omega
def actF(op:Int):Nat:=if op<=8 then 104+op.toNat else if op<=13 then 113 else 100+op.toNat
def ActR(ir:Nat)(p:BProg)(R:Nat->RW)(O:Sig)(r:GoS ⊕ GoH)(y:DE)(U':Sig):Prop:= ∃R',RunK ir R O R' U'/\match r with
 |.inl t=>y=.ret (.bool false)/\RunS ir p R' t U'
 |.inr h=>y=.ret (.bool true) /\ ∃s' av b,HaltS ir p R' s' av b h U'
theorem Vj{ir:Nat}{p:BProg}{R:Nat->RW}{t:GoS}{O:Sig}{N k q:Nat}{x:CIns}{l:CLev}{m:Met}{env:Int}{next:Bool}(hp:p.wt<=1073741824)(hk:okP p=true)(hI:InsOK p N k x l m env next)(aa:fitsC p N q x=true)(bK:0<=env)
  (bS:(t.stk.length:Int)=l.st) (bY:(t.env.length:Int)=l.env) (aE:okVs t.objs.length t.stk=true) (aP:Bc (A2 p) t.objs=true) (ae:t.stk.length<=1000000) (ba:t.env.length<=1000000) (bL:t.evs.length<=1000000) (hR:RunS ir p R t O) :
  DCall prog (actF x.op) [.ptr ir 0,.agg (cIns x)] O (ActR ir p R O (It p (A2 p) x t)):=by
 have ht:=hI.take
 have bZ:=(BB.1 aP).1
 unfold fitsC at aa
 have f3:x.op=3->0<=x.a:=fun h=>by rw[if_neg (by omega),if_pos h]at aa;simpa using aa
 have f46:x.op=4\/x.op=6->ownF p x.a=true:=fun h=>by
  rw[if_neg (by omega),if_neg (by omega),if_pos h]at aa
  unfold ownF;simp at aa⊢; omega
 have f19:x.op=19->0<=x.a/\x.a<p.gens.length:=fun h=>by
  rw[if_neg (by omega),if_neg (by omega),if_neg (by omega),if_neg (by omega),if_neg (by omega),if_pos h]at aa
  simpa using aa
 have frg:1<=x.op/\x.op<=21:=by
  refine Classical.byContradiction fun h=>?_
  rw[if_neg (by omega),if_neg (by omega),if_neg (by omega),if_neg (by omega),if_neg (by omega),if_neg (by omega)]at aa
  simp at aa
  omega
 clear aa
 rw[It]
 by_cases e1:x.op=1
 ·rw[if_pos e1,show actF x.op=105 by rw[e1];rfl]
  exact(T8 x hR ae).mono fun y U' ⟨h1,R',h2,h3⟩=>⟨R',h3,h1,h2⟩
 rw[if_neg e1]
 by_cases e2:x.op=2
 ·rw[if_pos e2,show actF x.op=106 by rw[e2];rfl]
  exact(T7 x hR ae).mono fun y U' ⟨h1,R',h2,h3⟩=>⟨R',h3,h1,h2⟩
 rw[if_neg e2]
 by_cases e3:x.op=3
 ·have hn:=hI.name e3
  have h0:=f3 e3
  have aQ:x.a.toNat<t.env.length:=by omega
  rw[if_pos e3,show actF x.op=107 by rw[e3];rfl,List.getElem?_eq_getElem aQ,Option.getD_some]
  exact(T6 x x.a.toNat (by omega) aQ hR ae ba).mono fun y U' ⟨h1,R',h2,h3⟩=>⟨R',h3,h1,h2⟩
 rw[if_neg e3]
 by_cases e4:x.op=4
 ·rw[if_pos e4,show actF x.op=108 by rw[e4];rfl]
  refine(T5 x hp hk (f46 (.inl e4)) (by have:=LW hk x.a;omega) hR ae (by omega)).mono fun y U' ⟨R',h1,h2⟩=>⟨R',h1,?_⟩
  by_cases hn:40<=t.objs.length
  ·rw[if_pos hn]at h2⊢; exact⟨h2.1,_,_,_,h2.2⟩
  ·rw[if_neg hn]at h2⊢; exact h2
 rw[if_neg e4]
 by_cases e5:x.op=5
 ·have u:Ao p x=(1,1):=by unfold Ao;rw[if_neg (by omega),if_pos (by omega)]
  rw[u]at ht;simp only at ht
  obtain⟨r,v,hs,hv,hr⟩:=stk1 (l:=t.stk) (by omega)
  have aB:okV t.objs.length v=true:=hv ▸ Ej aE (by omega)
  rw[if_pos e5,show actF x.op=109 by rw[e5];rfl,hv,hr]
  refine(T4 x r v hp hR hs ae aB aP).mono fun y U' ⟨R',h1,h2⟩=>⟨R',h1,?_⟩
  by_cases hn:Bf (A2 p) t.objs v x.a<0
  ·rw[if_pos hn]at h2⊢; exact⟨h2.1,_,_,_,h2.2⟩
  ·rw[if_neg hn]at h2⊢; exact h2
 rw[if_neg e5]
 by_cases e6:x.op=6
 ·have u:Ao p x=(1,1):=by unfold Ao;rw[if_neg (by omega),if_pos (by omega)]
  rw[u]at ht;simp only at ht
  obtain⟨r,v,hs,hv,hr⟩:=stk1 (l:=t.stk) (by omega)
  have aB:okV t.objs.length v=true:=hv ▸ Ej aE (by omega)
  rw[if_pos e6,show actF x.op=110 by rw[e6];rfl,hv,hr]
  refine(T3 x r v hp hk (fun c=>by have:=LW hk c;omega) (f46 (.inr e6)) hR hs ae aB aP).mono fun y U' ⟨R',h1,h2⟩=>⟨R',h1,?_⟩
  by_cases hn:v.kind=3
  ·rw[if_pos hn]at h2⊢; exact h2
  ·rw[if_neg hn]at h2⊢; exact⟨h2.1,_,_,_,h2.2⟩
 rw[if_neg e6]
 by_cases e7:x.op=7
 ·have u:Ao p x=(1,1):=by unfold Ao;rw[if_neg (by omega),if_pos (by omega)]
  rw[u]at ht;simp only at ht
  obtain⟨r,v,hs,hv,hr⟩:=stk1 (l:=t.stk) (by omega)
  rw[if_pos e7,show actF x.op=111 by rw[e7];rfl,hv,hr]
  exact(T1 x r v hR hs ae bL).mono fun y U' ⟨h1,R',h2,h3⟩=>⟨R',h3,h1,h2⟩
 rw[if_neg e7]
 by_cases e8:x.op=8
 ·have u:Ao p x=(2,1):=by unfold Ao;rw[if_neg (by omega),if_neg (by omega),if_neg (by omega),if_neg (by omega),if_neg (by omega),if_neg (by omega)]
  rw[u]at ht;simp only at ht
  obtain⟨r,w,v,hs,hv,hw,hr,aW⟩:=stk2 (l:=t.stk) (by omega)
  have aT:okV t.objs.length w=true:=hw ▸ Ej (Cv aE) (by rw[List.length_dropLast];omega)
  rw[if_pos e8,show actF x.op=112 by rw[e8];rfl,hw,hv,hr]
  refine(T0 x r w v hp hR hs ae aT aP).mono fun y U' ⟨R',h1,h2⟩=>⟨R',h1,?_⟩
  by_cases hn:Bf (A2 p) t.objs w x.a<0
  ·rw[if_pos hn]at h2⊢; exact⟨h2.1,_,_,_,h2.2⟩
  ·rw[if_neg hn]at h2⊢; exact h2
 rw[if_neg e8]
 by_cases e14:x.op=14
 ·have u:Ao p x=(1,0):=by unfold Ao;rw[if_neg (by omega),if_neg (by omega),if_pos (by omega)]
  rw[u]at ht;simp only at ht
  obtain⟨r,v,hs,hv,hr⟩:=stk1 (l:=t.stk) (by omega)
  rw[if_pos e14,show actF x.op=114 by rw[e14];rfl,hv,hr]
  exact(SY x r v hR hs ae ba).mono fun y U' ⟨h1,R',h2,h3⟩=>⟨R',h3,h1,h2⟩
 rw[if_neg e14]
 by_cases e15:x.op=15
 ·have hd:=hI.drop e15
  obtain⟨r,v,hs,hv,hr⟩:=stk1 (l:=t.env) (by omega)
  rw[if_pos e15,show actF x.op=115 by rw[e15];rfl,hr]
  exact(SX x r v hR hs ba).mono fun y U' ⟨h1,R',h2,h3⟩=>⟨R',h3,h1,h2⟩
 rw[if_neg e15]
 by_cases e16:x.op=16
 ·have u:Ao p x=(1,0):=by unfold Ao;rw[if_neg (by omega),if_neg (by omega),if_pos (by omega)]
  rw[u]at ht;simp only at ht
  obtain⟨r,v,hs,hv,hr⟩:=stk1 (l:=t.stk) (by omega)
  rw[if_pos e16,show actF x.op=116 by rw[e16];rfl,hr]
  exact(SW x r v hR hs ae).mono fun y U' ⟨h1,R',h2,h3⟩=>⟨R',h3,h1,h2⟩
 rw[if_neg e16]
 by_cases e17:x.op=17
 ·have u:Ao p x=(1,0):=by unfold Ao;rw[if_neg (by omega),if_neg (by omega),if_pos (by omega)]
  rw[u]at ht;simp only at ht
  obtain⟨r,v,hs,hv,hr⟩:=stk1 (l:=t.stk) (by omega)
  rw[if_pos e17,show actF x.op=117 by rw[e17];rfl,hv,hr]
  exact(SV x r v hR hs ae).mono fun y U' ⟨h1,R',h2,h3⟩=>⟨R',h3,h1,h2⟩
 rw[if_neg e17]
 by_cases e18:x.op=18
 ·rw[if_pos e18,show actF x.op=118 by rw[e18];rfl]
  exact(SU x hR).mono fun y U' ⟨h1,R',h2,h3⟩=>⟨R',h3,h1,h2⟩
 rw[if_neg e18]
 by_cases e19:x.op=19
 ·obtain⟨a1,a2⟩:=f19 e19
  have u:Ao p x=(p.gens.getD x.a.toNat 0,1):=by unfold Ao;rw[if_neg (by omega),if_neg (by omega),if_neg (by omega),if_pos e19]
  rw[u]at ht;simp only at ht
  have bX:=(H8 hk x.a.toNat).1
  have ag:x.a.toNat<p.gens.length:=by omega
  have bI:p.gens.getD x.a.toNat 0=p.gens[x.a.toNat]:=by rw[List.getD_eq_getElem?_getD,List.getElem?_eq_getElem ag];rfl
  rw[if_pos e19,show actF x.op=119 by rw[e19];rfl]
  refine(ST x (t.stk.take (t.stk.length-(p.gens.getD x.a.toNat 0).toNat)) (t.stk.drop (t.stk.length-(p.gens.getD x.a.toNat 0).toNat)) x.a.toNat hp (by omega) ag ?_ hR (List.take_append_drop _ _).symm ae).mono fun y U' ⟨h1,R',av,h2,h3⟩=>⟨R',h3,h1,_,_,_,h2⟩
  rw[<-bI,List.length_drop];omega
 rw[if_neg e19]
 by_cases e20:x.op=20
 ·rw[if_pos e20,show actF x.op=120 by rw[e20];rfl]
  exact(SS x hR).mono fun y U' ⟨h1,h2,h3⟩=>⟨R,h3,h1,_,_,_,h2⟩
 rw[if_neg e20]
 by_cases e21:x.op=21
 ·have hf:=hI.fin e21
  obtain⟨r,v,hs,hv,hr⟩:=stk1 (l:=t.stk) (by omega)
  rw[if_pos e21,show actF x.op=121 by rw[e21];rfl,hv]
  exact(SR x r v hR hs ae).mono fun y U' ⟨h1,R',h2,h3⟩=>⟨R',h3,h1,_,_,_,h2⟩
 rw[if_neg e21]
 have u:Ao p x=(2,1):=by unfold Ao;rw[if_neg (by omega),if_neg (by omega),if_neg (by omega),if_neg (by omega),if_neg (by omega),if_neg (by omega)]
 rw[u]at ht;simp only at ht
 obtain⟨r,w,v,hs,hv,hw,hr,aW⟩:=stk2 (l:=t.stk) (by omega)
 have aB:okV t.objs.length v=true:=hv ▸ Ej aE (by omega)
 have aT:okV t.objs.length w=true:=hw ▸ Ej (Cv aE) (by rw[List.length_dropLast];omega)
 rw[show actF x.op=113 by unfold actF;rw[if_neg (by omega),if_pos (by omega)],hw,hv,hr]
 exact(SZ x r w v (by omega) hR hs ae (OG aT) (OG aB)).mono fun y U' ⟨h1,R',h2,h3⟩=>⟨R',h3,h1,h2⟩
end Go.DL
