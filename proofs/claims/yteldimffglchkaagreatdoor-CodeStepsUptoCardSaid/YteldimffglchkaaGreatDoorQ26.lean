/- A part of the proof. -/
import Derived.Test.YteldimffglchkaaGreatDoorQ25
set_option linter.all false
namespace Go.DL
open Go.Proofs.Tryz
open Go Go.Proofs
set_option maxHeartbeats 8000000
def Uu(p:aw)(x:jF)(c:Int)(rx:RW)(O:Sig)(hp:p.wt<=1073741824)(hk:okP p=true)(hc:jT p c=true)(iI:jT p x.jM=true)(hn:(hasP p c).length<=1000000)(hx:jN O 2 rx (x.ac.map j5))(ii:∀es,rx=.full es->es=[])(iU:x.ac.length=(hasP p x.jM).length):
  ar prog 141 [.agg (A7 p),.agg [dI x.jM,rx.d x.ac.length],dI c] O fun y U'=> ∃r,y=.ret (.agg [dI c,r.d (Bn (A0 p) x c).ac.length])/\FrV O r (Bn (A0 p) x c).ac U':=by
 have gk:=M3 p c;have gY:=BT hk;have gv:3<=c/\c<3+p.aa.length:=by have h:=hc;unfold jT at h;simpa using h
 have i215:∀O,Ans 215 [.agg (A7 p),dI c] O True (sl (cI (hasP p c))):=fun O=>ah0 (by rw[L7 gY gv.1 gv.2];exact F5 p c O hp gY gv)
 have hw:((A0 p).fresh c).length=((A0 p).ac c).length:=gk;refine en func141 ntmps141 ?_;refine gz ?_ o141 [6,7];refine je (fun i6 gD=>?_);refine gz ?_ o141 [6,7];refine A3 (Nw p c _ hp hk hc hn) (fun d S1 hr=>?_) (fun d S1 hr=>by obtain⟨_,h,_⟩:=hr;cases h);obtain⟨r,hd,hF⟩:=hr;have o6:=(hF.2.1 i6 _ (w6 ..) id);cases hd;refine je (fun i7 fX=>?_);have n67:i6≠i7:=AF o6.1 fX
 have gh:hasP p c=[]->(Bn (A0 p) x c).ac=[]/\(A0 p).fresh c=[]:=fun he=>by
  have iD:(A0 p).fresh c=[]:=bf.1 (by rw[gk,he];rfl);exact⟨bf.1 (by rw[Cf _ x c gk];show(hasP p c).length=0;rw[he];rfl),iD⟩
 have fU:((A0 p).fresh c).map j5=[]->hasP p c=[]:=fun h=>by
  have:=bn List.length h;rw[aN,gk]at this;exact bf.1 this
 have small:∀(D0:D) (r0:RW),r=r0->r0.d 0=D0->hasP p c=[]->∀z,FrV O r (Bn (A0 p) x c).ac ((S1.set i7 z).set i6 (.cells [dI c,D0])):=fun D0 r0 hr hd he z=>by
  obtain⟨h1,h2⟩:=gh he;rw[h1,<-h2];exact(hF.new fX z).set gD _
 rcases r with _|es|⟨i,c',cs⟩
 ·have he:=fU hF.1;have hz:=small .aj .nil rfl rfl he;obtain⟨h1,h2⟩:=gh he;rw[h2];rw[he]at i215;refine gf n67 ?_ o141 [6,7];refine Bz [3,4,6,7,8,42] (fun (q:Nat)=>True) (fun _=>[(9,dI 0)]) (fun _=>S1.set i7 (.cells [dI c,.aj])) (fun _=>1) (0) (by trivial) (fun q hI=>?_);refine gf (gi o6.1 n67) ?_ o141 [6,7];exact jp (U':=(S1.set i7 (.cells [dI c,.aj])).set i6 (.cells [dI c,.aj])) ⟨.nil,by rw[h1],hz _⟩
 ·have he:=fU (by have:=hF.1.1;rw[hF.2.2 es rfl]at this;exact this);have iF:=hF.2.2 es rfl;subst iF;have hz:=small (.slice [] .clip) (.full []) rfl rfl he;obtain⟨h1,h2⟩:=gh he;rw[h2];rw[he]at i215;refine gf n67 ?_ o141 [6,7];refine Bz [3,4,6,7,8,42] (fun (q:Nat)=>True) (fun _=>[(9,dI 0)]) (fun _=>S1.set i7 (.cells [dI c,.slice [] .clip])) (fun _=>1) (0) (by trivial) (fun q hI=>?_);refine gf (gi o6.1 n67) ?_ o141 [6,7];exact jp (U':=(S1.set i7 (.cells [dI c,.slice [] .clip])).set i6 (.cells [dI c,.slice [] .clip])) ⟨.full [],by rw[h1],hz _⟩
 ·have gj:(RW.row i c' cs).is i:=rfl;have gM:=hF.new fX (.cells [dI c,.am i 0 ((A0 p).fresh c).length c']);have o7:(S1.set i7 (.cells [dI c,.am i 0 ((A0 p).fresh c).length c'])) i7=_:=w6 ..;have o6':(S1.set i7 (.cells [dI c,.am i 0 ((A0 p).fresh c).length c'])) i6=_:=(w7 _ _ n67).trans o6.1;have n7i:i7≠i:=fun e=>by rw[e,hF.1.1]at fX;cases fX
  repeat ((fail_if_success (first|(change au _ _ _ _ _ _ ⟨_,S1.set i7 (.cells [dI c,.am i 0 ((A0 p).fresh c).length c']),_⟩)|fail));(first|refine go1 trivial ?_|with_reducible refine HU ?_))
  change au _ _ _ _ _ _ ⟨_,S1.set i7 (.cells [dI c,.am i 0 ((A0 p).fresh c).length c']),_⟩;generalize S1.set i7 (.cells [dI c,.am i 0 ((A0 p).fresh c).length c'])=S2 at*;refine gz ?_ o141 [6,7];refine BO [3,4,6,7,8,42] (fun (q:Nat) (S4:Sig)=>q<=(hasP p c).length/\jN S4 2 (.row i c' cs) ((kR (A0 p) x c q).map j5) /\ ∀j o,S2 j=some o->j≠i->S4 j=some o) (fun q _=>[(9,dI q)]) (fun _ S4=>S4) (fun q _=>(hasP p c).length-q) (0) (S2) (by exact⟨cE _,by rw[Y0];exact gM.1,fun _ _ h _=>h⟩) (fun q S4 hI=>?_);obtain⟨iq,hR,fI⟩:=hI;have o7q:=fI i7 _ o7 n7i
  by_cases fH:q<(hasP p c).length
  ·have gO:q<(Bn (A0 p) x c).ac.length:=by rw[Cf _ x c hw];exact fH
   have fB:=Mp (A0 p) x c hw q fH;have gW:=IX (A0 p) x c hw q iq;have gV:=NM (A0 p) x c hw q fH;have gX:=PO (A0 p) x c hw q fH;have i217:∀O,Ans 217 [.agg (A7 p),dI x.jM,dI (hasP p c)[q]] O True (dI (jj ((hasP p c)[q]) (hasP p x.jM) 0)):=fun O=>ah0 (U0 p x.jM ((hasP p c)[q]) O hp hk iI);change (Bn (A0 p) x c).ac[q]=(if 0<=jj ((hasP p c)[q]) (hasP p x.jM) 0 then(x.ac[(jj ((hasP p c)[q]) (hasP p x.jM) 0).toNat]?).getD vZ else _)at fB;change (kR (A0 p) x c q).length=(hasP p c).length at gW
   by_cases fm:0<=jj ((hasP p c)[q]) (hasP p x.jM) 0
   ·rw[aG fm]at fB;obtain⟨k,gB⟩:∃k:Nat,jj ((hasP p c)[q]) (hasP p x.jM) 0=k:=⟨(jj ((hasP p c)[q]) (hasP p x.jM) 0).toNat,j0⟩;obtain⟨m1,m2⟩:=Fs (s:=(hasP p c)[q]) (hasP p x.jM) 0 fm;have d9:k<x.ac.length:=by omega
    rw[gB,bF,aD d9,ba]at fB
    obtain⟨ix,cx,csx,ik,Lx,y1,y2,y3⟩:=rowV (R:=fun _=>rx) (a:=0) hx (fun e=>by
     have e':rx=.nil:=e
     rw[e']at hx
     have:=bn List.length (show x.ac.map j5=[] from hx)
     simp at this;rw[this]at d9;simp at d9) ii d9
    have gu:rx=.row ix cx csx:=ik;subst gu;obtain⟨y4,y5⟩:=gM.2.1 ix _ ((w7 _ _ fun e=>by rw[e,gD]at y1;cases y1).trans y1) id;have y6:=fI ix _ y4 (fun e=>y5 e);obtain⟨L,hL⟩:∃L,L=((kR (A0 p) x c q).map j5).flatten++cs:=⟨_,rfl⟩;have z1:S4 i=some (.cells L):=by rw[hL];exact hR.1
    have iZ:L.length=(kR (A0 p) x c q).length*2+cs.length:=by rw[hL,Dr]
    have hf:¬L.length<q*2+2:=by omega
    have fO:=LG (kR (A0 p) x c q) q j0 (x.ac[k]) cs;rw[<-hL,<-fB,<-gV,fB,aO]at fO;have f0:=IX (A0 p) x c hw (q+1) fH;change (kR (A0 p) x c (q+1)).length=(hasP p c).length at f0
    have fc:jN (S4.set i (.cells (List.take (q*2) L++(j5 (x.ac[k])++List.drop (q*2+2) L)))) 2 (.row i c' cs) ((kR (A0 p) x c (q+1)).map j5):=by
     obtain⟨b1,b2,b3,b4⟩:=hR;refine⟨by rw[w6,fO],?_,by rw[aN,f0];rw[aN,gW]at b3;exact b3,Az⟩;rw[Dr]at b2⊢;omega
    have iV:q<((A0 p).fresh c).length:=by rw[hw];exact fH
    rw[gB]at i217;refine gf gB ?_ (ji 8 o141) [6,7];refine CH (id:=8) [0,1,2,3,4,5,6,7,8] [] S4 (Sub.refl _) ?_;refine gf (gi o7q (gi y6 (gi y2 (gi y3 (gi z1 hf))))) ?_ o141 [6,7];exact⟨q+1,S4.set i (.cells (List.take (q*2) L++(j5 (x.ac[k])++List.drop (q*2+2) L))),⟨j0,fc,fun j o hj b7=>by rw[w7 _ _ b7];exact fI j o hj b7⟩,td1,wkR⟩
   ·rw[aE fm]at fB
    have fP:kR (A0 p) x c (q+1)=kR (A0 p) x c q:=by
     rw[gV,fB];rw[aD j0]at gX;rw[<-Option.some.inj gX,List.set_getElem_self]
    refine gf fm ?_ o141 [6,7];exact⟨q+1,S4,⟨j0,by rw[fP];exact hR,fI⟩,td1,wkR⟩
  ·obtain rfl:q=(hasP p c).length:=by omega
   have gG:=PP (A0 p) x c hw;rw[show kR (A0 p) x c (hasP p c).length=(Bn (A0 p) x c).ac from gG]at hR;have o6q:=fI i6 _ o6' (fun e=>o6.2 e)
   have iQ:FrV (O.set i6 (.cells [.int .i64 0,.aj])) (.row i c' cs) (Bn (A0 p) x c).ac S4:=⟨hR,fun j o hj _=>by
    obtain⟨b1,b2⟩:=gM.2.1 j o hj id
    exact⟨fI j o b1 (fun e=>b2 e),b2⟩,fun es h=>by cases h⟩
   have iO:=iQ.set gD;have gO:(Bn (A0 p) x c).ac.length=((A0 p).fresh c).length:=by rw[Cf _ x c hw,hw]
   refine gf (gi o6q o7q) ?_ o141 [6,7];exact jp (U':=S4.set i6 (.cells [dI c,.am i 0 ((A0 p).fresh c).length c'])) ⟨.row i c' cs,by rw[gO],iO _⟩
def Wz(es:eR)(h2:∀c∈es,c.length=2)(k:Nat)(hk:k<es.length)(e:eO)(cs:eO):List.take (k*2) (es.flatten++cs)++e++List.drop (k*2+2) (es.flatten++cs)=(es.set k e).flatten++cs:=by
 have e0:es=es.take k++es[k]::es.drop (k+1):=by rw[<-A6 hk,cf]
 have h:(es.take k).flatten.length=k*2:=by rw[Aj fun c hc=>h2 c (List.mem_of_mem_take hc),List.length_take_of_le j0]
 have hs:es.set k e=es.take k++e::es.drop (k+1):=by rw[bL,aG hk]
 have hl:=h2 es[k] (aK hk)
 have e2:es.flatten++cs=(es.take k).flatten++(es[k]++((es.drop (k+1)).flatten++cs)):=by
  calc _=(es.take k++es[k]::es.drop (k+1)).flatten++cs:=by rw[<-e0]
   _=_:=by rw[bt,br];simp only[aO]
 have e3:(es.set k e).flatten++cs=(es.take k).flatten++(e++((es.drop (k+1)).flatten++cs)):=by
  rw[hs,bt,br];simp only[aO]
 rw[e2,e3,<-h,List.take_left,<-List.drop_drop,List.drop_left,aO,show(2:Nat)=es[k].length from hl.symm,List.drop_left]
def tCellsT(S:Nat->RW)(r:RW)(l:List jF)(n:Nat)(hn:n<l.length)(x:jF):jC (fun k=>jK S (n+4) r (k+4)) (l.set n x)=(jC (fun k=>S (k+4)) l).set n [dI x.jM,r.d x.ac.length]:=by
 refine cD fun k=>?_
 by_cases hk:k<l.length
 ·rw[B4 _ (l.set n x) k (by simpa using hk)]
  by_cases e:k=n
  ·subst e;rw[List.getElem_set_self,List.getElem?_set_self (by rw[A4];exact hk),Ab]
  ·rw[List.getElem_set_ne (fun h=>e h.symm),List.getElem?_set_ne (fun h=>e h.symm),B4 _ l k hk,A1 _ _ j0]
 ·rw[aX (by rw[A4];simp;omega),aX (by rw[bP,A4];omega)]
section
variable {ir:Nat}{p:aw}{c:jD}{R:Nat->RW}{s:GoS}{O:Sig}
theorem jR.turnO(h:jR ir p c R s O){S1:Sig}{r:RW}{x:jF}{n:Nat}(hn:n<s.j3.length)(hF:FrV O r x.ac S1){i3 q3:Nat}{cs3:eO}(h3:R 3=.row i3 q3 cs3){L:eO}(hL:L=(jC (fun k=>R (k+4)) s.j3).flatten++cs3):
  jR ir p c (jK R (n+4) r) { s with j3:=s.j3.set n x } (S1.set i3 (.cells (L.take (n*2)++[dI x.jM,r.d x.ac.length]++L.drop (n*2+2))))/\jV ir R O (jK R (n+4) r) (S1.set i3 (.cells (L.take (n*2)++[dI x.jM,r.d x.ac.length]++L.drop (n*2+2)))):=by
 subst hL;obtain⟨f1,f2,f3⟩:=hF;rw[Wz _ BJ n (by rw[A4];exact hn)];have gj:(R 3).is i3:=by rw[h3];rfl
 have eU:ir≠i3:=fun e=>h.ni 3 (e ▸ gj);have e2:rSz (n+4)=2:=by unfold rSz;rw[aE j0]
 have u1:=h.rows.upd (a:=n+4) (r':=r) (by rw[e2];exact f1) (fun j o hj _=>f2 j o hj id);obtain⟨a1,a2⟩:=f2 ir _ h.obj id;have q:=h.rows.ok 3;rw[h3]at q;obtain⟨z1,z2,z3,z4⟩:=q;have b2:=(f2 i3 _ z1 id).2;have hlen:((jC (fun k=>R (k+4)) s.j3).set n [dI x.jM,r.d x.ac.length]).length=s.j3.length:=by rw[bP,A4]
 have ie:∀c∈(jC (fun k=>R (k+4)) s.j3).set n [dI x.jM,r.d x.ac.length],c.length=2:=fun c hc=>by
  rcases List.mem_or_eq_of_mem_set hc with hc|rfl
  ·exact BJ c hc
  ·rfl
 have iv:∀a, ¬(jK R (n+4) r a).is ir:=fun a ha=>by
  by_cases e:a=n+4
  ·subst e;rw[Ab]at ha;exact a2 ha
  ·rw[A1 _ _ e]at ha;exact h.ni a ha
 refine⟨⟨?_,⟨fun a=>?_,u1.dj⟩,iv,fun a es he=>?_⟩,fun j o hj b7 gQ=>?_⟩
 ·rw[w7 _ _ eU,a1,Aw,Aw];simp only[bP,A1 R r (show(3:Nat)≠n+4 by omega),A1 R r (show(2:Nat)≠n+4 by omega),A1 R r (show(0:Nat)≠n+4 by omega),A1 R r (show(1:Nat)≠n+4 by omega)]
 ·by_cases e3:a=3
  ·subst e3;rw[A1 _ _ j0,h3]
   show jN _ 2 _ (jC (fun k=>jK R (n+4) r (k+4)) (s.j3.set n x));rw[tCellsT R r s.j3 n hn x];refine⟨w6 ..,?_,by rw[hlen];have:=z3;rw[show rCt R s 3=jC (fun k=>R (k+4)) s.j3 from rfl,A4]at this;exact this,ie⟩;have y:=z2;rw[show rCt R s 3=jC (fun k=>R (k+4)) s.j3 from rfl,aC,Aj BJ,A4]at y;rw[aC,Aj ie,hlen];exact y
  ·have gH:rCt (jK R (n+4) r) { s with j3:=s.j3.set n x } a=jK (rCt R s) (n+4) (x.ac.map j5) a:=by
    match a with
    |0=>rw[A1 _ _ j0];rfl
    |1=>rw[A1 _ _ j0];rfl
    |2=>rw[A1 _ _ j0];rfl
    |3=>exact absurd rfl e3
    |m+4=>
     show(((s.j3.set n x)[m]?).getD ⟨0,[]⟩).ac.map j5=_
     by_cases e:m=n
     ·subst e;rw[List.getElem?_set_self hn,Ab];rfl
     ·rw[List.getElem?_set_ne (fun h=>e h.symm),A1 _ _ j0];rfl
   rw[gH];refine(u1.ok a).keep fun j o hj eX=>?_;rw[w7 _ _ fun e=>?_]
   ·exact hj
   ·subst e
    by_cases e4:a=n+4
    ·subst e4;rw[Ab]at eX;exact b2 eX
    ·rw[A1 _ _ e4]at eX;exact e3 (h.rows.dj a 3 _ eX gj)
 ·by_cases e:a=n+4
  ·subst e;rw[Ab]at he;exact f3 es he
  ·rw[A1 _ _ e]at he;exact h.nf a es he
 ·obtain⟨k1,k2⟩:=f2 j o hj id;refine⟨by rw[w7 _ _ fun e=>gQ 3 (by rw[e];exact gj)];exact k1,fun a ha=>?_⟩
  by_cases e:a=n+4
  ·subst e;rw[Ab]at ha;exact k2 ha
  ·rw[A1 _ _ e]at ha;exact gQ a ha
end
def takeT{es:eR}(h2:∀c∈es,c.length=2){k:Nat}{e:eO}(hk:es[k]? = some e)(cs:eO):List.take 2 (List.drop (k*2) (es.flatten++cs))=e:=by
 obtain⟨hl,he⟩:=aV.1 hk;have e0:es=es.take k++e::es.drop (k+1):=by rw[<-he,<-A6 hl,cf]
 have h:(es.take k).flatten.length=k*2:=by rw[Aj fun c hc=>h2 c (List.mem_of_mem_take hc),List.length_take_of_le j0]
 have iH:=h2 e (by rw[<-he];exact aK hl)
 have e2:es.flatten++cs=(es.take k).flatten++(e++((es.drop (k+1)).flatten++cs)):=by
  calc _=(es.take k++e::es.drop (k+1)).flatten++cs:=by rw[<-e0]
   _=_:=by rw[bt,br];simp only[aO]
 rw[e2,<-h,List.drop_left,<-iH,List.take_left]
section
variable {ir:Nat}{p:aw}{c:jD}{R:Nat->RW}{s:GoS}{O:Sig}
theorem Uf(x:jI)(hx:x.op=6)(r:List jH)(v:jH)(hp:p.wt<=1073741824)(hk:okP p=true)(hc:jT p x.a=true)(iB:(hasP p x.a).length<=1000000)(hR:jR ir p c R s O)(hs:s.jA=r++[v])(hn:s.jA.length<=1000000)(hv:okV s.j3.length v=true)(ho:AI (A0 p) s.j3=true):ar prog 192 [.ptr ir 0,.agg (cIns x)] O fun y U'=> ∃R',jV ir R O R' U' /\
  if v.kind=3 then y=.ret (.bool false)/\jR ir p c R' { s with j3:=setObj s.j3 v.n (Bn (A0 p) (BG s.j3 v.n) x.a),jA:=r++[v] } U' else y=.ret (.bool true)/\kq ir p c R' { s with jA:=r } .aj false (Dv s 6 r) U':=by
 have hl:s.jA.length=r.length+1:=by rw[hs];simp
 refine en func192 ntmps192 ?_;refine gz ?_ kJ;refine A3 (CI r v hR hs hn) (fun d S1 hr=>?_);obtain⟨hd,R1,fc,eY⟩:=hr;cases hd
 by_cases h3:v.kind=3
 rotate_left
 ·refine gf (gi hx h3) ?_ kJ;refine A3 (HI 6 r fc) (fun d S3 hr=>?_);obtain⟨hd,h1,h2⟩:=hr;cases hd;refine gz ?_ kJ;exact fin1 (U':=S3) ⟨R1,eY.trans h2,by rw[aE h3];exact⟨rfl,h1⟩⟩
 ·obtain⟨w1,w2,w3⟩:=Dz ho hv h3;obtain⟨u1,u2,u3⟩:=(AE.1 ho).2 _ w1;obtain⟨n,gr⟩:∃n:Nat,v.n=n:=⟨v.n.toNat,j0⟩;have fv:n<s.j3.length:=by omega
  have gq:v.n.toNat=n:=by omega
  have fC:BG s.j3 v.n=s.j3[n]:=by unfold BG;rw[gr,bF,aD fv];rfl
  rw[fC]at u1 u2;have fR:(jT p (s.j3[n]).jM&&okP p)=true:=u1;rw[hk,Bool.and_true]at fR;have e5:setObj s.j3 v.n (Bn (A0 p) (BG s.j3 v.n) x.a)=s.j3.set n (Bn (A0 p) s.j3[n] x.a):=by unfold setObj;rw[fC,gr];rfl
  obtain⟨i3,c3,cs3,f3⟩:=fc.row 3 (fun e=>by rw[rCt]at e;have:=bn List.length e;rw[A4]at this;simp at this;rw[this]at fv;simp at fv);have q0:=fc.rows.ok 3;rw[f3]at q0;obtain⟨z3, -, -, -⟩:=q0;have hg:=B4 (fun k=>R1 (k+4)) s.j3 n fv;obtain⟨L3,fK⟩:∃L,L=(jC (fun k=>R1 (k+4)) s.j3).flatten++cs3:=⟨_,rfl⟩;have y3:List.take 2 (List.drop (n*2) L3)=[dI (s.j3[n]).jM,(R1 (n+4)).d (s.j3[n]).ac.length]:=by rw[fK];exact takeT BJ hg cs3
  have iX:L3.length=s.j3.length*2+cs3.length:=by rw[fK,aC,Aj BJ,A4]
  have gF:¬L3.length<n*2+2:=by omega
  have gA:n*2+2<=L3.length:=by omega
  rw[show rCt R1 { s with jA:=r } 3=jC (fun k=>R1 (k+4)) s.j3 from rfl,<-fK]at z3;have gH:rCt R1 { s with jA:=r } (n+4)=(s.j3[n]).ac.map j5:=by show(((s.j3[n]?).getD ⟨0,[]⟩).ac.map j5)=_;rw[aD fv];rfl
  have qn:=fc.rows.ok (n+4);rw[gH,show rSz (n+4)=2 by unfold rSz;rw[aE j0]]at qn;have q1:=fc.obj;unfold Aw at q1;rw[f3]at q1;simp only[Cz]at q1;refine gf (gi hx h3) ?_ (ji 11 kJ);refine CH (id:=11) (List.range 24) [22] S1 (Sub.refl _) ?_;refine gf (gi q1 (gi gr (gi z3 (gi y3 gA)))) ?_ kJ;refine AX (Uu p s.j3[n] x.a (R1 (n+4)) S1 hp hk hc fR iB qn (fc.nf _) u2) (fun d S2 hr=>?_) (fun d S2 hr=>by obtain⟨_,h,_⟩:=hr;cases h);obtain⟨r0,hd,hF⟩:=hr;cases hd;have hS:Sub S1 S2:=fun j o hj=>(hF.2.1 j o hj id).1;refine⟨hS,?_⟩;have z3':=hS _ _ z3
  replace z3:=z3'
  rcases r0 with _|es|⟨i,c',cs'⟩
  ·refine gf (gi z3 gF) ?_ kJ;obtain⟨p1,p2⟩:=fc.turnO (x:=Bn (A0 p) s.j3[n] x.a) fv hF f3 fK;rw[aO]at p1 p2;refine drp _ ?_ (show Sub (S2.set i3 (.cells (List.take (n*2) L3++([dI (Bn (A0 p) s.j3[n] x.a).jM,RW.nil.d (Bn (A0 p) s.j3[n] x.a).ac.length]++List.drop (n*2+2) L3)))) _ by rw[gq];exact Sub.refl _);refine A3 (C7 v p1 (by simp only;omega)) (fun d S3 hr=>?_);obtain⟨hd,R3,ga,fg⟩:=hr;cases hd;refine gz ?_ kJ;exact fin1 (U':=S3) ⟨R3,(eY.trans p2).trans fg,by rw[aG h3,e5];exact⟨rfl,ga⟩⟩
  ·refine gf (gi z3 gF) ?_ kJ;obtain⟨p1,p2⟩:=fc.turnO (x:=Bn (A0 p) s.j3[n] x.a) fv hF f3 fK;rw[aO]at p1 p2;refine drp _ ?_ (show Sub (S2.set i3 (.cells (List.take (n*2) L3++([dI (Bn (A0 p) s.j3[n] x.a).jM,(RW.full es).d (Bn (A0 p) s.j3[n] x.a).ac.length]++List.drop (n*2+2) L3)))) _ by rw[gq];exact Sub.refl _);refine A3 (C7 v p1 (by simp only;omega)) (fun d S3 hr=>?_);obtain⟨hd,R3,ga,fg⟩:=hr;cases hd;refine gz ?_ kJ;exact fin1 (U':=S3) ⟨R3,(eY.trans p2).trans fg,by rw[aG h3,e5];exact⟨rfl,ga⟩⟩
  ·refine gf (gi z3 gF) ?_ kJ;obtain⟨p1,p2⟩:=fc.turnO (x:=Bn (A0 p) s.j3[n] x.a) fv hF f3 fK;rw[aO]at p1 p2;refine drp _ ?_ (show Sub (S2.set i3 (.cells (List.take (n*2) L3++([dI (Bn (A0 p) s.j3[n] x.a).jM,(RW.row i c' cs').d (Bn (A0 p) s.j3[n] x.a).ac.length]++List.drop (n*2+2) L3)))) _ by rw[gq];exact Sub.refl _);refine A3 (C7 v p1 (by simp only;omega)) (fun d S3 hr=>?_);obtain⟨hd,R3,ga,fg⟩:=hr;cases hd;refine gz ?_ kJ;exact fin1 (U':=S3) ⟨R3,(eY.trans p2).trans fg,by rw[aG h3,e5];exact⟨rfl,ga⟩⟩
end
def ActT(ir:Nat)(p:aw)(c:jD)(R:Nat->RW)(O:Sig)(r:GoS ⊕ GoH)(y:DE)(U':Sig):Prop:= ∃b,y=.ret (.bool b) /\ ∃R',jV ir R O R' U'/\match r with
 |.inl t=>b=false/\jR ir p c R' t U'
 |.inr h=>b=true /\ ∃s' av,kq ir p c R' s' av false h U'
def VE{ir:Nat}{p:aw}{c:jD}{R:Nat->RW}{t:GoS}{O:Sig}{N k q:Nat}{x:jI}{l:jO}{m:Met}{j7:Int}{next:Bool}(hp:p.wt<=1073741824)(hk:okP p=true)(hI:InsOK p N k x l m j7 next)(b6:kH p N q x=true)(iG:0<=j7)
  (fj:(t.jA.length:Int)=l.st) (gm:(t.j7.length:Int)=l.j7) (fk:jg t.j3.length t.jA=true) (fq:AI (A0 p) t.j3=true) (eV:t.jA.length<=1000000) (gJ:t.j7.length<=1000000) (iL:t.jW.length<=1000000) (hR:jR ir p c R t O) :
  ar prog 126 [.ptr ir 0,.agg (cIns x)] O (ActT ir p c R O (FL p (A0 p) x t)):=by
 have ht:=hI.take;have ja:=(AE.1 fq).1;unfold kH at b6;have f3:x.op=3->0<=x.a:=fun h=>by rw[aE j0,aG h]at b6;simpa using b6
 have f46:x.op=4\/x.op=6->jT p x.a=true:=fun h=>by
  rw[aE j0,aE j0,aG h]at b6;unfold jT;simp at b6⊢; omega
 have f19:x.op=19->0<=x.a/\x.a<p.ai.length:=fun h=>by
  rw[aE j0,aE j0,aE j0,aE j0,aE j0,aG h]at b6;simpa using b6
 have frg:1<=x.op/\x.op<=21:=by
  refine bN fun h=>?_;rw[aE j0,aE j0,aE j0,aE j0,aE j0,aE j0]at b6;simp at b6;omega
 clear b6;rw[FL]
 by_cases e1:x.op=1
 ·rw[aG e1];exact(Xj x e1 hR eV).mono fun y U' ⟨h1,R',h2,h3⟩=>⟨false,h1,R',h3,rfl,h2⟩
 rw[aE e1]
 by_cases e2:x.op=2
 ·rw[aG e2];exact(Uw x e2 hR eV).mono fun y U' ⟨h1,R',h2,h3⟩=>⟨false,h1,R',h3,rfl,h2⟩
 rw[aE e2]
 by_cases e3:x.op=3
 ·have hn:=hI.name e3;have h0:=f3 e3;have gS:x.a.toNat<t.j7.length:=by omega
  rw[aG e3,aD gS,ba];exact(Uy x e3 x.a.toNat j0 gS hR eV gJ).mono fun y U' ⟨h1,R',h2,h3⟩=>⟨false,h1,R',h3,rfl,h2⟩
 rw[aE e3]
 by_cases e4:x.op=4
 ·rw[aG e4];refine(Xi x e4 hp hk (f46 (.inl e4)) (by have:=DI hk x.a;omega) hR eV j0).mono fun y U' ⟨R',h1,h2⟩=>?_
  by_cases hn:40<=t.j3.length
  ·rw[aG hn]at h2⊢; exact⟨true,h2.1,R',h1,rfl,_,_,h2.2⟩
  ·rw[aE hn]at h2⊢; exact⟨false,h2.1,R',h1,rfl,h2.2⟩
 rw[aE e4]
 by_cases e5:x.op=5
 ·have u:Af p x=(1,1):=by unfold Af;rw[aE j0,aG j0]
  rw[u]at ht;simp only at ht;obtain⟨r,v,hs,hv,hr⟩:=stk1 (l:=t.jA) j0;have fM:okV t.j3.length v=true:=hv ▸ D1 fk j0;rw[aG e5,hv,hr];refine jR.retop x j0 ?_;refine(Xa x e5 r v hp hk hR hs eV fM fq).mono fun y U' ⟨R',h1,h2⟩=>?_
  by_cases hn:Ap (A0 p) t.j3 v x.a<0
  ·rw[aG hn]at h2⊢; exact⟨true,h2.1,R',h1,rfl,_,_,h2.2⟩
  ·rw[aE hn]at h2⊢; exact⟨false,h2.1,R',h1,rfl,h2.2⟩
 rw[aE e5]
 by_cases e6:x.op=6
 ·have u:Af p x=(1,1):=by unfold Af;rw[aE j0,aG j0]
  rw[u]at ht;simp only at ht;obtain⟨r,v,hs,hv,hr⟩:=stk1 (l:=t.jA) j0;have fM:okV t.j3.length v=true:=hv ▸ D1 fk j0;rw[aG e6,hv,hr];refine jR.retop x j0 ?_;refine(Uf x e6 r v hp hk (f46 (.inr e6)) (by have:=DI hk x.a;omega) hR hs eV fM fq).mono fun y U' ⟨R',h1,h2⟩=>?_
  by_cases hn:v.kind=3
  ·rw[aG hn]at h2⊢; exact⟨false,h2.1,R',h1,rfl,h2.2⟩
  ·rw[aE hn]at h2⊢; exact⟨true,h2.1,R',h1,rfl,_,_,h2.2⟩
 rw[aE e6]
 by_cases e7:x.op=7
 ·have u:Af p x=(1,1):=by unfold Af;rw[aE j0,aG j0]
  rw[u]at ht;simp only at ht;obtain⟨r,v,hs,hv,hr⟩:=stk1 (l:=t.jA) j0;rw[aG e7,hv,hr];refine jR.retop x j0 ?_;exact(X7 x e7 r v hR hs eV iL).mono fun y U' ⟨h1,R',h2,h3⟩=>⟨false,h1,R',h3,rfl,h2⟩
 rw[aE e7]
 by_cases e8:x.op=8
 ·have u:Af p x=(2,1):=by unfold Af;rw[aE j0,aE j0,aE j0,aE j0,aE j0,aE j0]
  rw[u]at ht;simp only at ht;obtain⟨r,w,v,hs,hv,hw,hr,ip⟩:=stk2 (l:=t.jA) j0;have go:okV t.j3.length w=true:=hw ▸ D1 (Cd fk) (by rw[List.length_dropLast];omega);rw[aG e8,hw,hv,hr];refine(Xh x e8 r w v hp hk hR hs eV go fq).mono fun y U' ⟨R',h1,h2⟩=>?_
  by_cases hn:Ap (A0 p) t.j3 w x.a<0
  ·rw[aG hn]at h2⊢; exact⟨true,h2.1,R',h1,rfl,_,_,h2.2⟩
  ·rw[aE hn]at h2⊢; exact⟨false,h2.1,R',h1,rfl,h2.2⟩
 rw[aE e8]
 by_cases e14:x.op=14
 ·have u:Af p x=(1,0):=by unfold Af;rw[aE j0,aE j0,aG j0]
  rw[u]at ht;simp only at ht;obtain⟨r,v,hs,hv,hr⟩:=stk1 (l:=t.jA) j0;rw[aG e14,hv,hr];refine jR.retop x j0 ?_;exact(X9 x e14 r v hR hs eV gJ).mono fun y U' ⟨h1,R',h2,h3⟩=>⟨false,h1,R',h3,rfl,h2⟩
 rw[aE e14]
 by_cases e15:x.op=15
 ·have hd:=hI.drop e15;obtain⟨r,v,hs,hv,hr⟩:=stk1 (l:=t.j7) j0;rw[aG e15,hr];exact(UA x e15 r v hR hs gJ).mono fun y U' ⟨h1,R',h2,h3⟩=>⟨false,h1,R',h3,rfl,h2⟩
 rw[aE e15]
 by_cases e16:x.op=16
 ·have u:Af p x=(1,0):=by unfold Af;rw[aE j0,aE j0,aG j0]
  rw[u]at ht;simp only at ht;obtain⟨r,v,hs,hv,hr⟩:=stk1 (l:=t.jA) j0;rw[aG e16,hr];refine jR.retop x j0 ?_;exact(X8 x e16 r v hR hs eV).mono fun y U' ⟨h1,R',h2,h3⟩=>⟨false,h1,R',h3,rfl,h2⟩
 rw[aE e16]
 by_cases e17:x.op=17
 ·have u:Af p x=(1,0):=by unfold Af;rw[aE j0,aE j0,aG j0]
  rw[u]at ht;simp only at ht;obtain⟨r,v,hs,hv,hr⟩:=stk1 (l:=t.jA) j0;rw[aG e17,hv,hr];refine jR.retop x j0 ?_;exact(Ue x e17 r v hR hs eV).mono fun y U' ⟨h1,R',h2,h3⟩=>⟨false,h1,R',h3,rfl,h2⟩
 rw[aE e17]
 by_cases e18:x.op=18
 ·rw[aG e18];exact(Uz x e18 hR).mono fun y U' ⟨h1,R',h2,h3⟩=>⟨false,h1,R',h3,rfl,h2⟩
 rw[aE e18]
 by_cases e19:x.op=19
 ·obtain⟨a1,a2⟩:=f19 e19;have u:Af p x=(p.ai.getD x.a.toNat 0,1):=by unfold Af;rw[aE j0,aE j0,aE j0,aG e19]
  rw[u]at ht;simp only at ht;have iY:=(DY hk x.a.toNat).1;have d9:x.a.toNat<p.ai.length:=by omega
  have iC:p.ai.getD x.a.toNat 0=p.ai[x.a.toNat]:=by rw[aQ,aD d9];rfl
  rw[aG e19];refine(UC x e19 (t.jA.take (t.jA.length-(p.ai.getD x.a.toNat 0).toNat)) (t.jA.drop (t.jA.length-(p.ai.getD x.a.toNat 0).toNat)) x.a.toNat hp j0 d9 ?_ hR (cf _ _).symm eV).mono fun y U' ⟨h1,R',av,h2,h3⟩=>⟨true,h1,R',h3,rfl,_,_,h2⟩;rw[<-iC,cn];omega
 rw[aE e19]
 by_cases e20:x.op=20
 ·rw[aG e20];exact(Ux x e20 hR).mono fun y U' ⟨h1,h2,h3⟩=>⟨true,h1,R,h3,rfl,_,_,h2⟩
 rw[aE e20]
 by_cases e21:x.op=21
 ·have hf:=hI.fin e21;obtain⟨r,v,hs,hv,hr⟩:=stk1 (l:=t.jA) j0;rw[aG e21,hv];refine jR.retop x j0 ?_;exact(Xb x e21 r v hR hs eV).mono fun y U' ⟨h1,R',h2,h3⟩=>⟨true,h1,R',h3,rfl,_,_,h2⟩
 rw[aE e21];have u:Af p x=(2,1):=by unfold Af;rw[aE j0,aE j0,aE j0,aE j0,aE j0,aE j0]
 rw[u]at ht;simp only at ht;obtain⟨r,w,v,hs,hv,hw,hr,ip⟩:=stk2 (l:=t.jA) j0;have fM:okV t.j3.length v=true:=hv ▸ D1 fk j0;have go:okV t.j3.length w=true:=hw ▸ D1 (Cd fk) (by rw[List.length_dropLast];omega);rw[hw,hv,hr];have e9:x.op=9\/x.op=10\/x.op=11\/x.op=12\/x.op=13:=by omega
 exact(UB x x.op (x.op+3) j0 rfl r w v hR hs eV (IY go) (IY fM)).mono fun y U' ⟨h1,R',h2,h3⟩=>⟨false,h1,R',h3,rfl,h2⟩
section
variable {ir:Nat}{p:aw}{c:jD}{R:Nat->RW}{s:GoS}{O:Sig}
theorem jR.init{S1 S2:Sig}{r0 r1:RW}{jA j7:List jH}{pos:Int}(h0:FrV O r0 jA S1)(h1:FrV S1 r1 j7 S2)(hi:S2 ir=none):jR ir p c (R01 r0 r1) ⟨[],[],pos,jA,j7⟩ (S2.set ir (.cells (Aw p c (R01 r0 r1) ⟨[],[],pos,jA,j7⟩))):=by
 have a:Rows O (fun _=>RW.nil) rSz (fun _=>[]):=⟨fun _=>rfl,fun _ _ _ h=>h.elim⟩;have b:Rows S1 (jK (fun _=>RW.nil) 0 r0) rSz (jK (fun _=>[]) 0 (jA.map j5)):=a.upd (a:=0) h0.1 h0.2.1;have c:=b.upd (a:=1) (r':=r1) (es':=j7.map j5) (U':=S2) h1.1 (by rw[A1 _ _ j0];exact h1.2.1)
 have d:=c.retell (ct':=rCt (R01 r0 r1) ⟨[],[],pos,jA,j7⟩) fun a=>by
  match a with
  |0=>rw[A1 _ _ j0,Ab];rfl
  |1=>rw[Ab];rfl
  |2=>rw[A1 _ _ j0,A1 _ _ j0];rfl
  |3=>rw[A1 _ _ j0,A1 _ _ j0];rfl
  |k+4=>rw[A1 _ _ j0,A1 _ _ j0];simp[rCt]
 have eU:∀a, ¬(R01 r0 r1 a).is ir:=fun a ha=>by
  obtain⟨z,hz⟩:=(d.ok a).cells ha;rw[hi]at hz;cases hz
 refine⟨w6 .., d.keep fun j o hj ⟨b,hb⟩=>by rw[w7 _ _ fun e=>eU b (by rw[<-e];exact hb)];exact hj,eU,fun a es ha=>?_⟩;unfold R01 at ha
 by_cases e1:a=1
 ·subst e1;rw[Ab]at ha;exact h1.2.2 es ha
 ·rw[A1 _ _ e1]at ha
  by_cases e0:a=0
  ·subst e0;rw[Ab]at ha;exact h0.2.2 es ha
  ·rw[A1 _ _ e0]at ha;cases ha
theorem jR.swap(h:jR ir p c R s O){R':Nat->RW}{l:List jF}{S2 S3:Sig}{X ds:eO}(h2:∀j o,O j=some o->j≠ir->(∀q,3<=q->¬(R q).is j)->S2 j=some o)(fF:S2 ir=some (.cells X))(hT:ThS R' l S2 S3)(hd:ds=Aw p c (Da R R') { s with j3:=l }):
  jR ir p c (Da R R') { s with j3:=l } (S3.set ir (.cells ds))/\jV ir R O (Da R R') (S3.set ir (.cells ds)):=by
 have gx:∀a,a<3->∀j o,O j=some o->(R a).is j->S2 j=some o:=fun a ha j o hj eX=>h2 j o hj (fun e=>h.ni a (e ▸ eX)) (fun q hq iA=>by have:=h.rows.dj a q j eX iA;omega)
 have fV:=(hT.keep ir _ fF).2
 have eU:∀a, ¬(Da R R' a).is ir:=fun a=>by
  by_cases ha:a<3
  ·rw[BY ha];exact h.ni a
  ·rw[BZ j0];exact fV a
 refine⟨⟨by rw[w6,hd],⟨fun a=>?_,fun a b j ha hb=>?_⟩,eU,fun a es he=>?_⟩,fun j o hj b7 hn=>?_⟩
 ·by_cases ha:a<3
  ·have e:rCt (Da R R') { s with j3:=l } a=rCt R s a:=by
    match a with
    |0=>rfl
    |1=>rfl
    |2=>rfl
    |k+3=>omega
   rw[e,BY ha];exact(h.rows.ok a).keep fun j o hj eX=>by rw[w7 _ _ fun e2=>h.ni a (by rw[<-e2];exact eX)];exact(hT.keep j o (gx a ha j o hj eX)).1
  ·have e:rCt (Da R R') { s with j3:=l } a=rCt R' ⟨l,[],0,[],[]⟩ a:=by
    match a with
    |0=>omega
    |1=>omega
    |2=>omega
    |3=>
     show jC (fun k=>Da R R' (k+4)) l=jC (fun k=>R' (k+4)) l
     congr 1
    |k+4=>rfl
   rw[e,BZ j0];exact(hT.rows.ok a).keep fun j o hj eX=>by rw[w7 _ _ fun e2=>fV a (by rw[<-e2];exact eX)];exact hj
 ·by_cases h1:a<3<;>by_cases h3:b<3
  ·rw[BY h1]at ha;rw[BY h3]at hb;exact h.rows.dj a b j ha hb
  ·rw[BY h1]at ha;rw[BZ j0]at hb;obtain⟨z,hz⟩:=(h.rows.ok a).cells ha;exact absurd hb ((hT.keep j _ (gx a h1 j _ hz ha)).2 b)
  ·rw[BZ j0]at ha;rw[BY h3]at hb;obtain⟨z,hz⟩:=(h.rows.ok b).cells hb;exact absurd ha ((hT.keep j _ (gx b h3 j _ hz hb)).2 a)
  ·rw[BZ j0]at ha;rw[BZ j0]at hb;exact hT.rows.dj a b j ha hb
 ·by_cases ha:a<3
  ·rw[BY ha]at he;exact h.nf a es he
  ·rw[BZ j0]at he;exact hT.nf a es he
 ·have k2:=h2 j o hj b7 fun q _=>hn q;obtain⟨k3,k4⟩:=hT.keep j o k2;refine⟨j2 b7 k3,fun a ha=>?_⟩
  by_cases h1:a<3
  ·rw[BY h1]at ha;exact hn a ha
  ·rw[BZ j0]at ha;exact k4 a ha
end
section
variable {ir:Nat}{p:aw}{c:jD}{R:Nat->RW}{s:GoS}{O:Sig}
theorem haltFzT{n:Nat}{γ:Fr}{df:List DDf}{av:D}{b:Bool}{h:GoH}(hb:b=decide (h.kind=2\/h.kind=3))(hH:kq ir p c R s av b h O): ∃U' tl,Wk prog n ⟨γ,O,df⟩ ⟨γ,U',df⟩/\U' ir=some (.cells (A7 p++cCPg c++Cl h++tl)) /\ ∀j o,O j=some o->j≠ir->(∀a, ¬(R a).is j)->U' j=some o:=by
 obtain⟨fS,b9,eU,gR,fw,fu,fZ,fj⟩:=hH;have dj:∀{a b:Nat},a≠b->∀{j:Nat},(R a).is j->¬(R b).is j:=fun {a b} iM {j} ha hb=>iM (b9.dj a b j ha hb);have nir:∀{a j:Nat},(R a).is j->j≠ir:=fun {a j} h e=>eU a (e ▸ h);cases b with
 |false=>
  rw[aE (of_decide_eq_false hb.symm)]at fj;obtain⟨e1,e2,e3⟩:=fj;obtain⟨S1,w1,o1,k1⟩:=JI (n:=n) (γ:=γ) (df:=df) (a0:=A7 p++cCPg c++[dI h.kind,dI h.val.kind,dI h.val.n,dI h.gen,av,dI h.fin,dI 0,.aj,.aj]) (b0:=(R 2).d s.jW.length::[dI s.pos,(R 0).d s.jA.length,(R 1).d s.j7.length]) b9 eU (gR 3) (by rw[fS];rfl);have q2:jN S1 3 (R 2) (s.jW.map cEv):=(b9.ok 2).keep fun j o hj d7=>k1 j o hj (nir d7) fun q hq=>dj j0 d7;obtain⟨S2,w2,o2,k2⟩:=B5 (P:=prog) (n:=n) (γ:=γ) (df:=df) (i:=ir) (az:=A7 p++cCPg c++[dI h.kind,dI h.val.kind,dI h.val.n,dI h.gen,av,dI h.fin,dI 0,.aj,.aj,.slice (s.j3.map cTh) .no]) (bs:=[dI s.pos,(R 0).d s.jA.length,(R 1).d s.j7.length]) q2 (by rw[o1,aN];rfl) (eU 2);obtain⟨S3,w3,o3,k3⟩:=Gk (n:=n) (γ:=γ) (df:=df) (xs:=A7 p++cCPg c++[dI h.kind,dI h.val.kind,dI h.val.n,dI h.gen]) (ys:=[dI h.fin,dI 0,.aj,.aj,.slice (s.j3.map cTh) .no,.slice (s.jW.map cEv) .no]++[dI s.pos,(R 0).d s.jA.length,(R 1).d s.j7.length]) o2 fw
  obtain⟨S4,w4,o4,k4⟩:=Gk (n:=n) (γ:=γ) (df:=df) (xs:=A7 p++cCPg c++[dI h.kind,dI h.val.kind,dI h.val.n,dI h.gen,sl (h.args.map j5),dI h.fin,dI 0]) (ys:=[.aj,.slice (s.j3.map cTh) .no,.slice (s.jW.map cEv) .no]++[dI s.pos,(R 0).d s.jA.length,(R 1).d s.j7.length]) o3 (Ak .no (.inl rfl));obtain⟨S5,w5,o5,k5⟩:=Gk (n:=n) (γ:=γ) (df:=df) (xs:=A7 p++cCPg c++[dI h.kind,dI h.val.kind,dI h.val.n,dI h.gen,sl (h.args.map j5),dI h.fin,dI 0,sl []]) (ys:=[.slice (s.j3.map cTh) .no,.slice (s.jW.map cEv) .no]++[dI s.pos,(R 0).d s.jA.length,(R 1).d s.j7.length]) o4 (Ak .no (.inl rfl));refine⟨S5,[dI s.pos,(R 0).d s.jA.length,(R 1).d s.j7.length],(((w1.trans w2).trans w3).trans w4).trans w5,?_,fun j o hj b7 hn=>k5 j o (k4 j o (k3 j o (k2 j o (k1 j o hj b7 fun q _=>hn q) b7 (hn 2)) b7) b7) b7⟩;rw[o5,Cl,e1,e2,e3,fu,fZ];rfl
 | true =>
  rw[aG (cY hb.symm)]at fj;obtain⟨e1,e2,e3⟩:=fj;obtain⟨S1,w1,o1,k1⟩:=JI (n:=n) (γ:=γ) (df:=df) (a0:=A7 p++cCPg c++[dI h.kind,dI h.val.kind,dI h.val.n,dI h.gen,av,dI h.fin,dI s.pos,(R 0).d s.jA.length,(R 1).d s.j7.length]) (b0:=(R 2).d s.jW.length::[dI s.pos,(R 0).d s.jA.length,(R 1).d s.j7.length]) b9 eU (gR 3) (by rw[fS];rfl);have q2:jN S1 3 (R 2) (s.jW.map cEv):=(b9.ok 2).keep fun j o hj d7=>k1 j o hj (nir d7) fun q hq=>dj j0 d7;obtain⟨S2,w2,o2,k2⟩:=B5 (P:=prog) (n:=n) (γ:=γ) (df:=df) (i:=ir) (az:=A7 p++cCPg c++[dI h.kind,dI h.val.kind,dI h.val.n,dI h.gen,av,dI h.fin,dI s.pos,(R 0).d s.jA.length,(R 1).d s.j7.length,.slice (s.j3.map cTh) .no]) (bs:=[dI s.pos,(R 0).d s.jA.length,(R 1).d s.j7.length]) q2 (by rw[o1,aN];rfl) (eU 2);have q0:jN S2 2 (R 0) (s.jA.map j5):=(b9.ok 0).keep fun j o hj d7=>k2 j o (k1 j o hj (nir d7) fun q hq=>dj j0 d7) (nir d7) (dj (by decide) d7)
  obtain⟨S3,w3,o3,k3⟩:=B5 (P:=prog) (n:=n) (γ:=γ) (df:=df) (i:=ir) (az:=A7 p++cCPg c++[dI h.kind,dI h.val.kind,dI h.val.n,dI h.gen,av,dI h.fin,dI s.pos]) (bs:=[(R 1).d s.j7.length,.slice (s.j3.map cTh) .no,.slice (s.jW.map cEv) .no]++[dI s.pos,(R 0).d s.jA.length,(R 1).d s.j7.length]) q0 (by rw[o2,aN];rfl) (eU 0);have q1:jN S3 2 (R 1) (s.j7.map j5):=(b9.ok 1).keep fun j o hj d7=>k3 j o (k2 j o (k1 j o hj (nir d7) fun q hq=>dj j0 d7) (nir d7) (dj (by decide) d7)) (nir d7) (dj (by decide) d7)
  obtain⟨S4,w4,o4,k4⟩:=B5 (P:=prog) (n:=n) (γ:=γ) (df:=df) (i:=ir) (az:=A7 p++cCPg c++[dI h.kind,dI h.val.kind,dI h.val.n,dI h.gen,av,dI h.fin,dI s.pos,.slice (s.jA.map j5) .no]) (bs:=[.slice (s.j3.map cTh) .no,.slice (s.jW.map cEv) .no]++[dI s.pos,(R 0).d s.jA.length,(R 1).d s.j7.length]) q1 (by rw[o3,aN];rfl) (eU 1);have w5:=GU (P:=prog) (n:=n) (γ:=γ) (df:=df) (az:=A7 p++cCPg c++[dI h.kind,dI h.val.kind,dI h.val.n,dI h.gen]) (bs:=[dI h.fin,dI s.pos,.slice (s.jA.map j5) .no,.slice (s.j7.map j5) .no,.slice (s.j3.map cTh) .no,.slice (s.jW.map cEv) .no]++[dI s.pos,(R 0).d s.jA.length,(R 1).d s.j7.length]) (d:=av) o4 fw;refine⟨_,[dI s.pos,(R 0).d s.jA.length,(R 1).d s.j7.length],(((w1.trans w2).trans w3).trans w4).trans w5,?_,fun j o hj b7 hn=>?_⟩
  ·rw[w6,Cl,e1,e2,e3,fu,fZ];rfl
  ·rw[w7 _ _ b7];exact k4 j o (k3 j o (k2 j o (k1 j o hj b7 fun q _=>hn q) b7 (hn 2)) b7 (hn 0)) b7 (hn 1)
theorem haltDT{ro:Ro}{n:Nat}{Q:DX->St->Prop}{kd:Code}{γ:Fr}{df:List DDf}{av:D}{b:Bool}{h:GoH}(hb:b=decide (h.kind=2\/h.kind=3))(hH:kq ir p c R s av b h O)
  (k:∀U' tl,U' ir=some (.cells (A7 p++cCPg c++Cl h++tl))->(∀j o,O j=some o->j≠ir->(∀a, ¬(R a).is j)->U' j=some o)->DWp prog ro n kd Q ⟨γ,U',df⟩):DWp prog ro n kd Q ⟨γ,O,df⟩:=by
 obtain⟨S2,tl,w,a,b⟩:=haltFzT (n:=n) (γ:=γ) (df:=df) hb hH;exact FH w (k S2 tl a b)
end
def T1{p:aw}{N q:Nat}{x:jI}(b6:kH p N q x=true):1<=x.op/\x.op<=21:=by
 unfold kH at b6;refine bN fun h=>?_;rw[aE j0,aE j0,aE j0,aE j0,aE j0,aE j0]at b6;simp at b6;omega
def MF{p:aw}{w:jY}{c:jD}{m:Met}{nx:Bool}(hg:∀n:Nat,0<=p.ai.getD n 0)(hw:WldOK p w)(hL:LevOK p c m nx){s:GoS}(hs:GInv w m s):mRun p w c c.j6.length s=match FL p w (An c s.pos.toNat) { s with pos:=s.pos+1 } with
  |.inl t=>mRun p w c c.j6.length t
  |.inr h=>h:=by
 rw[MH hg hw hL c.j6.length (c.j6.length+1) s hs j0 j0,mRun];rfl
@[simp] theorem cActs_len:cActs.length=22:=rfl
@[simp] theorem cActs_all:cActs.all D.flat=true:=rfl
@[simp] theorem cActs_tk:List.take 22 cActs=cActs:=rfl
def jU.newO{ir:Nat}{p:aw}{R:Nat->RW}{s:GoS}{O:Sig}(h:jU ir p R s O){i:Nat}(hi:O i=none)(o:jP):jU ir p R s (O.set i o):=by
 have hn:∀j x,O j=some x->j≠i:=fun j x hj e=>by rw[e,hi]at hj;cases hj
 exact⟨j2 (hn _ _ h.obj) h.obj,h.rows.keep fun j x hj _=>by rw[w7 _ _ (hn j x hj)];exact hj,h.ni,h.nf⟩
def HK (p:aw) (c:jD) (j3:List jF) (pos:Int) (jA j7:List jH) (o1:Own) (O:Sig) (hp:p.wt<=1073741824) (iK:c.j6.length<=1073741824) (iJ:c.jG.length<=1073741824) (fC:j3.length<=1073741824) (fN : ∀ x ∈ j3,x.ac.length<=1073741824) (gP:jA.length<=1073741824) (gU:j7.length<=1073741824) :
  ar prog 13 [.agg (A7 p),.agg (cCPg c),.slice (j3.map cTh) o1,.agg (cFr pos jA j7)] O (rS (.tup [.agg (Cl ((goC p (A0 p) c j3 pos jA j7).getD DJ)),dI (if(goC p (A0 p) c j3 pos jA j7).isSome then 0 else 2)]) O):=by
 have gT:=H2 p c;have fy:=fun O:Sig=>IT p j3 o1 O hp j0 (fun x hx=>by have:=fN x hx;omega)
 obtain⟨H,hH⟩:∃H,H=goC p (A0 p) c j3 pos jA j7:=⟨_,rfl⟩;rw[<-hH];refine en func13 ntmps13 ?_;refine gz ?_ o13 [8];refine je (fun i8 fo=>?_);have o8:(O.set i8 (.cells [dI 0,dI 0,dI 0,dI 0,.aj,dI 0,dI 0,.aj,.aj,.aj,.aj])) i8=_:=w6 ..;have gn:Sub O (O.set i8 (.cells [dI 0,dI 0,dI 0,dI 0,.aj,dI 0,dI 0,.aj,.aj,.aj,.aj])):=(Sub.refl _).set fo;generalize O.set i8 (.cells [dI 0,dI 0,dI 0,dI 0,.aj,dI 0,dI 0,.aj,.aj,.aj,.aj])=Sa at*;refine gz ?_ o13 [8];refine A3 (N5 p c Sa hp iK iJ) (fun d U' hr=>?_) (fun d U' hr=>?_)
 rotate_left
 ·unfold LokR at hr;split at hr
  ·cases hr.1
  ·obtain⟨_,_,h,_⟩:=hr;cases h
 unfold LokR at hr;cases hL:Cp p c with
 |none=>
  rw[hL]at hr;obtain⟨e,rfl⟩:=hr;cases e;have hn:H=none:=by rw[hH];unfold goC;rw[gT,hL];rfl
  refine gf o8 ?_ o13 [8];refine jp (U':=O) (d:=.tup [.agg (Cl DJ),dI 2]) ⟨by rw[hn];rfl,rfl⟩ (hw:=?_) (hZ:=?_)
  ·exact Ff ⟨H8,Ac _,trivial⟩
  ·exact fun j o hj=>by rw[w7 _ _ (AF hj fo)];exact gn j o hj
 | some W =>
  rw[hL]at hr;obtain⟨im,gC,e,rfl⟩:=hr;cases e;have n8m:i8≠im:=AF o8 gC;have om:(Sa.set im (.map (eIL W))) im=some (.map (eIL W)):=w6 ..;have o8':=(w7 Sa (.map (eIL W)) n8m).trans o8;have f9:Sub O (Sa.set im (.map (eIL W))):=gn.set (gn.none gC);generalize Sa.set im (.map (eIL W))=S0 at*;clear o8 gn gC;have fW:B6 p c=some (F2 c W):=by rw[gT,hL];rfl
  obtain⟨fi,hlen,d5⟩:=G6 fW
  have gN:c.j6.length<=300:=by
   unfold Cp at hL;split at hL
   ·rename_i h;simp only[aF,aH]at h;exact h.2.1
   ·cases hL
  have gE:H=if AI (A0 p) j3&&C5 (F2 c W) j3.length pos jA j7 then some (mRun p (A0 p) c c.j6.length ⟨j3,[],pos,jA,j7⟩) else none:=by rw[hH];unfold goC;rw[fW]
  by_cases hg:(AI (A0 p) j3&&C5 (F2 c W) j3.length pos jA j7)=true
  rotate_left
  ·have hn:H=none:=by rw [gE,aE hg]
   have fin0:∀z,Sub O (S0.set i8 z):=fun z j o hj=>by rw[w7 _ _ (AF hj fo)];exact f9 j o hj
   have fin1:∀i z1 z2,S0 i=none->Sub O ((S0.set i z1).set i8 z2):=fun i z1 z2 hi j o hj=>by rw[w7 _ _ (AF hj fo),w7 _ _ (AF (f9 j o hj) hi)];exact f9 j o hj
   have gI:AI (A0 p) j3=false\/(AI (A0 p) j3=true/\(pos < 0\/(c.j6.length:Int)<=pos))\/(AI (A0 p) j3=true /\ ∃ k:Nat,pos=k/\k < c.j6.length/\((jA.length:Int) ≠ (getM ⟨0,0⟩ (k:Int) W).st\/((jA.length:Int)=(getM ⟨0,0⟩ (k:Int) W).st/\(j7.length:Int) ≠ (getM ⟨0,0⟩ (k:Int) W).j7)\/((jA.length:Int)=(getM ⟨0,0⟩ (k:Int) W).st/\(j7.length:Int)=(getM ⟨0,0⟩ (k:Int) W).j7/\(jg j3.length jA=false\/(jg j3.length jA=true/\jg j3.length j7=false))))):=by
    cases hO:AI (A0 p) j3 with
    |false=>exact .inl rfl
    | true =>
     refine .inr ?_;rw[hO,bq]at hg
     by_cases h0:pos<0\/(c.j6.length:Int)<=pos
     ·exact .inl ⟨rfl,h0⟩
     obtain⟨k,hk⟩:∃k:Nat,pos=k:=⟨pos.toNat,j0⟩;have d9:k<c.j6.length:=by omega
     refine .inr ⟨rfl,k,hk,d9,?_⟩;subst hk;unfold C5 at hg;rw[Pk,bF,LW c W d9,ba]at hg
     by_cases a1:(jA.length:Int)=(getM ⟨0,0⟩ (k:Int) W).st
     ·refine .inr ?_
      by_cases a2:(j7.length:Int)=(getM ⟨0,0⟩ (k:Int) W).j7
      ·refine .inr ⟨a1,a2,?_⟩;cases a3:jg j3.length jA with
       |false=>exact .inl rfl
       |true=>
        cases a4:jg j3.length j7 with
        |false=>exact .inr ⟨rfl,rfl⟩
        |true=>exact absurd (by rw[a3,a4,be j0];rfl) hg
      ·exact .inl ⟨a1,a2⟩
     ·exact .inl a1
   have fz:WkD (.tup [.agg [dI 0,dI 0,dI 0,dI 0,.aj,dI 0,dI 0,.aj,.aj,.aj,.aj],dI 2]) (.tup [.agg (Cl DJ),dI 2]):=Ff ⟨H8,Ac _,trivial⟩;have fJ:(DE.ret (.tup [.agg (Cl DJ),dI 2]))=.ret (.tup [.agg (Cl (H.getD DJ)),dI (if H.isSome then 0 else 2)]):=by rw[hn];rfl
   have ic:AI (A0 p) j3=true->(okP p&&AI (A0 p) j3)=true:=fun h=>by rw[h,fi];rfl
   rcases gI with hO|⟨hO,h0|h0⟩|⟨hO,k,rfl,d9,hB⟩
   rotate_right
   ·have fe:=ic hO
    repeat' first|refine gf (gi fe (gi o8' om)) ?_ [] [8]|refine DZ (fy _) ?_|refine callPG (fy _) ?_|refine gf (gi fe (gi o8' om)) ?_ o13 [8]|apply gy<;>intro hh
    refine MK (fun i11 d8=>?_);have n11:=AF o8' d8;rcases hB with a|⟨a1,a2⟩|⟨a1,a2,a3|⟨a3,a4⟩⟩
    ·refine gf (gi o8' (gi n11 a)) ?_ o13 [8];refine jp (U':=O) (d:=.tup [.agg (Cl DJ),dI 2]) ⟨fJ,rfl⟩ (hw:=?_) (hZ:=fin1 i11 _ _ d8);exact fz
    ·refine gf (gi o8' (gi n11 (gi a1 a2))) ?_ o13 [8];refine jp (U':=O) (d:=.tup [.agg (Cl DJ),dI 2]) ⟨fJ,rfl⟩ (hw:=?_) (hZ:=fin1 i11 _ _ d8);exact fz
    ·refine gf (gi o8' (gi n11 (gi a1 (gi a2 a3)))) ?_ o13 [8];refine jp (U':=O) (d:=.tup [.agg (Cl DJ),dI 2]) ⟨fJ,rfl⟩ (hw:=?_) (hZ:=fin1 i11 _ _ d8);exact fz
    ·refine gf (gi o8' (gi n11 (gi a1 (gi a2 (gi a3 a4))))) ?_ o13 [8];refine jp (U':=O) (d:=.tup [.agg (Cl DJ),dI 2]) ⟨fJ,rfl⟩ (hw:=?_) (hZ:=fin1 i11 _ _ d8);exact fz
   ·have fe:(okP p&&AI (A0 p) j3)=false:=by rw[hO];simp
    repeat' first|refine gf (gi fe o8') ?_ [] [8]|refine DZ (fy _) ?_|refine callPG (fy _) ?_|refine gf (gi fe o8') ?_ o13 [8]|apply gy<;>intro hh
    refine jp (U':=O) (d:=.tup [.agg (Cl DJ),dI 2]) ⟨fJ,rfl⟩ (hw:=?_) (hZ:=fin0 _);exact fz
   all_goals
    have fe:=ic hO
    repeat' first|refine gf (gi fe o8') ?_ [] [8]|refine DZ (fy _) ?_|refine callPG (fy _) ?_|refine gf (gi fe o8') ?_ o13 [8]|apply gy<;>intro hh
    refine jp (U':=O) (d:=.tup [.agg (Cl DJ),dI 2]) ⟨fJ,rfl⟩ (hw:=?_) (hZ:=fin0 _);exact fz
  rw[aG hg]at gE;simp only[aF]at hg;obtain⟨hO,hF⟩:=hg;have gL:=(JJ (jW:=[]) hO).1 hF;have fe:(okP p&&AI (A0 p) j3)=true:=by rw[hO,fi];rfl
  unfold C5 at hF;simp only[aF,aH]at hF;obtain⟨⟨f1,f2,f3,f4⟩,f5,f6⟩:=hF;rw[Pk]at f2;obtain⟨k,rfl⟩:∃k:Nat,pos=k:=⟨pos.toNat,j0⟩;have d9:k<c.j6.length:=by omega
  rw[bF,LW c W d9,ba]at f3 f4;have gh:=Pg fW k _ (LW c W d9)
  replace gP:jA.length<=900000:=by omega
  replace gU:j7.length<=900000:=by omega
  replace fN:∀x∈j3,x.ac.length<=1000000:=fun x hx=>by
   rw[((AE.1 hO).2 x hx).2.1];exact dW (DI fi _) j0
  replace fC:j3.length<=1000000:=by have:=(AE.1 hO).1;omega
  repeat' first|refine gf (gi fe (gi o8' om)) ?_ [] [8]|refine DZ (fy _) ?_|refine callPG (fy _) ?_|refine gf (gi fe (gi o8' om)) ?_ o13 [8]|apply gy<;>intro hh
  refine MK (fun i11 d8=>?_);have n11:=AF o8' d8;refine gf (gi f3 (gi f4 (gi f5 f6))) ?_ (ji 7 o13) [8];have o8:=(w7 S0 (.cells [D.int .i64 (getM ⟨0,0⟩ (k:Int) W).st,D.int .i64 (getM ⟨0,0⟩ (k:Int) W).j7]) n11).trans o8'
  have hS:Sub O (S0.set i11 (.cells [D.int .i64 (getM ⟨0,0⟩ (k:Int) W).st,D.int .i64 (getM ⟨0,0⟩ (k:Int) W).j7])):=fun j o hj=>by
   rw[w7 _ _ (AF (f9 j o hj) d8)];exact f9 j o hj
  generalize S0.set i11 (.cells [D.int .i64 (getM ⟨0,0⟩ (k:Int) W).st,D.int .i64 (getM ⟨0,0⟩ (k:Int) W).j7])=Sb at*;refine FK (id:=7) [0,1,2,3,4,6,7,5,8,9,10,11,12] [5,8,11] (fun _=>none) (fun _ _ h=>by cases h) ?_;refine gz ?_ o13 [8];refine AX (JN jA .no Sb j0) (fun d S1 hr=>?_) (fun d S1 hr=>by obtain⟨_,h,_⟩:=hr;cases h);obtain⟨r0,hd,fh⟩:=hr
  replace fh:FrV Sb r0 jA S1:=fh
  cases hd;refine⟨(fun _ _ h=>by cases h),?_⟩;refine AX (JN j7 .no S1 j0) (fun d S2 hr=>?_) (fun d S2 hr=>by obtain⟨_,h,_⟩:=hr;cases h);obtain⟨r1,hd,eW⟩:=hr
  replace eW:FrV S1 r1 j7 S2:=eW
  cases hd;refine⟨(fun _ _ h=>by cases h),?_⟩;refine moRr (.agg [dI k,r0.d jA.length,r1.d j7.length]) ?_ (hd:=by cases r0<;>cases r1<;>simp);refine moRr (.agg ([dI 0,dI 0,dI 0,dI 0,.aj,dI 0,dI 0,.aj,.aj,.aj,.aj]++A7 p++[dI k,r0.d jA.length,r1.d j7.length])) ?_ (hd:=by cases r0<;>cases r1<;>simp);refine moBox (AY p (R01 r0 r1) ⟨[],[],k,jA,j7⟩) (fun ir fF=>?_) (hC:=fun _ _ h=>by cases h);have b8:=jU.init (p:=p) (pos:=(k:Int)) fh eW fF
  have gb:∀j o,Sb j=some o->(S2.set ir (.cells (AY p (R01 r0 r1) ⟨[],[],k,jA,j7⟩))) j=some o/\j≠ir /\ ∀a, ¬(R01 r0 r1 a).is j:=fun j o hj=>by
   have a1:=fh.2.1 j o hj id;have a2:=eW.2.1 j o a1.1 id;have b7:=AF a2.1 fF;refine⟨j2 b7 a2.1,b7,fun a ha=>?_⟩;unfold R01 at ha
   by_cases e1:a=1
   ·subst e1;rw[Ab]at ha;exact a2.2 ha
   ·rw[A1 _ _ e1]at ha
    by_cases e0:a=0
    ·subst e0;rw[Ab]at ha;exact(eW.2.1 j o a1.1 id).2 (absurd ha a1.2)
    ·rw[A1 _ _ e0]at ha;exact ha
  generalize S2.set ir (.cells (AY p (R01 r0 r1) ⟨[],[],k,jA,j7⟩))=S3 at*;refine gz ?_ o13 [8];refine A3 (WZ j3 o1 S3 fC fN) (fun d S4 hr=>?_) (fun d S4 hr=>by obtain⟨_,h,_⟩:=hr;cases h);obtain⟨R',hd,hT⟩:=hr;cases hd;have o4:=(hT.keep ir _ b8.obj).1;refine gz ?_ o13 [8];refine RD (r:=R' 3) (k:=9) o4 ?_;obtain⟨p1,p2⟩:=b8.swap (R':=R') (l:=j3) (fun j o h _ _=>h) b8.obj hT rfl
  have eY:∀j o,Sb j=some o->(S4.set ir (.cells (AY p (Da (R01 r0 r1) R') ⟨j3,[],k,jA,j7⟩))) j=some o/\j≠ir /\ ∀a, ¬(Da (R01 r0 r1) R' a).is j:=fun j o hj=>by
   obtain⟨a1,a2,a3⟩:=gb j o hj;exact⟨(p2 j o a1 a2 a3).1,a2,(p2 j o a1 a2 a3).2⟩
  refine drp (S4.set ir (.cells (AY p (Da (R01 r0 r1) R') ⟨j3,[],k,jA,j7⟩))) ?_ (by exact Sub.refl _);generalize S4.set ir (.cells (AY p (Da (R01 r0 r1) R') ⟨j3,[],k,jA,j7⟩))=S5 at p1 eY⊢;generalize Da (R01 r0 r1) R'=R5 at p1 eY;clear p2 gb b8 fh eW hT o4;have hW:=LD fi;have fY:∀n:Nat,0<=p.ai.getD n 0:=fun n=>(DY fi n).1;refine gz ?_ o13 [8];refine F1 [5,8,9,12,13,122,123,124,125] (fun (s:GoS) (R:Nat->RW) (S1:Sig)=>GInv (A0 p) (fun j=>(F2 c W)[j]?) s/\jU ir p R s S1/\(∀j o,Sb j=some o->S1 j=some o/\j≠ir /\ ∀a, ¬(R a).is j)/\H=some (mRun p (A0 p) c c.j6.length s)/\(s.jA.length:Int)<=900000+s.pos/\(s.j7.length:Int)<=900000+s.pos/\(s.jW.length:Int)<=s.pos) (fun _ _ _=>[]) (fun _ _ S1=>S1) (fun s _ _=>c.j6.length-s.pos.toNat) (⟨j3,[],k,jA,j7⟩) (R5) (S5) (by exact⟨gL,p1,eY,gE,by simp only;omega,by simp only;omega,by simp only[cu];omega⟩) (fun s R S1 hI=>?_);obtain⟨hG,hR,hK,eZ,b1,b2,b3⟩:=hI;obtain⟨h0,⟨l,hl,fj,gm⟩,fk,ij,fq⟩:=id hG;have fE:=d5.dom _ _ hl;obtain⟨env',next,fp,g1,g2,g3,g4⟩:=d5.ok _ _ hl;have fa:=Gr fY hW d5 hG;have d6:=MF fY hW d5 hG;obtain⟨q,hq⟩:∃q:Nat,s.pos=q:=⟨s.pos.toNat,j0⟩;have hx:An c s.pos.toNat=c.j6[s.pos.toNat]:=by unfold An;rw[aD fE];rfl
  rw[hx]at fp fa d6;have b6:=d5.fits _ _ (aD fE);simp only[hq,bF]at fE fp fa d6 b6 b1 b2 b3;obtain⟨x,fA⟩:∃x,x=c.j6[q]:=⟨_,rfl⟩;rw[<-fA]at fp fa d6 b6;obtain⟨u1,u2⟩:=T1 b6;obtain⟨j,hj⟩:∃j:Nat,x.op=j:=⟨x.op.toNat,j0⟩;have f7:=actAt (j:=j) j0 j0;have q1:=hR.obj;refine gf (gi q1 (gi hq fA.symm)) ?_ o13 [8];refine MK (fun i14 c9=>?_);have n14:=AF q1 c9;refine gf (gi q1 (gi hq fA.symm)) ?_ (ji 12 o13) [8];have fb:=hR.newO c9 (.cells (cIns x));obtain⟨p3,p4⟩:=fb.at ((q:Int)+1) rfl;have o14:((S1.set i14 (.cells (cIns x))).set ir (.cells (AY p R { s with pos:=(q:Int)+1 }))) i14=some (.cells (cIns x)):=by rw[w7 _ _ n14.symm,w6]
  refine FH (OL (U':=(S1.set i14 (.cells (cIns x))).set ir (.cells (AY p R { s with pos:=(q:Int)+1 }))) (by exact Sub.refl _)) ?_
  have fg:∀j o,Sb j=some o->((S1.set i14 (.cells (cIns x))).set ir (.cells (AY p R { s with pos:=(q:Int)+1 }))) j=some o/\j≠ir /\ ∀a, ¬(R a).is j:=fun j o hj=>by
   obtain⟨a1,a2,a3⟩:=hK j o hj;exact⟨j2 a2 (j2 (AF a1 c9) a1),a2,a3⟩
  have nr14:∀a, ¬(R a).is i14:=fun a ha=>by
   obtain⟨z,hz⟩:=(hR.rows.ok a).cells ha;rw[c9]at hz;cases hz
  have n14':i14≠ir:=n14.symm;generalize (S1.set i14 (.cells (cIns x))).set ir (.cells (AY p R { s with pos:=(q:Int)+1 }))=S6 at p3 o14 fg⊢;clear p4 fb q1 n14 c9;refine FK (id:=12) [0,1,2,3,4,5,6] [6] (S6.out fun j=>j≠i14) (CC _ _) ?_;have u14:=Dk (touch:=fun j=>j≠i14) o14 j1;have gg:=XJ (t:={ s with pos:=(q:Int)+1 }) hp fi fp b6 g3 fj gm fk fq (by simp only;omega) (by simp only;omega) (by simp only;omega) p3;refine gf (gi hj (gi f7 u14)) ?_ o13 [8];rw[hj]at gg;refine AX gg (fun d S7 hr=>?_) (fun d S7 hr=>?_)
  rotate_left
  ·obtain⟨_,_,h⟩:=hr;split at h<;>cases h.1
  obtain⟨R2,fL,h⟩:=hr;refine⟨fun y o hy=>?_,?_⟩
  ·obtain⟨y1,y2⟩:=C2 hy;obtain rfl:y=i14:=bN y2;exact(fL _ _ y1 n14' nr14).1
  have ff:∀j o,Sb j=some o->S7 j=some o/\j≠ir /\ ∀a, ¬(R2 a).is j:=fun j o hj=>by
   obtain⟨a1,a2,a3⟩:=fg j o hj;exact⟨(fL j o a1 a2 a3).1,a2,(fL j o a1 a2 a3).2⟩
  cases fD:FL p (A0 p) x { s with pos:=(q:Int)+1 } with
  |inl t'=>
   have gw:=ME fD;rw[fD]at h fa d6;obtain⟨hd,gK⟩:=h;obtain⟨k1,k2⟩:=fa;have k3:=k1.lo;cases hd;simp only at gw d6;refine gz ?_ o13 [8];exact⟨t',R2,S7,⟨k1,gK,ff,by rw[eZ,d6],j0,j0,j0⟩,td1,wkR⟩
  | inr h' =>
   rw[fD]at h d6;obtain⟨hd,s',av,b,fG⟩:=h;cases hd;simp only at d6
   repeat ((fail_if_success (first|(refine haltD fG (fun S8 tl o9 k9=>?_))|fail));(first|refine go1 trivial ?_|with_reducible refine HU ?_))
   refine haltD fG (fun S8 tl o9 k9=>?_);have o8b:S8 i8=_:=k9 i8 _ (ff i8 _ o8).1 (ff i8 _ o8).2.1 (ff i8 _ o8).2.2
   have f8:Sub O S8:=fun j o hj=>by
    obtain⟨a1,a2,a3⟩:=ff j o (hS j o hj);exact k9 j o a1 a2 a3
   simp only[Cl,bH,bG]at o9;refine gf (gi o9 o8b) ?_ o13 [8];refine jp (U':=O) (d:=.tup [.agg (Cl h'),dI 0]) ⟨by rw[eZ,d6];rfl,rfl⟩ (hw:=?_) (hZ:=fun j o hj=>by rw[w7 _ _ (AF hj fo)];exact f8 j o hj);exact Ac _
def kq.fr{ir:Nat}{p:aw}{c:jD}{R:Nat->RW}{s:GoS}{O:Sig}{av:D}{b:Bool}{k:GoH}{ds:eO}(h:kq ir p c R s av b k O)(hd:ds=I0 p c R s av true k):kq ir p c R s av true k (O.set ir (.cells ds))/\jV ir R O R (O.set ir (.cells ds)):=
 ⟨⟨by rw[w6,hd],h.rows.keep fun j o hj ⟨b,hb⟩=>by rw[w7 _ _ fun e=>h.ni b (by rw[<-e];exact hb)];exact hj,h.ni,h.nf,h.args,h.j3,h.jW,h.st⟩,fun j o hj b7 hn=>⟨j2 b7 hj,hn⟩⟩
def WV(p:aw)(c:jD)(lv:List jO)(j3:List jF)(pos:Int)(jA j7:List jH)(o1:Own)(O:Sig)(hp:p.wt<=1073741824)(fW:B6 p c=some lv)(gN:c.j6.length<=300)(fC:j3.length<=1000000)(fN:∀x∈j3,x.ac.length<=1000000)(gP:jA.length<=900000)(gU:j7.length<=900000)
  (hO:AI (A0 p) j3=true) (hF:C5 lv j3.length pos jA j7=true) :
  ar prog 52 [.agg (A7 p),.agg (cCPg c),.slice (j3.map cTh) o1,.agg (cFr pos jA j7)] O (rS (.agg (Cl (mRun p (A0 p) c c.j6.length ⟨j3,[],pos,jA,j7⟩))) O):=by
 obtain⟨H,hH⟩:∃H,H=mRun p (A0 p) c c.j6.length ⟨j3,[],pos,jA,j7⟩:=⟨_,rfl⟩;rw[<-hH];obtain⟨fi,hlen,d5⟩:=G6 fW;have gL:=(JJ (jW:=[]) hO).1 hF;unfold C5 at hF;simp only[aF,aH]at hF;obtain⟨⟨f1,f2,f3,f4⟩,f5,f6⟩:=hF;obtain⟨k,rfl⟩:∃k:Nat,pos=k:=⟨pos.toNat,j0⟩;have d9:k<c.j6.length:=by omega
 refine en func52 ntmps52 ?_;refine gz ?_ o52;refine je (fun i8 fo=>?_);have o8:(O.set i8 (.cells [dI 0,dI 0,dI 0,dI 0,.aj,dI 0,dI 0,.aj,.aj,.aj,.aj])) i8=_:=w6 ..;have hS:Sub O (O.set i8 (.cells [dI 0,dI 0,dI 0,dI 0,.aj,dI 0,dI 0,.aj,.aj,.aj,.aj])):=(Sub.refl _).set fo;generalize O.set i8 (.cells [dI 0,dI 0,dI 0,dI 0,.aj,dI 0,dI 0,.aj,.aj,.aj,.aj])=Sb at*;refine gz ?_ (ji 1 o52);refine FK (id:=1) [0,1,2,3,4,5,7,8,6,9,10,11,12,13] [6,9,12] (fun _=>none) (fun _ _ h=>by cases h) ?_;refine gz ?_ o52;refine AX (JQ jA .no Sb j0) (fun d S1 hr=>?_) (fun d S1 hr=>by obtain⟨_,h,_⟩:=hr;cases h);obtain⟨r0,hd,fh⟩:=hr
 replace fh:FrV Sb r0 jA S1:=fh
 cases hd;refine⟨(fun _ _ h=>by cases h),?_⟩;refine AX (JQ j7 .no S1 j0) (fun d S2 hr=>?_) (fun d S2 hr=>by obtain⟨_,h,_⟩:=hr;cases h);obtain⟨r1,hd,eW⟩:=hr
 replace eW:FrV S1 r1 j7 S2:=eW
 cases hd;refine⟨(fun _ _ h=>by cases h),?_⟩;refine moRr (.agg [dI k,r0.d jA.length,r1.d j7.length]) ?_ (hd:=by cases r0<;>cases r1<;>simp);refine moRr (.agg (A7 p++cCPg c++[dI 0,dI 0,dI 0,dI 0,.aj,dI 0,dI 0,.aj,.aj,.aj,.aj]++[dI k,r0.d jA.length,r1.d j7.length])) ?_ (hd:=by cases r0<;>cases r1<;>simp);refine moBox (Aw p c (R01 r0 r1) ⟨[],[],k,jA,j7⟩) (fun ir fF=>?_) (hC:=fun _ _ h=>by cases h);have b8:=jR.init (p:=p) (c:=c) (pos:=(k:Int)) fh eW fF
 have gb:∀j o,Sb j=some o->(S2.set ir (.cells (Aw p c (R01 r0 r1) ⟨[],[],k,jA,j7⟩))) j=some o/\j≠ir /\ ∀a, ¬(R01 r0 r1 a).is j:=fun j o hj=>by
  have a1:=fh.2.1 j o hj id;have a2:=eW.2.1 j o a1.1 id;have b7:=AF a2.1 fF;refine⟨j2 b7 a2.1,b7,fun a ha=>?_⟩;unfold R01 at ha
  by_cases e1:a=1
  ·subst e1;rw[Ab]at ha;exact a2.2 ha
  ·rw[A1 _ _ e1]at ha
   by_cases e0:a=0
   ·subst e0;rw[Ab]at ha;exact(eW.2.1 j o a1.1 id).2 (absurd ha a1.2)
   ·rw[A1 _ _ e0]at ha;exact ha
 generalize S2.set ir (.cells (Aw p c (R01 r0 r1) ⟨[],[],k,jA,j7⟩))=S3 at*;refine gz ?_ o52;refine A3 (X5 j3 o1 S3 fC fN) (fun d S4 hr=>?_) (fun d S4 hr=>by obtain⟨_,h,_⟩:=hr;cases h);obtain⟨R',hd,hT⟩:=hr;cases hd;have o4:=(hT.keep ir _ b8.obj).1;refine gz ?_ o52;refine RD (r:=R' 3) (k:=18) o4 ?_;obtain⟨p1,p2⟩:=b8.swap (R':=R') (l:=j3) (fun j o h _ _=>h) b8.obj hT rfl
 have eY:∀j o,Sb j=some o->(S4.set ir (.cells (Aw p c (Da (R01 r0 r1) R') ⟨j3,[],k,jA,j7⟩))) j=some o/\j≠ir /\ ∀a, ¬(Da (R01 r0 r1) R' a).is j:=fun j o hj=>by
  obtain⟨a1,a2,a3⟩:=gb j o hj;exact⟨(p2 j o a1 a2 a3).1,a2,(p2 j o a1 a2 a3).2⟩
 refine drp (S4.set ir (.cells (Aw p c (Da (R01 r0 r1) R') ⟨j3,[],k,jA,j7⟩))) ?_ (by exact Sub.refl _);generalize S4.set ir (.cells (Aw p c (Da (R01 r0 r1) R') ⟨j3,[],k,jA,j7⟩))=S5 at p1 eY⊢;generalize Da (R01 r0 r1) R'=R5 at p1 eY;clear p2 gb b8 fh eW hT o4;have hW:=LD fi;have fY:∀n:Nat,0<=p.ai.getD n 0:=fun n=>(DY fi n).1;refine gz ?_ o52;refine F1 ([5,8,9]++List.range' 51 26) (fun (s:GoS) (R:Nat->RW) (S1:Sig)=>GInv (A0 p) (fun j=>(lv)[j]?) s/\jR ir p c R s S1/\(∀j o,Sb j=some o->S1 j=some o/\j≠ir /\ ∀a, ¬(R a).is j)/\H=(mRun p (A0 p) c c.j6.length s)/\(s.jA.length:Int)<=900000+s.pos/\(s.j7.length:Int)<=900000+s.pos/\(s.jW.length:Int)<=s.pos) (fun _ _ _=>[]) (fun _ _ S1=>S1) (fun s _ _=>c.j6.length-s.pos.toNat) (⟨j3,[],k,jA,j7⟩) (R5) (S5) (by exact⟨gL,p1,eY,hH,by simp only;omega,by simp only;omega,by simp only[cu];omega⟩) (fun s R S1 hI=>?_);obtain⟨hG,hR,hK,eZ,b1,b2,b3⟩:=hI;obtain⟨h0,⟨l,hl,fj,gm⟩,fk,ij,fq⟩:=id hG;have fE:=d5.dom _ _ hl;obtain⟨env',next,fp,g1,g2,g3,g4⟩:=d5.ok _ _ hl;have fa:=Gr fY hW d5 hG;have d6:=MF fY hW d5 hG;obtain⟨q,hq⟩:∃q:Nat,s.pos=q:=⟨s.pos.toNat,j0⟩
 have hx:An c s.pos.toNat=c.j6[s.pos.toNat]:=by unfold An;rw[aD fE];rfl
 rw[hx]at fp fa d6;have b6:=d5.fits _ _ (aD fE);simp only[hq,bF]at fE fp fa d6 b6 b1 b2 b3;obtain⟨x,fA⟩:∃x,x=c.j6[q]:=⟨_,rfl⟩;rw[<-fA]at fp fa d6 b6;obtain⟨u1,u2⟩:=T1 b6;obtain⟨j,hj⟩:∃j:Nat,x.op=j:=⟨x.op.toNat,j0⟩;have f7:=actAt (j:=j) j0 j0;have q1:=hR.obj;refine gf (gi q1 (gi hq fA.symm)) ?_ o52;refine MK (fun i14 c9=>?_);have n14:=AF q1 c9;refine gf (gi q1 (gi hq fA.symm)) ?_ o52;have fb:=hR.newO c9 (.cells (cIns x));obtain⟨p3,p4⟩:=fb.at ((q:Int)+1) rfl;have o14:((S1.set i14 (.cells (cIns x))).set ir (.cells (Aw p c R { s with pos:=(q:Int)+1 }))) i14=some (.cells (cIns x)):=by rw[w7 _ _ n14.symm,w6]
 refine C9 (OL (U':=(S1.set i14 (.cells (cIns x))).set ir (.cells (Aw p c R { s with pos:=(q:Int)+1 }))) (by exact Sub.refl _)) ?_
 have fg:∀j o,Sb j=some o->((S1.set i14 (.cells (cIns x))).set ir (.cells (Aw p c R { s with pos:=(q:Int)+1 }))) j=some o/\j≠ir /\ ∀a, ¬(R a).is j:=fun j o hj=>by
  obtain⟨a1,a2,a3⟩:=hK j o hj;exact⟨j2 a2 (j2 (AF a1 c9) a1),a2,a3⟩
 have nr14:∀a, ¬(R a).is i14:=fun a ha=>by
  obtain⟨z,hz⟩:=(hR.rows.ok a).cells ha;rw[c9]at hz;cases hz
 have n14':i14≠ir:=n14.symm;generalize (S1.set i14 (.cells (cIns x))).set ir (.cells (Aw p c R { s with pos:=(q:Int)+1 }))=S6 at p3 o14 fg⊢;clear p4 fb q1 n14 c9;have gg:=VE (c:=c) (t:={ s with pos:=(q:Int)+1 }) hp fi fp b6 g3 fj gm fk fq (by simp only;omega) (by simp only;omega) (by simp only;omega) p3;refine A3 gg (fun d S7 hr=>?_) (fun d S7 hr=>by obtain⟨_,h,_⟩:=hr;cases h);obtain⟨bb,hd,R2,fL,h⟩:=hr
 have ff:∀j o,Sb j=some o->S7 j=some o/\j≠ir /\ ∀a, ¬(R2 a).is j:=fun j o hj=>by
  obtain⟨a1,a2,a3⟩:=fg j o hj;exact⟨(fL j o a1 a2 a3).1,a2,(fL j o a1 a2 a3).2⟩
 cases fD:FL p (A0 p) x { s with pos:=(q:Int)+1 } with
 |inl t'=>
  have gw:=ME fD;rw[fD]at h fa d6;obtain⟨hb,gK⟩:=h;obtain⟨k1,k2⟩:=fa;have k3:=k1.lo;subst hb;cases hd;simp only at gw d6;refine gz ?_ o52;exact⟨t',R2,S7,⟨k1,gK,ff,by rw[eZ,d6],j0,j0,j0⟩,td1,wkR⟩
 | inr h' =>
  rw[fD]at h d6;obtain⟨hb,s',av,fG⟩:=h;subst hb;cases hd;simp only at d6;have oH:=fG.obj;have fQ:h'=H:=by rw[eZ,d6]
  have tail:∀S8:Sig,(∀j o,S7 j=some o->j≠ir->(∀a, ¬(R2 a).is j)->S8 j=some o)->S8 i8=some (.cells [dI 0,dI 0,dI 0,dI 0,.aj,dI 0,dI 0,.aj,.aj,.aj,.aj])/\Sub O S8:=fun S8 k9=>⟨k9 i8 _ (ff i8 _ o8).1 (ff i8 _ o8).2.1 (ff i8 _ o8).2.2,fun j o hj=>by
   obtain⟨a1,a2,a3⟩:=ff j o (hS j o hj)
   exact k9 j o a1 a2 a3⟩
  by_cases hk:h'.kind=2\/h'.kind=3
  ·obtain⟨p5,p6⟩:=fG.fr rfl;have gZ:true=decide (h'.kind=2\/h'.kind=3):=by rw[be hk]
   rcases hk with hk|hk
   all_goals
    refine gf (gi oH hk) ?_ o52;refine Jc (ds:=I0 p c R2 s' av false h') (k:=15) oH ?_
    repeat ((fail_if_success (first|(refine haltDT (b:=true) gZ p5 (fun S8 tl o9 k9=>?_))|fail));(first|refine go1 trivial ?_|with_reducible refine HU ?_))
    refine haltDT (b:=true) gZ p5 (fun S8 tl o9 k9=>?_);obtain⟨o8b,f8⟩:=tail S8 fun j o hj b7 hn=>k9 j o (p6 j o hj b7 hn).1 b7 hn;simp only[Cl,A7,cCPg,bH,bG]at o9;refine gf (gi o9 o8b) ?_ o52;refine jp (U':=O) (d:=.agg (Cl h')) ⟨by rw[fQ],rfl⟩ (hw:=Ac _) (hZ:=fun j o hj=>by rw[w7 _ _ (AF hj fo)];exact f8 j o hj)
  ·repeat ((fail_if_success (first|(refine haltDT (b:=false) (by rw[bk hk]) fG (fun S8 tl o9 k9=>?_))|fail));(first|refine go1 trivial ?_|with_reducible refine HU ?_))
   refine haltDT (b:=false) (by rw[bk hk]) fG (fun S8 tl o9 k9=>?_);obtain⟨o8b,f8⟩:=tail S8 k9;simp only[Cl,A7,cCPg,bH,bG]at o9;have iz:¬h'.kind=2:=fun e=>hk (.inl e);have iy:¬h'.kind=3:=fun e=>hk (.inr e);refine gf (gi o9 (gi o8b (gi iz iy))) ?_ o52;refine jp (U':=O) (d:=.agg (Cl h')) ⟨by rw[fQ],rfl⟩ (hw:=Ac _) (hZ:=fun j o hj=>by rw[w7 _ _ (AF hj fo)];exact f8 j o hj)
end Go.DL
namespace Go.DL
open Go.Proofs.Tryz
open Go Go.Proofs
set_option maxHeartbeats 80000000
def Ug(p:aw)(x:jI)(O:Sig)(hp:p.wt<=1073741824)(hx:x.op=19->0<=x.a/\x.a<p.ai.length):ar prog 186 [.agg (A7 p),.agg (cIns x)] O (rS (.tup [dI (Af p x).1,dI (Af p x).2]) O):=by
 obtain⟨p1,p2,p3,p4,p5,p6,p7⟩:=p.wt_le
 by_cases gc:x.op=19
 ·obtain⟨h1,h2⟩:=hx gc;have e:p.ai.getD x.a.toNat 0=p.ai[x.a.toNat]'(by omega):=by rw[aQ,aD j0];rfl
  refine en func186 ntmps186 ?_
  repeat' first|refine gf gc ?_|apply gy<;>intro hh
  any_goals (first|(refine kM (U':=O) ?_;exact⟨by first|rfl|(simp[Af,gc,e];done)|(simp_all [Af,gc,e];done)|(rw[Ae,aR];simp_all [Af,gc,e]<;>omega),rfl⟩)|fail)
 ·refine en func186 ntmps186 ?_
  repeat' first|refine gz ?_|apply gy<;>intro hh
  any_goals (first|(refine kM (U':=O) ?_;exact⟨by first|rfl|(simp[Af];done)|(simp_all [Af];done)|(rw[Ae,aR];simp_all [Af]<;>omega),rfl⟩)|fail)
def UF(p:aw)(x:jI)(q N:Nat)(O:Sig)(hp:p.wt<=1073741824):ar prog 122 [.agg (A7 p),.agg (cIns x),dI q,dI N] O (rS (.bool (kH p N q x)) O):=by
 obtain⟨p1,p2,p3,p4,p5,p6,p7⟩:=p.wt_le;refine en func122 ntmps122 ?_
 repeat' first|refine gz ?_|apply gy<;>intro hh
 any_goals (first|(refine fin1 (U':=O) ⟨?_,rfl⟩;first|(simp_all [kH,inB,jT];done)|(rw[Ae,aR];simp_all [kH,inB,jT]<;>omega))|fail)
@[reducible,instance] def a122:=fun p x q N O=>ah1 (@UF p x q N O)
end Go.DL
