/- A part of the proof. -/
import Derived.Test.YteldimffglchkaaGreatDoorQ24
set_option linter.all false
namespace Go.DL
open Go.Proofs.Tryz
open Go Go.Proofs
set_option maxHeartbeats 8000000
section
variable {ir:Nat}{p:aw}{c:jD}{R:Nat->RW}{s:GoS}{O:Sig}
theorem Nm(v:jH)(x:Int)(hp:p.wt<=1073741824)(hk:okP p=true)(hR:jR ir p c R s O)(hv:okV s.j3.length v=true)(ho:AI (A0 p) s.j3=true):
  ar prog 191 [.ptr ir 0,.agg (j5 v),dI x] O (rS (if Ap (A0 p) s.j3 v x<0 then .tup [dI 0,.bool false] else .tup [dI (Ap (A0 p) s.j3 v x),.bool true]) O):=by
 have q1:=hR.obj
 by_cases h3:v.kind=3
 rotate_left
 ·have hn:Ap (A0 p) s.j3 v x = -1:=by unfold Ap;rw[aE h3]
  rw[hn];refine en func191 ntmps191 ?_;refine gf h3 ?_ o191;refine kM (U':=O) ⟨rfl,rfl⟩
 obtain⟨w1,w2,w3⟩:=Dz ho hv h3;obtain⟨u1,u2,u3⟩:=(AE.1 ho).2 _ w1;obtain⟨n,hn⟩:∃n:Nat,v.n=n:=⟨v.n.toNat,j0⟩;have b8:n<s.j3.length:=by omega
 have ff:BG s.j3 v.n=s.j3[n]:=by unfold BG;rw[hn,bF,aD b8];rfl
 rw[ff]at u1 u2 u3;have fD:Ap (A0 p) s.j3 v x=jj x (hasP p (s.j3[n]).jM) 0:=by unfold Ap;rw[aG h3,ff];rfl
 rw[fD];obtain⟨i,cq,cs,h0⟩:=hR.row 3 (fun e=>by rw[rCt]at e;have:=bn List.length e;rw[A4]at this;simp at this;rw[this]at b8;simp at b8);have q0:=hR.rows.ok 3;rw[h0]at q0;obtain⟨z1,z2,z3,z4⟩:=q0;obtain⟨y1,y2⟩:=IR (BJ (S:=fun k=>R (k+4)) (l:=s.j3)) (B4 _ _ n b8) cs;rw[show rCt R s 3=jC (fun k=>R (k+4)) s.j3 from rfl]at z1;generalize (jC (fun k=>R (k+4)) s.j3).flatten++cs=L at*;unfold Aw at q1;rw[h0]at q1;simp only[Cz]at q1;have fc:(jT p (s.j3[n]).jM&&okP p)=true:=u1;rw[hk,Bool.and_true]at fc;have eY:=BT hk;have eU:3<=(s.j3[n]).jM/\(s.j3[n]).jM<3+p.aa.length:=by unfold jT at fc;simpa using fc
 have i215:∀O,Ans 215 [.agg (A7 p),dI (s.j3[n]).jM] O True (sl (cI (hasP p (s.j3[n]).jM))):=fun O=>ah0 (by rw[L7 eY eU.1 eU.2];exact F5 p (s.j3[n]).jM O hp eY eU)
 have fY:(hasP p (s.j3[n]).jM).length<=1073741824:=by have a:=Ce p (s.j3[n]).jM;have b:=Db p;omega
 generalize hasP p (s.j3[n]).jM=H at*;refine en func191 ntmps191 ?_;refine gf (gi q1 (gi z1 (gi hn (gi y1 (gi y2 h3))))) ?_ o191;refine Bz [2,8] (fun (k:Nat)=>k<=H.length/\jj x H 0=jj x (H.drop k) k) (fun k=>[(9,dI k)]) (fun _=>O) (fun k=>H.length-k) (0) j1 (fun k hI=>?_);obtain⟨eV,hI⟩:=hI
 by_cases h:k<H.length
 ·rw[A6 h,jj]at hI
  by_cases e:H[k]=x
  ·rw[aG (by first|exact e.symm|exact e)]at hI;refine gf e ?_ o191;refine kM (U':=O) ⟨by rw[hI,aE j0],rfl⟩
  ·rw[aE (by first|exact fun h=>e h.symm|exact e)]at hI;refine gf e ?_ o191;exact⟨k+1,⟨j0,hI⟩,td1,wkR⟩
 ·rw[A9 h,jj]at hI;refine gz ?_ o191;refine kM (U':=O) ⟨by rw[hI,aG j0],rfl⟩
end
section
variable {ir:Nat}{p:aw}{c:jD}{R:Nat->RW}{s:GoS}{O:Sig}
theorem X8(x:jI)(hx:x.op=16)(r:List jH)(v:jH)(hR:jR ir p c R s O)(hs:s.jA=r++[v])(hn:s.jA.length<=1000000):ar prog 192 [.ptr ir 0,.agg (cIns x)] O fun y U'=>y=.ret (.bool false) /\ ∃R',jR ir p c R' { s with jA:=r } U'/\jV ir R O R' U':=by
 refine en func192 ntmps192 ?_;refine gz ?_ kJ;refine A3 (CI r v hR hs hn) (fun d S1 hr=>?_);obtain⟨hd,R1,b7,b9⟩:=hr;cases hd;refine gf hx ?_ kJ;exact fin1 (U':=S1) ⟨rfl,_,b7,b9⟩
theorem Ue(x:jI)(hx:x.op=17)(r:List jH)(v:jH)(hR:jR ir p c R s O)(hs:s.jA=r++[v])(hn:s.jA.length<=1000000):ar prog 192 [.ptr ir 0,.agg (cIns x)] O fun y U'=>y=.ret (.bool false) /\ ∃R',jR ir p c R' { s with jA:=r,pos:=if Ah v=0 then x.a else s.pos } U'/\jV ir R O R' U':=by
 refine en func192 ntmps192 ?_;refine gz ?_ kJ;refine A3 (CI r v hR hs hn) (fun d S1 hr=>?_);obtain⟨hd,R1,b7,b9⟩:=hr;cases hd;have q1:=b7.obj
 by_cases h:Ah v=0
 ·rw[aG h];refine gf (gi hx (gi q1 h)) ?_ kJ;obtain⟨p1,p2⟩:=b7.at x.a rfl;exact fin1 (U':=_) ⟨rfl,_,p1,b9.trans p2⟩
 ·rw[aE h];refine gf (gi hx (gi q1 h)) ?_ kJ;exact fin1 (U':=S1) ⟨rfl,_,b7,b9⟩
theorem Xb(x:jI)(hx:x.op=21)(r:List jH)(v:jH)(hR:jR ir p c R s O)(hs:s.jA=r++[v])(hn:s.jA.length<=1000000):ar prog 192 [.ptr ir 0,.agg (cIns x)] O fun y U'=>y=.ret (.bool true) /\ ∃R',kq ir p c R' { s with jA:=r } .aj false ⟨1,v,0,[],0,0,[],[],s.j3,s.jW⟩ U'/\jV ir R O R' U':=by
 refine en func192 ntmps192 ?_;refine gz ?_ kJ;refine A3 (CI r v hR hs hn) (fun d S1 hr=>?_);obtain⟨hd,R1,b7,b9⟩:=hr;cases hd;have q1:=b7.obj;obtain⟨p1,p2⟩:=b7.halt (av:=.aj) (b:=false) (k:=⟨1,v,0,[],0,0,[],[],s.j3,s.jW⟩) rfl (Ak _ (.inl rfl)) rfl rfl (by rw[aE j1];exact⟨rfl,rfl,rfl⟩);refine gf (gi hx q1) ?_ kJ;refine A3 (F6 (p:=p) (c:=c) 1 0 ([dI v.kind,dI v.n,dI 0,.aj,dI 0,dI 0,.aj,.aj,(R1 3).d s.j3.length,(R1 2).d s.jW.length,dI s.pos,(R1 0).d r.length,(R1 1).d s.j7.length]) (w6 ..)) (fun d S2 hr=>?_);obtain⟨hd,rfl⟩:=hr;cases hd;rw[w8];refine gz ?_ kJ;exact fin1 (U':=_) ⟨rfl,_,p1,b9.trans p2⟩
theorem X9(x:jI)(hx:x.op=14)(r:List jH)(v:jH)(hR:jR ir p c R s O)(hs:s.jA=r++[v])(hn:s.jA.length<=1000000)(he:s.j7.length<=1000000):ar prog 192 [.ptr ir 0,.agg (cIns x)] O fun y U'=>y=.ret (.bool false) /\ ∃R',jR ir p c R' { s with jA:=r,j7:=s.j7++[v] } U'/\jV ir R O R' U':=by
 refine en func192 ntmps192 ?_;refine gz ?_ kJ;refine A3 (CI r v hR hs hn) (fun d S1 hr=>?_);obtain⟨hd,R1,b7,b9⟩:=hr;cases hd;have q1:=b7.obj;have q0:jN S1 2 (R1 1) (s.j7.map j5):=b7.rows.ok 1;have u1:=Dk q1 (b7.ni 1);refine gf hx ?_ (ji 17 kJ);refine CH (id:=17) (List.range 12) [8] (S1.out (R1 1).is) (CC _ _) ?_;refine gf u1 ?_ kJ;refine Dl (es:=s.j7.map j5) (fun i q cs S2 d9 c9=>?_) (fun j o h=>C2 h) (hm:=q0);obtain⟨v1,v2⟩:=c9 _ _ q1 (b7.ni 1);refine gf v1 ?_ kJ;rw[show s.j7.map j5++[j5 v]=(s.j7++[v]).map j5 by simp]at d9;obtain⟨p1,p2⟩:=b7.put (a:=1) (s':={ s with jA:=r,j7:=s.j7++[v] }) d9 c9 (W5 R1 _ { s with jA:=r } _) rfl;refine fin1 (U':=_) ⟨rfl,_,p1,b9.trans p2⟩ (hZ:=?_);simp[Aw,A7];exact Sub.refl _
end
section
variable {ir:Nat}{p:aw}{c:jD}{R:Nat->RW}{s:GoS}{O:Sig}
theorem X7(x:jI)(hx:x.op=7)(r:List jH)(v:jH)(hR:jR ir p c R s O)(hs:s.jA=r++[v])(hn:s.jA.length<=1000000)(he:s.jW.length<=1000000):ar prog 192 [.ptr ir 0,.agg (cIns x)] O fun y U'=>y=.ret (.bool false) /\ ∃R',jR ir p c R' { s with jW:=s.jW++[⟨2,0,[v]⟩],jA:=r++[v] } U'/\jV ir R O R' U':=by
 have hl:s.jA.length=r.length+1:=by rw[hs];simp
 refine en func192 ntmps192 ?_;refine gz ?_ kJ;refine A3 (CI r v hR hs hn) (fun d S1 hr=>?_);obtain⟨hd,R1,b7,b9⟩:=hr;cases hd;have q1:=b7.obj;have q0:jN S1 3 (R1 2) (s.jW.map cEv):=b7.rows.ok 2;have u1:=Dk q1 (b7.ni 2);refine gf hx ?_ (ji 14 kJ);refine CH (id:=14) (List.range 14) [10] (S1.out (R1 2).is) (CC _ _) ?_;refine gf u1 ?_ kJ;refine Dl (es:=s.jW.map cEv) (fun i q cs S2 d9 c9=>?_) (fun j o h=>C2 h) (hm:=q0);obtain⟨v1,v2⟩:=c9 _ _ q1 (b7.ni 2);refine gf v1 ?_ kJ;rw[show s.jW.map cEv++[[D.int .i64 2,D.int .i64 0,.slice [j5 v] .clip]]=(s.jW++[(⟨2,0,[v]⟩:MEv)]).map cEv by simp[cEv]]at d9;obtain⟨p1,p2⟩:=b7.put (a:=2) (s':={ s with jA:=r,jW:=s.jW++[⟨2,0,[v]⟩] }) d9 c9 (rCt_2 R1 _ { s with jA:=r } _) rfl;refine drp (S2.set ir (.cells (Aw p c (jK R1 2 (.row i q cs)) { s with jA:=r,jW:=s.jW++[⟨2,0,[v]⟩] }))) ?_ (by simp[Aw,A7];exact Sub.refl _);refine A3 (C7 v p1 (by simp;omega)) (fun d S3 hr=>?_);obtain⟨hd,R3,d5,d6⟩:=hr;cases hd;refine gz ?_ kJ;exact fin1 (U':=S3) ⟨rfl,R3,d5,(b9.trans p2).trans d6⟩
theorem RZ(hR:jR ir p c R s O){v:jH}{x:Int}(hv:okV s.j3.length v=true)(ho:AI (A0 p) s.j3=true)(h0:0<=Ap (A0 p) s.j3 v x)(h3:v.kind=3):
  ∃n k:Nat,v.n=n/\Ap (A0 p) s.j3 v x=k /\ ∃(hn:n<s.j3.length) (hk:k<(s.j3[n]).ac.length),BG s.j3 v.n=s.j3[n] /\ ∃i3 c3 cs3 L3 i q cs L,R 3=.row i3 c3 cs3/\O i3=some (.cells L3)/\L3[n*2+1]? = some (.am i 0 (s.j3[n]).ac.length q)/\R (n+4)=.row i q cs/\L=((s.j3[n]).ac.map j5).flatten++cs/\O i=some (.cells L)/\k*2+2<=L.length/\List.take 2 (List.drop (k*2) L)=j5 ((s.j3[n]).ac[k]):=by
 obtain⟨w1,w2,w3⟩:=Dz ho hv h3;obtain⟨n,hn⟩:∃n:Nat,v.n=n:=⟨v.n.toNat,j0⟩;have b8:n<s.j3.length:=by omega
 obtain⟨i3,c3,cs3,e3⟩:=hR.row 3 (fun e=>by rw[rCt]at e;have:=bn List.length e;rw[A4]at this;simp at this;rw[this]at b8;simp at b8);have q0:=hR.rows.ok 3;rw[e3]at q0;obtain⟨z1, -, -, -⟩:=q0;obtain⟨-, y2⟩:=IR (BJ (S:=fun k=>R (k+4)) (l:=s.j3)) (B4 _ _ n b8) cs3;obtain⟨u1,u2,u3⟩:=(AE.1 ho).2 _ w1;have ff:BG s.j3 v.n=s.j3[n]:=by unfold BG;rw[hn,bF,aD b8];rfl
 have fk:rCt R s (n+4)=(s.j3[n]).ac.map j5:=by show(((s.j3[n]?).getD ⟨0,[]⟩).ac.map j5)=_;rw[aD b8];rfl
 have fD:Ap (A0 p) s.j3 v x=jj x (hasP p (s.j3[n]).jM) 0:=by unfold Ap;rw[aG h3,ff];rfl
 rw[ff]at u2;have fC:(s.j3[n]).ac.length=(hasP p (s.j3[n]).jM).length:=u2;obtain⟨m1,m2⟩:=Fs (s:=x) (hasP p (s.j3[n]).jM) 0 j0;obtain⟨i,q,cs,hi⟩:=hR.row (n+4) (fun e=>by rw[fk]at e;have:=bn List.length e;simp at this;rw[this]at fC;simp at fC;omega);rw[hi]at y2;simp only[Cz]at y2;obtain⟨n',k,e1,e2,fv,eV,e4,L,hL,x1,x2,x3⟩:=W0 hR hv ho h0 h3 (i:=i) (q:=q) (cs:=cs) (by rw[hn];exact hi);obtain rfl:n'=n:=by omega
 exact⟨n',k,e1,e2,fv,eV,e4,i3,c3,cs3,_,i,q,cs,L,e3,z1,y2,hi,hL,x1,x2,x3⟩
theorem Xa(x:jI)(hx:x.op=5)(r:List jH)(v:jH)(hp:p.wt<=1073741824)(hk:okP p=true)(hR:jR ir p c R s O)(hs:s.jA=r++[v])(hn:s.jA.length<=1000000)(hv:okV s.j3.length v=true)(ho:AI (A0 p) s.j3=true):ar prog 192 [.ptr ir 0,.agg (cIns x)] O fun y U'=> ∃R',jV ir R O R' U' /\
  if Ap (A0 p) s.j3 v x.a<0 then y=.ret (.bool true)/\kq ir p c R' { s with jA:=r } .aj false (Dv s 5 r) U' else y=.ret (.bool false)/\jR ir p c R' { s with jA:=r++[((BG s.j3 v.n).ac[(Ap (A0 p) s.j3 v x.a).toNat]?).getD vZ] } U':=by
 have hl:s.jA.length=r.length+1:=by rw[hs];simp
 refine en func192 ntmps192 ?_;refine gz ?_ kJ;refine A3 (CI r v hR hs hn) (fun d S1 hr=>?_);obtain⟨hd,R1,b7,b9⟩:=hr;cases hd;have i191:Ans 191 [.ptr ir 0,.agg (j5 v),dI x.a] S1 True (if Ap (A0 p) s.j3 v x.a<0 then .tup [dI 0,.bool false] else .tup [dI (Ap (A0 p) s.j3 v x.a),.bool true]):=by have h:=Nm v x.a hp hk b7 hv ho;exact ah0 h
 by_cases h0:Ap (A0 p) s.j3 v x.a<0
 ·rw[aG h0]at i191;refine gf hx ?_ kJ;refine A3 (HI 5 r b7) (fun d S3 hr=>?_);obtain⟨hd,h1,h2⟩:=hr;cases hd;refine gz ?_ kJ;exact fin1 (U':=S3) ⟨R1,b9.trans h2,by rw[aG h0];exact⟨rfl,h1⟩⟩
 ·rw[aE h0]at i191;have h3:v.kind=3:=bN fun h=>h0 (by unfold Ap;rw[aE h];omega)
  obtain⟨n,k,e1,e2,b8,eV,e3,i3,c3,cs3,L3,i,q,cs,L,f3,z3,y2,hi,hL,x1,x2,x3⟩:=RZ (x:=x.a) b7 hv ho (by simp only;omega) h3;have e4:Ap (A0 p) s.j3 v x.a=k:=e2
  have e5:((BG s.j3 v.n).ac[(Ap (A0 p) s.j3 v x.a).toNat]?).getD vZ=(s.j3[n]'b8).ac[k]'eV:=by
   rw[e4,show BG s.j3 v.n=s.j3[n]'b8 from e3,bF,aD eV];rfl
  rw[e4]at i191;have q1:=b7.obj;unfold Aw at q1;rw[f3]at q1;simp only[Cz]at q1;refine gf hx ?_ (ji 7 kJ);refine CH (id:=7) (List.range 14) [] S1 (Sub.refl _) ?_;refine gf (gi q1 (gi e1 (gi z3 (gi y2 (gi x1 (gi x2 x3)))))) ?_ kJ;refine A3 (C7 ((s.j3[n]'b8).ac[k]'eV) b7 (by simp;omega)) (fun d S3 hr=>?_);obtain⟨hd,R3,d5,d6⟩:=hr;cases hd;refine gz ?_ kJ;exact fin1 (U':=S3) ⟨R3,b9.trans d6,by rw[aE h0,e5];exact⟨rfl,d5⟩⟩
end
section
variable {ir:Nat}{p:aw}{c:jD}{R:Nat->RW}{s:GoS}{O:Sig}
theorem jR.retop{Q:Bool->Sig->Prop}(x:jI)(hx:x.op=5\/x.op=6\/x.op=7\/x.op=14\/x.op=16\/x.op=17\/x.op=21)(h:ar prog 192 [.ptr ir 0,.agg (cIns x)] O fun y U'=> ∃b,y=.ret (.bool b)/\Q b U'):ar prog 126 [.ptr ir 0,.agg (cIns x)] O fun y U'=> ∃b,y=.ret (.bool b)/\Q b U':=by
 refine en func126 ntmps126 ?_;rcases hx with hx|hx|hx|hx|hx|hx|hx
 all_goals
  refine gf hx ?_ jl;refine A3 h (fun d S1 hr=>?_) (fun d S1 hr=>by obtain⟨_,h,_⟩:=hr;cases h);obtain⟨b,hd,hr⟩:=hr;cases hd;refine gz ?_ jl;exact fin1 (U':=S1) ⟨b,rfl,hr⟩
theorem Xj(x:jI)(hx:x.op=1)(hR:jR ir p c R s O)(hn:s.jA.length<=1000000):ar prog 126 [.ptr ir 0,.agg (cIns x)] O fun r U'=>r=.ret (.bool false) /\ ∃R',jR ir p c R' { s with jA:=s.jA++[jZ x.a] } U'/\jV ir R O R' U':=by
 refine en func126 ntmps126 ?_;refine gf hx ?_ jl;refine A3 (C7 (jZ x.a) hR hn) (fun d S1 hr=>?_);obtain⟨hd,hr⟩:=hr;cases hd;refine gz ?_ jl;exact fin1 (U':=S1) ⟨rfl,hr⟩
theorem Uw(x:jI)(hx:x.op=2)(hR:jR ir p c R s O)(hn:s.jA.length<=1000000):ar prog 126 [.ptr ir 0,.agg (cIns x)] O fun r U'=>r=.ret (.bool false) /\ ∃R',jR ir p c R' { s with jA:=s.jA++[DS] } U'/\jV ir R O R' U':=by
 refine en func126 ntmps126 ?_;refine gf hx ?_ jl;refine A3 (C7 DS hR hn) (fun d S1 hr=>?_);obtain⟨hd,hr⟩:=hr;cases hd;refine gz ?_ jl;exact fin1 (U':=S1) ⟨rfl,hr⟩
theorem Uy(x:jI)(hx:x.op=3)(n:Nat)(fJ:x.a=n)(hn:n<s.j7.length)(hR:jR ir p c R s O)(hs:s.jA.length<=1000000)(f0:s.j7.length<=1000000):ar prog 126 [.ptr ir 0,.agg (cIns x)] O fun y U'=>y=.ret (.bool false) /\ ∃R',jR ir p c R' { s with jA:=s.jA++[s.j7[n]] } U'/\jV ir R O R' U':=by
 have q1:=hR.obj;have q0:jN O 2 (R 1) (s.j7.map j5):=hR.rows.ok 1;obtain⟨i,q,cs,h0,L,z1,z2,z3⟩:=rowV q0 (fun e=>by rw[e]at q0;have:s.j7.map j5=[]:=q0;simp at this;rw[this]at hn;simp at hn) (hR.nf 1) hn;unfold Aw at q1;rw[h0]at q1;simp only[Cz]at q1;refine en func126 ntmps126 ?_;refine gf hx ?_ (ji 8 jl);refine CH (id:=8) [0,1,2,3,4,5,6,7,8,9] [] O (Sub.refl _) ?_;refine gf (gi q1 (gi fJ (gi z1 (gi z2 z3)))) ?_ jl;refine A3 (C7 s.j7[n] hR hs) (fun d S1 hr=>?_);obtain⟨hd,hr⟩:=hr;cases hd;refine gz ?_ jl;exact fin1 (U':=S1) ⟨rfl,hr⟩
theorem Uz(x:jI)(hx:x.op=18)(hR:jR ir p c R s O):ar prog 126 [.ptr ir 0,.agg (cIns x)] O fun y U'=>y=.ret (.bool false) /\ ∃R',jR ir p c R' { s with pos:=x.a } U'/\jV ir R O R' U':=by
 have q1:=hR.obj;refine en func126 ntmps126 ?_;refine gf (gi hx q1) ?_ jl;obtain⟨p1,p2⟩:=hR.at x.a rfl;exact fin1 (U':=_) ⟨rfl,_,p1,p2⟩
theorem Ux(x:jI)(hx:x.op=20)(hR:jR ir p c R s O):ar prog 126 [.ptr ir 0,.agg (cIns x)] O fun y U'=>y=.ret (.bool true)/\kq ir p c R s .aj false ⟨3,vZ,0,[],0,s.pos,s.jA,s.j7,s.j3,s.jW⟩ U'/\jV ir R O R U':=by
 have q1:=hR.obj;obtain⟨p1,p2⟩:=hR.halt (av:=.aj) (b:=false) (k:=⟨3,vZ,0,[],0,s.pos,s.jA,s.j7,s.j3,s.jW⟩) rfl (Ak _ (.inl rfl)) rfl rfl (by rw[aG j1];exact⟨rfl,rfl,rfl⟩);refine en func126 ntmps126 ?_;refine gf hx ?_ jl;refine A3 (F6 (p:=p) (c:=c) 3 0 ([dI 0,dI 0,dI 0,.aj,dI 0,dI 0,.aj,.aj,(R 3).d s.j3.length,(R 2).d s.jW.length,dI s.pos,(R 0).d s.jA.length,(R 1).d s.j7.length]) q1) (fun d S1 hr=>?_);obtain⟨hd,rfl⟩:=hr;cases hd;refine gz ?_ jl;exact fin1 (U':=_) ⟨rfl,p1,p2⟩
theorem UA(x:jI)(hx:x.op=15)(r:List jH)(v:jH)(hR:jR ir p c R s O)(hs:s.j7=r++[v])(hn:s.j7.length<=1000000):ar prog 126 [.ptr ir 0,.agg (cIns x)] O fun y U'=>y=.ret (.bool false) /\ ∃R',jR ir p c R' { s with j7:=r } U'/\jV ir R O R' U':=by
 have q1:=hR.obj;obtain⟨i,q,cs,h0⟩:=hR.row 1 (by rw[rCt,hs];simp);have q0:jN O 2 (R 1) (s.j7.map j5):=hR.rows.ok 1;rw[h0,hs]at q0;have hl:s.j7.length=r.length+1:=by rw[hs];simp
 unfold Aw at q1;rw[h0,hl]at q1;simp only[Cz]at q1;obtain⟨z1,z2,z3,z4⟩:=q0;have hr:jN O 2 (.row i q (j5 v++cs)) (r.map j5):=⟨by rw[z1];simp,by rw[<-aO];simpa using z2,by simp only[aN,aC,aT]at z3⊢; omega,Az⟩;simp only[aN,aC,aT]at z3;refine en func126 ntmps126 ?_;refine gf hx ?_ (ji 15 jl);refine CH (id:=15) (List.range 17) [] O (Sub.refl _) ?_;refine gf q1 ?_ jl;refine Om jB (i:=i) (off:=0) (len:=r.length+1) (cap:=q) (hi:=r.length) (e:=40) (k:=.i64) ?_ (by decide) (by simp<;>rfl) j1 tdR tdR j0;refine gf q1 ?_ jl;obtain⟨p1,p2⟩:=hR.re (a:=1) (s':={ s with j7:=r }) hr (by rw[h0];exact fun j h=>h) (W5 R _ s _) rfl;exact fin1 (U':=_) ⟨rfl,_,p1,p2⟩
theorem UB(x:jI)(k m:Int)(hm:(k=9/\m=12)\/(k=10/\m=13)\/(k=11/\m=14)\/(k=12/\m=15)\/(k=13/\m=16))(hx:x.op=k)(r:List jH)(v w:jH)(hR:jR ir p c R s O)(hs:s.jA=r++[v,w])(hn:s.jA.length<=1000000)(hv : -1000000000<=Ah v/\Ah v<=1000000000)(hw : -1000000000<=Ah w/\Ah w<=1000000000):ar prog 126 [.ptr ir 0,.agg (cIns x)] O fun y U'=>y=.ret (.bool false) /\ ∃R',jR ir p c R' { s with jA:=r++[Ec x.op v w] } U'/\jV ir R O R' U':=by
 have hl:s.jA.length=r.length+2:=by rw[hs];simp
 have i143:∀O,Ans 143 [dI m,.agg (j5 v),.agg (j5 w)] O True (.agg (j5 (Ec k v w))):=fun O=>ah0 (Ut k m v w O j0 j0 hv hw);rcases hm with⟨rfl,rfl⟩|⟨rfl,rfl⟩|⟨rfl,rfl⟩|⟨rfl,rfl⟩|⟨rfl,rfl⟩
 all_goals
  rw[hx];refine en func126 ntmps126 ?_;refine gf hx ?_ jl [10,11];refine A3 (CI (r++[v]) w hR (by rw[hs];simp) hn) (fun d S1 hr=>?_);obtain⟨hd,R1,b7,b9⟩:=hr;cases hd;refine gz ?_ jl [10,11];refine A3 (CI r v b7 rfl (by simp;omega)) (fun d S2 hr=>?_);obtain⟨hd,R2,fU,fW⟩:=hr;cases hd;refine je (fun i10 fA=>?_);refine je (fun i11 fe=>?_);obtain⟨n11,fe⟩:=B2 fe;have n12:=n11.symm;refine gf (gi hx (gi n11 n12)) ?_ jl [10,11];refine drp S2 ?_ (fun j o hj=>by have a:=AF hj fA;have b:=AF hj fe;simp only[w7 _ _ a,w7 _ _ b];exact hj);refine A3 (C7 _ fU (by simp;omega)) (fun d S3 hr=>?_);obtain⟨hd,R3,d5,d6⟩:=hr;cases hd;refine gz ?_ jl [10,11];exact fin1 (U':=S3) ⟨rfl,R3,d5,(b9.trans fW).trans d6⟩
end
def jR.newO{ir:Nat}{p:aw}{c:jD}{R:Nat->RW}{s:GoS}{O:Sig}(h:jR ir p c R s O){i:Nat}(hi:O i=none)(o:jP):jR ir p c R s (O.set i o):=by
 have hn:∀j x,O j=some x->j≠i:=fun j x hj e=>by rw[e,hi]at hj;cases hj
 exact⟨j2 (hn _ _ h.obj) h.obj,h.rows.keep fun j x hj _=>by rw[w7 _ _ (hn j x hj)];exact hj,h.ni,h.nf⟩
def jV.newO{ir:Nat}{R:Nat->RW}{O:Sig}{i:Nat}(hi:O i=none)(o:jP):jV ir R O R (O.set i o):=fun j x hj _ hn=>⟨by rw[w7 _ _ fun e=>by rw[e,hi]at hj;cases hj];exact hj,hn⟩
section
variable {ir:Nat}{p:aw}{c:jD}{R:Nat->RW}{s:GoS}{O:Sig}
theorem jR.slot(h:jR ir p c R s O){n k:Nat}(hn:n<s.j3.length)(hk:k<(s.j3[n]).ac.length){i q:Nat}{cs:eO}(hi:R (n+4)=.row i q cs)(v:jH){L:eO}(hL:L=((s.j3[n]).ac.map j5).flatten++cs):
  jR ir p c R { s with j3:=s.j3.set n ⟨(s.j3[n]).jM,(s.j3[n]).ac.set k v⟩ } (O.set i (.cells (L.take (k*2)++j5 v++L.drop (k*2+2))))/\jV ir R O R (O.set i (.cells (L.take (k*2)++j5 v++L.drop (k*2+2)))):=by
 subst hL;rw[LG _ k hk v cs];have fh:(R (n+4)).is i:=by rw[hi];rfl
 have fm:ir≠i:=fun e=>h.ni (n+4) (e ▸ fh);have fk:rCt R s (n+4)=(s.j3[n]).ac.map j5:=by show(((s.j3[n]?).getD ⟨0,[]⟩).ac.map j5)=_;rw[aD hn];rfl
 have q9:=h.rows.ok (n+4);rw[hi,fk]at q9;obtain⟨z1,z2,z3,z4⟩:=q9;refine⟨⟨?_,⟨fun a=>?_,h.rows.dj⟩,h.ni,h.nf⟩,fun j o hj _ fE=>⟨by rw[w7 _ _ fun e=>fE (n+4) (by rw[e];exact fh)];exact hj,fE⟩⟩
 ·rw[w7 _ _ fm,h.obj];simp[Aw]
 ·by_cases ea:a=n+4
  ·subst ea
   have e:rCt R { s with j3:=s.j3.set n ⟨(s.j3[n]).jM,(s.j3[n]).ac.set k v⟩ } (n+4)=((s.j3[n]).ac.set k v).map j5:=by
    show((((s.j3.set n _)[n]?).getD ⟨0,[]⟩).ac.map j5)=_;rw[List.getElem?_set_self hn];rfl
   rw[hi,e];refine⟨by rw[w6],?_,by simpa using z3,Az⟩;have a1:=Dr (s.j3[n]).ac cs;have a2:=Dr ((s.j3[n]).ac.set k v) cs;rw[bP]at a2;exact le_of_le_of_eq z2 (a1.trans a2.symm)
  ·have e:rCt R { s with j3:=s.j3.set n ⟨(s.j3[n]).jM,(s.j3[n]).ac.set k v⟩ } a=rCt R s a:=by
    match a with
    |0=>rfl
    |1=>rfl
    |2=>rfl
    |3=>exact KA _ _ n hn _ rfl j1
    |m+4=>
     show((((s.j3.set n _)[m]?).getD ⟨0,[]⟩).ac.map j5)=((((s.j3)[m]?).getD ⟨0,[]⟩).ac.map j5);rw[List.getElem?_set_ne j0]
   rw[e];exact(h.rows.ok a).keep fun j o hj fP=>by rw[w7 _ _ fun e2=>ea (h.rows.dj a (n+4) j fP (by rw[e2];exact fh))];exact hj
theorem sub_re2{O:Sig}{a b:Nat}{x y x' y':jP}(h:a≠b):Sub ((O.set a x').set b y') ((((O.set a x).set b y).set a x').set b y'):=fun j o hj=>by
 by_cases e:j=b
 ·subst e;rw[w6]at*; exact hj
 ·by_cases e2:j=a
  ·subst e2;rw[w7 _ _ e,w6]at*; exact hj
  ·simp only[w7 _ _ e,w7 _ _ e2]at*; exact hj
theorem Xh(x:jI)(hx:x.op=8)(r:List jH)(w v:jH)(hp:p.wt<=1073741824)(hk:okP p=true)(hR:jR ir p c R s O)(hs:s.jA=r++[w,v])(hn:s.jA.length<=1000000)(hv:okV s.j3.length w=true)(ho:AI (A0 p) s.j3=true):ar prog 126 [.ptr ir 0,.agg (cIns x)] O fun y U'=> ∃R',jV ir R O R' U' /\
  if Ap (A0 p) s.j3 w x.a<0 then y=.ret (.bool true)/\kq ir p c R' { s with jA:=r } .aj false (Dv s 5 (r++[w])) U' else
   y=.ret (.bool false)/\jR ir p c R' { s with j3:=setObj s.j3 w.n ⟨(BG s.j3 w.n).jM,(BG s.j3 w.n).ac.set (Ap (A0 p) s.j3 w x.a).toNat v⟩,jA:=r++[v] } U':=by
 have hl:s.jA.length=r.length+2:=by rw[hs];simp
 refine en func126 ntmps126 ?_;refine gf hx ?_ jl [6,7];refine A3 (CI (r++[w]) v hR (by rw[hs];simp) hn) (fun d S0 hr=>?_);obtain⟨hd,R0,fV,fH⟩:=hr;cases hd;refine gz ?_ jl [6,7];refine A3 (CI r w fV rfl (by simp;omega)) (fun d S1 hr=>?_);obtain⟨hd,R1,b7,b9⟩:=hr;cases hd;refine je (fun i6 fy=>?_);refine je (fun i7 fj=>?_);obtain⟨n76,fi⟩:=B2 fj;have n67:=n76.symm;refine gf (gi n76 n67) ?_ jl [6,7];have p6:=jR.newO b7 fy (.cells (j5 v));have i7n:(S1.set i6 (.cells (j5 v))) i7=none:=by rw[w7 _ _ n76];exact fi
 have p7:=jR.newO p6 i7n (.cells (j5 w));have k7:jV ir R1 S1 R1 ((S1.set i6 (.cells (j5 v))).set i7 (.cells (j5 w))):=(jV.newO fy _).trans (jV.newO i7n _);have o6:((S1.set i6 (.cells (j5 v))).set i7 (.cells (j5 w))) i6=some (.cells (j5 v)):=by rw[w7 _ _ n67,w6]
 have o7:((S1.set i6 (.cells (j5 v))).set i7 (.cells (j5 w))) i7=some (.cells (j5 w)):=w6 ..;refine drp ((S1.set i6 (.cells (j5 v))).set i7 (.cells (j5 w))) ?_ (by exact sub_re2 n67)
 have eW:∀a, ¬(R1 a).is i6:=fun a ha=>by
  obtain⟨z,hz⟩:=(b7.rows.ok a).cells ha;rw[fy]at hz;cases hz
 generalize (S1.set i6 (.cells (j5 v))).set i7 (.cells (j5 w))=S2 at*;have i191:Ans 191 [.ptr ir 0,.agg (j5 w),dI x.a] S2 True (if Ap (A0 p) s.j3 w x.a<0 then .tup [dI 0,.bool false] else .tup [dI (Ap (A0 p) s.j3 w x.a),.bool true]):=by have h:=Nm w x.a hp hk p7 hv ho;exact ah0 h
 by_cases h0:Ap (A0 p) s.j3 w x.a<0
 ·rw[aG h0]at i191;refine gf o7 ?_ jl [6,7];refine A3 (HI 5 (r++[w]) p7) (fun d S3 hr=>?_);obtain⟨hd,h1,h2⟩:=hr;cases hd;refine gz ?_ jl [6,7];exact fin1 (U':=S3) ⟨R1,((fH.trans b9).trans k7).trans h2,by rw[aG h0];exact⟨rfl,h1⟩⟩
 ·rw[aE h0]at i191;have h3:w.kind=3:=bN fun h=>h0 (by unfold Ap;rw[aE h];omega)
  obtain⟨n,k,e1,e2,b8,eV,e3,i3,c3,cs3,L3,i,q,cs,L,f3,z3,y2,hi,hL,x1,x2,x3⟩:=RZ (x:=x.a) p7 hv ho (by simp only;omega) h3;have e4:Ap (A0 p) s.j3 w x.a=k:=e2
  have e5:setObj s.j3 w.n ⟨(BG s.j3 w.n).jM,(BG s.j3 w.n).ac.set (Ap (A0 p) s.j3 w x.a).toNat v⟩=s.j3.set n ⟨(s.j3[n]'b8).jM,(s.j3[n]'b8).ac.set k v⟩:=by
   unfold setObj;rw[e4,show BG s.j3 w.n=s.j3[n]'b8 from e3,e1];rfl
  rw[e4]at i191;obtain⟨p1,p2⟩:=p7.slot b8 eV hi v hL;have hf:¬L.length<k*2+2:=by omega
  have fh:(R1 (n+4)).is i:=by rw[hi];rfl
  have n6i:i6≠i:=fun e=>eW (n+4) (by rw[e];exact fh)
  rw[aO]at p1 p2;have q1:=p7.obj;unfold Aw at q1;rw[f3]at q1;simp only[Cz]at q1;refine gf o7 ?_ (ji 30 jl) [6,7];refine CH (id:=30) (List.range 13) [] S2 (Sub.refl _) ?_;refine gf (gi q1 (gi e1 (gi z3 (gi y2 (gi x1 (gi hf (gi o6 (gi o7 n6i)))))))) ?_ jl [6,7];refine A3 (C7 v p1 (by simp;omega)) (fun d S3 hr=>?_);obtain⟨hd,R3,d5,d6⟩:=hr;cases hd;refine gz ?_ jl [6,7];exact fin1 (U':=S3) ⟨R3,(((fH.trans b9).trans k7).trans p2).trans d6,by rw[aE j0,e5];exact⟨rfl,d5⟩⟩
end
def TC(i off cap:Nat)(new:List jH)(O:Sig)(hn:new.length<=1000000)(fa:IK prog O 2 (.am i off new.length cap) (new.map j5)):ar prog 27 [.am i off new.length cap] O (rS (.slice (new.map j5) .no) O):=by
 refine en func27 ntmps27 ?_;refine gz ?_;refine xappR (r:=.nil) (es:=[]) (new:=new.map j5) (fun r' S1 h1 h2=>?_) rfl fa (fun c hc=>by obtain⟨v,_,rfl⟩:=aZ.1 hc;rfl) Az;refine frzT 4 h1 (fun S2 h4=>?_)
 have hS:Sub O S2:=fun j o hj=>by
  obtain⟨k1,k2⟩:=h2 j o hj id;exact h4 j o k1 k2
 refine gz ?_;exact fin1 (U':=O) ⟨rfl,rfl⟩
def Nb(O:Sig):ar prog 27 [.slice [] .no] O (rS (.slice [] .no) O):=QN [] .no O j1
abbrev It(p:aw)(c:jD)(R:Nat->RW)(s:GoS)(d0:D)(k g:Int)(a:D):eO:=A7 p++cCPg c++[dI k,dI 0,dI 0,dI g,a,dI 0,dI 0,.aj,.aj,(R 3).d s.j3.length,(R 2).d s.jW.length]++[dI s.pos,d0,(R 1).d s.j7.length]
section
variable {ir:Nat}{p:aw}{c:jD}{R:Nat->RW}{s:GoS}{O:Sig}
theorem UC(x:jI)(fq:x.op=19)(r args:List jH)(k:Nat)(hp:p.wt<=1073741824)(hx:x.a=k)(hk:k<p.ai.length)(hg:p.ai[k]=args.length)(hR:jR ir p c R s O)(hs:s.jA=r++args)(hn:s.jA.length<=1000000):ar prog 126 [.ptr ir 0,.agg (cIns x)] O fun y U'=>y=.ret (.bool true) /\ ∃R' av,kq ir p c R' { s with jA:=r } av false ⟨2,vZ,x.a,args,0,s.pos,r,s.j7,s.j3,s.jW⟩ U'/\jV ir R O R' U':=by
 have q1:=hR.obj;have hl:s.jA.length=r.length+args.length:=by rw[hs];simp
 have q0:jN O 2 (R 0) (s.jA.map j5):=hR.rows.ok 0;have fZ:p.ai.length<=1073741824:=by obtain⟨a1,a2,a3,a4,a5,a6,a7⟩:=p.wt_le;omega
 cases h0:R 0 with
 |nil=>
  rw[h0,hs]at q0;have q00:(r++args).map j5=[]:=q0;simp at q00;obtain⟨rfl,rfl⟩:=q00;unfold Aw at q1;rw[h0,hl]at q1;rw[show RW.nil.d (([]:List jH).length+([]:List jH).length)=.aj from rfl]at q1;refine en func126 ntmps126 ?_;refine gf (gi fq (gi q1 (gi hx hg))) ?_ (ji 22 jl);have q2:O ir=some (.cells (It p c R s .aj 0 0 .aj)):=q1;refine mixI (id:=22) (List.range 20) [11,15,19] [8] [15,19] (fun s=>s=O) rfl ?_;refine iP _ ?_;refine iP _ ?_;refine iP _ ?_;refine iP (dI x.a) ?_;refine iP _ ?_;refine iP _ ?_;refine iP _ ?_;refine iP _ ?_;refine iR .aj (fun s hs=>?_) ?_
  ·rw[hs];simp[q1]
  refine iP (dI 0) ?_;refine iP (.slice [] .no) ?_;refine iW (fun s=>s=O) (Nb O) (fun d S1 hr=>?_) (fun d S1 hr=>by cases hr.1);obtain⟨hd,rfl⟩:=hr;cases hd;refine⟨rfl,?_⟩;refine iP _ ?_;refine iP _ ?_;refine iP (.ptr ir 12) ?_;refine iS (d:=.any) (U':=S1.set ir (.cells (It p c R s .aj 0 x.a .aj))) (fun _=>True) trivial ?_ (he:=by simp[q2]);refine iP _ ?_;refine iP _ ?_;refine iP (.ptr ir 13) ?_;refine iS (d:=.any) (U':=S1.set ir (.cells (It p c R s .aj 0 x.a (.slice [] .no)))) (fun _=>True) trivial ?_ (he:=by simp);refine iN ?_
  repeat ((fail_if_success refine cutN ?_);(refine go1 trivial ?_))
  refine cutN ?_;refine gz ?_ jl;have fb:s.jA=[]:=hs;obtain⟨p3,p4⟩:=hR.halt (av:=.slice [] .no) (b:=false) (k:=⟨2,vZ,x.a,[],0,s.pos,[],s.j7,s.j3,s.jW⟩) rfl (Ac _) rfl rfl (by rw[aG j1];exact⟨rfl,fb.symm,rfl⟩);refine A3 (F6 (p:=p) (c:=c) 2 0 ([dI 0,dI 0,dI x.a,.slice [] .no,dI 0,dI 0,.aj,.aj,(R 3).d s.j3.length,(R 2).d s.jW.length,dI s.pos,.aj,(R 1).d s.j7.length]) (w6 ..)) (fun d S2 hr=>?_);obtain⟨hd,rfl⟩:=hr;cases hd;simp only[w8];refine gz ?_ jl;have es:s={ s with jA:=[] }:=by rw[<-fb]
  rw[<-es];refine fin1 (U':=_) ⟨rfl,_,_,p3,p4⟩ (hZ:=?_);unfold I0;rw[h0,fb];exact Sub.refl _
 |full es=>
  obtain rfl:=hR.nf 0 es h0;rw[h0,hs]at q0;have q00:(r++args).map j5=[]:=q0.1;simp at q00;obtain⟨rfl,rfl⟩:=q00;unfold Aw at q1;rw[h0,hl]at q1;rw[show(RW.full []).d (([]:List jH).length+([]:List jH).length)=(.slice [] .clip) from rfl]at q1;refine en func126 ntmps126 ?_;refine gf (gi fq (gi q1 (gi hx hg))) ?_ (ji 22 jl);have q2:O ir=some (.cells (It p c R s (.slice [] .clip) 0 0 .aj)):=q1;refine mixI (id:=22) (List.range 20) [11,15,19] [8] [15,19] (fun s=>s=O) rfl ?_;refine iP _ ?_;refine iP _ ?_;refine iP _ ?_;refine iP (dI x.a) ?_;refine iP _ ?_;refine iP _ ?_;refine iP _ ?_;refine iP _ ?_;refine iR (.slice [] .clip) (fun s hs=>?_) ?_
  ·rw[hs];simp[q1]
  refine iP (dI 0) ?_;refine iP (.slice [] .no) ?_;refine iW (fun s=>s=O) (Nb O) (fun d S1 hr=>?_) (fun d S1 hr=>by cases hr.1);obtain⟨hd,rfl⟩:=hr;cases hd;refine⟨rfl,?_⟩;refine iP _ ?_;refine iP _ ?_;refine iP (.ptr ir 12) ?_;refine iS (d:=.any) (U':=S1.set ir (.cells (It p c R s (.slice [] .clip) 0 x.a .aj))) (fun _=>True) trivial ?_ (he:=by simp[q2]);refine iP _ ?_;refine iP _ ?_;refine iP (.ptr ir 13) ?_;refine iS (d:=.any) (U':=S1.set ir (.cells (It p c R s (.slice [] .clip) 0 x.a (.slice [] .no)))) (fun _=>True) trivial ?_ (he:=by simp);refine iN ?_
  repeat ((fail_if_success refine cutF ?_);(refine go1 trivial ?_))
  refine cutF ?_;refine gz ?_ jl;have fb:s.jA=[]:=hs;obtain⟨p3,p4⟩:=hR.halt (av:=.slice [] .no) (b:=false) (k:=⟨2,vZ,x.a,[],0,s.pos,[],s.j7,s.j3,s.jW⟩) rfl (Ac _) rfl rfl (by rw[aG j1];exact⟨rfl,fb.symm,rfl⟩);refine A3 (F6 (p:=p) (c:=c) 2 0 ([dI 0,dI 0,dI x.a,.slice [] .no,dI 0,dI 0,.aj,.aj,(R 3).d s.j3.length,(R 2).d s.jW.length,dI s.pos,(.slice [] .clip),(R 1).d s.j7.length]) (w6 ..)) (fun d S2 hr=>?_);obtain⟨hd,rfl⟩:=hr;cases hd;simp only[w8];refine gz ?_ jl;have es:s={ s with jA:=[] }:=by rw[<-fb]
  rw[<-es];refine fin1 (U':=_) ⟨rfl,_,_,p3,p4⟩ (hZ:=?_);unfold I0;rw[h0,fb];exact Sub.refl _
 | row i q cs =>
  rw[h0,hs]at q0;unfold Aw at q1;rw[h0,hl]at q1;simp only[Cz]at q1;obtain⟨z1,z2,z3,z4⟩:=q0;simp only[aN,aC]at z3;refine en func126 ntmps126 ?_;refine gf (gi fq (gi q1 (gi hx hg))) ?_ (ji 22 jl);refine mixI (id:=22) (List.range 20) [10,11,15,19] [8] [15,19] (fun s=>s=O) rfl ?_;refine iP _ ?_;refine iP _ ?_;refine iP _ ?_;refine iP (dI x.a) ?_;refine iP _ ?_;refine iP _ ?_;refine iP _ ?_;refine iP _ ?_;refine iR (.am i 0 (r.length+args.length) q) (fun s hs=>?_) ?_
  ·rw[hs];simp[q1]
  refine iP (dI r.length) ?_;refine iCutL (lo:=r.length) (len:=r.length+args.length) (cap:=q) (i:=i) (off:=0) (fun off' ho=>?_) rfl j0 z3;rw[Nat.add_sub_cancel_left]
  have fa:IK prog O 2 (.am i off' args.length (q-r.length)) (args.map j5):=by
   have e:args.length=(args.map j5).length:=by simp
   rcases ho with⟨rfl,rfl⟩|⟨h1,h2⟩
   ·obtain rfl:args=[]:=bf.1 j0;exact I3 (pre:=[]) (es:=[]) (rest:=((List.map j5 (r++[])).flatten++cs)) (by simpa using z1) rfl j1 j1
   ·rw[e];refine I3 (pre:=(r.map j5).flatten) (rest:=cs) (by rw[z1];simp) (by rw[Aj Az,aN,h2];simp) Az (by simp;omega)
  refine iW (fun s=>s=O) (TC i off' (q-r.length) args O j0 fa) (fun d S1 hr=>?_) (fun d S1 hr=>by cases hr.1);obtain⟨hd,rfl⟩:=hr;cases hd;refine⟨rfl,?_⟩;refine iP _ ?_;refine iP _ ?_;refine iP (.ptr ir 12) ?_;refine iS (d:=.any) (U':=S1.set ir (.cells (It p c R s (.am i 0 (r.length+args.length) q) 0 x.a .aj))) (fun _=>True) trivial ?_ (he:=by simp[q1]);refine iP _ ?_;refine iP _ ?_;refine iP (.ptr ir 13) ?_;refine iS (d:=.any) (U':=S1.set ir (.cells (It p c R s (.am i 0 (r.length+args.length) q) 0 x.a (.slice (args.map j5) .no)))) (fun _=>True) trivial ?_ (he:=by simp);refine iN ?_;refine gz ?_ jl;refine cutH (i:=i) (off:=0) (len:=r.length+args.length) (cap:=q) (hi:=r.length) ?_ j0;refine gz ?_ jl;have hr:jN S1 2 (.row i q ((args.map j5).flatten++cs)) (r.map j5):=⟨by rw[z1];simp,by rw[<-aO];simpa using z2,by simp;omega,Az⟩;obtain⟨p1,p2⟩:=hR.re (a:=0) (s':={ s with jA:=r }) hr (by rw[h0];exact fun j h=>h) (Qm R _ s _) rfl;obtain⟨p3,p4⟩:=p1.halt (av:=.slice (args.map j5) .no) (b:=false) (k:=⟨2,vZ,x.a,args,0,s.pos,r,s.j7,s.j3,s.jW⟩) rfl (Ac _) rfl rfl (by rw[aG j1];exact⟨rfl,rfl,rfl⟩)
  refine A3 (F6 (p:=p) (c:=c) 2 0 ([dI 0,dI 0,dI x.a,.slice (args.map j5) .no,dI 0,dI 0,.aj,.aj,(R 3).d s.j3.length,(R 2).d s.jW.length,dI s.pos,.am i 0 r.length q,(R 1).d s.j7.length]) (w6 ..)) (fun d S2 hr=>?_);obtain⟨hd,rfl⟩:=hr;cases hd;simp only[w8];refine gz ?_ jl;refine fin1 (U':=_) ⟨rfl,_,_,p3,p2.trans p4⟩ (hZ:=?_);simp only[w8];exact Sub.refl _
end
def X5(l:List jF)(o:Own)(O:Sig)(hl:l.length<=1000000)(hs:∀x∈l,x.ac.length<=1000000):ar prog 22 [.slice (l.map cTh) o] O fun x U'=> ∃R,x=.ret ((R 3).d l.length)/\ThS R l O U':=by
 refine en func22 ntmps22 ?_;refine gz ?_ o22;refine F1 [0,2,26] (fun (k:Nat) (R:Nat->RW) (S2:Sig)=>k<=l.length/\ThS R (l.take k) O S2/\(k=0/\R 3=.nil \/ ∃i c cs,R 3=.row i c cs)) (fun k R _=>[(4,dI k),(3,(R 3).d k)]) (fun _ _ S2=>S2) (fun k _ _=>l.length-k) (0) (fun _=>.nil) (O) (by exact⟨cE _,ThS.nil O,.inl ⟨rfl,rfl⟩⟩) (fun k R S2 hI=>?_);obtain⟨fK,hT,fB⟩:=hI
 by_cases hk:k<l.length
 ·have hx:l[k]? = some l[k]:=aD hk;refine gz ?_;refine CH (id:=5) (List.range 15) [11,14] (fun _=>none) (fun _ _ h=>by cases h) ?_;refine gf hx ?_ o22;refine AX (JQ (l[k]).ac .no S2 (hs _ (aK hk))) (fun d S3 hr=>?_) (fun d S3 hr=>by obtain⟨_,h,_⟩:=hr;cases h);obtain⟨r,hd,hF⟩:=hr;cases hd;refine⟨(fun _ _ h=>by cases h),?_⟩;have b6:(jC (fun k=>R (k+4)) (l.take k)).length=k:=by rw[A4];simp;omega
  rcases r with _|es|⟨j,c',cs'⟩
  ·refine gz ?_ o22;refine Dl (new:=[[dI (l[k]).jM,D.aj]]) (es:=jC (fun k=>R (k+4)) (l.take k)) (fun i c cs S4 d7 d8=>?_) (fun _ _ h=>by cases h) (hm:=hT.row3.keep fun j o hj fo=>(hF.2.1 j o hj id).1) (h1:=by rw[b6];with_unfolding_all rfl) (hb:=by rw[b6];simp;omega) (hm2:=by rw[b6];simp;omega);have eZ:=hT.add hF d7 d8;rw[<-aU hk]at eZ;rw[show(jC (fun k=>R (k+4)) (l.take k)).length+[[dI (l[k]).jM,D.aj]].length=k+1 by rw[b6];rfl];refine gz ?_ o22;exact⟨k+1,jK (jK R ((l.take k).length+4) (.nil)) 3 (.row i c cs),S4,⟨j0,eZ,.inr ⟨_,_,_,Ab ..⟩⟩,td1,wkR⟩
  ·refine gz ?_ o22;refine Dl (new:=[[dI (l[k]).jM,D.slice es .clip]]) (es:=jC (fun k=>R (k+4)) (l.take k)) (fun i c cs S4 d7 d8=>?_) (fun _ _ h=>by cases h) (hm:=hT.row3.keep fun j o hj fo=>(hF.2.1 j o hj id).1) (h1:=by rw[b6];with_unfolding_all rfl) (hb:=by rw[b6];simp;omega) (hm2:=by rw[b6];simp;omega);have eZ:=hT.add hF d7 d8;rw[<-aU hk]at eZ;rw[show(jC (fun k=>R (k+4)) (l.take k)).length+[[dI (l[k]).jM,D.slice es .clip]].length=k+1 by rw[b6];rfl];refine gz ?_ o22;exact⟨k+1,jK (jK R ((l.take k).length+4) (.full es)) 3 (.row i c cs),S4,⟨j0,eZ,.inr ⟨_,_,_,Ab ..⟩⟩,td1,wkR⟩
  ·refine gz ?_ o22;refine Dl (new:=[[dI (l[k]).jM,D.am j 0 (l[k]).ac.length c']]) (es:=jC (fun k=>R (k+4)) (l.take k)) (fun i c cs S4 d7 d8=>?_) (fun _ _ h=>by cases h) (hm:=hT.row3.keep fun j o hj fo=>(hF.2.1 j o hj id).1) (h1:=by rw[b6];with_unfolding_all rfl) (hb:=by rw[b6];simp;omega) (hm2:=by rw[b6];simp;omega);have eZ:=hT.add hF d7 d8;rw[<-aU hk]at eZ;rw[show(jC (fun k=>R (k+4)) (l.take k)).length+[[dI (l[k]).jM,D.am j 0 (l[k]).ac.length c']].length=k+1 by rw[b6];rfl];refine gz ?_ o22;exact⟨k+1,jK (jK R ((l.take k).length+4) (RW.row j c' cs')) 3 (.row i c cs),S4,⟨j0,eZ,.inr ⟨_,_,_,Ab ..⟩⟩,td1,wkR⟩
 ·obtain rfl:k=l.length:=by omega
  rw[cH]at hT;refine gz ?_ o22;refine fin1 (U':=S2) ⟨R,rfl,hT⟩ (hw:=Ac _)
def Xf(h:GoH)(O:Sig)(h1:h.args.length<=1073741824)(h2:h.jA.length<=1073741824)(h3:h.j7.length<=1073741824)(h4:h.j3.length<=1073741824)(h5:h.jW.length<=1073741824)(h6:∀x∈h.j3,x.ac.length<=1073741824)(h7:∀x∈h.jW,x.vals.length<=1073741824):ar prog 15 [.agg (Cl h),.agg (Cl h)] O (rS (.bool true) O):=by
 have i53a:∀O,Ans 53 [sl (h.args.map j5),sl (h.args.map j5)] O True (.bool true):=fun O=>ah0 (by have:=HD h.args h.args .no .no O h1 h1;rwa [be rfl]at this)
 have i53b:∀O,Ans 53 [sl (h.jA.map j5),sl (h.jA.map j5)] O True (.bool true):=fun O=>ah0 (by have:=HD h.jA h.jA .no .no O h2 h2;rwa [be rfl]at this)
 have i53c:∀O,Ans 53 [sl (h.j7.map j5),sl (h.j7.map j5)] O True (.bool true):=fun O=>ah0 (by have:=HD h.j7 h.j7 .no .no O h3 h3;rwa [be rfl]at this)
 have i54:∀O,Ans 54 [sl (h.j3.map cTh),sl (h.j3.map cTh)] O True (.bool true):=fun O=>ah0 (by have:=WU h.j3 h.j3 .no .no O h4 h4 h6 h6;rwa [be rfl]at this)
 have i55:∀O,Ans 55 [sl (h.jW.map cEv),sl (h.jW.map cEv)] O True (.bool true):=fun O=>ah0 (by have:=WT h.jW h.jW .no .no O h5 h5 h7 h7;rwa [be rfl]at this)
 unfold Cl;refine en func15 ntmps15 ?_;refine gz ?_;refine neqS _ (decide (h.val=h.val)) Lj KZ (QX h.val h.val) ?_;refine gz ?_;refine fin1 (U':=O) ⟨rfl,rfl⟩
def WW(lv:List jO)(pos N:Int)(jA j7:List jH)(O:Sig)(hl:lv.length<=1073741824)(h1:jA.length<=1073741824)(h2:j7.length<=1073741824):ar prog 51 [.slice (lv.map jm) .no,.agg (cFr pos jA j7),dI N] O (rS (.bool (C5 lv N pos jA j7)) O):=by
 have i26s:∀O,Ans 26 [sl (jA.map j5),dI N] O True (.bool (jg N jA)):=fun O=>ah0 (M5 jA N .no O h1);have i26e:∀O,Ans 26 [sl (j7.map j5),dI N] O True (.bool (jg N j7)):=fun O=>ah0 (M5 j7 N .no O h2)
 by_cases h0:pos<0
 ·have e:C5 lv N pos jA j7=false:=by unfold C5;rw[bk j0];rfl
  rw[e];refine en func51 ntmps51 ?_;refine gz ?_ o51;refine fin1 (U':=O) ⟨rfl,rfl⟩
 obtain⟨k,rfl⟩:∃k:Nat,pos=k:=⟨pos.toNat,j0⟩
 by_cases hk:k<lv.length
 rotate_left
 ·have e:C5 lv N k jA j7=false:=by unfold C5;rw[bk j0];rfl
  rw[e];refine en func51 ntmps51 ?_;refine gz ?_ o51;refine fin1 (U':=O) ⟨rfl,rfl⟩
 have hg:lv[k]? = some lv[k]:=aD hk;have ef:C5 lv N k jA j7=(decide ((0:Int)<=k/\(k:Int)<lv.length/\(jA.length:Int)=(lv[k]).st/\(j7.length:Int)=(lv[k]).j7)&&(jg N jA&&jg N j7)):=by unfold C5;rw[bF,hg];rfl
 rw[ef];clear ef
 by_cases a1:(jA.length:Int)=(lv[k]).st
 rotate_left
 ·rw[bk j0];refine en func51 ntmps51 ?_;refine gf a1 ?_ o51;refine fin1 (U':=O) ⟨rfl,rfl⟩
 by_cases a2:(j7.length:Int)=(lv[k]).j7
 rotate_left
 ·rw[bk j0];refine en func51 ntmps51 ?_;refine gf (gi a1 a2) ?_ o51;refine fin1 (U':=O) ⟨rfl,rfl⟩
 rw[be j0,bq];cases a3:jg N jA with
 |false=>
  rw[a3]at i26s;refine en func51 ntmps51 ?_;refine gf (gi a1 a2) ?_ o51;refine fin1 (U':=O) ⟨rfl,rfl⟩
 |true=>
  rw[a3]at i26s;rw[bq];refine en func51 ntmps51 ?_;refine gf (gi a1 a2) ?_ o51;refine fin1 (U':=O) ⟨rfl,rfl⟩
def Gj(m:List (Int×Int)): ∀hs:eP, ∀x∈beginL m hs,x.slot∈hs
 |[],x,h=>by rw[beginL]at h;cases h
 | s::r,x,h=>by
  rw[beginL]at h;split at h
  ·rcases aY.1 h with rfl|h
   ·simp
   ·exact cd _ (Gj m r x h)
  ·exact cd _ (Gj m r x h)
def H5(m:List (Int×Int)): ∀hs:eP,hs.Pairwise (· < ·)->(beginL m hs).Pairwise fun a b=>a.slot≠b.slot
 |[],_=>by rw[beginL];exact .nil
 | s::r,h=>by
  obtain⟨h1,h2⟩:=List.pairwise_cons.1 h;rw[beginL];split
  ·refine List.pairwise_cons.2 ⟨fun x hx e=>?_,H5 m r h2⟩;have:=h1 _ (Gj m r x hx);have e2:s=x.slot:=e;omega
  ·exact H5 m r h2
def bgV(B:List jv)(s:Int):Nat->jH
 |0=>DS
 |k+1=>match B[k]? with
  |some i=>if i.slot=s then jZ i.n else bgV B s k
  |none=>bgV B s k
def PX{B:List jv}{s:Int}: ∀k:Nat,(∀(j:Nat) (x:jv),j<k->B[j]? = some x->x.slot≠s)->bgV B s k=DS
 |0,_=>rfl
 | k+1,h=>by
  have ih:=PX k fun j x hj=>h j x j0;rw[bgV];split
  ·rename_i i e;rw[aE (h k i j0 e)];exact ih
  ·exact ih
def PW{B:List jv}{s:Int}(hu:B.Pairwise fun a b=>a.slot≠b.slot){j:Nat}{x:jv}(hx:B[j]? = some x)(hs:x.slot=s): ∀k:Nat,j<k->bgV B s k=jZ x.n
 |0,h=>absurd h j0
 | k+1,h=>by
  rw[bgV]
  by_cases e:j=k
  ·subst e;rw[hx];simp only;rw[aG hs]
  ·have ih:=PW hu hx hs k j0;split
   ·rename_i i e2;rw[aE ?_]
    ·exact ih
    ·intro h3;obtain⟨l1,g1⟩:=aV.1 hx;obtain⟨l2,g2⟩:=aV.1 e2;have:=List.pairwise_iff_getElem.1 hu j k l1 l2 j0;rw[g1,g2]at this;exact this (by rw[hs,h3])
   ·exact ih
def bgV_end{B:List jv}(hu:B.Pairwise fun a b=>a.slot≠b.slot)(s:Int):bgV B s B.length=frV B s:=by
 unfold frV;cases h:B.find? (fun i=>decide (i.slot=s))with
 |none=>
  refine PX _ fun j x _ hx e=>?_;have:=List.find?_eq_none.1 h x (cJ hx);exact this (by simpa using e)
 |some x=>
  have hs:x.slot=s:=by simpa using List.find?_some h
  obtain⟨j,hj⟩:=List.getElem?_of_mem (List.mem_of_find?_eq_some h);exact PW hu hj hs _ (aV.1 hj).1
def OI{p:aw}(h:Am p=true){c:Int}(h2:c<3+p.aa.length):(D9 p c).Pairwise fun a b=>a.slot≠b.slot:=by
 obtain⟨N,fS,_,_,_⟩:=Bw h;exact H5 _ _ (JG fS h2)
def Nw(p:aw)(c:Int)(O:Sig)(hp:p.wt<=1073741824)(hk:okP p=true)(hc:jT p c=true)(hn:(hasP p c).length<=1000000):ar prog 138 [.agg (A7 p),dI c] O fun y U'=> ∃r,y=.ret (.agg [dI c,r.d ((A0 p).fresh c).length])/\FrV O r ((A0 p).fresh c) U':=by
 have eY:=BT hk;have eU:3<=c/\c<3+p.aa.length:=by unfold jT at hc;simpa using hc
 have i215:∀O,Ans 215 [.agg (A7 p),dI c] O True (sl (cI (hasP p c))):=fun O=>ah0 (by rw[L7 eY eU.1 eU.2];exact F5 p c O hp eY eU)
 have i216:∀O,Ans 216 [.agg (A7 p),dI c] O True (sl ((D9 p c).map FB)):=fun O=>ah0 (by rw[XH eY eU.1 eU.2];exact U1 p c O hp eY eU)
 have hu:=OI eY eU.2;have f7:(D9 p c).length<=(hasP p c).length:=LB _ _;have fG:(A0 p).fresh c=(hasP p c).map (frV (D9 p c)):=rfl;rw[fG];generalize hasP p c=H at*;generalize D9 p c=B at*;clear fG;refine en func138 ntmps138 ?_;refine gz ?_ o138 [4,7,9];refine je (fun i4 fQ=>?_);refine gz ?_ o138 [4,7,9];refine je (fun i7 fj=>?_);obtain⟨n74,fi⟩:=B2 fj;have n47:=n74.symm;refine gz ?_ o138 [4,7,9];refine F1 [4,5,6,7,54] (fun (k:Nat) (r:RW) (S2:Sig)=>k<=H.length/\FrV (O.set i4 (.cells [.int .i64 0,.aj])) r ((H.take k).map (frV B)) S2/\S2 i7=some (.cells [dI c,r.d k]) /\ ¬r.is i7/\(k=0/\r=.nil \/ ∃i q cs,r=.row i q cs)) (fun k _ _=>[(8,dI k)]) (fun _ _ S2=>S2) (fun k _ _=>H.length-k) (0) (.nil) ((O.set i4 (.cells [.int .i64 0,.aj])).set i7 (.cells [dI c,.aj])) (by exact⟨cE _,⟨rfl,fun j o hj _=>⟨j2 (AF hj fj) hj,id⟩,fun es h=>by cases h⟩,w6 .., id,.inl ⟨rfl,rfl⟩⟩) (fun k r S2 hI=>?_);obtain⟨fK,hF,o7,nr7,fB⟩:=hI
 by_cases eV:k<H.length
 ·refine gz ?_ o138 [4,7,9];refine je (fun i9 fw=>?_);have n79:i7≠i9:=AF o7 fw;refine gz ?_ o138 [4,7,9];refine BO [4,5,6,7,8,9,19,20,21,22,23,24,25,48,49,50,51,52,53,54] (fun (j:Nat) (v:jH)=>j<=B.length/\v=bgV B H[k] j) (fun j _=>[(10,dI j)]) (fun _ v=>S2.set i9 (.cells (j5 v))) (fun j _=>B.length-j) (0) (DS) (by exact⟨cE _,rfl⟩) (fun j v hI=>?_);obtain⟨fX,hv⟩:=hI;have o9:(S2.set i9 (.cells (j5 v))) i9=some (.cells (j5 v)):=w6 ..
  by_cases hj:j<B.length
  ·have hb:B[j]? = some B[j]:=aD hj
   by_cases e:(B[j]).slot=H[k]
   ·have fu:jZ (B[j]).n=bgV B H[k] (j+1):=by rw[bgV,hb];simp only;rw[aG e]
    refine gf (gi e o9) ?_ o138 [4,7,9];exact⟨j+1,jZ (B[j]).n,⟨j0,fu⟩,td1,wkR⟩
   ·have fu:v=bgV B H[k] (j+1):=by rw[bgV,hb];simp only;rw[aE e];exact hv
    refine gf (gi e o9) ?_ o138 [4,7,9];exact⟨j+1,v,⟨j0,fu⟩,td1,wkR⟩
  ·have fO:j=B.length:=by omega
   subst fO;rw[bgV_end hu]at hv;have o7':(S2.set i9 (.cells (j5 v))) i7=some (.cells [dI c,r.d k]):=by rw[w7 _ _ n79];exact o7
   have fg:∀j o,(O.set i4 (.cells [.int .i64 0,.aj])) j=some o->(S2.set i9 (.cells (j5 v))) j=some o /\ ¬r.is j:=fun j o hj=>by
    obtain⟨a1,a2⟩:=hF.2.1 j o hj id;exact⟨j2 (AF a1 fw) a1,a2⟩
   have eW:jN (S2.set i9 (.cells (j5 v))) 2 r (((H.take k).map (frV B)).map j5):=hF.1.keep fun j o hj _=>by rw[w7 _ _ (AF hj fw)];exact hj
   change DWp _ _ _ _ _ ⟨_,S2.set i9 (.cells (j5 v)),_⟩;generalize S2.set i9 (.cells (j5 v))=S3 at*;have b6:(((H.take k).map (frV B)).map j5).length=k:=by simp;omega
   have fR:((H.take k).map (frV B)).map j5++[j5 v]=((H.take (k+1)).map (frV B)).map j5:=by rw[aU eV,bz,bz,hv];rfl
   have eX:∀(i q:Nat) (cs:eO) (S4:Sig),jN S4 2 (.row i q cs) (((H.take k).map (frV B)).map j5++[j5 v])->RWK S3 r S4 (.row i q cs)->FrV (O.set i4 (.cells [.int .i64 0,.aj])) (.row i q cs) ((H.take (k+1)).map (frV B)) (S4.set i7 (.cells [dI c,.am i 0 (k+1) q]))/\S4 i7=some (.cells [dI c,r.d k]) /\ ¬(RW.row i q cs).is i7:=fun i q cs S4 d7 d8=>by
    obtain⟨b1,b2⟩:=d8 _ _ o7' nr7;rw[fR]at d7;refine⟨⟨d7.keep fun j o hj fo=>by rw[w7 _ _ fun e=>b2 (by rw[<-e];exact fo)];exact hj,fun j o hj _=>?_,fun es h=>by cases h⟩,b1,b2⟩;obtain⟨a1,a2⟩:=fg j o hj;obtain⟨d1,d2⟩:=d8 j o a1 a2;exact⟨j2 (AF hj fj) d1,d2⟩
   rcases fB with⟨fM,rfl⟩|⟨i0,q0,cs0,rfl⟩
   ·refine gf (gi o7' o9) ?_ o138 [4,7,9];refine xapp (new:=[j5 v]) (es:=((H.take k).map (frV B)).map j5) (fun i q cs S4 d7 d8=>?_) eW (h1:=by rw[b6];with_unfolding_all rfl) (hb:=by rw[b6];simp;omega) (hm2:=by rw[b6];simp;omega);obtain⟨g1,g2,g3⟩:=eX i q cs S4 d7 d8;rw[show(((H.take k).map (frV B)).map j5).length+[j5 v].length=k+1 by rw[b6];rfl];refine gf g2 ?_ o138 [4,7,9];exact⟨k+1,.row i q cs,_,⟨j0,g1,w6 .., g3,.inr ⟨_,_,_,rfl⟩⟩,td1,wkR⟩
   ·refine gf (gi o7' o9) ?_ o138 [4,7,9];refine xapp (new:=[j5 v]) (es:=((H.take k).map (frV B)).map j5) (fun i q cs S4 d7 d8=>?_) eW (h1:=by rw[b6];with_unfolding_all rfl) (hb:=by rw[b6];simp;omega) (hm2:=by rw[b6];simp;omega);obtain⟨g1,g2,g3⟩:=eX i q cs S4 d7 d8;rw[show(((H.take k).map (frV B)).map j5).length+[j5 v].length=k+1 by rw[b6];rfl];refine gf g2 ?_ o138 [4,7,9];exact⟨k+1,.row i q cs,_,⟨j0,g1,w6 .., g3,.inr ⟨_,_,_,rfl⟩⟩,td1,wkR⟩
 ·have fL:k=H.length:=by omega
  subst fL;rw[cH]at hF;have o4:=(hF.2.1 i4 _ (w6 ..) id).1;have fI:=hF.set fQ;rcases fB with⟨fM,rfl⟩|⟨i0,q0,cs0,rfl⟩
  ·refine gf (gi o7 o4) ?_ o138 [4,7,9];exact jp (U':=S2.set i4 (.cells [dI c,.aj])) ⟨.nil,rfl,fI _⟩
  ·refine gf (gi o7 o4) ?_ o138 [4,7,9];exact jp (U':=S2.set i4 (.cells [dI c,.am i0 0 H.length q0])) ⟨.row i0 q0 cs0,by rw[aN],fI _⟩
section
variable {ir:Nat}{p:aw}{c:jD}{R:Nat->RW}{s:GoS}{O:Sig}
theorem jR.fresh(h:jR ir p c R s O){S1:Sig}{r:RW}{l:List jH}(hF:FrV O r l S1):S1 ir=some (.cells (Aw p c R s)) /\ ¬r.is ir/\jN S1 2 (R 3) (jC (fun k=>R (k+4)) s.j3):=
 ⟨(hF.2.1 ir _ h.obj id).1,(hF.2.1 ir _ h.obj id).2,(h.rows.ok 3).keep fun j o hj _=>(hF.2.1 j o hj id).1⟩
theorem jR.obj_add(h:jR ir p c R s O){S1 S2:Sig}{r:RW}{x:jF}(hF:FrV O r x.ac S1){i q:Nat}{cs:eO}(hr:jN S2 2 (.row i q cs) (jC (fun k=>R (k+4)) s.j3++[[dI x.jM,r.d x.ac.length]]))(hk:RWK S1 (R 3) S2 (.row i q cs)){ds:eO}
  (hd:ds=Aw p c (jK (jK R (s.j3.length+4) r) 3 (.row i q cs)) { s with j3:=s.j3++[x] }) :
  jR ir p c (jK (jK R (s.j3.length+4) r) 3 (.row i q cs)) { s with j3:=s.j3++[x] } (S2.set ir (.cells ds))/\jV ir R O (jK (jK R (s.j3.length+4) r) 3 (.row i q cs)) (S2.set ir (.cells ds)):=by
 obtain⟨f1,f2,f3⟩:=hF;have e2:rSz (s.j3.length+4)=2:=by unfold rSz;rw[aE j0]
 have u1:=h.rows.upd (a:=s.j3.length+4) (r':=r) (by rw[e2];exact f1) (fun j o hj _=>f2 j o hj id);have u2:=u1.upd (a:=3) (r':=.row i q cs) hr (by rw[A1 _ _ j0];exact hk)
 have fk:∀a,rCt (jK (jK R (s.j3.length+4) r) 3 (.row i q cs)) { s with j3:=s.j3++[x] } a=jK (jK (rCt R s) (s.j3.length+4) (x.ac.map j5)) 3 (jC (fun k=>R (k+4)) s.j3++[[dI x.jM,r.d x.ac.length]]) a:=fun a=>by
  match a with
  |0=>rw[A1 _ _ j0,A1 _ _ j0];rfl
  |1=>rw[A1 _ _ j0,A1 _ _ j0];rfl
  |2=>rw[A1 _ _ j0,A1 _ _ j0];rfl
  |3=>
   rw[Ab]
   show jC (fun k=>jK (jK R (s.j3.length+4) r) 3 (.row i q cs) (k+4)) (s.j3++[x])=_;rw[I1 (fun k=>R (k+4)) _ s.j3 x fun k hk=>by rw[A1 _ _ j0,A1 _ _ j0]];simp only[A1 (jK R (s.j3.length+4) r) (RW.row i q cs) (show s.j3.length+4≠3 by omega),Ab]
  | k+4 =>
   rw[A1 _ _ j0];show(((s.j3++[x])[k]?).getD ⟨0,[]⟩).ac.map j5=_
   by_cases e:k=s.j3.length
   ·subst e;rw[Ab];simp
   ·rw[A1 _ _ j0]
    show _=((s.j3[k]?).getD ⟨0,[]⟩).ac.map j5
    by_cases hk:k<s.j3.length
    ·rw[bj hk]
    ·rw[aX (by simp;omega),aX j0]
 have hR:=u2.retell fk;obtain⟨a1,a2⟩:=f2 ir _ h.obj id;obtain⟨b1,b2⟩:=hk ir _ a1 (h.ni 3)
 have fm:∀a, ¬(jK (jK R (s.j3.length+4) r) 3 (.row i q cs) a).is ir:=fun a ha=>by
  by_cases e3:a=3
  ·subst e3;rw[Ab]at ha;exact b2 ha
  ·rw[A1 _ _ e3]at ha
   by_cases e4:a=s.j3.length+4
   ·subst e4;rw[Ab]at ha;exact a2 ha
   ·rw[A1 _ _ e4]at ha;exact h.ni a ha
 refine⟨⟨by rw[w6,hd],hR.keep fun j o hj ⟨b,hb⟩=>by rw[w7 _ _ fun e=>fm b (by rw[<-e];exact hb)];exact hj,fm,fun a es he=>?_⟩,fun j o hj fN hn=>?_⟩
 ·by_cases e3:a=3
  ·subst e3;rw[Ab]at he;cases he
  ·rw[A1 _ _ e3]at he
   by_cases e4:a=s.j3.length+4
   ·subst e4;rw[Ab]at he;exact f3 es he
   ·rw[A1 _ _ e4]at he;exact h.nf a es he
 ·obtain⟨k3,k4⟩:=f2 j o hj id;obtain⟨k5,k6⟩:=hk j o k3 (hn 3);refine⟨j2 fN k5,fun a ha=>?_⟩
  by_cases e3:a=3
  ·subst e3;rw[Ab]at ha;exact k6 ha
  ·rw[A1 _ _ e3]at ha
   by_cases e4:a=s.j3.length+4
   ·subst e4;rw[Ab]at ha;exact k4 ha
   ·rw[A1 _ _ e4]at ha;exact hn a ha
theorem Xi(x:jI)(hx:x.op=4)(hp:p.wt<=1073741824)(hk:okP p=true)(hc:jT p x.a=true)(hn:(hasP p x.a).length<=1000000)(hR:jR ir p c R s O)(hs:s.jA.length<=1000000)(ho:s.j3.length<=1000):ar prog 126 [.ptr ir 0,.agg (cIns x)] O fun y U'=> ∃R',jV ir R O R' U' /\
  if 40<=s.j3.length then y=.ret (.bool true)/\kq ir p c R' s .aj false (Dv s 8 s.jA.dropLast) U' else y=.ret (.bool false)/\jR ir p c R' { s with j3:=s.j3++[⟨x.a,(A0 p).fresh x.a⟩],jA:=s.jA++[vObj s.j3.length] } U':=by
 have q1:=hR.obj;have q3:jN O 2 (R 3) (jC (fun k=>R (k+4)) s.j3):=hR.rows.ok 3;have fF:=OY q3 (A4 _ _) 131
 by_cases fp:40<=s.j3.length
 ·refine en func126 ntmps126 ?_;refine gf (gi hx (gi q1 fF)) ?_ jl;refine A3 (HI 8 s.jA.dropLast hR) (fun d S3 hr=>?_);obtain⟨hd,h1,h2⟩:=hr;cases hd;refine gz ?_ jl;exact fin1 (U':=S3) ⟨R,h2,by rw[aG fp];exact⟨rfl,h1⟩⟩
 ·have u1:=Dk q1 (hR.ni 3);refine en func126 ntmps126 ?_;refine gf (gi hx (gi q1 fF)) ?_ (ji 12 jl);refine CH (id:=12) (List.range 18) [12,14] (O.out (R 3).is) (CC _ _) ?_;refine gf u1 ?_ jl;refine AX (Nw p x.a O hp hk hc hn) (fun d S1 hr=>?_) (fun d S1 hr=>by obtain⟨_,h,_⟩:=hr;cases h);obtain⟨r,hd,hF⟩:=hr;cases hd;have hS:Sub O S1:=fun j o hj=>(hF.2.1 j o hj id).1;refine⟨fun j o hj=>hS j o (C2 hj).1,?_⟩;obtain⟨a1,a2,a3⟩:=hR.fresh hF;have hlen:((A0 p).fresh x.a).length<=1000000:=by show((hasP p x.a).map _).length<=_;rw[aN];exact hn
  have b6:(jC (fun k=>R (k+4)) s.j3).length=s.j3.length:=A4 _ _;rcases r with _|es|⟨i,c',cs'⟩
  ·refine gz ?_ jl;refine Dl (new:=[[dI x.a,D.aj]]) (es:=jC (fun k=>R (k+4)) s.j3) (fun i9 q cs S2 d9 c9=>?_) (fun j o h=>⟨hS j o (C2 h).1,(C2 h).2⟩) (hm:=a3) (h1:=by rw[b6];with_unfolding_all rfl) (hb:=by rw[b6];simp;omega) (hm2:=by rw[b6];simp;omega);obtain⟨v1,v2⟩:=c9 _ _ a1 (hR.ni 3);obtain⟨p1,p2⟩:=hR.obj_add (x:=⟨x.a,(A0 p).fresh x.a⟩) hF d9 c9 rfl;refine gf (gi v1 b6) ?_ jl;refine drp (S2.set ir (.cells (Aw p c (jK (jK R (s.j3.length+4) (.nil)) 3 (.row i9 q cs)) { s with j3:=s.j3++[⟨x.a,(A0 p).fresh x.a⟩] }))) ?_ (by simp[Aw,A7];exact Sub.refl _);refine A3 (C7 (vObj s.j3.length) p1 hs) (fun d S3 hr=>?_);obtain⟨hd,R3,d5,d6⟩:=hr;cases hd;refine gz ?_ jl;exact fin1 (U':=S3) ⟨R3,p2.trans d6,by rw[aE fp];exact⟨rfl,d5⟩⟩
  ·refine gz ?_ jl;refine Dl (new:=[[dI x.a,D.slice es .clip]]) (es:=jC (fun k=>R (k+4)) s.j3) (fun i9 q cs S2 d9 c9=>?_) (fun j o h=>⟨hS j o (C2 h).1,(C2 h).2⟩) (hm:=a3) (h1:=by rw[b6];with_unfolding_all rfl) (hb:=by rw[b6];simp;omega) (hm2:=by rw[b6];simp;omega);obtain⟨v1,v2⟩:=c9 _ _ a1 (hR.ni 3);obtain⟨p1,p2⟩:=hR.obj_add (x:=⟨x.a,(A0 p).fresh x.a⟩) hF d9 c9 rfl;refine gf (gi v1 b6) ?_ jl;refine drp (S2.set ir (.cells (Aw p c (jK (jK R (s.j3.length+4) (.full es)) 3 (.row i9 q cs)) { s with j3:=s.j3++[⟨x.a,(A0 p).fresh x.a⟩] }))) ?_ (by simp[Aw,A7];exact Sub.refl _);refine A3 (C7 (vObj s.j3.length) p1 hs) (fun d S3 hr=>?_);obtain⟨hd,R3,d5,d6⟩:=hr;cases hd;refine gz ?_ jl;exact fin1 (U':=S3) ⟨R3,p2.trans d6,by rw[aE fp];exact⟨rfl,d5⟩⟩
  ·refine gz ?_ jl;refine Dl (new:=[[dI x.a,D.am i 0 ((A0 p).fresh x.a).length c']]) (es:=jC (fun k=>R (k+4)) s.j3) (fun i9 q cs S2 d9 c9=>?_) (fun j o h=>⟨hS j o (C2 h).1,(C2 h).2⟩) (hm:=a3) (h1:=by rw[b6];with_unfolding_all rfl) (hb:=by rw[b6];simp;omega) (hm2:=by rw[b6];simp;omega);obtain⟨v1,v2⟩:=c9 _ _ a1 (hR.ni 3);obtain⟨p1,p2⟩:=hR.obj_add (x:=⟨x.a,(A0 p).fresh x.a⟩) hF d9 c9 rfl;refine gf (gi v1 b6) ?_ jl;refine drp (S2.set ir (.cells (Aw p c (jK (jK R (s.j3.length+4) (RW.row i c' cs')) 3 (.row i9 q cs)) { s with j3:=s.j3++[⟨x.a,(A0 p).fresh x.a⟩] }))) ?_ (by simp[Aw,A7];exact Sub.refl _);refine A3 (C7 (vObj s.j3.length) p1 hs) (fun d S3 hr=>?_);obtain⟨hd,R3,d5,d6⟩:=hr;cases hd;refine gz ?_ jl;exact fin1 (U':=S3) ⟨R3,p2.trans d6,by rw[aE fp];exact⟨rfl,d5⟩⟩
end
end Go.DL
