/- A part of the proof. -/
import Derived.Test.YtlfimpogphmbdaaGreatH21
set_option linter.all false
namespace Go.DL
open Go.Proofs.Tryz
open Go Go.Proofs
mutual
def allD(q:Int->aH->Bool):aH->Int->Bool
 |.mk o n t k,d=>q d (.mk o n t k)&&Eh q k (d+1)
def Eh(q:Int->aH->Bool):List aH->Int->Bool
 |[],_=>true
 |x::r,d=>allD q x d&&Eh q r d
end
mutual
def ZC: ∀e:aH,1<=(allE e).length
 |.mk o n t k=>by rw[allE,aV];omega
end
mutual
def HI(q:Int->aH->Bool)(most:Int): ∀(e:aH) (d n m:Int),n<=most->(li (H8 q most) e d n=some m ↔ allD q e d=true/\m=n+(allE e).length/\m<=most)
 | .mk o nn t k,d,n,m,hn=>by
  rw[li,allD,allE,aV]
  by_cases h:n+1<=most/\q d (.mk o nn t k)=true
  ·rw[GQ h.1 h.2,h.2,bd];simp only;rw[Ly q most k (d+1) (n+1) m h.1];constructor
   ·rintro⟨a,b,c⟩;exact⟨a,k0,c⟩
   ·rintro⟨a,b,c⟩;exact⟨a,k0,c⟩
  ·rw[GS (by cases hq:q d (.mk o nn t k)<;>simp_all)];simp only[reduceCtorEq,aN,ew]
   rintro⟨⟨a,_⟩,b,c⟩
   exact h ⟨k0,a⟩
def Ly(q:Int->aH->Bool)(most:Int): ∀(l:List aH) (d n m:Int),n<=most->(DP (H8 q most) l d n=some m ↔ Eh q l d=true/\m=n+(As l).length/\m<=most)
 |[],d,n,m,hn=>by
  rw[DP,Eh,As];simp only[bJ,fh,cG];omega
 | x::r,d,n,m,hn=>by
  rw[DP,Eh,As,aO];cases hv:li (H8 q most) x d n with
  |none=>
   simp only[reduceCtorEq,aN,ew]
   rintro⟨⟨a,_⟩,b,c⟩
   have:=(HI q most x d n (n+(allE x).length) hn).2 ⟨a,rfl,k0⟩;rw[this]at hv;cases hv
  |some y=>
   obtain⟨a,b,c⟩:=(HI q most x d n y hn).1 hv;simp only;rw[Ly q most r d y m c,a,bd];constructor
   ·rintro⟨a,b,c⟩;exact⟨a,k0,c⟩
   ·rintro⟨a,b,c⟩;exact⟨a,k0,c⟩
end
mutual
def C8: ∀(e:aH) (d b:Int),0<=b->((lK e d b).1=true ↔ allD CO e d=true/\((allE e).length:Int)<=b)/\((lK e d b).1=true->(lK e d b).2=b-(allE e).length)
 | .mk o n t k,d,b,hb=>by
  rw[lK,allD,allE,aV];have f8:CO d (.mk o n t k)=(decide (d<=12)&&kj (.mk o n t k)):=rfl
  by_cases h:b-1<0\/12<d\/kj (.mk o n t k)=false
  ·rw[aS h];refine⟨⟨fun h=>(by cases h),fun ⟨h1,h2⟩=>?_⟩,fun h=>(by cases h)⟩;rw[f8]at h1;simp only[aN,aP]at h1;obtain⟨⟨a1,a2⟩,_⟩:=h1;rcases h with h|h|h
   ·omega
   ·omega
   ·rw[a2]at h;cases h
  ·rw[aQ h];rw[dX,dX]at h;obtain⟨h1,h2,h3⟩:=h;have h4:CO d (.mk o n t k)=true:=by rw[f8];simp only[aN,aP];exact⟨k0,by simpa using h3⟩
   obtain⟨i1,i2⟩:=PK k (d+1) (b-1) k0;rw[h4,bd,i1];refine⟨⟨fun ⟨a,b⟩=>⟨a,k0⟩,fun ⟨a,b⟩=>⟨a,k0⟩⟩,fun h=>?_⟩;rw[i2 (i1.2 h)];omega
def PK: ∀(l:List aH) (d b:Int),0<=b->((FN l d b).1=true ↔ Eh CO l d=true/\((As l).length:Int)<=b)/\((FN l d b).1=true->(FN l d b).2=b-(As l).length)
 |[],d,b,hb=>by
  rw[FN,Eh,As];exact⟨⟨fun _=>⟨rfl,by simpa using hb⟩,fun _=>rfl⟩,fun _=>by simp⟩
 | x::r,d,b,hb=>by
  obtain⟨i1,i2⟩:=C8 x d b hb;rw[FN,Eh,As,aO]
  by_cases h:(lK x d b).1=true
  ·obtain⟨j0,j1⟩:=i1.1 h;have j2:=i2 h;obtain⟨k1,k2⟩:=PK r d (lK x d b).2 k0;rw[aS h,k1,j0,bd,j2];refine⟨⟨fun ⟨a,b⟩=>⟨a,k0⟩,fun ⟨a,b⟩=>⟨a,k0⟩⟩,fun hh=>?_⟩;rw[j2]at k1 k2;rw[k2 (k1.2 hh)];omega
  ·rw[aQ h];refine⟨⟨fun h=>(by cases h),fun ⟨h1,h2⟩=>absurd (i1.2 ⟨?_,k0⟩) h⟩,fun h=>(by cases h)⟩;simp only[aN]at h1;exact h1.1
end
mutual
def JV(q:aH->Bool): ∀(e:aH) (d:Int),(li (fun _ x (_:Unit)=>if q x=true then some () else none) e d ()=some () ↔ (allE e).all q=true)
 |.mk o n t k,d=>by
  rw[li,allE,bU]
  by_cases h:q (.mk o n t k)=true
  ·rw[h,bd];simp only[aS];exact Lx q k (d+1)
  ·simp[h]
def Lx(q:aH->Bool): ∀(l:List aH) (d:Int),(DP (fun _ x (_:Unit)=>if q x=true then some () else none) l d ()=some () ↔ (As l).all q=true)
 |[],d=>by rw[DP,As];simp
 | x::r,d=>by
  rw[DP,As,dp];cases hv:li (fun _ x (_:Unit)=>if q x=true then some () else none) x d ()with
  |none=>
   have:¬(allE x).all q=true:=fun h=>by rw[(JV q x d).2 h]at hv;cases hv
   simp[this]
  |some u=>
   have:(allE x).all q=true:=(JV q x d).1 hv;simp only;rw[this,bd];exact Lx q r d
end
def LM{d:Int}{e:aH}(h:CO d e=true)(h3:e.op=3):e.aq=[]/\e.n=0:=by
 unfold CO BV at h;rw[h3]at h;have hg:getM ⟨false,0,0⟩ (3:Int) kP=⟨true,0,0⟩:=rfl;rw[hg]at h;simp only[aN,aP]at h;obtain⟨_,⟨⟨_,hk⟩,_⟩,_,hn⟩:=h;refine⟨bH.1 k0,?_⟩;simpa using hn
mutual
def M3: ∀(e:aH) (d:Int),allD CO e d=true->∀(b b' a:fP),(∀x,x∈b ↔ x∈b')->∀x,x∈kn e b a ↔ x∈a\/x∈kY e b'
 | .mk o n t k,d,h,b,b',a,hb,x=>by
  rw[allD,aN]at h;rw[kn,kY]
  by_cases h3:o=3
  ·obtain⟨hk,_⟩:=LM h.1 h3;have hk:k=[]:=hk;subst hk;rw[D7]
   by_cases ht:t∈b
   ·rw[aQ (fun h=>h.2 ht),aQ (fun h=>h.2 ((hb t).1 ht)),looseEs];simp
   ·rw[aS ⟨h3,ht⟩,aS ⟨h3,fun h=>ht ((hb t).2 h)⟩,Et];simp[or_comm]
  ·rw[aQ (fun h=>h3 h.1),aQ (fun h=>h3 h.1)];exact KH k (d+1) h.2 o t 0 b b' a hb x
def KH: ∀(l:List aH) (d:Int),Eh CO l d=true->∀(o:Int) (t:Str) (i:Nat) (b b' a:fP),(∀x,x∈b ↔ x∈b')->∀x,x∈D7 o t b i l a ↔ x∈a\/x∈looseEs o t l i b'
 |[],d,h,o,t,i,b,b',a,hb,x=>by rw[D7,looseEs];simp
 | y::r,d,h,o,t,i,b,b',a,hb,x=>by
  rw[Eh,aN]at h;rw[D7,looseEs,KH r d h.2 o t (i+1) b b' _ hb x,bi]
  have gJ:∀x,x∈(if o=9/\i=1 then t::b else b) ↔ x∈(if o=9/\i=1 then ins t b' else b'):=fun x=>by
   split
   ·rw[Et,be,hb x]
   ·exact hb x
  rw[M3 y d h.1 _ _ a gJ x,or_assoc]
end
def OK{names am args:fP}{lits:Bool}{e:aH}{n:Int}(hn:0<=n)(m:Int):
  Cc names am args lits e n=some m ↔ (lK e 1 120).1=true/\m=n+(allE e).length/\m<=120/\DD args am names lits e=true:=by
 obtain⟨c1,_⟩:=C8 e 1 120 k0;have hp:=ZC e;unfold Cc;cases hl:Jl 120 e with
 |none=>
  simp only[reduceCtorEq,ew]
  rintro⟨h1,h2,h3,_⟩
  rw[c1]at h1;have:=(HI CO 120 e 1 0 (0+(allE e).length) k0).2 ⟨h1.1,rfl,k0⟩;unfold Jl at hl;rw[this]at hl;cases hl
 | some k =>
  obtain⟨a1,a2,a3⟩:=(HI CO 120 e 1 0 k k0).1 hl
  have f0:(allK names am lits e=some () /\ ∀s∈kn e [] [],s∈args) ↔ DD args am names lits e=true:=by
   unfold DD;rw[aN];refine and_congr (JV (ko names am lits) e 1) ?_;rw[bh];simp only[aP];refine forall_congr' fun s=>imp_congr ?_ Iff.rfl;rw[M3 e 1 a1 [] [] [] (fun _=>Iff.rfl) s];simp
  simp only;constructor
  ·intro h;split at h
   ·rename_i hh;cases h;exact⟨c1.2 ⟨a1,k0⟩,k0,hh.1,f0.1 hh.2⟩
   ·cases h
  ·rintro⟨h1,h2,h3,h4⟩
   rw[aS ⟨k0,f0.2 h4⟩]
   congr 1;omega
mutual
def fCnt:aI->Nat
 |.mk _ _ _ _ _ k=>EV k+1
def EV:List aI->Nat
 |[]=>0
 |x::r=>fCnt x+EV r
end
mutual
def CX(q:Int->aI->Bool):aI->Int->Bool
 |.mk o a b c n k,d=>q d (.mk o a b c n k)&&Bi q k (d+1)
def Bi(q:Int->aI->Bool):List aI->Int->Bool
 |[],_=>true
 |x::r,d=>CX q x d&&Bi q r d
end
def YI: ∀e:aI,1<=fCnt e
 |.mk _ _ _ _ _ k=>by rw[fCnt];omega
mutual
def Q3(p q:Int->aI->Bool): ∀(e:aI) (d:Int),(CX p e d=true/\CX q e d=true) ↔ CX (fun d x=>p d x&&q d x) e d=true
 |.mk o a b c n k,d=>by
  rw[CX,CX,CX];have:=MM p q k (d+1);simp only[aN]at this⊢;rw[<-this];grind
def MM(p q:Int->aI->Bool): ∀(l:List aI) (d:Int),(Bi p l d=true/\Bi q l d=true) ↔ Bi (fun d x=>p d x&&q d x) l d=true
 |[],d=>by rw[Bi,Bi,Bi];simp
 |x::r,d=>by
  rw[Bi,Bi,Bi];have h1:=Q3 p q x d;have h2:=MM p q r d;simp only[aN]at h1 h2⊢;rw[<-h1,<-h2];grind
end
mutual
def HH(q:Int->aI->Bool)(most:Int): ∀(e:aI) (d n m:Int),n<=most->(visF (H8 q most) e d n=some m ↔ CX q e d=true/\m=n+fCnt e/\m<=most)
 | .mk o a b c nn k,d,n,m,hn=>by
  rw[visF,CX,fCnt]
  by_cases h:n+1<=most/\q d (.mk o a b c nn k)=true
  ·rw[GQ h.1 h.2,h.2,bd];simp only;rw[Lw q most k (d+1) (n+1) m h.1];constructor
   ·rintro⟨a,b,c⟩;exact⟨a,k0,c⟩
   ·rintro⟨a,b,c⟩;exact⟨a,k0,c⟩
  ·rw[GS (by cases hq:q d (.mk o a b c nn k)<;>simp_all)];simp only[reduceCtorEq,aN,ew]
   rintro⟨⟨a,_⟩,b,c⟩
   exact h ⟨k0,a⟩
def Lw(q:Int->aI->Bool)(most:Int): ∀(l:List aI) (d n m:Int),n<=most->(H5 (H8 q most) l d n=some m ↔ Bi q l d=true/\m=n+EV l/\m<=most)
 |[],d,n,m,hn=>by
  rw[H5,Bi,EV];simp only[bJ,fh];omega
 | x::r,d,n,m,hn=>by
  rw[H5,Bi,EV];cases hv:visF (H8 q most) x d n with
  |none=>
   simp only[reduceCtorEq,aN,ew]
   rintro⟨⟨a,_⟩,b,c⟩
   have:=(HH q most x d n (n+fCnt x) hn).2 ⟨a,rfl,k0⟩;rw[this]at hv;cases hv
  |some y=>
   obtain⟨a,b,c⟩:=(HH q most x d n y hn).1 hv;simp only;rw[Lw q most r d y m c,a,bd];constructor
   ·rintro⟨a,b,c⟩;exact⟨a,k0,c⟩
   ·rintro⟨a,b,c⟩;exact⟨a,k0,c⟩
end
section
variable {P S C:fP}
def lN(P S C:fP)(d:Int)(x:aI):Bool:=decide (d<=12)&&fctB P S C x
mutual
theorem DN: ∀(e:aI) (d b:Int),0<=b->((l6 P S C e d b).1=true ↔ CX (lN P S C) e d=true/\(fCnt e:Int)<=b)/\((l6 P S C e d b).1=true->(l6 P S C e d b).2=b-fCnt e)
 | .mk o s p c n k,d,b,hb=>by
  rw[l6,CX,fCnt];have f8:lN P S C d (.mk o s p c n k)=(decide (d<=12)&&fctB P S C (.mk o s p c n k)):=rfl
  by_cases h:b-1<0\/12<d\/fctB P S C (.mk o s p c n k)=false
  ·rw[aS h];refine⟨⟨fun h=>(by cases h),fun ⟨h1,h2⟩=>?_⟩,fun h=>(by cases h)⟩;rw[f8]at h1;simp only[aN,aP]at h1;obtain⟨⟨a1,a2⟩,_⟩:=h1;rcases h with h|h|h
   ·omega
   ·omega
   ·rw[a2]at h;cases h
  ·rw[aQ h];rw[dX,dX]at h;obtain⟨h1,h2,h3⟩:=h;have h4:lN P S C d (.mk o s p c n k)=true:=by rw[f8];simp only[aN,aP];exact⟨k0,by simpa using h3⟩
   obtain⟨i1,i2⟩:=P5 k (d+1) (b-1) k0;rw[h4,bd,i1];refine⟨⟨fun ⟨a,b⟩=>⟨a,k0⟩,fun ⟨a,b⟩=>⟨a,k0⟩⟩,fun h=>?_⟩;rw[i2 (i1.2 h)];omega
theorem P5: ∀(l:List aI) (d b:Int),0<=b->((FH P S C l d b).1=true ↔ Bi (lN P S C) l d=true/\(EV l:Int)<=b)/\((FH P S C l d b).1=true->(FH P S C l d b).2=b-EV l)
 |[],d,b,hb=>by
  rw[FH,Bi,EV];exact⟨⟨fun _=>⟨rfl,by simpa using hb⟩,fun _=>rfl⟩,fun _=>by simp⟩
 | x::r,d,b,hb=>by
  obtain⟨i1,i2⟩:=DN x d b hb;rw[FH,Bi,EV]
  by_cases h:(l6 P S C x d b).1=true
  ·obtain⟨j0,j1⟩:=i1.1 h;have j2:=i2 h;obtain⟨k1,k2⟩:=P5 r d (l6 P S C x d b).2 k0;rw[aS h,k1,j0,bd,j2];refine⟨⟨fun ⟨a,b⟩=>⟨a,k0⟩,fun ⟨a,b⟩=>⟨a,k0⟩⟩,fun hh=>?_⟩;rw[j2]at k1 k2;rw[k2 (k1.2 hh)];omega
  ·rw[aQ h];refine⟨⟨fun h=>(by cases h),fun ⟨h1,h2⟩=>absurd (i1.2 ⟨?_,k0⟩) h⟩,fun h=>(by cases h)⟩;simp only[aN]at h1;exact h1.1
end
end
mutual
def JU(q:aI->Bool): ∀(e:aI) (d:Int),(visF (fun _ x (_:Unit)=>if q x=true then some () else none) e d ()=some () ↔ CX (fun _ x=>q x) e d=true)
 |.mk o a b c n k,d=>by
  rw[visF,CX]
  by_cases h:q (.mk o a b c n k)=true
  ·rw[h,bd];simp only[aS];exact Lv q k (d+1)
  ·simp[h]
def Lv(q:aI->Bool): ∀(l:List aI) (d:Int),(H5 (fun _ x (_:Unit)=>if q x=true then some () else none) l d ()=some () ↔ Bi (fun _ x=>q x) l d=true)
 |[],d=>by rw[H5,Bi];simp
 | x::r,d=>by
  rw[H5,Bi];cases hv:visF (fun _ x (_:Unit)=>if q x=true then some () else none) x d ()with
  |none=>
   have:¬CX (fun _ x=>q x) x d=true:=fun h=>by rw[(JU q x d).2 h]at hv;cases hv
   simp[this]
  |some u=>
   have:CX (fun _ x=>q x) x d=true:=(JU q x d).1 hv;simp only;rw[this,bd];exact Lv q r d
end
def Yn{P S own:fP}(hP:[]∉P)(d:Int)(x:aI):(FY d x&&Kf own S P x)=lN P S (own++kK) d x:=by
 have hi:inB 0=true:=by decide
 unfold FY Dm Kf lN fctB fctC
 have h1:decide (x.name=[])=true->decide (x.name∈P)=false:=fun e=>by
  rw[aP]at e;rw[bk,e];exact hP
 have h2:decide (x.cls∈own++kK)=(decide (x.cls∈own)||(decide (x.cls=wAny)||(decide (x.cls=wInt)||decide (x.cls=Gc)))):=by
  rw[<-fN,<-fN,<-fN];refine cJ.2 ?_;simp[kK]
 rw[h2];have h3:decide ((x.path.length:Int)=0)=decide (x.path=[]):=cJ.2 (by rw[<-bH];omega);have h4:decide ((x.path.length:Int)<=2)=decide (x.path.length<=2):=cJ.2 k0;have h5:decide (arF x.op=(x.aq.length:Int))=decide ((x.aq.length:Int)=arF x.op):=cJ.2 eq_comm;rw[h3,h4,h5,Bool.decide_and]
 have h6:decide (x.n=0)=true->inB x.n=true:=fun e=>by
  rw[aP]at e;rw[e];exact hi
 have h7:decide (x.op=2)=true->Al x.op=true:=fun e=>by
  rw[aP]at e;rw[e];rfl
 clear h2 h3 h4 h5 hi hP;generalize decide (d<=12)=b0;generalize decide (1<=x.op)=b1;generalize decide (x.op<=7)=b2;generalize Al x.op=b3 at h7⊢;generalize decide (x.op=3\/x.op=4)=b4;generalize decide ((x.aq.length:Int)=arF x.op)=b5;generalize decide (x.path=[])=b6;generalize decide (x.path.length<=2)=b7;generalize (x.path.all fun s=>decide (s∈S))=b8;generalize inB x.n=b9 at h6⊢;generalize decide (x.n=0)=z at h6⊢;generalize decide (x.op=2)=o2 at h7⊢;generalize decide (x.name=[])=n0 at h1⊢;generalize decide (x.name∈P)=nP at h1⊢;generalize decide (x.cls=[])=c0;generalize decide (x.cls∈own)=c1;generalize decide (x.cls=wAny)=c2;generalize decide (x.cls=wInt)=c3;generalize decide (x.cls=Gc)=c4;cases b3<;>cases n0<;>cases o2<;>cases c0<;>cases z<;>simp at h1 h6 h7⊢
 all_goals try subst h1
 all_goals try subst h6
 all_goals try subst h7
 all_goals try simp
 all_goals (cases b0<;>cases b1<;>cases b2<;>cases b4<;>cases b5<;>simp)
 all_goals (cases b6<;>cases b7<;>cases b8<;>simp)
 all_goals (try (cases b9<;>simp))
 all_goals (try (cases nP<;>simp))
 all_goals (simp only[Bool.or_assoc])
def T8{names am P:fP}(hP:[]∉P){e:aI}{n:Int}(hn:0<=n)(gb:n<=120)(m:Int):
  CV names am P e n=some m ↔ (l6 P am (names++kK) e 1 (120-n)).1=true/\m=120-(l6 P am (names++kK) e 1 (120-n)).2:=by
 obtain⟨c1,c2⟩:=DN (P:=P) (S:=am) (C:=names++kK) e 1 (120-n) k0;have hp:=YI e;have hq:lN P am (names++kK)=fun d x=>FY d x&&Kf names am P x:=funext fun d=>funext fun x=>(Yn hP d x).symm;rw[hq,<-Q3]at c1;unfold CV;cases hl:G3 120 e with
 |none=>
  simp only[reduceCtorEq,ew]
  rintro⟨h1,h2⟩
  rw[c1]at h1;have:=(HH FY 120 e 1 0 (0+fCnt e) k0).2 ⟨h1.1.1,rfl,k0⟩;unfold G3 at hl;rw[this]at hl;cases hl
 | some k =>
  obtain⟨a1,a2,a3⟩:=(HH FY 120 e 1 0 k k0).1 hl;have hu:=JU (Kf names am P) e 1;have gC:(fun (_:Int) (x:aI) (s:Unit)=>J2 names am P x s)=fun _ x (_:Unit)=>if Kf names am P x=true then some () else none:=rfl
  simp only;rw[gC];constructor
  ·intro h;split at h
   ·rename_i hh;cases h;have h1:=c1.2 ⟨⟨a1,hu.1 hh.2⟩,k0⟩;exact⟨h1,by rw[c2 h1];omega⟩
   ·cases h
  ·rintro⟨h1,h2⟩
   obtain⟨⟨b1,b2⟩,b3⟩:=c1.1 h1;rw[aS ⟨k0,hu.2 b2⟩,h2,c2 h1]
   congr 1;omega
def Qg: ∀(l seen:fP),sloE seen l=(l.all Ak&&difE seen l)
 |[],_=>rfl
 |x::r,seen=>by rw[sloE,difE,bU,Qg r];cases Ak x<;>cases decide (x∈seen)<;>cases r.all Ak<;>simp
theorem DR:Ak []=false:=rfl
def Yw{names am:fP}{m:aK}{n:Int}(hn:0<=n)(gb:n<=120)(k:Int):
  Kn names am m n=some k ↔ (Cv am names m (120-n)).1=true/\k=120-(Cv am names m (120-n)).2:=by
 have hd:(GO m&&sloE [] m.params)=C4 m:=by
  rw[Qg];unfold GO C4 CR;cases decide (1<=m.kind)<;>cases decide (m.kind<=4)<;>cases Ak m.name<;>cases decide (1<=m.params.length)<;>simp
 unfold Kn Cv;rw[hd]
 by_cases h:C4 m=true
 ·rw[aS h,aS h]
  have hP:[]∉m.params:=fun hx=>by
   unfold C4 CR at h;simp only[aN]at h;have:=bh.1 h.2.2.2.2.1 _ hx;rw[DR]at this;cases this
  have hF:=T8 (names:=names) (am:=am) hP (e:=m.kJ) hn gb;have gj:=(IV (P:=m.params) (S:=am) (C:=names++kK) m.kJ 1 (120-n));cases hk:CV names am m.params m.kJ n with
  | none =>
   have:¬(l6 m.params am (names++kK) m.kJ 1 (120-n)).1=true:=fun h1=>by
    rw[(hF _).2 ⟨h1,rfl⟩]at hk;cases hk
   rw[aQ (fun h=>this h.1)];simp
  | some j =>
   obtain⟨j1,j2⟩:=(hF j).1 hk;have gT:=gj.2.2 j1;have gS:=gj.1;simp only;rw[OK k0];generalize (l6 m.params am (names++kK) m.kJ 1 (120-n)).2=q at*
   by_cases hc:(lK m.body 1 120).1=true
   ·rw[aS ⟨j1,hc⟩];simp only[aN,aP];constructor
    ·rintro⟨_,a,b,c⟩;exact⟨⟨k0,c⟩,k0⟩
    ·rintro⟨⟨a,c⟩,b⟩;exact⟨hc,k0,k0,c⟩
   ·rw[aQ (fun h=>hc h.2)];simp[hc]
 ·rw[aQ h,aQ h];simp
def Oy{names am:fP}: ∀(l:List aK) (n:Int),0<=n->n<=120->(E5 names am l n).isSome=Dn am names l (120-n)
 |[],n,_,_=>rfl
 | m::r,n,hn,gb=>by
  have h:=Yw (names:=names) (am:=am) (m:=m) hn gb;rw[E5,Dn];cases hk:Kn names am m n with
  |none=>
   have:(Cv am names m (120-n)).1=false:=ep.2 fun h1=>by rw[(h _).2 ⟨h1,rfl⟩]at hk;cases hk
   rw[this];rfl
  |some k=>
   obtain⟨h1,h2⟩:=(h k).1 hk;have hb:=GN am names m (120-n) k0 h1;simp only;rw[h1,bd,Oy r k k0 k0,h2]
   congr 1;omega
def clsS:fP->fP->List aJ->Bool
 |_,_,[]=>true
 |names,am,c::r=>decide (c.ap.length<=3/\c.am.length<=4)&&(parE names [] c.ap&&(sloE am c.am&&((Ak c.name&&!decide (c.name∈names))&&clsS (names++[c.name]) (am++c.am) r)))
def iniL:fP->List fP->List aJ->Bool
 |_,_,[]=>true
 |names,hs,c::r=>iniE (ER names hs c) [] c.ar&&iniL (names++[c.name]) (hs++[ER names hs c]) r
def MA: ∀(l:List aJ) (names am:fP) (hs:List fP),clsE names am hs l=(clsS names am l&&iniL names hs l)
 |[],_,_,_=>rfl
 |c::r,names,am,hs=>by
  rw[clsE,clsS,iniL,MA r];cases decide (c.ap.length<=3/\c.am.length<=4)<;>cases parE names [] c.ap<;>cases sloE am c.am<;>cases iniE (ER names hs c) [] c.ar<;>simp;simp[eH]
def So: ∀(a b seen:fP),difE seen (a++b)=(difE seen a&&difE (seen++a) b)
 |[],b,seen=>by rw[bG,br,difE,bd]
 |x::r,b,seen=>by
  rw[bE,difE,difE,So r b,bc,eH];rfl
def Rg(names:fP)(hn:∀s∈names,Ak s=true): ∀(ps seen:fP),parE names seen ps=(ps.all (fun s=>decide (s∈names))&&difE seen ps)
 |[],_=>rfl
 |s::r,seen=>by
  rw[parE,difE,bU,Rg names hn r]
  by_cases h:s∈names
  ·rw[bf h,hn s h];cases decide (s∈seen)<;>simp
  ·rw[ba h];simp
def XA: ∀(l:List aJ) (names am:fP),(∀s∈names,Ak s=true)->(clsS names am l=true ↔ BH names l=true/\((l.map (·.name)).all Ak=true/\difE names (l.map (·.name))=true)/\((l.flatMap (·.am)).all Ak=true/\difE am (l.flatMap (·.am))=true))
 |[],names,am,h=>by simp[clsS,BH,difE]
 | c::r,names,am,h=>by
  have h1:decide (c.ap.length<=3/\c.am.length<=4)=(!decide (3<c.ap.length)&&!decide (4<c.am.length)):=by
   rw[Bool.decide_and,<-decide_not,<-decide_not]
   congr 1<;>exact cJ.2 k0
  rw[clsS,BH,Rg names h,Qg,h1,bg,cx,bU,dp,So,difE]
  by_cases hc:Ak c.name=true
  ·have ih:=XA r (names++[c.name]) (am++c.am) (fun s hs=>by
    rcases bi.1 hs with hs|hs
    ·exact h s hs
    ·rw[bq.1 hs];exact hc)
   simp only[aN]at ih⊢;rw[ih]
   grind
  ·simp only[aN,hc]
   grind
def prs(f:aL)(i:Nat):fP:=((f.ak[i]?).map (·.ap)).getD []
def ixN(f:aL)(s:Str):Nat:=(idxF (fun c:aJ=>decide (c.name=s)) f.ak 0).toNat
inductive Lies(f:aL):Nat->Nat->Prop
 |refl (i:Nat):Lies f i i
 |step {i j:Nat}{s:Str}:s∈prs f i->Lies f (ixN f s) j->Lies f i j
def LiesP(f:aL)(i j:Nat):Prop:= ∃s∈prs f i,Lies f (ixN f s) j
def Jv{f:aL}{i j:Nat}:Lies f i j ↔ j=i\/LiesP f i j:=by
 constructor
 ·intro h;cases h with
  |refl=>exact .inl rfl
  |step hs h=>exact .inr ⟨_,hs,h⟩
 ·rintro(rfl|⟨s,hs,h⟩)
  ·exact .refl _
  ·exact .step hs h
def OV(bs:List Bool)(i j:Nat)(v:Bool):(bs.set i v).getD j false=if i=j/\i<bs.length then v else bs.getD j false:=by
 rw[bj,bj,dJ]
 by_cases h:i=j
 ·subst h
  by_cases hl:i<bs.length
  ·simp[hl]
  ·simp[hl]
 ·simp[h]
def MQ(f:aL): ∀(ps:fP) (b:List Bool) (j:Nat),(∀s∈ps,ixN f s<b.length)->((CU f ps b).getD j false=true ↔ b.getD j false=true \/ ∃s∈ps,ixN f s=j)
 |[],b,j,_=>by rw[CU];simp
 |s::r,b,j,h=>by
  have h1:=h s k7;rw[CU,MQ f r _ j (fun x hx=>by rw[cg];exact h x (by simp[hx])),OV];have:(idxF (fun c:aJ=>decide (c.name=s)) f.ak 0).toNat=ixN f s:=rfl;rw[this]
  by_cases hj:ixN f s=j
  ·rw[aS ⟨hj,h1⟩];simp[hj]
  ·rw[aQ (fun h=>hj h.1)];simp[hj]
def NY(f:aL)(n:Nat)(hp:∀i, ∀s∈prs f i,ixN f s<i): ∀(i:Nat) (b:List Bool) (j:Nat),i<=b.length->((abvD f n i b).getD j false=true ↔ b.getD j false=true \/ ∃k,k<i/\(k=n\/b.getD k false=true)/\LiesP f k j)
 |0,b,j,_=>by rw[abvD];simp
 | i+1,b,j,hb=>by
  rw[abvD]
  by_cases hi:i≠n/\b.getD i false=false
  ·rw [aS hi,NY f n hp i b j k0];constructor
   ·rintro(h|⟨k,h1,h2,h3⟩)
    ·exact .inl h
    ·exact .inr ⟨k,k0,h2,h3⟩
   ·rintro(h|⟨k,h1,h2,h3⟩)
    ·exact .inl h
    ·refine .inr ⟨k,?_,h2,h3⟩
     have:k≠i:=fun e=>by
      rw[e]at h2;rcases h2 with h2|h2
      ·exact hi.1 h2
      ·rw[hi.2]at h2;cases h2
     omega
  ·rw [aQ hi]
   have hm:i=n\/b.getD i false=true:=by
    by_cases e:i=n
    ·exact .inl e
    ·right
     cases hh:b.getD i false with
     |true=>rfl
     |false=>exact absurd ⟨e,hh⟩ hi
   have d6:=fun j=>MQ f (prs f i) b j (fun s hs=>by have:=hp i s hs;omega)
   have hlen:(CU f (prs f i) b).length=b.length:=FU f _ _;have he:CU f (((f.ak[i]?).map (·.ap)).getD []) b=CU f (prs f i) b:=rfl;rw[he,NY f n hp i _ j k0,d6];constructor
   ·rintro((h|⟨s,hs,h⟩)|⟨k,h1,h2,h3⟩)
    ·exact .inl h
    ·exact .inr ⟨i,k0,hm,s,hs,by rw[h];exact .refl _⟩
    ·rw[d6]at h2;rcases h2 with h2|h2|⟨s,hs,h⟩
     ·exact .inr ⟨k,k0,.inl h2,h3⟩
     ·exact .inr ⟨k,k0,.inr h2,h3⟩
     ·exact .inr ⟨i,k0,hm,s,hs,Jv.2 (.inr (by rw[h];exact h3))⟩
   ·rintro(h|⟨k,h1,h2,h3⟩)
    ·exact .inl (.inl h)
    ·by_cases e:k=i
     ·subst e;obtain⟨s,hs,h⟩:=h3;rcases Jv.1 h with rfl|h
      ·exact .inl (.inr ⟨s,hs,rfl⟩)
      ·exact .inr ⟨ixN f s,hp k s hs,.inr ((d6 _).2 (.inr ⟨s,hs,rfl⟩)),h⟩
     ·refine .inr ⟨k,k0,?_,h3⟩;rcases h2 with h2|h2
      ·exact .inl h2
      ·exact .inr ((d6 _).2 (.inl h2))
def SO(f:aL)(n:Nat)(hn:n<f.ak.length)(hp:∀i, ∀s∈prs f i,ixN f s<i)(j:Nat):((abvF f n).set n true).getD j false=true ↔ Lies f n j:=by
 have hl:=Lc f n;rw[OV,Jv]
 by_cases e:n=j
 ·rw[aS ⟨e,k0⟩];simp[e]
 ·rw[aQ (fun h=>e h.1)];unfold abvF;rw[NY f n hp _ _ _ (by rw[bB];omega)]
  have hz:∀k,(List.replicate f.ak.length false).getD k false=false:=fun k=>by
   rw[bj,dO];split<;>rfl
  constructor
  ·rintro(h|⟨k,h1,h2|h2,h3⟩)
   ·rw[hz]at h;cases h
   ·right;rw[<-h2];exact h3
   ·rw[hz]at h2;cases h2
  ·rintro(h|h)
   ·exact absurd h.symm e
   ·exact .inr ⟨n,k0,.inl rfl,h⟩
def Fa{x:Str}: ∀(cs:List aJ) (bs:List Bool),x∈H7 cs bs ↔ ∃j, ∃h:j<cs.length,bs.getD j false=true/\x∈cs[j].am
 |[],bs=>by cases bs<;>simp[H7]
 |c::cs,[]=>by
  simp[H7]
 | c::cs,b::bs=>by
  rw[H7,bi,Fa cs bs];constructor
  ·rintro(h|⟨j,hj,h1,h2⟩)
   ·cases b with
    |false=>simp at h
    |true=>exact⟨0,k7,rfl,by simpa using h⟩
   ·exact⟨j+1,by simp only[aV];omega,by simpa using h1,by simpa using h2⟩
  ·rintro⟨j,hj,h1,h2⟩
   cases j with
   |zero=>
    have h1:b=true:=h1
    left;rw[aS h1];exact h2
   |succ j=>exact .inr ⟨j,by simp only[aV]at hj;omega,by simpa using h1,by simpa using h2⟩
def HasS(f:aL)(i:Nat)(x:Str):Prop:= ∃j,Lies f i j /\ ∃h:j<f.ak.length,x∈f.ak[j].am
def Jz(s:Str): ∀(a b:fP) (k:Nat),s∈a->idxG s (a++b) k=idxG s a k
 |[],_,_,h=>by cases h
 | x::r,b,k,h=>by
  rw[bE,idxG,idxG]
  by_cases e:x=s
  ·rw[aS e,aS e]
  ·rw[aQ e,aQ e,Jz s r b];exact(be.1 h).resolve_left (fun h=>e h.symm)
def Kz(s:Str): ∀(l:List aJ) (k:Nat),idxG s (l.map (·.name)) k=idxF (fun c:aJ=>decide (c.name=s)) l k
 |[],_=>rfl
 |c::r,k=>by
  rw[bg,idxG,idxF,Kz s r]
  by_cases e:c.name=s<;>simp[e]
def OP{mine mine':fP}(hm:∀x,x∈mine ↔ x∈mine')(hn:∀s∈mine',Ak s=true): ∀(l:List aM) (seen:fP),iniE mine seen l=iniR mine' seen l
 |[],_=>rfl
 |x::r,seen=>by
  rw[iniE,iniR,OP hm hn r,cJ.2 (hm x.slot)]
  by_cases h:x.slot∈mine'
  ·rw[bf h,hn _ h];cases decide (x.slot∈seen)<;>cases inB x.n<;>simp
  ·rw[ba h];simp
def Vg(f:aL)(gg:∀s∈f.ak.flatMap (·.am),Ak s=true)(hp:∀i, ∀s∈prs f i,s∈(f.ak.take i).map (·.name)): ∀(l pre:List aJ) (hs:List fP),f.ak=pre++l->hs.length=pre.length->
  (∀j<pre.length, ∀x,x∈(hs[j]?).getD [] ↔ HasS f j x)->iniL (pre.map (·.name)) hs l=inisR f pre.length l
 |[],_,_,_,_,_=>rfl
 | c::r,pre,hs,hf,hl,hh=>by
  have go:pre.length<f.ak.length:=by rw[hf];simp
  have gr:f.ak[pre.length]=c:=by simp[hf]
  have gw:prs f pre.length=c.ap:=by unfold prs;rw[aT go,gr];rfl
  have gv:f.ak.take pre.length=pre:=by rw[hf];simp
  have gk:∀i, ∀s∈prs f i,ixN f s<i/\idxG s ((f.ak.take i).map (·.name)) 0=ixN f s:=fun i s hs=>by
   have h1:=hp i s hs
   have h2:idxG s (f.ak.map (·.name)) 0=idxG s ((f.ak.take i).map (·.name)) 0:=by
    conv=>lhs;rw[<-dt i f.ak,bL]
    exact Jz s _ _ 0 h1
   have h3:=(Hu s ((f.ak.take i).map (·.name)) 0 h1).2;rw[aY,ck]at h3;have h4:ixN f s=(idxG s ((f.ak.take i).map (·.name)) 0).toNat:=by rw[<-h2,Kz];rfl
   rw[h4];omega
  have e7:∀x,x∈ER (pre.map (·.name)) hs c ↔ HasS f pre.length x:=fun x=>by
   unfold ER;rw[bi,dw];constructor
   ·rintro(⟨s,h1,h2⟩|h)
    ·rw[<-gw]at h1;obtain⟨g1,g2⟩:=gk _ s h1;rw[gv]at g2;unfold OR at h2;rw[g2,show((ixN f s:Nat):Int).toNat=ixN f s by omega]at h2;obtain⟨j,a1,a2⟩:=(hh _ g1 x).1 h2;exact⟨j,.step h1 a1,a2⟩
    ·exact⟨pre.length,.refl _,go,by rw[gr];exact h⟩
   ·rintro⟨j,h1,h2⟩
    cases h1 with
    |refl=>
     obtain⟨h3,h4⟩:=h2
     right;rw[gr]at h4;exact h4
    |step gc h1=>
     rename_i s;obtain⟨g1,g2⟩:=gk _ s gc;rw[gv]at g2;refine .inl ⟨s,by rw[<-gw];exact gc,?_⟩;unfold OR;rw[g2,show((ixN f s:Nat):Int).toNat=ixN f s by omega];exact(hh _ g1 x).2 ⟨j,h1,h2⟩
  have hR:∀x,x∈H7 f.ak ((abvF f pre.length).set pre.length true) ↔ HasS f pre.length x:=fun x=>by
   rw[Fa];refine exists_congr fun j=>?_;rw[SO f _ go (fun i s hs=>(gk i s hs).1) j];exact⟨fun ⟨a,b,c⟩=>⟨b,a,c⟩,fun ⟨b,a,c⟩=>⟨a,b,c⟩⟩
  rw[iniL,inisR,OP (fun x=>(e7 x).trans (hR x).symm) (fun s hs=>by
   obtain⟨j,_,h1,h2⟩:=(hR s).1 hs
   exact gg s (dw.2 ⟨_,aR h1,h2⟩))]
  congr 1
  have ih:=Vg f gg hp r (pre++[c]) (hs++[ER (pre.map (·.name)) hs c]) (by rw[hf];simp) (by simp[hl]) (fun j hj x=>by
   by_cases h1:j<hs.length
   ·rw[bK h1];exact hh j k0 x
   ·have:j=pre.length:=by simp only[aO,aV,cG]at hj;omega
    subst this
    rw[bP k0,hl,eh]
    exact e7 x)
  rw[bL]at ih;simp only[bg,cq,aO,aV,cG,bZ]at ih;exact ih
def FP: ∀(l:List aJ) (own:fP),BH own l=true->∀i, ∀s∈((l[i]?).map (·.ap)).getD [],s∈own++(l.take i).map (·.name)
 |[],_,_,i,s,h=>by simp at h
 | c::r,own,h,i,s,hs=>by
  rw[BH]at h;simp only[aN]at h;cases i with
  |zero=>
   have hs:s∈c.ap:=by simpa using hs
   have:=bh.1 h.2.1 s hs;simpa using this
  |succ i=>
   have:=FP r (own++[c.name]) h.2.2 i s (by simpa using hs);simpa[bc] using this
def clsB_eq(f:aL):clsB f=(D9 f&&inisR f 0 f.ak):=by
 have gQ:decide (f.ak.length<=10) = !decide (10<f.ak.length):=by rw[<-decide_not];exact cJ.2 k0
 unfold clsB D9;rw[MA,gQ,eH]
 congr 1
 rw[aW];have hS:=XA f.ak [] [] (fun s hs=>by cases hs);unfold CR;simp only[aN];rw[hS]
 have key:BH [] f.ak=true->(f.ak.flatMap (·.am)).all Ak=true->iniL [] [] f.ak=inisR f 0 f.ak:=fun h1 h2=>
  Vg f (fun s hs=>bh.1 h2 s hs) (fun i s hs=>by have:=FP _ _ h1 i s hs;simpa using this) f.ak [] [] rfl rfl (fun j hj=>by simp at hj)
 constructor
 ·rintro⟨⟨a,b,c⟩,d⟩
  exact⟨⟨a,b,c⟩,by rw[<-key a c.1];exact d⟩
 ·rintro⟨⟨a,b,c⟩,d⟩
  exact⟨⟨a,b,c⟩,by rw[key a c.1];exact d⟩
def II(f:aL):Cg f=(Bn f).isSome:=by
 unfold Cg Bn Ib;rw[clsB_eq]
 by_cases h1:D9 f=true
 ·by_cases h2:inisR f 0 f.ak=true
  ·by_cases h3:f.k9.length<=16
   ·have gU:f.ak.length<=10:=by
     unfold D9 at h1;simp only[aN,bA,bk]at h1;omega
    rw[h1,h2,bf h3];simp only[bd,Bool.and_true,bI];have hk:=OK (names:=f.ak.map (·.name)) (am:=f.ak.flatMap (·.am)) (args:=[]) (lits:=false) (e:=f.kH) (n:=(f.ak.length:Int)) k0;cases hm:Cc (f.ak.map (·.name)) (f.ak.flatMap (·.am)) [] false f.kH f.ak.length with
    |none=>
     simp only[Option.isSome_none];rw[ep];intro hh;simp only[aN,aP]at hh;obtain⟨a,⟨b,c⟩,_⟩:=hh;unfold budR at b;have:=(hk (f.ak.length+(allE f.kH).length)).2 ⟨a,rfl,k0,c⟩;rw[this]at hm;cases hm
    | some n =>
     obtain⟨a,b,c,d⟩:=(hk n).1 hm;have hb:budR f=120-n:=by unfold budR;omega
     have ho:kD f=f.ak.map (·.name):=rfl;have gD:kB f=f.ak.flatMap (·.am):=rfl;have gH:=Oy (names:=f.ak.map (·.name)) (am:=f.ak.flatMap (·.am)) f.k9 n k0 c;rw[hb,ho,gD,<-gH,d,a,bf (show 0<=120-n by omega)];simp only[bd];cases gR:E5 (f.ak.map (·.name)) (f.ak.flatMap (·.am)) f.k9 n with
     |none=>rfl
     |some k=>
      simp only[Option.isSome_some,bd];cases hg:((Bj f).2&&decide ((Bj f).1.length<=8))<;>simp
   ·rw[ba h3];simp
  ·simp[h2]
 ·simp[h1]
end Go.DL
namespace Go.DL
open Go.Proofs.Tryz
open Go Go.Proofs
set_option maxHeartbeats 8000000
def l8:fP->Int->List (Str×Int)->List (Str×Int)
 |[],_,m=>m
 |s::r,b,m=>l8 r (b+1) (putM s b m)
def cNum(m:List (Str×Int)):D:=.cmap ((eSN m).map (·.1)) ((eSN m).map (·.2))
def X9(l:fP)(b:Int)(o:Own)(V:Sig)(hl:l.length<=1073741824)(hb:0<=b/\b<=1000):aB prog 101 [.slice (cS l) o,dI b] V (rS (cNum (l8 l b [])) V):=by
 obtain⟨gL,gK⟩:=hb;refine en func101 ntmps101 ?_;refine gz ?_;refine UN (fun im fX=>?_);refine gz ?_;refine AG [1,4,5,9,10,22] (fun (k:Nat) (m:List (Str×Int))=>k<=l.length/\l8 l b []=l8 (l.drop k) (b+k) m) (fun k _=>[(11,dI k)]) (fun _ m=>V.set im (.map (eSN m))) (fun k _=>l.length-k) (0) ([]) k7 (fun k m hI=>?_);obtain⟨hk,hR⟩:=hI
 by_cases ga:k<l.length
 ·rw[A0 ga,l8]at hR;refine gz ?_;exact⟨k+1,putM l[k] (b+k) m,⟨k0,by rw[hR];congr 1;omega⟩,td1,wkR⟩
 ·rw[A1 ga,l8]at hR
  repeat ((fail_if_success (first|(refine cfr 22 (i:=im) (m:=eSN m) (w7 ..) ?_)|fail));(refine goX1 trivial ?_))
  refine cfr 22 (i:=im) (m:=eSN m) (w7 ..) ?_;rw[Sig.set_del _ _ fX,hR];refine gz ?_;exact fe1 trivial
@[reducible,instance] def a101:=fun l b o V=>ah2 (@X9 l b o V)
def Pv(c:aJ)(V:Sig):aB prog 103 [.agg (kL c)] V (rS (.str c.name) V):=by
 refine en func103 ntmps103 ?_;refine gz ?_;exact fe1 trivial
def Ej(l:fP)(b:Int)(o:Own)(V:Sig)(hl:l.length<=1073741824)(hb:0<=b/\b<=1000):aB prog 101 [.slice (cS l) o,dI b] V fun x U'=> ∃im,V im=none/\x=.ret (.map im)/\U'=V.set im (.map (eSN (l8 l b []))):=by
 obtain⟨gL,gK⟩:=hb;refine en func101 ntmps101 ?_;refine gz ?_;refine UN (fun im fX=>?_);refine gz ?_;refine AG [1,4,5,9,10,22] (fun (k:Nat) (m:List (Str×Int))=>k<=l.length/\l8 l b []=l8 (l.drop k) (b+k) m) (fun k _=>[(11,dI k)]) (fun _ m=>V.set im (.map (eSN m))) (fun k _=>l.length-k) (0) ([]) k7 (fun k m hI=>?_);obtain⟨hk,hR⟩:=hI
 by_cases ga:k<l.length
 ·rw[A0 ga,l8]at hR;refine gz ?_;exact⟨k+1,putM l[k] (b+k) m,⟨k0,by rw[hR];congr 1;omega⟩,td1,wkR⟩
 ·rw[A1 ga,l8]at hR;refine gz ?_;exact kE (U':=V.set im (.map (eSN m))) ⟨im,fX,rfl,by rw[hR]⟩
structure EnvS(ib ia is ig:Nat)(p6:fQ)(cm sm gm:List (Str×Int))(V:Sig):Prop where
 env:∃a b c d e f,p6=[a,b,c,d,e,f]/\V ib=some (.cells [a,b,c,d,e,f,.map ia,.map is,.map ig])
 oa:V ia=some (.map (eSN cm))
 os:V is=some (.map (eSN sm))
 og:V ig=some (.map (eSN gm))
def EnvS.sub{ib ia is ig:Nat}{p6:fQ}{cm sm gm:List (Str×Int)}{V U':Sig}(h:EnvS ib ia is ig p6 cm sm gm V)(hs:Sub V U'):EnvS ib ia is ig p6 cm sm gm U':=by
 obtain⟨⟨a,b,c,d,e,f,h1,h2⟩,h3,h4,h5⟩:=h;exact⟨⟨a,b,c,d,e,f,h1,hs _ _ h2⟩,hs _ _ h3,hs _ _ h4,hs _ _ h5⟩
section
variable {ib ia is ig:Nat}{p6:fQ}{cm sm gm:List (Str×Int)}{V:Sig}
theorem Mq(s:Str)(hE:EnvS ib ia is ig p6 cm sm gm V):aB prog 108 [.str s,.aw [.ptr ib 0] 0] V (rS (dI (getM 0 s cm)) V):=by
 obtain⟨⟨a,b,c,d,e,f,rfl,o1⟩,o2,o3,o4⟩:=hE;refine en func108 ntmps108 ?_;refine gf (gi o1 (gi o2 (gi o3 o4))) ?_;exact fe1 trivial
theorem Mp(s:Str)(hE:EnvS ib ia is ig p6 cm sm gm V):aB prog 109 [.str s,.aw [.ptr ib 0] 0] V (rS (dI (getM 0 s sm)) V):=by
 obtain⟨⟨a,b,c,d,e,f,rfl,o1⟩,o2,o3,o4⟩:=hE;refine en func109 ntmps109 ?_;refine gf (gi o1 (gi o2 (gi o3 o4))) ?_;exact fe1 trivial
theorem Mo(x:aM)(hE:EnvS ib ia is ig p6 cm sm gm V):aB prog 111 [.agg (Dz x),.aw [.ptr ib 0] 0] V (rS (.agg (Ef ⟨getM 0 x.slot sm,x.n⟩)) V):=by
 obtain⟨⟨a,b,c,d,e,f,rfl,o1⟩,o2,o3,o4⟩:=hE;refine en func111 ntmps111 ?_;refine gz ?_ o111;refine kR (fun i hi=>?_);have n1:ib≠i:=A3 o1 hi;have n2:ia≠i:=A3 o2 hi;have n3:is≠i:=A3 o3 hi;refine gf (gi o1 (gi o2 (gi o3 o4))) ?_ o111;exact lI (U':=V) ⟨rfl,rfl⟩
def FT(cm sm:List (Str×Int))(c:aJ):aE:=⟨c.ap.map fun s=>getM 0 s cm,c.am.map fun s=>getM 0 s sm,c.ar.map fun x=>⟨getM 0 x.slot sm,x.n⟩⟩
theorem TM(c:aJ)(hw:c.ap.length<=1073741824/\c.am.length<=1073741824/\c.ar.length<=1073741824)(hE:EnvS ib ia is ig p6 cm sm gm V):aB prog 106 [.agg (kL c),.aw [.ptr ib 0] 0] V (rS (.agg (kF (FT cm sm c))) V):=by
 obtain⟨w1,w2,w3⟩:=hw;refine en func106 ntmps106 ?_;refine gz ?_ o106;refine kR (fun i hi=>?_);have d7:=hE.sub (U':=V.set i (.cells [.av,.av,.av])) ((Sub.refl _).set hi)
 repeat' first|refine gz ?_|refine moR (GA c.ap (fun s=>getM 0 s cm) 108 [.aw [.ptr ib 0] 0] _ _ w1 (fun x hx U' hs=>Mq x (d7.sub hs))) ?_|refine moP (GA c.ap (fun s=>getM 0 s cm) 108 [.aw [.ptr ib 0] 0] _ _ w1 (fun x hx U' hs=>Mq x (d7.sub hs))) ?_|refine moR (GA c.am (fun s=>getM 0 s sm) 109 [.aw [.ptr ib 0] 0] _ _ w2 (fun x hx U' hs=>Mp x (d7.sub hs))) ?_|refine moP (GA c.am (fun s=>getM 0 s sm) 109 [.aw [.ptr ib 0] 0] _ _ w2 (fun x hx U' hs=>Mp x (d7.sub hs))) ?_|refine moR (Pu c.ar (fun x=>⟨getM 0 x.slot sm,x.n⟩) 111 [.aw [.ptr ib 0] 0] _ _ w3 (fun x hx U' hs=>Mo x (d7.sub hs))) ?_|refine moP (Pu c.ar (fun x=>⟨getM 0 x.slot sm,x.n⟩) 111 [.aw [.ptr ib 0] 0] _ _ w3 (fun x hx U' hs=>Mo x (d7.sub hs))) ?_|refine gz ?_ o106|apply gy<;>intro hh
 exact lI (U':=V) ⟨rfl,rfl⟩ (hw:=by refine B9 ?_;simp[FT])
end
def QT{α β:Type}(l:List (α×β)):(l.map (·.1)).zip (l.map (·.2))=l:=by
 induction l with
 |nil=>rfl
 |cons x l ih=>simp only[bg,fq,ih]
def Xk(s:List (Str×Int))(j:Nat):(eSN s).eraseIdx j=eSN (s.eraseIdx j):=by
 unfold eSN eM
 induction s generalizing j with
 |nil=>simp
 |cons x s ih=>cases j with
  |zero=>simp
  |succ j=>simp[ih]
def eSN_get{s:List (Str×Int)}{j:Nat}{k v:D}(h:(eSN s)[j]? = some (k,v)): ∃hj:j<s.length,k=.str s[j].1/\v=dI s[j].2:=by
 unfold eSN eM at h;rw[bN]at h
 by_cases hj:j<s.length
 ·rw[aT hj]at h;simp only[bT,bJ,dC]at h;exact⟨hj,h.1.symm,h.2.symm⟩
 ·rw[bW k0]at h;cases h
section
variable {α β:Type}[DecidableEq α]
theorem FE(k:α): ∀m:List (α×β),hasM k m=true ↔ k∈m.map (·.1)
 |[]=>by simp[hasM]
 |(x,y)::r=>by simp[hasM,FE k r]
theorem Rt(k:α)(v:β): ∀m:List (α×β),(putM k v m).map (·.1)=if hasM k m=true then m.map (·.1) else m.map (·.1)++[k]
 |[]=>by simp[putM,hasM]
 | (x,y)::r=>by
  by_cases h:k=x
  ·simp[putM,hasM,h]
  ·rw[putM,aQ h,bg,Rt k v r,hasM]
   by_cases h2:hasM k r=true<;>simp[h,h2]
theorem Ke(k:α)(v:β){m:List (α×β)}(h:(m.map (·.1)).Nodup):((putM k v m).map (·.1)).Nodup:=by
 rw[Rt];split
 ·exact h
 ·rename_i h2;rw[dk];refine⟨h,k7,fun a ha b hb e=>?_⟩;simp only[bq]at hb;subst hb;subst e;exact h2 ((FE _ _).2 ha)
theorem M1(z:β): ∀(m:List (α×β)) (j:Nat) (hj:j<m.length),(m.map (·.1)).Nodup->((m.eraseIdx j).map (·.1)).Nodup /\ ∀x,hasM x m=(decide (x=m[j].1)||hasM x (m.eraseIdx j))/\(x≠m[j].1->getM z x (m.eraseIdx j)=getM z x m)/\(x=m[j].1->hasM x (m.eraseIdx j)=false/\getM z x m=m[j].2)
 |(a,b)::r,0,_,h=>by
  simp only[bg,cE]at h;refine⟨h.2,fun x=>⟨rfl,fun hx=>by simp only[dR,ne_eq]at hx;simp[getM,hx],fun hx=>?_⟩⟩;simp only[dR]at hx;subst hx;refine⟨?_,by simp[getM]⟩;simp only[List.eraseIdx_zero,List.tail_cons];cases hh:hasM x r with
  |false=>rfl
  |true=>exact absurd ((FE _ _).1 hh) h.1
 | (a,b)::r,j+1,hj,h=>by
  have gA:j<r.length:=by simpa using hj
  simp only[bg,cE]at h;obtain⟨h1,h2⟩:=M1 z r j gA h.2
  have fZ:∀y,y∈(r.eraseIdx j).map (·.1)->y∈r.map (·.1):=fun y hy=>by
   obtain⟨p,hp,rfl⟩:=bD.1 hy;exact bD.2 ⟨p,List.mem_of_mem_eraseIdx hp,rfl⟩
  have gh:r[j].1∈r.map (·.1):=bD.2 ⟨_,aR gA,rfl⟩;refine⟨by simp only[eX,bg,cE];exact⟨fun hm=>h.1 (fZ _ hm),h1⟩,fun x=>?_⟩;obtain⟨e1,e2,e3⟩:=h2 x;simp only[dB,eX];refine⟨?_,fun hx=>?_,fun hx=>?_⟩
  ·rw[hasM,e1,hasM];cases decide (x=a)<;>cases decide (x=r[j].1)<;>simp
  ·rw[getM,getM,e2 hx]
  ·have hne:x≠a:=fun e=>h.1 (by rw[<-e,hx];exact gh)
   rw[hasM,getM,aQ hne];exact⟨by rw[(e3 hx).1];simp[hne],(e3 hx).2⟩
end
def Vk{α β:Type}[DecidableEq α]{z:β}{k:α}: ∀{m:List (α×β)},hasM k m=false->getM z k m=z
 |[],_=>rfl
 |(x,y)::r,h=>by
  rw[hasM,dZ,bk]at h;rw[getM,aQ h.1];exact Vk h.2
def NmD(nm:D)(m:List (Str×Int)):Prop:=(nm=cNum m\/(nm=.ay/\m=[]))/\(m.map (·.1)).Nodup
def updE(env:Str->Int)(s:Str)(v:Int):Str->Int:=fun x=>if x=s then v else env x
def Wp(ib:Nat)(nm:D)(m:List (Str×Int))(size:Int)(s:Str)(V:Sig)(hn:NmD nm m)(hs:0<=size/\size<=2000000000):
  aB prog 195 [.agg [.ptr ib 0,nm,dI size],.str s] V fun x U'=> ∃m',x=.ret (.agg [.ptr ib 0,cNum m',dI (size+1)])/\NmD (cNum m') m'/\(∀x,getM 0 x m'=updE (fun y=>getM 0 y m) s size x)/\U'=V:=by
 obtain⟨hn,gG⟩:=hn;obtain⟨gg,gc⟩:=hs
 have e8:Re nm=some (eSN m):=by
  rcases hn with rfl|⟨rfl,rfl⟩
  ·show some (((eSN m).map (·.1)).zip ((eSN m).map (·.2)))=_;rw[QT]
  ·rfl
 refine en func195 ntmps195 ?_
 try refine gz ?_ [] [4]
 refine kR (fun i hi=>?_)
 try refine gz ?_ [] [4]
 refine UN (fun im fX=>?_)
 try refine gz ?_ [] [4]
 refine rng (kt:=9) (et:=3) (l:=eSN m) (fun it fY=>?_) (hx:=by exact e8)
 try refine gz ?_ [] [4]
 have n1:i≠im:=fun e=>by rw[<-e,w7]at fX;cases fX
 have n2:im≠it:=fun e=>by rw[<-e,w7]at fY;cases fY
 have n3:i≠it:=fun e=>by rw[<-e,w8 _ _ n1,w7]at fY;cases fY
 obtain⟨m1,i2⟩:=A8 fX;have i3:V it=none:=by rw[w8 _ _ (aZ n2),w8 _ _ (aZ n3)]at fY;exact fY
 have h0:∀x,getM 0 x m=if hasM x m=true then getM 0 x m else getM 0 x ([]:List (Str×Int)):=fun x=>by
  by_cases h:hasM x m=true
  ·rw[aS h]
  ·rw[aQ h];exact Vk (by simpa using h)
 refine E2 [1,2,4,5,11,20,21,22,23,24,25,26,27,28,29,30] (fun (L:List (Str×Int)) (acc:List (Str×Int)) (la:Option (D×D))=>(L.map (·.1)).Nodup/\(acc.map (·.1)).Nodup/\(∀x,getM 0 x m=if hasM x L=true then getM 0 x L else getM 0 x acc)) (fun _ _ _=>[]) (fun L acc la=>((V.set i (.cells [.aA,.ay,dI 0])).set im (.map (eSN acc))).set it (.iter (eSN L) la)) (fun L _ _=>L.length) (m) ([]) (none) (by exact⟨gG,k7,h0⟩) (fun L acc la hI=>?_);obtain⟨hL,hA,hR⟩:=hI
 try refine gz ?_ [] [4]
 refine nxt (fun gB=>?_) (fun jj k v gI=>?_)
 ·have gN:L=[]:=by unfold eSN eM at gB;simpa using gB
  subst gN;have gM:∀x,getM 0 x m=getM 0 x acc:=fun x=>by have:=hR x;simpa[hasM] using this
  repeat ((fail_if_success (first|(refine cfr 5 (i:=im) (m:=eSN (putM s size acc)) ((w7 ..)) ?_)|fail));(refine goX1 trivial ?_))
  refine cfr 5 (i:=im) (m:=eSN (putM s size acc)) ((w7 ..)) ?_;generalize gu:Sig.del _ im=Se;have w1:Se i=some (.cells [.aA,.ay,dI 0]):=by rw[<-gu];simp[Sig.del,n1,w8 _ _ n1,w8 _ _ n3]
  have wS:Sub V Se:=fun j x hj=>by
   have e1:j≠i:=A3 hj hi;have e2:j≠im:=A3 hj i2;have e3:j≠it:=A3 hj i3;rw[<-gu];simp only[Sig.del,e2,bl,w8 _ _ e1,w8 _ _ e2,w8 _ _ e3];exact hj
  clear gu
  try refine gf w1 ?_ [] [4]
  refine lI (U':=V) (d:=.agg [.ptr ib 0,cNum (putM s size acc),dI (size+1)]) ⟨_,rfl,⟨.inl rfl,Ke _ _ hA⟩,fun x=>?_,rfl⟩ (hZ:=wS.set hi);rw[Ck];unfold updE;split
  ·rfl
  ·exact(gM x).symm
 ·obtain⟨gx,rfl,rfl⟩:=eSN_get gI;rw[Xk];obtain⟨e1,e2⟩:=M1 (0:Int) L jj gx hL
  try refine gz ?_ [] [4]
  refine ent ?_
  try refine gz ?_ [] [4]
  have gj:(L.eraseIdx jj).length<L.length:=by rw[fj,aS gx];omega
  have gF:∀x,getM 0 x m=if hasM x (L.eraseIdx jj)=true then getM 0 x (L.eraseIdx jj) else getM 0 x (putM L[jj].1 L[jj].2 acc):=fun x=>by
   obtain⟨f1,f2,f3⟩:=e2 x;rw[hR x,Ck]
   by_cases hx:x=L[jj].1
   ·rw[aS hx,(f3 hx).1,f1,bf hx,Bool.true_or,aS rfl,aQ k7,(f3 hx).2]
   ·rw[aQ hx,f1,ba hx,dD,f2 hx]
  have fZ:Sub (((V.set i (.cells [.aA,.ay,dI 0])).set im (.map (eSN (putM L[jj].1 L[jj].2 acc)))).set it (.iter (eSN (L.eraseIdx jj)) (some (.str L[jj].1,dI L[jj].2)))) ((((V.set i (.cells [.aA,.ay,dI 0])).set im (.map (eSN acc))).set it (.iter (eSN (L.eraseIdx jj)) (some (.str L[jj].1,dI L[jj].2)))).set im (.map (eSN (putM L[jj].1 L[jj].2 acc)))):=by
   rw[set_comm _ (aZ n2),w9];exact Sub.refl _
  exact⟨L.eraseIdx jj,putM L[jj].1 L[jj].2 acc,_,⟨e1,Ke _ _ hA,gF⟩,td1,wkR⟩
mutual
def bndF(cm sm:List (Str×Int))(env:Str->Int):aI->kA
 |.mk o s p c n k=>.mk o (env s) (p.map fun x=>getM 0 x sm) (getM 0 c cm) n (GE cm sm env k)
def GE(cm sm:List (Str×Int))(env:Str->Int):List aI->List kA
 |[]=>[]
 |x::r=>bndF cm sm env x::GE cm sm env r
end
def PW(cm sm:List (Str×Int))(env:Str->Int): ∀l,GE cm sm env l=l.map (bndF cm sm env)
 |[]=>by rw[GE];rfl
 |x::r=>by rw[GE,PW cm sm env r];rfl
def bndF_eq(cm sm:List (Str×Int))(env:Str->Int)(f:aI):bndF cm sm env f=.mk f.op (env f.name) (f.path.map fun x=>getM 0 x sm) (getM 0 f.cls cm) f.n (f.aq.map (bndF cm sm env)):=by
 cases f;rw[bndF,PW];rfl
def TE(l:List aI)(h:aI->kA)(g:Nat)(first cap:fQ)(o:Own)(V:Sig)(hl:l.length<=1073741824)
  (hg:∀x∈l, ∀U',Sub V U'->aB prog g (first++[.agg (AE x)]++cap) U' fun r S''=>r=.ret (.agg (Bp (h x)))/\S''=U') :
  aB prog 197 [.slice (l.map AE) o,.func (.func g) first cap] V (rS (sl ((l.map h).map Bp)) V):=by
 refine en func197 ntmps197 ?_
 try refine gz ?_
 refine BL 5 6 (fun i hi=>?_);refine AG [1,4,8,9,21,22] (fun (k:Nat) (out:List kA)=>k<=l.length/\out++(l.drop k).map h=l.map h) (fun k out=>[(10,dI k),(5,.slice (out.map Bp) (.tag i))]) (fun _ out=>V.set i (.tail 6 out.length)) (fun k _=>l.length-k) (0) ([]) k7 (fun k out hI=>?_);obtain⟨hk,hR⟩:=hI;have hlen:=cf List.length hR;simp at hlen
 by_cases hh:k<l.length
 ·rw[A0 hh]at hR
  try refine gf hh ?_
  refine Ad (hg (l[k]) (aR hh) _ ((Sub.refl _).set hi)) (fun d U' hr=>?_) (ha:=rfl);obtain⟨e1,e2⟩:=hr;cases e1;rw[e2]
  try refine gz ?_
  exact⟨k+1,out++[h l[k]],⟨k0,by rw[bc];exact hR⟩,td1,wkR⟩
 ·try refine gf hh ?_
  rw[A1 hh]at hR;simp at hR;exact finS (U':=V) (es:=out.map Bp) ⟨by rw[hR],rfl⟩
section
variable {ib ia is ig:Nat}{p6:fQ}{cm sm gm:List (Str×Int)}
theorem Wo(s:Str)(nm:D)(size:Int)(V:Sig)(hE:EnvS ib ia is ig p6 cm sm gm V):aB prog 196 [.str s,.aw [.ptr ib 0,nm,dI size] 0] V (rS (dI (getM 0 s sm)) V):=by
 obtain⟨⟨a,b,c,d,e,f,rfl,o1⟩,o2,o3,o4⟩:=hE;refine en func196 ntmps196 ?_
 try refine gf (gi o1 (gi o2 (gi o3 o4))) ?_
 exact fe1 trivial
theorem NmD.cases{nm:D}{m:List (Str×Int)}(h:NmD nm m):(∃ks vs,nm=.cmap ks vs/\ks.zip vs=eSN m)\/(nm=.ay /\ ∀x,getM 0 x m=0):=by
 rcases h.1 with rfl|⟨rfl,rfl⟩
 ·exact .inl ⟨_,_,rfl,QT _⟩
 ·exact .inr ⟨rfl,fun _=>rfl⟩
theorem X7(nm:D)(m:List (Str×Int))(size:Int)(hn:NmD nm m): ∀(n:Nat) (f:aI) (V:Sig),f.wt<=n->n<=1073741824->EnvS ib ia is ig p6 cm sm gm V->
  aB prog 113 [.agg [.ptr ib 0,nm,dI size],.agg (AE f)] V (rS (.agg (Bp (bndF cm sm (fun y=>getM 0 y m) f))) V):=by
 intro n
 induction n with
 |zero=>
  intro f V hx;have:=f.wt_pos;omega
 | succ n ih =>
  intro f V hx hw hE;obtain⟨w1,w2,w3,w4,w5⟩:=f.wt_le;have gE:f.path.length<=1073741824:=by have:=Bc f.path;omega
  have gO:=hE;obtain⟨⟨a,b,c,d,e,g,rfl,o1⟩,o2,o3,o4⟩:=hE;refine en func113 ntmps113 ?_
  try refine gz ?_ o113 [4]
  refine kR (fun i hi=>?_);have n1:ib≠i:=A3 o1 hi;have n2:ia≠i:=A3 o2 hi;have n3:is≠i:=A3 o3 hi;have d7:=gO.sub (U':=V.set i (.cells [dI 0,dI 0,.av,dI 0,dI 0,.av])) ((Sub.refl _).set hi);have d9:=GA f.path (fun s=>getM 0 s sm) 196 [.aw [.ptr ib 0,nm,dI size] 0] .no (V.set i (.cells [dI 0,dI 0,.av,dI 0,dI 0,.av])) gE (fun x hx U' hs=>Wo x nm size U' (d7.sub hs));have d8:=TE f.aq (bndF cm sm (fun y=>getM 0 y m)) 113 [.agg [.ptr ib 0,nm,dI size]] [] .no (V.set i (.cells [dI 0,dI 0,.av,dI 0,dI 0,.av])) k0 (fun x hx U' hs=>ih x U' (by obtain⟨k,hk,rfl⟩:=bm hx;have:=w5 k hk;omega) k0 (d7.sub hs));have hb:=bndF_eq cm sm (fun y=>getM 0 y m) f;rcases hn.cases with⟨ks,vs,rfl,hz⟩|⟨rfl,hz⟩
  ·repeat' first|refine gf (gi hz (gi o1 (gi o2 o3))) ?_ [] [4]|refine moR (d9) ?_|refine moP (d9) ?_|refine moR (d8) ?_|refine moP (d8) ?_|refine gf (gi hz (gi o1 (gi o2 o3))) ?_ o113 [4]|apply gy<;>intro hh
   exact lI (U':=V) ⟨rfl,rfl⟩ (hw:=by rw[hb];refine B9 ?_;simp[kA.op,kA.arg,kA.path,kA.cls,kA.n,kA.aq])
  ·repeat' first|refine gf (gi o1 (gi o2 o3)) ?_ [] [4]|refine moR (d9) ?_|refine moP (d9) ?_|refine moR (d8) ?_|refine moP (d8) ?_|refine gf (gi o1 (gi o2 o3)) ?_ o113 [4]|apply gy<;>intro hh
   exact lI (U':=V) ⟨rfl,rfl⟩ (hw:=by rw[hb];refine B9 ?_;simp[kA.op,kA.arg,kA.path,kA.cls,kA.n,kA.aq,hz])
end
def lD(names:fP)(s:Str):Int:=if 0<=idxG s kK 0 then idxG s kK 0 else idxG s names 0+3
def idxG_lt(s:Str): ∀(l:fP) (k:Nat),idxG s l k = -1\/((k:Int)<=idxG s l k/\idxG s l k<k+l.length)
 |[],_=>.inl rfl
 | x::r,k=>by
  rw[idxG];split
  ·right;simp only[aV];omega
  ·rcases idxG_lt s r (k+1)with h|h
   ·exact .inl h
   ·right;simp only[aV];omega
def BdS(ib:Nat)(a b c d e f:D)(names am au:fP)(V:Sig):Prop:=V ib=some (.cells [a,b,c,d,e,f,sl (cS names),sl (cS am),sl (cS au)])
mutual
def E4(names am own:fP):aI->kA
 |.mk o s p c n k=>.mk o (if s=[] then 0 else idxG s own 0) (p.map fun x=>idxG x am 0) (if c=[] then 0 else lD names c) n (C2 names am own k)
def C2(names am own:fP):List aI->List kA
 |[]=>[]
 |x::r=>E4 names am own x::C2 names am own r
end
def MK(names am own:fP): ∀l,C2 names am own l=l.map (E4 names am own)
 |[]=>by rw[C2];rfl
 |x::r=>by rw[C2,MK names am own r];rfl
structure FcS(i7 i1 i2:Nat)(op A C n:Int)(l:fR)(ks:List kA)(V S1:Sig):Prop where
 o7:S1 i7=some (.cells [dI op,dI A,.slice (cI l) (.tag i1),dI C,dI n,.slice (ks.map Bp) (.tag i2)])
 o1:S1 i1=some (.tail 1 l.length)
 o2:S1 i2=some (.tail 6 ks.length)
 hS:Sub V S1
def FcS.path{i7 i1 i2:Nat}{op A C n:Int}{l:fR}{ks:List kA}{V S1:Sig}(h:FcS i7 i1 i2 op A C n l ks V S1)(v:Int)(gP:i1≠i2)(h7:V i7=none)(h1:V i1=none):
  FcS i7 i1 i2 op A C n (l++[v]) ks V ((S1.set i1 (.tail 1 (l.length+1))).set i7 (.cells [dI op,dI A,.slice (cI l++[[dI v]]) (.tag i1),dI C,dI n,.slice (ks.map Bp) (.tag i2)])):=by
 have n1:i1≠i7:=Ab h.o1 h.o7 k7;have n2:i2≠i7:=Ab h.o2 h.o7 k7;refine⟨by rw[w7];simp[cI],by rw[w8 _ _ n1,w7,aO];rfl,k8 n2 (k8 (aZ gP) h.o2),fun j o hj=>?_⟩;rw[w8 _ _ (A3 hj h7),w8 _ _ (A3 hj h1)];exact h.hS j o hj
section
variable {ib:Nat}{a b c d e f:D}{names am au:fP}
theorem BdS.fresh{V:Sig}{k:Nat}{o:kM}(h:BdS ib a b c d e f names am au V)(hk:V k=none):BdS ib a b c d e f names am au (V.set k o):=by
 unfold BdS at*;rw[w8 _ _ (A3 h hk)];exact h
theorem BdS.sub{V U':Sig}(h:BdS ib a b c d e f names am au V)(hs:Sub V U'):BdS ib a b c d e f names am au U':=hs _ _ h
end
end Go.DL
