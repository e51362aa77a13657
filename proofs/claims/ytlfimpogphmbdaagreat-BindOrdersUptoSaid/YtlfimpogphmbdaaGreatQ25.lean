/- A part of the proof. -/
import Derived.Test.YtlfimpogphmbdaaGreatQ24
set_option linter.all false
namespace Go.DL
open Go.Proofs.Tryz
open Go Go.Proofs
mutual
def allD(q:Int->aB->Bool):aB->Int->Bool
 |.mk o n t k,d=>q d (.mk o n t k)&&ID q k (d+1)
def ID(q:Int->aB->Bool):List aB->Int->Bool
 |[],_=>true
 |x::r,d=>allD q x d&&ID q r d
end
mutual
theorem XP: ∀e:aB,1<=(allE e).length
 |.mk o n t k=>by rw[allE,aP];omega
end
mutual
theorem Hb(q:Int->aB->Bool)(most:Int): ∀(e:aB) (d n m:Int),n<=most->(visE (Gz q most) e d n=some m ↔ allD q e d=true/\m=n+(allE e).length/\m<=most)
 | .mk o nn t k,d,n,m,hn=>by
  rw[visE,allD,allE,aP]
  by_cases h:n+1<=most/\q d (.mk o nn t k)=true
  ·rw[Gi h.1 h.2,h.2,aW]
   simp only
   rw[KO q most k (d+1) (n+1) m h.1]
   constructor
   ·rintro⟨a,b,c⟩;exact⟨a,by omega,c⟩
   ·rintro⟨a,b,c⟩;exact⟨a,by omega,c⟩
  ·rw[Gj (by cases hq:q d (.mk o nn t k)<;>simp_all)]
   simp only[reduceCtorEq,aI,dV]
   rintro⟨⟨a,_⟩,b,c⟩
   exact h ⟨by omega,a⟩
theorem KO(q:Int->aB->Bool)(most:Int): ∀(l:List aB) (d n m:Int),n<=most->(Du (Gz q most) l d n=some m ↔ ID q l d=true/\m=n+(Bg l).length/\m<=most)
 |[],d,n,m,hn=>by
  rw[Du,ID,Bg]
  simp only[bq,eQ,cf]
  omega
 | x::r,d,n,m,hn=>by
  rw[Du,ID,Bg,aH]
  cases hv:visE (Gz q most) x d n with
  |none=>
   simp only[reduceCtorEq,aI,dV]
   rintro⟨⟨a,_⟩,b,c⟩
   have:=(Hb q most x d n (n+(allE x).length) hn).2 ⟨a,rfl,by omega⟩
   rw[this]at hv;cases hv
  |some y=>
   obtain⟨a,b,c⟩:=(Hb q most x d n y hn).1 hv
   simp only
   rw[KO q most r d y m c,a,aW]
   constructor
   ·rintro⟨a,b,c⟩;exact⟨a,by omega,c⟩
   ·rintro⟨a,b,c⟩;exact⟨a,by omega,c⟩
end
mutual
theorem IY: ∀(e:aB) (d b:Int),0<=b->((cntE e d b).1=true ↔ allD F6 e d=true/\((allE e).length:Int)<=b)/\((cntE e d b).1=true->(cntE e d b).2=b-(allE e).length)
 | .mk o n t k,d,b,hb=>by
  rw[cntE,allD,allE,aP]
  have fO:F6 d (.mk o n t k)=(decide (d<=12)&&shpB (.mk o n t k)):=rfl
  by_cases h:b-1<0\/12<d\/shpB (.mk o n t k)=false
  ·rw[aS h]
   refine⟨⟨fun h=>(by cases h),fun ⟨h1,h2⟩=>?_⟩,fun h=>(by cases h)⟩
   rw[fO]at h1
   simp only[aI,aL]at h1
   obtain⟨⟨a1,a2⟩,_⟩:=h1
   rcases h with h|h|h
   ·omega
   ·omega
   ·rw[a2]at h;cases h
  ·rw[aN h]
   rw[dU,dU]at h
   obtain⟨h1,h2,h3⟩:=h
   have h4:F6 d (.mk o n t k)=true:=by rw[fO];simp only[aI,aL];exact⟨by omega,by simpa using h3⟩
   obtain⟨i1,i2⟩:=OM k (d+1) (b-1) (by omega)
   rw[h4,aW,i1]
   refine⟨⟨fun ⟨a,b⟩=>⟨a,by omega⟩,fun ⟨a,b⟩=>⟨a,by omega⟩⟩,fun h=>?_⟩
   rw[i2 (i1.2 h)];omega
theorem OM: ∀(l:List aB) (d b:Int),0<=b->((Fm l d b).1=true ↔ ID F6 l d=true/\((Bg l).length:Int)<=b)/\((Fm l d b).1=true->(Fm l d b).2=b-(Bg l).length)
 |[],d,b,hb=>by
  rw[Fm,ID,Bg]
  exact⟨⟨fun _=>⟨rfl,by simpa using hb⟩,fun _=>rfl⟩,fun _=>by simp⟩
 | x::r,d,b,hb=>by
  obtain⟨i1,i2⟩:=IY x d b hb
  rw[Fm,ID,Bg,aH]
  by_cases h:(cntE x d b).1=true
  ·obtain⟨j0,j1⟩:=i1.1 h
   have j2:=i2 h
   obtain⟨k1,k2⟩:=OM r d (cntE x d b).2 (by omega)
   rw[aS h,k1,j0,aW,j2]
   refine⟨⟨fun ⟨a,b⟩=>⟨a,by omega⟩,fun ⟨a,b⟩=>⟨a,by omega⟩⟩,fun hh=>?_⟩
   rw[j2]at k1 k2
   rw[k2 (k1.2 hh)];omega
  ·rw[aN h]
   refine⟨⟨fun h=>(by cases h),fun ⟨h1,h2⟩=>absurd (i1.2 ⟨?_,by omega⟩) h⟩,fun h=>(by cases h)⟩
   simp only[aI]at h1;exact h1.1
end
mutual
theorem Ja(q:aB->Bool): ∀(e:aB) (d:Int),(visE (fun _ x (_:Unit)=>if q x=true then some () else none) e d ()=some () ↔ (allE e).all q=true)
 |.mk o n t k,d=>by
  rw[visE,allE,bV]
  by_cases h:q (.mk o n t k)=true
  ·rw[h,aW];simp only[aS];exact KN q k (d+1)
  ·simp[h]
theorem KN(q:aB->Bool): ∀(l:List aB) (d:Int),(Du (fun _ x (_:Unit)=>if q x=true then some () else none) l d ()=some () ↔ (Bg l).all q=true)
 |[],d=>by rw[Du,Bg];simp
 | x::r,d=>by
  rw[Du,Bg,ed]
  cases hv:visE (fun _ x (_:Unit)=>if q x=true then some () else none) x d ()with
  |none=>
   have:¬(allE x).all q=true:=fun h=>by rw[(Ja q x d).2 h]at hv;cases hv
   simp[this]
  |some u=>
   have:(allE x).all q=true:=(Ja q x d).1 hv
   simp only
   rw[this,aW];exact KN q r d
end
theorem L1{d:Int}{e:aB}(h:F6 d e=true)(h3:e.op=3):e.ah=[]/\e.n=0:=by
 unfold F6 BT at h
 rw[h3]at h
 have hg:getM ⟨false,0,0⟩ (3:Int) shapesL=⟨true,0,0⟩:=rfl
 rw[hg]at h
 simp only[aI,aL]at h
 obtain⟨_,⟨⟨_,hk⟩,_⟩,_,hn⟩:=h
 refine⟨bC.1 (by omega),?_⟩
 simpa using hn
mutual
theorem Lf: ∀(e:aB) (d:Int),allD F6 e d=true->∀(b b' a:fD),(∀x,x∈b ↔ x∈b')->∀x,x∈freeE e b a ↔ x∈a\/x∈D9 e b'
 | .mk o n t k,d,h,b,b',a,hb,x=>by
  rw[allD,aI]at h
  rw[freeE,D9]
  by_cases h3:o=3
  ·obtain⟨hk,_⟩:=L1 h.1 h3
   have hk:k=[]:=hk
   subst hk
   rw[CR]
   by_cases ht:t∈b
   ·rw[aN (fun h=>h.2 ht),aN (fun h=>h.2 ((hb t).1 ht)),C6];simp
   ·rw[aS ⟨h3,ht⟩,aS ⟨h3,fun h=>ht ((hb t).2 h)⟩,I6]
    simp[or_comm]
  ·rw[aN (fun h=>h3 h.1),aN (fun h=>h3 h.1)]
   exact JX k (d+1) h.2 o t 0 b b' a hb x
theorem JX: ∀(l:List aB) (d:Int),ID F6 l d=true->∀(o:Int) (t:Str) (i:Nat) (b b' a:fD),(∀x,x∈b ↔ x∈b')->∀x,x∈CR o t b i l a ↔ x∈a\/x∈C6 o t l i b'
 |[],d,h,o,t,i,b,b',a,hb,x=>by rw[CR,C6];simp
 | y::r,d,h,o,t,i,b,b',a,hb,x=>by
  rw[ID,aI]at h
  rw[CR,C6,JX r d h.2 o t (i+1) b b' _ hb x,bk]
  have gK:∀x,x∈(if o=9/\i=1 then t::b else b) ↔ x∈(if o=9/\i=1 then ins t b' else b'):=fun x=>by
   split
   ·rw[I6,aY,hb x]
   ·exact hb x
  rw[Lf y d h.1 _ _ a gK x,or_assoc]
end
theorem NK{names ae args:fD}{lits:Bool}{e:aB}{n:Int}(hn:0<=n)(m:Int):
  C7 names ae args lits e n=some m ↔ (cntE e 1 120).1=true/\m=n+(allE e).length/\m<=120/\EC args ae names lits e=true:=by
 obtain⟨c1,_⟩:=IY e 1 120 (by omega)
 have hp:=XP e
 unfold C7
 cases hl:IC 120 e with
 |none=>
  simp only[reduceCtorEq,dV]
  rintro⟨h1,h2,h3,_⟩
  rw[c1]at h1
  have:=(Hb F6 120 e 1 0 (0+(allE e).length) (by omega)).2 ⟨h1.1,rfl,by omega⟩
  unfold IC at hl
  rw[this]at hl;cases hl
 | some k =>
  obtain⟨a1,a2,a3⟩:=(Hb F6 120 e 1 0 k (by omega)).1 hl
  have fM:(allK names ae lits e=some () /\ ∀s∈freeE e [] [],s∈args) ↔ EC args ae names lits e=true:=by
   unfold EC
   rw[aI]
   refine and_congr (Ja (nodK names ae lits) e 1) ?_
   rw[bc]
   simp only[aL]
   refine forall_congr' fun s=>imp_congr ?_ Iff.rfl
   rw[Lf e 1 a1 [] [] [] (fun _=>Iff.rfl) s];simp
  simp only
  constructor
  ·intro h
   split at h
   ·rename_i hh
    cases h
    exact⟨c1.2 ⟨a1,by omega⟩,by omega,hh.1,fM.1 hh.2⟩
   ·cases h
  ·rintro⟨h1,h2,h3,h4⟩
   rw[aS ⟨by omega,fM.2 h4⟩]
   congr 1;omega
mutual
def fCnt:aC->Nat
 |.mk _ _ _ _ _ k=>Mz k+1
def Mz:List aC->Nat
 |[]=>0
 |x::r=>fCnt x+Mz r
end
mutual
def G8(q:Int->aC->Bool):aC->Int->Bool
 |.mk o a b c n k,d=>q d (.mk o a b c n k)&&CJ q k (d+1)
def CJ(q:Int->aC->Bool):List aC->Int->Bool
 |[],_=>true
 |x::r,d=>G8 q x d&&CJ q r d
end
theorem WS: ∀e:aC,1<=fCnt e
 |.mk _ _ _ _ _ k=>by rw[fCnt];omega
mutual
theorem P2(p q:Int->aC->Bool): ∀(e:aC) (d:Int),(G8 p e d=true/\G8 q e d=true) ↔ G8 (fun d x=>p d x&&q d x) e d=true
 |.mk o a b c n k,d=>by
  rw[G8,G8,G8]
  have:=LY p q k (d+1)
  simp only[aI]at this⊢
  rw[<-this];grind
theorem LY(p q:Int->aC->Bool): ∀(l:List aC) (d:Int),(CJ p l d=true/\CJ q l d=true) ↔ CJ (fun d x=>p d x&&q d x) l d=true
 |[],d=>by rw[CJ,CJ,CJ];simp
 |x::r,d=>by
  rw[CJ,CJ,CJ]
  have h1:=P2 p q x d
  have h2:=LY p q r d
  simp only[aI]at h1 h2⊢
  rw[<-h1,<-h2];grind
end
mutual
theorem Ha(q:Int->aC->Bool)(most:Int): ∀(e:aC) (d n m:Int),n<=most->(visF (Gz q most) e d n=some m ↔ G8 q e d=true/\m=n+fCnt e/\m<=most)
 | .mk o a b c nn k,d,n,m,hn=>by
  rw[visF,G8,fCnt]
  by_cases h:n+1<=most/\q d (.mk o a b c nn k)=true
  ·rw[Gi h.1 h.2,h.2,aW]
   simp only
   rw[KM q most k (d+1) (n+1) m h.1]
   constructor
   ·rintro⟨a,b,c⟩;exact⟨a,by omega,c⟩
   ·rintro⟨a,b,c⟩;exact⟨a,by omega,c⟩
  ·rw[Gj (by cases hq:q d (.mk o a b c nn k)<;>simp_all)]
   simp only[reduceCtorEq,aI,dV]
   rintro⟨⟨a,_⟩,b,c⟩
   exact h ⟨by omega,a⟩
theorem KM(q:Int->aC->Bool)(most:Int): ∀(l:List aC) (d n m:Int),n<=most->(Gw (Gz q most) l d n=some m ↔ CJ q l d=true/\m=n+Mz l/\m<=most)
 |[],d,n,m,hn=>by
  rw[Gw,CJ,Mz]
  simp only[bq,eQ]
  omega
 | x::r,d,n,m,hn=>by
  rw[Gw,CJ,Mz]
  cases hv:visF (Gz q most) x d n with
  |none=>
   simp only[reduceCtorEq,aI,dV]
   rintro⟨⟨a,_⟩,b,c⟩
   have:=(Ha q most x d n (n+fCnt x) hn).2 ⟨a,rfl,by omega⟩
   rw[this]at hv;cases hv
  |some y=>
   obtain⟨a,b,c⟩:=(Ha q most x d n y hn).1 hv
   simp only
   rw[KM q most r d y m c,a,aW]
   constructor
   ·rintro⟨a,b,c⟩;exact⟨a,by omega,c⟩
   ·rintro⟨a,b,c⟩;exact⟨a,by omega,c⟩
end
section
variable {P S C:fD}
def fctQ(P S C:fD)(d:Int)(x:aC):Bool:=decide (d<=12)&&fctB P S C x
mutual
theorem My: ∀(e:aC) (d b:Int),0<=b->((fctE P S C e d b).1=true ↔ G8 (fctQ P S C) e d=true/\(fCnt e:Int)<=b)/\((fctE P S C e d b).1=true->(fctE P S C e d b).2=b-fCnt e)
 | .mk o s p c n k,d,b,hb=>by
  rw[fctE,G8,fCnt]
  have fO:fctQ P S C d (.mk o s p c n k)=(decide (d<=12)&&fctB P S C (.mk o s p c n k)):=rfl
  by_cases h:b-1<0\/12<d\/fctB P S C (.mk o s p c n k)=false
  ·rw[aS h]
   refine⟨⟨fun h=>(by cases h),fun ⟨h1,h2⟩=>?_⟩,fun h=>(by cases h)⟩
   rw[fO]at h1
   simp only[aI,aL]at h1
   obtain⟨⟨a1,a2⟩,_⟩:=h1
   rcases h with h|h|h
   ·omega
   ·omega
   ·rw[a2]at h;cases h
  ·rw[aN h]
   rw[dU,dU]at h
   obtain⟨h1,h2,h3⟩:=h
   have h4:fctQ P S C d (.mk o s p c n k)=true:=by rw[fO];simp only[aI,aL];exact⟨by omega,by simpa using h3⟩
   obtain⟨i1,i2⟩:=O3 k (d+1) (b-1) (by omega)
   rw[h4,aW,i1]
   refine⟨⟨fun ⟨a,b⟩=>⟨a,by omega⟩,fun ⟨a,b⟩=>⟨a,by omega⟩⟩,fun h=>?_⟩
   rw[i2 (i1.2 h)];omega
theorem O3: ∀(l:List aC) (d b:Int),0<=b->((Fg P S C l d b).1=true ↔ CJ (fctQ P S C) l d=true/\(Mz l:Int)<=b)/\((Fg P S C l d b).1=true->(Fg P S C l d b).2=b-Mz l)
 |[],d,b,hb=>by
  rw[Fg,CJ,Mz]
  exact⟨⟨fun _=>⟨rfl,by simpa using hb⟩,fun _=>rfl⟩,fun _=>by simp⟩
 | x::r,d,b,hb=>by
  obtain⟨i1,i2⟩:=My x d b hb
  rw[Fg,CJ,Mz]
  by_cases h:(fctE P S C x d b).1=true
  ·obtain⟨j0,j1⟩:=i1.1 h
   have j2:=i2 h
   obtain⟨k1,k2⟩:=O3 r d (fctE P S C x d b).2 (by omega)
   rw[aS h,k1,j0,aW,j2]
   refine⟨⟨fun ⟨a,b⟩=>⟨a,by omega⟩,fun ⟨a,b⟩=>⟨a,by omega⟩⟩,fun hh=>?_⟩
   rw[j2]at k1 k2
   rw[k2 (k1.2 hh)];omega
  ·rw[aN h]
   refine⟨⟨fun h=>(by cases h),fun ⟨h1,h2⟩=>absurd (i1.2 ⟨?_,by omega⟩) h⟩,fun h=>(by cases h)⟩
   simp only[aI]at h1;exact h1.1
end
end
mutual
theorem J9(q:aC->Bool): ∀(e:aC) (d:Int),(visF (fun _ x (_:Unit)=>if q x=true then some () else none) e d ()=some () ↔ G8 (fun _ x=>q x) e d=true)
 |.mk o a b c n k,d=>by
  rw[visF,G8]
  by_cases h:q (.mk o a b c n k)=true
  ·rw[h,aW];simp only[aS];exact KL q k (d+1)
  ·simp[h]
theorem KL(q:aC->Bool): ∀(l:List aC) (d:Int),(Gw (fun _ x (_:Unit)=>if q x=true then some () else none) l d ()=some () ↔ CJ (fun _ x=>q x) l d=true)
 |[],d=>by rw[Gw,CJ];simp
 | x::r,d=>by
  rw[Gw,CJ]
  cases hv:visF (fun _ x (_:Unit)=>if q x=true then some () else none) x d ()with
  |none=>
   have:¬G8 (fun _ x=>q x) x d=true:=fun h=>by rw[(J9 q x d).2 h]at hv;cases hv
   simp[this]
  |some u=>
   have:G8 (fun _ x=>q x) x d=true:=(J9 q x d).1 hv
   simp only
   rw[this,aW];exact KL q r d
end
theorem WB{P S own:fD}(hP:[]∉P)(d:Int)(x:aC):(Fu d x&&Jx own S P x)=fctQ P S (own++lits3) d x:=by
 have hi:inB 0=true:=by decide
 unfold Fu D8 Jx fctQ fctB fctC
 have h1:decide (x.name=[])=true->decide (x.name∈P)=false:=fun e=>by
  rw[aL]at e
  rw[be,e];exact hP
 have h2:decide (x.cls∈own++lits3)=(decide (x.cls∈own)||(decide (x.cls=wAny)||(decide (x.cls=wInt)||decide (x.cls=H9)))):=by
  rw[<-fB,<-fB,<-fB]
  refine cJ.2 ?_
  simp[lits3]
 rw[h2]
 have h3:decide ((x.path.length:Int)=0)=decide (x.path=[]):=cJ.2 (by rw[<-bC];omega)
 have h4:decide ((x.path.length:Int)<=2)=decide (x.path.length<=2):=cJ.2 (by omega)
 have h5:decide (arF x.op=(x.ah.length:Int))=decide ((x.ah.length:Int)=arF x.op):=cJ.2 eq_comm
 rw[h3,h4,h5,Bool.decide_and]
 have h6:decide (x.n=0)=true->inB x.n=true:=fun e=>by
  rw[aL]at e
  rw[e];exact hi
 have h7:decide (x.op=2)=true->AO x.op=true:=fun e=>by
  rw[aL]at e
  rw[e];rfl
 clear h2 h3 h4 h5 hi hP
 generalize decide (d<=12)=b0
 generalize decide (1<=x.op)=b1
 generalize decide (x.op<=7)=b2
 generalize AO x.op=b3 at h7⊢
 generalize decide (x.op=3\/x.op=4)=b4
 generalize decide ((x.ah.length:Int)=arF x.op)=b5
 generalize decide (x.path=[])=b6
 generalize decide (x.path.length<=2)=b7
 generalize (x.path.all fun s=>decide (s∈S))=b8
 generalize inB x.n=b9 at h6⊢
 generalize decide (x.n=0)=z at h6⊢
 generalize decide (x.op=2)=o2 at h7⊢
 generalize decide (x.name=[])=n0 at h1⊢
 generalize decide (x.name∈P)=nP at h1⊢
 generalize decide (x.cls=[])=c0
 generalize decide (x.cls∈own)=c1
 generalize decide (x.cls=wAny)=c2
 generalize decide (x.cls=wInt)=c3
 generalize decide (x.cls=H9)=c4
 cases b3<;>cases n0<;>cases o2<;>cases c0<;>cases z<;>simp at h1 h6 h7⊢
 all_goals try subst h1
 all_goals try subst h6
 all_goals try subst h7
 all_goals try simp
 all_goals (cases b0<;>cases b1<;>cases b2<;>cases b4<;>cases b5<;>simp)
 all_goals (cases b6<;>cases b7<;>cases b8<;>simp)
 all_goals (try (cases b9<;>simp))
 all_goals (try (cases nP<;>simp))
 all_goals (simp only[Bool.or_assoc])
theorem Rs{names ae P:fD}(hP:[]∉P){e:aC}{n:Int}(hn:0<=n)(fU:n<=120)(m:Int):
  CL names ae P e n=some m ↔ (fctE P ae (names++lits3) e 1 (120-n)).1=true/\m=120-(fctE P ae (names++lits3) e 1 (120-n)).2:=by
 obtain⟨c1,c2⟩:=My (P:=P) (S:=ae) (C:=names++lits3) e 1 (120-n) (by omega)
 have hp:=WS e
 have hq:fctQ P ae (names++lits3)=fun d x=>Fu d x&&Jx names ae P x:=funext fun d=>funext fun x=>(WB hP d x).symm
 rw[hq,<-P2]at c1
 unfold CL
 cases hl:Fx 120 e with
 |none=>
  simp only[reduceCtorEq,dV]
  rintro⟨h1,h2⟩
  rw[c1]at h1
  have:=(Ha Fu 120 e 1 0 (0+fCnt e) (by omega)).2 ⟨h1.1.1,rfl,by omega⟩
  unfold Fx at hl
  rw[this]at hl;cases hl
 | some k =>
  obtain⟨a1,a2,a3⟩:=(Ha Fu 120 e 1 0 k (by omega)).1 hl
  have hu:=J9 (Jx names ae P) e 1
  have fL:(fun (_:Int) (x:aC) (s:Unit)=>Ik names ae P x s)=fun _ x (_:Unit)=>if Jx names ae P x=true then some () else none:=rfl
  simp only
  rw[fL]
  constructor
  ·intro h
   split at h
   ·rename_i hh
    cases h
    have h1:=c1.2 ⟨⟨a1,hu.1 hh.2⟩,by omega⟩
    exact⟨h1,by rw[c2 h1];omega⟩
   ·cases h
  ·rintro⟨h1,h2⟩
   obtain⟨⟨b1,b2⟩,b3⟩:=c1.1 h1
   rw[aS ⟨by omega,hu.2 b2⟩,h2,c2 h1]
   congr 1;omega
theorem Pb: ∀(l seen:fD),sloE seen l=(l.all AJ&&difE seen l)
 |[],_=>rfl
 |x::r,seen=>by rw[sloE,difE,bV,Pb r];cases AJ x<;>cases decide (x∈seen)<;>cases r.all AJ<;>simp
theorem Jy:AJ []=false:=rfl
theorem WJ{names ae:fD}{m:aE}{n:Int}(hn:0<=n)(fU:n<=120)(k:Int):
  JG names ae m n=some k ↔ (D6 ae names m (120-n)).1=true/\k=120-(D6 ae names m (120-n)).2:=by
 have hd:(Gh m&&sloE [] m.params)=CQ m:=by
  rw[Pb];unfold Gh CQ Dy
  cases decide (1<=m.kind)<;>cases decide (m.kind<=4)<;>cases AJ m.name<;>cases decide (1<=m.params.length)<;>simp
 unfold JG D6
 rw[hd]
 by_cases h:CQ m=true
 ·rw[aS h,aS h]
  have hP:[]∉m.params:=fun hx=>by
   unfold CQ Dy at h
   simp only[aI]at h
   have:=bc.1 h.2.2.2.2.1 _ hx
   rw[Jy]at this;cases this
  have hF:=Rs (names:=names) (ae:=ae) hP (e:=m.fact) hn fU
  have gu:=(K0 (P:=m.params) (S:=ae) (C:=names++lits3) m.fact 1 (120-n))
  cases hk:CL names ae m.params m.fact n with
  | none =>
   have:¬(fctE m.params ae (names++lits3) m.fact 1 (120-n)).1=true:=fun h1=>by
    rw[(hF _).2 ⟨h1,rfl⟩]at hk;cases hk
   rw[aN (fun h=>this h.1)]
   simp
  | some j =>
   obtain⟨j1,j2⟩:=(hF j).1 hk
   have gR:=gu.2.2 j1
   have gQ:=gu.1
   simp only
   rw[NK (by omega)]
   generalize (fctE m.params ae (names++lits3) m.fact 1 (120-n)).2=q at*
   by_cases hc:(cntE m.body 1 120).1=true
   ·rw[aS ⟨j1,hc⟩]
    simp only[aI,aL]
    constructor
    ·rintro⟨_,a,b,c⟩;exact⟨⟨by omega,c⟩,by omega⟩
    ·rintro⟨⟨a,c⟩,b⟩;exact⟨hc,by omega,by omega,c⟩
   ·rw[aN (fun h=>hc h.2)]
    simp[hc]
 ·rw[aN h,aN h];simp
theorem NC{names ae:fD}: ∀(l:List aE) (n:Int),0<=n->n<=120->(DK names ae l n).isSome=GC ae names l (120-n)
 |[],n,_,_=>rfl
 | m::r,n,hn,fU=>by
  have h:=WJ (names:=names) (ae:=ae) (m:=m) hn fU
  rw[DK,GC]
  cases hk:JG names ae m n with
  |none=>
   have:(D6 ae names m (120-n)).1=false:=dQ.2 fun h1=>by rw[(h _).2 ⟨h1,rfl⟩]at hk;cases hk
   rw[this];rfl
  |some k=>
   obtain⟨h1,h2⟩:=(h k).1 hk
   have hb:=Mo ae names m (120-n) (by omega) h1
   simp only
   rw[h1,aW,NC r k (by omega) (by omega),h2]
   congr 1;omega
def clsS:fD->fD->List aD->Bool
 |_,_,[]=>true
 |names,ae,c::r=>decide (c.ag.length<=3/\c.ae.length<=4)&&(parE names [] c.ag&&(sloE ae c.ae&&((AJ c.name&&!decide (c.name∈names))&&clsS (names++[c.name]) (ae++c.ae) r)))
def iniL:fD->List fD->List aD->Bool
 |_,_,[]=>true
 |names,hs,c::r=>iniE (Eu names hs c) [] c.ai&&iniL (names++[c.name]) (hs++[Eu names hs c]) r
theorem LP: ∀(l:List aD) (names ae:fD) (hs:List fD),clsE names ae hs l=(clsS names ae l&&iniL names hs l)
 |[],_,_,_=>rfl
 |c::r,names,ae,hs=>by
  rw[clsE,clsS,iniL,LP r]
  cases decide (c.ag.length<=3/\c.ae.length<=4)<;>cases parE names [] c.ag<;>cases sloE ae c.ae<;>cases iniE (Eu names hs c) [] c.ai<;>simp
  simp[ep]
theorem QT: ∀(a b seen:fD),difE seen (a++b)=(difE seen a&&difE (seen++a) b)
 |[],b,seen=>by rw[br,bb,difE,aW]
 |x::r,b,seen=>by
  rw[bl,difE,difE,QT r b,aT,ep];rfl
theorem Q5(names:fD)(hn:∀s∈names,AJ s=true): ∀(ps seen:fD),parE names seen ps=(ps.all (fun s=>decide (s∈names))&&difE seen ps)
 |[],_=>rfl
 |s::r,seen=>by
  rw[parE,difE,bV,Q5 names hn r]
  by_cases h:s∈names
  ·rw[aX h,hn s h];cases decide (s∈seen)<;>simp
  ·rw[aV h];simp
theorem Wa: ∀(l:List aD) (names ae:fD),(∀s∈names,AJ s=true)->(clsS names ae l=true ↔ D4 names l=true/\((l.map (·.name)).all AJ=true/\difE names (l.map (·.name))=true)/\((l.flatMap (·.ae)).all AJ=true/\difE ae (l.flatMap (·.ae))=true))
 |[],names,ae,h=>by simp[clsS,D4,difE]
 | c::r,names,ae,h=>by
  have h1:decide (c.ag.length<=3/\c.ae.length<=4)=(!decide (3<c.ag.length)&&!decide (4<c.ae.length)):=by
   rw[Bool.decide_and,<-decide_not,<-decide_not]
   congr 1<;>exact cJ.2 (by omega)
  rw[clsS,D4,Q5 names h,Pb,h1,ba,cz,bV,ed,QT,difE]
  by_cases hc:AJ c.name=true
  ·have ih:=Wa r (names++[c.name]) (ae++c.ae) (fun s hs=>by
    rcases bk.1 hs with hs|hs
    ·exact h s hs
    ·rw[bM.1 hs];exact hc)
   simp only[aI]at ih⊢
   rw[ih]
   grind
  ·simp only[aI,hc]
   grind
def prs(f:aF)(i:Nat):fD:=((f.aa[i]?).map (·.ag)).getD []
def ixN(f:aF)(s:Str):Nat:=(idxF (fun c:aD=>decide (c.name=s)) f.aa 0).toNat
inductive Lies(f:aF):Nat->Nat->Prop
 |refl (i:Nat):Lies f i i
 |step {i j:Nat}{s:Str}:s∈prs f i->Lies f (ixN f s) j->Lies f i j
def LiesP(f:aF)(i j:Nat):Prop:= ∃s∈prs f i,Lies f (ixN f s) j
theorem Mp{f:aF}{i j:Nat}:Lies f i j ↔ j=i\/LiesP f i j:=by
 constructor
 ·intro h
  cases h with
  |refl=>exact .inl rfl
  |step hs h=>exact .inr ⟨_,hs,h⟩
 ·rintro(rfl|⟨s,hs,h⟩)
  ·exact .refl _
  ·exact .step hs h
theorem NV(bs:List Bool)(i j:Nat)(v:Bool):(bs.set i v).getD j false=if i=j/\i<bs.length then v else bs.getD j false:=by
 rw[bg,bg,dB]
 by_cases h:i=j
 ·subst h
  by_cases hl:i<bs.length
  ·simp[hl]
  ·simp[hl]
 ·simp[h]
theorem LZ(f:aF): ∀(ps:fD) (b:List Bool) (j:Nat),(∀s∈ps,ixN f s<b.length)->((Dk f ps b).getD j false=true ↔ b.getD j false=true \/ ∃s∈ps,ixN f s=j)
 |[],b,j,_=>by rw[Dk];simp
 |s::r,b,j,h=>by
  have h1:=h s (by simp)
  rw[Dk,LZ f r _ j (fun x hx=>by rw[ce];exact h x (by simp[hx])),NV]
  have:(idxF (fun c:aD=>decide (c.name=s)) f.aa 0).toNat=ixN f s:=rfl
  rw[this]
  by_cases hj:ixN f s=j
  ·rw[aS ⟨hj,h1⟩];simp[hj]
  ·rw[aN (fun h=>hj h.1)];simp[hj]
theorem N1(f:aF)(n:Nat)(hp:∀i, ∀s∈prs f i,ixN f s<i): ∀(i:Nat) (b:List Bool) (j:Nat),i<=b.length->((abvD f n i b).getD j false=true ↔ b.getD j false=true \/ ∃k,k<i/\(k=n\/b.getD k false=true)/\LiesP f k j)
 |0,b,j,_=>by rw[abvD];simp
 | i+1,b,j,hb=>by
  rw[abvD]
  by_cases hi:i≠n/\b.getD i false=false
  ·rw [aS hi,N1 f n hp i b j (by omega)]
   constructor
   ·rintro(h|⟨k,h1,h2,h3⟩)
    ·exact .inl h
    ·exact .inr ⟨k,by omega,h2,h3⟩
   ·rintro(h|⟨k,h1,h2,h3⟩)
    ·exact .inl h
    ·refine .inr ⟨k,?_,h2,h3⟩
     have:k≠i:=fun e=>by
      rw[e]at h2
      rcases h2 with h2|h2
      ·exact hi.1 h2
      ·rw[hi.2]at h2;cases h2
     omega
  ·rw [aN hi]
   have hm:i=n\/b.getD i false=true:=by
    by_cases e:i=n
    ·exact .inl e
    ·right
     cases hh:b.getD i false with
     |true=>rfl
     |false=>exact absurd ⟨e,hh⟩ hi
   have d9:=fun j=>LZ f (prs f i) b j (fun s hs=>by have:=hp i s hs;omega)
   have hlen:(Dk f (prs f i) b).length=b.length:=Fq f _ _
   have he:Dk f (((f.aa[i]?).map (·.ag)).getD []) b=Dk f (prs f i) b:=rfl
   rw[he,N1 f n hp i _ j (by omega),d9]
   constructor
   ·rintro((h|⟨s,hs,h⟩)|⟨k,h1,h2,h3⟩)
    ·exact .inl h
    ·exact .inr ⟨i,by omega,hm,s,hs,by rw[h];exact .refl _⟩
    ·rw[d9]at h2
     rcases h2 with h2|h2|⟨s,hs,h⟩
     ·exact .inr ⟨k,by omega,.inl h2,h3⟩
     ·exact .inr ⟨k,by omega,.inr h2,h3⟩
     ·exact .inr ⟨i,by omega,hm,s,hs,Mp.2 (.inr (by rw[h];exact h3))⟩
   ·rintro(h|⟨k,h1,h2,h3⟩)
    ·exact .inl (.inl h)
    ·by_cases e:k=i
     ·subst e
      obtain⟨s,hs,h⟩:=h3
      rcases Mp.1 h with rfl|h
      ·exact .inl (.inr ⟨s,hs,rfl⟩)
      ·exact .inr ⟨ixN f s,hp k s hs,.inr ((d9 _).2 (.inr ⟨s,hs,rfl⟩)),h⟩
     ·refine .inr ⟨k,by omega,?_,h3⟩
      rcases h2 with h2|h2
      ·exact .inl h2
      ·exact .inr ((d9 _).2 (.inl h2))
theorem XQ(f:aF)(n:Nat)(hn:n<f.aa.length)(hp:∀i, ∀s∈prs f i,ixN f s<i)(j:Nat):((abvF f n).set n true).getD j false=true ↔ Lies f n j:=by
 have hl:=Kr f n
 rw[NV,Mp]
 by_cases e:n=j
 ·rw[aS ⟨e,by omega⟩];simp[e]
 ·rw[aN (fun h=>e h.1)]
  unfold abvF
  rw[N1 f n hp _ _ _ (by rw[bu];omega)]
  have hz:∀k,(List.replicate f.aa.length false).getD k false=false:=fun k=>by
   rw[bg,ez];split<;>rfl
  constructor
  ·rintro(h|⟨k,h1,h2|h2,h3⟩)
   ·rw[hz]at h;cases h
   ·right;rw[<-h2];exact h3
   ·rw[hz]at h2;cases h2
  ·rintro(h|h)
   ·exact absurd h.symm e
   ·exact .inr ⟨n,by omega,.inl rfl,h⟩
theorem JE{x:Str}: ∀(cs:List aD) (bs:List Bool),x∈IB cs bs ↔ ∃j, ∃h:j<cs.length,bs.getD j false=true/\x∈cs[j].ae
 |[],bs=>by cases bs<;>simp[IB]
 |c::cs,[]=>by
  simp[IB]
 | c::cs,b::bs=>by
  rw[IB,bk,JE cs bs]
  constructor
  ·rintro(h|⟨j,hj,h1,h2⟩)
   ·cases b with
    |false=>simp at h
    |true=>exact⟨0,by simp,rfl,by simpa using h⟩
   ·exact⟨j+1,by simp only[aP];omega,by simpa using h1,by simpa using h2⟩
  ·rintro⟨j,hj,h1,h2⟩
   cases j with
   |zero=>
    have h1:b=true:=h1
    left;rw[aS h1];exact h2
   |succ j=>exact .inr ⟨j,by simp only[aP]at hj;omega,by simpa using h1,by simpa using h2⟩
def HasS(f:aF)(i:Nat)(x:Str):Prop:= ∃j,Lies f i j /\ ∃h:j<f.aa.length,x∈f.aa[j].ae
theorem Qm(s:Str): ∀(a b:fD) (k:Nat),s∈a->idxG s (a++b) k=idxG s a k
 |[],_,_,h=>by cases h
 | x::r,b,k,h=>by
  rw[bl,idxG,idxG]
  by_cases e:x=s
  ·rw[aS e,aS e]
  ·rw[aN e,aN e,Qm s r b]
   exact(aY.1 h).resolve_left (fun h=>e h.symm)
theorem NR(s:Str): ∀(l:List aD) (k:Nat),idxG s (l.map (·.name)) k=idxF (fun c:aD=>decide (c.name=s)) l k
 |[],_=>rfl
 |c::r,k=>by
  rw[ba,idxG,idxF,NR s r]
  by_cases e:c.name=s<;>simp[e]
theorem NP{mine mine':fD}(hm:∀x,x∈mine ↔ x∈mine')(hn:∀s∈mine',AJ s=true): ∀(l:List aG) (seen:fD),iniE mine seen l=iniR mine' seen l
 |[],_=>rfl
 |x::r,seen=>by
  rw[iniE,iniR,NP hm hn r,cJ.2 (hm x.slot)]
  by_cases h:x.slot∈mine'
  ·rw[aX h,hn _ h];cases decide (x.slot∈seen)<;>cases inB x.n<;>simp
  ·rw[aV h];simp
theorem TR(f:aF)(gn:∀s∈f.aa.flatMap (·.ae),AJ s=true)(hp:∀i, ∀s∈prs f i,s∈(f.aa.take i).map (·.name)): ∀(l pre:List aD) (hs:List fD),f.aa=pre++l->hs.length=pre.length->
  (∀j<pre.length, ∀x,x∈(hs[j]?).getD [] ↔ HasS f j x)->iniL (pre.map (·.name)) hs l=inisR f pre.length l
 |[],_,_,_,_,_=>rfl
 | c::r,pre,hs,hf,hl,hh=>by
  have gb:pre.length<f.aa.length:=by rw[hf];simp
  have gg:f.aa[pre.length]=c:=by simp[hf]
  have go:prs f pre.length=c.ag:=by unfold prs;rw[aM gb,gg];rfl
  have gk:f.aa.take pre.length=pre:=by rw[hf];simp
  have ga:∀i, ∀s∈prs f i,ixN f s<i/\idxG s ((f.aa.take i).map (·.name)) 0=ixN f s:=fun i s hs=>by
   have h1:=hp i s hs
   have h2:idxG s (f.aa.map (·.name)) 0=idxG s ((f.aa.take i).map (·.name)) 0:=by
    conv=>lhs;rw[<-dA i f.aa,bI]
    exact Qm s _ _ 0 h1
   have h3:=(Pr s ((f.aa.take i).map (·.name)) 0 h1).2
   rw[aZ,cj]at h3
   have h4:ixN f s=(idxG s ((f.aa.take i).map (·.name)) 0).toNat:=by rw[<-h2,NR];rfl
   rw[h4];omega
  have e8:∀x,x∈Eu (pre.map (·.name)) hs c ↔ HasS f pre.length x:=fun x=>by
   unfold Eu
   rw[bk,dX]
   constructor
   ·rintro(⟨s,h1,h2⟩|h)
    ·rw[<-go]at h1
     obtain⟨g1,g2⟩:=ga _ s h1
     rw[gk]at g2
     unfold NS at h2
     rw[g2,show((ixN f s:Nat):Int).toNat=ixN f s by omega]at h2
     obtain⟨j,a1,a2⟩:=(hh _ g1 x).1 h2
     exact⟨j,.step h1 a1,a2⟩
    ·exact⟨pre.length,.refl _,gb,by rw[gg];exact h⟩
   ·rintro⟨j,h1,h2⟩
    cases h1 with
    |refl=>
     obtain⟨h3,h4⟩:=h2
     right;rw[gg]at h4;exact h4
    |step fN h1=>
     rename_i s
     obtain⟨g1,g2⟩:=ga _ s fN
     rw[gk]at g2
     refine .inl ⟨s,by rw[<-go];exact fN,?_⟩
     unfold NS
     rw[g2,show((ixN f s:Nat):Int).toNat=ixN f s by omega]
     exact(hh _ g1 x).2 ⟨j,h1,h2⟩
  have hR:∀x,x∈IB f.aa ((abvF f pre.length).set pre.length true) ↔ HasS f pre.length x:=fun x=>by
   rw[JE]
   refine exists_congr fun j=>?_
   rw[XQ f _ gb (fun i s hs=>(ga i s hs).1) j]
   exact⟨fun ⟨a,b,c⟩=>⟨b,a,c⟩,fun ⟨b,a,c⟩=>⟨a,b,c⟩⟩
  rw[iniL,inisR,NP (fun x=>(e8 x).trans (hR x).symm) (fun s hs=>by
   obtain⟨j,_,h1,h2⟩:=(hR s).1 hs
   exact gn s (dX.2 ⟨_,aJ h1,h2⟩))]
  congr 1
  have ih:=TR f gn hp r (pre++[c]) (hs++[Eu (pre.map (·.name)) hs c]) (by rw[hf];simp) (by simp[hl]) (fun j hj x=>by
   by_cases h1:j<hs.length
   ·rw[bx h1];exact hh j (by omega) x
   ·have:j=pre.length:=by simp only[aH,aP,cf]at hj;omega
    subst this
    rw[bR (by omega),hl,eg]
    exact e8 x)
  rw[bI]at ih
  simp only[ba,bJ,aH,aP,cf,ck]at ih
  exact ih
theorem Ki: ∀(l:List aD) (own:fD),D4 own l=true->∀i, ∀s∈((l[i]?).map (·.ag)).getD [],s∈own++(l.take i).map (·.name)
 |[],_,_,i,s,h=>by simp at h
 | c::r,own,h,i,s,hs=>by
  rw[D4]at h
  simp only[aI]at h
  cases i with
  |zero=>
   have hs:s∈c.ag:=by simpa using hs
   have:=bc.1 h.2.1 s hs
   simpa using this
  |succ i=>
   have:=Ki r (own++[c.name]) h.2.2 i s (by simpa using hs)
   simpa[aT] using this
theorem clsB_eq(f:aF):clsB f=(Ep f&&inisR f 0 f.aa):=by
 have gj:decide (f.aa.length<=10) = !decide (10<f.aa.length):=by rw[<-decide_not];exact cJ.2 (by omega)
 unfold clsB Ep
 rw[LP,gj,ep]
 congr 1
 rw[aO]
 have hS:=Wa f.aa [] [] (fun s hs=>by cases hs)
 unfold Dy
 simp only[aI]
 rw[hS]
 have key:D4 [] f.aa=true->(f.aa.flatMap (·.ae)).all AJ=true->iniL [] [] f.aa=inisR f 0 f.aa:=fun h1 h2=>
  TR f (fun s hs=>bc.1 h2 s hs) (fun i s hs=>by have:=Ki _ _ h1 i s hs;simpa using this) f.aa [] [] rfl rfl (fun j hj=>by simp at hj)
 constructor
 ·rintro⟨⟨a,b,c⟩,d⟩
  exact⟨⟨a,b,c⟩,by rw[<-key a c.1];exact d⟩
 ·rintro⟨⟨a,b,c⟩,d⟩
  exact⟨⟨a,b,c⟩,by rw[key a c.1];exact d⟩
theorem Tc(f:aF):Gy f=(BG f).isSome:=by
 unfold Gy BG Mv
 rw[clsB_eq]
 by_cases h1:Ep f=true
 ·by_cases h2:inisR f 0 f.aa=true
  ·by_cases h3:f.methods.length<=16
   ·have gc:f.aa.length<=10:=by
     unfold Ep at h1
     simp only[aI,bw,be]at h1
     omega
    rw[h1,h2,aX h3]
    simp only[aW,Bool.and_true,bp]
    have hk:=NK (names:=f.aa.map (·.name)) (ae:=f.aa.flatMap (·.ae)) (args:=[]) (lits:=false) (e:=f.main) (n:=(f.aa.length:Int)) (by omega)
    cases hm:C7 (f.aa.map (·.name)) (f.aa.flatMap (·.ae)) [] false f.main f.aa.length with
    |none=>
     simp only[Option.isSome_none]
     rw[dQ]
     intro hh
     simp only[aI,aL]at hh
     obtain⟨a,⟨b,c⟩,_⟩:=hh
     unfold budR at b
     have:=(hk (f.aa.length+(allE f.main).length)).2 ⟨a,rfl,by omega,c⟩
     rw[this]at hm;cases hm
    | some n =>
     obtain⟨a,b,c,d⟩:=(hk n).1 hm
     have hb:budR f=120-n:=by unfold budR;omega
     have ho:ownR f=f.aa.map (·.name):=rfl
     have gA:slotsR f=f.aa.flatMap (·.ae):=rfl
     have gG:=NC (names:=f.aa.map (·.name)) (ae:=f.aa.flatMap (·.ae)) f.methods n (by omega) c
     rw[hb,ho,gA,<-gG,d,a,aX (show 0<=120-n by omega)]
     simp only[aW]
     cases fV:DK (f.aa.map (·.name)) (f.aa.flatMap (·.ae)) f.methods n with
     |none=>rfl
     |some k=>
      simp only[Option.isSome_some,aW]
      cases hg:((BM f).2&&decide ((BM f).1.length<=8))<;>simp
   ·rw[aV h3];simp
  ·simp[h2]
 ·simp[h1]
def cntB(p:aw):Nat->Int->Nat
 |0,_=>1
 |k+1,node=>1+wtL (cntB p k) (As p node).ah
def negS(s:fF):Nat:=s.countP (· < 0)
theorem Qa: ∀(s:fF) (n:Nat) (v:Int),n<s.length->s.getD n 0<0->0<=v->negS (s.set n v)+1=negS s
 |[],n,v,h,_,_=>by simp at h
 |x::r,0,v,_,h,hv=>by
  have hx:x<0:=h
  simp only[eZ,negS,List.countP_cons,hx,fp,bp]
  rw[aN (by simpa using hv)]
 |x::r,n+1,v,hl,h,hv=>by
  have:=Qa r n v (by simpa using hl) (by simpa using h) hv
  simp only[negS]at this
  simp only[el,negS,List.countP_cons]
  omega
theorem J7{p:aw}{k:Nat}{f:Int->Int->fF->Bool×fF}{x:aA}{size:Int}
  (hf:∀c z s s',f c z s=(true,s')->s.length=p.nodes.length->0<=z->okE p k c z.toNat/\s'.length=s.length/\cntB p k c+negS s'<=negS s) (hz:0<=size) :
  ∀(l:fF) (j:Nat) (s s':fF),BE f x size j l s=(true,s')->s.length=p.nodes.length->
   (∀(i:Nat) (h:i<l.length),okE p k l[i] (if x.op=9/\j+i=1 then size.toNat+1 else size.toNat))/\s'.length=s.length/\wtL (cntB p k) l+negS s'<=negS s
 |[],j,s,s',h,hs=>by
  rw[BE]at h;cases h
  exact⟨fun i h=>by simp at h,rfl,by rw[wtL];omega⟩
 | c::r,j,s,s',h,hs=>by
  rw[BE]at h
  cases hc:f c (if x.op=9/\j=1 then size+1 else size) s with
  | mk b s1 =>
   rw[hc]at h
   cases b with
   |false=>simp at h
   | true =>
    obtain⟨h1,h2,h3⟩:=hf _ _ _ _ hc hs (by split<;>omega)
    obtain⟨h4,h5,h6⟩:=J7 hf hz r (j+1) s1 s' h (by omega)
    refine⟨fun i hi=>?_,by omega,by rw[wtL];omega⟩
    cases i with
    |zero=>
     simp only[dM,eF]
     rw[show(if x.op=9/\j=1 then size.toNat+1 else size.toNat)=(if x.op=9/\j=1 then size+1 else size).toNat by split<;>omega]
     exact h1
    |succ i=>
     have:=h4 i (by simpa using hi)
     rw[show j+1+i=j+(i+1) by omega]at this
     exact this
theorem IF(p:aw)(inM:Bool): ∀(k:Nat) (node size:Int) (s s':fF),C0 p inM k node size s=(true,s')->s.length=p.nodes.length->0<=size->okE p k node size.toNat/\s'.length=s.length/\cntB p k node+negS s'<=negS s
 |0,_,_,_,_,h,_,_=>by simp[C0]at h
 | k+1,node,size,s,s',h,hs,hz=>by
  rw[C0]at h
  split at h
  ·simp at h
  ·rename_i h1
   split at h
   ·simp at h
   ·rename_i h2
    obtain⟨h4,h5,h6⟩:=J7 (IF p inM k) hz (As p node).ah 0 _ s' h (by simpa using hs)
    have hn:node.toNat<s.length:=by omega
    have h7:=Qa s node.toNat size hn (by omega) hz
    refine⟨?_,by rw[h5,ce],by rw[cntB];omega⟩
    rw[okE]
    refine⟨⟨by omega,by omega⟩,?_,fun j hj=>?_⟩
    ·rw[show((size.toNat:Nat):Int)=size by omega]
     cases hb:Bn p (As p node) size
     ·exact absurd (.inr (.inl hb)) h2
     ·rfl
    ·have:=h4 j hj
     rw[ck]at this
     exact this
theorem KR{p:aw}{k:Nat}{f:Int->fD->Nat->aB×Nat}{op:Int}{txt:Str}{env:fD}(hf:∀c e t,(f c e t).2<=t+cntB p k c): ∀(l:fF) (j t:Nat),(CG f op txt env j l t).2<=t+wtL (cntB p k) l
 |[],_,t=>by rw[CG,wtL];simp
 |c::r,j,t=>by
  rw[CG,wtL]
  have h1:=hf c (if op=9/\j=1 then env++[txt] else env) t
  have h2:=KR (op:=op) (txt:=txt) (env:=env) hf r (j+1) (f c (if op=9/\j=1 then env++[txt] else env) t).2
  simp only
  omega
theorem Pa(p:aw)(a b g P:fD): ∀(k:Nat) (node:Int) (env:fD) (t:Nat),(spE p a b g P k node env t).2<=t+cntB p k node
 |0,_,_,t=>by rw[spE,cntB];simp
 |k+1,node,env,t=>by
  rw[spE,cntB]
  have:=KR (op:=(As p node).op) (txt:=Cp a b g P (As p node) env t) (env:=env) (Pa p a b g P k) (As p node).ah 0 (if(As p node).op=9 then t+1 else t)
  have h2:(if(As p node).op=9 then t+1 else t)<=t+1:=by split<;>omega
  generalize (if(As p node).op=9 then t+1 else t)=t0 at*
  simp only
  omega
theorem JF(p:aw): ∀(l:List ay) (s s':fF),Dz p l s=some s'->s.length=p.nodes.length->(∀g∈p.aj,1<=g)->
  (∀m∈l,Ev p m=true/\okE p 12 m.node (D5 p m)/\cntB p 12 m.node<=p.nodes.length)/\s'.length=s.length/\negS s'<=negS s
 |[],s,s',h,hs,_=>by rw[Dz]at h;cases h;exact⟨by simp,rfl,bm _⟩
 | m::r,s,s',h,hs,hg=>by
  rw[Dz]at h
  split at h
  ·rename_i hm
   cases hw:C0 p (decide (m.kind=1)||decide (m.kind=4)) 12 m.node (p.aj.getD m.gen.toNat 0) s with
   | mk b s1 =>
    rw[hw]at h
    cases b with
    |false=>simp[optW]at h
    | true =>
     simp only[optW]at h
     have e7:0<=m.gen/\m.gen<p.aj.length:=by
      unfold Ev at hm
      simp only[aI,aL]at hm
      exact hm.1.1.2
     have h0:0<=p.aj.getD m.gen.toNat 0:=by
      have hl:m.gen.toNat<p.aj.length:=by omega
      rw[bg,aM hl]
      have:=hg _ (aJ hl)
      simp only[bP];omega
     obtain⟨h1,h2,h3⟩:=IF p _ 12 _ _ _ _ hw hs h0
     obtain⟨h4,h5,h6⟩:=JF p r s1 s' h (by omega) hg
     have f9:negS s<=s.length:=eN
     refine⟨fun x hx=>?_,by omega,by omega⟩
     rcases aY.1 hx with rfl|hx
     ·exact⟨hm,h1,by omega⟩
     ·exact h4 x hx
  ·cases h
theorem Hn: ∀(l:fF) (n m:Int),CH n l=some m->m=n+l.length /\ ∀x∈l,n<=x/\x<m
 |[],n,m,h=>by rw[CH]at h;cases h;simp
 | s::r,n,m,h=>by
  rw[CH]at h
  split at h
  ·rename_i hs
   obtain⟨h1,h2⟩:=Hn r _ _ h
   refine⟨by rw[h1,aP];omega,fun x hx=>?_⟩
   rcases aY.1 hx with rfl|hx
   ·omega
   ·have:=h2 x hx;omega
  ·cases h
theorem Gs: ∀(cs:List ax) (n m:Int),BC n cs=some m->m=n+wtL (fun c:ax=>c.ae.length) cs/\(∀c∈cs, ∀x∈c.ae,n<=x/\x<m)/\wtL (fun c:ax=>c.ae.length) cs<=4*cs.length
 |[],n,m,h=>by rw[BC]at h;cases h;simp[wtL]
 | c::r,n,m,h=>by
  rw[BC]at h
  split at h
  ·cases h
  ·rename_i h4
   split at h
   ·cases h
   ·rename_i m1 hm
    obtain⟨h1,h2⟩:=Hn _ _ _ hm
    obtain⟨h5,h6,h7⟩:=Gs r _ _ h
    refine⟨by rw[wtL];omega,fun x hx y hy=>?_,by rw[wtL,aP];omega⟩
    rcases aY.1 hx with rfl|hx
    ·have:=h2 y hy;omega
    ·have:=h6 x hx y hy;omega
theorem F5: ∀(cs:List ax) (i:Nat),(ownersF cs i).length=wtL (fun c:ax=>c.ae.length) cs
 |[],_=>by rw[ownersF,wtL];rfl
 |c::r,i=>by rw[ownersF,wtL,aH,bu,F5 r]
theorem IQ(cs:List ax)(Q:Int->Prop)(hQ:∀c∈cs, ∀x∈c.ae,Q x): ∀(n:Nat) (up out:fF),(∀x∈out,Q x)->∀x∈hasG cs n up out,Q x
 |0,_,out,ho,x,hx=>by rw[hasG]at hx;exact ho x hx
 | n+1,up,out,ho,x,hx=>by
  rw[hasG]at hx
  split at hx
  ·rename_i c hc
   split at hx
   ·refine IQ cs Q hQ n _ _ (fun y hy=>?_) x hx
    rcases bk.1 hy with hy|hy
    ·exact ho y hy
    ·exact hQ c (cK hc) y hy
   ·exact IQ cs Q hQ n _ _ ho x hx
  ·exact IQ cs Q hQ n _ _ ho x hx
theorem NN(has:fF): ∀(l:List Init) (seen:fF),DM has seen l=true->∀x∈l,x.slot∈has
 |[],_,_,x,hx=>by simp at hx
 |y::r,seen,h,x,hx=>by
  rw[DM]at h
  simp only[aI,aL]at h
  rcases aY.1 hx with rfl|hx
  ·exact h.1.1.1
  ·exact NN has r _ h.2 x hx
theorem Ip(p:aw): ∀(l:List ax) (i:Nat),Bo p i l=true->∀c∈l, ∃j:Int,DM (hasP p j) [] c.ai=true
 |[],_,_,c,hc=>by simp at hc
 |y::r,i,h,c,hc=>by
  rw[Bo]at h
  simp only[aI,aL]at h
  rcases aY.1 hc with rfl|hc
  ·exact⟨_,h.1.2⟩
  ·exact Ip p r _ h.2 c hc
structure ClassesOK(p:aw):Prop where
 len:p.aa.length<=10
 ae:0<=p.ae/\p.ae<=40
 own:((AK p).owner.length:Int)=p.ae
 cls:∀c∈p.aa,ClsIx (3+p.aa.length) p.ae.toNat c
theorem SF{p:aw}(h:At p=true):ClassesOK p:=by
 unfold At at h
 simp only[aI,aL]at h
 obtain⟨gj,h⟩:=h
 split at h
 ·cases h
 ·rename_i n hn
  simp only[aI,aL]at h
  obtain⟨⟨f9,hg⟩,hi⟩:=h
  obtain⟨k1,k2,k3⟩:=Gs _ _ _ hn
  refine⟨gj,by omega,by show((ownersF p.aa 0).length:Int)=p.ae;rw[F5];omega,fun c hc=>⟨fun x hx=>?_,fun x hx=>?_,fun x hx=>?_⟩⟩
  ·obtain⟨k,hk,rfl⟩:=bh hc
   have:=(BI hg (k+3)).2 x (by
    unfold parentsF
    rw[aN (by omega)]
    rw[show(((k+3:Nat):Int)-3).toNat=k by omega,aM (by simpa using hk)]
    simpa using hx)
   exact⟨by omega,by omega⟩
  ·have:=k2 c hc x hx
   exact⟨by omega,by omega⟩
  ·obtain⟨j,hj⟩:=Ip p _ _ hi c hc
   have h1:=NN _ _ _ hj x hx
   unfold hasP at h1
   unfold F2 at h1
   have h2:=IQ p.aa (fun x=>0<=x/\x<n) k2 _ _ [] (by simp) _ (fa.1 h1)
   exact⟨by omega,by omega⟩
theorem mx_le(x y:Int):x<=mx x y/\y<=mx x y:=by unfold mx;split<;>omega
theorem KQ: ∀(l:List Fact) (n:Int),n<=Fact.speakss l n /\ ∀x∈l,x.speaks<=Fact.speakss l n
 |[],n=>by rw[Fact.speakss];simp
 |f::l,n=>by
  rw[Fact.speakss]
  obtain⟨h1,h2⟩:=KQ l (mx n f.speaks)
  obtain⟨h3,h4⟩:=mx_le n f.speaks
  refine⟨by omega,fun x hx=>?_⟩
  rcases aY.1 hx with rfl|hx
  ·omega
  ·exact h2 x hx
theorem R6{α S:Type}(f:α->S->Bool×S): ∀(l:List α) (s s':S),allS f l s=(true,s')->∀x∈l, ∃t t',f x t=(true,t')
 |[],_,_,_,x,hx=>by simp at hx
 | y::r,s,s',h,x,hx=>by
  rw[allS]at h
  cases hy:f y s with
  | mk b s1 =>
   rw[hy]at h
   cases b with
   |false=>simp at h
   |true=>
    rcases aY.1 hx with rfl|hx
    ·exact⟨_,_,hy⟩
    ·exact R6 f r _ _ h x hx
theorem U0{A S P:Nat}: ∀(l:List Fact),(∀x∈l,FIx A S P x)->FIxs A S P l
 |[],_=>by rw[FIxs];trivial
 |x::r,h=>by rw[FIxs];exact⟨h x (by simp),U0 r fun y hy=>h y (by simp[hy])⟩
theorem Q8(w:World)(P:Nat): ∀(d:Nat) (f:Fact) (s s':Int),Dx w d f s=(true,s')->f.speaks<=P->FIx (3+w.ag.length) w.owner.length P f
 |0,_,_,_,h,_=>by simp[Dx]at h
 | d+1,f,s,s',h,hP=>by
  have gB:=Fact.speaks_eq f
  rw[gB]at hP
  obtain⟨g1,g2⟩:=KQ f.ah (if C9 f.op then IntKind.i64.wrap (f.arg+1) else 0)
  rw[Dx]at h
  split at h
  ·simp at h
  ·rename_i f7
   split at h
   ·rename_i hl
    rw[aS hl]at g1 g2 hP
    simp only[da]at h
    have fJ:=h.1
    unfold I8 at fJ
    simp only[aI,aL]at fJ
    obtain⟨⟨⟨a1,a2⟩,e9⟩,hr⟩:=fJ
    unfold Nt at e9
    simp only[aI,bc,aL]at e9
    have hk:f.ah=[]:=by
     have gP:f.ah.length=By f.op:=cG fun e=>f7 (.inr (.inr (.inr e)))
     have:By f.op=0:=by
      unfold C9 at hl
      simp only[bL,aL]at hl
      unfold By
      rw[aN (by omega),aN (by omega)]
     exact dt (by omega)
    have hw:IntKind.i64.wrap (f.arg+1)=f.arg+1:=Ar (by omega) (by omega)
    rw[hw]at g1 hP
    have gL:f.arg<(P:Int):=by omega
    have gC:f.op=2->0<=f.cls/\f.cls<3+w.ag.length:=fun ho=>by
     rw[aS ho]at hr
     simp only[aI,aL]at hr
     exact hr.2
    clear hr
    cases f with
    |mk o a pth c n k=>
     simp only[Fact.ah,Fact.op,Fact.arg,Fact.path,Fact.cls,Fact.n]at*
     rw[FIx]
     refine⟨fun x hx=>?_,fun ho=>?_,fun _=>⟨a1,gL⟩,by rw[hk,FIxs];trivial⟩
     ·have:=e9.2 x hx;exact⟨this.1,this.2⟩
     ·have:=gC ho;exact⟨this.1,by omega⟩
   ·rename_i hl
    split at h
    ·rename_i h0
     obtain⟨b1,b2,b3,b4⟩:=h0
     have fP:∀x∈f.ah,FIx (3+w.ag.length) w.owner.length P x:=fun x hx=>by
      obtain⟨t,t',ht⟩:=R6 _ _ _ _ h x hx
      exact Q8 w P d x t t' ht (by have:=g2 x hx;omega)
     cases f with
     |mk o a pth c n k=>
      simp only[Fact.ah,Fact.op,Fact.arg,Fact.path,Fact.cls,Fact.n]at*
      have gE:pth=[]:=dt b2
      unfold C9 at hl
      simp only[bL,aL]at hl
      rw[FIx]
      exact⟨fun x hx=>by rw[gE]at hx;simp at hx,fun ho=>absurd (.inl (.inl ho)) hl,fun ho=>absurd (by omega) hl,U0 _ fP⟩
    ·simp at h
theorem sp_ok{p:aw}(gx:p.wt<=100000000)(h:okP p=true):SpOK p:=by
 unfold okP Da at h
 split at h
 ·rename_i hc
  simp only[aI,aL,bc]at hc
  obtain⟨⟨gc,⟨⟨h8,gM⟩,gF⟩,gh⟩,hg⟩:=hc
  have hC:=SF gc
  cases hm:Dz p p.methods (List.replicate p.nodes.length (-1))with
  |none=>rw[hm]at h;simp at h
  | some s =>
   rw[hm]at h
   obtain⟨k1,k2,k3⟩:=JF p p.methods _ s hm (by simp) (fun g hx=>(hg g hx).1)
   rw[bu]at k2
   cases hw:C0 p false 12 p.main 0 s with
   | mk b s2 =>
    simp only[hw]at h
    cases b with
    |false=>simp[optW]at h
    | true =>
     obtain⟨m1,m2,m3⟩:=IF p false 12 _ _ _ _ hw k2 (dC _)
     have f9:negS s<=s.length:=eN
     have gr:=Pa p (spA p) (spS p) (spG p) (spL p) 12 p.main [] 0
     refine⟨gx,⟨hC.ae.1,by have:=hC.ae.2;omega⟩,hC.cls,fun m fV=>?_,m1,by omega⟩
     obtain⟨q1,q2,q3⟩:=k1 m fV
     unfold Ev at q1
     simp only[aI,aL]at q1
     obtain⟨⟨⟨_,e7⟩,d6⟩,fY⟩:=q1
     have gI:1<=p.aj.getD m.gen.toNat 0/\p.aj.getD m.gen.toNat 0<=3:=by
      have hl:m.gen.toNat<p.aj.length:=by omega
      rw[bg,aM hl]
      exact hg _ (aJ hl)
     have f6:((D5 p m:Nat):Int)=p.aj.getD m.gen.toNat 0:=by unfold D5;omega
     have gw:=Pa p (spA p) (spS p) (spG p) (spL p) 12 m.node ((spL p).take (D5 p m)) (D5 p m)
     refine⟨⟨e7.1,e7.2⟩,⟨by omega,by omega⟩,?_,q2,by omega⟩
     unfold Dp at d6
     cases hf:Dx (AK p) 12 m.fact 24 with
     | mk b t =>
      rw[hf]at d6
      cases b with
      |false=>simp at d6
      |true=>
       have:=Q8 (AK p) (D5 p m) 12 m.fact 24 t hf (by omega)
       have ho:(AK p).owner.length=p.ae.toNat:=by have:=hC.own;have:=hC.ae.1;omega
       rw[ho]at this
       have gD:(AK p).ag.length=p.aa.length:=by show(p.aa.map (·.ag)).length=_;rw[aZ]
       rw[gD]at this
       exact this
 ·simp at h
def Bh(l:fD):Prop:= ∀s∈l,s.length<=8
theorem H0{f:Nat->Option Str}: ∀(k j:Nat) (w:Str),En f k j=some w->∃i,j<=i/\i<j+k/\f i=some w
 |0,_,_,h=>by simp[En]at h
 | k+1,j,w,h=>by
  rw[Ed]at h
  split at h
  ·rename_i x hx;cases h;exact⟨j,by omega,by omega,hx⟩
  ·obtain⟨i,h1,h2,h3⟩:=H0 k (j+1) w h
   exact⟨i,by omega,by omega,h3⟩
theorem NT(tk:fD): ∀(n:Nat) (s w:Str),DT tk n s=some w->w.length=s.length+n
 |0,s,w,h=>by
  rw[DT]at h
  split at h
  ·cases h
  ·cases h;rfl
 |n+1,s,w,h=>by
  rw[DT]at h
  obtain⟨i,_,_,h1⟩:=H0 _ _ _ h
  have:=NT tk n _ _ h1
  simp at this;omega
theorem Ru(tk:fD):(DN tk).length<=8:=by
 unfold DN
 cases h:JW tk with
 |none=>simp
 |some w=>
  unfold JW at h
  obtain⟨i,h1,h2,h3⟩:=H0 _ _ _ h
  have:=NT tk i _ _ h3
  simp at this⊢; omega
theorem Ir: ∀(n:Nat) (l:fD),Bh l->Bh (D2 n l)
 |0,l,h=>h
 |n+1,l,h=>by
  rw[D2]
  refine Ir n _ fun s hs=>?_
  rcases bk.1 hs with hs|hs
  ·exact h s hs
  ·rw[bM.1 hs];exact Ru l
theorem DB(n:Nat):Bh (AW n):=Ir n [] fun s hs=>by simp at hs
theorem T0(p:aw):Bh (spA p):=fun s hs=>by
 unfold spA at hs
 rcases bk.1 hs with hs|hs
 ·simp at hs
  rcases hs with rfl|rfl|rfl<;>decide
 ·exact DB _ s hs
theorem Ey{l:fD}(h:Bh l)(n:Int):(ixS l n).length<=8:=by
 unfold ixS
 cases hn:l[n.toNat]? with
 |none=>simp
 |some s=>exact h s (cK hn)
theorem FA: ∀{l:fD},Bh l->wtS l<=9*l.length
 |[],_=>by simp[wtS,wtL]
 |x::l,h=>by
  have h1:=h x (by simp)
  have h2:=FA (l:=l) fun s hs=>h s (by simp[hs])
  unfold wtS at h2⊢
  rw[wtL,aP];omega
theorem F7{l:fD}(h:Bh l)(k:fF):Bh (k.map (ixS l)):=fun s hs=>by
 obtain⟨x,_,rfl⟩:=bO.1 hs
 exact Ey h x
theorem spC_wt{a b:fD}(ha:Bh a)(hb:Bh b)(c:ax)(n:Str)(hn:n.length<=8):aD.wt { spC a b c with name:=n }<=9*c.wt:=by
 have h1:=FA (F7 ha c.ag)
 have h2:=FA (F7 hb c.ae)
 have h3:∀l:List Init,wtL aG.wt (l.map fun x=>⟨ixS b x.slot,x.n⟩)<=9*l.length:=fun l=>by
  induction l with
  |nil=>simp[wtL]
  |cons x l ih=>
   have:=Ey hb x.slot
   simp only[ba,wtL,aP,aG.wt];omega
 have h4:=h3 c.ai
 rw[aZ]at h1 h2
 show 1+n.length+wtS (c.ag.map (ixS a))+wtS (c.ae.map (ixS b))+wtL aG.wt (c.ai.map fun x=>⟨ixS b x.slot,x.n⟩)<=9*(1+c.ag.length+c.ae.length+c.ai.length)
 omega
mutual
theorem XV{a b P:fD}(ha:Bh a)(hb:Bh b)(hP:Bh P): ∀f:Fact,(spF a b P f).wt<=17*f.wt
 |.mk o g p c n k=>by
  have h1:=FA (F7 hb p)
  rw[aZ]at h1
  have h2:=SY ha hb hP k
  have h3:(if o=2\/o=3\/o=4 then ixS P g else([]:Str)).length<=8:=by split;exact Ey hP g;simp
  have h4:(if o=2 then ixS a c else([]:Str)).length<=8:=by split;exact Ey ha c;simp
  rw[spF,aC.wt,Fact.wt]
  omega
theorem SY{a b P:fD}(ha:Bh a)(hb:Bh b)(hP:Bh P): ∀l:List Fact,aC.wts (spFs a b P l)<=17*Fact.wts l
 |[]=>by rw[spFs,aC.wts,Fact.wts];omega
 |x::r=>by
  have h1:=XV ha hb hP x
  have h2:=SY ha hb hP r
  rw[spFs,aC.wts,Fact.wts];omega
end
theorem SX{a b g P env:fD}(ha:Bh a)(hb:Bh b)(hg:Bh g)(hP:Bh P)(he:Bh env)(x:aA)(t:Nat):(Cp a b g P x env t).length<=8:=by
 unfold Cp
 repeat' split
 ·exact Ey he _
 ·exact Ey hb _
 ·exact Ey hg _
 ·exact Ey ha _
 ·exact Ey hP _
 ·simp
theorem Nh{p:aw}{k:Nat}{f:Int->fD->Nat->aB×Nat}{op:Int}{txt:Str}{env:fD}(hf:∀c e t,Bh e->(f c e t).1.wt<=9*cntB p k c)(he:Bh env)(ht:txt.length<=8): ∀(l:fF) (j t:Nat),aB.wts (CG f op txt env j l t).1<=9*wtL (cntB p k) l
 |[],_,_=>by rw[CG,wtL,aB.wts];omega
 | c::r,j,t=>by
  have hs:Bh (if op=9/\j=1 then env++[txt] else env):=by
   split
   ·intro s hs
    rcases bk.1 hs with hs|hs
    ·exact he s hs
    ·rw[bM.1 hs];exact ht
   ·exact he
  have h1:=hf c _ t hs
  have h2:=Nh (op:=op) hf he ht r (j+1) (f c (if op=9/\j=1 then env++[txt] else env) t).2
  rw[CG,wtL,aB.wts]
  omega
theorem SZ(p:aw){a b g P:fD}(ha:Bh a)(hb:Bh b)(hg:Bh g)(hP:Bh P): ∀(k:Nat) (node:Int) (env:fD) (t:Nat),Bh env->(spE p a b g P k node env t).1.wt<=9*cntB p k node
 |0,_,_,_,_=>by simp[spE,cntB,aB.wt,aB.wts]
 |k+1,node,env,t,he=>by
  have ht:=SX ha hb hg hP he (As p node) t
  have:=Nh (op:=(As p node).op) (fun c e t hs=>SZ p ha hb hg hP k c e t hs) he ht (As p node).ah 0 (if(As p node).op=9 then t+1 else t)
  rw[spE,cntB,aB.wt]
  omega
theorem Q7 (w:World) : ∀ (d:Nat) (f:Fact) (s s':Int),Dx w d f s=(true,s')->0<=s/\s<=1000->0<=s'/\(f.wt:Int)<=3*(s-s')
 |0,_,_,_,h,_=>by simp[Dx]at h
 | d+1,f,s,s',h,hs=>by
  have hw:IntKind.i64.wrap (s-1)=s-1:=Ar (by omega) (by omega)
  rw[Dx,hw]at h
  split at h
  ·simp at h
  ·rename_i f7
   have gO:f.ah.length=By f.op:=cG fun e=>f7 (.inr (.inr (.inr e)))
   have fN:0<=s-1:=by omega
   have gJ:f.wt=1+f.path.length+Fact.wts f.ah:=by cases f;rw[Fact.wt];rfl
   split at h
   ·rename_i hl
    simp only[da]at h
    obtain⟨fJ,rfl⟩:=h
    unfold I8 at fJ
    simp only[aI,aL]at fJ
    obtain⟨⟨_,e9⟩,_⟩:=fJ
    unfold Nt at e9
    simp only[aI,aL]at e9
    have hk:f.ah=[]:=by
     have:By f.op=0:=by
      unfold C9 at hl
      simp only[bL,aL]at hl
      unfold By
      rw[aN (by omega),aN (by omega)]
     exact dt (by omega)
    rw[hk,Fact.wts]at gJ
    exact⟨fN,by have:=e9.1;omega⟩
   ·split at h
    ·rename_i h0
     have gH:∀(l:List Fact) (t t':Int),allS (Dx w d) l t=(true,t')->0<=t/\t<=1000->0<=t'/\(Fact.wts l:Int)<=3*(t-t'):=fun l=>by
      induction l with
      |nil=>intro t t' h ht;rw[allS]at h;cases h;exact⟨ht.1,by rw[Fact.wts];omega⟩
      | cons x r ih =>
       intro t t' h ht
       rw[allS]at h
       cases hy:Dx w d x t with
       | mk b t1 =>
        rw[hy]at h
        cases b with
        |false=>simp at h
        |true=>
         obtain⟨g1,g2⟩:=Q7 w d x t t1 hy ht
         obtain⟨g3,g4⟩:=ih t1 t' h ⟨g1,by have:=x.wt_pos;omega⟩
         exact⟨g3,by rw[Fact.wts];omega⟩
     obtain⟨g1,g2⟩:=gH _ _ _ h ⟨fN,by omega⟩
     exact⟨g1,by have:=h0.2.1;omega⟩
    ·simp at h
theorem N3{α β:Type}{g:β->Nat}{h:α->β}{k:Nat}: ∀l:List α,(∀x∈l,g (h x)<=k)->wtL g (l.map h)<=k*l.length
 |[],_=>by simp[wtL]
 |x::r,hx=>by
  have h1:=hx x (by simp)
  have h2:=N3 (g:=g) (h:=h) (k:=k) r fun y hy=>hx y (by simp[hy])
  rw[ba,wtL,aP,Nat.mul_add];omega
theorem XR{a b:fD}(ha:Bh a)(hb:Bh b): ∀(l:List ax) (n:fD),Bh n->wtL aD.wt ((l.zip n).map fun x=>{ spC a b x.1 with name:=x.2 })<=9*wtL ax.wt l
 |[],_,_=>by simp[wtL]
 |_::_,[],_=>by simp[wtL]
 |c::r,x::n,hn=>by
  have h1:=spC_wt ha hb c x (hn x (by simp))
  have h2:=XR ha hb r n fun s hs=>hn s (by simp[hs])
  rw[eY,ba,wtL,wtL,Nat.mul_add]
  exact Nat.add_le_add h1 h2
theorem Md {p:aw} (h:okP p=true):(Ba p).wt<=9*p.wt+60000:=by
 have fR:=T0 p
 have fQ:Bh (spS p):=DB _
 have f0:Bh (spG p):=DB _
 have fZ:Bh (spL p):=DB _
 unfold okP Da at h
 split at h
 ·rename_i hc
  simp only[aI,aL,bc]at hc
  obtain⟨⟨gc,⟨⟨h8,gM⟩,gF⟩,gh⟩,hg⟩:=hc
  cases hm:Dz p p.methods (List.replicate p.nodes.length (-1))with
  |none=>rw[hm]at h;simp at h
  | some s =>
   rw[hm]at h
   obtain⟨k1,k2,k3⟩:=JF p p.methods _ s hm (by simp) (fun g hx=>(hg g hx).1)
   rw[bu]at k2
   cases hw:C0 p false 12 p.main 0 s with
   | mk b s2 =>
    simp only[hw]at h
    cases b with
    |false=>simp[optW]at h
    | true =>
     obtain⟨m1,m2,m3⟩:=IF p false 12 _ _ _ _ hw k2 (dC _)
     have f9:negS s<=s.length:=eN
     have h1:=XR fR fQ p.aa (AW p.aa.length) (DB _)
     have h2:=SZ p fR fQ f0 fZ 12 p.main [] 0 (fun s hs=>by simp at hs)
     have h3:wtL aE.wt (p.methods.map (spM p))<=3000*p.methods.length:=by
      refine N3 p.methods fun m fV=>?_
      obtain⟨q1,q2,q3⟩:=k1 m fV
      unfold Ev at q1
      simp only[aI,aL]at q1
      obtain⟨⟨⟨_,e7⟩,d6⟩,fY⟩:=q1
      have gI:1<=p.aj.getD m.gen.toNat 0/\p.aj.getD m.gen.toNat 0<=3:=by
       have hl:m.gen.toNat<p.aj.length:=by omega
       rw[bg,aM hl]
       exact hg _ (aJ hl)
      have f6:D5 p m<=3:=by unfold D5;omega
      have fL:Bh ((spL p).take (D5 p m)):=fun s hs=>fZ s (List.mem_of_mem_take hs)
      have r1:=Ey f0 m.gen
      have r2:=FA fL
      have r3:=XV fR fQ fL m.fact
      have r4:=SZ p fR fQ f0 fZ 12 m.node ((spL p).take (D5 p m)) (D5 p m) fL
      have r5:m.fact.wt<=72:=by
       unfold Dp at d6
       cases hf:Dx (AK p) 12 m.fact 24 with
       | mk b t =>
        rw[hf]at d6
        cases b with
        |false=>simp at d6
        |true=>
         obtain⟨u1,u2⟩:=Q7 (AK p) 12 m.fact 24 t hf (by omega)
         omega
      have r6:((spL p).take (D5 p m)).length<=3:=by rw[cj];omega
      show 1+(ixS (spG p) m.gen).length+wtS ((spL p).take (D5 p m))+(spF (spA p) (spS p) ((spL p).take (D5 p m)) m.fact).wt+(spE p (spA p) (spS p) (spG p) (spL p) 12 m.node ((spL p).take (D5 p m)) (D5 p m)).1.wt<=3000
      omega
     have h4:wtL ax.wt p.aa<p.wt:=by unfold aw.wt;omega
     show 1+wtL aD.wt (spCs p)+wtL aE.wt (p.methods.map (spM p))+(spE p (spA p) (spS p) (spG p) (spL p) 12 p.main [] 0).1.wt<=9*p.wt+60000
     unfold spCs
     omega
 ·simp at h
end Go.DL
namespace Go.DL
open Go.Proofs.Tryz
open Go Go.Proofs
set_option maxHeartbeats 8000000
def KX:aF:=⟨[],[],.mk 0 0 [] []⟩
def Ff(p:aw):Int:=if okP p then(if(BG (Ba p)).isSome then 0 else 3) else 2
def Ic(p:aw):aF:=if Ff p=0 then Ba p else KX
theorem MJ(p:aw)(V:Sig)(hw:p.wt<=10000000):au prog 20 [.agg (Ai p)] V (rS (.tup [.agg (Bd (Ic p)),dI (Ff p)]) V):=by
 have d7:WkD (.tup [.agg [.ak,.ak,dI 0,dI 0,.str [],.ak],dI (Ff p)]) (.tup [.agg (Bd KX),dI (Ff p)]):=by
  have e:Bd KX=[sl [],sl [],dI 0,dI 0,.str [],sl []]:=by simp[KX,aB.op,aB.n,aB.text,aB.ah]
  rw[e]
  exact GK (show WkL _ _ from⟨E7 (show WkL _ _ from⟨Am _ (.inl rfl),Am _ (.inl rfl),A9 _,A9 _,A9 _,Am _ (.inl rfl),trivial⟩),A9 _,trivial⟩)
 have fK:=fun (V:Sig)=>MM p V (by omega)
 cases d8:okP p with
 |false=>
  have hE:Ff p=2:=by unfold Ff;rw[d8];rfl
  have hP:Ic p=KX:=by unfold Ic;rw[hE];rfl
  rw[hP]
  rw[hE]at d7⊢
  refine en func20 ntmps20 ?_
  try refine gz ?_ [] [2]
  refine newV (fun i2 gv=>?_)
  repeat' first|refine gf d8 ?_ [] [2]|refine Aq (fK _) ?_|refine callP (fK _) ?_|refine gf d8 ?_ [] [2]|apply gy<;>intro hh
  refine finC (S':=V) ⟨rfl,rfl⟩ (hw:=?_)
  exact d7
 | true =>
  have fY:=sp_ok (p:=p) (by omega) d8
  have gN:=Md d8
  have fW:=fun (V:Sig)=>Qw p V fY
  have fX:=fun (V:Sig)=>Qy (Ba p) V (by omega)
  cases hs:(BG (Ba p)).isSome with
  |false=>
   have hE:Ff p=3:=by unfold Ff;rw[d8,hs];rfl
   have hP:Ic p=KX:=by unfold Ic;rw[hE];rfl
   rw[hP]
   rw[hE]at d7⊢
   refine en func20 ntmps20 ?_
   try refine gz ?_ [] [2]
   refine newV (fun i2 gv=>?_)
   repeat' first|refine gf (gi d8 hs) ?_ [] [2]|refine Aq (fK _) ?_|refine callP (fK _) ?_|refine Aq (fW _) ?_|refine callP (fW _) ?_|refine Aq (fX _) ?_|refine callP (fX _) ?_|refine gf (gi d8 hs) ?_ [] [2]|apply gy<;>intro hh
   refine finC (S':=V) ⟨rfl,rfl⟩ (hw:=?_)
   exact d7
  |true=>
   have hE:Ff p=0:=by unfold Ff;rw[d8,hs];rfl
   have hP:Ic p=Ba p:=by unfold Ic;rw[hE];rfl
   rw[hP,hE]
   refine en func20 ntmps20 ?_
   try refine gz ?_ [] [2]
   refine newV (fun i2 gv=>?_)
   repeat' first|refine gf (gi d8 hs) ?_ [] [2]|refine Aq (fK _) ?_|refine callP (fK _) ?_|refine Aq (fW _) ?_|refine callP (fW _) ?_|refine Aq (fX _) ?_|refine callP (fX _) ?_|refine gf (gi d8 hs) ?_ [] [2]|apply gy<;>intro hh
   exact finC (S':=V) ⟨rfl,rfl⟩
@[reducible,instance] def a20:=fun p V=>ah1 (@MJ p V)
theorem WU(s:Str)(V:Sig):au prog 96 [.str s] V (rS (.agg (Al (.mk 3 0 s []))) V):=by
 refine en func96 ntmps96 ?_
 refine gz ?_ [] [2]
 refine newV (fun i hi=>?_)
 refine gz ?_ [] [2]
 refine finC (S':=V) ⟨rfl,rfl⟩ (hw:=?_)
 exact E7 ⟨A9 _,A9 _,A9 _,Am _ (.inl rfl),trivial⟩
@[reducible,instance] def a96:=fun s V=>ah0 (@WU s V)
end Go.DL
