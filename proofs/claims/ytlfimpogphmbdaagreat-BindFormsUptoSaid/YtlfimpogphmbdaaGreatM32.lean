/- Part of the proof that the last text ends. -/
import Derived.Test.YtlfimpogphmbdaaGreatM31
import Derived.Test.YtlfimpogphmbdaaGreatM28
import Derived.Test.YtlfimpogphmbdaaGreatM29
set_option linter.all false
namespace Go.DL
open Go Go.Proofs
mutual
def allD(q:Int->FExp->Bool):FExp->Int->Bool
 |.mk o n t k,d=>q d (.mk o n t k)&&Kd q k (d+1)
def Kd(q:Int->FExp->Bool):List FExp->Int->Bool
 |[],_=>true
 |x::r,d=>allD q x d&&Kd q r d
end
mutual
theorem WB: ∀e:FExp,1<=(allE e).length
 |.mk o n t k=>by rw[allE,List.length_cons];omega
end
mutual
theorem GU(q:Int->FExp->Bool)(most:Int): ∀(e:FExp) (d n m:Int),n<=most->(visE (Gj q most) e d n=some m ↔ allD q e d=true/\m=n+(allE e).length/\m<=most)
 | .mk o nn t k,d,n,m,hn=>by
  rw[visE,allD,allE,List.length_cons]
  by_cases h:n+1<=most/\q d (.mk o nn t k)=true
  ·rw[G5 h.1 h.2,h.2,Bool.true_and]
   simp only
   rw[Kj q most k (d+1) (n+1) m h.1]
   constructor
   ·rintro⟨a,b,c⟩;exact⟨a,by omega,c⟩
   ·rintro⟨a,b,c⟩;exact⟨a,by omega,c⟩
  ·rw[G6 (by cases hq:q d (.mk o nn t k)<;>simp_all)]
   simp only[reduceCtorEq,Bool.and_eq_true,false_iff]
   rintro⟨⟨a,_⟩,b,c⟩
   exact h ⟨by omega,a⟩
theorem Kj(q:Int->FExp->Bool)(most:Int): ∀(l:List FExp) (d n m:Int),n<=most->(Dk (Gj q most) l d n=some m ↔ Kd q l d=true/\m=n+(Dz l).length/\m<=most)
 |[],d,n,m,hn=>by
  rw[Dk,Kd,Dz]
  simp only[Option.some.injEq,true_and,List.length_nil]
  omega
 | x::r,d,n,m,hn=>by
  rw[Dk,Kd,Dz,List.length_append]
  cases hv:visE (Gj q most) x d n with
  |none =>
   simp only[reduceCtorEq,Bool.and_eq_true,false_iff]
   rintro⟨⟨a,_⟩,b,c⟩
   have:=(GU q most x d n (n+(allE x).length) hn).2 ⟨a,rfl,by omega⟩
   rw[this]at hv;cases hv
  |some y =>
   obtain⟨a,b,c⟩:=(GU q most x d n y hn).1 hv
   simp only
   rw[Kj q most r d y m c,a,Bool.true_and]
   constructor
   ·rintro⟨a,b,c⟩;exact⟨a,by omega,c⟩
   ·rintro⟨a,b,c⟩;exact⟨a,by omega,c⟩
end
mutual
theorem Q5: ∀(e:FExp) (d b:Int),0<=b->((cntE e d b).1=true ↔ allD Fz e d=true/\((allE e).length:Int)<=b)/\((cntE e d b).1=true->(cntE e d b).2=b-(allE e).length)
 | .mk o n t k,d,b,hb=>by
  rw[cntE,allD,allE,List.length_cons]
  have aj:Fz d (.mk o n t k)=(decide (d<=12)&&shpB (.mk o n t k)):=rfl
  by_cases h:b-1<0\/12<d\/shpB (.mk o n t k)=false
  ·rw[if_pos h]
   refine⟨⟨fun h=>(by cases h),fun ⟨h1,h2⟩=>?_⟩,fun h=>(by cases h)⟩
   rw[aj]at h1
   simp only[Bool.and_eq_true,decide_eq_true_eq]at h1
   obtain⟨⟨a1,a2⟩,_⟩:=h1
   rcases h with h|h|h
   ·omega
   ·omega
   ·rw[a2]at h;cases h
  ·rw[if_neg h]
   rw[not_or,not_or]at h
   obtain⟨h1,h2,h3⟩:=h
   have h4:Fz d (.mk o n t k)=true:=by rw[aj];simp only[Bool.and_eq_true,decide_eq_true_eq];exact⟨by omega,by simpa using h3⟩
   obtain⟨i1,i2⟩:=NV k (d+1) (b-1) (by omega)
   rw[h4,Bool.true_and,i1]
   refine⟨⟨fun ⟨a,b⟩=>⟨a,by omega⟩,fun ⟨a,b⟩=>⟨a,by omega⟩⟩,fun h=>?_⟩
   rw[i2 (i1.2 h)];omega
theorem NV: ∀(l:List FExp) (d b:Int),0<=b->((F7 l d b).1=true ↔ Kd Fz l d=true/\((Dz l).length:Int)<=b)/\((F7 l d b).1=true->(F7 l d b).2=b-(Dz l).length)
 |[],d,b,hb=>by
  rw[F7,Kd,Dz]
  exact⟨⟨fun _=>⟨rfl,by simpa using hb⟩,fun _=>rfl⟩,fun _=>by simp⟩
 | x::r,d,b,hb=>by
  obtain⟨i1,i2⟩:=Q5 x d b hb
  rw[F7,Kd,Dz,List.length_append]
  by_cases h:(cntE x d b).1=true
  ·obtain⟨j0,j1⟩:=i1.1 h
   have j2:=i2 h
   obtain⟨k1,k2⟩:=NV r d (cntE x d b).2 (by omega)
   rw[if_pos h,k1,j0,Bool.true_and,j2]
   refine⟨⟨fun ⟨a,b⟩=>⟨a,by omega⟩,fun ⟨a,b⟩=>⟨a,by omega⟩⟩,fun hh=>?_⟩
   rw[j2]at k1 k2
   rw[k2 (k1.2 hh)];omega
  ·rw[if_neg h]
   refine⟨⟨fun h=>(by cases h),fun ⟨h1,h2⟩=>absurd (i1.2 ⟨?_,by omega⟩) h⟩,fun h=>(by cases h)⟩
   simp only[Bool.and_eq_true]at h1;exact h1.1
end
mutual
theorem IH(q:FExp->Bool): ∀(e:FExp) (d:Int),(visE (fun _ x (_:Unit)=>if q x=true then some () else none) e d ()=some () ↔ (allE e).all q=true)
 |.mk o n t k,d=>by
  rw[visE,allE,List.all_cons]
  by_cases h:q (.mk o n t k)=true
  ·rw[h,Bool.true_and];simp only[if_pos];exact Ki q k (d+1)
  ·simp[h]
theorem Ki(q:FExp->Bool): ∀(l:List FExp) (d:Int),(Dk (fun _ x (_:Unit)=>if q x=true then some () else none) l d ()=some () ↔ (Dz l).all q=true)
 |[],d=>by rw[Dk,Dz];simp
 | x::r,d=>by
  rw[Dk,Dz,List.all_append]
  cases hv:visE (fun _ x (_:Unit)=>if q x=true then some () else none) x d ()with
  |none =>
   have:¬(allE x).all q=true:=fun h=>by rw[(IH q x d).2 h]at hv;cases hv
   simp[this]
  |some u =>
   have:(allE x).all q=true:=(IH q x d).1 hv
   simp only
   rw[this,Bool.true_and];exact Ki q r d
end
theorem Qs{d:Int}{e:FExp}(h:Fz d e=true)(h3:e.op=3):e.kids=[]/\e.n=0:=by
 unfold Fz BM at h
 rw[h3]at h
 have hg:getM ⟨false,0,0⟩ (3:Int) shapesL=⟨true,0,0⟩:=rfl
 rw[hg]at h
 simp only[Bool.and_eq_true,decide_eq_true_eq]at h
 obtain⟨_,⟨⟨_,hk⟩,_⟩,_,hn⟩:=h
 refine⟨List.length_eq_zero_iff.1 (by omega),?_⟩
 simpa using hn
mutual
theorem KH: ∀(e:FExp) (d:Int),allD Fz e d=true->∀(b b' a:List Str),(∀x,x∈b ↔ x∈b')->∀x,x∈freeE e b a ↔ x∈a\/x∈CZ e b'
 | .mk o n t k,d,h,b,b',a,hb,x=>by
  rw[allD,Bool.and_eq_true]at h
  rw[freeE,CZ]
  by_cases h3:o=3
  ·obtain⟨hk,_⟩:=Qs h.1 h3
   have hk:k=[]:=hk
   subst hk
   rw[CH]
   by_cases ht:t∈b
   ·rw[if_neg (fun h=>h.2 ht),if_neg (fun h=>h.2 ((hb t).1 ht)),BW];simp
   ·rw[if_pos ⟨h3,ht⟩,if_pos ⟨h3,fun h=>ht ((hb t).2 h)⟩,HN]
    simp[or_comm]
  ·rw[if_neg (fun h=>h3 h.1),if_neg (fun h=>h3 h.1)]
   exact Js k (d+1) h.2 o t 0 b b' a hb x
theorem Js: ∀(l:List FExp) (d:Int),Kd Fz l d=true->∀(o:Int) (t:Str) (i:Nat) (b b' a:List Str),(∀x,x∈b ↔ x∈b')->∀x,x∈CH o t b i l a ↔ x∈a\/x∈BW o t l i b'
 |[],d,h,o,t,i,b,b',a,hb,x=>by rw[CH,BW];simp
 | y::r,d,h,o,t,i,b,b',a,hb,x=>by
  rw[Kd,Bool.and_eq_true]at h
  rw[CH,BW,Js r d h.2 o t (i+1) b b' _ hb x,List.mem_append]
  have aS:∀x,x∈(if o=9/\i=1 then t::b else b) ↔ x∈(if o=9/\i=1 then ins t b' else b'):=fun x=>by
   split
   ·rw[HN,List.mem_cons,hb x]
   ·exact hb x
  rw[KH y d h.1 _ _ a aS x,or_assoc]
end
theorem MX{names slots args:List Str}{lits:Bool}{e:FExp}{n:Int}(hn:0<=n)(m:Int):
  BX names slots args lits e n=some m ↔ (cntE e 1 120).1=true/\m=n+(allE e).length/\m<=120/\Gz args slots names lits e=true:=by
 obtain⟨c1,_⟩:=Q5 e 1 120 (by omega)
 have hp:=WB e
 unfold BX
 cases hl:Ii 120 e with
 |none =>
  simp only[reduceCtorEq,false_iff]
  rintro⟨h1,h2,h3,_⟩
  rw[c1]at h1
  have:=(GU Fz 120 e 1 0 (0+(allE e).length) (by omega)).2 ⟨h1.1,rfl,by omega⟩
  unfold Ii at hl
  rw[this]at hl;cases hl
 | some k =>
  obtain⟨a1,a2,a3⟩:=(GU Fz 120 e 1 0 k (by omega)).1 hl
  have ai:(allK names slots lits e=some () /\ ∀s∈freeE e [] [],s∈args) ↔ Gz args slots names lits e=true:=by
   unfold Gz
   rw[Bool.and_eq_true]
   refine and_congr (IH (nodK names slots lits) e 1) ?_
   rw[List.all_eq_true]
   simp only[decide_eq_true_eq]
   refine forall_congr' fun s=>imp_congr ?_ Iff.rfl
   rw[KH e 1 a1 [] [] [] (fun _=>Iff.rfl) s];simp
  simp only
  constructor
  ·intro h
   split at h
   ·rename_i hh
    cases h
    exact⟨c1.2 ⟨a1,by omega⟩,by omega,hh.1,ai.1 hh.2⟩
   ·cases h
  ·rintro⟨h1,h2,h3,h4⟩
   rw[if_pos ⟨by omega,ai.2 h4⟩]
   congr 1;omega
mutual
def fCnt:FFact->Nat
 |.mk _ _ _ _ _ k=>LU k+1
def LU:List FFact->Nat
 |[]=>0
 |x::r=>fCnt x+LU r
end
mutual
def GN(q:Int->FFact->Bool):FFact->Int->Bool
 |.mk o a b c n k,d=>q d (.mk o a b c n k)&&CR q k (d+1)
def CR(q:Int->FFact->Bool):List FFact->Int->Bool
 |[],_=>true
 |x::r,d=>GN q x d&&CR q r d
end
theorem VN: ∀e:FFact,1<=fCnt e
 |.mk _ _ _ _ _ k=>by rw[fCnt];omega
mutual
theorem Ob(p q:Int->FFact->Bool): ∀(e:FFact) (d:Int),(GN p e d=true/\GN q e d=true) ↔ GN (fun d x=>p d x&&q d x) e d=true
 |.mk o a b c n k,d=>by
  rw[GN,GN,GN]
  have:=Lk p q k (d+1)
  simp only[Bool.and_eq_true]at this⊢
  rw[<-this];grind
theorem Lk(p q:Int->FFact->Bool): ∀(l:List FFact) (d:Int),(CR p l d=true/\CR q l d=true) ↔ CR (fun d x=>p d x&&q d x) l d=true
 |[],d=>by rw[CR,CR,CR];simp
 |x::r,d=>by
  rw[CR,CR,CR]
  have h1:=Ob p q x d
  have h2:=Lk p q r d
  simp only[Bool.and_eq_true]at h1 h2⊢
  rw[<-h1,<-h2];grind
end
mutual
theorem GT(q:Int->FFact->Bool)(most:Int): ∀(e:FFact) (d n m:Int),n<=most->(visF (Gj q most) e d n=some m ↔ GN q e d=true/\m=n+fCnt e/\m<=most)
 | .mk o a b c nn k,d,n,m,hn=>by
  rw[visF,GN,fCnt]
  by_cases h:n+1<=most/\q d (.mk o a b c nn k)=true
  ·rw[G5 h.1 h.2,h.2,Bool.true_and]
   simp only
   rw[Kh q most k (d+1) (n+1) m h.1]
   constructor
   ·rintro⟨a,b,c⟩;exact⟨a,by omega,c⟩
   ·rintro⟨a,b,c⟩;exact⟨a,by omega,c⟩
  ·rw[G6 (by cases hq:q d (.mk o a b c nn k)<;>simp_all)]
   simp only[reduceCtorEq,Bool.and_eq_true,false_iff]
   rintro⟨⟨a,_⟩,b,c⟩
   exact h ⟨by omega,a⟩
theorem Kh(q:Int->FFact->Bool)(most:Int): ∀(l:List FFact) (d n m:Int),n<=most->(Gh (Gj q most) l d n=some m ↔ CR q l d=true/\m=n+LU l/\m<=most)
 |[],d,n,m,hn=>by
  rw[Gh,CR,LU]
  simp only[Option.some.injEq,true_and]
  omega
 | x::r,d,n,m,hn=>by
  rw[Gh,CR,LU]
  cases hv:visF (Gj q most) x d n with
  |none =>
   simp only[reduceCtorEq,Bool.and_eq_true,false_iff]
   rintro⟨⟨a,_⟩,b,c⟩
   have:=(GT q most x d n (n+fCnt x) hn).2 ⟨a,rfl,by omega⟩
   rw[this]at hv;cases hv
  |some y =>
   obtain⟨a,b,c⟩:=(GT q most x d n y hn).1 hv
   simp only
   rw[Kh q most r d y m c,a,Bool.true_and]
   constructor
   ·rintro⟨a,b,c⟩;exact⟨a,by omega,c⟩
   ·rintro⟨a,b,c⟩;exact⟨a,by omega,c⟩
end
section
variable {P S C:List Str}
def fctQ(P S C:List Str)(d:Int)(x:FFact):Bool:=decide (d<=12)&&fctB P S C x
mutual
theorem PA: ∀(e:FFact) (d b:Int),0<=b->((fctE P S C e d b).1=true ↔ GN (fctQ P S C) e d=true/\(fCnt e:Int)<=b)/\((fctE P S C e d b).1=true->(fctE P S C e d b).2=b-fCnt e)
 | .mk o s p c n k,d,b,hb=>by
  rw[fctE,GN,fCnt]
  have aj:fctQ P S C d (.mk o s p c n k)=(decide (d<=12)&&fctB P S C (.mk o s p c n k)):=rfl
  by_cases h:b-1<0\/12<d\/fctB P S C (.mk o s p c n k)=false
  ·rw[if_pos h]
   refine⟨⟨fun h=>(by cases h),fun ⟨h1,h2⟩=>?_⟩,fun h=>(by cases h)⟩
   rw[aj]at h1
   simp only[Bool.and_eq_true,decide_eq_true_eq]at h1
   obtain⟨⟨a1,a2⟩,_⟩:=h1
   rcases h with h|h|h
   ·omega
   ·omega
   ·rw[a2]at h;cases h
  ·rw[if_neg h]
   rw[not_or,not_or]at h
   obtain⟨h1,h2,h3⟩:=h
   have h4:fctQ P S C d (.mk o s p c n k)=true:=by rw[aj];simp only[Bool.and_eq_true,decide_eq_true_eq];exact⟨by omega,by simpa using h3⟩
   obtain⟨i1,i2⟩:=Ni k (d+1) (b-1) (by omega)
   rw[h4,Bool.true_and,i1]
   refine⟨⟨fun ⟨a,b⟩=>⟨a,by omega⟩,fun ⟨a,b⟩=>⟨a,by omega⟩⟩,fun h=>?_⟩
   rw[i2 (i1.2 h)];omega
theorem Ni: ∀(l:List FFact) (d b:Int),0<=b->((F1 P S C l d b).1=true ↔ CR (fctQ P S C) l d=true/\(LU l:Int)<=b)/\((F1 P S C l d b).1=true->(F1 P S C l d b).2=b-LU l)
 |[],d,b,hb=>by
  rw[F1,CR,LU]
  exact⟨⟨fun _=>⟨rfl,by simpa using hb⟩,fun _=>rfl⟩,fun _=>by simp⟩
 | x::r,d,b,hb=>by
  obtain⟨i1,i2⟩:=PA x d b hb
  rw[F1,CR,LU]
  by_cases h:(fctE P S C x d b).1=true
  ·obtain⟨j0,j1⟩:=i1.1 h
   have j2:=i2 h
   obtain⟨k1,k2⟩:=Ni r d (fctE P S C x d b).2 (by omega)
   rw[if_pos h,k1,j0,Bool.true_and,j2]
   refine⟨⟨fun ⟨a,b⟩=>⟨a,by omega⟩,fun ⟨a,b⟩=>⟨a,by omega⟩⟩,fun hh=>?_⟩
   rw[j2]at k1 k2
   rw[k2 (k1.2 hh)];omega
  ·rw[if_neg h]
   refine⟨⟨fun h=>(by cases h),fun ⟨h1,h2⟩=>absurd (i1.2 ⟨?_,by omega⟩) h⟩,fun h=>(by cases h)⟩
   simp only[Bool.and_eq_true]at h1;exact h1.1
end
end
mutual
theorem IG(q:FFact->Bool): ∀(e:FFact) (d:Int),(visF (fun _ x (_:Unit)=>if q x=true then some () else none) e d ()=some () ↔ GN (fun _ x=>q x) e d=true)
 |.mk o a b c n k,d=>by
  rw[visF,GN]
  by_cases h:q (.mk o a b c n k)=true
  ·rw[h,Bool.true_and];simp only[if_pos];exact Kg q k (d+1)
  ·simp[h]
theorem Kg(q:FFact->Bool): ∀(l:List FFact) (d:Int),(Gh (fun _ x (_:Unit)=>if q x=true then some () else none) l d ()=some () ↔ CR (fun _ x=>q x) l d=true)
 |[],d=>by rw[Gh,CR];simp
 | x::r,d=>by
  rw[Gh,CR]
  cases hv:visF (fun _ x (_:Unit)=>if q x=true then some () else none) x d ()with
  |none =>
   have:¬GN (fun _ x=>q x) x d=true:=fun h=>by rw[(IG q x d).2 h]at hv;cases hv
   simp[this]
  |some u =>
   have:GN (fun _ x=>q x) x d=true:=(IG q x d).1 hv
   simp only
   rw[this,Bool.true_and];exact Kg q r d
end
theorem Vs{P S own:List Str}(hP:[]∉P)(d:Int)(x:FFact):(Fd d x&&J4 own S P x)=fctQ P S (own++lits3) d x:=by
 have hi:inB 0=true:=by decide
 unfold Fd CX J4 fctQ fctB fctC
 have h1:decide (x.name=[])=true->decide (x.name∈P)=false:=fun e=>by
  rw[decide_eq_true_eq]at e
  rw[decide_eq_false_iff_not,e];exact hP
 have h2:decide (x.cls∈own++lits3)=(decide (x.cls∈own)||(decide (x.cls=wAny)||(decide (x.cls=wInt)||decide (x.cls=IF)))):=by
  rw[<-Bool.decide_or,<-Bool.decide_or,<-Bool.decide_or]
  refine decide_eq_decide.2 ?_
  simp[lits3]
 rw[h2]
 have h3:decide ((x.path.length:Int)=0)=decide (x.path=[]):=decide_eq_decide.2 (by rw[<-List.length_eq_zero_iff];omega)
 have h4:decide ((x.path.length:Int)<=2)=decide (x.path.length<=2):=decide_eq_decide.2 (by omega)
 have h5:decide (arF x.op=(x.kids.length:Int))=decide ((x.kids.length:Int)=arF x.op):=decide_eq_decide.2 eq_comm
 rw[h3,h4,h5,Bool.decide_and]
 have h6:decide (x.n=0)=true->inB x.n=true:=fun e=>by
  rw[decide_eq_true_eq]at e
  rw[e];exact hi
 have h7:decide (x.op=2)=true->AO x.op=true:=fun e=>by
  rw[decide_eq_true_eq]at e
  rw[e];rfl
 clear h2 h3 h4 h5 hi hP
 generalize decide (d<=12)=b0
 generalize decide (1<=x.op)=b1
 generalize decide (x.op<=7)=b2
 generalize AO x.op=b3 at h7⊢
 generalize decide (x.op=3\/x.op=4)=b4
 generalize decide ((x.kids.length:Int)=arF x.op)=b5
 generalize decide (x.path=[])=b6
 generalize decide (x.path.length<=2)=b7
 generalize (x.path.all fun s=>decide (s∈S))=b8
 generalize inB x.n=b9 at h6⊢
 generalize decide (x.n=0)=z at h6⊢
 generalize decide (x.op=2)=o2 at h7⊢
 generalize decide (x.name=[])=n0 at h1⊢
 generalize decide (x.name∈P)=nP at h1⊢
 generalize decide (x.cls=[])=c0
 generalize decide (x.cls∈own)=c1
 generalize decide (x.cls=wAny)=c2
 generalize decide (x.cls=wInt)=c3
 generalize decide (x.cls=IF)=c4
 cases b3<;>cases n0<;>cases o2<;>cases c0<;>cases z<;>simp at h1 h6 h7⊢
 all_goals try subst h1
 all_goals try subst h6
 all_goals try subst h7
 all_goals try simp
 all_goals (cases b0<;>cases b1<;>cases b2<;>cases b4<;>cases b5<;>simp)
 all_goals (cases b6<;>cases b7<;>cases b8<;>simp)
 all_goals (try (cases b9<;>simp))
 all_goals (try (cases nP<;>simp))
 all_goals (simp only[Bool.or_assoc])
theorem Qx{names slots P:List Str}(hP:[]∉P){e:FFact}{n:Int}(hn:0<=n)(am:n<=120)(m:Int):
  CC names slots P e n=some m ↔ (fctE P slots (names++lits3) e 1 (120-n)).1=true/\m=120-(fctE P slots (names++lits3) e 1 (120-n)).2:=by
 obtain⟨c1,c2⟩:=PA (P:=P) (S:=slots) (C:=names++lits3) e 1 (120-n) (by omega)
 have hp:=VN e
 have hq:fctQ P slots (names++lits3)=fun d x=>Fd d x&&J4 names slots P x:=funext fun d=>funext fun x=>(Vs hP d x).symm
 rw[hq,<-Ob]at c1
 unfold CC
 cases hl:Fg 120 e with
 |none =>
  simp only[reduceCtorEq,false_iff]
  rintro⟨h1,h2⟩
  rw[c1]at h1
  have:=(GT Fd 120 e 1 0 (0+fCnt e) (by omega)).2 ⟨h1.1.1,rfl,by omega⟩
  unfold Fg at hl
  rw[this]at hl;cases hl
 | some k =>
  obtain⟨a1,a2,a3⟩:=(GT Fd 120 e 1 0 k (by omega)).1 hl
  have hu:=IG (J4 names slots P) e 1
  have aJ:(fun (_:Int) (x:FFact) (s:Unit)=>HZ names slots P x s)=fun _ x (_:Unit)=>if J4 names slots P x=true then some () else none:=rfl
  simp only
  rw[aJ]
  constructor
  ·intro h
   split at h
   ·rename_i hh
    cases h
    have h1:=c1.2 ⟨⟨a1,hu.1 hh.2⟩,by omega⟩
    exact⟨h1,by rw[c2 h1];omega⟩
   ·cases h
  ·rintro⟨h1,h2⟩
   obtain⟨⟨b1,b2⟩,b3⟩:=c1.1 h1
   rw[if_pos ⟨by omega,hu.2 b2⟩,h2,c2 h1]
   congr 1;omega
theorem Ok: ∀(l seen:List Str),sloE seen l=(l.all AP&&difE seen l)
 |[],_=>rfl
 |x::r,seen=>by rw[sloE,difE,List.all_cons,Ok r];cases AP x<;>cases decide (x∈seen)<;>cases r.all AP<;>simp
theorem Si:AP []=false:=rfl
theorem VB{names slots:List Str}{m:FMeth}{n:Int}(hn:0<=n)(am:n<=120)(k:Int):
  Jc names slots m n=some k ↔ (CY slots names m (120-n)).1=true/\k=120-(CY slots names m (120-n)).2:=by
 have hd:(G4 m&&sloE [] m.params)=D9 m:=by
  rw[Ok];unfold G4 D9 Ef
  cases decide (1<=m.kind)<;>cases decide (m.kind<=4)<;>cases AP m.name<;>cases decide (1<=m.params.length)<;>simp
 unfold Jc CY
 rw[hd]
 by_cases h:D9 m=true
 ·rw[if_pos h,if_pos h]
  have hP:[]∉m.params:=fun hx=>by
   unfold D9 Ef at h
   simp only[Bool.and_eq_true]at h
   have:=List.all_eq_true.1 h.2.2.2.2.1 _ hx
   rw[Si]at this;cases this
  have hF:=Qx (names:=names) (slots:=slots) hP (e:=m.fact) hn am
  have aF:=(Jv (P:=m.params) (S:=slots) (C:=names++lits3) m.fact 1 (120-n))
  cases hk:CC names slots m.params m.fact n with
  | none =>
   have:¬(fctE m.params slots (names++lits3) m.fact 1 (120-n)).1=true:=fun h1=>by
    rw[(hF _).2 ⟨h1,rfl⟩]at hk;cases hk
   rw[if_neg (fun h=>this h.1)]
   simp
  | some j =>
   obtain⟨j1,j2⟩:=(hF j).1 hk
   have aZ:=aF.2.2 j1
   have aY:=aF.1
   simp only
   rw[MX (by omega)]
   generalize (fctE m.params slots (names++lits3) m.fact 1 (120-n)).2=q at*
   by_cases hc:(cntE m.body 1 120).1=true
   ·rw[if_pos ⟨j1,hc⟩]
    simp only[Bool.and_eq_true,decide_eq_true_eq]
    constructor
    ·rintro⟨_,a,b,c⟩;exact⟨⟨by omega,c⟩,by omega⟩
    ·rintro⟨⟨a,c⟩,b⟩;exact⟨hc,by omega,by omega,c⟩
   ·rw[if_neg (fun h=>hc h.2)]
    simp[hc]
 ·rw[if_neg h,if_neg h];simp
theorem MS{names slots:List Str}: ∀(l:List FMeth) (n:Int),0<=n->n<=120->(DH names slots l n).isSome=I4 slots names l (120-n)
 |[],n,_,_=>rfl
 | m::r,n,hn,am=>by
  have h:=VB (names:=names) (slots:=slots) (m:=m) hn am
  rw[DH,I4]
  cases hk:Jc names slots m n with
  |none =>
   have:(CY slots names m (120-n)).1=false:=Bool.eq_false_iff.2 fun h1=>by rw[(h _).2 ⟨h1,rfl⟩]at hk;cases hk
   rw[this];rfl
  |some k =>
   obtain⟨h1,h2⟩:=(h k).1 hk
   have hb:=Pi slots names m (120-n) (by omega) h1
   simp only
   rw[h1,Bool.true_and,MS r k (by omega) (by omega),h2]
   congr 1;omega
def clsS:List Str->List Str->List FClass->Bool
 |_,_,[]=>true
 |names,slots,c::r=>decide (c.parents.length<=3/\c.slots.length<=4)&&(parE names [] c.parents&&(sloE slots c.slots&&((AP c.name&&!decide (c.name∈names))&&clsS (names++[c.name]) (slots++c.slots) r)))
def iniL:List Str->List (List Str)->List FClass->Bool
 |_,_,[]=>true
 |names,hs,c::r=>iniE (Eo names hs c) [] c.inits&&iniL (names++[c.name]) (hs++[Eo names hs c]) r
theorem Ld: ∀(l:List FClass) (names slots:List Str) (hs:List (List Str)),clsE names slots hs l=(clsS names slots l&&iniL names hs l)
 |[],_,_,_=>rfl
 |c::r,names,slots,hs=>by
  rw[clsE,clsS,iniL,Ld r]
  cases decide (c.parents.length<=3/\c.slots.length<=4)<;>cases parE names [] c.parents<;>cases sloE slots c.slots<;>cases iniE (Eo names hs c) [] c.inits<;>simp
  simp[Bool.and_assoc]
theorem Q2: ∀(a b seen:List Str),difE seen (a++b)=(difE seen a&&difE (seen++a) b)
 |[],b,seen=>by rw[List.nil_append,List.append_nil,difE,Bool.true_and]
 |x::r,b,seen=>by
  rw[List.cons_append,difE,difE,Q2 r b,List.append_assoc,Bool.and_assoc];rfl
theorem Pa(names:List Str)(hn:∀s∈names,AP s=true): ∀(ps seen:List Str),parE names seen ps=(ps.all (fun s=>decide (s∈names))&&difE seen ps)
 |[],_=>rfl
 |s::r,seen=>by
  rw[parE,difE,List.all_cons,Pa names hn r]
  by_cases h:s∈names
  ·rw[decide_eq_true h,hn s h];cases decide (s∈seen)<;>simp
  ·rw[decide_eq_false h];simp
theorem V5: ∀(l:List FClass) (names slots:List Str),(∀s∈names,AP s=true)->(clsS names slots l=true ↔ CQ names l=true/\((l.map (·.name)).all AP=true/\difE names (l.map (·.name))=true)/\((l.flatMap (·.slots)).all AP=true/\difE slots (l.flatMap (·.slots))=true))
 |[],names,slots,h=>by simp[clsS,CQ,difE]
 | c::r,names,slots,h=>by
  have h1:decide (c.parents.length<=3/\c.slots.length<=4)=(!decide (3<c.parents.length)&&!decide (4<c.slots.length)):=by
   rw[Bool.decide_and,<-decide_not,<-decide_not]
   congr 1<;>exact decide_eq_decide.2 (by omega)
  rw[clsS,CQ,Pa names h,Ok,h1,List.map_cons,List.flatMap_cons,List.all_cons,List.all_append,Q2,difE]
  by_cases hc:AP c.name=true
  ·have ih:=V5 r (names++[c.name]) (slots++c.slots) (fun s hs=>by
    rcases List.mem_append.1 hs with hs|hs
    ·exact h s hs
    ·rw[List.mem_singleton.1 hs];exact hc)
   simp only[Bool.and_eq_true]at ih⊢
   rw[ih]
   grind
  ·simp only[Bool.and_eq_true,hc]
   grind
def prs(f:FProg)(i:Nat):List Str:=((f.classes[i]?).map (·.parents)).getD []
def ixN(f:FProg)(s:Str):Nat:=(idxF (fun c:FClass=>decide (c.name=s)) f.classes 0).toNat
inductive Lies(f:FProg):Nat->Nat->Prop
 |refl (i:Nat):Lies f i i
 |step {i j:Nat}{s:Str}:s∈prs f i->Lies f (ixN f s) j->Lies f i j
def LiesP(f:FProg)(i j:Nat):Prop:= ∃s∈prs f i,Lies f (ixN f s) j
theorem LN{f:FProg}{i j:Nat}:Lies f i j ↔ j=i\/LiesP f i j:=by
 constructor
 ·intro h
  cases h with
  |refl=>exact .inl rfl
  |step hs h=>exact .inr ⟨_,hs,h⟩
 ·rintro(rfl|⟨s,hs,h⟩)
  ·exact .refl _
  ·exact .step hs h
theorem N7(bs:List Bool)(i j:Nat)(v:Bool):(bs.set i v).getD j false=if i=j/\i<bs.length then v else bs.getD j false:=by
 rw[List.getD_eq_getElem?_getD,List.getD_eq_getElem?_getD,List.getElem?_set]
 by_cases h:i=j
 ·subst h
  by_cases hl:i<bs.length
  ·simp[hl]
  ·simp[hl]
 ·simp[h]
theorem Ll(f:FProg): ∀(ps:List Str) (b:List Bool) (j:Nat),(∀s∈ps,ixN f s<b.length)->((Dc f ps b).getD j false=true ↔ b.getD j false=true \/ ∃s∈ps,ixN f s=j)
 |[],b,j,_=>by rw[Dc];simp
 |s::r,b,j,h=>by
  have h1:=h s (by simp)
  rw[Dc,Ll f r _ j (fun x hx=>by rw[List.length_set];exact h x (by simp[hx])),N7]
  have:(idxF (fun c:FClass=>decide (c.name=s)) f.classes 0).toNat=ixN f s:=rfl
  rw[this]
  by_cases hj:ixN f s=j
  ·rw[if_pos ⟨hj,h1⟩];simp[hj]
  ·rw[if_neg (fun h=>hj h.1)];simp[hj]
theorem Mh(f:FProg)(n:Nat)(hp:∀i, ∀s∈prs f i,ixN f s<i): ∀(i:Nat) (b:List Bool) (j:Nat),i<=b.length->((abvD f n i b).getD j false=true ↔ b.getD j false=true \/ ∃k,k<i/\(k=n\/b.getD k false=true)/\LiesP f k j)
 |0,b,j,_=>by rw[abvD];simp
 | i+1,b,j,hb=>by
  rw[abvD]
  by_cases hi:i≠n/\b.getD i false=false
  ·rw [if_pos hi,Mh f n hp i b j (by omega)]
   constructor
   ·rintro(h|⟨k,h1,h2,h3⟩)
    ·exact .inl h
    ·exact .inr ⟨k,by omega,h2,h3⟩
   ·rintro(h|⟨k,h1,h2,h3⟩)
    ·exact .inl h
    ·refine .inr ⟨k,?_,h2,h3⟩
     have:k≠i:=fun e=>by
      rw[e]at h2
      rcases h2 with h2|h2
      ·exact hi.1 h2
      ·rw[hi.2]at h2;cases h2
     omega
  ·rw [if_neg hi]
   have hm:i=n\/b.getD i false=true:=by
    by_cases e:i=n
    ·exact .inl e
    ·right
     cases hh:b.getD i false with
     |true=>rfl
     |false=>exact absurd ⟨e,hh⟩ hi
   have ae:=fun j=>Ll f (prs f i) b j (fun s hs=>by have:=hp i s hs;omega)
   have hlen:(Dc f (prs f i) b).length=b.length:=Fa f _ _
   have he:Dc f (((f.classes[i]?).map (·.parents)).getD []) b=Dc f (prs f i) b:=rfl
   rw[he,Mh f n hp i _ j (by omega),ae]
   constructor
   ·rintro((h|⟨s,hs,h⟩)|⟨k,h1,h2,h3⟩)
    ·exact .inl h
    ·exact .inr ⟨i,by omega,hm,s,hs,by rw[h];exact .refl _⟩
    ·rw[ae]at h2
     rcases h2 with h2|h2|⟨s,hs,h⟩
     ·exact .inr ⟨k,by omega,.inl h2,h3⟩
     ·exact .inr ⟨k,by omega,.inr h2,h3⟩
     ·exact .inr ⟨i,by omega,hm,s,hs,LN.2 (.inr (by rw[h];exact h3))⟩
   ·rintro(h|⟨k,h1,h2,h3⟩)
    ·exact .inl (.inl h)
    ·by_cases e:k=i
     ·subst e
      obtain⟨s,hs,h⟩:=h3
      rcases LN.1 h with rfl|h
      ·exact .inl (.inr ⟨s,hs,rfl⟩)
      ·exact .inr ⟨ixN f s,hp k s hs,.inr ((ae _).2 (.inr ⟨s,hs,rfl⟩)),h⟩
     ·refine .inr ⟨k,by omega,?_,h3⟩
      rcases h2 with h2|h2
      ·exact .inl h2
      ·exact .inr ((ae _).2 (.inl h2))
theorem WC(f:FProg)(n:Nat)(hn:n<f.classes.length)(hp:∀i, ∀s∈prs f i,ixN f s<i)(j:Nat):((abvF f n).set n true).getD j false=true ↔ Lies f n j:=by
 have hl:=JW f n
 rw[N7,LN]
 by_cases e:n=j
 ·rw[if_pos ⟨e,by omega⟩];simp[e]
 ·rw[if_neg (fun h=>e h.1)]
  unfold abvF
  rw[Mh f n hp _ _ _ (by rw[List.length_replicate];omega)]
  have hz:∀k,(List.replicate f.classes.length false).getD k false=false:=fun k=>by
   rw[List.getD_eq_getElem?_getD,List.getElem?_replicate];split<;>rfl
  constructor
  ·rintro(h|⟨k,h1,h2|h2,h3⟩)
   ·rw[hz]at h;cases h
   ·right;rw[<-h2];exact h3
   ·rw[hz]at h2;cases h2
  ·rintro(h|h)
   ·exact absurd h.symm e
   ·exact .inr ⟨n,by omega,.inl rfl,h⟩
theorem MQ{x:Str}: ∀(cs:List FClass) (bs:List Bool),x∈Ih cs bs ↔ ∃j, ∃h:j<cs.length,bs.getD j false=true/\x∈cs[j].slots
 |[],bs=>by cases bs<;>simp[Ih]
 |c::cs,[]=>by
  simp[Ih]
 | c::cs,b::bs=>by
  rw[Ih,List.mem_append,MQ cs bs]
  constructor
  ·rintro(h|⟨j,hj,h1,h2⟩)
   ·cases b with
    |false=>simp at h
    |true=>exact⟨0,by simp,rfl,by simpa using h⟩
   ·exact⟨j+1,by simp only[List.length_cons];omega,by simpa using h1,by simpa using h2⟩
  ·rintro⟨j,hj,h1,h2⟩
   cases j with
   |zero =>
    have h1:b=true:=h1
    left;rw[if_pos h1];exact h2
   |succ j=>exact .inr ⟨j,by simp only[List.length_cons]at hj;omega,by simpa using h1,by simpa using h2⟩
def HasS(f:FProg)(i:Nat)(x:Str):Prop:= ∃j,Lies f i j /\ ∃h:j<f.classes.length,x∈f.classes[j].slots
theorem Pq(s:Str): ∀(a b:List Str) (k:Nat),s∈a->idxG s (a++b) k=idxG s a k
 |[],_,_,h=>by cases h
 | x::r,b,k,h=>by
  rw[List.cons_append,idxG,idxG]
  by_cases e:x=s
  ·rw[if_pos e,if_pos e]
  ·rw[if_neg e,if_neg e,Pq s r b]
   exact(List.mem_cons.1 h).resolve_left (fun h=>e h.symm)
theorem N2(s:Str): ∀(l:List FClass) (k:Nat),idxG s (l.map (·.name)) k=idxF (fun c:FClass=>decide (c.name=s)) l k
 |[],_=>rfl
 |c::r,k=>by
  rw[List.map_cons,idxG,idxF,N2 s r]
  by_cases e:c.name=s<;>simp[e]
theorem N0{mine mine':List Str}(hm:∀x,x∈mine ↔ x∈mine')(hn:∀s∈mine',AP s=true): ∀(l:List FInit) (seen:List Str),iniE mine seen l=iniR mine' seen l
 |[],_=>rfl
 |x::r,seen=>by
  rw[iniE,iniR,N0 hm hn r,decide_eq_decide.2 (hm x.slot)]
  by_cases h:x.slot∈mine'
  ·rw[decide_eq_true h,hn _ h];cases decide (x.slot∈seen)<;>cases inB x.n<;>simp
  ·rw[decide_eq_false h];simp
theorem SO(f:FProg)(aA:∀s∈f.classes.flatMap (·.slots),AP s=true)(hp:∀i, ∀s∈prs f i,s∈(f.classes.take i).map (·.name)): ∀(l pre:List FClass) (hs:List (List Str)),f.classes=pre++l->hs.length=pre.length->
  (∀j<pre.length, ∀x,x∈(hs[j]?).getD [] ↔ HasS f j x)->iniL (pre.map (·.name)) hs l=inisR f pre.length l
 |[],_,_,_,_,_=>rfl
 | c::r,pre,hs,hf,hl,hh=>by
  have au:pre.length<f.classes.length:=by rw[hf];simp
  have av:f.classes[pre.length]=c:=by simp[hf]
  have aB:prs f pre.length=c.parents:=by unfold prs;rw[List.getElem?_eq_getElem au,av];rfl
  have ax:f.classes.take pre.length=pre:=by rw[hf];simp
  have ar:∀i, ∀s∈prs f i,ixN f s<i/\idxG s ((f.classes.take i).map (·.name)) 0=ixN f s:=fun i s hs=>by
   have h1:=hp i s hs
   have h2:idxG s (f.classes.map (·.name)) 0=idxG s ((f.classes.take i).map (·.name)) 0:=by
    conv=>lhs;rw[<-List.take_append_drop i f.classes,List.map_append]
    exact Pq s _ _ 0 h1
   have h3:=(OB s ((f.classes.take i).map (·.name)) 0 h1).2
   rw[List.length_map,List.length_take]at h3
   have h4:ixN f s=(idxG s ((f.classes.take i).map (·.name)) 0).toNat:=by rw[<-h2,N2];rfl
   rw[h4];omega
  have ag:∀x,x∈Eo (pre.map (·.name)) hs c ↔ HasS f pre.length x:=fun x=>by
   unfold Eo
   rw[List.mem_append,List.mem_flatMap]
   constructor
   ·rintro(⟨s,h1,h2⟩|h)
    ·rw[<-aB]at h1
     obtain⟨g1,g2⟩:=ar _ s h1
     rw[ax]at g2
     unfold N4 at h2
     rw[g2,show((ixN f s:Nat):Int).toNat=ixN f s by omega]at h2
     obtain⟨j,a1,a2⟩:=(hh _ g1 x).1 h2
     exact⟨j,.step h1 a1,a2⟩
    ·exact⟨pre.length,.refl _,au,by rw[av];exact h⟩
   ·rintro⟨j,h1,h2⟩
    cases h1 with
    |refl =>
     obtain⟨h3,h4⟩:=h2
     right;rw[av]at h4;exact h4
    |step ay h1 =>
     rename_i s
     obtain⟨g1,g2⟩:=ar _ s ay
     rw[ax]at g2
     refine .inl ⟨s,by rw[<-aB];exact ay,?_⟩
     unfold N4
     rw[g2,show((ixN f s:Nat):Int).toNat=ixN f s by omega]
     exact(hh _ g1 x).2 ⟨j,h1,h2⟩
  have hR:∀x,x∈Ih f.classes ((abvF f pre.length).set pre.length true) ↔ HasS f pre.length x:=fun x=>by
   rw[MQ]
   refine exists_congr fun j=>?_
   rw[WC f _ au (fun i s hs=>(ar i s hs).1) j]
   exact⟨fun ⟨a,b,c⟩=>⟨b,a,c⟩,fun ⟨b,a,c⟩=>⟨a,b,c⟩⟩
  rw[iniL,inisR,N0 (fun x=>(ag x).trans (hR x).symm) (fun s hs=>by
   obtain⟨j,_,h1,h2⟩:=(hR s).1 hs
   exact aA s (List.mem_flatMap.2 ⟨_,List.getElem_mem h1,h2⟩))]
  congr 1
  have ih:=SO f aA hp r (pre++[c]) (hs++[Eo (pre.map (·.name)) hs c]) (by rw[hf];simp) (by simp[hl]) (fun j hj x=>by
   by_cases h1:j<hs.length
   ·rw[List.getElem?_append_left h1];exact hh j (by omega) x
   ·have:j=pre.length:=by simp only[List.length_append,List.length_cons,List.length_nil]at hj;omega
    subst this
    rw[List.getElem?_append_right (by omega),hl,Nat.sub_self]
    exact ag x)
  rw[List.map_append]at ih
  simp only[List.map_cons,List.map_nil,List.length_append,List.length_cons,List.length_nil,Nat.zero_add]at ih
  exact ih
theorem JN: ∀(l:List FClass) (own:List Str),CQ own l=true->∀i, ∀s∈((l[i]?).map (·.parents)).getD [],s∈own++(l.take i).map (·.name)
 |[],_,_,i,s,h=>by simp at h
 | c::r,own,h,i,s,hs=>by
  rw[CQ]at h
  simp only[Bool.and_eq_true]at h
  cases i with
  |zero =>
   have hs:s∈c.parents:=by simpa using hs
   have:=List.all_eq_true.1 h.2.1 s hs
   simpa using this
  |succ i =>
   have:=JN r (own++[c.name]) h.2.2 i s (by simpa using hs)
   simpa[List.append_assoc] using this
theorem clsB_eq(f:FProg):clsB f=(EJ f&&inisR f 0 f.classes):=by
 have aw:decide (f.classes.length<=10) = !decide (10<f.classes.length):=by rw[<-decide_not];exact decide_eq_decide.2 (by omega)
 unfold clsB EJ
 rw[Ld,aw,Bool.and_assoc]
 congr 1
 rw[Bool.eq_iff_iff]
 have hS:=V5 f.classes [] [] (fun s hs=>by cases hs)
 unfold Ef
 simp only[Bool.and_eq_true]
 rw[hS]
 have key:CQ [] f.classes=true->(f.classes.flatMap (·.slots)).all AP=true->iniL [] [] f.classes=inisR f 0 f.classes:=fun h1 h2=>
  SO f (fun s hs=>List.all_eq_true.1 h2 s hs) (fun i s hs=>by have:=JN _ _ h1 i s hs;simpa using this) f.classes [] [] rfl rfl (fun j hj=>by simp at hj)
 constructor
 ·rintro⟨⟨a,b,c⟩,d⟩
  exact⟨⟨a,b,c⟩,by rw[<-key a c.1];exact d⟩
 ·rintro⟨⟨a,b,c⟩,d⟩
  exact⟨⟨a,b,c⟩,by rw[key a c.1];exact d⟩
theorem prog_eq(f:FProg):If f=(BG f).isSome:=by
 unfold If BG N3
 rw[clsB_eq]
 by_cases h1:EJ f=true
 ·by_cases h2:inisR f 0 f.classes=true
  ·by_cases h3:f.methods.length<=16
   ·have aG:f.classes.length<=10:=by
     unfold EJ at h1
     simp only[Bool.and_eq_true,Bool.not_eq_true',decide_eq_false_iff_not]at h1
     omega
    rw[h1,h2,decide_eq_true h3]
    simp only[Bool.true_and,Bool.and_true,if_true]
    have hk:=MX (names:=f.classes.map (·.name)) (slots:=f.classes.flatMap (·.slots)) (args:=[]) (lits:=false) (e:=f.main) (n:=(f.classes.length:Int)) (by omega)
    cases hm:BX (f.classes.map (·.name)) (f.classes.flatMap (·.slots)) [] false f.main f.classes.length with
    |none =>
     simp only[Option.isSome_none]
     rw[Bool.eq_false_iff]
     intro hh
     simp only[Bool.and_eq_true,decide_eq_true_eq]at hh
     obtain⟨a,⟨b,c⟩,_⟩:=hh
     unfold budR at b
     have:=(hk (f.classes.length+(allE f.main).length)).2 ⟨a,rfl,by omega,c⟩
     rw[this]at hm;cases hm
    | some n =>
     obtain⟨a,b,c,d⟩:=(hk n).1 hm
     have hb:budR f=120-n:=by unfold budR;omega
     have ho:ownR f=f.classes.map (·.name):=rfl
     have aK:DF f=f.classes.flatMap (·.slots):=rfl
     have aR:=MS (names:=f.classes.map (·.name)) (slots:=f.classes.flatMap (·.slots)) f.methods n (by omega) c
     rw[hb,ho,aK,<-aR,d,a,decide_eq_true (show 0<=120-n by omega)]
     simp only[Bool.true_and]
     cases aD:DH (f.classes.map (·.name)) (f.classes.flatMap (·.slots)) f.methods n with
     |none=>rfl
     |some k =>
      simp only[Option.isSome_some,Bool.true_and]
      cases hg:((CK f).2&&decide ((CK f).1.length<=8))<;>simp
   ·rw[decide_eq_false h3];simp
  ·simp[h2]
 ·simp[h1]
def cntB(p:BProg):Nat->Int->Nat
 |0,_=>1
 |k+1,node=>1+wtL (cntB p k) (Ap p node).kids
def negS(s:List Int):Nat:=s.countP (· < 0)
theorem Pg: ∀(s:List Int) (n:Nat) (v:Int),n<s.length->s.getD n 0<0->0<=v->negS (s.set n v)+1=negS s
 |[],n,v,h,_,_=>by simp at h
 |x::r,0,v,_,h,hv=>by
  have hx:x<0:=h
  simp only[List.set_cons_zero,negS,List.countP_cons,hx,decide_true,if_true]
  rw[if_neg (by simpa using hv)]
 |x::r,n+1,v,hl,h,hv=>by
  have:=Pg r n v (by simpa using hl) (by simpa using h) hv
  simp only[negS]at this
  simp only[List.set_cons_succ,negS,List.countP_cons]
  omega
theorem ID{p:BProg}{k:Nat}{f:Int->Int->List Int->Bool×List Int}{x:BNode}{size:Int}
  (hf:∀c z s s',f c z s=(true,s')->s.length=p.nodes.length->0<=z->okE p k c z.toNat/\s'.length=s.length/\cntB p k c+negS s'<=negS s) (hz:0<=size) :
  ∀(l:List Int) (j:Nat) (s s':List Int),Bx f x size j l s=(true,s')->s.length=p.nodes.length->
   (∀(i:Nat) (h:i<l.length),okE p k l[i] (if x.op=9/\j+i=1 then size.toNat+1 else size.toNat))/\s'.length=s.length/\wtL (cntB p k) l+negS s'<=negS s
 |[],j,s,s',h,hs=>by
  rw[Bx]at h;cases h
  exact⟨fun i h=>by simp at h,rfl,by rw[wtL];omega⟩
 | c::r,j,s,s',h,hs=>by
  rw[Bx]at h
  cases hc:f c (if x.op=9/\j=1 then size+1 else size) s with
  | mk b s1 =>
   rw[hc]at h
   cases b with
   |false=>simp at h
   | true =>
    obtain⟨h1,h2,h3⟩:=hf _ _ _ _ hc hs (by split<;>omega)
    obtain⟨h4,h5,h6⟩:=ID hf hz r (j+1) s1 s' h (by omega)
    refine⟨fun i hi=>?_,by omega,by rw[wtL];omega⟩
    cases i with
    |zero =>
     simp only[List.getElem_cons_zero,Nat.add_zero]
     rw[show(if x.op=9/\j=1 then size.toNat+1 else size.toNat)=(if x.op=9/\j=1 then size+1 else size).toNat by split<;>omega]
     exact h1
    |succ i =>
     have:=h4 i (by simpa using hi)
     rw[show j+1+i=j+(i+1) by omega]at this
     exact this
theorem Ik(p:BProg)(inM:Bool): ∀(k:Nat) (node size:Int) (s s':List Int),BR p inM k node size s=(true,s')->s.length=p.nodes.length->0<=size->okE p k node size.toNat/\s'.length=s.length/\cntB p k node+negS s'<=negS s
 |0,_,_,_,_,h,_,_=>by simp[BR]at h
 | k+1,node,size,s,s',h,hs,hz=>by
  rw[BR]at h
  split at h
  ·simp at h
  ·rename_i h1
   split at h
   ·simp at h
   ·rename_i h2
    obtain⟨h4,h5,h6⟩:=ID (Ik p inM k) hz (Ap p node).kids 0 _ s' h (by simpa using hs)
    have hn:node.toNat<s.length:=by omega
    have h7:=Pg s node.toNat size hn (by omega) hz
    refine⟨?_,by rw[h5,List.length_set],by rw[cntB];omega⟩
    rw[okE]
    refine⟨⟨by omega,by omega⟩,?_,fun j hj=>?_⟩
    ·rw[show((size.toNat:Nat):Int)=size by omega]
     cases hb:Bk p (Ap p node) size
     ·exact absurd (.inr (.inl hb)) h2
     ·rfl
    ·have:=h4 j hj
     rw[Nat.zero_add]at this
     exact this
theorem Km{p:BProg}{k:Nat}{f:Int->List Str->Nat->FExp×Nat}{op:Int}{txt:Str}{env:List Str}(hf:∀c e t,(f c e t).2<=t+cntB p k c): ∀(l:List Int) (j t:Nat),(CA f op txt env j l t).2<=t+wtL (cntB p k) l
 |[],_,t=>by rw[CA,wtL];simp
 |c::r,j,t=>by
  rw[CA,wtL]
  have h1:=hf c (if op=9/\j=1 then env++[txt] else env) t
  have h2:=Km (op:=op) (txt:=txt) (env:=env) hf r (j+1) (f c (if op=9/\j=1 then env++[txt] else env) t).2
  simp only
  omega
theorem Oj(p:BProg)(a b g P:List Str): ∀(k:Nat) (node:Int) (env:List Str) (t:Nat),(spE p a b g P k node env t).2<=t+cntB p k node
 |0,_,_,t=>by rw[spE,cntB];simp
 |k+1,node,env,t=>by
  rw[spE,cntB]
  have:=Km (op:=(Ap p node).op) (txt:=Ch a b g P (Ap p node) env t) (env:=env) (Oj p a b g P k) (Ap p node).kids 0 (if(Ap p node).op=9 then t+1 else t)
  have h2:(if(Ap p node).op=9 then t+1 else t)<=t+1:=by split<;>omega
  generalize (if(Ap p node).op=9 then t+1 else t)=t0 at*
  simp only
  omega
theorem Jb(p:BProg): ∀(l:List BMeth) (s s':List Int),Dp p l s=some s'->s.length=p.nodes.length->(∀g∈p.gens,1<=g)->
  (∀m∈l,Ep p m=true/\okE p 12 m.node (CU p m)/\cntB p 12 m.node<=p.nodes.length)/\s'.length=s.length/\negS s'<=negS s
 |[],s,s',h,hs,_=>by rw[Dp]at h;cases h;exact⟨by simp,rfl,Nat.le_refl _⟩
 | m::r,s,s',h,hs,hg=>by
  rw[Dp]at h
  split at h
  ·rename_i hm
   cases hw:BR p (decide (m.kind=1)||decide (m.kind=4)) 12 m.node (p.gens.getD m.gen.toNat 0) s with
   | mk b s1 =>
    rw[hw]at h
    cases b with
    |false=>simp[optW]at h
    | true =>
     simp only[optW]at h
     have ah:0<=m.gen/\m.gen<p.gens.length:=by
      unfold Ep at hm
      simp only[Bool.and_eq_true,decide_eq_true_eq]at hm
      exact hm.1.1.2
     have h0:0<=p.gens.getD m.gen.toNat 0:=by
      have hl:m.gen.toNat<p.gens.length:=by omega
      rw[List.getD_eq_getElem?_getD,List.getElem?_eq_getElem hl]
      have:=hg _ (List.getElem_mem hl)
      simp only[Option.getD_some];omega
     obtain⟨h1,h2,h3⟩:=Ik p _ 12 _ _ _ _ hw hs h0
     obtain⟨h4,h5,h6⟩:=Jb p r s1 s' h (by omega) hg
     have aC:negS s<=s.length:=List.countP_le_length
     refine⟨fun x hx=>?_,by omega,by omega⟩
     rcases List.mem_cons.1 hx with rfl|hx
     ·exact⟨hm,h1,by omega⟩
     ·exact h4 x hx
  ·cases h
theorem H5: ∀(l:List Int) (n m:Int),CB n l=some m->m=n+l.length /\ ∀x∈l,n<=x/\x<m
 |[],n,m,h=>by rw[CB]at h;cases h;simp
 | s::r,n,m,h=>by
  rw[CB]at h
  split at h
  ·rename_i hs
   obtain⟨h1,h2⟩:=H5 r _ _ h
   refine⟨by rw[h1,List.length_cons];omega,fun x hx=>?_⟩
   rcases List.mem_cons.1 hx with rfl|hx
   ·omega
   ·have:=h2 x hx;omega
  ·cases h
theorem Gc: ∀(cs:List BClass) (n m:Int),Bw n cs=some m->m=n+wtL (fun c:BClass=>c.slots.length) cs/\(∀c∈cs, ∀x∈c.slots,n<=x/\x<m)/\wtL (fun c:BClass=>c.slots.length) cs<=4*cs.length
 |[],n,m,h=>by rw[Bw]at h;cases h;simp[wtL]
 | c::r,n,m,h=>by
  rw[Bw]at h
  split at h
  ·cases h
  ·rename_i h4
   split at h
   ·cases h
   ·rename_i m1 hm
    obtain⟨h1,h2⟩:=H5 _ _ _ hm
    obtain⟨h5,h6,h7⟩:=Gc r _ _ h
    refine⟨by rw[wtL];omega,fun x hx y hy=>?_,by rw[wtL,List.length_cons];omega⟩
    rcases List.mem_cons.1 hx with rfl|hx
    ·have:=h2 y hy;omega
    ·have:=h6 x hx y hy;omega
theorem EV: ∀(cs:List BClass) (i:Nat),(ownersF cs i).length=wtL (fun c:BClass=>c.slots.length) cs
 |[],_=>by rw[ownersF,wtL];rfl
 |c::r,i=>by rw[ownersF,wtL,List.length_append,List.length_replicate,EV r]
theorem Is(cs:List BClass)(Q:Int->Prop)(hQ:∀c∈cs, ∀x∈c.slots,Q x): ∀(n:Nat) (up out:List Int),(∀x∈out,Q x)->∀x∈hasG cs n up out,Q x
 |0,_,out,ho,x,hx=>by rw[hasG]at hx;exact ho x hx
 | n+1,up,out,ho,x,hx=>by
  rw[hasG]at hx
  split at hx
  ·rename_i c hc
   split at hx
   ·refine Is cs Q hQ n _ _ (fun y hy=>?_) x hx
    rcases List.mem_append.1 hy with hy|hy
    ·exact ho y hy
    ·exact hQ c (List.mem_of_getElem? hc) y hy
   ·exact Is cs Q hQ n _ _ ho x hx
  ·exact Is cs Q hQ n _ _ ho x hx
theorem MZ(has:List Int): ∀(l:List Init) (seen:List Int),DI has seen l=true->∀x∈l,x.slot∈has
 |[],_,_,x,hx=>by simp at hx
 |y::r,seen,h,x,hx=>by
  rw[DI]at h
  simp only[Bool.and_eq_true,decide_eq_true_eq]at h
  rcases List.mem_cons.1 hx with rfl|hx
  ·exact h.1.1.1
  ·exact MZ has r _ h.2 x hx
theorem I5(p:BProg): ∀(l:List BClass) (i:Nat),Bl p i l=true->∀c∈l, ∃j:Int,DI (hasP p j) [] c.inits=true
 |[],_,_,c,hc=>by simp at hc
 |y::r,i,h,c,hc=>by
  rw[Bl]at h
  simp only[Bool.and_eq_true,decide_eq_true_eq]at h
  rcases List.mem_cons.1 hc with rfl|hc
  ·exact⟨_,h.1.2⟩
  ·exact I5 p r _ h.2 c hc
structure ClassesOK(p:BProg):Prop where
 len:p.classes.length<=10
 slots:0<=p.slots/\p.slots<=40
 own:((AR p).owner.length:Int)=p.slots
 cls:∀c∈p.classes,ClsIx (3+p.classes.length) p.slots.toNat c
theorem Rs{p:BProg}(h:Ar p=true):ClassesOK p:=by
 unfold Ar at h
 simp only[Bool.and_eq_true,decide_eq_true_eq]at h
 obtain⟨aw,h⟩:=h
 split at h
 ·cases h
 ·rename_i n hn
  simp only[Bool.and_eq_true,decide_eq_true_eq]at h
  obtain⟨⟨aC,hg⟩,hi⟩:=h
  obtain⟨k1,k2,k3⟩:=Gc _ _ _ hn
  refine⟨aw,by omega,by show((ownersF p.classes 0).length:Int)=p.slots;rw[EV];omega,fun c hc=>⟨fun x hx=>?_,fun x hx=>?_,fun x hx=>?_⟩⟩
  ·obtain⟨k,hk,rfl⟩:=List.getElem_of_mem hc
   have:=(BB hg (k+3)).2 x (by
    unfold parentsF
    rw[if_neg (by omega)]
    rw[show(((k+3:Nat):Int)-3).toNat=k by omega,List.getElem?_eq_getElem (by simpa using hk)]
    simpa using hx)
   exact⟨by omega,by omega⟩
  ·have:=k2 c hc x hx
   exact⟨by omega,by omega⟩
  ·obtain⟨j,hj⟩:=I5 p _ _ hi c hc
   have h1:=MZ _ _ _ hj x hx
   unfold hasP at h1
   unfold ES at h1
   have h2:=Is p.classes (fun x=>0<=x/\x<n) k2 _ _ [] (by simp) _ (List.mem_mergeSort.1 h1)
   exact⟨by omega,by omega⟩
theorem mx_le(x y:Int):x<=mx x y/\y<=mx x y:=by unfold mx;split<;>omega
theorem Kl: ∀(l:List Fact) (n:Int),n<=Fact.speakss l n /\ ∀x∈l,x.speaks<=Fact.speakss l n
 |[],n=>by rw[Fact.speakss];simp
 |f::l,n=>by
  rw[Fact.speakss]
  obtain⟨h1,h2⟩:=Kl l (mx n f.speaks)
  obtain⟨h3,h4⟩:=mx_le n f.speaks
  refine⟨by omega,fun x hx=>?_⟩
  rcases List.mem_cons.1 hx with rfl|hx
  ·omega
  ·exact h2 x hx
theorem Qb{α S:Type}(f:α->S->Bool×S): ∀(l:List α) (s s':S),allS f l s=(true,s')->∀x∈l, ∃t t',f x t=(true,t')
 |[],_,_,_,x,hx=>by simp at hx
 | y::r,s,s',h,x,hx=>by
  rw[allS]at h
  cases hy:f y s with
  | mk b s1 =>
   rw[hy]at h
   cases b with
   |false=>simp at h
   |true =>
    rcases List.mem_cons.1 hx with rfl|hx
    ·exact⟨_,_,hy⟩
    ·exact Qb f r _ _ h x hx
theorem SV{A S P:Nat}: ∀(l:List Fact),(∀x∈l,FIx A S P x)->FIxs A S P l
 |[],_=>by rw[FIxs];trivial
 |x::r,h=>by rw[FIxs];exact⟨h x (by simp),SV r fun y hy=>h y (by simp[hy])⟩
theorem Pe(w:World)(P:Nat): ∀(d:Nat) (f:Fact) (s s':Int),Dn w d f s=(true,s')->f.speaks<=P->FIx (3+w.parents.length) w.owner.length P f
 |0,_,_,_,h,_=>by simp[Dn]at h
 | d+1,f,s,s',h,hP=>by
  have aL:=Fact.speaks_eq f
  rw[aL]at hP
  obtain⟨g1,g2⟩:=Kl f.kids (if BZ f.op then IntKind.i64.wrap (f.arg+1) else 0)
  rw[Dn]at h
  split at h
  ·simp at h
  ·rename_i aQ
   split at h
   ·rename_i hl
    rw[if_pos hl]at g1 g2 hP
    simp only[Prod.mk.injEq]at h
    have aq:=h.1
    unfold HP at aq
    simp only[Bool.and_eq_true,decide_eq_true_eq]at aq
    obtain⟨⟨⟨a1,a2⟩,ap⟩,hr⟩:=aq
    unfold MI at ap
    simp only[Bool.and_eq_true,List.all_eq_true,decide_eq_true_eq]at ap
    have hk:f.kids=[]:=by
     have aX:f.kids.length=Bs f.op:=Classical.byContradiction fun e=>aQ (.inr (.inr (.inr e)))
     have:Bs f.op=0:=by
      unfold BZ at hl
      simp only[Bool.or_eq_true,decide_eq_true_eq]at hl
      unfold Bs
      rw[if_neg (by omega),if_neg (by omega)]
     exact List.eq_nil_of_length_eq_zero (by omega)
    have hw:IntKind.i64.wrap (f.arg+1)=f.arg+1:=Ao (by omega) (by omega)
    rw[hw]at g1 hP
    have aT:f.arg<(P:Int):=by omega
    have aM:f.op=2->0<=f.cls/\f.cls<3+w.parents.length:=fun ho=>by
     rw[if_pos ho]at hr
     simp only[Bool.and_eq_true,decide_eq_true_eq]at hr
     exact hr.2
    clear hr
    cases f with
    |mk o a pth c n k =>
     simp only[Fact.kids,Fact.op,Fact.arg,Fact.path,Fact.cls,Fact.n]at*
     rw[FIx]
     refine⟨fun x hx=>?_,fun ho=>?_,fun _=>⟨a1,aT⟩,by rw[hk,FIxs];trivial⟩
     ·have:=ap.2 x hx;exact⟨this.1,this.2⟩
     ·have:=aM ho;exact⟨this.1,by omega⟩
   ·rename_i hl
    split at h
    ·rename_i h0
     obtain⟨b1,b2,b3,b4⟩:=h0
     have ak:∀x∈f.kids,FIx (3+w.parents.length) w.owner.length P x:=fun x hx=>by
      obtain⟨t,t',ht⟩:=Qb _ _ _ _ h x hx
      exact Pe w P d x t t' ht (by have:=g2 x hx;omega)
     cases f with
     |mk o a pth c n k =>
      simp only[Fact.kids,Fact.op,Fact.arg,Fact.path,Fact.cls,Fact.n]at*
      have aP:pth=[]:=List.eq_nil_of_length_eq_zero b2
      unfold BZ at hl
      simp only[Bool.or_eq_true,decide_eq_true_eq]at hl
      rw[FIx]
      exact⟨fun x hx=>by rw[aP]at hx;simp at hx,fun ho=>absurd (.inl (.inl ho)) hl,fun ho=>absurd (by omega) hl,SV _ ak⟩
    ·simp at h
theorem sp_ok{p:BProg}(aI:p.wt<=100000000)(h:okP p=true):SpOK p:=by
 unfold okP D0 at h
 split at h
 ·rename_i hc
  simp only[Bool.and_eq_true,decide_eq_true_eq,List.all_eq_true]at hc
  obtain⟨⟨aG,⟨⟨h8,bb⟩,aW⟩,aU⟩,hg⟩:=hc
  have hC:=Rs aG
  cases hm:Dp p p.methods (List.replicate p.nodes.length (-1))with
  |none=>rw[hm]at h;simp at h
  | some s =>
   rw[hm]at h
   obtain⟨k1,k2,k3⟩:=Jb p p.methods _ s hm (by simp) (fun g hx=>(hg g hx).1)
   rw[List.length_replicate]at k2
   cases hw:BR p false 12 p.main 0 s with
   | mk b s2 =>
    simp only[hw]at h
    cases b with
    |false=>simp[optW]at h
    | true =>
     obtain⟨m1,m2,m3⟩:=Ik p false 12 _ _ _ _ hw k2 (Int.le_refl _)
     have aC:negS s<=s.length:=List.countP_le_length
     have aE:=Oj p (spA p) (spS p) (spG p) (spL p) 12 p.main [] 0
     refine⟨aI,⟨hC.slots.1,by have:=hC.slots.2;omega⟩,hC.cls,fun m aD=>?_,m1,by omega⟩
     obtain⟨q1,q2,q3⟩:=k1 m aD
     unfold Ep at q1
     simp only[Bool.and_eq_true,decide_eq_true_eq]at q1
     obtain⟨⟨⟨_,ah⟩,aa⟩,aV⟩:=q1
     have ba:1<=p.gens.getD m.gen.toNat 0/\p.gens.getD m.gen.toNat 0<=3:=by
      have hl:m.gen.toNat<p.gens.length:=by omega
      rw[List.getD_eq_getElem?_getD,List.getElem?_eq_getElem hl]
      exact hg _ (List.getElem_mem hl)
     have aO:((CU p m:Nat):Int)=p.gens.getD m.gen.toNat 0:=by unfold CU;omega
     have aH:=Oj p (spA p) (spS p) (spG p) (spL p) 12 m.node ((spL p).take (CU p m)) (CU p m)
     refine⟨⟨ah.1,ah.2⟩,⟨by omega,by omega⟩,?_,q2,by omega⟩
     unfold Dh at aa
     cases hf:Dn (AR p) 12 m.fact 24 with
     | mk b t =>
      rw[hf]at aa
      cases b with
      |false=>simp at aa
      |true =>
       have:=Pe (AR p) (CU p m) 12 m.fact 24 t hf (by omega)
       have ho:(AR p).owner.length=p.slots.toNat:=by have:=hC.own;have:=hC.slots.1;omega
       rw[ho]at this
       have aN:(AR p).parents.length=p.classes.length:=by show(p.classes.map (·.parents)).length=_;rw[List.length_map]
       rw[aN]at this
       exact this
 ·simp at h
end Go.DL
