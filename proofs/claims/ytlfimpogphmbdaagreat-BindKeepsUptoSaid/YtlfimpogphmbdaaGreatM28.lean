/- A part of the proof. -/
import Derived.Test.YtlfimpogphmbdaaGreatM25
import Derived.Test.YtlfimpogphmbdaaGreatM27
import Derived.Test.YtlfimpogphmbdaaGreatM26
set_option linter.all false
namespace Go.DL
open Go Go.Proofs
mutual
def allD(q:Int->FExp->Bool):FExp->Int->Bool
 |.mk o n t k,d=>q d (.mk o n t k)&&Jl q k (d+1)
def Jl(q:Int->FExp->Bool):List FExp->Int->Bool
 |[],_=>true
 |x::r,d=>allD q x d&&Jl q r d
end
mutual
theorem UZ: ∀e:FExp,1<=(allE e).length
 |.mk o n t k=>by rw[allE,List.length_cons];omega
end
mutual
theorem FT(q:Int->FExp->Bool)(most:Int): ∀(e:FExp) (d n m:Int),n<=most->(visE (Fo q most) e d n=some m ↔ allD q e d=true/\m=n+(allE e).length/\m<=most)
 | .mk o nn t k,d,n,m,hn=>by
  rw[visE,allD,allE,List.length_cons]
  by_cases h:n+1<=most/\q d (.mk o nn t k)=true
  ·rw[F9 h.1 h.2,h.2,Bool.true_and];simp only;rw[Jq q most k (d+1) (n+1) m h.1];constructor
   ·rintro⟨a,b,c⟩;exact⟨a,by omega,c⟩
   ·rintro⟨a,b,c⟩;exact⟨a,by omega,c⟩
  ·rw[Fa (by cases hq:q d (.mk o nn t k)<;>simp_all)];simp only[reduceCtorEq,Bool.and_eq_true,false_iff]
   rintro⟨⟨a,_⟩,b,c⟩
   exact h ⟨by omega,a⟩
theorem Jq(q:Int->FExp->Bool)(most:Int): ∀(l:List FExp) (d n m:Int),n<=most->(CF (Fo q most) l d n=some m ↔ Jl q l d=true/\m=n+(Bw l).length/\m<=most)
 |[],d,n,m,hn=>by
  rw[CF,Jl,Bw];simp only[Option.some.injEq,true_and,List.length_nil];omega
 | x::r,d,n,m,hn=>by
  rw[CF,Jl,Bw,List.length_append];cases hv:visE (Fo q most) x d n with
  |none=>
   simp only[reduceCtorEq,Bool.and_eq_true,false_iff]
   rintro⟨⟨a,_⟩,b,c⟩
   have:=(FT q most x d n (n+(allE x).length) hn).2 ⟨a,rfl,by omega⟩;rw[this]at hv;cases hv
  |some y=>
   obtain⟨a,b,c⟩:=(FT q most x d n y hn).1 hv;simp only;rw[Jq q most r d y m c,a,Bool.true_and];constructor
   ·rintro⟨a,b,c⟩;exact⟨a,by omega,c⟩
   ·rintro⟨a,b,c⟩;exact⟨a,by omega,c⟩
end
mutual
theorem Ph: ∀(e:FExp) (d b:Int),0<=b->((cntE e d b).1=true ↔ allD EH e d=true/\((allE e).length:Int)<=b)/\((cntE e d b).1=true->(cntE e d b).2=b-(allE e).length)
 | .mk o n t k,d,b,hb=>by
  rw[cntE,allD,allE,List.length_cons];have hnE:EH d (.mk o n t k)=(decide (d<=12)&&shpB (.mk o n t k)):=rfl
  by_cases h:b-1<0\/12<d\/shpB (.mk o n t k)=false
  ·rw[if_pos h];refine⟨⟨fun h=>(by cases h),fun ⟨h1,h2⟩=>?_⟩,fun h=>(by cases h)⟩;rw[hnE]at h1;simp only[Bool.and_eq_true,decide_eq_true_eq]at h1;obtain⟨⟨a1,a2⟩,_⟩:=h1;rcases h with h|h|h
   ·omega
   ·omega
   ·rw[a2]at h;cases h
  ·rw[if_neg h];rw[not_or,not_or]at h;obtain⟨h1,h2,h3⟩:=h;have h4:EH d (.mk o n t k)=true:=by rw[hnE];simp only[Bool.and_eq_true,decide_eq_true_eq];exact⟨by omega,by simpa using h3⟩
   obtain⟨i1,i2⟩:=MX k (d+1) (b-1) (by omega);rw[h4,Bool.true_and,i1];refine⟨⟨fun ⟨a,b⟩=>⟨a,by omega⟩,fun ⟨a,b⟩=>⟨a,by omega⟩⟩,fun h=>?_⟩;rw[i2 (i1.2 h)];omega
theorem MX: ∀(l:List FExp) (d b:Int),0<=b->((NX l d b).1=true ↔ Jl EH l d=true/\((Bw l).length:Int)<=b)/\((NX l d b).1=true->(NX l d b).2=b-(Bw l).length)
 |[],d,b,hb=>by
  rw[NX,Jl,Bw];exact⟨⟨fun _=>⟨rfl,by simpa using hb⟩,fun _=>rfl⟩,fun _=>by simp⟩
 | x::r,d,b,hb=>by
  obtain⟨i1,i2⟩:=Ph x d b hb;rw[NX,Jl,Bw,List.length_append]
  by_cases h:(cntE x d b).1=true
  ·obtain⟨j0,j1⟩:=i1.1 h;have j2:=i2 h;obtain⟨k1,k2⟩:=MX r d (cntE x d b).2 (by omega);rw[if_pos h,k1,j0,Bool.true_and,j2];refine⟨⟨fun ⟨a,b⟩=>⟨a,by omega⟩,fun ⟨a,b⟩=>⟨a,by omega⟩⟩,fun hh=>?_⟩;rw[j2]at k1 k2;rw[k2 (k1.2 hh)];omega
  ·rw[if_neg h];refine⟨⟨fun h=>(by cases h),fun ⟨h1,h2⟩=>absurd (i1.2 ⟨?_,by omega⟩) h⟩,fun h=>(by cases h)⟩;simp only[Bool.and_eq_true]at h1;exact h1.1
end
mutual
theorem HS(q:FExp->Bool): ∀(e:FExp) (d:Int),(visE (fun _ x (_:Unit)=>if q x=true then some () else none) e d ()=some () ↔ (allE e).all q=true)
 |.mk o n t k,d=>by
  rw[visE,allE,List.all_cons]
  by_cases h:q (.mk o n t k)=true
  ·rw[h,Bool.true_and];simp only[if_pos];exact Jp q k (d+1)
  ·simp[h]
theorem Jp(q:FExp->Bool): ∀(l:List FExp) (d:Int),(CF (fun _ x (_:Unit)=>if q x=true then some () else none) l d ()=some () ↔ (Bw l).all q=true)
 |[],d=>by rw[CF,Bw];simp
 | x::r,d=>by
  rw[CF,Bw,List.all_append];cases hv:visE (fun _ x (_:Unit)=>if q x=true then some () else none) x d ()with
  |none=>
   have:¬(allE x).all q=true:=fun h=>by rw[(HS q x d).2 h]at hv;cases hv
   simp[this]
  |some u=>
   have:(allE x).all q=true:=(HS q x d).1 hv;simp only;rw[this,Bool.true_and];exact Jp q r d
end
theorem PG{d:Int}{e:FExp}(h:EH d e=true)(h3:e.op=3):e.kids=[]/\e.n=0:=by
 unfold EH Nx at h;rw[h3]at h;have hg:getM ⟨false,0,0⟩ (3:Int) shapesL=⟨true,0,0⟩:=rfl;rw[hg]at h;simp only[Bool.and_eq_true,decide_eq_true_eq]at h;obtain⟨_,⟨⟨_,hk⟩,_⟩,_,hn⟩:=h;refine⟨List.length_eq_zero_iff.1 (by omega),?_⟩;simpa using hn
mutual
theorem JN: ∀(e:FExp) (d:Int),allD EH e d=true->∀(b b' a:List Str),(∀x,x∈b ↔ x∈b')->∀x,x∈freeE e b a ↔ x∈a\/x∈OD e b'
 | .mk o n t k,d,h,b,b',a,hb,x=>by
  rw[allD,Bool.and_eq_true]at h;rw[freeE,OD]
  by_cases h3:o=3
  ·obtain⟨hk,_⟩:=PG h.1 h3;have hk:k=[]:=hk;subst hk;rw[C2]
   by_cases ht:t∈b
   ·rw[if_neg (fun h=>h.2 ht),if_neg (fun h=>h.2 ((hb t).1 ht)),GQ];simp
   ·rw[if_pos ⟨h3,ht⟩,if_pos ⟨h3,fun h=>ht ((hb t).2 h)⟩,Ir];simp[or_comm]
  ·rw[if_neg (fun h=>h3 h.1),if_neg (fun h=>h3 h.1)];exact IG k (d+1) h.2 o t 0 b b' a hb x
theorem IG: ∀(l:List FExp) (d:Int),Jl EH l d=true->∀(o:Int) (t:Str) (i:Nat) (b b' a:List Str),(∀x,x∈b ↔ x∈b')->∀x,x∈C2 o t b i l a ↔ x∈a\/x∈GQ o t l i b'
 |[],d,h,o,t,i,b,b',a,hb,x=>by rw[C2,GQ];simp
 | y::r,d,h,o,t,i,b,b',a,hb,x=>by
  rw[Jl,Bool.and_eq_true]at h;rw[C2,GQ,IG r d h.2 o t (i+1) b b' _ hb x,List.mem_append]
  have hb2:∀x,x∈(if o=9/\i=1 then t::b else b) ↔ x∈(if o=9/\i=1 then ins t b' else b'):=fun x=>by
   split
   ·rw[Ir,List.mem_cons,hb x]
   ·exact hb x
  rw[JN y d h.1 _ _ a hb2 x,or_assoc]
end
theorem LZ{names slots args:List Str}{lits:Bool}{e:FExp}{n:Int}(hn:0<=n)(m:Int):
  Bn names slots args lits e n=some m ↔ (cntE e 1 120).1=true/\m=n+(allE e).length/\m<=120/\LF args slots names lits e=true:=by
 obtain⟨c1,_⟩:=Ph e 1 120 (by omega);have hp:=UZ e;unfold Bn;cases hl:Hp 120 e with
 |none=>
  simp only[reduceCtorEq,false_iff]
  rintro⟨h1,h2,h3,_⟩
  rw[c1]at h1;have:=(FT EH 120 e 1 0 (0+(allE e).length) (by omega)).2 ⟨h1.1,rfl,by omega⟩;unfold Hp at hl;rw[this]at hl;cases hl
 | some k =>
  obtain⟨a1,a2,a3⟩:=(FT EH 120 e 1 0 k (by omega)).1 hl
  have hsay:(allK names slots lits e=some () /\ ∀s∈freeE e [] [],s∈args) ↔ LF args slots names lits e=true:=by
   unfold LF;rw[Bool.and_eq_true];refine and_congr (HS (nodK names slots lits) e 1) ?_;rw[List.all_eq_true];simp only[decide_eq_true_eq];refine forall_congr' fun s=>imp_congr ?_ Iff.rfl;rw[JN e 1 a1 [] [] [] (fun _=>Iff.rfl) s];simp
  simp only;constructor
  ·intro h;split at h
   ·rename_i hh;cases h;exact⟨c1.2 ⟨a1,by omega⟩,by omega,hh.1,hsay.1 hh.2⟩
   ·cases h
  ·rintro⟨h1,h2,h3,h4⟩
   rw[if_pos ⟨by omega,hsay.2 h4⟩]
   congr 1;omega
mutual
def fCnt:FFact->Nat
 |.mk _ _ _ _ _ k=>L4 k+1
def L4:List FFact->Nat
 |[]=>0
 |x::r=>fCnt x+L4 r
end
mutual
def FN(q:Int->FFact->Bool):FFact->Int->Bool
 |.mk o a b c n k,d=>q d (.mk o a b c n k)&&Ci q k (d+1)
def Ci(q:Int->FFact->Bool):List FFact->Int->Bool
 |[],_=>true
 |x::r,d=>FN q x d&&Ci q r d
end
theorem Ul: ∀e:FFact,1<=fCnt e
 |.mk _ _ _ _ _ k=>by rw[fCnt];omega
mutual
theorem Nc(p q:Int->FFact->Bool): ∀(e:FFact) (d:Int),(FN p e d=true/\FN q e d=true) ↔ FN (fun d x=>p d x&&q d x) e d=true
 |.mk o a b c n k,d=>by
  rw[FN,FN,FN];have:=Kt p q k (d+1);simp only[Bool.and_eq_true]at this⊢;rw[<-this];grind
theorem Kt(p q:Int->FFact->Bool): ∀(l:List FFact) (d:Int),(Ci p l d=true/\Ci q l d=true) ↔ Ci (fun d x=>p d x&&q d x) l d=true
 |[],d=>by rw[Ci,Ci,Ci];simp
 |x::r,d=>by
  rw[Ci,Ci,Ci];have h1:=Nc p q x d;have h2:=Kt p q r d;simp only[Bool.and_eq_true]at h1 h2⊢;rw[<-h1,<-h2];grind
end
mutual
theorem FR(q:Int->FFact->Bool)(most:Int): ∀(e:FFact) (d n m:Int),n<=most->(visF (Fo q most) e d n=some m ↔ FN q e d=true/\m=n+fCnt e/\m<=most)
 | .mk o a b c nn k,d,n,m,hn=>by
  rw[visF,FN,fCnt]
  by_cases h:n+1<=most/\q d (.mk o a b c nn k)=true
  ·rw[F9 h.1 h.2,h.2,Bool.true_and];simp only;rw[Jo q most k (d+1) (n+1) m h.1];constructor
   ·rintro⟨a,b,c⟩;exact⟨a,by omega,c⟩
   ·rintro⟨a,b,c⟩;exact⟨a,by omega,c⟩
  ·rw[Fa (by cases hq:q d (.mk o a b c nn k)<;>simp_all)];simp only[reduceCtorEq,Bool.and_eq_true,false_iff]
   rintro⟨⟨a,_⟩,b,c⟩
   exact h ⟨by omega,a⟩
theorem Jo(q:Int->FFact->Bool)(most:Int): ∀(l:List FFact) (d n m:Int),n<=most->(Fl (Fo q most) l d n=some m ↔ Ci q l d=true/\m=n+L4 l/\m<=most)
 |[],d,n,m,hn=>by
  rw[Fl,Ci,L4];simp only[Option.some.injEq,true_and];omega
 | x::r,d,n,m,hn=>by
  rw[Fl,Ci,L4];cases hv:visF (Fo q most) x d n with
  |none=>
   simp only[reduceCtorEq,Bool.and_eq_true,false_iff]
   rintro⟨⟨a,_⟩,b,c⟩
   have:=(FR q most x d n (n+fCnt x) hn).2 ⟨a,rfl,by omega⟩;rw[this]at hv;cases hv
  |some y=>
   obtain⟨a,b,c⟩:=(FR q most x d n y hn).1 hv;simp only;rw[Jo q most r d y m c,a,Bool.true_and];constructor
   ·rintro⟨a,b,c⟩;exact⟨a,by omega,c⟩
   ·rintro⟨a,b,c⟩;exact⟨a,by omega,c⟩
end
section
variable {P S C:List Str}
def fctQ(P S C:List Str)(d:Int)(x:FFact):Bool:=decide (d<=12)&&fctB P S C x
mutual
theorem OR: ∀(e:FFact) (d b:Int),0<=b->((fctE P S C e d b).1=true ↔ FN (fctQ P S C) e d=true/\(fCnt e:Int)<=b)/\((fctE P S C e d b).1=true->(fctE P S C e d b).2=b-fCnt e)
 | .mk o s p c n k,d,b,hb=>by
  rw[fctE,FN,fCnt];have hnE:fctQ P S C d (.mk o s p c n k)=(decide (d<=12)&&fctB P S C (.mk o s p c n k)):=rfl
  by_cases h:b-1<0\/12<d\/fctB P S C (.mk o s p c n k)=false
  ·rw[if_pos h];refine⟨⟨fun h=>(by cases h),fun ⟨h1,h2⟩=>?_⟩,fun h=>(by cases h)⟩;rw[hnE]at h1;simp only[Bool.and_eq_true,decide_eq_true_eq]at h1;obtain⟨⟨a1,a2⟩,_⟩:=h1;rcases h with h|h|h
   ·omega
   ·omega
   ·rw[a2]at h;cases h
  ·rw[if_neg h];rw[not_or,not_or]at h;obtain⟨h1,h2,h3⟩:=h;have h4:fctQ P S C d (.mk o s p c n k)=true:=by rw[hnE];simp only[Bool.and_eq_true,decide_eq_true_eq];exact⟨by omega,by simpa using h3⟩
   obtain⟨i1,i2⟩:=Mh k (d+1) (b-1) (by omega);rw[h4,Bool.true_and,i1];refine⟨⟨fun ⟨a,b⟩=>⟨a,by omega⟩,fun ⟨a,b⟩=>⟨a,by omega⟩⟩,fun h=>?_⟩;rw[i2 (i1.2 h)];omega
theorem Mh: ∀(l:List FFact) (d b:Int),0<=b->((GX P S C l d b).1=true ↔ Ci (fctQ P S C) l d=true/\(L4 l:Int)<=b)/\((GX P S C l d b).1=true->(GX P S C l d b).2=b-L4 l)
 |[],d,b,hb=>by
  rw[GX,Ci,L4];exact⟨⟨fun _=>⟨rfl,by simpa using hb⟩,fun _=>rfl⟩,fun _=>by simp⟩
 | x::r,d,b,hb=>by
  obtain⟨i1,i2⟩:=OR x d b hb;rw[GX,Ci,L4]
  by_cases h:(fctE P S C x d b).1=true
  ·obtain⟨j0,j1⟩:=i1.1 h;have j2:=i2 h;obtain⟨k1,k2⟩:=Mh r d (fctE P S C x d b).2 (by omega);rw[if_pos h,k1,j0,Bool.true_and,j2];refine⟨⟨fun ⟨a,b⟩=>⟨a,by omega⟩,fun ⟨a,b⟩=>⟨a,by omega⟩⟩,fun hh=>?_⟩;rw[j2]at k1 k2;rw[k2 (k1.2 hh)];omega
  ·rw[if_neg h];refine⟨⟨fun h=>(by cases h),fun ⟨h1,h2⟩=>absurd (i1.2 ⟨?_,by omega⟩) h⟩,fun h=>(by cases h)⟩;simp only[Bool.and_eq_true]at h1;exact h1.1
end
end
mutual
theorem HR(q:FFact->Bool): ∀(e:FFact) (d:Int),(visF (fun _ x (_:Unit)=>if q x=true then some () else none) e d ()=some () ↔ FN (fun _ x=>q x) e d=true)
 |.mk o a b c n k,d=>by
  rw[visF,FN]
  by_cases h:q (.mk o a b c n k)=true
  ·rw[h,Bool.true_and];simp only[if_pos];exact Jn q k (d+1)
  ·simp[h]
theorem Jn(q:FFact->Bool): ∀(l:List FFact) (d:Int),(Fl (fun _ x (_:Unit)=>if q x=true then some () else none) l d ()=some () ↔ Ci (fun _ x=>q x) l d=true)
 |[],d=>by rw[Fl,Ci];simp
 | x::r,d=>by
  rw[Fl,Ci];cases hv:visF (fun _ x (_:Unit)=>if q x=true then some () else none) x d ()with
  |none=>
   have:¬FN (fun _ x=>q x) x d=true:=fun h=>by rw[(HR q x d).2 h]at hv;cases hv
   simp[this]
  |some u=>
   have:FN (fun _ x=>q x) x d=true:=(HR q x d).1 hv;simp only;rw[this,Bool.true_and];exact Jn q r d
end
theorem TX{P S own:List Str}(hP:[]∉P)(d:Int)(x:FFact):(El d x&&Ii own S P x)=fctQ P S (own++lits3) d x:=by
 have hi:inB 0=true:=by decide
 unfold El Cl Ii fctQ fctB fctC
 have h1:decide (x.name=[])=true->decide (x.name∈P)=false:=fun e=>by
  rw[decide_eq_true_eq]at e;rw[decide_eq_false_iff_not,e];exact hP
 have h2:decide (x.cls∈own++lits3)=(decide (x.cls∈own)||(decide (x.cls=wAny)||(decide (x.cls=wInt)||decide (x.cls=Fk)))):=by
  rw[<-Bool.decide_or,<-Bool.decide_or,<-Bool.decide_or];refine decide_eq_decide.2 ?_;simp[lits3]
 rw[h2];have h3:decide ((x.path.length:Int)=0)=decide (x.path=[]):=decide_eq_decide.2 (by rw[<-List.length_eq_zero_iff];omega);have h4:decide ((x.path.length:Int)<=2)=decide (x.path.length<=2):=decide_eq_decide.2 (by omega);have h5:decide (arF x.op=(x.kids.length:Int))=decide ((x.kids.length:Int)=arF x.op):=decide_eq_decide.2 eq_comm;rw[h3,h4,h5,Bool.decide_and]
 have h6:decide (x.n=0)=true->inB x.n=true:=fun e=>by
  rw[decide_eq_true_eq]at e;rw[e];exact hi
 have h7:decide (x.op=2)=true->C1 x.op=true:=fun e=>by
  rw[decide_eq_true_eq]at e;rw[e];rfl
 clear h2 h3 h4 h5 hi hP;generalize decide (d<=12)=b0;generalize decide (1<=x.op)=b1;generalize decide (x.op<=7)=b2;generalize C1 x.op=b3 at h7⊢;generalize decide (x.op=3\/x.op=4)=b4;generalize decide ((x.kids.length:Int)=arF x.op)=b5;generalize decide (x.path=[])=b6;generalize decide (x.path.length<=2)=b7;generalize (x.path.all fun s=>decide (s∈S))=b8;generalize inB x.n=b9 at h6⊢;generalize decide (x.n=0)=z at h6⊢;generalize decide (x.op=2)=o2 at h7⊢;generalize decide (x.name=[])=n0 at h1⊢;generalize decide (x.name∈P)=nP at h1⊢;generalize decide (x.cls=[])=c0;generalize decide (x.cls∈own)=c1;generalize decide (x.cls=wAny)=c2;generalize decide (x.cls=wInt)=c3;generalize decide (x.cls=Fk)=c4;cases b3<;>cases n0<;>cases o2<;>cases c0<;>cases z<;>simp at h1 h6 h7⊢
 all_goals try subst h1
 all_goals try subst h6
 all_goals try subst h7
 all_goals try simp
 all_goals (cases b0<;>cases b1<;>cases b2<;>cases b4<;>cases b5<;>simp)
 all_goals (cases b6<;>cases b7<;>cases b8<;>simp)
 all_goals (try (cases b9<;>simp))
 all_goals (try (cases nP<;>simp))
 all_goals (simp only[Bool.or_assoc])
theorem PK{names slots P:List Str}(hP:[]∉P){e:FFact}{n:Int}(hn:0<=n)(hn2:n<=120)(m:Int):
  BW names slots P e n=some m ↔ (fctE P slots (names++lits3) e 1 (120-n)).1=true/\m=120-(fctE P slots (names++lits3) e 1 (120-n)).2:=by
 obtain⟨c1,c2⟩:=OR (P:=P) (S:=slots) (C:=names++lits3) e 1 (120-n) (by omega);have hp:=Ul e;have hq:fctQ P slots (names++lits3)=fun d x=>El d x&&Ii names slots P x:=funext fun d=>funext fun x=>(TX hP d x).symm;rw[hq,<-Nc]at c1;unfold BW;cases hl:En 120 e with
 |none=>
  simp only[reduceCtorEq,false_iff]
  rintro⟨h1,h2⟩
  rw[c1]at h1;have:=(FR El 120 e 1 0 (0+fCnt e) (by omega)).2 ⟨h1.1.1,rfl,by omega⟩;unfold En at hl;rw[this]at hl;cases hl
 | some k =>
  obtain⟨a1,a2,a3⟩:=(FR El 120 e 1 0 k (by omega)).1 hl;have hu:=HR (Ii names slots P) e 1;have hst:(fun (_:Int) (x:FFact) (s:Unit)=>H8 names slots P x s)=fun _ x (_:Unit)=>if Ii names slots P x=true then some () else none:=rfl
  simp only;rw[hst];constructor
  ·intro h;split at h
   ·rename_i hh;cases h;have h1:=c1.2 ⟨⟨a1,hu.1 hh.2⟩,by omega⟩;exact⟨h1,by rw[c2 h1];omega⟩
   ·cases h
  ·rintro⟨h1,h2⟩
   obtain⟨⟨b1,b2⟩,b3⟩:=c1.1 h1;rw[if_pos ⟨by omega,hu.2 b2⟩,h2,c2 h1]
   congr 1;omega
theorem Nr: ∀(l seen:List Str),sloE seen l=(l.all B7&&difE seen l)
 |[],_=>rfl
 |x::r,seen=>by rw[sloE,difE,List.all_cons,Nr r];cases B7 x<;>cases decide (x∈seen)<;>cases r.all B7<;>simp
theorem Re:B7 []=false:=rfl
theorem U7{names slots:List Str}{m:FMeth}{n:Int}(hn:0<=n)(hn2:n<=120)(k:Int):
  Ip names slots m n=some k ↔ (Io slots names m (120-n)).1=true/\k=120-(Io slots names m (120-n)).2:=by
 have hd:(F8 m&&sloE [] m.params)=Iq m:=by
  rw[Nr];unfold F8 Iq Hc;cases decide (1<=m.kind)<;>cases decide (m.kind<=4)<;>cases B7 m.name<;>cases decide (1<=m.params.length)<;>simp
 unfold Ip Io;rw[hd]
 by_cases h:Iq m=true
 ·rw[if_pos h,if_pos h]
  have hP:[]∉m.params:=fun hx=>by
   unfold Iq Hc at h;simp only[Bool.and_eq_true]at h;have:=List.all_eq_true.1 h.2.2.2.2.1 _ hx;rw[Re]at this;cases this
  have hF:=PK (names:=names) (slots:=slots) hP (e:=m.fact) hn hn2;have hle:=(NO (P:=m.params) (S:=slots) (C:=names++lits3) m.fact 1 (120-n));cases hk:BW names slots m.params m.fact n with
  | none =>
   have:¬(fctE m.params slots (names++lits3) m.fact 1 (120-n)).1=true:=fun h1=>by
    rw[(hF _).2 ⟨h1,rfl⟩]at hk;cases hk
   rw[if_neg (fun h=>this h.1)];simp
  | some j =>
   obtain⟨j1,j2⟩:=(hF j).1 hk;have hj0:=hle.2.2 j1;have hj1:=hle.1;simp only;rw[LZ (by omega)];generalize (fctE m.params slots (names++lits3) m.fact 1 (120-n)).2=q at*
   by_cases hc:(cntE m.body 1 120).1=true
   ·rw[if_pos ⟨j1,hc⟩];simp only[Bool.and_eq_true,decide_eq_true_eq];constructor
    ·rintro⟨_,a,b,c⟩;exact⟨⟨by omega,c⟩,by omega⟩
    ·rintro⟨⟨a,c⟩,b⟩;exact⟨hc,by omega,by omega,c⟩
   ·rw[if_neg (fun h=>hc h.2)];simp[hc]
 ·rw[if_neg h,if_neg h];simp
theorem LR{names slots:List Str}: ∀(l:List FMeth) (n:Int),0<=n->n<=120->(CY names slots l n).isSome=JC slots names l (120-n)
 |[],n,_,_=>rfl
 | m::r,n,hn,hn2=>by
  have h:=U7 (names:=names) (slots:=slots) (m:=m) hn hn2;rw[CY,JC];cases hk:Ip names slots m n with
  |none=>
   have:(Io slots names m (120-n)).1=false:=Bool.eq_false_iff.2 fun h1=>by rw[(h _).2 ⟨h1,rfl⟩]at hk;cases hk
   rw[this];rfl
  |some k=>
   obtain⟨h1,h2⟩:=(h k).1 hk;have hb:=OB slots names m (120-n) (by omega) h1;simp only;rw[h1,Bool.true_and,LR r k (by omega) (by omega),h2]
   congr 1;omega
def clsS:List Str->List Str->List FClass->Bool
 |_,_,[]=>true
 |names,slots,c::r=>decide (c.parents.length<=3/\c.slots.length<=4)&&(parE names [] c.parents&&(sloE slots c.slots&&((B7 c.name&&!decide (c.name∈names))&&clsS (names++[c.name]) (slots++c.slots) r)))
def iniL:List Str->List (List Str)->List FClass->Bool
 |_,_,[]=>true
 |names,hs,c::r=>iniE (Dy names hs c) [] c.inits&&iniL (names++[c.name]) (hs++[Dy names hs c]) r
theorem Kk: ∀(l:List FClass) (names slots:List Str) (hs:List (List Str)),clsE names slots hs l=(clsS names slots l&&iniL names hs l)
 |[],_,_,_=>rfl
 |c::r,names,slots,hs=>by
  rw[clsE,clsS,iniL,Kk r];cases decide (c.parents.length<=3/\c.slots.length<=4)<;>cases parE names [] c.parents<;>cases sloE slots c.slots<;>cases iniE (Dy names hs c) [] c.inits<;>simp;simp[Bool.and_assoc]
theorem Pg: ∀(a b seen:List Str),difE seen (a++b)=(difE seen a&&difE (seen++a) b)
 |[],b,seen=>by rw[List.nil_append,List.append_nil,difE,Bool.true_and]
 |x::r,b,seen=>by
  rw[List.cons_append,difE,difE,Pg r b,List.append_assoc,Bool.and_assoc];rfl
theorem Ou(names:List Str)(hn:∀s∈names,B7 s=true): ∀(ps seen:List Str),parE names seen ps=(ps.all (fun s=>decide (s∈names))&&difE seen ps)
 |[],_=>rfl
 |s::r,seen=>by
  rw[parE,difE,List.all_cons,Ou names hn r]
  by_cases h:s∈names
  ·rw[decide_eq_true h,hn s h];cases decide (s∈seen)<;>simp
  ·rw[decide_eq_false h];simp
theorem TB: ∀(l:List FClass) (names slots:List Str),(∀s∈names,B7 s=true)->(clsS names slots l=true ↔ Fv names l=true/\((l.map (·.name)).all B7=true/\difE names (l.map (·.name))=true)/\((l.flatMap (·.slots)).all B7=true/\difE slots (l.flatMap (·.slots))=true))
 |[],names,slots,h=>by simp[clsS,Fv,difE]
 | c::r,names,slots,h=>by
  have h1:decide (c.parents.length<=3/\c.slots.length<=4)=(!decide (3<c.parents.length)&&!decide (4<c.slots.length)):=by
   rw[Bool.decide_and,<-decide_not,<-decide_not]
   congr 1<;>exact decide_eq_decide.2 (by omega)
  rw[clsS,Fv,Ou names h,Nr,h1,List.map_cons,List.flatMap_cons,List.all_cons,List.all_append,Pg,difE]
  by_cases hc:B7 c.name=true
  ·have ih:=TB r (names++[c.name]) (slots++c.slots) (fun s hs=>by
    rcases List.mem_append.1 hs with hs|hs
    ·exact h s hs
    ·rw[List.mem_singleton.1 hs];exact hc)
   simp only[Bool.and_eq_true]at ih⊢;rw[ih]
   grind
  ·simp only[Bool.and_eq_true,hc]
   grind
def prs(f:FProg)(i:Nat):List Str:=((f.classes[i]?).map (·.parents)).getD []
def ixN(f:FProg)(s:Str):Nat:=(idxF (fun c:FClass=>decide (c.name=s)) f.classes 0).toNat
inductive Lies(f:FProg):Nat->Nat->Prop
 |refl (i:Nat):Lies f i i
 |step {i j:Nat}{s:Str}:s∈prs f i->Lies f (ixN f s) j->Lies f i j
def LiesP(f:FProg)(i j:Nat):Prop:= ∃s∈prs f i,Lies f (ixN f s) j
theorem KX{f:FProg}{i j:Nat}:Lies f i j ↔ j=i\/LiesP f i j:=by
 constructor
 ·intro h;cases h with
  |refl=>exact .inl rfl
  |step hs h=>exact .inr ⟨_,hs,h⟩
 ·rintro(rfl|⟨s,hs,h⟩)
  ·exact .refl _
  ·exact .step hs h
theorem Ma(bs:List Bool)(i j:Nat)(v:Bool):(bs.set i v).getD j false=if i=j/\i<bs.length then v else bs.getD j false:=by
 rw[List.getD_eq_getElem?_getD,List.getD_eq_getElem?_getD,List.getElem?_set]
 by_cases h:i=j
 ·subst h
  by_cases hl:i<bs.length
  ·simp[hl]
  ·simp[hl]
 ·simp[h]
theorem Ku(f:FProg): ∀(ps:List Str) (b:List Bool) (j:Nat),(∀s∈ps,ixN f s<b.length)->((Fw f ps b).getD j false=true ↔ b.getD j false=true \/ ∃s∈ps,ixN f s=j)
 |[],b,j,_=>by rw[Fw];simp
 |s::r,b,j,h=>by
  have h1:=h s (by simp);rw[Fw,Ku f r _ j (fun x hx=>by rw[List.length_set];exact h x (by simp[hx])),Ma];have:(idxF (fun c:FClass=>decide (c.name=s)) f.classes 0).toNat=ixN f s:=rfl;rw[this]
  by_cases hj:ixN f s=j
  ·rw[if_pos ⟨hj,h1⟩];simp[hj]
  ·rw[if_neg (fun h=>hj h.1)];simp[hj]
theorem Ln(f:FProg)(n:Nat)(hp:∀i, ∀s∈prs f i,ixN f s<i): ∀(i:Nat) (b:List Bool) (j:Nat),i<=b.length->((abvD f n i b).getD j false=true ↔ b.getD j false=true \/ ∃k,k<i/\(k=n\/b.getD k false=true)/\LiesP f k j)
 |0,b,j,_=>by rw[abvD];simp
 | i+1,b,j,hb=>by
  rw[abvD]
  by_cases hi:i≠n/\b.getD i false=false
  ·rw [if_pos hi,Ln f n hp i b j (by omega)];constructor
   ·rintro(h|⟨k,h1,h2,h3⟩)
    ·exact .inl h
    ·exact .inr ⟨k,by omega,h2,h3⟩
   ·rintro(h|⟨k,h1,h2,h3⟩)
    ·exact .inl h
    ·refine .inr ⟨k,?_,h2,h3⟩
     have:k≠i:=fun e=>by
      rw[e]at h2;rcases h2 with h2|h2
      ·exact hi.1 h2
      ·rw[hi.2]at h2;cases h2
     omega
  ·rw [if_neg hi]
   have hm:i=n\/b.getD i false=true:=by
    by_cases e:i=n
    ·exact .inl e
    ·right
     cases hh:b.getD i false with
     |true=>rfl
     |false=>exact absurd ⟨e,hh⟩ hi
   have hrow:=fun j=>Ku f (prs f i) b j (fun s hs=>by have:=hp i s hs;omega)
   have hlen:(Fw f (prs f i) b).length=b.length:=Ef f _ _;have he:Fw f (((f.classes[i]?).map (·.parents)).getD []) b=Fw f (prs f i) b:=rfl;rw[he,Ln f n hp i _ j (by omega),hrow];constructor
   ·rintro((h|⟨s,hs,h⟩)|⟨k,h1,h2,h3⟩)
    ·exact .inl h
    ·exact .inr ⟨i,by omega,hm,s,hs,by rw[h];exact .refl _⟩
    ·rw[hrow]at h2;rcases h2 with h2|h2|⟨s,hs,h⟩
     ·exact .inr ⟨k,by omega,.inl h2,h3⟩
     ·exact .inr ⟨k,by omega,.inr h2,h3⟩
     ·exact .inr ⟨i,by omega,hm,s,hs,KX.2 (.inr (by rw[h];exact h3))⟩
   ·rintro(h|⟨k,h1,h2,h3⟩)
    ·exact .inl (.inl h)
    ·by_cases e:k=i
     ·subst e;obtain⟨s,hs,h⟩:=h3;rcases KX.1 h with rfl|h
      ·exact .inl (.inr ⟨s,hs,rfl⟩)
      ·exact .inr ⟨ixN f s,hp k s hs,.inr ((hrow _).2 (.inr ⟨s,hs,rfl⟩)),h⟩
     ·refine .inr ⟨k,by omega,?_,h3⟩;rcases h2 with h2|h2
      ·exact .inl h2
      ·exact .inr ((hrow _).2 (.inl h2))
theorem V0(f:FProg)(n:Nat)(hn:n<f.classes.length)(hp:∀i, ∀s∈prs f i,ixN f s<i)(j:Nat):((abvF f n).set n true).getD j false=true ↔ Lies f n j:=by
 have hl:=O4 f n;rw[Ma,KX]
 by_cases e:n=j
 ·rw[if_pos ⟨e,by omega⟩];simp[e]
 ·rw[if_neg (fun h=>e h.1)];unfold abvF;rw[Ln f n hp _ _ _ (by rw[List.length_replicate];omega)]
  have hz:∀k,(List.replicate f.classes.length false).getD k false=false:=fun k=>by
   rw[List.getD_eq_getElem?_getD,List.getElem?_replicate];split<;>rfl
  constructor
  ·rintro(h|⟨k,h1,h2|h2,h3⟩)
   ·rw[hz]at h;cases h
   ·right;rw[<-h2];exact h3
   ·rw[hz]at h2;cases h2
  ·rintro(h|h)
   ·exact absurd h.symm e
   ·exact .inr ⟨n,by omega,.inl rfl,h⟩
theorem In{x:Str}: ∀(cs:List FClass) (bs:List Bool),x∈NG cs bs ↔ ∃j, ∃h:j<cs.length,bs.getD j false=true/\x∈cs[j].slots
 |[],bs=>by cases bs<;>simp[NG]
 |c::cs,[]=>by
  simp[NG]
 | c::cs,b::bs=>by
  rw[NG,List.mem_append,In cs bs];constructor
  ·rintro(h|⟨j,hj,h1,h2⟩)
   ·cases b with
    |false=>simp at h
    |true=>exact⟨0,by simp,rfl,by simpa using h⟩
   ·exact⟨j+1,by simp only[List.length_cons];omega,by simpa using h1,by simpa using h2⟩
  ·rintro⟨j,hj,h1,h2⟩
   cases j with
   |zero=>
    have h1:b=true:=h1
    left;rw[if_pos h1];exact h2
   |succ j=>exact .inr ⟨j,by simp only[List.length_cons]at hj;omega,by simpa using h1,by simpa using h2⟩
def HasS(f:FProg)(i:Nat)(x:Str):Prop:= ∃j,Lies f i j /\ ∃h:j<f.classes.length,x∈f.classes[j].slots
theorem OK(s:Str): ∀(a b:List Str) (k:Nat),s∈a->idxG s (a++b) k=idxG s a k
 |[],_,_,h=>by cases h
 | x::r,b,k,h=>by
  rw[List.cons_append,idxG,idxG]
  by_cases e:x=s
  ·rw[if_pos e,if_pos e]
  ·rw[if_neg e,if_neg e,OK s r b];exact(List.mem_cons.1 h).resolve_left (fun h=>e h.symm)
theorem M6(s:Str): ∀(l:List FClass) (k:Nat),idxG s (l.map (·.name)) k=idxF (fun c:FClass=>decide (c.name=s)) l k
 |[],_=>rfl
 |c::r,k=>by
  rw[List.map_cons,idxG,idxF,M6 s r]
  by_cases e:c.name=s<;>simp[e]
theorem M5{mine mine':List Str}(hm:∀x,x∈mine ↔ x∈mine')(hn:∀s∈mine',B7 s=true): ∀(l:List FInit) (seen:List Str),iniE mine seen l=iniR mine' seen l
 |[],_=>rfl
 |x::r,seen=>by
  rw[iniE,iniR,M5 hm hn r,decide_eq_decide.2 (hm x.slot)]
  by_cases h:x.slot∈mine'
  ·rw[decide_eq_true h,hn _ h];cases decide (x.slot∈seen)<;>cases inB x.n<;>simp
  ·rw[decide_eq_false h];simp
theorem Rx(f:FProg)(hs0:∀s∈f.classes.flatMap (·.slots),B7 s=true)(hp:∀i, ∀s∈prs f i,s∈(f.classes.take i).map (·.name)): ∀(l pre:List FClass) (hs:List (List Str)),f.classes=pre++l->hs.length=pre.length->
  (∀j<pre.length, ∀x,x∈(hs[j]?).getD [] ↔ HasS f j x)->iniL (pre.map (·.name)) hs l=inisR f pre.length l
 |[],_,_,_,_,_=>rfl
 | c::r,pre,hs,hf,hl,hh=>by
  have hil:pre.length<f.classes.length:=by rw[hf];simp
  have hci:f.classes[pre.length]=c:=by simp[hf]
  have hpr:prs f pre.length=c.parents:=by unfold prs;rw[List.getElem?_eq_getElem hil,hci];rfl
  have htk:f.classes.take pre.length=pre:=by rw[hf];simp
  have hix:∀i, ∀s∈prs f i,ixN f s<i/\idxG s ((f.classes.take i).map (·.name)) 0=ixN f s:=fun i s hs=>by
   have h1:=hp i s hs
   have h2:idxG s (f.classes.map (·.name)) 0=idxG s ((f.classes.take i).map (·.name)) 0:=by
    conv=>lhs;rw[<-List.take_append_drop i f.classes,List.map_append]
    exact OK s _ _ 0 h1
   have h3:=(NM s ((f.classes.take i).map (·.name)) 0 h1).2;rw[List.length_map,List.length_take]at h3;have h4:ixN f s=(idxG s ((f.classes.take i).map (·.name)) 0).toNat:=by rw[<-h2,M6];rfl
   rw[h4];omega
  have hmine:∀x,x∈Dy (pre.map (·.name)) hs c ↔ HasS f pre.length x:=fun x=>by
   unfold Dy;rw[List.mem_append,List.mem_flatMap];constructor
   ·rintro(⟨s,h1,h2⟩|h)
    ·rw[<-hpr]at h1;obtain⟨g1,g2⟩:=hix _ s h1;rw[htk]at g2;unfold M7 at h2;rw[g2,show((ixN f s:Nat):Int).toNat=ixN f s by omega]at h2;obtain⟨j,a1,a2⟩:=(hh _ g1 x).1 h2;exact⟨j,.step h1 a1,a2⟩
    ·exact⟨pre.length,.refl _,hil,by rw[hci];exact h⟩
   ·rintro⟨j,h1,h2⟩
    cases h1 with
    |refl=>
     obtain⟨h3,h4⟩:=h2
     right;rw[hci]at h4;exact h4
    |step hs1 h1=>
     rename_i s;obtain⟨g1,g2⟩:=hix _ s hs1;rw[htk]at g2;refine .inl ⟨s,by rw[<-hpr];exact hs1,?_⟩;unfold M7;rw[g2,show((ixN f s:Nat):Int).toNat=ixN f s by omega];exact(hh _ g1 x).2 ⟨j,h1,h2⟩
  have hR:∀x,x∈NG f.classes ((abvF f pre.length).set pre.length true) ↔ HasS f pre.length x:=fun x=>by
   rw[In];refine exists_congr fun j=>?_;rw[V0 f _ hil (fun i s hs=>(hix i s hs).1) j];exact⟨fun ⟨a,b,c⟩=>⟨b,a,c⟩,fun ⟨b,a,c⟩=>⟨a,b,c⟩⟩
  rw[iniL,inisR,M5 (fun x=>(hmine x).trans (hR x).symm) (fun s hs=>by
   obtain⟨j,_,h1,h2⟩:=(hR s).1 hs
   exact hs0 s (List.mem_flatMap.2 ⟨_,List.getElem_mem h1,h2⟩))]
  congr 1
  have ih:=Rx f hs0 hp r (pre++[c]) (hs++[Dy (pre.map (·.name)) hs c]) (by rw[hf];simp) (by simp[hl]) (fun j hj x=>by
   by_cases h1:j<hs.length
   ·rw[List.getElem?_append_left h1];exact hh j (by omega) x
   ·have:j=pre.length:=by simp only[List.length_append,List.length_cons,List.length_nil]at hj;omega
    subst this
    rw[List.getElem?_append_right (by omega),hl,Nat.sub_self]
    exact hmine x)
  rw[List.map_append]at ih;simp only[List.map_cons,List.map_nil,List.length_append,List.length_cons,List.length_nil,Nat.zero_add]at ih;exact ih
theorem J0: ∀(l:List FClass) (own:List Str),Fv own l=true->∀i, ∀s∈((l[i]?).map (·.parents)).getD [],s∈own++(l.take i).map (·.name)
 |[],_,_,i,s,h=>by simp at h
 | c::r,own,h,i,s,hs=>by
  rw[Fv]at h;simp only[Bool.and_eq_true]at h;cases i with
  |zero=>
   have hs:s∈c.parents:=by simpa using hs
   have:=List.all_eq_true.1 h.2.1 s hs;simpa using this
  |succ i=>
   have:=J0 r (own++[c.name]) h.2.2 i s (by simpa using hs);simpa[List.append_assoc] using this
theorem clsB_eq(f:FProg):clsB f=(Kj f&&inisR f 0 f.classes):=by
 have h10:decide (f.classes.length<=10) = !decide (10<f.classes.length):=by rw[<-decide_not];exact decide_eq_decide.2 (by omega)
 unfold clsB Kj;rw[Kk,h10,Bool.and_assoc]
 congr 1
 rw[Bool.eq_iff_iff];have hS:=TB f.classes [] [] (fun s hs=>by cases hs);unfold Hc;simp only[Bool.and_eq_true];rw[hS]
 have key:Fv [] f.classes=true->(f.classes.flatMap (·.slots)).all B7=true->iniL [] [] f.classes=inisR f 0 f.classes:=fun h1 h2=>
  Rx f (fun s hs=>List.all_eq_true.1 h2 s hs) (fun i s hs=>by have:=J0 _ _ h1 i s hs;simpa using this) f.classes [] [] rfl rfl (fun j hj=>by simp at hj)
 constructor
 ·rintro⟨⟨a,b,c⟩,d⟩
  exact⟨⟨a,b,c⟩,by rw[<-key a c.1];exact d⟩
 ·rintro⟨⟨a,b,c⟩,d⟩
  exact⟨⟨a,b,c⟩,by rw[key a c.1];exact d⟩
theorem prog_eq(f:FProg):R6 f=(B9 f).isSome:=by
 unfold R6 B9 headR;rw[clsB_eq]
 by_cases h1:Kj f=true
 ·by_cases h2:inisR f 0 f.classes=true
  ·by_cases h3:f.methods.length<=16
   ·have hcl:f.classes.length<=10:=by
     unfold Kj at h1;simp only[Bool.and_eq_true,Bool.not_eq_true',decide_eq_false_iff_not]at h1;omega
    rw[h1,h2,decide_eq_true h3];simp only[Bool.true_and,Bool.and_true,if_true];have hk:=LZ (names:=f.classes.map (·.name)) (slots:=f.classes.flatMap (·.slots)) (args:=[]) (lits:=false) (e:=f.main) (n:=(f.classes.length:Int)) (by omega);cases hm:Bn (f.classes.map (·.name)) (f.classes.flatMap (·.slots)) [] false f.main f.classes.length with
    |none=>
     simp only[Option.isSome_none];rw[Bool.eq_false_iff];intro hh;simp only[Bool.and_eq_true,decide_eq_true_eq]at hh;obtain⟨a,⟨b,c⟩,_⟩:=hh;unfold budR at b;have:=(hk (f.classes.length+(allE f.main).length)).2 ⟨a,rfl,by omega,c⟩;rw[this]at hm;cases hm
    | some n =>
     obtain⟨a,b,c,d⟩:=(hk n).1 hm;have hb:budR f=120-n:=by unfold budR;omega
     have ho:ownR f=f.classes.map (·.name):=rfl;have hsl:slotsR f=f.classes.flatMap (·.slots):=rfl;have hms:=LR (names:=f.classes.map (·.name)) (slots:=f.classes.flatMap (·.slots)) f.methods n (by omega) c;rw[hb,ho,hsl,<-hms,d,a,decide_eq_true (show 0<=120-n by omega)];simp only[Bool.true_and];cases hmm:CY (f.classes.map (·.name)) (f.classes.flatMap (·.slots)) f.methods n with
     |none=>rfl
     |some k=>
      simp only[Option.isSome_some,Bool.true_and];cases hg:((Dh f).2&&decide ((Dh f).1.length<=8))<;>simp
   ·rw[decide_eq_false h3];simp
  ·simp[h2]
 ·simp[h1]
end Go.DL
namespace Go.DL
open Go Go.Proofs
set_option maxHeartbeats 8000000
def clsN(names:List Str)(s:Str):Int:=if 0<=idxG s lits3 0 then idxG s lits3 0 else idxG s names 0+3
def BdS(ib:Nat)(a b c d e f:D)(names slots gens:List Str)(V:Sig):Prop:=V ib=some (.cells [a,b,c,d,e,f,sl (cS names),sl (cS slots),sl (cS gens)])
structure FcS(i7 i1 i2:Nat)(op A C n:Int)(l:List Int)(ks:List Fact)(V S1:Sig):Prop where
 o7:S1 i7=some (.cells [dI op,dI A,.slice (cI l) (.tag i1),dI C,dI n,.slice (ks.map Ba) (.tag i2)])
 o1:S1 i1=some (.tail 1 l.length)
 o2:S1 i2=some (.tail 6 ks.length)
 hS:Sub V S1
theorem FcS.path{i7 i1 i2:Nat}{op A C n:Int}{l:List Int}{ks:List Fact}{V S1:Sig}(h:FcS i7 i1 i2 op A C n l ks V S1)(v:Int)(h12:i1≠i2)(h7:V i7=none)(h1:V i1=none):
  FcS i7 i1 i2 op A C n (l++[v]) ks V ((S1.set i1 (.tail 1 (l.length+1))).set i7 (.cells [dI op,dI A,.slice (cI l++[[dI v]]) (.tag i1),dI C,dI n,.slice (ks.map Ba) (.tag i2)])):=by
 have n1:i1≠i7:=A9 h.o1 h.o7 (by simp);have n2:i2≠i7:=A9 h.o2 h.o7 (by simp);refine⟨by rw[w7];simp[cI],by rw[w8 _ _ n1,w7,List.length_append];rfl,by rw[w8 _ _ n2,w8 _ _ (Ne.symm h12)];exact h.o2,fun j o hj=>?_⟩;rw[w8 _ _ (A1 hj h7),w8 _ _ (A1 hj h1)];exact h.hS j o hj
section
variable {ib:Nat}{a b c d e f:D}{names slots gens:List Str}
theorem BdS.fresh{V:Sig}{k:Nat}{o:DObj}(h:BdS ib a b c d e f names slots gens V)(hk:V k=none):BdS ib a b c d e f names slots gens (V.set k o):=by
 unfold BdS at*;rw[w8 _ _ (A1 h hk)];exact h
theorem BdS.sub{V S':Sig}(h:BdS ib a b c d e f names slots gens V)(hs:Sub V S'):BdS ib a b c d e f names slots gens S':=hs _ _ h
end
section
variable {names slots gens:List Str}
end
structure NdS(ib:Nat)(a b c d f:D)(names slots gens:List Str)(st:MR)(ns:List BNode)(V:Sig):Prop where
 env:V ib=some (.cells [a,b,c,d,mD st ns.length,f,sl (cS names),sl (cS slots),sl (cS gens)])
 row:RowAt V 3 st (ns.map Af)
 nr:¬Bq st ib
section
variable {ib:Nat}{a b c d f:D}{names slots gens:List Str}{st:MR}{ns:List BNode}{V:Sig}
theorem NdS.set(h:NdS ib a b c d f names slots gens st ns V){k:Nat}{o:DObj}(h1:ib≠k)(h5:¬Bq st k):NdS ib a b c d f names slots gens st ns (V.set k o):=
 ⟨by rw[w8 _ _ h1];exact h.env,h.row.keep fun j x hj hr=>by rw[w8 _ _ fun e=>h5 (by rw[<-e];exact hr)];exact hj,h.nr⟩
theorem NdS.notrow(h:NdS ib a b c d f names slots gens st ns V){k:Nat}(hk:V k=none): ¬Bq st k:=fun hr=>by
 obtain⟨cs,hc⟩:=h.row.cells hr;rw[hk]at hc;cases hc
theorem NdS.fresh(h:NdS ib a b c d f names slots gens st ns V){k:Nat}{o:DObj}(hk:V k=none):NdS ib a b c d f names slots gens st ns (V.set k o):=
 h.set (A1 h.env hk) (h.notrow hk)
theorem NdS.tail(h:NdS ib a b c d f names slots gens st ns V){k s n:Nat}{o:DObj}(hk:V k=some (.tail s n)): ¬Bq st k/\k≠ib/\NdS ib a b c d f names slots gens st ns (V.set k o):=
 have hr:¬Bq st k:=fun hr=>by obtain⟨cs,hc⟩:=h.row.cells hr;rw[hk]at hc;cases hc
 ⟨hr,A9 hk h.env (by simp),h.set (A9 h.env hk (by simp)) hr⟩
theorem NdS.zero(h:NdS ib a b c d f names slots gens st ns V):st=none->ns.length=0:=fun e=>by
 subst e;have:ns.map Af=[]:=h.row;simpa using this
end
structure F1S(ib ic im i2:Nat)(m:Int)(gs:List Int)(own slots gens:List Str)(cl:List BClass)(V S1:Sig):Prop where
 env:S1 ib=some (.cells [.slice (cl.map cBClass) (.tag ic),dI m,sl (cI gs),.slice [] (.tag im),.nils,dI 0,sl (cS own),sl (cS slots),sl (cS gens)])
 oc:S1 ic=some (.tail 3 cl.length)
 om:S1 im=some (.tail 9 0)
 o2:S1 i2=some (.cells [.nils,dI 0,.nils,.nils,.nils,dI 0])
 hS:Sub V S1
structure C1S(i8 i9 j1 j2 j3:Nat)(c:FClass)(ps ss:List Int)(is:List Init)(V S1:Sig):Prop where
 o8:S1 i8=some (.cells (cFClass c))
 o9:S1 i9=some (.cells [.slice (cI ps) (.tag j1),.slice (cI ss) (.tag j2),.slice (is.map CP) (.tag j3)])
 o1:S1 j1=some (.tail 1 ps.length)
 o2:S1 j2=some (.tail 1 ss.length)
 o3:S1 j3=some (.tail 2 is.length)
 hS:Sub V S1
section
variable {i8 i9 j1 j2 j3:Nat}{c:FClass}{ps ss:List Int}{is:List Init}{V S1:Sig}
theorem C1S.par(h:C1S i8 i9 j1 j2 j3 c ps ss is V S1)(v:Int)(h12:j1≠j2)(h13:j1≠j3)(h89:i8≠i9)(h9:V i9=none)(h1:V j1=none):
  C1S i8 i9 j1 j2 j3 c (ps++[v]) ss is V ((S1.set j1 (.tail 1 (ps.length+1))).set i9 (.cells [.slice (cI ps++[[dI v]]) (.tag j1),.slice (cI ss) (.tag j2),.slice (is.map CP) (.tag j3)])):=by
 have n1:j1≠i9:=A9 h.o1 h.o9 (by simp);have n2:j2≠i9:=A9 h.o2 h.o9 (by simp);have n3:j3≠i9:=A9 h.o3 h.o9 (by simp);have n4:i8≠j1:=A9 h.o8 h.o1 (by simp);refine⟨by rw[w8 _ _ h89,w8 _ _ n4];exact h.o8,by rw[w7];simp[cI],by rw[w8 _ _ n1,w7,List.length_append];rfl,by rw[w8 _ _ n2,w8 _ _ (Ne.symm h12)];exact h.o2,by rw[w8 _ _ n3,w8 _ _ (Ne.symm h13)];exact h.o3,fun j o hj=>?_⟩;rw[w8 _ _ (A1 hj h9),w8 _ _ (A1 hj h1)];exact h.hS j o hj
theorem C1S.slo(h:C1S i8 i9 j1 j2 j3 c ps ss is V S1)(v:Int)(h12:j1≠j2)(h23:j2≠j3)(h89:i8≠i9)(h9:V i9=none)(h1:V j2=none):
  C1S i8 i9 j1 j2 j3 c ps (ss++[v]) is V ((S1.set j2 (.tail 1 (ss.length+1))).set i9 (.cells [.slice (cI ps) (.tag j1),.slice (cI ss++[[dI v]]) (.tag j2),.slice (is.map CP) (.tag j3)])):=by
 have n1:j1≠i9:=A9 h.o1 h.o9 (by simp);have n2:j2≠i9:=A9 h.o2 h.o9 (by simp);have n3:j3≠i9:=A9 h.o3 h.o9 (by simp);have n4:i8≠j2:=A9 h.o8 h.o2 (by simp);refine⟨by rw[w8 _ _ h89,w8 _ _ n4];exact h.o8,by rw[w7];simp[cI],by rw[w8 _ _ n1,w8 _ _ h12];exact h.o1,by rw[w8 _ _ n2,w7,List.length_append];rfl,by rw[w8 _ _ n3,w8 _ _ (Ne.symm h23)];exact h.o3,fun j o hj=>?_⟩;rw[w8 _ _ (A1 hj h9),w8 _ _ (A1 hj h1)];exact h.hS j o hj
theorem C1S.ini(h:C1S i8 i9 j1 j2 j3 c ps ss is V S1)(v:Init)(h13:j1≠j3)(h23:j2≠j3)(h89:i8≠i9)(h9:V i9=none)(h1:V j3=none):
  C1S i8 i9 j1 j2 j3 c ps ss (is++[v]) V ((S1.set j3 (.tail 2 (is.length+1))).set i9 (.cells [.slice (cI ps) (.tag j1),.slice (cI ss) (.tag j2),.slice (is.map CP++[CP v]) (.tag j3)])):=by
 have n1:j1≠i9:=A9 h.o1 h.o9 (by simp);have n2:j2≠i9:=A9 h.o2 h.o9 (by simp);have n3:j3≠i9:=A9 h.o3 h.o9 (by simp);have n4:i8≠j3:=A9 h.o8 h.o3 (by simp);refine⟨by rw[w8 _ _ h89,w8 _ _ n4];exact h.o8,by rw[w7];simp,by rw[w8 _ _ n1,w8 _ _ h13];exact h.o1,by rw[w8 _ _ n2,w8 _ _ h23];exact h.o2,by rw[w8 _ _ n3,w7,List.length_append];rfl,fun j o hj=>?_⟩;rw[w8 _ _ (A1 hj h9),w8 _ _ (A1 hj h1)];exact h.hS j o hj
end
theorem F1S.cls{ib ic im i2:Nat}{m:Int}{gs:List Int}{own slots gens:List Str}{cl:List BClass}{V S6 S11:Sig}(h:F1S ib ic im i2 m gs own slots gens cl V S6)(hS:Sub S6 S11)(hb:V ib=none)(hc:V ic=none)(x:BClass):
  F1S ib ic im i2 m gs own slots gens (cl++[x]) V ((S11.set ic (.tail 3 (cl.length+1))).set ib (.cells [.slice (cl.map cBClass++[cBClass x]) (.tag ic),dI m,sl (cI gs),.slice [] (.tag im),.nils,dI 0,sl (cS own),sl (cS slots),sl (cS gens)])):=by
 have n1:ic≠ib:=A9 h.oc h.env (by simp);have n2:im≠ib:=A9 h.om h.env (by simp);have n3:i2≠ib:=A9 h.o2 h.env (by simp);have n4:im≠ic:=A9 h.om h.oc (by simp);have n5:i2≠ic:=A9 h.o2 h.oc (by simp);refine⟨by rw[w7];simp,by rw[w8 _ _ n1,w7,List.length_append];rfl,by rw[w8 _ _ n2,w8 _ _ n4];exact hS _ _ h.om,by rw[w8 _ _ n3,w8 _ _ n5];exact hS _ _ h.o2,fun j o hj=>?_⟩;rw[w8 _ _ (A1 hj hb),w8 _ _ (A1 hj hc)];exact hS _ _ (h.hS j o hj)
theorem Kg: ∀(l seen:List Str),difE seen l=true ↔ l.Nodup /\ ∀x∈l,x∉seen
 |[],seen=>by simp[difE]
 |x::r,seen=>by
  rw[difE,Bool.and_eq_true,Kg r,List.nodup_cons];simp only[Bool.not_eq_true',decide_eq_false_iff_not,List.mem_append,List.mem_cons,List.not_mem_nil,or_false]
  grind
theorem JA(l:List Str):Hc l=true ↔ (∀s∈l,B7 s=true)/\l.Nodup:=by
 unfold Hc;rw[Bool.and_eq_true,List.all_eq_true,Kg];simp
theorem OJ(x:Str): ∀(pre t:List Str) (k:Nat),x∉pre->idxG x (pre++x::t) k=(k:Int)+pre.length
 |[],t,k,_=>by rw[List.nil_append,idxG,if_pos rfl];simp
 |y::r,t,k,h=>by
  rw[List.mem_cons,not_or]at h;rw[List.cons_append,idxG,if_neg (fun e=>h.1 e.symm),OJ x r t (k+1) h.2,List.length_cons];omega
theorem JK(s:Str)(j:Nat): ∀(l:List Str) (k:Nat),s∈l->idxG s l (k+j)=idxG s l k+j
 |[],_,h=>by cases h
 |x::r,k,h=>by
  rw[idxG,idxG]
  by_cases e:x=s
  ·rw[if_pos e,if_pos e];omega
  ·rw[if_neg e,if_neg e,show k+j+1=k+1+j by omega,JK s j r (k+1) ((List.mem_cons.1 h).resolve_left fun h=>e h.symm)]
theorem OM(s:Str): ∀(l:List Str) (k:Nat) (m:List (Str×Int)),l.Nodup->s∈l->getM 0 s (numM l k m)=idxG s l k
 |[],_,_,_,h=>by cases h
 | x::r,k,m,hn,h=>by
  rw[List.nodup_cons]at hn;rw[numM,idxG]
  by_cases e:x=s
  ·subst e;rw[if_pos rfl,(KO r _ _ x).2 hn.1,Cn,if_pos rfl]
  ·rw[if_neg e];exact OM s r (k+1) _ hn.2 ((List.mem_cons.1 h).resolve_left fun h=>e h.symm)
theorem UU(f:FProg)(hn:(ownR f).Nodup)(s:Str)(hs:s∈ownR f++lits3):getM 0 s (Bi f)=clsN (ownR f) s:=by
 unfold Bi clsN;rw[Cn,Cn,Cn];have e1:idxG s lits3 0=if wAny=s then 0 else if wInt=s then 1 else if Fk=s then 2 else -1:=rfl
 rw[e1]
 by_cases h1:s=Fk
 ·subst h1;rw[if_pos rfl];rfl
 ·by_cases h2:s=wInt
  ·subst h2;rw[if_neg (by decide),if_pos rfl];rfl
  ·by_cases h3:s=wAny
   ·subst h3;rw[if_neg (by decide),if_neg (by decide),if_pos rfl];rfl
   ·rw[if_neg h1,if_neg h2,if_neg h3,if_neg (fun e:wAny=s=>h3 e.symm),if_neg (fun e:wInt=s=>h2 e.symm),if_neg (fun e:Fk=s=>h1 e.symm),if_neg (by omega)]
    have hm:s∈ownR f:=by
     rcases List.mem_append.1 hs with h|h
     ·exact h
     ·simp[lits3,h1,h2,h3]at h
    have:=OM s (ownR f) 3 [] hn hm;have h4:=JK s 3 (ownR f) 0 hm;rw[Nat.zero_add]at h4;rw[show f.classes.map (·.name)=ownR f from rfl,show(3:Int)=((3:Nat):Int) from rfl,this,h4]
structure FOK(f:FProg):Prop where
 own:(ownR f).Nodup
 ownB:∀s∈ownR f,B7 s=true
 slo:(slotsR f).Nodup
 sloB:∀s∈slotsR f,B7 s=true
 par:∀c∈f.classes, ∀s∈c.parents,s∈ownR f
 ini:∀c∈f.classes, ∀x∈c.inits,x.slot∈slotsR f
 mainC:(cntE f.main 1 120).1=true
 mainS:LF [] (slotsR f) (ownR f) false f.main=true
 met:∀m∈f.methods,Iq m=true/\(∃b,0<=b/\(fctE m.params (slotsR f) (ownR f++lits3) m.fact 1 b).1=true)/\(cntE m.body 1 120).1=true /\ ∃t,LF m.params (slotsR f) (ownR f) t m.body=true
 gen:(Dh f).2=true
theorem OI{mine:List Str}: ∀{l:List FInit}{seen:List Str},iniR mine seen l=true->∀x∈l,x.slot∈mine
 |[],_,_,x,hx=>by cases hx
 |y::r,seen,h,x,hx=>by
  rw[iniR]at h;simp only[Bool.and_eq_true,decide_eq_true_eq]at h;rcases List.mem_cons.1 hx with rfl|hx
  ·exact h.1.1
  ·exact OI h.2 x hx
theorem M4{f:FProg}: ∀{l:List FClass}{i:Nat},inisR f i l=true->∀c∈l, ∀x∈c.inits,x.slot∈slotsR f
 |[],_,_,c,hc=>by cases hc
 | y::r,i,h,c,hc=>by
  rw[inisR,Bool.and_eq_true]at h;rcases List.mem_cons.1 hc with rfl|hc
  ·intro x hx;obtain⟨j,hj,_,h2⟩:=(In _ _).1 (OI h.1 x hx);exact List.mem_flatMap.2 ⟨_,List.getElem_mem hj,h2⟩
  ·exact M4 h.2 c hc
theorem JB{S O:List Str}: ∀{l:List FMeth}{b:Int},0<=b->JC S O l b=true->∀m∈l,Iq m=true/\(∃b,0<=b/\(fctE m.params S (O++lits3) m.fact 1 b).1=true)/\(cntE m.body 1 120).1=true /\ ∃t,LF m.params S O t m.body=true
 |[],_,_,_,m,hm=>by cases hm
 | y::r,b,hb,h,m,hm=>by
  rw[JC,Bool.and_eq_true]at h;rcases List.mem_cons.1 hm with rfl|hm
  ·have h1:=h.1;unfold Io at h1;split at h1
   ·rename_i q1;split at h1
    ·rename_i q2;simp only[Bool.and_eq_true]at h1;exact⟨q1,⟨b,hb,q2.1⟩,q2.2,_,h1.2⟩
    ·cases h1
   ·cases h1
  ·exact JB (OB S O y b hb h.1).1 h.2 m hm
theorem fok_of{f:FProg}(h:R6 f=true):FOK f:=by
 unfold R6 headR Kj at h;simp only[Bool.and_eq_true,decide_eq_true_eq]at h;obtain⟨⟨h1,⟨h2,h3,h4,h5⟩,h6,h7⟩,⟨h8,h9⟩,h10,h11,h12⟩:=h;obtain⟨a1,a2⟩:=(JA _).1 h4;obtain⟨b1,b2⟩:=(JA _).1 h5;refine⟨a2,a1,b2,b1,fun c hc s hs=>?_,M4 h6,h7,h9,JB h8 h10,h11⟩;have:=(J1 _ _ h3 c hc).2 s hs;rw[List.nil_append]at this;exact this
def Told(G:List (Str×Int))(s:Str)(n:Int):Prop:=hasM s G=true/\getM 0 s G=n
theorem KC{G H:List (Str×Int)}{s:Str}{n:Int}(h:Told G s n):Told (G++H) s n:=by
 obtain⟨h1,h2⟩:=h
 induction G with
 |nil=>cases h1
 |cons a r ih=>
  obtain⟨x,v⟩:=a;rw[hasM]at h1;rw[getM]at h2;unfold Told;rw[List.cons_append,hasM,getM]
  by_cases e:s=x
  ·simp[e]at h2⊢; exact h2
  ·simp[e]at h1 h2⊢; exact ih h1 h2
theorem Of(s:Str)(n:Int): ∀G:List (Str×Int),hasM s G=false->Told (G++[(s,n)]) s n
 |[],_=>by unfold Told;rw[List.nil_append,hasM,getM];simp
 |(x,v)::r,h=>by
  rw[hasM]at h;obtain⟨i1,i2⟩:=Of s n r (by simp at h;exact h.2);unfold Told;rw[List.cons_append,hasM,getM]
  by_cases e:s=x
  ·simp[e]at h
  ·simp[e,i1,i2]
theorem LD(s:Str)(n:Int)(g:GenT):(∃H,(seeG s n g).1=g.1++H)/\(∀x∈(seeG s n g).1.map (·.1),x∈g.1.map (·.1)\/x=s)/\((seeG s n g).2=true->g.2=true/\Told (seeG s n g).1 s n):=by
 unfold seeG
 by_cases h:hasM s g.1=true
 ·rw[if_pos h];refine⟨⟨[],by simp⟩,fun x hx=>.inl hx,fun hh=>?_⟩;simp only[Bool.and_eq_true,decide_eq_true_eq]at hh;exact⟨hh.1,h,hh.2⟩
 ·rw[if_neg h];exact⟨⟨_,rfl⟩,fun x hx=>by simpa using hx,fun hh=>⟨hh,Of s n _ (by simpa using h)⟩⟩
def V1(G:List (Str×Int))(x:FExp):Prop:=x.op=5->Told G x.text x.kids.length
theorem QO{G:List (Str×Int)}(H:List (Str×Int))(e:FExp)(h:AllX (V1 G) e):AllX (V1 (G++H)) e:=EZ (fun x hx h5=>KC (hx h5)) e h
def callsL(l:List FExp):List Str:=(l.filter fun x=>decide (x.op=5)).map (·.text)
mutual
theorem RB: ∀(e:FExp) (g:GenT),(∃H,(genE e g).1=g.1++H)/\(∀x∈(genE e g).1.map (·.1),x∈g.1.map (·.1)\/x∈callsL (allE e))/\((genE e g).2=true->g.2=true/\AllX (V1 (genE e g).1) e)
 | .mk o n t k,g=>by
  rw[genE,allE,AllX]
  by_cases h5:o=5
  ·rw[if_pos h5];obtain⟨⟨H1,a1⟩,a2,a3⟩:=LD t k.length g;obtain⟨⟨H2,b1⟩,b2,b3⟩:=Fb k (seeG t k.length g);have hc:callsL (FExp.mk o n t k::Bw k)=t::callsL (Bw k):=by unfold callsL;rw[List.filter_cons,if_pos (show decide ((FExp.mk o n t k).op=5)=true from decide_eq_true h5)];rfl
   refine⟨⟨H1++H2,by rw[b1,a1,List.append_assoc]⟩,fun x hx=>?_,fun hh=>?_⟩
   ·rw[hc];rcases b2 x hx with h|h
    ·rcases a2 x h with h|h
     ·exact .inl h
     ·exact .inr (by simp[h])
    ·exact .inr (by simp[h])
   ·obtain⟨c1,c2⟩:=b3 hh;obtain⟨d1,d2⟩:=a3 c1;exact⟨d1,fun _=>by rw[b1];exact KC d2,c2⟩
  ·rw[if_neg h5];obtain⟨b1,b2,b3⟩:=Fb k g;have hc:callsL (FExp.mk o n t k::Bw k)=callsL (Bw k):=by unfold callsL;rw[List.filter_cons,if_neg (show ¬decide ((FExp.mk o n t k).op=5)=true from fun h=>h5 (of_decide_eq_true h))]
   rw[hc];exact⟨b1,b2,fun hh=>⟨(b3 hh).1,fun h=>absurd h h5,(b3 hh).2⟩⟩
theorem Fb: ∀(l:List FExp) (g:GenT),(∃H,(CI l g).1=g.1++H)/\(∀x∈(CI l g).1.map (·.1),x∈g.1.map (·.1)\/x∈callsL (Bw l))/\((CI l g).2=true->g.2=true/\Eh (V1 (CI l g).1) l)
 |[],g=>by rw[CI,Bw,Eh];exact⟨⟨[],by simp⟩,fun x hx=>.inl hx,fun h=>⟨h,trivial⟩⟩
 | y::r,g=>by
  obtain⟨⟨H1,a1⟩,a2,a3⟩:=RB y g;obtain⟨⟨H2,b1⟩,b2,b3⟩:=Fb r (genE y g);have hc:callsL (allE y++Bw r)=callsL (allE y)++callsL (Bw r):=by unfold callsL;rw[List.filter_append,List.map_append]
  rw[CI,Bw,Eh,hc];refine⟨⟨H1++H2,by rw[b1,a1,List.append_assoc]⟩,fun x hx=>?_,fun hh=>?_⟩
  ·rcases b2 x hx with h|h
   ·rcases a2 x h with h|h
    ·exact .inl h
    ·exact .inr (List.mem_append_left _ h)
   ·exact .inr (List.mem_append_right _ h)
  ·obtain⟨c1,c2⟩:=b3 hh;obtain⟨d1,d2⟩:=a3 c1;exact⟨d1,by rw[b1];exact QO H2 y d2,c2⟩
end
theorem LS: ∀(l:List FMeth) (g:GenT),(∃H,(metG l g).1=g.1++H)/\(∀x∈(metG l g).1.map (·.1),x∈g.1.map (·.1)\/x∈l.map (·.name))/\((metG l g).2=true->g.2=true /\ ∀m∈l,Told (metG l g).1 m.name m.params.length)
 |[],g=>⟨⟨[],by simp[metG]⟩,fun x hx=>.inl hx,fun h=>⟨h,fun m hm=>by cases hm⟩⟩
 | y::r,g=>by
  obtain⟨⟨H1,a1⟩,a2,a3⟩:=LD y.name y.params.length g;obtain⟨⟨H2,b1⟩,b2,b3⟩:=LS r (seeG y.name y.params.length g);rw[metG];refine⟨⟨H1++H2,by rw[b1,a1,List.append_assoc]⟩,fun x hx=>?_,fun hh=>?_⟩
  ·rcases b2 x hx with h|h
   ·rcases a2 x h with h|h
    ·exact .inl h
    ·exact .inr (by simp[h])
   ·exact .inr (by rw[List.map_cons];exact List.mem_cons_of_mem _ h)
  ·obtain⟨c1,c2⟩:=b3 hh;obtain⟨d1,d2⟩:=a3 c1;refine⟨d1,fun m hm=>?_⟩;rcases List.mem_cons.1 hm with rfl|hm
   ·rw[b1];exact KC d2
   ·exact c2 m hm
section
variable {G gm:List (Str×Int)}(hg:∀s,hasM s G=true->getM 0 s gm=idxG s (G.map (·.1)) 0)
include hg
end
theorem Gy: ∀(l:List FMeth) (e:FExp) (s:Str),s∈callsL (Bw (l.map (·.body)++[e]))->(∃m∈l,s∈callsL (allE m.body))\/s∈callsL (allE e)
 |[],e,s,h=>by
  rw[List.map_nil,List.nil_append,Bw,Bw,List.append_nil]at h;exact .inr h
 | m::r,e,s,h=>by
  rw[List.map_cons,List.cons_append,Bw]at h;have hc:callsL (allE m.body++Bw (r.map (·.body)++[e]))=callsL (allE m.body)++callsL (Bw (r.map (·.body)++[e])):=by unfold callsL;rw[List.filter_append,List.map_append]
  rw[hc]at h;rcases List.mem_append.1 h with h|h
  ·exact .inl ⟨m,by simp,h⟩
  ·rcases Gy r e s h with⟨m',h1,h2⟩|h
   ·exact .inl ⟨m',by simp[h1],h2⟩
   ·exact .inr h
end Go.DL
