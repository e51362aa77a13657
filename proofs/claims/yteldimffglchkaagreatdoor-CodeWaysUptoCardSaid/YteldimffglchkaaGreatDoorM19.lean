/- A part of the proof. -/
import Derived.Test.YteldimffglchkaaGreatDoorM18
import Derived.Lib.Atoi
import Derived.Lib.ItoaNum
set_option linter.all false
namespace Go.DL
open Go Go.Proofs
def sumB:List UInt8->UInt8->UInt8
 |[],n=>n
 |c::r,n=>sumB r (3*n+c+1)
def Ln(s:List UInt8):Bool:=match s.getLast? with
 |none=>false
 |some x=>decide (sumB s.dropLast 0=x)
theorem sum_app(l:List UInt8):Ln (l++[sumB l 0])=true:=by
 unfold Ln
 rw[List.getLast?_concat,List.dropLast_concat]
 simp
def hiB:Nat->Nat->List UInt8
 |0,_=>[]
 |k+1,n=>if n=0 then [] else hiB k (n / 128)++[UInt8.ofNat (128+n % 128)]
def digB(n:Nat):List UInt8:=hiB 10 (n / 128)++[UInt8.ofNat (n % 128)]
def Hz(n:Int):Nat:=if n<0 then(-2*n-1).toNat else(2*n).toNat
def hasA(op:Int):Bool:=decide (op=1\/op=3\/op=4\/op=5\/op=6\/op=8\/op=17\/op=18\/op=19)
def insB(x:CIns):List UInt8:=UInt8.ofNat x.op.toNat::(if hasA x.op then digB (Hz x.a) else [])
def listB{α}(f:α->List UInt8):List α->List UInt8
 |[]=>[]
 |x::r=>f x++listB f r
def rawB(c:CProg):List UInt8:=199::(digB c.starts.length++(listB (fun n:Int=>digB n.toNat) c.starts++(digB c.main.toNat++(digB c.ins.length++listB insB c.ins))))
def CA(c:CProg):List UInt8:=rawB c++[sumB (rawB c) 0]
def farN(n:Int):Bool:=decide (0<=n/\n<=1000000000)
def Cz(x:CIns):Bool:=decide (1<=x.op/\x.op<=21)&&(if hasA x.op then(if x.op=1 then inB x.a else farN x.a) else decide (x.a=0))
def AP(c:CProg):Bool:=decide (c.ins.length<=300)&&(decide (c.starts.length<=16)&&(farN c.main&&(c.starts.all farN&&c.ins.all Cz)))
def grpB:Nat->Bool->Nat->List UInt8->Option (Nat×List UInt8)
 |0,_,_,_=>none
 |_+1,_,_,[]=>none
 |k+1,z,n,c::r=>if z&&c==128 then none else if c<128 then some (n*128+c.toNat % 128,r) else grpB k false (n*128+c.toNat % 128) r
theorem Du{n:Nat}(h:n<256):(UInt8.ofNat n).toNat=n:=by
 rw[UInt8.toNat_ofNat'];omega
theorem Vz: ∀(k n:Nat) (j:Nat) (m:Nat) (z:Bool) (r:List UInt8),n<128 ^ k->k<=j->grpB (j+1) z m (hiB k n++r)=if n=0 then grpB (j+1) z m r else grpB (j+1-(hiB k n).length) false (m*128 ^ (hiB k n).length+n) r
 |0,n,j,m,z,r,h,_=>by
  have:n=0:=by simpa using h
  rw[if_pos this,hiB];rfl
 | k+1,n,j,m,z,r,h,hj=>by
  rw[hiB]
  by_cases h0:n=0
  ·rw[if_pos h0,if_pos h0];rfl
  ·rw [if_neg h0,if_neg h0]
   have hd:n / 128<128 ^ k:=by rw[Nat.pow_succ]at h;exact Nat.div_lt_of_lt_mul (by omega)
   rw[List.append_assoc,Vz k (n / 128) j m z _ hd (by omega)]
   have ht:(UInt8.ofNat (128+n % 128)).toNat=128+n % 128:=Du (by omega)
   have aA:¬(UInt8.ofNat (128+n % 128))<128:=fun e=>by
    have:=UInt8.lt_iff_toNat_lt.1 e
    rw[ht]at this
    have:(128:UInt8).toNat=128:=rfl
    omega
   by_cases h1:n / 128=0
   ·rw[if_pos h1]
    have hk:hiB k (n / 128)=[]:=by rw[h1];cases k<;>rfl
    rw[hk]
    have hne:(UInt8.ofNat (128+n % 128)==128)=false:=by
     rw[beq_eq_false_iff_ne]
     intro e
     have:=congrArg UInt8.toNat e
     rw[ht]at this
     have:(128:UInt8).toNat=128:=rfl
     omega
    simp only[List.cons_append,List.nil_append,List.length_cons,List.length_nil,grpB]
    rw[hne,Bool.and_false,if_neg (by simp),if_neg aA,ht]
    rw[show j+1-(0+1)=j by omega,show(128+n % 128) % 128=n by omega]
   ·rw[if_neg h1]
    have hlen:(hiB k (n / 128)).length<=k:=by
     have:∀k n,(hiB k n).length<=k:=fun k=>by
      induction k with
      |zero=>intro n;rw[hiB];simp
      |succ k ih=>intro n;rw[hiB];split;simp;rw[List.length_append];have:=ih (n / 128);simp;omega
     exact this _ _
    obtain⟨i,hi⟩:∃i,j+1-(hiB k (n / 128)).length=i+1:=⟨j-(hiB k (n / 128)).length,by omega⟩
    rw[hi]
    simp only[List.cons_append,List.nil_append,grpB,Bool.false_and]
    rw[if_neg (by simp),if_neg aA,ht,List.length_append,List.length_singleton]
    rw[show j+1-((hiB k (n / 128)).length+1)=i by omega,Nat.pow_succ]
    congr 1
    rw[Nat.add_mul,Nat.mul_assoc]
    omega
theorem Rm{n:Nat}(h:n<128 ^ 5)(r:List UInt8):grpB 6 true 0 (digB n++r)=some (n,r):=by
 have e:hiB 10 (n / 128)=hiB 4 (n / 128):=by
  have:∀k n,n<128 ^ k->∀j,k<=j->hiB j n=hiB k n:=fun k=>by
   induction k with
   |zero=>
    intro n hn j _
    have h0:n=0:=by simpa using hn
    subst h0
    cases j<;>rfl
   |succ k ih=>
    intro n hn j hj
    obtain⟨i,rfl⟩:∃i,j=i+1:=⟨j-1,by omega⟩
    rw[hiB,hiB]
    split
    ·rfl
    ·rw[ih (n / 128) (Nat.div_lt_of_lt_mul (by rw[Nat.pow_succ]at hn;omega)) i (by omega)]
  exact this 4 _ (Nat.div_lt_of_lt_mul (by omega)) 10 (by omega)
 have ht:(UInt8.ofNat (n % 128)).toNat=n % 128:=Du (by omega)
 have aj:(UInt8.ofNat (n % 128))<128:=UInt8.lt_iff_toNat_lt.2 (by rw[ht];have:(128:UInt8).toNat=128:=rfl;omega)
 have hne:(UInt8.ofNat (n % 128)==128)=false:=by
  rw[beq_eq_false_iff_ne]
  intro e
  have:=congrArg UInt8.toNat e
  rw[ht]at this
  have:(128:UInt8).toNat=128:=rfl
  omega
 unfold digB
 rw[e,List.append_assoc,Vz 4 (n / 128) 5 0 true _ (Nat.div_lt_of_lt_mul (by omega)) (by omega)]
 by_cases h0:n / 128=0
 ·rw[if_pos h0]
  simp only[List.cons_append,List.nil_append,grpB]
  rw[hne,Bool.and_false,if_neg (by simp),if_pos aj,ht]
  congr 2
  omega
 ·rw[if_neg h0]
  have hlen:(hiB 4 (n / 128)).length<=4:=by
   have:∀k n,(hiB k n).length<=k:=fun k=>by
    induction k with
    |zero=>intro n;rw[hiB];simp
    |succ k ih=>intro n;rw[hiB];split;simp;rw[List.length_append];have:=ih (n / 128);simp;omega
   exact this _ _
  obtain⟨i,hi⟩:∃i,5+1-(hiB 4 (n / 128)).length=i+1:=⟨5-(hiB 4 (n / 128)).length,by omega⟩
  rw[hi]
  simp only[List.cons_append,List.nil_append,grpB,Bool.false_and]
  rw[if_neg (by simp),if_pos aj,ht]
  congr 2
  omega
def grpI(s:List UInt8):Option (Int×List UInt8):=match grpB 6 true 0 s with
 |none=>none
 |some (n,r)=>some ((n:Int),r)
def DI(n:Int):Int:=if n % 2=1 then -((n+1) / 2) else n / 2
def Ef(s:List UInt8):Option (CIns×List UInt8):=match s with
 |[]=>none
 | c::r=>if hasA c.toNat then (match grpI r with
   |none=>none
   |some (n,t)=>some (⟨c.toNat,DI n⟩,t)) else some (⟨c.toNat,0⟩,r)
def BX{α}(f:List UInt8->Option (α×List UInt8)):Nat->List UInt8->Option (List α×List UInt8)
 |0,s=>some ([],s)
 | k+1,s=>match f s with
  |none=>none
  |some (x,r)=>match BX f k r with
   |none=>none
   |some (l,t)=>some (x::l,t)
def KF (b:List UInt8):Option CProg:=match grpI b with
 |none=>none
 | some (n,b1)=>match BX grpI n.toNat b1 with
  |none=>none
  | some (starts,b2)=>match grpI b2 with
   |none=>none
   | some (main,b3)=>match grpI b3 with
    |none=>none
    |some (k,b4)=>match BX Ef k.toNat b4 with
     |none=>none
     |some (ins,b5)=>if b5=[]/\AP ⟨ins,starts,main⟩=true then some ⟨ins,starts,main⟩ else none
def Ez(s:List UInt8):Option CProg:=if s.length<=1\/Ln s=false then none else match s.dropLast with
 |[]=>none
 |c::b=>if c=199 then KF b else none
theorem MZ(a:Int):DI (Hz a)=a:=by
 unfold DI Hz
 by_cases h:a<0
 ·rw[if_pos h,if_pos (by omega)];omega
 ·rw[if_neg h,if_neg (by omega)];omega
theorem Np(n:Nat):Hz (DI n)=n:=by
 unfold DI Hz
 by_cases h:(n:Int) % 2=1
 ·rw[if_pos h,if_pos (by omega)];omega
 ·rw[if_neg h,if_neg (by omega)];omega
theorem HW{α}{f:List UInt8->Option (α×List UInt8)}{g:α->List UInt8}: ∀(l:List α) (r:List UInt8),(∀x∈l, ∀r,f (g x++r)=some (x,r))->BX f l.length (listB g l++r)=some (l,r)
 |[],r,_=>rfl
 |x::t,r,h=>by
  rw[List.length_cons,BX,listB,List.append_assoc,h x List.mem_cons_self]
  simp only
  rw[HW t r fun y hy=>h y (List.mem_cons_of_mem _ hy)]
theorem HX{α}{f:List UInt8->Option (α×List UInt8)}{g:α->List UInt8}(h:∀s x r,f s=some (x,r)->s=g x++r): ∀(k:Nat) (s:List UInt8) (l:List α) (r:List UInt8),BX f k s=some (l,r)->l.length=k/\s=listB g l++r
 |0,s,l,r,e=>by rw[BX]at e;cases e;exact⟨rfl,rfl⟩
 | k+1,s,l,r,e=>by
  rw[BX]at e
  split at e
  ·cases e
  ·rename_i x r1 e1
   split at e
   ·cases e
   ·rename_i l1 t e2
    cases e
    obtain⟨a,b⟩:=HX h k r1 l1 r e2
    exact⟨by rw[List.length_cons,a],by rw[listB,List.append_assoc,<-b];exact h _ _ _ e1⟩
theorem HE{n:Int}(h:farN n=true)(r:List UInt8):grpI (digB n.toNat++r)=some (n,r):=by
 unfold farN at h
 simp only[decide_eq_true_eq]at h
 unfold grpI
 rw[Rm (by omega)]
 simp only
 rw[show((n.toNat:Nat):Int)=n by omega]
theorem Qu{x:CIns}(h:Cz x=true)(r:List UInt8):Ef (insB x++r)=some (x,r):=by
 unfold Cz at h
 rw[Bool.and_eq_true]at h
 obtain⟨h1,h2⟩:=h
 simp only[decide_eq_true_eq]at h1
 have ht:(UInt8.ofNat x.op.toNat).toNat=x.op.toNat:=Du (by omega)
 have ho:((x.op.toNat:Nat):Int)=x.op:=by omega
 unfold insB Ef
 simp only[List.cons_append]
 rw[ht,ho]
 cases e:hasA x.op with
 | true =>
  rw[e,if_pos rfl]at h2
  simp only[if_true]
  have hb:Hz x.a<128 ^ 5:=by
   have : -1000000000<=x.a/\x.a<=1000000000:=by
    split at h2
    ·unfold inB at h2
     simpa[Bool.and_eq_true,decide_eq_true_eq] using h2
    ·unfold farN at h2
     simp only[decide_eq_true_eq]at h2
     omega
   unfold Hz
   split<;>omega
  unfold grpI
  rw[Rm hb]
  simp only
  rw[MZ]
 |false=>
  rw[e,if_neg (by simp)]at h2
  simp only[decide_eq_true_eq]at h2
  simp only[Bool.false_eq_true,if_false,List.nil_append]
  rw[<-h2]
theorem P7{c:CProg}(h:AP c=true):Ez (CA c)=some c:=by
 have hp:=h
 unfold AP at h
 simp only[Bool.and_eq_true,decide_eq_true_eq,List.all_eq_true]at h
 obtain⟨h1,h2,h3,h4,h5⟩:=h
 unfold Ez CA
 rw[sum_app,List.dropLast_concat]
 have hl:¬((rawB c++[sumB (rawB c) 0]).length<=1\/true=false):=by
  unfold rawB;simp
 rw[if_neg hl]
 unfold rawB
 simp only[if_true]
 unfold KF
 have n1:farN (c.starts.length:Int)=true:=by unfold farN;simp only[decide_eq_true_eq];omega
 have n2:farN (c.ins.length:Int)=true:=by unfold farN;simp only[decide_eq_true_eq];omega
 have g1:=HE n1
 have g2:=HE n2
 simp only[Int.toNat_natCast]at g1 g2
 rw[g1]
 simp only[Int.toNat_natCast]
 rw[HW c.starts _ fun n hn r=>HE (h4 n hn) r]
 simp only
 rw[HE h3]
 simp only
 rw[g2]
 simp only[Int.toNat_natCast]
 have:=HW (f:=Ef) (g:=insB) c.ins [] fun x hx r=>Qu (h5 x hx) r
 rw[List.append_nil]at this
 rw[this]
 simp only
 rw[if_pos ⟨trivial,hp⟩]
theorem Rl: ∀k n,(hiB k n).length<=k
 |0,n=>by rw[hiB];simp
 | k+1,n=>by
  rw[hiB]
  split
  ·simp
  ·have:=Rl k (n / 128)
   rw[List.length_append,List.length_singleton];omega
theorem KV: ∀k n,n<128 ^ k->∀j,k<=j->hiB j n=hiB k n
 |0,n,hn,j,_=>by
  have h0:n=0:=by simpa using hn
  subst h0
  cases j<;>rfl
 |k+1,n,hn,j,hj=>by
  obtain⟨i,rfl⟩:∃i,j=i+1:=⟨j-1,by omega⟩
  rw[hiB,hiB]
  split
  ·rfl
  ·rw[KV k (n / 128) (Nat.div_lt_of_lt_mul (by rw[Nat.pow_succ]at hn;omega)) i (by omega)]
theorem Rk{n d:Nat}(hd:d<128)(h1:1<=n*128+d)(hn:n<128 ^ 9):hiB 10 (n*128+d)=hiB 10 n++[UInt8.ofNat (128+d)]:=by
 rw[KV 9 n hn 10 (by omega)]
 rw[show(10:Nat)=9+1 from rfl,hiB,if_neg (by omega),show(n*128+d) / 128=n by omega,show(n*128+d) % 128=d by omega]
theorem Hd{c:UInt8}:UInt8.ofNat c.toNat=c:=UInt8.ofNat_toNat
theorem Oh: ∀(k n:Nat) (s:List UInt8) (m:Nat) (r:List UInt8) (j:Nat),grpB k false n s=some (m,r)->1<=n->n<128 ^ j->k+j<=9->hiB 10 n++s=digB m++r
 |0,n,s,m,r,j,h,_,_,_=>by rw[grpB]at h;cases h
 |k+1,n,[],m,r,j,h,_,_,_=>by rw[grpB]at h;cases h
 | k+1,n,c::t,m,r,j,h,h1,hn,hj=>by
  rw[grpB,Bool.false_and,if_neg (by simp)]at h
  have hc:=UInt8.toNat_lt c
  have h9:n<128 ^ 9:=Nat.lt_of_lt_of_le hn (Nat.pow_le_pow_right (by omega) (by omega))
  split at h
  ·rename_i aj
   have am:=UInt8.lt_iff_toNat_lt.1 aj
   have e128:(128:UInt8).toNat=128:=rfl
   cases h
   unfold digB
   rw[show(n*128+c.toNat % 128) / 128=n by omega,show(n*128+c.toNat % 128) % 128=c.toNat by omega,Hd,List.append_assoc]
   rfl
  ·rename_i aq
   have e128:(128:UInt8).toNat=128:=rfl
   have ap:128<=c.toNat:=by
    have:=mt UInt8.lt_iff_toNat_lt.2 aq
    omega
   have:=Oh k (n*128+c.toNat % 128) t m r (j+1) h (by omega) (by rw[Nat.pow_succ];omega) (by omega)
   rw[Rk (by omega) (by omega) h9,show 128+c.toNat % 128=c.toNat by omega,Hd,List.append_assoc]at this
   exact this
theorem Rn{s:List UInt8}{m:Nat}{r:List UInt8}(h:grpB 6 true 0 s=some (m,r)):s=digB m++r:=by
 cases s with
 |nil=>rw[grpB]at h;cases h
 | cons c t =>
  rw[grpB]at h
  have hc:=UInt8.toNat_lt c
  have e128:(128:UInt8).toNat=128:=rfl
  split at h
  ·cases h
  ·rename_i hz
   have hne:c≠128:=fun e=>hz (by rw[e];rfl)
   split at h
   ·rename_i aj
    have am:=UInt8.lt_iff_toNat_lt.1 aj
    cases h
    unfold digB
    rw[show(0*128+c.toNat % 128) / 128=0 by omega,show(0*128+c.toNat % 128) % 128=c.toNat by omega,Hd]
    rfl
   ·rename_i aq
    have ap:128<=c.toNat:=by
     have:=mt UInt8.lt_iff_toNat_lt.2 aq
     omega
    have aC:c.toNat≠128:=fun e=>hne (UInt8.toNat_inj.1 (by rw[e,e128]))
    have:=Oh 5 (0*128+c.toNat % 128) t m r 1 h (by omega) (by omega) (by omega)
    rw[Rk (by omega) (by omega) (by omega),show 128+c.toNat % 128=c.toNat by omega,Hd]at this
    exact this
theorem EZ(s:List UInt8)(x:Int)(r:List UInt8)(h:grpI s=some (x,r)):s=digB x.toNat++r:=by
 unfold grpI at h
 split at h
 ·cases h
 ·rename_i n t e
  cases h
  rw[Int.toNat_natCast]
  exact Rn e
theorem Pb(s:List UInt8)(x:CIns)(r:List UInt8)(h:Ef s=some (x,r)):s=insB x++r:=by
 unfold Ef at h
 split at h
 ·cases h
 ·rename_i c t
  split at h
  ·rename_i hh
   split at h
   ·cases h
   ·rename_i n u e
    cases h
    unfold insB
    simp only[hh,if_true,Int.toNat_natCast,Hd]
    have hb:=EZ _ _ _ e
    have hn:0<=n:=by
     unfold grpI at e
     split at e
     ·cases e
     ·cases e;omega
    have:Hz (DI n)=n.toNat:=by
     have:=Np n.toNat
     rwa [show((n.toNat:Nat):Int)=n by omega]at this
    rw[this,List.cons_append,<-hb]
  ·rename_i hh
   cases h
   unfold insB
   simp only[Int.toNat_natCast,Hd]
   rw[if_neg hh]
   rfl
theorem PQ {s:List UInt8} {c:CProg} (h:Ez s=some c):AP c=true/\CA c=s:=by
 unfold Ez at h
 split at h
 ·cases h
 ·rename_i h0
  have ae:Ln s=true:=by cases e:Ln s with
   |true=>rfl
   |false=>exact absurd (.inr e) h0
  split at h
  ·cases h
  ·rename_i c0 b hd
   split at h
   ·rename_i ax
    unfold KF at h
    split at h
    ·cases h
    ·rename_i n b1 e1
     split at h
     ·cases h
     ·rename_i starts b2 e2
      split at h
      ·cases h
      ·rename_i main b3 e3
       split at h
       ·cases h
       ·rename_i k b4 e4
        split at h
        ·cases h
        ·rename_i ins b5 e5
         split at h
         ·rename_i hp
          cases h
          refine⟨hp.2,?_⟩
          obtain⟨l1,s1⟩:=HX (g:=fun n:Int=>digB n.toNat) EZ _ _ _ _ e2
          obtain⟨l2,s2⟩:=HX (g:=insB) Pb _ _ _ _ e5
          have r1:=EZ _ _ _ e1
          have r3:=EZ _ _ _ e3
          have r4:=EZ _ _ _ e4
          have ak:rawB ⟨ins,starts,main⟩=s.dropLast:=by
           rw[hd,ax,r1,s1,r3,r4,s2,hp.1]
           unfold rawB
           simp only[List.append_nil,l1,l2]
          have hs:s.dropLast++[sumB s.dropLast 0]=s:=by
           unfold Ln at ae
           split at ae
           ·cases ae
           ·rename_i x hx
            simp only[decide_eq_true_eq]at ae
            rw[ae]
            obtain⟨ys,rfl⟩:=List.getLast?_eq_some_iff.1 hx
            rw[List.dropLast_concat]
          unfold CA
          rw[ak,hs]
         ·cases h
   ·cases h
theorem IS{d:Nat}(h:d<10):Lib.digitVal (UInt8.ofNat (48+d))=some d:=by
 unfold Lib.digitVal
 rw[Du (by omega),if_pos (by omega)]
 congr 1;omega
theorem IT: ∀(a b:List UInt8) (acc m:Nat),Lib.decFrom acc a=some m->Lib.decFrom acc (a++b)=Lib.decFrom m b
 |[],b,acc,m,h=>by rw[Lib.decFrom]at h;cases h;rfl
 |c::r,b,acc,m,h=>by
  rw[Lib.decFrom]at h
  rw[List.cons_append,Lib.decFrom]
  split at h
  ·exact IT r b _ m h
  ·cases h
theorem FA: ∀(u acc:Nat), ∃k,Lib.decFrom acc (Lib.decDigits u)=some (acc*10 ^ k+u)
 | u,acc=>by
  rw[Lib.decDigits]
  split
  ·rename_i h
   refine⟨1,?_⟩
   rw[Lib.decFrom,IS h]
   simp only[Lib.decFrom,Nat.pow_one]
  ·rename_i h
   obtain⟨k,hk⟩:=FA (u / 10) acc
   refine⟨k+1,?_⟩
   rw[IT _ _ _ _ hk,Lib.decFrom,IS (by omega)]
   simp only[Lib.decFrom]
   congr 1
   rw[Nat.pow_succ,Nat.add_mul,Nat.mul_assoc]
   omega
 termination_by u=>u
 decreasing_by omega
theorem D9: ∀(u:Nat) (c:UInt8),c∈Lib.decDigits u->48<=c.toNat/\c.toNat<=57
 | u,c,h=>by
  rw[Lib.decDigits]at h
  split at h
  ·rw[List.mem_singleton]at h
   rw[h,Du (by omega)];omega
  ·rcases List.mem_append.1 h with h|h
   ·exact D9 (u / 10) c h
   ·rw[List.mem_singleton]at h
    rw[h,Du (by omega)];omega
 termination_by u=>u
 decreasing_by omega
theorem F9(u:Nat):Lib.decDigits u≠[]:=by
 rw[Lib.decDigits]
 split
 ·simp
 ·simp
theorem L7(u:Nat):Lib.decNat (Lib.decDigits u)=some u:=by
 unfold Lib.decNat
 rw[if_neg (by simpa using F9 u)]
 obtain⟨k,hk⟩:=FA u 0
 rw[hk];congr 1;omega
theorem Uo{n:Int}{c:UInt8}(h:c∈Lib.itoa n):c.toNat=45\/48<=c.toNat/\c.toNat<=57:=by
 unfold Lib.itoa at h
 split at h
 ·rcases List.mem_cons.1 h with rfl|h
  ·exact .inl rfl
  ·exact .inr (D9 _ _ h)
 ·exact .inr (D9 _ _ h)
def wordsC:List Str:=[[105,110,116],[110,111,110,101],[110,97,109,101],[110,101,119],[115,108,111,116],[116,117,114,110],[111,117,116],[115,101,116],[97,100,100],[115,117,98],[109,117,108],[108,101,115,115],[115,97,109,101],[108,101,116],[100,114,111,112],[112,111,112],[122,101,114,111],[106,117,109,112],[99,97,108,108],[110,101,120,116],[101,110,100]]
def Jd(op:Int):Str:=(wordsC[(op-1).toNat]?).getD []
def Do(x:CIns):Str:=Jd x.op++(if hasA x.op then 32::Lib.itoa x.a else [])
def KP(c:CProg):Str:=listB (fun n=>Lib.itoa n++[32]) c.starts++58::32::Lib.itoa c.main
def EC(c:CProg):Str:=listB (fun l=>l++[10]) (KP c::c.ins.map Do)
def splitB(b:UInt8):Str->List Str
 |[]=>[[]]
 |c::r=>if c=b then []::splitB b r else match splitB b r with
  |[]=>[[c]]
  |p::ps=>(c::p)::ps
theorem Lr(b:UInt8): ∀s,splitB b s≠[]
 |[]=>by rw[splitB];simp
 |c::r=>by rw[splitB];split;simp;split<;>simp
theorem I5(b:UInt8): ∀(a r:Str),b∉a->splitB b (a++b::r)=a::splitB b r
 |[],r,_=>by rw[List.nil_append,splitB,if_pos rfl]
 |c::t,r,h=>by
  rw[List.mem_cons,not_or]at h
  rw[List.cons_append,splitB,if_neg (fun e=>h.1 e.symm),I5 b t r h.2]
theorem I3(b:UInt8): ∀(a:Str),b∉a->splitB b a=[a]
 |[],_=>rfl
 |c::t,h=>by
  rw[List.mem_cons,not_or]at h
  rw[splitB,if_neg (fun e=>h.1 e.symm),I3 b t h.2]
theorem GU(b:UInt8): ∀(l:List Str),l≠[]->(∀x∈l,b∉x)->splitB b (listB (fun x=>x++[b]) l).dropLast=l
 |[],h,_=>absurd rfl h
 |[x],_,h=>by
  rw[listB,listB,List.append_nil,List.dropLast_concat]
  exact I3 b x (h x List.mem_cons_self)
 |x::y::r,_,h=>by
  have ih:=GU b (y::r) (by simp) fun z hz=>h z (List.mem_cons_of_mem _ hz)
  have hne:listB (fun x=>x++[b]) (y::r)≠[]:=by rw[listB];simp
  rw[listB,List.dropLast_append_of_ne_nil hne,List.append_assoc,List.singleton_append,I5 b x _ (h x List.mem_cons_self),ih]
theorem H0(b:UInt8): ∀s,listB (fun x=>x++[b]) (splitB b s)=s++[b]
 |[]=>by rw[splitB,listB,listB];rfl
 | c::r=>by
  have ih:=H0 b r
  rw[splitB]
  split
  ·rename_i h
   rw[listB,ih,h];rfl
  ·have hne:=Lr b r
   generalize splitB b r=l at ih hne
   cases l with
   |nil=>exact absurd rfl hne
   |cons p ps=>
    simp only
    rw[listB]at ih⊢
    rw[List.cons_append,List.cons_append,ih];rfl
def cut1:Str->Option (Str×Str)
 |[]=>none
 |c::r=>if c=32 then some ([],r) else match cut1 r with
  |none=>none
  |some (a,t)=>some (c::a,t)
def cut2:Str->Option (Str×Str)
 |[]=>none
 |c::r=>if c=58/\r.head? = some 32 then some ([],r.tail) else match cut2 r with
  |none=>none
  |some (a,t)=>some (c::a,t)
theorem Lb: ∀(a r:Str),(32:UInt8)∉a->cut1 (a++32::r)=some (a,r)
 |[],r,_=>by rw[List.nil_append,cut1,if_pos rfl]
 |c::t,r,h=>by
  rw[List.mem_cons,not_or]at h
  rw[List.cons_append,cut1,if_neg (fun e=>h.1 e.symm),Lb t r h.2]
theorem IW: ∀(a:Str),(32:UInt8)∉a->cut1 a=none
 |[],_=>rfl
 |c::t,h=>by
  rw[List.mem_cons,not_or]at h
  rw[cut1,if_neg (fun e=>h.1 e.symm),IW t h.2]
theorem IX: ∀(s a r:Str),cut1 s=some (a,r)->s=a++32::r
 |[],a,r,h=>by rw[cut1]at h;cases h
 | c::t,a,r,h=>by
  rw[cut1]at h
  split at h
  ·rename_i e;cases h;rw[e];rfl
  ·split at h
   ·cases h
   ·rename_i a' t' e
    cases h
    rw[List.cons_append,<-IX t a' r e]
theorem OE: ∀(a r:Str),(58:UInt8)∉a->cut2 (a++58::32::r)=some (a,r)
 |[],r,_=>by rw[List.nil_append,cut2,if_pos ⟨rfl,rfl⟩];rfl
 |c::t,r,h=>by
  rw[List.mem_cons,not_or]at h
  rw[List.cons_append,cut2,if_neg (fun e=>h.1 e.1.symm),OE t r h.2]
theorem IV: ∀(s a r:Str),cut2 s=some (a,r)->s=a++58::32::r
 |[],a,r,h=>by rw[cut2]at h;cases h
 | c::t,a,r,h=>by
  rw[cut2]at h
  split at h
  ·rename_i e
   cases h
   obtain⟨e1,e2⟩:=e
   cases t with
   |nil=>cases e2
   |cons d u=>cases e2;rw[e1];rfl
  ·split at h
   ·cases h
   ·rename_i a' t' e
    cases h
    rw[List.cons_append,<-IV t a' r e]
def mapO{α β}(f:α->Option β):List α->Option (List β)
 |[]=>some []
 | x::r=>match f x with
  |none=>none
  |some y=>match mapO f r with
   |none=>none
   |some l=>some (y::l)
def opW(w:Str):Option Int:=if 0<=idxG w wordsC 0 then some (idxG w wordsC 0+1) else none
def EJ(intS:Str->Option Int)(l:Str):Option CIns:=match cut1 l with
 |none=>(match opW l with
  |none=>none
  |some op=>if hasA op then none else some ⟨op,0⟩)
 | some (w,a)=>match opW w with
  |none=>none
  |some op=>if hasA op then(match intS a with
   |none=>none
   |some n=>some ⟨op,n⟩) else none
def EI(intS:Str->Option Int)(a:Str):Option (List Int):=if a=[] then some [] else if a.getLast? = some 32 then mapO intS (splitB 32 a.dropLast) else none
def G5 (intS:Str->Option Int) (s:Str):Option CProg:=if s.getLast? ≠ some 10 then none else match splitB 10 s.dropLast with
 |[]=>none
 | l0::ls=>match cut2 l0 with
  |none=>none
  | some (a,m)=>match intS m with
   |none=>none
   | some main=>match EI intS a with
    |none=>none
    |some starts=>match mapO (EJ intS) ls with
     |none=>none
     |some ins=>if AP ⟨ins,starts,main⟩=true then some ⟨ins,starts,main⟩ else none
structure IntOK(intS:Str->Option Int):Prop where
 read:∀n:Int, -1000000000<=n->n<=1000000000->intS (Lib.itoa n)=some n
 back:∀s n,intS s=some n->Lib.itoa n=s
theorem KN{α β}{f:α->Option β}{g:β->α}: ∀(l:List β),(∀x∈l,f (g x)=some x)->mapO f (l.map g)=some l
 |[],_=>rfl
 |x::r,h=>by
  rw[List.map_cons,mapO,h x List.mem_cons_self]
  simp only
  rw[KN r fun y hy=>h y (List.mem_cons_of_mem _ hy)]
theorem Is{α β}{f:α->Option β}{g:β->α}(h:∀x y,f x=some y->g y=x): ∀(l:List α) (m:List β),mapO f l=some m->m.map g=l
 |[],m,e=>by rw[mapO]at e;cases e;rfl
 | x::r,m,e=>by
  rw[mapO]at e
  split at e
  ·cases e
  ·rename_i y e1
   split at e
   ·cases e
   ·rename_i l e2
    cases e
    rw[List.map_cons,h x y e1,Is h r l e2]
theorem Gj{n:Int}{c:UInt8}(h:c.toNat=10\/c.toNat=32\/c.toNat=58):c∉Lib.itoa n:=fun hm=>by
 have:=Uo hm
 omega
theorem TN: ∀k:Nat,k<21->(10:UInt8)∉(wordsC[k]?).getD []/\(32:UInt8)∉(wordsC[k]?).getD []/\idxG ((wordsC[k]?).getD []) wordsC 0=k:=by decide
theorem PX{op:Int}(h:1<=op/\op<=21):(10:UInt8)∉Jd op/\(32:UInt8)∉Jd op/\opW (Jd op)=some op:=by
 obtain⟨a,b,c⟩:=TN (op-1).toNat (by omega)
 refine⟨a,b,?_⟩
 unfold opW Jd
 rw[c,if_pos (by omega)]
 congr 1;omega
theorem Nl{α}[DecidableEq α]{s:α}: ∀(l:List α) (k:Nat),0<=idxG s l k->k<=idxG s l k/\idxG s l k<k+l.length
 |[],_,h=>by rw[idxG]at h;omega
 | x::r,k,h=>by
  rw[idxG]at h⊢
  rw[List.length_cons]
  split
  ·omega
  ·rename_i e
   rw[if_neg e]at h
   have:=Nl r (k+1) h
   omega
theorem O0{w:Str}{op:Int}(h:opW w=some op):Jd op=w:=by
 unfold opW at h
 split at h
 ·rename_i h0
  cases h
  have:=Nl (s:=w) wordsC 0 (by omega)
  have hg:∀(l:List Str) (k:Nat),0<=idxG w l k->(l[(idxG w l k-k).toNat]?).getD []=w:=fun l=>by
   induction l with
   |nil=>intro k h;rw[idxG]at h;omega
   | cons x r ih =>
    intro k h
    rw[idxG]at h⊢
    split
    ·rename_i e
     rw[show((k:Int)-k).toNat=0 by omega];exact e
    ·rename_i e
     rw[if_neg e]at h
     have h1:=Nl (s:=w) r (k+1) h
     have:=ih (k+1) h
     rw[show(idxG w r (k+1)-(k:Int)).toNat=(idxG w r (k+1)-((k+1:Nat):Int)).toNat+1 by omega,List.getElem?_cons_succ]
     exact this
  have:=hg wordsC 0 h0
  unfold Jd
  rw[show(idxG w wordsC 0+1-1).toNat=(idxG w wordsC 0-((0:Nat):Int)).toNat by omega]
  exact this
 ·cases h
section
variable {intS:Str->Option Int}
theorem P9(hi:IntOK intS){x:CIns}(h:Cz x=true):EJ intS (Do x)=some x:=by
 unfold Cz at h
 rw[Bool.and_eq_true]at h
 obtain⟨h1,h2⟩:=h
 simp only[decide_eq_true_eq]at h1
 obtain⟨w1,w2,w3⟩:=PX h1
 unfold EJ Do
 cases e:hasA x.op with
 | true =>
  rw[e,if_pos rfl]at h2
  simp only[if_true]
  rw[Lb _ _ w2]
  simp only
  rw[w3]
  simp only[e,if_true]
  have : -1000000000<=x.a/\x.a<=1000000000:=by
   split at h2
   ·unfold inB at h2
    simpa[Bool.and_eq_true,decide_eq_true_eq] using h2
   ·unfold farN at h2
    simp only[decide_eq_true_eq]at h2
    omega
  rw[hi.read x.a this.1 this.2]
 |false=>
  rw[e,if_neg (by simp)]at h2
  simp only[decide_eq_true_eq]at h2
  simp only[Bool.false_eq_true,if_false,List.append_nil]
  rw[IW _ w2]
  simp only
  rw[w3]
  simp only[e,Bool.false_eq_true,if_false]
  rw[<-h2]
theorem Pa(hi:IntOK intS)(l:Str)(x:CIns)(h:EJ intS l=some x):Do x=l:=by
 unfold EJ at h
 split at h
 ·split at h
  ·cases h
  ·rename_i op e
   split at h
   ·cases h
   ·rename_i hh
    cases h
    unfold Do
    simp only
    rw[if_neg hh,List.append_nil]
    exact O0 e
 ·rename_i w a e0
  split at h
  ·cases h
  ·rename_i op e
   split at h
   ·rename_i hh
    split at h
    ·cases h
    ·rename_i n e1
     cases h
     unfold Do
     simp only
     rw[if_pos hh,O0 e,hi.back _ _ e1]
     exact(IX _ _ _ e0).symm
   ·cases h
theorem EU{α}(f:α->Str)(b:UInt8): ∀l:List α,listB (fun n=>f n++[b]) l=listB (fun x=>x++[b]) (l.map f)
 |[]=>rfl
 |x::r=>by rw[listB,List.map_cons,listB,EU f b r]
theorem H1(b:UInt8): ∀(l:List Str),l≠[]->(listB (fun x=>x++[b]) l).getLast? = some b
 |[],h=>absurd rfl h
 |[x],_=>by rw[listB,listB,List.append_nil,List.getLast?_concat]
 |x::y::r,_=>by
  rw[listB,List.getLast?_append,H1 b (y::r) (by simp)];rfl
theorem LC(hi:IntOK intS){l:List Int}(h:∀n∈l,farN n=true):EI intS (listB (fun n=>Lib.itoa n++[32]) l)=some l:=by
 unfold EI
 cases l with
 |nil=>rw[listB,if_pos rfl]
 | cons x r =>
  rw[EU]
  have hne:listB (fun x=>x++[(32:UInt8)]) ((x::r).map Lib.itoa)≠[]:=by rw[List.map_cons,listB];simp
  rw[if_neg hne,if_pos (H1 32 _ (by simp)),GU 32 _ (by simp) fun y hy=>?_]
  ·exact KN _ fun n hn=>by
    have:=h n hn
    unfold farN at this
    simp only[decide_eq_true_eq]at this
    exact hi.read n (by omega) (by omega)
  ·obtain⟨n,_,rfl⟩:=List.mem_map.1 hy
   exact Gj (.inr (.inl rfl))
theorem P8(hi:IntOK intS){a:Str}{l:List Int}(h:EI intS a=some l):listB (fun n=>Lib.itoa n++[32]) l=a:=by
 unfold EI at h
 split at h
 ·rename_i e;cases h;rw[e];rfl
 ·split at h
  ·rename_i e
   rw[EU,Is hi.back _ _ h,H0]
   obtain⟨ys,rfl⟩:=List.getLast?_eq_some_iff.1 e
   rw[List.dropLast_concat]
  ·cases h
theorem Qr(hi:IntOK intS){c:CProg}(h:AP c=true):G5 intS (EC c)=some c:=by
 have hp:=h
 unfold AP at h
 simp only[Bool.and_eq_true,decide_eq_true_eq,List.all_eq_true]at h
 obtain⟨h1,h2,h3,h4,h5⟩:=h
 have hm : -1000000000<=c.main/\c.main<=1000000000:=by
  unfold farN at h3
  simp only[decide_eq_true_eq]at h3
  omega
 unfold G5 EC
 rw[if_neg (by rw[H1 10 _ (by simp)];simp),GU 10 _ (by simp) fun x hx=>?_]
 ·simp only
  unfold KP
  rw[OE _ _ ?_]
  ·simp only
   rw[hi.read _ hm.1 hm.2]
   simp only
   rw[LC hi h4]
   simp only
   rw[KN _ fun x hx=>P9 hi (h5 x hx)]
   simp only
   rw[if_pos hp]
  ·intro aa
   rw[EU]at aa
   have:∀l:List Str,(∀x∈l,(58:UInt8)∉x)->(58:UInt8)∉listB (fun x=>x++[(32:UInt8)]) l:=fun l=>by
    induction l with
    |nil=>intro _ h;rw[listB]at h;cases h
    | cons x r ih =>
     intro hx h
     rw[listB]at h
     rcases List.mem_append.1 h with h|h
     ·rcases List.mem_append.1 h with h|h
      ·exact hx x List.mem_cons_self h
      ·rw[List.mem_singleton]at h;exact absurd h (by decide)
     ·exact ih (fun y hy=>hx y (List.mem_cons_of_mem _ hy)) h
   refine this _ (fun x hx=>?_) aa
   obtain⟨n,_,rfl⟩:=List.mem_map.1 hx
   exact Gj (.inr (.inr rfl))
 ·rcases List.mem_cons.1 hx with rfl|hx
  ·unfold KP
   intro aa
   rcases List.mem_append.1 aa with aa|aa
   ·rw [EU] at aa
    have:∀l:List Str,(∀x∈l,(10:UInt8)∉x)->(10:UInt8)∉listB (fun x=>x++[(32:UInt8)]) l:=fun l=>by
     induction l with
     |nil=>intro _ h;rw[listB]at h;cases h
     | cons x r ih =>
      intro hx h
      rw[listB]at h
      rcases List.mem_append.1 h with h|h
      ·rcases List.mem_append.1 h with h|h
       ·exact hx x List.mem_cons_self h
       ·rw[List.mem_singleton]at h;exact absurd h (by decide)
      ·exact ih (fun y hy=>hx y (List.mem_cons_of_mem _ hy)) h
    refine this _ (fun x hx=>?_) aa
    obtain⟨n,_,rfl⟩:=List.mem_map.1 hx
    exact Gj (.inl rfl)
   ·rcases List.mem_cons.1 aa with h|aa
    ·exact absurd h (by decide)
    ·rcases List.mem_cons.1 aa with h|aa
     ·exact absurd h (by decide)
     ·exact Gj (.inl rfl) aa
  ·obtain⟨y,hy,rfl⟩:=List.mem_map.1 hx
   have ag:=h5 y hy
   unfold Cz at ag
   rw[Bool.and_eq_true]at ag
   have w:=PX (by simpa using ag.1:1<=y.op/\y.op<=21)
   unfold Do
   intro aa
   rcases List.mem_append.1 aa with aa|aa
   ·exact w.1 aa
   ·split at aa
    ·rcases List.mem_cons.1 aa with h|aa
     ·exact absurd h (by decide)
     ·exact Gj (.inl rfl) aa
    ·cases aa
theorem Q9 (hi:IntOK intS) {s:Str} {c:CProg} (h:G5 intS s=some c):AP c=true/\EC c=s:=by
 unfold G5 at h
 split at h
 ·cases h
 ·rename_i h0
  have aF:s.getLast? = some 10:=Classical.byContradiction h0
  split at h
  ·cases h
  ·rename_i l0 ls e0
   split at h
   ·cases h
   ·rename_i a m e1
    split at h
    ·cases h
    ·rename_i main e2
     split at h
     ·cases h
     ·rename_i starts e3
      split at h
      ·cases h
      ·rename_i ins e4
       split at h
       ·rename_i hp
        cases h
        refine⟨hp,?_⟩
        unfold EC KP
        simp only
        rw[P8 hi e3,hi.back _ _ e2,Is (Pa hi) _ _ e4,<-IV _ _ _ e1,<-e0,H0]
        obtain⟨ys,rfl⟩:=List.getLast?_eq_some_iff.1 aF
        rw[List.dropLast_concat]
       ·cases h
end
theorem Da: ∀(k u:Nat),u<10 ^ (k+1)->(Lib.decDigits u).length<=k+1
 |0,u,h=>by rw[Lib.decDigits,dif_pos (by omega)];simp
 | k+1,u,h=>by
  rw[Lib.decDigits]
  split
  ·simp
  ·have:=Da k (u / 10) (Nat.div_lt_of_lt_mul (by rw[Nat.pow_succ]at h;omega))
   rw[List.length_append,List.length_singleton];omega
theorem KS{n:Int}(h:farN n=true):(Lib.itoa n).length<=10:=by
 unfold farN at h
 simp only[decide_eq_true_eq]at h
 unfold Lib.itoa
 rw[if_neg (by omega)]
 exact Da 9 _ (by omega)
theorem Rf{n:Int}(h : -1000000000<=n/\n<=1000000000):(Lib.itoa n).length<=11:=by
 unfold Lib.itoa
 split
 ·have:=Da 9 n.natAbs (by omega)
  rw[List.length_cons];omega
 ·have:=Da 9 n.toNat (by omega)
  omega
theorem Gg{α}{f:α->List UInt8}{m:Nat}: ∀(l:List α),(∀x∈l,(f x).length<=m)->(listB f l).length<=m*l.length
 |[],_=>by rw[listB];simp
 |x::r,h=>by
  have h1:=h x List.mem_cons_self
  have h2:=Gg r fun y hy=>h y (List.mem_cons_of_mem _ hy)
  rw[listB,List.length_append,List.length_cons,Nat.mul_succ];omega
theorem PW: ∀k:Nat,k<21->((wordsC[k]?).getD []).length<=4/\(k=0->((wordsC[k]?).getD []).length=3):=by decide
theorem O9{x:CIns}(h:Cz x=true):(Do x).length<=15:=by
 unfold Cz at h
 rw[Bool.and_eq_true]at h
 obtain⟨h1,h2⟩:=h
 simp only[decide_eq_true_eq]at h1
 obtain⟨w1,w2⟩:=PW (x.op-1).toNat (by omega)
 unfold Do Jd
 rw[List.length_append]
 cases e:hasA x.op with
 |false=>rw[if_neg (by simp),List.length_nil];omega
 | true =>
  rw[e,if_pos rfl]at h2
  rw[if_pos rfl,List.length_cons]
  split at h2
  ·rename_i e1
   have:=w2 (by omega)
   unfold inB at h2
   have:=Rf (n:=x.a) (by simpa[Bool.and_eq_true,decide_eq_true_eq] using h2)
   omega
  ·have:=KS h2
   omega
theorem Kv{c:CProg}(h:AP c=true):(EC c).length<=5000:=by
 unfold AP at h
 simp only[Bool.and_eq_true,decide_eq_true_eq,List.all_eq_true]at h
 obtain⟨h1,h2,h3,h4,h5⟩:=h
 have a:=Gg (f:=fun n=>Lib.itoa n++[32]) (m:=11) c.starts fun n hn=>by
  have:=KS (h4 n hn)
  rw[List.length_append,List.length_singleton];omega
 have b:=Gg (f:=fun l:Str=>l++[(10:UInt8)]) (m:=16) (c.ins.map Do) fun l hl=>by
  obtain⟨x,hx,rfl⟩:=List.mem_map.1 hl
  have:=O9 (h5 x hx)
  rw[List.length_append,List.length_singleton];omega
 have d:=KS h3
 rw[List.length_map]at b
 unfold EC KP
 rw[listB,List.length_append,List.length_append,List.length_append,List.length_cons,List.length_cons,List.length_singleton]
 omega
theorem HI{n:Nat}(h:n<128 ^ 5):(digB n).length<=5:=by
 unfold digB
 rw[List.length_append,List.length_singleton,KV 4 (n / 128) (Nat.div_lt_of_lt_mul (by omega)) 10 (by omega)]
 have:=Rl 4 (n / 128)
 omega
theorem J7{c:CProg}(h:AP c=true):(CA c).length<=5000:=by
 unfold AP at h
 simp only[Bool.and_eq_true,decide_eq_true_eq,List.all_eq_true]at h
 obtain⟨h1,h2,h3,h4,h5⟩:=h
 have far:∀n:Int,farN n=true->(digB n.toNat).length<=5:=fun n hn=>by
  unfold farN at hn
  simp only[decide_eq_true_eq]at hn
  exact HI (by omega)
 have a:=Gg (f:=fun n:Int=>digB n.toNat) (m:=5) c.starts fun n hn=>far n (h4 n hn)
 have b:=Gg (f:=insB) (m:=6) c.ins fun x hx=>by
  have hp:=h5 x hx
  unfold Cz at hp
  rw[Bool.and_eq_true]at hp
  unfold insB
  rw[List.length_cons]
  split
  ·rename_i e
   have ah:=hp.2
   rw[if_pos e]at ah
   have : -1000000000<=x.a/\x.a<=1000000000:=by
    split at ah
    ·unfold inB at ah
     simpa[Bool.and_eq_true,decide_eq_true_eq] using ah
    ·unfold farN at ah
     simp only[decide_eq_true_eq]at ah
     omega
   have:=HI (n:=Hz x.a) (by unfold Hz;split<;>omega)
   omega
  ·simp
 have d1:=far _ h3
 have d2:=HI (n:=c.starts.length) (by omega)
 have d3:=HI (n:=c.ins.length) (by omega)
 unfold CA rawB
 rw[List.length_append,List.length_cons,List.length_append,List.length_append,List.length_append,List.length_append,List.length_singleton]
 omega
theorem LB{intS:Str->Option Int}(hi:IntOK intS)(s:Str)(c:CProg):G5 intS s=some c ↔ AP c=true/\EC c=s:=
 ⟨Q9 hi,fun h=>by rw[<-h.2];exact Qr hi h.1⟩
theorem Id(s:Str)(c:CProg):Ez s=some c ↔ AP c=true/\CA c=s:=
 ⟨PQ,fun h=>by rw[<-h.2];exact P7 h.1⟩
def fitL(p:BProg)(N:Nat)(q:Nat)(l:List CIns):Prop:= ∀(i:Nat) (x:CIns),l[i]? = some x->fitsC p N (q+i) x=true
section
variable {p:BProg}{N:Nat}
theorem fit_nil(q:Nat):fitL p N q []:=fun i x h=>by simp at h
theorem Uz{q r:Nat}{x:CIns}{m:List CIns}(h:fitsC p N q x=true)(hr:r=q+1)(k:fitL p N r m):fitL p N q (x::m):=fun i y hy=>by
 cases i with
 |zero=>simp only[List.getElem?_cons_zero,Option.some.injEq]at hy;rw[<-hy];exact h
 |succ i=>
  rw[List.getElem?_cons_succ]at hy
  have:=k i y hy
  rw[hr,show q+1+i=q+(i+1) by omega]at this
  exact this
end
def Fc(p:BProg)(N:Nat):List CIns->Nat->Bool
 |[],_=>true
 |x::r,q=>fitsC p N q x&&Fc p N r (q+1)
theorem Ft{p:BProg}{N:Nat}: ∀(l:List CIns) (q:Nat),Fc p N l q=true ↔ fitL p N q l
 |[],q=>by rw[Fc];exact⟨fun _=>fit_nil q,fun _=>rfl⟩
 | x::r,q=>by
  rw[Fc,Bool.and_eq_true,Ft r]
  constructor
  ·rintro⟨a,b⟩;exact Uz a rfl b
  ·intro h
   refine⟨by have:=h 0 x rfl;rwa [Nat.add_zero]at this,fun i y hy=>?_⟩
   have:=h (i+1) y (by rw[List.getElem?_cons_succ];exact hy)
   rw[show q+1+i=q+(i+1) by omega]
   exact this
def Ei(p:BProg)(c:CProg):Option (List CLev):=
 if okP p&&(decide (c.ins.length<=300)&&(decide (c.starts.length=p.methods.length)&&Fc p c.ins.length c.ins 0)) then Gf p c (stsP p c) else none
theorem reach_at{N:Nat}{met m:Met}{n:Int}{l:CLev}(h:BG N met n l=some m)(j:Nat):m j=met j\/((j:Int)=n/\m j=some l):=by
 unfold BG at h
 split at h
 ·cases h
 ·cases h
  unfold updM
  by_cases e:j=n.toNat
  ·rw[if_pos e];exact .inr ⟨by omega,rfl⟩
  ·rw[if_neg e];exact .inl rfl
section
variable {p:BProg}{c:CProg}{env:Int}{next:Bool}
theorem Ky {q:Nat} {x:CIns} {l:CLev} {met m:Met} (h:Eb p c env next q x l met=some m) (hj:x.op=17\/x.op=18->(q:Int) < x.a) (j:Nat):m j=met j\/(q < j /\ ∃ l',m j=some l'/\l'.env<=l.env+1):=by
 unfold Eb at h
 split at h
 ·cases h
 ·split at h
  ·split at h
   ·cases h;exact .inl rfl
   ·cases h
  ·split at h
   ·rcases reach_at h j with e|⟨e,e2⟩
    ·exact .inl e
    ·exact .inr ⟨by omega,_,e2,by simp only;omega⟩
   ·split at h
    ·rcases reach_at h j with e|⟨e,e2⟩
     ·exact .inl e
     ·exact .inr ⟨by omega,_,e2,by simp only;omega⟩
    ·split at h
     ·rename_i aD
      have:=hj (.inr aD)
      rcases reach_at h j with e|⟨e,e2⟩
      ·exact .inl e
      ·exact .inr ⟨by omega,_,e2,by simp only;omega⟩
     ·split at h
      ·rename_i aE
       have:=hj (.inl aE)
       split at h
       ·cases h
       ·rename_i e0
        rcases reach_at h j with e|⟨e,e2⟩
        ·rcases reach_at e0 j with e1|⟨e1,e2⟩
         ·exact .inl (e.trans e1)
         ·exact .inr ⟨by omega,_,e.trans e2,by simp only;omega⟩
        ·exact .inr ⟨by omega,_,e2,by simp only;omega⟩
      ·rcases reach_at h j with e|⟨e,e2⟩
       ·exact .inl e
       ·exact .inr ⟨by omega,_,e2,by simp only;omega⟩
theorem Qc{q:Nat}{x:CIns}{l:CLev}{met m:Met}(h:Eb p c env next q x l met=some m)(h3:x.op=3):x.a<l.env:=by
 unfold Eb at h
 split at h
 ·cases h
 ·omega
def AC(c:CProg)(q:Nat):CIns:=(c.ins[q]?).getD ⟨0,0⟩
theorem Dx(hf:∀q:Nat,(AC c q).op=17\/(AC c q).op=18->(q:Int)<(AC c q).a): ∀(f q:Nat) (met m:Met),Dm p c env next f q met=some m->∀j,j<q->m j=met j
 |0,_,_,_,h,_,_=>by cases h;rfl
 | f+1,q,met,m,h,j,hj=>by
  rw[Dm]at h
  split at h
  ·exact Dx hf f _ _ _ h j (by omega)
  ·split at h
   ·cases h
   ·rename_i e
    rw[Dx hf f _ _ _ h j (by omega)]
    rcases Ky e (hf q) j with e2|⟨e2,_⟩
    ·exact e2
    ·omega
theorem I9(hf:∀q:Nat,(AC c q).op=17\/(AC c q).op=18->(q:Int)<(AC c q).a)(e0:Int): ∀(f q:Nat) (met m:Met),Dm p c env next f q met=some m->(∀j l,met j=some l->l.env<=e0+j)->
  ∀j l,q<=j->j<q+f->m j=some l->(AC c j).op=3->(AC c j).a<e0+j
 |0,_,_,_,_,_,_,_,_,_,_,_=>by omega
 | f+1,q,met,m,h,hE,j,l,h1,h2,hm,h3=>by
  rw[Dm]at h
  split at h
  ·rename_i hq
   by_cases hj:j=q
   ·subst hj
    rw[Dx hf f _ _ _ h j (by omega),hq]at hm
    cases hm
   ·exact I9 hf e0 f _ _ _ h hE j l (by omega) (by omega) hm h3
  ·rename_i l0 hq
   split at h
   ·cases h
   ·rename_i m0 e
    by_cases hj:j=q
    ·subst hj
     have:=Qc e h3
     have:=hE j l0 hq
     unfold AC
     omega
    ·refine I9 hf e0 f _ _ _ h (fun i l' hi=>?_) j l (by omega) (by omega) hm h3
     rcases Ky e (hf q) i with e2|⟨e2,l2,e3,e4⟩
     ·rw[e2]at hi;exact hE i l' hi
     ·rw[e3]at hi;cases hi
      have:=hE q l0 hq
      omega
theorem TR(hf:∀q:Nat,(AC c q).op=17\/(AC c q).op=18->(q:Int)<(AC c q).a){s:CSt}{w:Met}(h:wayM p c s=some w)(h0:s.env<=3){j:Nat}{l:CLev}(hl:w j=some l)(h3:(AC c j).op=3):(AC c j).a<3+j:=by
 have hd:=MX h
 unfold wayM at h
 split at h
 ·cases h
 ·have hj:j<c.ins.length:=Classical.byContradiction fun hn=>by rw[hd j (by omega)]at hl;cases hl
  by_cases hq:s.pos.toNat<=j
  ·refine I9 hf 3 _ _ _ _ h (fun i l' hi=>?_) j l hq (by omega) hl h3
   unfold updM at hi
   split at hi
   ·cases hi;simp only;omega
   ·cases hi
  ·rw[Dx hf _ _ _ _ h j (by omega)]at hl
   unfold updM at hl
   rw[if_neg (by omega)]at hl
   cases hl
end
def fitsQ(p:BProg)(N:Nat)(q:Nat)(x:CIns):Bool:=
 if x.op=1 then inB x.a else if x.op=3 then decide (0<=x.a/\x.a<=123+N) else if x.op=4\/x.op=6 then decide (3<=x.a/\x.a<3+p.classes.length) else if x.op=5\/x.op=8 then decide (0<=x.a/\x.a<p.slots) else
 if x.op=17\/x.op=18 then decide ((q:Int)<x.a/\x.a<N) else if x.op=19 then decide (0<=x.a/\x.a<p.gens.length) else decide (1<=x.op/\x.op<=21/\x.a=0)
def BW(p:BProg)(N:Nat):List CIns->Nat->Bool
 |[],_=>true
 |x::r,q=>fitsQ p N q x&&BW p N r (q+1)
theorem Ux{p:BProg}{N q:Nat}{x:CIns}(h:fitsC p N q x=true)(h3:x.op=3->x.a<=123+N):fitsQ p N q x=true:=by
 unfold fitsC at h;unfold fitsQ
 by_cases e:x.op=3
 ·rw[if_neg (by omega),if_pos e]at h⊢
  simp only[decide_eq_true_eq]at h⊢
  exact⟨h,h3 e⟩
 ·rw[if_neg e]at h⊢
  exact h
theorem Uy{p:BProg}{N q:Nat}{x:CIns}(h:fitsQ p N q x=true):fitsC p N q x=true:=by
 unfold fitsQ at h;unfold fitsC
 by_cases e:x.op=3
 ·rw[if_neg (by omega),if_pos e]at h⊢
  simp only[decide_eq_true_eq]at h⊢
  exact h.1
 ·rw[if_neg e]at h⊢
  exact h
theorem MQ{p:BProg}{N:Nat}: ∀(l:List CIns) (q:Nat),BW p N l q=true->Fc p N l q=true
 |[],_,_=>rfl
 |x::r,q,h=>by
  rw[BW,Bool.and_eq_true]at h
  rw[Fc,Uy h.1,MQ r _ h.2];rfl
theorem Km{p:BProg}{N:Nat}: ∀(l:List CIns) (q:Nat),Fc p N l q=true->(∀(i:Nat) (x:CIns),l[i]? = some x->x.op=3->x.a<=123+N)->BW p N l q=true
 |[],_,_,_=>rfl
 |x::r,q,h,hn=>by
  rw[Fc,Bool.and_eq_true]at h
  rw[BW,Ux h.1 (hn 0 x rfl),Km r _ h.2 fun i y hy=>hn (i+1) y (by rw[List.getElem?_cons_succ];exact hy)];rfl
def stsQ(p:BProg)(c:CProg):List CSt:=⟨c.main,0,false⟩::List.zipWith (Dz p) p.methods c.starts
def KO(p:BProg)(c:CProg):Option (List CLev):=
 if okP p&&(decide (c.ins.length<=300)&&(decide (c.starts.length=p.methods.length)&&BW p c.ins.length c.ins 0)) then Gf p c (stsQ p c) else none
theorem Ra (p:BProg) (c:CProg):KO p c=Ei p c:=by
 unfold KO Ei
 have hs:Gf p c (stsQ p c)=Gf p c (stsP p c):=Ph fun s=>by unfold stsQ stsP;rw[List.mem_cons,List.mem_append,List.mem_singleton,or_comm]
 rw[hs]
 by_cases ai:okP p=true
 ·by_cases h1:c.ins.length<=300
  ·by_cases h2:c.starts.length=p.methods.length
   ·rw [ai,decide_eq_true h1,decide_eq_true h2,Bool.true_and,Bool.true_and,Bool.true_and,Bool.true_and]
    cases hq:BW p c.ins.length c.ins 0 with
    |true=>rw[MQ _ _ hq];rfl
    | false =>
     cases hf:Fc p c.ins.length c.ins 0 with
     |false=>rfl
     | true =>
      rw[if_neg (by simp)]
      change none=Gf p c (stsP p c)
      cases hl:Gf p c (stsP p c)with
      |none=>rfl
      | some lv =>
       exfalso
       have ay:=hq
       rw[Km _ _ hf]at ay
       ·cases ay
       intro i x hx h3
       have hi:i<c.ins.length:=(List.getElem?_eq_some_iff.1 hx).1
       have ha:∀q,AC c q=((c.ins[q]?).getD ⟨0,0⟩):=fun _=>rfl
       have ar:∀q:Nat,(AC c q).op=17\/(AC c q).op=18->(q:Int)<(AC c q).a:=fun q ag=>by
        rw[ha]at ag⊢
        cases hc:c.ins[q]? with
        |none=>rw[hc]at ag;simp at ag
        |some y=>
         rw[hc]at ag
         simp only[Option.getD_some]at ag⊢
         have:=(Ft _ _).1 hf q y hc
         unfold fitsC at this
         rw[if_neg (by omega),if_neg (by omega),if_neg (by omega),if_neg (by omega),if_pos ag]at this
         simp only[decide_eq_true_eq]at this
         omega
       unfold Gf at hl
       cases hL:Fv p c (stsP p c) (fun _=>none)with
       |none=>rw[hL]at hl;cases hl
       | some W =>
        rw[hL]at hl
        simp only at hl
        split at hl
        ·rename_i aw
         have:=List.all_eq_true.1 aw i (List.mem_range.2 hi)
         obtain⟨l,hW⟩:=Option.isSome_iff_exists.1 this
         rcases((Fj _ _ _).1 hL).2.2 i l hW with h|⟨s,hs,w,hw,aB⟩
         ·cases h
         ·have au:s.env<=3:=by
           unfold stsP at hs
           rcases List.mem_append.1 hs with hs|hs
           ·rw[<-List.map_uncurry_zip_eq_zipWith]at hs
            obtain⟨⟨m,n⟩,_,rfl⟩:=List.mem_map.1 hs
            exact(H8 ai m.gen.toNat).2
           ·rw[List.mem_singleton]at hs;rw[hs];simp
          have e:AC c i=x:=by rw[ha,hx];rfl
          have:=TR ar hw au aB (by rw[e];exact h3)
          rw[e]at this
          omega
        ·cases hl
   ·rw[ai,decide_eq_true h1,decide_eq_false h2];rfl
  ·rw[ai,decide_eq_false h1];rfl
 ·rw[Bool.not_eq_true]at ai
  rw[ai];rfl
end Go.DL
