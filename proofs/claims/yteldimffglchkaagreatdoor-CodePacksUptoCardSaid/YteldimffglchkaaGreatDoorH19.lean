/- A part of the proof. -/
import Derived.Test.YteldimffglchkaaGreatDoorH18
import Derived.Lib.Atoi
import Derived.Lib.ItoaNum
set_option linter.all false
namespace Go.DL
open Go Go.Proofs
def sumB:List UInt8->UInt8->UInt8
 |[],n=>n
 |c::r,n=>sumB r (3*n+c+1)
def KN(s:List UInt8):Bool:=match s.getLast? with
 |none=>false
 |some x=>decide (sumB s.dropLast 0=x)
theorem sum_app(l:List UInt8):KN (l++[sumB l 0])=true:=by
 unfold KN
 rw[List.getLast?_concat,List.dropLast_concat]
 simp
def hiB:Nat->Nat->List UInt8
 |0,_=>[]
 |k+1,n=>if n=0 then [] else hiB k (n / 128)++[UInt8.ofNat (128+n % 128)]
def digB(n:Nat):List UInt8:=hiB 10 (n / 128)++[UInt8.ofNat (n % 128)]
def Dh(n:Int):Nat:=if n<0 then(-2*n-1).toNat else(2*n).toNat
def hasA(op:Int):Bool:=decide (op=1\/op=3\/op=4\/op=5\/op=6\/op=8\/op=17\/op=18\/op=19)
def insB(x:CIns):List UInt8:=UInt8.ofNat x.op.toNat::(if hasA x.op then digB (Dh x.a) else [])
def listB{α}(f:α->List UInt8):List α->List UInt8
 |[]=>[]
 |x::r=>f x++listB f r
def rawB(c:CProg):List UInt8:=199::(digB c.starts.length++(listB (fun n:Int=>digB n.toNat) c.starts++(digB c.main.toNat++(digB c.ins.length++listB insB c.ins))))
def BD(c:CProg):List UInt8:=rawB c++[sumB (rawB c) 0]
def farN(n:Int):Bool:=decide (0<=n/\n<=1000000000)
def Cq(x:CIns):Bool:=decide (1<=x.op/\x.op<=21)&&(if hasA x.op then(if x.op=1 then inB x.a else farN x.a) else decide (x.a=0))
def AM(c:CProg):Bool:=decide (c.ins.length<=300)&&(decide (c.starts.length<=16)&&(farN c.main&&(c.starts.all farN&&c.ins.all Cq)))
def grpB:Nat->Bool->Nat->List UInt8->Option (Nat×List UInt8)
 |0,_,_,_=>none
 |_+1,_,_,[]=>none
 |k+1,z,n,c::r=>if z&&c==128 then none else if c<128 then some (n*128+c.toNat % 128,r) else grpB k false (n*128+c.toNat % 128) r
theorem Ds{n:Nat}(h:n<256):(UInt8.ofNat n).toNat=n:=by
 rw[UInt8.toNat_ofNat'];omega
theorem UI: ∀(k n:Nat) (j:Nat) (m:Nat) (z:Bool) (r:List UInt8),n<128 ^ k->k<=j->grpB (j+1) z m (hiB k n++r)=if n=0 then grpB (j+1) z m r else grpB (j+1-(hiB k n).length) false (m*128 ^ (hiB k n).length+n) r
 |0,n,j,m,z,r,h,_=>by
  have:n=0:=by simpa using h
  rw[if_pos this,hiB];rfl
 | k+1,n,j,m,z,r,h,hj=>by
  rw[hiB]
  by_cases h0:n=0
  ·rw[if_pos h0,if_pos h0];rfl
  ·rw [if_neg h0,if_neg h0]
   have hd:n / 128<128 ^ k:=by rw[Nat.pow_succ]at h;exact Nat.div_lt_of_lt_mul (by omega)
   rw[List.append_assoc,UI k (n / 128) j m z _ hd (by omega)]
   have ht:(UInt8.ofNat (128+n % 128)).toNat=128+n % 128:=Ds (by omega)
   have aA:¬(UInt8.ofNat (128+n % 128))<128:=fun e=>by
    have:=UInt8.lt_iff_toNat_lt.1 e
    rw[ht]at this
    have:(128:UInt8).toNat=128:=rfl
    omega
   by_cases h1:n / 128=0
   ·rw[if_pos h1]
    have hk:hiB k (n / 128)=[]:=by rw[h1];cases k<;>rfl
    rw[hk]
    have hne:(UInt8.ofNat (128+n % 128)==128)=false:=by
     rw[beq_eq_false_iff_ne]
     intro e
     have:=congrArg UInt8.toNat e
     rw[ht]at this
     have:(128:UInt8).toNat=128:=rfl
     omega
    simp only[List.cons_append,List.nil_append,List.length_cons,List.length_nil,grpB]
    rw[hne,Bool.and_false,if_neg (by simp),if_neg aA,ht]
    rw[show j+1-(0+1)=j by omega,show(128+n % 128) % 128=n by omega]
   ·rw[if_neg h1]
    have hlen:(hiB k (n / 128)).length<=k:=by
     have:∀k n,(hiB k n).length<=k:=fun k=>by
      induction k with
      |zero=>intro n;rw[hiB];simp
      |succ k ih=>intro n;rw[hiB];split;simp;rw[List.length_append];have:=ih (n / 128);simp;omega
     exact this _ _
    obtain⟨i,hi⟩:∃i,j+1-(hiB k (n / 128)).length=i+1:=⟨j-(hiB k (n / 128)).length,by omega⟩
    rw[hi]
    simp only[List.cons_append,List.nil_append,grpB,Bool.false_and]
    rw[if_neg (by simp),if_neg aA,ht,List.length_append,List.length_singleton]
    rw[show j+1-((hiB k (n / 128)).length+1)=i by omega,Nat.pow_succ]
    congr 1
    rw[Nat.add_mul,Nat.mul_assoc]
    omega
theorem Qh{n:Nat}(h:n<128 ^ 5)(r:List UInt8):grpB 6 true 0 (digB n++r)=some (n,r):=by
 have e:hiB 10 (n / 128)=hiB 4 (n / 128):=by
  have:∀k n,n<128 ^ k->∀j,k<=j->hiB j n=hiB k n:=fun k=>by
   induction k with
   |zero=>
    intro n hn j _
    have h0:n=0:=by simpa using hn
    subst h0
    cases j<;>rfl
   |succ k ih=>
    intro n hn j hj
    obtain⟨i,rfl⟩:∃i,j=i+1:=⟨j-1,by omega⟩
    rw[hiB,hiB]
    split
    ·rfl
    ·rw[ih (n / 128) (Nat.div_lt_of_lt_mul (by rw[Nat.pow_succ]at hn;omega)) i (by omega)]
  exact this 4 _ (Nat.div_lt_of_lt_mul (by omega)) 10 (by omega)
 have ht:(UInt8.ofNat (n % 128)).toNat=n % 128:=Ds (by omega)
 have ah:(UInt8.ofNat (n % 128))<128:=UInt8.lt_iff_toNat_lt.2 (by rw[ht];have:(128:UInt8).toNat=128:=rfl;omega)
 have hne:(UInt8.ofNat (n % 128)==128)=false:=by
  rw[beq_eq_false_iff_ne]
  intro e
  have:=congrArg UInt8.toNat e
  rw[ht]at this
  have:(128:UInt8).toNat=128:=rfl
  omega
 unfold digB
 rw[e,List.append_assoc,UI 4 (n / 128) 5 0 true _ (Nat.div_lt_of_lt_mul (by omega)) (by omega)]
 by_cases h0:n / 128=0
 ·rw[if_pos h0]
  simp only[List.cons_append,List.nil_append,grpB]
  rw[hne,Bool.and_false,if_neg (by simp),if_pos ah,ht]
  congr 2
  omega
 ·rw[if_neg h0]
  have hlen:(hiB 4 (n / 128)).length<=4:=by
   have:∀k n,(hiB k n).length<=k:=fun k=>by
    induction k with
    |zero=>intro n;rw[hiB];simp
    |succ k ih=>intro n;rw[hiB];split;simp;rw[List.length_append];have:=ih (n / 128);simp;omega
   exact this _ _
  obtain⟨i,hi⟩:∃i,5+1-(hiB 4 (n / 128)).length=i+1:=⟨5-(hiB 4 (n / 128)).length,by omega⟩
  rw[hi]
  simp only[List.cons_append,List.nil_append,grpB,Bool.false_and]
  rw[if_neg (by simp),if_pos ah,ht]
  congr 2
  omega
def grpI(s:List UInt8):Option (Int×List UInt8):=match grpB 6 true 0 s with
 |none=>none
 |some (n,r)=>some ((n:Int),r)
def CB(n:Int):Int:=if n % 2=1 then -((n+1) / 2) else n / 2
def DH(s:List UInt8):Option (CIns×List UInt8):=match s with
 |[]=>none
 | c::r=>if hasA c.toNat then (match grpI r with
   |none=>none
   |some (n,t)=>some (⟨c.toNat,CB n⟩,t)) else some (⟨c.toNat,0⟩,r)
def C0{α}(f:List UInt8->Option (α×List UInt8)):Nat->List UInt8->Option (List α×List UInt8)
 |0,s=>some ([],s)
 | k+1,s=>match f s with
  |none=>none
  |some (x,r)=>match C0 f k r with
   |none=>none
   |some (l,t)=>some (x::l,t)
def Kc (b:List UInt8):Option CProg:=match grpI b with
 |none=>none
 | some (n,b1)=>match C0 grpI n.toNat b1 with
  |none=>none
  | some (starts,b2)=>match grpI b2 with
   |none=>none
   | some (main,b3)=>match grpI b3 with
    |none=>none
    |some (k,b4)=>match C0 DH k.toNat b4 with
     |none=>none
     |some (ins,b5)=>if b5=[]/\AM ⟨ins,starts,main⟩=true then some ⟨ins,starts,main⟩ else none
def DI(s:List UInt8):Option CProg:=if s.length<=1\/KN s=false then none else match s.dropLast with
 |[]=>none
 |c::b=>if c=199 then Kc b else none
theorem Mg(a:Int):CB (Dh a)=a:=by
 unfold CB Dh
 by_cases h:a<0
 ·rw[if_pos h,if_pos (by omega)];omega
 ·rw[if_neg h,if_neg (by omega)];omega
theorem MH(n:Nat):Dh (CB n)=n:=by
 unfold CB Dh
 by_cases h:(n:Int) % 2=1
 ·rw[if_pos h,if_pos (by omega)];omega
 ·rw[if_neg h,if_neg (by omega)];omega
theorem HH{α}{f:List UInt8->Option (α×List UInt8)}{g:α->List UInt8}: ∀(l:List α) (r:List UInt8),(∀x∈l, ∀r,f (g x++r)=some (x,r))->C0 f l.length (listB g l++r)=some (l,r)
 |[],r,_=>rfl
 |x::t,r,h=>by
  rw[List.length_cons,C0,listB,List.append_assoc,h x List.mem_cons_self]
  simp only
  rw[HH t r fun y hy=>h y (List.mem_cons_of_mem _ hy)]
theorem HI{α}{f:List UInt8->Option (α×List UInt8)}{g:α->List UInt8}(h:∀s x r,f s=some (x,r)->s=g x++r): ∀(k:Nat) (s:List UInt8) (l:List α) (r:List UInt8),C0 f k s=some (l,r)->l.length=k/\s=listB g l++r
 |0,s,l,r,e=>by rw[C0]at e;cases e;exact⟨rfl,rfl⟩
 | k+1,s,l,r,e=>by
  rw[C0]at e
  split at e
  ·cases e
  ·rename_i x r1 e1
   split at e
   ·cases e
   ·rename_i l1 t e2
    cases e
    obtain⟨a,b⟩:=HI h k r1 l1 r e2
    exact⟨by rw[List.length_cons,a],by rw[listB,List.append_assoc,<-b];exact h _ _ _ e1⟩
theorem Fd{n:Int}(h:farN n=true)(r:List UInt8):grpI (digB n.toNat++r)=some (n,r):=by
 unfold farN at h
 simp only[decide_eq_true_eq]at h
 unfold grpI
 rw[Qh (by omega)]
 simp only
 rw[show((n.toNat:Nat):Int)=n by omega]
theorem KX{x:CIns}(h:Cq x=true)(r:List UInt8):DH (insB x++r)=some (x,r):=by
 unfold Cq at h
 rw[Bool.and_eq_true]at h
 obtain⟨h1,h2⟩:=h
 simp only[decide_eq_true_eq]at h1
 have ht:(UInt8.ofNat x.op.toNat).toNat=x.op.toNat:=Ds (by omega)
 have ho:((x.op.toNat:Nat):Int)=x.op:=by omega
 unfold insB DH
 simp only[List.cons_append]
 rw[ht,ho]
 cases e:hasA x.op with
 | true =>
  rw[e,if_pos rfl]at h2
  simp only[if_true]
  have hb:Dh x.a<128 ^ 5:=by
   have : -1000000000<=x.a/\x.a<=1000000000:=by
    split at h2
    ·unfold inB at h2
     simpa[Bool.and_eq_true,decide_eq_true_eq] using h2
    ·unfold farN at h2
     simp only[decide_eq_true_eq]at h2
     omega
   unfold Dh
   split<;>omega
  unfold grpI
  rw[Qh hb]
  simp only
  rw[Mg]
 |false=>
  rw[e,if_neg (by simp)]at h2
  simp only[decide_eq_true_eq]at h2
  simp only[Bool.false_eq_true,if_false,List.nil_append]
  rw[<-h2]
theorem Of{c:CProg}(h:AM c=true):DI (BD c)=some c:=by
 have hp:=h
 unfold AM at h
 simp only[Bool.and_eq_true,decide_eq_true_eq,List.all_eq_true]at h
 obtain⟨h1,h2,h3,h4,h5⟩:=h
 unfold DI BD
 rw[sum_app,List.dropLast_concat]
 have hl:¬((rawB c++[sumB (rawB c) 0]).length<=1\/true=false):=by
  unfold rawB;simp
 rw[if_neg hl]
 unfold rawB
 simp only[if_true]
 unfold Kc
 have n1:farN (c.starts.length:Int)=true:=by unfold farN;simp only[decide_eq_true_eq];omega
 have n2:farN (c.ins.length:Int)=true:=by unfold farN;simp only[decide_eq_true_eq];omega
 have g1:=Fd n1
 have g2:=Fd n2
 simp only[Int.toNat_natCast]at g1 g2
 rw[g1]
 simp only[Int.toNat_natCast]
 rw[HH c.starts _ fun n hn r=>Fd (h4 n hn) r]
 simp only
 rw[Fd h3]
 simp only
 rw[g2]
 simp only[Int.toNat_natCast]
 have:=HH (f:=DH) (g:=insB) c.ins [] fun x hx r=>KX (h5 x hx) r
 rw[List.append_nil]at this
 rw[this]
 simp only
 rw[if_pos ⟨trivial,hp⟩]
theorem Qg: ∀k n,(hiB k n).length<=k
 |0,n=>by rw[hiB];simp
 | k+1,n=>by
  rw[hiB]
  split
  ·simp
  ·have:=Qg k (n / 128)
   rw[List.length_append,List.length_singleton];omega
theorem Kq: ∀k n,n<128 ^ k->∀j,k<=j->hiB j n=hiB k n
 |0,n,hn,j,_=>by
  have h0:n=0:=by simpa using hn
  subst h0
  cases j<;>rfl
 |k+1,n,hn,j,hj=>by
  obtain⟨i,rfl⟩:∃i,j=i+1:=⟨j-1,by omega⟩
  rw[hiB,hiB]
  split
  ·rfl
  ·rw[Kq k (n / 128) (Nat.div_lt_of_lt_mul (by rw[Nat.pow_succ]at hn;omega)) i (by omega)]
theorem Qf{n d:Nat}(hd:d<128)(h1:1<=n*128+d)(hn:n<128 ^ 9):hiB 10 (n*128+d)=hiB 10 n++[UInt8.ofNat (128+d)]:=by
 rw[Kq 9 n hn 10 (by omega)]
 rw[show(10:Nat)=9+1 from rfl,hiB,if_neg (by omega),show(n*128+d) / 128=n by omega,show(n*128+d) % 128=d by omega]
theorem H3{c:UInt8}:UInt8.ofNat c.toNat=c:=UInt8.ofNat_toNat
theorem Nv: ∀(k n:Nat) (s:List UInt8) (m:Nat) (r:List UInt8) (j:Nat),grpB k false n s=some (m,r)->1<=n->n<128 ^ j->k+j<=9->hiB 10 n++s=digB m++r
 |0,n,s,m,r,j,h,_,_,_=>by rw[grpB]at h;cases h
 |k+1,n,[],m,r,j,h,_,_,_=>by rw[grpB]at h;cases h
 | k+1,n,c::t,m,r,j,h,h1,hn,hj=>by
  rw[grpB,Bool.false_and,if_neg (by simp)]at h
  have hc:=UInt8.toNat_lt c
  have h9:n<128 ^ 9:=Nat.lt_of_lt_of_le hn (Nat.pow_le_pow_right (by omega) (by omega))
  split at h
  ·rename_i ah
   have am:=UInt8.lt_iff_toNat_lt.1 ah
   have e128:(128:UInt8).toNat=128:=rfl
   cases h
   unfold digB
   rw[show(n*128+c.toNat % 128) / 128=n by omega,show(n*128+c.toNat % 128) % 128=c.toNat by omega,H3,List.append_assoc]
   rfl
  ·rename_i aq
   have e128:(128:UInt8).toNat=128:=rfl
   have ap:128<=c.toNat:=by
    have:=mt UInt8.lt_iff_toNat_lt.2 aq
    omega
   have:=Nv k (n*128+c.toNat % 128) t m r (j+1) h (by omega) (by rw[Nat.pow_succ];omega) (by omega)
   rw[Qf (by omega) (by omega) h9,show 128+c.toNat % 128=c.toNat by omega,H3,List.append_assoc]at this
   exact this
theorem Qi{s:List UInt8}{m:Nat}{r:List UInt8}(h:grpB 6 true 0 s=some (m,r)):s=digB m++r:=by
 cases s with
 |nil=>rw[grpB]at h;cases h
 | cons c t =>
  rw[grpB]at h
  have hc:=UInt8.toNat_lt c
  have e128:(128:UInt8).toNat=128:=rfl
  split at h
  ·cases h
  ·rename_i hz
   have hne:c≠128:=fun e=>hz (by rw[e];rfl)
   split at h
   ·rename_i ah
    have am:=UInt8.lt_iff_toNat_lt.1 ah
    cases h
    unfold digB
    rw[show(0*128+c.toNat % 128) / 128=0 by omega,show(0*128+c.toNat % 128) % 128=c.toNat by omega,H3]
    rfl
   ·rename_i aq
    have ap:128<=c.toNat:=by
     have:=mt UInt8.lt_iff_toNat_lt.2 aq
     omega
    have aG:c.toNat≠128:=fun e=>hne (UInt8.toNat_inj.1 (by rw[e,e128]))
    have:=Nv 5 (0*128+c.toNat % 128) t m r 1 h (by omega) (by omega) (by omega)
    rw[Qf (by omega) (by omega) (by omega),show 128+c.toNat % 128=c.toNat by omega,H3]at this
    exact this
theorem EP(s:List UInt8)(x:Int)(r:List UInt8)(h:grpI s=some (x,r)):s=digB x.toNat++r:=by
 unfold grpI at h
 split at h
 ·cases h
 ·rename_i n t e
  cases h
  rw[Int.toNat_natCast]
  exact Qi e
theorem Og(s:List UInt8)(x:CIns)(r:List UInt8)(h:DH s=some (x,r)):s=insB x++r:=by
 unfold DH at h
 split at h
 ·cases h
 ·rename_i c t
  split at h
  ·rename_i hh
   split at h
   ·cases h
   ·rename_i n u e
    cases h
    unfold insB
    simp only[hh,if_true,Int.toNat_natCast,H3]
    have hb:=EP _ _ _ e
    have hn:0<=n:=by
     unfold grpI at e
     split at e
     ·cases e
     ·cases e;omega
    have:Dh (CB n)=n.toNat:=by
     have:=MH n.toNat
     rwa [show((n.toNat:Nat):Int)=n by omega]at this
    rw[this,List.cons_append,<-hb]
  ·rename_i hh
   cases h
   unfold insB
   simp only[Int.toNat_natCast,H3]
   rw[if_neg hh]
   rfl
theorem P0 {s:List UInt8} {c:CProg} (h:DI s=some c):AM c=true/\BD c=s:=by
 unfold DI at h
 split at h
 ·cases h
 ·rename_i h0
  have aa:KN s=true:=by cases e:KN s with
   |true=>rfl
   |false=>exact absurd (.inr e) h0
  split at h
  ·cases h
  ·rename_i c0 b hd
   split at h
   ·rename_i ax
    unfold Kc at h
    split at h
    ·cases h
    ·rename_i n b1 e1
     split at h
     ·cases h
     ·rename_i starts b2 e2
      split at h
      ·cases h
      ·rename_i main b3 e3
       split at h
       ·cases h
       ·rename_i k b4 e4
        split at h
        ·cases h
        ·rename_i ins b5 e5
         split at h
         ·rename_i hp
          cases h
          refine⟨hp.2,?_⟩
          obtain⟨l1,s1⟩:=HI (g:=fun n:Int=>digB n.toNat) EP _ _ _ _ e2
          obtain⟨l2,s2⟩:=HI (g:=insB) Og _ _ _ _ e5
          have r1:=EP _ _ _ e1
          have r3:=EP _ _ _ e3
          have r4:=EP _ _ _ e4
          have ak:rawB ⟨ins,starts,main⟩=s.dropLast:=by
           rw[hd,ax,r1,s1,r3,r4,s2,hp.1]
           unfold rawB
           simp only[List.append_nil,l1,l2]
          have hs:s.dropLast++[sumB s.dropLast 0]=s:=by
           unfold KN at aa
           split at aa
           ·cases aa
           ·rename_i x hx
            simp only[decide_eq_true_eq]at aa
            rw[aa]
            obtain⟨ys,rfl⟩:=List.getLast?_eq_some_iff.1 hx
            rw[List.dropLast_concat]
          unfold BD
          rw[ak,hs]
         ·cases h
   ·cases h
def wordsC:List Str:=[[105,110,116],[110,111,110,101],[110,97,109,101],[110,101,119],[115,108,111,116],[116,117,114,110],[111,117,116],[115,101,116],[97,100,100],[115,117,98],[109,117,108],[108,101,115,115],[115,97,109,101],[108,101,116],[100,114,111,112],[112,111,112],[122,101,114,111],[106,117,109,112],[99,97,108,108],[110,101,120,116],[101,110,100]]
def SN(op:Int):Str:=(wordsC[(op-1).toNat]?).getD []
def Fp(x:CIns):Str:=SN x.op++(if hasA x.op then 32::Lib.itoa x.a else [])
def Ot(c:CProg):Str:=listB (fun n=>Lib.itoa n++[32]) c.starts++58::32::Lib.itoa c.main
def KM(c:CProg):Str:=listB (fun l=>l++[10]) (Ot c::c.ins.map Fp)
theorem D6: ∀(k u:Nat),u<10 ^ (k+1)->(Lib.decDigits u).length<=k+1
 |0,u,h=>by rw[Lib.decDigits,dif_pos (by omega)];simp
 | k+1,u,h=>by
  rw[Lib.decDigits]
  split
  ·simp
  ·have:=D6 k (u / 10) (Nat.div_lt_of_lt_mul (by rw[Nat.pow_succ]at h;omega))
   rw[List.length_append,List.length_singleton];omega
theorem Ko{n:Int}(h:farN n=true):(Lib.itoa n).length<=10:=by
 unfold farN at h
 simp only[decide_eq_true_eq]at h
 unfold Lib.itoa
 rw[if_neg (by omega)]
 exact D6 9 _ (by omega)
theorem Qc{n:Int}(h : -1000000000<=n/\n<=1000000000):(Lib.itoa n).length<=11:=by
 unfold Lib.itoa
 split
 ·have:=D6 9 n.natAbs (by omega)
  rw[List.length_cons];omega
 ·have:=D6 9 n.toNat (by omega)
  omega
theorem Gc{α}{f:α->List UInt8}{m:Nat}: ∀(l:List α),(∀x∈l,(f x).length<=m)->(listB f l).length<=m*l.length
 |[],_=>by rw[listB];simp
 |x::r,h=>by
  have h1:=h x List.mem_cons_self
  have h2:=Gc r fun y hy=>h y (List.mem_cons_of_mem _ hy)
  rw[listB,List.length_append,List.length_cons,Nat.mul_succ];omega
theorem P7: ∀k:Nat,k<21->((wordsC[k]?).getD []).length<=4/\(k=0->((wordsC[k]?).getD []).length=3):=by decide
theorem Nm{x:CIns}(h:Cq x=true):(Fp x).length<=15:=by
 unfold Cq at h
 rw[Bool.and_eq_true]at h
 obtain⟨h1,h2⟩:=h
 simp only[decide_eq_true_eq]at h1
 obtain⟨w1,w2⟩:=P7 (x.op-1).toNat (by omega)
 unfold Fp SN
 rw[List.length_append]
 cases e:hasA x.op with
 |false=>rw[if_neg (by simp),List.length_nil];omega
 | true =>
  rw[e,if_pos rfl]at h2
  rw[if_pos rfl,List.length_cons]
  split at h2
  ·rename_i e1
   have:=w2 (by omega)
   unfold inB at h2
   have:=Qc (n:=x.a) (by simpa[Bool.and_eq_true,decide_eq_true_eq] using h2)
   omega
  ·have:=Ko h2
   omega
theorem ST{c:CProg}(h:AM c=true):(KM c).length<=5000:=by
 unfold AM at h
 simp only[Bool.and_eq_true,decide_eq_true_eq,List.all_eq_true]at h
 obtain⟨h1,h2,h3,h4,h5⟩:=h
 have a:=Gc (f:=fun n=>Lib.itoa n++[32]) (m:=11) c.starts fun n hn=>by
  have:=Ko (h4 n hn)
  rw[List.length_append,List.length_singleton];omega
 have b:=Gc (f:=fun l:Str=>l++[(10:UInt8)]) (m:=16) (c.ins.map Fp) fun l hl=>by
  obtain⟨x,hx,rfl⟩:=List.mem_map.1 hl
  have:=Nm (h5 x hx)
  rw[List.length_append,List.length_singleton];omega
 have d:=Ko h3
 rw[List.length_map]at b
 unfold KM Ot
 rw[listB,List.length_append,List.length_append,List.length_append,List.length_cons,List.length_cons,List.length_singleton]
 omega
theorem GA{n:Nat}(h:n<128 ^ 5):(digB n).length<=5:=by
 unfold digB
 rw[List.length_append,List.length_singleton,Kq 4 (n / 128) (Nat.div_lt_of_lt_mul (by omega)) 10 (by omega)]
 have:=Qg 4 (n / 128)
 omega
theorem IH{c:CProg}(h:AM c=true):(BD c).length<=5000:=by
 unfold AM at h
 simp only[Bool.and_eq_true,decide_eq_true_eq,List.all_eq_true]at h
 obtain⟨h1,h2,h3,h4,h5⟩:=h
 have far:∀n:Int,farN n=true->(digB n.toNat).length<=5:=fun n hn=>by
  unfold farN at hn
  simp only[decide_eq_true_eq]at hn
  exact GA (by omega)
 have a:=Gc (f:=fun n:Int=>digB n.toNat) (m:=5) c.starts fun n hn=>far n (h4 n hn)
 have b:=Gc (f:=insB) (m:=6) c.ins fun x hx=>by
  have hp:=h5 x hx
  unfold Cq at hp
  rw[Bool.and_eq_true]at hp
  unfold insB
  rw[List.length_cons]
  split
  ·rename_i e
   have ac:=hp.2
   rw[if_pos e]at ac
   have : -1000000000<=x.a/\x.a<=1000000000:=by
    split at ac
    ·unfold inB at ac
     simpa[Bool.and_eq_true,decide_eq_true_eq] using ac
    ·unfold farN at ac
     simp only[decide_eq_true_eq]at ac
     omega
   have:=GA (n:=Dh x.a) (by unfold Dh;split<;>omega)
   omega
  ·simp
 have d1:=far _ h3
 have d2:=GA (n:=c.starts.length) (by omega)
 have d3:=GA (n:=c.ins.length) (by omega)
 unfold BD rawB
 rw[List.length_append,List.length_cons,List.length_append,List.length_append,List.length_append,List.length_append,List.length_singleton]
 omega
theorem KY(s:Str)(c:CProg):DI s=some c ↔ AM c=true/\BD c=s:=
 ⟨P0,fun h=>by rw[<-h.2];exact Of h.1⟩
theorem read_by{f:Str->Option CProg}{g:CProg->Str}(hf:∀s c,f s=some c ↔ AM c=true/\g c=s)(find:Str->CProg)(ai:∀c,AM c=true->find (g c)=c)(s:Str):
  f s=if AM (find s)=true/\g (find s)=s then some (find s) else none:=by
 by_cases h:AM (find s)=true/\g (find s)=s
 ·rw[if_pos h];exact(hf _ _).2 h
 ·rw[if_neg h]
  cases e:f s with
  |none=>rfl
  |some c=>
   obtain⟨h1,h2⟩:=(hf _ _).1 e
   have:=ai c h1
   rw[h2]at this
   rw[this]at h
   exact absurd ⟨h1,h2⟩ h
def fitL(p:BProg)(N:Nat)(q:Nat)(l:List CIns):Prop:= ∀(i:Nat) (x:CIns),l[i]? = some x->fitsC p N (q+i) x=true
section
variable {p:BProg}{N:Nat}
theorem fit_nil(q:Nat):fitL p N q []:=fun i x h=>by simp at h
theorem TJ{q r:Nat}{x:CIns}{m:List CIns}(h:fitsC p N q x=true)(hr:r=q+1)(k:fitL p N r m):fitL p N q (x::m):=fun i y hy=>by
 cases i with
 |zero=>simp only[List.getElem?_cons_zero,Option.some.injEq]at hy;rw[<-hy];exact h
 |succ i=>
  rw[List.getElem?_cons_succ]at hy
  have:=k i y hy
  rw[hr,show q+1+i=q+(i+1) by omega]at this
  exact this
end
def F4(p:BProg)(N:Nat):List CIns->Nat->Bool
 |[],_=>true
 |x::r,q=>fitsC p N q x&&F4 p N r (q+1)
theorem Fl{p:BProg}{N:Nat}: ∀(l:List CIns) (q:Nat),F4 p N l q=true ↔ fitL p N q l
 |[],q=>by rw[F4];exact⟨fun _=>fit_nil q,fun _=>rfl⟩
 | x::r,q=>by
  rw[F4,Bool.and_eq_true,Fl r]
  constructor
  ·rintro⟨a,b⟩;exact TJ a rfl b
  ·intro h
   refine⟨by have:=h 0 x rfl;rwa [Nat.add_zero]at this,fun i y hy=>?_⟩
   have:=h (i+1) y (by rw[List.getElem?_cons_succ];exact hy)
   rw[show q+1+i=q+(i+1) by omega]
   exact this
def Ei(p:BProg)(c:CProg):Option (List CLev):=
 if okP p&&(decide (c.ins.length<=300)&&(decide (c.starts.length=p.methods.length)&&F4 p c.ins.length c.ins 0)) then Gb p c (stsP p c) else none
theorem reach_at{N:Nat}{met m:Met}{n:Int}{l:CLev}(h:BI N met n l=some m)(j:Nat):m j=met j\/((j:Int)=n/\m j=some l):=by
 unfold BI at h
 split at h
 ·cases h
 ·cases h
  unfold updM
  by_cases e:j=n.toNat
  ·rw[if_pos e];exact .inr ⟨by omega,rfl⟩
  ·rw[if_neg e];exact .inl rfl
section
variable {p:BProg}{c:CProg}{env:Int}{next:Bool}
theorem K5 {q:Nat} {x:CIns} {l:CLev} {met m:Met} (h:Ed p c env next q x l met=some m) (hj:x.op=17\/x.op=18->(q:Int) < x.a) (j:Nat):m j=met j\/(q < j /\ ∃ l',m j=some l'/\l'.env<=l.env+1):=by
 unfold Ed at h
 split at h
 ·cases h
 ·split at h
  ·split at h
   ·cases h;exact .inl rfl
   ·cases h
  ·split at h
   ·rcases reach_at h j with e|⟨e,e2⟩
    ·exact .inl e
    ·exact .inr ⟨by omega,_,e2,by simp only;omega⟩
   ·split at h
    ·rcases reach_at h j with e|⟨e,e2⟩
     ·exact .inl e
     ·exact .inr ⟨by omega,_,e2,by simp only;omega⟩
    ·split at h
     ·rename_i aK
      have:=hj (.inr aK)
      rcases reach_at h j with e|⟨e,e2⟩
      ·exact .inl e
      ·exact .inr ⟨by omega,_,e2,by simp only;omega⟩
     ·split at h
      ·rename_i aL
       have:=hj (.inl aL)
       split at h
       ·cases h
       ·rename_i e0
        rcases reach_at h j with e|⟨e,e2⟩
        ·rcases reach_at e0 j with e1|⟨e1,e2⟩
         ·exact .inl (e.trans e1)
         ·exact .inr ⟨by omega,_,e.trans e2,by simp only;omega⟩
        ·exact .inr ⟨by omega,_,e2,by simp only;omega⟩
      ·rcases reach_at h j with e|⟨e,e2⟩
       ·exact .inl e
       ·exact .inr ⟨by omega,_,e2,by simp only;omega⟩
theorem Pk{q:Nat}{x:CIns}{l:CLev}{met m:Met}(h:Ed p c env next q x l met=some m)(h3:x.op=3):x.a<l.env:=by
 unfold Ed at h
 split at h
 ·cases h
 ·omega
def AC(c:CProg)(q:Nat):CIns:=(c.ins[q]?).getD ⟨0,0⟩
theorem Dv(hf:∀q:Nat,(AC c q).op=17\/(AC c q).op=18->(q:Int)<(AC c q).a): ∀(f q:Nat) (met m:Met),Dl p c env next f q met=some m->∀j,j<q->m j=met j
 |0,_,_,_,h,_,_=>by cases h;rfl
 | f+1,q,met,m,h,j,hj=>by
  rw[Dl]at h
  split at h
  ·exact Dv hf f _ _ _ h j (by omega)
  ·split at h
   ·cases h
   ·rename_i e
    rw[Dv hf f _ _ _ h j (by omega)]
    rcases K5 e (hf q) j with e2|⟨e2,_⟩
    ·exact e2
    ·omega
theorem HQ(hf:∀q:Nat,(AC c q).op=17\/(AC c q).op=18->(q:Int)<(AC c q).a)(e0:Int): ∀(f q:Nat) (met m:Met),Dl p c env next f q met=some m->(∀j l,met j=some l->l.env<=e0+j)->
  ∀j l,q<=j->j<q+f->m j=some l->(AC c j).op=3->(AC c j).a<e0+j
 |0,_,_,_,_,_,_,_,_,_,_,_=>by omega
 | f+1,q,met,m,h,hE,j,l,h1,h2,hm,h3=>by
  rw[Dl]at h
  split at h
  ·rename_i hq
   by_cases hj:j=q
   ·subst hj
    rw[Dv hf f _ _ _ h j (by omega),hq]at hm
    cases hm
   ·exact HQ hf e0 f _ _ _ h hE j l (by omega) (by omega) hm h3
  ·rename_i l0 hq
   split at h
   ·cases h
   ·rename_i m0 e
    by_cases hj:j=q
    ·subst hj
     have:=Pk e h3
     have:=hE j l0 hq
     unfold AC
     omega
    ·refine HQ hf e0 f _ _ _ h (fun i l' hi=>?_) j l (by omega) (by omega) hm h3
     rcases K5 e (hf q) i with e2|⟨e2,l2,e3,e4⟩
     ·rw[e2]at hi;exact hE i l' hi
     ·rw[e3]at hi;cases hi
      have:=hE q l0 hq
      omega
theorem SP(hf:∀q:Nat,(AC c q).op=17\/(AC c q).op=18->(q:Int)<(AC c q).a){s:CSt}{w:Met}(h:wayM p c s=some w)(h0:s.env<=3){j:Nat}{l:CLev}(hl:w j=some l)(h3:(AC c j).op=3):(AC c j).a<3+j:=by
 have hd:=Me h
 unfold wayM at h
 split at h
 ·cases h
 ·have hj:j<c.ins.length:=Classical.byContradiction fun hn=>by rw[hd j (by omega)]at hl;cases hl
  by_cases hq:s.pos.toNat<=j
  ·refine HQ hf 3 _ _ _ _ h (fun i l' hi=>?_) j l hq (by omega) hl h3
   unfold updM at hi
   split at hi
   ·cases hi;simp only;omega
   ·cases hi
  ·rw[Dv hf _ _ _ _ h j (by omega)]at hl
   unfold updM at hl
   rw[if_neg (by omega)]at hl
   cases hl
end
def fitsQ(p:BProg)(N:Nat)(q:Nat)(x:CIns):Bool:=
 if x.op=1 then inB x.a else if x.op=3 then decide (0<=x.a/\x.a<=123+N) else if x.op=4\/x.op=6 then decide (3<=x.a/\x.a<3+p.classes.length) else if x.op=5\/x.op=8 then decide (0<=x.a/\x.a<p.slots) else
 if x.op=17\/x.op=18 then decide ((q:Int)<x.a/\x.a<N) else if x.op=19 then decide (0<=x.a/\x.a<p.gens.length) else decide (1<=x.op/\x.op<=21/\x.a=0)
def BZ(p:BProg)(N:Nat):List CIns->Nat->Bool
 |[],_=>true
 |x::r,q=>fitsQ p N q x&&BZ p N r (q+1)
theorem TH{p:BProg}{N q:Nat}{x:CIns}(h:fitsC p N q x=true)(h3:x.op=3->x.a<=123+N):fitsQ p N q x=true:=by
 unfold fitsC at h;unfold fitsQ
 by_cases e:x.op=3
 ·rw[if_neg (by omega),if_pos e]at h⊢
  simp only[decide_eq_true_eq]at h⊢
  exact⟨h,h3 e⟩
 ·rw[if_neg e]at h⊢
  exact h
theorem TI{p:BProg}{N q:Nat}{x:CIns}(h:fitsQ p N q x=true):fitsC p N q x=true:=by
 unfold fitsQ at h;unfold fitsC
 by_cases e:x.op=3
 ·rw[if_neg (by omega),if_pos e]at h⊢
  simp only[decide_eq_true_eq]at h⊢
  exact h.1
 ·rw[if_neg e]at h⊢
  exact h
theorem M9{p:BProg}{N:Nat}: ∀(l:List CIns) (q:Nat),BZ p N l q=true->F4 p N l q=true
 |[],_,_=>rfl
 |x::r,q,h=>by
  rw[BZ,Bool.and_eq_true]at h
  rw[F4,TI h.1,M9 r _ h.2];rfl
theorem JS{p:BProg}{N:Nat}: ∀(l:List CIns) (q:Nat),F4 p N l q=true->(∀(i:Nat) (x:CIns),l[i]? = some x->x.op=3->x.a<=123+N)->BZ p N l q=true
 |[],_,_,_=>rfl
 |x::r,q,h,hn=>by
  rw[F4,Bool.and_eq_true]at h
  rw[BZ,TH h.1 (hn 0 x rfl),JS r _ h.2 fun i y hy=>hn (i+1) y (by rw[List.getElem?_cons_succ];exact hy)];rfl
def stsQ(p:BProg)(c:CProg):List CSt:=⟨c.main,0,false⟩::List.zipWith (Dx p) p.methods c.starts
def Kl(p:BProg)(c:CProg):Option (List CLev):=
 if okP p&&(decide (c.ins.length<=300)&&(decide (c.starts.length=p.methods.length)&&BZ p c.ins.length c.ins 0)) then Gb p c (stsQ p c) else none
theorem Q7 (p:BProg) (c:CProg):Kl p c=Ei p c:=by
 unfold Kl Ei
 have hs:Gb p c (stsQ p c)=Gb p c (stsP p c):=Oo fun s=>by unfold stsQ stsP;rw[List.mem_cons,List.mem_append,List.mem_singleton,or_comm]
 rw[hs]
 by_cases ag:okP p=true
 ·by_cases h1:c.ins.length<=300
  ·by_cases h2:c.starts.length=p.methods.length
   ·rw [ag,decide_eq_true h1,decide_eq_true h2,Bool.true_and,Bool.true_and,Bool.true_and,Bool.true_and]
    cases hq:BZ p c.ins.length c.ins 0 with
    |true=>rw[M9 _ _ hq];rfl
    | false =>
     cases hf:F4 p c.ins.length c.ins 0 with
     |false=>rfl
     | true =>
      rw[if_neg (by simp)]
      change none=Gb p c (stsP p c)
      cases hl:Gb p c (stsP p c)with
      |none=>rfl
      | some lv =>
       exfalso
       have ay:=hq
       rw[JS _ _ hf]at ay
       ·cases ay
       intro i x hx h3
       have hi:i<c.ins.length:=(List.getElem?_eq_some_iff.1 hx).1
       have ha:∀q,AC c q=((c.ins[q]?).getD ⟨0,0⟩):=fun _=>rfl
       have ar:∀q:Nat,(AC c q).op=17\/(AC c q).op=18->(q:Int)<(AC c q).a:=fun q ae=>by
        rw[ha]at ae⊢
        cases hc:c.ins[q]? with
        |none=>rw[hc]at ae;simp at ae
        |some y=>
         rw[hc]at ae
         simp only[Option.getD_some]at ae⊢
         have:=(Fl _ _).1 hf q y hc
         unfold fitsC at this
         rw[if_neg (by omega),if_neg (by omega),if_neg (by omega),if_neg (by omega),if_pos ae]at this
         simp only[decide_eq_true_eq]at this
         omega
       unfold Gb at hl
       cases hL:Fo p c (stsP p c) (fun _=>none)with
       |none=>rw[hL]at hl;cases hl
       | some W =>
        rw[hL]at hl
        simp only at hl
        split at hl
        ·rename_i aw
         have:=List.all_eq_true.1 aw i (List.mem_range.2 hi)
         obtain⟨l,hW⟩:=Option.isSome_iff_exists.1 this
         rcases((Fc _ _ _).1 hL).2.2 i l hW with h|⟨s,hs,w,hw,aD⟩
         ·cases h
         ·have au:s.env<=3:=by
           unfold stsP at hs
           rcases List.mem_append.1 hs with hs|hs
           ·rw[<-List.map_uncurry_zip_eq_zipWith]at hs
            obtain⟨⟨m,n⟩,_,rfl⟩:=List.mem_map.1 hs
            exact(GX ag m.gen.toNat).2
           ·rw[List.mem_singleton]at hs;rw[hs];simp
          have e:AC c i=x:=by rw[ha,hx];rfl
          have:=SP ar hw au aD (by rw[e];exact h3)
          rw[e]at this
          omega
        ·cases hl
   ·rw[ag,decide_eq_true h1,decide_eq_false h2];rfl
  ·rw[ag,decide_eq_false h1];rfl
 ·rw[Bool.not_eq_true]at ag
  rw[ag];rfl
def Fz {S:Type} (p:BProg) (c:CProg) (env:Int) (next:Bool) (step:Nat->CLev->S->Option S):Nat->Nat->Met->S->Option S
 |0,_,_,s=>some s
 | f+1,q,met,s=>match met q with
  |none=>Fz p c env next step f (q+1) met s
  | some l=>match Ed p c env next q (AC c q) l met with
   |none=>none
   |some m=>match step q l s with
    |none=>none
    |some s'=>Fz p c env next step f (q+1) m s'
def Bz{S:Type}(p:BProg)(c:CProg)(x:CSt)(step:Nat->CLev->S->Option S)(s:S):Option S:=
 if x.pos<0\/(c.ins.length:Int)<=x.pos then none else Fz p c x.env x.next step (c.ins.length-x.pos.toNat) x.pos.toNat (updM (fun _=>none) x.pos.toNat ⟨0,x.env⟩) s
def ME(k:Nat)(l:CLev)(W:Met):Option Met:=if W k≠none/\W k≠some l then none else some (updM W k l)
open Classical in
noncomputable def mrgF(q N:Nat)(W w:Met):Option Met:=
 if ∀k,q<=k->k<N->W k=none\/w k=none\/W k=w k then some (fun k=>if q<=k/\k<N then(match w k with|none=>W k|some x=>some x) else W k) else none
section
variable {p:BProg}{c:CProg}{env:Int}{next:Bool}
theorem N4 (hf : ∀ q:Nat,(AC c q).op=17\/(AC c q).op=18->(q:Int) < (AC c q).a) : ∀ (f q:Nat) (met W:Met),Fz p c env next ME f q met W=match Dl p c env next f q met with
  |none=>none
  |some w=>mrgF q (q+f) W w
 |0,q,met,W=>by
  rw[Fz,Dl]
  simp only[mrgF]
  rw[if_pos (fun k h1 h2=>by omega)]
  congr 1;funext k;rw[if_neg (by omega)]
 | f+1,q,met,W=>by
  rw[Fz,Dl]
  have ih:=N4 hf f (q+1)
  cases hq:met q with
  | none =>
   simp only
   rw[ih]
   cases hs:Dl p c env next f (q+1) met with
   |none=>rfl
   | some w =>
    have hw:w q=none:=by rw[Dv hf f (q+1) met w hs q (by omega),hq]
    rw[show q+1+f=q+(f+1) by omega]
    simp only[mrgF]
    have e:(∀k,q+1<=k->k<q+(f+1)->W k=none\/w k=none\/W k=w k) ↔ (∀k,q<=k->k<q+(f+1)->W k=none\/w k=none\/W k=w k):=
     ⟨fun h k h1 h2=>Decidable.byCases (fun e:k=q=>by subst e;exact .inr (.inl hw)) fun e=>h k (by omega) h2,fun h k h1 h2=>h k (by omega) h2⟩
    by_cases hc:∀k,q<=k->k<q+(f+1)->W k=none\/w k=none\/W k=w k
    ·rw[if_pos (e.2 hc),if_pos hc]
     congr 1;funext k
     by_cases hk:k=q
     ·subst hk;rw[if_neg (by omega),if_pos (by omega),hw]
     ·by_cases h:q<=k/\k<q+(f+1)
      ·rw[if_pos h,if_pos (by omega)]
      ·rw[if_neg h,if_neg (by omega)]
    ·rw[if_neg hc,if_neg (fun h=>hc (e.1 h))]
  | some l =>
   simp only
   have hi:(c.ins[q]?).getD ⟨0,0⟩=AC c q:=rfl
   rw[hi]
   cases aE:Ed p c env next q (AC c q) l met with
   |none=>rfl
   | some m =>
    simp only
    have aB:m q=some l:=by
     rcases K5 aE (hf q) q with h|⟨h,_⟩
     ·rw[h,hq]
     ·omega
    cases hg:ME q l W with
    | none =>
     simp only
     cases hs:Dl p c env next f (q+1) m with
     |none=>rfl
     | some w =>
      have hw:w q=some l:=by rw[Dv hf f (q+1) m w hs q (by omega),aB]
      unfold ME at hg
      split at hg
      ·rename_i hc
       simp only[mrgF]
       rw[if_neg]
       intro h
       rcases h q (by omega) (by omega)with h|h|h
       ·exact hc.1 h
       ·rw[hw]at h;cases h
       ·rw[hw]at h;exact hc.2 h
      ·cases hg
    | some V =>
     simp only
     rw[ih]
     cases hs:Dl p c env next f (q+1) m with
     |none=>rfl
     | some w =>
      have hw:w q=some l:=by rw[Dv hf f (q+1) m w hs q (by omega),aB]
      unfold ME at hg
      split at hg
      ·cases hg
      ·rename_i hc
       cases hg
       have aJ:W q=none\/W q=some l:=by
        cases h:W q with
        |none=>exact .inl rfl
        |some y=>right;exact Classical.byContradiction fun h2=>hc ⟨by rw[h];simp,by rw[h];exact h2⟩
       rw[show q+1+f=q+(f+1) by omega]
       simp only[mrgF]
       have hu:∀k,k≠q->updM W q l k=W k:=fun k hk=>by unfold updM;rw[if_neg hk]
       have e:(∀k,q+1<=k->k<q+(f+1)->updM W q l k=none\/w k=none\/updM W q l k=w k) ↔ (∀k,q<=k->k<q+(f+1)->W k=none\/w k=none\/W k=w k):=
        ⟨fun h k h1 h2=>by
         by_cases e:k=q
         ·subst e;rw[hw];rcases aJ with h|h
          ·exact .inl h
          ·exact .inr (.inr h)
         ·have:=h k (by omega) h2;rwa [hu k e]at this,fun h k h1 h2=>by rw[hu k (by omega)];exact h k (by omega) h2⟩
       by_cases aj:∀k,q<=k->k<q+(f+1)->W k=none\/w k=none\/W k=w k
       ·rw[if_pos (e.2 aj),if_pos aj]
        congr 1;funext k
        by_cases hk:k=q
        ·subst hk;rw[if_neg (by omega),if_pos (by omega),hw];unfold updM;rw[if_pos rfl]
        ·rw[hu k hk]
         by_cases h:q<=k/\k<q+(f+1)
         ·rw[if_pos h,if_pos (by omega)]
         ·rw[if_neg h,if_neg (by omega)]
       ·rw[if_neg aj,if_neg (fun h=>aj (e.1 h))]
theorem F9{N:Nat}{met m:Met}{n:Int}{l:CLev}(h:BI N met n l=some m)(hm:∀j,N<=j->met j=none): ∀j,N<=j->m j=none:=fun j hj=>by
 rcases reach_at h j with e|⟨e,_⟩
 ·rw[e];exact hm j hj
 ·unfold BI at h
  split at h
  ·cases h
  ·rename_i hc;exfalso;omega
theorem step_hi {q:Nat} {x:CIns} {l:CLev} {met m:Met} (h:Ed p c env next q x l met=some m) (hm : ∀ j,c.ins.length<=j->met j=none) : ∀ j,c.ins.length<=j->m j=none:=by
 unfold Ed at h
 split at h
 ·cases h
 ·split at h
  ·split at h
   ·cases h;exact hm
   ·cases h
  ·split at h
   ·exact F9 h hm
   ·split at h
    ·exact F9 h hm
    ·split at h
     ·exact F9 h hm
     ·split at h
      ·split at h
       ·cases h
       ·rename_i m1 h1
        exact F9 h (F9 h1 hm)
      ·exact F9 h hm
theorem Mn: ∀(f q:Nat) (met m:Met),Dl p c env next f q met=some m->(∀j,c.ins.length<=j->met j=none)->∀j,c.ins.length<=j->m j=none
 |0,_,_,_,h,hm=>by cases h;exact hm
 | f+1,q,met,m,h,hm=>by
  rw[Dl]at h
  split at h
  ·exact Mn f _ _ _ h hm
  ·split at h
   ·cases h
   ·rename_i m1 h1
    exact Mn f _ _ _ h (step_hi h1 hm)
theorem SS(hf:∀q:Nat,(AC c q).op=17\/(AC c q).op=18->(q:Int)<(AC c q).a)(x:CSt)(W:Met):Bz p c x ME W=match wayM p c x with
  |none=>none
  |some w=>mrgM c.ins.length W w:=by
 unfold Bz wayM
 split
 ·rfl
 ·rename_i hx
  rw[N4 hf]
  cases hs:Dl p c x.env x.next (c.ins.length-x.pos.toNat) x.pos.toNat (updM (fun _=>none) x.pos.toNat ⟨0,x.env⟩)with
  |none=>rfl
  | some w =>
   simp only
   have aC:∀k,k<x.pos.toNat->w k=none:=fun k hk=>by rw[Dv hf _ _ _ _ hs k hk];unfold updM;rw[if_neg (by omega)]
   have aI:∀k,c.ins.length<=k->w k=none:=Mn _ _ _ _ hs fun j hj=>by unfold updM;rw[if_neg (by omega)]
   rw[show x.pos.toNat+(c.ins.length-x.pos.toNat)=c.ins.length by omega]
   unfold mrgF mrgM
   have e:(∀k,x.pos.toNat<=k->k<c.ins.length->W k=none\/w k=none\/W k=w k) ↔ ((List.range c.ins.length).all (fun k=>W k=none||w k=none||W k=w k)=true):=by
    rw[List.all_eq_true]
    constructor
    ·intro h k hk
     simp only[Bool.or_eq_true,decide_eq_true_eq]
     by_cases h1:x.pos.toNat<=k
     ·rcases h k h1 (by simpa using hk)with h|h|h
      ·exact .inl (.inl h)
      ·exact .inl (.inr h)
      ·exact .inr h
     ·exact .inl (.inr (aC k (by omega)))
    ·intro h k _ h2
     have:=h k (by simpa using h2)
     simp only[Bool.or_eq_true,decide_eq_true_eq]at this
     rcases this with(h|h)|h
     ·exact .inl h
     ·exact .inr (.inl h)
     ·exact .inr (.inr h)
   by_cases hc:∀k,x.pos.toNat<=k->k<c.ins.length->W k=none\/w k=none\/W k=w k
   ·rw[if_pos hc,if_pos (e.1 hc)]
    congr 1;funext k
    split
    ·rfl
    ·have:w k=none:=by
      by_cases h:k<x.pos.toNat
      ·exact aC k h
      ·exact aI k (by omega)
     rw[this]
   ·rw[if_neg hc,if_neg (fun h=>hc (e.2 h))]
end
abbrev MetL:=List (Int×CLev)
def metOf(m:MetL):Met:=fun j=>if hasM (j:Int) m then some (getM ⟨0,0⟩ (j:Int) m) else none
theorem Q0:metOf []=fun _=>none:=rfl
theorem CO(m:MetL)(n:Nat)(l:CLev):metOf (putM (n:Int) l m)=updM (metOf m) n l:=by
 funext j
 unfold metOf updM
 rw[Gf,Em]
 by_cases e:j=n
 ·subst e;simp
 ·have e':¬((j:Int)=n):=fun h=>e (by omega)
  simp[e,e']
def ES(k:Nat)(l:CLev)(W:MetL):Option MetL:=if hasM (k:Int) W=true/\getM ⟨0,0⟩ (k:Int) W≠l then none else some (putM (k:Int) l W)
theorem TD(k:Nat)(l:CLev)(W:MetL):ME k l (metOf W)=(ES k l W).map metOf:=by
 unfold ME ES metOf
 cases h:hasM (k:Int) W with
 |false=>simp only[Bool.false_eq_true,if_false,false_and];rw[if_neg (by simp)];show _=some (metOf _);rw[CO];rfl
 |true=>
  simp only[if_true,true_and]
  by_cases e:getM ⟨0,0⟩ (k:Int) W=l
  ·rw[if_neg (fun h=>h.2 (by rw[e])),if_neg (fun h=>h e)];show _=some (metOf _);rw[CO];rfl
  ·rw[if_pos ⟨by simp,by simpa using e⟩,if_pos e];rfl
theorem Hz{S T:Type}{p:BProg}{c:CProg}{env:Int}{next:Bool}{f:S->T}{g:Nat->CLev->S->Option S}{h:Nat->CLev->T->Option T}(e:∀k l s,h k l (f s)=(g k l s).map f): ∀(n q:Nat) (met:Met) (s:S),Fz p c env next h n q met (f s)=(Fz p c env next g n q met s).map f
 |0,_,_,_=>rfl
 | n+1,q,met,s=>by
  rw[Fz,Fz]
  split
  ·exact Hz e n _ _ _
  ·split
   ·rfl
   ·rw[e]
    cases g q _ s with
    |none=>rfl
    |some s'=>exact Hz e n _ _ _
theorem O3{S T:Type}{p:BProg}{c:CProg}{x:CSt}{f:S->T}{g:Nat->CLev->S->Option S}{h:Nat->CLev->T->Option T}(e:∀k l s,h k l (f s)=(g k l s).map f)(s:S):Bz p c x h (f s)=(Bz p c x g s).map f:=by
 unfold Bz
 split
 ·rfl
 ·exact Hz e _ _ _ _
def allL(p:BProg)(c:CProg):List CSt->MetL->Option MetL
 |[],W=>some W
 |s::r,W=>match Bz p c s ES W with
  |none=>none
  |some V=>allL p c r V
theorem NV{p:BProg}{c:CProg}(hf:∀q:Nat,(AC c q).op=17\/(AC c q).op=18->(q:Int)<(AC c q).a): ∀(l:List CSt) (W:MetL),Fo p c l (metOf W)=(allL p c l W).map metOf
 |[],_=>rfl
 | s::r,W=>by
  rw[Fo,allL]
  have h:=SS (p:=p) hf s (metOf W)
  rw[O3 (f:=metOf) TD]at h
  cases hw:wayM p c s with
  |none=>
   rw[hw]at h
   simp only at h
   cases hl:Bz p c s ES W with
   |none=>rfl
   |some V=>rw[hl]at h;cases h
  |some w=>
   rw[hw]at h
   simp only at h⊢
   rw[<-h]
   cases hl:Bz p c s ES W with
   |none=>rfl
   |some V=>exact NV hf r V
def Gd(N:Nat)(W:MetL):Prop:=(W.map (·.1)).Nodup /\ ∀x∈W,0<=x.1/\x.1<N
theorem Gg(k:Int): ∀m:MetL,hasM k m=true ↔ k∈m.map (·.1)
 |[]=>by simp[hasM]
 |x::m=>by rw[hasM,List.map_cons,List.mem_cons,Bool.or_eq_true,decide_eq_true_eq,Gg k m]
theorem HU(k:Int)(l:CLev): ∀m:MetL,(putM k l m).map (·.1)=if hasM k m then m.map (·.1) else m.map (·.1)++[k]
 |[]=>by simp[putM,hasM]
 | x::m=>by
  rw[putM,hasM]
  by_cases e:k=x.1
  ·subst e;simp
  ·rw[if_neg e]
   have:decide (k=x.1)=false:=by simp[e]
   rw[this,Bool.false_or,List.map_cons,HU k l m]
   split<;>simp
theorem Ov{N:Nat}{W:MetL}(h:Gd N W){k:Nat}(hk:k<N)(l:CLev):Gd N (putM (k:Int) l W):=by
 have hm:∀x:Int,x∈(putM (k:Int) l W).map (·.1)->0<=x/\x<N:=fun x hx=>by
  rw[HU]at hx
  split at hx
  ·obtain⟨y,hy,rfl⟩:=List.mem_map.1 hx;exact h.2 y hy
  ·rcases List.mem_append.1 hx with hx|hx
   ·obtain⟨y,hy,rfl⟩:=List.mem_map.1 hx;exact h.2 y hy
   ·rw[List.mem_singleton]at hx;omega
 refine⟨?_,fun x hx=>hm x.1 (List.mem_map.2 ⟨x,hx,rfl⟩)⟩
 rw[HU]
 split
 ·exact h.1
 ·rename_i hn
  refine List.nodup_append.2 ⟨h.1,by simp,fun a ha b hb=>?_⟩
  rw[List.mem_singleton]at hb
  subst hb
  intro e;subst e
  exact hn ((Gg _ _).2 ha)
theorem L1: ∀(N:Nat) (l:List Int),l.Nodup->(∀x∈l,0<=x/\x<N)->l.length<=N/\(l.length=N ↔ ∀k:Nat,k<N->(k:Int)∈l)
 | 0,l,_,hl=>by
  have:l=[]:=by
   cases l with
   |nil=>rfl
   |cons x l=>have:=hl x (by simp);omega
  subst this;simp
 | N+1,l,hn,hl=>by
  have h1:=L1 N (l.erase (N:Int)) (hn.erase _) fun x hx=>by
   have h2:=(hn.mem_erase_iff).1 hx
   have:=hl x h2.2;have:=h2.1;omega
  have hm:∀k:Nat,k<N->((k:Int)∈l.erase (N:Int) ↔ (k:Int)∈l):=fun k hk=>by
   rw[hn.mem_erase_iff];exact⟨fun h=>h.2,fun h=>⟨by omega,h⟩⟩
  by_cases hN:(N:Int)∈l
  ·have hlen:=List.length_erase_of_mem hN
   have aF:0<l.length:=List.length_pos_of_mem hN
   refine⟨by omega,fun h k hk=>?_,fun h=>?_⟩
   ·by_cases e:k=N
    ·subst e;exact hN
    ·exact(hm k (by omega)).1 (h1.2.1 (by omega) k (by omega))
   ·have:=h1.2.2 fun k hk=>(hm k hk).2 (h k (by omega))
    omega
  ·rw[List.erase_of_not_mem hN]at h1
   exact⟨by omega,fun h=>by omega,fun h=>absurd (h N (by omega)) hN⟩
theorem Pb{N:Nat}{W:MetL}(h:Gd N W):(W.length=N) ↔ (List.range N).all (fun k=>(metOf W k).isSome)=true:=by
 have:=(L1 N (W.map (·.1)) h.1 fun x hx=>by obtain⟨y,hy,rfl⟩:=List.mem_map.1 hx;exact h.2 y hy).2
 rw[List.length_map]at this
 rw[this,List.all_eq_true]
 constructor
 ·intro h k hk
  unfold metOf;rw[if_pos ((Gg _ _).2 (h k (by simpa using hk)))];rfl
 ·intro h k hk
  have:=h k (by simpa using hk)
  unfold metOf at this
  split at this
  ·rename_i h2;exact(Gg _ _).1 h2
  ·cases this
theorem GT{p:BProg}{c:CProg}{env:Int}{next:Bool}: ∀(n q:Nat) (met:Met) (W V:MetL),q+n<=c.ins.length->Gd c.ins.length W->Fz p c env next ES n q met W=some V->Gd c.ins.length V
 |0,_,_,_,_,_,h,e=>by cases e;exact h
 | n+1,q,met,W,V,hq,h,e=>by
  rw[Fz]at e
  split at e
  ·exact GT n _ _ _ _ (by omega) h e
  ·split at e
   ·cases e
   ·split at e
    ·cases e
    ·rename_i s' hs
     unfold ES at hs
     split at hs
     ·cases hs
     ·cases hs
      exact GT n _ _ _ _ (by omega) (Ov h (by omega) _) e
theorem Ou{p:BProg}{c:CProg}{x:CSt}{W V:MetL}(h:Gd c.ins.length W)(e:Bz p c x ES W=some V):Gd c.ins.length V:=by
 unfold Bz at e
 split at e
 ·cases e
 ·exact GT _ _ _ _ _ (by omega) h e
theorem Jo{p:BProg}{c:CProg}: ∀(l:List CSt) (W V:MetL),Gd c.ins.length W->allL p c l W=some V->Gd c.ins.length V
 |[],_,_,h,e=>by cases e;exact h
 | s::r,W,V,h,e=>by
  rw[allL]at e
  split at e
  ·cases e
  ·rename_i V1 h1
   exact Jo r _ _ (Ou h h1) e
def Hy(p:BProg)(c:CProg):Option MetL:=match allL p c (stsQ p c) []with
 |none=>none
 |some W=>if W.length=c.ins.length then some W else none
theorem O2{p:BProg}{c:CProg}(hf:∀q:Nat,(AC c q).op=17\/(AC c q).op=18->(q:Int)<(AC c q).a):Gb p c (stsQ p c)=(Hy p c).map fun W=>(List.range c.ins.length).map fun k:Nat=>getM ⟨0,0⟩ (k:Int) W:=by
 unfold Gb Hy
 rw[<-Q0,NV hf]
 cases h:allL p c (stsQ p c) []with
 |none=>rfl
 | some W =>
  have hk:=Jo _ _ _ ⟨by simp,by simp⟩ h
  have hw:=Pb hk
  show(if _ then _ else _)=_
  simp only
  by_cases e:W.length=c.ins.length
  ·rw[if_pos e,if_pos (hw.1 e)]
   simp only[Option.map_some,Option.some.injEq]
   refine List.map_congr_left fun k aH=>?_
   have:=List.all_eq_true.1 (hw.1 e) k aH
   unfold metOf at this⊢
   split at this
   ·rename_i h2;rw[if_pos h2];rfl
   ·cases this
  ·rw[if_neg e,if_neg (fun h=>e (hw.2 h))];rfl
def C3(p:BProg)(c:CProg):Option MetL:=
 if okP p&&(decide (c.ins.length<=300)&&(decide (c.starts.length=p.methods.length)&&BZ p c.ins.length c.ins 0)) then Hy p c else none
theorem H7{p:BProg}{N:Nat}: ∀(l:List CIns) (q:Nat),BZ p N l q=true->∀(i:Nat) (x:CIns),l[i]? = some x->fitsQ p N (q+i) x=true
 |[],_,_,_,_,h=>by simp at h
 |y::l,q,h,i,x,hx=>by
  rw[BZ,Bool.and_eq_true]at h
  cases i with
  |zero=>simp at hx;subst hx;exact h.1
  |succ i=>simp at hx;have:=H7 l (q+1) h.2 i x hx;rwa [show q+1+i=q+(i+1) by omega]at this
theorem TF{p:BProg}{c:CProg}(h:BZ p c.ins.length c.ins 0=true): ∀q:Nat,(AC c q).op=17\/(AC c q).op=18->(q:Int)<(AC c q).a:=fun q ho=>by
 unfold AC at ho⊢
 cases hx:c.ins[q]? with
 |none=>rw[hx]at ho;simp at ho
 |some x=>
  rw[hx]at ho
  have:=H7 _ _ h q x hx
  unfold fitsQ at this
  simp only[Option.getD_some]at ho⊢
  rcases ho with e|e<;>rw[e]at this<;>simp at this<;>omega
theorem On(p:BProg)(c:CProg):Kl p c=(C3 p c).map fun W=>(List.range c.ins.length).map fun k:Nat=>getM ⟨0,0⟩ (k:Int) W:=by
 unfold Kl C3
 split
 ·rename_i h
  simp only[Bool.and_eq_true,decide_eq_true_eq]at h
  exact O2 (TF h.2.2.2)
 ·rfl
end Go.DL
