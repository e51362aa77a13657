/- A part of the proof. -/
import Derived.Test.YteldimffglchkaaGreatDoorH16
import Derived.Lib.Atoi
import Derived.Lib.ItoaNum
set_option linter.all false
namespace Go.DL
open Go Go.Proofs
def sumB:List UInt8->UInt8->UInt8
 |[],n=>n
 |c::r,n=>sumB r (3*n+c+1)
def hiB:Nat->Nat->List UInt8
 |0,_=>[]
 |k+1,n=>if n=0 then [] else hiB k (n / 128)++[UInt8.ofNat (128+n % 128)]
def digB(n:Nat):List UInt8:=hiB 10 (n / 128)++[UInt8.ofNat (n % 128)]
def Rg(n:Int):Nat:=if n<0 then(-2*n-1).toNat else(2*n).toNat
def hasA(op:Int):Bool:=decide (op=1\/op=3\/op=4\/op=5\/op=6\/op=8\/op=17\/op=18\/op=19)
def insB(x:CIns):List UInt8:=UInt8.ofNat x.op.toNat::(if hasA x.op then digB (Rg x.a) else [])
def listB{α}(f:α->List UInt8):List α->List UInt8
 |[]=>[]
 |x::r=>f x++listB f r
def rawB(c:CProg):List UInt8:=199::(digB c.starts.length++(listB (fun n:Int=>digB n.toNat) c.starts++(digB c.main.toNat++(digB c.ins.length++listB insB c.ins))))
def JB(c:CProg):List UInt8:=rawB c++[sumB (rawB c) 0]
def farN(n:Int):Bool:=decide (0<=n/\n<=1000000000)
def F0(x:CIns):Bool:=decide (1<=x.op/\x.op<=21)&&(if hasA x.op then(if x.op=1 then inB x.a else farN x.a) else decide (x.a=0))
def Ek(c:CProg):Bool:=decide (c.ins.length<=300)&&(decide (c.starts.length<=16)&&(farN c.main&&(c.starts.all farN&&c.ins.all F0)))
theorem NU{n:Nat}(h:n<256):(UInt8.ofNat n).toNat=n:=by
 rw[UInt8.toNat_ofNat'];omega
theorem Rc: ∀k n,(hiB k n).length<=k
 |0,n=>by rw[hiB];simp
 | k+1,n=>by
  rw[hiB]
  split
  ·simp
  ·have:=Rc k (n / 128)
   rw[List.length_append,List.length_singleton];omega
theorem Om: ∀k n,n<128 ^ k->∀j,k<=j->hiB j n=hiB k n
 |0,n,hn,j,_=>by
  have h0:n=0:=by simpa using hn
  subst h0
  cases j<;>rfl
 |k+1,n,hn,j,hj=>by
  obtain⟨i,rfl⟩:∃i,j=i+1:=⟨j-1,by omega⟩
  rw[hiB,hiB]
  split
  ·rfl
  ·rw[Om k (n / 128) (Nat.div_lt_of_lt_mul (by rw[Nat.pow_succ]at hn;omega)) i (by omega)]
def wordsC:List Str:=[[105,110,116],[110,111,110,101],[110,97,109,101],[110,101,119],[115,108,111,116],[116,117,114,110],[111,117,116],[115,101,116],[97,100,100],[115,117,98],[109,117,108],[108,101,115,115],[115,97,109,101],[108,101,116],[100,114,111,112],[112,111,112],[122,101,114,111],[106,117,109,112],[99,97,108,108],[110,101,120,116],[101,110,100]]
def TR(op:Int):Str:=(wordsC[(op-1).toNat]?).getD []
def G5(x:CIns):Str:=TR x.op++(if hasA x.op then 32::Lib.itoa x.a else [])
def Pg(c:CProg):Str:=listB (fun n=>Lib.itoa n++[32]) c.starts++58::32::Lib.itoa c.main
def LP(c:CProg):Str:=listB (fun l=>l++[10]) (Pg c::c.ins.map G5)
theorem Dt: ∀(k u:Nat),u<10 ^ (k+1)->(Lib.decDigits u).length<=k+1
 |0,u,h=>by rw[Lib.decDigits,dif_pos (by omega)];simp
 | k+1,u,h=>by
  rw[Lib.decDigits]
  split
  ·simp
  ·have:=Dt k (u / 10) (Nat.div_lt_of_lt_mul (by rw[Nat.pow_succ]at h;omega))
   rw[List.length_append,List.length_singleton];omega
theorem Ln{n:Int}(h:farN n=true):(Lib.itoa n).length<=10:=by
 unfold farN at h
 simp only[decide_eq_true_eq]at h
 unfold Lib.itoa
 rw[if_neg (by omega)]
 exact Dt 9 _ (by omega)
theorem R8{n:Int}(h : -1000000000<=n/\n<=1000000000):(Lib.itoa n).length<=11:=by
 unfold Lib.itoa
 split
 ·have:=Dt 9 n.natAbs (by omega)
  rw[List.length_cons];omega
 ·have:=Dt 9 n.toNat (by omega)
  omega
theorem H1{α}{f:α->List UInt8}{m:Nat}: ∀(l:List α),(∀x∈l,(f x).length<=m)->(listB f l).length<=m*l.length
 |[],_=>by rw[listB];simp
 |x::r,h=>by
  have h1:=h x List.mem_cons_self
  have h2:=H1 r fun y hy=>h y (List.mem_cons_of_mem _ hy)
  rw[listB,List.length_append,List.length_cons,Nat.mul_succ];omega
theorem PY: ∀k:Nat,k<21->((wordsC[k]?).getD []).length<=4/\(k=0->((wordsC[k]?).getD []).length=3):=by decide
theorem Od{x:CIns}(h:F0 x=true):(G5 x).length<=15:=by
 unfold F0 at h
 rw[Bool.and_eq_true]at h
 obtain⟨h1,h2⟩:=h
 simp only[decide_eq_true_eq]at h1
 obtain⟨w1,w2⟩:=PY (x.op-1).toNat (by omega)
 unfold G5 TR
 rw[List.length_append]
 cases e:hasA x.op with
 |false=>rw[if_neg (by simp),List.length_nil];omega
 | true =>
  rw[e,if_pos rfl]at h2
  rw[if_pos rfl,List.length_cons]
  split at h2
  ·rename_i e1
   have:=w2 (by omega)
   unfold inB at h2
   have:=R8 (n:=x.a) (by simpa[Bool.and_eq_true,decide_eq_true_eq] using h2)
   omega
  ·have:=Ln h2
   omega
theorem TY{c:CProg}(h:Ek c=true):(LP c).length<=5000:=by
 unfold Ek at h
 simp only[Bool.and_eq_true,decide_eq_true_eq,List.all_eq_true]at h
 obtain⟨h1,h2,h3,h4,h5⟩:=h
 have a:=H1 (f:=fun n=>Lib.itoa n++[32]) (m:=11) c.starts fun n hn=>by
  have:=Ln (h4 n hn)
  rw[List.length_append,List.length_singleton];omega
 have b:=H1 (f:=fun l:Str=>l++[(10:UInt8)]) (m:=16) (c.ins.map G5) fun l hl=>by
  obtain⟨x,hx,rfl⟩:=List.mem_map.1 hl
  have:=Od (h5 x hx)
  rw[List.length_append,List.length_singleton];omega
 have d:=Ln h3
 rw[List.length_map]at b
 unfold LP Pg
 rw[listB,List.length_append,List.length_append,List.length_append,List.length_cons,List.length_cons,List.length_singleton]
 omega
theorem Im{n:Nat}(h:n<128 ^ 5):(digB n).length<=5:=by
 unfold digB
 rw[List.length_append,List.length_singleton,Om 4 (n / 128) (Nat.div_lt_of_lt_mul (by omega)) 10 (by omega)]
 have:=Rc 4 (n / 128)
 omega
theorem TN{c:CProg}(h:Ek c=true):(JB c).length<=5000:=by
 unfold Ek at h
 simp only[Bool.and_eq_true,decide_eq_true_eq,List.all_eq_true]at h
 obtain⟨h1,h2,h3,h4,h5⟩:=h
 have far:∀n:Int,farN n=true->(digB n.toNat).length<=5:=fun n hn=>by
  unfold farN at hn
  simp only[decide_eq_true_eq]at hn
  exact Im (by omega)
 have a:=H1 (f:=fun n:Int=>digB n.toNat) (m:=5) c.starts fun n hn=>far n (h4 n hn)
 have b:=H1 (f:=insB) (m:=6) c.ins fun x hx=>by
  have hp:=h5 x hx
  unfold F0 at hp
  rw[Bool.and_eq_true]at hp
  unfold insB
  rw[List.length_cons]
  split
  ·rename_i e
   have am:=hp.2
   rw[if_pos e]at am
   have : -1000000000<=x.a/\x.a<=1000000000:=by
    split at am
    ·unfold inB at am
     simpa[Bool.and_eq_true,decide_eq_true_eq] using am
    ·unfold farN at am
     simp only[decide_eq_true_eq]at am
     omega
   have:=Im (n:=Rg x.a) (by unfold Rg;split<;>omega)
   omega
  ·simp
 have d1:=far _ h3
 have d2:=Im (n:=c.starts.length) (by omega)
 have d3:=Im (n:=c.ins.length) (by omega)
 unfold JB rawB
 rw[List.length_append,List.length_cons,List.length_append,List.length_append,List.length_append,List.length_append,List.length_singleton]
 omega
def fitL(p:BProg)(N:Nat)(q:Nat)(l:List CIns):Prop:= ∀(i:Nat) (x:CIns),l[i]? = some x->fitsC p N (q+i) x=true
section
variable {p:BProg}{N:Nat}
theorem HL(q:Nat):fitL p N q []:=fun i x h=>by simp at h
theorem EN{q r:Nat}{l m:List CIns}(h:fitL p N q l)(hr:r=q+l.length)(k:fitL p N r m):fitL p N q (l++m):=fun i x hx=>by
 by_cases hi:i<l.length
 ·rw[List.getElem?_append_left hi]at hx;exact h i x hx
 ·rw[List.getElem?_append_right (by omega)]at hx
  have:=k _ x hx
  rw[hr,show q+l.length+(i-l.length)=q+i by omega]at this
  exact this
theorem E5{q r:Nat}{x:CIns}{m:List CIns}(h:fitsC p N q x=true)(hr:r=q+1)(k:fitL p N r m):fitL p N q (x::m):=fun i y hy=>by
 cases i with
 |zero=>simp only[List.getElem?_cons_zero,Option.some.injEq]at hy;rw[<-hy];exact h
 |succ i=>
  rw[List.getElem?_cons_succ]at hy
  have:=k i y hy
  rw[hr,show q+1+i=q+(i+1) by omega]at this
  exact this
theorem Ou{f:Int->Nat->List CIns}: ∀(l:List Int) (q:Nat),(∀c∈l, ∀r,r+(f c r).length<=q+(cKids f l q).length->fitL p N r (f c r))->fitL p N q (cKids f l q)
 |[],q,_=>by rw[cKids];exact HL q
 |c::r,q,h=>by
  rw[cKids]at h⊢
  rw[List.length_append]at h
  exact EN (h c List.mem_cons_self q (by omega)) rfl (Ou r _ fun d hd s hs=>h d (List.mem_cons_of_mem _ hd) s (by omega))
theorem Ij{op:Int}(q:Nat)(h:op=14\/op=15\/op=16\/op=21):fitsC p N q ⟨op,0⟩=true:=by
 rcases h with rfl|rfl|rfl|rfl<;>simp[fitsC]
theorem Ov{op:Int}{q:Nat}{a:Nat}(h:op=17\/op=18)(h1:q<a)(h2:a<N):fitsC p N q ⟨op,(a:Int)⟩=true:=by
 rcases h with rfl|rfl<;>simp[fitsC]<;>omega
theorem fit_node: ∀(k:Nat) (n:Int) (inM:Bool) (size q:Nat),trE p inM k n size->q+cL p k n<N->fitL p N q (cN p k n q)
 |0,_,_,_,_,h,_=>h.elim
 | k+1,n,inM,size,q,h,hN=>by
  have aa:=Q8 h
  have hk:=h.2.2.2.2
  have ac:∀(i:Nat),i<(A0 p n).kids.length->∀q,q+cL p k (kidN (A0 p n) i)<N->fitL p N q (cN p k (kidN (A0 p n) i) q):=fun i hi q hq=>by
   rw[EK hi]at hq⊢; exact fit_node k _ _ _ q (hk i hi) hq
  have ae:∀(i:Nat),i<(A0 p n).kids.length->1<=cL p k (kidN (A0 p n) i):=fun i hi=>by rw[EK hi];exact cN_pos (hk i hi)
  have hlen:=Gd p k
  rw[cL]at hN
  rw[cN]
  by_cases h9:(A0 p n).op=9
  ·have hl:(A0 p n).kids.length=2:=Cq h (by rw[h9];rfl)
   rw[if_pos h9]at hN⊢
   exact EN (ac 0 (by omega) _ (by omega)) rfl (E5 (Ij _ (by simp)) (by rw[hlen]) (EN (ac 1 (by omega) _ (by omega)) rfl (E5 (Ij _ (by simp)) rfl (HL _))))
  ·rw[if_neg h9]at hN⊢
   by_cases au:(A0 p n).op=11
   ·have hl:(A0 p n).kids.length=2:=Cq h (by rw[au];rfl)
    rw[if_pos au]at hN⊢
    exact EN (ac 0 (by omega) _ (by omega)) rfl (E5 (Ij _ (by simp)) (by rw[hlen]) (ac 1 (by omega) _ (by omega)))
   ·rw[if_neg au]at hN⊢
    by_cases aw:(A0 p n).op=10
    ·have hl:(A0 p n).kids.length=3:=Cq h (by rw[aw];rfl)
     rw[if_pos aw]at hN⊢
     have p0:=ae 0 (by omega)
     have p1:=ae 1 (by omega)
     have p2:=ae 2 (by omega)
     refine EN (ac 0 (by omega) _ (by omega)) rfl (E5 (Ov (by simp) ?_ ?_) (r:=q+cL p k (kidN (A0 p n) 0)+1) ?_ (EN (ac 1 (by omega) _ (by omega)) rfl (E5 (Ov (by simp) ?_ ?_) ?_ (ac 2 (by omega) _ (by omega)))))
     all_goals first|omega|(simp only[hlen];done)|(simp only[hlen];omega)
    ·rw[if_neg aw]at hN⊢
     refine EN (Ou _ _ fun c hc r hr=>?_) rfl (E5 (Pn _ _ aa h9 aw au h.2.2.1) rfl (HL _))
     rw[FH hlen,hlen]at hr
     obtain⟨i,hi,rfl⟩:=List.mem_iff_getElem.1 hc
     exact fit_node k _ _ _ r (hk i hi) (by omega)
theorem Kp{k:Nat}: ∀(l:List CBody) (q:Nat),(∀b∈l,trE p b.next k b.node b.size)->q+(Ay p k l q).length<=N->fitL p N q (Ay p k l q)
 |[],q,_,_=>HL q
 |b::r,q,h,hN=>by
  rw[Ay]at hN⊢
  rw[List.length_append,Ck]at hN
  refine EN ?_ (by rw[Ck]) (Kp r _ (fun x hx=>h x (List.mem_cons_of_mem _ hx)) (by omega))
  unfold bodyC
  exact EN (fit_node k _ _ _ q (h b List.mem_cons_self) (by omega)) rfl (E5 (Ij _ (by simp)) rfl (HL _))
end
theorem UK{p:BProg}(h:okP p=true):fitL p (Dc p).ins.length 0 (Dc p).ins:=by
 rw[Ho]
 exact Kp _ _ (HR h) (by omega)
def FJ(p:BProg)(N:Nat):List CIns->Nat->Bool
 |[],_=>true
 |x::r,q=>fitsC p N q x&&FJ p N r (q+1)
theorem Ew{p:BProg}{N:Nat}: ∀(l:List CIns) (q:Nat),FJ p N l q=true ↔ fitL p N q l
 |[],q=>by rw[FJ];exact⟨fun _=>HL q,fun _=>rfl⟩
 | x::r,q=>by
  rw[FJ,Bool.and_eq_true,Ew r]
  constructor
  ·rintro⟨a,b⟩;exact E5 a rfl b
  ·intro h
   refine⟨by have:=h 0 x rfl;rwa [Nat.add_zero]at this,fun i y hy=>?_⟩
   have:=h (i+1) y (by rw[List.getElem?_cons_succ];exact hy)
   rw[show q+1+i=q+(i+1) by omega]
   exact this
def DJ(p:BProg)(c:CProg):Option (List CLev):=
 if okP p&&(decide (c.ins.length<=300)&&(decide (c.starts.length=p.methods.length)&&FJ p c.ins.length c.ins 0)) then Fo p c (stsP p c) else none
theorem Gw{p:BProg}(h:okP p=true):DJ p (Dc p)=some (lvAll p 12 (bodsP p)):=by
 have h1:=In h
 obtain⟨_,_,h2,_,h3⟩:=Dv h
 unfold DJ
 rw[if_pos]
 ·exact QW h
 ·rw[h,(Ew _ _).2 (UK h),K2]
  simp
  omega
theorem reach_at{N:Nat}{met m:Met}{n:Int}{l:CLev}(h:BJ N met n l=some m)(j:Nat):m j=met j\/((j:Int)=n/\m j=some l):=by
 unfold BJ at h
 split at h
 ·cases h
 ·cases h
  unfold updM
  by_cases e:j=n.toNat
  ·rw[if_pos e];exact .inr ⟨by omega,rfl⟩
  ·rw[if_neg e];exact .inl rfl
section
variable {p:BProg}{c:CProg}{env:Int}{next:Bool}
theorem L3 {q:Nat} {x:CIns} {l:CLev} {met m:Met} (h:CG p c env next q x l met=some m) (hj:x.op=17\/x.op=18->(q:Int) < x.a) (j:Nat):m j=met j\/(q < j /\ ∃ l',m j=some l'/\l'.env<=l.env+1):=by
 unfold CG at h
 split at h
 ·cases h
 ·split at h
  ·split at h
   ·cases h;exact .inl rfl
   ·cases h
  ·split at h
   ·rcases reach_at h j with e|⟨e,e2⟩
    ·exact .inl e
    ·exact .inr ⟨by omega,_,e2,by simp only;omega⟩
   ·split at h
    ·rcases reach_at h j with e|⟨e,e2⟩
     ·exact .inl e
     ·exact .inr ⟨by omega,_,e2,by simp only;omega⟩
    ·split at h
     ·rename_i ar
      have:=hj (.inr ar)
      rcases reach_at h j with e|⟨e,e2⟩
      ·exact .inl e
      ·exact .inr ⟨by omega,_,e2,by simp only;omega⟩
     ·split at h
      ·rename_i aF
       have:=hj (.inl aF)
       split at h
       ·cases h
       ·rename_i e0
        rcases reach_at h j with e|⟨e,e2⟩
        ·rcases reach_at e0 j with e1|⟨e1,e2⟩
         ·exact .inl (e.trans e1)
         ·exact .inr ⟨by omega,_,e.trans e2,by simp only;omega⟩
        ·exact .inr ⟨by omega,_,e2,by simp only;omega⟩
      ·rcases reach_at h j with e|⟨e,e2⟩
       ·exact .inl e
       ·exact .inr ⟨by omega,_,e2,by simp only;omega⟩
theorem Qc{q:Nat}{x:CIns}{l:CLev}{met m:Met}(h:CG p c env next q x l met=some m)(h3:x.op=3):x.a<l.env:=by
 unfold CG at h
 split at h
 ·cases h
 ·omega
def AC(c:CProg)(q:Nat):CIns:=(c.ins[q]?).getD ⟨0,0⟩
theorem E1(hf:∀q:Nat,(AC c q).op=17\/(AC c q).op=18->(q:Int)<(AC c q).a): ∀(f q:Nat) (met m:Met),Cy p c env next f q met=some m->∀j,j<q->m j=met j
 |0,_,_,_,h,_,_=>by cases h;rfl
 | f+1,q,met,m,h,j,hj=>by
  rw[Cy]at h
  split at h
  ·exact E1 hf f _ _ _ h j (by omega)
  ·split at h
   ·cases h
   ·rename_i e
    rw[E1 hf f _ _ _ h j (by omega)]
    rcases L3 e (hf q) j with e2|⟨e2,_⟩
    ·exact e2
    ·omega
theorem IH(hf:∀q:Nat,(AC c q).op=17\/(AC c q).op=18->(q:Int)<(AC c q).a)(e0:Int): ∀(f q:Nat) (met m:Met),Cy p c env next f q met=some m->(∀j l,met j=some l->l.env<=e0+j)->
  ∀j l,q<=j->j<q+f->m j=some l->(AC c j).op=3->(AC c j).a<e0+j
 |0,_,_,_,_,_,_,_,_,_,_,_=>by omega
 | f+1,q,met,m,h,hE,j,l,h1,h2,hm,h3=>by
  rw[Cy]at h
  split at h
  ·rename_i hq
   by_cases hj:j=q
   ·subst hj
    rw[E1 hf f _ _ _ h j (by omega),hq]at hm
    cases hm
   ·exact IH hf e0 f _ _ _ h hE j l (by omega) (by omega) hm h3
  ·rename_i l0 hq
   split at h
   ·cases h
   ·rename_i m0 e
    by_cases hj:j=q
    ·subst hj
     have:=Qc e h3
     have:=hE j l0 hq
     unfold AC
     omega
    ·refine IH hf e0 f _ _ _ h (fun i l' hi=>?_) j l (by omega) (by omega) hm h3
     rcases L3 e (hf q) i with e2|⟨e2,l2,e3,e4⟩
     ·rw[e2]at hi;exact hE i l' hi
     ·rw[e3]at hi;cases hi
      have:=hE q l0 hq
      omega
theorem TT(hf:∀q:Nat,(AC c q).op=17\/(AC c q).op=18->(q:Int)<(AC c q).a){s:CSt}{w:Met}(h:wayM p c s=some w)(h0:s.env<=3){j:Nat}{l:CLev}(hl:w j=some l)(h3:(AC c j).op=3):(AC c j).a<3+j:=by
 have hd:=Nd h
 unfold wayM at h
 split at h
 ·cases h
 ·have hj:j<c.ins.length:=Classical.byContradiction fun hn=>by rw[hd j (by omega)]at hl;cases hl
  by_cases hq:s.pos.toNat<=j
  ·refine IH hf 3 _ _ _ _ h (fun i l' hi=>?_) j l hq (by omega) hl h3
   unfold updM at hi
   split at hi
   ·cases hi;simp only;omega
   ·cases hi
  ·rw[E1 hf _ _ _ _ h j (by omega)]at hl
   unfold updM at hl
   rw[if_neg (by omega)]at hl
   cases hl
end
def fitsQ(p:BProg)(N:Nat)(q:Nat)(x:CIns):Bool:=
 if x.op=1 then inB x.a else if x.op=3 then decide (0<=x.a/\x.a<=123+N) else if x.op=4\/x.op=6 then decide (3<=x.a/\x.a<3+p.classes.length) else if x.op=5\/x.op=8 then decide (0<=x.a/\x.a<p.slots) else
 if x.op=17\/x.op=18 then decide ((q:Int)<x.a/\x.a<N) else if x.op=19 then decide (0<=x.a/\x.a<p.gens.length) else decide (1<=x.op/\x.op<=21/\x.a=0)
def Cl(p:BProg)(N:Nat):List CIns->Nat->Bool
 |[],_=>true
 |x::r,q=>fitsQ p N q x&&Cl p N r (q+1)
theorem UI{p:BProg}{N q:Nat}{x:CIns}(h:fitsC p N q x=true)(h3:x.op=3->x.a<=123+N):fitsQ p N q x=true:=by
 unfold fitsC at h;unfold fitsQ
 by_cases e:x.op=3
 ·rw[if_neg (by omega),if_pos e]at h⊢
  simp only[decide_eq_true_eq]at h⊢
  exact⟨h,h3 e⟩
 ·rw[if_neg e]at h⊢
  exact h
theorem UJ{p:BProg}{N q:Nat}{x:CIns}(h:fitsQ p N q x=true):fitsC p N q x=true:=by
 unfold fitsQ at h;unfold fitsC
 by_cases e:x.op=3
 ·rw[if_neg (by omega),if_pos e]at h⊢
  simp only[decide_eq_true_eq]at h⊢
  exact h.1
 ·rw[if_neg e]at h⊢
  exact h
theorem N7{p:BProg}{N:Nat}: ∀(l:List CIns) (q:Nat),Cl p N l q=true->FJ p N l q=true
 |[],_,_=>rfl
 |x::r,q,h=>by
  rw[Cl,Bool.and_eq_true]at h
  rw[FJ,UJ h.1,N7 r _ h.2];rfl
theorem KS{p:BProg}{N:Nat}: ∀(l:List CIns) (q:Nat),FJ p N l q=true->(∀(i:Nat) (x:CIns),l[i]? = some x->x.op=3->x.a<=123+N)->Cl p N l q=true
 |[],_,_,_=>rfl
 |x::r,q,h,hn=>by
  rw[FJ,Bool.and_eq_true]at h
  rw[Cl,UI h.1 (hn 0 x rfl),KS r _ h.2 fun i y hy=>hn (i+1) y (by rw[List.getElem?_cons_succ];exact hy)];rfl
def stsQ(p:BProg)(c:CProg):List CSt:=⟨c.main,0,false⟩::List.zipWith (Dg p) p.methods c.starts
def Ll(p:BProg)(c:CProg):Option (List CLev):=
 if okP p&&(decide (c.ins.length<=300)&&(decide (c.starts.length=p.methods.length)&&Cl p c.ins.length c.ins 0)) then Fo p c (stsQ p c) else none
theorem QU (p:BProg) (c:CProg):Ll p c=DJ p c:=by
 unfold Ll DJ
 have hs:Fo p c (stsQ p c)=Fo p c (stsP p c):=Ki fun s=>by unfold stsQ stsP;rw[List.mem_cons,List.mem_append,List.mem_singleton,or_comm]
 rw[hs]
 by_cases ag:okP p=true
 ·by_cases h1:c.ins.length<=300
  ·by_cases h2:c.starts.length=p.methods.length
   ·rw [ag,decide_eq_true h1,decide_eq_true h2,Bool.true_and,Bool.true_and,Bool.true_and,Bool.true_and]
    cases hq:Cl p c.ins.length c.ins 0 with
    |true=>rw[N7 _ _ hq];rfl
    | false =>
     cases hf:FJ p c.ins.length c.ins 0 with
     |false=>rfl
     | true =>
      rw[if_neg (by simp)]
      change none=Fo p c (stsP p c)
      cases hl:Fo p c (stsP p c)with
      |none=>rfl
      | some lv =>
       exfalso
       have aC:=hq
       rw[KS _ _ hf]at aC
       ·cases aC
       intro i x hx h3
       have hi:i<c.ins.length:=(List.getElem?_eq_some_iff.1 hx).1
       have ha:∀q,AC c q=((c.ins[q]?).getD ⟨0,0⟩):=fun _=>rfl
       have ay:∀q:Nat,(AC c q).op=17\/(AC c q).op=18->(q:Int)<(AC c q).a:=fun q aa=>by
        rw[ha]at aa⊢
        cases hc:c.ins[q]? with
        |none=>rw[hc]at aa;simp at aa
        |some y=>
         rw[hc]at aa
         simp only[Option.getD_some]at aa⊢
         have:=(Ew _ _).1 hf q y hc
         unfold fitsC at this
         rw[if_neg (by omega),if_neg (by omega),if_neg (by omega),if_neg (by omega),if_pos aa]at this
         simp only[decide_eq_true_eq]at this
         omega
       unfold Fo at hl
       cases hL:Fm p c (stsP p c) (fun _=>none)with
       |none=>rw[hL]at hl;cases hl
       | some W =>
        rw[hL]at hl
        simp only at hl
        split at hl
        ·rename_i aj
         have:=List.all_eq_true.1 aj i (List.mem_range.2 hi)
         obtain⟨l,hW⟩:=Option.isSome_iff_exists.1 this
         rcases((EI _ _ _).1 hL).2.2 i l hW with h|⟨s,hs,w,hw,aG⟩
         ·cases h
         ·have aA:s.env<=3:=by
           unfold stsP at hs
           rcases List.mem_append.1 hs with hs|hs
           ·rw[<-List.map_uncurry_zip_eq_zipWith]at hs
            obtain⟨⟨m,n⟩,_,rfl⟩:=List.mem_map.1 hs
            exact(GA ag m.gen.toNat).2
           ·rw[List.mem_singleton]at hs;rw[hs];simp
          have e:AC c i=x:=by rw[ha,hx];rfl
          have:=TT ay hw aA aG (by rw[e];exact h3)
          rw[e]at this
          omega
        ·cases hl
   ·rw[ag,decide_eq_true h1,decide_eq_false h2];rfl
  ·rw[ag,decide_eq_false h1];rfl
 ·rw[Bool.not_eq_true]at ag
  rw[ag];rfl
def Gg {S:Type} (p:BProg) (c:CProg) (env:Int) (next:Bool) (step:Nat->CLev->S->Option S):Nat->Nat->Met->S->Option S
 |0,_,_,s=>some s
 | f+1,q,met,s=>match met q with
  |none=>Gg p c env next step f (q+1) met s
  | some l=>match CG p c env next q (AC c q) l met with
   |none=>none
   |some m=>match step q l s with
    |none=>none
    |some s'=>Gg p c env next step f (q+1) m s'
def BH{S:Type}(p:BProg)(c:CProg)(x:CSt)(step:Nat->CLev->S->Option S)(s:S):Option S:=
 if x.pos<0\/(c.ins.length:Int)<=x.pos then none else Gg p c x.env x.next step (c.ins.length-x.pos.toNat) x.pos.toNat (updM (fun _=>none) x.pos.toNat ⟨0,x.env⟩) s
def Nz(k:Nat)(l:CLev)(W:Met):Option Met:=if W k≠none/\W k≠some l then none else some (updM W k l)
open Classical in
noncomputable def mrgF(q N:Nat)(W w:Met):Option Met:=
 if ∀k,q<=k->k<N->W k=none\/w k=none\/W k=w k then some (fun k=>if q<=k/\k<N then(match w k with|none=>W k|some x=>some x) else W k) else none
section
variable {p:BProg}{c:CProg}{env:Int}{next:Bool}
theorem NS (hf : ∀ q:Nat,(AC c q).op=17\/(AC c q).op=18->(q:Int) < (AC c q).a) : ∀ (f q:Nat) (met W:Met),Gg p c env next Nz f q met W=match Cy p c env next f q met with
  |none=>none
  |some w=>mrgF q (q+f) W w
 |0,q,met,W=>by
  rw[Gg,Cy]
  simp only[mrgF]
  rw[if_pos (fun k h1 h2=>by omega)]
  congr 1;funext k;rw[if_neg (by omega)]
 | f+1,q,met,W=>by
  rw[Gg,Cy]
  have ih:=NS hf f (q+1)
  cases hq:met q with
  | none =>
   simp only
   rw[ih]
   cases hs:Cy p c env next f (q+1) met with
   |none=>rfl
   | some w =>
    have hw:w q=none:=by rw[E1 hf f (q+1) met w hs q (by omega),hq]
    rw[show q+1+f=q+(f+1) by omega]
    simp only[mrgF]
    have e:(∀k,q+1<=k->k<q+(f+1)->W k=none\/w k=none\/W k=w k) ↔ (∀k,q<=k->k<q+(f+1)->W k=none\/w k=none\/W k=w k):=
     ⟨fun h k h1 h2=>Decidable.byCases (fun e:k=q=>by subst e;exact .inr (.inl hw)) fun e=>h k (by omega) h2,fun h k h1 h2=>h k (by omega) h2⟩
    by_cases hc:∀k,q<=k->k<q+(f+1)->W k=none\/w k=none\/W k=w k
    ·rw[if_pos (e.2 hc),if_pos hc]
     congr 1;funext k
     by_cases hk:k=q
     ·subst hk;rw[if_neg (by omega),if_pos (by omega),hw]
     ·by_cases h:q<=k/\k<q+(f+1)
      ·rw[if_pos h,if_pos (by omega)]
      ·rw[if_neg h,if_neg (by omega)]
    ·rw[if_neg hc,if_neg (fun h=>hc (e.1 h))]
  | some l =>
   simp only
   have hi:(c.ins[q]?).getD ⟨0,0⟩=AC c q:=rfl
   rw[hi]
   cases aH:CG p c env next q (AC c q) l met with
   |none=>rfl
   | some m =>
    simp only
    have aD:m q=some l:=by
     rcases L3 aH (hf q) q with h|⟨h,_⟩
     ·rw[h,hq]
     ·omega
    cases hg:Nz q l W with
    | none =>
     simp only
     cases hs:Cy p c env next f (q+1) m with
     |none=>rfl
     | some w =>
      have hw:w q=some l:=by rw[E1 hf f (q+1) m w hs q (by omega),aD]
      unfold Nz at hg
      split at hg
      ·rename_i hc
       simp only[mrgF]
       rw[if_neg]
       intro h
       rcases h q (by omega) (by omega)with h|h|h
       ·exact hc.1 h
       ·rw[hw]at h;cases h
       ·rw[hw]at h;exact hc.2 h
      ·cases hg
    | some V =>
     simp only
     rw[ih]
     cases hs:Cy p c env next f (q+1) m with
     |none=>rfl
     | some w =>
      have hw:w q=some l:=by rw[E1 hf f (q+1) m w hs q (by omega),aD]
      unfold Nz at hg
      split at hg
      ·cases hg
      ·rename_i hc
       cases hg
       have aL:W q=none\/W q=some l:=by
        cases h:W q with
        |none=>exact .inl rfl
        |some y=>right;exact Classical.byContradiction fun h2=>hc ⟨by rw[h];simp,by rw[h];exact h2⟩
       rw[show q+1+f=q+(f+1) by omega]
       simp only[mrgF]
       have hu:∀k,k≠q->updM W q l k=W k:=fun k hk=>by unfold updM;rw[if_neg hk]
       have e:(∀k,q+1<=k->k<q+(f+1)->updM W q l k=none\/w k=none\/updM W q l k=w k) ↔ (∀k,q<=k->k<q+(f+1)->W k=none\/w k=none\/W k=w k):=
        ⟨fun h k h1 h2=>by
         by_cases e:k=q
         ·subst e;rw[hw];rcases aL with h|h
          ·exact .inl h
          ·exact .inr (.inr h)
         ·have:=h k (by omega) h2;rwa [hu k e]at this,fun h k h1 h2=>by rw[hu k (by omega)];exact h k (by omega) h2⟩
       by_cases aq:∀k,q<=k->k<q+(f+1)->W k=none\/w k=none\/W k=w k
       ·rw[if_pos (e.2 aq),if_pos aq]
        congr 1;funext k
        by_cases hk:k=q
        ·subst hk;rw[if_neg (by omega),if_pos (by omega),hw];unfold updM;rw[if_pos rfl]
        ·rw[hu k hk]
         by_cases h:q<=k/\k<q+(f+1)
         ·rw[if_pos h,if_pos (by omega)]
         ·rw[if_neg h,if_neg (by omega)]
       ·rw[if_neg aq,if_neg (fun h=>aq (e.1 h))]
theorem FO{N:Nat}{met m:Met}{n:Int}{l:CLev}(h:BJ N met n l=some m)(hm:∀j,N<=j->met j=none): ∀j,N<=j->m j=none:=fun j hj=>by
 rcases reach_at h j with e|⟨e,_⟩
 ·rw[e];exact hm j hj
 ·unfold BJ at h
  split at h
  ·cases h
  ·rename_i hc;exfalso;omega
theorem step_hi {q:Nat} {x:CIns} {l:CLev} {met m:Met} (h:CG p c env next q x l met=some m) (hm : ∀ j,c.ins.length<=j->met j=none) : ∀ j,c.ins.length<=j->m j=none:=by
 unfold CG at h
 split at h
 ·cases h
 ·split at h
  ·split at h
   ·cases h;exact hm
   ·cases h
  ·split at h
   ·exact FO h hm
   ·split at h
    ·exact FO h hm
    ·split at h
     ·exact FO h hm
     ·split at h
      ·split at h
       ·cases h
       ·rename_i m1 h1
        exact FO h (FO h1 hm)
      ·exact FO h hm
theorem Nl: ∀(f q:Nat) (met m:Met),Cy p c env next f q met=some m->(∀j,c.ins.length<=j->met j=none)->∀j,c.ins.length<=j->m j=none
 |0,_,_,_,h,hm=>by cases h;exact hm
 | f+1,q,met,m,h,hm=>by
  rw[Cy]at h
  split at h
  ·exact Nl f _ _ _ h hm
  ·split at h
   ·cases h
   ·rename_i m1 h1
    exact Nl f _ _ _ h (step_hi h1 hm)
theorem TX(hf:∀q:Nat,(AC c q).op=17\/(AC c q).op=18->(q:Int)<(AC c q).a)(x:CSt)(W:Met):BH p c x Nz W=match wayM p c x with
  |none=>none
  |some w=>mrgM c.ins.length W w:=by
 unfold BH wayM
 split
 ·rfl
 ·rename_i hx
  rw[NS hf]
  cases hs:Cy p c x.env x.next (c.ins.length-x.pos.toNat) x.pos.toNat (updM (fun _=>none) x.pos.toNat ⟨0,x.env⟩)with
  |none=>rfl
  | some w =>
   simp only
   have aE:∀k,k<x.pos.toNat->w k=none:=fun k hk=>by rw[E1 hf _ _ _ _ hs k hk];unfold updM;rw[if_neg (by omega)]
   have aJ:∀k,c.ins.length<=k->w k=none:=Nl _ _ _ _ hs fun j hj=>by unfold updM;rw[if_neg (by omega)]
   rw[show x.pos.toNat+(c.ins.length-x.pos.toNat)=c.ins.length by omega]
   unfold mrgF mrgM
   have e:(∀k,x.pos.toNat<=k->k<c.ins.length->W k=none\/w k=none\/W k=w k) ↔ ((List.range c.ins.length).all (fun k=>W k=none||w k=none||W k=w k)=true):=by
    rw[List.all_eq_true]
    constructor
    ·intro h k hk
     simp only[Bool.or_eq_true,decide_eq_true_eq]
     by_cases h1:x.pos.toNat<=k
     ·rcases h k h1 (by simpa using hk)with h|h|h
      ·exact .inl (.inl h)
      ·exact .inl (.inr h)
      ·exact .inr h
     ·exact .inl (.inr (aE k (by omega)))
    ·intro h k _ h2
     have:=h k (by simpa using h2)
     simp only[Bool.or_eq_true,decide_eq_true_eq]at this
     rcases this with(h|h)|h
     ·exact .inl h
     ·exact .inr (.inl h)
     ·exact .inr (.inr h)
   by_cases hc:∀k,x.pos.toNat<=k->k<c.ins.length->W k=none\/w k=none\/W k=w k
   ·rw[if_pos hc,if_pos (e.1 hc)]
    congr 1;funext k
    split
    ·rfl
    ·have:w k=none:=by
      by_cases h:k<x.pos.toNat
      ·exact aE k h
      ·exact aJ k (by omega)
     rw[this]
   ·rw[if_neg hc,if_neg (fun h=>hc (e.2 h))]
end
abbrev MetL:=List (Int×CLev)
def metOf(m:MetL):Met:=fun j=>if hasM (j:Int) m then some (getM ⟨0,0⟩ (j:Int) m) else none
theorem QM:metOf []=fun _=>none:=rfl
theorem D5(m:MetL)(n:Nat)(l:CLev):metOf (putM (n:Int) l m)=updM (metOf m) n l:=by
 funext j
 unfold metOf updM
 rw[H4,EM]
 by_cases e:j=n
 ·subst e;simp
 ·have e':¬((j:Int)=n):=fun h=>e (by omega)
  simp[e,e']
def Fw(k:Nat)(l:CLev)(W:MetL):Option MetL:=if hasM (k:Int) W=true/\getM ⟨0,0⟩ (k:Int) W≠l then none else some (putM (k:Int) l W)
theorem UE(k:Nat)(l:CLev)(W:MetL):Nz k l (metOf W)=(Fw k l W).map metOf:=by
 unfold Nz Fw metOf
 cases h:hasM (k:Int) W with
 |false=>simp only[Bool.false_eq_true,if_false,false_and];rw[if_neg (by simp)];show _=some (metOf _);rw[D5];rfl
 |true=>
  simp only[if_true,true_and]
  by_cases e:getM ⟨0,0⟩ (k:Int) W=l
  ·rw[if_neg (fun h=>h.2 (by rw[e])),if_neg (fun h=>h e)];show _=some (metOf _);rw[D5];rfl
  ·rw[if_pos ⟨by simp,by simpa using e⟩,if_pos e];rfl
theorem Iu{S T:Type}{p:BProg}{c:CProg}{env:Int}{next:Bool}{f:S->T}{g:Nat->CLev->S->Option S}{h:Nat->CLev->T->Option T}(e:∀k l s,h k l (f s)=(g k l s).map f): ∀(n q:Nat) (met:Met) (s:S),Gg p c env next h n q met (f s)=(Gg p c env next g n q met s).map f
 |0,_,_,_=>rfl
 | n+1,q,met,s=>by
  rw[Gg,Gg]
  split
  ·exact Iu e n _ _ _
  ·split
   ·rfl
   ·rw[e]
    cases g q _ s with
    |none=>rfl
    |some s'=>exact Iu e n _ _ _
theorem OY{S T:Type}{p:BProg}{c:CProg}{x:CSt}{f:S->T}{g:Nat->CLev->S->Option S}{h:Nat->CLev->T->Option T}(e:∀k l s,h k l (f s)=(g k l s).map f)(s:S):BH p c x h (f s)=(BH p c x g s).map f:=by
 unfold BH
 split
 ·rfl
 ·exact Iu e _ _ _ _
def allL(p:BProg)(c:CProg):List CSt->MetL->Option MetL
 |[],W=>some W
 |s::r,W=>match BH p c s Fw W with
  |none=>none
  |some V=>allL p c r V
theorem OS{p:BProg}{c:CProg}(hf:∀q:Nat,(AC c q).op=17\/(AC c q).op=18->(q:Int)<(AC c q).a): ∀(l:List CSt) (W:MetL),Fm p c l (metOf W)=(allL p c l W).map metOf
 |[],_=>rfl
 | s::r,W=>by
  rw[Fm,allL]
  have h:=TX (p:=p) hf s (metOf W)
  rw[OY (f:=metOf) UE]at h
  cases hw:wayM p c s with
  |none=>
   rw[hw]at h
   simp only at h
   cases hl:BH p c s Fw W with
   |none=>rfl
   |some V=>rw[hl]at h;cases h
  |some w=>
   rw[hw]at h
   simp only at h⊢
   rw[<-h]
   cases hl:BH p c s Fw W with
   |none=>rfl
   |some V=>exact OS hf r V
def H2(N:Nat)(W:MetL):Prop:=(W.map (·.1)).Nodup /\ ∀x∈W,0<=x.1/\x.1<N
theorem H5(k:Int): ∀m:MetL,hasM k m=true ↔ k∈m.map (·.1)
 |[]=>by simp[hasM]
 |x::m=>by rw[hasM,List.map_cons,List.mem_cons,Bool.or_eq_true,decide_eq_true_eq,H5 k m]
theorem IL(k:Int)(l:CLev): ∀m:MetL,(putM k l m).map (·.1)=if hasM k m then m.map (·.1) else m.map (·.1)++[k]
 |[]=>by simp[putM,hasM]
 | x::m=>by
  rw[putM,hasM]
  by_cases e:k=x.1
  ·subst e;simp
  ·rw[if_neg e]
   have:decide (k=x.1)=false:=by simp[e]
   rw[this,Bool.false_or,List.map_cons,IL k l m]
   split<;>simp
theorem Pk{N:Nat}{W:MetL}(h:H2 N W){k:Nat}(hk:k<N)(l:CLev):H2 N (putM (k:Int) l W):=by
 have hm:∀x:Int,x∈(putM (k:Int) l W).map (·.1)->0<=x/\x<N:=fun x hx=>by
  rw[IL]at hx
  split at hx
  ·obtain⟨y,hy,rfl⟩:=List.mem_map.1 hx;exact h.2 y hy
  ·rcases List.mem_append.1 hx with hx|hx
   ·obtain⟨y,hy,rfl⟩:=List.mem_map.1 hx;exact h.2 y hy
   ·rw[List.mem_singleton]at hx;omega
 refine⟨?_,fun x hx=>hm x.1 (List.mem_map.2 ⟨x,hx,rfl⟩)⟩
 rw[IL]
 split
 ·exact h.1
 ·rename_i hn
  refine List.nodup_append.2 ⟨h.1,by simp,fun a ha b hb=>?_⟩
  rw[List.mem_singleton]at hb
  subst hb
  intro e;subst e
  exact hn ((H5 _ _).2 ha)
theorem M0: ∀(N:Nat) (l:List Int),l.Nodup->(∀x∈l,0<=x/\x<N)->l.length<=N/\(l.length=N ↔ ∀k:Nat,k<N->(k:Int)∈l)
 | 0,l,_,hl=>by
  have:l=[]:=by
   cases l with
   |nil=>rfl
   |cons x l=>have:=hl x (by simp);omega
  subst this;simp
 | N+1,l,hn,hl=>by
  have h1:=M0 N (l.erase (N:Int)) (hn.erase _) fun x hx=>by
   have h2:=(hn.mem_erase_iff).1 hx
   have:=hl x h2.2;have:=h2.1;omega
  have hm:∀k:Nat,k<N->((k:Int)∈l.erase (N:Int) ↔ (k:Int)∈l):=fun k hk=>by
   rw[hn.mem_erase_iff];exact⟨fun h=>h.2,fun h=>⟨by omega,h⟩⟩
  by_cases hN:(N:Int)∈l
  ·have hlen:=List.length_erase_of_mem hN
   have ae:0<l.length:=List.length_pos_of_mem hN
   refine⟨by omega,fun h k hk=>?_,fun h=>?_⟩
   ·by_cases e:k=N
    ·subst e;exact hN
    ·exact(hm k (by omega)).1 (h1.2.1 (by omega) k (by omega))
   ·have:=h1.2.2 fun k hk=>(hm k hk).2 (h k (by omega))
    omega
  ·rw[List.erase_of_not_mem hN]at h1
   exact⟨by omega,fun h=>by omega,fun h=>absurd (h N (by omega)) hN⟩
theorem Q1{N:Nat}{W:MetL}(h:H2 N W):(W.length=N) ↔ (List.range N).all (fun k=>(metOf W k).isSome)=true:=by
 have:=(M0 N (W.map (·.1)) h.1 fun x hx=>by obtain⟨y,hy,rfl⟩:=List.mem_map.1 hx;exact h.2 y hy).2
 rw[List.length_map]at this
 rw[this,List.all_eq_true]
 constructor
 ·intro h k hk
  unfold metOf;rw[if_pos ((H5 _ _).2 (h k (by simpa using hk)))];rfl
 ·intro h k hk
  have:=h k (by simpa using hk)
  unfold metOf at this
  split at this
  ·rename_i h2;exact(H5 _ _).1 h2
  ·cases this
theorem HH{p:BProg}{c:CProg}{env:Int}{next:Bool}: ∀(n q:Nat) (met:Met) (W V:MetL),q+n<=c.ins.length->H2 c.ins.length W->Gg p c env next Fw n q met W=some V->H2 c.ins.length V
 |0,_,_,_,_,_,h,e=>by cases e;exact h
 | n+1,q,met,W,V,hq,h,e=>by
  rw[Gg]at e
  split at e
  ·exact HH n _ _ _ _ (by omega) h e
  ·split at e
   ·cases e
   ·split at e
    ·cases e
    ·rename_i s' hs
     unfold Fw at hs
     split at hs
     ·cases hs
     ·cases hs
      exact HH n _ _ _ _ (by omega) (Pk h (by omega) _) e
theorem Pj{p:BProg}{c:CProg}{x:CSt}{W V:MetL}(h:H2 c.ins.length W)(e:BH p c x Fw W=some V):H2 c.ins.length V:=by
 unfold BH at e
 split at e
 ·cases e
 ·exact HH _ _ _ _ _ (by omega) h e
theorem Kl{p:BProg}{c:CProg}: ∀(l:List CSt) (W V:MetL),H2 c.ins.length W->allL p c l W=some V->H2 c.ins.length V
 |[],_,_,h,e=>by cases e;exact h
 | s::r,W,V,h,e=>by
  rw[allL]at e
  split at e
  ·cases e
  ·rename_i V1 h1
   exact Kl r _ _ (Pj h h1) e
def It(p:BProg)(c:CProg):Option MetL:=match allL p c (stsQ p c) []with
 |none=>none
 |some W=>if W.length=c.ins.length then some W else none
theorem OX{p:BProg}{c:CProg}(hf:∀q:Nat,(AC c q).op=17\/(AC c q).op=18->(q:Int)<(AC c q).a):Fo p c (stsQ p c)=(It p c).map fun W=>(List.range c.ins.length).map fun k:Nat=>getM ⟨0,0⟩ (k:Int) W:=by
 unfold Fo It
 rw[<-QM,OS hf]
 cases h:allL p c (stsQ p c) []with
 |none=>rfl
 | some W =>
  have hk:=Kl _ _ _ ⟨by simp,by simp⟩ h
  have hw:=Q1 hk
  show(if _ then _ else _)=_
  simp only
  by_cases e:W.length=c.ins.length
  ·rw[if_pos e,if_pos (hw.1 e)]
   simp only[Option.map_some,Option.some.injEq]
   refine List.map_congr_left fun k aI=>?_
   have:=List.all_eq_true.1 (hw.1 e) k aI
   unfold metOf at this⊢
   split at this
   ·rename_i h2;rw[if_pos h2];rfl
   ·cases this
  ·rw[if_neg e,if_neg (fun h=>e (hw.2 h))];rfl
def C0(p:BProg)(c:CProg):Option MetL:=
 if okP p&&(decide (c.ins.length<=300)&&(decide (c.starts.length=p.methods.length)&&Cl p c.ins.length c.ins 0)) then It p c else none
theorem HU{p:BProg}{N:Nat}: ∀(l:List CIns) (q:Nat),Cl p N l q=true->∀(i:Nat) (x:CIns),l[i]? = some x->fitsQ p N (q+i) x=true
 |[],_,_,_,_,h=>by simp at h
 |y::l,q,h,i,x,hx=>by
  rw[Cl,Bool.and_eq_true]at h
  cases i with
  |zero=>simp at hx;subst hx;exact h.1
  |succ i=>simp at hx;have:=HU l (q+1) h.2 i x hx;rwa [show q+1+i=q+(i+1) by omega]at this
theorem UG{p:BProg}{c:CProg}(h:Cl p c.ins.length c.ins 0=true): ∀q:Nat,(AC c q).op=17\/(AC c q).op=18->(q:Int)<(AC c q).a:=fun q ho=>by
 unfold AC at ho⊢
 cases hx:c.ins[q]? with
 |none=>rw[hx]at ho;simp at ho
 |some x=>
  rw[hx]at ho
  have:=HU _ _ h q x hx
  unfold fitsQ at this
  simp only[Option.getD_some]at ho⊢
  rcases ho with e|e<;>rw[e]at this<;>simp at this<;>omega
theorem Pe(p:BProg)(c:CProg):Ll p c=(C0 p c).map fun W=>(List.range c.ins.length).map fun k:Nat=>getM ⟨0,0⟩ (k:Int) W:=by
 unfold Ll C0
 split
 ·rename_i h
  simp only[Bool.and_eq_true,decide_eq_true_eq]at h
  exact OX (UG h.2.2.2)
 ·rfl
def toC(p:BProg)(x:CIns)(l:CLev):CLev:=
 ⟨l.st-(Ah p x).1+(Ah p x).2,if x.op=14 then l.env+1 else if x.op=15 then l.env-1 else l.env⟩
structure InsOK(p:BProg)(N k:Nat)(x:CIns)(l:CLev)(m:Met)(env:Int)(next:Bool):Prop where
 take:(Ah p x).1<=l.st
 name:x.op=3->x.a<l.env
 drop:x.op=15->env<l.env
 nexts:x.op=20->next=true
 fin:x.op=21->l.st=1/\l.env=env
 on:x.op≠21->x.op≠18->k+1<N/\m (k+1)=some (toC p x l)
 jump:x.op=17\/x.op=18->0<=x.a/\x.a<N/\m x.a.toNat=some (toC p x l)
theorem Eh{N:Nat}{met m:Met}{n:Int}{l:CLev}(h:BJ N met n l=some m):0<=n/\n<N/\m n.toNat=some l /\ ∀j x,met j=some x->m j=some x:=by
 unfold BJ at h
 split at h
 ·cases h
 ·rename_i e
  cases h
  refine⟨by omega,by omega,by unfold updM;rw[if_pos rfl],fun j x hx=>?_⟩
  unfold updM
  by_cases ej:j=n.toNat
  ·rw[if_pos ej]
   subst ej
   rw[hx]at e
   by_cases el:x=l
   ·rw[el]
   ·exact absurd (.inr (.inr ⟨by simp,by simpa using el⟩)) e
  ·rw[if_neg ej];exact hx
theorem InsOK.mono{p:BProg}{N k:Nat}{x:CIns}{l:CLev}{m m':Met}{env:Int}{next:Bool}(h:InsOK p N k x l m env next)(hm:∀j x,m j=some x->m' j=some x):InsOK p N k x l m' env next:=
 ⟨h.take,h.name,h.drop,h.nexts,h.fin,fun a b=>⟨(h.on a b).1,hm _ _ (h.on a b).2⟩,fun a=>⟨(h.jump a).1,(h.jump a).2.1,hm _ _ (h.jump a).2.2⟩⟩
section
variable {p:BProg}{c:CProg}{env:Int}{next:Bool}
theorem Qb {q:Nat} {x:CIns} {l:CLev} {met m:Met} (h:CG p c env next q x l met=some m):InsOK p c.ins.length q x l m env next /\ ∀ j x,met j=some x->m j=some x:=by
 unfold CG at h
 split at h
 ·cases h
 ·rename_i e0
  have t:(Ah p x).1<=l.st:=by omega
  have nm:x.op=3->x.a<l.env:=fun h3=>by omega
  have dr:x.op=15->env<l.env:=fun h3=>by omega
  have nx:x.op=20->next=true:=fun aM=>by
   cases next with
   |true=>rfl
   |false=>exact absurd (.inr (.inr (.inr ⟨aM,rfl⟩))) e0
  split at h
  ·rename_i ak
   split at h
   ·rename_i e
    cases h
    exact⟨⟨t,nm,dr,nx,fun _=>e,fun a=>absurd ak a,fun a=>by omega⟩,fun _ _ h=>h⟩
   ·cases h
  ·rename_i ak
   split at h
   ·rename_i ai
    obtain⟨r1,r2,r3,r4⟩:=Eh h
    rw[show((q:Int)+1).toNat=q+1 by omega]at r3
    exact⟨⟨t,nm,dr,nx,fun a=>absurd a ak,fun _ _=>⟨by omega,by unfold toC;rw[if_pos ai];exact r3⟩,fun a=>by omega⟩,r4⟩
   ·rename_i ai
    split at h
    ·rename_i ah
     obtain⟨r1,r2,r3,r4⟩:=Eh h
     rw[show((q:Int)+1).toNat=q+1 by omega]at r3
     exact⟨⟨t,nm,dr,nx,fun a=>absurd a ak,fun _ _=>⟨by omega,by unfold toC;rw[if_neg ai,if_pos ah];exact r3⟩,fun a=>by omega⟩,r4⟩
    ·rename_i ah
     have eto:toC p x l=⟨l.st-(Ah p x).1+(Ah p x).2,l.env⟩:=by unfold toC;rw[if_neg ai,if_neg ah]
     split at h
     ·rename_i ar
      obtain⟨r1,r2,r3,r4⟩:=Eh h
      exact⟨⟨t,nm,dr,nx,fun a=>absurd a ak,fun _ a=>absurd ar a,fun _=>⟨r1,r2,by rw[eto];exact r3⟩⟩,r4⟩
     ·rename_i ar
      split at h
      ·split at h
       ·cases h
       ·rename_i m1 e1
        obtain⟨s1,s2,s3,s4⟩:=Eh e1
        obtain⟨r1,r2,r3,r4⟩:=Eh h
        rw[show((q:Int)+1).toNat=q+1 by omega]at r3
        exact⟨⟨t,nm,dr,nx,fun a=>absurd a ak,fun _ _=>⟨by omega,by rw[eto];exact r3⟩,fun _=>⟨s1,s2,by rw[eto];exact r4 _ _ s3⟩⟩,fun j x hx=>r4 j x (s4 j x hx)⟩
      ·rename_i aF
       obtain⟨r1,r2,r3,r4⟩:=Eh h
       rw[show((q:Int)+1).toNat=q+1 by omega]at r3
       exact⟨⟨t,nm,dr,nx,fun a=>absurd a ak,fun _ _=>⟨by omega,by rw[eto];exact r3⟩,fun a=>absurd a (by omega)⟩,r4⟩
theorem step_to {q:Nat} {x:CIns} {l:CLev} {met m:Met} (h:CG p c env next q x l met=some m) (j:Nat):m j=met j\/m j=some (toC p x l):=by
 unfold CG at h
 split at h
 ·cases h
 ·split at h
  ·split at h
   ·cases h;exact .inl rfl
   ·cases h
  ·split at h
   ·rename_i ai
    refine(reach_at h j).imp id fun e=>?_
    unfold toC;rw[if_pos ai];exact e.2
   ·rename_i ai
    split at h
    ·rename_i ah
     refine(reach_at h j).imp id fun e=>?_
     unfold toC;rw[if_neg ai,if_pos ah];exact e.2
    ·rename_i ah
     have eto:toC p x l=⟨l.st-(Ah p x).1+(Ah p x).2,l.env⟩:=by unfold toC;rw[if_neg ai,if_neg ah]
     rw[eto]
     split at h
     ·exact(reach_at h j).imp id fun e=>e.2
     ·split at h
      ·split at h
       ·cases h
       ·rename_i e0
        rcases reach_at h j with e|e
        ·exact(reach_at e0 j).imp e.trans fun e2=>e.trans e2.2
        ·exact .inr e.2
      ·exact(reach_at h j).imp id fun e=>e.2
theorem II: ∀(f q:Nat) (met m:Met),Cy p c env next f q met=some m->∀j x,met j=some x->m j=some x
 |0,_,_,_,h,_,_,hx=>by cases h;exact hx
 | f+1,q,met,m,h,j,x,hx=>by
  rw[Cy]at h
  split at h
  ·exact II f _ _ _ h j x hx
  ·split at h
   ·cases h
   ·rename_i e
    exact II f _ _ _ h j x ((Qb e).2 j x hx)
theorem Q6(p:BProg)(x:CIns):0<=(Ah p x).2:=by
 unfold Ah
 split;simp
 split;simp
 split;simp
 split;simp
 split;simp
 split;simp
 simp
theorem Nk (hf : ∀ q:Nat,(AC c q).op=17\/(AC c q).op=18->(q:Int) < (AC c q).a) : ∀ (f q:Nat) (met m:Met),Cy p c env next f q met=some m->(∀ j l,met j=some l->q<=j/\j < q+f/\0<=l.st/\env<=l.env\/InsOK p c.ins.length j (AC c j) l met env next/\0<=l.st/\env<=l.env) ->
  q+f=c.ins.length->∀j l,m j=some l->InsOK p c.ins.length j (AC c j) l m env next/\0<=l.st/\env<=l.env
 |0,q,met,m,h,hI,_,j,l,hl=>by
  cases h
  rcases hI j l hl with h|h
  ·omega
  ·exact h
 | f+1,q,met,m,h,hI,hN,j,l,hl=>by
  rw[Cy]at h
  split at h
  ·rename_i hq
   refine Nk hf f _ _ _ h (fun i l' hi=>?_) (by omega) j l hl
   rcases hI i l' hi with h'|h'
   ·by_cases e:i=q
    ·subst e;rw[hq]at hi;cases hi
    ·exact .inl (by omega)
   ·exact .inr h'
  ·rename_i l0 hq
   split at h
   ·cases h
   ·rename_i m0 e
    obtain⟨o1,o2⟩:=Qb e
    have h0:0<=l0.st/\env<=l0.env:=by
     rcases hI q l0 hq with h'|h'
     ·exact⟨h'.2.2.1,h'.2.2.2⟩
     ·exact h'.2
    refine Nk hf f _ _ _ h (fun i l' hi=>?_) (by omega) j l hl
    by_cases eq:i=q
    ·subst eq
     have:=o2 i l0 hq
     rw[this]at hi;cases hi
     exact .inr ⟨o1,h0⟩
    ·rcases L3 e (hf q) i with e2|⟨e2,_⟩
     ·rw[e2]at hi
      rcases hI i l' hi with h'|h'
      ·exact .inl (by omega)
      ·exact .inr ⟨h'.1.mono o2,h'.2⟩
     ·have aN:i<c.ins.length:=Classical.byContradiction fun hn=>by
       have hd:=NV e (fun j hj=>by
        cases hm:met j with
        |none=>rfl
        | some y =>
         rcases hI j y hm with h'|h'
         ·omega
         ·exfalso
          have:c.ins[j]? = none:=List.getElem?_eq_none (by omega)
          have hz:AC c j=⟨0,0⟩:=by unfold AC;rw[this];rfl
          rw[hz]at h'
          have:=(h'.1.on (by simp) (by simp)).1
          omega) i (by omega)
       rw[hd]at hi;cases hi
      have g:m0 i=met i\/l'=toC p (AC c q) l0:=(step_to e i).imp id fun e3=>by rw[hi]at e3;exact Option.some.inj e3
      rcases g with g|g
      ·rw[g]at hi
       rcases hI i l' hi with h'|h'
       ·exact .inl (by omega)
       ·exact .inr ⟨h'.1.mono o2,h'.2⟩
      ·refine .inl ⟨by omega,by omega,?_,?_⟩
       ·rw[g];unfold toC;simp only
        have:(Ah p (AC c q)).1<=l0.st:=o1.take
        have:=Q6 p (AC c q)
        omega
       ·rw[g];unfold toC;simp only
        split
        ·omega
        ·split
         ·rename_i _ ah
          have:=o1.drop ah
          omega
         ·omega
end
theorem Ri{p:BProg}{c:CProg}(h:FJ p c.ins.length c.ins 0=true)(q:Nat)(aa:(AC c q).op=17\/(AC c q).op=18):(q:Int)<(AC c q).a:=by
 have ha:AC c q=((c.ins[q]?).getD ⟨0,0⟩):=rfl
 rw[ha]at aa⊢
 cases hc:c.ins[q]? with
 |none=>rw[hc]at aa;simp at aa
 |some y=>
  rw[hc]at aa
  simp only[Option.getD_some]at aa⊢
  have:=(Ew _ _).1 h q y hc
  unfold fitsC at this
  rw[if_neg (by omega),if_neg (by omega),if_neg (by omega),if_neg (by omega),if_pos aa]at this
  simp only[decide_eq_true_eq]at this
  omega
theorem way_ok{p:BProg}{c:CProg}(hf:∀q:Nat,(AC c q).op=17\/(AC c q).op=18->(q:Int)<(AC c q).a){s:CSt}{w:Met}(h:wayM p c s=some w):
  0<=s.pos/\s.pos<c.ins.length/\w s.pos.toNat=some ⟨0,s.env⟩ /\ ∀j l,w j=some l->InsOK p c.ins.length j (AC c j) l w s.env s.next/\0<=l.st/\s.env<=l.env:=by
 unfold wayM at h
 split at h
 ·cases h
 ·refine⟨by omega,by omega,II _ _ _ _ h _ _ (by unfold updM;rw[if_pos rfl]),?_⟩
  refine Nk hf _ _ _ _ h (fun j l hl=>?_) (by omega)
  unfold updM at hl
  split at hl
  ·cases hl;exact .inl ⟨by omega,by omega,by simp,by simp⟩
  ·cases hl
structure LevOK(p:BProg)(c:CProg)(m:Met)(nx:Bool):Prop where
 dom:∀(k:Nat) (l:CLev),m k=some l->k<c.ins.length
 ok:∀(k:Nat) (l:CLev),m k=some l->∃(env:Int) (next:Bool),InsOK p c.ins.length k (AC c k) l m env next/\0<=l.st/\env<=l.env/\0<=env/\(next=true->nx=true)
 fits:∀(k:Nat) (x:CIns),c.ins[k]? = some x->fitsC p c.ins.length k x=true
theorem QX{p:BProg}{c:CProg}{l:List CSt}{lv:List CLev}(h:Fo p c l=some lv): ∃W,Fm p c l (fun _=>none)=some W/\lv.length=c.ins.length /\ ∀k x,lv[k]? = some x ↔ W k=some x:=by
 unfold Fo at h
 cases hL:Fm p c l (fun _=>none)with
 |none=>rw[hL]at h;cases h
 | some W =>
  rw[hL]at h
  simp only at h
  split at h
  ·rename_i aj
   cases h
   refine⟨W,rfl,by rw[List.length_map,List.length_range],fun k x=>?_⟩
   by_cases hk:k<c.ins.length
   ·have:=List.all_eq_true.1 aj k (List.mem_range.2 hk)
    obtain⟨y,hy⟩:=Option.isSome_iff_exists.1 this
    rw[List.getElem?_map,List.getElem?_range hk,hy]
    simp[hy]
   ·rw[List.getElem?_eq_none (by rw[List.length_map,List.length_range];omega)]
    constructor
    ·intro e;cases e
    ·intro e
     rcases((EI _ _ _).1 hL).2.2 k x e with h|⟨s,_,w,hw,ap⟩
     ·cases h
     ·rw[Nd hw k (by omega)]at ap;cases ap
  ·cases h
theorem M9{p:BProg}{c:CProg}{lv:List CLev}(h:DJ p c=some lv):okP p=true/\lv.length=c.ins.length/\LevOK p c (fun j=>lv[j]?) true:=by
 unfold DJ at h
 split at h
 ·rename_i hc
  simp only[Bool.and_eq_true,decide_eq_true_eq]at hc
  obtain⟨ag,h1,h2,h3⟩:=hc
  have hf:=Ri h3
  obtain⟨W,hW,hl,hx⟩:=QX h
  have hI:=(EI _ _ _).1 hW
  refine⟨ag,hl,fun k l hk=>by rw[<-hl];exact(List.getElem?_eq_some_iff.1 hk).1,fun k l hk=>?_,fun k x hk=>by have:=(Ew _ _).1 h3 k x hk;rwa [Nat.zero_add]at this⟩
  rcases hI.2.2 k l ((hx k l).1 hk)with h|⟨s,hs,w,hw,ap⟩
  ·cases h
  ·obtain⟨w1,aB,ax⟩:=hI.2.1 s hs
   rw[hw]at aB;cases aB
   obtain⟨i1,i2,i3⟩:=(way_ok hf hw).2.2.2 k l ap
   refine⟨s.env,s.next,i1.mono fun j x hj=>(hx j x).2 (ax j x hj),i2,i3,?_,fun _=>rfl⟩
   unfold stsP at hs
   rcases List.mem_append.1 hs with hs|hs
   ·rw[<-List.map_uncurry_zip_eq_zipWith]at hs
    obtain⟨⟨m,n⟩,_,rfl⟩:=List.mem_map.1 hs
    exact(GA ag m.gen.toNat).1
   ·rw[List.mem_singleton]at hs;rw[hs];exact Int.le_refl 0
 ·cases h
structure MVal where
 kind:Int
 n:Int
 deriving DecidableEq
structure MThing where
 cls:Int
 slots:List MVal
 deriving DecidableEq
structure MEv where
 deed:Int
 n:Int
 vals:List MVal
 deriving DecidableEq
structure GoS where
 objs:List MThing
 evs:List MEv
 pos:Int
 stk:List MVal
 env:List MVal
structure GoH where
 kind:Int
 val:MVal
 gen:Int
 args:List MVal
 fin:Int
 pos:Int
 stk:List MVal
 env:List MVal
 objs:List MThing
 evs:List MEv
structure CWorld where
 own:Int->Bool
 slots:Int->List Int
 fresh:Int->List MVal
def EB:MVal:=⟨2,0⟩
def vInt(n:Int):MVal:=⟨1,n⟩
def vObj(n:Int):MVal:=⟨3,n⟩
def vZ:MVal:=⟨0,0⟩
def AJ(v:MVal):Int:=if v.kind=1 then v.n else 0
def DW(b:Bool):Int:=if b then 1 else 0
def E6(n:Int):Int:=min (max n (-1000000000)) 1000000000
def Hn(op:Int)(v w:MVal):MVal:=
 if op=9 then vInt (E6 (AJ v+AJ w)) else if op=10 then vInt (E6 (AJ v-AJ w)) else if op=11 then vInt (E6 (AJ v*AJ w)) else
 if op=12 then vInt (DW (decide (AJ v<AJ w))) else vInt (DW (decide (v=w)))
def okV(objs:Int)(v:MVal):Bool:=if v.kind=1 then decide (-1000000000<=v.n/\v.n<=1000000000) else if v.kind=2 then decide (v.n=0) else if v.kind=3 then decide (0<=v.n/\v.n<objs) else false
def okVs(objs:Int)(l:List MVal):Bool:=l.all (okV objs)
def Bh(w:CWorld)(l:List MThing):Bool:=decide (l.length<=40)&&l.all fun o=>w.own o.cls&&(decide (o.slots.length=(w.slots o.cls).length)&&okVs l.length o.slots)
def D4(l:List MThing)(n:Int):MThing:=(l[n.toNat]?).getD ⟨0,[]⟩
def Bk(w:CWorld)(objs:List MThing)(v:MVal)(s:Int):Int:=if v.kind=3 then idxG s (w.slots (D4 objs v.n).cls) 0 else -1
def CF(w:CWorld)(x:MThing)(c:Int):MThing:=
 ⟨c,List.zipWith (fun s v=>if 0<=idxG s (w.slots x.cls) 0 then(x.slots[(idxG s (w.slots x.cls) 0).toNat]?).getD vZ else v) (w.slots c) (w.fresh c)⟩
def DS(l:List MVal):MVal:=(l.getLast?).getD vZ
def setObj(l:List MThing)(n:Int)(x:MThing):List MThing:=l.set n.toNat x
def Gz(s:GoS)(e:Int)(stk:List MVal):GoH:=⟨4,vZ,0,[],e,0,[],[],s.objs,s.evs⟩
def IX(p:BProg)(w:CWorld)(x:CIns)(s:GoS):GoS ⊕ GoH:=
 let v:=DS s.stk
 let r:=s.stk.dropLast
 if x.op=1 then .inl { s with stk:=s.stk++[vInt x.a] }
 else if x.op=2 then .inl { s with stk:=s.stk++[EB] }
 else if x.op=3 then .inl { s with stk:=s.stk++[(s.env[x.a.toNat]?).getD vZ] }
 else if x.op=4 then(if 40<=s.objs.length then .inr (Gz s 8 r) else .inl { s with objs:=s.objs++[⟨x.a,w.fresh x.a⟩],stk:=s.stk++[vObj s.objs.length] })
 else if x.op=5 then(if Bk w s.objs v x.a<0 then .inr (Gz s 5 r) else .inl { s with stk:=r++[((D4 s.objs v.n).slots[(Bk w s.objs v x.a).toNat]?).getD vZ] })
 else if x.op=6 then(if v.kind=3 then .inl { s with objs:=setObj s.objs v.n (CF w (D4 s.objs v.n) x.a),stk:=r++[v] } else .inr (Gz s 6 r))
 else if x.op=7 then .inl { s with evs:=s.evs++[⟨2,0,[v]⟩],stk:=r++[v] }
 else if x.op=8 then(if Bk w s.objs (DS r) x.a<0 then .inr (Gz s 5 r) else
  .inl { s with objs:=setObj s.objs (DS r).n ⟨(D4 s.objs (DS r).n).cls,(D4 s.objs (DS r).n).slots.set (Bk w s.objs (DS r) x.a).toNat v⟩,stk:=r.dropLast++[v] })
 else if x.op=14 then .inl { s with env:=s.env++[v],stk:=r }
 else if x.op=15 then .inl { s with env:=s.env.dropLast }
 else if x.op=16 then .inl { s with stk:=r }
 else if x.op=17 then .inl { s with stk:=r,pos:=if AJ v=0 then x.a else s.pos }
 else if x.op=18 then .inl { s with pos:=x.a }
 else if x.op=19 then .inr ⟨2,vZ,x.a,s.stk.drop (s.stk.length-(p.gens.getD x.a.toNat 0).toNat),0,s.pos,s.stk.take (s.stk.length-(p.gens.getD x.a.toNat 0).toNat),s.env,s.objs,s.evs⟩
 else if x.op=20 then .inr ⟨3,vZ,0,[],0,s.pos,s.stk,s.env,s.objs,s.evs⟩
 else if x.op=21 then .inr ⟨1,v,0,[],0,0,[],[],s.objs,s.evs⟩
 else .inl { s with stk:=r.dropLast++[Hn x.op (DS r) v] }
def mRun(p:BProg)(w:CWorld)(c:CProg):Nat->GoS->GoH
 |0,s=>Gz s 0 []
 |f+1,s=>match IX p w (AC c s.pos.toNat) { s with pos:=s.pos+1 } with
  |.inl t=>mRun p w c f t
  |.inr h=>h
theorem Ba{N:Int}{l:List MVal}:okVs N l=true ↔ ∀v∈l,okV N v=true:=by unfold okVs;exact List.all_eq_true
theorem Uf{M N:Int}{v:MVal}(h:okV M v=true)(hN:M<=N):okV N v=true:=by
 unfold okV at h⊢
 split
 ·rw[if_pos (by assumption)]at h;exact h
 ·rw[if_neg (by assumption)]at h
  split
  ·rw[if_pos (by assumption)]at h;exact h
  ·rw[if_neg (by assumption)]at h
   split
   ·rw[if_pos (by assumption)]at h;simp only[decide_eq_true_eq]at h⊢; omega
   ·rw[if_neg (by assumption)]at h;exact h
theorem Fh{M N:Int}{l:List MVal}(h:okVs M l=true)(hN:M<=N):okVs N l=true:=Ba.2 fun v hv=>Uf (Ba.1 h v hv) hN
theorem Cs{N:Int}{l:List MVal}{v:MVal}(h:okVs N l=true)(hv:okV N v=true):okVs N (l++[v])=true:=Ba.2 fun x hx=>by
 rcases List.mem_append.1 hx with hx|hx
 ·exact Ba.1 h x hx
 ·rw[List.mem_singleton]at hx;rw[hx];exact hv
theorem CK{N:Int}{l:List MVal}(h:okVs N l=true):okVs N l.dropLast=true:=Ba.2 fun x hx=>Ba.1 h x (List.dropLast_subset l hx)
theorem EJ{N:Int}{l:List MVal}(h:okVs N l=true)(h1:1<=l.length):okV N (DS l)=true:=by
 unfold DS
 rw[List.getLast?_eq_getElem?, List.getElem?_eq_getElem (by omega)]
 exact Ba.1 h _ (List.getElem_mem _)
theorem BL{w:CWorld}{l:List MThing}:Bh w l=true ↔ l.length<=40 /\ ∀o∈l,w.own o.cls=true/\o.slots.length=(w.slots o.cls).length/\okVs l.length o.slots=true:=by
 unfold Bh
 simp only[Bool.and_eq_true,decide_eq_true_eq,List.all_eq_true]
theorem FP{w:CWorld}{l:List MThing}(h:Bh w l=true){v:MVal}(hv:okV l.length v=true)(h3:v.kind=3):(D4 l v.n)∈l/\0<=v.n/\v.n<l.length:=by
 unfold okV at hv
 rw[if_neg (by omega),if_neg (by omega),if_pos h3]at hv
 simp only[decide_eq_true_eq]at hv
 unfold D4
 rw[List.getElem?_eq_getElem (by omega)]
 exact⟨List.getElem_mem _,hv⟩
theorem Ka{w:CWorld}{l:List MThing}(h:Bh w l=true){n:Int}{x:MThing}(h1:w.own x.cls=true)(h2:x.slots.length=(w.slots x.cls).length)(h3:okVs l.length x.slots=true):Bh w (setObj l n x)=true:=by
 rw[BL]at h⊢
 unfold setObj
 rw[List.length_set]
 refine⟨h.1,fun o ho=>?_⟩
 rcases List.mem_or_eq_of_mem_set ho with ho|rfl
 ·exact h.2 o ho
 ·exact⟨h1,h2,h3⟩
theorem HJ{α}[DecidableEq α]{s:α}: ∀(l:List α) (k:Nat),0<=idxG s l k->k<=idxG s l k/\idxG s l k<k+l.length
 |[],_,h=>by rw[idxG]at h;omega
 | x::r,k,h=>by
  rw[idxG]at h⊢
  rw[List.length_cons]
  split
  ·omega
  ·rename_i e
   rw[if_neg e]at h
   have:=HJ r (k+1) h
   omega
structure WldOK(p:BProg)(w:CWorld):Prop where
 own:∀c:Int,3<=c->c<3+p.classes.length->w.own c=true
 len:∀c,w.own c=true->(w.fresh c).length=(w.slots c).length
 ok:∀c,w.own c=true->okVs 0 (w.fresh c)=true
theorem turn_ok{p:BProg}{w:CWorld}(hw:WldOK p w){N:Int}(hN:0<=N){x:MThing}{c:Int}(hc:w.own c=true)(hx:w.own x.cls=true)(hl:x.slots.length=(w.slots x.cls).length)(hs:okVs N x.slots=true):
  (CF w x c).slots.length=(w.slots c).length/\okVs N (CF w x c).slots=true:=by
 have hlen:=hw.len c hc
 unfold CF
 simp only
 refine⟨by rw[List.length_zipWith,hlen,Nat.min_self],Ba.2 fun v hv=>?_⟩
 rw[<-List.map_uncurry_zip_eq_zipWith]at hv
 obtain⟨⟨a,b⟩,aK,rfl⟩:=List.mem_map.1 hv
 simp only[Function.uncurry]
 split
 ·rename_i h0
  have:=HJ (s:=a) (w.slots x.cls) 0 (by exact_mod_cast h0)
  rw[List.getElem?_eq_getElem (by omega)]
  exact Ba.1 hs _ (List.getElem_mem _)
 ·exact Ba.1 (Fh (hw.ok c hc) hN) b (List.of_mem_zip aK).2
structure GInv(w:CWorld)(m:Met)(s:GoS):Prop where
 lo:0<=s.pos
 lev:∃l,m s.pos.toNat=some l/\(s.stk.length:Int)=l.st/\(s.env.length:Int)=l.env
 stk:okVs s.objs.length s.stk=true
 env:okVs s.objs.length s.env=true
 objs:Bh w s.objs=true
structure HInv(p:BProg)(w:CWorld)(m:Met)(nx:Bool)(at0:Int)(h:GoH):Prop where
 objs:Bh w h.objs=true
 kind:h.kind=1\/h.kind=2\/h.kind=3\/h.kind=4
 goes:h.kind=3->nx=true
 val:h.kind=1->okV h.objs.length h.val=true
 asks:h.kind=2->0<=h.gen/\h.gen<p.gens.length/\(h.args.length:Int)=p.gens.getD h.gen.toNat 0/\okVs h.objs.length h.args=true
 frame:h.kind=2\/h.kind=3->at0<h.pos/\(∃l,m h.pos.toNat=some l/\(h.stk.length:Int)+1=l.st/\(h.env.length:Int)=l.env)/\okVs h.objs.length h.stk=true/\okVs h.objs.length h.env=true
theorem Ug(N:Int)(op:Int)(v w:MVal):okV N (Hn op v w)=true:=by
 have hc:∀n,okV N (vInt (E6 n))=true:=fun n=>by
  unfold okV vInt E6
  simp only[if_true,decide_eq_true_eq]
  omega
 have ht:∀b,okV N (vInt (DW b))=true:=fun b=>by
  unfold okV vInt DW
  cases b<;>simp
 unfold Hn
 split
 ·exact hc _
 split
 ·exact hc _
 split
 ·exact hc _
 split
 ·exact ht _
 ·exact ht _
end Go.DL
