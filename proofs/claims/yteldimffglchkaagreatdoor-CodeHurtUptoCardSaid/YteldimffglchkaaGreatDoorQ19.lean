/- A part of the proof. -/
import Derived.Test.YteldimffglchkaaGreatDoorQ18
import Derived.Lib.Atoi
import Derived.Lib.ItoaNum
set_option linter.all false
namespace Go.DL
open Go.Proofs.Tryz
open Go Go.Proofs
def grpI(s:List UInt8):Option (Int×List UInt8):=match grpB 6 true 0 s with
 |none=>none
 |some (n,r)=>some ((n:Int),r)
def Hw(n:Int):Int:=if n % 2=1 then -((n+1) / 2) else n / 2
def FP(s:List UInt8):Option (CIns×List UInt8):=match s with
 |[]=>none
 | c::r=>if hasA c.toNat then (match grpI r with
   |none=>none
   |some (n,t)=>some (⟨c.toNat,Hw n⟩,t)) else some (⟨c.toNat,0⟩,r)
def Ck{α}(f:List UInt8->Option (α×List UInt8)):Nat->List UInt8->Option (List α×List UInt8)
 |0,s=>some ([],s)
 | k+1,s=>match f s with
  |none=>none
  |some (x,r)=>match Ck f k r with
   |none=>none
   |some (l,t)=>some (x::l,t)
def M5 (b:List UInt8):Option CProg:=match grpI b with
 |none=>none
 | some (n,b1)=>match Ck grpI n.toNat b1 with
  |none=>none
  | some (starts,b2)=>match grpI b2 with
   |none=>none
   | some (main,b3)=>match grpI b3 with
    |none=>none
    |some (k,b4)=>match Ck FP k.toNat b4 with
     |none=>none
     |some (ins,b5)=>if b5=[]/\CG ⟨ins,starts,main⟩=true then some ⟨ins,starts,main⟩ else none
def Fb(s:List UInt8):Option CProg:=if s.length<=1\/NJ s=false then none else match s.dropLast with
 |[]=>none
 |c::b=>if c=199 then M5 b else none
theorem PS: ∀k n,(hiB k n).length<=k
 |0,n=>by rw[hiB];simp
 | k+1,n=>by
  rw[hiB]
  split
  ·simp
  ·have:=PS k (n / 128)
   rw[List.length_append,List.length_singleton];omega
theorem N9: ∀k n,n<128 ^ k->∀j,k<=j->hiB j n=hiB k n
 |0,n,hn,j,_=>by
  have h0:n=0:=by simpa using hn
  subst h0
  cases j<;>rfl
 |k+1,n,hn,j,hj=>by
  obtain⟨i,rfl⟩:∃i,j=i+1:=⟨j-1,by omega⟩
  rw[hiB,hiB]
  split
  ·rfl
  ·rw[N9 k (n / 128) (Nat.div_lt_of_lt_mul (by rw[Nat.pow_succ]at hn;omega)) i (by omega)]
theorem Pa{c:CProg}{k:Nat}{x:UInt8}(hk:k<(Dg c).length)(hx:x≠(Dg c)[k]):Fb ((Dg c).set k x)=none:=by
 have hs:NJ ((Dg c).set k x)=false:=Sn hk hx
 unfold Fb
 rw[if_pos (.inr hs)]
def wordsC:List Str:=[[105,110,116],[110,111,110,101],[110,97,109,101],[110,101,119],[115,108,111,116],[116,117,114,110],[111,117,116],[115,101,116],[97,100,100],[115,117,98],[109,117,108],[108,101,115,115],[115,97,109,101],[108,101,116],[100,114,111,112],[112,111,112],[122,101,114,111],[106,117,109,112],[99,97,108,108],[110,101,120,116],[101,110,100]]
def Sc(op:Int):Str:=(wordsC[(op-1).toNat]?).getD []
def Fd(x:CIns):Str:=Sc x.op++(if hasA x.op then 32::Lib.itoa x.a else [])
def O1(c:CProg):Str:=listB (fun n=>Lib.itoa n++[32]) c.starts++58::32::Lib.itoa c.main
def Kx(c:CProg):Str:=listB (fun l=>l++[10]) (O1 c::c.ins.map Fd)
theorem D1: ∀(k u:Nat),u<10 ^ (k+1)->(Lib.decDigits u).length<=k+1
 |0,u,h=>by rw[Lib.decDigits,dif_pos (by omega)];simp
 | k+1,u,h=>by
  rw[Lib.decDigits]
  split
  ·simp
  ·have:=D1 k (u / 10) (Nat.div_lt_of_lt_mul (by rw[Nat.pow_succ]at h;omega))
   rw[List.length_append,List.length_singleton];omega
theorem K8{n:Int}(h:farN n=true):(Lib.itoa n).length<=10:=by
 unfold farN at h
 simp only[decide_eq_true_eq]at h
 unfold Lib.itoa
 rw[if_neg (by omega)]
 exact D1 9 _ (by omega)
theorem PN{n:Int}(h : -1000000000<=n/\n<=1000000000):(Lib.itoa n).length<=11:=by
 unfold Lib.itoa
 split
 ·have:=D1 9 n.natAbs (by omega)
  rw[List.length_cons];omega
 ·have:=D1 9 n.toNat (by omega)
  omega
theorem G2{α}{f:α->List UInt8}{m:Nat}: ∀(l:List α),(∀x∈l,(f x).length<=m)->(listB f l).length<=m*l.length
 |[],_=>by rw[listB];simp
 |x::r,h=>by
  have h1:=h x List.mem_cons_self
  have h2:=G2 r fun y hy=>h y (List.mem_cons_of_mem _ hy)
  rw[listB,List.length_append,List.length_cons,Nat.mul_succ];omega
theorem OJ: ∀k:Nat,k<21->((wordsC[k]?).getD []).length<=4/\(k=0->((wordsC[k]?).getD []).length=3):=by decide
theorem N1{x:CIns}(h:El x=true):(Fd x).length<=15:=by
 unfold El at h
 rw[Bool.and_eq_true]at h
 obtain⟨h1,h2⟩:=h
 simp only[decide_eq_true_eq]at h1
 obtain⟨w1,w2⟩:=OJ (x.op-1).toNat (by omega)
 unfold Fd Sc
 rw[List.length_append]
 cases e:hasA x.op with
 |false=>rw[if_neg (by simp),List.length_nil];omega
 | true =>
  rw[e,if_pos rfl]at h2
  rw[if_pos rfl,List.length_cons]
  split at h2
  ·rename_i e1
   have:=w2 (by omega)
   unfold inB at h2
   have:=PN (n:=x.a) (by simpa[Bool.and_eq_true,decide_eq_true_eq] using h2)
   omega
  ·have:=K8 h2
   omega
theorem Si{c:CProg}(h:CG c=true):(Kx c).length<=5000:=by
 unfold CG at h
 simp only[Bool.and_eq_true,decide_eq_true_eq,List.all_eq_true]at h
 obtain⟨h1,h2,h3,h4,h5⟩:=h
 have a:=G2 (f:=fun n=>Lib.itoa n++[32]) (m:=11) c.starts fun n hn=>by
  have:=K8 (h4 n hn)
  rw[List.length_append,List.length_singleton];omega
 have b:=G2 (f:=fun l:Str=>l++[(10:UInt8)]) (m:=16) (c.ins.map Fd) fun l hl=>by
  obtain⟨x,hx,rfl⟩:=List.mem_map.1 hl
  have:=N1 (h5 x hx)
  rw[List.length_append,List.length_singleton];omega
 have d:=K8 h3
 rw[List.length_map]at b
 unfold Kx O1
 rw[listB,List.length_append,List.length_append,List.length_append,List.length_cons,List.length_cons,List.length_singleton]
 omega
theorem Hm{n:Nat}(h:n<128 ^ 5):(digB n).length<=5:=by
 unfold digB
 rw[List.length_append,List.length_singleton,N9 4 (n / 128) (Nat.div_lt_of_lt_mul (by omega)) 10 (by omega)]
 have:=PS 4 (n / 128)
 omega
theorem LK{c:CProg}(h:CG c=true):(Dg c).length<=5000:=by
 unfold CG at h
 simp only[Bool.and_eq_true,decide_eq_true_eq,List.all_eq_true]at h
 obtain⟨h1,h2,h3,h4,h5⟩:=h
 have far:∀n:Int,farN n=true->(digB n.toNat).length<=5:=fun n hn=>by
  unfold farN at hn
  simp only[decide_eq_true_eq]at hn
  exact Hm (by omega)
 have a:=G2 (f:=fun n:Int=>digB n.toNat) (m:=5) c.starts fun n hn=>far n (h4 n hn)
 have b:=G2 (f:=insB) (m:=6) c.ins fun x hx=>by
  have hp:=h5 x hx
  unfold El at hp
  rw[Bool.and_eq_true]at hp
  unfold insB
  rw[List.length_cons]
  split
  ·rename_i e
   have am:=hp.2
   rw[if_pos e]at am
   have : -1000000000<=x.a/\x.a<=1000000000:=by
    split at am
    ·unfold inB at am
     simpa[Bool.and_eq_true,decide_eq_true_eq] using am
    ·unfold farN at am
     simp only[decide_eq_true_eq]at am
     omega
   have:=Hm (n:=PV x.a) (by unfold PV;split<;>omega)
   omega
  ·simp
 have d1:=far _ h3
 have d2:=Hm (n:=c.starts.length) (by omega)
 have d3:=Hm (n:=c.ins.length) (by omega)
 unfold Dg rawB
 rw[List.length_append,List.length_cons,List.length_append,List.length_append,List.length_append,List.length_append,List.length_singleton]
 omega
def fitL(p:BProg)(N:Nat)(q:Nat)(l:List CIns):Prop:= ∀(i:Nat) (x:CIns),l[i]? = some x->fitsC p N (q+i) x=true
section
variable {p:BProg}{N:Nat}
theorem fit_nil(q:Nat):fitL p N q []:=fun i x h=>by simp at h
theorem T4{q r:Nat}{x:CIns}{m:List CIns}(h:fitsC p N q x=true)(hr:r=q+1)(k:fitL p N r m):fitL p N q (x::m):=fun i y hy=>by
 cases i with
 |zero=>simp only[List.getElem?_cons_zero,Option.some.injEq]at hy;rw[<-hy];exact h
 |succ i=>
  rw[List.getElem?_cons_succ]at hy
  have:=k i y hy
  rw[hr,show q+1+i=q+(i+1) by omega]at this
  exact this
end
def EV(p:BProg)(N:Nat):List CIns->Nat->Bool
 |[],_=>true
 |x::r,q=>fitsC p N q x&&EV p N r (q+1)
theorem F9{p:BProg}{N:Nat}: ∀(l:List CIns) (q:Nat),EV p N l q=true ↔ fitL p N q l
 |[],q=>by rw[EV];exact⟨fun _=>fit_nil q,fun _=>rfl⟩
 | x::r,q=>by
  rw[EV,Bool.and_eq_true,F9 r]
  constructor
  ·rintro⟨a,b⟩;exact T4 a rfl b
  ·intro h
   refine⟨by have:=h 0 x rfl;rwa [Nat.add_zero]at this,fun i y hy=>?_⟩
   have:=h (i+1) y (by rw[List.getElem?_cons_succ];exact hy)
   rw[show q+1+i=q+(i+1) by omega]
   exact this
def Ec(p:BProg)(c:CProg):Option (List CLev):=
 if okP p&&(decide (c.ins.length<=300)&&(decide (c.starts.length=p.methods.length)&&EV p c.ins.length c.ins 0)) then G1 p c (stsP p c) else none
theorem reach_at{N:Nat}{met m:Met}{n:Int}{l:CLev}(h:BE N met n l=some m)(j:Nat):m j=met j\/((j:Int)=n/\m j=some l):=by
 unfold BE at h
 split at h
 ·cases h
 ·cases h
  unfold updM
  by_cases e:j=n.toNat
  ·rw[if_pos e];exact .inr ⟨by omega,rfl⟩
  ·rw[if_neg e];exact .inl rfl
section
variable {p:BProg}{c:CProg}{env:Int}{next:Bool}
theorem JR {q:Nat} {x:CIns} {l:CLev} {met m:Met} (h:E7 p c env next q x l met=some m) (hj:x.op=17\/x.op=18->(q:Int) < x.a) (j:Nat):m j=met j\/(q < j /\ ∃ l',m j=some l'/\l'.env<=l.env+1):=by
 unfold E7 at h
 split at h
 ·cases h
 ·split at h
  ·split at h
   ·cases h;exact .inl rfl
   ·cases h
  ·split at h
   ·rcases reach_at h j with e|⟨e,e2⟩
    ·exact .inl e
    ·exact .inr ⟨by omega,_,e2,by simp only;omega⟩
   ·split at h
    ·rcases reach_at h j with e|⟨e,e2⟩
     ·exact .inl e
     ·exact .inr ⟨by omega,_,e2,by simp only;omega⟩
    ·split at h
     ·rename_i bx
      have:=hj (.inr bx)
      rcases reach_at h j with e|⟨e,e2⟩
      ·exact .inl e
      ·exact .inr ⟨by omega,_,e2,by simp only;omega⟩
     ·split at h
      ·rename_i bz
       have:=hj (.inl bz)
       split at h
       ·cases h
       ·rename_i e0
        rcases reach_at h j with e|⟨e,e2⟩
        ·rcases reach_at e0 j with e1|⟨e1,e2⟩
         ·exact .inl (e.trans e1)
         ·exact .inr ⟨by omega,_,e.trans e2,by simp only;omega⟩
        ·exact .inr ⟨by omega,_,e2,by simp only;omega⟩
      ·rcases reach_at h j with e|⟨e,e2⟩
       ·exact .inl e
       ·exact .inr ⟨by omega,_,e2,by simp only;omega⟩
theorem OW{q:Nat}{x:CIns}{l:CLev}{met m:Met}(h:E7 p c env next q x l met=some m)(h3:x.op=3):x.a<l.env:=by
 unfold E7 at h
 split at h
 ·cases h
 ·omega
def AD(c:CProg)(q:Nat):CIns:=(c.ins[q]?).getD ⟨0,0⟩
theorem Dr(hf:∀q:Nat,(AD c q).op=17\/(AD c q).op=18->(q:Int)<(AD c q).a): ∀(f q:Nat) (met m:Met),Dh p c env next f q met=some m->∀j,j<q->m j=met j
 |0,_,_,_,h,_,_=>by cases h;rfl
 | f+1,q,met,m,h,j,hj=>by
  rw[Dh]at h
  split at h
  ·exact Dr hf f _ _ _ h j (by omega)
  ·split at h
   ·cases h
   ·rename_i e
    rw[Dr hf f _ _ _ h j (by omega)]
    rcases JR e (hf q) j with e2|⟨e2,_⟩
    ·exact e2
    ·omega
theorem HG(hf:∀q:Nat,(AD c q).op=17\/(AD c q).op=18->(q:Int)<(AD c q).a)(e0:Int): ∀(f q:Nat) (met m:Met),Dh p c env next f q met=some m->(∀j l,met j=some l->l.env<=e0+j)->
  ∀j l,q<=j->j<q+f->m j=some l->(AD c j).op=3->(AD c j).a<e0+j
 |0,_,_,_,_,_,_,_,_,_,_,_=>by omega
 | f+1,q,met,m,h,hE,j,l,h1,h2,hm,h3=>by
  rw[Dh]at h
  split at h
  ·rename_i hq
   by_cases hj:j=q
   ·subst hj
    rw[Dr hf f _ _ _ h j (by omega),hq]at hm
    cases hm
   ·exact HG hf e0 f _ _ _ h hE j l (by omega) (by omega) hm h3
  ·rename_i l0 hq
   split at h
   ·cases h
   ·rename_i m0 e
    by_cases hj:j=q
    ·subst hj
     have:=OW e h3
     have:=hE j l0 hq
     unfold AD
     omega
    ·refine HG hf e0 f _ _ _ h (fun i l' hi=>?_) j l (by omega) (by omega) hm h3
     rcases JR e (hf q) i with e2|⟨e2,l2,e3,e4⟩
     ·rw[e2]at hi;exact hE i l' hi
     ·rw[e3]at hi;cases hi
      have:=hE q l0 hq
      omega
theorem Sf(hf:∀q:Nat,(AD c q).op=17\/(AD c q).op=18->(q:Int)<(AD c q).a){s:CSt}{w:Met}(h:wayM p c s=some w)(h0:s.env<=3){j:Nat}{l:CLev}(hl:w j=some l)(h3:(AD c j).op=3):(AD c j).a<3+j:=by
 have hd:=LU h
 unfold wayM at h
 split at h
 ·cases h
 ·have hj:j<c.ins.length:=Classical.byContradiction fun hn=>by rw[hd j (by omega)]at hl;cases hl
  by_cases hq:s.pos.toNat<=j
  ·refine HG hf 3 _ _ _ _ h (fun i l' hi=>?_) j l hq (by omega) hl h3
   unfold updM at hi
   split at hi
   ·cases hi;simp only;omega
   ·cases hi
  ·rw[Dr hf _ _ _ _ h j (by omega)]at hl
   unfold updM at hl
   rw[if_neg (by omega)]at hl
   cases hl
end
def fitsQ(p:BProg)(N:Nat)(q:Nat)(x:CIns):Bool:=
 if x.op=1 then inB x.a else if x.op=3 then decide (0<=x.a/\x.a<=123+N) else if x.op=4\/x.op=6 then decide (3<=x.a/\x.a<3+p.classes.length) else if x.op=5\/x.op=8 then decide (0<=x.a/\x.a<p.slots) else
 if x.op=17\/x.op=18 then decide ((q:Int)<x.a/\x.a<N) else if x.op=19 then decide (0<=x.a/\x.a<p.gens.length) else decide (1<=x.op/\x.op<=21/\x.a=0)
def BU(p:BProg)(N:Nat):List CIns->Nat->Bool
 |[],_=>true
 |x::r,q=>fitsQ p N q x&&BU p N r (q+1)
theorem T1{p:BProg}{N q:Nat}{x:CIns}(h:fitsC p N q x=true)(h3:x.op=3->x.a<=123+N):fitsQ p N q x=true:=by
 unfold fitsC at h;unfold fitsQ
 by_cases e:x.op=3
 ·rw[if_neg (by omega),if_pos e]at h⊢
  simp only[decide_eq_true_eq]at h⊢
  exact⟨h,h3 e⟩
 ·rw[if_neg e]at h⊢
  exact h
theorem T3{p:BProg}{N q:Nat}{x:CIns}(h:fitsQ p N q x=true):fitsC p N q x=true:=by
 unfold fitsQ at h;unfold fitsC
 by_cases e:x.op=3
 ·rw[if_neg (by omega),if_pos e]at h⊢
  simp only[decide_eq_true_eq]at h⊢
  exact h.1
 ·rw[if_neg e]at h⊢
  exact h
theorem LP{p:BProg}{N:Nat}: ∀(l:List CIns) (q:Nat),BU p N l q=true->EV p N l q=true
 |[],_,_=>rfl
 |x::r,q,h=>by
  rw[BU,Bool.and_eq_true]at h
  rw[EV,T3 h.1,LP r _ h.2];rfl
theorem JF{p:BProg}{N:Nat}: ∀(l:List CIns) (q:Nat),EV p N l q=true->(∀(i:Nat) (x:CIns),l[i]? = some x->x.op=3->x.a<=123+N)->BU p N l q=true
 |[],_,_,_=>rfl
 |x::r,q,h,hn=>by
  rw[EV,Bool.and_eq_true]at h
  rw[BU,T1 h.1 (hn 0 x rfl),JF r _ h.2 fun i y hy=>hn (i+1) y (by rw[List.getElem?_cons_succ];exact hy)];rfl
def stsQ(p:BProg)(c:CProg):List CSt:=⟨c.main,0,false⟩::List.zipWith (Dt p) p.methods c.starts
def K5(p:BProg)(c:CProg):Option (List CLev):=
 if okP p&&(decide (c.ins.length<=300)&&(decide (c.starts.length=p.methods.length)&&BU p c.ins.length c.ins 0)) then G1 p c (stsQ p c) else none
theorem PI (p:BProg) (c:CProg):K5 p c=Ec p c:=by
 unfold K5 Ec
 have hs:G1 p c (stsQ p c)=G1 p c (stsP p c):=NZ fun s=>by unfold stsQ stsP;rw[List.mem_cons,List.mem_append,List.mem_singleton,or_comm]
 rw[hs]
 by_cases ah:okP p=true
 ·by_cases h1:c.ins.length<=300
  ·by_cases h2:c.starts.length=p.methods.length
   ·rw [ah,decide_eq_true h1,decide_eq_true h2,Bool.true_and,Bool.true_and,Bool.true_and,Bool.true_and]
    cases hq:BU p c.ins.length c.ins 0 with
    |true=>rw[LP _ _ hq];rfl
    | false =>
     cases hf:EV p c.ins.length c.ins 0 with
     |false=>rfl
     | true =>
      rw[if_neg (by simp)]
      change none=G1 p c (stsP p c)
      cases hl:G1 p c (stsP p c)with
      |none=>rfl
      | some lv =>
       exfalso
       have aT:=hq
       rw[JF _ _ hf]at aT
       ·cases aT
       intro i x hx h3
       have hi:i<c.ins.length:=(List.getElem?_eq_some_iff.1 hx).1
       have ha:∀q,AD c q=((c.ins[q]?).getD ⟨0,0⟩):=fun _=>rfl
       have aN:∀q:Nat,(AD c q).op=17\/(AD c q).op=18->(q:Int)<(AD c q).a:=fun q ap=>by
        rw[ha]at ap⊢
        cases hc:c.ins[q]? with
        |none=>rw[hc]at ap;simp at ap
        |some y=>
         rw[hc]at ap
         simp only[Option.getD_some]at ap⊢
         have:=(F9 _ _).1 hf q y hc
         unfold fitsC at this
         rw[if_neg (by omega),if_neg (by omega),if_neg (by omega),if_neg (by omega),if_pos ap]at this
         simp only[decide_eq_true_eq]at this
         omega
       unfold G1 at hl
       cases hL:Fc p c (stsP p c) (fun _=>none)with
       |none=>rw[hL]at hl;cases hl
       | some W =>
        rw[hL]at hl
        simp only at hl
        split at hl
        ·rename_i aQ
         have:=List.all_eq_true.1 aQ i (List.mem_range.2 hi)
         obtain⟨l,hW⟩:=Option.isSome_iff_exists.1 this
         rcases((F1 _ _ _).1 hL).2.2 i l hW with h|⟨s,hs,w,hw,bd⟩
         ·cases h
         ·have aO:s.env<=3:=by
           unfold stsP at hs
           rcases List.mem_append.1 hs with hs|hs
           ·rw[<-List.map_uncurry_zip_eq_zipWith]at hs
            obtain⟨⟨m,n⟩,_,rfl⟩:=List.mem_map.1 hs
            exact(GP ah m.gen.toNat).2
           ·rw[List.mem_singleton]at hs;rw[hs];simp
          have e:AD c i=x:=by rw[ha,hx];rfl
          have:=Sf aN hw aO bd (by rw[e];exact h3)
          rw[e]at this
          omega
        ·cases hl
   ·rw[ah,decide_eq_true h1,decide_eq_false h2];rfl
  ·rw[ah,decide_eq_false h1];rfl
 ·rw[Bool.not_eq_true]at ah
  rw[ah];rfl
def Fm {S:Type} (p:BProg) (c:CProg) (env:Int) (next:Bool) (step:Nat->CLev->S->Option S):Nat->Nat->Met->S->Option S
 |0,_,_,s=>some s
 | f+1,q,met,s=>match met q with
  |none=>Fm p c env next step f (q+1) met s
  | some l=>match E7 p c env next q (AD c q) l met with
   |none=>none
   |some m=>match step q l s with
    |none=>none
    |some s'=>Fm p c env next step f (q+1) m s'
def Bw{S:Type}(p:BProg)(c:CProg)(x:CSt)(step:Nat->CLev->S->Option S)(s:S):Option S:=
 if x.pos<0\/(c.ins.length:Int)<=x.pos then none else Fm p c x.env x.next step (c.ins.length-x.pos.toNat) x.pos.toNat (updM (fun _=>none) x.pos.toNat ⟨0,x.env⟩) s
def Mh(k:Nat)(l:CLev)(W:Met):Option Met:=if W k≠none/\W k≠some l then none else some (updM W k l)
open Classical in
noncomputable def mrgF(q N:Nat)(W w:Met):Option Met:=
 if ∀k,q<=k->k<N->W k=none\/w k=none\/W k=w k then some (fun k=>if q<=k/\k<N then(match w k with|none=>W k|some x=>some x) else W k) else none
section
variable {p:BProg}{c:CProg}{env:Int}{next:Bool}
theorem MG (hf : ∀ q:Nat,(AD c q).op=17\/(AD c q).op=18->(q:Int) < (AD c q).a) : ∀ (f q:Nat) (met W:Met),Fm p c env next Mh f q met W=match Dh p c env next f q met with
  |none=>none
  |some w=>mrgF q (q+f) W w
 |0,q,met,W=>by
  rw[Fm,Dh]
  simp only[mrgF]
  rw[if_pos (fun k h1 h2=>by omega)]
  congr 1;funext k;rw[if_neg (by omega)]
 | f+1,q,met,W=>by
  rw[Fm,Dh]
  have ih:=MG hf f (q+1)
  cases hq:met q with
  | none =>
   simp only
   rw[ih]
   cases hs:Dh p c env next f (q+1) met with
   |none=>rfl
   | some w =>
    have hw:w q=none:=by rw[Dr hf f (q+1) met w hs q (by omega),hq]
    rw[show q+1+f=q+(f+1) by omega]
    simp only[mrgF]
    have e:(∀k,q+1<=k->k<q+(f+1)->W k=none\/w k=none\/W k=w k) ↔ (∀k,q<=k->k<q+(f+1)->W k=none\/w k=none\/W k=w k):=
     ⟨fun h k h1 h2=>Decidable.byCases (fun e:k=q=>by subst e;exact .inr (.inl hw)) fun e=>h k (by omega) h2,fun h k h1 h2=>h k (by omega) h2⟩
    by_cases hc:∀k,q<=k->k<q+(f+1)->W k=none\/w k=none\/W k=w k
    ·rw[if_pos (e.2 hc),if_pos hc]
     congr 1;funext k
     by_cases hk:k=q
     ·subst hk;rw[if_neg (by omega),if_pos (by omega),hw]
     ·by_cases h:q<=k/\k<q+(f+1)
      ·rw[if_pos h,if_pos (by omega)]
      ·rw[if_neg h,if_neg (by omega)]
    ·rw[if_neg hc,if_neg (fun h=>hc (e.1 h))]
  | some l =>
   simp only
   have hi:(c.ins[q]?).getD ⟨0,0⟩=AD c q:=rfl
   rw[hi]
   cases ae:E7 p c env next q (AD c q) l met with
   |none=>rfl
   | some m =>
    simp only
    have aU:m q=some l:=by
     rcases JR ae (hf q) q with h|⟨h,_⟩
     ·rw[h,hq]
     ·omega
    cases hg:Mh q l W with
    | none =>
     simp only
     cases hs:Dh p c env next f (q+1) m with
     |none=>rfl
     | some w =>
      have hw:w q=some l:=by rw[Dr hf f (q+1) m w hs q (by omega),aU]
      unfold Mh at hg
      split at hg
      ·rename_i hc
       simp only[mrgF]
       rw[if_neg]
       intro h
       rcases h q (by omega) (by omega)with h|h|h
       ·exact hc.1 h
       ·rw[hw]at h;cases h
       ·rw[hw]at h;exact hc.2 h
      ·cases hg
    | some V =>
     simp only
     rw[ih]
     cases hs:Dh p c env next f (q+1) m with
     |none=>rfl
     | some w =>
      have hw:w q=some l:=by rw[Dr hf f (q+1) m w hs q (by omega),aU]
      unfold Mh at hg
      split at hg
      ·cases hg
      ·rename_i hc
       cases hg
       have bu:W q=none\/W q=some l:=by
        cases h:W q with
        |none=>exact .inl rfl
        |some y=>right;exact Classical.byContradiction fun h2=>hc ⟨by rw[h];simp,by rw[h];exact h2⟩
       rw[show q+1+f=q+(f+1) by omega]
       simp only[mrgF]
       have hu:∀k,k≠q->updM W q l k=W k:=fun k hk=>by unfold updM;rw[if_neg hk]
       have e:(∀k,q+1<=k->k<q+(f+1)->updM W q l k=none\/w k=none\/updM W q l k=w k) ↔ (∀k,q<=k->k<q+(f+1)->W k=none\/w k=none\/W k=w k):=
        ⟨fun h k h1 h2=>by
         by_cases e:k=q
         ·subst e;rw[hw];rcases bu with h|h
          ·exact .inl h
          ·exact .inr (.inr h)
         ·have:=h k (by omega) h2;rwa [hu k e]at this,fun h k h1 h2=>by rw[hu k (by omega)];exact h k (by omega) h2⟩
       by_cases aC:∀k,q<=k->k<q+(f+1)->W k=none\/w k=none\/W k=w k
       ·rw[if_pos (e.2 aC),if_pos aC]
        congr 1;funext k
        by_cases hk:k=q
        ·subst hk;rw[if_neg (by omega),if_pos (by omega),hw];unfold updM;rw[if_pos rfl]
        ·rw[hu k hk]
         by_cases h:q<=k/\k<q+(f+1)
         ·rw[if_pos h,if_pos (by omega)]
         ·rw[if_neg h,if_neg (by omega)]
       ·rw[if_neg aC,if_neg (fun h=>aC (e.1 h))]
theorem EY{N:Nat}{met m:Met}{n:Int}{l:CLev}(h:BE N met n l=some m)(hm:∀j,N<=j->met j=none): ∀j,N<=j->m j=none:=fun j hj=>by
 rcases reach_at h j with e|⟨e,_⟩
 ·rw[e];exact hm j hj
 ·unfold BE at h
  split at h
  ·cases h
  ·rename_i hc;exfalso;omega
theorem step_hi {q:Nat} {x:CIns} {l:CLev} {met m:Met} (h:E7 p c env next q x l met=some m) (hm : ∀ j,c.ins.length<=j->met j=none) : ∀ j,c.ins.length<=j->m j=none:=by
 unfold E7 at h
 split at h
 ·cases h
 ·split at h
  ·split at h
   ·cases h;exact hm
   ·cases h
  ·split at h
   ·exact EY h hm
   ·split at h
    ·exact EY h hm
    ·split at h
     ·exact EY h hm
     ·split at h
      ·split at h
       ·cases h
       ·rename_i m1 h1
        exact EY h (EY h1 hm)
      ·exact EY h hm
theorem M2: ∀(f q:Nat) (met m:Met),Dh p c env next f q met=some m->(∀j,c.ins.length<=j->met j=none)->∀j,c.ins.length<=j->m j=none
 |0,_,_,_,h,hm=>by cases h;exact hm
 | f+1,q,met,m,h,hm=>by
  rw[Dh]at h
  split at h
  ·exact M2 f _ _ _ h hm
  ·split at h
   ·cases h
   ·rename_i m1 h1
    exact M2 f _ _ _ h (step_hi h1 hm)
theorem Sh(hf:∀q:Nat,(AD c q).op=17\/(AD c q).op=18->(q:Int)<(AD c q).a)(x:CSt)(W:Met):Bw p c x Mh W=match wayM p c x with
  |none=>none
  |some w=>mrgM c.ins.length W w:=by
 unfold Bw wayM
 split
 ·rfl
 ·rename_i hx
  rw[MG hf]
  cases hs:Dh p c x.env x.next (c.ins.length-x.pos.toNat) x.pos.toNat (updM (fun _=>none) x.pos.toNat ⟨0,x.env⟩)with
  |none=>rfl
  | some w =>
   simp only
   have aV:∀k,k<x.pos.toNat->w k=none:=fun k hk=>by rw[Dr hf _ _ _ _ hs k hk];unfold updM;rw[if_neg (by omega)]
   have bq:∀k,c.ins.length<=k->w k=none:=M2 _ _ _ _ hs fun j hj=>by unfold updM;rw[if_neg (by omega)]
   rw[show x.pos.toNat+(c.ins.length-x.pos.toNat)=c.ins.length by omega]
   unfold mrgF mrgM
   have e:(∀k,x.pos.toNat<=k->k<c.ins.length->W k=none\/w k=none\/W k=w k) ↔ ((List.range c.ins.length).all (fun k=>W k=none||w k=none||W k=w k)=true):=by
    rw[List.all_eq_true]
    constructor
    ·intro h k hk
     simp only[Bool.or_eq_true,decide_eq_true_eq]
     by_cases h1:x.pos.toNat<=k
     ·rcases h k h1 (by simpa using hk)with h|h|h
      ·exact .inl (.inl h)
      ·exact .inl (.inr h)
      ·exact .inr h
     ·exact .inl (.inr (aV k (by omega)))
    ·intro h k _ h2
     have:=h k (by simpa using h2)
     simp only[Bool.or_eq_true,decide_eq_true_eq]at this
     rcases this with(h|h)|h
     ·exact .inl h
     ·exact .inr (.inl h)
     ·exact .inr (.inr h)
   by_cases hc:∀k,x.pos.toNat<=k->k<c.ins.length->W k=none\/w k=none\/W k=w k
   ·rw[if_pos hc,if_pos (e.1 hc)]
    congr 1;funext k
    split
    ·rfl
    ·have:w k=none:=by
      by_cases h:k<x.pos.toNat
      ·exact aV k h
      ·exact bq k (by omega)
     rw[this]
   ·rw[if_neg hc,if_neg (fun h=>hc (e.2 h))]
end
abbrev MetL:=List (Int×CLev)
def metOf(m:MetL):Met:=fun j=>if hasM (j:Int) m then some (getM ⟨0,0⟩ (j:Int) m) else none
theorem PB:metOf []=fun _=>none:=rfl
theorem CI(m:MetL)(n:Nat)(l:CLev):metOf (putM (n:Int) l m)=updM (metOf m) n l:=by
 funext j
 unfold metOf updM
 rw[G5,Eg]
 by_cases e:j=n
 ·subst e;simp
 ·have e':¬((j:Int)=n):=fun h=>e (by omega)
  simp[e,e']
def EJ(k:Nat)(l:CLev)(W:MetL):Option MetL:=if hasM (k:Int) W=true/\getM ⟨0,0⟩ (k:Int) W≠l then none else some (putM (k:Int) l W)
theorem SX(k:Nat)(l:CLev)(W:MetL):Mh k l (metOf W)=(EJ k l W).map metOf:=by
 unfold Mh EJ metOf
 cases h:hasM (k:Int) W with
 |false=>simp only[Bool.false_eq_true,if_false,false_and];rw[if_neg (by simp)];show _=some (metOf _);rw[CI];rfl
 |true=>
  simp only[if_true,true_and]
  by_cases e:getM ⟨0,0⟩ (k:Int) W=l
  ·rw[if_neg (fun h=>h.2 (by rw[e])),if_neg (fun h=>h e)];show _=some (metOf _);rw[CI];rfl
  ·rw[if_pos ⟨by simp,by simpa using e⟩,if_pos e];rfl
theorem Hr{S T:Type}{p:BProg}{c:CProg}{env:Int}{next:Bool}{f:S->T}{g:Nat->CLev->S->Option S}{h:Nat->CLev->T->Option T}(e:∀k l s,h k l (f s)=(g k l s).map f): ∀(n q:Nat) (met:Met) (s:S),Fm p c env next h n q met (f s)=(Fm p c env next g n q met s).map f
 |0,_,_,_=>rfl
 | n+1,q,met,s=>by
  rw[Fm,Fm]
  split
  ·exact Hr e n _ _ _
  ·split
   ·rfl
   ·rw[e]
    cases g q _ s with
    |none=>rfl
    |some s'=>exact Hr e n _ _ _
theorem NG{S T:Type}{p:BProg}{c:CProg}{x:CSt}{f:S->T}{g:Nat->CLev->S->Option S}{h:Nat->CLev->T->Option T}(e:∀k l s,h k l (f s)=(g k l s).map f)(s:S):Bw p c x h (f s)=(Bw p c x g s).map f:=by
 unfold Bw
 split
 ·rfl
 ·exact Hr e _ _ _ _
def allL(p:BProg)(c:CProg):List CSt->MetL->Option MetL
 |[],W=>some W
 |s::r,W=>match Bw p c s EJ W with
  |none=>none
  |some V=>allL p c r V
theorem Nz{p:BProg}{c:CProg}(hf:∀q:Nat,(AD c q).op=17\/(AD c q).op=18->(q:Int)<(AD c q).a): ∀(l:List CSt) (W:MetL),Fc p c l (metOf W)=(allL p c l W).map metOf
 |[],_=>rfl
 | s::r,W=>by
  rw[Fc,allL]
  have h:=Sh (p:=p) hf s (metOf W)
  rw[NG (f:=metOf) SX]at h
  cases hw:wayM p c s with
  |none=>
   rw[hw]at h
   simp only at h
   cases hl:Bw p c s EJ W with
   |none=>rfl
   |some V=>rw[hl]at h;cases h
  |some w=>
   rw[hw]at h
   simp only at h⊢
   rw[<-h]
   cases hl:Bw p c s EJ W with
   |none=>rfl
   |some V=>exact Nz hf r V
def G3(N:Nat)(W:MetL):Prop:=(W.map (·.1)).Nodup /\ ∀x∈W,0<=x.1/\x.1<N
theorem G6(k:Int): ∀m:MetL,hasM k m=true ↔ k∈m.map (·.1)
 |[]=>by simp[hasM]
 |x::m=>by rw[hasM,List.map_cons,List.mem_cons,Bool.or_eq_true,decide_eq_true_eq,G6 k m]
theorem HJ(k:Int)(l:CLev): ∀m:MetL,(putM k l m).map (·.1)=if hasM k m then m.map (·.1) else m.map (·.1)++[k]
 |[]=>by simp[putM,hasM]
 | x::m=>by
  rw[putM,hasM]
  by_cases e:k=x.1
  ·subst e;simp
  ·rw[if_neg e]
   have:decide (k=x.1)=false:=by simp[e]
   rw[this,Bool.false_or,List.map_cons,HJ k l m]
   split<;>simp
theorem O3{N:Nat}{W:MetL}(h:G3 N W){k:Nat}(hk:k<N)(l:CLev):G3 N (putM (k:Int) l W):=by
 have hm:∀x:Int,x∈(putM (k:Int) l W).map (·.1)->0<=x/\x<N:=fun x hx=>by
  rw[HJ]at hx
  split at hx
  ·obtain⟨y,hy,rfl⟩:=List.mem_map.1 hx;exact h.2 y hy
  ·rcases List.mem_append.1 hx with hx|hx
   ·obtain⟨y,hy,rfl⟩:=List.mem_map.1 hx;exact h.2 y hy
   ·rw[List.mem_singleton]at hx;omega
 refine⟨?_,fun x hx=>hm x.1 (List.mem_map.2 ⟨x,hx,rfl⟩)⟩
 rw[HJ]
 split
 ·exact h.1
 ·rename_i hn
  refine List.nodup_append.2 ⟨h.1,by simp,fun a ha b hb=>?_⟩
  rw[List.mem_singleton]at hb
  subst hb
  intro e;subst e
  exact hn ((G6 _ _).2 ha)
theorem KH: ∀(N:Nat) (l:List Int),l.Nodup->(∀x∈l,0<=x/\x<N)->l.length<=N/\(l.length=N ↔ ∀k:Nat,k<N->(k:Int)∈l)
 | 0,l,_,hl=>by
  have:l=[]:=by
   cases l with
   |nil=>rfl
   |cons x l=>have:=hl x (by simp);omega
  subst this;simp
 | N+1,l,hn,hl=>by
  have h1:=KH N (l.erase (N:Int)) (hn.erase _) fun x hx=>by
   have h2:=(hn.mem_erase_iff).1 hx
   have:=hl x h2.2;have:=h2.1;omega
  have hm:∀k:Nat,k<N->((k:Int)∈l.erase (N:Int) ↔ (k:Int)∈l):=fun k hk=>by
   rw[hn.mem_erase_iff];exact⟨fun h=>h.2,fun h=>⟨by omega,h⟩⟩
  by_cases hN:(N:Int)∈l
  ·have hlen:=List.length_erase_of_mem hN
   have bi:0<l.length:=List.length_pos_of_mem hN
   refine⟨by omega,fun h k hk=>?_,fun h=>?_⟩
   ·by_cases e:k=N
    ·subst e;exact hN
    ·exact(hm k (by omega)).1 (h1.2.1 (by omega) k (by omega))
   ·have:=h1.2.2 fun k hk=>(hm k hk).2 (h k (by omega))
    omega
  ·rw[List.erase_of_not_mem hN]at h1
   exact⟨by omega,fun h=>by omega,fun h=>absurd (h N (by omega)) hN⟩
theorem OM{N:Nat}{W:MetL}(h:G3 N W):(W.length=N) ↔ (List.range N).all (fun k=>(metOf W k).isSome)=true:=by
 have:=(KH N (W.map (·.1)) h.1 fun x hx=>by obtain⟨y,hy,rfl⟩:=List.mem_map.1 hx;exact h.2 y hy).2
 rw[List.length_map]at this
 rw[this,List.all_eq_true]
 constructor
 ·intro h k hk
  unfold metOf;rw[if_pos ((G6 _ _).2 (h k (by simpa using hk)))];rfl
 ·intro h k hk
  have:=h k (by simpa using hk)
  unfold metOf at this
  split at this
  ·rename_i h2;exact(G6 _ _).1 h2
  ·cases this
theorem GL{p:BProg}{c:CProg}{env:Int}{next:Bool}: ∀(n q:Nat) (met:Met) (W V:MetL),q+n<=c.ins.length->G3 c.ins.length W->Fm p c env next EJ n q met W=some V->G3 c.ins.length V
 |0,_,_,_,_,_,h,e=>by cases e;exact h
 | n+1,q,met,W,V,hq,h,e=>by
  rw[Fm]at e
  split at e
  ·exact GL n _ _ _ _ (by omega) h e
  ·split at e
   ·cases e
   ·split at e
    ·cases e
    ·rename_i s' hs
     unfold EJ at hs
     split at hs
     ·cases hs
     ·cases hs
      exact GL n _ _ _ _ (by omega) (O3 h (by omega) _) e
theorem O2{p:BProg}{c:CProg}{x:CSt}{W V:MetL}(h:G3 c.ins.length W)(e:Bw p c x EJ W=some V):G3 c.ins.length V:=by
 unfold Bw at e
 split at e
 ·cases e
 ·exact GL _ _ _ _ _ (by omega) h e
theorem Ja{p:BProg}{c:CProg}: ∀(l:List CSt) (W V:MetL),G3 c.ins.length W->allL p c l W=some V->G3 c.ins.length V
 |[],_,_,h,e=>by cases e;exact h
 | s::r,W,V,h,e=>by
  rw[allL]at e
  split at e
  ·cases e
  ·rename_i V1 h1
   exact Ja r _ _ (O2 h h1) e
def Hq(p:BProg)(c:CProg):Option MetL:=match allL p c (stsQ p c) []with
 |none=>none
 |some W=>if W.length=c.ins.length then some W else none
theorem NF{p:BProg}{c:CProg}(hf:∀q:Nat,(AD c q).op=17\/(AD c q).op=18->(q:Int)<(AD c q).a):G1 p c (stsQ p c)=(Hq p c).map fun W=>(List.range c.ins.length).map fun k:Nat=>getM ⟨0,0⟩ (k:Int) W:=by
 unfold G1 Hq
 rw[<-PB,Nz hf]
 cases h:allL p c (stsQ p c) []with
 |none=>rfl
 | some W =>
  have hk:=Ja _ _ _ ⟨by simp,by simp⟩ h
  have hw:=OM hk
  show(if _ then _ else _)=_
  simp only
  by_cases e:W.length=c.ins.length
  ·rw[if_pos e,if_pos (hw.1 e)]
   simp only[Option.map_some,Option.some.injEq]
   refine List.map_congr_left fun k bm=>?_
   have:=List.all_eq_true.1 (hw.1 e) k bm
   unfold metOf at this⊢
   split at this
   ·rename_i h2;rw[if_pos h2];rfl
   ·cases this
  ·rw[if_neg e,if_neg (fun h=>e (hw.2 h))];rfl
def BX(p:BProg)(c:CProg):Option MetL:=
 if okP p&&(decide (c.ins.length<=300)&&(decide (c.starts.length=p.methods.length)&&BU p c.ins.length c.ins 0)) then Hq p c else none
theorem GX{p:BProg}{N:Nat}: ∀(l:List CIns) (q:Nat),BU p N l q=true->∀(i:Nat) (x:CIns),l[i]? = some x->fitsQ p N (q+i) x=true
 |[],_,_,_,_,h=>by simp at h
 |y::l,q,h,i,x,hx=>by
  rw[BU,Bool.and_eq_true]at h
  cases i with
  |zero=>simp at hx;subst hx;exact h.1
  |succ i=>simp at hx;have:=GX l (q+1) h.2 i x hx;rwa [show q+1+i=q+(i+1) by omega]at this
theorem SZ{p:BProg}{c:CProg}(h:BU p c.ins.length c.ins 0=true): ∀q:Nat,(AD c q).op=17\/(AD c q).op=18->(q:Int)<(AD c q).a:=fun q ho=>by
 unfold AD at ho⊢
 cases hx:c.ins[q]? with
 |none=>rw[hx]at ho;simp at ho
 |some x=>
  rw[hx]at ho
  have:=GX _ _ h q x hx
  unfold fitsQ at this
  simp only[Option.getD_some]at ho⊢
  rcases ho with e|e<;>rw[e]at this<;>simp at this<;>omega
theorem NY(p:BProg)(c:CProg):K5 p c=(BX p c).map fun W=>(List.range c.ins.length).map fun k:Nat=>getM ⟨0,0⟩ (k:Int) W:=by
 unfold K5 BX
 split
 ·rename_i h
  simp only[Bool.and_eq_true,decide_eq_true_eq]at h
  exact NF (SZ h.2.2.2)
 ·rfl
end Go.DL
namespace Go.DL
open Go.Proofs.Tryz
open Go Go.Proofs
set_option maxHeartbeats 8000000
theorem Oc{S:Type}(l:List Int)(lb:Nat)(u:D)(Good:Sig->S->Prop)(Bad:Sig->Prop)(touch:Nat->Prop)(step:Int->S->S)(hl:l.length<=1073741824)
  (hy:∀(k:Nat) (hk:k<l.length) O s,Good O s->DYield prog lb [dI k,dI l[k]] O (OutO u (.bool true) Good Bad touch O (some (step l[k] s)))) (O:Sig) (s:S) (hG:Good O s) :
  DCall prog 366 [.yld lb,.cptr [sl (cI l)] 0] O (OutO u (.tup []) Good Bad touch O (some (l.foldr step s))):=by
 refine en func366 ntmps366 ?_
 try refine gz ?_
 refine Fw [0,1] (fun (k:Nat) (s1:S) (S1:Sig)=>k<=l.length/\Good S1 s1/\l.foldr step s=(l.take k).foldr step s1/\(∀j o,O j=some o->¬touch j->S1 j=some o)) (fun k _ _=>[(3,dI ((k:Int)-1))]) (fun _ _ S1=>S1) (fun k _ _=>k) (l.length) (s) (O) (by exact⟨by omega,hG,by simp,fun _ _ h _=>h⟩) (fun k s1 S1 hI=>?_)
 obtain⟨hk,aE,hR,hK⟩:=hI
 cases k with
 |zero=>
  try refine gz ?_
  refine DS (U':=S1) ?_
  exact⟨rfl,by rw[hR];exact aE,hK⟩
 |succ k=>
  have au:k<l.length:=by omega
  have e:((k+1:Nat):Int)-1=k:=by omega
  rw[List.take_succ_eq_append_getElem au,List.foldr_append]at hR
  try refine gf e ?_
  refine yldW (hy k au S1 s1 aE) (fun d U' hr=>?_) (fun d U' hr=>by obtain⟨h,_⟩:=hr.pan;cases h)
  obtain⟨s2,bf,rfl,aR,aD⟩:=hr.ret
  cases bf
  try refine gf e ?_
  exact⟨k,_,U',⟨by omega,aR,hR,fun j o h1 h2=>aD j o (hK j o h1 h2) h2⟩,td1,wkR⟩
theorem Qi(l:List Int)(O:Sig):DCall prog 336 [sl (cI l)] O (rS (.func (.func 366) [] [.cptr [sl (cI l)] 0]) O):=by
 refine en func336 ntmps336 ?_
 try refine gz ?_
 exact fe1 trivial
@[reducible,instance] def a336:=fun l O=>ah0 (@Qi l O)
def Ds:List Init->List (Int×Int)->List (Int×Int)
 |[],m=>m
 |x::r,m=>Ds r (putM x.slot x.n m)
def Dd(p:BProg)(c:Int)(m:List (Int×Int)):List (Int×Int):=if 3<=c then Ds (((p.classes[(c-3).toNat]?).map (·.inits)).getD []) m else m
def H9(p:BProg)(order:List Int):List (Int×Int):=order.foldr (Dd p) []
def beginL(m:List (Int×Int)):List Int->List Init
 |[]=>[]
 |s::r=>if hasM s m then⟨s,getM 0 s m⟩::beginL m r else beginL m r
def DZ(p:BProg)(c:Int):List Init:=beginL (H9 p (linF (p.classes.map (·.parents)) c)) (hasP p c)
theorem G4{p:BProg}: ∀{cs:List BClass}{i:Nat},Bd p i cs=true->∀k,k<cs.length->linE (p.classes.map (·.parents)) (((i+k:Nat):Int)+3)=0
 |c::r,i,h,0,_=>by rw[Bd]at h;simp only[Bool.and_eq_true,decide_eq_true_eq]at h;exact h.1.1
 |c::r,i,h,k+1,hk=>by
  rw[Bd]at h;simp only[Bool.and_eq_true,decide_eq_true_eq]at h
  have:=G4 h.2 k (by simpa using hk)
  rw[show i+(k+1)=i+1+k by omega];exact this
theorem okP_lin{p:BProg}(h:okP p=true){c:Int}(h1:3<=c)(h2:c<3+p.classes.length):linE (p.classes.map (·.parents)) c=0/\Cp (p.classes.map (·.parents))=true:=by
 have h:=Eb h
 unfold AC at h
 simp only[Bool.and_eq_true,decide_eq_true_eq]at h
 obtain⟨_,h⟩:=h
 split at h
 ·cases h
 ·simp only[Bool.and_eq_true,decide_eq_true_eq]at h
  have:=G4 h.2 (c-3).toNat (by omega)
  rw[show(((0+(c-3).toNat:Nat):Int)+3)=c by omega]at this
  exact⟨this,h.1.2⟩
theorem finMR{P:Program}{n:Nat}{fn:Func}{R:DE->Sig->Prop}{γ:Fr}{O U':Sig}{d d':D}(js:List Nat)(hR:R (.ret d') U')(hU:Sub U' (dels js O))(hn:js.Nodup:=by simp)(hd:∀j∈js,O j=some .defs:=by simp)(h:resD fn γ=some d:=by exact tdR)(hw:WkD d d'): ∃s',Wk P n ⟨γ,O,js.map .coll⟩ s'/\OH P n fn (Weak R) .ret s':=
 ⟨_,Wk.refl _ _ _,js,rfl,hn,hd,d,CW h,.ret d',U',hw,hU,hR⟩
theorem Qp(p:BProg)(c:Int)(O:Sig)(hp:p.wt<=1073741824:=by exact sd):DCall prog 290 [.agg (Ag p),dI c] O (rS (.tup [sl ((if ownF p c&&okP p then DZ p c else []).map Iq),dI (if ownF p c&&okP p then 0 else 2)]) O):=by
 obtain⟨p1,p2,p3,p4,p5,p6,p7⟩:=p.wt_le
 have aF:∀c∈p.classes,c.parents.length<=1073741824/\c.slots.length<=1073741824/\c.inits.length<=1073741824:=fun c hc=>by
  obtain⟨k,hk,rfl⟩:=List.getElem_of_mem hc
  have:=p5 k hk
  unfold BClass.wt at this;omega
 have bA:∀c∈p.classes,c.parents.length<=1073741824:=fun c hc=>(aF c hc).1
 have bB:∀x∈p.classes.map (·.parents),x.length<=1073741824:=fun x hx=>by obtain⟨c,hc,rfl⟩:=List.mem_map.1 hx;exact(aF c hc).1
 refine Ej func290 rfl (by decide) ntmps290 (by simp) ?_
 cases hk:ownF p c&&okP p
 ·try refine gf hk ?_
  refine finMR [] (U':=O) ⟨rfl,rfl⟩ (Sub.refl _) (hw:=?_)
  exact Ct ⟨Ak _ (.inl rfl),A8 _,trivial⟩
 ·have ho:3<=c/\c<3+p.classes.length:=by simp only[ownF,Bool.and_eq_true,decide_eq_true_eq]at hk;exact hk.1
  have ah:okP p=true:=by simp only[Bool.and_eq_true]at hk;exact hk.2
  obtain⟨h1,h2⟩:=ho
  obtain⟨ar,ac⟩:=okP_lin ah h1 h2
  have aW:linF (p.classes.map (·.parents)) c=KR (p.classes.map (·.parents)) c:=by
   unfold linF;rw[if_pos ⟨ac,by omega,by rw[List.length_map];omega⟩]
  have aI:∀y∈linF (p.classes.map (·.parents)) c,0<=y/\y<3+p.classes.length:=fun y hy=>by
   rw[aW]at hy
   obtain⟨x,hx,hy⟩:=HN hy
   have:=HM ac _ x hx y hy
   rw[List.length_map]at this;omega
  have bC:(linF (p.classes.map (·.parents)) c).length<=80000000:=by rw[aW];exact Ea ac (Nat.le_refl _) (by omega)
  have bD:=C8 p c
  have ws:=E1 p
  try refine gf (gi hk ar) ?_
  refine newIN (fun im bp=>?_)
  try refine gf (gi hk ar) ?_
  refine Jq (u:=unf) (fun did U' m=>U' im=some (.map (eIN m))/\Keep (· = im) ((O.set im (.map (eIN []))).set did .defs) U') (fun did U'=>False) (· = im) (some (H9 p (linF (p.classes.map (·.parents)) c))) rfl (fun l did hd hl aa LO aq=>?_) (fun l did m U' ho hd hl aa hG=>?_) (fun did U' ho hd hb=>hb.elim)
  ·refine Oc (linF (p.classes.map (·.parents)) c) l unf _ _ _ (Dd p) (by omega) (fun k hk S1 m1 hG=>?_) _ [] ?_
   ·obtain⟨aK,bk,bw⟩:=hG
    refine Mn aq aK ?_
    clear aq
    try refine gz ?_
    refine⟨aK,?_⟩
    have hy:=aI _ (List.getElem_mem hk)
    generalize (linF (p.classes.map (·.parents)) c)[k]=y at*
    have ai:l≠im:=fun e=>by rw[e,w6]at hl;cases hl
    have bj:(S1.set l (Cr LO)) im=some (.map (eIN m1)):=by rw[w7 _ _ (Ne.symm ai)];exact bk
    have ag:∀m,(((S1.set l (Cr LO)).set im (.map (eIN m))) l=some (Cr LO))/\((((S1.set l (Cr LO)).set im (.map (eIN m))).set l LO) l=some LO/\(((S1.set l (Cr LO)).set im (.map (eIN m))).set l LO) im=some (.map (eIN m))/\Keep (· = im) ((O.set im (.map (eIN []))).set did .defs) (((S1.set l (Cr LO)).set im (.map (eIN m))).set l LO))/\Keep (· = im) S1 (((S1.set l (Cr LO)).set im (.map (eIN m))).set l LO):=fun m=>by
     have aD:Keep (· = im) S1 (((S1.set l (Cr LO)).set im (.map (eIN m))).set l LO):=fun j o h1 h2=>by
      by_cases hj:j=l
      ·rw[hj]at h1⊢; rw[w6,<-h1,aK]
      ·rw[w7 _ _ hj,w7 _ _ h2,w7 _ _ hj];exact h1
     exact⟨by rw[w7 _ _ ai,w6],⟨w6 .., by rw[w7 _ _ (Ne.symm ai),w6],bw.trans aD⟩,aD⟩
    rw[<-Sig.set_self _ bj]
    by_cases bb:3<=y
    ·obtain⟨q,rfl⟩:∃q:Nat,y=3+(q:Int):=⟨(y-3).toNat,by omega⟩
     have hq:q<p.classes.length:=by omega
     have ae:Dd p (3+q) m1=Ds (p.classes[q]).inits m1:=by
      unfold Dd;rw[if_pos (by omega),show(3+(q:Int)-3).toNat=q by omega,List.getElem?_eq_getElem hq];rfl
     rw[ae]
     have bn:=(aF _ (List.getElem_mem hq)).2.2
     generalize aL:(p.classes[q]).inits=ins' at*
     have bh:3+(q:Int)-3=q:=by omega
     try refine gf (gi bh aL) ?_
     refine Db [1,2,4,5,8,13,15,16,17,45,46,57,58,59,60,61,62,63,64,65,66,67,68,69,70,71,72,73,74,75,76,77,78,79,80] (fun (j:Nat) (m:List (Int×Int))=>j<=ins'.length/\Ds ins' m1=Ds (ins'.drop j) m) (fun j _=>[(47,dI j)]) (fun _ m=>(S1.set l (Cr LO)).set im (.map (eIN m))) (fun j _=>ins'.length-j) (0) (m1) (by simp) (fun j m hI=>?_)
     obtain⟨hj,hJ⟩:=hI
     by_cases aZ:j<ins'.length
     ·rw[Ac aZ,Ds]at hJ
      try refine gf aL ?_
      exact⟨j+1,_,⟨by omega,hJ⟩,td1,wkR⟩
     ·rw[Ai aZ,Ds]at hJ
      try refine gf aL ?_
      rw[hJ]
      exact⟨(ag m).1,rfl,(ag m).2⟩
    ·have ae:Dd p y m1=m1:=by unfold Dd;rw[if_neg bb]
     rw[ae]
     try refine gz ?_
     exact⟨(ag m1).1,rfl,(ag m1).2⟩
   ·have ai:im≠l:=fun e=>by rw[<-e,w6]at hl;cases hl
    have aB:im≠did:=fun e=>by rw[<-e,w6]at hd;cases hd
    exact⟨w6 .., by rw[w7 _ _ ai,w7 _ _ aB,w6],(Keep.refl _ _).fresh (by rw[w7 _ _ aa];exact hl)⟩
  ·cases ho
   have ai:im≠l:=fun e=>by rw[<-e,w6]at hl;cases hl
   have aB:im≠did:=fun e=>by rw[<-e,w6]at hd;cases hd
   have aJ:(U'.del l) im=some (.map (eIN (H9 p (linF (p.classes.map (·.parents)) c)))):=by simp only[Sig.del,ai,if_false];exact hG.1
   have ba:(U'.del l) did=some .defs:=by simp only[Sig.del,Ne.symm aa,if_false];exact hG.2 did _ (w6 ..) (Ne.symm aB)
   have aP:DZ p c=beginL (H9 p (linF (p.classes.map (·.parents)) c)) (hasP p c):=rfl
   have br:∀j o,O j=some o->(U'.del l) j=some o/\j≠did:=fun j o h=>by
    have e1:j≠im:=fun e=>by rw[e,bp]at h;cases h
    have e2:j≠did:=fun e=>by rw[e]at h;rw[w7 _ _ (Ne.symm aB),h]at hd;cases hd
    have e3:j≠l:=fun e=>by rw[e]at h;rw[w7 _ _ (Ne.symm ai),h]at hl;cases hl
    refine⟨?_,e2⟩
    simp only[Sig.del,e3,if_false]
    exact hG.2 j o (by rw[w7 _ _ e2,w7 _ _ e1];exact h) e1
   generalize H9 p (linF (p.classes.map (·.parents)) c)=m at*
   generalize aM:hasP p c=ak at*
   try refine gf aM ?_
   refine HA 13 2 (fun ix aw=>?_)
   have aS:im≠ix:=fun e=>by rw[<-e,aJ]at aw;cases aw
   have bc:did≠ix:=fun e=>by rw[<-e,ba]at aw;cases aw
   refine Db [4,5,8,59,60,79,80] (fun (k:Nat) (out:List Init)=>k<=ak.length/\out.length<=k/\beginL m ak=out++beginL m (ak.drop k)) (fun k out=>[(61,dI k),(13,.slice (out.map Iq) (.tag ix))]) (fun _ out=>(U'.del l).set ix (.tail 2 out.length)) (fun k _=>ak.length-k) (0) ([]) (by simp) (fun k out hI=>?_)
   obtain⟨hk,hlen,hR⟩:=hI
   by_cases au:k<ak.length
   ·rw[Ac au,beginL]at hR
    repeat' first|refine gf (gi aJ (gi aS aM)) ?_|apply gy<;>intro hh
    ·rw[hh,if_pos rfl]at hR
     exact⟨k+1,out++[⟨ak[k],getM 0 ak[k] m⟩],⟨by omega,by simp;omega,by rw[hR];simp⟩,td1,wkR⟩
    ·rw[hh,if_neg (by simp)]at hR
     exact⟨k+1,out,⟨by omega,by omega,hR⟩,td1,wkR⟩
   ·rw[Ai au,beginL,List.append_nil]at hR
    try refine gf (gi aJ (gi aS aM)) ?_
    refine finMR [did] (U':=O) (d':=.tup [sl ((DZ p c).map Iq),dI 0]) ⟨by rw[if_pos rfl,if_pos rfl],rfl⟩ (fun j o h=>?_) (hd:=?_) (hw:=?_)
    ·obtain⟨h1,h2⟩:=br j o h
     simp only[dels,List.foldl_cons,List.foldl_nil,Sig.del,h2,if_false]
     rw[w7 _ _ fun e=>by rw[e,aw]at h1;cases h1]
     exact h1
    ·simp only[List.mem_singleton,forall_eq]
     rw[w7 _ _ bc];exact ba
    ·rw[aP,hR]
     exact Ct ⟨BD _ _,A8 _,trivial⟩
@[reducible,instance] def a290:=fun p c O=>ah1 (@Qp p c O)
def isLD:DObj->Bool
 |.loop .. |.defs=>true
 |_=>false
theorem KT{LO:DObj}{ps:Array Tmp}{asg body:Code}{n:Nat}{Sl:Fr}{did:Nat}(h:LO=.loop .ready none ps asg body n Sl did):isLD LO=true/\isLD (Cr LO)=true:=by subst h;exact⟨rfl,rfl⟩
def MonoG{S:Type}(G:Sig->S->Prop):Prop:= ∀O U' s,G O s->(∀j x,O j=some x->isLD x=false->U' j=some x)->G U' s
def OG{S:Type}(G:Sig->S->Prop)(S0:Sig):Prop:= ∀l,S0 l=none->∀S1 U2 s,G S1 s->(∃x,S1 l=some x/\isLD x=true)->(∀j,j≠l->U2 j=S1 j)->G U2 s
def Fresh{S:Type}(G:Sig->S->Prop):Prop:= ∀O s a o,G O s->O a=none->G (O.set a o) s
theorem MonoG.indep{S:Type}{G:Sig->S->Prop}(h:MonoG G)(S0:Sig):OG G S0:=fun l _ S1 U2 s hG ⟨x,hx,hl⟩ hj=>h _ _ _ hG fun j y hy hd=>by
 rw[hj j fun e=>by rw[e,hx]at hy;cases hy;rw[hl]at hd;cases hd];exact hy
theorem MonoG.fresh{S:Type}{G:Sig->S->Prop}(h:MonoG G):Fresh G:=fun O s a o hG ha=>h _ _ _ hG fun j y hy _=>by
 rw[w7 _ _ fun e=>by rw[e,ha]at hy;cases hy];exact hy
def GoodG{S:Type}(l:Nat)(LO:DObj)(G:Sig->S->Prop)(touch:Nat->Prop)(base:Sig):Sig->S->Prop:=fun U' s=>U' l=some LO/\G U' s/\Keep touch base U'
theorem GoodG.new{S:Type}{l:Nat}{LO:DObj}{G:Sig->S->Prop}{touch:Nat->Prop}{base O:Sig}{s:S}{a:Nat}{o:DObj}(hm:Fresh G)(h:GoodG l LO G touch base O s)(ha:O a=none):GoodG l LO G touch base (O.set a o) s:=by
 have ne:∀j x,O j=some x->j≠a:=fun j x hj e=>by rw[e,ha]at hj;cases hj
 obtain⟨h1,h2,h3⟩:=h
 exact⟨by rw[w7 _ _ (ne _ _ h1)];exact h1,hm _ _ _ _ h2 ha,fun j x hj ht=>by
  have:=h3 j x hj ht
  rw[w7 _ _ (ne _ _ this)];exact this⟩
theorem GoodG.indep{S:Type}{l:Nat}{LO:DObj}{G:Sig->S->Prop}{touch:Nat->Prop}{base S0:Sig}{s0:S}(h0:GoodG l LO G touch base S0 s0)(hi:OG G S0):OG (GoodG l LO G touch base) S0:=fun k hk S1 U2 s hG hx hj=>by
 have bl:l≠k:=fun e=>by have:=h0.1;rw[e,hk]at this;cases this
 refine⟨by rw[hj l bl];exact hG.1,hi k hk _ _ _ hG.2.1 hx hj,fun j x hb hn=>?_⟩
 rw[hj j fun e=>by have:=h0.2.2 j x hb hn;rw[e,hk]at this;cases this]
 exact hG.2.2 j x hb hn
theorem rangeG{P:Program}{n:Nat}{Q:DX->St->Prop}{γ:Fr}{O:Sig}{df:List DDf}{gop:Operand}{ps:Array Tmp}{asg body:Code}{f:Nat}{first cap:List D}{S:Type}(u:D)(G:Sig->S->Prop)(touch tp:Nat->Prop)(o:Option S)(s0:S)
  (hm:OG G O) (a8:Fresh G) (h0:G O s0) (ht:∀j,touch j->O j≠none) (be:∀j,tp j->O j≠none) (hf:ev γ gop=.func (.func f) first cap)
  (ax : ∀ l did LO SL,LO=DObj.loop .ready none ps asg body n γ did->O did=none->(O.set did .defs) l=none -> ¬ touch l->SL=(O.set did .defs).set l LO->GoodG l LO G touch (O.set did .defs) SL s0->(∀ a,SL a=none -> ¬ touch a) ->
   DCall P f (first++[.yld l]++cap) SL (OutO u (.tup []) (GoodG l LO G touch (O.set did .defs)) (Keep tp (O.set did .defs)) touch SL o))
  (aG:∀did s U',o=some s->O did=none->U' did=some .defs->G U' s->(∀j x,O j=some x->¬touch j->U' j=some x/\j≠did)->Q .normal ⟨γ,U',.coll did::df⟩)
  (aH:∀did U',o=none->O did=none->U' did=some .defs->(∀j x,O j=some x->¬tp j->U' j=some x/\j≠did)->Q (.panic u) ⟨γ,U',.coll did::df⟩) :
  DWp P .none n (.rangeFunc gop ps asg body) Q ⟨γ,O,df⟩:=by
 have dne:∀{did:Nat},O did=none->∀j x,O j=some x->j≠did:=fun hd j x hj e=>by rw[e,hd]at hj;cases hj
 refine Gl (R:=fun l did=>OutO u (.tup []) (GoodG l (DObj.loop .ready none ps asg body n γ did) G touch (O.set did .defs)) (Keep tp (O.set did .defs)) touch ((O.set did .defs).set l (DObj.loop .ready none ps asg body n γ did)) o) hf (fun l did hd hl aa=>?_) (fun l did d U' hd hl aa hr=>?_) (fun l did d U' hd hl aa hr=>?_)
 ·have aj:(O.set did .defs) l=none:=by first|exact hl|(rw[w7 _ _ aa];exact hl)
  have aA:O l=none:=by rw[w7 _ _ aa]at aj;exact aj
  refine ax l did _ _ rfl hd aj (fun h=>ht _ h aA) rfl ⟨w6 .., a8 _ _ _ _ (a8 _ _ _ _ h0 hd) aj,fun j x hj hn=>?_⟩ fun a ha h=>ht a h ?_
  ·rw[w7 _ _ fun e=>by rw[e,aj]at hj;cases hj];exact hj
  ·by_cases e1:a=l
   ·rw[e1,w6]at ha;cases ha
   ·rw[w7 _ _ e1]at ha
    by_cases e2:a=did
    ·rw[e2,w6]at ha;cases ha
    ·rw[w7 _ _ e2]at ha;exact ha
 ·have aj:(O.set did .defs) l=none:=by first|exact hl|(rw[w7 _ _ aa];exact hl)
  have aA:O l=none:=by rw[w7 _ _ aa]at aj;exact aj
  obtain⟨s,hs,rfl,⟨aX,aE,hK⟩,_⟩:=hr.ret
  have bt:¬touch did:=fun h=>ht _ h hd
  have dl:∀j,j≠l->(U'.del l) j=U' j:=fun j h=>by simp only[Sig.del,h,if_false]
  refine⟨_,_,aX,by simp,aG did s _ hs hd ?_ ?_ fun j x hj hn=>⟨?_,dne hd j x hj⟩⟩
  ·rw[dl _ (Ne.symm aa)];exact hK did _ (w6 ..) bt
  ·exact hm l aA _ _ _ aE ⟨_,aX,rfl⟩ fun j hj=>dl j hj
  ·rw[dl _ (dne aA j x hj)];exact hK j x (by rw[w7 _ _ (dne hd j x hj)];exact hj) hn
 ·obtain⟨hn,rfl,hb⟩:=hr.pan
  exact aH did U' hn hd (hb did _ (w6 ..) fun h=>be _ h hd) fun j x hj hn=>⟨hb j x (by rw[w7 _ _ (dne hd j x hj)];exact hj) hn,dne hd j x hj⟩
section
variable {S:Type}{l:Nat}{LO:DObj}{G:Sig->S->Prop}{touch:Nat->Prop}{base S1 U2:Sig}{s s':S}{u:D}{step:Option S}{γ:List (Nat×D)}{df:List DDf}{ps:Array Tmp}{asg body:Code}{n:Nat}{Sl:List (Nat×D)}{did:Nat}{Good:Sig->S->Prop}{Bad:Sig->Prop}
theorem endRN(ae:step=some s')(aq:LO=.loop .ready none ps asg body n Sl did)(hm:OG G base)(hG:GoodG l LO G touch base S1 s)(hl:¬touch l)(ay:base l=none)(aR:G U2 s')(hK:Keep touch (S1.set l (Cr LO)) U2):
  NA l LO (OutO u (.bool true) (GoodG l LO G touch base) Bad touch S1 step) .normal ⟨γ,U2,df⟩:=by
 subst ae
 have h2:U2 l=some (Cr LO):=hK l _ (w6 ..) hl
 have aY:Keep touch S1 (U2.set l LO):=fun j x hj hn=>by
  by_cases e:j=l
  ·rw[e,hG.1]at hj;rw[e,w6];exact hj
  ·rw[w7 _ _ e];exact hK j x (by rw[w7 _ _ e];exact hj) hn
 exact⟨h2,rfl,⟨w6 .., hm l ay _ _ _ aR ⟨_,h2,(KT aq).2⟩ fun j hj=>w7 _ _ hj,hG.2.2.trans aY⟩,aY⟩
theorem endRP(ae:step=none)(hB:Bad U2):NA l LO (OutO u (.bool true) Good Bad touch S1 step) (.panic u) ⟨γ,U2,[]⟩:=by
 subst ae
 exact⟨rfl,rfl,hB⟩
theorem GoodG.bad{tp:Nat->Prop}(hG:GoodG l LO G touch base S1 s)(ay:base l=none)(ht:∀j,touch j->tp j)(hK:Keep tp (S1.set l (Cr LO)) U2):Keep tp base U2:=fun j x hj hn=>
 hK j x (by rw[w7 _ _ fun e=>by rw[e,ay]at hj;cases hj];exact hG.2.2 j x hj fun h=>hn (ht j h)) hn
theorem OutO.bad{r:D}{Good:Sig->S->Prop}{Bad Bad':Sig->Prop}{O U':Sig}{o:Option S}{x:DE}(h:OutO u r Good Bad touch O o x U')(hb:Bad U'->Bad' U'):OutO u r Good Bad' touch O o x U':=by
 cases o with
 |none=>exact⟨h.1,hb h.2⟩
 |some s=>exact h
theorem GoodG.busy(aq:LO=.loop .ready none ps asg body n Sl did)(hm:OG G base)(ay:base l=none)(hG:GoodG l LO G touch base S1 s):G (S1.set l (Cr LO)) s:=
 hm l ay _ _ _ hG.2.1 ⟨_,hG.1,(KT aq).1⟩ fun j hj=>w7 _ _ hj
end
theorem finMP{P:Program}{n:Nat}{fn:Func}{R:DE->Sig->Prop}{γ:Fr}{O U':Sig}{d:D}(js:List Nat)(hR:R (.panic d) U')(hU:Sub U' (dels js O))(hn:js.Nodup:=by simp)(hd:∀j∈js,O j=some .defs:=by simp): ∃s',Wk P n ⟨γ,O,js.map .coll⟩ s'/\OH P n fn (Weak R) (.panic d) s':=
 ⟨_,Wk.refl _ _ _,js,rfl,hn,hd,.panic d,U',A8 _,hU,hR⟩
end Go.DL
