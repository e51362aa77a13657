/- A part of the proof. -/
import Derived.Test.YteldimffglchkaaGreatDoorN14
import Derived.Test.YteldimffglchkaaGreatDoorN08
import Derived.Test.YteldimffglchkaaGreatDoorN13
set_option linter.all false
namespace Go.DL
open Go.Proofs.Tryz
open Go Go.Proofs
theorem BH: ∀(k u:Nat),u<10 ^ (k+1)->(Lib.decDigits u).length<=k+1
 |0,u,h=>by rw[Lib.decDigits,dif_pos (by omega)];simp
 | k+1,u,h=>by
  rw[Lib.decDigits]
  split
  ·simp
  ·have:=BH k (u / 10) (Nat.div_lt_of_lt_mul (by rw[Nat.pow_succ]at h;omega))
   rw[List.length_append,List.length_singleton];omega
theorem KN{n:Int}(h:farN n=true):(Lib.itoa n).length<=10:=by
 unfold farN at h
 simp only[decide_eq_true_eq]at h
 unfold Lib.itoa
 rw[if_neg (by omega)]
 exact BH 9 _ (by omega)
theorem Ip{n:Int}(h : -1000000000<=n/\n<=1000000000):(Lib.itoa n).length<=11:=by
 unfold Lib.itoa
 split
 ·have:=BH 9 n.natAbs (by omega)
  rw[List.length_cons];omega
 ·have:=BH 9 n.toNat (by omega)
  omega
theorem Gg{α}{f:α->List UInt8}{m:Nat}: ∀(l:List α),(∀x∈l,(f x).length<=m)->(listB f l).length<=m*l.length
 |[],_=>by rw[listB];simp
 |x::r,h=>by
  have h1:=h x List.mem_cons_self
  have h2:=Gg r fun y hy=>h y (List.mem_cons_of_mem _ hy)
  rw[listB,List.length_append,List.length_cons,Nat.mul_succ];omega
theorem PR: ∀k:Nat,k<21->((wordsC[k]?).getD []).length<=4/\(k=0->((wordsC[k]?).getD []).length=3):=by decide
theorem KJ{x:CIns}(h:BI x=true):(Bw x).length<=15:=by
 unfold BI at h
 rw[Bool.and_eq_true]at h
 obtain⟨h1,h2⟩:=h
 simp only[decide_eq_true_eq]at h1
 obtain⟨w1,w2⟩:=PR (x.op-1).toNat (by omega)
 unfold Bw FR
 rw[List.length_append]
 cases e:hasA x.op with
 |false=>rw[if_neg (by simp),List.length_nil];omega
 | true =>
  rw[e,if_pos rfl]at h2
  rw[if_pos rfl,List.length_cons]
  split at h2
  ·rename_i e1
   have:=w2 (by omega)
   unfold inB at h2
   have:=Ip (n:=x.a) (by simpa[Bool.and_eq_true,decide_eq_true_eq] using h2)
   omega
  ·have:=KN h2
   omega
theorem Kq{c:CProg}(h:AG c=true):(Cz c).length<=5000:=by
 unfold AG at h
 simp only[Bool.and_eq_true,decide_eq_true_eq,List.all_eq_true]at h
 obtain⟨h1,h2,h3,h4,h5⟩:=h
 have a:=Gg (f:=fun n=>Lib.itoa n++[32]) (m:=11) c.starts fun n hn=>by
  have:=KN (h4 n hn)
  rw[List.length_append,List.length_singleton];omega
 have b:=Gg (f:=fun l:Str=>l++[(10:UInt8)]) (m:=16) (c.ins.map Bw) fun l hl=>by
  obtain⟨x,hx,rfl⟩:=List.mem_map.1 hl
  have:=KJ (h5 x hx)
  rw[List.length_append,List.length_singleton];omega
 have d:=KN h3
 rw[List.length_map]at b
 unfold Cz Ej
 rw[listB,List.length_append,List.length_append,List.length_append,List.length_cons,List.length_cons,List.length_singleton]
 omega
theorem HD{n:Nat}(h:n<128 ^ 5):(digB n).length<=5:=by
 unfold digB
 rw[List.length_append,List.length_singleton,Oa 4 (n / 128) (Nat.div_lt_of_lt_mul (by omega)) 10 (by omega)]
 have:=Rg 4 (n / 128)
 omega
theorem TF{c:CProg}(h:AG c=true):(J4 c).length<=5000:=by
 unfold AG at h
 simp only[Bool.and_eq_true,decide_eq_true_eq,List.all_eq_true]at h
 obtain⟨h1,h2,h3,h4,h5⟩:=h
 have far:∀n:Int,farN n=true->(digB n.toNat).length<=5:=fun n hn=>by
  unfold farN at hn
  simp only[decide_eq_true_eq]at hn
  exact HD (by omega)
 have a:=Gg (f:=fun n:Int=>digB n.toNat) (m:=5) c.starts fun n hn=>far n (h4 n hn)
 have b:=Gg (f:=insB) (m:=6) c.ins fun x hx=>by
  have hp:=h5 x hx
  unfold BI at hp
  rw[Bool.and_eq_true]at hp
  unfold insB
  rw[List.length_cons]
  split
  ·rename_i e
   have au:=hp.2
   rw[if_pos e]at au
   have : -1000000000<=x.a/\x.a<=1000000000:=by
    split at au
    ·unfold inB at au
     simpa[Bool.and_eq_true,decide_eq_true_eq] using au
    ·unfold farN at au
     simp only[decide_eq_true_eq]at au
     omega
   have:=HD (n:=Rj x.a) (by unfold Rj;split<;>omega)
   omega
  ·simp
 have d1:=far _ h3
 have d2:=HD (n:=c.starts.length) (by omega)
 have d3:=HD (n:=c.ins.length) (by omega)
 unfold J4 rawB
 rw[List.length_append,List.length_cons,List.length_append,List.length_append,List.length_append,List.length_append,List.length_singleton]
 omega
theorem Lt{intS:Str->Option Int}(hi:IntOK intS)(s:Str)(c:CProg):EG intS s=some c ↔ AG c=true/\Cz c=s:=
 ⟨Q3 hi,fun h=>by rw[<-h.2];exact Qn hi h.1⟩
theorem read_by{f:Str->Option CProg}{g:CProg->Str}(hf:∀s c,f s=some c ↔ AG c=true/\g c=s)(find:Str->CProg)(aC:∀c,AG c=true->find (g c)=c)(s:Str):
  f s=if AG (find s)=true/\g (find s)=s then some (find s) else none:=by
 by_cases h:AG (find s)=true/\g (find s)=s
 ·rw[if_pos h];exact(hf _ _).2 h
 ·rw[if_neg h]
  cases e:f s with
  |none=>rfl
  |some c=>
   obtain⟨h1,h2⟩:=(hf _ _).1 e
   have:=aC c h1
   rw[h2]at this
   rw[this]at h
   exact absurd ⟨h1,h2⟩ h
def fitL(p:BProg)(N:Nat)(q:Nat)(l:List CIns):Prop:= ∀(i:Nat) (x:CIns),l[i]? = some x->fitsC p N (q+i) x=true
section
variable {p:BProg}{N:Nat}
theorem fit_nil(q:Nat):fitL p N q []:=fun i x h=>by simp at h
theorem UA{q r:Nat}{x:CIns}{m:List CIns}(h:fitsC p N q x=true)(hr:r=q+1)(k:fitL p N r m):fitL p N q (x::m):=fun i y hy=>by
 cases i with
 |zero=>simp only[List.getElem?_cons_zero,Option.some.injEq]at hy;rw[<-hy];exact h
 |succ i=>
  rw[List.getElem?_cons_succ]at hy
  have:=k i y hy
  rw[hr,show q+1+i=q+(i+1) by omega]at this
  exact this
end
def F8(p:BProg)(N:Nat):List CIns->Nat->Bool
 |[],_=>true
 |x::r,q=>fitsC p N q x&&F8 p N r (q+1)
theorem Fq{p:BProg}{N:Nat}: ∀(l:List CIns) (q:Nat),F8 p N l q=true ↔ fitL p N q l
 |[],q=>by rw[F8];exact⟨fun _=>fit_nil q,fun _=>rfl⟩
 | x::r,q=>by
  rw[F8,Bool.and_eq_true,Fq r]
  constructor
  ·rintro⟨a,b⟩;exact UA a rfl b
  ·intro h
   refine⟨by have:=h 0 x rfl;rwa [Nat.add_zero]at this,fun i y hy=>?_⟩
   have:=h (i+1) y (by rw[List.getElem?_cons_succ];exact hy)
   rw[show q+1+i=q+(i+1) by omega]
   exact this
def Ei(p:BProg)(c:CProg):Option (List CLev):=
 if okP p&&(decide (c.ins.length<=300)&&(decide (c.starts.length=p.methods.length)&&F8 p c.ins.length c.ins 0)) then Gf p c (stsP p c) else none
theorem reach_at{N:Nat}{met m:Met}{n:Int}{l:CLev}(h:BJ N met n l=some m)(j:Nat):m j=met j\/((j:Int)=n/\m j=some l):=by
 unfold BJ at h
 split at h
 ·cases h
 ·cases h
  unfold updM
  by_cases e:j=n.toNat
  ·rw[if_pos e];exact .inr ⟨by omega,rfl⟩
  ·rw[if_neg e];exact .inl rfl
section
variable {p:BProg}{c:CProg}{env:Int}{next:Bool}
theorem Kt {q:Nat} {x:CIns} {l:CLev} {met m:Met} (h:Ec p c env next q x l met=some m) (hj:x.op=17\/x.op=18->(q:Int) < x.a) (j:Nat):m j=met j\/(q < j /\ ∃ l',m j=some l'/\l'.env<=l.env+1):=by
 unfold Ec at h
 split at h
 ·cases h
 ·split at h
  ·split at h
   ·cases h;exact .inl rfl
   ·cases h
  ·split at h
   ·rcases reach_at h j with e|⟨e,e2⟩
    ·exact .inl e
    ·exact .inr ⟨by omega,_,e2,by simp only;omega⟩
   ·split at h
    ·rcases reach_at h j with e|⟨e,e2⟩
     ·exact .inl e
     ·exact .inr ⟨by omega,_,e2,by simp only;omega⟩
    ·split at h
     ·rename_i bG
      have:=hj (.inr bG)
      rcases reach_at h j with e|⟨e,e2⟩
      ·exact .inl e
      ·exact .inr ⟨by omega,_,e2,by simp only;omega⟩
     ·split at h
      ·rename_i bH
       have:=hj (.inl bH)
       split at h
       ·cases h
       ·rename_i e0
        rcases reach_at h j with e|⟨e,e2⟩
        ·rcases reach_at e0 j with e1|⟨e1,e2⟩
         ·exact .inl (e.trans e1)
         ·exact .inr ⟨by omega,_,e.trans e2,by simp only;omega⟩
        ·exact .inr ⟨by omega,_,e2,by simp only;omega⟩
      ·rcases reach_at h j with e|⟨e,e2⟩
       ·exact .inl e
       ·exact .inr ⟨by omega,_,e2,by simp only;omega⟩
theorem Q6{q:Nat}{x:CIns}{l:CLev}{met m:Met}(h:Ec p c env next q x l met=some m)(h3:x.op=3):x.a<l.env:=by
 unfold Ec at h
 split at h
 ·cases h
 ·omega
def AB(c:CProg)(q:Nat):CIns:=(c.ins[q]?).getD ⟨0,0⟩
theorem Dy(hf:∀q:Nat,(AB c q).op=17\/(AB c q).op=18->(q:Int)<(AB c q).a): ∀(f q:Nat) (met m:Met),Dq p c env next f q met=some m->∀j,j<q->m j=met j
 |0,_,_,_,h,_,_=>by cases h;rfl
 | f+1,q,met,m,h,j,hj=>by
  rw[Dq]at h
  split at h
  ·exact Dy hf f _ _ _ h j (by omega)
  ·split at h
   ·cases h
   ·rename_i e
    rw[Dy hf f _ _ _ h j (by omega)]
    rcases Kt e (hf q) j with e2|⟨e2,_⟩
    ·exact e2
    ·omega
theorem I2(hf:∀q:Nat,(AB c q).op=17\/(AB c q).op=18->(q:Int)<(AB c q).a)(e0:Int): ∀(f q:Nat) (met m:Met),Dq p c env next f q met=some m->(∀j l,met j=some l->l.env<=e0+j)->
  ∀j l,q<=j->j<q+f->m j=some l->(AB c j).op=3->(AB c j).a<e0+j
 |0,_,_,_,_,_,_,_,_,_,_,_=>by omega
 | f+1,q,met,m,h,hE,j,l,h1,h2,hm,h3=>by
  rw[Dq]at h
  split at h
  ·rename_i hq
   by_cases hj:j=q
   ·subst hj
    rw[Dy hf f _ _ _ h j (by omega),hq]at hm
    cases hm
   ·exact I2 hf e0 f _ _ _ h hE j l (by omega) (by omega) hm h3
  ·rename_i l0 hq
   split at h
   ·cases h
   ·rename_i m0 e
    by_cases hj:j=q
    ·subst hj
     have:=Q6 e h3
     have:=hE j l0 hq
     unfold AB
     omega
    ·refine I2 hf e0 f _ _ _ h (fun i l' hi=>?_) j l (by omega) (by omega) hm h3
     rcases Kt e (hf q) i with e2|⟨e2,l2,e3,e4⟩
     ·rw[e2]at hi;exact hE i l' hi
     ·rw[e3]at hi;cases hi
      have:=hE q l0 hq
      omega
theorem TM(hf:∀q:Nat,(AB c q).op=17\/(AB c q).op=18->(q:Int)<(AB c q).a){s:CSt}{w:Met}(h:wayM p c s=some w)(h0:s.env<=3){j:Nat}{l:CLev}(hl:w j=some l)(h3:(AB c j).op=3):(AB c j).a<3+j:=by
 have hd:=MN h
 unfold wayM at h
 split at h
 ·cases h
 ·have hj:j<c.ins.length:=Classical.byContradiction fun hn=>by rw[hd j (by omega)]at hl;cases hl
  by_cases hq:s.pos.toNat<=j
  ·refine I2 hf 3 _ _ _ _ h (fun i l' hi=>?_) j l hq (by omega) hl h3
   unfold updM at hi
   split at hi
   ·cases hi;simp only;omega
   ·cases hi
  ·rw[Dy hf _ _ _ _ h j (by omega)]at hl
   unfold updM at hl
   rw[if_neg (by omega)]at hl
   cases hl
end
def fitsQ(p:BProg)(N:Nat)(q:Nat)(x:CIns):Bool:=
 if x.op=1 then inB x.a else if x.op=3 then decide (0<=x.a/\x.a<=123+N) else if x.op=4\/x.op=6 then decide (3<=x.a/\x.a<3+p.classes.length) else if x.op=5\/x.op=8 then decide (0<=x.a/\x.a<p.slots) else
 if x.op=17\/x.op=18 then decide ((q:Int)<x.a/\x.a<N) else if x.op=19 then decide (0<=x.a/\x.a<p.gens.length) else decide (1<=x.op/\x.op<=21/\x.a=0)
def C1(p:BProg)(N:Nat):List CIns->Nat->Bool
 |[],_=>true
 |x::r,q=>fitsQ p N q x&&C1 p N r (q+1)
theorem Uy{p:BProg}{N q:Nat}{x:CIns}(h:fitsC p N q x=true)(h3:x.op=3->x.a<=123+N):fitsQ p N q x=true:=by
 unfold fitsC at h;unfold fitsQ
 by_cases e:x.op=3
 ·rw[if_neg (by omega),if_pos e]at h⊢
  simp only[decide_eq_true_eq]at h⊢
  exact⟨h,h3 e⟩
 ·rw[if_neg e]at h⊢
  exact h
theorem Uz{p:BProg}{N q:Nat}{x:CIns}(h:fitsQ p N q x=true):fitsC p N q x=true:=by
 unfold fitsQ at h;unfold fitsC
 by_cases e:x.op=3
 ·rw[if_neg (by omega),if_pos e]at h⊢
  simp only[decide_eq_true_eq]at h⊢
  exact h.1
 ·rw[if_neg e]at h⊢
  exact h
theorem MI{p:BProg}{N:Nat}: ∀(l:List CIns) (q:Nat),C1 p N l q=true->F8 p N l q=true
 |[],_,_=>rfl
 |x::r,q,h=>by
  rw[C1,Bool.and_eq_true]at h
  rw[F8,Uz h.1,MI r _ h.2];rfl
theorem Kh{p:BProg}{N:Nat}: ∀(l:List CIns) (q:Nat),F8 p N l q=true->(∀(i:Nat) (x:CIns),l[i]? = some x->x.op=3->x.a<=123+N)->C1 p N l q=true
 |[],_,_,_=>rfl
 |x::r,q,h,hn=>by
  rw[F8,Bool.and_eq_true]at h
  rw[C1,Uy h.1 (hn 0 x rfl),Kh r _ h.2 fun i y hy=>hn (i+1) y (by rw[List.getElem?_cons_succ];exact hy)];rfl
def stsQ(p:BProg)(c:CProg):List CSt:=⟨c.main,0,false⟩::List.zipWith (DA p) p.methods c.starts
def KI(p:BProg)(c:CProg):Option (List CLev):=
 if okP p&&(decide (c.ins.length<=300)&&(decide (c.starts.length=p.methods.length)&&C1 p c.ins.length c.ins 0)) then Gf p c (stsQ p c) else none
theorem QY (p:BProg) (c:CProg):KI p c=Ei p c:=by
 unfold KI Ei
 have hs:Gf p c (stsQ p c)=Gf p c (stsP p c):=Pd fun s=>by unfold stsQ stsP;rw[List.mem_cons,List.mem_append,List.mem_singleton,or_comm]
 rw[hs]
 by_cases aj:okP p=true
 ·by_cases h1:c.ins.length<=300
  ·by_cases h2:c.starts.length=p.methods.length
   ·rw [aj,decide_eq_true h1,decide_eq_true h2,Bool.true_and,Bool.true_and,Bool.true_and,Bool.true_and]
    cases hq:C1 p c.ins.length c.ins 0 with
    |true=>rw[MI _ _ hq];rfl
    | false =>
     cases hf:F8 p c.ins.length c.ins 0 with
     |false=>rfl
     | true =>
      rw[if_neg (by simp)]
      change none=Gf p c (stsP p c)
      cases hl:Gf p c (stsP p c)with
      |none=>rfl
      | some lv =>
       exfalso
       have ba:=hq
       rw[Kh _ _ hf]at ba
       ·cases ba
       intro i x hx h3
       have hi:i<c.ins.length:=(List.getElem?_eq_some_iff.1 hx).1
       have ha:∀q,AB c q=((c.ins[q]?).getD ⟨0,0⟩):=fun _=>rfl
       have aV:∀q:Nat,(AB c q).op=17\/(AB c q).op=18->(q:Int)<(AB c q).a:=fun q aw=>by
        rw[ha]at aw⊢
        cases hc:c.ins[q]? with
        |none=>rw[hc]at aw;simp at aw
        |some y=>
         rw[hc]at aw
         simp only[Option.getD_some]at aw⊢
         have:=(Fq _ _).1 hf q y hc
         unfold fitsC at this
         rw[if_neg (by omega),if_neg (by omega),if_neg (by omega),if_neg (by omega),if_pos aw]at this
         simp only[decide_eq_true_eq]at this
         omega
       unfold Gf at hl
       cases hL:Fu p c (stsP p c) (fun _=>none)with
       |none=>rw[hL]at hl;cases hl
       | some W =>
        rw[hL]at hl
        simp only at hl
        split at hl
        ·rename_i aY
         have:=List.all_eq_true.1 aY i (List.mem_range.2 hi)
         obtain⟨l,hW⟩:=Option.isSome_iff_exists.1 this
         rcases((Fg _ _ _).1 hL).2.2 i l hW with h|⟨s,hs,w,hw,bm⟩
         ·cases h
         ·have aW:s.env<=3:=by
           unfold stsP at hs
           rcases List.mem_append.1 hs with hs|hs
           ·rw[<-List.map_uncurry_zip_eq_zipWith]at hs
            obtain⟨⟨m,n⟩,_,rfl⟩:=List.mem_map.1 hs
            exact(H6 aj m.gen.toNat).2
           ·rw[List.mem_singleton]at hs;rw[hs];simp
          have e:AB c i=x:=by rw[ha,hx];rfl
          have:=TM aV hw aW bm (by rw[e];exact h3)
          rw[e]at this
          omega
        ·cases hl
   ·rw[aj,decide_eq_true h1,decide_eq_false h2];rfl
  ·rw[aj,decide_eq_false h1];rfl
 ·rw[Bool.not_eq_true]at aj
  rw[aj];rfl
def FD {S:Type} (p:BProg) (c:CProg) (env:Int) (next:Bool) (step:Nat->CLev->S->Option S):Nat->Nat->Met->S->Option S
 |0,_,_,s=>some s
 | f+1,q,met,s=>match met q with
  |none=>FD p c env next step f (q+1) met s
  | some l=>match Ec p c env next q (AB c q) l met with
   |none=>none
   |some m=>match step q l s with
    |none=>none
    |some s'=>FD p c env next step f (q+1) m s'
def By{S:Type}(p:BProg)(c:CProg)(x:CSt)(step:Nat->CLev->S->Option S)(s:S):Option S:=
 if x.pos<0\/(c.ins.length:Int)<=x.pos then none else FD p c x.env x.next step (c.ins.length-x.pos.toNat) x.pos.toNat (updM (fun _=>none) x.pos.toNat ⟨0,x.env⟩) s
def Nh(k:Nat)(l:CLev)(W:Met):Option Met:=if W k≠none/\W k≠some l then none else some (updM W k l)
open Classical in
noncomputable def mrgF(q N:Nat)(W w:Met):Option Met:=
 if ∀k,q<=k->k<N->W k=none\/w k=none\/W k=w k then some (fun k=>if q<=k/\k<N then(match w k with|none=>W k|some x=>some x) else W k) else none
section
variable {p:BProg}{c:CProg}{env:Int}{next:Bool}
theorem NJ (hf : ∀ q:Nat,(AB c q).op=17\/(AB c q).op=18->(q:Int) < (AB c q).a) : ∀ (f q:Nat) (met W:Met),FD p c env next Nh f q met W=match Dq p c env next f q met with
  |none=>none
  |some w=>mrgF q (q+f) W w
 |0,q,met,W=>by
  rw[FD,Dq]
  simp only[mrgF]
  rw[if_pos (fun k h1 h2=>by omega)]
  congr 1;funext k;rw[if_neg (by omega)]
 | f+1,q,met,W=>by
  rw[FD,Dq]
  have ih:=NJ hf f (q+1)
  cases hq:met q with
  | none =>
   simp only
   rw[ih]
   cases hs:Dq p c env next f (q+1) met with
   |none=>rfl
   | some w =>
    have hw:w q=none:=by rw[Dy hf f (q+1) met w hs q (by omega),hq]
    rw[show q+1+f=q+(f+1) by omega]
    simp only[mrgF]
    have e:(∀k,q+1<=k->k<q+(f+1)->W k=none\/w k=none\/W k=w k) ↔ (∀k,q<=k->k<q+(f+1)->W k=none\/w k=none\/W k=w k):=
     ⟨fun h k h1 h2=>Decidable.byCases (fun e:k=q=>by subst e;exact .inr (.inl hw)) fun e=>h k (by omega) h2,fun h k h1 h2=>h k (by omega) h2⟩
    by_cases hc:∀k,q<=k->k<q+(f+1)->W k=none\/w k=none\/W k=w k
    ·rw[if_pos (e.2 hc),if_pos hc]
     congr 1;funext k
     by_cases hk:k=q
     ·subst hk;rw[if_neg (by omega),if_pos (by omega),hw]
     ·by_cases h:q<=k/\k<q+(f+1)
      ·rw[if_pos h,if_pos (by omega)]
      ·rw[if_neg h,if_neg (by omega)]
    ·rw[if_neg hc,if_neg (fun h=>hc (e.1 h))]
  | some l =>
   simp only
   have hi:(c.ins[q]?).getD ⟨0,0⟩=AB c q:=rfl
   rw[hi]
   cases ag:Ec p c env next q (AB c q) l met with
   |none=>rfl
   | some m =>
    simp only
    have bb:m q=some l:=by
     rcases Kt ag (hf q) q with h|⟨h,_⟩
     ·rw[h,hq]
     ·omega
    cases hg:Nh q l W with
    | none =>
     simp only
     cases hs:Dq p c env next f (q+1) m with
     |none=>rfl
     | some w =>
      have hw:w q=some l:=by rw[Dy hf f (q+1) m w hs q (by omega),bb]
      unfold Nh at hg
      split at hg
      ·rename_i hc
       simp only[mrgF]
       rw[if_neg]
       intro h
       rcases h q (by omega) (by omega)with h|h|h
       ·exact hc.1 h
       ·rw[hw]at h;cases h
       ·rw[hw]at h;exact hc.2 h
      ·cases hg
    | some V =>
     simp only
     rw[ih]
     cases hs:Dq p c env next f (q+1) m with
     |none=>rfl
     | some w =>
      have hw:w q=some l:=by rw[Dy hf f (q+1) m w hs q (by omega),bb]
      unfold Nh at hg
      split at hg
      ·cases hg
      ·rename_i hc
       cases hg
       have bE:W q=none\/W q=some l:=by
        cases h:W q with
        |none=>exact .inl rfl
        |some y=>right;exact Classical.byContradiction fun h2=>hc ⟨by rw[h];simp,by rw[h];exact h2⟩
       rw[show q+1+f=q+(f+1) by omega]
       simp only[mrgF]
       have hu:∀k,k≠q->updM W q l k=W k:=fun k hk=>by unfold updM;rw[if_neg hk]
       have e:(∀k,q+1<=k->k<q+(f+1)->updM W q l k=none\/w k=none\/updM W q l k=w k) ↔ (∀k,q<=k->k<q+(f+1)->W k=none\/w k=none\/W k=w k):=
        ⟨fun h k h1 h2=>by
         by_cases e:k=q
         ·subst e;rw[hw];rcases bE with h|h
          ·exact .inl h
          ·exact .inr (.inr h)
         ·have:=h k (by omega) h2;rwa [hu k e]at this,fun h k h1 h2=>by rw[hu k (by omega)];exact h k (by omega) h2⟩
       by_cases aI:∀k,q<=k->k<q+(f+1)->W k=none\/w k=none\/W k=w k
       ·rw[if_pos (e.2 aI),if_pos aI]
        congr 1;funext k
        by_cases hk:k=q
        ·subst hk;rw[if_neg (by omega),if_pos (by omega),hw];unfold updM;rw[if_pos rfl]
        ·rw[hu k hk]
         by_cases h:q<=k/\k<q+(f+1)
         ·rw[if_pos h,if_pos (by omega)]
         ·rw[if_neg h,if_neg (by omega)]
       ·rw[if_neg aI,if_neg (fun h=>aI (e.1 h))]
theorem Fd{N:Nat}{met m:Met}{n:Int}{l:CLev}(h:BJ N met n l=some m)(hm:∀j,N<=j->met j=none): ∀j,N<=j->m j=none:=fun j hj=>by
 rcases reach_at h j with e|⟨e,_⟩
 ·rw[e];exact hm j hj
 ·unfold BJ at h
  split at h
  ·cases h
  ·rename_i hc;exfalso;omega
theorem step_hi {q:Nat} {x:CIns} {l:CLev} {met m:Met} (h:Ec p c env next q x l met=some m) (hm : ∀ j,c.ins.length<=j->met j=none) : ∀ j,c.ins.length<=j->m j=none:=by
 unfold Ec at h
 split at h
 ·cases h
 ·split at h
  ·split at h
   ·cases h;exact hm
   ·cases h
  ·split at h
   ·exact Fd h hm
   ·split at h
    ·exact Fd h hm
    ·split at h
     ·exact Fd h hm
     ·split at h
      ·split at h
       ·cases h
       ·rename_i m1 h1
        exact Fd h (Fd h1 hm)
      ·exact Fd h hm
theorem N2: ∀(f q:Nat) (met m:Met),Dq p c env next f q met=some m->(∀j,c.ins.length<=j->met j=none)->∀j,c.ins.length<=j->m j=none
 |0,_,_,_,h,hm=>by cases h;exact hm
 | f+1,q,met,m,h,hm=>by
  rw[Dq]at h
  split at h
  ·exact N2 f _ _ _ h hm
  ·split at h
   ·cases h
   ·rename_i m1 h1
    exact N2 f _ _ _ h (step_hi h1 hm)
theorem TP(hf:∀q:Nat,(AB c q).op=17\/(AB c q).op=18->(q:Int)<(AB c q).a)(x:CSt)(W:Met):By p c x Nh W=match wayM p c x with
  |none=>none
  |some w=>mrgM c.ins.length W w:=by
 unfold By wayM
 split
 ·rfl
 ·rename_i hx
  rw[NJ hf]
  cases hs:Dq p c x.env x.next (c.ins.length-x.pos.toNat) x.pos.toNat (updM (fun _=>none) x.pos.toNat ⟨0,x.env⟩)with
  |none=>rfl
  | some w =>
   simp only
   have bc:∀k,k<x.pos.toNat->w k=none:=fun k hk=>by rw[Dy hf _ _ _ _ hs k hk];unfold updM;rw[if_neg (by omega)]
   have bz:∀k,c.ins.length<=k->w k=none:=N2 _ _ _ _ hs fun j hj=>by unfold updM;rw[if_neg (by omega)]
   rw[show x.pos.toNat+(c.ins.length-x.pos.toNat)=c.ins.length by omega]
   unfold mrgF mrgM
   have e:(∀k,x.pos.toNat<=k->k<c.ins.length->W k=none\/w k=none\/W k=w k) ↔ ((List.range c.ins.length).all (fun k=>W k=none||w k=none||W k=w k)=true):=by
    rw[List.all_eq_true]
    constructor
    ·intro h k hk
     simp only[Bool.or_eq_true,decide_eq_true_eq]
     by_cases h1:x.pos.toNat<=k
     ·rcases h k h1 (by simpa using hk)with h|h|h
      ·exact .inl (.inl h)
      ·exact .inl (.inr h)
      ·exact .inr h
     ·exact .inl (.inr (bc k (by omega)))
    ·intro h k _ h2
     have:=h k (by simpa using h2)
     simp only[Bool.or_eq_true,decide_eq_true_eq]at this
     rcases this with(h|h)|h
     ·exact .inl h
     ·exact .inr (.inl h)
     ·exact .inr (.inr h)
   by_cases hc:∀k,x.pos.toNat<=k->k<c.ins.length->W k=none\/w k=none\/W k=w k
   ·rw[if_pos hc,if_pos (e.1 hc)]
    congr 1;funext k
    split
    ·rfl
    ·have:w k=none:=by
      by_cases h:k<x.pos.toNat
      ·exact bc k h
      ·exact bz k (by omega)
     rw[this]
   ·rw[if_neg hc,if_neg (fun h=>hc (e.2 h))]
end
abbrev MetL:=List (Int×CLev)
def metOf(m:MetL):Met:=fun j=>if hasM (j:Int) m then some (getM ⟨0,0⟩ (j:Int) m) else none
theorem QQ:metOf []=fun _=>none:=rfl
theorem CW(m:MetL)(n:Nat)(l:CLev):metOf (putM (n:Int) l m)=updM (metOf m) n l:=by
 funext j
 unfold metOf updM
 rw[Gl,En]
 by_cases e:j=n
 ·subst e;simp
 ·have e':¬((j:Int)=n):=fun h=>e (by omega)
  simp[e,e']
def EX(k:Nat)(l:CLev)(W:MetL):Option MetL:=if hasM (k:Int) W=true/\getM ⟨0,0⟩ (k:Int) W≠l then none else some (putM (k:Int) l W)
theorem Uu(k:Nat)(l:CLev)(W:MetL):Nh k l (metOf W)=(EX k l W).map metOf:=by
 unfold Nh EX metOf
 cases h:hasM (k:Int) W with
 |false=>simp only[Bool.false_eq_true,if_false,false_and];rw[if_neg (by simp)];show _=some (metOf _);rw[CW];rfl
 |true=>
  simp only[if_true,true_and]
  by_cases e:getM ⟨0,0⟩ (k:Int) W=l
  ·rw[if_neg (fun h=>h.2 (by rw[e])),if_neg (fun h=>h e)];show _=some (metOf _);rw[CW];rfl
  ·rw[if_pos ⟨by simp,by simpa using e⟩,if_pos e];rfl
theorem HI{S T:Type}{p:BProg}{c:CProg}{env:Int}{next:Bool}{f:S->T}{g:Nat->CLev->S->Option S}{h:Nat->CLev->T->Option T}(e:∀k l s,h k l (f s)=(g k l s).map f): ∀(n q:Nat) (met:Met) (s:S),FD p c env next h n q met (f s)=(FD p c env next g n q met s).map f
 |0,_,_,_=>rfl
 | n+1,q,met,s=>by
  rw[FD,FD]
  split
  ·exact HI e n _ _ _
  ·split
   ·rfl
   ·rw[e]
    cases g q _ s with
    |none=>rfl
    |some s'=>exact HI e n _ _ _
theorem OP{S T:Type}{p:BProg}{c:CProg}{x:CSt}{f:S->T}{g:Nat->CLev->S->Option S}{h:Nat->CLev->T->Option T}(e:∀k l s,h k l (f s)=(g k l s).map f)(s:S):By p c x h (f s)=(By p c x g s).map f:=by
 unfold By
 split
 ·rfl
 ·exact HI e _ _ _ _
def allL(p:BProg)(c:CProg):List CSt->MetL->Option MetL
 |[],W=>some W
 |s::r,W=>match By p c s EX W with
  |none=>none
  |some V=>allL p c r V
theorem OK{p:BProg}{c:CProg}(hf:∀q:Nat,(AB c q).op=17\/(AB c q).op=18->(q:Int)<(AB c q).a): ∀(l:List CSt) (W:MetL),Fu p c l (metOf W)=(allL p c l W).map metOf
 |[],_=>rfl
 | s::r,W=>by
  rw[Fu,allL]
  have h:=TP (p:=p) hf s (metOf W)
  rw[OP (f:=metOf) Uu]at h
  cases hw:wayM p c s with
  |none=>
   rw[hw]at h
   simp only at h
   cases hl:By p c s EX W with
   |none=>rfl
   |some V=>rw[hl]at h;cases h
  |some w=>
   rw[hw]at h
   simp only at h⊢
   rw[<-h]
   cases hl:By p c s EX W with
   |none=>rfl
   |some V=>exact OK hf r V
def Gj(N:Nat)(W:MetL):Prop:=(W.map (·.1)).Nodup /\ ∀x∈W,0<=x.1/\x.1<N
theorem Gm(k:Int): ∀m:MetL,hasM k m=true ↔ k∈m.map (·.1)
 |[]=>by simp[hasM]
 |x::m=>by rw[hasM,List.map_cons,List.mem_cons,Bool.or_eq_true,decide_eq_true_eq,Gm k m]
theorem I6(k:Int)(l:CLev): ∀m:MetL,(putM k l m).map (·.1)=if hasM k m then m.map (·.1) else m.map (·.1)++[k]
 |[]=>by simp[putM,hasM]
 | x::m=>by
  rw[putM,hasM]
  by_cases e:k=x.1
  ·subst e;simp
  ·rw[if_neg e]
   have:decide (k=x.1)=false:=by simp[e]
   rw[this,Bool.false_or,List.map_cons,I6 k l m]
   split<;>simp
theorem Ph{N:Nat}{W:MetL}(h:Gj N W){k:Nat}(hk:k<N)(l:CLev):Gj N (putM (k:Int) l W):=by
 have hm:∀x:Int,x∈(putM (k:Int) l W).map (·.1)->0<=x/\x<N:=fun x hx=>by
  rw[I6]at hx
  split at hx
  ·obtain⟨y,hy,rfl⟩:=List.mem_map.1 hx;exact h.2 y hy
  ·rcases List.mem_append.1 hx with hx|hx
   ·obtain⟨y,hy,rfl⟩:=List.mem_map.1 hx;exact h.2 y hy
   ·rw[List.mem_singleton]at hx;omega
 refine⟨?_,fun x hx=>hm x.1 (List.mem_map.2 ⟨x,hx,rfl⟩)⟩
 rw[I6]
 split
 ·exact h.1
 ·rename_i hn
  refine List.nodup_append.2 ⟨h.1,by simp,fun a ha b hb=>?_⟩
  rw[List.mem_singleton]at hb
  subst hb
  intro e;subst e
  exact hn ((Gm _ _).2 ha)
theorem Lz: ∀(N:Nat) (l:List Int),l.Nodup->(∀x∈l,0<=x/\x<N)->l.length<=N/\(l.length=N ↔ ∀k:Nat,k<N->(k:Int)∈l)
 | 0,l,_,hl=>by
  have:l=[]:=by
   cases l with
   |nil=>rfl
   |cons x l=>have:=hl x (by simp);omega
  subst this;simp
 | N+1,l,hn,hl=>by
  have h1:=Lz N (l.erase (N:Int)) (hn.erase _) fun x hx=>by
   have h2:=(hn.mem_erase_iff).1 hx
   have:=hl x h2.2;have:=h2.1;omega
  have hm:∀k:Nat,k<N->((k:Int)∈l.erase (N:Int) ↔ (k:Int)∈l):=fun k hk=>by
   rw[hn.mem_erase_iff];exact⟨fun h=>h.2,fun h=>⟨by omega,h⟩⟩
  by_cases hN:(N:Int)∈l
  ·have hlen:=List.length_erase_of_mem hN
   have br:0<l.length:=List.length_pos_of_mem hN
   refine⟨by omega,fun h k hk=>?_,fun h=>?_⟩
   ·by_cases e:k=N
    ·subst e;exact hN
    ·exact(hm k (by omega)).1 (h1.2.1 (by omega) k (by omega))
   ·have:=h1.2.2 fun k hk=>(hm k hk).2 (h k (by omega))
    omega
  ·rw[List.erase_of_not_mem hN]at h1
   exact⟨by omega,fun h=>by omega,fun h=>absurd (h N (by omega)) hN⟩
theorem PW{N:Nat}{W:MetL}(h:Gj N W):(W.length=N) ↔ (List.range N).all (fun k=>(metOf W k).isSome)=true:=by
 have:=(Lz N (W.map (·.1)) h.1 fun x hx=>by obtain⟨y,hy,rfl⟩:=List.mem_map.1 hx;exact h.2 y hy).2
 rw[List.length_map]at this
 rw[this,List.all_eq_true]
 constructor
 ·intro h k hk
  unfold metOf;rw[if_pos ((Gm _ _).2 (h k (by simpa using hk)))];rfl
 ·intro h k hk
  have:=h k (by simpa using hk)
  unfold metOf at this
  split at this
  ·rename_i h2;exact(Gm _ _).1 h2
  ·cases this
theorem H2{p:BProg}{c:CProg}{env:Int}{next:Bool}: ∀(n q:Nat) (met:Met) (W V:MetL),q+n<=c.ins.length->Gj c.ins.length W->FD p c env next EX n q met W=some V->Gj c.ins.length V
 |0,_,_,_,_,_,h,e=>by cases e;exact h
 | n+1,q,met,W,V,hq,h,e=>by
  rw[FD]at e
  split at e
  ·exact H2 n _ _ _ _ (by omega) h e
  ·split at e
   ·cases e
   ·split at e
    ·cases e
    ·rename_i s' hs
     unfold EX at hs
     split at hs
     ·cases hs
     ·cases hs
      exact H2 n _ _ _ _ (by omega) (Ph h (by omega) _) e
theorem Pg{p:BProg}{c:CProg}{x:CSt}{W V:MetL}(h:Gj c.ins.length W)(e:By p c x EX W=some V):Gj c.ins.length V:=by
 unfold By at e
 split at e
 ·cases e
 ·exact H2 _ _ _ _ _ (by omega) h e
theorem JN{p:BProg}{c:CProg}: ∀(l:List CSt) (W V:MetL),Gj c.ins.length W->allL p c l W=some V->Gj c.ins.length V
 |[],_,_,h,e=>by cases e;exact h
 | s::r,W,V,h,e=>by
  rw[allL]at e
  split at e
  ·cases e
  ·rename_i V1 h1
   exact JN r _ _ (Pg h h1) e
def HH(p:BProg)(c:CProg):Option MetL:=match allL p c (stsQ p c) []with
 |none=>none
 |some W=>if W.length=c.ins.length then some W else none
theorem OO{p:BProg}{c:CProg}(hf:∀q:Nat,(AB c q).op=17\/(AB c q).op=18->(q:Int)<(AB c q).a):Gf p c (stsQ p c)=(HH p c).map fun W=>(List.range c.ins.length).map fun k:Nat=>getM ⟨0,0⟩ (k:Int) W:=by
 unfold Gf HH
 rw[<-QQ,OK hf]
 cases h:allL p c (stsQ p c) []with
 |none=>rfl
 | some W =>
  have hk:=JN _ _ _ ⟨by simp,by simp⟩ h
  have hw:=PW hk
  show(if _ then _ else _)=_
  simp only
  by_cases e:W.length=c.ins.length
  ·rw[if_pos e,if_pos (hw.1 e)]
   simp only[Option.map_some,Option.some.injEq]
   refine List.map_congr_left fun k bf=>?_
   have:=List.all_eq_true.1 (hw.1 e) k bf
   unfold metOf at this⊢
   split at this
   ·rename_i h2;rw[if_pos h2];rfl
   ·cases this
  ·rw[if_neg e,if_neg (fun h=>e (hw.2 h))];rfl
def C5(p:BProg)(c:CProg):Option MetL:=
 if okP p&&(decide (c.ins.length<=300)&&(decide (c.starts.length=p.methods.length)&&C1 p c.ins.length c.ins 0)) then HH p c else none
theorem He{p:BProg}{N:Nat}: ∀(l:List CIns) (q:Nat),C1 p N l q=true->∀(i:Nat) (x:CIns),l[i]? = some x->fitsQ p N (q+i) x=true
 |[],_,_,_,_,h=>by simp at h
 |y::l,q,h,i,x,hx=>by
  rw[C1,Bool.and_eq_true]at h
  cases i with
  |zero=>simp at hx;subst hx;exact h.1
  |succ i=>simp at hx;have:=He l (q+1) h.2 i x hx;rwa [show q+1+i=q+(i+1) by omega]at this
theorem Uw{p:BProg}{c:CProg}(h:C1 p c.ins.length c.ins 0=true): ∀q:Nat,(AB c q).op=17\/(AB c q).op=18->(q:Int)<(AB c q).a:=fun q ho=>by
 unfold AB at ho⊢
 cases hx:c.ins[q]? with
 |none=>rw[hx]at ho;simp at ho
 |some x=>
  rw[hx]at ho
  have:=He _ _ h q x hx
  unfold fitsQ at this
  simp only[Option.getD_some]at ho⊢
  rcases ho with e|e<;>rw[e]at this<;>simp at this<;>omega
theorem Pc(p:BProg)(c:CProg):KI p c=(C5 p c).map fun W=>(List.range c.ins.length).map fun k:Nat=>getM ⟨0,0⟩ (k:Int) W:=by
 unfold KI C5
 split
 ·rename_i h
  simp only[Bool.and_eq_true,decide_eq_true_eq]at h
  exact OO (Uw h.2.2.2)
 ·rfl
end Go.DL
namespace Go.DL
open Go.Proofs.Tryz
open Go Go.Proofs
set_option maxHeartbeats 8000000
theorem Pn{S:Type}(l:List Int)(lb:Nat)(u:D)(Good:Sig->S->Prop)(Bad:Sig->Prop)(touch:Nat->Prop)(step:Int->S->S)(hl:l.length<=1073741824)
  (hy:∀(k:Nat) (hk:k<l.length) O s,Good O s->DYield prog lb [dI k,dI l[k]] O (OutO u (.bool true) Good Bad touch O (some (step l[k] s)))) (O:Sig) (s:S) (hG:Good O s) :
  DCall prog 366 [.yld lb,.cptr [sl (cI l)] 0] O (OutO u (.tup []) Good Bad touch O (some (l.foldr step s))):=by
 refine en func366 ntmps366 ?_
 try refine gz ?_
 refine Ft [0,1] (fun (k:Nat) (s1:S) (U1:Sig)=>k<=l.length/\Good U1 s1/\l.foldr step s=(l.take k).foldr step s1/\(∀j o,O j=some o->¬touch j->U1 j=some o)) (fun k _ _=>[(3,dI ((k:Int)-1))]) (fun _ _ U1=>U1) (fun k _ _=>k) (l.length) (s) (O) (by exact⟨by omega,hG,by simp,fun _ _ h _=>h⟩) (fun k s1 U1 hI=>?_)
 obtain⟨hk,aK,hR,hK⟩:=hI
 cases k with
 |zero=>
  try refine gz ?_
  refine DZ (U':=U1) ?_
  exact⟨rfl,by rw[hR];exact aK,hK⟩
 |succ k=>
  have aA:k<l.length:=by omega
  have e:((k+1:Nat):Int)-1=k:=by omega
  rw[List.take_succ_eq_append_getElem aA,List.foldr_append]at hR
  try refine gf e ?_
  refine yldW (hy k aA U1 s1 aK) (fun d U' hr=>?_) (fun d U' hr=>by obtain⟨h,_⟩:=hr.pan;cases h)
  obtain⟨s2,bp,rfl,aZ,aJ⟩:=hr.ret
  cases bp
  try refine gf e ?_
  exact⟨k,_,U',⟨by omega,aZ,hR,fun j o h1 h2=>aJ j o (hK j o h1 h2) h2⟩,td1,wkR⟩
theorem RN(l:List Int)(O:Sig):DCall prog 336 [sl (cI l)] O (rS (.func (.func 366) [] [.cptr [sl (cI l)] 0]) O):=by
 refine en func336 ntmps336 ?_
 try refine gz ?_
 exact fe1 trivial
@[reducible,instance] def a336:=fun l O=>ah0 (@RN l O)
def Dz:List Init->List (Int×Int)->List (Int×Int)
 |[],m=>m
 |x::r,m=>Dz r (putM x.slot x.n m)
def Dn(p:BProg)(c:Int)(m:List (Int×Int)):List (Int×Int):=if 3<=c then Dz (((p.classes[(c-3).toNat]?).map (·.inits)).getD []) m else m
def Hp(p:BProg)(order:List Int):List (Int×Int):=order.foldr (Dn p) []
def beginL(m:List (Int×Int)):List Int->List Init
 |[]=>[]
 |s::r=>if hasM s m then⟨s,getM 0 s m⟩::beginL m r else beginL m r
def E5(p:BProg)(c:Int):List Init:=beginL (Hp p (linF (p.classes.map (·.parents)) c)) (hasP p c)
theorem Gk{p:BProg}: ∀{cs:List BClass}{i:Nat},Bg p i cs=true->∀k,k<cs.length->linE (p.classes.map (·.parents)) (((i+k:Nat):Int)+3)=0
 |c::r,i,h,0,_=>by rw[Bg]at h;simp only[Bool.and_eq_true,decide_eq_true_eq]at h;exact h.1.1
 |c::r,i,h,k+1,hk=>by
  rw[Bg]at h;simp only[Bool.and_eq_true,decide_eq_true_eq]at h
  have:=Gk h.2 k (by simpa using hk)
  rw[show i+(k+1)=i+1+k by omega];exact this
theorem okP_lin{p:BProg}(h:okP p=true){c:Int}(h1:3<=c)(h2:c<3+p.classes.length):linE (p.classes.map (·.parents)) c=0/\Cw (p.classes.map (·.parents))=true:=by
 have h:=Eh h
 unfold AA at h
 simp only[Bool.and_eq_true,decide_eq_true_eq]at h
 obtain⟨_,h⟩:=h
 split at h
 ·cases h
 ·simp only[Bool.and_eq_true,decide_eq_true_eq]at h
  have:=Gk h.2 (c-3).toNat (by omega)
  rw[show(((0+(c-3).toNat:Nat):Int)+3)=c by omega]at this
  exact⟨this,h.1.2⟩
theorem finMR{P:Program}{n:Nat}{fn:Func}{R:DE->Sig->Prop}{γ:Fr}{O U':Sig}{d d':D}(js:List Nat)(hR:R (.ret d') U')(hU:Sub U' (dels js O))(hn:js.Nodup:=by simp)(hd:∀j∈js,O j=some .defs:=by simp)(h:resD fn γ=some d:=by exact tdR)(hw:WkD d d'): ∃s',Wk P n ⟨γ,O,js.map .coll⟩ s'/\PP P n fn (Weak R) .ret s':=
 ⟨_,Wk.refl _ _ _,js,rfl,hn,hd,d,CQ h,.ret d',U',hw,hU,hR⟩
theorem RU(p:BProg)(c:Int)(O:Sig)(hp:p.wt<=1073741824:=by exact sd):DCall prog 290 [.agg (Ai p),dI c] O (rS (.tup [sl ((if ownF p c&&okP p then E5 p c else []).map IZ),dI (if ownF p c&&okP p then 0 else 2)]) O):=by
 obtain⟨p1,p2,p3,p4,p5,p6,p7⟩:=p.wt_le
 have aL:∀c∈p.classes,c.parents.length<=1073741824/\c.slots.length<=1073741824/\c.inits.length<=1073741824:=fun c hc=>by
  obtain⟨k,hk,rfl⟩:=List.getElem_of_mem hc
  have:=p5 k hk
  unfold BClass.wt at this;omega
 have bI:∀c∈p.classes,c.parents.length<=1073741824:=fun c hc=>(aL c hc).1
 have bJ:∀x∈p.classes.map (·.parents),x.length<=1073741824:=fun x hx=>by obtain⟨c,hc,rfl⟩:=List.mem_map.1 hx;exact(aL c hc).1
 refine Es func290 rfl (by decide) ntmps290 (by simp) ?_
 cases hk:ownF p c&&okP p
 ·try refine gf hk ?_
  refine finMR [] (U':=O) ⟨rfl,rfl⟩ (Sub.refl _) (hw:=?_)
  exact CE ⟨Am _ (.inl rfl),A8 _,trivial⟩
 ·have ho:3<=c/\c<3+p.classes.length:=by simp only[ownF,Bool.and_eq_true,decide_eq_true_eq]at hk;exact hk.1
  have aj:okP p=true:=by simp only[Bool.and_eq_true]at hk;exact hk.2
  obtain⟨h1,h2⟩:=ho
  obtain⟨ay,ae⟩:=okP_lin aj h1 h2
  have bd:linF (p.classes.map (·.parents)) c=LJ (p.classes.map (·.parents)) c:=by
   unfold linF;rw[if_pos ⟨ae,by omega,by rw[List.length_map];omega⟩]
  have aO:∀y∈linF (p.classes.map (·.parents)) c,0<=y/\y<3+p.classes.length:=fun y hy=>by
   rw[bd]at hy
   obtain⟨x,hx,hy⟩:=Ia hy
   have:=I9 ae _ x hx y hy
   rw[List.length_map]at this;omega
  have bL:(linF (p.classes.map (·.parents)) c).length<=80000000:=by rw[bd];exact Eg ae (Nat.le_refl _) (by omega)
  have bM:=Ci p c
  have ws:=E6 p
  try refine gf (gi hk ay) ?_
  refine newIN (fun im bx=>?_)
  try refine gf (gi hk ay) ?_
  refine K1 (u:=unf) (fun did U' m=>U' im=some (.map (eIN m))/\Keep (· = im) ((O.set im (.map (eIN []))).set did .defs) U') (fun did U'=>False) (· = im) (some (Hp p (linF (p.classes.map (·.parents)) c))) rfl (fun l did hd hl aa LO ax=>?_) (fun l did m U' ho hd hl aa hG=>?_) (fun did U' ho hd hb=>hb.elim)
  ·refine Pn (linF (p.classes.map (·.parents)) c) l unf _ _ _ (Dn p) (by omega) (fun k hk U1 m1 hG=>?_) _ [] ?_
   ·obtain⟨aR,aQ,bF⟩:=hG
    refine Np ax aR ?_
    clear ax
    try refine gz ?_
    refine⟨aR,?_⟩
    have hy:=aO _ (List.getElem_mem hk)
    generalize (linF (p.classes.map (·.parents)) c)[k]=y at*
    have ak:l≠im:=fun e=>by rw[e,w6]at hl;cases hl
    have bt:(U1.set l (CA LO)) im=some (.map (eIN m1)):=by rw[w7 _ _ (Ne.symm ak)];exact aQ
    have ah:∀m,(((U1.set l (CA LO)).set im (.map (eIN m))) l=some (CA LO))/\((((U1.set l (CA LO)).set im (.map (eIN m))).set l LO) l=some LO/\(((U1.set l (CA LO)).set im (.map (eIN m))).set l LO) im=some (.map (eIN m))/\Keep (· = im) ((O.set im (.map (eIN []))).set did .defs) (((U1.set l (CA LO)).set im (.map (eIN m))).set l LO))/\Keep (· = im) U1 (((U1.set l (CA LO)).set im (.map (eIN m))).set l LO):=fun m=>by
     have aJ:Keep (· = im) U1 (((U1.set l (CA LO)).set im (.map (eIN m))).set l LO):=fun j o h1 h2=>by
      by_cases hj:j=l
      ·rw[hj]at h1⊢; rw[w6,<-h1,aR]
      ·rw[w7 _ _ hj,w7 _ _ h2,w7 _ _ hj];exact h1
     exact⟨by rw[w7 _ _ ak,w6],⟨w6 .., by rw[w7 _ _ (Ne.symm ak),w6],bF.trans aJ⟩,aJ⟩
    rw[<-Sig.set_self _ bt]
    by_cases bk:3<=y
    ·obtain⟨q,rfl⟩:∃q:Nat,y=3+(q:Int):=⟨(y-3).toNat,by omega⟩
     have hq:q<p.classes.length:=by omega
     have ag:Dn p (3+q) m1=Dz (p.classes[q]).inits m1:=by
      unfold Dn;rw[if_pos (by omega),show(3+(q:Int)-3).toNat=q by omega,List.getElem?_eq_getElem hq];rfl
     rw[ag]
     have bw:=(aL _ (List.getElem_mem hq)).2.2
     generalize aT:(p.classes[q]).inits=ins' at*
     have bq:3+(q:Int)-3=q:=by omega
     try refine gf (gi bq aT) ?_
     refine D7 [1,2,4,5,8,13,15,16,17,45,46,57,58,59,60,61,62,63,64,65,66,67,68,69,70,71,72,73,74,75,76,77,78,79,80] (fun (j:Nat) (m:List (Int×Int))=>j<=ins'.length/\Dz ins' m1=Dz (ins'.drop j) m) (fun j _=>[(47,dI j)]) (fun _ m=>(U1.set l (CA LO)).set im (.map (eIN m))) (fun j _=>ins'.length-j) (0) (m1) (by simp) (fun j m hI=>?_)
     obtain⟨hj,hJ⟩:=hI
     by_cases bh:j<ins'.length
     ·rw[Ab bh,Dz]at hJ
      try refine gf aT ?_
      exact⟨j+1,_,⟨by omega,hJ⟩,td1,wkR⟩
     ·rw[Aj bh,Dz]at hJ
      try refine gf aT ?_
      rw[hJ]
      exact⟨(ah m).1,rfl,(ah m).2⟩
    ·have ag:Dn p y m1=m1:=by unfold Dn;rw[if_neg bk]
     rw[ag]
     try refine gz ?_
     exact⟨(ah m1).1,rfl,(ah m1).2⟩
   ·have ak:im≠l:=fun e=>by rw[<-e,w6]at hl;cases hl
    have aH:im≠did:=fun e=>by rw[<-e,w6]at hd;cases hd
    exact⟨w6 .., by rw[w7 _ _ ak,w7 _ _ aH,w6],(Keep.refl _ _).fresh (by rw[w7 _ _ aa];exact hl)⟩
  ·cases ho
   have ak:im≠l:=fun e=>by rw[<-e,w6]at hl;cases hl
   have aH:im≠did:=fun e=>by rw[<-e,w6]at hd;cases hd
   have aP:(U'.del l) im=some (.map (eIN (Hp p (linF (p.classes.map (·.parents)) c)))):=by simp only[Sig.del,ak,if_false];exact hG.1
   have bj:(U'.del l) did=some .defs:=by simp only[Sig.del,Ne.symm aa,if_false];exact hG.2 did _ (w6 ..) (Ne.symm aH)
   have aX:E5 p c=beginL (Hp p (linF (p.classes.map (·.parents)) c)) (hasP p c):=rfl
   have bA:∀j o,O j=some o->(U'.del l) j=some o/\j≠did:=fun j o h=>by
    have e1:j≠im:=fun e=>by rw[e,bx]at h;cases h
    have e2:j≠did:=fun e=>by rw[e]at h;rw[w7 _ _ (Ne.symm aH),h]at hd;cases hd
    have e3:j≠l:=fun e=>by rw[e]at h;rw[w7 _ _ (Ne.symm ak),h]at hl;cases hl
    refine⟨?_,e2⟩
    simp only[Sig.del,e3,if_false]
    exact hG.2 j o (by rw[w7 _ _ e2,w7 _ _ e1];exact h) e1
   generalize Hp p (linF (p.classes.map (·.parents)) c)=m at*
   generalize aU:hasP p c=ap at*
   try refine gf aU ?_
   refine HR 13 2 (fun ix aB=>?_)
   have a8:im≠ix:=fun e=>by rw[<-e,aP]at aB;cases aB
   have bl:did≠ix:=fun e=>by rw[<-e,bj]at aB;cases aB
   refine D7 [4,5,8,59,60,79,80] (fun (k:Nat) (out:List Init)=>k<=ap.length/\out.length<=k/\beginL m ap=out++beginL m (ap.drop k)) (fun k out=>[(61,dI k),(13,.slice (out.map IZ) (.tag ix))]) (fun _ out=>(U'.del l).set ix (.tail 2 out.length)) (fun k _=>ap.length-k) (0) ([]) (by simp) (fun k out hI=>?_)
   obtain⟨hk,hlen,hR⟩:=hI
   by_cases aA:k<ap.length
   ·rw[Ab aA,beginL]at hR
    repeat' first|refine gf (gi aP (gi a8 aU)) ?_|apply gy<;>intro hh
    ·rw[hh,if_pos rfl]at hR
     exact⟨k+1,out++[⟨ap[k],getM 0 ap[k] m⟩],⟨by omega,by simp;omega,by rw[hR];simp⟩,td1,wkR⟩
    ·rw[hh,if_neg (by simp)]at hR
     exact⟨k+1,out,⟨by omega,by omega,hR⟩,td1,wkR⟩
   ·rw[Aj aA,beginL,List.append_nil]at hR
    try refine gf (gi aP (gi a8 aU)) ?_
    refine finMR [did] (U':=O) (d':=.tup [sl ((E5 p c).map IZ),dI 0]) ⟨by rw[if_pos rfl,if_pos rfl],rfl⟩ (fun j o h=>?_) (hd:=?_) (hw:=?_)
    ·obtain⟨h1,h2⟩:=bA j o h
     simp only[dels,List.foldl_cons,List.foldl_nil,Sig.del,h2,if_false]
     rw[w7 _ _ fun e=>by rw[e,aB]at h1;cases h1]
     exact h1
    ·simp only[List.mem_singleton,forall_eq]
     rw[w7 _ _ bl];exact bj
    ·rw[aX,hR]
     exact CE ⟨BF _ _,A8 _,trivial⟩
@[reducible,instance] def a290:=fun p c O=>ah1 (@RU p c O)
def isLD:DObj->Bool
 |.loop .. |.defs=>true
 |_=>false
theorem LM{LO:DObj}{ps:Array Tmp}{asg body:Code}{n:Nat}{Sl:Fr}{did:Nat}(h:LO=.loop .ready none ps asg body n Sl did):isLD LO=true/\isLD (CA LO)=true:=by subst h;exact⟨rfl,rfl⟩
def MonoG{S:Type}(G:Sig->S->Prop):Prop:= ∀O U' s,G O s->(∀j x,O j=some x->isLD x=false->U' j=some x)->G U' s
def PO{S:Type}(G:Sig->S->Prop)(S0:Sig):Prop:= ∀l,S0 l=none->∀U1 U2 s,G U1 s->(∃x,U1 l=some x/\isLD x=true)->(∀j,j≠l->U2 j=U1 j)->G U2 s
def Fresh{S:Type}(G:Sig->S->Prop):Prop:= ∀O s a o,G O s->O a=none->G (O.set a o) s
theorem MonoG.indep{S:Type}{G:Sig->S->Prop}(h:MonoG G)(S0:Sig):PO G S0:=fun l _ U1 U2 s hG ⟨x,hx,hl⟩ hj=>h _ _ _ hG fun j y hy hd=>by
 rw[hj j fun e=>by rw[e,hx]at hy;cases hy;rw[hl]at hd;cases hd];exact hy
theorem MonoG.fresh{S:Type}{G:Sig->S->Prop}(h:MonoG G):Fresh G:=fun O s a o hG ha=>h _ _ _ hG fun j y hy _=>by
 rw[w7 _ _ fun e=>by rw[e,ha]at hy;cases hy];exact hy
def GoodG{S:Type}(l:Nat)(LO:DObj)(G:Sig->S->Prop)(touch:Nat->Prop)(base:Sig):Sig->S->Prop:=fun U' s=>U' l=some LO/\G U' s/\Keep touch base U'
theorem GoodG.new{S:Type}{l:Nat}{LO:DObj}{G:Sig->S->Prop}{touch:Nat->Prop}{base O:Sig}{s:S}{a:Nat}{o:DObj}(hm:Fresh G)(h:GoodG l LO G touch base O s)(ha:O a=none):GoodG l LO G touch base (O.set a o) s:=by
 have ne:∀j x,O j=some x->j≠a:=fun j x hj e=>by rw[e,ha]at hj;cases hj
 obtain⟨h1,h2,h3⟩:=h
 exact⟨by rw[w7 _ _ (ne _ _ h1)];exact h1,hm _ _ _ _ h2 ha,fun j x hj ht=>by
  have:=h3 j x hj ht
  rw[w7 _ _ (ne _ _ this)];exact this⟩
theorem GoodG.indep{S:Type}{l:Nat}{LO:DObj}{G:Sig->S->Prop}{touch:Nat->Prop}{base S0:Sig}{s0:S}(h0:GoodG l LO G touch base S0 s0)(hi:PO G S0):PO (GoodG l LO G touch base) S0:=fun k hk U1 U2 s hG hx hj=>by
 have bu:l≠k:=fun e=>by have:=h0.1;rw[e,hk]at this;cases this
 refine⟨by rw[hj l bu];exact hG.1,hi k hk _ _ _ hG.2.1 hx hj,fun j x hb hn=>?_⟩
 rw[hj j fun e=>by have:=h0.2.2 j x hb hn;rw[e,hk]at this;cases this]
 exact hG.2.2 j x hb hn
theorem rangeG{P:Program}{n:Nat}{Q:DX->St->Prop}{γ:Fr}{O:Sig}{df:List DDf}{gop:Operand}{ps:Array Tmp}{asg body:Code}{f:Nat}{first cap:List D}{S:Type}(u:D)(G:Sig->S->Prop)(touch tp:Nat->Prop)(o:Option S)(s0:S)
  (hm:PO G O) (bi:Fresh G) (h0:G O s0) (ht:∀j,touch j->O j≠none) (bn:∀j,tp j->O j≠none) (hf:ev γ gop=.func (.func f) first cap)
  (aD : ∀ l did LO SL,LO=DObj.loop .ready none ps asg body n γ did->O did=none->(O.set did .defs) l=none -> ¬ touch l->SL=(O.set did .defs).set l LO->GoodG l LO G touch (O.set did .defs) SL s0->(∀ a,SL a=none -> ¬ touch a) ->
   DCall P f (first++[.yld l]++cap) SL (OutO u (.tup []) (GoodG l LO G touch (O.set did .defs)) (Keep tp (O.set did .defs)) touch SL o))
  (aM:∀did s U',o=some s->O did=none->U' did=some .defs->G U' s->(∀j x,O j=some x->¬touch j->U' j=some x/\j≠did)->Q .normal ⟨γ,U',.coll did::df⟩)
  (aN:∀did U',o=none->O did=none->U' did=some .defs->(∀j x,O j=some x->¬tp j->U' j=some x/\j≠did)->Q (.panic u) ⟨γ,U',.coll did::df⟩) :
  DWp P .none n (.rangeFunc gop ps asg body) Q ⟨γ,O,df⟩:=by
 have dne:∀{did:Nat},O did=none->∀j x,O j=some x->j≠did:=fun hd j x hj e=>by rw[e,hd]at hj;cases hj
 refine GB (R:=fun l did=>OutO u (.tup []) (GoodG l (DObj.loop .ready none ps asg body n γ did) G touch (O.set did .defs)) (Keep tp (O.set did .defs)) touch ((O.set did .defs).set l (DObj.loop .ready none ps asg body n γ did)) o) hf (fun l did hd hl aa=>?_) (fun l did d U' hd hl aa hr=>?_) (fun l did d U' hd hl aa hr=>?_)
 ·have am:(O.set did .defs) l=none:=by first|exact hl|(rw[w7 _ _ aa];exact hl)
  have aF:O l=none:=by rw[w7 _ _ aa]at am;exact am
  refine aD l did _ _ rfl hd am (fun h=>ht _ h aF) rfl ⟨w6 .., bi _ _ _ _ (bi _ _ _ _ h0 hd) am,fun j x hj hn=>?_⟩ fun a ha h=>ht a h ?_
  ·rw[w7 _ _ fun e=>by rw[e,am]at hj;cases hj];exact hj
  ·by_cases e1:a=l
   ·rw[e1,w6]at ha;cases ha
   ·rw[w7 _ _ e1]at ha
    by_cases e2:a=did
    ·rw[e2,w6]at ha;cases ha
    ·rw[w7 _ _ e2]at ha;exact ha
 ·have am:(O.set did .defs) l=none:=by first|exact hl|(rw[w7 _ _ aa];exact hl)
  have aF:O l=none:=by rw[w7 _ _ aa]at am;exact am
  obtain⟨s,hs,rfl,⟨be,aK,hK⟩,_⟩:=hr.ret
  have bB:¬touch did:=fun h=>ht _ h hd
  have dl:∀j,j≠l->(U'.del l) j=U' j:=fun j h=>by simp only[Sig.del,h,if_false]
  refine⟨_,_,be,by simp,aM did s _ hs hd ?_ ?_ fun j x hj hn=>⟨?_,dne hd j x hj⟩⟩
  ·rw[dl _ (Ne.symm aa)];exact hK did _ (w6 ..) bB
  ·exact hm l aF _ _ _ aK ⟨_,be,rfl⟩ fun j hj=>dl j hj
  ·rw[dl _ (dne aF j x hj)];exact hK j x (by rw[w7 _ _ (dne hd j x hj)];exact hj) hn
 ·obtain⟨hn,rfl,hb⟩:=hr.pan
  exact aN did U' hn hd (hb did _ (w6 ..) fun h=>bn _ h hd) fun j x hj hn=>⟨hb j x (by rw[w7 _ _ (dne hd j x hj)];exact hj) hn,dne hd j x hj⟩
section
variable {S:Type}{l:Nat}{LO:DObj}{G:Sig->S->Prop}{touch:Nat->Prop}{base U1 U2:Sig}{s s':S}{u:D}{step:Option S}{γ:List (Nat×D)}{df:List DDf}{ps:Array Tmp}{asg body:Code}{n:Nat}{Sl:List (Nat×D)}{did:Nat}{Good:Sig->S->Prop}{Bad:Sig->Prop}
theorem endRN(ag:step=some s')(ax:LO=.loop .ready none ps asg body n Sl did)(hm:PO G base)(hG:GoodG l LO G touch base U1 s)(hl:¬touch l)(aE:base l=none)(aZ:G U2 s')(hK:Keep touch (U1.set l (CA LO)) U2):
  OL l LO (OutO u (.bool true) (GoodG l LO G touch base) Bad touch U1 step) .normal ⟨γ,U2,df⟩:=by
 subst ag
 have h2:U2 l=some (CA LO):=hK l _ (w6 ..) hl
 have aG:Keep touch U1 (U2.set l LO):=fun j x hj hn=>by
  by_cases e:j=l
  ·rw[e,hG.1]at hj;rw[e,w6];exact hj
  ·rw[w7 _ _ e];exact hK j x (by rw[w7 _ _ e];exact hj) hn
 exact⟨h2,rfl,⟨w6 .., hm l aE _ _ _ aZ ⟨_,h2,(LM ax).2⟩ fun j hj=>w7 _ _ hj,hG.2.2.trans aG⟩,aG⟩
theorem endRP(ag:step=none)(hB:Bad U2):OL l LO (OutO u (.bool true) Good Bad touch U1 step) (.panic u) ⟨γ,U2,[]⟩:=by
 subst ag
 exact⟨rfl,rfl,hB⟩
theorem GoodG.bad{tp:Nat->Prop}(hG:GoodG l LO G touch base U1 s)(aE:base l=none)(ht:∀j,touch j->tp j)(hK:Keep tp (U1.set l (CA LO)) U2):Keep tp base U2:=fun j x hj hn=>
 hK j x (by rw[w7 _ _ fun e=>by rw[e,aE]at hj;cases hj];exact hG.2.2 j x hj fun h=>hn (ht j h)) hn
theorem OutO.bad{r:D}{Good:Sig->S->Prop}{Bad Bad':Sig->Prop}{O U':Sig}{o:Option S}{x:DE}(h:OutO u r Good Bad touch O o x U')(hb:Bad U'->Bad' U'):OutO u r Good Bad' touch O o x U':=by
 cases o with
 |none=>exact⟨h.1,hb h.2⟩
 |some s=>exact h
theorem GoodG.busy(ax:LO=.loop .ready none ps asg body n Sl did)(hm:PO G base)(aE:base l=none)(hG:GoodG l LO G touch base U1 s):G (U1.set l (CA LO)) s:=
 hm l aE _ _ _ hG.2.1 ⟨_,hG.1,(LM ax).1⟩ fun j hj=>w7 _ _ hj
end
theorem finMP{P:Program}{n:Nat}{fn:Func}{R:DE->Sig->Prop}{γ:Fr}{O U':Sig}{d:D}(js:List Nat)(hR:R (.panic d) U')(hU:Sub U' (dels js O))(hn:js.Nodup:=by simp)(hd:∀j∈js,O j=some .defs:=by simp): ∃s',Wk P n ⟨γ,O,js.map .coll⟩ s'/\PP P n fn (Weak R) (.panic d) s':=
 ⟨_,Wk.refl _ _ _,js,rfl,hn,hd,.panic d,U',A8 _,hU,hR⟩
section
variable {P:Program}{ro:Ro}{n:Nat}{Q:DX->St->Prop}{df:List DDf}{γ:List (Nat×D)}{O:Sig}
theorem loopD4{Sk:Fr}{α β δ ε:Type}{c:Code}(keep:List Nat)(I:α->β->δ->ε->Prop)(ov:α->β->δ->ε->Fr)(sg:α->β->δ->ε->Sig)(dg:α->β->δ->ε->List DDf)(μ:α->β->δ->ε->Nat)(x0:α)(y0:β)(z0:δ)(u0:ε)(h0:I x0 y0 z0 u0)
  (round:∀x y z u,I x y z u->DWp P ro n c (Then (fun s'=> ∃x' y' z' u',I x' y' z' u'/\μ x' y' z' u'<μ x y z u/\Wk P n s' ⟨ov x' y' z' u'++Sk,sg x' y' z' u',dg x' y' z' u'⟩) Q) ⟨ov x y z u++Sk,sg x y z u,dg x y z u⟩) (hk:Dm γ keep=some Sk:=by exact tdR) (h1:TellsR γ (ov x0 y0 z0 u0++Sk):=by(first|refine FY ?_ ?_|skip)<;>(repeat' first|exact FW|refine Fa tdR ?_ ?_|(first|exact A8 _|exact BF _ _|exact Am _ (.inl rfl)|exact E7 _|(refine HG _ ?_;first|omega|(simp;done)|(simp;omega))|(refine CB ?_;(simp;done))|(refine CB ?_;(simp[cI,cS,cII,Fm,F7,GI];done))|(refine DN _ ?_;(simp[cI,cS,cII];done))|(refine CB ?_;(simp_all;done))|assumption))) (h2:Sub (sg x0 y0 z0 u0) O:=by first|exact Sub.refl _|(refine Di ?_;simp;done)|assumption|exact(Sub.refl _).set (by assumption)) (h3:dg x0 y0 z0 u0=df:=by rfl):DWp P ro n (.loop c) Q ⟨γ,O,df⟩:=by
 subst h3
 refine Ox (fun x:{x:α×β×δ×ε // I x.1 x.2.1 x.2.2.1 x.2.2.2}=>⟨ov x.1.1 x.1.2.1 x.1.2.2.1 x.1.2.2.2++Sk,sg x.1.1 x.1.2.1 x.1.2.2.1 x.1.2.2.2,dg x.1.1 x.1.2.1 x.1.2.2.1 x.1.2.2.2⟩) (fun x=>μ x.1.1 x.1.2.1 x.1.2.2.1 x.1.2.2.2) ⟨(x0,y0,z0,u0),h0⟩ (Kk h1 h2) fun x=>Fj (round x.1.1 x.1.2.1 x.1.2.2.1 x.1.2.2.2 x.2) ?_
 intro e s h
 cases e with
 |normal=>obtain⟨x',y',z',u',h3,h4,h5⟩:=h;exact⟨⟨(x',y',z',u'),h3⟩,h4,h5⟩
 |_=>exact h
end
theorem KX: ∀(js:List Nat) (O:Sig) (j:Nat),j∉js->dels js O j=O j
 |[],_,_,_=>rfl
 |i::r,O,j,h=>by
  simp only[List.mem_cons,not_or]at h
  simp only[dels,List.foldl_cons]
  rw[show List.foldl Sig.del (O.del i) r=dels r (O.del i) from rfl,KX r _ j h.2]
  simp only[Sig.del,h.1,if_false]
def RowAt(O:Sig)(sz:Nat):MR->List (List D)->Prop
 |none,es=>es=[]
 |some (i,cap,rest),es=>O i=some (.cells (es.flatten++rest))/\(es.flatten++rest).length=cap*sz/\es.length<=cap /\ ∀e∈es,e.length=sz
def Fs:MR->Nat->Prop
 |none,_=>False
 |some (i,_,_),j=>j=i
theorem RowAt.cells{O:Sig}{sz:Nat}{st:MR}{es:List (List D)}(h:RowAt O sz st es){j:Nat}(hj:Fs st j): ∃cs,O j=some (.cells cs):=by
 cases st with
 |none=>exact hj.elim
 |some x=>cases hj;exact⟨_,h.1⟩
theorem RowAt.keep{O U':Sig}{sz:Nat}{st:MR}{es:List (List D)}(h:RowAt O sz st es)(hk:∀j o,O j=some o->Fs st j->U' j=some o):RowAt U' sz st es:=by
 cases st with
 |none=>exact h
 |some x=>exact⟨hk _ _ h.1 rfl,h.2⟩
theorem RowAt.mS{O:Sig}{sz:Nat}{st:MR}{es:List (List D)}(h:RowAt O sz st es): ∃U',O=mS U' st es/\mOK U' sz st es/\(∀j o,O j=some o->¬Fs st j->U' j=some o) /\ ∀j o,U' j=some o->O j=some o /\ ¬Fs st j:=by
 cases st with
 |none=>exact⟨O,rfl,h,fun j o h _=>h,fun j o h=>⟨h,id⟩⟩
 | some x =>
  obtain⟨i,cap,rest⟩:=x
  obtain⟨h1,h2,h3,h4⟩:=h
  refine⟨O.del i,?_,⟨by simp[Sig.del],h2,h3,h4⟩,fun j o hj hn=>?_,fun j o hj=>?_⟩
  ·funext j
   simp only[DL.mS,Sig.set,Sig.del]
   by_cases e:j=i
   ·subst e;simp[h1]
   ·simp[e]
  ·have:j≠i:=hn
   simp only[Sig.del,this,if_false];exact hj
  ·by_cases e:j=i
   ·simp[Sig.del,e]at hj
   ·simp only[Sig.del,e,if_false]at hj;exact⟨hj,e⟩
theorem U6{O:Sig}{sz:Nat}{st:MR}{es:List (List D)}(h:mOK O sz st es):RowAt (mS O st es) sz st es:=by
 cases st with
 |none=>exact h
 |some x=>obtain⟨i,cap,rest⟩:=x;exact⟨w6 .., h.2⟩
def RowK(O:Sig)(st:MR)(U':Sig)(st':MR):Prop:= ∀j o,O j=some o->¬Fs st j->U' j=some o /\ ¬Fs st' j
theorem RowK.refl(O:Sig)(st:MR):RowK O st O st:=fun j o h hn=>⟨h,hn⟩
theorem RowK.trans{O U1 U2:Sig}{st st1 st2:MR}(h:RowK O st U1 st1)(k:RowK U1 st1 U2 st2):RowK O st U2 st2:=fun j o hj hn=>k _ _ (h j o hj hn).1 (h j o hj hn).2
theorem rowK_mS{O:Sig}{sz:Nat}{st st':MR}{es es':List (List D)}(h:RowAt O sz st es){U1:Sig}(h1:mOK U1 sz st' es')(hk:∀j o,O j=some o->¬Fs st j->U1 j=some o):RowK O st (mS U1 st' es') st':=fun j o hj hn=>by
 have aS:=hk j o hj hn
 have hr:¬Fs st' j:=by
  cases st' with
  |none=>exact id
  |some x=>
   obtain⟨i,cap,rest⟩:=x
   intro e
   have e:j=i:=e
   rw[e,h1.1]at aS;cases aS
 exact⟨QT h1 aS,hr⟩
section
variable {ro:Ro}{n:Nat}{ops:Array Oper}{N:Nat}{S0:Sig}{Q:DX->St->Prop}{df:List DDf}{rest:List Oper}{γ Sr:List (Nat×D)}{O:Sig}{t:Nat}{ty:TypeId}{pos:String}{after:Array Edge}{d:D}
theorem rapp{T T' e e' sz:Nat}{s x:Operand}{es new:List (List D)}{st:MR}(h:∀st' U',RowAt U' sz st' (es++new)->RowK O st U' st'->DOps prog ro n ops Q rest ⟨(t,mD st' (es.length+new.length))::γ,U',df⟩)(hm:RowAt O sz st es:=by assumption)
  (hl:A0 γ (A5 [s,x])=some Sr:=by exact tdR) (hk:(tab T).k=.slice e:=by(simp<;>rfl)) (aq:(tab T').k=.slice e':=by(simp<;>rfl)) (he:A1 (tab e).k=false:=by simp) (hsz:(tab e).size=sz:=by simp)
  (h1:ev Sr s=mD st es.length:=by first|with_unfolding_all rfl|(simp[ev,getD,List.lookup];done)) (h2:esOf (ev Sr x)=some new:=by(simp<;>with_unfolding_all rfl))
  (hlen':∀c∈new,c.length=sz:=by first|exact Cc _|exact E3 _|exact CL _|simp) (ar:∀c∈new,BB c=true:=by simp[cI,cS,cII,BB,D.flat])
  (hb:(es.length+new.length)*(tab e).bytes<=140737488355328:=by first|(simp;done)|(simp;omega)) (hm2:es.length+new.length<=9223372036854775807:=by first|(simp;done)|(simp;omega)) (ai:decide (t<n)=true:=by exact tdR) :
  DOps prog ro n ops Q (⟨some t,(cA s x T T'),ty,pos,after,none⟩::rest) ⟨γ,O,df⟩:=by
 obtain⟨e1,e2⟩:=evs hl
 obtain⟨U1,rfl,aQ,aG,bf⟩:=hm.mS
 exact Mr Ad (by simpa using ai) hk aq he hsz (by rw[<-e1];exact h1) aQ (by rw[<-e2];exact h2) hlen' ar hb hm2 (fun st' h'=>by rw[List.length_append];exact h st' _ (U6 h') (rowK_mS hm h' aG))
end
noncomputable def Sig.out(O:Sig)(touch:Nat->Prop):Sig:=open Classical in fun j=>if touch j then none else O j
theorem BS(O:Sig)(touch:Nat->Prop):Sub (O.out touch) O:=fun j o h=>by
 unfold Sig.out at h;split at h
 ·cases h
 ·exact h
theorem D4{O:Sig}{touch:Nat->Prop}{j:Nat}{o:DObj}(h:(O.out touch) j=some o):O j=some o /\ ¬touch j:=by
 unfold Sig.out at h;split at h
 ·cases h
 ·exact⟨h,by assumption⟩
theorem D8{O:Sig}{touch:Nat->Prop}{j:Nat}{o:DObj}(h:O j=some o)(ht:¬touch j):(O.out touch) j=some o:=by
 unfold Sig.out;rw[if_neg ht];exact h
section
variable {P:Program}{ro:Ro}{n:Nat}{Q:DX->St->Prop}{γ:List (Nat×D)}{O:Sig}{df:List DDf}
theorem dwp_cut1{x1 b:Code}(ov:Fr)(U':Sig)(h2:DWp P ro n b Q ⟨ov++γ,U',df⟩)(h1:∀b,DWp P ro n b Q ⟨ov++γ,U',df⟩->DWp P ro n (.seq x1 b) Q ⟨γ,O,df⟩):DWp P ro n (.seq x1 b) Q ⟨γ,O,df⟩:=h1 b h2
theorem CN{V':Fr}{U':Sig}(h:TellsS γ [] V')(hU:Sub U' O):Wk P n ⟨γ,O,df⟩ ⟨V',U',df⟩:=(wk_join h hU).2
end
section
variable {ro:Ro}{n:Nat}{ops:Array Oper}{N:Nat}{S0:Sig}{Q:DX->St->Prop}{df:List DDf}{rest:List Oper}{γ Sr:List (Nat×D)}{O:Sig}{t:Nat}{ty:TypeId}{pos:String}{after:Array Edge}{d:D}
def RWK(O:Sig)(r:RW)(U':Sig)(r':RW):Prop:= ∀j o,O j=some o->¬r.is j->U' j=some o /\ ¬r'.is j
theorem RWK.refl(O:Sig)(r:RW):RWK O r O r:=fun _ _ h k=>⟨h,k⟩
theorem RWK.trans{O U1 U2:Sig}{r r1 r2:RW}(h:RWK O r U1 r1)(k:RWK U1 r1 U2 r2):RWK O r U2 r2:=fun j o hj hn=>k j o (h j o hj hn).1 (h j o hj hn).2
theorem xapp{T T' e e' sz:Nat}{s x:Operand}{es new:List (List D)}{r:RW}(h:∀i c cs U',RWAt U' sz (.row i c cs) (es++new)->RWK O r U' (.row i c cs)->DOps prog ro n ops Q rest ⟨(t,.sref i 0 (es.length+new.length) c)::γ,U',df⟩)(hm:RWAt O sz r es:=by assumption)
  (hl:A0 γ (A5 [s,x])=some Sr:=by exact tdR) (hk:(tab T).k=.slice e:=by(simp<;>rfl)) (aq:(tab T').k=.slice e':=by(simp<;>rfl)) (he:A1 (tab e).k=false:=by simp) (hsz:(tab e).size=sz:=by simp)
  (h1:ev Sr s=r.d es.length:=by first|with_unfolding_all rfl|(simp[ev,getD,List.lookup];done)) (h2:esOf (ev Sr x)=some new:=by(simp<;>with_unfolding_all rfl))
  (hne:new≠[]:=by simp) (hlen':∀c∈new,c.length=sz:=by first|exact Cc _|exact E3 _|exact CL _|simp) (ar:∀c∈new,BB c=true:=by simp[cI,cS,cII,BB,D.flat])
  (hb:(es.length+new.length)*(tab e).bytes<=140737488355328:=by first|(simp;done)|(simp;omega)) (hm2:es.length+new.length<=9223372036854775807:=by first|(simp;done)|(simp;omega)) (ai:decide (t<n)=true:=by exact tdR) :
  DOps prog ro n ops Q (⟨some t,(cA s x T T'),ty,pos,after,none⟩::rest) ⟨γ,O,df⟩:=by
 obtain⟨e1,e2⟩:=evs hl
 exact E1 Ad (by simpa using ai) hk aq he hsz (by rw[<-e1];exact h1) hm (by rw[<-e2];exact Hi h2 hlen') hlen' ar hb hm2 fun r' U' h1 h2 h3=>by
  rcases h3 with⟨h3,_⟩|⟨i,c,cs,rfl⟩
  ·exact absurd h3 hne
  ·exact h i c cs U' h1 h2
theorem xappR{T T' e e' sz:Nat}{s x:Operand}{es new:List (List D)}{r:RW}(h:∀r' U',RWAt U' sz r' (es++new)->RWK O r U' r'->DOps prog ro n ops Q rest ⟨(t,r'.d (es.length+new.length))::γ,U',df⟩)(hm:RWAt O sz r es)(h2:Jp prog O sz (ev Sr x) new)(ar:∀c∈new,BB c=true)
  (hlen':∀c∈new,c.length=sz)
  (hl:A0 γ (A5 [s,x])=some Sr:=by exact tdR) (hk:(tab T).k=.slice e:=by(simp<;>rfl)) (aq:(tab T').k=.slice e':=by(simp<;>rfl)) (he:A1 (tab e).k=false:=by simp) (hsz:(tab e).size=sz:=by simp)
  (h1:ev Sr s=r.d es.length:=by first|with_unfolding_all rfl|(simp[ev,getD,List.lookup];done))
  (hb:(es.length+new.length)*(tab e).bytes<=140737488355328:=by first|(simp;done)|(simp;omega)) (hm2:es.length+new.length<=9223372036854775807:=by first|(simp;done)|(simp;omega)) (ai:decide (t<n)=true:=by exact tdR) :
  DOps prog ro n ops Q (⟨some t,(cA s x T T'),ty,pos,after,none⟩::rest) ⟨γ,O,df⟩:=by
 obtain⟨e1,e2⟩:=evs hl
 exact E1 Ad (by simpa using ai) hk aq he hsz (by rw[<-e1];exact h1) hm (by rw[<-e2];exact h2) hlen' ar hb hm2 fun r' U' h1 h2 _=>h r' U' h1 h2
theorem Gb{T T' e e' sz:Nat}{s x:Operand}{es new:List (List D)}{r:RW}{l:List (Bool×Oper)}(h:∀i c cs U',RWAt U' sz (.row i c cs) (es++new)->RWK O r U' (.row i c cs)->MO prog ro n ops N S0 Q df l ((t,.sref i 0 (es.length+new.length) c)::γ) U')(hC:∀j o,S0 j=some o->O j=some o /\ ¬r.is j)(hm:RWAt O sz r es:=by assumption)
  (hl:A0 γ (A5 [s,x])=some Sr:=by exact tdR) (hk:(tab T).k=.slice e:=by(simp<;>rfl)) (aq:(tab T').k=.slice e':=by(simp<;>rfl)) (he:A1 (tab e).k=false:=by simp) (hsz:(tab e).size=sz:=by simp)
  (h1:ev Sr s=r.d es.length:=by first|with_unfolding_all rfl|(simp[ev,getD,List.lookup];done)) (h2:esOf (ev Sr x)=some new:=by(simp<;>with_unfolding_all rfl))
  (hne:new≠[]:=by simp) (hlen':∀c∈new,c.length=sz:=by first|exact Cc _|exact E3 _|exact CL _|simp) (ar:∀c∈new,BB c=true:=by simp[cI,cS,cII,BB,D.flat])
  (hb:(es.length+new.length)*(tab e).bytes<=140737488355328:=by first|(simp;done)|(simp;omega)) (hm2:es.length+new.length<=9223372036854775807:=by first|(simp;done)|(simp;omega)) (ai:decide (t<n)=true:=by exact tdR) :
  MO prog ro n ops N S0 Q df ((true,⟨some t,(cA s x T T'),ty,pos,after,none⟩)::l) γ O:=
 mo1 (fun V2 hx=>by
  obtain⟨e1,e2⟩:=Hd hl hx
  refine E1 Ad (by simpa using ai) hk aq he hsz (by rw[e1];exact h1) hm (by rw[e2];exact Hi h2 hlen') hlen' ar hb hm2 (fun r' U' h' hK h3=>?_)
  rcases h3 with⟨h3,_⟩|⟨i,c,cs,rfl⟩
  ·exact absurd h3 hne
  refine Au ⟨rfl,?_⟩
  simp only[A4,if_true]
  exact⟨fun j o hj=>(hK j o (hC j o hj).1 (hC j o hj).2).1,h i c cs U' h' hK⟩) ai
end
structure Rows(O:Sig)(R:Nat->RW)(sz:Nat->Nat)(ct:Nat->List (List D)):Prop where
 ok:∀a,RWAt O (sz a) (R a) (ct a)
 dj:∀a b j,(R a).is j->(R b).is j->a=b
def updF{α:Type}(f:Nat->α)(k:Nat)(x:α):Nat->α:=fun j=>if j=k then x else f j
@[simp] theorem Ak{α:Type}(f:Nat->α)(k:Nat)(x:α):updF f k x k=x:=by unfold updF;rw[if_pos rfl]
theorem A6{α:Type}(f:Nat->α){k j:Nat}(x:α)(h:j≠k):updF f k x j=f j:=by unfold updF;rw[if_neg h]
section
variable {O U':Sig}{R:Nat->RW}{sz:Nat->Nat}{ct:Nat->List (List D)}
theorem Rows.upd(h:Rows O R sz ct){a:Nat}{r':RW}{es':List (List D)}(hr:RWAt U' (sz a) r' es')(hk:RWK O (R a) U' r'):Rows U' (updF R a r') sz (updF ct a es'):=by
 have hne:∀b,b≠a->∀j,(R b).is j->∃o,O j=some o /\ ¬(R a).is j:=fun b hb j hj=>by
  obtain⟨cs,hc⟩:=(h.ok b).cells hj
  exact⟨_,hc,fun ha=>hb (h.dj b a j hj ha)⟩
 refine⟨fun b=>?_,fun b c j hb hc=>?_⟩
 ·by_cases e:b=a
  ·subst e;rw[Ak,Ak];exact hr
  ·rw[A6 _ _ e,A6 _ _ e]
   exact(h.ok b).keep fun j o hj hb=>by
    obtain⟨o',bK,hn⟩:=hne b e j hb
    exact(hk j o hj hn).1
 ·by_cases e:b=a
  ·subst e
   by_cases e2:c=b
   ·exact e2.symm
   ·rw[Ak]at hb
    rw[A6 _ _ e2]at hc
    obtain⟨o,ho,hn⟩:=hne c e2 j hc
    exact absurd hb (hk j o ho hn).2
  ·rw[A6 _ _ e]at hb
   by_cases e2:c=a
   ·subst e2
    rw[Ak]at hc
    obtain⟨o,ho,hn⟩:=hne b e j hb
    exact absurd hc (hk j o ho hn).2
   ·rw[A6 _ _ e2]at hc
    exact h.dj b c j hb hc
theorem Rows.keep(h:Rows O R sz ct)(hk:∀j o,O j=some o->(∃a,(R a).is j)->U' j=some o):Rows U' R sz ct:=
 ⟨fun a=>(h.ok a).keep fun j o hj ha=>hk j o hj ⟨a,ha⟩,h.dj⟩
theorem Rows.retell{ct':Nat->List (List D)}(h:Rows O R sz ct)(he:∀a,ct' a=ct a):Rows O R sz ct':=by
 obtain rfl:ct'=ct:=funext he
 exact h
theorem Rows.re(h:Rows O R sz ct){a:Nat}{r':RW}{es':List (List D)}(hr:RWAt O (sz a) r' es')(hi:∀j,r'.is j->(R a).is j):Rows O (updF R a r') sz (updF ct a es'):=by
 refine⟨fun b=>?_,fun b c j hb hc=>?_⟩
 ·by_cases e:b=a
  ·subst e;rw[Ak,Ak];exact hr
  ·rw[A6 _ _ e,A6 _ _ e];exact h.ok b
 ·have bD:(R b).is j:=by
   by_cases e:b=a
   ·subst e;rw[Ak]at hb;exact hi j hb
   ·rwa [A6 _ _ e]at hb
  have bC:(R c).is j:=by
   by_cases e:c=a
   ·subst e;rw[Ak]at hc;exact hi j hc
   ·rwa [A6 _ _ e]at hc
  exact h.dj b c j bD bC
end
end Go.DL
