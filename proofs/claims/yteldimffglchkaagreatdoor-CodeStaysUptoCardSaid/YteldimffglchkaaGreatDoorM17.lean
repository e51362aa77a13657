/- A part of the proof. -/
import Derived.Test.YteldimffglchkaaGreatDoorM16
set_option linter.all false
namespace Go.DL
open Go Go.Proofs
def fitL(p:BProg)(N:Nat)(q:Nat)(l:List CIns):Prop:= ∀(i:Nat) (x:CIns),l[i]? = some x->fitsC p N (q+i) x=true
section
variable {p:BProg}{N:Nat}
theorem I0(q:Nat):fitL p N q []:=fun i x h=>by simp at h
theorem EU{q r:Nat}{l m:List CIns}(h:fitL p N q l)(hr:r=q+l.length)(k:fitL p N r m):fitL p N q (l++m):=fun i x hx=>by
 by_cases hi:i<l.length
 ·rw[List.getElem?_append_left hi]at hx;exact h i x hx
 ·rw[List.getElem?_append_right (by omega)]at hx
  have:=k _ x hx
  rw[hr,show q+l.length+(i-l.length)=q+i by omega]at this
  exact this
theorem Eb{q r:Nat}{x:CIns}{m:List CIns}(h:fitsC p N q x=true)(hr:r=q+1)(k:fitL p N r m):fitL p N q (x::m):=fun i y hy=>by
 cases i with
 |zero=>simp only[List.getElem?_cons_zero,Option.some.injEq]at hy;rw[<-hy];exact h
 |succ i=>
  rw[List.getElem?_cons_succ]at hy
  have:=k i y hy
  rw[hr,show q+1+i=q+(i+1) by omega]at this
  exact this
theorem OS{f:Int->Nat->List CIns}: ∀(l:List Int) (q:Nat),(∀c∈l, ∀r,r+(f c r).length<=q+(FQ f l q).length->fitL p N r (f c r))->fitL p N q (FQ f l q)
 |[],q,_=>by rw[FQ];exact I0 q
 |c::r,q,h=>by
  rw[FQ]at h⊢
  rw[List.length_append]at h
  exact EU (h c List.mem_cons_self q (by omega)) rfl (OS r _ fun d hd s hs=>h d (List.mem_cons_of_mem _ hd) s (by omega))
theorem Iv{op:Int}(q:Nat)(h:op=14\/op=15\/op=16\/op=21):fitsC p N q ⟨op,0⟩=true:=by
 rcases h with rfl|rfl|rfl|rfl<;>simp[fitsC]
theorem OU{op:Int}{q:Nat}{a:Nat}(h:op=17\/op=18)(h1:q<a)(h2:a<N):fitsC p N q ⟨op,(a:Int)⟩=true:=by
 rcases h with rfl|rfl<;>simp[fitsC]<;>omega
theorem fit_node: ∀(k:Nat) (n:Int) (inM:Bool) (size q:Nat),trE p inM k n size->q+cL p k n<N->fitL p N q (cN p k n q)
 |0,_,_,_,_,h,_=>h.elim
 | k+1,n,inM,size,q,h,hN=>by
  have ag:=Uk h
  have hk:=h.2.2.2.2
  have ah:∀(i:Nat),i<(A1 p n).kids.length->∀q,q+cL p k (kidN (A1 p n) i)<N->fitL p N q (cN p k (kidN (A1 p n) i) q):=fun i hi q hq=>by
   rw[HU hi]at hq⊢; exact fit_node k _ _ _ q (hk i hi) hq
  have ap:∀(i:Nat),i<(A1 p n).kids.length->1<=cL p k (kidN (A1 p n) i):=fun i hi=>by rw[HU hi];exact cN_pos (hk i hi)
  have hlen:=Hy p k
  rw[cL]at hN
  rw[cN]
  by_cases h9:(A1 p n).op=9
  ·have hl:(A1 p n).kids.length=2:=Ec h (by rw[h9];rfl)
   rw[if_pos h9]at hN⊢
   exact EU (ah 0 (by omega) _ (by omega)) rfl (Eb (Iv _ (by simp)) (by rw[hlen]) (EU (ah 1 (by omega) _ (by omega)) rfl (Eb (Iv _ (by simp)) rfl (I0 _))))
  ·rw[if_neg h9]at hN⊢
   by_cases aE:(A1 p n).op=11
   ·have hl:(A1 p n).kids.length=2:=Ec h (by rw[aE];rfl)
    rw[if_pos aE]at hN⊢
    exact EU (ah 0 (by omega) _ (by omega)) rfl (Eb (Iv _ (by simp)) (by rw[hlen]) (ah 1 (by omega) _ (by omega)))
   ·rw[if_neg aE]at hN⊢
    by_cases aF:(A1 p n).op=10
    ·have hl:(A1 p n).kids.length=3:=Ec h (by rw[aF];rfl)
     rw[if_pos aF]at hN⊢
     have p0:=ap 0 (by omega)
     have p1:=ap 1 (by omega)
     have p2:=ap 2 (by omega)
     refine EU (ah 0 (by omega) _ (by omega)) rfl (Eb (OU (by simp) ?_ ?_) (r:=q+cL p k (kidN (A1 p n) 0)+1) ?_ (EU (ah 1 (by omega) _ (by omega)) rfl (Eb (OU (by simp) ?_ ?_) ?_ (ah 2 (by omega) _ (by omega)))))
     all_goals first|omega|(simp only[hlen];done)|(simp only[hlen];omega)
    ·rw[if_neg aF]at hN⊢
     refine EU (OS _ _ fun c hc r hr=>?_) rfl (Eb (PL _ _ ag h9 aF aE h.2.2.1) rfl (I0 _))
     rw[FP hlen,hlen]at hr
     obtain⟨i,hi,rfl⟩:=List.mem_iff_getElem.1 hc
     exact fit_node k _ _ _ r (hk i hi) (by omega)
theorem KB{k:Nat}: ∀(l:List CBody) (q:Nat),(∀b∈l,trE p b.next k b.node b.size)->q+(AN p k l q).length<=N->fitL p N q (AN p k l q)
 |[],q,_,_=>I0 q
 |b::r,q,h,hN=>by
  rw[AN]at hN⊢
  rw[List.length_append,Cw]at hN
  refine EU ?_ (by rw[Cw]) (KB r _ (fun x hx=>h x (List.mem_cons_of_mem _ hx)) (by omega))
  unfold bodyC
  exact EU (fit_node k _ _ _ q (h b List.mem_cons_self) (by omega)) rfl (Eb (Iv _ (by simp)) rfl (I0 _))
end
theorem Vb{p:BProg}(h:okP p=true):fitL p (D2 p).ins.length 0 (D2 p).ins:=by
 rw[JF]
 exact KB _ _ (LT h) (by omega)
def FT(p:BProg)(N:Nat):List CIns->Nat->Bool
 |[],_=>true
 |x::r,q=>fitsC p N q x&&FT p N r (q+1)
theorem DD{p:BProg}{N:Nat}: ∀(l:List CIns) (q:Nat),FT p N l q=true ↔ fitL p N q l
 |[],q=>by rw[FT];exact⟨fun _=>I0 q,fun _=>rfl⟩
 | x::r,q=>by
  rw[FT,Bool.and_eq_true,DD r]
  constructor
  ·rintro⟨a,b⟩;exact Eb a rfl b
  ·intro h
   refine⟨by have:=h 0 x rfl;rwa [Nat.add_zero]at this,fun i y hy=>?_⟩
   have:=h (i+1) y (by rw[List.getElem?_cons_succ];exact hy)
   rw[show q+1+i=q+(i+1) by omega]
   exact this
def CZ(p:BProg)(c:CProg):Option (List CLev):=
 if okP p&&(decide (c.ins.length<=300)&&(decide (c.starts.length=p.methods.length)&&FT p c.ins.length c.ins 0)) then Fv p c (stsP p c) else none
theorem GE{p:BProg}(h:okP p=true):CZ p (D2 p)=some (EO p 12 (bodsP p)):=by
 have h1:=LQ h
 obtain⟨_,_,h2,_,h3⟩:=Dz h
 unfold CZ
 rw[if_pos]
 ·exact Rv h
 ·rw[h,(DD _ _).2 (Vb h),Ke]
  simp
  omega
theorem reach_at{N:Nat}{met m:Met}{n:Int}{l:CLev}(h:BL N met n l=some m)(j:Nat):m j=met j\/((j:Int)=n/\m j=some l):=by
 unfold BL at h
 split at h
 ·cases h
 ·cases h
  unfold updM
  by_cases e:j=n.toNat
  ·rw[if_pos e];exact .inr ⟨by omega,rfl⟩
  ·rw[if_neg e];exact .inl rfl
section
variable {p:BProg}{c:CProg}{env:Int}{next:Bool}
theorem Lf {q:Nat} {x:CIns} {l:CLev} {met m:Met} (h:CI p c env next q x l met=some m) (hj:x.op=17\/x.op=18->(q:Int) < x.a) (j:Nat):m j=met j\/(q < j /\ ∃ l',m j=some l'/\l'.env<=l.env+1):=by
 unfold CI at h
 split at h
 ·cases h
 ·split at h
  ·split at h
   ·cases h;exact .inl rfl
   ·cases h
  ·split at h
   ·rcases reach_at h j with e|⟨e,e2⟩
    ·exact .inl e
    ·exact .inr ⟨by omega,_,e2,by simp only;omega⟩
   ·split at h
    ·rcases reach_at h j with e|⟨e,e2⟩
     ·exact .inl e
     ·exact .inr ⟨by omega,_,e2,by simp only;omega⟩
    ·split at h
     ·rename_i aB
      have:=hj (.inr aB)
      rcases reach_at h j with e|⟨e,e2⟩
      ·exact .inl e
      ·exact .inr ⟨by omega,_,e2,by simp only;omega⟩
     ·split at h
      ·rename_i aQ
       have:=hj (.inl aQ)
       split at h
       ·cases h
       ·rename_i e0
        rcases reach_at h j with e|⟨e,e2⟩
        ·rcases reach_at e0 j with e1|⟨e1,e2⟩
         ·exact .inl (e.trans e1)
         ·exact .inr ⟨by omega,_,e.trans e2,by simp only;omega⟩
        ·exact .inr ⟨by omega,_,e2,by simp only;omega⟩
      ·rcases reach_at h j with e|⟨e,e2⟩
       ·exact .inl e
       ·exact .inr ⟨by omega,_,e2,by simp only;omega⟩
theorem QA{q:Nat}{x:CIns}{l:CLev}{met m:Met}(h:CI p c env next q x l met=some m)(h3:x.op=3):x.a<l.env:=by
 unfold CI at h
 split at h
 ·cases h
 ·omega
def Ay(c:CProg)(q:Nat):CIns:=(c.ins[q]?).getD ⟨0,0⟩
theorem E6(hf:∀q:Nat,(Ay c q).op=17\/(Ay c q).op=18->(q:Int)<(Ay c q).a): ∀(f q:Nat) (met m:Met),CA p c env next f q met=some m->∀j,j<q->m j=met j
 |0,_,_,_,h,_,_=>by cases h;rfl
 | f+1,q,met,m,h,j,hj=>by
  rw[CA]at h
  split at h
  ·exact E6 hf f _ _ _ h j (by omega)
  ·split at h
   ·cases h
   ·rename_i e
    rw[E6 hf f _ _ _ h j (by omega)]
    rcases Lf e (hf q) j with e2|⟨e2,_⟩
    ·exact e2
    ·omega
theorem IV(hf:∀q:Nat,(Ay c q).op=17\/(Ay c q).op=18->(q:Int)<(Ay c q).a)(e0:Int): ∀(f q:Nat) (met m:Met),CA p c env next f q met=some m->(∀j l,met j=some l->l.env<=e0+j)->
  ∀j l,q<=j->j<q+f->m j=some l->(Ay c j).op=3->(Ay c j).a<e0+j
 |0,_,_,_,_,_,_,_,_,_,_,_=>by omega
 | f+1,q,met,m,h,hE,j,l,h1,h2,hm,h3=>by
  rw[CA]at h
  split at h
  ·rename_i hq
   by_cases hj:j=q
   ·subst hj
    rw[E6 hf f _ _ _ h j (by omega),hq]at hm
    cases hm
   ·exact IV hf e0 f _ _ _ h hE j l (by omega) (by omega) hm h3
  ·rename_i l0 hq
   split at h
   ·cases h
   ·rename_i m0 e
    by_cases hj:j=q
    ·subst hj
     have:=QA e h3
     have:=hE j l0 hq
     unfold Ay
     omega
    ·refine IV hf e0 f _ _ _ h (fun i l' hi=>?_) j l (by omega) (by omega) hm h3
     rcases Lf e (hf q) i with e2|⟨e2,l2,e3,e4⟩
     ·rw[e2]at hi;exact hE i l' hi
     ·rw[e3]at hi;cases hi
      have:=hE q l0 hq
      omega
theorem Uh(hf:∀q:Nat,(Ay c q).op=17\/(Ay c q).op=18->(q:Int)<(Ay c q).a){s:CSt}{w:Met}(h:wayM p c s=some w)(h0:s.env<=3){j:Nat}{l:CLev}(hl:w j=some l)(h3:(Ay c j).op=3):(Ay c j).a<3+j:=by
 have hd:=L6 h
 unfold wayM at h
 split at h
 ·cases h
 ·have hj:j<c.ins.length:=Classical.byContradiction fun hn=>by rw[hd j (by omega)]at hl;cases hl
  by_cases hq:s.pos.toNat<=j
  ·refine IV hf 3 _ _ _ _ h (fun i l' hi=>?_) j l hq (by omega) hl h3
   unfold updM at hi
   split at hi
   ·cases hi;simp only;omega
   ·cases hi
  ·rw[E6 hf _ _ _ _ h j (by omega)]at hl
   unfold updM at hl
   rw[if_neg (by omega)]at hl
   cases hl
end
def fitsQ(p:BProg)(N:Nat)(q:Nat)(x:CIns):Bool:=
 if x.op=1 then inB x.a else if x.op=3 then decide (0<=x.a/\x.a<=123+N) else if x.op=4\/x.op=6 then decide (3<=x.a/\x.a<3+p.classes.length) else if x.op=5\/x.op=8 then decide (0<=x.a/\x.a<p.slots) else
 if x.op=17\/x.op=18 then decide ((q:Int)<x.a/\x.a<N) else if x.op=19 then decide (0<=x.a/\x.a<p.gens.length) else decide (1<=x.op/\x.op<=21/\x.a=0)
def Co(p:BProg)(N:Nat):List CIns->Nat->Bool
 |[],_=>true
 |x::r,q=>fitsQ p N q x&&Co p N r (q+1)
theorem V9{p:BProg}{N q:Nat}{x:CIns}(h:fitsC p N q x=true)(h3:x.op=3->x.a<=123+N):fitsQ p N q x=true:=by
 unfold fitsC at h;unfold fitsQ
 by_cases e:x.op=3
 ·rw[if_neg (by omega),if_pos e]at h⊢
  simp only[decide_eq_true_eq]at h⊢
  exact⟨h,h3 e⟩
 ·rw[if_neg e]at h⊢
  exact h
theorem Va{p:BProg}{N q:Nat}{x:CIns}(h:fitsQ p N q x=true):fitsC p N q x=true:=by
 unfold fitsQ at h;unfold fitsC
 by_cases e:x.op=3
 ·rw[if_neg (by omega),if_pos e]at h⊢
  simp only[decide_eq_true_eq]at h⊢
  exact h.1
 ·rw[if_neg e]at h⊢
  exact h
theorem Nq{p:BProg}{N:Nat}: ∀(l:List CIns) (q:Nat),Co p N l q=true->FT p N l q=true
 |[],_,_=>rfl
 |x::r,q,h=>by
  rw[Co,Bool.and_eq_true]at h
  rw[FT,Va h.1,Nq r _ h.2];rfl
theorem L3{p:BProg}{N:Nat}: ∀(l:List CIns) (q:Nat),FT p N l q=true->(∀(i:Nat) (x:CIns),l[i]? = some x->x.op=3->x.a<=123+N)->Co p N l q=true
 |[],_,_,_=>rfl
 |x::r,q,h,hn=>by
  rw[FT,Bool.and_eq_true]at h
  rw[Co,V9 h.1 (hn 0 x rfl),L3 r _ h.2 fun i y hy=>hn (i+1) y (by rw[List.getElem?_cons_succ];exact hy)];rfl
def stsQ(p:BProg)(c:CProg):List CSt:=⟨c.main,0,false⟩::List.zipWith (Dl p) p.methods c.starts
def Lw(p:BProg)(c:CProg):Option (List CLev):=
 if okP p&&(decide (c.ins.length<=300)&&(decide (c.starts.length=p.methods.length)&&Co p c.ins.length c.ins 0)) then Fv p c (stsQ p c) else none
theorem Rt (p:BProg) (c:CProg):Lw p c=CZ p c:=by
 unfold Lw CZ
 have hs:Fv p c (stsQ p c)=Fv p c (stsP p c):=Ku fun s=>by unfold stsQ stsP;rw[List.mem_cons,List.mem_append,List.mem_singleton,or_comm]
 rw[hs]
 by_cases am:okP p=true
 ·by_cases h1:c.ins.length<=300
  ·by_cases h2:c.starts.length=p.methods.length
   ·rw [am,decide_eq_true h1,decide_eq_true h2,Bool.true_and,Bool.true_and,Bool.true_and,Bool.true_and]
    cases hq:Co p c.ins.length c.ins 0 with
    |true=>rw[Nq _ _ hq];rfl
    | false =>
     cases hf:FT p c.ins.length c.ins 0 with
     |false=>rfl
     | true =>
      rw[if_neg (by simp)]
      change none=Fv p c (stsP p c)
      cases hl:Fv p c (stsP p c)with
      |none=>rfl
      | some lv =>
       exfalso
       have aM:=hq
       rw[L3 _ _ hf]at aM
       ·cases aM
       intro i x hx h3
       have hi:i<c.ins.length:=(List.getElem?_eq_some_iff.1 hx).1
       have ha:∀q,Ay c q=((c.ins[q]?).getD ⟨0,0⟩):=fun _=>rfl
       have aa:∀q:Nat,(Ay c q).op=17\/(Ay c q).op=18->(q:Int)<(Ay c q).a:=fun q ag=>by
        rw[ha]at ag⊢
        cases hc:c.ins[q]? with
        |none=>rw[hc]at ag;simp at ag
        |some y=>
         rw[hc]at ag
         simp only[Option.getD_some]at ag⊢
         have:=(DD _ _).1 hf q y hc
         unfold fitsC at this
         rw[if_neg (by omega),if_neg (by omega),if_neg (by omega),if_neg (by omega),if_pos ag]at this
         simp only[decide_eq_true_eq]at this
         omega
       unfold Fv at hl
       cases hL:Fu p c (stsP p c) (fun _=>none)with
       |none=>rw[hL]at hl;cases hl
       | some W =>
        rw[hL]at hl
        simp only at hl
        split at hl
        ·rename_i aA
         have:=List.all_eq_true.1 aA i (List.mem_range.2 hi)
         obtain⟨l,hW⟩:=Option.isSome_iff_exists.1 this
         rcases((E9 _ _ _).1 hL).2.2 i l hW with h|⟨s,hs,w,hw,aR⟩
         ·cases h
         ·have aI:s.env<=3:=by
           unfold stsP at hs
           rcases List.mem_append.1 hs with hs|hs
           ·rw[<-List.map_uncurry_zip_eq_zipWith]at hs
            obtain⟨⟨m,n⟩,_,rfl⟩:=List.mem_map.1 hs
            exact(Eg am m.gen.toNat).2
           ·rw[List.mem_singleton]at hs;rw[hs];simp
          have e:Ay c i=x:=by rw[ha,hx];rfl
          have:=Uh aa hw aI aR (by rw[e];exact h3)
          rw[e]at this
          omega
        ·cases hl
   ·rw[am,decide_eq_true h1,decide_eq_false h2];rfl
  ·rw[am,decide_eq_false h1];rfl
 ·rw[Bool.not_eq_true]at am
  rw[am];rfl
def Gr {S:Type} (p:BProg) (c:CProg) (env:Int) (next:Bool) (step:Nat->CLev->S->Option S):Nat->Nat->Met->S->Option S
 |0,_,_,s=>some s
 | f+1,q,met,s=>match met q with
  |none=>Gr p c env next step f (q+1) met s
  | some l=>match CI p c env next q (Ay c q) l met with
   |none=>none
   |some m=>match step q l s with
    |none=>none
    |some s'=>Gr p c env next step f (q+1) m s'
def BI{S:Type}(p:BProg)(c:CProg)(x:CSt)(step:Nat->CLev->S->Option S)(s:S):Option S:=
 if x.pos<0\/(c.ins.length:Int)<=x.pos then none else Gr p c x.env x.next step (c.ins.length-x.pos.toNat) x.pos.toNat (updM (fun _=>none) x.pos.toNat ⟨0,x.env⟩) s
def NU(k:Nat)(l:CLev)(W:Met):Option Met:=if W k≠none/\W k≠some l then none else some (updM W k l)
open Classical in
noncomputable def mrgF(q N:Nat)(W w:Met):Option Met:=
 if ∀k,q<=k->k<N->W k=none\/w k=none\/W k=w k then some (fun k=>if q<=k/\k<N then(match w k with|none=>W k|some x=>some x) else W k) else none
section
variable {p:BProg}{c:CProg}{env:Int}{next:Bool}
theorem Oe (hf : ∀ q:Nat,(Ay c q).op=17\/(Ay c q).op=18->(q:Int) < (Ay c q).a) : ∀ (f q:Nat) (met W:Met),Gr p c env next NU f q met W=match CA p c env next f q met with
  |none=>none
  |some w=>mrgF q (q+f) W w
 |0,q,met,W=>by
  rw[Gr,CA]
  simp only[mrgF]
  rw[if_pos (fun k h1 h2=>by omega)]
  congr 1;funext k;rw[if_neg (by omega)]
 | f+1,q,met,W=>by
  rw[Gr,CA]
  have ih:=Oe hf f (q+1)
  cases hq:met q with
  | none =>
   simp only
   rw[ih]
   cases hs:CA p c env next f (q+1) met with
   |none=>rfl
   | some w =>
    have hw:w q=none:=by rw[E6 hf f (q+1) met w hs q (by omega),hq]
    rw[show q+1+f=q+(f+1) by omega]
    simp only[mrgF]
    have e:(∀k,q+1<=k->k<q+(f+1)->W k=none\/w k=none\/W k=w k) ↔ (∀k,q<=k->k<q+(f+1)->W k=none\/w k=none\/W k=w k):=
     ⟨fun h k h1 h2=>Decidable.byCases (fun e:k=q=>by subst e;exact .inr (.inl hw)) fun e=>h k (by omega) h2,fun h k h1 h2=>h k (by omega) h2⟩
    by_cases hc:∀k,q<=k->k<q+(f+1)->W k=none\/w k=none\/W k=w k
    ·rw[if_pos (e.2 hc),if_pos hc]
     congr 1;funext k
     by_cases hk:k=q
     ·subst hk;rw[if_neg (by omega),if_pos (by omega),hw]
     ·by_cases h:q<=k/\k<q+(f+1)
      ·rw[if_pos h,if_pos (by omega)]
      ·rw[if_neg h,if_neg (by omega)]
    ·rw[if_neg hc,if_neg (fun h=>hc (e.1 h))]
  | some l =>
   simp only
   have hi:(c.ins[q]?).getD ⟨0,0⟩=Ay c q:=rfl
   rw[hi]
   cases aL:CI p c env next q (Ay c q) l met with
   |none=>rfl
   | some m =>
    simp only
    have aN:m q=some l:=by
     rcases Lf aL (hf q) q with h|⟨h,_⟩
     ·rw[h,hq]
     ·omega
    cases hg:NU q l W with
    | none =>
     simp only
     cases hs:CA p c env next f (q+1) m with
     |none=>rfl
     | some w =>
      have hw:w q=some l:=by rw[E6 hf f (q+1) m w hs q (by omega),aN]
      unfold NU at hg
      split at hg
      ·rename_i hc
       simp only[mrgF]
       rw[if_neg]
       intro h
       rcases h q (by omega) (by omega)with h|h|h
       ·exact hc.1 h
       ·rw[hw]at h;cases h
       ·rw[hw]at h;exact hc.2 h
      ·cases hg
    | some V =>
     simp only
     rw[ih]
     cases hs:CA p c env next f (q+1) m with
     |none=>rfl
     | some w =>
      have hw:w q=some l:=by rw[E6 hf f (q+1) m w hs q (by omega),aN]
      unfold NU at hg
      split at hg
      ·cases hg
      ·rename_i hc
       cases hg
       have aW:W q=none\/W q=some l:=by
        cases h:W q with
        |none=>exact .inl rfl
        |some y=>right;exact Classical.byContradiction fun h2=>hc ⟨by rw[h];simp,by rw[h];exact h2⟩
       rw[show q+1+f=q+(f+1) by omega]
       simp only[mrgF]
       have hu:∀k,k≠q->updM W q l k=W k:=fun k hk=>by unfold updM;rw[if_neg hk]
       have e:(∀k,q+1<=k->k<q+(f+1)->updM W q l k=none\/w k=none\/updM W q l k=w k) ↔ (∀k,q<=k->k<q+(f+1)->W k=none\/w k=none\/W k=w k):=
        ⟨fun h k h1 h2=>by
         by_cases e:k=q
         ·subst e;rw[hw];rcases aW with h|h
          ·exact .inl h
          ·exact .inr (.inr h)
         ·have:=h k (by omega) h2;rwa [hu k e]at this,fun h k h1 h2=>by rw[hu k (by omega)];exact h k (by omega) h2⟩
       by_cases aD:∀k,q<=k->k<q+(f+1)->W k=none\/w k=none\/W k=w k
       ·rw[if_pos (e.2 aD),if_pos aD]
        congr 1;funext k
        by_cases hk:k=q
        ·subst hk;rw[if_neg (by omega),if_pos (by omega),hw];unfold updM;rw[if_pos rfl]
        ·rw[hu k hk]
         by_cases h:q<=k/\k<q+(f+1)
         ·rw[if_pos h,if_pos (by omega)]
         ·rw[if_neg h,if_neg (by omega)]
       ·rw[if_neg aD,if_neg (fun h=>aD (e.1 h))]
theorem FZ{N:Nat}{met m:Met}{n:Int}{l:CLev}(h:BL N met n l=some m)(hm:∀j,N<=j->met j=none): ∀j,N<=j->m j=none:=fun j hj=>by
 rcases reach_at h j with e|⟨e,_⟩
 ·rw[e];exact hm j hj
 ·unfold BL at h
  split at h
  ·cases h
  ·rename_i hc;exfalso;omega
theorem step_hi {q:Nat} {x:CIns} {l:CLev} {met m:Met} (h:CI p c env next q x l met=some m) (hm : ∀ j,c.ins.length<=j->met j=none) : ∀ j,c.ins.length<=j->m j=none:=by
 unfold CI at h
 split at h
 ·cases h
 ·split at h
  ·split at h
   ·cases h;exact hm
   ·cases h
  ·split at h
   ·exact FZ h hm
   ·split at h
    ·exact FZ h hm
    ·split at h
     ·exact FZ h hm
     ·split at h
      ·split at h
       ·cases h
       ·rename_i m1 h1
        exact FZ h (FZ h1 hm)
      ·exact FZ h hm
theorem NH: ∀(f q:Nat) (met m:Met),CA p c env next f q met=some m->(∀j,c.ins.length<=j->met j=none)->∀j,c.ins.length<=j->m j=none
 |0,_,_,_,h,hm=>by cases h;exact hm
 | f+1,q,met,m,h,hm=>by
  rw[CA]at h
  split at h
  ·exact NH f _ _ _ h hm
  ·split at h
   ·cases h
   ·rename_i m1 h1
    exact NH f _ _ _ h (step_hi h1 hm)
theorem Um(hf:∀q:Nat,(Ay c q).op=17\/(Ay c q).op=18->(q:Int)<(Ay c q).a)(x:CSt)(W:Met):BI p c x NU W=match wayM p c x with
  |none=>none
  |some w=>mrgM c.ins.length W w:=by
 unfold BI wayM
 split
 ·rfl
 ·rename_i hx
  rw[Oe hf]
  cases hs:CA p c x.env x.next (c.ins.length-x.pos.toNat) x.pos.toNat (updM (fun _=>none) x.pos.toNat ⟨0,x.env⟩)with
  |none=>rfl
  | some w =>
   simp only
   have aO:∀k,k<x.pos.toNat->w k=none:=fun k hk=>by rw[E6 hf _ _ _ _ hs k hk];unfold updM;rw[if_neg (by omega)]
   have aT:∀k,c.ins.length<=k->w k=none:=NH _ _ _ _ hs fun j hj=>by unfold updM;rw[if_neg (by omega)]
   rw[show x.pos.toNat+(c.ins.length-x.pos.toNat)=c.ins.length by omega]
   unfold mrgF mrgM
   have e:(∀k,x.pos.toNat<=k->k<c.ins.length->W k=none\/w k=none\/W k=w k) ↔ ((List.range c.ins.length).all (fun k=>W k=none||w k=none||W k=w k)=true):=by
    rw[List.all_eq_true]
    constructor
    ·intro h k hk
     simp only[Bool.or_eq_true,decide_eq_true_eq]
     by_cases h1:x.pos.toNat<=k
     ·rcases h k h1 (by simpa using hk)with h|h|h
      ·exact .inl (.inl h)
      ·exact .inl (.inr h)
      ·exact .inr h
     ·exact .inl (.inr (aO k (by omega)))
    ·intro h k _ h2
     have:=h k (by simpa using h2)
     simp only[Bool.or_eq_true,decide_eq_true_eq]at this
     rcases this with(h|h)|h
     ·exact .inl h
     ·exact .inr (.inl h)
     ·exact .inr (.inr h)
   by_cases hc:∀k,x.pos.toNat<=k->k<c.ins.length->W k=none\/w k=none\/W k=w k
   ·rw[if_pos hc,if_pos (e.1 hc)]
    congr 1;funext k
    split
    ·rfl
    ·have:w k=none:=by
      by_cases h:k<x.pos.toNat
      ·exact aO k h
      ·exact aT k (by omega)
     rw[this]
   ·rw[if_neg hc,if_neg (fun h=>hc (e.2 h))]
end
abbrev MetL:=List (Int×CLev)
def metOf(m:MetL):Met:=fun j=>if hasM (j:Int) m then some (getM ⟨0,0⟩ (j:Int) m) else none
theorem Ri:metOf []=fun _=>none:=rfl
theorem Da(m:MetL)(n:Nat)(l:CLev):metOf (putM (n:Int) l m)=updM (metOf m) n l:=by
 funext j
 unfold metOf updM
 rw[He,ET]
 by_cases e:j=n
 ·subst e;simp
 ·have e':¬((j:Int)=n):=fun h=>e (by omega)
  simp[e,e']
def FD(k:Nat)(l:CLev)(W:MetL):Option MetL:=if hasM (k:Int) W=true/\getM ⟨0,0⟩ (k:Int) W≠l then none else some (putM (k:Int) l W)
theorem V5(k:Nat)(l:CLev)(W:MetL):NU k l (metOf W)=(FD k l W).map metOf:=by
 unfold NU FD metOf
 cases h:hasM (k:Int) W with
 |false=>simp only[Bool.false_eq_true,if_false,false_and];rw[if_neg (by simp)];show _=some (metOf _);rw[Da];rfl
 |true=>
  simp only[if_true,true_and]
  by_cases e:getM ⟨0,0⟩ (k:Int) W=l
  ·rw[if_neg (fun h=>h.2 (by rw[e])),if_neg (fun h=>h e)];show _=some (metOf _);rw[Da];rfl
  ·rw[if_pos ⟨by simp,by simpa using e⟩,if_pos e];rfl
theorem IG{S T:Type}{p:BProg}{c:CProg}{env:Int}{next:Bool}{f:S->T}{g:Nat->CLev->S->Option S}{h:Nat->CLev->T->Option T}(e:∀k l s,h k l (f s)=(g k l s).map f): ∀(n q:Nat) (met:Met) (s:S),Gr p c env next h n q met (f s)=(Gr p c env next g n q met s).map f
 |0,_,_,_=>rfl
 | n+1,q,met,s=>by
  rw[Gr,Gr]
  split
  ·exact IG e n _ _ _
  ·split
   ·rfl
   ·rw[e]
    cases g q _ s with
    |none=>rfl
    |some s'=>exact IG e n _ _ _
theorem Pl{S T:Type}{p:BProg}{c:CProg}{x:CSt}{f:S->T}{g:Nat->CLev->S->Option S}{h:Nat->CLev->T->Option T}(e:∀k l s,h k l (f s)=(g k l s).map f)(s:S):BI p c x h (f s)=(BI p c x g s).map f:=by
 unfold BI
 split
 ·rfl
 ·exact IG e _ _ _ _
def allL(p:BProg)(c:CProg):List CSt->MetL->Option MetL
 |[],W=>some W
 |s::r,W=>match BI p c s FD W with
  |none=>none
  |some V=>allL p c r V
theorem Pg{p:BProg}{c:CProg}(hf:∀q:Nat,(Ay c q).op=17\/(Ay c q).op=18->(q:Int)<(Ay c q).a): ∀(l:List CSt) (W:MetL),Fu p c l (metOf W)=(allL p c l W).map metOf
 |[],_=>rfl
 | s::r,W=>by
  rw[Fu,allL]
  have h:=Um (p:=p) hf s (metOf W)
  rw[Pl (f:=metOf) V5]at h
  cases hw:wayM p c s with
  |none=>
   rw[hw]at h
   simp only at h
   cases hl:BI p c s FD W with
   |none=>rfl
   |some V=>rw[hl]at h;cases h
  |some w=>
   rw[hw]at h
   simp only at h⊢
   rw[<-h]
   cases hl:BI p c s FD W with
   |none=>rfl
   |some V=>exact Pg hf r V
def Hb(N:Nat)(W:MetL):Prop:=(W.map (·.1)).Nodup /\ ∀x∈W,0<=x.1/\x.1<N
theorem Hf(k:Int): ∀m:MetL,hasM k m=true ↔ k∈m.map (·.1)
 |[]=>by simp[hasM]
 |x::m=>by rw[hasM,List.map_cons,List.mem_cons,Bool.or_eq_true,decide_eq_true_eq,Hf k m]
theorem IZ(k:Int)(l:CLev): ∀m:MetL,(putM k l m).map (·.1)=if hasM k m then m.map (·.1) else m.map (·.1)++[k]
 |[]=>by simp[putM,hasM]
 | x::m=>by
  rw[putM,hasM]
  by_cases e:k=x.1
  ·subst e;simp
  ·rw[if_neg e]
   have:decide (k=x.1)=false:=by simp[e]
   rw[this,Bool.false_or,List.map_cons,IZ k l m]
   split<;>simp
theorem PI{N:Nat}{W:MetL}(h:Hb N W){k:Nat}(hk:k<N)(l:CLev):Hb N (putM (k:Int) l W):=by
 have hm:∀x:Int,x∈(putM (k:Int) l W).map (·.1)->0<=x/\x<N:=fun x hx=>by
  rw[IZ]at hx
  split at hx
  ·obtain⟨y,hy,rfl⟩:=List.mem_map.1 hx;exact h.2 y hy
  ·rcases List.mem_append.1 hx with hx|hx
   ·obtain⟨y,hy,rfl⟩:=List.mem_map.1 hx;exact h.2 y hy
   ·rw[List.mem_singleton]at hx;omega
 refine⟨?_,fun x hx=>hm x.1 (List.mem_map.2 ⟨x,hx,rfl⟩)⟩
 rw[IZ]
 split
 ·exact h.1
 ·rename_i hn
  refine List.nodup_append.2 ⟨h.1,by simp,fun a ha b hb=>?_⟩
  rw[List.mem_singleton]at hb
  subst hb
  intro e;subst e
  exact hn ((Hf _ _).2 ha)
theorem Mh: ∀(N:Nat) (l:List Int),l.Nodup->(∀x∈l,0<=x/\x<N)->l.length<=N/\(l.length=N ↔ ∀k:Nat,k<N->(k:Int)∈l)
 | 0,l,_,hl=>by
  have:l=[]:=by
   cases l with
   |nil=>rfl
   |cons x l=>have:=hl x (by simp);omega
  subst this;simp
 | N+1,l,hn,hl=>by
  have h1:=Mh N (l.erase (N:Int)) (hn.erase _) fun x hx=>by
   have h2:=(hn.mem_erase_iff).1 hx
   have:=hl x h2.2;have:=h2.1;omega
  have hm:∀k:Nat,k<N->((k:Int)∈l.erase (N:Int) ↔ (k:Int)∈l):=fun k hk=>by
   rw[hn.mem_erase_iff];exact⟨fun h=>h.2,fun h=>⟨by omega,h⟩⟩
  by_cases hN:(N:Int)∈l
  ·have hlen:=List.length_erase_of_mem hN
   have ap:0<l.length:=List.length_pos_of_mem hN
   refine⟨by omega,fun h k hk=>?_,fun h=>?_⟩
   ·by_cases e:k=N
    ·subst e;exact hN
    ·exact(hm k (by omega)).1 (h1.2.1 (by omega) k (by omega))
   ·have:=h1.2.2 fun k hk=>(hm k hk).2 (h k (by omega))
    omega
  ·rw[List.erase_of_not_mem hN]at h1
   exact⟨by omega,fun h=>by omega,fun h=>absurd (h N (by omega)) hN⟩
theorem Qq{N:Nat}{W:MetL}(h:Hb N W):(W.length=N) ↔ (List.range N).all (fun k=>(metOf W k).isSome)=true:=by
 have:=(Mh N (W.map (·.1)) h.1 fun x hx=>by obtain⟨y,hy,rfl⟩:=List.mem_map.1 hx;exact h.2 y hy).2
 rw[List.length_map]at this
 rw[this,List.all_eq_true]
 constructor
 ·intro h k hk
  unfold metOf;rw[if_pos ((Hf _ _).2 (h k (by simpa using hk)))];rfl
 ·intro h k hk
  have:=h k (by simpa using hk)
  unfold metOf at this
  split at this
  ·rename_i h2;exact(Hf _ _).1 h2
  ·cases this
theorem HV{p:BProg}{c:CProg}{env:Int}{next:Bool}: ∀(n q:Nat) (met:Met) (W V:MetL),q+n<=c.ins.length->Hb c.ins.length W->Gr p c env next FD n q met W=some V->Hb c.ins.length V
 |0,_,_,_,_,_,h,e=>by cases e;exact h
 | n+1,q,met,W,V,hq,h,e=>by
  rw[Gr]at e
  split at e
  ·exact HV n _ _ _ _ (by omega) h e
  ·split at e
   ·cases e
   ·split at e
    ·cases e
    ·rename_i s' hs
     unfold FD at hs
     split at hs
     ·cases hs
     ·cases hs
      exact HV n _ _ _ _ (by omega) (PI h (by omega) _) e
theorem PH{p:BProg}{c:CProg}{x:CSt}{W V:MetL}(h:Hb c.ins.length W)(e:BI p c x FD W=some V):Hb c.ins.length V:=by
 unfold BI at e
 split at e
 ·cases e
 ·exact HV _ _ _ _ _ (by omega) h e
theorem Kx{p:BProg}{c:CProg}: ∀(l:List CSt) (W V:MetL),Hb c.ins.length W->allL p c l W=some V->Hb c.ins.length V
 |[],_,_,h,e=>by cases e;exact h
 | s::r,W,V,h,e=>by
  rw[allL]at e
  split at e
  ·cases e
  ·rename_i V1 h1
   exact Kx r _ _ (PH h h1) e
def IF(p:BProg)(c:CProg):Option MetL:=match allL p c (stsQ p c) []with
 |none=>none
 |some W=>if W.length=c.ins.length then some W else none
theorem Pk{p:BProg}{c:CProg}(hf:∀q:Nat,(Ay c q).op=17\/(Ay c q).op=18->(q:Int)<(Ay c q).a):Fv p c (stsQ p c)=(IF p c).map fun W=>(List.range c.ins.length).map fun k:Nat=>getM ⟨0,0⟩ (k:Int) W:=by
 unfold Fv IF
 rw[<-Ri,Pg hf]
 cases h:allL p c (stsQ p c) []with
 |none=>rfl
 | some W =>
  have hk:=Kx _ _ _ ⟨by simp,by simp⟩ h
  have hw:=Qq hk
  show(if _ then _ else _)=_
  simp only
  by_cases e:W.length=c.ins.length
  ·rw[if_pos e,if_pos (hw.1 e)]
   simp only[Option.map_some,Option.some.injEq]
   refine List.map_congr_left fun k aH=>?_
   have:=List.all_eq_true.1 (hw.1 e) k aH
   unfold metOf at this⊢
   split at this
   ·rename_i h2;rw[if_pos h2];rfl
   ·cases this
  ·rw[if_neg e,if_neg (fun h=>e (hw.2 h))];rfl
def C1(p:BProg)(c:CProg):Option MetL:=
 if okP p&&(decide (c.ins.length<=300)&&(decide (c.starts.length=p.methods.length)&&Co p c.ins.length c.ins 0)) then IF p c else none
theorem I7{p:BProg}{N:Nat}: ∀(l:List CIns) (q:Nat),Co p N l q=true->∀(i:Nat) (x:CIns),l[i]? = some x->fitsQ p N (q+i) x=true
 |[],_,_,_,_,h=>by simp at h
 |y::l,q,h,i,x,hx=>by
  rw[Co,Bool.and_eq_true]at h
  cases i with
  |zero=>simp at hx;subst hx;exact h.1
  |succ i=>simp at hx;have:=I7 l (q+1) h.2 i x hx;rwa [show q+1+i=q+(i+1) by omega]at this
theorem V7{p:BProg}{c:CProg}(h:Co p c.ins.length c.ins 0=true): ∀q:Nat,(Ay c q).op=17\/(Ay c q).op=18->(q:Int)<(Ay c q).a:=fun q ho=>by
 unfold Ay at ho⊢
 cases hx:c.ins[q]? with
 |none=>rw[hx]at ho;simp at ho
 |some x=>
  rw[hx]at ho
  have:=I7 _ _ h q x hx
  unfold fitsQ at this
  simp only[Option.getD_some]at ho⊢
  rcases ho with e|e<;>rw[e]at this<;>simp at this<;>omega
theorem PE(p:BProg)(c:CProg):Lw p c=(C1 p c).map fun W=>(List.range c.ins.length).map fun k:Nat=>getM ⟨0,0⟩ (k:Int) W:=by
 unfold Lw C1
 split
 ·rename_i h
  simp only[Bool.and_eq_true,decide_eq_true_eq]at h
  exact Pk (V7 h.2.2.2)
 ·rfl
def toC(p:BProg)(x:CIns)(l:CLev):CLev:=
 ⟨l.st-(Ah p x).1+(Ah p x).2,if x.op=14 then l.env+1 else if x.op=15 then l.env-1 else l.env⟩
structure InsOK(p:BProg)(N k:Nat)(x:CIns)(l:CLev)(m:Met)(env:Int)(next:Bool):Prop where
 take:(Ah p x).1<=l.st
 name:x.op=3->x.a<l.env
 drop:x.op=15->env<l.env
 nexts:x.op=20->next=true
 fin:x.op=21->l.st=1/\l.env=env
 on:x.op≠21->x.op≠18->k+1<N/\m (k+1)=some (toC p x l)
 jump:x.op=17\/x.op=18->0<=x.a/\x.a<N/\m x.a.toNat=some (toC p x l)
theorem Eo{N:Nat}{met m:Met}{n:Int}{l:CLev}(h:BL N met n l=some m):0<=n/\n<N/\m n.toNat=some l /\ ∀j x,met j=some x->m j=some x:=by
 unfold BL at h
 split at h
 ·cases h
 ·rename_i e
  cases h
  refine⟨by omega,by omega,by unfold updM;rw[if_pos rfl],fun j x hx=>?_⟩
  unfold updM
  by_cases ej:j=n.toNat
  ·rw[if_pos ej]
   subst ej
   rw[hx]at e
   by_cases el:x=l
   ·rw[el]
   ·exact absurd (.inr (.inr ⟨by simp,by simpa using el⟩)) e
  ·rw[if_neg ej];exact hx
theorem InsOK.mono{p:BProg}{N k:Nat}{x:CIns}{l:CLev}{m m':Met}{env:Int}{next:Bool}(h:InsOK p N k x l m env next)(hm:∀j x,m j=some x->m' j=some x):InsOK p N k x l m' env next:=
 ⟨h.take,h.name,h.drop,h.nexts,h.fin,fun a b=>⟨(h.on a b).1,hm _ _ (h.on a b).2⟩,fun a=>⟨(h.jump a).1,(h.jump a).2.1,hm _ _ (h.jump a).2.2⟩⟩
section
variable {p:BProg}{c:CProg}{env:Int}{next:Bool}
theorem Qz {q:Nat} {x:CIns} {l:CLev} {met m:Met} (h:CI p c env next q x l met=some m):InsOK p c.ins.length q x l m env next /\ ∀ j x,met j=some x->m j=some x:=by
 unfold CI at h
 split at h
 ·cases h
 ·rename_i e0
  have t:(Ah p x).1<=l.st:=by omega
  have nm:x.op=3->x.a<l.env:=fun h3=>by omega
  have dr:x.op=15->env<l.env:=fun h3=>by omega
  have nx:x.op=20->next=true:=fun aX=>by
   cases next with
   |true=>rfl
   |false=>exact absurd (.inr (.inr (.inr ⟨aX,rfl⟩))) e0
  split at h
  ·rename_i ar
   split at h
   ·rename_i e
    cases h
    exact⟨⟨t,nm,dr,nx,fun _=>e,fun a=>absurd ar a,fun a=>by omega⟩,fun _ _ h=>h⟩
   ·cases h
  ·rename_i ar
   split at h
   ·rename_i aw
    obtain⟨r1,r2,r3,r4⟩:=Eo h
    rw[show((q:Int)+1).toNat=q+1 by omega]at r3
    exact⟨⟨t,nm,dr,nx,fun a=>absurd a ar,fun _ _=>⟨by omega,by unfold toC;rw[if_pos aw];exact r3⟩,fun a=>by omega⟩,r4⟩
   ·rename_i aw
    split at h
    ·rename_i au
     obtain⟨r1,r2,r3,r4⟩:=Eo h
     rw[show((q:Int)+1).toNat=q+1 by omega]at r3
     exact⟨⟨t,nm,dr,nx,fun a=>absurd a ar,fun _ _=>⟨by omega,by unfold toC;rw[if_neg aw,if_pos au];exact r3⟩,fun a=>by omega⟩,r4⟩
    ·rename_i au
     have eto:toC p x l=⟨l.st-(Ah p x).1+(Ah p x).2,l.env⟩:=by unfold toC;rw[if_neg aw,if_neg au]
     split at h
     ·rename_i aB
      obtain⟨r1,r2,r3,r4⟩:=Eo h
      exact⟨⟨t,nm,dr,nx,fun a=>absurd a ar,fun _ a=>absurd aB a,fun _=>⟨r1,r2,by rw[eto];exact r3⟩⟩,r4⟩
     ·rename_i aB
      split at h
      ·split at h
       ·cases h
       ·rename_i m1 e1
        obtain⟨s1,s2,s3,s4⟩:=Eo e1
        obtain⟨r1,r2,r3,r4⟩:=Eo h
        rw[show((q:Int)+1).toNat=q+1 by omega]at r3
        exact⟨⟨t,nm,dr,nx,fun a=>absurd a ar,fun _ _=>⟨by omega,by rw[eto];exact r3⟩,fun _=>⟨s1,s2,by rw[eto];exact r4 _ _ s3⟩⟩,fun j x hx=>r4 j x (s4 j x hx)⟩
      ·rename_i aQ
       obtain⟨r1,r2,r3,r4⟩:=Eo h
       rw[show((q:Int)+1).toNat=q+1 by omega]at r3
       exact⟨⟨t,nm,dr,nx,fun a=>absurd a ar,fun _ _=>⟨by omega,by rw[eto];exact r3⟩,fun a=>absurd a (by omega)⟩,r4⟩
theorem step_to {q:Nat} {x:CIns} {l:CLev} {met m:Met} (h:CI p c env next q x l met=some m) (j:Nat):m j=met j\/m j=some (toC p x l):=by
 unfold CI at h
 split at h
 ·cases h
 ·split at h
  ·split at h
   ·cases h;exact .inl rfl
   ·cases h
  ·split at h
   ·rename_i aw
    refine(reach_at h j).imp id fun e=>?_
    unfold toC;rw[if_pos aw];exact e.2
   ·rename_i aw
    split at h
    ·rename_i au
     refine(reach_at h j).imp id fun e=>?_
     unfold toC;rw[if_neg aw,if_pos au];exact e.2
    ·rename_i au
     have eto:toC p x l=⟨l.st-(Ah p x).1+(Ah p x).2,l.env⟩:=by unfold toC;rw[if_neg aw,if_neg au]
     rw[eto]
     split at h
     ·exact(reach_at h j).imp id fun e=>e.2
     ·split at h
      ·split at h
       ·cases h
       ·rename_i e0
        rcases reach_at h j with e|e
        ·exact(reach_at e0 j).imp e.trans fun e2=>e.trans e2.2
        ·exact .inr e.2
      ·exact(reach_at h j).imp id fun e=>e.2
theorem IW: ∀(f q:Nat) (met m:Met),CA p c env next f q met=some m->∀j x,met j=some x->m j=some x
 |0,_,_,_,h,_,_,hx=>by cases h;exact hx
 | f+1,q,met,m,h,j,x,hx=>by
  rw[CA]at h
  split at h
  ·exact IW f _ _ _ h j x hx
  ·split at h
   ·cases h
   ·rename_i e
    exact IW f _ _ _ h j x ((Qz e).2 j x hx)
theorem Qv(p:BProg)(x:CIns):0<=(Ah p x).2:=by
 unfold Ah
 split;simp
 split;simp
 split;simp
 split;simp
 split;simp
 split;simp
 simp
theorem NG (hf : ∀ q:Nat,(Ay c q).op=17\/(Ay c q).op=18->(q:Int) < (Ay c q).a) : ∀ (f q:Nat) (met m:Met),CA p c env next f q met=some m->(∀ j l,met j=some l->q<=j/\j < q+f/\0<=l.st/\env<=l.env\/InsOK p c.ins.length j (Ay c j) l met env next/\0<=l.st/\env<=l.env) ->
  q+f=c.ins.length->∀j l,m j=some l->InsOK p c.ins.length j (Ay c j) l m env next/\0<=l.st/\env<=l.env
 |0,q,met,m,h,hI,_,j,l,hl=>by
  cases h
  rcases hI j l hl with h|h
  ·omega
  ·exact h
 | f+1,q,met,m,h,hI,hN,j,l,hl=>by
  rw[CA]at h
  split at h
  ·rename_i hq
   refine NG hf f _ _ _ h (fun i l' hi=>?_) (by omega) j l hl
   rcases hI i l' hi with h'|h'
   ·by_cases e:i=q
    ·subst e;rw[hq]at hi;cases hi
    ·exact .inl (by omega)
   ·exact .inr h'
  ·rename_i l0 hq
   split at h
   ·cases h
   ·rename_i m0 e
    obtain⟨o1,o2⟩:=Qz e
    have h0:0<=l0.st/\env<=l0.env:=by
     rcases hI q l0 hq with h'|h'
     ·exact⟨h'.2.2.1,h'.2.2.2⟩
     ·exact h'.2
    refine NG hf f _ _ _ h (fun i l' hi=>?_) (by omega) j l hl
    by_cases eq:i=q
    ·subst eq
     have:=o2 i l0 hq
     rw[this]at hi;cases hi
     exact .inr ⟨o1,h0⟩
    ·rcases Lf e (hf q) i with e2|⟨e2,_⟩
     ·rw[e2]at hi
      rcases hI i l' hi with h'|h'
      ·exact .inl (by omega)
      ·exact .inr ⟨h'.1.mono o2,h'.2⟩
     ·have aY:i<c.ins.length:=Classical.byContradiction fun hn=>by
       have hd:=Oh e (fun j hj=>by
        cases hm:met j with
        |none=>rfl
        | some y =>
         rcases hI j y hm with h'|h'
         ·omega
         ·exfalso
          have:c.ins[j]? = none:=List.getElem?_eq_none (by omega)
          have hz:Ay c j=⟨0,0⟩:=by unfold Ay;rw[this];rfl
          rw[hz]at h'
          have:=(h'.1.on (by simp) (by simp)).1
          omega) i (by omega)
       rw[hd]at hi;cases hi
      have g:m0 i=met i\/l'=toC p (Ay c q) l0:=(step_to e i).imp id fun e3=>by rw[hi]at e3;exact Option.some.inj e3
      rcases g with g|g
      ·rw[g]at hi
       rcases hI i l' hi with h'|h'
       ·exact .inl (by omega)
       ·exact .inr ⟨h'.1.mono o2,h'.2⟩
      ·refine .inl ⟨by omega,by omega,?_,?_⟩
       ·rw[g];unfold toC;simp only
        have:(Ah p (Ay c q)).1<=l0.st:=o1.take
        have:=Qv p (Ay c q)
        omega
       ·rw[g];unfold toC;simp only
        split
        ·omega
        ·split
         ·rename_i _ au
          have:=o1.drop au
          omega
         ·omega
end
theorem Mx{p:BProg}{c:CProg}(h:FT p c.ins.length c.ins 0=true)(q:Nat)(ag:(Ay c q).op=17\/(Ay c q).op=18):(q:Int)<(Ay c q).a:=by
 have ha:Ay c q=((c.ins[q]?).getD ⟨0,0⟩):=rfl
 rw[ha]at ag⊢
 cases hc:c.ins[q]? with
 |none=>rw[hc]at ag;simp at ag
 |some y=>
  rw[hc]at ag
  simp only[Option.getD_some]at ag⊢
  have:=(DD _ _).1 h q y hc
  unfold fitsC at this
  rw[if_neg (by omega),if_neg (by omega),if_neg (by omega),if_neg (by omega),if_pos ag]at this
  simp only[decide_eq_true_eq]at this
  omega
theorem VX{p:BProg}{c:CProg}(hf:∀q:Nat,(Ay c q).op=17\/(Ay c q).op=18->(q:Int)<(Ay c q).a){s:CSt}{w:Met}(h:wayM p c s=some w):
  0<=s.pos/\s.pos<c.ins.length/\w s.pos.toNat=some ⟨0,s.env⟩ /\ ∀j l,w j=some l->InsOK p c.ins.length j (Ay c j) l w s.env s.next/\0<=l.st/\s.env<=l.env:=by
 unfold wayM at h
 split at h
 ·cases h
 ·refine⟨by omega,by omega,IW _ _ _ _ h _ _ (by unfold updM;rw[if_pos rfl]),?_⟩
  refine NG hf _ _ _ _ h (fun j l hl=>?_) (by omega)
  unfold updM at hl
  split at hl
  ·cases hl;exact .inl ⟨by omega,by omega,by simp,by simp⟩
  ·cases hl
structure LevOK(p:BProg)(c:CProg)(m:Met)(nx:Bool):Prop where
 dom:∀(k:Nat) (l:CLev),m k=some l->k<c.ins.length
 ok:∀(k:Nat) (l:CLev),m k=some l->∃(env:Int) (next:Bool),InsOK p c.ins.length k (Ay c k) l m env next/\0<=l.st/\env<=l.env/\0<=env/\(next=true->nx=true)
 fits:∀(k:Nat) (x:CIns),c.ins[k]? = some x->fitsC p c.ins.length k x=true
theorem Mq{p:BProg}{c:CProg}{l:List CSt}{lv:List CLev}(h:Fv p c l=some lv): ∃W,Fu p c l (fun _=>none)=some W/\lv.length=c.ins.length /\ ∀k x,lv[k]? = some x ↔ W k=some x:=by
 unfold Fv at h
 cases hL:Fu p c l (fun _=>none)with
 |none=>rw[hL]at h;cases h
 | some W =>
  rw[hL]at h
  simp only at h
  split at h
  ·rename_i aA
   cases h
   refine⟨W,rfl,by rw[List.length_map,List.length_range],fun k x=>?_⟩
   by_cases hk:k<c.ins.length
   ·have:=List.all_eq_true.1 aA k (List.mem_range.2 hk)
    obtain⟨y,hy⟩:=Option.isSome_iff_exists.1 this
    rw[List.getElem?_map,List.getElem?_range hk,hy]
    simp[hy]
   ·rw[List.getElem?_eq_none (by rw[List.length_map,List.length_range];omega)]
    constructor
    ·intro e;cases e
    ·intro e
     rcases((E9 _ _ _).1 hL).2.2 k x e with h|⟨s,_,w,hw,aC⟩
     ·cases h
     ·rw[L6 hw k (by omega)]at aC;cases aC
  ·cases h
theorem Mp{p:BProg}{c:CProg}{lv:List CLev}(h:CZ p c=some lv):okP p=true/\lv.length=c.ins.length/\LevOK p c (fun j=>lv[j]?) true:=by
 unfold CZ at h
 split at h
 ·rename_i hc
  simp only[Bool.and_eq_true,decide_eq_true_eq]at hc
  obtain⟨am,h1,h2,h3⟩:=hc
  have hf:=Mx h3
  obtain⟨W,hW,hl,hx⟩:=Mq h
  have hI:=(E9 _ _ _).1 hW
  refine⟨am,hl,fun k l hk=>by rw[<-hl];exact(List.getElem?_eq_some_iff.1 hk).1,fun k l hk=>?_,fun k x hk=>by have:=(DD _ _).1 h3 k x hk;rwa [Nat.zero_add]at this⟩
  rcases hI.2.2 k l ((hx k l).1 hk)with h|⟨s,hs,w,hw,aC⟩
  ·cases h
  ·obtain⟨w1,aJ,ay⟩:=hI.2.1 s hs
   rw[hw]at aJ;cases aJ
   obtain⟨i1,i2,i3⟩:=(VX hf hw).2.2.2 k l aC
   refine⟨s.env,s.next,i1.mono fun j x hj=>(hx j x).2 (ay j x hj),i2,i3,?_,fun _=>rfl⟩
   unfold stsP at hs
   rcases List.mem_append.1 hs with hs|hs
   ·rw[<-List.map_uncurry_zip_eq_zipWith]at hs
    obtain⟨⟨m,n⟩,_,rfl⟩:=List.mem_map.1 hs
    exact(Eg am m.gen.toNat).1
   ·rw[List.mem_singleton]at hs;rw[hs];exact Int.le_refl 0
 ·cases h
theorem way_lev{p:BProg}{c:CProg}{lv:List CLev}(h:CZ p c=some lv){s:CSt}(hs:s∈stsP p c): ∃w,wayM p c s=some w/\w s.pos.toNat=some ⟨0,s.env⟩/\0<=s.pos/\s.pos<c.ins.length/\LevOK p c w s.next /\ ∀j l,w j=some l->lv[j]? = some l:=by
 unfold CZ at h
 split at h
 ·rename_i hc
  simp only[Bool.and_eq_true,decide_eq_true_eq]at hc
  obtain⟨am,h1,h2,h3⟩:=hc
  have hf:=Mx h3
  obtain⟨W,hW,hl,hx⟩:=Mq h
  have hI:=(E9 _ _ _).1 hW
  obtain⟨w,hw,ay⟩:=hI.2.1 s hs
  obtain⟨p1,p2,p3,p4⟩:=VX hf hw
  refine⟨w,hw,p3,p1,p2,⟨fun k l hk=>Classical.byContradiction (fun hn=>(by rw[L6 hw k (by omega)]at hk;cases hk)),fun k l hk=>?_,fun k x hk=>by have:=(DD _ _).1 h3 k x hk;rwa [Nat.zero_add]at this⟩,fun j l hj=>(hx j l).2 (ay j l hj)⟩
  obtain⟨i1,i2,i3⟩:=p4 k l hk
  refine⟨s.env,s.next,i1,i2,i3,?_,id⟩
  unfold stsP at hs
  rcases List.mem_append.1 hs with hs|hs
  ·rw[<-List.map_uncurry_zip_eq_zipWith]at hs
   obtain⟨⟨m,n⟩,_,rfl⟩:=List.mem_map.1 hs
   exact(Eg am m.gen.toNat).1
  ·rw[List.mem_singleton]at hs;rw[hs];exact Int.le_refl 0
 ·cases h
structure MVal where
 kind:Int
 n:Int
 deriving DecidableEq
structure MThing where
 cls:Int
 slots:List MVal
 deriving DecidableEq
structure MEv where
 deed:Int
 n:Int
 vals:List MVal
 deriving DecidableEq
structure GoS where
 objs:List MThing
 evs:List MEv
 pos:Int
 stk:List MVal
 env:List MVal
structure GoH where
 kind:Int
 val:MVal
 gen:Int
 args:List MVal
 fin:Int
 pos:Int
 stk:List MVal
 env:List MVal
 objs:List MThing
 evs:List MEv
structure CWorld where
 own:Int->Bool
 slots:Int->List Int
 fresh:Int->List MVal
def EG:MVal:=⟨2,0⟩
def vInt(n:Int):MVal:=⟨1,n⟩
def vObj(n:Int):MVal:=⟨3,n⟩
def vZ:MVal:=⟨0,0⟩
def AI(v:MVal):Int:=if v.kind=1 then v.n else 0
def E2(b:Bool):Int:=if b then 1 else 0
def Ct(n:Int):Int:=min (max n (-1000000000)) 1000000000
def Hx(op:Int)(v w:MVal):MVal:=
 if op=9 then vInt (Ct (AI v+AI w)) else if op=10 then vInt (Ct (AI v-AI w)) else if op=11 then vInt (Ct (AI v*AI w)) else
 if op=12 then vInt (E2 (decide (AI v<AI w))) else vInt (E2 (decide (v=w)))
def okV(objs:Int)(v:MVal):Bool:=if v.kind=1 then decide (-1000000000<=v.n/\v.n<=1000000000) else if v.kind=2 then decide (v.n=0) else if v.kind=3 then decide (0<=v.n/\v.n<objs) else false
def okVs(objs:Int)(l:List MVal):Bool:=l.all (okV objs)
def AQ(w:CWorld)(l:List MThing):Bool:=decide (l.length<=40)&&l.all fun o=>w.own o.cls&&(decide (o.slots.length=(w.slots o.cls).length)&&okVs l.length o.slots)
def D9(l:List MThing)(n:Int):MThing:=(l[n.toNat]?).getD ⟨0,[]⟩
def Bl(w:CWorld)(objs:List MThing)(v:MVal)(s:Int):Int:=if v.kind=3 then idxG s (w.slots (D9 objs v.n).cls) 0 else -1
def CH(w:CWorld)(x:MThing)(c:Int):MThing:=
 ⟨c,List.zipWith (fun s v=>if 0<=idxG s (w.slots x.cls) 0 then(x.slots[(idxG s (w.slots x.cls) 0).toNat]?).getD vZ else v) (w.slots c) (w.fresh c)⟩
def DY(l:List MVal):MVal:=(l.getLast?).getD vZ
def setObj(l:List MThing)(n:Int)(x:MThing):List MThing:=l.set n.toNat x
def FB(s:GoS)(e:Int)(stk:List MVal):GoH:=⟨4,vZ,0,[],e,0,[],[],s.objs,s.evs⟩
def Gd(p:BProg)(w:CWorld)(x:CIns)(s:GoS):GoS ⊕ GoH:=
 let v:=DY s.stk
 let r:=s.stk.dropLast
 if x.op=1 then .inl { s with stk:=s.stk++[vInt x.a] }
 else if x.op=2 then .inl { s with stk:=s.stk++[EG] }
 else if x.op=3 then .inl { s with stk:=s.stk++[(s.env[x.a.toNat]?).getD vZ] }
 else if x.op=4 then(if 40<=s.objs.length then .inr (FB s 8 r) else .inl { s with objs:=s.objs++[⟨x.a,w.fresh x.a⟩],stk:=s.stk++[vObj s.objs.length] })
 else if x.op=5 then(if Bl w s.objs v x.a<0 then .inr (FB s 5 r) else .inl { s with stk:=r++[((D9 s.objs v.n).slots[(Bl w s.objs v x.a).toNat]?).getD vZ] })
 else if x.op=6 then(if v.kind=3 then .inl { s with objs:=setObj s.objs v.n (CH w (D9 s.objs v.n) x.a),stk:=r++[v] } else .inr (FB s 6 r))
 else if x.op=7 then .inl { s with evs:=s.evs++[⟨2,0,[v]⟩],stk:=r++[v] }
 else if x.op=8 then(if Bl w s.objs (DY r) x.a<0 then .inr (FB s 5 r) else
  .inl { s with objs:=setObj s.objs (DY r).n ⟨(D9 s.objs (DY r).n).cls,(D9 s.objs (DY r).n).slots.set (Bl w s.objs (DY r) x.a).toNat v⟩,stk:=r.dropLast++[v] })
 else if x.op=14 then .inl { s with env:=s.env++[v],stk:=r }
 else if x.op=15 then .inl { s with env:=s.env.dropLast }
 else if x.op=16 then .inl { s with stk:=r }
 else if x.op=17 then .inl { s with stk:=r,pos:=if AI v=0 then x.a else s.pos }
 else if x.op=18 then .inl { s with pos:=x.a }
 else if x.op=19 then .inr ⟨2,vZ,x.a,s.stk.drop (s.stk.length-(p.gens.getD x.a.toNat 0).toNat),0,s.pos,s.stk.take (s.stk.length-(p.gens.getD x.a.toNat 0).toNat),s.env,s.objs,s.evs⟩
 else if x.op=20 then .inr ⟨3,vZ,0,[],0,s.pos,s.stk,s.env,s.objs,s.evs⟩
 else if x.op=21 then .inr ⟨1,v,0,[],0,0,[],[],s.objs,s.evs⟩
 else .inl { s with stk:=r.dropLast++[Hx x.op (DY r) v] }
def mRun(p:BProg)(w:CWorld)(c:CProg):Nat->GoS->GoH
 |0,s=>FB s 0 []
 |f+1,s=>match Gd p w (Ay c s.pos.toNat) { s with pos:=s.pos+1 } with
  |.inl t=>mRun p w c f t
  |.inr h=>h
theorem Bc{N:Int}{l:List MVal}:okVs N l=true ↔ ∀v∈l,okV N v=true:=by unfold okVs;exact List.all_eq_true
theorem UI{M N:Int}{v:MVal}(h:okV M v=true)(hN:M<=N):okV N v=true:=by
 unfold okV at h⊢
 split
 ·rw[if_pos (by assumption)]at h;exact h
 ·rw[if_neg (by assumption)]at h
  split
  ·rw[if_pos (by assumption)]at h;exact h
  ·rw[if_neg (by assumption)]at h
   split
   ·rw[if_pos (by assumption)]at h;simp only[decide_eq_true_eq]at h⊢; omega
   ·rw[if_neg (by assumption)]at h;exact h
theorem Fo{M N:Int}{l:List MVal}(h:okVs M l=true)(hN:M<=N):okVs N l=true:=Bc.2 fun v hv=>UI (Bc.1 h v hv) hN
theorem Ce{N:Int}{l:List MVal}{v:MVal}(h:okVs N l=true)(hv:okV N v=true):okVs N (l++[v])=true:=Bc.2 fun x hx=>by
 rcases List.mem_append.1 hx with hx|hx
 ·exact Bc.1 h x hx
 ·rw[List.mem_singleton]at hx;rw[hx];exact hv
theorem CM{N:Int}{l:List MVal}(h:okVs N l=true):okVs N l.dropLast=true:=Bc.2 fun x hx=>Bc.1 h x (List.dropLast_subset l hx)
theorem ER{N:Int}{l:List MVal}(h:okVs N l=true)(h1:1<=l.length):okV N (DY l)=true:=by
 unfold DY
 rw[List.getLast?_eq_getElem?, List.getElem?_eq_getElem (by omega)]
 exact Bc.1 h _ (List.getElem_mem _)
theorem Bu{w:CWorld}{l:List MThing}:AQ w l=true ↔ l.length<=40 /\ ∀o∈l,w.own o.cls=true/\o.slots.length=(w.slots o.cls).length/\okVs l.length o.slots=true:=by
 unfold AQ
 simp only[Bool.and_eq_true,decide_eq_true_eq,List.all_eq_true]
theorem G0{w:CWorld}{l:List MThing}(h:AQ w l=true){v:MVal}(hv:okV l.length v=true)(h3:v.kind=3):(D9 l v.n)∈l/\0<=v.n/\v.n<l.length:=by
 unfold okV at hv
 rw[if_neg (by omega),if_neg (by omega),if_pos h3]at hv
 simp only[decide_eq_true_eq]at hv
 unfold D9
 rw[List.getElem?_eq_getElem (by omega)]
 exact⟨List.getElem_mem _,hv⟩
theorem Km{w:CWorld}{l:List MThing}(h:AQ w l=true){n:Int}{x:MThing}(h1:w.own x.cls=true)(h2:x.slots.length=(w.slots x.cls).length)(h3:okVs l.length x.slots=true):AQ w (setObj l n x)=true:=by
 rw[Bu]at h⊢
 unfold setObj
 rw[List.length_set]
 refine⟨h.1,fun o ho=>?_⟩
 rcases List.mem_or_eq_of_mem_set ho with ho|rfl
 ·exact h.2 o ho
 ·exact⟨h1,h2,h3⟩
theorem HX{α}[DecidableEq α]{s:α}: ∀(l:List α) (k:Nat),0<=idxG s l k->k<=idxG s l k/\idxG s l k<k+l.length
 |[],_,h=>by rw[idxG]at h;omega
 | x::r,k,h=>by
  rw[idxG]at h⊢
  rw[List.length_cons]
  split
  ·omega
  ·rename_i e
   rw[if_neg e]at h
   have:=HX r (k+1) h
   omega
structure WldOK(p:BProg)(w:CWorld):Prop where
 own:∀c:Int,3<=c->c<3+p.classes.length->w.own c=true
 len:∀c,w.own c=true->(w.fresh c).length=(w.slots c).length
 ok:∀c,w.own c=true->okVs 0 (w.fresh c)=true
theorem turn_ok{p:BProg}{w:CWorld}(hw:WldOK p w){N:Int}(hN:0<=N){x:MThing}{c:Int}(hc:w.own c=true)(hx:w.own x.cls=true)(hl:x.slots.length=(w.slots x.cls).length)(hs:okVs N x.slots=true):
  (CH w x c).slots.length=(w.slots c).length/\okVs N (CH w x c).slots=true:=by
 have hlen:=hw.len c hc
 unfold CH
 simp only
 refine⟨by rw[List.length_zipWith,hlen,Nat.min_self],Bc.2 fun v hv=>?_⟩
 rw[<-List.map_uncurry_zip_eq_zipWith]at hv
 obtain⟨⟨a,b⟩,aV,rfl⟩:=List.mem_map.1 hv
 simp only[Function.uncurry]
 split
 ·rename_i h0
  have:=HX (s:=a) (w.slots x.cls) 0 (by exact_mod_cast h0)
  rw[List.getElem?_eq_getElem (by omega)]
  exact Bc.1 hs _ (List.getElem_mem _)
 ·exact Bc.1 (Fo (hw.ok c hc) hN) b (List.of_mem_zip aV).2
structure GInv(w:CWorld)(m:Met)(s:GoS):Prop where
 lo:0<=s.pos
 lev:∃l,m s.pos.toNat=some l/\(s.stk.length:Int)=l.st/\(s.env.length:Int)=l.env
 stk:okVs s.objs.length s.stk=true
 env:okVs s.objs.length s.env=true
 objs:AQ w s.objs=true
structure HInv(p:BProg)(w:CWorld)(m:Met)(nx:Bool)(at0:Int)(h:GoH):Prop where
 objs:AQ w h.objs=true
 kind:h.kind=1\/h.kind=2\/h.kind=3\/h.kind=4
 goes:h.kind=3->nx=true
 val:h.kind=1->okV h.objs.length h.val=true
 asks:h.kind=2->0<=h.gen/\h.gen<p.gens.length/\(h.args.length:Int)=p.gens.getD h.gen.toNat 0/\okVs h.objs.length h.args=true
 frame:h.kind=2\/h.kind=3->at0<h.pos/\(∃l,m h.pos.toNat=some l/\(h.stk.length:Int)+1=l.st/\(h.env.length:Int)=l.env)/\okVs h.objs.length h.stk=true/\okVs h.objs.length h.env=true
theorem UJ(N:Int)(op:Int)(v w:MVal):okV N (Hx op v w)=true:=by
 have hc:∀n,okV N (vInt (Ct n))=true:=fun n=>by
  unfold okV vInt Ct
  simp only[if_true,decide_eq_true_eq]
  omega
 have ht:∀b,okV N (vInt (E2 b))=true:=fun b=>by
  unfold okV vInt E2
  cases b<;>simp
 unfold Hx
 split
 ·exact hc _
 split
 ·exact hc _
 split
 ·exact hc _
 split
 ·exact ht _
 ·exact ht _
section
variable {p:BProg}{w:CWorld}{c:CProg}{m:Met}{nx:Bool}
theorem D0{N:Nat}{x:CIns}{l:CLev}{env:Int}{next:Bool}{s t:GoS}(hI:InsOK p N s.pos.toNat x l m env next)(h0:0<=s.pos)(ar:x.op≠21)(aB:x.op≠18)
  (hp:t.pos=s.pos+1) (h1:(t.stk.length:Int)=(toC p x l).st) (h2:(t.env.length:Int)=(toC p x l).env) (h3:okVs t.objs.length t.stk=true) (h4:okVs t.objs.length t.env=true) (h5:AQ w t.objs=true):GInv w m t/\s.pos<t.pos:=by
 refine⟨⟨by omega,⟨_,?_,h1,h2⟩,h3,h4,h5⟩,by omega⟩
 rw[hp,show(s.pos+1).toNat=s.pos.toNat+1 by omega]
 exact(hI.on ar aB).2
theorem HP(hg:∀n:Nat,0<=p.gens.getD n 0)(hw:WldOK p w)(hL:LevOK p c m nx){s:GoS}(hs:GInv w m s):match Gd p w (Ay c s.pos.toNat) { s with pos:=s.pos+1 } with
  |.inl t=>GInv w m t/\s.pos<t.pos
  |.inr h=>HInv p w m nx s.pos h:=by
 obtain⟨h0,⟨l,hl,aL,ai⟩,ak,ae,ac⟩:=hs
 obtain⟨env,next,hI,g1,g2,g3,g4⟩:=hL.ok _ _ hl
 have hk:s.pos.toNat<c.ins.length:=hL.dom _ _ hl
 have hx:c.ins[s.pos.toNat]? = some (Ay c s.pos.toNat):=by unfold Ay;rw[List.getElem?_eq_getElem hk];rfl
 have aa:=hL.fits _ _ hx
 generalize Ay c s.pos.toNat=x at hI hx aa
 have ht:=hI.take
 have aU:s.stk.dropLast.length=s.stk.length-1:=List.length_dropLast
 have aq:=CM ak
 have aP:=CM aq
 have bb:s.stk.dropLast.dropLast.length=s.stk.length-1-1:=by rw[List.length_dropLast,aU]
 have ax:1<=s.stk.length->okV s.objs.length (DY s.stk)=true:=ER ak
 have aS:2<=s.stk.length->okV s.objs.length (DY s.stk.dropLast)=true:=fun h=>ER aq (by omega)
 unfold fitsC at aa
 unfold Gd
 simp only
 by_cases e1:x.op=1
 ·rw[if_pos e1]at aa
  rw[if_pos e1]
  have u:Ah p x=(0,1):=by unfold Ah;rw[if_pos (by omega)]
  refine D0 hI h0 (by omega) (by omega) rfl ?_ ?_ (Ce ak ?_) ae ac
  ·unfold toC;rw[u,List.length_append];simp only[List.length_singleton];omega
  ·unfold toC;rw[if_neg (by omega),if_neg (by omega)];exact ai
  ·unfold inB at aa
   unfold okV vInt
   simp only[if_true,Bool.and_eq_true,decide_eq_true_eq]at aa⊢
   omega
 rw[if_neg e1]at aa
 rw[if_neg e1]
 by_cases e2:x.op=2
 ·rw[if_pos e2]
  have u:Ah p x=(0,1):=by unfold Ah;rw[if_pos (by omega)]
  refine D0 hI h0 (by omega) (by omega) rfl ?_ ?_ (Ce ak ?_) ae ac
  ·unfold toC;rw[u,List.length_append];simp only[List.length_singleton];omega
  ·unfold toC;rw[if_neg (by omega),if_neg (by omega)];exact ai
  ·simp[okV,EG]
 rw[if_neg e2]
 by_cases e3:x.op=3
 ·rw[if_pos e3]at aa
  rw[if_pos e3]
  have hn:=hI.name e3
  simp only[decide_eq_true_eq]at aa
  have u:Ah p x=(0,1):=by unfold Ah;rw[if_pos (by omega)]
  refine D0 hI h0 (by omega) (by omega) rfl ?_ ?_ (Ce ak ?_) ae ac
  ·unfold toC;rw[u,List.length_append];simp only[List.length_singleton];omega
  ·unfold toC;rw[if_neg (by omega),if_neg (by omega)];exact ai
  ·simp only
   rw[List.getElem?_eq_getElem (by omega)]
   exact Bc.1 ae _ (List.getElem_mem _)
 rw[if_neg e3]at aa
 rw[if_neg e3]
 by_cases e4:x.op=4
 ·rw [if_pos (by omega)] at aa
  rw[if_pos e4]
  simp only[decide_eq_true_eq]at aa
  have aj:=hw.own x.a aa.1 aa.2
  have u:Ah p x=(0,1):=by unfold Ah;rw[if_pos (by omega)]
  by_cases hn:40<=s.objs.length
  ·rw[if_pos hn]
   exact⟨ac,.inr (.inr (.inr rfl)),(nomatch ·),(nomatch ·),(nomatch ·),fun h=>by simp[FB]at h⟩
  ·rw[if_neg hn]
   have aG:((s.objs.length:Nat):Int)<=((s.objs++[(⟨x.a,w.fresh x.a⟩:MThing)]).length:Nat):=by rw[List.length_append];simp only[List.length_singleton];omega
   refine D0 hI h0 (by omega) (by omega) rfl ?_ ?_ (Ce (Fo ak aG) ?_) (Fo ae aG) ?_
   ·unfold toC;rw[u,List.length_append];simp only[List.length_singleton];omega
   ·unfold toC;rw[if_neg (by omega),if_neg (by omega)];exact ai
   ·simp only[okV,vObj,List.length_append,List.length_singleton];simp;omega
   ·rw[Bu]at ac⊢
    refine⟨by rw[List.length_append];simp only[List.length_singleton];omega,fun o ho=>?_⟩
    rcases List.mem_append.1 ho with ho|ho
    ·exact⟨(ac.2 o ho).1,(ac.2 o ho).2.1,Fo (ac.2 o ho).2.2 aG⟩
    ·rw[List.mem_singleton]at ho;rw[ho]
     exact⟨aj,hw.len _ aj,Fo (hw.ok _ aj) (by omega)⟩
 rw[if_neg e4]
 by_cases e5:x.op=5
 ·rw [if_pos e5]
  have u:Ah p x=(1,1):=by unfold Ah;rw[if_neg (by omega),if_pos (by omega)]
  rw[u]at ht
  simp only at ht
  by_cases hn:Bl w s.objs (DY s.stk) x.a<0
  ·rw[if_pos hn]
   exact⟨ac,.inr (.inr (.inr rfl)),(nomatch ·),(nomatch ·),(nomatch ·),fun h=>by simp[FB]at h⟩
  ·rw[if_neg hn]
   refine D0 hI h0 (by omega) (by omega) rfl ?_ ?_ (Ce aq ?_) ae ac
   ·unfold toC;rw[u,List.length_append];simp only[List.length_singleton];omega
   ·unfold toC;rw[if_neg (by omega),if_neg (by omega)];exact ai
   ·unfold Bl at hn⊢
    split at hn
    ·rename_i h3
     rw[if_pos h3]
     obtain⟨o1,o2⟩:=G0 ac (ax (by omega)) h3
     have:=HX (s:=x.a) (w.slots (D9 s.objs (DY s.stk).n).cls) 0 (by omega)
     obtain⟨q1,q2,q3⟩:=(Bu.1 ac).2 _ o1
     rw[List.getElem?_eq_getElem (by omega)]
     exact Bc.1 q3 _ (List.getElem_mem _)
    ·omega
 rw[if_neg e5]
 by_cases e6:x.op=6
 ·rw[if_pos (by omega)]at aa
  rw[if_pos e6]
  simp only[decide_eq_true_eq]at aa
  have aj:=hw.own x.a aa.1 aa.2
  have u:Ah p x=(1,1):=by unfold Ah;rw[if_neg (by omega),if_pos (by omega)]
  rw[u]at ht
  simp only at ht
  by_cases h3:(DY s.stk).kind=3
  ·rw[if_pos h3]
   have hsz:(setObj s.objs (DY s.stk).n (CH w (D9 s.objs (DY s.stk).n) x.a)).length=s.objs.length:=List.length_set
   obtain⟨o1,o2⟩:=G0 ac (ax (by omega)) h3
   obtain⟨q1,q2,q3⟩:=(Bu.1 ac).2 _ o1
   obtain⟨t1,t2⟩:=turn_ok hw (Int.natCast_nonneg s.objs.length) aj q1 q2 q3
   refine D0 hI h0 (by omega) (by omega) rfl ?_ ?_ (Ce ?_ ?_) ?_ (Km ac aj t1 t2)
   ·unfold toC;rw[u,List.length_append];simp only[List.length_singleton];omega
   ·unfold toC;rw[if_neg (by omega),if_neg (by omega)];exact ai
   ·simp only[hsz];exact aq
   ·simp only[hsz];exact ax (by omega)
   ·simp only[hsz];exact ae
  ·rw[if_neg h3]
   exact⟨ac,.inr (.inr (.inr rfl)),(nomatch ·),(nomatch ·),(nomatch ·),fun h=>by simp[FB]at h⟩
 rw[if_neg (by omega)]at aa
 rw[if_neg e6]
 by_cases e7:x.op=7
 ·rw[if_pos e7]
  have u:Ah p x=(1,1):=by unfold Ah;rw[if_neg (by omega),if_pos (by omega)]
  rw[u]at ht
  simp only at ht
  refine D0 hI h0 (by omega) (by omega) rfl ?_ ?_ (Ce aq (ax (by omega))) ae ac
  ·unfold toC;rw[u,List.length_append];simp only[List.length_singleton];omega
  ·unfold toC;rw[if_neg (by omega),if_neg (by omega)];exact ai
 rw[if_neg e7]
 by_cases e8:x.op=8
 ·rw [if_pos e8]
  have u:Ah p x=(2,1):=by unfold Ah;rw[if_neg (by omega),if_neg (by omega),if_neg (by omega),if_neg (by omega),if_neg (by omega),if_neg (by omega)]
  rw[u]at ht
  simp only at ht
  by_cases hn:Bl w s.objs (DY s.stk.dropLast) x.a<0
  ·rw[if_pos hn]
   exact⟨ac,.inr (.inr (.inr rfl)),(nomatch ·),(nomatch ·),(nomatch ·),fun h=>by simp[FB]at h⟩
  ·rw[if_neg hn]
   unfold Bl at hn
   split at hn
   ·rename_i h3
    obtain⟨o1,o2⟩:=G0 ac (aS (by omega)) h3
    obtain⟨q1,q2,q3⟩:=(Bu.1 ac).2 _ o1
    refine D0 hI h0 (by omega) (by omega) rfl ?_ ?_ (Ce ?_ ?_) ?_ (Km ac q1 ?_ ?_)
    ·unfold toC;rw[u,List.length_append];simp only[List.length_singleton];omega
    ·unfold toC;rw[if_neg (by omega),if_neg (by omega)];exact ai
    ·simp only[setObj,List.length_set];exact aP
    ·simp only[setObj,List.length_set];exact ax (by omega)
    ·simp only[setObj,List.length_set];exact ae
    ·rw[List.length_set];exact q2
    ·refine Bc.2 fun v hv=>?_
     rcases List.mem_or_eq_of_mem_set hv with hv|rfl
     ·exact Bc.1 q3 v hv
     ·exact ax (by omega)
   ·omega
 rw[if_neg e8]
 rw[if_neg (by omega)]at aa
 by_cases e14:x.op=14
 ·rw[if_pos e14]
  have u:Ah p x=(1,0):=by unfold Ah;rw[if_neg (by omega),if_neg (by omega),if_pos (by omega)]
  rw[u]at ht
  simp only at ht
  refine D0 hI h0 (by omega) (by omega) rfl ?_ ?_ aq (Ce ae (ax (by omega))) ac
  ·unfold toC;rw[u];simp only;omega
  ·unfold toC;rw[if_pos e14,List.length_append];simp only[List.length_singleton];omega
 rw[if_neg e14]
 by_cases e15:x.op=15
 ·rw[if_pos e15]
  have ba:=hI.drop e15
  have u:Ah p x=(0,0):=by unfold Ah;rw[if_neg (by omega),if_neg (by omega),if_neg (by omega),if_neg (by omega),if_pos (by omega)]
  refine D0 hI h0 (by omega) (by omega) rfl ?_ ?_ ak (CM ae) ac
  ·unfold toC;rw[u];simp only;omega
  ·unfold toC;rw[if_neg e14,if_pos e15];simp only[List.length_dropLast];omega
 rw[if_neg e15]
 have en0:(toC p x l).env=l.env:=by unfold toC;rw[if_neg e14,if_neg e15]
 by_cases e16:x.op=16
 ·rw[if_pos e16]
  have u:Ah p x=(1,0):=by unfold Ah;rw[if_neg (by omega),if_neg (by omega),if_pos (by omega)]
  rw[u]at ht
  simp only at ht
  refine D0 hI h0 (by omega) (by omega) rfl ?_ (by rw[en0];exact ai) aq ae ac
  unfold toC;rw[u];simp only;omega
 rw[if_neg e16]
 by_cases e17:x.op=17
 ·rw[if_pos e17]
  rw[if_pos (by omega)]at aa
  simp only[decide_eq_true_eq]at aa
  have u:Ah p x=(1,0):=by unfold Ah;rw[if_neg (by omega),if_neg (by omega),if_pos (by omega)]
  rw[u]at ht
  simp only at ht
  have est:((s.stk.dropLast.length:Nat):Int)=(toC p x l).st:=by unfold toC;rw[u];simp only;omega
  by_cases hz:AI (DY s.stk)=0
  ·simp only[if_pos hz]
   refine⟨⟨by simp only;omega,⟨_,(hI.jump (.inl e17)).2.2,est,by rw[en0];exact ai⟩,aq,ae,ac⟩,by first|omega|(simp only;omega)⟩
  ·simp only[if_neg hz]
   exact D0 hI h0 (by omega) (by omega) rfl est (by rw[en0];exact ai) aq ae ac
 rw[if_neg e17]
 by_cases e18:x.op=18
 ·rw[if_pos e18]
  rw[if_pos (by omega)]at aa
  simp only[decide_eq_true_eq]at aa
  have u:Ah p x=(0,0):=by unfold Ah;rw[if_neg (by omega),if_neg (by omega),if_neg (by omega),if_neg (by omega),if_pos (by omega)]
  refine⟨⟨by simp only;omega,⟨_,(hI.jump (.inr e18)).2.2,?_,by rw[en0];exact ai⟩,ak,ae,ac⟩,by first|omega|(simp only;omega)⟩
  unfold toC;rw[u];simp only;omega
 rw[if_neg e18]
 rw[if_neg (by omega)]at aa
 by_cases e19:x.op=19
 ·rw[if_pos e19]at aa
  rw[if_pos e19]
  simp only[decide_eq_true_eq]at aa
  have u:Ah p x=(p.gens.getD x.a.toNat 0,1):=by unfold Ah;rw[if_neg (by omega),if_neg (by omega),if_neg (by omega),if_pos e19]
  rw[u]at ht
  simp only at ht
  have aH:=(hI.on (by omega) (by omega)).2
  have aK:toC p x l=⟨l.st-p.gens.getD x.a.toNat 0+1,l.env⟩:=by unfold toC;rw[u,if_neg e14,if_neg e15]
  have aZ:0<=p.gens.getD x.a.toNat 0:=hg _
  refine⟨ac,.inr (.inl rfl),(nomatch ·),(nomatch ·),fun _=>⟨aa.1,aa.2,?_,?_⟩,fun _=>⟨by simp only;omega,⟨toC p x l,?_,?_,?_⟩,?_,ae⟩⟩
  ·show((s.stk.drop (s.stk.length-(p.gens.getD x.a.toNat 0).toNat)).length:Int)=p.gens.getD x.a.toNat 0
   rw[List.length_drop];omega
  ·exact Bc.2 fun v hv=>Bc.1 ak v (List.mem_of_mem_drop hv)
  ·simp only
   rw[show(s.pos+1).toNat=s.pos.toNat+1 by omega]
   exact aH
  ·rw[aK];simp only[List.length_take];omega
  ·rw[aK];exact ai
  ·exact Bc.2 fun v hv=>Bc.1 ak v (List.mem_of_mem_take hv)
 rw[if_neg e19]at aa
 rw[if_neg e19]
 simp only[decide_eq_true_eq]at aa
 by_cases e20:x.op=20
 ·rw[if_pos e20]
  have u:Ah p x=(0,1):=by unfold Ah;rw[if_pos (by omega)]
  refine⟨ac,.inr (.inr (.inl rfl)),fun _=>g4 (hI.nexts e20),(nomatch ·),(nomatch ·),fun _=>⟨by simp only;omega,⟨_,?_,?_,by rw[en0];exact ai⟩,ak,ae⟩⟩
  ·simp only
   rw[show(s.pos+1).toNat=s.pos.toNat+1 by omega]
   exact(hI.on (by omega) (by omega)).2
  ·unfold toC;rw[u];simp only;omega
 rw[if_neg e20]
 by_cases e21:x.op=21
 ·rw[if_pos e21]
  have:=(hI.fin e21).1
  exact⟨ac,.inl rfl,(nomatch ·),fun _=>ax (by omega),(nomatch ·),fun h=>by simp at h⟩
 rw[if_neg e21]
 have u:Ah p x=(2,1):=by unfold Ah;rw[if_neg (by omega),if_neg (by omega),if_neg (by omega),if_neg (by omega),if_neg (by omega),if_neg (by omega)]
 rw[u]at ht
 simp only at ht
 refine D0 hI h0 (by omega) (by omega) rfl ?_ (by rw[en0];exact ai) (Ce aP (UJ _ _ _ _)) ae ac
 unfold toC;rw[u,List.length_append];simp only[List.length_singleton];omega
end
end Go.DL
