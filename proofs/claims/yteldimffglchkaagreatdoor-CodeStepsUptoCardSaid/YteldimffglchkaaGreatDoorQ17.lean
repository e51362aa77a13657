/- A part of the proof. -/
import Derived.Test.YteldimffglchkaaGreatDoorQ16
set_option linter.all false
namespace Go.DL
open Go Go.Proofs
def jz{N:Nat}{met m:Met}{n:Int}{l:jO}(h:AQ N met n l=some m)(j:Nat):m j=met j\/((j:Int)=n/\m j=some l):=by
 unfold AQ at h;split at h
 ·cases h
 ·cases h;unfold kQ
  by_cases e:j=n.toNat
  ·rw[aG e];exact .inr ⟨j0,rfl⟩
  ·rw[aE e];exact .inl rfl
section
variable {p:aw}{c:jD}{j7:Int}{next:Bool}
theorem Jg {q:Nat} {x:jI} {l:jO} {met m:Met} (h:Di p c j7 next q x l met=some m) (hj:x.op=17\/x.op=18->(q:Int) < x.a) (j:Nat):m j=met j\/(q < j /\ ∃ l',m j=some l'/\l'.j7<=l.j7+1):=by
 unfold Di at h;split at h
 ·cases h
 ·split at h
  ·split at h
   ·cases h;exact .inl rfl
   ·cases h
  ·split at h
   ·rcases jz h j with e|⟨e,e2⟩
    ·exact .inl e
    ·exact .inr ⟨j0,_,e2,by simp only;omega⟩
   ·split at h
    ·rcases jz h j with e|⟨e,e2⟩
     ·exact .inl e
     ·exact .inr ⟨j0,_,e2,by simp only;omega⟩
    ·split at h
     ·rename_i eY;have:=hj (.inr eY);rcases jz h j with e|⟨e,e2⟩
      ·exact .inl e
      ·exact .inr ⟨j0,_,e2,by simp only;omega⟩
     ·split at h
      ·rename_i fq;have:=hj (.inl fq);split at h
       ·cases h
       ·rename_i e0;rcases jz h j with e|⟨e,e2⟩
        ·rcases jz e0 j with e1|⟨e1,e2⟩
         ·exact .inl (e.trans e1)
         ·exact .inr ⟨j0,_,e.trans e2,by simp only;omega⟩
        ·exact .inr ⟨j0,_,e2,by simp only;omega⟩
      ·rcases jz h j with e|⟨e,e2⟩
       ·exact .inl e
       ·exact .inr ⟨j0,_,e2,by simp only;omega⟩
theorem RG{q:Nat}{x:jI}{l:jO}{met m:Met}(h:Di p c j7 next q x l met=some m)(h3:x.op=3):x.a<l.j7:=by
 unfold Di at h;split at h
 ·cases h
 ·omega
def An(c:jD)(q:Nat):jI:=(c.j6[q]?).getD ⟨0,0⟩
theorem EF(hf:∀q:Nat,(An c q).op=17\/(An c q).op=18->(q:Int)<(An c q).a): ∀(f q:Nat) (met m:Met),E2 p c j7 next f q met=some m->∀j,j<q->m j=met j
 |0,_,_,_,h,_,_=>by cases h;rfl
 | f+1,q,met,m,h,j,hj=>by
  rw[E2]at h;split at h
  ·exact EF hf f _ _ _ h j j0
  ·split at h
   ·cases h
   ·rename_i e;rw[EF hf f _ _ _ h j j0];rcases Jg e (hf q) j with e2|⟨e2,_⟩
    ·exact e2
    ·omega
theorem Ji(hf:∀q:Nat,(An c q).op=17\/(An c q).op=18->(q:Int)<(An c q).a)(e0:Int): ∀(f q:Nat) (met m:Met),E2 p c j7 next f q met=some m->(∀j l,met j=some l->l.j7<=e0+j)->
  ∀j l,q<=j->j<q+f->m j=some l->(An c j).op=3->(An c j).a<e0+j
 |0,_,_,_,_,_,_,_,_,_,_,_=>by omega
 | f+1,q,met,m,h,hE,j,l,h1,h2,hm,h3=>by
  rw[E2]at h;split at h
  ·rename_i hq
   by_cases hj:j=q
   ·subst hj;rw[EF hf f _ _ _ h j j0,hq]at hm;cases hm
   ·exact Ji hf e0 f _ _ _ h hE j l j0 j0 hm h3
  ·rename_i l0 hq;split at h
   ·cases h
   ·rename_i m0 e
    by_cases hj:j=q
    ·subst hj;have:=RG e h3;have:=hE j l0 hq;unfold An;omega
    ·refine Ji hf e0 f _ _ _ h (fun i l' hi=>?_) j l j0 j0 hm h3;rcases Jg e (hf q) i with e2|⟨e2,l2,e3,e4⟩
     ·rw[e2]at hi;exact hE i l' hi
     ·rw[e3]at hi;cases hi;have:=hE q l0 hq;omega
theorem VI(hf:∀q:Nat,(An c q).op=17\/(An c q).op=18->(q:Int)<(An c q).a){s:CSt}{w:Met}(h:wayM p c s=some w)(h0:s.j7<=3){j:Nat}{l:jO}(hl:w j=some l)(h3:(An c j).op=3):(An c j).a<3+j:=by
 have hd:=O4 h;unfold wayM at h;split at h
 ·cases h
 ·have hj:j<c.j6.length:=bN fun hn=>by rw[hd j j0]at hl;cases hl
  by_cases hq:s.pos.toNat<=j
  ·refine Ji hf 3 _ _ _ _ h (fun i l' hi=>?_) j l hq j0 hl h3;unfold kQ at hi;split at hi
   ·cases hi;simp only;omega
   ·cases hi
  ·rw[EF hf _ _ _ _ h j j0]at hl;unfold kQ at hl;rw[aE j0]at hl;cases hl
end
def kZ(p:aw)(N:Nat)(q:Nat)(x:jI):Bool:=
 if x.op=1 then inB x.a else if x.op=3 then decide (0<=x.a/\x.a<=123+N) else if x.op=4\/x.op=6 then decide (3<=x.a/\x.a<3+p.aa.length) else if x.op=5\/x.op=8 then decide (0<=x.a/\x.a<p.ac) else
 if x.op=17\/x.op=18 then decide ((q:Int)<x.a/\x.a<N) else if x.op=19 then decide (0<=x.a/\x.a<p.ai.length) else decide (1<=x.op/\x.op<=21/\x.a=0)
def CO(p:aw)(N:Nat):List jI->Nat->Bool
 |[],_=>true
 |x::r,q=>kZ p N q x&&CO p N r (q+1)
def WC{p:aw}{N q:Nat}{x:jI}(h:kH p N q x=true)(h3:x.op=3->x.a<=123+N):kZ p N q x=true:=by
 unfold kH at h;unfold kZ
 by_cases e:x.op=3
 ·rw[aE j0,aG e]at h⊢;simp only[aH]at h⊢;exact⟨h,h3 e⟩
 ·rw[aE e]at h⊢;exact h
def WD{p:aw}{N q:Nat}{x:jI}(h:kZ p N q x=true):kH p N q x=true:=by
 unfold kZ at h;unfold kH
 by_cases e:x.op=3
 ·rw[aE j0,aG e]at h⊢;simp only[aH]at h⊢;exact h.1
 ·rw[aE e]at h⊢;exact h
def NX{p:aw}{N:Nat}: ∀(l:List jI) (q:Nat),CO p N l q=true->Dn p N l q=true
 |[],_,_=>rfl
 |x::r,q,h=>by
  rw[CO,aF]at h;rw[Dn,WD h.1,NX r _ h.2];rfl
def LC{p:aw}{N:Nat}: ∀(l:List jI) (q:Nat),Dn p N l q=true->(∀(i:Nat) (x:jI),l[i]? = some x->x.op=3->x.a<=123+N)->CO p N l q=true
 |[],_,_,_=>rfl
 |x::r,q,h,hn=>by
  rw[Dn,aF]at h;rw[CO,WC h.1 (hn 0 x rfl),LC r _ h.2 fun i y hy=>hn (i+1) y (by rw[du];exact hy)];rfl
def stsQ(p:aw)(c:jD):List CSt:=⟨c.jf,0,false⟩::List.zipWith (De p) p.j9 c.jG
def LV(p:aw)(c:jD):Option (List jO):=
 if okP p&&(decide (c.j6.length<=300)&&(decide (c.jG.length=p.j9.length)&&CO p c.j6.length c.j6 0)) then EA p c (stsQ p c) else none
def SI (p:aw) (c:jD):LV p c=B6 p c:=by
 unfold LV B6;have hs:EA p c (stsQ p c)=EA p c (stsP p c):=Qv fun s=>by unfold stsQ stsP;rw[aY,bJ,bC,or_comm]
 rw[hs]
 by_cases d7:okP p=true
 ·by_cases h1:c.j6.length<=300
  ·by_cases h2:c.jG.length=p.j9.length
   ·rw [d7,be h1,be h2,bq,bq,bq,bq];cases hq:CO p c.j6.length c.j6 0 with
    |true=>rw[NX _ _ hq];rfl
    | false =>
     cases hf:Dn p c.j6.length c.j6 0 with
     |false=>rfl
     | true =>
      rw[aE j1];change none=EA p c (stsP p c);cases hl:EA p c (stsP p c)with
      |none=>rfl
      | some lv =>
       exfalso
       have fj:=hq;rw[LC _ _ hf]at fj
       ·cases fj
       intro i x hx h3;have hi:i<c.j6.length:=(aV.1 hx).1;have ha:∀q,An c q=((c.j6[q]?).getD ⟨0,0⟩):=fun _=>rfl
       have b6:∀q:Nat,(An c q).op=17\/(An c q).op=18->(q:Int)<(An c q).a:=fun q d5=>by
        rw[ha]at d5⊢;cases hc:c.j6[q]? with
        |none=>rw[hc]at d5;simp at d5
        |some y=>
         rw[hc]at d5;simp only[ba]at d5⊢;have:=(Fc _ _).1 hf q y hc;unfold kH at this;rw[aE j0,aE j0,aE j0,aE j0,aG d5]at this;simp only[aH]at this;omega
       unfold EA at hl;cases hL:DU p c (stsP p c) (fun _=>none)with
       |none=>rw[hL]at hl;cases hl
       | some W =>
        rw[hL]at hl;simp only at hl;split at hl
        ·rename_i eX;have:=aW.1 eX i (dF.2 hi);obtain⟨l,hW⟩:=Option.isSome_iff_exists.1 this;rcases((Gv _ _ _).1 hL).2.2 i l hW with h|⟨s,hs,w,hw,fu⟩
         ·cases h
         ·have ff:s.j7<=3:=by
           unfold stsP at hs;rcases bJ.1 hs with hs|hs
           ·rw[<-List.map_uncurry_zip_eq_zipWith]at hs;obtain⟨⟨m,n⟩,_,rfl⟩:=aZ.1 hs;exact(DY d7 m.gen.toNat).2
           ·rw[bC]at hs;rw[hs];simp
          have e:An c i=x:=by rw[ha,hx];rfl
          have:=VI b6 hw ff fu (by rw[e];exact h3);rw[e]at this;omega
        ·cases hl
   ·rw[d7,be h1,bk h2];rfl
  ·rw[d7,bk h1];rfl
 ·rw[bZ]at d7;rw[d7];rfl
def Dq {S:Type} (p:aw) (c:jD) (j7:Int) (next:Bool) (step:Nat->jO->S->Option S):Nat->Nat->Met->S->Option S
 |0,_,_,s=>some s
 | f+1,q,met,s=>match met q with
  |none=>Dq p c j7 next step f (q+1) met s
  | some l=>match Di p c j7 next q (An c q) l met with
   |none=>none
   |some m=>match step q l s with
    |none=>none
    |some s'=>Dq p c j7 next step f (q+1) m s'
def Bm{S:Type}(p:aw)(c:jD)(x:CSt)(step:Nat->jO->S->Option S)(s:S):Option S:=
 if x.pos<0\/(c.j6.length:Int)<=x.pos then none else Dq p c x.j7 x.next step (c.j6.length-x.pos.toNat) x.pos.toNat (kQ (fun _=>none) x.pos.toNat ⟨0,x.j7⟩) s
def Ea(k:Nat)(l:jO)(W:Met):Option Met:=if W k≠none/\W k≠some l then none else some (kQ W k l)
open Classical in
noncomputable def mrgF(q N:Nat)(W w:Met):Option Met:=
 if ∀k,q<=k->k<N->W k=none\/w k=none\/W k=w k then some (fun k=>if q<=k/\k<N then(match w k with|none=>W k|some x=>some x) else W k) else none
section
variable {p:aw}{c:jD}{j7:Int}{next:Bool}
theorem OO (hf : ∀ q:Nat,(An c q).op=17\/(An c q).op=18->(q:Int) < (An c q).a) : ∀ (f q:Nat) (met W:Met),Dq p c j7 next Ea f q met W=match E2 p c j7 next f q met with
  |none=>none
  |some w=>mrgF q (q+f) W w
 |0,q,met,W=>by
  rw[Dq,E2];simp only[mrgF];rw[aG (fun k h1 h2=>by omega)]
  congr 1;funext k;rw[aE j0]
 | f+1,q,met,W=>by
  rw[Dq,E2];have ih:=OO hf f (q+1);cases hq:met q with
  | none =>
   simp only;rw[ih];cases hs:E2 p c j7 next f (q+1) met with
   |none=>rfl
   | some w =>
    have hw:w q=none:=by rw[EF hf f (q+1) met w hs q j0,hq]
    rw[show q+1+f=q+(f+1) by omega];simp only[mrgF]
    have e:(∀k,q+1<=k->k<q+(f+1)->W k=none\/w k=none\/W k=w k) ↔ (∀k,q<=k->k<q+(f+1)->W k=none\/w k=none\/W k=w k):=
     ⟨fun h k h1 h2=>Decidable.byCases (fun e:k=q=>by subst e;exact .inr (.inl hw)) fun e=>h k j0 h2,fun h k h1 h2=>h k j0 h2⟩
    by_cases hc:∀k,q<=k->k<q+(f+1)->W k=none\/w k=none\/W k=w k
    ·rw[aG (e.2 hc),aG hc]
     congr 1;funext k
     by_cases hk:k=q
     ·subst hk;rw[aE j0,aG j0,hw]
     ·by_cases h:q<=k/\k<q+(f+1)
      ·rw[aG h,aG j0]
      ·rw[aE h,aE j0]
    ·rw[aE hc,aE (fun h=>hc (e.1 h))]
  | some l =>
   simp only;have hi:(c.j6[q]?).getD ⟨0,0⟩=An c q:=rfl;rw[hi];cases fi:Di p c j7 next q (An c q) l met with
   |none=>rfl
   | some m =>
    simp only
    have fk:m q=some l:=by
     rcases Jg fi (hf q) q with h|⟨h,_⟩
     ·rw[h,hq]
     ·omega
    cases hg:Ea q l W with
    | none =>
     simp only;cases hs:E2 p c j7 next f (q+1) m with
     |none=>rfl
     | some w =>
      have hw:w q=some l:=by rw[EF hf f (q+1) m w hs q j0,fk]
      unfold Ea at hg;split at hg
      ·rename_i hc;simp only[mrgF];rw[aE];intro h;rcases h q j0 j0 with h|h|h
       ·exact hc.1 h
       ·rw[hw]at h;cases h
       ·rw[hw]at h;exact hc.2 h
      ·cases hg
    | some V =>
     simp only;rw[ih];cases hs:E2 p c j7 next f (q+1) m with
     |none=>rfl
     | some w =>
      have hw:w q=some l:=by rw[EF hf f (q+1) m w hs q j0,fk]
      unfold Ea at hg;split at hg
      ·cases hg
      ·rename_i hc;cases hg
       have fB:W q=none\/W q=some l:=by
        cases h:W q with
        |none=>exact .inl rfl
        |some y=>right;exact bN fun h2=>hc ⟨by rw[h];simp,by rw[h];exact h2⟩
       rw[show q+1+f=q+(f+1) by omega];simp only[mrgF];have hu:∀k,k≠q->kQ W q l k=W k:=fun k hk=>by unfold kQ;rw[aE hk]
       have e:(∀k,q+1<=k->k<q+(f+1)->kQ W q l k=none\/w k=none\/kQ W q l k=w k) ↔ (∀k,q<=k->k<q+(f+1)->W k=none\/w k=none\/W k=w k):=
        ⟨fun h k h1 h2=>by
         by_cases e:k=q
         ·subst e;rw[hw];rcases fB with h|h
          ·exact .inl h
          ·exact .inr (.inr h)
         ·have:=h k j0 h2;rwa [hu k e]at this,fun h k h1 h2=>by rw[hu k j0];exact h k j0 h2⟩
       by_cases fa:∀k,q<=k->k<q+(f+1)->W k=none\/w k=none\/W k=w k
       ·rw[aG (e.2 fa),aG fa]
        congr 1;funext k
        by_cases hk:k=q
        ·subst hk;rw[aE j0,aG j0,hw];unfold kQ;rw[aG rfl]
        ·rw[hu k hk]
         by_cases h:q<=k/\k<q+(f+1)
         ·rw[aG h,aG j0]
         ·rw[aE h,aE j0]
       ·rw[aE fa,aE (fun h=>fa (e.1 h))]
theorem Gp{N:Nat}{met m:Met}{n:Int}{l:jO}(h:AQ N met n l=some m)(hm:∀j,N<=j->met j=none): ∀j,N<=j->m j=none:=fun j hj=>by
 rcases jz h j with e|⟨e,_⟩
 ·rw[e];exact hm j hj
 ·unfold AQ at h;split at h
  ·cases h
  ·rename_i hc;exfalso;omega
theorem step_hi {q:Nat} {x:jI} {l:jO} {met m:Met} (h:Di p c j7 next q x l met=some m) (hm : ∀ j,c.j6.length<=j->met j=none) : ∀ j,c.j6.length<=j->m j=none:=by
 unfold Di at h;split at h
 ·cases h
 ·split at h
  ·split at h
   ·cases h;exact hm
   ·cases h
  ·split at h
   ·exact Gp h hm
   ·split at h
    ·exact Gp h hm
    ·split at h
     ·exact Gp h hm
     ·split at h
      ·split at h
       ·cases h
       ·rename_i m1 h1;exact Gp h (Gp h1 hm)
      ·exact Gp h hm
theorem Oe: ∀(f q:Nat) (met m:Met),E2 p c j7 next f q met=some m->(∀j,c.j6.length<=j->met j=none)->∀j,c.j6.length<=j->m j=none
 |0,_,_,_,h,hm=>by cases h;exact hm
 | f+1,q,met,m,h,hm=>by
  rw[E2]at h;split at h
  ·exact Oe f _ _ _ h hm
  ·split at h
   ·cases h
   ·rename_i m1 h1;exact Oe f _ _ _ h (step_hi h1 hm)
theorem OQ(hf:∀q:Nat,(An c q).op=17\/(An c q).op=18->(q:Int)<(An c q).a)(x:CSt)(W:Met):Bm p c x Ea W=match wayM p c x with
  |none=>none
  |some w=>mrgM c.j6.length W w:=by
 unfold Bm wayM;split
 ·rfl
 ·rename_i hx;rw[OO hf];cases hs:E2 p c x.j7 x.next (c.j6.length-x.pos.toNat) x.pos.toNat (kQ (fun _=>none) x.pos.toNat ⟨0,x.j7⟩)with
  |none=>rfl
  | some w =>
   simp only;have fm:∀k,k<x.pos.toNat->w k=none:=fun k hk=>by rw[EF hf _ _ _ _ hs k hk];unfold kQ;rw[aE j0]
   have fy:∀k,c.j6.length<=k->w k=none:=Oe _ _ _ _ hs fun j hj=>by unfold kQ;rw[aE j0]
   rw[show x.pos.toNat+(c.j6.length-x.pos.toNat)=c.j6.length by omega];unfold mrgF mrgM
   have e:(∀k,x.pos.toNat<=k->k<c.j6.length->W k=none\/w k=none\/W k=w k) ↔ ((List.range c.j6.length).all (fun k=>W k=none||w k=none||W k=w k)=true):=by
    rw[aW];constructor
    ·intro h k hk;simp only[bR,aH]
     by_cases h1:x.pos.toNat<=k
     ·rcases h k h1 (by simpa using hk)with h|h|h
      ·exact .inl (.inl h)
      ·exact .inl (.inr h)
      ·exact .inr h
     ·exact .inl (.inr (fm k j0))
    ·intro h k _ h2;have:=h k (by simpa using h2);simp only[bR,aH]at this;rcases this with(h|h)|h
     ·exact .inl h
     ·exact .inr (.inl h)
     ·exact .inr (.inr h)
   by_cases hc:∀k,x.pos.toNat<=k->k<c.j6.length->W k=none\/w k=none\/W k=w k
   ·rw[aG hc,aG (e.1 hc)]
    congr 1;funext k
    split
    ·rfl
    ·have:w k=none:=by
      by_cases h:k<x.pos.toNat
      ·exact fm k h
      ·exact fy k j0
     rw[this]
   ·rw[aE hc,aE (fun h=>hc (e.2 h))]
end
abbrev kG:=List (Int×jO)
def jb(m:kG):Met:=fun j=>if hasM (j:Int) m then some (getM ⟨0,0⟩ (j:Int) m) else none
theorem SA:jb []=fun _=>none:=rfl
def DG(m:kG)(n:Nat)(l:jO):jb (jS (n:Int) l m)=kQ (jb m) n l:=by
 funext j
 unfold jb kQ;rw[Ft,DA]
 by_cases e:j=n
 ·subst e;simp
 ·have e':¬((j:Int)=n):=fun h=>e j0;simp[e,e']
def Gc(k:Nat)(l:jO)(W:kG):Option kG:=if hasM (k:Int) W=true/\getM ⟨0,0⟩ (k:Int) W≠l then none else some (jS (k:Int) l W)
def Ww(k:Nat)(l:jO)(W:kG):Ea k l (jb W)=(Gc k l W).map jb:=by
 unfold Ea Gc jb;cases h:hasM (k:Int) W with
 |false=>simp only[bm,bc,dw];rw[aE j1];show _=some (jb _);rw[DG];rfl
 |true=>
  simp only[bu,ep]
  by_cases e:getM ⟨0,0⟩ (k:Int) W=l
  ·rw[aE (fun h=>h.2 (by rw[e])),aE (fun h=>h e)];show _=some (jb _);rw[DG];rfl
  ·rw[aG ⟨j1,by simpa using e⟩,aG e];rfl
def J3{S T:Type}{p:aw}{c:jD}{j7:Int}{next:Bool}{f:S->T}{g:Nat->jO->S->Option S}{h:Nat->jO->T->Option T}(e:∀k l s,h k l (f s)=(g k l s).map f): ∀(n q:Nat) (met:Met) (s:S),Dq p c j7 next h n q met (f s)=(Dq p c j7 next g n q met s).map f
 |0,_,_,_=>rfl
 | n+1,q,met,s=>by
  rw[Dq,Dq];split
  ·exact J3 e n _ _ _
  ·split
   ·rfl
   ·rw[e];cases g q _ s with
    |none=>rfl
    |some s'=>exact J3 e n _ _ _
def Q6{S T:Type}{p:aw}{c:jD}{x:CSt}{f:S->T}{g:Nat->jO->S->Option S}{h:Nat->jO->T->Option T}(e:∀k l s,h k l (f s)=(g k l s).map f)(s:S):Bm p c x h (f s)=(Bm p c x g s).map f:=by
 unfold Bm;split
 ·rfl
 ·exact J3 e _ _ _ _
def allL(p:aw)(c:jD):List CSt->kG->Option kG
 |[],W=>some W
 |s::r,W=>match Bm p c s Gc W with
  |none=>none
  |some V=>allL p c r V
def Q1{p:aw}{c:jD}(hf:∀q:Nat,(An c q).op=17\/(An c q).op=18->(q:Int)<(An c q).a): ∀(l:List CSt) (W:kG),DU p c l (jb W)=(allL p c l W).map jb
 |[],_=>rfl
 | s::r,W=>by
  rw[DU,allL];have h:=OQ (p:=p) hf s (jb W);rw[Q6 (f:=jb) Ww]at h;cases hw:wayM p c s with
  |none=>
   rw[hw]at h;simp only at h;cases hl:Bm p c s Gc W with
   |none=>rfl
   |some V=>rw[hl]at h;cases h
  |some w=>
   rw[hw]at h;simp only at h⊢;rw[<-h];cases hl:Bm p c s Gc W with
   |none=>rfl
   |some V=>exact Q1 hf r V
def Hz(N:Nat)(W:kG):Prop:=(W.map (·.1)).Nodup /\ ∀x∈W,0<=x.1/\x.1<N
def HB(k:Int): ∀m:kG,hasM k m=true ↔ k∈m.map (·.1)
 |[]=>by simp[hasM]
 |x::m=>by rw[hasM,bd,aY,bR,aH,HB k m]
def Jm(k:Int)(l:jO): ∀m:kG,(jS k l m).map (·.1)=if hasM k m then m.map (·.1) else m.map (·.1)++[k]
 |[]=>by simp[jS,hasM]
 | x::m=>by
  rw[jS,hasM]
  by_cases e:k=x.1
  ·subst e;simp
  ·rw[aE e];have:decide (k=x.1)=false:=by simp[e]
   rw[this,cO,bd,Jm k l m];split<;>simp
def QB{N:Nat}{W:kG}(h:Hz N W){k:Nat}(hk:k<N)(l:jO):Hz N (jS (k:Int) l W):=by
 have hm:∀x:Int,x∈(jS (k:Int) l W).map (·.1)->0<=x/\x<N:=fun x hx=>by
  rw[Jm]at hx;split at hx
  ·obtain⟨y,hy,rfl⟩:=aZ.1 hx;exact h.2 y hy
  ·rcases bJ.1 hx with hx|hx
   ·obtain⟨y,hy,rfl⟩:=aZ.1 hx;exact h.2 y hy
   ·rw[bC]at hx;omega
 refine⟨?_,fun x hx=>hm x.1 (aZ.2 ⟨x,hx,rfl⟩)⟩;rw[Jm];split
 ·exact h.1
 ·rename_i hn;refine ex.2 ⟨h.1,j1,fun a ha b hb=>?_⟩;rw[bC]at hb;subst hb;intro e;subst e;exact hn ((HB _ _).2 ha)
def MD: ∀(N:Nat) (l:eP),l.Nodup->(∀x∈l,0<=x/\x<N)->l.length<=N/\(l.length=N ↔ ∀k:Nat,k<N->(k:Int)∈l)
 | 0,l,_,hl=>by
  have:l=[]:=by
   cases l with
   |nil=>rfl
   |cons x l=>have:=hl x j1;omega
  subst this;simp
 | N+1,l,hn,hl=>by
  have h1:=MD N (l.erase (N:Int)) (hn.erase _) fun x hx=>by
   have h2:=(hn.mem_erase_iff).1 hx;have:=hl x h2.2;have:=h2.1;omega
  have hm:∀k:Nat,k<N->((k:Int)∈l.erase (N:Int) ↔ (k:Int)∈l):=fun k hk=>by
   rw[hn.mem_erase_iff];exact⟨fun h=>h.2,fun h=>⟨j0,h⟩⟩
  by_cases hN:(N:Int)∈l
  ·have hlen:=List.length_erase_of_mem hN;have fv:0<l.length:=List.length_pos_of_mem hN;refine⟨j0,fun h k hk=>?_,fun h=>?_⟩
   ·by_cases e:k=N
    ·subst e;exact hN
    ·exact(hm k j0).1 (h1.2.1 j0 k j0)
   ·have:=h1.2.2 fun k hk=>(hm k hk).2 (h k j0);omega
  ·rw[List.erase_of_not_mem hN]at h1;exact⟨j0,fun h=>by omega,fun h=>absurd (h N j0) hN⟩
def Ru{N:Nat}{W:kG}(h:Hz N W):(W.length=N) ↔ (List.range N).all (fun k=>(jb W k).isSome)=true:=by
 have:=(MD N (W.map (·.1)) h.1 fun x hx=>by obtain⟨y,hy,rfl⟩:=aZ.1 hx;exact h.2 y hy).2;rw[aN]at this;rw[this,aW];constructor
 ·intro h k hk;unfold jb;rw[aG ((HB _ _).2 (h k (by simpa using hk)))];rfl
 ·intro h k hk;have:=h k (by simpa using hk);unfold jb at this;split at this
  ·rename_i h2;exact(HB _ _).1 h2
  ·cases this
def If{p:aw}{c:jD}{j7:Int}{next:Bool}: ∀(n q:Nat) (met:Met) (W V:kG),q+n<=c.j6.length->Hz c.j6.length W->Dq p c j7 next Gc n q met W=some V->Hz c.j6.length V
 |0,_,_,_,_,_,h,e=>by cases e;exact h
 | n+1,q,met,W,V,hq,h,e=>by
  rw[Dq]at e;split at e
  ·exact If n _ _ _ _ j0 h e
  ·split at e
   ·cases e
   ·split at e
    ·cases e
    ·rename_i s' hs;unfold Gc at hs;split at hs
     ·cases hs
     ·cases hs;exact If n _ _ _ _ j0 (QB h j0 _) e
def QA{p:aw}{c:jD}{x:CSt}{W V:kG}(h:Hz c.j6.length W)(e:Bm p c x Gc W=some V):Hz c.j6.length V:=by
 unfold Bm at e;split at e
 ·cases e
 ·exact If _ _ _ _ _ j0 h e
def L1{p:aw}{c:jD}: ∀(l:List CSt) (W V:kG),Hz c.j6.length W->allL p c l W=some V->Hz c.j6.length V
 |[],_,_,h,e=>by cases e;exact h
 | s::r,W,V,h,e=>by
  rw[allL]at e;split at e
  ·cases e
  ·rename_i V1 h1;exact L1 r _ _ (QA h h1) e
def J2(p:aw)(c:jD):Option kG:=match allL p c (stsQ p c) []with
 |none=>none
 |some W=>if W.length=c.j6.length then some W else none
def Q5{p:aw}{c:jD}(hf:∀q:Nat,(An c q).op=17\/(An c q).op=18->(q:Int)<(An c q).a):EA p c (stsQ p c)=(J2 p c).map fun W=>(List.range c.j6.length).map fun k:Nat=>getM ⟨0,0⟩ (k:Int) W:=by
 unfold EA J2;rw[<-SA,Q1 hf];cases h:allL p c (stsQ p c) []with
 |none=>rfl
 | some W =>
  have hk:=L1 _ _ _ ⟨j1,j1⟩ h;have hw:=Ru hk;show(if _ then _ else _)=_;simp only
  by_cases e:W.length=c.j6.length
  ·rw[aG e,aG (hw.1 e)];simp only[bx,bE];refine ca fun k fe=>?_;have:=aW.1 (hw.1 e) k fe;unfold jb at this⊢;split at this
   ·rename_i h2;rw[aG h2];rfl
   ·cases this
  ·rw[aE e,aE (fun h=>e (hw.2 h))];rfl
def Cp(p:aw)(c:jD):Option kG:=
 if okP p&&(decide (c.j6.length<=300)&&(decide (c.jG.length=p.j9.length)&&CO p c.j6.length c.j6 0)) then J2 p c else none
def Io{p:aw}{N:Nat}: ∀(l:List jI) (q:Nat),CO p N l q=true->∀(i:Nat) (x:jI),l[i]? = some x->kZ p N (q+i) x=true
 |[],_,_,_,_,h=>by simp at h
 |y::l,q,h,i,x,hx=>by
  rw[CO,aF]at h;cases i with
  |zero=>simp at hx;subst hx;exact h.1
  |succ i=>simp at hx;have:=Io l (q+1) h.2 i x hx;rwa [show q+1+i=q+(i+1) by omega]at this
def WA{p:aw}{c:jD}(h:CO p c.j6.length c.j6 0=true): ∀q:Nat,(An c q).op=17\/(An c q).op=18->(q:Int)<(An c q).a:=fun q ho=>by
 unfold An at ho⊢;cases hx:c.j6[q]? with
 |none=>rw[hx]at ho;simp at ho
 |some x=>
  rw[hx]at ho;have:=Io _ _ h q x hx;unfold kZ at this;simp only[ba]at ho⊢;rcases ho with e|e<;>rw[e]at this<;>simp at this<;>omega
def Qu(p:aw)(c:jD):LV p c=(Cp p c).map fun W=>(List.range c.j6.length).map fun k:Nat=>getM ⟨0,0⟩ (k:Int) W:=by
 unfold LV Cp;split
 ·rename_i h;simp only[aF,aH]at h;exact Q5 (WA h.2.2.2)
 ·rfl
def toC(p:aw)(x:jI)(l:jO):jO:=
 ⟨l.st-(Af p x).1+(Af p x).2,if x.op=14 then l.j7+1 else if x.op=15 then l.j7-1 else l.j7⟩
structure InsOK(p:aw)(N k:Nat)(x:jI)(l:jO)(m:Met)(j7:Int)(next:Bool):Prop where
 take:(Af p x).1<=l.st
 name:x.op=3->x.a<l.j7
 drop:x.op=15->j7<l.j7
 nexts:x.op=20->next=true
 fin:x.op=21->l.st=1/\l.j7=j7
 on:x.op≠21->x.op≠18->k+1<N/\m (k+1)=some (toC p x l)
 jump:x.op=17\/x.op=18->0<=x.a/\x.a<N/\m x.a.toNat=some (toC p x l)
def EV{N:Nat}{met m:Met}{n:Int}{l:jO}(h:AQ N met n l=some m):0<=n/\n<N/\m n.toNat=some l /\ ∀j x,met j=some x->m j=some x:=by
 unfold AQ at h;split at h
 ·cases h
 ·rename_i e;cases h;refine⟨j0,j0,by unfold kQ;rw[aG rfl],fun j x hx=>?_⟩;unfold kQ
  by_cases ej:j=n.toNat
  ·rw[aG ej];subst ej;rw[hx]at e
   by_cases el:x=l
   ·rw[el]
   ·exact absurd (.inr (.inr ⟨j1,by simpa using el⟩)) e
  ·rw[aE ej];exact hx
def InsOK.mono{p:aw}{N k:Nat}{x:jI}{l:jO}{m m':Met}{j7:Int}{next:Bool}(h:InsOK p N k x l m j7 next)(hm:∀j x,m j=some x->m' j=some x):InsOK p N k x l m' j7 next:=
 ⟨h.take,h.name,h.drop,h.nexts,h.fin,fun a b=>⟨(h.on a b).1,hm _ _ (h.on a b).2⟩,fun a=>⟨(h.jump a).1,(h.jump a).2.1,hm _ _ (h.jump a).2.2⟩⟩
section
variable {p:aw}{c:jD}{j7:Int}{next:Bool}
theorem RF {q:Nat} {x:jI} {l:jO} {met m:Met} (h:Di p c j7 next q x l met=some m):InsOK p c.j6.length q x l m j7 next /\ ∀ j x,met j=some x->m j=some x:=by
 unfold Di at h;split at h
 ·cases h
 ·rename_i e0;have t:(Af p x).1<=l.st:=by omega
  have nm:x.op=3->x.a<l.j7:=fun h3=>by omega
  have dr:x.op=15->j7<l.j7:=fun h3=>by omega
  have nx:x.op=20->next=true:=fun fC=>by
   cases next with
   |true=>rfl
   |false=>exact absurd (.inr (.inr (.inr ⟨fC,rfl⟩))) e0
  split at h
  ·rename_i d9;split at h
   ·rename_i e;cases h;exact⟨⟨t,nm,dr,nx,fun _=>e,fun a=>absurd d9 a,fun a=>by omega⟩,fun _ _ h=>h⟩
   ·cases h
  ·rename_i d9;split at h
   ·rename_i eV;obtain⟨r1,r2,r3,r4⟩:=EV h;rw[show((q:Int)+1).toNat=q+1 by omega]at r3;exact⟨⟨t,nm,dr,nx,fun a=>absurd a d9,fun _ _=>⟨j0,by unfold toC;rw[aG eV];exact r3⟩,fun a=>by omega⟩,r4⟩
   ·rename_i eV;split at h
    ·rename_i eU;obtain⟨r1,r2,r3,r4⟩:=EV h;rw[show((q:Int)+1).toNat=q+1 by omega]at r3;exact⟨⟨t,nm,dr,nx,fun a=>absurd a d9,fun _ _=>⟨j0,by unfold toC;rw[aE eV,aG eU];exact r3⟩,fun a=>by omega⟩,r4⟩
    ·rename_i eU;have eto:toC p x l=⟨l.st-(Af p x).1+(Af p x).2,l.j7⟩:=by unfold toC;rw[aE eV,aE eU]
     split at h
     ·rename_i eY;obtain⟨r1,r2,r3,r4⟩:=EV h;exact⟨⟨t,nm,dr,nx,fun a=>absurd a d9,fun _ a=>absurd eY a,fun _=>⟨r1,r2,by rw[eto];exact r3⟩⟩,r4⟩
     ·rename_i eY;split at h
      ·split at h
       ·cases h
       ·rename_i m1 e1;obtain⟨s1,s2,s3,s4⟩:=EV e1;obtain⟨r1,r2,r3,r4⟩:=EV h;rw[show((q:Int)+1).toNat=q+1 by omega]at r3;exact⟨⟨t,nm,dr,nx,fun a=>absurd a d9,fun _ _=>⟨j0,by rw[eto];exact r3⟩,fun _=>⟨s1,s2,by rw[eto];exact r4 _ _ s3⟩⟩,fun j x hx=>r4 j x (s4 j x hx)⟩
      ·rename_i fq;obtain⟨r1,r2,r3,r4⟩:=EV h;rw[show((q:Int)+1).toNat=q+1 by omega]at r3;exact⟨⟨t,nm,dr,nx,fun a=>absurd a d9,fun _ _=>⟨j0,by rw[eto];exact r3⟩,fun a=>absurd a j0⟩,r4⟩
theorem step_to {q:Nat} {x:jI} {l:jO} {met m:Met} (h:Di p c j7 next q x l met=some m) (j:Nat):m j=met j\/m j=some (toC p x l):=by
 unfold Di at h;split at h
 ·cases h
 ·split at h
  ·split at h
   ·cases h;exact .inl rfl
   ·cases h
  ·split at h
   ·rename_i eV;refine(jz h j).imp id fun e=>?_;unfold toC;rw[aG eV];exact e.2
   ·rename_i eV;split at h
    ·rename_i eU;refine(jz h j).imp id fun e=>?_;unfold toC;rw[aE eV,aG eU];exact e.2
    ·rename_i eU;have eto:toC p x l=⟨l.st-(Af p x).1+(Af p x).2,l.j7⟩:=by unfold toC;rw[aE eV,aE eU]
     rw[eto];split at h
     ·exact(jz h j).imp id fun e=>e.2
     ·split at h
      ·split at h
       ·cases h
       ·rename_i e0;rcases jz h j with e|e
        ·exact(jz e0 j).imp e.trans fun e2=>e.trans e2.2
        ·exact .inr e.2
      ·exact(jz h j).imp id fun e=>e.2
theorem Jj: ∀(f q:Nat) (met m:Met),E2 p c j7 next f q met=some m->∀j x,met j=some x->m j=some x
 |0,_,_,_,h,_,_,hx=>by cases h;exact hx
 | f+1,q,met,m,h,j,x,hx=>by
  rw[E2]at h;split at h
  ·exact Jj f _ _ _ h j x hx
  ·split at h
   ·cases h
   ·rename_i e;exact Jj f _ _ _ h j x ((RF e).2 j x hx)
theorem Rz(p:aw)(x:jI):0<=(Af p x).2:=by
 unfold Af;split;simp;split;simp;split;simp;split;simp;split;simp;split;simp;simp
theorem Od (hf : ∀ q:Nat,(An c q).op=17\/(An c q).op=18->(q:Int) < (An c q).a) : ∀ (f q:Nat) (met m:Met),E2 p c j7 next f q met=some m->(∀ j l,met j=some l->q<=j/\j < q+f/\0<=l.st/\j7<=l.j7\/InsOK p c.j6.length j (An c j) l met j7 next/\0<=l.st/\j7<=l.j7) ->
  q+f=c.j6.length->∀j l,m j=some l->InsOK p c.j6.length j (An c j) l m j7 next/\0<=l.st/\j7<=l.j7
 |0,q,met,m,h,hI,_,j,l,hl=>by
  cases h;rcases hI j l hl with h|h
  ·omega
  ·exact h
 | f+1,q,met,m,h,hI,hN,j,l,hl=>by
  rw[E2]at h;split at h
  ·rename_i hq;refine Od hf f _ _ _ h (fun i l' hi=>?_) j0 j l hl;rcases hI i l' hi with h'|h'
   ·by_cases e:i=q
    ·subst e;rw[hq]at hi;cases hi
    ·exact .inl j0
   ·exact .inr h'
  ·rename_i l0 hq;split at h
   ·cases h
   ·rename_i m0 e;obtain⟨o1,o2⟩:=RF e
    have h0:0<=l0.st/\j7<=l0.j7:=by
     rcases hI q l0 hq with h'|h'
     ·exact⟨h'.2.2.1,h'.2.2.2⟩
     ·exact h'.2
    refine Od hf f _ _ _ h (fun i l' hi=>?_) j0 j l hl
    by_cases eq:i=q
    ·subst eq;have:=o2 i l0 hq;rw[this]at hi;cases hi;exact .inr ⟨o1,h0⟩
    ·rcases Jg e (hf q) i with e2|⟨e2,_⟩
     ·rw[e2]at hi;rcases hI i l' hi with h'|h'
      ·exact .inl j0
      ·exact .inr ⟨h'.1.mono o2,h'.2⟩
     ·have fD:i<c.j6.length:=bN fun hn=>by
       have hd:=OV e (fun j hj=>by
        cases hm:met j with
        |none=>rfl
        | some y =>
         rcases hI j y hm with h'|h'
         ·omega
         ·exfalso
          have:c.j6[j]? = none:=aX j0
          have hz:An c j=⟨0,0⟩:=by unfold An;rw[this];rfl
          rw[hz]at h'
          have:=(h'.1.on j1 j1).1
          omega) i j0
       rw[hd]at hi;cases hi
      have g:m0 i=met i\/l'=toC p (An c q) l0:=(step_to e i).imp id fun e3=>by rw[hi]at e3;exact Option.some.inj e3
      rcases g with g|g
      ·rw[g]at hi;rcases hI i l' hi with h'|h'
       ·exact .inl j0
       ·exact .inr ⟨h'.1.mono o2,h'.2⟩
      ·refine .inl ⟨j0,j0,?_,?_⟩
       ·rw[g];unfold toC;simp only;have:(Af p (An c q)).1<=l0.st:=o1.take;have:=Rz p (An c q);omega
       ·rw[g];unfold toC;simp only;split
        ·omega
        ·split
         ·rename_i _ eU;have:=o1.drop eU;omega
         ·omega
end
def T3{p:aw}{c:jD}(h:Dn p c.j6.length c.j6 0=true)(q:Nat)(d5:(An c q).op=17\/(An c q).op=18):(q:Int)<(An c q).a:=by
 have ha:An c q=((c.j6[q]?).getD ⟨0,0⟩):=rfl;rw[ha]at d5⊢;cases hc:c.j6[q]? with
 |none=>rw[hc]at d5;simp at d5
 |some y=>
  rw[hc]at d5;simp only[ba]at d5⊢;have:=(Fc _ _).1 h q y hc;unfold kH at this;rw[aE j0,aE j0,aE j0,aE j0,aG d5]at this;simp only[aH]at this;omega
def way_ok{p:aw}{c:jD}(hf:∀q:Nat,(An c q).op=17\/(An c q).op=18->(q:Int)<(An c q).a){s:CSt}{w:Met}(h:wayM p c s=some w):
  0<=s.pos/\s.pos<c.j6.length/\w s.pos.toNat=some ⟨0,s.j7⟩ /\ ∀j l,w j=some l->InsOK p c.j6.length j (An c j) l w s.j7 s.next/\0<=l.st/\s.j7<=l.j7:=by
 unfold wayM at h;split at h
 ·cases h
 ·refine⟨j0,j0,Jj _ _ _ _ h _ _ (by unfold kQ;rw[aG rfl]),?_⟩;refine Od hf _ _ _ _ h (fun j l hl=>?_) j0;unfold kQ at hl;split at hl
  ·cases hl;exact .inl ⟨j0,j0,j1,j1⟩
  ·cases hl
structure LevOK(p:aw)(c:jD)(m:Met)(nx:Bool):Prop where
 dom:∀(k:Nat) (l:jO),m k=some l->k<c.j6.length
 ok:∀(k:Nat) (l:jO),m k=some l->∃(j7:Int) (next:Bool),InsOK p c.j6.length k (An c k) l m j7 next/\0<=l.st/\j7<=l.j7/\0<=j7/\(next=true->nx=true)
 fits:∀(k:Nat) (x:jI),c.j6[k]? = some x->kH p c.j6.length k x=true
def MT{p:aw}{c:jD}{l:List CSt}{lv:List jO}(h:EA p c l=some lv): ∃W,DU p c l (fun _=>none)=some W/\lv.length=c.j6.length /\ ∀k x,lv[k]? = some x ↔ W k=some x:=by
 unfold EA at h;cases hL:DU p c l (fun _=>none)with
 |none=>rw[hL]at h;cases h
 | some W =>
  rw[hL]at h;simp only at h;split at h
  ·rename_i eX;cases h;refine⟨W,rfl,by rw[aN,List.length_range],fun k x=>?_⟩
   by_cases hk:k<c.j6.length
   ·have:=aW.1 eX k (dF.2 hk);obtain⟨y,hy⟩:=Option.isSome_iff_exists.1 this;rw[bA,List.getElem?_range hk,hy];simp[hy]
   ·rw[aX (by rw[aN,List.length_range];omega)];constructor
    ·intro e;cases e
    ·intro e;rcases((Gv _ _ _).1 hL).2.2 k x e with h|⟨s,_,w,hw,eZ⟩
     ·cases h
     ·rw[O4 hw k j0]at eZ;cases eZ
  ·cases h
def G6{p:aw}{c:jD}{lv:List jO}(h:B6 p c=some lv):okP p=true/\lv.length=c.j6.length/\LevOK p c (fun j=>lv[j]?) true:=by
 unfold B6 at h;split at h
 ·rename_i hc;simp only[aF,aH]at hc;obtain⟨d7,h1,h2,h3⟩:=hc;have hf:=T3 h3;obtain⟨W,hW,hl,hx⟩:=MT h;have hI:=(Gv _ _ _).1 hW;refine⟨d7,hl,fun k l hk=>by rw[<-hl];exact(aV.1 hk).1,fun k l hk=>?_,fun k x hk=>by have:=(Fc _ _).1 h3 k x hk;rwa [co]at this⟩;rcases hI.2.2 k l ((hx k l).1 hk)with h|⟨s,hs,w,hw,eZ⟩
  ·cases h
  ·obtain⟨w1,fg,fb⟩:=hI.2.1 s hs;rw[hw]at fg;cases fg;obtain⟨i1,i2,i3⟩:=(way_ok hf hw).2.2.2 k l eZ;refine⟨s.j7,s.next,i1.mono fun j x hj=>(hx j x).2 (fb j x hj),i2,i3,?_,fun _=>rfl⟩;unfold stsP at hs;rcases bJ.1 hs with hs|hs
   ·rw[<-List.map_uncurry_zip_eq_zipWith]at hs;obtain⟨⟨m,n⟩,_,rfl⟩:=aZ.1 hs;exact(DY d7 m.gen.toNat).1
   ·rw[bC]at hs;rw[hs];exact dQ 0
 ·cases h
structure jH where
 kind:Int
 n:Int
 deriving DecidableEq
structure jF where
 jM:Int
 ac:List jH
 deriving DecidableEq
structure MEv where
 deed:Int
 n:Int
 vals:List jH
 deriving DecidableEq
structure GoS where
 j3:List jF
 jW:List MEv
 pos:Int
 jA:List jH
 j7:List jH
structure GoH where
 kind:Int
 val:jH
 gen:Int
 args:List jH
 fin:Int
 pos:Int
 jA:List jH
 j7:List jH
 j3:List jF
 jW:List MEv
structure jY where
 own:Int->Bool
 ac:Int->eP
 fresh:Int->List jH
def DS:jH:=⟨2,0⟩
def jZ(n:Int):jH:=⟨1,n⟩
def vObj(n:Int):jH:=⟨3,n⟩
def vZ:jH:=⟨0,0⟩
def Ah(v:jH):Int:=if v.kind=1 then v.n else 0
def Dc(b:Bool):Int:=if b then 1 else 0
def CY(n:Int):Int:=min (max n (-1000000000)) 1000000000
def Ec(op:Int)(v w:jH):jH:=
 if op=9 then jZ (CY (Ah v+Ah w)) else if op=10 then jZ (CY (Ah v-Ah w)) else if op=11 then jZ (CY (Ah v*Ah w)) else
 if op=12 then jZ (Dc (decide (Ah v<Ah w))) else jZ (Dc (decide (v=w)))
def okV(j3:Int)(v:jH):Bool:=if v.kind=1 then decide (-1000000000<=v.n/\v.n<=1000000000) else if v.kind=2 then decide (v.n=0) else if v.kind=3 then decide (0<=v.n/\v.n<j3) else false
def jg(j3:Int)(l:List jH):Bool:=l.all (okV j3)
def AI(w:jY)(l:List jF):Bool:=decide (l.length<=40)&&l.all fun o=>w.own o.jM&&(decide (o.ac.length=(w.ac o.jM).length)&&jg l.length o.ac)
def BG(l:List jF)(n:Int):jF:=(l[n.toNat]?).getD ⟨0,[]⟩
def Ap(w:jY)(j3:List jF)(v:jH)(s:Int):Int:=if v.kind=3 then jj s (w.ac (BG j3 v.n).jM) 0 else -1
def Bn(w:jY)(x:jF)(c:Int):jF:=
 ⟨c,List.zipWith (fun s v=>if 0<=jj s (w.ac x.jM) 0 then(x.ac[(jj s (w.ac x.jM) 0).toNat]?).getD vZ else v) (w.ac c) (w.fresh c)⟩
def EB(l:List jH):jH:=(l.getLast?).getD vZ
def setObj(l:List jF)(n:Int)(x:jF):List jF:=l.set n.toNat x
def Dv(s:GoS)(e:Int)(jA:List jH):GoH:=⟨4,vZ,0,[],e,0,[],[],s.j3,s.jW⟩
def FL(p:aw)(w:jY)(x:jI)(s:GoS):GoS ⊕ GoH:=
 let v:=EB s.jA
 let r:=s.jA.dropLast
 if x.op=1 then .inl { s with jA:=s.jA++[jZ x.a] }
 else if x.op=2 then .inl { s with jA:=s.jA++[DS] }
 else if x.op=3 then .inl { s with jA:=s.jA++[(s.j7[x.a.toNat]?).getD vZ] }
 else if x.op=4 then(if 40<=s.j3.length then .inr (Dv s 8 r) else .inl { s with j3:=s.j3++[⟨x.a,w.fresh x.a⟩],jA:=s.jA++[vObj s.j3.length] })
 else if x.op=5 then(if Ap w s.j3 v x.a<0 then .inr (Dv s 5 r) else .inl { s with jA:=r++[((BG s.j3 v.n).ac[(Ap w s.j3 v x.a).toNat]?).getD vZ] })
 else if x.op=6 then(if v.kind=3 then .inl { s with j3:=setObj s.j3 v.n (Bn w (BG s.j3 v.n) x.a),jA:=r++[v] } else .inr (Dv s 6 r))
 else if x.op=7 then .inl { s with jW:=s.jW++[⟨2,0,[v]⟩],jA:=r++[v] }
 else if x.op=8 then(if Ap w s.j3 (EB r) x.a<0 then .inr (Dv s 5 r) else
  .inl { s with j3:=setObj s.j3 (EB r).n ⟨(BG s.j3 (EB r).n).jM,(BG s.j3 (EB r).n).ac.set (Ap w s.j3 (EB r) x.a).toNat v⟩,jA:=r.dropLast++[v] })
 else if x.op=14 then .inl { s with j7:=s.j7++[v],jA:=r }
 else if x.op=15 then .inl { s with j7:=s.j7.dropLast }
 else if x.op=16 then .inl { s with jA:=r }
 else if x.op=17 then .inl { s with jA:=r,pos:=if Ah v=0 then x.a else s.pos }
 else if x.op=18 then .inl { s with pos:=x.a }
 else if x.op=19 then .inr ⟨2,vZ,x.a,s.jA.drop (s.jA.length-(p.ai.getD x.a.toNat 0).toNat),0,s.pos,s.jA.take (s.jA.length-(p.ai.getD x.a.toNat 0).toNat),s.j7,s.j3,s.jW⟩
 else if x.op=20 then .inr ⟨3,vZ,0,[],0,s.pos,s.jA,s.j7,s.j3,s.jW⟩
 else if x.op=21 then .inr ⟨1,v,0,[],0,0,[],[],s.j3,s.jW⟩
 else .inl { s with jA:=r.dropLast++[Ec x.op (EB r) v] }
def mRun(p:aw)(w:jY)(c:jD):Nat->GoS->GoH
 |0,s=>Dv s 0 []
 |f+1,s=>match FL p w (An c s.pos.toNat) { s with pos:=s.pos+1 } with
  |.inl t=>mRun p w c f t
  |.inr h=>h
def Bp{N:Int}{l:List jH}:jg N l=true ↔ ∀v∈l,okV N v=true:=by unfold jg;exact aW
def W8{M N:Int}{v:jH}(h:okV M v=true)(hN:M<=N):okV N v=true:=by
 unfold okV at h⊢;split
 ·rw[aG (by assumption)]at h;exact h
 ·rw[aE (by assumption)]at h;split
  ·rw[aG (by assumption)]at h;exact h
  ·rw[aE (by assumption)]at h;split
   ·rw[aG (by assumption)]at h;simp only[aH]at h⊢; omega
   ·rw[aE (by assumption)]at h;exact h
def G0{M N:Int}{l:List jH}(h:jg M l=true)(hN:M<=N):jg N l=true:=Bp.2 fun v hv=>W8 (Bp.1 h v hv) hN
def CV{N:Int}{l:List jH}{v:jH}(h:jg N l=true)(hv:okV N v=true):jg N (l++[v])=true:=Bp.2 fun x hx=>by
 rcases bJ.1 hx with hx|hx
 ·exact Bp.1 h x hx
 ·rw[bC]at hx;rw[hx];exact hv
def Cd{N:Int}{l:List jH}(h:jg N l=true):jg N l.dropLast=true:=Bp.2 fun x hx=>Bp.1 h x (List.dropLast_subset l hx)
def D1{N:Int}{l:List jH}(h:jg N l=true)(h1:1<=l.length):okV N (EB l)=true:=by
 unfold EB;rw[List.getLast?_eq_getElem?, aD j0];exact Bp.1 h _ (aK _)
def AE{w:jY}{l:List jF}:AI w l=true ↔ l.length<=40 /\ ∀o∈l,w.own o.jM=true/\o.ac.length=(w.ac o.jM).length/\jg l.length o.ac=true:=by
 unfold AI;simp only[aF,aH,aW]
def Dz{w:jY}{l:List jF}(h:AI w l=true){v:jH}(hv:okV l.length v=true)(h3:v.kind=3):(BG l v.n)∈l/\0<=v.n/\v.n<l.length:=by
 unfold okV at hv;rw[aE j0,aE j0,aG h3]at hv;simp only[aH]at hv;unfold BG;rw[aD j0];exact⟨aK _,hv⟩
def KQ{w:jY}{l:List jF}(h:AI w l=true){n:Int}{x:jF}(h1:w.own x.jM=true)(h2:x.ac.length=(w.ac x.jM).length)(h3:jg l.length x.ac=true):AI w (setObj l n x)=true:=by
 rw[AE]at h⊢;unfold setObj;rw[bP];refine⟨h.1,fun o ho=>?_⟩;rcases List.mem_or_eq_of_mem_set ho with ho|rfl
 ·exact h.2 o ho
 ·exact⟨h1,h2,h3⟩
def Fs{α}[DecidableEq α]{s:α}: ∀(l:List α) (k:Nat),0<=jj s l k->k<=jj s l k/\jj s l k<k+l.length
 |[],_,h=>by rw[jj]at h;omega
 | x::r,k,h=>by
  rw[jj]at h⊢;rw[aS];split
  ·omega
  ·rename_i e;rw[aE e]at h;have:=Fs r (k+1) h;omega
structure WldOK(p:aw)(w:jY):Prop where
 own:∀c:Int,3<=c->c<3+p.aa.length->w.own c=true
 len:∀c,w.own c=true->(w.fresh c).length=(w.ac c).length
 ok:∀c,w.own c=true->jg 0 (w.fresh c)=true
def turn_ok{p:aw}{w:jY}(hw:WldOK p w){N:Int}(hN:0<=N){x:jF}{c:Int}(hc:w.own c=true)(hx:w.own x.jM=true)(hl:x.ac.length=(w.ac x.jM).length)(hs:jg N x.ac=true):
  (Bn w x c).ac.length=(w.ac c).length/\jg N (Bn w x c).ac=true:=by
 have hlen:=hw.len c hc;unfold Bn;simp only;refine⟨by rw[List.length_zipWith,hlen,Nat.min_self],Bp.2 fun v hv=>?_⟩;rw[<-List.map_uncurry_zip_eq_zipWith]at hv;obtain⟨⟨a,b⟩,fp,rfl⟩:=aZ.1 hv;simp only[Function.uncurry];split
 ·rename_i h0;have:=Fs (s:=a) (w.ac x.jM) 0 (by exact_mod_cast h0);rw[aD j0];exact Bp.1 hs _ (aK _)
 ·exact Bp.1 (G0 (hw.ok c hc) hN) b (List.of_mem_zip fp).2
structure GInv(w:jY)(m:Met)(s:GoS):Prop where
 lo:0<=s.pos
 lev:∃l,m s.pos.toNat=some l/\(s.jA.length:Int)=l.st/\(s.j7.length:Int)=l.j7
 jA:jg s.j3.length s.jA=true
 j7:jg s.j3.length s.j7=true
 j3:AI w s.j3=true
structure HInv(p:aw)(w:jY)(m:Met)(nx:Bool)(at0:Int)(h:GoH):Prop where
 j3:AI w h.j3=true
 kind:h.kind=1\/h.kind=2\/h.kind=3\/h.kind=4
 goes:h.kind=3->nx=true
 val:h.kind=1->okV h.j3.length h.val=true
 asks:h.kind=2->0<=h.gen/\h.gen<p.ai.length/\(h.args.length:Int)=p.ai.getD h.gen.toNat 0/\jg h.j3.length h.args=true
 frame:h.kind=2\/h.kind=3->at0<h.pos/\(∃l,m h.pos.toNat=some l/\(h.jA.length:Int)+1=l.st/\(h.j7.length:Int)=l.j7)/\jg h.j3.length h.jA=true/\jg h.j3.length h.j7=true
def W9(N:Int)(op:Int)(v w:jH):okV N (Ec op v w)=true:=by
 have hc:∀n,okV N (jZ (CY n))=true:=fun n=>by
  unfold okV jZ CY;simp only[bu,aH];omega
 have ht:∀b,okV N (jZ (Dc b))=true:=fun b=>by
  unfold okV jZ Dc;cases b<;>simp
 unfold Ec;split
 ·exact hc _
 split
 ·exact hc _
 split
 ·exact hc _
 split
 ·exact ht _
 ·exact ht _
section
variable {p:aw}{w:jY}{c:jD}{m:Met}{nx:Bool}
theorem Du{N:Nat}{x:jI}{l:jO}{j7:Int}{next:Bool}{s t:GoS}(hI:InsOK p N s.pos.toNat x l m j7 next)(h0:0<=s.pos)(d9:x.op≠21)(eY:x.op≠18)
  (hp:t.pos=s.pos+1) (h1:(t.jA.length:Int)=(toC p x l).st) (h2:(t.j7.length:Int)=(toC p x l).j7) (h3:jg t.j3.length t.jA=true) (h4:jg t.j3.length t.j7=true) (h5:AI w t.j3=true):GInv w m t/\s.pos<t.pos:=by
 refine⟨⟨j0,⟨_,?_,h1,h2⟩,h3,h4,h5⟩,j0⟩;rw[hp,show(s.pos+1).toNat=s.pos.toNat+1 by omega];exact(hI.on d9 eY).2
theorem Gr(hg:∀n:Nat,0<=p.ai.getD n 0)(hw:WldOK p w)(hL:LevOK p c m nx){s:GoS}(hs:GInv w m s):match FL p w (An c s.pos.toNat) { s with pos:=s.pos+1 } with
  |.inl t=>GInv w m t/\s.pos<t.pos
  |.inr h=>HInv p w m nx s.pos h:=by
 obtain⟨h0,⟨l,hl,fi,b9⟩,d6,b8,b7⟩:=hs;obtain⟨j7,next,hI,g1,g2,g3,g4⟩:=hL.ok _ _ hl;have hk:s.pos.toNat<c.j6.length:=hL.dom _ _ hl;have hx:c.j6[s.pos.toNat]? = some (An c s.pos.toNat):=by unfold An;rw[aD hk];rfl
 have b6:=hL.fits _ _ hx;generalize An c s.pos.toNat=x at hI hx b6;have ht:=hI.take;have fA:s.jA.dropLast.length=s.jA.length-1:=List.length_dropLast;have d8:=Cd d6;have fo:=Cd d8;have fH:s.jA.dropLast.dropLast.length=s.jA.length-1-1:=by rw[List.length_dropLast,fA]
 have eW:1<=s.jA.length->okV s.j3.length (EB s.jA)=true:=D1 d6;have fw:2<=s.jA.length->okV s.j3.length (EB s.jA.dropLast)=true:=fun h=>D1 d8 j0;unfold kH at b6;unfold FL;simp only
 by_cases e1:x.op=1
 ·rw[aG e1]at b6;rw[aG e1];have u:Af p x=(0,1):=by unfold Af;rw[aG j0]
  refine Du hI h0 j0 j0 rfl ?_ ?_ (CV d6 ?_) b8 b7
  ·unfold toC;rw[u,aC];simp only[aT];omega
  ·unfold toC;rw[aE j0,aE j0];exact b9
  ·unfold inB at b6;unfold okV jZ;simp only[bu,aF,aH]at b6⊢;omega
 rw[aE e1]at b6;rw[aE e1]
 by_cases e2:x.op=2
 ·rw[aG e2];have u:Af p x=(0,1):=by unfold Af;rw[aG j0]
  refine Du hI h0 j0 j0 rfl ?_ ?_ (CV d6 ?_) b8 b7
  ·unfold toC;rw[u,aC];simp only[aT];omega
  ·unfold toC;rw[aE j0,aE j0];exact b9
  ·simp[okV,DS]
 rw[aE e2]
 by_cases e3:x.op=3
 ·rw[aG e3]at b6;rw[aG e3];have hn:=hI.name e3;simp only[aH]at b6;have u:Af p x=(0,1):=by unfold Af;rw[aG j0]
  refine Du hI h0 j0 j0 rfl ?_ ?_ (CV d6 ?_) b8 b7
  ·unfold toC;rw[u,aC];simp only[aT];omega
  ·unfold toC;rw[aE j0,aE j0];exact b9
  ·simp only;rw[aD j0];exact Bp.1 b8 _ (aK _)
 rw[aE e3]at b6;rw[aE e3]
 by_cases e4:x.op=4
 ·rw [aG j0] at b6;rw[aG e4];simp only[aH]at b6;have c9:=hw.own x.a b6.1 b6.2;have u:Af p x=(0,1):=by unfold Af;rw[aG j0]
  by_cases hn:40<=s.j3.length
  ·rw[aG hn];exact⟨b7,.inr (.inr (.inr rfl)),(nomatch ·),(nomatch ·),(nomatch ·),fun h=>by simp[Dv]at h⟩
  ·rw[aE hn];have fc:((s.j3.length:Nat):Int)<=((s.j3++[(⟨x.a,w.fresh x.a⟩:jF)]).length:Nat):=by rw[aC];simp only[aT];omega
   refine Du hI h0 j0 j0 rfl ?_ ?_ (CV (G0 d6 fc) ?_) (G0 b8 fc) ?_
   ·unfold toC;rw[u,aC];simp only[aT];omega
   ·unfold toC;rw[aE j0,aE j0];exact b9
   ·simp only[okV,vObj,aC,aT];simp;omega
   ·rw[AE]at b7⊢;refine⟨by rw[aC];simp only[aT];omega,fun o ho=>?_⟩;rcases bJ.1 ho with ho|ho
    ·exact⟨(b7.2 o ho).1,(b7.2 o ho).2.1,G0 (b7.2 o ho).2.2 fc⟩
    ·rw[bC]at ho;rw[ho];exact⟨c9,hw.len _ c9,G0 (hw.ok _ c9) j0⟩
 rw[aE e4]
 by_cases e5:x.op=5
 ·rw [aG e5];have u:Af p x=(1,1):=by unfold Af;rw[aE j0,aG j0]
  rw[u]at ht;simp only at ht
  by_cases hn:Ap w s.j3 (EB s.jA) x.a<0
  ·rw[aG hn];exact⟨b7,.inr (.inr (.inr rfl)),(nomatch ·),(nomatch ·),(nomatch ·),fun h=>by simp[Dv]at h⟩
  ·rw[aE hn];refine Du hI h0 j0 j0 rfl ?_ ?_ (CV d8 ?_) b8 b7
   ·unfold toC;rw[u,aC];simp only[aT];omega
   ·unfold toC;rw[aE j0,aE j0];exact b9
   ·unfold Ap at hn⊢;split at hn
    ·rename_i h3;rw[aG h3];obtain⟨o1,o2⟩:=Dz b7 (eW j0) h3;have:=Fs (s:=x.a) (w.ac (BG s.j3 (EB s.jA).n).jM) 0 j0;obtain⟨q1,q2,q3⟩:=(AE.1 b7).2 _ o1;rw[aD j0];exact Bp.1 q3 _ (aK _)
    ·omega
 rw[aE e5]
 by_cases e6:x.op=6
 ·rw[aG j0]at b6;rw[aG e6];simp only[aH]at b6;have c9:=hw.own x.a b6.1 b6.2;have u:Af p x=(1,1):=by unfold Af;rw[aE j0,aG j0]
  rw[u]at ht;simp only at ht
  by_cases h3:(EB s.jA).kind=3
  ·rw[aG h3];have hsz:(setObj s.j3 (EB s.jA).n (Bn w (BG s.j3 (EB s.jA).n) x.a)).length=s.j3.length:=bP;obtain⟨o1,o2⟩:=Dz b7 (eW j0) h3;obtain⟨q1,q2,q3⟩:=(AE.1 b7).2 _ o1;obtain⟨t1,t2⟩:=turn_ok hw (Int.natCast_nonneg s.j3.length) c9 q1 q2 q3;refine Du hI h0 j0 j0 rfl ?_ ?_ (CV ?_ ?_) ?_ (KQ b7 c9 t1 t2)
   ·unfold toC;rw[u,aC];simp only[aT];omega
   ·unfold toC;rw[aE j0,aE j0];exact b9
   ·simp only[hsz];exact d8
   ·simp only[hsz];exact eW j0
   ·simp only[hsz];exact b8
  ·rw[aE h3];exact⟨b7,.inr (.inr (.inr rfl)),(nomatch ·),(nomatch ·),(nomatch ·),fun h=>by simp[Dv]at h⟩
 rw[aE j0]at b6;rw[aE e6]
 by_cases e7:x.op=7
 ·rw[aG e7];have u:Af p x=(1,1):=by unfold Af;rw[aE j0,aG j0]
  rw[u]at ht;simp only at ht;refine Du hI h0 j0 j0 rfl ?_ ?_ (CV d8 (eW j0)) b8 b7
  ·unfold toC;rw[u,aC];simp only[aT];omega
  ·unfold toC;rw[aE j0,aE j0];exact b9
 rw[aE e7]
 by_cases e8:x.op=8
 ·rw [aG e8];have u:Af p x=(2,1):=by unfold Af;rw[aE j0,aE j0,aE j0,aE j0,aE j0,aE j0]
  rw[u]at ht;simp only at ht
  by_cases hn:Ap w s.j3 (EB s.jA.dropLast) x.a<0
  ·rw[aG hn];exact⟨b7,.inr (.inr (.inr rfl)),(nomatch ·),(nomatch ·),(nomatch ·),fun h=>by simp[Dv]at h⟩
  ·rw[aE hn];unfold Ap at hn;split at hn
   ·rename_i h3;obtain⟨o1,o2⟩:=Dz b7 (fw j0) h3;obtain⟨q1,q2,q3⟩:=(AE.1 b7).2 _ o1;refine Du hI h0 j0 j0 rfl ?_ ?_ (CV ?_ ?_) ?_ (KQ b7 q1 ?_ ?_)
    ·unfold toC;rw[u,aC];simp only[aT];omega
    ·unfold toC;rw[aE j0,aE j0];exact b9
    ·simp only[setObj,bP];exact fo
    ·simp only[setObj,bP];exact eW j0
    ·simp only[setObj,bP];exact b8
    ·rw[bP];exact q2
    ·refine Bp.2 fun v hv=>?_;rcases List.mem_or_eq_of_mem_set hv with hv|rfl
     ·exact Bp.1 q3 v hv
     ·exact eW j0
   ·omega
 rw[aE e8];rw[aE j0]at b6
 by_cases e14:x.op=14
 ·rw[aG e14];have u:Af p x=(1,0):=by unfold Af;rw[aE j0,aE j0,aG j0]
  rw[u]at ht;simp only at ht;refine Du hI h0 j0 j0 rfl ?_ ?_ d8 (CV b8 (eW j0)) b7
  ·unfold toC;rw[u];simp only;omega
  ·unfold toC;rw[aG e14,aC];simp only[aT];omega
 rw[aE e14]
 by_cases e15:x.op=15
 ·rw[aG e15];have fG:=hI.drop e15;have u:Af p x=(0,0):=by unfold Af;rw[aE j0,aE j0,aE j0,aE j0,aG j0]
  refine Du hI h0 j0 j0 rfl ?_ ?_ d6 (Cd b8) b7
  ·unfold toC;rw[u];simp only;omega
  ·unfold toC;rw[aE e14,aG e15];simp only[List.length_dropLast];omega
 rw[aE e15];have en0:(toC p x l).j7=l.j7:=by unfold toC;rw[aE e14,aE e15]
 by_cases e16:x.op=16
 ·rw[aG e16];have u:Af p x=(1,0):=by unfold Af;rw[aE j0,aE j0,aG j0]
  rw[u]at ht;simp only at ht;refine Du hI h0 j0 j0 rfl ?_ (by rw[en0];exact b9) d8 b8 b7;unfold toC;rw[u];simp only;omega
 rw[aE e16]
 by_cases e17:x.op=17
 ·rw[aG e17];rw[aG j0]at b6;simp only[aH]at b6;have u:Af p x=(1,0):=by unfold Af;rw[aE j0,aE j0,aG j0]
  rw[u]at ht;simp only at ht;have est:((s.jA.dropLast.length:Nat):Int)=(toC p x l).st:=by unfold toC;rw[u];simp only;omega
  by_cases hz:Ah (EB s.jA)=0
  ·simp only[aG hz];refine⟨⟨by simp only;omega,⟨_,(hI.jump (.inl e17)).2.2,est,by rw[en0];exact b9⟩,d8,b8,b7⟩,by first|omega|(simp only;omega)⟩
  ·simp only[aE hz];exact Du hI h0 j0 j0 rfl est (by rw[en0];exact b9) d8 b8 b7
 rw[aE e17]
 by_cases e18:x.op=18
 ·rw[aG e18];rw[aG j0]at b6;simp only[aH]at b6;have u:Af p x=(0,0):=by unfold Af;rw[aE j0,aE j0,aE j0,aE j0,aG j0]
  refine⟨⟨by simp only;omega,⟨_,(hI.jump (.inr e18)).2.2,?_,by rw[en0];exact b9⟩,d6,b8,b7⟩,by first|omega|(simp only;omega)⟩;unfold toC;rw[u];simp only;omega
 rw[aE e18];rw[aE j0]at b6
 by_cases e19:x.op=19
 ·rw[aG e19]at b6;rw[aG e19];simp only[aH]at b6;have u:Af p x=(p.ai.getD x.a.toNat 0,1):=by unfold Af;rw[aE j0,aE j0,aE j0,aG e19]
  rw[u]at ht;simp only at ht;have fe:=(hI.on j0 j0).2;have fh:toC p x l=⟨l.st-p.ai.getD x.a.toNat 0+1,l.j7⟩:=by unfold toC;rw[u,aE e14,aE e15]
  have fE:0<=p.ai.getD x.a.toNat 0:=hg _;refine⟨b7,.inr (.inl rfl),(nomatch ·),(nomatch ·),fun _=>⟨b6.1,b6.2,?_,?_⟩,fun _=>⟨by simp only;omega,⟨toC p x l,?_,?_,?_⟩,?_,b8⟩⟩
  ·show((s.jA.drop (s.jA.length-(p.ai.getD x.a.toNat 0).toNat)).length:Int)=p.ai.getD x.a.toNat 0;rw[cn];omega
  ·exact Bp.2 fun v hv=>Bp.1 d6 v (List.mem_of_mem_drop hv)
  ·simp only;rw[show(s.pos+1).toNat=s.pos.toNat+1 by omega];exact fe
  ·rw[fh];simp only[cF];omega
  ·rw[fh];exact b9
  ·exact Bp.2 fun v hv=>Bp.1 d6 v (List.mem_of_mem_take hv)
 rw[aE e19]at b6;rw[aE e19];simp only[aH]at b6
 by_cases e20:x.op=20
 ·rw[aG e20];have u:Af p x=(0,1):=by unfold Af;rw[aG j0]
  refine⟨b7,.inr (.inr (.inl rfl)),fun _=>g4 (hI.nexts e20),(nomatch ·),(nomatch ·),fun _=>⟨by simp only;omega,⟨_,?_,?_,by rw[en0];exact b9⟩,d6,b8⟩⟩
  ·simp only;rw[show(s.pos+1).toNat=s.pos.toNat+1 by omega];exact(hI.on j0 j0).2
  ·unfold toC;rw[u];simp only;omega
 rw[aE e20]
 by_cases e21:x.op=21
 ·rw[aG e21];have:=(hI.fin e21).1;exact⟨b7,.inl rfl,(nomatch ·),fun _=>eW j0,(nomatch ·),fun h=>by simp at h⟩
 rw[aE e21];have u:Af p x=(2,1):=by unfold Af;rw[aE j0,aE j0,aE j0,aE j0,aE j0,aE j0]
 rw[u]at ht;simp only at ht;refine Du hI h0 j0 j0 rfl ?_ (by rw[en0];exact b9) (CV fo (W9 _ _ _ _)) b8 b7;unfold toC;rw[u,aC];simp only[aT];omega
end
def HInv.mono{p:aw}{w:jY}{m:Met}{nx:Bool}{a b:Int}{h:GoH}(hh:HInv p w m nx b h)(fp:a<=b):HInv p w m nx a h:=
 ⟨hh.j3,hh.kind,hh.goes,hh.val,hh.asks,fun hk=>⟨by have:=(hh.frame hk).1;omega,(hh.frame hk).2⟩⟩
section
variable {p:aw}{w:jY}{c:jD}{m:Met}{nx:Bool}
theorem MG(hg:∀n:Nat,0<=p.ai.getD n 0)(hw:WldOK p w)(hL:LevOK p c m nx): ∀(f:Nat) (s:GoS),GInv w m s->c.j6.length<=s.pos.toNat+f->HInv p w m nx s.pos (mRun p w c f s)
 |0,s,hs,hf=>by
  obtain⟨l,hl,_⟩:=hs.lev;have:=hL.dom _ _ hl;omega
 | f+1,s,hs,hf=>by
  have hk:=Gr hg hw hL hs;rw[mRun];cases e:FL p w (An c s.pos.toNat) { s with pos:=s.pos+1 } with
  |inl t=>
   rw[e]at hk;have h0:=hs.lo;exact(MG hg hw hL f t hk.1 (by have:=hk.2;omega)).mono (by have:=hk.2;omega)
  |inr h=>rw[e]at hk;exact hk
theorem MH(hg:∀n:Nat,0<=p.ai.getD n 0)(hw:WldOK p w)(hL:LevOK p c m nx): ∀(f g:Nat) (s:GoS),GInv w m s->c.j6.length<=s.pos.toNat+f->c.j6.length<=s.pos.toNat+g->mRun p w c f s=mRun p w c g s
 |0,_,s,hs,hf,_=>by
  obtain⟨l,hl,_⟩:=hs.lev;have:=hL.dom _ _ hl;omega
 |_+1,0,s,hs,_,hf=>by
  obtain⟨l,hl,_⟩:=hs.lev;have:=hL.dom _ _ hl;omega
 | f+1,g+1,s,hs,hf,fF=>by
  have hk:=Gr hg hw hL hs;rw[mRun,mRun];cases e:FL p w (An c s.pos.toNat) { s with pos:=s.pos+1 } with
  |inl t=>
   rw[e]at hk;have h0:=hs.lo;exact MH hg hw hL f g t hk.1 (by have:=hk.2;omega) (by have:=hk.2;omega)
  |inr h=>rfl
end
def C5(lv:List jO)(N:Int)(pos:Int)(jA j7:List jH):Bool:=
 decide (0<=pos/\pos<lv.length/\(jA.length:Int)=((lv[pos.toNat]?).getD ⟨0,0⟩).st/\(j7.length:Int)=((lv[pos.toNat]?).getD ⟨0,0⟩).j7)&&(jg N jA&&jg N j7)
def goC(p:aw)(w:jY)(c:jD)(j3:List jF)(pos:Int)(jA j7:List jH):Option GoH:=match B6 p c with
 |none=>none
 |some lv=>if AI w j3&&C5 lv j3.length pos jA j7 then some (mRun p w c c.j6.length ⟨j3,[],pos,jA,j7⟩) else none
def JJ{w:jY}{lv:List jO}{j3:List jF}{jW:List MEv}{pos:Int}{jA j7:List jH}(ho:AI w j3=true):C5 lv j3.length pos jA j7=true ↔ GInv w (fun j=>lv[j]?) ⟨j3,jW,pos,jA,j7⟩:=by
 unfold C5;simp only[aF,aH];constructor
 ·rintro⟨⟨h1,h2,h3,h4⟩,h5,h6⟩
  have e:lv[pos.toNat]? = some (lv[pos.toNat]'(by omega)):=aD j0;rw[e]at h3 h4;exact⟨h1,⟨_,e,h3,h4⟩,h5,h6,ho⟩
 ·rintro⟨h1,⟨l,h2,h3,h4⟩,h5,h6,_⟩
  simp only at h1 h2 h3 h4 h5 h6;have:=(aV.1 h2).1;refine⟨⟨h1,j0,?_,?_⟩,h5,h6⟩
  ·rw[h2];exact h3
  ·rw[h2];exact h4
def GInv.sub{w:jY}{m m':Met}{s:GoS}(h:GInv w m s)(hm:∀j l,m j=some l->m' j=some l):GInv w m' s:=by
 obtain⟨h1,⟨l,h2,h3⟩,h4,h5,h6⟩:=h;exact⟨h1,⟨l,hm _ _ h2,h3⟩,h4,h5,h6⟩
end Go.DL
