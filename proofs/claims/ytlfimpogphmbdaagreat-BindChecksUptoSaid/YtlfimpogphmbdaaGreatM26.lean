/- Part of a proof in texts M01 on: a layer of pure values over the fenced walk, the walks of the functions, the plain laws. -/
import Derived.Test.YtlfimpogphmbdaaGreatM25
import Derived.Test.YtlfimpogphmbdaaGreatM20
import Derived.Test.YtlfimpogphmbdaaGreatM23
import Derived.Test.YtlfimpogphmbdaaGreatM24
import Derived.Test.YtlfimpogphmbdaaGreatM22
import Derived.Test.YtlfimpogphmbdaaGreatM15
set_option linter.all false
namespace Go.DL
open Go.Proofs.Tryz
open Go Go.Proofs
theorem Gt : ∀ (l:List Int) (n m:Int),Cu n l=some m->m=n+l.length /\ ∀ x ∈ l,n<=x/\x < m
 | [],n,m,h=>by rw [Cu] at h;cases h;simp
 | s::r,n,m,h=>by
  rw [Cu] at h
  split at h
  ·rename_i hs
   obtain ⟨h1,h2⟩:=Gt r _ _ h
   refine ⟨by rw [h1,List.length_cons];omega,fun x hx => ?_⟩
   rcases List.mem_cons.1 hx with rfl | hx
   ·omega
   ·have:=h2 x hx;omega
  ·cases h
theorem Em : ∀ (cs:List BClass) (n m:Int),B0 n cs=some m->m=n+wtL (fun c:BClass=>c.slots.length) cs/\(∀ c ∈ cs, ∀ x ∈ c.slots,n<=x/\x < m)/\wtL (fun c:BClass=>c.slots.length) cs<=4*cs.length
 | [],n,m,h=>by rw [B0] at h;cases h;simp [wtL]
 | c::r,n,m,h=>by
  rw [B0] at h
  split at h
  ·cases h
  ·rename_i h4
   split at h
   ·cases h
   ·rename_i m1 hm
    obtain ⟨h1,h2⟩:=Gt _ _ _ hm
    obtain ⟨h5,h6,h7⟩:=Em r _ _ h
    refine ⟨by rw [wtL];omega,fun x hx y hy => ?_,by rw [wtL,List.length_cons];omega⟩
    rcases List.mem_cons.1 hx with rfl | hx
    ·have:=h2 y hy;omega
    ·have:=h6 x hx y hy;omega
theorem DB : ∀ (cs:List BClass) (i:Nat),(ownersF cs i).length=wtL (fun c:BClass=>c.slots.length) cs
 | [],_=>by rw [ownersF,wtL];rfl
 | c::r,i=>by rw [ownersF,wtL,List.length_append,List.length_replicate,DB r]
theorem I0 (cs:List BClass) (Q:Int->Prop) (hQ : ∀ c ∈ cs, ∀ x ∈ c.slots,Q x) : ∀ (n:Nat) (up out:List Int),(∀ x ∈ out,Q x) -> ∀ x ∈ hasG cs n up out,Q x
 | 0,_,out,ho,x,hx=>by rw [hasG] at hx;exact ho x hx
 | n+1,up,out,ho,x,hx=>by
  rw [hasG] at hx
  split at hx
  ·rename_i c hc
   split at hx
   ·refine I0 cs Q hQ n _ _ (fun y hy => ?_) x hx
    rcases List.mem_append.1 hy with hy | hy
    ·exact ho y hy
    ·exact hQ c (List.mem_of_getElem? hc) y hy
   ·exact I0 cs Q hQ n _ _ ho x hx
  ·exact I0 cs Q hQ n _ _ ho x hx
theorem M7 (has:List Int) : ∀ (l:List Init) (seen:List Int),Cy has seen l=true -> ∀ x ∈ l,x.slot ∈ has
 | [],_,_,x,hx=>by simp at hx
 | y::r,seen,h,x,hx=>by
  rw [Cy] at h
  simp only [Bool.and_eq_true,decide_eq_true_eq] at h
  rcases List.mem_cons.1 hx with rfl | hx
  ·exact h.1.1.1
  ·exact M7 has r _ h.2 x hx
theorem HE (p:BProg) : ∀ (l:List BClass) (i:Nat),AH p i l=true -> ∀ c ∈ l, ∃ j:Int,Cy (hasP p j) [] c.inits=true
 | [],_,_,c,hc=>by simp at hc
 | y::r,i,h,c,hc=>by
  rw [AH] at h
  simp only [Bool.and_eq_true,decide_eq_true_eq] at h
  rcases List.mem_cons.1 hc with rfl | hc
  ·exact ⟨_,h.1.2⟩
  ·exact HE p r _ h.2 c hc
structure ClassesOK (p:BProg):Prop where
 len:p.classes.length<=10
 slots:0<=p.slots/\p.slots<=40
 own:((Aj p).owner.length:Int)=p.slots
 cls : ∀ c ∈ p.classes,ClsIx (3+p.classes.length) p.slots.toNat c
theorem Qh {p:BProg} (h:Ag p=true):ClassesOK p:=by
 unfold Ag at h
 simp only [Bool.and_eq_true,decide_eq_true_eq] at h
 obtain ⟨h10,h⟩:=h
 split at h
 ·cases h
 ·rename_i n hn
  simp only [Bool.and_eq_true,decide_eq_true_eq] at h
  obtain ⟨⟨hns,hg⟩,hi⟩:=h
  obtain ⟨k1,k2,k3⟩:=Em _ _ _ hn
  refine ⟨h10,by omega,by show ((ownersF p.classes 0).length:Int)=p.slots;rw [DB];omega,fun c hc=>⟨fun x hx => ?_,fun x hx => ?_,fun x hx => ?_⟩⟩
  ·obtain ⟨k,hk,rfl⟩:=List.getElem_of_mem hc
   have:=(AK hg (k+3)).2 x (by
    unfold parentsF
    rw [if_neg (by omega)]
    rw [show (((k+3:Nat):Int)-3).toNat=k by omega,List.getElem?_eq_getElem (by simpa using hk)]
    simpa using hx)
   exact ⟨by omega,by omega⟩
  ·have:=k2 c hc x hx
   exact ⟨by omega,by omega⟩
  ·obtain ⟨j,hj⟩:=HE p _ _ hi c hc
   have h1:=M7 _ _ _ hj x hx
   unfold hasP at h1
   unfold Eu at h1
   have h2:=I0 p.classes (fun x=>0<=x/\x < n) k2 _ _ [] (by simp) _ (List.mem_mergeSort.1 h1)
   exact ⟨by omega,by omega⟩
theorem mx_le (x y:Int):x<=mx x y/\y<=mx x y:=by unfold mx;split<;>omega
theorem JC : ∀ (l:List Fact) (n:Int),n<=Fact.speakss l n /\ ∀ x ∈ l,x.speaks<=Fact.speakss l n
 | [],n=>by rw [Fact.speakss];simp
 | f::l,n=>by
  rw [Fact.speakss]
  obtain ⟨h1,h2⟩:=JC l (mx n f.speaks)
  obtain ⟨h3,h4⟩:=mx_le n f.speaks
  refine ⟨by omega,fun x hx => ?_⟩
  rcases List.mem_cons.1 hx with rfl | hx
  ·omega
  ·exact h2 x hx
theorem Pb {α S:Type} (f:α->S->Bool × S) : ∀ (l:List α) (s s':S),allS f l s=(true,s') -> ∀ x ∈ l, ∃ t t',f x t=(true,t')
 | [],_,_,_,x,hx=>by simp at hx
 | y::r,s,s',h,x,hx=>by
  rw [allS] at h
  cases hy:f y s with
  | mk b s1 =>
   rw [hy] at h
   cases b with
   | false=>simp at h
   | true =>
    rcases List.mem_cons.1 hx with rfl | hx
    ·exact ⟨_,_,hy⟩
    ·exact Pb f r _ _ h x hx
theorem Ri {A S P:Nat} : ∀ (l:List Fact),(∀ x ∈ l,FIx A S P x)->FIxs A S P l
 | [],_=>by rw [FIxs];trivial
 | x::r,h=>by rw [FIxs];exact ⟨h x (by simp),Ri r fun y hy=>h y (by simp [hy])⟩
theorem Ol (w:World) (P:Nat) : ∀ (d:Nat) (f:Fact) (s s':Int),D1 w d f s=(true,s')->f.speaks<=P->FIx (3+w.parents.length) w.owner.length P f
 | 0,_,_,_,h,_=>by simp [D1] at h
 | d+1,f,s,s',h,hP=>by
  have hse:=Fact.speaks_eq f
  rw [hse] at hP
  obtain ⟨g1,g2⟩:=JC f.kids (if BF f.op then IntKind.i64.wrap (f.arg+1) else 0)
  rw [D1] at h
  split at h
  ·simp at h
  ·rename_i hop
   split at h
   ·rename_i hl
    rw [if_pos hl] at g1 g2 hP
    simp only [Prod.mk.injEq] at h
    have hlf:=h.1
    unfold Hn at hlf
    simp only [Bool.and_eq_true,decide_eq_true_eq] at hlf
    obtain ⟨⟨⟨a1,a2⟩,hpb⟩,hr⟩:=hlf
    unfold LX at hpb
    simp only [Bool.and_eq_true,List.all_eq_true,decide_eq_true_eq] at hpb
    have hk:f.kids=[]:=by
     have hk0:f.kids.length=Bd f.op:=Classical.byContradiction fun e=>hop (.inr (.inr (.inr e)))
     have:Bd f.op=0:=by
      unfold BF at hl
      simp only [Bool.or_eq_true,decide_eq_true_eq] at hl
      unfold Bd
      rw [if_neg (by omega),if_neg (by omega)]
     exact List.eq_nil_of_length_eq_zero (by omega)
    have hw:IntKind.i64.wrap (f.arg+1)=f.arg+1:=Am (by omega) (by omega)
    rw [hw] at g1 hP
    have hap:f.arg < (P:Int):=by omega
    have hr2:f.op=2->0<=f.cls/\f.cls < 3+w.parents.length:=fun ho=>by
     rw [if_pos ho] at hr
     simp only [Bool.and_eq_true,decide_eq_true_eq] at hr
     exact hr.2
    clear hr
    cases f with
    | mk o a pth c n k =>
     simp only [Fact.kids,Fact.op,Fact.arg,Fact.path,Fact.cls,Fact.n] at *
     rw [FIx]
     refine ⟨fun x hx => ?_,fun ho => ?_,fun _=>⟨a1,hap⟩,by rw [hk,FIxs];trivial⟩
     ·have:=hpb.2 x hx;exact ⟨this.1,this.2⟩
     ·have:=hr2 ho;exact ⟨this.1,by omega⟩
   ·rename_i hl
    split at h
    ·rename_i h0
     obtain ⟨b1,b2,b3,b4⟩:=h0
     have hkids : ∀ x ∈ f.kids,FIx (3+w.parents.length) w.owner.length P x:=fun x hx=>by
      obtain ⟨t,t',ht⟩:=Pb _ _ _ _ h x hx
      exact Ol w P d x t t' ht (by have:=g2 x hx;omega)
     cases f with
     | mk o a pth c n k =>
      simp only [Fact.kids,Fact.op,Fact.arg,Fact.path,Fact.cls,Fact.n] at *
      have hp0:pth=[]:=List.eq_nil_of_length_eq_zero b2
      unfold BF at hl
      simp only [Bool.or_eq_true,decide_eq_true_eq] at hl
      rw [FIx]
      exact ⟨fun x hx=>by rw [hp0] at hx;simp at hx,fun ho=>absurd (.inl (.inl ho)) hl,fun ho=>absurd (by omega) hl,Ri _ hkids⟩
    ·simp at h
theorem sp_ok {p:BProg} (hwt:p.wt<=100000000) (h:okP p=true):SpOK p:=by
 unfold okP BP at h
 split at h
 ·rename_i hc
  simp only [Bool.and_eq_true,decide_eq_true_eq,List.all_eq_true] at hc
  obtain ⟨⟨hcl,⟨⟨h8,h16⟩,hn1⟩,h120⟩,hg⟩:=hc
  have hC:=Qh hcl
  cases hm:CK p p.methods (List.replicate p.nodes.length (-1)) with
  | none=>rw [hm] at h;simp at h
  | some s =>
   rw [hm] at h
   obtain ⟨k1,k2,k3⟩:=GG p p.methods _ s hm (by simp) (fun g hx=>(hg g hx).1)
   rw [List.length_replicate] at k2
   cases hw:Bt p false 12 p.main 0 s with
   | mk b s2 =>
    simp only [hw] at h
    cases b with
    | false=>simp [optW] at h
    | true =>
     obtain ⟨m1,m2,m3⟩:=HQ p false 12 _ _ _ _ hw k2 (Int.le_refl _)
     have hns:negS s<=s.length:=List.countP_le_length
     have hmain:=Np p (spA p) (spS p) (spG p) (spL p) 12 p.main [] 0
     refine ⟨hwt,⟨hC.slots.1,by have:=hC.slots.2;omega⟩,hC.cls,fun m hmm => ?_,m1,by omega⟩
     obtain ⟨q1,q2,q3⟩:=k1 m hmm
     unfold E0 at q1
     simp only [Bool.and_eq_true,decide_eq_true_eq] at q1
     obtain ⟨⟨⟨_,hgen⟩,hform⟩,hsp⟩:=q1
     have hgb:1<=p.gens.getD m.gen.toNat 0/\p.gens.getD m.gen.toNat 0<=3:=by
      have hl:m.gen.toNat < p.gens.length:=by omega
      rw [List.getD_eq_getElem?_getD,List.getElem?_eq_getElem hl]
      exact hg _ (List.getElem_mem hl)
     have hpar:((CF p m:Nat):Int)=p.gens.getD m.gen.toNat 0:=by unfold CF;omega
     have hbody:=Np p (spA p) (spS p) (spG p) (spL p) 12 m.node ((spL p).take (CF p m)) (CF p m)
     refine ⟨⟨hgen.1,hgen.2⟩,⟨by omega,by omega⟩, ?_,q2,by omega⟩
     unfold CW at hform
     cases hf:D1 (Aj p) 12 m.fact 24 with
     | mk b t =>
      rw [hf] at hform
      cases b with
      | false=>simp at hform
      | true =>
       have:=Ol (Aj p) (CF p m) 12 m.fact 24 t hf (by omega)
       have ho:(Aj p).owner.length=p.slots.toNat:=by have:=hC.own;have:=hC.slots.1;omega
       rw [ho] at this
       have hpl:(Aj p).parents.length=p.classes.length:=by show (p.classes.map (·.parents)).length=_;rw [List.length_map]
       rw [hpl] at this
       exact this
 ·simp at h
theorem Hi : ∀ (l:List Int) (n m:Int),Cu n l=some m -> ∀ s,s ∈ l ↔ n<=s/\s < m
 | [],n,m,h,s=>by rw [Cu] at h;cases h;simp
 | x::r,n,m,h,s=>by
  rw [Cu] at h
  split at h
  ·rename_i hx
   have h1:=Hi r _ _ h s
   have h2:=(Gt r _ _ h).1
   rw [List.mem_cons,h1]
   omega
  ·cases h
theorem JN : ∀ (cs:List BClass) (i:Nat), ∀ x ∈ ownersF cs i,(i:Int)+3<=x
 | [],_,x,hx=>by simp [ownersF] at hx
 | c::r,i,x,hx=>by
  rw [ownersF] at hx
  rcases List.mem_append.1 hx with hx | hx
  ·have:=List.eq_of_mem_replicate hx;omega
  ·have:=JN r (i+1) x hx;omega
theorem Gx : ∀ (cs:List BClass) (i:Nat) (n m:Int),B0 n cs=some m -> ∀ (s:Int) (k:Nat) (h:k < cs.length),s ∈ (cs[k]).slots ↔ n<=s/\s < m/\((ownersF cs i)[(s-n).toNat]?).getD 0=(i:Int)+k+3
 | [],_,_,_,_,_,k,h=>by simp at h
 | c::r,i,n,m,hc,s,k,h=>by
  rw [B0] at hc
  split at hc
  ·cases hc
  ·split at hc
   ·cases hc
   ·rename_i m1 hm
    have h1:=Hi _ _ _ hm s
    have h2:=(Gt _ _ _ hm).1
    obtain ⟨h3,_,_⟩:=Em r _ _ hc
    have hlen:=DB r (i+1)
    rw [ownersF]
    have ho1:n<=s->s < m1->((List.replicate c.slots.length ((i:Int)+3)++ownersF r (i+1))[(s-n).toNat]?).getD 0=(i:Int)+3:=fun a b=>by
     rw [List.getElem?_append_left (by rw [List.length_replicate];omega),List.getElem?_replicate,if_pos (by omega)];rfl
    have ho2:m1<=s->((List.replicate c.slots.length ((i:Int)+3)++ownersF r (i+1))[(s-n).toNat]?).getD 0=((ownersF r (i+1))[(s-m1).toNat]?).getD 0:=fun a=>by
     rw [List.getElem?_append_right (by rw [List.length_replicate];omega),List.length_replicate,show (s-n).toNat-c.slots.length=(s-m1).toNat by omega]
    cases k with
    | zero =>
     simp only [List.getElem_cons_zero]
     rw [h1]
     constructor
     ·rintro ⟨a,b⟩;exact ⟨a,by omega,by rw [ho1 a b];simp⟩
     ·rintro ⟨a,b,d⟩
      refine ⟨a,Classical.byContradiction fun hn => ?_⟩
      rw [ho2 (by omega)] at d
      have hl:(s-m1).toNat < (ownersF r (i+1)).length:=by omega
      rw [List.getElem?_eq_getElem hl] at d
      have:=JN r (i+1) _ (List.getElem_mem hl)
      simp at d;omega
    | succ k =>
     simp only [List.getElem_cons_succ]
     rw [Gx r (i+1) m1 m hc s k (by simpa using h)]
     constructor
     ·rintro ⟨a,b,d⟩;exact ⟨by omega,b,by rw [ho2 a,d];omega⟩
     ·rintro ⟨a,b,d⟩
      by_cases hs:s < m1
      ·rw [ho1 a hs] at d;omega
      ·rw [ho2 (by omega)] at d;exact ⟨by omega,b,by rw [d];omega⟩
theorem R0 {x:Int} {l:List Int}:x ∈ Eu l ↔ x ∈ l:=by unfold Eu;exact List.mem_mergeSort
theorem Td (g:List (List Int)) (hg:AT g=true) (i:Nat) (bs:List Bool) (hl:bs.length=3+g.length) (hi:i < g.length):(upD g (i+1) bs).getD (i+3) false=bs.getD (i+3) false:=by
 have hp:=(AK hg (i+3)).2
 rw [upD,HS g hg i _ (i+3) (by omega) (by rw [Cs];exact hl) (by omega),F4 _ _ _ _ (fun x hx=>by have:=hp x hx;omega)]
 have:decide (((i+3:Nat):Int) ∈ parentsF g ((i+3:Nat):Int))=false:=by
  rw [decide_eq_false_iff_not];intro hx
  have:=hp _ hx;omega
 rw [this];simp
theorem L8 {p:BProg} {N:Int} (hg:AT (p.classes.map (·.parents))=true) (hc:B0 0 p.classes=some N) {i:Nat} (hi:i < p.classes.length) (s:Int):s ∈ hasP p ((i:Int)+3) ↔ (0<=s/\s < N)/\hasW (Aj p) ((i:Int)+3) s=true:=by
 have hgl:(p.classes.map (·.parents)).length=p.classes.length:=List.length_map _
 have hto:((i:Int)+3-2).toNat=i+1:=by omega
 have hto3:((i:Int)+3).toNat=i+3:=by omega
 have hbl:((List.replicate (3+p.classes.length) false).set (i+3) true).length=3+p.classes.length:=by rw [List.length_set,List.length_replicate]
 have hb : ∀ k:Nat,((List.replicate (3+p.classes.length) false).set (i+3) true).getD k false=decide (i+3=k):=fun k=>by
  rw [FH]
  by_cases h:i+3=k
  ·rw [if_pos ⟨h,by rw [List.length_replicate];omega⟩,decide_eq_true h]
  ·rw [if_neg (fun hh=>h hh.1),decide_eq_false h,List.getD_eq_getElem?_getD,List.getElem?_replicate]
   split<;>rfl
 unfold hasP
 rw [R0,hto,L9 hg (i+1) [(i:Int)+3] [] _ (by omega) hbl (fun k _ _=>by
  rw [hb];simp only [List.mem_singleton,decide_eq_true_eq];omega)]
 have hup:upF (Aj p).parents ((i:Int)+3)=upD (p.classes.map (·.parents)) (i+1) ((List.replicate (3+p.classes.length) false).set (i+3) true):=by
  unfold upF Aj
  simp only [hgl,hto3]
  rfl
 obtain ⟨hN,_,_⟩:=Em _ _ _ hc
 have hol:=DB p.classes 0
 have how:=fun k (h:k < p.classes.length)=>Gx p.classes 0 0 N hc s k h
 simp only [Int.sub_zero] at how
 have hself:=Td _ hg i _ (by rw [hbl,hgl]) (by rw [hgl];exact hi)
 rw [hb] at hself
 have hhi : ∀ k:Nat,i < k->(upD (p.classes.map (·.parents)) (i+1) ((List.replicate (3+p.classes.length) false).set (i+3) true)).getD (k+3) false=false:=fun k hk=>by
  rw [HS _ hg (i+1) _ (k+3) (by omega) (by rw [hbl,hgl]) (by rw [hgl];omega),hb]
  exact decide_eq_false (by omega)
 unfold hasW H2
 rw [hup]
 simp only [List.not_mem_nil,false_or,Bool.and_eq_true,Bool.or_eq_true,decide_eq_true_eq]
 have hwo:(Aj p).owner=ownersF p.classes 0:=rfl
 rw [hwo]
 constructor
 ·rintro ⟨k,hk,h1,h2,h3⟩
  obtain ⟨a,b,d⟩:=(how k hk).1 h3
  refine ⟨⟨a,b⟩,by omega, .inr ⟨by omega, ?_⟩⟩
  rw [d,show (((0:Nat):Int)+k+3).toNat=k+3 by omega]
  exact h2
 ·rintro ⟨⟨a,b⟩, -, h⟩
  have hsl:s.toNat < (ownersF p.classes 0).length:=by omega
  have hom:=DA (List.getElem_mem hsl)
  rw [List.getElem?_eq_getElem hsl] at h how
  simp only [Option.getD_some] at h how
  obtain ⟨o1,o2⟩:=hom
  generalize (ownersF p.classes 0)[s.toNat]=o at *
  have hok:o=((o-3).toNat:Int)+3:=by omega
  have hkl:(o-3).toNat < p.classes.length:=by omega
  refine ⟨(o-3).toNat,hkl, ?_⟩
  have hsm:=(how _ hkl).2 ⟨a,b,by omega⟩
  have hoT:o.toNat=(o-3).toNat+3:=by omega
  rcases h with (h | h) | ⟨-, h⟩
  ·have hk:(o-3).toNat=i:=by omega
   exact ⟨by omega,by rw [hk,hself];simp,hsm⟩
  ·omega
  ·rw [hoT] at h
   refine ⟨Nat.lt_of_not_le fun hh => ?_,h,hsm⟩
   rw [hhi _ (by omega)] at h
   cases h
theorem Oz {w:World} {N c:Int} {has:List Int} (hh : ∀ s,s ∈ has ↔ (0<=s/\s < N)/\hasW w c s=true) : ∀ (l:List Init) (seen:List Init),Cy has (seen.map (·.slot)) l=Fk w N c seen l
 | [],_=>rfl
 | x::r,seen=>by
  rw [Cy,Fk, <- Oz hh r (seen++[x]),List.map_append,List.map_singleton]
  have h1:decide (x.slot ∈ has)=(decide (0<=x.slot/\x.slot < N) && hasW w c x.slot):=by
   rw [Bool.eq_iff_iff,decide_eq_true_eq,Bool.and_eq_true,decide_eq_true_eq,hh]
  have h2:(!decide (x.slot ∈ seen.map (·.slot)))=seen.all fun y => !decide (y.slot=x.slot):=by
   rw [Bool.eq_iff_iff,List.all_eq_true]
   simp only [Bool.not_eq_true',decide_eq_false_iff_not,List.mem_map,not_exists,not_and]
  rw [h1,h2]
  unfold ER
  generalize (decide (0<=x.slot/\x.slot < N) && hasW w c x.slot)=a
  generalize (seen.all fun y => !decide (y.slot=x.slot))=b
  cases a<;>cases b<;>cases inB x.n<;>rfl
theorem IL {p:BProg} {N:Int} (hg:AT (p.classes.map (·.parents))=true) (hc:B0 0 p.classes=some N) : ∀ (l:List BClass) (i:Nat),i+l.length=p.classes.length->AH p i l=Dk (Aj p) N i l
 | [],_,_=>rfl
 | c::r,i,hl=>by
  rw [List.length_cons] at hl
  rw [AH,Dk,IL hg hc r (i+1) (by omega)]
  have h1:=Ov hg (c:=(i:Int)+3) ⟨by omega,by rw [List.length_map];omega⟩
  have h2:=Oz (L8 hg hc (i:=i) (by omega)) c.inits []
  rw [List.map_nil] at h2
  rw [h1,h2]
  rfl
theorem Qi (p:BProg):Ag p=AB p:=by
 unfold Ag AB
 cases hg:AT (p.classes.map (·.parents)) with
 | true =>
  have h3 : ∀ c ∈ p.classes,c.parents.length<=3:=fun c hc=>by
   obtain ⟨k,hk,rfl⟩:=List.getElem_of_mem hc
   exact (OA hg hk).1
  rw [P5 p.classes 0 h3]
  cases hc:B0 0 p.classes with
  | none=>rfl
  | some n=>simp only [IL hg hc p.classes 0 (by omega)]
 | false =>
  congr 1
  cases B0 0 p.classes<;>cases ES 0 p.classes<;>simp
theorem HY (p:BProg):BP p=CU p:=TB p (Qi p)
end Go.DL
namespace Go.DL
open Go.Proofs.Tryz
open Go Go.Proofs
set_option maxHeartbeats 8000000
def HX (m:FMeth):Bool:=(decide (1<=m.kind) && decide (m.kind<=4)) && (Cj m.name && (decide (1<=m.params.length) && decide (m.params.length<=3)))
def M1 (names slots:List Str) (m:FMeth) (n:Int):Option Int :=
 if HX m && sloE [] m.params then match CV names slots m.params m.fact n with
  | none=>none
  | some k=>C0 names slots m.params (decide (m.kind=1\/m.kind=4)) m.body k
 else none
def Ef (names slots:List Str):List FMeth->Int->Option Int
 | [],n=>some n
 | m::r,n=>match M1 names slots m n with
  | none=>none
  | some k=>Ef names slots r k
def BE (f:FProg):Option Int :=
 if clsB f && decide (f.methods.length<=16) then match C0 (f.classes.map (·.name)) (f.classes.flatMap (·.slots)) [] false f.main f.classes.length with
  | none=>none
  | some n=>match Ef (f.classes.map (·.name)) (f.classes.flatMap (·.slots)) f.methods n with
   | none=>none
   | some k=>if (EW f).2 && decide ((EW f).1.length<=8) then some k else none
 else none
def CntR (f:FProg) (ip ic is:Nat) (σ:Sig) (x:DE) (σ':Sig):Prop :=
 x=(match BE f with | some _ => .ret (.tup []) | none => .panic unf2)/\(∃ d n,σ' ip=some (pObj f ic is d n))/\Keep (fun j=>j=ip\/j=ic\/j=is) σ σ'
theorem GJ {names slots args:List Str} {lits:Bool} {e:FExp} {n m:Int} (h:C0 names slots args lits e n=some m) (hn:0<=n):0<=m/\m<=120:=by
 unfold C0 at h
 split at h
 ·cases h
 ·rename_i k hk
  split at h
  ·rename_i h2
   have:=Ou (by omega) hk
   cases h;omega
  ·cases h
theorem Pt {names slots args:List Str} {e:FFact} {n m:Int} (h:CV names slots args e n=some m) (hn:0<=n):0<=m/\m<=120:=by
 unfold CV at h
 split at h
 ·cases h
 ·rename_i k hk
  split at h
  ·rename_i h2
   have:=M4 (by omega) hk
   cases h;omega
  ·cases h
theorem Md : ∀ (l:List FExp) (s:GenT),(ED l s).1.length<=s.1.length+wtL FExp.wt l
 | [],s=>by rw [ED];omega
 | x::r,s=>by
  have h1:=OC x s
  have h2:=Md r (genE x s)
  rw [ED,wtL];omega
theorem Ot : ∀ (l:List FMeth) (s:GenT),(metG l s).1.length<=s.1.length+l.length
 | [],s=>by rw [metG];omega
 | m::r,s=>by
  have h1:=KP m.name m.params.length s
  have h2:=Ot r (seeG m.name m.params.length s)
  rw [metG,List.length_cons];omega
theorem Mc (f:FProg):(EW f).1.length<=f.wt:=by
 have h1:=N2 f
 have h2:=Md (Db f) (metG f.methods ([],true))
 have h3:=Ot f.methods ([],true)
 unfold EW
 simp only [List.length_nil] at h3
 omega
theorem PW (f:FProg) (ip ic is:Nat) (σ:Sig) (hw:f.wt<=100000000) (h0:PS f ip ic is σ σ [] [] [] .nils 0) (hcs:ic ≠ is) :
  DCall prog 184 [.cptr [.ptr ip 0] 0, .cptr (Da f) 0] σ (CntR f ip ic is σ):=by
 obtain ⟨p1,p2,p3,p4,p5⟩:=f.wt_le
 have hip:=h0.prg
 have hpan:BE f=none -> ∀ σ',(∃ d n,σ' ip=some (pObj f ic is d n))->Keep (fun j=>j=ip\/j=ic\/j=is) σ σ'->CntR f ip ic is σ (.panic unf2) σ':=fun h σ' h1 h2=>by
  unfold CntR;rw [h];exact ⟨rfl,h1,h2⟩
 have hcl:f.classes.length<=100000000:=by omega
 refine en func184 ntmps184 ?_
 cases hC:clsB f with
 | false =>
  have hN:BE f=none:=by unfold BE;rw [hC];rfl
  try refine gz ?_ o184
  refine Ab (Kk f ip ic is σ (by omega) h0 hcs) (fun x σ' hr => ?_) (fun x σ' hr => ?_)
  ·unfold ClsR at hr;rw [hC,if_neg (by simp)] at hr;cases hr.1
  ·unfold ClsR at hr;rw [hC,if_neg (by simp)] at hr
   obtain ⟨e1,names,slots,hs,d,n,hP⟩:=hr
   cases e1
   exact finP (σ':=σ') (hpan hN σ' ⟨d,n,hP.prg⟩ hP.keep)
 | true =>
  try refine gz ?_ o184
  refine Ab (Kk f ip ic is σ (by omega) h0 hcs) (fun x σ1 hr => ?_) (fun x σ1 hr => ?_)
  ·unfold ClsR at hr;rw [hC,if_pos rfl] at hr
   obtain ⟨e1,hs,d,hP⟩:=hr
   cases e1
   obtain ⟨q1,q2,q3,_,q5⟩:=hP
   have hpi:ip ≠ ic:=AC q1 q2 (by simp)
   have hps:ip ≠ is:=AC q1 q3 (by simp)
   have hkp : ∀ σ',Keep (· = ip) σ1 σ'->Keep (fun j=>j=ip\/j=ic\/j=is) σ σ':=fun σ' h j o h1 h2=>h j o (q5 j o h1 h2) fun e=>h2 (.inl e)
   have hset : ∀ (x:DObj),Keep (· = ip) σ1 (σ1.set ip x):=fun x j o h1 h2=>by rw [w8 _ _ h2];exact h1
   have hSh:BE f=if f.methods.length<=16 then match C0 (f.classes.map (·.name)) (f.classes.flatMap (·.slots)) [] false f.main f.classes.length with
     | none=>none
     | some n=>match Ef (f.classes.map (·.name)) (f.classes.flatMap (·.slots)) f.methods n with
      | none=>none
      | some k=>if (EW f).2 && decide ((EW f).1.length<=8) then some k else none
    else none:=by unfold BE;rw [hC];simp
   have hcn:f.classes.length<=10:=by unfold clsB at hC;simp only [Bool.and_eq_true,decide_eq_true_eq] at hC;exact hC.1
   generalize hnm:f.classes.map (·.name)=names at *
   generalize hsl:f.classes.flatMap (·.slots)=slots at *
   by_cases h16:f.methods.length<=16
   ·rw [if_pos h16] at hSh
    have h187:=Kj f ip ic is d f.classes.length names slots f.main [] false σ1 (by omega) (by simp) ⟨by omega,by omega⟩ q1 q2 q3
    repeat' first | refine gf q1 ?_ o184 | apply gy<;>intro hh
    cases hk:C0 names slots [] false f.main f.classes.length with
    | none =>
     rw [hk] at hSh h187
     refine callWP h187 (fun x σ2 hr=>by cases hr.1) (fun x σ2 hr => ?_)
     obtain ⟨e1,m,rfl⟩:=hr
     cases e1
     exact finP (σ':=_) (hpan hSh _ ⟨d,m,w7 ..⟩ (hkp _ (hset _)))
    | some n1 =>
     rw [hk] at hSh h187
     have hn1:=GJ hk (by omega)
     refine callWP h187 (fun x σ2 hr => ?_) (fun x σ2 hr=>by cases hr.1)
     obtain ⟨e1,rfl⟩:=hr
     cases e1
     have r1:(σ1.set ip (pObj f ic is d n1)) ip=some (pObj f ic is d n1):=w7 ..
     try refine gf r1 ?_ o184
     refine EV [0,1,7,8,9,31,32,96,97,98,99,100,101,102,103,104,105,106,107,108] (fun (k:Nat) (m:Int) (σ2:Sig)=>k<=f.methods.length/\0<=m/\m<=120/\Ef names slots f.methods n1=Ef names slots (f.methods.drop k) m/\σ2 ip=some (pObj f ic is d m)/\Keep (· = ip) σ1 σ2) (fun k _ _=>[(33,dI k)]) (fun _ _ σ2=>σ2) (fun k _ _=>f.methods.length-k) (0) (n1) (_) (by exact ⟨by omega,hn1.1,hn1.2,rfl,r1,hset _⟩) (fun k m σ2 hI => ?_)
     obtain ⟨hk,hm0,hm1,hR,o1,hK⟩:=hI
     have o2:σ2 ic=some (.map (eSN (Bx names 0))):=hK _ _ q2 (Ne.symm hpi)
     have o3:σ2 is=some (.map (eSS slots)):=hK _ _ q3 (Ne.symm hps)
     by_cases hkl:k < f.methods.length
     ·rw [A2 hkl,Ef] at hR
      have hwm:=p5 k hkl
      have hwb:f.methods[k].body.wt<=100000000/\f.methods[k].fact.wt<=100000000/\f.methods[k].params.length<=100000000/\wtS f.methods[k].params<=100000000/\f.methods[k].name.length<=100000000:=by have:=hwm;unfold FMeth.wt at this;have:=CL f.methods[k].params;omega
      generalize hmm:f.methods[k]=mt at *
      obtain ⟨v1,v2,v3,v4,v5⟩:=hwb
      cases hhd:HX mt with
      | false =>
       have hN:BE f=none:=by rw [hSh];simp only [hR,M1,hhd,Bool.false_and,Bool.false_eq_true,if_false]
       unfold HX at hhd
       repeat' first | (exact finP (σ':=σ2) (hpan hN _ ⟨d,m,o1⟩ (hkp _ hK))) | refine gf hmm ?_ o184 | apply gy<;>intro hh
       exfalso
       rw [Bool.eq_false_iff] at hhd
       apply hhd
       simp only [Bool.and_eq_true,decide_eq_true_eq]
       exact ⟨⟨by omega,by omega⟩,by assumption,by omega,by omega⟩
      | true =>
       have hhd':=hhd
       unfold HX at hhd
       simp only [Bool.and_eq_true,decide_eq_true_eq] at hhd
       obtain ⟨⟨g1,g2⟩,g3,g4,g5⟩:=hhd
       try refine gf (gi hmm g3) ?_ o184
       refine KU (fun im him => ?_)
       have ne1:ip ≠ im:=A3 o1 him
       have ne2:ic ≠ im:=A3 o2 him
       have ne3:is ≠ im:=A3 o3 him
       have hkm : ∀ σ',(∀ j x,j ≠ im->σ2 j=some x->σ' j=some x)->Keep (· = ip) σ1 σ':=fun σ' h j x h1 h2=>by
        have h3:=hK j x h1 h2
        exact h j x (A3 h3 him) h3
       try refine gz ?_ o184
       refine Bh [0,1,3,4,7,8,9,31,32,33,34,35,36,37,38,39,40,41,42,43,44,45,46,47,48,49,50,51,52,53,54,55,56,57,58,59,60,61,62,63,64,65,66,75,76,77,78,79,80,81,82,83,84,85,86,87,88,89,90,91,92,93,94,95,96,97,98,99,100,101,102,103,104,105,106,107,108] (fun (j:Nat)=>j<=mt.params.length/\sloE [] mt.params=sloE (mt.params.take j) (mt.params.drop j)) (fun j=>[(67,dI j)]) (fun j=>σ2.set im (.map (eSS (mt.params.take j)))) (fun j=>mt.params.length-j) (0) (by simp) (fun j hI => ?_)
       obtain ⟨hj,hE⟩:=hI
       by_cases hjl:j < mt.params.length
       ·rw [A2 hjl,sloE] at hE
        have hpl:(mt.params[j]).length<=1073741824:=by have:=Nk mt.params j hjl;omega
        try refine gz ?_ o184
        refine Ab (Ej mt.params[j] im (mt.params.take j) _ (w7 ..) hpl) (fun x σ3 hr => ?_) (fun x σ3 hr => ?_)
        ·rcases hr with ⟨hc,e1,rfl⟩ | ⟨_,e1,_⟩
         ·cases e1
          rw [hc,Bool.true_and, <- AF hjl] at hE
          try refine gz ?_ o184
          exact ⟨j+1,⟨by omega,hE⟩,td1,wkR⟩
         ·cases e1
        ·rcases hr with ⟨_,e1,_⟩ | ⟨hc,e1,rfl⟩
         ·cases e1
         ·cases e1
          rw [hc,Bool.false_and] at hE
          have hN:BE f=none:=by rw [hSh];simp only [hR,M1,hE,Bool.and_false,Bool.false_eq_true,if_false]
          exact finP (σ':=σ2.set im (.map (eSS (mt.params.take j)))) (hpan hN _ ⟨d,m,by rw [w8 _ _ ne1];exact o1⟩ (hkp _ (hkm _ fun j x hj hx=>by rw [w8 _ _ hj];exact hx)))
       ·have hje:j=mt.params.length:=by omega
        subst hje
        rw [A1 hjl,sloE] at hE
        generalize hσ3:σ2.set im _=σ3
        have hk3 : ∀ j x,j ≠ im->σ2 j=some x->σ3 j=some x:=fun j x hj hx=>by rw [<- hσ3,w8 _ _ hj];exact hx
        have q1:=hk3 _ _ ne1 o1
        have q2:=hk3 _ _ ne2 o2
        have q3:=hk3 _ _ ne3 o3
        have hK3:=hkm _ hk3
        clear hk3 hσ3
        have hset3 : ∀ (x:DObj),Keep (· = ip) σ1 (σ3.set ip x):=fun x j o h1 h2=>by rw [w8 _ _ h2];exact hK3 j o h1 h2
        have h190:=PV f ip ic is d m names slots mt.fact mt.params σ3 (by omega) (by omega) ⟨hm0,by omega⟩ q1 q2 q3
        repeat' first | refine gz ?_ o184 | apply gy<;>intro hh
        cases hkf:CV names slots mt.params mt.fact m with
        | none =>
         rw [hkf] at h190
         have hN:BE f=none:=by rw [hSh];simp only [hR,M1,hhd',hE,hkf,Bool.and_self,if_true]
         refine Ab h190 (fun x σ4 hr=>by cases hr.1) (fun x σ4 hr => ?_)
         obtain ⟨e1,m',rfl⟩:=hr
         cases e1
         exact finP (σ':=_) (hpan hN _ ⟨d,m',w7 ..⟩ (hkp _ (hset3 _)))
        | some n2 =>
         rw [hkf] at h190
         have hn2:=Pt hkf hm0
         refine Ab h190 (fun x σ4 hr => ?_) (fun x σ4 hr=>by cases hr.1)
         obtain ⟨e1,rfl⟩:=hr
         cases e1
         have r1:(σ3.set ip (pObj f ic is d n2)) ip=some (pObj f ic is d n2):=w7 ..
         have r2:(σ3.set ip (pObj f ic is d n2)) ic=some (.map (eSN (Bx names 0))):=by rw [w8 _ _ (Ne.symm hpi)];exact q2
         have r3:(σ3.set ip (pObj f ic is d n2)) is=some (.map (eSS slots)):=by rw [w8 _ _ (Ne.symm hps)];exact q3
         have h187:=Kj f ip ic is d n2 names slots mt.body mt.params (decide (mt.kind=1\/mt.kind=4)) _ (by omega) (by omega) ⟨hn2.1,by omega⟩ r1 r2 r3
         have hfinN : ∀ x σ',C0 names slots mt.params (decide (mt.kind=1\/mt.kind=4)) mt.body n2=none->KnR f ip ic is d none (σ3.set ip (pObj f ic is d n2)) (.panic x) σ'->CntR f ip ic is σ (.panic x) σ':=fun x σ' hkb hr=>by
          have hN:BE f=none:=by rw [hSh];simp only [hR,M1,hhd',hE,hkf,hkb,Bool.and_self,if_true]
          obtain ⟨e1,m',rfl⟩:=hr
          cases e1
          rw [w9]
          exact hpan hN _ ⟨d,m',w7 ..⟩ (hkp _ (hset3 _))
         by_cases k1:mt.kind=1
         ·try refine gf k1 ?_ o184
          have hb:decide (mt.kind=1\/mt.kind=4)=true:=decide_eq_true (.inl k1)
          rw [hb] at h187
          refine Ab h187 (fun x σ4 hr => ?_) (fun x σ4 hr => ?_)
          ·cases hkb:C0 names slots mt.params true mt.body n2 with
           | none=>rw [hkb] at hr;cases hr.1
           | some n3 =>
            rw [hkb] at hr
            obtain ⟨e1,rfl⟩:=hr
            cases e1
            have hn3:=GJ hkb hn2.1
            have hR2:Ef names slots f.methods n1=Ef names slots (f.methods.drop (k+1)) n3:=by rw [hR];simp only [M1,hhd',hE,hkf,hb,hkb,Bool.and_self,if_true]
            try refine gz ?_ o184
            exact ⟨k+1,n3,σ3.set ip (pObj f ic is d n3),⟨by omega,hn3.1,hn3.2,hR2,w7 .., hset3 _⟩,td1,wkR⟩
          ·cases hkb:C0 names slots mt.params true mt.body n2 with
           | none=>rw [hkb] at hr;exact finP (σ':=σ4) (hfinN _ _ (by rw [hb];exact hkb) hr)
           | some n3=>rw [hkb] at hr;cases hr.1
         ·by_cases k4:mt.kind=4
          ·try refine gf k4 ?_ o184
           have hb:decide (mt.kind=1\/mt.kind=4)=true:=decide_eq_true (.inr k4)
           rw [hb] at h187
           refine Ab h187 (fun x σ4 hr => ?_) (fun x σ4 hr => ?_)
           ·cases hkb:C0 names slots mt.params true mt.body n2 with
            | none=>rw [hkb] at hr;cases hr.1
            | some n3 =>
             rw [hkb] at hr
             obtain ⟨e1,rfl⟩:=hr
             cases e1
             have hn3:=GJ hkb hn2.1
             have hR2:Ef names slots f.methods n1=Ef names slots (f.methods.drop (k+1)) n3:=by rw [hR];simp only [M1,hhd',hE,hkf,hb,hkb,Bool.and_self,if_true]
             try refine gz ?_ o184
             exact ⟨k+1,n3,σ3.set ip (pObj f ic is d n3),⟨by omega,hn3.1,hn3.2,hR2,w7 .., hset3 _⟩,td1,wkR⟩
           ·cases hkb:C0 names slots mt.params true mt.body n2 with
            | none=>rw [hkb] at hr;exact finP (σ':=σ4) (hfinN _ _ (by rw [hb];exact hkb) hr)
            | some n3=>rw [hkb] at hr;cases hr.1
          ·try refine gz ?_ o184
           have hb:decide (mt.kind=1\/mt.kind=4)=false:=decide_eq_false fun h=>h.elim k1 k4
           rw [hb] at h187
           refine Ab h187 (fun x σ4 hr => ?_) (fun x σ4 hr => ?_)
           ·cases hkb:C0 names slots mt.params false mt.body n2 with
            | none=>rw [hkb] at hr;cases hr.1
            | some n3 =>
             rw [hkb] at hr
             obtain ⟨e1,rfl⟩:=hr
             cases e1
             have hn3:=GJ hkb hn2.1
             have hR2:Ef names slots f.methods n1=Ef names slots (f.methods.drop (k+1)) n3:=by rw [hR];simp only [M1,hhd',hE,hkf,hb,hkb,Bool.and_self,if_true]
             try refine gz ?_ o184
             exact ⟨k+1,n3,σ3.set ip (pObj f ic is d n3),⟨by omega,hn3.1,hn3.2,hR2,w7 .., hset3 _⟩,td1,wkR⟩
           ·cases hkb:C0 names slots mt.params false mt.body n2 with
            | none=>rw [hkb] at hr;exact finP (σ':=σ4) (hfinN _ _ (by rw [hb];exact hkb) hr)
            | some n3=>rw [hkb] at hr;cases hr.1
     ·rw [A1 hkl,Ef] at hR
      simp only at hSh
      rw [hR] at hSh
      simp only at hSh
      have h191:=Ki f σ2 hw
      try refine gz ?_ o184
      refine Ab h191 (fun x σ3 hr => ?_) (fun x σ3 hr=>by cases hr.1)
      obtain ⟨e1,rfl⟩:=hr
      cases e1
      have hgl:(EW f).1.length<=100000000:=by have:=Mc f;omega
      cases hg2:(EW f).2 with
      | false =>
       have hN:BE f=none:=by rw [hSh,hg2];rfl
       repeat' first | (exact finP (σ':=σ3) (hpan hN _ ⟨d,m,o1⟩ (hkp _ hK))) | refine gf hg2 ?_ o184 | apply gy<;>intro hh
      | true =>
       rw [hg2,Bool.true_and] at hSh
       by_cases hg8:(EW f).1.length<=8
       ·rw [if_pos (decide_eq_true hg8)] at hSh
        try refine gf hg2 ?_ o184
        refine DM (σ':=σ3) ⟨by rw [hSh],⟨d,m,o1⟩,hkp _ hK⟩
       ·have hN:BE f=none:=by rw [hSh,if_neg (by simpa using hg8)]
        repeat' first | (exact finP (σ':=σ3) (hpan hN _ ⟨d,m,o1⟩ (hkp _ hK))) | refine gf hg2 ?_ o184 | apply gy<;>intro hh
   ·rw [if_neg h16] at hSh
    repeat' first | (exact finP (σ':=σ1) (hpan hSh σ1 ⟨d,_,q1⟩ q5)) | refine gf q1 ?_ o184 | apply gy<;>intro hh
  ·unfold ClsR at hr;rw [hC,if_pos rfl] at hr;cases hr.1
theorem Rn (f:FProg) (σ:Sig) (hw:f.wt<=100000000):DCall prog 98 [.agg (Da f)] σ fun x σ' => ∃ n,x = .ret (.tup [dI n, .bool (BE f).isSome])/\σ'=σ:=by
 refine en func98 ntmps98 ?_
 try refine gz ?_
 refine QP (fun ic hic => ?_)
 try refine gz ?_
 refine KU (fun is his => ?_)
 repeat ((fail_if_success (first | (refine boxV (T:=256) (fun ip hip => ?_)) | fail));(refine goX1 trivial ?_))
 refine boxV (T:=256) (fun ip hip => ?_)
 obtain ⟨n1,h1⟩:=A8 his
 obtain ⟨n2,h2⟩:=A8 hip
 obtain ⟨n3,h3⟩:=A8 h2
 generalize hσ3:Sig.set _ ip _=σ3
 have o1:σ3 ip=some (pObj f ic is .nils 0):=by rw [<- hσ3];exact w7 ..
 have o2:σ3 ic=some (.map (eSN [])):=by rw [<- hσ3,w8 _ _ (Ne.symm n3),w8 _ _ (Ne.symm n1)];exact w7 ..
 have o3:σ3 is=some (.map (eSS [])):=by rw [<- hσ3,w8 _ _ (Ne.symm n2)];exact w7 ..
 have hS:Sub σ σ3:=fun j x hj=>by rw [<- hσ3,w8 _ _ (A3 hj h3),w8 _ _ (A3 hj h1),w8 _ _ (A3 hj hic)];exact hj
 clear hσ3
 try refine gz ?_
 refine Ab (Sa 184 [.cptr [.ptr ip 0] 0, .cptr (Da f) 0] σ3 (CntR f ip ic is) (fun i hi => ?_) (fun σ' d σ'' h => ?_) (fun i σ'' x hi h => ?_)) (fun x σ' hr => ?_) (fun x σ' hr => ?_)
 ·have e : ∀ {j o},σ3 j=some o->(σ3.set i (.cells [.bool false])) j=some o:=fun hj=>by rw [w8 _ _ (A3 hj hi)];exact hj
  exact PW f ip ic is _ hw ⟨e o1,e o2,e o3, .inl ⟨rfl,rfl⟩,Keep.refl _ _⟩ (Ne.symm n1)
 ·have:=h.1
  split at this
  ·cases this
  ·cases this;rfl
 ·refine h.2.2 i _ (w7 ..) fun ht => ?_
  rcases ht with rfl | rfl | rfl
  ·rw [o1] at hi;cases hi
  ·rw [o2] at hi;cases hi
  ·rw [o3] at hi;cases hi
 ·obtain ⟨i,σ'',hi,rfl,hr⟩:=hr
  have key : ∀ y,CntR f ip ic is (σ3.set i (.cells [.bool false])) y σ''->(∃ d n,(σ''.del i) ip=some (pObj f ic is d n))/\Sub σ (σ''.del i):=fun y hy=>by
   obtain ⟨_,⟨d,n,h5⟩,hK⟩:=hy
   have ni:ip ≠ i:=A3 o1 hi
   refine ⟨⟨d,n,by simp only [Sig.del,ni,if_false];exact h5⟩,fun j x hj => ?_⟩
   have hj3:=hS _ _ hj
   have ni:j ≠ i:=A3 hj3 hi
   simp only [Sig.del,ni,if_false]
   refine hK j x (by rw [w8 _ _ ni];exact hj3) fun ht => ?_
   rcases ht with rfl | rfl | rfl
   ·rw [h3] at hj;cases hj
   ·rw [hic] at hj;cases hj
   ·rw [h1] at hj;cases hj
  rcases hr with ⟨d,hr,e1⟩ | ⟨hr,e1⟩
  ·cases e1
   obtain ⟨⟨d',n,o5⟩,hS5⟩:=key _ hr
   have hs:(BE f).isSome=true:=by
    have:=hr.1
    cases h:BE f with
    | none=>rw [h] at this;cases this
    | some k=>rfl
   try refine gf o5 ?_
   exact fin2 (σ':=σ) ⟨n,by rw [hs],rfl⟩
  ·cases e1
   obtain ⟨⟨d',n,o5⟩,hS5⟩:=key _ hr
   have hs:(BE f).isSome=false:=by
    have:=hr.1
    cases h:BE f with
    | none=>rfl
    | some k=>rw [h] at this;cases this
   try refine gf o5 ?_
   exact fin2 (σ':=σ) ⟨n,by rw [hs],rfl⟩
 ·obtain ⟨i,σ'',hi,_,hr⟩:=hr
  rcases hr with ⟨d,_,e1⟩ | ⟨_,e1⟩<;>cases e1
theorem OG (f:FProg) (σ:Sig) (hw:f.wt<=100000000):DCall prog 47 [.agg (Da f)] σ fun x σ'=>x = .ret (dI (if (BE f).isSome then 0 else 2))/\σ'=σ:=by
 refine en func47 ntmps47 ?_
 try refine gz ?_
 refine Ab (Rn f σ hw) (fun x σ' hr => ?_) (fun x σ' hr=>by obtain ⟨_,h,_⟩:=hr;cases h)
 obtain ⟨n,e1,rfl⟩:=hr
 cases e1
 cases hs:(BE f).isSome with
 | false =>
  try refine gf hs ?_
  exact fe1 trivial
 | true =>
  try refine gf hs ?_
  exact fe1 trivial
@[reducible,instance] def a47:=fun f σ=>ah1 (@OG f σ)
def AD (f:FProg):List Str:=f.classes.flatMap (·.slots)
theorem JF (f:FProg):(AD f).length<=f.wt:=by
 have h : ∀ l:List FClass,(l.flatMap (·.slots)).length<=wtL FClass.wt l:=by
  intro l
  induction l with
  | nil=>simp [wtL]
  | cons c l ih=>simp only [List.flatMap_cons,List.length_append,wtL];have:=CL c.slots;have:=c.wt_le;omega
 have:=h f.classes
 unfold AD FProg.wt;omega
theorem TI (f:FProg) (σ:Sig) (hw:f.wt<=100000000) (hs:(BE f).isSome=true):DCall prog 99 [.agg (Da f)] σ fun x σ'=>x = .ret (.tup [sl (cS (AD f)),dI 0])/\σ'=σ:=by
 obtain ⟨p1,p2,p3,p4,p5⟩:=f.wt_le
 have hsl:=JF f
 refine en func99 ntmps99 ?_
 try refine gf hs ?_
 refine BD 4 1 (fun i hi => ?_)
 refine AJ [2,3,11,12,22,23] (fun (k:Nat) (out:List Str)=>k<=f.classes.length/\AD f=out++(f.classes.drop k).flatMap (·.slots)) (fun k out=>[(13,dI k),(4, .slice (cS out) (.tag i))]) (fun _ out=>σ.set i (.tail 1 out.length)) (fun k _=>f.classes.length-k) (0) ([]) (by simp [AD]) (fun k out hI => ?_)
 obtain ⟨hk,hR⟩:=hI
 by_cases hkl:k < f.classes.length
 ·rw [A2 hkl,List.flatMap_cons, <- List.append_assoc] at hR
  have hol:out.length+(f.classes[k]).slots.length<=100000000:=by rw [hR] at hsl;simp only [List.length_append] at hsl;omega
  try refine gz ?_
  exact ⟨k+1,out++(f.classes[k]).slots,⟨by omega,hR⟩,td1,wkR⟩
 ·rw [A1 hkl,List.flatMap_nil,List.append_nil] at hR
  have hol:out.length<=100000000:=by rw [hR] at hsl;omega
  try refine gz ?_
  rw [hR]
  exact fin2 (σ':=σ) ⟨rfl,rfl⟩
@[reducible,instance] def a99:=fun f σ=>ah2 (@TI f σ)
theorem SF (f:FProg) (σ:Sig) (hw:f.wt<=100000000) (hs:(BE f).isSome=true):DCall prog 100 [.agg (Da f)] σ fun x σ'=>x = .ret (.tup [sl (cS ((EW f).1.map (·.1))),dI 0])/\σ'=σ:=by
 refine en func100 ntmps100 ?_
 try refine gf hs ?_
 refine Ab (Ki f σ hw) (fun x σ3 hr => ?_) (fun x σ3 hr=>by cases hr.1)
 obtain ⟨e1,rfl⟩:=hr
 cases e1
 try refine gz ?_
 exact fin2 (σ':=σ3) ⟨rfl,rfl⟩
@[reducible,instance] def a100:=fun f σ=>ah2 (@SF f σ)
def B1 (l:List Str):Prop := ∀ s ∈ l,s.length<=8
theorem Ge {f:Nat->Option Str} : ∀ (k j:Nat) (w:Str),DS f k j=some w -> ∃ i,j<=i/\i < j+k/\f i=some w
 | 0,_,_,h=>by simp [DS] at h
 | k+1,j,w,h=>by
  rw [DJ] at h
  split at h
  ·rename_i x hx;cases h;exact ⟨j,by omega,by omega,hx⟩
  ·obtain ⟨i,h1,h2,h3⟩:=Ge k (j+1) w h
   exact ⟨i,by omega,by omega,h3⟩
theorem M9 (tk:List Str) : ∀ (n:Nat) (s w:Str),Dl tk n s=some w->w.length=s.length+n
 | 0,s,w,h=>by
  rw [Dl] at h
  split at h
  ·cases h
  ·cases h;rfl
 | n+1,s,w,h=>by
  rw [Dl] at h
  obtain ⟨i,_,_,h1⟩:=Ge _ _ _ h
  have:=M9 tk n _ _ h1
  simp at this;omega
theorem Py (tk:List Str):(Eh tk).length<=8:=by
 unfold Eh
 cases h:IU tk with
 | none=>simp
 | some w =>
  unfold IU at h
  obtain ⟨i,h1,h2,h3⟩:=Ge _ _ _ h
  have:=M9 tk i _ _ h3
  simp at this ⊢; omega
theorem HG : ∀ (n:Nat) (l:List Str),B1 l->B1 (GO n l)
 | 0,l,h=>h
 | n+1,l,h=>by
  rw [GO]
  refine HG n _ fun s hs => ?_
  rcases List.mem_append.1 hs with hs | hs
  ·exact h s hs
  ·rw [List.mem_singleton.1 hs];exact Py l
theorem D2 (n:Nat):B1 (Cx n):=HG n [] fun s hs=>by simp at hs
theorem QB (p:BProg):B1 (spA p):=fun s hs=>by
 unfold spA at hs
 rcases List.mem_append.1 hs with hs | hs
 ·simp at hs
  rcases hs with rfl | rfl | rfl<;>decide
 ·exact D2 _ s hs
theorem E3 {l:List Str} (h:B1 l) (n:Int):(ixS l n).length<=8:=by
 unfold ixS
 cases hn:l[n.toNat]? with
 | none=>simp
 | some s=>exact h s (List.mem_of_getElem? hn)
theorem EX : ∀ {l:List Str},B1 l->wtS l<=9*l.length
 | [],_=>by simp [wtS,wtL]
 | x::l,h=>by
  have h1:=h x (by simp)
  have h2:=EX (l:=l) fun s hs=>h s (by simp [hs])
  unfold wtS at h2 ⊢
  rw [wtL,List.length_cons];omega
theorem Ey {l:List Str} (h:B1 l) (k:List Int):B1 (k.map (ixS l)):=fun s hs=>by
 obtain ⟨x,_,rfl⟩:=List.mem_map.1 hs
 exact E3 h x
theorem spC_wt {a b:List Str} (ha:B1 a) (hb:B1 b) (c:BClass) (n:Str) (hn:n.length<=8):FClass.wt { spC a b c with name:=n }<=9*c.wt:=by
 have h1:=EX (Ey ha c.parents)
 have h2:=EX (Ey hb c.slots)
 have h3 : ∀ l:List Init,wtL FInit.wt (l.map fun x=>⟨ixS b x.slot,x.n⟩)<=9*l.length:=fun l=>by
  induction l with
  | nil=>simp [wtL]
  | cons x l ih =>
   have:=E3 hb x.slot
   simp only [List.map_cons,wtL,List.length_cons,FInit.wt];omega
 have h4:=h3 c.inits
 rw [List.length_map] at h1 h2
 show 1+n.length+wtS (c.parents.map (ixS a))+wtS (c.slots.map (ixS b))+wtL FInit.wt (c.inits.map fun x=>⟨ixS b x.slot,x.n⟩)<=9*(1+c.parents.length+c.slots.length+c.inits.length)
 omega
mutual
theorem UA {a b P:List Str} (ha:B1 a) (hb:B1 b) (hP:B1 P) : ∀ f:Fact,(spF a b P f).wt<=17*f.wt
 | .mk o g p c n k=>by
  have h1:=EX (Ey hb p)
  rw [List.length_map] at h1
  have h2:=Qy ha hb hP k
  have h3:(if o=2\/o=3\/o=4 then ixS P g else ([]:Str)).length<=8:=by split;exact E3 hP g;simp
  have h4:(if o=2 then ixS a c else ([]:Str)).length<=8:=by split;exact E3 ha c;simp
  rw [spF,FFact.wt,Fact.wt]
  omega
theorem Qy {a b P:List Str} (ha:B1 a) (hb:B1 b) (hP:B1 P) : ∀ l:List Fact,FFact.wts (spFs a b P l)<=17*Fact.wts l
 | []=>by rw [spFs,FFact.wts,Fact.wts];omega
 | x::r=>by
  have h1:=UA ha hb hP x
  have h2:=Qy ha hb hP r
  rw [spFs,FFact.wts,Fact.wts];omega
end
theorem Qx {a b g P env:List Str} (ha:B1 a) (hb:B1 b) (hg:B1 g) (hP:B1 P) (he:B1 env) (x:BNode) (t:Nat):(DW a b g P x env t).length<=8:=by
 unfold DW
 repeat' split
 ·exact E3 he _
 ·exact E3 hb _
 ·exact E3 hg _
 ·exact E3 ha _
 ·exact E3 hP _
 ·simp
theorem LM {p:BProg} {k:Nat} {f:Int->List Str->Nat->FExp × Nat} {op:Int} {txt:Str} {env:List Str} (hf : ∀ c e t,B1 e->(f c e t).1.wt<=9*cntB p k c) (he:B1 env) (ht:txt.length<=8) : ∀ (l:List Int) (j t:Nat),FExp.wts (D0 f op txt env j l t).1<=9*wtL (cntB p k) l
 | [],_,_=>by rw [D0,wtL,FExp.wts];omega
 | c::r,j,t=>by
  have hs:B1 (if op=9/\j=1 then env++[txt] else env):=by
   split
   ·intro s hs
    rcases List.mem_append.1 hs with hs | hs
    ·exact he s hs
    ·rw [List.mem_singleton.1 hs];exact ht
   ·exact he
  have h1:=hf c _ t hs
  have h2:=LM (op:=op) hf he ht r (j+1) (f c (if op=9/\j=1 then env++[txt] else env) t).2
  rw [D0,wtL,FExp.wts]
  omega
theorem Qz (p:BProg) {a b g P:List Str} (ha:B1 a) (hb:B1 b) (hg:B1 g) (hP:B1 P) : ∀ (k:Nat) (node:Int) (env:List Str) (t:Nat),B1 env->(spE p a b g P k node env t).1.wt<=9*cntB p k node
 | 0,_,_,_,_=>by simp [spE,cntB,FExp.wt,FExp.wts]
 | k+1,node,env,t,he=>by
  have ht:=Qx ha hb hg hP he (Ap p node) t
  have:=LM (op:=(Ap p node).op) (fun c e t hs=>Qz p ha hb hg hP k c e t hs) he ht (Ap p node).kids 0 (if (Ap p node).op=9 then t+1 else t)
  rw [spE,cntB,FExp.wt]
  omega
theorem Ok (w:World) : ∀ (d:Nat) (f:Fact) (s s':Int),D1 w d f s=(true,s')->0<=s/\s<=1000->0<=s'/\(f.wt:Int)<=3*(s-s')
 | 0,_,_,_,h,_=>by simp [D1] at h
 | d+1,f,s,s',h,hs=>by
  have hw:IntKind.i64.wrap (s-1)=s-1:=Am (by omega) (by omega)
  rw [D1,hw] at h
  split at h
  ·simp at h
  ·rename_i hop
   have hkl:f.kids.length=Bd f.op:=Classical.byContradiction fun e=>hop (.inr (.inr (.inr e)))
   have hs1:0<=s-1:=by omega
   have hfe:f.wt=1+f.path.length+Fact.wts f.kids:=by cases f;rw [Fact.wt];rfl
   split at h
   ·rename_i hl
    simp only [Prod.mk.injEq] at h
    obtain ⟨hlf,rfl⟩:=h
    unfold Hn at hlf
    simp only [Bool.and_eq_true,decide_eq_true_eq] at hlf
    obtain ⟨⟨_,hpb⟩,_⟩:=hlf
    unfold LX at hpb
    simp only [Bool.and_eq_true,decide_eq_true_eq] at hpb
    have hk:f.kids=[]:=by
     have:Bd f.op=0:=by
      unfold BF at hl
      simp only [Bool.or_eq_true,decide_eq_true_eq] at hl
      unfold Bd
      rw [if_neg (by omega),if_neg (by omega)]
     exact List.eq_nil_of_length_eq_zero (by omega)
    rw [hk,Fact.wts] at hfe
    exact ⟨hs1,by have:=hpb.1;omega⟩
   ·split at h
    ·rename_i h0
     have hkw : ∀ (l:List Fact) (t t':Int),allS (D1 w d) l t=(true,t')->0<=t/\t<=1000->0<=t'/\(Fact.wts l:Int)<=3*(t-t'):=fun l=>by
      induction l with
      | nil=>intro t t' h ht;rw [allS] at h;cases h;exact ⟨ht.1,by rw [Fact.wts];omega⟩
      | cons x r ih =>
       intro t t' h ht
       rw [allS] at h
       cases hy:D1 w d x t with
       | mk b t1 =>
        rw [hy] at h
        cases b with
        | false=>simp at h
        | true =>
         obtain ⟨g1,g2⟩:=Ok w d x t t1 hy ht
         obtain ⟨g3,g4⟩:=ih t1 t' h ⟨g1,by have:=x.wt_pos;omega⟩
         exact ⟨g3,by rw [Fact.wts];omega⟩
     obtain ⟨g1,g2⟩:=hkw _ _ _ h ⟨hs1,by omega⟩
     exact ⟨g1,by have:=h0.2.1;omega⟩
    ·simp at h
theorem Lz {α β:Type} {g:β->Nat} {h:α->β} {k:Nat} : ∀ l:List α,(∀ x ∈ l,g (h x)<=k)->wtL g (l.map h)<=k*l.length
 | [],_=>by simp [wtL]
 | x::r,hx=>by
  have h1:=hx x (by simp)
  have h2:=Lz (g:=g) (h:=h) (k:=k) r fun y hy=>hx y (by simp [hy])
  rw [List.map_cons,wtL,List.length_cons,Nat.mul_add];omega
theorem Uu {a b:List Str} (ha:B1 a) (hb:B1 b) : ∀ (l:List BClass) (n:List Str),B1 n->wtL FClass.wt ((l.zip n).map fun x=>{ spC a b x.1 with name:=x.2 })<=9*wtL BClass.wt l
 | [],_,_=>by simp [wtL]
 | _::_,[],_=>by simp [wtL]
 | c::r,x::n,hn=>by
  have h1:=spC_wt ha hb c x (hn x (by simp))
  have h2:=Uu ha hb r n fun s hs=>hn s (by simp [hs])
  rw [List.zip_cons_cons,List.map_cons,wtL,wtL,Nat.mul_add]
  exact Nat.add_le_add h1 h2
theorem Tj {p:BProg} (h:okP p=true):(Gn p).wt<=9*p.wt+60000:=by
 have hsA:=QB p
 have hsS:B1 (spS p):=D2 _
 have hsG:B1 (spG p):=D2 _
 have hsL:B1 (spL p):=D2 _
 unfold okP BP at h
 split at h
 ·rename_i hc
  simp only [Bool.and_eq_true,decide_eq_true_eq,List.all_eq_true] at hc
  obtain ⟨⟨hcl,⟨⟨h8,h16⟩,hn1⟩,h120⟩,hg⟩:=hc
  cases hm:CK p p.methods (List.replicate p.nodes.length (-1)) with
  | none=>rw [hm] at h;simp at h
  | some s =>
   rw [hm] at h
   obtain ⟨k1,k2,k3⟩:=GG p p.methods _ s hm (by simp) (fun g hx=>(hg g hx).1)
   rw [List.length_replicate] at k2
   cases hw:Bt p false 12 p.main 0 s with
   | mk b s2 =>
    simp only [hw] at h
    cases b with
    | false=>simp [optW] at h
    | true =>
     obtain ⟨m1,m2,m3⟩:=HQ p false 12 _ _ _ _ hw k2 (Int.le_refl _)
     have hns:negS s<=s.length:=List.countP_le_length
     have h1:=Uu hsA hsS p.classes (Cx p.classes.length) (D2 _)
     have h2:=Qz p hsA hsS hsG hsL 12 p.main [] 0 (fun s hs=>by simp at hs)
     have h3:wtL FMeth.wt (p.methods.map (spM p))<=3000*p.methods.length:=by
      refine Lz p.methods fun m hmm => ?_
      obtain ⟨q1,q2,q3⟩:=k1 m hmm
      unfold E0 at q1
      simp only [Bool.and_eq_true,decide_eq_true_eq] at q1
      obtain ⟨⟨⟨_,hgen⟩,hform⟩,hsp⟩:=q1
      have hgb:1<=p.gens.getD m.gen.toNat 0/\p.gens.getD m.gen.toNat 0<=3:=by
       have hl:m.gen.toNat < p.gens.length:=by omega
       rw [List.getD_eq_getElem?_getD,List.getElem?_eq_getElem hl]
       exact hg _ (List.getElem_mem hl)
      have hpar:CF p m<=3:=by unfold CF;omega
      have hst:B1 ((spL p).take (CF p m)):=fun s hs=>hsL s (List.mem_of_mem_take hs)
      have r1:=E3 hsG m.gen
      have r2:=EX hst
      have r3:=UA hsA hsS hst m.fact
      have r4:=Qz p hsA hsS hsG hsL 12 m.node ((spL p).take (CF p m)) (CF p m) hst
      have r5:m.fact.wt<=72:=by
       unfold CW at hform
       cases hf:D1 (Aj p) 12 m.fact 24 with
       | mk b t =>
        rw [hf] at hform
        cases b with
        | false=>simp at hform
        | true =>
         obtain ⟨u1,u2⟩:=Ok (Aj p) 12 m.fact 24 t hf (by omega)
         omega
      have r6:((spL p).take (CF p m)).length<=3:=by rw [List.length_take];omega
      show 1+(ixS (spG p) m.gen).length+wtS ((spL p).take (CF p m))+(spF (spA p) (spS p) ((spL p).take (CF p m)) m.fact).wt+(spE p (spA p) (spS p) (spG p) (spL p) 12 m.node ((spL p).take (CF p m)) (CF p m)).1.wt<=3000
      omega
     have h4:wtL BClass.wt p.classes < p.wt:=by unfold BProg.wt;omega
     show 1+wtL FClass.wt (spCs p)+wtL FMeth.wt (p.methods.map (spM p))+(spE p (spA p) (spS p) (spG p) (spL p) 12 p.main [] 0).1.wt<=9*p.wt+60000
     unfold spCs
     omega
 ·simp at h
def JL:FProg:=⟨[],[], .mk 0 0 [] []⟩
def HO (p:BProg):Int:=if okP p then (if (BE (Gn p)).isSome then 0 else 3) else 2
def Jt (p:BProg):FProg:=if HO p=0 then Gn p else JL
theorem ON (p:BProg) (σ:Sig) (hw:p.wt<=10000000):DCall prog 20 [.agg (Af p)] σ fun x σ'=>x = .ret (.tup [.agg (Da (Jt p)),dI (HO p)])/\σ'=σ:=by
 have hzero:WkD (.tup [.agg [.nils, .nils,dI 0,dI 0, .str [], .nils],dI (HO p)]) (.tup [.agg (Da JL),dI (HO p)]):=by
  have e:Da JL=[sl [],sl [],dI 0,dI 0, .str [],sl []]:=by simp [JL,FExp.op,FExp.n,FExp.text,FExp.kids]
  rw [e]
  exact H4 (show WkL _ _ from ⟨F1 (show WkL _ _ from ⟨At _ (.inl rfl),At _ (.inl rfl),A9 _,A9 _,A9 _,At _ (.inl rfl),trivial⟩),A9 _,trivial⟩)
 have h13:=fun (σ:Sig)=>I5 p σ (by omega)
 cases hok:okP p with
 | false =>
  have hE:HO p=2:=by unfold HO;rw [hok];rfl
  have hP:Jt p=JL:=by unfold Jt;rw [hE];rfl
  rw [hP]
  rw [hE] at hzero ⊢
  refine en func20 ntmps20 ?_
  try refine gz ?_ [] [2]
  refine newV (fun i2 hi2 => ?_)
  repeat' first | refine gf hok ?_ [] [2] | refine An (h13 _) ?_ | refine callP (h13 _) ?_ | refine gf hok ?_ [] [2] | apply gy<;>intro hh
  refine finC (σ':=σ) ⟨rfl,rfl⟩ (hw := ?_)
  exact hzero
 | true =>
  have hsp:=sp_ok (p:=p) (by omega) hok
  have hsw:=Tj hok
  have h56:=fun (σ:Sig)=>OF p σ hsp
  have h47:=fun (σ:Sig)=>OG (Gn p) σ (by omega)
  cases hs:(BE (Gn p)).isSome with
  | false =>
   have hE:HO p=3:=by unfold HO;rw [hok,hs];rfl
   have hP:Jt p=JL:=by unfold Jt;rw [hE];rfl
   rw [hP]
   rw [hE] at hzero ⊢
   refine en func20 ntmps20 ?_
   try refine gz ?_ [] [2]
   refine newV (fun i2 hi2 => ?_)
   repeat' first | refine gf (gi hok hs) ?_ [] [2] | refine An (h13 _) ?_ | refine callP (h13 _) ?_ | refine An (h56 _) ?_ | refine callP (h56 _) ?_ | refine An (h47 _) ?_ | refine callP (h47 _) ?_ | refine gf (gi hok hs) ?_ [] [2] | apply gy<;>intro hh
   refine finC (σ':=σ) ⟨rfl,rfl⟩ (hw := ?_)
   exact hzero
  | true =>
   have hE:HO p=0:=by unfold HO;rw [hok,hs];rfl
   have hP:Jt p=Gn p:=by unfold Jt;rw [hE];rfl
   rw [hP,hE]
   refine en func20 ntmps20 ?_
   try refine gz ?_ [] [2]
   refine newV (fun i2 hi2 => ?_)
   repeat' first | refine gf (gi hok hs) ?_ [] [2] | refine An (h13 _) ?_ | refine callP (h13 _) ?_ | refine An (h56 _) ?_ | refine callP (h56 _) ?_ | refine An (h47 _) ?_ | refine callP (h47 _) ?_ | refine gf (gi hok hs) ?_ [] [2] | apply gy<;>intro hh
   exact finC (σ':=σ) ⟨rfl,rfl⟩
@[reducible,instance] def a20:=fun p σ=>ah1 (@ON p σ)
theorem La (op:Int) (s:Str) (l:List (List D)) (o:Own) (σ:Sig):DCall prog 95 [dI op, .str s, .slice l o] σ fun x σ'=>x = .ret (.agg [dI op,dI 0, .str s, .slice l o])/\σ'=σ:=by
 refine en func95 ntmps95 ?_
 refine gz ?_ [] [6]
 refine newV (fun i hi => ?_)
 refine gz ?_ [] [6]
 exact finC (σ':=σ) ⟨rfl,rfl⟩
@[reducible,instance] def a95:=fun op s l o σ=>ah0 (@La op s l o σ)
theorem TJ (s:Str) (σ:Sig):DCall prog 96 [.str s] σ fun x σ'=>x = .ret (.agg (Bc (.mk 3 0 s [])))/\σ'=σ:=by
 refine en func96 ntmps96 ?_
 refine gz ?_ [] [2]
 refine newV (fun i hi => ?_)
 refine gz ?_ [] [2]
 refine finC (σ':=σ) ⟨rfl,rfl⟩ (hw := ?_)
 exact F1 ⟨A9 _,A9 _,A9 _,At _ (.inl rfl),trivial⟩
@[reducible,instance] def a96:=fun s σ=>ah0 (@TJ s σ)
end Go.DL
