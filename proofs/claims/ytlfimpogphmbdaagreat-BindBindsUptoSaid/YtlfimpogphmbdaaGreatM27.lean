/- Part of the proof that the last text ends. -/
import Derived.Test.YtlfimpogphmbdaaGreatM26
import Derived.Test.YtlfimpogphmbdaaGreatM15
import Derived.Test.YtlfimpogphmbdaaGreatM20
import Derived.Test.YtlfimpogphmbdaaGreatM22
import Derived.Test.YtlfimpogphmbdaaGreatM10
set_option linter.all false
namespace Go.DL
open Go.Proofs.Tryz
open Go Go.Proofs
def clsS:List Str->List Str->List FClass->Bool
 | _,_,[]=>true
 | names,slots,c::r=>decide (c.parents.length<=3/\c.slots.length<=4) && (parE names [] c.parents && (sloE slots c.slots && ((AM c.name && !decide (c.name ∈ names)) && clsS (names++[c.name]) (slots++c.slots) r)))
def iniL:List Str->List (List Str)->List FClass->Bool
 | _,_,[]=>true
 | names,hs,c::r=>iniE (E5 names hs c) [] c.inits && iniL (names++[c.name]) (hs++[E5 names hs c]) r
theorem Lc : ∀ (l:List FClass) (names slots:List Str) (hs:List (List Str)),clsE names slots hs l=(clsS names slots l && iniL names hs l)
 | [],_,_,_=>rfl
 | c::r,names,slots,hs=>by
  rw [clsE,clsS,iniL,Lc r]
  cases decide (c.parents.length<=3/\c.slots.length<=4)<;>cases parE names [] c.parents<;>cases sloE slots c.slots<;>cases iniE (E5 names hs c) [] c.inits<;>simp
  simp [Bool.and_assoc]
theorem PM : ∀ (a b seen:List Str),difE seen (a++b)=(difE seen a && difE (seen++a) b)
 | [],b,seen=>by rw [List.nil_append,List.append_nil,difE,Bool.true_and]
 | x::r,b,seen=>by
  rw [List.cons_append,difE,difE,PM r b,List.append_assoc,Bool.and_assoc];rfl
theorem P4 (names:List Str) (hn : ∀ s ∈ names,AM s=true) : ∀ (ps seen:List Str),parE names seen ps=(ps.all (fun s=>decide (s ∈ names)) && difE seen ps)
 | [],_=>rfl
 | s::r,seen=>by
  rw [parE,difE,List.all_cons,P4 names hn r]
  by_cases h:s ∈ names
  ·rw [decide_eq_true h,hn s h];cases decide (s ∈ seen)<;>simp
  ·rw [decide_eq_false h];simp
theorem UD : ∀ (l:List FClass) (names slots:List Str),(∀ s ∈ names,AM s=true)->(clsS names slots l=true ↔ Ch names l=true/\((l.map (·.name)).all AM=true/\difE names (l.map (·.name))=true)/\((l.flatMap (·.slots)).all AM=true/\difE slots (l.flatMap (·.slots))=true))
 | [],names,slots,h=>by simp [clsS,Ch,difE]
 | c::r,names,slots,h=>by
  have h1:decide (c.parents.length<=3/\c.slots.length<=4)=(!decide (3 < c.parents.length) && !decide (4 < c.slots.length)):=by
   rw [Bool.decide_and, <- decide_not, <- decide_not]
   congr 1<;>exact decide_eq_decide.2 (by omega)
  rw [clsS,Ch,P4 names h,Ob,h1,List.map_cons,List.flatMap_cons,List.all_cons,List.all_append,PM,difE]
  by_cases hc:AM c.name=true
  ·have ih:=UD r (names++[c.name]) (slots++c.slots) (fun s hs=>by
    rcases List.mem_append.1 hs with hs | hs
    ·exact h s hs
    ·rw [List.mem_singleton.1 hs];exact hc)
   simp only [Bool.and_eq_true] at ih ⊢
   rw [ih]
   grind
  ·simp only [Bool.and_eq_true,hc]
   grind
def prs (f:FProg) (i:Nat):List Str:=((f.classes[i]?).map (·.parents)).getD []
def ixN (f:FProg) (s:Str):Nat:=(idxF (fun c:FClass=>decide (c.name=s)) f.classes 0).toNat
inductive Lies (f:FProg):Nat->Nat->Prop
 | refl (i:Nat):Lies f i i
 | step {i j:Nat} {s:Str}:s ∈ prs f i->Lies f (ixN f s) j->Lies f i j
def LiesP (f:FProg) (i j:Nat):Prop := ∃ s ∈ prs f i,Lies f (ixN f s) j
theorem LN {f:FProg} {i j:Nat}:Lies f i j ↔ j=i\/LiesP f i j:=by
 constructor
 ·intro h
  cases h with
  | refl=>exact .inl rfl
  | step hs h=>exact .inr ⟨_,hs,h⟩
 ·rintro (rfl | ⟨s,hs,h⟩)
  ·exact .refl _
  ·exact .step hs h
theorem N4 (bs:List Bool) (i j:Nat) (v:Bool):(bs.set i v).getD j false=if i=j/\i < bs.length then v else bs.getD j false:=by
 rw [List.getD_eq_getElem?_getD,List.getD_eq_getElem?_getD,List.getElem?_set]
 by_cases h:i=j
 ·subst h
  by_cases hl:i < bs.length
  ·simp [hl]
  ·simp [hl]
 ·simp [h]
theorem Lm (f:FProg) : ∀ (ps:List Str) (b:List Bool) (j:Nat),(∀ s ∈ ps,ixN f s < b.length)->((CU f ps b).getD j false=true ↔ b.getD j false=true \/ ∃ s ∈ ps,ixN f s=j)
 | [],b,j,_=>by rw [CU];simp
 | s::r,b,j,h=>by
  have h1:=h s (by simp)
  rw [CU,Lm f r _ j (fun x hx=>by rw [List.length_set];exact h x (by simp [hx])),N4]
  have:(idxF (fun c:FClass=>decide (c.name=s)) f.classes 0).toNat=ixN f s:=rfl
  rw [this]
  by_cases hj:ixN f s=j
  ·rw [if_pos ⟨hj,h1⟩];simp [hj]
  ·rw [if_neg (fun h=>hj h.1)];simp [hj]
theorem Mg (f:FProg) (n:Nat) (hp : ∀ i, ∀ s ∈ prs f i,ixN f s < i) : ∀ (i:Nat) (b:List Bool) (j:Nat),i<=b.length->((abvD f n i b).getD j false=true ↔ b.getD j false=true \/ ∃ k,k < i/\(k=n\/b.getD k false=true)/\LiesP f k j)
 | 0,b,j,_=>by rw [abvD];simp
 | i+1,b,j,hb=>by
  rw [abvD]
  by_cases hi:i ≠ n/\b.getD i false=false
  ·rw [if_pos hi,Mg f n hp i b j (by omega)]
   constructor
   ·rintro (h | ⟨k,h1,h2,h3⟩)
    ·exact .inl h
    ·exact .inr ⟨k,by omega,h2,h3⟩
   ·rintro (h | ⟨k,h1,h2,h3⟩)
    ·exact .inl h
    ·refine .inr ⟨k, ?_,h2,h3⟩
     have:k ≠ i:=fun e=>by
      rw [e] at h2
      rcases h2 with h2 | h2
      ·exact hi.1 h2
      ·rw [hi.2] at h2;cases h2
     omega
  ·rw [if_neg hi]
   have hm:i=n\/b.getD i false=true:=by
    by_cases e:i=n
    ·exact .inl e
    ·right
     cases hh:b.getD i false with
     | true=>rfl
     | false=>exact absurd ⟨e,hh⟩ hi
   have hrow:=fun j=>Lm f (prs f i) b j (fun s hs=>by have:=hp i s hs;omega)
   have hlen:(CU f (prs f i) b).length=b.length:=EY f _ _
   have he:CU f (((f.classes[i]?).map (·.parents)).getD []) b=CU f (prs f i) b:=rfl
   rw [he,Mg f n hp i _ j (by omega),hrow]
   constructor
   ·rintro ((h | ⟨s,hs,h⟩) | ⟨k,h1,h2,h3⟩)
    ·exact .inl h
    ·exact .inr ⟨i,by omega,hm,s,hs,by rw [h];exact .refl _⟩
    ·rw [hrow] at h2
     rcases h2 with h2 | h2 | ⟨s,hs,h⟩
     ·exact .inr ⟨k,by omega, .inl h2,h3⟩
     ·exact .inr ⟨k,by omega, .inr h2,h3⟩
     ·exact .inr ⟨i,by omega,hm,s,hs,LN.2 (.inr (by rw [h];exact h3))⟩
   ·rintro (h | ⟨k,h1,h2,h3⟩)
    ·exact .inl (.inl h)
    ·by_cases e:k=i
     ·subst e
      obtain ⟨s,hs,h⟩:=h3
      rcases LN.1 h with rfl | h
      ·exact .inl (.inr ⟨s,hs,rfl⟩)
      ·exact .inr ⟨ixN f s,hp k s hs, .inr ((hrow _).2 (.inr ⟨s,hs,rfl⟩)),h⟩
     ·refine .inr ⟨k,by omega, ?_,h3⟩
      rcases h2 with h2 | h2
      ·exact .inl h2
      ·exact .inr ((hrow _).2 (.inl h2))
theorem W8 (f:FProg) (n:Nat) (hn:n < f.classes.length) (hp : ∀ i, ∀ s ∈ prs f i,ixN f s < i) (j:Nat):((abvF f n).set n true).getD j false=true ↔ Lies f n j:=by
 have hl:=JW f n
 rw [N4,LN]
 by_cases e:n=j
 ·rw [if_pos ⟨e,by omega⟩];simp [e]
 ·rw [if_neg (fun h=>e h.1)]
  unfold abvF
  rw [Mg f n hp _ _ _ (by rw [List.length_replicate];omega)]
  have hz : ∀ k,(List.replicate f.classes.length false).getD k false=false:=fun k=>by
   rw [List.getD_eq_getElem?_getD,List.getElem?_replicate];split<;>rfl
  constructor
  ·rintro (h | ⟨k,h1,h2 | h2,h3⟩)
   ·rw [hz] at h;cases h
   ·right;rw [<- h2];exact h3
   ·rw [hz] at h2;cases h2
  ·rintro (h | h)
   ·exact absurd h.symm e
   ·exact .inr ⟨n,by omega, .inl rfl,h⟩
theorem Ja {x:Str} : ∀ (cs:List FClass) (bs:List Bool),x ∈ I5 cs bs ↔ ∃ j, ∃ h:j < cs.length,bs.getD j false=true/\x ∈ cs[j].slots
 | [],bs=>by cases bs<;>simp [I5]
 | c::cs,[]=>by
  simp [I5]
 | c::cs,b::bs=>by
  rw [I5,List.mem_append,Ja cs bs]
  constructor
  ·rintro (h | ⟨j,hj,h1,h2⟩)
   ·cases b with
    | false=>simp at h
    | true=>exact ⟨0,by simp,rfl,by simpa using h⟩
   ·exact ⟨j+1,by simp only [List.length_cons];omega,by simpa using h1,by simpa using h2⟩
  ·rintro ⟨j,hj,h1,h2⟩
   cases j with
   | zero =>
    have h1:b=true:=h1
    left;rw [if_pos h1];exact h2
   | succ j=>exact .inr ⟨j,by simp only [List.length_cons] at hj;omega,by simpa using h1,by simpa using h2⟩
def HasS (f:FProg) (i:Nat) (x:Str):Prop := ∃ j,Lies f i j /\ ∃ h:j < f.classes.length,x ∈ f.classes[j].slots
theorem LT (s:Str) : ∀ (a b:List Str) (k:Nat),s ∈ a->idxG s (a++b) k=idxG s a k
 | [],_,_,h=>by cases h
 | x::r,b,k,h=>by
  rw [List.cons_append,idxG,idxG]
  by_cases e:x=s
  ·rw [if_pos e,if_pos e]
  ·rw [if_neg e,if_neg e,LT s r b]
   exact (List.mem_cons.1 h).resolve_left (fun h=>e h.symm)
theorem N0 (s:Str) : ∀ (l:List FClass) (k:Nat),idxG s (l.map (·.name)) k=idxF (fun c:FClass=>decide (c.name=s)) l k
 | [],_=>rfl
 | c::r,k=>by
  rw [List.map_cons,idxG,idxF,N0 s r]
  by_cases e:c.name=s<;>simp [e]
theorem MY {mine mine':List Str} (hm : ∀ x,x ∈ mine ↔ x ∈ mine') (hn : ∀ s ∈ mine',AM s=true) : ∀ (l:List FInit) (seen:List Str),iniE mine seen l=iniR mine' seen l
 | [],_=>rfl
 | x::r,seen=>by
  rw [iniE,iniR,MY hm hn r,decide_eq_decide.2 (hm x.slot)]
  by_cases h:x.slot ∈ mine'
  ·rw [decide_eq_true h,hn _ h];cases decide (x.slot ∈ seen)<;>cases inB x.n<;>simp
  ·rw [decide_eq_false h];simp
theorem Sw (f:FProg) (hs0 : ∀ s ∈ f.classes.flatMap (·.slots),AM s=true) (hp : ∀ i, ∀ s ∈ prs f i,s ∈ (f.classes.take i).map (·.name)) : ∀ (l pre:List FClass) (hs:List (List Str)),f.classes=pre++l->hs.length=pre.length ->
  (∀ j < pre.length, ∀ x,x ∈ (hs[j]?).getD [] ↔ HasS f j x)->iniL (pre.map (·.name)) hs l=inisR f pre.length l
 | [],_,_,_,_,_=>rfl
 | c::r,pre,hs,hf,hl,hh=>by
  have hil:pre.length < f.classes.length:=by rw [hf];simp
  have hci:f.classes[pre.length]=c:=by simp [hf]
  have hpr:prs f pre.length=c.parents:=by unfold prs;rw [List.getElem?_eq_getElem hil,hci];rfl
  have htk:f.classes.take pre.length=pre:=by rw [hf];simp
  have hix : ∀ i, ∀ s ∈ prs f i,ixN f s < i/\idxG s ((f.classes.take i).map (·.name)) 0=ixN f s:=fun i s hs=>by
   have h1:=hp i s hs
   have h2:idxG s (f.classes.map (·.name)) 0=idxG s ((f.classes.take i).map (·.name)) 0:=by
    conv=>lhs;rw [<- List.take_append_drop i f.classes,List.map_append]
    exact LT s _ _ 0 h1
   have h3:=(HH s ((f.classes.take i).map (·.name)) 0 h1).2
   rw [List.length_map,List.length_take] at h3
   have h4:ixN f s=(idxG s ((f.classes.take i).map (·.name)) 0).toNat:=by rw [<- h2,N0];rfl
   rw [h4];omega
  have hmine : ∀ x,x ∈ E5 (pre.map (·.name)) hs c ↔ HasS f pre.length x:=fun x=>by
   unfold E5
   rw [List.mem_append,List.mem_flatMap]
   constructor
   ·rintro (⟨s,h1,h2⟩ | h)
    ·rw [<- hpr] at h1
     obtain ⟨g1,g2⟩:=hix _ s h1
     rw [htk] at g2
     unfold N1 at h2
     rw [g2,show ((ixN f s:Nat):Int).toNat=ixN f s by omega] at h2
     obtain ⟨j,a1,a2⟩:=(hh _ g1 x).1 h2
     exact ⟨j, .step h1 a1,a2⟩
    ·exact ⟨pre.length, .refl _,hil,by rw [hci];exact h⟩
   ·rintro ⟨j,h1,h2⟩
    cases h1 with
    | refl =>
     obtain ⟨h3,h4⟩:=h2
     right;rw [hci] at h4;exact h4
    | step hs1 h1 =>
     rename_i s
     obtain ⟨g1,g2⟩:=hix _ s hs1
     rw [htk] at g2
     refine .inl ⟨s,by rw [<- hpr];exact hs1, ?_⟩
     unfold N1
     rw [g2,show ((ixN f s:Nat):Int).toNat=ixN f s by omega]
     exact (hh _ g1 x).2 ⟨j,h1,h2⟩
  have hR : ∀ x,x ∈ I5 f.classes ((abvF f pre.length).set pre.length true) ↔ HasS f pre.length x:=fun x=>by
   rw [Ja]
   refine exists_congr fun j => ?_
   rw [W8 f _ hil (fun i s hs=>(hix i s hs).1) j]
   exact ⟨fun ⟨a,b,c⟩=>⟨b,a,c⟩,fun ⟨b,a,c⟩=>⟨a,b,c⟩⟩
  rw [iniL,inisR,MY (fun x=>(hmine x).trans (hR x).symm) (fun s hs=>by
   obtain ⟨j,_,h1,h2⟩:=(hR s).1 hs
   exact hs0 s (List.mem_flatMap.2 ⟨_,List.getElem_mem h1,h2⟩))]
  congr 1
  have ih:=Sw f hs0 hp r (pre++[c]) (hs++[E5 (pre.map (·.name)) hs c]) (by rw [hf];simp) (by simp [hl]) (fun j hj x=>by
   by_cases h1:j < hs.length
   ·rw [List.getElem?_append_left h1];exact hh j (by omega) x
   ·have:j=pre.length:=by simp only [List.length_append,List.length_cons,List.length_nil] at hj;omega
    subst this
    rw [List.getElem?_append_right (by omega),hl,Nat.sub_self]
    exact hmine x)
  rw [List.map_append] at ih
  simp only [List.map_cons,List.map_nil,List.length_append,List.length_cons,List.length_nil,Nat.zero_add] at ih
  exact ih
theorem GA : ∀ (l:List FClass) (own:List Str),Ch own l=true -> ∀ i, ∀ s ∈ ((l[i]?).map (·.parents)).getD [],s ∈ own++(l.take i).map (·.name)
 | [],_,_,i,s,h=>by simp at h
 | c::r,own,h,i,s,hs=>by
  rw [Ch] at h
  simp only [Bool.and_eq_true] at h
  cases i with
  | zero =>
   have hs:s ∈ c.parents:=by simpa using hs
   have:=List.all_eq_true.1 h.2.1 s hs
   simpa using this
  | succ i =>
   have:=GA r (own++[c.name]) h.2.2 i s (by simpa using hs)
   simpa [List.append_assoc] using this
theorem clsB_eq (f:FProg):clsB f=(DN f && inisR f 0 f.classes):=by
 have h10:decide (f.classes.length<=10) = !decide (10 < f.classes.length):=by rw [<- decide_not];exact decide_eq_decide.2 (by omega)
 unfold clsB DN
 rw [Lc,h10,Bool.and_assoc]
 congr 1
 rw [Bool.eq_iff_iff]
 have hS:=UD f.classes [] [] (fun s hs=>by cases hs)
 unfold D5
 simp only [Bool.and_eq_true]
 rw [hS]
 have key:Ch [] f.classes=true->(f.classes.flatMap (·.slots)).all AM=true->iniL [] [] f.classes=inisR f 0 f.classes:=fun h1 h2 =>
  Sw f (fun s hs=>List.all_eq_true.1 h2 s hs) (fun i s hs=>by have:=GA _ _ h1 i s hs;simpa using this) f.classes [] [] rfl rfl (fun j hj=>by simp at hj)
 constructor
 ·rintro ⟨⟨a,b,c⟩,d⟩
  exact ⟨⟨a,b,c⟩,by rw [<- key a c.1];exact d⟩
 ·rintro ⟨⟨a,b,c⟩,d⟩
  exact ⟨⟨a,b,c⟩,by rw [key a c.1];exact d⟩
theorem RI (f:FProg):F7 f=(Bw f).isSome:=by
 unfold F7 Bw K8
 rw [clsB_eq]
 by_cases h1:DN f=true
 ·by_cases h2:inisR f 0 f.classes=true
  ·by_cases h3:f.methods.length<=16
   ·have hcl:f.classes.length<=10:=by
     unfold DN at h1
     simp only [Bool.and_eq_true,Bool.not_eq_true',decide_eq_false_iff_not] at h1
     omega
    rw [h1,h2,decide_eq_true h3]
    simp only [Bool.true_and,Bool.and_true,if_true]
    have hk:=MV (names:=f.classes.map (·.name)) (slots:=f.classes.flatMap (·.slots)) (args:=[]) (lits:=false) (e:=f.main) (n:=(f.classes.length:Int)) (by omega)
    cases hm:BM (f.classes.map (·.name)) (f.classes.flatMap (·.slots)) [] false f.main f.classes.length with
    | none =>
     simp only [Option.isSome_none]
     rw [Bool.eq_false_iff]
     intro hh
     simp only [Bool.and_eq_true,decide_eq_true_eq] at hh
     obtain ⟨a,⟨b,c⟩,_⟩:=hh
     unfold budR at b
     have:=(hk (f.classes.length+(allE f.main).length)).2 ⟨a,rfl,by omega,c⟩
     rw [this] at hm;cases hm
    | some n =>
     obtain ⟨a,b,c,d⟩:=(hk n).1 hm
     have hb:budR f=120-n:=by unfold budR;omega
     have ho:ownR f=f.classes.map (·.name):=rfl
     have hsl:slotsR f=f.classes.flatMap (·.slots):=rfl
     have hms:=MK (names:=f.classes.map (·.name)) (slots:=f.classes.flatMap (·.slots)) f.methods n (by omega) c
     rw [hb,ho,hsl, <- hms,d,a,decide_eq_true (show 0<=120-n by omega)]
     simp only [Bool.true_and]
     cases hmm:Dh (f.classes.map (·.name)) (f.classes.flatMap (·.slots)) f.methods n with
     | none=>rfl
     | some k =>
      simp only [Option.isSome_some,Bool.true_and]
      cases hg:((Bu f).2 && decide ((Bu f).1.length<=8))<;>simp
   ·rw [decide_eq_false h3];simp
  ·simp [h2]
 ·simp [h1]
end Go.DL
namespace Go.DL
open Go.Proofs.Tryz
open Go Go.Proofs
set_option maxHeartbeats 8000000
def numM:List Str->Int->List (Str × Int)->List (Str × Int)
 | [],_,m=>m
 | s::r,b,m=>numM r (b+1) (putM s b m)
def cNum (m:List (Str × Int)):D := .cmap ((eSN m).map (·.1)) ((eSN m).map (·.2))
theorem Ud (l:List Str) (b:Int) (o:Own) (V:Sig) (hl:l.length<=1073741824) (hb:0<=b/\b<=1000):DCall prog 101 [.slice (cS l) o,dI b] V (rS (cNum (numM l b [])) V):=by
 obtain ⟨hb0,hb1⟩:=hb
 refine en func101 ntmps101 ?_
 refine gz ?_
 refine RO (fun im him => ?_)
 refine gz ?_
 refine AQ [1,4,5,9,10,22] (fun (k:Nat) (m:List (Str × Int))=>k<=l.length/\numM l b []=numM (l.drop k) (b+k) m) (fun k _=>[(11,dI k)]) (fun _ m=>V.set im (.map (eSN m))) (fun k _=>l.length-k) (0) ([]) (by simp) (fun k m hI => ?_)
 obtain ⟨hk,hR⟩:=hI
 by_cases hkl:k < l.length
 ·rw [A3 hkl,numM] at hR
  refine gz ?_
  exact ⟨k+1,putM l[k] (b+k) m,⟨by omega,by rw [hR];congr 1;omega⟩,td1,wkR⟩
 ·rw [A2 hkl,numM] at hR
  repeat ((fail_if_success (first | (refine cfr 22 (i:=im) (m:=eSN m) (w7 ..) ?_) | fail));(refine goX1 trivial ?_))
  refine cfr 22 (i:=im) (m:=eSN m) (w7 ..) ?_
  rw [Sig.set_del _ _ him,hR]
  refine gz ?_
  exact fe1 trivial
@[reducible,instance] def a101:=fun l b o V=>ah2 (@Ud l b o V)
theorem Nw (c:FClass) (V:Sig):DCall prog 103 [.agg (An c)] V (rS (.str c.name) V):=by
 refine en func103 ntmps103 ?_
 refine gz ?_
 exact fe1 trivial
theorem Du (l:List Str) (b:Int) (o:Own) (V:Sig) (hl:l.length<=1073741824) (hb:0<=b/\b<=1000):DCall prog 101 [.slice (cS l) o,dI b] V fun x S' => ∃ im,V im=none/\x = .ret (.map im)/\S'=V.set im (.map (eSN (numM l b []))):=by
 obtain ⟨hb0,hb1⟩:=hb
 refine en func101 ntmps101 ?_
 refine gz ?_
 refine RO (fun im him => ?_)
 refine gz ?_
 refine AQ [1,4,5,9,10,22] (fun (k:Nat) (m:List (Str × Int))=>k<=l.length/\numM l b []=numM (l.drop k) (b+k) m) (fun k _=>[(11,dI k)]) (fun _ m=>V.set im (.map (eSN m))) (fun k _=>l.length-k) (0) ([]) (by simp) (fun k m hI => ?_)
 obtain ⟨hk,hR⟩:=hI
 by_cases hkl:k < l.length
 ·rw [A3 hkl,numM] at hR
  refine gz ?_
  exact ⟨k+1,putM l[k] (b+k) m,⟨by omega,by rw [hR];congr 1;omega⟩,td1,wkR⟩
 ·rw [A2 hkl,numM] at hR
  refine gz ?_
  exact fin1 (S':=V.set im (.map (eSN m))) ⟨im,him,rfl,by rw [hR]⟩
structure EnvS (ib ia is ig:Nat) (p6:List D) (cm sm gm:List (Str × Int)) (V:Sig):Prop where
 env : ∃ a b c d e f,p6=[a,b,c,d,e,f]/\V ib=some (.cells [a,b,c,d,e,f, .map ia, .map is, .map ig])
 oa:V ia=some (.map (eSN cm))
 os:V is=some (.map (eSN sm))
 og:V ig=some (.map (eSN gm))
theorem EnvS.sub {ib ia is ig:Nat} {p6:List D} {cm sm gm:List (Str × Int)} {V S':Sig} (h:EnvS ib ia is ig p6 cm sm gm V) (hs:Sub V S'):EnvS ib ia is ig p6 cm sm gm S':=by
 obtain ⟨⟨a,b,c,d,e,f,h1,h2⟩,h3,h4,h5⟩:=h
 exact ⟨⟨a,b,c,d,e,f,h1,hs _ _ h2⟩,hs _ _ h3,hs _ _ h4,hs _ _ h5⟩
section
variable {ib ia is ig:Nat} {p6:List D} {cm sm gm:List (Str × Int)} {V:Sig}
theorem L3 (s:Str) (hE:EnvS ib ia is ig p6 cm sm gm V):DCall prog 108 [.str s, .cptr [.ptr ib 0] 0] V (rS (dI (getM 0 s cm)) V):=by
 obtain ⟨⟨a,b,c,d,e,f,rfl,o1⟩,o2,o3,o4⟩:=hE
 refine en func108 ntmps108 ?_
 refine gf (gi o1 (gi o2 (gi o3 o4))) ?_
 exact fe1 trivial
theorem L2 (s:Str) (hE:EnvS ib ia is ig p6 cm sm gm V):DCall prog 109 [.str s, .cptr [.ptr ib 0] 0] V (rS (dI (getM 0 s sm)) V):=by
 obtain ⟨⟨a,b,c,d,e,f,rfl,o1⟩,o2,o3,o4⟩:=hE
 refine en func109 ntmps109 ?_
 refine gf (gi o1 (gi o2 (gi o3 o4))) ?_
 exact fe1 trivial
theorem L1 (x:FInit) (hE:EnvS ib ia is ig p6 cm sm gm V):DCall prog 111 [.agg (F6 x), .cptr [.ptr ib 0] 0] V (rS (.agg (Dg ⟨getM 0 x.slot sm,x.n⟩)) V):=by
 obtain ⟨⟨a,b,c,d,e,f,rfl,o1⟩,o2,o3,o4⟩:=hE
 refine en func111 ntmps111 ?_
 refine gz ?_ o111
 refine newV (fun i hi => ?_)
 have n1:ib ≠ i:=A1 o1 hi
 have n2:ia ≠ i:=A1 o2 hi
 have n3:is ≠ i:=A1 o3 hi
 refine gf (gi o1 (gi o2 (gi o3 o4))) ?_ o111
 exact finC (S':=V) ⟨rfl,rfl⟩
def GB (cm sm:List (Str × Int)) (c:FClass):BClass:=⟨c.parents.map fun s=>getM 0 s cm,c.slots.map fun s=>getM 0 s sm,c.inits.map fun x=>⟨getM 0 x.slot sm,x.n⟩⟩
theorem QU (c:FClass) (hw:c.parents.length<=1073741824/\c.slots.length<=1073741824/\c.inits.length<=1073741824) (hE:EnvS ib ia is ig p6 cm sm gm V):DCall prog 106 [.agg (An c), .cptr [.ptr ib 0] 0] V (rS (.agg (cBClass (GB cm sm c))) V):=by
 obtain ⟨w1,w2,w3⟩:=hw
 refine en func106 ntmps106 ?_
 refine gz ?_ o106
 refine newV (fun i hi => ?_)
 have hE2:=hE.sub (S':=V.set i (.cells [.nils, .nils, .nils])) ((Sub.refl _).set hi)
 repeat' first | refine gz ?_ | refine moR (Fz c.parents (fun s=>getM 0 s cm) 108 [.cptr [.ptr ib 0] 0] _ _ w1 (fun x hx S' hs=>L3 x (hE2.sub hs))) ?_ | refine moP (Fz c.parents (fun s=>getM 0 s cm) 108 [.cptr [.ptr ib 0] 0] _ _ w1 (fun x hx S' hs=>L3 x (hE2.sub hs))) ?_ | refine moR (Fz c.slots (fun s=>getM 0 s sm) 109 [.cptr [.ptr ib 0] 0] _ _ w2 (fun x hx S' hs=>L2 x (hE2.sub hs))) ?_ | refine moP (Fz c.slots (fun s=>getM 0 s sm) 109 [.cptr [.ptr ib 0] 0] _ _ w2 (fun x hx S' hs=>L2 x (hE2.sub hs))) ?_ | refine moR (Nv c.inits (fun x=>⟨getM 0 x.slot sm,x.n⟩) 111 [.cptr [.ptr ib 0] 0] _ _ w3 (fun x hx S' hs=>L1 x (hE2.sub hs))) ?_ | refine moP (Nv c.inits (fun x=>⟨getM 0 x.slot sm,x.n⟩) 111 [.cptr [.ptr ib 0] 0] _ _ w3 (fun x hx S' hs=>L1 x (hE2.sub hs))) ?_ | refine gz ?_ o106 | apply gy<;>intro hh
 exact finC (S':=V) ⟨rfl,rfl⟩ (hw:=by refine B0 ?_;simp [GB])
end
theorem ON {α β:Type} (l:List (α × β)):(l.map (·.1)).zip (l.map (·.2))=l:=by
 induction l with
 | nil=>rfl
 | cons x l ih=>simp only [List.map_cons,List.zip_cons_cons,ih]
theorem Uo (s:List (Str × Int)) (j:Nat):(eSN s).eraseIdx j=eSN (s.eraseIdx j):=by
 unfold eSN eM
 induction s generalizing j with
 | nil=>simp
 | cons x s ih=>cases j with
  | zero=>simp
  | succ j=>simp [ih]
theorem eSN_get {s:List (Str × Int)} {j:Nat} {k v:D} (h:(eSN s)[j]? = some (k,v)) : ∃ hj:j < s.length,k = .str s[j].1/\v=dI s[j].2:=by
 unfold eSN eM at h
 rw [List.getElem?_map] at h
 by_cases hj:j < s.length
 ·rw [List.getElem?_eq_getElem hj] at h
  simp only [Option.map_some,Option.some.injEq,Prod.mk.injEq] at h
  exact ⟨hj,h.1.symm,h.2.symm⟩
 ·rw [List.getElem?_eq_none (by omega)] at h;cases h
section
variable {α β:Type} [DecidableEq α]
theorem EO (k:α) : ∀ m:List (α × β),hasM k m=true ↔ k ∈ m.map (·.1)
 | []=>by simp [hasM]
 | (x,y)::r=>by simp [hasM,EO k r]
theorem Pd (k:α) (v:β) : ∀ m:List (α × β),(putM k v m).map (·.1)=if hasM k m=true then m.map (·.1) else m.map (·.1)++[k]
 | []=>by simp [putM,hasM]
 | (x,y)::r=>by
  by_cases h:k=x
  ·simp [putM,hasM,h]
  ·rw [putM,if_neg h,List.map_cons,Pd k v r,hasM]
   by_cases h2:hasM k r=true<;>simp [h,h2]
theorem J1 (k:α) (v:β) {m:List (α × β)} (h:(m.map (·.1)).Nodup):((putM k v m).map (·.1)).Nodup:=by
 rw [Pd]
 split
 ·exact h
 ·rename_i h2
  rw [List.nodup_append]
  refine ⟨h,by simp,fun a ha b hb e => ?_⟩
  simp only [List.mem_singleton] at hb
  subst hb;subst e
  exact h2 ((EO _ _).2 ha)
theorem KC (z:β) : ∀ (m:List (α × β)) (j:Nat) (hj:j < m.length),(m.map (·.1)).Nodup->((m.eraseIdx j).map (·.1)).Nodup /\ ∀ x,hasM x m=(decide (x=m[j].1) || hasM x (m.eraseIdx j))/\(x ≠ m[j].1->getM z x (m.eraseIdx j)=getM z x m)/\(x=m[j].1->hasM x (m.eraseIdx j)=false/\getM z x m=m[j].2)
 | (a,b)::r,0,_,h=>by
  simp only [List.map_cons,List.nodup_cons] at h
  refine ⟨h.2,fun x=>⟨rfl,fun hx=>by simp only [List.getElem_cons_zero,ne_eq] at hx;simp [getM,hx],fun hx => ?_⟩⟩
  simp only [List.getElem_cons_zero] at hx
  subst hx
  refine ⟨?_,by simp [getM]⟩
  simp only [List.eraseIdx_zero,List.tail_cons]
  cases hh:hasM x r with
  | false=>rfl
  | true=>exact absurd ((EO _ _).1 hh) h.1
 | (a,b)::r,j+1,hj,h=>by
  have hj':j < r.length:=by simpa using hj
  simp only [List.map_cons,List.nodup_cons] at h
  obtain ⟨h1,h2⟩:=KC z r j hj' h.2
  have hsub : ∀ y,y ∈ (r.eraseIdx j).map (·.1)->y ∈ r.map (·.1):=fun y hy=>by
   obtain ⟨p,hp,rfl⟩:=List.mem_map.1 hy
   exact List.mem_map.2 ⟨p,List.mem_of_mem_eraseIdx hp,rfl⟩
  have hmem:r[j].1 ∈ r.map (·.1):=List.mem_map.2 ⟨_,List.getElem_mem hj',rfl⟩
  refine ⟨by simp only [List.eraseIdx_cons_succ,List.map_cons,List.nodup_cons];exact ⟨fun hm=>h.1 (hsub _ hm),h1⟩,fun x => ?_⟩
  obtain ⟨e1,e2,e3⟩:=h2 x
  simp only [List.getElem_cons_succ,List.eraseIdx_cons_succ]
  refine ⟨?_,fun hx => ?_,fun hx => ?_⟩
  ·rw [hasM,e1,hasM];cases decide (x=a)<;>cases decide (x=r[j].1)<;>simp
  ·rw [getM,getM,e2 hx]
  ·have hne:x ≠ a:=fun e=>h.1 (by rw [<- e,hx];exact hmem)
   rw [hasM,getM,if_neg hne]
   exact ⟨by rw [(e3 hx).1];simp [hne],(e3 hx).2⟩
end
theorem SC {α β:Type} [DecidableEq α] {z:β} {k:α} : ∀ {m:List (α × β)},hasM k m=false->getM z k m=z
 | [],_=>rfl
 | (x,y)::r,h=>by
  rw [hasM,Bool.or_eq_false_iff,decide_eq_false_iff_not] at h
  rw [getM,if_neg h.1];exact SC h.2
def NmD (nm:D) (m:List (Str × Int)):Prop:=(nm=cNum m\/(nm = .nilmap/\m=[]))/\(m.map (·.1)).Nodup
def updE (env:Str->Int) (s:Str) (v:Int):Str->Int:=fun x=>if x=s then v else env x
theorem TE (ib:Nat) (nm:D) (m:List (Str × Int)) (size:Int) (s:Str) (V:Sig) (hn:NmD nm m) (hs:0<=size/\size<=2000000000) :
  DCall prog 195 [.agg [.ptr ib 0,nm,dI size], .str s] V fun x S' => ∃ m',x = .ret (.agg [.ptr ib 0,cNum m',dI (size+1)])/\NmD (cNum m') m'/\(∀ x,getM 0 x m'=updE (fun y=>getM 0 y m) s size x)/\S'=V:=by
 obtain ⟨hn,hnd⟩:=hn
 obtain ⟨hs0,hs1⟩:=hs
 have hrange:P2 nm=some (eSN m):=by
  rcases hn with rfl | ⟨rfl,rfl⟩
  ·show some (((eSN m).map (·.1)).zip ((eSN m).map (·.2)))=_
   rw [ON]
  ·rfl
 refine en func195 ntmps195 ?_
 try refine gz ?_ [] [4]
 refine newV (fun i hi => ?_)
 try refine gz ?_ [] [4]
 refine RO (fun im him => ?_)
 try refine gz ?_ [] [4]
 refine rng (kt:=9) (et:=3) (l:=eSN m) (fun it hit => ?_) (hx:=by exact hrange)
 try refine gz ?_ [] [4]
 have n1:i ≠ im:=fun e=>by rw [<- e,w7] at him;cases him
 have n2:im ≠ it:=fun e=>by rw [<- e,w7] at hit;cases hit
 have n3:i ≠ it:=fun e=>by rw [<- e,w8 _ _ n1,w7] at hit;cases hit
 obtain ⟨m1,i2⟩:=A4 him
 have i3:V it=none:=by rw [w8 _ _ (Ne.symm n2),w8 _ _ (Ne.symm n3)] at hit;exact hit
 have h0 : ∀ x,getM 0 x m=if hasM x m=true then getM 0 x m else getM 0 x ([]:List (Str × Int)):=fun x=>by
  by_cases h:hasM x m=true
  ·rw [if_pos h]
  ·rw [if_neg h];exact SC (by simpa using h)
 refine De [1,2,4,5,11,20,21,22,23,24,25,26,27,28,29,30] (fun (L:List (Str × Int)) (acc:List (Str × Int)) (la:Option (D × D))=>(L.map (·.1)).Nodup/\(acc.map (·.1)).Nodup/\(∀ x,getM 0 x m=if hasM x L=true then getM 0 x L else getM 0 x acc)) (fun _ _ _=>[]) (fun L acc la=>((V.set i (.cells [.nilp, .nilmap,dI 0])).set im (.map (eSN acc))).set it (.iter (eSN L) la)) (fun L _ _=>L.length) (m) ([]) (none) (by exact ⟨hnd,by simp,h0⟩) (fun L acc la hI => ?_)
 obtain ⟨hL,hA,hR⟩:=hI
 try refine gz ?_ [] [4]
 refine nxt (fun hL0 => ?_) (fun jj k v hkv => ?_)
 ·have hL1:L=[]:=by unfold eSN eM at hL0;simpa using hL0
  subst hL1
  have hR' : ∀ x,getM 0 x m=getM 0 x acc:=fun x=>by have:=hR x;simpa [hasM] using this
  repeat ((fail_if_success (first | (refine cfr 5 (i:=im) (m:=eSN (putM s size acc)) ((w7 ..)) ?_) | fail));(refine goX1 trivial ?_))
  refine cfr 5 (i:=im) (m:=eSN (putM s size acc)) ((w7 ..)) ?_
  generalize hSe:Sig.del _ im=Se
  have w1:Se i=some (.cells [.nilp, .nilmap,dI 0]):=by rw [<- hSe];simp [Sig.del,n1,w8 _ _ n1,w8 _ _ n3]
  have wS:Sub V Se:=fun j x hj=>by
   have e1:j ≠ i:=A1 hj hi
   have e2:j ≠ im:=A1 hj i2
   have e3:j ≠ it:=A1 hj i3
   rw [<- hSe];simp only [Sig.del,e2,if_false,w8 _ _ e1,w8 _ _ e2,w8 _ _ e3];exact hj
  clear hSe
  try refine gf w1 ?_ [] [4]
  refine finC (S':=V) (d := .agg [.ptr ib 0,cNum (putM s size acc),dI (size+1)]) ⟨_,rfl,⟨.inl rfl,J1 _ _ hA⟩,fun x => ?_,rfl⟩ (hZ:=wS.set hi)
  rw [BP];unfold updE
  split
  ·rfl
  ·exact (hR' x).symm
 ·obtain ⟨hjj,rfl,rfl⟩:=eSN_get hkv
  rw [Uo]
  obtain ⟨e1,e2⟩:=KC (0:Int) L jj hjj hL
  try refine gz ?_ [] [4]
  refine ent ?_
  try refine gz ?_ [] [4]
  have hle:(L.eraseIdx jj).length < L.length:=by rw [List.length_eraseIdx,if_pos hjj];omega
  have hnx : ∀ x,getM 0 x m=if hasM x (L.eraseIdx jj)=true then getM 0 x (L.eraseIdx jj) else getM 0 x (putM L[jj].1 L[jj].2 acc):=fun x=>by
   obtain ⟨f1,f2,f3⟩:=e2 x
   rw [hR x,BP]
   by_cases hx:x=L[jj].1
   ·rw [if_pos hx,(f3 hx).1,f1,decide_eq_true hx,Bool.true_or,if_pos rfl,if_neg (by simp),(f3 hx).2]
   ·rw [if_neg hx,f1,decide_eq_false hx,Bool.false_or,f2 hx]
  have hsub:Sub (((V.set i (.cells [.nilp, .nilmap,dI 0])).set im (.map (eSN (putM L[jj].1 L[jj].2 acc)))).set it (.iter (eSN (L.eraseIdx jj)) (some (.str L[jj].1,dI L[jj].2)))) ((((V.set i (.cells [.nilp, .nilmap,dI 0])).set im (.map (eSN acc))).set it (.iter (eSN (L.eraseIdx jj)) (some (.str L[jj].1,dI L[jj].2)))).set im (.map (eSN (putM L[jj].1 L[jj].2 acc)))):=by
   rw [set_comm _ (Ne.symm n2),w9];exact Sub.refl _
  exact ⟨L.eraseIdx jj,putM L[jj].1 L[jj].2 acc,_,⟨e1,J1 _ _ hA,hnx⟩,td1,wkR⟩
mutual
def bndF (cm sm:List (Str × Int)) (env:Str->Int):FFact->Fact
 | .mk o s p c n k => .mk o (env s) (p.map fun x=>getM 0 x sm) (getM 0 c cm) n (Hm cm sm env k)
def Hm (cm sm:List (Str × Int)) (env:Str->Int):List FFact->List Fact
 | []=>[]
 | x::r=>bndF cm sm env x::Hm cm sm env r
end
theorem NU (cm sm:List (Str × Int)) (env:Str->Int) : ∀ l,Hm cm sm env l=l.map (bndF cm sm env)
 | []=>by rw [Hm];rfl
 | x::r=>by rw [Hm,NU cm sm env r];rfl
theorem bndF_eq (cm sm:List (Str × Int)) (env:Str->Int) (f:FFact):bndF cm sm env f = .mk f.op (env f.name) (f.path.map fun x=>getM 0 x sm) (getM 0 f.cls cm) f.n (f.kids.map (bndF cm sm env)):=by
 cases f;rw [bndF,NU];rfl
theorem QL (l:List FFact) (h:FFact->Fact) (g:Nat) (first cap:List D) (o:Own) (V:Sig) (hl:l.length<=1073741824)
  (hg : ∀ x ∈ l, ∀ S',Sub V S'->DCall prog g (first++[.agg (Bk x)]++cap) S' fun r S''=>r = .ret (.agg (Br (h x)))/\S''=S') :
  DCall prog 197 [.slice (l.map Bk) o, .func (.func g) first cap] V (rS (sl ((l.map h).map Br)) V):=by
 refine en func197 ntmps197 ?_
 try refine gz ?_
 refine Bo 5 6 (fun i hi => ?_)
 refine AQ [1,4,8,9,21,22] (fun (k:Nat) (out:List Fact)=>k<=l.length/\out++(l.drop k).map h=l.map h) (fun k out=>[(10,dI k),(5, .slice (out.map Br) (.tag i))]) (fun _ out=>V.set i (.tail 6 out.length)) (fun k _=>l.length-k) (0) ([]) (by simp) (fun k out hI => ?_)
 obtain ⟨hk,hR⟩:=hI
 have hlen:=congrArg List.length hR
 simp at hlen
 by_cases hh:k < l.length
 ·rw [A3 hh] at hR
  try refine gf hh ?_
  refine Ab (hg (l[k]) (List.getElem_mem hh) _ ((Sub.refl _).set hi)) (fun d S' hr => ?_) (fun d S' hr=>by cases hr.1) (ha:=rfl)
  obtain ⟨e1,e2⟩:=hr
  cases e1
  rw [e2]
  try refine gz ?_
  exact ⟨k+1,out++[h l[k]],⟨by omega,by rw [List.append_assoc];exact hR⟩,td1,wkR⟩
 ·try refine gf hh ?_
  rw [A2 hh] at hR
  simp at hR
  exact finS (S':=V) (es:=out.map Br) ⟨by rw [hR],rfl⟩
section
variable {ib ia is ig:Nat} {p6:List D} {cm sm gm:List (Str × Int)}
theorem TD (s:Str) (nm:D) (size:Int) (V:Sig) (hE:EnvS ib ia is ig p6 cm sm gm V):DCall prog 196 [.str s, .cptr [.ptr ib 0,nm,dI size] 0] V (rS (dI (getM 0 s sm)) V):=by
 obtain ⟨⟨a,b,c,d,e,f,rfl,o1⟩,o2,o3,o4⟩:=hE
 refine en func196 ntmps196 ?_
 try refine gf (gi o1 (gi o2 (gi o3 o4))) ?_
 exact fe1 trivial
theorem NmD.cases {nm:D} {m:List (Str × Int)} (h:NmD nm m):(∃ ks vs,nm = .cmap ks vs/\ks.zip vs=eSN m)\/(nm = .nilmap /\ ∀ x,getM 0 x m=0):=by
 rcases h.1 with rfl | ⟨rfl,rfl⟩
 ·exact .inl ⟨_,_,rfl,ON _⟩
 ·exact .inr ⟨rfl,fun _=>rfl⟩
theorem Ub (nm:D) (m:List (Str × Int)) (size:Int) (hn:NmD nm m) : ∀ (n:Nat) (f:FFact) (V:Sig),f.wt<=n->n<=1073741824->EnvS ib ia is ig p6 cm sm gm V ->
  DCall prog 113 [.agg [.ptr ib 0,nm,dI size], .agg (Bk f)] V (rS (.agg (Br (bndF cm sm (fun y=>getM 0 y m) f))) V):=by
 intro n
 induction n with
 | zero =>
  intro f V hx
  have:=f.wt_pos
  omega
 | succ n ih =>
  intro f V hx hw hE
  obtain ⟨w1,w2,w3,w4,w5⟩:=f.wt_le
  have hpl:f.path.length<=1073741824:=by have:=AZ f.path;omega
  have hE0:=hE
  obtain ⟨⟨a,b,c,d,e,g,rfl,o1⟩,o2,o3,o4⟩:=hE
  refine en func113 ntmps113 ?_
  try refine gz ?_ o113 [4]
  refine newV (fun i hi => ?_)
  have n1:ib ≠ i:=A1 o1 hi
  have n2:ia ≠ i:=A1 o2 hi
  have n3:is ≠ i:=A1 o3 hi
  have hE2:=hE0.sub (S':=V.set i (.cells [dI 0,dI 0, .nils,dI 0,dI 0, .nils])) ((Sub.refl _).set hi)
  have h107:=Fz f.path (fun s=>getM 0 s sm) 196 [.cptr [.ptr ib 0,nm,dI size] 0] .no (V.set i (.cells [dI 0,dI 0, .nils,dI 0,dI 0, .nils])) hpl (fun x hx S' hs=>TD x nm size S' (hE2.sub hs))
  have h197:=QL f.kids (bndF cm sm (fun y=>getM 0 y m)) 113 [.agg [.ptr ib 0,nm,dI size]] [] .no (V.set i (.cells [dI 0,dI 0, .nils,dI 0,dI 0, .nils])) (by omega) (fun x hx S' hs=>ih x S' (by obtain ⟨k,hk,rfl⟩:=List.getElem_of_mem hx;have:=w5 k hk;omega) (by omega) (hE2.sub hs))
  have hb:=bndF_eq cm sm (fun y=>getM 0 y m) f
  rcases hn.cases with ⟨ks,vs,rfl,hz⟩ | ⟨rfl,hz⟩
  ·repeat' first | refine gf (gi hz (gi o1 (gi o2 o3))) ?_ [] [4] | refine moR (h107) ?_ | refine moP (h107) ?_ | refine moR (h197) ?_ | refine moP (h197) ?_ | refine gf (gi hz (gi o1 (gi o2 o3))) ?_ o113 [4] | apply gy<;>intro hh
   exact finC (S':=V) ⟨rfl,rfl⟩ (hw:=by rw [hb];refine B0 ?_;simp [Fact.op,Fact.arg,Fact.path,Fact.cls,Fact.n,Fact.kids])
  ·repeat' first | refine gf (gi o1 (gi o2 o3)) ?_ [] [4] | refine moR (h107) ?_ | refine moP (h107) ?_ | refine moR (h197) ?_ | refine moP (h197) ?_ | refine gf (gi o1 (gi o2 o3)) ?_ o113 [4] | apply gy<;>intro hh
   exact finC (S':=V) ⟨rfl,rfl⟩ (hw:=by rw [hb];refine B0 ?_;simp [Fact.op,Fact.arg,Fact.path,Fact.cls,Fact.n,Fact.kids,hz])
end
def clsN (names:List Str) (s:Str):Int:=if 0<=idxG s lits3 0 then idxG s lits3 0 else idxG s names 0+3
theorem idxG_lt (s:Str) : ∀ (l:List Str) (k:Nat),idxG s l k = -1\/((k:Int)<=idxG s l k/\idxG s l k < k+l.length)
 | [],_ => .inl rfl
 | x::r,k=>by
  rw [idxG]
  split
  ·right;simp only [List.length_cons];omega
  ·rcases idxG_lt s r (k+1) with h | h
   ·exact .inl h
   ·right;simp only [List.length_cons];omega
def BdS (ib:Nat) (a b c d e f:D) (names slots gens:List Str) (V:Sig):Prop:=V ib=some (.cells [a,b,c,d,e,f,sl (cS names),sl (cS slots),sl (cS gens)])
theorem FY (ib:Nat) (a b c d e f:D) (names slots gens:List Str) (s:Str) (V:Sig) (hB:BdS ib a b c d e f names slots gens V) (hn:names.length<=1073741824) :
  DCall prog 129 [.ptr ib 0, .str s] V (rS (dI (clsN names s)) V):=by
 have i1 : ∀ V:Sig,Ans 130 [.slice [[.str [97,110,121]],[.str [105,110,116]],[.str [110,111,110,101]]] .clip, .str s] V True (dI (idxG s lits3 0)):=fun V=>ah0 (Ns lits3 s .clip V (by simp [lits3]))
 have hl:=idxG_lt s names 0
 unfold BdS at hB
 refine en func129 ntmps129 ?_
 by_cases h0:0<=idxG s lits3 0
 ·have hc:clsN names s=idxG s lits3 0:=by unfold clsN;rw [if_pos h0]
  refine gf (gi hB h0) ?_
  refine fin1 (S':=V) ?_
  exact ⟨by rw [hc],rfl⟩
 ·have hc:clsN names s=idxG s names 0+3:=by unfold clsN;rw [if_neg h0]
  refine gf (gi hB h0) ?_
  refine fin1 (S':=V) ?_
  exact ⟨by rw [hc],rfl⟩
mutual
def FE (names slots own:List Str):FFact->Fact
 | .mk o s p c n k => .mk o (if s=[] then 0 else idxG s own 0) (p.map fun x=>idxG x slots 0) (if c=[] then 0 else clsN names c) n (I1 names slots own k)
def I1 (names slots own:List Str):List FFact->List Fact
 | []=>[]
 | x::r=>FE names slots own x::I1 names slots own r
end
theorem Lj (names slots own:List Str) : ∀ l,I1 names slots own l=l.map (FE names slots own)
 | []=>by rw [I1];rfl
 | x::r=>by rw [I1,Lj names slots own r];rfl
theorem W3 (names slots own:List Str) (f:FFact):FE names slots own f = .mk f.op (if f.name=[] then 0 else idxG f.name own 0) (f.path.map fun x=>idxG x slots 0) (if f.cls=[] then 0 else clsN names f.cls) f.n (f.kids.map (FE names slots own)):=by
 cases f;rw [FE,Lj];rfl
structure FcS (i7 i1 i2:Nat) (op A C n:Int) (l:List Int) (ks:List Fact) (V S1:Sig):Prop where
 o7:S1 i7=some (.cells [dI op,dI A, .slice (cI l) (.tag i1),dI C,dI n, .slice (ks.map Br) (.tag i2)])
 o1:S1 i1=some (.tail 1 l.length)
 o2:S1 i2=some (.tail 6 ks.length)
 hS:Sub V S1
theorem FcS.path {i7 i1 i2:Nat} {op A C n:Int} {l:List Int} {ks:List Fact} {V S1:Sig} (h:FcS i7 i1 i2 op A C n l ks V S1) (v:Int) (h12:i1 ≠ i2) (h7:V i7=none) (h1:V i1=none) :
  FcS i7 i1 i2 op A C n (l++[v]) ks V ((S1.set i1 (.tail 1 (l.length+1))).set i7 (.cells [dI op,dI A, .slice (cI l++[[dI v]]) (.tag i1),dI C,dI n, .slice (ks.map Br) (.tag i2)])):=by
 have n1:i1 ≠ i7:=Ac h.o1 h.o7 (by simp)
 have n2:i2 ≠ i7:=Ac h.o2 h.o7 (by simp)
 refine ⟨by rw [w7];simp [cI],by rw [w8 _ _ n1,w7,List.length_append];rfl,by rw [w8 _ _ n2,w8 _ _ (Ne.symm h12)];exact h.o2,fun j o hj => ?_⟩
 rw [w8 _ _ (A1 hj h7),w8 _ _ (A1 hj h1)];exact h.hS j o hj
theorem FcS.kid {i7 i1 i2:Nat} {op A C n:Int} {l:List Int} {ks:List Fact} {V S1:Sig} (h:FcS i7 i1 i2 op A C n l ks V S1) (v:Fact) (h12:i1 ≠ i2) (h7:V i7=none) (h2:V i2=none) :
  FcS i7 i1 i2 op A C n l (ks++[v]) V ((S1.set i2 (.tail 6 (ks.length+1))).set i7 (.cells [dI op,dI A, .slice (cI l) (.tag i1),dI C,dI n, .slice (ks.map Br++[Br v]) (.tag i2)])):=by
 have n1:i1 ≠ i7:=Ac h.o1 h.o7 (by simp)
 have n2:i2 ≠ i7:=Ac h.o2 h.o7 (by simp)
 refine ⟨by rw [w7];simp,by rw [w8 _ _ n1,w8 _ _ h12];exact h.o1,by rw [w8 _ _ n2,w7,List.length_append];rfl,fun j o hj => ?_⟩
 rw [w8 _ _ (A1 hj h7),w8 _ _ (A1 hj h2)];exact h.hS j o hj
section
variable {ib:Nat} {a b c d e f:D} {names slots gens:List Str}
theorem BdS.fresh {V:Sig} {k:Nat} {o:DObj} (h:BdS ib a b c d e f names slots gens V) (hk:V k=none):BdS ib a b c d e f names slots gens (V.set k o):=by
 unfold BdS at *
 rw [w8 _ _ (A1 h hk)];exact h
theorem BdS.sub {V S':Sig} (h:BdS ib a b c d e f names slots gens V) (hs:Sub V S'):BdS ib a b c d e f names slots gens S':=hs _ _ h
theorem QR (hn:names.length<=1000000000) (hsl:slots.length<=1073741824) (own:List Str) (o:Own) (ho:own.length<=1073741824) : ∀ (n:Nat) (x:FFact) (V:Sig),x.wt<=n->n<=1073741824->BdS ib a b c d e f names slots gens V ->
  DCall prog 132 [.ptr ib 0, .agg (Bk x), .slice (cS own) o] V (rS (.agg (Br (FE names slots own x))) V):=by
 intro n
 induction n with
 | zero =>
  intro x V hx
  have:=x.wt_pos
  omega
 | succ n ih =>
  intro x V hx hw hB
  obtain ⟨w1,w2,w3,w4,w5⟩:=x.wt_le
  have hpl:x.path.length<=1073741824:=by have:=AZ x.path;omega
  have hB0:=hB
  unfold BdS at hB
  have i129 : ∀ s (V:Sig),BdS ib a b c d e f names slots gens V->DCall prog 129 [.ptr ib 0, .str s] V (rS (dI (clsN names s)) V):=fun s V h=>FY ib a b c d e f names slots gens s V h (by omega)
  obtain ⟨A,hA⟩ : ∃ A:Int,A=if x.name=[] then 0 else idxG x.name own 0:=⟨_,rfl⟩
  obtain ⟨C,hC⟩ : ∃ C:Int,C=if x.cls=[] then 0 else clsN names x.cls:=⟨_,rfl⟩
  refine en func132 ntmps132 ?_
  refine gz ?_ o132 [6,7]
  refine newV (fun i6 hi6 => ?_)
  refine gz ?_ o132 [6,7]
  refine newV (fun i7 hi7 => ?_)
  obtain ⟨m1,m2⟩:=A4 hi7
  repeat ((fail_if_success (first | (refine dwp_cut2 (x1 := .seq _ _) (x2 := .seq _ _) [] ((V.set i6 (.cells [dI 0,dI 0, .nils,dI 0,dI 0, .nils])).set i7 (.cells [dI x.op,dI A, .nils,dI C,dI x.n, .nils])) ?_ (fun _ hK => ?_)) | fail));(refine goX1 trivial ?_))
  refine dwp_cut2 (x1 := .seq _ _) (x2 := .seq _ _) [] ((V.set i6 (.cells [dI 0,dI 0, .nils,dI 0,dI 0, .nils])).set i7 (.cells [dI x.op,dI A, .nils,dI C,dI x.n, .nils])) ?_ (fun _ hK => ?_)
  ·refine gz ?_ o132 [6,7]
   refine AO i7 2 1 (ds:=[dI x.op,dI A, .nils,dI C,dI x.n, .nils]) (w7 ..) rfl (fun i1 hi1 => ?_)
   obtain ⟨a1,a2⟩:=A4 hi1
   obtain ⟨a3,a4⟩:=A4 a2
   refine AO i7 5 6 (ds:=[dI x.op,dI A, .slice [] (.tag i1),dI C,dI x.n, .nils]) (w7 ..) rfl (fun i2 hi2 => ?_)
   obtain ⟨b1,b2⟩:=A4 hi2
   obtain ⟨b3,b4⟩:=A4 b2
   obtain ⟨b5,b6⟩:=A4 b4
   obtain ⟨b7,b8⟩:=A4 b6
   generalize hU1:Sig.set (Sig.set _ i2 _) i7 _=S1
   have hF1:FcS i7 i1 i2 x.op A C x.n [] [] (V.set i6 (.cells [dI 0,dI 0, .nils,dI 0,dI 0, .nils])) S1:=by
    rw [<- hU1]
    refine ⟨by rw [w7];simp [cI],by rw [w8 _ _ a1,w8 _ _ (Ne.symm b3),w8 _ _ a1];simp,by rw [w8 _ _ b1];simp,fun j o hj => ?_⟩
    rw [w8 _ _ (A1 hj hi7),w8 _ _ (A1 hj b6),w8 _ _ (A1 hj hi7),w8 _ _ (A1 hj a2),w8 _ _ (A1 hj hi7)];exact hj
   refine De [0,2,4,6,7,9,53,54,55,56,57,58,59,60,61,62,63,64,65,66,67,68,69,70,71,72,73] (fun (k:Nat) (l:List Int) (S2:Sig)=>k<=x.path.length/\l++((x.path.drop k).map fun x=>idxG x slots 0)=(x.path.map fun x=>idxG x slots 0)/\FcS i7 i1 i2 x.op A C x.n l [] (V.set i6 (.cells [dI 0,dI 0, .nils,dI 0,dI 0, .nils])) S2) (fun k _ _=>[(8,dI k)]) (fun _ _ S2=>S2) (fun k _ _=>x.path.length-k) (0) ([]) (_) (by exact ⟨by omega,rfl,hF1⟩) (fun k l S2 hI => ?_)
   obtain ⟨hk,hR,o7,o1,o2,hS2⟩:=hI
   have hlen:=congrArg List.length hR
   simp at hlen
   by_cases hkl:k < x.path.length
   ·rw [A3 hkl,List.map_cons] at hR
    have n71:i7 ≠ i1:=Ac o7 o1 (by simp)
    have n72:i7 ≠ i2:=Ac o7 o2 (by simp)
    have n12:i1 ≠ i2:=Ne.symm b3
    have nb1:ib ≠ i1:=A1 hB a4
    have hS20:Sub V S2:=fun j o hj=>hS2 j o ((Sub.refl _).set hi6 j o hj)
    have oB:=hS20 _ _ hB
    have u7:(S2.out fun j=>j=i1) i7=some (.cells [dI x.op,dI A, .slice (cI l) (.tag i1),dI C,dI x.n, .slice (([]:List Fact).map Br) (.tag i2)]):=C8 o7 n71
    have uB:(S2.out fun j=>j=i1) ib=some (.cells [a,b,c,d,e,f,sl (cS names),sl (cS slots),sl (cS gens)]):=C8 oB nb1
    have hsub0:Sub (S2.out fun j=>j=i1) S2:=By _ _
    have hsub1:Sub (S2.out fun j=>j=i1) (S2.set i1 (.tail 1 (l.length+1))):=fun j o hj=>by
     obtain ⟨h1,h2⟩:=C9 hj
     rw [w8 _ _ h2];exact h1
    refine gz ?_ (delO 9 o132) [6,7]
    refine DC (id:=9) [0,1,2,3,4,5,6,7,8,9,10,11,12,13,14] [11,13] (S2.out fun j=>j=i1) hsub0 ?_
    refine gf (gi u7 (gi uB (gi o7 o1))) ?_ o132 [6,7]
    exact ⟨k+1,l++[idxG x.path[k] slots 0],_,⟨by omega,by rw [List.append_assoc];exact hR,FcS.path (ks:=[]) ⟨o7,o1,o2,hS2⟩ _ n12 hi7 a2⟩,td1,wkR⟩
   ·rw [A2 hkl,List.map_nil,List.append_nil] at hR
    subst hR
    have n71:i7 ≠ i1:=Ac o7 o1 (by simp)
    have n12:i1 ≠ i2:=Ne.symm b3
    refine gz ?_ o132 [6,7]
    clear hlen hk hkl hF1 hU1
    refine De [0,2,4,6,7,73] (fun (k:Nat) (ks:List Fact) (S3:Sig)=>k<=x.kids.length/\ks++(x.kids.drop k).map (FE names slots own)=x.kids.map (FE names slots own)/\FcS i7 i1 i2 x.op A C x.n (x.path.map fun x=>idxG x slots 0) ks (V.set i6 (.cells [dI 0,dI 0, .nils,dI 0,dI 0, .nils])) S3) (fun k _ _=>[(9,dI k)]) (fun _ _ S3=>S3) (fun k _ _=>x.kids.length-k) (0) ([]) (_) (by exact ⟨by omega,rfl,o7,o1,o2,hS2⟩) (fun k ks S3 hI => ?_)
    obtain ⟨hk,hR,p7,p1',p2',hS3⟩:=hI
    have hlen:=congrArg List.length hR
    simp at hlen
    have n72:i7 ≠ i2:=Ac p7 p2' (by simp)
    have nb2:ib ≠ i2:=A1 hB b8
    have hS30:Sub V S3:=fun j o hj=>hS3 j o ((Sub.refl _).set hi6 j o hj)
    have oB:=hS30 _ _ hB
    by_cases hkl:k < x.kids.length
    ·rw [A3 hkl,List.map_cons] at hR
     have hwk:=w5 k hkl
     have u7:(S3.out fun j=>j=i2) i7=some (.cells [dI x.op,dI A, .slice (cI (x.path.map fun x=>idxG x slots 0)) (.tag i1),dI C,dI x.n, .slice (ks.map Br) (.tag i2)]):=C8 p7 n72
     have hsub0:Sub (S3.out fun j=>j=i2) S3:=By _ _
     have hsub1:Sub (S3.out fun j=>j=i2) (S3.set i2 (.tail 6 (ks.length+1))):=fun j o hj=>by
      obtain ⟨h1,h2⟩:=C9 hj
      rw [w8 _ _ h2];exact h1
     refine gz ?_ (delO 13 o132) [6,7]
     refine DC (id:=13) [0,1,2,3,4,5,6,7,8,9,10,11,12] [9,11] (S3.out fun j=>j=i2) hsub0 ?_
     repeat' first | refine gf (gi u7 (gi p7 p2')) ?_ [] [6,7] | refine moR (ih x.kids[k] S3 (by omega) (by omega) oB) ?_ | refine moP (ih x.kids[k] S3 (by omega) (by omega) oB) ?_ | refine gf (gi u7 (gi p7 p2')) ?_ o132 [6,7] | apply gy<;>intro hh
     exact ⟨k+1,ks++[FE names slots own x.kids[k]],_,⟨by omega,by rw [List.append_assoc];exact hR,FcS.kid ⟨p7,p1',p2',hS3⟩ _ n12 hi7 b6⟩,td1,wkR⟩
    ·rw [A2 hkl,List.map_nil,List.append_nil] at hR
     subst hR
     have o6:S3 i6=some (.cells [dI 0,dI 0, .nils,dI 0,dI 0, .nils]):=hS3 _ _ (w7 ..)
     have hS6 : ∀ y,Sub V (S3.set i6 y):=fun y j o hj=>by rw [w8 _ _ (A1 hj hi6)];exact hS30 j o hj
     refine gf p7 ?_ o132 [6,7]
     refine rtl 73 (.agg [dI x.op,dI A,sl (cI (x.path.map fun x=>idxG x slots 0)),dI C,dI x.n,sl ((x.kids.map (FE names slots own)).map Br)]) ?_ (hw:=E2 (Cv (A9 _) (Cv (A9 _) (Cv (Az _ _) (Cv (A9 _) (Cv (A9 _) (Cv (C6 _ (by simp)) O6)))))))
     refine gf o6 ?_ o132 [6,7]
     have hb:=W3 names slots own x
     rw [<- hA, <- hC] at hb
     refine finC (S':=V) ⟨rfl,rfl⟩ (hZ:=hS6 _) (hw := ?_)
     rw [hb]
     refine B0 ?_
     simp [Fact.op,Fact.arg,Fact.path,Fact.cls,Fact.n,Fact.kids]
  ·have hBd : ∀ z y,BdS ib a b c d e f names slots gens ((V.set i6 z).set i7 y):=fun z y=>by
    unfold BdS
    rw [w8 _ _ (A1 hB m2),w8 _ _ (A1 hB hi6)];exact hB
   by_cases hs:x.name=[]
   ·rw [if_pos hs] at hA
    subst hA
    by_cases hc:x.cls=[]
    ·rw [if_pos hc] at hC
     subst hC
     refine gf (gi hs hc) ?_ o132 [6,7]
     exact dwp_wk (Aj (by first | (simp;done) | (simp_all;done)) (Sub.refl _)) hK
    ·rw [if_neg hc] at hC
     repeat' first | refine gf (gi hs hc) ?_ [] [6,7] | refine AE (i129 x.cls _ (hBd _ _)) ?_ | refine callP (i129 x.cls _ (hBd _ _)) ?_ | refine gf (gi hs hc) ?_ o132 [6,7] | apply gy<;>intro hh
     rw [<- hC]
     exact dwp_wk (Aj (by first | (simp;done) | (simp_all;done)) (Sub.refl _)) hK
   ·rw [if_neg hs] at hA
    by_cases hc:x.cls=[]
    ·rw [if_pos hc] at hC
     subst hC
     refine gf (gi hs hc) ?_ o132 [6,7]
     rw [<- hA]
     exact dwp_wk (Aj (by first | (simp;done) | (simp_all;done)) (Sub.refl _)) hK
    ·rw [if_neg hc] at hC
     repeat' first | refine gf (gi hs hc) ?_ [] [6,7] | refine AE (i129 x.cls _ (hBd _ _)) ?_ | refine callP (i129 x.cls _ (hBd _ _)) ?_ | refine gf (gi hs hc) ?_ o132 [6,7] | apply gy<;>intro hh
     rw [<- hA, <- hC]
     exact dwp_wk (Aj (by first | (simp;done) | (simp_all;done)) (Sub.refl _)) hK
end
end Go.DL
