/- Part of the proof that the last text ends. -/
import Derived.Test.YtlfimpogphmbdaaGreatM24
import Derived.Test.YtlfimpogphmbdaaGreatM23
import Derived.Test.YtlfimpogphmbdaaGreatM18
import Derived.Test.YtlfimpogphmbdaaGreatM22
import Derived.Test.YtlfimpogphmbdaaGreatM16
set_option linter.all false
namespace Go.DL
open Go.Proofs.Tryz
open Go Go.Proofs
set_option maxHeartbeats 8000000
theorem U4 (e:FExp) (V:Sig) (hw:e.wt<=1073741824):DCall prog 122 [.agg (Am e)] V (rS (.bool (cntE e 1 120).1) V):=by
 refine en func122 ntmps122 ?_
 refine gz ?_ [] [3]
 refine newV (fun ib hib => ?_)
 refine gz ?_ [] [3]
 refine Ab (QI ib _ e 1 120 _ (Nat.le_refl _) hw (by omega) (by omega) (by omega) (by omega) (w7 ..)) (fun x S' hr => ?_) (fun x S' hr=>by cases hr.1)
 obtain ⟨e1,rfl⟩:=hr
 cases e1
 refine gz ?_ [] [3]
 exact fin1 (S':=V) ⟨rfl,rfl⟩ (by rw [w9];exact (Sub.refl _).set hib)
@[reducible,instance] def a122:=fun e V=>ah1 (@U4 e V)
theorem T8 (l:List Str) (s:Str) (o:Own) (V:Sig) (hl:l.length<=1073741824):DCall prog 285 [.slice (cS l) o, .str s] V (rS (sl (cS (ins s l))) V):=by
 refine en func285 ntmps285 ?_
 by_cases hs:s ∈ l
 ·have hi:ins s l=l:=by unfold ins;rw [if_pos hs]
  rw [hi]
  refine gf hs ?_
  exact fin1 (S':=V) ⟨rfl,rfl⟩
 ·have hi:ins s l=l++[s]:=by unfold ins;rw [if_neg hs]
  rw [hi]
  refine gf hs ?_
  refine appN (fun i hi => ?_)
  refine gz ?_
  refine fin1 (S':=V) ⟨rfl,rfl⟩ ?_ (hw := ?_)
  ·exact (Sub.refl _).set hi
  ·refine C6 _ ?_;simp [cS]
@[reducible,instance] def a285:=fun l s o V=>ah1 (@T8 l s o V)
@[simp] theorem binD_lssS (a b:Str):binD .lss (.str a) (.str b)=some (.bool (Op.bytesLess a b)):=rfl
theorem Qx (l:List Str) (o:Own) (V:Sig) (hl:l.length<=1073741824):DCall prog 250 [.slice (cS l) o] V fun x S'=>(∃ l':List Str,x = .ret (sl (cS l'))/\(∀ x,x ∈ l' ↔ x ∈ l)/\l'.length<=l.length)/\S'=V:=by
 refine en func250 ntmps250 ?_
 refine gz ?_ o250
 refine AQ [0,2,58] (fun (k:Nat) (out:List Str)=>k<=l.length/\out.length<=k/\(∀ x,x ∈ out ↔ x ∈ l.take k)) (fun k out=>[(4,dI k),(3,sl (cS out))]) (fun _ _=>V) (fun k _=>l.length-k) (0) ([]) (by simp) (fun k out hI => ?_)
 obtain ⟨hk,hol,hR⟩:=hI
 by_cases hkl:k < l.length
 ·have htk:=List.take_succ_eq_append_getElem hkl
  generalize hlk:l[k]=s at *
  refine gz ?_ o250
  refine Bz [0,2,3,4,6,7,8,9,10,11,29,30,31,32,33,34,35,36,37,38,39,40,41,42,43,44,45,46,47,48,49,50,51,52,53,54,55,56,57,58] (fun (j:Nat)=>j<=out.length) (fun j=>[(5,dI j)]) (fun _=>V) (fun j=>out.length-j) (0) (by omega) (fun j hI => ?_)
  have hmx : ∀ x:Str,x ∈ out.take j++s::out.drop j ↔ x=s\/x ∈ out:=fun x=>by
   rw [List.mem_append,List.mem_cons]
   conv=>rhs;rw [<- List.take_append_drop j out,List.mem_append]
   exact ⟨fun h=>by rcases h with h | h | h<;>simp [h],fun h=>by rcases h with h | h | h<;>simp [h]⟩
  by_cases hj:j < out.length
  ·generalize hoj:out[j]=y at *
   repeat' first | refine gf (gi hlk hoj) ?_ o250 | apply gy<;>intro hh
   ·exact ⟨j+1,by omega,td1,wkR⟩
   ·refine RX (fun i hi => ?_)
    refine gf hlk ?_ o250
    exact ⟨k+1,out.take j++s::out.drop j,⟨by omega,by simp;omega,fun x=>by rw [hmx,htk,List.mem_append, <- hR];simp only [List.mem_singleton];exact or_comm⟩,td1,wkR⟩
   ·have hmem:y ∈ out:=by rw [<- hoj];exact List.getElem_mem hj
    exact ⟨k+1,out,⟨by omega,by omega,fun x=>by rw [htk,List.mem_append, <- hR];simp only [List.mem_singleton];exact ⟨.inl,fun h=>h.elim id fun e=>by rw [e, <- hh];exact hmem⟩⟩,td1,wkR⟩
  ·refine gf hlk ?_ o250
   refine RX (fun i hi => ?_)
   refine gf hlk ?_ o250
   exact ⟨k+1,out.take j++s::out.drop j,⟨by omega,by simp;omega,fun x=>by rw [hmx,htk,List.mem_append, <- hR];simp only [List.mem_singleton];exact or_comm⟩,td1,wkR⟩
 ·refine gz ?_ o250
  have e:l.take k=l:=List.take_of_length_le (by omega)
  rw [e] at hR
  refine fin1 (S':=V) (d':=sl (cS out)) ⟨⟨out,rfl,hR,by omega⟩,rfl⟩
mutual
def CK:FExp->List Str->List Str
 | .mk o n t k,b=>if o=3/\t ∉ b then [t] else BL o t k 0 b
def BL (o:Int) (t:Str):List FExp->Nat->List Str->List Str
 | [],_,_=>[]
 | x::r,i,b=>CK x (if o=9/\i=1 then ins t b else b)++BL o t r (i+1) b
end
theorem So (e:FExp) (b:List Str):CK e b=if e.op=3/\e.text ∉ b then [e.text] else BL e.op e.text e.kids 0 b:=by cases e;rw [CK];rfl
mutual
theorem Eo : ∀ (e:FExp) (b:List Str),(CK e b).length<=e.wt
 | .mk o n t k,b=>by
  have hw:(FExp.mk o n t k).wt=1+t.length+wtL FExp.wt k:=FExp.wt_eq _
  rw [CK]
  split
  ·simp;omega
  ·have:=Jf o t k 0 b;omega
theorem Jf (o:Int) (t:Str) : ∀ (l:List FExp) (i:Nat) (b:List Str),(BL o t l i b).length<=wtL FExp.wt l
 | [],_,_=>by rw [BL];simp
 | x::r,i,b=>by
  have h1:=Eo x (if o=9/\i=1 then ins t b else b)
  have h2:=Jf o t r (i+1) b
  rw [BL,List.length_append,wtL];omega
end
theorem Sv {α:Type} [DecidableEq α] (k:α) (s:List α):(ins k s).length<=s.length+1:=by unfold ins;split<;>simp
theorem Te : ∀ (n:Nat) (e:FExp) (b:List Str) (o:Own) (V:Sig),e.wt<=n->b.length+n<=1073741824->DCall prog 251 [.agg (Am e), .slice (cS b) o] V (rS (sl (cS (CK e b))) V):=by
 intro n
 induction n with
 | zero =>
  intro e b o V hx
  have:=e.wt_pos
  omega
 | succ n ih =>
  intro e b o V hx hn
  obtain ⟨w1,w2,hw3⟩:=e.wt_le
  have hlen:=Eo e b
  have hbl:b.length<=1073741824:=by omega
  rw [So] at hlen ⊢
  refine en func251 ntmps251 ?_
  by_cases h3:e.op=3/\e.text ∉ b
  ·rw [if_pos h3]
   obtain ⟨h3,h4⟩:=h3
   refine gf (gi h3 h4) ?_
   exact fin1 (S':=V) ⟨rfl,rfl⟩
  ·rw [if_neg h3] at hlen ⊢
   have hq:e.op=3->e.text ∈ b:=fun h=>Decidable.byContradiction fun h4=>h3 ⟨h,h4⟩
   by_cases h33:e.op=3
   ·have h4:=hq h33
    refine gf (gi h33 h4) ?_
    refine Bo 5 1 (fun i hi => ?_)
    refine AQ [1,2,4,49] (fun (k:Nat) (out:List Str)=>k<=e.kids.length/\BL e.op e.text e.kids 0 b=out++BL e.op e.text (e.kids.drop k) k b) (fun k out=>[(6,dI k),(5, .slice (cS out) (.tag i))]) (fun _ out=>V.set i (.tail 1 out.length)) (fun k _=>e.kids.length-k) (0) ([]) (by simp) (fun k out hI => ?_)
    obtain ⟨hk,hR⟩:=hI
    have hol:out.length<=(BL e.op e.text e.kids 0 b).length:=by rw [hR,List.length_append];omega
    by_cases hkl:k < e.kids.length
    ·rw [A3 hkl,BL] at hR
     have hxw:=hw3 k hkl
     have hxl:=Eo (e.kids[k]) (if e.op=9/\k=1 then ins e.text b else b)
     generalize hxk:e.kids[k]=x at *
     have i251 : ∀ (b':List Str) (o:Own) (V:Sig),Ans 251 [.agg (Am x), .slice (cS b') o] V (b'.length<=b.length+1) (sl (cS (CK x b'))):=fun b' o V=>ah1 fun h=>ih x b' o V (by omega) (by omega)
     by_cases h9:e.op=9/\k=1
     ·have hil:=Sv e.text b
      rw [if_pos h9] at hR hxl
      exact absurd h9.1 (by omega)
     ·rw [if_neg h9] at hR hxl
      by_cases h99:e.op=9
      ·have hk1 : ¬ k=1:=fun h=>h9 ⟨h99,h⟩
       refine gf (gi h99 (gi hk1 hxk)) ?_
       exact ⟨k+1,out++CK x b,⟨by omega,by rw [hR,List.append_assoc]⟩,td1,wkR⟩
      ·refine gf (gi h99 hxk) ?_
       exact ⟨k+1,out++CK x b,⟨by omega,by rw [hR,List.append_assoc]⟩,td1,wkR⟩
    ·rw [A2 hkl,BL,List.append_nil] at hR
     refine gz ?_
     exact finS (S':=V) (es:=cS out) ⟨by rw [hR],rfl⟩
   ·refine gf h33 ?_
    refine Bo 5 1 (fun i hi => ?_)
    refine AQ [1,2,4,49] (fun (k:Nat) (out:List Str)=>k<=e.kids.length/\BL e.op e.text e.kids 0 b=out++BL e.op e.text (e.kids.drop k) k b) (fun k out=>[(6,dI k),(5, .slice (cS out) (.tag i))]) (fun _ out=>V.set i (.tail 1 out.length)) (fun k _=>e.kids.length-k) (0) ([]) (by simp) (fun k out hI => ?_)
    obtain ⟨hk,hR⟩:=hI
    have hol:out.length<=(BL e.op e.text e.kids 0 b).length:=by rw [hR,List.length_append];omega
    by_cases hkl:k < e.kids.length
    ·rw [A3 hkl,BL] at hR
     have hxw:=hw3 k hkl
     have hxl:=Eo (e.kids[k]) (if e.op=9/\k=1 then ins e.text b else b)
     generalize hxk:e.kids[k]=x at *
     have i251 : ∀ (b':List Str) (o:Own) (V:Sig),Ans 251 [.agg (Am x), .slice (cS b') o] V (b'.length<=b.length+1) (sl (cS (CK x b'))):=fun b' o V=>ah1 fun h=>ih x b' o V (by omega) (by omega)
     by_cases h9:e.op=9/\k=1
     ·have hil:=Sv e.text b
      rw [if_pos h9] at hR hxl
      obtain ⟨h91,rfl⟩:=h9
      refine gf (gi h91 hxk) ?_
      exact ⟨1+1,out++CK x (ins e.text b),⟨by omega,by rw [hR,List.append_assoc]⟩,td1,wkR⟩
     ·rw [if_neg h9] at hR hxl
      by_cases h99:e.op=9
      ·have hk1 : ¬ k=1:=fun h=>h9 ⟨h99,h⟩
       refine gf (gi h99 (gi hk1 hxk)) ?_
       exact ⟨k+1,out++CK x b,⟨by omega,by rw [hR,List.append_assoc]⟩,td1,wkR⟩
      ·refine gf (gi h99 hxk) ?_
       exact ⟨k+1,out++CK x b,⟨by omega,by rw [hR,List.append_assoc]⟩,td1,wkR⟩
    ·rw [A2 hkl,BL,List.append_nil] at hR
     refine gz ?_
     exact finS (S':=V) (es:=cS out) ⟨by rw [hR],rfl⟩
theorem QH (e:FExp) (V:Sig) (hw:e.wt<=1073741824):DCall prog 209 [.agg (Am e)] V fun x S'=>(∃ l':List Str,x = .ret (sl (cS l'))/\(∀ x,x ∈ l' ↔ x ∈ CK e [])/\l'.length<=e.wt)/\S'=V:=by
 have hl:=Eo e []
 have i251 : ∀ V:Sig,Ans 251 [.agg (Am e), .slice [] .no] V True (sl (cS (CK e []))):=fun V=>ah0 (Te e.wt e [] .no V (Nat.le_refl _) (by simpa using hw))
 refine en func209 ntmps209 ?_
 refine gz ?_
 refine Ab (Qx (CK e []) .no _ (by omega)) (fun d S' hr => ?_) (fun d S' hr=>by obtain ⟨⟨_,h,_⟩,_⟩:=hr;cases h)
 obtain ⟨⟨l',h1,h2,h3⟩,rfl⟩:=hr
 cases h1
 refine gz ?_
 refine fin1 (S':=S') (d':=sl (cS l')) ⟨⟨l',rfl,h2,by omega⟩,rfl⟩
def Ed (free slots own:List Str) (next:Bool) (e:FExp):Bool:=(allE e).all (nodK own slots next) && (CK e []).all fun x=>decide (x ∈ free)
theorem Nt (e:FExp) (free slots own:List Str) (next:Bool) (o1 o2 o3:Own) (V:Sig) (hw:e.wt<=1073741824) (hf:free.length<=1073741824) (hs:slots.length<=1073741824) (ho:own.length<=1073741824) :
  DCall prog 124 [.agg (Am e), .slice (cS free) o1, .slice (cS slots) o2, .slice (cS own) o3, .bool next] V (rS (.bool (Ed free slots own next e)) V):=by
 have hal:=E0 e
 have i76 : ∀ V:Sig,Ans 76 [.agg (Am e)] V True (sl ((allE e).map Am)):=fun V=>ah0 (Il e.wt e V (Nat.le_refl _) hw)
 refine en func124 ntmps124 ?_
 refine gz ?_
 generalize hl:allE e=l at *
 refine Bz [1,2,3,4,5,11,13,14,54,55,56,57,58,59,60,61,62,63,64,65,66,67,68] (fun (k:Nat)=>k<=l.length/\l.all (nodK own slots next)=(l.drop k).all (nodK own slots next)) (fun k=>[(12,dI k)]) (fun _=>V) (fun k=>l.length-k) (0) (by simp) (fun k hI => ?_)
 obtain ⟨hk,hR⟩:=hI
 have hfal:(l.drop k).all (nodK own slots next)=false->Ed free slots own next e=false:=fun h=>by unfold Ed;rw [hl,hR,h];rfl
 by_cases hkl:k < l.length
 ·rw [A3 hkl,List.all_cons] at hR hfal
  generalize hxk:l[k]=x at *
  by_cases h4:x.op=4
  ·have hN:nodK own slots next x=decide (x.text ∈ slots):=by unfold nodK;rw [if_pos (.inl h4)]
   rw [hN] at hR hfal
   repeat' first | refine gf (gi hxk h4) ?_ | apply gy<;>intro hh
   ·have hq:=hfal (by rw [decide_eq_false hh];rfl)
    exact fe1 hq
   ·exact ⟨k+1,⟨by omega,by rw [hR,decide_eq_true hh,Bool.true_and]⟩,td1,wkR⟩
  by_cases h7:x.op=7
  ·have hN:nodK own slots next x=decide (x.text ∈ slots):=by unfold nodK;rw [if_pos (.inr h7)]
   rw [hN] at hR hfal
   repeat' first | refine gf (gi hxk h7) ?_ | apply gy<;>intro hh
   ·have hq:=hfal (by rw [decide_eq_false hh];rfl)
    exact fe1 hq
   ·exact ⟨k+1,⟨by omega,by rw [hR,decide_eq_true hh,Bool.true_and]⟩,td1,wkR⟩
  by_cases h6:x.op=6
  ·have hN:nodK own slots next x=decide (x.text ∈ own):=by unfold nodK;rw [if_neg (by omega),if_pos (.inl h6)]
   rw [hN] at hR hfal
   repeat' first | refine gf (gi hxk h6) ?_ | apply gy<;>intro hh
   ·have hq:=hfal (by rw [decide_eq_false hh];rfl)
    exact fe1 hq
   ·exact ⟨k+1,⟨by omega,by rw [hR,decide_eq_true hh,Bool.true_and]⟩,td1,wkR⟩
  by_cases h8:x.op=8
  ·have hN:nodK own slots next x=decide (x.text ∈ own):=by unfold nodK;rw [if_neg (by omega),if_pos (.inr h8)]
   rw [hN] at hR hfal
   repeat' first | refine gf (gi hxk h8) ?_ | apply gy<;>intro hh
   ·have hq:=hfal (by rw [decide_eq_false hh];rfl)
    exact fe1 hq
   ·exact ⟨k+1,⟨by omega,by rw [hR,decide_eq_true hh,Bool.true_and]⟩,td1,wkR⟩
  by_cases h18:x.op=18
  ·have hN:nodK own slots next x=next:=by unfold nodK;rw [if_neg (by omega),if_neg (by omega),if_pos h18]
   rw [hN] at hR hfal
   repeat' first | refine gf (gi hxk h18) ?_ | apply gy<;>intro hh
   ·have hq:=hfal (by rw [hh];rfl)
    exact fe1 hq
   ·exact ⟨k+1,⟨by omega,by rw [hR,hh,Bool.true_and]⟩,td1,wkR⟩
  ·have hN:nodK own slots next x=true:=by unfold nodK;rw [if_neg (by omega),if_neg (by omega),if_neg h18]
   rw [hN] at hR
   refine gf (gi hxk (gi h4 (gi h7 (gi h6 (gi h8 h18))))) ?_
   exact ⟨k+1,⟨by omega,by rw [hR,Bool.true_and]⟩,td1,wkR⟩
 ·rw [A2 hkl,List.all_nil] at hR
  refine gz ?_
  refine Ab (QH e _ hw) (fun d S' hr => ?_) (fun d S' hr=>by obtain ⟨⟨_,h,_⟩,_⟩:=hr;cases h)
  obtain ⟨⟨l',h1,h2,h3⟩,rfl⟩:=hr
  cases h1
  refine gz ?_
  refine Bz [1,13] (fun (m:Nat)=>m<=l'.length /\ ∀ x ∈ l'.take m,x ∈ free) (fun m=>[(14,dI m)]) (fun _=>S') (fun m=>l'.length-m) (0) (by simp) (fun m hI => ?_)
  obtain ⟨hm,hM⟩:=hI
  by_cases hml:m < l'.length
  ·have htk:=List.take_succ_eq_append_getElem hml
   have hmm:=(h2 _).1 (List.getElem_mem hml)
   generalize hxm:l'[m]=x at *
   repeat' first | refine gf hxm ?_ | apply gy<;>intro hh
   ·have hq:Ed free slots own next e=false:=by
     unfold Ed
     rw [Bool.and_eq_false_iff]
     refine .inr (Bool.eq_false_iff.2 fun h=>hh ?_)
     have:=List.all_eq_true.1 h x hmm
     simpa using this
    exact fe1 hq
   ·have hnx : ∀ y ∈ l'.take (m+1),y ∈ free:=fun y hy=>by
     rw [htk] at hy
     rcases List.mem_append.1 hy with h | h
     ·exact hM y h
     ·rw [List.mem_singleton.1 h];exact hh
    exact ⟨m+1,⟨by omega,hnx⟩,td1,wkR⟩
  ·have hq:Ed free slots own next e=true:=by
    unfold Ed
    rw [hl,hR,Bool.true_and,List.all_eq_true]
    intro x hx
    rw [decide_eq_true_eq]
    refine hM x ?_
    rw [List.take_of_length_le (by omega)];exact (h2 x).2 hx
   refine gz ?_
   exact fe1 hq
@[reducible,instance] def a124:=fun e free slots own next o1 o2 o3 V=>ah4 (@Nt e free slots own next o1 o2 o3 V)
def Ch:List Str->List FClass->Bool
 | _,[]=>true
 | own,c::r=>(!decide (3 < c.parents.length) && !decide (4 < c.slots.length) && difE [] c.parents) && (c.parents.all (fun s=>decide (s ∈ own)) && Ch (own++[c.name]) r)
def DN (f:FProg):Bool := !decide (10 < f.classes.length) && (Ch [] f.classes && (D5 (f.classes.map (·.name)) && D5 (f.classes.flatMap (·.slots))))
theorem U6 (f:FProg) (V:Sig) (hw:f.wt<=1073741824):DCall prog 120 [.agg (B3 f)] V (rS (.bool (DN f)) V):=by
 obtain ⟨p1,p2,p3,p4,p5⟩:=f.wt_le
 have hpw : ∀ c ∈ f.classes,c.parents.length<=1073741824/\c.slots.length<=1073741824/\c.name.length<=1073741824 /\ ∀ s ∈ c.slots,s.length<=1073741824:=fun c hc=>by
  obtain ⟨k,hk,rfl⟩:=List.getElem_of_mem hc
  have:=p4 k hk
  obtain ⟨q1,q2,q3,_⟩:=(f.classes[k]).wt_le
  have:=AZ (f.classes[k]).parents
  have:=AZ (f.classes[k]).slots
  refine ⟨by omega,by omega,by omega,fun s hs => ?_⟩
  obtain ⟨j,hj,rfl⟩:=List.getElem_of_mem hs
  have:=Iv _ j hj
  omega
 have hsl:(f.classes.flatMap (·.slots)).length<=1073741824:=by
  have h : ∀ l:List FClass,(l.flatMap (·.slots)).length<=wtL FClass.wt l:=by
   intro l
   induction l with
   | nil=>simp [wtL]
   | cons c l ih=>simp only [List.flatMap_cons,List.length_append,wtL];have:=AZ c.slots;have:=c.wt_le;omega
  have:=h f.classes
  unfold FProg.wt at hw;omega
 have hn1 : ∀ x ∈ f.classes.map (·.name),x.length<=1073741824:=fun x hx=>by obtain ⟨c,hc,rfl⟩:=List.mem_map.1 hx;exact (hpw c hc).2.2.1
 have hn2 : ∀ x ∈ f.classes.flatMap (·.slots),x.length<=1073741824:=fun x hx=>by obtain ⟨c,hc,hx⟩:=List.mem_flatMap.1 hx;exact (hpw c hc).2.2.2 x hx
 refine en func120 ntmps120 ?_
 by_cases h10:10 < f.classes.length
 ·refine gz ?_ o120
  (refine fin1 (S':=V) ?_;exact ⟨by first | rfl | (simp [DN,h10];done) | (simp_all [DN,h10];done) | (rw [Aa,Bool.eq_iff_iff];simp_all [DN,h10]<;>omega),rfl⟩)
 have hN:DN f=(Ch [] f.classes && (D5 (f.classes.map (·.name)) && D5 (f.classes.flatMap (·.slots)))):=by unfold DN;rw [decide_eq_false h10];rfl
 rw [hN]
 refine gz ?_ o120
 refine Bo 3 1 (fun i hi => ?_)
 refine AQ [1,61,62,63,64,65,66,67] (fun (k:Nat) (own:List Str)=>k<=f.classes.length/\own=(f.classes.take k).map (·.name)/\Ch [] f.classes=Ch own (f.classes.drop k)) (fun k own=>[(4,dI k),(3, .slice (cS own) (.tag i))]) (fun _ own=>V.set i (.tail 1 own.length)) (fun k _=>f.classes.length-k) (0) ([]) (by simp) (fun k own hI => ?_)
 obtain ⟨hk,hown,hR⟩:=hI
 have hol:own.length=k:=by rw [hown];simp;omega
 by_cases hkl:k < f.classes.length
 ·rw [A3 hkl,Ch] at hR
  have hq:=hpw _ (List.getElem_mem hkl)
  obtain ⟨q1,q2,q3,q4⟩:=hq
  generalize hc:f.classes[k]=c at *
  have hcl:(cS own).length=k:=by simp [cS,hol]
  have htk:List.take k (cS own++[[D.str c.name]])=cS own:=by rw [List.take_append_of_le_length (by omega),List.take_of_length_le (by omega)]
  by_cases b1:3 < c.parents.length
  ·have hq:Ch [] f.classes=false:=by rw [hR,decide_eq_true b1];rfl
   refine gf hc ?_ o120
   exact fe1 hq
  by_cases b2:4 < c.slots.length
  ·have hq:Ch [] f.classes=false:=by rw [hR,decide_eq_false b1,decide_eq_true b2];rfl
   refine gf hc ?_ o120
   exact fe1 hq
  rw [decide_eq_false b1,decide_eq_false b2] at hR
  simp only [Bool.not_false,Bool.true_and] at hR
  cases b3:difE [] c.parents with
  | false =>
   have hq:Ch [] f.classes=false:=by rw [hR,b3];rfl
   refine gf (gi hc b3) ?_ o120
   exact fe1 hq
  | true =>
   rw [b3,Bool.true_and] at hR
   refine gf (gi hc b3) ?_ o120
   refine Bz [1,3,4,5,11,12,13,14,15,16,17,18,19,20,21,22,23,24,25,26,27,28,29,30,31,32,33,34,35,36,37,38,39,40,41,42,43,61,62,63,64,65,66,67] (fun (j:Nat)=>j<=c.parents.length/\c.parents.all (fun s=>decide (s ∈ own))=(c.parents.drop j).all fun s=>decide (s ∈ own)) (fun j=>[(6,dI j)]) (fun _=>V.set i (.tail 1 (own.length+1))) (fun j=>c.parents.length-j) (0) (by simp) (fun j hI => ?_)
   obtain ⟨hj,hP⟩:=hI
   by_cases hjl:j < c.parents.length
   ·rw [A3 hjl,List.all_cons] at hP
    generalize hs:c.parents[j]=s at *
    repeat' first | refine gf (gi hc (gi hs htk)) ?_ o120 | apply gy<;>intro hh
    ·have hq:Ch [] f.classes=false:=by rw [hR,hP,decide_eq_false hh];rfl
     exact fe1 hq
    ·exact ⟨j+1,⟨by omega,by rw [hP,decide_eq_true hh,Bool.true_and]⟩,td1,wkR⟩
   ·rw [A2 hjl,List.all_nil] at hP
    rw [hP,Bool.true_and] at hR
    refine gf hc ?_ o120
    exact ⟨k+1,own++[c.name],⟨by omega,by rw [hown,List.take_succ_eq_append_getElem hkl,List.map_append,hc];rfl,hR⟩,td1,wkR⟩
 ·rw [A2 hkl,Ch] at hR
  have e:own=f.classes.map (·.name):=by rw [hown,List.take_of_length_le (by omega)]
  rw [hR,Bool.true_and, <- e]
  rw [<- e] at hn1
  repeat' first | refine gz ?_ o120 | apply gy<;>intro hh
  ·exact fe1 hh
  ·exact fe1 hh
@[reducible,instance] def a120:=fun f V=>ah1 (@U6 f V)
theorem idxF_lt {α:Type} (q:α->Bool) : ∀ (l:List α) (k:Nat),idxF q l k = -1\/((k:Int)<=idxF q l k/\idxF q l k < k+l.length)
 | [],k => .inl rfl
 | x::r,k=>by
  rw [idxF]
  split
  ·right;simp only [List.length_cons];omega
  ·rcases idxF_lt q r (k+1) with h | h
   ·exact .inl h
   ·right;simp only [List.length_cons];omega
def CU (f:FProg):List Str->List Bool->List Bool
 | [],b=>b
 | s::r,b=>CU f r (b.set (idxF (fun c:FClass=>decide (c.name=s)) f.classes 0).toNat true)
def abvD (f:FProg) (n:Nat):Nat->List Bool->List Bool
 | 0,b=>b
 | i+1,b=>abvD f n i (if i ≠ n/\b.getD i false=false then b else CU f (((f.classes[i]?).map (·.parents)).getD []) b)
def abvF (f:FProg) (n:Nat):List Bool:=abvD f n (n+1) (List.replicate f.classes.length false)
def ParOK (f:FProg):Prop := ∀ c ∈ f.classes, ∀ s ∈ c.parents,0<=idxF (fun c:FClass=>decide (c.name=s)) f.classes 0
theorem Tu (f:FProg) (n:Nat) (V:Sig) (hw:f.wt<=1073741824) (hn:n < f.classes.length) (hp:ParOK f):DCall prog 206 [.agg (B3 f),dI n] V fun x S' => ∃ r,x = .ret (.sref r 0 f.classes.length f.classes.length)/\V r=none/\S'=V.set r (.cells (BG (abvF f n))):=by
 obtain ⟨p1,p2,p3,p4,p5⟩:=f.wt_le
 have hcl:f.classes.length<=1073741824:=by omega
 refine en func206 ntmps206 ?_
 refine gz ?_ o206
 refine Vd (k:=f.classes.length) (c:=f.classes.length) (z:=[.bool false]) (sz:=1) (fun i hi hm => ?_)
 have e0:mS V (some (i,f.classes.length,(List.replicate (f.classes.length-f.classes.length) [D.bool false]).flatten)) (List.replicate f.classes.length [D.bool false])=V.set i (.cells (BG (List.replicate f.classes.length false))):=by
  simp only [mS,Nat.sub_self,List.replicate_zero,List.flatten_nil,List.append_nil]
  congr 2
  generalize f.classes.length=m
  induction m with
  | zero=>rfl
  | succ m ih=>rw [List.replicate_succ,List.replicate_succ,List.flatten_cons,ih];rfl
 rw [e0]
 generalize hb0:List.replicate f.classes.length false=b0
 have hl0:b0.length=f.classes.length:=by rw [<- hb0];simp
 refine gf hl0 ?_ o206
 refine AQ [1,2,4,5,48] (fun (m:Nat) (bs:List Bool)=>m<=n+1/\bs.length=f.classes.length/\abvD f n m bs=abvF f n) (fun m _=>[(6,dI ((m:Int)-1))]) (fun _ bs=>V.set i (.cells (BG bs))) (fun m _=>m) (n+1) (b0) (by exact ⟨Nat.le_refl _,hl0,by unfold abvF;rw [hb0]⟩) (fun m bs hI => ?_)
 obtain ⟨hm,hbl,hU⟩:=hI
 have hi3:(V.set i (.cells (BG bs))) i=some (.cells (BG bs)):=w7 ..
 cases m with
 | zero =>
  rw [abvD] at hU
  subst hU
  refine gz ?_ o206
  exact fin1 (S':=V.set i (.cells (BG (abvF f n)))) ⟨i,rfl,hi,rfl⟩
 | succ j =>
  have hj:j < f.classes.length:=by omega
  have hjb:j < bs.length:=by omega
  have ej:((j+1:Nat):Int)-1=j:=by omega
  have hgd:bs.getD j false=bs[j]:=by rw [List.getD_eq_getElem?_getD,List.getElem?_eq_getElem hjb];rfl
  rw [abvD,hgd,List.getElem?_eq_getElem hj] at hU
  simp only [Option.map_some,Option.getD_some] at hU
  have hpj:=hp _ (List.getElem_mem hj)
  have hpl:(f.classes[j]).parents.length<=1073741824:=by have:=p4 j hj;have:=(f.classes[j]).wt_le;have:=AZ (f.classes[j]).parents;omega
  by_cases hcont:j ≠ n/\bs[j]=false
  ·rw [if_pos hcont] at hU
   obtain ⟨c1,c2⟩:=hcont
   refine gf (gi ej c2) ?_ o206
   exact ⟨j,bs,⟨by omega,hbl,hU⟩,td1,wkR⟩
  ·rw [if_neg hcont] at hU
   generalize hps:(f.classes[j]).parents=ps at *
   by_cases c1:j=n
   ·subst c1
    refine gf (gi ej hps) ?_ o206
    refine AQ [1,2,4,5,6,7,14,15,16,17,18,19,20,21,22,23,24,25,26,27,28,29,30,31,32,33,48] (fun (q:Nat) (b2:List Bool)=>q<=ps.length/\b2.length=f.classes.length/\CU f ps bs=CU f (ps.drop q) b2) (fun q _=>[(8,dI q)]) (fun _ b2=>V.set i (.cells (BG b2))) (fun q _=>ps.length-q) (0) (bs) (by exact ⟨by omega,hbl,rfl⟩) (fun q b2 hI => ?_)
    obtain ⟨hq,hbl2,hR⟩:=hI
    have hi4:(V.set i (.cells (BG b2))) i=some (.cells (BG b2)):=w7 ..
    by_cases hq':q < ps.length
    ·have hs0:=hpj _ (List.getElem_mem hq')
     have hs1:=idxF_lt (fun c:FClass=>decide (c.name=ps[q])) f.classes 0
     rw [A3 hq',CU] at hR
     generalize hsq:ps[q]=s at *
     obtain ⟨p,hpe⟩ : ∃ p:Nat,idxF (fun c:FClass=>decide (c.name=s)) f.classes 0=(p:Int):=⟨_,(Int.toNat_of_nonneg hs0).symm⟩
     rw [hpe,show ((p:Int)).toNat=p by omega] at hR
     rw [hpe] at hs1
     have hp2:p < b2.length:=by omega
     refine gf (gi hsq hpe) ?_ o206
     exact ⟨q+1,b2.set p true,⟨by omega,by simpa using hbl2,hR⟩,td1,wkR⟩
    ·rw [A2 hq',CU] at hR
     rw [hR] at hU
     refine gz ?_ o206
     exact ⟨j,b2,⟨by omega,hbl2,hU⟩,td1,wkR⟩
   ·have c2:bs[j]=true:=by cases h:bs[j];exact absurd ⟨c1,h⟩ hcont;rfl
    refine gf (gi ej (gi c2 hps)) ?_ o206
    refine AQ [1,2,4,5,6,7,14,15,16,17,18,19,20,21,22,23,24,25,26,27,28,29,30,31,32,33,48] (fun (q:Nat) (b2:List Bool)=>q<=ps.length/\b2.length=f.classes.length/\CU f ps bs=CU f (ps.drop q) b2) (fun q _=>[(8,dI q)]) (fun _ b2=>V.set i (.cells (BG b2))) (fun q _=>ps.length-q) (0) (bs) (by exact ⟨by omega,hbl,rfl⟩) (fun q b2 hI => ?_)
    obtain ⟨hq,hbl2,hR⟩:=hI
    have hi4:(V.set i (.cells (BG b2))) i=some (.cells (BG b2)):=w7 ..
    by_cases hq':q < ps.length
    ·have hs0:=hpj _ (List.getElem_mem hq')
     have hs1:=idxF_lt (fun c:FClass=>decide (c.name=ps[q])) f.classes 0
     rw [A3 hq',CU] at hR
     generalize hsq:ps[q]=s at *
     obtain ⟨p,hpe⟩ : ∃ p:Nat,idxF (fun c:FClass=>decide (c.name=s)) f.classes 0=(p:Int):=⟨_,(Int.toNat_of_nonneg hs0).symm⟩
     rw [hpe,show ((p:Int)).toNat=p by omega] at hR
     rw [hpe] at hs1
     have hp2:p < b2.length:=by omega
     refine gf (gi hsq hpe) ?_ o206
     exact ⟨q+1,b2.set p true,⟨by omega,by simpa using hbl2,hR⟩,td1,wkR⟩
    ·rw [A2 hq',CU] at hR
     rw [hR] at hU
     refine gz ?_ o206
     exact ⟨j,b2,⟨by omega,hbl2,hU⟩,td1,wkR⟩
def I5:List FClass->List Bool->List Str
 | c::cs,b::bs=>(if b=true then c.slots else [])++I5 cs bs
 | _,_=>[]
def iniR (mine:List Str):List Str->List FInit->Bool
 | _,[]=>true
 | seen,x::r=>(decide (x.slot ∈ mine) && (!decide (x.slot ∈ seen) && inB x.n)) && iniR mine (seen++[x.slot]) r
def inisR (f:FProg):Nat->List FClass->Bool
 | _,[]=>true
 | i,c::r=>iniR (I5 f.classes ((abvF f i).set i true)) [] c.inits && inisR f (i+1) r
theorem EY (f:FProg) : ∀ (ps:List Str) (b:List Bool),(CU f ps b).length=b.length
 | [],_=>rfl
 | s::r,b=>by rw [CU,EY f r,List.length_set]
theorem JX (f:FProg) (n:Nat) : ∀ (i:Nat) (b:List Bool),(abvD f n i b).length=b.length
 | 0,_=>rfl
 | i+1,b=>by
  rw [abvD,JX f n i]
  split
  ·rfl
  ·rw [EY]
theorem JW (f:FProg) (n:Nat):(abvF f n).length=f.classes.length:=by rw [abvF,JX,List.length_replicate]
theorem U5 (f:FProg) (V:Sig) (hw:f.wt<=1073741824) (hp:ParOK f) (h10:f.classes.length<=10) (h4 : ∀ c ∈ f.classes,c.slots.length<=4) :
  DCall prog 121 [.agg (B3 f)] V (rS (.bool (inisR f 0 f.classes)) V):=by
 obtain ⟨p1,p2,p3,p4,p5⟩:=f.wt_le
 refine en func121 ntmps121 ?_
 refine gz ?_
 refine Bz [1] (fun (i:Nat)=>i<=f.classes.length/\inisR f 0 f.classes=inisR f i (f.classes.drop i)) (fun i=>[(3,dI i)]) (fun _=>V) (fun i=>f.classes.length-i) (0) (by simp) (fun i hI => ?_)
 obtain ⟨hi,hR⟩:=hI
 by_cases hil:i < f.classes.length
 ·rw [A3 hil,inisR] at hR
  have hwc:=p4 i hil
  have hil2:((f.classes[i]).inits).length<=1073741824:=by have:=(f.classes[i]).wt_le;omega
  refine gz ?_
  refine Ab (Tu f i _ hw hil hp) (fun d S' hr => ?_) (fun d S' hr=>by obtain ⟨_,h,_⟩:=hr;cases h)
  obtain ⟨r,h1,hr0,rfl⟩:=hr
  cases h1
  have hbl:=JW f i
  generalize hb0:abvF f i=b0 at *
  have hi3:(V.set r (.cells (BG b0))) r=some (.cells (BG b0)):=w7 ..
  have hib:i < b0.length:=by omega
  simp only [putD]
  refine gf (gi hbl hi3) ?_
  generalize hb1:b0.set i true=b1 at *
  have hbl1:b1.length=f.classes.length:=by rw [<- hb1,List.length_set];exact hbl
  refine Bo 5 1 (fun ia hia => ?_)
  have hra:r ≠ ia:=fun e=>by rw [<- e,w7] at hia;cases hia
  have ha0:V ia=none:=by rw [w8 _ _ (Ne.symm hra)] at hia;exact hia
  have hrd2:(V.set r (.cells (BG b1))) r=some (.cells (BG b1)):=w7 ..
  have hs1 : ∀ o:DObj,Sub V ((V.set r (.cells (BG b1))).set ia o):=fun o=>((Sub.refl _).set hr0).set ha0
  generalize hS1:V.set r (.cells (BG b1))=S1 at *
  refine AQ [1,2,3,4,6,8,9,10,11,12,13,14,15,16,17,18,19,20,21,22,41,42,43,44,45,46,47,48,49,50,51,52,53,54,55,56,57,58,59,60,61,62,63,64,65,66,67,68,69,70,71,72,73,74,75,76,77,78,79,80,81,82,83,84,85,86] (fun (k:Nat) (mine:List Str)=>k<=f.classes.length/\mine.length<=4*k/\I5 f.classes b1=mine++I5 (f.classes.drop k) (b1.drop k)) (fun k mine=>[(7,dI k),(5, .slice (cS mine) (.tag ia))]) (fun _ mine=>S1.set ia (.tail 1 mine.length)) (fun k _=>f.classes.length-k) (0) ([]) (by simp) (fun k mine hI => ?_)
  obtain ⟨hk,hml,hM⟩:=hI
  by_cases hkl:k < f.classes.length
  ·have hkb:k < b1.length:=by omega
   rw [A3 hkl,A3 hkb,I5] at hM
   have h4k:=h4 _ (List.getElem_mem hkl)
   generalize hck:f.classes[k]=c at *
   cases hbk:b1[k] with
   | true =>
    rw [hbk,if_pos rfl] at hM
    refine gf (gi hrd2 (gi hbl1 (gi hbk hck))) ?_
    exact ⟨k+1,mine++c.slots,⟨by omega,by rw [List.length_append];omega,by rw [hM,List.append_assoc]⟩,td1,wkR⟩
   | false =>
    rw [hbk,if_neg (by simp),List.nil_append] at hM
    refine gf (gi hrd2 (gi hbl1 hbk)) ?_
    exact ⟨k+1,mine,⟨by omega,by omega,hM⟩,td1,wkR⟩
  ·rw [A2 hkl,show I5 [] (b1.drop k)=[] by simp [I5],List.append_nil] at hM
   generalize hci:f.classes[i]=c at *
   generalize hli:c.inits=l at *
   refine gf (gi hbl1 (gi hci hli)) ?_
   refine Bo 6 1 (fun ib hib2 => ?_)
   have hb00:V ib=none:=(hs1 _).none hib2
   refine AQ [1,3,4,5,7,8,10,11,12,13,14,15,16,17,18,19,20,21,22,23,24,25,26,27,28,29,30,31,32,33,34,35,36,37,38,39,40,41,42,43,44,45,46] (fun (j:Nat) (seen:List Str)=>j<=l.length/\seen.length<=j/\iniR mine [] l=iniR mine seen (l.drop j)) (fun j seen=>[(9,dI j),(6, .slice (cS seen) (.tag ib))]) (fun _ seen=>(S1.set ia (.tail 1 mine.length)).set ib (.tail 1 seen.length)) (fun j _=>l.length-j) (0) ([]) (by simp) (fun j seen hI => ?_)
   obtain ⟨hj,hsl,hL⟩:=hI
   have hs3:Sub V ((S1.set ia (.tail 1 mine.length)).set ib (.tail 1 seen.length)):=(hs1 _).set hb00
   rw [hM,hL] at hR
   by_cases hjl:j < l.length
   ·rw [A3 hjl,iniR] at hR hL
    generalize hxj:l[j]=x at *
    by_cases m1:x.slot ∈ mine
    ·by_cases m2:x.slot ∈ seen
     ·have hq:inisR f 0 f.classes=false:=by rw [hR,decide_eq_true m1,decide_eq_true m2];rfl
      refine gf (gi hxj (gi m1 m2)) ?_
      exact fe1 hq
     ·cases m3:inB x.n with
      | false =>
       have hq:inisR f 0 f.classes=false:=by rw [hR,decide_eq_true m1,decide_eq_false m2,m3];rfl
       refine gf (gi hxj (gi m1 (gi m2 m3))) ?_
       exact fe1 hq
      | true =>
       rw [decide_eq_true m1,decide_eq_false m2,m3] at hL
       simp only [Bool.not_false,Bool.true_and] at hL
       refine gf (gi hxj (gi m1 (gi m2 m3))) ?_
       exact ⟨j+1,seen++[x.slot],⟨by omega,by simp;omega,hL⟩,td1,wkR⟩
    ·have hq:inisR f 0 f.classes=false:=by rw [hR,decide_eq_false m1];rfl
     refine gf (gi hxj m1) ?_
     exact fe1 hq
   ·rw [A2 hjl,iniR,Bool.true_and] at hR
    refine gz ?_
    exact ⟨i+1,⟨by omega,hR⟩,td1,wkR⟩
 ·rw [A2 hil,inisR] at hR
  refine gz ?_
  exact fe1 hR
def fctC (P C:List Str) (x:FFact):Bool :=
 (decide ((x.kids.length:Int)=arF x.op) && (if AI x.op=true then decide (x.name ∈ P) else (decide (x.name=[]) && decide (x.path=[]))) && decide (x.path.length<=2)) &&
 (((decide (x.op=2) == !decide (x.cls=[])) && (!decide (x.op=2) || decide (x.cls ∈ C))) && ((decide (x.op=3\/x.op=4) || decide (x.n=0)) && inB x.n))
def fctB (P S C:List Str) (x:FFact):Bool:=decide (1<=x.op/\x.op<=7) && (fctC P C x && x.path.all (fun s=>decide (s ∈ S)))
mutual
def fctE (P S C:List Str):FFact->Int->Int->Bool × Int
 | .mk o s p c n k,d,b=>if b-1 < 0\/12 < d\/fctB P S C (.mk o s p c n k)=false then (false,b-1) else ER P S C k (d+1) (b-1)
def ER (P S C:List Str):List FFact->Int->Int->Bool × Int
 | [],_,b=>(true,b)
 | x::r,d,b=>if (fctE P S C x d b).1=true then ER P S C r d (fctE P S C x d b).2 else (false,(fctE P S C x d b).2)
end
section
variable {P S C:List Str}
theorem SM (e:FFact) (d b:Int):fctE P S C e d b=if b-1 < 0\/12 < d\/fctB P S C e=false then (false,b-1) else ER P S C e.kids (d+1) (b-1):=by cases e;rw [fctE];rfl
mutual
theorem Jy : ∀ (e:FFact) (d b:Int),(fctE P S C e d b).2<=b/\(0<=b -> -1<=(fctE P S C e d b).2)/\((fctE P S C e d b).1=true->0<=(fctE P S C e d b).2)
 | .mk o s p c n k,d,b=>by
  rw [fctE]
  split
  ·refine ⟨?_, ?_, ?_⟩<;>simp<;>omega
  ·have:=Po k (d+1) (b-1)
   exact ⟨by omega,fun h=>this.2.1 (by omega),fun h=>this.2.2 (by omega) h⟩
theorem Po : ∀ (l:List FFact) (d b:Int),(ER P S C l d b).2<=b/\(0<=b -> -1<=(ER P S C l d b).2)/\(0<=b->(ER P S C l d b).1=true->0<=(ER P S C l d b).2)
 | [],d,b=>by rw [ER];exact ⟨Int.le_refl _,fun h=>by simp;omega,fun h _=>h⟩
 | x::r,d,b=>by
  have h1:=Jy x d b
  rw [ER]
  split
  ·rename_i h
   have h2:=Po r d (fctE P S C x d b).2
   have:=h1.2.2 h
   exact ⟨by omega,fun _=>h2.2.1 this,fun _ h3=>h2.2.2 this h3⟩
  ·exact ⟨h1.1,h1.2.1,fun _ h3=>by cases h3⟩
end
theorem Ik (x:FFact):fctC P C x=true ↔
  ((x.kids.length:Int)=arF x.op/\((AI x.op=true/\x.name ∈ P)\/(AI x.op=false/\x.name=[]/\x.path=[]))/\x.path.length<=2) /\
  ((x.op=2/\x.cls ≠ []/\x.cls ∈ C)\/(x.op ≠ 2/\x.cls=[]))/\(((x.op=3\/x.op=4)\/x.n=0)/\inB x.n=true):=by
 unfold fctC
 cases AI x.op<;>by_cases h2:x.op=2<;>by_cases hc:x.cls=[]<;>simp [h2,hc,and_assoc]
theorem QG (ib:Nat) (hP:P.length<=1073741824) (hS:S.length<=1073741824) (hC:C.length<=1073741824) : ∀ (n:Nat) (f:FFact) (d b:Int) (V:Sig),f.wt<=n->n<=1073741824->0<=d->d+n<=2000000000->0<=b->b<=1000->V ib=some (.cells [dI b]) ->
  DCall prog 211 [.agg [sl (cS P),sl (cS S),sl (cS C)], .agg (Bk f),dI d, .ptr ib 0] V fun x S'=>x = .ret (.bool (fctE P S C f d b).1)/\S'=V.set ib (.cells [dI (fctE P S C f d b).2]):=by
 intro n
 induction n with
 | zero =>
  intro f d b V hx
  have:=f.wt_pos
  omega
 | succ n ih =>
  intro f d b V hx hn hd hd2 hb0 hb1 o1
  obtain ⟨w1,w2,w3,w4,hw3⟩:=f.wt_le
  have hpl:f.path.length<=1073741824:=by have:=AZ f.path;omega
  have hwf:f.wt<=1073741824:=by omega
  have hfin:(b-1 < 0\/12 < d\/fctB P S C f=false)->fctE P S C f d b=(false,b-1):=fun h=>by rw [SM,if_pos h]
  have hBf : ¬ fctC P C f=true->fctB P S C f=false:=fun h=>by unfold fctB;rw [Bool.eq_false_iff.2 h];simp
  refine en func211 ntmps211 ?_
  by_cases h1:b-1 < 0
  ·rw [hfin (.inl h1)]
   refine gf o1 ?_ o211
   exact fin1 (S':=V.set ib (.cells [dI (b-1)])) ⟨rfl,rfl⟩
  by_cases h2:12 < d
  ·rw [hfin (.inr (.inl h2))]
   refine gf o1 ?_ o211
   exact fin1 (S':=V.set ib (.cells [dI (b-1)])) ⟨rfl,rfl⟩
  by_cases hop:1<=f.op/\f.op<=7
  ·refine VS [(4, .cptr [sl (cS P),sl (cS S),sl (cS C)] 0),(5, .cptr (Bk f) 0),(8, .bool false),(9, .bool (AI f.op)),(10,dI (arF f.op))] (V.set ib (.cells [dI (b-1)])) ?_ (fun _ hK => ?_)
   ·by_cases hA:(f.kids.length:Int)=arF f.op/\((AI f.op=true/\f.name ∈ P)\/(AI f.op=false/\f.name=[]/\f.path=[]))/\f.path.length<=2
    ·refine dwp_cut1 [] (V.set ib (.cells [dI (b-1)])) ?_ (fun _ hK => ?_)
     ·by_cases hB:(f.op=2/\f.cls ≠ []/\f.cls ∈ C)\/(f.op ≠ 2/\f.cls=[])
      ·refine dwp_cut1 [] (V.set ib (.cells [dI (b-1)])) ?_ (fun _ hK => ?_)
       ·by_cases hN:((f.op=3\/f.op=4)\/f.n=0)/\inB f.n=true
        ·refine dwp_cut1 [] (V.set ib (.cells [dI (b-1)])) ?_ (fun _ hK => ?_)
         ·have hCt:fctC P C f=true:=(Ik f).2 ⟨hA,hB,hN⟩
          refine gz ?_ o211
          refine Bz [2,3,4,5,12,144,145,146,147,148,149,150,151,152,153,154,155,156,157,158,159,160,161] (fun (k:Nat)=>k<=f.path.length/\f.path.all (fun s=>decide (s ∈ S))=(f.path.drop k).all fun s=>decide (s ∈ S)) (fun k=>[(11,dI k)]) (fun _=>V.set ib (.cells [dI (b-1)])) (fun k=>f.path.length-k) (0) (by simp) (fun k hI => ?_)
          obtain ⟨hk,hP1⟩:=hI
          by_cases hkl:k < f.path.length
          ·rw [A3 hkl,List.all_cons] at hP1
           generalize hpk:f.path[k]=s at *
           repeat' first | refine gf hpk ?_ o211 | apply gy<;>intro hh
           ·have hq:fctB P S C f=false:=by unfold fctB;rw [hP1,decide_eq_false hh];simp
            rw [hfin (.inr (.inr hq))]
            exact fin1 (S':=V.set ib (.cells [dI (b-1)])) ⟨rfl,rfl⟩
           ·exact ⟨k+1,⟨by omega,by rw [hP1,decide_eq_true hh,Bool.true_and]⟩,td1,wkR⟩
          ·rw [A2 hkl,List.all_nil] at hP1
           have hq:fctB P S C f=true:=by unfold fctB;rw [hP1,hCt,decide_eq_true hop];rfl
           have hE:fctE P S C f d b=ER P S C f.kids (d+1) (b-1):=by rw [SM,if_neg (by rw [hq];simp;omega)]
           rw [hE]
           refine gz ?_ o211
           refine AQ [2,3,4,5] (fun (j:Nat) (b2:Int)=>j<=f.kids.length/\0<=b2/\b2<=b/\ER P S C f.kids (d+1) (b-1)=ER P S C (f.kids.drop j) (d+1) b2) (fun j _=>[(12,dI j)]) (fun _ b2=>V.set ib (.cells [dI b2])) (fun j _=>f.kids.length-j) (0) (b-1) (by exact ⟨by omega,by omega,by omega,rfl⟩) (fun j b2 hI => ?_)
           obtain ⟨hj,hb2,hbb,hR⟩:=hI
           by_cases hjl:j < f.kids.length
           ·rw [A3 hjl,ER] at hR
            have hxw:=hw3 j hjl
            generalize hkx:f.kids[j]=x at *
            have hle:=Jy (P:=P) (S:=S) (C:=C) x (d+1) b2
            refine gf hkx ?_ (delO 31 o211)
            refine mixAt (id:=31) [0,1,2,3,4,5,6,7,8,9,10] [9] (fun _=>none) (fun _ _ h=>by cases h) ?_
            refine gf hkx ?_ (delO 31 o211)
            refine Dn (ih x (d+1) b2 _ (by omega) (by omega) (by omega) (by omega) hb2 (by omega) (w7 ..)) (fun dd S' hr => ?_) (fun dd S' hr=>by cases hr.1)
            obtain ⟨hr',rfl⟩:=hr
            cases hr'
            rw [w9]
            refine ⟨fun _ _ h=>(by cases h), ?_⟩
            simp only [putD]
            cases hq:(fctE P S C x (d+1) b2).1
            ·rw [if_neg (by rw [hq];simp)] at hR
             rw [hR]
             refine gz ?_ o211
             exact fin1 (S':=V.set ib (.cells [dI (fctE P S C x (d+1) b2).2])) ⟨rfl,rfl⟩
            ·rw [if_pos hq] at hR
             refine gz ?_ o211
             exact ⟨j+1,(fctE P S C x (d+1) b2).2,⟨by omega,hle.2.2 hq,by omega,hR⟩,td1,wkR⟩
           ·rw [A2 hjl,ER] at hR
            rw [hR]
            refine gz ?_ o211
            exact fin1 (S':=V.set ib (.cells [dI b2])) ⟨rfl,rfl⟩
         ·obtain ⟨n1,n2⟩:=hN
          by_cases h3:f.op=3
          ·refine gf (gi h3 n2) ?_ o211
           exact dwp_wk (Aj (by first | (simp;done) | (simp_all;done)) (Sub.refl _)) hK
          ·by_cases h4:f.op=4
           ·refine gf (gi h3 (gi h4 n2)) ?_ o211
            exact dwp_wk (Aj (by first | (simp;done) | (simp_all;done)) (Sub.refl _)) hK
           ·have n0:f.n=0:=n1.resolve_left fun h=>h.elim h3 h4
            refine gf (gi h3 (gi h4 n2)) ?_ o211
            exact dwp_wk (Aj (by first | (simp;done) | (simp_all;done)) (Sub.refl _)) hK
        ·rw [hfin (.inr (.inr (hBf fun h=>hN ((Ik f).1 h).2.2)))]
         by_cases h3:f.op=3
         ·have n2:inB f.n=false:=by cases h:inB f.n;rfl;exact absurd ⟨.inl (.inl h3),h⟩ hN
          refine gf (gi h3 n2) ?_ o211
          exact fin1 (S':=V.set ib (.cells [dI (b-1)])) ⟨rfl,rfl⟩
         ·by_cases h4:f.op=4
          ·have n2:inB f.n=false:=by cases h:inB f.n;rfl;exact absurd ⟨.inl (.inr h4),h⟩ hN
           refine gf (gi h3 (gi h4 n2)) ?_ o211
           exact fin1 (S':=V.set ib (.cells [dI (b-1)])) ⟨rfl,rfl⟩
          ·cases n2:inB f.n with
           | false =>
            repeat' first | refine gf (gi h3 (gi h4 n2)) ?_ o211 | apply gy<;>intro hh
            ·exact fin1 (S':=V.set ib (.cells [dI (b-1)])) ⟨rfl,rfl⟩
            ·exact fin1 (S':=V.set ib (.cells [dI (b-1)])) ⟨rfl,rfl⟩
           | true =>
            repeat' first | refine gf (gi h3 (gi h4 n2)) ?_ o211 | apply gy<;>intro hh
            ·exact fin1 (S':=V.set ib (.cells [dI (b-1)])) ⟨rfl,rfl⟩
            ·exact absurd ⟨.inr hh,n2⟩ hN
       ·rcases hB with ⟨h2,hc,hm⟩ | ⟨h2,hc⟩
        ·refine gf (gi h2 (gi hc hm)) ?_ o211
         exact dwp_wk (Aj (by first | (simp;done) | (simp_all;done)) (Sub.refl _)) hK
        ·refine gf (gi h2 hc) ?_ o211
         exact dwp_wk (Aj (by first | (simp;done) | (simp_all;done)) (Sub.refl _)) hK
      ·rw [hfin (.inr (.inr (hBf fun h=>hB ((Ik f).1 h).2.1)))]
       by_cases h2:f.op=2
       ·by_cases hc:f.cls=[]
        ·refine gf (gi h2 hc) ?_ o211
         exact fin1 (S':=V.set ib (.cells [dI (b-1)])) ⟨rfl,rfl⟩
        ·have hm : ¬ f.cls ∈ C:=fun h=>hB (.inl ⟨h2,hc,h⟩)
         refine gf (gi h2 (gi hc hm)) ?_ o211
         exact fin1 (S':=V.set ib (.cells [dI (b-1)])) ⟨rfl,rfl⟩
       ·have hc : ¬ f.cls=[]:=fun h=>hB (.inr ⟨h2,h⟩)
        refine gf (gi h2 hc) ?_ o211
        exact fin1 (S':=V.set ib (.cells [dI (b-1)])) ⟨rfl,rfl⟩
     ·obtain ⟨c1,c2,c4⟩:=hA
      rcases c2 with ⟨ha,hn⟩ | ⟨ha,hn,hp⟩
      ·refine gf (gi c1 (gi ha hn)) ?_ o211
       exact dwp_wk (Aj (by first | (simp;done) | (simp_all;done)) (Sub.refl _)) hK
      ·refine gf (gi c1 (gi ha (gi hn hp))) ?_ o211
       exact dwp_wk (Aj (by first | (simp;done) | (simp_all;done)) (Sub.refl _)) hK
    ·rw [hfin (.inr (.inr (hBf fun h=>hA ((Ik f).1 h).1)))]
     by_cases c1:(f.kids.length:Int)=arF f.op
     ·cases ha:AI f.op with
      | true =>
       by_cases hn:f.name ∈ P
       ·have c4 : ¬ f.path.length<=2:=fun h=>hA ⟨c1, .inl ⟨ha,hn⟩,h⟩
        refine gf (gi c1 (gi ha hn)) ?_ o211
        exact fin1 (S':=V.set ib (.cells [dI (b-1)])) ⟨rfl,rfl⟩
       ·refine gf (gi c1 (gi ha hn)) ?_ o211
        exact fin1 (S':=V.set ib (.cells [dI (b-1)])) ⟨rfl,rfl⟩
      | false =>
       by_cases hn:f.name=[]
       ·have hp : ¬ f.path.length<=0:=fun h=>hA ⟨c1, .inr ⟨ha,hn,List.length_eq_zero_iff.1 (by omega)⟩,by omega⟩
        refine gf (gi c1 (gi ha hn)) ?_ o211
        exact fin1 (S':=V.set ib (.cells [dI (b-1)])) ⟨rfl,rfl⟩
       ·refine gf (gi c1 (gi ha hn)) ?_ o211
        exact fin1 (S':=V.set ib (.cells [dI (b-1)])) ⟨rfl,rfl⟩
     ·refine gf c1 ?_ o211
      exact fin1 (S':=V.set ib (.cells [dI (b-1)])) ⟨rfl,rfl⟩
   ·have hops:f.op=1\/f.op=2\/f.op=3\/f.op=4\/f.op=5\/f.op=6\/f.op=7:=by omega
    rcases hops with h | h | h | h | h | h | h
    ·repeat' first | refine gf (gi o1 h) ?_ o211 | apply gy<;>intro hh
     any_goals (first | exact dwp_wk (Aj (by first | (simp [h,AI,arF];done) | (simp_all [h,AI,arF];done)) (Sub.refl _)) hK | fail)
    ·repeat' first | refine gf (gi o1 h) ?_ o211 | apply gy<;>intro hh
     any_goals (first | exact dwp_wk (Aj (by first | (simp [h,AI,arF];done) | (simp_all [h,AI,arF];done)) (Sub.refl _)) hK | fail)
    ·repeat' first | refine gf (gi o1 h) ?_ o211 | apply gy<;>intro hh
     any_goals (first | exact dwp_wk (Aj (by first | (simp [h,AI,arF];done) | (simp_all [h,AI,arF];done)) (Sub.refl _)) hK | fail)
    ·repeat' first | refine gf (gi o1 h) ?_ o211 | apply gy<;>intro hh
     any_goals (first | exact dwp_wk (Aj (by first | (simp [h,AI,arF];done) | (simp_all [h,AI,arF];done)) (Sub.refl _)) hK | fail)
    ·repeat' first | refine gf (gi o1 h) ?_ o211 | apply gy<;>intro hh
     any_goals (first | exact dwp_wk (Aj (by first | (simp [h,AI,arF];done) | (simp_all [h,AI,arF];done)) (Sub.refl _)) hK | fail)
    ·repeat' first | refine gf (gi o1 h) ?_ o211 | apply gy<;>intro hh
     any_goals (first | exact dwp_wk (Aj (by first | (simp [h,AI,arF];done) | (simp_all [h,AI,arF];done)) (Sub.refl _)) hK | fail)
    ·repeat' first | refine gf (gi o1 h) ?_ o211 | apply gy<;>intro hh
     any_goals (first | exact dwp_wk (Aj (by first | (simp [h,AI,arF];done) | (simp_all [h,AI,arF];done)) (Sub.refl _)) hK | fail)
  ·rw [hfin (.inr (.inr (by unfold fctB;rw [decide_eq_false hop];rfl)))]
   refine gf o1 ?_ o211
   exact fin1 (S':=V.set ib (.cells [dI (b-1)])) ⟨rfl,rfl⟩
end
def lits3:List Str:=[wAny,wInt,G6]
def Cs (m:FMeth):Bool:=(decide (1<=m.kind) && decide (m.kind<=4)) && (AM m.name && (decide (1<=m.params.length) && (decide (m.params.length<=3) && D5 m.params)))
def CH (slots own:List Str) (m:FMeth) (b:Int):Bool × Int :=
 if Cs m=true then
  if (fctE m.params slots (own++lits3) m.fact 1 b).1=true/\(cntE m.body 1 120).1=true then
   (decide (0<=(fctE m.params slots (own++lits3) m.fact 1 b).2-(allE m.body).length) && Ed m.params slots own (decide (m.kind=1\/m.kind=4)) m.body,(fctE m.params slots (own++lits3) m.fact 1 b).2-(allE m.body).length)
  else (false,(fctE m.params slots (own++lits3) m.fact 1 b).2)
 else (false,b)
theorem QT (m:FMeth) (slots own:List Str) (o2 o3:Own) (ib:Nat) (b:Int) (V:Sig) (hw:m.wt<=1073741824) (hs:slots.length<=1073741824) (ho:own.length<=1000000000) (hb0:0<=b) (hb1:b<=1000) (o1:V ib=some (.cells [dI b])) :
  DCall prog 125 [.agg (Di m), .slice (cS slots) o2, .slice (cS own) o3, .ptr ib 0] V fun x S'=>x = .ret (.bool (CH slots own m b).1)/\S'=V.set ib (.cells [dI (CH slots own m b).2]):=by
 have hself:V.set ib (.cells [dI b])=V:=Sig.set_self _ o1
 have m1:m.name.length < m.wt/\wtS m.params < m.wt/\m.fact.wt < m.wt/\m.body.wt < m.wt:=by unfold FMeth.wt;omega
 obtain ⟨m1,m2,m3,m4⟩:=m1
 have hl3:lits3.length=3:=rfl
 have i76 : ∀ V:Sig,Ans 76 [.agg (Am m.body)] V True (sl ((allE m.body).map Am)):=fun V=>ah0 (Il m.body.wt m.body V (Nat.le_refl _) (by omega))
 have hpl:m.params.length<=1073741824:=by have:=AZ m.params;omega
 have hpx : ∀ x ∈ m.params,x.length<=1073741824:=fun x hx=>by
  obtain ⟨j,hj,rfl⟩:=List.getElem_of_mem hx
  have:=Iv _ j hj
  omega
 refine en func125 ntmps125 ?_
 by_cases k1:1<=m.kind
 ·by_cases k2:m.kind<=4
  ·cases hn:AM m.name with
   | false =>
    refine gf (gi k1 (gi k2 hn)) ?_ (delO 3 o125) [9]
    refine fin1 (S':=V) ?_
    exact ⟨by simp [CH,Cs,hn],by simp [CH,Cs,hn,hself]⟩
   | true =>
    by_cases q1:1<=m.params.length
    ·by_cases q2:m.params.length<=3
     ·cases hq:D5 m.params with
      | false =>
       refine gf (gi k1 (gi k2 (gi hn hq))) ?_ (delO 3 o125) [9]
       refine fin1 (S':=V) ?_
       exact ⟨by simp [CH,Cs,hq],by simp [CH,Cs,hq,hself]⟩
      | true =>
       refine gf (gi k1 (gi k2 (gi hn hq))) ?_ (delO 3 o125) [9]
       refine mixU (id:=3) [0,1,2,3,5,4,6,7,8,9] [9] [4,6] ?_
       refine u3R (.cptr (Di m) 2) ?_
       refine u3R (sl (cS m.params)) ?_
       refine u3R (.slice (cS slots) o2) ?_
       refine u3R (.slice (cS own) o3) ?_
       refine u3R (.slice (cS lits3) .clip) ?_
       refine u3N 1 own.length (fun i hi => ?_)
       refine u3E i (d := .slice (cS own++cS lits3) (.tag i)) (x := .tail 1 (own.length+3)) (w7 ..) hi ?_ (he:=by
        intro τ hO
        simp [hO,hl3]
        omega)
       refine u3R (.agg [sl (cS m.params), .slice (cS slots) o2, .slice (cS own++cS lits3) (.tag i)]) ?_
       refine u3A [.nils, .nils, .nils] (fun i9 hi9 => ?_)
       have hs1:Sub V ((((V.set i (.tail 1 own.length)).set i (.tail 1 (own.length+3))).set i9 (.cells [.nils, .nils, .nils])).set i9 (.cells [sl (cS m.params), .slice (cS slots) o2, .slice (cS own++cS lits3) (.tag i)])):=by
        intro k x hk
        simp only [Sig.set] at hi9 hk ⊢
        grind
       refine u3M ?_
       simp only [List.map]
       refine LL Ae tdR (by simp [w8];rfl) hs1 ?_
       refine gz ?_ o125 [9]
       refine rtl 50 (.agg [sl (cS m.params),sl (cS slots),sl (cS (own++lits3))]) ?_ (hw:=E2 (Cv (A9 _) (Cv (Az _ _) (Cv (C6 _ (by simp [cS])) O6))))
       refine drp V ?_
       refine Ab (QG ib hpl hs (C:=own++lits3) (by simp [hl3];omega) m.fact.wt m.fact 1 b V (Nat.le_refl _) (by omega) (by omega) (by omega) hb0 hb1 o1) (fun d S' hr => ?_) (fun d S' hr=>by obtain ⟨h,_⟩:=hr;cases h)
       obtain ⟨hd,hZ⟩:=hr
       cases hd
       subst hZ
       have hg:CH slots own m b=(if (fctE m.params slots (own++lits3) m.fact 1 b).1=true/\(cntE m.body 1 120).1=true then
   (decide (0<=(fctE m.params slots (own++lits3) m.fact 1 b).2-(allE m.body).length) && Ed m.params slots own (decide (m.kind=1\/m.kind=4)) m.body,(fctE m.params slots (own++lits3) m.fact 1 b).2-(allE m.body).length)
  else (false,(fctE m.params slots (own++lits3) m.fact 1 b).2)):=by simp [CH,Cs,k1,k2,hn,q1,q2,hq]
       rw [hg]
       generalize hF:fctE m.params slots (own++lits3) m.fact 1 b=F at *
       have hF2 : -1<=F.2/\F.2<=1000:=by
        have:=Jy (P:=m.params) (S:=slots) (C:=own++lits3) m.fact 1 b
        rw [hF] at this
        omega
       have hst:V.set ib (.cells [dI F.2]) ib=some (.cells [dI F.2]):=w7 ..
       have hal:=E0 m.body
       cases hb1:F.1 with
       | false =>
        refine gf hb1 ?_ o125 [9]
        refine fin1 (S':=V.set ib (.cells [dI F.2])) ?_
        exact ⟨by simp [hb1],by simp [hb1]⟩
       | true =>
        cases hc:(cntE m.body 1 120).1 with
        | false =>
         refine gf (gi hb1 hc) ?_ o125 [9]
         refine fin1 (S':=V.set ib (.cells [dI F.2])) ?_
         exact ⟨by simp [hb1,hc],by simp [hb1,hc]⟩
        | true =>
         repeat' first | refine gf (gi hb1 hc) ?_ o125 [9] | apply gy<;>intro hh
         all_goals (refine fin1 (S':=(V.set ib (.cells [dI F.2])).set ib (.cells [dI (F.2-(allE m.body).length)])) ?_;refine ⟨?_,by simp [hb1,hc]⟩)
         ·simp [hb1,hc,hh]
          intro _;omega
         ·simp [hb1,hc,hh]
          intro _;omega
         ·simp [hb1,hc]
          intro _;omega
     ·refine gf (gi k1 (gi k2 hn)) ?_ (delO 3 o125) [9]
      refine fin1 (S':=V) ?_
      exact ⟨by simp [CH,Cs,q2],by simp [CH,Cs,q2,hself]⟩
    ·refine gf (gi k1 (gi k2 hn)) ?_ (delO 3 o125) [9]
     refine fin1 (S':=V) ?_
     exact ⟨by simp [CH,Cs,q1],by simp [CH,Cs,q1,hself]⟩
  ·refine gz ?_ (delO 3 o125) [9]
   refine fin1 (S':=V) ?_
   exact ⟨by simp [CH,Cs,k2],by simp [CH,Cs,k2,hself]⟩
 ·refine gz ?_ (delO 3 o125) [9]
  refine fin1 (S':=V) ?_
  exact ⟨by simp [CH,Cs,k1],by simp [CH,Cs,k1,hself]⟩
end Go.DL
