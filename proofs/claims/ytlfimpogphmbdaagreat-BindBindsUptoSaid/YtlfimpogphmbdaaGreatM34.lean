/- Part of the proof that the last text ends. -/
import Derived.Test.YtlfimpogphmbdaaGreatM16
import Derived.Test.YtlfimpogphmbdaaGreatM18
import Derived.Test.YtlfimpogphmbdaaGreatM33
import Derived.Test.YtlfimpogphmbdaaGreatM31
import Derived.Test.YtlfimpogphmbdaaGreatM12
import Derived.Test.YtlfimpogphmbdaaGreatRows
import Derived.WideKeyArgs
import Derived.ChangeSame
import Derived.OpenShut
import Derived.JoinedCond
import Derived.WalkKit
import Derived.ProofKit
set_option linter.all false
namespace Go.DL
open Go.Proofs.Tryz
open Go Go.Proofs
set_option maxHeartbeats 8000000
def all2 {α:Type} (f:α->α->Bool):List α->List α->Bool
 | x::l,y::m=>f x y && all2 f l m
 | _,_=>true
theorem It {α:Type} (f:α->α->Bool) (m:List α):all2 f [] m=true:=by rw [all2];intros;contradiction
def eqC (x y:BClass):Bool:=x.parents==y.parents && x.slots==y.slots && decide (x.inits=y.inits)
def eqM (x y:BMeth):Bool:=decide (x.kind=y.kind) && decide (x.gen=y.gen) && decide (x.node=y.node) && x.fact.beq y.fact
def eqN (x y:BNode):Bool:=decide (x.op=y.op) && decide (x.n=y.n) && x.kids==y.kids
def Sz (p q:BProg):Bool:=decide (p.slots=q.slots) && decide (p.main=q.main) && p.gens==q.gens && decide (p.classes.length=q.classes.length) && decide (p.methods.length=q.methods.length) && decide (p.nodes.length=q.nodes.length)
def Mz (p q:BProg):Bool:=Sz p q && all2 eqC p.classes q.classes && all2 eqM p.methods q.methods && all2 eqN p.nodes q.nodes
theorem M4 (p q:BProg) (V:Sig) (hp:p.wt<=1073741824) (hq:q.wt<=1073741824):DCall prog 19 [.agg (AC p), .agg (AC q)] V (rS (.bool (Mz p q)) V):=by
 obtain ⟨p1,p2,p3,p4,p5,p6,p7⟩:=p.wt_le
 obtain ⟨q1,q2,q3,q4,q5,q6,q7⟩:=q.wt_le
 cases hd:Sz p q with
 | false =>
  have hS:Mz p q=false:=by unfold Mz;rw [hd];rfl
  rw [hS]
  refine en func19 ntmps19 ?_
  repeat' first | refine gz ?_ o19 | apply gy<;>intro hh
  all_goals first | exact fin1 (S':=V) ⟨rfl,rfl⟩ | (exfalso;unfold Sz at hd;simp_all;done)
 | true =>
  have hS:Mz p q=(all2 eqC p.classes q.classes && all2 eqM p.methods q.methods && all2 eqN p.nodes q.nodes):=by unfold Mz;rw [hd,Bool.true_and]
  unfold Sz at hd
  simp only [Bool.and_eq_true,decide_eq_true_eq,beq_iff_eq] at hd
  obtain ⟨⟨⟨⟨⟨e1,e2⟩,e3⟩,e4⟩,e5⟩,e6⟩:=hd
  rw [hS]
  refine en func19 ntmps19 ?_
  repeat' first | refine gz ?_ o19 [6,7,9,10,12,13] | apply gy<;>intro hh
  ·rw [e3] at hh;simp at hh
  generalize hsr:(all2 eqC p.classes q.classes && all2 eqM p.methods q.methods && all2 eqN p.nodes q.nodes)=sameR
  have hsr:=hsr.symm
  refine Bz [2,3,8,9,10,11,12,13,100,101,102,103,104,105,106,107,108,109,110,111,112,113,114,115,116,117,118,119,120,121,122,123,124,125,126,127,128,129,130,131,132,133,134,135,136,137,138,139,140,141,142,143,144,145,146,147,148,149,150,151,152,153,154,155,156,157,158,159,160,161,162,163,164,165,166,167,168,169,170,171,172,173,174,175,176,177,178,179,180] (fun (k:Nat)=>k<=p.classes.length/\sameR=(all2 eqC (p.classes.drop k) (q.classes.drop k) && all2 eqM p.methods q.methods && all2 eqN p.nodes q.nodes)) (fun k=>[(5,dI k)]) (fun _=>V) (fun k=>p.classes.length-k) (0) (by simp [hsr]) (fun k hI => ?_)
  obtain ⟨hk,hR⟩:=hI
  by_cases hkl:k < p.classes.length
  ·have hkq:k < q.classes.length:=by omega
   have w1:=p5 k hkl
   have w2:=q5 k hkq
   rw [A3 hkl,A3 hkq,all2] at hR
   refine gz ?_ (delO 6 o19) [6,7,9,10,12,13]
   refine mixA (id:=6) [0,1,2,3,4,5,6,7,8,9,10,11,12,13] [12,13] ?_
   refine Aw (d := .cptr (AC p) 0) Ae rfl tdR tdR (by first | with_unfolding_all rfl | (simp;done) | (simp;rfl)) ?_
   refine Aw (d:=sl (p.classes.map cBClass)) Ae rfl tdR tdR (by first | with_unfolding_all rfl | (simp;done) | (simp;rfl)) ?_
   refine Aw (d:=dI k) Ae rfl tdR tdR (by first | with_unfolding_all rfl | (simp;done) | (simp;rfl)) ?_
   refine Aw (d := .cptr (cBClass p.classes[k]) 0) Ae rfl tdR tdR (by first | with_unfolding_all rfl | (simp [hkl];done) | (simp [hkl];rfl)) ?_
   refine Aw (d := .agg (cBClass p.classes[k])) Ae rfl tdR tdR (by first | with_unfolding_all rfl | (simp;done) | (simp;rfl)) ?_
   refine Aw (d := .cptr (AC q) 0) Ae rfl tdR tdR (by first | with_unfolding_all rfl | (simp;done) | (simp;rfl)) ?_
   refine Aw (d:=sl (q.classes.map cBClass)) Ae rfl tdR tdR (by first | with_unfolding_all rfl | (simp;done) | (simp;rfl)) ?_
   refine Aw (d:=dI k) Ae rfl tdR tdR (by first | with_unfolding_all rfl | (simp;done) | (simp;rfl)) ?_
   refine Aw (d := .cptr (cBClass q.classes[k]) 0) Ae rfl tdR tdR (by first | with_unfolding_all rfl | (simp [hkq];done) | (simp [hkq];rfl)) ?_
   refine Aw (d := .agg (cBClass q.classes[k])) Ae rfl tdR tdR (by first | with_unfolding_all rfl | (simp;done) | (simp;rfl)) ?_
   refine Em (fun i6 hi6 => ?_)
   refine Em (fun i7 hi7 => ?_)
   refine Fj (by rfl) ?_
   have hz:(tab 101).zero=[.nils, .nils, .nils]:=by (simp<;>rfl)
   rw [hz] at hi7 ⊢
   have n67:i6 ≠ i7:=fun e=>by rw [<- e,w7] at hi7;cases hi7
   have i70:=(A4 hi7).2
   have hs1:Sub V (((V.set i6 (.cells [.nils, .nils, .nils])).set i7 (.cells [.nils, .nils, .nils])).set i6 (.cells (cBClass p.classes[k]))):=(((Sub.refl _).set hi6).set i70).set hi6
   have hs2:Sub V ((((V.set i6 (.cells [.nils, .nils, .nils])).set i7 (.cells [.nils, .nils, .nils])).set i6 (.cells (cBClass p.classes[k]))).set i7 (.cells (cBClass q.classes[k]))):=hs1.set i70
   simp only [cBClass] at hs1 hs2
   unfold BClass.wt at w1 w2
   repeat' first | refine gz ?_ o19 [6,7,9,10,12,13] | apply gy<;>intro hh
   ·have hE:eqC p.classes[k] q.classes[k]=false:=by unfold eqC;clear hs1 hs2 hR hi6 hi7 hz i70 w1 w2 p5 p6 p7 q5 q6 q7 hsr hS e1 e2 e3 e4 e5 e6;simp_all
    rw [hE] at hR
    simp only [Bool.false_and] at hR
    rw [hR]
    exact fin1 (S':=V) ⟨rfl,rfl⟩ (hZ:=hs2)
   ·have hE:eqC p.classes[k] q.classes[k]=false:=by unfold eqC;clear hs1 hs2 hR hi6 hi7 hz i70 w1 w2 p5 p6 p7 q5 q6 q7 hsr hS e1 e2 e3 e4 e5 e6;simp_all
    rw [hE] at hR
    simp only [Bool.false_and] at hR
    rw [hR]
    exact fin1 (S':=V) ⟨rfl,rfl⟩ (hZ:=hs2)
   ·have hE:eqC p.classes[k] q.classes[k]=false:=by unfold eqC;clear hs1 hs2 hR hi6 hi7 hz i70 w1 w2 p5 p6 p7 q5 q6 q7 hsr hS e1 e2 e3 e4 e5 e6;simp_all
    rw [hE] at hR
    simp only [Bool.false_and] at hR
    rw [hR]
    exact fin1 (S':=V) ⟨rfl,rfl⟩ (hZ:=hs2)
   ·have hE:eqC p.classes[k] q.classes[k]=true:=by unfold eqC;clear hs1 hs2 hR hi6 hi7 hz i70 w1 w2 p5 p6 p7 q5 q6 q7 hsr hS e1 e2 e3 e4 e5 e6;simp_all
    rw [hE,Bool.true_and] at hR
    have hsub:=hs2
    exact ⟨k+1,⟨by omega,hR⟩,td1,wkR⟩
  ·rw [A2 hkl,It] at hR
   try simp only [Bool.true_and] at hR
   have hsr:=hR
   clear hR
   refine gz ?_ o19 [6,7,9,10,12,13]
   refine Bz [2,3,11,12,13,144,145,146,147,148,149,150,151,152,153,154,155,156,157,158,159,160,161,162,163,164,165,166,167,168,169,170,171,172,173,174,175,176,177,178,179,180] (fun (k:Nat)=>k<=p.methods.length/\sameR=(all2 eqM (p.methods.drop k) (q.methods.drop k) && all2 eqN p.nodes q.nodes)) (fun k=>[(8,dI k)]) (fun _=>V) (fun k=>p.methods.length-k) (0) (by simp [hsr]) (fun k hI => ?_)
   obtain ⟨hk,hR⟩:=hI
   by_cases hkl:k < p.methods.length
   ·have hkq:k < q.methods.length:=by omega
    have w1:=p6 k hkl
    have w2:=q6 k hkq
    rw [A3 hkl,A3 hkq,all2] at hR
    refine gz ?_ (delO 12 o19) [6,7,9,10,12,13]
    refine mixA (id:=12) [0,1,2,3,4,5,6,7,8,9,10,11,12,13] [12,13] ?_
    refine Aw (d := .cptr (AC p) 3) Ae rfl tdR tdR (by first | with_unfolding_all rfl | (simp;done) | (simp;rfl)) ?_
    refine Aw (d:=sl (p.methods.map Ai)) Ae rfl tdR tdR (by first | with_unfolding_all rfl | (simp;done) | (simp;rfl)) ?_
    refine Aw (d:=dI k) Ae rfl tdR tdR (by first | with_unfolding_all rfl | (simp;done) | (simp;rfl)) ?_
    refine Aw (d := .cptr (Ai p.methods[k]) 0) Ae rfl tdR tdR (by first | with_unfolding_all rfl | (simp [hkl];done) | (simp [hkl];rfl)) ?_
    refine Aw (d := .agg (Ai p.methods[k])) Ae rfl tdR tdR (by first | with_unfolding_all rfl | (simp;done) | (simp;rfl)) ?_
    refine Aw (d := .cptr (AC q) 3) Ae rfl tdR tdR (by first | with_unfolding_all rfl | (simp;done) | (simp;rfl)) ?_
    refine Aw (d:=sl (q.methods.map Ai)) Ae rfl tdR tdR (by first | with_unfolding_all rfl | (simp;done) | (simp;rfl)) ?_
    refine Aw (d:=dI k) Ae rfl tdR tdR (by first | with_unfolding_all rfl | (simp;done) | (simp;rfl)) ?_
    refine Aw (d := .cptr (Ai q.methods[k]) 0) Ae rfl tdR tdR (by first | with_unfolding_all rfl | (simp [hkq];done) | (simp [hkq];rfl)) ?_
    refine Aw (d := .agg (Ai q.methods[k])) Ae rfl tdR tdR (by first | with_unfolding_all rfl | (simp;done) | (simp;rfl)) ?_
    refine Em (fun i6 hi6 => ?_)
    refine Em (fun i7 hi7 => ?_)
    refine Fj (by rfl) ?_
    have hz:(tab 98).zero=[dI 0,dI 0,dI 0,dI 0, .nils,dI 0,dI 0, .nils,dI 0]:=by (simp<;>rfl)
    rw [hz] at hi7 ⊢
    have n67:i6 ≠ i7:=fun e=>by rw [<- e,w7] at hi7;cases hi7
    have i70:=(A4 hi7).2
    have hs1:Sub V (((V.set i6 (.cells [dI 0,dI 0,dI 0,dI 0, .nils,dI 0,dI 0, .nils,dI 0])).set i7 (.cells [dI 0,dI 0,dI 0,dI 0, .nils,dI 0,dI 0, .nils,dI 0])).set i6 (.cells (Ai p.methods[k]))):=(((Sub.refl _).set hi6).set i70).set hi6
    have hs2:Sub V ((((V.set i6 (.cells [dI 0,dI 0,dI 0,dI 0, .nils,dI 0,dI 0, .nils,dI 0])).set i7 (.cells [dI 0,dI 0,dI 0,dI 0, .nils,dI 0,dI 0, .nils,dI 0])).set i6 (.cells (Ai p.methods[k]))).set i7 (.cells (Ai q.methods[k]))):=hs1.set i70
    simp only [Ai,Dr,List.cons_append,List.nil_append] at hs1 hs2
    unfold BMeth.wt at w1 w2
    repeat' first | refine gz ?_ o19 [6,7,9,10,12,13] | apply gy<;>intro hh
    ·have hE:eqM p.methods[k] q.methods[k]=false:=by unfold eqM;clear hs1 hs2 hR hi6 hi7 hz i70 w1 w2 p5 p6 p7 q5 q6 q7 hsr hS e1 e2 e3 e4 e5 e6;simp_all
     rw [hE] at hR
     simp only [Bool.false_and] at hR
     rw [hR]
     exact fin1 (S':=V) ⟨rfl,rfl⟩ (hZ:=hs2)
    ·have hE:eqM p.methods[k] q.methods[k]=false:=by unfold eqM;clear hs1 hs2 hR hi6 hi7 hz i70 w1 w2 p5 p6 p7 q5 q6 q7 hsr hS e1 e2 e3 e4 e5 e6;simp_all
     rw [hE] at hR
     simp only [Bool.false_and] at hR
     rw [hR]
     exact fin1 (S':=V) ⟨rfl,rfl⟩ (hZ:=hs2)
    ·have hE:eqM p.methods[k] q.methods[k]=false:=by unfold eqM;clear hs1 hs2 hR hi6 hi7 hz i70 w1 w2 p5 p6 p7 q5 q6 q7 hsr hS e1 e2 e3 e4 e5 e6;simp_all
     rw [hE] at hR
     simp only [Bool.false_and] at hR
     rw [hR]
     exact fin1 (S':=V) ⟨rfl,rfl⟩ (hZ:=hs2)
    ·have hE:eqM p.methods[k] q.methods[k]=false:=by unfold eqM;clear hs1 hs2 hR hi6 hi7 hz i70 w1 w2 p5 p6 p7 q5 q6 q7 hsr hS e1 e2 e3 e4 e5 e6;simp_all
     rw [hE] at hR
     simp only [Bool.false_and] at hR
     rw [hR]
     exact fin1 (S':=V) ⟨rfl,rfl⟩ (hZ:=hs2)
    ·have hE:eqM p.methods[k] q.methods[k]=true:=by unfold eqM;clear hs1 hs2 hR hi6 hi7 hz i70 w1 w2 p5 p6 p7 q5 q6 q7 hsr hS e1 e2 e3 e4 e5 e6;simp_all
     rw [hE,Bool.true_and] at hR
     have hsub:=hs2
     exact ⟨k+1,⟨by omega,hR⟩,td1,wkR⟩
   ·rw [A2 hkl,It] at hR
    try simp only [Bool.true_and] at hR
    have hsr:=hR
    clear hR
    refine gz ?_ o19 [6,7,9,10,12,13]
    refine Bz [2,3] (fun (k:Nat)=>k<=p.nodes.length/\sameR=(all2 eqN (p.nodes.drop k) (q.nodes.drop k))) (fun k=>[(11,dI k)]) (fun _=>V) (fun k=>p.nodes.length-k) (0) (by simp [hsr]) (fun k hI => ?_)
    obtain ⟨hk,hR⟩:=hI
    by_cases hkl:k < p.nodes.length
    ·have hkq:k < q.nodes.length:=by omega
     have w1:=p7 k hkl
     have w2:=q7 k hkq
     rw [A3 hkl,A3 hkq,all2] at hR
     refine gz ?_ (delO 18 o19) [6,7,9,10,12,13]
     refine mixA (id:=18) [0,1,2,3,4,5,6,7,8,9,10,11,12,13] [12,13] ?_
     refine Aw (d := .cptr (AC p) 4) Ae rfl tdR tdR (by first | with_unfolding_all rfl | (simp;done) | (simp;rfl)) ?_
     refine Aw (d:=sl (p.nodes.map Ad)) Ae rfl tdR tdR (by first | with_unfolding_all rfl | (simp;done) | (simp;rfl)) ?_
     refine Aw (d:=dI k) Ae rfl tdR tdR (by first | with_unfolding_all rfl | (simp;done) | (simp;rfl)) ?_
     refine Aw (d := .cptr (Ad p.nodes[k]) 0) Ae rfl tdR tdR (by first | with_unfolding_all rfl | (simp [hkl];done) | (simp [hkl];rfl)) ?_
     refine Aw (d := .agg (Ad p.nodes[k])) Ae rfl tdR tdR (by first | with_unfolding_all rfl | (simp;done) | (simp;rfl)) ?_
     refine Aw (d := .cptr (AC q) 4) Ae rfl tdR tdR (by first | with_unfolding_all rfl | (simp;done) | (simp;rfl)) ?_
     refine Aw (d:=sl (q.nodes.map Ad)) Ae rfl tdR tdR (by first | with_unfolding_all rfl | (simp;done) | (simp;rfl)) ?_
     refine Aw (d:=dI k) Ae rfl tdR tdR (by first | with_unfolding_all rfl | (simp;done) | (simp;rfl)) ?_
     refine Aw (d := .cptr (Ad q.nodes[k]) 0) Ae rfl tdR tdR (by first | with_unfolding_all rfl | (simp [hkq];done) | (simp [hkq];rfl)) ?_
     refine Aw (d := .agg (Ad q.nodes[k])) Ae rfl tdR tdR (by first | with_unfolding_all rfl | (simp;done) | (simp;rfl)) ?_
     refine Em (fun i6 hi6 => ?_)
     refine Em (fun i7 hi7 => ?_)
     refine Fj (by rfl) ?_
     have hz:(tab 104).zero=[dI 0,dI 0, .nils]:=by (simp<;>rfl)
     rw [hz] at hi7 ⊢
     have n67:i6 ≠ i7:=fun e=>by rw [<- e,w7] at hi7;cases hi7
     have i70:=(A4 hi7).2
     have hs1:Sub V (((V.set i6 (.cells [dI 0,dI 0, .nils])).set i7 (.cells [dI 0,dI 0, .nils])).set i6 (.cells (Ad p.nodes[k]))):=(((Sub.refl _).set hi6).set i70).set hi6
     have hs2:Sub V ((((V.set i6 (.cells [dI 0,dI 0, .nils])).set i7 (.cells [dI 0,dI 0, .nils])).set i6 (.cells (Ad p.nodes[k]))).set i7 (.cells (Ad q.nodes[k]))):=hs1.set i70
     simp only [Ad] at hs1 hs2
     unfold BNode.wt at w1 w2
     repeat' first | refine gz ?_ o19 [6,7,9,10,12,13] | apply gy<;>intro hh
     ·have hE:eqN p.nodes[k] q.nodes[k]=false:=by unfold eqN;clear hs1 hs2 hR hi6 hi7 hz i70 w1 w2 p5 p6 p7 q5 q6 q7 hsr hS e1 e2 e3 e4 e5 e6;simp_all
      rw [hE] at hR
      simp only [Bool.false_and] at hR
      rw [hR]
      exact fin1 (S':=V) ⟨rfl,rfl⟩ (hZ:=hs2)
     ·have hE:eqN p.nodes[k] q.nodes[k]=false:=by unfold eqN;clear hs1 hs2 hR hi6 hi7 hz i70 w1 w2 p5 p6 p7 q5 q6 q7 hsr hS e1 e2 e3 e4 e5 e6;simp_all
      rw [hE] at hR
      simp only [Bool.false_and] at hR
      rw [hR]
      exact fin1 (S':=V) ⟨rfl,rfl⟩ (hZ:=hs2)
     ·have hE:eqN p.nodes[k] q.nodes[k]=false:=by unfold eqN;clear hs1 hs2 hR hi6 hi7 hz i70 w1 w2 p5 p6 p7 q5 q6 q7 hsr hS e1 e2 e3 e4 e5 e6;simp_all
      rw [hE] at hR
      simp only [Bool.false_and] at hR
      rw [hR]
      exact fin1 (S':=V) ⟨rfl,rfl⟩ (hZ:=hs2)
     ·have hE:eqN p.nodes[k] q.nodes[k]=true:=by unfold eqN;clear hs1 hs2 hR hi6 hi7 hz i70 w1 w2 p5 p6 p7 q5 q6 q7 hsr hS e1 e2 e3 e4 e5 e6;simp_all
      rw [hE,Bool.true_and] at hR
      have hsub:=hs2
      exact ⟨k+1,⟨by omega,hR⟩,td1,wkR⟩
    ·rw [A2 hkl,It] at hR
     try simp only [Bool.true_and] at hR
     have hsr:=hR
     clear hR
     refine gz ?_ o19 [6,7,9,10,12,13]
     rw [hsr]
     exact fin1 (S':=V) ⟨rfl,rfl⟩
@[reducible,instance] def a19:=fun p q V=>ah2 (@M4 p q V)
theorem Kz {l m:List Int} (h : ∀ x,x ∈ l ↔ x ∈ m) : ∀ (a:List Init) (seen:List Int),DV l seen a=DV m seen a
 | [],_=>rfl
 | x::r,seen=>by rw [DV,DV,Kz h r,decide_eq_decide.2 (h x.slot)]
def Jl (p:BProg):Nat->List BClass->Bool
 | _,[]=>true
 | i,c::r=>decide (linE (p.classes.map (·.parents)) ((i:Int)+3)=0) && DV (hasG p.classes (((i:Int)+3)-2).toNat [((i:Int)+3)] []) [] c.inits && Jl p (i+1) r
theorem HV (p:BProg) : ∀ (l:List BClass) (i:Nat),Bt p i l=Jl p i l
 | [],_=>rfl
 | c::r,i=>by
  rw [Bt,Jl,HV p r]
  congr 2
  exact Kz (fun x=>by unfold hasP Fb;exact List.mem_mergeSort) _ _
theorem VL:Bt exB 0 exB.classes=true:=by rw [HV];decide +kernel
theorem QW:AK exB=true:=by
 unfold AK
 have h1:CP 0 exB.classes=some 2:=by decide +kernel
 have h2:Ck (exB.classes.map (·.parents))=true:=by decide +kernel
 have h3:decide (exB.classes.length<=10)=true:=by decide +kernel
 have h4:decide ((2:Int)=exB.slots)=true:=by decide +kernel
 rw [h1,h3]
 simp only [h2,h4,VL,Bool.and_self,Bool.and_true]
theorem Ou:Do exB=some [1,1,1,1,1,2,0,0]:=by
 unfold Do
 rw [QW]
 decide +kernel
theorem ex_ok:okP exB=true:=by unfold okP;rw [Ou];rfl
theorem M6:I7 exB=0:=by
 unfold I7
 rw [ex_ok]
 decide +kernel
theorem PE:DO (exA [[98],[97]])=0:=by decide +kernel
theorem PD:DO (exA [[97],[98]])=7:=by decide +kernel
theorem Uf:Mz (Dc (exA [[98],[97]])) exB=true:=by decide +kernel
theorem Wd:Fb [1,0]=[0,1]:=by simp [Fb,List.mergeSort,List.MergeSort.Internal.splitInTwo,List.merge]
theorem Ov:hasP exB 5=[0,1]:=by
 unfold hasP
 rw [show hasG exB.classes ((5:Int)-2).toNat [5] []=[1,0] by decide +kernel,Wd]
theorem ex_has4:hasP exB 4=[0,1]:=by
 unfold hasP
 rw [show hasG exB.classes ((4:Int)-2).toNat [4] []=[1,0] by decide +kernel,Wd]
theorem Ny:JU exB 5=[⟨0,1⟩]:=by unfold JU;rw [Ov];decide +kernel
theorem Nz:JU exB 4=[⟨0,7⟩]:=by unfold JU;rw [ex_has4];decide +kernel
theorem Ug:ownF exB 5=true:=by decide +kernel
theorem Uh:ownF exB 4=true:=by decide +kernel
theorem PC:(DQ exB).owner=[3,4]:=by decide +kernel
theorem ex_form:K9 exB=⟨(spCs exB),exB.methods.map (spM exB),(GP exB).main⟩:=by unfold K9;rw [M6];rfl
theorem VM : ∃ c0 c1 c2 m0 m1 mn,K9 exB=⟨[c0,c1,c2],[m0,m1],mn⟩/\c2.name=[99]/\m0.name=[97]:=by
 have hc:(spCs exB).map (·.name)=[[97],[98],[99]]:=by decide +kernel
 have hm:(spM exB ⟨1,0, .mk 2 0 [] 3 0 [],0⟩).name=[97]:=by decide +kernel
 rw [ex_form]
 rcases hs:spCs exB with _ | ⟨c0,_ | ⟨c1,_ | ⟨c2,_ | ⟨c3,r⟩⟩⟩⟩<;>rw [hs] at hc<;>simp at hc
 exact ⟨c0,c1,c2,_,_,_,rfl,hc.2.2,hm⟩
theorem Px (V:Sig):DCall prog 16 [] V (rS (.bool true) V):=by
 have w1:(exA [[98],[97]]).wt<=10000000:=by decide +kernel
 have w2:(exA [[97],[98]]).wt<=10000000:=by decide +kernel
 have w3:exB.wt<=10000000:=by decide +kernel
 have w4:(Dc (exA [[98],[97]])).wt<=1073741824:=by decide +kernel
 have h45a:=fun (o:Own) (V:Sig)=>Pr [[98],[97]] o V
 have h45b:=fun (o:Own) (V:Sig)=>Pr [[97],[98]] o V
 have h17a:=fun (V:Sig)=>Im _ V w1
 have h17b:=fun (V:Sig)=>Im _ V w2
 have h19:=fun (V:Sig)=>M4 _ exB V w4 (by omega)
 have h20:=fun (V:Sig)=>Pv exB V w3
 have h13:=fun (V:Sig)=>M5 exB V (by omega)
 have h11:=fun (V:Sig)=>Pz exB V (by omega)
 have h23:=fun (V:Sig)=>Pu exB 5 V (by omega)
 have h25a:=fun (V:Sig)=>M3 exB 5 V (by omega)
 have h25b:=fun (V:Sig)=>M3 exB 4 V (by omega)
 have h37:=fun (V:Sig)=>Ps exB V (by omega)
 obtain ⟨c0,c1,c2,m0,m1,mn,e1,e2,e3⟩:=VM
 have h15 : ∀ (l:List Int) (V:Sig),l.length<=1073741824->DCall prog 15 [.slice (cI l) .no, .slice (cI l) .clip] V (rS (.bool true) V):=fun l V hl=>by
  have:=Py l l .no .clip V hl
  simpa using this
 have h27 : ∀ (l:List Init) (V:Sig),l.length<=1073741824->DCall prog 27 [.slice (l.map Dg) .no, .slice (l.map Dg) .clip] V (rS (.bool true) V):=fun l V hl=>by
  have:=Pt l l .no .clip V hl hl
  simpa using this
 have g1:=fun (V:Sig)=>h15 [1,1,1,1,1,2,0,0] V (by simp)
 have g2:=fun (V:Sig)=>h15 [0,1] V (by simp)
 have g3:=fun (V:Sig)=>h15 [3,4] V (by simp)
 have g4:=fun (V:Sig)=>h27 [⟨0,1⟩] V (by simp)
 have g5:=fun (V:Sig)=>h27 [⟨0,7⟩] V (by simp)
 have he:NB (some [1,1,1,1,1,2,0,0])=0:=rfl
 refine en func16 ntmps16 ?_
 repeat' first | refine gf (gi PE (gi PD (gi M6 (gi Uf (gi ex_ok (gi Ou (gi Ug (gi Uh (gi Ov (gi Ny (gi Nz (gi e1 (gi e2 (gi e3 (gi PC he))))))))))))))) ?_ | refine AE (h45a _ _) ?_ | refine callP (h45a _ _) ?_ | refine AE (h45b _ _) ?_ | refine callP (h45b _ _) ?_ | refine Gf (g1 _) ?_ | refine Gg (g1 _) ?_ | refine Gf (g2 _) ?_ | refine Gg (g2 _) ?_ | refine Gf (g3 _) ?_ | refine Gg (g3 _) ?_ | refine Gf (g4 _) ?_ | refine Gg (g4 _) ?_ | refine Gf (g5 _) ?_ | refine Gg (g5 _) ?_ | refine gf (gi PE (gi PD (gi M6 (gi Uf (gi ex_ok (gi Ou (gi Ug (gi Uh (gi Ov (gi Ny (gi Nz (gi e1 (gi e2 (gi e3 (gi PC he))))))))))))))) ?_ o16 | apply gy<;>intro hh
 exact fin1 (S':=V) ⟨rfl,rfl⟩
@[reducible,instance] def a16:=fun V=>ah0 (@Px V)
mutual
theorem Fact.beq_self : ∀ f:Fact,f.beq f=true
 | .mk o a p c n k=>by rw [Fact.beq_eq];simp only [Fact.kids];rw [Fact.beqs_self k];simp
theorem Fact.beqs_self : ∀ l:List Fact,Fact.beqs l l=true
 | []=>rfl
 | x::r=>by rw [Fact.beqs,Fact.beq_self x,Fact.beqs_self r];rfl
end
theorem Hn {α:Type} {f:α->α->Bool} (h : ∀ x,f x x=true) : ∀ l:List α,all2 f l l=true
 | []=>by rw [It]
 | x::r=>by rw [all2,h,Hn h r];rfl
theorem Q5 (p:BProg):Mz p p=true:=by
 unfold Mz Sz
 rw [Hn (fun x=>by simp [eqC]),Hn (fun x=>by simp [eqM,Fact.beq_self]),Hn (fun x=>by simp [eqN])]
 simp
mutual
theorem UK (cm sm:List (Str × Int)) (env:Str->Int) : ∀ x:FFact,(bndF cm sm env x).wt<=x.wt
 | .mk o s p c n k=>by
  rw [bndF,Fact.wt_eq,FFact.wt_eq]
  have:=PQ cm sm env k
  have h2:=AZ p
  simp only [Fact.path,Fact.kids,FFact.name,FFact.path,FFact.cls,FFact.kids,List.length_map]
  omega
theorem PQ (cm sm:List (Str × Int)) (env:Str->Int) : ∀ l:List FFact,wtL Fact.wt (Hm cm sm env l)<=wtL FFact.wt l
 | []=>by rw [Hm,wtL,wtL];omega
 | x::r=>by
  have h1:=UK cm sm env x
  have h2:=PQ cm sm env r
  rw [Hm,wtL,wtL];omega
end
theorem IL : ∀ (l:List FExp) (k:Nat),(Cz l k).length=l.length
 | [],_=>rfl
 | x::r,k=>by rw [Cz,List.length_cons,IL r,List.length_cons]
mutual
theorem OD (cm sm gm:List (Str × Int)) : ∀ (e:FExp) (env:Str->Int) (size:Int) (k:Nat),wtL BNode.wt (bndE cm sm gm e env size k)+1<=2*e.wt
 | .mk o n t l,env,size,k=>by
  rw [bndE,wtL,FExp.wt_eq]
  have:=PR cm sm gm o t l 0 env size (k+1)
  simp only [BNode.wt,IL,FExp.text,FExp.kids]
  omega
theorem PR (cm sm gm:List (Str × Int)) (o:Int) (t:Str) : ∀ (l:List FExp) (i:Nat) (env:Str->Int) (size:Int) (k:Nat),wtL BNode.wt (Ga cm sm gm o t l i env size k)+l.length<=2*wtL FExp.wt l
 | [],_,_,_,_=>by rw [Ga,wtL,wtL];simp
 | x::r,i,env,size,k=>by
  have h2:=PR cm sm gm o t r (i+1) env size (k+x.cnt)
  have h1:wtL BNode.wt (if o=9/\i=1 then bndE cm sm gm x (updE env t size) (size+1) k else bndE cm sm gm x env size k)+1<=2*x.wt:=by split<;>exact OD cm sm gm x _ _ _
  rw [Ga,Gk,wtL,List.length_cons];omega
end
theorem UI (cm sm gm:List (Str × Int)) : ∀ (l:List FMeth) (k:Nat),wtL BMeth.wt (bndMM cm sm gm l k)<=wtL FMeth.wt l/\wtL BNode.wt (Hl cm sm gm l k)<=2*wtL FMeth.wt l
 | [],_=>by rw [bndMM,Hl];simp [wtL]
 | m::r,k=>by
  obtain ⟨h1,h2⟩:=UI cm sm gm r (k+m.body.cnt)
  have h3:=UK cm sm (Eh m) m.fact
  have h4:=OD cm sm gm m.body (Eh m) m.params.length k
  have e1:FMeth.wt m=1+m.name.length+wtS m.params+m.fact.wt+m.body.wt:=rfl
  have e2:BMeth.wt ⟨m.kind,getM 0 m.name gm,bndF cm sm (Eh m) m.fact,(k:Int)⟩=1+(bndF cm sm (Eh m) m.fact).wt:=rfl
  rw [bndMM,Hl,wtL,wtL,Gk,e1,e2]
  omega
theorem PW (cm sm:List (Str × Int)) : ∀ l:List FClass,wtL BClass.wt (l.map (GB cm sm))<=wtL FClass.wt l
 | []=>by simp [wtL]
 | c::r=>by
  have:=PW cm sm r
  have h1:=AZ c.parents
  have h2:=AZ c.slots
  have h3:=Dd FInit.wt (fun x=>by unfold FInit.wt;omega) c.inits
  have e1:FClass.wt c=1+c.name.length+wtS c.parents+wtS c.slots+wtL FInit.wt c.inits:=rfl
  have e2:BClass.wt (GB cm sm c)=1+c.parents.length+c.slots.length+c.inits.length:=by unfold BClass.wt GB;simp only [List.length_map]
  rw [List.map_cons,wtL,wtL,e1,e2]
  omega
theorem W6 (f:FProg):(Dc f).wt<=4*f.wt+10:=by
 unfold Dc
 split
 ·have h1:=PW (Bd f) (Bn f) f.classes
  obtain ⟨h2,h3⟩:=UI (Bd f) (Bn f) (Ay f) f.methods 0
  have h4:=OD (Bd f) (Bn f) (Ay f) f.main (fun _=>0) 0 (Hl (Bd f) (Bn f) (Ay f) f.methods 0).length
  have h5:(GC (Ay f) f).length<=f.wt:=by
   unfold GC
   rw [D2,Is,List.length_replicate,Ij]
   have:=Fs f
   unfold gensN;rw [List.length_map];exact this
  unfold BProg.wt Af
  simp only [Gk]
  unfold FProg.wt at *
  omega
 ·have:progZ.wt=1:=by decide
  omega
theorem SS (f:FProg) (V:Sig) (hw:f.wt<=10000000):DCall prog 4 [.agg (B3 f)] V (rS (.bool true) V):=by
 have hb:(Dc f).wt<=1073741824:=by have:=W6 f;omega
 have h17:=fun (V:Sig)=>Im f V hw
 have h18:=fun (V:Sig)=>Pw f V hw
 have h16:=fun (V:Sig)=>Px V
 have h19:=fun (V:Sig)=>M4 (Dc f) (Dc f) V hb hb
 have hs:=Q5 (Dc f)
 refine en func4 ntmps4 ?_
 refine gf hs ?_
 exact fin1 (S':=V) ⟨rfl,rfl⟩
@[reducible,instance] def a4:=fun f V=>ah1 (@SS f V)
end Go.DL
namespace Go.DL
open Go.Proofs.Tryz
open Go Go.Proofs
open Go.Proofs.YtlfimpogphmbdaaGreat.Rows (uptoBulk uptoBulkAll)
def g0 (W:Go.World):G:={ imm:=fun b o=>W.cell? ⟨b,o,none⟩,rho:=fun _=>none,hist:=fun _ _=>none,keep:=fun k=>W.heap[k]?, io:=(W.os,W.output) }
theorem sim0 (P:Program) (W:Go.World):Sim P (g0 W) (fun _=>none) W where
 imm:=fun _ _ _ h=>h
 keep:=fun _ _ h=>h
 obj:=fun _ _ h=>by cases h
 inj:=fun _ _ _ h=>by cases h
 free:=fun _ _ h=>by cases h
 htop:=fun _ _ _ _ h=>by cases h
 hdom:=fun _ _ _ h=>by cases h
 fin:=⟨0,fun _ _=>rfl⟩
 io:=rfl
theorem JO {α:Type} {p:Nat->α->Prop} : ∀ n,(∀ i,i < n -> ∃ a,p i a) -> ∃ l:List α,l.length=n /\ ∀ i a,l[i]? = some a->p i a
 | 0,_=>⟨[],rfl,fun i a h=>by simp at h⟩
 | n+1,h=>by
  obtain ⟨l,hl,hp⟩:=JO n fun i hi=>h i (by omega)
  obtain ⟨a,ha⟩:=h n (by omega)
  refine ⟨l++[a],by simp [hl],fun i b hb => ?_⟩
  by_cases hi:i < n
  ·rw [List.getElem?_append_left (by omega)] at hb;exact hp i b hb
  ·rw [List.getElem?_append_right (by omega)] at hb
   have h0:i-l.length=0:=by
    rcases Nat.eq_zero_or_pos (i-l.length) with h | h
    ·exact h
    ·rw [List.getElem?_eq_none (by simp;omega)] at hb;cases hb
   rw [h0] at hb
   simp at hb
   rw [show i=n by omega, <- hb];exact ha
theorem RE {g:G} {b:Nat} : ∀ {ds:List D} {vs:List Value} {o:Nat},RepL g ds vs->(∀ j v,vs[j]? = some v->g.imm b (o+j)=some v)->RepI g b o ds
 | [],_,_,_,_=>trivial
 | d::ds,_,o,⟨v,r,e,h1,h2⟩,hi=>by
  subst e
  exact ⟨⟨v,hi 0 v rfl,h1⟩,RE h2 fun j x hx=>by rw [Nat.add_assoc,Nat.add_comm 1 j];exact hi (j+1) x hx⟩
theorem RF {g:G} {b sz:Nat} : ∀ {l:List (List D)} {o:Nat},(∀ i e,l[i]? = some e->e.length=sz/\RepI g b (o+i*sz) e)->RepE g b sz o l
 | [],_,_=>trivial
 | e::l,o,h=>⟨by simpa using h 0 e rfl,RF fun i x hx=>by
  have:=h (i+1) x hx
  rw [Nat.add_mul,Nat.one_mul,Nat.add_comm (i*sz), <- Nat.add_assoc] at this;exact this⟩
theorem Wb {α H:Type} {wt:α->Nat} : ∀ {l:List α} {xs:List (DataW H)},l.length=xs.length->(∀ (i:Nat) a x,l[i]? = some a->xs[i]? = some x->wt a<=uptoBulk x)->wtL wt l<=uptoBulkAll xs
 | [],[],_,_=>Nat.zero_le _
 | a::l,x::xs,h,hp=>by
  have h1:=hp 0 a x rfl rfl
  have h2:=Wb (l:=l) (xs:=xs) (by simpa using h) fun i b y hb hy=>hp (i+1) b y hb hy
  simp only [wtL,uptoBulkAll];omega
section
variable {H:Type} {enc:TypeId × Value->H} {W:Go.World}
noncomputable abbrev rd (enc:TypeId × Value->H) (W:Go.World) (n t:Nat) (cs:List Value):Option (DataW H × List MemPlace):=DataW.trod enc prog W 0 (fun _=>true) true n t cs
def Dec (enc:TypeId × Value->H) (W:Go.World) {α:Type} (n t:Nat) (c:α->List D) (wt:α->Nat):Prop := ∀ cs x,rd enc W n t cs=some x -> ∃ a,RepL (g0 W) (c a) cs/\wt a<=uptoBulk x.1
theorem HL {t n:Nat} (ht:prog.underlying t=some (.int .i64)):Dec enc W n t (fun k:Int=>[dI k]) (fun _=>1):=fun cs x h=>by
 obtain ⟨k,rfl,rfl,_⟩:=DataW.trod_int ht h
 exact ⟨k,⟨_,[],rfl,rfl,rfl⟩,by simp [uptoBulk]⟩
theorem Gz {t n:Nat} (ht:prog.underlying t=some .string):Dec enc W n t (fun s:Str=>[.str s]) (fun s=>1+s.length):=fun cs x h=>by
 obtain ⟨s,rfl,rfl,_⟩:=DataW.trod_string ht h
 exact ⟨s.data.toList,⟨_,[],rfl,by simp [Rep],rfl⟩,by simp only [uptoBulk];omega⟩
theorem Eu {α:Type} {t e sz n:Nat} {c:α->List D} {wt:α->Nat} (ht:prog.underlying t=some (.slice e)) (hz:prog.cellsOf e=sz) (hpos:0 < sz) (hc : ∀ a,(c a).length=sz) (hd : ∀ m,m < n->Dec enc W m e c wt) :
  Dec enc W n t (fun l:List α=>[sl (l.map c)]) (fun l=>1+wtL wt l):=fun cs x h=>by
 rcases DataW.trod_slice ht h with ⟨rfl,rfl⟩ | ⟨a,len,cap,elems,rest,m,rfl,rfl,rfl,hb,hl,hm,hlen,hel, -, -⟩
 ·exact ⟨[],⟨_,[],rfl,⟨Option.none,0,rfl,by simp, .inl rfl,trivial⟩,rfl⟩,by simp [uptoBulk,wtL]⟩
 ·have key : ∀ i,i < len -> ∃ b:α, ∃ y vs,elems[i]? = some y/\W.cells? 0 (a.add (i*sz)) sz=some vs/\RepL (g0 W) (c b) vs/\wt b<=uptoBulk y.1:=fun i hi=>by
   have h1:=hel i hi
   rw [hz,List.getElem?_eq_getElem (by omega)] at h1
   obtain ⟨vs,h2,h3⟩:=Option.bind_eq_some_iff.1 h1
   obtain ⟨b,h4,h5⟩:=hd m (by omega) vs _ h3
   exact ⟨b,_,vs,List.getElem?_eq_getElem (by omega),h2,h4,h5⟩
  obtain ⟨l,hll,hp⟩:=JO len key
  refine ⟨l,⟨_,[],rfl,⟨some a,cap,by simp [hll],by simpa [hll] using hl, ?_,trivial⟩,rfl⟩, ?_⟩
  ·cases hlz:l with
   | nil=>exact .inl rfl
   | cons b0 l' =>
    rw [<- hlz]
    have hl0:0 < len:=by rw [<- hll,hlz];simp
    obtain ⟨y,vs,k1,k2,k3,k4⟩:=hp 0 b0 (by rw [hlz];rfl)
    obtain ⟨_,k5,k6⟩:=World.cells?_some k2
    have hsp:a.spot=none:=by
     have:=k6 0 (by omega)
     cases hs:a.spot with
     | none=>rfl
     | some q=>simp [World.cell?, Addr.add,hs] at this;split at this<;>simp_all
    obtain ⟨ab,ao,asp⟩:=a
    simp only at hsp
    subst hsp
    refine .inr ⟨sz,ab,ao,rfl,RF fun i e he => ?_⟩
    rw [List.getElem?_map] at he
    obtain ⟨b,hb1,rfl⟩:=Option.map_eq_some_iff.1 he
    obtain ⟨y,vs,k1,k2,k3,k4⟩:=hp i b hb1
    obtain ⟨_,k5,k6⟩:=World.cells?_some k2
    refine ⟨hc b,RE k3 fun j v hv => ?_⟩
    have hj:j < sz:=by rw [<- k5];exact (List.getElem?_eq_some_iff.1 hv).1
    have:=k6 j hj
    rw [hv,BV,BV] at this
    exact this
  ·have:=Wb (wt:=wt) (l:=l) (xs:=elems.map (·.1)) (by simp;omega) fun i b z hb1 hz1=>by
    obtain ⟨y,vs,k1,k2,k3,k4⟩:=hp i b hb1
    rw [List.getElem?_map,k1] at hz1
    simp at hz1;subst hz1;exact k4
   simp only [uptoBulk];omega
set_option maxRecDepth 100000
theorem Eg {t n:Nat} {fs:Array Field} (ht:prog.underlying t=some (.struct fs)) {cs:List Value} {x:DataW H × List MemPlace} (h:rd enc W n t cs=some x) :
  ∃ (xs:List (DataW H × List MemPlace)) (m:Nat),m < n/\uptoBulk x.1=uptoBulkAll (xs.map (·.1))+1/\cs.length=prog.cellsOf t/\xs.length=fs.size /\
   ∀ (i:Nat) (f:Field),fs[i]? = some f->rd enc W m f.type ((cs.drop f.offset).take (prog.cellsOf f.type))=xs[i]? := by
 obtain ⟨xs,m,rfl,rfl,h1,h2,h3⟩:=DataW.trod_struct ht h
 exact ⟨xs,m,by omega,by simp [uptoBulk],h1,h2,h3⟩
theorem cellsI:prog.cellsOf 3=1:=by kernel_rfl
theorem cellsS:prog.cellsOf 9=1:=by kernel_rfl
theorem Io (n:Nat):Dec enc W n 80 (fun l:List Str=>[sl (cS l)]) (fun l=>1+wtS l):=Eu underlying80 cellsS (by omega) (fun _=>rfl) fun _ _=>Gz underlying9
theorem Dm {m t off k:Nat} {cs cs':List Value} {o:Option (DataW H × List MemPlace)} (h:rd enc W m t ((cs.drop off).take (prog.cellsOf t))=o) (hk:prog.cellsOf t=k) (hc:(cs.drop off).take k=cs'):rd enc W m t cs'=o:=by rw [<- hc, <- hk];exact h
end
end Go.DL
namespace Go.DL
open Go.Proofs.Tryz
open Go Go.Proofs Go.ChangeShapes Go.WideShapes Go.ChangeAt Go.RowKit
open Go.Proofs.YtlfimpogphmbdaaGreat.Rows (uptoBulk uptoBulkAll)
set_option maxRecDepth 100000
theorem Ss {N:Nat} {us:List D} (h:DCall prog N us (fun _=>none) fun x _=>x = .ret (.bool true)) (W:Go.World) {vs:List Value} (hr:RepL (g0 W) us vs) :
  Calls prog N vs.toArray W fun e W'=>e = .returned (.bool true)/\(∀ (k:Nat) (o:Obj),W.heap[k]? = some o->W'.heap[k]? = some o)/\W'.os=W.os/\W'.output=W.output:=by
 refine CallsIn.calls (F:=FX prog none) (n:=0) ((h.run (g0 W) W vs (sim0 _ W) hr).mono ?_) fun k d hd=>by cases hd
 rintro e W' ⟨g',x,S',hle,hs,hE,rfl⟩
 obtain ⟨v,rfl,rfl⟩:=hE
 have hio:=hs.io.trans hle.io
 simp only [g0,Prod.mk.injEq] at hio
 exact ⟨rfl,fun k o hk=>hs.keep k o (hle.keep k o hk),hio.1,hio.2⟩
theorem laidOut:laidOutB prog=true:=by kernel_rfl
section
variable {H:Type} {enc:TypeId × Value->H} {W W':Go.World}
theorem GK {sp:Nat->Bool} : ∀ {ts:List TypeId} {vs:List Value} {ds:List (DataW H)} {ps:List MemPlace},(∀ t ∈ ts,prog.readableRec t=true/\t < prog.types.size)->DataW.TrodAll enc prog W 0 (fun _=>true) true ts vs ds ps->(∀ p ∈ ps,W.sameAt W' p)->(∀ p ∈ ps,sp p.block=true)->DataW.TrodAll enc prog W' 0 sp true ts vs ds ps
 | [],vs,ds,ps,_,h,_,_=>by
  obtain ⟨rfl,rfl,rfl⟩:=trodAll_nil h
  exact h
 | t::ts,vs,ds,ps,ht,h,h1,h2=>by
  obtain ⟨v,vs1,d,ds1,a,b,rfl,rfl,rfl,k1,k2⟩:=trodAll_cons h
  exact ⟨a,b,WideElems.Trod_stays laidOut (ht t (by simp)).1 (ht t (by simp)).2 k1 (fun p hp=>h1 p (by simp [hp])) (fun p hp=>h2 p (by simp [hp])),
   GK (fun t hx=>ht t (by simp [hx])) k2 (fun p hp=>h1 p (by simp [hp])) (fun p hp=>h2 p (by simp [hp])),rfl⟩
theorem same_of {p:MemPlace} (hold : ∀ (k:Nat) (o:Obj),W.heap[k]? = some o->W'.heap[k]? = some o) (hp:p.block < W.heap.size):W.sameAt W' p:=by
 have hk : ∀ b,b < W.heap.size->W'.heap[b]? = W.heap[b]? := fun b hb=>by
  rw [Array.getElem?_eq_getElem hb];exact hold b _ (Array.getElem?_eq_getElem hb)
 cases p with
 | cell b off =>
  show W'.cell? ⟨b,off,none⟩=W.cell? ⟨b,off,none⟩
  unfold World.cell?
  rw [hk b hp]
 | map b=>exact hk b hp
theorem kept_of {may:MemPlace->Prop} (hold : ∀ (k:Nat) (o:Obj),W.heap[k]? = some o->W'.heap[k]? = some o) (hos:W'.os=W.os) (hout:W'.output=W.output):W.keptBut W' may:=by
 refine ⟨hos,hout,fun i hi => ?_⟩
 have h:=Array.getElem?_eq_getElem hi
 rw [h,hold i _ h]
 cases W.heap[i]<;>simp
theorem Vh {f:Func} {s:ChangeSpec} {args:Array Value} {ds gs:List (DataW H)} {before:List MemPlace} (hv:s.vars=[]) (hrt:f.resultTypes = #[4]) (hts : ∀ t ∈ f.params.toList,prog.readableRec t=true/\t < prog.types.size)
  (hW:DataW.Whole enc prog f.params.toList s.vars false W args.toList ds gs before) (hfn:s.fn H (ds++gs)={ results:=[.lit (.bool true)],args:=ds })
  (hold : ∀ (k:Nat) (o:Obj),W.heap[k]? = some o->W'.heap[k]? = some o) (hos:W'.os=W.os) (hout:W'.output=W.output):s.post enc prog f false true false false W args (.bool true) W':=by
 have hlt:=hW.lt
 have hW':=hW
 obtain ⟨p,q,hA,hV,rfl,hfz,hnd⟩:=hW
 rw [hv] at hV
 obtain ⟨rfl,rfl⟩:=trodVars_none hV
 have hsame : ∀ x ∈ p,W.sameAt W' x:=fun x hx=>same_of hold (by simpa using hlt x (by simp [hx]))
 refine ⟨ds,[],p++[],[],p,[],hW', ?_, ?_, ?_,kept_of hold hos hout,fun h=>by cases h⟩
 ·rw [hrt,hfn]
  exact trodAll_cons_mk (shut_bool underlying4 _) trodAll_mk0
 ·rw [hfn]
  exact GK hts hA hsame fun x hx=>by simpa using hlt x (by simp [hx])
 ·rw [hfn,hv]
  rfl
end
end Go.DL
namespace Go.DL
open Go.Proofs.Tryz
open Go Go.Proofs Go.ChangeShapes Go.WideShapes Go.ChangeAt Go.RowKit
open Go.Proofs.YtlfimpogphmbdaaGreat
set_option maxRecDepth 100000
theorem own:ownKnob prog.godebug=none:=by kernel_rfl
end Go.DL
namespace Go.DL
open Go.Proofs.Tryz
open Go Go.Proofs Go.ChangeShapes Go.WideShapes Go.ChangeAt Go.RowKit
open Go.Proofs.YtlfimpogphmbdaaGreat
open Go.Proofs.YtlfimpogphmbdaaGreat.Rows (uptoBulk uptoBulkAll)
set_option maxRecDepth 100000
section
variable {H:Type} {enc:TypeId × Value->H} {W:Go.World} {base:Nat}
theorem Uw (n:Nat):Dec enc W n 150 F6 FInit.wt:=fun cs x h=>by
 obtain ⟨xs,m,hm,hb,hl,hx,hf⟩:=Eg underlying150 h
 rw [show prog.cellsOf 150=2 by kernel_rfl] at hl
 match cs,hl with
 | [v0,v1],_ =>
  match xs,hx with
  | [x0,x1],_ =>
   obtain ⟨a0,r0,w0⟩:=Gz underlying9 [v0] x0 (Dm (hf 0 _ rfl) cellsS rfl)
   obtain ⟨a1,r1,w1⟩:=HL underlying3 [v1] x1 (Dm (hf 1 _ rfl) cellsI rfl)
   refine ⟨⟨a0,a1⟩,r0.append r1, ?_⟩
   rw [hb];clear hf hx hl;dsimp only at *; simp only [FInit.wt,uptoBulkAll,List.map_cons,List.map_nil];omega
theorem Ra (n:Nat):Dec enc W n 83 An FClass.wt:=fun cs x h=>by
 obtain ⟨xs,m,hm,hb,hl,hx,hf⟩:=Eg underlying83 h
 rw [show prog.cellsOf 83=4 by kernel_rfl] at hl
 match cs,hl with
 | [v0,v1,v2,v3],_ =>
  match xs,hx with
  | [x0,x1,x2,x3],_ =>
   obtain ⟨a0,r0,w0⟩:=Gz underlying9 [v0] x0 (Dm (hf 0 _ rfl) cellsS rfl)
   obtain ⟨a1,r1,w1⟩:=Io _ [v1] x1 (Dm (hf 1 _ rfl) (show prog.cellsOf 80=1 by kernel_rfl) rfl)
   obtain ⟨a2,r2,w2⟩:=Io _ [v2] x2 (Dm (hf 2 _ rfl) (show prog.cellsOf 80=1 by kernel_rfl) rfl)
   obtain ⟨a3,r3,w3⟩:=Eu underlying81 (by kernel_rfl:prog.cellsOf 150=2) (by omega) (fun _=>rfl) (fun _ _=>Uw _) [v3] x3 (Dm (hf 3 _ rfl) (show prog.cellsOf 81=1 by kernel_rfl) rfl)
   refine ⟨⟨a0,a1,a2,a3⟩,r0.append (r1.append (r2.append r3)), ?_⟩
   rw [hb];clear hf hx hl;dsimp only at *; simp only [FClass.wt,uptoBulkAll,List.map_cons,List.map_nil];omega
theorem Pc (e:FExp):(Am e).length=4:=by cases e;rfl
theorem MS (e:FFact):(Bk e).length=6:=by cases e;rfl
theorem PN : ∀ n:Nat,Dec enc W n 40 Am FExp.wt:=fun n=>by
 induction n using Nat.strongRecOn with
 | ind n ih =>
 intro cs x h
 obtain ⟨xs,m,hm,hb,hl,hx,hf⟩:=Eg underlying40 h
 rw [show prog.cellsOf 40=4 by kernel_rfl] at hl
 match cs,hl with
 | [v0,v1,v2,v3],_ =>
  match xs,hx with
  | [x0,x1,x2,x3],_ =>
   obtain ⟨a0,r0,w0⟩:=HL underlying37 [v0] x0 (Dm (hf 0 _ rfl) (show prog.cellsOf 37=1 by kernel_rfl) rfl)
   obtain ⟨a1,r1,w1⟩:=HL underlying3 [v1] x1 (Dm (hf 1 _ rfl) cellsI rfl)
   obtain ⟨a2,r2,w2⟩:=Gz underlying9 [v2] x2 (Dm (hf 2 _ rfl) cellsS rfl)
   obtain ⟨a3,r3,w3⟩:=(Eu (c:=Am) (wt:=FExp.wt) (t:=38) (e:=40) (n:=m) underlying38 (by kernel_rfl:prog.cellsOf 40=4) (by omega) Pc fun k hk=>ih k (by omega)) [v3] x3 (Dm (hf 3 _ rfl) (show prog.cellsOf 38=1 by kernel_rfl) rfl)
   refine ⟨.mk a0 a1 a2 a3,by rw [D1];exact r0.append (r1.append (r2.append r3)), ?_⟩
   rw [hb];clear hf hx hl;dsimp only at *; rw [FExp.wt_eq];simp only [FExp.text,FExp.kids,uptoBulkAll,List.map_cons,List.map_nil];omega
theorem Ux : ∀ n:Nat,Dec enc W n 88 Bk FFact.wt:=fun n=>by
 induction n using Nat.strongRecOn with
 | ind n ih =>
 intro cs x h
 obtain ⟨xs,m,hm,hb,hl,hx,hf⟩:=Eg underlying88 h
 rw [show prog.cellsOf 88=6 by kernel_rfl] at hl
 match cs,hl with
 | [v0,v1,v2,v3,v4,v5],_ =>
  match xs,hx with
  | [x0,x1,x2,x3,x4,x5],_ =>
   obtain ⟨a0,r0,w0⟩:=HL underlying85 [v0] x0 (Dm (hf 0 _ rfl) (show prog.cellsOf 85=1 by kernel_rfl) rfl)
   obtain ⟨a1,r1,w1⟩:=Gz underlying9 [v1] x1 (Dm (hf 1 _ rfl) cellsS rfl)
   obtain ⟨a2,r2,w2⟩:=Io _ [v2] x2 (Dm (hf 2 _ rfl) (show prog.cellsOf 80=1 by kernel_rfl) rfl)
   obtain ⟨a3,r3,w3⟩:=Gz underlying9 [v3] x3 (Dm (hf 3 _ rfl) cellsS rfl)
   obtain ⟨a4,r4,w4⟩:=HL underlying3 [v4] x4 (Dm (hf 4 _ rfl) cellsI rfl)
   obtain ⟨a5,r5,w5⟩:=(Eu (c:=Bk) (wt:=FFact.wt) (t:=86) (e:=88) (n:=m) underlying86 (by kernel_rfl:prog.cellsOf 88=6) (by omega) MS fun k hk=>ih k (by omega)) [v5] x5 (Dm (hf 5 _ rfl) (show prog.cellsOf 86=1 by kernel_rfl) rfl)
   refine ⟨.mk a0 a1 a2 a3 a4 a5,by rw [Ci];exact r0.append (r1.append (r2.append (r3.append (r4.append r5)))), ?_⟩
   rw [hb];clear hf hx hl;dsimp only at *; rw [FFact.wt_eq];simp only [FFact.name,FFact.path,FFact.cls,FFact.kids,uptoBulkAll,List.map_cons,List.map_nil];omega
theorem Uv (n:Nat):Dec enc W n 90 Di FMeth.wt:=fun cs x h=>by
 obtain ⟨xs,m,hm,hb,hl,hx,hf⟩:=Eg underlying90 h
 rw [show prog.cellsOf 90=13 by kernel_rfl] at hl
 match cs,hl with
 | [v0,v1,v2,v3,v4,v5,v6,v7,v8,v9,v10,v11,v12],_ =>
  match xs,hx with
  | [x0,x1,x2,x3,x4],_ =>
   obtain ⟨a0,r0,w0⟩:=HL underlying84 [v0] x0 (Dm (hf 0 _ rfl) (show prog.cellsOf 84=1 by kernel_rfl) rfl)
   obtain ⟨a1,r1,w1⟩:=Gz underlying9 [v1] x1 (Dm (hf 1 _ rfl) cellsS rfl)
   obtain ⟨a2,r2,w2⟩:=Io _ [v2] x2 (Dm (hf 2 _ rfl) (show prog.cellsOf 80=1 by kernel_rfl) rfl)
   obtain ⟨a3,r3,w3⟩:=Ux _ [v3,v4,v5,v6,v7,v8] x3 (Dm (hf 3 _ rfl) (show prog.cellsOf 88=6 by kernel_rfl) rfl)
   obtain ⟨a4,r4,w4⟩:=PN _ [v9,v10,v11,v12] x4 (Dm (hf 4 _ rfl) (show prog.cellsOf 40=4 by kernel_rfl) rfl)
   refine ⟨⟨a0,a1,a2,a3,a4⟩,((r0.append (r1.append r2)).append r3).append r4, ?_⟩
   rw [hb];clear hf hx hl;dsimp only at *; simp only [FMeth.wt,uptoBulkAll,List.map_cons,List.map_nil];omega
theorem Sq (m:FMeth):(Di m).length=13:=by simp [Di,MS,Pc]
theorem Uu (n:Nat):Dec enc W n 42 B3 FProg.wt:=fun cs x h=>by
 obtain ⟨xs,m,hm,hb,hl,hx,hf⟩:=Eg underlying42 h
 rw [show prog.cellsOf 42=6 by kernel_rfl] at hl
 match cs,hl with
 | [v0,v1,v2,v3,v4,v5],_ =>
  match xs,hx with
  | [x0,x1,x2],_ =>
   obtain ⟨a0,r0,w0⟩:=Eu underlying35 (by kernel_rfl:prog.cellsOf 83=4) (by omega) (fun _=>rfl) (fun _ _=>Ra _) [v0] x0 (Dm (hf 0 _ rfl) (show prog.cellsOf 35=1 by kernel_rfl) rfl)
   obtain ⟨a1,r1,w1⟩:=Eu underlying36 (by kernel_rfl:prog.cellsOf 90=13) (by omega) Sq (fun _ _=>Uv _) [v1] x1 (Dm (hf 1 _ rfl) (show prog.cellsOf 36=1 by kernel_rfl) rfl)
   obtain ⟨a2,r2,w2⟩:=PN _ [v2,v3,v4,v5] x2 (Dm (hf 2 _ rfl) (show prog.cellsOf 40=4 by kernel_rfl) rfl)
   refine ⟨⟨a0,a1,a2⟩,(r0.append r1).append r2, ?_⟩
   rw [hb];clear hf hx hl;dsimp only at *; simp only [FProg.wt,uptoBulkAll,List.map_cons,List.map_nil];omega
theorem Qa {v:Value} {d:DataW H} {ps:List MemPlace} (hval:Value.okWide prog W .any base 42 v) (h:DataW.Trod enc prog W 0 (fun _=>true) true 42 v d ps) : ∃ p:FProg,Rep (g0 W) (.agg (B3 p)) v/\p.wt<=Rows.uptoBulk d:=by
 obtain ⟨cs,rfl,_⟩:=okWide_struct underlying42 hval
 obtain ⟨n,hn⟩:=h
 obtain ⟨p,h1,h2⟩:=Uu n _ _ hn
 exact ⟨p,⟨cs.toList,by simp,h1⟩,h2⟩
theorem Q8:prog.readableRec 42=true:=by kernel_rfl
theorem Mo:42 < prog.types.size:=of_decide_eq_true (by kernel_rfl)
theorem law1F {N:Nat} {f:Func} (hf:f.params = #[42]) (hrt:f.resultTypes = #[4]) (hN : ∀ p:FProg,p.wt<=1048576->DCall prog N [.agg (B3 p)] (fun _=>none) fun x _=>x = .ret (.bool true))
  {s:ChangeSpec} (hv:s.vars=[]) (hfn : ∀ d,s.fn H [d]={ results:=[.lit (.bool true)],args:=[d] }) {args:Array Value} {ds gs:List (DataW H)} {before:List MemPlace}
  (hval : ∀ (j:Nat) t v,f.params[j]? = some t->args[j]? = some v->Value.okWide prog W .any base t v)
  (hW:DataW.Whole enc prog f.params.toList s.vars false W args.toList ds gs before) (hk:Rows.uptoSmall H (ds++gs)=true) :
  Calls prog N args W fun e W' => ∃ v,e = .returned v/\s.post enc prog f false true false false W args v W':=by
 have hW':=hW
 obtain ⟨p,q,hA,hV,rfl,hfz,hnd⟩:=hW
 rw [hv] at hV
 obtain ⟨rfl,rfl⟩:=trodVars_none hV
 rw [hf] at hA hval
 obtain ⟨v0,vs0,d0,ds0,p0,q0,hargs,rfl,rfl,h0,r0⟩:=trodAll_cons hA
 obtain ⟨rfl,rfl,rfl⟩:=trodAll_nil r0
 obtain rfl:args = #[v0]:=by cases args;simp_all
 have hb:Rows.uptoBulk d0+0<=1048576:=of_decide_eq_true hk
 obtain ⟨pr,hr,hw⟩:=Qa (hval 0 42 v0 rfl rfl) h0
 refine (Ss (hN pr (by omega)) W (vs:=[v0]) ⟨v0,[],rfl,hr,rfl⟩).mono fun e W' ⟨he,hold,hos,hout⟩ => ?_
 refine ⟨_,he,Vh hv hrt (fun t ht => ?_) hW' (hfn d0) hold hos hout⟩
 rw [hf] at ht
 obtain rfl:t=42:=by simpa using ht
 exact ⟨Q8,Mo⟩
end
end Go.DL
