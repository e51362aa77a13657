/- A part of the proof. -/
import Derived.Test.YtlfimpogphmbdaaGreatM15
import Derived.Test.YtlfimpogphmbdaaGreatM17
import Derived.Test.YtlfimpogphmbdaaGreatM29
import Derived.Test.YtlfimpogphmbdaaGreatM28
import Derived.Test.YtlfimpogphmbdaaGreatM18
import Derived.Test.YtlfimpogphmbdaaGreatM12
import Derived.Test.YtlfimpogphmbdaaGreatRows
import Derived.WideKeyArgs
import Derived.ChangeSame
import Derived.OpenShut
import Derived.JoinedCond
import Derived.WalkKit
import Derived.ProofKit
set_option linter.all false
namespace Go.DL
open Go.Proofs.Tryz
open Go Go.Proofs
set_option maxHeartbeats 8000000
def all2{α:Type}(f:α->α->Bool):List α->List α->Bool
 |x::l,y::m=>f x y&&all2 f l m
 |_,_=>true
theorem HH{α:Type}(f:α->α->Bool)(m:List α):all2 f [] m=true:=by rw[all2];intros;contradiction
def eqC(x y:BClass):Bool:=x.parents==y.parents&&x.slots==y.slots&&decide (x.inits=y.inits)
def eqM(x y:BMeth):Bool:=decide (x.kind=y.kind)&&decide (x.gen=y.gen)&&decide (x.node=y.node)&&x.fact.beq y.fact
def eqN(x y:BNode):Bool:=decide (x.op=y.op)&&decide (x.n=y.n)&&x.kids==y.kids
def PT(p q:BProg):Bool:=decide (p.slots=q.slots)&&decide (p.main=q.main)&&p.gens==q.gens&&decide (p.classes.length=q.classes.length)&&decide (p.methods.length=q.methods.length)&&decide (p.nodes.length=q.nodes.length)
def Fm(p q:BProg):Bool:=PT p q&&all2 eqC p.classes q.classes&&all2 eqM p.methods q.methods&&all2 eqN p.nodes q.nodes
theorem Lb(p q:BProg)(V:Sig)(hp:p.wt<=1073741824)(hq:q.wt<=1073741824):DCall prog 19 [.agg (Am p),.agg (Am q)] V (rS (.bool (Fm p q)) V):=by
 obtain⟨p1,p2,p3,p4,p5,p6,p7⟩:=p.wt_le;obtain⟨q1,q2,q3,q4,q5,q6,q7⟩:=q.wt_le;cases hd:PT p q with
 |false=>
  have hS:Fm p q=false:=by unfold Fm;rw[hd];rfl
  rw[hS];refine en func19 ntmps19 ?_
  repeat' first|refine gz ?_ o19|apply gy<;>intro hh
  all_goals first|exact fin1 (S':=V) ⟨rfl,rfl⟩|(exfalso;unfold PT at hd;simp_all;done)
 | true =>
  have hS:Fm p q=(all2 eqC p.classes q.classes&&all2 eqM p.methods q.methods&&all2 eqN p.nodes q.nodes):=by unfold Fm;rw[hd,Bool.true_and]
  unfold PT at hd;simp only[Bool.and_eq_true,decide_eq_true_eq,beq_iff_eq]at hd;obtain⟨⟨⟨⟨⟨e1,e2⟩,e3⟩,e4⟩,e5⟩,e6⟩:=hd;rw[hS];refine en func19 ntmps19 ?_
  repeat' first|refine gz ?_ o19 [6,7,9,10,12,13]|apply gy<;>intro hh
  ·rw[e3]at hh;simp at hh
  generalize hsr:(all2 eqC p.classes q.classes&&all2 eqM p.methods q.methods&&all2 eqN p.nodes q.nodes)=sameR;have hsr:=hsr.symm;refine Bj [2,3,8,9,10,11,12,13,100,101,102,103,104,105,106,107,108,109,110,111,112,113,114,115,116,117,118,119,120,121,122,123,124,125,126,127,128,129,130,131,132,133,134,135,136,137,138,139,140,141,142,143,144,145,146,147,148,149,150,151,152,153,154,155,156,157,158,159,160,161,162,163,164,165,166,167,168,169,170,171,172,173,174,175,176,177,178,179,180] (fun (k:Nat)=>k<=p.classes.length/\sameR=(all2 eqC (p.classes.drop k) (q.classes.drop k)&&all2 eqM p.methods q.methods&&all2 eqN p.nodes q.nodes)) (fun k=>[(5,dI k)]) (fun _=>V) (fun k=>p.classes.length-k) (0) (by simp[hsr]) (fun k hI=>?_);obtain⟨hk,hR⟩:=hI
  by_cases hkl:k<p.classes.length
  ·have hkq:k<q.classes.length:=by omega
   have w1:=p5 k hkl;have w2:=q5 k hkq;rw[A3 hkl,A3 hkq,all2]at hR;refine gz ?_ (delO 6 o19) [6,7,9,10,12,13];refine mixA (id:=6) [0,1,2,3,4,5,6,7,8,9,10,11,12,13] [12,13] ?_;refine Ar (d:=.cptr (Am p) 0) Ad rfl tdR tdR (by first|with_unfolding_all rfl|(simp;done)|(simp;rfl)) ?_;refine Ar (d:=sl (p.classes.map cBClass)) Ad rfl tdR tdR (by first|with_unfolding_all rfl|(simp;done)|(simp;rfl)) ?_;refine Ar (d:=dI k) Ad rfl tdR tdR (by first|with_unfolding_all rfl|(simp;done)|(simp;rfl)) ?_;refine Ar (d:=.cptr (cBClass p.classes[k]) 0) Ad rfl tdR tdR (by first|with_unfolding_all rfl|(simp[hkl];done)|(simp[hkl];rfl)) ?_;refine Ar (d:=.agg (cBClass p.classes[k])) Ad rfl tdR tdR (by first|with_unfolding_all rfl|(simp;done)|(simp;rfl)) ?_;refine Ar (d:=.cptr (Am q) 0) Ad rfl tdR tdR (by first|with_unfolding_all rfl|(simp;done)|(simp;rfl)) ?_;refine Ar (d:=sl (q.classes.map cBClass)) Ad rfl tdR tdR (by first|with_unfolding_all rfl|(simp;done)|(simp;rfl)) ?_;refine Ar (d:=dI k) Ad rfl tdR tdR (by first|with_unfolding_all rfl|(simp;done)|(simp;rfl)) ?_;refine Ar (d:=.cptr (cBClass q.classes[k]) 0) Ad rfl tdR tdR (by first|with_unfolding_all rfl|(simp[hkq];done)|(simp[hkq];rfl)) ?_
   refine Ar (d:=.agg (cBClass q.classes[k])) Ad rfl tdR tdR (by first|with_unfolding_all rfl|(simp;done)|(simp;rfl)) ?_;refine DO (fun i6 hi6=>?_);refine DO (fun i7 hi7=>?_);refine EJ (by rfl) ?_;have hz:(tab 101).zero=[.nils,.nils,.nils]:=by(simp<;>rfl)
   rw[hz]at hi7⊢;have n67:i6≠i7:=fun e=>by rw[<-e,w7]at hi7;cases hi7
   have i70:=(Aa hi7).2;have hs1:Sub V (((V.set i6 (.cells [.nils,.nils,.nils])).set i7 (.cells [.nils,.nils,.nils])).set i6 (.cells (cBClass p.classes[k]))):=(((Sub.refl _).set hi6).set i70).set hi6;have hs2:Sub V ((((V.set i6 (.cells [.nils,.nils,.nils])).set i7 (.cells [.nils,.nils,.nils])).set i6 (.cells (cBClass p.classes[k]))).set i7 (.cells (cBClass q.classes[k]))):=hs1.set i70;simp only[cBClass]at hs1 hs2;unfold BClass.wt at w1 w2
   repeat' first|refine gz ?_ o19 [6,7,9,10,12,13]|apply gy<;>intro hh
   ·have hE:eqC p.classes[k] q.classes[k]=false:=by unfold eqC;clear hs1 hs2 hR hi6 hi7 hz i70 w1 w2 p5 p6 p7 q5 q6 q7 hsr hS e1 e2 e3 e4 e5 e6;simp_all
    rw[hE]at hR;simp only[Bool.false_and]at hR;rw[hR];exact fin1 (S':=V) ⟨rfl,rfl⟩ (hU:=hs2)
   ·have hE:eqC p.classes[k] q.classes[k]=false:=by unfold eqC;clear hs1 hs2 hR hi6 hi7 hz i70 w1 w2 p5 p6 p7 q5 q6 q7 hsr hS e1 e2 e3 e4 e5 e6;simp_all
    rw[hE]at hR;simp only[Bool.false_and]at hR;rw[hR];exact fin1 (S':=V) ⟨rfl,rfl⟩ (hU:=hs2)
   ·have hE:eqC p.classes[k] q.classes[k]=false:=by unfold eqC;clear hs1 hs2 hR hi6 hi7 hz i70 w1 w2 p5 p6 p7 q5 q6 q7 hsr hS e1 e2 e3 e4 e5 e6;simp_all
    rw[hE]at hR;simp only[Bool.false_and]at hR;rw[hR];exact fin1 (S':=V) ⟨rfl,rfl⟩ (hU:=hs2)
   ·have hE:eqC p.classes[k] q.classes[k]=true:=by unfold eqC;clear hs1 hs2 hR hi6 hi7 hz i70 w1 w2 p5 p6 p7 q5 q6 q7 hsr hS e1 e2 e3 e4 e5 e6;simp_all
    rw[hE,Bool.true_and]at hR;have hsub:=hs2;exact⟨k+1,⟨by omega,hR⟩,td1,wkR⟩
  ·rw [A2 hkl,HH] at hR
   try simp only[Bool.true_and]at hR
   have hsr:=hR;clear hR;refine gz ?_ o19 [6,7,9,10,12,13];refine Bj [2,3,11,12,13,144,145,146,147,148,149,150,151,152,153,154,155,156,157,158,159,160,161,162,163,164,165,166,167,168,169,170,171,172,173,174,175,176,177,178,179,180] (fun (k:Nat)=>k<=p.methods.length/\sameR=(all2 eqM (p.methods.drop k) (q.methods.drop k)&&all2 eqN p.nodes q.nodes)) (fun k=>[(8,dI k)]) (fun _=>V) (fun k=>p.methods.length-k) (0) (by simp[hsr]) (fun k hI=>?_);obtain⟨hk,hR⟩:=hI
   by_cases hkl:k<p.methods.length
   ·have hkq:k<q.methods.length:=by omega
    have w1:=p6 k hkl;have w2:=q6 k hkq;rw[A3 hkl,A3 hkq,all2]at hR;refine gz ?_ (delO 12 o19) [6,7,9,10,12,13];refine mixA (id:=12) [0,1,2,3,4,5,6,7,8,9,10,11,12,13] [12,13] ?_;refine Ar (d:=.cptr (Am p) 3) Ad rfl tdR tdR (by first|with_unfolding_all rfl|(simp;done)|(simp;rfl)) ?_;refine Ar (d:=sl (p.methods.map Ak)) Ad rfl tdR tdR (by first|with_unfolding_all rfl|(simp;done)|(simp;rfl)) ?_;refine Ar (d:=dI k) Ad rfl tdR tdR (by first|with_unfolding_all rfl|(simp;done)|(simp;rfl)) ?_;refine Ar (d:=.cptr (Ak p.methods[k]) 0) Ad rfl tdR tdR (by first|with_unfolding_all rfl|(simp[hkl];done)|(simp[hkl];rfl)) ?_;refine Ar (d:=.agg (Ak p.methods[k])) Ad rfl tdR tdR (by first|with_unfolding_all rfl|(simp;done)|(simp;rfl)) ?_;refine Ar (d:=.cptr (Am q) 3) Ad rfl tdR tdR (by first|with_unfolding_all rfl|(simp;done)|(simp;rfl)) ?_;refine Ar (d:=sl (q.methods.map Ak)) Ad rfl tdR tdR (by first|with_unfolding_all rfl|(simp;done)|(simp;rfl)) ?_;refine Ar (d:=dI k) Ad rfl tdR tdR (by first|with_unfolding_all rfl|(simp;done)|(simp;rfl)) ?_;refine Ar (d:=.cptr (Ak q.methods[k]) 0) Ad rfl tdR tdR (by first|with_unfolding_all rfl|(simp[hkq];done)|(simp[hkq];rfl)) ?_
    refine Ar (d:=.agg (Ak q.methods[k])) Ad rfl tdR tdR (by first|with_unfolding_all rfl|(simp;done)|(simp;rfl)) ?_;refine DO (fun i6 hi6=>?_);refine DO (fun i7 hi7=>?_);refine EJ (by rfl) ?_;have hz:(tab 98).zero=[dI 0,dI 0,dI 0,dI 0,.nils,dI 0,dI 0,.nils,dI 0]:=by(simp<;>rfl)
    rw[hz]at hi7⊢;have n67:i6≠i7:=fun e=>by rw[<-e,w7]at hi7;cases hi7
    have i70:=(Aa hi7).2;have hs1:Sub V (((V.set i6 (.cells [dI 0,dI 0,dI 0,dI 0,.nils,dI 0,dI 0,.nils,dI 0])).set i7 (.cells [dI 0,dI 0,dI 0,dI 0,.nils,dI 0,dI 0,.nils,dI 0])).set i6 (.cells (Ak p.methods[k]))):=(((Sub.refl _).set hi6).set i70).set hi6;have hs2:Sub V ((((V.set i6 (.cells [dI 0,dI 0,dI 0,dI 0,.nils,dI 0,dI 0,.nils,dI 0])).set i7 (.cells [dI 0,dI 0,dI 0,dI 0,.nils,dI 0,dI 0,.nils,dI 0])).set i6 (.cells (Ak p.methods[k]))).set i7 (.cells (Ak q.methods[k]))):=hs1.set i70;simp only[Ak,D8,List.cons_append,List.nil_append]at hs1 hs2;unfold BMeth.wt at w1 w2
    repeat' first|refine gz ?_ o19 [6,7,9,10,12,13]|apply gy<;>intro hh
    ·have hE:eqM p.methods[k] q.methods[k]=false:=by unfold eqM;clear hs1 hs2 hR hi6 hi7 hz i70 w1 w2 p5 p6 p7 q5 q6 q7 hsr hS e1 e2 e3 e4 e5 e6;simp_all
     rw[hE]at hR;simp only[Bool.false_and]at hR;rw[hR];exact fin1 (S':=V) ⟨rfl,rfl⟩ (hU:=hs2)
    ·have hE:eqM p.methods[k] q.methods[k]=false:=by unfold eqM;clear hs1 hs2 hR hi6 hi7 hz i70 w1 w2 p5 p6 p7 q5 q6 q7 hsr hS e1 e2 e3 e4 e5 e6;simp_all
     rw[hE]at hR;simp only[Bool.false_and]at hR;rw[hR];exact fin1 (S':=V) ⟨rfl,rfl⟩ (hU:=hs2)
    ·have hE:eqM p.methods[k] q.methods[k]=false:=by unfold eqM;clear hs1 hs2 hR hi6 hi7 hz i70 w1 w2 p5 p6 p7 q5 q6 q7 hsr hS e1 e2 e3 e4 e5 e6;simp_all
     rw[hE]at hR;simp only[Bool.false_and]at hR;rw[hR];exact fin1 (S':=V) ⟨rfl,rfl⟩ (hU:=hs2)
    ·have hE:eqM p.methods[k] q.methods[k]=false:=by unfold eqM;clear hs1 hs2 hR hi6 hi7 hz i70 w1 w2 p5 p6 p7 q5 q6 q7 hsr hS e1 e2 e3 e4 e5 e6;simp_all
     rw[hE]at hR;simp only[Bool.false_and]at hR;rw[hR];exact fin1 (S':=V) ⟨rfl,rfl⟩ (hU:=hs2)
    ·have hE:eqM p.methods[k] q.methods[k]=true:=by unfold eqM;clear hs1 hs2 hR hi6 hi7 hz i70 w1 w2 p5 p6 p7 q5 q6 q7 hsr hS e1 e2 e3 e4 e5 e6;simp_all
     rw[hE,Bool.true_and]at hR;have hsub:=hs2;exact⟨k+1,⟨by omega,hR⟩,td1,wkR⟩
   ·rw[A2 hkl,HH]at hR
    try simp only[Bool.true_and]at hR
    have hsr:=hR;clear hR;refine gz ?_ o19 [6,7,9,10,12,13];refine Bj [2,3] (fun (k:Nat)=>k<=p.nodes.length/\sameR=(all2 eqN (p.nodes.drop k) (q.nodes.drop k))) (fun k=>[(11,dI k)]) (fun _=>V) (fun k=>p.nodes.length-k) (0) (by simp[hsr]) (fun k hI=>?_);obtain⟨hk,hR⟩:=hI
    by_cases hkl:k<p.nodes.length
    ·have hkq:k<q.nodes.length:=by omega
     have w1:=p7 k hkl;have w2:=q7 k hkq;rw[A3 hkl,A3 hkq,all2]at hR;refine gz ?_ (delO 18 o19) [6,7,9,10,12,13];refine mixA (id:=18) [0,1,2,3,4,5,6,7,8,9,10,11,12,13] [12,13] ?_;refine Ar (d:=.cptr (Am p) 4) Ad rfl tdR tdR (by first|with_unfolding_all rfl|(simp;done)|(simp;rfl)) ?_;refine Ar (d:=sl (p.nodes.map Af)) Ad rfl tdR tdR (by first|with_unfolding_all rfl|(simp;done)|(simp;rfl)) ?_;refine Ar (d:=dI k) Ad rfl tdR tdR (by first|with_unfolding_all rfl|(simp;done)|(simp;rfl)) ?_;refine Ar (d:=.cptr (Af p.nodes[k]) 0) Ad rfl tdR tdR (by first|with_unfolding_all rfl|(simp[hkl];done)|(simp[hkl];rfl)) ?_;refine Ar (d:=.agg (Af p.nodes[k])) Ad rfl tdR tdR (by first|with_unfolding_all rfl|(simp;done)|(simp;rfl)) ?_;refine Ar (d:=.cptr (Am q) 4) Ad rfl tdR tdR (by first|with_unfolding_all rfl|(simp;done)|(simp;rfl)) ?_;refine Ar (d:=sl (q.nodes.map Af)) Ad rfl tdR tdR (by first|with_unfolding_all rfl|(simp;done)|(simp;rfl)) ?_;refine Ar (d:=dI k) Ad rfl tdR tdR (by first|with_unfolding_all rfl|(simp;done)|(simp;rfl)) ?_;refine Ar (d:=.cptr (Af q.nodes[k]) 0) Ad rfl tdR tdR (by first|with_unfolding_all rfl|(simp[hkq];done)|(simp[hkq];rfl)) ?_
     refine Ar (d:=.agg (Af q.nodes[k])) Ad rfl tdR tdR (by first|with_unfolding_all rfl|(simp;done)|(simp;rfl)) ?_;refine DO (fun i6 hi6=>?_);refine DO (fun i7 hi7=>?_);refine EJ (by rfl) ?_;have hz:(tab 104).zero=[dI 0,dI 0,.nils]:=by(simp<;>rfl)
     rw[hz]at hi7⊢;have n67:i6≠i7:=fun e=>by rw[<-e,w7]at hi7;cases hi7
     have i70:=(Aa hi7).2;have hs1:Sub V (((V.set i6 (.cells [dI 0,dI 0,.nils])).set i7 (.cells [dI 0,dI 0,.nils])).set i6 (.cells (Af p.nodes[k]))):=(((Sub.refl _).set hi6).set i70).set hi6;have hs2:Sub V ((((V.set i6 (.cells [dI 0,dI 0,.nils])).set i7 (.cells [dI 0,dI 0,.nils])).set i6 (.cells (Af p.nodes[k]))).set i7 (.cells (Af q.nodes[k]))):=hs1.set i70;simp only[Af]at hs1 hs2;unfold BNode.wt at w1 w2
     repeat' first|refine gz ?_ o19 [6,7,9,10,12,13]|apply gy<;>intro hh
     ·have hE:eqN p.nodes[k] q.nodes[k]=false:=by unfold eqN;clear hs1 hs2 hR hi6 hi7 hz i70 w1 w2 p5 p6 p7 q5 q6 q7 hsr hS e1 e2 e3 e4 e5 e6;simp_all
      rw[hE]at hR;simp only[Bool.false_and]at hR;rw[hR];exact fin1 (S':=V) ⟨rfl,rfl⟩ (hU:=hs2)
     ·have hE:eqN p.nodes[k] q.nodes[k]=false:=by unfold eqN;clear hs1 hs2 hR hi6 hi7 hz i70 w1 w2 p5 p6 p7 q5 q6 q7 hsr hS e1 e2 e3 e4 e5 e6;simp_all
      rw[hE]at hR;simp only[Bool.false_and]at hR;rw[hR];exact fin1 (S':=V) ⟨rfl,rfl⟩ (hU:=hs2)
     ·have hE:eqN p.nodes[k] q.nodes[k]=false:=by unfold eqN;clear hs1 hs2 hR hi6 hi7 hz i70 w1 w2 p5 p6 p7 q5 q6 q7 hsr hS e1 e2 e3 e4 e5 e6;simp_all
      rw[hE]at hR;simp only[Bool.false_and]at hR;rw[hR];exact fin1 (S':=V) ⟨rfl,rfl⟩ (hU:=hs2)
     ·have hE:eqN p.nodes[k] q.nodes[k]=true:=by unfold eqN;clear hs1 hs2 hR hi6 hi7 hz i70 w1 w2 p5 p6 p7 q5 q6 q7 hsr hS e1 e2 e3 e4 e5 e6;simp_all
      rw[hE,Bool.true_and]at hR;have hsub:=hs2;exact⟨k+1,⟨by omega,hR⟩,td1,wkR⟩
    ·rw[A2 hkl,HH]at hR
     try simp only[Bool.true_and]at hR
     have hsr:=hR;clear hR;refine gz ?_ o19 [6,7,9,10,12,13];rw[hsr];exact fin1 (S':=V) ⟨rfl,rfl⟩
@[reducible,instance] def a19:=fun p q V=>ah2 (@Lb p q V)
theorem JJ{l m:List Int}(h:∀x,x∈l ↔ x∈m): ∀(a:List Init) (seen:List Int),Dq l seen a=Dq m seen a
 |[],_=>rfl
 |x::r,seen=>by rw[Dq,Dq,JJ h r,decide_eq_decide.2 (h x.slot)]
def Iw(p:BProg):Nat->List BClass->Bool
 |_,[]=>true
 |i,c::r=>decide (linE (p.classes.map (·.parents)) ((i:Int)+3)=0)&&Dq (hasG p.classes (((i:Int)+3)-2).toNat [((i:Int)+3)] []) [] c.inits&&Iw p (i+1) r
theorem Hh(p:BProg): ∀(l:List BClass) (i:Nat),AS p i l=Iw p i l
 |[],_=>rfl
 |c::r,i=>by
  rw[AS,Iw,Hh p r]
  congr 2
  exact JJ (fun x=>by unfold hasP Ez;exact List.mem_mergeSort) _ _
theorem UJ:AS exB 0 exB.classes=true:=by rw[Hh];decide +kernel
theorem Qo:Av exB=true:=by
 unfold Av;have h1:Cc 0 exB.classes=some 2:=by decide +kernel
 have h2:Ca (exB.classes.map (·.parents))=true:=by decide +kernel
 have h3:decide (exB.classes.length<=10)=true:=by decide +kernel
 have h4:decide ((2:Int)=exB.slots)=true:=by decide +kernel
 rw[h1,h3];simp only[h2,h4,UJ,Bool.and_self,Bool.and_true]
theorem NP:CH exB=some [1,1,1,1,1,2,0,0]:=by
 unfold CH;rw[Qo]
 decide +kernel
theorem ex_ok:okP exB=true:=by unfold okP;rw[NP];rfl
theorem Ld:D7 exB=0:=by
 unfold D7;rw[ex_ok]
 decide +kernel
theorem P8:FL (exA [[98],[97]])=0:=by decide +kernel
theorem P7:FL (exA [[97],[98]])=7:=by decide +kernel
theorem Tf:Fm (H6 (exA [[98],[97]])) exB=true:=by decide +kernel
theorem V5:Ez [1,0]=[0,1]:=by simp[Ez,List.mergeSort,List.MergeSort.Internal.splitInTwo,List.merge]
theorem NQ:hasP exB 5=[0,1]:=by
 unfold hasP;rw[show hasG exB.classes ((5:Int)-2).toNat [5] []=[1,0] by decide +kernel,V5]
theorem ex_has4:hasP exB 4=[0,1]:=by
 unfold hasP;rw[show hasG exB.classes ((4:Int)-2).toNat [4] []=[1,0] by decide +kernel,V5]
theorem MG:J9 exB 5=[⟨0,1⟩]:=by unfold J9;rw[NQ];decide +kernel
theorem MH:J9 exB 4=[⟨0,7⟩]:=by unfold J9;rw[ex_has4];decide +kernel
theorem Tg:ownF exB 5=true:=by decide +kernel
theorem Th:ownF exB 4=true:=by decide +kernel
theorem P6:(CE exB).owner=[3,4]:=by decide +kernel
theorem ex_form:Er exB=⟨(spCs exB),exB.methods.map (spM exB),(Ai exB).main⟩:=by unfold Er;rw[Ld];rfl
theorem UK: ∃c0 c1 c2 m0 m1 mn,Er exB=⟨[c0,c1,c2],[m0,m1],mn⟩/\c2.name=[99]/\m0.name=[97]:=by
 have hc:(spCs exB).map (·.name)=[[97],[98],[99]]:=by decide +kernel
 have hm:(spM exB ⟨1,0,.mk 2 0 [] 3 0 [],0⟩).name=[97]:=by decide +kernel
 rw[ex_form];rcases hs:spCs exB with _|⟨c0,_|⟨c1,_|⟨c2,_|⟨c3,r⟩⟩⟩⟩<;>rw[hs]at hc<;>simp at hc;exact⟨c0,c1,c2,_,_,_,rfl,hc.2.2,hm⟩
theorem P1(V:Sig):DCall prog 16 [] V (rS (.bool true) V):=by
 have w1:(exA [[98],[97]]).wt<=10000000:=by decide +kernel
 have w2:(exA [[97],[98]]).wt<=10000000:=by decide +kernel
 have w3:exB.wt<=10000000:=by decide +kernel
 have w4:(H6 (exA [[98],[97]])).wt<=1073741824:=by decide +kernel
 have h45a:=fun (o:Own) (V:Sig)=>OX [[98],[97]] o V;have h45b:=fun (o:Own) (V:Sig)=>OX [[97],[98]] o V;have h17a:=fun (V:Sig)=>HC _ V w1;have h17b:=fun (V:Sig)=>HC _ V w2;have h19:=fun (V:Sig)=>Lb _ exB V w4 (by omega)
 have h20:=fun (V:Sig)=>HB exB V w3;have h13:=fun (V:Sig)=>Lc exB V (by omega)
 have h11:=fun (V:Sig)=>P3 exB V (by omega)
 have h23:=fun (V:Sig)=>P0 exB 5 V (by omega)
 have h25a:=fun (V:Sig)=>La exB 5 V (by omega)
 have h25b:=fun (V:Sig)=>La exB 4 V (by omega)
 have h37:=fun (V:Sig)=>OY exB V (by omega)
 obtain⟨c0,c1,c2,m0,m1,mn,e1,e2,e3⟩:=UK
 have h15:∀(l:List Int) (V:Sig),l.length<=1073741824->DCall prog 15 [.slice (cI l) .no,.slice (cI l) .clip] V (rS (.bool true) V):=fun l V hl=>by
  have:=P2 l l .no .clip V hl;simpa using this
 have h27:∀(l:List Init) (V:Sig),l.length<=1073741824->DCall prog 27 [.slice (l.map CP) .no,.slice (l.map CP) .clip] V (rS (.bool true) V):=fun l V hl=>by
  have:=OZ l l .no .clip V hl hl;simpa using this
 have g1:=fun (V:Sig)=>h15 [1,1,1,1,1,2,0,0] V (by simp)
 have g2:=fun (V:Sig)=>h15 [0,1] V (by simp)
 have g3:=fun (V:Sig)=>h15 [3,4] V (by simp)
 have g4:=fun (V:Sig)=>h27 [⟨0,1⟩] V (by simp)
 have g5:=fun (V:Sig)=>h27 [⟨0,7⟩] V (by simp)
 have he:MJ (some [1,1,1,1,1,2,0,0])=0:=rfl;refine en func16 ntmps16 ?_
 repeat' first|refine gf (gi P8 (gi P7 (gi Ld (gi Tf (gi ex_ok (gi NP (gi Tg (gi Th (gi NQ (gi MG (gi MH (gi e1 (gi e2 (gi e3 (gi P6 he))))))))))))))) ?_|refine AE (h45a _ _) ?_|refine callP (h45a _ _) ?_|refine AE (h45b _ _) ?_|refine callP (h45b _ _) ?_|refine EX (g1 _) ?_|refine EY (g1 _) ?_|refine EX (g2 _) ?_|refine EY (g2 _) ?_|refine EX (g3 _) ?_|refine EY (g3 _) ?_|refine EX (g4 _) ?_|refine EY (g4 _) ?_|refine EX (g5 _) ?_|refine EY (g5 _) ?_|refine gf (gi P8 (gi P7 (gi Ld (gi Tf (gi ex_ok (gi NP (gi Tg (gi Th (gi NQ (gi MG (gi MH (gi e1 (gi e2 (gi e3 (gi P6 he))))))))))))))) ?_ o16|apply gy<;>intro hh
 exact fin1 (S':=V) ⟨rfl,rfl⟩
@[reducible,instance] def a16:=fun V=>ah0 (@P1 V)
mutual
theorem Fact.beq_self: ∀f:Fact,f.beq f=true
 |.mk o a p c n k=>by rw[Fact.beq_eq];simp only[Fact.kids];rw[Fact.beqs_self k];simp
theorem Fact.beqs_self: ∀l:List Fact,Fact.beqs l l=true
 |[]=>rfl
 |x::r=>by rw[Fact.beqs,Fact.beq_self x,Fact.beqs_self r];rfl
end
theorem GA{α:Type}{f:α->α->Bool}(h:∀x,f x x=true): ∀l:List α,all2 f l l=true
 |[]=>by rw[HH]
 |x::r=>by rw[all2,h,GA h r];rfl
theorem sameB_self(p:BProg):Fm p p=true:=by
 unfold Fm PT;rw[GA (fun x=>by simp[eqC]),GA (fun x=>by simp[eqM,Fact.beq_self]),GA (fun x=>by simp[eqN])];simp
mutual
theorem TH(cm sm:List (Str×Int))(env:Str->Int): ∀x:FFact,(bndF cm sm env x).wt<=x.wt
 |.mk o s p c n k=>by
  rw[bndF,Fact.wt_eq,FFact.wt_eq];have:=Pj cm sm env k;have h2:=Bk p;simp only[Fact.path,Fact.kids,FFact.name,FFact.path,FFact.cls,FFact.kids,List.length_map];omega
theorem Pj(cm sm:List (Str×Int))(env:Str->Int): ∀l:List FFact,wtL Fact.wt (Gz cm sm env l)<=wtL FFact.wt l
 |[]=>by rw[Gz,wtL,wtL];omega
 |x::r=>by
  have h1:=TH cm sm env x;have h2:=Pj cm sm env r;rw[Gz,wtL,wtL];omega
end
theorem I1: ∀(l:List FExp) (k:Nat),(DZ l k).length=l.length
 |[],_=>rfl
 |x::r,k=>by rw[DZ,List.length_cons,I1 r,List.length_cons]
mutual
theorem NZ(cm sm gm:List (Str×Int)): ∀(e:FExp) (env:Str->Int) (size:Int) (k:Nat),wtL BNode.wt (bndE cm sm gm e env size k)+1<=2*e.wt
 |.mk o n t l,env,size,k=>by
  rw[bndE,wtL,FExp.wt_eq];have:=Pk cm sm gm o t l 0 env size (k+1);simp only[BNode.wt,I1,FExp.text,FExp.kids];omega
theorem Pk(cm sm gm:List (Str×Int))(o:Int)(t:Str): ∀(l:List FExp) (i:Nat) (env:Str->Int) (size:Int) (k:Nat),wtL BNode.wt (H5 cm sm gm o t l i env size k)+l.length<=2*wtL FExp.wt l
 |[],_,_,_,_=>by rw[H5,wtL,wtL];simp
 |x::r,i,env,size,k=>by
  have h2:=Pk cm sm gm o t r (i+1) env size (k+x.cnt);have h1:wtL BNode.wt (if o=9/\i=1 then bndE cm sm gm x (updE env t size) (size+1) k else bndE cm sm gm x env size k)+1<=2*x.wt:=by split<;>exact NZ cm sm gm x _ _ _
  rw[H5,Fy,wtL,List.length_cons];omega
end
theorem TG(cm sm gm:List (Str×Int)): ∀(l:List FMeth) (k:Nat),wtL BMeth.wt (bndMM cm sm gm l k)<=wtL FMeth.wt l/\wtL BNode.wt (FK cm sm gm l k)<=2*wtL FMeth.wt l
 |[],_=>by rw[bndMM,FK];simp[wtL]
 |m::r,k=>by
  obtain⟨h1,h2⟩:=TG cm sm gm r (k+m.body.cnt);have h3:=TH cm sm (Ep m) m.fact;have h4:=NZ cm sm gm m.body (Ep m) m.params.length k;have e1:FMeth.wt m=1+m.name.length+wtS m.params+m.fact.wt+m.body.wt:=rfl;have e2:BMeth.wt ⟨m.kind,getM 0 m.name gm,bndF cm sm (Ep m) m.fact,(k:Int)⟩=1+(bndF cm sm (Ep m) m.fact).wt:=rfl;rw[bndMM,FK,wtL,wtL,Fy,e1,e2];omega
theorem Pn(cm sm:List (Str×Int)): ∀l:List FClass,wtL BClass.wt (l.map (J8 cm sm))<=wtL FClass.wt l
 |[]=>by simp[wtL]
 |c::r=>by
  have:=Pn cm sm r;have h1:=Bk c.parents;have h2:=Bk c.slots;have h3:=CQ FInit.wt (fun x=>by unfold FInit.wt;omega) c.inits;have e1:FClass.wt c=1+c.name.length+wtS c.parents+wtS c.slots+wtL FInit.wt c.inits:=rfl;have e2:BClass.wt (J8 cm sm c)=1+c.parents.length+c.slots.length+c.inits.length:=by unfold BClass.wt J8;simp only[List.length_map]
  rw[List.map_cons,wtL,wtL,e1,e2];omega
mutual
theorem Fact.beq_iff: ∀(f g:Fact),f.beq g=true ↔ f=g
 | .mk o a p c n k, .mk o' a' p' c' n' k'=>by
  rw[Fact.beq_eq]
  have e:((decide (o=o')&&decide (a=a')&&decide (c=c')&&decide (n=n')&&(p==p')&&decide (k.length=k'.length)&&Fact.beqs k k')=true) ↔ Fact.mk o a p c n k=.mk o' a' p' c' n' k':=by
   simp only[Bool.and_eq_true,decide_eq_true_eq,beq_iff_eq,Fact.mk.injEq];constructor
   ·rintro⟨⟨⟨⟨⟨⟨h1,h2⟩,h3⟩,h4⟩,h5⟩,hl⟩,hk⟩
    exact⟨h1,h2,h5,h3,h4,(Fact.beqs_iff k k' hl).1 hk⟩
   ·rintro⟨h1,h2,h5,h3,h4,hk⟩
    exact⟨⟨⟨⟨⟨⟨h1,h2⟩,h3⟩,h4⟩,h5⟩,by rw[hk]⟩,(Fact.beqs_iff k k' (by rw[hk])).2 hk⟩
  exact e
theorem Fact.beqs_iff: ∀(l m:List Fact),l.length=m.length->(Fact.beqs l m=true ↔ l=m)
 |[],[],_=>by simp[Fact.beqs]
 |[],_::_,h=>by simp at h
 |_::_,[],h=>by simp at h
 |x::r,y::s,h=>by
  rw[Fact.beqs,Bool.and_eq_true,Fact.beq_iff x y,Fact.beqs_iff r s (by simpa using h),List.cons.injEq]
end
theorem HD{α:Type}{eq:α->α->Bool}(h:∀x y,eq x y=true ↔ x=y): ∀a b:List α,eqFn eq a b=true ↔ a=b
 |[],[]=>by simp[eqFn]
 |[],_::_=>by simp[eqFn]
 |_::_,[]=>by simp[eqFn]
 |x::r,y::s=>by rw[eqFn,Bool.and_eq_true,h,HD h r s,List.cons.injEq]
theorem HI{α:Type}{eq:α->α->Bool}(h:∀x y,eq x y=true ↔ x=y): ∀a b:List α,a.length=b.length->(all2 eq a b=true ↔ a=b)
 |[],[],_=>by simp[all2]
 |[],_::_,hl=>by simp at hl
 |_::_,[],hl=>by simp at hl
 |x::r,y::s,hl=>by rw[all2,Bool.and_eq_true,h,HI h r s (by simpa using hl),List.cons.injEq]
theorem Pp(x y:BMeth):x.beq y=true ↔ x=y:=by
 obtain⟨a,b,c,d⟩:=x;obtain⟨a',b',c',d'⟩:=y;unfold BMeth.beq;simp only[Bool.and_eq_true,decide_eq_true_eq,Fact.beq_iff,BMeth.mk.injEq];constructor
 ·rintro⟨⟨⟨h1,h2⟩,h3⟩,h4⟩;exact⟨h1,h2,h4,h3⟩
 ·rintro⟨h1,h2,h4,h3⟩;exact⟨⟨⟨h1,h2⟩,h3⟩,h4⟩
theorem BProg.beq_iff(p q:BProg):p.beq q=true ↔ p=q:=by
 obtain⟨a,b,c,d,e,f⟩:=p;obtain⟨a',b',c',d',e',f'⟩:=q;unfold BProg.beq;simp only[Bool.and_eq_true,decide_eq_true_eq,BProg.mk.injEq];rw[HD (fun x y=>by unfold BClass.beq;exact decide_eq_true_iff),HD Pp,HD (fun x y=>by unfold BNode.beq;exact decide_eq_true_iff)];constructor
 ·rintro⟨⟨⟨⟨⟨h1,h2⟩,h3⟩,h4⟩,h5⟩,h6⟩;exact⟨h1,h4,h5,h2,h3,h6⟩
 ·rintro⟨h1,h4,h5,h2,h3,h6⟩;exact⟨⟨⟨⟨⟨h1,h2⟩,h3⟩,h4⟩,h5⟩,h6⟩
theorem QY(p q:BProg):Fm p q=true ↔ p=q:=by
 constructor
 ·intro h;obtain⟨a,b,c,d,e,f⟩:=p;obtain⟨a',b',c',d',e',f'⟩:=q;unfold Fm PT at h;simp only[Bool.and_eq_true,decide_eq_true_eq,beq_iff_eq]at h;obtain⟨⟨⟨⟨⟨⟨⟨⟨h1,h2⟩,h3⟩,h4⟩,h5⟩,h6⟩,h7⟩,h8⟩,h9⟩:=h
  have k1:=(HI (eq:=eqC) (fun x y=>by
   obtain⟨u,v,w⟩:=x
   obtain⟨u',v',w'⟩:=y
   unfold eqC;simp only[Bool.and_eq_true,decide_eq_true_eq,beq_iff_eq,BClass.mk.injEq,and_assoc]) a a' h4).1 h7
  have k2:=(HI (eq:=eqM) (fun x y=>by
   rw[<-Pp];rfl) d d' h5).1 h8
  have k3:=(HI (eq:=eqN) (fun x y=>by
   obtain⟨u,v,w⟩:=x
   obtain⟨u',v',w'⟩:=y
   unfold eqN;simp only[Bool.and_eq_true,decide_eq_true_eq,beq_iff_eq,BNode.mk.injEq,and_assoc]) e e' h6).1 h9
  rw[k1,k2,k3,h1,h2,h3]
 ·rintro rfl;exact sameB_self p
theorem UY(p q:BProg):p.beq q=Fm p q:=by rw[Bool.eq_iff_iff,BProg.beq_iff,QY]
def L0(p:BProg):Bool:=okP p&&((B9 (Ai p)).isSome&&Fm (Ah (Ai p)) p)
theorem Pi{f:FProg}:(Ah f).wt<=4*f.wt+10:=by
 have h1:=Pn (Bi f) (Bl f) f.classes;obtain⟨h2,h3⟩:=TG (Bi f) (Bl f) (AN f) f.methods 0;have h4:=NZ (Bi f) (Bl f) (AN f) f.main (fun _=>0) 0 (FK (Bi f) (Bl f) (AN f) f.methods 0).length
 have h5:(Hq (AN f) f).length<=f.wt:=by
  unfold Hq;rw[Du,HG,List.length_replicate,Hz];have:=IE f;unfold gensN;rw[List.length_map];exact this
 unfold BProg.wt Ah;simp only[Fy];unfold FProg.wt at*;omega
theorem UH(p:BProg)(V:Sig)(hw:p.wt<=1048576):DCall prog 35 [.agg (Am p)] V (rS (.tup [.bool (L0 p),dI (if okP p then 0 else 2)]) V):=by
 have i20:∀V:Sig,Ans 20 [.agg (Am p)] V True (.tup [.agg (BA (Er p)),dI (D7 p)]):=fun V=>ah0 (HB p V (by omega))
 cases hok:okP p with
 |false=>
  have hE:D7 p=2:=by unfold D7;rw[hok];rfl
  have hi:L0 p=false:=by unfold L0;rw[hok];rfl
  rw[hi];refine en func35 ntmps35 ?_;refine gf hE ?_ o35;exact fin2 (S':=V) ⟨rfl,rfl⟩
 | true =>
  have hsw:=KH hok;cases hs:(B9 (Ai p)).isSome with
  |false=>
   have hE:D7 p=3:=by unfold D7;rw[hok,hs];rfl
   have hi:L0 p=false:=by unfold L0;rw[hok,hs];rfl
   rw[hi];refine en func35 ntmps35 ?_;refine gf hE ?_ o35;exact fin2 (S':=V) ⟨rfl,rfl⟩
  |true=>
   have hE:D7 p=0:=by unfold D7;rw[hok,hs];rfl
   have hP:Er p=Ai p:=by unfold Er;rw[hE];rfl
   have hbw:=Pi (f:=Ai p);have hi:L0 p=(Ah (Ai p)).beq p:=by unfold L0;rw[hok,hs,UY];rfl
   rw[hi];have i48:∀V:Sig,Ans 48 [.agg (BA (Ai p))] V True (.agg (Am (Ah (Ai p)))):=fun V=>ah0 (OV (Ai p) V (by omega) hs)
   have i68:∀V:Sig,Ans 68 [.agg (Am (Ah (Ai p))),.agg (Am p)] V True (.bool ((Ah (Ai p)).beq p)):=fun V=>ah0 (Uy _ p V (by omega) (by omega))
   generalize Ai p=q at*;refine en func35 ntmps35 ?_;refine gf (gi hE hP) ?_;refine mixL (id:=6) [0,2,1,3,4] [1,3] ?_;refine gz ?_ o35;exact fin2 (S':=V) ⟨rfl,rfl⟩
theorem UI(p:BProg)(V:Sig)(hw:p.wt<=1048576):DCall prog 10 [.agg (Am p)] V (rS (.bool true) V):=by
 have h16:=fun (V:Sig)=>P1 V;have i20:∀V:Sig,Ans 20 [.agg (Am p)] V True (.tup [.agg (BA (Er p)),dI (D7 p)]):=fun V=>ah0 (HB p V (by omega))
 by_cases hE:D7 p=0
 ·have hok:okP p=true:=by
   unfold D7 at hE;split at hE
   ·assumption
   ·cases hE
  have hs:(B9 (Ai p)).isSome=true:=by
   unfold D7 at hE;rw[if_pos hok]at hE;split at hE
   ·assumption
   ·cases hE
  have hP:Er p=Ai p:=by unfold Er;rw[hE];rfl
  have hb:=PP hok hs;have eP:H6 (Ai p)=Ah (Ai p):=by unfold H6;rw[if_pos hb]
  have hsw:=KH hok;have hbw:=Pi (f:=Ai p);have hio:L0 p=Fm (Ah (Ai p)) p:=by unfold L0;rw[hok,hs];rfl
  have k1:=M1 p;have k2:=M0 p;have k3:=PN hok;have k4:=Ru (sp_ok (by omega) hok);have k5:=PM hok;have i17:∀V:Sig,Ans 17 [.agg (BA (Ai p))] V True (.tup [.agg (Am (Ah (Ai p))),dI 0]):=fun V=>ah0 (by have:=HC (Ai p) V (by omega);rw[eP,hb]at this;exact this)
  have i35:∀V:Sig,Ans 35 [.agg (Am p)] V True (.tup [.bool (Fm (Ah (Ai p)) p),dI 0]):=fun V=>ah0 (by have:=UH p V hw;rw[hio,hok]at this;exact this)
  have i19:∀V:Sig,Ans 19 [.agg (Am (Ah (Ai p))),.agg (Am p)] V True (.bool (Fm (Ah (Ai p)) p)):=fun V=>ah0 (Lb _ p V (by omega) (by omega))
  obtain⟨p1,p2,p3,p4,p5,p6,p7⟩:=p.wt_le;rw[hP,hE]at i20;clear hP hE hb eP hsw hbw hio hok hs;generalize Ai p=q at*;generalize Ah q=a at*;generalize Fm a p=b at*;refine en func10 ntmps10 ?_;refine gz ?_;exact fin1 (S':=V) ⟨rfl,rfl⟩
 ·have hP:Er p=Ej:=by unfold Er;rw[if_neg hE]
  rw[hP]at i20
  have i22:∀V:Sig,Ans 22 [.agg (BA Ej),.agg [.nils,.nils,dI 0,dI 0,.str [],.nils]] V True (.bool true):=fun V=>ah0 (by
   have:=Sq Ej V (by decide)
   have e:BA Ej=[sl [],sl [],dI 0,dI 0,.str [],sl []]:=by simp[Ej,FExp.op,FExp.n,FExp.text,FExp.kids]
   refine DCall.wk this (O9 (A7 _) (O9 ?_ wkL_nil))
   rw[e]
   exact Ev (show WkL _ _ from⟨Aq _ (.inl rfl),Aq _ (.inl rfl),A7 _,A7 _,A7 _,Aq _ (.inl rfl),trivial⟩))
  generalize D7 p=e at*;generalize Ej=z at*;refine en func10 ntmps10 ?_;refine gz ?_;exact fin1 (S':=V) ⟨rfl,rfl⟩
end Go.DL
namespace Go.DL
open Go.Proofs.Tryz
open Go Go.Proofs
open Go.Proofs.YtlfimpogphmbdaaGreat.Rows (uptoBulk uptoBulkAll)
def g0(W:Go.World):G:={ imm:=fun b o=>W.cell? ⟨b,o,none⟩,rho:=fun _=>none,hist:=fun _ _=>none,keep:=fun k=>W.heap[k]?, io:=(W.os,W.output) }
theorem sim0(P:Program)(W:Go.World):Sim P (g0 W) (fun _=>none) W where
 imm:=fun _ _ _ h=>h
 keep:=fun _ _ h=>h
 obj:=fun _ _ h=>by cases h
 inj:=fun _ _ _ h=>by cases h
 free:=fun _ _ h=>by cases h
 htop:=fun _ _ _ _ h=>by cases h
 hdom:=fun _ _ _ h=>by cases h
 fin:=⟨0,fun _ _=>rfl⟩
 io:=rfl
theorem J2{α:Type}{p:Nat->α->Prop}: ∀n,(∀i,i<n->∃a,p i a)->∃l:List α,l.length=n /\ ∀i a,l[i]? = some a->p i a
 |0,_=>⟨[],rfl,fun i a h=>by simp at h⟩
 | n+1,h=>by
  obtain⟨l,hl,hp⟩:=J2 n fun i hi=>h i (by omega)
  obtain⟨a,ha⟩:=h n (by omega);refine⟨l++[a],by simp[hl],fun i b hb=>?_⟩
  by_cases hi:i<n
  ·rw[List.getElem?_append_left (by omega)]at hb;exact hp i b hb
  ·rw[List.getElem?_append_right (by omega)]at hb
   have h0:i-l.length=0:=by
    rcases Nat.eq_zero_or_pos (i-l.length)with h|h
    ·exact h
    ·rw[List.getElem?_eq_none (by simp;omega)]at hb;cases hb
   rw[h0]at hb;simp at hb;rw[show i=n by omega,<-hb];exact ha
theorem R2{g:G}{b:Nat}: ∀{ds:List D}{vs:List Value}{o:Nat},RepL g ds vs->(∀j v,vs[j]? = some v->g.imm b (o+j)=some v)->RepI g b o ds
 |[],_,_,_,_=>trivial
 |d::ds,_,o,⟨v,r,e,h1,h2⟩,hi=>by
  subst e;exact⟨⟨v,hi 0 v rfl,h1⟩,R2 h2 fun j x hx=>by rw[Nat.add_assoc,Nat.add_comm 1 j];exact hi (j+1) x hx⟩
theorem R3{g:G}{b sz:Nat}: ∀{l:List (List D)}{o:Nat},(∀i e,l[i]? = some e->e.length=sz/\RepI g b (o+i*sz) e)->RepE g b sz o l
 |[],_,_=>trivial
 |e::l,o,h=>⟨by simpa using h 0 e rfl,R3 fun i x hx=>by
  have:=h (i+1) x hx
  rw[Nat.add_mul,Nat.one_mul,Nat.add_comm (i*sz),<-Nat.add_assoc]at this;exact this⟩
theorem V3{α H:Type}{wt:α->Nat}: ∀{l:List α}{xs:List (DataW H)},l.length=xs.length->(∀(i:Nat) a x,l[i]? = some a->xs[i]? = some x->wt a<=uptoBulk x)->wtL wt l<=uptoBulkAll xs
 |[],[],_,_=>Nat.zero_le _
 |a::l,x::xs,h,hp=>by
  have h1:=hp 0 a x rfl rfl;have h2:=V3 (l:=l) (xs:=xs) (by simpa using h) fun i b y hb hy=>hp (i+1) b y hb hy
  simp only[wtL,uptoBulkAll];omega
section
variable {H:Type}{enc:TypeId×Value->H}{W:Go.World}
noncomputable abbrev rd(enc:TypeId×Value->H)(W:Go.World)(n t:Nat)(cs:List Value):Option (DataW H×List MemPlace):=DataW.trod enc prog W 0 (fun _=>true) true n t cs
def Dec(enc:TypeId×Value->H)(W:Go.World){α:Type}(n t:Nat)(c:α->List D)(wt:α->Nat):Prop:= ∀cs x,rd enc W n t cs=some x->∃a,RepL (g0 W) (c a) cs/\wt a<=uptoBulk x.1
theorem Cr{t n:Nat}(ht:prog.underlying t=some (.int .i64)):Dec enc W n t (fun k:Int=>[dI k]) (fun _=>1):=fun cs x h=>by
 obtain⟨k,rfl,rfl,_⟩:=DataW.trod_int ht h;exact⟨k,⟨_,[],rfl,rfl,rfl⟩,by simp[uptoBulk]⟩
theorem DU{α:Type}{t e sz n:Nat}{c:α->List D}{wt:α->Nat}(ht:prog.underlying t=some (.slice e))(hz:prog.cellsOf e=sz)(hpos:0<sz)(hc:∀a,(c a).length=sz)(hd:∀m,m<n->Dec enc W m e c wt):
  Dec enc W n t (fun l:List α=>[sl (l.map c)]) (fun l=>1+wtL wt l):=fun cs x h=>by
 rcases DataW.trod_slice ht h with⟨rfl,rfl⟩|⟨a,len,cap,elems,rest,m,rfl,rfl,rfl,hb,hl,hm,hlen,hel, -, -⟩
 ·exact⟨[],⟨_,[],rfl,⟨Option.none,0,rfl,by simp,.inl rfl,trivial⟩,rfl⟩,by simp[uptoBulk,wtL]⟩
 ·have key:∀i,i<len->∃b:α, ∃y vs,elems[i]? = some y/\W.cells? 0 (a.add (i*sz)) sz=some vs/\RepL (g0 W) (c b) vs/\wt b<=uptoBulk y.1:=fun i hi=>by
   have h1:=hel i hi;rw[hz,List.getElem?_eq_getElem (by omega)]at h1;obtain⟨vs,h2,h3⟩:=Option.bind_eq_some_iff.1 h1;obtain⟨b,h4,h5⟩:=hd m (by omega) vs _ h3;exact⟨b,_,vs,List.getElem?_eq_getElem (by omega),h2,h4,h5⟩
  obtain⟨l,hll,hp⟩:=J2 len key;refine⟨l,⟨_,[],rfl,⟨some a,cap,by simp[hll],by simpa[hll] using hl,?_,trivial⟩,rfl⟩,?_⟩
  ·cases hlz:l with
   |nil=>exact .inl rfl
   | cons b0 l' =>
    rw[<-hlz];have hl0:0<len:=by rw[<-hll,hlz];simp
    obtain⟨y,vs,k1,k2,k3,k4⟩:=hp 0 b0 (by rw[hlz];rfl);obtain⟨_,k5,k6⟩:=World.cells?_some k2
    have hsp:a.spot=none:=by
     have:=k6 0 (by omega);cases hs:a.spot with
     |none=>rfl
     |some q=>simp[World.cell?, Addr.add,hs]at this;split at this<;>simp_all
    obtain⟨ab,ao,asp⟩:=a;simp only at hsp;subst hsp;refine .inr ⟨sz,ab,ao,rfl,R3 fun i e he=>?_⟩;rw[List.getElem?_map]at he;obtain⟨b,hb1,rfl⟩:=Option.map_eq_some_iff.1 he;obtain⟨y,vs,k1,k2,k3,k4⟩:=hp i b hb1;obtain⟨_,k5,k6⟩:=World.cells?_some k2;refine⟨hc b,R2 k3 fun j v hv=>?_⟩;have hj:j<sz:=by rw[<-k5];exact(List.getElem?_eq_some_iff.1 hv).1
    have:=k6 j hj;rw[hv,Bx,Bx]at this;exact this
  ·have:=V3 (wt:=wt) (l:=l) (xs:=elems.map (·.1)) (by simp;omega) fun i b z hb1 hz1=>by
    obtain⟨y,vs,k1,k2,k3,k4⟩:=hp i b hb1;rw[List.getElem?_map,k1]at hz1;simp at hz1;subst hz1;exact k4
   simp only[uptoBulk];omega
set_option maxRecDepth 100000
theorem DK{t n:Nat}{fs:Array Field}(ht:prog.underlying t=some (.struct fs)){cs:List Value}{x:DataW H×List MemPlace}(h:rd enc W n t cs=some x):
  ∃(xs:List (DataW H×List MemPlace)) (m:Nat),m<n/\uptoBulk x.1=uptoBulkAll (xs.map (·.1))+1/\cs.length=prog.cellsOf t/\xs.length=fs.size /\
   ∀(i:Nat) (f:Field),fs[i]? = some f->rd enc W m f.type ((cs.drop f.offset).take (prog.cellsOf f.type))=xs[i]? :=by
 obtain⟨xs,m,rfl,rfl,h1,h2,h3⟩:=DataW.trod_struct ht h;exact⟨xs,m,by omega,by simp[uptoBulk],h1,h2,h3⟩
theorem cellsI:prog.cellsOf 3=1:=by kernel_rfl
theorem Gv(n:Nat):Dec enc W n 23 (fun l:List Int=>[sl (cI l)]) (fun l=>1+wtL (fun _=>1) l):=DU underlying23 cellsI (by omega) (fun _=>rfl) fun _ _=>Cr underlying3
theorem Lo{α:Type}: ∀l:List α,wtL (fun _=>1) l=l.length
 |[]=>rfl
 |x::l=>by rw[wtL,Lo l,List.length_cons];omega
theorem D5{m t off k:Nat}{cs cs':List Value}{o:Option (DataW H×List MemPlace)}(h:rd enc W m t ((cs.drop off).take (prog.cellsOf t))=o)(hk:prog.cellsOf t=k)(hc:(cs.drop off).take k=cs'):rd enc W m t cs'=o:=by rw[<-hc,<-hk];exact h
theorem US(n:Nat):Dec enc W n 63 CP (fun _=>1):=fun cs x h=>by
 obtain⟨xs,m,hm,hb,hl,hx,hf⟩:=DK underlying63 h;rw[show prog.cellsOf 63=2 by kernel_rfl]at hl
 match cs,hl with
 | [v0,v1],_ =>
  match xs,hx with
  |[x0,x1],_=>
   obtain⟨a0,r0,w0⟩:=Cr underlying3 [v0] x0 (D5 (hf 0 _ rfl) cellsI rfl);obtain⟨a1,r1,w1⟩:=Cr underlying3 [v1] x1 (D5 (hf 1 _ rfl) cellsI rfl);refine⟨⟨a0,a1⟩,r0.append r1,?_⟩;rw[hb];simp only[uptoBulkAll,List.map_cons,List.map_nil];omega
theorem Tu(n:Nat):Dec enc W n 51 (fun l:List Init=>[sl (l.map CP)]) (fun l=>1+wtL (fun _=>1) l):=DU underlying51 (by kernel_rfl:prog.cellsOf 63=2) (by omega) (fun _=>rfl) fun _ _=>US _
theorem QC(n:Nat):Dec enc W n 101 cBClass BClass.wt:=fun cs x h=>by
 obtain⟨xs,m,hm,hb,hl,hx,hf⟩:=DK underlying101 h;rw[show prog.cellsOf 101=3 by kernel_rfl]at hl
 match cs,hl with
 | [v0,v1,v2],_ =>
  match xs,hx with
  |[x0,x1,x2],_=>
   obtain⟨a0,r0,w0⟩:=Gv _ [v0] x0 (D5 (hf 0 _ rfl) (show prog.cellsOf 23=1 by kernel_rfl) rfl);obtain⟨a1,r1,w1⟩:=Gv _ [v1] x1 (D5 (hf 1 _ rfl) (show prog.cellsOf 23=1 by kernel_rfl) rfl);obtain⟨a2,r2,w2⟩:=Tu _ [v2] x2 (D5 (hf 2 _ rfl) (show prog.cellsOf 51=1 by kernel_rfl) rfl);refine⟨⟨a0,a1,a2⟩,r0.append (r1.append r2),?_⟩;rw[hb];clear hf hx hl;simp only[Lo]at*; simp only[BClass.wt,uptoBulkAll,List.map_cons,List.map_nil];omega
theorem Tw(n:Nat):Dec enc W n 104 Af BNode.wt:=fun cs x h=>by
 obtain⟨xs,m,hm,hb,hl,hx,hf⟩:=DK underlying104 h;rw[show prog.cellsOf 104=3 by kernel_rfl]at hl
 match cs,hl with
 | [v0,v1,v2],_ =>
  match xs,hx with
  |[x0,x1,x2],_=>
   obtain⟨a0,r0,w0⟩:=Cr underlying37 [v0] x0 (D5 (hf 0 _ rfl) (show prog.cellsOf 37=1 by kernel_rfl) rfl);obtain⟨a1,r1,w1⟩:=Cr underlying3 [v1] x1 (D5 (hf 1 _ rfl) cellsI rfl);obtain⟨a2,r2,w2⟩:=Gv _ [v2] x2 (D5 (hf 2 _ rfl) (show prog.cellsOf 23=1 by kernel_rfl) rfl);refine⟨⟨a0,a1,a2⟩,r0.append (r1.append r2),?_⟩;rw[hb];clear hf hx hl;simp only[Lo]at*; simp only[BNode.wt,uptoBulkAll,List.map_cons,List.map_nil];omega
theorem UT: ∀n:Nat,Dec enc W n 96 Ba Fact.wt:=fun n=>by
 induction n using Nat.strongRecOn with
 |ind n ih=>
 intro cs x h;obtain⟨xs,m,hm,hb,hl,hx,hf⟩:=DK underlying96 h;rw[show prog.cellsOf 96=6 by kernel_rfl]at hl
 match cs,hl with
 | [v0,v1,v2,v3,v4,v5],_ =>
  match xs,hx with
  |[x0,x1,x2,x3,x4,x5],_=>
   obtain⟨a0,r0,w0⟩:=Cr underlying85 [v0] x0 (D5 (hf 0 _ rfl) (show prog.cellsOf 85=1 by kernel_rfl) rfl);obtain⟨a1,r1,w1⟩:=Cr underlying3 [v1] x1 (D5 (hf 1 _ rfl) cellsI rfl);obtain⟨a2,r2,w2⟩:=Gv _ [v2] x2 (D5 (hf 2 _ rfl) (show prog.cellsOf 23=1 by kernel_rfl) rfl);obtain⟨a3,r3,w3⟩:=Cr underlying3 [v3] x3 (D5 (hf 3 _ rfl) cellsI rfl);obtain⟨a4,r4,w4⟩:=Cr underlying3 [v4] x4 (D5 (hf 4 _ rfl) cellsI rfl);obtain⟨a5,r5,w5⟩:=(DU (c:=Ba) (wt:=Fact.wt) (t:=94) (e:=96) (n:=m) underlying94 (by kernel_rfl:prog.cellsOf 96=6) (by omega) (fun f=>by cases f;rfl) fun k hk=>ih k (by omega)) [v5] x5 (D5 (hf 5 _ rfl) (show prog.cellsOf 94=1 by kernel_rfl) rfl);refine⟨.mk a0 a1 a2 a3 a4 a5,by rw[D8];exact r0.append (r1.append (r2.append (r3.append (r4.append r5)))),?_⟩;rw[hb];clear hf hx hl;simp only[Lo]at*; rw[Fact.wt_eq];simp only[Fact.path,Fact.kids,uptoBulkAll,List.map_cons,List.map_nil];omega
theorem Tx(n:Nat):Dec enc W n 98 Ak BMeth.wt:=fun cs x h=>by
 obtain⟨xs,m,hm,hb,hl,hx,hf⟩:=DK underlying98 h;rw[show prog.cellsOf 98=9 by kernel_rfl]at hl
 match cs,hl with
 | [v0,v1,v2,v3,v4,v5,v6,v7,v8],_ =>
  match xs,hx with
  |[x0,x1,x2,x3],_=>
   obtain⟨a0,r0,w0⟩:=Cr underlying84 [v0] x0 (D5 (hf 0 _ rfl) (show prog.cellsOf 84=1 by kernel_rfl) rfl);obtain⟨a1,r1,w1⟩:=Cr underlying3 [v1] x1 (D5 (hf 1 _ rfl) cellsI rfl);obtain⟨a2,r2,w2⟩:=UT _ [v2,v3,v4,v5,v6,v7] x2 (D5 (hf 2 _ rfl) (show prog.cellsOf 96=6 by kernel_rfl) rfl);obtain⟨a3,r3,w3⟩:=Cr underlying3 [v8] x3 (D5 (hf 3 _ rfl) cellsI rfl);refine⟨⟨a0,a1,a2,a3⟩,(r0.append r1).append r2 |>.append r3,?_⟩;rw[hb];simp only[BMeth.wt,uptoBulkAll,List.map_cons,List.map_nil];omega
theorem Rs(m:BMeth):(Ak m).length=9:=by simp[Ak]
theorem Tv(n:Nat):Dec enc W n 27 Am BProg.wt:=fun cs x h=>by
 obtain⟨xs,m,hm,hb,hl,hx,hf⟩:=DK underlying27 h;rw[show prog.cellsOf 27=6 by kernel_rfl]at hl
 match cs,hl with
 | [v0,v1,v2,v3,v4,v5],_ =>
  match xs,hx with
  |[x0,x1,x2,x3,x4,x5],_=>
   obtain⟨a0,r0,w0⟩:=DU underlying22 (by kernel_rfl:prog.cellsOf 101=3) (by omega) (fun _=>rfl) (fun _ _=>QC _) [v0] x0 (D5 (hf 0 _ rfl) (show prog.cellsOf 22=1 by kernel_rfl) rfl);obtain⟨a1,r1,w1⟩:=Cr underlying3 [v1] x1 (D5 (hf 1 _ rfl) cellsI rfl);obtain⟨a2,r2,w2⟩:=Gv _ [v2] x2 (D5 (hf 2 _ rfl) (show prog.cellsOf 23=1 by kernel_rfl) rfl);obtain⟨a3,r3,w3⟩:=DU underlying24 (by kernel_rfl:prog.cellsOf 98=9) (by omega) Rs (fun _ _=>Tx _) [v3] x3 (D5 (hf 3 _ rfl) (show prog.cellsOf 24=1 by kernel_rfl) rfl);obtain⟨a4,r4,w4⟩:=DU underlying25 (by kernel_rfl:prog.cellsOf 104=3) (by omega) (fun _=>rfl) (fun _ _=>Tw _) [v4] x4 (D5 (hf 4 _ rfl) (show prog.cellsOf 25=1 by kernel_rfl) rfl);obtain⟨a5,r5,w5⟩:=Cr underlying3 [v5] x5 (D5 (hf 5 _ rfl) cellsI rfl);refine⟨⟨a0,a1,a2,a3,a4,a5⟩,r0.append (r1.append (r2.append (r3.append (r4.append r5)))),?_⟩;rw[hb];clear hf hx hl;simp only[Lo]at*; simp only[BProg.wt,uptoBulkAll,List.map_cons,List.map_nil];omega
end
end Go.DL
namespace Go.DL
open Go.Proofs.Tryz
open Go Go.Proofs Go.ChangeShapes Go.WideShapes Go.ChangeAt Go.RowKit
open Go.Proofs.YtlfimpogphmbdaaGreat.Rows (uptoBulk uptoBulkAll)
set_option maxRecDepth 100000
theorem Rt{N:Nat}{us:List D}(h:DCall prog N us (fun _=>none) fun x _=>x=.ret (.bool true))(W:Go.World){vs:List Value}(hr:RepL (g0 W) us vs):
  Calls prog N vs.toArray W fun e W'=>e=.returned (.bool true)/\(∀(k:Nat) (o:Obj),W.heap[k]? = some o->W'.heap[k]? = some o)/\W'.os=W.os/\W'.output=W.output:=by
 refine CallsIn.calls (F:=FX prog none) (n:=0) ((h.run (g0 W) W vs (sim0 _ W) hr).mono ?_) fun k d hd=>by cases hd
 rintro e W' ⟨g',x,S',hle,hs,hE,rfl⟩
 obtain⟨v,rfl,rfl⟩:=hE;have hio:=hs.io.trans hle.io;simp only[g0,Prod.mk.injEq]at hio;exact⟨rfl,fun k o hk=>hs.keep k o (hle.keep k o hk),hio.1,hio.2⟩
theorem laidOut:laidOutB prog=true:=by kernel_rfl
section
variable {H:Type}{enc:TypeId×Value->H}{W W':Go.World}
theorem FU{sp:Nat->Bool}: ∀{ts:List TypeId}{vs:List Value}{ds:List (DataW H)}{ps:List MemPlace},(∀t∈ts,prog.readableRec t=true/\t<prog.types.size)->DataW.TrodAll enc prog W 0 (fun _=>true) true ts vs ds ps->(∀p∈ps,W.sameAt W' p)->(∀p∈ps,sp p.block=true)->DataW.TrodAll enc prog W' 0 sp true ts vs ds ps
 |[],vs,ds,ps,_,h,_,_=>by
  obtain⟨rfl,rfl,rfl⟩:=trodAll_nil h;exact h
 | t::ts,vs,ds,ps,ht,h,h1,h2=>by
  obtain⟨v,vs1,d,ds1,a,b,rfl,rfl,rfl,k1,k2⟩:=trodAll_cons h
  exact⟨a,b,WideElems.Trod_stays laidOut (ht t (by simp)).1 (ht t (by simp)).2 k1 (fun p hp=>h1 p (by simp[hp])) (fun p hp=>h2 p (by simp[hp])),
   FU (fun t hx=>ht t (by simp[hx])) k2 (fun p hp=>h1 p (by simp[hp])) (fun p hp=>h2 p (by simp[hp])),rfl⟩
theorem same_of{p:MemPlace}(hold:∀(k:Nat) (o:Obj),W.heap[k]? = some o->W'.heap[k]? = some o)(hp:p.block<W.heap.size):W.sameAt W' p:=by
 have hk:∀b,b<W.heap.size->W'.heap[b]? = W.heap[b]? :=fun b hb=>by
  rw[Array.getElem?_eq_getElem hb];exact hold b _ (Array.getElem?_eq_getElem hb)
 cases p with
 |cell b off=>
  show W'.cell? ⟨b,off,none⟩=W.cell? ⟨b,off,none⟩;unfold World.cell?;rw[hk b hp]
 |map b=>exact hk b hp
theorem kept_of{may:MemPlace->Prop}(hold:∀(k:Nat) (o:Obj),W.heap[k]? = some o->W'.heap[k]? = some o)(hos:W'.os=W.os)(hout:W'.output=W.output):W.keptBut W' may:=by
 refine⟨hos,hout,fun i hi=>?_⟩;have h:=Array.getElem?_eq_getElem hi;rw[h,hold i _ h];cases W.heap[i]<;>simp
theorem Uc{f:Func}{s:ChangeSpec}{args:Array Value}{ds gs:List (DataW H)}{before:List MemPlace}(hv:s.vars=[])(hrt:f.resultTypes=#[4])(hts:∀t∈f.params.toList,prog.readableRec t=true/\t<prog.types.size)
  (hW:DataW.Whole enc prog f.params.toList s.vars false W args.toList ds gs before) (hfn:s.fn H (ds++gs)={ results:=[.lit (.bool true)],args:=ds })
  (hold:∀(k:Nat) (o:Obj),W.heap[k]? = some o->W'.heap[k]? = some o) (hos:W'.os=W.os) (hout:W'.output=W.output):s.post enc prog f false true false false W args (.bool true) W':=by
 have hlt:=hW.lt;have hW':=hW;obtain⟨p,q,hA,hV,rfl,hfz,hnd⟩:=hW;rw[hv]at hV;obtain⟨rfl,rfl⟩:=trodVars_none hV;have hsame:∀x∈p,W.sameAt W' x:=fun x hx=>same_of hold (by simpa using hlt x (by simp[hx]))
 refine⟨ds,[],p++[],[],p,[],hW',?_,?_,?_,kept_of hold hos hout,fun h=>by cases h⟩
 ·rw[hrt,hfn];exact trodAll_cons_mk (shut_bool underlying4 _) trodAll_mk0
 ·rw[hfn];exact FU hts hA hsame fun x hx=>by simpa using hlt x (by simp[hx])
 ·rw[hfn,hv];rfl
end
end Go.DL
namespace Go.DL
open Go.Proofs.Tryz
open Go Go.Proofs Go.ChangeShapes Go.WideShapes Go.ChangeAt Go.RowKit
open Go.Proofs.YtlfimpogphmbdaaGreat
set_option maxRecDepth 100000
theorem own:ownKnob prog.godebug=none:=by kernel_rfl
section
variable {H:Type}{enc:TypeId×Value->H}{W:Go.World}{base:Nat}
theorem R8{v:Value}{d:DataW H}{ps:List MemPlace}(hval:Value.okWide prog W .any base 27 v)(h:DataW.Trod enc prog W 0 (fun _=>true) true 27 v d ps): ∃p:BProg,Rep (g0 W) (.agg (Am p)) v/\p.wt<=Rows.uptoBulk d:=by
 obtain⟨cs,rfl,_⟩:=okWide_struct underlying27 hval;obtain⟨n,hn⟩:=h;obtain⟨p,h1,h2⟩:=Tv n _ _ hn;exact⟨p,⟨cs.toList,by simp,h1⟩,h2⟩
theorem PC:prog.readableRec 27=true:=by kernel_rfl
theorem Pv:27<prog.types.size:=of_decide_eq_true (by kernel_rfl)
theorem law1{N:Nat}{f:Func}(hf:f.params=#[27])(hrt:f.resultTypes=#[4])(hN:∀p:BProg,p.wt<=1048576->DCall prog N [.agg (Am p)] (fun _=>none) fun x _=>x=.ret (.bool true))
  {s:ChangeSpec} (hv:s.vars=[]) (hfn:∀d,s.fn H [d]={ results:=[.lit (.bool true)],args:=[d] }) {args:Array Value}{ds gs:List (DataW H)}{before:List MemPlace}
  (hval:∀(j:Nat) t v,f.params[j]? = some t->args[j]? = some v->Value.okWide prog W .any base t v)
  (hW:DataW.Whole enc prog f.params.toList s.vars false W args.toList ds gs before) (hk:Rows.uptoSmall H (ds++gs)=true) :
  Calls prog N args W fun e W'=> ∃v,e=.returned v/\s.post enc prog f false true false false W args v W':=by
 have hW':=hW;obtain⟨p,q,hA,hV,rfl,hfz,hnd⟩:=hW;rw[hv]at hV;obtain⟨rfl,rfl⟩:=trodVars_none hV;rw[hf]at hA hval;obtain⟨v0,vs0,d0,ds0,p0,q0,hargs,rfl,rfl,h0,r0⟩:=trodAll_cons hA;obtain⟨rfl,rfl,rfl⟩:=trodAll_nil r0;obtain rfl:args=#[v0]:=by cases args;simp_all
 have hb:Rows.uptoBulk d0+0<=1048576:=of_decide_eq_true hk;obtain⟨pr,hr,hw⟩:=R8 (hval 0 27 v0 rfl rfl) h0;refine(Rt (hN pr (by omega)) W (vs:=[v0]) ⟨v0,[],rfl,hr,rfl⟩).mono fun e W' ⟨he,hold,hos,hout⟩=>?_
 refine⟨_,he,Uc hv hrt (fun t ht=>?_) hW' (hfn d0) hold hos hout⟩;rw[hf]at ht;obtain rfl:t=27:=by simpa using ht
 exact⟨PC,Pv⟩
end
end Go.DL
