/- Part of a proof in texts M01 on: a layer of pure values over the fenced walk, the walks of the functions, the plain laws. -/
import Derived.Test.YtlfimpogphmbdaaGreatM26
import Derived.Test.YtlfimpogphmbdaaGreatM15
import Derived.Test.YtlfimpogphmbdaaGreatM18
import Derived.Test.YtlfimpogphmbdaaGreatM19
import Derived.Test.YtlfimpogphmbdaaGreatM22
import Derived.Test.YtlfimpogphmbdaaGreatM14
import Derived.Test.YtlfimpogphmbdaaGreatM21
import Derived.Test.YtlfimpogphmbdaaGreatM10
set_option linter.all false
namespace Go.DL
open Go.Proofs.Tryz
open Go Go.Proofs
set_option maxHeartbeats 8000000
theorem IZ (op n:Int) (l:List (List D)) (o:Own) (σ:Sig):DCall prog 97 [dI op,dI n, .slice l o] σ fun x σ'=>x = .ret (.agg [dI op,dI n, .slice l o])/\σ'=σ:=by
 refine en func97 ntmps97 ?_
 refine gz ?_ [] [6]
 refine newV (fun i hi => ?_)
 refine gz ?_ [] [6]
 exact finC (σ':=σ) ⟨rfl,rfl⟩
@[reducible,instance] def a97a:=fun op n l o σ=>ah0 (@IZ op n l o σ)
theorem IY (op n:Int) (σ:Sig):DCall prog 97 [dI op,dI n, .nils] σ fun x σ'=>x = .ret (.agg [dI op,dI n, .nils])/\σ'=σ:=by
 refine en func97 ntmps97 ?_
 refine gz ?_ [] [6]
 refine newV (fun i hi => ?_)
 refine gz ?_ [] [6]
 exact finC (σ':=σ) ⟨rfl,rfl⟩
@[reducible,instance] def a97n:=fun op n σ=>ah0 (@IY op n σ)
theorem J0 (op:Int) (s:Str) (σ:Sig):DCall prog 95 [dI op, .str s, .nils] σ fun x σ'=>x = .ret (.agg [dI op,dI 0, .str s, .nils])/\σ'=σ:=by
 refine en func95 ntmps95 ?_
 refine gz ?_ [] [6]
 refine newV (fun i hi => ?_)
 refine gz ?_ [] [6]
 exact finC (σ':=σ) ⟨rfl,rfl⟩
@[reducible,instance] def a95n:=fun op s σ=>ah0 (@J0 op s σ)
def exB:BProg:=⟨[⟨[],[0],[⟨0,7⟩]⟩,⟨[3],[1],[]⟩,⟨[4,3],[],[⟨0,1⟩]⟩],2,[1],[⟨1,0, .mk 2 0 [] 3 0 [],0⟩,⟨2,0, .mk 3 0 [0] 0 5 [],3⟩],
 [⟨17,0,[1]⟩,⟨4,0,[2]⟩,⟨3,0,[]⟩,⟨9,0,[4,5]⟩,⟨3,0,[]⟩,⟨3,1,[]⟩,⟨5,0,[7]⟩,⟨6,5,[]⟩],6⟩
def exA (l:List Str):FProg:=⟨[⟨[97],[],[[102]],[⟨[102],7⟩]⟩,⟨[98],[[97]],[[103]],[]⟩,⟨[99],l,[],[⟨[102],1⟩]⟩],
 [⟨1,[115,104,111,119],[[120]], .mk 2 [120] [] [97] 0 [], .mk 17 0 [] [.mk 4 0 [102] [.mk 3 0 [120] []]]⟩,⟨2,[115,104,111,119],[[121]], .mk 3 [121] [[102]] [] 5 [], .mk 9 0 [122] [.mk 3 0 [121] [], .mk 3 0 [122] []]⟩],
 .mk 5 0 [115,104,111,119] [.mk 6 0 [99] []]⟩
theorem U6 (σ:Sig):DCall prog 46 [] σ fun x σ'=>x = .ret (.agg (Af exB))/\σ'=σ:=by
 refine en func46 ntmps46 ?_
 refine gz ?_ [] [0]
 refine newV (fun i hi => ?_)
 repeat' first | refine gz ?_ [] [0] | refine An (IZ _ _ _ _ _) ?_ | refine callP (IZ _ _ _ _ _) ?_ | refine An (IY _ _ _) ?_ | refine callP (IY _ _ _) ?_ | refine gz ?_ [] [0] | apply gy<;>intro hh
 have e:Af exB=[sl [[sl [],sl [[dI 0]],sl [[dI 0,dI 7]]],[sl [[dI 3]],sl [[dI 1]],sl []],[sl [[dI 4],[dI 3]],sl [],sl [[dI 0,dI 1]]]],dI 2,sl [[dI 1]],sl [[dI 1,dI 0,dI 2,dI 0,sl [],dI 3,dI 0,sl [],dI 0],[dI 2,dI 0,dI 3,dI 0,sl [[dI 0]],dI 0,dI 5,sl [],dI 3]],sl [[dI 17,dI 0,sl [[dI 1]]],[dI 4,dI 0,sl [[dI 2]]],[dI 3,dI 0,sl []],[dI 9,dI 0,sl [[dI 4],[dI 5]]],[dI 3,dI 0,sl []],[dI 3,dI 1,sl []],[dI 5,dI 0,sl [[dI 7]]],[dI 6,dI 5,sl []]],dI 6]:=by
  simp [exB,cI,Dn,Fact.op,Fact.arg,Fact.path,Fact.cls,Fact.n,Fact.kids]
 refine finC (σ':=σ) ⟨rfl,rfl⟩ (hw := ?_)
 rw [e]
 refine F1 ?_
 repeat' (first | exact A9 _ | exact At _ (.inl rfl) | exact trivial | refine H5 _ ?_ | refine ⟨?_, ?_⟩)
@[reducible,instance] def a46:=fun σ=>ah0 (@U6 σ)
theorem OH (l:List Str) (o:Own) (σ:Sig):DCall prog 45 [.slice (cS l) o] σ fun x σ'=>x = .ret (.agg (Da (exA l)))/\σ'=σ:=by
 refine en func45 ntmps45 ?_
 refine gz ?_ [] [2]
 refine newV (fun i hi => ?_)
 repeat' first | refine gz ?_ [] [2] | refine An (La _ _ _ _ _) ?_ | refine callP (La _ _ _ _ _) ?_ | refine An (J0 _ _ _) ?_ | refine callP (J0 _ _ _) ?_ | refine gz ?_ [] [2] | apply gy<;>intro hh
 have e:Da (exA l)=[sl [[.str [97],sl [],sl [[.str [102]]],sl [[.str [102],dI 7]]],[.str [98],sl [[.str [97]]],sl [[.str [103]]],sl []],[.str [99],sl (cS l),sl [],sl [[.str [102],dI 1]]]],
   sl [[dI 1, .str [115,104,111,119],sl [[.str [120]]],dI 2, .str [120],sl [], .str [97],dI 0,sl [],dI 17,dI 0, .str [],sl [[dI 4,dI 0, .str [102],sl [Bc (.mk 3 0 [120] [])]]]],
    [dI 2, .str [115,104,111,119],sl [[.str [121]]],dI 3, .str [121],sl [[.str [102]]], .str [],dI 5,sl [],dI 9,dI 0, .str [122],sl [Bc (.mk 3 0 [121] []),Bc (.mk 3 0 [122] [])]]],
   dI 5,dI 0, .str [115,104,111,119],sl [[dI 6,dI 0, .str [99],sl []]]]:=by
  simp [exA,cS,Cn,EJ,FFact.op,FFact.name,FFact.path,FFact.cls,FFact.n,FFact.kids,FExp.op,FExp.n,FExp.text,FExp.kids]
 refine finC (σ':=σ) ⟨rfl,rfl⟩ (hw := ?_)
 rw [e]
 refine F1 ?_
 repeat' (first | exact A9 _ | exact At _ (.inl rfl) | exact B4 _ _ | exact DO _ | exact trivial | refine H5 _ ?_ | refine ⟨?_, ?_⟩)
def all2 {α:Type} (f:α->α->Bool):List α->List α->Bool
 | x::l,y::m=>f x y && all2 f l m
 | _,_=>true
theorem Lx {α:Type} (f:α->α->Bool) (m:List α):all2 f [] m=true:=by rw [all2];intros;contradiction
def eqC (x y:BClass):Bool:=x.parents==y.parents && x.slots==y.slots && decide (x.inits=y.inits)
def eqM (x y:BMeth):Bool:=decide (x.kind=y.kind) && decide (x.gen=y.gen) && decide (x.node=y.node) && x.fact.beq y.fact
def eqN (x y:BNode):Bool:=decide (x.op=y.op) && decide (x.n=y.n) && x.kids==y.kids
def TE (p q:BProg):Bool:=decide (p.slots=q.slots) && decide (p.main=q.main) && p.gens==q.gens && decide (p.classes.length=q.classes.length) && decide (p.methods.length=q.methods.length) && decide (p.nodes.length=q.nodes.length)
def Pj (p q:BProg):Bool:=TE p q && all2 eqC p.classes q.classes && all2 eqM p.methods q.methods && all2 eqN p.nodes q.nodes
theorem OO (p q:BProg) (σ:Sig) (hp:p.wt<=1073741824) (hq:q.wt<=1073741824):DCall prog 19 [.agg (Af p), .agg (Af q)] σ fun x σ'=>x = .ret (.bool (Pj p q))/\σ'=σ:=by
 obtain ⟨p1,p2,p3,p4,p5,p6,p7⟩:=p.wt_le
 obtain ⟨q1,q2,q3,q4,q5,q6,q7⟩:=q.wt_le
 cases hd:TE p q with
 | false =>
  have hS:Pj p q=false:=by unfold Pj;rw [hd];rfl
  rw [hS]
  refine en func19 ntmps19 ?_
  repeat' first | refine gz ?_ o19 | apply gy<;>intro hh
  all_goals first | exact fin1 (σ':=σ) ⟨rfl,rfl⟩ | (exfalso;unfold TE at hd;simp_all;done)
 | true =>
  have hS:Pj p q=(all2 eqC p.classes q.classes && all2 eqM p.methods q.methods && all2 eqN p.nodes q.nodes):=by unfold Pj;rw [hd,Bool.true_and]
  unfold TE at hd
  simp only [Bool.and_eq_true,decide_eq_true_eq,beq_iff_eq] at hd
  obtain ⟨⟨⟨⟨⟨e1,e2⟩,e3⟩,e4⟩,e5⟩,e6⟩:=hd
  rw [hS]
  refine en func19 ntmps19 ?_
  repeat' first | refine gz ?_ o19 [6,7,9,10,12,13] | apply gy<;>intro hh
  ·rw [e3] at hh;simp at hh
  generalize hsr:(all2 eqC p.classes q.classes && all2 eqM p.methods q.methods && all2 eqN p.nodes q.nodes)=sameR
  have hsr:=hsr.symm
  refine Bh [2,3,8,9,10,11,12,13,100,101,102,103,104,105,106,107,108,109,110,111,112,113,114,115,116,117,118,119,120,121,122,123,124,125,126,127,128,129,130,131,132,133,134,135,136,137,138,139,140,141,142,143,144,145,146,147,148,149,150,151,152,153,154,155,156,157,158,159,160,161,162,163,164,165,166,167,168,169,170,171,172,173,174,175,176,177,178,179,180] (fun (k:Nat)=>k<=p.classes.length/\sameR=(all2 eqC (p.classes.drop k) (q.classes.drop k) && all2 eqM p.methods q.methods && all2 eqN p.nodes q.nodes)) (fun k=>[(5,dI k)]) (fun _=>σ) (fun k=>p.classes.length-k) (0) (by simp [hsr]) (fun k hI => ?_)
  obtain ⟨hk,hR⟩:=hI
  by_cases hkl:k < p.classes.length
  ·have hkq:k < q.classes.length:=by omega
   have w1:=p5 k hkl
   have w2:=q5 k hkq
   rw [A2 hkl,A2 hkq,all2] at hR
   refine gz ?_ (delO 6 o19) [6,7,9,10,12,13]
   refine mixA (id:=6) [0,1,2,3,4,5,6,7,8,9,10,11,12,13] [12,13] ?_
   refine Au (d := .cptr (Af p) 0) Ad rfl (by with_unfolding_all rfl) (by with_unfolding_all rfl) (by first | with_unfolding_all rfl | (simp;done) | (simp;rfl)) ?_
   refine Au (d:=sl (p.classes.map Ae)) Ad rfl (by with_unfolding_all rfl) (by with_unfolding_all rfl) (by first | with_unfolding_all rfl | (simp;done) | (simp;rfl)) ?_
   refine Au (d:=dI k) Ad rfl (by with_unfolding_all rfl) (by with_unfolding_all rfl) (by first | with_unfolding_all rfl | (simp;done) | (simp;rfl)) ?_
   refine Au (d := .cptr (Ae p.classes[k]) 0) Ad rfl (by with_unfolding_all rfl) (by with_unfolding_all rfl) (by first | with_unfolding_all rfl | (simp [hkl];done) | (simp [hkl];rfl)) ?_
   refine Au (d := .agg (Ae p.classes[k])) Ad rfl (by with_unfolding_all rfl) (by with_unfolding_all rfl) (by first | with_unfolding_all rfl | (simp;done) | (simp;rfl)) ?_
   refine Au (d := .cptr (Af q) 0) Ad rfl (by with_unfolding_all rfl) (by with_unfolding_all rfl) (by first | with_unfolding_all rfl | (simp;done) | (simp;rfl)) ?_
   refine Au (d:=sl (q.classes.map Ae)) Ad rfl (by with_unfolding_all rfl) (by with_unfolding_all rfl) (by first | with_unfolding_all rfl | (simp;done) | (simp;rfl)) ?_
   refine Au (d:=dI k) Ad rfl (by with_unfolding_all rfl) (by with_unfolding_all rfl) (by first | with_unfolding_all rfl | (simp;done) | (simp;rfl)) ?_
   refine Au (d := .cptr (Ae q.classes[k]) 0) Ad rfl (by with_unfolding_all rfl) (by with_unfolding_all rfl) (by first | with_unfolding_all rfl | (simp [hkq];done) | (simp [hkq];rfl)) ?_
   refine Au (d := .agg (Ae q.classes[k])) Ad rfl (by with_unfolding_all rfl) (by with_unfolding_all rfl) (by first | with_unfolding_all rfl | (simp;done) | (simp;rfl)) ?_
   refine Ee (fun i6 hi6 => ?_)
   refine Ee (fun i7 hi7 => ?_)
   refine Ff (by rfl) ?_
   have hz:(tab 101).zero=[.nils, .nils, .nils]:=by (simp<;>rfl)
   rw [hz] at hi7 ⊢
   have n67:i6 ≠ i7:=fun e=>by rw [<- e,w7] at hi7;cases hi7
   have i70:=(A8 hi7).2
   have hs1:Sub σ (((σ.set i6 (.cells [.nils, .nils, .nils])).set i7 (.cells [.nils, .nils, .nils])).set i6 (.cells (Ae p.classes[k]))):=(((Sub.refl _).set hi6).set i70).set hi6
   have hs2:Sub σ ((((σ.set i6 (.cells [.nils, .nils, .nils])).set i7 (.cells [.nils, .nils, .nils])).set i6 (.cells (Ae p.classes[k]))).set i7 (.cells (Ae q.classes[k]))):=hs1.set i70
   simp only [Ae] at hs1 hs2
   unfold BClass.wt at w1 w2
   repeat' first | refine gz ?_ o19 [6,7,9,10,12,13] | apply gy<;>intro hh
   ·have hE:eqC p.classes[k] q.classes[k]=false:=by unfold eqC;clear hs1 hs2 hR hi6 hi7 hz i70 w1 w2 p5 p6 p7 q5 q6 q7 hsr hS e1 e2 e3 e4 e5 e6;simp_all
    rw [hE] at hR
    simp only [Bool.false_and] at hR
    rw [hR]
    exact fin1 (σ':=σ) ⟨rfl,rfl⟩ (hσ:=hs2)
   ·have hE:eqC p.classes[k] q.classes[k]=false:=by unfold eqC;clear hs1 hs2 hR hi6 hi7 hz i70 w1 w2 p5 p6 p7 q5 q6 q7 hsr hS e1 e2 e3 e4 e5 e6;simp_all
    rw [hE] at hR
    simp only [Bool.false_and] at hR
    rw [hR]
    exact fin1 (σ':=σ) ⟨rfl,rfl⟩ (hσ:=hs2)
   ·have hE:eqC p.classes[k] q.classes[k]=false:=by unfold eqC;clear hs1 hs2 hR hi6 hi7 hz i70 w1 w2 p5 p6 p7 q5 q6 q7 hsr hS e1 e2 e3 e4 e5 e6;simp_all
    rw [hE] at hR
    simp only [Bool.false_and] at hR
    rw [hR]
    exact fin1 (σ':=σ) ⟨rfl,rfl⟩ (hσ:=hs2)
   ·have hE:eqC p.classes[k] q.classes[k]=true:=by unfold eqC;clear hs1 hs2 hR hi6 hi7 hz i70 w1 w2 p5 p6 p7 q5 q6 q7 hsr hS e1 e2 e3 e4 e5 e6;simp_all
    rw [hE,Bool.true_and] at hR
    have hsub:=hs2
    exact ⟨k+1,⟨by omega,hR⟩,td1,wkR⟩
  ·rw [A1 hkl,Lx] at hR
   try simp only [Bool.true_and] at hR
   have hsr:=hR
   clear hR
   refine gz ?_ o19 [6,7,9,10,12,13]
   refine Bh [2,3,11,12,13,144,145,146,147,148,149,150,151,152,153,154,155,156,157,158,159,160,161,162,163,164,165,166,167,168,169,170,171,172,173,174,175,176,177,178,179,180] (fun (k:Nat)=>k<=p.methods.length/\sameR=(all2 eqM (p.methods.drop k) (q.methods.drop k) && all2 eqN p.nodes q.nodes)) (fun k=>[(8,dI k)]) (fun _=>σ) (fun k=>p.methods.length-k) (0) (by simp [hsr]) (fun k hI => ?_)
   obtain ⟨hk,hR⟩:=hI
   by_cases hkl:k < p.methods.length
   ·have hkq:k < q.methods.length:=by omega
    have w1:=p6 k hkl
    have w2:=q6 k hkq
    rw [A2 hkl,A2 hkq,all2] at hR
    refine gz ?_ (delO 12 o19) [6,7,9,10,12,13]
    refine mixA (id:=12) [0,1,2,3,4,5,6,7,8,9,10,11,12,13] [12,13] ?_
    refine Au (d := .cptr (Af p) 3) Ad rfl (by with_unfolding_all rfl) (by with_unfolding_all rfl) (by first | with_unfolding_all rfl | (simp;done) | (simp;rfl)) ?_
    refine Au (d:=sl (p.methods.map As)) Ad rfl (by with_unfolding_all rfl) (by with_unfolding_all rfl) (by first | with_unfolding_all rfl | (simp;done) | (simp;rfl)) ?_
    refine Au (d:=dI k) Ad rfl (by with_unfolding_all rfl) (by with_unfolding_all rfl) (by first | with_unfolding_all rfl | (simp;done) | (simp;rfl)) ?_
    refine Au (d := .cptr (As p.methods[k]) 0) Ad rfl (by with_unfolding_all rfl) (by with_unfolding_all rfl) (by first | with_unfolding_all rfl | (simp [hkl];done) | (simp [hkl];rfl)) ?_
    refine Au (d := .agg (As p.methods[k])) Ad rfl (by with_unfolding_all rfl) (by with_unfolding_all rfl) (by first | with_unfolding_all rfl | (simp;done) | (simp;rfl)) ?_
    refine Au (d := .cptr (Af q) 3) Ad rfl (by with_unfolding_all rfl) (by with_unfolding_all rfl) (by first | with_unfolding_all rfl | (simp;done) | (simp;rfl)) ?_
    refine Au (d:=sl (q.methods.map As)) Ad rfl (by with_unfolding_all rfl) (by with_unfolding_all rfl) (by first | with_unfolding_all rfl | (simp;done) | (simp;rfl)) ?_
    refine Au (d:=dI k) Ad rfl (by with_unfolding_all rfl) (by with_unfolding_all rfl) (by first | with_unfolding_all rfl | (simp;done) | (simp;rfl)) ?_
    refine Au (d := .cptr (As q.methods[k]) 0) Ad rfl (by with_unfolding_all rfl) (by with_unfolding_all rfl) (by first | with_unfolding_all rfl | (simp [hkq];done) | (simp [hkq];rfl)) ?_
    refine Au (d := .agg (As q.methods[k])) Ad rfl (by with_unfolding_all rfl) (by with_unfolding_all rfl) (by first | with_unfolding_all rfl | (simp;done) | (simp;rfl)) ?_
    refine Ee (fun i6 hi6 => ?_)
    refine Ee (fun i7 hi7 => ?_)
    refine Ff (by rfl) ?_
    have hz:(tab 98).zero=[dI 0,dI 0,dI 0,dI 0, .nils,dI 0,dI 0, .nils,dI 0]:=by (simp<;>rfl)
    rw [hz] at hi7 ⊢
    have n67:i6 ≠ i7:=fun e=>by rw [<- e,w7] at hi7;cases hi7
    have i70:=(A8 hi7).2
    have hs1:Sub σ (((σ.set i6 (.cells [dI 0,dI 0,dI 0,dI 0, .nils,dI 0,dI 0, .nils,dI 0])).set i7 (.cells [dI 0,dI 0,dI 0,dI 0, .nils,dI 0,dI 0, .nils,dI 0])).set i6 (.cells (As p.methods[k]))):=(((Sub.refl _).set hi6).set i70).set hi6
    have hs2:Sub σ ((((σ.set i6 (.cells [dI 0,dI 0,dI 0,dI 0, .nils,dI 0,dI 0, .nils,dI 0])).set i7 (.cells [dI 0,dI 0,dI 0,dI 0, .nils,dI 0,dI 0, .nils,dI 0])).set i6 (.cells (As p.methods[k]))).set i7 (.cells (As q.methods[k]))):=hs1.set i70
    simp only [As,Dn,List.cons_append,List.nil_append] at hs1 hs2
    unfold BMeth.wt at w1 w2
    repeat' first | refine gz ?_ o19 [6,7,9,10,12,13] | apply gy<;>intro hh
    ·have hE:eqM p.methods[k] q.methods[k]=false:=by unfold eqM;clear hs1 hs2 hR hi6 hi7 hz i70 w1 w2 p5 p6 p7 q5 q6 q7 hsr hS e1 e2 e3 e4 e5 e6;simp_all
     rw [hE] at hR
     simp only [Bool.false_and] at hR
     rw [hR]
     exact fin1 (σ':=σ) ⟨rfl,rfl⟩ (hσ:=hs2)
    ·have hE:eqM p.methods[k] q.methods[k]=false:=by unfold eqM;clear hs1 hs2 hR hi6 hi7 hz i70 w1 w2 p5 p6 p7 q5 q6 q7 hsr hS e1 e2 e3 e4 e5 e6;simp_all
     rw [hE] at hR
     simp only [Bool.false_and] at hR
     rw [hR]
     exact fin1 (σ':=σ) ⟨rfl,rfl⟩ (hσ:=hs2)
    ·have hE:eqM p.methods[k] q.methods[k]=false:=by unfold eqM;clear hs1 hs2 hR hi6 hi7 hz i70 w1 w2 p5 p6 p7 q5 q6 q7 hsr hS e1 e2 e3 e4 e5 e6;simp_all
     rw [hE] at hR
     simp only [Bool.false_and] at hR
     rw [hR]
     exact fin1 (σ':=σ) ⟨rfl,rfl⟩ (hσ:=hs2)
    ·have hE:eqM p.methods[k] q.methods[k]=false:=by unfold eqM;clear hs1 hs2 hR hi6 hi7 hz i70 w1 w2 p5 p6 p7 q5 q6 q7 hsr hS e1 e2 e3 e4 e5 e6;simp_all
     rw [hE] at hR
     simp only [Bool.false_and] at hR
     rw [hR]
     exact fin1 (σ':=σ) ⟨rfl,rfl⟩ (hσ:=hs2)
    ·have hE:eqM p.methods[k] q.methods[k]=true:=by unfold eqM;clear hs1 hs2 hR hi6 hi7 hz i70 w1 w2 p5 p6 p7 q5 q6 q7 hsr hS e1 e2 e3 e4 e5 e6;simp_all
     rw [hE,Bool.true_and] at hR
     have hsub:=hs2
     exact ⟨k+1,⟨by omega,hR⟩,td1,wkR⟩
   ·rw [A1 hkl,Lx] at hR
    try simp only [Bool.true_and] at hR
    have hsr:=hR
    clear hR
    refine gz ?_ o19 [6,7,9,10,12,13]
    refine Bh [2,3] (fun (k:Nat)=>k<=p.nodes.length/\sameR=(all2 eqN (p.nodes.drop k) (q.nodes.drop k))) (fun k=>[(11,dI k)]) (fun _=>σ) (fun k=>p.nodes.length-k) (0) (by simp [hsr]) (fun k hI => ?_)
    obtain ⟨hk,hR⟩:=hI
    by_cases hkl:k < p.nodes.length
    ·have hkq:k < q.nodes.length:=by omega
     have w1:=p7 k hkl
     have w2:=q7 k hkq
     rw [A2 hkl,A2 hkq,all2] at hR
     refine gz ?_ (delO 18 o19) [6,7,9,10,12,13]
     refine mixA (id:=18) [0,1,2,3,4,5,6,7,8,9,10,11,12,13] [12,13] ?_
     refine Au (d := .cptr (Af p) 4) Ad rfl (by with_unfolding_all rfl) (by with_unfolding_all rfl) (by first | with_unfolding_all rfl | (simp;done) | (simp;rfl)) ?_
     refine Au (d:=sl (p.nodes.map Ai)) Ad rfl (by with_unfolding_all rfl) (by with_unfolding_all rfl) (by first | with_unfolding_all rfl | (simp;done) | (simp;rfl)) ?_
     refine Au (d:=dI k) Ad rfl (by with_unfolding_all rfl) (by with_unfolding_all rfl) (by first | with_unfolding_all rfl | (simp;done) | (simp;rfl)) ?_
     refine Au (d := .cptr (Ai p.nodes[k]) 0) Ad rfl (by with_unfolding_all rfl) (by with_unfolding_all rfl) (by first | with_unfolding_all rfl | (simp [hkl];done) | (simp [hkl];rfl)) ?_
     refine Au (d := .agg (Ai p.nodes[k])) Ad rfl (by with_unfolding_all rfl) (by with_unfolding_all rfl) (by first | with_unfolding_all rfl | (simp;done) | (simp;rfl)) ?_
     refine Au (d := .cptr (Af q) 4) Ad rfl (by with_unfolding_all rfl) (by with_unfolding_all rfl) (by first | with_unfolding_all rfl | (simp;done) | (simp;rfl)) ?_
     refine Au (d:=sl (q.nodes.map Ai)) Ad rfl (by with_unfolding_all rfl) (by with_unfolding_all rfl) (by first | with_unfolding_all rfl | (simp;done) | (simp;rfl)) ?_
     refine Au (d:=dI k) Ad rfl (by with_unfolding_all rfl) (by with_unfolding_all rfl) (by first | with_unfolding_all rfl | (simp;done) | (simp;rfl)) ?_
     refine Au (d := .cptr (Ai q.nodes[k]) 0) Ad rfl (by with_unfolding_all rfl) (by with_unfolding_all rfl) (by first | with_unfolding_all rfl | (simp [hkq];done) | (simp [hkq];rfl)) ?_
     refine Au (d := .agg (Ai q.nodes[k])) Ad rfl (by with_unfolding_all rfl) (by with_unfolding_all rfl) (by first | with_unfolding_all rfl | (simp;done) | (simp;rfl)) ?_
     refine Ee (fun i6 hi6 => ?_)
     refine Ee (fun i7 hi7 => ?_)
     refine Ff (by rfl) ?_
     have hz:(tab 104).zero=[dI 0,dI 0, .nils]:=by (simp<;>rfl)
     rw [hz] at hi7 ⊢
     have n67:i6 ≠ i7:=fun e=>by rw [<- e,w7] at hi7;cases hi7
     have i70:=(A8 hi7).2
     have hs1:Sub σ (((σ.set i6 (.cells [dI 0,dI 0, .nils])).set i7 (.cells [dI 0,dI 0, .nils])).set i6 (.cells (Ai p.nodes[k]))):=(((Sub.refl _).set hi6).set i70).set hi6
     have hs2:Sub σ ((((σ.set i6 (.cells [dI 0,dI 0, .nils])).set i7 (.cells [dI 0,dI 0, .nils])).set i6 (.cells (Ai p.nodes[k]))).set i7 (.cells (Ai q.nodes[k]))):=hs1.set i70
     simp only [Ai] at hs1 hs2
     unfold BNode.wt at w1 w2
     repeat' first | refine gz ?_ o19 [6,7,9,10,12,13] | apply gy<;>intro hh
     ·have hE:eqN p.nodes[k] q.nodes[k]=false:=by unfold eqN;clear hs1 hs2 hR hi6 hi7 hz i70 w1 w2 p5 p6 p7 q5 q6 q7 hsr hS e1 e2 e3 e4 e5 e6;simp_all
      rw [hE] at hR
      simp only [Bool.false_and] at hR
      rw [hR]
      exact fin1 (σ':=σ) ⟨rfl,rfl⟩ (hσ:=hs2)
     ·have hE:eqN p.nodes[k] q.nodes[k]=false:=by unfold eqN;clear hs1 hs2 hR hi6 hi7 hz i70 w1 w2 p5 p6 p7 q5 q6 q7 hsr hS e1 e2 e3 e4 e5 e6;simp_all
      rw [hE] at hR
      simp only [Bool.false_and] at hR
      rw [hR]
      exact fin1 (σ':=σ) ⟨rfl,rfl⟩ (hσ:=hs2)
     ·have hE:eqN p.nodes[k] q.nodes[k]=false:=by unfold eqN;clear hs1 hs2 hR hi6 hi7 hz i70 w1 w2 p5 p6 p7 q5 q6 q7 hsr hS e1 e2 e3 e4 e5 e6;simp_all
      rw [hE] at hR
      simp only [Bool.false_and] at hR
      rw [hR]
      exact fin1 (σ':=σ) ⟨rfl,rfl⟩ (hσ:=hs2)
     ·have hE:eqN p.nodes[k] q.nodes[k]=true:=by unfold eqN;clear hs1 hs2 hR hi6 hi7 hz i70 w1 w2 p5 p6 p7 q5 q6 q7 hsr hS e1 e2 e3 e4 e5 e6;simp_all
      rw [hE,Bool.true_and] at hR
      have hsub:=hs2
      exact ⟨k+1,⟨by omega,hR⟩,td1,wkR⟩
    ·rw [A1 hkl,Lx] at hR
     try simp only [Bool.true_and] at hR
     have hsr:=hR
     clear hR
     refine gz ?_ o19 [6,7,9,10,12,13]
     rw [hsr]
     exact fin1 (σ':=σ) ⟨rfl,rfl⟩
@[reducible,instance] def a19:=fun p q σ=>ah2 (@OO p q σ)
mutual
def AllX (Q:FExp->Prop):FExp->Prop
 | .mk o n t k=>Q (.mk o n t k)/\FU Q k
def FU (Q:FExp->Prop):List FExp->Prop
 | []=>True
 | x::r=>AllX Q x/\FU Q r
end
mutual
def argE (gm:List (Str × Int)):FExp->List Int->List Int
 | .mk o _ t k,a=>FT gm k (if o=5 then a.set (getM 0 t gm).toNat k.length else a)
def FT (gm:List (Str × Int)):List FExp->List Int->List Int
 | [],a=>a
 | x::r,a=>FT gm r (argE gm x a)
end
theorem T9 (gm:List (Str × Int)) (e:FExp) (a:List Int):argE gm e a=FT gm e.kids (if e.op=5 then a.set (getM 0 e.text gm).toNat e.kids.length else a):=by cases e;rw [argE];rfl
theorem AllX_eq (Q:FExp->Prop) (e:FExp):AllX Q e ↔ Q e/\FU Q e.kids:=by cases e;rw [AllX];rfl
mutual
theorem FQ (gm:List (Str × Int)) : ∀ (e:FExp) (a:List Int),(argE gm e a).length=a.length
 | .mk o n t k,a=>by rw [argE,Nc gm k];split<;>simp
theorem Nc (gm:List (Str × Int)) : ∀ (l:List FExp) (a:List Int),(FT gm l a).length=a.length
 | [],a=>by rw [FT]
 | x::r,a=>by rw [FT,Nc gm r,FQ gm x]
end
def QA (gm:List (Str × Int)) (N:Nat) (x:FExp):Prop:=x.op=5->0<=getM 0 x.text gm/\getM 0 x.text gm < N
theorem Kh (gm:List (Str × Int)) (N ia r ig i6:Nat) : ∀ (n:Nat) (e:FExp) (a:List Int) (σ:Sig),e.wt<=n->n<=1073741824->AllX (QA gm N) e->a.length=N->N<=1073741824 ->
  σ ia=some (.cells [.sref r 0 N N])->σ r=some (.cells (a.map dI))->σ ig=some (.map (eSN gm))->σ i6=some (.cells [.func (.func 193) [] [.ptr ia 0, .cptr [.map ig] 0, .ptr i6 0]])->ia ≠ r->i6 ≠ r ->
  DCall prog 193 [.agg (Bc e), .ptr ia 0, .cptr [.map ig] 0, .ptr i6 0] σ fun x σ'=>x = .ret (.tup [])/\σ'=σ.set r (.cells ((argE gm e a).map dI)):=by
 intro n
 induction n with
 | zero =>
  intro e a σ hx
  have:=e.wt_pos
  omega
 | succ n ih =>
  intro e a σ hx hn hQ hal hN o1 o2 o3 o4 d1 d2
  obtain ⟨w1,w2,hw3⟩:=e.wt_le
  obtain ⟨q1,q2⟩:=(AllX_eq _ _).1 hQ
  have d3:ig ≠ r:=AC o3 o2 (by simp)
  refine en func193 ntmps193 ?_
  by_cases h5:e.op=5
  ·obtain ⟨p1,p2⟩:=q1 h5
   obtain ⟨p,hp⟩ : ∃ p:Nat,getM 0 e.text gm=p:=⟨(getM 0 e.text gm).toNat,by omega⟩
   have hpN:p < N:=by omega
   obtain ⟨A,hA⟩ : ∃ A,A=a.set p e.kids.length:=⟨_,rfl⟩
   have hAl:A.length=N:=by rw [hA,List.length_set];exact hal
   have hfr:argE gm e a=FT gm e.kids A:=by rw [T9,if_pos h5,hA,hp];rfl
   have hsub:Sub (σ.set r (.cells (A.map dI))) (σ.set r (.cells (List.take p (List.map dI a)++D.int IntKind.i64 e.kids.length::List.drop (p+1) (List.map dI a)))):=by
    rw [hA,List.map_set,List.set_eq_take_append_cons_drop,if_pos (by rw [List.length_map];omega)];exact Sub.refl _
   refine gf (gi o1 (gi o2 (gi o3 (gi o4 (gi h5 hp))))) ?_
   refine AJ [3,20,21] (fun (k:Nat) (b:List Int)=>k<=e.kids.length/\b.length=N/\FT gm e.kids A=FT gm (e.kids.drop k) b/\FU (QA gm N) (e.kids.drop k)) (fun k _=>[(22,dI k)]) (fun _ b=>σ.set r (.cells (b.map dI))) (fun k _=>e.kids.length-k) (0) (A) (by exact ⟨by omega,hAl,rfl,q2⟩) (fun k b hI => ?_)
   obtain ⟨hk,hb,hR,hQs⟩:=hI
   by_cases hkl:k < e.kids.length
   ·rw [A2 hkl,FT] at hR
    rw [A2 hkl,FU] at hQs
    have u1:(σ.set r (.cells (b.map dI))) ia=some (.cells [.sref r 0 N N]):=by rw [w8 _ _ d1];exact o1
    have u3:(σ.set r (.cells (b.map dI))) ig=some (.map (eSN gm)):=by rw [w8 _ _ d3];exact o3
    have u4:(σ.set r (.cells (b.map dI))) i6=some (.cells [.func (.func 193) [] [.ptr ia 0, .cptr [.map ig] 0, .ptr i6 0]]):=by rw [w8 _ _ d2];exact o4
    refine gf o4 ?_
    refine Ab (ih e.kids[k] b _ (by have:=hw3 k hkl;omega) (by omega) hQs.1 hb hN u1 (w7 ..) u3 u4 d1 d2) (fun d σ' hr => ?_) (fun d σ' hr=>by cases hr.1)
    obtain ⟨g1,rfl⟩:=hr
    cases g1
    refine gz ?_
    exact ⟨k+1,argE gm e.kids[k] b,⟨by omega,by rw [FQ];exact hb,hR,hQs.2⟩,td1,wkR⟩
   ·rw [A1 hkl,FT] at hR
    refine gz ?_
    exact DM (σ':=σ.set r (.cells ((argE gm e a).map dI))) ⟨rfl,rfl⟩ (by rw [hfr,hR];exact Sub.refl _)
  ·obtain ⟨A,hA⟩ : ∃ A,A=a:=⟨_,rfl⟩
   have hfr:argE gm e a=FT gm e.kids A:=by rw [T9,if_neg h5,hA]
   have hAl:A.length=N:=by rw [hA];exact hal
   have hsub:Sub (σ.set r (.cells (A.map dI))) σ:=by rw [hA,Sig.set_self _ o2];exact Sub.refl _
   refine gf (gi o1 (gi o2 (gi o3 (gi o4 h5)))) ?_
   refine AJ [3,20,21] (fun (k:Nat) (b:List Int)=>k<=e.kids.length/\b.length=N/\FT gm e.kids A=FT gm (e.kids.drop k) b/\FU (QA gm N) (e.kids.drop k)) (fun k _=>[(22,dI k)]) (fun _ b=>σ.set r (.cells (b.map dI))) (fun k _=>e.kids.length-k) (0) (A) (by exact ⟨by omega,hAl,rfl,q2⟩) (fun k b hI => ?_)
   obtain ⟨hk,hb,hR,hQs⟩:=hI
   by_cases hkl:k < e.kids.length
   ·rw [A2 hkl,FT] at hR
    rw [A2 hkl,FU] at hQs
    have u1:(σ.set r (.cells (b.map dI))) ia=some (.cells [.sref r 0 N N]):=by rw [w8 _ _ d1];exact o1
    have u3:(σ.set r (.cells (b.map dI))) ig=some (.map (eSN gm)):=by rw [w8 _ _ d3];exact o3
    have u4:(σ.set r (.cells (b.map dI))) i6=some (.cells [.func (.func 193) [] [.ptr ia 0, .cptr [.map ig] 0, .ptr i6 0]]):=by rw [w8 _ _ d2];exact o4
    refine gf o4 ?_
    refine Ab (ih e.kids[k] b _ (by have:=hw3 k hkl;omega) (by omega) hQs.1 hb hN u1 (w7 ..) u3 u4 d1 d2) (fun d σ' hr => ?_) (fun d σ' hr=>by cases hr.1)
    obtain ⟨g1,rfl⟩:=hr
    cases g1
    refine gz ?_
    exact ⟨k+1,argE gm e.kids[k] b,⟨by omega,by rw [FQ];exact hb,hR,hQs.2⟩,td1,wkR⟩
   ·rw [A1 hkl,FT] at hR
    refine gz ?_
    exact DM (σ':=σ.set r (.cells ((argE gm e a).map dI))) ⟨rfl,rfl⟩ (by rw [hfr,hR];exact Sub.refl _)
def argM (gm:List (Str × Int)):List FMeth->List Int->List Int
 | [],a=>a
 | m::r,a=>argM gm r (argE gm m.body (a.set (getM 0 m.name gm).toNat m.params.length))
def Nb (gm:List (Str × Int)) (f:FProg):List Int:=argE gm f.main (argM gm f.methods (List.replicate gm.length 0))
theorem Pa (gm:List (Str × Int)) : ∀ (l:List FMeth) (a:List Int),(argM gm l a).length=a.length
 | [],a=>rfl
 | m::r,a=>by rw [argM,Pa gm r,FQ,List.length_set]
theorem Q1 (f:FProg) (gm:List (Str × Int)) (ig:Nat) (σ:Sig) (hw:f.wt<=1073741824) (hg:gm.length<=1073741824) (o3:σ ig=some (.map (eSN gm)))
  (hM : ∀ m ∈ f.methods,(0<=getM 0 m.name gm/\getM 0 m.name gm < gm.length)/\AllX (QA gm gm.length) m.body) (hA:AllX (QA gm gm.length) f.main) :
  DCall prog 104 [.agg (Da f), .map ig] σ fun x σ' => ∃ r,σ r=none/\x = .ret (.sref r 0 gm.length gm.length)/\σ'=σ.set r (.cells ((Nb gm f).map dI)):=by
 obtain ⟨p1,p2,p3,p4,p5⟩:=f.wt_le
 have hel:(eSN gm).length=gm.length:=by simp [eSN,eM]
 refine en func104 ntmps104 ?_
 refine gf (gi o3 hel) ?_ [] [5,6]
 refine Tw (k:=gm.length) (c:=gm.length) (z:=[dI 0]) (sz:=1) (fun r hr hm => ?_)
 have hms:mS σ (some (r,gm.length,(List.replicate (gm.length-gm.length) [dI 0]).flatten)) (List.replicate gm.length [dI 0])=σ.set r (.cells ((List.replicate gm.length (0:Int)).map dI)):=by
  have h1:(List.replicate gm.length [dI 0]).flatten=(List.replicate gm.length (0:Int)).map dI:=by
   rw [List.map_replicate]
   induction gm.length with
   | zero=>rfl
   | succ n ih=>rw [List.replicate_succ,List.flatten_cons,ih,List.replicate_succ];rfl
  simp only [mS,Nat.sub_self,List.replicate_zero,List.flatten_nil,List.append_nil,h1]
 rw [hms]
 generalize hA0:List.replicate gm.length (0:Int)=a0
 have hal:a0.length=gm.length:=by rw [<- hA0];simp
 refine newV (fun ia hia => ?_)
 refine gz ?_ [] [5,6]
 refine newV (fun i6 hi6 => ?_)
 refine gz ?_ [] [5,6]
 have n1:ia ≠ r:=fun e=>by rw [e,w7] at hia;cases hia
 have n2:i6 ≠ ia:=fun e=>by rw [e,w7] at hi6;cases hi6
 have n3:i6 ≠ r:=fun e=>by rw [e,w8 _ _ (Ne.symm n1),w7] at hi6;cases hi6
 have n4:ig ≠ r:=fun e=>by rw [e,hr] at o3;cases o3
 have n5:ig ≠ ia:=fun e=>by rw [<- e,w8 _ _ n4,o3] at hia;cases hia
 have n6:ig ≠ i6:=fun e=>by rw [<- e,w8 _ _ n5,w8 _ _ n4,o3] at hi6;cases hi6
 generalize hσ1:((σ.set r _).set ia _).set i6 _=σ1
 have q1:σ1 ia=some (.cells [.sref r 0 gm.length gm.length]):=by rw [<- hσ1,w8 _ _ (Ne.symm n2),w7]
 have q2:σ1 r=some (.cells (a0.map dI)):=by rw [<- hσ1,w8 _ _ (Ne.symm n3),w8 _ _ (Ne.symm n1),w7]
 have q3:σ1 ig=some (.map (eSN gm)):=by rw [<- hσ1,w8 _ _ n6,w8 _ _ n5,w8 _ _ n4];exact o3
 have q4:σ1 i6=some (.cells [.func (.func 193) [] [.ptr ia 0, .cptr [.map ig] 0, .ptr i6 0]]):=by rw [<- hσ1,w7]
 have hfin : ∀ b:List Int,Sub (σ.set r (.cells (b.map dI))) (σ1.set r (.cells (b.map dI))):=fun b j x hj=>by
  by_cases e:j=r
  ·rw [e,w7] at hj ⊢; exact hj
  ·rw [w8 _ _ e] at hj ⊢
   have z1:j ≠ ia:=fun e2=>by rw [<- e2,w8 _ _ e,hj] at hia;cases hia
   have z2:j ≠ i6:=fun e2=>by rw [<- e2,w8 _ _ z1,w8 _ _ e,hj] at hi6;cases hi6
   rw [<- hσ1,w8 _ _ z2,w8 _ _ z1,w8 _ _ e];exact hj
 have hself:Sub (σ1.set r (.cells (a0.map dI))) σ1:=by rw [Sig.set_self _ q2];exact Sub.refl _
 have u1 : ∀ X,(σ1.set r X) ia=some (.cells [.sref r 0 gm.length gm.length]):=fun X=>by rw [w8 _ _ n1];exact q1
 have u3 : ∀ X,(σ1.set r X) ig=some (.map (eSN gm)):=fun X=>by rw [w8 _ _ n4];exact q3
 have u4 : ∀ X,(σ1.set r X) i6=some (.cells [.func (.func 193) [] [.ptr ia 0, .cptr [.map ig] 0, .ptr i6 0]]):=fun X=>by rw [w8 _ _ n3];exact q4
 refine AJ [2,3,4,5,6,14,15,34,35,36,37,38] (fun (k:Nat) (b:List Int)=>k<=f.methods.length/\b.length=gm.length/\argM gm f.methods a0=argM gm (f.methods.drop k) b) (fun k _=>[(16,dI k)]) (fun _ b=>σ1.set r (.cells (b.map dI))) (fun k _=>f.methods.length-k) (0) (a0) (by exact ⟨by omega,hal,rfl⟩) (fun k b hI => ?_)
 obtain ⟨hk,hb,hR⟩:=hI
 by_cases hkl:k < f.methods.length
 ·rw [A2 hkl,argM] at hR
  obtain ⟨⟨g1,g2⟩,g3⟩:=hM _ (List.getElem_mem hkl)
  obtain ⟨p,hp⟩ : ∃ p:Nat,getM 0 f.methods[k].name gm=p:=⟨(getM 0 f.methods[k].name gm).toNat,by omega⟩
  have hpN:p < gm.length:=by omega
  have hwm:=p5 k hkl
  have hwb:f.methods[k].body.wt<=1073741824/\f.methods[k].params.length<=1073741824:=by have:=hwm;unfold FMeth.wt at this;have:=CL f.methods[k].params;omega
  have hbs:(List.take p (List.map dI b)++D.int IntKind.i64 f.methods[k].params.length::List.drop (p+1) (List.map dI b))=(b.set p f.methods[k].params.length).map dI:=by
   rw [List.map_set,List.set_eq_take_append_cons_drop,if_pos (by rw [List.length_map];omega)]
  rw [hp] at hR
  refine gf (gi q1 (gi q3 (gi q4 (gi hp hbs)))) ?_ [] [5,6]
  refine Ab (Kh gm gm.length ia r ig i6 _ f.methods[k].body (b.set p f.methods[k].params.length) _ (Nat.le_refl _) hwb.1 g3 (by rw [List.length_set];exact hb) hg (u1 _) (by rw [w7,List.map_set]) (u3 _) (u4 _) n1 n3) (fun d σ' hr => ?_) (fun d σ' hr=>by cases hr.1)
  obtain ⟨e1,rfl⟩:=hr
  cases e1
  refine gz ?_ [] [5,6]
  exact ⟨k+1,argE gm f.methods[k].body (b.set p f.methods[k].params.length),⟨by omega,by rw [FQ,List.length_set];exact hb,hR⟩,td1,wkR⟩
 ·rw [A1 hkl,argM] at hR
  refine gf (gi q1 q4) ?_ [] [5,6]
  refine Ab (Kh gm gm.length ia r ig i6 _ f.main b _ (Nat.le_refl _) (by omega) hA hb hg (u1 _) (w7 ..) (u3 _) (u4 _) n1 n3) (fun d σ' hr => ?_) (fun d σ' hr=>by cases hr.1)
  obtain ⟨e1,rfl⟩:=hr
  cases e1
  refine gf q1 ?_ [] [5,6]
  refine fin1 (σ':=σ.set r (.cells ((Nb gm f).map dI))) ⟨r,hr,rfl,rfl⟩ ?_
  rw [w9]
  unfold Nb
  rw [hA0,hR]
  exact hfin _
def numM:List Str->Int->List (Str × Int)->List (Str × Int)
 | [],_,m=>m
 | s::r,b,m=>numM r (b+1) (putM s b m)
def cNum (m:List (Str × Int)):D := .cmap ((eSN m).map (·.1)) ((eSN m).map (·.2))
theorem SE (l:List Str) (b:Int) (o:Own) (σ:Sig) (hl:l.length<=1073741824) (hb:0<=b/\b<=1000):DCall prog 101 [.slice (cS l) o,dI b] σ fun x σ'=>x = .ret (cNum (numM l b []))/\σ'=σ:=by
 obtain ⟨hb0,hb1⟩:=hb
 refine en func101 ntmps101 ?_
 refine gz ?_
 refine QP (fun im him => ?_)
 refine gz ?_
 refine AJ [1,4,5,9,10,22] (fun (k:Nat) (m:List (Str × Int))=>k<=l.length/\numM l b []=numM (l.drop k) (b+k) m) (fun k _=>[(11,dI k)]) (fun _ m=>σ.set im (.map (eSN m))) (fun k _=>l.length-k) (0) ([]) (by simp) (fun k m hI => ?_)
 obtain ⟨hk,hR⟩:=hI
 by_cases hkl:k < l.length
 ·rw [A2 hkl,numM] at hR
  refine gz ?_
  exact ⟨k+1,putM l[k] (b+k) m,⟨by omega,by rw [hR];congr 1;omega⟩,td1,wkR⟩
 ·rw [A1 hkl,numM] at hR
  repeat ((fail_if_success (first | (refine cfr 22 (i:=im) (m:=eSN m) (w7 ..) ?_) | fail));(refine goX1 trivial ?_))
  refine cfr 22 (i:=im) (m:=eSN m) (w7 ..) ?_
  rw [Sig.set_del _ _ him,hR]
  refine gz ?_
  exact fe1 trivial
@[reducible,instance] def a101:=fun l b o σ=>ah2 (@SE l b o σ)
theorem MC (c:FClass) (σ:Sig):DCall prog 103 [.agg (Al c)] σ fun x σ'=>x = .ret (.str c.name)/\σ'=σ:=by
 refine en func103 ntmps103 ?_
 refine gz ?_
 exact fe1 trivial
theorem Dp (l:List Str) (b:Int) (o:Own) (σ:Sig) (hl:l.length<=1073741824) (hb:0<=b/\b<=1000):DCall prog 101 [.slice (cS l) o,dI b] σ fun x σ' => ∃ im,σ im=none/\x = .ret (.map im)/\σ'=σ.set im (.map (eSN (numM l b []))):=by
 obtain ⟨hb0,hb1⟩:=hb
 refine en func101 ntmps101 ?_
 refine gz ?_
 refine QP (fun im him => ?_)
 refine gz ?_
 refine AJ [1,4,5,9,10,22] (fun (k:Nat) (m:List (Str × Int))=>k<=l.length/\numM l b []=numM (l.drop k) (b+k) m) (fun k _=>[(11,dI k)]) (fun _ m=>σ.set im (.map (eSN m))) (fun k _=>l.length-k) (0) ([]) (by simp) (fun k m hI => ?_)
 obtain ⟨hk,hR⟩:=hI
 by_cases hkl:k < l.length
 ·rw [A2 hkl,numM] at hR
  refine gz ?_
  exact ⟨k+1,putM l[k] (b+k) m,⟨by omega,by rw [hR];congr 1;omega⟩,td1,wkR⟩
 ·rw [A1 hkl,numM] at hR
  refine gz ?_
  exact fin1 (σ':=σ.set im (.map (eSN m))) ⟨im,him,rfl,by rw [hR]⟩
structure EnvS (ib ia is ig:Nat) (p6:List D) (cm sm gm:List (Str × Int)) (σ:Sig):Prop where
 env : ∃ a b c d e f,p6=[a,b,c,d,e,f]/\σ ib=some (.cells [a,b,c,d,e,f, .map ia, .map is, .map ig])
 oa:σ ia=some (.map (eSN cm))
 os:σ is=some (.map (eSN sm))
 og:σ ig=some (.map (eSN gm))
theorem EnvS.sub {ib ia is ig:Nat} {p6:List D} {cm sm gm:List (Str × Int)} {σ σ':Sig} (h:EnvS ib ia is ig p6 cm sm gm σ) (hs:Sub σ σ'):EnvS ib ia is ig p6 cm sm gm σ':=by
 obtain ⟨⟨a,b,c,d,e,f,h1,h2⟩,h3,h4,h5⟩:=h
 exact ⟨⟨a,b,c,d,e,f,h1,hs _ _ h2⟩,hs _ _ h3,hs _ _ h4,hs _ _ h5⟩
section
variable {ib ia is ig:Nat} {p6:List D} {cm sm gm:List (Str × Int)} {σ:Sig}
theorem Kn (s:Str) (hE:EnvS ib ia is ig p6 cm sm gm σ):DCall prog 108 [.str s, .cptr [.ptr ib 0] 0] σ fun x σ'=>x = .ret (dI (getM 0 s cm))/\σ'=σ:=by
 obtain ⟨⟨a,b,c,d,e,f,rfl,o1⟩,o2,o3,o4⟩:=hE
 refine en func108 ntmps108 ?_
 refine gf (gi o1 (gi o2 (gi o3 o4))) ?_
 exact fe1 trivial
theorem Km (s:Str) (hE:EnvS ib ia is ig p6 cm sm gm σ):DCall prog 109 [.str s, .cptr [.ptr ib 0] 0] σ fun x σ'=>x = .ret (dI (getM 0 s sm))/\σ'=σ:=by
 obtain ⟨⟨a,b,c,d,e,f,rfl,o1⟩,o2,o3,o4⟩:=hE
 refine en func109 ntmps109 ?_
 refine gf (gi o1 (gi o2 (gi o3 o4))) ?_
 exact fe1 trivial
theorem Kl (x:FInit) (hE:EnvS ib ia is ig p6 cm sm gm σ):DCall prog 111 [.agg (Fy x), .cptr [.ptr ib 0] 0] σ fun r σ'=>r = .ret (.agg (Cm ⟨getM 0 x.slot sm,x.n⟩))/\σ'=σ:=by
 obtain ⟨⟨a,b,c,d,e,f,rfl,o1⟩,o2,o3,o4⟩:=hE
 refine en func111 ntmps111 ?_
 refine gz ?_ o111
 refine newV (fun i hi => ?_)
 have n1:ib ≠ i:=A3 o1 hi
 have n2:ia ≠ i:=A3 o2 hi
 have n3:is ≠ i:=A3 o3 hi
 refine gf (gi o1 (gi o2 (gi o3 o4))) ?_ o111
 exact finC (σ':=σ) ⟨rfl,rfl⟩
def NX (cm sm:List (Str × Int)) (c:FClass):BClass:=⟨c.parents.map fun s=>getM 0 s cm,c.slots.map fun s=>getM 0 s sm,c.inits.map fun x=>⟨getM 0 x.slot sm,x.n⟩⟩
theorem Q0 (c:FClass) (hw:c.parents.length<=1073741824/\c.slots.length<=1073741824/\c.inits.length<=1073741824) (hE:EnvS ib ia is ig p6 cm sm gm σ):DCall prog 106 [.agg (Al c), .cptr [.ptr ib 0] 0] σ fun r σ'=>r = .ret (.agg (Ae (NX cm sm c)))/\σ'=σ:=by
 obtain ⟨w1,w2,w3⟩:=hw
 refine en func106 ntmps106 ?_
 refine gz ?_ o106
 refine newV (fun i hi => ?_)
 have hE2:=hE.sub (σ':=σ.set i (.cells [.nils, .nils, .nils])) ((Sub.refl _).set hi)
 repeat' first | refine gz ?_ | refine moR (Fs c.parents (fun s=>getM 0 s cm) 108 [.cptr [.ptr ib 0] 0] _ _ w1 (fun x hx σ' hs=>Kn x (hE2.sub hs))) ?_ | refine moP (Fs c.parents (fun s=>getM 0 s cm) 108 [.cptr [.ptr ib 0] 0] _ _ w1 (fun x hx σ' hs=>Kn x (hE2.sub hs))) ?_ | refine moR (Fs c.slots (fun s=>getM 0 s sm) 109 [.cptr [.ptr ib 0] 0] _ _ w2 (fun x hx σ' hs=>Km x (hE2.sub hs))) ?_ | refine moP (Fs c.slots (fun s=>getM 0 s sm) 109 [.cptr [.ptr ib 0] 0] _ _ w2 (fun x hx σ' hs=>Km x (hE2.sub hs))) ?_ | refine moR (MB c.inits (fun x=>⟨getM 0 x.slot sm,x.n⟩) 111 [.cptr [.ptr ib 0] 0] _ _ w3 (fun x hx σ' hs=>Kl x (hE2.sub hs))) ?_ | refine moP (MB c.inits (fun x=>⟨getM 0 x.slot sm,x.n⟩) 111 [.cptr [.ptr ib 0] 0] _ _ w3 (fun x hx σ' hs=>Kl x (hE2.sub hs))) ?_ | refine gz ?_ o106 | apply gy<;>intro hh
 exact finC (σ':=σ) ⟨rfl,rfl⟩ (hw:=by refine B5 ?_;simp [NX])
end
theorem O4 {α β:Type} (l:List (α × β)):(l.map (·.1)).zip (l.map (·.2))=l:=by
 induction l with
 | nil=>rfl
 | cons x l ih=>simp only [List.map_cons,List.zip_cons_cons,ih]
theorem SP (s:List (Str × Int)) (j:Nat):(eSN s).eraseIdx j=eSN (s.eraseIdx j):=by
 unfold eSN eM
 induction s generalizing j with
 | nil=>simp
 | cons x s ih=>cases j with
  | zero=>simp
  | succ j=>simp [ih]
theorem eSN_get {s:List (Str × Int)} {j:Nat} {k v:D} (h:(eSN s)[j]? = some (k,v)) : ∃ hj:j < s.length,k = .str s[j].1/\v=dI s[j].2:=by
 unfold eSN eM at h
 rw [List.getElem?_map] at h
 by_cases hj:j < s.length
 ·rw [List.getElem?_eq_getElem hj] at h
  simp only [Option.map_some,Option.some.injEq,Prod.mk.injEq] at h
  exact ⟨hj,h.1.symm,h.2.symm⟩
 ·rw [List.getElem?_eq_none (by omega)] at h;cases h
section
variable {α β:Type} [DecidableEq α]
theorem GM (k:α) : ∀ m:List (α × β),hasM k m=true ↔ k ∈ m.map (·.1)
 | []=>by simp [hasM]
 | (x,y)::r=>by simp [hasM,GM k r]
theorem Ow (k:α) (v:β) : ∀ m:List (α × β),(putM k v m).map (·.1)=if hasM k m=true then m.map (·.1) else m.map (·.1)++[k]
 | []=>by simp [putM,hasM]
 | (x,y)::r=>by
  by_cases h:k=x
  ·simp [putM,hasM,h]
  ·rw [putM,if_neg h,List.map_cons,Ow k v r,hasM]
   by_cases h2:hasM k r=true<;>simp [h,h2]
theorem Iz (k:α) (v:β) {m:List (α × β)} (h:(m.map (·.1)).Nodup):((putM k v m).map (·.1)).Nodup:=by
 rw [Ow]
 split
 ·exact h
 ·rename_i h2
  rw [List.nodup_append]
  refine ⟨h,by simp,fun a ha b hb e => ?_⟩
  simp only [List.mem_singleton] at hb
  subst hb;subst e
  exact h2 ((GM _ _).2 ha)
theorem JZ (z:β) : ∀ (m:List (α × β)) (j:Nat) (hj:j < m.length),(m.map (·.1)).Nodup->((m.eraseIdx j).map (·.1)).Nodup /\ ∀ x,hasM x m=(decide (x=m[j].1) || hasM x (m.eraseIdx j))/\(x ≠ m[j].1->getM z x (m.eraseIdx j)=getM z x m)/\(x=m[j].1->hasM x (m.eraseIdx j)=false/\getM z x m=m[j].2)
 | (a,b)::r,0,_,h=>by
  simp only [List.map_cons,List.nodup_cons] at h
  refine ⟨h.2,fun x=>⟨rfl,fun hx=>by simp only [List.getElem_cons_zero,ne_eq] at hx;simp [getM,hx],fun hx => ?_⟩⟩
  simp only [List.getElem_cons_zero] at hx
  subst hx
  refine ⟨?_,by simp [getM]⟩
  simp only [List.eraseIdx_zero,List.tail_cons]
  cases hh:hasM x r with
  | false=>rfl
  | true=>exact absurd ((GM _ _).1 hh) h.1
 | (a,b)::r,j+1,hj,h=>by
  have hj':j < r.length:=by simpa using hj
  simp only [List.map_cons,List.nodup_cons] at h
  obtain ⟨h1,h2⟩:=JZ z r j hj' h.2
  have hsub : ∀ y,y ∈ (r.eraseIdx j).map (·.1)->y ∈ r.map (·.1):=fun y hy=>by
   obtain ⟨p,hp,rfl⟩:=List.mem_map.1 hy
   exact List.mem_map.2 ⟨p,List.mem_of_mem_eraseIdx hp,rfl⟩
  have hmem:r[j].1 ∈ r.map (·.1):=List.mem_map.2 ⟨_,List.getElem_mem hj',rfl⟩
  refine ⟨by simp only [List.eraseIdx_cons_succ,List.map_cons,List.nodup_cons];exact ⟨fun hm=>h.1 (hsub _ hm),h1⟩,fun x => ?_⟩
  obtain ⟨e1,e2,e3⟩:=h2 x
  simp only [List.getElem_cons_succ,List.eraseIdx_cons_succ]
  refine ⟨?_,fun hx => ?_,fun hx => ?_⟩
  ·rw [hasM,e1,hasM];cases decide (x=a)<;>cases decide (x=r[j].1)<;>simp
  ·rw [getM,getM,e2 hx]
  ·have hne:x ≠ a:=fun e=>h.1 (by rw [<- e,hx];exact hmem)
   rw [hasM,getM,if_neg hne]
   exact ⟨by rw [(e3 hx).1];simp [hne],(e3 hx).2⟩
end
theorem Rd {α β:Type} [DecidableEq α] {z:β} {k:α} : ∀ {m:List (α × β)},hasM k m=false->getM z k m=z
 | [],_=>rfl
 | (x,y)::r,h=>by
  rw [hasM,Bool.or_eq_false_iff,decide_eq_false_iff_not] at h
  rw [getM,if_neg h.1];exact Rd h.2
def NmD (nm:D) (m:List (Str × Int)):Prop:=(nm=cNum m\/(nm = .nilmap/\m=[]))/\(m.map (·.1)).Nodup
def updE (env:Str->Int) (s:Str) (v:Int):Str->Int:=fun x=>if x=s then v else env x
theorem S5 (ib:Nat) (nm:D) (m:List (Str × Int)) (size:Int) (s:Str) (σ:Sig) (hn:NmD nm m) (hs:0<=size/\size<=2000000000) :
  DCall prog 195 [.agg [.ptr ib 0,nm,dI size], .str s] σ fun x σ' => ∃ m',x = .ret (.agg [.ptr ib 0,cNum m',dI (size+1)])/\NmD (cNum m') m'/\(∀ x,getM 0 x m'=updE (fun y=>getM 0 y m) s size x)/\σ'=σ:=by
 obtain ⟨hn,hnd⟩:=hn
 obtain ⟨hs0,hs1⟩:=hs
 have hrange:Og nm=some (eSN m):=by
  rcases hn with rfl | ⟨rfl,rfl⟩
  ·show some (((eSN m).map (·.1)).zip ((eSN m).map (·.2)))=_
   rw [O4]
  ·rfl
 refine en func195 ntmps195 ?_
 try refine gz ?_ [] [4]
 refine newV (fun i hi => ?_)
 try refine gz ?_ [] [4]
 refine QP (fun im him => ?_)
 try refine gz ?_ [] [4]
 refine rng (kt:=9) (et:=3) (l:=eSN m) (fun it hit => ?_) (hx:=by exact hrange)
 try refine gz ?_ [] [4]
 have n1:i ≠ im:=fun e=>by rw [<- e,w7] at him;cases him
 have n2:im ≠ it:=fun e=>by rw [<- e,w7] at hit;cases hit
 have n3:i ≠ it:=fun e=>by rw [<- e,w8 _ _ n1,w7] at hit;cases hit
 obtain ⟨m1,i2⟩:=A8 him
 have i3:σ it=none:=by rw [w8 _ _ (Ne.symm n2),w8 _ _ (Ne.symm n3)] at hit;exact hit
 have h0 : ∀ x,getM 0 x m=if hasM x m=true then getM 0 x m else getM 0 x ([]:List (Str × Int)):=fun x=>by
  by_cases h:hasM x m=true
  ·rw [if_pos h]
  ·rw [if_neg h];exact Rd (by simpa using h)
 refine EV [1,2,4,5,11,20,21,22,23,24,25,26,27,28,29,30] (fun (L:List (Str × Int)) (acc:List (Str × Int)) (la:Option (D × D))=>(L.map (·.1)).Nodup/\(acc.map (·.1)).Nodup/\(∀ x,getM 0 x m=if hasM x L=true then getM 0 x L else getM 0 x acc)) (fun _ _ _=>[]) (fun L acc la=>((σ.set i (.cells [.nilp, .nilmap,dI 0])).set im (.map (eSN acc))).set it (.iter (eSN L) la)) (fun L _ _=>L.length) (m) ([]) (none) (by exact ⟨hnd,by simp,h0⟩) (fun L acc la hI => ?_)
 obtain ⟨hL,hA,hR⟩:=hI
 try refine gz ?_ [] [4]
 refine nxt (fun hL0 => ?_) (fun jj k v hkv => ?_)
 ·have hL1:L=[]:=by unfold eSN eM at hL0;simpa using hL0
  subst hL1
  have hR' : ∀ x,getM 0 x m=getM 0 x acc:=fun x=>by have:=hR x;simpa [hasM] using this
  repeat ((fail_if_success (first | (refine cfr 5 (i:=im) (m:=eSN (putM s size acc)) ((w7 ..)) ?_) | fail));(refine goX1 trivial ?_))
  refine cfr 5 (i:=im) (m:=eSN (putM s size acc)) ((w7 ..)) ?_
  generalize hσe:Sig.del _ im=σe
  have w1:σe i=some (.cells [.nilp, .nilmap,dI 0]):=by rw [<- hσe];simp [Sig.del,n1,w8 _ _ n1,w8 _ _ n3]
  have wS:Sub σ σe:=fun j x hj=>by
   have e1:j ≠ i:=A3 hj hi
   have e2:j ≠ im:=A3 hj i2
   have e3:j ≠ it:=A3 hj i3
   rw [<- hσe];simp only [Sig.del,e2,if_false,w8 _ _ e1,w8 _ _ e2,w8 _ _ e3];exact hj
  clear hσe
  try refine gf w1 ?_ [] [4]
  refine finC (σ':=σ) (d := .agg [.ptr ib 0,cNum (putM s size acc),dI (size+1)]) ⟨_,rfl,⟨.inl rfl,Iz _ _ hA⟩,fun x => ?_,rfl⟩ (hσ:=wS.set hi)
  rw [CZ];unfold updE
  split
  ·rfl
  ·exact (hR' x).symm
 ·obtain ⟨hjj,rfl,rfl⟩:=eSN_get hkv
  rw [SP]
  obtain ⟨e1,e2⟩:=JZ (0:Int) L jj hjj hL
  try refine gz ?_ [] [4]
  refine ent ?_
  try refine gz ?_ [] [4]
  have hle:(L.eraseIdx jj).length < L.length:=by rw [List.length_eraseIdx,if_pos hjj];omega
  have hnx : ∀ x,getM 0 x m=if hasM x (L.eraseIdx jj)=true then getM 0 x (L.eraseIdx jj) else getM 0 x (putM L[jj].1 L[jj].2 acc):=fun x=>by
   obtain ⟨f1,f2,f3⟩:=e2 x
   rw [hR x,CZ]
   by_cases hx:x=L[jj].1
   ·rw [if_pos hx,(f3 hx).1,f1,decide_eq_true hx,Bool.true_or,if_pos rfl,if_neg (by simp),(f3 hx).2]
   ·rw [if_neg hx,f1,decide_eq_false hx,Bool.false_or,f2 hx]
  have hsub:Sub (((σ.set i (.cells [.nilp, .nilmap,dI 0])).set im (.map (eSN (putM L[jj].1 L[jj].2 acc)))).set it (.iter (eSN (L.eraseIdx jj)) (some (.str L[jj].1,dI L[jj].2)))) ((((σ.set i (.cells [.nilp, .nilmap,dI 0])).set im (.map (eSN acc))).set it (.iter (eSN (L.eraseIdx jj)) (some (.str L[jj].1,dI L[jj].2)))).set im (.map (eSN (putM L[jj].1 L[jj].2 acc)))):=by
   rw [set_comm _ (Ne.symm n2),w9];exact Sub.refl _
  exact ⟨L.eraseIdx jj,putM L[jj].1 L[jj].2 acc,_,⟨e1,Iz _ _ hA,hnx⟩,td1,wkR⟩
mutual
def bndF (cm sm:List (Str × Int)) (env:Str->Int):FFact->Fact
 | .mk o s p c n k => .mk o (env s) (p.map fun x=>getM 0 x sm) (getM 0 c cm) n (N6 cm sm env k)
def N6 (cm sm:List (Str × Int)) (env:Str->Int):List FFact->List Fact
 | []=>[]
 | x::r=>bndF cm sm env x::N6 cm sm env r
end
theorem N5 (cm sm:List (Str × Int)) (env:Str->Int) : ∀ l,N6 cm sm env l=l.map (bndF cm sm env)
 | []=>by rw [N6];rfl
 | x::r=>by rw [N6,N5 cm sm env r];rfl
theorem bndF_eq (cm sm:List (Str × Int)) (env:Str->Int) (f:FFact):bndF cm sm env f = .mk f.op (env f.name) (f.path.map fun x=>getM 0 x sm) (getM 0 f.cls cm) f.n (f.kids.map (bndF cm sm env)):=by
 cases f;rw [bndF,N5];rfl
theorem PU (l:List FFact) (h:FFact->Fact) (g:Nat) (first cap:List D) (o:Own) (σ:Sig) (hl:l.length<=1073741824)
  (hg : ∀ x ∈ l, ∀ σ',Sub σ σ'->DCall prog g (first++[.agg (Bv x)]++cap) σ' fun r σ''=>r = .ret (.agg (Bk (h x)))/\σ''=σ') :
  DCall prog 197 [.slice (l.map Bv) o, .func (.func g) first cap] σ fun x σ'=>x = .ret (sl ((l.map h).map Bk))/\σ'=σ:=by
 refine en func197 ntmps197 ?_
 try refine gz ?_
 refine BD 5 6 (fun i hi => ?_)
 refine AJ [1,4,8,9,21,22] (fun (k:Nat) (out:List Fact)=>k<=l.length/\out++(l.drop k).map h=l.map h) (fun k out=>[(10,dI k),(5, .slice (out.map Bk) (.tag i))]) (fun _ out=>σ.set i (.tail 6 out.length)) (fun k _=>l.length-k) (0) ([]) (by simp) (fun k out hI => ?_)
 obtain ⟨hk,hR⟩:=hI
 have hlen:=congrArg List.length hR
 simp at hlen
 by_cases hh:k < l.length
 ·rw [A2 hh] at hR
  try refine gf hh ?_
  refine Ab (hg (l[k]) (List.getElem_mem hh) _ ((Sub.refl _).set hi)) (fun d σ' hr => ?_) (fun d σ' hr=>by cases hr.1) (ha:=rfl)
  obtain ⟨e1,e2⟩:=hr
  cases e1
  rw [e2]
  try refine gz ?_
  exact ⟨k+1,out++[h l[k]],⟨by omega,by rw [List.append_assoc];exact hR⟩,td1,wkR⟩
 ·try refine gf hh ?_
  rw [A1 hh] at hR
  simp at hR
  exact finS (σ':=σ) (es:=out.map Bk) ⟨by rw [hR],rfl⟩
section
variable {ib ia is ig:Nat} {p6:List D} {cm sm gm:List (Str × Int)}
theorem S4 (s:Str) (nm:D) (size:Int) (σ:Sig) (hE:EnvS ib ia is ig p6 cm sm gm σ):DCall prog 196 [.str s, .cptr [.ptr ib 0,nm,dI size] 0] σ fun x σ'=>x = .ret (dI (getM 0 s sm))/\σ'=σ:=by
 obtain ⟨⟨a,b,c,d,e,f,rfl,o1⟩,o2,o3,o4⟩:=hE
 refine en func196 ntmps196 ?_
 try refine gf (gi o1 (gi o2 (gi o3 o4))) ?_
 exact fe1 trivial
theorem NmD.cases {nm:D} {m:List (Str × Int)} (h:NmD nm m):(∃ ks vs,nm = .cmap ks vs/\ks.zip vs=eSN m)\/(nm = .nilmap /\ ∀ x,getM 0 x m=0):=by
 rcases h.1 with rfl | ⟨rfl,rfl⟩
 ·exact .inl ⟨_,_,rfl,O4 _⟩
 ·exact .inr ⟨rfl,fun _=>rfl⟩
theorem SC (nm:D) (m:List (Str × Int)) (size:Int) (hn:NmD nm m) : ∀ (n:Nat) (f:FFact) (σ:Sig),f.wt<=n->n<=1073741824->EnvS ib ia is ig p6 cm sm gm σ ->
  DCall prog 113 [.agg [.ptr ib 0,nm,dI size], .agg (Bv f)] σ fun x σ'=>x = .ret (.agg (Bk (bndF cm sm (fun y=>getM 0 y m) f)))/\σ'=σ:=by
 intro n
 induction n with
 | zero =>
  intro f σ hx
  have:=f.wt_pos
  omega
 | succ n ih =>
  intro f σ hx hw hE
  obtain ⟨w1,w2,w3,w4,w5⟩:=f.wt_le
  have hpl:f.path.length<=1073741824:=by have:=CL f.path;omega
  have hE0:=hE
  obtain ⟨⟨a,b,c,d,e,g,rfl,o1⟩,o2,o3,o4⟩:=hE
  refine en func113 ntmps113 ?_
  try refine gz ?_ o113 [4]
  refine newV (fun i hi => ?_)
  have n1:ib ≠ i:=A3 o1 hi
  have n2:ia ≠ i:=A3 o2 hi
  have n3:is ≠ i:=A3 o3 hi
  have hE2:=hE0.sub (σ':=σ.set i (.cells [dI 0,dI 0, .nils,dI 0,dI 0, .nils])) ((Sub.refl _).set hi)
  have h107:=Fs f.path (fun s=>getM 0 s sm) 196 [.cptr [.ptr ib 0,nm,dI size] 0] .no (σ.set i (.cells [dI 0,dI 0, .nils,dI 0,dI 0, .nils])) hpl (fun x hx σ' hs=>S4 x nm size σ' (hE2.sub hs))
  have h197:=PU f.kids (bndF cm sm (fun y=>getM 0 y m)) 113 [.agg [.ptr ib 0,nm,dI size]] [] .no (σ.set i (.cells [dI 0,dI 0, .nils,dI 0,dI 0, .nils])) (by omega) (fun x hx σ' hs=>ih x σ' (by obtain ⟨k,hk,rfl⟩:=List.getElem_of_mem hx;have:=w5 k hk;omega) (by omega) (hE2.sub hs))
  have hb:=bndF_eq cm sm (fun y=>getM 0 y m) f
  rcases hn.cases with ⟨ks,vs,rfl,hz⟩ | ⟨rfl,hz⟩
  ·repeat' first | refine gf (gi hz (gi o1 (gi o2 o3))) ?_ [] [4] | refine moR (h107) ?_ | refine moP (h107) ?_ | refine moR (h197) ?_ | refine moP (h197) ?_ | refine gf (gi hz (gi o1 (gi o2 o3))) ?_ o113 [4] | apply gy<;>intro hh
   exact finC (σ':=σ) ⟨rfl,rfl⟩ (hw:=by rw [hb];refine B5 ?_;simp [Fact.op,Fact.arg,Fact.path,Fact.cls,Fact.n,Fact.kids])
  ·repeat' first | refine gf (gi o1 (gi o2 o3)) ?_ [] [4] | refine moR (h107) ?_ | refine moP (h107) ?_ | refine moR (h197) ?_ | refine moP (h197) ?_ | refine gf (gi o1 (gi o2 o3)) ?_ o113 [4] | apply gy<;>intro hh
   exact finC (σ':=σ) ⟨rfl,rfl⟩ (hw:=by rw [hb];refine B5 ?_;simp [Fact.op,Fact.arg,Fact.path,Fact.cls,Fact.n,Fact.kids,hz])
end
mutual
def allE:FExp->List FExp
 | .mk o n t k => .mk o n t k::Ng k
def Ng:List FExp->List FExp
 | []=>[]
 | x::r=>allE x++Ng r
end
mutual
theorem Pc : ∀ e:FExp,(allE e).length<=e.wt
 | .mk o n t k=>by
  have:=Nf k
  rw [allE,FExp.wt_eq];simp only [List.length_cons]
  show _<=1+t.length+wtL FExp.wt k
  omega
theorem Nf : ∀ l:List FExp,(Ng l).length<=wtL FExp.wt l
 | []=>by rw [Ng];simp
 | x::r=>by
  have h1:=Pc x
  have h2:=Nf r
  rw [Ng,List.length_append,wtL];omega
end
end Go.DL
