/- A part of the proof. -/
import Derived.Test.YtlfimpogphmbdaaGreatQ25
set_option linter.all false
namespace Go.DL
open Go.Proofs.Tryz
open Go Go.Proofs
set_option maxHeartbeats 8000000
theorem K3(op n:Int)(l:fH)(o:Own)(V:Sig):au prog 97 [dI op,dI n,.slice l o] V (rS (.agg [dI op,dI n,.slice l o]) V):=by
 refine en func97 ntmps97 ?_
 refine gz ?_ [] [6]
 refine newV (fun i hi=>?_)
 refine gz ?_ [] [6]
 exact finC (S':=V) ⟨rfl,rfl⟩
@[reducible,instance] def a97a:=fun op n l o V=>ah0 (@K3 op n l o V)
theorem K2(op n:Int)(V:Sig):au prog 97 [dI op,dI n,.ak] V (rS (.agg [dI op,dI n,.ak]) V):=by
 refine en func97 ntmps97 ?_
 refine gz ?_ [] [6]
 refine newV (fun i hi=>?_)
 refine gz ?_ [] [6]
 exact finC (S':=V) ⟨rfl,rfl⟩
@[reducible,instance] def a97n:=fun op n V=>ah0 (@K2 op n V)
theorem K4(op:Int)(s:Str)(V:Sig):au prog 95 [dI op,.str s,.ak] V (rS (.agg [dI op,dI 0,.str s,.ak]) V):=by
 refine en func95 ntmps95 ?_
 refine gz ?_ [] [6]
 refine newV (fun i hi=>?_)
 refine gz ?_ [] [6]
 exact finC (S':=V) ⟨rfl,rfl⟩
@[reducible,instance] def a95n:=fun op s V=>ah0 (@K4 op s V)
def exB:aw:=⟨[⟨[],[0],[⟨0,7⟩]⟩,⟨[3],[1],[]⟩,⟨[4,3],[],[⟨0,1⟩]⟩],2,[1],[⟨1,0,.mk 2 0 [] 3 0 [],0⟩,⟨2,0,.mk 3 0 [0] 0 5 [],3⟩],
 [⟨17,0,[1]⟩,⟨4,0,[2]⟩,⟨3,0,[]⟩,⟨9,0,[4,5]⟩,⟨3,0,[]⟩,⟨3,1,[]⟩,⟨5,0,[7]⟩,⟨6,5,[]⟩],6⟩
def exA(l:fD):aF:=⟨[⟨[97],[],[[102]],[⟨[102],7⟩]⟩,⟨[98],[[97]],[[103]],[]⟩,⟨[99],l,[],[⟨[102],1⟩]⟩],
 [⟨1,[115,104,111,119],[[120]],.mk 2 [120] [] [97] 0 [],.mk 17 0 [] [.mk 4 0 [102] [.mk 3 0 [120] []]]⟩,⟨2,[115,104,111,119],[[121]],.mk 3 [121] [[102]] [] 5 [],.mk 9 0 [122] [.mk 3 0 [121] [],.mk 3 0 [122] []]⟩],
 .mk 5 0 [115,104,111,119] [.mk 6 0 [99] []]⟩
theorem Xi(V:Sig):au prog 46 [] V (rS (.agg (Ai exB)) V):=by
 refine en func46 ntmps46 ?_
 refine gz ?_ [] [0]
 refine newV (fun i hi=>?_)
 repeat' first|refine gz ?_ [] [0]|refine Aq (K3 _ _ _ _ _) ?_|refine callP (K3 _ _ _ _ _) ?_|refine Aq (K2 _ _ _) ?_|refine callP (K2 _ _ _) ?_|refine gz ?_ [] [0]|apply gy<;>intro hh
 have e:Ai exB=[sl [[sl [],sl [[dI 0]],sl [[dI 0,dI 7]]],[sl [[dI 3]],sl [[dI 1]],sl []],[sl [[dI 4],[dI 3]],sl [],sl [[dI 0,dI 1]]]],dI 2,sl [[dI 1]],sl [[dI 1,dI 0,dI 2,dI 0,sl [],dI 3,dI 0,sl [],dI 0],[dI 2,dI 0,dI 3,dI 0,sl [[dI 0]],dI 0,dI 5,sl [],dI 3]],sl [[dI 17,dI 0,sl [[dI 1]]],[dI 4,dI 0,sl [[dI 2]]],[dI 3,dI 0,sl []],[dI 9,dI 0,sl [[dI 4],[dI 5]]],[dI 3,dI 0,sl []],[dI 3,dI 1,sl []],[dI 5,dI 0,sl [[dI 7]]],[dI 6,dI 5,sl []]],dI 6]:=by
  simp[exB,cI,Ds,Fact.op,Fact.arg,Fact.path,Fact.cls,Fact.n,Fact.ah]
 refine finC (S':=V) ⟨rfl,rfl⟩ (hw:=?_)
 rw[e]
 refine E7 ?_
 repeat' (first|exact A9 _|exact Am _ (.inl rfl)|exact trivial|refine HR _ ?_|refine⟨?_,?_⟩)
@[reducible,instance] def a46:=fun V=>ah0 (@Xi V)
theorem Qz(l:fD)(o:Own)(V:Sig):au prog 45 [.slice (cS l) o] V (rS (.agg (Bd (exA l))) V):=by
 refine en func45 ntmps45 ?_
 refine gz ?_ [] [2]
 refine newV (fun i hi=>?_)
 repeat' first|refine gz ?_ [] [2]|refine Aq (MA _ _ _ _ _) ?_|refine callP (MA _ _ _ _ _) ?_|refine Aq (K4 _ _ _) ?_|refine callP (K4 _ _ _) ?_|refine gz ?_ [] [2]|apply gy<;>intro hh
 have e:Bd (exA l)=[sl [[.str [97],sl [],sl [[.str [102]]],sl [[.str [102],dI 7]]],[.str [98],sl [[.str [97]]],sl [[.str [103]]],sl []],[.str [99],sl (cS l),sl [],sl [[.str [102],dI 1]]]],
   sl [[dI 1,.str [115,104,111,119],sl [[.str [120]]],dI 2,.str [120],sl [],.str [97],dI 0,sl [],dI 17,dI 0,.str [],sl [[dI 4,dI 0,.str [102],sl [Al (.mk 3 0 [120] [])]]]],
    [dI 2,.str [115,104,111,119],sl [[.str [121]]],dI 3,.str [121],sl [[.str [102]]],.str [],dI 5,sl [],dI 9,dI 0,.str [122],sl [Al (.mk 3 0 [121] []),Al (.mk 3 0 [122] [])]]],
   dI 5,dI 0,.str [115,104,111,119],sl [[dI 6,dI 0,.str [99],sl []]]]:=by
  simp[exA,cS,CB,CF,aC.op,aC.name,aC.path,aC.cls,aC.n,aC.ah,aB.op,aB.n,aB.text,aB.ah]
 refine finC (S':=V) ⟨rfl,rfl⟩ (hw:=?_)
 rw[e]
 refine E7 ?_
 repeat' (first|exact A9 _|exact Am _ (.inl rfl)|exact Ao _ _|exact Eh _|exact trivial|refine HR _ ?_|refine⟨?_,?_⟩)
def all2{α:Type}(f:α->α->Bool):List α->List α->Bool
 |x::l,y::m=>f x y&&all2 f l m
 |_,_=>true
theorem J0{α:Type}(f:α->α->Bool)(m:List α):all2 f [] m=true:=by rw[all2];intros;contradiction
def eqC(x y:ax):Bool:=x.ag==y.ag&&x.ae==y.ae&&decide (x.ai=y.ai)
def eqM(x y:ay):Bool:=decide (x.kind=y.kind)&&decide (x.gen=y.gen)&&decide (x.node=y.node)&&x.fact.beq y.fact
def eqN(x y:aA):Bool:=decide (x.op=y.op)&&decide (x.n=y.n)&&x.ah==y.ah
def Rt(p q:aw):Bool:=decide (p.ae=q.ae)&&decide (p.main=q.main)&&p.aj==q.aj&&decide (p.aa.length=q.aa.length)&&decide (p.methods.length=q.methods.length)&&decide (p.nodes.length=q.nodes.length)
def Hl(p q:aw):Bool:=Rt p q&&all2 eqC p.aa q.aa&&all2 eqM p.methods q.methods&&all2 eqN p.nodes q.nodes
theorem MK(p q:aw)(V:Sig)(hp:p.wt<=1073741824)(hq:q.wt<=1073741824):au prog 19 [.agg (Ai p),.agg (Ai q)] V (rS (.bool (Hl p q)) V):=by
 obtain⟨p1,p2,p3,p4,p5,p6,p7⟩:=p.wt_le
 obtain⟨q1,q2,q3,q4,q5,q6,q7⟩:=q.wt_le
 cases hd:Rt p q with
 |false=>
  have hS:Hl p q=false:=by unfold Hl;rw[hd];rfl
  rw[hS]
  refine en func19 ntmps19 ?_
  repeat' first|refine gz ?_ o19|apply gy<;>intro hh
  all_goals first|exact fin1 (S':=V) ⟨rfl,rfl⟩|(exfalso;unfold Rt at hd;simp_all;done)
 | true =>
  have hS:Hl p q=(all2 eqC p.aa q.aa&&all2 eqM p.methods q.methods&&all2 eqN p.nodes q.nodes):=by unfold Hl;rw[hd,aW]
  unfold Rt at hd
  simp only[aI,aL,cp]at hd
  obtain⟨⟨⟨⟨⟨e1,e2⟩,e3⟩,e4⟩,e5⟩,e6⟩:=hd
  rw[hS]
  refine en func19 ntmps19 ?_
  repeat' first|refine gz ?_ o19 [6,7,9,10,12,13]|apply gy<;>intro hh
  ·rw[e3]at hh;simp at hh
  generalize e7:(all2 eqC p.aa q.aa&&all2 eqM p.methods q.methods&&all2 eqN p.nodes q.nodes)=sameR
  have e7:=e7.symm
  refine B5 [2,3,8,9,10,11,12,13,100,101,102,103,104,105,106,107,108,109,110,111,112,113,114,115,116,117,118,119,120,121,122,123,124,125,126,127,128,129,130,131,132,133,134,135,136,137,138,139,140,141,142,143,144,145,146,147,148,149,150,151,152,153,154,155,156,157,158,159,160,161,162,163,164,165,166,167,168,169,170,171,172,173,174,175,176,177,178,179,180] (fun (k:Nat)=>k<=p.aa.length/\sameR=(all2 eqC (p.aa.drop k) (q.aa.drop k)&&all2 eqM p.methods q.methods&&all2 eqN p.nodes q.nodes)) (fun k=>[(5,dI k)]) (fun _=>V) (fun k=>p.aa.length-k) (0) (by simp[e7]) (fun k hI=>?_)
  obtain⟨hk,hR⟩:=hI
  by_cases d6:k<p.aa.length
  ·have fL:k<q.aa.length:=by omega
   have w1:=p5 k d6
   have w2:=q5 k fL
   rw[A2 d6,A2 fL,all2]at hR
   refine gz ?_ (delO 6 o19) [6,7,9,10,12,13]
   refine mixA (id:=6) [0,1,2,3,4,5,6,7,8,9,10,11,12,13] [12,13] ?_
   refine Az (d:=.am (Ai p) 0) Af rfl tdR tdR (by first|with_unfolding_all rfl|(simp;done)|(simp;rfl)) ?_
   refine Az (d:=sl (p.aa.map cBClass)) Af rfl tdR tdR (by first|with_unfolding_all rfl|(simp;done)|(simp;rfl)) ?_
   refine Az (d:=dI k) Af rfl tdR tdR (by first|with_unfolding_all rfl|(simp;done)|(simp;rfl)) ?_
   refine Az (d:=.am (cBClass p.aa[k]) 0) Af rfl tdR tdR (by first|with_unfolding_all rfl|(simp[d6];done)|(simp[d6];rfl)) ?_
   refine Az (d:=.agg (cBClass p.aa[k])) Af rfl tdR tdR (by first|with_unfolding_all rfl|(simp;done)|(simp;rfl)) ?_
   refine Az (d:=.am (Ai q) 0) Af rfl tdR tdR (by first|with_unfolding_all rfl|(simp;done)|(simp;rfl)) ?_
   refine Az (d:=sl (q.aa.map cBClass)) Af rfl tdR tdR (by first|with_unfolding_all rfl|(simp;done)|(simp;rfl)) ?_
   refine Az (d:=dI k) Af rfl tdR tdR (by first|with_unfolding_all rfl|(simp;done)|(simp;rfl)) ?_
   refine Az (d:=.am (cBClass q.aa[k]) 0) Af rfl tdR tdR (by first|with_unfolding_all rfl|(simp[fL];done)|(simp[fL];rfl)) ?_
   refine Az (d:=.agg (cBClass q.aa[k])) Af rfl tdR tdR (by first|with_unfolding_all rfl|(simp;done)|(simp;rfl)) ?_
   refine EL (fun i6 d8=>?_)
   refine EL (fun i7 d9=>?_)
   refine FL (by rfl) ?_
   have hz:(tab 101).zero=[.ak,.ak,.ak]:=by(simp<;>rfl)
   rw[hz]at d9⊢
   have n67:i6≠i7:=fun e=>by rw[<-e,w7]at d9;cases d9
   have i70:=(A4 d9).2
   have e8:Sub V (((V.set i6 (.cells [.ak,.ak,.ak])).set i7 (.cells [.ak,.ak,.ak])).set i6 (.cells (cBClass p.aa[k]))):=(((Sub.refl _).set d8).set i70).set d8
   have d7:Sub V ((((V.set i6 (.cells [.ak,.ak,.ak])).set i7 (.cells [.ak,.ak,.ak])).set i6 (.cells (cBClass p.aa[k]))).set i7 (.cells (cBClass q.aa[k]))):=e8.set i70
   simp only[cBClass]at e8 d7
   unfold ax.wt at w1 w2
   repeat' first|refine gz ?_ o19 [6,7,9,10,12,13]|apply gy<;>intro hh
   ·have hE:eqC p.aa[k] q.aa[k]=false:=by unfold eqC;clear e8 d7 hR d8 d9 hz i70 w1 w2 p5 p6 p7 q5 q6 q7 e7 hS e1 e2 e3 e4 e5 e6;simp_all
    rw[hE]at hR
    simp only[bi]at hR
    rw[hR]
    exact fin1 (S':=V) ⟨rfl,rfl⟩ (hZ:=d7)
   ·have hE:eqC p.aa[k] q.aa[k]=false:=by unfold eqC;clear e8 d7 hR d8 d9 hz i70 w1 w2 p5 p6 p7 q5 q6 q7 e7 hS e1 e2 e3 e4 e5 e6;simp_all
    rw[hE]at hR
    simp only[bi]at hR
    rw[hR]
    exact fin1 (S':=V) ⟨rfl,rfl⟩ (hZ:=d7)
   ·have hE:eqC p.aa[k] q.aa[k]=false:=by unfold eqC;clear e8 d7 hR d8 d9 hz i70 w1 w2 p5 p6 p7 q5 q6 q7 e7 hS e1 e2 e3 e4 e5 e6;simp_all
    rw[hE]at hR
    simp only[bi]at hR
    rw[hR]
    exact fin1 (S':=V) ⟨rfl,rfl⟩ (hZ:=d7)
   ·have hE:eqC p.aa[k] q.aa[k]=true:=by unfold eqC;clear e8 d7 hR d8 d9 hz i70 w1 w2 p5 p6 p7 q5 q6 q7 e7 hS e1 e2 e3 e4 e5 e6;simp_all
    rw[hE,aW]at hR
    have fJ:=d7
    exact⟨k+1,⟨by omega,hR⟩,td1,wkR⟩
  ·rw [A1 d6,J0] at hR
   try simp only[aW]at hR
   have e7:=hR
   clear hR
   refine gz ?_ o19 [6,7,9,10,12,13]
   refine B5 [2,3,11,12,13,144,145,146,147,148,149,150,151,152,153,154,155,156,157,158,159,160,161,162,163,164,165,166,167,168,169,170,171,172,173,174,175,176,177,178,179,180] (fun (k:Nat)=>k<=p.methods.length/\sameR=(all2 eqM (p.methods.drop k) (q.methods.drop k)&&all2 eqN p.nodes q.nodes)) (fun k=>[(8,dI k)]) (fun _=>V) (fun k=>p.methods.length-k) (0) (by simp[e7]) (fun k hI=>?_)
   obtain⟨hk,hR⟩:=hI
   by_cases d6:k<p.methods.length
   ·have fL:k<q.methods.length:=by omega
    have w1:=p6 k d6
    have w2:=q6 k fL
    rw[A2 d6,A2 fL,all2]at hR
    refine gz ?_ (delO 12 o19) [6,7,9,10,12,13]
    refine mixA (id:=12) [0,1,2,3,4,5,6,7,8,9,10,11,12,13] [12,13] ?_
    refine Az (d:=.am (Ai p) 3) Af rfl tdR tdR (by first|with_unfolding_all rfl|(simp;done)|(simp;rfl)) ?_
    refine Az (d:=sl (p.methods.map Ag)) Af rfl tdR tdR (by first|with_unfolding_all rfl|(simp;done)|(simp;rfl)) ?_
    refine Az (d:=dI k) Af rfl tdR tdR (by first|with_unfolding_all rfl|(simp;done)|(simp;rfl)) ?_
    refine Az (d:=.am (Ag p.methods[k]) 0) Af rfl tdR tdR (by first|with_unfolding_all rfl|(simp[d6];done)|(simp[d6];rfl)) ?_
    refine Az (d:=.agg (Ag p.methods[k])) Af rfl tdR tdR (by first|with_unfolding_all rfl|(simp;done)|(simp;rfl)) ?_
    refine Az (d:=.am (Ai q) 3) Af rfl tdR tdR (by first|with_unfolding_all rfl|(simp;done)|(simp;rfl)) ?_
    refine Az (d:=sl (q.methods.map Ag)) Af rfl tdR tdR (by first|with_unfolding_all rfl|(simp;done)|(simp;rfl)) ?_
    refine Az (d:=dI k) Af rfl tdR tdR (by first|with_unfolding_all rfl|(simp;done)|(simp;rfl)) ?_
    refine Az (d:=.am (Ag q.methods[k]) 0) Af rfl tdR tdR (by first|with_unfolding_all rfl|(simp[fL];done)|(simp[fL];rfl)) ?_
    refine Az (d:=.agg (Ag q.methods[k])) Af rfl tdR tdR (by first|with_unfolding_all rfl|(simp;done)|(simp;rfl)) ?_
    refine EL (fun i6 d8=>?_)
    refine EL (fun i7 d9=>?_)
    refine FL (by rfl) ?_
    have hz:(tab 98).zero=[dI 0,dI 0,dI 0,dI 0,.ak,dI 0,dI 0,.ak,dI 0]:=by(simp<;>rfl)
    rw[hz]at d9⊢
    have n67:i6≠i7:=fun e=>by rw[<-e,w7]at d9;cases d9
    have i70:=(A4 d9).2
    have e8:Sub V (((V.set i6 (.cells [dI 0,dI 0,dI 0,dI 0,.ak,dI 0,dI 0,.ak,dI 0])).set i7 (.cells [dI 0,dI 0,dI 0,dI 0,.ak,dI 0,dI 0,.ak,dI 0])).set i6 (.cells (Ag p.methods[k]))):=(((Sub.refl _).set d8).set i70).set d8
    have d7:Sub V ((((V.set i6 (.cells [dI 0,dI 0,dI 0,dI 0,.ak,dI 0,dI 0,.ak,dI 0])).set i7 (.cells [dI 0,dI 0,dI 0,dI 0,.ak,dI 0,dI 0,.ak,dI 0])).set i6 (.cells (Ag p.methods[k]))).set i7 (.cells (Ag q.methods[k]))):=e8.set i70
    simp only[Ag,Ds,bl,br]at e8 d7
    unfold ay.wt at w1 w2
    repeat' first|refine gz ?_ o19 [6,7,9,10,12,13]|apply gy<;>intro hh
    ·have hE:eqM p.methods[k] q.methods[k]=false:=by unfold eqM;clear e8 d7 hR d8 d9 hz i70 w1 w2 p5 p6 p7 q5 q6 q7 e7 hS e1 e2 e3 e4 e5 e6;simp_all
     rw[hE]at hR
     simp only[bi]at hR
     rw[hR]
     exact fin1 (S':=V) ⟨rfl,rfl⟩ (hZ:=d7)
    ·have hE:eqM p.methods[k] q.methods[k]=false:=by unfold eqM;clear e8 d7 hR d8 d9 hz i70 w1 w2 p5 p6 p7 q5 q6 q7 e7 hS e1 e2 e3 e4 e5 e6;simp_all
     rw[hE]at hR
     simp only[bi]at hR
     rw[hR]
     exact fin1 (S':=V) ⟨rfl,rfl⟩ (hZ:=d7)
    ·have hE:eqM p.methods[k] q.methods[k]=false:=by unfold eqM;clear e8 d7 hR d8 d9 hz i70 w1 w2 p5 p6 p7 q5 q6 q7 e7 hS e1 e2 e3 e4 e5 e6;simp_all
     rw[hE]at hR
     simp only[bi]at hR
     rw[hR]
     exact fin1 (S':=V) ⟨rfl,rfl⟩ (hZ:=d7)
    ·have hE:eqM p.methods[k] q.methods[k]=false:=by unfold eqM;clear e8 d7 hR d8 d9 hz i70 w1 w2 p5 p6 p7 q5 q6 q7 e7 hS e1 e2 e3 e4 e5 e6;simp_all
     rw[hE]at hR
     simp only[bi]at hR
     rw[hR]
     exact fin1 (S':=V) ⟨rfl,rfl⟩ (hZ:=d7)
    ·have hE:eqM p.methods[k] q.methods[k]=true:=by unfold eqM;clear e8 d7 hR d8 d9 hz i70 w1 w2 p5 p6 p7 q5 q6 q7 e7 hS e1 e2 e3 e4 e5 e6;simp_all
     rw[hE,aW]at hR
     have fJ:=d7
     exact⟨k+1,⟨by omega,hR⟩,td1,wkR⟩
   ·rw[A1 d6,J0]at hR
    try simp only[aW]at hR
    have e7:=hR
    clear hR
    refine gz ?_ o19 [6,7,9,10,12,13]
    refine B5 [2,3] (fun (k:Nat)=>k<=p.nodes.length/\sameR=(all2 eqN (p.nodes.drop k) (q.nodes.drop k))) (fun k=>[(11,dI k)]) (fun _=>V) (fun k=>p.nodes.length-k) (0) (by simp[e7]) (fun k hI=>?_)
    obtain⟨hk,hR⟩:=hI
    by_cases d6:k<p.nodes.length
    ·have fL:k<q.nodes.length:=by omega
     have w1:=p7 k d6
     have w2:=q7 k fL
     rw[A2 d6,A2 fL,all2]at hR
     refine gz ?_ (delO 18 o19) [6,7,9,10,12,13]
     refine mixA (id:=18) [0,1,2,3,4,5,6,7,8,9,10,11,12,13] [12,13] ?_
     refine Az (d:=.am (Ai p) 4) Af rfl tdR tdR (by first|with_unfolding_all rfl|(simp;done)|(simp;rfl)) ?_
     refine Az (d:=sl (p.nodes.map Ab)) Af rfl tdR tdR (by first|with_unfolding_all rfl|(simp;done)|(simp;rfl)) ?_
     refine Az (d:=dI k) Af rfl tdR tdR (by first|with_unfolding_all rfl|(simp;done)|(simp;rfl)) ?_
     refine Az (d:=.am (Ab p.nodes[k]) 0) Af rfl tdR tdR (by first|with_unfolding_all rfl|(simp[d6];done)|(simp[d6];rfl)) ?_
     refine Az (d:=.agg (Ab p.nodes[k])) Af rfl tdR tdR (by first|with_unfolding_all rfl|(simp;done)|(simp;rfl)) ?_
     refine Az (d:=.am (Ai q) 4) Af rfl tdR tdR (by first|with_unfolding_all rfl|(simp;done)|(simp;rfl)) ?_
     refine Az (d:=sl (q.nodes.map Ab)) Af rfl tdR tdR (by first|with_unfolding_all rfl|(simp;done)|(simp;rfl)) ?_
     refine Az (d:=dI k) Af rfl tdR tdR (by first|with_unfolding_all rfl|(simp;done)|(simp;rfl)) ?_
     refine Az (d:=.am (Ab q.nodes[k]) 0) Af rfl tdR tdR (by first|with_unfolding_all rfl|(simp[fL];done)|(simp[fL];rfl)) ?_
     refine Az (d:=.agg (Ab q.nodes[k])) Af rfl tdR tdR (by first|with_unfolding_all rfl|(simp;done)|(simp;rfl)) ?_
     refine EL (fun i6 d8=>?_)
     refine EL (fun i7 d9=>?_)
     refine FL (by rfl) ?_
     have hz:(tab 104).zero=[dI 0,dI 0,.ak]:=by(simp<;>rfl)
     rw[hz]at d9⊢
     have n67:i6≠i7:=fun e=>by rw[<-e,w7]at d9;cases d9
     have i70:=(A4 d9).2
     have e8:Sub V (((V.set i6 (.cells [dI 0,dI 0,.ak])).set i7 (.cells [dI 0,dI 0,.ak])).set i6 (.cells (Ab p.nodes[k]))):=(((Sub.refl _).set d8).set i70).set d8
     have d7:Sub V ((((V.set i6 (.cells [dI 0,dI 0,.ak])).set i7 (.cells [dI 0,dI 0,.ak])).set i6 (.cells (Ab p.nodes[k]))).set i7 (.cells (Ab q.nodes[k]))):=e8.set i70
     simp only[Ab]at e8 d7
     unfold aA.wt at w1 w2
     repeat' first|refine gz ?_ o19 [6,7,9,10,12,13]|apply gy<;>intro hh
     ·have hE:eqN p.nodes[k] q.nodes[k]=false:=by unfold eqN;clear e8 d7 hR d8 d9 hz i70 w1 w2 p5 p6 p7 q5 q6 q7 e7 hS e1 e2 e3 e4 e5 e6;simp_all
      rw[hE]at hR
      simp only[bi]at hR
      rw[hR]
      exact fin1 (S':=V) ⟨rfl,rfl⟩ (hZ:=d7)
     ·have hE:eqN p.nodes[k] q.nodes[k]=false:=by unfold eqN;clear e8 d7 hR d8 d9 hz i70 w1 w2 p5 p6 p7 q5 q6 q7 e7 hS e1 e2 e3 e4 e5 e6;simp_all
      rw[hE]at hR
      simp only[bi]at hR
      rw[hR]
      exact fin1 (S':=V) ⟨rfl,rfl⟩ (hZ:=d7)
     ·have hE:eqN p.nodes[k] q.nodes[k]=false:=by unfold eqN;clear e8 d7 hR d8 d9 hz i70 w1 w2 p5 p6 p7 q5 q6 q7 e7 hS e1 e2 e3 e4 e5 e6;simp_all
      rw[hE]at hR
      simp only[bi]at hR
      rw[hR]
      exact fin1 (S':=V) ⟨rfl,rfl⟩ (hZ:=d7)
     ·have hE:eqN p.nodes[k] q.nodes[k]=true:=by unfold eqN;clear e8 d7 hR d8 d9 hz i70 w1 w2 p5 p6 p7 q5 q6 q7 e7 hS e1 e2 e3 e4 e5 e6;simp_all
      rw[hE,aW]at hR
      have fJ:=d7
      exact⟨k+1,⟨by omega,hR⟩,td1,wkR⟩
    ·rw[A1 d6,J0]at hR
     try simp only[aW]at hR
     have e7:=hR
     clear hR
     refine gz ?_ o19 [6,7,9,10,12,13]
     rw[e7]
     exact fin1 (S':=V) ⟨rfl,rfl⟩
@[reducible,instance] def a19:=fun p q V=>ah2 (@MK p q V)
mutual
def AllX(Q:aB->Prop):aB->Prop
 |.mk o n t k=>Q (.mk o n t k)/\Eg Q k
def Eg(Q:aB->Prop):List aB->Prop
 |[]=>True
 |x::r=>AllX Q x/\Eg Q r
end
mutual
def argE(gm:List (Str×Int)):aB->fF->fF
 |.mk o _ t k,a=>EW gm k (if o=5 then a.set (getM 0 t gm).toNat k.length else a)
def EW(gm:List (Str×Int)):List aB->fF->fF
 |[],a=>a
 |x::r,a=>EW gm r (argE gm x a)
end
theorem Wm(gm:List (Str×Int))(e:aB)(a:fF):argE gm e a=EW gm e.ah (if e.op=5 then a.set (getM 0 e.text gm).toNat e.ah.length else a):=by cases e;rw[argE];rfl
theorem AllX_eq(Q:aB->Prop)(e:aB):AllX Q e ↔ Q e/\Eg Q e.ah:=by cases e;rw[AllX];rfl
mutual
theorem Dt(gm:List (Str×Int)): ∀(e:aB) (a:fF),(argE gm e a).length=a.length
 |.mk o n t k,a=>by rw[argE,P0 gm k];split<;>simp
theorem P0(gm:List (Str×Int)): ∀(l:List aB) (a:fF),(EW gm l a).length=a.length
 |[],a=>by rw[EW]
 |x::r,a=>by rw[EW,P0 gm r,Dt gm x]
end
def QA(gm:List (Str×Int))(N:Nat)(x:aB):Prop:=x.op=5->0<=getM 0 x.text gm/\getM 0 x.text gm<N
theorem Lw(gm:List (Str×Int))(N ia r ig i6:Nat): ∀(n:Nat) (e:aB) (a:fF) (V:Sig),e.wt<=n->n<=1073741824->AllX (QA gm N) e->a.length=N->N<=1073741824->
  V ia=some (.cells [.ap r 0 N N])->V r=some (.cells (a.map dI))->V ig=some (.map (eSN gm))->V i6=some (.cells [.func (.func 193) [] [.ptr ia 0,.am [.map ig] 0,.ptr i6 0]])->ia≠r->i6≠r->
  au prog 193 [.agg (Al e),.ptr ia 0,.am [.map ig] 0,.ptr i6 0] V fun x S'=>x=.ret (.tup [])/\S'=V.set r (.cells ((argE gm e a).map dI)):=by
 intro n
 induction n with
 |zero=>
  intro e a V hx
  have:=e.wt_pos
  omega
 | succ n ih =>
  intro e a V hx hn hQ gr hN o1 o2 o3 o4 d1 d2
  obtain⟨w1,w2,gn⟩:=e.wt_le
  obtain⟨q1,q2⟩:=(AllX_eq _ _).1 hQ
  have d3:ig≠r:=A7 o3 o2 (by simp)
  refine en func193 ntmps193 ?_
  by_cases h5:e.op=5
  ·obtain⟨p1,p2⟩:=q1 h5
   obtain⟨p,hp⟩:∃p:Nat,getM 0 e.text gm=p:=⟨(getM 0 e.text gm).toNat,by omega⟩
   have g6:p<N:=by omega
   obtain⟨A,hA⟩:∃A,A=a.set p e.ah.length:=⟨_,rfl⟩
   have gb:A.length=N:=by rw[hA,ce];exact gr
   have gF:argE gm e a=EW gm e.ah A:=by rw[Wm,aS h5,hA,hp];rfl
   have fJ:Sub (V.set r (.cells (A.map dI))) (V.set r (.cells (List.take p (List.map dI a)++D.int IntKind.i64 e.ah.length::List.drop (p+1) (List.map dI a)))):=by
    rw[hA,eH,cr,aS (by rw[aZ];omega)];exact Sub.refl _
   refine gf (gi o1 (gi o2 (gi o3 (gi o4 (gi h5 hp))))) ?_
   refine AB [3,20,21] (fun (k:Nat) (b:fF)=>k<=e.ah.length/\b.length=N/\EW gm e.ah A=EW gm (e.ah.drop k) b/\Eg (QA gm N) (e.ah.drop k)) (fun k _=>[(22,dI k)]) (fun _ b=>V.set r (.cells (b.map dI))) (fun k _=>e.ah.length-k) (0) (A) (by exact⟨by omega,gb,rfl,q2⟩) (fun k b hI=>?_)
   obtain⟨hk,hb,hR,f6⟩:=hI
   by_cases d6:k<e.ah.length
   ·rw[A2 d6,EW]at hR
    rw[A2 d6,Eg]at f6
    have u1:(V.set r (.cells (b.map dI))) ia=some (.cells [.ap r 0 N N]):=by rw[w8 _ _ d1];exact o1
    have u3:(V.set r (.cells (b.map dI))) ig=some (.map (eSN gm)):=by rw[w8 _ _ d3];exact o3
    have u4:(V.set r (.cells (b.map dI))) i6=some (.cells [.func (.func 193) [] [.ptr ia 0,.am [.map ig] 0,.ptr i6 0]]):=by rw[w8 _ _ d2];exact o4
    refine gf o4 ?_
    refine Ac (ih e.ah[k] b _ (by have:=gn k d6;omega) (by omega) f6.1 hb hN u1 (w7 ..) u3 u4 d1 d2) (fun d S' hr=>?_) (fun d S' hr=>by cases hr.1)
    obtain⟨g1,rfl⟩:=hr
    cases g1
    refine gz ?_
    exact⟨k+1,argE gm e.ah[k] b,⟨by omega,by rw[Dt];exact hb,hR,f6.2⟩,td1,wkR⟩
   ·rw[A1 d6,EW]at hR
    refine gz ?_
    exact Ef (S':=V.set r (.cells ((argE gm e a).map dI))) ⟨rfl,rfl⟩ (by rw[gF,hR];exact Sub.refl _)
  ·obtain⟨A,hA⟩:∃A,A=a:=⟨_,rfl⟩
   have gF:argE gm e a=EW gm e.ah A:=by rw[Wm,aN h5,hA]
   have gb:A.length=N:=by rw[hA];exact gr
   have fJ:Sub (V.set r (.cells (A.map dI))) V:=by rw[hA,Sig.set_self _ o2];exact Sub.refl _
   refine gf (gi o1 (gi o2 (gi o3 (gi o4 h5)))) ?_
   refine AB [3,20,21] (fun (k:Nat) (b:fF)=>k<=e.ah.length/\b.length=N/\EW gm e.ah A=EW gm (e.ah.drop k) b/\Eg (QA gm N) (e.ah.drop k)) (fun k _=>[(22,dI k)]) (fun _ b=>V.set r (.cells (b.map dI))) (fun k _=>e.ah.length-k) (0) (A) (by exact⟨by omega,gb,rfl,q2⟩) (fun k b hI=>?_)
   obtain⟨hk,hb,hR,f6⟩:=hI
   by_cases d6:k<e.ah.length
   ·rw[A2 d6,EW]at hR
    rw[A2 d6,Eg]at f6
    have u1:(V.set r (.cells (b.map dI))) ia=some (.cells [.ap r 0 N N]):=by rw[w8 _ _ d1];exact o1
    have u3:(V.set r (.cells (b.map dI))) ig=some (.map (eSN gm)):=by rw[w8 _ _ d3];exact o3
    have u4:(V.set r (.cells (b.map dI))) i6=some (.cells [.func (.func 193) [] [.ptr ia 0,.am [.map ig] 0,.ptr i6 0]]):=by rw[w8 _ _ d2];exact o4
    refine gf o4 ?_
    refine Ac (ih e.ah[k] b _ (by have:=gn k d6;omega) (by omega) f6.1 hb hN u1 (w7 ..) u3 u4 d1 d2) (fun d S' hr=>?_) (fun d S' hr=>by cases hr.1)
    obtain⟨g1,rfl⟩:=hr
    cases g1
    refine gz ?_
    exact⟨k+1,argE gm e.ah[k] b,⟨by omega,by rw[Dt];exact hb,hR,f6.2⟩,td1,wkR⟩
   ·rw[A1 d6,EW]at hR
    refine gz ?_
    exact Ef (S':=V.set r (.cells ((argE gm e a).map dI))) ⟨rfl,rfl⟩ (by rw[gF,hR];exact Sub.refl _)
def argM(gm:List (Str×Int)):List aE->fF->fF
 |[],a=>a
 |m::r,a=>argM gm r (argE gm m.body (a.set (getM 0 m.name gm).toNat m.params.length))
def H3(gm:List (Str×Int))(f:aF):fF:=argE gm f.main (argM gm f.methods (List.replicate gm.length 0))
theorem IZ(gm:List (Str×Int)): ∀(l:List aE) (a:fF),(argM gm l a).length=a.length
 |[],a=>rfl
 |m::r,a=>by rw[argM,IZ gm r,Dt,ce]
theorem Sm(f:aF)(gm:List (Str×Int))(ig:Nat)(V:Sig)(hw:f.wt<=1073741824)(hg:gm.length<=1073741824)(o3:V ig=some (.map (eSN gm)))
  (hM:∀m∈f.methods,(0<=getM 0 m.name gm/\getM 0 m.name gm<gm.length)/\AllX (QA gm gm.length) m.body) (hA:AllX (QA gm gm.length) f.main) :
  au prog 104 [.agg (Bd f),.map ig] V fun x S'=> ∃r,V r=none/\x=.ret (.ap r 0 gm.length gm.length)/\S'=V.set r (.cells ((H3 gm f).map dI)):=by
 obtain⟨p1,p2,p3,p4,p5⟩:=f.wt_le
 have iy:(eSN gm).length=gm.length:=by simp[eSN,eM]
 refine en func104 ntmps104 ?_
 refine gf (gi o3 iy) ?_ [] [5,6]
 refine TD (k:=gm.length) (c:=gm.length) (z:=[dI 0]) (sz:=1) (fun r hr hm=>?_)
 have ij:mS V (some (r,gm.length,(List.replicate (gm.length-gm.length) [dI 0]).flatten)) (List.replicate gm.length [dI 0])=V.set r (.cells ((List.replicate gm.length (0:Int)).map dI)):=by
  have h1:(List.replicate gm.length [dI 0]).flatten=(List.replicate gm.length (0:Int)).map dI:=by
   rw[List.map_replicate]
   induction gm.length with
   |zero=>rfl
   |succ n ih=>rw[cO,cy,ih,cO];rfl
  simp only[mS,eg,eV,eB,bb,h1]
 rw[ij]
 generalize gV:List.replicate gm.length (0:Int)=a0
 have gr:a0.length=gm.length:=by rw[<-gV];simp
 refine newV (fun ia ga=>?_)
 refine gz ?_ [] [5,6]
 refine newV (fun i6 d8=>?_)
 refine gz ?_ [] [5,6]
 have n1:ia≠r:=fun e=>by rw[e,w7]at ga;cases ga
 have n2:i6≠ia:=fun e=>by rw[e,w7]at d8;cases d8
 have n3:i6≠r:=fun e=>by rw[e,w8 _ _ (aQ n1),w7]at d8;cases d8
 have n4:ig≠r:=fun e=>by rw[e,hr]at o3;cases o3
 have n5:ig≠ia:=fun e=>by rw[<-e,w8 _ _ n4,o3]at ga;cases ga
 have n6:ig≠i6:=fun e=>by rw[<-e,w8 _ _ n5,w8 _ _ n4,o3]at d8;cases d8
 generalize fR:((V.set r _).set ia _).set i6 _=S1
 have q1:S1 ia=some (.cells [.ap r 0 gm.length gm.length]):=by rw[<-fR,w8 _ _ (aQ n2),w7]
 have q2:S1 r=some (.cells (a0.map dI)):=by rw[<-fR,w8 _ _ (aQ n3),w8 _ _ (aQ n1),w7]
 have q3:S1 ig=some (.map (eSN gm)):=by rw[<-fR,w8 _ _ n6,w8 _ _ n5,w8 _ _ n4];exact o3
 have q4:S1 i6=some (.cells [.func (.func 193) [] [.ptr ia 0,.am [.map ig] 0,.ptr i6 0]]):=by rw[<-fR,w7]
 have gG:∀b:fF,Sub (V.set r (.cells (b.map dI))) (S1.set r (.cells (b.map dI))):=fun b j x hj=>by
  by_cases e:j=r
  ·rw[e,w7]at hj⊢; exact hj
  ·rw[w8 _ _ e]at hj⊢
   have z1:j≠ia:=fun e2=>by rw[<-e2,w8 _ _ e,hj]at ga;cases ga
   have z2:j≠i6:=fun e2=>by rw[<-e2,w8 _ _ z1,w8 _ _ e,hj]at d8;cases d8
   rw[<-fR,w8 _ _ z2,w8 _ _ z1,w8 _ _ e];exact hj
 have gL:Sub (S1.set r (.cells (a0.map dI))) S1:=by rw[Sig.set_self _ q2];exact Sub.refl _
 have u1:∀X,(S1.set r X) ia=some (.cells [.ap r 0 gm.length gm.length]):=fun X=>by rw[w8 _ _ n1];exact q1
 have u3:∀X,(S1.set r X) ig=some (.map (eSN gm)):=fun X=>by rw[w8 _ _ n4];exact q3
 have u4:∀X,(S1.set r X) i6=some (.cells [.func (.func 193) [] [.ptr ia 0,.am [.map ig] 0,.ptr i6 0]]):=fun X=>by rw[w8 _ _ n3];exact q4
 refine AB [2,3,4,5,6,14,15,34,35,36,37,38] (fun (k:Nat) (b:fF)=>k<=f.methods.length/\b.length=gm.length/\argM gm f.methods a0=argM gm (f.methods.drop k) b) (fun k _=>[(16,dI k)]) (fun _ b=>S1.set r (.cells (b.map dI))) (fun k _=>f.methods.length-k) (0) (a0) (by exact⟨by omega,gr,rfl⟩) (fun k b hI=>?_)
 obtain⟨hk,hb,hR⟩:=hI
 by_cases d6:k<f.methods.length
 ·rw[A2 d6,argM]at hR
  obtain⟨⟨g1,g2⟩,g3⟩:=hM _ (aJ d6)
  obtain⟨p,hp⟩:∃p:Nat,getM 0 f.methods[k].name gm=p:=⟨(getM 0 f.methods[k].name gm).toNat,by omega⟩
  have g6:p<gm.length:=by omega
  have gW:=p5 k d6
  have gX:f.methods[k].body.wt<=1073741824/\f.methods[k].params.length<=1073741824:=by have:=gW;unfold aE.wt at this;have:=Bb f.methods[k].params;omega
  have iB:(List.take p (List.map dI b)++D.int IntKind.i64 f.methods[k].params.length::List.drop (p+1) (List.map dI b))=(b.set p f.methods[k].params.length).map dI:=by
   rw[eH,cr,aS (by rw[aZ];omega)]
  rw[hp]at hR
  refine gf (gi q1 (gi q3 (gi q4 (gi hp iB)))) ?_ [] [5,6]
  refine Ac (Lw gm gm.length ia r ig i6 _ f.methods[k].body (b.set p f.methods[k].params.length) _ (bm _) gX.1 g3 (by rw[ce];exact hb) hg (u1 _) (by rw[w7,eH]) (u3 _) (u4 _) n1 n3) (fun d S' hr=>?_) (fun d S' hr=>by cases hr.1)
  obtain⟨e1,rfl⟩:=hr
  cases e1
  refine gz ?_ [] [5,6]
  exact⟨k+1,argE gm f.methods[k].body (b.set p f.methods[k].params.length),⟨by omega,by rw[Dt,ce];exact hb,hR⟩,td1,wkR⟩
 ·rw[A1 d6,argM]at hR
  refine gf (gi q1 q4) ?_ [] [5,6]
  refine Ac (Lw gm gm.length ia r ig i6 _ f.main b _ (bm _) (by omega) hA hb hg (u1 _) (w7 ..) (u3 _) (u4 _) n1 n3) (fun d S' hr=>?_) (fun d S' hr=>by cases hr.1)
  obtain⟨e1,rfl⟩:=hr
  cases e1
  refine gf q1 ?_ [] [5,6]
  refine fin1 (S':=V.set r (.cells ((H3 gm f).map dI))) ⟨r,hr,rfl,rfl⟩ ?_
  rw[w9]
  unfold H3
  rw[gV,hR]
  exact gG _
theorem RowAt.ap{V:Sig}{sz:Nat}{st:MR}{es:fH}(h:RowAt V sz st es)(hne:es≠[]): ∃r c, ∀n,mD st n=.ap r 0 n c:=by
 rcases st with _|⟨i,cap,rest⟩
 ·exact absurd h hne
 ·exact⟨i,cap,fun _=>rfl⟩
def aB.cnt(e:aB):Nat:=(allE e).length
def bndN(cm sm gm:List (Str×Int))(o n:Int)(t:Str)(env:Str->Int):Int:=
 if o=3 then env t else if o=4\/o=7 then getM 0 t sm else if o=5 then getM 0 t gm else if o=6\/o=8 then getM 0 t cm else n
def CW:List aB->Nat->fF
 |[],_=>[]
 |x::r,k=>(k:Int)::CW r (k+x.cnt)
mutual
def bndE(cm sm gm:List (Str×Int)):aB->(Str->Int)->Int->Nat->List aA
 |.mk o n t l,env,size,k=>⟨o,bndN cm sm gm o n t env,CW l (k+1)⟩::GA cm sm gm o t l 0 env size (k+1)
def GA(cm sm gm:List (Str×Int))(o:Int)(t:Str):List aB->Nat->(Str->Int)->Int->Nat->List aA
 |[],_,_,_,_=>[]
 |x::r,i,env,size,k=>(if o=9/\i=1 then bndE cm sm gm x (updE env t size) (size+1) k else bndE cm sm gm x env size k)++GA cm sm gm o t r (i+1) env size (k+x.cnt)
end
section
variable {cm sm gm:List (Str×Int)}
theorem bndE_eq(e:aB)(env:Str->Int)(size:Int)(k:Nat):bndE cm sm gm e env size k=⟨e.op,bndN cm sm gm e.op e.n e.text env,CW e.ah (k+1)⟩::GA cm sm gm e.op e.text e.ah 0 env size (k+1):=by cases e;rw[bndE];rfl
mutual
theorem Gu: ∀(e:aB) (env:Str->Int) (size:Int) (k:Nat),(bndE cm sm gm e env size k).length=e.cnt
 |.mk o n t l,env,size,k=>by
  rw[bndE,aP,OY o t l,aB.cnt,allE];simp
theorem OY(o:Int)(t:Str): ∀(l:List aB) (i:Nat) (env:Str->Int) (size:Int) (k:Nat),(GA cm sm gm o t l i env size k).length=(Bg l).length
 |[],_,_,_,_=>by rw[GA,Bg];rfl
 |x::r,i,env,size,k=>by
  rw[GA,Bg,aH,aH,OY o t r]
  split
  ·rw[Gu x];rfl
  ·rw[Gu x];rfl
end
end
theorem aB.cnt_le(e:aB):e.cnt<=e.wt:=Er e
structure BS(ib ia is ig:Nat)(a b c d f:D)(cm sm gm:List (Str×Int))(st:MR)(ns:List aA)(V:Sig):Prop where
 env:V ib=some (.cells [a,b,c,d,mD st ns.length,f,.map ia,.map is,.map ig])
 oa:V ia=some (.map (eSN cm))
 os:V is=some (.map (eSN sm))
 og:V ig=some (.map (eSN gm))
 row:RowAt V 3 st (ns.map Ab)
 nr:¬Bt st ib
def BK(ib:Nat)(V:Sig)(st:MR)(S':Sig)(st':MR):Prop:= ∀j o,V j=some o->j≠ib->¬Bt st j->S' j=some o /\ ¬Bt st' j
theorem BK.trans{ib:Nat}{V S1 S2:Sig}{st st1 st2:MR}(h:BK ib V st S1 st1)(k:BK ib S1 st1 S2 st2):BK ib V st S2 st2:=fun j o hj hi hn=>k j o (h j o hj hi hn).1 hi (h j o hj hi hn).2
theorem BK.refl(ib:Nat)(V:Sig)(st:MR):BK ib V st V st:=fun j o h _ hn=>⟨h,hn⟩
theorem BK.fresh{ib:Nat}{V S1:Sig}{st st1:MR}{k:Nat}{o:DObj}(h:BK ib V st S1 st1)(hk:S1 k=none):BK ib V st (S1.set k o) st1:=fun j x hj hi hn=>by
 obtain⟨h1,h2⟩:=h j x hj hi hn
 exact⟨by rw[w8 _ _ (A0 h1 hk)];exact h1,h2⟩
section
variable {ib ia is ig:Nat}{a b c d f:D}{cm sm gm:List (Str×Int)}{st:MR}{ns:List aA}{V:Sig}
theorem BS.set(h:BS ib ia is ig a b c d f cm sm gm st ns V){k:Nat}{o:DObj}(h1:ib≠k)(h2:ia≠k)(h3:is≠k)(h4:ig≠k)(h5:¬Bt st k):BS ib ia is ig a b c d f cm sm gm st ns (V.set k o):=
 ⟨by rw[w8 _ _ h1];exact h.env,by rw[w8 _ _ h2];exact h.oa,by rw[w8 _ _ h3];exact h.os,by rw[w8 _ _ h4];exact h.og,h.row.keep fun j x hj hr=>by rw[w8 _ _ fun e=>h5 (by rw[<-e];exact hr)];exact hj,h.nr⟩
theorem BS.notrow(h:BS ib ia is ig a b c d f cm sm gm st ns V){k:Nat}(hk:V k=none): ¬Bt st k:=fun hr=>by
 obtain⟨cs,hc⟩:=h.row.cells hr;rw[hk]at hc;cases hc
theorem BS.fresh(h:BS ib ia is ig a b c d f cm sm gm st ns V){k:Nat}{o:DObj}(hk:V k=none):BS ib ia is ig a b c d f cm sm gm st ns (V.set k o):=
 h.set (A0 h.env hk) (A0 h.oa hk) (A0 h.os hk) (A0 h.og hk) (h.notrow hk)
theorem BS.tail(h:BS ib ia is ig a b c d f cm sm gm st ns V){k s n:Nat}{o:DObj}(hk:V k=some (.tail s n)): ¬Bt st k/\k≠ib/\BS ib ia is ig a b c d f cm sm gm st ns (V.set k o):=
 have hr:¬Bt st k:=fun hr=>by obtain⟨cs,hc⟩:=h.row.cells hr;rw[hk]at hc;cases hc
 ⟨hr,A7 hk h.env (by simp),h.set (A7 h.env hk (by simp)) (A7 h.oa hk (by simp)) (A7 h.os hk (by simp)) (A7 h.og hk (by simp)) hr⟩
theorem BS.zero(h:BS ib ia is ig a b c d f cm sm gm st ns V):st=none->ns.length=0:=fun e=>by
 subst e;have:ns.map Ab=[]:=h.row;simpa using this
theorem Ov: ∀(n:Nat) (e:aB) (nm:D) (m:List (Str×Int)) (size:Int) (st:MR) (ns:List aA) (V:Sig),e.wt<=n->ns.length+e.wt<=100000000->0<=size->size+n<=1000000000->NmD nm m->
  BS ib ia is ig a b c d f cm sm gm st ns V->au prog 112 [.agg [.ptr ib 0,nm,dI size],.agg (Al e)] V fun x S'=>x=.ret (dI ns.length) /\
   ∃st',BS ib ia is ig a b c d f cm sm gm st' (ns++bndE cm sm gm e (fun y=>getM 0 y m) size ns.length) S'/\BK ib V st S' st':=by
 intro n
 induction n with
 |zero=>
  intro e nm m size st ns V hx
  have:=e.wt_pos
  omega
 | succ n ih =>
  intro e nm m size st ns V hx hn gZ e8 hm hB
  obtain⟨w1,w2,gn⟩:=e.wt_le
  have go:nm.flat=true:=by rcases hm.cases with⟨_,_,rfl,_⟩|⟨rfl,_⟩<;>rfl
  simp only[D.flat]at go
  have hz:=hB.zero
  have gU:=hB
  have iK:ns.length<=100000000:=by omega
  obtain⟨q1,q2,q3,q4,q5,q6⟩:=hB
  refine en func112 ntmps112 ?_
  try refine gf q1 ?_ o112 [6]
  refine newV (fun i hi=>?_)
  have n1:ib≠i:=A0 q1 hi
  have n2:ia≠i:=A0 q2 hi
  have n3:is≠i:=A0 q3 hi
  have n4:ig≠i:=A0 q4 hi
  have g8:¬Bt st i:=gU.notrow hi
  generalize fZ:bndN cm sm gm e.op e.n e.text (fun y=>getM 0 y m)=num
  repeat ((fail_if_success (first|(refine dwp_cut1 (x1:=.seq _ (.block 0 _)) [] (V.set i (.cells [dI e.op,dI num,.ak])) ?_ (fun _ hK=>?_))|fail));(refine goX1 trivial ?_))
  refine dwp_cut1 (x1:=.seq _ (.block 0 _)) [] (V.set i (.cells [dI e.op,dI num,.ak])) ?_ (fun _ hK=>?_)
  ·refine dwp_wk (BW (az:=[dI e.op,dI num]) (bs:=[]) (d':=sl (cI [])) (w7 ..) (Am _ (.inl rfl))) ?_
   rw[w9]
   have fM:=gU.fresh (o:=.cells [dI e.op,dI num,sl (cI [])]) hi
   have gS:=(BK.refl ib V st).fresh (o:=.cells [dI e.op,dI num,sl (cI [])]) hi
   have o6:(V.set i (.cells [dI e.op,dI num,sl (cI [])])) i=some (.cells [dI e.op,dI num,sl (cI [])]):=w7 ..
   generalize fR:V.set i (.cells ([dI e.op,dI num]++sl (cI [])::[]))=S1
   have fR:V.set i (.cells [dI e.op,dI num,sl (cI [])])=S1:=fR
   rw[fR]at fM gS o6
   clear fR
   have r1:=fM.env
   have r5:=fM.row
   have u1:(S1.out (Bt st)) ib=some (.cells [a,b,c,d,mD st ns.length,f,.map ia,.map is,.map ig]):=BO r1 fM.nr
   have u6:(S1.out (Bt st)) i=some (.cells [dI e.op,dI num,sl (cI [])]):=BO o6 g8
   try refine gf (gi r1 o6) ?_ (delO 14 o112) [6]
   refine CI [0,1,2,3,4,5,6,7,8,9,10,11,12,13] [10] (S1.out (Bt st)) (AU _ _) ?_
   try refine gf (gi u1 u6) ?_ o112 [6]
   refine Y0 (es:=ns.map Ab) (fun st2 S2 gM gD=>?_) (fun j o h=>Bm h) (hm:=r5)
   obtain⟨v1,v2⟩:=gD _ _ r1 fM.nr
   obtain⟨rr,rc,gO⟩:=gM.ap (by simp)
   have gB:=gO (ns.length+1)
   try refine gf (gi v1 gB) ?_ o112 [6]
   refine Bv 7 1 (fun it gc=>?_)
   obtain⟨i1,i2⟩:=A4 gc
   have g9:(ns++[(⟨e.op,num,[]⟩:aA)]).map Ab=ns.map Ab++[[dI e.op,dI num,sl []]]:=by simp
   have iI:BS ib ia is ig a b c d f cm sm gm st2 (ns++[⟨e.op,num,[]⟩]) (S2.set ib (.cells [a,b,c,d,.ap rr 0 (ns.length+1) rc,f,.map ia,.map is,.map ig])):=by
    have hx:∀j o,S1 j=some o->j≠ib->¬Bt st j->(S2.set ib (.cells [a,b,c,d,.ap rr 0 (ns.length+1) rc,f,.map ia,.map is,.map ig])) j=some o:=fun j o hj fO hr=>by
     rw[w8 _ _ fO];exact(gD j o hj hr).1
    have f7:∀{k l},S1 k=some (.map l)->k≠ib /\ ¬Bt st k:=fun {k l} hk=>⟨A7 hk r1 (by simp),fun hr=>by obtain⟨cs,hc⟩:=r5.cells hr;rw[hk]at hc;cases hc⟩
    refine⟨by rw[w7,gO];simp,hx _ _ fM.oa (f7 fM.oa).1 (f7 fM.oa).2,hx _ _ fM.os (f7 fM.os).1 (f7 fM.os).2,hx _ _ fM.og (f7 fM.og).1 (f7 fM.og).2,?_,v2⟩
    rw[g9]
    exact gM.keep fun j x hj hr=>by rw[w8 _ _ fun e=>v2 (by rw[<-e];exact hr)];exact hj
   have gR:BK ib V st (S2.set ib (.cells [a,b,c,d,.ap rr 0 (ns.length+1) rc,f,.map ia,.map is,.map ig])) st2:=fun j o hj fO hr=>by
    obtain⟨h1,h2⟩:=gS j o hj fO hr
    obtain⟨h3,h4⟩:=gD j o h1 h2
    exact⟨by rw[w8 _ _ fO];exact h3,h4⟩
   have iH:=iI.fresh (o:=.tail 1 0) gc
   have iF:=gR.fresh (o:=.tail 1 0) gc
   have g7:((S2.set ib (.cells [a,b,c,d,.ap rr 0 (ns.length+1) rc,f,.map ia,.map is,.map ig])).set it (.tail 1 0)) it=some (.tail 1 0):=w7 ..
   have gE:∀o,V it=some o->Bt st it:=fun o h=>cG fun hr=>by rw[(gR it o h i1 hr).1]at gc;cases gc
   refine Ro [2,3,4,5,84,85,111,112,113,114,115,116,117,118,119,120,121,122] (fun (k:Nat) (l:fF) (ms:List aA) (st1:MR) (S1:Sig)=>k<=e.ah.length/\l.length=k/\l++CW (e.ah.drop k) (ns.length+1+ms.length)=CW e.ah (ns.length+1)/\ms++GA cm sm gm e.op e.text (e.ah.drop k) k (fun y=>getM 0 y m) size (ns.length+1+ms.length)=GA cm sm gm e.op e.text e.ah 0 (fun y=>getM 0 y m) size (ns.length+1)/\ns.length+1+ms.length+wtL aB.wt (e.ah.drop k)<=100000000/\BS ib ia is ig a b c d f cm sm gm st1 (ns++⟨e.op,num,[]⟩::ms) S1/\BK ib V st S1 st1/\S1 it=some (.tail 1 l.length)) (fun k l _ _ _=>[(86,dI k),(7,.slice (cI l) (.tag it))]) (fun _ _ _ _ S1=>S1) (fun k _ _ _ _=>e.ah.length-k) (0) ([]) ([]) (st2) (_) (by exact⟨by omega,rfl,rfl,rfl,by have:=aB.wt_eq e;simp only[cf,dO];omega,iH,iF,g7⟩) (fun k l ms st1 S1 hI=>?_)
   obtain⟨hk,gC,f0,fV,gh,gw,gH,o4⟩:=hI
   by_cases d6:k<e.ah.length
   ·rw [A2 d6] at f0 fV gh
    rw[CW]at f0
    rw[GA]at fV
    rw[wtL]at gh
    have iJ:=gn k d6
    have iP:=aB.cnt_le e.ah[k]
    try refine gz ?_ o112 [6]
    refine newV (fun i10 fN=>?_)
    have f9:=gw.tail (o:=.defs) o4
    by_cases fU:e.op=9/\k=1
    ·rw[aS fU]at fV
     obtain⟨iv,iL⟩:=fU
     try refine gf (gi iv go) ?_ o112 [6]
     refine Ac (UZ ib nm m size e.text _ hm ⟨gZ,by omega⟩) (fun x S2 hr=>?_) (fun x S2 hr=>by obtain⟨_,h,_⟩:=hr;cases h)
     obtain⟨m',e1,iq,fK,e2⟩:=hr
     cases e1
     rw[e2]
     clear e2 S2
     have fK:(fun y=>getM 0 y m')=updE (fun y=>getM 0 y m) e.text size:=funext fK
     have gv:=gw.fresh (o:=.cells [.ptr ib 0,cNum m',dI (size+1)]) fN
     have gu:=gH.fresh (o:=.cells [.ptr ib 0,cNum m',dI (size+1)]) fN
     have o5:(S1.set i10 (.cells [.ptr ib 0,cNum m',dI (size+1)])) it=some (.tail 1 l.length):=by rw[w8 _ _ (A0 o4 fN)];exact o4
     try refine gz ?_ o112 [6]
     refine Ac (ih e.ah[k] (cNum m') m' (size+1) st1 (ns++⟨e.op,num,[]⟩::ms) _ (by omega) (by simp only[aH,aP];omega) (by omega) (by omega) iq gv) (fun x S3 hr=>?_) (fun x S3 hr=>by cases hr.1)
     obtain⟨e1,st3,fW,fX⟩:=hr
     cases e1
     obtain⟨o6,_⟩:=fX _ _ o5 f9.2.1 f9.1
     have gk:=gu.trans fX
     rw[fK]at fW
     have fP:(((ns++(⟨e.op,num,[]⟩:aA)::ms).length:Nat):Int)=((ns.length+1+ms.length:Nat):Int):=by simp only[aH,aP];omega
     have e9:(ns++(⟨e.op,num,[]⟩:aA)::ms).length=ns.length+1+ms.length:=by simp only[aH,aP];omega
     rw[e9]at fW
     have fY:=(fW.tail (o:=.tail 1 (l++[((ns.length+1+ms.length:Nat):Int)]).length) o6).2.2
     have gj:BK ib V st (S3.set it (.tail 1 (l++[((ns.length+1+ms.length:Nat):Int)]).length)) st3:=fun j x hj fO hr=>by
      obtain⟨h1,h2⟩:=gk j x hj fO hr
      exact⟨by rw[w8 _ _ fun e=>hr (by have:=gE x (by rw[<-e];exact hj);rw[e];exact this)];exact h1,h2⟩
     have fQ:=Gu (cm:=cm) (sm:=sm) (gm:=gm) e.ah[k] (updE (fun y=>getM 0 y m) e.text size) (size+1) (ns.length+1+ms.length)
     have fJ:Sub (S3.set it (.tail 1 (l++[((ns.length+1+ms.length:Nat):Int)]).length)) (S3.set it (.tail 1 (l.length+1))):=by rw[aH];exact Sub.refl _
     rw[aT,bl]at fY
     have gJ:WkD (.slice (cI l++[[dI ((ns.length:Int)+((ms.length:Int)+1))]]) (.tag it)) (.slice (cI (l++[((ns.length+1+ms.length:Nat):Int)])) (.tag it)):=AM (by simp[cI];omega)
     try refine gf (gi o6 fP) ?_ o112 [6]
     exact⟨k+1,l++[((ns.length+1+ms.length:Nat):Int)],ms++bndE cm sm gm e.ah[k] (updE (fun y=>getM 0 y m) e.text size) (size+1) (ns.length+1+ms.length),st3,S3.set it (.tail 1 (l++[((ns.length+1+ms.length:Nat):Int)]).length),⟨by omega,by rw[aH,gC];rfl,by rw[aT,aH,fQ,<-ci];exact f0,by rw[aT,aH,fQ,<-ci];exact fV,by rw[aH,fQ];omega,fY,gj,w7 ..⟩,td1,wkR⟩
    ·rw[aN fU]at fV
     have gv:=gw.fresh (o:=.cells [.ptr ib 0,nm,dI size]) fN
     have gu:=gH.fresh (o:=.cells [.ptr ib 0,nm,dI size]) fN
     have o5:(S1.set i10 (.cells [.ptr ib 0,nm,dI size])) it=some (.tail 1 l.length):=by rw[w8 _ _ (A0 o4 fN)];exact o4
     by_cases h9:e.op=9
     ·have iM:k≠1:=fun h=>fU ⟨h9,h⟩
      try refine gf (gi h9 go) ?_ o112 [6]
      refine Ac (ih e.ah[k] nm m size st1 (ns++⟨e.op,num,[]⟩::ms) _ (by omega) (by simp only[aH,aP];omega) (by omega) (by omega) hm gv) (fun x S3 hr=>?_) (fun x S3 hr=>by cases hr.1)
      obtain⟨e1,st3,fW,fX⟩:=hr
      cases e1
      obtain⟨o6,_⟩:=fX _ _ o5 f9.2.1 f9.1
      have gk:=gu.trans fX
      have fP:(((ns++(⟨e.op,num,[]⟩:aA)::ms).length:Nat):Int)=((ns.length+1+ms.length:Nat):Int):=by simp only[aH,aP];omega
      have e9:(ns++(⟨e.op,num,[]⟩:aA)::ms).length=ns.length+1+ms.length:=by simp only[aH,aP];omega
      rw[e9]at fW
      have fY:=(fW.tail (o:=.tail 1 (l++[((ns.length+1+ms.length:Nat):Int)]).length) o6).2.2
      have gj:BK ib V st (S3.set it (.tail 1 (l++[((ns.length+1+ms.length:Nat):Int)]).length)) st3:=fun j x hj fO hr=>by
       obtain⟨h1,h2⟩:=gk j x hj fO hr
       exact⟨by rw[w8 _ _ fun e=>hr (by have:=gE x (by rw[<-e];exact hj);rw[e];exact this)];exact h1,h2⟩
      have fQ:=Gu (cm:=cm) (sm:=sm) (gm:=gm) e.ah[k] (fun y=>getM 0 y m) size (ns.length+1+ms.length)
      have fJ:Sub (S3.set it (.tail 1 (l++[((ns.length+1+ms.length:Nat):Int)]).length)) (S3.set it (.tail 1 (l.length+1))):=by rw[aH];exact Sub.refl _
      rw[aT,bl]at fY
      have gJ:WkD (.slice (cI l++[[dI ((ns.length:Int)+((ms.length:Int)+1))]]) (.tag it)) (.slice (cI (l++[((ns.length+1+ms.length:Nat):Int)])) (.tag it)):=AM (by simp[cI];omega)
      try refine gf (gi o6 fP) ?_ o112 [6]
      exact⟨k+1,l++[((ns.length+1+ms.length:Nat):Int)],ms++bndE cm sm gm e.ah[k] (fun y=>getM 0 y m) size (ns.length+1+ms.length),st3,S3.set it (.tail 1 (l++[((ns.length+1+ms.length:Nat):Int)]).length),⟨by omega,by rw[aH,gC];rfl,by rw[aT,aH,fQ,<-ci];exact f0,by rw[aT,aH,fQ,<-ci];exact fV,by rw[aH,fQ];omega,fY,gj,w7 ..⟩,td1,wkR⟩
     ·try refine gf go ?_ o112 [6]
      refine Ac (ih e.ah[k] nm m size st1 (ns++⟨e.op,num,[]⟩::ms) _ (by omega) (by simp only[aH,aP];omega) (by omega) (by omega) hm gv) (fun x S3 hr=>?_) (fun x S3 hr=>by cases hr.1)
      obtain⟨e1,st3,fW,fX⟩:=hr
      cases e1
      obtain⟨o6,_⟩:=fX _ _ o5 f9.2.1 f9.1
      have gk:=gu.trans fX
      have fP:(((ns++(⟨e.op,num,[]⟩:aA)::ms).length:Nat):Int)=((ns.length+1+ms.length:Nat):Int):=by simp only[aH,aP];omega
      have e9:(ns++(⟨e.op,num,[]⟩:aA)::ms).length=ns.length+1+ms.length:=by simp only[aH,aP];omega
      rw[e9]at fW
      have fY:=(fW.tail (o:=.tail 1 (l++[((ns.length+1+ms.length:Nat):Int)]).length) o6).2.2
      have gj:BK ib V st (S3.set it (.tail 1 (l++[((ns.length+1+ms.length:Nat):Int)]).length)) st3:=fun j x hj fO hr=>by
       obtain⟨h1,h2⟩:=gk j x hj fO hr
       exact⟨by rw[w8 _ _ fun e=>hr (by have:=gE x (by rw[<-e];exact hj);rw[e];exact this)];exact h1,h2⟩
      have fQ:=Gu (cm:=cm) (sm:=sm) (gm:=gm) e.ah[k] (fun y=>getM 0 y m) size (ns.length+1+ms.length)
      have fJ:Sub (S3.set it (.tail 1 (l++[((ns.length+1+ms.length:Nat):Int)]).length)) (S3.set it (.tail 1 (l.length+1))):=by rw[aH];exact Sub.refl _
      rw[aT,bl]at fY
      have gJ:WkD (.slice (cI l++[[dI ((ns.length:Int)+((ms.length:Int)+1))]]) (.tag it)) (.slice (cI (l++[((ns.length+1+ms.length:Nat):Int)])) (.tag it)):=AM (by simp[cI];omega)
      try refine gf (gi o6 fP) ?_ o112 [6]
      exact⟨k+1,l++[((ns.length+1+ms.length:Nat):Int)],ms++bndE cm sm gm e.ah[k] (fun y=>getM 0 y m) size (ns.length+1+ms.length),st3,S3.set it (.tail 1 (l++[((ns.length+1+ms.length:Nat):Int)]).length),⟨by omega,by rw[aH,gC];rfl,by rw[aT,aH,fQ,<-ci];exact f0,by rw[aT,aH,fQ,<-ci];exact fV,by rw[aH,fQ];omega,fY,gj,w7 ..⟩,td1,wkR⟩
   ·rw[A1 d6,CW,bb]at f0
    rw[A1 d6,GA,bb]at fV
    obtain⟨t1,t2,t3,t4,t5,t6⟩:=gw
    rcases st1 with _|⟨r,rc,rest⟩
    ·have:(ns++(⟨e.op,num,[]⟩:aA)::ms).map Ab=[]:=t5
     simp at this
    ·have gx:S1 r=some (.cells (((ns++(⟨e.op,num,[]⟩:aA)::ms).map Ab).flatten++rest))/\(((ns++(⟨e.op,num,[]⟩:aA)::ms).map Ab).flatten++rest).length=rc*3/\((ns++(⟨e.op,num,[]⟩:aA)::ms).map Ab).length<=rc/\_:=t5
     have fK:S1 ib=some (.cells [a,b,c,d,.ap r 0 (ns.length+1+ms.length) rc,f,.map ia,.map is,.map ig]):=by
      rw[t1];show some (DObj.cells [a,b,c,d,.ap r 0 (ns++(⟨e.op,num,[]⟩:aA)::ms).length rc,f,.map ia,.map is,.map ig])=_
      rw[show(ns++(⟨e.op,num,[]⟩:aA)::ms).length=ns.length+1+ms.length by simp only[aH,aP];omega]
     obtain⟨w1,w2,w3,w4⟩:=gx
     have gb:(ns.map Ab).flatten.length=ns.length*3:=by rw[Dc (sz:=3) (by simp)];simp
     have gQ:∀q:fF,((ns++(⟨e.op,num,q⟩:aA)::ms).map Ab).flatten++rest=(ns.map Ab).flatten++[dI e.op,dI num]++sl (cI q)::((ms.map Ab).flatten++rest):=fun q=>by simp
     have gg:((ns++(⟨e.op,num,[]⟩:aA)::ms).map Ab).flatten++rest=(ns.map Ab).flatten++dI e.op::dI num::sl (cI [])::((ms.map Ab).flatten++rest):=by simp
     rw[gg]at w1 w2
     clear gg
     generalize hA:(ns.map Ab).flatten=A at*
     generalize hM:(ms.map Ab).flatten=M at*
     have iO:A.length+(3+(M.length+rest.length))=rc*3:=by simp only[aH,aP]at w2;omega
     have w3':=w3
     rw[aZ,aH,aP]at w3
     have gY:List.take (ns.length*3+2) (A++dI e.op::dI num::sl []::(M++rest))=A++[dI e.op,dI num]:=by rw[<-gb,fu];rfl
     have iz:List.drop (ns.length*3+2+1) (A++dI e.op::dI num::sl []::(M++rest))=M++rest:=by rw[<-gb,ci,eh];rfl
     try refine gf (gi fK w1) ?_ (delO 25 o112) [6]
     refine mixL (id:=25) [0,1,2,3,4,5,6,7,8,9,10] [8] ?_
     repeat ((fail_if_success (first|(refine celW (List.take (ns.length*3+2) (A++dI e.op::dI num::sl []::(M++rest))) (List.drop (ns.length*3+2+1) (A++dI e.op::dI num::sl []::(M++rest))) (.slice (cI l) .clip) (sl (cI l)) ?_ (w7 ..) (Ao _ _))|fail));(refine goX1 (gi fK w1) ?_))
     refine celW (List.take (ns.length*3+2) (A++dI e.op::dI num::sl []::(M++rest))) (List.drop (ns.length*3+2+1) (A++dI e.op::dI num::sl []::(M++rest))) (.slice (cI l) .clip) (sl (cI l)) ?_ (w7 ..) (Ao _ _)
     rw[gY,iz,w9]
     have iD:bndE cm sm gm e (fun y=>getM 0 y m) size ns.length=⟨e.op,num,l⟩::ms:=by rw[bndE_eq,fZ,<-f0,<-fV]
     have gP:(ns++(⟨e.op,num,l⟩:aA)::ms).length=ns.length+1+ms.length:=by simp only[aH,aP];omega
     have gA:∀{j x},S1 j=some (.map x)->j≠r:=fun hj=>A7 hj w1 (by simp)
     have iC:ib≠r:=fun h=>t6 h
     have gT:BS ib ia is ig a b c d f cm sm gm (some (r,rc,rest)) (ns++⟨e.op,num,l⟩::ms) (S1.set r (.cells (A++[dI e.op,dI num]++sl (cI l)::(M++rest)))):=by
      refine⟨?_,by rw[w8 _ _ (gA t2)];exact t2,by rw[w8 _ _ (gA t3)];exact t3,by rw[w8 _ _ (gA t4)];exact t4,⟨?_,?_,?_,?_⟩,t6⟩
      ·rw[w8 _ _ iC,fK,<-gP];rfl
      ·rw[w7,gQ l]
      ·rw[gQ l];simp only[aH,aP,cf];omega
      ·rw[aZ,gP];omega
      ·intro z hz;obtain⟨x,_,rfl⟩:=bO.1 hz;rfl
     have iE:BK ib V st (S1.set r (.cells (A++[dI e.op,dI num]++sl (cI l)::(M++rest)))) (some (r,rc,rest)):=fun j x hj fO hr=>by
      obtain⟨h1,h2⟩:=gH j x hj fO hr
      exact⟨by rw[w8 _ _ fun e=>h2 e];exact h1,h2⟩
     rw[<-iD]at gT
     try refine gz ?_ o112 [6]
     exact fin1 (S':=_) ⟨rfl,_,gT,iE⟩
  ·rcases hm.cases with⟨ks,vs,rfl,gI⟩|⟨rfl,gI⟩
   ·repeat' first|refine gf (gi gI (gi q1 (gi q2 (gi q3 q4)))) ?_ o112 [6]|apply gy<;>intro hh
    all_goals (refine dwp_wk ?_ hK;clear hK ih;refine Ae (by simp) (AQ ?_);rw[<-fZ];unfold bndN;simp[*];done)
   ·repeat' first|refine gf (gi q1 (gi q2 (gi q3 q4))) ?_ o112 [6]|apply gy<;>intro hh
    all_goals (refine dwp_wk ?_ hK;clear hK ih;refine Ae (by simp) (AQ ?_);rw[<-fZ];unfold bndN;simp[*];done)
end
section
variable {ops:Array Oper}{n N:Nat}{ro:Option Nat}{S0:Sig}{Q:DX->St->Prop}{df:List DDf}{γ Sr:List (Nat×D)}{V:Sig}{t:Nat}{ty:TypeId}{pos:String}{after:Array Edge}{d:D}
theorem moRd{op:Op}{l:List (Bool×Oper)}(h:MO prog ro n ops N S0 Q df l ((t,d)::γ) V)(hd:dopX tab Sr V op=some d)(hC:Sub S0 V)(hr:EE op=true:=by rfl)(hl:A8 γ (Ad op.operands.toList)=some Sr:=by exact tdR)(gK:decide (t<n)=true:=by exact tdR):
  MO prog ro n ops N S0 Q df ((true,⟨some t,op,ty,pos,after,none⟩)::l) γ V:=
 mo1 (fun U2 hx=>HI Af hr rfl (by rw[BJ hx];exact(BJ (Cy hl)) ▸ hd) gK (AP ⟨rfl,by simp only[putD,Aa,bp];exact⟨hC,h⟩⟩)) gK
end
def BB(f:aF):List (Str×Int):=putM H9 2 (putM wInt 1 (putM wAny 0 (numM (f.aa.map (·.name)) 3 [])))
def BD(f:aF):List (Str×Int):=numM (AN f) 0 []
def gensN(f:aF):fD:=(BM f).1.map (·.1)
def AC(f:aF):List (Str×Int):=numM (gensN f) 0 []
def EH(m:aE):Str->Int:=fun y=>getM 0 y (numM m.params 0 [])
def HO(cm sm gm:List (Str×Int)):List aE->Nat->List aA
 |[],_=>[]
 |m::r,k=>bndE cm sm gm m.body (EH m) m.params.length k++HO cm sm gm r (k+m.body.cnt)
def bndMM(cm sm gm:List (Str×Int)):List aE->Nat->List ay
 |[],_=>[]
 |m::r,k=>⟨m.kind,getM 0 m.name gm,bndF cm sm (EH m) m.fact,k⟩::bndMM cm sm gm r (k+m.body.cnt)
def Av(f:aF):aw:=
 ⟨f.aa.map (Ih (BB f) (BD f)),(AN f).length,H3 (AC f) f,bndMM (BB f) (BD f) (AC f) f.methods 0,
  HO (BB f) (BD f) (AC f) f.methods 0++bndE (BB f) (BD f) (AC f) f.main (fun _=>0) 0 (HO (BB f) (BD f) (AC f) f.methods 0).length,(HO (BB f) (BD f) (AC f) f.methods 0).length⟩
theorem IL: ∀(l:fD) (b:Int) (m:List (Str×Int)) (s:Str),(s∈l->b<=getM 0 s (numM l b m)/\getM 0 s (numM l b m)<b+l.length)/\(s∉l->getM 0 s (numM l b m)=getM 0 s m)
 |[],b,m,s=>by simp[numM]
 | x::r,b,m,s=>by
  obtain⟨h1,h2⟩:=IL r (b+1) (putM x b m) s
  rw[numM]
  refine⟨fun h=>?_,fun h=>?_⟩
  ·by_cases hr:s∈r
   ·have:=h1 hr;simp only[aP];omega
   ·rw[h2 hr,Cb]
    have:s=x:=(aY.1 h).resolve_right hr
    rw[aS this];simp only[aP];omega
  ·rw[aY,dU]at h
   rw[h2 h.2,Cb,aN h.1]
theorem Q6: ∀(l:fD) (b:Int) (m:List (Str×Int)),l.Nodup->(∀s∈l,hasM s m=false)->(numM l b m).length=m.length+l.length
 |[],b,m,_,_=>by simp[numM]
 | x::r,b,m,hn,hm=>by
  rw[cP]at hn
  rw[numM,Q6 r _ _ hn.2 fun s hs=>?_,Mg x b m (hm x (by simp))]
  ·simp only[aH,aP,cf];omega
  ·rw[Qn,hm s (by simp[hs])]
   have:s≠x:=fun e=>hn.1 (e ▸ hs)
   simp[this]
theorem GE: ∀(l:fD) (b:Int) (m:List (Str×Int)),(m.map (·.1)).Nodup->((numM l b m).map (·.1)).Nodup
 |[],_,m,h=>h
 |x::r,b,m,h=>GE r _ _ (Jv x b h)
theorem Nl(name:Str)(n:Int)(s:GenT)(h:(s.1.map (·.1)).Nodup):((seeG name n s).1.map (·.1)).Nodup/\name∈(seeG name n s).1.map (·.1) /\ ∀x∈s.1.map (·.1),x∈(seeG name n s).1.map (·.1):=by
 unfold seeG
 split
 ·rename_i hh
  exact⟨h,(Fd _ _).1 hh,fun x hx=>hx⟩
 ·rename_i hh
  simp only[bI,ba,bJ]
  refine⟨dL.2 ⟨h,by simp,fun a ha b hb e=>?_⟩,by simp,fun x hx=>by simp[hx]⟩
  simp only[bM]at hb
  exact hh ((Fd _ _).2 (by rw[<-hb,<-e];exact ha))
def CallsIn(ks:fD)(x:aB):Prop:=x.op=5->x.text∈ks
mutual
theorem G9{Q R:aB->Prop}(h:∀x,Q x->R x): ∀e,AllX Q e->AllX R e
 |.mk o n t k,he=>by rw[AllX]at he⊢; exact⟨h _ he.1,M0 h k he.2⟩
theorem M0{Q R:aB->Prop}(h:∀x,Q x->R x): ∀l,Eg Q l->Eg R l
 |[],_=>by rw[Eg];trivial
 |x::r,he=>by rw[Eg]at he⊢; exact⟨G9 h x he.1,M0 h r he.2⟩
end
mutual
theorem TX: ∀(e:aB) (s:GenT),(s.1.map (·.1)).Nodup->((genE e s).1.map (·.1)).Nodup/\(∀x∈s.1.map (·.1),x∈(genE e s).1.map (·.1))/\AllX (CallsIn ((genE e s).1.map (·.1))) e
 | .mk o n t k,s,h=>by
  rw[genE,AllX]
  by_cases h5:o=5
  ·rw[aS h5]
   obtain⟨a1,a2,a3⟩:=Nl t k.length s h
   obtain⟨b1,b2,b3⟩:=Gl k _ a1
   exact⟨b1,fun x hx=>b2 x (a3 x hx),fun _=>b2 _ a2,b3⟩
  ·rw[aN h5]
   obtain⟨b1,b2,b3⟩:=Gl k _ h
   exact⟨b1,b2,fun h=>absurd h h5,b3⟩
theorem Gl: ∀(l:List aB) (s:GenT),(s.1.map (·.1)).Nodup->((CM l s).1.map (·.1)).Nodup/\(∀x∈s.1.map (·.1),x∈(CM l s).1.map (·.1))/\Eg (CallsIn ((CM l s).1.map (·.1))) l
 |[],s,h=>by rw[CM,Eg];exact⟨h,fun _ h=>h,trivial⟩
 |x::r,s,h=>by
  rw[CM,Eg]
  obtain⟨a1,a2,a3⟩:=TX x s h
  obtain⟨b1,b2,b3⟩:=Gl r _ a1
  exact⟨b1,fun y hy=>b2 y (a2 y hy),G9 (fun y hq h5=>b2 _ (hq h5)) x a3,b3⟩
end
theorem NE: ∀(l:List aE) (s:GenT),(s.1.map (·.1)).Nodup->((metG l s).1.map (·.1)).Nodup/\(∀x∈s.1.map (·.1),x∈(metG l s).1.map (·.1)) /\ ∀m∈l,m.name∈(metG l s).1.map (·.1)
 |[],s,h=>⟨h,fun _ h=>h,by simp⟩
 |m::r,s,h=>by
  obtain⟨a1,a2,a3⟩:=Nl m.name m.params.length s h
  obtain⟨b1,b2,b3⟩:=NE r _ a1
  rw[metG]
  refine⟨b1,fun x hx=>b2 x (a3 x hx),fun y hy=>?_⟩
  rcases aY.1 hy with rfl|hy
  ·exact b2 _ a2
  ·exact b3 y hy
theorem Kv{Q:aB->Prop}: ∀(l:List aB),Eg Q l->∀x∈l,AllX Q x
 |[],_,x,hx=>by simp at hx
 |y::r,h,x,hx=>by
  rw[Eg]at h
  rcases aY.1 hx with rfl|hx
  ·exact h.1
  ·exact Kv r h.2 x hx
theorem DW(f:aF):(gensN f).Nodup/\(∀m∈f.methods,m.name∈gensN f/\AllX (CallsIn (gensN f)) m.body)/\AllX (CallsIn (gensN f)) f.main:=by
 obtain⟨a1,a2,a3⟩:=NE f.methods ([],true) (by simp)
 obtain⟨b1,b2,b3⟩:=Gl (BN f) _ a1
 have hm:=Kv _ b3
 exact⟨b1,fun m gN=>⟨b2 _ (a3 m gN),hm _ (by unfold BN;exact cY _ (dq gN))⟩,hm _ (by unfold BN;simp)⟩
theorem IR(f:aF):(AC f).length=(gensN f).length:=by
 unfold AC
 rw[Q6 _ _ _ (DW f).1 (fun _ _=>rfl)];simp
theorem args_ok(f:aF):(∀m∈f.methods,(0<=getM 0 m.name (AC f)/\getM 0 m.name (AC f)<(AC f).length)/\AllX (QA (AC f) (AC f).length) m.body)/\AllX (QA (AC f) (AC f).length) f.main:=by
 obtain⟨h1,h2,h3⟩:=DW f
 have key:∀s∈gensN f,0<=getM 0 s (AC f)/\getM 0 s (AC f)<(AC f).length:=fun s hs=>by
  have:=(IL (gensN f) 0 [] s).1 hs
  rw[IR];unfold AC;omega
 have hq:∀x,CallsIn (gensN f) x->QA (AC f) (AC f).length x:=fun x hx h5=>key _ (hx h5)
 exact⟨fun m hm=>⟨key _ (h2 m hm).1,G9 hq _ (h2 m hm).2⟩,G9 hq _ h3⟩
end Go.DL
