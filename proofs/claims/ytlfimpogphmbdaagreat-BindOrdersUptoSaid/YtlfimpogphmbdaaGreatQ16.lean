/- A part of the proof. -/
import Derived.Test.YtlfimpogphmbdaaGreatQ15
set_option linter.all false
namespace Go.DL
open Go.Proofs.Tryz
open Go Go.Proofs
set_option maxHeartbeats 8000000
theorem Uz(p:aF)(s:Str)(V:Sig)(hp:p.wt<=1073741824:=by exact sd):au prog 248 [.agg (Bd p),.str s] V (rS (dI (idxF (fun c:aD=>decide (c.name=s)) p.aa 0)) V):=by
 obtain⟨p1,p2,p3,p4,p5⟩:=p.wt_le
 refine en func248 ntmps248 ?_
 refine gz ?_
 refine B5 [1,2] (fun (k:Nat)=>k<=p.aa.length/\idxF (fun c:aD=>decide (c.name=s)) p.aa 0=idxF (fun c:aD=>decide (c.name=s)) (p.aa.drop k) k) (fun k=>[(5,dI k)]) (fun _=>V) (fun k=>p.aa.length-k) (0) td3 (fun k hI=>?_)
 obtain⟨hk,hR⟩:=hI
 by_cases h:k<p.aa.length
 ·rw[A2 h,idxF]at hR
  repeat' first|refine gz ?_|apply gy<;>intro hh
  ·exact fe1 hR
  ·exact⟨k+1,⟨by omega,by rw[hR];simp_all⟩,td1,wkR⟩
 ·rw[A1 h,idxF]at hR
  refine gz ?_
  exact fe1 hR
@[reducible,instance] def a248:=fun p s V=>ah1 (@Uz p s V)
def difE:fD->fD->Bool
 |_,[]=>true
 |seen,x::r=> !decide (x∈seen)&&difE (seen++[x]) r
theorem UT(l:fD)(o:Own)(V:Sig)(hl:l.length<=1073741824:=by exact sd):au prog 203 [.slice (cS l) o] V (rS (.bool (difE [] l)) V):=by
 refine en func203 ntmps203 ?_
 refine gz ?_ o203
 refine B5 [0] (fun (k:Nat)=>k<=l.length/\difE [] l=difE (l.take k) (l.drop k)) (fun k=>[(3,dI k)]) (fun _=>V) (fun k=>l.length-k) (0) (by simp) (fun k hI=>?_)
 obtain⟨hk,hR⟩:=hI
 by_cases h:k<l.length
 ·rw[A2 h,difE,<-AH h]at hR
  repeat' first|refine gz ?_ o203|apply gy<;>intro hh
  ·exact fe1 hR
  ·exact⟨k+1,⟨by omega,by rw[hR];simp_all⟩,td1,wkR⟩
 ·rw[A1 h,difE]at hR
  refine gz ?_ o203
  exact fe1 hR
@[reducible,instance] def a203:=fun l o V=>ah1 (@UT l o V)
def Dy(l:fD):Bool:=l.all AJ&&difE [] l
theorem UR(l:fD)(o:Own)(V:Sig)(hl:l.length<=1073741824:=by exact sd)(hx:∀x∈l,x.length<=1073741824):au prog 205 [.slice (cS l) o] V (rS (.bool (Dy l)) V):=by
 refine en func205 ntmps205 ?_
 refine gz ?_
 refine B5 [0,16,17] (fun (k:Nat)=>k<=l.length/\l.all AJ=(l.drop k).all AJ) (fun k=>[(3,dI k)]) (fun _=>V) (fun k=>l.length-k) (0) (by simp) (fun k hI=>?_)
 obtain⟨hk,hR⟩:=hI
 by_cases h:k<l.length
 ·have gU:=hx _ (aJ h)
  rw[A2 h,bV]at hR
  repeat' first|refine gz ?_|apply gy<;>intro hh
  ·rw[hh,bi]at hR
   (refine fin1 (S':=V) ?_;exact⟨by unfold Dy;rw[hR];rfl,rfl⟩)
  ·exact⟨k+1,⟨by omega,by rw[hR];simp_all⟩,td1,wkR⟩
 ·rw[A1 h]at hR
  refine gz ?_
  (refine fin1 (S':=V) ?_;exact⟨by first|rfl|(simp[Dy,hR];done)|(simp_all [Dy,hR];done)|(rw[A5,aO];simp_all [Dy,hR]<;>omega),rfl⟩)
@[reducible,instance] def a205:=fun l o V=>ah2 (@UR l o V)
end Go.DL
namespace Go.DL
open Go.Proofs.Tryz
open Go Go.Proofs
set_option maxHeartbeats 4000000
mutual
def Fact.beq:Fact->Fact->Bool
 |.mk o a p c n k,g=>decide (o=g.op)&&decide (a=g.arg)&&decide (c=g.cls)&&decide (n=g.n)&&(p==g.path)&&decide (k.length=g.ah.length)&&Fact.beqs k g.ah
def Fact.beqs:List Fact->List Fact->Bool
 |f::l,g::m=>f.beq g&&Fact.beqs l m
 |_,_=>true
end
theorem Fact.beq_eq(f g:Fact):f.beq g=(decide (f.op=g.op)&&decide (f.arg=g.arg)&&decide (f.cls=g.cls)&&decide (f.n=g.n)&&(f.path==g.path)&&decide (f.ah.length=g.ah.length)&&Fact.beqs f.ah g.ah):=by cases f;rw[Fact.beq];rfl
theorem MF(f g:Fact)(V:Sig)(hf:f.wt<=1073741824:=by exact sd):
  au prog 55 [.agg (AS f),.agg (AS g)] V (rS (.bool (f.beq g)) V):=by
 obtain⟨gM,gL,ga⟩:=f.wt_le
 have g6:f.path.length<=1073741824:=by omega
 refine en func55 ntmps55 ?_
 repeat' first|refine gz ?_ o55|apply gy<;>intro hh
 any_goals (first|(refine fin1 (S':=V) ?_;exact⟨by first|rfl|(simp[Fact.beq_eq];done)|(simp_all [Fact.beq_eq];done)|(rw[A5,aO];simp_all [Fact.beq_eq]<;>omega),rfl⟩)|fail)
 refine B5 [2,3,51] (fun (k:Nat)=>k<=f.ah.length/\f.beq g=Fact.beqs (f.ah.drop k) (g.ah.drop k)) (fun k=>[(52,dI k)]) (fun _=>V) (fun k=>f.ah.length-k) (0) (by simp_all [Fact.beq_eq]) (fun k hI=>?_)
 obtain⟨hk,hR⟩:=hI
 have iz:f.ah.length=g.ah.length:=by assumption
 by_cases h:k<f.ah.length
 ·rw[A2 h,A2 (l:=g.ah) (by omega),Fact.beqs]at hR
  have g8:=ga k h
  repeat' first|refine gf h ?_|refine moR (MF (f.ah[k]) (g.ah[k]) V (by omega)) ?_|refine moP (MF (f.ah[k]) (g.ah[k]) V (by omega)) ?_|refine gf h ?_ o55|apply gy<;>intro hh
  ·exact fe1 hR
  ·exact⟨k+1,by simp_all;omega,td1,wkR⟩
 ·refine gf h ?_ o55
  (refine fin1 (S':=V) ?_;exact⟨by first|rfl|(simp[hR,A1 h,Fact.beqs];done)|(simp_all [hR,A1 h,Fact.beqs];done)|(rw[A5,aO];simp_all [hR,A1 h,Fact.beqs]<;>omega),rfl⟩)
termination_by SizeOf.sizeOf f
decreasing_by exact Fact.lt (aJ _)
@[reducible,instance] def a55:=fun f g V=>ah1 (@MF f g V)
end Go.DL
namespace Go.DL
open Go.Proofs.Tryz
open Go Go.Proofs
set_option maxHeartbeats 8000000
theorem Fact.beqs_eqFn: ∀k k':List Fact,(decide (k.length=k'.length)&&Fact.beqs k k')=eqFn Fact.beq k k'
 |[],[]=>by simp[Fact.beqs,eqFn]
 |[],_::_=>by simp[eqFn]
 |_::_,[]=>by simp[eqFn]
 |f::l,g::m=>by
  rw[Fact.beqs,eqFn,<-Fact.beqs_eqFn l m]
  simp only[aP,Nat.add_right_cancel_iff]
  cases f.beq g<;>cases decide (l.length=m.length)<;>rfl
theorem Fact.beq_eq'(f g:Fact):f.beq g=(decide (f.op=g.op)&&(decide (f.arg=g.arg)&&(decide (f.cls=g.cls)&&(decide (f.n=g.n)&&(decide (f.path=g.path)&&eqFn Fact.beq f.ah g.ah))))):=by
 rw[Fact.beq_eq,<-Fact.beqs_eqFn,EA];simp only[ep]
theorem Ol(f g:Fact)(V:Sig)(hf:f.wt<=1073741824:=by exact sd)(hg:g.wt<=1073741824:=by exact sd):
  au prog 161 [.agg (AS f),.agg (AS g)] V (rS (.bool (f.beq g)) V):=by
 obtain⟨gM,gL,ga⟩:=f.wt_le
 obtain⟨gw1,gw2,gw3⟩:=g.wt_le
 have hk:∀x∈f.ah, ∀y∈g.ah,au prog 161 ([]++[.agg (AS x),.agg (AS y)]++[]) V fun r S''=>r=.ret (.bool (x.beq y))/\S''=V:=fun x hx y hy=>by
  have h1:=bh hx
  have h2:=bh hy
  exact Ol x y V (by obtain⟨k,hk,rfl⟩:=h1;have:=ga k hk;omega) (by obtain⟨k,hk,rfl⟩:=h2;have:=gw3 k hk;omega)
 refine en func161 ntmps161 ?_
 repeat' first|refine gz ?_|refine EU (Of f.ah g.ah Fact.beq 161 [] _ _ V (by omega) (by omega) hk) ?_|refine callPG (Of f.ah g.ah Fact.beq 161 [] _ _ V (by omega) (by omega) hk) ?_|refine gz ?_|apply gy<;>intro hh
 any_goals (first|(refine fin1 (S':=V) ?_;exact⟨by first|rfl|(simp[Fact.beq_eq'];done)|(simp_all [Fact.beq_eq'];done)|(rw[A5,aO];simp_all [Fact.beq_eq']<;>omega),rfl⟩)|fail)
termination_by SizeOf.sizeOf f
decreasing_by exact Fact.lt hx
@[reducible,instance] def a161:=fun f g V=>ah2 (@Ol f g V)
def ax.beq(x y:ax):Bool:=decide (x=y)
def aA.beq(x y:aA):Bool:=decide (x=y)
def ay.beq(x y:ay):Bool:=decide (x.kind=y.kind)&&decide (x.gen=y.gen)&&decide (x.node=y.node)&&x.fact.beq y.fact
def aw.beq(p q:aw):Bool:=eqFn ax.beq p.aa q.aa&&eqFn ay.beq p.methods q.methods&&eqFn aA.beq p.nodes q.nodes&&decide (p.ae=q.ae)&&decide (p.aj=q.aj)&&decide (p.main=q.main)
theorem ax.beq_eq(x y:ax):x.beq y=(decide (x.ag=y.ag)&&(decide (x.ae=y.ae)&&decide (x.ai=y.ai))):=by
 unfold ax.beq
 rw[aO]
 cases x;cases y;simp
theorem aA.beq_eq(x y:aA):x.beq y=(decide (x.op=y.op)&&(decide (x.n=y.n)&&decide (x.ah=y.ah))):=by
 unfold aA.beq
 rw[aO]
 cases x;cases y;simp
theorem Vm(x y:ax)(V:Sig)(hx:x.wt<=1073741824:=by exact sd)(hy:y.wt<=1073741824:=by exact sd):
  au prog 156 [.agg (cBClass x),.agg (cBClass y)] V (rS (.bool (x.beq y)) V):=by
 unfold ax.wt at hx hy
 refine en func156 ntmps156 ?_
 repeat' first|refine gz ?_|apply gy<;>intro hh
 any_goals (first|(refine fin1 (S':=V) ?_;exact⟨by first|rfl|(simp[ax.beq_eq];done)|(simp_all [ax.beq_eq];done)|(rw[A5,aO];simp_all [ax.beq_eq]<;>omega),rfl⟩)|fail)
theorem Vi(x y:aA)(V:Sig)(hx:x.wt<=1073741824:=by exact sd)(hy:y.wt<=1073741824:=by exact sd):
  au prog 163 [.agg (Ab x),.agg (Ab y)] V (rS (.bool (x.beq y)) V):=by
 unfold aA.wt at hx hy
 refine en func163 ntmps163 ?_
 repeat' first|refine gz ?_|apply gy<;>intro hh
 any_goals (first|(refine fin1 (S':=V) ?_;exact⟨by first|rfl|(simp[aA.beq_eq];done)|(simp_all [aA.beq_eq];done)|(rw[A5,aO];simp_all [aA.beq_eq]<;>omega),rfl⟩)|fail)
theorem Vj(x y:ay)(V:Sig)(hx:x.wt<=1073741824:=by exact sd)(hy:y.wt<=1073741824:=by exact sd):
  au prog 160 [.agg (Ag x),.agg (Ag y)] V (rS (.bool (x.beq y)) V):=by
 unfold ay.wt at hx hy
 refine en func160 ntmps160 ?_
 repeat' first|refine gz ?_|apply gy<;>intro hh
 any_goals (first|(refine fin1 (S':=V) ?_;exact⟨by first|rfl|(simp[ay.beq];done)|(simp_all [ay.beq];done)|(rw[A5,aO];simp_all [ay.beq]<;>omega),rfl⟩)|fail)
theorem X9(p q:aw)(V:Sig)(hx:p.wt<=1073741824:=by exact sd)(hy:q.wt<=1073741824:=by exact sd):
  au prog 68 [.agg (Ai p),.agg (Ai q)] V (rS (.bool (p.beq q)) V):=by
 obtain⟨p1,p2,p3,p4,p5,p6,p7⟩:=p.wt_le
 obtain⟨q1,q2,q3,q4,q5,q6,q7⟩:=q.wt_le
 have h1:∀x∈p.aa, ∀y∈q.aa,au prog 156 ([]++[.agg (cBClass x),.agg (cBClass y)]++[]) V fun r S''=>r=.ret (.bool (x.beq y))/\S''=V:=fun x hx y hy=>by
  obtain⟨k,hk,rfl⟩:=bh hx
  obtain⟨j,hj,rfl⟩:=bh hy
  exact Vm _ _ V (by have:=p5 k hk;omega) (by have:=q5 j hj;omega)
 have h2:∀x∈p.methods, ∀y∈q.methods,au prog 160 ([]++[.agg (Ag x),.agg (Ag y)]++[]) V fun r S''=>r=.ret (.bool (x.beq y))/\S''=V:=fun x hx y hy=>by
  obtain⟨k,hk,rfl⟩:=bh hx
  obtain⟨j,hj,rfl⟩:=bh hy
  exact Vj _ _ V (by have:=p6 k hk;omega) (by have:=q6 j hj;omega)
 have h3:∀x∈p.nodes, ∀y∈q.nodes,au prog 163 ([]++[.agg (Ab x),.agg (Ab y)]++[]) V fun r S''=>r=.ret (.bool (x.beq y))/\S''=V:=fun x hx y hy=>by
  obtain⟨k,hk,rfl⟩:=bh hx
  obtain⟨j,hj,rfl⟩:=bh hy
  exact Vi _ _ V (by have:=p7 k hk;omega) (by have:=q7 j hj;omega)
 refine en func68 ntmps68 ?_
 repeat' first|refine gz ?_|refine Aq (On p.aa q.aa ax.beq 156 [] _ _ V (by omega) (by omega) h1) ?_|refine callP (On p.aa q.aa ax.beq 156 [] _ _ V (by omega) (by omega) h1) ?_|refine Aq (Om p.methods q.methods ay.beq 160 [] _ _ V (by omega) (by omega) h2) ?_|refine callP (Om p.methods q.methods ay.beq 160 [] _ _ V (by omega) (by omega) h2) ?_|refine Aq (Ok p.nodes q.nodes aA.beq 163 [] _ _ V (by omega) (by omega) h3) ?_|refine callP (Ok p.nodes q.nodes aA.beq 163 [] _ _ V (by omega) (by omega) h3) ?_|refine gz ?_|apply gy<;>intro hh
 any_goals (first|(refine fin1 (S':=V) ?_;exact⟨by first|rfl|(simp[aw.beq];done)|(simp_all [aw.beq];done)|(rw[A5,aO];simp_all [aw.beq]<;>omega),rfl⟩)|fail)
theorem Vg(g:fI)(o:Own)(V:Sig)(hl:g.length<=1073741824:=by exact sd)(gR:∀x∈g,x.length<=1073741824:=by exact sd):
  au prog 167 [.slice (cII g) o] V (rS (dI (if Bu g then 0 else 2)) V):=by
 refine en func167 ntmps167 ?_
 cases h:Bu g with
 |false=>
  try refine gf h ?_
  exact fe1 trivial
 |true=>
  try refine gf h ?_
  exact fe1 trivial
@[reducible,instance] def a167:=fun g o V=>ah2 (@Vg g o V)
def BC:Int->List ax->Option Int
 |n,[]=>some n
 |n,c::r=>if 4<c.ae.length then none else match CH n c.ae with
  |none=>none
  |some m=>BC m r
def DM(has:fF):fF->List Init->Bool
 |_,[]=>true
 |seen,x::r=>(decide (x.slot∈has)&&!decide (x.slot∈seen)&&inB x.n)&&DM has (seen++[x.slot]) r
def Bo(p:aw):Nat->List ax->Bool
 |_,[]=>true
 |i,c::r=>decide (linE (p.aa.map (·.ag)) ((i:Int)+3)=0)&&DM (hasP p ((i:Int)+3)) [] c.ai&&Bo p (i+1) r
def At(p:aw):Bool:=decide (p.aa.length<=10)&&match BC 0 p.aa with
 |none=>false
 |some n=>decide (n=p.ae)&&Bu (p.aa.map (·.ag))&&Bo p 0 p.aa
theorem Fe(cs:List ax): ∀(n:Nat) (up out:fF),(hasG cs n up out).length<=out.length+wtL (fun c:ax=>c.ae.length) (cs.take n)
 |0,_,out=>by rw[hasG];omega
 | n+1,up,out=>by
  rw[hasG]
  by_cases h:n<cs.length
  ·rw[aM h,IE _ _ _ h]
   simp only
   split
   ·have:=Fe cs n (GF (cs[n]).ag up) (out++(cs[n]).ae)
    rw[aH]at this;omega
   ·have:=Fe cs n up out;omega
  ·rw[bQ (by omega)]
   have:=Fe cs n up out
   rw[bA (by omega)]at this⊢
   exact this
theorem JS(p:aw)(c:Int):(hasP p c).length<=wtL (fun c:ax=>c.ae.length) p.aa:=by
 unfold hasP
 have h1:=Hi (hasG p.aa (c-2).toNat [c] [])
 have h2:=Fe p.aa (c-2).toNat [c] []
 have h3:=EY (fun c:ax=>c.ae.length) p.aa (c-2).toNat
 simp only[cf]at h2
 omega
theorem ins_new{k:Int}{s:fF}(h:k∉s):ins k s=s++[k]:=by unfold ins;rw[aN h]
theorem X5 (p:aw) (V:Sig) (hp:p.wt<=1073741824:=by exact sd):au prog 80 [.agg (Ai p)] V fun x S'=>x=(if At p then .ret (.tup []) else .panic unf)/\S'=V:=by
 obtain⟨p1,p2,p3,p4,p5,p6,p7⟩:=p.wt_le
 have ws:=H6 p
 have fY:∀c∈p.aa,c.ag.length<=1073741824/\c.ae.length<=1073741824/\c.ai.length<=1073741824:=fun c hc=>by
  obtain⟨k,hk,rfl⟩:=bh hc
  have:=p5 k hk
  have gV:(p.aa[k]).wt=1+(p.aa[k]).ag.length+(p.aa[k]).ae.length+(p.aa[k]).ai.length:=rfl
  omega
 have gW:∀c∈p.aa,c.ag.length<=1073741824:=fun c hc=>(fY c hc).1
 have gX:∀x∈p.aa.map (·.ag),x.length<=1073741824:=fun x hx=>by obtain⟨c,hc,rfl⟩:=bO.1 hx;exact(fY c hc).1
 refine en func80 ntmps80 ?_
 by_cases gJ:p.aa.length<=10
 ·repeat' first|refine gz ?_|apply gy<;>intro hh
  ·refine AB [1,7,8,9,10,11,12,13,15,22,23,48,49,50,51,52,53,54,55,56,57,58,59,60,61,62,63,64,65,66,67,68,69,70,71,72,73,74,75,76,77,78,79,80,81,82,83,84,85,86,87,88,89,90,91,92,93,94,95,96,97,98,99,100,101,102,103,104,105,106,107,108,109,110,111] (fun (i:Nat) (n:Int)=>i<=p.aa.length/\n=wtL (fun c:ax=>c.ae.length) (p.aa.take i)/\BC 0 p.aa=BC n (p.aa.drop i)) (fun i n=>[(24,dI i),(2,dI n)]) (fun _ _=>V) (fun i _=>p.aa.length-i) (0) (0) (by simp[wtL]) (fun i n hI=>?_)
   obtain⟨hi,hn,hR⟩:=hI
   by_cases h:i<p.aa.length
   ·have hx:=fY _ (aJ h)
    have hT:=IE (fun c:ax=>c.ae.length) p.aa i h
    have iE:=EY (fun c:ax=>c.ae.length) p.aa (i+1)
    rw[A2 h,BC]at hR
    by_cases h4:4<(p.aa[i]).ae.length
    ·have hc:BC 0 p.aa=none:=by rw[hR,aS h4]
     have hF:At p=false:=by unfold At;rw[hc];simp
     repeat' first|((with_reducible refine finP (S':=V) ?_);exact⟨by first|(simp[hF];done)|(simp_all [hF];done),rfl⟩)|refine gz ?_|apply gy<;>intro hh
    ·rw[aN h4]at hR
     generalize gN:(p.aa[i]).ae=sl' at*
     try refine gf gN ?_
     refine B5 [1,4,7,8,9,10,11,12,13,15,22,23,24,25,26,27,28,29,30,31,32,33,34,35,47,48,49,50,51,52,53,54,55,56,57,58,59,60,61,62,63,64,65,66,67,68,69,70,71,72,73,74,75,76,77,78,79,80,81,82,83,84,85,86,87,88,89,90,91,92,93,94,95,96,97,98,99,100,101,102,103,104,105,106,107,108,109,110,111] (fun (q:Nat)=>q<=sl'.length/\CH n sl'=CH (n+q) (sl'.drop q)) (fun q=>[(36,dI q),(2,dI (n+q))]) (fun _=>V) (fun q=>sl'.length-q) (0) (by simp) (fun q hI=>?_)
     obtain⟨hq,hQ⟩:=hI
     by_cases gE:q<sl'.length
     ·rw[A2 gE,CH]at hQ
      have gY:=hx.2.1
      have gQ:0<=n:=by omega
      have e8:n<=1073741824:=by omega
      by_cases gj:sl'[q]=n+q
      ·rw[aS gj]at hQ
       try refine gf gj ?_
       exact⟨q+1,⟨by omega,by rw[hQ,Int.add_assoc];rfl⟩,td1,wkR⟩
      ·rw[aN gj]at hQ
       have hc:BC 0 p.aa=none:=by rw[hR,hQ]
       have hF:At p=false:=by unfold At;rw[hc];simp
       repeat' first|((with_reducible refine finP (S':=V) ?_);exact⟨by first|(simp[hF];done)|(simp_all [hF];done),rfl⟩)|refine gz ?_|apply gy<;>intro hh
     ·rw[A1 gE,CH]at hQ
      rw[hQ]at hR
      have gZ:q=sl'.length:=by omega
      try refine gz ?_
      exact⟨i+1,n+q,⟨by omega,by rw[hT];omega,hR⟩,td1,wkR⟩
   ·rw [A1 h,BC] at hR
    by_cases hs:n=p.ae
    ·cases hg:Bu (p.aa.map (·.ag))with
     |false=>
      have hF:At p=false:=by unfold At;rw[hR,hg];simp
      repeat' first|((with_reducible refine finP (S':=V) ?_);exact⟨by first|(simp[hF];done)|(simp_all [hF];done),rfl⟩)|refine gf hg ?_|apply gy<;>intro hh
     | true =>
      have f0:At p=Bo p 0 p.aa:=by unfold At;rw[hR];simp[hs,hg,gJ]
      try refine gf hg ?_
      refine B5 [1,7,61,62] (fun (j:Nat)=>j<=p.aa.length/\Bo p 0 p.aa=Bo p j (p.aa.drop j)) (fun j=>[(63,dI j)]) (fun _=>V) (fun j=>p.aa.length-j) (0) (by simp) (fun j hI=>?_)
      obtain⟨hj,hJ⟩:=hI
      by_cases h':j<p.aa.length
      ·have hx:=fY _ (aJ h')
       have iy:=JS p ((j:Int)+3)
       rw[A2 h',Bo]at hJ
       by_cases hl:linE (p.aa.map (·.ag)) ((j:Int)+3)=0
       ·rw[aX hl,aW]at hJ
        generalize gH:(p.aa[j]).ai=ins' at hJ hx
        try refine gf (gi gH hl) ?_
        refine newSI (fun im ij=>?_)
        try refine gf gH ?_
        refine B5 [1,7,8,9,10,11,12,13,61,62,63,64,65,66,67,68,69,70,71,72,73,74,75,76,77,78,79,80,81,82,83,84,85,111] (fun (k:Nat)=>k<=ins'.length/\DM (hasP p ((j:Int)+3)) [] ins'=DM (hasP p ((j:Int)+3)) ((ins'.take k).map (·.slot)) (ins'.drop k)) (fun k=>[(86,dI k)]) (fun k=>V.set im (.map (eSI ((ins'.take k).map (·.slot))))) (fun k=>ins'.length-k) (0) (by simp) (fun k hI=>?_)
        obtain⟨hk,hK⟩:=hI
        by_cases gu:k<ins'.length
        ·have iq:=hx.2.2
         rw[A2 gu,DM]at hK
         repeat' first|((with_reducible refine finP (S':=V) ?_);exact⟨by first|(simp[f0,hJ,hK];done)|(simp_all [f0,hJ,hK];done),rfl⟩)|refine gz ?_|apply gy<;>intro hh
         rename_i q1 q2
         have q3:¬ins'[k].slot∈(ins'.take k).map (·.slot):=by simpa using q2
         have q4:(ins'.take (k+1)).map (·.slot)=(ins'.take k).map (·.slot)++[ins'[k].slot]:=by rw[bE gu,bI];rfl
         have q5:=ins_new q3
         simp only[<-List.map_take,q5,<-q4]
         exact⟨k+1,by refine⟨by omega,?_⟩;rw[hK,hh,aX q1,aV q3,q4];rfl,td1,wkR⟩
        ·rw[A1 gu,DM]at hK
         rw[hK,aW]at hJ
         try refine gz ?_
         exact⟨j+1,⟨by omega,hJ⟩,td1,wkR⟩
       ·rw[aV hl,bi,bi]at hJ
        have hF:At p=false:=by rw[f0,hJ]
        repeat' first|((with_reducible refine finP (S':=V) ?_);exact⟨by first|(simp[hF];done)|(simp_all [hF];done),rfl⟩)|refine gz ?_|apply gy<;>intro hh
      ·rw[A1 h',Bo]at hJ
       have hF:At p=true:=by rw[f0,hJ]
       try refine gz ?_
       exact fe0 hF
    ·have hF:At p=false:=by unfold At;rw[hR];simp[hs]
     repeat' first|((with_reducible refine finP (S':=V) ?_);exact⟨by first|(simp[hF];done)|(simp_all [hF];done),rfl⟩)|refine gz ?_|apply gy<;>intro hh
 ·have hF:At p=false:=by unfold At;rw[aV gJ];rfl
  repeat' first|((with_reducible refine finP (S':=V) ?_);exact⟨by first|(simp[hF];done)|(simp_all [hF];done),rfl⟩)|refine gz ?_|apply gy<;>intro hh
@[reducible,instance] def a80:=fun p V=>gh1 (@X5 p V)
theorem SN{x:Int}(h0:0<=x)(h1:x<18446744073709551616):IntKind.u64.wrap x=x:=by
 have e1:(2:Int) ^ IntKind.u64.bits=18446744073709551616:=by decide
 have e3:IntKind.u64.signed=false:=rfl
 simp only[IntKind.wrap,e1,e3,bi,bj,bd]
 omega
theorem andU(n:Nat)(h:n<=1073741824):binD .and (.int .u64 n) (.int .u64 4294967295)=some (.int .u64 n):=by
 simp only[binD,bp]
 have e:((BitVec.ofInt IntKind.u64.bits (n:Int) &&& BitVec.ofInt IntKind.u64.bits 4294967295).toNat)=n:=by
  rw[BitVec.toNat_and]
  show(BitVec.ofInt 64 (n:Int)).toNat &&& (BitVec.ofInt 64 4294967295).toNat=n
  rw[show(4294967295:Int)=((2 ^ 32-1:Nat):Int) from rfl,BitVec.ofInt_natCast,BitVec.ofInt_natCast,BitVec.toNat_ofNat,BitVec.toNat_ofNat]
  rw[ey (by omega),ey (by omega),Nat.and_two_pow_sub_one_eq_mod,ey (by omega)]
 rw[e,SN (by omega) (by omega)]
theorem shrU(k:IntKind)(n:Nat)(h:n<=1073741824):binD .shr (.int .u64 n) (.int k 32)=some (.int .u64 0):=by
 simp only[binD]
 rw[aS (by decide)]
 congr 2
 show(n:Int).fdiv (2 ^ 32)=0
 rw[Int.fdiv_eq_ediv_of_nonneg _ (by decide)]
 omega
theorem UG(n:Nat)(V:Sig)(hn:n<=1073741824:=by exact sd):au prog 227 [.int .u64 1,.int .u64 n] V (rS (.tup [.int .u64 0,.int .u64 n]) V):=by
 have a1:binD .and (.int .u64 1) (.int .u64 4294967295)=some (.int .u64 1):=andU 1 (by omega)
 have a0:binD .and (.int .u64 0) (.int .u64 4294967295)=some (.int .u64 0):=andU 0 (by omega)
 have an:=andU n hn
 have s1:∀k,binD .shr (.int .u64 1) (.int k 32)=some (.int .u64 0):=fun k=>shrU k 1 (by omega)
 have s0:∀k,binD .shr (.int .u64 0) (.int k 32)=some (.int .u64 0):=fun k=>shrU k 0 (by omega)
 have sn:=fun k=>shrU k n hn
 have wn:IntKind.u64.wrap (n:Int)=n:=SN (by omega) (by omega)
 have w0:IntKind.u64.wrap 0=0:=SN (by omega) (by omega)
 refine en func227 ntmps227 ?_
 refine gf (gi a1 (gi a0 (gi an (gi s1 (gi s0 (gi sn (gi wn w0))))))) ?_
 exact fe2 trivial
@[reducible,instance] def a227:=fun n V=>ah1 (@UG n V)
theorem Ve(n:Nat)(V:Sig)(hn:n<=1073741824:=by exact sd):au prog 169 [.int .u64 1,.int .u64 n] V (rS (.tup [.int .u64 0,.int .u64 n]) V):=by
 refine en func169 ntmps169 ?_
 refine gz ?_
 exact fe2 trivial
@[reducible,instance] def a169:=fun n V=>ah1 (@Ve n V)
theorem X3(n:Nat)(V:Sig)(h1:1<=n)(hn:n<=1048576):au prog 82 [.slice [[dI (-1)]] .no,dI n] V fun x S'=> ∃r,V r=none/\x=.ret (.ap r 0 n n)/\S'=V.set r (.cells ((List.replicate n (-1:Int)).map dI)):=by
 have wn:IntKind.u64.wrap (n:Int)=n:=SN (by omega) (by omega)
 have w1:IntKind.u64.wrap 1=1:=SN (by omega) (by omega)
 refine en func82 ntmps82 ?_
 refine gf (gi wn w1) ?_ o82
 refine TD (k:=n) (c:=n) (sz:=1) (z:=[dI 0]) (fun i hi hm=>?_)
 have e0:mS V (some (i,n,(List.replicate (n-n) [dI 0]).flatten)) (List.replicate n [dI 0])=V.set i (.cells (List.replicate n (dI 0))):=by simp[mS]
 rw[e0]
 refine gz ?_ o82
 refine LK Af (m:=1) (cs:=[dI (-1)]) (e:=3) (i:=i) (off:=0) (len:=n) (cap:=n) (ds:=List.replicate n (dI 0)) (by decide) (by simp<;>rfl) (by simp) (by simp) tdR (w7 ..) (by simp) (SW (es:=[[dI (-1)]]) tdR (by simp)) (by rfl) ?_
 have e1:(V.set i (.cells (List.replicate n (dI 0)))).set i (.cells (List.take 0 (List.replicate n (dI 0))++(List.take (min 1 n) [dI (-1)]++List.drop (0+min 1 n) (List.replicate n (dI 0)))))=V.set i (.cells (List.replicate 1 (dI (-1))++List.replicate (n-1) (dI 0))):=by
  rw[w9,show min 1 n=1 by omega];simp
 rw[e1,show((min 1 n:Nat):Int)=1 by omega]
 refine gz ?_ o82
 refine B5 [4,7,47] (fun (b:Nat)=>1<=b/\b<=n) (fun b=>[(8,dI b)]) (fun b=>V.set i (.cells (List.replicate b (dI (-1))++List.replicate (n-b) (dI 0)))) (fun b=>n-b) (1) (by omega) (fun b hI=>?_)
 obtain⟨iD,iC⟩:=hI
 by_cases h:b<n
 ·refine gz ?_
  refine NB (id:=9) [0,1,2,3,4,5,6,7,8,9] [7] V ((Sub.refl _).set hi) ?_
  refine gz ?_ o82
  refine mo_cutL Af (i:=i) (off:=0) (len:=n) (cap:=n) (lo:=b) (e:=3) (k:=.i64) ?_ (by decide) (by simp<;>rfl) (by simp) tdR tdR (by omega) (by omega)
  rw[show 0+b*(tab 3).size=b by simp]
  refine gz ?_ o82
  refine mo_cutH Af (i:=i) (off:=0) (len:=n) (cap:=n) (hi:=b) (e:=3) (k:=.i64) ?_ (by decide) (by simp<;>rfl) (by simp) tdR tdR (by omega)
  refine mo1 (fun U2 hγ=>?_) rfl
  have v1:=hγ (.tmp 41) (by simp[Op.operands,Call.operands])
  have v2:=hγ (.tmp 44) (by simp[Op.operands,Call.operands])
  have iB:(List.replicate b (dI (-1))++List.replicate (n-b) (dI 0)).length=n:=by simp;omega
  refine LK Af (m:=b) (cs:=((List.replicate b (dI (-1))++List.replicate (n-b) (dI 0)).drop 0).take b) (e:=3) (i:=i) (off:=b) (len:=n-b) (cap:=n-b) (ds:=List.replicate b (dI (-1))++List.replicate (n-b) (dI 0)) (by decide) (by simp<;>rfl) (by simp) (by simp) (by rw[v1];with_unfolding_all rfl) (w7 ..) (by omega) (by rw[v2];exact Wv (off:=0) (w7 ..) (by omega)) (by simp[Db,D.flat]) ?_
  have e2:List.take b (List.replicate b (dI (-1))++List.replicate (n-b) (dI 0))++(List.take (min b (n-b)) (List.take b (List.drop 0 (List.replicate b (dI (-1))++List.replicate (n-b) (dI 0))))++List.drop (b+min b (n-b)) (List.replicate b (dI (-1))++List.replicate (n-b) (dI 0)))=List.replicate (b+min b (n-b)) (dI (-1))++List.replicate (n-(b+min b (n-b))) (dI 0):=by
   have t1:List.take b (List.replicate b (dI (-1))++List.replicate (n-b) (dI 0))=List.replicate b (dI (-1)):=by rw[eb (by simp)];simp
   have t2:List.drop (b+min b (n-b)) (List.replicate b (dI (-1))++List.replicate (n-b) (dI 0))=List.replicate (n-(b+min b (n-b))) (dI 0):=by
    rw[List.drop_append,cN (by simp),br,List.drop_replicate];congr 1;simp;omega
   rw[dO,t1,t2,<-aT]
   congr 1
   rw[List.take_replicate,fi];congr 1;omega
  rw[w9,e2]
  refine AP ⟨rfl,?_⟩
  refine⟨(Sub.refl _).set hi,?_⟩
  refine gz ?_ o82
  exact⟨b+min b (n-b),by omega,td1,wkR⟩
 ·have hb:b=n:=by omega
  subst hb
  refine gz ?_ o82
  refine fin1 (S':=V.set i (.cells ((List.replicate b (-1)).map dI))) ?_ (hZ:=by simp;exact Sub.refl _)
  exact⟨i,hi,rfl,rfl⟩
def OutO{S:Type}(u r:D)(Good:Sig->S->Prop)(Bad:Sig->Prop)(touch:Nat->Prop)(V:Sig):Option S->DE->Sig->Prop
 |none,x,S'=>x=.panic u/\Bad S'
 |some s,x,S'=>x=.ret r/\Good S' s /\ ∀j o,V j=some o->¬touch j->S' j=some o
theorem OutO.ret{S:Type}{u r d:D}{Good:Sig->S->Prop}{Bad:Sig->Prop}{touch:Nat->Prop}{V S':Sig}{o:Option S}(h:OutO u r Good Bad touch V o (.ret d) S'): ∃s,o=some s/\d=r/\Good S' s /\ ∀j o,V j=some o->¬touch j->S' j=some o:=by
 cases o with
 |none=>exact absurd h.1 (by simp)
 |some s=>exact⟨s,rfl,by simpa using h.1,h.2⟩
theorem OutO.pan{S:Type}{u r d:D}{Good:Sig->S->Prop}{Bad:Sig->Prop}{touch:Nat->Prop}{V S':Sig}{o:Option S}(h:OutO u r Good Bad touch V o (.panic d) S'):o=none/\d=u/\Bad S':=by
 cases o with
 |none=>exact⟨rfl,by simpa using h.1,h.2⟩
 |some s=>exact absurd h.1 (by simp)
section
variable {S:Type}
def Mq(f:Int->Int->S->Option S)(x:aA)(size:Int):Nat->fF->S->Option S
 |_,[],s=>some s
 |j,c::r,s=>match f c (if x.op=9/\j=1 then size+1 else size) s with
  |none=>none
  |some s'=>Mq f x size (j+1) r s'
def H8(p:aw)(step:Nat->Int->Int->S->Option S):Nat->Int->Int->S->Option S
 |0,_,_,_=>none
 |k+1,node,size,s=>match step (k+1) node size s with
  |none=>none
  |some s'=>Mq (H8 p step k) (As p node) size 0 (As p node).ah s'
end
theorem Vc{S:Type}(p:aw)(l i:Nat)(Good:Sig->S->Prop)(Bad:Sig->Prop)(touch:Nat->Prop)(step:Nat->Int->Int->S->Option S)(hp:p.wt<=1073741824)(gC:¬touch i)
  (gg:∀node size s,step 0 node size s=none) (gb:∀k node size s s',step k node size s=some s'->0<=node/\node<p.nodes.length)
  (hy:∀(k:Nat) (d node size:Int) V s,d=13-(k:Int)->0<=size->size+k<=1000->Good V s->DYield prog l [dI node,.agg [dI size,dI d]] V (OutO unf (.bool true) Good Bad touch V (step k node size s))) :
  ∀(k:Nat) (d node size:Int) V s,d=13-(k:Int)->0<=size->size+k<=1000->k<=13->Good V s->V i=some (.cells [.func (.func 171) [] [.am [.yld l] 0,.am (Ai p) 0,.ptr i 0]])->
   au prog 171 [dI node,.agg [dI size,dI d],.am [.yld l] 0,.am (Ai p) 0,.ptr i 0] V (OutO unf (.bool true) Good Bad touch V (H8 p step k node size s)):=by
 obtain⟨p1,p2,p3,p4,p5,p6,p7⟩:=p.wt_le
 intro k
 induction k with
 | zero =>
  intro d node size V s hd h0 fL hk hG hi
  refine en func171 ntmps171 ?_
  refine gz ?_
  refine yldW (hy 0 d node size V s hd h0 fL hG) (fun e S' hr=>?_) (fun e S' hr=>?_)
  ·rw[gg]at hr;obtain⟨_,h,_⟩:=hr.ret;cases h
  ·obtain⟨_,rfl,hb⟩:=hr.pan
   exact finP (S':=S') ⟨rfl,hb⟩
 | succ k ih =>
  intro d node size V s hd h0 fL hk hG hi
  refine en func171 ntmps171 ?_
  refine gz ?_ [] [10]
  refine yldW (hy (k+1) d node size V s hd h0 fL hG) (fun e S' hr=>?_) (fun e S' hr=>?_)
  ·obtain⟨s',fZ,rfl,gA,hK⟩:=hr.ret
   obtain⟨gQ,g7⟩:=gb _ _ _ _ _ fZ
   obtain⟨q,rfl⟩:∃q:Nat,node=(q:Int):=⟨node.toNat,by omega⟩
   have hq:q<p.nodes.length:=by omega
   have iv:=hK i _ hi gC
   have go:As p q=p.nodes[q]:=by unfold As;simp[aM hq]
   have hW:H8 p step (k+1) q size s=Mq (H8 p step k) p.nodes[q] size 0 (p.nodes[q]).ah s':=by rw[H8,fZ];simp only;rw[go]
   rw[hW]
   have gS:(p.nodes[q]).ah.length<=1073741824:=by have:=p7 q hq;unfold aA.wt at this;omega
   generalize hx:p.nodes[q]=x at*
   refine gf hx ?_ [] [10]
   refine CK [0,3,4,6,21,22] (fun (j:Nat) (s1:S) (S1:Sig)=>j<=x.ah.length/\Good S1 s1/\Mq (H8 p step k) x size 0 x.ah s'=Mq (H8 p step k) x size j (x.ah.drop j) s1/\(∀j o,V j=some o->¬touch j->S1 j=some o)) (fun j _ _=>[(23,dI j)]) (fun _ _ S1=>S1) (fun j _ _=>x.ah.length-j) (0) (s') (S') (by exact⟨by omega,gA,by simp,hK⟩) (fun j s1 S1 hI=>?_)
   obtain⟨hj,fW,hR,e9⟩:=hI
   have fJ:=e9 i _ hi gC
   by_cases gG:j<x.ah.length
   ·rw [A2 gG,Mq] at hR
    have g9:(k:Int)<=12:=by omega
    refine gf (gi hx fJ) ?_ [] [10]
    refine newV (fun a ha=>?_)
    have gI:i≠a:=fun e=>by rw[e,ha]at fJ;cases fJ
    have hz:0<=(if x.op=9/\j=1 then size+1 else size)/\(if x.op=9/\j=1 then size+1 else size)+(k:Int)<=1000:=by split<;>omega
    have hc:=ih (d+1) x.ah[j] (if x.op=9/\j=1 then size+1 else size) S1 s1 (by omega) hz.1 hz.2 (by omega) fW fJ
    by_cases hl:x.op=9/\j=1
    ·rw[aS hl]at hR hc
     obtain⟨fO,rfl⟩:=hl
     refine gf (gi hx (gi fJ (gi fO gI))) ?_ [] [10]
     refine drp S1 ?_
     refine Ac hc (fun e S2 hr=>?_) (fun e S2 hr=>?_)
     ·obtain⟨s2,gc,rfl,gx,gw⟩:=hr.ret
      rw[gc]at hR
      refine gz ?_ [] [10]
      exact⟨1+1,s2,S2,⟨by omega,gx,hR,fun j o h1 h2=>gw _ _ (e9 _ _ h1 h2) h2⟩,td1,wkR⟩
     ·obtain⟨hn,rfl,hb⟩:=hr.pan
      rw[hn]at hR;rw[hR]
      exact finP (S':=S2) ⟨rfl,hb⟩
    ·rw[aN hl]at hR hc
     have gR:¬(x.op=9/\(j:Int)=1):=by omega
     repeat' first|refine gf (gi hx (gi fJ gI)) ?_ [] [10]|apply gy<;>intro hh
     all_goals
      refine drp S1 ?_
      refine Ac hc (fun e S2 hr=>?_) (fun e S2 hr=>?_)
      ·obtain⟨s2,gc,rfl,gx,gw⟩:=hr.ret
       rw[gc]at hR
       refine gz ?_ [] [10]
       exact⟨j+1,s2,S2,⟨by omega,gx,hR,fun j o h1 h2=>gw _ _ (e9 _ _ h1 h2) h2⟩,td1,wkR⟩
      ·obtain⟨hn,rfl,hb⟩:=hr.pan
       rw[hn]at hR;rw[hR]
       exact finP (S':=S2) ⟨rfl,hb⟩
   ·rw[A1 gG,Mq]at hR
    rw[hR]
    refine gf hx ?_ [] [10]
    refine fin1 (S':=S1) ?_
    exact⟨rfl,fW,e9⟩
  ·obtain⟨fZ,rfl,hb⟩:=hr.pan
   have hW:H8 p step (k+1) node size s=none:=by rw[H8,fZ]
   rw[hW]
   exact finP (S':=S') ⟨rfl,hb⟩
def Keep(touch:Nat->Prop)(V S':Sig):Prop:= ∀j o,V j=some o->¬touch j->S' j=some o
theorem Keep.refl(touch:Nat->Prop)(V:Sig):Keep touch V V:=fun _ _ h _=>h
theorem Keep.trans{touch:Nat->Prop}{a b c:Sig}(h:Keep touch a b)(k:Keep touch b c):Keep touch a c:=fun j o h1 h2=>k _ _ (h _ _ h1 h2) h2
theorem Keep.fresh{touch:Nat->Prop}{a b:Sig}(h:Keep touch a b){i:Nat}{o:DObj}(hi:a i=none):Keep touch a (b.set i o):=fun j x h1 h2=>by
 rw[w8 _ _ fun e=>by rw[e,hi]at h1;cases h1];exact h _ _ h1 h2
theorem Vd{S:Type}(p:aw)(l:Nat)(Good:Sig->S->Prop)(Bad:Sig->Prop)(touch:Nat->Prop)(step:Nat->Int->Int->S->Option S)(hp:p.wt<=1073741824)
  (gg:∀node size s,step 0 node size s=none) (gb:∀k node size s s',step k node size s=some s'->0<=node/\node<p.nodes.length)
  (hy:∀(k:Nat) (d node size:Int) V s,d=13-(k:Int)->0<=size->size+k<=1000->Good V s->DYield prog l [dI node,.agg [dI size,dI d]] V (OutO unf (.bool true) Good Bad touch V (step k node size s)))
  (hm : ∀ V s a o,Good V s->V a=none->Good (V.set a o) s) (k:Nat) (d node size:Int) (V:Sig) (s:S) (ht : ∀ a,V a=none -> ¬ touch a) (hd:d=13-(k:Int)) (h0:0<=size) (fL:size+k<=1000) (hk:k<=13) (hG:Good V s) :
   au prog 170 [.yld l,.am (Ai p) 0,.am [dI node] 0,.am [dI size,dI d] 0] V (OutO unf (.tup []) Good Bad touch V (H8 p step k node size s)):=by
 refine en func170 ntmps170 ?_
 refine gz ?_ [] [5]
 refine newV (fun a ha=>?_)
 refine gz ?_ [] [5]
 refine Ac (Vc p l a Good Bad touch step hp (ht a ha) gg gb hy k d node size (V.set a _) s hd h0 fL hk (hm _ _ _ _ hG ha) (w7 ..)) (fun e S' hr=>?_) (fun e S' hr=>?_)
 ·obtain⟨s',hs',rfl,gA,hK⟩:=hr.ret
  rw[hs']
  refine gz ?_ [] [5]
  refine Ef (S':=S') ?_
  exact⟨rfl,gA,fun j o h1 h2=>hK j o (by rw[w8 _ _ fun e=>by rw[e,ha]at h1;cases h1];exact h1) h2⟩
 ·obtain⟨hn,rfl,hb⟩:=hr.pan
  rw[hn]
  exact finP (S':=S') ⟨rfl,hb⟩
theorem X2(p:aw)(node size d:Int)(V:Sig):au prog 84 [.agg (Ai p),dI node,.agg [dI size,dI d]] V (rS (.func (.func 170) [] [.am (Ai p) 0,.am [dI node] 0,.am [dI size,dI d] 0]) V):=by
 refine en func84 ntmps84 ?_
 refine gz ?_
 exact fe1 trivial
@[reducible,instance] def a84:=fun p node size d V=>ah0 (@X2 p node size d V)
theorem Uf(p:aw)(x:aA)(k:Int)(V:Sig):au prog 327 [dI k,.agg (Ai p),.agg (Ab x)] V (rS (dI k) V):=by
 refine en func327 ntmps327 ?_
 refine gz ?_
 exact fe1 trivial
theorem Ue(p:aw)(x:aA)(V:Sig)(h0:0<=x.n:=by exact sd)(h1:x.n<p.aj.length:=by exact sd)(hl:p.aj.length<=1073741824:=by exact sd):au prog 328 [.agg [],.agg (Ai p),.agg (Ab x)] V (rS (dI (p.aj.getD x.n.toNat 0)) V):=by
 refine en func328 ntmps328 ?_
 obtain⟨q,hq⟩:∃q:Nat,x.n=(q:Int):=⟨x.n.toNat,by omega⟩
 have gP:q<p.aj.length:=by omega
 have hg:p.aj.getD x.n.toNat 0=p.aj[q]:=by rw[hq,bg];simp[gP]
 rw[hg]
 refine gf hq ?_
 exact fe1 trivial
theorem meth327 : Ku prog 140 "consort/bind.many" 327 := by
 intro v w;kernel_rfl
theorem meth328 : Ku prog 142 "consort/bind.many" 328 := by
 intro v w;kernel_rfl
theorem Y1{ro:Option Nat}{n:Nat}{ops:Array Oper}{N:Nat}{S0 V:Sig}{Q:DX->St->Prop}{df:List DDf}{γ Sr:Fr}{t:Nat}{ty:TypeId}{pos:String}{after:Array Edge}{l:List (Bool×Oper)}{d e:D}{rv:Operand}{name:String}{args:Array Operand}{ats:Array TypeId}{f T:Nat}{us:fE}(hM:Ku prog T name f)(h:au prog f (d::us) V (rS e V))(k:MO prog ro n ops N S0 Q df l ((t,e)::γ) V)
  (hl:A8 γ (Ad (rv::args.toList))=some Sr:=by exact tdR) (hx:ev Sr rv=.iface T d:=by exact tdR) (ha:args.toList.map (ev Sr)=us:=by exact tdR) (gB:decide (t<n)=true:=by exact tdR) (hC:Sub S0 V:=by first|exact Sub.refl _|assumption) :
  MO prog ro n ops N S0 Q df ((true,⟨some t,.call { callee:=.invoke rv name,args,argTypes:=ats },ty,pos,after,none⟩)::l) γ V:=by
 refine mo1 (fun U2 hγ=>?_) gB
 have he:∀x∈rv::args.toList,ev U2 x=ev Sr x:=fun x hx=>by
  rw[hγ x (by simpa[Op.operands,Call.operands] using hx)]
  exact(Co fun t ht=>B7 hl t (Bw (by rw[<-ht];exact hx))).symm
 refine Kf rfl (by rw[he rv (by simp)];exact hx) hM h ?_ (by simpa[AD] using gB) (fun d' S' ⟨e1,e2⟩=>?_) (fun d' S' ⟨e1,e2⟩=>by cases e1)
 ·rw[show args.toList.map (ev U2)=args.toList.map (ev Sr) from bT fun x h=>he x (by simp[h]),ha]
  exact Eh _
 ·cases e1;subst e2
  exact AP ⟨rfl,by simp only[putD,Aa,bp];exact⟨hC,k⟩⟩
def Iz(p:aw)(inM:Bool):Nat->Int->Int->fF->Option fF
 |0,_,_,_=>none
 |_+1,node,size,s=>
  if node<0\/(p.nodes.length:Int)<=node\/0<=s.getD node.toNat 0 then none else
  if((As p node).ah.length:Int)≠Cx p (As p node)\/Bn p (As p node) size=false\/((As p node).op=18/\inM=false) then none else some (s.set node.toNat size)
def optW:Bool×fF->Option fF
 |(true,s)=>some s
 |(false,_)=>none
theorem L7(f:Int->Int->fF->Bool×fF)(x:aA)(size:Int): ∀(j:Nat) (l s:fF),Mq (fun a b c=>optW (f a b c)) x size j l s=optW (BE f x size j l s)
 |_,[],s=>rfl
 | j,c::r,s=>by
  rw[Mq,BE]
  cases h:f c (if x.op=9/\j=1 then size+1 else size) s with
  |mk b s'=>cases b with
   |false=>rfl
   |true=>simp only[optW];exact L7 f x size (j+1) r s'
theorem KK(p:aw)(inM:Bool): ∀(k:Nat) (node size:Int) (s:fF),H8 p (Iz p inM) k node size s=optW (C0 p inM k node size s)
 |0,_,_,_=>rfl
 | k+1,node,size,s=>by
  rw[H8,C0,Iz]
  by_cases h1:node<0\/(p.nodes.length:Int)<=node\/0<=s.getD node.toNat 0
  ·rw[aS h1,aS h1];rfl
  ·rw[aN h1,aN h1]
   by_cases h2:((As p node).ah.length:Int)≠Cx p (As p node)\/Bn p (As p node) size=false\/((As p node).op=18/\inM=false)
   ·rw[aS h2,aS h2];rfl
   ·rw[aN h2,aN h2]
    have e:H8 p (Iz p inM) k=fun a b c=>optW (C0 p inM k a b c):=by funext a b c;exact KK p inM k a b c
    simp only[e]
    exact L7 _ _ _ _ _ _
theorem LG{P:Program}{n:Nat}{Q:DX->St->Prop}{γ:Fr}{V:Sig}{df:List DDf}{gop:Operand}{ps:Array Tmp}{asg body:Code}{f:Nat}{first cap:fE}{S:Type}{u:D}(G:Nat->Sig->S->Prop)(Bad:Nat->Sig->Prop)(touch:Nat->Prop)(o:Option S)
  (hf:ev γ gop=.func (.func f) first cap)
  (fV:∀l did,V did=none->V l=none->l≠did->∀LO,LO=DObj.loop .ready none ps asg body n γ did->au P f (first++[.yld l]++cap) ((V.set did .defs).set l LO) (OutO u (.tup []) (fun S' s=>S' l=some LO/\G did S' s) (Bad did) touch ((V.set did .defs).set l LO) o))
  (gh:∀l did s S',o=some s->V did=none->V l=none->l≠did->G did S' s->Q .normal ⟨γ,S'.del l,.coll did::df⟩)
  (gk:∀did S',o=none->V did=none->Bad did S'->Q (.panic u) ⟨γ,S',.coll did::df⟩) :
  DWp P none n (.rangeFunc gop ps asg body) Q ⟨γ,V,df⟩:=by
 refine Fj (R:=fun l did=>OutO u (.tup []) (fun S' s=>S' l=some (DObj.loop .ready none ps asg body n γ did)/\G did S' s) (Bad did) touch ((V.set did .defs).set l (DObj.loop .ready none ps asg body n γ did)) o) hf (fun l did h1 h2 h3=>fV l did h1 h2 h3 _ rfl) (fun l did d S' h1 h2 h3 hr=>?_) (fun l did d S' h1 h2 h3 hr=>?_)
 ·obtain⟨s,hs,rfl,⟨hl,hG⟩,hK⟩:=hr.ret
  exact⟨_,_,hl,by simp,gh l did s S' hs h1 h2 h3 hG⟩
 ·obtain⟨hn,rfl,hb⟩:=hr.pan
  exact gk did S' hn h1 hb
theorem endM{P:Program}{n:Nat}{fn:Func}{R:DE->Sig->Prop}{γ:Fr}{V:Sig}{did:Nat}(h:R (.ret (.tup [])) (V.del did))(hd:V did=some .defs)(hr:fn.results=#[]:=by rfl): ∃s',Wk P n ⟨γ,V,[.coll did]⟩ s'/\SK P n fn (Weak R) .normal s':=
 ⟨_,Wk.refl _ _ _,[did],rfl,by simp,by simp[hd],.tup [],Ej (by simp[resD,hr]),F0 h⟩
theorem endMP{P:Program}{n:Nat}{fn:Func}{R:DE->Sig->Prop}{γ:Fr}{V:Sig}{did:Nat}{d:D}(h:R (.panic d) (V.del did))(hd:V did=some .defs): ∃s',Wk P n ⟨γ,V,[.coll did]⟩ s'/\SK P n fn (Weak R) (.panic d) s':=
 ⟨_,Wk.refl _ _ _,[did],rfl,by simp,by simp[hd],F0 h⟩
theorem Keep.del{touch:Nat->Prop}{a b:Sig}(h:Keep touch a b){i:Nat}(hi:a i=none):Keep touch a (b.del i):=fun j x h1 h2=>by
 have e:j≠i:=fun e=>by rw[e,hi]at h1;cases h1
 simp only[Sig.del,e,bd];exact h _ _ h1 h2
theorem Keep.base{touch:Nat->Prop}{a b:Sig}{i:Nat}{o:DObj}(h:Keep touch (a.set i o) b)(hi:a i=none):Keep touch a b:=fun j x h1 h2=>
 h _ _ (by rw[w8 _ _ fun e=>by rw[e,hi]at h1;cases h1];exact h1) h2
def Ck:DObj->DObj
 |.loop _ _ ps a b n γ d=>.loop .busy none ps a b n γ d
 |o=>o
def XD(c:Code):DObj->DObj
 |.loop _ _ ps a b n γ d=>.loop .done (some c) ps a b n γ d
 |o=>o
def R7(l:Nat)(LO:DObj)(R:DE->Sig->Prop):DX->St->Prop
 |.normal,s=>s.V l=some (Ck LO)/\R (.ret (.bool true)) (s.V.set l LO)
 |.ret,s=>s.V l=some (Ck LO)/\R (.ret (.bool false)) (s.V.set l (XD .ret LO))
 |.panic d,s=>s.df=[]/\R (.panic d) s.V
 |.exit id,s=>s.V l=some (Ck LO)/\R (.ret (.bool false)) (s.V.set l (XD (.exit id) LO))
theorem Ez{P:Program}{l:Nat}{args:fE}{V:Sig}{R:DE->Sig->Prop}{ps:Array Tmp}{asg body:Code}{n:Nat}{Sl:Fr}{did:Nat}{LO:DObj}(f6:LO=.loop .ready none ps asg body n Sl did)(hZ:V l=some LO)
  (h:DWp P (some l) n asg (Then (fun s=>s.V l=some LO/\DWp P (some l) n body (R7 l LO R) { s with V:=s.V.set l (Ck LO) }) (fun _ _=>False)) ⟨R2 ps.toList args Sl,V,[]⟩) (hl:ps.toList.length=args.length:=by rfl) (hp:∀p∈ps.toList,p<n:=by decide):DYield P l args V R:=by
 subst f6
 refine MP hZ hl hp ?_
 have e:R7 l (.loop .ready none ps asg body n Sl did) R=Yg l ps asg body n Sl did R:=by funext x s;cases x<;>rfl
 rw[<-e]
 exact h
theorem MD (p:aw) (io r:Nat) (inM:Bool) (node size:Int) (s:fF) (V:Sig) (hp:p.wt<=1073741824) (fR:V io=some (.cells [.ap r 0 p.nodes.length p.nodes.length])) (hr:V r=some (.cells (s.map dI))) (hs:s.length=p.nodes.length) (hne:io ≠ r) (hz:0<=size) (gK:size<=900) :
  au prog 83 [dI node,dI size,.bool inM,.am (Ai p) 0,.ptr io 0] V (OutO unf (.tup []) (fun S' s'=>S' r=some (.cells (s'.map dI))/\s'.length=p.nodes.length/\Keep (· = r) V S') (fun S'=>Keep (· = r) V S') (· = r) V (optW (C0 p inM 12 node size s))):=by
 obtain⟨p1,p2,p3,p4,p5,p6,p7⟩:=p.wt_le
 rw[<-KK]
 refine Bj func83 rfl (by decide) ntmps83 (by simp) ?_
 refine gz ?_ o83
 refine LG (u:=unf) (fun did S' s'=>S' r=some (.cells (s'.map dI))/\s'.length=p.nodes.length/\Keep (· = r) (V.set did .defs) S') (fun did S'=>Keep (· = r) (V.set did .defs) S') (· = r) (H8 p (Iz p inM) 12 node size s) rfl (fun l did hd hl gr LO f6=>?_) (fun l did s' S' ho hd hl gr hG=>?_) (fun did S' ho hd hb=>?_)
 ·have fN:r ≠ did:=fun e=>by rw [e,hd] at hr;cases hr
  have gF:io≠did:=fun e=>by rw[e,hd]at fR;cases fR
  rw[<-w8 V DObj.defs gF]at fR
  rw[<-w8 V DObj.defs fN]at hr
  rw[<-w8 V DObj.defs gr]at hl
  clear hd fN gF
  generalize V.set did .defs=Sd at*
  refine Vd p l _ _ _ (Iz p inM) hp (fun _ _ _=>rfl) (fun k node size s s' h=>by
   cases k with
   |zero=>cases h
   |succ k=>
    rw[Iz]at h
    split at h
    ·cases h
    ·omega) (fun k d node size S1 s1 hd gT gK hG=>?_) (fun S1 s1 a o hG ha=>?_) 12 1 node size _ s (fun a ha e=>?_) (by omega) hz (by omega) (by omega) ?_
  ·obtain ⟨fO,d9,gO,e9⟩:=hG
   refine Ez f6 fO ?_
   clear f6
   refine gz ?_ o83
   refine⟨fO,?_⟩
   have d7:=e9 io _ fR hne
   have d6:l≠io:=fun e=>by rw[e,fR]at hl;cases hl
   have d8:l≠r:=fun e=>by rw[e,hr]at hl;cases hl
   have f7:=e9.fresh (o:=Ck LO) hl
   cases k with
   |zero=>
    repeat' first|(exact⟨rfl,rfl,f7⟩)|refine gf (gi d7 (gi d9 (gi d6 (gi d8 hne)))) ?_ o83|apply gy<;>intro hh
   | succ k =>
    by_cases hn:node<0\/(p.nodes.length:Int)<=node
    ·have hS:Iz p inM (k+1) node size s1=none:=by rw[Iz,aS (by omega)]
     rw[hS]
     repeat' first|(exact⟨rfl,rfl,f7⟩)|refine gf (gi d7 (gi d9 (gi d6 (gi d8 hne)))) ?_ o83|apply gy<;>intro hh
    ·obtain ⟨q,rfl⟩ : ∃ q:Nat,node=(q:Int):=⟨node.toNat,by omega⟩
     have hq:q<p.nodes.length:=by omega
     have gD:q<s1.length:=by omega
     have fU:s1.getD ((q:Int)).toNat 0=s1[q]:=by simp[bg,gD]
     by_cases h2:0<=s1[q]
     ·have hS:Iz p inM (k+1) q size s1=none:=by rw[Iz,aS (by rw[fU];omega)]
      rw[hS]
      repeat' first|(exact⟨rfl,rfl,f7⟩)|refine gf (gi d7 (gi d9 (gi d6 (gi d8 hne)))) ?_ o83|apply gy<;>intro hh
     ·have go:As p q=p.nodes[q]:=by unfold As;simp [hq]
      have hS:Iz p inM (k+1) q size s1=if((p.nodes[q]).ah.length:Int)≠Cx p p.nodes[q]\/Bn p p.nodes[q] size=false\/((p.nodes[q]).op=18/\inM=false) then none else some (s1.set q size):=by
       rw[Iz,aN (by rw[fU];omega),go];simp
      have gS:(p.nodes[q]).ah.length<=1073741824:=by have:=p7 q hq;unfold aA.wt at this;omega
      generalize hx:p.nodes[q]=x at*
      have fK:∀o,Keep (· = r) Sd ((S1.set l (Ck LO)).set r o):=fun o j x h1 h2=>by rw[w8 _ _ h2];exact f7 j x h1 h2
      cases e8:Bn p x size with
      |false=>
       rw[aS (.inr (.inl e8))]at hS
       rw[hS]
       repeat' first|(exact⟨rfl,rfl,fK _⟩)|refine gf (gi d7 (gi d9 (gi d6 (gi d8 (gi hne (gi hx e8)))))) ?_ o83|apply gy<;>intro hh
      | true =>
       by_cases f9:x.op=18/\inM=false
       ·rw[aS (.inr (.inr f9))]at hS
        rw[hS]
        repeat' first|(exact⟨rfl,rfl,fK _⟩)|refine gf (gi d7 (gi d9 (gi d6 (gi d8 (gi hne (gi hx (gi e8 f9.2))))))) ?_ o83|apply gy<;>intro hh
        all_goals exact absurd f9.1 (by assumption)
       ·
        repeat' first|refine gf (gi d7 (gi d9 (gi d6 (gi d8 (gi hne (gi hx e8)))))) ?_ o83|apply gy<;>intro hh
        all_goals try (exfalso;grind)
        all_goals
         have fX:Bn p x size=false\/(x.op=18/\inM=false)->False:=fun h=>h.elim (by rw[e8];simp) f9
         have e7:(((S1.set l (Ck LO)).set r (.cells (List.take q (List.map dI s1)++dI size::List.drop (q+1) (List.map dI s1)))) l=some (Ck LO)) /\
           (fun S'=>(S' l=some LO/\S' r=some (.cells ((s1.set q size).map dI))/\(s1.set q size).length=p.nodes.length/\Keep (· = r) Sd S')/\Keep (· = r) S1 S') (((S1.set l (Ck LO)).set r (.cells (List.take q (List.map dI s1)++dI size::List.drop (q+1) (List.map dI s1)))).set l LO):=by
          refine⟨by rw[w8 _ _ d8,w7],⟨w7 ..,?_,by simpa using gO,fun j o h1 h2=>?_⟩,fun j o h1 h2=>?_⟩
          ·rw[w8 _ _ (aQ d8),w7,eH,cr,aS (by simpa using gD)]
          ·rw[w8 _ _ fun e=>by rw[e,hl]at h1;cases h1];exact fK _ j o h1 h2
          ·by_cases hj:j=l
           ·rw[hj]at h1⊢; rw[w7,<-h1,fO]
           ·rw[w8 _ _ hj,w8 _ _ h2,w8 _ _ hj];exact h1
         cases hk:KD x.op with
         | some kk =>
          have fQ:Ex x.op=.iface 140 (dI kk):=by unfold Ex;rw[hk]
          have fP:Cx p x=kk:=by unfold Cx;rw[hk]
          rw[fP]at hS
          refine gf (gi fQ (gi d7 (gi d9 (gi d6 (gi d8 (gi hne hx)))))) ?_ o83
          refine Y1 meth327 (Uf p x kk _) ?_
          repeat' first|refine gz ?_ o83|apply gy<;>intro hh
          ·have h6:=hh
           rw[hS,aN (fun h=>h.elim (fun h=>h h6) fX)]
           exact⟨e7.1,rfl,e7.2⟩
          ·have h6:=hh
           rw[hS,aS (.inl h6)]
           exact⟨rfl,rfl,fK _⟩
         | none =>
          by_cases h5:x.op=5
          ·have fQ:Ex x.op=.iface 142 (.agg []):=by unfold Ex;rw[hk];simp[h5]
           have gn:0<=x.n/\x.n<p.aj.length:=by simpa[Bn,h5] using e8
           have fP:Cx p x=p.aj[x.n.toNat]'(by omega):=by unfold Cx;rw[hk];simp[h5,gn,bg,show x.n.toNat<p.aj.length by omega]
           rw[fP]at hS
           refine gf (gi fQ (gi d7 (gi d9 (gi d6 (gi d8 (gi hne hx)))))) ?_ o83
           refine Y1 meth328 (Ue p x _ gn.1 gn.2) ?_
           repeat' first|refine gz ?_ o83|apply gy<;>intro hh
           ·have h6:=hh
            rw[hS,aN (fun h=>h.elim (fun h=>h h6) fX)]
            exact⟨e7.1,rfl,e7.2⟩
           ·have h6:=hh
            rw[hS,aS (.inl h6)]
            exact⟨rfl,rfl,fK _⟩
          ·have fQ:Ex x.op=.niliface:=by unfold Ex;rw[hk];simp[h5]
           have fP:Cx p x = -1:=by unfold Cx;rw[hk];simp[h5]
           rw[hS,aS (.inl (by rw[fP];omega))]
           repeat' first|(exact⟨rfl,rfl,fK _⟩)|refine gf (gi fQ (gi d7 (gi d9 (gi d6 (gi d8 (gi hne hx)))))) ?_ o83|apply gy<;>intro hh
  ·obtain⟨g1,g2,g3,g4⟩:=hG
   refine⟨by rw[w8 _ _ fun e=>by rw[e,ha]at g1;cases g1];exact g1,by rw[w8 _ _ fun e=>by rw[e,ha]at g2;cases g2];exact g2,g3,fun j x h1 h2=>?_⟩
   have:=g4 j x h1 h2
   rw[w8 _ _ fun e=>by rw[e,ha]at this;cases this];exact this
  ·have fM:r≠l:=fun e=>by rw[e,hl]at hr;cases hr
   subst e
   rw[w8 _ _ fM,hr]at ha;cases ha
  ·have fM:r≠l:=fun e=>by rw[e,hl]at hr;cases hr
   exact⟨w7 .., by rw[w8 _ _ fM];exact hr,hs,(Keep.refl _ Sd).fresh hl⟩
 ·rw[ho]
  have fM:r≠l:=fun e=>by rw[e,hl]at hr;cases hr
  have fN:r≠did:=fun e=>by rw[e,hd]at hr;cases hr
  have gv:¬did=r:=aQ fN
  refine gz ?_ o83
  have hk:=((hG.2.2.base hd).del hl).del hd
  refine endM ⟨rfl,⟨by simp[Sig.del,fN,fM];exact hG.1,hG.2.1,hk⟩,hk⟩ ?_
  simp only[Sig.del,aQ gr,bd]
  exact hG.2.2 did _ (w7 ..) gv
 ·rw[ho]
  have gv:¬did=r:=fun e=>by rw[<-e,hd]at hr;cases hr
  exact endMP ⟨rfl,(hb.base hd).del hd⟩ (hb did _ (w7 ..) gv)
def anyS{α S:Type}(f:α->S->Bool×S):List α->S->Bool×S
 |[],s=>(false,s)
 |x::r,s=>match f x s with
  |(true,s')=>(true,s')
  |(false,s')=>anyS f r s'
def allS{α S:Type}(f:α->S->Bool×S):List α->S->Bool×S
 |[],s=>(true,s)
 |x::r,s=>match f x s with
  |(false,s')=>(false,s')
  |(true,s')=>allS f r s'
theorem N0{α S:Type}(f:α->S->Bool×S): ∀(l:List α) (s:S),allS f l s=(!(anyS (fun x s=>(!(f x s).1,(f x s).2)) l s).1,(anyS (fun x s=>(!(f x s).1,(f x s).2)) l s).2)
 |[],s=>rfl
 |x::r,s=>by
  rw[allS,anyS]
  rcases h:f x s with⟨b,s'⟩
  cases b
  ·simp
  ·simp only[cw];exact N0 f r s'
theorem Lh(l:fF)(q:Int->Bool)(g:Nat)(first cap:fE)(o:Own)(V:Sig)(hl:l.length<=1073741824)
  (hg:∀x∈l,au prog g (first++dI x::cap) V fun r S''=>r=.ret (.bool (q x))/\S''=V) :
  au prog 309 [.slice (cI l) o,.func (.func g) first cap] V (rS (dI (idxF q l 0)) V):=by
 refine en func309 ntmps309 ?_
 refine gz ?_
 refine B5 [0,1,7] (fun (k:Nat)=>k<=l.length/\idxF q l 0=idxF q (l.drop k) k) (fun k=>[(8,dI k)]) (fun _=>V) (fun k=>l.length-k) (0) td3 (fun k hI=>?_)
 obtain⟨hk,hR⟩:=hI
 by_cases h:k<l.length
 ·rw[A2 h,idxF]at hR
  repeat' first|refine Aq (hg (l[k]) (aJ h)) ?_|refine callP (hg (l[k]) (aJ h)) ?_|refine gf h ?_|apply gy<;>intro hh
  ·exact fe1 hR
  ·exact⟨k+1,⟨by omega,by rw[hR,hh];rfl⟩,td1,wkR⟩
 ·refine gf h ?_
  (refine fin1 (S':=V) ?_;exact⟨by first|rfl|(simp[hR,A1 h,idxF];done)|(simp_all [hR,A1 h,idxF];done)|(rw[A5,aO];simp_all [hR,A1 h,idxF]<;>omega),rfl⟩)
theorem Ll(l:fF)(q:Int->Bool)(g:Nat)(first cap:fE)(o:Own)(V:Sig)(hl:l.length<=1073741824)
  (hg:∀x∈l,au prog g (first++dI x::cap) V fun r S''=>r=.ret (.bool (q x))/\S''=V) :
  au prog 293 [.slice (cI l) o,.func (.func g) first cap] V (rS (.bool (l.any q)) V):=by
 refine en func293 ntmps293 ?_
 repeat' first|refine gz ?_|refine Aq (Lh l q g first cap o V hl hg) ?_|refine callP (Lh l q g first cap o V hl hg) ?_|refine gz ?_|apply gy<;>intro hh
 (refine fin1 (S':=V) ?_;exact⟨by first|rfl|(simp[Em];done)|(simp_all [Em];done)|(rw[A5,aO];simp_all [Em]<;>omega),rfl⟩)
theorem Lk(q:Int->Bool)(g:Nat)(first cap:fE)(x:Int)(V:Sig)
  (hg:au prog g (first++dI x::cap) V fun r S''=>r=.ret (.bool (q x))/\S''=V) :
  au prog 294 [dI x,.am [.func (.func g) first cap] 0] V (rS (.bool (!q x)) V):=by
 refine en func294 ntmps294 ?_
 repeat' first|refine Aq (hg) ?_|refine callP (hg) ?_|refine gz ?_|apply gy<;>intro hh
 exact fe1 trivial
theorem Gn(l:fF)(q:Int->Bool)(g:Nat)(first cap:fE)(o:Own)(V:Sig)(hl:l.length<=1073741824)
  (hg:∀x∈l,au prog g (first++dI x::cap) V fun r S''=>r=.ret (.bool (q x))/\S''=V) :
  au prog 268 [.slice (cI l) o,.func (.func g) first cap] V (rS (.bool (l.all q)) V):=by
 refine en func268 ntmps268 ?_
 repeat' first|refine gz ?_|refine Aq (Ll l (fun x=> !q x) 294 [] [.am [.func (.func g) first cap] 0] o V hl (fun x hx=>Lk q g first cap x V (hg x hx))) ?_|refine callP (Ll l (fun x=> !q x) 294 [] [.am [.func (.func g) first cap] 0] o V hl (fun x hx=>Lk q g first cap x V (hg x hx))) ?_|refine gz ?_|apply gy<;>intro hh
 (refine fin1 (S':=V) ?_;exact⟨by first|rfl|(simp[cZ];done)|(simp_all [cZ];done)|(rw[A5,aO];simp_all [cZ]<;>omega),rfl⟩)
theorem Ug{S:Type}(l:List Fact)(f:Fact->S->Bool×S)(g:Nat)(first cap:fE)(o:Own)(Good:Sig->S->Prop)(hl:l.length<=1073741824)
  (hg:∀x∈l, ∀V s,Good V s->au prog g (first ++ .agg (AS x)::cap) V fun r S'=>r=.ret (.bool (f x s).1)/\Good S' (f x s).2) (V:Sig) (s:S) (hG:Good V s) :
  au prog 310 [.slice (l.map AS) o,.func (.func g) first cap] V fun x S'=> ∃i:Int,x=.ret (dI i)/\decide (0<=i)=(anyS f l s).1/\Good S' (anyS f l s).2:=by
 refine en func310 ntmps310 ?_
 refine gz ?_
 refine CK [0,1,7] (fun (k:Nat) (s1:S) (S1:Sig)=>k<=l.length/\Good S1 s1/\anyS f l s=anyS f (l.drop k) s1) (fun k _ _=>[(8,dI k)]) (fun _ _ S1=>S1) (fun k _ _=>l.length-k) (0) (s) (V) (by exact⟨by omega,hG,rfl⟩) (fun k s1 S1 hI=>?_)
 obtain⟨hk,fW,hR⟩:=hI
 by_cases h:k<l.length
 ·rw[A2 h,anyS]at hR
  refine gf h ?_
  refine Ac (hg (l[k]) (aJ h) S1 s1 fW) (fun e S2 hr=>?_) (fun e S2 hr=>?_)
  ·obtain⟨h1,h2⟩:=hr
   simp only[DE.ret.injEq]at h1
   subst h1
   rcases hf:f l[k] s1 with⟨b,s2⟩
   rw[hf]at hR h2
   cases b
   ·refine gz ?_
    exact⟨k+1,s2,S2,⟨by omega,h2,hR⟩,td1,wkR⟩
   ·refine gz ?_
    refine fin1 (S':=S2) ?_
    exact⟨k,rfl,by rw[hR];simp,by rw[hR];exact h2⟩
  ·cases hr.1
 ·rw[A1 h,anyS]at hR
  refine gf h ?_
  refine fin1 (S':=S1) ?_
  exact⟨-1,rfl,by rw[hR];rfl,by rw[hR];exact fW⟩
theorem Uo{S:Type}(l:List Fact)(f:Fact->S->Bool×S)(g:Nat)(first cap:fE)(o:Own)(Good:Sig->S->Prop)(hl:l.length<=1073741824)
  (hg:∀x∈l, ∀V s,Good V s->au prog g (first ++ .agg (AS x)::cap) V fun r S'=>r=.ret (.bool (f x s).1)/\Good S' (f x s).2) (V:Sig) (s:S) (hG:Good V s) :
  au prog 295 [.slice (l.map AS) o,.func (.func g) first cap] V fun x S'=>x=.ret (.bool (anyS f l s).1)/\Good S' (anyS f l s).2:=by
 refine en func295 ntmps295 ?_
 refine gz ?_
 refine Ac (Ug l f g first cap o Good hl hg V s hG) (fun e S2 hr=>?_) (fun e S2 hr=>?_)
 ·obtain⟨i,h1,h2,h3⟩:=hr
  simp only[DE.ret.injEq]at h1
  subst h1
  refine gz ?_
  refine fin1 (S':=S2) ?_
  exact⟨by rw[<-h2],h3⟩
 ·obtain⟨i,h1,_⟩:=hr;cases h1
theorem Un{S:Type}(f:Fact->S->Bool×S)(g:Nat)(first cap:fE)(Good:Sig->S->Prop)(x:Fact)(V:Sig)(s:S)(hg:au prog g (first ++ .agg (AS x)::cap) V fun r S'=>r=.ret (.bool (f x s).1)/\Good S' (f x s).2):
  au prog 296 [.agg (AS x),.am [.func (.func g) first cap] 0] V fun r S'=>r=.ret (.bool (!(f x s).1))/\Good S' (f x s).2:=by
 refine en func296 ntmps296 ?_
 refine gz ?_
 refine Ac hg (fun e S2 hr=>?_) (fun e S2 hr=>?_)
 ·obtain⟨h1,h2⟩:=hr
  simp only[DE.ret.injEq]at h1
  subst h1
  refine gz ?_
  refine fin1 (S':=S2) ?_
  exact⟨rfl,h2⟩
 ·cases hr.1
theorem Ob{S:Type}(l:List Fact)(f:Fact->S->Bool×S)(g:Nat)(first cap:fE)(o:Own)(Good:Sig->S->Prop)(hl:l.length<=1073741824)
  (hg:∀x∈l, ∀V s,Good V s->au prog g (first ++ .agg (AS x)::cap) V fun r S'=>r=.ret (.bool (f x s).1)/\Good S' (f x s).2) (V:Sig) (s:S) (hG:Good V s) :
  au prog 270 [.slice (l.map AS) o,.func (.func g) first cap] V fun x S'=>x=.ret (.bool (allS f l s).1)/\Good S' (allS f l s).2:=by
 refine en func270 ntmps270 ?_
 refine gz ?_
 refine Ac (Uo l (fun x s=>(!(f x s).1,(f x s).2)) 296 [] [.am [.func (.func g) first cap] 0] o Good hl (fun x hx V s hG=>Un f g first cap Good x V s (hg x hx V s hG)) V s hG) (fun e S2 hr=>?_) (fun e S2 hr=>?_)
 ·obtain⟨h1,h2⟩:=hr
  simp only[DE.ret.injEq]at h1
  subst h1
  refine gz ?_
  refine fin1 (S':=S2) ?_
  exact⟨by rw[N0],by rw[N0];exact h2⟩
 ·cases hr.1
end Go.DL
