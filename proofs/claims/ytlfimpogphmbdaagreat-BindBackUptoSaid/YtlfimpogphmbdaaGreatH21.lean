/- A part of the proof. -/
import Derived.Test.YtlfimpogphmbdaaGreatH20
set_option linter.all false
namespace Go.DL
open Go.Proofs.Tryz
open Go Go.Proofs
set_option maxHeartbeats 8000000
def DD(free am own:fP)(next:Bool)(e:aH):Bool:=(allE e).all (ko own am next)&&(kY e []).all fun x=>decide (x∈free)
def Ps(e:aH)(free am own:fP)(next:Bool)(o1 o2 o3:Own)(V:Sig)(hw:e.wt<=1073741824)(hf:free.length<=1073741824)(hs:am.length<=1073741824)(ho:own.length<=1073741824):
  aB prog 124 [.agg (Af e),.slice (cS free) o1,.slice (cS am) o2,.slice (cS own) o3,.bool next] V (rS (.bool (DD free am own next e)) V):=by
 have iD:=Eg e;have i76:∀V:Sig,Ans 76 [.agg (Af e)] V True (sl ((allE e).map Af)):=fun V=>ah0 (If e.wt e V (bn _) hw);refine en func124 ntmps124 ?_;refine gz ?_;generalize hl:allE e=l at*;refine Bb [1,2,3,4,5,11,13,14,54,55,56,57,58,59,60,61,62,63,64,65,66,67,68] (fun (k:Nat)=>k<=l.length/\l.all (ko own am next)=(l.drop k).all (ko own am next)) (fun k=>[(12,dI k)]) (fun _=>V) (fun k=>l.length-k) (0) k7 (fun k hI=>?_);obtain⟨hk,hR⟩:=hI;have d7:(l.drop k).all (ko own am next)=false->DD free am own next e=false:=fun h=>by unfold DD;rw[hl,hR,h];rfl
 by_cases d6:k<l.length
 ·rw[A0 d6,bU]at hR d7;generalize gk:l[k]=x at*
  by_cases h4:x.op=4
  ·have hN:ko own am next x=decide (x.text∈am):=by unfold ko;rw[aS (.inl h4)]
   rw[hN]at hR d7
   repeat' first|refine gf (gi gk h4) ?_|apply gy<;>intro hh
   ·have hq:=d7 (by rw[ba hh];rfl);exact fe1 hq
   ·exact⟨k+1,⟨k0,by rw[hR,bf hh,bd]⟩,td1,wkR⟩
  by_cases h7:x.op=7
  ·have hN:ko own am next x=decide (x.text∈am):=by unfold ko;rw[aS (.inr h7)]
   rw[hN]at hR d7
   repeat' first|refine gf (gi gk h7) ?_|apply gy<;>intro hh
   ·have hq:=d7 (by rw[ba hh];rfl);exact fe1 hq
   ·exact⟨k+1,⟨k0,by rw[hR,bf hh,bd]⟩,td1,wkR⟩
  by_cases h6:x.op=6
  ·have hN:ko own am next x=decide (x.text∈own):=by unfold ko;rw[aQ k0,aS (.inl h6)]
   rw[hN]at hR d7
   repeat' first|refine gf (gi gk h6) ?_|apply gy<;>intro hh
   ·have hq:=d7 (by rw[ba hh];rfl);exact fe1 hq
   ·exact⟨k+1,⟨k0,by rw[hR,bf hh,bd]⟩,td1,wkR⟩
  by_cases h8:x.op=8
  ·have hN:ko own am next x=decide (x.text∈own):=by unfold ko;rw[aQ k0,aS (.inr h8)]
   rw[hN]at hR d7
   repeat' first|refine gf (gi gk h8) ?_|apply gy<;>intro hh
   ·have hq:=d7 (by rw[ba hh];rfl);exact fe1 hq
   ·exact⟨k+1,⟨k0,by rw[hR,bf hh,bd]⟩,td1,wkR⟩
  by_cases gJ:x.op=18
  ·have hN:ko own am next x=next:=by unfold ko;rw[aQ k0,aQ k0,aS gJ]
   rw[hN]at hR d7
   repeat' first|refine gf (gi gk gJ) ?_|apply gy<;>intro hh
   ·have hq:=d7 (by rw[hh];rfl);exact fe1 hq
   ·exact⟨k+1,⟨k0,by rw[hR,hh,bd]⟩,td1,wkR⟩
  ·have hN:ko own am next x=true:=by unfold ko;rw[aQ k0,aQ k0,aQ gJ]
   rw[hN]at hR;refine gf (gi gk (gi h4 (gi h7 (gi h6 (gi h8 gJ))))) ?_;exact⟨k+1,⟨k0,by rw[hR,bd]⟩,td1,wkR⟩
 ·rw [A1 d6,eE] at hR;refine gz ?_;refine Ad (TA e _ hw) (fun d U' hr=>?_) (fun d U' hr=>by obtain⟨⟨_,h,_⟩,_⟩:=hr;cases h);obtain⟨⟨l',h1,h2,h3⟩,rfl⟩:=hr;cases h1;refine gz ?_;refine Bb [1,13] (fun (m:Nat)=>m<=l'.length /\ ∀x∈l'.take m,x∈free) (fun m=>[(14,dI m)]) (fun _=>U') (fun m=>l'.length-m) (0) k7 (fun m hI=>?_);obtain⟨hm,hM⟩:=hI
  by_cases gS:m<l'.length
  ·have gL:=bQ gS;have ja:=(h2 _).1 (aR gS);generalize iJ:l'[m]=x at*
   repeat' first|refine gf iJ ?_|apply gy<;>intro hh
   ·have hq:DD free am own next e=false:=by
     unfold DD;rw[fg];refine .inr (ep.2 fun h=>hh ?_);have:=bh.1 h x ja;simpa using this
    exact fe1 hq
   ·have iZ:∀y∈l'.take (m+1),y∈free:=fun y hy=>by
     rw[gL]at hy;rcases bi.1 hy with h|h
     ·exact hM y h
     ·rw[bq.1 h];exact hh
    exact⟨m+1,⟨k0,iZ⟩,td1,wkR⟩
  ·have hq:DD free am own next e=true:=by
    unfold DD;rw[hl,hR,bd,bh];intro x hx;rw[aP];refine hM x ?_;rw[bM k0];exact(h2 x).2 hx
   refine gz ?_;exact fe1 hq
@[reducible,instance] def a124:=fun e free am own next o1 o2 o3 V=>ah4 (@Ps e free am own next o1 o2 o3 V)
def BH:fP->List aJ->Bool
 |_,[]=>true
 |own,c::r=>(!decide (3<c.ap.length)&&!decide (4<c.am.length)&&difE [] c.ap)&&(c.ap.all (fun s=>decide (s∈own))&&BH (own++[c.name]) r)
def D9(f:aL):Bool:= !decide (10<f.ak.length)&&(BH [] f.ak&&(CR (f.ak.map (·.name))&&CR (f.ak.flatMap (·.am))))
def X2(f:aL)(V:Sig)(hw:f.wt<=1073741824):aB prog 120 [.agg (AS f)] V (rS (.bool (D9 f)) V):=by
 obtain⟨p1,p2,p3,p4,p5⟩:=f.wt_le
 have gP:∀c∈f.ak,c.ap.length<=1073741824/\c.am.length<=1073741824/\c.name.length<=1073741824 /\ ∀s∈c.am,s.length<=1073741824:=fun c hc=>by
  obtain⟨k,hk,rfl⟩:=bm hc;have:=p4 k hk;obtain⟨q1,q2,q3,_⟩:=(f.ak[k]).wt_le;have:=Bc (f.ak[k]).ap;have:=Bc (f.ak[k]).am;refine⟨k0,k0,k0,fun s hs=>?_⟩;obtain⟨j,hj,rfl⟩:=bm hs;have:=JN _ j hj;omega
 have gD:(f.ak.flatMap (·.am)).length<=1073741824:=by
  have h:∀l:List aJ,(l.flatMap (·.am)).length<=wtL aJ.wt l:=by
   intro l
   induction l with
   |nil=>simp[wtL]
   |cons c l ih=>simp only[cx,aO,wtL];have:=Bc c.am;have:=c.wt_le;omega
  have:=h f.ak;unfold aL.wt at hw;omega
 have i0:∀x∈f.ak.map (·.name),x.length<=1073741824:=fun x hx=>by obtain⟨c,hc,rfl⟩:=bD.1 hx;exact(gP c hc).2.2.1
 have jM:∀x∈f.ak.flatMap (·.am),x.length<=1073741824:=fun x hx=>by obtain⟨c,hc,hx⟩:=dw.1 hx;exact(gP c hc).2.2.2 x hx
 refine en func120 ntmps120 ?_
 by_cases gx:10<f.ak.length
 ·refine gz ?_ o120
  (refine kE (U':=V) ?_;exact⟨by first|rfl|(simp[D9,gx];done)|(simp_all [D9,gx];done)|(rw[A4,aW];simp_all [D9,gx]<;>omega),rfl⟩)
 have hN:D9 f=(BH [] f.ak&&(CR (f.ak.map (·.name))&&CR (f.ak.flatMap (·.am)))):=by unfold D9;rw[ba gx];rfl
 rw[hN];refine gz ?_ o120;refine BL 3 1 (fun i hi=>?_);refine AG [1,61,62,63,64,65,66,67] (fun (k:Nat) (own:fP)=>k<=f.ak.length/\own=(f.ak.take k).map (·.name)/\BH [] f.ak=BH own (f.ak.drop k)) (fun k own=>[(4,dI k),(3,.slice (cS own) (.tag i))]) (fun _ own=>V.set i (.tail 1 own.length)) (fun k _=>f.ak.length-k) (0) ([]) k7 (fun k own hI=>?_);obtain⟨hk,gc,hR⟩:=hI;have iY:own.length=k:=by rw[gc];simp;omega
 by_cases d6:k<f.ak.length
 ·rw [A0 d6,BH] at hR;have hq:=gP _ (aR d6);obtain⟨q1,q2,q3,q4⟩:=hq;generalize hc:f.ak[k]=c at*;have jr:(cS own).length=k:=by simp[cS,iY]
  have gL:List.take k (cS own++[[D.str c.name]])=cS own:=by rw[eB k0,bM k0]
  by_cases b1:3<c.ap.length
  ·have hq:BH [] f.ak=false:=by rw[hR,bf b1];rfl
   refine gf hc ?_ o120;exact fe1 hq
  by_cases b2:4<c.am.length
  ·have hq:BH [] f.ak=false:=by rw[hR,ba b1,bf b2];rfl
   refine gf hc ?_ o120;exact fe1 hq
  rw[ba b1,ba b2]at hR;simp only[fk,bd]at hR;cases b3:difE [] c.ap with
  |false=>
   have hq:BH [] f.ak=false:=by rw[hR,b3];rfl
   refine gf (gi hc b3) ?_ o120;exact fe1 hq
  | true =>
   rw[b3,bd]at hR;refine gf (gi hc b3) ?_ o120;refine Bb [1,3,4,5,11,12,13,14,15,16,17,18,19,20,21,22,23,24,25,26,27,28,29,30,31,32,33,34,35,36,37,38,39,40,41,42,43,61,62,63,64,65,66,67] (fun (j:Nat)=>j<=c.ap.length/\c.ap.all (fun s=>decide (s∈own))=(c.ap.drop j).all fun s=>decide (s∈own)) (fun j=>[(6,dI j)]) (fun _=>V.set i (.tail 1 (own.length+1))) (fun j=>c.ap.length-j) (0) k7 (fun j hI=>?_);obtain⟨hj,hP⟩:=hI
   by_cases fX:j<c.ap.length
   ·rw[A0 fX,bU]at hP;generalize hs:c.ap[j]=s at*
    repeat' first|refine gf (gi hc (gi hs gL)) ?_ o120|apply gy<;>intro hh
    ·have hq:BH [] f.ak=false:=by rw[hR,hP,ba hh];rfl
     exact fe1 hq
    ·exact⟨j+1,⟨k0,by rw[hP,bf hh,bd]⟩,td1,wkR⟩
   ·rw[A1 fX,eE]at hP;rw[hP,bd]at hR;refine gf hc ?_ o120;exact⟨k+1,own++[c.name],⟨k0,by rw[gc,bQ d6,bL,hc];rfl,hR⟩,td1,wkR⟩
 ·rw[A1 d6,BH]at hR;have e:own=f.ak.map (·.name):=by rw[gc,bM k0]
  rw[hR,bd,<-e];rw[<-e]at i0
  repeat' first|refine gz ?_ o120|apply gy<;>intro hh
  ·exact fe1 hh
  ·exact fe1 hh
@[reducible,instance] def a120:=fun f V=>ah1 (@X2 f V)
def idxF_lt{α:Type}(q:α->Bool): ∀(l:List α) (k:Nat),idxF q l k = -1\/((k:Int)<=idxF q l k/\idxF q l k<k+l.length)
 |[],k=>.inl rfl
 | x::r,k=>by
  rw[idxF];split
  ·right;simp only[aV];omega
  ·rcases idxF_lt q r (k+1)with h|h
   ·exact .inl h
   ·right;simp only[aV];omega
def CU(f:aL):fP->List Bool->List Bool
 |[],b=>b
 |s::r,b=>CU f r (b.set (idxF (fun c:aJ=>decide (c.name=s)) f.ak 0).toNat true)
def abvD(f:aL)(n:Nat):Nat->List Bool->List Bool
 |0,b=>b
 |i+1,b=>abvD f n i (if i≠n/\b.getD i false=false then b else CU f (((f.ak[i]?).map (·.ap)).getD []) b)
def abvF(f:aL)(n:Nat):List Bool:=abvD f n (n+1) (List.replicate f.ak.length false)
def ParOK(f:aL):Prop:= ∀c∈f.ak, ∀s∈c.ap,0<=idxF (fun c:aJ=>decide (c.name=s)) f.ak 0
def Wf(f:aL)(n:Nat)(V:Sig)(hw:f.wt<=1073741824)(hn:n<f.ak.length)(hp:ParOK f):aB prog 206 [.agg (AS f),dI n] V fun x U'=> ∃r,x=.ret (.ax r 0 f.ak.length f.ak.length)/\V r=none/\U'=V.set r (.cells (Bq (abvF f n))):=by
 obtain⟨p1,p2,p3,p4,p5⟩:=f.wt_le;have jr:f.ak.length<=1073741824:=by omega
 refine en func206 ntmps206 ?_;refine gz ?_ o206;refine V2 (k:=f.ak.length) (c:=f.ak.length) (z:=[.bool false]) (sz:=1) (fun i hi hm=>?_)
 have e0:mS V (some (i,f.ak.length,(List.replicate (f.ak.length-f.ak.length) [D.bool false]).flatten)) (List.replicate f.ak.length [D.bool false])=V.set i (.cells (Bq (List.replicate f.ak.length false))):=by
  simp only[mS,eh,fm,eU,br]
  congr 2
  generalize f.ak.length=m
  induction m with
  |zero=>rfl
  |succ m ih=>rw[dn,dn,cT,ih];rfl
 rw[e0];generalize fY:List.replicate f.ak.length false=b0;have iz:b0.length=f.ak.length:=by rw[<-fY];simp
 refine gf iz ?_ o206;refine AG [1,2,4,5,48] (fun (m:Nat) (bs:List Bool)=>m<=n+1/\bs.length=f.ak.length/\abvD f n m bs=abvF f n) (fun m _=>[(6,dI ((m:Int)-1))]) (fun _ bs=>V.set i (.cells (Bq bs))) (fun m _=>m) (n+1) (b0) (by exact⟨bn _,iz,by unfold abvF;rw[fY]⟩) (fun m bs hI=>?_);obtain⟨hm,gh,hU⟩:=hI;have iC:(V.set i (.cells (Bq bs))) i=some (.cells (Bq bs)):=w7 ..;cases m with
 |zero=>
  rw[abvD]at hU;subst hU;refine gz ?_ o206;exact kE (U':=V.set i (.cells (Bq (abvF f n)))) ⟨i,rfl,hi,rfl⟩
 | succ j =>
  have hj:j<f.ak.length:=by omega
  have jg:j<bs.length:=by omega
  have ej:((j+1:Nat):Int)-1=j:=by omega
  have jp:bs.getD j false=bs[j]:=by rw[bj,aT jg];rfl
  rw[abvD,jp,aT hj]at hU;simp only[bT,ca]at hU;have iv:=hp _ (aR hj);have gQ:(f.ak[j]).ap.length<=1073741824:=by have:=p4 j hj;have:=(f.ak[j]).wt_le;have:=Bc (f.ak[j]).ap;omega
  by_cases e8:j≠n/\bs[j]=false
  ·rw[aS e8]at hU;obtain⟨c1,c2⟩:=e8;refine gf (gi ej c2) ?_ o206;exact⟨j,bs,⟨k0,gh,hU⟩,td1,wkR⟩
  ·rw[aQ e8]at hU;generalize iq:(f.ak[j]).ap=ps at*
   by_cases c1:j=n
   ·subst c1;refine gf (gi ej iq) ?_ o206;refine AG [1,2,4,5,6,7,14,15,16,17,18,19,20,21,22,23,24,25,26,27,28,29,30,31,32,33,48] (fun (q:Nat) (b2:List Bool)=>q<=ps.length/\b2.length=f.ak.length/\CU f ps bs=CU f (ps.drop q) b2) (fun q _=>[(8,dI q)]) (fun _ b2=>V.set i (.cells (Bq b2))) (fun q _=>ps.length-q) (0) (bs) (by exact⟨k0,gh,rfl⟩) (fun q b2 hI=>?_);obtain⟨hq,f0,hR⟩:=hI;have jk:(V.set i (.cells (Bq b2))) i=some (.cells (Bq b2)):=w7 ..
    by_cases ga:q<ps.length
    ·have go:=iv _ (aR ga);have fZ:=idxF_lt (fun c:aJ=>decide (c.name=ps[q])) f.ak 0;rw[A0 ga,CU]at hR;generalize gN:ps[q]=s at*;obtain⟨p,gb⟩:∃p:Nat,idxF (fun c:aJ=>decide (c.name=s)) f.ak 0=(p:Int):=⟨_,(Int.toNat_of_nonneg go).symm⟩;rw[gb,show((p:Int)).toNat=p by omega]at hR;rw[gb]at fZ;have iX:p<b2.length:=by omega
     refine gf (gi gN gb) ?_ o206;exact⟨q+1,b2.set p true,⟨k0,by simpa using f0,hR⟩,td1,wkR⟩
    ·rw[A1 ga,CU]at hR;rw[hR]at hU;refine gz ?_ o206;exact⟨j,b2,⟨k0,f0,hU⟩,td1,wkR⟩
   ·have c2:bs[j]=true:=by cases h:bs[j];exact absurd ⟨c1,h⟩ e8;rfl
    refine gf (gi ej (gi c2 iq)) ?_ o206;refine AG [1,2,4,5,6,7,14,15,16,17,18,19,20,21,22,23,24,25,26,27,28,29,30,31,32,33,48] (fun (q:Nat) (b2:List Bool)=>q<=ps.length/\b2.length=f.ak.length/\CU f ps bs=CU f (ps.drop q) b2) (fun q _=>[(8,dI q)]) (fun _ b2=>V.set i (.cells (Bq b2))) (fun q _=>ps.length-q) (0) (bs) (by exact⟨k0,gh,rfl⟩) (fun q b2 hI=>?_);obtain⟨hq,f0,hR⟩:=hI;have jk:(V.set i (.cells (Bq b2))) i=some (.cells (Bq b2)):=w7 ..
    by_cases ga:q<ps.length
    ·have go:=iv _ (aR ga);have fZ:=idxF_lt (fun c:aJ=>decide (c.name=ps[q])) f.ak 0;rw[A0 ga,CU]at hR;generalize gN:ps[q]=s at*;obtain⟨p,gb⟩:∃p:Nat,idxF (fun c:aJ=>decide (c.name=s)) f.ak 0=(p:Int):=⟨_,(Int.toNat_of_nonneg go).symm⟩;rw[gb,show((p:Int)).toNat=p by omega]at hR;rw[gb]at fZ;have iX:p<b2.length:=by omega
     refine gf (gi gN gb) ?_ o206;exact⟨q+1,b2.set p true,⟨k0,by simpa using f0,hR⟩,td1,wkR⟩
    ·rw[A1 ga,CU]at hR;rw[hR]at hU;refine gz ?_ o206;exact⟨j,b2,⟨k0,f0,hU⟩,td1,wkR⟩
def H7:List aJ->List Bool->fP
 |c::cs,b::bs=>(if b=true then c.am else [])++H7 cs bs
 |_,_=>[]
def iniR(mine:fP):fP->List aM->Bool
 |_,[]=>true
 |seen,x::r=>(decide (x.slot∈mine)&&(!decide (x.slot∈seen)&&inB x.n))&&iniR mine (seen++[x.slot]) r
def inisR(f:aL):Nat->List aJ->Bool
 |_,[]=>true
 |i,c::r=>iniR (H7 f.ak ((abvF f i).set i true)) [] c.ar&&inisR f (i+1) r
def FU(f:aL): ∀(ps:fP) (b:List Bool),(CU f ps b).length=b.length
 |[],_=>rfl
 |s::r,b=>by rw[CU,FU f r,cg]
def Ld(f:aL)(n:Nat): ∀(i:Nat) (b:List Bool),(abvD f n i b).length=b.length
 |0,_=>rfl
 |i+1,b=>by
  rw[abvD,Ld f n i];split
  ·rfl
  ·rw[FU]
def Lc(f:aL)(n:Nat):(abvF f n).length=f.ak.length:=by rw[abvF,Ld,bB]
def X1(f:aL)(V:Sig)(hw:f.wt<=1073741824)(hp:ParOK f)(gx:f.ak.length<=10)(h4:∀c∈f.ak,c.am.length<=4):
  aB prog 121 [.agg (AS f)] V (rS (.bool (inisR f 0 f.ak)) V):=by
 obtain⟨p1,p2,p3,p4,p5⟩:=f.wt_le;refine en func121 ntmps121 ?_;refine gz ?_;refine Bb [1] (fun (i:Nat)=>i<=f.ak.length/\inisR f 0 f.ak=inisR f i (f.ak.drop i)) (fun i=>[(3,dI i)]) (fun _=>V) (fun i=>f.ak.length-i) (0) k7 (fun i hI=>?_);obtain⟨hi,hR⟩:=hI
 by_cases gG:i<f.ak.length
 ·rw [A0 gG,inisR] at hR;have jJ:=p4 i gG;have jh:((f.ak[i]).ar).length<=1073741824:=by have:=(f.ak[i]).wt_le;omega
  refine gz ?_;refine Ad (Wf f i _ hw gG hp) (fun d U' hr=>?_) (fun d U' hr=>by obtain⟨_,h,_⟩:=hr;cases h);obtain⟨r,h1,iU,rfl⟩:=hr;cases h1;have gh:=Lc f i;generalize fY:abvF f i=b0 at*;have iC:(V.set r (.cells (Bq b0))) r=some (.cells (Bq b0)):=w7 ..;have gu:i<b0.length:=by omega
  simp only[putD];refine gf (gi gh iC) ?_;generalize d9:b0.set i true=b1 at*;have gg:b1.length=f.ak.length:=by rw[<-d9,cg];exact gh
  refine BL 5 1 (fun ia gH=>?_);have iS:r≠ia:=fun e=>by rw[<-e,w7]at gH;cases gH
  have jx:V ia=none:=by rw[w8 _ _ (aZ iS)]at gH;exact gH
  have gr:(V.set r (.cells (Bq b1))) r=some (.cells (Bq b1)):=w7 ..;have fZ:∀o:kM,Sub V ((V.set r (.cells (Bq b1))).set ia o):=fun o=>((Sub.refl _).set iU).set jx;generalize iF:V.set r (.cells (Bq b1))=S1 at*;refine AG [1,2,3,4,6,8,9,10,11,12,13,14,15,16,17,18,19,20,21,22,41,42,43,44,45,46,47,48,49,50,51,52,53,54,55,56,57,58,59,60,61,62,63,64,65,66,67,68,69,70,71,72,73,74,75,76,77,78,79,80,81,82,83,84,85,86] (fun (k:Nat) (mine:fP)=>k<=f.ak.length/\mine.length<=4*k/\H7 f.ak b1=mine++H7 (f.ak.drop k) (b1.drop k)) (fun k mine=>[(7,dI k),(5,.slice (cS mine) (.tag ia))]) (fun _ mine=>S1.set ia (.tail 1 mine.length)) (fun k _=>f.ak.length-k) (0) ([]) k7 (fun k mine hI=>?_);obtain⟨hk,gS,hM⟩:=hI
  by_cases d6:k<f.ak.length
  ·have jf:k<b1.length:=by omega
   rw[A0 d6,A0 jf,H7]at hM;have jT:=h4 _ (aR d6);generalize jt:f.ak[k]=c at*;cases f8:b1[k]with
   |true=>
    rw[f8,aS rfl]at hM;refine gf (gi gr (gi gg (gi f8 jt))) ?_;exact⟨k+1,mine++c.am,⟨k0,by rw[aO];omega,by rw[hM,bc]⟩,td1,wkR⟩
   |false=>
    rw[f8,aQ k7,bG]at hM;refine gf (gi gr (gi gg f8)) ?_;exact⟨k+1,mine,⟨k0,k0,hM⟩,td1,wkR⟩
  ·rw [A1 d6,show H7 [] (b1.drop k)=[] by simp [H7],br] at hM;generalize ju:f.ak[i]=c at*;generalize jc:c.ar=l at*;refine gf (gi gg (gi ju jc)) ?_;refine BL 6 1 (fun ib gV=>?_);have gX:V ib=none:=(fZ _).none gV;refine AG [1,3,4,5,7,8,10,11,12,13,14,15,16,17,18,19,20,21,22,23,24,25,26,27,28,29,30,31,32,33,34,35,36,37,38,39,40,41,42,43,44,45,46] (fun (j:Nat) (seen:fP)=>j<=l.length/\seen.length<=j/\iniR mine [] l=iniR mine seen (l.drop j)) (fun j seen=>[(9,dI j),(6,.slice (cS seen) (.tag ib))]) (fun _ seen=>(S1.set ia (.tail 1 mine.length)).set ib (.tail 1 seen.length)) (fun j _=>l.length-j) (0) ([]) k7 (fun j seen hI=>?_);obtain⟨hj,gD,hL⟩:=hI;have iR:Sub V ((S1.set ia (.tail 1 mine.length)).set ib (.tail 1 seen.length)):=(fZ _).set gX;rw[hM,hL]at hR
   by_cases fX:j<l.length
   ·rw [A0 fX,iniR] at hR hL;generalize gA:l[j]=x at*
    by_cases m1:x.slot∈mine
    ·by_cases m2:x.slot∈seen
     ·have hq:inisR f 0 f.ak=false:=by rw[hR,bf m1,bf m2];rfl
      refine gf (gi gA (gi m1 m2)) ?_;exact fe1 hq
     ·cases m3:inB x.n with
      |false=>
       have hq:inisR f 0 f.ak=false:=by rw[hR,bf m1,ba m2,m3];rfl
       refine gf (gi gA (gi m1 (gi m2 m3))) ?_;exact fe1 hq
      |true=>
       rw[bf m1,ba m2,m3]at hL;simp only[fk,bd]at hL;refine gf (gi gA (gi m1 (gi m2 m3))) ?_;exact⟨j+1,seen++[x.slot],⟨k0,by simp;omega,hL⟩,td1,wkR⟩
    ·have hq:inisR f 0 f.ak=false:=by rw[hR,ba m1];rfl
     refine gf (gi gA m1) ?_;exact fe1 hq
   ·rw[A1 fX,iniR,bd]at hR;refine gz ?_;exact⟨i+1,⟨k0,hR⟩,td1,wkR⟩
 ·rw[A1 gG,inisR]at hR;refine gz ?_;exact fe1 hR
def fctC(P C:fP)(x:aI):Bool:=
 (decide ((x.aq.length:Int)=arF x.op)&&(if Al x.op=true then decide (x.name∈P) else(decide (x.name=[])&&decide (x.path=[])))&&decide (x.path.length<=2)) &&
 (((decide (x.op=2) == !decide (x.cls=[]))&&(!decide (x.op=2)||decide (x.cls∈C)))&&((decide (x.op=3\/x.op=4)||decide (x.n=0))&&inB x.n))
def fctB(P S C:fP)(x:aI):Bool:=decide (1<=x.op/\x.op<=7)&&(fctC P C x&&x.path.all (fun s=>decide (s∈S)))
mutual
def l6(P S C:fP):aI->Int->Int->Bool×Int
 |.mk o s p c n k,d,b=>if b-1<0\/12<d\/fctB P S C (.mk o s p c n k)=false then(false,b-1) else FH P S C k (d+1) (b-1)
def FH(P S C:fP):List aI->Int->Int->Bool×Int
 |[],_,b=>(true,b)
 |x::r,d,b=>if(l6 P S C x d b).1=true then FH P S C r d (l6 P S C x d b).2 else(false,(l6 P S C x d b).2)
end
section
variable {P S C:fP}
theorem Vw(e:aI)(d b:Int):l6 P S C e d b=if b-1<0\/12<d\/fctB P S C e=false then(false,b-1) else FH P S C e.aq (d+1) (b-1):=by cases e;rw[l6];rfl
mutual
theorem IV: ∀(e:aI) (d b:Int),(l6 P S C e d b).2<=b/\(0<=b-> -1<=(l6 P S C e d b).2)/\((l6 P S C e d b).1=true->0<=(l6 P S C e d b).2)
 | .mk o s p c n k,d,b=>by
  rw[l6];split
  ·refine⟨?_,?_,?_⟩<;>simp<;>omega
  ·have:=RF k (d+1) (b-1);exact⟨k0,fun h=>this.2.1 k0,fun h=>this.2.2 k0 h⟩
theorem RF: ∀(l:List aI) (d b:Int),(FH P S C l d b).2<=b/\(0<=b-> -1<=(FH P S C l d b).2)/\(0<=b->(FH P S C l d b).1=true->0<=(FH P S C l d b).2)
 |[],d,b=>by rw[FH];exact⟨dY _,fun h=>by simp;omega,fun h _=>h⟩
 | x::r,d,b=>by
  have h1:=IV x d b;rw[FH];split
  ·rename_i h;have h2:=RF r d (l6 P S C x d b).2;have:=h1.2.2 h;exact⟨k0,fun _=>h2.2.1 this,fun _ h3=>h2.2.2 this h3⟩
  ·exact⟨h1.1,h1.2.1,fun _ h3=>by cases h3⟩
end
theorem JD(x:aI):fctC P C x=true ↔
  ((x.aq.length:Int)=arF x.op/\((Al x.op=true/\x.name∈P)\/(Al x.op=false/\x.name=[]/\x.path=[]))/\x.path.length<=2) /\
  ((x.op=2/\x.cls≠[]/\x.cls∈C)\/(x.op≠2/\x.cls=[]))/\(((x.op=3\/x.op=4)\/x.n=0)/\inB x.n=true):=by
 unfold fctC;cases Al x.op<;>by_cases h2:x.op=2<;>by_cases hc:x.cls=[]<;>simp[h2,hc,and_assoc]
theorem Tz (ib:Nat) (hP:P.length<=1073741824) (hS:S.length<=1073741824) (hC:C.length<=1073741824) : ∀ (n:Nat) (f:aI) (d b:Int) (V:Sig),f.wt<=n->n<=1073741824->0<=d->d+n<=2000000000->0<=b->b<=1000->V ib=some (.cells [dI b]) ->
  aB prog 211 [.agg [sl (cS P),sl (cS S),sl (cS C)],.agg (AE f),dI d,.ptr ib 0] V fun x U'=>x=.ret (.bool (l6 P S C f d b).1)/\U'=V.set ib (.cells [dI (l6 P S C f d b).2]):=by
 intro n
 induction n with
 |zero=>
  intro f d b V hx;have:=f.wt_pos;omega
 | succ n ih =>
  intro f d b V hx hn hd jN fY d9 o1;obtain⟨w1,w2,w3,w4,gK⟩:=f.wt_le;have gQ:f.path.length<=1073741824:=by have:=Bc f.path;omega
  have jH:f.wt<=1073741824:=by omega
  have e7:(b-1<0\/12<d\/fctB P S C f=false)->l6 P S C f d b=(false,b-1):=fun h=>by rw[Vw,aS h]
  have g8:¬fctC P C f=true->fctB P S C f=false:=fun h=>by unfold fctB;rw[ep.2 h];simp
  refine en func211 ntmps211 ?_
  by_cases h1:b-1<0
  ·rw[e7 (.inl h1)];refine gf o1 ?_ lH;exact kE (U':=V.set ib (.cells [dI (b-1)])) ⟨rfl,rfl⟩
  by_cases h2:12<d
  ·rw[e7 (.inr (.inl h2))];refine gf o1 ?_ lH;exact kE (U':=V.set ib (.cells [dI (b-1)])) ⟨rfl,rfl⟩
  by_cases iy:1<=f.op/\f.op<=7
  ·refine Zq [(4, .aw [sl (cS P),sl (cS S),sl (cS C)] 0),(5, .aw (AE f) 0),(8, .bool false),(9, .bool (Al f.op)),(10,dI (arF f.op))] (V.set ib (.cells [dI (b-1)])) ?_ (fun _ hK => ?_)
   ·by_cases hA:(f.aq.length:Int)=arF f.op/\((Al f.op=true/\f.name ∈ P)\/(Al f.op=false/\f.name=[]/\f.path=[]))/\f.path.length<=2
    ·refine ky [] (V.set ib (.cells [dI (b-1)])) ?_ (fun _ hK => ?_)
     ·by_cases hB:(f.op=2/\f.cls≠[]/\f.cls∈C)\/(f.op≠2/\f.cls=[])
      ·refine ky [] (V.set ib (.cells [dI (b-1)])) ?_ (fun _ hK=>?_)
       ·by_cases hN:((f.op=3\/f.op=4)\/f.n=0)/\inB f.n=true
        ·refine ky [] (V.set ib (.cells [dI (b-1)])) ?_ (fun _ hK=>?_)
         ·have jE:fctC P C f=true:=(JD f).2 ⟨hA,hB,hN⟩;refine gz ?_ lH;refine Bb [2,3,4,5,12,144,145,146,147,148,149,150,151,152,153,154,155,156,157,158,159,160,161] (fun (k:Nat)=>k<=f.path.length/\f.path.all (fun s=>decide (s∈S))=(f.path.drop k).all fun s=>decide (s∈S)) (fun k=>[(11,dI k)]) (fun _=>V.set ib (.cells [dI (b-1)])) (fun k=>f.path.length-k) (0) k7 (fun k hI=>?_);obtain⟨hk,gv⟩:=hI
          by_cases d6:k<f.path.length
          ·rw[A0 d6,bU]at gv;generalize iW:f.path[k]=s at*
           repeat' first|refine gf iW ?_ lH|apply gy<;>intro hh
           ·have hq:fctB P S C f=false:=by unfold fctB;rw[gv,ba hh];simp
            rw[e7 (.inr (.inr hq))];exact kE (U':=V.set ib (.cells [dI (b-1)])) ⟨rfl,rfl⟩
           ·exact⟨k+1,⟨k0,by rw[gv,bf hh,bd]⟩,td1,wkR⟩
          ·rw[A1 d6,eE]at gv;have hq:fctB P S C f=true:=by unfold fctB;rw[gv,jE,bf iy];rfl
           have hE:l6 P S C f d b=FH P S C f.aq (d+1) (b-1):=by rw[Vw,aQ (by rw[hq];simp;omega)]
           rw[hE];refine gz ?_ lH;refine AG [2,3,4,5] (fun (j:Nat) (b2:Int)=>j<=f.aq.length/\0<=b2/\b2<=b/\FH P S C f.aq (d+1) (b-1)=FH P S C (f.aq.drop j) (d+1) b2) (fun j _=>[(12,dI j)]) (fun _ b2=>V.set ib (.cells [dI b2])) (fun j _=>f.aq.length-j) (0) (b-1) (by exact⟨k0,k0,k0,rfl⟩) (fun j b2 hI=>?_);obtain⟨hj,jw,jQ,hR⟩:=hI
           by_cases fX:j<f.aq.length
           ·rw[A0 fX,FH]at hR;have jG:=gK j fX;generalize iA:f.aq[j]=x at*;have jd:=IV (P:=P) (S:=S) (C:=C) x (d+1) b2;refine gf iA ?_ (kX 31 lH);refine Ox (id:=31) [0,1,2,3,4,5,6,7,8,9,10] [9] (fun _=>none) (fun _ _ h=>by cases h) ?_;refine gf iA ?_ (kX 31 lH);refine C6 (ih x (d+1) b2 _ k0 k0 k0 k0 jw k0 (w7 ..)) (fun dd U' hr=>?_);obtain⟨iV,rfl⟩:=hr;cases iV;rw[w9];refine⟨fun _ _ h=>(by cases h),?_⟩;simp only[putD];cases hq:(l6 P S C x (d+1) b2).1
            ·rw[aQ (by rw[hq];simp)]at hR;rw[hR];refine gz ?_ lH;exact kE (U':=V.set ib (.cells [dI (l6 P S C x (d+1) b2).2])) ⟨rfl,rfl⟩
            ·rw[aS hq]at hR;refine gz ?_ lH;exact⟨j+1,(l6 P S C x (d+1) b2).2,⟨k0,jd.2.2 hq,k0,hR⟩,td1,wkR⟩
           ·rw[A1 fX,FH]at hR;rw[hR];refine gz ?_ lH;exact kE (U':=V.set ib (.cells [dI b2])) ⟨rfl,rfl⟩
         ·obtain⟨n1,n2⟩:=hN
          by_cases h3:f.op=3
          ·refine gf (gi h3 n2) ?_ lH;exact kO (Aw (by first|(simp;done)|(simp_all;done)) (Sub.refl _)) hK
          ·by_cases h4:f.op=4
           ·refine gf (gi h3 (gi h4 n2)) ?_ lH;exact kO (Aw (by first|(simp;done)|(simp_all;done)) (Sub.refl _)) hK
           ·have n0:f.n=0:=n1.resolve_left fun h=>h.elim h3 h4;refine gf (gi h3 (gi h4 n2)) ?_ lH;exact kO (Aw (by first|(simp;done)|(simp_all;done)) (Sub.refl _)) hK
        ·rw [e7 (.inr (.inr (g8 fun h=>hN ((JD f).1 h).2.2)))]
         by_cases h3:f.op=3
         ·have n2:inB f.n=false:=by cases h:inB f.n;rfl;exact absurd ⟨.inl (.inl h3),h⟩ hN
          refine gf (gi h3 n2) ?_ lH;exact kE (U':=V.set ib (.cells [dI (b-1)])) ⟨rfl,rfl⟩
         ·by_cases h4:f.op=4
          ·have n2:inB f.n=false:=by cases h:inB f.n;rfl;exact absurd ⟨.inl (.inr h4),h⟩ hN
           refine gf (gi h3 (gi h4 n2)) ?_ lH;exact kE (U':=V.set ib (.cells [dI (b-1)])) ⟨rfl,rfl⟩
          ·cases n2:inB f.n with
           |false=>
            repeat' first|refine gf (gi h3 (gi h4 n2)) ?_ lH|apply gy<;>intro hh
            ·exact kE (U':=V.set ib (.cells [dI (b-1)])) ⟨rfl,rfl⟩
            ·exact kE (U':=V.set ib (.cells [dI (b-1)])) ⟨rfl,rfl⟩
           |true=>
            repeat' first|refine gf (gi h3 (gi h4 n2)) ?_ lH|apply gy<;>intro hh
            ·exact kE (U':=V.set ib (.cells [dI (b-1)])) ⟨rfl,rfl⟩
            ·exact absurd ⟨.inr hh,n2⟩ hN
       ·rcases hB with⟨h2,hc,hm⟩|⟨h2,hc⟩
        ·refine gf (gi h2 (gi hc hm)) ?_ lH;exact kO (Aw (by first|(simp;done)|(simp_all;done)) (Sub.refl _)) hK
        ·refine gf (gi h2 hc) ?_ lH;exact kO (Aw (by first|(simp;done)|(simp_all;done)) (Sub.refl _)) hK
      ·rw[e7 (.inr (.inr (g8 fun h=>hB ((JD f).1 h).2.1)))]
       by_cases h2:f.op=2
       ·by_cases hc:f.cls=[]
        ·refine gf (gi h2 hc) ?_ lH;exact kE (U':=V.set ib (.cells [dI (b-1)])) ⟨rfl,rfl⟩
        ·have hm:¬f.cls∈C:=fun h=>hB (.inl ⟨h2,hc,h⟩);refine gf (gi h2 (gi hc hm)) ?_ lH;exact kE (U':=V.set ib (.cells [dI (b-1)])) ⟨rfl,rfl⟩
       ·have hc:¬f.cls=[]:=fun h=>hB (.inr ⟨h2,h⟩);refine gf (gi h2 hc) ?_ lH;exact kE (U':=V.set ib (.cells [dI (b-1)])) ⟨rfl,rfl⟩
     ·obtain⟨c1,c2,c4⟩:=hA;rcases c2 with⟨ha,hn⟩|⟨ha,hn,hp⟩
      ·refine gf (gi c1 (gi ha hn)) ?_ lH;exact kO (Aw (by first|(simp;done)|(simp_all;done)) (Sub.refl _)) hK
      ·refine gf (gi c1 (gi ha (gi hn hp))) ?_ lH;exact kO (Aw (by first|(simp;done)|(simp_all;done)) (Sub.refl _)) hK
    ·rw [e7 (.inr (.inr (g8 fun h=>hA ((JD f).1 h).1)))]
     by_cases c1:(f.aq.length:Int)=arF f.op
     ·cases ha:Al f.op with
      | true =>
       by_cases hn:f.name∈P
       ·have c4:¬f.path.length<=2:=fun h=>hA ⟨c1,.inl ⟨ha,hn⟩,h⟩;refine gf (gi c1 (gi ha hn)) ?_ lH;exact kE (U':=V.set ib (.cells [dI (b-1)])) ⟨rfl,rfl⟩
       ·refine gf (gi c1 (gi ha hn)) ?_ lH;exact kE (U':=V.set ib (.cells [dI (b-1)])) ⟨rfl,rfl⟩
      | false =>
       by_cases hn:f.name=[]
       ·have hp:¬f.path.length<=0:=fun h=>hA ⟨c1,.inr ⟨ha,hn,bH.1 k0⟩,k0⟩;refine gf (gi c1 (gi ha hn)) ?_ lH;exact kE (U':=V.set ib (.cells [dI (b-1)])) ⟨rfl,rfl⟩
       ·refine gf (gi c1 (gi ha hn)) ?_ lH;exact kE (U':=V.set ib (.cells [dI (b-1)])) ⟨rfl,rfl⟩
     ·refine gf c1 ?_ lH;exact kE (U':=V.set ib (.cells [dI (b-1)])) ⟨rfl,rfl⟩
   ·have gR:f.op=1\/f.op=2\/f.op=3\/f.op=4\/f.op=5\/f.op=6\/f.op=7:=by omega
    rcases gR with h|h|h|h|h|h|h
    ·repeat' first|refine gf (gi o1 h) ?_ lH|apply gy<;>intro hh
     any_goals (first|exact kO (Aw (by first|(simp[h,Al,arF];done)|(simp_all [h,Al,arF];done)) (Sub.refl _)) hK|fail)
    ·repeat' first|refine gf (gi o1 h) ?_ lH|apply gy<;>intro hh
     any_goals (first|exact kO (Aw (by first|(simp[h,Al,arF];done)|(simp_all [h,Al,arF];done)) (Sub.refl _)) hK|fail)
    ·repeat' first|refine gf (gi o1 h) ?_ lH|apply gy<;>intro hh
     any_goals (first|exact kO (Aw (by first|(simp[h,Al,arF];done)|(simp_all [h,Al,arF];done)) (Sub.refl _)) hK|fail)
    ·repeat' first|refine gf (gi o1 h) ?_ lH|apply gy<;>intro hh
     any_goals (first|exact kO (Aw (by first|(simp[h,Al,arF];done)|(simp_all [h,Al,arF];done)) (Sub.refl _)) hK|fail)
    ·repeat' first|refine gf (gi o1 h) ?_ lH|apply gy<;>intro hh
     any_goals (first|exact kO (Aw (by first|(simp[h,Al,arF];done)|(simp_all [h,Al,arF];done)) (Sub.refl _)) hK|fail)
    ·repeat' first|refine gf (gi o1 h) ?_ lH|apply gy<;>intro hh
     any_goals (first|exact kO (Aw (by first|(simp[h,Al,arF];done)|(simp_all [h,Al,arF];done)) (Sub.refl _)) hK|fail)
    ·repeat' first|refine gf (gi o1 h) ?_ lH|apply gy<;>intro hh
     any_goals (first|exact kO (Aw (by first|(simp[h,Al,arF];done)|(simp_all [h,Al,arF];done)) (Sub.refl _)) hK|fail)
  ·rw[e7 (.inr (.inr (by unfold fctB;rw[ba iy];rfl)))];refine gf o1 ?_ lH;exact kE (U':=V.set ib (.cells [dI (b-1)])) ⟨rfl,rfl⟩
end
def kK:fP:=[wAny,wInt,Gc]
def C4(m:aK):Bool:=(decide (1<=m.kind)&&decide (m.kind<=4))&&(Ak m.name&&(decide (1<=m.params.length)&&(decide (m.params.length<=3)&&CR m.params)))
def Cv(am own:fP)(m:aK)(b:Int):Bool×Int:=
 if C4 m=true then
  if(l6 m.params am (own++kK) m.kJ 1 b).1=true/\(lK m.body 1 120).1=true then
   (decide (0<=(l6 m.params am (own++kK) m.kJ 1 b).2-(allE m.body).length)&&DD m.params am own (decide (m.kind=1\/m.kind=4)) m.body,(l6 m.params am (own++kK) m.kJ 1 b).2-(allE m.body).length)
  else(false,(l6 m.params am (own++kK) m.kJ 1 b).2)
 else(false,b)
def TL (m:aK) (am own:fP) (o2 o3:Own) (ib:Nat) (b:Int) (V:Sig) (hw:m.wt<=1073741824) (hs:am.length<=1073741824) (ho:own.length<=1000000000) (fY:0<=b) (d9:b<=1000) (o1:V ib=some (.cells [dI b])) :
  aB prog 125 [.agg (BQ m),.slice (cS am) o2,.slice (cS own) o3,.ptr ib 0] V fun x U'=>x=.ret (.bool (Cv am own m b).1)/\U'=V.set ib (.cells [dI (Cv am own m b).2]):=by
 have d8:V.set ib (.cells [dI b])=V:=Sig.set_self _ o1;have m1:m.name.length<m.wt/\wtS m.params<m.wt/\m.kJ.wt<m.wt/\m.body.wt<m.wt:=by unfold aK.wt;omega
 obtain⟨m1,m2,m3,m4⟩:=m1;have gE:kK.length=3:=rfl;have i76:∀V:Sig,Ans 76 [.agg (Af m.body)] V True (sl ((allE m.body).map Af)):=fun V=>ah0 (If m.body.wt m.body V (bn _) k0);have gQ:m.params.length<=1073741824:=by have:=Bc m.params;omega
 have jL:∀x∈m.params,x.length<=1073741824:=fun x hx=>by
  obtain⟨j,hj,rfl⟩:=bm hx;have:=JN _ j hj;omega
 refine en func125 ntmps125 ?_
 by_cases k1:1<=m.kind
 ·by_cases k2:m.kind<=4
  ·cases hn:Ak m.name with
   |false=>
    refine gf (gi k1 (gi k2 hn)) ?_ (kX 3 o125) [9];refine kE (U':=V) ?_;exact⟨by simp[Cv,C4,hn],by simp[Cv,C4,hn,d8]⟩
   | true =>
    by_cases q1:1<=m.params.length
    ·by_cases q2:m.params.length<=3
     ·cases hq:CR m.params with
      |false=>
       refine gf (gi k1 (gi k2 (gi hn hq))) ?_ (kX 3 o125) [9];refine kE (U':=V) ?_;exact⟨by simp[Cv,C4,hq],by simp[Cv,C4,hq,d8]⟩
      | true =>
       refine gf (gi k1 (gi k2 (gi hn hq))) ?_ (kX 3 o125) [9];refine mixU (id:=3) [0,1,2,3,5,4,6,7,8,9] [9] [4,6] ?_;refine u3R (.aw (BQ m) 2) ?_;refine u3R (sl (cS m.params)) ?_;refine u3R (.slice (cS am) o2) ?_;refine u3R (.slice (cS own) o3) ?_;refine u3R (.slice (cS kK) .clip) ?_;refine u3N 1 own.length (fun i hi=>?_)
       refine u3E i (d:=.slice (cS own++cS kK) (.tag i)) (x:=.tail 1 (own.length+3)) (w7 ..) hi ?_ (he:=by
        intro τ hτ
        simp[hτ,gE]
        omega)
       refine u3R (.agg [sl (cS m.params),.slice (cS am) o2,.slice (cS own++cS kK) (.tag i)]) ?_;refine u3A [.av,.av,.av] (fun i9 ji=>?_)
       have fZ:Sub V ((((V.set i (.tail 1 own.length)).set i (.tail 1 (own.length+3))).set i9 (.cells [.av,.av,.av])).set i9 (.cells [sl (cS m.params),.slice (cS am) o2,.slice (cS own++cS kK) (.tag i)])):=by
        intro k x hk;simp only[Sig.set]at ji hk⊢
        grind
       refine u3M ?_;simp only[List.map];refine Kj Ag tdR (by simp[w8];rfl) fZ ?_;refine gz ?_ o125 [9];refine rtl 50 (.agg [sl (cS m.params),sl (cS am),sl (cS (own++kK))]) ?_ (hw:=DA (AN (A9 _) (AN (AO _ _) (AN (CY _ (by simp[cS])) Ga))));refine drp V ?_;refine Ad (Tz ib gQ hs (C:=own++kK) (by simp[gE];omega) m.kJ.wt m.kJ 1 b V (bn _) k0 k0 k0 fY d9 o1) (fun d U' hr=>?_) (fun d U' hr=>by obtain⟨h,_⟩:=hr;cases h);obtain⟨hd,hZ⟩:=hr;cases hd;subst hZ
       have hg:Cv am own m b=(if(l6 m.params am (own++kK) m.kJ 1 b).1=true/\(lK m.body 1 120).1=true then
   (decide (0<=(l6 m.params am (own++kK) m.kJ 1 b).2-(allE m.body).length)&&DD m.params am own (decide (m.kind=1\/m.kind=4)) m.body,(l6 m.params am (own++kK) m.kJ 1 b).2-(allE m.body).length)
  else (false,(l6 m.params am (own++kK) m.kJ 1 b).2)):=by simp [Cv,C4,k1,k2,hn,q1,q2,hq]
       rw[hg];generalize hF:l6 m.params am (own++kK) m.kJ 1 b=F at*
       have jR : -1<=F.2/\F.2<=1000:=by
        have:=IV (P:=m.params) (S:=am) (C:=own++kK) m.kJ 1 b;rw[hF]at this;omega
       have gB:V.set ib (.cells [dI F.2]) ib=some (.cells [dI F.2]):=w7 ..;have iD:=Eg m.body;cases d9:F.1 with
       |false=>
        refine gf d9 ?_ o125 [9];refine kE (U':=V.set ib (.cells [dI F.2])) ?_;exact⟨by simp[d9],by simp[d9]⟩
       | true =>
        cases hc:(lK m.body 1 120).1 with
        |false=>
         refine gf (gi d9 hc) ?_ o125 [9];refine kE (U':=V.set ib (.cells [dI F.2])) ?_;exact⟨by simp[d9,hc],by simp[d9,hc]⟩
        | true =>
         repeat' first|refine gf (gi d9 hc) ?_ o125 [9]|apply gy<;>intro hh
         all_goals (refine kE (U':=(V.set ib (.cells [dI F.2])).set ib (.cells [dI (F.2-(allE m.body).length)])) ?_;refine⟨?_,by simp[d9,hc]⟩)
         ·simp[d9,hc,hh];intro _;omega
         ·simp[d9,hc,hh];intro _;omega
         ·simp[d9,hc];intro _;omega
     ·refine gf (gi k1 (gi k2 hn)) ?_ (kX 3 o125) [9];refine kE (U':=V) ?_;exact⟨by simp[Cv,C4,q2],by simp[Cv,C4,q2,d8]⟩
    ·refine gf (gi k1 (gi k2 hn)) ?_ (kX 3 o125) [9];refine kE (U':=V) ?_;exact⟨by simp[Cv,C4,q1],by simp[Cv,C4,q1,d8]⟩
  ·refine gz ?_ (kX 3 o125) [9];refine kE (U':=V) ?_;exact⟨by simp[Cv,C4,k2],by simp[Cv,C4,k2,d8]⟩
 ·refine gz ?_ (kX 3 o125) [9];refine kE (U':=V) ?_;exact⟨by simp[Cv,C4,k1],by simp[Cv,C4,k1,d8]⟩
structure NotS(io i1 i2:Nat)(V:Sig)(s:kZ):Prop where
 oo:V io=some (.cells [.slice (cS (s.1.map (·.1))) (.tag i1),.slice (cI (s.1.map (·.2))) (.tag i2),.bool (!s.2)])
 o1:V i1=some (.tail 1 s.1.length)
 o2:V i2=some (.tail 1 s.1.length)
def tN(io i1 i2:Nat):Nat->Prop:=fun j=>j=io\/j=i1\/j=i2
def Vi(x:Str): ∀(l:List (Str×Int)) (k:Nat),hasM x l=false->idxG x (l.map (·.1)) k = -1
 |[],_,_=>rfl
 |(a,b)::r,k,h=>by
  simp only[hasM,dZ,bk]at h;simp only[bg,idxG];rw[aQ fun e=>h.1 e.symm,Vi x r _ h.2]
def Jw(x:Str): ∀(l:List (Str×Int)) (k:Nat),hasM x l=true->∃j, ∃hj:j<l.length,idxG x (l.map (·.1)) k=(k:Int)+j/\(l[j]'hj).2=getM 0 x l
 |[],_,h=>by cases h
 | (a,b)::r,k,h=>by
  simp only[bg,idxG,getM]
  by_cases e:a=x
  ·exact⟨0,k7,by rw[aS e];simp,by rw[aS e.symm];rfl⟩
  ·have h2:hasM x r=true:=by
    simp only[hasM,bV,aP]at h;exact h.resolve_left fun h=>e h.symm
   obtain⟨j,hj,h3,h4⟩:=Jw x r (k+1) h2;exact⟨j+1,by simp;omega,by rw[aQ e,h3];omega,by rw[aQ fun h=>e h.symm];exact h4⟩
def Mj(name:Str)(n:Int)(io i1 i2:Nat)(s:kZ)(V:Sig)(hl:s.1.length<=100000000)(hG:NotS io i1 i2 V s)(gw:i1≠i2):
  aB prog 212 [.ptr io 0,.str name,dI n] V fun x U'=>x=.ret (.tup [])/\NotS io i1 i2 U' (l5 name n s)/\kQ (tN io i1 i2) V U':=by
 obtain⟨acc,ok⟩:=s;obtain⟨oo,o1,o2⟩:=hG;simp only at oo o1 o2 hl;have e1:i1≠io:=Ab o1 oo k7;have e2:i2≠io:=Ab o2 oo k7;refine en func212 ntmps212 ?_;cases hh:hasM name acc
 ·have gT:=Vi name acc 0 hh;have hs:l5 name n (acc,ok)=(acc++[(name,n)],ok):=by unfold l5;rw[aQ (by rw[hh];simp)]
  have hc:cS (acc.map (·.1))++[[D.str name]]=cS ((acc++[(name,n)]).map (·.1)):=by simp[cS]
  have jv:cI (acc.map (·.2))++[[dI n]]=cI ((acc++[(name,n)]).map (·.2)):=by simp[cI]
  rw[hs];refine gf (gi oo gT) ?_ [] [6];generalize hA:cS (acc.map (·.1))=A at*;generalize hB:cI (acc.map (·.2))=B at*;have lA:A.length=acc.length:=by rw[<-hA];simp
  have lB:B.length=acc.length:=by rw[<-hB];simp
  have mA:∀c∈A,c.length=1:=by rw[<-hA];exact Dy _
  have mB:∀c∈B,c.length=1:=by rw[<-hB];exact C5 _
  have fY:(V.out fun j=>j=i1\/j=i2) io=some (.cells [.slice A (.tag i1),.slice B (.tag i2),.bool (!ok)]):=EH oo fun h=>h.elim (fun h=>e1 h.symm) fun h=>e2 h.symm
  have fZ:Sub (V.out fun j=>j=i1\/j=i2) (V.set i1 (.tail 1 (acc.length+1))):=fun j o hj=>by
   obtain⟨h1,h2⟩:=Ct hj;rw[w8 _ _ fun h=>h2 (.inl h)];exact h1
  have gO:Sub (V.out fun j=>j=i1\/j=i2) ((V.set i1 (.tail 1 (acc.length+1))).set i2 (.tail 1 (acc.length+1))):=fun j o hj=>by
   obtain⟨h1,h2⟩:=Ct hj;rw[w8 _ _ fun h=>h2 (.inr h),w8 _ _ fun h=>h2 (.inl h)];exact h1
  refine mixK (id:=2) [0,1,2,3,4,5,6,7,9,10,11,12,13,14,8,15,16,17,18,19,20,21] [8,15,18,21] [5,12] [18,21] (V.out fun j=>j=i1\/j=i2) (C3 _ _) ?_;refine k4R (.ptr io 0) ?_;refine k4R (.ptr io 0) ?_;refine k4R (.ptr io 0) ?_;refine k4R (.ptr io 0) ?_;refine k4R (.ptr io 0) ?_;refine k4R (.slice A (.tag i1)) ?_ (hd:=by simp[fY]);refine k4R (.str name) ?_;refine k4R (.slice [[.str name]] .clip) ?_;refine k4R (.ptr io 0) ?_;refine k4R (.ptr io 0) ?_;refine k4R (.ptr io 1) ?_;refine k4R (.slice B (.tag i2)) ?_ (hd:=by simp[fY]);refine k4R (dI n) ?_;refine k4R (.slice [[dI n]] .clip) ?_;refine k4E (d:=.slice (A++[[.str name]]) (.tag i1)) _ fZ ?_ (he:=by simp[o1,lA];exact⟨⟨mA,k0⟩,k0⟩);refine k4E (d:=.slice (B++[[dI n]]) (.tag i2)) _ gO ?_ (he:=by simp[o2,lB,w8,aZ gw];exact⟨⟨mB,k0⟩,k0⟩);refine k4R (.ptr io 0) ?_;refine k4R (.ptr io 0) ?_;refine k4S (d:=.any) (U':=((V.set i1 (.tail 1 (acc.length+1))).set i2 (.tail 1 (acc.length+1))).set io (.cells [.slice (A++[[.str name]]) (.tag i1),.slice B (.tag i2),.bool (!ok)])) (fun _=>none) (fun _ _ h=>by cases h) ?_ (he:=by simp[oo,w8,aZ e1,aZ e2]);refine k4R (.ptr io 0) ?_;refine k4R (.ptr io 1) ?_
  refine k4S (d:=.any) (U':=((((V.set i1 (.tail 1 (acc.length+1))).set i2 (.tail 1 (acc.length+1))).set io (.cells [.slice (A++[[.str name]]) (.tag i1),.slice B (.tag i2),.bool (!ok)])).set io (.cells [.slice (A++[[.str name]]) (.tag i1),.slice (B++[[dI n]]) (.tag i2),.bool (!ok)]))) (fun _=>none) (fun _ _ h=>by cases h) ?_ (he:=by simp[oo,w8,aZ e1,aZ e2]);refine k4N ?_;subst hA hB;have n1:=aZ e1;have n2:=aZ e2;refine fin0 (U':=((V.set i1 (.tail 1 (acc.length+1))).set i2 (.tail 1 (acc.length+1))).set io (.cells [.slice (cS ((acc++[(name,n)]).map (·.1))) (.tag i1),.slice (cI ((acc++[(name,n)]).map (·.2))) (.tag i2),.bool (!ok)])) ⟨rfl,⟨by rw[w7],?_,?_⟩,fun j o hj hn=>?_⟩ (hZ:=by rw[w9,hc,jv];exact Sub.refl _)
  ·rw[w8 _ _ e1,w8 _ _ gw,w7,aO];rfl
  ·rw[w8 _ _ e2,w7,aO];rfl
  ·rw[w8 _ _ fun e=>hn (.inl e),w8 _ _ fun e=>hn (.inr (.inr e)),w8 _ _ fun e=>hn (.inr (.inl e))];exact hj
 ·obtain⟨j,hj,gT,jo⟩:=Jw name acc 0 hh;have hs:l5 name n (acc,ok)=(acc,ok&&decide (getM 0 name acc=n)):=by unfold l5;rw[aS hh]
  rw[hs,<-jo]
  repeat' first|refine gf (gi oo gT) ?_ [] [6]|apply gy<;>intro hh
  ·exact fin0 (U':=V.set io (.cells [.slice (cS (acc.map (·.1))) (.tag i1),.slice (cI (acc.map (·.2))) (.tag i2),.bool true])) ⟨rfl,⟨by rw[w7];simp[hh],k8 e1 o1,k8 e2 o2⟩,fun j o hj hn=>by rw[w8 _ _ fun e=>hn (.inl e)];exact hj⟩
  ·exact fin0 (U':=V) ⟨rfl,⟨by simp[hh,oo],o1,o2⟩,fun j o hj hn=>hj⟩
def Li(s:kZ)(x:aH):kZ:=if x.op=5 then l5 x.text x.aq.length s else s
mutual
def RB: ∀(e:aH) (s:kZ),genE e s=(allE e).foldl Li s
 |.mk o n t k,s=>by rw[genE,allE,dW,OZ k];rfl
def OZ: ∀(l:List aH) (s:kZ),AV l s=(As l).foldl Li s
 |[],s=>by rw[AV,As];rfl
 |x::r,s=>by rw[AV,As,List.foldl_append,OZ r,RB x]
end
def Un(s:kZ)(x:aH):(Li s x).1.length<=s.1.length+1:=by
 unfold Li;split
 ·exact HT ..
 ·omega
section
variable {P:Program}{n:Nat}{γ:List (Nat×D)}{V:Sig}
theorem fin3{fn:Func}{R:DE->Sig->Prop}{U':Sig}{t u v:Nat}{d d' e e' f f':D}(hR:R (.ret (.tup [d',e',f'])) U')(hZ:Sub U' V:=by exact tdU)(hr:fn.results=#[.tmp t,.tmp u,.tmp v]:=by exact tdR)(hl:γ.lookup t=some d:=by exact tdR)(gF:γ.lookup u=some e:=by exact tdR)(gE:γ.lookup v=some f:=by exact tdR)(iO:decide (u=t)=false:=by exact tdR)(iM:decide (v=t)=false:=by exact tdR)(iL:decide (v=u)=false:=by exact tdR)(hw:WkD d d':=by exact tdW)(iK:WkD e e':=by exact tdW)(gK:WkD f f':=by exact tdW):Fp P n fn R .ret ⟨γ,V,[]⟩:=
 ⟨⟨[(t,d'),(u,e'),(v,f')],U',[]⟩,Y4 (show Tells γ [(t,d'),(u,e'),(v,f')] from ⟨by rw [At hl];exact hw,by rw [At gF];exact iK,by rw [At gE];exact gK,trivial⟩) hZ,rfl, .tup [d',e',f'],EF (by
  have h1:u≠t:=by simpa using iO
  have h2:v≠t:=by simpa using iM
  have h3:v≠u:=by simpa using iL
  simp[resD,hr,h1,h2,h3]),Ft hR⟩
end
def NotS.fresh{io i1 i2 k:Nat}{V:Sig}{s:kZ}{o:kM}(h:NotS io i1 i2 V s)(hk:V k=none):NotS io i1 i2 (V.set k o) s:=
 ⟨k8 (A3 h.oo hk) h.oo,k8 (A3 h.o1 hk) h.o1,k8 (A3 h.o2 hk) h.o2⟩
def TK(f:aL)(V:Sig)(hw:f.wt<=100000000):aB prog 126 [.agg (AS f)] V (rS (.tup [sl (cS ((Bj f).1.map (·.1))),sl (cI ((Bj f).1.map (·.2))),.bool (Bj f).2]) V):=by
 obtain⟨p1,p2,p3,p4,p5⟩:=f.wt_le;have jO:=L4 f;refine en func126 ntmps126 ?_
 repeat ((fail_if_success (first|(refine boxV (T:=284) (fun io gU=>?_))|fail));(refine goX1 trivial ?_))
 refine boxV (T:=284) (fun io gU=>?_);refine gz ?_ o126 [8];refine Bt io 0 1 (ds:=[.av,.av,.bool false]) (w7 ..) rfl (fun i1 jm=>?_);obtain⟨a1,b1⟩:=A8 jm;refine Bt io 1 1 (ds:=[.slice [] (.tag i1),.av,.bool false]) (w7 ..) rfl (fun i2 jl=>?_);obtain⟨a2,b2⟩:=A8 jl;obtain⟨a3,b3⟩:=A8 b2;obtain⟨a4,b4⟩:=A8 b3;generalize gY:Sig.set (Sig.set _ i2 _) io _=S1
 have jD:NotS io i1 i2 S1 ([],true):=by
  rw[<-gY];exact⟨by simp[cS,cI],by rw[w8 _ _ a1,w8 _ _ (aZ a3),w8 _ _ a1];simp,by rw[w8 _ _ a2];simp⟩
 have iP:∀j,tN io i1 i2 j->V j=none:=fun j hj=>by
  rcases hj with rfl|rfl|rfl
  ·exact gU
  ·exact b1
  ·exact b4
 have iF:Sub V S1:=fun j x hj=>by
  have e1:j≠io:=A3 hj gU;have e2:j≠i1:=A3 hj b1;have e3:j≠i2:=A3 hj b4;rw[<-gY];simp only[w8 _ _ e1,w8 _ _ e2,w8 _ _ e3];exact hj
 have iH:∀{τ X':Sig},Sub V τ->kQ (tN io i1 i2) τ X'->Sub V X':=fun hs hk j x hj=>hk j x (hs j x hj) fun ht=>by rw[iP j ht]at hj;cases hj
 have gw:i1≠i2:=aZ a3;clear gY;refine E2 [1,2,3,4,5,7,8,9,10,35,36,37,38,39,40,41,42,43,44,45,46,47,48,49,50,51,52,53,54,55,56,57,58,59,60,61,62,63,64,65,66,67,68,69,70,71,72,73,74,75,76,77,78,79,80,81,82,83,84,85,86,87,88,89,90,91,92,93,94] (fun (k:Nat) (s:kZ) (S1:Sig)=>k<=f.k9.length/\s.1.length<=k/\metG f.k9 ([],true)=metG (f.k9.drop k) s/\NotS io i1 i2 S1 s/\Sub V S1) (fun k _ _=>[(6,dI k)]) (fun _ _ S1=>S1) (fun k _ _=>f.k9.length-k) (0) (([],true)) (_) (by exact⟨k0,bn _,rfl,jD,iF⟩) (fun k s S1 hI=>?_);obtain⟨hk,gD,hR,hG,hS⟩:=hI
 by_cases d6:k<f.k9.length
 ·rw[A0 d6,metG]at hR;have ij:=p5 k d6;have jK:f.k9[k].params.length<=1073741824/\f.k9[k].name.length<=1073741824:=by have:=ij;unfold aK.wt at this;have:=Bc f.k9[k].params;omega
  refine gz ?_ o126 [8];refine Ad (Mj f.k9[k].name f.k9[k].params.length io i1 i2 s S1 k0 hG gw) (fun x S2 hr=>?_);obtain⟨e1,jC,jz⟩:=hr;cases e1;refine gz ?_ o126 [8];exact⟨k+1,l5 f.k9[k].name f.k9[k].params.length s,S2,⟨k0,by have:=HT f.k9[k].name f.k9[k].params.length s;omega,hR,jC,iH hS jz⟩,td1,wkR⟩
 ·rw [A1 d6,metG] at hR;refine gz ?_ o126 [8];have gh:(Br f).length=f.k9.length+1:=by simp[Br]
  have jn:Bj f=AV (Br f) s:=by unfold Bj;rw[hR]
  have go:s.1.length<=f.k9.length:=by omega
  clear hR hk d6 gD;refine E2 [1,2,3,4,5,82,83,84,85,86,87,88,89,90,91,92,93,94] (fun (k:Nat) (s1:kZ) (S2:Sig)=>k<=f.k9.length+1/\s1.1.length+wtL aH.wt ((Br f).drop k)<=f.wt/\Bj f=AV ((Br f).drop k) s1/\NotS io i1 i2 S2 s1/\Sub V S2) (fun k _ _=>[(7,dI k)]) (fun _ _ S2=>S2) (fun k _ _=>f.k9.length+1-k) (0) (s) (_) (by exact⟨k0,by simp only[dE];omega,jn,hG,hS⟩) (fun k s1 S2 hI=>?_);obtain⟨hk,gW,hR,iI,iE⟩:=hI
  by_cases d6:k<(Br f).length
  ·rw [A0 d6,AV] at hR;rw[A0 d6,wtL]at gW;refine gz ?_ o126 [8];refine kR (fun ie iB=>?_);have jI:((Br f)[k]).wt<=f.wt:=by omega
   generalize he:(Br f)[k]=e at*
   repeat ((fail_if_success (first|(refine ky (x1:=.seq _ _) [(8,.ptr ie 0)] (S2.set ie (.cells (Af e))) ?_ (fun _ hK=>?_))|fail));(refine goX1 trivial ?_))
   refine ky (x1:=.seq _ _) [(8,.ptr ie 0)] (S2.set ie (.cells (Af e))) ?_ (fun _ hK=>?_)
   ·have i76:∀V:Sig,Ans 76 [.agg (Af e)] V True (sl ((allE e).map Af)):=fun V=>ah0 (If e.wt e V (bn _) k0);refine gz ?_ o126 [8];have hlen:=Eg e;have jq:Sub V (S2.set ie (.cells (Af e))):=fun j x hj=>(Sub.refl _).set iB j x (iE j x hj);have jB:=iI.fresh (o:=.cells (Af e)) iB;rw[RB]at hR;refine E2 [1,2,3,4,5,7,8,9,35,36,37,38,39,40,41,42,43,44,45,46,47,48,49,50,51,52,53,54,55,56,82,83,84,85,86,87,88,89,90,91,92,93,94] (fun (j:Nat) (s2:kZ) (S3:Sig)=>j<=(allE e).length/\s2.1.length+((allE e).length-j)<=s1.1.length+e.wt/\(allE e).foldl Li s1=((allE e).drop j).foldl Li s2/\NotS io i1 i2 S3 s2/\Sub V S3) (fun j _ _=>[(10,dI j)]) (fun _ _ S3=>S3) (fun j _ _=>(allE e).length-j) (0) (s1) (_) (by exact⟨k0,k0,rfl,jB,jq⟩) (fun j s2 S3 hI=>?_);obtain⟨hj,jP,gj,g7,gZ⟩:=hI
    by_cases fX:j<(allE e).length
    ·rw[A0 fX,dW]at gj;have gF:=Un s2 (allE e)[j]
     by_cases h5:(allE e)[j].op=5
     ·have gB:Li s2 (allE e)[j]=l5 (allE e)[j].text (allE e)[j].aq.length s2:=by unfold Li;rw[aS h5]
      rw[gB]at gj gF;refine gf h5 ?_ o126 [8];refine Ad (Mj (allE e)[j].text (allE e)[j].aq.length io i1 i2 s2 S3 k0 g7 gw) (fun x S4 hr=>?_);obtain⟨e1,jA,jy⟩:=hr;cases e1;refine gz ?_ o126 [8];exact⟨j+1,l5 (allE e)[j].text (allE e)[j].aq.length s2,S4,⟨k0,k0,gj,jA,iH gZ jy⟩,td1,wkR⟩
     ·have gB:Li s2 (allE e)[j]=s2:=by unfold Li;rw[aQ h5]
      rw[gB]at gj gF;refine gf h5 ?_ o126 [8];exact⟨j+1,s2,S3,⟨k0,k0,gj,g7,gZ⟩,td1,wkR⟩
    ·rw[A1 fX,fM]at gj;refine gz ?_ o126 [8];exact⟨k+1,s2,S3,⟨k0,k0,by rw[<-gj];exact hR,g7,gZ⟩,td1,wkR⟩
   ·by_cases je:k<f.k9.length
    ·have f8:f.k9[k].body=e:=by rw[<-he];simp[Br,List.getElem_append_left,je]
     refine gf f8 ?_ o126 [8];exact kO (Aw (by first|(simp;done)|(simp_all;done)) (by rw[Cl e];exact Sub.refl _)) hK
    ·have f8:f.kH=e:=by rw[<-he];simp only[Br];rw[List.getElem_append_right (by simp;omega)];simp
     refine gf f8 ?_ o126 [8];exact kO (Aw (by first|(simp;done)|(simp_all;done)) (by rw[<-f8,Cl f.kH];exact Sub.refl _)) hK
  ·rw[A1 d6,AV]at hR;have oo:=iI.oo;refine gf oo ?_ o126 [8];rw[hR];exact fin3 (U':=V) ⟨rfl,rfl⟩ (hZ:=iE)
def kB(f:aL):fP:=f.ak.flatMap (·.am)
def kD(f:aL):fP:=f.ak.map (·.name)
def budR(f:aL):Int:=120-f.ak.length-(allE f.kH).length
def Dn(am own:fP):List aK->Int->Bool
 |[],_=>true
 |m::r,b=>(Cv am own m b).1&&Dn am own r (Cv am own m b).2
def Ib(f:aL):Bool:=decide (f.k9.length<=16)&&(D9 f&&(inisR f 0 f.ak&&(lK f.kH 1 120).1))
def Cg(f:aL):Bool:=Ib f&&((decide (0<=budR f)&&DD [] (kB f) (kD f) false f.kH)&&(Dn (kB f) (kD f) f.k9 (budR f)&&((Bj f).2&&decide ((Bj f).1.length<=8))))
def GN(am own:fP)(m:aK)(b:Int)(hb:0<=b)(h:(Cv am own m b).1=true):0<=(Cv am own m b).2/\(Cv am own m b).2<=b:=by
 have h1:=IV (P:=m.params) (S:=am) (C:=own++kK) m.kJ 1 b;unfold Cv at h⊢;split at h
 ·rename_i h2;rw[aS h2];split at h
  ·rename_i h3;rw[aS h3];simp only[aN,aP]at h⊢;omega
  ·cases h
 ·cases h
def FQ: ∀(l:List aJ) (own:fP),BH own l=true->∀c∈l,c.am.length<=4 /\ ∀s∈c.ap,s∈own++l.map (·.name)
 |[],_,_,c,hc=>by cases hc
 | x::r,own,h,c,hc=>by
  simp only[BH,aN,bA,bk,bh,aP]at h;obtain⟨⟨⟨_,h2⟩,_⟩,h3,h4⟩:=h;rcases be.1 hc with rfl|hc
  ·exact⟨k0,fun s hs=>bu _ (h3 s hs)⟩
  ·obtain⟨h5,h6⟩:=FQ r _ h4 c hc;exact⟨h5,fun s hs=>by have:=h6 s hs;simp only[bc,bg]at this⊢; exact this⟩
def Yk(f:aL)(h:BH [] f.ak=true):ParOK f:=fun c hc s hs=>by
 have h1:=(FQ _ _ h c hc).2 s hs;rw[bG,bD]at h1;obtain⟨d,hd,rfl⟩:=h1;have h2:=EJ (fun c:aJ=>decide (c.name=d.name)) f.ak 0;have h3:f.ak.any (fun c:aJ=>decide (c.name=d.name))=true:=List.any_eq_true.2 ⟨d,hd,k7⟩;rw[h3]at h2;simpa using h2
def P6 (f:aL) (V:Sig) (hw:f.wt<=100000000):aB prog 52 [.agg (AS f)] V (rS (.bool (Cg f)) V):=by
 obtain⟨p1,p2,p3,p4,p5⟩:=f.wt_le;have gD:=Od f;have iD:=Eg f.kH;have i126:∀V:Sig,Ans 126 [.agg (AS f)] V True (.tup [sl (cS ((Bj f).1.map (·.1))),sl (cI ((Bj f).1.map (·.2))),.bool (Bj f).2]):=fun V=>ah0 (TK f V hw);have i76:∀V:Sig,Ans 76 [.agg (Af f.kH)] V True (sl ((allE f.kH).map Af)):=fun V=>ah0 (If f.kH.wt f.kH V (bn _) k0);refine en func52 ntmps52 ?_
 by_cases k1:f.k9.length<=16
 ·cases k2:D9 f with
  |false=>
   refine gf k2 ?_ [] [3];refine kE (U':=V) ?_;exact⟨by simp[Cg,Ib,k2],rfl⟩
  | true =>
   have k20:=k2;simp only[D9,aN,bA,bk]at k20;obtain⟨k21,k22,k23,k24⟩:=k20;have i121:∀V:Sig,Ans 121 [.agg (AS f)] V True (.bool (inisR f 0 f.ak)):=fun V=>ah0 (X1 f V k0 (Yk f k22) k0 fun c hc=>(FQ _ _ k22 c hc).1);cases k3:inisR f 0 f.ak with
   |false=>
    refine gf (gi k2 k3) ?_ [] [3];refine kE (U':=V) ?_;exact⟨by simp[Cg,Ib,k2,k3],rfl⟩
   | true =>
    cases k4:(lK f.kH 1 120).1 with
    |false=>
     refine gf (gi k2 (gi k3 k4)) ?_ [] [3];refine kE (U':=V) ?_;exact⟨by simp[Cg,Ib,k2,k3,k4],rfl⟩
    | true =>
     have hH:Ib f=true:=by simp[Ib,k1,k2,k3,k4]
     refine gf (gi k2 (gi k3 k4)) ?_ [] [3];refine mix [0,1,2,3,4,5,6,7,8,9,10] [9,10] ?_;refine gz ?_ o52 [3];refine moQR ?_;refine gz ?_ o52 [3];refine Ow (fun ib gu=>?_);have fZ:Sub V ((V.set ib (.cells [dI 0])).set ib (.cells [dI (budR f)])):=fun j o hj=>by rw[w9,w8 _ _ (A3 hj gu)];exact hj
     refine gz ?_ o52 [3];have jF:(120:Int)-f.ak.length-(allE f.kH).length=budR f:=rfl;rw[jF];have jS:budR f<=120:=by unfold budR;omega
     generalize gI:budR f=B at*;refine BL 5 1 (fun i hi=>?_);obtain⟨n1,n2⟩:=A8 hi;have gM:∀l:fP,Sub (V.set ib (.cells [dI B])) ((V.set ib (.cells [dI B])).set i (.tail 1 l.length)):=fun l=>(Sub.refl _).set hi;refine AG [1,2,3,4,7,8,9,10,58,59,60,61,62,63,64,65,66,67,68,69,70,71,72,73,74,75,76,77,78,79,80,81,82,83,84,85,86,87,88,89,90,91,92,93,94,95] (fun (k:Nat) (out:fP)=>k<=f.ak.length/\out++(f.ak.drop k).map (·.name)=kD f) (fun k out=>[(6,dI k),(5,.slice (cS out) (.tag i))]) (fun _ out=>(V.set ib (.cells [dI B])).set i (.tail 1 out.length)) (fun k _=>f.ak.length-k) (0) ([]) (by exact⟨k0,rfl⟩) (fun k out hI=>?_);obtain⟨hk,hR⟩:=hI;have hlen:=cf List.length hR;simp[kD]at hlen
     by_cases d6:k<f.ak.length
     ·rw[A0 d6,bg]at hR;refine gz ?_ o52 [3];exact⟨k+1,out++[f.ak[k].name],⟨k0,by rw[bc];exact hR⟩,td1,wkR⟩
     ·rw [A1 d6,cq,br] at hR;subst hR;have jb:(kD f).length<=10:=by unfold kD;rw[aY];omega
      have i124:∀V:Sig,Ans 124 [.agg (Af f.kH),.slice [] .no,sl (cS (kB f)),sl (cS (kD f)),.bool false] V True (.bool (DD [] (kB f) (kD f) false f.kH)):=fun V=>ah0 (Ps f.kH [] (kB f) (kD f) false .no .no .no V k0 k7 (by unfold kB;omega) k0)
      have gC:f.ak.flatMap (·.am)=kB f:=rfl;have gO:=gM (kD f);have go:Sub V (V.set ib (.cells [dI B])):=(Sub.refl _).set gu;have iR:Sub V ((V.set ib (.cells [dI B])).set i (.tail 1 (kD f).length)):=go.trans gO
      by_cases kb:0<=B
      ·cases k5:DD [] (kB f) (kD f) false f.kH with
       |false=>
        refine gf (gi gC k5) ?_ o52 [3];refine kE (U':=V) ?_;exact⟨by simp[Cg,k5],rfl⟩
       | true =>
        refine gf (gi gC k5) ?_ o52 [3];clear hlen jb hk d6;refine AG [1,3,4,5,8,9,10,84,85,86,87,88,89,90,91,92,93,94,95] (fun (k:Nat) (b:Int)=>k<=f.k9.length/\0<=b/\b<=B/\Dn (kB f) (kD f) f.k9 B=Dn (kB f) (kD f) (f.k9.drop k) b) (fun k _=>[(7,dI k)]) (fun _ b=>V.set ib (.cells [dI b])) (fun k _=>f.k9.length-k) (0) (B) (by exact⟨k0,k0,k0,rfl⟩) (fun k b hI=>?_);obtain⟨hk,fY,d9,hR⟩:=hI
        by_cases d6:k<f.k9.length
        ·rw[A0 d6,Dn]at hR;have ij:=p5 k d6;refine gf gC ?_ o52 [3];refine Ad (TL f.k9[k] (kB f) (kD f) _ _ ib b _ k0 (by unfold kB;omega) (by unfold kD;rw[aY];omega) fY k0 (w7 ..)) (fun d U' hr=>?_) (fun d U' hr=>by obtain⟨h,_⟩:=hr;cases h);obtain⟨hd,iG⟩:=hr;cases hd;rw[w9]at iG;subst iG;have iQ:Sub V (V.set ib (.cells [dI (Cv (kB f) (kD f) f.k9[k] b).2])):=(Sub.refl _).set gu;cases hm:(Cv (kB f) (kD f) f.k9[k] b).1 with
         |false=>
          rw[hm,bw]at hR;refine gf hm ?_ o52 [3];refine kE (U':=V) ?_;exact⟨by simp[Cg,gI,hR],rfl⟩
         |true=>
          obtain⟨q1,q2⟩:=GN _ _ _ b fY hm;rw[hm,bd]at hR;refine gf hm ?_ o52 [3];exact⟨k+1,(Cv (kB f) (kD f) f.k9[k] b).2,⟨k0,q1,k0,hR⟩,td1,wkR⟩
        ·rw[A1 d6,Dn]at hR;have iQ:Sub V (V.set ib (.cells [dI b])):=(Sub.refl _).set gu
         repeat' first|refine gf gC ?_ o52 [3]|apply gy<;>intro hh
         ·refine kE (U':=V) ?_;exact⟨by simp[Cg,gI,hR,hH,kb,k5,hh];omega,rfl⟩
         ·refine kE (U':=V) ?_;exact⟨by simp[Cg,gI,hR,hH,kb,k5,hh],rfl⟩
      ·refine gz ?_ o52 [3];refine kE (U':=V) ?_;exact⟨by simp[Cg,gI,kb],rfl⟩
 ·refine gz ?_ [] [3];refine kE (U':=V) ?_;exact⟨by simp[Cg,Ib,k1],rfl⟩
end Go.DL
