/- A part of the proof. -/
import Derived.Test.YtlfimpogphmbdaaGreatH13
set_option linter.all false
namespace Go.DL
open Go.Proofs.Tryz
open Go Go.Proofs
set_option maxHeartbeats 8000000
def lV:fP:=[[97,102,116,101,114],[97,110,100],[97,110,121],[97,114,111,117,110,100],[98,101,102,111,114,101],[99,108,97,115,115],[101,108,115,101],[105,102],[105,110],[105,110,116],[105,115],[108,101,116],[109,101,116,104,111,100],[110,101,119],[110,101,120,116],[110,111,110,101],[110,111,116],[111,114],[111,117,116],[115,101,116],[116,104,101,110],[116,114,117,101],[116,117,114,110],[119,104,101,114,101]]
def VV(V:Sig):aB prog 252 [] V (rS (.slice (cS lV) .clip) V):=by
 refine en func252 ntmps252 ?_;refine gz ?_
 (refine kE (U':=V) ?_;exact⟨by first|rfl|(simp[lV,cS];done)|(simp_all [lV,cS];done)|(rw[A4,aW];simp_all [lV,cS]<;>omega),rfl⟩)
@[reducible,instance] def a252:=fun V=>ah0 (@VV V)
def DS(b:UInt8):Bool:=decide (97<=b.toNat/\b.toNat<=122)
def Ak(s:Str):Bool:=s.all DS&&(decide (1<=s.length/\s.length<=8)&&!decide (s∈lV))
def Wd(s:Str)(V:Sig)(hl:s.length<=1073741824:=by exact sd):aB prog 210 [.str s] V (rS (.bool (Ak s)) V):=by
 have jN:lV.length=24:=rfl;refine en func210 ntmps210 ?_;refine gz ?_;refine Bb [0,20,21,22,23,24,25,26,27,28,29,30,31,32,33] (fun (k:Nat)=>k<=s.length/\s.all DS=(s.drop k).all DS) (fun k=>[(3,dI k)]) (fun _=>V) (fun k=>s.length-k) (0) k7 (fun k hI=>?_);obtain⟨hk,hR⟩:=hI
 by_cases h:k<s.length
 ·rw[A0 h,bU]at hR
  repeat' first|refine gz ?_|apply gy<;>intro hh
  ·have hn:DS s[k]=false:=by unfold DS;simp;omega
   rw[hn]at hR
   (refine kE (U':=V) ?_;exact⟨by first|rfl|(simp[Ak,hR];done)|(simp_all [Ak,hR];done)|(rw[A4,aW];simp_all [Ak,hR]<;>omega),rfl⟩)
  ·have hn:DS s[k]=false:=by unfold DS;simp;omega
   rw[hn]at hR
   (refine kE (U':=V) ?_;exact⟨by first|rfl|(simp[Ak,hR];done)|(simp_all [Ak,hR];done)|(rw[A4,aW];simp_all [Ak,hR]<;>omega),rfl⟩)
  ·have hn:DS s[k]=true:=by unfold DS;simp;omega
   exact⟨k+1,⟨k0,by rw[hR,hn];rfl⟩,td1,wkR⟩
 ·rw[A1 h]at hR
  repeat' first|refine gz ?_|apply gy<;>intro hh
  any_goals (first|(refine kE (U':=V) ?_;exact⟨by first|rfl|(simp[Ak,hR];done)|(simp_all [Ak,hR];done)|(rw[A4,aW];simp_all [Ak,hR]<;>omega),rfl⟩)|fail)
@[reducible,instance] def a210:=fun s V=>ah1 (@Wd s V)
def RD{α β:Type}(f:α->List β)(w:α->Nat)(h:∀x,(f x).length<=w x): ∀l:List α,(l.flatMap f).length<=wtL w l
 |[]=>by simp[wtL]
 |x::l=>by
  have:=RD f w h l;have:=h x;simp only[cx,aO,wtL];omega
def Od(p:aL):(p.ak.flatMap (·.am)).length<=p.wt:=by
 have:=RD (·.am) aJ.wt (fun c=>by have:=Bc c.am;unfold aJ.wt;omega) p.ak;unfold aL.wt;omega
def WZ(p:aL)(V:Sig)(hp:p.wt<=1073741824:=by exact sd):aB prog 123 [.agg (AS p)] V (rS (sl (cS (p.ak.flatMap (·.am)))) V):=by
 obtain⟨p1,p2,p3,p4,p5⟩:=p.wt_le;have iU:=Od p;refine en func123 ntmps123 ?_;refine gz ?_;refine BL 3 1 (fun i hi=>?_);refine AG [1,2,20] (fun (k:Nat) (out:fP)=>k<=p.ak.length/\out++(p.ak.drop k).flatMap (·.am)=p.ak.flatMap (·.am)) (fun k out=>[(4,dI k),(3,.slice (cS out) (.tag i))]) (fun _ out=>V.set i (.tail 1 out.length)) (fun k _=>p.ak.length-k) (0) ([]) k7 (fun k out hI=>?_);obtain⟨hk,hR⟩:=hI;have hlen:=cf List.length hR
 by_cases h:k<p.ak.length
 ·rw[A0 h,cx]at hR hlen;simp only[aO]at hlen;have hx:=p5;refine gz ?_;exact⟨k+1,out++(p.ak[k]).am,⟨k0,by rw[bc];exact hR⟩,td1,wkR⟩
 ·rw[A1 h]at hR;simp at hR;refine gz ?_;exact finS (U':=V) (es:=cS out) ⟨by rw[hR],rfl⟩
@[reducible,instance] def a123:=fun p V=>ah1 (@WZ p V)
def DA{xs bs:fQ}(h:WkL xs bs):WkD (.agg xs) (.agg bs):=by
 rintro g v ⟨vs,e,r⟩
 exact⟨vs,e,h.rep r⟩
def ownersF:List aE->Nat->fR
 |[],_=>[]
 |c::r,i=>List.replicate c.am.length ((i:Int)+3)++ownersF r (i+1)
def AH(p:aD):World:=⟨p.ak.map (·.ap),ownersF p.ak 0⟩
def Wn(l:fV)(o:Own)(V:Sig):
  aB prog 198 [.slice l o] V (rS (.slice l .clip) V):=by
 refine en func198 ntmps198 ?_;refine gz ?_;exact fe1 trivial
@[reducible,instance] def a198:=fun l o V=>ah0 (@Wn l o V)
def KU(c:aE)(V:Sig)(hl:c.ap.length<=1073741824:=by exact sd):
  aB prog 117 [.agg (kF c)] V (rS (sl (cI c.ap)) V):=by
 refine en func117 ntmps117 ?_
 repeat' first|refine gz ?_|refine Au (Ih (cI c.ap) .no V (by simpa using hl) (C5 _)) ?_|refine callP (Ih (cI c.ap) .no V (by simpa using hl) (C5 _)) ?_|refine gz ?_|apply gy<;>intro hh
 exact fe1 trivial
@[reducible,instance] def a117:=fun c V=>ah1 (@KU c V)
def X4(l:List aE)(V:Sig)(hl:l.length<=1073741824:=by exact sd)(hp:∀c∈l,c.ap.length<=1073741824:=by exact sd):
  aB prog 116 [sl (l.map kF),.func (.func 117) [] []] V (rS (sl (cII (l.map (·.ap)))) V):=by
 refine en func116 ntmps116 ?_;refine gz ?_;refine BL 5 1 (fun i hi=>?_);refine AG [1,4,8,9,21,22] (fun (k:Nat) (out:fW)=>k<=l.length/\out.length=k/\out++(l.drop k).map (·.ap)=l.map (·.ap)) (fun k out=>[(10,dI k),(5,.slice (cII out) (.tag i))]) (fun _ out=>V.set i (.tail 1 out.length)) (fun k _=>l.length-k) (0) ([]) k7 (fun k out hI=>?_);obtain⟨hk,ho,hR⟩:=hI
 by_cases h:k<l.length
 ·rw[A0 h]at hR;have fY:=hp _ (aR h)
  repeat' first|refine Au (KU (l[k]) _ fY) ?_|refine callP (KU (l[k]) _ fY) ?_|refine gz ?_|apply gy<;>intro hh
  exact⟨k+1,out++[(l[k]).ap],⟨k0,by simp[ho],by rw[bc];exact hR⟩,td1,wkR⟩
 ·rw[A1 h]at hR;simp at hR;refine gz ?_;exact finS (U':=V) (es:=cII out) ⟨by rw[hR],rfl⟩ ((Sub.refl _).set hi)
@[reducible,instance] def a116:=fun l V=>ah2 (@X4 l V)
def Z9(p:aD)(V:Sig)(hl:p.ak.length<=1073741824:=by exact sd)(hp:∀c∈p.ak,c.ap.length<=1073741824:=by exact sd):
  aB prog 49 [.agg (Am p)] V (rS (sl (cII (p.ak.map (·.ap)))) V):=by
 refine en func49 ntmps49 ?_;refine gz ?_;exact fe1 trivial
@[reducible,instance] def a49:=fun p V=>ah2 (@Z9 p V)
def ownF(p:aD)(c:Int):Bool:=decide (3<=c)&&decide (c<3+p.ak.length)
mutual
def kA.cnt:kA->Int->Int
 |.mk _ _ _ _ _ k,most=>kA.cnts k most 1
def kA.cnts:List kA->Int->Int->Int
 |[],_,n=>n
 |f::l,most,n=>if n<=most then kA.cnts l most (n+f.cnt (most-n)) else n
end
def kA.cnt_eq(f:kA)(most:Int):f.cnt most=kA.cnts f.aq most 1:=by cases f;rw[kA.cnt];rfl
mutual
def kA.cnt_le: ∀(f:kA) (most:Int),1<=f.cnt most/\f.cnt most<=f.size
 |.mk _ _ _ _ _ k,most=>by
  have:=kA.cnts_le k most 1;rw[kA.cnt,kA.size];simp only[fH];omega
def kA.cnts_le: ∀(l:List kA) (most n:Int),n<=kA.cnts l most n/\kA.cnts l most n<=n+kA.sizes l
 |[],most,n=>by simp[kA.cnts,kA.sizes]
 |f::l,most,n=>by
  have h1:=kA.cnt_le f (most-n);have h2:=kA.cnts_le l most (n+f.cnt (most-n));rw[kA.cnts,kA.sizes];simp only[fH];split<;>omega
end
def KT(f:kA)(most:Int)(V:Sig)(hf:f.size<=1073741824:=by exact sd)(h1 : -2147483648<=most:=by exact sd)(h2:most<=1073741824:=by exact sd):
  aB prog 133 [.agg (Bp f),dI most] V (rS (dI (f.cnt most)) V):=by
 have jH:=kA.size_eq f;have jP:=kA.sizes_len f.aq;have jA:=kA.cnt_le f most;have gb:=(kA.cnt_eq f most).symm;refine en func133 ntmps133 ?_;refine gz ?_;refine AG [1,2,4,30] (fun (k:Nat) (m:Int)=>k<=f.aq.length/\1<=m/\kA.cnts (f.aq.drop k) most m=f.cnt most) (fun k m=>[(6,dI k),(5,dI m)]) (fun _ _=>V) (fun k _=>f.aq.length-k) (0) (1) (by exact⟨k0,k0,gb⟩) (fun k m hI=>?_);obtain⟨hk,hm,hR⟩:=hI;have jM:=kA.cnts_le (f.aq.drop k) most m
 by_cases h:k<f.aq.length
 ·rw[A0 h,kA.cnts]at hR;have jO:=kA.kid_size h;have jQ:=kA.cnt_le (f.aq[k]) (most-m)
  by_cases gk:m<=most
  ·rw[aS gk]at hR;have jp:=kA.cnts_le (f.aq.drop (k+1)) most (m+(f.aq[k]).cnt (most-m))
   repeat' first|refine gz ?_|refine Au (KT (f.aq[k]) (most-m) V k0 k0 k0) ?_|refine callP (KT (f.aq[k]) (most-m) V k0 k0 k0) ?_|refine gz ?_|apply gy<;>intro hh
   exact⟨k+1,m+(f.aq[k]).cnt (most-m),⟨k0,k0,hR⟩,td1,wkR⟩
  ·rw[aQ gk]at hR;refine gz ?_;exact fe1 hR
 ·rw[A1 h,kA.cnts]at hR;refine gz ?_;exact fe1 hR
termination_by SizeOf.sizeOf f
decreasing_by exact kA.lt (aR _)
@[reducible,instance] def a133:=fun f most V=>ah3 (@KT f most V)
def Z7(f:kA)(V:Sig)(hf:f.size<=1073741824:=by exact sd):aB prog 54 [.agg (Bp f)] V (rS (dI (f.cnt 24)) V):=by
 refine en func54 ntmps54 ?_;refine gz ?_;exact fe1 trivial
@[reducible,instance] def a54:=fun f V=>ah1 (@Z7 f V)
section
variable {V:Sig}{r i j:Nat}{a:D}
def wS(V:Sig)(r i j:Nat)(a:D)(out:fR):Sig:=((V.set r (.cells [.av,.av])).set i (.tail 1 out.length)).set j (.cells [a,.slice (cI out) (.tag i)])
theorem wS_j(out:fR):wS V r i j a out j=some (.cells [a,.slice (cI out) (.tag i)]):=w7 ..
theorem wS_i(d8:i≠j)(out:fR):wS V r i j a out i=some (.tail 1 out.length):=by unfold wS;rw[w8 _ _ d8,w7]
theorem wS_r(gX:j≠r)(gE:i≠r)(out:fR):wS V r i j a out r=some (.cells [.av,.av]):=by unfold wS;rw[w8 _ _ (aZ gX),w8 _ _ (aZ gE),w7]
theorem Ui(d8:i≠j)(out:fR)(x:Int):((wS V r i j a out).set i (.tail 1 (out.length+1))).set j (.cells [a,.slice (cI out++[[dI x]]) (.tag i)])=wS V r i j a (out++[x]):=by
 unfold wS;rw[Sig.set_comm _ _ _ (aZ d8),w9,w9];simp[cI]
theorem ZG(d8:i≠j){x:kM}:(((V.set r (.cells [.av,.av])).set j x).set i (.tail 1 0)).set j (.cells [a,.slice [] (.tag i)])=wS V r i j a []:=by
 unfold wS;rw[Sig.set_comm _ _ _ (aZ d8),w9];simp[cI]
theorem ZF(hr:V r=none)(hi:V i=none)(hj:V j=none)(out:fR):Sub V (wS V r i j a out):=by unfold wS;exact(((Sub.refl _).set hr).set hi).set hj
end
def ND(p:aD)(V:Sig)(hl:p.ak.length<=1073741824:=by exact sd)(hp:∀c∈p.ak,c.ap.length<=1073741824:=by exact sd)(iB:∀c∈p.ak,c.am.length<=1073741824:=by exact sd)(ho:(ownersF p.ak 0).length<=1073741824:=by exact sd):
  aB prog 71 [.agg (Am p)] V (rS (.agg (Dx (AH p))) V):=by
 refine en func71 ntmps71 ?_;refine gz ?_ [] [2,3];refine kR (fun r hr=>?_);refine gz ?_ [] [2,3];refine kR (fun j hj=>?_);obtain⟨gX,hj⟩:=A8 hj;refine gz ?_ [] [2,3];refine Bt j 1 1 (w7 ..) rfl fun i hi=>?_;obtain⟨d8,hi⟩:=A8 hi;obtain⟨gE,hi⟩:=A8 hi;simp only[w9,eF,fu];rw[ZG d8];have hS:=fun out=>wS_j (V:=V) (r:=r) (i:=i) (j:=j) (a:=sl (cII (p.ak.map (·.ap)))) out;have iO:=fun out=>wS_i (V:=V) (r:=r) (a:=sl (cII (p.ak.map (·.ap)))) d8 out;have iM:=fun out=>wS_r (V:=V) (a:=sl (cII (p.ak.map (·.ap)))) gX gE out;have iD:=fun out x=>Ui (V:=V) (r:=r) (a:=sl (cII (p.ak.map (·.ap)))) d8 out x;have hne:=fun (s:Sig) (o:kM)=>w8 s o (aZ d8);refine AG [1,2,3,34] (fun (k:Nat) (out:fR)=>k<=p.ak.length/\out++ownersF (p.ak.drop k) k=ownersF p.ak 0) (fun k _=>[(4,dI k)]) (fun _ out=>wS V r i j (sl (cII (p.ak.map (·.ap)))) out) (fun k _=>p.ak.length-k) (0) ([]) k7 (fun k out hI=>?_);obtain⟨hk,hR⟩:=hI
 by_cases h:k<p.ak.length
 ·rw[A0 h,ownersF]at hR;have iU:=iB _ (aR h);refine gf hS ?_ [] [2,3];refine AG [1,2,3,4,9,10,11,12,13,14,15,34] (fun (q:Nat) (out:fR)=>q<=(p.ak[k]).am.length/\out++(List.replicate ((p.ak[k]).am.length-q) ((k:Int)+3)++ownersF (p.ak.drop (k+1)) (k+1))=ownersF p.ak 0) (fun q _=>[(5,dI q)]) (fun _ out=>wS V r i j (sl (cII (p.ak.map (·.ap)))) out) (fun q _=>(p.ak[k]).am.length-q) (0) (out) (by simpa using hR) (fun q out hI=>?_);obtain⟨hq,hR⟩:=hI
  have hlen:out.length+((p.ak[k]).am.length-q)<=1073741824:=by
   have:=cf List.length hR;simp only[aO,bB]at this;omega
  by_cases h':q<(p.ak[k]).am.length
  ·refine gf (gi hS (gi iO (gi hne iD))) ?_ [] [2,3];exact⟨q+1,out++[(k:Int)+3],by refine⟨k0,?_⟩;rw[<-hR];obtain⟨m,hm⟩:∃m,(p.ak[k]).am.length-q=m+1:=⟨(p.ak[k]).am.length-q-1,k0⟩;rw[hm,show(p.ak[k]).am.length-(q+1)=m by omega,dn];simp,td1,wkR⟩
  ·rw[show(p.ak[k]).am.length-q=0 by omega]at hR;refine gf hS ?_ [] [2,3];exact⟨k+1,out,⟨k0,by simpa using hR⟩,td1,wkR⟩
 ·rw[A1 h,ownersF,br]at hR;refine gf (gi hS iM) ?_ [] [2,3];refine Ik Ag (ds:=[.agg [sl (cII (p.ak.map (·.ap))),.slice (cI out) (.tag i)]]) ?_ (DA (by rw[hR];simp[AH])) (U':=V) (.set (ZF hr hi hj out) hr) ⟨rfl,rfl⟩;simp[f71]
def Z1(p:aD)(V:Sig)(hl:p.ak.length<=1073741824:=by exact sd)(hp:∀c∈p.ak,c.ap.length<=1073741824:=by exact sd)(iB:∀c∈p.ak,c.am.length<=1073741824:=by exact sd)(ho:(ownersF p.ak 0).length<=1073741824:=by exact sd):
  aB prog 70 [.agg (Am p)] V (rS (.agg (Dx (AH p))) V):=by
 refine en func70 ntmps70 ?_;refine gz ?_ [] [2,3];refine kR (fun r hr=>?_);refine gz ?_ [] [2,3];refine kR (fun j hj=>?_);obtain⟨gX,hj⟩:=A8 hj;refine gz ?_ [] [2,3];refine Bt j 1 1 (w7 ..) rfl fun i hi=>?_;obtain⟨d8,hi⟩:=A8 hi;obtain⟨gE,hi⟩:=A8 hi;simp only[w9,eF,fu];rw[ZG d8];have hS:=fun out=>wS_j (V:=V) (r:=r) (i:=i) (j:=j) (a:=sl (cII (p.ak.map (·.ap)))) out;have iO:=fun out=>wS_i (V:=V) (r:=r) (a:=sl (cII (p.ak.map (·.ap)))) d8 out;have iM:=fun out=>wS_r (V:=V) (a:=sl (cII (p.ak.map (·.ap)))) gX gE out;have iD:=fun out x=>Ui (V:=V) (r:=r) (a:=sl (cII (p.ak.map (·.ap)))) d8 out x;have hne:=fun (s:Sig) (o:kM)=>w8 s o (aZ d8);refine AG [2,3,10,11,31] (fun (k:Nat) (out:fR)=>k<=p.ak.length/\out++ownersF (p.ak.drop k) k=ownersF p.ak 0) (fun k _=>[(12,dI k)]) (fun _ out=>wS V r i j (sl (cII (p.ak.map (·.ap)))) out) (fun k _=>p.ak.length-k) (0) ([]) k7 (fun k out hI=>?_);obtain⟨hk,hR⟩:=hI
 by_cases h:k<p.ak.length
 ·rw[A0 h,ownersF]at hR;have iU:=iB _ (aR h);refine gf hS ?_ [] [2,3];refine AG [2,3,4,5,10,11,12,13,14,15,16,17,18,19,30,31] (fun (q:Nat) (out:fR)=>q<=(p.ak[k]).am.length/\out++(List.replicate ((p.ak[k]).am.length-q) ((k:Int)+3)++ownersF (p.ak.drop (k+1)) (k+1))=ownersF p.ak 0) (fun q _=>[(20,dI q)]) (fun _ out=>wS V r i j (sl (cII (p.ak.map (·.ap)))) out) (fun q _=>(p.ak[k]).am.length-q) (0) (out) (by simpa using hR) (fun q out hI=>?_);obtain⟨hq,hR⟩:=hI
  have hlen:out.length+((p.ak[k]).am.length-q)<=1073741824:=by
   have:=cf List.length hR;simp only[aO,bB]at this;omega
  by_cases h':q<(p.ak[k]).am.length
  ·refine gf (gi hS (gi iO (gi hne iD))) ?_ [] [2,3];exact⟨q+1,out++[(k:Int)+3],by refine⟨k0,?_⟩;rw[<-hR];obtain⟨m,hm⟩:∃m,(p.ak[k]).am.length-q=m+1:=⟨(p.ak[k]).am.length-q-1,k0⟩;rw[hm,show(p.ak[k]).am.length-(q+1)=m by omega,dn];simp,td1,wkR⟩
  ·rw[show(p.ak[k]).am.length-q=0 by omega]at hR;refine gf hS ?_ [] [2,3];exact⟨k+1,out,⟨k0,by simpa using hR⟩,td1,wkR⟩
 ·rw[A1 h,ownersF,br]at hR;refine gf (gi hS iM) ?_ [] [2,3];refine Ik Ag (ds:=[.agg [sl (cII (p.ak.map (·.ap))),.slice (cI out) (.tag i)]]) ?_ (DA (by rw[hR];simp[AH])) (U':=V) (.set (ZF hr hi hj out) hr) ⟨rfl,rfl⟩;simp[f70]
@[reducible,instance] def a70:=fun p V=>ah4 (@Z1 p V)
def He{α:Type}[DecidableEq α](l:List α)(s:List α):List α:=l.foldl (fun s x=>ins x s) s
def lh(cs:List aE):Nat->fR->fR->fR
 |0,_,out=>out
 |n+1,up,out=>match cs[n]? with
  |some c=>if(n:Int)+3∈up then lh cs n (He c.ap up) (out++c.am) else lh cs n up out
  |none=>lh cs n up out
def hasP(p:aD)(c:Int):fR:=Fw (lh p.ak (c-2).toNat [c] [])
def HE(p:aD):wtL (fun c:aE=>c.am.length) p.ak<p.wt:=by
 have:∀l:List aE,wtL (fun c:aE=>c.am.length) l<=wtL aE.wt l:=fun l=>by
  induction l with
  |nil=>exact bn _
  |cons c l ih=>simp only[wtL,aE.wt];omega
 have:=this p.ak;unfold aD.wt;omega
def Jm{α:Type}(f:α->Nat)(l:List α)(n:Nat)(h:n<l.length):wtL f (l.take (n+1))=wtL f (l.take n)+f l[n]:=by
 rw[bQ h,EN];simp[wtL]
def Fs{α:Type}(f:α->Nat)(l:List α)(n:Nat):wtL f (l.take n)<=wtL f l:=by
 have:=EN f (l.take n) (l.drop n);rw[dt]at this;omega
def Yx{V:Sig}{st:MR}{l:fR}(h:mOK V 1 st (cI l)):mOK V 1 st (cI (Fw l)):=by
 cases st with
 |none=>
  have:cI l=[]:=h;have:l=[]:=by simpa[cI] using this
  subst this;rw[show Fw []=[] by simp[Fw]];exact h
 |some x=>
  obtain⟨h1,h2,h3,h4⟩:=h;have e:=HR l;refine⟨h1,?_,by simpa[e] using h3,C5 _⟩;rw[aO,DT (C5 _),Jf]at h2⊢;omega
def Z5(p:aD)(c:Int)(V:Sig)(hp:p.wt<=1073741824:=by exact sd)(hc:3<=c:=by exact sd)(jS:c<3+p.ak.length:=by exact sd):aB prog 62 [.agg (Am p),dI c] V (rS (sl (cI (hasP p c))) V):=by
 obtain⟨p1,p2,p3,p4,p5,p6,p7⟩:=p.wt_le;have ws:=HE p;refine en func62 ntmps62 ?_;refine gz ?_;refine newSI (fun i hi=>?_);refine gz ?_;refine T5 [2,4,5,45,46,47,48] (fun (n:Nat) (up:fR) (out:fR) (st:MR)=>n<=p.ak.length/\out.length+wtL (fun c:aE=>c.am.length) (p.ak.take n)<=1073741824/\mOK (V.set i (.map (eSI up))) 1 st (cI out)/\Fw (lh p.ak n up out)=hasP p c) (fun n _ out st=>[(7,dI (n+2)),(6,mD st out.length)]) (fun _ up out st=>mS (V.set i (.map (eSI up))) st (cI out)) (fun n _ _ _=>n) ((c-2).toNat) ([c]) ([]) (none) (by(refine⟨k0,?_,rfl,rfl⟩;have:=Fs (fun c:aE=>c.am.length) p.ak (c-2).toNat;simp;omega)) (fun n up out st hI=>?_);obtain⟨hn,hlen,hm,hR⟩:=hI;have hT:=fun k (h:k<p.ak.length)=>Jm (fun c:aE=>c.am.length) p.ak k h;obtain⟨jL,e8,iY⟩:=mS_at hm;rcases n with _|n
 ·rw[lh]at hR;refine gz ?_;refine Ad (WQ out st _ hm (by simp[wtL]at hlen;omega)) (fun d U' hr=>?_);obtain⟨jh,rfl⟩:=hr;cases jh;have gC:=Yx hm;rw[<-HR out];rw[hR]at gC⊢;refine mfr 6 ?_ (hm:=gC);refine gz ?_;exact fe1 (d':=sl (cI (hasP p c))) trivial
 ·have h:n<p.ak.length:=by omega
  have jT:=hT n h;have hw:=p5 n h;have jF:(p.ak[n]).wt=1+(p.ak[n]).ap.length+(p.ak[n]).am.length+(p.ak[n]).ar.length:=rfl;rw[lh,aT h]at hR
  by_cases gJ:(n:Int)+3∈up
  ·simp only[gJ,bI]at hR;have e3:(n:Int)+1+2=n+3:=by omega
   have iX:((n:Int)+1+2-3).toNat=n:=by omega
   refine gf (gi e8 (gi iY (gi gJ (gi e3 iX)))) ?_;refine mappI (fun st' gC=>?_);obtain⟨iE,gQ,gO⟩:=mS_at gC;refine gf (gi gQ (gi gO (gi gJ (gi e3 iX)))) ?_;refine Bb [2,4,5,6,7,14,15,16,17,18,19,20,21,22,23,24,25,26,27,28,29,30,31,32,33,34,35,36,37,45,46,47,48] (fun (k:Nat)=>k<=(p.ak[n]).ap.length) (fun k=>[(38,dI k)]) (fun k=>mS (V.set i (.map (eSI (He ((p.ak[n]).ap.take k) up)))) st' (cI (out++(p.ak[n]).am))) (fun k=>(p.ak[n]).ap.length-k) (0) td3 (fun k hI=>?_)
   by_cases hk:k<(p.ak[n]).ap.length
   ·have hs:He ((p.ak[n]).ap.take (k+1)) up=ins (p.ak[n]).ap[k] (He ((p.ak[n]).ap.take k) up):=by unfold He;rw[bQ hk,List.foldl_append];rfl
    refine gf (gi gQ gO) ?_;rw[<-hs];exact⟨k+1,td2,td1,wkR⟩
   ·have hs:(p.ak[n]).ap.take k=(p.ak[n]).ap:=bM k0;rw[hs];have e2:(n:Int)+3-1=n+2:=by omega
    refine gf (gi e3 e2) ?_;exact⟨n,He (p.ak[n]).ap up,out++(p.ak[n]).am,st',⟨k0,by rw[aO];omega,iE _,hR⟩,td1,wkR⟩
  ·simp only[gJ,bl]at hR;have e3:(n:Int)+1+2=n+3:=by omega
   have e2:(n:Int)+3-1=n+2:=by omega
   refine gf (gi e8 (gi iY (gi gJ (gi e3 e2)))) ?_;exact⟨n,up,out,st,⟨k0,k0,hm,hR⟩,td1,wkR⟩
@[reducible,instance] def a62:=fun p c V=>ah3 (@Z5 p c V)
def Gv(all:fW)(c:Int):Bool:=all.all fun x=> !decide (c∈x.tail)
def F7(all:fW):Bool->fW->Option Int×Bool
 |s,[]=>(none,s)
 |s,[]::r=>F7 all s r
 |_,(x::_)::r=>if Gv all x then(some x,true) else F7 all true r
def Fb:Nat->fW->fR->fR×Bool
 |0,_,out=>(out,false)
 |n+1,ls,out=>match F7 ls false ls with
  |(none,s)=>(out, !s)
  |(some c,_)=>Fb n (ls.map fun l=>l.filter fun x=> !decide (x=c)) (out++[c])
def totL:fW->Nat
 |[]=>0
 |l::r=>l.length+totL r
def Cb(ls:fW):fR×Bool:=Fb (totL ls+1) ls []
def MY{l:fR}: ∀{ls:fW},l∈ls->l.length<=totL ls
 |x::r,h=>by
  rcases be.1 h with rfl|h
  ·simp[totL]
  ·have:=MY h;simp only[totL];omega
def F6{all:fW}{c:Int}{b:Bool}: ∀{s:Bool}{ls:fW},F7 all s ls=(some c,b)->∃l∈ls,c∈l
 |s,[],h=>by simp[F7]at h
 |s,[]::r,h=>by
  rw[F7]at h;obtain⟨l,h1,h2⟩:=F6 h;exact⟨l,by simp[h1],h2⟩
 | s,(x::t)::r,h=>by
  rw[F7]at h
  by_cases hf:Gv all x=true
  ·rw[aS hf]at h;exact⟨x::t,k7,by simp only[dC,bJ]at h;simp[h.1]⟩
  ·rw[aQ hf]at h;obtain⟨l,h1,h2⟩:=F6 h;exact⟨l,by simp[h1],h2⟩
def Uk(c:Int): ∀ls:fW,totL (ls.map fun l=>l.filter fun x=> !decide (x=c))<=totL ls
 |[]=>by simp[totL]
 |l::r=>by
  have:=Uk c r;have:=eu (fun x=> !decide (x=c)) l;simp only[bg,totL];omega
def Vs{c:Int}{l:fR}(h:c∈l):(l.filter fun x=> !decide (x=c)).length<l.length:=by
 induction l with
 |nil=>simp at h
 | cons x r ih =>
  have:=eu (fun x=> !decide (x=c)) r
  by_cases hx:x=c
  ·simp[hx];omega
  ·have hr:c∈r:=by rcases be.1 h with rfl|h;exact absurd rfl hx;exact h
   have:=ih hr;simp[hx];omega
def MZ{c:Int}{l:fR}(hc:c∈l): ∀{ls:fW},l∈ls->totL (ls.map fun l=>l.filter fun x=> !decide (x=c))<totL ls
 | x::r,h=>by
  simp only[bg,totL];rcases be.1 h with rfl|h
  ·have:=Uk c r;have:=Vs hc;omega
  ·have:=MZ hc h;have:=eu (fun x=> !decide (x=c)) x;omega
def WO(l:fW)(o:Own)(V:Sig)(hn:∀x∈l, ∀y∈x,0<=y)(hl:l.length<=1073741824:=by exact sd)(ht:totL l<=1073741824:=by exact sd):
  aB prog 154 [.slice (cII l) o] V (rS (.tup [sl (cI (Cb l).1),.bool (Cb l).2]) V):=by
 refine en func154 ntmps154 ?_;refine gz ?_;refine BL 4 1 (fun i hi=>?_);refine E2 [] (fun (n:Nat) (ls:fW) (out:fR)=>totL ls<n/\out.length+totL ls<=1073741824/\ls.length=l.length/\(∀x∈ls, ∀y∈x,0<=y)/\Fb n ls out=Cb l) (fun _ ls out=>[(0,.slice (cII ls) .no),(4,.slice (cI out) (.tag i))]) (fun _ _ out=>V.set i (.tail 1 out.length)) (fun n _ _=>n) (totL l+1) (l) ([]) (by exact⟨k0,by simpa using ht,rfl,hn,rfl⟩) (fun n ls out hI=>?_);obtain⟨jm,hlen,e7,gu,hR⟩:=hI;have gD:∀x∈ls,x.length<=1073741824:=fun x hx=>by have:=MY hx;omega
 refine gz ?_;refine E2 [0,2,3,4,8,9,40,41,42,43,44,45,46,47,48,49,50,51,52,53,54,55,56,57,58,59,60,61,62,63,64] (fun (q:Nat) (cv:Int) (s:Bool)=>q<=ls.length /\ -1<=cv/\(cv<0->F7 ls false ls=F7 ls s (ls.drop q))/\(0<=cv->F7 ls false ls=(some cv,true))) (fun q cv s=>[(5,dI cv),(6,.bool s),(7,dI q)]) (fun _ _ _=>V.set i (.tail 1 out.length)) (fun q _ _=>ls.length-q) (0) (-1) (false) k7 (fun q cv s hI=>?_);obtain⟨hq,jR,hA,hB⟩:=hI;have jx:cv = -1\/0<=cv:=by omega
 rcases jx with gx|gx
 ·subst gx
  replace hA:=hA k0
  by_cases h:q<ls.length
  ·have hx:=gD _ (aR h);have jd:=gu _ (aR h);rw[A0 h]at hA;rcases d6:ls[q]with _|⟨y,r⟩
   ·rw[d6,F7]at hA;refine gf d6 ?_;exact⟨q+1, -1,s,⟨k0,k0,fun _=>hA,k0⟩,td1,wkR⟩
   ·rw[d6,F7]at hA;have hy:0<=y:=jd y (by simp[d6])
    repeat' first|refine gf d6 ?_|apply gy<;>intro hh
    ·rw[aS (show Gv ls y=true from hh)]at hA;exact⟨q+1,y,true,⟨k0,k0,k0,fun _=>hA⟩,td1,wkR⟩
    ·rw[show Gv ls y=false from hh]at hA;exact⟨q+1, -1,true,⟨k0,k0,fun _=>hA,k0⟩,td1,wkR⟩
  ·rw[A1 h,F7]at hA;refine gz ?_;obtain⟨m,rfl⟩:∃m,n=m+1:=⟨n-1,k0⟩;rw[Fb,hA]at hR
   replace hR:Cb l=(out, !s):=hR.symm
   exact fe2 (d':=sl (cI out)) hR
 ·replace hB:=hB gx
  obtain⟨m,rfl⟩:∃m,n=m+1:=⟨n-1,k0⟩;rw[Fb,hB]at hR
  replace hR:Fb m (ls.map fun l=>l.filter fun x=> !decide (x=cv)) (out++[cv])=Cb l:=hR
  obtain⟨e,he,gb⟩:=F6 hB;have jq:=MZ gb he
  have gh:∀x∈ls.map (fun l=>l.filter fun x=> !decide (x=cv)), ∀y∈x,0<=y:=by
   intro x hx y hy;obtain⟨z,hz,rfl⟩:=bD.1 hx;exact gu z hz y (bR.1 hy).1
  by_cases h:q<ls.length
  all_goals
   refine gz ?_;refine BL 8 1 (fun j hj=>?_);refine AG [0,2,3,4,5,6,7,10,11,12,13,14,15,16,17,18,19,20,21,22,23,24,25,26,27,28,29,30,31,32,33,34,35,36,37,38,39,40,41,42,43,44,45,46,47,48,64] (fun (k:Nat) (acc:fW)=>k<=ls.length/\acc=(ls.take k).map fun l=>l.filter fun x=> !decide (x=cv)) (fun k acc=>[(9,dI k),(8,.slice (cII acc) (.tag j))]) (fun _ acc=>(V.set i (.tail 1 (out.length+1))).set j (.tail 1 acc.length)) (fun k _=>ls.length-k) (0) ([]) k7 (fun k acc hI=>?_);obtain⟨hk,d9⟩:=hI;have jB:acc.length=k:=by rw[d9];simp;omega
   by_cases h':k<ls.length
   ·have hx:=gD _ (aR h');refine gz ?_;exact⟨k+1,acc++[(ls[k]).filter fun x=> !decide (x=cv)],⟨k0,by rw[d9,AQ h',bL];rfl⟩,td1,wkR⟩
   ·have gW:k=ls.length:=by omega
    rw[gW,dN]at d9;subst d9;have go:Sub (V.set i (.tail 1 (out++[cv]).length)) ((V.set i (.tail 1 (out.length+1))).set j (.tail 1 (ls.map fun l=>l.filter fun x=> !decide (x=cv)).length)):=by rw[aO];exact(Sub.refl _).set (by assumption)
    refine gz ?_;exact⟨m,(ls.map fun l=>l.filter fun x=> !decide (x=cv)),(out++[cv]),⟨k0,by rw[aO,ce];omega,by simpa using e7,gh,hR⟩,td1,wkR⟩
def parentsF(g:fW)(c:Int):fR:=if c<3 then [] else(g[(c-3).toNat]?).getD []
def AB(orders:fW)(p:Int):fR:=(orders[p.toNat]?).getD []
def Dg(orders:fW):fR->Option fW
 |[]=>some []
 |p::r=>if(AB orders p).length=0 then none else(Dg orders r).map ((AB orders p).filter (fun x=> !decide (x=0)) :: ·)
def BW(orders:fW)(ps:fR):Option fW:=(Dg orders ps).map (· ++ [ps])
def WP(g orders:fW)(c:Int)(o o':Own)(V:Sig)(hl:g.length<=1073741824:=by exact sd)(hc:c<3+g.length:=by exact sd)(iC:(parentsF g c).length<=1073741824:=by exact sd)(hp:∀p∈parentsF g c,0<=p/\p<orders.length)(ho:orders.length<=1073741824:=by exact sd)(jk:∀x∈orders,x.length<=1073741824:=by exact sd):
  aB prog 153 [.slice (cII g) o,.slice (cII orders) o',dI c] V (rS (.tup [sl (cII ((BW orders (parentsF g c)).getD [])),.bool (BW orders (parentsF g c)).isSome]) V):=by
 have ji:=iC;refine en func153 ntmps153 ?_
 repeat' first|refine gz ?_|refine Au (KQ g c o V hl hc) ?_|refine callP (KQ g c o V hl hc) ?_|refine gz ?_|apply gy<;>intro hh
 have e0:(if c<3 then [] else(g[(c-3).toNat]?).getD [])=parentsF g c:=rfl;rw[e0];generalize parentsF g c=ps at*;refine BL 8 1 (fun i hi=>?_);refine AG [1,9,40,41,42,43] (fun (k:Nat) (out:fW)=>k<=ps.length/\out.length<=k/\Dg orders ps=(Dg orders (ps.drop k)).map (out ++ ·)) (fun k out=>[(10,dI k),(8,.slice (cII out) (.tag i))]) (fun _ out=>V.set i (.tail 1 out.length)) (fun k _=>ps.length-k) (0) ([]) k7 (fun k out hI=>?_);obtain⟨hk,hlen,hR⟩:=hI
 by_cases h:k<ps.length
 ·obtain⟨jJ,jI⟩:=hp _ (aR h);have iV:(ps[k]).toNat<orders.length:=by omega
  have hx:=jk _ (aR iV);have iz:AB orders ps[k]=orders[(ps[k]).toNat]:=by unfold AB;simp[iV]
  rw[A0 h,Dg,iz]at hR
  repeat' first|refine gz ?_|apply gy<;>intro hh
  ·have hn:BW orders ps=none:=by unfold BW;rw[hR];simp_all
   exact fe2 (d':=sl []) hn
  ·exact⟨k+1,out++[(orders[(ps[k]).toNat]).filter fun x=> !decide (x=0)],by refine⟨k0,by simp;omega,?_⟩;rw[hR,aQ (by simpa using hh),fJ];congr 1;funext z;simp,td1,wkR⟩
 ·rw[A1 h,Dg]at hR;have hn:BW orders ps=some (out++[ps]):=by unfold BW;rw[hR];simp
  refine gz ?_;exact fe2 (d':=sl (cII (out++[ps]))) hn
def ag(x:DE):Prop:= ∃n:Int,x=.ret (.agg [.int .u64 n])
def Pj(s c:Int)(V:Sig)(hc:0<=c:=by exact sd):aB prog 200 [.agg [.int .u64 s],dI c] V fun x U'=>ag x/\U'=V:=by
 refine en func200 ntmps200 ?_;refine KV ?_;refine Il ?_;refine boxV (fun i hi=>?_);refine kR (fun j hj=>?_);obtain⟨gv,gY⟩:=A8 hj;have d8:i≠j:=fun e=>gv e.symm;refine gf (gi gv (gi d8 (SF .u64 .i64 1 c hc))) ?_ o200 [2,4];refine finCE (U':=V) (by simp[resL,d8,gv];with_unfolding_all rfl) ⟨⟨_,rfl⟩,rfl⟩ ?_;exact((((Sub.refl _).set hi).set gY).set hi).set gY
def Wl(s c:Int)(V:Sig):aB prog 201 [.agg [.int .u64 s],.agg [.int .u64 c]] V fun x U'=>ag x/\U'=V:=by
 refine en func201 ntmps201 ?_;refine KV ?_;refine Il ?_;refine boxV (fun i hi=>?_);refine gz ?_ [] [2,4];refine kR (fun j hj=>?_);obtain⟨gv,gY⟩:=A8 hj;have d8:i≠j:=fun e=>gv e.symm;refine gf (gi gv d8) ?_ [] [2,4];refine finCE (U':=V) (by simp[resL,d8,gv];with_unfolding_all rfl) ⟨⟨_,rfl⟩,rfl⟩ ?_;exact((((Sub.refl _).set hi).set gY).set hi).set gY
def Fg(ig im:Nat)(ps os:fW)(ups:D)(om:List (Int×fR))(c:Nat)(o:Own)(V:Sig)(hg:V ig=some (.cells [.slice (cII ps) o,ups,.map im]))(hm:V im=some (.map (eIO om)))(hc:c<ps.length)
  (hl:ps.length<=1073741824) (fY:(ps[c]).length<=1073741824) (ho:∀p∈ps[c],getM [] p om=AB os p) (gj:∀p∈ps[c],(AB os p).length<=1073741824) :
  aB prog 246 [.ptr ig 0,dI c] V (rS (.tup [sl (cII ((BW os ps[c]).getD [])),.bool (BW os ps[c]).isSome]) V):=by
 refine en func246 ntmps246 ?_;refine gf (gi hg hm) ?_;generalize iC:ps[c]=l at*;refine BL 6 1 (fun i hi=>?_);have f0:ig≠i:=fun e=>by rw[e,hi]at hg;cases hg
 have e8:im≠i:=fun e=>by rw[e,hi]at hm;cases hm
 refine AG [0,1,15,16,40,41,42,43,44,45,46,47,48,49] (fun (k:Nat) (out:fW)=>k<=l.length/\out.length<=k/\Dg os l=(Dg os (l.drop k)).map (out ++ ·)) (fun k out=>[(17,dI k),(6,.slice (cII out) (.tag i))]) (fun _ out=>V.set i (.tail 1 out.length)) (fun k _=>l.length-k) (0) ([]) k7 (fun k out hI=>?_);obtain⟨hk,hlen,hR⟩:=hI
 by_cases h:k<l.length
 ·have iz:=ho _ (aR h);have hx:=gj _ (aR h);rw[A0 h,Dg]at hR;refine gf (gi hg (gi hm (gi f0 e8))) ?_;refine lkO ?_ (hi:=by rw[w8 _ _ e8];exact hm);rw[iz]
  repeat' first|refine gf (gi hg (gi hm (gi f0 e8))) ?_|apply gy<;>intro hh
  ·have hn:BW os l=none:=by unfold BW;rw[hR];simp_all
   exact fe2 (d':=sl []) hn
  ·refine lkO ?_ (hi:=by rw[w8 _ _ e8];exact hm);rw[iz];refine gf (gi hg (gi hm (gi f0 e8))) ?_;exact⟨k+1,out++[(AB os l[k]).filter fun x=> !decide (x=0)],by refine⟨k0,by simp;omega,?_⟩;rw[hR,aQ (by simpa using hh),fJ];congr 1;funext z;simp,td1,wkR⟩
 ·rw[A1 h,Dg]at hR;have hn:BW os l=some (out++[l]):=by unfold BW;rw[hR];simp
  refine gf (gi hg (gi hm (gi f0 (gi e8 iC)))) ?_;exact fe2 (d':=sl (cII (out++[l]))) hn
def Gy(l:fW)(o:Own)(V:Sig)(hl:l.length<=1073741824:=by exact sd)(ht:totL l<=1073741824:=by exact sd):
  aB prog 247 [.slice (cII l) o] V (rS (.tup [sl (cI (Cb l).1),.bool (Cb l).2]) V):=by
 refine en func247 ntmps247 ?_;refine gz ?_ o247;refine BL 4 1 (fun i hi=>?_);refine E2 [] (fun (n:Nat) (ls:fW) (out:fR)=>totL ls<n/\out.length+totL ls<=1073741824/\ls.length=l.length/\Fb n ls out=Cb l) (fun _ ls out=>[(0,.slice (cII ls) .no),(4,.slice (cI out) (.tag i))]) (fun _ _ out=>V.set i (.tail 1 out.length)) (fun n _ _=>n) (totL l+1) (l) ([]) (by exact⟨k0,by simpa using ht,rfl,rfl⟩) (fun n ls out hI=>?_);obtain⟨jm,hlen,e7,hR⟩:=hI;obtain⟨n,rfl⟩:∃m,n=m+1:=⟨n-1,k0⟩;have gD:∀x∈ls,x.length<=1073741824:=fun x hx=>by have:=MY hx;omega
 rw[Fb]at hR;refine gz ?_ o247;refine AG [2,3,14,15,63,64,65] (fun (q:Nat) (s:Bool)=>q<=ls.length/\F7 ls false ls=F7 ls s (ls.drop q)) (fun q s=>[(5,.bool s),(16,dI q),(0,.slice (cII ls) .no),(4,.slice (cI out) (.tag i))]) (fun _ _=>V.set i (.tail 1 out.length)) (fun q _=>ls.length-q) (0) (false) k7 (fun q s hI=>?_);obtain⟨hq,hA⟩:=hI
 by_cases h:q<ls.length
 ·have hx:=gD _ (aR h);rw[A0 h]at hA;rcases d6:ls[q]with _|⟨y,r⟩
  ·rw[d6,F7]at hA;refine gf d6 ?_ o247;exact⟨q+1,s,⟨k0,hA⟩,td1,wkR⟩
  ·rw [d6,F7] at hA;rw[d6]at hx;simp only[aV]at hx;refine gf d6 ?_ o247;refine Bb [0,2,3,4,5,7,10,11,13,14,15,16,17,18,19,20,21,22,23,24,41,42,43,44,45,46,47,48,49,50,51,52,53,54,55,56,57,58,59,60,61,62,63,64,65] (fun (k:Nat)=>k<=ls.length/\Gv (ls.take k) y=true) (fun k=>[(25,dI k)]) (fun _=>V.set i (.tail 1 out.length)) (fun k=>ls.length-k) (0) (by simp[Gv]) (fun k hI=>?_);obtain⟨hk,hF⟩:=hI
   by_cases gW:k<ls.length
   ·have iA:=gD _ (aR gW)
    have d7:Gv (ls.take (k+1)) y=(Gv (ls.take k) y&&!decide (y∈ls[k].tail)):=by
     unfold Gv;rw[bQ gW,dp];simp
    rcases gK:ls[k]with _|⟨z,t⟩
    ·rw[gK]at d7;refine gf (gi gK d6) ?_ o247;exact⟨k+1,⟨k0,by rw[d7,hF];simp⟩,td1,wkR⟩
    ·rw[gK]at d7 iA;simp only[aV]at iA
     repeat' first|refine gf (gi gK d6) ?_ o247|apply gy<;>intro hh
     ·have jl:Gv ls y=false:=by
       unfold Gv;rw[List.all_eq_false];refine⟨ls[k],aR gW,?_⟩;rw[gK];simp[hh]
      rw[jl]at hA;exact⟨q+1,true,⟨k0,by simpa using hA⟩,td1,wkR⟩
     ·exact⟨k+1,⟨k0,by rw[d7,hF];simp[hh]⟩,td1,wkR⟩
   ·have jr:k=ls.length:=by omega
    rw[jr,dN]at hF;rw[hF,aS rfl]at hA;rw[hA]at hR
    replace hR:Fb n (ls.map fun l=>l.filter fun x=> !decide (x=y)) (out++[y])=Cb l:=hR
    obtain⟨e,he,gb⟩:=F6 hA;have jq:=MZ gb he;refine gf d6 ?_ o247;refine BL 11 1 (fun j hj=>?_);refine AG [0,2,3,4,5,7,9,10,14,15,16,17,18,19,20,21,22,23,24,25,26,27,28,29,30,31,32,33,34,35,36,37,38,39,40,41,42,43,44,45,46,47,48,49,61,62,63,64,65] (fun (m:Nat) (acc:fW)=>m<=ls.length/\acc=(ls.take m).map fun l=>l.filter fun x=> !decide (x=y)) (fun m acc=>[(50,dI m),(11,.slice (cII acc) (.tag j))]) (fun _ acc=>(V.set i (.tail 1 (out.length+1))).set j (.tail 1 acc.length)) (fun m _=>ls.length-m) (0) ([]) k7 (fun m acc hI=>?_);obtain⟨hm,d9⟩:=hI;have jB:acc.length=m:=by rw[d9];simp;omega
    by_cases h':m<ls.length
    ·have iP:=gD _ (aR h')
     repeat' first|refine gz ?_|refine Au (Ig (ls[m]) (fun c=> !decide (c=y)) 284 [.aw [dI y] 0] _ _ iP (fun x _ U' _=>Pb x y U')) ?_|refine callP (Ig (ls[m]) (fun c=> !decide (c=y)) 284 [.aw [dI y] 0] _ _ iP (fun x _ U' _=>Pb x y U')) ?_|refine gz ?_ o247|apply gy<;>intro hh
     exact⟨m+1,acc++[(ls[m]).filter fun x=> !decide (x=y)],⟨k0,by rw[d9,AQ h',bL];rfl⟩,td1,wkR⟩
    ·have gC:m=ls.length:=by omega
     rw[gC,dN]at d9;subst d9;have go:Sub (V.set i (.tail 1 (out++[y]).length)) ((V.set i (.tail 1 (out.length+1))).set j (.tail 1 (ls.map fun l=>l.filter fun x=> !decide (x=y)).length)):=by rw[aO];exact(Sub.refl _).set (by assumption)
     refine gz ?_ o247;exact⟨n,(ls.map fun l=>l.filter fun x=> !decide (x=y)),(out++[y]),⟨k0,by rw[aO,ce];omega,by simpa using e7,hR⟩,td1,wkR⟩
 ·rw[A1 h,F7]at hA;rw[hA]at hR
  replace hR:Cb l=(out, !s):=hR.symm
  refine gz ?_ o247;exact fe2 (d':=sl (cI out)) hR
@[reducible,instance] def a247:=fun l o V=>ah2 (@Gy l o V)
def I6: ∀(n:Nat) (ls:fW) (out:fR),(Fb n ls out).1.length<=out.length+totL ls
 |0,_,_=>fF _ _
 | n+1,ls,out=>by
  rw[Fb];cases h:F7 ls false ls with
  | mk a s =>
   cases a with
   |none=>exact fF _ _
   |some c=>
    obtain⟨e,he,gb⟩:=F6 h;have h1:=MZ gb he;have h2:=I6 n (ls.map fun l=>l.filter fun x=> !decide (x=c)) (out++[c]);rw[aO,ce]at h2;simp only;omega
def ES(ls:fW):(Cb ls).1.length<=totL ls:=by
 exact dy (I6 (totL ls+1) ls []) k7
def BM(os:fW)(c:Int)(ps:fR):fR:=
 match BW os ps with
 |none=>[]
 |some ls=>if(Cb ls).2 then c::(Cb ls).1++[0] else []
def Wj(ig im:Nat)(ps os:fW)(ups:D)(om:List (Int×fR))(c:Nat)(o:Own)(V:Sig)(hne:ig≠im)(hg:V ig=some (.cells [.slice (cII ps) o,ups,.map im]))(hm:V im=some (.map (eIO om)))(hc:c<ps.length)(jz:c≠0)
  (hl:ps.length<=1073741824) (fY:(ps[c]).length<=1073741824) (ho:∀p∈ps[c],getM [] p om=AB os p) (gj:∀p∈ps[c],(AB os p).length<=1073741824) (ht:∀ls,BW os ps[c]=some ls->ls.length<=1073741824/\totL ls<=1073741824) :
  aB prog 202 [.ptr ig 0,dI c] V fun x U'=>x=.ret (.tup [])/\U'=if BM os c ps[c]=[] then V else V.set im (.map (eIO (putM c (BM os c ps[c]) om))):=by
 have fX:¬(c:Int)=0:=by omega
 refine en func202 ntmps202 ?_;cases e7:BW os ps[c]with
 |none=>
  repeat' first|refine gf (gi fX (gi hg (gi hm e7))) ?_|refine Au (Fg ig im ps os ups om c o V hg hm hc hl fY ho gj) ?_|refine callP (Fg ig im ps os ups om c o V hg hm hc hl fY ho gj) ?_|refine gf (gi fX (gi hg (gi hm e7))) ?_ o202|apply gy<;>intro hh
  exact fin0 (U':=V) ⟨rfl,by simp[BM,e7]⟩
 | some ls =>
  obtain⟨h1,h2⟩:=ht ls e7;have jK:(Cb ls).1.length<=totL ls:=ES ls
  by_cases gU:(Cb ls).1=[]
  ·repeat' first|refine gf (gi fX (gi hg (gi hm e7))) ?_|refine Au (Fg ig im ps os ups om c o V hg hm hc hl fY ho gj) ?_|refine callP (Fg ig im ps os ups om c o V hg hm hc hl fY ho gj) ?_|refine Au (Gy ls .no V h1 h2) ?_|refine callP (Gy ls .no V h1 h2) ?_|refine gf (gi fX (gi hg (gi hm e7))) ?_ o202|apply gy<;>intro hh
   refine moApp0 ?_
   repeat' first|refine gz ?_ o202|apply gy<;>intro hh
   refine UZ (fun i hi=>?_);have e8:im≠i:=fun h=>by rw[h,hi]at hm;simp at hm
   refine rtl 39 (sl (cI [(c:Int),0])) ?_;refine gf (gi hm e8) ?_ o202;exact fin0 (U':=V.set im (.map (eIO (putM c [(c:Int),0] om)))) ⟨rfl,by rw[BM,e7];simp[hh,gU]⟩ (Sub.both ((Sub.refl _).set hi));exact fin0 (U':=V) ⟨rfl,by rw[BM,e7];simp[hh]⟩
  ·repeat' first|refine gf (gi fX (gi hg (gi hm e7))) ?_|refine Au (Fg ig im ps os ups om c o V hg hm hc hl fY ho gj) ?_|refine callP (Fg ig im ps os ups om c o V hg hm hc hl fY ho gj) ?_|refine Au (Gy ls .no V h1 h2) ?_|refine callP (Gy ls .no V h1 h2) ?_|refine gf (gi fX (gi hg (gi hm e7))) ?_ o202|apply gy<;>intro hh
   refine ZO (fun i hi=>?_);have e8:im≠i:=fun h=>by rw[h,hi]at hm;simp at hm
   refine gz ?_ o202;refine rtl 39 (sl (cI ((c:Int)::(Cb ls).1++[0]))) ?_ (CY _ (by simp[cI]));refine gf (gi hm e8) ?_ o202;exact fin0 (U':=V.set im (.map (eIO (putM c ((c:Int)::(Cb ls).1++[0]) om)))) ⟨rfl,by rw[BM,e7];simp[hh]⟩ (Sub.both ((Sub.refl _).set hi));exact fin0 (U':=V) ⟨rfl,by rw[BM,e7];simp[hh]⟩
def KD{i:Nat}: ∀{l seen:fR},Dp i seen l=true->∀p∈l,3<=p/\p<3+i
 |[],_,_,p,hp=>by simp at hp
 |q::r,seen,h,p,hp=>by
  simp only[Dp,aN,aP]at h;rcases be.1 hp with rfl|hp
  ·exact h.1.1
  ·exact KD h.2 p hp
def Gu: ∀{g:fW}{i:Nat},C7 i g=true->∀k (hk:k<g.length),Gt (i+k) g[k]=true
 |l::r,i,h,0,_=>by simp only[C7,aN]at h;exact h.1
 |l::r,i,h,k+1,hk=>by
  simp only[C7,aN]at h;have:=Gu h.2 k (by simpa using hk);rw[show i+(k+1)=i+1+k by omega];exact this
def BN{g:fW}(h:Bo g=true)(c:Nat):(parentsF g c).length<=3 /\ ∀p∈parentsF g c,3<=p/\p<c:=by
 simp only[Bo,aN]at h;unfold parentsF;split
 ·simp
 ·rename_i hc
  by_cases hk:(((c:Int)-3).toNat)<g.length
  ·have:=Gu h.2 _ hk;rw[aT hk,ca];simp only[Gt,aN,aP]at this;refine⟨this.1,fun p hp=>?_⟩;have:=KD this.2 p hp;omega
  ·rw[bW k0];simp
def Ee{g:fW}(h:Bo g=true):g.length<=16:=by
 simp only[Bo,aN,aP]at h;exact h.1
def ordersN(g:fW):Nat->fW
 |0=>[]
 |n+1=>ordersN g n++[if n=0 then [0] else BM (ordersN g n) n (parentsF g n)]
def Bv(g:fW): ∀n,(ordersN g n).length=n
 |0=>rfl
 |n+1=>by rw[ordersN,aO,Bv g n];rfl
def Gj(os:fW)(x:fR){p:Int}(hp:0<=p):AB (os++[x]) p=if p=os.length then x else AB os p:=by
 unfold AB
 by_cases h:p.toNat<os.length
 ·rw[bK h,aQ k0]
 ·by_cases h2:p=os.length
  ·rw[aS h2,h2];simp
  ·rw[aQ h2,bW (by simp;omega),bW k0]
def Ks{os:fW}{M:Nat}: ∀{ps:fR}{ls:fW},Dg os ps=some ls->(∀p∈ps,(AB os p).length<=M)->totL ls<=ps.length*M/\ls.length=ps.length
 |[],ls,h,_=>by simp only[Dg,bJ]at h;subst h;simp[totL]
 | p::r,ls,h,hM=>by
  rw[Dg]at h;split at h
  ·cases h
  ·cases hr:Dg os r with
   |none=>rw[hr]at h;cases h
   |some l2=>
    rw[hr]at h;simp only[bT,bJ]at h;subst h;obtain⟨h1,h2⟩:=Ks hr fun q hq=>hM q (dH _ hq);have h3:=hM p (List.mem_cons_self ..);have h4:((AB os p).filter fun x=> !decide (x=0)).length<=(AB os p).length:=eu ..;simp only[totL,aV,cK];omega
def Y9(a b:fW):totL (a++b)=totL a+totL b:=by
 induction a with
 |nil=>simp[totL]
 |cons x a ih=>simp only[bE,totL,ih];omega
def Gn{os:fW}{M:Nat}{ps:fR}{ls:fW}(h:BW os ps=some ls)(hM:∀p∈ps,(AB os p).length<=M):totL ls<=ps.length*M+ps.length/\ls.length=ps.length+1:=by
 unfold BW at h;cases hr:Dg os ps with
 |none=>rw[hr]at h;cases h
 |some l2=>
  rw[hr]at h;simp only[bT,bJ]at h;subst h;obtain⟨h1,h2⟩:=Ks hr hM;rw[Y9];simp[totL];omega
def HY{os:fW}{M:Nat}{c:Int}{ps:fR}(hM:∀p∈ps,(AB os p).length<=M):(BM os c ps).length<=ps.length*M+ps.length+2:=by
 unfold BM;cases h:BW os ps with
 |none=>simp
 |some ls=>
  have h1:=(Gn h hM).1;have h2:=ES ls;simp only;split
  ·simp only[aO,aV,cG];omega
  ·simp
def HX{g:fW}(h:Bo g=true): ∀n, ∀p:Int,0<=p->(AB (ordersN g n) p).length+3<=5*3 ^ (n-4)
 |0,p,_=>by simp[ordersN,AB]
 | n+1,p,hp=>by
  have ih:=HX h n;have gP:5*3 ^ (n-4)<=5*3 ^ (n+1-4):=Nat.mul_le_mul_left _ (Nat.pow_le_pow_right (by decide) k0);have gu:1<=3 ^ (n+1-4):=Nat.one_le_pow _ _ (by decide);rw[ordersN,Gj _ _ hp,Bv];split
  ·split
   ·rw[ce];omega
   ·obtain⟨g1,g2⟩:=BN h n
    by_cases hn:n<4
    ·have he:parentsF g n=[]:=by
      cases hq:parentsF g n with
      |nil=>rfl
      |cons q r=>have:=g2 q (by rw[hq];simp);omega
     have:=HY (os:=ordersN g n) (M:=0) (c:=n) (ps:=parentsF g n) (by rw[he];simp);rw[he]at this⊢;simp at this;omega
    ·have:=HY (os:=ordersN g n) (M:=5*3 ^ (n-4)-3) (c:=n) (ps:=parentsF g n) (fun q hq=>by have:=ih q (by have:=g2 q hq;omega);omega);have e:3 ^ (n+1-4)=3 ^ (n-4)*3:=by rw[show n+1-4=(n-4)+1 by omega,Nat.pow_succ]
     have hh:(parentsF g n).length*(5*3 ^ (n-4)-3)<=3*(5*3 ^ (n-4)-3):=dG _ g1;have gh:1<=3 ^ (n-4):=Nat.one_le_pow _ _ (by decide);rw[e];omega
  ·exact dy (ih p hp) gP
def Dl{g:fW}(h:Bo g=true){n:Nat}(hn:n<=3+g.length){p:Int}(hp:0<=p):(AB (ordersN g n) p).length<=80000000:=by
 have h1:=HX h n p hp;have h2:3 ^ (n-4)<=3 ^ 15:=Nat.pow_le_pow_right (by decide) (by have:=Ee h;omega);have h3:(3:Nat) ^ 15=14348907:=by decide
 omega
def TD(ig im:Nat)(a b:D)(om:List (Int×fR))(V:Sig)(hg:V ig=some (.cells [a,b,.map im]))(hm:V im=some (.map (eIO om))):
  aB prog 202 [.ptr ig 0,dI 0] V fun x U'=>x=.ret (.tup [])/\U'=V.set im (.map (eIO (putM 0 [0] om))):=by
 refine en func202 ntmps202 ?_;refine gf (gi hg hm) ?_ o202;refine rtl 14 (sl (cI [0])) ?_;refine gf (gi hg hm) ?_ o202;exact fin0 (U':=V.set im (.map (eIO (putM 0 [0] om)))) ⟨rfl,rfl⟩
def RW(ps:fW)(cs:fR)(o o':Own)(V:Sig)(hb:Bo ps=false)(hl:ps.length<=1073741824:=by exact sd)(iG:∀x∈ps,x.length<=1073741824:=by exact sd)(hc:cs.length<=1073741824:=by exact sd):
  aB prog 119 [.slice (cII ps) o,.slice (cI cs) o'] V (rS (.tup [.aA,.bool false]) V):=by
 refine en func119 ntmps119 ?_
 repeat' first|refine gf hb ?_ lg|apply gy<;>intro hh
 any_goals (first|exact fe2 trivial|fail)
def RV(ps:fW)(cs:fR)(o o':Own)(V:Sig)(hb:Bo ps=true)(hx:¬∀c∈cs,0<=c/\c<3+ps.length)(hl:ps.length<=1073741824:=by exact sd)(iG:∀x∈ps,x.length<=1073741824:=by exact sd)(hc:cs.length<=1073741824:=by exact sd):
  aB prog 119 [.slice (cII ps) o,.slice (cI cs) o'] V (rS (.tup [.aA,.bool false]) V):=by
 refine en func119 ntmps119 ?_;refine gf hb ?_ lg;refine Bb [0,8,9,10,11,13,14,18,19,34,35,36,37,38,39,40,41,42,43,44,45,46,47,48,49,50,51,52,53,54,55,56,57,58,59,60,61,62,63,64,65,66,67,68,69,70,71,72,73,74,75,76,77,78,79,80,81,82,83,84,85,86,87,88,89,90,91,92,93,94,95,96,97,98,99,100,101,102,103] (fun (k:Nat)=>k<=cs.length /\ ∀c∈cs.take k,0<=c/\c<3+ps.length) (fun k=>[(20,dI k)]) (fun _=>V) (fun k=>cs.length-k) (0) k7 (fun k hI=>?_);obtain⟨hk,hI⟩:=hI
 by_cases h:k<cs.length
 ·repeat' first|refine gf hb ?_ lg|apply gy<;>intro hh
  ·exact fe2 trivial
  ·exact fe2 trivial
  ·have jD:∀c∈cs.take (k+1),0<=c/\c<3+ps.length:=fun c hc=>by
    rw[AQ h]at hc;rcases bi.1 hc with hc|hc
    ·exact hI c hc
    ·obtain rfl:=bq.1 hc;omega
   exact⟨k+1,⟨k0,jD⟩,td1,wkR⟩
 ·exfalso
  rw[bM k0]at hI;exact hx hI
def cU(us:fR):fV:=us.map fun n=>[.int .u64 n]
@[simp] theorem cU_length(us:fR):(cU us).length=us.length:=by simp[cU]
@[simp] theorem cU_all(l:fR):(cU l).all (fun c=>c.length==1)=true:=by simp[cU]
def XD(a b:fR):cU (a++b)=cU a++cU b:=by simp[cU]
@[simp] theorem cU_get(us:fR)(k:Nat):(cU us)[k]? = (us[k]?).map fun n=>[.int .u64 n]:=by simp[cU]
def X3 (ps:fW) (cs:fR) (o o':Own) (V:Sig) (hb:Bo ps=true) (hx : ∀ c ∈ cs,0<=c/\c < 3+ps.length) (hl:ps.length<=1073741824:=by exact sd) (iG : ∀ x ∈ ps,x.length<=1073741824:=by exact sd) (hc:cs.length<=1073741824:=by exact sd) :
  aB prog 119 [.slice (cII ps) o,.slice (cI cs) o'] V fun x U'=> ∃ig im a b om,ig≠im/\x=.ret (.tup [.ptr ig 0,.bool true])/\U'=(V.set im (.map (eIO om))).set ig (.cells [a,b,.map im])/\V ig=none/\V im=none /\ ∀p:Int,0<=p->getM [] p om=AB (ordersN ps (3+ps.length)) p:=by
 have hlen:=Ee hb;refine en func119 ntmps119 ?_;refine gf hb ?_ lg [40,11];refine Bb [0,8,9,10,11,13,14,18,19,34,35,36,37,38,39,40,41,42,43,44,45,46,47,48,49,50,51,52,53,54,55,56,57,58,59,60,61,62,63,64,65,66,67,68,69,70,71,72,73,74,75,76,77,78,79,80,81,82,83,84,85,86,87,88,89,90,91,92,93,94,95,96,97,98,99,100,101,102,103] (fun (k:Nat)=>k<=cs.length) (fun k=>[(20,dI k)]) (fun _=>V) (fun k=>cs.length-k) (0) k7 (fun k hI=>?_)
 by_cases h:k<cs.length
 ·have iA:=hx _ (aR h);refine gf hb ?_ lg [40,11];exact⟨k+1,k0,td1,wkR⟩
 ·refine gf hb ?_ lg [40,11];refine V2 (k:=3) (c:=3+ps.length) (z:=[.av]) (sz:=1) (fun ir gE gU=>?_);obtain⟨st0,gr⟩:∃st0:MR,st0=some (ir,3+ps.length,(List.replicate (3+ps.length-3) [D.av]).flatten):=⟨_,rfl⟩;obtain⟨es0,ga⟩:∃es0,es0=List.replicate 3 [D.av]:=⟨_,rfl⟩;rw[<-gr,<-ga]at gU⊢;have jo:mD st0 es0.length=.ax ir 0 3 (3+ps.length):=by rw[gr,ga];rfl
  have jw:es0.length=3:=by rw[ga];rfl
  refine newIO (fun im iI=>?_);obtain⟨e1,gT⟩:=ZP (o:=.map (eIO [])) gU iI;have iH:=V7 iI;rw[e1];refine go1 trivial ?_;refine boxV (fun ig iy=>?_);obtain⟨e2,iF⟩:=ZP (o:=.cells [.ax ir 0 3 (3+ps.length),.av,.map im]) gT iy;have gw:=V7 iy;have f0:ig≠im:=fun h=>by rw[h,w7]at gw;cases gw
  have jb:ig≠ir:=fun h=>by subst h;simp[mS,gr,w7]at iy
  rw[e2];have gV:=V8 iF (w7 ..);refine gf (gi jb gV) ?_ lg [40,11];refine mapp (new:=cII ps) (sz:=1) (h1:=by exact jo.symm) (fun st gS=>?_) iF;clear iF gT gU e1 e2 gV iy iI;obtain⟨es1,f8⟩:∃es1,es1=es0++cII ps:=⟨_,rfl⟩;have hN:es0.length+(cII ps).length=es1.length:=by rw[f8,aO]
  have g7:es1.length=3+ps.length:=by rw[f8,aO,jw];simp
  rw[<-f8]at gS⊢;rw[hN]
  obtain⟨i1,c1,gR⟩:∃i1 c1,mD st es1.length=.ax i1 0 es1.length c1:=by
   cases st with
   |none=>exact absurd (show es1=[] from gS) (fun h=>by rw[h]at g7;simp at g7;omega)
   |some x=>exact⟨_,_,rfl⟩
  have gV:=V8 gS (w7 ..);obtain⟨e3,iv⟩:=mS_put (o:=.cells [mD st es1.length,.av,.map im]) gS (w7 ..);rw[gR]at e3 iv⊢;rw[w9]at e3 iv;refine gf (gi jb (gi gV e3)) ?_ lg [40,11];refine mfrC (i:=ig) [] [.av,.map im] ?_ (by rw[gR];exact w7 ..) iv;rw[w9];refine celW (i:=ig) [] [.av,.map im] (.slice es1 .no) (.slice (cII ([]::[]::[]::ps)) .no) ?_ (w7 ..) (Ix _ ?_);rw[w9];simp only[bG];obtain⟨P,hP⟩:∃P,P=[]::[]::[]::ps:=⟨_,rfl⟩;have gc:P.length=3+ps.length:=by rw[hP];simp;omega
  have jC:∀x∈P,x.length<=1073741824:=by rw[hP];simpa using iG
  have gM:∀c (hc:c<P.length),P[c]=parentsF ps c:=by
   intro c hc;subst hP;unfold parentsF;rcases c with _|_|_|c
   ·rfl
   ·rfl
   ·rfl
   ·simp only[aV]at hc;rw[aQ k0,show((((c+1+1+1:Nat)):Int)-3).toNat=c by omega,aT k0];rfl
  rw[<-hP];refine gf gc ?_ lg [40,11];refine Bt ig 1 1 (w7 ..) rfl fun iu ja=>?_;obtain⟨jg,gZ⟩:=A8 ja;obtain⟨jf,i0⟩:=A8 gZ;clear gS iv gV e3 hN ja gZ;have iL:ig≠iu:=fun e=>jg e.symm;have jn:im≠iu:=fun e=>jf e.symm;have iZ:im≠ig:=fun e=>f0 e.symm;have jv:V ig=none:=(A8 gw).2
  have hS:Sub ((((V.set iu (.tail 1 0)).set im (.map (eIO []))).set ig (.cells [.slice (cII P) .no,.slice [] (.tag iu),.map im]))) ((((V.set im (.map (eIO []))).set ig (.cells [.slice (cII P) .no,.av,.map im])).set iu (.tail 1 0)).set ig (.cells ([.slice (cII P) .no,.av,.map im].set 1 (.slice [] (.tag iu))))):=by
   intro k x hk;simp only[Sig.set,List.set]at hk⊢; grind
  refine AG [4,5,8,14,53,54,91,92,93,94,95,96,97,98,99,100,101,102,103] (fun (c:Nat) (us:fR)=>c<=P.length/\us.length=c) (fun c _=>[(55,dI c)]) (fun _ us=>((V.set iu (.tail 1 us.length)).set im (.map (eIO []))).set ig (.cells [.slice (cII P) .no,.slice (cU us) (.tag iu),.map im])) (fun c _=>P.length-c) (0) ([]) k7 (fun c us hI=>?_);obtain⟨jy,jG⟩:=hI
  by_cases ij:c<P.length
  ·have jE:=jC _ (aR ij);have iq:=gM c ij;refine gf gc ?_ lg [40,11];refine bldZ ?_;refine gz ?_ lg [40,11];refine Ad (Pj 0 c _) (fun d U' hx=>?_) (fun d U' hx=>by obtain⟨⟨_,hx⟩,_⟩:=hx;cases hx);obtain⟨⟨n1,hx⟩,rfl⟩:=hx;cases hx
   repeat' first|refine gz ?_ lg [40,11]|apply gy<;>intro hh
   refine Ad (Pj n1 0 _) (fun d U' hx=>?_) (fun d U' hx=>by obtain⟨⟨_,hx⟩,_⟩:=hx;cases hx);obtain⟨⟨n2,hx⟩,rfl⟩:=hx;cases hx
   repeat' first|refine gz ?_ lg [40,11]|apply gy<;>intro hh
   simp only[putD];refine kR (fun ia ju=>?_);obtain⟨gI,iK⟩:=A8 ju;obtain⟨gH,iJ⟩:=A8 iK;obtain⟨gG,jt⟩:=A8 iJ;have gF:ig≠ia:=fun e=>gI e.symm;have gB:im≠ia:=fun e=>gH e.symm;have gA:iu≠ia:=fun e=>gG e.symm;refine gf (gi gI (gi gH (gi gG (gi gF (gi gB gA))))) ?_ lg [40,11];refine AG [4,5,8,9,10,11,14,53,54,55,56,57,58,59,60,61,62,63,64,65,80,81,82,83,84,85,86,87,88,89,90,91,92,93,94,95,96,97,98,99,100,101,102,103] (fun (q:Nat) (n:Int)=>q<=(P[c]).length) (fun q _=>[(66,dI q)]) (fun _ n=>(((V.set iu (.tail 1 us.length)).set im (.map (eIO []))).set ig (.cells [.slice (cII P) .no,.slice (cU us) (.tag iu),.map im])).set ia (.cells [.int .u64 n])) (fun q _=>(P[c]).length-q) (0) (n2) k7 (fun q n hI=>?_)
   by_cases hq:q<(P[c]).length
   ·have hp:=(BN hb c).2 (P[c][q]) (by rw[<-iq];exact aR hq);obtain⟨p,iW⟩:∃p:Nat,P[c][q]=(p:Int):=⟨(P[c][q]).toNat,k0⟩;have fY:p<us.length:=by omega
    refine gf (gi gI (gi gH (gi gG (gi gF (gi gB (gi gA iW)))))) ?_ lg [40,11];refine C6 (Wl n (us[p]) _) (fun d U' hx=>?_) (fun d U' hx=>by obtain⟨⟨_,hx⟩,_⟩:=hx;cases hx);obtain⟨⟨n3,hx⟩,rfl⟩:=hx;cases hx;refine⟨Sub.refl _,?_⟩;simp only[putD];refine gf (gi gI (gi gH (gi gG (gi gF (gi gB gA))))) ?_ lg [40,11];exact⟨q+1,n3,k0,td1,wkR⟩
   ·refine gf (gi gI (gi gH (gi gG (gi gF (gi gB gA))))) ?_ (kX 20 lg) [40,11];refine G0 (id:=20) [0,1,2,3,4,5,6,7,8,9] [7] (((V.set im (.map (eIO []))).set ig (.cells [.slice (cII P) .no,.slice (cU us) (.tag iu),.map im])).set ia (.cells [.int .u64 n])) ?_ ?_
    ·intro k x hk;simp only[Sig.set]at hk⊢; grind
    have go:Sub (((V.set im (.map (eIO []))).set ig (.cells [.slice (cII P) .no,.slice (cU us) (.tag iu),.map im])).set ia (.cells [.int .u64 n])) (((((V.set iu (.tail 1 us.length)).set im (.map (eIO []))).set ig (.cells [.slice (cII P) .no,.slice (cU us) (.tag iu),.map im])).set ia (.cells [.int .u64 n])).set iu (.tail 1 (us.length+1))):=by
     intro k x hk;simp only[Sig.set]at hk⊢; grind
    iterate 7 refine go1 (And.intro iL (And.intro gF (And.intro gB gA))) ?_
    refine moEffW (.slice (cU (us++[n])) (.tag iu)) ?_ (he:=by simp(disch:=first|omega|assumption) [w8];and_intros<;>first|rfl|omega) (hC:=go) (hw:=B9 (by rw[XD];rfl));refine gf (gi gI (gi gH (gi gG (gi gF (gi gB (gi gA iL)))))) ?_ (kX 20 lg) [40,11]
    have iS:Sub (((V.set iu (.tail 1 (us++[n]).length)).set im (.map (eIO []))).set ig (.cells [.slice (cII P) .no,.slice (cU (us++[n])) (.tag iu),.map im])) ((((((V.set iu (.tail 1 us.length)).set im (.map (eIO []))).set ig (.cells [.slice (cII P) .no,.slice (cU us) (.tag iu),.map im])).set ia (.cells [.int .u64 n])).set iu (.tail 1 (us.length+1))).set ig (.cells [.slice (cII P) .no,.slice (cU (us++[n])) (.tag iu),.map im])):=by
     intro k x hk;rw[aO,ce]at hk;simp only[Sig.set]at hk⊢; grind
    exact⟨c+1,(us++[n]),⟨k0,by rw[aO,ce];omega⟩,td1,wkR⟩
  ·refine gf (gi gc (gi f0 (gi iL (gi jn iZ)))) ?_ lg [40,11];generalize je:D.slice (cU us) (.tag iu)=ups
   have iR:Sub ((V.set im (.map (eIO []))).set ig (.cells [.slice (cII P) .no,ups,.map im])) (((V.set iu (.tail 1 us.length)).set im (.map (eIO []))).set ig (.cells [.slice (cII P) .no,ups,.map im])):=by
    intro k x hk;simp only[Sig.set]at hk⊢; grind
   refine AG [4,5,8,95,103] (fun (c:Nat) (om:List (Int×fR))=>c<=P.length /\ ∀p:Int,0<=p->getM [] p om=AB (ordersN ps c) p) (fun c _=>[(96,dI c)]) (fun _ om=>(V.set im (.map (eIO om))).set ig (.cells [.slice (cII P) .no,ups,.map im])) (fun c _=>P.length-c) (0) ([]) (by exact⟨k0,fun p _=>by simp[getM,ordersN,AB]⟩) (fun c om hI=>?_);obtain⟨jy,gN⟩:=hI
   by_cases ij:c<P.length
   ·have jc:((V.set im (.map (eIO om))).set ig (.cells [.slice (cII P) .no,ups,.map im])) ig=some (.cells [.slice (cII P) .no,ups,.map im]):=w7 ..;have gT:((V.set im (.map (eIO om))).set ig (.cells [.slice (cII P) .no,ups,.map im])) im=some (.map (eIO om)):=by rw[w8 _ _ iZ,w7]
    rcases Nat.eq_zero_or_pos c with rfl|jz
    ·refine gf gc ?_ lg [40,11];refine Ad (TD ig im _ _ om _ jc gT) (fun d U' hx=>?_);obtain⟨hx,rfl⟩:=hx;cases hx;simp only[putD];refine gf gc ?_ lg [40,11]
     have gg:Sub ((V.set im (.map (eIO (putM 0 [0] om)))).set ig (.cells [.slice (cII P) .no,ups,.map im])) (((V.set im (.map (eIO om))).set ig (.cells [.slice (cII P) .no,ups,.map im])).set im (.map (eIO (putM 0 [0] om)))):=by
      intro k x hk;simp only[Sig.set]at hk⊢; grind
     have fZ:∀p:Int,0<=p->getM [] p (putM 0 [0] om)=AB (ordersN ps (0+1)) p:=fun p hp=>by
      rw[Ck,ordersN,Gj _ _ hp,gN p hp];rfl
     exact⟨0+1,putM 0 [0] om,⟨k0,fZ⟩,td1,wkR⟩
    ·have iq:P[c]=parentsF ps c:=gM c ij;have gL:=BN hb c;rw[<-iq]at gL;have hB:∀p:Int,0<=p->(AB (ordersN ps c) p).length<=80000000:=fun p hp=>Dl hb k0 hp
     have g8:=Wj ig im P (ordersN ps c) ups om c .no ((V.set im (.map (eIO om))).set ig (.cells [.slice (cII P) .no,ups,.map im])) f0 jc gT ij k0 k0 k0
      (fun p hp=>gN p (by have:=gL.2 p hp;omega)) (fun p hp=>by have:=hB p (by have:=gL.2 p hp;omega);omega)
      (fun ls e7=>by
       have h1:=Gn e7 (fun p hp=>hB p (by have:=gL.2 p hp;omega))
       have h2:=gL.1
       have h3:(P[c]).length*80000000<=3*80000000:=dG _ h2
       omega)
     refine gf gc ?_ lg [40,11];refine Ad g8 (fun d U' hx=>?_);obtain⟨hx,rfl⟩:=hx;cases hx;simp only[putD]
     have d7:∀p:Int,0<=p->AB (ordersN ps (c+1)) p=if p=c then BM (ordersN ps c) c P[c] else AB (ordersN ps c) p:=fun p hp=>by
      rw[ordersN,Gj _ _ hp,Bv,aQ (by omega:¬c=0),<-iq]
     have gg:∀om',Sub ((V.set im (.map (eIO om'))).set ig (.cells [.slice (cII P) .no,ups,.map im])) (((V.set im (.map (eIO om))).set ig (.cells [.slice (cII P) .no,ups,.map im])).set im (.map (eIO om'))):=by
      intro om' k x hk;simp only[Sig.set]at hk⊢; grind
     by_cases he:BM (ordersN ps c) c P[c]=[]
     ·rw[aS he]
      have fZ:∀p:Int,0<=p->getM [] p om=AB (ordersN ps (c+1)) p:=fun p hp=>by
       rw[d7 p hp,gN p hp,he];split
       ·rename_i iW;unfold AB;rw[bW (by rw[Bv];omega)];rfl
       ·rfl
      refine gf gc ?_ lg [40,11];exact⟨c+1,om,⟨k0,fZ⟩,td1,wkR⟩
     ·rw[aQ he]
      have fZ:∀p:Int,0<=p->getM [] p (putM c (BM (ordersN ps c) c P[c]) om)=AB (ordersN ps (c+1)) p:=fun p hp=>by
       rw[d7 p hp,Ck,gN p hp]
      have iQ:=gg (putM c (BM (ordersN ps c) c P[c]) om);refine gf gc ?_ lg [40,11];exact⟨c+1,putM c (BM (ordersN ps c) c P[c]) om,⟨k0,fZ⟩,td1,wkR⟩
   ·have gb:c=3+ps.length:=by omega
    subst gb;refine gf gc ?_ lg [40,11];exact fin2 (U':=(V.set im (.map (eIO om))).set ig (.cells [.slice (cII P) .no,ups,.map im])) ⟨ig,im,_,_,om,f0,rfl,rfl,jv,iH,gN⟩
  rw[f8,ga];exact⟨⟨An _ (.inl rfl),trivial⟩,⟨An _ (.inl rfl),trivial⟩,⟨An _ (.inl rfl),trivial⟩,QU _⟩
end Go.DL
