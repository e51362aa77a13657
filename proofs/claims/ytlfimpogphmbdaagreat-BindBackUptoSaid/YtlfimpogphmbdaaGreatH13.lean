/- A part of the proof. -/
import Derived.Test.YtlfimpogphmbdaaGreatH12
set_option linter.all false
namespace Go.DL
open Go.Proofs.Tryz
open Go Go.Proofs
set_option maxHeartbeats 8000000
def idxG{α:Type}[DecidableEq α](s:α):List α->Nat->Int
 |[],_=> -1
 |x::r,k=>if x=s then k else idxG s r (k+1)
def WY(l:fP)(s:Str)(o:Own)(V:Sig)(hl:l.length<=1073741824:=by exact sd):
  aB prog 130 [.slice (cS l) o,.str s] V (rS (dI (idxG s l 0)) V):=by
 refine en func130 ntmps130 ?_;refine gz ?_;refine Bb [0,1] (fun (k:Nat)=>k<=l.length/\idxG s l 0=idxG s (l.drop k) k) (fun k=>[(5,dI k)]) (fun _=>V) (fun k=>l.length-k) (0) k7 (fun k hI=>?_);obtain⟨hk,hR⟩:=hI
 by_cases h:k<l.length
 ·rw[A0 h,idxG]at hR
  repeat' first|refine gz ?_|apply gy<;>intro hh
  ·exact fe1 (gi hR hh)
  ·exact⟨k+1,⟨k0,by rw[hR,aQ hh]⟩,td1,wkR⟩
 ·rw[A1 h,idxG]at hR;refine gz ?_;exact fe1 hR
@[reducible,instance] def a130:=fun l s o V=>ah1 (@WY l s o V)
def WA(l:fR)(s:Int)(o:Own)(V:Sig)(hl:l.length<=1073741824:=by exact sd):
  aB prog 174 [.slice (cI l) o,dI s] V (rS (dI (idxG s l 0)) V):=by
 refine en func174 ntmps174 ?_;refine gz ?_;refine Bb [0,1,7] (fun (k:Nat)=>k<=l.length/\idxG s l 0=idxG s (l.drop k) k) (fun k=>[(8,dI k)]) (fun _=>V) (fun k=>l.length-k) (0) k7 (fun k hI=>?_);obtain⟨hk,hR⟩:=hI
 by_cases h:k<l.length
 ·rw[A0 h,idxG]at hR
  repeat' first|refine gz ?_|apply gy<;>intro hh
  ·rw[aS hh.symm]at hR;exact fe1 hR
  ·exact⟨k+1,⟨k0,by rw[hR,aQ (fun e=>hh e.symm)]⟩,td1,wkR⟩
 ·rw[A1 h,idxG]at hR;refine gz ?_;exact fe1 hR
@[reducible,instance] def a174:=fun l s o V=>ah1 (@WA l s o V)
def YO(l:fR)(s:Int)(o:Own)(V:Sig)(hl:l.length<=1073741824:=by exact sd):
  aB prog 89 [.slice (cI l) o,dI s] V (rS (.bool (decide (0<=idxG s l 0))) V):=by
 refine en func89 ntmps89 ?_;refine gz ?_;exact fe1 trivial
def Zc(l:fV)(o:Own)(V:Sig):
  aB prog 43 [.slice l o] V (rS (.slice l .clip) V):=by
 refine en func43 ntmps43 ?_;refine gz ?_;exact fe1 trivial
@[reducible,instance] def a43:=fun l o V=>ah0 (@Zc l o V)
def RT(a b:fR)(o o':Own)(V:Sig)(hl:a.length<=1073741824:=by exact sd):
  aB prog 15 [.slice (cI a) o,.slice (cI b) o'] V (rS (.bool (a==b)) V):=by
 refine en func15 ntmps15 ?_
 by_cases gJ:a.length=b.length
 ·refine gz ?_ o15;refine Bb [0,1,12] (fun (k:Nat)=>k<=a.length/\(a=b ↔ a.drop k=b.drop k)) (fun k=>[(13,dI k)]) (fun _=>V) (fun k=>a.length-k) (0) k7 (fun k hI=>?_);obtain⟨hk,hR⟩:=hI
  by_cases h:k<a.length
  ·rw[A0 h,A0 (l:=b) k0,da]at hR
   repeat' first|refine gz ?_ o15|apply gy<;>intro hh
   ·have:a≠b:=fun e=>hh (hR.1 e).1;exact fe1 this
   ·exact⟨k+1,⟨k0,by rw[hR];simp_all⟩,td1,wkR⟩
  ·have:a=b:=hR.2 (by rw[A1 k0,A1 k0]);refine gz ?_ o15;exact fe1 this
 ·have:a≠b:=fun e=>gJ (by rw[e])
  refine gz ?_ o15;exact fe1 this
@[reducible,instance] def a15:=fun a b o o' V=>ah1 (@RT a b o o' V)
def Ih(l:fV)(o:Own)(V:Sig)(hl:l.length<=1073741824:=by exact sd)(hs:∀c∈l,c.length=1:=by exact sd):
  aB prog 118 [.slice l o] V (rS (sl l) V):=by
 refine en func118 ntmps118 ?_;refine gz ?_;refine isN (fun b hb=>?_)
 repeat' first|refine gz ?_|apply gy<;>intro hh
 ·exact fe1 (d':=sl []) (hb hh)
 ·by_cases h:l=[]
  ·refine app0 ?_;refine gz ?_;exact fe1 (d':=sl []) h
  ·refine appC (fun i hi=>?_) (hne:=by simp[h]) (hlen':=hs);refine gz ?_;exact finS (U':=V) (es:=l) ⟨rfl,rfl⟩ ((Sub.refl _).set hi)
def Zg(l:fR)(s:Int)(o:Own)(V:Sig)(hl:l.length<=1073741824:=by exact sd):
  aB prog 32 [.slice (cI l) o,dI s] V (rS (.bool (l.contains s)) V):=by
 refine en func32 ntmps32 ?_;refine gz ?_;refine Bb [0,1] (fun (k:Nat)=>k<=l.length/\(s∈l ↔ s∈l.drop k)) (fun k=>[(5,dI k)]) (fun _=>V) (fun k=>l.length-k) (0) k7 (fun k hI=>?_);obtain⟨hk,hR⟩:=hI
 by_cases h:k<l.length
 ·rw[A0 h,be]at hR
  repeat' first|refine gz ?_|apply gy<;>intro hh
  ·have:=hR.2 (.inl hh.symm);exact fe1 this
  ·exact⟨k+1,⟨k0,by rw[hR];exact⟨fun e=>e.resolve_left fun e=>hh e.symm,.inr⟩⟩,td1,wkR⟩
 ·rw[A1 h]at hR;refine gz ?_;exact fe1 hR
def inB(n:Int):Bool:=decide (-1000000000<=n)&&decide (n<=1000000000)
def WF(n:Int)(V:Sig):aB prog 168 [dI n] V (rS (.bool (inB n)) V):=by
 refine en func168 ntmps168 ?_
 by_cases h : -1000000000<=n
 ·refine gz ?_
  (refine kE (U':=V) ?_;exact⟨by first|rfl|(simp[inB,h];done)|(simp_all [inB,h];done)|(rw[A4,aW];simp_all [inB,h]<;>omega),rfl⟩)
 ·refine gz ?_
  (refine kE (U':=V) ?_;exact⟨by first|rfl|(simp[inB,h];done)|(simp_all [inB,h];done)|(rw[A4,aW];simp_all [inB,h]<;>omega),rfl⟩)
@[reducible,instance] def a168:=fun n V=>ah0 (@WF n V)
def Wx(n:Int)(V:Sig):aB prog 177 [dI n] V (rS (.bool (inB n)) V):=by
 refine en func177 ntmps177 ?_
 by_cases h : -1000000000<=n
 ·refine gz ?_
  (refine kE (U':=V) ?_;exact⟨by first|rfl|(simp[inB,h];done)|(simp_all [inB,h];done)|(rw[A4,aW];simp_all [inB,h]<;>omega),rfl⟩)
 ·refine gz ?_
  (refine kE (U':=V) ?_;exact⟨by first|rfl|(simp[inB,h];done)|(simp_all [inB,h];done)|(rw[A4,aW];simp_all [inB,h]<;>omega),rfl⟩)
@[reducible,instance] def a177:=fun n V=>ah0 (@Wx n V)
def YL(n:Int)(V:Sig):aB prog 94 [dI n] V (rS (.bool (decide (n=1\/n=4))) V):=by
 refine en func94 ntmps94 ?_
 by_cases h:n=1
 ·refine gz ?_;exact fe1 h
 ·refine gz ?_;exact fe1 h
@[reducible,instance] def a94:=fun n V=>ah0 (@YL n V)
mutual
def kA.size:kA->Nat
 |.mk _ _ _ _ _ k=>1+kA.sizes k
def kA.sizes:List kA->Nat
 |[]=>0
 |f::l=>f.size+kA.sizes l
end
def kA.size_eq(f:kA):f.size=1+kA.sizes f.aq:=by cases f;rw[kA.size];rfl
def kA.sizes_len: ∀l:List kA,l.length<=kA.sizes l
 |[]=>by simp
 |f::l=>by
  have:=kA.sizes_len l;rw[kA.sizes,kA.size_eq];simp;omega
def kA.sizes_mem: ∀{l:List kA}{x:kA},x∈l->x.size<=kA.sizes l
 |[],_,h=>by cases h
 |f::l,x,h=>by
  rw[kA.sizes];rcases be.1 h with rfl|h
  ·omega
  ·have:=kA.sizes_mem h;omega
def kA.kid_size{f:kA}{k:Nat}(h:k<f.aq.length):(f.aq[k]).size<f.size:=by
 have:=kA.sizes_mem (aR h);rw[kA.size_eq f];omega
def NG(f:kA)(V:Sig)(hf:f.size<=1073741824:=by exact sd):
  aB prog 51 [.agg (Bp f)] V (rS (dI f.size) V):=by
 have gh:=kA.size_eq f;have go:=kA.sizes_len f.aq;refine en func51 ntmps51 ?_;refine gz ?_;refine AG [2,7,8,18] (fun (k:Nat) (m:Nat)=>k<=f.aq.length/\m+kA.sizes (f.aq.drop k)=f.size) (fun k m=>[(9,dI k),(3,dI m)]) (fun _ _=>V) (fun k _=>f.aq.length-k) (0) (1) (by simp;omega) (fun k m hI=>?_);obtain⟨hk,hR⟩:=hI
 by_cases h:k<f.aq.length
 ·rw[A0 h,kA.sizes]at hR
  repeat' first|refine gz ?_|refine Au (NG (f.aq[k]) V k0) ?_|refine callP (NG (f.aq[k]) V k0) ?_|refine gz ?_|apply gy<;>intro hh
  exact⟨k+1,m+(f.aq[k]).size,k0,td1,wkR⟩
 ·rw[A1 h,kA.sizes]at hR;refine gz ?_
  (refine kE (U':=V) ?_;exact⟨by first|rfl|(simp[hR.symm];done)|(simp_all [hR.symm];done)|(rw[A4,aW];simp_all [hR.symm]<;>omega),rfl⟩)
termination_by SizeOf.sizeOf f
decreasing_by exact kA.lt (aR _)
@[reducible,instance] def a51:=fun f V=>ah1 (@NG f V)
def mx(x y:Int):Int:=if y>x then y else x
def mx_eq(x y:Int):mx x y=max x y:=by unfold mx;split<;>omega
def C1(o:Int):Bool:=decide (o=2)||decide (o=3)||decide (o=4)
mutual
def kA.speaks:kA->Int
 |.mk o a _ _ _ k=>kA.speakss k (if C1 o then IntKind.i64.wrap (a+1) else 0)
def kA.speakss:List kA->Int->Int
 |[],n=>n
 |f::l,n=>kA.speakss l (mx n f.speaks)
end
def kA.speaks_eq(f:kA):f.speaks=kA.speakss f.aq (if C1 f.op then IntKind.i64.wrap (f.arg+1) else 0):=by cases f;rw[kA.speaks];rfl
def Pk(f:kA)(V:Sig):aB prog 180 [.agg (Bp f)] V (rS (.bool (C1 f.op)) V):=by
 refine en func180 ntmps180 ?_
 repeat' first|refine gz ?_|apply gy<;>intro hh
 any_goals (first|(refine kE (U':=V) ?_;exact⟨by first|rfl|(simp[C1,hh];done)|(simp_all [C1,hh];done)|(rw[A4,aW];simp_all [C1,hh]<;>omega),rfl⟩)|fail)
@[reducible,instance] def a180:=fun f V=>ah0 (@Pk f V)
def NB(f:kA)(V:Sig)(hf:f.size<=1073741824:=by exact sd):
  aB prog 88 [.agg (Bp f)] V (rS (dI f.speaks) V):=by
 have gh:=kA.size_eq f;have go:=kA.sizes_len f.aq;have gj:=(kA.speaks_eq f).symm;have hL:C1 f.op=(decide (f.op=2)||decide (f.op=3)||decide (f.op=4)):=rfl;refine en func88 ntmps88 ?_
 repeat' first|refine gz ?_|apply gy<;>intro hh
 all_goals
  refine AG [2,23,24,34] (fun (k:Nat) (m:Int)=>k<=f.aq.length/\kA.speakss (f.aq.drop k) m=f.speaks) (fun k m=>[(25,dI k),(3,dI m)]) (fun _ _=>V) (fun k _=>f.aq.length-k) (0) ((if C1 f.op then IntKind.i64.wrap (f.arg+1) else 0)) (by exact⟨k0,gj⟩) (fun k m hI=>?_);obtain⟨hk,hR⟩:=hI;clear hL
  by_cases h:k<f.aq.length
  ·rw[A0 h,kA.speakss]at hR;have gx:=kA.kid_size h
   repeat' first|refine gz ?_|refine Au (NB (f.aq[k]) V k0) ?_|refine callP (NB (f.aq[k]) V k0) ?_|refine gz ?_|apply gy<;>intro hh
   have hm:mx m (f.aq[k]).speaks=if m<(f.aq[k]).speaks then(f.aq[k]).speaks else m:=rfl
   exact⟨k+1,mx m (f.aq[k]).speaks,⟨k0,hR⟩,td1,wkR⟩
  ·rw[A1 h,kA.speakss]at hR;refine gz ?_;exact fe1 hR
termination_by SizeOf.sizeOf f
decreasing_by all_goals exact kA.lt (aR _)
@[reducible,instance] def a88:=fun f V=>ah1 (@NB f V)
def NA(f:kA)(V:Sig)(hf:f.size<=1073741824:=by exact sd):
  aB prog 92 [.agg (Bp f)] V (rS (dI f.speaks) V):=by
 have gh:=kA.size_eq f;have go:=kA.sizes_len f.aq;have gj:=(kA.speaks_eq f).symm;refine en func92 ntmps92 ?_;cases hL:C1 f.op
 all_goals
  refine gf hL ?_;refine AG [2,12,13,23] (fun (k:Nat) (m:Int)=>k<=f.aq.length/\kA.speakss (f.aq.drop k) m=f.speaks) (fun k m=>[(14,dI k),(3,dI m)]) (fun _ _=>V) (fun k _=>f.aq.length-k) (0) ((if C1 f.op then IntKind.i64.wrap (f.arg+1) else 0)) (by exact⟨k0,gj⟩) (fun k m hI=>?_);obtain⟨hk,hR⟩:=hI
  by_cases h:k<f.aq.length
  ·rw[A0 h,kA.speakss]at hR;have gx:=kA.kid_size h
   repeat' first|refine gz ?_|refine Au (NA (f.aq[k]) V k0) ?_|refine callP (NA (f.aq[k]) V k0) ?_|refine gz ?_|apply gy<;>intro hh
   have hm:mx m (f.aq[k]).speaks=if m<(f.aq[k]).speaks then(f.aq[k]).speaks else m:=rfl
   exact⟨k+1,mx m (f.aq[k]).speaks,⟨k0,hR⟩,td1,wkR⟩
  ·rw[A1 h,kA.speakss]at hR;refine gz ?_;exact fe1 hR
termination_by SizeOf.sizeOf f
decreasing_by all_goals exact kA.lt (aR _)
@[reducible,instance] def a92:=fun f V=>ah1 (@NA f V)
mutual
def kA.depth:kA->Int
 |.mk _ _ _ _ _ k=>kA.depths k 0+1
def kA.depths:List kA->Int->Int
 |[],n=>n
 |f::l,n=>kA.depths l (mx n f.depth)
end
def kA.depth_eq(f:kA):f.depth=kA.depths f.aq 0+1:=by cases f;rw[kA.depth];rfl
mutual
def kA.depth_le: ∀f:kA,1<=f.depth/\f.depth<=f.size
 |.mk _ _ _ _ _ k=>by
  have:=kA.depths_le k 0 (dY 0);rw[kA.depth,kA.size];simp;omega
def kA.depths_le: ∀(l:List kA) (n:Int),0<=n->n<=kA.depths l n/\kA.depths l n<=max n (kA.sizes l)
 |[],n,h=>by simp[kA.depths,kA.sizes];omega
 |f::l,n,h=>by
  have h1:=kA.depth_le f;have h2:=kA.depths_le l (mx n f.depth) (by rw[mx_eq];omega);rw[kA.depths,kA.sizes];rw[mx_eq]at h2⊢;simp only[fH];omega
end
def KR(f:kA)(V:Sig)(hf:f.size<=1073741824:=by exact sd):
  aB prog 178 [.agg (Bp f)] V (rS (dI f.depth) V):=by
 have gh:=kA.size_eq f;have go:=kA.sizes_len f.aq;have hd:=kA.depth_le f;have gI:=(kA.depth_eq f).symm;refine en func178 ntmps178 ?_;refine gz ?_;refine AG [2,7,8,18,19] (fun (k:Nat) (m:Int)=>k<=f.aq.length/\kA.depths (f.aq.drop k) m+1=f.depth) (fun k m=>[(9,dI k),(3,dI m)]) (fun _ _=>V) (fun k _=>f.aq.length-k) (0) (0) (by exact⟨k0,gI⟩) (fun k m hI=>?_);obtain⟨hk,hR⟩:=hI
 by_cases h:k<f.aq.length
 ·rw[A0 h,kA.depths]at hR;have gx:=kA.kid_size h
  repeat' first|refine gz ?_|refine Au (KR (f.aq[k]) V k0) ?_|refine callP (KR (f.aq[k]) V k0) ?_|refine gz ?_|apply gy<;>intro hh
  have hm:mx m (f.aq[k]).depth=if m<(f.aq[k]).depth then(f.aq[k]).depth else m:=rfl
  exact⟨k+1,mx m (f.aq[k]).depth,⟨k0,hR⟩,td1,wkR⟩
 ·rw[A1 h,kA.depths]at hR;refine gz ?_;exact fe1 hR
termination_by SizeOf.sizeOf f
decreasing_by all_goals exact kA.lt (aR _)
@[reducible,instance] def a178:=fun f V=>ah1 (@KR f V)
def RP(p:aD)(V:Sig)(hl:p.ak.length<=1073741824:=by exact sd)(hp:∀c∈p.ak,c.ap.length<=1073741824:=by exact sd):
  aB prog 31 [.agg (Am p)] V (rS (sl (cII (p.ak.map (·.ap)))) V):=by
 refine en func31 ntmps31 ?_;refine gz ?_;refine BL 3 1 (fun i hi=>?_);refine AG [1,2,22] (fun (k:Nat) (out:fW)=>k<=p.ak.length/\out.length=k/\out++(p.ak.drop k).map (·.ap)=p.ak.map (·.ap)) (fun k out=>[(4,dI k),(3,.slice (cII out) (.tag i))]) (fun _ out=>V.set i (.tail 1 out.length)) (fun k _=>p.ak.length-k) (0) ([]) k7 (fun k out hI=>?_);obtain⟨hk,ho,hR⟩:=hI
 by_cases h:k<p.ak.length
 ·rw[A0 h]at hR;have gR:=hp _ (aR h);refine gz ?_;refine appK ?_;refine gz ?_;exact⟨k+1,out++[(p.ak[k]).ap],⟨k0,by simp[ho],by rw[bc];exact hR⟩,td1,wkR⟩
 ·rw[A1 h]at hR;simp at hR;refine gz ?_;exact finS (U':=V) (es:=cII out) ⟨by rw[hR],rfl⟩
@[reducible,instance] def a31:=fun p V=>ah2 (@RP p V)
def W2(n:Int)(V:Sig):aB prog 234 [dI n] V (rS (.bool (inB n)) V):=by
 refine en func234 ntmps234 ?_
 repeat' first|refine gz ?_|apply gy<;>intro hh
 any_goals (first|(refine kE (U':=V) ?_;exact⟨by first|rfl|(simp[inB];done)|(simp_all [inB];done)|(rw[A4,aW];simp_all [inB]<;>omega),rfl⟩)|fail)
@[reducible,instance] def a234:=fun n V=>ah0 (@W2 n V)
def We(n:Int)(V:Sig):aB prog 207 [dI n] V (rS (.bool (inB n)) V):=by
 refine en func207 ntmps207 ?_
 repeat' first|refine gz ?_|apply gy<;>intro hh
 any_goals (first|(refine kE (U':=V) ?_;exact⟨by first|rfl|(simp[inB];done)|(simp_all [inB];done)|(rw[A4,aW];simp_all [inB]<;>omega),rfl⟩)|fail)
@[reducible,instance] def a207:=fun n V=>ah0 (@We n V)
def VK(f:kA)(V:Sig):aB prog 298 [.agg (Bp f)] V (rS (.bool (C1 f.op)) V):=by
 refine en func298 ntmps298 ?_
 repeat' first|refine gz ?_|apply gy<;>intro hh
 any_goals (first|(refine kE (U':=V) ?_;exact⟨by first|rfl|(simp[C1];done)|(simp_all [C1];done)|(rw[A4,aW];simp_all [C1]<;>omega),rfl⟩)|fail)
@[reducible,instance] def a298:=fun f V=>ah0 (@VK f V)
def Bl(op:Int):Nat:=if op=5 then 1 else if op=6\/op=7 then 2 else 0
def VL(o:Int)(V:Sig):aB prog 297 [dI o] V (rS (dI (Bl o)) V):=by
 refine en func297 ntmps297 ?_
 repeat' first|refine gz ?_|apply gy<;>intro hh
 any_goals (first|(refine kE (U':=V) ?_;exact⟨by first|rfl|(simp[Bl];done)|(simp_all [Bl];done)|(rw[A4,aW];simp_all [Bl]<;>omega),rfl⟩)|fail)
@[reducible,instance] def a297:=fun o V=>ah0 (@VL o V)
def WB(b:Bool)(V:Sig):aB prog 173 [.bool b] V (rS (dI (if b then 0 else 2)) V):=by
 refine en func173 ntmps173 ?_
 repeat' first|refine gz ?_|apply gy<;>intro hh
 any_goals (first|exact fe1 trivial|fail)
@[reducible,instance] def a173:=fun b V=>ah0 (@WB b V)
def KQ(l:fW)(c:Int)(o:Own)(V:Sig)(hl:l.length<=1073741824:=by exact sd)(hc:c<3+l.length:=by exact sd):
  aB prog 221 [.slice (cII l) o,dI c] V (rS (sl (cI (if c<3 then [] else(l[(c-3).toNat]?).getD []))) V):=by
 refine en func221 ntmps221 ?_
 by_cases h:c<3
 ·repeat' first|refine gz ?_|apply gy<;>intro hh
  all_goals first|omega|skip
  exact fe1 (d':=sl []) h
 ·have h2:(c-3).toNat<l.length:=by omega
  repeat' first|refine gz ?_|apply gy<;>intro hh
  all_goals first|omega|skip
  exact fe1 (gi h h2)
@[reducible,instance] def a221:=fun l c o V=>ah2 (@KQ l c o V)
def W4(w:World)(c:Int)(V:Sig)(hl:w.ap.length<=1073741824:=by exact sd):
  aB prog 231 [.agg (Dx w),dI c] V (rS (.bool (decide (0<=c/\c<3+w.ap.length))) V):=by
 refine en func231 ntmps231 ?_
 repeat' first|refine gz ?_|apply gy<;>intro hh
 any_goals (first|exact fe1 trivial|fail)
@[reducible,instance] def a231:=fun w c V=>ah1 (@W4 w c V)
def W3(w:World)(l:fR)(o:Own)(V:Sig)(hl:w.owner.length<=1073741824:=by exact sd)(d8:l.length<=1073741824:=by exact sd):
  aB prog 232 [.agg (Dx w),.slice (cI l) o] V (rS (.bool (l.all (fun s=>decide (0<=s/\s<w.owner.length))&&decide (l.length<=2))) V):=by
 refine en func232 ntmps232 ?_;refine gz ?_;refine Bb [1,2,7,8,23,24,25] (fun (k:Nat)=>k<=l.length/\l.all (fun s=>decide (0<=s/\s<w.owner.length))=(l.drop k).all (fun s=>decide (0<=s/\s<w.owner.length))) (fun k=>[(9,dI k)]) (fun _=>V) (fun k=>l.length-k) (0) k7 (fun k hI=>?_);obtain⟨hk,hR⟩:=hI
 by_cases h:k<l.length
 ·rw[A0 h,bU]at hR
  repeat' first|refine gz ?_|apply gy<;>intro hh
  ·exact fe1 hR
  ·exact fe1 hR
  ·exact⟨k+1,⟨k0,by rw[hR];simp_all⟩,td1,wkR⟩
 ·rw[A1 h]at hR;refine gz ?_;exact fe1 hR
def H9(op:Int):Option Int:=
 if op=1\/op=2\/op=3\/op=6\/op=18 then some 0 else if op=4\/op=8\/op=17 then some 1 else
 if op=7\/op=9\/op=11\/op=12\/op=13\/op=14\/op=15\/op=16 then some 2 else if op=10 then some 3 else none
def Cj(p:aD)(x:aG):Int:=match H9 x.op with
 |some k=>k
 |none=>if x.op=5/\0<=x.n/\x.n<p.au.length then p.au.getD x.n.toNat 0 else -1
def J8{p:aD}{x:aG}(h:x.op=5):Cj p x=if 0<=x.n/\x.n<p.au.length then p.au.getD x.n.toNat 0 else -1:=by simp[Cj,H9,h]
def Ww(p:aD)(x:aG)(V:Sig)(hl:p.au.length<=1073741824:=by exact sd):
  aB prog 181 [.agg (Am p),.agg (Ai x)] V (rS (dI (Cj p x)) V):=by
 refine en func181 ntmps181 ?_
 repeat' first|refine gz ?_|apply gy<;>intro hh
 any_goals (first|(refine kE (U':=V) ?_;exact⟨by first|rfl|(simp[Cj,H9];done)|(simp_all [Cj,H9];done)|(rw[A4,aW];simp_all [Cj,H9]<;>omega),rfl⟩)|fail)
 all_goals (refine kE (U':=V) ?_;refine⟨?_,rfl⟩;rw[J8 (by assumption)])
 all_goals first|(rw[aQ k0];done)|(rw[aS ⟨by assumption,by assumption⟩];simp)
@[reducible,instance] def a181:=fun p x V=>ah1 (@Ww p x V)
def BI(p:aD)(x:aG)(size:Int):Bool:=
 if x.op=1 then inB x.n else if x.op=3 then decide (0<=x.n/\x.n<size) else if x.op=4\/x.op=7 then decide (0<=x.n/\x.n<p.am) else
 if x.op=5 then decide (0<=x.n/\x.n<p.au.length) else if x.op=6\/x.op=8 then decide (3<=x.n/\x.n<3+p.ak.length) else decide (x.n=0)
def Wv(p:aD)(x:aG)(size:Int)(V:Sig)(hl:p.au.length<=1073741824:=by exact sd)(hc:p.ak.length<=1073741824:=by exact sd):
  aB prog 182 [.agg (Am p),.agg (Ai x),dI size] V (rS (.bool (BI p x size)) V):=by
 refine en func182 ntmps182 ?_
 repeat' first|refine gz ?_|apply gy<;>intro hh
 any_goals (first|(refine kE (U':=V) ?_;exact⟨by first|rfl|(simp[BI];done)|(simp_all [BI];done)|(rw[A4,aW];simp_all [BI]<;>omega),rfl⟩)|fail)
def YS(p:aD)(x:aG)(size:Int)(V:Sig)(hl:p.au.length<=1073741824:=by exact sd)(hc:p.ak.length<=1073741824:=by exact sd):
  aB prog 85 [.agg (Am p),.agg (Ai x),dI size] V (rS (.bool (BI p x size)) V):=by
 refine en func85 ntmps85 ?_
 repeat' first|refine gz ?_|apply gy<;>intro hh
 any_goals (first|(refine kE (U':=V) ?_;exact⟨by first|rfl|(simp[BI];done)|(simp_all [BI];done)|(rw[A4,aW];simp_all [BI]<;>omega),rfl⟩)|fail)
@[reducible,instance] def a85:=fun p x size V=>ah2 (@YS p x size V)
def ET(op:Int):D:=match H9 op with
 |some k=>.iface 140 (dI k)
 |none=>if op=5 then .iface 142 (.agg []) else .niliface
def YQ(op:Int)(V:Sig):aB prog 86 [dI op] V (rS (ET op) V):=by
 refine en func86 ntmps86 ?_
 repeat' first|refine gz ?_|apply gy<;>intro hh
 any_goals (first|(refine kE (U':=V) ?_;exact⟨by first|rfl|(simp[ET,H9];done)|(simp_all [ET,H9];done)|(rw[A4,aW];simp_all [ET,H9]<;>omega),rfl⟩)|fail)
@[reducible,instance] def a86:=fun op V=>ah0 (@YQ op V)
def Yj(w:World)(l:fR):Bool:=l.all (fun s=>decide (0<=s/\s<w.owner.length))&&decide (l.length<=2)
def Hh(op:Int):Int:=if op=5 then 1 else if op=6\/op=7 then 2 else 0
def KK(w:World)(f:kA):Bool:=
 if f.op=2 then decide (f.n=0)&&decide (0<=f.cls/\f.cls<3+w.ap.length)
 else if f.op=3\/f.op=4 then decide (f.cls=0)&&decide (-1000000000<=f.n/\f.n<=1000000000)
 else decide (f.op=1\/f.op=5\/f.op=6\/f.op=7)
def FI(w:World)(f:kA):Bool:=
 decide ((f.aq.length:Int)=Hh f.op)&&decide (0<=f.arg/\f.arg<3)&&Yj w f.path&&(C1 f.op||(decide (f.arg=0)&&decide (f.path.length=0)&&decide (f.cls=0)&&decide (f.n=0)))
mutual
def IK(w:World):kA->Bool
 |.mk o a p c n k=>KK w (.mk o a p c n k)&&FI w (.mk o a p c n k)&&Dv w k
def Dv(w:World):List kA->Bool
 |[]=>true
 |f::l=>IK w f&&Dv w l
end
def Nf(w:World)(f:kA):IK w f=(KK w f&&FI w f&&Dv w f.aq):=by cases f;rw[IK];rfl
theorem Ans.of{f:Nat}{us:fQ}{V:Sig}{d:D}(h:aB prog f us V (rS d V)):Ans f us V True d:=⟨fun _=>h⟩
def Pl (w:World) (f:kA) (V:Sig) (hw:w.ap.length<=1073741824:=by exact sd) (gv:w.owner.length<=1073741824:=by exact sd) (hf:f.wt<=1073741824:=by exact sd) :
  aB prog 179 [.agg (Dx w),.agg (Bp f)] V (rS (.bool (IK w f)) V):=by
 obtain⟨f1,f2,f3⟩:=f.wt_le;have fX:∀(k:Nat) (hk:k<f.aq.length),aB prog 179 [.agg (Dx w),.agg (Bp (f.aq[k]))] V (rS (.bool (IK w (f.aq[k]))) V):=fun k hk=>Pl w (f.aq[k]) V hw gv (by have:=f3 k hk;omega)
 have d6:=Nf w f;refine en func179 ntmps179 ?_;cases ho:KK w f with
 | false =>
  rw[ho,bw,bw]at d6;unfold KK at ho
  by_cases h2:f.op=2
  ·rw[aS h2,fg,bk]at ho
   by_cases hn:f.n=0
   ·have hc:decide (0<=f.cls/\f.cls<3+(w.ap.length:Int))=false:=ho.resolve_left (fun h=>h hn);refine gf (gi h2 hc) ?_;exact fe1 d6
   ·refine gf h2 ?_;exact fe1 d6
  ·rw [aQ h2] at ho
   by_cases fZ:f.op=3\/f.op=4
   ·rw [aS fZ,fg,bk,bk] at ho
    by_cases hc:f.cls=0
    ·by_cases hn:f.n < -1000000000
     ·rcases fZ with h3|h4
      ·refine gz ?_;exact fe1 d6
      ·refine gz ?_;exact fe1 d6
     ·rcases fZ with h3|h4
      ·refine gz ?_;exact fe1 d6
      ·refine gz ?_;exact fe1 d6
    ·rcases fZ with h3|h4
     ·refine gz ?_;exact fe1 d6
     ·refine gz ?_;exact fe1 d6
   ·rw[aQ fZ]at ho;have gS:=of_decide_eq_false ho;refine gz ?_;exact fe1 d6
 | true =>
  rw[ho,bd]at d6;unfold KK at ho
  repeat ((fail_if_success refine dwp_join (c:=.block 0 _) 5 (dI 0) ?_ ?_);(refine go1 trivial ?_))
  refine dwp_join (c:=.block 0 _) 5 (dI (Hh f.op)) ?_ ?_
  ·by_cases h2:f.op=2
   ·rw[aS h2,aN,aP]at ho;have d9:Hh f.op=0:=by rw[h2];rfl
    refine gf (gi h2 ho.2) ?_;refine G8 ?_ (Sub.refl _);simp[d9]
   ·rw[aQ h2]at ho
    by_cases fZ:f.op=3\/f.op=4
    ·rw[aS fZ,aN,aP,aP]at ho;rcases fZ with h3|h4
     ·have d9:Hh f.op=0:=by rw[h3];rfl
      refine gz ?_;refine G8 ?_ (Sub.refl _);simp[d9]
     ·have d9:Hh f.op=0:=by rw[h4];rfl
      refine gz ?_;refine G8 ?_ (Sub.refl _);simp[d9]
    ·rw[aQ fZ]at ho;rcases bx ho with h1|h1|h1|h1
     ·have d9:Hh f.op=0:=by rw[h1];rfl
      refine gz ?_;refine G8 ?_ (Sub.refl _);simp[d9]
     ·have d9:Hh f.op=1:=by rw[h1];rfl
      refine gz ?_;refine G8 ?_ (Sub.refl _);simp[d9]
     ·have d9:Hh f.op=2:=by rw[h1];rfl
      refine gz ?_;refine G8 ?_ (Sub.refl _);simp[d9]
     ·have d9:Hh f.op=2:=by rw[h1];rfl
      refine gz ?_;refine G8 ?_ (Sub.refl _);simp[d9]
  ·clear ho
   have gO:Hh f.op=0\/Hh f.op=1\/Hh f.op=2:=by
    unfold Hh;split
    ·exact .inr (.inl rfl)
    ·split
     ·exact .inr (.inr rfl)
     ·exact .inl rfl
   have e7:aB prog 232 [.agg (Dx w),.slice (cI f.path) .no] V (rS (.bool (Yj w f.path)) V):=W3 w f.path .no V gv k0;have e8:=Pk f V;cases hr:FI w f with
   | false =>
    rw[hr,bw]at d6;unfold FI at hr
    by_cases hk:(f.aq.length:Int)=Hh f.op
    ·rw [bf hk,bd] at hr
     by_cases gU:f.arg<0
     ·refine gz ?_;exact fe1 d6
     ·by_cases gT:3<=f.arg
      ·refine gz ?_;exact fe1 d6
      ·rw [bf k0,bd] at hr;cases hp:Yj w f.path with
       |false=>
        rw[hp]at e7;have i232:=Ans.of e7;refine gz ?_;exact fe1 d6
       | true =>
        rw[hp]at e7;have i232:=Ans.of e7;rw[hp,bd,dZ]at hr;rw[hr.1]at e8;have i180:=Ans.of e8
        have gP:¬(f.arg=0/\(f.path.length=0)/\f.cls=0/\f.n=0):=fun h=>by
         have:=hr.2;rw[bf h.1,bf h.2.1,bf h.2.2.1,bf h.2.2.2]at this;cases this
        by_cases gG:f.arg=0
        ·by_cases gF:f.path.length=0
         ·by_cases gE:f.cls=0
          ·refine gz ?_;exact fe1 d6
          ·refine gz ?_;exact fe1 d6
         ·refine gz ?_;exact fe1 d6
        ·refine gz ?_;exact fe1 d6
    ·refine gz ?_;exact fe1 d6
   | true =>
    rw[hr,bd]at d6;unfold FI at hr;simp only[aN,aP]at hr;obtain⟨⟨⟨hk,ha⟩,hp⟩,hl⟩:=hr;rw[hp]at e7;have i232:=Ans.of e7;cases gw:C1 f.op with
    | true =>
     rw[gw]at e8;have i180:=Ans.of e8;refine gz ?_;refine Bb [2,92,93] (fun (k:Nat)=>k<=f.aq.length/\Dv w f.aq=Dv w (f.aq.drop k)) (fun k=>[(94,dI k)]) (fun _=>V) (fun k=>f.aq.length-k) (0) k7 (fun k hI=>?_);obtain⟨hk,hK⟩:=hI
     by_cases fY:k<f.aq.length
     ·rw[A0 fY,Dv]at hK
      repeat' first|refine gz ?_|refine Au (fX k fY) ?_|refine callP (fX k fY) ?_|refine gz ?_|apply gy<;>intro hh
      ·exact fe1 (gi d6 hK)
      ·rw[show IK w f.aq[k]=true by simpa using hh,bd]at hK;exact⟨k+1,⟨k0,hK⟩,td1,wkR⟩
     ·rw[A1 fY,Dv]at hK;refine gz ?_;exact fe1 (gi d6 hK)
    | false =>
     rw[gw]at e8 hl;have i180:=Ans.of e8;simp only[dD,aN,aP]at hl;obtain⟨⟨⟨gG,gF⟩,gE⟩,gQ⟩:=hl;refine gz ?_;refine Bb [2,92,93] (fun (k:Nat)=>k<=f.aq.length/\Dv w f.aq=Dv w (f.aq.drop k)) (fun k=>[(94,dI k)]) (fun _=>V) (fun k=>f.aq.length-k) (0) k7 (fun k hI=>?_);obtain⟨hk,hK⟩:=hI
     by_cases fY:k<f.aq.length
     ·rw[A0 fY,Dv]at hK
      repeat' first|refine gz ?_|refine Au (fX k fY) ?_|refine callP (fX k fY) ?_|refine gz ?_|apply gy<;>intro hh
      ·exact fe1 (gi d6 hK)
      ·rw[show IK w f.aq[k]=true by simpa using hh,bd]at hK;exact⟨k+1,⟨k0,hK⟩,td1,wkR⟩
     ·rw[A1 fY,Dv]at hK;refine gz ?_;exact fe1 (gi d6 hK)
termination_by SizeOf.sizeOf f
decreasing_by exact kA.lt (aR _)
@[reducible,instance] def a179:=fun w f V=>ah3 (@Pl w f V)
def Bk(f:Int->Int->fR->Bool×fR)(x:aG)(size:Int):Nat->fR->fR->Bool×fR
 |_,[],s=>(true,s)
 |j,c::r,s=>match f c (if x.op=9/\j=1 then size+1 else size) s with
  |(false,s')=>(false,s')
  |(true,s')=>Bk f x size (j+1) r s'
def Ao(p:aD)(n:Int):aG:=(p.kC[n.toNat]?).getD ⟨0,0,[]⟩
def BT(p:aD)(inM:Bool):Nat->Int->Int->fR->Bool×fR
 |0,_,_,s=>(false,s)
 |k+1,node,size,s=>
  if node<0\/(p.kC.length:Int)<=node\/0<=s.getD node.toNat 0 then(false,s) else
  if((Ao p node).aq.length:Int)≠Cj p (Ao p node)\/BI p (Ao p node) size=false\/((Ao p node).op=18/\inM=false) then(false,s.set node.toNat size) else
  Bk (BT p inM k) (Ao p node) size 0 (Ao p node).aq (s.set node.toNat size)
def Gb{f:Int->Int->fR->Bool×fR}{x:aG}{size:Int}(hf:∀c z s,(f c z s).2.length=s.length): ∀(j:Nat) (l s:fR),(Bk f x size j l s).2.length=s.length
 |_,[],_=>rfl
 |j,c::r,s=>by
  rw[Bk];have h:=hf c (if x.op=9/\j=1 then size+1 else size) s;split
  ·rename_i s' e;rw[e]at h;exact h
  ·rename_i s' e;rw[e]at h;rw[Gb hf];exact h
def CD(p:aD)(inM:Bool): ∀(k:Nat) (node size:Int) (s:fR),(BT p inM k node size s).2.length=s.length
 |0,_,_,_=>rfl
 | k+1,node,size,s=>by
  rw[BT];split
  ·rfl
  ·split
   ·simp
   ·rw[Gb (CD p inM k),cg]
def rowI(s:fR)(rest:fQ):fQ:=s.map dI++rest
@[simp] theorem rowI_length(s:fR)(rest:fQ):(rowI s rest).length=s.length+rest.length:=by simp[rowI]
@[simp] theorem rowI_get(s:fR)(rest:fQ)(k:Nat)(h:k<s.length):(rowI s rest)[k]? = some (dI s[k]):=by
 unfold rowI;rw[bK (by simpa using h),bN,aT h];rfl
@[simp] theorem rowI_put(s:fR)(rest:fQ)(k:Nat)(v:Int)(h:k<s.length):(rowI s rest).take k ++ .int .i64 v::(rowI s rest).drop (k+1)=rowI (s.set k v) rest:=by
 unfold rowI;rw[eB (by simp;omega),List.drop_append_of_le_length (by simp;omega),<-List.map_take,<-List.map_drop,cO,aS h];simp[dI]
def Sig.set_self(V:Sig){i:Nat}{o:kM}(h:V i=some o):V.set i o=V:=by
 funext k;simp only[Sig.set];split
 ·rename_i e;rw[e,h]
 ·rfl
def GU (p:aD) (k:Nat) (node size:Int) (inM:Bool) (i cap:Nat) (s:fR) (rest:fQ) (V:Sig) (hk:k<=13) (hi:V i=some (.cells (rowI s rest))) (hs:s.length=p.kC.length) (gh:0<=size/\size+k<=1073741824) (hp:p.wt<=1073741824) :
  aB prog 93 [.agg (Am p),dI node,dI size,dI (13-(k:Int)),.bool inM,.ax i 0 p.kC.length cap] V fun x U'=>x=.ret (.bool (BT p inM k node size s).1)/\U'=V.set i (.cells (rowI (BT p inM k node size s).2 rest)):=by
 obtain⟨p1,p2,p3,p4,p5,p6,p7⟩:=p.wt_le;refine en func93 ntmps93 ?_
 by_cases h1:node<0\/(p.kC.length:Int)<=node
 ·have hW:BT p inM k node size s=(false,s):=by
   cases k with
   |zero=>rfl
   |succ k=>rw[BT,aS (by rcases h1 with h|h;exact .inl h;exact .inr (.inl h))]
  rw[hW,Sig.set_self V hi];rcases h1 with h1|h1
  ·refine gz ?_ o93;exact fe1 trivial
  ·refine gz ?_ o93;exact fe1 trivial
 ·obtain ⟨q,rfl⟩ : ∃ q:Nat,node=(q:Int):=⟨node.toNat,k0⟩;have hq:q<p.kC.length:=by omega
  have gD:q<s.length:=by omega
  have gk:((q:Int)).toNat=q:=by omega
  have gc:s.getD ((q:Int)).toNat 0=s[q]:=by rw[gk,bj,aT gD];rfl
  by_cases h2:0<=s[q]
  ·have hW:BT p inM k q size s=(false,s):=by
    cases k with
    |zero=>rfl
    |succ k=>rw[BT,aS (.inr (.inr (by rw[gc];exact h2)))]
   rw[hW,Sig.set_self V hi];refine gf hi ?_ o93;exact fe1 trivial
  ·cases k with
   |zero=>
    rw[BT,Sig.set_self V hi];refine gf hi ?_ o93;exact fe1 trivial
   | succ k =>
    rw[BT,aQ (by rw[gc];omega)];have gH:Ao p q=p.kC[q]:=by unfold Ao;rw[gk,aT hq];rfl
    rw[gH,gk];generalize hx:p.kC[q]=x
    have gM:x.aq.length<=1073741824:=by
     have:=p7 q hq;rw[hx]at this;have gN:x.wt=1+x.aq.length:=rfl;omega
    have f0:=Wv p x size (V.set i (.cells (rowI (s.set q size) rest))) k0 k0
    by_cases gB:(x.aq.length:Int)=Cj p x
    ·cases gA:BI p x size with
     |false=>
      rw[aS (.inr (.inl rfl))];rw[gA]at f0;have i182:=Ans.of f0;refine gf (gi hi hx) ?_ o93;exact fe1 trivial
     | true =>
      rw[gA]at f0;have i182:=Ans.of f0
      by_cases gg:x.op=18/\inM=false
      ·rw[aS (.inr (.inr gg))];obtain⟨gg,rfl⟩:=gg;refine gf (gi hi hx) ?_ o93;exact fe1 trivial
      ·rw [aQ (by simp [gB,gg])]
       by_cases gu:x.op=18
       ·obtain rfl:inM=true:=by cases inM;exact absurd ⟨gu,rfl⟩ gg;rfl
        refine gf (gi hi hx) ?_ o93;refine AG [2,3,4,5,6,13] (fun (j:Nat) (s':fR)=>j<=x.aq.length/\s'.length=s.length/\Bk (BT p true k) x size 0 x.aq (s.set q size)=Bk (BT p true k) x size j (x.aq.drop j) s') (fun j _=>[(14,dI j)]) (fun _ s'=>V.set i (.cells (rowI s' rest))) (fun j _=>x.aq.length-j) (0) (s.set q size) k7 (fun j s' hI=>?_);obtain⟨hj,hs',hR⟩:=hI;have e13:(13:Int)-((k:Int)+1)+1=13-k:=by omega
        by_cases gb:j<x.aq.length
        ·rw[A0 gb,Bk]at hR;rw[aQ k0]at hR;refine gf hi ?_ (kX 13 o93);refine Ox (id:=13) [0,1,2,3,4,5,6,7,8,9,10,11,12] [11] (fun _=>none) (fun _ _ h=>by cases h) ?_;refine gf (gi hi e13) ?_ (kX 13 o93);refine C6 (GU p k (x.aq[j]) (size) true i cap s' rest _ k0 (w7 ..) k0 ⟨k0,k0⟩ hp) (fun d U' hx=>?_);obtain⟨f8,rfl⟩:=hx;cases f8;rw[w9];refine⟨fun _ _ h=>(by cases h),?_⟩;simp only[putD];have d8:=CD p true k x.aq[j] (size) s';rcases hr:BT p true k (x.aq[j]) (size) s' with⟨b,s2⟩;rw[hr]at hR d8;simp only at d8;cases b with
         |false=>
          simp only at hR;rw[hR];refine gz ?_ (kX 13 o93);exact fe1 trivial
         |true=>
          simp only at hR;refine gz ?_ (kX 13 o93);exact⟨j+1,s2,⟨k0,k0,hR⟩,td1,wkR⟩
        ·rw[A1 gb,Bk]at hR;rw[hR];refine gz ?_ o93;exact fe1 trivial
       ·refine gf (gi hi hx) ?_ o93;refine AG [2,3,4,5,6,13] (fun (j:Nat) (s':fR)=>j<=x.aq.length/\s'.length=s.length/\Bk (BT p inM k) x size 0 x.aq (s.set q size)=Bk (BT p inM k) x size j (x.aq.drop j) s') (fun j _=>[(14,dI j)]) (fun _ s'=>V.set i (.cells (rowI s' rest))) (fun j _=>x.aq.length-j) (0) (s.set q size) k7 (fun j s' hI=>?_);obtain⟨hj,hs',hR⟩:=hI;have e13:(13:Int)-((k:Int)+1)+1=13-k:=by omega
        by_cases gb:j<x.aq.length
        ·rw [A0 gb,Bk] at hR
         by_cases h9:x.op=9/\j=1
         ·rw[aS h9]at hR;refine gf hi ?_ (kX 13 o93);refine Ox (id:=13) [0,1,2,3,4,5,6,7,8,9,10,11,12] [11] (fun _=>none) (fun _ _ h=>by cases h) ?_;refine gf (gi hi e13) ?_ (kX 13 o93);refine C6 (GU p k (x.aq[j]) (size+1) inM i cap s' rest _ k0 (w7 ..) k0 ⟨k0,k0⟩ hp) (fun d U' hx=>?_);obtain⟨f8,rfl⟩:=hx;cases f8;rw[w9];refine⟨fun _ _ h=>(by cases h),?_⟩;simp only[putD];have d8:=CD p inM k x.aq[j] (size+1) s';rcases hr:BT p inM k (x.aq[j]) (size+1) s' with⟨b,s2⟩;rw[hr]at hR d8;simp only at d8;cases b with
          |false=>
           simp only at hR;rw[hR];refine gz ?_ (kX 13 o93);exact fe1 trivial
          |true=>
           simp only at hR;refine gz ?_ (kX 13 o93);exact⟨j+1,s2,⟨k0,k0,hR⟩,td1,wkR⟩
         ·rw[aQ h9]at hR
          by_cases gC:x.op=9
          ·have gK:¬j=1:=fun h=>h9 ⟨gC,h⟩;refine gf (gi hi (gi gK gC)) ?_ (kX 13 o93);refine Ox (id:=13) [0,1,2,3,4,5,6,7,8,9,10,11,12] [11] (fun _=>none) (fun _ _ h=>by cases h) ?_;refine gf (gi hi e13) ?_ (kX 13 o93);refine C6 (GU p k (x.aq[j]) (size) inM i cap s' rest _ k0 (w7 ..) k0 ⟨k0,k0⟩ hp) (fun d U' hx=>?_);obtain⟨f8,rfl⟩:=hx;cases f8;rw[w9];refine⟨fun _ _ h=>(by cases h),?_⟩;simp only[putD];have d8:=CD p inM k x.aq[j] (size) s';rcases hr:BT p inM k (x.aq[j]) (size) s' with⟨b,s2⟩;rw[hr]at hR d8;simp only at d8;cases b with
           |false=>
            simp only at hR;rw[hR];refine gz ?_ (kX 13 o93);exact fe1 trivial
           |true=>
            simp only at hR;refine gz ?_ (kX 13 o93);exact⟨j+1,s2,⟨k0,k0,hR⟩,td1,wkR⟩
          ·refine gf hi ?_ (kX 13 o93);refine Ox (id:=13) [0,1,2,3,4,5,6,7,8,9,10,11,12] [11] (fun _=>none) (fun _ _ h=>by cases h) ?_;refine gf (gi hi e13) ?_ (kX 13 o93);refine C6 (GU p k (x.aq[j]) (size) inM i cap s' rest _ k0 (w7 ..) k0 ⟨k0,k0⟩ hp) (fun d U' hx=>?_);obtain⟨f8,rfl⟩:=hx;cases f8;rw[w9];refine⟨fun _ _ h=>(by cases h),?_⟩;simp only[putD];have d8:=CD p inM k x.aq[j] (size) s';rcases hr:BT p inM k (x.aq[j]) (size) s' with⟨b,s2⟩;rw[hr]at hR d8;simp only at d8;cases b with
           |false=>
            simp only at hR;rw[hR];refine gz ?_ (kX 13 o93);exact fe1 trivial
           |true=>
            simp only at hR;refine gz ?_ (kX 13 o93);exact⟨j+1,s2,⟨k0,k0,hR⟩,td1,wkR⟩
        ·rw[A1 gb,Bk]at hR;rw[hR];refine gz ?_ o93;exact fe1 trivial
    ·rw[aS (.inl gB)];refine gf (gi hi hx) ?_ o93;exact fe1 trivial
termination_by k
end Go.DL
namespace Go.DL
open Go.Proofs.Tryz
open Go Go.Proofs
set_option maxHeartbeats 4000000
def Pm(i:Nat)(b:Bool)(V:Sig)(hi:V i=some (.cells [.bool b])):Q9 prog 166 [.ptr i 0] V none V/\Q9 prog 166 [.ptr i 0] V (some unf) (V.set i (.cells [.bool false])):=by
 constructor
 ·refine JI func166 rfl ntmps166 k7 (by decide) (by decide) rfl ?_;simp only[Option.getD_none]
  repeat' first|refine gz ?_|apply gy<;>intro hh
  exact⟨.inl rfl,rfl,Sub.refl _⟩
 ·refine JI func166 rfl ntmps166 k7 (by decide) (by decide) rfl ?_;simp only[ca]
  repeat' first|refine gf hi ?_|apply gy<;>intro hh
  exact⟨.inl rfl,rfl,Sub.refl _⟩
def N1{V:Sig}{i:Nat}{o:kM}:Sub (V.del i) (V.set i o):=fun j x h=>by
 by_cases hj:j=i
 ·subst hj;simp[Sig.del]at h
 ·rw[w8 _ _ hj];simpa[Sig.del,hj] using h
def YX(g:Nat)(cap:fQ)(V:Sig)(R:Sig->DE->Sig->Prop)
  (hg:∀i,V i=none->aB prog g cap (V.set i (.cells [.bool false])) (R (V.set i (.cells [.bool false]))))
  (hR:∀U' d S'',R U' (.panic d) S''->d=unf) (hk:∀i S'' x,V i=none->R (V.set i (.cells [.bool false])) x S''->S'' i=some (.cells [.bool false])) :
  aB prog 78 [.func (.func g) [] cap] V fun x U'=> ∃i S'',V i=none/\U'=S''.del i /\
   ((∃d,R (V.set i (.cells [.bool false])) (.ret d) S''/\x=.ret (.bool true))\/(R (V.set i (.cells [.bool false])) (.panic unf) S''/\x=.ret (.bool false))):=by
 refine Ip (fd:=166) func78 rfl (Ek func166 (by rfl) (by rfl)) (by rw[Ap];decide) (by decide) ntmps78 k7 ?_;refine gz ?_ [] [2];refine kR (fun i hi=>?_);refine gz ?_ [] [2];refine Mv (f:=166) (by rw[Ap];decide) rfl rfl ?_;refine gz ?_ [] [2];refine Ad (hg i hi) (fun d U' hr=>?_) (fun d U' hp=>?_)
 ·have ga:=hk i U' _ hi hr;refine gf ga ?_ [] [2];refine⟨_,Wk.refl _ _ _,[.ptr i 0],U'.set i (.cells [.bool true]),.bool true,rfl,(Pm i true _ (w7 ..)).1,DG (ds:=[.bool true]) Ag ?_,.ret (.bool true),U'.del i,A9 _,N1,i,U',hi,rfl,.inl ⟨d,hr,rfl⟩⟩;simp[resL]
 ·have ga:=hk i U' _ hi hp;obtain rfl:=hR _ _ _ hp;refine gz ?_ [] [2];refine⟨_,Wk.refl _ _ _,[.ptr i 0],U'.set i (.cells [.bool false]),.bool false,rfl,(Pm i false _ ga).2,DG (ds:=[.bool false]) Ag ?_,.ret (.bool false),U'.del i,A9 _,N1,i,U',hi,rfl,.inr ⟨hp,rfl⟩⟩;simp[resL]
def l7:D:=.iface 304 (.agg [])
def Wt(b:Bool)(V:Sig):aB prog 186 [.bool b] V fun x U'=>x=(if b then .ret (.tup []) else .panic l7)/\U'=V:=by
 refine en func186 ntmps186 ?_;cases b
 ·refine gz ?_;refine pan ?_;exact kV (U':=V) ⟨rfl,rfl⟩
 ·refine gz ?_;exact EA (U':=V) ⟨rfl,rfl⟩
@[reducible,instance] def a186:=fun b V=>gh0 (@Wt b V)
def Ph(i:Nat)(b:Bool)(V:Sig)(hi:V i=some (.cells [.bool b])):Q9 prog 233 [.ptr i 0] V none V/\Q9 prog 233 [.ptr i 0] V (some l7) (V.set i (.cells [.bool false])):=by
 constructor
 ·refine JI func233 rfl ntmps233 k7 (by decide) (by decide) rfl ?_;simp only[Option.getD_none]
  repeat' first|refine gz ?_|apply gy<;>intro hh
  exact⟨.inl rfl,rfl,Sub.refl _⟩
 ·refine JI func233 rfl ntmps233 k7 (by decide) (by decide) rfl ?_;simp only[ca]
  repeat' first|refine gf hi ?_|apply gy<;>intro hh
  exact⟨.inl rfl,rfl,Sub.refl _⟩
def Wu(g:Nat)(cap:fQ)(V:Sig)(R:Sig->DE->Sig->Prop)
  (hg:∀i,V i=none->aB prog g cap (V.set i (.cells [.bool false])) (R (V.set i (.cells [.bool false]))))
  (hR:∀U' d S'',R U' (.panic d) S''->d=l7) (hk:∀i S'' x,V i=none->R (V.set i (.cells [.bool false])) x S''->S'' i=some (.cells [.bool false])) :
  aB prog 183 [.func (.func g) [] cap] V fun x U'=> ∃i S'',V i=none/\U'=S''.del i /\
   ((∃d,R (V.set i (.cells [.bool false])) (.ret d) S''/\x=.ret (.bool true))\/(R (V.set i (.cells [.bool false])) (.panic l7) S''/\x=.ret (.bool false))):=by
 refine Ip (fd:=233) func183 rfl (Ek func233 (by rfl) (by rfl)) (by rw[Ap];decide) (by decide) ntmps183 k7 ?_;refine gz ?_ [] [2];refine kR (fun i hi=>?_);refine gz ?_ [] [2];refine Mv (f:=233) (by rw[Ap];decide) rfl rfl ?_;refine gz ?_ [] [2];refine Ad (hg i hi) (fun d U' hr=>?_) (fun d U' hp=>?_)
 ·have ga:=hk i U' _ hi hr;refine gf ga ?_ [] [2];refine⟨_,Wk.refl _ _ _,[.ptr i 0],U'.set i (.cells [.bool true]),.bool true,rfl,(Ph i true _ (w7 ..)).1,DG (ds:=[.bool true]) Ag ?_,.ret (.bool true),U'.del i,A9 _,N1,i,U',hi,rfl,.inl ⟨d,hr,rfl⟩⟩;simp[resL]
 ·have ga:=hk i U' _ hi hp;obtain rfl:=hR _ _ _ hp;refine gz ?_ [] [2];refine⟨_,Wk.refl _ _ _,[.ptr i 0],U'.set i (.cells [.bool false]),.bool false,rfl,(Ph i false _ ga).2,DG (ds:=[.bool false]) Ag ?_,.ret (.bool false),U'.del i,A9 _,N1,i,U',hi,rfl,.inr ⟨hp,rfl⟩⟩;simp[resL]
def Z3(l:fV)(o:Own)(V:Sig):
  aB prog 65 [.slice l o] V (rS (.slice l .clip) V):=by
 refine en func65 ntmps65 ?_;refine gz ?_;exact fe1 trivial
@[reducible,instance] def a65:=fun l o V=>ah0 (@Z3 l o V)
def X6(l:fV)(o:Own)(V:Sig):
  aB prog 114 [.slice l o] V (rS (.slice l .clip) V):=by
 refine en func114 ntmps114 ?_;refine gz ?_;exact fe1 trivial
@[reducible,instance] def a114:=fun l o V=>ah0 (@X6 l o V)
def X5(l:fV)(o:Own)(V:Sig):
  aB prog 115 [.slice l o] V (rS (.slice l .clip) V):=by
 refine en func115 ntmps115 ?_;refine gz ?_;exact fe1 trivial
@[reducible,instance] def a115:=fun l o V=>ah0 (@X5 l o V)
def Wr(l:fV)(o:Own)(V:Sig):
  aB prog 192 [.slice l o] V (rS (.slice l .clip) V):=by
 refine en func192 ntmps192 ?_;refine gz ?_;exact fe1 trivial
@[reducible,instance] def a192:=fun l o V=>ah0 (@Wr l o V)
def Wq(l:fV)(o:Own)(V:Sig):
  aB prog 194 [.slice l o] V (rS (.slice l .clip) V):=by
 refine en func194 ntmps194 ?_;refine gz ?_;exact fe1 trivial
@[reducible,instance] def a194:=fun l o V=>ah0 (@Wq l o V)
def Wb(l:fV)(o:Own)(V:Sig):
  aB prog 215 [.slice l o] V (rS (.slice l .clip) V):=by
 refine en func215 ntmps215 ?_;refine gz ?_;exact fe1 trivial
@[reducible,instance] def a215:=fun l o V=>ah0 (@Wb l o V)
def VZ(l:fV)(o:Own)(V:Sig):
  aB prog 245 [.slice l o] V (rS (.slice l .clip) V):=by
 refine en func245 ntmps245 ?_;refine gz ?_;exact fe1 trivial
@[reducible,instance] def a245:=fun l o V=>ah0 (@VZ l o V)
def VU(l:fV)(o:Own)(V:Sig):
  aB prog 255 [.slice l o] V (rS (.slice l .clip) V):=by
 refine en func255 ntmps255 ?_;refine gz ?_;exact fe1 trivial
@[reducible,instance] def a255:=fun l o V=>ah0 (@VU l o V)
def VG(l:fV)(o:Own)(V:Sig):
  aB prog 307 [.slice l o] V (rS (.slice l .clip) V):=by
 refine en func307 ntmps307 ?_;refine gz ?_;exact fe1 trivial
@[reducible,instance] def a307:=fun l o V=>ah0 (@VG l o V)
def Pw(l:List aJ)(h:aJ->Str)(g:Nat)(cap:fQ)(o:Own)(V:Sig)(hl:l.length<=1073741824)
  (hg:∀x∈l, ∀U',Sub V U'->aB prog g ([]++[.agg (kL x)]++cap) U' fun r S''=>r=.ret (.str (h x))/\S''=U') :
  aB prog 102 [.slice (l.map kL) o,.func (.func g) [] cap] V (rS (sl (cS (l.map h))) V):=by
 refine en func102 ntmps102 ?_;refine gz ?_;refine BL 5 1 (fun i hi=>?_);refine AG [1,4,8,9,21,22] (fun (k:Nat) (out:fP)=>k<=l.length/\out++(l.drop k).map h=l.map h) (fun k out=>[(10,dI k),(5,.slice (cS out) (.tag i))]) (fun _ out=>V.set i (.tail 1 out.length)) (fun k _=>l.length-k) (0) ([]) k7 (fun k out hI=>?_);obtain⟨hk,hR⟩:=hI;have hlen:=cf List.length hR;simp at hlen
 by_cases hh:k<l.length
 ·rw[A0 hh]at hR
  repeat' first|refine Au (hg (l[k]) (aR hh) _ ((Sub.refl _).set hi)) ?_|refine callP (hg (l[k]) (aR hh) _ ((Sub.refl _).set hi)) ?_|refine gf hh ?_|apply gy<;>intro hh
  exact⟨k+1,out++[h l[k]],⟨k0,by rw[bc];exact hR⟩,td1,wkR⟩
 ·refine gf hh ?_;rw[A1 hh]at hR;simp at hR;exact finS (U':=V) (es:=cS out) ⟨by rw[hR],rfl⟩
def X8(l:List aJ)(h:aJ->aE)(g:Nat)(cap:fQ)(o:Own)(V:Sig)(hl:l.length<=1073741824)
  (hg:∀x∈l, ∀U',Sub V U'->aB prog g ([]++[.agg (kL x)]++cap) U' fun r S''=>r=.ret (.agg (kF (h x)))/\S''=U') :
  aB prog 105 [.slice (l.map kL) o,.func (.func g) [] cap] V (rS (sl ((l.map h).map kF)) V):=by
 refine en func105 ntmps105 ?_;refine gz ?_;refine BL 5 3 (fun i hi=>?_);refine AG [1,4,8,9,21,22] (fun (k:Nat) (out:List aE)=>k<=l.length/\out++(l.drop k).map h=l.map h) (fun k out=>[(10,dI k),(5,.slice (out.map kF) (.tag i))]) (fun _ out=>V.set i (.tail 3 out.length)) (fun k _=>l.length-k) (0) ([]) k7 (fun k out hI=>?_);obtain⟨hk,hR⟩:=hI;have hlen:=cf List.length hR;simp at hlen
 by_cases hh:k<l.length
 ·rw[A0 hh]at hR
  repeat' first|refine Au (hg (l[k]) (aR hh) _ ((Sub.refl _).set hi)) ?_|refine callP (hg (l[k]) (aR hh) _ ((Sub.refl _).set hi)) ?_|refine gf hh ?_|apply gy<;>intro hh
  exact⟨k+1,out++[h l[k]],⟨k0,by rw[bc];exact hR⟩,td1,wkR⟩
 ·refine gf hh ?_;rw[A1 hh]at hR;simp at hR;exact finS (U':=V) (es:=out.map kF) ⟨by rw[hR],rfl⟩
def GA(l:fP)(h:Str->Int)(g:Nat)(cap:fQ)(o:Own)(V:Sig)(hl:l.length<=1073741824)
  (hg:∀x∈l, ∀U',Sub V U'->aB prog g ([]++[.str x]++cap) U' fun r S''=>r=.ret (dI (h x))/\S''=U') :
  aB prog 107 [.slice (cS l) o,.func (.func g) [] cap] V (rS (sl (cI (l.map h))) V):=by
 refine en func107 ntmps107 ?_;refine gz ?_;refine BL 5 1 (fun i hi=>?_);refine AG [1,4,8,9,21,22] (fun (k:Nat) (out:fR)=>k<=l.length/\out++(l.drop k).map h=l.map h) (fun k out=>[(10,dI k),(5,.slice (cI out) (.tag i))]) (fun _ out=>V.set i (.tail 1 out.length)) (fun k _=>l.length-k) (0) ([]) k7 (fun k out hI=>?_);obtain⟨hk,hR⟩:=hI;have hlen:=cf List.length hR;simp at hlen
 by_cases hh:k<l.length
 ·rw[A0 hh]at hR
  repeat' first|refine Au (hg (l[k]) (aR hh) _ ((Sub.refl _).set hi)) ?_|refine callP (hg (l[k]) (aR hh) _ ((Sub.refl _).set hi)) ?_|refine gf hh ?_|apply gy<;>intro hh
  exact⟨k+1,out++[h l[k]],⟨k0,by rw[bc];exact hR⟩,td1,wkR⟩
 ·refine gf hh ?_;rw[A1 hh]at hR;simp at hR;exact finS (U':=V) (es:=cI out) ⟨by rw[hR],rfl⟩
def Pu(l:List aM)(h:aM->lR)(g:Nat)(cap:fQ)(o:Own)(V:Sig)(hl:l.length<=1073741824)
  (hg:∀x∈l, ∀U',Sub V U'->aB prog g ([]++[.agg (Dz x)]++cap) U' fun r S''=>r=.ret (.agg (Ef (h x)))/\S''=U') :
  aB prog 110 [.slice (l.map Dz) o,.func (.func g) [] cap] V (rS (sl ((l.map h).map Ef)) V):=by
 refine en func110 ntmps110 ?_;refine gz ?_;refine BL 5 2 (fun i hi=>?_);refine AG [1,4,8,9,21,22] (fun (k:Nat) (out:List lR)=>k<=l.length/\out++(l.drop k).map h=l.map h) (fun k out=>[(10,dI k),(5,.slice (out.map Ef) (.tag i))]) (fun _ out=>V.set i (.tail 2 out.length)) (fun k _=>l.length-k) (0) ([]) k7 (fun k out hI=>?_);obtain⟨hk,hR⟩:=hI;have hlen:=cf List.length hR;simp at hlen
 by_cases hh:k<l.length
 ·rw[A0 hh]at hR
  repeat' first|refine Au (hg (l[k]) (aR hh) _ ((Sub.refl _).set hi)) ?_|refine callP (hg (l[k]) (aR hh) _ ((Sub.refl _).set hi)) ?_|refine gf hh ?_|apply gy<;>intro hh
  exact⟨k+1,out++[h l[k]],⟨k0,by rw[bc];exact hR⟩,td1,wkR⟩
 ·refine gf hh ?_;rw[A1 hh]at hR;simp at hR;exact finS (U':=V) (es:=out.map Ef) ⟨by rw[hR],rfl⟩
def KS(l:fR)(h:Int->Str)(g:Nat)(cap:fQ)(o:Own)(V:Sig)(hl:l.length<=1073741824)
  (hg:∀x∈l, ∀U',Sub V U'->aB prog g ([]++[dI x]++cap) U' fun r S''=>r=.ret (.str (h x))/\S''=U') :
  aB prog 137 [.slice (cI l) o,.func (.func g) [] cap] V (rS (sl (cS (l.map h))) V):=by
 refine en func137 ntmps137 ?_;refine gz ?_;refine BL 5 1 (fun i hi=>?_);refine AG [1,4,8,9,21,22] (fun (k:Nat) (out:fP)=>k<=l.length/\out++(l.drop k).map h=l.map h) (fun k out=>[(10,dI k),(5,.slice (cS out) (.tag i))]) (fun _ out=>V.set i (.tail 1 out.length)) (fun k _=>l.length-k) (0) ([]) k7 (fun k out hI=>?_);obtain⟨hk,hR⟩:=hI;have hlen:=cf List.length hR;simp at hlen
 by_cases hh:k<l.length
 ·rw[A0 hh]at hR
  repeat' first|refine Au (hg (l[k]) (aR hh) _ ((Sub.refl _).set hi)) ?_|refine callP (hg (l[k]) (aR hh) _ ((Sub.refl _).set hi)) ?_|refine gf hh ?_|apply gy<;>intro hh
  exact⟨k+1,out++[h l[k]],⟨k0,by rw[bc];exact hR⟩,td1,wkR⟩
 ·refine gf hh ?_;rw[A1 hh]at hR;simp at hR;exact finS (U':=V) (es:=cS out) ⟨by rw[hR],rfl⟩
def WU(l:List lR)(h:lR->aM)(g:Nat)(cap:fQ)(o:Own)(V:Sig)(hl:l.length<=1073741824)
  (hg:∀x∈l, ∀U',Sub V U'->aB prog g ([]++[.agg (Ef x)]++cap) U' fun r S''=>r=.ret (.agg (Dz (h x)))/\S''=U') :
  aB prog 140 [.slice (l.map Ef) o,.func (.func g) [] cap] V (rS (sl ((l.map h).map Dz)) V):=by
 refine en func140 ntmps140 ?_;refine gz ?_;refine BL 5 2 (fun i hi=>?_);refine AG [1,4,8,9,21,22] (fun (k:Nat) (out:List aM)=>k<=l.length/\out++(l.drop k).map h=l.map h) (fun k out=>[(10,dI k),(5,.slice (out.map Dz) (.tag i))]) (fun _ out=>V.set i (.tail 2 out.length)) (fun k _=>l.length-k) (0) ([]) k7 (fun k out hI=>?_);obtain⟨hk,hR⟩:=hI;have hlen:=cf List.length hR;simp at hlen
 by_cases hh:k<l.length
 ·rw[A0 hh]at hR
  repeat' first|refine Au (hg (l[k]) (aR hh) _ ((Sub.refl _).set hi)) ?_|refine callP (hg (l[k]) (aR hh) _ ((Sub.refl _).set hi)) ?_|refine gf hh ?_|apply gy<;>intro hh
  exact⟨k+1,out++[h l[k]],⟨k0,by rw[bc];exact hR⟩,td1,wkR⟩
 ·refine gf hh ?_;rw[A1 hh]at hR;simp at hR;exact finS (U':=V) (es:=out.map Dz) ⟨by rw[hR],rfl⟩
def W9(l:List kA)(h:kA->aI)(g:Nat)(cap:fQ)(o:Own)(V:Sig)(hl:l.length<=1073741824)
  (hg:∀x∈l, ∀U',Sub V U'->aB prog g ([]++[.agg (Bp x)]++cap) U' fun r S''=>r=.ret (.agg (AE (h x)))/\S''=U') :
  aB prog 217 [.slice (l.map Bp) o,.func (.func g) [] cap] V (rS (sl ((l.map h).map AE)) V):=by
 refine en func217 ntmps217 ?_;refine gz ?_;refine BL 5 6 (fun i hi=>?_);refine AG [1,4,8,9,21,22] (fun (k:Nat) (out:List aI)=>k<=l.length/\out++(l.drop k).map h=l.map h) (fun k out=>[(10,dI k),(5,.slice (out.map AE) (.tag i))]) (fun _ out=>V.set i (.tail 6 out.length)) (fun k _=>l.length-k) (0) ([]) k7 (fun k out hI=>?_);obtain⟨hk,hR⟩:=hI;have hlen:=cf List.length hR;simp at hlen
 by_cases hh:k<l.length
 ·rw[A0 hh]at hR
  repeat' first|refine Au (hg (l[k]) (aR hh) _ ((Sub.refl _).set hi)) ?_|refine callP (hg (l[k]) (aR hh) _ ((Sub.refl _).set hi)) ?_|refine gf hh ?_|apply gy<;>intro hh
  exact⟨k+1,out++[h l[k]],⟨k0,by rw[bc];exact hR⟩,td1,wkR⟩
 ·refine gf hh ?_;rw[A1 hh]at hR;simp at hR;exact finS (U':=V) (es:=out.map AE) ⟨by rw[hR],rfl⟩
def VR(l:fP)(s:Str)(o:Own)(V:Sig)(hl:l.length<=1073741824):
  aB prog 277 [.slice (cS l) o,.str s] V (rS (dI (idxG s l 0)) V):=by
 refine en func277 ntmps277 ?_;refine gz ?_;refine Bb [0,1,7] (fun (k:Nat)=>k<=l.length/\idxG s l 0=idxG s (l.drop k) k) (fun k=>[(8,dI k)]) (fun _=>V) (fun k=>l.length-k) (0) td3 (fun k hI=>?_);obtain⟨hk,hR⟩:=hI
 by_cases hh:k<l.length
 ·rw[A0 hh,idxG]at hR
  repeat' first|refine gf hh ?_|apply gy<;>intro hh
  ·exact fe1 hR
  ·exact⟨k+1,⟨k0,by rw[hR,aQ (aZ (by assumption))]⟩,td1,wkR⟩
 ·refine gf hh ?_
  (refine kE (U':=V) ?_;exact⟨by first|rfl|(simp[hR,A1 hh,idxG];done)|(simp_all [hR,A1 hh,idxG];done)|(rw[A4,aW];simp_all [hR,A1 hh,idxG]<;>omega),rfl⟩)
@[reducible,instance] def a277:=fun l s o V=>ah1 (@VR l s o V)
def W0(l:fP)(s:Str)(o:Own)(V:Sig)(hl:l.length<=1073741824):
  aB prog 238 [.slice (cS l) o,.str s] V (rS (.bool (decide (0<=idxG s l 0))) V):=by
 refine en func238 ntmps238 ?_;refine gz ?_;exact fe1 trivial
def Wh(l:fP)(s:Str)(o:Own)(V:Sig)(hl:l.length<=1073741824):
  aB prog 204 [.slice (cS l) o,.str s] V (rS (.bool (decide (0<=idxG s l 0))) V):=by
 refine en func204 ntmps204 ?_;refine gz ?_;exact fe1 trivial
def Jy{α:Type}[DecidableEq α](s:α): ∀(l:List α) (k:Nat),(0<=idxG s l k) ↔ s∈l
 |[],_=>by simp[idxG]
 | x::r,k=>by
  rw[idxG]
  by_cases h:x=s
  ·simp[h]
  ·rw[aQ h,Jy s r (k+1)];simp[aZ h]
end Go.DL
namespace Go.DL
open Go.Proofs.Tryz
open Go Go.Proofs
set_option maxHeartbeats 8000000
def YE{α:Type}[DecidableEq α](s:α)(l:List α):decide (0<=idxG s l 0)=decide (s∈l):=by
 rw[aW];simp only[aP];exact Jy s l 0
def Vz(l:fR)(s:Int)(o:Own)(V:Sig)(hl:l.length<=1073741824:=by exact sd):
  aB prog 89 [.slice (cI l) o,dI s] V (rS (.bool (decide (s∈l))) V):=by
 rw[<-YE];exact YO l s o V hl
instance (priority:=high) a89m (l:fR) (s:Int) (o:Own) (V:Sig):Ans 89 [.slice (cI l) o,dI s] V ((l.length<=1073741824)) (.bool (decide (s∈l))):=⟨fun hl=>Vz l s o V (hl:=hl)⟩
def VC(l:fR)(s:Int)(o:Own)(V:Sig)(hl:l.length<=1073741824:=by exact sd):
  aB prog 32 [.slice (cI l) o,dI s] V (rS (.bool (decide (s∈l))) V):=by
 rw[<-cw];exact Zg l s o V hl
instance (priority:=high) a32m (l:fR) (s:Int) (o:Own) (V:Sig):Ans 32 [.slice (cI l) o,dI s] V ((l.length<=1073741824)) (.bool (decide (s∈l))):=⟨fun hl=>VC l s o V (hl:=hl)⟩
def Tt(l:fP)(s:Str)(o:Own)(V:Sig)(hl:l.length<=1073741824:=by exact sd):
  aB prog 238 [.slice (cS l) o,.str s] V (rS (.bool (decide (s∈l))) V):=by
 have e:decide (0<=idxG s l 0)=decide (s∈l):=by rw[aW];simp only[aP];exact Jy s l 0
 rw[<-e];exact W0 l s o V hl
instance (priority:=high) a238m (l:fP) (s:Str) (o:Own) (V:Sig):Ans 238 [.slice (cS l) o,.str s] V ((l.length<=1073741824)) (.bool (decide (s∈l))):=⟨fun hl=>Tt l s o V (hl:=hl)⟩
def TC(l:fP)(s:Str)(o:Own)(V:Sig)(hl:l.length<=1073741824:=by exact sd):
  aB prog 204 [.slice (cS l) o,.str s] V (rS (.bool (decide (s∈l))) V):=by
 have e:decide (0<=idxG s l 0)=decide (s∈l):=by rw[aW];simp only[aP];exact Jy s l 0
 rw[<-e];exact Wh l s o V hl
instance (priority:=high) a204m (l:fP) (s:Str) (o:Own) (V:Sig):Ans 204 [.slice (cS l) o,.str s] V ((l.length<=1073741824)) (.bool (decide (s∈l))):=⟨fun hl=>TC l s o V (hl:=hl)⟩
def W8(l:fR)(n:Int)(o:Own)(V:Sig)(hl:l.length<=1073741824:=by exact sd):
  aB prog 222 [.slice (cI l) o,dI n] V fun x U'=>x=.ret (sl (cI (l.filter fun x=> !decide (x=n))))/\U'=V:=by
 refine en func222 ntmps222 ?_;refine gz ?_;refine BL 5 1 (fun i hi=>?_);refine AG [0,1,4,26] (fun (k:Nat) (out:fR)=>k<=l.length/\out.length<=k/\out++(l.drop k).filter (fun x=> !decide (x=n))=l.filter (fun x=> !decide (x=n))) (fun k out=>[(6,dI k),(5,.slice (cI out) (.tag i))]) (fun _ out=>V.set i (.tail 1 out.length)) (fun k _=>l.length-k) (0) ([]) k7 (fun k out hI=>?_);obtain⟨hk,hlen,hR⟩:=hI
 by_cases h:k<l.length
 ·rw[A0 h,cP]at hR
  repeat' first|refine gz ?_|apply gy<;>intro hh
  ·exact⟨k+1,out++[l[k]],by refine⟨k0,by simp;omega,?_⟩;rw[<-hR];simp[hh],td1,wkR⟩
  ·exact⟨k+1,out,by refine⟨k0,k0,?_⟩;rw[<-hR];simp[hh],td1,wkR⟩
 ·rw[A1 h]at hR;simp at hR;refine gz ?_;exact finS (U':=V) (es:=cI out) ⟨by rw[hR],rfl⟩
@[reducible,instance] def a222:=fun l n o V=>ah1 (@W8 l n o V)
def W7(l:fW)(c:Int)(o:Own)(V:Sig)(hl:l.length<=1073741824:=by exact sd)(d8:∀x∈l,x.length<=1073741824:=by exact sd):
  aB prog 223 [.slice (cII l) o,dI c] V fun x U'=>x=.ret (.bool (l.all fun x=> !decide (c∈x.tail)))/\U'=V:=by
 refine en func223 ntmps223 ?_;refine gz ?_;refine Bb [0,1] (fun (k:Nat)=>k<=l.length/\l.all (fun x=> !decide (c∈x.tail))=(l.drop k).all (fun x=> !decide (c∈x.tail))) (fun k=>[(5,dI k)]) (fun _=>V) (fun k=>l.length-k) (0) k7 (fun k hI=>?_);obtain⟨hk,hR⟩:=hI
 by_cases h:k<l.length
 ·have hx:=d8 _ (aR h);rw[A0 h,bU]at hR
  by_cases h0:l[k].length=0
  ·have he:l[k]=[]:=bH.1 h0;refine gz ?_;exact⟨k+1,⟨k0,by rw[hR,he];simp⟩,td1,wkR⟩
  ·repeat' first|refine gz ?_|apply gy<;>intro hh
   ·exact fe1 hR
   ·exact⟨k+1,⟨k0,by rw[hR];simp_all⟩,td1,wkR⟩
 ·rw[A1 h]at hR;refine gz ?_;exact fe1 hR
@[reducible,instance] def a223:=fun l c o V=>ah2 (@W7 l c o V)
def Dp(i:Nat):fR->fR->Bool
 |_,[]=>true
 |seen,p::r=>(decide (3<=p/\p<3+i)&&!decide (p∈seen))&&Dp i (seen++[p]) r
def Gt(i:Nat)(l:fR):Bool:=decide (l.length<=3)&&Dp i [] l
def C7:Nat->fW->Bool
 |_,[]=>true
 |i,l::r=>Gt i l&&C7 (i+1) r
def Bo(g:fW):Bool:=decide (g.length<=16)&&C7 0 g
def AQ{α:Type}{l:List α}{k:Nat}(h:k<l.length):l.take (k+1)=l.take k++[l[k]]:=by rw[bQ h]
def Wm(g:fW)(o:Own)(V:Sig)(hl:g.length<=1073741824:=by exact sd)(d8:∀x∈g,x.length<=1073741824:=by exact sd):
  aB prog 199 [.slice (cII g) o] V (rS (.bool (Bo g)) V):=by
 refine en func199 ntmps199 ?_
 by_cases gL:16<g.length
 ·refine gz ?_
  (refine kE (U':=V) ?_;exact⟨by first|rfl|(simp[Bo];done)|(simp_all [Bo];done)|(rw[A4,aW];simp_all [Bo]<;>omega),rfl⟩)
 refine gz ?_;refine Bb [10,11] (fun (k:Nat)=>k<=g.length/\Bo g=C7 k (g.drop k)) (fun k=>[(12,dI k)]) (fun _=>V) (fun k=>g.length-k) (0) (by exact⟨k0,by simp[Bo];omega⟩) (fun k hI=>?_);obtain⟨hk,hR⟩:=hI
 by_cases h:k<g.length
 ·have hx:=d8 _ (aR h);rw[A0 h,C7,Gt]at hR
  by_cases h3:3<g[k].length
  ·refine gz ?_;exact fe1 hR
  ·have gr:decide (g[k].length<=3)=true:=by simp;omega
   rw[gr,bd]at hR;refine gz ?_;refine Bb [3,4,10,11,12,13,14,15,16,17,18,19,20,21,43] (fun (q:Nat)=>q<=g[k].length/\Bo g=(Dp k (g[k].take q) (g[k].drop q)&&C7 (k+1) (g.drop (k+1)))) (fun q=>[(22,dI q)]) (fun _=>V) (fun q=>g[k].length-q) (0) (by exact⟨k0,by simpa using hR⟩) (fun q hI=>?_);obtain⟨hq,d7⟩:=hI
   by_cases h':q<g[k].length
   ·rw[A0 h',Dp,<-AQ h']at d7
    repeat' first|refine gz ?_|apply gy<;>intro hh
    ·have hn:¬(3<=g[k][q]/\g[k][q]<3+(k:Int)):=by omega
     rw[ba hn]at d7;exact fe1 d7
    ·have hn:¬(3<=g[k][q]/\g[k][q]<3+(k:Int)):=by omega
     rw[ba hn]at d7;exact fe1 d7
    ·exact fe1 d7
    ·exact⟨q+1,⟨k0,by rw[d7];simp_all⟩,td1,wkR⟩
   ·rw[A1 h',Dp]at d7;refine gz ?_;exact⟨k+1,⟨k0,by simpa using d7⟩,td1,wkR⟩
 ·rw[A1 h,C7]at hR;refine gz ?_;exact fe1 hR
@[reducible,instance] def a199:=fun g o V=>ah2 (@Wm g o V)
def Wz(g:fW)(o:Own)(V:Sig)(hl:g.length<=1073741824:=by exact sd)(d8:∀x∈g,x.length<=1073741824:=by exact sd):
  aB prog 175 [.slice (cII g) o] V (rS (.bool (Bo g)) V):=by
 refine en func175 ntmps175 ?_
 by_cases gL:16<g.length
 ·refine gz ?_ o175
  (refine kE (U':=V) ?_;exact⟨by first|rfl|(simp[Bo];done)|(simp_all [Bo];done)|(rw[A4,aW];simp_all [Bo]<;>omega),rfl⟩)
 refine gz ?_ o175;refine Bb [0] (fun (k:Nat)=>k<=g.length/\Bo g=C7 k (g.drop k)) (fun k=>[(3,dI k)]) (fun _=>V) (fun k=>g.length-k) (0) (by exact⟨k0,by simp[Bo];omega⟩) (fun k hI=>?_);obtain⟨hk,hR⟩:=hI
 by_cases h:k<g.length
 ·have hx:=d8 _ (aR h);rw[A0 h,C7,Gt]at hR
  by_cases h3:3<g[k].length
  ·refine gz ?_ o175;exact fe1 hR
  ·have gr:decide (g[k].length<=3)=true:=by simp;omega
   rw[gr,bd]at hR;refine gz ?_ o175;refine Bb [0,3,8,9,10,11,12,13,14,15,16,17,18,19] (fun (q:Nat)=>q<=g[k].length/\Bo g=(Dp k (g[k].take q) (g[k].drop q)&&C7 (k+1) (g.drop (k+1)))) (fun q=>[(4,dI q)]) (fun _=>V) (fun q=>g[k].length-q) (0) (by exact⟨k0,by simpa using hR⟩) (fun q hI=>?_);obtain⟨hq,d7⟩:=hI
   by_cases h':q<g[k].length
   ·rw[A0 h',Dp,<-AQ h']at d7
    repeat' first|refine gz ?_ o175|apply gy<;>intro hh
    ·have hn:¬(3<=g[k][q]/\g[k][q]<3+(k:Int)):=by omega
     rw[ba hn]at d7;exact fe1 d7
    ·have hn:¬(3<=g[k][q]/\g[k][q]<3+(k:Int)):=by omega
     rw[ba hn]at d7;exact fe1 d7
    ·exact fe1 d7
    ·exact⟨q+1,⟨k0,by rw[d7];simp_all⟩,td1,wkR⟩
   ·rw[A1 h',Dp]at d7;refine gz ?_ o175;exact⟨k+1,⟨k0,by simpa using d7⟩,td1,wkR⟩
 ·rw[A1 h,C7]at hR;refine gz ?_ o175;exact fe1 hR
end Go.DL
