/- A part of the proof. -/
import Derived.Test.YtlfimpogphmbdaaGreatQ12
set_option linter.all false
namespace Go.DL
open Go.Proofs.Tryz
open Go Go.Proofs
set_option maxHeartbeats 8000000
def idxG{α:Type}[DecidableEq α](s:α):List α->Nat->Int
 |[],_=> -1
 |x::r,k=>if x=s then k else idxG s r (k+1)
theorem Ot(l:fD)(s:Str)(o:Own)(V:Sig)(hl:l.length<=1073741824:=by exact sd):
  au prog 130 [.slice (cS l) o,.str s] V (rS (dI (idxG s l 0)) V):=by
 refine en func130 ntmps130 ?_
 refine gz ?_
 refine B5 [0,1] (fun (k:Nat)=>k<=l.length/\idxG s l 0=idxG s (l.drop k) k) (fun k=>[(5,dI k)]) (fun _=>V) (fun k=>l.length-k) (0) (by simp) (fun k hI=>?_)
 obtain⟨hk,hR⟩:=hI
 by_cases h:k<l.length
 ·rw[A2 h,idxG]at hR
  repeat' first|refine gz ?_|apply gy<;>intro hh
  ·exact fe1 (gi hR hh)
  ·exact⟨k+1,⟨by omega,by rw[hR,aN hh]⟩,td1,wkR⟩
 ·rw[A1 h,idxG]at hR
  refine gz ?_
  exact fe1 hR
@[reducible,instance] def a130:=fun l s o V=>ah1 (@Ot l s o V)
theorem Va(l:fF)(s:Int)(o:Own)(V:Sig)(hl:l.length<=1073741824:=by exact sd):
  au prog 174 [.slice (cI l) o,dI s] V (rS (dI (idxG s l 0)) V):=by
 refine en func174 ntmps174 ?_
 refine gz ?_
 refine B5 [0,1,7] (fun (k:Nat)=>k<=l.length/\idxG s l 0=idxG s (l.drop k) k) (fun k=>[(8,dI k)]) (fun _=>V) (fun k=>l.length-k) (0) (by simp) (fun k hI=>?_)
 obtain⟨hk,hR⟩:=hI
 by_cases h:k<l.length
 ·rw[A2 h,idxG]at hR
  repeat' first|refine gz ?_|apply gy<;>intro hh
  ·rw[aS hh.symm]at hR
   exact fe1 hR
  ·exact⟨k+1,⟨by omega,by rw[hR,aN (fun e=>hh e.symm)]⟩,td1,wkR⟩
 ·rw[A1 h,idxG]at hR
  refine gz ?_
  exact fe1 hR
@[reducible,instance] def a174:=fun l s o V=>ah1 (@Va l s o V)
theorem WY(l:fF)(s:Int)(o:Own)(V:Sig)(hl:l.length<=1073741824:=by exact sd):
  au prog 89 [.slice (cI l) o,dI s] V (rS (.bool (decide (0<=idxG s l 0))) V):=by
 refine en func89 ntmps89 ?_
 refine gz ?_
 exact fe1 trivial
theorem Xk(l:fH)(o:Own)(V:Sig):
  au prog 43 [.slice l o] V (rS (.slice l .clip) V):=by
 refine en func43 ntmps43 ?_
 refine gz ?_
 exact fe1 trivial
@[reducible,instance] def a43:=fun l o V=>ah0 (@Xk l o V)
theorem QG(a b:fF)(o o':Own)(V:Sig)(hl:a.length<=1073741824:=by exact sd):
  au prog 15 [.slice (cI a) o,.slice (cI b) o'] V (rS (.bool (a==b)) V):=by
 refine en func15 ntmps15 ?_
 by_cases f7:a.length=b.length
 ·refine gz ?_ o15
  refine B5 [0,1,12] (fun (k:Nat)=>k<=a.length/\(a=b ↔ a.drop k=b.drop k)) (fun k=>[(13,dI k)]) (fun _=>V) (fun k=>a.length-k) (0) (by simp) (fun k hI=>?_)
  obtain⟨hk,hR⟩:=hI
  by_cases h:k<a.length
  ·rw[A2 h,A2 (l:=b) (by omega),cD]at hR
   repeat' first|refine gz ?_ o15|apply gy<;>intro hh
   ·have:a≠b:=fun e=>hh (hR.1 e).1
    exact fe1 this
   ·exact⟨k+1,⟨by omega,by rw[hR];simp_all⟩,td1,wkR⟩
  ·have:a=b:=hR.2 (by rw[A1 (by omega),A1 (by omega)])
   refine gz ?_ o15
   exact fe1 this
 ·have:a≠b:=fun e=>f7 (by rw[e])
  refine gz ?_ o15
  exact fe1 this
@[reducible,instance] def a15:=fun a b o o' V=>ah1 (@QG a b o o' V)
theorem HD(l:fH)(o:Own)(V:Sig)(hl:l.length<=1073741824:=by exact sd)(hs:∀c∈l,c.length=1:=by exact sd):
  au prog 118 [.slice l o] V (rS (sl l) V):=by
 refine en func118 ntmps118 ?_
 refine gz ?_
 refine isN (fun b hb=>?_)
 repeat' first|refine gz ?_|apply gy<;>intro hh
 ·exact fe1 (d':=sl []) (hb hh)
 ·by_cases h:l=[]
  ·refine app0 ?_
   refine gz ?_
   exact fe1 (d':=sl []) h
  ·refine appC (fun i hi=>?_) (hne:=by simp[h]) (hlen':=hs)
   refine gz ?_
   exact finS (S':=V) (es:=l) ⟨rfl,rfl⟩ ((Sub.refl _).set hi)
theorem Xq(l:fF)(s:Int)(o:Own)(V:Sig)(hl:l.length<=1073741824:=by exact sd):
  au prog 32 [.slice (cI l) o,dI s] V (rS (.bool (l.contains s)) V):=by
 refine en func32 ntmps32 ?_
 refine gz ?_
 refine B5 [0,1] (fun (k:Nat)=>k<=l.length/\(s∈l ↔ s∈l.drop k)) (fun k=>[(5,dI k)]) (fun _=>V) (fun k=>l.length-k) (0) (by simp) (fun k hI=>?_)
 obtain⟨hk,hR⟩:=hI
 by_cases h:k<l.length
 ·rw[A2 h,aY]at hR
  repeat' first|refine gz ?_|apply gy<;>intro hh
  ·have:=hR.2 (.inl hh.symm)
   exact fe1 this
  ·exact⟨k+1,⟨by omega,by rw[hR];exact⟨fun e=>e.resolve_left fun e=>hh e.symm,.inr⟩⟩,td1,wkR⟩
 ·rw[A1 h]at hR
  refine gz ?_
  exact fe1 hR
def inB(n:Int):Bool:=decide (-1000000000<=n)&&decide (n<=1000000000)
theorem Vf(n:Int)(V:Sig):au prog 168 [dI n] V (rS (.bool (inB n)) V):=by
 refine en func168 ntmps168 ?_
 by_cases h : -1000000000<=n
 ·refine gz ?_
  (refine fin1 (S':=V) ?_;exact⟨by first|rfl|(simp[inB,h];done)|(simp_all [inB,h];done)|(rw[A5,aO];simp_all [inB,h]<;>omega),rfl⟩)
 ·refine gz ?_
  (refine fin1 (S':=V) ?_;exact⟨by first|rfl|(simp[inB,h];done)|(simp_all [inB,h];done)|(rw[A5,aO];simp_all [inB,h]<;>omega),rfl⟩)
@[reducible,instance] def a168:=fun n V=>ah0 (@Vf n V)
theorem V7(n:Int)(V:Sig):au prog 177 [dI n] V (rS (.bool (inB n)) V):=by
 refine en func177 ntmps177 ?_
 by_cases h : -1000000000<=n
 ·refine gz ?_
  (refine fin1 (S':=V) ?_;exact⟨by first|rfl|(simp[inB,h];done)|(simp_all [inB,h];done)|(rw[A5,aO];simp_all [inB,h]<;>omega),rfl⟩)
 ·refine gz ?_
  (refine fin1 (S':=V) ?_;exact⟨by first|rfl|(simp[inB,h];done)|(simp_all [inB,h];done)|(rw[A5,aO];simp_all [inB,h]<;>omega),rfl⟩)
@[reducible,instance] def a177:=fun n V=>ah0 (@V7 n V)
theorem WV(n:Int)(V:Sig):au prog 94 [dI n] V (rS (.bool (decide (n=1\/n=4))) V):=by
 refine en func94 ntmps94 ?_
 by_cases h:n=1
 ·refine gz ?_
  exact fe1 h
 ·refine gz ?_
  exact fe1 h
@[reducible,instance] def a94:=fun n V=>ah0 (@WV n V)
mutual
def Fact.size:Fact->Nat
 |.mk _ _ _ _ _ k=>1+Fact.sizes k
def Fact.sizes:List Fact->Nat
 |[]=>0
 |f::l=>f.size+Fact.sizes l
end
theorem Fact.size_eq(f:Fact):f.size=1+Fact.sizes f.ah:=by cases f;rw[Fact.size];rfl
theorem Fact.sizes_len: ∀l:List Fact,l.length<=Fact.sizes l
 |[]=>by simp
 |f::l=>by
  have:=Fact.sizes_len l
  rw[Fact.sizes,Fact.size_eq];simp;omega
theorem Fact.sizes_mem: ∀{l:List Fact}{x:Fact},x∈l->x.size<=Fact.sizes l
 |[],_,h=>by cases h
 |f::l,x,h=>by
  rw[Fact.sizes]
  rcases aY.1 h with rfl|h
  ·omega
  ·have:=Fact.sizes_mem h;omega
theorem Fact.kid_size{f:Fact}{k:Nat}(h:k<f.ah.length):(f.ah[k]).size<f.size:=by
 have:=Fact.sizes_mem (aJ h)
 rw[Fact.size_eq f];omega
theorem MG(f:Fact)(V:Sig)(hf:f.size<=1073741824:=by exact sd):
  au prog 51 [.agg (AS f)] V (rS (dI f.size) V):=by
 have fQ:=Fact.size_eq f
 have fU:=Fact.sizes_len f.ah
 refine en func51 ntmps51 ?_
 refine gz ?_
 refine AB [2,7,8,18] (fun (k:Nat) (m:Nat)=>k<=f.ah.length/\m+Fact.sizes (f.ah.drop k)=f.size) (fun k m=>[(9,dI k),(3,dI m)]) (fun _ _=>V) (fun k _=>f.ah.length-k) (0) (1) (by simp;omega) (fun k m hI=>?_)
 obtain⟨hk,hR⟩:=hI
 by_cases h:k<f.ah.length
 ·rw[A2 h,Fact.sizes]at hR
  repeat' first|refine gz ?_|refine Aq (MG (f.ah[k]) V (by omega)) ?_|refine callP (MG (f.ah[k]) V (by omega)) ?_|refine gz ?_|apply gy<;>intro hh
  exact⟨k+1,m+(f.ah[k]).size,by omega,td1,wkR⟩
 ·rw[A1 h,Fact.sizes]at hR
  refine gz ?_
  (refine fin1 (S':=V) ?_;exact⟨by first|rfl|(simp[hR.symm];done)|(simp_all [hR.symm];done)|(rw[A5,aO];simp_all [hR.symm]<;>omega),rfl⟩)
termination_by SizeOf.sizeOf f
decreasing_by exact Fact.lt (aJ _)
@[reducible,instance] def a51:=fun f V=>ah1 (@MG f V)
def mx(x y:Int):Int:=if y>x then y else x
theorem mx_eq(x y:Int):mx x y=max x y:=by unfold mx;split<;>omega
def C9(o:Int):Bool:=decide (o=2)||decide (o=3)||decide (o=4)
mutual
def Fact.speaks:Fact->Int
 |.mk o a _ _ _ k=>Fact.speakss k (if C9 o then IntKind.i64.wrap (a+1) else 0)
def Fact.speakss:List Fact->Int->Int
 |[],n=>n
 |f::l,n=>Fact.speakss l (mx n f.speaks)
end
theorem Fact.speaks_eq(f:Fact):f.speaks=Fact.speakss f.ah (if C9 f.op then IntKind.i64.wrap (f.arg+1) else 0):=by cases f;rw[Fact.speaks];rfl
theorem Oh(f:Fact)(V:Sig):au prog 180 [.agg (AS f)] V (rS (.bool (C9 f.op)) V):=by
 refine en func180 ntmps180 ?_
 repeat' first|refine gz ?_|apply gy<;>intro hh
 any_goals (first|(refine fin1 (S':=V) ?_;exact⟨by first|rfl|(simp[C9,hh];done)|(simp_all [C9,hh];done)|(rw[A5,aO];simp_all [C9,hh]<;>omega),rfl⟩)|fail)
@[reducible,instance] def a180:=fun f V=>ah0 (@Oh f V)
theorem MC(f:Fact)(V:Sig)(hf:f.size<=1073741824:=by exact sd):
  au prog 88 [.agg (AS f)] V (rS (dI f.speaks) V):=by
 have fQ:=Fact.size_eq f
 have fU:=Fact.sizes_len f.ah
 have fW:=(Fact.speaks_eq f).symm
 have hL:C9 f.op=(decide (f.op=2)||decide (f.op=3)||decide (f.op=4)):=rfl
 refine en func88 ntmps88 ?_
 repeat' first|refine gz ?_|apply gy<;>intro hh
 all_goals
  refine AB [2,23,24,34] (fun (k:Nat) (m:Int)=>k<=f.ah.length/\Fact.speakss (f.ah.drop k) m=f.speaks) (fun k m=>[(25,dI k),(3,dI m)]) (fun _ _=>V) (fun k _=>f.ah.length-k) (0) ((if C9 f.op then IntKind.i64.wrap (f.arg+1) else 0)) (by exact⟨by omega,fW⟩) (fun k m hI=>?_)
  obtain⟨hk,hR⟩:=hI
  clear hL
  by_cases h:k<f.ah.length
  ·rw[A2 h,Fact.speakss]at hR
   have f0:=Fact.kid_size h
   repeat' first|refine gz ?_|refine Aq (MC (f.ah[k]) V (by omega)) ?_|refine callP (MC (f.ah[k]) V (by omega)) ?_|refine gz ?_|apply gy<;>intro hh
   have hm:mx m (f.ah[k]).speaks=if m<(f.ah[k]).speaks then(f.ah[k]).speaks else m:=rfl
   exact⟨k+1,mx m (f.ah[k]).speaks,⟨by omega,hR⟩,td1,wkR⟩
  ·rw[A1 h,Fact.speakss]at hR
   refine gz ?_
   exact fe1 hR
termination_by SizeOf.sizeOf f
decreasing_by all_goals exact Fact.lt (aJ _)
@[reducible,instance] def a88:=fun f V=>ah1 (@MC f V)
theorem MB(f:Fact)(V:Sig)(hf:f.size<=1073741824:=by exact sd):
  au prog 92 [.agg (AS f)] V (rS (dI f.speaks) V):=by
 have fQ:=Fact.size_eq f
 have fU:=Fact.sizes_len f.ah
 have fW:=(Fact.speaks_eq f).symm
 refine en func92 ntmps92 ?_
 cases hL:C9 f.op
 all_goals
  refine gf hL ?_
  refine AB [2,12,13,23] (fun (k:Nat) (m:Int)=>k<=f.ah.length/\Fact.speakss (f.ah.drop k) m=f.speaks) (fun k m=>[(14,dI k),(3,dI m)]) (fun _ _=>V) (fun k _=>f.ah.length-k) (0) ((if C9 f.op then IntKind.i64.wrap (f.arg+1) else 0)) (by exact⟨by omega,fW⟩) (fun k m hI=>?_)
  obtain⟨hk,hR⟩:=hI
  by_cases h:k<f.ah.length
  ·rw[A2 h,Fact.speakss]at hR
   have f0:=Fact.kid_size h
   repeat' first|refine gz ?_|refine Aq (MB (f.ah[k]) V (by omega)) ?_|refine callP (MB (f.ah[k]) V (by omega)) ?_|refine gz ?_|apply gy<;>intro hh
   have hm:mx m (f.ah[k]).speaks=if m<(f.ah[k]).speaks then(f.ah[k]).speaks else m:=rfl
   exact⟨k+1,mx m (f.ah[k]).speaks,⟨by omega,hR⟩,td1,wkR⟩
  ·rw[A1 h,Fact.speakss]at hR
   refine gz ?_
   exact fe1 hR
termination_by SizeOf.sizeOf f
decreasing_by all_goals exact Fact.lt (aJ _)
@[reducible,instance] def a92:=fun f V=>ah1 (@MB f V)
mutual
def Fact.depth:Fact->Int
 |.mk _ _ _ _ _ k=>Fact.depths k 0+1
def Fact.depths:List Fact->Int->Int
 |[],n=>n
 |f::l,n=>Fact.depths l (mx n f.depth)
end
theorem Fact.depth_eq(f:Fact):f.depth=Fact.depths f.ah 0+1:=by cases f;rw[Fact.depth];rfl
mutual
theorem Fact.depth_le: ∀f:Fact,1<=f.depth/\f.depth<=f.size
 |.mk _ _ _ _ _ k=>by
  have:=Fact.depths_le k 0 (dC 0)
  rw[Fact.depth,Fact.size]
  simp;omega
theorem Fact.depths_le: ∀(l:List Fact) (n:Int),0<=n->n<=Fact.depths l n/\Fact.depths l n<=max n (Fact.sizes l)
 |[],n,h=>by simp[Fact.depths,Fact.sizes];omega
 |f::l,n,h=>by
  have h1:=Fact.depth_le f
  have h2:=Fact.depths_le l (mx n f.depth) (by rw[mx_eq];omega)
  rw[Fact.depths,Fact.sizes]
  rw[mx_eq]at h2⊢
  simp only[fq]
  omega
end
theorem K8(f:Fact)(V:Sig)(hf:f.size<=1073741824:=by exact sd):
  au prog 178 [.agg (AS f)] V (rS (dI f.depth) V):=by
 have fQ:=Fact.size_eq f
 have fU:=Fact.sizes_len f.ah
 have hd:=Fact.depth_le f
 have gx:=(Fact.depth_eq f).symm
 refine en func178 ntmps178 ?_
 refine gz ?_
 refine AB [2,7,8,18,19] (fun (k:Nat) (m:Int)=>k<=f.ah.length/\Fact.depths (f.ah.drop k) m+1=f.depth) (fun k m=>[(9,dI k),(3,dI m)]) (fun _ _=>V) (fun k _=>f.ah.length-k) (0) (0) (by exact⟨by omega,gx⟩) (fun k m hI=>?_)
 obtain⟨hk,hR⟩:=hI
 by_cases h:k<f.ah.length
 ·rw[A2 h,Fact.depths]at hR
  have f0:=Fact.kid_size h
  repeat' first|refine gz ?_|refine Aq (K8 (f.ah[k]) V (by omega)) ?_|refine callP (K8 (f.ah[k]) V (by omega)) ?_|refine gz ?_|apply gy<;>intro hh
  have hm:mx m (f.ah[k]).depth=if m<(f.ah[k]).depth then(f.ah[k]).depth else m:=rfl
  exact⟨k+1,mx m (f.ah[k]).depth,⟨by omega,hR⟩,td1,wkR⟩
 ·rw[A1 h,Fact.depths]at hR
  refine gz ?_
  exact fe1 hR
termination_by SizeOf.sizeOf f
decreasing_by all_goals exact Fact.lt (aJ _)
@[reducible,instance] def a178:=fun f V=>ah1 (@K8 f V)
theorem Vy(p:aF)(V:Sig)(hl:p.aa.length<=1073741824:=by exact sd):
  au prog 128 [.agg (Bd p)] V (rS (sl (cS (p.aa.map (·.name)))) V):=by
 refine en func128 ntmps128 ?_
 refine gz ?_
 refine Bv 3 1 (fun i hi=>?_)
 refine AB [1,2,21] (fun (k:Nat) (out:fD)=>k<=p.aa.length/\out.length=k/\out++(p.aa.drop k).map (·.name)=p.aa.map (·.name)) (fun k out=>[(4,dI k),(3,.slice (cS out) (.tag i))]) (fun _ out=>V.set i (.tail 1 out.length)) (fun k _=>p.aa.length-k) (0) ([]) (by simp) (fun k out hI=>?_)
 obtain⟨hk,ho,hR⟩:=hI
 by_cases h:k<p.aa.length
 ·rw[A2 h]at hR
  refine gz ?_
  exact⟨k+1,out++[(p.aa[k]).name],⟨by omega,by simp[ho],by rw[aT];exact hR⟩,td1,wkR⟩
 ·rw[A1 h]at hR
  simp at hR
  refine gz ?_
  exact finS (S':=V) (es:=cS out) ⟨by rw[hR],rfl⟩
@[reducible,instance] def a128:=fun p V=>ah1 (@Vy p V)
theorem QB(p:aw)(V:Sig)(hl:p.aa.length<=1073741824:=by exact sd)(hp:∀c∈p.aa,c.ag.length<=1073741824:=by exact sd):
  au prog 31 [.agg (Ai p)] V (rS (sl (cII (p.aa.map (·.ag)))) V):=by
 refine en func31 ntmps31 ?_
 refine gz ?_
 refine Bv 3 1 (fun i hi=>?_)
 refine AB [1,2,22] (fun (k:Nat) (out:fI)=>k<=p.aa.length/\out.length=k/\out++(p.aa.drop k).map (·.ag)=p.aa.map (·.ag)) (fun k out=>[(4,dI k),(3,.slice (cII out) (.tag i))]) (fun _ out=>V.set i (.tail 1 out.length)) (fun k _=>p.aa.length-k) (0) ([]) (by simp) (fun k out hI=>?_)
 obtain⟨hk,ho,hR⟩:=hI
 by_cases h:k<p.aa.length
 ·rw[A2 h]at hR
  have fX:=hp _ (aJ h)
  refine gz ?_
  refine appK ?_
  refine gz ?_
  exact⟨k+1,out++[(p.aa[k]).ag],⟨by omega,by simp[ho],by rw[aT];exact hR⟩,td1,wkR⟩
 ·rw[A1 h]at hR
  simp at hR
  refine gz ?_
  exact finS (S':=V) (es:=cII out) ⟨by rw[hR],rfl⟩
@[reducible,instance] def a31:=fun p V=>ah2 (@QB p V)
theorem E7{xs bs:fE}(h:WkL xs bs):WkD (.agg xs) (.agg bs):=by
 rintro g v ⟨vs,e,r⟩
 exact⟨vs,e,h.rep r⟩
def ownersF:List ax->Nat->fF
 |[],_=>[]
 |c::r,i=>List.replicate c.ae.length ((i:Int)+3)++ownersF r (i+1)
def AK(p:aw):World:=⟨p.aa.map (·.ag),ownersF p.aa 0⟩
theorem UX(l:fH)(o:Own)(V:Sig):
  au prog 198 [.slice l o] V (rS (.slice l .clip) V):=by
 refine en func198 ntmps198 ?_
 refine gz ?_
 exact fe1 trivial
@[reducible,instance] def a198:=fun l o V=>ah0 (@UX l o V)
theorem Kb(c:ax)(V:Sig)(hl:c.ag.length<=1073741824:=by exact sd):
  au prog 117 [.agg (cBClass c)] V (rS (sl (cI c.ag)) V):=by
 refine en func117 ntmps117 ?_
 repeat' first|refine gz ?_|refine Aq (HD (cI c.ag) .no V (by simpa using hl) (BY _)) ?_|refine callP (HD (cI c.ag) .no V (by simpa using hl) (BY _)) ?_|refine gz ?_|apply gy<;>intro hh
 exact fe1 trivial
@[reducible,instance] def a117:=fun c V=>ah1 (@Kb c V)
theorem VE(l:List ax)(V:Sig)(hl:l.length<=1073741824:=by exact sd)(hp:∀c∈l,c.ag.length<=1073741824:=by exact sd):
  au prog 116 [sl (l.map cBClass),.func (.func 117) [] []] V (rS (sl (cII (l.map (·.ag)))) V):=by
 refine en func116 ntmps116 ?_
 refine gz ?_
 refine Bv 5 1 (fun i hi=>?_)
 refine AB [1,4,8,9,21,22] (fun (k:Nat) (out:fI)=>k<=l.length/\out.length=k/\out++(l.drop k).map (·.ag)=l.map (·.ag)) (fun k out=>[(10,dI k),(5,.slice (cII out) (.tag i))]) (fun _ out=>V.set i (.tail 1 out.length)) (fun k _=>l.length-k) (0) ([]) (by simp) (fun k out hI=>?_)
 obtain⟨hk,ho,hR⟩:=hI
 by_cases h:k<l.length
 ·rw[A2 h]at hR
  have fX:=hp _ (aJ h)
  repeat' first|refine Aq (Kb (l[k]) _ fX) ?_|refine callP (Kb (l[k]) _ fX) ?_|refine gz ?_|apply gy<;>intro hh
  exact⟨k+1,out++[(l[k]).ag],⟨by omega,by simp[ho],by rw[aT];exact hR⟩,td1,wkR⟩
 ·rw[A1 h]at hR
  simp at hR
  refine gz ?_
  exact finS (S':=V) (es:=cII out) ⟨by rw[hR],rfl⟩ ((Sub.refl _).set hi)
@[reducible,instance] def a116:=fun l V=>ah2 (@VE l V)
theorem Xh(p:aw)(V:Sig)(hl:p.aa.length<=1073741824:=by exact sd)(hp:∀c∈p.aa,c.ag.length<=1073741824:=by exact sd):
  au prog 49 [.agg (Ai p)] V (rS (sl (cII (p.aa.map (·.ag)))) V):=by
 refine en func49 ntmps49 ?_
 refine gz ?_
 exact fe1 trivial
@[reducible,instance] def a49:=fun p V=>ah2 (@Xh p V)
def ownF(p:aw)(c:Int):Bool:=decide (3<=c)&&decide (c<3+p.aa.length)
mutual
def Fact.cnt:Fact->Int->Int
 |.mk _ _ _ _ _ k,most=>Fact.cnts k most 1
def Fact.cnts:List Fact->Int->Int->Int
 |[],_,n=>n
 |f::l,most,n=>if n<=most then Fact.cnts l most (n+f.cnt (most-n)) else n
end
theorem Fact.cnt_eq(f:Fact)(most:Int):f.cnt most=Fact.cnts f.ah most 1:=by cases f;rw[Fact.cnt];rfl
mutual
theorem Fact.cnt_le: ∀(f:Fact) (most:Int),1<=f.cnt most/\f.cnt most<=f.size
 |.mk _ _ _ _ _ k,most=>by
  have:=Fact.cnts_le k most 1
  rw[Fact.cnt,Fact.size]
  simp only[fq]
  omega
theorem Fact.cnts_le: ∀(l:List Fact) (most n:Int),n<=Fact.cnts l most n/\Fact.cnts l most n<=n+Fact.sizes l
 |[],most,n=>by simp[Fact.cnts,Fact.sizes]
 |f::l,most,n=>by
  have h1:=Fact.cnt_le f (most-n)
  have h2:=Fact.cnts_le l most (n+f.cnt (most-n))
  rw[Fact.cnts,Fact.sizes]
  simp only[fq]
  split<;>omega
end
theorem Ka(f:Fact)(most:Int)(V:Sig)(hf:f.size<=1073741824:=by exact sd)(h1 : -2147483648<=most:=by exact sd)(h2:most<=1073741824:=by exact sd):
  au prog 133 [.agg (AS f),dI most] V (rS (dI (f.cnt most)) V):=by
 have fQ:=Fact.size_eq f
 have fU:=Fact.sizes_len f.ah
 have gB:=Fact.cnt_le f most
 have f6:=(Fact.cnt_eq f most).symm
 refine en func133 ntmps133 ?_
 refine gz ?_
 refine AB [1,2,4,30] (fun (k:Nat) (m:Int)=>k<=f.ah.length/\1<=m/\Fact.cnts (f.ah.drop k) most m=f.cnt most) (fun k m=>[(6,dI k),(5,dI m)]) (fun _ _=>V) (fun k _=>f.ah.length-k) (0) (1) (by exact⟨by omega,by omega,f6⟩) (fun k m hI=>?_)
 obtain⟨hk,hm,hR⟩:=hI
 have gH:=Fact.cnts_le (f.ah.drop k) most m
 by_cases h:k<f.ah.length
 ·rw[A2 h,Fact.cnts]at hR
  have f0:=Fact.kid_size h
  have gJ:=Fact.cnt_le (f.ah[k]) (most-m)
  by_cases e7:m<=most
  ·rw[aS e7]at hR
   have gu:=Fact.cnts_le (f.ah.drop (k+1)) most (m+(f.ah[k]).cnt (most-m))
   repeat' first|refine gz ?_|refine Aq (Ka (f.ah[k]) (most-m) V (by omega) (by omega) (by omega)) ?_|refine callP (Ka (f.ah[k]) (most-m) V (by omega) (by omega) (by omega)) ?_|refine gz ?_|apply gy<;>intro hh
   exact⟨k+1,m+(f.ah[k]).cnt (most-m),⟨by omega,by omega,hR⟩,td1,wkR⟩
  ·rw[aN e7]at hR
   refine gz ?_
   exact fe1 hR
 ·rw[A1 h,Fact.cnts]at hR
  refine gz ?_
  exact fe1 hR
termination_by SizeOf.sizeOf f
decreasing_by exact Fact.lt (aJ _)
@[reducible,instance] def a133:=fun f most V=>ah3 (@Ka f most V)
theorem Xf(f:Fact)(V:Sig)(hf:f.size<=1073741824:=by exact sd):au prog 54 [.agg (AS f)] V (rS (dI (f.cnt 24)) V):=by
 refine en func54 ntmps54 ?_
 refine gz ?_
 exact fe1 trivial
@[reducible,instance] def a54:=fun f V=>ah1 (@Xf f V)
theorem Xl(a b:World)(V:Sig)(hl:a.ag.length<=1073741824:=by exact sd)(hp:∀l∈a.ag,l.length<=1073741824:=by exact sd)(ho:a.owner.length<=1073741824:=by exact sd):
  au prog 39 [.agg (C8 a),.agg (C8 b)] V (rS (.bool (a.ag==b.ag&&a.owner==b.owner)) V):=by
 refine en func39 ntmps39 ?_
 by_cases f7:a.ag.length=b.ag.length
 ·refine gz ?_ o39
  refine B5 [2,3,15,32,33,34,35,36] (fun (k:Nat)=>k<=a.ag.length/\(a.ag=b.ag ↔ a.ag.drop k=b.ag.drop k)) (fun k=>[(16,dI k)]) (fun _=>V) (fun k=>a.ag.length-k) (0) (by simp) (fun k hI=>?_)
  obtain⟨hk,hR⟩:=hI
  by_cases h:k<a.ag.length
  ·have gE:=hp _ (aJ h)
   rw[A2 h,A2 (l:=b.ag) (by omega),cD]at hR
   repeat' first|refine gz ?_ o39|apply gy<;>intro hh
   ·have:a.ag≠b.ag:=fun e=>by have:=(hR.1 e).1;simp_all
    exact fe1 this
   ·exact⟨k+1,⟨by omega,by rw[hR];simp_all⟩,td1,wkR⟩
  ·have he:a.ag=b.ag:=hR.2 (by rw[A1 (by omega),A1 (by omega)])
   refine gz ?_ o39
   exact fe1 he
 ·have:a.ag≠b.ag:=fun e=>f7 (by rw[e])
  refine gz ?_ o39
  exact fe1 this
section
variable {V:Sig}{r i j:Nat}{a:D}
def wS(V:Sig)(r i j:Nat)(a:D)(out:fF):Sig:=((V.set r (.cells [.ak,.ak])).set i (.tail 1 out.length)).set j (.cells [a,.slice (cI out) (.tag i)])
theorem wS_j(out:fF):wS V r i j a out j=some (.cells [a,.slice (cI out) (.tag i)]):=w7 ..
theorem wS_i(d7:i≠j)(out:fF):wS V r i j a out i=some (.tail 1 out.length):=by unfold wS;rw[w8 _ _ d7,w7]
theorem wS_r(fO:j≠r)(fP:i≠r)(out:fF):wS V r i j a out r=some (.cells [.ak,.ak]):=by unfold wS;rw[w8 _ _ (aQ fO),w8 _ _ (aQ fP),w7]
theorem SQ(d7:i≠j)(out:fF)(x:Int):((wS V r i j a out).set i (.tail 1 (out.length+1))).set j (.cells [a,.slice (cI out++[[dI x]]) (.tag i)])=wS V r i j a (out++[x]):=by
 unfold wS
 rw[Sig.set_comm _ _ _ (aQ d7),w9,w9]
 simp[cI]
theorem XU(d7:i≠j){x:DObj}:(((V.set r (.cells [.ak,.ak])).set j x).set i (.tail 1 0)).set j (.cells [a,.slice [] (.tag i)])=wS V r i j a []:=by
 unfold wS
 rw[Sig.set_comm _ _ _ (aQ d7),w9]
 simp[cI]
theorem XT(hr:V r=none)(hi:V i=none)(hj:V j=none)(out:fF):Sub V (wS V r i j a out):=by unfold wS;exact(((Sub.refl _).set hr).set hi).set hj
end
theorem IV(p:aw)(V:Sig)(hl:p.aa.length<=1073741824:=by exact sd)(hp:∀c∈p.aa,c.ag.length<=1073741824:=by exact sd)(fV:∀c∈p.aa,c.ae.length<=1073741824:=by exact sd)(ho:(ownersF p.aa 0).length<=1073741824:=by exact sd):
  au prog 71 [.agg (Ai p)] V (rS (.agg (C8 (AK p))) V):=by
 refine en func71 ntmps71 ?_
 refine gz ?_ [] [2,3]
 refine newV (fun r hr=>?_)
 refine gz ?_ [] [2,3]
 refine newV (fun j hj=>?_)
 obtain⟨fO,hj⟩:=A4 hj
 refine gz ?_ [] [2,3]
 refine Ak j 1 1 (w7 ..) rfl fun i hi=>?_
 obtain⟨d7,hi⟩:=A4 hi
 obtain⟨fP,hi⟩:=A4 hi
 simp only[w9,el,eZ]
 rw[XU d7]
 have hS:=fun out=>wS_j (V:=V) (r:=r) (i:=i) (j:=j) (a:=sl (cII (p.aa.map (·.ag)))) out
 have ga:=fun out=>wS_i (V:=V) (r:=r) (a:=sl (cII (p.aa.map (·.ag)))) d7 out
 have f9:=fun out=>wS_r (V:=V) (a:=sl (cII (p.aa.map (·.ag)))) fO fP out
 have fY:=fun out x=>SQ (V:=V) (r:=r) (a:=sl (cII (p.aa.map (·.ag)))) d7 out x
 have hne:=fun (s:Sig) (o:DObj)=>w8 s o (aQ d7)
 refine AB [1,2,3,34] (fun (k:Nat) (out:fF)=>k<=p.aa.length/\out++ownersF (p.aa.drop k) k=ownersF p.aa 0) (fun k _=>[(4,dI k)]) (fun _ out=>wS V r i j (sl (cII (p.aa.map (·.ag)))) out) (fun k _=>p.aa.length-k) (0) ([]) (by simp) (fun k out hI=>?_)
 obtain⟨hk,hR⟩:=hI
 by_cases h:k<p.aa.length
 ·rw[A2 h,ownersF]at hR
  have go:=fV _ (aJ h)
  refine gf hS ?_ [] [2,3]
  refine AB [1,2,3,4,9,10,11,12,13,14,15,34] (fun (q:Nat) (out:fF)=>q<=(p.aa[k]).ae.length/\out++(List.replicate ((p.aa[k]).ae.length-q) ((k:Int)+3)++ownersF (p.aa.drop (k+1)) (k+1))=ownersF p.aa 0) (fun q _=>[(5,dI q)]) (fun _ out=>wS V r i j (sl (cII (p.aa.map (·.ag)))) out) (fun q _=>(p.aa[k]).ae.length-q) (0) (out) (by simpa using hR) (fun q out hI=>?_)
  obtain⟨hq,hR⟩:=hI
  have hlen:out.length+((p.aa[k]).ae.length-q)<=1073741824:=by
   have:=bF List.length hR
   simp only[aH,bu]at this
   omega
  by_cases h':q<(p.aa[k]).ae.length
  ·refine gf (gi hS (gi ga (gi hne fY))) ?_ [] [2,3]
   exact⟨q+1,out++[(k:Int)+3],by refine⟨by omega,?_⟩;rw[<-hR];obtain⟨m,hm⟩:∃m,(p.aa[k]).ae.length-q=m+1:=⟨(p.aa[k]).ae.length-q-1,by omega⟩;rw[hm,show(p.aa[k]).ae.length-(q+1)=m by omega,cO];simp,td1,wkR⟩
  ·rw[show(p.aa[k]).ae.length-q=0 by omega]at hR
   refine gf hS ?_ [] [2,3]
   exact⟨k+1,out,⟨by omega,by simpa using hR⟩,td1,wkR⟩
 ·rw[A1 h,ownersF,bb]at hR
  refine gf (gi hS f9) ?_ [] [2,3]
  refine HG Af (ds:=[.agg [sl (cII (p.aa.map (·.ag))),.slice (cI out) (.tag i)]]) ?_ (E7 (by rw[hR];simp[AK])) (S':=V) (.set (XT hr hi hj out) hr) ⟨rfl,rfl⟩
  simp[f71]
@[reducible,instance] def a71:=fun p V=>ah4 (@IV p V)
theorem X7(p:aw)(V:Sig)(hl:p.aa.length<=1073741824:=by exact sd)(hp:∀c∈p.aa,c.ag.length<=1073741824:=by exact sd)(fV:∀c∈p.aa,c.ae.length<=1073741824:=by exact sd)(ho:(ownersF p.aa 0).length<=1073741824:=by exact sd):
  au prog 70 [.agg (Ai p)] V (rS (.agg (C8 (AK p))) V):=by
 refine en func70 ntmps70 ?_
 refine gz ?_ [] [2,3]
 refine newV (fun r hr=>?_)
 refine gz ?_ [] [2,3]
 refine newV (fun j hj=>?_)
 obtain⟨fO,hj⟩:=A4 hj
 refine gz ?_ [] [2,3]
 refine Ak j 1 1 (w7 ..) rfl fun i hi=>?_
 obtain⟨d7,hi⟩:=A4 hi
 obtain⟨fP,hi⟩:=A4 hi
 simp only[w9,el,eZ]
 rw[XU d7]
 have hS:=fun out=>wS_j (V:=V) (r:=r) (i:=i) (j:=j) (a:=sl (cII (p.aa.map (·.ag)))) out
 have ga:=fun out=>wS_i (V:=V) (r:=r) (a:=sl (cII (p.aa.map (·.ag)))) d7 out
 have f9:=fun out=>wS_r (V:=V) (a:=sl (cII (p.aa.map (·.ag)))) fO fP out
 have fY:=fun out x=>SQ (V:=V) (r:=r) (a:=sl (cII (p.aa.map (·.ag)))) d7 out x
 have hne:=fun (s:Sig) (o:DObj)=>w8 s o (aQ d7)
 refine AB [2,3,10,11,31] (fun (k:Nat) (out:fF)=>k<=p.aa.length/\out++ownersF (p.aa.drop k) k=ownersF p.aa 0) (fun k _=>[(12,dI k)]) (fun _ out=>wS V r i j (sl (cII (p.aa.map (·.ag)))) out) (fun k _=>p.aa.length-k) (0) ([]) (by simp) (fun k out hI=>?_)
 obtain⟨hk,hR⟩:=hI
 by_cases h:k<p.aa.length
 ·rw[A2 h,ownersF]at hR
  have go:=fV _ (aJ h)
  refine gf hS ?_ [] [2,3]
  refine AB [2,3,4,5,10,11,12,13,14,15,16,17,18,19,30,31] (fun (q:Nat) (out:fF)=>q<=(p.aa[k]).ae.length/\out++(List.replicate ((p.aa[k]).ae.length-q) ((k:Int)+3)++ownersF (p.aa.drop (k+1)) (k+1))=ownersF p.aa 0) (fun q _=>[(20,dI q)]) (fun _ out=>wS V r i j (sl (cII (p.aa.map (·.ag)))) out) (fun q _=>(p.aa[k]).ae.length-q) (0) (out) (by simpa using hR) (fun q out hI=>?_)
  obtain⟨hq,hR⟩:=hI
  have hlen:out.length+((p.aa[k]).ae.length-q)<=1073741824:=by
   have:=bF List.length hR
   simp only[aH,bu]at this
   omega
  by_cases h':q<(p.aa[k]).ae.length
  ·refine gf (gi hS (gi ga (gi hne fY))) ?_ [] [2,3]
   exact⟨q+1,out++[(k:Int)+3],by refine⟨by omega,?_⟩;rw[<-hR];obtain⟨m,hm⟩:∃m,(p.aa[k]).ae.length-q=m+1:=⟨(p.aa[k]).ae.length-q-1,by omega⟩;rw[hm,show(p.aa[k]).ae.length-(q+1)=m by omega,cO];simp,td1,wkR⟩
  ·rw[show(p.aa[k]).ae.length-q=0 by omega]at hR
   refine gf hS ?_ [] [2,3]
   exact⟨k+1,out,⟨by omega,by simpa using hR⟩,td1,wkR⟩
 ·rw[A1 h,ownersF,bb]at hR
  refine gf (gi hS f9) ?_ [] [2,3]
  refine HG Af (ds:=[.agg [sl (cII (p.aa.map (·.ag))),.slice (cI out) (.tag i)]]) ?_ (E7 (by rw[hR];simp[AK])) (S':=V) (.set (XT hr hi hj out) hr) ⟨rfl,rfl⟩
  simp[f70]
@[reducible,instance] def a70:=fun p V=>ah4 (@X7 p V)
def GF{α:Type}[DecidableEq α](l:List α)(s:List α):List α:=l.foldl (fun s x=>ins x s) s
def hasG(cs:List ax):Nat->fF->fF->fF
 |0,_,out=>out
 |n+1,up,out=>match cs[n]? with
  |some c=>if(n:Int)+3∈up then hasG cs n (GF c.ag up) (out++c.ae) else hasG cs n up out
  |none=>hasG cs n up out
def hasP(p:aw)(c:Int):fF:=F2 (hasG p.aa (c-2).toNat [c] [])
theorem H6(p:aw):wtL (fun c:ax=>c.ae.length) p.aa<p.wt:=by
 have:∀l:List ax,wtL (fun c:ax=>c.ae.length) l<=wtL ax.wt l:=fun l=>by
  induction l with
  |nil=>exact bm _
  |cons c l ih=>simp only[wtL,ax.wt];omega
 have:=this p.aa
 unfold aw.wt;omega
theorem IE{α:Type}(f:α->Nat)(l:List α)(n:Nat)(h:n<l.length):wtL f (l.take (n+1))=wtL f (l.take n)+f l[n]:=by
 rw[bE h,GI];simp[wtL]
theorem EY{α:Type}(f:α->Nat)(l:List α)(n:Nat):wtL f (l.take n)<=wtL f l:=by
 have:=GI f (l.take n) (l.drop n)
 rw[dA]at this;omega
theorem WK{V:Sig}{st:MR}{l:fF}(h:mOK V 1 st (cI l)):mOK V 1 st (cI (F2 l)):=by
 cases st with
 |none=>
  have:cI l=[]:=h
  have:l=[]:=by simpa[cI] using this
  subst this;rw[show F2 []=[] by simp[F2]];exact h
 |some x=>
  obtain⟨h1,h2,h3,h4⟩:=h
  have e:=Hi l
  refine⟨h1,?_,by simpa[e] using h3,BY _⟩
  rw[aH,Dc (BY _),Iu]at h2⊢
  omega
theorem Xc(p:aw)(c:Int)(V:Sig)(hp:p.wt<=1073741824:=by exact sd)(hc:3<=c:=by exact sd)(gL:c<3+p.aa.length:=by exact sd):au prog 62 [.agg (Ai p),dI c] V (rS (sl (cI (hasP p c))) V):=by
 obtain⟨p1,p2,p3,p4,p5,p6,p7⟩:=p.wt_le
 have ws:=H6 p
 refine en func62 ntmps62 ?_
 refine gz ?_
 refine newSI (fun i hi=>?_)
 refine gz ?_
 refine Po [2,4,5,45,46,47,48] (fun (n:Nat) (up:fF) (out:fF) (st:MR)=>n<=p.aa.length/\out.length+wtL (fun c:ax=>c.ae.length) (p.aa.take n)<=1073741824/\mOK (V.set i (.map (eSI up))) 1 st (cI out)/\F2 (hasG p.aa n up out)=hasP p c) (fun n _ out st=>[(7,dI (n+2)),(6,mD st out.length)]) (fun _ up out st=>mS (V.set i (.map (eSI up))) st (cI out)) (fun n _ _ _=>n) ((c-2).toNat) ([c]) ([]) (none) (by(refine⟨by omega,?_,rfl,rfl⟩;have:=EY (fun c:ax=>c.ae.length) p.aa (c-2).toNat;simp;omega)) (fun n up out st hI=>?_)
 obtain⟨hn,hlen,hm,hR⟩:=hI
 have hT:=fun k (h:k<p.aa.length)=>IE (fun c:ax=>c.ae.length) p.aa k h
 obtain⟨gG,gh,gg⟩:=mS_at hm
 rcases n with _|n
 ·rw[hasG]at hR
  refine gz ?_
  refine Ac (Vp out st _ hm (by simp[wtL]at hlen;omega)) (fun d S' hr=>?_) (fun d S' hr=>by cases hr.1)
  obtain⟨gr,rfl⟩:=hr
  cases gr
  have fR:=WK hm
  rw[<-Hi out]
  rw[hR]at fR⊢
  refine mfr 6 ?_ (hm:=fR)
  refine gz ?_
  exact fe1 (d':=sl (cI (hasP p c))) trivial
 ·have h:n<p.aa.length:=by omega
  have gN:=hT n h
  have hw:=p5 n h
  have gD:(p.aa[n]).wt=1+(p.aa[n]).ag.length+(p.aa[n]).ae.length+(p.aa[n]).ai.length:=rfl
  rw[hasG,aM h]at hR
  by_cases e9:(n:Int)+3∈up
  ·simp only[e9,bp]at hR
   have e3:(n:Int)+1+2=n+3:=by omega
   have gc:((n:Int)+1+2-3).toNat=n:=by omega
   refine gf (gi gh (gi gg (gi e9 (gi e3 gc)))) ?_
   refine mappI (fun st' fR=>?_)
   obtain⟨fZ,fM,fL⟩:=mS_at fR
   refine gf (gi fM (gi fL (gi e9 (gi e3 gc)))) ?_
   refine B5 [2,4,5,6,7,14,15,16,17,18,19,20,21,22,23,24,25,26,27,28,29,30,31,32,33,34,35,36,37,45,46,47,48] (fun (k:Nat)=>k<=(p.aa[n]).ag.length) (fun k=>[(38,dI k)]) (fun k=>mS (V.set i (.map (eSI (GF ((p.aa[n]).ag.take k) up)))) st' (cI (out++(p.aa[n]).ae))) (fun k=>(p.aa[n]).ag.length-k) (0) td3 (fun k hI=>?_)
   by_cases hk:k<(p.aa[n]).ag.length
   ·have hs:GF ((p.aa[n]).ag.take (k+1)) up=ins (p.aa[n]).ag[k] (GF ((p.aa[n]).ag.take k) up):=by unfold GF;rw[bE hk,List.foldl_append];rfl
    refine gf (gi fM fL) ?_
    rw[<-hs]
    exact⟨k+1,td2,td1,wkR⟩
   ·have hs:(p.aa[n]).ag.take k=(p.aa[n]).ag:=bA (by omega)
    rw[hs]
    have e2:(n:Int)+3-1=n+2:=by omega
    refine gf (gi e3 e2) ?_
    exact⟨n,GF (p.aa[n]).ag up,out++(p.aa[n]).ae,st',⟨by omega,by rw[aH];omega,fZ _,hR⟩,td1,wkR⟩
  ·simp only[e9,bd]at hR
   have e3:(n:Int)+1+2=n+3:=by omega
   have e2:(n:Int)+3-1=n+2:=by omega
   refine gf (gi gh (gi gg (gi e9 (gi e3 e2)))) ?_
   exact⟨n,up,out,st,⟨by omega,by omega,hm,hR⟩,td1,wkR⟩
@[reducible,instance] def a62:=fun p c V=>ah3 (@Xc p c V)
end Go.DL
namespace Go.DL
open Go.Proofs.Tryz
open Go Go.Proofs
set_option maxHeartbeats 4000000
theorem Xa(l:fH)(o:Own)(V:Sig):
  au prog 65 [.slice l o] V (rS (.slice l .clip) V):=by
 refine en func65 ntmps65 ?_
 refine gz ?_
 exact fe1 trivial
@[reducible,instance] def a65:=fun l o V=>ah0 (@Xa l o V)
theorem VG(l:fH)(o:Own)(V:Sig):
  au prog 114 [.slice l o] V (rS (.slice l .clip) V):=by
 refine en func114 ntmps114 ?_
 refine gz ?_
 exact fe1 trivial
@[reducible,instance] def a114:=fun l o V=>ah0 (@VG l o V)
theorem VF(l:fH)(o:Own)(V:Sig):
  au prog 115 [.slice l o] V (rS (.slice l .clip) V):=by
 refine en func115 ntmps115 ?_
 refine gz ?_
 exact fe1 trivial
@[reducible,instance] def a115:=fun l o V=>ah0 (@VF l o V)
theorem V1(l:fH)(o:Own)(V:Sig):
  au prog 192 [.slice l o] V (rS (.slice l .clip) V):=by
 refine en func192 ntmps192 ?_
 refine gz ?_
 exact fe1 trivial
@[reducible,instance] def a192:=fun l o V=>ah0 (@V1 l o V)
theorem V0(l:fH)(o:Own)(V:Sig):
  au prog 194 [.slice l o] V (rS (.slice l .clip) V):=by
 refine en func194 ntmps194 ?_
 refine gz ?_
 exact fe1 trivial
@[reducible,instance] def a194:=fun l o V=>ah0 (@V0 l o V)
theorem UM(l:fH)(o:Own)(V:Sig):
  au prog 215 [.slice l o] V (rS (.slice l .clip) V):=by
 refine en func215 ntmps215 ?_
 refine gz ?_
 exact fe1 trivial
@[reducible,instance] def a215:=fun l o V=>ah0 (@UM l o V)
theorem UA(l:fH)(o:Own)(V:Sig):
  au prog 245 [.slice l o] V (rS (.slice l .clip) V):=by
 refine en func245 ntmps245 ?_
 refine gz ?_
 exact fe1 trivial
@[reducible,instance] def a245:=fun l o V=>ah0 (@UA l o V)
theorem Uv(l:fH)(o:Own)(V:Sig):
  au prog 255 [.slice l o] V (rS (.slice l .clip) V):=by
 refine en func255 ntmps255 ?_
 refine gz ?_
 exact fe1 trivial
@[reducible,instance] def a255:=fun l o V=>ah0 (@Uv l o V)
theorem Uh(l:fH)(o:Own)(V:Sig):
  au prog 307 [.slice l o] V (rS (.slice l .clip) V):=by
 refine en func307 ntmps307 ?_
 refine gz ?_
 exact fe1 trivial
@[reducible,instance] def a307:=fun l o V=>ah0 (@Uh l o V)
theorem Oy(l:List aD)(h:aD->Str)(g:Nat)(cap:fE)(o:Own)(V:Sig)(hl:l.length<=1073741824)
  (hg:∀x∈l, ∀S',Sub V S'->au prog g ([]++[.agg (cFClass x)]++cap) S' fun r S''=>r=.ret (.str (h x))/\S''=S') :
  au prog 102 [.slice (l.map cFClass) o,.func (.func g) [] cap] V (rS (sl (cS (l.map h))) V):=by
 refine en func102 ntmps102 ?_
 refine gz ?_
 refine Bv 5 1 (fun i hi=>?_)
 refine AB [1,4,8,9,21,22] (fun (k:Nat) (out:fD)=>k<=l.length/\out++(l.drop k).map h=l.map h) (fun k out=>[(10,dI k),(5,.slice (cS out) (.tag i))]) (fun _ out=>V.set i (.tail 1 out.length)) (fun k _=>l.length-k) (0) ([]) (by simp) (fun k out hI=>?_)
 obtain⟨hk,hR⟩:=hI
 have hlen:=bF List.length hR
 simp at hlen
 by_cases hh:k<l.length
 ·rw[A2 hh]at hR
  repeat' first|refine Aq (hg (l[k]) (aJ hh) _ ((Sub.refl _).set hi)) ?_|refine callP (hg (l[k]) (aJ hh) _ ((Sub.refl _).set hi)) ?_|refine gf hh ?_|apply gy<;>intro hh
  exact⟨k+1,out++[h l[k]],⟨by omega,by rw[aT];exact hR⟩,td1,wkR⟩
 ·refine gf hh ?_
  rw[A1 hh]at hR
  simp at hR
  exact finS (S':=V) (es:=cS out) ⟨by rw[hR],rfl⟩
theorem VI(l:List aD)(h:aD->ax)(g:Nat)(cap:fE)(o:Own)(V:Sig)(hl:l.length<=1073741824)
  (hg:∀x∈l, ∀S',Sub V S'->au prog g ([]++[.agg (cFClass x)]++cap) S' fun r S''=>r=.ret (.agg (cBClass (h x)))/\S''=S') :
  au prog 105 [.slice (l.map cFClass) o,.func (.func g) [] cap] V (rS (sl ((l.map h).map cBClass)) V):=by
 refine en func105 ntmps105 ?_
 refine gz ?_
 refine Bv 5 3 (fun i hi=>?_)
 refine AB [1,4,8,9,21,22] (fun (k:Nat) (out:List ax)=>k<=l.length/\out++(l.drop k).map h=l.map h) (fun k out=>[(10,dI k),(5,.slice (out.map cBClass) (.tag i))]) (fun _ out=>V.set i (.tail 3 out.length)) (fun k _=>l.length-k) (0) ([]) (by simp) (fun k out hI=>?_)
 obtain⟨hk,hR⟩:=hI
 have hlen:=bF List.length hR
 simp at hlen
 by_cases hh:k<l.length
 ·rw[A2 hh]at hR
  repeat' first|refine Aq (hg (l[k]) (aJ hh) _ ((Sub.refl _).set hi)) ?_|refine callP (hg (l[k]) (aJ hh) _ ((Sub.refl _).set hi)) ?_|refine gf hh ?_|apply gy<;>intro hh
  exact⟨k+1,out++[h l[k]],⟨by omega,by rw[aT];exact hR⟩,td1,wkR⟩
 ·refine gf hh ?_
  rw[A1 hh]at hR
  simp at hR
  exact finS (S':=V) (es:=out.map cBClass) ⟨by rw[hR],rfl⟩
theorem G1(l:fD)(h:Str->Int)(g:Nat)(cap:fE)(o:Own)(V:Sig)(hl:l.length<=1073741824)
  (hg:∀x∈l, ∀S',Sub V S'->au prog g ([]++[.str x]++cap) S' fun r S''=>r=.ret (dI (h x))/\S''=S') :
  au prog 107 [.slice (cS l) o,.func (.func g) [] cap] V (rS (sl (cI (l.map h))) V):=by
 refine en func107 ntmps107 ?_
 refine gz ?_
 refine Bv 5 1 (fun i hi=>?_)
 refine AB [1,4,8,9,21,22] (fun (k:Nat) (out:fF)=>k<=l.length/\out++(l.drop k).map h=l.map h) (fun k out=>[(10,dI k),(5,.slice (cI out) (.tag i))]) (fun _ out=>V.set i (.tail 1 out.length)) (fun k _=>l.length-k) (0) ([]) (by simp) (fun k out hI=>?_)
 obtain⟨hk,hR⟩:=hI
 have hlen:=bF List.length hR
 simp at hlen
 by_cases hh:k<l.length
 ·rw[A2 hh]at hR
  repeat' first|refine Aq (hg (l[k]) (aJ hh) _ ((Sub.refl _).set hi)) ?_|refine callP (hg (l[k]) (aJ hh) _ ((Sub.refl _).set hi)) ?_|refine gf hh ?_|apply gy<;>intro hh
  exact⟨k+1,out++[h l[k]],⟨by omega,by rw[aT];exact hR⟩,td1,wkR⟩
 ·refine gf hh ?_
  rw[A1 hh]at hR
  simp at hR
  exact finS (S':=V) (es:=cI out) ⟨by rw[hR],rfl⟩
theorem Ow(l:List aG)(h:aG->Init)(g:Nat)(cap:fE)(o:Own)(V:Sig)(hl:l.length<=1073741824)
  (hg:∀x∈l, ∀S',Sub V S'->au prog g ([]++[.agg (Dh x)]++cap) S' fun r S''=>r=.ret (.agg (Dg (h x)))/\S''=S') :
  au prog 110 [.slice (l.map Dh) o,.func (.func g) [] cap] V (rS (sl ((l.map h).map Dg)) V):=by
 refine en func110 ntmps110 ?_
 refine gz ?_
 refine Bv 5 2 (fun i hi=>?_)
 refine AB [1,4,8,9,21,22] (fun (k:Nat) (out:List Init)=>k<=l.length/\out++(l.drop k).map h=l.map h) (fun k out=>[(10,dI k),(5,.slice (out.map Dg) (.tag i))]) (fun _ out=>V.set i (.tail 2 out.length)) (fun k _=>l.length-k) (0) ([]) (by simp) (fun k out hI=>?_)
 obtain⟨hk,hR⟩:=hI
 have hlen:=bF List.length hR
 simp at hlen
 by_cases hh:k<l.length
 ·rw[A2 hh]at hR
  repeat' first|refine Aq (hg (l[k]) (aJ hh) _ ((Sub.refl _).set hi)) ?_|refine callP (hg (l[k]) (aJ hh) _ ((Sub.refl _).set hi)) ?_|refine gf hh ?_|apply gy<;>intro hh
  exact⟨k+1,out++[h l[k]],⟨by omega,by rw[aT];exact hR⟩,td1,wkR⟩
 ·refine gf hh ?_
  rw[A1 hh]at hR
  simp at hR
  exact finS (S':=V) (es:=out.map Dg) ⟨by rw[hR],rfl⟩
theorem K9(l:fF)(h:Int->Str)(g:Nat)(cap:fE)(o:Own)(V:Sig)(hl:l.length<=1073741824)
  (hg:∀x∈l, ∀S',Sub V S'->au prog g ([]++[dI x]++cap) S' fun r S''=>r=.ret (.str (h x))/\S''=S') :
  au prog 137 [.slice (cI l) o,.func (.func g) [] cap] V (rS (sl (cS (l.map h))) V):=by
 refine en func137 ntmps137 ?_
 refine gz ?_
 refine Bv 5 1 (fun i hi=>?_)
 refine AB [1,4,8,9,21,22] (fun (k:Nat) (out:fD)=>k<=l.length/\out++(l.drop k).map h=l.map h) (fun k out=>[(10,dI k),(5,.slice (cS out) (.tag i))]) (fun _ out=>V.set i (.tail 1 out.length)) (fun k _=>l.length-k) (0) ([]) (by simp) (fun k out hI=>?_)
 obtain⟨hk,hR⟩:=hI
 have hlen:=bF List.length hR
 simp at hlen
 by_cases hh:k<l.length
 ·rw[A2 hh]at hR
  repeat' first|refine Aq (hg (l[k]) (aJ hh) _ ((Sub.refl _).set hi)) ?_|refine callP (hg (l[k]) (aJ hh) _ ((Sub.refl _).set hi)) ?_|refine gf hh ?_|apply gy<;>intro hh
  exact⟨k+1,out++[h l[k]],⟨by omega,by rw[aT];exact hR⟩,td1,wkR⟩
 ·refine gf hh ?_
  rw[A1 hh]at hR
  simp at hR
  exact finS (S':=V) (es:=cS out) ⟨by rw[hR],rfl⟩
theorem Vu(l:List Init)(h:Init->aG)(g:Nat)(cap:fE)(o:Own)(V:Sig)(hl:l.length<=1073741824)
  (hg:∀x∈l, ∀S',Sub V S'->au prog g ([]++[.agg (Dg x)]++cap) S' fun r S''=>r=.ret (.agg (Dh (h x)))/\S''=S') :
  au prog 140 [.slice (l.map Dg) o,.func (.func g) [] cap] V (rS (sl ((l.map h).map Dh)) V):=by
 refine en func140 ntmps140 ?_
 refine gz ?_
 refine Bv 5 2 (fun i hi=>?_)
 refine AB [1,4,8,9,21,22] (fun (k:Nat) (out:List aG)=>k<=l.length/\out++(l.drop k).map h=l.map h) (fun k out=>[(10,dI k),(5,.slice (out.map Dh) (.tag i))]) (fun _ out=>V.set i (.tail 2 out.length)) (fun k _=>l.length-k) (0) ([]) (by simp) (fun k out hI=>?_)
 obtain⟨hk,hR⟩:=hI
 have hlen:=bF List.length hR
 simp at hlen
 by_cases hh:k<l.length
 ·rw[A2 hh]at hR
  repeat' first|refine Aq (hg (l[k]) (aJ hh) _ ((Sub.refl _).set hi)) ?_|refine callP (hg (l[k]) (aJ hh) _ ((Sub.refl _).set hi)) ?_|refine gf hh ?_|apply gy<;>intro hh
  exact⟨k+1,out++[h l[k]],⟨by omega,by rw[aT];exact hR⟩,td1,wkR⟩
 ·refine gf hh ?_
  rw[A1 hh]at hR
  simp at hR
  exact finS (S':=V) (es:=out.map Dh) ⟨by rw[hR],rfl⟩
theorem UK(l:List Fact)(h:Fact->aC)(g:Nat)(cap:fE)(o:Own)(V:Sig)(hl:l.length<=1073741824)
  (hg:∀x∈l, ∀S',Sub V S'->au prog g ([]++[.agg (AS x)]++cap) S' fun r S''=>r=.ret (.agg (B6 (h x)))/\S''=S') :
  au prog 217 [.slice (l.map AS) o,.func (.func g) [] cap] V (rS (sl ((l.map h).map B6)) V):=by
 refine en func217 ntmps217 ?_
 refine gz ?_
 refine Bv 5 6 (fun i hi=>?_)
 refine AB [1,4,8,9,21,22] (fun (k:Nat) (out:List aC)=>k<=l.length/\out++(l.drop k).map h=l.map h) (fun k out=>[(10,dI k),(5,.slice (out.map B6) (.tag i))]) (fun _ out=>V.set i (.tail 6 out.length)) (fun k _=>l.length-k) (0) ([]) (by simp) (fun k out hI=>?_)
 obtain⟨hk,hR⟩:=hI
 have hlen:=bF List.length hR
 simp at hlen
 by_cases hh:k<l.length
 ·rw[A2 hh]at hR
  repeat' first|refine Aq (hg (l[k]) (aJ hh) _ ((Sub.refl _).set hi)) ?_|refine callP (hg (l[k]) (aJ hh) _ ((Sub.refl _).set hi)) ?_|refine gf hh ?_|apply gy<;>intro hh
  exact⟨k+1,out++[h l[k]],⟨by omega,by rw[aT];exact hR⟩,td1,wkR⟩
 ·refine gf hh ?_
  rw[A1 hh]at hR
  simp at hR
  exact finS (S':=V) (es:=out.map B6) ⟨by rw[hR],rfl⟩
theorem Us(l:fD)(s:Str)(o:Own)(V:Sig)(hl:l.length<=1073741824):
  au prog 277 [.slice (cS l) o,.str s] V (rS (dI (idxG s l 0)) V):=by
 refine en func277 ntmps277 ?_
 refine gz ?_
 refine B5 [0,1,7] (fun (k:Nat)=>k<=l.length/\idxG s l 0=idxG s (l.drop k) k) (fun k=>[(8,dI k)]) (fun _=>V) (fun k=>l.length-k) (0) td3 (fun k hI=>?_)
 obtain⟨hk,hR⟩:=hI
 by_cases hh:k<l.length
 ·rw[A2 hh,idxG]at hR
  repeat' first|refine gf hh ?_|apply gy<;>intro hh
  ·exact fe1 hR
  ·exact⟨k+1,⟨by omega,by rw[hR,aN (aQ (by assumption))]⟩,td1,wkR⟩
 ·refine gf hh ?_
  (refine fin1 (S':=V) ?_;exact⟨by first|rfl|(simp[hR,A1 hh,idxG];done)|(simp_all [hR,A1 hh,idxG];done)|(rw[A5,aO];simp_all [hR,A1 hh,idxG]<;>omega),rfl⟩)
@[reducible,instance] def a277:=fun l s o V=>ah1 (@Us l s o V)
theorem UB(l:fD)(s:Str)(o:Own)(V:Sig)(hl:l.length<=1073741824):
  au prog 238 [.slice (cS l) o,.str s] V (rS (.bool (decide (0<=idxG s l 0))) V):=by
 refine en func238 ntmps238 ?_
 refine gz ?_
 exact fe1 trivial
theorem US(l:fD)(s:Str)(o:Own)(V:Sig)(hl:l.length<=1073741824):
  au prog 204 [.slice (cS l) o,.str s] V (rS (.bool (decide (0<=idxG s l 0))) V):=by
 refine en func204 ntmps204 ?_
 refine gz ?_
 exact fe1 trivial
theorem IP{α:Type}[DecidableEq α](s:α): ∀(l:List α) (k:Nat),(0<=idxG s l k) ↔ s∈l
 |[],_=>by simp[idxG]
 | x::r,k=>by
  rw[idxG]
  by_cases h:x=s
  ·simp[h]
  ·rw[aN h,IP s r (k+1)]
   simp[aQ h]
end Go.DL
namespace Go.DL
open Go.Proofs.Tryz
open Go Go.Proofs
set_option maxHeartbeats 8000000
theorem WP{α:Type}[DecidableEq α](s:α)(l:List α):decide (0<=idxG s l 0)=decide (s∈l):=by
 rw[aO];simp only[aL];exact IP s l 0
theorem U8(l:fF)(s:Int)(o:Own)(V:Sig)(hl:l.length<=1073741824:=by exact sd):
  au prog 89 [.slice (cI l) o,dI s] V (rS (.bool (decide (s∈l))) V):=by
 rw[<-WP];exact WY l s o V hl
instance (priority:=high) a89m (l:fF) (s:Int) (o:Own) (V:Sig):Ans 89 [.slice (cI l) o,dI s] V ((l.length<=1073741824)) (.bool (decide (s∈l))):=⟨fun hl=>U8 l s o V (hl:=hl)⟩
theorem Ud(l:fF)(s:Int)(o:Own)(V:Sig)(hl:l.length<=1073741824:=by exact sd):
  au prog 32 [.slice (cI l) o,dI s] V (rS (.bool (decide (s∈l))) V):=by
 rw[<-bZ];exact Xq l s o V hl
instance (priority:=high) a32m (l:fF) (s:Int) (o:Own) (V:Sig):Ans 32 [.slice (cI l) o,dI s] V ((l.length<=1073741824)) (.bool (decide (s∈l))):=⟨fun hl=>Ud l s o V (hl:=hl)⟩
theorem RK(l:fD)(s:Str)(o:Own)(V:Sig)(hl:l.length<=1073741824:=by exact sd):
  au prog 238 [.slice (cS l) o,.str s] V (rS (.bool (decide (s∈l))) V):=by
 have e:decide (0<=idxG s l 0)=decide (s∈l):=by rw[aO];simp only[aL];exact IP s l 0
 rw[<-e];exact UB l s o V hl
instance (priority:=high) a238m (l:fD) (s:Str) (o:Own) (V:Sig):Ans 238 [.slice (cS l) o,.str s] V ((l.length<=1073741824)) (.bool (decide (s∈l))):=⟨fun hl=>RK l s o V (hl:=hl)⟩
theorem RS(l:fD)(s:Str)(o:Own)(V:Sig)(hl:l.length<=1073741824:=by exact sd):
  au prog 204 [.slice (cS l) o,.str s] V (rS (.bool (decide (s∈l))) V):=by
 have e:decide (0<=idxG s l 0)=decide (s∈l):=by rw[aO];simp only[aL];exact IP s l 0
 rw[<-e];exact US l s o V hl
instance (priority:=high) a204m (l:fD) (s:Str) (o:Own) (V:Sig):Ans 204 [.slice (cS l) o,.str s] V ((l.length<=1073741824)) (.bool (decide (s∈l))):=⟨fun hl=>RS l s o V (hl:=hl)⟩
theorem UJ(l:fF)(n:Int)(o:Own)(V:Sig)(hl:l.length<=1073741824:=by exact sd):
  au prog 222 [.slice (cI l) o,dI n] V fun x S'=>x=.ret (sl (cI (l.filter fun x=> !decide (x=n))))/\S'=V:=by
 refine en func222 ntmps222 ?_
 refine gz ?_
 refine Bv 5 1 (fun i hi=>?_)
 refine AB [0,1,4,26] (fun (k:Nat) (out:fF)=>k<=l.length/\out.length<=k/\out++(l.drop k).filter (fun x=> !decide (x=n))=l.filter (fun x=> !decide (x=n))) (fun k out=>[(6,dI k),(5,.slice (cI out) (.tag i))]) (fun _ out=>V.set i (.tail 1 out.length)) (fun k _=>l.length-k) (0) ([]) (by simp) (fun k out hI=>?_)
 obtain⟨hk,hlen,hR⟩:=hI
 by_cases h:k<l.length
 ·rw[A2 h,cu]at hR
  repeat' first|refine gz ?_|apply gy<;>intro hh
  ·exact⟨k+1,out++[l[k]],by refine⟨by omega,by simp;omega,?_⟩;rw[<-hR];simp[hh],td1,wkR⟩
  ·exact⟨k+1,out,by refine⟨by omega,by omega,?_⟩;rw[<-hR];simp[hh],td1,wkR⟩
 ·rw[A1 h]at hR
  simp at hR
  refine gz ?_
  exact finS (S':=V) (es:=cI out) ⟨by rw[hR],rfl⟩
@[reducible,instance] def a222:=fun l n o V=>ah1 (@UJ l n o V)
theorem UI(l:fI)(c:Int)(o:Own)(V:Sig)(hl:l.length<=1073741824:=by exact sd)(fN:∀x∈l,x.length<=1073741824:=by exact sd):
  au prog 223 [.slice (cII l) o,dI c] V fun x S'=>x=.ret (.bool (l.all fun x=> !decide (c∈x.tail)))/\S'=V:=by
 refine en func223 ntmps223 ?_
 refine gz ?_
 refine B5 [0,1] (fun (k:Nat)=>k<=l.length/\l.all (fun x=> !decide (c∈x.tail))=(l.drop k).all (fun x=> !decide (c∈x.tail))) (fun k=>[(5,dI k)]) (fun _=>V) (fun k=>l.length-k) (0) (by simp) (fun k hI=>?_)
 obtain⟨hk,hR⟩:=hI
 by_cases h:k<l.length
 ·have hx:=fN _ (aJ h)
  rw[A2 h,bV]at hR
  by_cases h0:l[k].length=0
  ·have he:l[k]=[]:=bC.1 h0
   refine gz ?_
   exact⟨k+1,⟨by omega,by rw[hR,he];simp⟩,td1,wkR⟩
  ·repeat' first|refine gz ?_|apply gy<;>intro hh
   ·exact fe1 hR
   ·exact⟨k+1,⟨by omega,by rw[hR];simp_all⟩,td1,wkR⟩
 ·rw[A1 h]at hR
  refine gz ?_
  exact fe1 hR
@[reducible,instance] def a223:=fun l c o V=>ah2 (@UI l c o V)
def DI(i:Nat):fF->fF->Bool
 |_,[]=>true
 |seen,p::r=>(decide (3<=p/\p<3+i)&&!decide (p∈seen))&&DI i (seen++[p]) r
def Ib(i:Nat)(l:fF):Bool:=decide (l.length<=3)&&DI i [] l
def Cm:Nat->fI->Bool
 |_,[]=>true
 |i,l::r=>Ib i l&&Cm (i+1) r
def Bu(g:fI):Bool:=decide (g.length<=16)&&Cm 0 g
theorem AH{α:Type}{l:List α}{k:Nat}(h:k<l.length):l.take (k+1)=l.take k++[l[k]]:=by rw[bE h]
theorem UW(g:fI)(o:Own)(V:Sig)(hl:g.length<=1073741824:=by exact sd)(fN:∀x∈g,x.length<=1073741824:=by exact sd):
  au prog 199 [.slice (cII g) o] V (rS (.bool (Bu g)) V):=by
 refine en func199 ntmps199 ?_
 by_cases gC:16<g.length
 ·refine gz ?_
  (refine fin1 (S':=V) ?_;exact⟨by first|rfl|(simp[Bu];done)|(simp_all [Bu];done)|(rw[A5,aO];simp_all [Bu]<;>omega),rfl⟩)
 refine gz ?_
 refine B5 [10,11] (fun (k:Nat)=>k<=g.length/\Bu g=Cm k (g.drop k)) (fun k=>[(12,dI k)]) (fun _=>V) (fun k=>g.length-k) (0) (by exact⟨by omega,by simp[Bu];omega⟩) (fun k hI=>?_)
 obtain⟨hk,hR⟩:=hI
 by_cases h:k<g.length
 ·have hx:=fN _ (aJ h)
  rw[A2 h,Cm,Ib]at hR
  by_cases h3:3<g[k].length
  ·refine gz ?_
   exact fe1 hR
  ·have gb:decide (g[k].length<=3)=true:=by simp;omega
   rw[gb,aW]at hR
   refine gz ?_
   refine B5 [3,4,10,11,12,13,14,15,16,17,18,19,20,21,43] (fun (q:Nat)=>q<=g[k].length/\Bu g=(DI k (g[k].take q) (g[k].drop q)&&Cm (k+1) (g.drop (k+1)))) (fun q=>[(22,dI q)]) (fun _=>V) (fun q=>g[k].length-q) (0) (by exact⟨by omega,by simpa using hR⟩) (fun q hI=>?_)
   obtain⟨hq,d6⟩:=hI
   by_cases h':q<g[k].length
   ·rw[A2 h',DI,<-AH h']at d6
    repeat' first|refine gz ?_|apply gy<;>intro hh
    ·have hn:¬(3<=g[k][q]/\g[k][q]<3+(k:Int)):=by omega
     rw[aV hn]at d6
     exact fe1 d6
    ·have hn:¬(3<=g[k][q]/\g[k][q]<3+(k:Int)):=by omega
     rw[aV hn]at d6
     exact fe1 d6
    ·exact fe1 d6
    ·exact⟨q+1,⟨by omega,by rw[d6];simp_all⟩,td1,wkR⟩
   ·rw[A1 h',DI]at d6
    refine gz ?_
    exact⟨k+1,⟨by omega,by simpa using d6⟩,td1,wkR⟩
 ·rw[A1 h,Cm]at hR
  refine gz ?_
  exact fe1 hR
@[reducible,instance] def a199:=fun g o V=>ah2 (@UW g o V)
theorem V9(g:fI)(o:Own)(V:Sig)(hl:g.length<=1073741824:=by exact sd)(fN:∀x∈g,x.length<=1073741824:=by exact sd):
  au prog 175 [.slice (cII g) o] V (rS (.bool (Bu g)) V):=by
 refine en func175 ntmps175 ?_
 by_cases gC:16<g.length
 ·refine gz ?_ o175
  (refine fin1 (S':=V) ?_;exact⟨by first|rfl|(simp[Bu];done)|(simp_all [Bu];done)|(rw[A5,aO];simp_all [Bu]<;>omega),rfl⟩)
 refine gz ?_ o175
 refine B5 [0] (fun (k:Nat)=>k<=g.length/\Bu g=Cm k (g.drop k)) (fun k=>[(3,dI k)]) (fun _=>V) (fun k=>g.length-k) (0) (by exact⟨by omega,by simp[Bu];omega⟩) (fun k hI=>?_)
 obtain⟨hk,hR⟩:=hI
 by_cases h:k<g.length
 ·have hx:=fN _ (aJ h)
  rw[A2 h,Cm,Ib]at hR
  by_cases h3:3<g[k].length
  ·refine gz ?_ o175
   exact fe1 hR
  ·have gb:decide (g[k].length<=3)=true:=by simp;omega
   rw[gb,aW]at hR
   refine gz ?_ o175
   refine B5 [0,3,8,9,10,11,12,13,14,15,16,17,18,19] (fun (q:Nat)=>q<=g[k].length/\Bu g=(DI k (g[k].take q) (g[k].drop q)&&Cm (k+1) (g.drop (k+1)))) (fun q=>[(4,dI q)]) (fun _=>V) (fun q=>g[k].length-q) (0) (by exact⟨by omega,by simpa using hR⟩) (fun q hI=>?_)
   obtain⟨hq,d6⟩:=hI
   by_cases h':q<g[k].length
   ·rw[A2 h',DI,<-AH h']at d6
    repeat' first|refine gz ?_ o175|apply gy<;>intro hh
    ·have hn:¬(3<=g[k][q]/\g[k][q]<3+(k:Int)):=by omega
     rw[aV hn]at d6
     exact fe1 d6
    ·have hn:¬(3<=g[k][q]/\g[k][q]<3+(k:Int)):=by omega
     rw[aV hn]at d6
     exact fe1 d6
    ·exact fe1 d6
    ·exact⟨q+1,⟨by omega,by rw[d6];simp_all⟩,td1,wkR⟩
   ·rw[A1 h',DI]at d6
    refine gz ?_ o175
    exact⟨k+1,⟨by omega,by simpa using d6⟩,td1,wkR⟩
 ·rw[A1 h,Cm]at hR
  refine gz ?_ o175
  exact fe1 hR
def FV(all:fI)(c:Int):Bool:=all.all fun x=> !decide (c∈x.tail)
def EJ(all:fI):Bool->fI->Option Int×Bool
 |s,[]=>(none,s)
 |s,[]::r=>EJ all s r
 |_,(x::_)::r=>if FV all x then(some x,true) else EJ all true r
def EM:Nat->fI->fF->fF×Bool
 |0,_,out=>(out,false)
 |n+1,ls,out=>match EJ ls false ls with
  |(none,s)=>(out, !s)
  |(some c,_)=>EM n (ls.map fun l=>l.filter fun x=> !decide (x=c)) (out++[c])
def totL:fI->Nat
 |[]=>0
 |l::r=>l.length+totL r
def C5(ls:fI):fF×Bool:=EM (totL ls+1) ls []
theorem M7{l:fF}: ∀{ls:fI},l∈ls->l.length<=totL ls
 |x::r,h=>by
  rcases aY.1 h with rfl|h
  ·simp[totL]
  ·have:=M7 h;simp only[totL];omega
theorem EI{all:fI}{c:Int}{b:Bool}: ∀{s:Bool}{ls:fI},EJ all s ls=(some c,b)->∃l∈ls,c∈l
 |s,[],h=>by simp[EJ]at h
 |s,[]::r,h=>by
  rw[EJ]at h
  obtain⟨l,h1,h2⟩:=EI h
  exact⟨l,by simp[h1],h2⟩
 | s,(x::t)::r,h=>by
  rw[EJ]at h
  by_cases hf:FV all x=true
  ·rw[aS hf]at h
   exact⟨x::t,by simp,by simp only[da,bq]at h;simp[h.1]⟩
  ·rw[aN hf]at h
   obtain⟨l,h1,h2⟩:=EI h
   exact⟨l,by simp[h1],h2⟩
theorem SS(c:Int): ∀ls:fI,totL (ls.map fun l=>l.filter fun x=> !decide (x=c))<=totL ls
 |[]=>by simp[totL]
 |l::r=>by
  have:=SS c r
  have:=dT (fun x=> !decide (x=c)) l
  simp only[ba,totL];omega
theorem U1{c:Int}{l:fF}(h:c∈l):(l.filter fun x=> !decide (x=c)).length<l.length:=by
 induction l with
 |nil=>simp at h
 | cons x r ih =>
  have:=dT (fun x=> !decide (x=c)) r
  by_cases hx:x=c
  ·simp[hx];omega
  ·have hr:c∈r:=by rcases aY.1 h with rfl|h;exact absurd rfl hx;exact h
   have:=ih hr
   simp[hx];omega
theorem M8{c:Int}{l:fF}(hc:c∈l): ∀{ls:fI},l∈ls->totL (ls.map fun l=>l.filter fun x=> !decide (x=c))<totL ls
 | x::r,h=>by
  simp only[ba,totL]
  rcases aY.1 h with rfl|h
  ·have:=SS c r;have:=U1 hc;omega
  ·have:=M8 hc h
   have:=dT (fun x=> !decide (x=c)) x
   omega
theorem Vn(l:fI)(o:Own)(V:Sig)(hn:∀x∈l, ∀y∈x,0<=y)(hl:l.length<=1073741824:=by exact sd)(ht:totL l<=1073741824:=by exact sd):
  au prog 154 [.slice (cII l) o] V (rS (.tup [sl (cI (C5 l).1),.bool (C5 l).2]) V):=by
 refine en func154 ntmps154 ?_
 refine gz ?_
 refine Bv 4 1 (fun i hi=>?_)
 refine CK [] (fun (n:Nat) (ls:fI) (out:fF)=>totL ls<n/\out.length+totL ls<=1073741824/\ls.length=l.length/\(∀x∈ls, ∀y∈x,0<=y)/\EM n ls out=C5 l) (fun _ ls out=>[(0,.slice (cII ls) .no),(4,.slice (cI out) (.tag i))]) (fun _ _ out=>V.set i (.tail 1 out.length)) (fun n _ _=>n) (totL l+1) (l) ([]) (by exact⟨by omega,by simpa using ht,rfl,hn,rfl⟩) (fun n ls out hI=>?_)
 obtain⟨gF,hlen,gv,fK,hR⟩:=hI
 have gj:∀x∈ls,x.length<=1073741824:=fun x hx=>by have:=M7 hx;omega
 refine gz ?_
 refine CK [0,2,3,4,8,9,40,41,42,43,44,45,46,47,48,49,50,51,52,53,54,55,56,57,58,59,60,61,62,63,64] (fun (q:Nat) (cv:Int) (s:Bool)=>q<=ls.length /\ -1<=cv/\(cv<0->EJ ls false ls=EJ ls s (ls.drop q))/\(0<=cv->EJ ls false ls=(some cv,true))) (fun q cv s=>[(5,dI cv),(6,.bool s),(7,dI q)]) (fun _ _ _=>V.set i (.tail 1 out.length)) (fun q _ _=>ls.length-q) (0) (-1) (false) (by simp) (fun q cv s hI=>?_)
 obtain⟨hq,gK,hA,hB⟩:=hI
 have gA:cv = -1\/0<=cv:=by omega
 rcases gA with e8|e8
 ·subst e8
  replace hA:=hA (by omega)
  by_cases h:q<ls.length
  ·have hx:=gj _ (aJ h)
   have gk:=fK _ (aJ h)
   rw[A2 h]at hA
   rcases d8:ls[q]with _|⟨y,r⟩
   ·rw[d8,EJ]at hA
    refine gf d8 ?_
    exact⟨q+1, -1,s,⟨by omega,by omega,fun _=>hA,by omega⟩,td1,wkR⟩
   ·rw[d8,EJ]at hA
    have hy:0<=y:=gk y (by simp[d8])
    repeat' first|refine gf d8 ?_|apply gy<;>intro hh
    ·rw[aS (show FV ls y=true from hh)]at hA
     exact⟨q+1,y,true,⟨by omega,by omega,by omega,fun _=>hA⟩,td1,wkR⟩
    ·rw[show FV ls y=false from hh]at hA
     exact⟨q+1, -1,true,⟨by omega,by omega,fun _=>hA,by omega⟩,td1,wkR⟩
  ·rw[A1 h,EJ]at hA
   refine gz ?_
   obtain⟨m,rfl⟩:∃m,n=m+1:=⟨n-1,by omega⟩
   rw[EM,hA]at hR
   replace hR:C5 l=(out, !s):=hR.symm
   exact fe2 (d':=sl (cI out)) hR
 ·replace hB:=hB e8
  obtain⟨m,rfl⟩:∃m,n=m+1:=⟨n-1,by omega⟩
  rw[EM,hB]at hR
  replace hR:EM m (ls.map fun l=>l.filter fun x=> !decide (x=cv)) (out++[cv])=C5 l:=hR
  obtain⟨e,he,f6⟩:=EI hB
  have gI:=M8 f6 he
  have fJ:∀x∈ls.map (fun l=>l.filter fun x=> !decide (x=cv)), ∀y∈x,0<=y:=by
   intro x hx y hy
   obtain⟨z,hz,rfl⟩:=bO.1 hx
   exact fK z hz y (bH.1 hy).1
  by_cases h:q<ls.length
  all_goals
   refine gz ?_
   refine Bv 8 1 (fun j hj=>?_)
   refine AB [0,2,3,4,5,6,7,10,11,12,13,14,15,16,17,18,19,20,21,22,23,24,25,26,27,28,29,30,31,32,33,34,35,36,37,38,39,40,41,42,43,44,45,46,47,48,64] (fun (k:Nat) (acc:fI)=>k<=ls.length/\acc=(ls.take k).map fun l=>l.filter fun x=> !decide (x=cv)) (fun k acc=>[(9,dI k),(8,.slice (cII acc) (.tag j))]) (fun _ acc=>(V.set i (.tail 1 (out.length+1))).set j (.tail 1 acc.length)) (fun k _=>ls.length-k) (0) ([]) (by simp) (fun k acc hI=>?_)
   obtain⟨hk,d9⟩:=hI
   have gM:acc.length=k:=by rw[d9];simp;omega
   by_cases h':k<ls.length
   ·have hx:=gj _ (aJ h')
    refine gz ?_
    exact⟨k+1,acc++[(ls[k]).filter fun x=> !decide (x=cv)],⟨by omega,by rw[d9,AH h',bI];rfl⟩,td1,wkR⟩
   ·have gw:k=ls.length:=by omega
    rw[gw,dr]at d9
    subst d9
    have gn:Sub (V.set i (.tail 1 (out++[cv]).length)) ((V.set i (.tail 1 (out.length+1))).set j (.tail 1 (ls.map fun l=>l.filter fun x=> !decide (x=cv)).length)):=by rw[aH];exact(Sub.refl _).set (by assumption)
    refine gz ?_
    exact⟨m,(ls.map fun l=>l.filter fun x=> !decide (x=cv)),(out++[cv]),⟨by omega,by rw[aH,dh];omega,by simpa using gv,fJ,hR⟩,td1,wkR⟩
def unf:D:=.iface 236 (.agg [])
theorem X4(b:Bool)(V:Sig):au prog 81 [.bool b] V fun x S'=>x=(if b then .ret (.tup []) else .panic unf)/\S'=V:=by
 refine en func81 ntmps81 ?_
 cases b
 ·refine gz ?_
  refine pan ?_
  exact finP (S':=V) ⟨rfl,rfl⟩
 ·refine gz ?_
  exact Ef (S':=V) ⟨rfl,rfl⟩
@[reducible,instance] def a81:=fun b V=>gh0 (@X4 b V)
theorem Vs(l:fD)(o:Own)(V:Sig)(hl:l.length<=1073741824:=by exact sd):
  au prog 142 [.slice (cS l) o] V (rS (sl (cS l)) V):=by
 refine en func142 ntmps142 ?_
 refine gz ?_
 refine isN (fun b hb=>?_)
 repeat' first|refine gz ?_|apply gy<;>intro hh
 ·exact fe1 (d':=sl []) (hb hh)
 ·by_cases h:l=[]
  ·refine app0 ?_
   refine gz ?_
   exact fe1 (d':=sl []) h
  ·refine appC (fun i hi=>?_) (hne:=by simp[cS,h])
   refine gz ?_
   exact finS (S':=V) (es:=cS l) ⟨rfl,rfl⟩ ((Sub.refl _).set hi)
@[reducible,instance] def a142:=fun l o V=>ah1 (@Vs l o V)
theorem HB(l:fF)(q:Int->Bool)(g:Nat)(cap:fE)(o:Own)(V:Sig)(hl:l.length<=1073741824)
  (hg:∀x∈l, ∀S',Sub V S'->au prog g ([]++[dI x]++cap) S' fun r S''=>r=.ret (.bool (q x))/\S''=S') :
  au prog 283 [.slice (cI l) o,.func (.func g) [] cap] V (rS (sl (cI (l.filter q))) V):=by
 refine en func283 ntmps283 ?_
 refine gz ?_
 refine Bv 5 1 (fun i hi=>?_)
 refine AB [1,4,8,9,22] (fun (k:Nat) (out:fF)=>k<=l.length/\out.length<=k/\out++(l.drop k).filter q=l.filter q) (fun k out=>[(10,dI k),(5,.slice (cI out) (.tag i))]) (fun _ out=>V.set i (.tail 1 out.length)) (fun k _=>l.length-k) (0) ([]) (by simp) (fun k out hI=>?_)
 obtain⟨hk,hlen,hR⟩:=hI
 by_cases h:k<l.length
 ·rw[A2 h,cu]at hR
  repeat' first|refine Aq (hg (l[k]) (aJ h) _ ((Sub.refl _).set hi)) ?_|refine callP (hg (l[k]) (aJ h) _ ((Sub.refl _).set hi)) ?_|refine gz ?_|apply gy<;>intro hh
  ·exact⟨k+1,out++[l[k]],by refine⟨by omega,by simp;omega,?_⟩;rw[<-hR];simp[hh],td1,wkR⟩
  ·exact⟨k+1,out,by refine⟨by omega,by omega,?_⟩;rw[<-hR];simp[hh],td1,wkR⟩
 ·rw[A1 h]at hR
  simp at hR
  refine gz ?_
  exact finS (S':=V) (es:=cI out) ⟨by rw[hR],rfl⟩
theorem O6(c:Int)(V:Sig):au prog 305 [dI c] V (rS (.bool (!decide (c=0))) V):=by
 refine en func305 ntmps305 ?_
 refine gz ?_
 exact fe1 trivial
theorem Ur(l:fF)(o:Own)(V:Sig)(hl:l.length<=1073741824:=by exact sd):au prog 282 [.slice (cI l) o] V (rS (sl (cI (l.filter fun c=> !decide (c=0)))) V):=by
 refine en func282 ntmps282 ?_
 repeat' first|refine gz ?_|refine Aq (HB l (fun c=> !decide (c=0)) 305 [] o V hl (fun x _ S' _=>O6 x S')) ?_|refine callP (HB l (fun c=> !decide (c=0)) 305 [] o V hl (fun x _ S' _=>O6 x S')) ?_|refine gz ?_|apply gy<;>intro hh
 exact fe1 trivial
@[reducible,instance] def a282:=fun l o V=>ah1 (@Ur l o V)
theorem O8(c x:Int)(V:Sig):au prog 284 [dI c,.am [dI x] 0] V (rS (.bool (!decide (c=x))) V):=by
 refine en func284 ntmps284 ?_
 refine gz ?_
 exact fe1 trivial
end Go.DL
