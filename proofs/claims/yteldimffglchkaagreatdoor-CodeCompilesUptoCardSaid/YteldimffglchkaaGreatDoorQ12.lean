/- A part of the proof. -/
import Derived.Test.YteldimffglchkaaGreatDoorQ11
import Derived.Test.YteldimffglchkaaGreatDoorQ09
import Derived.Test.YteldimffglchkaaGreatDoorQ10
set_option linter.all false
namespace Go.DL
open Go.Proofs.Tryz
open Go Go.Proofs
set_option maxHeartbeats 8000000
def idxG{α:Type}[DecidableEq α](s:α):List α->Nat->Int
 |[],_=> -1
 |x::r,k=>if x=s then k else idxG s r (k+1)
theorem SB(l:List Int)(s:Int)(o:Own)(O:Sig)(hl:l.length<=1073741824:=by exact sd):
  DCall prog 244 [.slice (cI l) o,dI s] O (rS (dI (idxG s l 0)) O):=by
 refine en func244 ntmps244 ?_
 refine gz ?_
 refine C1 [0,1,7] (fun (k:Nat)=>k<=l.length/\idxG s l 0=idxG s (l.drop k) k) (fun k=>[(8,dI k)]) (fun _=>O) (fun k=>l.length-k) (0) (by simp) (fun k hI=>?_)
 obtain⟨hk,hR⟩:=hI
 by_cases h:k<l.length
 ·rw[A4 h,idxG]at hR
  repeat' first|refine gz ?_|apply gy<;>intro hh
  ·rw[if_pos hh.symm]at hR
   exact fe1 hR
  ·exact⟨k+1,⟨by omega,by rw[hR,if_neg (fun e=>hh e.symm)]⟩,td1,wkR⟩
 ·rw[A9 h,idxG]at hR
  refine gz ?_
  exact fe1 hR
@[reducible,instance] def a244:=fun l s o O=>ah1 (@SB l s o O)
theorem SM(l:List Int)(s:Int)(o:Own)(O:Sig)(hl:l.length<=1073741824:=by exact sd):
  DCall prog 206 [.slice (cI l) o,dI s] O (rS (.bool (decide (0<=idxG s l 0))) O):=by
 refine en func206 ntmps206 ?_
 refine gz ?_
 exact fe1 trivial
theorem SC(l:List (List D))(o:Own)(O:Sig):
  DCall prog 241 [.slice l o] O (rS (.slice l .clip) O):=by
 refine en func241 ntmps241 ?_
 refine gz ?_
 exact fe1 trivial
@[reducible,instance] def a241:=fun l o O=>ah0 (@SC l o O)
theorem V7(a b:List Int)(o o':Own)(O:Sig)(hl:a.length<=1073741824:=by exact sd):
  DCall prog 69 [.slice (cI a) o,.slice (cI b) o'] O (rS (.bool (a==b)) O):=by
 refine en func69 ntmps69 ?_
 by_cases bi:a.length=b.length
 ·refine gz ?_ o69
  refine C1 [0,1,12] (fun (k:Nat)=>k<=a.length/\(a=b ↔ a.drop k=b.drop k)) (fun k=>[(13,dI k)]) (fun _=>O) (fun k=>a.length-k) (0) (by simp) (fun k hI=>?_)
  obtain⟨hk,hR⟩:=hI
  by_cases h:k<a.length
  ·rw[A4 h,A4 (l:=b) (by omega),List.cons.injEq]at hR
   repeat' first|refine gz ?_ o69|apply gy<;>intro hh
   ·have:a≠b:=fun e=>hh (hR.1 e).1
    exact fe1 this
   ·exact⟨k+1,⟨by omega,by rw[hR];simp_all⟩,td1,wkR⟩
  ·have:a=b:=hR.2 (by rw[A9 (by omega),A9 (by omega)])
   refine gz ?_ o69
   exact fe1 this
 ·have:a≠b:=fun e=>bi (by rw[e])
  refine gz ?_ o69
  exact fe1 this
@[reducible,instance] def a69:=fun a b o o' O=>ah1 (@V7 a b o o' O)
theorem He(l:List (List D))(o:Own)(O:Sig)(hl:l.length<=1073741824:=by exact sd)(hs:∀c∈l,c.length=1:=by exact sd):
  DCall prog 299 [.slice l o] O (rS (sl l) O):=by
 refine en func299 ntmps299 ?_
 refine gz ?_
 refine isN (fun b hb=>?_)
 repeat' first|refine gz ?_|apply gy<;>intro hh
 ·exact fe1 (d':=sl []) (hb hh)
 ·by_cases h:l=[]
  ·refine app0 ?_
   refine gz ?_
   exact fe1 (d':=sl []) h
  ·refine appC (fun i hi=>?_) (hne:=by simp[h]) (hlen':=hs)
   refine gz ?_
   exact finS (U':=O) (es:=l) ⟨rfl,rfl⟩ ((Sub.refl _).set hi)
theorem So(l:List Int)(s:Int)(o:Own)(O:Sig)(hl:l.length<=1073741824:=by exact sd):
  DCall prog 267 [.slice (cI l) o,dI s] O (rS (.bool (l.contains s)) O):=by
 refine en func267 ntmps267 ?_
 refine gz ?_
 refine C1 [0,1] (fun (k:Nat)=>k<=l.length/\(s∈l ↔ s∈l.drop k)) (fun k=>[(5,dI k)]) (fun _=>O) (fun k=>l.length-k) (0) (by simp) (fun k hI=>?_)
 obtain⟨hk,hR⟩:=hI
 by_cases h:k<l.length
 ·rw[A4 h,List.mem_cons]at hR
  repeat' first|refine gz ?_|apply gy<;>intro hh
  ·have:=hR.2 (.inl hh.symm)
   exact fe1 this
  ·exact⟨k+1,⟨by omega,by rw[hR];exact⟨fun e=>e.resolve_left fun e=>hh e.symm,.inr⟩⟩,td1,wkR⟩
 ·rw[A9 h]at hR
  refine gz ?_
  exact fe1 hR
def inB(n:Int):Bool:=decide (-1000000000<=n)&&decide (n<=1000000000)
theorem Sv(n:Int)(O:Sig):DCall prog 253 [dI n] O (rS (.bool (inB n)) O):=by
 refine en func253 ntmps253 ?_
 by_cases h : -1000000000<=n
 ·refine gz ?_
  (refine fin1 (U':=O) ?_;exact⟨by first|rfl|(simp[inB,h];done)|(simp_all [inB,h];done)|(rw[Ad,Bool.eq_iff_iff];simp_all [inB,h]<;>omega),rfl⟩)
 ·refine gz ?_
  (refine fin1 (U':=O) ?_;exact⟨by first|rfl|(simp[inB,h];done)|(simp_all [inB,h];done)|(rw[Ad,Bool.eq_iff_iff];simp_all [inB,h]<;>omega),rfl⟩)
@[reducible,instance] def a253:=fun n O=>ah0 (@Sv n O)
theorem SH(n:Int)(O:Sig):DCall prog 221 [dI n] O (rS (.bool (inB n)) O):=by
 refine en func221 ntmps221 ?_
 by_cases h : -1000000000<=n
 ·refine gz ?_
  (refine fin1 (U':=O) ?_;exact⟨by first|rfl|(simp[inB,h];done)|(simp_all [inB,h];done)|(rw[Ad,Bool.eq_iff_iff];simp_all [inB,h]<;>omega),rfl⟩)
 ·refine gz ?_
  (refine fin1 (U':=O) ?_;exact⟨by first|rfl|(simp[inB,h];done)|(simp_all [inB,h];done)|(rw[Ad,Bool.eq_iff_iff];simp_all [inB,h]<;>omega),rfl⟩)
@[reducible,instance] def a221:=fun n O=>ah0 (@SH n O)
theorem Ta(n:Int)(O:Sig):DCall prog 123 [dI n] O (rS (.bool (decide (n=1\/n=4))) O):=by
 refine en func123 ntmps123 ?_
 by_cases h:n=1
 ·refine gz ?_
  exact fe1 h
 ·refine gz ?_
  exact fe1 h
@[reducible,instance] def a123:=fun n O=>ah0 (@Ta n O)
mutual
def Fact.size:Fact->Nat
 |.mk _ _ _ _ _ k=>1+Fact.sizes k
def Fact.sizes:List Fact->Nat
 |[]=>0
 |f::l=>f.size+Fact.sizes l
end
theorem Fact.size_eq(f:Fact):f.size=1+Fact.sizes f.kids:=by cases f;rw[Fact.size];rfl
theorem Fact.sizes_len: ∀l:List Fact,l.length<=Fact.sizes l
 |[]=>by simp
 |f::l=>by
  have:=Fact.sizes_len l
  rw[Fact.sizes,Fact.size_eq];simp;omega
theorem Fact.sizes_mem: ∀{l:List Fact}{x:Fact},x∈l->x.size<=Fact.sizes l
 |[],_,h=>by cases h
 |f::l,x,h=>by
  rw[Fact.sizes]
  rcases List.mem_cons.1 h with rfl|h
  ·omega
  ·have:=Fact.sizes_mem h;omega
theorem Fact.kid_size{f:Fact}{k:Nat}(h:k<f.kids.length):(f.kids[k]).size<f.size:=by
 have:=Fact.sizes_mem (List.getElem_mem h)
 rw[Fact.size_eq f];omega
def mx(x y:Int):Int:=if y>x then y else x
theorem mx_eq(x y:Int):mx x y=max x y:=by unfold mx;split<;>omega
def Ct(o:Int):Bool:=decide (o=2)||decide (o=3)||decide (o=4)
mutual
def Fact.speaks:Fact->Int
 |.mk o a _ _ _ k=>Fact.speakss k (if Ct o then IntKind.i64.wrap (a+1) else 0)
def Fact.speakss:List Fact->Int->Int
 |[],n=>n
 |f::l,n=>Fact.speakss l (mx n f.speaks)
end
theorem Fact.speaks_eq(f:Fact):f.speaks=Fact.speakss f.kids (if Ct f.op then IntKind.i64.wrap (f.arg+1) else 0):=by cases f;rw[Fact.speaks];rfl
theorem MD(f:Fact)(O:Sig):DCall prog 225 [.agg (Ca f)] O (rS (.bool (Ct f.op)) O):=by
 refine en func225 ntmps225 ?_
 repeat' first|refine gz ?_|apply gy<;>intro hh
 any_goals (first|(refine fin1 (U':=O) ?_;exact⟨by first|rfl|(simp[Ct,hh];done)|(simp_all [Ct,hh];done)|(rw[Ad,Bool.eq_iff_iff];simp_all [Ct,hh]<;>omega),rfl⟩)|fail)
@[reducible,instance] def a225:=fun f O=>ah0 (@MD f O)
theorem Jq(f:Fact)(O:Sig)(hf:f.size<=1073741824:=by exact sd):
  DCall prog 205 [.agg (Ca f)] O (rS (dI f.speaks) O):=by
 have hsz:=Fact.size_eq f
 have aL:=Fact.sizes_len f.kids
 have aG:=(Fact.speaks_eq f).symm
 have hL:Ct f.op=(decide (f.op=2)||decide (f.op=3)||decide (f.op=4)):=rfl
 refine en func205 ntmps205 ?_
 repeat' first|refine gz ?_|apply gy<;>intro hh
 all_goals
  refine BX [2,23,24,34] (fun (k:Nat) (m:Int)=>k<=f.kids.length/\Fact.speakss (f.kids.drop k) m=f.speaks) (fun k m=>[(25,dI k),(3,dI m)]) (fun _ _=>O) (fun k _=>f.kids.length-k) (0) ((if Ct f.op then IntKind.i64.wrap (f.arg+1) else 0)) (by exact⟨by omega,aG⟩) (fun k m hI=>?_)
  obtain⟨hk,hR⟩:=hI
  clear hL
  by_cases h:k<f.kids.length
  ·rw[A4 h,Fact.speakss]at hR
   have aK:=Fact.kid_size h
   repeat' first|refine gz ?_|refine B9 (Jq (f.kids[k]) O (by omega)) ?_|refine callP (Jq (f.kids[k]) O (by omega)) ?_|refine gz ?_|apply gy<;>intro hh
   have hm:mx m (f.kids[k]).speaks=if m<(f.kids[k]).speaks then(f.kids[k]).speaks else m:=rfl
   exact⟨k+1,mx m (f.kids[k]).speaks,⟨by omega,hR⟩,td1,wkR⟩
  ·rw[A9 h,Fact.speakss]at hR
   refine gz ?_
   exact fe1 hR
termination_by SizeOf.sizeOf f
decreasing_by all_goals exact Fact.lt (List.getElem_mem _)
@[reducible,instance] def a205:=fun f O=>ah1 (@Jq f O)
theorem Js(f:Fact)(O:Sig)(hf:f.size<=1073741824:=by exact sd):
  DCall prog 146 [.agg (Ca f)] O (rS (dI f.speaks) O):=by
 have hsz:=Fact.size_eq f
 have aL:=Fact.sizes_len f.kids
 have aG:=(Fact.speaks_eq f).symm
 refine en func146 ntmps146 ?_
 cases hL:Ct f.op
 all_goals
  refine gf hL ?_
  refine BX [2,12,13,23] (fun (k:Nat) (m:Int)=>k<=f.kids.length/\Fact.speakss (f.kids.drop k) m=f.speaks) (fun k m=>[(14,dI k),(3,dI m)]) (fun _ _=>O) (fun k _=>f.kids.length-k) (0) ((if Ct f.op then IntKind.i64.wrap (f.arg+1) else 0)) (by exact⟨by omega,aG⟩) (fun k m hI=>?_)
  obtain⟨hk,hR⟩:=hI
  by_cases h:k<f.kids.length
  ·rw[A4 h,Fact.speakss]at hR
   have aK:=Fact.kid_size h
   repeat' first|refine gz ?_|refine B9 (Js (f.kids[k]) O (by omega)) ?_|refine callP (Js (f.kids[k]) O (by omega)) ?_|refine gz ?_|apply gy<;>intro hh
   have hm:mx m (f.kids[k]).speaks=if m<(f.kids[k]).speaks then(f.kids[k]).speaks else m:=rfl
   exact⟨k+1,mx m (f.kids[k]).speaks,⟨by omega,hR⟩,td1,wkR⟩
  ·rw[A9 h,Fact.speakss]at hR
   refine gz ?_
   exact fe1 hR
termination_by SizeOf.sizeOf f
decreasing_by all_goals exact Fact.lt (List.getElem_mem _)
@[reducible,instance] def a146:=fun f O=>ah1 (@Js f O)
mutual
def Fact.depth:Fact->Int
 |.mk _ _ _ _ _ k=>Fact.depths k 0+1
def Fact.depths:List Fact->Int->Int
 |[],n=>n
 |f::l,n=>Fact.depths l (mx n f.depth)
end
theorem Fact.depth_eq(f:Fact):f.depth=Fact.depths f.kids 0+1:=by cases f;rw[Fact.depth];rfl
mutual
theorem Fact.depth_le: ∀f:Fact,1<=f.depth/\f.depth<=f.size
 |.mk _ _ _ _ _ k=>by
  have:=Fact.depths_le k 0 (Int.le_refl 0)
  rw[Fact.depth,Fact.size]
  simp;omega
theorem Fact.depths_le: ∀(l:List Fact) (n:Int),0<=n->n<=Fact.depths l n/\Fact.depths l n<=max n (Fact.sizes l)
 |[],n,h=>by simp[Fact.depths,Fact.sizes];omega
 |f::l,n,h=>by
  have h1:=Fact.depth_le f
  have h2:=Fact.depths_le l (mx n f.depth) (by rw[mx_eq];omega)
  rw[Fact.depths,Fact.sizes]
  rw[mx_eq]at h2⊢
  simp only[Int.natCast_add]
  omega
end
theorem Jp(f:Fact)(O:Sig)(hf:f.size<=1073741824:=by exact sd):
  DCall prog 223 [.agg (Ca f)] O (rS (dI f.depth) O):=by
 have hsz:=Fact.size_eq f
 have aL:=Fact.sizes_len f.kids
 have hd:=Fact.depth_le f
 have be:=(Fact.depth_eq f).symm
 refine en func223 ntmps223 ?_
 refine gz ?_
 refine BX [2,7,8,18,19] (fun (k:Nat) (m:Int)=>k<=f.kids.length/\Fact.depths (f.kids.drop k) m+1=f.depth) (fun k m=>[(9,dI k),(3,dI m)]) (fun _ _=>O) (fun k _=>f.kids.length-k) (0) (0) (by exact⟨by omega,be⟩) (fun k m hI=>?_)
 obtain⟨hk,hR⟩:=hI
 by_cases h:k<f.kids.length
 ·rw[A4 h,Fact.depths]at hR
  have aK:=Fact.kid_size h
  repeat' first|refine gz ?_|refine B9 (Jp (f.kids[k]) O (by omega)) ?_|refine callP (Jp (f.kids[k]) O (by omega)) ?_|refine gz ?_|apply gy<;>intro hh
  have hm:mx m (f.kids[k]).depth=if m<(f.kids[k]).depth then(f.kids[k]).depth else m:=rfl
  exact⟨k+1,mx m (f.kids[k]).depth,⟨by omega,hR⟩,td1,wkR⟩
 ·rw[A9 h,Fact.depths]at hR
  refine gz ?_
  exact fe1 hR
termination_by SizeOf.sizeOf f
decreasing_by all_goals exact Fact.lt (List.getElem_mem _)
@[reducible,instance] def a223:=fun f O=>ah1 (@Jp f O)
theorem MQ(p:BProg)(O:Sig)(hl:p.classes.length<=1073741824:=by exact sd)(hp:∀c∈p.classes,c.parents.length<=1073741824:=by exact sd):
  DCall prog 129 [.agg (Ac p)] O (rS (sl (cII (p.classes.map (·.parents)))) O):=by
 refine en func129 ntmps129 ?_
 refine gz ?_
 refine Eg 3 1 (fun i hi=>?_)
 refine BX [1,2,22] (fun (k:Nat) (out:List (List Int))=>k<=p.classes.length/\out.length=k/\out++(p.classes.drop k).map (·.parents)=p.classes.map (·.parents)) (fun k out=>[(4,dI k),(3,.slice (cII out) (.tag i))]) (fun _ out=>O.set i (.tail 1 out.length)) (fun k _=>p.classes.length-k) (0) ([]) (by simp) (fun k out hI=>?_)
 obtain⟨hk,ho,hR⟩:=hI
 by_cases h:k<p.classes.length
 ·rw[A4 h]at hR
  have aB:=hp _ (List.getElem_mem h)
  refine gz ?_
  refine appK ?_
  refine gz ?_
  exact⟨k+1,out++[(p.classes[k]).parents],⟨by omega,by simp[ho],by rw[List.append_assoc];exact hR⟩,td1,wkR⟩
 ·rw[A9 h]at hR
  simp at hR
  refine gz ?_
  exact finS (U':=O) (es:=cII out) ⟨by rw[hR],rfl⟩
@[reducible,instance] def a129:=fun p O=>ah2 (@MQ p O)
theorem RH(f:Fact)(O:Sig):DCall prog 374 [.agg (Ca f)] O (rS (.bool (Ct f.op)) O):=by
 refine en func374 ntmps374 ?_
 repeat' first|refine gz ?_|apply gy<;>intro hh
 any_goals (first|(refine fin1 (U':=O) ?_;exact⟨by first|rfl|(simp[Ct];done)|(simp_all [Ct];done)|(rw[Ad,Bool.eq_iff_iff];simp_all [Ct]<;>omega),rfl⟩)|fail)
@[reducible,instance] def a374:=fun f O=>ah0 (@RH f O)
def C8(op:Int):Nat:=if op=5 then 1 else if op=6\/op=7 then 2 else 0
theorem RI(o:Int)(O:Sig):DCall prog 373 [dI o] O (rS (dI (C8 o)) O):=by
 refine en func373 ntmps373 ?_
 repeat' first|refine gz ?_|apply gy<;>intro hh
 any_goals (first|(refine fin1 (U':=O) ?_;exact⟨by first|rfl|(simp[C8];done)|(simp_all [C8];done)|(rw[Ad,Bool.eq_iff_iff];simp_all [C8]<;>omega),rfl⟩)|fail)
@[reducible,instance] def a373:=fun o O=>ah0 (@RI o O)
theorem Sp(b:Bool)(O:Sig):DCall prog 258 [.bool b] O (rS (dI (if b then 0 else 2)) O):=by
 refine en func258 ntmps258 ?_
 repeat' first|refine gz ?_|apply gy<;>intro hh
 any_goals (first|exact fe1 trivial|fail)
@[reducible,instance] def a258:=fun b O=>ah0 (@Sp b O)
theorem Jj(l:List (List Int))(c:Int)(o:Own)(O:Sig)(hl:l.length<=1073741824:=by exact sd)(hc:c<3+l.length:=by exact sd):
  DCall prog 353 [.slice (cII l) o,dI c] O (rS (sl (cI (if c<3 then [] else(l[(c-3).toNat]?).getD []))) O):=by
 refine en func353 ntmps353 ?_
 by_cases h:c<3
 ·repeat' first|refine gz ?_|apply gy<;>intro hh
  all_goals first|omega|skip
  exact fe1 (d':=sl []) h
 ·have h2:(c-3).toNat<l.length:=by omega
  repeat' first|refine gz ?_|apply gy<;>intro hh
  all_goals first|omega|skip
  exact fe1 (gi h h2)
@[reducible,instance] def a353:=fun l c o O=>ah2 (@Jj l c o O)
theorem Sn(w:World)(c:Int)(O:Sig)(hl:w.parents.length<=1073741824:=by exact sd):
  DCall prog 270 [.agg (DV w),dI c] O (rS (.bool (decide (0<=c/\c<3+w.parents.length))) O):=by
 refine en func270 ntmps270 ?_
 repeat' first|refine gz ?_|apply gy<;>intro hh
 any_goals (first|exact fe1 trivial|fail)
@[reducible,instance] def a270:=fun w c O=>ah1 (@Sn w c O)
theorem Sm(w:World)(l:List Int)(o:Own)(O:Sig)(hl:w.owner.length<=1073741824:=by exact sd)(am:l.length<=1073741824:=by exact sd):
  DCall prog 271 [.agg (DV w),.slice (cI l) o] O (rS (.bool (l.all (fun s=>decide (0<=s/\s<w.owner.length))&&decide (l.length<=2))) O):=by
 refine en func271 ntmps271 ?_
 refine gz ?_
 refine C1 [1,2,7,8,23,24,25] (fun (k:Nat)=>k<=l.length/\l.all (fun s=>decide (0<=s/\s<w.owner.length))=(l.drop k).all (fun s=>decide (0<=s/\s<w.owner.length))) (fun k=>[(9,dI k)]) (fun _=>O) (fun k=>l.length-k) (0) (by simp) (fun k hI=>?_)
 obtain⟨hk,hR⟩:=hI
 by_cases h:k<l.length
 ·rw[A4 h,List.all_cons]at hR
  repeat' first|refine gz ?_|apply gy<;>intro hh
  ·exact fe1 hR
  ·exact fe1 hR
  ·exact⟨k+1,⟨by omega,by rw[hR];simp_all⟩,td1,wkR⟩
 ·rw[A9 h]at hR
  refine gz ?_
  exact fe1 hR
def Gc(op:Int):Option Int:=
 if op=1\/op=2\/op=3\/op=6\/op=18 then some 0 else if op=4\/op=8\/op=17 then some 1 else
 if op=7\/op=9\/op=11\/op=12\/op=13\/op=14\/op=15\/op=16 then some 2 else if op=10 then some 3 else none
def BJ(p:BProg)(x:BNode):Int:=match Gc x.op with
 |some k=>k
 |none=>if x.op=5/\0<=x.n/\x.n<p.gens.length then p.gens.getD x.n.toNat 0 else -1
theorem I8{p:BProg}{x:BNode}(h:x.op=5):BJ p x=if 0<=x.n/\x.n<p.gens.length then p.gens.getD x.n.toNat 0 else -1:=by simp[BJ,Gc,h]
theorem SF(p:BProg)(x:BNode)(O:Sig)(hl:p.gens.length<=1073741824:=by exact sd):
  DCall prog 226 [.agg (Ac p),.agg (Gk x)] O (rS (dI (BJ p x)) O):=by
 refine en func226 ntmps226 ?_
 repeat' first|refine gz ?_|apply gy<;>intro hh
 any_goals (first|(refine fin1 (U':=O) ?_;exact⟨by first|rfl|(simp[BJ,Gc];done)|(simp_all [BJ,Gc];done)|(rw[Ad,Bool.eq_iff_iff];simp_all [BJ,Gc]<;>omega),rfl⟩)|fail)
 all_goals (refine fin1 (U':=O) ?_;refine⟨?_,rfl⟩;rw[I8 (by assumption)])
 all_goals first|(rw[if_neg (by omega)];done)|(rw[if_pos ⟨by assumption,by assumption⟩];simp)
@[reducible,instance] def a226:=fun p x O=>ah1 (@SF p x O)
def Bt(p:BProg)(x:BNode)(size:Int):Bool:=
 if x.op=1 then inB x.n else if x.op=3 then decide (0<=x.n/\x.n<size) else if x.op=4\/x.op=7 then decide (0<=x.n/\x.n<p.slots) else
 if x.op=5 then decide (0<=x.n/\x.n<p.gens.length) else if x.op=6\/x.op=8 then decide (3<=x.n/\x.n<3+p.classes.length) else decide (x.n=0)
theorem SE(p:BProg)(x:BNode)(size:Int)(O:Sig)(hl:p.gens.length<=1073741824:=by exact sd)(hc:p.classes.length<=1073741824:=by exact sd):
  DCall prog 227 [.agg (Ac p),.agg (Gk x),dI size] O (rS (.bool (Bt p x size)) O):=by
 refine en func227 ntmps227 ?_
 repeat' first|refine gz ?_|apply gy<;>intro hh
 any_goals (first|(refine fin1 (U':=O) ?_;exact⟨by first|rfl|(simp[Bt];done)|(simp_all [Bt];done)|(rw[Ad,Bool.eq_iff_iff];simp_all [Bt]<;>omega),rfl⟩)|fail)
theorem SQ(p:BProg)(x:BNode)(size:Int)(O:Sig)(hl:p.gens.length<=1073741824:=by exact sd)(hc:p.classes.length<=1073741824:=by exact sd):
  DCall prog 201 [.agg (Ac p),.agg (Gk x),dI size] O (rS (.bool (Bt p x size)) O):=by
 refine en func201 ntmps201 ?_
 repeat' first|refine gz ?_|apply gy<;>intro hh
 any_goals (first|(refine fin1 (U':=O) ?_;exact⟨by first|rfl|(simp[Bt];done)|(simp_all [Bt];done)|(rw[Ad,Bool.eq_iff_iff];simp_all [Bt]<;>omega),rfl⟩)|fail)
@[reducible,instance] def a201:=fun p x size O=>ah2 (@SQ p x size O)
def Ef(op:Int):D:=match Gc op with
 |some k=>.iface 276 (dI k)
 |none=>if op=5 then .iface 277 (.agg []) else .niliface
theorem SP(op:Int)(O:Sig):DCall prog 202 [dI op] O (rS (Ef op) O):=by
 refine en func202 ntmps202 ?_
 repeat' first|refine gz ?_|apply gy<;>intro hh
 any_goals (first|(refine fin1 (U':=O) ?_;exact⟨by first|rfl|(simp[Ef,Gc];done)|(simp_all [Ef,Gc];done)|(rw[Ad,Bool.eq_iff_iff];simp_all [Ef,Gc]<;>omega),rfl⟩)|fail)
@[reducible,instance] def a202:=fun op O=>ah0 (@SP op O)
theorem Nm{xs bs:List D}(h:WkL xs bs):WkD (.agg xs) (.agg bs):=by
 rintro g v ⟨vs,e,r⟩
 exact⟨vs,e,h.rep r⟩
def ownersF:List BClass->Nat->List Int
 |[],_=>[]
 |c::r,i=>List.replicate c.slots.length ((i:Int)+3)++ownersF r (i+1)
def Bq(p:BProg):World:=⟨p.classes.map (·.parents),ownersF p.classes 0⟩
theorem RR(l:List (List D))(o:Own)(O:Sig):
  DCall prog 341 [.slice l o] O (rS (.slice l .clip) O):=by
 refine en func341 ntmps341 ?_
 refine gz ?_
 exact fe1 trivial
@[reducible,instance] def a341:=fun l o O=>ah0 (@RR l o O)
theorem Jk(c:BClass)(O:Sig)(hl:c.parents.length<=1073741824:=by exact sd):
  DCall prog 298 [.agg (HU c)] O (rS (sl (cI c.parents)) O):=by
 refine en func298 ntmps298 ?_
 repeat' first|refine gz ?_|refine B9 (He (cI c.parents) .no O (by simpa using hl) (Ba _)) ?_|refine callP (He (cI c.parents) .no O (by simpa using hl) (Ba _)) ?_|refine gz ?_|apply gy<;>intro hh
 exact fe1 trivial
@[reducible,instance] def a298:=fun c O=>ah1 (@Jk c O)
theorem Sf(l:List BClass)(O:Sig)(hl:l.length<=1073741824:=by exact sd)(hp:∀c∈l,c.parents.length<=1073741824:=by exact sd):
  DCall prog 297 [sl (l.map HU),.func (.func 298) [] []] O (rS (sl (cII (l.map (·.parents)))) O):=by
 refine en func297 ntmps297 ?_
 refine gz ?_
 refine Eg 5 1 (fun i hi=>?_)
 refine BX [1,4,8,9,21,22] (fun (k:Nat) (out:List (List Int))=>k<=l.length/\out.length=k/\out++(l.drop k).map (·.parents)=l.map (·.parents)) (fun k out=>[(10,dI k),(5,.slice (cII out) (.tag i))]) (fun _ out=>O.set i (.tail 1 out.length)) (fun k _=>l.length-k) (0) ([]) (by simp) (fun k out hI=>?_)
 obtain⟨hk,ho,hR⟩:=hI
 by_cases h:k<l.length
 ·rw[A4 h]at hR
  have aB:=hp _ (List.getElem_mem h)
  repeat' first|refine B9 (Jk (l[k]) _ aB) ?_|refine callP (Jk (l[k]) _ aB) ?_|refine gz ?_|apply gy<;>intro hh
  exact⟨k+1,out++[(l[k]).parents],⟨by omega,by simp[ho],by rw[List.append_assoc];exact hR⟩,td1,wkR⟩
 ·rw[A9 h]at hR
  simp at hR
  refine gz ?_
  exact finS (U':=O) (es:=cII out) ⟨by rw[hR],rfl⟩ ((Sub.refl _).set hi)
@[reducible,instance] def a297:=fun l O=>ah2 (@Sf l O)
theorem Sy(p:BProg)(O:Sig)(hl:p.classes.length<=1073741824:=by exact sd)(hp:∀c∈p.classes,c.parents.length<=1073741824:=by exact sd):
  DCall prog 250 [.agg (Ac p)] O (rS (sl (cII (p.classes.map (·.parents)))) O):=by
 refine en func250 ntmps250 ?_
 refine gz ?_
 exact fe1 trivial
@[reducible,instance] def a250:=fun p O=>ah2 (@Sy p O)
def ownF(p:BProg)(c:Int):Bool:=decide (3<=c)&&decide (c<3+p.classes.length)
mutual
def Fact.cnt:Fact->Int->Int
 |.mk _ _ _ _ _ k,most=>Fact.cnts k most 1
def Fact.cnts:List Fact->Int->Int->Int
 |[],_,n=>n
 |f::l,most,n=>if n<=most then Fact.cnts l most (n+f.cnt (most-n)) else n
end
theorem Fact.cnt_eq(f:Fact)(most:Int):f.cnt most=Fact.cnts f.kids most 1:=by cases f;rw[Fact.cnt];rfl
mutual
theorem Fact.cnt_le: ∀(f:Fact) (most:Int),1<=f.cnt most/\f.cnt most<=f.size
 |.mk _ _ _ _ _ k,most=>by
  have:=Fact.cnts_le k most 1
  rw[Fact.cnt,Fact.size]
  simp only[Int.natCast_add]
  omega
theorem Fact.cnts_le: ∀(l:List Fact) (most n:Int),n<=Fact.cnts l most n/\Fact.cnts l most n<=n+Fact.sizes l
 |[],most,n=>by simp[Fact.cnts,Fact.sizes]
 |f::l,most,n=>by
  have h1:=Fact.cnt_le f (most-n)
  have h2:=Fact.cnts_le l most (n+f.cnt (most-n))
  rw[Fact.cnts,Fact.sizes]
  simp only[Int.natCast_add]
  split<;>omega
end
theorem Jl(f:Fact)(most:Int)(O:Sig)(hf:f.size<=1073741824:=by exact sd)(h1 : -2147483648<=most:=by exact sd)(h2:most<=1073741824:=by exact sd):
  DCall prog 269 [.agg (Ca f),dI most] O (rS (dI (f.cnt most)) O):=by
 have hsz:=Fact.size_eq f
 have aL:=Fact.sizes_len f.kids
 have bh:=Fact.cnt_le f most
 have aM:=(Fact.cnt_eq f most).symm
 refine en func269 ntmps269 ?_
 refine gz ?_
 refine BX [1,2,4,30] (fun (k:Nat) (m:Int)=>k<=f.kids.length/\1<=m/\Fact.cnts (f.kids.drop k) most m=f.cnt most) (fun k m=>[(6,dI k),(5,dI m)]) (fun _ _=>O) (fun k _=>f.kids.length-k) (0) (1) (by exact⟨by omega,by omega,aM⟩) (fun k m hI=>?_)
 obtain⟨hk,hm,hR⟩:=hI
 have bq:=Fact.cnts_le (f.kids.drop k) most m
 by_cases h:k<f.kids.length
 ·rw[A4 h,Fact.cnts]at hR
  have aK:=Fact.kid_size h
  have bt:=Fact.cnt_le (f.kids[k]) (most-m)
  by_cases ai:m<=most
  ·rw[if_pos ai]at hR
   have bb:=Fact.cnts_le (f.kids.drop (k+1)) most (m+(f.kids[k]).cnt (most-m))
   repeat' first|refine gz ?_|refine B9 (Jl (f.kids[k]) (most-m) O (by omega) (by omega) (by omega)) ?_|refine callP (Jl (f.kids[k]) (most-m) O (by omega) (by omega) (by omega)) ?_|refine gz ?_|apply gy<;>intro hh
   exact⟨k+1,m+(f.kids[k]).cnt (most-m),⟨by omega,by omega,hR⟩,td1,wkR⟩
  ·rw[if_neg ai]at hR
   refine gz ?_
   exact fe1 hR
 ·rw[A9 h,Fact.cnts]at hR
  refine gz ?_
  exact fe1 hR
termination_by SizeOf.sizeOf f
decreasing_by exact Fact.lt (List.getElem_mem _)
@[reducible,instance] def a269:=fun f most O=>ah3 (@Jl f most O)
theorem SG(f:Fact)(O:Sig)(hf:f.size<=1073741824:=by exact sd):DCall prog 222 [.agg (Ca f)] O (rS (dI (f.cnt 24)) O):=by
 refine en func222 ntmps222 ?_
 refine gz ?_
 exact fe1 trivial
@[reducible,instance] def a222:=fun f O=>ah1 (@SG f O)
section
variable {O:Sig}{r i j:Nat}{a:D}
def wS(O:Sig)(r i j:Nat)(a:D)(out:List Int):Sig:=((O.set r (.cells [.nils,.nils])).set i (.tail 1 out.length)).set j (.cells [a,.slice (cI out) (.tag i)])
theorem wS_j(out:List Int):wS O r i j a out j=some (.cells [a,.slice (cI out) (.tag i)]):=w6 ..
theorem wS_i(aa:i≠j)(out:List Int):wS O r i j a out i=some (.tail 1 out.length):=by unfold wS;rw[w7 _ _ aa,w6]
theorem wS_r(ax:j≠r)(aA:i≠r)(out:List Int):wS O r i j a out r=some (.cells [.nils,.nils]):=by unfold wS;rw[w7 _ _ (Ne.symm ax),w7 _ _ (Ne.symm aA),w6]
theorem Qg(aa:i≠j)(out:List Int)(x:Int):((wS O r i j a out).set i (.tail 1 (out.length+1))).set j (.cells [a,.slice (cI out++[[dI x]]) (.tag i)])=wS O r i j a (out++[x]):=by
 unfold wS
 rw[Sig.set_comm _ _ _ (Ne.symm aa),w8,w8]
 simp[cI]
theorem VJ(aa:i≠j){x:DObj}:(((O.set r (.cells [.nils,.nils])).set j x).set i (.tail 1 0)).set j (.cells [a,.slice [] (.tag i)])=wS O r i j a []:=by
 unfold wS
 rw[Sig.set_comm _ _ _ (Ne.symm aa),w8]
 simp[cI]
theorem VI(hr:O r=none)(hi:O i=none)(hj:O j=none)(out:List Int):Sub O (wS O r i j a out):=by unfold wS;exact(((Sub.refl _).set hr).set hi).set hj
end
theorem LB(p:BProg)(O:Sig)(hl:p.classes.length<=1073741824:=by exact sd)(hp:∀c∈p.classes,c.parents.length<=1073741824:=by exact sd)(aF:∀c∈p.classes,c.slots.length<=1073741824:=by exact sd)(ho:(ownersF p.classes 0).length<=1073741824:=by exact sd):
  DCall prog 58 [.agg (Ac p)] O (rS (.agg (DV (Bq p))) O):=by
 refine en func58 ntmps58 ?_
 refine gz ?_ [] [2,3]
 refine newV (fun r hr=>?_)
 refine gz ?_ [] [2,3]
 refine newV (fun j hj=>?_)
 obtain⟨ax,hj⟩:=AP hj
 refine gz ?_ [] [2,3]
 refine D2 j 1 1 (w6 ..) rfl fun i hi=>?_
 obtain⟨aa,hi⟩:=AP hi
 obtain⟨aA,hi⟩:=AP hi
 simp only[w8,List.set_cons_succ,List.set_cons_zero]
 rw[VJ aa]
 have hS:=fun out=>wS_j (O:=O) (r:=r) (i:=i) (j:=j) (a:=sl (cII (p.classes.map (·.parents)))) out
 have aO:=fun out=>wS_i (O:=O) (r:=r) (a:=sl (cII (p.classes.map (·.parents)))) aa out
 have aN:=fun out=>wS_r (O:=O) (a:=sl (cII (p.classes.map (·.parents)))) ax aA out
 have aI:=fun out x=>Qg (O:=O) (r:=r) (a:=sl (cII (p.classes.map (·.parents)))) aa out x
 have hne:=fun (s:Sig) (o:DObj)=>w7 s o (Ne.symm aa)
 refine BX [1,2,3,34] (fun (k:Nat) (out:List Int)=>k<=p.classes.length/\out++ownersF (p.classes.drop k) k=ownersF p.classes 0) (fun k _=>[(4,dI k)]) (fun _ out=>wS O r i j (sl (cII (p.classes.map (·.parents)))) out) (fun k _=>p.classes.length-k) (0) ([]) (by simp) (fun k out hI=>?_)
 obtain⟨hk,hR⟩:=hI
 by_cases h:k<p.classes.length
 ·rw[A4 h,ownersF]at hR
  have aW:=aF _ (List.getElem_mem h)
  refine gf hS ?_ [] [2,3]
  refine BX [1,2,3,4,9,10,11,12,13,14,15,34] (fun (q:Nat) (out:List Int)=>q<=(p.classes[k]).slots.length/\out++(List.replicate ((p.classes[k]).slots.length-q) ((k:Int)+3)++ownersF (p.classes.drop (k+1)) (k+1))=ownersF p.classes 0) (fun q _=>[(5,dI q)]) (fun _ out=>wS O r i j (sl (cII (p.classes.map (·.parents)))) out) (fun q _=>(p.classes[k]).slots.length-q) (0) (out) (by simpa using hR) (fun q out hI=>?_)
  obtain⟨hq,hR⟩:=hI
  have hlen:out.length+((p.classes[k]).slots.length-q)<=1073741824:=by
   have:=congrArg List.length hR
   simp only[List.length_append,List.length_replicate]at this
   omega
  by_cases h':q<(p.classes[k]).slots.length
  ·refine gf (gi hS (gi aO (gi hne aI))) ?_ [] [2,3]
   exact⟨q+1,out++[(k:Int)+3],by refine⟨by omega,?_⟩;rw[<-hR];obtain⟨m,hm⟩:∃m,(p.classes[k]).slots.length-q=m+1:=⟨(p.classes[k]).slots.length-q-1,by omega⟩;rw[hm,show(p.classes[k]).slots.length-(q+1)=m by omega,List.replicate_succ];simp,td1,wkR⟩
  ·rw[show(p.classes[k]).slots.length-q=0 by omega]at hR
   refine gf hS ?_ [] [2,3]
   exact⟨k+1,out,⟨by omega,by simpa using hR⟩,td1,wkR⟩
 ·rw[A9 h,ownersF,List.append_nil]at hR
  refine gf (gi hS aN) ?_ [] [2,3]
  refine Hm Af (ds:=[.agg [sl (cII (p.classes.map (·.parents))),.slice (cI out) (.tag i)]]) ?_ (Nm (by rw[hR];simp[Bq])) (U':=O) (.set (VI hr hi hj out) hr) ⟨rfl,rfl⟩
  simp[f71]
theorem SO(p:BProg)(O:Sig)(hl:p.classes.length<=1073741824:=by exact sd)(hp:∀c∈p.classes,c.parents.length<=1073741824:=by exact sd)(aF:∀c∈p.classes,c.slots.length<=1073741824:=by exact sd)(ho:(ownersF p.classes 0).length<=1073741824:=by exact sd):
  DCall prog 203 [.agg (Ac p)] O (rS (.agg (DV (Bq p))) O):=by
 refine en func203 ntmps203 ?_
 refine gz ?_ [] [2,3]
 refine newV (fun r hr=>?_)
 refine gz ?_ [] [2,3]
 refine newV (fun j hj=>?_)
 obtain⟨ax,hj⟩:=AP hj
 refine gz ?_ [] [2,3]
 refine D2 j 1 1 (w6 ..) rfl fun i hi=>?_
 obtain⟨aa,hi⟩:=AP hi
 obtain⟨aA,hi⟩:=AP hi
 simp only[w8,List.set_cons_succ,List.set_cons_zero]
 rw[VJ aa]
 have hS:=fun out=>wS_j (O:=O) (r:=r) (i:=i) (j:=j) (a:=sl (cII (p.classes.map (·.parents)))) out
 have aO:=fun out=>wS_i (O:=O) (r:=r) (a:=sl (cII (p.classes.map (·.parents)))) aa out
 have aN:=fun out=>wS_r (O:=O) (a:=sl (cII (p.classes.map (·.parents)))) ax aA out
 have aI:=fun out x=>Qg (O:=O) (r:=r) (a:=sl (cII (p.classes.map (·.parents)))) aa out x
 have hne:=fun (s:Sig) (o:DObj)=>w7 s o (Ne.symm aa)
 refine BX [2,3,10,11,31] (fun (k:Nat) (out:List Int)=>k<=p.classes.length/\out++ownersF (p.classes.drop k) k=ownersF p.classes 0) (fun k _=>[(12,dI k)]) (fun _ out=>wS O r i j (sl (cII (p.classes.map (·.parents)))) out) (fun k _=>p.classes.length-k) (0) ([]) (by simp) (fun k out hI=>?_)
 obtain⟨hk,hR⟩:=hI
 by_cases h:k<p.classes.length
 ·rw[A4 h,ownersF]at hR
  have aW:=aF _ (List.getElem_mem h)
  refine gf hS ?_ [] [2,3]
  refine BX [2,3,4,5,10,11,12,13,14,15,16,17,18,19,30,31] (fun (q:Nat) (out:List Int)=>q<=(p.classes[k]).slots.length/\out++(List.replicate ((p.classes[k]).slots.length-q) ((k:Int)+3)++ownersF (p.classes.drop (k+1)) (k+1))=ownersF p.classes 0) (fun q _=>[(20,dI q)]) (fun _ out=>wS O r i j (sl (cII (p.classes.map (·.parents)))) out) (fun q _=>(p.classes[k]).slots.length-q) (0) (out) (by simpa using hR) (fun q out hI=>?_)
  obtain⟨hq,hR⟩:=hI
  have hlen:out.length+((p.classes[k]).slots.length-q)<=1073741824:=by
   have:=congrArg List.length hR
   simp only[List.length_append,List.length_replicate]at this
   omega
  by_cases h':q<(p.classes[k]).slots.length
  ·refine gf (gi hS (gi aO (gi hne aI))) ?_ [] [2,3]
   exact⟨q+1,out++[(k:Int)+3],by refine⟨by omega,?_⟩;rw[<-hR];obtain⟨m,hm⟩:∃m,(p.classes[k]).slots.length-q=m+1:=⟨(p.classes[k]).slots.length-q-1,by omega⟩;rw[hm,show(p.classes[k]).slots.length-(q+1)=m by omega,List.replicate_succ];simp,td1,wkR⟩
  ·rw[show(p.classes[k]).slots.length-q=0 by omega]at hR
   refine gf hS ?_ [] [2,3]
   exact⟨k+1,out,⟨by omega,by simpa using hR⟩,td1,wkR⟩
 ·rw[A9 h,ownersF,List.append_nil]at hR
  refine gf (gi hS aN) ?_ [] [2,3]
  refine Hm Af (ds:=[.agg [sl (cII (p.classes.map (·.parents))),.slice (cI out) (.tag i)]]) ?_ (Nm (by rw[hR];simp[Bq])) (U':=O) (.set (VI hr hi hj out) hr) ⟨rfl,rfl⟩
  simp[f70]
@[reducible,instance] def a203:=fun p O=>ah4 (@SO p O)
def Gh{α:Type}[DecidableEq α](l:List α)(s:List α):List α:=l.foldl (fun s x=>ins x s) s
def hasG(cs:List BClass):Nat->List Int->List Int->List Int
 |0,_,out=>out
 |n+1,up,out=>match cs[n]? with
  |some c=>if(n:Int)+3∈up then hasG cs n (Gh c.parents up) (out++c.slots) else hasG cs n up out
  |none=>hasG cs n up out
def hasP(p:BProg)(c:Int):List Int:=EL (hasG p.classes (c-2).toNat [c] [])
theorem Dm(p:BProg):wtL (fun c:BClass=>c.slots.length) p.classes<p.wt:=by
 have:∀l:List BClass,wtL (fun c:BClass=>c.slots.length) l<=wtL BClass.wt l:=fun l=>by
  induction l with
  |nil=>exact Nat.le_refl _
  |cons c l ih=>simp only[wtL,BClass.wt];omega
 have:=this p.classes
 unfold BProg.wt;omega
theorem EG{α:Type}(f:α->Nat)(l:List α)(n:Nat)(h:n<l.length):wtL f (l.take (n+1))=wtL f (l.take n)+f l[n]:=by
 rw[List.take_succ_eq_append_getElem h,Nj];simp[wtL]
theorem Cz{α:Type}(f:α->Nat)(l:List α)(n:Nat):wtL f (l.take n)<=wtL f l:=by
 have:=Nj f (l.take n) (l.drop n)
 rw[List.take_append_drop]at this;omega
theorem UC{O:Sig}{st:MR}{l:List Int}(h:mOK O 1 st (cI l)):mOK O 1 st (cI (EL l)):=by
 cases st with
 |none=>
  have:cI l=[]:=h
  have:l=[]:=by simpa[cI] using this
  subst this;rw[show EL []=[] by simp[EL]];exact h
 |some x=>
  obtain⟨h1,h2,h3,h4⟩:=h
  have e:=GT l
  refine⟨h1,?_,by simpa[e] using h3,Ba _⟩
  rw[List.length_append,Au (Ba _),JD]at h2⊢
  omega
theorem T1(p:BProg)(c:Int)(O:Sig)(hp:p.wt<=1073741824:=by exact sd)(hc:3<=c:=by exact sd)(bw:c<3+p.classes.length:=by exact sd):DCall prog 173 [.agg (Ac p),dI c] O (rS (sl (cI (hasP p c))) O):=by
 obtain⟨p1,p2,p3,p4,p5,p6,p7⟩:=p.wt_le
 have ws:=Dm p
 refine en func173 ntmps173 ?_
 refine gz ?_
 refine newSI (fun i hi=>?_)
 refine gz ?_
 refine Pq [2,4,5,45,46,47,48] (fun (n:Nat) (up:List Int) (out:List Int) (st:MR)=>n<=p.classes.length/\out.length+wtL (fun c:BClass=>c.slots.length) (p.classes.take n)<=1073741824/\mOK (O.set i (.map (eSI up))) 1 st (cI out)/\EL (hasG p.classes n up out)=hasP p c) (fun n _ out st=>[(7,dI (n+2)),(6,mD st out.length)]) (fun _ up out st=>mS (O.set i (.map (eSI up))) st (cI out)) (fun n _ _ _=>n) ((c-2).toNat) ([c]) ([]) (none) (by(refine⟨by omega,?_,rfl,rfl⟩;have:=Cz (fun c:BClass=>c.slots.length) p.classes (c-2).toNat;simp;omega)) (fun n up out st hI=>?_)
 obtain⟨hn,hlen,hm,hR⟩:=hI
 have hT:=fun k (h:k<p.classes.length)=>EG (fun c:BClass=>c.slots.length) p.classes k h
 obtain⟨bp,ag,aS⟩:=mS_at hm
 rcases n with _|n
 ·rw[hasG]at hR
  refine gz ?_
  refine A7 (SD out st _ hm (by simp[wtL]at hlen;omega)) (fun d U' hr=>?_) (fun d U' hr=>by cases hr.1)
  obtain⟨aX,rfl⟩:=hr
  cases aX
  have aC:=UC hm
  rw[<-GT out]
  rw[hR]at aC⊢
  refine mfr 6 ?_ (hm:=aC)
  refine gz ?_
  exact fe1 (d':=sl (cI (hasP p c))) trivial
 ·have h:n<p.classes.length:=by omega
  have bz:=hT n h
  have hw:=p5 n h
  have bk:(p.classes[n]).wt=1+(p.classes[n]).parents.length+(p.classes[n]).slots.length+(p.classes[n]).inits.length:=rfl
  rw[hasG,List.getElem?_eq_getElem h]at hR
  by_cases ap:(n:Int)+3∈up
  ·simp only[ap,if_true]at hR
   have e3:(n:Int)+1+2=n+3:=by omega
   have aR:((n:Int)+1+2-3).toNat=n:=by omega
   refine gf (gi ag (gi aS (gi ap (gi e3 aR)))) ?_
   refine mappI (fun st' aC=>?_)
   obtain⟨aJ,aw,au⟩:=mS_at aC
   refine gf (gi aw (gi au (gi ap (gi e3 aR)))) ?_
   refine C1 [2,4,5,6,7,14,15,16,17,18,19,20,21,22,23,24,25,26,27,28,29,30,31,32,33,34,35,36,37,45,46,47,48] (fun (k:Nat)=>k<=(p.classes[n]).parents.length) (fun k=>[(38,dI k)]) (fun k=>mS (O.set i (.map (eSI (Gh ((p.classes[n]).parents.take k) up)))) st' (cI (out++(p.classes[n]).slots))) (fun k=>(p.classes[n]).parents.length-k) (0) td3 (fun k hI=>?_)
   by_cases hk:k<(p.classes[n]).parents.length
   ·have hs:Gh ((p.classes[n]).parents.take (k+1)) up=ins (p.classes[n]).parents[k] (Gh ((p.classes[n]).parents.take k) up):=by unfold Gh;rw[List.take_succ_eq_append_getElem hk,List.foldl_append];rfl
    refine gf (gi aw au) ?_
    rw[<-hs]
    exact⟨k+1,td2,td1,wkR⟩
   ·have hs:(p.classes[n]).parents.take k=(p.classes[n]).parents:=List.take_of_length_le (by omega)
    rw[hs]
    have e2:(n:Int)+3-1=n+2:=by omega
    refine gf (gi e3 e2) ?_
    exact⟨n,Gh (p.classes[n]).parents up,out++(p.classes[n]).slots,st',⟨by omega,by rw[List.length_append];omega,aJ _,hR⟩,td1,wkR⟩
  ·simp only[ap,if_false]at hR
   have e3:(n:Int)+1+2=n+3:=by omega
   have e2:(n:Int)+3-1=n+2:=by omega
   refine gf (gi ag (gi aS (gi ap (gi e3 e2)))) ?_
   exact⟨n,up,out,st,⟨by omega,by omega,hm,hR⟩,td1,wkR⟩
@[reducible,instance] def a173:=fun p c O=>ah3 (@T1 p c O)
end Go.DL
namespace Go.DL
open Go.Proofs.Tryz
open Go Go.Proofs
set_option maxHeartbeats 4000000
theorem RV(l:List (List D))(o:Own)(O:Sig):
  DCall prog 337 [.slice l o] O (rS (.slice l .clip) O):=by
 refine en func337 ntmps337 ?_
 refine gz ?_
 exact fe1 trivial
@[reducible,instance] def a337:=fun l o O=>ah0 (@RV l o O)
theorem Oy{α:Type}[DecidableEq α](s:α): ∀(l:List α) (k:Nat),(0<=idxG s l k) ↔ s∈l
 |[],_=>by simp[idxG]
 | x::r,k=>by
  rw[idxG]
  by_cases h:x=s
  ·simp[h]
  ·rw[if_neg h,Oy s r (k+1)]
   simp[Ne.symm h]
end Go.DL
namespace Go.DL
open Go.Proofs.Tryz
open Go Go.Proofs
set_option maxHeartbeats 8000000
theorem UL{α:Type}[DecidableEq α](s:α)(l:List α):decide (0<=idxG s l 0)=decide (s∈l):=by
 rw[Bool.eq_iff_iff];simp only[decide_eq_true_eq];exact Oy s l 0
theorem PL(l:List Int)(s:Int)(o:Own)(O:Sig)(hl:l.length<=1073741824:=by exact sd):
  DCall prog 206 [.slice (cI l) o,dI s] O (rS (.bool (decide (s∈l))) O):=by
 rw[<-UL];exact SM l s o O hl
instance (priority:=high) a206m (l:List Int) (s:Int) (o:Own) (O:Sig):Ans 206 [.slice (cI l) o,dI s] O ((l.length<=1073741824)) (.bool (decide (s∈l))):=⟨fun hl=>PL l s o O (hl:=hl)⟩
theorem PH(l:List Int)(s:Int)(o:Own)(O:Sig)(hl:l.length<=1073741824:=by exact sd):
  DCall prog 267 [.slice (cI l) o,dI s] O (rS (.bool (decide (s∈l))) O):=by
 rw[<-List.contains_eq_mem];exact So l s o O hl
instance (priority:=high) a267m (l:List Int) (s:Int) (o:Own) (O:Sig):Ans 267 [.slice (cI l) o,dI s] O ((l.length<=1073741824)) (.bool (decide (s∈l))):=⟨fun hl=>PH l s o O (hl:=hl)⟩
theorem RN(l:List Int)(n:Int)(o:Own)(O:Sig)(hl:l.length<=1073741824:=by exact sd):
  DCall prog 354 [.slice (cI l) o,dI n] O fun x U'=>x=.ret (sl (cI (l.filter fun x=> !decide (x=n))))/\U'=O:=by
 refine en func354 ntmps354 ?_
 refine gz ?_
 refine Eg 5 1 (fun i hi=>?_)
 refine BX [0,1,4,26] (fun (k:Nat) (out:List Int)=>k<=l.length/\out.length<=k/\out++(l.drop k).filter (fun x=> !decide (x=n))=l.filter (fun x=> !decide (x=n))) (fun k out=>[(6,dI k),(5,.slice (cI out) (.tag i))]) (fun _ out=>O.set i (.tail 1 out.length)) (fun k _=>l.length-k) (0) ([]) (by simp) (fun k out hI=>?_)
 obtain⟨hk,hlen,hR⟩:=hI
 by_cases h:k<l.length
 ·rw[A4 h,List.filter_cons]at hR
  repeat' first|refine gz ?_|apply gy<;>intro hh
  ·exact⟨k+1,out++[l[k]],by refine⟨by omega,by simp;omega,?_⟩;rw[<-hR];simp[hh],td1,wkR⟩
  ·exact⟨k+1,out,by refine⟨by omega,by omega,?_⟩;rw[<-hR];simp[hh],td1,wkR⟩
 ·rw[A9 h]at hR
  simp at hR
  refine gz ?_
  exact finS (U':=O) (es:=cI out) ⟨by rw[hR],rfl⟩
@[reducible,instance] def a354:=fun l n o O=>ah1 (@RN l n o O)
theorem RM(l:List (List Int))(c:Int)(o:Own)(O:Sig)(hl:l.length<=1073741824:=by exact sd)(am:∀x∈l,x.length<=1073741824:=by exact sd):
  DCall prog 355 [.slice (cII l) o,dI c] O fun x U'=>x=.ret (.bool (l.all fun x=> !decide (c∈x.tail)))/\U'=O:=by
 refine en func355 ntmps355 ?_
 refine gz ?_
 refine C1 [0,1] (fun (k:Nat)=>k<=l.length/\l.all (fun x=> !decide (c∈x.tail))=(l.drop k).all (fun x=> !decide (c∈x.tail))) (fun k=>[(5,dI k)]) (fun _=>O) (fun k=>l.length-k) (0) (by simp) (fun k hI=>?_)
 obtain⟨hk,hR⟩:=hI
 by_cases h:k<l.length
 ·have hx:=am _ (List.getElem_mem h)
  rw[A4 h,List.all_cons]at hR
  by_cases h0:l[k].length=0
  ·have he:l[k]=[]:=List.length_eq_zero_iff.1 h0
   refine gz ?_
   exact⟨k+1,⟨by omega,by rw[hR,he];simp⟩,td1,wkR⟩
  ·repeat' first|refine gz ?_|apply gy<;>intro hh
   ·exact fe1 hR
   ·exact⟨k+1,⟨by omega,by rw[hR];simp_all⟩,td1,wkR⟩
 ·rw[A9 h]at hR
  refine gz ?_
  exact fe1 hR
@[reducible,instance] def a355:=fun l c o O=>ah2 (@RM l c o O)
def Dj(i:Nat):List Int->List Int->Bool
 |_,[]=>true
 |seen,p::r=>(decide (3<=p/\p<3+i)&&!decide (p∈seen))&&Dj i (seen++[p]) r
def HQ(i:Nat)(l:List Int):Bool:=decide (l.length<=3)&&Dj i [] l
def C7:Nat->List (List Int)->Bool
 |_,[]=>true
 |i,l::r=>HQ i l&&C7 (i+1) r
def Bb(g:List (List Int)):Bool:=decide (g.length<=16)&&C7 0 g
theorem DH{α:Type}{l:List α}{k:Nat}(h:k<l.length):l.take (k+1)=l.take k++[l[k]]:=by rw[List.take_succ_eq_append_getElem h]
theorem Se(g:List (List Int))(o:Own)(O:Sig)(hl:g.length<=1073741824:=by exact sd)(am:∀x∈g,x.length<=1073741824:=by exact sd):
  DCall prog 300 [.slice (cII g) o] O (rS (.bool (Bb g)) O):=by
 refine en func300 ntmps300 ?_
 by_cases bj:16<g.length
 ·refine gz ?_
  (refine fin1 (U':=O) ?_;exact⟨by first|rfl|(simp[Bb];done)|(simp_all [Bb];done)|(rw[Ad,Bool.eq_iff_iff];simp_all [Bb]<;>omega),rfl⟩)
 refine gz ?_
 refine C1 [10,11] (fun (k:Nat)=>k<=g.length/\Bb g=C7 k (g.drop k)) (fun k=>[(12,dI k)]) (fun _=>O) (fun k=>g.length-k) (0) (by exact⟨by omega,by simp[Bb];omega⟩) (fun k hI=>?_)
 obtain⟨hk,hR⟩:=hI
 by_cases h:k<g.length
 ·have hx:=am _ (List.getElem_mem h)
  rw[A4 h,C7,HQ]at hR
  by_cases h3:3<g[k].length
  ·refine gz ?_
   exact fe1 hR
  ·have aP:decide (g[k].length<=3)=true:=by simp;omega
   rw[aP,Bool.true_and]at hR
   refine gz ?_
   refine C1 [3,4,10,11,12,13,14,15,16,17,18,19,20,21,43] (fun (q:Nat)=>q<=g[k].length/\Bb g=(Dj k (g[k].take q) (g[k].drop q)&&C7 (k+1) (g.drop (k+1)))) (fun q=>[(22,dI q)]) (fun _=>O) (fun q=>g[k].length-q) (0) (by exact⟨by omega,by simpa using hR⟩) (fun q hI=>?_)
   obtain⟨hq,ac⟩:=hI
   by_cases h':q<g[k].length
   ·rw[A4 h',Dj,<-DH h']at ac
    repeat' first|refine gz ?_|apply gy<;>intro hh
    ·have hn:¬(3<=g[k][q]/\g[k][q]<3+(k:Int)):=by omega
     rw[decide_eq_false hn]at ac
     exact fe1 ac
    ·have hn:¬(3<=g[k][q]/\g[k][q]<3+(k:Int)):=by omega
     rw[decide_eq_false hn]at ac
     exact fe1 ac
    ·exact fe1 ac
    ·exact⟨q+1,⟨by omega,by rw[ac];simp_all⟩,td1,wkR⟩
   ·rw[A9 h',Dj]at ac
    refine gz ?_
    exact⟨k+1,⟨by omega,by simpa using ac⟩,td1,wkR⟩
 ·rw[A9 h,C7]at hR
  refine gz ?_
  exact fe1 hR
@[reducible,instance] def a300:=fun g o O=>ah2 (@Se g o O)
theorem SJ(g:List (List Int))(o:Own)(O:Sig)(hl:g.length<=1073741824:=by exact sd)(am:∀x∈g,x.length<=1073741824:=by exact sd):
  DCall prog 219 [.slice (cII g) o] O (rS (.bool (Bb g)) O):=by
 refine en func219 ntmps219 ?_
 by_cases bj:16<g.length
 ·refine gz ?_ o219
  (refine fin1 (U':=O) ?_;exact⟨by first|rfl|(simp[Bb];done)|(simp_all [Bb];done)|(rw[Ad,Bool.eq_iff_iff];simp_all [Bb]<;>omega),rfl⟩)
 refine gz ?_ o219
 refine C1 [0] (fun (k:Nat)=>k<=g.length/\Bb g=C7 k (g.drop k)) (fun k=>[(3,dI k)]) (fun _=>O) (fun k=>g.length-k) (0) (by exact⟨by omega,by simp[Bb];omega⟩) (fun k hI=>?_)
 obtain⟨hk,hR⟩:=hI
 by_cases h:k<g.length
 ·have hx:=am _ (List.getElem_mem h)
  rw[A4 h,C7,HQ]at hR
  by_cases h3:3<g[k].length
  ·refine gz ?_ o219
   exact fe1 hR
  ·have aP:decide (g[k].length<=3)=true:=by simp;omega
   rw[aP,Bool.true_and]at hR
   refine gz ?_ o219
   refine C1 [0,3,8,9,10,11,12,13,14,15,16,17,18,19] (fun (q:Nat)=>q<=g[k].length/\Bb g=(Dj k (g[k].take q) (g[k].drop q)&&C7 (k+1) (g.drop (k+1)))) (fun q=>[(4,dI q)]) (fun _=>O) (fun q=>g[k].length-q) (0) (by exact⟨by omega,by simpa using hR⟩) (fun q hI=>?_)
   obtain⟨hq,ac⟩:=hI
   by_cases h':q<g[k].length
   ·rw[A4 h',Dj,<-DH h']at ac
    repeat' first|refine gz ?_ o219|apply gy<;>intro hh
    ·have hn:¬(3<=g[k][q]/\g[k][q]<3+(k:Int)):=by omega
     rw[decide_eq_false hn]at ac
     exact fe1 ac
    ·have hn:¬(3<=g[k][q]/\g[k][q]<3+(k:Int)):=by omega
     rw[decide_eq_false hn]at ac
     exact fe1 ac
    ·exact fe1 ac
    ·exact⟨q+1,⟨by omega,by rw[ac];simp_all⟩,td1,wkR⟩
   ·rw[A9 h',Dj]at ac
    refine gz ?_ o219
    exact⟨k+1,⟨by omega,by simpa using ac⟩,td1,wkR⟩
 ·rw[A9 h,C7]at hR
  refine gz ?_ o219
  exact fe1 hR
def FE(all:List (List Int))(c:Int):Bool:=all.all fun x=> !decide (c∈x.tail)
def Eu(all:List (List Int)):Bool->List (List Int)->Option Int×Bool
 |s,[]=>(none,s)
 |s,[]::r=>Eu all s r
 |_,(x::_)::r=>if FE all x then(some x,true) else Eu all true r
def Ev:Nat->List (List Int)->List Int->List Int×Bool
 |0,_,out=>(out,false)
 |n+1,ls,out=>match Eu ls false ls with
  |(none,s)=>(out, !s)
  |(some c,_)=>Ev n (ls.map fun l=>l.filter fun x=> !decide (x=c)) (out++[c])
def totL:List (List Int)->Nat
 |[]=>0
 |l::r=>l.length+totL r
def BS(ls:List (List Int)):List Int×Bool:=Ev (totL ls+1) ls []
theorem L6{l:List Int}: ∀{ls:List (List Int)},l∈ls->l.length<=totL ls
 |x::r,h=>by
  rcases List.mem_cons.1 h with rfl|h
  ·simp[totL]
  ·have:=L6 h;simp only[totL];omega
theorem Et{all:List (List Int)}{c:Int}{b:Bool}: ∀{s:Bool}{ls:List (List Int)},Eu all s ls=(some c,b)->∃l∈ls,c∈l
 |s,[],h=>by simp[Eu]at h
 |s,[]::r,h=>by
  rw[Eu]at h
  obtain⟨l,h1,h2⟩:=Et h
  exact⟨l,by simp[h1],h2⟩
 | s,(x::t)::r,h=>by
  rw[Eu]at h
  by_cases hf:FE all x=true
  ·rw[if_pos hf]at h
   exact⟨x::t,by simp,by simp only[Prod.mk.injEq,Option.some.injEq]at h;simp[h.1]⟩
  ·rw[if_neg hf]at h
   obtain⟨l,h1,h2⟩:=Et h
   exact⟨l,by simp[h1],h2⟩
theorem Qm(c:Int): ∀ls:List (List Int),totL (ls.map fun l=>l.filter fun x=> !decide (x=c))<=totL ls
 |[]=>by simp[totL]
 |l::r=>by
  have:=Qm c r
  have:=List.length_filter_le (fun x=> !decide (x=c)) l
  simp only[List.map_cons,totL];omega
theorem RA{c:Int}{l:List Int}(h:c∈l):(l.filter fun x=> !decide (x=c)).length<l.length:=by
 induction l with
 |nil=>simp at h
 | cons x r ih =>
  have:=List.length_filter_le (fun x=> !decide (x=c)) r
  by_cases hx:x=c
  ·simp[hx];omega
  ·have hr:c∈r:=by rcases List.mem_cons.1 h with rfl|h;exact absurd rfl hx;exact h
   have:=ih hr
   simp[hx];omega
theorem L7{c:Int}{l:List Int}(hc:c∈l): ∀{ls:List (List Int)},l∈ls->totL (ls.map fun l=>l.filter fun x=> !decide (x=c))<totL ls
 | x::r,h=>by
  simp only[List.map_cons,totL]
  rcases List.mem_cons.1 h with rfl|h
  ·have:=Qm c r;have:=RA hc;omega
  ·have:=L7 hc h
   have:=List.length_filter_le (fun x=> !decide (x=c)) x
   omega
theorem RY(l:List (List Int))(o:Own)(O:Sig)(hn:∀x∈l, ∀y∈x,0<=y)(hl:l.length<=1073741824:=by exact sd)(ht:totL l<=1073741824:=by exact sd):
  DCall prog 314 [.slice (cII l) o] O (rS (.tup [sl (cI (BS l).1),.bool (BS l).2]) O):=by
 refine en func314 ntmps314 ?_
 refine gz ?_
 refine Eg 4 1 (fun i hi=>?_)
 refine Ga [] (fun (n:Nat) (ls:List (List Int)) (out:List Int)=>totL ls<n/\out.length+totL ls<=1073741824/\ls.length=l.length/\(∀x∈ls, ∀y∈x,0<=y)/\Ev n ls out=BS l) (fun _ ls out=>[(0,.slice (cII ls) .no),(4,.slice (cI out) (.tag i))]) (fun _ _ out=>O.set i (.tail 1 out.length)) (fun n _ _=>n) (totL l+1) (l) ([]) (by exact⟨by omega,by simpa using ht,rfl,hn,rfl⟩) (fun n ls out hI=>?_)
 obtain⟨bn,hlen,bc,ar,hR⟩:=hI
 have aT:∀x∈ls,x.length<=1073741824:=fun x hx=>by have:=L6 hx;omega
 refine gz ?_
 refine Ga [0,2,3,4,8,9,40,41,42,43,44,45,46,47,48,49,50,51,52,53,54,55,56,57,58,59,60,61,62,63,64] (fun (q:Nat) (cv:Int) (s:Bool)=>q<=ls.length /\ -1<=cv/\(cv<0->Eu ls false ls=Eu ls s (ls.drop q))/\(0<=cv->Eu ls false ls=(some cv,true))) (fun q cv s=>[(5,dI cv),(6,.bool s),(7,dI q)]) (fun _ _ _=>O.set i (.tail 1 out.length)) (fun q _ _=>ls.length-q) (0) (-1) (false) (by simp) (fun q cv s hI=>?_)
 obtain⟨hq,bu,hA,hB⟩:=hI
 have bf:cv = -1\/0<=cv:=by omega
 rcases bf with ak|ak
 ·subst ak
  replace hA:=hA (by omega)
  by_cases h:q<ls.length
  ·have hx:=aT _ (List.getElem_mem h)
   have aU:=ar _ (List.getElem_mem h)
   rw[A4 h]at hA
   rcases ae:ls[q]with _|⟨y,r⟩
   ·rw[ae,Eu]at hA
    refine gf ae ?_
    exact⟨q+1, -1,s,⟨by omega,by omega,fun _=>hA,by omega⟩,td1,wkR⟩
   ·rw[ae,Eu]at hA
    have hy:0<=y:=aU y (by simp[ae])
    repeat' first|refine gf ae ?_|apply gy<;>intro hh
    ·rw[if_pos (show FE ls y=true from hh)]at hA
     exact⟨q+1,y,true,⟨by omega,by omega,by omega,fun _=>hA⟩,td1,wkR⟩
    ·rw[show FE ls y=false from hh]at hA
     exact⟨q+1, -1,true,⟨by omega,by omega,fun _=>hA,by omega⟩,td1,wkR⟩
  ·rw[A9 h,Eu]at hA
   refine gz ?_
   obtain⟨m,rfl⟩:∃m,n=m+1:=⟨n-1,by omega⟩
   rw[Ev,hA]at hR
   replace hR:BS l=(out, !s):=hR.symm
   exact fe2 (d':=sl (cI out)) hR
 ·replace hB:=hB ak
  obtain⟨m,rfl⟩:∃m,n=m+1:=⟨n-1,by omega⟩
  rw[Ev,hB]at hR
  replace hR:Ev m (ls.map fun l=>l.filter fun x=> !decide (x=cv)) (out++[cv])=BS l:=hR
  obtain⟨e,he,aM⟩:=Et hB
  have br:=L7 aM he
  have aq:∀x∈ls.map (fun l=>l.filter fun x=> !decide (x=cv)), ∀y∈x,0<=y:=by
   intro x hx y hy
   obtain⟨z,hz,rfl⟩:=List.mem_map.1 hx
   exact ar z hz y (List.mem_filter.1 hy).1
  by_cases h:q<ls.length
  all_goals
   refine gz ?_
   refine Eg 8 1 (fun j hj=>?_)
   refine BX [0,2,3,4,5,6,7,10,11,12,13,14,15,16,17,18,19,20,21,22,23,24,25,26,27,28,29,30,31,32,33,34,35,36,37,38,39,40,41,42,43,44,45,46,47,48,64] (fun (k:Nat) (acc:List (List Int))=>k<=ls.length/\acc=(ls.take k).map fun l=>l.filter fun x=> !decide (x=cv)) (fun k acc=>[(9,dI k),(8,.slice (cII acc) (.tag j))]) (fun _ acc=>(O.set i (.tail 1 (out.length+1))).set j (.tail 1 acc.length)) (fun k _=>ls.length-k) (0) ([]) (by simp) (fun k acc hI=>?_)
   obtain⟨hk,ah⟩:=hI
   have bx:acc.length=k:=by rw[ah];simp;omega
   by_cases h':k<ls.length
   ·have hx:=aT _ (List.getElem_mem h')
    refine gz ?_
    exact⟨k+1,acc++[(ls[k]).filter fun x=> !decide (x=cv)],⟨by omega,by rw[ah,DH h',List.map_append];rfl⟩,td1,wkR⟩
   ·have bd:k=ls.length:=by omega
    rw[bd,List.take_length]at ah
    subst ah
    have aV:Sub (O.set i (.tail 1 (out++[cv]).length)) ((O.set i (.tail 1 (out.length+1))).set j (.tail 1 (ls.map fun l=>l.filter fun x=> !decide (x=cv)).length)):=by rw[List.length_append];exact(Sub.refl _).set (by assumption)
    refine gz ?_
    exact⟨m,(ls.map fun l=>l.filter fun x=> !decide (x=cv)),(out++[cv]),⟨by omega,by rw[List.length_append,List.length_singleton];omega,by simpa using bc,aq,hR⟩,td1,wkR⟩
def unf:D:=.iface 316 (.agg [])
theorem ST(b:Bool)(O:Sig):DCall prog 197 [.bool b] O fun x U'=>x=(if b then .ret (.tup []) else .panic unf)/\U'=O:=by
 refine en func197 ntmps197 ?_
 cases b
 ·refine gz ?_
  refine pan ?_
  exact finP (U':=O) ⟨rfl,rfl⟩
 ·refine gz ?_
  exact EW (U':=O) ⟨rfl,rfl⟩
@[reducible,instance] def a197:=fun b O=>gh0 (@ST b O)
theorem Hd(l:List Int)(q:Int->Bool)(g:Nat)(cap:List D)(o:Own)(O:Sig)(hl:l.length<=1073741824)
  (hg:∀x∈l, ∀U',Sub O U'->DCall prog g ([]++[dI x]++cap) U' fun r S''=>r=.ret (.bool (q x))/\S''=U') :
  DCall prog 385 [.slice (cI l) o,.func (.func g) [] cap] O (rS (sl (cI (l.filter q))) O):=by
 refine en func385 ntmps385 ?_
 refine gz ?_
 refine Eg 5 1 (fun i hi=>?_)
 refine BX [1,4,8,9,22] (fun (k:Nat) (out:List Int)=>k<=l.length/\out.length<=k/\out++(l.drop k).filter q=l.filter q) (fun k out=>[(10,dI k),(5,.slice (cI out) (.tag i))]) (fun _ out=>O.set i (.tail 1 out.length)) (fun k _=>l.length-k) (0) ([]) (by simp) (fun k out hI=>?_)
 obtain⟨hk,hlen,hR⟩:=hI
 by_cases h:k<l.length
 ·rw[A4 h,List.filter_cons]at hR
  repeat' first|refine B9 (hg (l[k]) (List.getElem_mem h) _ ((Sub.refl _).set hi)) ?_|refine callP (hg (l[k]) (List.getElem_mem h) _ ((Sub.refl _).set hi)) ?_|refine gz ?_|apply gy<;>intro hh
  ·exact⟨k+1,out++[l[k]],by refine⟨by omega,by simp;omega,?_⟩;rw[<-hR];simp[hh],td1,wkR⟩
  ·exact⟨k+1,out,by refine⟨by omega,by omega,?_⟩;rw[<-hR];simp[hh],td1,wkR⟩
 ·rw[A9 h]at hR
  simp at hR
  refine gz ?_
  exact finS (U':=O) (es:=cI out) ⟨by rw[hR],rfl⟩
theorem Mt(c:Int)(O:Sig):DCall prog 395 [dI c] O (rS (.bool (!decide (c=0))) O):=by
 refine en func395 ntmps395 ?_
 refine gz ?_
 exact fe1 trivial
theorem RG(l:List Int)(o:Own)(O:Sig)(hl:l.length<=1073741824:=by exact sd):DCall prog 384 [.slice (cI l) o] O (rS (sl (cI (l.filter fun c=> !decide (c=0)))) O):=by
 refine en func384 ntmps384 ?_
 repeat' first|refine gz ?_|refine B9 (Hd l (fun c=> !decide (c=0)) 395 [] o O hl (fun x _ U' _=>Mt x U')) ?_|refine callP (Hd l (fun c=> !decide (c=0)) 395 [] o O hl (fun x _ U' _=>Mt x U')) ?_|refine gz ?_|apply gy<;>intro hh
 exact fe1 trivial
@[reducible,instance] def a384:=fun l o O=>ah1 (@RG l o O)
theorem Mu(c x:Int)(O:Sig):DCall prog 386 [dI c,.cptr [dI x] 0] O (rS (.bool (!decide (c=x))) O):=by
 refine en func386 ntmps386 ?_
 refine gz ?_
 exact fe1 trivial
def parentsF(g:List (List Int))(c:Int):List Int:=if c<3 then [] else(g[(c-3).toNat]?).getD []
def At(orders:List (List Int))(p:Int):List Int:=(orders[p.toNat]?).getD []
def CH(orders:List (List Int)):List Int->Option (List (List Int))
 |[]=>some []
 |p::r=>if(At orders p).length=0 then none else(CH orders r).map ((At orders p).filter (fun x=> !decide (x=0)) :: ·)
def By(orders:List (List Int))(ps:List Int):Option (List (List Int)):=(CH orders ps).map (· ++ [ps])
theorem RZ(g orders:List (List Int))(c:Int)(o o':Own)(O:Sig)(hl:g.length<=1073741824:=by exact sd)(hc:c<3+g.length:=by exact sd)(aH:(parentsF g c).length<=1073741824:=by exact sd)(hp:∀p∈parentsF g c,0<=p/\p<orders.length)(ho:orders.length<=1073741824:=by exact sd)(ba:∀x∈orders,x.length<=1073741824:=by exact sd):
  DCall prog 313 [.slice (cII g) o,.slice (cII orders) o',dI c] O (rS (.tup [sl (cII ((By orders (parentsF g c)).getD [])),.bool (By orders (parentsF g c)).isSome]) O):=by
 have aY:=aH
 refine en func313 ntmps313 ?_
 repeat' first|refine gz ?_|refine B9 (Jj g c o O hl hc) ?_|refine callP (Jj g c o O hl hc) ?_|refine gz ?_|apply gy<;>intro hh
 have e0:(if c<3 then [] else(g[(c-3).toNat]?).getD [])=parentsF g c:=rfl
 rw[e0]
 generalize parentsF g c=ps at*
 refine Eg 8 1 (fun i hi=>?_)
 refine BX [1,9,40,41,42,43] (fun (k:Nat) (out:List (List Int))=>k<=ps.length/\out.length<=k/\CH orders ps=(CH orders (ps.drop k)).map (out ++ ·)) (fun k out=>[(10,dI k),(8,.slice (cII out) (.tag i))]) (fun _ out=>O.set i (.tail 1 out.length)) (fun k _=>ps.length-k) (0) ([]) (by simp) (fun k out hI=>?_)
 obtain⟨hk,hlen,hR⟩:=hI
 by_cases h:k<ps.length
 ·obtain⟨bm,bl⟩:=hp _ (List.getElem_mem h)
  have aQ:(ps[k]).toNat<orders.length:=by omega
  have hx:=ba _ (List.getElem_mem aQ)
  have aE:At orders ps[k]=orders[(ps[k]).toNat]:=by unfold At;simp[aQ]
  rw[A4 h,CH,aE]at hR
  repeat' first|refine gz ?_|apply gy<;>intro hh
  ·have hn:By orders ps=none:=by unfold By;rw[hR];simp_all
   exact fe2 (d':=sl []) hn
  ·exact⟨k+1,out++[(orders[(ps[k]).toNat]).filter fun x=> !decide (x=0)],by refine⟨by omega,by simp;omega,?_⟩;rw[hR,if_neg (by simpa using hh),Option.map_map];congr 1;funext z;simp,td1,wkR⟩
 ·rw[A9 h,CH]at hR
  have hn:By orders ps=some (out++[ps]):=by unfold By;rw[hR];simp
  refine gz ?_
  exact fe2 (d':=sl (cII (out++[ps]))) hn
def W1(x:DE):Prop:= ∃n:Int,x=.ret (.agg [.int .u64 n])
theorem Mw(s c:Int)(O:Sig)(hc:0<=c:=by exact sd):DCall prog 342 [.agg [.int .u64 s],dI c] O fun x U'=>W1 x/\U'=O:=by
 refine en func342 ntmps342 ?_
 refine Ju ?_
 refine Ho ?_
 refine boxV (fun i hi=>?_)
 refine newV (fun j hj=>?_)
 obtain⟨aj,ay⟩:=AP hj
 have aa:i≠j:=fun e=>aj e.symm
 refine gf (gi aj (gi aa (P4 .u64 .i64 1 c hc))) ?_ o342 [2,4]
 refine finCE (U':=O) (by simp[resL,aa,aj];with_unfolding_all rfl) ⟨⟨_,rfl⟩,rfl⟩ ?_
 exact((((Sub.refl _).set hi).set ay).set hi).set ay
theorem RQ(s c:Int)(O:Sig):DCall prog 343 [.agg [.int .u64 s],.agg [.int .u64 c]] O fun x U'=>W1 x/\U'=O:=by
 refine en func343 ntmps343 ?_
 refine Ju ?_
 refine Ho ?_
 refine boxV (fun i hi=>?_)
 refine gz ?_ [] [2,4]
 refine newV (fun j hj=>?_)
 obtain⟨aj,ay⟩:=AP hj
 have aa:i≠j:=fun e=>aj e.symm
 refine gf (gi aj aa) ?_ [] [2,4]
 refine finCE (U':=O) (by simp[resL,aa,aj];with_unfolding_all rfl) ⟨⟨_,rfl⟩,rfl⟩ ?_
 exact((((Sub.refl _).set hi).set ay).set hi).set ay
theorem Ex(ig im:Nat)(ps os:List (List Int))(ups:D)(om:List (Int×List Int))(c:Nat)(o:Own)(O:Sig)(hg:O ig=some (.cells [.slice (cII ps) o,ups,.map im]))(hm:O im=some (.map (eIO om)))(hc:c<ps.length)
  (hl:ps.length<=1073741824) (aB:(ps[c]).length<=1073741824) (ho:∀p∈ps[c],getM [] p om=At os p) (aZ:∀p∈ps[c],(At os p).length<=1073741824) :
  DCall prog 368 [.ptr ig 0,dI c] O (rS (.tup [sl (cII ((By os ps[c]).getD [])),.bool (By os ps[c]).isSome]) O):=by
 refine en func368 ntmps368 ?_
 refine gf (gi hg hm) ?_
 generalize aH:ps[c]=l at*
 refine Eg 6 1 (fun i hi=>?_)
 have aD:ig≠i:=fun e=>by rw[e,hi]at hg;cases hg
 have ag:im≠i:=fun e=>by rw[e,hi]at hm;cases hm
 refine BX [0,1,15,16,40,41,42,43,44,45,46,47,48,49] (fun (k:Nat) (out:List (List Int))=>k<=l.length/\out.length<=k/\CH os l=(CH os (l.drop k)).map (out ++ ·)) (fun k out=>[(17,dI k),(6,.slice (cII out) (.tag i))]) (fun _ out=>O.set i (.tail 1 out.length)) (fun k _=>l.length-k) (0) ([]) (by simp) (fun k out hI=>?_)
 obtain⟨hk,hlen,hR⟩:=hI
 by_cases h:k<l.length
 ·have aE:=ho _ (List.getElem_mem h)
  have hx:=aZ _ (List.getElem_mem h)
  rw[A4 h,CH]at hR
  refine gf (gi hg (gi hm (gi aD ag))) ?_
  refine lkO ?_ (hi:=by rw[w7 _ _ ag];exact hm)
  rw[aE]
  repeat' first|refine gf (gi hg (gi hm (gi aD ag))) ?_|apply gy<;>intro hh
  ·have hn:By os l=none:=by unfold By;rw[hR];simp_all
   exact fe2 (d':=sl []) hn
  ·refine lkO ?_ (hi:=by rw[w7 _ _ ag];exact hm)
   rw[aE]
   refine gf (gi hg (gi hm (gi aD ag))) ?_
   exact⟨k+1,out++[(At os l[k]).filter fun x=> !decide (x=0)],by refine⟨by omega,by simp;omega,?_⟩;rw[hR,if_neg (by simpa using hh),Option.map_map];congr 1;funext z;simp,td1,wkR⟩
 ·rw[A9 h,CH]at hR
  have hn:By os l=some (out++[l]):=by unfold By;rw[hR];simp
  refine gf (gi hg (gi hm (gi aD (gi ag aH)))) ?_
  exact fe2 (d':=sl (cII (out++[l]))) hn
end Go.DL
