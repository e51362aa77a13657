/- A part of the proof. -/
import Derived.Test.YteldimffglchkaaGreatDoorM14
import Derived.Test.YteldimffglchkaaGreatDoorM12
import Derived.Test.YteldimffglchkaaGreatDoorM13
set_option linter.all false
namespace Go.DL
open Go.Proofs.Tryz
open Go Go.Proofs
set_option maxHeartbeats 8000000
def idxG{α:Type}[DecidableEq α](s:α):List α->Nat->Int
 |[],_=> -1
 |x::r,k=>if x=s then k else idxG s r (k+1)
theorem Sq(l:List Int)(s:Int)(o:Own)(O:Sig)(hl:l.length<=1073741824:=by exact sd):
  DCall prog 244 [.slice (cI l) o,dI s] O (rS (dI (idxG s l 0)) O):=by
 refine en func244 ntmps244 ?_
 refine gz ?_
 refine CG [0,1,7] (fun (k:Nat)=>k<=l.length/\idxG s l 0=idxG s (l.drop k) k) (fun k=>[(8,dI k)]) (fun _=>O) (fun k=>l.length-k) (0) (by simp) (fun k hI=>?_)
 obtain⟨hk,hR⟩:=hI
 by_cases h:k<l.length
 ·rw[Ad h,idxG]at hR
  repeat' first|refine gz ?_|apply gy<;>intro hh
  ·rw[if_pos hh.symm]at hR
   exact fe1 hR
  ·exact⟨k+1,⟨by omega,by rw[hR,if_neg (fun e=>hh e.symm)]⟩,td1,wkR⟩
 ·rw[Aj h,idxG]at hR
  refine gz ?_
  exact fe1 hR
@[reducible,instance] def a244:=fun l s o O=>ah1 (@Sq l s o O)
theorem Sw(l:List Int)(s:Int)(o:Own)(O:Sig)(hl:l.length<=1073741824:=by exact sd):
  DCall prog 206 [.slice (cI l) o,dI s] O (rS (.bool (decide (0<=idxG s l 0))) O):=by
 refine en func206 ntmps206 ?_
 refine gz ?_
 exact fe1 trivial
theorem Ss(l:List (List D))(o:Own)(O:Sig):
  DCall prog 241 [.slice l o] O (rS (.slice l .clip) O):=by
 refine en func241 ntmps241 ?_
 refine gz ?_
 exact fe1 trivial
@[reducible,instance] def a241:=fun l o O=>ah0 (@Ss l o O)
theorem UK(a b:List Int)(o o':Own)(O:Sig)(hl:a.length<=1073741824:=by exact sd):
  DCall prog 69 [.slice (cI a) o,.slice (cI b) o'] O (rS (.bool (a==b)) O):=by
 refine en func69 ntmps69 ?_
 by_cases aY:a.length=b.length
 ·refine gz ?_ o69
  refine CG [0,1,12] (fun (k:Nat)=>k<=a.length/\(a=b ↔ a.drop k=b.drop k)) (fun k=>[(13,dI k)]) (fun _=>O) (fun k=>a.length-k) (0) (by simp) (fun k hI=>?_)
  obtain⟨hk,hR⟩:=hI
  by_cases h:k<a.length
  ·rw[Ad h,Ad (l:=b) (by omega),List.cons.injEq]at hR
   repeat' first|refine gz ?_ o69|apply gy<;>intro hh
   ·have:a≠b:=fun e=>hh (hR.1 e).1
    exact fe1 this
   ·exact⟨k+1,⟨by omega,by rw[hR];simp_all⟩,td1,wkR⟩
  ·have:a=b:=hR.2 (by rw[Aj (by omega),Aj (by omega)])
   refine gz ?_ o69
   exact fe1 this
 ·have:a≠b:=fun e=>aY (by rw[e])
  refine gz ?_ o69
  exact fe1 this
@[reducible,instance] def a69:=fun a b o o' O=>ah1 (@UK a b o o' O)
theorem Gt(l:List (List D))(o:Own)(O:Sig)(hl:l.length<=1073741824:=by exact sd)(hs:∀c∈l,c.length=1:=by exact sd):
  DCall prog 299 [.slice l o] O (rS (sl l) O):=by
 refine en func299 ntmps299 ?_
 refine gz ?_
 refine isN (fun b hb=>?_)
 repeat' first|refine gz ?_|apply gy<;>intro hh
 ·exact fe1 (d':=sl []) (hb hh)
 ·by_cases h:l=[]
  ·refine app0 ?_
   refine gz ?_
   exact fe1 (d':=sl []) h
  ·refine appC (fun i hi=>?_) (hne:=by simp[h]) (hlen':=hs)
   refine gz ?_
   exact finS (U':=O) (es:=l) ⟨rfl,rfl⟩ ((Sub.refl _).set hi)
def inB(n:Int):Bool:=decide (-1000000000<=n)&&decide (n<=1000000000)
theorem Si(n:Int)(O:Sig):DCall prog 253 [dI n] O (rS (.bool (inB n)) O):=by
 refine en func253 ntmps253 ?_
 by_cases h : -1000000000<=n
 ·refine gz ?_
  (refine fin1 (U':=O) ?_;exact⟨by first|rfl|(simp[inB,h];done)|(simp_all [inB,h];done)|(rw[Am,Bool.eq_iff_iff];simp_all [inB,h]<;>omega),rfl⟩)
 ·refine gz ?_
  (refine fin1 (U':=O) ?_;exact⟨by first|rfl|(simp[inB,h];done)|(simp_all [inB,h];done)|(rw[Am,Bool.eq_iff_iff];simp_all [inB,h]<;>omega),rfl⟩)
@[reducible,instance] def a253:=fun n O=>ah0 (@Si n O)
mutual
def Fact.size:Fact->Nat
 |.mk _ _ _ _ _ k=>1+Fact.sizes k
def Fact.sizes:List Fact->Nat
 |[]=>0
 |f::l=>f.size+Fact.sizes l
end
theorem Fact.size_eq(f:Fact):f.size=1+Fact.sizes f.kids:=by cases f;rw[Fact.size];rfl
theorem Fact.sizes_len: ∀l:List Fact,l.length<=Fact.sizes l
 |[]=>by simp
 |f::l=>by
  have:=Fact.sizes_len l
  rw[Fact.sizes,Fact.size_eq];simp;omega
theorem Fact.sizes_mem: ∀{l:List Fact}{x:Fact},x∈l->x.size<=Fact.sizes l
 |[],_,h=>by cases h
 |f::l,x,h=>by
  rw[Fact.sizes]
  rcases List.mem_cons.1 h with rfl|h
  ·omega
  ·have:=Fact.sizes_mem h;omega
theorem Fact.kid_size{f:Fact}{k:Nat}(h:k<f.kids.length):(f.kids[k]).size<f.size:=by
 have:=Fact.sizes_mem (List.getElem_mem h)
 rw[Fact.size_eq f];omega
def mx(x y:Int):Int:=if y>x then y else x
def EX(o:Int):Bool:=decide (o=2)||decide (o=3)||decide (o=4)
mutual
def Fact.speaks:Fact->Int
 |.mk o a _ _ _ k=>Fact.speakss k (if EX o then IntKind.i64.wrap (a+1) else 0)
def Fact.speakss:List Fact->Int->Int
 |[],n=>n
 |f::l,n=>Fact.speakss l (mx n f.speaks)
end
theorem Fact.speaks_eq(f:Fact):f.speaks=Fact.speakss f.kids (if EX f.op then IntKind.i64.wrap (f.arg+1) else 0):=by cases f;rw[Fact.speaks];rfl
theorem IK(f:Fact)(O:Sig)(hf:f.size<=1073741824:=by exact sd):
  DCall prog 205 [.agg (CY f)] O (rS (dI f.speaks) O):=by
 have hsz:=Fact.size_eq f
 have bj:=Fact.sizes_len f.kids
 have aQ:=(Fact.speaks_eq f).symm
 have hL:EX f.op=(decide (f.op=2)||decide (f.op=3)||decide (f.op=4)):=rfl
 refine en func205 ntmps205 ?_
 repeat' first|refine gz ?_|apply gy<;>intro hh
 all_goals
  refine Di [2,23,24,34] (fun (k:Nat) (m:Int)=>k<=f.kids.length/\Fact.speakss (f.kids.drop k) m=f.speaks) (fun k m=>[(25,dI k),(3,dI m)]) (fun _ _=>O) (fun k _=>f.kids.length-k) (0) ((if EX f.op then IntKind.i64.wrap (f.arg+1) else 0)) (by exact⟨by omega,aQ⟩) (fun k m hI=>?_)
  obtain⟨hk,hR⟩:=hI
  clear hL
  by_cases h:k<f.kids.length
  ·rw[Ad h,Fact.speakss]at hR
   have bi:=Fact.kid_size h
   repeat' first|refine gz ?_|refine Ca (IK (f.kids[k]) O (by omega)) ?_|refine callP (IK (f.kids[k]) O (by omega)) ?_|refine gz ?_|apply gy<;>intro hh
   have hm:mx m (f.kids[k]).speaks=if m<(f.kids[k]).speaks then(f.kids[k]).speaks else m:=rfl
   exact⟨k+1,mx m (f.kids[k]).speaks,⟨by omega,hR⟩,td1,wkR⟩
  ·rw[Aj h,Fact.speakss]at hR
   refine gz ?_
   exact fe1 hR
termination_by SizeOf.sizeOf f
decreasing_by all_goals exact Fact.lt (List.getElem_mem _)
@[reducible,instance] def a205:=fun f O=>ah1 (@IK f O)
mutual
def Fact.depth:Fact->Int
 |.mk _ _ _ _ _ k=>Fact.depths k 0+1
def Fact.depths:List Fact->Int->Int
 |[],n=>n
 |f::l,n=>Fact.depths l (mx n f.depth)
end
theorem RF(f:Fact)(O:Sig):DCall prog 374 [.agg (CY f)] O (rS (.bool (EX f.op)) O):=by
 refine en func374 ntmps374 ?_
 repeat' first|refine gz ?_|apply gy<;>intro hh
 any_goals (first|(refine fin1 (U':=O) ?_;exact⟨by first|rfl|(simp[EX];done)|(simp_all [EX];done)|(rw[Am,Bool.eq_iff_iff];simp_all [EX]<;>omega),rfl⟩)|fail)
@[reducible,instance] def a374:=fun f O=>ah0 (@RF f O)
def D8(op:Int):Nat:=if op=5 then 1 else if op=6\/op=7 then 2 else 0
theorem RG(o:Int)(O:Sig):DCall prog 373 [dI o] O (rS (dI (D8 o)) O):=by
 refine en func373 ntmps373 ?_
 repeat' first|refine gz ?_|apply gy<;>intro hh
 any_goals (first|(refine fin1 (U':=O) ?_;exact⟨by first|rfl|(simp[D8];done)|(simp_all [D8];done)|(rw[Am,Bool.eq_iff_iff];simp_all [D8]<;>omega),rfl⟩)|fail)
@[reducible,instance] def a373:=fun o O=>ah0 (@RG o O)
theorem Se(b:Bool)(O:Sig):DCall prog 258 [.bool b] O (rS (dI (if b then 0 else 2)) O):=by
 refine en func258 ntmps258 ?_
 repeat' first|refine gz ?_|apply gy<;>intro hh
 any_goals (first|exact fe1 trivial|fail)
@[reducible,instance] def a258:=fun b O=>ah0 (@Se b O)
def LS(op:Int):Option Int:=
 if op=1\/op=2\/op=3\/op=6\/op=18 then some 0 else if op=4\/op=8\/op=17 then some 1 else
 if op=7\/op=9\/op=11\/op=12\/op=13\/op=14\/op=15\/op=16 then some 2 else if op=10 then some 3 else none
def CH(p:BProg)(x:BNode):Int:=match LS x.op with
 |some k=>k
 |none=>if x.op=5/\0<=x.n/\x.n<p.gens.length then p.gens.getD x.n.toNat 0 else -1
def CF(p:BProg)(x:BNode)(size:Int):Bool:=
 if x.op=1 then inB x.n else if x.op=3 then decide (0<=x.n/\x.n<size) else if x.op=4\/x.op=7 then decide (0<=x.n/\x.n<p.slots) else
 if x.op=5 then decide (0<=x.n/\x.n<p.gens.length) else if x.op=6\/x.op=8 then decide (3<=x.n/\x.n<3+p.classes.length) else decide (x.n=0)
theorem SA(p:BProg)(x:BNode)(size:Int)(O:Sig)(hl:p.gens.length<=1073741824:=by exact sd)(hc:p.classes.length<=1073741824:=by exact sd):
  DCall prog 201 [.agg (Ag p),.agg (Kk x),dI size] O (rS (.bool (CF p x size)) O):=by
 refine en func201 ntmps201 ?_
 repeat' first|refine gz ?_|apply gy<;>intro hh
 any_goals (first|(refine fin1 (U':=O) ?_;exact⟨by first|rfl|(simp[CF];done)|(simp_all [CF];done)|(rw[Am,Bool.eq_iff_iff];simp_all [CF]<;>omega),rfl⟩)|fail)
@[reducible,instance] def a201:=fun p x size O=>ah2 (@SA p x size O)
def DJ(op:Int):D:=match LS op with
 |some k=>.iface 276 (dI k)
 |none=>if op=5 then .iface 277 (.agg []) else .niliface
theorem Sz(op:Int)(O:Sig):DCall prog 202 [dI op] O (rS (DJ op) O):=by
 refine en func202 ntmps202 ?_
 repeat' first|refine gz ?_|apply gy<;>intro hh
 any_goals (first|(refine fin1 (U':=O) ?_;exact⟨by first|rfl|(simp[DJ,LS];done)|(simp_all [DJ,LS];done)|(rw[Am,Bool.eq_iff_iff];simp_all [DJ,LS]<;>omega),rfl⟩)|fail)
@[reducible,instance] def a202:=fun op O=>ah0 (@Sz op O)
theorem PZ{xs bs:List D}(h:WkL xs bs):WkD (.agg xs) (.agg bs):=by
 rintro g v ⟨vs,e,r⟩
 exact⟨vs,e,h.rep r⟩
def ownersF:List BClass->Nat->List Int
 |[],_=>[]
 |c::r,i=>List.replicate c.slots.length ((i:Int)+3)++ownersF r (i+1)
def NK(p:BProg):World:=⟨p.classes.map (·.parents),ownersF p.classes 0⟩
theorem RN(l:List (List D))(o:Own)(O:Sig):
  DCall prog 341 [.slice l o] O (rS (.slice l .clip) O):=by
 refine en func341 ntmps341 ?_
 refine gz ?_
 exact fe1 trivial
@[reducible,instance] def a341:=fun l o O=>ah0 (@RN l o O)
theorem II(c:BClass)(O:Sig)(hl:c.parents.length<=1073741824:=by exact sd):
  DCall prog 298 [.agg (J6 c)] O (rS (sl (cI c.parents)) O):=by
 refine en func298 ntmps298 ?_
 repeat' first|refine gz ?_|refine Ca (Gt (cI c.parents) .no O (by simpa using hl) (Cb _)) ?_|refine callP (Gt (cI c.parents) .no O (by simpa using hl) (Cb _)) ?_|refine gz ?_|apply gy<;>intro hh
 exact fe1 trivial
@[reducible,instance] def a298:=fun c O=>ah1 (@II c O)
theorem RX(l:List BClass)(O:Sig)(hl:l.length<=1073741824:=by exact sd)(hp:∀c∈l,c.parents.length<=1073741824:=by exact sd):
  DCall prog 297 [sl (l.map J6),.func (.func 298) [] []] O (rS (sl (cII (l.map (·.parents)))) O):=by
 refine en func297 ntmps297 ?_
 refine gz ?_
 refine HY 5 1 (fun i hi=>?_)
 refine Di [1,4,8,9,21,22] (fun (k:Nat) (out:List (List Int))=>k<=l.length/\out.length=k/\out++(l.drop k).map (·.parents)=l.map (·.parents)) (fun k out=>[(10,dI k),(5,.slice (cII out) (.tag i))]) (fun _ out=>O.set i (.tail 1 out.length)) (fun k _=>l.length-k) (0) ([]) (by simp) (fun k out hI=>?_)
 obtain⟨hk,ho,hR⟩:=hI
 by_cases h:k<l.length
 ·rw[Ad h]at hR
  have ak:=hp _ (List.getElem_mem h)
  repeat' first|refine Ca (II (l[k]) _ ak) ?_|refine callP (II (l[k]) _ ak) ?_|refine gz ?_|apply gy<;>intro hh
  exact⟨k+1,out++[(l[k]).parents],⟨by omega,by simp[ho],by rw[List.append_assoc];exact hR⟩,td1,wkR⟩
 ·rw[Aj h]at hR
  simp at hR
  refine gz ?_
  exact finS (U':=O) (es:=cII out) ⟨by rw[hR],rfl⟩ ((Sub.refl _).set hi)
@[reducible,instance] def a297:=fun l O=>ah2 (@RX l O)
theorem Sn(p:BProg)(O:Sig)(hl:p.classes.length<=1073741824:=by exact sd)(hp:∀c∈p.classes,c.parents.length<=1073741824:=by exact sd):
  DCall prog 250 [.agg (Ag p)] O (rS (sl (cII (p.classes.map (·.parents)))) O):=by
 refine en func250 ntmps250 ?_
 refine gz ?_
 exact fe1 trivial
@[reducible,instance] def a250:=fun p O=>ah2 (@Sn p O)
def ownF(p:BProg)(c:Int):Bool:=decide (3<=c)&&decide (c<3+p.classes.length)
section
variable {O:Sig}{r i j:Nat}{a:D}
def wS(O:Sig)(r i j:Nat)(a:D)(out:List Int):Sig:=((O.set r (.cells [.nils,.nils])).set i (.tail 1 out.length)).set j (.cells [a,.slice (cI out) (.tag i)])
theorem wS_j(out:List Int):wS O r i j a out j=some (.cells [a,.slice (cI out) (.tag i)]):=w6 ..
theorem wS_i(ae:i≠j)(out:List Int):wS O r i j a out i=some (.tail 1 out.length):=by unfold wS;rw[w7 _ _ ae,w6]
theorem wS_r(aG:j≠r)(aH:i≠r)(out:List Int):wS O r i j a out r=some (.cells [.nils,.nils]):=by unfold wS;rw[w7 _ _ (Ne.symm aG),w7 _ _ (Ne.symm aH),w6]
theorem wS_next(ae:i≠j)(out:List Int)(x:Int):((wS O r i j a out).set i (.tail 1 (out.length+1))).set j (.cells [a,.slice (cI out++[[dI x]]) (.tag i)])=wS O r i j a (out++[x]):=by
 unfold wS
 rw[Sig.set_comm _ _ _ (Ne.symm ae),w8,w8]
 simp[cI]
theorem wS_nil(ae:i≠j){x:DObj}:(((O.set r (.cells [.nils,.nils])).set j x).set i (.tail 1 0)).set j (.cells [a,.slice [] (.tag i)])=wS O r i j a []:=by
 unfold wS
 rw[Sig.set_comm _ _ _ (Ne.symm ae),w8]
 simp[cI]
theorem wS_sub(hr:O r=none)(hi:O i=none)(hj:O j=none)(out:List Int):Sub O (wS O r i j a out):=by unfold wS;exact(((Sub.refl _).set hr).set hi).set hj
end
theorem Sy(p:BProg)(O:Sig)(hl:p.classes.length<=1073741824:=by exact sd)(hp:∀c∈p.classes,c.parents.length<=1073741824:=by exact sd)(aP:∀c∈p.classes,c.slots.length<=1073741824:=by exact sd)(ho:(ownersF p.classes 0).length<=1073741824:=by exact sd):
  DCall prog 203 [.agg (Ag p)] O (rS (.agg (MI (NK p))) O):=by
 refine en func203 ntmps203 ?_
 refine gz ?_ [] [2,3]
 refine newV (fun r hr=>?_)
 refine gz ?_ [] [2,3]
 refine newV (fun j hj=>?_)
 obtain⟨aG,hj⟩:=B5 hj
 refine gz ?_ [] [2,3]
 refine Ci j 1 1 (w6 ..) rfl fun i hi=>?_
 obtain⟨ae,hi⟩:=B5 hi
 obtain⟨aH,hi⟩:=B5 hi
 simp only[w8,List.set_cons_succ,List.set_cons_zero]
 rw[wS_nil ae]
 have hS:=fun out=>wS_j (O:=O) (r:=r) (i:=i) (j:=j) (a:=sl (cII (p.classes.map (·.parents)))) out
 have a8:=fun out=>wS_i (O:=O) (r:=r) (a:=sl (cII (p.classes.map (·.parents)))) ae out
 have aZ:=fun out=>wS_r (O:=O) (a:=sl (cII (p.classes.map (·.parents)))) aG aH out
 have aT:=fun out x=>wS_next (O:=O) (r:=r) (a:=sl (cII (p.classes.map (·.parents)))) ae out x
 have hne:=fun (s:Sig) (o:DObj)=>w7 s o (Ne.symm ae)
 refine Di [2,3,10,11,31] (fun (k:Nat) (out:List Int)=>k<=p.classes.length/\out++ownersF (p.classes.drop k) k=ownersF p.classes 0) (fun k _=>[(12,dI k)]) (fun _ out=>wS O r i j (sl (cII (p.classes.map (·.parents)))) out) (fun k _=>p.classes.length-k) (0) ([]) (by simp) (fun k out hI=>?_)
 obtain⟨hk,hR⟩:=hI
 by_cases h:k<p.classes.length
 ·rw[Ad h,ownersF]at hR
  have bc:=aP _ (List.getElem_mem h)
  refine gf hS ?_ [] [2,3]
  refine Di [2,3,4,5,10,11,12,13,14,15,16,17,18,19,30,31] (fun (q:Nat) (out:List Int)=>q<=(p.classes[k]).slots.length/\out++(List.replicate ((p.classes[k]).slots.length-q) ((k:Int)+3)++ownersF (p.classes.drop (k+1)) (k+1))=ownersF p.classes 0) (fun q _=>[(20,dI q)]) (fun _ out=>wS O r i j (sl (cII (p.classes.map (·.parents)))) out) (fun q _=>(p.classes[k]).slots.length-q) (0) (out) (by simpa using hR) (fun q out hI=>?_)
  obtain⟨hq,hR⟩:=hI
  have hlen:out.length+((p.classes[k]).slots.length-q)<=1073741824:=by
   have:=congrArg List.length hR
   simp only[List.length_append,List.length_replicate]at this
   omega
  by_cases h':q<(p.classes[k]).slots.length
  ·refine gf (gi hS (gi a8 (gi hne aT))) ?_ [] [2,3]
   exact⟨q+1,out++[(k:Int)+3],by refine⟨by omega,?_⟩;rw[<-hR];obtain⟨m,hm⟩:∃m,(p.classes[k]).slots.length-q=m+1:=⟨(p.classes[k]).slots.length-q-1,by omega⟩;rw[hm,show(p.classes[k]).slots.length-(q+1)=m by omega,List.replicate_succ];simp,td1,wkR⟩
  ·rw[show(p.classes[k]).slots.length-q=0 by omega]at hR
   refine gf hS ?_ [] [2,3]
   exact⟨k+1,out,⟨by omega,by simpa using hR⟩,td1,wkR⟩
 ·rw[Aj h,ownersF,List.append_nil]at hR
  refine gf (gi hS aZ) ?_ [] [2,3]
  refine IN Ac (ds:=[.agg [sl (cII (p.classes.map (·.parents))),.slice (cI out) (.tag i)]]) ?_ (PZ (by rw[hR];simp[NK])) (U':=O) (.set (wS_sub hr hi hj out) hr) ⟨rfl,rfl⟩
  simp[f70]
@[reducible,instance] def a203:=fun p O=>ah4 (@Sy p O)
def Ix{α:Type}[DecidableEq α](l:List α)(s:List α):List α:=l.foldl (fun s x=>ins x s) s
def hasG(cs:List BClass):Nat->List Int->List Int->List Int
 |0,_,out=>out
 |n+1,up,out=>match cs[n]? with
  |some c=>if(n:Int)+3∈up then hasG cs n (Ix c.parents up) (out++c.slots) else hasG cs n up out
  |none=>hasG cs n up out
def hasP(p:BProg)(c:Int):List Int:=ED (hasG p.classes (c-2).toNat [c] [])
theorem E4(p:BProg):wtL (fun c:BClass=>c.slots.length) p.classes<p.wt:=by
 have:∀l:List BClass,wtL (fun c:BClass=>c.slots.length) l<=wtL BClass.wt l:=fun l=>by
  induction l with
  |nil=>exact Nat.le_refl _
  |cons c l ih=>simp only[wtL,BClass.wt];omega
 have:=this p.classes
 unfold BProg.wt;omega
theorem Kn{α:Type}(f:α->Nat)(l:List α)(n:Nat)(h:n<l.length):wtL f (l.take (n+1))=wtL f (l.take n)+f l[n]:=by
 rw[List.take_succ_eq_append_getElem h,MT];simp[wtL]
theorem FD{α:Type}(f:α->Nat)(l:List α)(n:Nat):wtL f (l.take n)<=wtL f l:=by
 have:=MT f (l.take n) (l.drop n)
 rw[List.take_append_drop]at this;omega
theorem Uk{O:Sig}{st:MR}{l:List Int}(h:mOK O 1 st (cI l)):mOK O 1 st (cI (ED l)):=by
 cases st with
 |none=>
  have:cI l=[]:=h
  have:l=[]:=by simpa[cI] using this
  subst this;rw[show ED []=[] by simp[ED]];exact h
 |some x=>
  obtain⟨h1,h2,h3,h4⟩:=h
  have e:=G1 l
  refine⟨h1,?_,by simpa[e] using h3,Cb _⟩
  rw[List.length_append,Av (Cb _),MJ]at h2⊢
  omega
theorem SK(p:BProg)(c:Int)(O:Sig)(hp:p.wt<=1073741824:=by exact sd)(hc:3<=c:=by exact sd)(bk:c<3+p.classes.length:=by exact sd):DCall prog 173 [.agg (Ag p),dI c] O (rS (sl (cI (hasP p c))) O):=by
 obtain⟨p1,p2,p3,p4,p5,p6,p7⟩:=p.wt_le
 have ws:=E4 p
 refine en func173 ntmps173 ?_
 refine gz ?_
 refine newSI (fun i hi=>?_)
 refine gz ?_
 refine Nf [2,4,5,45,46,47,48] (fun (n:Nat) (up:List Int) (out:List Int) (st:MR)=>n<=p.classes.length/\out.length+wtL (fun c:BClass=>c.slots.length) (p.classes.take n)<=1073741824/\mOK (O.set i (.map (eSI up))) 1 st (cI out)/\ED (hasG p.classes n up out)=hasP p c) (fun n _ out st=>[(7,dI (n+2)),(6,mD st out.length)]) (fun _ up out st=>mS (O.set i (.map (eSI up))) st (cI out)) (fun n _ _ _=>n) ((c-2).toNat) ([c]) ([]) (none) (by(refine⟨by omega,?_,rfl,rfl⟩;have:=FD (fun c:BClass=>c.slots.length) p.classes (c-2).toNat;simp;omega)) (fun n up out st hI=>?_)
 obtain⟨hn,hlen,hm,hR⟩:=hI
 have hT:=fun k (h:k<p.classes.length)=>Kn (fun c:BClass=>c.slots.length) p.classes k h
 obtain⟨bf,ai,aM⟩:=mS_at hm
 rcases n with _|n
 ·rw[hasG]at hR
  refine gz ?_
  refine A3 (Su out st _ hm (by simp[wtL]at hlen;omega)) (fun d U' hr=>?_) (fun d U' hr=>by cases hr.1)
  obtain⟨aR,rfl⟩:=hr
  cases aR
  have au:=Uk hm
  rw[<-G1 out]
  rw[hR]at au⊢
  refine mfr 6 ?_ (hm:=au)
  refine gz ?_
  exact fe1 (d':=sl (cI (hasP p c))) trivial
 ·have h:n<p.classes.length:=by omega
  have bn:=hT n h
  have hw:=p5 n h
  have bb:(p.classes[n]).wt=1+(p.classes[n]).parents.length+(p.classes[n]).slots.length+(p.classes[n]).inits.length:=rfl
  rw[hasG,List.getElem?_eq_getElem h]at hR
  by_cases aw:(n:Int)+3∈up
  ·simp only[aw,if_true]at hR
   have e3:(n:Int)+1+2=n+3:=by omega
   have aL:((n:Int)+1+2-3).toNat=n:=by omega
   refine gf (gi ai (gi aM (gi aw (gi e3 aL)))) ?_
   refine mappI (fun st' au=>?_)
   obtain⟨aD,aA,ay⟩:=mS_at au
   refine gf (gi aA (gi ay (gi aw (gi e3 aL)))) ?_
   refine CG [2,4,5,6,7,14,15,16,17,18,19,20,21,22,23,24,25,26,27,28,29,30,31,32,33,34,35,36,37,45,46,47,48] (fun (k:Nat)=>k<=(p.classes[n]).parents.length) (fun k=>[(38,dI k)]) (fun k=>mS (O.set i (.map (eSI (Ix ((p.classes[n]).parents.take k) up)))) st' (cI (out++(p.classes[n]).slots))) (fun k=>(p.classes[n]).parents.length-k) (0) td3 (fun k hI=>?_)
   by_cases hk:k<(p.classes[n]).parents.length
   ·have hs:Ix ((p.classes[n]).parents.take (k+1)) up=ins (p.classes[n]).parents[k] (Ix ((p.classes[n]).parents.take k) up):=by unfold Ix;rw[List.take_succ_eq_append_getElem hk,List.foldl_append];rfl
    refine gf (gi aA ay) ?_
    rw[<-hs]
    exact⟨k+1,td2,td1,wkR⟩
   ·have hs:(p.classes[n]).parents.take k=(p.classes[n]).parents:=List.take_of_length_le (by omega)
    rw[hs]
    have e2:(n:Int)+3-1=n+2:=by omega
    refine gf (gi e3 e2) ?_
    exact⟨n,Ix (p.classes[n]).parents up,out++(p.classes[n]).slots,st',⟨by omega,by rw[List.length_append];omega,aD _,hR⟩,td1,wkR⟩
  ·simp only[aw,if_false]at hR
   have e3:(n:Int)+1+2=n+3:=by omega
   have e2:(n:Int)+3-1=n+2:=by omega
   refine gf (gi ai (gi aM (gi aw (gi e3 e2)))) ?_
   exact⟨n,up,out,st,⟨by omega,by omega,hm,hR⟩,td1,wkR⟩
@[reducible,instance] def a173:=fun p c O=>ah3 (@SK p c O)
end Go.DL
namespace Go.DL
open Go.Proofs.Tryz
open Go Go.Proofs
set_option maxHeartbeats 4000000
theorem RR(l:List (List D))(o:Own)(O:Sig):
  DCall prog 337 [.slice l o] O (rS (.slice l .clip) O):=by
 refine en func337 ntmps337 ?_
 refine gz ?_
 exact fe1 trivial
@[reducible,instance] def a337:=fun l o O=>ah0 (@RR l o O)
theorem Of{α:Type}[DecidableEq α](s:α): ∀(l:List α) (k:Nat),(0<=idxG s l k) ↔ s∈l
 |[],_=>by simp[idxG]
 | x::r,k=>by
  rw[idxG]
  by_cases h:x=s
  ·simp[h]
  ·rw[if_neg h,Of s r (k+1)]
   simp[Ne.symm h]
end Go.DL
namespace Go.DL
open Go.Proofs.Tryz
open Go Go.Proofs
set_option maxHeartbeats 8000000
theorem Ur{α:Type}[DecidableEq α](s:α)(l:List α):decide (0<=idxG s l 0)=decide (s∈l):=by
 rw[Bool.eq_iff_iff];simp only[decide_eq_true_eq];exact Of s l 0
theorem Px(l:List Int)(s:Int)(o:Own)(O:Sig)(hl:l.length<=1073741824:=by exact sd):
  DCall prog 206 [.slice (cI l) o,dI s] O (rS (.bool (decide (s∈l))) O):=by
 rw[<-Ur];exact Sw l s o O hl
instance (priority:=high) a206m (l:List Int) (s:Int) (o:Own) (O:Sig):Ans 206 [.slice (cI l) o,dI s] O ((l.length<=1073741824)) (.bool (decide (s∈l))):=⟨fun hl=>Px l s o O (hl:=hl)⟩
def El(i:Nat):List Int->List Int->Bool
 |_,[]=>true
 |seen,p::r=>(decide (3<=p/\p<3+i)&&!decide (p∈seen))&&El i (seen++[p]) r
def ID(i:Nat)(l:List Int):Bool:=decide (l.length<=3)&&El i [] l
def CO:Nat->List (List Int)->Bool
 |_,[]=>true
 |i,l::r=>ID i l&&CO (i+1) r
def Cw(g:List (List Int)):Bool:=decide (g.length<=16)&&CO 0 g
theorem FY{α:Type}{l:List α}{k:Nat}(h:k<l.length):l.take (k+1)=l.take k++[l[k]]:=by rw[List.take_succ_eq_append_getElem h]
theorem RV(g:List (List Int))(o:Own)(O:Sig)(hl:g.length<=1073741824:=by exact sd)(aW:∀x∈g,x.length<=1073741824:=by exact sd):
  DCall prog 300 [.slice (cII g) o] O (rS (.bool (Cw g)) O):=by
 refine en func300 ntmps300 ?_
 by_cases bp:16<g.length
 ·refine gz ?_
  (refine fin1 (U':=O) ?_;exact⟨by first|rfl|(simp[Cw];done)|(simp_all [Cw];done)|(rw[Am,Bool.eq_iff_iff];simp_all [Cw]<;>omega),rfl⟩)
 refine gz ?_
 refine CG [10,11] (fun (k:Nat)=>k<=g.length/\Cw g=CO k (g.drop k)) (fun k=>[(12,dI k)]) (fun _=>O) (fun k=>g.length-k) (0) (by exact⟨by omega,by simp[Cw];omega⟩) (fun k hI=>?_)
 obtain⟨hk,hR⟩:=hI
 by_cases h:k<g.length
 ·have hx:=aW _ (List.getElem_mem h)
  rw[Ad h,CO,ID]at hR
  by_cases h3:3<g[k].length
  ·refine gz ?_
   exact fe1 hR
  ·have ba:decide (g[k].length<=3)=true:=by simp;omega
   rw[ba,Bool.true_and]at hR
   refine gz ?_
   refine CG [3,4,10,11,12,13,14,15,16,17,18,19,20,21,43] (fun (q:Nat)=>q<=g[k].length/\Cw g=(El k (g[k].take q) (g[k].drop q)&&CO (k+1) (g.drop (k+1)))) (fun q=>[(22,dI q)]) (fun _=>O) (fun q=>g[k].length-q) (0) (by exact⟨by omega,by simpa using hR⟩) (fun q hI=>?_)
   obtain⟨hq,ap⟩:=hI
   by_cases h':q<g[k].length
   ·rw[Ad h',El,<-FY h']at ap
    repeat' first|refine gz ?_|apply gy<;>intro hh
    ·have hn:¬(3<=g[k][q]/\g[k][q]<3+(k:Int)):=by omega
     rw[decide_eq_false hn]at ap
     exact fe1 ap
    ·have hn:¬(3<=g[k][q]/\g[k][q]<3+(k:Int)):=by omega
     rw[decide_eq_false hn]at ap
     exact fe1 ap
    ·exact fe1 ap
    ·exact⟨q+1,⟨by omega,by rw[ap];simp_all⟩,td1,wkR⟩
   ·rw[Aj h',El]at ap
    refine gz ?_
    exact⟨k+1,⟨by omega,by simpa using ap⟩,td1,wkR⟩
 ·rw[Aj h,CO]at hR
  refine gz ?_
  exact fe1 hR
@[reducible,instance] def a300:=fun g o O=>ah2 (@RV g o O)
def Gp(all:List (List Int))(c:Int):Bool:=all.all fun x=> !decide (c∈x.tail)
def Ga(all:List (List Int)):Bool->List (List Int)->Option Int×Bool
 |s,[]=>(none,s)
 |s,[]::r=>Ga all s r
 |_,(x::_)::r=>if Gp all x then(some x,true) else Ga all true r
def Ge:Nat->List (List Int)->List Int->List Int×Bool
 |0,_,out=>(out,false)
 |n+1,ls,out=>match Ga ls false ls with
  |(none,s)=>(out, !s)
  |(some c,_)=>Ge n (ls.map fun l=>l.filter fun x=> !decide (x=c)) (out++[c])
def totL:List (List Int)->Nat
 |[]=>0
 |l::r=>l.length+totL r
def D0(ls:List (List Int)):List Int×Bool:=Ge (totL ls+1) ls []
theorem NQ{l:List Int}: ∀{ls:List (List Int)},l∈ls->l.length<=totL ls
 |x::r,h=>by
  rcases List.mem_cons.1 h with rfl|h
  ·simp[totL]
  ·have:=NQ h;simp only[totL];omega
theorem EM{all:List (List Int)}{c:Int}{b:Bool}: ∀{s:Bool}{ls:List (List Int)},Ga all s ls=(some c,b)->∃l∈ls,c∈l
 |s,[],h=>by simp[Ga]at h
 |s,[]::r,h=>by
  rw[Ga]at h
  obtain⟨l,h1,h2⟩:=EM h
  exact⟨l,by simp[h1],h2⟩
 | s,(x::t)::r,h=>by
  rw[Ga]at h
  by_cases hf:Gp all x=true
  ·rw[if_pos hf]at h
   exact⟨x::t,by simp,by simp only[Prod.mk.injEq,Option.some.injEq]at h;simp[h.1]⟩
  ·rw[if_neg hf]at h
   obtain⟨l,h1,h2⟩:=EM h
   exact⟨l,by simp[h1],h2⟩
theorem Q8(c:Int): ∀ls:List (List Int),totL (ls.map fun l=>l.filter fun x=> !decide (x=c))<=totL ls
 |[]=>by simp[totL]
 |l::r=>by
  have:=Q8 c r
  have:=List.length_filter_le (fun x=> !decide (x=c)) l
  simp only[List.map_cons,totL];omega
theorem Rv{c:Int}{l:List Int}(h:c∈l):(l.filter fun x=> !decide (x=c)).length<l.length:=by
 induction l with
 |nil=>simp at h
 | cons x r ih =>
  have:=List.length_filter_le (fun x=> !decide (x=c)) r
  by_cases hx:x=c
  ·simp[hx];omega
  ·have hr:c∈r:=by rcases List.mem_cons.1 h with rfl|h;exact absurd rfl hx;exact h
   have:=ih hr
   simp[hx];omega
theorem N2{c:Int}{l:List Int}(hc:c∈l): ∀{ls:List (List Int)},l∈ls->totL (ls.map fun l=>l.filter fun x=> !decide (x=c))<totL ls
 | x::r,h=>by
  simp only[List.map_cons,totL]
  rcases List.mem_cons.1 h with rfl|h
  ·have:=Q8 c r;have:=Rv hc;omega
  ·have:=N2 hc h
   have:=List.length_filter_le (fun x=> !decide (x=c)) x
   omega
def unf:D:=.iface 316 (.agg [])
theorem SD(b:Bool)(O:Sig):DCall prog 197 [.bool b] O fun x U'=>x=(if b then .ret (.tup []) else .panic unf)/\U'=O:=by
 refine en func197 ntmps197 ?_
 cases b
 ·refine gz ?_
  refine pan ?_
  exact finP (U':=O) ⟨rfl,rfl⟩
 ·refine gz ?_
  exact DK (U':=O) ⟨rfl,rfl⟩
@[reducible,instance] def a197:=fun b O=>gh0 (@SD b O)
theorem Gs(l:List Int)(q:Int->Bool)(g:Nat)(cap:List D)(o:Own)(O:Sig)(hl:l.length<=1073741824)
  (hg:∀x∈l, ∀U',Sub O U'->DCall prog g ([]++[dI x]++cap) U' fun r S''=>r=.ret (.bool (q x))/\S''=U') :
  DCall prog 385 [.slice (cI l) o,.func (.func g) [] cap] O (rS (sl (cI (l.filter q))) O):=by
 refine en func385 ntmps385 ?_
 refine gz ?_
 refine HY 5 1 (fun i hi=>?_)
 refine Di [1,4,8,9,22] (fun (k:Nat) (out:List Int)=>k<=l.length/\out.length<=k/\out++(l.drop k).filter q=l.filter q) (fun k out=>[(10,dI k),(5,.slice (cI out) (.tag i))]) (fun _ out=>O.set i (.tail 1 out.length)) (fun k _=>l.length-k) (0) ([]) (by simp) (fun k out hI=>?_)
 obtain⟨hk,hlen,hR⟩:=hI
 by_cases h:k<l.length
 ·rw[Ad h,List.filter_cons]at hR
  repeat' first|refine Ca (hg (l[k]) (List.getElem_mem h) _ ((Sub.refl _).set hi)) ?_|refine callP (hg (l[k]) (List.getElem_mem h) _ ((Sub.refl _).set hi)) ?_|refine gz ?_|apply gy<;>intro hh
  ·exact⟨k+1,out++[l[k]],by refine⟨by omega,by simp;omega,?_⟩;rw[<-hR];simp[hh],td1,wkR⟩
  ·exact⟨k+1,out,by refine⟨by omega,by omega,?_⟩;rw[<-hR];simp[hh],td1,wkR⟩
 ·rw[Aj h]at hR
  simp at hR
  refine gz ?_
  exact finS (U':=O) (es:=cI out) ⟨by rw[hR],rfl⟩
theorem M6(c:Int)(O:Sig):DCall prog 395 [dI c] O (rS (.bool (!decide (c=0))) O):=by
 refine en func395 ntmps395 ?_
 refine gz ?_
 exact fe1 trivial
theorem RE(l:List Int)(o:Own)(O:Sig)(hl:l.length<=1073741824:=by exact sd):DCall prog 384 [.slice (cI l) o] O (rS (sl (cI (l.filter fun c=> !decide (c=0)))) O):=by
 refine en func384 ntmps384 ?_
 repeat' first|refine gz ?_|refine Ca (Gs l (fun c=> !decide (c=0)) 395 [] o O hl (fun x _ U' _=>M6 x U')) ?_|refine callP (Gs l (fun c=> !decide (c=0)) 395 [] o O hl (fun x _ U' _=>M6 x U')) ?_|refine gz ?_|apply gy<;>intro hh
 exact fe1 trivial
@[reducible,instance] def a384:=fun l o O=>ah1 (@RE l o O)
theorem M7(c x:Int)(O:Sig):DCall prog 386 [dI c,.cptr [dI x] 0] O (rS (.bool (!decide (c=x))) O):=by
 refine en func386 ntmps386 ?_
 refine gz ?_
 exact fe1 trivial
def parentsF(g:List (List Int))(c:Int):List Int:=if c<3 then [] else(g[(c-3).toNat]?).getD []
def AG(orders:List (List Int))(p:Int):List Int:=(orders[p.toNat]?).getD []
def D4(orders:List (List Int)):List Int->Option (List (List Int))
 |[]=>some []
 |p::r=>if(AG orders p).length=0 then none else(D4 orders r).map ((AG orders p).filter (fun x=> !decide (x=0)) :: ·)
def Cg(orders:List (List Int))(ps:List Int):Option (List (List Int)):=(D4 orders ps).map (· ++ [ps])
def VH(x:DE):Prop:= ∃n:Int,x=.ret (.agg [.int .u64 n])
theorem M9(s c:Int)(O:Sig)(hc:0<=c:=by exact sd):DCall prog 342 [.agg [.int .u64 s],dI c] O fun x U'=>VH x/\U'=O:=by
 refine en func342 ntmps342 ?_
 refine IP ?_
 refine GC ?_
 refine boxV (fun i hi=>?_)
 refine newV (fun j hj=>?_)
 obtain⟨ar,aB⟩:=B5 hj
 have ae:i≠j:=fun e=>ar e.symm
 refine gf (gi ar (gi ae (OK .u64 .i64 1 c hc))) ?_ o342 [2,4]
 refine finCE (U':=O) (by simp[resL,ae,ar];with_unfolding_all rfl) ⟨⟨_,rfl⟩,rfl⟩ ?_
 exact((((Sub.refl _).set hi).set aB).set hi).set aB
theorem RM(s c:Int)(O:Sig):DCall prog 343 [.agg [.int .u64 s],.agg [.int .u64 c]] O fun x U'=>VH x/\U'=O:=by
 refine en func343 ntmps343 ?_
 refine IP ?_
 refine GC ?_
 refine boxV (fun i hi=>?_)
 refine gz ?_ [] [2,4]
 refine newV (fun j hj=>?_)
 obtain⟨ar,aB⟩:=B5 hj
 have ae:i≠j:=fun e=>ar e.symm
 refine gf (gi ar ae) ?_ [] [2,4]
 refine finCE (U':=O) (by simp[resL,ae,ar];with_unfolding_all rfl) ⟨⟨_,rfl⟩,rfl⟩ ?_
 exact((((Sub.refl _).set hi).set aB).set hi).set aB
theorem DY(ig im:Nat)(ps os:List (List Int))(ups:D)(om:List (Int×List Int))(c:Nat)(o:Own)(O:Sig)(hg:O ig=some (.cells [.slice (cII ps) o,ups,.map im]))(hm:O im=some (.map (eIO om)))(hc:c<ps.length)
  (hl:ps.length<=1073741824) (ak:(ps[c]).length<=1073741824) (ho:∀p∈ps[c],getM [] p om=AG os p) (aq:∀p∈ps[c],(AG os p).length<=1073741824) :
  DCall prog 368 [.ptr ig 0,dI c] O (rS (.tup [sl (cII ((Cg os ps[c]).getD [])),.bool (Cg os ps[c]).isSome]) O):=by
 refine en func368 ntmps368 ?_
 refine gf (gi hg hm) ?_
 generalize aS:ps[c]=l at*
 refine HY 6 1 (fun i hi=>?_)
 have aC:ig≠i:=fun e=>by rw[e,hi]at hg;cases hg
 have ai:im≠i:=fun e=>by rw[e,hi]at hm;cases hm
 refine Di [0,1,15,16,40,41,42,43,44,45,46,47,48,49] (fun (k:Nat) (out:List (List Int))=>k<=l.length/\out.length<=k/\D4 os l=(D4 os (l.drop k)).map (out ++ ·)) (fun k out=>[(17,dI k),(6,.slice (cII out) (.tag i))]) (fun _ out=>O.set i (.tail 1 out.length)) (fun k _=>l.length-k) (0) ([]) (by simp) (fun k out hI=>?_)
 obtain⟨hk,hlen,hR⟩:=hI
 by_cases h:k<l.length
 ·have aN:=ho _ (List.getElem_mem h)
  have hx:=aq _ (List.getElem_mem h)
  rw[Ad h,D4]at hR
  refine gf (gi hg (gi hm (gi aC ai))) ?_
  refine lkO ?_ (hi:=by rw[w7 _ _ ai];exact hm)
  rw[aN]
  repeat' first|refine gf (gi hg (gi hm (gi aC ai))) ?_|apply gy<;>intro hh
  ·have hn:Cg os l=none:=by unfold Cg;rw[hR];simp_all
   exact fe2 (d':=sl []) hn
  ·refine lkO ?_ (hi:=by rw[w7 _ _ ai];exact hm)
   rw[aN]
   refine gf (gi hg (gi hm (gi aC ai))) ?_
   exact⟨k+1,out++[(AG os l[k]).filter fun x=> !decide (x=0)],by refine⟨by omega,by simp;omega,?_⟩;rw[hR,if_neg (by simpa using hh),Option.map_map];congr 1;funext z;simp,td1,wkR⟩
 ·rw[Aj h,D4]at hR
  have hn:Cg os l=some (out++[l]):=by unfold Cg;rw[hR];simp
  refine gf (gi hg (gi hm (gi aC (gi ai aS)))) ?_
  exact fe2 (d':=sl (cII (out++[l]))) hn
theorem F4(l:List (List Int))(o:Own)(O:Sig)(hl:l.length<=1073741824:=by exact sd)(ht:totL l<=1073741824:=by exact sd):
  DCall prog 369 [.slice (cII l) o] O (rS (.tup [sl (cI (D0 l).1),.bool (D0 l).2]) O):=by
 refine en func369 ntmps369 ?_
 refine gz ?_ o369
 refine HY 4 1 (fun i hi=>?_)
 refine ET [] (fun (n:Nat) (ls:List (List Int)) (out:List Int)=>totL ls<n/\out.length+totL ls<=1073741824/\ls.length=l.length/\Ge n ls out=D0 l) (fun _ ls out=>[(0,.slice (cII ls) .no),(4,.slice (cI out) (.tag i))]) (fun _ _ out=>O.set i (.tail 1 out.length)) (fun n _ _=>n) (totL l+1) (l) ([]) (by exact⟨by omega,by simpa using ht,rfl,rfl⟩) (fun n ls out hI=>?_)
 obtain⟨bd,hlen,ah,hR⟩:=hI
 obtain⟨n,rfl⟩:∃m,n=m+1:=⟨n-1,by omega⟩
 have aE:∀x∈ls,x.length<=1073741824:=fun x hx=>by have:=NQ hx;omega
 rw[Ge]at hR
 refine gz ?_ o369
 refine Di [2,3,14,15,63,64,65] (fun (q:Nat) (s:Bool)=>q<=ls.length/\Ga ls false ls=Ga ls s (ls.drop q)) (fun q s=>[(5,.bool s),(16,dI q),(0,.slice (cII ls) .no),(4,.slice (cI out) (.tag i))]) (fun _ _=>O.set i (.tail 1 out.length)) (fun q _=>ls.length-q) (0) (false) (by simp) (fun q s hI=>?_)
 obtain⟨hq,hA⟩:=hI
 by_cases h:q<ls.length
 ·have hx:=aE _ (List.getElem_mem h)
  rw[Ad h]at hA
  rcases aa:ls[q]with _|⟨y,r⟩
  ·rw[aa,Ga]at hA
   refine gf aa ?_ o369
   exact⟨q+1,s,⟨by omega,hA⟩,td1,wkR⟩
  ·rw [aa,Ga] at hA
   rw[aa]at hx
   simp only[List.length_cons]at hx
   refine gf aa ?_ o369
   refine CG [0,2,3,4,5,7,10,11,13,14,15,16,17,18,19,20,21,22,23,24,41,42,43,44,45,46,47,48,49,50,51,52,53,54,55,56,57,58,59,60,61,62,63,64,65] (fun (k:Nat)=>k<=ls.length/\Gp (ls.take k) y=true) (fun k=>[(25,dI k)]) (fun _=>O.set i (.tail 1 out.length)) (fun k=>ls.length-k) (0) (by simp[Gp]) (fun k hI=>?_)
   obtain⟨hk,hF⟩:=hI
   by_cases aF:k<ls.length
   ·have aJ:=aE _ (List.getElem_mem aF)
    have ag:Gp (ls.take (k+1)) y=(Gp (ls.take k) y&&!decide (y∈ls[k].tail)):=by
     unfold Gp;rw[List.take_succ_eq_append_getElem aF,List.all_append];simp
    rcases ax:ls[k]with _|⟨z,t⟩
    ·rw[ax]at ag
     refine gf (gi ax aa) ?_ o369
     exact⟨k+1,⟨by omega,by rw[ag,hF];simp⟩,td1,wkR⟩
    ·rw[ax]at ag aJ
     simp only[List.length_cons]at aJ
     repeat' first|refine gf (gi ax aa) ?_ o369|apply gy<;>intro hh
     ·have aU:Gp ls y=false:=by
       unfold Gp
       rw[List.all_eq_false]
       refine⟨ls[k],List.getElem_mem aF,?_⟩
       rw[ax];simp[hh]
      rw[aU]at hA
      exact⟨q+1,true,⟨by omega,by simpa using hA⟩,td1,wkR⟩
     ·exact⟨k+1,⟨by omega,by rw[ag,hF];simp[hh]⟩,td1,wkR⟩
   ·have aX:k=ls.length:=by omega
    rw[aX,List.take_length]at hF
    rw[hF,if_pos rfl]at hA
    rw[hA]at hR
    replace hR:Ge n (ls.map fun l=>l.filter fun x=> !decide (x=y)) (out++[y])=D0 l:=hR
    obtain⟨e,he,aI⟩:=EM hA
    have bh:=N2 aI he
    refine gf aa ?_ o369
    refine HY 11 1 (fun j hj=>?_)
    refine Di [0,2,3,4,5,7,9,10,14,15,16,17,18,19,20,21,22,23,24,25,26,27,28,29,30,31,32,33,34,35,36,37,38,39,40,41,42,43,44,45,46,47,48,49,61,62,63,64,65] (fun (m:Nat) (acc:List (List Int))=>m<=ls.length/\acc=(ls.take m).map fun l=>l.filter fun x=> !decide (x=y)) (fun m acc=>[(50,dI m),(11,.slice (cII acc) (.tag j))]) (fun _ acc=>(O.set i (.tail 1 (out.length+1))).set j (.tail 1 acc.length)) (fun m _=>ls.length-m) (0) ([]) (by simp) (fun m acc hI=>?_)
    obtain⟨hm,am⟩:=hI
    have bm:acc.length=m:=by rw[am];simp;omega
    by_cases h':m<ls.length
    ·have aK:=aE _ (List.getElem_mem h')
     repeat' first|refine gz ?_|refine Ca (Gs (ls[m]) (fun c=> !decide (c=y)) 386 [.cptr [dI y] 0] _ _ aK (fun x _ U' _=>M7 x y U')) ?_|refine callP (Gs (ls[m]) (fun c=> !decide (c=y)) 386 [.cptr [dI y] 0] _ _ aK (fun x _ U' _=>M7 x y U')) ?_|refine gz ?_ o369|apply gy<;>intro hh
     exact⟨m+1,acc++[(ls[m]).filter fun x=> !decide (x=y)],⟨by omega,by rw[am,FY h',List.map_append];rfl⟩,td1,wkR⟩
    ·have au:m=ls.length:=by omega
     rw[au,List.take_length]at am
     subst am
     have aO:Sub (O.set i (.tail 1 (out++[y]).length)) ((O.set i (.tail 1 (out.length+1))).set j (.tail 1 (ls.map fun l=>l.filter fun x=> !decide (x=y)).length)):=by rw[List.length_append];exact(Sub.refl _).set (by assumption)
     refine gz ?_ o369
     exact⟨n,(ls.map fun l=>l.filter fun x=> !decide (x=y)),(out++[y]),⟨by omega,by rw[List.length_append,List.length_singleton];omega,by simpa using ah,hR⟩,td1,wkR⟩
 ·rw[Aj h,Ga]at hA
  rw[hA]at hR
  replace hR:D0 l=(out, !s):=hR.symm
  refine gz ?_ o369
  exact fe2 (d':=sl (cI out)) hR
@[reducible,instance] def a369:=fun l o O=>ah2 (@F4 l o O)
theorem Gd: ∀(n:Nat) (ls:List (List Int)) (out:List Int),(Ge n ls out).1.length<=out.length+totL ls
 |0,_,_=>Nat.le_add_right _ _
 | n+1,ls,out=>by
  rw[Ge]
  cases h:Ga ls false ls with
  | mk a s =>
   cases a with
   |none=>exact Nat.le_add_right _ _
   |some c=>
    obtain⟨e,he,aI⟩:=EM h
    have h1:=N2 aI he
    have h2:=Gd n (ls.map fun l=>l.filter fun x=> !decide (x=c)) (out++[c])
    rw[List.length_append,List.length_singleton]at h2
    simp only
    omega
theorem Fx(ls:List (List Int)):(D0 ls).1.length<=totL ls:=by
 exact Nat.le_trans (Gd (totL ls+1) ls []) (by simp)
def D3(os:List (List Int))(c:Int)(ps:List Int):List Int:=
 match Cg os ps with
 |none=>[]
 |some ls=>if(D0 ls).2 then c::(D0 ls).1++[0] else []
theorem RL(ig im:Nat)(ps os:List (List Int))(ups:D)(om:List (Int×List Int))(c:Nat)(o:Own)(O:Sig)(hne:ig≠im)(hg:O ig=some (.cells [.slice (cII ps) o,ups,.map im]))(hm:O im=some (.map (eIO om)))(hc:c<ps.length)(bl:c≠0)
  (hl:ps.length<=1073741824) (ak:(ps[c]).length<=1073741824) (ho:∀p∈ps[c],getM [] p om=AG os p) (aq:∀p∈ps[c],(AG os p).length<=1073741824) (ht:∀ls,Cg os ps[c]=some ls->ls.length<=1073741824/\totL ls<=1073741824) :
  DCall prog 344 [.ptr ig 0,dI c] O fun x U'=>x=.ret (.tup [])/\U'=if D3 os c ps[c]=[] then O else O.set im (.map (eIO (putM c (D3 os c ps[c]) om))):=by
 have aj:¬(c:Int)=0:=by omega
 refine en func344 ntmps344 ?_
 cases ah:Cg os ps[c]with
 |none=>
  repeat' first|refine gf (gi aj (gi hg (gi hm ah))) ?_|refine Ca (DY ig im ps os ups om c o O hg hm hc hl ak ho aq) ?_|refine callP (DY ig im ps os ups om c o O hg hm hc hl ak ho aq) ?_|refine gf (gi aj (gi hg (gi hm ah))) ?_ o344|apply gy<;>intro hh
  exact fin0 (U':=O) ⟨rfl,by simp[D3,ah]⟩
 | some ls =>
  obtain⟨h1,h2⟩:=ht ls ah
  have be:(D0 ls).1.length<=totL ls:=Fx ls
  by_cases aV:(D0 ls).1=[]
  ·repeat' first|refine gf (gi aj (gi hg (gi hm ah))) ?_|refine Ca (DY ig im ps os ups om c o O hg hm hc hl ak ho aq) ?_|refine callP (DY ig im ps os ups om c o O hg hm hc hl ak ho aq) ?_|refine Ca (F4 ls .no O h1 h2) ?_|refine callP (F4 ls .no O h1 h2) ?_|refine gf (gi aj (gi hg (gi hm ah))) ?_ o344|apply gy<;>intro hh
   refine moApp0 ?_
   repeat' first|refine gz ?_ o344|apply gy<;>intro hh
   refine moAppCW (fun i hi=>?_)
   have ai:im≠i:=fun h=>by rw[h,hi]at hm;simp at hm
   refine rtl 39 (sl (cI [(c:Int),0])) ?_
   refine gf (gi hm ai) ?_ o344
   exact fin0 (U':=O.set im (.map (eIO (putM c [(c:Int),0] om)))) ⟨rfl,by rw[D3,ah];simp[hh,aV]⟩ (Sub.both ((Sub.refl _).set hi))
   exact fin0 (U':=O) ⟨rfl,by rw[D3,ah];simp[hh]⟩
  ·repeat' first|refine gf (gi aj (gi hg (gi hm ah))) ?_|refine Ca (DY ig im ps os ups om c o O hg hm hc hl ak ho aq) ?_|refine callP (DY ig im ps os ups om c o O hg hm hc hl ak ho aq) ?_|refine Ca (F4 ls .no O h1 h2) ?_|refine callP (F4 ls .no O h1 h2) ?_|refine gf (gi aj (gi hg (gi hm ah))) ?_ o344|apply gy<;>intro hh
   refine moAppC (fun i hi=>?_)
   have ai:im≠i:=fun h=>by rw[h,hi]at hm;simp at hm
   refine gz ?_ o344
   refine rtl 39 (sl (cI ((c:Int)::(D0 ls).1++[0]))) ?_ (DM _ (by simp[cI]))
   refine gf (gi hm ai) ?_ o344
   exact fin0 (U':=O.set im (.map (eIO (putM c ((c:Int)::(D0 ls).1++[0]) om)))) ⟨rfl,by rw[D3,ah];simp[hh]⟩ (Sub.both ((Sub.refl _).set hi))
   exact fin0 (U':=O) ⟨rfl,by rw[D3,ah];simp[hh]⟩
end Go.DL
