/- A part of the proof. -/
import Derived.Test.YteldimffglchkaaGreatDoorR12
import Derived.Test.YteldimffglchkaaGreatDoorR10
import Derived.Test.YteldimffglchkaaGreatDoorR11
set_option linter.all false
namespace Go.DL
open Go.Proofs.Tryz
open Go Go.Proofs
set_option maxHeartbeats 8000000
theorem RF(f:Fact)(O:Sig):DCall prog 374 [.agg (Cc f)] O (rS (.bool (Cx f.op)) O):=by
 refine en func374 ntmps374 ?_
 repeat' first|refine gz ?_|apply gy<;>intro hh
 any_goals (first|(refine fin1 (U':=O) ?_;exact⟨by first|rfl|(simp[Cx];done)|(simp_all [Cx];done)|(rw[Ac,Bool.eq_iff_iff];simp_all [Cx]<;>omega),rfl⟩)|fail)
@[reducible,instance] def a374:=fun f O=>ah0 (@RF f O)
def C9(op:Int):Nat:=if op=5 then 1 else if op=6\/op=7 then 2 else 0
theorem RG(o:Int)(O:Sig):DCall prog 373 [dI o] O (rS (dI (C9 o)) O):=by
 refine en func373 ntmps373 ?_
 repeat' first|refine gz ?_|apply gy<;>intro hh
 any_goals (first|(refine fin1 (U':=O) ?_;exact⟨by first|rfl|(simp[C9];done)|(simp_all [C9];done)|(rw[Ac,Bool.eq_iff_iff];simp_all [C9]<;>omega),rfl⟩)|fail)
@[reducible,instance] def a373:=fun o O=>ah0 (@RG o O)
theorem Sn(b:Bool)(O:Sig):DCall prog 258 [.bool b] O (rS (dI (if b then 0 else 2)) O):=by
 refine en func258 ntmps258 ?_
 repeat' first|refine gz ?_|apply gy<;>intro hh
 any_goals (first|exact fe1 trivial|fail)
@[reducible,instance] def a258:=fun b O=>ah0 (@Sn b O)
theorem Jh(l:List (List Int))(c:Int)(o:Own)(O:Sig)(hl:l.length<=1073741824:=by exact sd)(hc:c<3+l.length:=by exact sd):
  DCall prog 353 [.slice (cII l) o,dI c] O (rS (sl (cI (if c<3 then [] else(l[(c-3).toNat]?).getD []))) O):=by
 refine en func353 ntmps353 ?_
 by_cases h:c<3
 ·repeat' first|refine gz ?_|apply gy<;>intro hh
  all_goals first|omega|skip
  exact fe1 (d':=sl []) h
 ·have h2:(c-3).toNat<l.length:=by omega
  repeat' first|refine gz ?_|apply gy<;>intro hh
  all_goals first|omega|skip
  exact fe1 (gi h h2)
@[reducible,instance] def a353:=fun l c o O=>ah2 (@Jh l c o O)
theorem Sj(w:World)(c:Int)(O:Sig)(hl:w.parents.length<=1073741824:=by exact sd):
  DCall prog 270 [.agg (DW w),dI c] O (rS (.bool (decide (0<=c/\c<3+w.parents.length))) O):=by
 refine en func270 ntmps270 ?_
 repeat' first|refine gz ?_|apply gy<;>intro hh
 any_goals (first|exact fe1 trivial|fail)
@[reducible,instance] def a270:=fun w c O=>ah1 (@Sj w c O)
theorem Si(w:World)(l:List Int)(o:Own)(O:Sig)(hl:w.owner.length<=1073741824:=by exact sd)(aA:l.length<=1073741824:=by exact sd):
  DCall prog 271 [.agg (DW w),.slice (cI l) o] O (rS (.bool (l.all (fun s=>decide (0<=s/\s<w.owner.length))&&decide (l.length<=2))) O):=by
 refine en func271 ntmps271 ?_
 refine gz ?_
 refine BV [1,2,7,8,23,24,25] (fun (k:Nat)=>k<=l.length/\l.all (fun s=>decide (0<=s/\s<w.owner.length))=(l.drop k).all (fun s=>decide (0<=s/\s<w.owner.length))) (fun k=>[(9,dI k)]) (fun _=>O) (fun k=>l.length-k) (0) (by simp) (fun k hI=>?_)
 obtain⟨hk,hR⟩:=hI
 by_cases h:k<l.length
 ·rw[A5 h,List.all_cons]at hR
  repeat' first|refine gz ?_|apply gy<;>intro hh
  ·exact fe1 hR
  ·exact fe1 hR
  ·exact⟨k+1,⟨by omega,by rw[hR];simp_all⟩,td1,wkR⟩
 ·rw[A9 h]at hR
  refine gz ?_
  exact fe1 hR
def Ij(op:Int):Option Int:=
 if op=1\/op=2\/op=3\/op=6\/op=18 then some 0 else if op=4\/op=8\/op=17 then some 1 else
 if op=7\/op=9\/op=11\/op=12\/op=13\/op=14\/op=15\/op=16 then some 2 else if op=10 then some 3 else none
def BQ(p:BProg)(x:BNode):Int:=match Ij x.op with
 |some k=>k
 |none=>if x.op=5/\0<=x.n/\x.n<p.gens.length then p.gens.getD x.n.toNat 0 else -1
theorem Mb{p:BProg}{x:BNode}(h:x.op=5):BQ p x=if 0<=x.n/\x.n<p.gens.length then p.gens.getD x.n.toNat 0 else -1:=by simp[BQ,Ij,h]
theorem SD(p:BProg)(x:BNode)(O:Sig)(hl:p.gens.length<=1073741824:=by exact sd):
  DCall prog 226 [.agg (Ad p),.agg (Hr x)] O (rS (dI (BQ p x)) O):=by
 refine en func226 ntmps226 ?_
 repeat' first|refine gz ?_|apply gy<;>intro hh
 any_goals (first|(refine fin1 (U':=O) ?_;exact⟨by first|rfl|(simp[BQ,Ij];done)|(simp_all [BQ,Ij];done)|(rw[Ac,Bool.eq_iff_iff];simp_all [BQ,Ij]<;>omega),rfl⟩)|fail)
 all_goals (refine fin1 (U':=O) ?_;refine⟨?_,rfl⟩;rw[Mb (by assumption)])
 all_goals first|(rw[if_neg (by omega)];done)|(rw[if_pos ⟨by assumption,by assumption⟩];simp)
@[reducible,instance] def a226:=fun p x O=>ah1 (@SD p x O)
def C6(p:BProg)(x:BNode)(size:Int):Bool:=
 if x.op=1 then inB x.n else if x.op=3 then decide (0<=x.n/\x.n<size) else if x.op=4\/x.op=7 then decide (0<=x.n/\x.n<p.slots) else
 if x.op=5 then decide (0<=x.n/\x.n<p.gens.length) else if x.op=6\/x.op=8 then decide (3<=x.n/\x.n<3+p.classes.length) else decide (x.n=0)
theorem SC(p:BProg)(x:BNode)(size:Int)(O:Sig)(hl:p.gens.length<=1073741824:=by exact sd)(hc:p.classes.length<=1073741824:=by exact sd):
  DCall prog 227 [.agg (Ad p),.agg (Hr x),dI size] O (rS (.bool (C6 p x size)) O):=by
 refine en func227 ntmps227 ?_
 repeat' first|refine gz ?_|apply gy<;>intro hh
 any_goals (first|(refine fin1 (U':=O) ?_;exact⟨by first|rfl|(simp[C6];done)|(simp_all [C6];done)|(rw[Ac,Bool.eq_iff_iff];simp_all [C6]<;>omega),rfl⟩)|fail)
theorem SO(p:BProg)(x:BNode)(size:Int)(O:Sig)(hl:p.gens.length<=1073741824:=by exact sd)(hc:p.classes.length<=1073741824:=by exact sd):
  DCall prog 201 [.agg (Ad p),.agg (Hr x),dI size] O (rS (.bool (C6 p x size)) O):=by
 refine en func201 ntmps201 ?_
 repeat' first|refine gz ?_|apply gy<;>intro hh
 any_goals (first|(refine fin1 (U':=O) ?_;exact⟨by first|rfl|(simp[C6];done)|(simp_all [C6];done)|(rw[Ac,Bool.eq_iff_iff];simp_all [C6]<;>omega),rfl⟩)|fail)
@[reducible,instance] def a201:=fun p x size O=>ah2 (@SO p x size O)
def El(op:Int):D:=match Ij op with
 |some k=>.iface 276 (dI k)
 |none=>if op=5 then .iface 277 (.agg []) else .niliface
theorem SN(op:Int)(O:Sig):DCall prog 202 [dI op] O (rS (El op) O):=by
 refine en func202 ntmps202 ?_
 repeat' first|refine gz ?_|apply gy<;>intro hh
 any_goals (first|(refine fin1 (U':=O) ?_;exact⟨by first|rfl|(simp[El,Ij];done)|(simp_all [El,Ij];done)|(rw[Ac,Bool.eq_iff_iff];simp_all [El,Ij]<;>omega),rfl⟩)|fail)
@[reducible,instance] def a202:=fun op O=>ah0 (@SN op O)
theorem Nh{xs bs:List D}(h:WkL xs bs):WkD (.agg xs) (.agg bs):=by
 rintro g v ⟨vs,e,r⟩
 exact⟨vs,e,h.rep r⟩
def ownersF:List BClass->Nat->List Int
 |[],_=>[]
 |c::r,i=>List.replicate c.slots.length ((i:Int)+3)++ownersF r (i+1)
def Bp(p:BProg):World:=⟨p.classes.map (·.parents),ownersF p.classes 0⟩
theorem RP(l:List (List D))(o:Own)(O:Sig):
  DCall prog 341 [.slice l o] O (rS (.slice l .clip) O):=by
 refine en func341 ntmps341 ?_
 refine gz ?_
 exact fe1 trivial
@[reducible,instance] def a341:=fun l o O=>ah0 (@RP l o O)
theorem Ji(c:BClass)(O:Sig)(hl:c.parents.length<=1073741824:=by exact sd):
  DCall prog 298 [.agg (HU c)] O (rS (sl (cI c.parents)) O):=by
 refine en func298 ntmps298 ?_
 repeat' first|refine gz ?_|refine Bg (Hb (cI c.parents) .no O (by simpa using hl) (C2 _)) ?_|refine callP (Hb (cI c.parents) .no O (by simpa using hl) (C2 _)) ?_|refine gz ?_|apply gy<;>intro hh
 exact fe1 trivial
@[reducible,instance] def a298:=fun c O=>ah1 (@Ji c O)
theorem Sc(l:List BClass)(O:Sig)(hl:l.length<=1073741824:=by exact sd)(hp:∀c∈l,c.parents.length<=1073741824:=by exact sd):
  DCall prog 297 [sl (l.map HU),.func (.func 298) [] []] O (rS (sl (cII (l.map (·.parents)))) O):=by
 refine en func297 ntmps297 ?_
 refine gz ?_
 refine F4 5 1 (fun i hi=>?_)
 refine BZ [1,4,8,9,21,22] (fun (k:Nat) (out:List (List Int))=>k<=l.length/\out.length=k/\out++(l.drop k).map (·.parents)=l.map (·.parents)) (fun k out=>[(10,dI k),(5,.slice (cII out) (.tag i))]) (fun _ out=>O.set i (.tail 1 out.length)) (fun k _=>l.length-k) (0) ([]) (by simp) (fun k out hI=>?_)
 obtain⟨hk,ho,hR⟩:=hI
 by_cases h:k<l.length
 ·rw[A5 h]at hR
  have am:=hp _ (List.getElem_mem h)
  repeat' first|refine Bg (Ji (l[k]) _ am) ?_|refine callP (Ji (l[k]) _ am) ?_|refine gz ?_|apply gy<;>intro hh
  exact⟨k+1,out++[(l[k]).parents],⟨by omega,by simp[ho],by rw[List.append_assoc];exact hR⟩,td1,wkR⟩
 ·rw[A9 h]at hR
  simp at hR
  refine gz ?_
  exact finS (U':=O) (es:=cII out) ⟨by rw[hR],rfl⟩ ((Sub.refl _).set hi)
@[reducible,instance] def a297:=fun l O=>ah2 (@Sc l O)
theorem Sw(p:BProg)(O:Sig)(hl:p.classes.length<=1073741824:=by exact sd)(hp:∀c∈p.classes,c.parents.length<=1073741824:=by exact sd):
  DCall prog 250 [.agg (Ad p)] O (rS (sl (cII (p.classes.map (·.parents)))) O):=by
 refine en func250 ntmps250 ?_
 refine gz ?_
 exact fe1 trivial
@[reducible,instance] def a250:=fun p O=>ah2 (@Sw p O)
def ownF(p:BProg)(c:Int):Bool:=decide (3<=c)&&decide (c<3+p.classes.length)
theorem SW(p:BProg)(c:Int)(O:Sig)(hl:p.classes.length<=1073741824:=by exact sd):
  DCall prog 185 [.agg (Ad p),dI c] O (rS (.bool (ownF p c)) O):=by
 refine en func185 ntmps185 ?_
 by_cases h:3<=c
 ·refine gz ?_
  (refine fin1 (U':=O) ?_;exact⟨by first|rfl|(simp[ownF,h];done)|(simp_all [ownF,h];done)|(rw[Ac,Bool.eq_iff_iff];simp_all [ownF,h]<;>omega),rfl⟩)
 ·refine gz ?_
  (refine fin1 (U':=O) ?_;exact⟨by first|rfl|(simp[ownF,h];done)|(simp_all [ownF,h];done)|(rw[Ac,Bool.eq_iff_iff];simp_all [ownF,h]<;>omega),rfl⟩)
@[reducible,instance] def a185:=fun p c O=>ah1 (@SW p c O)
mutual
def Fact.cnt:Fact->Int->Int
 |.mk _ _ _ _ _ k,most=>Fact.cnts k most 1
def Fact.cnts:List Fact->Int->Int->Int
 |[],_,n=>n
 |f::l,most,n=>if n<=most then Fact.cnts l most (n+f.cnt (most-n)) else n
end
theorem Fact.cnt_eq(f:Fact)(most:Int):f.cnt most=Fact.cnts f.kids most 1:=by cases f;rw[Fact.cnt];rfl
mutual
theorem Fact.cnt_le: ∀(f:Fact) (most:Int),1<=f.cnt most/\f.cnt most<=f.size
 |.mk _ _ _ _ _ k,most=>by
  have:=Fact.cnts_le k most 1
  rw[Fact.cnt,Fact.size]
  simp only[Int.natCast_add]
  omega
theorem Fact.cnts_le: ∀(l:List Fact) (most n:Int),n<=Fact.cnts l most n/\Fact.cnts l most n<=n+Fact.sizes l
 |[],most,n=>by simp[Fact.cnts,Fact.sizes]
 |f::l,most,n=>by
  have h1:=Fact.cnt_le f (most-n)
  have h2:=Fact.cnts_le l most (n+f.cnt (most-n))
  rw[Fact.cnts,Fact.sizes]
  simp only[Int.natCast_add]
  split<;>omega
end
theorem Jj(f:Fact)(most:Int)(O:Sig)(hf:f.size<=1073741824:=by exact sd)(h1 : -2147483648<=most:=by exact sd)(h2:most<=1073741824:=by exact sd):
  DCall prog 269 [.agg (Cc f),dI most] O (rS (dI (f.cnt most)) O):=by
 have hsz:=Fact.size_eq f
 have bD:=Fact.sizes_len f.kids
 have bq:=Fact.cnt_le f most
 have aw:=(Fact.cnt_eq f most).symm
 refine en func269 ntmps269 ?_
 refine gz ?_
 refine BZ [1,2,4,30] (fun (k:Nat) (m:Int)=>k<=f.kids.length/\1<=m/\Fact.cnts (f.kids.drop k) most m=f.cnt most) (fun k m=>[(6,dI k),(5,dI m)]) (fun _ _=>O) (fun k _=>f.kids.length-k) (0) (1) (by exact⟨by omega,by omega,aw⟩) (fun k m hI=>?_)
 obtain⟨hk,hm,hR⟩:=hI
 have bB:=Fact.cnts_le (f.kids.drop k) most m
 by_cases h:k<f.kids.length
 ·rw[A5 h,Fact.cnts]at hR
  have bC:=Fact.kid_size h
  have bE:=Fact.cnt_le (f.kids[k]) (most-m)
  by_cases aq:m<=most
  ·rw[if_pos aq]at hR
   have bk:=Fact.cnts_le (f.kids.drop (k+1)) most (m+(f.kids[k]).cnt (most-m))
   repeat' first|refine gz ?_|refine Bg (Jj (f.kids[k]) (most-m) O (by omega) (by omega) (by omega)) ?_|refine callP (Jj (f.kids[k]) (most-m) O (by omega) (by omega) (by omega)) ?_|refine gz ?_|apply gy<;>intro hh
   exact⟨k+1,m+(f.kids[k]).cnt (most-m),⟨by omega,by omega,hR⟩,td1,wkR⟩
  ·rw[if_neg aq]at hR
   refine gz ?_
   exact fe1 hR
 ·rw[A9 h,Fact.cnts]at hR
  refine gz ?_
  exact fe1 hR
termination_by SizeOf.sizeOf f
decreasing_by exact Fact.lt (List.getElem_mem _)
@[reducible,instance] def a269:=fun f most O=>ah3 (@Jj f most O)
theorem SE(f:Fact)(O:Sig)(hf:f.size<=1073741824:=by exact sd):DCall prog 222 [.agg (Cc f)] O (rS (dI (f.cnt 24)) O):=by
 refine en func222 ntmps222 ?_
 refine gz ?_
 exact fe1 trivial
@[reducible,instance] def a222:=fun f O=>ah1 (@SE f O)
section
variable {O:Sig}{r i j:Nat}{a:D}
def wS(O:Sig)(r i j:Nat)(a:D)(out:List Int):Sig:=((O.set r (.cells [.nils,.nils])).set i (.tail 1 out.length)).set j (.cells [a,.slice (cI out) (.tag i)])
theorem wS_j(out:List Int):wS O r i j a out j=some (.cells [a,.slice (cI out) (.tag i)]):=w6 ..
theorem wS_i(ac:i≠j)(out:List Int):wS O r i j a out i=some (.tail 1 out.length):=by unfold wS;rw[w7 _ _ ac,w6]
theorem wS_r(aI:j≠r)(aK:i≠r)(out:List Int):wS O r i j a out r=some (.cells [.nils,.nils]):=by unfold wS;rw[w7 _ _ (Ne.symm aI),w7 _ _ (Ne.symm aK),w6]
theorem Qa(ac:i≠j)(out:List Int)(x:Int):((wS O r i j a out).set i (.tail 1 (out.length+1))).set j (.cells [a,.slice (cI out++[[dI x]]) (.tag i)])=wS O r i j a (out++[x]):=by
 unfold wS
 rw[Sig.set_comm _ _ _ (Ne.symm ac),w8,w8]
 simp[cI]
theorem W5(ac:i≠j){x:DObj}:(((O.set r (.cells [.nils,.nils])).set j x).set i (.tail 1 0)).set j (.cells [a,.slice [] (.tag i)])=wS O r i j a []:=by
 unfold wS
 rw[Sig.set_comm _ _ _ (Ne.symm ac),w8]
 simp[cI]
theorem W4(hr:O r=none)(hi:O i=none)(hj:O j=none)(out:List Int):Sub O (wS O r i j a out):=by unfold wS;exact(((Sub.refl _).set hr).set hi).set hj
end
theorem Ls(p:BProg)(O:Sig)(hl:p.classes.length<=1073741824:=by exact sd)(hp:∀c∈p.classes,c.parents.length<=1073741824:=by exact sd)(aQ:∀c∈p.classes,c.slots.length<=1073741824:=by exact sd)(ho:(ownersF p.classes 0).length<=1073741824:=by exact sd):
  DCall prog 58 [.agg (Ad p)] O (rS (.agg (DW (Bp p))) O):=by
 refine en func58 ntmps58 ?_
 refine gz ?_ [] [2,3]
 refine newV (fun r hr=>?_)
 refine gz ?_ [] [2,3]
 refine newV (fun j hj=>?_)
 obtain⟨aI,hj⟩:=Bc hj
 refine gz ?_ [] [2,3]
 refine F0 j 1 1 (w6 ..) rfl fun i hi=>?_
 obtain⟨ac,hi⟩:=Bc hi
 obtain⟨aK,hi⟩:=Bc hi
 simp only[w8,List.set_cons_succ,List.set_cons_zero]
 rw[W5 ac]
 have hS:=fun out=>wS_j (O:=O) (r:=r) (i:=i) (j:=j) (a:=sl (cII (p.classes.map (·.parents)))) out
 have aV:=fun out=>wS_i (O:=O) (r:=r) (a:=sl (cII (p.classes.map (·.parents)))) ac out
 have aU:=fun out=>wS_r (O:=O) (a:=sl (cII (p.classes.map (·.parents)))) aI aK out
 have aS:=fun out x=>Qa (O:=O) (r:=r) (a:=sl (cII (p.classes.map (·.parents)))) ac out x
 have hne:=fun (s:Sig) (o:DObj)=>w7 s o (Ne.symm ac)
 refine BZ [1,2,3,34] (fun (k:Nat) (out:List Int)=>k<=p.classes.length/\out++ownersF (p.classes.drop k) k=ownersF p.classes 0) (fun k _=>[(4,dI k)]) (fun _ out=>wS O r i j (sl (cII (p.classes.map (·.parents)))) out) (fun k _=>p.classes.length-k) (0) ([]) (by simp) (fun k out hI=>?_)
 obtain⟨hk,hR⟩:=hI
 by_cases h:k<p.classes.length
 ·rw[A5 h,ownersF]at hR
  have bd:=aQ _ (List.getElem_mem h)
  refine gf hS ?_ [] [2,3]
  refine BZ [1,2,3,4,9,10,11,12,13,14,15,34] (fun (q:Nat) (out:List Int)=>q<=(p.classes[k]).slots.length/\out++(List.replicate ((p.classes[k]).slots.length-q) ((k:Int)+3)++ownersF (p.classes.drop (k+1)) (k+1))=ownersF p.classes 0) (fun q _=>[(5,dI q)]) (fun _ out=>wS O r i j (sl (cII (p.classes.map (·.parents)))) out) (fun q _=>(p.classes[k]).slots.length-q) (0) (out) (by simpa using hR) (fun q out hI=>?_)
  obtain⟨hq,hR⟩:=hI
  have hlen:out.length+((p.classes[k]).slots.length-q)<=1073741824:=by
   have:=congrArg List.length hR
   simp only[List.length_append,List.length_replicate]at this
   omega
  by_cases h':q<(p.classes[k]).slots.length
  ·refine gf (gi hS (gi aV (gi hne aS))) ?_ [] [2,3]
   exact⟨q+1,out++[(k:Int)+3],by refine⟨by omega,?_⟩;rw[<-hR];obtain⟨m,hm⟩:∃m,(p.classes[k]).slots.length-q=m+1:=⟨(p.classes[k]).slots.length-q-1,by omega⟩;rw[hm,show(p.classes[k]).slots.length-(q+1)=m by omega,List.replicate_succ];simp,td1,wkR⟩
  ·rw[show(p.classes[k]).slots.length-q=0 by omega]at hR
   refine gf hS ?_ [] [2,3]
   exact⟨k+1,out,⟨by omega,by simpa using hR⟩,td1,wkR⟩
 ·rw[A9 h,ownersF,List.append_nil]at hR
  refine gf (gi hS aU) ?_ [] [2,3]
  refine Hk tabOK (ds:=[.agg [sl (cII (p.classes.map (·.parents))),.slice (cI out) (.tag i)]]) ?_ (Nh (by rw[hR];simp[Bp])) (U':=O) (.set (W4 hr hi hj out) hr) ⟨rfl,rfl⟩
  simp[f71]
theorem SM(p:BProg)(O:Sig)(hl:p.classes.length<=1073741824:=by exact sd)(hp:∀c∈p.classes,c.parents.length<=1073741824:=by exact sd)(aQ:∀c∈p.classes,c.slots.length<=1073741824:=by exact sd)(ho:(ownersF p.classes 0).length<=1073741824:=by exact sd):
  DCall prog 203 [.agg (Ad p)] O (rS (.agg (DW (Bp p))) O):=by
 refine en func203 ntmps203 ?_
 refine gz ?_ [] [2,3]
 refine newV (fun r hr=>?_)
 refine gz ?_ [] [2,3]
 refine newV (fun j hj=>?_)
 obtain⟨aI,hj⟩:=Bc hj
 refine gz ?_ [] [2,3]
 refine F0 j 1 1 (w6 ..) rfl fun i hi=>?_
 obtain⟨ac,hi⟩:=Bc hi
 obtain⟨aK,hi⟩:=Bc hi
 simp only[w8,List.set_cons_succ,List.set_cons_zero]
 rw[W5 ac]
 have hS:=fun out=>wS_j (O:=O) (r:=r) (i:=i) (j:=j) (a:=sl (cII (p.classes.map (·.parents)))) out
 have aV:=fun out=>wS_i (O:=O) (r:=r) (a:=sl (cII (p.classes.map (·.parents)))) ac out
 have aU:=fun out=>wS_r (O:=O) (a:=sl (cII (p.classes.map (·.parents)))) aI aK out
 have aS:=fun out x=>Qa (O:=O) (r:=r) (a:=sl (cII (p.classes.map (·.parents)))) ac out x
 have hne:=fun (s:Sig) (o:DObj)=>w7 s o (Ne.symm ac)
 refine BZ [2,3,10,11,31] (fun (k:Nat) (out:List Int)=>k<=p.classes.length/\out++ownersF (p.classes.drop k) k=ownersF p.classes 0) (fun k _=>[(12,dI k)]) (fun _ out=>wS O r i j (sl (cII (p.classes.map (·.parents)))) out) (fun k _=>p.classes.length-k) (0) ([]) (by simp) (fun k out hI=>?_)
 obtain⟨hk,hR⟩:=hI
 by_cases h:k<p.classes.length
 ·rw[A5 h,ownersF]at hR
  have bd:=aQ _ (List.getElem_mem h)
  refine gf hS ?_ [] [2,3]
  refine BZ [2,3,4,5,10,11,12,13,14,15,16,17,18,19,30,31] (fun (q:Nat) (out:List Int)=>q<=(p.classes[k]).slots.length/\out++(List.replicate ((p.classes[k]).slots.length-q) ((k:Int)+3)++ownersF (p.classes.drop (k+1)) (k+1))=ownersF p.classes 0) (fun q _=>[(20,dI q)]) (fun _ out=>wS O r i j (sl (cII (p.classes.map (·.parents)))) out) (fun q _=>(p.classes[k]).slots.length-q) (0) (out) (by simpa using hR) (fun q out hI=>?_)
  obtain⟨hq,hR⟩:=hI
  have hlen:out.length+((p.classes[k]).slots.length-q)<=1073741824:=by
   have:=congrArg List.length hR
   simp only[List.length_append,List.length_replicate]at this
   omega
  by_cases h':q<(p.classes[k]).slots.length
  ·refine gf (gi hS (gi aV (gi hne aS))) ?_ [] [2,3]
   exact⟨q+1,out++[(k:Int)+3],by refine⟨by omega,?_⟩;rw[<-hR];obtain⟨m,hm⟩:∃m,(p.classes[k]).slots.length-q=m+1:=⟨(p.classes[k]).slots.length-q-1,by omega⟩;rw[hm,show(p.classes[k]).slots.length-(q+1)=m by omega,List.replicate_succ];simp,td1,wkR⟩
  ·rw[show(p.classes[k]).slots.length-q=0 by omega]at hR
   refine gf hS ?_ [] [2,3]
   exact⟨k+1,out,⟨by omega,by simpa using hR⟩,td1,wkR⟩
 ·rw[A9 h,ownersF,List.append_nil]at hR
  refine gf (gi hS aU) ?_ [] [2,3]
  refine Hk tabOK (ds:=[.agg [sl (cII (p.classes.map (·.parents))),.slice (cI out) (.tag i)]]) ?_ (Nh (by rw[hR];simp[Bp])) (U':=O) (.set (W4 hr hi hj out) hr) ⟨rfl,rfl⟩
  simp[f70]
@[reducible,instance] def a203:=fun p O=>ah4 (@SM p O)
def Gh{α:Type}[DecidableEq α](l:List α)(s:List α):List α:=l.foldl (fun s x=>ins x s) s
def hasG(cs:List BClass):Nat->List Int->List Int->List Int
 |0,_,out=>out
 |n+1,up,out=>match cs[n]? with
  |some c=>if(n:Int)+3∈up then hasG cs n (Gh c.parents up) (out++c.slots) else hasG cs n up out
  |none=>hasG cs n up out
def hasP(p:BProg)(c:Int):List Int:=EN (hasG p.classes (c-2).toNat [c] [])
theorem Dr(p:BProg):wtL (fun c:BClass=>c.slots.length) p.classes<p.wt:=by
 have:∀l:List BClass,wtL (fun c:BClass=>c.slots.length) l<=wtL BClass.wt l:=fun l=>by
  induction l with
  |nil=>exact Nat.le_refl _
  |cons c l ih=>simp only[wtL,BClass.wt];omega
 have:=this p.classes
 unfold BProg.wt;omega
theorem Ik{α:Type}(f:α->Nat)(l:List α)(n:Nat)(h:n<l.length):wtL f (l.take (n+1))=wtL f (l.take n)+f l[n]:=by
 rw[List.take_succ_eq_append_getElem h,Nd];simp[wtL]
theorem EJ{α:Type}(f:α->Nat)(l:List α)(n:Nat):wtL f (l.take n)<=wtL f l:=by
 have:=Nd f (l.take n) (l.drop n)
 rw[List.take_append_drop]at this;omega
theorem UN{O:Sig}{st:MR}{l:List Int}(h:mOK O 1 st (cI l)):mOK O 1 st (cI (EN l)):=by
 cases st with
 |none=>
  have:cI l=[]:=h
  have:l=[]:=by simpa[cI] using this
  subst this;rw[show EN []=[] by simp[EN]];exact h
 |some x=>
  obtain⟨h1,h2,h3,h4⟩:=h
  have e:=GO l
  refine⟨h1,?_,by simpa[e] using h3,C2 _⟩
  rw[List.length_append,Ap (C2 _),JA]at h2⊢
  omega
theorem T1(p:BProg)(c:Int)(O:Sig)(hp:p.wt<=1073741824:=by exact sd)(hc:3<=c:=by exact sd)(bG:c<3+p.classes.length:=by exact sd):DCall prog 173 [.agg (Ad p),dI c] O (rS (sl (cI (hasP p c))) O):=by
 obtain⟨p1,p2,p3,p4,p5,p6,p7⟩:=p.wt_le
 have ws:=Dr p
 refine en func173 ntmps173 ?_
 refine gz ?_
 refine newSI (fun i hi=>?_)
 refine gz ?_
 refine Ph [2,4,5,45,46,47,48] (fun (n:Nat) (up:List Int) (out:List Int) (st:MR)=>n<=p.classes.length/\out.length+wtL (fun c:BClass=>c.slots.length) (p.classes.take n)<=1073741824/\mOK (O.set i (.map (eSI up))) 1 st (cI out)/\EN (hasG p.classes n up out)=hasP p c) (fun n _ out st=>[(7,dI (n+2)),(6,mD st out.length)]) (fun _ up out st=>mS (O.set i (.map (eSI up))) st (cI out)) (fun n _ _ _=>n) ((c-2).toNat) ([c]) ([]) (none) (by(refine⟨by omega,?_,rfl,rfl⟩;have:=EJ (fun c:BClass=>c.slots.length) p.classes (c-2).toNat;simp;omega)) (fun n up out st hI=>?_)
 obtain⟨hn,hlen,hm,hR⟩:=hI
 have hT:=fun k (h:k<p.classes.length)=>Ik (fun c:BClass=>c.slots.length) p.classes k h
 obtain⟨bA,aj,bb⟩:=mS_at hm
 rcases n with _|n
 ·rw[hasG]at hR
  refine gz ?_
  refine A4 (SB out st _ hm (by simp[wtL]at hlen;omega)) (fun d U' hr=>?_) (fun d U' hr=>by cases hr.1)
  obtain⟨be,rfl⟩:=hr
  cases be
  have ax:=UN hm
  rw[<-GO out]
  rw[hR]at ax⊢
  refine mfr 6 ?_ (hm:=ax)
  refine gz ?_
  exact fe1 (d':=sl (cI (hasP p c))) trivial
 ·have h:n<p.classes.length:=by omega
  have bI:=hT n h
  have hw:=p5 n h
  have bu:(p.classes[n]).wt=1+(p.classes[n]).parents.length+(p.classes[n]).slots.length+(p.classes[n]).inits.length:=rfl
  rw[hasG,List.getElem?_eq_getElem h]at hR
  by_cases aB:(n:Int)+3∈up
  ·simp only[aB,if_true]at hR
   have e3:(n:Int)+1+2=n+3:=by omega
   have ba:((n:Int)+1+2-3).toNat=n:=by omega
   refine gf (gi aj (gi bb (gi aB (gi e3 ba)))) ?_
   refine mappI (fun st' ax=>?_)
   obtain⟨aT,aG,aF⟩:=mS_at ax
   refine gf (gi aG (gi aF (gi aB (gi e3 ba)))) ?_
   refine BV [2,4,5,6,7,14,15,16,17,18,19,20,21,22,23,24,25,26,27,28,29,30,31,32,33,34,35,36,37,45,46,47,48] (fun (k:Nat)=>k<=(p.classes[n]).parents.length) (fun k=>[(38,dI k)]) (fun k=>mS (O.set i (.map (eSI (Gh ((p.classes[n]).parents.take k) up)))) st' (cI (out++(p.classes[n]).slots))) (fun k=>(p.classes[n]).parents.length-k) (0) td3 (fun k hI=>?_)
   by_cases hk:k<(p.classes[n]).parents.length
   ·have hs:Gh ((p.classes[n]).parents.take (k+1)) up=ins (p.classes[n]).parents[k] (Gh ((p.classes[n]).parents.take k) up):=by unfold Gh;rw[List.take_succ_eq_append_getElem hk,List.foldl_append];rfl
    refine gf (gi aG aF) ?_
    rw[<-hs]
    exact⟨k+1,td2,td1,wkR⟩
   ·have hs:(p.classes[n]).parents.take k=(p.classes[n]).parents:=List.take_of_length_le (by omega)
    rw[hs]
    have e2:(n:Int)+3-1=n+2:=by omega
    refine gf (gi e3 e2) ?_
    exact⟨n,Gh (p.classes[n]).parents up,out++(p.classes[n]).slots,st',⟨by omega,by rw[List.length_append];omega,aT _,hR⟩,td1,wkR⟩
  ·simp only[aB,if_false]at hR
   have e3:(n:Int)+1+2=n+3:=by omega
   have e2:(n:Int)+3-1=n+2:=by omega
   refine gf (gi aj (gi bb (gi aB (gi e3 e2)))) ?_
   exact⟨n,up,out,st,⟨by omega,by omega,hm,hR⟩,td1,wkR⟩
@[reducible,instance] def a173:=fun p c O=>ah3 (@T1 p c O)
end Go.DL
namespace Go.DL
open Go.Proofs.Tryz
open Go Go.Proofs
set_option maxHeartbeats 4000000
theorem RT(l:List (List D))(o:Own)(O:Sig):
  DCall prog 337 [.slice l o] O (rS (.slice l .clip) O):=by
 refine en func337 ntmps337 ?_
 refine gz ?_
 exact fe1 trivial
@[reducible,instance] def a337:=fun l o O=>ah0 (@RT l o O)
theorem Oo{α:Type}[DecidableEq α](s:α): ∀(l:List α) (k:Nat),(0<=idxG s l k) ↔ s∈l
 |[],_=>by simp[idxG]
 | x::r,k=>by
  rw[idxG]
  by_cases h:x=s
  ·simp[h]
  ·rw[if_neg h,Oo s r (k+1)]
   simp[Ne.symm h]
end Go.DL
namespace Go.DL
open Go.Proofs.Tryz
open Go Go.Proofs
set_option maxHeartbeats 8000000
theorem UV{α:Type}[DecidableEq α](s:α)(l:List α):decide (0<=idxG s l 0)=decide (s∈l):=by
 rw[Bool.eq_iff_iff];simp only[decide_eq_true_eq];exact Oo s l 0
theorem PD(l:List Int)(s:Int)(o:Own)(O:Sig)(hl:l.length<=1073741824:=by exact sd):
  DCall prog 206 [.slice (cI l) o,dI s] O (rS (.bool (decide (s∈l))) O):=by
 rw[<-UV];exact SJ l s o O hl
instance (priority:=high) a206m (l:List Int) (s:Int) (o:Own) (O:Sig):Ans 206 [.slice (cI l) o,dI s] O ((l.length<=1073741824)) (.bool (decide (s∈l))):=⟨fun hl=>PD l s o O (hl:=hl)⟩
theorem PB(l:List Int)(s:Int)(o:Own)(O:Sig)(hl:l.length<=1073741824:=by exact sd):
  DCall prog 267 [.slice (cI l) o,dI s] O (rS (.bool (decide (s∈l))) O):=by
 rw[<-List.contains_eq_mem];exact Sm l s o O hl
instance (priority:=high) a267m (l:List Int) (s:Int) (o:Own) (O:Sig):Ans 267 [.slice (cI l) o,dI s] O ((l.length<=1073741824)) (.bool (decide (s∈l))):=⟨fun hl=>PB l s o O (hl:=hl)⟩
theorem RL(l:List Int)(n:Int)(o:Own)(O:Sig)(hl:l.length<=1073741824:=by exact sd):
  DCall prog 354 [.slice (cI l) o,dI n] O fun x U'=>x=.ret (sl (cI (l.filter fun x=> !decide (x=n))))/\U'=O:=by
 refine en func354 ntmps354 ?_
 refine gz ?_
 refine F4 5 1 (fun i hi=>?_)
 refine BZ [0,1,4,26] (fun (k:Nat) (out:List Int)=>k<=l.length/\out.length<=k/\out++(l.drop k).filter (fun x=> !decide (x=n))=l.filter (fun x=> !decide (x=n))) (fun k out=>[(6,dI k),(5,.slice (cI out) (.tag i))]) (fun _ out=>O.set i (.tail 1 out.length)) (fun k _=>l.length-k) (0) ([]) (by simp) (fun k out hI=>?_)
 obtain⟨hk,hlen,hR⟩:=hI
 by_cases h:k<l.length
 ·rw[A5 h,List.filter_cons]at hR
  repeat' first|refine gz ?_|apply gy<;>intro hh
  ·exact⟨k+1,out++[l[k]],by refine⟨by omega,by simp;omega,?_⟩;rw[<-hR];simp[hh],td1,wkR⟩
  ·exact⟨k+1,out,by refine⟨by omega,by omega,?_⟩;rw[<-hR];simp[hh],td1,wkR⟩
 ·rw[A9 h]at hR
  simp at hR
  refine gz ?_
  exact finS (U':=O) (es:=cI out) ⟨by rw[hR],rfl⟩
@[reducible,instance] def a354:=fun l n o O=>ah1 (@RL l n o O)
theorem RK(l:List (List Int))(c:Int)(o:Own)(O:Sig)(hl:l.length<=1073741824:=by exact sd)(aA:∀x∈l,x.length<=1073741824:=by exact sd):
  DCall prog 355 [.slice (cII l) o,dI c] O fun x U'=>x=.ret (.bool (l.all fun x=> !decide (c∈x.tail)))/\U'=O:=by
 refine en func355 ntmps355 ?_
 refine gz ?_
 refine BV [0,1] (fun (k:Nat)=>k<=l.length/\l.all (fun x=> !decide (c∈x.tail))=(l.drop k).all (fun x=> !decide (c∈x.tail))) (fun k=>[(5,dI k)]) (fun _=>O) (fun k=>l.length-k) (0) (by simp) (fun k hI=>?_)
 obtain⟨hk,hR⟩:=hI
 by_cases h:k<l.length
 ·have hx:=aA _ (List.getElem_mem h)
  rw[A5 h,List.all_cons]at hR
  by_cases h0:l[k].length=0
  ·have he:l[k]=[]:=List.length_eq_zero_iff.1 h0
   refine gz ?_
   exact⟨k+1,⟨by omega,by rw[hR,he];simp⟩,td1,wkR⟩
  ·repeat' first|refine gz ?_|apply gy<;>intro hh
   ·exact fe1 hR
   ·exact⟨k+1,⟨by omega,by rw[hR];simp_all⟩,td1,wkR⟩
 ·rw[A9 h]at hR
  refine gz ?_
  exact fe1 hR
@[reducible,instance] def a355:=fun l c o O=>ah2 (@RK l c o O)
def Dp(i:Nat):List Int->List Int->Bool
 |_,[]=>true
 |seen,p::r=>(decide (3<=p/\p<3+i)&&!decide (p∈seen))&&Dp i (seen++[p]) r
def HO(i:Nat)(l:List Int):Bool:=decide (l.length<=3)&&Dp i [] l
def C8:Nat->List (List Int)->Bool
 |_,[]=>true
 |i,l::r=>HO i l&&C8 (i+1) r
def Bb(g:List (List Int)):Bool:=decide (g.length<=16)&&C8 0 g
theorem DG{α:Type}{l:List α}{k:Nat}(h:k<l.length):l.take (k+1)=l.take k++[l[k]]:=by rw[List.take_succ_eq_append_getElem h]
theorem S9(g:List (List Int))(o:Own)(O:Sig)(hl:g.length<=1073741824:=by exact sd)(aA:∀x∈g,x.length<=1073741824:=by exact sd):
  DCall prog 300 [.slice (cII g) o] O (rS (.bool (Bb g)) O):=by
 refine en func300 ntmps300 ?_
 by_cases bt:16<g.length
 ·refine gz ?_
  (refine fin1 (U':=O) ?_;exact⟨by first|rfl|(simp[Bb];done)|(simp_all [Bb];done)|(rw[Ac,Bool.eq_iff_iff];simp_all [Bb]<;>omega),rfl⟩)
 refine gz ?_
 refine BV [10,11] (fun (k:Nat)=>k<=g.length/\Bb g=C8 k (g.drop k)) (fun k=>[(12,dI k)]) (fun _=>O) (fun k=>g.length-k) (0) (by exact⟨by omega,by simp[Bb];omega⟩) (fun k hI=>?_)
 obtain⟨hk,hR⟩:=hI
 by_cases h:k<g.length
 ·have hx:=aA _ (List.getElem_mem h)
  rw[A5 h,C8,HO]at hR
  by_cases h3:3<g[k].length
  ·refine gz ?_
   exact fe1 hR
  ·have aW:decide (g[k].length<=3)=true:=by simp;omega
   rw[aW,Bool.true_and]at hR
   refine gz ?_
   refine BV [3,4,10,11,12,13,14,15,16,17,18,19,20,21,43] (fun (q:Nat)=>q<=g[k].length/\Bb g=(Dp k (g[k].take q) (g[k].drop q)&&C8 (k+1) (g.drop (k+1)))) (fun q=>[(22,dI q)]) (fun _=>O) (fun q=>g[k].length-q) (0) (by exact⟨by omega,by simpa using hR⟩) (fun q hI=>?_)
   obtain⟨hq,ag⟩:=hI
   by_cases h':q<g[k].length
   ·rw[A5 h',Dp,<-DG h']at ag
    repeat' first|refine gz ?_|apply gy<;>intro hh
    ·have hn:¬(3<=g[k][q]/\g[k][q]<3+(k:Int)):=by omega
     rw[decide_eq_false hn]at ag
     exact fe1 ag
    ·have hn:¬(3<=g[k][q]/\g[k][q]<3+(k:Int)):=by omega
     rw[decide_eq_false hn]at ag
     exact fe1 ag
    ·exact fe1 ag
    ·exact⟨q+1,⟨by omega,by rw[ag];simp_all⟩,td1,wkR⟩
   ·rw[A9 h',Dp]at ag
    refine gz ?_
    exact⟨k+1,⟨by omega,by simpa using ag⟩,td1,wkR⟩
 ·rw[A9 h,C8]at hR
  refine gz ?_
  exact fe1 hR
@[reducible,instance] def a300:=fun g o O=>ah2 (@S9 g o O)
theorem SH(g:List (List Int))(o:Own)(O:Sig)(hl:g.length<=1073741824:=by exact sd)(aA:∀x∈g,x.length<=1073741824:=by exact sd):
  DCall prog 219 [.slice (cII g) o] O (rS (.bool (Bb g)) O):=by
 refine en func219 ntmps219 ?_
 by_cases bt:16<g.length
 ·refine gz ?_ o219
  (refine fin1 (U':=O) ?_;exact⟨by first|rfl|(simp[Bb];done)|(simp_all [Bb];done)|(rw[Ac,Bool.eq_iff_iff];simp_all [Bb]<;>omega),rfl⟩)
 refine gz ?_ o219
 refine BV [0] (fun (k:Nat)=>k<=g.length/\Bb g=C8 k (g.drop k)) (fun k=>[(3,dI k)]) (fun _=>O) (fun k=>g.length-k) (0) (by exact⟨by omega,by simp[Bb];omega⟩) (fun k hI=>?_)
 obtain⟨hk,hR⟩:=hI
 by_cases h:k<g.length
 ·have hx:=aA _ (List.getElem_mem h)
  rw[A5 h,C8,HO]at hR
  by_cases h3:3<g[k].length
  ·refine gz ?_ o219
   exact fe1 hR
  ·have aW:decide (g[k].length<=3)=true:=by simp;omega
   rw[aW,Bool.true_and]at hR
   refine gz ?_ o219
   refine BV [0,3,8,9,10,11,12,13,14,15,16,17,18,19] (fun (q:Nat)=>q<=g[k].length/\Bb g=(Dp k (g[k].take q) (g[k].drop q)&&C8 (k+1) (g.drop (k+1)))) (fun q=>[(4,dI q)]) (fun _=>O) (fun q=>g[k].length-q) (0) (by exact⟨by omega,by simpa using hR⟩) (fun q hI=>?_)
   obtain⟨hq,ag⟩:=hI
   by_cases h':q<g[k].length
   ·rw[A5 h',Dp,<-DG h']at ag
    repeat' first|refine gz ?_ o219|apply gy<;>intro hh
    ·have hn:¬(3<=g[k][q]/\g[k][q]<3+(k:Int)):=by omega
     rw[decide_eq_false hn]at ag
     exact fe1 ag
    ·have hn:¬(3<=g[k][q]/\g[k][q]<3+(k:Int)):=by omega
     rw[decide_eq_false hn]at ag
     exact fe1 ag
    ·exact fe1 ag
    ·exact⟨q+1,⟨by omega,by rw[ag];simp_all⟩,td1,wkR⟩
   ·rw[A9 h',Dp]at ag
    refine gz ?_ o219
    exact⟨k+1,⟨by omega,by simpa using ag⟩,td1,wkR⟩
 ·rw[A9 h,C8]at hR
  refine gz ?_ o219
  exact fe1 hR
def FG(all:List (List Int))(c:Int):Bool:=all.all fun x=> !decide (c∈x.tail)
def Ey(all:List (List Int)):Bool->List (List Int)->Option Int×Bool
 |s,[]=>(none,s)
 |s,[]::r=>Ey all s r
 |_,(x::_)::r=>if FG all x then(some x,true) else Ey all true r
def Ez:Nat->List (List Int)->List Int->List Int×Bool
 |0,_,out=>(out,false)
 |n+1,ls,out=>match Ey ls false ls with
  |(none,s)=>(out, !s)
  |(some c,_)=>Ez n (ls.map fun l=>l.filter fun x=> !decide (x=c)) (out++[c])
def totL:List (List Int)->Nat
 |[]=>0
 |l::r=>l.length+totL r
def BP(ls:List (List Int)):List Int×Bool:=Ez (totL ls+1) ls []
theorem KZ{l:List Int}: ∀{ls:List (List Int)},l∈ls->l.length<=totL ls
 |x::r,h=>by
  rcases List.mem_cons.1 h with rfl|h
  ·simp[totL]
  ·have:=KZ h;simp only[totL];omega
theorem Ex{all:List (List Int)}{c:Int}{b:Bool}: ∀{s:Bool}{ls:List (List Int)},Ey all s ls=(some c,b)->∃l∈ls,c∈l
 |s,[],h=>by simp[Ey]at h
 |s,[]::r,h=>by
  rw[Ey]at h
  obtain⟨l,h1,h2⟩:=Ex h
  exact⟨l,by simp[h1],h2⟩
 | s,(x::t)::r,h=>by
  rw[Ey]at h
  by_cases hf:FG all x=true
  ·rw[if_pos hf]at h
   exact⟨x::t,by simp,by simp only[Prod.mk.injEq,Option.some.injEq]at h;simp[h.1]⟩
  ·rw[if_neg hf]at h
   obtain⟨l,h1,h2⟩:=Ex h
   exact⟨l,by simp[h1],h2⟩
theorem Qf(c:Int): ∀ls:List (List Int),totL (ls.map fun l=>l.filter fun x=> !decide (x=c))<=totL ls
 |[]=>by simp[totL]
 |l::r=>by
  have:=Qf c r
  have:=List.length_filter_le (fun x=> !decide (x=c)) l
  simp only[List.map_cons,totL];omega
theorem Ry{c:Int}{l:List Int}(h:c∈l):(l.filter fun x=> !decide (x=c)).length<l.length:=by
 induction l with
 |nil=>simp at h
 | cons x r ih =>
  have:=List.length_filter_le (fun x=> !decide (x=c)) r
  by_cases hx:x=c
  ·simp[hx];omega
  ·have hr:c∈r:=by rcases List.mem_cons.1 h with rfl|h;exact absurd rfl hx;exact h
   have:=ih hr
   simp[hx];omega
theorem L0{c:Int}{l:List Int}(hc:c∈l): ∀{ls:List (List Int)},l∈ls->totL (ls.map fun l=>l.filter fun x=> !decide (x=c))<totL ls
 | x::r,h=>by
  simp only[List.map_cons,totL]
  rcases List.mem_cons.1 h with rfl|h
  ·have:=Qf c r;have:=Ry hc;omega
  ·have:=L0 hc h
   have:=List.length_filter_le (fun x=> !decide (x=c)) x
   omega
theorem RV(l:List (List Int))(o:Own)(O:Sig)(hn:∀x∈l, ∀y∈x,0<=y)(hl:l.length<=1073741824:=by exact sd)(ht:totL l<=1073741824:=by exact sd):
  DCall prog 314 [.slice (cII l) o] O (rS (.tup [sl (cI (BP l).1),.bool (BP l).2]) O):=by
 refine en func314 ntmps314 ?_
 refine gz ?_
 refine F4 4 1 (fun i hi=>?_)
 refine Gb [] (fun (n:Nat) (ls:List (List Int)) (out:List Int)=>totL ls<n/\out.length+totL ls<=1073741824/\ls.length=l.length/\(∀x∈ls, ∀y∈x,0<=y)/\Ez n ls out=BP l) (fun _ ls out=>[(0,.slice (cII ls) .no),(4,.slice (cI out) (.tag i))]) (fun _ _ out=>O.set i (.tail 1 out.length)) (fun n _ _=>n) (totL l+1) (l) ([]) (by exact⟨by omega,by simpa using ht,rfl,hn,rfl⟩) (fun n ls out hI=>?_)
 obtain⟨bj,hlen,ah,aE,hR⟩:=hI
 have ay:∀x∈ls,x.length<=1073741824:=fun x hx=>by have:=KZ hx;omega
 refine gz ?_
 refine Gb [0,2,3,4,8,9,40,41,42,43,44,45,46,47,48,49,50,51,52,53,54,55,56,57,58,59,60,61,62,63,64] (fun (q:Nat) (cv:Int) (s:Bool)=>q<=ls.length /\ -1<=cv/\(cv<0->Ey ls false ls=Ey ls s (ls.drop q))/\(0<=cv->Ey ls false ls=(some cv,true))) (fun q cv s=>[(5,dI cv),(6,.bool s),(7,dI q)]) (fun _ _ _=>O.set i (.tail 1 out.length)) (fun q _ _=>ls.length-q) (0) (-1) (false) (by simp) (fun q cv s hI=>?_)
 obtain⟨hq,bF,hA,hB⟩:=hI
 have bp:cv = -1\/0<=cv:=by omega
 rcases bp with au|au
 ·subst au
  replace hA:=hA (by omega)
  by_cases h:q<ls.length
  ·have hx:=ay _ (List.getElem_mem h)
   have bc:=aE _ (List.getElem_mem h)
   rw[A5 h]at hA
   rcases aa:ls[q]with _|⟨y,r⟩
   ·rw[aa,Ey]at hA
    refine gf aa ?_
    exact⟨q+1, -1,s,⟨by omega,by omega,fun _=>hA,by omega⟩,td1,wkR⟩
   ·rw[aa,Ey]at hA
    have hy:0<=y:=bc y (by simp[aa])
    repeat' first|refine gf aa ?_|apply gy<;>intro hh
    ·rw[if_pos (show FG ls y=true from hh)]at hA
     exact⟨q+1,y,true,⟨by omega,by omega,by omega,fun _=>hA⟩,td1,wkR⟩
    ·rw[show FG ls y=false from hh]at hA
     exact⟨q+1, -1,true,⟨by omega,by omega,fun _=>hA,by omega⟩,td1,wkR⟩
  ·rw[A9 h,Ey]at hA
   refine gz ?_
   obtain⟨m,rfl⟩:∃m,n=m+1:=⟨n-1,by omega⟩
   rw[Ez,hA]at hR
   replace hR:BP l=(out, !s):=hR.symm
   exact fe2 (d':=sl (cI out)) hR
 ·replace hB:=hB au
  obtain⟨m,rfl⟩:∃m,n=m+1:=⟨n-1,by omega⟩
  rw[Ez,hB]at hR
  replace hR:Ez m (ls.map fun l=>l.filter fun x=> !decide (x=cv)) (out++[cv])=BP l:=hR
  obtain⟨e,he,aw⟩:=Ex hB
  have bm:=L0 aw he
  have aD:∀x∈ls.map (fun l=>l.filter fun x=> !decide (x=cv)), ∀y∈x,0<=y:=by
   intro x hx y hy
   obtain⟨z,hz,rfl⟩:=List.mem_map.1 hx
   exact aE z hz y (List.mem_filter.1 hy).1
  by_cases h:q<ls.length
  all_goals
   refine gz ?_
   refine F4 8 1 (fun j hj=>?_)
   refine BZ [0,2,3,4,5,6,7,10,11,12,13,14,15,16,17,18,19,20,21,22,23,24,25,26,27,28,29,30,31,32,33,34,35,36,37,38,39,40,41,42,43,44,45,46,47,48,64] (fun (k:Nat) (acc:List (List Int))=>k<=ls.length/\acc=(ls.take k).map fun l=>l.filter fun x=> !decide (x=cv)) (fun k acc=>[(9,dI k),(8,.slice (cII acc) (.tag j))]) (fun _ acc=>(O.set i (.tail 1 (out.length+1))).set j (.tail 1 acc.length)) (fun k _=>ls.length-k) (0) ([]) (by simp) (fun k acc hI=>?_)
   obtain⟨hk,ae⟩:=hI
   have br:acc.length=k:=by rw[ae];simp;omega
   by_cases h':k<ls.length
   ·have hx:=ay _ (List.getElem_mem h')
    refine gz ?_
    exact⟨k+1,acc++[(ls[k]).filter fun x=> !decide (x=cv)],⟨by omega,by rw[ae,DG h',List.map_append];rfl⟩,td1,wkR⟩
   ·have aH:k=ls.length:=by omega
    rw[aH,List.take_length]at ae
    subst ae
    have aP:Sub (O.set i (.tail 1 (out++[cv]).length)) ((O.set i (.tail 1 (out.length+1))).set j (.tail 1 (ls.map fun l=>l.filter fun x=> !decide (x=cv)).length)):=by rw[List.length_append];exact(Sub.refl _).set (by assumption)
    refine gz ?_
    exact⟨m,(ls.map fun l=>l.filter fun x=> !decide (x=cv)),(out++[cv]),⟨by omega,by rw[List.length_append,List.length_singleton];omega,by simpa using ah,aD,hR⟩,td1,wkR⟩
def unf:D:=.iface 316 (.agg [])
theorem SR(b:Bool)(O:Sig):DCall prog 197 [.bool b] O fun x U'=>x=(if b then .ret (.tup []) else .panic unf)/\U'=O:=by
 refine en func197 ntmps197 ?_
 cases b
 ·refine gz ?_
  refine pan ?_
  exact finP (U':=O) ⟨rfl,rfl⟩
 ·refine gz ?_
  exact EW (U':=O) ⟨rfl,rfl⟩
@[reducible,instance] def a197:=fun b O=>gh0 (@SR b O)
theorem Ha(l:List Int)(q:Int->Bool)(g:Nat)(cap:List D)(o:Own)(O:Sig)(hl:l.length<=1073741824)
  (hg:∀x∈l, ∀U',Sub O U'->DCall prog g ([]++[dI x]++cap) U' fun r S''=>r=.ret (.bool (q x))/\S''=U') :
  DCall prog 385 [.slice (cI l) o,.func (.func g) [] cap] O (rS (sl (cI (l.filter q))) O):=by
 refine en func385 ntmps385 ?_
 refine gz ?_
 refine F4 5 1 (fun i hi=>?_)
 refine BZ [1,4,8,9,22] (fun (k:Nat) (out:List Int)=>k<=l.length/\out.length<=k/\out++(l.drop k).filter q=l.filter q) (fun k out=>[(10,dI k),(5,.slice (cI out) (.tag i))]) (fun _ out=>O.set i (.tail 1 out.length)) (fun k _=>l.length-k) (0) ([]) (by simp) (fun k out hI=>?_)
 obtain⟨hk,hlen,hR⟩:=hI
 by_cases h:k<l.length
 ·rw[A5 h,List.filter_cons]at hR
  repeat' first|refine Bg (hg (l[k]) (List.getElem_mem h) _ ((Sub.refl _).set hi)) ?_|refine callP (hg (l[k]) (List.getElem_mem h) _ ((Sub.refl _).set hi)) ?_|refine gz ?_|apply gy<;>intro hh
  ·exact⟨k+1,out++[l[k]],by refine⟨by omega,by simp;omega,?_⟩;rw[<-hR];simp[hh],td1,wkR⟩
  ·exact⟨k+1,out,by refine⟨by omega,by omega,?_⟩;rw[<-hR];simp[hh],td1,wkR⟩
 ·rw[A9 h]at hR
  simp at hR
  refine gz ?_
  exact finS (U':=O) (es:=cI out) ⟨by rw[hR],rfl⟩
theorem Mk(c:Int)(O:Sig):DCall prog 395 [dI c] O (rS (.bool (!decide (c=0))) O):=by
 refine en func395 ntmps395 ?_
 refine gz ?_
 exact fe1 trivial
theorem RE(l:List Int)(o:Own)(O:Sig)(hl:l.length<=1073741824:=by exact sd):DCall prog 384 [.slice (cI l) o] O (rS (sl (cI (l.filter fun c=> !decide (c=0)))) O):=by
 refine en func384 ntmps384 ?_
 repeat' first|refine gz ?_|refine Bg (Ha l (fun c=> !decide (c=0)) 395 [] o O hl (fun x _ U' _=>Mk x U')) ?_|refine callP (Ha l (fun c=> !decide (c=0)) 395 [] o O hl (fun x _ U' _=>Mk x U')) ?_|refine gz ?_|apply gy<;>intro hh
 exact fe1 trivial
@[reducible,instance] def a384:=fun l o O=>ah1 (@RE l o O)
theorem Ml(c x:Int)(O:Sig):DCall prog 386 [dI c,.cptr [dI x] 0] O (rS (.bool (!decide (c=x))) O):=by
 refine en func386 ntmps386 ?_
 refine gz ?_
 exact fe1 trivial
def parentsF(g:List (List Int))(c:Int):List Int:=if c<3 then [] else(g[(c-3).toNat]?).getD []
def Az(orders:List (List Int))(p:Int):List Int:=(orders[p.toNat]?).getD []
def CH(orders:List (List Int)):List Int->Option (List (List Int))
 |[]=>some []
 |p::r=>if(Az orders p).length=0 then none else(CH orders r).map ((Az orders p).filter (fun x=> !decide (x=0)) :: ·)
def Bz(orders:List (List Int))(ps:List Int):Option (List (List Int)):=(CH orders ps).map (· ++ [ps])
theorem RX(g orders:List (List Int))(c:Int)(o o':Own)(O:Sig)(hl:g.length<=1073741824:=by exact sd)(hc:c<3+g.length:=by exact sd)(aR:(parentsF g c).length<=1073741824:=by exact sd)(hp:∀p∈parentsF g c,0<=p/\p<orders.length)(ho:orders.length<=1073741824:=by exact sd)(bh:∀x∈orders,x.length<=1073741824:=by exact sd):
  DCall prog 313 [.slice (cII g) o,.slice (cII orders) o',dI c] O (rS (.tup [sl (cII ((Bz orders (parentsF g c)).getD [])),.bool (Bz orders (parentsF g c)).isSome]) O):=by
 have bf:=aR
 refine en func313 ntmps313 ?_
 repeat' first|refine gz ?_|refine Bg (Jh g c o O hl hc) ?_|refine callP (Jh g c o O hl hc) ?_|refine gz ?_|apply gy<;>intro hh
 have e0:(if c<3 then [] else(g[(c-3).toNat]?).getD [])=parentsF g c:=rfl
 rw[e0]
 generalize parentsF g c=ps at*
 refine F4 8 1 (fun i hi=>?_)
 refine BZ [1,9,40,41,42,43] (fun (k:Nat) (out:List (List Int))=>k<=ps.length/\out.length<=k/\CH orders ps=(CH orders (ps.drop k)).map (out ++ ·)) (fun k out=>[(10,dI k),(8,.slice (cII out) (.tag i))]) (fun _ out=>O.set i (.tail 1 out.length)) (fun k _=>ps.length-k) (0) ([]) (by simp) (fun k out hI=>?_)
 obtain⟨hk,hlen,hR⟩:=hI
 by_cases h:k<ps.length
 ·obtain⟨bx,bw⟩:=hp _ (List.getElem_mem h)
  have aZ:(ps[k]).toNat<orders.length:=by omega
  have hx:=bh _ (List.getElem_mem aZ)
  have aO:Az orders ps[k]=orders[(ps[k]).toNat]:=by unfold Az;simp[aZ]
  rw[A5 h,CH,aO]at hR
  repeat' first|refine gz ?_|apply gy<;>intro hh
  ·have hn:Bz orders ps=none:=by unfold Bz;rw[hR];simp_all
   exact fe2 (d':=sl []) hn
  ·exact⟨k+1,out++[(orders[(ps[k]).toNat]).filter fun x=> !decide (x=0)],by refine⟨by omega,by simp;omega,?_⟩;rw[hR,if_neg (by simpa using hh),Option.map_map];congr 1;funext z;simp,td1,wkR⟩
 ·rw[A9 h,CH]at hR
  have hn:Bz orders ps=some (out++[ps]):=by unfold Bz;rw[hR];simp
  refine gz ?_
  exact fe2 (d':=sl (cII (out++[ps]))) hn
def Wl(x:DE):Prop:= ∃n:Int,x=.ret (.agg [.int .u64 n])
theorem Mn(s c:Int)(O:Sig)(hc:0<=c:=by exact sd):DCall prog 342 [.agg [.int .u64 s],dI c] O fun x U'=>Wl x/\U'=O:=by
 refine en func342 ntmps342 ?_
 refine Js ?_
 refine Hl ?_
 refine boxV (fun i hi=>?_)
 refine newV (fun j hj=>?_)
 obtain⟨ar,aJ⟩:=Bc hj
 have ac:i≠j:=fun e=>ar e.symm
 refine gf (gi ar (gi ac (OS .u64 .i64 1 c hc))) ?_ o342 [2,4]
 refine finCE (U':=O) (by simp[resL,ac,ar];with_unfolding_all rfl) ⟨⟨_,rfl⟩,rfl⟩ ?_
 exact((((Sub.refl _).set hi).set aJ).set hi).set aJ
theorem RO(s c:Int)(O:Sig):DCall prog 343 [.agg [.int .u64 s],.agg [.int .u64 c]] O fun x U'=>Wl x/\U'=O:=by
 refine en func343 ntmps343 ?_
 refine Js ?_
 refine Hl ?_
 refine boxV (fun i hi=>?_)
 refine gz ?_ [] [2,4]
 refine newV (fun j hj=>?_)
 obtain⟨ar,aJ⟩:=Bc hj
 have ac:i≠j:=fun e=>ar e.symm
 refine gf (gi ar ac) ?_ [] [2,4]
 refine finCE (U':=O) (by simp[resL,ac,ar];with_unfolding_all rfl) ⟨⟨_,rfl⟩,rfl⟩ ?_
 exact((((Sub.refl _).set hi).set aJ).set hi).set aJ
theorem EA(ig im:Nat)(ps os:List (List Int))(ups:D)(om:List (Int×List Int))(c:Nat)(o:Own)(O:Sig)(hg:O ig=some (.cells [.slice (cII ps) o,ups,.map im]))(hm:O im=some (.map (eIO om)))(hc:c<ps.length)
  (hl:ps.length<=1073741824) (am:(ps[c]).length<=1073741824) (ho:∀p∈ps[c],getM [] p om=Az os p) (ap:∀p∈ps[c],(Az os p).length<=1073741824) :
  DCall prog 368 [.ptr ig 0,dI c] O (rS (.tup [sl (cII ((Bz os ps[c]).getD [])),.bool (Bz os ps[c]).isSome]) O):=by
 refine en func368 ntmps368 ?_
 refine gf (gi hg hm) ?_
 generalize aR:ps[c]=l at*
 refine F4 6 1 (fun i hi=>?_)
 have aN:ig≠i:=fun e=>by rw[e,hi]at hg;cases hg
 have aj:im≠i:=fun e=>by rw[e,hi]at hm;cases hm
 refine BZ [0,1,15,16,40,41,42,43,44,45,46,47,48,49] (fun (k:Nat) (out:List (List Int))=>k<=l.length/\out.length<=k/\CH os l=(CH os (l.drop k)).map (out ++ ·)) (fun k out=>[(17,dI k),(6,.slice (cII out) (.tag i))]) (fun _ out=>O.set i (.tail 1 out.length)) (fun k _=>l.length-k) (0) ([]) (by simp) (fun k out hI=>?_)
 obtain⟨hk,hlen,hR⟩:=hI
 by_cases h:k<l.length
 ·have aO:=ho _ (List.getElem_mem h)
  have hx:=ap _ (List.getElem_mem h)
  rw[A5 h,CH]at hR
  refine gf (gi hg (gi hm (gi aN aj))) ?_
  refine lkO ?_ (hi:=by rw[w7 _ _ aj];exact hm)
  rw[aO]
  repeat' first|refine gf (gi hg (gi hm (gi aN aj))) ?_|apply gy<;>intro hh
  ·have hn:Bz os l=none:=by unfold Bz;rw[hR];simp_all
   exact fe2 (d':=sl []) hn
  ·refine lkO ?_ (hi:=by rw[w7 _ _ aj];exact hm)
   rw[aO]
   refine gf (gi hg (gi hm (gi aN aj))) ?_
   exact⟨k+1,out++[(Az os l[k]).filter fun x=> !decide (x=0)],by refine⟨by omega,by simp;omega,?_⟩;rw[hR,if_neg (by simpa using hh),Option.map_map];congr 1;funext z;simp,td1,wkR⟩
 ·rw[A9 h,CH]at hR
  have hn:Bz os l=some (out++[l]):=by unfold Bz;rw[hR];simp
  refine gf (gi hg (gi hm (gi aN (gi aj aR)))) ?_
  exact fe2 (d':=sl (cII (out++[l]))) hn
theorem FJ(l:List (List Int))(o:Own)(O:Sig)(hl:l.length<=1073741824:=by exact sd)(ht:totL l<=1073741824:=by exact sd):
  DCall prog 369 [.slice (cII l) o] O (rS (.tup [sl (cI (BP l).1),.bool (BP l).2]) O):=by
 refine en func369 ntmps369 ?_
 refine gz ?_ o369
 refine F4 4 1 (fun i hi=>?_)
 refine Gb [] (fun (n:Nat) (ls:List (List Int)) (out:List Int)=>totL ls<n/\out.length+totL ls<=1073741824/\ls.length=l.length/\Ez n ls out=BP l) (fun _ ls out=>[(0,.slice (cII ls) .no),(4,.slice (cI out) (.tag i))]) (fun _ _ out=>O.set i (.tail 1 out.length)) (fun n _ _=>n) (totL l+1) (l) ([]) (by exact⟨by omega,by simpa using ht,rfl,rfl⟩) (fun n ls out hI=>?_)
 obtain⟨bj,hlen,ah,hR⟩:=hI
 obtain⟨n,rfl⟩:∃m,n=m+1:=⟨n-1,by omega⟩
 have ay:∀x∈ls,x.length<=1073741824:=fun x hx=>by have:=KZ hx;omega
 rw[Ez]at hR
 refine gz ?_ o369
 refine BZ [2,3,14,15,63,64,65] (fun (q:Nat) (s:Bool)=>q<=ls.length/\Ey ls false ls=Ey ls s (ls.drop q)) (fun q s=>[(5,.bool s),(16,dI q),(0,.slice (cII ls) .no),(4,.slice (cI out) (.tag i))]) (fun _ _=>O.set i (.tail 1 out.length)) (fun q _=>ls.length-q) (0) (false) (by simp) (fun q s hI=>?_)
 obtain⟨hq,hA⟩:=hI
 by_cases h:q<ls.length
 ·have hx:=ay _ (List.getElem_mem h)
  rw[A5 h]at hA
  rcases aa:ls[q]with _|⟨y,r⟩
  ·rw[aa,Ey]at hA
   refine gf aa ?_ o369
   exact⟨q+1,s,⟨by omega,hA⟩,td1,wkR⟩
  ·rw [aa,Ey] at hA
   rw[aa]at hx
   simp only[List.length_cons]at hx
   refine gf aa ?_ o369
   refine BV [0,2,3,4,5,7,10,11,13,14,15,16,17,18,19,20,21,22,23,24,41,42,43,44,45,46,47,48,49,50,51,52,53,54,55,56,57,58,59,60,61,62,63,64,65] (fun (k:Nat)=>k<=ls.length/\FG (ls.take k) y=true) (fun k=>[(25,dI k)]) (fun _=>O.set i (.tail 1 out.length)) (fun k=>ls.length-k) (0) (by simp[FG]) (fun k hI=>?_)
   obtain⟨hk,hF⟩:=hI
   by_cases aH:k<ls.length
   ·have aX:=ay _ (List.getElem_mem aH)
    have ai:FG (ls.take (k+1)) y=(FG (ls.take k) y&&!decide (y∈ls[k].tail)):=by
     unfold FG;rw[List.take_succ_eq_append_getElem aH,List.all_append];simp
    rcases aC:ls[k]with _|⟨z,t⟩
    ·rw[aC]at ai
     refine gf (gi aC aa) ?_ o369
     exact⟨k+1,⟨by omega,by rw[ai,hF];simp⟩,td1,wkR⟩
    ·rw[aC]at ai aX
     simp only[List.length_cons]at aX
     repeat' first|refine gf (gi aC aa) ?_ o369|apply gy<;>intro hh
     ·have bi:FG ls y=false:=by
       unfold FG
       rw[List.all_eq_false]
       refine⟨ls[k],List.getElem_mem aH,?_⟩
       rw[aC];simp[hh]
      rw[bi]at hA
      exact⟨q+1,true,⟨by omega,by simpa using hA⟩,td1,wkR⟩
     ·exact⟨k+1,⟨by omega,by rw[ai,hF];simp[hh]⟩,td1,wkR⟩
   ·have bn:k=ls.length:=by omega
    rw[bn,List.take_length]at hF
    rw[hF,if_pos rfl]at hA
    rw[hA]at hR
    replace hR:Ez n (ls.map fun l=>l.filter fun x=> !decide (x=y)) (out++[y])=BP l:=hR
    obtain⟨e,he,aw⟩:=Ex hA
    have bm:=L0 aw he
    refine gf aa ?_ o369
    refine F4 11 1 (fun j hj=>?_)
    refine BZ [0,2,3,4,5,7,9,10,14,15,16,17,18,19,20,21,22,23,24,25,26,27,28,29,30,31,32,33,34,35,36,37,38,39,40,41,42,43,44,45,46,47,48,49,61,62,63,64,65] (fun (m:Nat) (acc:List (List Int))=>m<=ls.length/\acc=(ls.take m).map fun l=>l.filter fun x=> !decide (x=y)) (fun m acc=>[(50,dI m),(11,.slice (cII acc) (.tag j))]) (fun _ acc=>(O.set i (.tail 1 (out.length+1))).set j (.tail 1 acc.length)) (fun m _=>ls.length-m) (0) ([]) (by simp) (fun m acc hI=>?_)
    obtain⟨hm,ae⟩:=hI
    have br:acc.length=m:=by rw[ae];simp;omega
    by_cases h':m<ls.length
    ·have aY:=ay _ (List.getElem_mem h')
     repeat' first|refine gz ?_|refine Bg (Ha (ls[m]) (fun c=> !decide (c=y)) 386 [.cptr [dI y] 0] _ _ aY (fun x _ U' _=>Ml x y U')) ?_|refine callP (Ha (ls[m]) (fun c=> !decide (c=y)) 386 [.cptr [dI y] 0] _ _ aY (fun x _ U' _=>Ml x y U')) ?_|refine gz ?_ o369|apply gy<;>intro hh
     exact⟨m+1,acc++[(ls[m]).filter fun x=> !decide (x=y)],⟨by omega,by rw[ae,DG h',List.map_append];rfl⟩,td1,wkR⟩
    ·have ax:m=ls.length:=by omega
     rw[ax,List.take_length]at ae
     subst ae
     have aP:Sub (O.set i (.tail 1 (out++[y]).length)) ((O.set i (.tail 1 (out.length+1))).set j (.tail 1 (ls.map fun l=>l.filter fun x=> !decide (x=y)).length)):=by rw[List.length_append];exact(Sub.refl _).set (by assumption)
     refine gz ?_ o369
     exact⟨n,(ls.map fun l=>l.filter fun x=> !decide (x=y)),(out++[y]),⟨by omega,by rw[List.length_append,List.length_singleton];omega,by simpa using ah,hR⟩,td1,wkR⟩
 ·rw[A9 h,Ey]at hA
  rw[hA]at hR
  replace hR:BP l=(out, !s):=hR.symm
  refine gz ?_ o369
  exact fe2 (d':=sl (cI out)) hR
@[reducible,instance] def a369:=fun l o O=>ah2 (@FJ l o O)
theorem H3: ∀(n:Nat) (ls:List (List Int)) (out:List Int),(Ez n ls out).1.length<=out.length+totL ls
 |0,_,_=>Nat.le_add_right _ _
 | n+1,ls,out=>by
  rw[Ez]
  cases h:Ey ls false ls with
  | mk a s =>
   cases a with
   |none=>exact Nat.le_add_right _ _
   |some c=>
    obtain⟨e,he,aw⟩:=Ex h
    have h1:=L0 aw he
    have h2:=H3 n (ls.map fun l=>l.filter fun x=> !decide (x=c)) (out++[c])
    rw[List.length_append,List.length_singleton]at h2
    simp only
    omega
theorem Ek(ls:List (List Int)):(BP ls).1.length<=totL ls:=by
 exact Nat.le_trans (H3 (totL ls+1) ls []) (by simp)
def Bm(os:List (List Int))(c:Int)(ps:List Int):List Int:=
 match Bz os ps with
 |none=>[]
 |some ls=>if(BP ls).2 then c::(BP ls).1++[0] else []
theorem RN(ig im:Nat)(ps os:List (List Int))(ups:D)(om:List (Int×List Int))(c:Nat)(o:Own)(O:Sig)(hne:ig≠im)(hg:O ig=some (.cells [.slice (cII ps) o,ups,.map im]))(hm:O im=some (.map (eIO om)))(hc:c<ps.length)(bH:c≠0)
  (hl:ps.length<=1073741824) (am:(ps[c]).length<=1073741824) (ho:∀p∈ps[c],getM [] p om=Az os p) (ap:∀p∈ps[c],(Az os p).length<=1073741824) (ht:∀ls,Bz os ps[c]=some ls->ls.length<=1073741824/\totL ls<=1073741824) :
  DCall prog 344 [.ptr ig 0,dI c] O fun x U'=>x=.ret (.tup [])/\U'=if Bm os c ps[c]=[] then O else O.set im (.map (eIO (putM c (Bm os c ps[c]) om))):=by
 have ak:¬(c:Int)=0:=by omega
 refine en func344 ntmps344 ?_
 cases ah:Bz os ps[c]with
 |none=>
  repeat' first|refine gf (gi ak (gi hg (gi hm ah))) ?_|refine Bg (EA ig im ps os ups om c o O hg hm hc hl am ho ap) ?_|refine callP (EA ig im ps os ups om c o O hg hm hc hl am ho ap) ?_|refine gf (gi ak (gi hg (gi hm ah))) ?_ o344|apply gy<;>intro hh
  exact fin0 (U':=O) ⟨rfl,by simp[Bm,ah]⟩
 | some ls =>
  obtain⟨h1,h2⟩:=ht ls ah
  have bz:(BP ls).1.length<=totL ls:=Ek ls
  by_cases bl:(BP ls).1=[]
  ·repeat' first|refine gf (gi ak (gi hg (gi hm ah))) ?_|refine Bg (EA ig im ps os ups om c o O hg hm hc hl am ho ap) ?_|refine callP (EA ig im ps os ups om c o O hg hm hc hl am ho ap) ?_|refine Bg (FJ ls .no O h1 h2) ?_|refine callP (FJ ls .no O h1 h2) ?_|refine gf (gi ak (gi hg (gi hm ah))) ?_ o344|apply gy<;>intro hh
   refine moApp0 ?_
   repeat' first|refine gz ?_ o344|apply gy<;>intro hh
   refine moAppCW (fun i hi=>?_)
   have aj:im≠i:=fun h=>by rw[h,hi]at hm;simp at hm
   refine rtl 39 (sl (cI [(c:Int),0])) ?_
   refine gf (gi hm aj) ?_ o344
   exact fin0 (U':=O.set im (.map (eIO (putM c [(c:Int),0] om)))) ⟨rfl,by rw[Bm,ah];simp[hh,bl]⟩ (Sub.both ((Sub.refl _).set hi))
   exact fin0 (U':=O) ⟨rfl,by rw[Bm,ah];simp[hh]⟩
  ·repeat' first|refine gf (gi ak (gi hg (gi hm ah))) ?_|refine Bg (EA ig im ps os ups om c o O hg hm hc hl am ho ap) ?_|refine callP (EA ig im ps os ups om c o O hg hm hc hl am ho ap) ?_|refine Bg (FJ ls .no O h1 h2) ?_|refine callP (FJ ls .no O h1 h2) ?_|refine gf (gi ak (gi hg (gi hm ah))) ?_ o344|apply gy<;>intro hh
   refine moAppC (fun i hi=>?_)
   have aj:im≠i:=fun h=>by rw[h,hi]at hm;simp at hm
   refine gz ?_ o344
   refine rtl 39 (sl (cI ((c:Int)::(BP ls).1++[0]))) ?_ (D9 _ (by simp[cI]))
   refine gf (gi hm aj) ?_ o344
   exact fin0 (U':=O.set im (.map (eIO (putM c ((c:Int)::(BP ls).1++[0]) om)))) ⟨rfl,by rw[Bm,ah];simp[hh]⟩ (Sub.both ((Sub.refl _).set hi))
   exact fin0 (U':=O) ⟨rfl,by rw[Bm,ah];simp[hh]⟩
end Go.DL
