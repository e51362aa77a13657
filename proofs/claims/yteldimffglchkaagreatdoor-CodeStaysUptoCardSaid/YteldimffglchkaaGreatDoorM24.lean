/- A part of the proof. -/
import Derived.Shelf.Strings.Builder1
import Derived.Test.YteldimffglchkaaGreatDoorProg
import Derived.Shelf.LaysM
import Derived.Shelf.Strconv.Itoa3
import Derived.Test.YteldimffglchkaaGreatDoorM11
import Derived.Test.YteldimffglchkaaGreatDoorM09
import Derived.Test.YteldimffglchkaaGreatDoorM18
import Derived.Test.YteldimffglchkaaGreatDoorM19
import Derived.Test.YteldimffglchkaaGreatDoorM16
import Derived.Test.YteldimffglchkaaGreatDoorM08
import Derived.Test.YteldimffglchkaaGreatDoorM23
import Derived.Test.YteldimffglchkaaGreatDoorM22
set_option linter.all false
set_option linter.unusedVariables false
namespace Go.Proofs
open Go.Proofs.Tryz
open Go.RowKit Go.Shelf
theorem sizeB:(prog.info? 159).map (·.size)=some 2:=by kernel_rfl
set_option maxHeartbeats 1000000 in
set_option maxRecDepth 100000 in
theorem K2(b:Nat)(w:World)(h0:w.cell? ⟨b,0,none⟩=some (.pointer (some ⟨b,0,none⟩))):
  Calls prog 161 #[.pointer (some ⟨b,0,none⟩)] w fun e w'=>e=.returned (.tuple #[])/\w'=w:=by
 obtain⟨j,hj,_⟩:=Option.map_eq_some_iff.1 sizeB
 have mixed:prog.follows .mixedOrders=true:=by kernel_rfl
 have t72:=underlying159;have a72:=isAgg159;have z72:=sizeOf159;have v72:=zeroValue159;have u72:=run_underlying underlying159
 have t70:=underlying157;have a70:=isAgg157;have z70:=sizeOf157;have v70:=zeroValue157;have u70:=run_underlying underlying157
 have t4:=underlying4;have a4:=isAgg4;have z4:=sizeOf4;have v4:=zeroValue4;have u4:=run_underlying underlying4
 go_enter func161,ntmps161
 go_wp2
 rw[Lib.run_neq_ptr_same w _ underlying157 hj]
 go_wp2
 go_end0
 exact⟨rfl,rfl⟩
set_option maxHeartbeats 1000000 in
set_option maxRecDepth 100000 in
theorem JE(b:Nat)(w:World)(h0:w.cell? ⟨b,0,none⟩=some (.pointer none))(bE:w.shape? b=some (159,2))(cC:w.frozen? ⟨b,0,none⟩=false):
  Calls prog 161 #[.pointer (some ⟨b,0,none⟩)] w fun e w'=>e=.returned (.tuple #[])/\w'=w.setCell ⟨b,0,none⟩ (.pointer (some ⟨b,0,none⟩)):=by
 obtain⟨j,hj,b9⟩:=Option.map_eq_some_iff.1 sizeB
 have mixed:prog.follows .mixedOrders=true:=by kernel_rfl
 have t72:=underlying159;have a72:=isAgg159;have z72:=sizeOf159;have v72:=zeroValue159;have u72:=run_underlying underlying159
 have t70:=underlying157;have a70:=isAgg157;have z70:=sizeOf157;have v70:=zeroValue157;have u70:=run_underlying underlying157
 have t4:=underlying4;have a4:=isAgg4;have z4:=sizeOf4;have v4:=zeroValue4;have u4:=run_underlying underlying4
 have t301:=underlying301;have a301:=isAgg301;have z301:=sizeOf301;have v301:=zeroValue301;have u301:=run_underlying underlying301
 have aT:liesAt prog prog.depth 159 (2 / prog.cellsOf 159) 0 159 1=true:=by kernel_rfl
 go_enter func161,ntmps161
 go_wp2
 rw[Lib.run_to_unsafe w ⟨b,0,none⟩ underlying157 underlying301 hj (by rw[b9];decide) bE (Nat.zero_lt_succ 1)]
 simp only[Result.andThen]
 rw[Oper.upon_value]
 go_wp2
 rw[run_callFunc_extern func232 (by kernel_rfl) (by kernel_rfl) (by kernel_rfl) (e:=Extern.AbiNoEscape.same) (by kernel_rfl)]
 rw[Lib.run_noEscape]
 simp only[Result.andThen]
 rw[Oper.upon_value]
 go_wp2
 rw[Lib.run_from_unsafe w ⟨b,0,none⟩ underlying301 underlying157 hj bE aT]
 simp only[Result.andThen]
 rw[Oper.upon_value]
 go_wp2
 go_end0
 exact⟨rfl,rfl⟩
set_option maxHeartbeats 1000000 in
set_option maxRecDepth 100000 in
theorem K3(b g cap:Nat)(p:Value)(ty:TypeId)(l:List UInt8)(cur:Array Value)(w:World)(h0:l≠[])(cg:w.heap[b]? = some (.cells #[p,.slice (some ⟨g,0,none⟩) l.length cap] ty (0,0)))(hg:w.heap[g]? = some (.cells cur 5 (0,0)))(cu:l.length<=cap)(bL:l.length<=cur.size)(cm:l.length<=9223372036854775807)(bw:∀j x,l[j]? = some x->w.cell? ⟨g,j,none⟩=some (.int .u8 x.toNat)):
  Calls prog 86 #[.pointer (some ⟨b,0,none⟩)] w fun e w'=>e=.returned (.string ⟨l.toArray⟩)/\w'=w.drew.freeze ⟨g,0,none⟩ l.length:=by
 have b6:l.length≠0:=by simpa using h0
 have c1:w.drew.cell? ⟨b,1,none⟩=some (.slice (some ⟨g,0,none⟩) l.length cap):=by
  have:w.drew.heap[b]? = some (.cells #[p,.slice (some ⟨g,0,none⟩) l.length cap] ty (0,0)):=cg
  rw[Lib.cell_of_heap this];rfl
 have cH:(Builtin.unsafeSliceData_ #[96] 246 #[.slice (some ⟨g,0,none⟩) l.length cap]).run prog w.drew=.ok (.pointer (some ⟨g,0,none⟩)) w.drew:=
  Lib.run_unsafeSliceData_row _ _ _ _ _ _ (by omega)
 have cG:(Builtin.unsafeString_ #[246,3] 9 #[.pointer (some ⟨g,0,none⟩),.int .i64 l.length]).run prog w.drew=.ok (.string ⟨l.toArray⟩) (w.drew.freeze ⟨g,0,none⟩ l.length):=by
  refine Lib.run_unsafeString_row w.drew 246 3 9 5 underlying246 (by kernel_rfl) g cur.size (by have cd:w.drew.heap[g]? = some (.cells cur 5 (0,0)):=hg;simp[World.shape?, cd]) l h0 bL cm ?_
  intro j x hj
  have e:((⟨g,0,none⟩:Addr).add j)=⟨g,j,none⟩:=by unfold Addr.add;split<;>simp_all
  rw[e];exact bw j x hj
 have mixed:prog.follows .mixedOrders=true:=by kernel_rfl
 have t72:=underlying159;have a72:=isAgg159;have z72:=sizeOf159;have v72:=zeroValue159;have u72:=run_underlying underlying159
 have t70:=underlying157;have a70:=isAgg157;have z70:=sizeOf157;have v70:=zeroValue157;have u70:=run_underlying underlying157
 have t37:=underlying96;have a37:=isAgg96;have z37:=sizeOf96;have v37:=zeroValue96;have u37:=run_underlying underlying96
 have t127:=underlying246;have a127:=isAgg246;have z127:=sizeOf246;have v127:=zeroValue246;have u127:=run_underlying underlying246
 have t3:=underlying3;have a3:=isAgg3;have z3:=sizeOf3;have v3:=zeroValue3;have u3:=run_underlying underlying3
 have t9:=underlying9;have a9:=isAgg9;have z9:=sizeOf9;have v9:=zeroValue9;have u9:=run_underlying underlying9
 have t5:=underlying5;have a5:=isAgg5;have z5:=sizeOf5;have v5:=zeroValue5;have u5:=run_underlying underlying5
 go_enter func86,ntmps86
 go_wp2
 go_region_o
 all_goals (go_wp2;go_ret;exact⟨rfl,rfl⟩)
end Go.Proofs
namespace Go.Proofs
open Go.Proofs.Tryz
open Go.Shelf
def laysM171_ren:Go.Shelf.Ren:=⟨fun|171=>84|243=>162|246=>233|283=>272|284=>273|285=>274|286=>275|129=>316|317=>315|318=>317|319=>318|320=>319|337=>356|338=>357|n=>n,fun|3=>3|9=>9|2=>2|4=>4|171=>337|0=>0|53=>338|37=>96|5=>5|173=>341|212=>389|51=>373|20=>20|213=>390|46=>320|232=>452|233=>453|n=>n,fun|17=>1|18=>6|19=>7|n=>n⟩
theorem laysM171:Go.Proofs.LaysM.n171 prog laysM171_ren:={
 mixed:=by kernel_rfl
 f129:=func316.trans (congrArg some (by kernel_rfl))
 f171:=func84.trans (congrArg some (by kernel_rfl))
 f243:=func162.trans (congrArg some (by kernel_rfl))
 f246:=func233.trans (congrArg some (by kernel_rfl))
 f283:=func272.trans (congrArg some (by kernel_rfl))
 f284:=func273.trans (congrArg some (by kernel_rfl))
 f285:=func274.trans (congrArg some (by kernel_rfl))
 f286:=func275.trans (congrArg some (by kernel_rfl))
 f317:=func315.trans (congrArg some (by kernel_rfl))
 f318:=func317.trans (congrArg some (by kernel_rfl))
 f319:=func318.trans (congrArg some (by kernel_rfl))
 f320:=func319.trans (congrArg some (by kernel_rfl))
 f337:=func356.trans (congrArg some (by kernel_rfl))
 f338:=func357.trans (congrArg some (by kernel_rfl))
 t0:=underlying0
 a0:=isAgg0
 z0:=sizeOf0
 v0:=zeroValue0
 t2:=underlying2
 a2:=isAgg2
 z2:=sizeOf2
 v2:=zeroValue2
 t3:=underlying3
 a3:=isAgg3
 z3:=sizeOf3
 v3:=zeroValue3
 t4:=underlying4
 a4:=isAgg4
 z4:=sizeOf4
 v4:=zeroValue4
 t5:=underlying5
 a5:=isAgg5
 z5:=sizeOf5
 v5:=zeroValue5
 t9:=underlying9
 a9:=isAgg9
 z9:=sizeOf9
 v9:=zeroValue9
 t20:=underlying20
 a20:=isAgg20
 z20:=sizeOf20
 v20:=zeroValue20
 t37:=underlying96
 a37:=isAgg96
 z37:=sizeOf96
 v37:=zeroValue96
 t46:=underlying320
 a46:=isAgg320
 z46:=sizeOf320
 v46:=zeroValue320
 t51:=underlying373
 a51:=isAgg373
 z51:=sizeOf373
 v51:=zeroValue373
 t53:=underlying338
 a53:=isAgg338
 z53:=sizeOf338
 v53:=zeroValue338
 t171:=underlying337
 a171:=isAgg337
 z171:=sizeOf337
 v171:=zeroValue337
 t173:=underlying341
 a173:=isAgg341
 z173:=sizeOf341
 v173:=zeroValue341
 t212:=underlying389
 a212:=isAgg389
 z212:=sizeOf389
 v212:=zeroValue389
 t213:=underlying390
 a213:=isAgg390
 z213:=sizeOf390
 t232:=underlying452
 a232:=isAgg452
 z232:=sizeOf452
 v232:=zeroValue452
 t233:=underlying453
 a233:=isAgg453
 z233:=sizeOf453
 v233:=zeroValue453
 g17:=by kernel_rfl
 g18:=by kernel_rfl
 g19:=by kernel_rfl
 i0:=by kernel_rfl
 i2:=by kernel_rfl
 i3:=by kernel_rfl
 i4:=by kernel_rfl
 i5:=by kernel_rfl
 i9:=by kernel_rfl
 i20:=by kernel_rfl
 i37:=by kernel_rfl
 i46:=by kernel_rfl
 i51:=by kernel_rfl
 i53:=by kernel_rfl
 i171:=by kernel_rfl
 i173:=by kernel_rfl
 i212:=by kernel_rfl
 i232:=by kernel_rfl
 i233:=by kernel_rfl
 m17:=by kernel_rfl
 m18:=by kernel_rfl
 m19:=by kernel_rfl }
open Go.RowKit Go.Sort Go.Lib in
theorem strconv_Itoa (n : Int) (h0 : -9223372036854775808 <= n) (h1 : n <= 9223372036854775807) (w : World) (aE : Lib.TabIs prog w "internal/strconv.uint64pow10" .u64 Lib.pow10Tab) :
  Calls prog 84 #[.int .i64 n] w fun e w'=>e=.returned (.string ⟨(Lib.itoa n).toArray⟩) /\ ∃k os,w'=grow (w.drewN k) os:=Any.strconv_Itoa laysM171 n h0 h1 w aE
end Go.Proofs
namespace Go.DL
open Go.Proofs.Tryz
open Go Go.Proofs
set_option maxHeartbeats 8000000
theorem nn2{O:Sig}{a b:Nat}{o:DObj}(h:O a=some o)(k:O b=none):a≠b:=fun e=>by rw[e,k]at h;cases h
theorem NS:prog.globals.size≠0:=by
 have h:prog.globals.size=8:=by kernel_rfl
 omega
theorem LD(n:Int)(O:Sig)(h0 : -9223372036854775808<=n)(h1:n<=9223372036854775807):EC prog 84 [dI n] O (rS (.str (Lib.itoa n)) O):=by
 refine⟨by rw[Ai];decide,BP func84 (by rfl) (by rfl),fun g w vs r hr hs ha=>?_⟩
 obtain rfl:r=_:=hr
 obtain⟨v,r,rfl,hv,rfl⟩:=ha
 obtain rfl:v=.int .i64 n:=hv
 have aE : Lib.TabIs prog w "internal/strconv.uint64pow10" .u64 Lib.pow10Tab := by
  rcases hs.tab w hs.keep with h|⟨h,_⟩
  ·exact absurd h NS
  ·exact h
 refine(Dy (strconv_Itoa n h0 h1 w aE)).mono ?_
 rintro e w' ⟨rfl,k,os,rfl⟩
 refine⟨g,.ret (.str (Lib.itoa n)),O,.refl g,?_,⟨_,rfl,rfl⟩,rfl,rfl⟩
 refine hs.later (fun k x hx=>?_) rfl
 have hk:k<w.heap.size:=(Array.getElem?_eq_some_iff.1 hx).1
 show(w.heap++os)[k]? = some x
 rw[Array.getElem?_append_left hk];exact hx
theorem NF{w:Go.World}{b:Nat}{vs:Array Value}{ty:TypeId}{x:Value}(h:w.heap[b]? = some (.cells vs ty (0,0))):w.setCell ⟨b,0,none⟩ x=setB w b (.cells (vs.setIfInBounds 0 x) ty (0,0)):=by
 have e:w.heap.setIfInBounds b (.cells (vs.setIfInBounds 0 x) ty (0,0))=(w.setCell ⟨b,0,none⟩ x).heap:=by
  unfold World.setCell
  apply Array.ext_getElem?
  intro k
  by_cases hk:b=k
  ·subst hk
   have hb:b<w.heap.size:=(Array.getElem?_eq_some_iff.1 h).1
   rw[Array.getElem?_setIfInBounds_self_of_lt hb,Array.getElem?_modify,if_pos rfl,h];rfl
  ·simp[Array.getElem?_modify,hk]
 unfold setB
 rw[e];rfl
theorem PZ(ib:Nat)(v:D)(O:Sig)(h:O ib=some (.tcells 159 [.nilp,v])):EC prog 161 [.ptr ib 0] O fun x U'=>x=.ret (.tup [])/\U'=O.set ib (.cells [.ptr ib 0,v]):=by
 refine⟨by rw[Ai];decide,BP func161 (by rfl) (by rfl),fun g w vs r hr hs ha=>?_⟩
 obtain rfl:r=_:=hr
 obtain⟨pv,r,rfl,⟨b,hb,rfl⟩,rfl⟩:=ha
 obtain⟨b',vs,aB,aa,ap⟩:=hs.obj ib _ h
 obtain rfl:b'=b:=by rw[hb]at aB;cases aB;rfl
 obtain⟨v0,r0,aP,h0,v1,r1,rfl,h1,rfl⟩:=ap
 obtain rfl:v0=.pointer none:=h0
 obtain rfl:vs=#[.pointer none,v1]:=by apply Array.ext';simpa using aP
 refine(Dy (JE b' w (by simp[World.cell?, aa]) (by simp[World.shape?, aa]) (by simp[World.frozen?, aa]))).mono ?_
 rintro e w' ⟨rfl,rfl⟩
 refine⟨g,.ret (.tup []),_,.refl g,?_,⟨_,rfl,[],rfl,rfl⟩,rfl,rfl⟩
 rw[NF aa]
 refine hs.setAny h rfl rfl hb aa ⟨b',_,159,hb,EL aa,?_⟩
 exact⟨_,_,rfl,⟨b',hb,rfl⟩,_,_,rfl,h1,rfl⟩
theorem PY(ib:Nat)(v:D)(O:Sig)(h:O ib=some (.cells [.ptr ib 0,v])):EC prog 161 [.ptr ib 0] O (rS (.tup []) O):=by
 refine⟨by rw[Ai];decide,BP func161 (by rfl) (by rfl),fun g w vs r hr hs ha=>?_⟩
 obtain rfl:r=_:=hr
 obtain⟨pv,r,rfl,⟨b,hb,rfl⟩,rfl⟩:=ha
 obtain⟨b',vs,ty,aB,aa,ap⟩:=hs.obj ib _ h
 obtain rfl:b'=b:=by rw[hb]at aB;cases aB;rfl
 obtain⟨v0,r0,aP,⟨b2,bN,rfl⟩,v1,r1,rfl,h1,rfl⟩:=ap
 obtain rfl:b2=b':=by rw[hb]at bN;cases bN;rfl
 obtain rfl:vs=#[.pointer (some ⟨b2,0,none⟩),v1]:=by apply Array.ext';simpa using aP
 refine(Dy (K2 b2 w (by simp[World.cell?, aa]))).mono ?_
 rintro e w' ⟨rfl,rfl⟩
 exact⟨g,.ret (.tup []),_,.refl g,hs,⟨_,rfl,[],rfl,rfl⟩,rfl,rfl⟩
def BldS(ib:Nat)(S0:Sig)(bs:List UInt8)(O:Sig):Prop:=
 Sub S0 O/\S0 ib=none/\((bs=[]/\O ib=some (.tcells 159 [.nilp,.nils])) \/ ∃r:BR,O ib=some (.cells [.ptr ib 0,r.d bs.length])/\BRAt 5 O r bs /\ ¬r.is ib /\ ∀j,r.is j->S0 j=none)
theorem BRAt.set{e:Nat}{O:Sig}{r:BR}{bs:List UInt8}(h:BRAt e O r bs){i:Nat}{o:DObj}(hi:¬r.is i):BRAt e (O.set i o) r bs:=by
 rcases r with _|⟨k,c,cs⟩
 ·exact h
 ·exact⟨by rw[w7 _ _ fun e=>hi e.symm];exact h.1,h.2⟩
theorem bapp{ro:Ro}{n:Nat}{ops:Array Oper}{Q:DX->St->Prop}{df:List DDf}{rest:List Oper}{γ Sr:Fr}{O:Sig}{t:Nat}{ty:TypeId}{pos:String}{after:Array Edge}{s x:Operand}{bs str:List UInt8}{r:BR}
  (h:∀r' U',BRAt 5 U' r' (bs++str)->(∀j o,O j=some o->¬r.is j->U' j=some o /\ ¬r'.is j)->DOps prog ro n ops Q rest ⟨(t,r'.d (bs++str).length)::γ,U',df⟩) (hm:BRAt 5 O r bs) (hb:bs.length+str.length<=140737488355328)
  (hl:A3 γ (A9 [s,x])=some Sr:=by exact tdR) (h1:ev Sr s=r.d bs.length:=by exact tdR) (h2:ev Sr x=.str str:=by exact tdR) (aj:decide (t<n)=true:=by exact tdR) :
  DOps prog ro n ops Q (⟨some t,.call { callee:=.builtin .append,args:= #[s,x],argTypes:= #[96,9] },ty,pos,after,none⟩::rest) ⟨γ,O,df⟩:=by
 obtain⟨e1,e2⟩:=evs hl
 exact TR Af (by simpa using aj) (by simp<;>rfl) (by simp<;>rfl) (by simp) (by simp) (by simp) (by rw[<-e1];exact h1) hm (by rw[<-e2];exact h2) hb h
theorem EX(ib:Nat)(S0:Sig)(bs s:List UInt8)(O:Sig)(hB:BldS ib S0 bs O)(hb:bs.length+s.length<=1000000000):EC prog 83 [.ptr ib 0,.str s] O fun x U'=>x=.ret (.tup [dI s.length,.niliface])/\BldS ib S0 (bs++s) U':=by
 obtain⟨hS,h0,hB⟩:=hB
 refine enW func83 ntmps83 ?_
 rcases hB with⟨rfl,h1⟩|⟨r,h1,h2,h3,h4⟩
 ·refine gz ?_
  refine DW (PZ ib _ O h1) (fun d S1 hr=>?_) (fun d S1 hr=>by cases hr.1)
  obtain⟨hd,rfl⟩:=hr
  cases hd
  have u1:(O.set ib (.cells [.ptr ib 0,.nils])) ib=some (.cells [.ptr ib 0,.nils]):=w6 ..
  refine gf u1 ?_
  refine bapp (bs:=[]) (str:=s) (r:=none) (fun r' S2 k1 k2=>?_) rfl (by simp at hb⊢; omega)
  obtain⟨u2,u3⟩:=k2 _ _ u1 id
  have ai:BldS ib S0 ([]++s) (S2.set ib (.cells [.ptr ib 0,r'.d ([]++s).length])):=by
   refine⟨fun j o hj=>?_,h0,.inr ⟨r',w6 ..,?_,u3,fun j hj=>?_⟩⟩
   ·have aM:j≠ib:=nn2 hj h0
    rw[w7 _ _ aM]
    exact(k2 j o (by rw[w7 _ _ aM];exact hS j o hj) id).1
   ·exact k1.set u3
   ·cases aN:S0 j with
    |none=>rfl
    |some o=>exact absurd hj (k2 j o (by rw[w7 _ _ (nn2 aN h0)];exact hS j o aN) id).2
  rcases r' with _|⟨i,c,cs⟩<;>simp only[BR.d]at ai⊢
  ·refine gf u2 ?_
   exact Vc (U':=_) ⟨rfl,ai⟩
  ·refine gf u2 ?_
   exact Vc (U':=_) ⟨rfl,ai⟩
 ·refine gz ?_
  refine DW (PY ib _ O h1) (fun d S1 hr=>?_) (fun d S1 hr=>by cases hr.1)
  obtain⟨hd,rfl⟩:=hr
  cases hd
  refine gf h1 ?_
  refine bapp (bs:=bs) (str:=s) (r:=r) (fun r' S2 k1 k2=>?_) h2 (by omega)
  obtain⟨u2,u3⟩:=k2 _ _ h1 h3
  have ai:BldS ib S0 (bs++s) (S2.set ib (.cells [.ptr ib 0,r'.d (bs++s).length])):=by
   refine⟨fun j o hj=>?_,h0,.inr ⟨r',w6 ..,?_,u3,fun j hj=>?_⟩⟩
   ·have aM:j≠ib:=nn2 hj h0
    rw[w7 _ _ aM]
    exact(k2 j o (hS j o hj) fun h=>by rw[h4 j h]at hj;cases hj).1
   ·exact k1.set u3
   ·cases aN:S0 j with
    |none=>rfl
    |some o=>exact absurd hj (k2 j o (hS j o aN) fun h=>by rw[h4 j h]at aN;cases aN).2
  rcases r' with _|⟨i,c,cs⟩<;>simp only[BR.d]at ai⊢
  ·refine gf u2 ?_
   exact Vc (U':=_) ⟨rfl,ai⟩
  ·refine gf u2 ?_
   exact Vc (U':=_) ⟨rfl,ai⟩
theorem PK{w:Go.World}{b n:Nat}{vs:Array Value}{ty:TypeId}(h:w.heap[b]? = some (.cells vs ty (0,0)))(hn:n≠0):w.freeze ⟨b,0,none⟩ n=setB w b (.cells vs ty (0,0+n)):=by
 have e:w.heap.setIfInBounds b (.cells vs ty (0,0+n))=(w.freeze ⟨b,0,none⟩ n).heap:=by
  unfold World.freeze
  rw[if_neg hn]
  apply Array.ext_getElem?
  intro k
  by_cases hk:b=k
  ·subst hk
   have hb:b<w.heap.size:=(Array.getElem?_eq_some_iff.1 h).1
   rw[Array.getElem?_setIfInBounds_self_of_lt hb,Array.getElem?_modify,if_pos rfl,h];rfl
  ·simp[Array.getElem?_modify,hk]
 unfold setB
 rw[e]
 unfold World.freeze
 rw[if_neg hn]
theorem Vf(ib:Nat)(S0:Sig)(bs:List UInt8)(O:Sig)(hB:BldS ib S0 bs O)(hne:bs≠[])(hb:bs.length<=1000000000):EC prog 86 [.ptr ib 0] O (rS (.str bs) S0):=by
 obtain⟨hS,h0,hB⟩:=hB
 rcases hB with⟨rfl,_⟩|⟨r,h1,h2,h3,h4⟩
 ·exact absurd rfl hne
 rcases r with _|⟨i,c,cs⟩
 ·exact absurd h2 hne
 obtain⟨h5,h6⟩:=h2
 refine⟨by rw[Ai];decide,BP func86 (by rfl) (by rfl),fun g w vs r hr hs ha=>?_⟩
 obtain rfl:r=_:=hr
 obtain⟨pv,r,rfl,⟨b,bX,rfl⟩,rfl⟩:=ha
 obtain⟨b',vs,ty,aB,aa,ap⟩:=hs.obj ib _ h1
 obtain rfl:b'=b:=by rw[bX]at aB;cases aB;rfl
 obtain⟨v0,r0,aP,_,v1,r1,rfl,⟨bg,bM,rfl⟩,rfl⟩:=ap
 obtain rfl:vs=#[v0,.slice (some ⟨bg,0,none⟩) bs.length c]:=by apply Array.ext';simpa using aP
 obtain⟨bg',vg,aY,bi,bK⟩:=hs.obj i _ h5
 obtain rfl:bg'=bg:=by rw[bM]at aY;cases aY;rfl
 have bZ:=RepL.length bK
 simp only[Array.length_toList,List.length_append,List.length_map]at bZ
 refine(Dy (K3 b' bg' c v0 ty bs vg w hne aa bi (by omega) (by omega) (by omega) fun j x hj=>?_)).mono ?_
 ·have hg:=RepL.get bK j
  have ca:=(List.getElem?_eq_some_iff.1 hj).1
  rw[List.getElem?_append_left (by simpa using ca),List.getElem?_map,hj]at hg
  simp only[Option.map_some,Array.getElem?_toList]at hg
  have bJ:j<vg.size:=by omega
  rw[Array.getElem?_eq_getElem bJ]at hg
  simp only[World.cell?, bi]
  rw[Array.getElem?_eq_getElem bJ]
  exact congrArg some hg
 ·rintro e w' ⟨rfl,rfl⟩
  have hl:bs.length≠0:=by simpa using hne
  refine⟨g,.ret (.str bs),S0,.refl g,?_,⟨_,rfl,rfl⟩,rfl,rfl⟩
  rw[PK (w:=w.drew) bi hl]
  refine(hs.drew.kill h5 rfl bM (x:=.cells vg 5 (0,0)) bi).sub fun j o hj=>?_
  have aM:j≠i:=fun e=>by rw[e,h4 i rfl]at hj;cases hj
  simp only[Sig.del,aM,if_false]
  exact hS j o hj
theorem newT{ro:Ro}{n:Nat}{ops:Array Oper}{Q:DX->St->Prop}{df:List DDf}{rest:List Oper}{γ:Fr}{O:Sig}{t T:Nat}{ty:TypeId}{pos:String}{after:Array Edge}(h:∀i,O i=none->DOps prog ro n ops Q rest ⟨(t,.ptr i 0)::γ,O.set i (.tcells T (tab T).zero),df⟩)(hk:A0 (tab T).k=false:=by simp)(aj:decide (t<n)=true:=by exact tdR):
  DOps prog ro n ops Q (⟨some t,.alloc T,ty,pos,after,none⟩::rest) ⟨γ,O,df⟩:=O6 Af hk (by simpa using aj) h
@[simp] theorem cIns_tk(x:CIns):List.take 2 (cIns x)=cIns x:=rfl
@[simp] theorem cIns_mem(x:CIns)(d:D):(d∈cIns x)=(d=dI x.op\/d=dI x.a):=by simp[cIns]
theorem Vu(c:CProg)(O:Sig)(h1:c.ins.length<=1073741824)(h2:c.starts.length<=1073741824):EC prog 40 [.agg (cCPg c)] O (rS (if Er c then .tup [.str (M6 c),dI 0] else .tup [.str [],dI 2]) O):=by
 have aW:∀l:List Int,l.all farN=true->∀n∈l,0<=n/\n<=1000000000:=fun l h n hn=>by have:=List.all_eq_true.1 h n hn;unfold farN at this;simpa using this
 refine enW func40 ntmps40 ?_
 repeat' first|refine gz ?_ o40|apply gy<;>intro hh
 ·refine fin2 (U':=O) ⟨by rw[hh];rfl,rfl⟩
 ·have hp:=hh
  unfold Er at hp
  simp only[Bool.and_eq_true,decide_eq_true_eq]at hp
  obtain⟨c1,c2,c3,c4,c5⟩:=hp
  have hT:=Un hh
  have hm:0<=c.main/\c.main<=1000000000:=by unfold farN at c3;simpa using c3
  have bm:M6 c=PG c++10::listB (fun l=>l++[10]) (c.ins.map Gf):=by unfold M6;rw[listB,List.append_assoc];rfl
  have b6:(PG c).length=(listB (fun n=>Lib.itoa n++[32]) c.starts).length+2+(Lib.itoa c.main).length:=by unfold PG;simp;omega
  have bU:=congrArg List.length bm
  rw[List.length_append,List.length_cons]at bU
  refine newT (fun ib au=>?_)
  have aO:BldS ib O [] (O.set ib (.tcells 159 (tab 159).zero)):=⟨(Sub.refl _).set au,au,.inl ⟨rfl,w6 ..⟩⟩
  generalize O.set ib (.tcells 159 (tab 159).zero)=S1 at aO
  refine gz ?_ o40
  refine Ge [1,2,3,4,8,13,14,24,25,26,27,28,29,30,31,32,33,34,35,36,37,38,39,40,41,42,43,44,45,46,47,48,49,50,51,52,53,54] (fun (k:Nat) (bs:List UInt8) (S2:Sig)=>k<=c.starts.length/\BldS ib O bs S2/\bs++listB (fun n=>Lib.itoa n++[32]) (c.starts.drop k)=listB (fun n=>Lib.itoa n++[32]) c.starts) (fun k _ _=>[(15,dI k)]) (fun _ _ S2=>S2) (fun k _ _=>c.starts.length-k) (0) ([]) (S1) (by exact⟨by omega,aO,rfl⟩) (fun k bs S2 hI=>?_)
  obtain⟨hk,hB,hE⟩:=hI
  have aI:=congrArg List.length hE
  rw[List.length_append]at aI
  by_cases ac:k<c.starts.length
  ·rw[A4 ac,listB]at hE
   obtain⟨n1,n2⟩:=aW _ c4 _ (List.getElem_mem ac)
   have cB:=RA (n:=c.starts[k]) ⟨by omega,by omega⟩
   refine gz ?_ o40
   refine DW (LD c.starts[k] S2 (by omega) (by omega)) (fun d S3 hr=>?_) (fun d S3 hr=>by cases hr.1)
   obtain⟨hd,rfl⟩:=hr
   cases hd
   refine gz ?_ o40
   refine DW (EX ib O bs (Lib.itoa c.starts[k]++[32]) _ hB (by simp;omega)) (fun d S3 hr=>?_) (fun d S3 hr=>by cases hr.1)
   obtain⟨hd,ak⟩:=hr
   cases hd
   refine gz ?_ o40
   exact⟨k+1,bs++(Lib.itoa c.starts[k]++[32]),S3,⟨by omega,ak,by rw[List.append_assoc];exact hE⟩,td1,wkR⟩
  ·rw [Aa ac,listB,List.append_nil] at hE
   refine gz ?_ o40
   refine DW (LD c.main S2 (by omega) (by omega)) (fun d S3 hr=>?_) (fun d S3 hr=>by cases hr.1)
   obtain⟨hd,rfl⟩:=hr
   cases hd
   refine gz ?_ o40
   refine DW (EX ib O bs ([58,32]++Lib.itoa c.main++[10]) _ hB (by simp;omega)) (fun d S3 hr=>?_) (fun d S3 hr=>by cases hr.1)
   obtain⟨hd,ak⟩:=hr
   cases hd
   have bO:bs++([58,32]++Lib.itoa c.main++[10])++listB (fun l=>l++[10]) (c.ins.map Gf)=M6 c:=by rw[bm];unfold PG;simp[hE]
   generalize bs++([58,32]++Lib.itoa c.main++[10])=bs3 at ak bO
   refine gz ?_ o40
   refine Ge [2,3,4,31,32,53,54] (fun (k:Nat) (bs:List UInt8) (S2:Sig)=>k<=c.ins.length/\BldS ib O bs S2/\bs++listB (fun l=>l++[10]) ((c.ins.drop k).map Gf)=M6 c) (fun k _ _=>[(33,dI k)]) (fun _ _ S2=>S2) (fun k _ _=>c.ins.length-k) (0) (bs3) (S3) (by exact⟨by omega,ak,bO⟩) (fun k bs S2 hI=>?_)
   obtain⟨hk,hB,hE⟩:=hI
   have aI:=congrArg List.length hE
   rw[List.length_append]at aI
   by_cases ac:k<c.ins.length
   ·rw[A4 ac,List.map_cons,listB]at hE
    have hI:=List.all_eq_true.1 c5 _ (List.getElem_mem ac)
    have cy:=OD hI
    unfold F5 at hI
    simp only[Bool.and_eq_true,decide_eq_true_eq]at hI
    obtain⟨⟨cb,aA⟩,ae⟩:=hI
    have cq:wordsC.length=21:=rfl
    have bl:Uf c.ins[k].op=wordsC[c.ins[k].op.toNat-1]'(by omega):=by unfold Uf;rw[show(c.ins[k].op-1).toNat=c.ins[k].op.toNat-1 by omega,List.getElem?_eq_getElem (by omega)];rfl
    have bh:(Gf c.ins[k]).length=(wordsC[c.ins[k].op.toNat-1]'(by omega)).length+(if hasA c.ins[k].op then 1+(Lib.itoa c.ins[k].a).length else 0):=by
     unfold Gf;rw[bl,List.length_append];split<;>simp<;>omega
    have cD:(listB (fun l=>l++[10]) (List.map Gf (List.drop k c.ins))).length=(Gf c.ins[k]).length+1+(listB (fun l=>l++[10]) (List.map Gf (List.drop (k+1) c.ins))).length:=by
     rw[A4 ac,List.map_cons,listB];simp;omega
    by_cases hA:hasA c.ins[k].op=true
    ·rw[if_pos hA]at bh ae
     have cF : -1000000000<=c.ins[k].a/\c.ins[k].a<=1000000000:=by
      split at ae
      ·unfold inB at ae;simp at ae;omega
      ·unfold farN at ae;simp at ae;omega
     have aG:Gf c.ins[k]=wordsC[c.ins[k].op.toNat-1]'(by omega)++([32]++Lib.itoa c.ins[k].a):=by unfold Gf;rw[bl,if_pos hA];rfl
     refine gz ?_ o40
     refine DW (EX ib O bs (wordsC[c.ins[k].op.toNat-1]'(by omega)) _ hB (by omega)) (fun d S3 hr=>?_) (fun d S3 hr=>by cases hr.1)
     obtain⟨hd,ak⟩:=hr
     cases hd
     refine gf hA ?_ o40
     refine DW (LD c.ins[k].a S3 (by omega) (by omega)) (fun d S4 hr=>?_) (fun d S4 hr=>by cases hr.1)
     obtain⟨hd,rfl⟩:=hr
     cases hd
     refine gz ?_ o40
     refine DW (EX ib O _ ([32]++Lib.itoa c.ins[k].a) _ ak (by simp;omega)) (fun d S3 hr=>?_) (fun d S3 hr=>by cases hr.1)
     obtain⟨hd,aC⟩:=hr
     cases hd
     refine gz ?_ o40
     refine DW (EX ib O _ [10] _ aC (by simp;omega)) (fun d S3 hr=>?_) (fun d S3 hr=>by cases hr.1)
     obtain⟨hd,bB⟩:=hr
     cases hd
     rw[aG]at hE
     refine gz ?_ o40
     exact⟨k+1,_,_,⟨by omega,bB,by simpa[List.append_assoc] using hE⟩,td1,wkR⟩
    ·rw[if_neg hA]at bh ae
     have ck:hasA c.ins[k].op=false:=by simpa using hA
     have aG:Gf c.ins[k]=wordsC[c.ins[k].op.toNat-1]'(by omega):=by unfold Gf;rw[bl,if_neg hA,List.append_nil]
     refine gz ?_ o40
     refine DW (EX ib O bs (wordsC[c.ins[k].op.toNat-1]'(by omega)) _ hB (by omega)) (fun d S3 hr=>?_) (fun d S3 hr=>by cases hr.1)
     obtain⟨hd,ak⟩:=hr
     cases hd
     refine gf ck ?_ o40
     refine DW (EX ib O _ [10] _ ak (by simp;omega)) (fun d S3 hr=>?_) (fun d S3 hr=>by cases hr.1)
     obtain⟨hd,bB⟩:=hr
     cases hd
     rw[aG]at hE
     refine gz ?_ o40
     exact⟨k+1,_,_,⟨by omega,bB,by simpa[List.append_assoc] using hE⟩,td1,wkR⟩
   ·rw[Aa ac,List.map_nil,listB,List.append_nil]at hE
    subst hE
    refine gz ?_ o40
    refine DW (Vf ib O _ _ hB (by rw[bm];simp) (by omega)) (fun d S3 hr=>?_) (fun d S3 hr=>by cases hr.1)
    obtain⟨hd,rfl⟩:=hr
    cases hd
    refine gz ?_ o40
    refine fin2 (U':=S3) ⟨by rw[hh];rfl,rfl⟩
def rvk(l:List UInt8)(k:Nat):List UInt8:=(List.range l.length).map fun j=>if j<k\/l.length<=j+k then l.getD (l.length-1-j) 0 else l.getD j 0
@[simp] theorem rvk_len(l:List UInt8)(k:Nat):(rvk l k).length=l.length:=by simp[rvk]
theorem HL(l:List UInt8)(k j:Nat)(h:j<l.length):(rvk l k)[j]? = some (if j<k\/l.length<=j+k then l.getD (l.length-1-j) 0 else l.getD j 0):=by
 unfold rvk;rw[List.getElem?_map,List.getElem?_range h];rfl
theorem getD_some{l:List UInt8}{j:Nat}(h:j<l.length):l[j]? = some (l.getD j 0):=by rw[List.getD_eq_getElem?_getD,List.getElem?_eq_getElem h];rfl
theorem rvk_0(l:List UInt8):rvk l 0=l:=by
 refine List.ext_getElem? fun j=>?_
 by_cases h:j<l.length
 ·rw[HL l 0 j h,if_neg (by omega),getD_some h]
 ·rw[List.getElem?_eq_none (by simp;omega),List.getElem?_eq_none (by omega)]
theorem rvk_end(l:List UInt8)(k:Nat)(h:l.length<=2*k+1):rvk l k=l.reverse:=by
 refine List.ext_getElem? fun j=>?_
 by_cases hj:j<l.length
 ·rw[HL l k j hj,List.getElem?_reverse hj,getD_some (by omega)]
  by_cases h2:j<k\/l.length<=j+k
  ·rw[if_pos h2]
  ·rw[if_neg h2,show l.length-1-j=j by omega]
 ·rw[List.getElem?_eq_none (by simp;omega),List.getElem?_eq_none (by simp;omega)]
theorem rvk_set(l:List UInt8)(k:Nat)(h:2*k+1<l.length):((rvk l k).set k (l.getD (l.length-1-k) 0)).set (l.length-1-k) (l.getD k 0)=rvk l (k+1):=by
 refine List.ext_getElem? fun j=>?_
 by_cases hj:j<l.length
 ·rw[HL l _ j hj]
  by_cases h1:j=l.length-1-k
  ·subst h1
   rw[List.getElem?_set_self (by simp;omega),if_pos (by omega)]
   congr 2;omega
  ·rw[List.getElem?_set_ne (fun e=>h1 e.symm)]
   by_cases h2:j=k
   ·subst h2
    rw[List.getElem?_set_self (by simp;omega),if_pos (by omega)]
   ·rw[List.getElem?_set_ne (fun e=>h2 e.symm),HL l k j hj]
    congr 1
    by_cases h3:j<k\/l.length<=j+k
    ·rw[if_pos h3,if_pos (by omega)]
    ·rw[if_neg h3,if_neg (by omega)]
 ·rw[List.getElem?_eq_none (by simp;omega),List.getElem?_eq_none (by simp;omega)]
def byD(b:UInt8):D:=.int .u8 (b.toNat:Int)
theorem Oj{α:Type}(l:List α)(k:Nat)(x:α)(h:k<l.length):l.take k++[x]++l.drop (k+1)=l.set k x:=by
 rw[List.set_eq_take_append_cons_drop,if_pos h,List.append_assoc];rfl
theorem Q0(b:D)(O:Sig):DCall prog 155 [.slice [[b]] .clip] O (rS (.tup []) O):=by
 refine en func155 ntmps155 ?_
 refine gz ?_ o155
 refine BU [0] (fun (k:Nat)=>True) (fun _=>[(2,dI 0),(3,dI 0)]) (fun _=>O) (fun _=>1) (0) (by trivial) (fun k hI=>?_)
 refine gz ?_ o155
 refine EV (U':=O) ⟨rfl,rfl⟩
theorem Tf(bs:List UInt8)(rest:List D)(i cap:Nat)(O:Sig)(hn:bs.length<=1000000)(hc:bs.length<=cap)(hi:O i=some (.cells (bs.map byD++rest))):DCall prog 155 [.sref i 0 bs.length cap] O fun x U'=>x=.ret (.tup [])/\U'=O.set i (.cells (bs.reverse.map byD++rest)):=by
 refine en func155 ntmps155 ?_
 refine gz ?_ o155
 refine BS [0] (fun (k:Nat) (S2:Sig)=>k<=bs.length/\(∀j,j≠i->S2 j=O j)/\S2 i=some (.cells ((rvk bs k).map byD++rest))) (fun k _=>[(2,dI k),(3,dI ((bs.length:Int)-1-k))]) (fun _ S2=>S2) (fun k _=>bs.length-k) (0) (O) (by exact⟨Nat.zero_le _,fun _ _=>rfl,by rw[rvk_0];exact hi⟩) (fun k S2 hI=>?_)
 obtain⟨bH,hs,aA⟩:=hI
 by_cases hk:2*k+1<bs.length
 ·obtain⟨L,hL⟩:∃L,L=(rvk bs k).map byD++rest:=⟨_,rfl⟩
  rw[<-hL]at aA
  have bh:bs.length<=L.length:=by rw[hL];simp
  have hx:L[k]? = some (byD (bs.getD k 0)):=by rw[hL,List.getElem?_append_left (by simp;omega),List.getElem?_map,HL bs k k (by omega),if_neg (by omega)];rfl
  have hy:L[bs.length-1-k]? = some (byD (bs.getD (bs.length-1-k) 0)):=by rw[hL,List.getElem?_append_left (by simp;omega),List.getElem?_map,HL bs k _ (by omega),if_neg (by omega)];rfl
  have hE:(L.set k (byD (bs.getD (bs.length-1-k) 0))).set (bs.length-1-k) (byD (bs.getD k 0))=(rvk bs (k+1)).map byD++rest:=by
   rw[hL,List.set_append_left _ _ (by simp;omega),List.set_append_left _ _ (by simp;omega),<-List.map_set,<-List.map_set,rvk_set bs k hk]
  unfold byD at hx hy hE
  generalize (bs.getD k 0).toNat=x at*
  generalize (bs.getD (bs.length-1-k) 0).toNat=y at*
  have hX:L[k]'(by omega)=.int .u8 x:=by have:=hx;rw[List.getElem?_eq_getElem (by omega)]at this;exact Option.some.inj this
  have hY:L[bs.length-1-k]'(by omega)=.int .u8 y:=by have:=hy;rw[List.getElem?_eq_getElem (by omega)]at this;exact Option.some.inj this
  have bb:=Oj L k (.int .u8 y) (by omega)
  have bF:=Oj (L.set k (.int .u8 y)) (bs.length-1-k) (.int .u8 x) (by simp;omega)
  simp only[List.append_assoc,List.singleton_append]at bb bF
  have cf:¬L.length<k+1:=by omega
  have ce:¬L.length<bs.length-1-k+1:=by omega
  refine gz ?_
  refine mixK (id:=3) [0,1,2,3,4,5,6,7,8,9,10,11,12,13,14,15] [13,15] [7,11] [13,15] S2 (Sub.refl _) ?_
  refine k4R (.sref i 0 bs.length cap) ?_
  refine k4R (dI k) ?_
  refine k4R (.sref i 0 bs.length cap) ?_
  refine k4R (dI ((bs.length:Int)-1-k)) ?_
  refine k4R (.sref i 0 bs.length cap) ?_
  refine k4R (dI ((bs.length:Int)-1-k)) ?_
  refine k4R (.ptr i (bs.length-1-k)) ?_ (hd:=by simp(disch:=omega);omega)
  refine k4R (.int .u8 y) ?_ (hd:=by simp[aA,hy])
  refine k4R (.sref i 0 bs.length cap) ?_
  refine k4R (dI k) ?_
  refine k4R (.ptr i k) ?_ (hd:=by simp(disch:=omega);omega)
  refine k4R (.int .u8 x) ?_ (hd:=by simp[aA,hx])
  refine k4R (.ptr i k) ?_ (hd:=by simp(disch:=omega);omega)
  refine k4S (d:=.any) (U':=S2.set i (.cells (L.set k (.int .u8 y)))) (fun _=>none) (fun _ _ h=>by cases h) ?_ (he:=by simp[aA,bb,cf])
  refine k4R (.ptr i (bs.length-1-k)) ?_ (hd:=by simp(disch:=omega);omega)
  refine k4S (d:=.any) (U':=(S2.set i (.cells (L.set k (.int .u8 y)))).set i (.cells ((L.set k (.int .u8 y)).set (bs.length-1-k) (.int .u8 x)))) (fun _=>none) (fun _ _ h=>by cases h) ?_ (he:=by simp[bF,ce])
  refine k4N ?_
  rw[hE]
  refine gz ?_ o155
  exact⟨k+1,(S2.set i (.cells (L.set k (.int .u8 y)))).set i (.cells ((rvk bs (k+1)).map byD++rest)),⟨by omega,fun j hj=>by rw[w7 _ _ hj,w7 _ _ hj];exact hs j hj,w6 ..⟩,td1,wkR⟩
 ·refine gz ?_ o155
  refine EV (U':=S2) ⟨rfl,?_⟩
  rw[rvk_end bs k (by omega)]at aA
  funext j
  by_cases hj:j=i
  ·subst hj;rw[w6,aA]
  ·rw[w7 _ _ hj,hs j hj]
theorem IB(x:Int):IntKind.u8.wrap x=x % 256:=by
 simp[IntKind.wrap,IntKind.bits,IntKind.signed]
theorem u8_step(z c:UInt8):IntKind.u8.wrap (IntKind.u8.wrap (IntKind.u8.wrap (3*(z.toNat:Int))+(c.toNat:Int))+1)=((3*z+c+1).toNat:Int):=by
 rw[IB,IB,IB,UInt8.toNat_add,UInt8.toNat_add,UInt8.toNat_mul]
 simp only[UInt8.reduceToNat]
 omega
theorem Vj(bs:List UInt8)(i cap:Nat)(rest:List D)(O:Sig)(hn:bs.length<=1000000)(hc:bs.length<=cap)(hi:O i=some (.cells (bs.map byD++rest))):DCall prog 73 [.sref i 0 bs.length cap] O (rS (.int .u8 ((sumB bs 0).toNat:Int)) O):=by
 refine en func73 ntmps73 ?_
 refine gz ?_
 refine BS [2,6,7,18] (fun (k:Nat) (z:UInt8)=>k<=bs.length/\sumB (bs.drop k) z=sumB bs 0) (fun k z=>[(8,dI k),(3,.int .u8 (z.toNat:Int))]) (fun _ _=>O) (fun k _=>bs.length-k) (0) (0) (by exact⟨Nat.zero_le _,rfl⟩) (fun k z hI=>?_)
 obtain⟨bH,hs⟩:=hI
 by_cases hk:k<bs.length
 ·obtain⟨L,hL⟩:∃L,L=bs.map byD++rest:=⟨_,rfl⟩
  rw[<-hL]at hi
  have bh:bs.length<=L.length:=by rw[hL];simp
  have hX:L[k]'(by omega)=.int .u8 (bs[k].toNat:Int):=by subst hL;rw[List.getElem_append_left (by simpa using hk),List.getElem_map];rfl
  rw[A4 hk,sumB]at hs
  refine gf (gi hi hX) ?_
  simp only[u8_step]
  exact⟨k+1,3*z+bs[k]+1,⟨by omega,hs⟩,td1,wkR⟩
 ·rw[Aa hk,sumB]at hs
  refine gz ?_
  refine fin1 (U':=O) ⟨by rw[<-hs],rfl⟩
@[simp] theorem RW.d_row(i c n:Nat)(cs:List D):(RW.row i c cs).d n=.sref i 0 n c:=rfl
@[simp] theorem RW.d_full(es:List (List D))(n:Nat):(RW.full es).d n=.slice es .clip:=rfl
def DZ(b:UInt8):List D:=[.int .u8 (b.toNat:Int)]
@[simp] theorem byteL_len(b:UInt8):(DZ b).length=1:=rfl
theorem G7: ∀l:List UInt8,(l.map DZ).flatten=l.map byD
 |[]=>rfl
 |b::l=>by rw[List.map_cons,List.flatten_cons,G7 l];rfl
def PkS(ib:Nat)(S0:Sig)(bs:List UInt8)(O:Sig):Prop:=
 Sub S0 O/\S0 ib=none /\ ∃r:RW,O ib=some (.cells [r.d (bs.map DZ).length])/\RWAt O 1 r (bs.map DZ) /\ ¬r.is ib/\(∀j,r.is j->S0 j=none)/\(bs.length<=1 \/ ∃i c cs,r=.row i c cs)
section
variable {ro:Ro}{n:Nat}{ops:Array Oper}{N:Nat}{S0:Sig}{Q:DX->St->Prop}{df:List DDf}{rest:List Oper}{γ Sr:List (Nat×D)}{O:Sig}{t:Nat}{ty:TypeId}{pos:String}{after:Array Edge}{d:D}
theorem xappN{T T' e e' sz:Nat}{s x:Operand}{es new:List (List D)}{r:RW}(h:∀i c cs U',RWAt U' sz (.row i c cs) (es++new)->RWK O r U' (.row i c cs)->DOps prog ro n ops Q rest ⟨(t,.sref i 0 (es.length+new.length) c)::γ,U',df⟩)(hm:RWAt O sz r es){dx:D}(h2:K4 prog O sz dx new)(hne:new≠[])(bt:∀c∈new,BN c=true)
  (hlen':∀c∈new,c.length=sz)
  (hl:A3 γ (A9 [s,x])=some Sr:=by exact tdR) (hx:ev Sr x=dx:=by exact tdR) (hk:(tab T).k=.slice e:=by(simp<;>rfl)) (aU:(tab T').k=.slice e':=by(simp<;>rfl)) (he:A0 (tab e).k=false:=by simp) (hsz:(tab e).size=sz:=by simp)
  (h1:ev Sr s=r.d es.length:=by first|with_unfolding_all rfl|(simp[ev,getD,List.lookup];done))
  (hb:(es.length+new.length)*(tab e).bytes<=140737488355328:=by first|(simp;done)|(simp;omega)) (hm2:es.length+new.length<=9223372036854775807:=by first|(simp;done)|(simp;omega)) (aj:decide (t<n)=true:=by exact tdR) :
  DOps prog ro n ops Q (⟨some t,(cA s x T T'),ty,pos,after,none⟩::rest) ⟨γ,O,df⟩:=by
 obtain⟨e1,e2⟩:=evs hl
 subst hx
 exact Ey Af (by simpa using aj) hk aU he hsz (by rw[<-e1];exact h1) hm (by rw[<-e2];exact h2) hlen' bt hb hm2 fun r' U' h1 h2 h3=>by
  rcases h3 with⟨h3,_⟩|⟨i,c,cs,rfl⟩
  ·exact absurd h3 hne
  ·exact h i c cs U' h1 h2
end
theorem G2(ib:Nat)(S0:Sig)(bs:List UInt8)(n:Nat)(O:Sig)(hB:PkS ib S0 bs O)(hn:n<=10000000000)(hb:bs.length<=1000000):DCall prog 71 [.ptr ib 0,dI n] O fun x U'=>x=.ret (.tup [])/\PkS ib S0 (bs++digB n) U':=by
 obtain⟨hS,h0,r0,bp,bd,bG,bc,_⟩:=hB
 refine en func71 ntmps71 ?_
 refine gz ?_
 refine Rn [0,22,23,24,25,26,27,28,29,30] (fun (m:Nat) (ds:List UInt8) (r:RW) (S2:Sig)=>((∃k,m<128 ^ k/\hiB k m++ds.reverse=digB n/\k+ds.length=11)/\m<=10000000000)/\RWAt S2 1 r (ds.map DZ)/\RWK O .nil S2 r/\((∃b,ds=[b]/\r=.full [DZ b]) \/ ∃i c cs,r=.row i c cs)) (fun m ds r _=>[(1,dI m),(4,r.d (ds.map DZ).length)]) (fun _ _ _ S2=>S2) (fun m _ _ _=>m) (n / 128) ([UInt8.ofNat (n % 128)]) (.full [DZ (UInt8.ofNat (n % 128))]) (O) (by exact⟨⟨⟨10,by omega,rfl,rfl⟩,by omega⟩,⟨rfl,by simp⟩,RWK.refl _ _,.inl ⟨_,rfl,rfl⟩⟩) (fun m ds r S2 hI=>?_)
 obtain⟨⟨⟨k,bI,aH,cz⟩,cw⟩,hR,hK,hF⟩:=hI
 by_cases hm:0<m
 ·have hw:IntKind.u8.wrap (IntKind.i64.wrap ((m:Int).tmod 128+128))=((UInt8.ofNat (128+m % 128)).toNat:Int):=by
   have e:(m:Int).tmod 128=((m % 128:Nat):Int):=by rw[Int.tmod_eq_emod_of_nonneg (by omega)];rfl
   rw[e,Og (by omega),IB,As (by omega) (by omega)];omega
  obtain⟨k,rfl⟩:∃k',k=k'+1:=by
   cases k with
   |zero=>simp at bI;omega
   |succ k=>exact⟨k,rfl⟩
  rw[hiB,if_neg (by omega)]at aH
  obtain⟨y,hy⟩:∃y,UInt8.ofNat (128+m % 128)=y:=⟨_,rfl⟩
  rw[hy]at hw aH
  refine gz ?_
  simp only[hw]
  refine xapp (new:=[[.int .u8 (y.toNat:Int)]]) (fun i c cs S3 aJ bk=>?_) hR (h1:=by simp)
  have ay:RWAt S3 1 (.row i c cs) ((ds++[y]).map DZ):=by rw[List.map_append];exact aJ
  refine gz ?_
  exact⟨m / 128,ds++[y],.row i c cs,S3,⟨⟨⟨k,by rw[Nat.pow_succ]at bI;omega,by rw[List.reverse_append];simpa[List.append_assoc] using aH,by simp;omega⟩,by omega⟩,ay,hK.trans bk,.inr ⟨_,_,_,rfl⟩⟩,td1,wkR⟩
 ·obtain rfl:m=0:=by omega
  have bj:ds.reverse=digB n:=by rw[<-aH];cases k<;>simp[hiB]
  have cE:(digB n).length<=11:=by rw[<-bj];simp;omega
  rcases hF with⟨b,rfl,rfl⟩|⟨i,c,cs,rfl⟩
  ·have hd:[b]=digB n:=bj
   refine gz ?_
   refine A7 (Q0 (.int .u8 (b.toNat:Int)) S2) (fun d S3 hr=>?_) (fun d S3 hr=>by cases hr.1)
   obtain⟨bu,rfl⟩:=hr
   cases bu
   have aq:S3 ib=some (.cells [r0.d (bs.map DZ).length]):=(hK ib _ bp id).1
   have aJ:RWAt S3 1 r0 (bs.map DZ):=bd.keep fun j o hj _=>(hK j o hj id).1
   refine gf aq ?_
   refine xappN (new:=(digB n).map DZ) (fun j c' cs' S4 ay aK=>?_) aJ (GT (d:=.slice [DZ b] .clip) (by rw[<-hd];rfl) (by simp)) (by simp[digB]) (fun x hx=>by obtain⟨b,_,rfl⟩:=List.mem_map.1 hx;rfl) (fun x hx=>by obtain⟨b,_,rfl⟩:=List.mem_map.1 hx;rfl) (h1:=by simp) (hb:=by simp;omega) (hm2:=by simp;omega)
   have ah:=aK ib _ aq bG
   rw[<-List.map_append]at ay
   have ag:S4 ib=some (.cells [r0.d bs.length]):=by rw[ah.1];simp
   refine gf ag ?_
   refine EV (U':=S4.set ib (.cells [.sref j 0 (bs++digB n).length c'])) ⟨rfl,?_,h0,.row j c' cs',?_,?_,?_,?_,.inr ⟨_,_,_,rfl⟩⟩ (hZ:=by simp;exact Sub.refl _)
   ·exact fun x o hx=>by rw[w7 _ _ (fun e=>by rw[e,h0]at hx;cases hx)];exact(aK x o (hK x o (hS x o hx) id).1 (fun aD=>by rw[bc x aD]at hx;cases hx)).1
   ·rw[w6];simp
   ·exact ay.keep fun x o hx hj=>by rw[w7 _ _ (fun e=>by subst e;exact ah.2 hj)];exact hx
   ·exact ah.2
   ·exact fun x hx=>by cases h:S0 x with|none=>rfl|some o=>exact absurd hx (aK x o (hK x o (hS x o h) id).1 (fun aD=>by rw[bc x aD]at h;cases h)).2
  ·obtain⟨q1,q2,q3,q4⟩:=hR
   rw[G7]at q1
   rw[List.length_map]at q3
   have bf:∀j o,O j=some o->j≠i:=fun j o hj e=>(hK j o hj id).2 e
   have hne:=bf ib _ bp
   refine gz ?_
   refine A7 (Tf ds cs i c S2 (by omega) q3 q1) (fun d S3 hr=>?_) (fun d S3 hr=>by cases hr.1)
   obtain⟨bu,aL⟩:=hr
   cases bu
   rw[bj]at aL
   have bn:K4 prog S3 1 (.sref i 0 ds.length c) ((digB n).map DZ):=by
    have e:ds.length=((digB n).map DZ).length:=by rw[<-bj];simp
    rw[e]
    refine Lh (pre:=[]) (rest:=cs) (by rw[aL,w6,G7];rfl) rfl (fun x hx=>by obtain⟨b,_,rfl⟩:=List.mem_map.1 hx;rfl) (by rw[<-e];exact q3)
   have aq:S3 ib=some (.cells [r0.d (bs.map DZ).length]):=by rw[aL,w7 _ _ hne];exact(hK ib _ bp id).1
   have aJ:RWAt S3 1 r0 (bs.map DZ):=bd.keep fun j o hj _=>by rw[aL,w7 _ _ (bf j _ hj)];exact(hK j o hj id).1
   refine gf aq ?_
   refine xappN (new:=(digB n).map DZ) (fun j c' cs' S4 ay aK=>?_) aJ (bn) (by simp[digB]) (fun x hx=>by obtain⟨b,_,rfl⟩:=List.mem_map.1 hx;rfl) (fun x hx=>by obtain⟨b,_,rfl⟩:=List.mem_map.1 hx;rfl) (h1:=by simp) (hb:=by simp;omega) (hm2:=by simp;omega)
   have ah:=aK ib _ aq bG
   rw[<-List.map_append]at ay
   have ag:S4 ib=some (.cells [r0.d bs.length]):=by rw[ah.1];simp
   refine gf ag ?_
   refine EV (U':=S4.set ib (.cells [.sref j 0 (bs++digB n).length c'])) ⟨rfl,?_,h0,.row j c' cs',?_,?_,?_,?_,.inr ⟨_,_,_,rfl⟩⟩ (hZ:=by simp;exact Sub.refl _)
   ·exact fun x o hx=>by rw[w7 _ _ (fun e=>by rw[e,h0]at hx;cases hx)];exact(aK x o (by rw[aL,w7 _ _ (bf x _ (hS x o hx))];exact(hK x o (hS x o hx) id).1) (fun aD=>by rw[bc x aD]at hx;cases hx)).1
   ·rw[w6];simp
   ·exact ay.keep fun x o hx hj=>by rw[w7 _ _ (fun e=>by subst e;exact ah.2 hj)];exact hx
   ·exact ah.2
   ·exact fun x hx=>by cases h:S0 x with|none=>rfl|some o=>exact absurd hx (aK x o (by rw[aL,w7 _ _ (bf x _ (hS x o h))];exact(hK x o (hS x o h) id).1) (fun aD=>by rw[bc x aD]at h;cases h)).2
theorem PkS.put{ib:Nat}{S0 O S4:Sig}{bs new:List UInt8}{r:RW}{j c:Nat}{cs:List D}(hS:Sub S0 O)(h0:S0 ib=none)(h1:O ib=some (.cells [r.d (bs.map DZ).length]))(h3:¬r.is ib)(h4:∀j,r.is j->S0 j=none)(hR:RWAt S4 1 (.row j c cs) ((bs++new).map DZ))(hK:RWK O r S4 (.row j c cs)):PkS ib S0 (bs++new) (S4.set ib (.cells [.sref j 0 (bs++new).length c])):=by
 have au:=hK ib _ h1 h3
 have aH:∀x o,S0 x=some o->S4 x=some o /\ ¬(RW.row j c cs).is x:=fun x o hx=>hK x o (hS x o hx) fun h=>by rw[h4 x h]at hx;cases hx
 refine⟨fun x o hx=>?_,h0,.row j c cs,?_,?_,au.2,fun x hx=>?_,.inr ⟨_,_,_,rfl⟩⟩
 ·rw[w7 _ _ (fun e=>by rw[e,h0]at hx;cases hx)];exact(aH x o hx).1
 ·rw[w6];simp
 ·exact hR.keep fun x o hx hj=>by rw[w7 _ _ (fun e=>by subst e;exact au.2 hj)];exact hx
 ·cases h:S0 x with
  |none=>rfl
  |some o=>exact absurd hx (aH x o h).2
section
variable {ro:Ro}{n:Nat}{ops:Array Oper}{N:Nat}{S0:Sig}{Q:DX->St->Prop}{df:List DDf}{rest:List Oper}{γ Sr:List (Nat×D)}{O:Sig}{t:Nat}{ty:TypeId}{pos:String}{after:Array Edge}{d:D}
theorem moXappF{T T' e e' sz:Nat}{s x:Operand}{es new:List (List D)}{r:RW}{l:List (Bool×Oper)}(h:∀U',Sub S0 U'->MO prog ro n ops N S0 Q df l ((t,.slice (es++new) .no)::γ) U')(hC:∀j o,S0 j=some o->O j=some o /\ ¬r.is j)(hm:RWAt O sz r es:=by assumption)
  (hl:A3 γ (A9 [s,x])=some Sr:=by exact tdR) (hk:(tab T).k=.slice e:=by(simp<;>rfl)) (aU:(tab T').k=.slice e':=by(simp<;>rfl)) (he:A0 (tab e).k=false:=by simp) (hsz:(tab e).size=sz:=by simp)
  (h1:ev Sr s=r.d es.length:=by first|with_unfolding_all rfl|(simp[ev,getD,List.lookup];done)) (h2:esOf (ev Sr x)=some new:=by(simp<;>with_unfolding_all rfl))
  (hlen':∀c∈new,c.length=sz:=by first|exact BY _|exact Dn _|exact BG _|simp) (bt:∀c∈new,BN c=true:=by simp[cI,cS,cII,BN,D.flat])
  (hb:(es.length+new.length)*(tab e).bytes<=140737488355328:=by first|(simp;done)|(simp;omega)) (hm2:es.length+new.length<=9223372036854775807:=by first|(simp;done)|(simp;omega)) (aj:decide (t<n)=true:=by exact tdR) :
  MO prog ro n ops N S0 Q df ((true,⟨some t,(cA s x T T'),ty,pos,after,none⟩)::l) γ O:=
 mo1 (fun U2 hx=>by
  obtain⟨e1,e2⟩:=I6 hl hx
  refine Ey Af (by simpa using aj) hk aU he hsz (by rw[e1];exact h1) hm (by rw[e2];exact GT h2 hlen') hlen' bt hb hm2 (fun r' U' h' hK _=>?_)
  obtain⟨S'',hw,b7⟩:=ID (P:=prog) (n:=n) (γ:=(t,r'.d (es.length+new.length))::U2) (df:=df) (t:=t) h' (by simp[getD,List.lookup])
  have hS:Sub S0 S'':=fun j o hj=>by
   obtain⟨q1,q2⟩:=hC j o hj
   obtain⟨q3,q4⟩:=hK j o q1 q2
   exact b7 j o q3 q4
  refine C2 hw (Ax ⟨rfl,?_⟩)
  simp only[A6,if_true]
  exact⟨hS,h S'' hS⟩) aj
theorem moQStr{T T' e:Nat}{x:Operand}{s:List UInt8}{ef:Bool}{l:List (Bool×Oper)}(h:MO prog ro n ops N S0 Q df l ((t,.str s)::γ) O)(hl:A3 γ (A9 [x])=some Sr:=by exact tdR)(hk:(tab T).k=.slice e:=by(simp<;>rfl))(aU:(tab T').k=.str:=by(simp<;>rfl))(b8:(tab e).k=.int .u8:=by(simp<;>rfl))
  (h1:esOf (ev Sr x)=some (s.map fun b=>[D.int .u8 (b.toNat:Int)])) (aj:decide (t<n)=true:=by exact tdR) :
  MO prog ro n ops N S0 Q df ((ef,⟨some t,.convert T T' x,ty,pos,after,none⟩)::l) γ O:=by
 have be:∀y∈(Op.convert T T' x).operands,ev (only (Oper.looksAt ops ⟨some t,.convert T T' x,ty,pos,after,none⟩) γ) y=ev γ y:=fun y hy=>BO (o:=⟨some t,.convert T T' x,ty,pos,after,none⟩) hy
 have hx:∀y∈[x],ev Sr y=ev γ y:=fun y hy=>Br fun t ht=>Av hl t (AF (by rw[<-ht];exact hy))
 refine Oz (.str s) aj rfl (by rw[Ap];rfl) (fun U' cK ro' df'=>?_) h
 refine VH Af (Ax ⟨rfl,?_⟩) (by rw[Ap];rfl) (by simpa using aj) hk aU b8 (by rw[be x (by simp[Op.operands]),<-hx x (by simp)];exact h1)
 simp only[A6,if_true]
 exact⟨trivial,Sub.refl _⟩
end
theorem Vv(c:CProg)(O:Sig)(h1:c.ins.length<=1073741824)(h2:c.starts.length<=1073741824):DCall prog 36 [.agg (cCPg c)] O (rS (if Er c then .tup [.str (JM c),dI 0] else .tup [.str [],dI 2]) O):=by
 refine en func36 ntmps36 ?_
 repeat' first|refine gz ?_ o36 [4]|apply gy<;>intro hh
 ·refine fin2 (U':=O) ⟨by rw[hh];rfl,rfl⟩
 ·have hp:=hh
  unfold Er at hp
  simp only[Bool.and_eq_true,decide_eq_true_eq]at hp
  obtain⟨c1,c2,c3,c4,c5⟩:=hp
  have hT:=Uc hh
  have hm:0<=c.main/\c.main<=1000000000:=by unfold farN at c3;simpa using c3
  refine newV (fun ib au=>?_)
  refine gz ?_ o36 [4]
  have aO:PkS ib O [199] (O.set ib (.cells [.slice [[.int .u8 199]] .clip])):=⟨(Sub.refl _).set au,au,.full [DZ 199],w6 .., ⟨rfl,by simp⟩,id,fun _ h=>h.elim,.inl (by simp)⟩
  try simp only[w8]
  generalize O.set ib (.cells [.slice [[.int .u8 199]] .clip])=S1 at aO⊢
  have aR:JM c=rawB c++[sumB (rawB c) 0]:=rfl
  have bW:=congrArg List.length aR
  rw[List.length_append,List.length_singleton]at bW
  have hr:rawB c=[199]++(digB c.starts.length++(listB (fun n:Int=>digB n.toNat) c.starts++(digB c.main.toNat++(digB c.ins.length++listB insB c.ins)))):=rfl
  have bd:=congrArg List.length hr
  simp only[List.length_append,List.length_singleton]at bd
  refine A7 (G2 ib O [199] c.starts.length S1 aO (by omega) (by simp)) (fun d S2 hr=>?_) (fun d S2 hr=>by cases hr.1)
  obtain⟨hd,hB⟩:=hr
  cases hd
  refine gz ?_ o36 [4]
  refine Ge [1,2,3,4,8,18,19,27,28,29,30,31,32,33,34,35,36,37,38,39,40,41,42,43,44,45,46,47,48,49,50,51,52,53,54,55,56,57,58,59,60,61,62,63,64,65,66,67,68,69,70] (fun (k:Nat) (bs:List UInt8) (S2:Sig)=>k<=c.starts.length/\PkS ib O bs S2/\bs++(listB (fun n:Int=>digB n.toNat) (c.starts.drop k)++(digB c.main.toNat++(digB c.ins.length++listB insB c.ins)))=rawB c) (fun k _ _=>[(20,dI k)]) (fun _ _ S2=>S2) (fun k _ _=>c.starts.length-k) (0) ([199]++digB c.starts.length) (S2) (by exact⟨by omega,hB,by rw[hr];simp⟩) (fun k bs S2 hI=>?_)
  clear hB aO
  obtain⟨hk,hB,hE⟩:=hI
  have aI:=congrArg List.length hE
  rw[List.length_append]at aI
  by_cases ac:k<c.starts.length
  ·rw[A4 ac,listB]at hE
   have hn:=List.all_eq_true.1 c4 _ (List.getElem_mem ac)
   unfold farN at hn
   simp only[decide_eq_true_eq]at hn
   obtain⟨w,hw⟩:∃w:Nat,c.starts[k]=(w:Int):=⟨c.starts[k].toNat,by omega⟩
   rw[hw]at hn hE
   refine gf hw ?_ o36 [4]
   refine A7 (G2 ib O bs w S2 hB (by omega) (by omega)) (fun d S3 hr=>?_) (fun d S3 hr=>by cases hr.1)
   obtain⟨hd,ak⟩:=hr
   cases hd
   refine gz ?_ o36 [4]
   exact⟨k+1,_,_,⟨by omega,ak,by simpa[List.append_assoc] using hE⟩,td1,wkR⟩
  ·rw [Aa ac,listB,List.nil_append] at hE
   obtain⟨w,hw⟩:∃w:Nat,c.main=(w:Int):=⟨c.main.toNat,by omega⟩
   rw[hw]at hm hE
   refine gf hw ?_ o36 [4]
   refine A7 (G2 ib O bs w S2 hB (by omega) (by omega)) (fun d S3 hr=>?_) (fun d S3 hr=>by cases hr.1)
   obtain⟨hd,ak⟩:=hr
   cases hd
   have bA:=congrArg List.length hE
   simp only[List.length_append,Int.toNat_natCast]at bA
   refine gz ?_ o36 [4]
   refine A7 (G2 ib O (bs++digB w) c.ins.length S3 ak (by omega) (by simp;omega)) (fun d S4 hr=>?_) (fun d S4 hr=>by cases hr.1)
   obtain⟨hd,aC⟩:=hr
   cases hd
   refine gz ?_ o36 [4]
   refine Ge [2,3,4,35,36,65,66,67,68,69,70] (fun (k:Nat) (bs:List UInt8) (S2:Sig)=>k<=c.ins.length/\PkS ib O bs S2/\bs++listB insB (c.ins.drop k)=rawB c) (fun k _ _=>[(37,dI k)]) (fun _ _ S2=>S2) (fun k _ _=>c.ins.length-k) (0) (bs++digB w++digB c.ins.length) (S4) (by exact⟨by omega,aC,by simpa[List.append_assoc] using hE⟩) (fun k bs S2 hI=>?_)
   clear hB ak aC hE
   obtain⟨hk,hB,hE⟩:=hI
   have aI:=congrArg List.length hE
   rw[List.length_append]at aI
   by_cases ac:k<c.ins.length
   ·rw [A4 ac,listB] at hE
    have hI:=List.all_eq_true.1 c5 _ (List.getElem_mem ac)
    unfold F5 at hI
    simp only[Bool.and_eq_true,decide_eq_true_eq]at hI
    obtain⟨⟨cb,aA⟩,ae⟩:=hI
    obtain⟨w,hw⟩:∃w:Nat,c.ins[k].op=(w:Int):=⟨c.ins[k].op.toNat,by omega⟩
    obtain⟨hS,h0,r,q1,q2,q3,q4,q5⟩:=hB
    obtain⟨y,hy⟩:∃y,UInt8.ofNat c.ins[k].op.toNat=y:=⟨_,rfl⟩
    have bT:IntKind.u8.wrap c.ins[k].op=(y.toNat:Int):=by rw[<-hy,hw,IB,Og (by omega)];omega
    have bz : -1000000000<=c.ins[k].a/\c.ins[k].a<=1000000000/\(c.ins[k].a<0->hasA c.ins[k].op=true):=by
     split at ae
     ·rename_i hA
      refine⟨?_,?_,fun _=>hA⟩<;>split at ae
      ·unfold inB at ae;simp at ae;omega
      ·unfold farN at ae;simp at ae;omega
      ·unfold inB at ae;simp at ae;omega
      ·unfold farN at ae;simp at ae;omega
     ·simp at ae;omega
    obtain⟨a1,a2,a3⟩:=bz
    refine gf q1 ?_ o36 [4]
    simp only[bT]
    refine xapp (new:=[[.int .u8 (y.toNat:Int)]]) (fun j c' cs' S3 aJ bk=>?_) q2 (h1:=by simp)
    have au:=bk ib _ q1 q3
    have ay:RWAt S3 1 (.row j c' cs') ((bs++[y]).map DZ):=by rw[List.map_append];exact aJ
    have hP:=PkS.put hS h0 q1 q3 q4 ay bk
    have ag:S3 ib=some (.cells [r.d bs.length]):=by rw[au.1];simp
    simp only[List.length_append,List.length_singleton]at hP
    by_cases aF:c.ins[k].a<0
    ·obtain⟨v,hv⟩:∃v:Nat, -2*c.ins[k].a-1=(v:Int):=⟨(-2*c.ins[k].a-1).toNat,by omega⟩
     have aV:insB c.ins[k]=y::digB v:=by
      unfold insB RH;rw[hy,if_pos (a3 aF),if_pos aF,hv];rfl
     rw[aV]at hE
     refine gf ag ?_ o36 [4]
     simp only[hv]
     refine A7 (G2 ib O (bs++[y]) v _ hP (by omega) (by simp;omega)) (fun d S4 hr=>?_) (fun d S4 hr=>by cases hr.1)
     obtain⟨hd,aC⟩:=hr
     cases hd
     refine gz ?_ o36 [4]
     exact⟨k+1,_,_,⟨by omega,aC,by simpa[List.append_assoc] using hE⟩,td1,wkR⟩
    ·obtain⟨v,hv⟩:∃v:Nat,2*c.ins[k].a=(v:Int):=⟨(2*c.ins[k].a).toNat,by omega⟩
     by_cases hA:hasA c.ins[k].op=true
     ·have aV:insB c.ins[k]=y::digB v:=by
       unfold insB RH;rw[hy,if_pos hA,if_neg aF,hv];rfl
      rw[aV]at hE
      refine gf (gi ag hA) ?_ o36 [4]
      simp only[hv]
      refine A7 (G2 ib O (bs++[y]) v _ hP (by omega) (by simp;omega)) (fun d S4 hr=>?_) (fun d S4 hr=>by cases hr.1)
      obtain⟨hd,aC⟩:=hr
      cases hd
      refine gz ?_ o36 [4]
      exact⟨k+1,_,_,⟨by omega,aC,by simpa[List.append_assoc] using hE⟩,td1,wkR⟩
     ·have aV:insB c.ins[k]=[y]:=by
       unfold insB;rw[hy,if_neg hA]
      rw[aV]at hE
      refine gf (gi ag hA) ?_ o36 [4]
      exact⟨k+1,_,_,⟨by omega,hP,by simpa[List.append_assoc] using hE⟩,td1,wkR⟩
   ·refine gz ?_ [] [4]
    rw[Aa ac,listB,List.append_nil]at hE
    subst hE
    obtain⟨hS,h0,r,q1,q2,q3,q4,q5⟩:=hB
    refine Gc (id:=21) [0,1,2,3,4,5,6,7] [2,4] (S2.out r.is) (CX _ _) ?_
    have q1':=E8 (touch:=r.is) q1 q3
    have q6:∃i c cs,r=.row i c cs:=by
     rcases q5 with q5|q5
     ·rw[hr]at q5
      simp[digB]at q5
     ·exact q5
    obtain⟨i,cc,cs,rfl⟩:=q6
    refine gf q1' ?_ o36 [4]
    have q7:=q2.1
    have q8:=q2.2.2.1
    rw[G7]at q7
    rw[List.length_map]at q8
    refine Be (Vj (rawB c) i cc cs S2 (by omega) q8 q7) (fun d S3 hr=>?_) (fun d S3 hr=>by cases hr.1)
    obtain⟨hd,rfl⟩:=hr
    cases hd
    refine⟨CX _ _,?_⟩
    refine gz ?_ o36 [4]
    refine moXappF (new:=[[.int .u8 ((sumB (rawB c) 0).toNat:Int)]]) (fun S4 ci=>?_) (fun j o h=>Ed h) q2 (h1:=by simp)
    refine moQStr (s:=JM c) ?_ (h1:=by rw[aR,List.map_append];rfl)
    have cJ:Sub O S4:=fun x o hx=>ci x o (E8 (hS x o hx) fun h=>by rw[q4 x h]at hx;cases hx)
    refine gz ?_ o36 [4]
    refine fin2 (U':=O) ⟨by rw[hh];rfl,rfl⟩
section
variable {P:Program}{ro:Ro}{n:Nat}{ops:Array Oper}{N:Nat}{S0:Sig}{Q:DX->St->Prop}{df:List DDf}{γ Sr:List (Nat×D)}{O:Sig}{t:Nat}{ty:TypeId}{pos:String}{after:Array Edge}{l:List (Bool×Oper)}{e:Bool}
theorem mo_eqlG{tab:Nat->Ty}(ht:Ba P tab){T u:Nat}{x y:Operand}{xs ys:List D}{gd:Option (Nat×Bool)}(fs:List (Nat×Nat))(r:Bool)(hE:EqTy P T)(hk:(tab T).k=.struct fs)(hd:eqFs tab xs ys fs=some r)
  (h:MO P ro n ops N S0 Q df l ((t,.bool r)::γ) O) (hw:AB ops γ ⟨some t,.binOp .eql T x y u,ty,pos,after,gd⟩=some true) (aj:decide (t<n)=true) (hl:A3 γ (A9 [x,y])=some Sr) (hx:ev Sr x=.agg xs) (hy:ev Sr y=.agg ys):MO P ro n ops N S0 Q df ((e,⟨some t,.binOp .eql T x y u,ty,pos,after,gd⟩)::l) γ O:=by
 have hc:∀z∈[x,y],ev Sr z=ev γ z:=fun z hz=>Br fun t ht=>Av hl t (AF (by rw[<-ht];exact hz))
 have be:∀z∈[x,y],ev (only (Oper.looksAt ops ⟨some t,.binOp .eql T x y u,ty,pos,after,gd⟩) γ) z=ev γ z:=fun z hz=>BO (o:=⟨some t,.binOp .eql T x y u,ty,pos,after,gd⟩) (by simp at hz;rcases hz with rfl|rfl<;>simp[Op.operands])
 refine .inl ⟨.bool r,⟨aj,.inl ⟨by rw[Ap];exact hw,(fun c e=>by cases e),Ad (fun c e=>by cases e),fun U' hZ g w a hs hT=>?_⟩⟩,h⟩
 have:=Ix (dst:=some t) (ty:=ty) (pos:=pos) (after:=after) (guard:=gd) (u:=u) ht hs hT hE hk (by rw[be x (by simp),<-hc x (by simp)];exact hx) (by rw[be y (by simp),<-hc y (by simp)];exact hy) hd false
 simpa using this
end
theorem Vp(O:Sig):DCall prog 56 [] O (rS (.agg (Ae exB)) O):=by
 refine en func56 ntmps56 ?_
 refine gz ?_ [] [0]
 refine newV (fun i hi=>?_)
 refine gz ?_ [] [0]
 have e:Ae exB=[sl [[sl [],sl [[dI 0]],sl [[dI 0,dI 7]]],[sl [[dI 3]],sl [[dI 1]],sl []],[sl [[dI 4],[dI 3]],sl [],sl [[dI 0,dI 1]]]],dI 2,sl [[dI 1]],sl [[dI 1,dI 0,dI 2,dI 0,sl [],dI 3,dI 0,sl [],dI 0],[dI 2,dI 0,dI 3,dI 0,sl [[dI 0]],dI 0,dI 5,sl [],dI 3]],sl [[dI 17,dI 0,sl [[dI 1]]],[dI 4,dI 0,sl [[dI 2]]],[dI 3,dI 0,sl []],[dI 9,dI 0,sl [[dI 4],[dI 5]]],[dI 3,dI 0,sl []],[dI 3,dI 1,sl []],[dI 5,dI 0,sl [[dI 7]]],[dI 6,dI 5,sl []]],dI 6]:=by
  simp[exB,cI,F3,Fact.op,Fact.arg,Fact.path,Fact.cls,Fact.n,Fact.kids]
 refine finC (U':=O) ⟨rfl,rfl⟩ (hw:=?_)
 rw[e]
 refine Nw ?_
 repeat' (first|exact Ab _|exact Ak _ (.inl rfl)|exact trivial|refine K8 _ ?_|refine⟨?_,?_⟩)
@[reducible,instance] def a56:=fun O=>ah0 (@Vp O)
theorem LG(O:Sig):EC prog 16 [] O (rS (.bool true) O):=by
 have w3:exB.wt<=1073741824:=by decide +kernel
 have bD:(C1 exB exC).isSome=true:=by
  have h:=TH
  cases e:C1 exB exC with
  |none=>rw[e]at h;cases h
  |some W=>rfl
 have bS:=fun O:Sig=>OY exB O w3
 have bR:=fun O:Sig=>OW exB exC O w3 (by decide) (by decide)
 have bQ:=fun O:Sig=>Vv exC O (by decide) (by decide)
 have ba:=fun O:Sig=>Vu exC O (by decide) (by decide)
 rw[ex_code,VA]at bS
 rw[TH,bD]at bR
 rw[Vz]at bQ ba
 have i18:∀O,Ans 18 [.agg (Ae exB)] O True (.tup [.agg (cCPg exC),dI 0]):=fun O=>ah0 (bS O)
 have i25:∀O,Ans 25 [.agg (Ae exB),.agg (cCPg exC)] O True (.tup [sl (exL.map cLev),dI 0]):=fun O=>ah0 (bR O)
 have i36:∀O,Ans 36 [.agg (cCPg exC)] O True (.tup [.str (JM exC),dI 0]):=fun O=>ah0 (bQ O)
 refine enW func16 ntmps16 ?_
 refine gz ?_ o16
 refine DW (ba O) (fun d S1 hr=>?_) (fun d S1 hr=>by cases hr.1)
 obtain⟨hd,rfl⟩:=hr
 cases hd
 refine gf (gi TG (gi P1 Wb)) ?_ o16
 refine neqS _ (decide ((⟨0,2⟩:CLev)=⟨0,2⟩)) TL Rz (eqLev ⟨0,2⟩ ⟨0,2⟩) ?_
 refine gf (gi TG (gi P1 Wb)) ?_ o16
 have g1:=fun O:Sig=>Hm exB exC [] 9 [] [] .no O w3 (by decide) (by decide) (by decide) (by simp) (by decide) (by decide)
 have g2:=fun (o:Own) (O:Sig)=>Hm exB exC [⟨5,[vInt 1,EG]⟩] 0 [] [vObj 0] o O w3 (by decide) (by decide) (by decide) (by simp) (by decide) (by decide)
 have g3:=fun O:Sig=>Hm exB exC [] 0 [] [vInt 3] .no O w3 (by decide) (by decide) (by decide) (by simp) (by decide) (by decide)
 rw[ex_go1]at g1
 rw[ex_go2]at g2
 rw[ex_go3]at g3
 have e1:EA exH1=[dI 2,dI 0,dI 0,dI 0,sl [[dI 3,dI 0]],dI 0,dI 11,sl [],sl [],sl [[dI 5,sl [[dI 1,dI 1],[dI 2,dI 0]]]],sl []]:=rfl
 have e2:EA exH2=[dI 1,dI 1,dI 1,dI 0,sl [],dI 0,dI 0,sl [],sl [],sl [[dI 5,sl [[dI 1,dI 1],[dI 2,dI 0]]]],sl [[dI 2,dI 0,.slice [[dI 1,dI 1]] .clip]]]:=rfl
 have e3:EA exH3=[dI 4,dI 0,dI 0,dI 0,sl [],dI 5,dI 0,sl [],sl [],sl [],sl []]:=rfl
 simp only[Option.getD_some,Option.isSome_some,if_true,e1]at g1
 simp only[Option.getD_some,Option.isSome_some,if_true,e2]at g2
 simp only[Option.getD_some,Option.isSome_some,if_true,e3]at g3
 have cn:=fun (O:Sig)=>Vq [vObj 0] [vObj 0] .no .clip O (by decide) (by decide)
 have aZ:∀O,DCall prog 53 [sl [[dI 3,dI 0]],.slice [[dI 3,dI 0]] .clip] O (rS (.bool true) O):=fun O=>(cn O).mono fun x U' ⟨h1,h2⟩=>⟨by rw[h1];simp,h2⟩
 refine rtl 73 (.agg (cFr 9 [] [])) ?_ (hw:=FU ⟨Ab _,Ak _ (.inl rfl),Ak _ (.inl rfl),trivial⟩)
 refine U6 (g1 S1) (fun d S2 hr=>?_) (fun d S2 hr=>by cases hr.1)
 obtain⟨hd,rfl⟩:=hr
 cases hd
 repeat' first|refine gz ?_|refine BX (aZ _) ?_|refine callPG (aZ _) ?_|refine gz ?_ o16|apply gy<;>intro hh
 refine rtl 111 (.agg (cFr 0 [] [vObj 0])) ?_ (hw:=FU ⟨Ab _,Ak _ (.inl rfl),Ab _,trivial⟩)
 refine U6 (g2 .no S2) (fun d S3 hr=>?_) (fun d S3 hr=>by cases hr.1)
 obtain⟨hd,rfl⟩:=hr
 cases hd
 have g3':∀O,DCall prog 13 [.agg (Ae exB),.agg (cCPg exC),.nils,.agg [dI 0,.nils,.slice [[dI 1,dI 3]] .clip]] O (rS (.tup [.agg [dI 4,dI 0,dI 0,dI 0,sl [],dI 5,dI 0,sl [],sl [],sl [],sl []],dI 0]) O):=fun O=>(g3 O).wk ⟨Ab _,Ab _,Ak _ (.inl rfl),FU ⟨Ab _,Ak _ (.inl rfl),C0 _ _,trivial⟩,trivial⟩
 refine gz ?_ (delO 12 o16)
 refine mix (id:=12) [0,1,2,3,4,5,6,7,8,9,10,11] [9,10] ?_
 refine gz ?_ o16
 refine moQWR (fun U' _=>(OX 3 U').mono fun x S'' hx=>⟨hx.1,hx.2 ▸ Sub.refl _⟩) ?_
 refine gz ?_ o16
 refine moQWR (fun U' _=>(g3' U').mono fun x S'' hx=>⟨hx.1,hx.2 ▸ Sub.refl _⟩) ?_
 refine gz ?_ o16
 refine J7 (fun i12 br=>?_)
 have bb:Sub S3 ((S3.set i12 (.cells [.int .i64 0,.int .i64 0,.int .i64 0,.int .i64 0,.nils,.int .i64 0,.int .i64 0,.nils,.nils,.nils,.nils])).set i12 (.cells [dI 4,dI 0,dI 0,dI 0,sl [],dI 5,dI 0,sl [],sl [],sl [],sl []])):=fun j o hj=>by
  have:=B8 hj br
  rw[w7 _ _ this,w7 _ _ this];exact hj
 refine GB Af tdR (by simp;rfl) bb ?_
 simp only[w8]
 refine gz ?_ o16
 refine mo_eqlG Af _ (decide (vInt 1=vInt 1)) P2 OG (VC (vInt 1) (vInt 1)) ?_ tdR tdR tdR tdR tdR
 refine gz ?_ o16
 exact fin1 (U':=S3) ⟨rfl,rfl⟩
theorem U1(p:BProg):(Gg p).ins.length<=300/\(Gg p).starts.length<=300:=by
 unfold Gg
 split
 ·rename_i h
  have h1:=LQ h
  obtain⟨_,_,h2,_,h3⟩:=Dz h
  rw[Ke]
  omega
 ·simp
theorem IA{p:BProg}(h:okP p=true):Gg p=D2 p:=by unfold Gg;rw[if_pos h]
theorem Rs{p:BProg}(h:okP p=true):(C1 p (Gg p)).isSome=true:=by
 have:=EP p (Gg p)
 rw[IA h,GE h]at this
 rw[IA h]
 cases e:C1 p (D2 p)with
 |none=>rw[e]at this;cases this
 |some W=>rfl
theorem Tj(w:World)(c:Int)(O:Sig)(hl:w.parents.length<=1073741824:=by exact sd):DCall prog 127 [.agg (CO w),dI c] O (rS (.bool (decide (3<=c)&&decide (c<3+w.parents.length))) O):=by
 refine en func127 ntmps127 ?_
 repeat' first|refine gz ?_|apply gy<;>intro hh
 any_goals (first|exact fe1 hh|fail)
@[reducible,instance] def a127:=fun w c O=>ah1 (@Tj w c O)
@[simp] theorem cEv_tk(x:MEv):List.take 3 (cEv x)=cEv x:=rfl
theorem OV(p:BProg)(l:List MThing)(o:Own)(O:Sig)(hp:p.wt<=1073741824)(hk:okP p=true)(hl:l.length<=1073741824)(hs:∀x∈l,x.slots.length<=1073741824):DCall prog 57 [.agg (CO (AP p)),.slice (l.map cTh) o] O (rS (.bool (AQ (A2 p) l)) O):=by
 have bx:=CY hk
 have hW:=Nt hp bx
 have bY:(ownersF p.classes 0).length<=40:=hW.few
 obtain⟨N,bL,_,hg,_⟩:=Gn bx
 have ax:(AP p).parents.length=p.classes.length:=List.length_map _
 have cr:p.classes.length<=1073741824:=by obtain⟨p1,p2,p3,p4,p5,p6,p7⟩:=p.wt_le;omega
 have bV:∀c:Int,3<=c->c<3+p.classes.length->∀O:Sig,DCall prog 128 [.agg (CO (AP p)),dI c] O (rS (sl (cI (hasP p c))) O):=fun c h1 h2 O=>by
  rw[has_eq bx h1 h2]
  exact Ti (AP p) c O hg (by rw[ax];omega) (fun x hx=>by have:=EM hx;rw[ax];omega) (by have:(AP p).owner=ownersF p.classes 0:=rfl;rw[this];omega)
 obtain⟨tst,aQ⟩:∃tst:MThing->Bool,tst=fun o=>(ownF p o.cls&&okP p)&&(decide (o.slots.length=(hasP p o.cls).length)&&okVs l.length o.slots):=⟨_,rfl⟩
 have aX:AQ (A2 p) l=(decide (l.length<=40)&&l.all tst):=by rw[aQ];rfl
 refine en func57 ntmps57 ?_
 by_cases ba:l.length<=40
 rotate_left
 ·rw[aX,decide_eq_false ba]
  repeat' first|refine gz ?_ o57|apply gy<;>intro hh
  any_goals (first|exact fe1 trivial|fail)
 rw[aX,decide_eq_true ba,Bool.true_and]
 refine gz ?_ o57
 refine BU [1,2,10,11] (fun (k:Nat)=>k<=l.length/\l.all tst=(l.drop k).all tst) (fun k=>[(12,dI k)]) (fun _=>O) (fun k=>l.length-k) (0) (by simp) (fun k hI=>?_)
 obtain⟨bH,hR⟩:=hI
 by_cases ac:k<l.length
 ·rw [A4 ac,List.all_cons,show tst l[k]=((ownF p (l[k]).cls && okP p) && (decide ((l[k]).slots.length=(hasP p (l[k]).cls).length) && okVs l.length (l[k]).slots)) by rw [aQ]] at hR
  have g3:=hs l[k] (List.getElem_mem ac)
  by_cases aw:ownF p (l[k]).cls=true
  ·have ar:3<=(l[k]).cls/\(l[k]).cls<3+p.classes.length:=by
    have:=aw
    unfold ownF at this
    simpa using this
   have am:=bV (l[k]).cls ar.1 ar.2
   have bD:=Hd hk (l[k]).cls
   rw[aw,hk]at hR
   by_cases hlen:(l[k]).slots.length=(hasP p (l[k]).cls).length
   ·rw[decide_eq_true hlen]at hR
    cases hv:okVs l.length (l[k]).slots with
    |false=>
     rw[hv]at hR
     simp only[Bool.and_false,Bool.false_and,Bool.and_true]at hR
     repeat' first|refine gf (gi ax (gi ar (gi hlen hv))) ?_|refine moRG (am _) ?_|refine moPG (am _) ?_|refine gf (gi ax (gi ar (gi hlen hv))) ?_ o57|apply gy<;>intro hh
     exact fe1 hR
    |true=>
     rw[hv]at hR
     simp only[Bool.and_true,Bool.true_and]at hR
     repeat' first|refine gf (gi ax (gi ar (gi hlen hv))) ?_|refine moRG (am _) ?_|refine moPG (am _) ?_|refine gf (gi ax (gi ar (gi hlen hv))) ?_ o57|apply gy<;>intro hh
     exact⟨k+1,⟨by omega,hR⟩,td1,wkR⟩
   ·rw[decide_eq_false hlen]at hR
    simp only[Bool.and_false,Bool.false_and]at hR
    repeat' first|refine gf (gi ax (gi ar hlen)) ?_|refine moRG (am _) ?_|refine moPG (am _) ?_|refine gf (gi ax (gi ar hlen)) ?_ o57|apply gy<;>intro hh
    exact fe1 hR
  ·have ar:¬(3<=(l[k]).cls/\(l[k]).cls<3+p.classes.length):=fun h=>aw (by unfold ownF;simpa using h)
   rw[show ownF p (l[k]).cls=false by simpa using aw]at hR
   simp only[Bool.false_and]at hR
   have bq:(decide (3<=(l[k]).cls)&&decide ((l[k]).cls<3+(p.classes.length:Int)))=false:=by simpa using ar
   refine gf (gi ax bq) ?_ o57
   exact fe1 hR
 ·rw[Aa ac]at hR
  refine gz ?_ o57
  exact fin1 (U':=O) ⟨by rw[hR],rfl⟩
@[reducible,instance] def a57:=fun p l o O=>ah4 (@OV p l o O)
theorem LF(p:BProg)(l:List MThing)(o:Own)(O:Sig)(hp:p.wt<=1073741824)(hl:l.length<=1073741824)(hs:∀x∈l,x.slots.length<=1073741824):DCall prog 17 [.agg (Ae p),.slice (l.map cTh) o] O (rS (.bool (okP p&&AQ (A2 p) l)) O):=by
 obtain⟨p1,p2,p3,p4,p5,p6,p7⟩:=p.wt_le
 have aS:(Fd p).isSome=okP p:=by unfold okP;rw[US p]
 have bC:∀c∈p.classes,c.parents.length<=1073741824/\c.slots.length<=1073741824:=fun c hc=>by
  obtain⟨k,hk,rfl⟩:=List.getElem_of_mem hc
  have:=p5 k hk
  unfold BClass.wt at this;omega
 have cp:∀c∈p.classes,c.parents.length<=1073741824:=fun c hc=>(bC c hc).1
 have co:∀c∈p.classes,c.slots.length<=1073741824:=fun c hc=>(bC c hc).2
 refine en func17 ntmps17 ?_
 cases hk:okP p with
 |false=>
  rw[hk]at aS
  refine gf aS ?_
  exact fe1 trivial
 |true=>
  rw[hk]at aS
  have hW:=Nt hp (CY hk)
  have bY:(ownersF p.classes 0).length<=40:=hW.few
  have bP:=fun O:Sig=>OV p l o O hp hk hl hs
  repeat' first|refine gf aS ?_|refine BX (bP _) ?_|refine callPG (bP _) ?_|refine gf aS ?_|apply gy<;>intro hh
  exact fe1 trivial
@[reducible,instance] def a17:=fun p l o O=>ah3 (@LF p l o O)
end Go.DL
