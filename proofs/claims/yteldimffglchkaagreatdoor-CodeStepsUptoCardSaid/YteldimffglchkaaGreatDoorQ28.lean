/- A part of the proof. -/
import Derived.Shelf.Strings.Builder1
import Derived.Shelf.LaysM
import Derived.Shelf.Strconv.Itoa3
import Derived.Test.YteldimffglchkaaGreatDoorQ27
set_option linter.all false
set_option linter.unusedVariables false
namespace Go.Proofs
open Go.Proofs.Tryz
open Go.RowKit Go.Shelf
theorem sizeB:(prog.info? 159).map (·.size)=some 2:=by kernel_rfl
set_option maxHeartbeats 1000000 in
set_option maxRecDepth 100000 in
def Kq(b:Nat)(w:World)(h0:w.cell? ⟨b,0,none⟩=some (.pointer (some ⟨b,0,none⟩))):
  Calls prog 161 #[.pointer (some ⟨b,0,none⟩)] w fun e w'=>e=.returned (.tuple #[])/\w'=w:=by
 obtain⟨j,hj,_⟩:=ci.1 sizeB;have mixed:prog.follows .mixedOrders=true:=by kernel_rfl
 have t72:=underlying159;have a72:=isAgg159;have z72:=sizeOf159;have v72:=zeroValue159;have u72:=run_underlying underlying159;have t70:=underlying157;have a70:=isAgg157;have z70:=sizeOf157;have v70:=zeroValue157;have u70:=run_underlying underlying157;have t4:=underlying4;have a4:=isAgg4;have z4:=sizeOf4;have v4:=zeroValue4;have u4:=run_underlying underlying4
 go_enter func161,ntmps161
 go_wp2
 rw[Lib.run_neq_ptr_same w _ underlying157 hj]
 go_wp2
 go_end0
 exact⟨rfl,rfl⟩
set_option maxHeartbeats 1000000 in
set_option maxRecDepth 100000 in
def K3(b:Nat)(w:World)(h0:w.cell? ⟨b,0,none⟩=some (.pointer none))(fX:w.shape? b=some (159,2))(gY:w.frozen? ⟨b,0,none⟩=false):
  Calls prog 161 #[.pointer (some ⟨b,0,none⟩)] w fun e w'=>e=.returned (.tuple #[])/\w'=w.setCell ⟨b,0,none⟩ (.pointer (some ⟨b,0,none⟩)):=by
 obtain⟨j,hj,gF⟩:=ci.1 sizeB;have mixed:prog.follows .mixedOrders=true:=by kernel_rfl
 have t72:=underlying159;have a72:=isAgg159;have z72:=sizeOf159;have v72:=zeroValue159;have u72:=run_underlying underlying159;have t70:=underlying157;have a70:=isAgg157;have z70:=sizeOf157;have v70:=zeroValue157;have u70:=run_underlying underlying157;have t4:=underlying4;have a4:=isAgg4;have z4:=sizeOf4;have v4:=zeroValue4;have u4:=run_underlying underlying4;have t301:=underlying301;have a301:=isAgg301;have z301:=sizeOf301;have v301:=zeroValue301;have u301:=run_underlying underlying301;have fq:liesAt prog prog.depth 159 (2 / prog.cellsOf 159) 0 159 1=true:=by kernel_rfl
 go_enter func161,ntmps161
 go_wp2
 rw[Lib.run_to_unsafe w ⟨b,0,none⟩ underlying157 underlying301 hj (by rw[gF];decide) fX (Nat.zero_lt_succ 1)];simp only[Result.andThen];rw[Oper.upon_value]
 go_wp2
 rw[run_callFunc_extern func232 (by kernel_rfl) (by kernel_rfl) (by kernel_rfl) (e:=Extern.AbiNoEscape.same) (by kernel_rfl)];rw[Lib.run_noEscape];simp only[Result.andThen];rw[Oper.upon_value]
 go_wp2
 rw[Lib.run_from_unsafe w ⟨b,0,none⟩ underlying301 underlying157 hj fX fq];simp only[Result.andThen];rw[Oper.upon_value]
 go_wp2
 go_end0
 exact⟨rfl,rfl⟩
set_option maxHeartbeats 1000000 in
set_option maxRecDepth 100000 in
def Ks(b g cap:Nat)(p:Value)(ty:TypeId)(l:List UInt8)(cur:Array Value)(w:World)(h0:l≠[])(gM:w.heap[b]? = some (.cells #[p,.slice (some ⟨g,0,none⟩) l.length cap] ty (0,0)))(hg:w.heap[g]? = some (.cells cur 5 (0,0)))(gT:l.length<=cap)(gL:l.length<=cur.size)(gP:l.length<=9223372036854775807)(fR:∀j x,l[j]? = some x->w.cell? ⟨g,j,none⟩=some (.int .u8 x.toNat)):
  Calls prog 86 #[.pointer (some ⟨b,0,none⟩)] w fun e w'=>e=.returned (.string ⟨l.toArray⟩)/\w'=w.drew.freeze ⟨g,0,none⟩ l.length:=by
 have gB:l.length≠0:=by simpa using h0
 have c1:w.drew.cell? ⟨b,1,none⟩=some (.slice (some ⟨g,0,none⟩) l.length cap):=by
  have:w.drew.heap[b]? = some (.cells #[p,.slice (some ⟨g,0,none⟩) l.length cap] ty (0,0)):=gM;rw[Lib.cell_of_heap this];rfl
 have ik:(Builtin.unsafeSliceData_ #[96] 246 #[.slice (some ⟨g,0,none⟩) l.length cap]).run prog w.drew=.ok (.pointer (some ⟨g,0,none⟩)) w.drew:=
  Lib.run_unsafeSliceData_row _ _ _ _ _ _ Go.DL.j0
 have ij:(Builtin.unsafeString_ #[246,3] 9 #[.pointer (some ⟨g,0,none⟩),.int .i64 l.length]).run prog w.drew=.ok (.string ⟨l.toArray⟩) (w.drew.freeze ⟨g,0,none⟩ l.length):=by
  refine Lib.run_unsafeString_row w.drew 246 3 9 5 underlying246 (by kernel_rfl) g cur.size (by have gI:w.drew.heap[g]? = some (.cells cur 5 (0,0)):=hg;simp[World.shape?, gI]) l h0 gL gP ?_;intro j x hj;have e:((⟨g,0,none⟩:Addr).add j)=⟨g,j,none⟩:=by unfold Addr.add;split<;>simp_all
  rw[e];exact fR j x hj
 have mixed:prog.follows .mixedOrders=true:=by kernel_rfl
 have t72:=underlying159;have a72:=isAgg159;have z72:=sizeOf159;have v72:=zeroValue159;have u72:=run_underlying underlying159;have t70:=underlying157;have a70:=isAgg157;have z70:=sizeOf157;have v70:=zeroValue157;have u70:=run_underlying underlying157;have t37:=underlying96;have a37:=isAgg96;have z37:=sizeOf96;have v37:=zeroValue96;have u37:=run_underlying underlying96;have t127:=underlying246;have a127:=isAgg246;have z127:=sizeOf246;have v127:=zeroValue246;have u127:=run_underlying underlying246;have t3:=underlying3;have a3:=isAgg3;have z3:=sizeOf3;have v3:=zeroValue3;have u3:=run_underlying underlying3;have t9:=underlying9;have a9:=isAgg9;have z9:=sizeOf9;have v9:=zeroValue9;have u9:=run_underlying underlying9;have t5:=underlying5;have a5:=isAgg5;have z5:=sizeOf5;have v5:=zeroValue5;have u5:=run_underlying underlying5
 go_enter func86,ntmps86
 go_wp2
 go_region_o
 all_goals (go_wp2;go_ret;exact⟨rfl,rfl⟩)
end Go.Proofs
namespace Go.Proofs
open Go.Proofs.Tryz
open Go.Shelf
def laysM171_ren:Go.Shelf.Ren:=⟨fun|171=>84|243=>162|246=>233|283=>272|284=>273|285=>274|286=>275|129=>316|317=>315|318=>317|319=>318|320=>319|337=>356|338=>357|n=>n,fun|3=>3|9=>9|2=>2|4=>4|171=>337|0=>0|53=>338|37=>96|5=>5|173=>341|212=>389|51=>373|20=>20|213=>390|46=>320|232=>452|233=>453|n=>n,fun|17=>1|18=>6|19=>7|n=>n⟩
def laysM171:Go.Proofs.LaysM.n171 prog laysM171_ren:={
 mixed:=by kernel_rfl
 f129:=func316.trans (bn some (by kernel_rfl))
 f171:=func84.trans (bn some (by kernel_rfl))
 f243:=func162.trans (bn some (by kernel_rfl))
 f246:=func233.trans (bn some (by kernel_rfl))
 f283:=func272.trans (bn some (by kernel_rfl))
 f284:=func273.trans (bn some (by kernel_rfl))
 f285:=func274.trans (bn some (by kernel_rfl))
 f286:=func275.trans (bn some (by kernel_rfl))
 f317:=func315.trans (bn some (by kernel_rfl))
 f318:=func317.trans (bn some (by kernel_rfl))
 f319:=func318.trans (bn some (by kernel_rfl))
 f320:=func319.trans (bn some (by kernel_rfl))
 f337:=func356.trans (bn some (by kernel_rfl))
 f338:=func357.trans (bn some (by kernel_rfl))
 t0:=underlying0
 a0:=isAgg0
 z0:=sizeOf0
 v0:=zeroValue0
 t2:=underlying2
 a2:=isAgg2
 z2:=sizeOf2
 v2:=zeroValue2
 t3:=underlying3
 a3:=isAgg3
 z3:=sizeOf3
 v3:=zeroValue3
 t4:=underlying4
 a4:=isAgg4
 z4:=sizeOf4
 v4:=zeroValue4
 t5:=underlying5
 a5:=isAgg5
 z5:=sizeOf5
 v5:=zeroValue5
 t9:=underlying9
 a9:=isAgg9
 z9:=sizeOf9
 v9:=zeroValue9
 t20:=underlying20
 a20:=isAgg20
 z20:=sizeOf20
 v20:=zeroValue20
 t37:=underlying96
 a37:=isAgg96
 z37:=sizeOf96
 v37:=zeroValue96
 t46:=underlying320
 a46:=isAgg320
 z46:=sizeOf320
 v46:=zeroValue320
 t51:=underlying373
 a51:=isAgg373
 z51:=sizeOf373
 v51:=zeroValue373
 t53:=underlying338
 a53:=isAgg338
 z53:=sizeOf338
 v53:=zeroValue338
 t171:=underlying337
 a171:=isAgg337
 z171:=sizeOf337
 v171:=zeroValue337
 t173:=underlying341
 a173:=isAgg341
 z173:=sizeOf341
 v173:=zeroValue341
 t212:=underlying389
 a212:=isAgg389
 z212:=sizeOf389
 v212:=zeroValue389
 t213:=underlying390
 a213:=isAgg390
 z213:=sizeOf390
 t232:=underlying452
 a232:=isAgg452
 z232:=sizeOf452
 v232:=zeroValue452
 t233:=underlying453
 a233:=isAgg453
 z233:=sizeOf453
 v233:=zeroValue453
 g17:=by kernel_rfl
 g18:=by kernel_rfl
 g19:=by kernel_rfl
 i0:=by kernel_rfl
 i2:=by kernel_rfl
 i3:=by kernel_rfl
 i4:=by kernel_rfl
 i5:=by kernel_rfl
 i9:=by kernel_rfl
 i20:=by kernel_rfl
 i37:=by kernel_rfl
 i46:=by kernel_rfl
 i51:=by kernel_rfl
 i53:=by kernel_rfl
 i171:=by kernel_rfl
 i173:=by kernel_rfl
 i212:=by kernel_rfl
 i232:=by kernel_rfl
 i233:=by kernel_rfl
 m17:=by kernel_rfl
 m18:=by kernel_rfl
 m19:=by kernel_rfl }
open Go.RowKit Go.Sort Go.Lib in
def strconv_Itoa (n : Int) (h0 : -9223372036854775808 <= n) (h1 : n <= 9223372036854775807) (w : World) (fa : Lib.TabIs prog w "internal/strconv.uint64pow10" .u64 Lib.pow10Tab) :
  Calls prog 84 #[.int .i64 n] w fun e w'=>e=.returned (.string ⟨(Lib.itoa n).toArray⟩) /\ ∃k os,w'=grow (w.drewN k) os:=Any.strconv_Itoa laysM171 n h0 h1 w fa
end Go.Proofs
namespace Go.DL
open Go.Proofs.Tryz
open Go Go.Proofs
set_option maxHeartbeats 8000000
def nn2{O:Sig}{a b:Nat}{o:jP}(h:O a=some o)(k:O b=none):a≠b:=fun e=>by rw[e,k]at h;cases h
def Oq:prog.globals.size≠0:=by
 have h:prog.globals.size=8:=by kernel_rfl
 omega
def M4(n:Int)(O:Sig)(h0 : -9223372036854775808<=n)(h1:n<=9223372036854775807):Fd prog 84 [dI n] O (rS (.str (Lib.itoa n)) O):=by
 refine⟨by rw[Ao];decide,C8 func84 (by rfl) (by rfl),fun g w vs r hr hs ha=>?_⟩;obtain rfl:r=_:=hr;obtain⟨v,r,rfl,hv,rfl⟩:=ha;obtain rfl:v=.int .i64 n:=hv
 have fa : Lib.TabIs prog w "internal/strconv.uint64pow10" .u64 Lib.pow10Tab := by
  rcases hs.tab w hs.keep with h|⟨h,_⟩
  ·exact absurd h Oq
  ·exact h
 refine(Ed (strconv_Itoa n h0 h1 w fa)).mono ?_
 rintro e w' ⟨rfl,k,os,rfl⟩
 refine⟨g,.ret (.str (Lib.itoa n)),O,.refl g,?_,⟨_,rfl,rfl⟩,rfl,rfl⟩;refine hs.later (fun k x hx=>?_) rfl;have hk:k<w.heap.size:=(aI.1 hx).1;show(w.heap++os)[k]? = some x;rw[dy hk];exact hx
def Oc{w:Go.World}{b:Nat}{vs:Array Value}{ty:TypeId}{x:Value}(h:w.heap[b]? = some (.cells vs ty (0,0))):w.setCell ⟨b,0,none⟩ x=setB w b (.cells (vs.setIfInBounds 0 x) ty (0,0)):=by
 have e:w.heap.setIfInBounds b (.cells (vs.setIfInBounds 0 x) ty (0,0))=(w.setCell ⟨b,0,none⟩ x).heap:=by
  unfold World.setCell;apply Array.ext_getElem?;intro k
  by_cases hk:b=k
  ·subst hk;have hb:b<w.heap.size:=(aI.1 h).1;rw[Array.getElem?_setIfInBounds_self_of_lt hb,cQ,aG rfl,h];rfl
  ·simp[cQ,hk]
 unfold setB;rw[e];rfl
def QT(ib:Nat)(v:D)(O:Sig)(h:O ib=some (.tcells 159 [.aq,v])):Fd prog 161 [.ptr ib 0] O fun x U'=>x=.ret (.tup [])/\U'=O.set ib (.cells [.ptr ib 0,v]):=by
 refine⟨by rw[Ao];decide,C8 func161 (by rfl) (by rfl),fun g w vs r hr hs ha=>?_⟩;obtain rfl:r=_:=hr;obtain⟨pv,r,rfl,⟨b,hb,rfl⟩,rfl⟩:=ha;obtain⟨b',vs,eX,b6,d8⟩:=hs.obj ib _ h;obtain rfl:b'=b:=by rw[hb]at eX;cases eX;rfl
 obtain⟨v0,r0,fo,h0,v1,r1,rfl,h1,rfl⟩:=d8;obtain rfl:v0=.pointer none:=h0;obtain rfl:vs=#[.pointer none,v1]:=by apply da;simpa using fo
 refine(Ed (K3 b' w (by simp[World.cell?, b6]) (by simp[World.shape?, b6]) (by simp[World.frozen?, b6]))).mono ?_
 rintro e w' ⟨rfl,rfl⟩
 refine⟨g,.ret (.tup []),_,.refl g,?_,⟨_,rfl,[],rfl,rfl⟩,rfl,rfl⟩;rw[Oc b6];refine hs.setAny h rfl rfl hb b6 ⟨b',_,159,hb,Fl b6,?_⟩;exact⟨_,_,rfl,⟨b',hb,rfl⟩,_,_,rfl,h1,rfl⟩
def QS(ib:Nat)(v:D)(O:Sig)(h:O ib=some (.cells [.ptr ib 0,v])):Fd prog 161 [.ptr ib 0] O (rS (.tup []) O):=by
 refine⟨by rw[Ao];decide,C8 func161 (by rfl) (by rfl),fun g w vs r hr hs ha=>?_⟩;obtain rfl:r=_:=hr;obtain⟨pv,r,rfl,⟨b,hb,rfl⟩,rfl⟩:=ha;obtain⟨b',vs,ty,eX,b6,d8⟩:=hs.obj ib _ h;obtain rfl:b'=b:=by rw[hb]at eX;cases eX;rfl
 obtain⟨v0,r0,fo,⟨b2,gg,rfl⟩,v1,r1,rfl,h1,rfl⟩:=d8;obtain rfl:b2=b':=by rw[hb]at gg;cases gg;rfl
 obtain rfl:vs=#[.pointer (some ⟨b2,0,none⟩),v1]:=by apply da;simpa using fo
 refine(Ed (Kq b2 w (by simp[World.cell?, b6]))).mono ?_
 rintro e w' ⟨rfl,rfl⟩
 exact⟨g,.ret (.tup []),_,.refl g,hs,⟨_,rfl,[],rfl,rfl⟩,rfl,rfl⟩
def BldS(ib:Nat)(S0:Sig)(bs:List UInt8)(O:Sig):Prop:=
 Sub S0 O/\S0 ib=none/\((bs=[]/\O ib=some (.tcells 159 [.aq,.aj])) \/ ∃r:BR,O ib=some (.cells [.ptr ib 0,r.d bs.length])/\BRAt 5 O r bs /\ ¬r.is ib /\ ∀j,r.is j->S0 j=none)
def BRAt.set{e:Nat}{O:Sig}{r:BR}{bs:List UInt8}(h:BRAt e O r bs){i:Nat}{o:jP}(hi:¬r.is i):BRAt e (O.set i o) r bs:=by
 rcases r with _|⟨k,c,cs⟩
 ·exact h
 ·exact⟨by rw[w7 _ _ fun e=>hi e.symm];exact h.1,h.2⟩
def bapp{ro:Ro}{n:Nat}{ops:Array Oper}{Q:DX->St->Prop}{df:List DDf}{rest:List Oper}{γ Sr:Fr}{O:Sig}{t:Nat}{ty:TypeId}{pos:String}{after:Array Edge}{s x:Operand}{bs str:List UInt8}{r:BR}
  (h:∀r' U',BRAt 5 U' r' (bs++str)->(∀j o,O j=some o->¬r.is j->U' j=some o /\ ¬r'.is j)->au prog ro n ops Q rest ⟨(t,r'.d (bs++str).length)::γ,U',df⟩) (hm:BRAt 5 O r bs) (hb:bs.length+str.length<=140737488355328)
  (hl:A5 γ (Aa [s,x])=some Sr:=by exact tdR) (h1:ev Sr s=r.d bs.length:=by exact tdR) (h2:ev Sr x=.str str:=by exact tdR) (d6:decide (t<n)=true:=by exact tdR) :
  au prog ro n ops Q (⟨some t,.call { callee:=.builtin .append,args:= #[s,x],argTypes:= #[96,9] },ty,pos,after,none⟩::rest) ⟨γ,O,df⟩:=by
 obtain⟨e1,e2⟩:=jW hl;exact Vf jB (by simpa using d6) (by simp<;>rfl) (by simp<;>rfl) j1 j1 j1 (by rw[<-e1];exact h1) hm (by rw[<-e2];exact h2) hb h
def Fw(ib:Nat)(S0:Sig)(bs s:List UInt8)(O:Sig)(hB:BldS ib S0 bs O)(hb:bs.length+s.length<=1000000000):Fd prog 83 [.ptr ib 0,.str s] O fun x U'=>x=.ret (.tup [dI s.length,.niliface])/\BldS ib S0 (bs++s) U':=by
 obtain⟨hS,h0,hB⟩:=hB;refine enW func83 ntmps83 ?_;rcases hB with⟨rfl,h1⟩|⟨r,h1,h2,h3,h4⟩
 ·refine gz ?_;refine EI (QT ib _ O h1) (fun d S1 hr=>?_);obtain⟨hd,rfl⟩:=hr;cases hd;have u1:(O.set ib (.cells [.ptr ib 0,.aj])) ib=some (.cells [.ptr ib 0,.aj]):=w6 ..;refine gf u1 ?_;refine bapp (bs:=[]) (str:=s) (r:=none) (fun r' S2 k1 k2=>?_) rfl (by simp at hb⊢; omega);obtain⟨u2,u3⟩:=k2 _ _ u1 id
  have d5:BldS ib S0 ([]++s) (S2.set ib (.cells [.ptr ib 0,r'.d ([]++s).length])):=by
   refine⟨fun j o hj=>?_,h0,.inr ⟨r',w6 ..,?_,u3,fun j hj=>?_⟩⟩
   ·have fj:j≠ib:=nn2 hj h0;rw[w7 _ _ fj];exact(k2 j o (j2 fj (hS j o hj)) id).1
   ·exact k1.set u3
   ·cases fk:S0 j with
    |none=>rfl
    |some o=>exact absurd hj (k2 j o (j2 (nn2 fk h0) (hS j o fk)) id).2
  rcases r' with _|⟨i,c,cs⟩<;>simp only[BR.d]at d5⊢
  ·refine gf u2 ?_;exact WF (U':=_) ⟨rfl,d5⟩
  ·refine gf u2 ?_;exact WF (U':=_) ⟨rfl,d5⟩
 ·refine gz ?_;refine EI (QS ib _ O h1) (fun d S1 hr=>?_);obtain⟨hd,rfl⟩:=hr;cases hd;refine gf h1 ?_;refine bapp (bs:=bs) (str:=s) (r:=r) (fun r' S2 k1 k2=>?_) h2 j0;obtain⟨u2,u3⟩:=k2 _ _ h1 h3
  have d5:BldS ib S0 (bs++s) (S2.set ib (.cells [.ptr ib 0,r'.d (bs++s).length])):=by
   refine⟨fun j o hj=>?_,h0,.inr ⟨r',w6 ..,?_,u3,fun j hj=>?_⟩⟩
   ·have fj:j≠ib:=nn2 hj h0;rw[w7 _ _ fj];exact(k2 j o (hS j o hj) fun h=>by rw[h4 j h]at hj;cases hj).1
   ·exact k1.set u3
   ·cases fk:S0 j with
    |none=>rfl
    |some o=>exact absurd hj (k2 j o (hS j o fk) fun h=>by rw[h4 j h]at fk;cases fk).2
  rcases r' with _|⟨i,c,cs⟩<;>simp only[BR.d]at d5⊢
  ·refine gf u2 ?_;exact WF (U':=_) ⟨rfl,d5⟩
  ·refine gf u2 ?_;exact WF (U':=_) ⟨rfl,d5⟩
def QD{w:Go.World}{b n:Nat}{vs:Array Value}{ty:TypeId}(h:w.heap[b]? = some (.cells vs ty (0,0)))(hn:n≠0):w.freeze ⟨b,0,none⟩ n=setB w b (.cells vs ty (0,0+n)):=by
 have e:w.heap.setIfInBounds b (.cells vs ty (0,0+n))=(w.freeze ⟨b,0,none⟩ n).heap:=by
  unfold World.freeze;rw[aE hn];apply Array.ext_getElem?;intro k
  by_cases hk:b=k
  ·subst hk;have hb:b<w.heap.size:=(aI.1 h).1;rw[Array.getElem?_setIfInBounds_self_of_lt hb,cQ,aG rfl,h];rfl
  ·simp[cQ,hk]
 unfold setB;rw[e];unfold World.freeze;rw[aE hn]
def WI(ib:Nat)(S0:Sig)(bs:List UInt8)(O:Sig)(hB:BldS ib S0 bs O)(hne:bs≠[])(hb:bs.length<=1000000000):Fd prog 86 [.ptr ib 0] O (rS (.str bs) S0):=by
 obtain⟨hS,h0,hB⟩:=hB;rcases hB with⟨rfl,_⟩|⟨r,h1,h2,h3,h4⟩
 ·exact absurd rfl hne
 rcases r with _|⟨i,c,cs⟩
 ·exact absurd h2 hne
 obtain⟨h5,h6⟩:=h2;refine⟨by rw[Ao];decide,C8 func86 (by rfl) (by rfl),fun g w vs r hr hs ha=>?_⟩;obtain rfl:r=_:=hr;obtain⟨pv,r,rfl,⟨b,gx,rfl⟩,rfl⟩:=ha;obtain⟨b',vs,ty,eX,b6,d8⟩:=hs.obj ib _ h1;obtain rfl:b'=b:=by rw[gx]at eX;cases eX;rfl
 obtain⟨v0,r0,fo,_,v1,r1,rfl,⟨bg,gc,rfl⟩,rfl⟩:=d8;obtain rfl:vs=#[v0,.slice (some ⟨bg,0,none⟩) bs.length c]:=by apply da;simpa using fo
 obtain⟨bg',vg,fy,fH,f9⟩:=hs.obj i _ h5;obtain rfl:bg'=bg:=by rw[gc]at fy;cases fy;rfl
 have gA:=jE.length f9;simp only[bB,aC,aN]at gA;refine(Ed (Ks b' bg' c v0 ty bs vg w hne b6 fH j0 j0 j0 fun j x hj=>?_)).mono ?_
 ·have hg:=jE.get f9 j;have gG:=(aV.1 hj).1;rw[bj (by simpa using gG),bA,hj]at hg;simp only[bx,bO]at hg;have f8:j<vg.size:=by omega
  rw[bw f8]at hg;simp only[World.cell?, fH];rw[bw f8];exact bn some hg
 ·rintro e w' ⟨rfl,rfl⟩
  have hl:bs.length≠0:=by simpa using hne
  refine⟨g,.ret (.str bs),S0,.refl g,?_,⟨_,rfl,rfl⟩,rfl,rfl⟩;rw[QD (w:=w.drew) fH hl];refine(hs.drew.kill h5 rfl gc (x:=.cells vg 5 (0,0)) fH).sub fun j o hj=>?_;have fj:j≠i:=fun e=>by rw[e,h4 i rfl]at hj;cases hj
  simp only[Sig.del,fj,bc];exact hS j o hj
def newT{ro:Ro}{n:Nat}{ops:Array Oper}{Q:DX->St->Prop}{df:List DDf}{rest:List Oper}{γ:Fr}{O:Sig}{t T:Nat}{ty:TypeId}{pos:String}{after:Array Edge}(h:∀i,O i=none->au prog ro n ops Q rest ⟨(t,.ptr i 0)::γ,O.set i (.tcells T (tab T).zero),df⟩)(hk:A2 (tab T).k=false:=by simp)(d6:decide (t<n)=true:=by exact tdR):
  au prog ro n ops Q (⟨some t,.alloc T,ty,pos,after,none⟩::rest) ⟨γ,O,df⟩:=OC jB hk (by simpa using d6) h
@[simp] theorem cIns_tk(x:jI):List.take 2 (cIns x)=cIns x:=rfl
@[simp] theorem cIns_mem(x:jI)(d:D):(d∈cIns x)=(d=dI x.op\/d=dI x.a):=by simp[cIns]
def X1(c:jD)(O:Sig)(h1:c.j6.length<=1073741824)(h2:c.jG.length<=1073741824):Fd prog 40 [.agg (cCPg c)] O (rS (if EX c then .tup [.str (Mr c),dI 0] else .tup [.str [],dI 2]) O):=by
 have fw:∀l:eP,l.all farN=true->∀n∈l,0<=n/\n<=1000000000:=fun l h n hn=>by have:=aW.1 h n hn;unfold farN at this;simpa using this
 refine enW func40 ntmps40 ?_
 repeat' first|refine gz ?_ o40|apply gy<;>intro hh
 ·refine kM (U':=O) ⟨by rw[hh];rfl,rfl⟩
 ·have hp:=hh;unfold EX at hp;simp only[aF,aH]at hp;obtain⟨c1,c2,c3,c4,c5⟩:=hp;have hT:=VN hh;have hm:0<=c.jf/\c.jf<=1000000000:=by unfold farN at c3;simpa using c3
  have fL:Mr c=Qz c++10::listB (fun l=>l++[10]) (c.j6.map GJ):=by unfold Mr;rw[listB,aO];rfl
  have gB:(Qz c).length=(listB (fun n=>Lib.itoa n++[32]) c.jG).length+2+(Lib.itoa c.jf).length:=by unfold Qz;simp;omega
  have gu:=bn List.length fL;rw[aC,aS]at gu;refine newT (fun ib eU=>?_);have fm:BldS ib O [] (O.set ib (.tcells 159 (tab 159).zero)):=⟨(Sub.refl _).set eU,eU,.inl ⟨rfl,w6 ..⟩⟩;generalize O.set ib (.tcells 159 (tab 159).zero)=S1 at fm;refine gz ?_ o40;refine F1 ([1,2,3,4,8,13,14]++List.range' 24 31) (fun (k:Nat) (bs:List UInt8) (S2:Sig)=>k<=c.jG.length/\BldS ib O bs S2/\bs++listB (fun n=>Lib.itoa n++[32]) (c.jG.drop k)=listB (fun n=>Lib.itoa n++[32]) c.jG) (fun k _ _=>[(15,dI k)]) (fun _ _ S2=>S2) (fun k _ _=>c.jG.length-k) (0) ([]) (S1) (by exact⟨j0,fm,rfl⟩) (fun k bs S2 hI=>?_);obtain⟨hk,hB,hE⟩:=hI;have ff:=bn List.length hE;rw[aC]at ff
  by_cases b8:k<c.jG.length
  ·rw[A6 b8,listB]at hE;obtain⟨n1,n2⟩:=fw _ c4 _ (aK b8);have gX:=SQ (n:=c.jG[k]) ⟨j0,j0⟩;refine gz ?_ o40;refine EI (M4 c.jG[k] S2 j0 j0) (fun d S3 hr=>?_);obtain⟨hd,rfl⟩:=hr;cases hd;refine gz ?_ o40;refine EI (Fw ib O bs (Lib.itoa c.jG[k]++[32]) _ hB (by simp;omega)) (fun d S3 hr=>?_);obtain⟨hd,d7⟩:=hr;cases hd;refine gz ?_ o40;exact⟨k+1,bs++(Lib.itoa c.jG[k]++[32]),S3,⟨j0,d7,by rw[aO];exact hE⟩,td1,wkR⟩
  ·rw [A9 b8,listB,bl] at hE;refine gz ?_ o40;refine EI (M4 c.jf S2 j0 j0) (fun d S3 hr=>?_);obtain⟨hd,rfl⟩:=hr;cases hd;refine gz ?_ o40;refine EI (Fw ib O bs ([58,32]++Lib.itoa c.jf++[10]) _ hB (by simp;omega)) (fun d S3 hr=>?_);obtain⟨hd,d7⟩:=hr;cases hd;have gh:bs++([58,32]++Lib.itoa c.jf++[10])++listB (fun l=>l++[10]) (c.j6.map GJ)=Mr c:=by rw[fL];unfold Qz;simp[hE]
   generalize bs++([58,32]++Lib.itoa c.jf++[10])=bs3 at d7 gh;refine gz ?_ o40;refine F1 [2,3,4,31,32,53,54] (fun (k:Nat) (bs:List UInt8) (S2:Sig)=>k<=c.j6.length/\BldS ib O bs S2/\bs++listB (fun l=>l++[10]) ((c.j6.drop k).map GJ)=Mr c) (fun k _ _=>[(33,dI k)]) (fun _ _ S2=>S2) (fun k _ _=>c.j6.length-k) (0) (bs3) (S3) (by exact⟨j0,d7,gh⟩) (fun k bs S2 hI=>?_);obtain⟨hk,hB,hE⟩:=hI;have ff:=bn List.length hE;rw[aC]at ff
   by_cases b8:k<c.j6.length
   ·rw[A6 b8,bd,listB]at hE;have hI:=aW.1 c5 _ (aK b8);have gV:=Pj hI;unfold FC at hI;simp only[aF,aH]at hI;obtain⟨⟨gH,eW⟩,b7⟩:=hI;have gR:ko.length=21:=rfl;have fK:VG c.j6[k].op=ko[c.j6[k].op.toNat-1]'(by omega):=by unfold VG;rw[show(c.j6[k].op-1).toNat=c.j6[k].op.toNat-1 by omega,aD j0];rfl
    have fG:(GJ c.j6[k]).length=(ko[c.j6[k].op.toNat-1]'(by omega)).length+(if hasA c.j6[k].op then 1+(Lib.itoa c.j6[k].a).length else 0):=by
     unfold GJ;rw[fK,aC];split<;>simp<;>omega
    have ic:(listB (fun l=>l++[10]) (List.map GJ (List.drop k c.j6))).length=(GJ c.j6[k]).length+1+(listB (fun l=>l++[10]) (List.map GJ (List.drop (k+1) c.j6))).length:=by
     rw[A6 b8,bd,listB];simp;omega
    by_cases hA:hasA c.j6[k].op=true
    ·rw[aG hA]at fG b7
     have ii : -1000000000<=c.j6[k].a/\c.j6[k].a<=1000000000:=by
      split at b7
      ·unfold inB at b7;simp at b7;omega
      ·unfold farN at b7;simp at b7;omega
     have fc:GJ c.j6[k]=ko[c.j6[k].op.toNat-1]'(by omega)++([32]++Lib.itoa c.j6[k].a):=by unfold GJ;rw[fK,aG hA];rfl
     refine gz ?_ o40;refine EI (Fw ib O bs (ko[c.j6[k].op.toNat-1]'(by omega)) _ hB j0) (fun d S3 hr=>?_);obtain⟨hd,d7⟩:=hr;cases hd;refine gf hA ?_ o40;refine EI (M4 c.j6[k].a S3 j0 j0) (fun d S4 hr=>?_);obtain⟨hd,rfl⟩:=hr;cases hd;refine gz ?_ o40;refine EI (Fw ib O _ ([32]++Lib.itoa c.j6[k].a) _ d7 (by simp;omega)) (fun d S3 hr=>?_);obtain⟨hd,eY⟩:=hr;cases hd;refine gz ?_ o40;refine EI (Fw ib O _ [10] _ eY (by simp;omega)) (fun d S3 hr=>?_);obtain⟨hd,fV⟩:=hr;cases hd;rw[fc]at hE;refine gz ?_ o40;exact⟨k+1,_,_,⟨j0,fV,by simpa[aO] using hE⟩,td1,wkR⟩
    ·rw[aE hA]at fG b7;have gO:hasA c.j6[k].op=false:=by simpa using hA
     have fc:GJ c.j6[k]=ko[c.j6[k].op.toNat-1]'(by omega):=by unfold GJ;rw[fK,aE hA,bl]
     refine gz ?_ o40;refine EI (Fw ib O bs (ko[c.j6[k].op.toNat-1]'(by omega)) _ hB j0) (fun d S3 hr=>?_);obtain⟨hd,d7⟩:=hr;cases hd;refine gf gO ?_ o40;refine EI (Fw ib O _ [10] _ d7 (by simp;omega)) (fun d S3 hr=>?_);obtain⟨hd,fV⟩:=hr;cases hd;rw[fc]at hE;refine gz ?_ o40;exact⟨k+1,_,_,⟨j0,fV,by simpa[aO] using hE⟩,td1,wkR⟩
   ·rw[A9 b8,bX,listB,bl]at hE;subst hE;refine gz ?_ o40;refine EI (WI ib O _ _ hB (by rw[fL];simp) j0) (fun d S3 hr=>?_);obtain⟨hd,rfl⟩:=hr;cases hd;refine gz ?_ o40;refine kM (U':=S3) ⟨by rw[hh];rfl,rfl⟩
def rvk(l:List UInt8)(k:Nat):List UInt8:=(List.range l.length).map fun j=>if j<k\/l.length<=j+k then l.getD (l.length-1-j) 0 else l.getD j 0
@[simp] theorem rvk_len(l:List UInt8)(k:Nat):(rvk l k).length=l.length:=by simp[rvk]
def I5(l:List UInt8)(k j:Nat)(h:j<l.length):(rvk l k)[j]? = some (if j<k\/l.length<=j+k then l.getD (l.length-1-j) 0 else l.getD j 0):=by
 unfold rvk;rw[bA,List.getElem?_range h];rfl
def getD_some{l:List UInt8}{j:Nat}(h:j<l.length):l[j]? = some (l.getD j 0):=by rw[aQ,aD h];rfl
def rvk_0(l:List UInt8):rvk l 0=l:=by
 refine cD fun j=>?_
 by_cases h:j<l.length
 ·rw[I5 l 0 j h,aE j0,getD_some h]
 ·rw[aX (by simp;omega),aX j0]
def rvk_end(l:List UInt8)(k:Nat)(h:l.length<=2*k+1):rvk l k=l.reverse:=by
 refine cD fun j=>?_
 by_cases hj:j<l.length
 ·rw[I5 l k j hj,List.getElem?_reverse hj,getD_some j0]
  by_cases h2:j<k\/l.length<=j+k
  ·rw[aG h2]
  ·rw[aE h2,show l.length-1-j=j by omega]
 ·rw[aX (by simp;omega),aX (by simp;omega)]
def rvk_set(l:List UInt8)(k:Nat)(h:2*k+1<l.length):((rvk l k).set k (l.getD (l.length-1-k) 0)).set (l.length-1-k) (l.getD k 0)=rvk l (k+1):=by
 refine cD fun j=>?_
 by_cases hj:j<l.length
 ·rw[I5 l _ j hj]
  by_cases h1:j=l.length-1-k
  ·subst h1;rw[List.getElem?_set_self (by simp;omega),aG j0]
   congr 2;omega
  ·rw[List.getElem?_set_ne (fun e=>h1 e.symm)]
   by_cases h2:j=k
   ·subst h2;rw[List.getElem?_set_self (by simp;omega),aG j0]
   ·rw[List.getElem?_set_ne (fun e=>h2 e.symm),I5 l k j hj]
    congr 1
    by_cases h3:j<k\/l.length<=j+k
    ·rw[aG h3,aG j0]
    ·rw[aE h3,aE j0]
 ·rw[aX (by simp;omega),aX (by simp;omega)]
def byD(b:UInt8):D:=.int .u8 (b.toNat:Int)
def OW{α:Type}(l:List α)(k:Nat)(x:α)(h:k<l.length):l.take k++[x]++l.drop (k+1)=l.set k x:=by
 rw[bL,aG h,aO];rfl
def QU(b:D)(O:Sig):ar prog 155 [.slice [[b]] .clip] O (rS (.tup []) O):=by
 refine en func155 ntmps155 ?_;refine gz ?_ o155;refine Bz [0] (fun (k:Nat)=>True) (fun _=>[(2,dI 0),(3,dI 0)]) (fun _=>O) (fun _=>1) (0) (by trivial) (fun k hI=>?_);refine gz ?_ o155;refine F3 (U':=O) ⟨rfl,rfl⟩
def Uq(bs:List UInt8)(rest:eO)(i cap:Nat)(O:Sig)(hn:bs.length<=1000000)(hc:bs.length<=cap)(hi:O i=some (.cells (bs.map byD++rest))):ar prog 155 [.am i 0 bs.length cap] O fun x U'=>x=.ret (.tup [])/\U'=O.set i (.cells (bs.reverse.map byD++rest)):=by
 refine en func155 ntmps155 ?_;refine gz ?_ o155;refine BO [0] (fun (k:Nat) (S2:Sig)=>k<=bs.length/\(∀j,j≠i->S2 j=O j)/\S2 i=some (.cells ((rvk bs k).map byD++rest))) (fun k _=>[(2,dI k),(3,dI ((bs.length:Int)-1-k))]) (fun _ S2=>S2) (fun k _=>bs.length-k) (0) (O) (by exact⟨cE _,fun _ _=>rfl,by rw[rvk_0];exact hi⟩) (fun k S2 hI=>?_);obtain⟨gD,hs,eW⟩:=hI
 by_cases hk:2*k+1<bs.length
 ·obtain⟨L,hL⟩:∃L,L=(rvk bs k).map byD++rest:=⟨_,rfl⟩;rw[<-hL]at eW;have fG:bs.length<=L.length:=by rw[hL];simp
  have hx:L[k]? = some (byD (bs.getD k 0)):=by rw[hL,bj (by simp;omega),bA,I5 bs k k j0,aE j0];rfl
  have hy:L[bs.length-1-k]? = some (byD (bs.getD (bs.length-1-k) 0)):=by rw[hL,bj (by simp;omega),bA,I5 bs k _ j0,aE j0];rfl
  have hE:(L.set k (byD (bs.getD (bs.length-1-k) 0))).set (bs.length-1-k) (byD (bs.getD k 0))=(rvk bs (k+1)).map byD++rest:=by
   rw[hL,List.set_append_left _ _ (by simp;omega),List.set_append_left _ _ (by simp;omega),<-dX,<-dX,rvk_set bs k hk]
  unfold byD at hx hy hE;generalize (bs.getD k 0).toNat=x at*;generalize (bs.getD (bs.length-1-k) 0).toNat=y at*;have hX:L[k]'(by omega)=.int .u8 x:=by have:=hx;rw[aD j0]at this;exact Option.some.inj this
  have hY:L[bs.length-1-k]'(by omega)=.int .u8 y:=by have:=hy;rw[aD j0]at this;exact Option.some.inj this
  have fB:=OW L k (.int .u8 y) j0;have fY:=OW (L.set k (.int .u8 y)) (bs.length-1-k) (.int .u8 x) (by simp;omega);simp only[aO,List.singleton_append]at fB fY;have gK:¬L.length<k+1:=by omega
  have gJ:¬L.length<bs.length-1-k+1:=by omega
  refine gz ?_;refine mixK (id:=3) (List.range 16) [13,15] [7,11] [13,15] S2 (Sub.refl _) ?_;refine k4R (.am i 0 bs.length cap) ?_;refine k4R (dI k) ?_;refine k4R (.am i 0 bs.length cap) ?_;refine k4R (dI ((bs.length:Int)-1-k)) ?_;refine k4R (.am i 0 bs.length cap) ?_;refine k4R (dI ((bs.length:Int)-1-k)) ?_;refine k4R (.ptr i (bs.length-1-k)) ?_ (hd:=by simp(disch:=omega);omega);refine k4R (.int .u8 y) ?_ (hd:=by simp[eW,hy]);refine k4R (.am i 0 bs.length cap) ?_;refine k4R (dI k) ?_;refine k4R (.ptr i k) ?_ (hd:=by simp(disch:=omega);omega);refine k4R (.int .u8 x) ?_ (hd:=by simp[eW,hx]);refine k4R (.ptr i k) ?_ (hd:=by simp(disch:=omega);omega);refine k4S (d:=.any) (U':=S2.set i (.cells (L.set k (.int .u8 y)))) (fun _=>none) (fun _ _ h=>by cases h) ?_ (he:=by simp[eW,fB,gK]);refine k4R (.ptr i (bs.length-1-k)) ?_ (hd:=by simp(disch:=omega);omega);refine k4S (d:=.any) (U':=(S2.set i (.cells (L.set k (.int .u8 y)))).set i (.cells ((L.set k (.int .u8 y)).set (bs.length-1-k) (.int .u8 x)))) (fun _=>none) (fun _ _ h=>by cases h) ?_ (he:=by simp[fY,gJ]);refine k4N ?_;rw[hE];refine gz ?_ o155
  exact⟨k+1,(S2.set i (.cells (L.set k (.int .u8 y)))).set i (.cells ((rvk bs (k+1)).map byD++rest)),⟨j0,fun j hj=>by rw[w7 _ _ hj,w7 _ _ hj];exact hs j hj,w6 ..⟩,td1,wkR⟩
 ·refine gz ?_ o155;refine F3 (U':=S2) ⟨rfl,?_⟩;rw[rvk_end bs k j0]at eW
  funext j
  by_cases hj:j=i
  ·subst hj;rw[w6,eW]
  ·rw[w7 _ _ hj,hs j hj]
def IZ(x:Int):IntKind.u8.wrap x=x % 256:=by
 simp[IntKind.wrap,IntKind.bits,IntKind.signed]
def u8_step(z c:UInt8):IntKind.u8.wrap (IntKind.u8.wrap (IntKind.u8.wrap (3*(z.toNat:Int))+(c.toNat:Int))+1)=((3*z+c+1).toNat:Int):=by
 rw[IZ,IZ,IZ,UInt8.toNat_add,UInt8.toNat_add,UInt8.toNat_mul];simp only[UInt8.reduceToNat];omega
def WM(bs:List UInt8)(i cap:Nat)(rest:eO)(O:Sig)(hn:bs.length<=1000000)(hc:bs.length<=cap)(hi:O i=some (.cells (bs.map byD++rest))):ar prog 73 [.am i 0 bs.length cap] O (rS (.int .u8 ((sumB bs 0).toNat:Int)) O):=by
 refine en func73 ntmps73 ?_;refine gz ?_;refine BO [2,6,7,18] (fun (k:Nat) (z:UInt8)=>k<=bs.length/\sumB (bs.drop k) z=sumB bs 0) (fun k z=>[(8,dI k),(3,.int .u8 (z.toNat:Int))]) (fun _ _=>O) (fun k _=>bs.length-k) (0) (0) (by exact⟨cE _,rfl⟩) (fun k z hI=>?_);obtain⟨gD,hs⟩:=hI
 by_cases hk:k<bs.length
 ·obtain⟨L,hL⟩:∃L,L=bs.map byD++rest:=⟨_,rfl⟩;rw[<-hL]at hi;have fG:bs.length<=L.length:=by rw[hL];simp
  have hX:L[k]'(by omega)=.int .u8 (bs[k].toNat:Int):=by subst hL;rw[List.getElem_append_left (by simpa using hk),eB];rfl
  rw[A6 hk,sumB]at hs;refine gf (gi hi hX) ?_;simp only[u8_step];exact⟨k+1,3*z+bs[k]+1,⟨j0,hs⟩,td1,wkR⟩
 ·rw[A9 hk,sumB]at hs;refine gz ?_;refine fin1 (U':=O) ⟨by rw[<-hs],rfl⟩
@[simp] theorem RW.d_row(i c n:Nat)(cs:eO):(RW.row i c cs).d n=.am i 0 n c:=rfl
@[simp] theorem RW.d_full(es:eR)(n:Nat):(RW.full es).d n=.slice es .clip:=rfl
def EC(b:UInt8):eO:=[.int .u8 (b.toNat:Int)]
@[simp] theorem byteL_len(b:UInt8):(EC b).length=1:=rfl
def GE: ∀l:List UInt8,(l.map EC).flatten=l.map byD
 |[]=>rfl
 |b::l=>by rw[bd,br,GE l];rfl
def PkS(ib:Nat)(S0:Sig)(bs:List UInt8)(O:Sig):Prop:=
 Sub S0 O/\S0 ib=none /\ ∃r:RW,O ib=some (.cells [r.d (bs.map EC).length])/\jN O 1 r (bs.map EC) /\ ¬r.is ib/\(∀j,r.is j->S0 j=none)/\(bs.length<=1 \/ ∃i c cs,r=.row i c cs)
section
variable {ro:Ro}{n:Nat}{ops:Array Oper}{N:Nat}{S0:Sig}{Q:DX->St->Prop}{df:List DDf}{rest:List Oper}{γ Sr:List (Nat×D)}{O:Sig}{t:Nat}{ty:TypeId}{pos:String}{after:Array Edge}{d:D}
theorem xappN{T T' e e' sz:Nat}{s x:Operand}{es new:eR}{r:RW}(h:∀i c cs U',jN U' sz (.row i c cs) (es++new)->RWK O r U' (.row i c cs)->au prog ro n ops Q rest ⟨(t,.am i 0 (es.length+new.length) c)::γ,U',df⟩)(hm:jN O sz r es){dx:D}(h2:IK prog O sz dx new)(hne:new≠[])(fP:∀c∈new,C6 c=true)
  (hlen':∀c∈new,c.length=sz)
  (hl:A5 γ (Aa [s,x])=some Sr:=by exact tdR) (hx:ev Sr x=dx:=by exact tdR) (hk:(tab T).k=.slice e:=by(simp<;>rfl)) (fu:(tab T').k=.slice e':=by(simp<;>rfl)) (he:A2 (tab e).k=false:=by simp) (hsz:(tab e).size=sz:=by simp)
  (h1:ev Sr s=r.d es.length:=by first|with_unfolding_all rfl|(simp[ev,getD,List.lookup];done))
  (hb:(es.length+new.length)*(tab e).bytes<=140737488355328:=by first|(simp;done)|(simp;omega)) (hm2:es.length+new.length<=9223372036854775807:=by first|(simp;done)|(simp;omega)) (d6:decide (t<n)=true:=by exact tdR) :
  au prog ro n ops Q (⟨some t,(cA s x T T'),ty,pos,after,none⟩::rest) ⟨γ,O,df⟩:=by
 obtain⟨e1,e2⟩:=jW hl;subst hx
 exact F9 jB (by simpa using d6) hk fu he hsz (by rw[<-e1];exact h1) hm (by rw[<-e2];exact h2) hlen' fP hb hm2 fun r' U' h1 h2 h3=>by
  rcases h3 with⟨h3,_⟩|⟨i,c,cs,rfl⟩
  ·exact absurd h3 hne
  ·exact h i c cs U' h1 h2
end
def Gx(ib:Nat)(S0:Sig)(bs:List UInt8)(n:Nat)(O:Sig)(hB:PkS ib S0 bs O)(hn:n<=10000000000)(hb:bs.length<=1000000):ar prog 71 [.ptr ib 0,dI n] O fun x U'=>x=.ret (.tup [])/\PkS ib S0 (bs++kF n) U':=by
 obtain⟨hS,h0,r0,fN,fD,fZ,fC,_⟩:=hB;refine en func71 ntmps71 ?_;refine gz ?_;refine Qt [0,22,23,24,25,26,27,28,29,30] (fun (m:Nat) (ds:List UInt8) (r:RW) (S2:Sig)=>((∃k,m<128 ^ k/\hiB k m++ds.reverse=kF n/\k+ds.length=11)/\m<=10000000000)/\jN S2 1 r (ds.map EC)/\RWK O .nil S2 r/\((∃b,ds=[b]/\r=.full [EC b]) \/ ∃i c cs,r=.row i c cs)) (fun m ds r _=>[(1,dI m),(4,r.d (ds.map EC).length)]) (fun _ _ _ S2=>S2) (fun m _ _ _=>m) (n / 128) ([UInt8.ofNat (n % 128)]) (.full [EC (UInt8.ofNat (n % 128))]) (O) (by exact⟨⟨⟨10,j0,rfl,rfl⟩,j0⟩,⟨rfl,j1⟩,RWK.refl _ _,.inl ⟨_,rfl,rfl⟩⟩) (fun m ds r S2 hI=>?_);obtain⟨⟨⟨k,f7,fe,gW⟩,gU⟩,hR,hK,hF⟩:=hI
 by_cases hm:0<m
 ·have hw:IntKind.u8.wrap (IntKind.i64.wrap ((m:Int).tmod 128+128))=((UInt8.ofNat (128+m % 128)).toNat:Int):=by
   have e:(m:Int).tmod 128=((m % 128:Nat):Int):=by rw[Int.tmod_eq_emod_of_nonneg j0];rfl
   rw[e,OR j0,IZ,AA j0 j0];omega
  obtain⟨k,rfl⟩:∃k',k=k'+1:=by
   cases k with
   |zero=>simp at f7;omega
   |succ k=>exact⟨k,rfl⟩
  rw[hiB,aE j0]at fe;obtain⟨y,hy⟩:∃y,UInt8.ofNat (128+m % 128)=y:=⟨_,rfl⟩;rw[hy]at hw fe;refine gz ?_;simp only[hw];refine xapp (new:=[[.int .u8 (y.toNat:Int)]]) (fun i c cs S3 fg fJ=>?_) hR (h1:=by simp);have eV:jN S3 1 (.row i c cs) ((ds++[y]).map EC):=by rw[bz];exact fg
  refine gz ?_;exact⟨m / 128,ds++[y],.row i c cs,S3,⟨⟨⟨k,by rw[Nat.pow_succ]at f7;omega,by rw[List.reverse_append];simpa[aO] using fe,by simp;omega⟩,j0⟩,eV,hK.trans fJ,.inr ⟨_,_,_,rfl⟩⟩,td1,wkR⟩
 ·obtain rfl:m=0:=by omega
  have fI:ds.reverse=kF n:=by rw[<-fe];cases k<;>simp[hiB]
  have ie:(kF n).length<=11:=by rw[<-fI];simp;omega
  rcases hF with⟨b,rfl,rfl⟩|⟨i,c,cs,rfl⟩
  ·have hd:[b]=kF n:=fI;refine gz ?_;refine A3 (QU (.int .u8 (b.toNat:Int)) S2) (fun d S3 hr=>?_);obtain⟨fQ,rfl⟩:=hr;cases fQ;have d9:S3 ib=some (.cells [r0.d (bs.map EC).length]):=(hK ib _ fN id).1;have fg:jN S3 1 r0 (bs.map EC):=fD.keep fun j o hj _=>(hK j o hj id).1;refine gf d9 ?_;refine xappN (new:=(kF n).map EC) (fun j c' cs' S4 eV fh=>?_) fg (GL (d:=.slice [EC b] .clip) (by rw[<-hd];rfl) j1) (by simp[kF]) (fun x hx=>by obtain⟨b,_,rfl⟩:=aZ.1 hx;rfl) (fun x hx=>by obtain⟨b,_,rfl⟩:=aZ.1 hx;rfl) (h1:=by simp) (hb:=by simp;omega) (hm2:=by simp;omega);have c9:=fh ib _ d9 fZ;rw[<-bz]at eV;have b9:S4 ib=some (.cells [r0.d bs.length]):=by rw[c9.1];simp
   refine gf b9 ?_;refine F3 (U':=S4.set ib (.cells [.am j 0 (bs++kF n).length c'])) ⟨rfl,?_,h0,.row j c' cs',?_,?_,?_,?_,.inr ⟨_,_,_,rfl⟩⟩ (hZ:=by simp;exact Sub.refl _)
   ·exact fun x o hx=>by rw[w7 _ _ (fun e=>by rw[e,h0]at hx;cases hx)];exact(fh x o (hK x o (hS x o hx) id).1 (fun eZ=>by rw[fC x eZ]at hx;cases hx)).1
   ·rw[w6];simp
   ·exact eV.keep fun x o hx hj=>by rw[w7 _ _ (fun e=>by subst e;exact c9.2 hj)];exact hx
   ·exact c9.2
   ·exact fun x hx=>by cases h:S0 x with|none=>rfl|some o=>exact absurd hx (fh x o (hK x o (hS x o h) id).1 (fun eZ=>by rw[fC x eZ]at h;cases h)).2
  ·obtain⟨q1,q2,q3,q4⟩:=hR;rw[GE]at q1;rw[aN]at q3;have fF:∀j o,O j=some o->j≠i:=fun j o hj e=>(hK j o hj id).2 e;have hne:=fF ib _ fN;refine gz ?_;refine A3 (Uq ds cs i c S2 j0 q3 q1) (fun d S3 hr=>?_);obtain⟨fQ,fi⟩:=hr;cases fQ;rw[fI]at fi
   have fM:IK prog S3 1 (.am i 0 ds.length c) ((kF n).map EC):=by
    have e:ds.length=((kF n).map EC).length:=by rw[<-fI];simp
    rw[e];refine I3 (pre:=[]) (rest:=cs) (by rw[fi,w6,GE];rfl) rfl (fun x hx=>by obtain⟨b,_,rfl⟩:=aZ.1 hx;rfl) (by rw[<-e];exact q3)
   have d9:S3 ib=some (.cells [r0.d (bs.map EC).length]):=by rw[fi,w7 _ _ hne];exact(hK ib _ fN id).1
   have fg:jN S3 1 r0 (bs.map EC):=fD.keep fun j o hj _=>by rw[fi,w7 _ _ (fF j _ hj)];exact(hK j o hj id).1
   refine gf d9 ?_;refine xappN (new:=(kF n).map EC) (fun j c' cs' S4 eV fh=>?_) fg (fM) (by simp[kF]) (fun x hx=>by obtain⟨b,_,rfl⟩:=aZ.1 hx;rfl) (fun x hx=>by obtain⟨b,_,rfl⟩:=aZ.1 hx;rfl) (h1:=by simp) (hb:=by simp;omega) (hm2:=by simp;omega);have c9:=fh ib _ d9 fZ;rw[<-bz]at eV;have b9:S4 ib=some (.cells [r0.d bs.length]):=by rw[c9.1];simp
   refine gf b9 ?_;refine F3 (U':=S4.set ib (.cells [.am j 0 (bs++kF n).length c'])) ⟨rfl,?_,h0,.row j c' cs',?_,?_,?_,?_,.inr ⟨_,_,_,rfl⟩⟩ (hZ:=by simp;exact Sub.refl _)
   ·exact fun x o hx=>by rw[w7 _ _ (fun e=>by rw[e,h0]at hx;cases hx)];exact(fh x o (by rw[fi,w7 _ _ (fF x _ (hS x o hx))];exact(hK x o (hS x o hx) id).1) (fun eZ=>by rw[fC x eZ]at hx;cases hx)).1
   ·rw[w6];simp
   ·exact eV.keep fun x o hx hj=>by rw[w7 _ _ (fun e=>by subst e;exact c9.2 hj)];exact hx
   ·exact c9.2
   ·exact fun x hx=>by cases h:S0 x with|none=>rfl|some o=>exact absurd hx (fh x o (by rw[fi,w7 _ _ (fF x _ (hS x o h))];exact(hK x o (hS x o h) id).1) (fun eZ=>by rw[fC x eZ]at h;cases h)).2
def PkS.put{ib:Nat}{S0 O S4:Sig}{bs new:List UInt8}{r:RW}{j c:Nat}{cs:eO}(hS:Sub S0 O)(h0:S0 ib=none)(h1:O ib=some (.cells [r.d (bs.map EC).length]))(h3:¬r.is ib)(h4:∀j,r.is j->S0 j=none)(hR:jN S4 1 (.row j c cs) ((bs++new).map EC))(hK:RWK O r S4 (.row j c cs)):PkS ib S0 (bs++new) (S4.set ib (.cells [.am j 0 (bs++new).length c])):=by
 have eU:=hK ib _ h1 h3;have fe:∀x o,S0 x=some o->S4 x=some o /\ ¬(RW.row j c cs).is x:=fun x o hx=>hK x o (hS x o hx) fun h=>by rw[h4 x h]at hx;cases hx
 refine⟨fun x o hx=>?_,h0,.row j c cs,?_,?_,eU.2,fun x hx=>?_,.inr ⟨_,_,_,rfl⟩⟩
 ·rw[w7 _ _ (fun e=>by rw[e,h0]at hx;cases hx)];exact(fe x o hx).1
 ·rw[w6];simp
 ·exact hR.keep fun x o hx hj=>by rw[w7 _ _ (fun e=>by subst e;exact eU.2 hj)];exact hx
 ·cases h:S0 x with
  |none=>rfl
  |some o=>exact absurd hx (fe x o h).2
section
variable {ro:Ro}{n:Nat}{ops:Array Oper}{N:Nat}{S0:Sig}{Q:DX->St->Prop}{df:List DDf}{rest:List Oper}{γ Sr:List (Nat×D)}{O:Sig}{t:Nat}{ty:TypeId}{pos:String}{after:Array Edge}{d:D}
theorem moXappF{T T' e e' sz:Nat}{s x:Operand}{es new:eR}{r:RW}{l:List (Bool×Oper)}(h:∀U',Sub S0 U'->MO prog ro n ops N S0 Q df l ((t,.slice (es++new) .no)::γ) U')(hC:∀j o,S0 j=some o->O j=some o /\ ¬r.is j)(hm:jN O sz r es:=by assumption)
  (hl:A5 γ (Aa [s,x])=some Sr:=by exact tdR) (hk:(tab T).k=.slice e:=by(simp<;>rfl)) (fu:(tab T').k=.slice e':=by(simp<;>rfl)) (he:A2 (tab e).k=false:=by simp) (hsz:(tab e).size=sz:=by simp)
  (h1:ev Sr s=r.d es.length:=by first|with_unfolding_all rfl|(simp[ev,getD,List.lookup];done)) (h2:k8 (ev Sr x)=some new:=by(simp<;>with_unfolding_all rfl))
  (hlen':∀c∈new,c.length=sz:=by first|exact Ck _|exact E0 _|exact BX _|simp) (fP:∀c∈new,C6 c=true:=by simp[cI,cS,cII,C6,D.flat])
  (hb:(es.length+new.length)*(tab e).bytes<=140737488355328:=by first|(simp;done)|(simp;omega)) (hm2:es.length+new.length<=9223372036854775807:=by first|(simp;done)|(simp;omega)) (d6:decide (t<n)=true:=by exact tdR) :
  MO prog ro n ops N S0 Q df ((true,⟨some t,(cA s x T T'),ty,pos,after,none⟩)::l) γ O:=
 mo1 (fun U2 hx=>by
  obtain⟨e1,e2⟩:=In hl hx
  refine F9 jB (by simpa using d6) hk fu he hsz (by rw[e1];exact h1) hm (by rw[e2];exact GL h2 hlen') hlen' fP hb hm2 (fun r' U' h' hK _=>?_)
  obtain⟨S'',hw,gC⟩:=GT (P:=prog) (n:=n) (γ:=(t,r'.d (es.length+new.length))::U2) (df:=df) (t:=t) h' (by simp[getD,List.lookup])
  have hS:Sub S0 S'':=fun j o hj=>by
   obtain⟨q1,q2⟩:=hC j o hj
   obtain⟨q3,q4⟩:=hK j o q1 q2
   exact gC j o q3 q4
  refine C9 hw (AD ⟨rfl,?_⟩)
  simp only[A8,bu]
  exact⟨hS,h S'' hS⟩) d6
theorem moQStr{T T' e:Nat}{x:Operand}{s:List UInt8}{ef:Bool}{l:List (Bool×Oper)}(h:MO prog ro n ops N S0 Q df l ((t,.str s)::γ) O)(hl:A5 γ (Aa [x])=some Sr:=by exact tdR)(hk:(tab T).k=.slice e:=by(simp<;>rfl))(fu:(tab T').k=.str:=by(simp<;>rfl))(gE:(tab e).k=.int .u8:=by(simp<;>rfl))
  (h1:k8 (ev Sr x)=some (s.map fun b=>[D.int .u8 (b.toNat:Int)])) (d6:decide (t<n)=true:=by exact tdR) :
  MO prog ro n ops N S0 Q df ((ef,⟨some t,.convert T T' x,ty,pos,after,none⟩)::l) γ O:=by
 have fE:∀y∈(Op.convert T T' x).operands,ev (only (Oper.looksAt ops ⟨some t,.convert T T' x,ty,pos,after,none⟩) γ) y=ev γ y:=fun y hy=>Bf (o:=⟨some t,.convert T T' x,ty,pos,after,none⟩) hy;have hx:∀y∈[x],ev Sr y=ev γ y:=fun y hy=>Bs fun t ht=>AB hl t (AL (by rw[<-ht];exact hy))
 refine Pc (.str s) d6 rfl (by rw[Ar];rfl) (fun U' iq ro' df'=>?_) h;refine Xu jB (AD ⟨rfl,?_⟩) (by rw[Ar];rfl) (by simpa using d6) hk fu gE (by rw[fE x (by simp[Op.operands]),<-hx x j1];exact h1);simp only[A8,bu];exact⟨trivial,Sub.refl _⟩
end
def X2(c:jD)(O:Sig)(h1:c.j6.length<=1073741824)(h2:c.jG.length<=1073741824):ar prog 36 [.agg (cCPg c)] O (rS (if EX c then .tup [.str (Kb c),dI 0] else .tup [.str [],dI 2]) O):=by
 refine en func36 ntmps36 ?_
 repeat' first|refine gz ?_ o36 [4]|apply gy<;>intro hh
 ·refine kM (U':=O) ⟨by rw[hh];rfl,rfl⟩
 ·have hp:=hh;unfold EX at hp;simp only[aF,aH]at hp;obtain⟨c1,c2,c3,c4,c5⟩:=hp;have hT:=VA hh;have hm:0<=c.jf/\c.jf<=1000000000:=by unfold farN at c3;simpa using c3
  refine je (fun ib eU=>?_);refine gz ?_ o36 [4];have fm:PkS ib O [199] (O.set ib (.cells [.slice [[.int .u8 199]] .clip])):=⟨(Sub.refl _).set eU,eU,.full [EC 199],w6 .., ⟨rfl,j1⟩,id,fun _ h=>h.elim,.inl j1⟩
  try simp only[w8]
  generalize O.set ib (.cells [.slice [[.int .u8 199]] .clip])=S1 at fm⊢;have fp:Kb c=rawB c++[sumB (rawB c) 0]:=rfl;have gw:=bn List.length fp;rw[aC,aT]at gw;have hr:rawB c=[199]++(kF c.jG.length++(listB (fun n:Int=>kF n.toNat) c.jG++(kF c.jf.toNat++(kF c.j6.length++listB insB c.j6)))):=rfl;have fD:=bn List.length hr;simp only[aC,aT]at fD;refine A3 (Gx ib O [199] c.jG.length S1 fm j0 j1) (fun d S2 hr=>?_);obtain⟨hd,hB⟩:=hr;cases hd;refine gz ?_ o36 [4];refine F1 ([1,2,3,4,8,18,19]++List.range' 27 44) (fun (k:Nat) (bs:List UInt8) (S2:Sig)=>k<=c.jG.length/\PkS ib O bs S2/\bs++(listB (fun n:Int=>kF n.toNat) (c.jG.drop k)++(kF c.jf.toNat++(kF c.j6.length++listB insB c.j6)))=rawB c) (fun k _ _=>[(20,dI k)]) (fun _ _ S2=>S2) (fun k _ _=>c.jG.length-k) (0) ([199]++kF c.jG.length) (S2) (by exact⟨j0,hB,by rw[hr];simp⟩) (fun k bs S2 hI=>?_);clear hB fm;obtain⟨hk,hB,hE⟩:=hI;have ff:=bn List.length hE;rw[aC]at ff
  by_cases b8:k<c.jG.length
  ·rw[A6 b8,listB]at hE;have hn:=aW.1 c4 _ (aK b8);unfold farN at hn;simp only[aH]at hn;obtain⟨w,hw⟩:∃w:Nat,c.jG[k]=(w:Int):=⟨c.jG[k].toNat,j0⟩;rw[hw]at hn hE;refine gf hw ?_ o36 [4];refine A3 (Gx ib O bs w S2 hB j0 j0) (fun d S3 hr=>?_);obtain⟨hd,d7⟩:=hr;cases hd;refine gz ?_ o36 [4];exact⟨k+1,_,_,⟨j0,d7,by simpa[aO] using hE⟩,td1,wkR⟩
  ·rw [A9 b8,listB,bG] at hE;obtain⟨w,hw⟩:∃w:Nat,c.jf=(w:Int):=⟨c.jf.toNat,j0⟩;rw[hw]at hm hE;refine gf hw ?_ o36 [4];refine A3 (Gx ib O bs w S2 hB j0 j0) (fun d S3 hr=>?_);obtain⟨hd,d7⟩:=hr;cases hd;have fU:=bn List.length hE;simp only[aC,bF]at fU;refine gz ?_ o36 [4];refine A3 (Gx ib O (bs++kF w) c.j6.length S3 d7 j0 (by simp;omega)) (fun d S4 hr=>?_);obtain⟨hd,eY⟩:=hr;cases hd;refine gz ?_ o36 [4];refine F1 [2,3,4,35,36,65,66,67,68,69,70] (fun (k:Nat) (bs:List UInt8) (S2:Sig)=>k<=c.j6.length/\PkS ib O bs S2/\bs++listB insB (c.j6.drop k)=rawB c) (fun k _ _=>[(37,dI k)]) (fun _ _ S2=>S2) (fun k _ _=>c.j6.length-k) (0) (bs++kF w++kF c.j6.length) (S4) (by exact⟨j0,eY,by simpa[aO] using hE⟩) (fun k bs S2 hI=>?_);clear hB d7 eY hE;obtain⟨hk,hB,hE⟩:=hI;have ff:=bn List.length hE;rw[aC]at ff
   by_cases b8:k<c.j6.length
   ·rw [A6 b8,listB] at hE;have hI:=aW.1 c5 _ (aK b8);unfold FC at hI;simp only[aF,aH]at hI;obtain⟨⟨gH,eW⟩,b7⟩:=hI;obtain⟨w,hw⟩:∃w:Nat,c.j6[k].op=(w:Int):=⟨c.j6[k].op.toNat,j0⟩;obtain⟨hS,h0,r,q1,q2,q3,q4,q5⟩:=hB;obtain⟨y,hy⟩:∃y,UInt8.ofNat c.j6[k].op.toNat=y:=⟨_,rfl⟩;have gr:IntKind.u8.wrap c.j6[k].op=(y.toNat:Int):=by rw[<-hy,hw,IZ,OR j0];omega
    have fS : -1000000000<=c.j6[k].a/\c.j6[k].a<=1000000000/\(c.j6[k].a<0->hasA c.j6[k].op=true):=by
     split at b7
     ·rename_i hA;refine⟨?_,?_,fun _=>hA⟩<;>split at b7
      ·unfold inB at b7;simp at b7;omega
      ·unfold farN at b7;simp at b7;omega
      ·unfold inB at b7;simp at b7;omega
      ·unfold farN at b7;simp at b7;omega
     ·simp at b7;omega
    obtain⟨a1,a2,a3⟩:=fS;refine gf q1 ?_ o36 [4];simp only[gr];refine xapp (new:=[[.int .u8 (y.toNat:Int)]]) (fun j c' cs' S3 fg fJ=>?_) q2 (h1:=by simp);have eU:=fJ ib _ q1 q3;have eV:jN S3 1 (.row j c' cs') ((bs++[y]).map EC):=by rw[bz];exact fg
    have hP:=PkS.put hS h0 q1 q3 q4 eV fJ;have b9:S3 ib=some (.cells [r.d bs.length]):=by rw[eU.1];simp
    simp only[aC,aT]at hP
    by_cases fb:c.j6[k].a<0
    ·obtain⟨v,hv⟩:∃v:Nat, -2*c.j6[k].a-1=(v:Int):=⟨(-2*c.j6[k].a-1).toNat,j0⟩
     have fv:insB c.j6[k]=y::kF v:=by
      unfold insB SZ;rw[hy,aG (a3 fb),aG fb,hv];rfl
     rw[fv]at hE;refine gf b9 ?_ o36 [4];simp only[hv];refine A3 (Gx ib O (bs++[y]) v _ hP j0 (by simp;omega)) (fun d S4 hr=>?_);obtain⟨hd,eY⟩:=hr;cases hd;refine gz ?_ o36 [4];exact⟨k+1,_,_,⟨j0,eY,by simpa[aO] using hE⟩,td1,wkR⟩
    ·obtain⟨v,hv⟩:∃v:Nat,2*c.j6[k].a=(v:Int):=⟨(2*c.j6[k].a).toNat,j0⟩
     by_cases hA:hasA c.j6[k].op=true
     ·have fv:insB c.j6[k]=y::kF v:=by
       unfold insB SZ;rw[hy,aG hA,aE fb,hv];rfl
      rw[fv]at hE;refine gf (gi b9 hA) ?_ o36 [4];simp only[hv];refine A3 (Gx ib O (bs++[y]) v _ hP j0 (by simp;omega)) (fun d S4 hr=>?_);obtain⟨hd,eY⟩:=hr;cases hd;refine gz ?_ o36 [4];exact⟨k+1,_,_,⟨j0,eY,by simpa[aO] using hE⟩,td1,wkR⟩
     ·have fv:insB c.j6[k]=[y]:=by
       unfold insB;rw[hy,aE hA]
      rw[fv]at hE;refine gf (gi b9 hA) ?_ o36 [4];exact⟨k+1,_,_,⟨j0,hP,by simpa[aO] using hE⟩,td1,wkR⟩
   ·refine gz ?_ [] [4];rw[A9 b8,listB,bl]at hE;subst hE;obtain⟨hS,h0,r,q1,q2,q3,q4,q5⟩:=hB;refine FK (id:=21) [0,1,2,3,4,5,6,7] [2,4] (S2.out r.is) (CC _ _) ?_;have q1':=Dk (touch:=r.is) q1 q3
    have q6:∃i c cs,r=.row i c cs:=by
     rcases q5 with q5|q5
     ·rw[hr]at q5;simp[kF]at q5
     ·exact q5
    obtain⟨i,cc,cs,rfl⟩:=q6;refine gf q1' ?_ o36 [4];have q7:=q2.1;have q8:=q2.2.2.1;rw[GE]at q7;rw[aN]at q8;refine AX (WM (rawB c) i cc cs S2 j0 q8 q7) (fun d S3 hr=>?_) (fun d S3 hr=>by cases hr.1);obtain⟨hd,rfl⟩:=hr;cases hd;refine⟨CC _ _,?_⟩;refine gz ?_ o36 [4];refine moXappF (new:=[[.int .u8 ((sumB (rawB c) 0).toNat:Int)]]) (fun S4 gN=>?_) (fun j o h=>C2 h) q2 (h1:=by simp);refine moQStr (s:=Kb c) ?_ (h1:=by rw[fp,bz];rfl);have ip:Sub O S4:=fun x o hx=>gN x o (Dk (hS x o hx) fun h=>by rw[q4 x h]at hx;cases hx)
    refine gz ?_ o36 [4];refine kM (U':=O) ⟨by rw[hh];rfl,rfl⟩
section
variable {P:Program}{ro:Ro}{n:Nat}{ops:Array Oper}{N:Nat}{S0:Sig}{Q:DX->St->Prop}{df:List DDf}{γ Sr:List (Nat×D)}{O:Sig}{t:Nat}{ty:TypeId}{pos:String}{after:Array Edge}{l:List (Bool×Oper)}{e:Bool}
theorem mo_eqlG{tab:Nat->Ty}(ht:AZ P tab){T u:Nat}{x y:Operand}{xs ys:eO}{gd:Option (Nat×Bool)}(fs:List (Nat×Nat))(r:Bool)(hE:EqTy P T)(hk:(tab T).k=.struct fs)(hd:eqFs tab xs ys fs=some r)
  (h:MO P ro n ops N S0 Q df l ((t,.bool r)::γ) O) (hw:AJ ops γ ⟨some t,.binOp .eql T x y u,ty,pos,after,gd⟩=some true) (d6:decide (t<n)=true) (hl:A5 γ (Aa [x,y])=some Sr) (hx:ev Sr x=.agg xs) (hy:ev Sr y=.agg ys):MO P ro n ops N S0 Q df ((e,⟨some t,.binOp .eql T x y u,ty,pos,after,gd⟩)::l) γ O:=by
 have hc:∀z∈[x,y],ev Sr z=ev γ z:=fun z hz=>Bs fun t ht=>AB hl t (AL (by rw[<-ht];exact hz))
 have fE:∀z∈[x,y],ev (only (Oper.looksAt ops ⟨some t,.binOp .eql T x y u,ty,pos,after,gd⟩) γ) z=ev γ z:=fun z hz=>Bf (o:=⟨some t,.binOp .eql T x y u,ty,pos,after,gd⟩) (by simp at hz;rcases hz with rfl|rfl<;>simp[Op.operands])
 refine .inl ⟨.bool r,⟨d6,.inl ⟨by rw[Ar];exact hw,(fun c e=>by cases e),Ag (fun c e=>by cases e),fun U' hZ g w a hs hT=>?_⟩⟩,h⟩;have:=HO (dst:=some t) (ty:=ty) (pos:=pos) (after:=after) (guard:=gd) (u:=u) ht hs hT hE hk (by rw[fE x j1,<-hc x j1];exact hx) (by rw[fE y j1,<-hc y j1];exact hy) hd false;simpa using this
end
def WS(O:Sig):ar prog 56 [] O (rS (.agg (A7 exB)) O):=by
 refine en func56 ntmps56 ?_;refine gz ?_ [] [0];refine je (fun i hi=>?_);refine gz ?_ [] [0]
 have e:A7 exB=[sl [[sl [],sl [[dI 0]],sl [[dI 0,dI 7]]],[sl [[dI 3]],sl [[dI 1]],sl []],[sl [[dI 4],[dI 3]],sl [],sl [[dI 0,dI 1]]]],dI 2,sl [[dI 1]],sl [[dI 1,dI 0,dI 2,dI 0,sl [],dI 3,dI 0,sl [],dI 0],[dI 2,dI 0,dI 3,dI 0,sl [[dI 0]],dI 0,dI 5,sl [],dI 3]],sl [[dI 17,dI 0,sl [[dI 1]]],[dI 4,dI 0,sl [[dI 2]]],[dI 3,dI 0,sl []],[dI 9,dI 0,sl [[dI 4],[dI 5]]],[dI 3,dI 0,sl []],[dI 3,dI 1,sl []],[dI 5,dI 0,sl [[dI 7]]],[dI 6,dI 5,sl []]],dI 6]:=by
  simp[exB,cI,EJ,j8.op,j8.arg,j8.path,j8.jM,j8.n,j8.ag]
 refine jp (U':=O) ⟨rfl,rfl⟩ (hw:=?_);rw[e];refine O3 ?_
 repeat' (first|exact Ac _|exact Ak _ (.inl rfl)|exact trivial|refine Kv _ ?_|refine⟨?_,?_⟩)
@[reducible,instance] def a56:=fun O=>ah0 (@WS O)
def Xe(O:Sig):Fd prog 16 [] O (rS (.bool true) O):=by
 have w3:exB.wt<=1073741824:=by decide +kernel
 have gv:(Cp exB exC).isSome=true:=by
  have h:=V3;cases e:Cp exB exC with
  |none=>rw[e]at h;cases h
  |some W=>rfl
 have gn:=fun O:Sig=>Xc exB O w3;have gm:=fun O:Sig=>X4 exB exC O w3 (by decide) (by decide)
 have gk:=fun O:Sig=>X2 exC O (by decide) (by decide)
 have gj:=fun O:Sig=>X1 exC O (by decide) (by decide)
 rw[ex_code,Xl]at gn;rw[V3,gv]at gm;rw[Xk]at gk gj;have i18:∀O,Ans 18 [.agg (A7 exB)] O True (.tup [.agg (cCPg exC),dI 0]):=fun O=>ah0 (gn O);have i25:∀O,Ans 25 [.agg (A7 exB),.agg (cCPg exC)] O True (.tup [sl (exL.map jm),dI 0]):=fun O=>ah0 (gm O);have i36:∀O,Ans 36 [.agg (cCPg exC)] O True (.tup [.str (Kb exC),dI 0]):=fun O=>ah0 (gk O);refine enW func16 ntmps16 ?_;refine gz ?_ o16;refine EI (gj O) (fun d S1 hr=>?_);obtain⟨hd,rfl⟩:=hr;cases hd;refine gf (gi V0 (gi PC XZ)) ?_ o16;refine neqS _ (decide ((⟨0,2⟩:jO)=⟨0,2⟩)) PD Pl (Xn ⟨0,2⟩ ⟨0,2⟩) ?_;refine gf (gi V0 (gi PC XZ)) ?_ o16;have g1:=fun O:Sig=>HK exB exC [] 9 [] [] .no O w3 (by decide) (by decide) (by decide) j1 (by decide) (by decide)
 have g2:=fun (o:Own) (O:Sig)=>HK exB exC [⟨5,[jZ 1,DS]⟩] 0 [] [vObj 0] o O w3 (by decide) (by decide) (by decide) j1 (by decide) (by decide)
 have g3:=fun O:Sig=>HK exB exC [] 0 [] [jZ 3] .no O w3 (by decide) (by decide) (by decide) j1 (by decide) (by decide)
 rw[ex_go1]at g1;rw[ex_go2]at g2;rw[ex_go3]at g3;have e1:Cl exH1=[dI 2,dI 0,dI 0,dI 0,sl [[dI 3,dI 0]],dI 0,dI 11,sl [],sl [],sl [[dI 5,sl [[dI 1,dI 1],[dI 2,dI 0]]]],sl []]:=rfl;have e2:Cl exH2=[dI 1,dI 1,dI 1,dI 0,sl [],dI 0,dI 0,sl [],sl [],sl [[dI 5,sl [[dI 1,dI 1],[dI 2,dI 0]]]],sl [[dI 2,dI 0,.slice [[dI 1,dI 1]] .clip]]]:=rfl;have e3:Cl exH3=[dI 4,dI 0,dI 0,dI 0,sl [],dI 5,dI 0,sl [],sl [],sl [],sl []]:=rfl;simp only[ba,Option.isSome_some,bu,e1]at g1;simp only[ba,Option.isSome_some,bu,e2]at g2;simp only[ba,Option.isSome_some,bu,e3]at g3;have gQ:=fun (O:Sig)=>HD [vObj 0] [vObj 0] .no .clip O (by decide) (by decide)
 have fA:∀O,ar prog 53 [sl [[dI 3,dI 0]],.slice [[dI 3,dI 0]] .clip] O (rS (.bool true) O):=fun O=>(gQ O).mono fun x U' ⟨h1,h2⟩=>⟨by rw[h1];simp,h2⟩
 refine rtl 73 (.agg (cFr 9 [] [])) ?_ (hw:=Gl ⟨Ac _,Ak _ (.inl rfl),Ak _ (.inl rfl),trivial⟩);refine Vu (g1 S1) (fun d S2 hr=>?_) (fun d S2 hr=>by cases hr.1);obtain⟨hd,rfl⟩:=hr;cases hd
 repeat' first|refine gz ?_|refine DZ (fA _) ?_|refine callPG (fA _) ?_|refine gz ?_ o16|apply gy<;>intro hh
 refine rtl 111 (.agg (cFr 0 [] [vObj 0])) ?_ (hw:=Gl ⟨Ac _,Ak _ (.inl rfl),Ac _,trivial⟩);refine Vu (g2 .no S2) (fun d S3 hr=>?_) (fun d S3 hr=>by cases hr.1);obtain⟨hd,rfl⟩:=hr;cases hd;have g3':∀O,ar prog 13 [.agg (A7 exB),.agg (cCPg exC),.aj,.agg [dI 0,.aj,.slice [[dI 1,dI 3]] .clip]] O (rS (.tup [.agg [dI 4,dI 0,dI 0,dI 0,sl [],dI 5,dI 0,sl [],sl [],sl [],sl []],dI 0]) O):=fun O=>(g3 O).wk ⟨Ac _,Ac _,Ak _ (.inl rfl),Gl ⟨Ac _,Ak _ (.inl rfl),Cc _ _,trivial⟩,trivial⟩;refine gz ?_ (ji 12 o16);refine mix (id:=12) (List.range 12) [9,10] ?_;refine gz ?_ o16;refine moQWR (fun U' _=>(Pz 3 U').mono fun x S'' hx=>⟨hx.1,hx.2 ▸ Sub.refl _⟩) ?_;refine gz ?_ o16;refine moQWR (fun U' _=>(g3' U').mono fun x S'' hx=>⟨hx.1,hx.2 ▸ Sub.refl _⟩) ?_;refine gz ?_ o16;refine MK (fun i12 fO=>?_)
 have fB:Sub S3 ((S3.set i12 (.cells [.int .i64 0,.int .i64 0,.int .i64 0,.int .i64 0,.aj,.int .i64 0,.int .i64 0,.aj,.aj,.aj,.aj])).set i12 (.cells [dI 4,dI 0,dI 0,dI 0,sl [],dI 5,dI 0,sl [],sl [],sl [],sl []])):=fun j o hj=>by
  have:=AF hj fO;rw[w7 _ _ this,w7 _ _ this];exact hj
 refine EL jB tdR (by simp;rfl) fB ?_;simp only[w8];refine gz ?_ o16;refine mo_eqlG jB _ (decide (jZ 1=jZ 1)) Lj KZ (QX (jZ 1) (jZ 1)) ?_ tdR tdR tdR tdR tdR;refine gz ?_ o16;exact fin1 (U':=S3) ⟨rfl,rfl⟩
def f3_spec(p:aw)(c:jD)(j3:List jF)(pos:Int)(jA j7:List jH)(O:Sig)(hp:p.wt<=1073741824)(gb:c.j6.length<=1073741824)(ga:c.jG.length<=1073741824)(f0:j3.length<=1073741824)(fW:∀x∈j3,x.ac.length<=1073741824)(gS:jA.length<=1048576)(gZ:j7.length<=1048576):Fd prog 3 [.agg (A7 p),.agg (cCPg c),.agg (sl (j3.map cTh)::cFr pos jA j7)] O fun x _=>x=.ret (.bool true):=by
 have gq:=fun O:Sig=>HK p c j3 pos jA j7 .no O hp gb ga f0 fW j0 j0;have go:=fun O:Sig=>Xg p c j3 pos jA j7 .no O hp gb ga f0 fW j0 j0;obtain⟨⟨k1,k2,k3,k4,k5⟩,k6,k7⟩:=goC_len (p:=p) (c:=c) (j3:=j3) (pos:=pos) (jA:=jA) (j7:=j7) j0 j0;generalize (goC p (A0 p) c j3 pos jA j7).getD DJ=h at*;generalize (if(goC p (A0 p) c j3 pos jA j7).isSome then(0:Int) else 2)=e at*;have i13:∀O,Ans 13 [.agg (A7 p),.agg (cCPg c),sl (j3.map cTh),.agg (cFr pos jA j7)] O True (.tup [.agg [dI h.kind,dI h.val.kind,dI h.val.n,dI h.gen,sl (h.args.map j5),dI h.fin,dI h.pos,sl (h.jA.map j5),sl (h.j7.map j5),sl (h.j3.map cTh),sl (h.jW.map cEv)],dI e]):=fun O=>ah0 (gq O);have i14:∀O,Ans 14 [.agg (A7 p),.agg (cCPg c),sl (j3.map cTh),.agg (cFr pos jA j7)] O True (.tup [.agg [dI h.kind,dI h.val.kind,dI h.val.n,dI h.gen,sl (h.args.map j5),dI h.fin,dI h.pos,sl (h.jA.map j5),sl (h.j7.map j5),sl (h.j3.map cTh),sl (h.jW.map cEv)],dI e]):=fun O=>ah0 (go O)
 have i15:∀O,Ans 15 [.agg [dI h.kind,dI h.val.kind,dI h.val.n,dI h.gen,sl (h.args.map j5),dI h.fin,dI h.pos,sl (h.jA.map j5),sl (h.j7.map j5),sl (h.j3.map cTh),sl (h.jW.map cEv)],.agg [dI h.kind,dI h.val.kind,dI h.val.n,dI h.gen,sl (h.args.map j5),dI h.fin,dI h.pos,sl (h.jA.map j5),sl (h.j7.map j5),sl (h.j3.map cTh),sl (h.jW.map cEv)]] O True (.bool true):=fun O=>ah0 (Xf h O j0 j0 j0 j0 j0 (fun x hx=>by have:=k7 x hx;omega) (fun x hx=>by have:=k5 x hx;omega))
 clear gq go;refine enW func3 ntmps3 ?_;refine gz ?_;refine callXRG (Xe O) (fun d S3 hr=>?_) (fun d S3 hr=>by cases hr.1);obtain⟨hd,rfl⟩:=hr;cases hd;refine gz ?_;exact fin1 (U':=S3) rfl (hZ:=Sub.refl _)
end Go.DL
