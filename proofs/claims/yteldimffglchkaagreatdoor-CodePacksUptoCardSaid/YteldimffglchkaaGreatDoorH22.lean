/- A part of the proof. -/
import Derived.Shelf.Strings.Builder1
import Derived.Test.YteldimffglchkaaGreatDoorProg
import Derived.Shelf.LaysM
import Derived.Shelf.Strconv.Itoa3
import Derived.Test.YteldimffglchkaaGreatDoorH21
import Derived.Test.YteldimffglchkaaGreatDoorH20
import Derived.Test.YteldimffglchkaaGreatDoorH14
import Derived.Test.YteldimffglchkaaGreatDoorH10
import Derived.Test.YteldimffglchkaaGreatDoorH19
set_option linter.all false
set_option linter.unusedVariables false
namespace Go.Proofs
open Go.Proofs.Tryz
open Go.RowKit Go.Shelf
theorem sizeB:(prog.info? 159).map (·.size)=some 2:=by kernel_rfl
set_option maxHeartbeats 1000000 in
set_option maxRecDepth 100000 in
theorem IY(b:Nat)(w:World)(h0:w.cell? ⟨b,0,none⟩=some (.pointer (some ⟨b,0,none⟩))):
  Calls prog 161 #[.pointer (some ⟨b,0,none⟩)] w fun e w'=>e=.returned (.tuple #[])/\w'=w:=by
 obtain⟨j,hj,_⟩:=Option.map_eq_some_iff.1 sizeB
 have mixed:prog.follows .mixedOrders=true:=by kernel_rfl
 have t72:=underlying159;have a72:=isAgg159;have z72:=sizeOf159;have v72:=zeroValue159;have u72:=run_underlying underlying159
 have t70:=underlying157;have a70:=isAgg157;have z70:=sizeOf157;have v70:=zeroValue157;have u70:=run_underlying underlying157
 have t4:=underlying4;have a4:=isAgg4;have z4:=sizeOf4;have v4:=zeroValue4;have u4:=run_underlying underlying4
 go_enter func161,ntmps161
 go_wp2
 rw[Lib.run_neq_ptr_same w _ underlying157 hj]
 go_wp2
 go_end0
 exact⟨rfl,rfl⟩
set_option maxHeartbeats 1000000 in
set_option maxRecDepth 100000 in
theorem Ix(b:Nat)(w:World)(h0:w.cell? ⟨b,0,none⟩=some (.pointer none))(bi:w.shape? b=some (159,2))(b9:w.frozen? ⟨b,0,none⟩=false):
  Calls prog 161 #[.pointer (some ⟨b,0,none⟩)] w fun e w'=>e=.returned (.tuple #[])/\w'=w.setCell ⟨b,0,none⟩ (.pointer (some ⟨b,0,none⟩)):=by
 obtain⟨j,hj,bH⟩:=Option.map_eq_some_iff.1 sizeB
 have mixed:prog.follows .mixedOrders=true:=by kernel_rfl
 have t72:=underlying159;have a72:=isAgg159;have z72:=sizeOf159;have v72:=zeroValue159;have u72:=run_underlying underlying159
 have t70:=underlying157;have a70:=isAgg157;have z70:=sizeOf157;have v70:=zeroValue157;have u70:=run_underlying underlying157
 have t4:=underlying4;have a4:=isAgg4;have z4:=sizeOf4;have v4:=zeroValue4;have u4:=run_underlying underlying4
 have t301:=underlying301;have a301:=isAgg301;have z301:=sizeOf301;have v301:=zeroValue301;have u301:=run_underlying underlying301
 have aH:liesAt prog prog.depth 159 (2 / prog.cellsOf 159) 0 159 1=true:=by kernel_rfl
 go_enter func161,ntmps161
 go_wp2
 rw[Lib.run_to_unsafe w ⟨b,0,none⟩ underlying157 underlying301 hj (by rw[bH];decide) bi (Nat.zero_lt_succ 1)]
 simp only[Result.andThen]
 rw[Oper.upon_value]
 go_wp2
 rw[run_callFunc_extern func232 (by kernel_rfl) (by kernel_rfl) (by kernel_rfl) (e:=Extern.AbiNoEscape.same) (by kernel_rfl)]
 rw[Lib.run_noEscape]
 simp only[Result.andThen]
 rw[Oper.upon_value]
 go_wp2
 rw[Lib.run_from_unsafe w ⟨b,0,none⟩ underlying301 underlying157 hj bi aH]
 simp only[Result.andThen]
 rw[Oper.upon_value]
 go_wp2
 go_end0
 exact⟨rfl,rfl⟩
set_option maxHeartbeats 1000000 in
set_option maxRecDepth 100000 in
theorem J0(b g cap:Nat)(p:Value)(ty:TypeId)(l:List UInt8)(cur:Array Value)(w:World)(h0:l≠[])(bO:w.heap[b]? = some (.cells #[p,.slice (some ⟨g,0,none⟩) l.length cap] ty (0,0)))(hg:w.heap[g]? = some (.cells cur 5 (0,0)))(bU:l.length<=cap)(bc:l.length<=cur.size)(bS:l.length<=9223372036854775807)(bb:∀j x,l[j]? = some x->w.cell? ⟨g,j,none⟩=some (.int .u8 x.toNat)):
  Calls prog 86 #[.pointer (some ⟨b,0,none⟩)] w fun e w'=>e=.returned (.string ⟨l.toArray⟩)/\w'=w.drew.freeze ⟨g,0,none⟩ l.length:=by
 have bE:l.length≠0:=by simpa using h0
 have c1:w.drew.cell? ⟨b,1,none⟩=some (.slice (some ⟨g,0,none⟩) l.length cap):=by
  have:w.drew.heap[b]? = some (.cells #[p,.slice (some ⟨g,0,none⟩) l.length cap] ty (0,0)):=bO
  rw[Lib.cell_of_heap this];rfl
 have cg:(Builtin.unsafeSliceData_ #[96] 246 #[.slice (some ⟨g,0,none⟩) l.length cap]).run prog w.drew=.ok (.pointer (some ⟨g,0,none⟩)) w.drew:=
  Lib.run_unsafeSliceData_row _ _ _ _ _ _ (by omega)
 have cf:(Builtin.unsafeString_ #[246,3] 9 #[.pointer (some ⟨g,0,none⟩),.int .i64 l.length]).run prog w.drew=.ok (.string ⟨l.toArray⟩) (w.drew.freeze ⟨g,0,none⟩ l.length):=by
  refine Lib.run_unsafeString_row w.drew 246 3 9 5 underlying246 (by kernel_rfl) g cur.size (by have bJ:w.drew.heap[g]? = some (.cells cur 5 (0,0)):=hg;simp[World.shape?, bJ]) l h0 bc bS ?_
  intro j x hj
  have e:((⟨g,0,none⟩:Addr).add j)=⟨g,j,none⟩:=by unfold Addr.add;split<;>simp_all
  rw[e];exact bb j x hj
 have mixed:prog.follows .mixedOrders=true:=by kernel_rfl
 have t72:=underlying159;have a72:=isAgg159;have z72:=sizeOf159;have v72:=zeroValue159;have u72:=run_underlying underlying159
 have t70:=underlying157;have a70:=isAgg157;have z70:=sizeOf157;have v70:=zeroValue157;have u70:=run_underlying underlying157
 have t37:=underlying96;have a37:=isAgg96;have z37:=sizeOf96;have v37:=zeroValue96;have u37:=run_underlying underlying96
 have t127:=underlying246;have a127:=isAgg246;have z127:=sizeOf246;have v127:=zeroValue246;have u127:=run_underlying underlying246
 have t3:=underlying3;have a3:=isAgg3;have z3:=sizeOf3;have v3:=zeroValue3;have u3:=run_underlying underlying3
 have t9:=underlying9;have a9:=isAgg9;have z9:=sizeOf9;have v9:=zeroValue9;have u9:=run_underlying underlying9
 have t5:=underlying5;have a5:=isAgg5;have z5:=sizeOf5;have v5:=zeroValue5;have u5:=run_underlying underlying5
 go_enter func86,ntmps86
 go_wp2
 go_region_o
 all_goals (go_wp2;go_ret;exact⟨rfl,rfl⟩)
end Go.Proofs
namespace Go.Proofs
open Go.Proofs.Tryz
open Go.Shelf
def laysM171_ren:Go.Shelf.Ren:=⟨fun|171=>84|243=>162|246=>233|283=>272|284=>273|285=>274|286=>275|129=>316|317=>315|318=>317|319=>318|320=>319|337=>356|338=>357|n=>n,fun|3=>3|9=>9|2=>2|4=>4|171=>337|0=>0|53=>338|37=>96|5=>5|173=>341|212=>389|51=>373|20=>20|213=>390|46=>320|232=>452|233=>453|n=>n,fun|17=>1|18=>6|19=>7|n=>n⟩
theorem laysM171:Go.Proofs.LaysM.n171 prog laysM171_ren:={
 mixed:=by kernel_rfl
 f129:=func316.trans (congrArg some (by kernel_rfl))
 f171:=func84.trans (congrArg some (by kernel_rfl))
 f243:=func162.trans (congrArg some (by kernel_rfl))
 f246:=func233.trans (congrArg some (by kernel_rfl))
 f283:=func272.trans (congrArg some (by kernel_rfl))
 f284:=func273.trans (congrArg some (by kernel_rfl))
 f285:=func274.trans (congrArg some (by kernel_rfl))
 f286:=func275.trans (congrArg some (by kernel_rfl))
 f317:=func315.trans (congrArg some (by kernel_rfl))
 f318:=func317.trans (congrArg some (by kernel_rfl))
 f319:=func318.trans (congrArg some (by kernel_rfl))
 f320:=func319.trans (congrArg some (by kernel_rfl))
 f337:=func356.trans (congrArg some (by kernel_rfl))
 f338:=func357.trans (congrArg some (by kernel_rfl))
 t0:=underlying0
 a0:=isAgg0
 z0:=sizeOf0
 v0:=zeroValue0
 t2:=underlying2
 a2:=isAgg2
 z2:=sizeOf2
 v2:=zeroValue2
 t3:=underlying3
 a3:=isAgg3
 z3:=sizeOf3
 v3:=zeroValue3
 t4:=underlying4
 a4:=isAgg4
 z4:=sizeOf4
 v4:=zeroValue4
 t5:=underlying5
 a5:=isAgg5
 z5:=sizeOf5
 v5:=zeroValue5
 t9:=underlying9
 a9:=isAgg9
 z9:=sizeOf9
 v9:=zeroValue9
 t20:=underlying20
 a20:=isAgg20
 z20:=sizeOf20
 v20:=zeroValue20
 t37:=underlying96
 a37:=isAgg96
 z37:=sizeOf96
 v37:=zeroValue96
 t46:=underlying320
 a46:=isAgg320
 z46:=sizeOf320
 v46:=zeroValue320
 t51:=underlying373
 a51:=isAgg373
 z51:=sizeOf373
 v51:=zeroValue373
 t53:=underlying338
 a53:=isAgg338
 z53:=sizeOf338
 v53:=zeroValue338
 t171:=underlying337
 a171:=isAgg337
 z171:=sizeOf337
 v171:=zeroValue337
 t173:=underlying341
 a173:=isAgg341
 z173:=sizeOf341
 v173:=zeroValue341
 t212:=underlying389
 a212:=isAgg389
 z212:=sizeOf389
 v212:=zeroValue389
 t213:=underlying390
 a213:=isAgg390
 z213:=sizeOf390
 t232:=underlying452
 a232:=isAgg452
 z232:=sizeOf452
 v232:=zeroValue452
 t233:=underlying453
 a233:=isAgg453
 z233:=sizeOf453
 v233:=zeroValue453
 g17:=by kernel_rfl
 g18:=by kernel_rfl
 g19:=by kernel_rfl
 i0:=by kernel_rfl
 i2:=by kernel_rfl
 i3:=by kernel_rfl
 i4:=by kernel_rfl
 i5:=by kernel_rfl
 i9:=by kernel_rfl
 i20:=by kernel_rfl
 i37:=by kernel_rfl
 i46:=by kernel_rfl
 i51:=by kernel_rfl
 i53:=by kernel_rfl
 i171:=by kernel_rfl
 i173:=by kernel_rfl
 i212:=by kernel_rfl
 i232:=by kernel_rfl
 i233:=by kernel_rfl
 m17:=by kernel_rfl
 m18:=by kernel_rfl
 m19:=by kernel_rfl }
open Go.RowKit Go.Sort Go.Lib in
theorem strconv_Itoa (n : Int) (h0 : -9223372036854775808 <= n) (h1 : n <= 9223372036854775807) (w : World) (aq : Lib.TabIs prog w "internal/strconv.uint64pow10" .u64 Lib.pow10Tab) :
  Calls prog 84 #[.int .i64 n] w fun e w'=>e=.returned (.string ⟨(Lib.itoa n).toArray⟩) /\ ∃k os,w'=grow (w.drewN k) os:=Any.strconv_Itoa laysM171 n h0 h1 w aq
end Go.Proofs
namespace Go.DL
open Go.Proofs.Tryz
open Go Go.Proofs
set_option maxHeartbeats 8000000
theorem Ae{O:Sig}{a b:Nat}{o:DObj}(h:O a=some o)(k:O b=none):a≠b:=fun e=>by rw[e,k]at h;cases h
theorem ne_some{O:Sig}{a b:Nat}{o x:DObj}(h:O a=some o)(k:O b=some x)(hx:o≠x):a≠b:=fun e=>by rw[e,k]at h;cases h;exact hx rfl
theorem RowAt.sref{O:Sig}{sz:Nat}{st:MR}{es:List (List D)}(h:RowAt O sz st es)(hne:es≠[]): ∃r c, ∀n,mD st n=.sref r 0 n c:=by
 rcases st with _|⟨i,cap,rest⟩
 ·exact absurd h hne
 ·exact⟨i,cap,fun _=>rfl⟩
def BK(ib:Nat)(O:Sig)(st:MR)(U':Sig)(st':MR):Prop:= ∀j o,O j=some o->j≠ib->¬Fm st j->U' j=some o /\ ¬Fm st' j
theorem BK.trans{ib:Nat}{O S1 S2:Sig}{st st1 st2:MR}(h:BK ib O st S1 st1)(k:BK ib S1 st1 S2 st2):BK ib O st S2 st2:=fun j o hj hi hn=>k j o (h j o hj hi hn).1 hi (h j o hj hi hn).2
theorem BK.refl(ib:Nat)(O:Sig)(st:MR):BK ib O st O st:=fun j o h _ hn=>⟨h,hn⟩
theorem BK.fresh{ib:Nat}{O S1:Sig}{st st1:MR}{k:Nat}{o:DObj}(h:BK ib O st S1 st1)(hk:S1 k=none):BK ib O st (S1.set k o) st1:=fun j x hj hi hn=>by
 obtain⟨h1,h2⟩:=h j x hj hi hn
 exact⟨by rw[w7 _ _ (Ae h1 hk)];exact h1,h2⟩
structure BlkS(ib:Nat)(s m:D)(st:MR)(ins:List CIns)(O:Sig):Prop where
 env:O ib=some (.cells [mD st ins.length,s,m])
 row:RowAt O 2 st (ins.map cIns)
 nr:¬Fm st ib
section
variable {ib:Nat}{s m:D}{st:MR}{ins:List CIns}{O:Sig}
theorem BlkS.notrow(h:BlkS ib s m st ins O){k:Nat}(hk:O k=none): ¬Fm st k:=fun hr=>by
 obtain⟨cs,hc⟩:=h.row.cells hr;rw[hk]at hc;cases hc
theorem BlkS.fresh(h:BlkS ib s m st ins O){k:Nat}{o:DObj}(hk:O k=none):BlkS ib s m st ins (O.set k o):=
 ⟨by rw[w7 _ _ (Ae h.env hk)];exact h.env,h.row.keep fun j x hj hr=>by rw[w7 _ _ fun e=>h.notrow hk (by rw[<-e];exact hr)];exact hj,h.nr⟩
theorem CP(op a:Int)(hn:ins.length<=1000000)(hB:BlkS ib s m st ins O):DCall prog 132 [.ptr ib 0,dI op,dI a] O fun x U'=>x=.ret (.tup []) /\ ∃st',BlkS ib s m st' (ins++[⟨op,a⟩]) U'/\BK ib O st U' st':=by
 obtain⟨q1,q2,q3⟩:=hB
 refine en func132 ntmps132 ?_
 refine gf q1 ?_
 refine rapp (es:=ins.map cIns) (fun st2 S2 aG ai=>?_) (hm:=q2)
 obtain⟨v1,v2⟩:=ai _ _ q1 q3
 obtain⟨rr,rc,bm⟩:=aG.sref (by simp)
 have a8:=bm (ins.length+1)
 refine gf (gi v1 a8) ?_
 have bC:(ins++[(⟨op,a⟩:CIns)]).map cIns=ins.map cIns++[[dI op,dI a]]:=by simp[cIns]
 refine DZ (U':=S2.set ib (.cells [.sref rr 0 (ins.length+1) rc,s,m])) ?_
 refine⟨rfl,st2,⟨by rw[w6,bm];simp,?_,v2⟩,fun j o hj bq hr=>?_⟩
 ·rw[bC]
  exact aG.keep fun j x hj hr=>by rw[w7 _ _ fun e=>v2 (by rw[<-e];exact hr)];exact hj
 ·obtain⟨h3,h4⟩:=ai j o hj hr
  exact⟨by rw[w7 _ _ bq];exact h3,h4⟩
abbrev cLater(ib k:Nat):D:=.func (.func 259) [] [.cptr [.ptr ib 0] 0,.cptr [dI k] 0]
theorem Lz(op:Int)(hn:ins.length<=1000000)(hB:BlkS ib s m st ins O):DCall prog 207 [.ptr ib 0,dI op] O fun x U'=>x=.ret (cLater ib ins.length) /\ ∃st',BlkS ib s m st' (ins++[⟨op,0⟩]) U'/\BK ib O st U' st':=by
 have aN:=hB
 obtain⟨q1,q2,q3⟩:=hB
 refine en func207 ntmps207 ?_
 cases aV:st with
 |none=>
  subst aV
  have h0:ins=[]:=by have:ins.map cIns=[]:=q2;simpa using this
  subst h0
  simp only[mD]at q1
  refine gf q1 ?_
  refine A4 (CP op 0 hn aN) (fun d U' hr=>?_) (fun d U' hr=>by cases hr.1)
  obtain⟨h1,st',bf,hK⟩:=hr
  cases h1
  refine gz ?_
  refine fin1 (U':=U') ⟨rfl,st',bf,hK⟩
 |some x=>
  obtain⟨rr,rc,rest⟩:=x
  subst aV
  simp only[mD]at q1
  refine gf q1 ?_
  refine A4 (CP op 0 hn aN) (fun d U' hr=>?_) (fun d U' hr=>by cases hr.1)
  obtain⟨h1,st',bf,hK⟩:=hr
  cases h1
  refine gz ?_
  refine fin1 (U':=U') ⟨rfl,st',bf,hK⟩
def setA(l:List CIns)(k:Nat)(a:Int):List CIns:=l.take k++((l[k]?).map fun x=>(⟨x.op,a⟩:CIns)).toList++l.drop (k+1)
theorem Lt(k:Nat)(hk:k<ins.length)(hn:ins.length<=1000000)(hB:BlkS ib s m st ins O):DCall prog 259 [.cptr [.ptr ib 0] 0,.cptr [dI k] 0] O fun x U'=>x=.ret (.tup []) /\ ∃st',BlkS ib s m st' (setA ins k ins.length) U'/\BK ib O st U' st':=by
 obtain⟨q1,q2,q3⟩:=hB
 rcases st with _|⟨r,rc,rest⟩
 ·have:ins.map cIns=[]:=q2
  simp at this;subst this;simp at hk
 have hx:ins=ins.take k++ins[k]::ins.drop (k+1):=by simp
 have aX:setA ins k ins.length=ins.take k++(⟨(ins[k]).op,ins.length⟩:CIns)::ins.drop (k+1):=by unfold setA;rw[List.getElem?_eq_getElem hk];simp
 have aY:O r=some (.cells ((ins.map cIns).flatten++rest))/\((ins.map cIns).flatten++rest).length=rc*2/\(ins.map cIns).length<=rc/\_:=q2
 obtain⟨w1,w2,w3,w4⟩:=aY
 have bh:((ins.take k).map cIns).flatten.length=k*2:=by rw[Av (sz:=2) (fun e he=>by obtain⟨x,_,rfl⟩:=List.mem_map.1 he;rfl)];simp;omega
 have bc:(ins.map cIns).flatten++rest=((ins.take k).map cIns).flatten++dI (ins[k]).op::dI (ins[k]).a::(((ins.drop (k+1)).map cIns).flatten++rest):=by
  have h0:ins.map cIns=(ins.take k).map cIns++cIns ins[k]::(ins.drop (k+1)).map cIns:=by rw[<-List.map_cons,<-List.map_append,<-hx]
  rw[h0];simp only[List.flatten_append,List.flatten_cons,List.append_assoc,cIns,List.cons_append,List.nil_append]
 have aK:((setA ins k ins.length).map cIns).flatten++rest=((ins.take k).map cIns).flatten++dI (ins[k]).op::dI (ins.length:Int)::(((ins.drop (k+1)).map cIns).flatten++rest):=by
  rw[aX];simp only[List.map_append,List.map_cons,List.flatten_append,List.flatten_cons,List.append_assoc,cIns,List.cons_append,List.nil_append]
 have hlen:(setA ins k ins.length).length=ins.length:=by rw[aX];simp;omega
 rw[bc]at w1 w2
 generalize hA:((ins.take k).map cIns).flatten=A at*
 generalize hM:((ins.drop (k+1)).map cIns).flatten++rest=M at*
 have cd:A.length+(2+M.length)=rc*2:=by simp only[List.length_append,List.length_cons]at w2;omega
 have bX:k<rc:=by rw[List.length_map]at w3;omega
 have bN:ib≠r:=fun h=>q3 h
 have q1':O ib=some (.cells [.sref r 0 ins.length rc,s,m]):=q1
 have aV:(A++dI (ins[k]).op::dI (ins[k]).a::M).set (k*2+1) (dI (ins.length:Int))=A++dI (ins[k]).op::dI (ins.length:Int)::M:=by
  rw[<-bh,List.set_append_right _ _ (by omega)];simp
 have bA:List.take (k*2+1) (A++dI ins[k].op::dI ins[k].a::M)=A++[dI ins[k].op]:=by rw[<-bh,List.take_length_add_append];rfl
 have bM:List.drop (k*2+1+1) (A++dI ins[k].op::dI ins[k].a::M)=M:=by rw[<-bh,Nat.add_assoc,List.drop_length_add_append];rfl
 have bt:(setA ins k ins.length).map cIns=(ins.take k).map cIns++cIns ⟨(ins[k]).op,ins.length⟩::(ins.drop (k+1)).map cIns:=by rw[aX];simp
 refine en func259 ntmps259 ?_
 refine gf (gi q1' w1) ?_ o259
 rw[bA,bM]
 refine DZ (U':=O.set r (.cells (A++[dI ins[k].op]++dI (ins.length:Int)::M))) ⟨rfl,some (r,rc,rest),⟨?_,⟨?_,?_,?_,?_⟩,q3⟩,fun j o hj bq hr=>⟨by rw[w7 _ _ fun e=>hr e];exact hj,hr⟩⟩
 ·rw[w7 _ _ bN,q1',hlen];rfl
 ·rw[w6,aK,List.append_assoc];rfl
 ·rw[aK];simp only[List.length_append,List.length_cons];omega
 ·rw[List.length_map,hlen];rw[List.length_map]at w3;exact w3
 ·intro z hz;obtain⟨x,_,rfl⟩:=List.mem_map.1 hz;rfl
end
theorem nn2{O:Sig}{a b:Nat}{o:DObj}(h:O a=some o)(k:O b=none):a≠b:=fun e=>by rw[e,k]at h;cases h
theorem MC:prog.globals.size≠0:=by
 have h:prog.globals.size=8:=by kernel_rfl
 omega
theorem Kr(n:Int)(O:Sig)(h0 : -9223372036854775808<=n)(h1:n<=9223372036854775807):E5 prog 84 [dI n] O (rS (.str (Lib.itoa n)) O):=by
 refine⟨by rw[Ai];decide,BC func84 (by rfl) (by rfl),fun g w vs r hr hs ha=>?_⟩
 obtain rfl:r=_:=hr
 obtain⟨v,r,rfl,hv,rfl⟩:=ha
 obtain rfl:v=.int .i64 n:=hv
 have aq : Lib.TabIs prog w "internal/strconv.uint64pow10" .u64 Lib.pow10Tab := by
  rcases hs.tab w hs.keep with h|⟨h,_⟩
  ·exact absurd h MC
  ·exact h
 refine(D7 (strconv_Itoa n h0 h1 w aq)).mono ?_
 rintro e w' ⟨rfl,k,os,rfl⟩
 refine⟨g,.ret (.str (Lib.itoa n)),O,.refl g,?_,⟨_,rfl,rfl⟩,rfl,rfl⟩
 refine hs.later (fun k x hx=>?_) rfl
 have hk:k<w.heap.size:=(Array.getElem?_eq_some_iff.1 hx).1
 show(w.heap++os)[k]? = some x
 rw[Array.getElem?_append_left hk];exact hx
theorem Ml{w:Go.World}{b:Nat}{vs:Array Value}{ty:TypeId}{x:Value}(h:w.heap[b]? = some (.cells vs ty (0,0))):w.setCell ⟨b,0,none⟩ x=setB w b (.cells (vs.setIfInBounds 0 x) ty (0,0)):=by
 have e:w.heap.setIfInBounds b (.cells (vs.setIfInBounds 0 x) ty (0,0))=(w.setCell ⟨b,0,none⟩ x).heap:=by
  unfold World.setCell
  apply Array.ext_getElem?
  intro k
  by_cases hk:b=k
  ·subst hk
   have hb:b<w.heap.size:=(Array.getElem?_eq_some_iff.1 h).1
   rw[Array.getElem?_setIfInBounds_self_of_lt hb,Array.getElem?_modify,if_pos rfl,h];rfl
  ·simp[Array.getElem?_modify,hk]
 unfold setB
 rw[e];rfl
theorem OL(ib:Nat)(v:D)(O:Sig)(h:O ib=some (.tcells 159 [.nilp,v])):E5 prog 161 [.ptr ib 0] O fun x U'=>x=.ret (.tup [])/\U'=O.set ib (.cells [.ptr ib 0,v]):=by
 refine⟨by rw[Ai];decide,BC func161 (by rfl) (by rfl),fun g w vs r hr hs ha=>?_⟩
 obtain rfl:r=_:=hr
 obtain⟨pv,r,rfl,⟨b,hb,rfl⟩,rfl⟩:=ha
 obtain⟨b',vs,ak,aa,ag⟩:=hs.obj ib _ h
 obtain rfl:b'=b:=by rw[hb]at ak;cases ak;rfl
 obtain⟨v0,r0,aE,h0,v1,r1,rfl,h1,rfl⟩:=ag
 obtain rfl:v0=.pointer none:=h0
 obtain rfl:vs=#[.pointer none,v1]:=by apply Array.ext';simpa using aE
 refine(D7 (Ix b' w (by simp[World.cell?, aa]) (by simp[World.shape?, aa]) (by simp[World.frozen?, aa]))).mono ?_
 rintro e w' ⟨rfl,rfl⟩
 refine⟨g,.ret (.tup []),_,.refl g,?_,⟨_,rfl,[],rfl,rfl⟩,rfl,rfl⟩
 rw[Ml aa]
 refine hs.setAny h rfl rfl hb aa ⟨b',_,159,hb,Ef aa,?_⟩
 exact⟨_,_,rfl,⟨b',hb,rfl⟩,_,_,rfl,h1,rfl⟩
theorem OK(ib:Nat)(v:D)(O:Sig)(h:O ib=some (.cells [.ptr ib 0,v])):E5 prog 161 [.ptr ib 0] O (rS (.tup []) O):=by
 refine⟨by rw[Ai];decide,BC func161 (by rfl) (by rfl),fun g w vs r hr hs ha=>?_⟩
 obtain rfl:r=_:=hr
 obtain⟨pv,r,rfl,⟨b,hb,rfl⟩,rfl⟩:=ha
 obtain⟨b',vs,ty,ak,aa,ag⟩:=hs.obj ib _ h
 obtain rfl:b'=b:=by rw[hb]at ak;cases ak;rfl
 obtain⟨v0,r0,aE,⟨b2,bw,rfl⟩,v1,r1,rfl,h1,rfl⟩:=ag
 obtain rfl:b2=b':=by rw[hb]at bw;cases bw;rfl
 obtain rfl:vs=#[.pointer (some ⟨b2,0,none⟩),v1]:=by apply Array.ext';simpa using aE
 refine(D7 (IY b2 w (by simp[World.cell?, aa]))).mono ?_
 rintro e w' ⟨rfl,rfl⟩
 exact⟨g,.ret (.tup []),_,.refl g,hs,⟨_,rfl,[],rfl,rfl⟩,rfl,rfl⟩
def BldS(ib:Nat)(S0:Sig)(bs:List UInt8)(O:Sig):Prop:=
 Sub S0 O/\S0 ib=none/\((bs=[]/\O ib=some (.tcells 159 [.nilp,.nils])) \/ ∃r:BR,O ib=some (.cells [.ptr ib 0,r.d bs.length])/\BRAt 5 O r bs /\ ¬r.is ib /\ ∀j,r.is j->S0 j=none)
theorem BRAt.set{e:Nat}{O:Sig}{r:BR}{bs:List UInt8}(h:BRAt e O r bs){i:Nat}{o:DObj}(hi:¬r.is i):BRAt e (O.set i o) r bs:=by
 rcases r with _|⟨k,c,cs⟩
 ·exact h
 ·exact⟨by rw[w7 _ _ fun e=>hi e.symm];exact h.1,h.2⟩
theorem bapp{ro:Ro}{n:Nat}{ops:Array Oper}{Q:DX->St->Prop}{df:List DDf}{rest:List Oper}{γ Sr:Fr}{O:Sig}{t:Nat}{ty:TypeId}{pos:String}{after:Array Edge}{s x:Operand}{bs str:List UInt8}{r:BR}
  (h:∀r' U',BRAt 5 U' r' (bs++str)->(∀j o,O j=some o->¬r.is j->U' j=some o /\ ¬r'.is j)->DOps prog ro n ops Q rest ⟨(t,r'.d (bs++str).length)::γ,U',df⟩) (hm:BRAt 5 O r bs) (hb:bs.length+str.length<=140737488355328)
  (hl:A0 γ (A5 [s,x])=some Sr:=by exact tdR) (h1:ev Sr s=r.d bs.length:=by exact tdR) (h2:ev Sr x=.str str:=by exact tdR) (aF:decide (t<n)=true:=by exact tdR) :
  DOps prog ro n ops Q (⟨some t,.call { callee:=.builtin .append,args:= #[s,x],argTypes:= #[96,9] },ty,pos,after,none⟩::rest) ⟨γ,O,df⟩:=by
 obtain⟨e1,e2⟩:=evs hl
 exact Sn Ac (by simpa using aF) (by simp<;>rfl) (by simp<;>rfl) (by simp) (by simp) (by simp) (by rw[<-e1];exact h1) hm (by rw[<-e2];exact h2) hb h
theorem En(ib:Nat)(S0:Sig)(bs s:List UInt8)(O:Sig)(hB:BldS ib S0 bs O)(hb:bs.length+s.length<=1000000000):E5 prog 83 [.ptr ib 0,.str s] O fun x U'=>x=.ret (.tup [dI s.length,.niliface])/\BldS ib S0 (bs++s) U':=by
 obtain⟨hS,h0,hB⟩:=hB
 refine enW func83 ntmps83 ?_
 rcases hB with⟨rfl,h1⟩|⟨r,h1,h2,h3,h4⟩
 ·refine gz ?_
  refine DC (OL ib _ O h1) (fun d S1 hr=>?_) (fun d S1 hr=>by cases hr.1)
  obtain⟨hd,rfl⟩:=hr
  cases hd
  have u1:(O.set ib (.cells [.ptr ib 0,.nils])) ib=some (.cells [.ptr ib 0,.nils]):=w6 ..
  refine gf u1 ?_
  refine bapp (bs:=[]) (str:=s) (r:=none) (fun r' S2 k1 k2=>?_) rfl (by simp at hb⊢; omega)
  obtain⟨u2,u3⟩:=k2 _ _ u1 id
  have ae:BldS ib S0 ([]++s) (S2.set ib (.cells [.ptr ib 0,r'.d ([]++s).length])):=by
   refine⟨fun j o hj=>?_,h0,.inr ⟨r',w6 ..,?_,u3,fun j hj=>?_⟩⟩
   ·have aC:j≠ib:=nn2 hj h0
    rw[w7 _ _ aC]
    exact(k2 j o (by rw[w7 _ _ aC];exact hS j o hj) id).1
   ·exact k1.set u3
   ·cases aD:S0 j with
    |none=>rfl
    |some o=>exact absurd hj (k2 j o (by rw[w7 _ _ (nn2 aD h0)];exact hS j o aD) id).2
  rcases r' with _|⟨i,c,cs⟩<;>simp only[BR.d]at ae⊢
  ·refine gf u2 ?_
   exact TK (U':=_) ⟨rfl,ae⟩
  ·refine gf u2 ?_
   exact TK (U':=_) ⟨rfl,ae⟩
 ·refine gz ?_
  refine DC (OK ib _ O h1) (fun d S1 hr=>?_) (fun d S1 hr=>by cases hr.1)
  obtain⟨hd,rfl⟩:=hr
  cases hd
  refine gf h1 ?_
  refine bapp (bs:=bs) (str:=s) (r:=r) (fun r' S2 k1 k2=>?_) h2 (by omega)
  obtain⟨u2,u3⟩:=k2 _ _ h1 h3
  have ae:BldS ib S0 (bs++s) (S2.set ib (.cells [.ptr ib 0,r'.d (bs++s).length])):=by
   refine⟨fun j o hj=>?_,h0,.inr ⟨r',w6 ..,?_,u3,fun j hj=>?_⟩⟩
   ·have aC:j≠ib:=nn2 hj h0
    rw[w7 _ _ aC]
    exact(k2 j o (hS j o hj) fun h=>by rw[h4 j h]at hj;cases hj).1
   ·exact k1.set u3
   ·cases aD:S0 j with
    |none=>rfl
    |some o=>exact absurd hj (k2 j o (hS j o aD) fun h=>by rw[h4 j h]at aD;cases aD).2
  rcases r' with _|⟨i,c,cs⟩<;>simp only[BR.d]at ae⊢
  ·refine gf u2 ?_
   exact TK (U':=_) ⟨rfl,ae⟩
  ·refine gf u2 ?_
   exact TK (U':=_) ⟨rfl,ae⟩
theorem Ox{w:Go.World}{b n:Nat}{vs:Array Value}{ty:TypeId}(h:w.heap[b]? = some (.cells vs ty (0,0)))(hn:n≠0):w.freeze ⟨b,0,none⟩ n=setB w b (.cells vs ty (0,0+n)):=by
 have e:w.heap.setIfInBounds b (.cells vs ty (0,0+n))=(w.freeze ⟨b,0,none⟩ n).heap:=by
  unfold World.freeze
  rw[if_neg hn]
  apply Array.ext_getElem?
  intro k
  by_cases hk:b=k
  ·subst hk
   have hb:b<w.heap.size:=(Array.getElem?_eq_some_iff.1 h).1
   rw[Array.getElem?_setIfInBounds_self_of_lt hb,Array.getElem?_modify,if_pos rfl,h];rfl
  ·simp[Array.getElem?_modify,hk]
 unfold setB
 rw[e]
 unfold World.freeze
 rw[if_neg hn]
theorem TN(ib:Nat)(S0:Sig)(bs:List UInt8)(O:Sig)(hB:BldS ib S0 bs O)(hne:bs≠[])(hb:bs.length<=1000000000):E5 prog 86 [.ptr ib 0] O (rS (.str bs) S0):=by
 obtain⟨hS,h0,hB⟩:=hB
 rcases hB with⟨rfl,_⟩|⟨r,h1,h2,h3,h4⟩
 ·exact absurd rfl hne
 rcases r with _|⟨i,c,cs⟩
 ·exact absurd h2 hne
 obtain⟨h5,h6⟩:=h2
 refine⟨by rw[Ai];decide,BC func86 (by rfl) (by rfl),fun g w vs r hr hs ha=>?_⟩
 obtain rfl:r=_:=hr
 obtain⟨pv,r,rfl,⟨b,bB,rfl⟩,rfl⟩:=ha
 obtain⟨b',vs,ty,ak,aa,ag⟩:=hs.obj ib _ h1
 obtain rfl:b'=b:=by rw[bB]at ak;cases ak;rfl
 obtain⟨v0,r0,aE,_,v1,r1,rfl,⟨bg,bu,rfl⟩,rfl⟩:=ag
 obtain rfl:vs=#[v0,.slice (some ⟨bg,0,none⟩) bs.length c]:=by apply Array.ext';simpa using aE
 obtain⟨bg',vg,aL,aR,br⟩:=hs.obj i _ h5
 obtain rfl:bg'=bg:=by rw[bu]at aL;cases aL;rfl
 have bD:=RepL.length br
 simp only[Array.length_toList,List.length_append,List.length_map]at bD
 refine(D7 (J0 b' bg' c v0 ty bs vg w hne aa aR (by omega) (by omega) (by omega) fun j x hj=>?_)).mono ?_
 ·have hg:=RepL.get br j
  have bI:=(List.getElem?_eq_some_iff.1 hj).1
  rw[List.getElem?_append_left (by simpa using bI),List.getElem?_map,hj]at hg
  simp only[Option.map_some,Array.getElem?_toList]at hg
  have bp:j<vg.size:=by omega
  rw[Array.getElem?_eq_getElem bp]at hg
  simp only[World.cell?, aR]
  rw[Array.getElem?_eq_getElem bp]
  exact congrArg some hg
 ·rintro e w' ⟨rfl,rfl⟩
  have hl:bs.length≠0:=by simpa using hne
  refine⟨g,.ret (.str bs),S0,.refl g,?_,⟨_,rfl,rfl⟩,rfl,rfl⟩
  rw[Ox (w:=w.drew) aR hl]
  refine(hs.drew.kill h5 rfl bu (x:=.cells vg 5 (0,0)) aR).sub fun j o hj=>?_
  have aC:j≠i:=fun e=>by rw[e,h4 i rfl]at hj;cases hj
  simp only[Sig.del,aC,if_false]
  exact hS j o hj
theorem newT{ro:Ro}{n:Nat}{ops:Array Oper}{Q:DX->St->Prop}{df:List DDf}{rest:List Oper}{γ:Fr}{O:Sig}{t T:Nat}{ty:TypeId}{pos:String}{after:Array Edge}(h:∀i,O i=none->DOps prog ro n ops Q rest ⟨(t,.ptr i 0)::γ,O.set i (.tcells T (tab T).zero),df⟩)(hk:A1 (tab T).k=false:=by simp)(aF:decide (t<n)=true:=by exact tdR):
  DOps prog ro n ops Q (⟨some t,.alloc T,ty,pos,after,none⟩::rest) ⟨γ,O,df⟩:=MU Ac hk (by simpa using aF) h
@[simp] theorem cIns_tk(x:CIns):List.take 2 (cIns x)=cIns x:=rfl
@[simp] theorem cIns_mem(x:CIns)(d:D):(d∈cIns x)=(d=dI x.op\/d=dI x.a):=by simp[cIns]
theorem U1(c:CProg)(O:Sig)(h1:c.ins.length<=1073741824)(h2:c.starts.length<=1073741824):E5 prog 40 [.agg (cCPg c)] O (rS (if AM c then .tup [.str (KM c),dI 0] else .tup [.str [],dI 2]) O):=by
 have aJ:∀l:List Int,l.all farN=true->∀n∈l,0<=n/\n<=1000000000:=fun l h n hn=>by have:=List.all_eq_true.1 h n hn;unfold farN at this;simpa using this
 refine enW func40 ntmps40 ?_
 repeat' first|refine gz ?_ o40|apply gy<;>intro hh
 ·refine fin2 (U':=O) ⟨by rw[hh];rfl,rfl⟩
 ·have hp:=hh
  unfold AM at hp
  simp only[Bool.and_eq_true,decide_eq_true_eq]at hp
  obtain⟨c1,c2,c3,c4,c5⟩:=hp
  have hT:=ST hh
  have hm:0<=c.main/\c.main<=1000000000:=by unfold farN at c3;simpa using c3
  have aU:KM c=Ot c++10::listB (fun l=>l++[10]) (c.ins.map Fp):=by unfold KM;rw[listB,List.append_assoc];rfl
  have bE:(Ot c).length=(listB (fun n=>Lib.itoa n++[32]) c.starts).length+2+(Lib.itoa c.main).length:=by unfold Ot;simp;omega
  have bz:=congrArg List.length aU
  rw[List.length_append,List.length_cons]at bz
  refine newT (fun ib aI=>?_)
  have aN:BldS ib O [] (O.set ib (.tcells 159 (tab 159).zero)):=⟨(Sub.refl _).set aI,aI,.inl ⟨rfl,w6 ..⟩⟩
  generalize O.set ib (.tcells 159 (tab 159).zero)=S1 at aN
  refine gz ?_ o40
  refine FH [1,2,3,4,8,13,14,24,25,26,27,28,29,30,31,32,33,34,35,36,37,38,39,40,41,42,43,44,45,46,47,48,49,50,51,52,53,54] (fun (k:Nat) (bs:List UInt8) (S2:Sig)=>k<=c.starts.length/\BldS ib O bs S2/\bs++listB (fun n=>Lib.itoa n++[32]) (c.starts.drop k)=listB (fun n=>Lib.itoa n++[32]) c.starts) (fun k _ _=>[(15,dI k)]) (fun _ _ S2=>S2) (fun k _ _=>c.starts.length-k) (0) ([]) (S1) (by exact⟨by omega,aN,rfl⟩) (fun k bs S2 hI=>?_)
  obtain⟨hk,hB,hE⟩:=hI
  have bd:=congrArg List.length hE
  rw[List.length_append]at bd
  by_cases aj:k<c.starts.length
  ·rw[Ab aj,listB]at hE
   obtain⟨n1,n2⟩:=aJ _ c4 _ (List.getElem_mem aj)
   have bZ:=Qc (n:=c.starts[k]) ⟨by omega,by omega⟩
   refine gz ?_ o40
   refine DC (Kr c.starts[k] S2 (by omega) (by omega)) (fun d S3 hr=>?_) (fun d S3 hr=>by cases hr.1)
   obtain⟨hd,rfl⟩:=hr
   cases hd
   refine gz ?_ o40
   refine DC (En ib O bs (Lib.itoa c.starts[k]++[32]) _ hB (by simp;omega)) (fun d S3 hr=>?_) (fun d S3 hr=>by cases hr.1)
   obtain⟨hd,am⟩:=hr
   cases hd
   refine gz ?_ o40
   exact⟨k+1,bs++(Lib.itoa c.starts[k]++[32]),S3,⟨by omega,am,by rw[List.append_assoc];exact hE⟩,td1,wkR⟩
  ·rw [Af aj,listB,List.append_nil] at hE
   refine gz ?_ o40
   refine DC (Kr c.main S2 (by omega) (by omega)) (fun d S3 hr=>?_) (fun d S3 hr=>by cases hr.1)
   obtain⟨hd,rfl⟩:=hr
   cases hd
   refine gz ?_ o40
   refine DC (En ib O bs ([58,32]++Lib.itoa c.main++[10]) _ hB (by simp;omega)) (fun d S3 hr=>?_) (fun d S3 hr=>by cases hr.1)
   obtain⟨hd,am⟩:=hr
   cases hd
   have bx:bs++([58,32]++Lib.itoa c.main++[10])++listB (fun l=>l++[10]) (c.ins.map Fp)=KM c:=by rw[aU];unfold Ot;simp[hE]
   generalize bs++([58,32]++Lib.itoa c.main++[10])=bs3 at am bx
   refine gz ?_ o40
   refine FH [2,3,4,31,32,53,54] (fun (k:Nat) (bs:List UInt8) (S2:Sig)=>k<=c.ins.length/\BldS ib O bs S2/\bs++listB (fun l=>l++[10]) ((c.ins.drop k).map Fp)=KM c) (fun k _ _=>[(33,dI k)]) (fun _ _ S2=>S2) (fun k _ _=>c.ins.length-k) (0) (bs3) (S3) (by exact⟨by omega,am,bx⟩) (fun k bs S2 hI=>?_)
   obtain⟨hk,hB,hE⟩:=hI
   have bd:=congrArg List.length hE
   rw[List.length_append]at bd
   by_cases aj:k<c.ins.length
   ·rw[Ab aj,List.map_cons,listB]at hE
    have hI:=List.all_eq_true.1 c5 _ (List.getElem_mem aj)
    have bW:=Nm hI
    unfold Cq at hI
    simp only[Bool.and_eq_true,decide_eq_true_eq]at hI
    obtain⟨⟨b8,ax⟩,aw⟩:=hI
    have bT:wordsC.length=21:=rfl
    have aT:SN c.ins[k].op=wordsC[c.ins[k].op.toNat-1]'(by omega):=by unfold SN;rw[show(c.ins[k].op-1).toNat=c.ins[k].op.toNat-1 by omega,List.getElem?_eq_getElem (by omega)];rfl
    have aQ:(Fp c.ins[k]).length=(wordsC[c.ins[k].op.toNat-1]'(by omega)).length+(if hasA c.ins[k].op then 1+(Lib.itoa c.ins[k].a).length else 0):=by
     unfold Fp;rw[aT,List.length_append];split<;>simp<;>omega
    have ca:(listB (fun l=>l++[10]) (List.map Fp (List.drop k c.ins))).length=(Fp c.ins[k]).length+1+(listB (fun l=>l++[10]) (List.map Fp (List.drop (k+1) c.ins))).length:=by
     rw[Ab aj,List.map_cons,listB];simp;omega
    by_cases hA:hasA c.ins[k].op=true
    ·rw[if_pos hA]at aQ aw
     have ce : -1000000000<=c.ins[k].a/\c.ins[k].a<=1000000000:=by
      split at aw
      ·unfold inB at aw;simp at aw;omega
      ·unfold farN at aw;simp at aw;omega
     have ar:Fp c.ins[k]=wordsC[c.ins[k].op.toNat-1]'(by omega)++([32]++Lib.itoa c.ins[k].a):=by unfold Fp;rw[aT,if_pos hA];rfl
     refine gz ?_ o40
     refine DC (En ib O bs (wordsC[c.ins[k].op.toNat-1]'(by omega)) _ hB (by omega)) (fun d S3 hr=>?_) (fun d S3 hr=>by cases hr.1)
     obtain⟨hd,am⟩:=hr
     cases hd
     refine gf hA ?_ o40
     refine DC (Kr c.ins[k].a S3 (by omega) (by omega)) (fun d S4 hr=>?_) (fun d S4 hr=>by cases hr.1)
     obtain⟨hd,rfl⟩:=hr
     cases hd
     refine gz ?_ o40
     refine DC (En ib O _ ([32]++Lib.itoa c.ins[k].a) _ am (by simp;omega)) (fun d S3 hr=>?_) (fun d S3 hr=>by cases hr.1)
     obtain⟨hd,bQ⟩:=hr
     cases hd
     refine gz ?_ o40
     refine DC (En ib O _ [10] _ bQ (by simp;omega)) (fun d S3 hr=>?_) (fun d S3 hr=>by cases hr.1)
     obtain⟨hd,be⟩:=hr
     cases hd
     rw[ar]at hE
     refine gz ?_ o40
     exact⟨k+1,_,_,⟨by omega,be,by simpa[List.append_assoc] using hE⟩,td1,wkR⟩
    ·rw[if_neg hA]at aQ aw
     have bR:hasA c.ins[k].op=false:=by simpa using hA
     have ar:Fp c.ins[k]=wordsC[c.ins[k].op.toNat-1]'(by omega):=by unfold Fp;rw[aT,if_neg hA,List.append_nil]
     refine gz ?_ o40
     refine DC (En ib O bs (wordsC[c.ins[k].op.toNat-1]'(by omega)) _ hB (by omega)) (fun d S3 hr=>?_) (fun d S3 hr=>by cases hr.1)
     obtain⟨hd,am⟩:=hr
     cases hd
     refine gf bR ?_ o40
     refine DC (En ib O _ [10] _ am (by simp;omega)) (fun d S3 hr=>?_) (fun d S3 hr=>by cases hr.1)
     obtain⟨hd,be⟩:=hr
     cases hd
     rw[ar]at hE
     refine gz ?_ o40
     exact⟨k+1,_,_,⟨by omega,be,by simpa[List.append_assoc] using hE⟩,td1,wkR⟩
   ·rw[Af aj,List.map_nil,listB,List.append_nil]at hE
    subst hE
    refine gz ?_ o40
    refine DC (TN ib O _ _ hB (by rw[aU];simp) (by omega)) (fun d S3 hr=>?_) (fun d S3 hr=>by cases hr.1)
    obtain⟨hd,rfl⟩:=hr
    cases hd
    refine gz ?_ o40
    refine fin2 (U':=S3) ⟨by rw[hh];rfl,rfl⟩
def rvk(l:List UInt8)(k:Nat):List UInt8:=(List.range l.length).map fun j=>if j<k\/l.length<=j+k then l.getD (l.length-1-j) 0 else l.getD j 0
@[simp] theorem rvk_len(l:List UInt8)(k:Nat):(rvk l k).length=l.length:=by simp[rvk]
theorem GN(l:List UInt8)(k j:Nat)(h:j<l.length):(rvk l k)[j]? = some (if j<k\/l.length<=j+k then l.getD (l.length-1-j) 0 else l.getD j 0):=by
 unfold rvk;rw[List.getElem?_map,List.getElem?_range h];rfl
theorem getD_some{l:List UInt8}{j:Nat}(h:j<l.length):l[j]? = some (l.getD j 0):=by rw[List.getD_eq_getElem?_getD,List.getElem?_eq_getElem h];rfl
theorem rvk_0(l:List UInt8):rvk l 0=l:=by
 refine List.ext_getElem? fun j=>?_
 by_cases h:j<l.length
 ·rw[GN l 0 j h,if_neg (by omega),getD_some h]
 ·rw[List.getElem?_eq_none (by simp;omega),List.getElem?_eq_none (by omega)]
theorem rvk_end(l:List UInt8)(k:Nat)(h:l.length<=2*k+1):rvk l k=l.reverse:=by
 refine List.ext_getElem? fun j=>?_
 by_cases hj:j<l.length
 ·rw[GN l k j hj,List.getElem?_reverse hj,getD_some (by omega)]
  by_cases h2:j<k\/l.length<=j+k
  ·rw[if_pos h2]
  ·rw[if_neg h2,show l.length-1-j=j by omega]
 ·rw[List.getElem?_eq_none (by simp;omega),List.getElem?_eq_none (by simp;omega)]
theorem rvk_set(l:List UInt8)(k:Nat)(h:2*k+1<l.length):((rvk l k).set k (l.getD (l.length-1-k) 0)).set (l.length-1-k) (l.getD k 0)=rvk l (k+1):=by
 refine List.ext_getElem? fun j=>?_
 by_cases hj:j<l.length
 ·rw[GN l _ j hj]
  by_cases h1:j=l.length-1-k
  ·subst h1
   rw[List.getElem?_set_self (by simp;omega),if_pos (by omega)]
   congr 2;omega
  ·rw[List.getElem?_set_ne (fun e=>h1 e.symm)]
   by_cases h2:j=k
   ·subst h2
    rw[List.getElem?_set_self (by simp;omega),if_pos (by omega)]
   ·rw[List.getElem?_set_ne (fun e=>h2 e.symm),GN l k j hj]
    congr 1
    by_cases h3:j<k\/l.length<=j+k
    ·rw[if_pos h3,if_pos (by omega)]
    ·rw[if_neg h3,if_neg (by omega)]
 ·rw[List.getElem?_eq_none (by simp;omega),List.getElem?_eq_none (by simp;omega)]
def byD(b:UInt8):D:=.int .u8 (b.toNat:Int)
theorem N8{α:Type}(l:List α)(k:Nat)(x:α)(h:k<l.length):l.take k++[x]++l.drop (k+1)=l.set k x:=by
 rw[List.set_eq_take_append_cons_drop,if_pos h,List.append_assoc];rfl
theorem OM(b:D)(O:Sig):DCall prog 155 [.slice [[b]] .clip] O (rS (.tup []) O):=by
 refine en func155 ntmps155 ?_
 refine gz ?_ o155
 refine Cx [0] (fun (k:Nat)=>True) (fun _=>[(2,dI 0),(3,dI 0)]) (fun _=>O) (fun _=>1) (0) (by trivial) (fun k hI=>?_)
 refine gz ?_ o155
 refine DZ (U':=O) ⟨rfl,rfl⟩
theorem RA(bs:List UInt8)(rest:List D)(i cap:Nat)(O:Sig)(hn:bs.length<=1000000)(hc:bs.length<=cap)(hi:O i=some (.cells (bs.map byD++rest))):DCall prog 155 [.sref i 0 bs.length cap] O fun x U'=>x=.ret (.tup [])/\U'=O.set i (.cells (bs.reverse.map byD++rest)):=by
 refine en func155 ntmps155 ?_
 refine gz ?_ o155
 refine Cw [0] (fun (k:Nat) (S2:Sig)=>k<=bs.length/\(∀j,j≠i->S2 j=O j)/\S2 i=some (.cells ((rvk bs k).map byD++rest))) (fun k _=>[(2,dI k),(3,dI ((bs.length:Int)-1-k))]) (fun _ S2=>S2) (fun k _=>bs.length-k) (0) (O) (by exact⟨Nat.zero_le _,fun _ _=>rfl,by rw[rvk_0];exact hi⟩) (fun k S2 hI=>?_)
 obtain⟨bF,hs,ax⟩:=hI
 by_cases hk:2*k+1<bs.length
 ·obtain⟨L,hL⟩:∃L,L=(rvk bs k).map byD++rest:=⟨_,rfl⟩
  rw[<-hL]at ax
  have aQ:bs.length<=L.length:=by rw[hL];simp
  have hx:L[k]? = some (byD (bs.getD k 0)):=by rw[hL,List.getElem?_append_left (by simp;omega),List.getElem?_map,GN bs k k (by omega),if_neg (by omega)];rfl
  have hy:L[bs.length-1-k]? = some (byD (bs.getD (bs.length-1-k) 0)):=by rw[hL,List.getElem?_append_left (by simp;omega),List.getElem?_map,GN bs k _ (by omega),if_neg (by omega)];rfl
  have hE:(L.set k (byD (bs.getD (bs.length-1-k) 0))).set (bs.length-1-k) (byD (bs.getD k 0))=(rvk bs (k+1)).map byD++rest:=by
   rw[hL,List.set_append_left _ _ (by simp;omega),List.set_append_left _ _ (by simp;omega),<-List.map_set,<-List.map_set,rvk_set bs k hk]
  unfold byD at hx hy hE
  generalize (bs.getD k 0).toNat=x at*
  generalize (bs.getD (bs.length-1-k) 0).toNat=y at*
  have hX:L[k]'(by omega)=.int .u8 x:=by have:=hx;rw[List.getElem?_eq_getElem (by omega)]at this;exact Option.some.inj this
  have hY:L[bs.length-1-k]'(by omega)=.int .u8 y:=by have:=hy;rw[List.getElem?_eq_getElem (by omega)]at this;exact Option.some.inj this
  have bk:=N8 L k (.int .u8 y) (by omega)
  have bj:=N8 (L.set k (.int .u8 y)) (bs.length-1-k) (.int .u8 x) (by simp;omega)
  simp only[List.append_assoc,List.singleton_append]at bk bj
  have bL:¬L.length<k+1:=by omega
  have bK:¬L.length<bs.length-1-k+1:=by omega
  refine gz ?_
  refine mixK (id:=3) [0,1,2,3,4,5,6,7,8,9,10,11,12,13,14,15] [13,15] [7,11] [13,15] S2 (Sub.refl _) ?_
  refine k4R (.sref i 0 bs.length cap) ?_
  refine k4R (dI k) ?_
  refine k4R (.sref i 0 bs.length cap) ?_
  refine k4R (dI ((bs.length:Int)-1-k)) ?_
  refine k4R (.sref i 0 bs.length cap) ?_
  refine k4R (dI ((bs.length:Int)-1-k)) ?_
  refine k4R (.ptr i (bs.length-1-k)) ?_ (hd:=by simp(disch:=omega);omega)
  refine k4R (.int .u8 y) ?_ (hd:=by simp[ax,hy])
  refine k4R (.sref i 0 bs.length cap) ?_
  refine k4R (dI k) ?_
  refine k4R (.ptr i k) ?_ (hd:=by simp(disch:=omega);omega)
  refine k4R (.int .u8 x) ?_ (hd:=by simp[ax,hx])
  refine k4R (.ptr i k) ?_ (hd:=by simp(disch:=omega);omega)
  refine k4S (d:=.any) (U':=S2.set i (.cells (L.set k (.int .u8 y)))) (fun _=>none) (fun _ _ h=>by cases h) ?_ (he:=by simp[ax,bk,bL])
  refine k4R (.ptr i (bs.length-1-k)) ?_ (hd:=by simp(disch:=omega);omega)
  refine k4S (d:=.any) (U':=(S2.set i (.cells (L.set k (.int .u8 y)))).set i (.cells ((L.set k (.int .u8 y)).set (bs.length-1-k) (.int .u8 x)))) (fun _=>none) (fun _ _ h=>by cases h) ?_ (he:=by simp[bj,bK])
  refine k4N ?_
  rw[hE]
  refine gz ?_ o155
  exact⟨k+1,(S2.set i (.cells (L.set k (.int .u8 y)))).set i (.cells ((rvk bs (k+1)).map byD++rest)),⟨by omega,fun j hj=>by rw[w7 _ _ hj,w7 _ _ hj];exact hs j hj,w6 ..⟩,td1,wkR⟩
 ·refine gz ?_ o155
  refine DZ (U':=S2) ⟨rfl,?_⟩
  rw[rvk_end bs k (by omega)]at ax
  funext j
  by_cases hj:j=i
  ·subst hj;rw[w6,ax]
  ·rw[w7 _ _ hj,hs j hj]
theorem E7(x:Int):IntKind.u8.wrap x=x % 256:=by
 simp[IntKind.wrap,IntKind.bits,IntKind.signed]
theorem Pf(z c:UInt8):IntKind.u8.wrap (IntKind.u8.wrap (IntKind.u8.wrap (3*(z.toNat:Int))+(c.toNat:Int))+1)=((3*z+c+1).toNat:Int):=by
 rw[E7,E7,E7,UInt8.toNat_add,UInt8.toNat_add,UInt8.toNat_mul]
 simp only[UInt8.reduceToNat]
 omega
theorem TS(bs:List UInt8)(i cap:Nat)(rest:List D)(O:Sig)(hn:bs.length<=1000000)(hc:bs.length<=cap)(hi:O i=some (.cells (bs.map byD++rest))):DCall prog 73 [.sref i 0 bs.length cap] O (rS (.int .u8 ((sumB bs 0).toNat:Int)) O):=by
 refine en func73 ntmps73 ?_
 refine gz ?_
 refine Cw [2,6,7,18] (fun (k:Nat) (z:UInt8)=>k<=bs.length/\sumB (bs.drop k) z=sumB bs 0) (fun k z=>[(8,dI k),(3,.int .u8 (z.toNat:Int))]) (fun _ _=>O) (fun k _=>bs.length-k) (0) (0) (by exact⟨Nat.zero_le _,rfl⟩) (fun k z hI=>?_)
 obtain⟨bF,hs⟩:=hI
 by_cases hk:k<bs.length
 ·obtain⟨L,hL⟩:∃L,L=bs.map byD++rest:=⟨_,rfl⟩
  rw[<-hL]at hi
  have aQ:bs.length<=L.length:=by rw[hL];simp
  have hX:L[k]'(by omega)=.int .u8 (bs[k].toNat:Int):=by subst hL;rw[List.getElem_append_left (by simpa using hk),List.getElem_map];rfl
  rw[Ab hk,sumB]at hs
  refine gf (gi hi hX) ?_
  simp only[Pf]
  exact⟨k+1,3*z+bs[k]+1,⟨by omega,hs⟩,td1,wkR⟩
 ·rw[Af hk,sumB]at hs
  refine gz ?_
  refine fin1 (U':=O) ⟨by rw[<-hs],rfl⟩
@[simp] theorem RW.d_row(i c n:Nat)(cs:List D):(RW.row i c cs).d n=.sref i 0 n c:=rfl
@[simp] theorem RW.d_full(es:List (List D))(n:Nat):(RW.full es).d n=.slice es .clip:=rfl
def Do(b:UInt8):List D:=[.int .u8 (b.toNat:Int)]
@[simp] theorem byteL_len(b:UInt8):(Do b).length=1:=rfl
theorem Fj: ∀l:List UInt8,(l.map Do).flatten=l.map byD
 |[]=>rfl
 |b::l=>by rw[List.map_cons,List.flatten_cons,Fj l];rfl
def PkS(ib:Nat)(S0:Sig)(bs:List UInt8)(O:Sig):Prop:=
 Sub S0 O/\S0 ib=none /\ ∃r:RW,O ib=some (.cells [r.d (bs.map Do).length])/\RWAt O 1 r (bs.map Do) /\ ¬r.is ib/\(∀j,r.is j->S0 j=none)/\(bs.length<=1 \/ ∃i c cs,r=.row i c cs)
section
variable {ro:Ro}{n:Nat}{ops:Array Oper}{N:Nat}{S0:Sig}{Q:DX->St->Prop}{df:List DDf}{rest:List Oper}{γ Sr:List (Nat×D)}{O:Sig}{t:Nat}{ty:TypeId}{pos:String}{after:Array Edge}{d:D}
theorem xappN{T T' e e' sz:Nat}{s x:Operand}{es new:List (List D)}{r:RW}(h:∀i c cs U',RWAt U' sz (.row i c cs) (es++new)->RWK O r U' (.row i c cs)->DOps prog ro n ops Q rest ⟨(t,.sref i 0 (es.length+new.length) c)::γ,U',df⟩)(hm:RWAt O sz r es){dx:D}(h2:J1 prog O sz dx new)(hne:new≠[])(bt:∀c∈new,Bw c=true)
  (hlen':∀c∈new,c.length=sz)
  (hl:A0 γ (A5 [s,x])=some Sr:=by exact tdR) (hx:ev Sr x=dx:=by exact tdR) (hk:(tab T).k=.slice e:=by(simp<;>rfl)) (bG:(tab T').k=.slice e':=by(simp<;>rfl)) (he:A1 (tab e).k=false:=by simp) (hsz:(tab e).size=sz:=by simp)
  (h1:ev Sr s=r.d es.length:=by first|with_unfolding_all rfl|(simp[ev,getD,List.lookup];done))
  (hb:(es.length+new.length)*(tab e).bytes<=140737488355328:=by first|(simp;done)|(simp;omega)) (hm2:es.length+new.length<=9223372036854775807:=by first|(simp;done)|(simp;omega)) (aF:decide (t<n)=true:=by exact tdR) :
  DOps prog ro n ops Q (⟨some t,(cA s x T T'),ty,pos,after,none⟩::rest) ⟨γ,O,df⟩:=by
 obtain⟨e1,e2⟩:=evs hl
 subst hx
 exact E1 Ac (by simpa using aF) hk bG he hsz (by rw[<-e1];exact h1) hm (by rw[<-e2];exact h2) hlen' bt hb hm2 fun r' U' h1 h2 h3=>by
  rcases h3 with⟨h3,_⟩|⟨i,c,cs,rfl⟩
  ·exact absurd h3 hne
  ·exact h i c cs U' h1 h2
end
theorem Fe(ib:Nat)(S0:Sig)(bs:List UInt8)(n:Nat)(O:Sig)(hB:PkS ib S0 bs O)(hn:n<=10000000000)(hb:bs.length<=1000000):DCall prog 71 [.ptr ib 0,dI n] O fun x U'=>x=.ret (.tup [])/\PkS ib S0 (bs++digB n) U':=by
 obtain⟨hS,h0,r0,aZ,aG,bl,aO,_⟩:=hB
 refine en func71 ntmps71 ?_
 refine gz ?_
 refine Kk [0,22,23,24,25,26,27,28,29,30] (fun (m:Nat) (ds:List UInt8) (r:RW) (S2:Sig)=>((∃k,m<128 ^ k/\hiB k m++ds.reverse=digB n/\k+ds.length=11)/\m<=10000000000)/\RWAt S2 1 r (ds.map Do)/\RWK O .nil S2 r/\((∃b,ds=[b]/\r=.full [Do b]) \/ ∃i c cs,r=.row i c cs)) (fun m ds r _=>[(1,dI m),(4,r.d (ds.map Do).length)]) (fun _ _ _ S2=>S2) (fun m _ _ _=>m) (n / 128) ([UInt8.ofNat (n % 128)]) (.full [Do (UInt8.ofNat (n % 128))]) (O) (by exact⟨⟨⟨10,by omega,rfl,rfl⟩,by omega⟩,⟨rfl,by simp⟩,RWK.refl _ _,.inl ⟨_,rfl,rfl⟩⟩) (fun m ds r S2 hI=>?_)
 obtain⟨⟨⟨k,bn,ai,bY⟩,bV⟩,hR,hK,hF⟩:=hI
 by_cases hm:0<m
 ·have hw:IntKind.u8.wrap (IntKind.i64.wrap ((m:Int).tmod 128+128))=((UInt8.ofNat (128+m % 128)).toNat:Int):=by
   have e:(m:Int).tmod 128=((m % 128:Nat):Int):=by rw[Int.tmod_eq_emod_of_nonneg (by omega)];rfl
   rw[e,Ds (by omega),E7,An (by omega) (by omega)];omega
  obtain⟨k,rfl⟩:∃k',k=k'+1:=by
   cases k with
   |zero=>simp at bn;omega
   |succ k=>exact⟨k,rfl⟩
  rw[hiB,if_neg (by omega)]at ai
  obtain⟨y,hy⟩:∃y,UInt8.ofNat (128+m % 128)=y:=⟨_,rfl⟩
  rw[hy]at hw ai
  refine gz ?_
  simp only[hw]
  refine xapp (new:=[[.int .u8 (y.toNat:Int)]]) (fun i c cs S3 aM bP=>?_) hR (h1:=by simp)
  have ay:RWAt S3 1 (.row i c cs) ((ds++[y]).map Do):=by rw[List.map_append];exact aM
  refine gz ?_
  exact⟨m / 128,ds++[y],.row i c cs,S3,⟨⟨⟨k,by rw[Nat.pow_succ]at bn;omega,by rw[List.reverse_append];simpa[List.append_assoc] using ai,by simp;omega⟩,by omega⟩,ay,hK.trans bP,.inr ⟨_,_,_,rfl⟩⟩,td1,wkR⟩
 ·obtain rfl:m=0:=by omega
  have aS:ds.reverse=digB n:=by rw[<-ai];cases k<;>simp[hiB]
  have cb:(digB n).length<=11:=by rw[<-aS];simp;omega
  rcases hF with⟨b,rfl,rfl⟩|⟨i,c,cs,rfl⟩
  ·have hd:[b]=digB n:=aS
   refine gz ?_
   refine A4 (OM (.int .u8 (b.toNat:Int)) S2) (fun d S3 hr=>?_) (fun d S3 hr=>by cases hr.1)
   obtain⟨ba,rfl⟩:=hr
   cases ba
   have ah:S3 ib=some (.cells [r0.d (bs.map Do).length]):=(hK ib _ aZ id).1
   have aM:RWAt S3 1 r0 (bs.map Do):=aG.keep fun j o hj _=>(hK j o hj id).1
   refine gf ah ?_
   refine xappN (new:=(digB n).map Do) (fun j c' cs' S4 ay aA=>?_) aM (Hb (d:=.slice [Do b] .clip) (by rw[<-hd];rfl) (by simp)) (by simp[digB]) (fun x hx=>by obtain⟨b,_,rfl⟩:=List.mem_map.1 hx;rfl) (fun x hx=>by obtain⟨b,_,rfl⟩:=List.mem_map.1 hx;rfl) (h1:=by simp) (hb:=by simp;omega) (hm2:=by simp;omega)
   have ac:=aA ib _ ah bl
   rw[<-List.map_append]at ay
   have au:S4 ib=some (.cells [r0.d bs.length]):=by rw[ac.1];simp
   refine gf au ?_
   refine DZ (U':=S4.set ib (.cells [.sref j 0 (bs++digB n).length c'])) ⟨rfl,?_,h0,.row j c' cs',?_,?_,?_,?_,.inr ⟨_,_,_,rfl⟩⟩ (hU:=by simp;exact Sub.refl _)
   ·exact fun x o hx=>by rw[w7 _ _ (fun e=>by rw[e,h0]at hx;cases hx)];exact(aA x o (hK x o (hS x o hx) id).1 (fun ap=>by rw[aO x ap]at hx;cases hx)).1
   ·rw[w6];simp
   ·exact ay.keep fun x o hx hj=>by rw[w7 _ _ (fun e=>by subst e;exact ac.2 hj)];exact hx
   ·exact ac.2
   ·exact fun x hx=>by cases h:S0 x with|none=>rfl|some o=>exact absurd hx (aA x o (hK x o (hS x o h) id).1 (fun ap=>by rw[aO x ap]at h;cases h)).2
  ·obtain⟨q1,q2,q3,q4⟩:=hR
   rw[Fj]at q1
   rw[List.length_map]at q3
   have aP:∀j o,O j=some o->j≠i:=fun j o hj e=>(hK j o hj id).2 e
   have hne:=aP ib _ aZ
   refine gz ?_
   refine A4 (RA ds cs i c S2 (by omega) q3 q1) (fun d S3 hr=>?_) (fun d S3 hr=>by cases hr.1)
   obtain⟨ba,aB⟩:=hr
   cases ba
   rw[aS]at aB
   have aW:J1 prog S3 1 (.sref i 0 ds.length c) ((digB n).map Do):=by
    have e:ds.length=((digB n).map Do).length:=by rw[<-aS];simp
    rw[e]
    refine K7 (pre:=[]) (rest:=cs) (by rw[aB,w6,Fj];rfl) rfl (fun x hx=>by obtain⟨b,_,rfl⟩:=List.mem_map.1 hx;rfl) (by rw[<-e];exact q3)
   have ah:S3 ib=some (.cells [r0.d (bs.map Do).length]):=by rw[aB,w7 _ _ hne];exact(hK ib _ aZ id).1
   have aM:RWAt S3 1 r0 (bs.map Do):=aG.keep fun j o hj _=>by rw[aB,w7 _ _ (aP j _ hj)];exact(hK j o hj id).1
   refine gf ah ?_
   refine xappN (new:=(digB n).map Do) (fun j c' cs' S4 ay aA=>?_) aM (aW) (by simp[digB]) (fun x hx=>by obtain⟨b,_,rfl⟩:=List.mem_map.1 hx;rfl) (fun x hx=>by obtain⟨b,_,rfl⟩:=List.mem_map.1 hx;rfl) (h1:=by simp) (hb:=by simp;omega) (hm2:=by simp;omega)
   have ac:=aA ib _ ah bl
   rw[<-List.map_append]at ay
   have au:S4 ib=some (.cells [r0.d bs.length]):=by rw[ac.1];simp
   refine gf au ?_
   refine DZ (U':=S4.set ib (.cells [.sref j 0 (bs++digB n).length c'])) ⟨rfl,?_,h0,.row j c' cs',?_,?_,?_,?_,.inr ⟨_,_,_,rfl⟩⟩ (hU:=by simp;exact Sub.refl _)
   ·exact fun x o hx=>by rw[w7 _ _ (fun e=>by rw[e,h0]at hx;cases hx)];exact(aA x o (by rw[aB,w7 _ _ (aP x _ (hS x o hx))];exact(hK x o (hS x o hx) id).1) (fun ap=>by rw[aO x ap]at hx;cases hx)).1
   ·rw[w6];simp
   ·exact ay.keep fun x o hx hj=>by rw[w7 _ _ (fun e=>by subst e;exact ac.2 hj)];exact hx
   ·exact ac.2
   ·exact fun x hx=>by cases h:S0 x with|none=>rfl|some o=>exact absurd hx (aA x o (by rw[aB,w7 _ _ (aP x _ (hS x o h))];exact(hK x o (hS x o h) id).1) (fun ap=>by rw[aO x ap]at h;cases h)).2
theorem PkS.put{ib:Nat}{S0 O S4:Sig}{bs new:List UInt8}{r:RW}{j c:Nat}{cs:List D}(hS:Sub S0 O)(h0:S0 ib=none)(h1:O ib=some (.cells [r.d (bs.map Do).length]))(h3:¬r.is ib)(h4:∀j,r.is j->S0 j=none)(hR:RWAt S4 1 (.row j c cs) ((bs++new).map Do))(hK:RWK O r S4 (.row j c cs)):PkS ib S0 (bs++new) (S4.set ib (.cells [.sref j 0 (bs++new).length c])):=by
 have aI:=hK ib _ h1 h3
 have ai:∀x o,S0 x=some o->S4 x=some o /\ ¬(RW.row j c cs).is x:=fun x o hx=>hK x o (hS x o hx) fun h=>by rw[h4 x h]at hx;cases hx
 refine⟨fun x o hx=>?_,h0,.row j c cs,?_,?_,aI.2,fun x hx=>?_,.inr ⟨_,_,_,rfl⟩⟩
 ·rw[w7 _ _ (fun e=>by rw[e,h0]at hx;cases hx)];exact(ai x o hx).1
 ·rw[w6];simp
 ·exact hR.keep fun x o hx hj=>by rw[w7 _ _ (fun e=>by subst e;exact aI.2 hj)];exact hx
 ·cases h:S0 x with
  |none=>rfl
  |some o=>exact absurd hx (ai x o h).2
end Go.DL
