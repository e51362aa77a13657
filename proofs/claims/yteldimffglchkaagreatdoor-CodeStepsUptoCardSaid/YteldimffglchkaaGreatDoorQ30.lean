/- The law CodeSteps b7 of each program, code and run: where what is read is of bulk at most 1048576, the call says true and leaves its arguments; the library's tables are as the program's text lays them. -/
import Derived.Test.YteldimffglchkaaGreatDoorQ28
import Derived.Test.YteldimffglchkaaGreatDoorQ29
set_option linter.all false
namespace Go.Proofs.YteldimffglchkaaGreatDoor
open Go.Proofs.Tryz
open Go Go.DL Go.ChangeShapes Go.WideShapes Go.ChangeAt Go.RowKit
set_option maxRecDepth 100000
theorem RE(os:Os):laidMet prog Rows.codeStepsUptoRow.laid ((JB os).forCall (fun _ _=>0) ⟨#[], #[.agg #[.slice none 0 0,.int .i64 0,.slice none 0 0,.slice none 0 0,.slice none 0 0,.int .i64 0],.agg #[.slice none 0 0,.slice none 0 0,.int .i64 0],.agg #[.slice none 0 0,.int .i64 0,.slice none 0 0,.slice none 0 0]],[]⟩).memory:=
 laidMet_of_run' 8 (by kernel_rfl) (by kernel_rfl)
theorem O9(os:Os){H:Type}(enc:TypeId×Value->H): ∃places,DataW.whole enc prog ((JB os).forCall (fun _ _=>0) ⟨#[], #[.agg #[.slice none 0 0,.int .i64 0,.slice none 0 0,.slice none 0 0,.slice none 0 0,.int .i64 0],.agg #[.slice none 0 0,.slice none 0 0,.int .i64 0],.agg #[.slice none 0 0,.int .i64 0,.slice none 0 0,.slice none 0 0]],[]⟩).memory f3.params.toList Rows.codeStepsSpec.vars false #[Value.agg #[.slice none 0 0,.int .i64 0,.slice none 0 0,.slice none 0 0,.slice none 0 0,.int .i64 0],.agg #[.slice none 0 0,.slice none 0 0,.int .i64 0],.agg #[.slice none 0 0,.int .i64 0,.slice none 0 0,.slice none 0 0]].toList 8=some ([.agg [.nil,.lit (.int .i64 0),.nil,.nil,.nil,.lit (.int .i64 0)],.agg [.nil,.nil,.lit (.int .i64 0)],.agg [.nil,.agg [.lit (.int .i64 0),.nil,.nil]]],[],places):=
 ⟨[],by kernel_rfl⟩
theorem Mt(os:Os)(started:os.Started)(H:Type)(enc:TypeId×Value->H)(F:Stop.Interp):
  ReturnsInHanded {} checked os 3 .any ((Rows.OpenSpec.upto Rows.codeStepsSpec).preRow enc prog f3 Rows.codeStepsUptoRow.domain false Rows.codeStepsUptoRow.laid) (((Rows.OpenSpec.upto Rows.codeStepsSpec).at F).post enc prog f3 false true false false):=by
 obtain⟨places,hx⟩:=O9 os enc
 refine returnsInHanded_of_row (C:=checked) (s:=Rows.OpenSpec.upto Rows.codeStepsSpec) Go.DL.own started (by kernel_rfl) func3
  (witness_row_at (enc:=enc) (C:=checked) false (JB os) #[.agg #[.slice none 0 0, .int .i64 0, .slice none 0 0, .slice none 0 0, .slice none 0 0, .int .i64 0], .agg #[.slice none 0 0, .slice none 0 0, .int .i64 0], .agg #[.slice none 0 0, .int .i64 0, .slice none 0 0, .slice none 0 0]] rfl (by kernel_rfl) (by kernel_rfl) (by kernel_rfl)
   (OpenSpec.preRow_of_cond 8 hx (by kernel_rfl) (fun k hk=>by cases hk;kernel_rfl) (by kernel_rfl) (RE os))) ?_
 intro W base args ds gs before b6 hW _ hk _ hL _ _;exact law3g params3 (by kernel_rfl) (fun p c x hp hc h1 h2 h3 h4=>f3_spec p c x.1 x.2.pos x.2.jA x.2.j7 _ j0 (by unfold jD.wt at hc;omega) (by unfold jD.wt at hc;omega) j0 (fun y hy=>by have:=h2 y hy;omega) h3 h4) rfl (fun _ _ _=>rfl) b6 hW (hk _ rfl) (W6 hL)
theorem Jd:prog.funcNamed Rows.codeStepsUptoRow.func=some 3:=by kernel_rfl
theorem Qb:f3.isInstance prog Rows.codeStepsUptoRow.origin Rows.codeStepsUptoRow.targs:=cY (by kernel_rfl)
theorem Qa:f3.isWrapper prog Rows.codeStepsUptoRow.wrapper Rows.codeStepsUptoRow.mainSum:=by unfold Func.isWrapper;first|(rw[aG (by decide +kernel)];kernel_rfl)|(rw[aE (by decide +kernel)];exact⟨rfl,rfl⟩)
theorem steps_said:Rows.CodeStepsUptoSaid:=
 OpenClaim.holds_of_cond 3 f3 rfl rfl rfl rfl rfl rfl rfl ⟨rfl,rfl,rfl,rfl,rfl⟩ rfl rfl rfl rfl rfl Jd func3 Ob Qb Qa
  (fun os started H enc _ F=>by rw[OpenClaim.pre_eq_preRow];exact Mt os started H enc F)
theorem Oa(f:FuncId)(fn:Func)(hf:Tryz.pinned.checked.prog.funcNamed Rows.codeStepsUptoRow.func=some f)(b8:Tryz.pinned.checked.prog.funcs[f]? = some fn):
  true=Tryz.pinned.checked.prog.looks [] /\ ∀(j:Nat) t,fn.params[j]? = some t->Tryz.pinned.checked.prog.wantsStandIn t=false:=by
 obtain rfl:f=3:=Option.some.inj ((show prog.funcNamed Rows.codeStepsUptoRow.func=some 3 from Jd).symm.trans hf) |>.symm;obtain rfl:fn=f3:=(Option.some.inj (func3.symm.trans b8)).symm;refine⟨by kernel_rfl,fun j t ht=>?_⟩;rw[params3]at ht;have ht:t=27\/t=30\/t=36:=by simpa using Array.mem_of_getElem? ht
 rcases ht with rfl|rfl|rfl
 ·exact(show prog.wantsStandIn 27=false by kernel_rfl)
 ·exact(show prog.wantsStandIn 30=false by kernel_rfl)
 ·exact(show prog.wantsStandIn 36=false by kernel_rfl)
theorem steps_holds:Rows.CodeStepsUptoCardSaid:=
 Claim7.holds_tied_plain_at .later [] _ _ _ _ steps_said (fun _ h=>by cases h) (by kernel_rfl) (fun _ h=>by cases h) codeStepsUpto_row_tie rfl ⟨rfl,rfl⟩ (by kernel_rfl) rfl Oa (goes_no _ rfl)
end Go.Proofs.YteldimffglchkaaGreatDoor
