/- The law CodeChecks ac of each program and code: where what is read is of bulk at most 1048576, the call says true and leaves its arguments; the library's tables are as the program's text lays them. -/
import Derived.Test.YteldimffglchkaaGreatDoorR20
import Derived.Test.YteldimffglchkaaGreatDoorR26
import Derived.Test.YteldimffglchkaaGreatDoorR27
set_option linter.all false
namespace Go.Proofs.YteldimffglchkaaGreatDoor
open Go.Proofs.Tryz
open Go Go.DL Go.ChangeShapes Go.WideShapes Go.ChangeAt Go.RowKit
set_option maxRecDepth 100000
theorem PV(os:Os):laidMet prog Rows.codeChecksUptoRow.laid ((J5 os).forCall (fun _ _=>0) ⟨#[], #[.agg #[.slice none 0 0,.int .i64 0,.slice none 0 0,.slice none 0 0,.slice none 0 0,.int .i64 0],.agg #[.slice none 0 0,.slice none 0 0,.int .i64 0]],[]⟩).memory:=
 laidMet_of_run' 8 (by kernel_rfl) (by kernel_rfl)
theorem MY(os:Os){H:Type}(enc:TypeId×Value->H): ∃places,DataW.whole enc prog ((J5 os).forCall (fun _ _=>0) ⟨#[], #[.agg #[.slice none 0 0,.int .i64 0,.slice none 0 0,.slice none 0 0,.slice none 0 0,.int .i64 0],.agg #[.slice none 0 0,.slice none 0 0,.int .i64 0]],[]⟩).memory f8.params.toList Rows.codeChecksSpec.vars false #[Value.agg #[.slice none 0 0,.int .i64 0,.slice none 0 0,.slice none 0 0,.slice none 0 0,.int .i64 0],.agg #[.slice none 0 0,.slice none 0 0,.int .i64 0]].toList 8=some ([.agg [.nil,.lit (.int .i64 0),.nil,.nil,.nil,.lit (.int .i64 0)],.agg [.nil,.nil,.lit (.int .i64 0)]],[],places):=
 ⟨[],by kernel_rfl⟩
theorem LD(os:Os)(started:os.Started)(H:Type)(enc:TypeId×Value->H)(F:Stop.Interp):
  ReturnsInHanded {} checked os 8 .any ((Rows.OpenSpec.upto Rows.codeChecksSpec).preRow enc prog f8 Rows.codeChecksUptoRow.domain false Rows.codeChecksUptoRow.laid) (((Rows.OpenSpec.upto Rows.codeChecksSpec).at F).post enc prog f8 false true false false):=by
 obtain⟨places,hx⟩:=MY os enc
 refine returnsInHanded_of_row (C:=checked) (s:=Rows.OpenSpec.upto Rows.codeChecksSpec) Go.DL.own started (by kernel_rfl) func8
  (witness_row_at (enc:=enc) (C:=checked) false (J5 os) #[.agg #[.slice none 0 0, .int .i64 0, .slice none 0 0, .slice none 0 0, .slice none 0 0, .int .i64 0], .agg #[.slice none 0 0, .slice none 0 0, .int .i64 0]] rfl (by kernel_rfl) (by kernel_rfl) (by kernel_rfl)
   (OpenSpec.preRow_of_cond 8 hx (by kernel_rfl) (fun k hk=>by cases hk;kernel_rfl) (by kernel_rfl) (PV os))) ?_
 intro W base args ds gs before aa hW _ hk _ hL _ _
 exact law2c params8 (by kernel_rfl) (fun p c hp hc=>f8_spec p c _ (by omega) (by unfold CProg.wt at hc;omega) (by unfold CProg.wt at hc;omega)) rfl (fun _ _=>rfl) aa hW (hk _ rfl) (Ux hL)
theorem Id:prog.funcNamed Rows.codeChecksUptoRow.func=some 8:=by kernel_rfl
theorem NO:f8.isInstance prog Rows.codeChecksUptoRow.origin Rows.codeChecksUptoRow.targs:=of_decide_eq_true (by kernel_rfl)
theorem NN:f8.isWrapper prog Rows.codeChecksUptoRow.wrapper Rows.codeChecksUptoRow.mainSum:=by unfold Func.isWrapper;first|(rw[if_pos (by decide +kernel)];kernel_rfl)|(rw[if_neg (by decide +kernel)];exact⟨rfl,rfl⟩)
theorem checks_said:Rows.CodeChecksUptoSaid:=
 OpenClaim.holds_of_cond 8 f8 rfl rfl rfl rfl rfl rfl rfl ⟨rfl,rfl,rfl,rfl,rfl⟩ rfl rfl rfl rfl rfl Id func8 N0 NO NN
  (fun os started H enc _ F=>by rw[OpenClaim.pre_eq_preRow];exact LD os started H enc F)
theorem MZ(f:FuncId)(fn:Func)(hf:Tryz.pinned.checked.prog.funcNamed Rows.codeChecksUptoRow.func=some f)(ae:Tryz.pinned.checked.prog.funcs[f]? = some fn):
  true=Tryz.pinned.checked.prog.looks [] /\ ∀(j:Nat) t,fn.params[j]? = some t->Tryz.pinned.checked.prog.wantsStandIn t=false:=by
 obtain rfl:f=8:=Option.some.inj ((show prog.funcNamed Rows.codeChecksUptoRow.func=some 8 from Id).symm.trans hf) |>.symm
 obtain rfl:fn=f8:=(Option.some.inj (func8.symm.trans ae)).symm
 refine⟨by kernel_rfl,fun j t ht=>?_⟩
 rw[params8]at ht
 have ht:t=27\/t=30:=by simpa using Array.mem_of_getElem? ht
 rcases ht with rfl|rfl
 ·exact(show prog.wantsStandIn 27=false by kernel_rfl)
 ·exact(show prog.wantsStandIn 30=false by kernel_rfl)
theorem checks_holds:Rows.CodeChecksUptoCardSaid:=
 Claim7.holds_tied_plain_at .later [] _ _ _ _ checks_said (fun _ h=>by cases h) (by kernel_rfl) (fun _ h=>by cases h) codeChecksUpto_row_tie rfl ⟨rfl,rfl⟩ (by kernel_rfl) rfl MZ (goes_no _ rfl)
end Go.Proofs.YteldimffglchkaaGreatDoor
