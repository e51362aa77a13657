/- The law CodeStays ac of each program, objects and an integer: where what is read is of bulk at most 1048576, the call says true and leaves its arguments; the library's tables are as the program's text lays them. -/
import Derived.Test.YteldimffglchkaaGreatDoorM20
import Derived.Test.YteldimffglchkaaGreatDoorM25
import Derived.Test.YteldimffglchkaaGreatDoorM26
set_option linter.all false
namespace Go.Proofs.YteldimffglchkaaGreatDoor
open Go.Proofs.Tryz
open Go Go.DL Go.ChangeShapes Go.WideShapes Go.ChangeAt Go.RowKit
set_option maxRecDepth 100000
theorem QC(os:Os):laidMet prog Rows.codeStaysUptoRow.laid ((Je os).forCall (fun _ _=>0) ⟨#[], #[.agg #[.slice none 0 0,.int .i64 0,.slice none 0 0,.slice none 0 0,.slice none 0 0,.int .i64 0],.slice none 0 0,.int .i64 0],[]⟩).memory:=
 laidMet_of_run' 8 (by kernel_rfl) (by kernel_rfl)
theorem NC(os:Os){H:Type}(enc:TypeId×Value->H): ∃places,DataW.whole enc prog ((Je os).forCall (fun _ _=>0) ⟨#[], #[.agg #[.slice none 0 0,.int .i64 0,.slice none 0 0,.slice none 0 0,.slice none 0 0,.int .i64 0],.slice none 0 0,.int .i64 0],[]⟩).memory f5.params.toList Rows.codeStaysSpec.vars false #[Value.agg #[.slice none 0 0,.int .i64 0,.slice none 0 0,.slice none 0 0,.slice none 0 0,.int .i64 0],.slice none 0 0,.int .i64 0].toList 8=some ([.agg [.nil,.lit (.int .i64 0),.nil,.nil,.nil,.lit (.int .i64 0)],.nil,.lit (.int .i64 0)],[],places):=
 ⟨[],by kernel_rfl⟩
theorem M9(os:Os)(started:os.Started)(H:Type)(enc:TypeId×Value->H)(F:Stop.Interp):
  ReturnsInHanded {} checked os 5 .any ((Rows.OpenSpec.upto Rows.codeStaysSpec).preRow enc prog f5 Rows.codeStaysUptoRow.domain false Rows.codeStaysUptoRow.laid) (((Rows.OpenSpec.upto Rows.codeStaysSpec).at F).post enc prog f5 false true false false):=by
 obtain⟨places,hx⟩:=NC os enc
 refine returnsInHanded_of_row (C:=checked) (s:=Rows.OpenSpec.upto Rows.codeStaysSpec) Go.DL.own started (by kernel_rfl) func5
  (witness_row_at (enc:=enc) (C:=checked) false (Je os) #[.agg #[.slice none 0 0, .int .i64 0, .slice none 0 0, .slice none 0 0, .slice none 0 0, .int .i64 0], .slice none 0 0, .int .i64 0] rfl (by kernel_rfl) (by kernel_rfl) (by kernel_rfl)
   (OpenSpec.preRow_of_cond 8 hx (by kernel_rfl) (fun k hk=>by cases hk;kernel_rfl) (by kernel_rfl) (QC os))) ?_
 intro W base args ds gs before aa hW _ hk _ hL _ _
 exact law3 params5 (by kernel_rfl) (fun p l c hp hl hs=>f5_spec p l c _ _ (by omega) (by omega) fun x hx=>by have:=hs x hx;omega) rfl (fun _ _ _=>rfl) aa hW (hk _ rfl) (UG hL)
theorem IT:prog.funcNamed Rows.codeStaysUptoRow.func=some 5:=by kernel_rfl
theorem Pt:f5.isInstance prog Rows.codeStaysUptoRow.origin Rows.codeStaysUptoRow.targs:=of_decide_eq_true (by kernel_rfl)
theorem Ps:f5.isWrapper prog Rows.codeStaysUptoRow.wrapper Rows.codeStaysUptoRow.mainSum:=by unfold Func.isWrapper;first|(rw[if_pos (by decide +kernel)];kernel_rfl)|(rw[if_neg (by decide +kernel)];exact⟨rfl,rfl⟩)
theorem stays_said:Rows.CodeStaysUptoSaid:=
 OpenClaim.holds_of_cond 5 f5 rfl rfl rfl rfl rfl rfl rfl ⟨rfl,rfl,rfl,rfl,rfl⟩ rfl rfl rfl rfl rfl IT func5 NE Pt Ps
  (fun os started H enc _ F=>by rw[OpenClaim.pre_eq_preRow];exact M9 os started H enc F)
theorem ND(f:FuncId)(fn:Func)(hf:Tryz.pinned.checked.prog.funcNamed Rows.codeStaysUptoRow.func=some f)(ae:Tryz.pinned.checked.prog.funcs[f]? = some fn):
  true=Tryz.pinned.checked.prog.looks [] /\ ∀(j:Nat) t,fn.params[j]? = some t->Tryz.pinned.checked.prog.wantsStandIn t=false:=by
 obtain rfl:f=5:=Option.some.inj ((show prog.funcNamed Rows.codeStaysUptoRow.func=some 5 from IT).symm.trans hf) |>.symm
 obtain rfl:fn=f5:=(Option.some.inj (func5.symm.trans ae)).symm
 refine⟨by kernel_rfl,fun j t ht=>?_⟩
 rw[params5]at ht
 have ht:t=27\/t=31\/t=3:=by simpa using Array.mem_of_getElem? ht
 rcases ht with rfl|rfl|rfl
 ·exact(show prog.wantsStandIn 27=false by kernel_rfl)
 ·exact(show prog.wantsStandIn 31=false by kernel_rfl)
 ·exact(show prog.wantsStandIn 3=false by kernel_rfl)
theorem stays_holds:Rows.CodeStaysUptoCardSaid:=
 Claim7.holds_tied_plain_at .later [] _ _ _ _ stays_said (fun _ h=>by cases h) (by kernel_rfl) (fun _ h=>by cases h) codeStaysUpto_row_tie rfl ⟨rfl,rfl⟩ (by kernel_rfl) rfl ND (goes_no _ rfl)
end Go.Proofs.YteldimffglchkaaGreatDoor
