/- The law CodeLasts ac of each program: where what is read is of bulk at most 1048576, the call says true and leaves its argument; the library's tables are as the program's text lays them. -/
import Derived.Test.YteldimffglchkaaGreatDoorH19
import Derived.Test.YteldimffglchkaaGreatDoorH25
import Derived.Test.YteldimffglchkaaGreatDoorH26
set_option linter.all false
namespace Go.Proofs.YteldimffglchkaaGreatDoor
open Go.Proofs.Tryz
open Go Go.DL Go.ChangeShapes Go.WideShapes Go.ChangeAt Go.RowKit
set_option maxRecDepth 100000
theorem R6(os:Os):laidMet prog Rows.codeLastsUptoRow.laid ((J3 os).forCall (fun _ _=>0) ⟨#[], #[.agg #[.slice none 0 0,.int .i64 0,.slice none 0 0,.slice none 0 0,.slice none 0 0,.int .i64 0]],[]⟩).memory:=
 laidMet_of_run' 8 (by kernel_rfl) (by kernel_rfl)
theorem Nu(os:Os){H:Type}(enc:TypeId×Value->H): ∃places,DataW.whole enc prog ((J3 os).forCall (fun _ _=>0) ⟨#[], #[.agg #[.slice none 0 0,.int .i64 0,.slice none 0 0,.slice none 0 0,.slice none 0 0,.int .i64 0]],[]⟩).memory f6.params.toList Rows.codeLastsSpec.vars false #[Value.agg #[.slice none 0 0,.int .i64 0,.slice none 0 0,.slice none 0 0,.slice none 0 0,.int .i64 0]].toList 8=some ([.agg [.nil,.lit (.int .i64 0),.nil,.nil,.nil,.lit (.int .i64 0)]],[],places):=
 ⟨[],by kernel_rfl⟩
theorem Mb(os:Os)(started:os.Started)(H:Type)(enc:TypeId×Value->H)(F:Stop.Interp):
  ReturnsInHanded {} checked os 6 .any ((Rows.OpenSpec.upto Rows.codeLastsSpec).preRow enc prog f6 Rows.codeLastsUptoRow.domain false Rows.codeLastsUptoRow.laid) (((Rows.OpenSpec.upto Rows.codeLastsSpec).at F).post enc prog f6 false true false false):=by
 obtain⟨places,hx⟩:=Nu os enc
 refine returnsInHanded_of_row (C:=checked) (s:=Rows.OpenSpec.upto Rows.codeLastsSpec) Go.DL.own started (by kernel_rfl) func6
  (witness_row_at (enc:=enc) (C:=checked) false (J3 os) #[.agg #[.slice none 0 0, .int .i64 0, .slice none 0 0, .slice none 0 0, .slice none 0 0, .int .i64 0]] rfl (by kernel_rfl) (by kernel_rfl) (by kernel_rfl)
   (OpenSpec.preRow_of_cond 8 hx (by kernel_rfl) (fun k hk=>by cases hk;kernel_rfl) (by kernel_rfl) (R6 os))) ?_
 intro W base args ds gs before aa hW _ hk _ hL _ _
 exact law1 params6 (by kernel_rfl) (fun p hp=>(f6_spec p _ (by omega)).mono fun _ _ h=>h.1) rfl (fun _=>rfl) aa hW (hk _ rfl) (Ud hL)
theorem J2:prog.funcNamed Rows.codeLastsUptoRow.func=some 6:=by kernel_rfl
theorem Pi:f6.isInstance prog Rows.codeLastsUptoRow.origin Rows.codeLastsUptoRow.targs:=of_decide_eq_true (by kernel_rfl)
theorem Ph:f6.isWrapper prog Rows.codeLastsUptoRow.wrapper Rows.codeLastsUptoRow.mainSum:=by unfold Func.isWrapper;first|(rw[if_pos (by decide +kernel)];kernel_rfl)|(rw[if_neg (by decide +kernel)];exact⟨rfl,rfl⟩)
theorem lasts_said:Rows.CodeLastsUptoSaid:=
 OpenClaim.holds_of_cond 6 f6 rfl rfl rfl rfl rfl rfl rfl ⟨rfl,rfl,rfl,rfl,rfl⟩ rfl rfl rfl rfl rfl J2 func6 Nw Pi Ph
  (fun os started H enc _ F=>by rw[OpenClaim.pre_eq_preRow];exact Mb os started H enc F)
theorem Nv(f:FuncId)(fn:Func)(hf:Tryz.pinned.checked.prog.funcNamed Rows.codeLastsUptoRow.func=some f)(ae:Tryz.pinned.checked.prog.funcs[f]? = some fn):
  true=Tryz.pinned.checked.prog.looks [] /\ ∀(j:Nat) t,fn.params[j]? = some t->Tryz.pinned.checked.prog.wantsStandIn t=false:=by
 obtain rfl:f=6:=Option.some.inj ((show prog.funcNamed Rows.codeLastsUptoRow.func=some 6 from J2).symm.trans hf) |>.symm
 obtain rfl:fn=f6:=(Option.some.inj (func6.symm.trans ae)).symm
 refine⟨by kernel_rfl,fun j t ht=>?_⟩
 rw[params6]at ht
 obtain rfl:t=27:=by simpa using Array.mem_of_getElem? ht
 exact(show prog.wantsStandIn 27=false by kernel_rfl)
theorem lasts_holds:Rows.CodeLastsUptoCardSaid:=
 Claim7.holds_tied_plain_at .later [] _ _ _ _ lasts_said (fun _ h=>by cases h) (by kernel_rfl) (fun _ h=>by cases h) codeLastsUpto_row_tie rfl ⟨rfl,rfl⟩ (by kernel_rfl) rfl Nv (goes_no _ rfl)
end Go.Proofs.YteldimffglchkaaGreatDoor
