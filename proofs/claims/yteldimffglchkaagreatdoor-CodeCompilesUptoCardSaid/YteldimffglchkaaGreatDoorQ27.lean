/- The law CodeCompiles ac of each program: where what is read is of bulk at most 1048576, the call says true and leaves its argument; the library's tables are as the program's text lays them. -/
import Derived.Test.YteldimffglchkaaGreatDoorQ19
import Derived.Test.YteldimffglchkaaGreatDoorQ25
import Derived.Test.YteldimffglchkaaGreatDoorQ26
set_option linter.all false
namespace Go.Proofs.YteldimffglchkaaGreatDoor
open Go.Proofs.Tryz
open Go Go.DL Go.ChangeShapes Go.WideShapes Go.ChangeAt Go.RowKit
set_option maxRecDepth 100000
theorem N5(os:Os):laidMet prog Rows.codeCompilesUptoRow.laid ((J6 os).forCall (fun _ _=>0) ⟨#[], #[.agg #[.slice none 0 0,.int .i64 0,.slice none 0 0,.slice none 0 0,.slice none 0 0,.int .i64 0]],[]⟩).memory:=
 laidMet_of_run' 8 (by kernel_rfl) (by kernel_rfl)
theorem JY(os:Os){H:Type}(enc:TypeId×Value->H): ∃places,DataW.whole enc prog ((J6 os).forCall (fun _ _=>0) ⟨#[], #[.agg #[.slice none 0 0,.int .i64 0,.slice none 0 0,.slice none 0 0,.slice none 0 0,.int .i64 0]],[]⟩).memory f7.params.toList Rows.codeCompilesSpec.vars false #[Value.agg #[.slice none 0 0,.int .i64 0,.slice none 0 0,.slice none 0 0,.slice none 0 0,.int .i64 0]].toList 8=some ([.agg [.nil,.lit (.int .i64 0),.nil,.nil,.nil,.lit (.int .i64 0)]],[],places):=
 ⟨[],by kernel_rfl⟩
theorem Jz(os:Os)(started:os.Started)(H:Type)(enc:TypeId×Value->H)(F:Stop.Interp):
  ReturnsInHanded {} checked os 7 .any ((Rows.OpenSpec.upto Rows.codeCompilesSpec).preRow enc prog f7 Rows.codeCompilesUptoRow.domain false Rows.codeCompilesUptoRow.laid) (((Rows.OpenSpec.upto Rows.codeCompilesSpec).at F).post enc prog f7 false true false false):=by
 obtain⟨places,hx⟩:=JY os enc
 refine returnsInHanded_of_row (C:=checked) (s:=Rows.OpenSpec.upto Rows.codeCompilesSpec) Go.DL.own started (by kernel_rfl) func7
  (witness_row_at (enc:=enc) (C:=checked) false (J6 os) #[.agg #[.slice none 0 0, .int .i64 0, .slice none 0 0, .slice none 0 0, .slice none 0 0, .int .i64 0]] rfl (by kernel_rfl) (by kernel_rfl) (by kernel_rfl)
   (OpenSpec.preRow_of_cond 8 hx (by kernel_rfl) (fun k hk=>by cases hk;kernel_rfl) (by kernel_rfl) (N5 os))) ?_
 intro W base args ds gs before aa hW _ hk _ hL _ _
 exact law1 params7 (by kernel_rfl) (fun p hp=>(f7_spec p _ (by omega)).mono fun _ _ h=>h.1) rfl (fun _=>rfl) aa hW (hk _ rfl) (Ur hL)
theorem Gj:prog.funcNamed Rows.codeCompilesUptoRow.func=some 7:=by kernel_rfl
theorem LM:f7.isInstance prog Rows.codeCompilesUptoRow.origin Rows.codeCompilesUptoRow.targs:=of_decide_eq_true (by kernel_rfl)
theorem LL:f7.isWrapper prog Rows.codeCompilesUptoRow.wrapper Rows.codeCompilesUptoRow.mainSum:=by unfold Func.isWrapper;first|(rw[if_pos (by decide +kernel)];kernel_rfl)|(rw[if_neg (by decide +kernel)];exact⟨rfl,rfl⟩)
theorem compiles_said:Rows.CodeCompilesUptoSaid:=
 OpenClaim.holds_of_cond 7 f7 rfl rfl rfl rfl rfl rfl rfl ⟨rfl,rfl,rfl,rfl,rfl⟩ rfl rfl rfl rfl rfl Gj func7 K0 LM LL
  (fun os started H enc _ F=>by rw[OpenClaim.pre_eq_preRow];exact Jz os started H enc F)
theorem JZ(f:FuncId)(fn:Func)(hf:Tryz.pinned.checked.prog.funcNamed Rows.codeCompilesUptoRow.func=some f)(ae:Tryz.pinned.checked.prog.funcs[f]? = some fn):
  true=Tryz.pinned.checked.prog.looks [] /\ ∀(j:Nat) t,fn.params[j]? = some t->Tryz.pinned.checked.prog.wantsStandIn t=false:=by
 obtain rfl:f=7:=Option.some.inj ((show prog.funcNamed Rows.codeCompilesUptoRow.func=some 7 from Gj).symm.trans hf) |>.symm
 obtain rfl:fn=f7:=(Option.some.inj (func7.symm.trans ae)).symm
 refine⟨by kernel_rfl,fun j t ht=>?_⟩
 rw[params7]at ht
 obtain rfl:t=27:=by simpa using Array.mem_of_getElem? ht
 exact(show prog.wantsStandIn 27=false by kernel_rfl)
theorem compiles_holds:Rows.CodeCompilesUptoCardSaid:=
 Claim7.holds_tied_plain_at .later [] _ _ _ _ compiles_said (fun _ h=>by cases h) (by kernel_rfl) (fun _ h=>by cases h) codeCompilesUpto_row_tie rfl ⟨rfl,rfl⟩ (by kernel_rfl) rfl JZ (goes_no _ rfl)
end Go.Proofs.YteldimffglchkaaGreatDoor
