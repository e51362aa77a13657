/- The law CodePacks ac of each code and string: where what is read is of bulk at most 1048576, the call says true and leaves its arguments; the library's tables are as the program's text lays them. -/
import Derived.Test.YteldimffglchkaaGreatDoorH21
import Derived.Test.YteldimffglchkaaGreatDoorH30
import Derived.Test.YteldimffglchkaaGreatDoorH31
set_option linter.all false
namespace Go.Proofs.YteldimffglchkaaGreatDoor
open Go.Proofs.Tryz
open Go Go.DL Go.ChangeShapes Go.WideShapes Go.ChangeAt Go.RowKit
set_option maxRecDepth 100000
theorem PE(os:Os):laidMet prog Rows.codePacksUptoRow.laid ((Ic os).forCall (fun _ _=>0) ⟨#[], #[.agg #[.slice none 0 0,.slice none 0 0,.int .i64 0],.string ⟨#[]⟩],[]⟩).memory:=
 laidMet_of_run' 8 (by kernel_rfl) (by kernel_rfl)
theorem Ms(os:Os){H:Type}(enc:TypeId×Value->H): ∃places,DataW.whole enc prog ((Ic os).forCall (fun _ _=>0) ⟨#[], #[.agg #[.slice none 0 0,.slice none 0 0,.int .i64 0],.string ⟨#[]⟩],[]⟩).memory f9.params.toList Rows.codePacksSpec.vars false #[Value.agg #[.slice none 0 0,.slice none 0 0,.int .i64 0],.string ⟨#[]⟩].toList 8=some ([.agg [.nil,.nil,.lit (.int .i64 0)],.lit (.string [])],[],places):=
 ⟨[],by kernel_rfl⟩
theorem L0(os:Os)(started:os.Started)(H:Type)(enc:TypeId×Value->H)(F:Stop.Interp):
  ReturnsInHanded {} checked os 9 .any ((Rows.OpenSpec.upto Rows.codePacksSpec).preRow enc prog f9 Rows.codePacksUptoRow.domain false Rows.codePacksUptoRow.laid) (((Rows.OpenSpec.upto Rows.codePacksSpec).at F).post enc prog f9 false true false false):=by
 obtain⟨places,hx⟩:=Ms os enc
 refine returnsInHanded_of_row (C:=checked) (s:=Rows.OpenSpec.upto Rows.codePacksSpec) Go.DL.own started (by kernel_rfl) func9
  (witness_row_at (enc:=enc) (C:=checked) false (Ic os) #[.agg #[.slice none 0 0, .slice none 0 0, .int .i64 0], .string ⟨#[]⟩] rfl (by kernel_rfl) (by kernel_rfl) (by kernel_rfl)
   (OpenSpec.preRow_of_cond 8 hx (by kernel_rfl) (fun k hk=>by cases hk;kernel_rfl) (by kernel_rfl) (PE os))) ?_
 intro W base args ds gs before aa hW _ hk _ hL _ _
 exact law2s params9 (by kernel_rfl) (fun c s hc hs=>f9_spec c s _ (by unfold CProg.wt at hc;omega) (by unfold CProg.wt at hc;omega) (by omega)) rfl (fun _ _=>rfl) aa hW (hk _ rfl) (Tc hL)
theorem HX:prog.funcNamed Rows.codePacksUptoRow.func=some 9:=by kernel_rfl
theorem Oj:f9.isInstance prog Rows.codePacksUptoRow.origin Rows.codePacksUptoRow.targs:=of_decide_eq_true (by kernel_rfl)
theorem Oi:f9.isWrapper prog Rows.codePacksUptoRow.wrapper Rows.codePacksUptoRow.mainSum:=by unfold Func.isWrapper;first|(rw[if_pos (by decide +kernel)];kernel_rfl)|(rw[if_neg (by decide +kernel)];exact⟨rfl,rfl⟩)
theorem packs_said:Rows.CodePacksUptoSaid:=
 OpenClaim.holds_of_cond 9 f9 rfl rfl rfl rfl rfl rfl rfl ⟨rfl,rfl,rfl,rfl,rfl⟩ rfl rfl rfl rfl rfl HX func9 Mu Oj Oi
  (fun os started H enc _ F=>by rw[OpenClaim.pre_eq_preRow];exact L0 os started H enc F)
theorem Mt(f:FuncId)(fn:Func)(hf:Tryz.pinned.checked.prog.funcNamed Rows.codePacksUptoRow.func=some f)(ae:Tryz.pinned.checked.prog.funcs[f]? = some fn):
  true=Tryz.pinned.checked.prog.looks [] /\ ∀(j:Nat) t,fn.params[j]? = some t->Tryz.pinned.checked.prog.wantsStandIn t=false:=by
 obtain rfl:f=9:=Option.some.inj ((show prog.funcNamed Rows.codePacksUptoRow.func=some 9 from HX).symm.trans hf) |>.symm
 obtain rfl:fn=f9:=(Option.some.inj (func9.symm.trans ae)).symm
 refine⟨by kernel_rfl,fun j t ht=>?_⟩
 rw[params9]at ht
 have ht:t=30\/t=9:=by simpa using Array.mem_of_getElem? ht
 rcases ht with rfl|rfl
 ·exact(show prog.wantsStandIn 30=false by kernel_rfl)
 ·exact(show prog.wantsStandIn 9=false by kernel_rfl)
theorem packs_holds:Rows.CodePacksUptoCardSaid:=
 Claim7.holds_tied_plain_at .later [] _ _ _ _ packs_said (fun _ h=>by cases h) (by kernel_rfl) (fun _ h=>by cases h) codePacksUpto_row_tie rfl ⟨rfl,rfl⟩ (by kernel_rfl) rfl Mt (goes_no _ rfl)
end Go.Proofs.YteldimffglchkaaGreatDoor
