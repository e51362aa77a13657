/- The law CodeTexts ae of each code and string: where what is read is of bulk at most 1048576, the call says true and leaves its arguments; the library's tables are as the program's text lays them. -/
import Derived.Test.YteldimffglchkaaGreatDoorN17
import Derived.Test.YteldimffglchkaaGreatDoorN24
import Derived.Test.YteldimffglchkaaGreatDoorN25
set_option linter.all false
namespace Go.Proofs.YteldimffglchkaaGreatDoor
open Go.Proofs.Tryz
open Go Go.DL Go.ChangeShapes Go.WideShapes Go.ChangeAt Go.RowKit
set_option maxRecDepth 100000
theorem Q2(os:Os):laidMet prog Rows.codeTextsUptoRow.laid ((H1 os).forCall (fun _ _=>0) ⟨#[], #[.agg #[.slice none 0 0,.slice none 0 0,.int .i64 0],.string ⟨#[]⟩],[]⟩).memory:=
 laidMet_of_run' 8 (by kernel_rfl) (by kernel_rfl)
theorem MV(os:Os){H:Type}(enc:TypeId×Value->H): ∃places,DataW.whole enc prog ((H1 os).forCall (fun _ _=>0) ⟨#[], #[.agg #[.slice none 0 0,.slice none 0 0,.int .i64 0],.string ⟨#[]⟩],[]⟩).memory f11.params.toList Rows.codeTextsSpec.vars false #[Value.agg #[.slice none 0 0,.slice none 0 0,.int .i64 0],.string ⟨#[]⟩].toList 8=some ([.agg [.nil,.nil,.lit (.int .i64 0)],.lit (.string [])],[],places):=
 ⟨[],by kernel_rfl⟩
theorem Lg(os:Os)(started:os.Started)(H:Type)(enc:TypeId×Value->H)(F:Stop.Interp):
  ReturnsInHanded {} checked os 11 .any ((Rows.OpenSpec.upto Rows.codeTextsSpec).preRow enc prog f11 Rows.codeTextsUptoRow.domain false Rows.codeTextsUptoRow.laid) (((Rows.OpenSpec.upto Rows.codeTextsSpec).at F).post enc prog f11 false true false false):=by
 obtain⟨places,hx⟩:=MV os enc
 refine returnsInHanded_of_row (C:=checked) (s:=Rows.OpenSpec.upto Rows.codeTextsSpec) Go.DL.own started (by kernel_rfl) func11
  (witness_row_at (enc:=enc) (C:=checked) false (H1 os) #[.agg #[.slice none 0 0, .slice none 0 0, .int .i64 0], .string ⟨#[]⟩] rfl (by kernel_rfl) (by kernel_rfl) (by kernel_rfl)
   (OpenSpec.preRow_of_cond 8 hx (by kernel_rfl) (fun k hk=>by cases hk;kernel_rfl) (by kernel_rfl) (Q2 os))) ?_
 intro W base args ds gs before aa hW _ hk _ hL ah _
 exact law2s params11 (by kernel_rfl) (fun c s hc hs=>V4 c s _ (by unfold CProg.wt at hc;omega) (by unfold CProg.wt at hc;omega) (by omega)) rfl (fun _ _=>rfl) aa hW (hk _ rfl) (lib_of hL ah)
theorem HQ:prog.funcNamed Rows.codeTextsUptoRow.func=some 11:=by kernel_rfl
theorem OS:f11.isInstance prog Rows.codeTextsUptoRow.origin Rows.codeTextsUptoRow.targs:=of_decide_eq_true (by kernel_rfl)
theorem OR:f11.isWrapper prog Rows.codeTextsUptoRow.wrapper Rows.codeTextsUptoRow.mainSum:=by unfold Func.isWrapper;first|(rw[if_pos (by decide +kernel)];kernel_rfl)|(rw[if_neg (by decide +kernel)];exact⟨rfl,rfl⟩)
theorem texts_said:Rows.CodeTextsUptoSaid:=
 OpenClaim.holds_of_cond 11 f11 rfl rfl rfl rfl rfl rfl rfl ⟨rfl,rfl,rfl,rfl,rfl⟩ rfl rfl rfl rfl rfl HQ func11 MX OS OR
  (fun os started H enc _ F=>by rw[OpenClaim.pre_eq_preRow];exact Lg os started H enc F)
theorem MW(f:FuncId)(fn:Func)(hf:Tryz.pinned.checked.prog.funcNamed Rows.codeTextsUptoRow.func=some f)(ag:Tryz.pinned.checked.prog.funcs[f]? = some fn):
  true=Tryz.pinned.checked.prog.looks [] /\ ∀(j:Nat) t,fn.params[j]? = some t->Tryz.pinned.checked.prog.wantsStandIn t=false:=by
 obtain rfl:f=11:=Option.some.inj ((show prog.funcNamed Rows.codeTextsUptoRow.func=some 11 from HQ).symm.trans hf) |>.symm
 obtain rfl:fn=f11:=(Option.some.inj (func11.symm.trans ag)).symm
 refine⟨by kernel_rfl,fun j t ht=>?_⟩
 rw[params11]at ht
 have ht:t=30\/t=9:=by simpa using Array.mem_of_getElem? ht
 rcases ht with rfl|rfl
 ·exact(show prog.wantsStandIn 30=false by kernel_rfl)
 ·exact(show prog.wantsStandIn 9=false by kernel_rfl)
theorem texts_holds:Rows.CodeTextsUptoCardSaid:=
 Claim7.holds_tied_plain_at .later [] _ _ _ _ texts_said (fun _ h=>by cases h) (by kernel_rfl) (fun _ h=>by cases h) codeTextsUpto_row_tie rfl ⟨rfl,rfl⟩ (by kernel_rfl) rfl MW (goes_no _ rfl)
end Go.Proofs.YteldimffglchkaaGreatDoor
