/- The law CodeWays ae of each code and string: where what is read is of bulk at most 1048576, the call says true and leaves its arguments; the library's tables are as the program's text lays them. -/
import Derived.Test.YteldimffglchkaaGreatDoorM22
import Derived.Test.YteldimffglchkaaGreatDoorM31
import Derived.Test.YteldimffglchkaaGreatDoorM32
set_option linter.all false
namespace Go.Proofs.YteldimffglchkaaGreatDoor
open Go.Proofs.Tryz
open Go Go.DL Go.ChangeShapes Go.WideShapes Go.ChangeAt Go.RowKit
set_option maxRecDepth 100000
theorem TQ(os:Os):laidMet prog Rows.codeWaysUptoRow.laid ((H3 os).forCall (fun _ _=>0) ⟨#[], #[.agg #[.slice none 0 0,.slice none 0 0,.int .i64 0],.string ⟨#[]⟩],[]⟩).memory:=
 laidMet_of_run' 8 (by kernel_rfl) (by kernel_rfl)
theorem OR(os:Os){H:Type}(enc:TypeId×Value->H): ∃places,DataW.whole enc prog ((H3 os).forCall (fun _ _=>0) ⟨#[], #[.agg #[.slice none 0 0,.slice none 0 0,.int .i64 0],.string ⟨#[]⟩],[]⟩).memory f12.params.toList Rows.codeWaysSpec.vars false #[Value.agg #[.slice none 0 0,.slice none 0 0,.int .i64 0],.string ⟨#[]⟩].toList 8=some ([.agg [.nil,.nil,.lit (.int .i64 0)],.lit (.string [])],[],places):=
 ⟨[],by kernel_rfl⟩
theorem MW(os:Os)(started:os.Started)(H:Type)(enc:TypeId×Value->H)(F:Stop.Interp):
  ReturnsInHanded {} checked os 12 .any ((Rows.OpenSpec.upto Rows.codeWaysSpec).preRow enc prog f12 Rows.codeWaysUptoRow.domain false Rows.codeWaysUptoRow.laid) (((Rows.OpenSpec.upto Rows.codeWaysSpec).at F).post enc prog f12 false true false false):=by
 obtain⟨places,hx⟩:=OR os enc
 refine returnsInHanded_of_row (C:=checked) (s:=Rows.OpenSpec.upto Rows.codeWaysSpec) Go.DL.own started (by kernel_rfl) func12
  (witness_row_at (enc:=enc) (C:=checked) false (H3 os) #[.agg #[.slice none 0 0, .slice none 0 0, .int .i64 0], .string ⟨#[]⟩] rfl (by kernel_rfl) (by kernel_rfl) (by kernel_rfl)
   (OpenSpec.preRow_of_cond 8 hx (by kernel_rfl) (fun k hk=>by cases hk;kernel_rfl) (by kernel_rfl) (TQ os))) ?_
 intro W base args ds gs before aa hW _ hk _ hL ah _
 exact law2s params12 (by kernel_rfl) (fun c s hc hs=>UU c s _ (by unfold CProg.wt at hc;omega) (by unfold CProg.wt at hc;omega) (by omega)) rfl (fun _ _=>rfl) aa hW (hk _ rfl) (lib_of hL ah)
theorem Jy:prog.funcNamed Rows.codeWaysUptoRow.func=some 12:=by kernel_rfl
theorem Q2:f12.isInstance prog Rows.codeWaysUptoRow.origin Rows.codeWaysUptoRow.targs:=of_decide_eq_true (by kernel_rfl)
theorem Q1:f12.isWrapper prog Rows.codeWaysUptoRow.wrapper Rows.codeWaysUptoRow.mainSum:=by unfold Func.isWrapper;first|(rw[if_pos (by decide +kernel)];kernel_rfl)|(rw[if_neg (by decide +kernel)];exact⟨rfl,rfl⟩)
theorem ways_said:Rows.CodeWaysUptoSaid:=
 OpenClaim.holds_of_cond 12 f12 rfl rfl rfl rfl rfl rfl rfl ⟨rfl,rfl,rfl,rfl,rfl⟩ rfl rfl rfl rfl rfl Jy func12 OU Q2 Q1
  (fun os started H enc _ F=>by rw[OpenClaim.pre_eq_preRow];exact MW os started H enc F)
theorem OS(f:FuncId)(fn:Func)(hf:Tryz.pinned.checked.prog.funcNamed Rows.codeWaysUptoRow.func=some f)(ag:Tryz.pinned.checked.prog.funcs[f]? = some fn):
  true=Tryz.pinned.checked.prog.looks [] /\ ∀(j:Nat) t,fn.params[j]? = some t->Tryz.pinned.checked.prog.wantsStandIn t=false:=by
 obtain rfl:f=12:=Option.some.inj ((show prog.funcNamed Rows.codeWaysUptoRow.func=some 12 from Jy).symm.trans hf) |>.symm
 obtain rfl:fn=f12:=(Option.some.inj (func12.symm.trans ag)).symm
 refine⟨by kernel_rfl,fun j t ht=>?_⟩
 rw[params12]at ht
 have ht:t=30\/t=9:=by simpa using Array.mem_of_getElem? ht
 rcases ht with rfl|rfl
 ·exact(show prog.wantsStandIn 30=false by kernel_rfl)
 ·exact(show prog.wantsStandIn 9=false by kernel_rfl)
theorem ways_holds:Rows.CodeWaysUptoCardSaid:=
 Claim7.holds_tied_plain_at .later [] _ _ _ _ ways_said (fun _ h=>by cases h) (by kernel_rfl) (fun _ h=>by cases h) codeWaysUpto_row_tie rfl ⟨rfl,rfl⟩ (by kernel_rfl) rfl OS (goes_no _ rfl)
end Go.Proofs.YteldimffglchkaaGreatDoor
