/- The law CodeHurt ac of each code, byte and difference: where what is read is of bulk at most 1048576, the call says true and leaves its arguments; the library's tables are as the program's text lays them. -/
import Derived.Test.YteldimffglchkaaGreatDoorQ21
import Derived.Test.YteldimffglchkaaGreatDoorQ29
import Derived.Test.YteldimffglchkaaGreatDoorQ30
set_option linter.all false
namespace Go.Proofs.YteldimffglchkaaGreatDoor
open Go.Proofs.Tryz
open Go Go.DL Go.ChangeShapes Go.WideShapes Go.ChangeAt Go.RowKit
set_option maxRecDepth 100000
theorem SV(os:Os):laidMet prog Rows.codeHurtUptoRow.laid ((I1 os).forCall (fun _ _=>0) ⟨#[], #[.agg #[.slice none 0 0,.slice none 0 0,.int .i64 0],.int .u16 0,.int .u8 0],[]⟩).memory:=
 laidMet_of_run' 8 (by kernel_rfl) (by kernel_rfl)
theorem O5(os:Os){H:Type}(enc:TypeId×Value->H): ∃places,DataW.whole enc prog ((I1 os).forCall (fun _ _=>0) ⟨#[], #[.agg #[.slice none 0 0,.slice none 0 0,.int .i64 0],.int .u16 0,.int .u8 0],[]⟩).memory f10.params.toList Rows.codeHurtSpec.vars false #[Value.agg #[.slice none 0 0,.slice none 0 0,.int .i64 0],.int .u16 0,.int .u8 0].toList 8=some ([.agg [.nil,.nil,.lit (.int .i64 0)],.lit (.int .u16 0),.lit (.int .u8 0)],[],places):=
 ⟨[],by kernel_rfl⟩
theorem Mf(os:Os)(started:os.Started)(H:Type)(enc:TypeId×Value->H)(F:Stop.Interp):
  ReturnsInHanded {} checked os 10 .any ((Rows.OpenSpec.upto Rows.codeHurtSpec).preRow enc prog f10 Rows.codeHurtUptoRow.domain false Rows.codeHurtUptoRow.laid) (((Rows.OpenSpec.upto Rows.codeHurtSpec).at F).post enc prog f10 false true false false):=by
 obtain⟨places,hx⟩:=O5 os enc
 refine returnsInHanded_of_row (C:=checked) (s:=Rows.OpenSpec.upto Rows.codeHurtSpec) Go.DL.own started (by kernel_rfl) func10
  (witness_row_at (enc:=enc) (C:=checked) false (I1 os) #[.agg #[.slice none 0 0, .slice none 0 0, .int .i64 0], .int .u16 0, .int .u8 0] rfl (by kernel_rfl) (by kernel_rfl) (by kernel_rfl)
   (OpenSpec.preRow_of_cond 8 hx (by kernel_rfl) (fun k hk=>by cases hk;kernel_rfl) (by kernel_rfl) (SV os))) ?_
 intro W base args ds gs before aa hW _ hk _ hL _ _
 exact law3u params10 (by kernel_rfl) (fun c a b hc ha hb=>Tq c a b _ (by unfold CProg.wt at hc;omega) (by unfold CProg.wt at hc;omega) ha hb) rfl (fun _ _ _=>rfl) aa hW (hk _ rfl) (SA hL)
theorem Jd:prog.funcNamed Rows.codeHurtUptoRow.func=some 10:=by kernel_rfl
theorem PQ:f10.isInstance prog Rows.codeHurtUptoRow.origin Rows.codeHurtUptoRow.targs:=of_decide_eq_true (by kernel_rfl)
theorem PP:f10.isWrapper prog Rows.codeHurtUptoRow.wrapper Rows.codeHurtUptoRow.mainSum:=by unfold Func.isWrapper;first|(rw[if_pos (by decide +kernel)];kernel_rfl)|(rw[if_neg (by decide +kernel)];exact⟨rfl,rfl⟩)
theorem hurt_said:Rows.CodeHurtUptoSaid:=
 OpenClaim.holds_of_cond 10 f10 rfl rfl rfl rfl rfl rfl rfl ⟨rfl,rfl,rfl,rfl,rfl⟩ rfl rfl rfl rfl rfl Jd func10 O7 PQ PP
  (fun os started H enc _ F=>by rw[OpenClaim.pre_eq_preRow];exact Mf os started H enc F)
theorem O6(f:FuncId)(fn:Func)(hf:Tryz.pinned.checked.prog.funcNamed Rows.codeHurtUptoRow.func=some f)(ae:Tryz.pinned.checked.prog.funcs[f]? = some fn):
  true=Tryz.pinned.checked.prog.looks [] /\ ∀(j:Nat) t,fn.params[j]? = some t->Tryz.pinned.checked.prog.wantsStandIn t=false:=by
 obtain rfl:f=10:=Option.some.inj ((show prog.funcNamed Rows.codeHurtUptoRow.func=some 10 from Jd).symm.trans hf) |>.symm
 obtain rfl:fn=f10:=(Option.some.inj (func10.symm.trans ae)).symm
 refine⟨by kernel_rfl,fun j t ht=>?_⟩
 rw[params10]at ht
 have ht:t=30\/t=52\/t=5:=by simpa using Array.mem_of_getElem? ht
 rcases ht with rfl|rfl|rfl
 ·exact(show prog.wantsStandIn 30=false by kernel_rfl)
 ·exact(show prog.wantsStandIn 52=false by kernel_rfl)
 ·exact(show prog.wantsStandIn 5=false by kernel_rfl)
theorem hurt_holds:Rows.CodeHurtUptoCardSaid:=
 Claim7.holds_tied_plain_at .later [] _ _ _ _ hurt_said (fun _ h=>by cases h) (by kernel_rfl) (fun _ h=>by cases h) codeHurtUpto_row_tie rfl ⟨rfl,rfl⟩ (by kernel_rfl) rfl O6 (goes_no _ rfl)
end Go.Proofs.YteldimffglchkaaGreatDoor
