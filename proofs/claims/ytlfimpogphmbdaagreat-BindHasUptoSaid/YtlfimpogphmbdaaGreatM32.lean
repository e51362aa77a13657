/- The law BindHas holds of each program by numbers and each integer: where what is read is of bulk at most 1048576, the call says true and leaves its arguments. -/
import Derived.Test.YtlfimpogphmbdaaGreatM29
import Derived.Test.YtlfimpogphmbdaaGreatM31
set_option linter.all false
namespace Go.DL
open Go.Proofs.Tryz
open Go Go.Proofs Go.ChangeShapes Go.WideShapes Go.ChangeAt Go.RowKit
open Go.Proofs.YtlfimpogphmbdaaGreat
set_option maxRecDepth 100000
section
variable {H:Type} {enc:TypeId × Value->H} {W:Go.World} {base:Nat}
theorem QJ:prog.readableRec 3=true:=by kernel_rfl
theorem Nl:3 < prog.types.size:=of_decide_eq_true (by kernel_rfl)
theorem To {v:Value} {d:DataW H} {ps:List MemPlace} (hval:Value.okWide prog W .any base 3 v) (h:DataW.Trod enc prog W 0 (fun _=>true) true 3 v d ps) : ∃ k:Int,Rep (g0 W) (dI k) v:=by
 obtain ⟨k,rfl⟩:=okWide_int underlying3 hval
 exact ⟨k,rfl⟩
theorem law2 {N:Nat} {f:Func} (hf:f.params = #[27,3]) (hrt:f.resultTypes = #[4]) (hN : ∀ (p:BProg) (c:Int),p.wt<=1048576->DCall prog N [.agg (Af p),dI c] (fun _=>none) fun x _=>x = .ret (.bool true))
  {s:ChangeSpec} (hv:s.vars=[]) (hfn : ∀ d e,s.fn H [d,e]={ results:=[.lit (.bool true)],args:=[d,e] }) {args:Array Value} {ds gs:List (DataW H)} {before:List MemPlace}
  (hval : ∀ (j:Nat) t v,f.params[j]? = some t->args[j]? = some v->Value.okWide prog W .any base t v)
  (hW:DataW.Whole enc prog f.params.toList s.vars false W args.toList ds gs before) (hk:Rows.uptoSmall H (ds++gs)=true) :
  Calls prog N args W fun e W' => ∃ v,e = .returned v/\s.post enc prog f false true false false W args v W':=by
 have hW':=hW
 obtain ⟨p,q,hA,hV,rfl,hfz,hnd⟩:=hW
 rw [hv] at hV
 obtain ⟨rfl,rfl⟩:=trodVars_none hV
 rw [hf] at hA hval
 obtain ⟨v0,vs0,d0,ds0,p0,q0,hargs,rfl,rfl,h0,r0⟩:=trodAll_cons hA
 obtain ⟨v1,vs1,d1,ds1,p1,q1,hargs1,rfl,rfl,h1,r1⟩:=trodAll_cons r0
 obtain ⟨rfl,rfl,rfl⟩:=trodAll_nil r1
 obtain rfl:args = #[v0,v1]:=by cases args;simp_all
 have hb:Rows.uptoBulk d0+(Rows.uptoBulk d1+0)<=1048576:=of_decide_eq_true hk
 obtain ⟨pr,hr,hw⟩:=Iy (hval 0 27 v0 rfl rfl) h0
 obtain ⟨c,hc⟩:=To (hval 1 3 v1 rfl rfl) h1
 refine (IJ (hN pr c (by omega)) W (vs:=[v0,v1]) ⟨v0,[v1],rfl,hr,v1,[],rfl,hc,rfl⟩).mono fun e W' ⟨he,hold,hos,hout⟩ => ?_
 refine ⟨_,he,L2 hv hrt (fun t ht => ?_) hW' (hfn d0 d1) hold hos hout⟩
 rw [hf] at ht
 have ht:t=27\/t=3:=by simpa using ht
 rcases ht with rfl | rfl
 ·exact ⟨Hk,H7⟩
 ·exact ⟨QJ,Nl⟩
end
end Go.DL
namespace Go.Proofs.YtlfimpogphmbdaaGreat
open Go.Proofs.Tryz
open Go Go.DL Go.ChangeShapes Go.WideShapes Go.ChangeAt Go.RowKit
set_option maxRecDepth 100000
theorem Pw (os:Os) (started:os.Started) (H:Type) (enc:TypeId × Value->H) (F:Stop.Interp) :
  ReturnsInHanded {} checked os 6 .any ((Rows.OpenSpec.upto Rows.bindHasSpec).pre6 enc prog f6 Rows.bindHasUptoRow.domain false) (((Rows.OpenSpec.upto Rows.bindHasSpec).at F).post enc prog f6 false true false false):=by
 refine returnsInHanded_of_cond (C:=checked) (s:=Rows.OpenSpec.upto Rows.bindHasSpec) (k:=Rows.uptoSmall) rfl Go.DL.own started (by kernel_rfl) func6
  (OpenSpec.witness (enc:=enc) (C:=checked) (s:=Rows.OpenSpec.upto Rows.bindHasSpec) (k:=Rows.uptoSmall) rfl false ⟨#[], #[.agg #[.slice none 0 0, .int .i64 0, .slice none 0 0, .slice none 0 0, .slice none 0 0, .int .i64 0], .int .i64 0],[]⟩ 8 (by kernel_rfl) (by kernel_rfl) (by kernel_rfl)
   (x:=([.agg [.nil, .lit (.int .i64 0), .nil, .nil, .nil, .lit (.int .i64 0)], .lit (.int .i64 0)],[],[])) (by kernel_rfl) rfl (by kernel_rfl)) ?_
 intro W base args ds gs before hval hW _ hk _
 exact law2 params6 (by kernel_rfl) (fun p c hp=>(Rs p c _ (by omega)).mono fun _ _ h=>h.1) rfl (fun _ _=>rfl) hval hW hk
theorem Ra:prog.funcNamed Rows.bindHasUptoRow.func=some 6:=by kernel_rfl
theorem Rb:joinedFacts prog 6 f6 (Rows.OpenSpec.upto Rows.bindHasSpec).bare Rows.bindHasUptoRow=true:=by kernel_rfl
theorem TG:f6.isInstance prog Rows.bindHasUptoRow.origin Rows.bindHasUptoRow.targs:=of_decide_eq_true (by kernel_rfl)
theorem TF:f6.isWrapper prog Rows.bindHasUptoRow.wrapper Rows.bindHasUptoRow.mainSum:=by unfold Func.isWrapper;first | (rw [if_pos (by decide +kernel)];kernel_rfl) | (rw [if_neg (by decide +kernel)];exact ⟨rfl,rfl⟩)
theorem has_holds:Rows.BindHasUptoSaid :=
 OpenClaim.holds_of_cond 6 f6 rfl rfl rfl rfl rfl rfl rfl ⟨rfl,rfl,rfl,rfl,rfl⟩ rfl rfl rfl rfl rfl Ra func6 Rb TG TF
  (fun os started H enc _ F=>Pw os started H enc F)
end Go.Proofs.YtlfimpogphmbdaaGreat
