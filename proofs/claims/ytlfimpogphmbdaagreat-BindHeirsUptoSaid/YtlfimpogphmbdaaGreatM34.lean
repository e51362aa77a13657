/- The law BindHeirs holds of each program by numbers and each two integers: where what is read is of bulk at most 1048576, the call says true and leaves its arguments. -/
import Derived.Test.YtlfimpogphmbdaaGreatM29
import Derived.Test.YtlfimpogphmbdaaGreatM33
set_option linter.all false
namespace Go.DL
open Go.Proofs.Tryz
open Go Go.Proofs Go.ChangeShapes Go.WideShapes Go.ChangeAt Go.RowKit
open Go.Proofs.YtlfimpogphmbdaaGreat
set_option maxRecDepth 100000
section
variable {H:Type} {enc:TypeId × Value->H} {W:Go.World} {base:Nat}
theorem Pm:prog.readableRec 3=true:=by kernel_rfl
theorem LH:3 < prog.types.size:=of_decide_eq_true (by kernel_rfl)
theorem LW {v:Value} {d:DataW H} {ps:List MemPlace} (hval:Value.okWide prog W .any base 3 v) (h:DataW.Trod enc prog W 0 (fun _=>true) true 3 v d ps) : ∃ k:Int,Rep (g0 W) (dI k) v:=by
 obtain ⟨k,rfl⟩:=okWide_int underlying3 hval
 exact ⟨k,rfl⟩
theorem law3 {N:Nat} {f:Func} (hf:f.params = #[27,3,3]) (hrt:f.resultTypes = #[4]) (hN : ∀ (p:BProg) (c d:Int),p.wt<=1048576->DCall prog N [.agg (Af p),dI c,dI d] (fun _=>none) fun x _=>x = .ret (.bool true))
  {s:ChangeSpec} (hv:s.vars=[]) (hfn : ∀ d e f,s.fn H [d,e,f]={ results:=[.lit (.bool true)],args:=[d,e,f] }) {args:Array Value} {ds gs:List (DataW H)} {before:List MemPlace}
  (hval : ∀ (j:Nat) t v,f.params[j]? = some t->args[j]? = some v->Value.okWide prog W .any base t v)
  (hW:DataW.Whole enc prog f.params.toList s.vars false W args.toList ds gs before) (hk:Rows.uptoSmall H (ds++gs)=true) :
  Calls prog N args W fun e W' => ∃ v,e = .returned v/\s.post enc prog f false true false false W args v W':=by
 have hW':=hW
 obtain ⟨p,q,hA,hV,rfl,hfz,hnd⟩:=hW
 rw [hv] at hV
 obtain ⟨rfl,rfl⟩:=trodVars_none hV
 rw [hf] at hA hval
 obtain ⟨v0,vs0,d0,ds0,p0,q0,hargs,rfl,rfl,h0,r0⟩:=trodAll_cons hA
 obtain ⟨v1,vs1,d1,ds1,p1,q1,hargs1,rfl,rfl,h1,r1⟩:=trodAll_cons r0
 obtain ⟨v2,vs2,d2,ds2,p2,q2,hargs2,rfl,rfl,h2,r2⟩:=trodAll_cons r1
 obtain ⟨rfl,rfl,rfl⟩:=trodAll_nil r2
 obtain rfl:args = #[v0,v1,v2]:=by cases args;simp_all
 have hb:Rows.uptoBulk d0+(Rows.uptoBulk d1+(Rows.uptoBulk d2+0))<=1048576:=of_decide_eq_true hk
 obtain ⟨pr,hr,hw⟩:=Iy (hval 0 27 v0 rfl rfl) h0
 obtain ⟨c,hc⟩:=LW (hval 1 3 v1 rfl rfl) h1
 obtain ⟨c2,hc2⟩:=LW (hval 2 3 v2 rfl rfl) h2
 refine (IJ (hN pr c c2 (by omega)) W (vs:=[v0,v1,v2]) ⟨v0,[v1,v2],rfl,hr,v1,[v2],rfl,hc,v2,[],rfl,hc2,rfl⟩).mono fun e W' ⟨he,hold,hos,hout⟩ => ?_
 refine ⟨_,he,L2 hv hrt (fun t ht => ?_) hW' (hfn d0 d1 d2) hold hos hout⟩
 rw [hf] at ht
 have ht:t=27\/t=3:=by simpa using ht
 rcases ht with rfl | rfl
 ·exact ⟨Hk,H7⟩
 ·exact ⟨Pm,LH⟩
end
end Go.DL
namespace Go.Proofs.YtlfimpogphmbdaaGreat
open Go.Proofs.Tryz
open Go Go.DL Go.ChangeShapes Go.WideShapes Go.ChangeAt Go.RowKit
set_option maxRecDepth 100000
theorem M8 (os:Os) (started:os.Started) (H:Type) (enc:TypeId × Value->H) (F:Stop.Interp) :
  ReturnsInHanded {} checked os 7 .any ((Rows.OpenSpec.upto Rows.bindHeirsSpec).pre6 enc prog f7 Rows.bindHeirsUptoRow.domain false) (((Rows.OpenSpec.upto Rows.bindHeirsSpec).at F).post enc prog f7 false true false false):=by
 refine returnsInHanded_of_cond (C:=checked) (s:=Rows.OpenSpec.upto Rows.bindHeirsSpec) (k:=Rows.uptoSmall) rfl Go.DL.own started (by kernel_rfl) func7
  (OpenSpec.witness (enc:=enc) (C:=checked) (s:=Rows.OpenSpec.upto Rows.bindHeirsSpec) (k:=Rows.uptoSmall) rfl false ⟨#[], #[.agg #[.slice none 0 0, .int .i64 0, .slice none 0 0, .slice none 0 0, .slice none 0 0, .int .i64 0], .int .i64 0, .int .i64 0],[]⟩ 8 (by kernel_rfl) (by kernel_rfl) (by kernel_rfl)
   (x:=([.agg [.nil, .lit (.int .i64 0), .nil, .nil, .nil, .lit (.int .i64 0)], .lit (.int .i64 0), .lit (.int .i64 0)],[],[])) (by kernel_rfl) rfl (by kernel_rfl)) ?_
 intro W base args ds gs before hval hW _ hk _
 exact law3 params7 (by kernel_rfl) (fun p c d hp=>(Rq p c d _ (by omega)).mono fun _ _ h=>h.1) rfl (fun _ _ _=>rfl) hval hW hk
theorem NH:prog.funcNamed Rows.bindHeirsUptoRow.func=some 7:=by kernel_rfl
theorem NI:joinedFacts prog 7 f7 (Rows.OpenSpec.upto Rows.bindHeirsSpec).bare Rows.bindHeirsUptoRow=true:=by kernel_rfl
theorem Pv:f7.isInstance prog Rows.bindHeirsUptoRow.origin Rows.bindHeirsUptoRow.targs:=of_decide_eq_true (by kernel_rfl)
theorem Pu:f7.isWrapper prog Rows.bindHeirsUptoRow.wrapper Rows.bindHeirsUptoRow.mainSum:=by unfold Func.isWrapper;first | (rw [if_pos (by decide +kernel)];kernel_rfl) | (rw [if_neg (by decide +kernel)];exact ⟨rfl,rfl⟩)
theorem heirs_holds:Rows.BindHeirsUptoSaid :=
 OpenClaim.holds_of_cond 7 f7 rfl rfl rfl rfl rfl rfl rfl ⟨rfl,rfl,rfl,rfl,rfl⟩ rfl rfl rfl rfl rfl NH func7 NI Pv Pu
  (fun os started H enc _ F=>M8 os started H enc F)
end Go.Proofs.YtlfimpogphmbdaaGreat
