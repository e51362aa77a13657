/- Part of a proof in texts M01 on: a layer of pure values over the fenced walk, the walks of the functions, the plain laws. -/
import Derived.Test.YtlfimpogphmbdaaGreatM09
import Derived.Test.YtlfimpogphmbdaaGreatM12
set_option linter.all false
namespace Go.DL
open Go.Proofs.Tryz
open Go Go.Proofs
theorem Qo {P:Program} {n:Nat} {γ γ':List (Nat × D)} {σ:Sig} {df:List DDf} (h : ∀ t,WkD (getD γ t) (getD γ' t)):Wk P n { γ,σ,df } { γ:=γ',σ,df } :=
 fun g w a hs=>⟨g, .refl g,⟨hs.sim,⟨hs.tmps.1,fun t=>h t g _ (hs.tmps.2 t)⟩,hs.df⟩⟩
@[simp] theorem lenD_mD (e:Nat) (st:MR) (n:Nat) (h:st=none->n=0):lenD (.slice e) (mD st n)=some (.int .i64 n):=by
 cases st with
 | none=>obtain rfl:=h rfl;rfl
 | some x=>rfl
theorem go1 {F G' G:Prop} (fx:F) (h:G') (hs:VarsAre []->Hold F->G'->G:=by
 intro hv fx hG
 (first
  | (with_reducible first | refine G5 ?_ | refine Ii ?_ | refine KL ?_ | refine H8 ?_ | refine Hp ?_ | refine L5 ?_ | refine R9 (by decide) ?_ | refine NG ?_ | refine IQ ?_ | refine J8 ?_ | refine J9 ?_ | refine Ln ?_ | refine Lo ?_ | refine NQ ?_ | refine Be ?_ | refine GW ?_ | refine QU ?_)
  | ((with_reducible refine Gm (d := ?_) (γr := ?_) Ad ?h1 ?h2 ?hl ?hd ?_);(case h1=>rfl);(case h2=>rfl);(case hl=>rfl);(case hd=>simp (disch:=first | omega | assumption) [Am,big1,big2,w8,D8,Cc,D7,Cb,D9,D6,C8,Bs,C7,Br,C9,C6,Fj,fx.get]<;>(try simp only [B9,Ba,AP,B8,Az,AS,AR,AQ,AO,Ay,AN,AM,AL])<;>first | rfl | (and_intros<;>rfl)))
  | ((with_reducible refine Hb (d := ?_) (k := ?_) (γr := ?_) Ad ?h1 ?h2 ?hk ?hb ?hl ?hd ?_);(case h1=>rfl);(case h2=>rfl);(case hk=>rfl);(case hb=>rfl);(case hl=>rfl);(case hd=>simp (disch:=first | omega | assumption) [Am,big1,big2,w8,D8,Cc,D7,Cb,D9,D6,C8,Bs,C7,Br,C9,C6,Fj,fx.get]<;>(try simp only [B9,Ba,AP,B8,Az,AS,AR,AQ,AO,Ay,AN,AM,AL])<;>first | rfl | (and_intros<;>rfl)))
  | ((with_reducible refine Hc (d := ?_) (γr := ?_) Ad ?h1 ?hl ?hd ?_);(case h1=>rfl);(case hl=>rfl);(case hd=>simp (disch:=first | omega | assumption) [Am,big1,big2,w8,D8,Cc,D7,Cb,D9,D6,C8,Bs,C7,Br,C9,C6,Fj,fx.get]<;>(try simp only [B9,Ba,AP,B8,Az,AS,AR,AQ,AO,Ay,AN,AM,AL])<;>first | rfl | (and_intros<;>rfl)))
  | ((with_reducible refine Ny (d := ?_) (γr := ?_) Ad ?h1 ?h2 ?hl ?hd ?_);(case h1=>rfl);(case h2=>rfl);(case hl=>rfl);(case hd=>simp (disch:=first | omega | assumption) [Am,big1,big2,w8,D8,Cc,D7,Cb,D9,D6,C8,Bs,C7,Br,C9,C6,Fj,fx.get]<;>(try simp only [B9,Ba,AP,B8,Az,AS,AR,AQ,AO,Ay,AN,AM,AL])<;>first | rfl | (and_intros<;>rfl)))
  | ((with_reducible refine KZ (d := ?_) (k := ?_) (γr := ?_) Ad ?h1 ?h2 ?hk ?hb ?hl ?hd ?_);(case h1=>rfl);(case h2=>rfl);(case hk=>rfl);(case hb=>rfl);(case hl=>rfl);(case hd=>simp (disch:=first | omega | assumption) [Am,big1,big2,w8,D8,Cc,D7,Cb,D9,D6,C8,Bs,C7,Br,C9,C6,Fj,fx.get]<;>(try simp only [B9,Ba,AP,B8,Az,AS,AR,AQ,AO,Ay,AN,AM,AL])<;>first | rfl | (and_intros<;>rfl)))
  | ((with_reducible refine L0 (d := ?_) (γr := ?_) Ad ?h1 ?hl ?hd ?_);(case h1=>rfl);(case hl=>rfl);(case hd=>simp (disch:=first | omega | assumption) [Am,big1,big2,w8,D8,Cc,D7,Cb,D9,D6,C8,Bs,C7,Br,C9,C6,Fj,fx.get]<;>(try simp only [B9,Ba,AP,B8,Az,AS,AR,AQ,AO,Ay,AN,AM,AL])<;>first | rfl | (and_intros<;>rfl)))
  | ((with_reducible refine Ij (k := ?_) Ak ?hk ?hb ?h1 ?h2 ?_);(case hk=>rfl);(case hb=>rfl);(case h1=>rfl);(case h2=>rfl))
  | ((with_reducible refine H9 (k := ?_) Ak ?hk ?hb ?h1 ?h2 ?_);(case hk=>rfl);(case hb=>rfl);(case h1=>rfl);(case h2=>rfl))
  | ((with_reducible refine Ha (k := ?_) Ak ?hk ?hb ?h1 ?_);(case hk=>rfl);(case hb=>rfl);(case h1=>rfl))
  | ((with_reducible refine G6 (k := ?_) Ak ?hk ?hb ?h1 ?_);(case hk=>rfl);(case hb=>rfl);(case h1=>rfl))
  | ((with_reducible refine KW (k := ?_) ?hk ?hb ?h1 ?h2 ?_);(case hk=>rfl);(case hb=>rfl);(case h1=>rfl);(case h2=>rfl))
  | ((with_reducible refine KV (k := ?_) ?hk ?hb ?h1 ?h2 ?_);(case hk=>rfl);(case hb=>rfl);(case h1=>rfl);(case h2=>rfl))
  | ((with_reducible refine KX (k := ?_) ?hk ?hb ?h1 ?_);(case hk=>rfl);(case hb=>rfl);(case h1=>rfl))
  | ((with_reducible refine ID (k := ?_) ?hk ?hb ?h1 ?_);(case hk=>rfl);(case hb=>rfl);(case h1=>rfl))
  | ((with_reducible refine KN (d := ?_) (σ' := ?_) (γr := ?_) Ad ?hl ?he ?h1 ?_);(case hl=>rfl);(case he=>simp (disch:=first | omega | assumption) [Am,big1,big2,w8,D8,Cc,D7,Cb,D9,D6,C8,Bs,C7,Br,C9,C6,Fj,fx.get]<;>first | rfl | (and_intros<;>rfl));(case h1=>rfl))
  | ((with_reducible refine Im (d := ?_) (σ' := ?_) (γr := ?_) Ad ?hl ?he ?_);(case hl=>rfl);(case he=>simp (disch:=first | omega | assumption) [Am,big1,big2,w8,D8,Cc,D7,Cb,D9,D6,C8,Bs,C7,Br,C9,C6,Fj,fx.get]<;>first | rfl | (and_intros<;>rfl)))
  | ((with_reducible refine NA (d := ?_) (σ' := ?_) (γr := ?_) Ad ?hl ?he ?h1 ?hC ?_);(case hl=>rfl);(case he=>simp (disch:=first | omega | assumption) [Am,big1,big2,w8,D8,Cc,D7,Cb,D9,D6,C8,Bs,C7,Br,C9,C6,Fj,fx.get]<;>first | rfl | (and_intros<;>rfl));(case h1=>rfl);(case hC=>clear hG;first | exact Sub.refl _ | assumption | exact (Sub.refl _).set (by assumption)))
  | ((with_reducible refine NB (d := ?_) (σ' := ?_) (γr := ?_) Ad ?hl ?he ?hC ?_);(case hl=>rfl);(case he=>simp (disch:=first | omega | assumption) [Am,big1,big2,w8,D8,Cc,D7,Cb,D9,D6,C8,Bs,C7,Br,C9,C6,Fj,fx.get]<;>first | rfl | (and_intros<;>rfl));(case hC=>clear hG;first | exact Sub.refl _ | assumption | exact (Sub.refl _).set (by assumption)))
  | ((with_reducible refine Ik (r := ?_) (γr := ?_) (xs := ?_) (ys := ?_) (fs := ?_) Ad ?hE ?h1 ?hl ?hx ?hy ?hk ?hd ?_);(case hE=>with_reducible first | exact Ko | exact Hs);(case h1=>rfl);(case hl=>rfl);(case hx=>rfl);(case hy=>rfl);(case hk=>simp<;>rfl);(case hd=>simp (disch:=first | omega | assumption) [Am,big1,big2,w8,D8,Cc,D7,Cb,D9,D6,C8,Bs,C7,Br,C9,C6,Fj,fx.get]<;>rfl))
  | ((with_reducible refine Nz (r := ?_) (γr := ?_) (xs := ?_) (ys := ?_) (fs := ?_) Ad ?hE ?h1 ?hl ?hx ?hy ?hk ?hd ?_);(case hE=>with_reducible first | exact Ko | exact Hs);(case h1=>rfl);(case hl=>rfl);(case hx=>rfl);(case hy=>rfl);(case hk=>simp<;>rfl);(case hd=>simp (disch:=first | omega | assumption) [Am,big1,big2,w8,D8,Cc,D7,Cb,D9,D6,C8,Bs,C7,Br,C9,C6,Fj,fx.get]<;>rfl))
  | ((with_reducible refine He (γr := ?_) ?hl ?hc ?_);(case hl=>rfl);(case hc=>simp (disch:=first | omega | assumption) [Am,big1,big2,w8,D8,Cc,D7,Cb,D9,D6,C8,Bs,C7,Br,C9,C6,Fj,fx.get];done))
  | ((with_reducible refine Hf (γr := ?_) ?hl ?hc ?_);(case hl=>rfl);(case hc=>simp (disch:=first | omega | assumption) [Am,big1,big2,w8,D8,Cc,D7,Cb,D9,D6,C8,Bs,C7,Br,C9,C6,Fj,fx.get];done))
  | ((with_reducible refine Il (d := ?_) (cs := ?_) (γr := ?_) hv Ad ?h1 ?h2 ?h3 ?h4 ?h5 ?hl ?he ?h6 ?h7 ?h8 ?h9 ?_);(case h1=>rfl);(case h2=>rfl);(case h3=>rfl);(case h4=>rfl);(case h5=>simp);(case hl=>rfl);(case he=>simp<;>(try simp only [B9,Ba,AP,B8,Az,AS,AR,AQ,AO,Ay,AN,AM,AL])<;>rfl);(case h6=>rfl);(case h7=>simp<;>(try simp only [B9,Ba,AP,B8,Az,AS,AR,AQ,AO,Ay,AN,AM,AL])<;>rfl);(case h8=>simp);(case h9=>simp))
  | ((with_reducible refine Hd (d := ?_) (d2 := ?_) (cs := ?_) (γr := ?_) (γr2 := ?_) hv Ad ?h1 ?h2 ?h3 ?h4 ?h5 ?g1 ?g2 ?g3 ?g4 ?gl ?ge ?hl ?he ?h6 ?h7 ?h8 ?h9 ?_);(case h1=>rfl);(case h2=>rfl);(case h3=>rfl);(case h4=>rfl);(case h5=>rfl);(case g1=>rfl);(case g2=>rfl);(case g3=>rfl);(case g4=>simp);(case gl=>rfl);(case ge=>simp<;>(try simp only [B9,Ba,AP,B8,Az,AS,AR,AQ,AO,Ay,AN,AM,AL])<;>rfl);(case hl=>rfl);(case he=>simp<;>(try simp only [B9,Ba,AP,B8,Az,AS,AR,AQ,AO,Ay,AN,AM,AL])<;>rfl);(case h6=>rfl);(case h7=>simp<;>(try simp only [B9,Ba,AP,B8,Az,AS,AR,AQ,AO,Ay,AN,AM,AL])<;>rfl);(case h8=>simp);(case h9=>simp)))
 exact hG):G:=hs ⟨⟩ ⟨fx⟩ h
section
variable {P:Program} {ro:Option Nat} {n:Nat} {ops:Array Oper} {N:Nat} {σ0:Sig} {Q:DX->St->Prop} {df:List DDf} {rest:List Oper} {γ γr:List (Nat × D)} {σ:Sig} {t:Nat} {ty:TypeId} {pos:String} {after:Array Edge} {l:List (Bool × Oper)} {d:D}
theorem needR {fop:Operand} {args:Array Operand} {ats:Array TypeId} {f:Nat} {first cap us bs:List D} {c:Bool} {u d:D} {dst:Option Tmp} (h:DCall P f bs σ fun x σ'=>x=(if c then .ret d else .panic u)/\σ'=σ) (k1:c=true->DOps P ro n ops Q rest ⟨putD dst d γ,σ,df⟩) (k2:c=false->Q (.panic u) ⟨γ,σ,df⟩) (hl:A4 γ (A6 (fop::args.toList))=some γr:=by with_unfolding_all rfl) (hf:ev γr fop = .func (.func f) first cap:=by with_unfolding_all rfl) (ha:first++args.toList.map (ev γr)++cap=us:=by exact td0) (hp:bs=us:=by with_unfolding_all rfl)
  (ho:Av n ⟨dst, .call { callee := .value fop,args,argTypes:=ats },ty,pos,after,none⟩=true:=by with_unfolding_all rfl):DOps P ro n ops Q (⟨dst, .call { callee := .value fop,args,argTypes:=ats },ty,pos,after,none⟩::rest) ⟨γ,σ,df⟩:=by
 refine F5 hl hf ha (.inl hp) h ho (fun d' σ' hx => ?_) (fun d' σ' hx => ?_)
 all_goals obtain ⟨hx,rfl⟩:=hx;cases c<;>simp only [Bool.false_eq_true,if_true,if_false,DE.ret.injEq,DE.panic.injEq,reduceCtorEq] at hx
 ·subst hx;exact k1 rfl
 ·subst hx;exact k2 rfl
theorem moNeedR {fop:Operand} {args:Array Operand} {ats:Array TypeId} {f:Nat} {first cap us bs:List D} {c:Bool} {u d:D} {dst:Option Tmp} {l:List (Bool × Oper)} (h:DCall P f bs σ fun x σ'=>x=(if c then .ret d else .panic u)/\σ'=σ) (k1:c=true->MO P ro n ops N σ0 Q df l (putD dst d γ) σ) (k2:c=false -> ∀ γ',Q (.panic u) ⟨γ',σ,df⟩) (hl:A4 γ (A6 (fop::args.toList))=some γr:=by with_unfolding_all rfl) (hf:ev γr fop = .func (.func f) first cap:=by with_unfolding_all rfl) (ha:first++args.toList.map (ev γr)++cap=us:=by exact td0) (hp:bs=us:=by with_unfolding_all rfl) (hC:Sub σ0 σ:=by first | exact Sub.refl _ | assumption)
  (ho:Av n ⟨dst, .call { callee := .value fop,args,argTypes:=ats },ty,pos,after,none⟩=true:=by with_unfolding_all rfl):MO P ro n ops N σ0 Q df ((true,⟨dst, .call { callee := .value fop,args,argTypes:=ats },ty,pos,after,none⟩)::l) γ σ:=by
 refine GD rfl hl hf ha (.inl hp) h ho (fun d' σ' hx => ?_) (fun d' σ' hx => ?_)
 all_goals obtain ⟨hx,rfl⟩:=hx;cases c<;>simp only [Bool.false_eq_true,if_true,if_false,DE.ret.injEq,DE.panic.injEq,reduceCtorEq] at hx
 ·subst hx;exact ⟨hC,k1 rfl⟩
 ·subst hx;exact k2 rfl
theorem Cd {fop:Operand} {args:Array Operand} {ats:Array TypeId} {f:Nat} {first cap us bs:List D} {R:DE->Sig->Prop} {dst:Option Tmp} {l:List (Bool × Oper)} (h:DCall P f bs σ R) (hret : ∀ d σ',R (.ret d) σ'->Sub σ0 σ'/\MO P ro n ops N σ0 Q df l (putD dst d γ) σ') (hpan : ∀ d σ',R (.panic d) σ' -> ∀ γ',Q (.panic d) ⟨γ',σ',df⟩) (hl:A4 γ (A6 (fop::args.toList))=some γr:=by with_unfolding_all rfl) (hf:ev γr fop = .func (.func f) first cap:=by with_unfolding_all rfl) (ha:first++args.toList.map (ev γr)++cap=us:=by exact td0) (hp:bs=us:=by with_unfolding_all rfl)
  (ho:Av n ⟨dst, .call { callee := .value fop,args,argTypes:=ats },ty,pos,after,none⟩=true:=by with_unfolding_all rfl):MO P ro n ops N σ0 Q df ((true,⟨dst, .call { callee := .value fop,args,argTypes:=ats },ty,pos,after,none⟩)::l) γ σ:=GD rfl hl hf ha (.inl hp) h ho hret hpan
theorem needP {fop:Operand} {args:Array Operand} {ats:Array TypeId} {f:Nat} {first cap us bs:List D} {c:Bool} {u d:D} {dst:Option Tmp} (h:DCall P f bs σ fun x σ'=>x=(if c then .ret d else .panic u)/\σ'=σ) (k1:c=true->DOps P ro n ops Q rest ⟨putD dst d γ,σ,df⟩) (k2:c=false->Q (.panic u) ⟨γ,σ,df⟩) (hl:A4 γ (A6 (fop::args.toList))=some γr:=by with_unfolding_all rfl) (hf:ev γr fop = .func (.func f) first cap:=by with_unfolding_all rfl) (ha:first++args.toList.map (ev γr)++cap=us:=by exact td0) (hp:bs=us.map D.plain:=by with_unfolding_all rfl)
  (ho:Av n ⟨dst, .call { callee := .value fop,args,argTypes:=ats },ty,pos,after,none⟩=true:=by with_unfolding_all rfl):DOps P ro n ops Q (⟨dst, .call { callee := .value fop,args,argTypes:=ats },ty,pos,after,none⟩::rest) ⟨γ,σ,df⟩:=by
 refine F5 hl hf ha (.inr hp) h ho (fun d' σ' hx => ?_) (fun d' σ' hx => ?_)
 all_goals obtain ⟨hx,rfl⟩:=hx;cases c<;>simp only [Bool.false_eq_true,if_true,if_false,DE.ret.injEq,DE.panic.injEq,reduceCtorEq] at hx
 ·subst hx;exact k1 rfl
 ·subst hx;exact k2 rfl
theorem moNeedP {fop:Operand} {args:Array Operand} {ats:Array TypeId} {f:Nat} {first cap us bs:List D} {c:Bool} {u d:D} {dst:Option Tmp} {l:List (Bool × Oper)} (h:DCall P f bs σ fun x σ'=>x=(if c then .ret d else .panic u)/\σ'=σ) (k1:c=true->MO P ro n ops N σ0 Q df l (putD dst d γ) σ) (k2:c=false -> ∀ γ',Q (.panic u) ⟨γ',σ,df⟩) (hl:A4 γ (A6 (fop::args.toList))=some γr:=by with_unfolding_all rfl) (hf:ev γr fop = .func (.func f) first cap:=by with_unfolding_all rfl) (ha:first++args.toList.map (ev γr)++cap=us:=by exact td0) (hp:bs=us.map D.plain:=by with_unfolding_all rfl) (hC:Sub σ0 σ:=by first | exact Sub.refl _ | assumption)
  (ho:Av n ⟨dst, .call { callee := .value fop,args,argTypes:=ats },ty,pos,after,none⟩=true:=by with_unfolding_all rfl):MO P ro n ops N σ0 Q df ((true,⟨dst, .call { callee := .value fop,args,argTypes:=ats },ty,pos,after,none⟩)::l) γ σ:=by
 refine GD rfl hl hf ha (.inr hp) h ho (fun d' σ' hx => ?_) (fun d' σ' hx => ?_)
 all_goals obtain ⟨hx,rfl⟩:=hx;cases c<;>simp only [Bool.false_eq_true,if_true,if_false,DE.ret.injEq,DE.panic.injEq,reduceCtorEq] at hx
 ·subst hx;exact ⟨hC,k1 rfl⟩
 ·subst hx;exact k2 rfl
theorem nilE {x:Operand} {z:Value} {T T':Nat} {b:Bool} (h:DOps prog ro n ops Q rest ⟨(t, .bool b)::γ,σ,df⟩) (hl:A4 γ (A6 [x])=some γr:=by with_unfolding_all rfl) (hb:nilB (tab T).k z (ev γr x)=some b:=by (simp<;>with_unfolding_all rfl)) (htn:decide (t < n)=true:=by with_unfolding_all rfl) :
  DOps prog ro n ops Q (⟨some t, .binOp .eql T x (.const z) T',ty,pos,after,none⟩::rest) ⟨γ,σ,df⟩ :=
 MN Ad (b:=b) false rfl (by rw [<- BJ hl];exact hb) (by simpa using htn) (by cases b<;>exact h)
theorem nilN {x:Operand} {z:Value} {T T':Nat} {b:Bool} (h:DOps prog ro n ops Q rest ⟨(t, .bool (!b))::γ,σ,df⟩) (hl:A4 γ (A6 [x])=some γr:=by with_unfolding_all rfl) (hb:nilB (tab T).k z (ev γr x)=some b:=by (simp<;>with_unfolding_all rfl)) (htn:decide (t < n)=true:=by with_unfolding_all rfl) :
  DOps prog ro n ops Q (⟨some t, .binOp .neq T x (.const z) T',ty,pos,after,none⟩::rest) ⟨γ,σ,df⟩ :=
 MN Ad (b:=b) true rfl (by rw [<- BJ hl];exact hb) (by simpa using htn) (by cases b<;>exact h)
theorem boolE {x y:Operand} {T T':Nat} {a b:Bool} {gd:Option (Nat × Bool)} (h:DOps prog ro n ops Q rest ⟨(t, .bool (a==b))::γ,σ,df⟩) (hw:AE ops γ ⟨some t, .binOp .eql T x y T',ty,pos,after,gd⟩=some true:=by with_unfolding_all rfl) (hl:A4 γ (A6 [x,y])=some γr:=by with_unfolding_all rfl) (hk:(tab T).k = .bool:=by (simp;done)) (hx:ev γr x = .bool a:=by with_unfolding_all rfl) (hy:ev γr y = .bool b:=by with_unfolding_all rfl) (htn:decide (t < n)=true:=by with_unfolding_all rfl) :
  DOps prog ro n ops Q (⟨some t, .binOp .eql T x y T',ty,pos,after,gd⟩::rest) ⟨γ,σ,df⟩ :=
 P3 Ad false hw hk (by rw [<- (evs hl).1];exact hx) (by rw [<- (evs hl).2];exact hy) (by simpa using htn) (by cases a<;>cases b<;>exact h)
theorem boolN {x y:Operand} {T T':Nat} {a b:Bool} {gd:Option (Nat × Bool)} (h:DOps prog ro n ops Q rest ⟨(t, .bool (a != b))::γ,σ,df⟩) (hw:AE ops γ ⟨some t, .binOp .neq T x y T',ty,pos,after,gd⟩=some true:=by with_unfolding_all rfl) (hl:A4 γ (A6 [x,y])=some γr:=by with_unfolding_all rfl) (hk:(tab T).k = .bool:=by (simp;done)) (hx:ev γr x = .bool a:=by with_unfolding_all rfl) (hy:ev γr y = .bool b:=by with_unfolding_all rfl) (htn:decide (t < n)=true:=by with_unfolding_all rfl) :
  DOps prog ro n ops Q (⟨some t, .binOp .neq T x y T',ty,pos,after,gd⟩::rest) ⟨γ,σ,df⟩ :=
 P3 Ad true hw hk (by rw [<- (evs hl).1];exact hx) (by rw [<- (evs hl).2];exact hy) (by simpa using htn) (by cases a<;>cases b<;>exact h)
theorem mapp {T T' e e' sz:Nat} {s x:Operand} {es new:List (List D)} {st:MR} (h : ∀ st',mOK σ sz st' (es++new)->DOps prog ro n ops Q rest ⟨(t,mD st' (es.length+new.length))::γ,mS σ st' (es++new),df⟩) (hm:mOK σ sz st es:=by assumption)
  (hl:A4 γ (A6 [s,x])=some γr:=by with_unfolding_all rfl) (hk:(tab T).k = .slice e:=by (simp<;>rfl)) (hk':(tab T').k = .slice e':=by (simp<;>rfl)) (he:A5 (tab e).k=false:=by simp) (hsz:(tab e).size=sz:=by simp)
  (h1:ev γr s=mD st es.length:=by first | with_unfolding_all rfl | (simp [ev,getD,List.lookup];done)) (h2:esOf (ev γr x)=some new:=by (simp<;>with_unfolding_all rfl))
  (hlen' : ∀ c ∈ new,c.length=sz:=by first | exact BR _ | exact DN _ | exact BA _ | simp) (hfl : ∀ c ∈ new,CB c=true:=by simp [cI,cS,cII,CB,D.flat])
  (hb:(es.length+new.length)*(tab e).bytes<=140737488355328:=by first | (simp;done) | (simp;omega)) (hm2:es.length+new.length<=9223372036854775807:=by first | (simp;done) | (simp;omega)) (htn:decide (t < n)=true:=by with_unfolding_all rfl) :
  DOps prog ro n ops Q (⟨some t, .call { callee := .builtin .append,args := #[s,x],argTypes := #[T,T'] },ty,pos,after,none⟩::rest) ⟨γ,mS σ st es,df⟩:=by
 obtain ⟨e1,e2⟩:=evs hl
 exact Ja Ad (by simpa using htn) hk hk' he hsz (by rw [<- e1];exact h1) hm (by rw [<- e2];exact h2) hlen' hfl hb hm2 (fun st' h'=>by rw [List.length_append];exact h st' h')
theorem Tw {T e k sz c:Nat} {l m:Operand} {z:List D} (h : ∀ i,σ i=none->mOK σ sz (some (i,c,(List.replicate (c-k) z).flatten)) (List.replicate k z)->DOps prog ro n ops Q rest ⟨(t, .sref i 0 k c)::γ,mS σ (some (i,c,(List.replicate (c-k) z).flatten)) (List.replicate k z),df⟩)
  (hl:A4 γ (A6 [l,m])=some γr:=by with_unfolding_all rfl) (hk:(tab T).k = .slice e:=by (simp<;>rfl)) (he:A5 (tab e).k=false:=by simp) (hsz:(tab e).size=sz:=by (simp<;>rfl)) (h0:0 < sz:=by decide) (hz:(tab e).zero=z:=by (simp<;>rfl))
  (h1:ev γr l = .int .i64 k:=by with_unfolding_all rfl) (h2:ev γr m = .int .i64 c:=by with_unfolding_all rfl) (hkc:k<=c:=by first | exact Nat.le_refl _ | omega) (hb:c*(tab e).bytes<=140737488355328:=by first | (simp;done) | (simp;omega)) (hm:c<=9223372036854775807:=by omega) (htn:decide (t < n)=true:=by with_unfolding_all rfl) :
  DOps prog ro n ops Q (⟨some t, .makeSlice T l m,ty,pos,after,none⟩::rest) ⟨γ,σ,df⟩:=by
 obtain ⟨e1,e2⟩:=evs hl
 exact Q9 Ad (by simpa using htn) hk he hsz h0 hz (by rw [<- e1];exact h1) (by rw [<- e2];exact h2) hkc hb hm h
theorem mfr (k:Nat) {l:List Oper} {sz:Nat} {st:MR} {es:List (List D)} (h:DOps P ro n ops Q l ⟨(k, .slice es .no)::γ,σ,df⟩) (hm:mOK σ sz st es:=by assumption) (hk:getD γ k=mD st es.length:=by first | exact Ax (by with_unfolding_all rfl) | (simp [getD,List.lookup];done)):DOps P ro n ops Q l ⟨γ,mS σ st es,df⟩ :=
 BM (Jz hm hk) h
theorem bldZ {T len e:Nat} {z:List D} (h:DOps prog ro n ops Q rest ⟨(t, .agg z)::γ,σ,df⟩) (hk:(tab T).k = .array len e:=by with_unfolding_all rfl) (he:A5 (tab e).k=false:=by simp) (hz:(tab T).zero=z:=by (simp<;>rfl)) (htn:decide (t < n)=true:=by with_unfolding_all rfl):DOps prog ro n ops Q (⟨some t, .build T #[],ty,pos,after,none⟩::rest) ⟨γ,σ,df⟩:=by
 subst hz;exact NT Ad (by simpa using htn) hk he h
theorem mfrC (xs ys:List D) {i:Nat} {l:List Oper} {sz:Nat} {st:MR} {es:List (List D)} (h:DOps P ro n ops Q l ⟨γ,σ.set i (.cells (xs ++ .slice es .no::ys)),df⟩) (hi:σ i=some (.cells (xs++mD st es.length::ys)):=by first | exact w7 .. | (simp;done)) (hm:mOK σ sz st es:=by assumption):DOps P ro n ops Q l ⟨γ,mS σ st es,df⟩ :=
 BM (G1 hm hi) h
theorem celW (xs ys:List D) (d d':D) {i:Nat} {l:List Oper} (h:DOps P ro n ops Q l ⟨γ,σ.set i (.cells (xs++d'::ys)),df⟩) (hi:σ i=some (.cells (xs++d::ys)):=by first | exact w7 .. | (simp;done)) (hw:WkD d d'):DOps P ro n ops Q l ⟨γ,σ,df⟩ :=
 BM (EZ hi hw) h
theorem cfr (k:Nat) {l:List Oper} {i:Nat} {m:List (D × D)} (hi:σ i=some (.map m)) (h:DOps P ro n ops Q l ⟨(k, .cmap (m.map (·.1)) (m.map (·.2)))::γ,σ.del i,df⟩) (hk:getD γ k = .map i:=by exact Ax (by with_unfolding_all rfl)):DOps P ro n ops Q l ⟨γ,σ,df⟩ :=
 BM (Ia hi hk) h
theorem rng {T kt et:Nat} {x:Operand} {l:List (D × D)} (h : ∀ i,σ i=none->DOps prog ro n ops Q rest ⟨(t, .obj i)::γ,σ.set i (.iter l none),df⟩) (hl:A4 γ (A6 [x])=some γr:=by with_unfolding_all rfl) (hk:(tab T).k = .map kt et:=by (simp<;>rfl)) (hx:Og (ev γr x)=some l:=by with_unfolding_all rfl) (htn:decide (t < n)=true:=by with_unfolding_all rfl) :
  DOps prog ro n ops Q (⟨some t, .range T x,ty,pos,after,none⟩::rest) ⟨γ,σ,df⟩ :=
 Q7 Ad (by simpa using htn) hk (by rw [<- BJ hl];exact hx) h
theorem nxt {i:Nat} {x:Operand} {left:List (D × D)} {last:Option (D × D)} (h0:left=[]->DOps P ro n ops Q rest ⟨(t, .tup [.bool false])::γ,σ,df⟩)
  (h1 : ∀ j k v,left[j]? = some (k,v)->DOps P ro n ops Q rest ⟨(t, .tup [.bool true,k,v])::γ,σ.set i (.iter (left.eraseIdx j) (some (k,v))),df⟩) (hi:σ i=some (.iter left last):=by first | exact w7 .. | simp)
  (hl:A4 γ (A6 [x])=some γr:=by with_unfolding_all rfl) (hx:ev γr x = .obj i:=by with_unfolding_all rfl) (htn:decide (t < n)=true:=by with_unfolding_all rfl) :
  DOps P ro n ops Q (⟨some t, .next x false,ty,pos,after,none⟩::rest) ⟨γ,σ,df⟩ :=
 SQ (by simpa using htn) (by rw [<- BJ hl];exact hx) hi h0 h1
theorem ent {i:Nat} {x:Operand} {left:List (D × D)} {k v:D} (h:DOps P ro n ops Q rest ⟨(t, .tup [k,v])::γ,σ,df⟩) (hi:σ i=some (.iter left (some (k,v))):=by first | exact w7 .. | simp)
  (hl:A4 γ (A6 [x])=some γr:=by with_unfolding_all rfl) (hx:ev γr x = .obj i:=by with_unfolding_all rfl) (htn:decide (t < n)=true:=by with_unfolding_all rfl) :
  DOps P ro n ops Q (⟨some t, .entry x,ty,pos,after,none⟩::rest) ⟨γ,σ,df⟩ :=
 Qb (by simpa using htn) (by rw [<- BJ hl];exact hx) hi h
theorem boxV {T:Nat} {x:Operand} {cs:List D} (h : ∀ i,σ i=none->DOps P ro n ops Q rest ⟨(t, .ptr i 0)::γ,σ.set i (.cells cs),df⟩) (hl:A4 γ (A6 [x])=some γr:=by with_unfolding_all rfl) (hd:ev γr x=d:=by (simp<;>with_unfolding_all rfl)) (hc:d.cells=cs:=by (simp<;>with_unfolding_all rfl)) (ht:d.told=true:=by with_unfolding_all rfl) (htn:decide (t < n)=true:=by with_unfolding_all rfl) :
  DOps P ro n ops Q (⟨some t, .box T x,ty,pos,after,none⟩::rest) ⟨γ,σ,df⟩:=by
 subst hc hd;rw [BJ hl] at ht h;exact dops_box ht (by simpa using htn) h
theorem finCE {fn:Func} {R:DE->Sig->Prop} {σ':Sig} {ds:List D} (h:resL tab σ γ fn.results.toList=some ds) (hR:R (.ret (JI ds)) σ') (hσ:Sub σ' σ:=by first | exact Sub.refl _ | (refine Bl ?_;simp;done) | assumption | exact (Sub.refl _).set (by assumption)):EL prog n fn R .ret ⟨γ,σ,[]⟩:=GV Ad h (A9 _) hσ hR
theorem finC {fn:Func} {R:DE->Sig->Prop} {σ':Sig} {ds:List D} {d:D} (hR:R (.ret d) σ') (h:resL tab σ γ fn.results.toList=some ds:=by (simp [resL];with_unfolding_all rfl)) (hw:WkD (JI ds) d:=by exact tdW) (hσ:Sub σ' σ:=by first | exact Sub.refl _ | (refine Bl ?_;simp;done) | assumption | exact (Sub.refl _).set (by assumption)):EL prog n fn R .ret ⟨γ,σ,[]⟩:=GV Ad h hw hσ hR
theorem mixL {lo:List Oper} {id:Nat} (ord E:List Nat) {lp:List (Bool × Oper)} {ol:Oper} (h:MO prog ro n lo.toArray 334 σ (Then (fun s=>DOps prog ro n lo.toArray Q [ol] s) Q) df lp γ σ) (hB:IE lo.toArray E ord=true:=by kernel_rfl) (hol:nthO lo (lo.length-1)=some ol:=by with_unfolding_all rfl) (hl:Ga lo E ord=some lp:=by with_unfolding_all rfl):DWp prog ro n (.region id lo.toArray true) Q ⟨γ,σ,df⟩ :=
 P0 Ak mixed ord E σ hB hol (Sub.refl _) hl h
theorem mo1 {op:Op} {l:List (Bool × Oper)} (h : ∀ γ2,(∀ x ∈ op.operands,ev γ2 x=ev γ x)->DOps P ro n ops (EQ df (some t) (fun d σ'=>Sub σ0 σ'/\MO P ro n ops N σ0 Q df l ((t,d)::γ) σ') (fun d σ' => ∀ γ',Q (.panic d) ⟨γ',σ',df⟩)) [⟨some t,op,ty,pos,after,none⟩] ⟨γ2,σ,df⟩) (htn:decide (t < n)=true:=by with_unfolding_all rfl) :
  MO P ro n ops N σ0 Q df ((true,⟨some t,op,ty,pos,after,none⟩)::l) γ σ :=
 UD (o:=⟨some t,op,ty,pos,after,none⟩) htn rfl rfl (h _ fun _ hx=>CX (o:=⟨some t,op,ty,pos,after,none⟩) hx)
theorem Lv {γ2:List (Nat × D)} {s x:Operand} {T T':Nat} (hl:A4 γ (A6 [s,x])=some γr) (hx : ∀ y ∈ (Op.call { callee := .builtin .append,args := #[s,x],argTypes := #[T,T'] }).operands,ev γ2 y=ev γ y):ev γ2 s=ev γr s/\ev γ2 x=ev γr x:=by
 obtain ⟨e1,e2⟩:=evs hl
 exact ⟨by rw [hx s (by simp [Op.operands,Call.operands]),e1],by rw [hx x (by simp [Op.operands,Call.operands]),e2]⟩
theorem UF {s x:Operand} {T T' e e':Nat} {es new:List (List D)} {l:List (Bool × Oper)} (h : ∀ i,σ i=none->MO prog ro n ops N σ0 Q df l ((t, .slice (es++new) (.tag i))::γ) (σ.set i (.tail (tab e).size (es.length+new.length)))) (hl:A4 γ (A6 [s,x])=some γr:=by with_unfolding_all rfl) (hk:(tab T).k = .slice e:=by (simp<;>rfl)) (hk':(tab T').k = .slice e':=by (simp<;>rfl)) (he:A5 (tab e).k=false:=by simp)
  (h1:ev γr s = .slice es .clip:=by with_unfolding_all rfl) (h2:esOf (ev γr x)=some new:=by (simp<;>with_unfolding_all rfl)) (hne:new ≠ []:=by first | assumption | (simp;done) | (simp [cI,cS,cII];assumption))
  (hlen : ∀ c ∈ es,c.length=(tab e).size:=by first | exact BR _ | exact DN _ | exact BA _ | simp) (hlen' : ∀ c ∈ new,c.length=(tab e).size:=by first | exact BR _ | exact DN _ | exact BA _ | simp)
  (hb:(es.length+new.length)*(tab e).bytes<=140737488355328:=by first | (simp;done) | (simp;omega)) (hm:es.length+new.length<=9223372036854775807:=by first | (simp;done) | (simp;omega)) (htn:decide (t < n)=true:=by with_unfolding_all rfl) (hC:Sub σ0 σ:=by first | exact Sub.refl _ | assumption) :
  MO prog ro n ops N σ0 Q df ((true,⟨some t, .call { callee := .builtin .append,args := #[s,x],argTypes := #[T,T'] },ty,pos,after,none⟩)::l) γ σ :=
 mo1 (fun γ2 hx=>by
  obtain ⟨e1,e2⟩:=Lv hl hx
  exact BQ Ad rfl (by simpa using htn) hk hk' he (by rw [e1];exact h1) (by rw [e2];exact h2) hne hlen hlen' hb hm (fun i hi=>Be ⟨rfl,by simp only [A7,if_true];exact ⟨hC.set (hC.none hi),h i hi⟩⟩)) htn
theorem QW {s x:Operand} {T T' e e':Nat} {es new:List (List D)} {l:List (Bool × Oper)} (h : ∀ i,σ i=none->MO prog ro n ops N σ0 Q df l ((t, .slice (es++new) .no)::γ) (σ.set i (.tail (tab e).size (es.length+new.length)))) (hl:A4 γ (A6 [s,x])=some γr:=by with_unfolding_all rfl) (hk:(tab T).k = .slice e:=by (simp<;>rfl)) (hk':(tab T').k = .slice e':=by (simp<;>rfl)) (he:A5 (tab e).k=false:=by simp)
  (h1:ev γr s = .slice es .clip:=by with_unfolding_all rfl) (h2:esOf (ev γr x)=some new:=by (simp<;>with_unfolding_all rfl)) (hne:new ≠ []:=by first | assumption | (simp;done) | (simp [cI,cS,cII];assumption))
  (hlen : ∀ c ∈ es,c.length=(tab e).size:=by first | exact BR _ | exact DN _ | exact BA _ | simp) (hlen' : ∀ c ∈ new,c.length=(tab e).size:=by first | exact BR _ | exact DN _ | exact BA _ | simp)
  (hb:(es.length+new.length)*(tab e).bytes<=140737488355328:=by first | (simp;done) | (simp;omega)) (hm:es.length+new.length<=9223372036854775807:=by first | (simp;done) | (simp;omega)) (htn:decide (t < n)=true:=by with_unfolding_all rfl) (hC:Sub σ0 σ:=by first | exact Sub.refl _ | assumption) :
  MO prog ro n ops N σ0 Q df ((true,⟨some t, .call { callee := .builtin .append,args := #[s,x],argTypes := #[T,T'] },ty,pos,after,none⟩)::l) γ σ :=
 mo1 (fun γ2 hx=>by
  obtain ⟨e1,e2⟩:=Lv hl hx
  exact BQ Ad rfl (by simpa using htn) hk hk' he (by rw [e1];exact h1) (by rw [e2];exact h2) hne hlen hlen' hb hm (fun i hi=>BM (Bw (t:=t) (d := .slice (es++new) .no) (by simp only [A7,if_true];exact B4 _ _)) (Be ⟨rfl,by simp only [A7,if_true];exact ⟨hC.set (hC.none hi),h i hi⟩⟩))) htn
theorem moApp0 {s x:Operand} {T T' e e':Nat} {es:List (List D)} {l:List (Bool × Oper)} (h:MO prog ro n ops N σ0 Q df l ((t,d)::γ) σ) (hl:A4 γ (A6 [s,x])=some γr:=by with_unfolding_all rfl) (hk:(tab T).k = .slice e:=by (simp<;>rfl)) (hk':(tab T').k = .slice e':=by (simp<;>rfl)) (he:A5 (tab e).k=false:=by simp) (hd:ev γr s=d:=by with_unfolding_all rfl)
  (h1:esOf d=some es:=by with_unfolding_all rfl) (h2:esOf (ev γr x)=some []:=by first | with_unfolding_all rfl | (simp_all;done)) (htn:decide (t < n)=true:=by with_unfolding_all rfl) (hC:Sub σ0 σ:=by first | exact Sub.refl _ | assumption) :
  MO prog ro n ops N σ0 Q df ((true,⟨some t, .call { callee := .builtin .append,args := #[s,x],argTypes := #[T,T'] },ty,pos,after,none⟩)::l) γ σ :=
 mo1 (fun γ2 hx=>by
  obtain ⟨e1,e2⟩:=Lv hl hx
  refine Dd Ad rfl (by simpa using htn) hk hk' he (by rw [e1,hd];exact h1) (by rw [e2];exact h2) (Be ⟨rfl, ?_⟩)
  simp only [A7,if_true,e1,hd]
  exact ⟨hC,h⟩) htn
theorem Oq {T:Nat} {z:List D} {l:List (Bool × Oper)} (h : ∀ i,σ i=none->MO prog ro n ops N σ0 Q df l ((t, .ptr i 0)::γ) (σ.set i (.cells z))) (hk:A5 (tab T).k=false:=by simp) (hz:(tab T).zero=z:=by (simp<;>rfl)) (htn:decide (t < n)=true:=by with_unfolding_all rfl) (hC:Sub σ0 σ:=by first | exact Sub.refl _ | assumption) :
  MO prog ro n ops N σ0 Q df ((true,⟨some t, .alloc T,ty,pos,after,none⟩)::l) γ σ:=by
 subst hz
 exact mo1 (fun γ2 hx=>Ek Ad hk (by simpa using htn) (fun i hi=>Be ⟨rfl,by simp only [A7,if_true];exact ⟨hC.set (hC.none hi),h i hi⟩⟩)) htn
theorem moEffW {op:Op} (d':D) {σ':Sig} {l:List (Bool × Oper)} (h:MO prog ro n ops N σ0 Q df l ((t,d')::γ) σ') (hl:A4 γ (A6 op.operands.toList)=some γr:=by with_unfolding_all rfl) (he:eopD tab γr σ op=some (d,σ'):=by (simp (disch:=first | omega | assumption) [Am,big1,big2,w8]<;>first | rfl | (and_intros<;>rfl) | (and_intros<;>first | rfl | omega))) (hw:WkD d d':=by exact tdW) (htn:decide (t < n)=true:=by with_unfolding_all rfl) (hC:Sub σ0 σ':=by first | exact Sub.refl _ | assumption | exact (Sub.refl _).set (by assumption) | exact ((Sub.refl _).set (by assumption)).set (by assumption)) :
  MO prog ro n ops N σ0 Q df ((true,⟨some t,op,ty,pos,after,none⟩)::l) γ σ :=
 mo1 (fun γ2 hx=>by
  refine GY Ad rfl (by rw [Cf (γ':=γ) hx];exact (Cf (CC hl)) ▸ he) htn (BM (Bw (t:=t) (d:=d') (by simp only [putD,A7,if_true];exact hw)) (Be ⟨rfl, ?_⟩))
  simp only [A7,if_true]
  exact ⟨hC,h⟩) htn
theorem wk_sub {P:Program} {n:Nat} {γ:List (Nat × D)} {σ σ':Sig} {df:List DDf} (hσ:Sub σ' σ):Wk P n ⟨γ,σ,df⟩ ⟨γ,σ',df⟩ :=
 fun g w a hs=>⟨g, .refl g,⟨hs.sim.sub hσ,hs.tmps,hs.df⟩⟩
theorem drp {l:List Oper} (σ':Sig) (h:DOps P ro n ops Q l ⟨γ,σ',df⟩) (hσ:Sub σ' σ:=by first | exact Sub.refl _ | (refine Bl ?_;simp;done) | assumption | exact (Sub.refl _).set (by assumption)):DOps P ro n ops Q l ⟨γ,σ,df⟩:=BM (wk_sub hσ) h
theorem rtw {c:Code} (k:Nat) (d':D) (h:DWp P ro n c Q ⟨(k,d')::γ,σ,df⟩) (hw:WkD (getD γ k) d':=by exact tdW):DWp P ro n c Q ⟨γ,σ,df⟩:=dwp_wk (Bw hw) h
theorem appCW {s x:Operand} {T T' e e':Nat} {es new:List (List D)} (h : ∀ i,σ i=none->DOps prog ro n ops Q rest ⟨(t, .slice (es++new) .no)::γ,σ.set i (.tail (tab e).size (es.length+new.length)),df⟩) (hl:A4 γ (A6 [s,x])=some γr:=by with_unfolding_all rfl) (hk:(tab T).k = .slice e:=by (simp<;>rfl)) (hk':(tab T').k = .slice e':=by (simp<;>rfl)) (he:A5 (tab e).k=false:=by simp)
  (h1:ev γr s = .slice es .clip:=by with_unfolding_all rfl) (h2:esOf (ev γr x)=some new:=by (simp<;>with_unfolding_all rfl)) (hne:new ≠ []:=by first | assumption | (simp;done) | (simp [cI,cS,cII];assumption))
  (hlen : ∀ c ∈ es,c.length=(tab e).size:=by first | exact BR _ | exact DN _ | exact BA _ | simp) (hlen' : ∀ c ∈ new,c.length=(tab e).size:=by first | exact BR _ | exact DN _ | exact BA _ | simp)
  (hb:(es.length+new.length)*(tab e).bytes<=140737488355328:=by first | (simp;done) | (simp;omega)) (hm:es.length+new.length<=9223372036854775807:=by first | (simp;done) | (simp;omega)) (htn:decide (t < n)=true:=by with_unfolding_all rfl) :
  DOps prog ro n ops Q (⟨some t, .call { callee := .builtin .append,args := #[s,x],argTypes := #[T,T'] },ty,pos,after,none⟩::rest) ⟨γ,σ,df⟩:=by
 obtain ⟨e1,e2⟩:=evs hl
 exact BQ Ad rfl (by simpa using htn) hk hk' he (by rw [<- e1];exact h1) (by rw [<- e2];exact h2) hne hlen hlen' hb hm (fun i hi=>BM (Bw (t:=t) (d := .slice (es++new) .no) (by simp only [A7,if_true];exact B4 _ _)) (BM (Qo fun k=>by simp only [A7];split<;>exact A9 _) (h i hi)))
theorem rtl {l:List Oper} (k:Nat) (d':D) (h:DOps P ro n ops Q l ⟨(k,d')::γ,σ,df⟩) (hw:WkD (getD γ k) d':=by exact tdW):DOps P ro n ops Q l ⟨γ,σ,df⟩:=BM (Bw hw) h
theorem HC {lo:List Oper} {id:Nat} (ord E:List Nat) (σ0:Sig) {lp:List (Bool × Oper)} {ol:Oper} (hC:Sub σ0 σ) (h:MO prog ro n lo.toArray 334 σ0 (Then (fun s=>DOps prog ro n lo.toArray Q [ol] s) Q) df lp γ σ) (hB:IE lo.toArray E ord=true:=by kernel_rfl) (hol:nthO lo (lo.length-1)=some ol:=by with_unfolding_all rfl) (hl:Ga lo E ord=some lp:=by with_unfolding_all rfl):DWp prog ro n (.region id lo.toArray true) Q ⟨γ,σ,df⟩ :=
 P0 Ak mixed ord E σ0 hB hol hC hl h
theorem yldW {fop:Operand} {args:Array Operand} {ats:Array TypeId} {l:Nat} {us:List D} {R:DE->Sig->Prop} {dst:Option Tmp} (h:DYield P l us σ R) (hret : ∀ d σ',R (.ret d) σ'->DOps P ro n ops Q rest ⟨putD dst d γ,σ',df⟩) (hpan : ∀ d σ',R (.panic d) σ'->Q (.panic d) ⟨γ,σ',df⟩)
  (hl:A4 γ (A6 (fop::args.toList))=some γr:=by with_unfolding_all rfl) (hf:ev γr fop = .yld l:=by with_unfolding_all rfl) (ha:args.toList.map (ev γr)=us:=by exact td0)
  (ho:Av n ⟨dst, .call { callee := .value fop,args,argTypes:=ats },ty,pos,after,none⟩=true:=by with_unfolding_all rfl) :
  DOps P ro n ops Q (⟨dst, .call { callee := .value fop,args,argTypes:=ats },ty,pos,after,none⟩::rest) ⟨γ,σ,df⟩:=by
 have hx : ∀ x ∈ fop::args.toList,ev γr x=ev γ x:=fun x hx=>BL fun t ht=>AI hl t (AY (by rw [<- ht];exact hx))
 refine Kq rfl (by rw [<- hx fop (by simp)];exact hf) ?_ ho hret hpan
 rw [show args.toList.map (ev γ)=args.toList.map (ev γr) from List.map_congr_left fun x h=>(hx x (by simp [h])).symm,ha]
 exact h
theorem invW {rv:Operand} {name:String} {args:Array Operand} {ats:Array TypeId} {f T:Nat} {us:List D} {R:DE->Sig->Prop} {dst:Option Tmp} (hM:Jk P T name f) (h:DCall P f (d::us) σ R) (hret : ∀ d σ',R (.ret d) σ'->DOps P ro n ops Q rest ⟨putD dst d γ,σ',df⟩) (hpan : ∀ d σ',R (.panic d) σ'->Q (.panic d) ⟨γ,σ',df⟩)
  (hl:A4 γ (A6 (rv::args.toList))=some γr:=by with_unfolding_all rfl) (hx:ev γr rv = .iface T d:=by with_unfolding_all rfl) (ha:args.toList.map (ev γr)=us:=by exact td0)
  (ho:Av n ⟨dst, .call { callee := .invoke rv name,args,argTypes:=ats },ty,pos,after,none⟩=true:=by with_unfolding_all rfl) :
  DOps P ro n ops Q (⟨dst, .call { callee := .invoke rv name,args,argTypes:=ats },ty,pos,after,none⟩::rest) ⟨γ,σ,df⟩:=by
 have he : ∀ x ∈ rv::args.toList,ev γr x=ev γ x:=fun x hx=>BL fun t ht=>AI hl t (AY (by rw [<- ht];exact hx))
 refine Jb rfl (by rw [<- he rv (by simp)];exact hx) hM h ?_ ho hret hpan
 rw [show args.toList.map (ev γ)=args.toList.map (ev γr) from List.map_congr_left fun x h=>(he x (by simp [h])).symm,ha]
 exact DO _
end
end Go.DL
