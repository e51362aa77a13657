/- A part of the proof. -/
import Derived.Test.YteldimffglchkaaGreatDoorQ08
import Derived.Test.YteldimffglchkaaGreatDoorQ09
import Derived.Test.YteldimffglchkaaGreatDoorQ12
set_option linter.all false
namespace Go.DL
open Go.Proofs.Tryz
open Go Go.Proofs
theorem go1{F G' G:Prop}(fx:F)(h:G') (hs:VarsAre []->Hold F->G'->G:=by
 intro hv fx hG
 (first
  |(with_reducible first|refine Fp ?_|refine Hz ?_|refine JN ?_|refine Gx ?_|refine GM ?_|refine K9 ?_|refine PO (by decide) ?_|refine Me ?_|refine I7 ?_|refine Ij ?_|refine Ik ?_|refine Ke ?_|refine Kf ?_|refine Mo ?_|refine Av ?_|refine Gk ?_|refine Pr ?_)
  |((with_reducible refine FI (d:=?_) (Sr:=?_) Ab ?h1 ?h2 ?hl ?hd ?_);(case h1=>rfl);(case h2=>rfl);(case hl=>rfl);(case hd=>simp(disch:=first|omega|assumption) [As,big1,big2,w7,CN,BT,CM,BS,CO,CL,BM,Bp,BL,Bo,BN,BJ,EF,fx.get]<;>(try simp only[Bf,Bg,AS,Be,AK,AV,AU,AT,AR,AJ,AQ,AP,AO])<;>first|rfl|(and_intros<;>rfl)))
  |((with_reducible refine Gz (d:=?_) (k:=?_) (Sr:=?_) Ab ?h1 ?h2 ?hk ?hb ?hl ?hd ?_);(case h1=>rfl);(case h2=>rfl);(case hk=>rfl);(case hb=>rfl);(case hl=>rfl);(case hd=>simp(disch:=first|omega|assumption) [As,big1,big2,w7,CN,BT,CM,BS,CO,CL,BM,Bp,BL,Bo,BN,BJ,EF,fx.get]<;>(try simp only[Bf,Bg,AS,Be,AK,AV,AU,AT,AR,AJ,AQ,AP,AO])<;>first|rfl|(and_intros<;>rfl)))
  |((with_reducible refine step_read0 (d:=?_) (Sr:=?_) Ab ?h1 ?hl ?hd ?_);(case h1=>rfl);(case hl=>rfl);(case hd=>simp(disch:=first|omega|assumption) [As,big1,big2,w7,CN,BT,CM,BS,CO,CL,BM,Bp,BL,Bo,BN,BJ,EF,fx.get]<;>(try simp only[Bf,Bg,AS,Be,AK,AV,AU,AT,AR,AJ,AQ,AP,AO])<;>first|rfl|(and_intros<;>rfl)))
  |((with_reducible refine K4 (d:=?_) (Sr:=?_) Ab ?h1 ?h2 ?hl ?hd ?_);(case h1=>rfl);(case h2=>rfl);(case hl=>rfl);(case hd=>simp(disch:=first|omega|assumption) [As,big1,big2,w7,CN,BT,CM,BS,CO,CL,BM,Bp,BL,Bo,BN,BJ,EF,fx.get]<;>(try simp only[Bf,Bg,AS,Be,AK,AV,AU,AT,AR,AJ,AQ,AP,AO])<;>first|rfl|(and_intros<;>rfl)))
  |((with_reducible refine K3 (d:=?_) (k:=?_) (Sr:=?_) Ab ?h1 ?h2 ?hk ?hb ?hl ?hd ?_);(case h1=>rfl);(case h2=>rfl);(case hk=>rfl);(case hb=>rfl);(case hl=>rfl);(case hd=>simp(disch:=first|omega|assumption) [As,big1,big2,w7,CN,BT,CM,BS,CO,CL,BM,Bp,BL,Bo,BN,BJ,EF,fx.get]<;>(try simp only[Bf,Bg,AS,Be,AK,AV,AU,AT,AR,AJ,AQ,AP,AO])<;>first|rfl|(and_intros<;>rfl)))
  |((with_reducible refine mo_read0 (d:=?_) (Sr:=?_) Ab ?h1 ?hl ?hd ?_);(case h1=>rfl);(case hl=>rfl);(case hd=>simp(disch:=first|omega|assumption) [As,big1,big2,w7,CN,BT,CM,BS,CO,CL,BM,Bp,BL,Bo,BN,BJ,EF,fx.get]<;>(try simp only[Bf,Bg,AS,Be,AK,AV,AU,AT,AR,AJ,AQ,AP,AO])<;>first|rfl|(and_intros<;>rfl)))
  |((with_reducible refine HC (k:=?_) Af ?hk ?hb ?h1 ?h2 ?_);(case hk=>rfl);(case hb=>rfl);(case h1=>rfl);(case h2=>rfl))
  |((with_reducible refine Gy (k:=?_) Af ?hk ?hb ?h1 ?h2 ?_);(case hk=>rfl);(case hb=>rfl);(case h1=>rfl);(case h2=>rfl))
  |((with_reducible refine step_skip0 (k:=?_) Af ?hk ?hb ?h1 ?_);(case hk=>rfl);(case hb=>rfl);(case h1=>rfl))
  |((with_reducible refine step_skipU0 (k:=?_) Af ?hk ?hb ?h1 ?_);(case hk=>rfl);(case hb=>rfl);(case h1=>rfl))
  |((with_reducible refine K2 (k:=?_) ?hk ?hb ?h1 ?h2 ?_);(case hk=>rfl);(case hb=>rfl);(case h1=>rfl);(case h2=>rfl))
  |((with_reducible refine mo_skipU (k:=?_) ?hk ?hb ?h1 ?h2 ?_);(case hk=>rfl);(case hb=>rfl);(case h1=>rfl);(case h2=>rfl))
  |((with_reducible refine mo_skip0 (k:=?_) ?hk ?hb ?h1 ?_);(case hk=>rfl);(case hb=>rfl);(case h1=>rfl))
  |((with_reducible refine mo_skipU0 (k:=?_) ?hk ?hb ?h1 ?_);(case hk=>rfl);(case hb=>rfl);(case h1=>rfl))
  |((with_reducible refine JQ (d:=?_) (U':=?_) (Sr:=?_) Ab ?hl ?he ?h1 ?_);(case hl=>rfl);(case he=>simp(disch:=first|omega|assumption) [As,big1,big2,w7,CN,BT,CM,BS,CO,CL,BM,Bp,BL,Bo,BN,BJ,EF,fx.get]<;>first|rfl|(and_intros<;>rfl));(case h1=>rfl))
  |((with_reducible refine DH (d:=?_) (U':=?_) (Sr:=?_) Ab ?hl ?he ?_);(case hl=>rfl);(case he=>simp(disch:=first|omega|assumption) [As,big1,big2,w7,CN,BT,CM,BS,CO,CL,BM,Bp,BL,Bo,BN,BJ,EF,fx.get]<;>first|rfl|(and_intros<;>rfl)))
  |((with_reducible refine M9 (d:=?_) (U':=?_) (Sr:=?_) Ab ?hl ?he ?h1 ?hC ?_);(case hl=>rfl);(case he=>simp(disch:=first|omega|assumption) [As,big1,big2,w7,CN,BT,CM,BS,CO,CL,BM,Bp,BL,Bo,BN,BJ,EF,fx.get]<;>first|rfl|(and_intros<;>rfl));(case h1=>rfl);(case hC=>clear hG;first|exact Sub.refl _|assumption|exact(Sub.refl _).set (by assumption)))
  |((with_reducible refine Fv (d:=?_) (U':=?_) (Sr:=?_) Ab ?hl ?he ?hC ?_);(case hl=>rfl);(case he=>simp(disch:=first|omega|assumption) [As,big1,big2,w7,CN,BT,CM,BS,CO,CL,BM,Bp,BL,Bo,BN,BJ,EF,fx.get]<;>first|rfl|(and_intros<;>rfl));(case hC=>clear hG;first|exact Sub.refl _|assumption|exact(Sub.refl _).set (by assumption)))
  |((with_reducible refine step_neqS (r:=?_) (Sr:=?_) (xs:=?_) (ys:=?_) (fs:=?_) Ab ?hE ?h1 ?hl ?hx ?hy ?hk ?hd ?_);(case hE=>with_reducible first|exact eqTy63|exact eqTy150);(case h1=>rfl);(case hl=>rfl);(case hx=>rfl);(case hy=>rfl);(case hk=>simp<;>rfl);(case hd=>simp(disch:=first|omega|assumption) [As,big1,big2,w7,CN,BT,CM,BS,CO,CL,BM,Bp,BL,Bo,BN,BJ,EF,fx.get]<;>rfl))
  |((with_reducible refine HS (r:=?_) (Sr:=?_) (xs:=?_) (ys:=?_) (fs:=?_) Ab ?hE ?h1 ?hl ?hx ?hy ?hk ?hd ?_);(case hE=>with_reducible first|exact eqTy63|exact eqTy150);(case h1=>rfl);(case hl=>rfl);(case hx=>rfl);(case hy=>rfl);(case hk=>simp<;>rfl);(case hd=>simp(disch:=first|omega|assumption) [As,big1,big2,w7,CN,BT,CM,BS,CO,CL,BM,Bp,BL,Bo,BN,BJ,EF,fx.get]<;>rfl))
  |((with_reducible refine GB (Sr:=?_) ?hl ?hc ?_);(case hl=>rfl);(case hc=>simp(disch:=first|omega|assumption) [As,big1,big2,w7,CN,BT,CM,BS,CO,CL,BM,Bp,BL,Bo,BN,BJ,EF,fx.get];done))
  |((with_reducible refine GC (Sr:=?_) ?hl ?hc ?_);(case hl=>rfl);(case hc=>simp(disch:=first|omega|assumption) [As,big1,big2,w7,CN,BT,CM,BS,CO,CL,BM,Bp,BL,Bo,BN,BJ,EF,fx.get];done))
  |((with_reducible refine HD (d:=?_) (cs:=?_) (Sr:=?_) hv Ab ?h1 ?h2 ?h3 ?h4 ?h5 ?hl ?he ?h6 ?h7 ?h8 ?h9 ?_);(case h1=>rfl);(case h2=>rfl);(case h3=>rfl);(case h4=>rfl);(case h5=>simp);(case hl=>rfl);(case he=>simp<;>(try simp only[Bf,Bg,AS,Be,AK,AV,AU,AT,AR,AJ,AQ,AP,AO])<;>rfl);(case h6=>rfl);(case h7=>simp<;>(try simp only[Bf,Bg,AS,Be,AK,AV,AU,AT,AR,AJ,AQ,AP,AO])<;>rfl);(case h8=>simp);(case h9=>simp))
  |((with_reducible refine GA (d:=?_) (d2:=?_) (cs:=?_) (Sr:=?_) (Sr2:=?_) hv Ab ?h1 ?h2 ?h3 ?h4 ?h5 ?g1 ?g2 ?g3 ?g4 ?gl ?ge ?hl ?he ?h6 ?h7 ?h8 ?h9 ?_);(case h1=>rfl);(case h2=>rfl);(case h3=>rfl);(case h4=>rfl);(case h5=>rfl);(case g1=>rfl);(case g2=>rfl);(case g3=>rfl);(case g4=>simp);(case gl=>rfl);(case ge=>simp<;>(try simp only[Bf,Bg,AS,Be,AK,AV,AU,AT,AR,AJ,AQ,AP,AO])<;>rfl);(case hl=>rfl);(case he=>simp<;>(try simp only[Bf,Bg,AS,Be,AK,AV,AU,AT,AR,AJ,AQ,AP,AO])<;>rfl);(case h6=>rfl);(case h7=>simp<;>(try simp only[Bf,Bg,AS,Be,AK,AV,AU,AT,AR,AJ,AQ,AP,AO])<;>rfl);(case h8=>simp);(case h9=>simp)))
 exact hG):G:=hs ⟨⟩ ⟨fx⟩ h
section
variable {P:Program}{ro:Ro}{n:Nat}{ops:Array Oper}{N:Nat}{S0:Sig}{Q:DX->St->Prop}{df:List DDf}{rest:List Oper}{γ Sr:List (Nat×D)}{O:Sig}{t:Nat}{ty:TypeId}{pos:String}{after:Array Edge}{l:List (Bool×Oper)}{d:D}
theorem needR{fop:Operand}{args:Array Operand}{ats:Array TypeId}{f:Nat}{first cap us bs:List D}{c:Bool}{u d:D}{dst:Option Tmp}(h:DCall P f bs O fun x U'=>x=(if c then .ret d else .panic u)/\U'=O)(k1:c=true->DOps P ro n ops Q rest ⟨putD dst d γ,O,df⟩)(k2:c=false->Q (.panic u) ⟨γ,O,df⟩)(hl:A0 γ (A4 (fop::args.toList))=some Sr:=by exact tdR)(hf:ev Sr fop=.func (.func f) first cap:=by exact tdR)(ha:first++args.toList.map (ev Sr)++cap=us:=by exact td0)(hp:bs=us:=by exact tdR)
  (ho:Ap n ⟨dst,(cv fop args ats),ty,pos,after,none⟩=true:=by exact tdR):DOps P ro n ops Q (⟨dst,(cv fop args ats),ty,pos,after,none⟩::rest) ⟨γ,O,df⟩:=by
 refine FJ hl hf ha (.inl hp) h ho (fun d' U' hx=>?_) (fun d' U' hx=>?_)
 all_goals obtain⟨hx,rfl⟩:=hx;cases c<;>simp only[Bool.false_eq_true,if_true,if_false,DE.ret.injEq,DE.panic.injEq,reduceCtorEq]at hx
 ·subst hx;exact k1 rfl
 ·subst hx;exact k2 rfl
theorem moNeedR{fop:Operand}{args:Array Operand}{ats:Array TypeId}{f:Nat}{first cap us bs:List D}{c:Bool}{u d:D}{dst:Option Tmp}{l:List (Bool×Oper)}(h:DCall P f bs O fun x U'=>x=(if c then .ret d else .panic u)/\U'=O)(k1:c=true->MO P ro n ops N S0 Q df l (putD dst d γ) O)(k2:c=false->∀V',Q (.panic u) ⟨V',O,df⟩)(hl:A0 γ (A4 (fop::args.toList))=some Sr:=by exact tdR)(hf:ev Sr fop=.func (.func f) first cap:=by exact tdR)(ha:first++args.toList.map (ev Sr)++cap=us:=by exact td0)(hp:bs=us:=by exact tdR)(hC:Sub S0 O:=by first|exact Sub.refl _|assumption)
  (ho:Ap n ⟨dst,(cv fop args ats),ty,pos,after,none⟩=true:=by exact tdR):MO P ro n ops N S0 Q df ((true,⟨dst,(cv fop args ats),ty,pos,after,none⟩)::l) γ O:=by
 refine Hh rfl hl hf ha (.inl hp) h ho (fun d' U' hx=>?_) (fun d' U' hx=>?_)
 all_goals obtain⟨hx,rfl⟩:=hx;cases c<;>simp only[Bool.false_eq_true,if_true,if_false,DE.ret.injEq,DE.panic.injEq,reduceCtorEq]at hx
 ·subst hx;exact⟨hC,k1 rfl⟩
 ·subst hx;exact k2 rfl
theorem Bt{fop:Operand}{args:Array Operand}{ats:Array TypeId}{f:Nat}{first cap us bs:List D}{R:DE->Sig->Prop}{dst:Option Tmp}{l:List (Bool×Oper)}(h:DCall P f bs O R)(ae:∀d U',R (.ret d) U'->Sub S0 U'/\MO P ro n ops N S0 Q df l (putD dst d γ) U')(ag:∀d U',R (.panic d) U'->∀V',Q (.panic d) ⟨V',U',df⟩)(hl:A0 γ (A4 (fop::args.toList))=some Sr:=by exact tdR)(hf:ev Sr fop=.func (.func f) first cap:=by exact tdR)(ha:first++args.toList.map (ev Sr)++cap=us:=by exact td0)(hp:bs=us:=by exact tdR)
  (ho:Ap n ⟨dst,(cv fop args ats),ty,pos,after,none⟩=true:=by exact tdR):MO P ro n ops N S0 Q df ((true,⟨dst,(cv fop args ats),ty,pos,after,none⟩)::l) γ O:=Hh rfl hl hf ha (.inl hp) h ho ae ag
theorem nilE{x:Operand}{z:Value}{T T':Nat}{b:Bool}(h:DOps prog ro n ops Q rest ⟨(t,.bool b)::γ,O,df⟩)(hl:A0 γ (A4 [x])=some Sr:=by exact tdR)(hb:nilB (tab T).k z (ev Sr x)=some b:=by(simp<;>with_unfolding_all rfl))(aa:decide (t<n)=true:=by exact tdR):
  DOps prog ro n ops Q (⟨some t,.binOp .eql T x (.const z) T',ty,pos,after,none⟩::rest) ⟨γ,O,df⟩:=
 Lu Ab (b:=b) false rfl (by rw[<-Bu hl];exact hb) (by simpa using aa) (by cases b<;>exact h)
theorem nilN{x:Operand}{z:Value}{T T':Nat}{b:Bool}(h:DOps prog ro n ops Q rest ⟨(t,.bool (!b))::γ,O,df⟩)(hl:A0 γ (A4 [x])=some Sr:=by exact tdR)(hb:nilB (tab T).k z (ev Sr x)=some b:=by(simp<;>with_unfolding_all rfl))(aa:decide (t<n)=true:=by exact tdR):
  DOps prog ro n ops Q (⟨some t,.binOp .neq T x (.const z) T',ty,pos,after,none⟩::rest) ⟨γ,O,df⟩:=
 Lu Ab (b:=b) true rfl (by rw[<-Bu hl];exact hb) (by simpa using aa) (by cases b<;>exact h)
theorem mapp{T T' e e' sz:Nat}{s x:Operand}{es new:List (List D)}{st:MR}(h:∀st',mOK O sz st' (es++new)->DOps prog ro n ops Q rest ⟨(t,mD st' (es.length+new.length))::γ,mS O st' (es++new),df⟩)(hm:mOK O sz st es:=by assumption)
  (hl:A0 γ (A4 [s,x])=some Sr:=by exact tdR) (hk:(tab T).k=.slice e:=by(simp<;>rfl)) (ac:(tab T').k=.slice e':=by(simp<;>rfl)) (he:A1 (tab e).k=false:=by simp) (hsz:(tab e).size=sz:=by simp)
  (h1:ev Sr s=mD st es.length:=by first|with_unfolding_all rfl|(simp[ev,getD,List.lookup];done)) (h2:esOf (ev Sr x)=some new:=by(simp<;>with_unfolding_all rfl))
  (hlen':∀c∈new,c.length=sz:=by first|exact C4 _|exact DW _|exact CB _|simp) (ap:∀c∈new,Bz c=true:=by simp[cI,cS,cII,Bz,D.flat])
  (hb:(es.length+new.length)*(tab e).bytes<=140737488355328:=by first|(simp;done)|(simp;omega)) (hm2:es.length+new.length<=9223372036854775807:=by first|(simp;done)|(simp;omega)) (aa:decide (t<n)=true:=by exact tdR) :
  DOps prog ro n ops Q (⟨some t,(cA s x T T'),ty,pos,after,none⟩::rest) ⟨γ,mS O st es,df⟩:=by
 obtain⟨e1,e2⟩:=evs hl
 exact Lw Ab (by simpa using aa) hk ac he hsz (by rw[<-e1];exact h1) hm (by rw[<-e2];exact h2) hlen' ap hb hm2 (fun st' h'=>by rw[List.length_append];exact h st' h')
theorem mmake{T e k sz c:Nat}{l m:Operand}{z:List D}(h:∀i,O i=none->mOK O sz (some (i,c,(List.replicate (c-k) z).flatten)) (List.replicate k z)->DOps prog ro n ops Q rest ⟨(t,.sref i 0 k c)::γ,mS O (some (i,c,(List.replicate (c-k) z).flatten)) (List.replicate k z),df⟩)
  (hl:A0 γ (A4 [l,m])=some Sr:=by exact tdR) (hk:(tab T).k=.slice e:=by(simp<;>rfl)) (he:A1 (tab e).k=false:=by simp) (hsz:(tab e).size=sz:=by(simp<;>rfl)) (h0:0<sz:=by decide) (hz:(tab e).zero=z:=by(simp<;>rfl))
  (h1:ev Sr l=.int .i64 k:=by exact tdR) (h2:ev Sr m=.int .i64 c:=by exact tdR) (am:k<=c:=by first|exact Nat.le_refl _|omega) (hb:c*(tab e).bytes<=140737488355328:=by first|(simp;done)|(simp;omega)) (hm:c<=9223372036854775807:=by omega) (aa:decide (t<n)=true:=by exact tdR) :
  DOps prog ro n ops Q (⟨some t,.makeSlice T l m,ty,pos,after,none⟩::rest) ⟨γ,O,df⟩:=by
 obtain⟨e1,e2⟩:=evs hl
 exact Ox Ab (by simpa using aa) hk he hsz h0 hz (by rw[<-e1];exact h1) (by rw[<-e2];exact h2) am hb hm h
theorem mfr(k:Nat){l:List Oper}{sz:Nat}{st:MR}{es:List (List D)}(h:DOps P ro n ops Q l ⟨(k,.slice es .no)::γ,O,df⟩)(hm:mOK O sz st es:=by assumption)(hk:getD γ k=mD st es.length:=by first|exact Ar tdR|(simp[getD,List.lookup];done)):DOps P ro n ops Q l ⟨γ,mS O st es,df⟩:=
 BQ (ND hm hk) h
theorem bldZ{T len e:Nat}{z:List D}(h:DOps prog ro n ops Q rest ⟨(t,.agg z)::γ,O,df⟩)(hk:(tab T).k=.array len e:=by exact tdR)(he:A1 (tab e).k=false:=by simp)(hz:(tab T).zero=z:=by(simp<;>rfl))(aa:decide (t<n)=true:=by exact tdR):DOps prog ro n ops Q (⟨some t,.build T #[],ty,pos,after,none⟩::rest) ⟨γ,O,df⟩:=by
 subst hz;exact Mt Ab (by simpa using aa) hk he h
theorem mfrC(xs ys:List D){i:Nat}{l:List Oper}{sz:Nat}{st:MR}{es:List (List D)}(h:DOps P ro n ops Q l ⟨γ,O.set i (.cells (xs ++ .slice es .no::ys)),df⟩)(hi:O i=some (.cells (xs++mD st es.length::ys)):=by first|exact w6 .. |(simp;done))(hm:mOK O sz st es:=by assumption):DOps P ro n ops Q l ⟨γ,mS O st es,df⟩:=
 BQ (LS hm hi) h
theorem celW(xs ys:List D)(d d':D){i:Nat}{l:List Oper}(h:DOps P ro n ops Q l ⟨γ,O.set i (.cells (xs++d'::ys)),df⟩)(hi:O i=some (.cells (xs++d::ys)):=by first|exact w6 .. |(simp;done))(hw:WkD d d'):DOps P ro n ops Q l ⟨γ,O,df⟩:=
 BQ (Gu hi hw) h
theorem cfr(k:Nat){l:List Oper}{i:Nat}{m:List (D×D)}(hi:O i=some (.map m))(h:DOps P ro n ops Q l ⟨(k,.cmap (m.map (·.1)) (m.map (·.2)))::γ,O.del i,df⟩)(hk:getD γ k=.map i:=by exact Ar tdR):DOps P ro n ops Q l ⟨γ,O,df⟩:=
 BQ (LT hi hk) h
theorem ent{i:Nat}{x:Operand}{left:List (D×D)}{k v:D}(h:DOps P ro n ops Q rest ⟨(t,.tup [k,v])::γ,O,df⟩)(hi:O i=some (.iter left (some (k,v))):=by first|exact w6 .. |simp)
  (hl:A0 γ (A4 [x])=some Sr:=by exact tdR) (hx:ev Sr x=.obj i:=by exact tdR) (aa:decide (t<n)=true:=by exact tdR) :
  DOps P ro n ops Q (⟨some t,.entry x,ty,pos,after,none⟩::rest) ⟨γ,O,df⟩:=
 OA (by simpa using aa) (by rw[<-Bu hl];exact hx) hi h
theorem boxV{T:Nat}{x:Operand}{cs:List D}(h:∀i,O i=none->DOps P ro n ops Q rest ⟨(t,.ptr i 0)::γ,O.set i (.cells cs),df⟩)(hl:A0 γ (A4 [x])=some Sr:=by exact tdR)(hd:ev Sr x=d:=by(simp<;>with_unfolding_all rfl))(hc:d.cells=cs:=by(simp<;>with_unfolding_all rfl))(ht:d.told=true:=by exact tdR)(aa:decide (t<n)=true:=by exact tdR):
  DOps P ro n ops Q (⟨some t,.box T x,ty,pos,after,none⟩::rest) ⟨γ,O,df⟩:=by
 subst hc hd;rw[Bu hl]at ht h;exact dops_box ht (by simpa using aa) h
theorem finCE{fn:Func}{R:DE->Sig->Prop}{U':Sig}{ds:List D}(h:resL tab O γ fn.results.toList=some ds)(hR:R (.ret (MS ds)) U')(hU:Sub U' O:=by first|exact Sub.refl _|(refine D6 ?_;simp;done)|assumption|exact(Sub.refl _).set (by assumption)):Dl prog n fn R .ret ⟨γ,O,[]⟩:=Ii Ab h (A8 _) hU hR
theorem finC{fn:Func}{R:DE->Sig->Prop}{U':Sig}{ds:List D}{d:D}(hR:R (.ret d) U')(h:resL tab O γ fn.results.toList=some ds:=by(simp[resL];with_unfolding_all rfl))(hw:WkD (MS ds) d:=by exact tdW)(hU:Sub U' O:=by first|exact Sub.refl _|(refine D6 ?_;simp;done)|assumption|exact(Sub.refl _).set (by assumption)):Dl prog n fn R .ret ⟨γ,O,[]⟩:=Ii Ab h hw hU hR
theorem mixL{lo:List Oper}{id:Nat}(ord E:List Nat){lp:List (Bool×Oper)}{ol:Oper}(h:MO prog ro n lo.toArray 431 O (Then (fun s=>DOps prog ro n lo.toArray Q [ol] s) Q) df lp γ O)(hB:HV lo.toArray E ord=true:=by kernel_rfl)(aj:nthO lo (lo.length-1)=some ol:=by exact tdR)(hl:HK lo E ord=some lp:=by exact tdR):DWp prog ro n (.region id lo.toArray true) Q ⟨γ,O,df⟩:=
 Np Af mixed ord E O hB aj (Sub.refl _) hl h
theorem mo1{op:Op}{l:List (Bool×Oper)}(h:∀V2,(∀x∈op.operands,ev V2 x=ev γ x)->DOps P ro n ops (EQ df (some t) (fun d U'=>Sub S0 U'/\MO P ro n ops N S0 Q df l ((t,d)::γ) U') (fun d U'=> ∀V',Q (.panic d) ⟨V',U',df⟩)) [⟨some t,op,ty,pos,after,none⟩] ⟨V2,O,df⟩)(aa:decide (t<n)=true:=by exact tdR):
  MO P ro n ops N S0 Q df ((true,⟨some t,op,ty,pos,after,none⟩)::l) γ O:=
 mo_eff (o:=⟨some t,op,ty,pos,after,none⟩) aa rfl rfl (h _ fun _ hx=>Bk (o:=⟨some t,op,ty,pos,after,none⟩) hx)
theorem GW{V2:Fr}{s x:Operand}{T T':Nat}(hl:A0 γ (A4 [s,x])=some Sr)(hx:∀y∈((cA s x T T')).operands,ev V2 y=ev γ y):ev V2 s=ev Sr s/\ev V2 x=ev Sr x:=by
 obtain⟨e1,e2⟩:=evs hl
 exact⟨by rw[hx s (by simp[Op.operands,Call.operands]),e1],by rw[hx x (by simp[Op.operands,Call.operands]),e2]⟩
theorem moAppC{s x:Operand}{T T' e e':Nat}{es new:List (List D)}{l:List (Bool×Oper)}(h:∀i,O i=none->MO prog ro n ops N S0 Q df l ((t,.slice (es++new) (.tag i))::γ) (O.set i (.tail (tab e).size (es.length+new.length))))(hl:A0 γ (A4 [s,x])=some Sr:=by exact tdR)(hk:(tab T).k=.slice e:=by(simp<;>rfl))(ac:(tab T').k=.slice e':=by(simp<;>rfl))(he:A1 (tab e).k=false:=by simp)
  (h1:ev Sr s=.slice es .clip:=by exact tdR) (h2:esOf (ev Sr x)=some new:=by(simp<;>with_unfolding_all rfl)) (hne:new≠[]:=by first|assumption|(simp;done)|(simp[cI,cS,cII];assumption))
  (hlen:∀c∈es,c.length=(tab e).size:=by first|exact C4 _|exact DW _|exact CB _|simp) (hlen':∀c∈new,c.length=(tab e).size:=by first|exact C4 _|exact DW _|exact CB _|simp)
  (hb:(es.length+new.length)*(tab e).bytes<=140737488355328:=by first|(simp;done)|(simp;omega)) (hm:es.length+new.length<=9223372036854775807:=by first|(simp;done)|(simp;omega)) (aa:decide (t<n)=true:=by exact tdR) (hC:Sub S0 O:=by first|exact Sub.refl _|assumption) :
  MO prog ro n ops N S0 Q df ((true,⟨some t,(cA s x T T'),ty,pos,after,none⟩)::l) γ O:=
 mo1 (fun V2 hx=>by
  obtain⟨e1,e2⟩:=GW hl hx
  exact C5 Ab rfl (by simpa using aa) hk ac he (by rw[e1];exact h1) (by rw[e2];exact h2) hne hlen hlen' hb hm (fun i hi=>Av ⟨rfl,by simp only[A6,if_true];exact⟨hC.set (hC.none hi),h i hi⟩⟩)) aa
theorem moAppCW{s x:Operand}{T T' e e':Nat}{es new:List (List D)}{l:List (Bool×Oper)}(h:∀i,O i=none->MO prog ro n ops N S0 Q df l ((t,.slice (es++new) .no)::γ) (O.set i (.tail (tab e).size (es.length+new.length))))(hl:A0 γ (A4 [s,x])=some Sr:=by exact tdR)(hk:(tab T).k=.slice e:=by(simp<;>rfl))(ac:(tab T').k=.slice e':=by(simp<;>rfl))(he:A1 (tab e).k=false:=by simp)
  (h1:ev Sr s=.slice es .clip:=by exact tdR) (h2:esOf (ev Sr x)=some new:=by(simp<;>with_unfolding_all rfl)) (hne:new≠[]:=by first|assumption|(simp;done)|(simp[cI,cS,cII];assumption))
  (hlen:∀c∈es,c.length=(tab e).size:=by first|exact C4 _|exact DW _|exact CB _|simp) (hlen':∀c∈new,c.length=(tab e).size:=by first|exact C4 _|exact DW _|exact CB _|simp)
  (hb:(es.length+new.length)*(tab e).bytes<=140737488355328:=by first|(simp;done)|(simp;omega)) (hm:es.length+new.length<=9223372036854775807:=by first|(simp;done)|(simp;omega)) (aa:decide (t<n)=true:=by exact tdR) (hC:Sub S0 O:=by first|exact Sub.refl _|assumption) :
  MO prog ro n ops N S0 Q df ((true,⟨some t,(cA s x T T'),ty,pos,after,none⟩)::l) γ O:=
 mo1 (fun V2 hx=>by
  obtain⟨e1,e2⟩:=GW hl hx
  exact C5 Ab rfl (by simpa using aa) hk ac he (by rw[e1];exact h1) (by rw[e2];exact h2) hne hlen hlen' hb hm (fun i hi=>BQ (Bv (t:=t) (d:=.slice (es++new) .no) (by simp only[A6,if_true];exact BD _ _)) (Av ⟨rfl,by simp only[A6,if_true];exact⟨hC.set (hC.none hi),h i hi⟩⟩))) aa
theorem moApp0{s x:Operand}{T T' e e':Nat}{es:List (List D)}{l:List (Bool×Oper)}(h:MO prog ro n ops N S0 Q df l ((t,d)::γ) O)(hl:A0 γ (A4 [s,x])=some Sr:=by exact tdR)(hk:(tab T).k=.slice e:=by(simp<;>rfl))(ac:(tab T').k=.slice e':=by(simp<;>rfl))(he:A1 (tab e).k=false:=by simp)(hd:ev Sr s=d:=by exact tdR)
  (h1:esOf d=some es:=by exact tdR) (h2:esOf (ev Sr x)=some []:=by first|with_unfolding_all rfl|(simp_all;done)) (aa:decide (t<n)=true:=by exact tdR) (hC:Sub S0 O:=by first|exact Sub.refl _|assumption) :
  MO prog ro n ops N S0 Q df ((true,⟨some t,(cA s x T T'),ty,pos,after,none⟩)::l) γ O:=
 mo1 (fun V2 hx=>by
  obtain⟨e1,e2⟩:=GW hl hx
  refine Eo Ab rfl (by simpa using aa) hk ac he (by rw[e1,hd];exact h1) (by rw[e2];exact h2) (Av ⟨rfl,?_⟩)
  simp only[A6,if_true,e1,hd]
  exact⟨hC,h⟩) aa
theorem HT{T:Nat}{z:List D}{l:List (Bool×Oper)}(h:∀i,O i=none->MO prog ro n ops N S0 Q df l ((t,.ptr i 0)::γ) (O.set i (.cells z)))(hk:A1 (tab T).k=false:=by simp)(hz:(tab T).zero=z:=by(simp<;>rfl))(aa:decide (t<n)=true:=by exact tdR)(hC:Sub S0 O:=by first|exact Sub.refl _|assumption):
  MO prog ro n ops N S0 Q df ((true,⟨some t,.alloc T,ty,pos,after,none⟩)::l) γ O:=by
 subst hz
 exact mo1 (fun V2 hx=>DV Ab hk (by simpa using aa) (fun i hi=>Av ⟨rfl,by simp only[A6,if_true];exact⟨hC.set (hC.none hi),h i hi⟩⟩)) aa
theorem moEffW{op:Op}(d':D){U':Sig}{l:List (Bool×Oper)}(h:MO prog ro n ops N S0 Q df l ((t,d')::γ) U')(hl:A0 γ (A4 op.operands.toList)=some Sr:=by exact tdR)(he:eopD tab Sr O op=some (d,U'):=by(simp(disch:=first|omega|assumption) [As,big1,big2,w7]<;>first|rfl|(and_intros<;>rfl)|(and_intros<;>first|rfl|omega)))(hw:WkD d d':=by exact tdW)(aa:decide (t<n)=true:=by exact tdR)(hC:Sub S0 U':=by first|exact Sub.refl _|assumption|exact(Sub.refl _).set (by assumption)|exact((Sub.refl _).set (by assumption)).set (by assumption)):
  MO prog ro n ops N S0 Q df ((true,⟨some t,op,ty,pos,after,none⟩)::l) γ O:=
 mo1 (fun V2 hx=>by
  refine F5 Ab rfl (by rw[Bl (V':=γ) hx];exact(Bl (BY hl)) ▸ he) aa (BQ (Bv (t:=t) (d:=d') (by simp only[putD,A6,if_true];exact hw)) (Av ⟨rfl,?_⟩))
  simp only[A6,if_true]
  exact⟨hC,h⟩) aa
theorem TP{P:Program}{n:Nat}{γ:Fr}{O U':Sig}{df:List DDf}(hU:Sub U' O):Wk P n ⟨γ,O,df⟩ ⟨γ,U',df⟩:=
 fun g w a hs=>⟨g,.refl g,⟨hs.sim.sub hU,hs.tmps,hs.df⟩⟩
theorem drp{l:List Oper}(U':Sig)(h:DOps P ro n ops Q l ⟨γ,U',df⟩)(hU:Sub U' O:=by first|exact Sub.refl _|(refine D6 ?_;simp;done)|assumption|exact(Sub.refl _).set (by assumption)):DOps P ro n ops Q l ⟨γ,O,df⟩:=BQ (TP hU) h
theorem rtl{l:List Oper}(k:Nat)(d':D)(h:DOps P ro n ops Q l ⟨(k,d')::γ,O,df⟩)(hw:WkD (getD γ k) d':=by exact tdW):DOps P ro n ops Q l ⟨γ,O,df⟩:=BQ (Bv hw) h
theorem Fg{lo:List Oper}{id:Nat}(ord E:List Nat)(S0:Sig){lp:List (Bool×Oper)}{ol:Oper}(hC:Sub S0 O)(h:MO prog ro n lo.toArray 431 S0 (Then (fun s=>DOps prog ro n lo.toArray Q [ol] s) Q) df lp γ O)(hB:HV lo.toArray E ord=true:=by kernel_rfl)(aj:nthO lo (lo.length-1)=some ol:=by exact tdR)(hl:HK lo E ord=some lp:=by exact tdR):DWp prog ro n (.region id lo.toArray true) Q ⟨γ,O,df⟩:=
 Np Af mixed ord E S0 hB aj hC hl h
theorem yldW{fop:Operand}{args:Array Operand}{ats:Array TypeId}{l:Nat}{us:List D}{R:DE->Sig->Prop}{dst:Option Tmp}(h:DYield P l us O R)(ae:∀d U',R (.ret d) U'->DOps P ro n ops Q rest ⟨putD dst d γ,U',df⟩)(ag:∀d U',R (.panic d) U'->Q (.panic d) ⟨γ,U',df⟩)
  (hl:A0 γ (A4 (fop::args.toList))=some Sr:=by exact tdR) (hf:ev Sr fop=.yld l:=by exact tdR) (ha:args.toList.map (ev Sr)=us:=by exact td0)
  (ho:Ap n ⟨dst,(cv fop args ats),ty,pos,after,none⟩=true:=by exact tdR) :
  DOps P ro n ops Q (⟨dst,(cv fop args ats),ty,pos,after,none⟩::rest) ⟨γ,O,df⟩:=by
 have hx:∀x∈fop::args.toList,ev Sr x=ev γ x:=fun x hx=>B4 fun t ht=>At hl t (AB (by rw[<-ht];exact hx))
 refine Ov rfl (by rw[<-hx fop (by simp)];exact hf) ?_ ho ae ag
 rw[show args.toList.map (ev γ)=args.toList.map (ev Sr) from List.map_congr_left fun x h=>(hx x (by simp[h])).symm,ha]
 exact h
end
def hitD(tab:Nat->Ty)(e:Nat)(c:Bool):Option (Option (Nat×D))->Option D
 |some (some (_,d))=>some (if c then .tup [d,.bool true] else d)
 |some none=>match Hb (tab e)with
  |some z=>some (if c then .tup [z,.bool false] else z)
  |none=>none
 |none=>none
@[simp high] theorem lookupD_h {tab:Nat->Ty} {O:Sig} {c:Bool} {T e:Nat} {x d:D}:Fx tab O c (.map T e) x d=if A1 (tab e).k || !Bc (tab T).k d then none else match BV O x with
  |some l=>hitD tab e c (C9 (tab T).k d l 0)
  |none=>none:=by
 rw[PG]
 by_cases hc:(A1 (tab e).k||!Bc (tab T).k d)=true
 ·rw[if_pos hc,if_pos hc]
 ·rw[if_neg hc,if_neg hc]
  cases BV O x with
  |none=>rfl
  | some l =>
   cases h:C9 (tab T).k d l 0 with
   |none=>simp only[h];rfl
   |some r=>cases r with
    |none=>simp only[h];rfl
    |some p=>simp only[h];rfl
@[simp] theorem hitD_some(tab:Nat->Ty)(e i:Nat)(c:Bool)(d:D):hitD tab e c (some (some (i,d)))=some (if c then .tup [d,.bool true] else d):=rfl
def ins{α:Type}[DecidableEq α](k:α)(s:List α):List α:=if k∈s then s else s++[k]
def getM{α β:Type}[DecidableEq α](z:β)(k:α):List (α×β)->β
 |[]=>z
 |(k',v)::r=>if k=k' then v else getM z k r
def hasM{α β:Type}[DecidableEq α](k:α):List (α×β)->Bool
 |[]=>false
 |(k',_)::r=>decide (k=k')||hasM k r
def putM{α β:Type}[DecidableEq α](k:α)(v:β):List (α×β)->List (α×β)
 |[]=>[(k,v)]
 |(k',v')::r=>if k=k' then(k,v)::r else(k',v')::putM k v r
theorem Eg{α β:Type}[DecidableEq α](z:β)(k x:α)(v:β): ∀m:List (α×β),getM z x (putM k v m)=if x=k then v else getM z x m
 |[]=>by simp[putM,getM]
 | (k',v')::r=>by
  by_cases h:k=k'
  ·subst h;rw[putM,if_pos rfl,getM];by_cases hx:x=k<;>simp[hx,getM]
  ·rw[putM,if_neg h,getM,Eg z k x v r]
   by_cases hx:x=k'
   ·rw[if_pos hx,if_neg (fun e=>h (e.symm.trans hx)),getM,if_pos hx]
   ·rw[if_neg hx,getM,if_neg hx]
theorem G5{α β:Type}[DecidableEq α](k x:α)(v:β): ∀m:List (α×β),hasM x (putM k v m)=(decide (x=k)||hasM x m)
 |[]=>by simp[putM,hasM]
 | (k',v')::r=>by
  by_cases h:k=k'
  ·subst h;rw[putM,if_pos rfl,hasM,hasM];cases decide (x=k)<;>simp
  ·rw[putM,if_neg h,hasM,G5 k x v r,hasM]
   cases decide (x=k')<;>cases decide (x=k)<;>simp
section
def eM{α β:Type}(kf:α->D)(f:β->D)(m:List (α×β)):List (D×D):=m.map fun p=>(kf p.1,f p.2)
def eS{α:Type}(kf:α->D)(s:List α):List (D×D):=s.map fun k=>(kf k,.bool true)
structure KeyOK{α:Type}[DecidableEq α](kt:TyK)(kf:α->D):Prop where
 key:∀a b:α,keyB kt (kf a) (kf b)=some (decide (a=b))
theorem keyI:KeyOK (.int .i64) dI:=⟨fun a b=>by simp[keyB,EU]⟩
variable {α β:Type}[DecidableEq α]{kt:TyK}{kf:α->D}(hk:KeyOK kt kf)
include hk
theorem Mk(k:α): ∀(s:List α) (i:Nat),(k∈s->∃j,C9 kt (kf k) (eS kf s) i=some (some (i+j,.bool true))/\s[j]? = some k)/\(k∉s->C9 kt (kf k) (eS kf s) i=some none)
 |[],i=>by simp[eS,C9]
 | x::s,i=>by
  obtain⟨h1,h2⟩:=Mk k s (i+1)
  simp only[eS]at h1 h2
  simp only[eS,List.map_cons,C9,hk.key]
  by_cases h:k=x
  ·subst h
   simp only[decide_true]
   exact⟨fun _=>⟨0,rfl,rfl⟩,fun h=>absurd (by simp) h⟩
  ·have e:decide (k=x)=false:=by simp[h]
   simp only[e]
   refine⟨fun hm=>?_,fun hm=>h2 fun ai=>hm (by simp[ai])⟩
   obtain⟨j,a,b⟩:=h1 ((List.mem_cons.1 hm).resolve_left h)
   exact⟨j+1,by rw[a];congr 3;omega,by simpa using b⟩
theorem hit_eS{tab:Nat->Ty}{e:Nat}(hz:Hb (tab e)=some (.bool false))(k:α)(s:List α):hitD tab e false (C9 kt (kf k) (eS kf s) 0)=some (.bool (decide (k∈s))):=by
 obtain⟨h1,h2⟩:=Mk hk k s 0
 by_cases h:k∈s
 ·obtain⟨j,a,_⟩:=h1 h;rw[a];simp[h]
 ·rw[h2 h];simp only[hitD,hz,Bool.false_eq_true,if_false,h,decide_false]
theorem put_eS(k:α)(s:List α):Cw kt (kf k) (.bool true) (eS kf s)=some (eS kf (ins k s)):=by
 obtain⟨h1,h2⟩:=Mk hk k s 0
 unfold Cw ins
 by_cases h:k∈s
 ·obtain⟨j,a,b⟩:=h1 h
  rw[a,if_pos h]
  simp only[Nat.zero_add,Option.some.injEq]
  apply List.ext_getElem?
  intro i
  rw[List.getElem?_set]
  by_cases hi:j=i
  ·subst hi
   have ak:j<s.length:=(List.getElem?_eq_some_iff.1 b).1
   have hb:s[j]=k:=by rw[List.getElem?_eq_getElem ak]at b;exact Option.some.inj b
   simp[eS,ak,hb]
  ·rw[if_neg hi]
 ·rw[h2 h,if_neg h];simp[eS]
theorem Ia(f:β->D)(k:α): ∀(m:List (α×β)) (i:Nat),(hasM k m=true->∃j v,C9 kt (kf k) (eM kf f m) i=some (some (i+j,f v))/\(∀z,getM z k m=v) /\ ∀w,(eM kf f m).set j (kf k,f w)=eM kf f (putM k w m)) /\
  (hasM k m=false->C9 kt (kf k) (eM kf f m) i=some none/\(∀z,getM z k m=z) /\ ∀w,eM kf f m++[(kf k,f w)]=eM kf f (putM k w m))
 |[],i=>by simp[eM,C9,hasM,getM,putM]
 | (x,y)::m,i=>by
  obtain⟨h1,h2⟩:=Ia f k m (i+1)
  simp only[eM]at h1 h2
  simp only[eM,List.map_cons,C9,hk.key,hasM]
  by_cases h:k=x
  ·subst h
   simp only[decide_true,Bool.true_or]
   refine⟨fun _=>⟨0,y,rfl,fun z=>by simp[getM],fun w=>by simp[putM]⟩,fun h=>by cases h⟩
  ·have e:decide (k=x)=false:=by simp[h]
   simp only[e,Bool.false_or]
   refine⟨fun hm=>?_,fun hm=>?_⟩
   ·obtain⟨j,v,a,b,c⟩:=h1 hm
    refine⟨j+1,v,by rw[a];congr 3;omega,fun z=>by rw[getM,if_neg h];exact b z,fun w=>?_⟩
    rw[putM,if_neg h,List.map_cons,List.set_cons_succ,c w]
   ·obtain⟨a,b,c⟩:=h2 hm
    refine⟨a,fun z=>by rw[getM,if_neg h];exact b z,fun w=>?_⟩
    rw[putM,if_neg h,List.map_cons,List.cons_append,c w]
theorem TZ{tab:Nat->Ty}{e:Nat}{z:β}{zd:D}(f:β->D)(hz:Hb (tab e)=some zd)(k:α)(m:List (α×β)):hitD tab e false (C9 kt (kf k) (eM kf f m) 0)=some (if hasM k m then f (getM z k m) else zd):=by
 obtain⟨h1,h2⟩:=Ia hk f k m 0
 cases h:hasM k m with
 |true=>obtain⟨j,v,a,b,_⟩:=h1 h;rw[a,b z];simp
 |false=>obtain⟨a,b,_⟩:=h2 h;rw[a];simp only[hitD,hz,Bool.false_eq_true,if_false]
theorem PR{tab:Nat->Ty}{e:Nat}{z:β}(f:β->D)(hz:Hb (tab e)=some (f z))(k:α)(m:List (α×β)):hitD tab e false (C9 kt (kf k) (eM kf f m) 0)=some (f (getM z k m)):=by
 obtain⟨h1,h2⟩:=Ia hk f k m 0
 cases h:hasM k m with
 |true=>obtain⟨j,v,a,b,_⟩:=h1 h;rw[a,b z];simp
 |false=>obtain⟨a,b,_⟩:=h2 h;rw[a,b z];simp only[hitD,hz,Bool.false_eq_true,if_false,if_true]
theorem N8{tab:Nat->Ty}{e:Nat}{z:β}(f:β->D)(hz:Hb (tab e)=some (f z))(k:α)(m:List (α×β)):hitD tab e true (C9 kt (kf k) (eM kf f m) 0)=some (.tup [f (getM z k m),.bool (hasM k m)]):=by
 obtain⟨h1,h2⟩:=Ia hk f k m 0
 cases h:hasM k m with
 |true=>obtain⟨j,v,a,b,_⟩:=h1 h;rw[a,b z];simp
 |false=>obtain⟨a,b,_⟩:=h2 h;rw[a,b z];simp only[hitD,hz,Bool.false_eq_true,if_false,if_true]
theorem MV(f:β->D)(k:α)(v:β)(m:List (α×β)):Cw kt (kf k) (f v) (eM kf f m)=some (eM kf f (putM k v m)):=by
 obtain⟨h1,h2⟩:=Ia hk f k m 0
 unfold Cw
 cases h:hasM k m with
 |true=>obtain⟨j,w,a,_,c⟩:=h1 h;rw[a];simp only[Nat.zero_add];rw[c v]
 |false=>obtain⟨a,_,c⟩:=h2 h;rw[a];simp only;rw[c v]
end
def eSI(s:List Int):List (D×D):=eS dI s
def eIN(m:List (Int×Int)):List (D×D):=eM dI dI m
@[simp] theorem hitI4(k:Int)(s:List Int):hitD tab 4 false (C9 (.int .i64) (.int .i64 k) (eSI s) 0)=some (.bool (decide (k∈s))):=hit_eS keyI rfl k s
@[simp] theorem putI4(k:Int)(s:List Int):Cw (.int .i64) (.int .i64 k) (.bool true) (eSI s)=some (eSI (ins k s)):=put_eS keyI k s
@[simp] theorem hitINok(k:Int)(m:List (Int×Int)):hitD tab 3 true (C9 (.int .i64) (.int .i64 k) (eIN m) 0)=some (.tup [.int .i64 (getM 0 k m),.bool (hasM k m)]):=N8 keyI dI rfl k m
@[simp] theorem putIN(k v:Int)(m:List (Int×Int)):Cw (.int .i64) (.int .i64 k) (.int .i64 v) (eIN m)=some (eIN (putM k v m)):=MV keyI dI k v m
def eIO(m:List (Int×List Int)):List (D×D):=eM dI (fun l=>sl (cI l)) m
@[simp] theorem putIO(k:Int)(v:List Int)(m:List (Int×List Int)):Cw (.int .i64) (.int .i64 k) (sl (cI v)) (eIO m)=some (eIO (putM k v m)):=MV keyI (fun l=>sl (cI l)) k v m
theorem SW(k:Int)(m:List (Int×List Int)):hitD tab 23 false (C9 (.int .i64) (.int .i64 k) (eIO m) 0)=some (if hasM k m then sl (cI (getM [] k m)) else .nils):=TZ keyI _ rfl k m
section
variable {P:Program}{ro:Ro}{n:Nat}{Q:DX->St->Prop}{df:List DDf}{γ:List (Nat×D)}{O:Sig}
theorem Ma{Sk:Fr}{α β δ ε:Type}{c:Code}(keep:List Nat)(I:α->β->δ->ε->Prop)(ov:α->β->δ->ε->Fr)(sg:α->β->δ->ε->Sig)(μ:α->β->δ->ε->Nat)(x0:α)(y0:β)(z0:δ)(u0:ε)(h0:I x0 y0 z0 u0)
  (round:∀x y z u,I x y z u->DWp P ro n c (Then (fun s'=> ∃x' y' z' u',I x' y' z' u'/\μ x' y' z' u'<μ x y z u/\Wk P n s' ⟨ov x' y' z' u'++Sk,sg x' y' z' u',df⟩) Q) ⟨ov x y z u++Sk,sg x y z u,df⟩) (hk:Dc γ keep=some Sk:=by exact tdR) (h1:TellsR γ (ov x0 y0 z0 u0++Sk):=by(first|refine FG ?_ ?_|skip)<;>(repeat' first|exact FF|refine EW tdR ?_ ?_|(first|exact A8 _|exact BD _ _|exact Ak _ (.inl rfl)|exact E2 _|(refine Hp _ ?_;first|omega|(simp;done)|(simp;omega))|(refine Ch ?_;(simp;done))|(refine Ch ?_;(simp[cI,cS,cII,F6,ET,Gs];done))|(refine DF _ ?_;(simp[cI,cS,cII];done))|(refine Ch ?_;(simp_all;done))|assumption))) (h2:Sub (sg x0 y0 z0 u0) O:=by first|exact Sub.refl _|(refine D6 ?_;simp;done)|assumption|exact(Sub.refl _).set (by assumption)):DWp P ro n (.loop c) Q ⟨γ,O,df⟩:=by
 refine EO (α:=α×β×δ×ε) keep (fun x=>I x.1 x.2.1 x.2.2.1 x.2.2.2) (fun x=>ov x.1 x.2.1 x.2.2.1 x.2.2.2) (fun x=>sg x.1 x.2.1 x.2.2.1 x.2.2.2) (fun x=>μ x.1 x.2.1 x.2.2.1 x.2.2.2) (x0,y0,z0,u0) hk h0 h1 h2 fun x hx=>F4 (round x.1 x.2.1 x.2.2.1 x.2.2.2 hx) ?_
 intro e s h
 cases e with
 |normal=>obtain⟨x',y',z',u',h3,h4,h5⟩:=h;exact⟨(x',y',z',u'),h3,h4,h5⟩
 |_=>exact h
theorem loop5{Sk:Fr}{α β δ ε ζ:Type}{c:Code}(keep:List Nat)(I:α->β->δ->ε->ζ->Prop)(ov:α->β->δ->ε->ζ->Fr)(sg:α->β->δ->ε->ζ->Sig)(μ:α->β->δ->ε->ζ->Nat)(x0:α)(y0:β)(z0:δ)(u0:ε)(v0:ζ)(h0:I x0 y0 z0 u0 v0)
  (round:∀x y z u v,I x y z u v->DWp P ro n c (Then (fun s'=> ∃x' y' z' u' v',I x' y' z' u' v'/\μ x' y' z' u' v'<μ x y z u v/\Wk P n s' ⟨ov x' y' z' u' v'++Sk,sg x' y' z' u' v',df⟩) Q) ⟨ov x y z u v++Sk,sg x y z u v,df⟩) (hk:Dc γ keep=some Sk:=by exact tdR) (h1:TellsR γ (ov x0 y0 z0 u0 v0++Sk):=by(first|refine FG ?_ ?_|skip)<;>(repeat' first|exact FF|refine EW tdR ?_ ?_|(first|exact A8 _|exact BD _ _|exact Ak _ (.inl rfl)|exact E2 _|(refine Hp _ ?_;first|omega|(simp;done)|(simp;omega))|(refine Ch ?_;(simp;done))|(refine Ch ?_;(simp[cI,cS,cII,F6,ET,Gs];done))|(refine DF _ ?_;(simp[cI,cS,cII];done))|(refine Ch ?_;(simp_all;done))|assumption))) (h2:Sub (sg x0 y0 z0 u0 v0) O:=by first|exact Sub.refl _|(refine D6 ?_;simp;done)|assumption|exact(Sub.refl _).set (by assumption)):DWp P ro n (.loop c) Q ⟨γ,O,df⟩:=by
 refine EO (α:=α×β×δ×ε×ζ) keep (fun x=>I x.1 x.2.1 x.2.2.1 x.2.2.2.1 x.2.2.2.2) (fun x=>ov x.1 x.2.1 x.2.2.1 x.2.2.2.1 x.2.2.2.2) (fun x=>sg x.1 x.2.1 x.2.2.1 x.2.2.2.1 x.2.2.2.2) (fun x=>μ x.1 x.2.1 x.2.2.1 x.2.2.2.1 x.2.2.2.2) (x0,y0,z0,u0,v0) hk h0 h1 h2 fun x hx=>F4 (round x.1 x.2.1 x.2.2.1 x.2.2.2.1 x.2.2.2.2 hx) ?_
 intro e s h
 cases e with
 |normal=>obtain⟨x',y',z',u',v',h3,h4,h5⟩:=h;exact⟨(x',y',z',u',v'),h3,h4,h5⟩
 |_=>exact h
variable {ops:Array Oper}{rest:List Oper}{Sr:List (Nat×D)}{t:Nat}{ty:TypeId}{pos:String}{after:Array Edge}
theorem newSI{T:Nat}(h:∀i,O i=none->DOps prog ro n ops Q rest ⟨(t,.map i)::γ,O.set i (.map (eSI [])),df⟩)(aa:decide (t<n)=true:=by exact tdR):DOps prog ro n ops Q (⟨some t,.makeMap T none,ty,pos,after,none⟩::rest) ⟨γ,O,df⟩:=newM h aa
theorem newIN{T:Nat}(h:∀i,O i=none->DOps prog ro n ops Q rest ⟨(t,.map i)::γ,O.set i (.map (eIN [])),df⟩)(aa:decide (t<n)=true:=by exact tdR):DOps prog ro n ops Q (⟨some t,.makeMap T none,ty,pos,after,none⟩::rest) ⟨γ,O,df⟩:=newM h aa
theorem newIO{T:Nat}(h:∀i,O i=none->DOps prog ro n ops Q rest ⟨(t,.map i)::γ,O.set i (.map (eIO [])),df⟩)(aa:decide (t<n)=true:=by exact tdR):DOps prog ro n ops Q (⟨some t,.makeMap T none,ty,pos,after,none⟩::rest) ⟨γ,O,df⟩:=newM h aa
theorem lkO{x y:Operand}{i:Nat}{k:Int}{m:List (Int×List Int)}(h:DOps prog ro n ops Q rest ⟨(t,sl (cI (getM [] k m)))::γ,O,df⟩)(hi:O i=some (.map (eIO m)):=by first|assumption|(simp;done))
  (hl:A0 γ (A4 [x,y])=some Sr:=by exact tdR) (hx:ev Sr x=.map i:=by exact tdR) (hy:ev Sr y=dI k:=by exact tdR) (aa:decide (t<n)=true:=by exact tdR) :
  DOps prog ro n ops Q (⟨some t,.lookup 354 x y false,ty,pos,after,none⟩::rest) ⟨γ,O,df⟩:=by
 refine FI (d:=if hasM k m then sl (cI (getM [] k m)) else .nils) Ab rfl aa hl ?_ ?_
 ·simp only[dopX_lk,hx,hy]
  simp[hi,SW]
 ·refine BQ (Bv (t:=t) (d:=sl (cI (getM [] k m))) ?_) (BW (γ:=(t,sl (cI (getM [] k m)))::γ) (fun j=>?_) h)
  ·rw [A6,if_pos rfl]
   cases hh:hasM k m with
   |true=>exact A8 _
   | false =>
    have:getM [] k m=[]:=by
     have key:∀m:List (Int×List Int),hasM k m=false->getM [] k m=[]:=fun m=>by
      induction m with
      |nil=>intro _;rfl
      |cons p m ih=>
       intro h
       simp only[hasM,Bool.or_eq_false_iff,decide_eq_false_iff_not]at h
       rw[getM,if_neg h.1];exact ih h.2
     exact key m hh
    rw[this];exact Ak _ (.inl rfl)
  ·simp only[A6];split<;>rfl
end
theorem mS_at{O:Sig}{i sz:Nat}{X:DObj}{st:MR}{es:List (List D)}(h:mOK (O.set i X) sz st es):(∀Y,mOK (O.set i Y) sz st es)/\(∀Y,mS (O.set i Y) st es i=some Y) /\ ∀Y Z,(mS (O.set i Y) st es).set i Z=mS (O.set i Z) st es:=by
 cases st with
 |none=>exact⟨fun Y=>h,fun Y=>w6 .., fun Y Z=>w8 ..⟩
 |some x=>
  obtain⟨k,cap,r⟩:=x
  obtain⟨h1,h2,h3,h4⟩:=h
  have ah:k≠i:=fun e=>by rw[e,w6]at h1;cases h1
  rw[w7 _ _ ah]at h1
  refine⟨fun Y=>⟨by rw[w7 _ _ ah];exact h1,h2,h3,h4⟩,fun Y=>?_,fun Y Z=>?_⟩
  ·simp only[mS];rw[w7 _ _ (Ne.symm ah),w6]
  ·simp only[mS];rw[Sig.set_comm _ _ _ (Ne.symm ah),w8];exact Sig.set_comm _ _ _ ah |>.symm ▸ rfl
theorem RQ(a b:List Int):cI a++cI b=cI (a++b):=by simp[cI]
section
variable {ro:Ro}{n:Nat}{Q:DX->St->Prop}{df:List DDf}{γ Sr:List (Nat×D)}{O:Sig}{ops:Array Oper}{rest:List Oper}{t:Nat}{ty:TypeId}{pos:String}{after:Array Edge}
theorem mappI{T T' e e':Nat}{s x:Operand}{l m:List Int}{st:MR}(h:∀st',mOK O 1 st' (cI (l++m))->DOps prog ro n ops Q rest ⟨(t,mD st' (l++m).length)::γ,mS O st' (cI (l++m)),df⟩)(hm:mOK O 1 st (cI l):=by assumption)
  (hl:A0 γ (A4 [s,x])=some Sr:=by exact tdR) (hk:(tab T).k=.slice e:=by(simp<;>rfl)) (ac:(tab T').k=.slice e':=by(simp<;>rfl)) (he:A1 (tab e).k=false:=by simp) (hsz:(tab e).size=1:=by simp)
  (h1:ev Sr s=mD st l.length:=by exact tdR) (h2:esOf (ev Sr x)=some (cI m):=by(simp<;>with_unfolding_all rfl))
  (hb:(l.length+m.length)*(tab e).bytes<=140737488355328:=by first|(simp;done)|(simp;omega)) (hm2:l.length+m.length<=9223372036854775807:=by omega) (aa:decide (t<n)=true:=by exact tdR) :
  DOps prog ro n ops Q (⟨some t,(cA s x T T'),ty,pos,after,none⟩::rest) ⟨γ,mS O st (cI l),df⟩:=by
 refine mapp (fun st' ai=>?_) hm hl hk ac he hsz (by rw[h1,LH]) h2 (C4 _) (by simp[cI,Bz,D.flat]) (by simpa using hb) ?_ aa
 ·rw[RQ]at ai⊢
  rw[LH,LH,<-List.length_append]
  exact h st' ai
 ·simpa using hm2
end
structure ShlOf(k:IntKind)(a b:Int) where
 val:Int
 is:val=k.wrap (a*2 ^ (min b.toNat k.bits))
def shlI(k:IntKind)(a b:Int):ShlOf k a b:=⟨_,rfl⟩
theorem Ny(k k':IntKind)(a b:Int)(h:0<=b):binD .shl (.int k a) (.int k' b)=some (.int k (shlI k a b).val):=by
 rw[(shlI k a b).is];simp only[binD,h,if_true]
end Go.DL
