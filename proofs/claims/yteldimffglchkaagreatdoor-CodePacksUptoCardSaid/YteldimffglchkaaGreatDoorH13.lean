/- A part of the proof. -/
import Derived.Test.YteldimffglchkaaGreatDoorH08
import Derived.Test.YteldimffglchkaaGreatDoorH09
import Derived.Test.YteldimffglchkaaGreatDoorH12
import Derived.Test.YteldimffglchkaaGreatDoorH11
set_option linter.all false
namespace Go.DL
open Go.Proofs.Tryz
open Go Go.Proofs
theorem P8{P:Program}{n:Nat}{γ V':Fr}{O:Sig}{df:List DDf}(h:∀t,WkD (getD γ t) (getD V' t)):Wk P n { γ,O,df } { γ:=V',O,df }:=
 fun g w a hs=>⟨g,.refl g,⟨hs.sim,⟨hs.tmps.1,fun t=>h t g _ (hs.tmps.2 t)⟩,hs.df⟩⟩
theorem go1{F G' G:Prop}(fx:F)(h:G') (hs:VarsAre []->Hold F->G'->G:=by
 intro hv fx hG
 (first
  |(with_reducible first|refine FB ?_|refine HG ?_|refine K0 ?_|refine GG ?_|refine GU ?_|refine Kp ?_|refine Qd (by decide) ?_|refine MB ?_|refine Ii ?_|refine Iu ?_|refine Iv ?_|refine Kv ?_|refine Kw ?_|refine MN ?_|refine Au ?_|refine Gw ?_|refine PQ ?_)
  |((with_reducible refine FV (d:=?_) (Sr:=?_) Ac ?h1 ?h2 ?hl ?hd ?_);(case h1=>rfl);(case h2=>rfl);(case hl=>rfl);(case hd=>simp(disch:=first|omega|assumption) [An,big1,big2,w7,CS,BX,CR,BW,CT,CQ,BS,Bq,BQ,Bp,BT,BP,EN,fx.get]<;>(try simp only[Bh,Bi,AU,Bg,AK,AX,AW,AV,AT,AJ,AS,AR,AQ])<;>first|rfl|(and_intros<;>rfl)))
  |((with_reducible refine GI (d:=?_) (k:=?_) (Sr:=?_) Ac ?h1 ?h2 ?hk ?hb ?hl ?hd ?_);(case h1=>rfl);(case h2=>rfl);(case hk=>rfl);(case hb=>rfl);(case hl=>rfl);(case hd=>simp(disch:=first|omega|assumption) [An,big1,big2,w7,CS,BX,CR,BW,CT,CQ,BS,Bq,BQ,Bp,BT,BP,EN,fx.get]<;>(try simp only[Bh,Bi,AU,Bg,AK,AX,AW,AV,AT,AJ,AS,AR,AQ])<;>first|rfl|(and_intros<;>rfl)))
  |((with_reducible refine step_read0 (d:=?_) (Sr:=?_) Ac ?h1 ?hl ?hd ?_);(case h1=>rfl);(case hl=>rfl);(case hd=>simp(disch:=first|omega|assumption) [An,big1,big2,w7,CS,BX,CR,BW,CT,CQ,BS,Bq,BQ,Bp,BT,BP,EN,fx.get]<;>(try simp only[Bh,Bi,AU,Bg,AK,AX,AW,AV,AT,AJ,AS,AR,AQ])<;>first|rfl|(and_intros<;>rfl)))
  |((with_reducible refine Ki (d:=?_) (Sr:=?_) Ac ?h1 ?h2 ?hl ?hd ?_);(case h1=>rfl);(case h2=>rfl);(case hl=>rfl);(case hd=>simp(disch:=first|omega|assumption) [An,big1,big2,w7,CS,BX,CR,BW,CT,CQ,BS,Bq,BQ,Bp,BT,BP,EN,fx.get]<;>(try simp only[Bh,Bi,AU,Bg,AK,AX,AW,AV,AT,AJ,AS,AR,AQ])<;>first|rfl|(and_intros<;>rfl)))
  |((with_reducible refine Kh (d:=?_) (k:=?_) (Sr:=?_) Ac ?h1 ?h2 ?hk ?hb ?hl ?hd ?_);(case h1=>rfl);(case h2=>rfl);(case hk=>rfl);(case hb=>rfl);(case hl=>rfl);(case hd=>simp(disch:=first|omega|assumption) [An,big1,big2,w7,CS,BX,CR,BW,CT,CQ,BS,Bq,BQ,Bp,BT,BP,EN,fx.get]<;>(try simp only[Bh,Bi,AU,Bg,AK,AX,AW,AV,AT,AJ,AS,AR,AQ])<;>first|rfl|(and_intros<;>rfl)))
  |((with_reducible refine mo_read0 (d:=?_) (Sr:=?_) Ac ?h1 ?hl ?hd ?_);(case h1=>rfl);(case hl=>rfl);(case hd=>simp(disch:=first|omega|assumption) [An,big1,big2,w7,CS,BX,CR,BW,CT,CQ,BS,Bq,BQ,Bp,BT,BP,EN,fx.get]<;>(try simp only[Bh,Bi,AU,Bg,AK,AX,AW,AV,AT,AJ,AS,AR,AQ])<;>first|rfl|(and_intros<;>rfl)))
  |((with_reducible refine HM (k:=?_) Ai ?hk ?hb ?h1 ?h2 ?_);(case hk=>rfl);(case hb=>rfl);(case h1=>rfl);(case h2=>rfl))
  |((with_reducible refine GH (k:=?_) Ai ?hk ?hb ?h1 ?h2 ?_);(case hk=>rfl);(case hb=>rfl);(case h1=>rfl);(case h2=>rfl))
  |((with_reducible refine step_skip0 (k:=?_) Ai ?hk ?hb ?h1 ?_);(case hk=>rfl);(case hb=>rfl);(case h1=>rfl))
  |((with_reducible refine step_skipU0 (k:=?_) Ai ?hk ?hb ?h1 ?_);(case hk=>rfl);(case hb=>rfl);(case h1=>rfl))
  |((with_reducible refine Kg (k:=?_) ?hk ?hb ?h1 ?h2 ?_);(case hk=>rfl);(case hb=>rfl);(case h1=>rfl);(case h2=>rfl))
  |((with_reducible refine mo_skipU (k:=?_) ?hk ?hb ?h1 ?h2 ?_);(case hk=>rfl);(case hb=>rfl);(case h1=>rfl);(case h2=>rfl))
  |((with_reducible refine mo_skip0 (k:=?_) ?hk ?hb ?h1 ?_);(case hk=>rfl);(case hb=>rfl);(case h1=>rfl))
  |((with_reducible refine mo_skipU0 (k:=?_) ?hk ?hb ?h1 ?_);(case hk=>rfl);(case hb=>rfl);(case h1=>rfl))
  |((with_reducible refine K4 (d:=?_) (U':=?_) (Sr:=?_) Ac ?hl ?he ?h1 ?_);(case hl=>rfl);(case he=>simp(disch:=first|omega|assumption) [An,big1,big2,w7,CS,BX,CR,BW,CT,CQ,BS,Bq,BQ,Bp,BT,BP,EN,fx.get]<;>first|rfl|(and_intros<;>rfl));(case h1=>rfl))
  |((with_reducible refine DN (d:=?_) (U':=?_) (Sr:=?_) Ac ?hl ?he ?_);(case hl=>rfl);(case he=>simp(disch:=first|omega|assumption) [An,big1,big2,w7,CS,BX,CR,BW,CT,CQ,BS,Bq,BQ,Bp,BT,BP,EN,fx.get]<;>first|rfl|(and_intros<;>rfl)))
  |((with_reducible refine Mw (d:=?_) (U':=?_) (Sr:=?_) Ac ?hl ?he ?h1 ?hC ?_);(case hl=>rfl);(case he=>simp(disch:=first|omega|assumption) [An,big1,big2,w7,CS,BX,CR,BW,CT,CQ,BS,Bq,BQ,Bp,BT,BP,EN,fx.get]<;>first|rfl|(and_intros<;>rfl));(case h1=>rfl);(case hC=>clear hG;first|exact Sub.refl _|assumption|exact(Sub.refl _).set (by assumption)))
  |((with_reducible refine FG (d:=?_) (U':=?_) (Sr:=?_) Ac ?hl ?he ?hC ?_);(case hl=>rfl);(case he=>simp(disch:=first|omega|assumption) [An,big1,big2,w7,CS,BX,CR,BW,CT,CQ,BS,Bq,BQ,Bp,BT,BP,EN,fx.get]<;>first|rfl|(and_intros<;>rfl));(case hC=>clear hG;first|exact Sub.refl _|assumption|exact(Sub.refl _).set (by assumption)))
  |((with_reducible refine step_neqS (r:=?_) (Sr:=?_) (xs:=?_) (ys:=?_) (fs:=?_) Ac ?hE ?h1 ?hl ?hx ?hy ?hk ?hd ?_);(case hE=>with_reducible first|exact eqTy63|exact eqTy150);(case h1=>rfl);(case hl=>rfl);(case hx=>rfl);(case hy=>rfl);(case hk=>simp<;>rfl);(case hd=>simp(disch:=first|omega|assumption) [An,big1,big2,w7,CS,BX,CR,BW,CT,CQ,BS,Bq,BQ,Bp,BT,BP,EN,fx.get]<;>rfl))
  |((with_reducible refine I4 (r:=?_) (Sr:=?_) (xs:=?_) (ys:=?_) (fs:=?_) Ac ?hE ?h1 ?hl ?hx ?hy ?hk ?hd ?_);(case hE=>with_reducible first|exact eqTy63|exact eqTy150);(case h1=>rfl);(case hl=>rfl);(case hx=>rfl);(case hy=>rfl);(case hk=>simp<;>rfl);(case hd=>simp(disch:=first|omega|assumption) [An,big1,big2,w7,CS,BX,CR,BW,CT,CQ,BS,Bq,BQ,Bp,BT,BP,EN,fx.get]<;>rfl))
  |((with_reducible refine GK (Sr:=?_) ?hl ?hc ?_);(case hl=>rfl);(case hc=>simp(disch:=first|omega|assumption) [An,big1,big2,w7,CS,BX,CR,BW,CT,CQ,BS,Bq,BQ,Bp,BT,BP,EN,fx.get];done))
  |((with_reducible refine GL (Sr:=?_) ?hl ?hc ?_);(case hl=>rfl);(case hc=>simp(disch:=first|omega|assumption) [An,big1,big2,w7,CS,BX,CR,BW,CT,CQ,BS,Bq,BQ,Bp,BT,BP,EN,fx.get];done))
  |((with_reducible refine HN (d:=?_) (cs:=?_) (Sr:=?_) hv Ac ?h1 ?h2 ?h3 ?h4 ?h5 ?hl ?he ?h6 ?h7 ?h8 ?h9 ?_);(case h1=>rfl);(case h2=>rfl);(case h3=>rfl);(case h4=>rfl);(case h5=>simp);(case hl=>rfl);(case he=>simp<;>(try simp only[Bh,Bi,AU,Bg,AK,AX,AW,AV,AT,AJ,AS,AR,AQ])<;>rfl);(case h6=>rfl);(case h7=>simp<;>(try simp only[Bh,Bi,AU,Bg,AK,AX,AW,AV,AT,AJ,AS,AR,AQ])<;>rfl);(case h8=>simp);(case h9=>simp))
  |((with_reducible refine GJ (d:=?_) (d2:=?_) (cs:=?_) (Sr:=?_) (Sr2:=?_) hv Ac ?h1 ?h2 ?h3 ?h4 ?h5 ?g1 ?g2 ?g3 ?g4 ?gl ?ge ?hl ?he ?h6 ?h7 ?h8 ?h9 ?_);(case h1=>rfl);(case h2=>rfl);(case h3=>rfl);(case h4=>rfl);(case h5=>rfl);(case g1=>rfl);(case g2=>rfl);(case g3=>rfl);(case g4=>simp);(case gl=>rfl);(case ge=>simp<;>(try simp only[Bh,Bi,AU,Bg,AK,AX,AW,AV,AT,AJ,AS,AR,AQ])<;>rfl);(case hl=>rfl);(case he=>simp<;>(try simp only[Bh,Bi,AU,Bg,AK,AX,AW,AV,AT,AJ,AS,AR,AQ])<;>rfl);(case h6=>rfl);(case h7=>simp<;>(try simp only[Bh,Bi,AU,Bg,AK,AX,AW,AV,AT,AJ,AS,AR,AQ])<;>rfl);(case h8=>simp);(case h9=>simp)))
 exact hG):G:=hs ⟨⟩ ⟨fx⟩ h
section
variable {P:Program}{ro:Ro}{n:Nat}{ops:Array Oper}{N:Nat}{S0:Sig}{Q:DX->St->Prop}{df:List DDf}{rest:List Oper}{γ Sr:List (Nat×D)}{O:Sig}{t:Nat}{ty:TypeId}{pos:String}{after:Array Edge}{l:List (Bool×Oper)}{d:D}
theorem needR{fop:Operand}{args:Array Operand}{ats:Array TypeId}{f:Nat}{first cap us bs:List D}{c:Bool}{u d:D}{dst:Option Tmp}(h:DCall P f bs O fun x U'=>x=(if c then .ret d else .panic u)/\U'=O)(k1:c=true->DOps P ro n ops Q rest ⟨putD dst d γ,O,df⟩)(k2:c=false->Q (.panic u) ⟨γ,O,df⟩)(hl:A0 γ (A5 (fop::args.toList))=some Sr:=by exact tdR)(hf:ev Sr fop=.func (.func f) first cap:=by exact tdR)(ha:first++args.toList.map (ev Sr)++cap=us:=by exact td0)(hp:bs=us:=by exact tdR)
  (ho:Ar n ⟨dst,(cv fop args ats),ty,pos,after,none⟩=true:=by exact tdR):DOps P ro n ops Q (⟨dst,(cv fop args ats),ty,pos,after,none⟩::rest) ⟨γ,O,df⟩:=by
 refine FW hl hf ha (.inl hp) h ho (fun d' U' hx=>?_) (fun d' U' hx=>?_)
 all_goals obtain⟨hx,rfl⟩:=hx;cases c<;>simp only[Bool.false_eq_true,if_true,if_false,DE.ret.injEq,DE.panic.injEq,reduceCtorEq]at hx
 ·subst hx;exact k1 rfl
 ·subst hx;exact k2 rfl
theorem moNeedR{fop:Operand}{args:Array Operand}{ats:Array TypeId}{f:Nat}{first cap us bs:List D}{c:Bool}{u d:D}{dst:Option Tmp}{l:List (Bool×Oper)}(h:DCall P f bs O fun x U'=>x=(if c then .ret d else .panic u)/\U'=O)(k1:c=true->MO P ro n ops N S0 Q df l (putD dst d γ) O)(k2:c=false->∀V',Q (.panic u) ⟨V',O,df⟩)(hl:A0 γ (A5 (fop::args.toList))=some Sr:=by exact tdR)(hf:ev Sr fop=.func (.func f) first cap:=by exact tdR)(ha:first++args.toList.map (ev Sr)++cap=us:=by exact td0)(hp:bs=us:=by exact tdR)(hC:Sub S0 O:=by first|exact Sub.refl _|assumption)
  (ho:Ar n ⟨dst,(cv fop args ats),ty,pos,after,none⟩=true:=by exact tdR):MO P ro n ops N S0 Q df ((true,⟨dst,(cv fop args ats),ty,pos,after,none⟩)::l) γ O:=by
 refine Hq rfl hl hf ha (.inl hp) h ho (fun d' U' hx=>?_) (fun d' U' hx=>?_)
 all_goals obtain⟨hx,rfl⟩:=hx;cases c<;>simp only[Bool.false_eq_true,if_true,if_false,DE.ret.injEq,DE.panic.injEq,reduceCtorEq]at hx
 ·subst hx;exact⟨hC,k1 rfl⟩
 ·subst hx;exact k2 rfl
theorem Bx{fop:Operand}{args:Array Operand}{ats:Array TypeId}{f:Nat}{first cap us bs:List D}{R:DE->Sig->Prop}{dst:Option Tmp}{l:List (Bool×Oper)}(h:DCall P f bs O R)(ae:∀d U',R (.ret d) U'->Sub S0 U'/\MO P ro n ops N S0 Q df l (putD dst d γ) U')(ag:∀d U',R (.panic d) U'->∀V',Q (.panic d) ⟨V',U',df⟩)(hl:A0 γ (A5 (fop::args.toList))=some Sr:=by exact tdR)(hf:ev Sr fop=.func (.func f) first cap:=by exact tdR)(ha:first++args.toList.map (ev Sr)++cap=us:=by exact td0)(hp:bs=us:=by exact tdR)
  (ho:Ar n ⟨dst,(cv fop args ats),ty,pos,after,none⟩=true:=by exact tdR):MO P ro n ops N S0 Q df ((true,⟨dst,(cv fop args ats),ty,pos,after,none⟩)::l) γ O:=Hq rfl hl hf ha (.inl hp) h ho ae ag
theorem nilE{x:Operand}{z:Value}{T T':Nat}{b:Bool}(h:DOps prog ro n ops Q rest ⟨(t,.bool b)::γ,O,df⟩)(hl:A0 γ (A5 [x])=some Sr:=by exact tdR)(hb:nilB (tab T).k z (ev Sr x)=some b:=by(simp<;>with_unfolding_all rfl))(aa:decide (t<n)=true:=by exact tdR):
  DOps prog ro n ops Q (⟨some t,.binOp .eql T x (.const z) T',ty,pos,after,none⟩::rest) ⟨γ,O,df⟩:=
 LQ Ac (b:=b) false rfl (by rw[<-BJ hl];exact hb) (by simpa using aa) (by cases b<;>exact h)
theorem nilN{x:Operand}{z:Value}{T T':Nat}{b:Bool}(h:DOps prog ro n ops Q rest ⟨(t,.bool (!b))::γ,O,df⟩)(hl:A0 γ (A5 [x])=some Sr:=by exact tdR)(hb:nilB (tab T).k z (ev Sr x)=some b:=by(simp<;>with_unfolding_all rfl))(aa:decide (t<n)=true:=by exact tdR):
  DOps prog ro n ops Q (⟨some t,.binOp .neq T x (.const z) T',ty,pos,after,none⟩::rest) ⟨γ,O,df⟩:=
 LQ Ac (b:=b) true rfl (by rw[<-BJ hl];exact hb) (by simpa using aa) (by cases b<;>exact h)
theorem mapp{T T' e e' sz:Nat}{s x:Operand}{es new:List (List D)}{st:MR}(h:∀st',mOK O sz st' (es++new)->DOps prog ro n ops Q rest ⟨(t,mD st' (es.length+new.length))::γ,mS O st' (es++new),df⟩)(hm:mOK O sz st es:=by assumption)
  (hl:A0 γ (A5 [s,x])=some Sr:=by exact tdR) (hk:(tab T).k=.slice e:=by(simp<;>rfl)) (ac:(tab T').k=.slice e':=by(simp<;>rfl)) (he:A1 (tab e).k=false:=by simp) (hsz:(tab e).size=sz:=by simp)
  (h1:ev Sr s=mD st es.length:=by first|with_unfolding_all rfl|(simp[ev,getD,List.lookup];done)) (h2:esOf (ev Sr x)=some new:=by(simp<;>with_unfolding_all rfl))
  (hlen':∀c∈new,c.length=sz:=by first|exact BY _|exact Dk _|exact Ce _|simp) (ap:∀c∈new,Bw c=true:=by simp[cI,cS,cII,Bw,D.flat])
  (hb:(es.length+new.length)*(tab e).bytes<=140737488355328:=by first|(simp;done)|(simp;omega)) (hm2:es.length+new.length<=9223372036854775807:=by first|(simp;done)|(simp;omega)) (aa:decide (t<n)=true:=by exact tdR) :
  DOps prog ro n ops Q (⟨some t,(cA s x T T'),ty,pos,after,none⟩::rest) ⟨γ,mS O st es,df⟩:=by
 obtain⟨e1,e2⟩:=evs hl
 exact LS Ac (by simpa using aa) hk ac he hsz (by rw[<-e1];exact h1) hm (by rw[<-e2];exact h2) hlen' ap hb hm2 (fun st' h'=>by rw[List.length_append];exact h st' h')
theorem mmake{T e k sz c:Nat}{l m:Operand}{z:List D}(h:∀i,O i=none->mOK O sz (some (i,c,(List.replicate (c-k) z).flatten)) (List.replicate k z)->DOps prog ro n ops Q rest ⟨(t,.sref i 0 k c)::γ,mS O (some (i,c,(List.replicate (c-k) z).flatten)) (List.replicate k z),df⟩)
  (hl:A0 γ (A5 [l,m])=some Sr:=by exact tdR) (hk:(tab T).k=.slice e:=by(simp<;>rfl)) (he:A1 (tab e).k=false:=by simp) (hsz:(tab e).size=sz:=by(simp<;>rfl)) (h0:0<sz:=by decide) (hz:(tab e).zero=z:=by(simp<;>rfl))
  (h1:ev Sr l=.int .i64 k:=by exact tdR) (h2:ev Sr m=.int .i64 c:=by exact tdR) (am:k<=c:=by first|exact Nat.le_refl _|omega) (hb:c*(tab e).bytes<=140737488355328:=by first|(simp;done)|(simp;omega)) (hm:c<=9223372036854775807:=by omega) (aa:decide (t<n)=true:=by exact tdR) :
  DOps prog ro n ops Q (⟨some t,.makeSlice T l m,ty,pos,after,none⟩::rest) ⟨γ,O,df⟩:=by
 obtain⟨e1,e2⟩:=evs hl
 exact OV Ac (by simpa using aa) hk he hsz h0 hz (by rw[<-e1];exact h1) (by rw[<-e2];exact h2) am hb hm h
theorem mfr(k:Nat){l:List Oper}{sz:Nat}{st:MR}{es:List (List D)}(h:DOps P ro n ops Q l ⟨(k,.slice es .no)::γ,O,df⟩)(hm:mOK O sz st es:=by assumption)(hk:getD γ k=mD st es.length:=by first|exact At tdR|(simp[getD,List.lookup];done)):DOps P ro n ops Q l ⟨γ,mS O st es,df⟩:=
 BH (O0 hm hk) h
theorem bldZ{T len e:Nat}{z:List D}(h:DOps prog ro n ops Q rest ⟨(t,.agg z)::γ,O,df⟩)(hk:(tab T).k=.array len e:=by exact tdR)(he:A1 (tab e).k=false:=by simp)(hz:(tab T).zero=z:=by(simp<;>rfl))(aa:decide (t<n)=true:=by exact tdR):DOps prog ro n ops Q (⟨some t,.build T #[],ty,pos,after,none⟩::rest) ⟨γ,O,df⟩:=by
 subst hz;exact MS Ac (by simpa using aa) hk he h
theorem mfrC(xs ys:List D){i:Nat}{l:List Oper}{sz:Nat}{st:MR}{es:List (List D)}(h:DOps P ro n ops Q l ⟨γ,O.set i (.cells (xs ++ .slice es .no::ys)),df⟩)(hi:O i=some (.cells (xs++mD st es.length::ys)):=by first|exact w6 .. |(simp;done))(hm:mOK O sz st es:=by assumption):DOps P ro n ops Q l ⟨γ,mS O st es,df⟩:=
 BH (Mc hm hi) h
theorem celW(xs ys:List D)(d d':D){i:Nat}{l:List Oper}(h:DOps P ro n ops Q l ⟨γ,O.set i (.cells (xs++d'::ys)),df⟩)(hi:O i=some (.cells (xs++d::ys)):=by first|exact w6 .. |(simp;done))(hw:WkD d d'):DOps P ro n ops Q l ⟨γ,O,df⟩:=
 BH (Ex hi hw) h
theorem cfr(k:Nat){l:List Oper}{i:Nat}{m:List (D×D)}(hi:O i=some (.map m))(h:DOps P ro n ops Q l ⟨(k,.cmap (m.map (·.1)) (m.map (·.2)))::γ,O.del i,df⟩)(hk:getD γ k=.map i:=by exact At tdR):DOps P ro n ops Q l ⟨γ,O,df⟩:=
 BH (Md hi hk) h
theorem ent{i:Nat}{x:Operand}{left:List (D×D)}{k v:D}(h:DOps P ro n ops Q rest ⟨(t,.tup [k,v])::γ,O,df⟩)(hi:O i=some (.iter left (some (k,v))):=by first|exact w6 .. |simp)
  (hl:A0 γ (A5 [x])=some Sr:=by exact tdR) (hx:ev Sr x=.obj i:=by exact tdR) (aa:decide (t<n)=true:=by exact tdR) :
  DOps P ro n ops Q (⟨some t,.entry x,ty,pos,after,none⟩::rest) ⟨γ,O,df⟩:=
 OX (by simpa using aa) (by rw[<-BJ hl];exact hx) hi h
theorem boxV{T:Nat}{x:Operand}{cs:List D}(h:∀i,O i=none->DOps P ro n ops Q rest ⟨(t,.ptr i 0)::γ,O.set i (.cells cs),df⟩)(hl:A0 γ (A5 [x])=some Sr:=by exact tdR)(hd:ev Sr x=d:=by(simp<;>with_unfolding_all rfl))(hc:d.cells=cs:=by(simp<;>with_unfolding_all rfl))(ht:d.told=true:=by exact tdR)(aa:decide (t<n)=true:=by exact tdR):
  DOps P ro n ops Q (⟨some t,.box T x,ty,pos,after,none⟩::rest) ⟨γ,O,df⟩:=by
 subst hc hd;rw[BJ hl]at ht h;exact dops_box ht (by simpa using aa) h
theorem finCE{fn:Func}{R:DE->Sig->Prop}{U':Sig}{ds:List D}(h:resL tab O γ fn.results.toList=some ds)(hR:R (.ret (Nd ds)) U')(hU:Sub U' O:=by first|exact Sub.refl _|(refine Db ?_;simp;done)|assumption|exact(Sub.refl _).set (by assumption)):Dp prog n fn R .ret ⟨γ,O,[]⟩:=It Ac h (A8 _) hU hR
theorem finC{fn:Func}{R:DE->Sig->Prop}{U':Sig}{ds:List D}{d:D}(hR:R (.ret d) U')(h:resL tab O γ fn.results.toList=some ds:=by(simp[resL];with_unfolding_all rfl))(hw:WkD (Nd ds) d:=by exact tdW)(hU:Sub U' O:=by first|exact Sub.refl _|(refine Db ?_;simp;done)|assumption|exact(Sub.refl _).set (by assumption)):Dp prog n fn R .ret ⟨γ,O,[]⟩:=It Ac h hw hU hR
theorem mixL{lo:List Oper}{id:Nat}(ord E:List Nat){lp:List (Bool×Oper)}{ol:Oper}(h:MO prog ro n lo.toArray 431 O (Then (fun s=>DOps prog ro n lo.toArray Q [ol] s) Q) df lp γ O)(hB:I7 lo.toArray E ord=true:=by kernel_rfl)(aj:nthO lo (lo.length-1)=some ol:=by exact tdR)(hl:HV lo E ord=some lp:=by exact tdR):DWp prog ro n (.region id lo.toArray true) Q ⟨γ,O,df⟩:=
 NK Ai mixed ord E O hB aj (Sub.refl _) hl h
theorem mo1{op:Op}{l:List (Bool×Oper)}(h:∀U2,(∀x∈op.operands,ev U2 x=ev γ x)->DOps P ro n ops (EQ df (some t) (fun d U'=>Sub S0 U'/\MO P ro n ops N S0 Q df l ((t,d)::γ) U') (fun d U'=> ∀V',Q (.panic d) ⟨V',U',df⟩)) [⟨some t,op,ty,pos,after,none⟩] ⟨U2,O,df⟩)(aa:decide (t<n)=true:=by exact tdR):
  MO P ro n ops N S0 Q df ((true,⟨some t,op,ty,pos,after,none⟩)::l) γ O:=
 mo_eff (o:=⟨some t,op,ty,pos,after,none⟩) aa rfl rfl (h _ fun _ hx=>Bk (o:=⟨some t,op,ty,pos,after,none⟩) hx)
theorem H6{U2:Fr}{s x:Operand}{T T':Nat}(hl:A0 γ (A5 [s,x])=some Sr)(hx:∀y∈((cA s x T T')).operands,ev U2 y=ev γ y):ev U2 s=ev Sr s/\ev U2 x=ev Sr x:=by
 obtain⟨e1,e2⟩:=evs hl
 exact⟨by rw[hx s (by simp[Op.operands,Call.operands]),e1],by rw[hx x (by simp[Op.operands,Call.operands]),e2]⟩
theorem moAppC{s x:Operand}{T T' e e':Nat}{es new:List (List D)}{l:List (Bool×Oper)}(h:∀i,O i=none->MO prog ro n ops N S0 Q df l ((t,.slice (es++new) (.tag i))::γ) (O.set i (.tail (tab e).size (es.length+new.length))))(hl:A0 γ (A5 [s,x])=some Sr:=by exact tdR)(hk:(tab T).k=.slice e:=by(simp<;>rfl))(ac:(tab T').k=.slice e':=by(simp<;>rfl))(he:A1 (tab e).k=false:=by simp)
  (h1:ev Sr s=.slice es .clip:=by exact tdR) (h2:esOf (ev Sr x)=some new:=by(simp<;>with_unfolding_all rfl)) (hne:new≠[]:=by first|assumption|(simp;done)|(simp[cI,cS,cII];assumption))
  (hlen:∀c∈es,c.length=(tab e).size:=by first|exact BY _|exact Dk _|exact Ce _|simp) (hlen':∀c∈new,c.length=(tab e).size:=by first|exact BY _|exact Dk _|exact Ce _|simp)
  (hb:(es.length+new.length)*(tab e).bytes<=140737488355328:=by first|(simp;done)|(simp;omega)) (hm:es.length+new.length<=9223372036854775807:=by first|(simp;done)|(simp;omega)) (aa:decide (t<n)=true:=by exact tdR) (hC:Sub S0 O:=by first|exact Sub.refl _|assumption) :
  MO prog ro n ops N S0 Q df ((true,⟨some t,(cA s x T T'),ty,pos,after,none⟩)::l) γ O:=
 mo1 (fun U2 hx=>by
  obtain⟨e1,e2⟩:=H6 hl hx
  exact BG Ac rfl (by simpa using aa) hk ac he (by rw[e1];exact h1) (by rw[e2];exact h2) hne hlen hlen' hb hm (fun i hi=>Au ⟨rfl,by simp only[A3,if_true];exact⟨hC.set (hC.none hi),h i hi⟩⟩)) aa
theorem moAppCW{s x:Operand}{T T' e e':Nat}{es new:List (List D)}{l:List (Bool×Oper)}(h:∀i,O i=none->MO prog ro n ops N S0 Q df l ((t,.slice (es++new) .no)::γ) (O.set i (.tail (tab e).size (es.length+new.length))))(hl:A0 γ (A5 [s,x])=some Sr:=by exact tdR)(hk:(tab T).k=.slice e:=by(simp<;>rfl))(ac:(tab T').k=.slice e':=by(simp<;>rfl))(he:A1 (tab e).k=false:=by simp)
  (h1:ev Sr s=.slice es .clip:=by exact tdR) (h2:esOf (ev Sr x)=some new:=by(simp<;>with_unfolding_all rfl)) (hne:new≠[]:=by first|assumption|(simp;done)|(simp[cI,cS,cII];assumption))
  (hlen:∀c∈es,c.length=(tab e).size:=by first|exact BY _|exact Dk _|exact Ce _|simp) (hlen':∀c∈new,c.length=(tab e).size:=by first|exact BY _|exact Dk _|exact Ce _|simp)
  (hb:(es.length+new.length)*(tab e).bytes<=140737488355328:=by first|(simp;done)|(simp;omega)) (hm:es.length+new.length<=9223372036854775807:=by first|(simp;done)|(simp;omega)) (aa:decide (t<n)=true:=by exact tdR) (hC:Sub S0 O:=by first|exact Sub.refl _|assumption) :
  MO prog ro n ops N S0 Q df ((true,⟨some t,(cA s x T T'),ty,pos,after,none⟩)::l) γ O:=
 mo1 (fun U2 hx=>by
  obtain⟨e1,e2⟩:=H6 hl hx
  exact BG Ac rfl (by simpa using aa) hk ac he (by rw[e1];exact h1) (by rw[e2];exact h2) hne hlen hlen' hb hm (fun i hi=>BH (By (t:=t) (d:=.slice (es++new) .no) (by simp only[A3,if_true];exact Bm _ _)) (Au ⟨rfl,by simp only[A3,if_true];exact⟨hC.set (hC.none hi),h i hi⟩⟩))) aa
theorem moApp0{s x:Operand}{T T' e e':Nat}{es:List (List D)}{l:List (Bool×Oper)}(h:MO prog ro n ops N S0 Q df l ((t,d)::γ) O)(hl:A0 γ (A5 [s,x])=some Sr:=by exact tdR)(hk:(tab T).k=.slice e:=by(simp<;>rfl))(ac:(tab T').k=.slice e':=by(simp<;>rfl))(he:A1 (tab e).k=false:=by simp)(hd:ev Sr s=d:=by exact tdR)
  (h1:esOf d=some es:=by exact tdR) (h2:esOf (ev Sr x)=some []:=by first|with_unfolding_all rfl|(simp_all;done)) (aa:decide (t<n)=true:=by exact tdR) (hC:Sub S0 O:=by first|exact Sub.refl _|assumption) :
  MO prog ro n ops N S0 Q df ((true,⟨some t,(cA s x T T'),ty,pos,after,none⟩)::l) γ O:=
 mo1 (fun U2 hx=>by
  obtain⟨e1,e2⟩:=H6 hl hx
  refine Ev Ac rfl (by simpa using aa) hk ac he (by rw[e1,hd];exact h1) (by rw[e2];exact h2) (Au ⟨rfl,?_⟩)
  simp only[A3,if_true,e1,hd]
  exact⟨hC,h⟩) aa
theorem I5{T:Nat}{z:List D}{l:List (Bool×Oper)}(h:∀i,O i=none->MO prog ro n ops N S0 Q df l ((t,.ptr i 0)::γ) (O.set i (.cells z)))(hk:A1 (tab T).k=false:=by simp)(hz:(tab T).zero=z:=by(simp<;>rfl))(aa:decide (t<n)=true:=by exact tdR)(hC:Sub S0 O:=by first|exact Sub.refl _|assumption):
  MO prog ro n ops N S0 Q df ((true,⟨some t,.alloc T,ty,pos,after,none⟩)::l) γ O:=by
 subst hz
 exact mo1 (fun U2 hx=>E2 Ac hk (by simpa using aa) (fun i hi=>Au ⟨rfl,by simp only[A3,if_true];exact⟨hC.set (hC.none hi),h i hi⟩⟩)) aa
theorem moEffW{op:Op}(d':D){U':Sig}{l:List (Bool×Oper)}(h:MO prog ro n ops N S0 Q df l ((t,d')::γ) U')(hl:A0 γ (A5 op.operands.toList)=some Sr:=by exact tdR)(he:eopD tab Sr O op=some (d,U'):=by(simp(disch:=first|omega|assumption) [An,big1,big2,w7]<;>first|rfl|(and_intros<;>rfl)|(and_intros<;>first|rfl|omega)))(hw:WkD d d':=by exact tdW)(aa:decide (t<n)=true:=by exact tdR)(hC:Sub S0 U':=by first|exact Sub.refl _|assumption|exact(Sub.refl _).set (by assumption)|exact((Sub.refl _).set (by assumption)).set (by assumption)):
  MO prog ro n ops N S0 Q df ((true,⟨some t,op,ty,pos,after,none⟩)::l) γ O:=
 mo1 (fun U2 hx=>by
  refine Fh Ac rfl (by rw[Bn (V':=γ) hx];exact(Bn (C4 hl)) ▸ he) aa (BH (By (t:=t) (d:=d') (by simp only[putD,A3,if_true];exact hw)) (Au ⟨rfl,?_⟩))
  simp only[A3,if_true]
  exact⟨hC,h⟩) aa
theorem Uw{P:Program}{n:Nat}{γ:Fr}{O U':Sig}{df:List DDf}(hU:Sub U' O):Wk P n ⟨γ,O,df⟩ ⟨γ,U',df⟩:=
 fun g w a hs=>⟨g,.refl g,⟨hs.sim.sub hU,hs.tmps,hs.df⟩⟩
theorem drp{l:List Oper}(U':Sig)(h:DOps P ro n ops Q l ⟨γ,U',df⟩)(hU:Sub U' O:=by first|exact Sub.refl _|(refine Db ?_;simp;done)|assumption|exact(Sub.refl _).set (by assumption)):DOps P ro n ops Q l ⟨γ,O,df⟩:=BH (Uw hU) h
theorem appCW{s x:Operand}{T T' e e':Nat}{es new:List (List D)}(h:∀i,O i=none->DOps prog ro n ops Q rest ⟨(t,.slice (es++new) .no)::γ,O.set i (.tail (tab e).size (es.length+new.length)),df⟩)(hl:A0 γ (A5 [s,x])=some Sr:=by exact tdR)(hk:(tab T).k=.slice e:=by(simp<;>rfl))(ac:(tab T').k=.slice e':=by(simp<;>rfl))(he:A1 (tab e).k=false:=by simp)
  (h1:ev Sr s=.slice es .clip:=by exact tdR) (h2:esOf (ev Sr x)=some new:=by(simp<;>with_unfolding_all rfl)) (hne:new≠[]:=by first|assumption|(simp;done)|(simp[cI,cS,cII];assumption))
  (hlen:∀c∈es,c.length=(tab e).size:=by first|exact BY _|exact Dk _|exact Ce _|simp) (hlen':∀c∈new,c.length=(tab e).size:=by first|exact BY _|exact Dk _|exact Ce _|simp)
  (hb:(es.length+new.length)*(tab e).bytes<=140737488355328:=by first|(simp;done)|(simp;omega)) (hm:es.length+new.length<=9223372036854775807:=by first|(simp;done)|(simp;omega)) (aa:decide (t<n)=true:=by exact tdR) :
  DOps prog ro n ops Q (⟨some t,(cA s x T T'),ty,pos,after,none⟩::rest) ⟨γ,O,df⟩:=by
 obtain⟨e1,e2⟩:=evs hl
 exact BG Ac rfl (by simpa using aa) hk ac he (by rw[<-e1];exact h1) (by rw[<-e2];exact h2) hne hlen hlen' hb hm (fun i hi=>BH (By (t:=t) (d:=.slice (es++new) .no) (by simp only[A3,if_true];exact Bm _ _)) (BH (P8 fun k=>by simp only[A3];split<;>exact A8 _) (h i hi)))
theorem rtl{l:List Oper}(k:Nat)(d':D)(h:DOps P ro n ops Q l ⟨(k,d')::γ,O,df⟩)(hw:WkD (getD γ k) d':=by exact tdW):DOps P ro n ops Q l ⟨γ,O,df⟩:=BH (By hw) h
theorem Ft{lo:List Oper}{id:Nat}(ord E:List Nat)(S0:Sig){lp:List (Bool×Oper)}{ol:Oper}(hC:Sub S0 O)(h:MO prog ro n lo.toArray 431 S0 (Then (fun s=>DOps prog ro n lo.toArray Q [ol] s) Q) df lp γ O)(hB:I7 lo.toArray E ord=true:=by kernel_rfl)(aj:nthO lo (lo.length-1)=some ol:=by exact tdR)(hl:HV lo E ord=some lp:=by exact tdR):DWp prog ro n (.region id lo.toArray true) Q ⟨γ,O,df⟩:=
 NK Ai mixed ord E S0 hB aj hC hl h
theorem yldW{fop:Operand}{args:Array Operand}{ats:Array TypeId}{l:Nat}{us:List D}{R:DE->Sig->Prop}{dst:Option Tmp}(h:DYield P l us O R)(ae:∀d U',R (.ret d) U'->DOps P ro n ops Q rest ⟨putD dst d γ,U',df⟩)(ag:∀d U',R (.panic d) U'->Q (.panic d) ⟨γ,U',df⟩)
  (hl:A0 γ (A5 (fop::args.toList))=some Sr:=by exact tdR) (hf:ev Sr fop=.yld l:=by exact tdR) (ha:args.toList.map (ev Sr)=us:=by exact td0)
  (ho:Ar n ⟨dst,(cv fop args ats),ty,pos,after,none⟩=true:=by exact tdR) :
  DOps P ro n ops Q (⟨dst,(cv fop args ats),ty,pos,after,none⟩::rest) ⟨γ,O,df⟩:=by
 have hx:∀x∈fop::args.toList,ev Sr x=ev γ x:=fun x hx=>B4 fun t ht=>As hl t (Ax (by rw[<-ht];exact hx))
 refine OS rfl (by rw[<-hx fop (by simp)];exact hf) ?_ ho ae ag
 rw[show args.toList.map (ev γ)=args.toList.map (ev Sr) from List.map_congr_left fun x h=>(hx x (by simp[h])).symm,ha]
 exact h
end
def hitD(tab:Nat->Ty)(e:Nat)(c:Bool):Option (Option (Nat×D))->Option D
 |some (some (_,d))=>some (if c then .tup [d,.bool true] else d)
 |some none=>match Hk (tab e)with
  |some z=>some (if c then .tup [z,.bool false] else z)
  |none=>none
 |none=>none
@[simp high] theorem lookupD_h {tab:Nat->Ty} {O:Sig} {c:Bool} {T e:Nat} {x d:D}:FI tab O c (.map T e) x d=if A1 (tab e).k || !Be (tab T).k d then none else match C1 O x with
  |some l=>hitD tab e c (Cd (tab T).k d l 0)
  |none=>none:=by
 rw[Q5]
 by_cases hc:(A1 (tab e).k||!Be (tab T).k d)=true
 ·rw[if_pos hc,if_pos hc]
 ·rw[if_neg hc,if_neg hc]
  cases C1 O x with
  |none=>rfl
  | some l =>
   cases h:Cd (tab T).k d l 0 with
   |none=>simp only[h];rfl
   |some r=>cases r with
    |none=>simp only[h];rfl
    |some p=>simp only[h];rfl
@[simp] theorem hitD_some(tab:Nat->Ty)(e i:Nat)(c:Bool)(d:D):hitD tab e c (some (some (i,d)))=some (if c then .tup [d,.bool true] else d):=rfl
def ins{α:Type}[DecidableEq α](k:α)(s:List α):List α:=if k∈s then s else s++[k]
def getM{α β:Type}[DecidableEq α](z:β)(k:α):List (α×β)->β
 |[]=>z
 |(k',v)::r=>if k=k' then v else getM z k r
def hasM{α β:Type}[DecidableEq α](k:α):List (α×β)->Bool
 |[]=>false
 |(k',_)::r=>decide (k=k')||hasM k r
def putM{α β:Type}[DecidableEq α](k:α)(v:β):List (α×β)->List (α×β)
 |[]=>[(k,v)]
 |(k',v')::r=>if k=k' then(k,v)::r else(k',v')::putM k v r
theorem Em{α β:Type}[DecidableEq α](z:β)(k x:α)(v:β): ∀m:List (α×β),getM z x (putM k v m)=if x=k then v else getM z x m
 |[]=>by simp[putM,getM]
 | (k',v')::r=>by
  by_cases h:k=k'
  ·subst h;rw[putM,if_pos rfl,getM];by_cases hx:x=k<;>simp[hx,getM]
  ·rw[putM,if_neg h,getM,Em z k x v r]
   by_cases hx:x=k'
   ·rw[if_pos hx,if_neg (fun e=>h (e.symm.trans hx)),getM,if_pos hx]
   ·rw[if_neg hx,getM,if_neg hx]
theorem Gf{α β:Type}[DecidableEq α](k x:α)(v:β): ∀m:List (α×β),hasM x (putM k v m)=(decide (x=k)||hasM x m)
 |[]=>by simp[putM,hasM]
 | (k',v')::r=>by
  by_cases h:k=k'
  ·subst h;rw[putM,if_pos rfl,hasM,hasM];cases decide (x=k)<;>simp
  ·rw[putM,if_neg h,hasM,Gf k x v r,hasM]
   cases decide (x=k')<;>cases decide (x=k)<;>simp
section
def eM{α β:Type}(kf:α->D)(f:β->D)(m:List (α×β)):List (D×D):=m.map fun p=>(kf p.1,f p.2)
def eS{α:Type}(kf:α->D)(s:List α):List (D×D):=s.map fun k=>(kf k,.bool true)
structure KeyOK{α:Type}[DecidableEq α](kt:TyK)(kf:α->D):Prop where
 key:∀a b:α,keyB kt (kf a) (kf b)=some (decide (a=b))
theorem keyI:KeyOK (.int .i64) dI:=⟨fun a b=>by simp[keyB,F3]⟩
variable {α β:Type}[DecidableEq α]{kt:TyK}{kf:α->D}(hk:KeyOK kt kf)
include hk
theorem MI(k:α): ∀(s:List α) (i:Nat),(k∈s->∃j,Cd kt (kf k) (eS kf s) i=some (some (i+j,.bool true))/\s[j]? = some k)/\(k∉s->Cd kt (kf k) (eS kf s) i=some none)
 |[],i=>by simp[eS,Cd]
 | x::s,i=>by
  obtain⟨h1,h2⟩:=MI k s (i+1)
  simp only[eS]at h1 h2
  simp only[eS,List.map_cons,Cd,hk.key]
  by_cases h:k=x
  ·subst h
   simp only[decide_true]
   exact⟨fun _=>⟨0,rfl,rfl⟩,fun h=>absurd (by simp) h⟩
  ·have e:decide (k=x)=false:=by simp[h]
   simp only[e]
   refine⟨fun hm=>?_,fun hm=>h2 fun ai=>hm (by simp[ai])⟩
   obtain⟨j,a,b⟩:=h1 ((List.mem_cons.1 hm).resolve_left h)
   exact⟨j+1,by rw[a];congr 3;omega,by simpa using b⟩
theorem hit_eS{tab:Nat->Ty}{e:Nat}(hz:Hk (tab e)=some (.bool false))(k:α)(s:List α):hitD tab e false (Cd kt (kf k) (eS kf s) 0)=some (.bool (decide (k∈s))):=by
 obtain⟨h1,h2⟩:=MI hk k s 0
 by_cases h:k∈s
 ·obtain⟨j,a,_⟩:=h1 h;rw[a];simp[h]
 ·rw[h2 h];simp only[hitD,hz,Bool.false_eq_true,if_false,h,decide_false]
theorem put_eS(k:α)(s:List α):CE kt (kf k) (.bool true) (eS kf s)=some (eS kf (ins k s)):=by
 obtain⟨h1,h2⟩:=MI hk k s 0
 unfold CE ins
 by_cases h:k∈s
 ·obtain⟨j,a,b⟩:=h1 h
  rw[a,if_pos h]
  simp only[Nat.zero_add,Option.some.injEq]
  apply List.ext_getElem?
  intro i
  rw[List.getElem?_set]
  by_cases hi:j=i
  ·subst hi
   have ak:j<s.length:=(List.getElem?_eq_some_iff.1 b).1
   have hb:s[j]=k:=by rw[List.getElem?_eq_getElem ak]at b;exact Option.some.inj b
   simp[eS,ak,hb]
  ·rw[if_neg hi]
 ·rw[h2 h,if_neg h];simp[eS]
theorem Il(f:β->D)(k:α): ∀(m:List (α×β)) (i:Nat),(hasM k m=true->∃j v,Cd kt (kf k) (eM kf f m) i=some (some (i+j,f v))/\(∀z,getM z k m=v) /\ ∀w,(eM kf f m).set j (kf k,f w)=eM kf f (putM k w m)) /\
  (hasM k m=false->Cd kt (kf k) (eM kf f m) i=some none/\(∀z,getM z k m=z) /\ ∀w,eM kf f m++[(kf k,f w)]=eM kf f (putM k w m))
 |[],i=>by simp[eM,Cd,hasM,getM,putM]
 | (x,y)::m,i=>by
  obtain⟨h1,h2⟩:=Il f k m (i+1)
  simp only[eM]at h1 h2
  simp only[eM,List.map_cons,Cd,hk.key,hasM]
  by_cases h:k=x
  ·subst h
   simp only[decide_true,Bool.true_or]
   refine⟨fun _=>⟨0,y,rfl,fun z=>by simp[getM],fun w=>by simp[putM]⟩,fun h=>by cases h⟩
  ·have e:decide (k=x)=false:=by simp[h]
   simp only[e,Bool.false_or]
   refine⟨fun hm=>?_,fun hm=>?_⟩
   ·obtain⟨j,v,a,b,c⟩:=h1 hm
    refine⟨j+1,v,by rw[a];congr 3;omega,fun z=>by rw[getM,if_neg h];exact b z,fun w=>?_⟩
    rw[putM,if_neg h,List.map_cons,List.set_cons_succ,c w]
   ·obtain⟨a,b,c⟩:=h2 hm
    refine⟨a,fun z=>by rw[getM,if_neg h];exact b z,fun w=>?_⟩
    rw[putM,if_neg h,List.map_cons,List.cons_append,c w]
theorem UG{tab:Nat->Ty}{e:Nat}{z:β}{zd:D}(f:β->D)(hz:Hk (tab e)=some zd)(k:α)(m:List (α×β)):hitD tab e false (Cd kt (kf k) (eM kf f m) 0)=some (if hasM k m then f (getM z k m) else zd):=by
 obtain⟨h1,h2⟩:=Il hk f k m 0
 cases h:hasM k m with
 |true=>obtain⟨j,v,a,b,_⟩:=h1 h;rw[a,b z];simp
 |false=>obtain⟨a,b,_⟩:=h2 h;rw[a];simp only[hitD,hz,Bool.false_eq_true,if_false]
theorem Qe{tab:Nat->Ty}{e:Nat}{z:β}(f:β->D)(hz:Hk (tab e)=some (f z))(k:α)(m:List (α×β)):hitD tab e false (Cd kt (kf k) (eM kf f m) 0)=some (f (getM z k m)):=by
 obtain⟨h1,h2⟩:=Il hk f k m 0
 cases h:hasM k m with
 |true=>obtain⟨j,v,a,b,_⟩:=h1 h;rw[a,b z];simp
 |false=>obtain⟨a,b,_⟩:=h2 h;rw[a,b z];simp only[hitD,hz,Bool.false_eq_true,if_false,if_true]
theorem Nt{tab:Nat->Ty}{e:Nat}{z:β}(f:β->D)(hz:Hk (tab e)=some (f z))(k:α)(m:List (α×β)):hitD tab e true (Cd kt (kf k) (eM kf f m) 0)=some (.tup [f (getM z k m),.bool (hasM k m)]):=by
 obtain⟨h1,h2⟩:=Il hk f k m 0
 cases h:hasM k m with
 |true=>obtain⟨j,v,a,b,_⟩:=h1 h;rw[a,b z];simp
 |false=>obtain⟨a,b,_⟩:=h2 h;rw[a,b z];simp only[hitD,hz,Bool.false_eq_true,if_false,if_true]
theorem Nh(f:β->D)(k:α)(v:β)(m:List (α×β)):CE kt (kf k) (f v) (eM kf f m)=some (eM kf f (putM k v m)):=by
 obtain⟨h1,h2⟩:=Il hk f k m 0
 unfold CE
 cases h:hasM k m with
 |true=>obtain⟨j,w,a,_,c⟩:=h1 h;rw[a];simp only[Nat.zero_add];rw[c v]
 |false=>obtain⟨a,_,c⟩:=h2 h;rw[a];simp only;rw[c v]
end
def eSI(s:List Int):List (D×D):=eS dI s
def eIN(m:List (Int×Int)):List (D×D):=eM dI dI m
@[simp] theorem hitI4(k:Int)(s:List Int):hitD tab 4 false (Cd (.int .i64) (.int .i64 k) (eSI s) 0)=some (.bool (decide (k∈s))):=hit_eS keyI rfl k s
@[simp] theorem putI4(k:Int)(s:List Int):CE (.int .i64) (.int .i64 k) (.bool true) (eSI s)=some (eSI (ins k s)):=put_eS keyI k s
@[simp] theorem hitINok(k:Int)(m:List (Int×Int)):hitD tab 3 true (Cd (.int .i64) (.int .i64 k) (eIN m) 0)=some (.tup [.int .i64 (getM 0 k m),.bool (hasM k m)]):=Nt keyI dI rfl k m
@[simp] theorem putIN(k v:Int)(m:List (Int×Int)):CE (.int .i64) (.int .i64 k) (.int .i64 v) (eIN m)=some (eIN (putM k v m)):=Nh keyI dI k v m
def eIO(m:List (Int×List Int)):List (D×D):=eM dI (fun l=>sl (cI l)) m
@[simp] theorem putIO(k:Int)(v:List Int)(m:List (Int×List Int)):CE (.int .i64) (.int .i64 k) (sl (cI v)) (eIO m)=some (eIO (putM k v m)):=Nh keyI (fun l=>sl (cI l)) k v m
theorem TC(k:Int)(m:List (Int×List Int)):hitD tab 23 false (Cd (.int .i64) (.int .i64 k) (eIO m) 0)=some (if hasM k m then sl (cI (getM [] k m)) else .nils):=UG keyI _ rfl k m
section
variable {P:Program}{ro:Ro}{n:Nat}{Q:DX->St->Prop}{df:List DDf}{γ:List (Nat×D)}{O:Sig}
theorem Kk{Sk:Fr}{α β δ ε:Type}{c:Code}(keep:List Nat)(I:α->β->δ->ε->Prop)(ov:α->β->δ->ε->Fr)(sg:α->β->δ->ε->Sig)(μ:α->β->δ->ε->Nat)(x0:α)(y0:β)(z0:δ)(u0:ε)(h0:I x0 y0 z0 u0)
  (round:∀x y z u,I x y z u->DWp P ro n c (Then (fun s'=> ∃x' y' z' u',I x' y' z' u'/\μ x' y' z' u'<μ x y z u/\Wk P n s' ⟨ov x' y' z' u'++Sk,sg x' y' z' u',df⟩) Q) ⟨ov x y z u++Sk,sg x y z u,df⟩) (hk:Dg γ keep=some Sk:=by exact tdR) (h1:TellsR γ (ov x0 y0 z0 u0++Sk):=by(first|refine FT ?_ ?_|skip)<;>(repeat' first|exact FR|refine F6 tdR ?_ ?_|(first|exact A8 _|exact Bm _ _|exact Ao _ (.inl rfl)|exact E8 _|(refine Hx _ ?_;first|omega|(simp;done)|(simp;omega))|(refine Cm ?_;(simp;done))|(refine Cm ?_;(simp[cI,cS,cII,Fi,F1,GE];done))|(refine DK _ ?_;(simp[cI,cS,cII];done))|(refine Cm ?_;(simp_all;done))|assumption))) (h2:Sub (sg x0 y0 z0 u0) O:=by first|exact Sub.refl _|(refine Db ?_;simp;done)|assumption|exact(Sub.refl _).set (by assumption)):DWp P ro n (.loop c) Q ⟨γ,O,df⟩:=by
 refine EX (α:=α×β×δ×ε) keep (fun x=>I x.1 x.2.1 x.2.2.1 x.2.2.2) (fun x=>ov x.1 x.2.1 x.2.2.1 x.2.2.2) (fun x=>sg x.1 x.2.1 x.2.2.1 x.2.2.2) (fun x=>μ x.1 x.2.1 x.2.2.1 x.2.2.2) (x0,y0,z0,u0) hk h0 h1 h2 fun x hx=>Fg (round x.1 x.2.1 x.2.2.1 x.2.2.2 hx) ?_
 intro e s h
 cases e with
 |normal=>obtain⟨x',y',z',u',h3,h4,h5⟩:=h;exact⟨(x',y',z',u'),h3,h4,h5⟩
 |_=>exact h
theorem loop5{Sk:Fr}{α β δ ε ζ:Type}{c:Code}(keep:List Nat)(I:α->β->δ->ε->ζ->Prop)(ov:α->β->δ->ε->ζ->Fr)(sg:α->β->δ->ε->ζ->Sig)(μ:α->β->δ->ε->ζ->Nat)(x0:α)(y0:β)(z0:δ)(u0:ε)(v0:ζ)(h0:I x0 y0 z0 u0 v0)
  (round:∀x y z u v,I x y z u v->DWp P ro n c (Then (fun s'=> ∃x' y' z' u' v',I x' y' z' u' v'/\μ x' y' z' u' v'<μ x y z u v/\Wk P n s' ⟨ov x' y' z' u' v'++Sk,sg x' y' z' u' v',df⟩) Q) ⟨ov x y z u v++Sk,sg x y z u v,df⟩) (hk:Dg γ keep=some Sk:=by exact tdR) (h1:TellsR γ (ov x0 y0 z0 u0 v0++Sk):=by(first|refine FT ?_ ?_|skip)<;>(repeat' first|exact FR|refine F6 tdR ?_ ?_|(first|exact A8 _|exact Bm _ _|exact Ao _ (.inl rfl)|exact E8 _|(refine Hx _ ?_;first|omega|(simp;done)|(simp;omega))|(refine Cm ?_;(simp;done))|(refine Cm ?_;(simp[cI,cS,cII,Fi,F1,GE];done))|(refine DK _ ?_;(simp[cI,cS,cII];done))|(refine Cm ?_;(simp_all;done))|assumption))) (h2:Sub (sg x0 y0 z0 u0 v0) O:=by first|exact Sub.refl _|(refine Db ?_;simp;done)|assumption|exact(Sub.refl _).set (by assumption)):DWp P ro n (.loop c) Q ⟨γ,O,df⟩:=by
 refine EX (α:=α×β×δ×ε×ζ) keep (fun x=>I x.1 x.2.1 x.2.2.1 x.2.2.2.1 x.2.2.2.2) (fun x=>ov x.1 x.2.1 x.2.2.1 x.2.2.2.1 x.2.2.2.2) (fun x=>sg x.1 x.2.1 x.2.2.1 x.2.2.2.1 x.2.2.2.2) (fun x=>μ x.1 x.2.1 x.2.2.1 x.2.2.2.1 x.2.2.2.2) (x0,y0,z0,u0,v0) hk h0 h1 h2 fun x hx=>Fg (round x.1 x.2.1 x.2.2.1 x.2.2.2.1 x.2.2.2.2 hx) ?_
 intro e s h
 cases e with
 |normal=>obtain⟨x',y',z',u',v',h3,h4,h5⟩:=h;exact⟨(x',y',z',u',v'),h3,h4,h5⟩
 |_=>exact h
variable {ops:Array Oper}{rest:List Oper}{Sr:List (Nat×D)}{t:Nat}{ty:TypeId}{pos:String}{after:Array Edge}
theorem newSI{T:Nat}(h:∀i,O i=none->DOps prog ro n ops Q rest ⟨(t,.map i)::γ,O.set i (.map (eSI [])),df⟩)(aa:decide (t<n)=true:=by exact tdR):DOps prog ro n ops Q (⟨some t,.makeMap T none,ty,pos,after,none⟩::rest) ⟨γ,O,df⟩:=newM h aa
theorem newIN{T:Nat}(h:∀i,O i=none->DOps prog ro n ops Q rest ⟨(t,.map i)::γ,O.set i (.map (eIN [])),df⟩)(aa:decide (t<n)=true:=by exact tdR):DOps prog ro n ops Q (⟨some t,.makeMap T none,ty,pos,after,none⟩::rest) ⟨γ,O,df⟩:=newM h aa
theorem newIO{T:Nat}(h:∀i,O i=none->DOps prog ro n ops Q rest ⟨(t,.map i)::γ,O.set i (.map (eIO [])),df⟩)(aa:decide (t<n)=true:=by exact tdR):DOps prog ro n ops Q (⟨some t,.makeMap T none,ty,pos,after,none⟩::rest) ⟨γ,O,df⟩:=newM h aa
theorem lkO{x y:Operand}{i:Nat}{k:Int}{m:List (Int×List Int)}(h:DOps prog ro n ops Q rest ⟨(t,sl (cI (getM [] k m)))::γ,O,df⟩)(hi:O i=some (.map (eIO m)):=by first|assumption|(simp;done))
  (hl:A0 γ (A5 [x,y])=some Sr:=by exact tdR) (hx:ev Sr x=.map i:=by exact tdR) (hy:ev Sr y=dI k:=by exact tdR) (aa:decide (t<n)=true:=by exact tdR) :
  DOps prog ro n ops Q (⟨some t,.lookup 354 x y false,ty,pos,after,none⟩::rest) ⟨γ,O,df⟩:=by
 refine FV (d:=if hasM k m then sl (cI (getM [] k m)) else .nils) Ac rfl aa hl ?_ ?_
 ·simp only[dopX_lk,hx,hy]
  simp[hi,TC]
 ·refine BH (By (t:=t) (d:=sl (cI (getM [] k m))) ?_) (C2 (γ:=(t,sl (cI (getM [] k m)))::γ) (fun j=>?_) h)
  ·rw [A3,if_pos rfl]
   cases hh:hasM k m with
   |true=>exact A8 _
   | false =>
    have:getM [] k m=[]:=by
     have key:∀m:List (Int×List Int),hasM k m=false->getM [] k m=[]:=fun m=>by
      induction m with
      |nil=>intro _;rfl
      |cons p m ih=>
       intro h
       simp only[hasM,Bool.or_eq_false_iff,decide_eq_false_iff_not]at h
       rw[getM,if_neg h.1];exact ih h.2
     exact key m hh
    rw[this];exact Ao _ (.inl rfl)
  ·simp only[A3];split<;>rfl
end
theorem mS_at{O:Sig}{i sz:Nat}{X:DObj}{st:MR}{es:List (List D)}(h:mOK (O.set i X) sz st es):(∀Y,mOK (O.set i Y) sz st es)/\(∀Y,mS (O.set i Y) st es i=some Y) /\ ∀Y Z,(mS (O.set i Y) st es).set i Z=mS (O.set i Z) st es:=by
 cases st with
 |none=>exact⟨fun Y=>h,fun Y=>w6 .., fun Y Z=>w8 ..⟩
 |some x=>
  obtain⟨k,cap,r⟩:=x
  obtain⟨h1,h2,h3,h4⟩:=h
  have ah:k≠i:=fun e=>by rw[e,w6]at h1;cases h1
  rw[w7 _ _ ah]at h1
  refine⟨fun Y=>⟨by rw[w7 _ _ ah];exact h1,h2,h3,h4⟩,fun Y=>?_,fun Y Z=>?_⟩
  ·simp only[mS];rw[w7 _ _ (Ne.symm ah),w6]
  ·simp only[mS];rw[Sig.set_comm _ _ _ (Ne.symm ah),w8];exact Sig.set_comm _ _ _ ah |>.symm ▸ rfl
theorem SD(a b:List Int):cI a++cI b=cI (a++b):=by simp[cI]
section
variable {ro:Ro}{n:Nat}{Q:DX->St->Prop}{df:List DDf}{γ Sr:List (Nat×D)}{O:Sig}{ops:Array Oper}{rest:List Oper}{t:Nat}{ty:TypeId}{pos:String}{after:Array Edge}
theorem mappI{T T' e e':Nat}{s x:Operand}{l m:List Int}{st:MR}(h:∀st',mOK O 1 st' (cI (l++m))->DOps prog ro n ops Q rest ⟨(t,mD st' (l++m).length)::γ,mS O st' (cI (l++m)),df⟩)(hm:mOK O 1 st (cI l):=by assumption)
  (hl:A0 γ (A5 [s,x])=some Sr:=by exact tdR) (hk:(tab T).k=.slice e:=by(simp<;>rfl)) (ac:(tab T').k=.slice e':=by(simp<;>rfl)) (he:A1 (tab e).k=false:=by simp) (hsz:(tab e).size=1:=by simp)
  (h1:ev Sr s=mD st l.length:=by exact tdR) (h2:esOf (ev Sr x)=some (cI m):=by(simp<;>with_unfolding_all rfl))
  (hb:(l.length+m.length)*(tab e).bytes<=140737488355328:=by first|(simp;done)|(simp;omega)) (hm2:l.length+m.length<=9223372036854775807:=by omega) (aa:decide (t<n)=true:=by exact tdR) :
  DOps prog ro n ops Q (⟨some t,(cA s x T T'),ty,pos,after,none⟩::rest) ⟨γ,mS O st (cI l),df⟩:=by
 refine mapp (fun st' ai=>?_) hm hl hk ac he hsz (by rw[h1,M2]) h2 (BY _) (by simp[cI,Bw,D.flat]) (by simpa using hb) ?_ aa
 ·rw[SD]at ai⊢
  rw[M2,M2,<-List.length_append]
  exact h st' ai
 ·simpa using hm2
end
structure ShlOf(k:IntKind)(a b:Int) where
 val:Int
 is:val=k.wrap (a*2 ^ (min b.toNat k.bits))
def shlI(k:IntKind)(a b:Int):ShlOf k a b:=⟨_,rfl⟩
theorem NU(k k':IntKind)(a b:Int)(h:0<=b):binD .shl (.int k a) (.int k' b)=some (.int k (shlI k a b).val):=by
 rw[(shlI k a b).is];simp only[binD,h,if_true]
end Go.DL
