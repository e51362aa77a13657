/- A part of the proof. -/
import Derived.Test.YtlfimpogphmbdaaGreatM10
import Derived.Test.YtlfimpogphmbdaaGreatM12
import Derived.Test.YtlfimpogphmbdaaGreatM13
set_option linter.all false
namespace Go.DL
open Go.Proofs.Tryz
open Go Go.Proofs
@[simp] theorem lenD_mD(e:Nat)(st:MR)(n:Nat)(h:st=none->n=0):lenD (.slice e) (mD st n)=some (.int .i64 n):=by
 cases st with
 |none=>obtain rfl:=h rfl;rfl
 |some x=>rfl
theorem go1{F G' G:Prop}(fx:F)(h:G') (hs:VarsAre []->Hold F->G'->G:=by
 intro hv fx hG
 (first
  |(with_reducible first|refine FB ?_|refine HW ?_|refine KD ?_|refine GE ?_|refine GV ?_|refine L1 ?_|refine Rz (by decide) ?_|refine NL ?_|refine Iz ?_|refine IT ?_|refine IU ?_|refine Lf ?_|refine Lg ?_|refine NT ?_|refine B6 ?_|refine Gs ?_|refine Ri ?_)
  |((with_reducible refine FY (d:=?_) (Sr:=?_) Ad ?h1 ?h2 ?hl ?hd ?_);(case h1=>rfl);(case h2=>rfl);(case hl=>rfl);(case hd=>simp(disch:=first|omega|assumption) [An,big1,big2,w8,CN,BR,CM,BQ,CO,CL,BO,Bh,BN,Bg,BP,BM,EM,fx.get]<;>(try simp only[B1,B2,AJ,B0,Ay,AM,AL,AK,AI,Ax,AH,AG,AF])<;>first|rfl|(and_intros<;>rfl)))
  |((with_reducible refine GH (d:=?_) (k:=?_) (Sr:=?_) Ad ?h1 ?h2 ?hk ?hb ?hl ?hd ?_);(case h1=>rfl);(case h2=>rfl);(case hk=>rfl);(case hb=>rfl);(case hl=>rfl);(case hd=>simp(disch:=first|omega|assumption) [An,big1,big2,w8,CN,BR,CM,BQ,CO,CL,BO,Bh,BN,Bg,BP,BM,EM,fx.get]<;>(try simp only[B1,B2,AJ,B0,Ay,AM,AL,AK,AI,Ax,AH,AG,AF])<;>first|rfl|(and_intros<;>rfl)))
  |((with_reducible refine GI (d:=?_) (Sr:=?_) Ad ?h1 ?hl ?hd ?_);(case h1=>rfl);(case hl=>rfl);(case hd=>simp(disch:=first|omega|assumption) [An,big1,big2,w8,CN,BR,CM,BQ,CO,CL,BO,Bh,BN,Bg,BP,BM,EM,fx.get]<;>(try simp only[B1,B2,AJ,B0,Ay,AM,AL,AK,AI,Ax,AH,AG,AF])<;>first|rfl|(and_intros<;>rfl)))
  |((with_reducible refine NA (d:=?_) (Sr:=?_) Ad ?h1 ?h2 ?hl ?hd ?_);(case h1=>rfl);(case h2=>rfl);(case hl=>rfl);(case hd=>simp(disch:=first|omega|assumption) [An,big1,big2,w8,CN,BR,CM,BQ,CO,CL,BO,Bh,BN,Bg,BP,BM,EM,fx.get]<;>(try simp only[B1,B2,AJ,B0,Ay,AM,AL,AK,AI,Ax,AH,AG,AF])<;>first|rfl|(and_intros<;>rfl)))
  |((with_reducible refine KV (d:=?_) (k:=?_) (Sr:=?_) Ad ?h1 ?h2 ?hk ?hb ?hl ?hd ?_);(case h1=>rfl);(case h2=>rfl);(case hk=>rfl);(case hb=>rfl);(case hl=>rfl);(case hd=>simp(disch:=first|omega|assumption) [An,big1,big2,w8,CN,BR,CM,BQ,CO,CL,BO,Bh,BN,Bg,BP,BM,EM,fx.get]<;>(try simp only[B1,B2,AJ,B0,Ay,AM,AL,AK,AI,Ax,AH,AG,AF])<;>first|rfl|(and_intros<;>rfl)))
  |((with_reducible refine KW (d:=?_) (Sr:=?_) Ad ?h1 ?hl ?hd ?_);(case h1=>rfl);(case hl=>rfl);(case hd=>simp(disch:=first|omega|assumption) [An,big1,big2,w8,CN,BR,CM,BQ,CO,CL,BO,Bh,BN,Bg,BP,BM,EM,fx.get]<;>(try simp only[B1,B2,AJ,B0,Ay,AM,AL,AK,AI,Ax,AH,AG,AF])<;>first|rfl|(and_intros<;>rfl)))
  |((with_reducible refine HX (k:=?_) Al ?hk ?hb ?h1 ?h2 ?_);(case hk=>rfl);(case hb=>rfl);(case h1=>rfl);(case h2=>rfl))
  |((with_reducible refine GF (k:=?_) Al ?hk ?hb ?h1 ?h2 ?_);(case hk=>rfl);(case hb=>rfl);(case h1=>rfl);(case h2=>rfl))
  |((with_reducible refine GG (k:=?_) Al ?hk ?hb ?h1 ?_);(case hk=>rfl);(case hb=>rfl);(case h1=>rfl))
  |((with_reducible refine FC (k:=?_) Al ?hk ?hb ?h1 ?_);(case hk=>rfl);(case hb=>rfl);(case h1=>rfl))
  |((with_reducible refine KS (k:=?_) ?hk ?hb ?h1 ?h2 ?_);(case hk=>rfl);(case hb=>rfl);(case h1=>rfl);(case h2=>rfl))
  |((with_reducible refine KR (k:=?_) ?hk ?hb ?h1 ?h2 ?_);(case hk=>rfl);(case hb=>rfl);(case h1=>rfl);(case h2=>rfl))
  |((with_reducible refine KT (k:=?_) ?hk ?hb ?h1 ?_);(case hk=>rfl);(case hb=>rfl);(case h1=>rfl))
  |((with_reducible refine Ik (k:=?_) ?hk ?hb ?h1 ?_);(case hk=>rfl);(case hb=>rfl);(case h1=>rfl))
  |((with_reducible refine KF (d:=?_) (S':=?_) (Sr:=?_) Ad ?hl ?he ?h1 ?_);(case hl=>rfl);(case he=>simp(disch:=first|omega|assumption) [An,big1,big2,w8,CN,BR,CM,BQ,CO,CL,BO,Bh,BN,Bg,BP,BM,EM,fx.get]<;>first|rfl|(and_intros<;>rfl));(case h1=>rfl))
  |((with_reducible refine I0 (d:=?_) (S':=?_) (Sr:=?_) Ad ?hl ?he ?_);(case hl=>rfl);(case he=>simp(disch:=first|omega|assumption) [An,big1,big2,w8,CN,BR,CM,BQ,CO,CL,BO,Bh,BN,Bg,BP,BM,EM,fx.get]<;>first|rfl|(and_intros<;>rfl)))
  |((with_reducible refine NC (d:=?_) (S':=?_) (Sr:=?_) Ad ?hl ?he ?h1 ?hC ?_);(case hl=>rfl);(case he=>simp(disch:=first|omega|assumption) [An,big1,big2,w8,CN,BR,CM,BQ,CO,CL,BO,Bh,BN,Bg,BP,BM,EM,fx.get]<;>first|rfl|(and_intros<;>rfl));(case h1=>rfl);(case hC=>clear hG;first|exact Sub.refl _|assumption|exact(Sub.refl _).set (by assumption)))
  |((with_reducible refine ND (d:=?_) (S':=?_) (Sr:=?_) Ad ?hl ?he ?hC ?_);(case hl=>rfl);(case he=>simp(disch:=first|omega|assumption) [An,big1,big2,w8,CN,BR,CM,BQ,CO,CL,BO,Bh,BN,Bg,BP,BM,EM,fx.get]<;>first|rfl|(and_intros<;>rfl));(case hC=>clear hG;first|exact Sub.refl _|assumption|exact(Sub.refl _).set (by assumption)))
  |((with_reducible refine HY (r:=?_) (Sr:=?_) (xs:=?_) (ys:=?_) (fs:=?_) Ad ?hE ?h1 ?hl ?hx ?hy ?hk ?hd ?_);(case hE=>with_reducible first|exact Ka|exact GY);(case h1=>rfl);(case hl=>rfl);(case hx=>rfl);(case hy=>rfl);(case hk=>simp<;>rfl);(case hd=>simp(disch:=first|omega|assumption) [An,big1,big2,w8,CN,BR,CM,BQ,CO,CL,BO,Bh,BN,Bg,BP,BM,EM,fx.get]<;>rfl))
  |((with_reducible refine NB (r:=?_) (Sr:=?_) (xs:=?_) (ys:=?_) (fs:=?_) Ad ?hE ?h1 ?hl ?hx ?hy ?hk ?hd ?_);(case hE=>with_reducible first|exact Ka|exact GY);(case h1=>rfl);(case hl=>rfl);(case hx=>rfl);(case hy=>rfl);(case hk=>simp<;>rfl);(case hd=>simp(disch:=first|omega|assumption) [An,big1,big2,w8,CN,BR,CM,BQ,CO,CL,BO,Bh,BN,Bg,BP,BM,EM,fx.get]<;>rfl))
  |((with_reducible refine GK (Sr:=?_) ?hl ?hc ?_);(case hl=>rfl);(case hc=>simp(disch:=first|omega|assumption) [An,big1,big2,w8,CN,BR,CM,BQ,CO,CL,BO,Bh,BN,Bg,BP,BM,EM,fx.get];done))
  |((with_reducible refine GM (Sr:=?_) ?hl ?hc ?_);(case hl=>rfl);(case hc=>simp(disch:=first|omega|assumption) [An,big1,big2,w8,CN,BR,CM,BQ,CO,CL,BO,Bh,BN,Bg,BP,BM,EM,fx.get];done))
  |((with_reducible refine HZ (d:=?_) (cs:=?_) (Sr:=?_) hv Ad ?h1 ?h2 ?h3 ?h4 ?h5 ?hl ?he ?h6 ?h7 ?h8 ?h9 ?_);(case h1=>rfl);(case h2=>rfl);(case h3=>rfl);(case h4=>rfl);(case h5=>simp);(case hl=>rfl);(case he=>simp<;>(try simp only[B1,B2,AJ,B0,Ay,AM,AL,AK,AI,Ax,AH,AG,AF])<;>rfl);(case h6=>rfl);(case h7=>simp<;>(try simp only[B1,B2,AJ,B0,Ay,AM,AL,AK,AI,Ax,AH,AG,AF])<;>rfl);(case h8=>simp);(case h9=>simp))
  |((with_reducible refine GJ (d:=?_) (d2:=?_) (cs:=?_) (Sr:=?_) (Sr2:=?_) hv Ad ?h1 ?h2 ?h3 ?h4 ?h5 ?g1 ?g2 ?g3 ?g4 ?gl ?ge ?hl ?he ?h6 ?h7 ?h8 ?h9 ?_);(case h1=>rfl);(case h2=>rfl);(case h3=>rfl);(case h4=>rfl);(case h5=>rfl);(case g1=>rfl);(case g2=>rfl);(case g3=>rfl);(case g4=>simp);(case gl=>rfl);(case ge=>simp<;>(try simp only[B1,B2,AJ,B0,Ay,AM,AL,AK,AI,Ax,AH,AG,AF])<;>rfl);(case hl=>rfl);(case he=>simp<;>(try simp only[B1,B2,AJ,B0,Ay,AM,AL,AK,AI,Ax,AH,AG,AF])<;>rfl);(case h6=>rfl);(case h7=>simp<;>(try simp only[B1,B2,AJ,B0,Ay,AM,AL,AK,AI,Ax,AH,AG,AF])<;>rfl);(case h8=>simp);(case h9=>simp)))
 exact hG):G:=hs ⟨⟩ ⟨fx⟩ h
section
variable {P:Program}{ro:Option Nat}{n:Nat}{ops:Array Oper}{N:Nat}{S0:Sig}{Q:DX->St->Prop}{df:List DDf}{rest:List Oper}{γ Sr:List (Nat×D)}{V:Sig}{t:Nat}{ty:TypeId}{pos:String}{after:Array Edge}{l:List (Bool×Oper)}{d:D}
theorem needR{fop:Operand}{args:Array Operand}{ats:Array TypeId}{f:Nat}{first cap us bs:List D}{c:Bool}{u d:D}{dst:Option Tmp}(h:DCall P f bs V fun x S'=>x=(if c then .ret d else .panic u)/\S'=V)(k1:c=true->DOps P ro n ops Q rest ⟨putD dst d γ,V,df⟩)(k2:c=false->Q (.panic u) ⟨γ,V,df⟩)(hl:A4 γ (A6 (fop::args.toList))=some Sr:=by exact tdR)(hf:ev Sr fop=.func (.func f) first cap:=by exact tdR)(ha:first++args.toList.map (ev Sr)++cap=us:=by exact td0)(hp:bs=us:=by exact tdR)
  (ho:As n ⟨dst,(cv fop args ats),ty,pos,after,none⟩=true:=by exact tdR):DOps P ro n ops Q (⟨dst,(cv fop args ats),ty,pos,after,none⟩::rest) ⟨γ,V,df⟩:=by
 refine Ex hl hf ha (.inl hp) h ho (fun d' S' hx=>?_) (fun d' S' hx=>?_)
 all_goals obtain⟨hx,rfl⟩:=hx;cases c<;>simp only[Bool.false_eq_true,if_true,if_false,DE.ret.injEq,DE.panic.injEq,reduceCtorEq]at hx
 ·subst hx;exact k1 rfl
 ·subst hx;exact k2 rfl
theorem moNeedR{fop:Operand}{args:Array Operand}{ats:Array TypeId}{f:Nat}{first cap us bs:List D}{c:Bool}{u d:D}{dst:Option Tmp}{l:List (Bool×Oper)}(h:DCall P f bs V fun x S'=>x=(if c then .ret d else .panic u)/\S'=V)(k1:c=true->MO P ro n ops N S0 Q df l (putD dst d γ) V)(k2:c=false->∀U',Q (.panic u) ⟨U',V,df⟩)(hl:A4 γ (A6 (fop::args.toList))=some Sr:=by exact tdR)(hf:ev Sr fop=.func (.func f) first cap:=by exact tdR)(ha:first++args.toList.map (ev Sr)++cap=us:=by exact td0)(hp:bs=us:=by exact tdR)(hC:Sub S0 V:=by first|exact Sub.refl _|assumption)
  (ho:As n ⟨dst,(cv fop args ats),ty,pos,after,none⟩=true:=by exact tdR):MO P ro n ops N S0 Q df ((true,⟨dst,(cv fop args ats),ty,pos,after,none⟩)::l) γ V:=by
 refine Ga rfl hl hf ha (.inl hp) h ho (fun d' S' hx=>?_) (fun d' S' hx=>?_)
 all_goals obtain⟨hx,rfl⟩:=hx;cases c<;>simp only[Bool.false_eq_true,if_true,if_false,DE.ret.injEq,DE.panic.injEq,reduceCtorEq]at hx
 ·subst hx;exact⟨hC,k1 rfl⟩
 ·subst hx;exact k2 rfl
theorem E4{fop:Operand}{args:Array Operand}{ats:Array TypeId}{f:Nat}{first cap us bs:List D}{R:DE->Sig->Prop}{dst:Option Tmp}{l:List (Bool×Oper)}(h:DCall P f bs V R)(hret:∀d S',R (.ret d) S'->Sub S0 S'/\MO P ro n ops N S0 Q df l (putD dst d γ) S')(hpan:∀d S',R (.panic d) S'->∀U',Q (.panic d) ⟨U',S',df⟩)(hl:A4 γ (A6 (fop::args.toList))=some Sr:=by exact tdR)(hf:ev Sr fop=.func (.func f) first cap:=by exact tdR)(ha:first++args.toList.map (ev Sr)++cap=us:=by exact td0)(hp:bs=us:=by exact tdR)
  (ho:As n ⟨dst,(cv fop args ats),ty,pos,after,none⟩=true:=by exact tdR):MO P ro n ops N S0 Q df ((true,⟨dst,(cv fop args ats),ty,pos,after,none⟩)::l) γ V:=Ga rfl hl hf ha (.inl hp) h ho hret hpan
theorem needP{fop:Operand}{args:Array Operand}{ats:Array TypeId}{f:Nat}{first cap us bs:List D}{c:Bool}{u d:D}{dst:Option Tmp}(h:DCall P f bs V fun x S'=>x=(if c then .ret d else .panic u)/\S'=V)(k1:c=true->DOps P ro n ops Q rest ⟨putD dst d γ,V,df⟩)(k2:c=false->Q (.panic u) ⟨γ,V,df⟩)(hl:A4 γ (A6 (fop::args.toList))=some Sr:=by exact tdR)(hf:ev Sr fop=.func (.func f) first cap:=by exact tdR)(ha:first++args.toList.map (ev Sr)++cap=us:=by exact td0)(hp:bs=us.map D.plain:=by exact tdR)
  (ho:As n ⟨dst,(cv fop args ats),ty,pos,after,none⟩=true:=by exact tdR):DOps P ro n ops Q (⟨dst,(cv fop args ats),ty,pos,after,none⟩::rest) ⟨γ,V,df⟩:=by
 refine Ex hl hf ha (.inr hp) h ho (fun d' S' hx=>?_) (fun d' S' hx=>?_)
 all_goals obtain⟨hx,rfl⟩:=hx;cases c<;>simp only[Bool.false_eq_true,if_true,if_false,DE.ret.injEq,DE.panic.injEq,reduceCtorEq]at hx
 ·subst hx;exact k1 rfl
 ·subst hx;exact k2 rfl
theorem moNeedP{fop:Operand}{args:Array Operand}{ats:Array TypeId}{f:Nat}{first cap us bs:List D}{c:Bool}{u d:D}{dst:Option Tmp}{l:List (Bool×Oper)}(h:DCall P f bs V fun x S'=>x=(if c then .ret d else .panic u)/\S'=V)(k1:c=true->MO P ro n ops N S0 Q df l (putD dst d γ) V)(k2:c=false->∀U',Q (.panic u) ⟨U',V,df⟩)(hl:A4 γ (A6 (fop::args.toList))=some Sr:=by exact tdR)(hf:ev Sr fop=.func (.func f) first cap:=by exact tdR)(ha:first++args.toList.map (ev Sr)++cap=us:=by exact td0)(hp:bs=us.map D.plain:=by exact tdR)(hC:Sub S0 V:=by first|exact Sub.refl _|assumption)
  (ho:As n ⟨dst,(cv fop args ats),ty,pos,after,none⟩=true:=by exact tdR):MO P ro n ops N S0 Q df ((true,⟨dst,(cv fop args ats),ty,pos,after,none⟩)::l) γ V:=by
 refine Ga rfl hl hf ha (.inr hp) h ho (fun d' S' hx=>?_) (fun d' S' hx=>?_)
 all_goals obtain⟨hx,rfl⟩:=hx;cases c<;>simp only[Bool.false_eq_true,if_true,if_false,DE.ret.injEq,DE.panic.injEq,reduceCtorEq]at hx
 ·subst hx;exact⟨hC,k1 rfl⟩
 ·subst hx;exact k2 rfl
theorem nilE{x:Operand}{z:Value}{T T':Nat}{b:Bool}(h:DOps prog ro n ops Q rest ⟨(t,.bool b)::γ,V,df⟩)(hl:A4 γ (A6 [x])=some Sr:=by exact tdR)(hb:nilB (tab T).k z (ev Sr x)=some b:=by(simp<;>with_unfolding_all rfl))(htn:decide (t<n)=true:=by exact tdR):
  DOps prog ro n ops Q (⟨some t,.binOp .eql T x (.const z) T',ty,pos,after,none⟩::rest) ⟨γ,V,df⟩:=
 MS Ad (b:=b) false rfl (by rw[<-Bu hl];exact hb) (by simpa using htn) (by cases b<;>exact h)
theorem nilN{x:Operand}{z:Value}{T T':Nat}{b:Bool}(h:DOps prog ro n ops Q rest ⟨(t,.bool (!b))::γ,V,df⟩)(hl:A4 γ (A6 [x])=some Sr:=by exact tdR)(hb:nilB (tab T).k z (ev Sr x)=some b:=by(simp<;>with_unfolding_all rfl))(htn:decide (t<n)=true:=by exact tdR):
  DOps prog ro n ops Q (⟨some t,.binOp .neq T x (.const z) T',ty,pos,after,none⟩::rest) ⟨γ,V,df⟩:=
 MS Ad (b:=b) true rfl (by rw[<-Bu hl];exact hb) (by simpa using htn) (by cases b<;>exact h)
theorem boolE{x y:Operand}{T T':Nat}{a b:Bool}{gd:Option (Nat×Bool)}(h:DOps prog ro n ops Q rest ⟨(t,.bool (a==b))::γ,V,df⟩)(hw:AB ops γ ⟨some t,.binOp .eql T x y T',ty,pos,after,gd⟩=some true:=by exact tdR)(hl:A4 γ (A6 [x,y])=some Sr:=by exact tdR)(hk:(tab T).k=.bool:=by(simp;done))(hx:ev Sr x=.bool a:=by exact tdR)(hy:ev Sr y=.bool b:=by exact tdR)(htn:decide (t<n)=true:=by exact tdR):
  DOps prog ro n ops Q (⟨some t,.binOp .eql T x y T',ty,pos,after,gd⟩::rest) ⟨γ,V,df⟩:=
 Pf Ad false hw hk (by rw[<-(evs hl).1];exact hx) (by rw[<-(evs hl).2];exact hy) (by simpa using htn) (by cases a<;>cases b<;>exact h)
theorem boolN{x y:Operand}{T T':Nat}{a b:Bool}{gd:Option (Nat×Bool)}(h:DOps prog ro n ops Q rest ⟨(t,.bool (a != b))::γ,V,df⟩)(hw:AB ops γ ⟨some t,.binOp .neq T x y T',ty,pos,after,gd⟩=some true:=by exact tdR)(hl:A4 γ (A6 [x,y])=some Sr:=by exact tdR)(hk:(tab T).k=.bool:=by(simp;done))(hx:ev Sr x=.bool a:=by exact tdR)(hy:ev Sr y=.bool b:=by exact tdR)(htn:decide (t<n)=true:=by exact tdR):
  DOps prog ro n ops Q (⟨some t,.binOp .neq T x y T',ty,pos,after,gd⟩::rest) ⟨γ,V,df⟩:=
 Pf Ad true hw hk (by rw[<-(evs hl).1];exact hx) (by rw[<-(evs hl).2];exact hy) (by simpa using htn) (by cases a<;>cases b<;>exact h)
theorem mapp{T T' e e' sz:Nat}{s x:Operand}{es new:List (List D)}{st:MR}(h:∀st',mOK V sz st' (es++new)->DOps prog ro n ops Q rest ⟨(t,mD st' (es.length+new.length))::γ,mS V st' (es++new),df⟩)(hm:mOK V sz st es:=by assumption)
  (hl:A4 γ (A6 [s,x])=some Sr:=by exact tdR) (hk:(tab T).k=.slice e:=by(simp<;>rfl)) (hk':(tab T').k=.slice e':=by(simp<;>rfl)) (he:A5 (tab e).k=false:=by simp) (hsz:(tab e).size=sz:=by simp)
  (h1:ev Sr s=mD st es.length:=by first|with_unfolding_all rfl|(simp[ev,getD,List.lookup];done)) (h2:esOf (ev Sr x)=some new:=by(simp<;>with_unfolding_all rfl))
  (hlen':∀c∈new,c.length=sz:=by first|exact C4 _|exact Eo _|exact CW _|simp) (hfl:∀c∈new,Cp c=true:=by simp[cI,cS,cII,Cp,D.flat])
  (hb:(es.length+new.length)*(tab e).bytes<=140737488355328:=by first|(simp;done)|(simp;omega)) (hm2:es.length+new.length<=9223372036854775807:=by first|(simp;done)|(simp;omega)) (htn:decide (t<n)=true:=by exact tdR) :
  DOps prog ro n ops Q (⟨some t,(cA s x T T'),ty,pos,after,none⟩::rest) ⟨γ,mS V st es,df⟩:=by
 obtain⟨e1,e2⟩:=evs hl;exact IV Ad (by simpa using htn) hk hk' he hsz (by rw[<-e1];exact h1) hm (by rw[<-e2];exact h2) hlen' hfl hb hm2 (fun st' h'=>by rw[List.length_append];exact h st' h')
theorem mmake{T e k sz c:Nat}{l m:Operand}{z:List D}(h:∀i,V i=none->mOK V sz (some (i,c,(List.replicate (c-k) z).flatten)) (List.replicate k z)->DOps prog ro n ops Q rest ⟨(t,.sref i 0 k c)::γ,mS V (some (i,c,(List.replicate (c-k) z).flatten)) (List.replicate k z),df⟩)
  (hl:A4 γ (A6 [l,m])=some Sr:=by exact tdR) (hk:(tab T).k=.slice e:=by(simp<;>rfl)) (he:A5 (tab e).k=false:=by simp) (hsz:(tab e).size=sz:=by(simp<;>rfl)) (h0:0<sz:=by decide) (hz:(tab e).zero=z:=by(simp<;>rfl))
  (h1:ev Sr l=.int .i64 k:=by exact tdR) (h2:ev Sr m=.int .i64 c:=by exact tdR) (hkc:k<=c:=by first|exact Nat.le_refl _|omega) (hb:c*(tab e).bytes<=140737488355328:=by first|(simp;done)|(simp;omega)) (hm:c<=9223372036854775807:=by omega) (htn:decide (t<n)=true:=by exact tdR) :
  DOps prog ro n ops Q (⟨some t,.makeSlice T l m,ty,pos,after,none⟩::rest) ⟨γ,V,df⟩:=by
 obtain⟨e1,e2⟩:=evs hl;exact Qv Ad (by simpa using htn) hk he hsz h0 hz (by rw[<-e1];exact h1) (by rw[<-e2];exact h2) hkc hb hm h
theorem mfr(k:Nat){l:List Oper}{sz:Nat}{st:MR}{es:List (List D)}(h:DOps P ro n ops Q l ⟨(k,.slice es .no)::γ,V,df⟩)(hm:mOK V sz st es:=by assumption)(hk:getD γ k=mD st es.length:=by first|exact Au tdR|(simp[getD,List.lookup];done)):DOps P ro n ops Q l ⟨γ,mS V st es,df⟩:=
 BX (Pu hm hk) h
theorem bldZ{T len e:Nat}{z:List D}(h:DOps prog ro n ops Q rest ⟨(t,.agg z)::γ,V,df⟩)(hk:(tab T).k=.array len e:=by exact tdR)(he:A5 (tab e).k=false:=by simp)(hz:(tab T).zero=z:=by(simp<;>rfl))(htn:decide (t<n)=true:=by exact tdR):DOps prog ro n ops Q (⟨some t,.build T #[],ty,pos,after,none⟩::rest) ⟨γ,V,df⟩:=by
 subst hz;exact NW Ad (by simpa using htn) hk he h
theorem mfrC(xs ys:List D){i:Nat}{l:List Oper}{sz:Nat}{st:MR}{es:List (List D)}(h:DOps P ro n ops Q l ⟨γ,V.set i (.cells (xs ++ .slice es .no::ys)),df⟩)(hi:V i=some (.cells (xs++mD st es.length::ys)):=by first|exact w7 .. |(simp;done))(hm:mOK V sz st es:=by assumption):DOps P ro n ops Q l ⟨γ,mS V st es,df⟩:=
 BX (Fz hm hi) h
theorem celW(xs ys:List D)(d d':D){i:Nat}{l:List Oper}(h:DOps P ro n ops Q l ⟨γ,V.set i (.cells (xs++d'::ys)),df⟩)(hi:V i=some (.cells (xs++d::ys)):=by first|exact w7 .. |(simp;done))(hw:WkD d d'):DOps P ro n ops Q l ⟨γ,V,df⟩:=
 BX (Et hi hw) h
theorem cfr(k:Nat){l:List Oper}{i:Nat}{m:List (D×D)}(hi:V i=some (.map m))(h:DOps P ro n ops Q l ⟨(k,.cmap (m.map (·.1)) (m.map (·.2)))::γ,V.del i,df⟩)(hk:getD γ k=.map i:=by exact Au tdR):DOps P ro n ops Q l ⟨γ,V,df⟩:=
 BX (HL hi hk) h
theorem rng{T kt et:Nat}{x:Operand}{l:List (D×D)}(h:∀i,V i=none->DOps prog ro n ops Q rest ⟨(t,.obj i)::γ,V.set i (.iter l none),df⟩)(hl:A4 γ (A6 [x])=some Sr:=by exact tdR)(hk:(tab T).k=.map kt et:=by(simp<;>rfl))(hx:Oq (ev Sr x)=some l:=by exact tdR)(htn:decide (t<n)=true:=by exact tdR):
  DOps prog ro n ops Q (⟨some t,.range T x,ty,pos,after,none⟩::rest) ⟨γ,V,df⟩:=
 Qt Ad (by simpa using htn) hk (by rw[<-Bu hl];exact hx) h
theorem nxt{i:Nat}{x:Operand}{left:List (D×D)}{last:Option (D×D)}(h0:left=[]->DOps P ro n ops Q rest ⟨(t,.tup [.bool false])::γ,V,df⟩)
  (h1:∀j k v,left[j]? = some (k,v)->DOps P ro n ops Q rest ⟨(t,.tup [.bool true,k,v])::γ,V.set i (.iter (left.eraseIdx j) (some (k,v))),df⟩) (hi:V i=some (.iter left last):=by first|exact w7 .. |simp)
  (hl:A4 γ (A6 [x])=some Sr:=by exact tdR) (hx:ev Sr x=.obj i:=by exact tdR) (htn:decide (t<n)=true:=by exact tdR) :
  DOps P ro n ops Q (⟨some t,.next x false,ty,pos,after,none⟩::rest) ⟨γ,V,df⟩:=
 Tp (by simpa using htn) (by rw[<-Bu hl];exact hx) hi h0 h1
theorem ent{i:Nat}{x:Operand}{left:List (D×D)}{k v:D}(h:DOps P ro n ops Q rest ⟨(t,.tup [k,v])::γ,V,df⟩)(hi:V i=some (.iter left (some (k,v))):=by first|exact w7 .. |simp)
  (hl:A4 γ (A6 [x])=some Sr:=by exact tdR) (hx:ev Sr x=.obj i:=by exact tdR) (htn:decide (t<n)=true:=by exact tdR) :
  DOps P ro n ops Q (⟨some t,.entry x,ty,pos,after,none⟩::rest) ⟨γ,V,df⟩:=
 Qx (by simpa using htn) (by rw[<-Bu hl];exact hx) hi h
theorem boxV{T:Nat}{x:Operand}{cs:List D}(h:∀i,V i=none->DOps P ro n ops Q rest ⟨(t,.ptr i 0)::γ,V.set i (.cells cs),df⟩)(hl:A4 γ (A6 [x])=some Sr:=by exact tdR)(hd:ev Sr x=d:=by(simp<;>with_unfolding_all rfl))(hc:d.cells=cs:=by(simp<;>with_unfolding_all rfl))(ht:d.told=true:=by exact tdR)(htn:decide (t<n)=true:=by exact tdR):
  DOps P ro n ops Q (⟨some t,.box T x,ty,pos,after,none⟩::rest) ⟨γ,V,df⟩:=by
 subst hc hd;rw[Bu hl]at ht h;exact dops_box ht (by simpa using htn) h
theorem finCE{fn:Func}{R:DE->Sig->Prop}{S':Sig}{ds:List D}(h:resL tab V γ fn.results.toList=some ds)(hR:R (.ret (Jv ds)) S')(hU:Sub S' V:=by first|exact Sub.refl _|(refine BY ?_;simp;done)|assumption|exact(Sub.refl _).set (by assumption)):Eg prog n fn R .ret ⟨γ,V,[]⟩:=IR Ad h (A7 _) hU hR
theorem finC{fn:Func}{R:DE->Sig->Prop}{S':Sig}{ds:List D}{d:D}(hR:R (.ret d) S')(h:resL tab V γ fn.results.toList=some ds:=by(simp[resL];with_unfolding_all rfl))(hw:WkD (Jv ds) d:=by exact tdW)(hU:Sub S' V:=by first|exact Sub.refl _|(refine BY ?_;simp;done)|assumption|exact(Sub.refl _).set (by assumption)):Eg prog n fn R .ret ⟨γ,V,[]⟩:=IR Ad h hw hU hR
theorem mixL{lo:List Oper}{id:Nat}(ord E:List Nat){lp:List (Bool×Oper)}{ol:Oper}(h:MO prog ro n lo.toArray 334 V (Then (fun s=>DOps prog ro n lo.toArray Q [ol] s) Q) df lp γ V)(hB:Il lo.toArray E ord=true:=by kernel_rfl)(hol:nthO lo (lo.length-1)=some ol:=by exact tdR)(hl:FF lo E ord=some lp:=by exact tdR):DWp prog ro n (.region id lo.toArray true) Q ⟨γ,V,df⟩:=
 Pc Al mixed ord E V hB hol (Sub.refl _) hl h
theorem mo1{op:Op}{l:List (Bool×Oper)}(h:∀U2,(∀x∈op.operands,ev U2 x=ev γ x)->DOps P ro n ops (EQ df (some t) (fun d S'=>Sub S0 S'/\MO P ro n ops N S0 Q df l ((t,d)::γ) S') (fun d S'=> ∀U',Q (.panic d) ⟨U',S',df⟩)) [⟨some t,op,ty,pos,after,none⟩] ⟨U2,V,df⟩)(htn:decide (t<n)=true:=by exact tdR):
  MO P ro n ops N S0 Q df ((true,⟨some t,op,ty,pos,after,none⟩)::l) γ V:=
 V7 (o:=⟨some t,op,ty,pos,after,none⟩) htn rfl rfl (h _ fun _ hx=>CA (o:=⟨some t,op,ty,pos,after,none⟩) hx)
theorem Ll{U2:Fr}{s x:Operand}{T T':Nat}(hl:A4 γ (A6 [s,x])=some Sr)(hx:∀y∈((cA s x T T')).operands,ev U2 y=ev γ y):ev U2 s=ev Sr s/\ev U2 x=ev Sr x:=by
 obtain⟨e1,e2⟩:=evs hl;exact⟨by rw[hx s (by simp[Op.operands,Call.operands]),e1],by rw[hx x (by simp[Op.operands,Call.operands]),e2]⟩
theorem V9{s x:Operand}{T T' e e':Nat}{es new:List (List D)}{l:List (Bool×Oper)}(h:∀i,V i=none->MO prog ro n ops N S0 Q df l ((t,.slice (es++new) (.tag i))::γ) (V.set i (.tail (tab e).size (es.length+new.length))))(hl:A4 γ (A6 [s,x])=some Sr:=by exact tdR)(hk:(tab T).k=.slice e:=by(simp<;>rfl))(hk':(tab T').k=.slice e':=by(simp<;>rfl))(he:A5 (tab e).k=false:=by simp)
  (h1:ev Sr s=.slice es .clip:=by exact tdR) (h2:esOf (ev Sr x)=some new:=by(simp<;>with_unfolding_all rfl)) (hne:new≠[]:=by first|assumption|(simp;done)|(simp[cI,cS,cII];assumption))
  (hlen:∀c∈es,c.length=(tab e).size:=by first|exact C4 _|exact Eo _|exact CW _|simp) (hlen':∀c∈new,c.length=(tab e).size:=by first|exact C4 _|exact Eo _|exact CW _|simp)
  (hb:(es.length+new.length)*(tab e).bytes<=140737488355328:=by first|(simp;done)|(simp;omega)) (hm:es.length+new.length<=9223372036854775807:=by first|(simp;done)|(simp;omega)) (htn:decide (t<n)=true:=by exact tdR) (hC:Sub S0 V:=by first|exact Sub.refl _|assumption) :
  MO prog ro n ops N S0 Q df ((true,⟨some t,(cA s x T T'),ty,pos,after,none⟩)::l) γ V:=
 mo1 (fun U2 hx=>by
  obtain⟨e1,e2⟩:=Ll hl hx
  exact C7 Ad rfl (by simpa using htn) hk hk' he (by rw[e1];exact h1) (by rw[e2];exact h2) hne hlen hlen' hb hm (fun i hi=>B6 ⟨rfl,by simp only[A8,if_true];exact⟨hC.set (hC.none hi),h i hi⟩⟩)) htn
theorem Rk{s x:Operand}{T T' e e':Nat}{es new:List (List D)}{l:List (Bool×Oper)}(h:∀i,V i=none->MO prog ro n ops N S0 Q df l ((t,.slice (es++new) .no)::γ) (V.set i (.tail (tab e).size (es.length+new.length))))(hl:A4 γ (A6 [s,x])=some Sr:=by exact tdR)(hk:(tab T).k=.slice e:=by(simp<;>rfl))(hk':(tab T').k=.slice e':=by(simp<;>rfl))(he:A5 (tab e).k=false:=by simp)
  (h1:ev Sr s=.slice es .clip:=by exact tdR) (h2:esOf (ev Sr x)=some new:=by(simp<;>with_unfolding_all rfl)) (hne:new≠[]:=by first|assumption|(simp;done)|(simp[cI,cS,cII];assumption))
  (hlen:∀c∈es,c.length=(tab e).size:=by first|exact C4 _|exact Eo _|exact CW _|simp) (hlen':∀c∈new,c.length=(tab e).size:=by first|exact C4 _|exact Eo _|exact CW _|simp)
  (hb:(es.length+new.length)*(tab e).bytes<=140737488355328:=by first|(simp;done)|(simp;omega)) (hm:es.length+new.length<=9223372036854775807:=by first|(simp;done)|(simp;omega)) (htn:decide (t<n)=true:=by exact tdR) (hC:Sub S0 V:=by first|exact Sub.refl _|assumption) :
  MO prog ro n ops N S0 Q df ((true,⟨some t,(cA s x T T'),ty,pos,after,none⟩)::l) γ V:=
 mo1 (fun U2 hx=>by
  obtain⟨e1,e2⟩:=Ll hl hx
  exact C7 Ad rfl (by simpa using htn) hk hk' he (by rw[e1];exact h1) (by rw[e2];exact h2) hne hlen hlen' hb hm (fun i hi=>BX (Bz (t:=t) (d:=.slice (es++new) .no) (by simp only[A8,if_true];exact Bc _ _)) (B6 ⟨rfl,by simp only[A8,if_true];exact⟨hC.set (hC.none hi),h i hi⟩⟩))) htn
theorem moApp0{s x:Operand}{T T' e e':Nat}{es:List (List D)}{l:List (Bool×Oper)}(h:MO prog ro n ops N S0 Q df l ((t,d)::γ) V)(hl:A4 γ (A6 [s,x])=some Sr:=by exact tdR)(hk:(tab T).k=.slice e:=by(simp<;>rfl))(hk':(tab T').k=.slice e':=by(simp<;>rfl))(he:A5 (tab e).k=false:=by simp)(hd:ev Sr s=d:=by exact tdR)
  (h1:esOf d=some es:=by exact tdR) (h2:esOf (ev Sr x)=some []:=by first|with_unfolding_all rfl|(simp_all;done)) (htn:decide (t<n)=true:=by exact tdR) (hC:Sub S0 V:=by first|exact Sub.refl _|assumption) :
  MO prog ro n ops N S0 Q df ((true,⟨some t,(cA s x T T'),ty,pos,after,none⟩)::l) γ V:=
 mo1 (fun U2 hx=>by
  obtain⟨e1,e2⟩:=Ll hl hx
  refine CV Ad rfl (by simpa using htn) hk hk' he (by rw[e1,hd];exact h1) (by rw[e2];exact h2) (B6 ⟨rfl,?_⟩)
  simp only[A8,if_true,e1,hd]
  exact⟨hC,h⟩) htn
theorem OA{T:Nat}{z:List D}{l:List (Bool×Oper)}(h:∀i,V i=none->MO prog ro n ops N S0 Q df l ((t,.ptr i 0)::γ) (V.set i (.cells z)))(hk:A5 (tab T).k=false:=by simp)(hz:(tab T).zero=z:=by(simp<;>rfl))(htn:decide (t<n)=true:=by exact tdR)(hC:Sub S0 V:=by first|exact Sub.refl _|assumption):
  MO prog ro n ops N S0 Q df ((true,⟨some t,.alloc T,ty,pos,after,none⟩)::l) γ V:=by
 subst hz;exact mo1 (fun U2 hx=>DT Ad hk (by simpa using htn) (fun i hi=>B6 ⟨rfl,by simp only[A8,if_true];exact⟨hC.set (hC.none hi),h i hi⟩⟩)) htn
theorem moEffW{op:Op}(d':D){S':Sig}{l:List (Bool×Oper)}(h:MO prog ro n ops N S0 Q df l ((t,d')::γ) S')(hl:A4 γ (A6 op.operands.toList)=some Sr:=by exact tdR)(he:eopD tab Sr V op=some (d,S'):=by(simp(disch:=first|omega|assumption) [An,big1,big2,w8]<;>first|rfl|(and_intros<;>rfl)|(and_intros<;>first|rfl|omega)))(hw:WkD d d':=by exact tdW)(htn:decide (t<n)=true:=by exact tdR)(hC:Sub S0 S':=by first|exact Sub.refl _|assumption|exact(Sub.refl _).set (by assumption)|exact((Sub.refl _).set (by assumption)).set (by assumption)):
  MO prog ro n ops N S0 Q df ((true,⟨some t,op,ty,pos,after,none⟩)::l) γ V:=
 mo1 (fun U2 hx=>by
  refine Gu Ad rfl (by rw[BU (U':=γ) hx];exact(BU (Cq hl)) ▸ he) htn (BX (Bz (t:=t) (d:=d') (by simp only[putD,A8,if_true];exact hw)) (B6 ⟨rfl,?_⟩))
  simp only[A8,if_true]
  exact⟨hC,h⟩) htn
theorem wk_sub{P:Program}{n:Nat}{γ:Fr}{V S':Sig}{df:List DDf}(hU:Sub S' V):Wk P n ⟨γ,V,df⟩ ⟨γ,S',df⟩:=
 fun g w a hs=>⟨g,.refl g,⟨hs.sim.sub hU,hs.tmps,hs.df⟩⟩
theorem drp{l:List Oper}(S':Sig)(h:DOps P ro n ops Q l ⟨γ,S',df⟩)(hU:Sub S' V:=by first|exact Sub.refl _|(refine BY ?_;simp;done)|assumption|exact(Sub.refl _).set (by assumption)):DOps P ro n ops Q l ⟨γ,V,df⟩:=BX (wk_sub hU) h
theorem rtw{c:Code}(k:Nat)(d':D)(h:DWp P ro n c Q ⟨(k,d')::γ,V,df⟩)(hw:WkD (getD γ k) d':=by exact tdW):DWp P ro n c Q ⟨γ,V,df⟩:=dwp_wk (Bz hw) h
theorem rtl{l:List Oper}(k:Nat)(d':D)(h:DOps P ro n ops Q l ⟨(k,d')::γ,V,df⟩)(hw:WkD (getD γ k) d':=by exact tdW):DOps P ro n ops Q l ⟨γ,V,df⟩:=BX (Bz hw) h
theorem Im{lo:List Oper}{id:Nat}(ord E:List Nat)(S0:Sig){lp:List (Bool×Oper)}{ol:Oper}(hC:Sub S0 V)(h:MO prog ro n lo.toArray 334 S0 (Then (fun s=>DOps prog ro n lo.toArray Q [ol] s) Q) df lp γ V)(hB:Il lo.toArray E ord=true:=by kernel_rfl)(hol:nthO lo (lo.length-1)=some ol:=by exact tdR)(hl:FF lo E ord=some lp:=by exact tdR):DWp prog ro n (.region id lo.toArray true) Q ⟨γ,V,df⟩:=
 Pc Al mixed ord E S0 hB hol hC hl h
theorem yldW{fop:Operand}{args:Array Operand}{ats:Array TypeId}{l:Nat}{us:List D}{R:DE->Sig->Prop}{dst:Option Tmp}(h:DYield P l us V R)(hret:∀d S',R (.ret d) S'->DOps P ro n ops Q rest ⟨putD dst d γ,S',df⟩)(hpan:∀d S',R (.panic d) S'->Q (.panic d) ⟨γ,S',df⟩)
  (hl:A4 γ (A6 (fop::args.toList))=some Sr:=by exact tdR) (hf:ev Sr fop=.yld l:=by exact tdR) (ha:args.toList.map (ev Sr)=us:=by exact td0)
  (ho:As n ⟨dst,(cv fop args ats),ty,pos,after,none⟩=true:=by exact tdR) :
  DOps P ro n ops Q (⟨dst,(cv fop args ats),ty,pos,after,none⟩::rest) ⟨γ,V,df⟩:=by
 have hx:∀x∈fop::args.toList,ev Sr x=ev γ x:=fun x hx=>Bv fun t ht=>AD hl t (AU (by rw[<-ht];exact hx))
 refine Kc rfl (by rw[<-hx fop (by simp)];exact hf) ?_ ho hret hpan;rw[show args.toList.map (ev γ)=args.toList.map (ev Sr) from List.map_congr_left fun x h=>(hx x (by simp[h])).symm,ha];exact h
theorem invW{rv:Operand}{name:String}{args:Array Operand}{ats:Array TypeId}{f T:Nat}{us:List D}{R:DE->Sig->Prop}{dst:Option Tmp}(hM:Jc P T name f)(h:DCall P f (d::us) V R)(hret:∀d S',R (.ret d) S'->DOps P ro n ops Q rest ⟨putD dst d γ,S',df⟩)(hpan:∀d S',R (.panic d) S'->Q (.panic d) ⟨γ,S',df⟩)
  (hl:A4 γ (A6 (rv::args.toList))=some Sr:=by exact tdR) (hx:ev Sr rv=.iface T d:=by exact tdR) (ha:args.toList.map (ev Sr)=us:=by exact td0)
  (ho:As n ⟨dst,.call { callee:=.invoke rv name,args,argTypes:=ats },ty,pos,after,none⟩=true:=by exact tdR) :
  DOps P ro n ops Q (⟨dst,.call { callee:=.invoke rv name,args,argTypes:=ats },ty,pos,after,none⟩::rest) ⟨γ,V,df⟩:=by
 have he:∀x∈rv::args.toList,ev Sr x=ev γ x:=fun x hx=>Bv fun t ht=>AD hl t (AU (by rw[<-ht];exact hx))
 refine IW rfl (by rw[<-he rv (by simp)];exact hx) hM h ?_ ho hret hpan;rw[show args.toList.map (ev γ)=args.toList.map (ev Sr) from List.map_congr_left fun x h=>(he x (by simp[h])).symm,ha];exact Dn _
end
def hitD(tab:Nat->Ty)(e:Nat)(c:Bool):Option (Option (Nat×D))->Option D
 |some (some (_,d))=>some (if c then .tup [d,.bool true] else d)
 |some none=>match FO (tab e)with
  |some z=>some (if c then .tup [z,.bool false] else z)
  |none=>none
 |none=>none
@[simp high] theorem lookupD_h {tab:Nat->Ty} {V:Sig} {c:Bool} {T e:Nat} {x d:D}:FH tab V c (.map T e) x d=if A5 (tab e).k || !AY (tab T).k d then none else match BV V x with
  |some l=>hitD tab e c (Cs (tab T).k d l 0)
  |none=>none:=by
 rw[Rr]
 by_cases hc:(A5 (tab e).k||!AY (tab T).k d)=true
 ·rw[if_pos hc,if_pos hc]
 ·rw[if_neg hc,if_neg hc];cases BV V x with
  |none=>rfl
  | some l =>
   cases h:Cs (tab T).k d l 0 with
   |none=>simp only[h];rfl
   |some r=>cases r with
    |none=>simp only[h];rfl
    |some p=>simp only[h];rfl
@[simp] theorem hitD_some(tab:Nat->Ty)(e i:Nat)(c:Bool)(d:D):hitD tab e c (some (some (i,d)))=some (if c then .tup [d,.bool true] else d):=rfl
def ins{α:Type}[DecidableEq α](k:α)(s:List α):List α:=if k∈s then s else s++[k]
theorem Ir{α:Type}[DecidableEq α]{k x:α}{s:List α}:x∈ins k s ↔ x=k\/x∈s:=by
 unfold ins
 by_cases h:k∈s
 ·rw[if_pos h];exact⟨.inr,fun h'=>h'.elim (fun e=>e ▸ h) id⟩
 ·rw[if_neg h];simp[or_comm]
def getM{α β:Type}[DecidableEq α](z:β)(k:α):List (α×β)->β
 |[]=>z
 |(k',v)::r=>if k=k' then v else getM z k r
def hasM{α β:Type}[DecidableEq α](k:α):List (α×β)->Bool
 |[]=>false
 |(k',_)::r=>decide (k=k')||hasM k r
def putM{α β:Type}[DecidableEq α](k:α)(v:β):List (α×β)->List (α×β)
 |[]=>[(k,v)]
 |(k',v')::r=>if k=k' then(k,v)::r else(k',v')::putM k v r
theorem Cn{α β:Type}[DecidableEq α](z:β)(k x:α)(v:β): ∀m:List (α×β),getM z x (putM k v m)=if x=k then v else getM z x m
 |[]=>by simp[putM,getM]
 | (k',v')::r=>by
  by_cases h:k=k'
  ·subst h;rw[putM,if_pos rfl,getM];by_cases hx:x=k<;>simp[hx,getM]
  ·rw[putM,if_neg h,getM,Cn z k x v r]
   by_cases hx:x=k'
   ·rw[if_pos hx,if_neg (fun e=>h (e.symm.trans hx)),getM,if_pos hx]
   ·rw[if_neg hx,getM,if_neg hx]
theorem OL{α β:Type}[DecidableEq α](k x:α)(v:β): ∀m:List (α×β),hasM x (putM k v m)=(decide (x=k)||hasM x m)
 |[]=>by simp[putM,hasM]
 | (k',v')::r=>by
  by_cases h:k=k'
  ·subst h;rw[putM,if_pos rfl,hasM,hasM];cases decide (x=k)<;>simp
  ·rw[putM,if_neg h,hasM,OL k x v r,hasM];cases decide (x=k')<;>cases decide (x=k)<;>simp
section
def eM{α β:Type}(kf:α->D)(f:β->D)(m:List (α×β)):List (D×D):=m.map fun p=>(kf p.1,f p.2)
def eS{α:Type}(kf:α->D)(s:List α):List (D×D):=s.map fun k=>(kf k,.bool true)
structure KeyOK{α:Type}[DecidableEq α](kt:TyK)(kf:α->D):Prop where
 key:∀a b:α,keyB kt (kf a) (kf b)=some (decide (a=b))
theorem keyI:KeyOK (.int .i64) dI:=⟨fun a b=>by simp[keyB,DG]⟩
theorem keyS:KeyOK .str D.str:=⟨fun a b=>by simp[keyB,DG]⟩
variable {α β:Type}[DecidableEq α]{kt:TyK}{kf:α->D}(hk:KeyOK kt kf)
include hk
theorem NN(k:α): ∀(s:List α) (i:Nat),(k∈s->∃j,Cs kt (kf k) (eS kf s) i=some (some (i+j,.bool true))/\s[j]? = some k)/\(k∉s->Cs kt (kf k) (eS kf s) i=some none)
 |[],i=>by simp[eS,Cs]
 | x::s,i=>by
  obtain⟨h1,h2⟩:=NN k s (i+1);simp only[eS]at h1 h2;simp only[eS,List.map_cons,Cs,hk.key]
  by_cases h:k=x
  ·subst h;simp only[decide_true];exact⟨fun _=>⟨0,rfl,rfl⟩,fun h=>absurd (by simp) h⟩
  ·have e:decide (k=x)=false:=by simp[h]
   simp only[e];refine⟨fun hm=>?_,fun hm=>h2 fun hm'=>hm (by simp[hm'])⟩;obtain⟨j,a,b⟩:=h1 ((List.mem_cons.1 hm).resolve_left h);exact⟨j+1,by rw[a];congr 3;omega,by simpa using b⟩
theorem Vf{tab:Nat->Ty}{e:Nat}(hz:FO (tab e)=some (.bool false))(k:α)(s:List α):hitD tab e false (Cs kt (kf k) (eS kf s) 0)=some (.bool (decide (k∈s))):=by
 obtain⟨h1,h2⟩:=NN hk k s 0
 by_cases h:k∈s
 ·obtain⟨j,a,_⟩:=h1 h;rw[a];simp[h]
 ·rw[h2 h];simp only[hitD,hz,Bool.false_eq_true,if_false,h,decide_false]
theorem V6(k:α)(s:List α):BL kt (kf k) (.bool true) (eS kf s)=some (eS kf (ins k s)):=by
 obtain⟨h1,h2⟩:=NN hk k s 0;unfold BL ins
 by_cases h:k∈s
 ·obtain⟨j,a,b⟩:=h1 h;rw[a,if_pos h];simp only[Nat.zero_add,Option.some.injEq];apply List.ext_getElem?;intro i;rw[List.getElem?_set]
  by_cases hi:j=i
  ·subst hi;have hlt:j<s.length:=(List.getElem?_eq_some_iff.1 b).1;have hb:s[j]=k:=by rw[List.getElem?_eq_getElem hlt]at b;exact Option.some.inj b
   simp[eS,hlt,hb]
  ·rw[if_neg hi]
 ·rw[h2 h,if_neg h];simp[eS]
theorem II(f:β->D)(k:α): ∀(m:List (α×β)) (i:Nat),(hasM k m=true->∃j v,Cs kt (kf k) (eM kf f m) i=some (some (i+j,f v))/\(∀z,getM z k m=v) /\ ∀w,(eM kf f m).set j (kf k,f w)=eM kf f (putM k w m)) /\
  (hasM k m=false->Cs kt (kf k) (eM kf f m) i=some none/\(∀z,getM z k m=z) /\ ∀w,eM kf f m++[(kf k,f w)]=eM kf f (putM k w m))
 |[],i=>by simp[eM,Cs,hasM,getM,putM]
 | (x,y)::m,i=>by
  obtain⟨h1,h2⟩:=II f k m (i+1);simp only[eM]at h1 h2;simp only[eM,List.map_cons,Cs,hk.key,hasM]
  by_cases h:k=x
  ·subst h;simp only[decide_true,Bool.true_or];refine⟨fun _=>⟨0,y,rfl,fun z=>by simp[getM],fun w=>by simp[putM]⟩,fun h=>by cases h⟩
  ·have e:decide (k=x)=false:=by simp[h]
   simp only[e,Bool.false_or];refine⟨fun hm=>?_,fun hm=>?_⟩
   ·obtain⟨j,v,a,b,c⟩:=h1 hm;refine⟨j+1,v,by rw[a];congr 3;omega,fun z=>by rw[getM,if_neg h];exact b z,fun w=>?_⟩;rw[putM,if_neg h,List.map_cons,List.set_cons_succ,c w]
   ·obtain⟨a,b,c⟩:=h2 hm;refine⟨a,fun z=>by rw[getM,if_neg h];exact b z,fun w=>?_⟩;rw[putM,if_neg h,List.map_cons,List.cons_append,c w]
theorem hit_eM{tab:Nat->Ty}{e:Nat}{z:β}{zd:D}(f:β->D)(hz:FO (tab e)=some zd)(k:α)(m:List (α×β)):hitD tab e false (Cs kt (kf k) (eM kf f m) 0)=some (if hasM k m then f (getM z k m) else zd):=by
 obtain⟨h1,h2⟩:=II hk f k m 0;cases h:hasM k m with
 |true=>obtain⟨j,v,a,b,_⟩:=h1 h;rw[a,b z];simp
 |false=>obtain⟨a,b,_⟩:=h2 h;rw[a];simp only[hitD,hz,Bool.false_eq_true,if_false]
theorem hit_eM'{tab:Nat->Ty}{e:Nat}{z:β}(f:β->D)(hz:FO (tab e)=some (f z))(k:α)(m:List (α×β)):hitD tab e false (Cs kt (kf k) (eM kf f m) 0)=some (f (getM z k m)):=by
 obtain⟨h1,h2⟩:=II hk f k m 0;cases h:hasM k m with
 |true=>obtain⟨j,v,a,b,_⟩:=h1 h;rw[a,b z];simp
 |false=>obtain⟨a,b,_⟩:=h2 h;rw[a,b z];simp only[hitD,hz,Bool.false_eq_true,if_false,if_true]
theorem L3{tab:Nat->Ty}{e:Nat}{z:β}(f:β->D)(hz:FO (tab e)=some (f z))(k:α)(m:List (α×β)):hitD tab e true (Cs kt (kf k) (eM kf f m) 0)=some (.tup [f (getM z k m),.bool (hasM k m)]):=by
 obtain⟨h1,h2⟩:=II hk f k m 0;cases h:hasM k m with
 |true=>obtain⟨j,v,a,b,_⟩:=h1 h;rw[a,b z];simp
 |false=>obtain⟨a,b,_⟩:=h2 h;rw[a,b z];simp only[hitD,hz,Bool.false_eq_true,if_false,if_true]
theorem Ot(f:β->D)(k:α)(v:β)(m:List (α×β)):BL kt (kf k) (f v) (eM kf f m)=some (eM kf f (putM k v m)):=by
 obtain⟨h1,h2⟩:=II hk f k m 0;unfold BL;cases h:hasM k m with
 |true=>obtain⟨j,w,a,_,c⟩:=h1 h;rw[a];simp only[Nat.zero_add];rw[c v]
 |false=>obtain⟨a,_,c⟩:=h2 h;rw[a];simp only;rw[c v]
end
def eSI(s:List Int):List (D×D):=eS dI s
def eSS(s:List Str):List (D×D):=eS D.str s
def eSN(m:List (Str×Int)):List (D×D):=eM D.str dI m
def eIN(m:List (Int×Int)):List (D×D):=eM dI dI m
@[simp] theorem hitI4(k:Int)(s:List Int):hitD tab 4 false (Cs (.int .i64) (.int .i64 k) (eSI s) 0)=some (.bool (decide (k∈s))):=Vf keyI rfl k s
@[simp] theorem hitS4(k:Str)(s:List Str):hitD tab 4 false (Cs .str (.str k) (eSS s) 0)=some (.bool (decide (k∈s))):=(Vf (tab:=tab) (e:=4) keyS rfl k s).trans (congrArg (fun b=>some (D.bool b)) (decide_eq_decide.2 Iff.rfl))
@[simp] theorem putI4(k:Int)(s:List Int):BL (.int .i64) (.int .i64 k) (.bool true) (eSI s)=some (eSI (ins k s)):=V6 keyI k s
@[simp] theorem putS4(k:Str)(s:List Str):BL .str (.str k) (.bool true) (eSS s)=some (eSS (ins k s)):=V6 keyS k s
@[simp] theorem hitSN(k:Str)(m:List (Str×Int)):hitD tab 3 false (Cs .str (.str k) (eSN m) 0)=some (.int .i64 (getM 0 k m)):=hit_eM' keyS dI rfl k m
@[simp] theorem hitSNok(k:Str)(m:List (Str×Int)):hitD tab 3 true (Cs .str (.str k) (eSN m) 0)=some (.tup [.int .i64 (getM 0 k m),.bool (hasM k m)]):=L3 keyS dI rfl k m
@[simp] theorem putSN(k:Str)(v:Int)(m:List (Str×Int)):BL .str (.str k) (.int .i64 v) (eSN m)=some (eSN (putM k v m)):=Ot keyS dI k v m
@[simp] theorem hitINok(k:Int)(m:List (Int×Int)):hitD tab 3 true (Cs (.int .i64) (.int .i64 k) (eIN m) 0)=some (.tup [.int .i64 (getM 0 k m),.bool (hasM k m)]):=L3 keyI dI rfl k m
@[simp] theorem putIN(k v:Int)(m:List (Int×Int)):BL (.int .i64) (.int .i64 k) (.int .i64 v) (eIN m)=some (eIN (putM k v m)):=Ot keyI dI k v m
def eIO(m:List (Int×List Int)):List (D×D):=eM dI (fun l=>sl (cI l)) m
@[simp] theorem putIO(k:Int)(v:List Int)(m:List (Int×List Int)):BL (.int .i64) (.int .i64 k) (sl (cI v)) (eIO m)=some (eIO (putM k v m)):=Ot keyI (fun l=>sl (cI l)) k v m
theorem hitIO(k:Int)(m:List (Int×List Int)):hitD tab 23 false (Cs (.int .i64) (.int .i64 k) (eIO m) 0)=some (if hasM k m then sl (cI (getM [] k m)) else .nils):=hit_eM keyI _ rfl k m
section
variable {P:Program}{ro:Option Nat}{n:Nat}{Q:DX->St->Prop}{df:List DDf}{γ:List (Nat×D)}{V:Sig}
theorem Ua{Sk:Fr}{α β δ ε:Type}{c:Code}(keep:List Nat)(I:α->β->δ->ε->Prop)(ov:α->β->δ->ε->Fr)(sg:α->β->δ->ε->Sig)(μ:α->β->δ->ε->Nat)(x0:α)(y0:β)(z0:δ)(u0:ε)(h0:I x0 y0 z0 u0)
  (round:∀x y z u,I x y z u->DWp P ro n c (Then (fun s'=> ∃x' y' z' u',I x' y' z' u'/\μ x' y' z' u'<μ x y z u/\Wk P n s' ⟨ov x' y' z' u'++Sk,sg x' y' z' u',df⟩) Q) ⟨ov x y z u++Sk,sg x y z u,df⟩) (hk:Dg γ keep=some Sk:=by exact tdR) (h1:TellsR γ (ov x0 y0 z0 u0++Sk):=by(first|refine FW ?_ ?_|skip)<;>(repeat' first|exact FV|refine F0 tdR ?_ ?_|(first|exact A7 _|exact Bc _ _|exact Aq _ (.inl rfl)|exact Dv _|(refine HM _ ?_;first|omega|(simp;done)|(simp;omega))|(refine Bd ?_;(simp;done))|(refine Bd ?_;(simp[cI,cS,cII,D8,C5,Ee];done))|(refine DI _ ?_;(simp[cI,cS,cII];done))|(refine Bd ?_;(simp_all;done))|assumption))) (h2:Sub (sg x0 y0 z0 u0) V:=by first|exact Sub.refl _|(refine BY ?_;simp;done)|assumption|exact(Sub.refl _).set (by assumption)):DWp P ro n (.loop c) Q ⟨γ,V,df⟩:=by
 refine EU (α:=α×β×δ×ε) keep (fun x=>I x.1 x.2.1 x.2.2.1 x.2.2.2) (fun x=>ov x.1 x.2.1 x.2.2.1 x.2.2.2) (fun x=>sg x.1 x.2.1 x.2.2.1 x.2.2.2) (fun x=>μ x.1 x.2.1 x.2.2.1 x.2.2.2) (x0,y0,z0,u0) hk h0 h1 h2 fun x hx=>Ff (round x.1 x.2.1 x.2.2.1 x.2.2.2 hx) ?_;intro e s h;cases e with
 |normal=>obtain⟨x',y',z',u',h3,h4,h5⟩:=h;exact⟨(x',y',z',u'),h3,h4,h5⟩
 |_=>exact h
theorem U9{Sk:Fr}{α β δ ε ζ:Type}{c:Code}(keep:List Nat)(I:α->β->δ->ε->ζ->Prop)(ov:α->β->δ->ε->ζ->Fr)(sg:α->β->δ->ε->ζ->Sig)(μ:α->β->δ->ε->ζ->Nat)(x0:α)(y0:β)(z0:δ)(u0:ε)(v0:ζ)(h0:I x0 y0 z0 u0 v0)
  (round:∀x y z u v,I x y z u v->DWp P ro n c (Then (fun s'=> ∃x' y' z' u' v',I x' y' z' u' v'/\μ x' y' z' u' v'<μ x y z u v/\Wk P n s' ⟨ov x' y' z' u' v'++Sk,sg x' y' z' u' v',df⟩) Q) ⟨ov x y z u v++Sk,sg x y z u v,df⟩) (hk:Dg γ keep=some Sk:=by exact tdR) (h1:TellsR γ (ov x0 y0 z0 u0 v0++Sk):=by(first|refine FW ?_ ?_|skip)<;>(repeat' first|exact FV|refine F0 tdR ?_ ?_|(first|exact A7 _|exact Bc _ _|exact Aq _ (.inl rfl)|exact Dv _|(refine HM _ ?_;first|omega|(simp;done)|(simp;omega))|(refine Bd ?_;(simp;done))|(refine Bd ?_;(simp[cI,cS,cII,D8,C5,Ee];done))|(refine DI _ ?_;(simp[cI,cS,cII];done))|(refine Bd ?_;(simp_all;done))|assumption))) (h2:Sub (sg x0 y0 z0 u0 v0) V:=by first|exact Sub.refl _|(refine BY ?_;simp;done)|assumption|exact(Sub.refl _).set (by assumption)):DWp P ro n (.loop c) Q ⟨γ,V,df⟩:=by
 refine EU (α:=α×β×δ×ε×ζ) keep (fun x=>I x.1 x.2.1 x.2.2.1 x.2.2.2.1 x.2.2.2.2) (fun x=>ov x.1 x.2.1 x.2.2.1 x.2.2.2.1 x.2.2.2.2) (fun x=>sg x.1 x.2.1 x.2.2.1 x.2.2.2.1 x.2.2.2.2) (fun x=>μ x.1 x.2.1 x.2.2.1 x.2.2.2.1 x.2.2.2.2) (x0,y0,z0,u0,v0) hk h0 h1 h2 fun x hx=>Ff (round x.1 x.2.1 x.2.2.1 x.2.2.2.1 x.2.2.2.2 hx) ?_;intro e s h;cases e with
 |normal=>obtain⟨x',y',z',u',v',h3,h4,h5⟩:=h;exact⟨(x',y',z',u',v'),h3,h4,h5⟩
 |_=>exact h
variable {ops:Array Oper}{rest:List Oper}{Sr:List (Nat×D)}{t:Nat}{ty:TypeId}{pos:String}{after:Array Edge}
theorem newSI{T:Nat}(h:∀i,V i=none->DOps prog ro n ops Q rest ⟨(t,.map i)::γ,V.set i (.map (eSI [])),df⟩)(htn:decide (t<n)=true:=by exact tdR):DOps prog ro n ops Q (⟨some t,.makeMap T none,ty,pos,after,none⟩::rest) ⟨γ,V,df⟩:=newM h htn
theorem KP{T:Nat}(h:∀i,V i=none->DOps prog ro n ops Q rest ⟨(t,.map i)::γ,V.set i (.map (eSS [])),df⟩)(htn:decide (t<n)=true:=by exact tdR):DOps prog ro n ops Q (⟨some t,.makeMap T none,ty,pos,after,none⟩::rest) ⟨γ,V,df⟩:=newM h htn
theorem Rb{T:Nat}(h:∀i,V i=none->DOps prog ro n ops Q rest ⟨(t,.map i)::γ,V.set i (.map (eSN [])),df⟩)(htn:decide (t<n)=true:=by exact tdR):DOps prog ro n ops Q (⟨some t,.makeMap T none,ty,pos,after,none⟩::rest) ⟨γ,V,df⟩:=newM h htn
theorem newIN{T:Nat}(h:∀i,V i=none->DOps prog ro n ops Q rest ⟨(t,.map i)::γ,V.set i (.map (eIN [])),df⟩)(htn:decide (t<n)=true:=by exact tdR):DOps prog ro n ops Q (⟨some t,.makeMap T none,ty,pos,after,none⟩::rest) ⟨γ,V,df⟩:=newM h htn
theorem newIO{T:Nat}(h:∀i,V i=none->DOps prog ro n ops Q rest ⟨(t,.map i)::γ,V.set i (.map (eIO [])),df⟩)(htn:decide (t<n)=true:=by exact tdR):DOps prog ro n ops Q (⟨some t,.makeMap T none,ty,pos,after,none⟩::rest) ⟨γ,V,df⟩:=newM h htn
theorem lkO{x y:Operand}{i:Nat}{k:Int}{m:List (Int×List Int)}(h:DOps prog ro n ops Q rest ⟨(t,sl (cI (getM [] k m)))::γ,V,df⟩)(hi:V i=some (.map (eIO m)):=by first|assumption|(simp;done))
  (hl:A4 γ (A6 [x,y])=some Sr:=by exact tdR) (hx:ev Sr x=.map i:=by exact tdR) (hy:ev Sr y=dI k:=by exact tdR) (htn:decide (t<n)=true:=by exact tdR) :
  DOps prog ro n ops Q (⟨some t,.lookup 183 x y false,ty,pos,after,none⟩::rest) ⟨γ,V,df⟩:=by
 refine FY (d:=if hasM k m then sl (cI (getM [] k m)) else .nils) Ad rfl htn hl ?_ ?_
 ·simp only[dopX_lk,hx,hy];simp[hi,hitIO]
 ·refine BX (Bz (t:=t) (d:=sl (cI (getM [] k m))) ?_) (Ch (γ:=(t,sl (cI (getM [] k m)))::γ) (fun j=>?_) h)
  ·rw [A8,if_pos rfl];cases hh:hasM k m with
   |true=>exact A7 _
   | false =>
    have:getM [] k m=[]:=by
     have key:∀m:List (Int×List Int),hasM k m=false->getM [] k m=[]:=fun m=>by
      induction m with
      |nil=>intro _;rfl
      |cons p m ih=>
       intro h;simp only[hasM,Bool.or_eq_false_iff,decide_eq_false_iff_not]at h;rw[getM,if_neg h.1];exact ih h.2
     exact key m hh
    rw[this];exact Aq _ (.inl rfl)
  ·simp only[A8];split<;>rfl
end
theorem mS_at{V:Sig}{i sz:Nat}{X:DObj}{st:MR}{es:List (List D)}(h:mOK (V.set i X) sz st es):(∀Y,mOK (V.set i Y) sz st es)/\(∀Y,mS (V.set i Y) st es i=some Y) /\ ∀Y Z,(mS (V.set i Y) st es).set i Z=mS (V.set i Z) st es:=by
 cases st with
 |none=>exact⟨fun Y=>h,fun Y=>w7 .., fun Y Z=>Sig.set_set ..⟩
 |some x=>
  obtain⟨k,cap,r⟩:=x;obtain⟨h1,h2,h3,h4⟩:=h;have hki:k≠i:=fun e=>by rw[e,w7]at h1;cases h1
  rw[w8 _ _ hki]at h1;refine⟨fun Y=>⟨by rw[w8 _ _ hki];exact h1,h2,h3,h4⟩,fun Y=>?_,fun Y Z=>?_⟩
  ·simp only[mS];rw[w8 _ _ (Ne.symm hki),w7]
  ·simp only[mS];rw[Sig.set_comm _ _ _ (Ne.symm hki),Sig.set_set];exact Sig.set_comm _ _ _ hki |>.symm ▸ rfl
theorem TF(a b:List Int):cI a++cI b=cI (a++b):=by simp[cI]
section
variable {ro:Option Nat}{n:Nat}{Q:DX->St->Prop}{df:List DDf}{γ Sr:List (Nat×D)}{V:Sig}{ops:Array Oper}{rest:List Oper}{t:Nat}{ty:TypeId}{pos:String}{after:Array Edge}
theorem mappI{T T' e e':Nat}{s x:Operand}{l m:List Int}{st:MR}(h:∀st',mOK V 1 st' (cI (l++m))->DOps prog ro n ops Q rest ⟨(t,mD st' (l++m).length)::γ,mS V st' (cI (l++m)),df⟩)(hm:mOK V 1 st (cI l):=by assumption)
  (hl:A4 γ (A6 [s,x])=some Sr:=by exact tdR) (hk:(tab T).k=.slice e:=by(simp<;>rfl)) (hk':(tab T').k=.slice e':=by(simp<;>rfl)) (he:A5 (tab e).k=false:=by simp) (hsz:(tab e).size=1:=by simp)
  (h1:ev Sr s=mD st l.length:=by exact tdR) (h2:esOf (ev Sr x)=some (cI m):=by(simp<;>with_unfolding_all rfl))
  (hb:(l.length+m.length)*(tab e).bytes<=140737488355328:=by first|(simp;done)|(simp;omega)) (hm2:l.length+m.length<=9223372036854775807:=by omega) (htn:decide (t<n)=true:=by exact tdR) :
  DOps prog ro n ops Q (⟨some t,(cA s x T T'),ty,pos,after,none⟩::rest) ⟨γ,mS V st (cI l),df⟩:=by
 refine mapp (fun st' hm'=>?_) hm hl hk hk' he hsz (by rw[h1,Kn]) h2 (C4 _) (by simp[cI,Cp,D.flat]) (by simpa using hb) ?_ htn
 ·rw[TF]at hm'⊢;rw[Kn,Kn,<-List.length_append];exact h st' hm'
 ·simpa using hm2
end
structure ShlOf(k:IntKind)(a b:Int) where
 val:Int
 is:val=k.wrap (a*2 ^ (min b.toNat k.bits))
def shlI(k:IntKind)(a b:Int):ShlOf k a b:=⟨_,rfl⟩
theorem Po(k k':IntKind)(a b:Int)(h:0<=b):binD .shl (.int k a) (.int k' b)=some (.int k (shlI k a b).val):=by
 rw[(shlI k a b).is];simp only[binD,h,if_true]
end Go.DL
