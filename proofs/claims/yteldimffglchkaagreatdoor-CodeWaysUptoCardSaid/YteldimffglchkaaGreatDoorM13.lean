/- A part of the proof. -/
import Derived.Test.YteldimffglchkaaGreatDoorM08
import Derived.Test.YteldimffglchkaaGreatDoorM09
import Derived.Test.YteldimffglchkaaGreatDoorM12
set_option linter.all false
namespace Go.DL
open Go.Proofs.Tryz
open Go Go.Proofs
theorem go1{F G' G:Prop}(fx:F)(h:G') (hs:VarsAre []->Hold F->G'->G:=by
 intro hv fx hG
 (first
  |(with_reducible first|refine FH ?_|refine HV ?_|refine Ku ?_|refine GM ?_|refine H5 ?_|refine KT ?_|refine Rh (by decide) ?_|refine Nj ?_|refine IB ?_|refine IP ?_|refine IQ ?_|refine L3 ?_|refine L4 ?_|refine Nv ?_|refine Aw ?_|refine GC ?_|refine QM ?_)
  |((with_reducible refine FZ (d:=?_) (Sr:=?_) Ac ?h1 ?h2 ?hl ?hd ?_);(case h1=>rfl);(case h2=>rfl);(case hl=>rfl);(case hd=>simp(disch:=first|omega|assumption) [As,big1,big2,w7,CV,BV,CU,BU,CW,CT,BP,Bs,BO,Br,BQ,BN,EW,fx.get]<;>(try simp only[Bj,Bk,AV,Bi,AN,AY,AX,AW,AU,AM,AT,AS,AR])<;>first|rfl|(and_intros<;>rfl)))
  |((with_reducible refine GP (d:=?_) (k:=?_) (Sr:=?_) Ac ?h1 ?h2 ?hk ?hb ?hl ?hd ?_);(case h1=>rfl);(case h2=>rfl);(case hk=>rfl);(case hb=>rfl);(case hl=>rfl);(case hd=>simp(disch:=first|omega|assumption) [As,big1,big2,w7,CV,BV,CU,BU,CW,CT,BP,Bs,BO,Br,BQ,BN,EW,fx.get]<;>(try simp only[Bj,Bk,AV,Bi,AN,AY,AX,AW,AU,AM,AT,AS,AR])<;>first|rfl|(and_intros<;>rfl)))
  |((with_reducible refine step_read0 (d:=?_) (Sr:=?_) Ac ?h1 ?hl ?hd ?_);(case h1=>rfl);(case hl=>rfl);(case hd=>simp(disch:=first|omega|assumption) [As,big1,big2,w7,CV,BV,CU,BU,CW,CT,BP,Bs,BO,Br,BQ,BN,EW,fx.get]<;>(try simp only[Bj,Bk,AV,Bi,AN,AY,AX,AW,AU,AM,AT,AS,AR])<;>first|rfl|(and_intros<;>rfl)))
  |((with_reducible refine KL (d:=?_) (Sr:=?_) Ac ?h1 ?h2 ?hl ?hd ?_);(case h1=>rfl);(case h2=>rfl);(case hl=>rfl);(case hd=>simp(disch:=first|omega|assumption) [As,big1,big2,w7,CV,BV,CU,BU,CW,CT,BP,Bs,BO,Br,BQ,BN,EW,fx.get]<;>(try simp only[Bj,Bk,AV,Bi,AN,AY,AX,AW,AU,AM,AT,AS,AR])<;>first|rfl|(and_intros<;>rfl)))
  |((with_reducible refine KK (d:=?_) (k:=?_) (Sr:=?_) Ac ?h1 ?h2 ?hk ?hb ?hl ?hd ?_);(case h1=>rfl);(case h2=>rfl);(case hk=>rfl);(case hb=>rfl);(case hl=>rfl);(case hd=>simp(disch:=first|omega|assumption) [As,big1,big2,w7,CV,BV,CU,BU,CW,CT,BP,Bs,BO,Br,BQ,BN,EW,fx.get]<;>(try simp only[Bj,Bk,AV,Bi,AN,AY,AX,AW,AU,AM,AT,AS,AR])<;>first|rfl|(and_intros<;>rfl)))
  |((with_reducible refine mo_read0 (d:=?_) (Sr:=?_) Ac ?h1 ?hl ?hd ?_);(case h1=>rfl);(case hl=>rfl);(case hd=>simp(disch:=first|omega|assumption) [As,big1,big2,w7,CV,BV,CU,BU,CW,CT,BP,Bs,BO,Br,BQ,BN,EW,fx.get]<;>(try simp only[Bj,Bk,AV,Bi,AN,AY,AX,AW,AU,AM,AT,AS,AR])<;>first|rfl|(and_intros<;>rfl)))
  |((with_reducible refine I0 (k:=?_) Ab ?hk ?hb ?h1 ?h2 ?_);(case hk=>rfl);(case hb=>rfl);(case h1=>rfl);(case h2=>rfl))
  |((with_reducible refine GO (k:=?_) Ab ?hk ?hb ?h1 ?h2 ?_);(case hk=>rfl);(case hb=>rfl);(case h1=>rfl);(case h2=>rfl))
  |((with_reducible refine step_skip0 (k:=?_) Ab ?hk ?hb ?h1 ?_);(case hk=>rfl);(case hb=>rfl);(case h1=>rfl))
  |((with_reducible refine step_skipU0 (k:=?_) Ab ?hk ?hb ?h1 ?_);(case hk=>rfl);(case hb=>rfl);(case h1=>rfl))
  |((with_reducible refine KJ (k:=?_) ?hk ?hb ?h1 ?h2 ?_);(case hk=>rfl);(case hb=>rfl);(case h1=>rfl);(case h2=>rfl))
  |((with_reducible refine mo_skipU (k:=?_) ?hk ?hb ?h1 ?h2 ?_);(case hk=>rfl);(case hb=>rfl);(case h1=>rfl);(case h2=>rfl))
  |((with_reducible refine mo_skip0 (k:=?_) ?hk ?hb ?h1 ?_);(case hk=>rfl);(case hb=>rfl);(case h1=>rfl))
  |((with_reducible refine mo_skipU0 (k:=?_) ?hk ?hb ?h1 ?_);(case hk=>rfl);(case hb=>rfl);(case h1=>rfl))
  |((with_reducible refine Kx (d:=?_) (U':=?_) (Sr:=?_) Ac ?hl ?he ?h1 ?_);(case hl=>rfl);(case he=>simp(disch:=first|omega|assumption) [As,big1,big2,w7,CV,BV,CU,BU,CW,CT,BP,Bs,BO,Br,BQ,BN,EW,fx.get]<;>first|rfl|(and_intros<;>rfl));(case h1=>rfl))
  |((with_reducible refine DO (d:=?_) (U':=?_) (Sr:=?_) Ac ?hl ?he ?_);(case hl=>rfl);(case he=>simp(disch:=first|omega|assumption) [As,big1,big2,w7,CV,BV,CU,BU,CW,CT,BP,Bs,BO,Br,BQ,BN,EW,fx.get]<;>first|rfl|(and_intros<;>rfl)))
  |((with_reducible refine Nd (d:=?_) (U':=?_) (Sr:=?_) Ac ?hl ?he ?h1 ?hC ?_);(case hl=>rfl);(case he=>simp(disch:=first|omega|assumption) [As,big1,big2,w7,CV,BV,CU,BU,CW,CT,BP,Bs,BO,Br,BQ,BN,EW,fx.get]<;>first|rfl|(and_intros<;>rfl));(case h1=>rfl);(case hC=>clear hG;first|exact Sub.refl _|assumption|exact(Sub.refl _).set (by assumption)))
  |((with_reducible refine FL (d:=?_) (U':=?_) (Sr:=?_) Ac ?hl ?he ?hC ?_);(case hl=>rfl);(case he=>simp(disch:=first|omega|assumption) [As,big1,big2,w7,CV,BV,CU,BU,CW,CT,BP,Bs,BO,Br,BQ,BN,EW,fx.get]<;>first|rfl|(and_intros<;>rfl));(case hC=>clear hG;first|exact Sub.refl _|assumption|exact(Sub.refl _).set (by assumption)))
  |((with_reducible refine step_neqS (r:=?_) (Sr:=?_) (xs:=?_) (ys:=?_) (fs:=?_) Ac ?hE ?h1 ?hl ?hx ?hy ?hk ?hd ?_);(case hE=>with_reducible first|exact eqTy63|exact eqTy150);(case h1=>rfl);(case hl=>rfl);(case hx=>rfl);(case hy=>rfl);(case hk=>simp<;>rfl);(case hd=>simp(disch:=first|omega|assumption) [As,big1,big2,w7,CV,BV,CU,BU,CW,CT,BP,Bs,BO,Br,BQ,BN,EW,fx.get]<;>rfl))
  |((with_reducible refine In (r:=?_) (Sr:=?_) (xs:=?_) (ys:=?_) (fs:=?_) Ac ?hE ?h1 ?hl ?hx ?hy ?hk ?hd ?_);(case hE=>with_reducible first|exact eqTy63|exact eqTy150);(case h1=>rfl);(case hl=>rfl);(case hx=>rfl);(case hy=>rfl);(case hk=>simp<;>rfl);(case hd=>simp(disch:=first|omega|assumption) [As,big1,big2,w7,CV,BV,CU,BU,CW,CT,BP,Bs,BO,Br,BQ,BN,EW,fx.get]<;>rfl))
  |((with_reducible refine GR (Sr:=?_) ?hl ?hc ?_);(case hl=>rfl);(case hc=>simp(disch:=first|omega|assumption) [As,big1,big2,w7,CV,BV,CU,BU,CW,CT,BP,Bs,BO,Br,BQ,BN,EW,fx.get];done))
  |((with_reducible refine GS (Sr:=?_) ?hl ?hc ?_);(case hl=>rfl);(case hc=>simp(disch:=first|omega|assumption) [As,big1,big2,w7,CV,BV,CU,BU,CW,CT,BP,Bs,BO,Br,BQ,BN,EW,fx.get];done))
  |((with_reducible refine I1 (d:=?_) (cs:=?_) (Sr:=?_) hv Ac ?h1 ?h2 ?h3 ?h4 ?h5 ?hl ?he ?h6 ?h7 ?h8 ?h9 ?_);(case h1=>rfl);(case h2=>rfl);(case h3=>rfl);(case h4=>rfl);(case h5=>simp);(case hl=>rfl);(case he=>simp<;>(try simp only[Bj,Bk,AV,Bi,AN,AY,AX,AW,AU,AM,AT,AS,AR])<;>rfl);(case h6=>rfl);(case h7=>simp<;>(try simp only[Bj,Bk,AV,Bi,AN,AY,AX,AW,AU,AM,AT,AS,AR])<;>rfl);(case h8=>simp);(case h9=>simp))
  |((with_reducible refine GQ (d:=?_) (d2:=?_) (cs:=?_) (Sr:=?_) (Sr2:=?_) hv Ac ?h1 ?h2 ?h3 ?h4 ?h5 ?g1 ?g2 ?g3 ?g4 ?gl ?ge ?hl ?he ?h6 ?h7 ?h8 ?h9 ?_);(case h1=>rfl);(case h2=>rfl);(case h3=>rfl);(case h4=>rfl);(case h5=>rfl);(case g1=>rfl);(case g2=>rfl);(case g3=>rfl);(case g4=>simp);(case gl=>rfl);(case ge=>simp<;>(try simp only[Bj,Bk,AV,Bi,AN,AY,AX,AW,AU,AM,AT,AS,AR])<;>rfl);(case hl=>rfl);(case he=>simp<;>(try simp only[Bj,Bk,AV,Bi,AN,AY,AX,AW,AU,AM,AT,AS,AR])<;>rfl);(case h6=>rfl);(case h7=>simp<;>(try simp only[Bj,Bk,AV,Bi,AN,AY,AX,AW,AU,AM,AT,AS,AR])<;>rfl);(case h8=>simp);(case h9=>simp)))
 exact hG):G:=hs ⟨⟩ ⟨fx⟩ h
section
variable {P:Program}{ro:Ro}{n:Nat}{ops:Array Oper}{N:Nat}{S0:Sig}{Q:DX->St->Prop}{df:List DDf}{rest:List Oper}{γ Sr:List (Nat×D)}{O:Sig}{t:Nat}{ty:TypeId}{pos:String}{after:Array Edge}{l:List (Bool×Oper)}{d:D}
theorem needR{fop:Operand}{args:Array Operand}{ats:Array TypeId}{f:Nat}{first cap us bs:List D}{c:Bool}{u d:D}{dst:Option Tmp}(h:DCall P f bs O fun x U'=>x=(if c then .ret d else .panic u)/\U'=O)(k1:c=true->DOps P ro n ops Q rest ⟨putD dst d γ,O,df⟩)(k2:c=false->Q (.panic u) ⟨γ,O,df⟩)(hl:A0 γ (A5 (fop::args.toList))=some Sr:=by exact tdR)(hf:ev Sr fop=.func (.func f) first cap:=by exact tdR)(ha:first++args.toList.map (ev Sr)++cap=us:=by exact td0)(hp:bs=us:=by exact tdR)
  (ho:Ap n ⟨dst,(cv fop args ats),ty,pos,after,none⟩=true:=by exact tdR):DOps P ro n ops Q (⟨dst,(cv fop args ats),ty,pos,after,none⟩::rest) ⟨γ,O,df⟩:=by
 refine G0 hl hf ha (.inl hp) h ho (fun d' U' hx=>?_) (fun d' U' hx=>?_)
 all_goals obtain⟨hx,rfl⟩:=hx;cases c<;>simp only[Bool.false_eq_true,if_true,if_false,DE.ret.injEq,DE.panic.injEq,reduceCtorEq]at hx
 ·subst hx;exact k1 rfl
 ·subst hx;exact k2 rfl
theorem moNeedR{fop:Operand}{args:Array Operand}{ats:Array TypeId}{f:Nat}{first cap us bs:List D}{c:Bool}{u d:D}{dst:Option Tmp}{l:List (Bool×Oper)}(h:DCall P f bs O fun x U'=>x=(if c then .ret d else .panic u)/\U'=O)(k1:c=true->MO P ro n ops N S0 Q df l (putD dst d γ) O)(k2:c=false->∀V',Q (.panic u) ⟨V',O,df⟩)(hl:A0 γ (A5 (fop::args.toList))=some Sr:=by exact tdR)(hf:ev Sr fop=.func (.func f) first cap:=by exact tdR)(ha:first++args.toList.map (ev Sr)++cap=us:=by exact td0)(hp:bs=us:=by exact tdR)(hC:Sub S0 O:=by first|exact Sub.refl _|assumption)
  (ho:Ap n ⟨dst,(cv fop args ats),ty,pos,after,none⟩=true:=by exact tdR):MO P ro n ops N S0 Q df ((true,⟨dst,(cv fop args ats),ty,pos,after,none⟩)::l) γ O:=by
 refine HC rfl hl hf ha (.inl hp) h ho (fun d' U' hx=>?_) (fun d' U' hx=>?_)
 all_goals obtain⟨hx,rfl⟩:=hx;cases c<;>simp only[Bool.false_eq_true,if_true,if_false,DE.ret.injEq,DE.panic.injEq,reduceCtorEq]at hx
 ·subst hx;exact⟨hC,k1 rfl⟩
 ·subst hx;exact k2 rfl
theorem Bx{fop:Operand}{args:Array Operand}{ats:Array TypeId}{f:Nat}{first cap us bs:List D}{R:DE->Sig->Prop}{dst:Option Tmp}{l:List (Bool×Oper)}(h:DCall P f bs O R)(ag:∀d U',R (.ret d) U'->Sub S0 U'/\MO P ro n ops N S0 Q df l (putD dst d γ) U')(ah:∀d U',R (.panic d) U'->∀V',Q (.panic d) ⟨V',U',df⟩)(hl:A0 γ (A5 (fop::args.toList))=some Sr:=by exact tdR)(hf:ev Sr fop=.func (.func f) first cap:=by exact tdR)(ha:first++args.toList.map (ev Sr)++cap=us:=by exact td0)(hp:bs=us:=by exact tdR)
  (ho:Ap n ⟨dst,(cv fop args ats),ty,pos,after,none⟩=true:=by exact tdR):MO P ro n ops N S0 Q df ((true,⟨dst,(cv fop args ats),ty,pos,after,none⟩)::l) γ O:=HC rfl hl hf ha (.inl hp) h ho ag ah
theorem nilE{x:Operand}{z:Value}{T T':Nat}{b:Bool}(h:DOps prog ro n ops Q rest ⟨(t,.bool b)::γ,O,df⟩)(hl:A0 γ (A5 [x])=some Sr:=by exact tdR)(hb:nilB (tab T).k z (ev Sr x)=some b:=by(simp<;>with_unfolding_all rfl))(aa:decide (t<n)=true:=by exact tdR):
  DOps prog ro n ops Q (⟨some t,.binOp .eql T x (.const z) T',ty,pos,after,none⟩::rest) ⟨γ,O,df⟩:=
 Mw Ac (b:=b) false rfl (by rw[<-BY hl];exact hb) (by simpa using aa) (by cases b<;>exact h)
theorem nilN{x:Operand}{z:Value}{T T':Nat}{b:Bool}(h:DOps prog ro n ops Q rest ⟨(t,.bool (!b))::γ,O,df⟩)(hl:A0 γ (A5 [x])=some Sr:=by exact tdR)(hb:nilB (tab T).k z (ev Sr x)=some b:=by(simp<;>with_unfolding_all rfl))(aa:decide (t<n)=true:=by exact tdR):
  DOps prog ro n ops Q (⟨some t,.binOp .neq T x (.const z) T',ty,pos,after,none⟩::rest) ⟨γ,O,df⟩:=
 Mw Ac (b:=b) true rfl (by rw[<-BY hl];exact hb) (by simpa using aa) (by cases b<;>exact h)
theorem boolE{x y:Operand}{T T':Nat}{a b:Bool}{gd:Option (Nat×Bool)}(h:DOps prog ro n ops Q rest ⟨(t,.bool (a==b))::γ,O,df⟩)(hw:Ax ops γ ⟨some t,.binOp .eql T x y T',ty,pos,after,gd⟩=some true:=by exact tdR)(hl:A0 γ (A5 [x,y])=some Sr:=by exact tdR)(hk:(tab T).k=.bool:=by(simp;done))(hx:ev Sr x=.bool a:=by exact tdR)(hy:ev Sr y=.bool b:=by exact tdR)(aa:decide (t<n)=true:=by exact tdR):
  DOps prog ro n ops Q (⟨some t,.binOp .eql T x y T',ty,pos,after,gd⟩::rest) ⟨γ,O,df⟩:=
 V6 Ac false hw hk (by rw[<-(evs hl).1];exact hx) (by rw[<-(evs hl).2];exact hy) (by simpa using aa) (by cases a<;>cases b<;>exact h)
theorem mapp{T T' e e' sz:Nat}{s x:Operand}{es new:List (List D)}{st:MR}(h:∀st',mOK O sz st' (es++new)->DOps prog ro n ops Q rest ⟨(t,mD st' (es.length+new.length))::γ,mS O st' (es++new),df⟩)(hm:mOK O sz st es:=by assumption)
  (hl:A0 γ (A5 [s,x])=some Sr:=by exact tdR) (hk:(tab T).k=.slice e:=by(simp<;>rfl)) (ae:(tab T').k=.slice e':=by(simp<;>rfl)) (he:A1 (tab e).k=false:=by simp) (hsz:(tab e).size=sz:=by simp)
  (h1:ev Sr s=mD st es.length:=by first|with_unfolding_all rfl|(simp[ev,getD,List.lookup];done)) (h2:esOf (ev Sr x)=some new:=by(simp<;>with_unfolding_all rfl))
  (hlen':∀c∈new,c.length=sz:=by first|exact Cb _|exact E1 _|exact CK _|simp) (aq:∀c∈new,BC c=true:=by simp[cI,cS,cII,BC,D.flat])
  (hb:(es.length+new.length)*(tab e).bytes<=140737488355328:=by first|(simp;done)|(simp;omega)) (hm2:es.length+new.length<=9223372036854775807:=by first|(simp;done)|(simp;omega)) (aa:decide (t<n)=true:=by exact tdR) :
  DOps prog ro n ops Q (⟨some t,(cA s x T T'),ty,pos,after,none⟩::rest) ⟨γ,mS O st es,df⟩:=by
 obtain⟨e1,e2⟩:=evs hl
 exact My Ac (by simpa using aa) hk ae he hsz (by rw[<-e1];exact h1) hm (by rw[<-e2];exact h2) hlen' aq hb hm2 (fun st' h'=>by rw[List.length_append];exact h st' h')
theorem mmake{T e k sz c:Nat}{l m:Operand}{z:List D}(h:∀i,O i=none->mOK O sz (some (i,c,(List.replicate (c-k) z).flatten)) (List.replicate k z)->DOps prog ro n ops Q rest ⟨(t,.sref i 0 k c)::γ,mS O (some (i,c,(List.replicate (c-k) z).flatten)) (List.replicate k z),df⟩)
  (hl:A0 γ (A5 [l,m])=some Sr:=by exact tdR) (hk:(tab T).k=.slice e:=by(simp<;>rfl)) (he:A1 (tab e).k=false:=by simp) (hsz:(tab e).size=sz:=by(simp<;>rfl)) (h0:0<sz:=by decide) (hz:(tab e).zero=z:=by(simp<;>rfl))
  (h1:ev Sr l=.int .i64 k:=by exact tdR) (h2:ev Sr m=.int .i64 c:=by exact tdR) (ap:k<=c:=by first|exact Nat.le_refl _|omega) (hb:c*(tab e).bytes<=140737488355328:=by first|(simp;done)|(simp;omega)) (hm:c<=9223372036854775807:=by omega) (aa:decide (t<n)=true:=by exact tdR) :
  DOps prog ro n ops Q (⟨some t,.makeSlice T l m,ty,pos,after,none⟩::rest) ⟨γ,O,df⟩:=by
 obtain⟨e1,e2⟩:=evs hl
 exact PK Ac (by simpa using aa) hk he hsz h0 hz (by rw[<-e1];exact h1) (by rw[<-e2];exact h2) ap hb hm h
theorem mfr(k:Nat){l:List Oper}{sz:Nat}{st:MR}{es:List (List D)}(h:DOps P ro n ops Q l ⟨(k,.slice es .no)::γ,O,df⟩)(hm:mOK O sz st es:=by assumption)(hk:getD γ k=mD st es.length:=by first|exact Ar tdR|(simp[getD,List.lookup];done)):DOps P ro n ops Q l ⟨γ,mS O st es,df⟩:=
 C4 (OO hm hk) h
theorem bldZ{T len e:Nat}{z:List D}(h:DOps prog ro n ops Q rest ⟨(t,.agg z)::γ,O,df⟩)(hk:(tab T).k=.array len e:=by exact tdR)(he:A1 (tab e).k=false:=by simp)(hz:(tab T).zero=z:=by(simp<;>rfl))(aa:decide (t<n)=true:=by exact tdR):DOps prog ro n ops Q (⟨some t,.build T #[],ty,pos,after,none⟩::rest) ⟨γ,O,df⟩:=by
 subst hz;exact Nz Ac (by simpa using aa) hk he h
theorem mfrC(xs ys:List D){i:Nat}{l:List Oper}{sz:Nat}{st:MR}{es:List (List D)}(h:DOps P ro n ops Q l ⟨γ,O.set i (.cells (xs ++ .slice es .no::ys)),df⟩)(hi:O i=some (.cells (xs++mD st es.length::ys)):=by first|exact w6 .. |(simp;done))(hm:mOK O sz st es:=by assumption):DOps P ro n ops Q l ⟨γ,mS O st es,df⟩:=
 C4 (MU hm hi) h
theorem celW(xs ys:List D)(d d':D){i:Nat}{l:List Oper}(h:DOps P ro n ops Q l ⟨γ,O.set i (.cells (xs++d'::ys)),df⟩)(hi:O i=some (.cells (xs++d::ys)):=by first|exact w6 .. |(simp;done))(hw:WkD d d'):DOps P ro n ops Q l ⟨γ,O,df⟩:=
 C4 (EB hi hw) h
theorem cfr(k:Nat){l:List Oper}{i:Nat}{m:List (D×D)}(hi:O i=some (.map m))(h:DOps P ro n ops Q l ⟨(k,.cmap (m.map (·.1)) (m.map (·.2)))::γ,O.del i,df⟩)(hk:getD γ k=.map i:=by exact Ar tdR):DOps P ro n ops Q l ⟨γ,O,df⟩:=
 C4 (MV hi hk) h
theorem ent{i:Nat}{x:Operand}{left:List (D×D)}{k v:D}(h:DOps P ro n ops Q rest ⟨(t,.tup [k,v])::γ,O,df⟩)(hi:O i=some (.iter left (some (k,v))):=by first|exact w6 .. |simp)
  (hl:A0 γ (A5 [x])=some Sr:=by exact tdR) (hx:ev Sr x=.obj i:=by exact tdR) (aa:decide (t<n)=true:=by exact tdR) :
  DOps P ro n ops Q (⟨some t,.entry x,ty,pos,after,none⟩::rest) ⟨γ,O,df⟩:=
 PM (by simpa using aa) (by rw[<-BY hl];exact hx) hi h
theorem boxV{T:Nat}{x:Operand}{cs:List D}(h:∀i,O i=none->DOps P ro n ops Q rest ⟨(t,.ptr i 0)::γ,O.set i (.cells cs),df⟩)(hl:A0 γ (A5 [x])=some Sr:=by exact tdR)(hd:ev Sr x=d:=by(simp<;>with_unfolding_all rfl))(hc:d.cells=cs:=by(simp<;>with_unfolding_all rfl))(ht:d.told=true:=by exact tdR)(aa:decide (t<n)=true:=by exact tdR):
  DOps P ro n ops Q (⟨some t,.box T x,ty,pos,after,none⟩::rest) ⟨γ,O,df⟩:=by
 subst hc hd;rw[BY hl]at ht h;exact dops_box ht (by simpa using aa) h
theorem finCE{fn:Func}{R:DE->Sig->Prop}{U':Sig}{ds:List D}(h:resL tab O γ fn.results.toList=some ds)(hR:R (.ret (NX ds)) U')(hU:Sub U' O:=by first|exact Sub.refl _|(refine Df ?_;simp;done)|assumption|exact(Sub.refl _).set (by assumption)):Dr prog n fn R .ret ⟨γ,O,[]⟩:=IN Ac h (A8 _) hU hR
theorem finC{fn:Func}{R:DE->Sig->Prop}{U':Sig}{ds:List D}{d:D}(hR:R (.ret d) U')(h:resL tab O γ fn.results.toList=some ds:=by(simp[resL];with_unfolding_all rfl))(hw:WkD (NX ds) d:=by exact tdW)(hU:Sub U' O:=by first|exact Sub.refl _|(refine Df ?_;simp;done)|assumption|exact(Sub.refl _).set (by assumption)):Dr prog n fn R .ret ⟨γ,O,[]⟩:=IN Ac h hw hU hR
theorem mixL{lo:List Oper}{id:Nat}(ord E:List Nat){lp:List (Bool×Oper)}{ol:Oper}(h:MO prog ro n lo.toArray 431 O (Then (fun s=>DOps prog ro n lo.toArray Q [ol] s) Q) df lp γ O)(hB:Iq lo.toArray E ord=true:=by kernel_rfl)(ak:nthO lo (lo.length-1)=some ol:=by exact tdR)(hl:If lo E ord=some lp:=by exact tdR):DWp prog ro n (.region id lo.toArray true) Q ⟨γ,O,df⟩:=
 OA Ab mixed ord E O hB ak (Sub.refl _) hl h
theorem mo1{op:Op}{l:List (Bool×Oper)}(h:∀U2,(∀x∈op.operands,ev U2 x=ev γ x)->DOps P ro n ops (EQ df (some t) (fun d U'=>Sub S0 U'/\MO P ro n ops N S0 Q df l ((t,d)::γ) U') (fun d U'=> ∀V',Q (.panic d) ⟨V',U',df⟩)) [⟨some t,op,ty,pos,after,none⟩] ⟨U2,O,df⟩)(aa:decide (t<n)=true:=by exact tdR):
  MO P ro n ops N S0 Q df ((true,⟨some t,op,ty,pos,after,none⟩)::l) γ O:=
 mo_eff (o:=⟨some t,op,ty,pos,after,none⟩) aa rfl rfl (h _ fun _ hx=>Bo (o:=⟨some t,op,ty,pos,after,none⟩) hx)
theorem Hg{U2:Fr}{s x:Operand}{T T':Nat}(hl:A0 γ (A5 [s,x])=some Sr)(hx:∀y∈((cA s x T T')).operands,ev U2 y=ev γ y):ev U2 s=ev Sr s/\ev U2 x=ev Sr x:=by
 obtain⟨e1,e2⟩:=evs hl
 exact⟨by rw[hx s (by simp[Op.operands,Call.operands]),e1],by rw[hx x (by simp[Op.operands,Call.operands]),e2]⟩
theorem moAppC{s x:Operand}{T T' e e':Nat}{es new:List (List D)}{l:List (Bool×Oper)}(h:∀i,O i=none->MO prog ro n ops N S0 Q df l ((t,.slice (es++new) (.tag i))::γ) (O.set i (.tail (tab e).size (es.length+new.length))))(hl:A0 γ (A5 [s,x])=some Sr:=by exact tdR)(hk:(tab T).k=.slice e:=by(simp<;>rfl))(ae:(tab T').k=.slice e':=by(simp<;>rfl))(he:A1 (tab e).k=false:=by simp)
  (h1:ev Sr s=.slice es .clip:=by exact tdR) (h2:esOf (ev Sr x)=some new:=by(simp<;>with_unfolding_all rfl)) (hne:new≠[]:=by first|assumption|(simp;done)|(simp[cI,cS,cII];assumption))
  (hlen:∀c∈es,c.length=(tab e).size:=by first|exact Cb _|exact E1 _|exact CK _|simp) (hlen':∀c∈new,c.length=(tab e).size:=by first|exact Cb _|exact E1 _|exact CK _|simp)
  (hb:(es.length+new.length)*(tab e).bytes<=140737488355328:=by first|(simp;done)|(simp;omega)) (hm:es.length+new.length<=9223372036854775807:=by first|(simp;done)|(simp;omega)) (aa:decide (t<n)=true:=by exact tdR) (hC:Sub S0 O:=by first|exact Sub.refl _|assumption) :
  MO prog ro n ops N S0 Q df ((true,⟨some t,(cA s x T T'),ty,pos,after,none⟩)::l) γ O:=
 mo1 (fun U2 hx=>by
  obtain⟨e1,e2⟩:=Hg hl hx
  exact Cc Ac rfl (by simpa using aa) hk ae he (by rw[e1];exact h1) (by rw[e2];exact h2) hne hlen hlen' hb hm (fun i hi=>Aw ⟨rfl,by simp only[A6,if_true];exact⟨hC.set (hC.none hi),h i hi⟩⟩)) aa
theorem moAppCW{s x:Operand}{T T' e e':Nat}{es new:List (List D)}{l:List (Bool×Oper)}(h:∀i,O i=none->MO prog ro n ops N S0 Q df l ((t,.slice (es++new) .no)::γ) (O.set i (.tail (tab e).size (es.length+new.length))))(hl:A0 γ (A5 [s,x])=some Sr:=by exact tdR)(hk:(tab T).k=.slice e:=by(simp<;>rfl))(ae:(tab T').k=.slice e':=by(simp<;>rfl))(he:A1 (tab e).k=false:=by simp)
  (h1:ev Sr s=.slice es .clip:=by exact tdR) (h2:esOf (ev Sr x)=some new:=by(simp<;>with_unfolding_all rfl)) (hne:new≠[]:=by first|assumption|(simp;done)|(simp[cI,cS,cII];assumption))
  (hlen:∀c∈es,c.length=(tab e).size:=by first|exact Cb _|exact E1 _|exact CK _|simp) (hlen':∀c∈new,c.length=(tab e).size:=by first|exact Cb _|exact E1 _|exact CK _|simp)
  (hb:(es.length+new.length)*(tab e).bytes<=140737488355328:=by first|(simp;done)|(simp;omega)) (hm:es.length+new.length<=9223372036854775807:=by first|(simp;done)|(simp;omega)) (aa:decide (t<n)=true:=by exact tdR) (hC:Sub S0 O:=by first|exact Sub.refl _|assumption) :
  MO prog ro n ops N S0 Q df ((true,⟨some t,(cA s x T T'),ty,pos,after,none⟩)::l) γ O:=
 mo1 (fun U2 hx=>by
  obtain⟨e1,e2⟩:=Hg hl hx
  exact Cc Ac rfl (by simpa using aa) hk ae he (by rw[e1];exact h1) (by rw[e2];exact h2) hne hlen hlen' hb hm (fun i hi=>C4 (BF (t:=t) (d:=.slice (es++new) .no) (by simp only[A6,if_true];exact Bv _ _)) (Aw ⟨rfl,by simp only[A6,if_true];exact⟨hC.set (hC.none hi),h i hi⟩⟩))) aa
theorem moApp0{s x:Operand}{T T' e e':Nat}{es:List (List D)}{l:List (Bool×Oper)}(h:MO prog ro n ops N S0 Q df l ((t,d)::γ) O)(hl:A0 γ (A5 [s,x])=some Sr:=by exact tdR)(hk:(tab T).k=.slice e:=by(simp<;>rfl))(ae:(tab T').k=.slice e':=by(simp<;>rfl))(he:A1 (tab e).k=false:=by simp)(hd:ev Sr s=d:=by exact tdR)
  (h1:esOf d=some es:=by exact tdR) (h2:esOf (ev Sr x)=some []:=by first|with_unfolding_all rfl|(simp_all;done)) (aa:decide (t<n)=true:=by exact tdR) (hC:Sub S0 O:=by first|exact Sub.refl _|assumption) :
  MO prog ro n ops N S0 Q df ((true,⟨some t,(cA s x T T'),ty,pos,after,none⟩)::l) γ O:=
 mo1 (fun U2 hx=>by
  obtain⟨e1,e2⟩:=Hg hl hx
  refine Ex Ac rfl (by simpa using aa) hk ae he (by rw[e1,hd];exact h1) (by rw[e2];exact h2) (Aw ⟨rfl,?_⟩)
  simp only[A6,if_true,e1,hd]
  exact⟨hC,h⟩) aa
theorem Io{T:Nat}{z:List D}{l:List (Bool×Oper)}(h:∀i,O i=none->MO prog ro n ops N S0 Q df l ((t,.ptr i 0)::γ) (O.set i (.cells z)))(hk:A1 (tab T).k=false:=by simp)(hz:(tab T).zero=z:=by(simp<;>rfl))(aa:decide (t<n)=true:=by exact tdR)(hC:Sub S0 O:=by first|exact Sub.refl _|assumption):
  MO prog ro n ops N S0 Q df ((true,⟨some t,.alloc T,ty,pos,after,none⟩)::l) γ O:=by
 subst hz
 exact mo1 (fun U2 hx=>E0 Ac hk (by simpa using aa) (fun i hi=>Aw ⟨rfl,by simp only[A6,if_true];exact⟨hC.set (hC.none hi),h i hi⟩⟩)) aa
theorem moEffW{op:Op}(d':D){U':Sig}{l:List (Bool×Oper)}(h:MO prog ro n ops N S0 Q df l ((t,d')::γ) U')(hl:A0 γ (A5 op.operands.toList)=some Sr:=by exact tdR)(he:eopD tab Sr O op=some (d,U'):=by(simp(disch:=first|omega|assumption) [As,big1,big2,w7]<;>first|rfl|(and_intros<;>rfl)|(and_intros<;>first|rfl|omega)))(hw:WkD d d':=by exact tdW)(aa:decide (t<n)=true:=by exact tdR)(hC:Sub S0 U':=by first|exact Sub.refl _|assumption|exact(Sub.refl _).set (by assumption)|exact((Sub.refl _).set (by assumption)).set (by assumption)):
  MO prog ro n ops N S0 Q df ((true,⟨some t,op,ty,pos,after,none⟩)::l) γ O:=
 mo1 (fun U2 hx=>by
  refine Fo Ac rfl (by rw[Bp (V':=γ) hx];exact(Bp (C3 hl)) ▸ he) aa (C4 (BF (t:=t) (d:=d') (by simp only[putD,A6,if_true];exact hw)) (Aw ⟨rfl,?_⟩))
  simp only[A6,if_true]
  exact⟨hC,h⟩) aa
theorem Vm{P:Program}{n:Nat}{γ:Fr}{O U':Sig}{df:List DDf}(hU:Sub U' O):Wk P n ⟨γ,O,df⟩ ⟨γ,U',df⟩:=
 fun g w a hs=>⟨g,.refl g,⟨hs.sim.sub hU,hs.tmps,hs.df⟩⟩
theorem drp{l:List Oper}(U':Sig)(h:DOps P ro n ops Q l ⟨γ,U',df⟩)(hU:Sub U' O:=by first|exact Sub.refl _|(refine Df ?_;simp;done)|assumption|exact(Sub.refl _).set (by assumption)):DOps P ro n ops Q l ⟨γ,O,df⟩:=C4 (Vm hU) h
theorem rtl{l:List Oper}(k:Nat)(d':D)(h:DOps P ro n ops Q l ⟨(k,d')::γ,O,df⟩)(hw:WkD (getD γ k) d':=by exact tdW):DOps P ro n ops Q l ⟨γ,O,df⟩:=C4 (BF hw) h
theorem EP{lo:List Oper}{id:Nat}(ord E:List Nat)(S0:Sig){lp:List (Bool×Oper)}{ol:Oper}(hC:Sub S0 O)(h:MO prog ro n lo.toArray 431 S0 (Then (fun s=>DOps prog ro n lo.toArray Q [ol] s) Q) df lp γ O)(hB:Iq lo.toArray E ord=true:=by kernel_rfl)(ak:nthO lo (lo.length-1)=some ol:=by exact tdR)(hl:If lo E ord=some lp:=by exact tdR):DWp prog ro n (.region id lo.toArray true) Q ⟨γ,O,df⟩:=
 OA Ab mixed ord E S0 hB ak hC hl h
theorem yldW{fop:Operand}{args:Array Operand}{ats:Array TypeId}{l:Nat}{us:List D}{R:DE->Sig->Prop}{dst:Option Tmp}(h:DYield P l us O R)(ag:∀d U',R (.ret d) U'->DOps P ro n ops Q rest ⟨putD dst d γ,U',df⟩)(ah:∀d U',R (.panic d) U'->Q (.panic d) ⟨γ,U',df⟩)
  (hl:A0 γ (A5 (fop::args.toList))=some Sr:=by exact tdR) (hf:ev Sr fop=.yld l:=by exact tdR) (ha:args.toList.map (ev Sr)=us:=by exact td0)
  (ho:Ap n ⟨dst,(cv fop args ats),ty,pos,after,none⟩=true:=by exact tdR) :
  DOps P ro n ops Q (⟨dst,(cv fop args ats),ty,pos,after,none⟩::rest) ⟨γ,O,df⟩:=by
 have hx:∀x∈fop::args.toList,ev Sr x=ev γ x:=fun x hx=>B9 fun t ht=>At hl t (Az (by rw[<-ht];exact hx))
 refine PI rfl (by rw[<-hx fop (by simp)];exact hf) ?_ ho ag ah
 rw[show args.toList.map (ev γ)=args.toList.map (ev Sr) from List.map_congr_left fun x h=>(hx x (by simp[h])).symm,ha]
 exact h
end
def hitD(tab:Nat->Ty)(e:Nat)(c:Bool):Option (Option (Nat×D))->Option D
 |some (some (_,d))=>some (if c then .tup [d,.bool true] else d)
 |some none=>match Hu (tab e)with
  |some z=>some (if c then .tup [z,.bool false] else z)
  |none=>none
 |none=>none
@[simp high] theorem lookupD_h {tab:Nat->Ty} {O:Sig} {c:Bool} {T e:Nat} {x d:D}:FM tab O c (.map T e) x d=if A1 (tab e).k || !Bg (tab T).k d then none else match BZ O x with
  |some l=>hitD tab e c (C9 (tab T).k d l 0)
  |none=>none:=by
 rw[R8]
 by_cases hc:(A1 (tab e).k||!Bg (tab T).k d)=true
 ·rw[if_pos hc,if_pos hc]
 ·rw[if_neg hc,if_neg hc]
  cases BZ O x with
  |none=>rfl
  | some l =>
   cases h:C9 (tab T).k d l 0 with
   |none=>simp only[h];rfl
   |some r=>cases r with
    |none=>simp only[h];rfl
    |some p=>simp only[h];rfl
@[simp] theorem hitD_some(tab:Nat->Ty)(e i:Nat)(c:Bool)(d:D):hitD tab e c (some (some (i,d)))=some (if c then .tup [d,.bool true] else d):=rfl
def ins{α:Type}[DecidableEq α](k:α)(s:List α):List α:=if k∈s then s else s++[k]
def getM{α β:Type}[DecidableEq α](z:β)(k:α):List (α×β)->β
 |[]=>z
 |(k',v)::r=>if k=k' then v else getM z k r
def hasM{α β:Type}[DecidableEq α](k:α):List (α×β)->Bool
 |[]=>false
 |(k',_)::r=>decide (k=k')||hasM k r
def putM{α β:Type}[DecidableEq α](k:α)(v:β):List (α×β)->List (α×β)
 |[]=>[(k,v)]
 |(k',v')::r=>if k=k' then(k,v)::r else(k',v')::putM k v r
theorem Em{α β:Type}[DecidableEq α](z:β)(k x:α)(v:β): ∀m:List (α×β),getM z x (putM k v m)=if x=k then v else getM z x m
 |[]=>by simp[putM,getM]
 | (k',v')::r=>by
  by_cases h:k=k'
  ·subst h;rw[putM,if_pos rfl,getM];by_cases hx:x=k<;>simp[hx,getM]
  ·rw[putM,if_neg h,getM,Em z k x v r]
   by_cases hx:x=k'
   ·rw[if_pos hx,if_neg (fun e=>h (e.symm.trans hx)),getM,if_pos hx]
   ·rw[if_neg hx,getM,if_neg hx]
theorem Gl{α β:Type}[DecidableEq α](k x:α)(v:β): ∀m:List (α×β),hasM x (putM k v m)=(decide (x=k)||hasM x m)
 |[]=>by simp[putM,hasM]
 | (k',v')::r=>by
  by_cases h:k=k'
  ·subst h;rw[putM,if_pos rfl,hasM,hasM];cases decide (x=k)<;>simp
  ·rw[putM,if_neg h,hasM,Gl k x v r,hasM]
   cases decide (x=k')<;>cases decide (x=k)<;>simp
section
def eM{α β:Type}(kf:α->D)(f:β->D)(m:List (α×β)):List (D×D):=m.map fun p=>(kf p.1,f p.2)
def eS{α:Type}(kf:α->D)(s:List α):List (D×D):=s.map fun k=>(kf k,.bool true)
structure KeyOK{α:Type}[DecidableEq α](kt:TyK)(kf:α->D):Prop where
 key:∀a b:α,keyB kt (kf a) (kf b)=some (decide (a=b))
theorem keyI:KeyOK (.int .i64) dI:=⟨fun a b=>by simp[keyB,Et]⟩
theorem keyS:KeyOK .str D.str:=⟨fun a b=>by simp[keyB,Et]⟩
variable {α β:Type}[DecidableEq α]{kt:TyK}{kf:α->D}(hk:KeyOK kt kf)
include hk
theorem Nq(k:α): ∀(s:List α) (i:Nat),(k∈s->∃j,C9 kt (kf k) (eS kf s) i=some (some (i+j,.bool true))/\s[j]? = some k)/\(k∉s->C9 kt (kf k) (eS kf s) i=some none)
 |[],i=>by simp[eS,C9]
 | x::s,i=>by
  obtain⟨h1,h2⟩:=Nq k s (i+1)
  simp only[eS]at h1 h2
  simp only[eS,List.map_cons,C9,hk.key]
  by_cases h:k=x
  ·subst h
   simp only[decide_true]
   exact⟨fun _=>⟨0,rfl,rfl⟩,fun h=>absurd (by simp) h⟩
  ·have e:decide (k=x)=false:=by simp[h]
   simp only[e]
   refine⟨fun hm=>?_,fun hm=>h2 fun aj=>hm (by simp[aj])⟩
   obtain⟨j,a,b⟩:=h1 ((List.mem_cons.1 hm).resolve_left h)
   exact⟨j+1,by rw[a];congr 3;omega,by simpa using b⟩
theorem hit_eS{tab:Nat->Ty}{e:Nat}(hz:Hu (tab e)=some (.bool false))(k:α)(s:List α):hitD tab e false (C9 kt (kf k) (eS kf s) 0)=some (.bool (decide (k∈s))):=by
 obtain⟨h1,h2⟩:=Nq hk k s 0
 by_cases h:k∈s
 ·obtain⟨j,a,_⟩:=h1 h;rw[a];simp[h]
 ·rw[h2 h];simp only[hitD,hz,Bool.false_eq_true,if_false,h,decide_false]
theorem put_eS(k:α)(s:List α):Cu kt (kf k) (.bool true) (eS kf s)=some (eS kf (ins k s)):=by
 obtain⟨h1,h2⟩:=Nq hk k s 0
 unfold Cu ins
 by_cases h:k∈s
 ·obtain⟨j,a,b⟩:=h1 h
  rw[a,if_pos h]
  simp only[Nat.zero_add,Option.some.injEq]
  apply List.ext_getElem?
  intro i
  rw[List.getElem?_set]
  by_cases hi:j=i
  ·subst hi
   have am:j<s.length:=(List.getElem?_eq_some_iff.1 b).1
   have hb:s[j]=k:=by rw[List.getElem?_eq_getElem am]at b;exact Option.some.inj b
   simp[eS,am,hb]
  ·rw[if_neg hi]
 ·rw[h2 h,if_neg h];simp[eS]
theorem IF(f:β->D)(k:α): ∀(m:List (α×β)) (i:Nat),(hasM k m=true->∃j v,C9 kt (kf k) (eM kf f m) i=some (some (i+j,f v))/\(∀z,getM z k m=v) /\ ∀w,(eM kf f m).set j (kf k,f w)=eM kf f (putM k w m)) /\
  (hasM k m=false->C9 kt (kf k) (eM kf f m) i=some none/\(∀z,getM z k m=z) /\ ∀w,eM kf f m++[(kf k,f w)]=eM kf f (putM k w m))
 |[],i=>by simp[eM,C9,hasM,getM,putM]
 | (x,y)::m,i=>by
  obtain⟨h1,h2⟩:=IF f k m (i+1)
  simp only[eM]at h1 h2
  simp only[eM,List.map_cons,C9,hk.key,hasM]
  by_cases h:k=x
  ·subst h
   simp only[decide_true,Bool.true_or]
   refine⟨fun _=>⟨0,y,rfl,fun z=>by simp[getM],fun w=>by simp[putM]⟩,fun h=>by cases h⟩
  ·have e:decide (k=x)=false:=by simp[h]
   simp only[e,Bool.false_or]
   refine⟨fun hm=>?_,fun hm=>?_⟩
   ·obtain⟨j,v,a,b,c⟩:=h1 hm
    refine⟨j+1,v,by rw[a];congr 3;omega,fun z=>by rw[getM,if_neg h];exact b z,fun w=>?_⟩
    rw[putM,if_neg h,List.map_cons,List.set_cons_succ,c w]
   ·obtain⟨a,b,c⟩:=h2 hm
    refine⟨a,fun z=>by rw[getM,if_neg h];exact b z,fun w=>?_⟩
    rw[putM,if_neg h,List.map_cons,List.cons_append,c w]
theorem Vx{tab:Nat->Ty}{e:Nat}{z:β}{zd:D}(f:β->D)(hz:Hu (tab e)=some zd)(k:α)(m:List (α×β)):hitD tab e false (C9 kt (kf k) (eM kf f m) 0)=some (if hasM k m then f (getM z k m) else zd):=by
 obtain⟨h1,h2⟩:=IF hk f k m 0
 cases h:hasM k m with
 |true=>obtain⟨j,v,a,b,_⟩:=h1 h;rw[a,b z];simp
 |false=>obtain⟨a,b,_⟩:=h2 h;rw[a];simp only[hitD,hz,Bool.false_eq_true,if_false]
theorem Rj{tab:Nat->Ty}{e:Nat}{z:β}(f:β->D)(hz:Hu (tab e)=some (f z))(k:α)(m:List (α×β)):hitD tab e false (C9 kt (kf k) (eM kf f m) 0)=some (f (getM z k m)):=by
 obtain⟨h1,h2⟩:=IF hk f k m 0
 cases h:hasM k m with
 |true=>obtain⟨j,v,a,b,_⟩:=h1 h;rw[a,b z];simp
 |false=>obtain⟨a,b,_⟩:=h2 h;rw[a,b z];simp only[hitD,hz,Bool.false_eq_true,if_false,if_true]
theorem KU{tab:Nat->Ty}{e:Nat}{z:β}(f:β->D)(hz:Hu (tab e)=some (f z))(k:α)(m:List (α×β)):hitD tab e true (C9 kt (kf k) (eM kf f m) 0)=some (.tup [f (getM z k m),.bool (hasM k m)]):=by
 obtain⟨h1,h2⟩:=IF hk f k m 0
 cases h:hasM k m with
 |true=>obtain⟨j,v,a,b,_⟩:=h1 h;rw[a,b z];simp
 |false=>obtain⟨a,b,_⟩:=h2 h;rw[a,b z];simp only[hitD,hz,Bool.false_eq_true,if_false,if_true]
theorem LE(f:β->D)(k:α)(v:β)(m:List (α×β)):Cu kt (kf k) (f v) (eM kf f m)=some (eM kf f (putM k v m)):=by
 obtain⟨h1,h2⟩:=IF hk f k m 0
 unfold Cu
 cases h:hasM k m with
 |true=>obtain⟨j,w,a,_,c⟩:=h1 h;rw[a];simp only[Nat.zero_add];rw[c v]
 |false=>obtain⟨a,_,c⟩:=h2 h;rw[a];simp only;rw[c v]
end
def eSI(s:List Int):List (D×D):=eS dI s
def eSN(m:List (Str×Int)):List (D×D):=eM D.str dI m
def eIN(m:List (Int×Int)):List (D×D):=eM dI dI m
@[simp] theorem hitI4(k:Int)(s:List Int):hitD tab 4 false (C9 (.int .i64) (.int .i64 k) (eSI s) 0)=some (.bool (decide (k∈s))):=hit_eS keyI rfl k s
@[simp] theorem putI4(k:Int)(s:List Int):Cu (.int .i64) (.int .i64 k) (.bool true) (eSI s)=some (eSI (ins k s)):=put_eS keyI k s
@[simp] theorem putSN(k:Str)(v:Int)(m:List (Str×Int)):Cu .str (.str k) (.int .i64 v) (eSN m)=some (eSN (putM k v m)):=LE keyS dI k v m
@[simp] theorem hitINok(k:Int)(m:List (Int×Int)):hitD tab 3 true (C9 (.int .i64) (.int .i64 k) (eIN m) 0)=some (.tup [.int .i64 (getM 0 k m),.bool (hasM k m)]):=KU keyI dI rfl k m
@[simp] theorem putIN(k v:Int)(m:List (Int×Int)):Cu (.int .i64) (.int .i64 k) (.int .i64 v) (eIN m)=some (eIN (putM k v m)):=LE keyI dI k v m
def eIO(m:List (Int×List Int)):List (D×D):=eM dI (fun l=>sl (cI l)) m
@[simp] theorem putIO(k:Int)(v:List Int)(m:List (Int×List Int)):Cu (.int .i64) (.int .i64 k) (sl (cI v)) (eIO m)=some (eIO (putM k v m)):=LE keyI (fun l=>sl (cI l)) k v m
theorem Us(k:Int)(m:List (Int×List Int)):hitD tab 23 false (C9 (.int .i64) (.int .i64 k) (eIO m) 0)=some (if hasM k m then sl (cI (getM [] k m)) else .nils):=Vx keyI _ rfl k m
section
variable {P:Program}{ro:Ro}{n:Nat}{Q:DX->St->Prop}{df:List DDf}{γ:List (Nat×D)}{O:Sig}
theorem Nf{Sk:Fr}{α β δ ε:Type}{c:Code}(keep:List Nat)(I:α->β->δ->ε->Prop)(ov:α->β->δ->ε->Fr)(sg:α->β->δ->ε->Sig)(μ:α->β->δ->ε->Nat)(x0:α)(y0:β)(z0:δ)(u0:ε)(h0:I x0 y0 z0 u0)
  (round:∀x y z u,I x y z u->DWp P ro n c (Then (fun s'=> ∃x' y' z' u',I x' y' z' u'/\μ x' y' z' u'<μ x y z u/\Wk P n s' ⟨ov x' y' z' u'++Sk,sg x' y' z' u',df⟩) Q) ⟨ov x y z u++Sk,sg x y z u,df⟩) (hk:Dj γ keep=some Sk:=by exact tdR) (h1:TellsR γ (ov x0 y0 z0 u0++Sk):=by(first|refine FW ?_ ?_|skip)<;>(repeat' first|exact FV|refine Fd tdR ?_ ?_|(first|exact A8 _|exact Bv _ _|exact An _ (.inl rfl)|exact E5 _|(refine HM _ ?_;first|omega|(simp;done)|(simp;omega))|(refine Cq ?_;(simp;done))|(refine Cq ?_;(simp[cI,cS,cII,Fp,Fb,GK];done))|(refine DM _ ?_;(simp[cI,cS,cII];done))|(refine Cq ?_;(simp_all;done))|assumption))) (h2:Sub (sg x0 y0 z0 u0) O:=by first|exact Sub.refl _|(refine Df ?_;simp;done)|assumption|exact(Sub.refl _).set (by assumption)):DWp P ro n (.loop c) Q ⟨γ,O,df⟩:=by
 refine F6 (α:=α×β×δ×ε) keep (fun x=>I x.1 x.2.1 x.2.2.1 x.2.2.2) (fun x=>ov x.1 x.2.1 x.2.2.1 x.2.2.2) (fun x=>sg x.1 x.2.1 x.2.2.1 x.2.2.2) (fun x=>μ x.1 x.2.1 x.2.2.1 x.2.2.2) (x0,y0,z0,u0) hk h0 h1 h2 fun x hx=>Fm (round x.1 x.2.1 x.2.2.1 x.2.2.2 hx) ?_
 intro e s h
 cases e with
 |normal=>obtain⟨x',y',z',u',h3,h4,h5⟩:=h;exact⟨(x',y',z',u'),h3,h4,h5⟩
 |_=>exact h
theorem loop5{Sk:Fr}{α β δ ε ζ:Type}{c:Code}(keep:List Nat)(I:α->β->δ->ε->ζ->Prop)(ov:α->β->δ->ε->ζ->Fr)(sg:α->β->δ->ε->ζ->Sig)(μ:α->β->δ->ε->ζ->Nat)(x0:α)(y0:β)(z0:δ)(u0:ε)(v0:ζ)(h0:I x0 y0 z0 u0 v0)
  (round:∀x y z u v,I x y z u v->DWp P ro n c (Then (fun s'=> ∃x' y' z' u' v',I x' y' z' u' v'/\μ x' y' z' u' v'<μ x y z u v/\Wk P n s' ⟨ov x' y' z' u' v'++Sk,sg x' y' z' u' v',df⟩) Q) ⟨ov x y z u v++Sk,sg x y z u v,df⟩) (hk:Dj γ keep=some Sk:=by exact tdR) (h1:TellsR γ (ov x0 y0 z0 u0 v0++Sk):=by(first|refine FW ?_ ?_|skip)<;>(repeat' first|exact FV|refine Fd tdR ?_ ?_|(first|exact A8 _|exact Bv _ _|exact An _ (.inl rfl)|exact E5 _|(refine HM _ ?_;first|omega|(simp;done)|(simp;omega))|(refine Cq ?_;(simp;done))|(refine Cq ?_;(simp[cI,cS,cII,Fp,Fb,GK];done))|(refine DM _ ?_;(simp[cI,cS,cII];done))|(refine Cq ?_;(simp_all;done))|assumption))) (h2:Sub (sg x0 y0 z0 u0 v0) O:=by first|exact Sub.refl _|(refine Df ?_;simp;done)|assumption|exact(Sub.refl _).set (by assumption)):DWp P ro n (.loop c) Q ⟨γ,O,df⟩:=by
 refine F6 (α:=α×β×δ×ε×ζ) keep (fun x=>I x.1 x.2.1 x.2.2.1 x.2.2.2.1 x.2.2.2.2) (fun x=>ov x.1 x.2.1 x.2.2.1 x.2.2.2.1 x.2.2.2.2) (fun x=>sg x.1 x.2.1 x.2.2.1 x.2.2.2.1 x.2.2.2.2) (fun x=>μ x.1 x.2.1 x.2.2.1 x.2.2.2.1 x.2.2.2.2) (x0,y0,z0,u0,v0) hk h0 h1 h2 fun x hx=>Fm (round x.1 x.2.1 x.2.2.1 x.2.2.2.1 x.2.2.2.2 hx) ?_
 intro e s h
 cases e with
 |normal=>obtain⟨x',y',z',u',v',h3,h4,h5⟩:=h;exact⟨(x',y',z',u',v'),h3,h4,h5⟩
 |_=>exact h
variable {ops:Array Oper}{rest:List Oper}{Sr:List (Nat×D)}{t:Nat}{ty:TypeId}{pos:String}{after:Array Edge}
theorem newSI{T:Nat}(h:∀i,O i=none->DOps prog ro n ops Q rest ⟨(t,.map i)::γ,O.set i (.map (eSI [])),df⟩)(aa:decide (t<n)=true:=by exact tdR):DOps prog ro n ops Q (⟨some t,.makeMap T none,ty,pos,after,none⟩::rest) ⟨γ,O,df⟩:=newM h aa
theorem newSN{T:Nat}(h:∀i,O i=none->DOps prog ro n ops Q rest ⟨(t,.map i)::γ,O.set i (.map (eSN [])),df⟩)(aa:decide (t<n)=true:=by exact tdR):DOps prog ro n ops Q (⟨some t,.makeMap T none,ty,pos,after,none⟩::rest) ⟨γ,O,df⟩:=newM h aa
theorem newIN{T:Nat}(h:∀i,O i=none->DOps prog ro n ops Q rest ⟨(t,.map i)::γ,O.set i (.map (eIN [])),df⟩)(aa:decide (t<n)=true:=by exact tdR):DOps prog ro n ops Q (⟨some t,.makeMap T none,ty,pos,after,none⟩::rest) ⟨γ,O,df⟩:=newM h aa
theorem newIO{T:Nat}(h:∀i,O i=none->DOps prog ro n ops Q rest ⟨(t,.map i)::γ,O.set i (.map (eIO [])),df⟩)(aa:decide (t<n)=true:=by exact tdR):DOps prog ro n ops Q (⟨some t,.makeMap T none,ty,pos,after,none⟩::rest) ⟨γ,O,df⟩:=newM h aa
theorem lkO{x y:Operand}{i:Nat}{k:Int}{m:List (Int×List Int)}(h:DOps prog ro n ops Q rest ⟨(t,sl (cI (getM [] k m)))::γ,O,df⟩)(hi:O i=some (.map (eIO m)):=by first|assumption|(simp;done))
  (hl:A0 γ (A5 [x,y])=some Sr:=by exact tdR) (hx:ev Sr x=.map i:=by exact tdR) (hy:ev Sr y=dI k:=by exact tdR) (aa:decide (t<n)=true:=by exact tdR) :
  DOps prog ro n ops Q (⟨some t,.lookup 354 x y false,ty,pos,after,none⟩::rest) ⟨γ,O,df⟩:=by
 refine FZ (d:=if hasM k m then sl (cI (getM [] k m)) else .nils) Ac rfl aa hl ?_ ?_
 ·simp only[dopX_lk,hx,hy]
  simp[hi,Us]
 ·refine C4 (BF (t:=t) (d:=sl (cI (getM [] k m))) ?_) (C0 (γ:=(t,sl (cI (getM [] k m)))::γ) (fun j=>?_) h)
  ·rw [A6,if_pos rfl]
   cases hh:hasM k m with
   |true=>exact A8 _
   | false =>
    have:getM [] k m=[]:=by
     have key:∀m:List (Int×List Int),hasM k m=false->getM [] k m=[]:=fun m=>by
      induction m with
      |nil=>intro _;rfl
      |cons p m ih=>
       intro h
       simp only[hasM,Bool.or_eq_false_iff,decide_eq_false_iff_not]at h
       rw[getM,if_neg h.1];exact ih h.2
     exact key m hh
    rw[this];exact An _ (.inl rfl)
  ·simp only[A6];split<;>rfl
end
theorem mS_at{O:Sig}{i sz:Nat}{X:DObj}{st:MR}{es:List (List D)}(h:mOK (O.set i X) sz st es):(∀Y,mOK (O.set i Y) sz st es)/\(∀Y,mS (O.set i Y) st es i=some Y) /\ ∀Y Z,(mS (O.set i Y) st es).set i Z=mS (O.set i Z) st es:=by
 cases st with
 |none=>exact⟨fun Y=>h,fun Y=>w6 .., fun Y Z=>w8 ..⟩
 |some x=>
  obtain⟨k,cap,r⟩:=x
  obtain⟨h1,h2,h3,h4⟩:=h
  have ai:k≠i:=fun e=>by rw[e,w6]at h1;cases h1
  rw[w7 _ _ ai]at h1
  refine⟨fun Y=>⟨by rw[w7 _ _ ai];exact h1,h2,h3,h4⟩,fun Y=>?_,fun Y Z=>?_⟩
  ·simp only[mS];rw[w7 _ _ (Ne.symm ai),w6]
  ·simp only[mS];rw[Sig.set_comm _ _ _ (Ne.symm ai),w8];exact Sig.set_comm _ _ _ ai |>.symm ▸ rfl
theorem TD(a b:List Int):cI a++cI b=cI (a++b):=by simp[cI]
section
variable {ro:Ro}{n:Nat}{Q:DX->St->Prop}{df:List DDf}{γ Sr:List (Nat×D)}{O:Sig}{ops:Array Oper}{rest:List Oper}{t:Nat}{ty:TypeId}{pos:String}{after:Array Edge}
theorem mappI{T T' e e':Nat}{s x:Operand}{l m:List Int}{st:MR}(h:∀st',mOK O 1 st' (cI (l++m))->DOps prog ro n ops Q rest ⟨(t,mD st' (l++m).length)::γ,mS O st' (cI (l++m)),df⟩)(hm:mOK O 1 st (cI l):=by assumption)
  (hl:A0 γ (A5 [s,x])=some Sr:=by exact tdR) (hk:(tab T).k=.slice e:=by(simp<;>rfl)) (ae:(tab T').k=.slice e':=by(simp<;>rfl)) (he:A1 (tab e).k=false:=by simp) (hsz:(tab e).size=1:=by simp)
  (h1:ev Sr s=mD st l.length:=by exact tdR) (h2:esOf (ev Sr x)=some (cI m):=by(simp<;>with_unfolding_all rfl))
  (hb:(l.length+m.length)*(tab e).bytes<=140737488355328:=by first|(simp;done)|(simp;omega)) (hm2:l.length+m.length<=9223372036854775807:=by omega) (aa:decide (t<n)=true:=by exact tdR) :
  DOps prog ro n ops Q (⟨some t,(cA s x T T'),ty,pos,after,none⟩::rest) ⟨γ,mS O st (cI l),df⟩:=by
 refine mapp (fun st' aj=>?_) hm hl hk ae he hsz (by rw[h1,MJ]) h2 (Cb _) (by simp[cI,BC,D.flat]) (by simpa using hb) ?_ aa
 ·rw[TD]at aj⊢
  rw[MJ,MJ,<-List.length_append]
  exact h st' aj
 ·simpa using hm2
end
structure ShlOf(k:IntKind)(a b:Int) where
 val:Int
 is:val=k.wrap (a*2 ^ (min b.toNat k.bits))
def shlI(k:IntKind)(a b:Int):ShlOf k a b:=⟨_,rfl⟩
theorem OK(k k':IntKind)(a b:Int)(h:0<=b):binD .shl (.int k a) (.int k' b)=some (.int k (shlI k a b).val):=by
 rw[(shlI k a b).is];simp only[binD,h,if_true]
end Go.DL
