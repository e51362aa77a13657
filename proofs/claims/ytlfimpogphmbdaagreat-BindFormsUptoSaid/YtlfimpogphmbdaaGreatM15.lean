/- Part of the proof that the last text ends. -/
import Derived.Test.YtlfimpogphmbdaaGreatM10
import Derived.Test.YtlfimpogphmbdaaGreatM13
import Derived.Test.YtlfimpogphmbdaaGreatM14
set_option linter.all false
namespace Go.DL
open Go.Proofs.Tryz
open Go Go.Proofs
theorem RB{P:Program}{n:Nat}{O U':Fr}{V:Sig}{df:List DDf}(h:∀t,WkD (getD O t) (getD U' t)):Wk P n { O,V,df } { O:=U',V,df } :=
 fun g w a hs=>⟨g,.refl g,⟨hs.sim,⟨hs.tmps.1,fun t=>h t g _ (hs.tmps.2 t)⟩,hs.df⟩⟩
@[simp] theorem lenD_mD(e:Nat)(st:MR)(n:Nat)(h:st=none->n=0):lenD (.slice e) (mD st n)=some (.int .i64 n):=by
 cases st with
 |none=>obtain rfl:=h rfl;rfl
 |some x=>rfl
theorem go1{F G' G:Prop}(fx:F)(h:G') (hs:VarsAre []->Hold F->G'->G:=by
 intro hv fx hG
 (first
  |(with_reducible first|refine Gv ?_|refine IL ?_|refine Lw ?_|refine HA ?_|refine HR ?_|refine LQ ?_|refine SP (by decide) ?_|refine OA ?_|refine Jn ?_|refine JH ?_|refine JI ?_|refine M9 ?_|refine Ma ?_|refine OJ ?_|refine AL ?_|refine Hs ?_|refine Sq ?_)
  |((with_reducible refine GZ (d := ?_) (Sr := ?_) Ad ?h1 ?h2 ?hl ?hd ?_);(case h1=>rfl);(case h2=>rfl);(case hl=>rfl);(case hd=>simp(disch:=first|omega|assumption) [Ao,big1,big2,w8,Dx,Cu,Dw,Ct,Dy,Dv,Cq,BO,Cp,BN,Cr,Co,FG,fx.get]<;>(try simp only[Bn,Bo,AX,Bm,AC,B0,AZ,AY,AW,AB,AV,AU,AT])<;>first|rfl|(and_intros<;>rfl)))
  |((with_reducible refine HD (d := ?_) (k := ?_) (Sr := ?_) Ad ?h1 ?h2 ?hk ?hb ?hl ?hd ?_);(case h1=>rfl);(case h2=>rfl);(case hk=>rfl);(case hb=>rfl);(case hl=>rfl);(case hd=>simp(disch:=first|omega|assumption) [Ao,big1,big2,w8,Dx,Cu,Dw,Ct,Dy,Dv,Cq,BO,Cp,BN,Cr,Co,FG,fx.get]<;>(try simp only[Bn,Bo,AX,Bm,AC,B0,AZ,AY,AW,AB,AV,AU,AT])<;>first|rfl|(and_intros<;>rfl)))
  |((with_reducible refine HE (d := ?_) (Sr := ?_) Ad ?h1 ?hl ?hd ?_);(case h1=>rfl);(case hl=>rfl);(case hd=>simp(disch:=first|omega|assumption) [Ao,big1,big2,w8,Dx,Cu,Dw,Ct,Dy,Dv,Cq,BO,Cp,BN,Cr,Co,FG,fx.get]<;>(try simp only[Bn,Bo,AX,Bm,AC,B0,AZ,AY,AW,AB,AV,AU,AT])<;>first|rfl|(and_intros<;>rfl)))
  |((with_reducible refine Ou (d := ?_) (Sr := ?_) Ad ?h1 ?h2 ?hl ?hd ?_);(case h1=>rfl);(case h2=>rfl);(case hl=>rfl);(case hd=>simp(disch:=first|omega|assumption) [Ao,big1,big2,w8,Dx,Cu,Dw,Ct,Dy,Dv,Cq,BO,Cp,BN,Cr,Co,FG,fx.get]<;>(try simp only[Bn,Bo,AX,Bm,AC,B0,AZ,AY,AW,AB,AV,AU,AT])<;>first|rfl|(and_intros<;>rfl)))
  |((with_reducible refine LK (d := ?_) (k := ?_) (Sr := ?_) Ad ?h1 ?h2 ?hk ?hb ?hl ?hd ?_);(case h1=>rfl);(case h2=>rfl);(case hk=>rfl);(case hb=>rfl);(case hl=>rfl);(case hd=>simp(disch:=first|omega|assumption) [Ao,big1,big2,w8,Dx,Cu,Dw,Ct,Dy,Dv,Cq,BO,Cp,BN,Cr,Co,FG,fx.get]<;>(try simp only[Bn,Bo,AX,Bm,AC,B0,AZ,AY,AW,AB,AV,AU,AT])<;>first|rfl|(and_intros<;>rfl)))
  |((with_reducible refine LL (d := ?_) (Sr := ?_) Ad ?h1 ?hl ?hd ?_);(case h1=>rfl);(case hl=>rfl);(case hd=>simp(disch:=first|omega|assumption) [Ao,big1,big2,w8,Dx,Cu,Dw,Ct,Dy,Dv,Cq,BO,Cp,BN,Cr,Co,FG,fx.get]<;>(try simp only[Bn,Bo,AX,Bm,AC,B0,AZ,AY,AW,AB,AV,AU,AT])<;>first|rfl|(and_intros<;>rfl)))
  |((with_reducible refine IM (k := ?_) Ak ?hk ?hb ?h1 ?h2 ?_);(case hk=>rfl);(case hb=>rfl);(case h1=>rfl);(case h2=>rfl))
  |((with_reducible refine HB (k := ?_) Ak ?hk ?hb ?h1 ?h2 ?_);(case hk=>rfl);(case hb=>rfl);(case h1=>rfl);(case h2=>rfl))
  |((with_reducible refine HC (k := ?_) Ak ?hk ?hb ?h1 ?_);(case hk=>rfl);(case hb=>rfl);(case h1=>rfl))
  |((with_reducible refine Gw (k := ?_) Ak ?hk ?hb ?h1 ?_);(case hk=>rfl);(case hb=>rfl);(case h1=>rfl))
  |((with_reducible refine LH (k := ?_) ?hk ?hb ?h1 ?h2 ?_);(case hk=>rfl);(case hb=>rfl);(case h1=>rfl);(case h2=>rfl))
  |((with_reducible refine LG (k := ?_) ?hk ?hb ?h1 ?h2 ?_);(case hk=>rfl);(case hb=>rfl);(case h1=>rfl);(case h2=>rfl))
  |((with_reducible refine LI (k := ?_) ?hk ?hb ?h1 ?_);(case hk=>rfl);(case hb=>rfl);(case h1=>rfl))
  |((with_reducible refine J8 (k := ?_) ?hk ?hb ?h1 ?_);(case hk=>rfl);(case hb=>rfl);(case h1=>rfl))
  |((with_reducible refine Ly (d := ?_) (S' := ?_) (Sr := ?_) Ad ?hl ?he ?h1 ?_);(case hl=>rfl);(case he=>simp(disch:=first|omega|assumption) [Ao,big1,big2,w8,Dx,Cu,Dw,Ct,Dy,Dv,Cq,BO,Cp,BN,Cr,Co,FG,fx.get]<;>first|rfl|(and_intros<;>rfl));(case h1=>rfl))
  |((with_reducible refine IQ (d := ?_) (S' := ?_) (Sr := ?_) Ad ?hl ?he ?_);(case hl=>rfl);(case he=>simp(disch:=first|omega|assumption) [Ao,big1,big2,w8,Dx,Cu,Dw,Ct,Dy,Dv,Cq,BO,Cp,BN,Cr,Co,FG,fx.get]<;>first|rfl|(and_intros<;>rfl)))
  |((with_reducible refine Ow (d := ?_) (S' := ?_) (Sr := ?_) Ad ?hl ?he ?h1 ?hC ?_);(case hl=>rfl);(case he=>simp(disch:=first|omega|assumption) [Ao,big1,big2,w8,Dx,Cu,Dw,Ct,Dy,Dv,Cq,BO,Cp,BN,Cr,Co,FG,fx.get]<;>first|rfl|(and_intros<;>rfl));(case h1=>rfl);(case hC=>clear hG;first|exact Sub.refl _|assumption|exact(Sub.refl _).set (by assumption)))
  |((with_reducible refine LM (d := ?_) (S' := ?_) (Sr := ?_) Ad ?hl ?he ?hC ?_);(case hl=>rfl);(case he=>simp(disch:=first|omega|assumption) [Ao,big1,big2,w8,Dx,Cu,Dw,Ct,Dy,Dv,Cq,BO,Cp,BN,Cr,Co,FG,fx.get]<;>first|rfl|(and_intros<;>rfl));(case hC=>clear hG;first|exact Sub.refl _|assumption|exact(Sub.refl _).set (by assumption)))
  |((with_reducible refine IN (r := ?_) (Sr := ?_) (xs := ?_) (ys := ?_) (fs := ?_) Ad ?hE ?h1 ?hl ?hx ?hy ?hk ?hd ?_);(case hE=>with_reducible first|exact L5|exact HT);(case h1=>rfl);(case hl=>rfl);(case hx=>rfl);(case hy=>rfl);(case hk=>simp<;>rfl);(case hd=>simp(disch:=first|omega|assumption) [Ao,big1,big2,w8,Dx,Cu,Dw,Ct,Dy,Dv,Cq,BO,Cp,BN,Cr,Co,FG,fx.get]<;>rfl))
  |((with_reducible refine Ov (r := ?_) (Sr := ?_) (xs := ?_) (ys := ?_) (fs := ?_) Ad ?hE ?h1 ?hl ?hx ?hy ?hk ?hd ?_);(case hE=>with_reducible first|exact L5|exact HT);(case h1=>rfl);(case hl=>rfl);(case hx=>rfl);(case hy=>rfl);(case hk=>simp<;>rfl);(case hd=>simp(disch:=first|omega|assumption) [Ao,big1,big2,w8,Dx,Cu,Dw,Ct,Dy,Dv,Cq,BO,Cp,BN,Cr,Co,FG,fx.get]<;>rfl))
  |((with_reducible refine HG (Sr := ?_) ?hl ?hc ?_);(case hl=>rfl);(case hc=>simp(disch:=first|omega|assumption) [Ao,big1,big2,w8,Dx,Cu,Dw,Ct,Dy,Dv,Cq,BO,Cp,BN,Cr,Co,FG,fx.get];done))
  |((with_reducible refine HH (Sr := ?_) ?hl ?hc ?_);(case hl=>rfl);(case hc=>simp(disch:=first|omega|assumption) [Ao,big1,big2,w8,Dx,Cu,Dw,Ct,Dy,Dv,Cq,BO,Cp,BN,Cr,Co,FG,fx.get];done))
  |((with_reducible refine IP (d := ?_) (cs := ?_) (Sr := ?_) hv Ad ?h1 ?h2 ?h3 ?h4 ?h5 ?hl ?he ?h6 ?h7 ?h8 ?h9 ?_);(case h1=>rfl);(case h2=>rfl);(case h3=>rfl);(case h4=>rfl);(case h5=>simp);(case hl=>rfl);(case he=>simp<;>(try simp only[Bn,Bo,AX,Bm,AC,B0,AZ,AY,AW,AB,AV,AU,AT])<;>rfl);(case h6=>rfl);(case h7=>simp<;>(try simp only[Bn,Bo,AX,Bm,AC,B0,AZ,AY,AW,AB,AV,AU,AT])<;>rfl);(case h8=>simp);(case h9=>simp))
  |((with_reducible refine HF (d := ?_) (d2 := ?_) (cs := ?_) (Sr := ?_) (Sr2 := ?_) hv Ad ?h1 ?h2 ?h3 ?h4 ?h5 ?g1 ?g2 ?g3 ?g4 ?gl ?ge ?hl ?he ?h6 ?h7 ?h8 ?h9 ?_);(case h1=>rfl);(case h2=>rfl);(case h3=>rfl);(case h4=>rfl);(case h5=>rfl);(case g1=>rfl);(case g2=>rfl);(case g3=>rfl);(case g4=>simp);(case gl=>rfl);(case ge=>simp<;>(try simp only[Bn,Bo,AX,Bm,AC,B0,AZ,AY,AW,AB,AV,AU,AT])<;>rfl);(case hl=>rfl);(case he=>simp<;>(try simp only[Bn,Bo,AX,Bm,AC,B0,AZ,AY,AW,AB,AV,AU,AT])<;>rfl);(case h6=>rfl);(case h7=>simp<;>(try simp only[Bn,Bo,AX,Bm,AC,B0,AZ,AY,AW,AB,AV,AU,AT])<;>rfl);(case h8=>simp);(case h9=>simp)))
 exact hG):G:=hs ⟨⟩ ⟨fx⟩ h
section
variable {P:Program}{ro:Option Nat}{n:Nat}{ops:Array Oper}{N:Nat}{S0:Sig}{Q:DX->St->Prop}{df:List DDf}{rest:List Oper}{O Sr:List (Nat×D)}{V:Sig}{t:Nat}{ty:TypeId}{pos:String}{after:Array Edge}{l:List (Bool×Oper)}{d:D}
theorem needR{fop:Operand}{args:Array Operand}{ats:Array TypeId}{f:Nat}{first cap us bs:List D}{c:Bool}{u d:D}{dst:Option Tmp}(h:DCall P f bs V fun x S'=>x=(if c then .ret d else .panic u)/\S'=V)(k1:c=true->DOps P ro n ops Q rest ⟨putD dst d O,V,df⟩)(k2:c=false->Q (.panic u) ⟨O,V,df⟩)(hl:A5 O (A9 (fop::args.toList))=some Sr:=by exact tdR)(hf:ev Sr fop=.func (.func f) first cap:=by exact tdR)(ha:first++args.toList.map (ev Sr)++cap=us:=by exact td0)(hp:bs=us:=by exact tdR)
  (ho:At n ⟨dst,(cv fop args ats),ty,pos,after,none⟩=true:=by exact tdR):DOps P ro n ops Q (⟨dst,(cv fop args ats),ty,pos,after,none⟩::rest) ⟨O,V,df⟩:=by
 refine Fs hl hf ha (.inl hp) h ho (fun d' S' hx =>?_) (fun d' S' hx =>?_)
 all_goals obtain⟨hx,rfl⟩:=hx;cases c<;>simp only[Bool.false_eq_true,if_true,if_false,DE.ret.injEq,DE.panic.injEq,reduceCtorEq]at hx
 ·subst hx;exact k1 rfl
 ·subst hx;exact k2 rfl
theorem moNeedR{fop:Operand}{args:Array Operand}{ats:Array TypeId}{f:Nat}{first cap us bs:List D}{c:Bool}{u d:D}{dst:Option Tmp}{l:List (Bool×Oper)}(h:DCall P f bs V fun x S'=>x=(if c then .ret d else .panic u)/\S'=V)(k1:c=true->MO P ro n ops N S0 Q df l (putD dst d O) V)(k2:c=false->∀U',Q (.panic u) ⟨U',V,df⟩)(hl:A5 O (A9 (fop::args.toList))=some Sr:=by exact tdR)(hf:ev Sr fop=.func (.func f) first cap:=by exact tdR)(ha:first++args.toList.map (ev Sr)++cap=us:=by exact td0)(hp:bs=us:=by exact tdR)(hC:Sub S0 V:=by first|exact Sub.refl _|assumption)
  (ho:At n ⟨dst,(cv fop args ats),ty,pos,after,none⟩=true:=by exact tdR):MO P ro n ops N S0 Q df ((true,⟨dst,(cv fop args ats),ty,pos,after,none⟩)::l) O V:=by
 refine Hc rfl hl hf ha (.inl hp) h ho (fun d' S' hx =>?_) (fun d' S' hx =>?_)
 all_goals obtain⟨hx,rfl⟩:=hx;cases c<;>simp only[Bool.false_eq_true,if_true,if_false,DE.ret.injEq,DE.panic.injEq,reduceCtorEq]at hx
 ·subst hx;exact⟨hC,k1 rfl⟩
 ·subst hx;exact k2 rfl
theorem BF{fop:Operand}{args:Array Operand}{ats:Array TypeId}{f:Nat}{first cap us bs:List D}{R:DE->Sig->Prop}{dst:Option Tmp}{l:List (Bool×Oper)}(h:DCall P f bs V R)(hret:∀d S',R (.ret d) S'->Sub S0 S'/\MO P ro n ops N S0 Q df l (putD dst d O) S')(hpan:∀d S',R (.panic d) S'->∀U',Q (.panic d) ⟨U',S',df⟩)(hl:A5 O (A9 (fop::args.toList))=some Sr:=by exact tdR)(hf:ev Sr fop=.func (.func f) first cap:=by exact tdR)(ha:first++args.toList.map (ev Sr)++cap=us:=by exact td0)(hp:bs=us:=by exact tdR)
  (ho:At n ⟨dst,(cv fop args ats),ty,pos,after,none⟩=true:=by exact tdR):MO P ro n ops N S0 Q df ((true,⟨dst,(cv fop args ats),ty,pos,after,none⟩)::l) O V:=Hc rfl hl hf ha (.inl hp) h ho hret hpan
theorem needP{fop:Operand}{args:Array Operand}{ats:Array TypeId}{f:Nat}{first cap us bs:List D}{c:Bool}{u d:D}{dst:Option Tmp}(h:DCall P f bs V fun x S'=>x=(if c then .ret d else .panic u)/\S'=V)(k1:c=true->DOps P ro n ops Q rest ⟨putD dst d O,V,df⟩)(k2:c=false->Q (.panic u) ⟨O,V,df⟩)(hl:A5 O (A9 (fop::args.toList))=some Sr:=by exact tdR)(hf:ev Sr fop=.func (.func f) first cap:=by exact tdR)(ha:first++args.toList.map (ev Sr)++cap=us:=by exact td0)(hp:bs=us.map D.plain:=by exact tdR)
  (ho:At n ⟨dst,(cv fop args ats),ty,pos,after,none⟩=true:=by exact tdR):DOps P ro n ops Q (⟨dst,(cv fop args ats),ty,pos,after,none⟩::rest) ⟨O,V,df⟩:=by
 refine Fs hl hf ha (.inr hp) h ho (fun d' S' hx =>?_) (fun d' S' hx =>?_)
 all_goals obtain⟨hx,rfl⟩:=hx;cases c<;>simp only[Bool.false_eq_true,if_true,if_false,DE.ret.injEq,DE.panic.injEq,reduceCtorEq]at hx
 ·subst hx;exact k1 rfl
 ·subst hx;exact k2 rfl
theorem moNeedP{fop:Operand}{args:Array Operand}{ats:Array TypeId}{f:Nat}{first cap us bs:List D}{c:Bool}{u d:D}{dst:Option Tmp}{l:List (Bool×Oper)}(h:DCall P f bs V fun x S'=>x=(if c then .ret d else .panic u)/\S'=V)(k1:c=true->MO P ro n ops N S0 Q df l (putD dst d O) V)(k2:c=false->∀U',Q (.panic u) ⟨U',V,df⟩)(hl:A5 O (A9 (fop::args.toList))=some Sr:=by exact tdR)(hf:ev Sr fop=.func (.func f) first cap:=by exact tdR)(ha:first++args.toList.map (ev Sr)++cap=us:=by exact td0)(hp:bs=us.map D.plain:=by exact tdR)(hC:Sub S0 V:=by first|exact Sub.refl _|assumption)
  (ho:At n ⟨dst,(cv fop args ats),ty,pos,after,none⟩=true:=by exact tdR):MO P ro n ops N S0 Q df ((true,⟨dst,(cv fop args ats),ty,pos,after,none⟩)::l) O V:=by
 refine Hc rfl hl hf ha (.inr hp) h ho (fun d' S' hx =>?_) (fun d' S' hx =>?_)
 all_goals obtain⟨hx,rfl⟩:=hx;cases c<;>simp only[Bool.false_eq_true,if_true,if_false,DE.ret.injEq,DE.panic.injEq,reduceCtorEq]at hx
 ·subst hx;exact⟨hC,k1 rfl⟩
 ·subst hx;exact k2 rfl
theorem nilE{x:Operand}{z:Value}{T T':Nat}{b:Bool}(h:DOps prog ro n ops Q rest ⟨(t,.bool b)::O,V,df⟩)(hl:A5 O (A9 [x])=some Sr:=by exact tdR)(hb:nilB (tab T).k z (ev Sr x)=some b:=by(simp<;>with_unfolding_all rfl))(htn:decide (t<n)=true:=by exact tdR):
  DOps prog ro n ops Q (⟨some t,.binOp .eql T x (.const z) T',ty,pos,after,none⟩::rest) ⟨O,V,df⟩ :=
 NR Ad (b:=b) false rfl (by rw[<-C2 hl];exact hb) (by simpa using htn) (by cases b<;>exact h)
theorem nilN{x:Operand}{z:Value}{T T':Nat}{b:Bool}(h:DOps prog ro n ops Q rest ⟨(t,.bool (!b))::O,V,df⟩)(hl:A5 O (A9 [x])=some Sr:=by exact tdR)(hb:nilB (tab T).k z (ev Sr x)=some b:=by(simp<;>with_unfolding_all rfl))(htn:decide (t<n)=true:=by exact tdR):
  DOps prog ro n ops Q (⟨some t,.binOp .neq T x (.const z) T',ty,pos,after,none⟩::rest) ⟨O,V,df⟩ :=
 NR Ad (b:=b) true rfl (by rw[<-C2 hl];exact hb) (by simpa using htn) (by cases b<;>exact h)
theorem boolE{x y:Operand}{T T':Nat}{a b:Bool}{gd:Option (Nat×Bool)}(h:DOps prog ro n ops Q rest ⟨(t,.bool (a==b))::O,V,df⟩)(hw:AJ ops O ⟨some t,.binOp .eql T x y T',ty,pos,after,gd⟩=some true:=by exact tdR)(hl:A5 O (A9 [x,y])=some Sr:=by exact tdR)(hk:(tab T).k=.bool:=by(simp;done))(hx:ev Sr x=.bool a:=by exact tdR)(hy:ev Sr y=.bool b:=by exact tdR)(htn:decide (t<n)=true:=by exact tdR):
  DOps prog ro n ops Q (⟨some t,.binOp .eql T x y T',ty,pos,after,gd⟩::rest) ⟨O,V,df⟩ :=
 Q1 Ad false hw hk (by rw[<-(evs hl).1];exact hx) (by rw[<-(evs hl).2];exact hy) (by simpa using htn) (by cases a<;>cases b<;>exact h)
theorem boolN{x y:Operand}{T T':Nat}{a b:Bool}{gd:Option (Nat×Bool)}(h:DOps prog ro n ops Q rest ⟨(t,.bool (a != b))::O,V,df⟩)(hw:AJ ops O ⟨some t,.binOp .neq T x y T',ty,pos,after,gd⟩=some true:=by exact tdR)(hl:A5 O (A9 [x,y])=some Sr:=by exact tdR)(hk:(tab T).k=.bool:=by(simp;done))(hx:ev Sr x=.bool a:=by exact tdR)(hy:ev Sr y=.bool b:=by exact tdR)(htn:decide (t<n)=true:=by exact tdR):
  DOps prog ro n ops Q (⟨some t,.binOp .neq T x y T',ty,pos,after,gd⟩::rest) ⟨O,V,df⟩ :=
 Q1 Ad true hw hk (by rw[<-(evs hl).1];exact hx) (by rw[<-(evs hl).2];exact hy) (by simpa using htn) (by cases a<;>cases b<;>exact h)
theorem mapp{T T' e e' sz:Nat}{s x:Operand}{es new:List (List D)}{st:MR}(h:∀st',mOK V sz st' (es++new)->DOps prog ro n ops Q rest ⟨(t,mD st' (es.length+new.length))::O,mS V st' (es++new),df⟩)(hm:mOK V sz st es:=by assumption)
  (hl:A5 O (A9 [s,x])=some Sr:=by exact tdR) (hk:(tab T).k=.slice e:=by(simp<;>rfl)) (hk':(tab T').k=.slice e':=by(simp<;>rfl)) (he:A6 (tab e).k=false:=by simp) (hsz:(tab e).size=sz:=by simp)
  (h1:ev Sr s=mD st es.length:=by first|with_unfolding_all rfl|(simp[ev,getD,List.lookup];done)) (h2:esOf (ev Sr x)=some new:=by(simp<;>with_unfolding_all rfl))
  (hlen':∀c∈new,c.length=sz:=by first|exact BQ _|exact Db _|exact BJ _|simp) (hfl:∀c∈new,D1 c=true:=by simp[cI,cS,cII,D1,D.flat])
  (hb:(es.length+new.length)*(tab e).bytes<=140737488355328:=by first|(simp;done)|(simp;omega)) (hm2:es.length+new.length<=9223372036854775807:=by first|(simp;done)|(simp;omega)) (htn:decide (t<n)=true:=by exact tdR) :
  DOps prog ro n ops Q (⟨some t,(cA s x T T'),ty,pos,after,none⟩::rest) ⟨O,mS V st es,df⟩:=by
 obtain⟨e1,e2⟩:=evs hl
 exact JJ Ad (by simpa using htn) hk hk' he hsz (by rw[<-e1];exact h1) hm (by rw[<-e2];exact h2) hlen' hfl hb hm2 (fun st' h'=>by rw[List.length_append];exact h st' h')
theorem Sy{T e k sz c:Nat}{l m:Operand}{z:List D}(h:∀i,V i=none->mOK V sz (some (i,c,(List.replicate (c-k) z).flatten)) (List.replicate k z)->DOps prog ro n ops Q rest ⟨(t,.sref i 0 k c)::O,mS V (some (i,c,(List.replicate (c-k) z).flatten)) (List.replicate k z),df⟩)
  (hl:A5 O (A9 [l,m])=some Sr:=by exact tdR) (hk:(tab T).k=.slice e:=by(simp<;>rfl)) (he:A6 (tab e).k=false:=by simp) (hsz:(tab e).size=sz:=by(simp<;>rfl)) (h0:0<sz:=by decide) (hz:(tab e).zero=z:=by(simp<;>rfl))
  (h1:ev Sr l=.int .i64 k:=by exact tdR) (h2:ev Sr m=.int .i64 c:=by exact tdR) (hkc:k<=c:=by first|exact Nat.le_refl _|omega) (hb:c*(tab e).bytes<=140737488355328:=by first|(simp;done)|(simp;omega)) (hm:c<=9223372036854775807:=by omega) (htn:decide (t<n)=true:=by exact tdR) :
  DOps prog ro n ops Q (⟨some t,.makeSlice T l m,ty,pos,after,none⟩::rest) ⟨O,V,df⟩:=by
 obtain⟨e1,e2⟩:=evs hl
 exact Rj Ad (by simpa using htn) hk he hsz h0 hz (by rw[<-e1];exact h1) (by rw[<-e2];exact h2) hkc hb hm h
theorem mfr(k:Nat){l:List Oper}{sz:Nat}{st:MR}{es:List (List D)}(h:DOps P ro n ops Q l ⟨(k,.slice es .no)::O,V,df⟩)(hm:mOK V sz st es:=by assumption)(hk:getD O k=mD st es.length:=by first|exact An tdR|(simp[getD,List.lookup];done)):DOps P ro n ops Q l ⟨O,mS V st es,df⟩ :=
 BE (Ke hm hk) h
theorem bldZ{T len e:Nat}{z:List D}(h:DOps prog ro n ops Q rest ⟨(t,.agg z)::O,V,df⟩)(hk:(tab T).k=.array len e:=by exact tdR)(he:A6 (tab e).k=false:=by simp)(hz:(tab T).zero=z:=by(simp<;>rfl))(htn:decide (t<n)=true:=by exact tdR):DOps prog ro n ops Q (⟨some t,.build T #[],ty,pos,after,none⟩::rest) ⟨O,V,df⟩:=by
 subst hz;exact OM Ad (by simpa using htn) hk he h
theorem mfrC(xs ys:List D){i:Nat}{l:List Oper}{sz:Nat}{st:MR}{es:List (List D)}(h:DOps P ro n ops Q l ⟨O,V.set i (.cells (xs ++ .slice es .no::ys)),df⟩)(hi:V i=some (.cells (xs++mD st es.length::ys)):=by first|exact w7 .. | (simp;done))(hm:mOK V sz st es:=by assumption):DOps P ro n ops Q l ⟨O,mS V st es,df⟩ :=
 BE (Gr hm hi) h
theorem celW(xs ys:List D)(d d':D){i:Nat}{l:List Oper}(h:DOps P ro n ops Q l ⟨O,V.set i (.cells (xs++d'::ys)),df⟩)(hi:V i=some (.cells (xs++d::ys)):=by first|exact w7 .. | (simp;done))(hw:WkD d d'):DOps P ro n ops Q l ⟨O,V,df⟩ :=
 BE (CV hi hw) h
theorem cfr(k:Nat){l:List Oper}{i:Nat}{m:List (D×D)}(hi:V i=some (.map m))(h:DOps P ro n ops Q l ⟨(k,.cmap (m.map (·.1)) (m.map (·.2)))::O,V.del i,df⟩)(hk:getD O k=.map i:=by exact An tdR):DOps P ro n ops Q l ⟨O,V,df⟩ :=
 BE (Iz hi hk) h
theorem rng{T kt et:Nat}{x:Operand}{l:List (D×D)}(h:∀i,V i=none->DOps prog ro n ops Q rest ⟨(t,.obj i)::O,V.set i (.iter l none),df⟩)(hl:A5 O (A9 [x])=some Sr:=by exact tdR)(hk:(tab T).k=.map kt et:=by(simp<;>rfl))(hx:P8 (ev Sr x)=some l:=by exact tdR)(htn:decide (t<n)=true:=by exact tdR):
  DOps prog ro n ops Q (⟨some t,.range T x,ty,pos,after,none⟩::rest) ⟨O,V,df⟩ :=
 Rh Ad (by simpa using htn) hk (by rw[<-C2 hl];exact hx) h
theorem nxt{i:Nat}{x:Operand}{left:List (D×D)}{last:Option (D×D)}(h0:left=[]->DOps P ro n ops Q rest ⟨(t,.tup [.bool false])::O,V,df⟩)
  (h1:∀j k v,left[j]? = some (k,v)->DOps P ro n ops Q rest ⟨(t,.tup [.bool true,k,v])::O,V.set i (.iter (left.eraseIdx j) (some (k,v))),df⟩) (hi:V i=some (.iter left last):=by first|exact w7 .. | simp)
  (hl:A5 O (A9 [x])=some Sr:=by exact tdR) (hx:ev Sr x=.obj i:=by exact tdR) (htn:decide (t<n)=true:=by exact tdR) :
  DOps P ro n ops Q (⟨some t,.next x false,ty,pos,after,none⟩::rest) ⟨O,V,df⟩ :=
 UR (by simpa using htn) (by rw[<-C2 hl];exact hx) hi h0 h1
theorem ent{i:Nat}{x:Operand}{left:List (D×D)}{k v:D}(h:DOps P ro n ops Q rest ⟨(t,.tup [k,v])::O,V,df⟩)(hi:V i=some (.iter left (some (k,v))):=by first|exact w7 .. | simp)
  (hl:A5 O (A9 [x])=some Sr:=by exact tdR) (hx:ev Sr x=.obj i:=by exact tdR) (htn:decide (t<n)=true:=by exact tdR) :
  DOps P ro n ops Q (⟨some t,.entry x,ty,pos,after,none⟩::rest) ⟨O,V,df⟩ :=
 Rl (by simpa using htn) (by rw[<-C2 hl];exact hx) hi h
theorem boxV{T:Nat}{x:Operand}{cs:List D}(h:∀i,V i=none->DOps P ro n ops Q rest ⟨(t,.ptr i 0)::O,V.set i (.cells cs),df⟩)(hl:A5 O (A9 [x])=some Sr:=by exact tdR)(hd:ev Sr x=d:=by(simp<;>with_unfolding_all rfl))(hc:d.cells=cs:=by(simp<;>with_unfolding_all rfl))(ht:d.told=true:=by exact tdR)(htn:decide (t<n)=true:=by exact tdR):
  DOps P ro n ops Q (⟨some t,.box T x,ty,pos,after,none⟩::rest) ⟨O,V,df⟩:=by
 subst hc hd;rw[C2 hl]at ht h;exact dops_box ht (by simpa using htn) h
theorem finCE{fn:Func}{R:DE->Sig->Prop}{S':Sig}{ds:List D}(h:resL tab V O fn.results.toList=some ds)(hR:R (.ret (Kp ds)) S')(hZ:Sub S' V:=by first|exact Sub.refl _|(refine B3 ?_;simp;done)|assumption|exact(Sub.refl _).set (by assumption)):EM prog n fn R .ret ⟨O,V,[]⟩:=Hr Ad h (A8 _) hZ hR
theorem finC{fn:Func}{R:DE->Sig->Prop}{S':Sig}{ds:List D}{d:D}(hR:R (.ret d) S')(h:resL tab V O fn.results.toList=some ds:=by(simp[resL];with_unfolding_all rfl))(hw:WkD (Kp ds) d:=by exact tdW)(hZ:Sub S' V:=by first|exact Sub.refl _|(refine B3 ?_;simp;done)|assumption|exact(Sub.refl _).set (by assumption)):EM prog n fn R .ret ⟨O,V,[]⟩:=Hr Ad h hw hZ hR
theorem mixL{lo:List Oper}{id:Nat}(ord E:List Nat){lp:List (Bool×Oper)}{ol:Oper}(h:MO prog ro n lo.toArray 334 V (Then (fun s=>DOps prog ro n lo.toArray Q [ol] s) Q) df lp O V)(hB:Ja lo.toArray E ord=true:=by kernel_rfl)(hol:nthO lo (lo.length-1)=some ol:=by exact tdR)(hl:GB lo E ord=some lp:=by exact tdR):DWp prog ro n (.region id lo.toArray true) Q ⟨O,V,df⟩ :=
 PY Ak mixed ord E V hB hol (Sub.refl _) hl h
theorem mo1{op:Op}{l:List (Bool×Oper)}(h:∀U2,(∀x∈op.operands,ev U2 x=ev O x)->DOps P ro n ops (EQ df (some t) (fun d S'=>Sub S0 S'/\MO P ro n ops N S0 Q df l ((t,d)::O) S') (fun d S' => ∀U',Q (.panic d) ⟨U',S',df⟩)) [⟨some t,op,ty,pos,after,none⟩] ⟨U2,V,df⟩)(htn:decide (t<n)=true:=by exact tdR):
  MO P ro n ops N S0 Q df ((true,⟨some t,op,ty,pos,after,none⟩)::l) O V :=
 WM (o:=⟨some t,op,ty,pos,after,none⟩) htn rfl rfl (h _ fun _ hx=>Cd (o:=⟨some t,op,ty,pos,after,none⟩) hx)
theorem HY{U2:Fr}{s x:Operand}{T T':Nat}(hl:A5 O (A9 [s,x])=some Sr)(hx:∀y∈((cA s x T T')).operands,ev U2 y=ev O y):ev U2 s=ev Sr s/\ev U2 x=ev Sr x:=by
 obtain⟨e1,e2⟩:=evs hl
 exact⟨by rw[hx s (by simp[Op.operands,Call.operands]),e1],by rw[hx x (by simp[Op.operands,Call.operands]),e2]⟩
theorem WO{s x:Operand}{T T' e e':Nat}{es new:List (List D)}{l:List (Bool×Oper)}(h:∀i,V i=none->MO prog ro n ops N S0 Q df l ((t,.slice (es++new) (.tag i))::O) (V.set i (.tail (tab e).size (es.length+new.length))))(hl:A5 O (A9 [s,x])=some Sr:=by exact tdR)(hk:(tab T).k=.slice e:=by(simp<;>rfl))(hk':(tab T').k=.slice e':=by(simp<;>rfl))(he:A6 (tab e).k=false:=by simp)
  (h1:ev Sr s=.slice es .clip:=by exact tdR) (h2:esOf (ev Sr x)=some new:=by(simp<;>with_unfolding_all rfl)) (hne:new≠[]:=by first|assumption|(simp;done)|(simp[cI,cS,cII];assumption))
  (hlen:∀c∈es,c.length=(tab e).size:=by first|exact BQ _|exact Db _|exact BJ _|simp) (hlen':∀c∈new,c.length=(tab e).size:=by first|exact BQ _|exact Db _|exact BJ _|simp)
  (hb:(es.length+new.length)*(tab e).bytes<=140737488355328:=by first|(simp;done)|(simp;omega)) (hm:es.length+new.length<=9223372036854775807:=by first|(simp;done)|(simp;omega)) (htn:decide (t<n)=true:=by exact tdR) (hC:Sub S0 V:=by first|exact Sub.refl _|assumption) :
  MO prog ro n ops N S0 Q df ((true,⟨some t,(cA s x T T'),ty,pos,after,none⟩)::l) O V :=
 mo1 (fun U2 hx=>by
  obtain⟨e1,e2⟩:=HY hl hx
  exact C7 Ad rfl (by simpa using htn) hk hk' he (by rw[e1];exact h1) (by rw[e2];exact h2) hne hlen hlen' hb hm (fun i hi=>AL ⟨rfl,by simp only[Aa,if_true];exact⟨hC.set (hC.none hi),h i hi⟩⟩)) htn
theorem Sv{s x:Operand}{T T' e e':Nat}{es new:List (List D)}{l:List (Bool×Oper)}(h:∀i,V i=none->MO prog ro n ops N S0 Q df l ((t,.slice (es++new) .no)::O) (V.set i (.tail (tab e).size (es.length+new.length))))(hl:A5 O (A9 [s,x])=some Sr:=by exact tdR)(hk:(tab T).k=.slice e:=by(simp<;>rfl))(hk':(tab T').k=.slice e':=by(simp<;>rfl))(he:A6 (tab e).k=false:=by simp)
  (h1:ev Sr s=.slice es .clip:=by exact tdR) (h2:esOf (ev Sr x)=some new:=by(simp<;>with_unfolding_all rfl)) (hne:new≠[]:=by first|assumption|(simp;done)|(simp[cI,cS,cII];assumption))
  (hlen:∀c∈es,c.length=(tab e).size:=by first|exact BQ _|exact Db _|exact BJ _|simp) (hlen':∀c∈new,c.length=(tab e).size:=by first|exact BQ _|exact Db _|exact BJ _|simp)
  (hb:(es.length+new.length)*(tab e).bytes<=140737488355328:=by first|(simp;done)|(simp;omega)) (hm:es.length+new.length<=9223372036854775807:=by first|(simp;done)|(simp;omega)) (htn:decide (t<n)=true:=by exact tdR) (hC:Sub S0 V:=by first|exact Sub.refl _|assumption) :
  MO prog ro n ops N S0 Q df ((true,⟨some t,(cA s x T T'),ty,pos,after,none⟩)::l) O V :=
 mo1 (fun U2 hx=>by
  obtain⟨e1,e2⟩:=HY hl hx
  exact C7 Ad rfl (by simpa using htn) hk hk' he (by rw[e1];exact h1) (by rw[e2];exact h2) hne hlen hlen' hb hm (fun i hi=>BE (BT (t:=t) (d := .slice (es++new) .no) (by simp only[Aa,if_true];exact AE _ _)) (AL ⟨rfl,by simp only[Aa,if_true];exact⟨hC.set (hC.none hi),h i hi⟩⟩))) htn
theorem Su{s x:Operand}{T T' e e':Nat}{new:List (List D)}{l:List (Bool×Oper)}(h:∀i,V i=none->MO prog ro n ops N S0 Q df l ((t,.slice new (.tag i))::O) (V.set i (.tail (tab e).size new.length)))(hl:A5 O (A9 [s,x])=some Sr:=by exact tdR)(hk:(tab T).k=.slice e:=by(simp<;>rfl))(hk':(tab T').k=.slice e':=by(simp<;>rfl))(he:A6 (tab e).k=false:=by simp)
  (h1:ev Sr s=.nils:=by exact tdR) (h2:esOf (ev Sr x)=some new:=by(simp<;>with_unfolding_all rfl)) (hlen:∀c∈new,c.length=(tab e).size:=by first|exact BQ _|exact Db _|exact BJ _|simp)
  (hb:new.length*(tab e).bytes<=140737488355328:=by first|(simp;done)|(simp;omega)) (hm:new.length<=9223372036854775807:=by first|(simp;done)|(simp;omega)) (htn:decide (t<n)=true:=by exact tdR) (hC:Sub S0 V:=by first|exact Sub.refl _|assumption) :
  MO prog ro n ops N S0 Q df ((true,⟨some t,(cA s x T T'),ty,pos,after,none⟩)::l) O V :=
 mo1 (fun U2 hx=>by
  obtain⟨e1,e2⟩:=HY hl hx
  exact D3 Ad rfl (by simpa using htn) hk hk' he (by rw[e1];exact h1) (by rw[e2];exact h2) hlen hb hm (fun i hi=>AL ⟨rfl,by simp only[Aa,if_true];exact⟨hC.set (hC.none hi),h i hi⟩⟩)) htn
theorem moApp0{s x:Operand}{T T' e e':Nat}{es:List (List D)}{l:List (Bool×Oper)}(h:MO prog ro n ops N S0 Q df l ((t,d)::O) V)(hl:A5 O (A9 [s,x])=some Sr:=by exact tdR)(hk:(tab T).k=.slice e:=by(simp<;>rfl))(hk':(tab T').k=.slice e':=by(simp<;>rfl))(he:A6 (tab e).k=false:=by simp)(hd:ev Sr s=d:=by exact tdR)
  (h1:esOf d=some es:=by exact tdR) (h2:esOf (ev Sr x)=some []:=by first|with_unfolding_all rfl|(simp_all;done)) (htn:decide (t<n)=true:=by exact tdR) (hC:Sub S0 V:=by first|exact Sub.refl _|assumption) :
  MO prog ro n ops N S0 Q df ((true,⟨some t,(cA s x T T'),ty,pos,after,none⟩)::l) O V :=
 mo1 (fun U2 hx=>by
  obtain⟨e1,e2⟩:=HY hl hx
  refine DD Ad rfl (by simpa using htn) hk hk' he (by rw[e1,hd];exact h1) (by rw[e2];exact h2) (AL ⟨rfl,?_⟩)
  simp only[Aa,if_true,e1,hd]
  exact⟨hC,h⟩) htn
theorem MN{T:Nat}{z:List D}{l:List (Bool×Oper)}(h:∀i,V i=none->MO prog ro n ops N S0 Q df l ((t,.ptr i 0)::O) (V.set i (.cells z)))(hk:A6 (tab T).k=false:=by simp)(hz:(tab T).zero=z:=by(simp<;>rfl))(htn:decide (t<n)=true:=by exact tdR)(hC:Sub S0 V:=by first|exact Sub.refl _|assumption):
  MO prog ro n ops N S0 Q df ((true,⟨some t,.alloc T,ty,pos,after,none⟩)::l) O V:=by
 subst hz
 exact mo1 (fun U2 hx=>DV Ad hk (by simpa using htn) (fun i hi=>AL ⟨rfl,by simp only[Aa,if_true];exact⟨hC.set (hC.none hi),h i hi⟩⟩)) htn
theorem moEffW{op:Op}(d':D){S':Sig}{l:List (Bool×Oper)}(h:MO prog ro n ops N S0 Q df l ((t,d')::O) S')(hl:A5 O (A9 op.operands.toList)=some Sr:=by exact tdR)(he:eopD tab Sr V op=some (d,S'):=by(simp(disch:=first|omega|assumption) [Ao,big1,big2,w8]<;>first|rfl|(and_intros<;>rfl)|(and_intros<;>first|rfl|omega)))(hw:WkD d d':=by exact tdW)(htn:decide (t<n)=true:=by exact tdR)(hC:Sub S0 S':=by first|exact Sub.refl _|assumption|exact(Sub.refl _).set (by assumption)|exact((Sub.refl _).set (by assumption)).set (by assumption)):
  MO prog ro n ops N S0 Q df ((true,⟨some t,op,ty,pos,after,none⟩)::l) O V :=
 mo1 (fun U2 hx=>by
  refine F6 Ad rfl (by rw[Bt (U':=O) hx];exact(Bt (C3 hl)) ▸ he) htn (BE (BT (t:=t) (d:=d') (by simp only[putD,Aa,if_true];exact hw)) (AL ⟨rfl,?_⟩))
  simp only[Aa,if_true]
  exact⟨hC,h⟩) htn
theorem wk_sub{P:Program}{n:Nat}{O:Fr}{V S':Sig}{df:List DDf}(hZ:Sub S' V):Wk P n ⟨O,V,df⟩ ⟨O,S',df⟩ :=
 fun g w a hs=>⟨g,.refl g,⟨hs.sim.sub hZ,hs.tmps,hs.df⟩⟩
theorem drp{l:List Oper}(S':Sig)(h:DOps P ro n ops Q l ⟨O,S',df⟩)(hZ:Sub S' V:=by first|exact Sub.refl _|(refine B3 ?_;simp;done)|assumption|exact(Sub.refl _).set (by assumption)):DOps P ro n ops Q l ⟨O,V,df⟩:=BE (wk_sub hZ) h
theorem rtw{c:Code}(k:Nat)(d':D)(h:DWp P ro n c Q ⟨(k,d')::O,V,df⟩)(hw:WkD (getD O k) d':=by exact tdW):DWp P ro n c Q ⟨O,V,df⟩:=dwp_wk (BT hw) h
theorem appCW{s x:Operand}{T T' e e':Nat}{es new:List (List D)}(h:∀i,V i=none->DOps prog ro n ops Q rest ⟨(t,.slice (es++new) .no)::O,V.set i (.tail (tab e).size (es.length+new.length)),df⟩)(hl:A5 O (A9 [s,x])=some Sr:=by exact tdR)(hk:(tab T).k=.slice e:=by(simp<;>rfl))(hk':(tab T').k=.slice e':=by(simp<;>rfl))(he:A6 (tab e).k=false:=by simp)
  (h1:ev Sr s=.slice es .clip:=by exact tdR) (h2:esOf (ev Sr x)=some new:=by(simp<;>with_unfolding_all rfl)) (hne:new≠[]:=by first|assumption|(simp;done)|(simp[cI,cS,cII];assumption))
  (hlen:∀c∈es,c.length=(tab e).size:=by first|exact BQ _|exact Db _|exact BJ _|simp) (hlen':∀c∈new,c.length=(tab e).size:=by first|exact BQ _|exact Db _|exact BJ _|simp)
  (hb:(es.length+new.length)*(tab e).bytes<=140737488355328:=by first|(simp;done)|(simp;omega)) (hm:es.length+new.length<=9223372036854775807:=by first|(simp;done)|(simp;omega)) (htn:decide (t<n)=true:=by exact tdR) :
  DOps prog ro n ops Q (⟨some t,(cA s x T T'),ty,pos,after,none⟩::rest) ⟨O,V,df⟩:=by
 obtain⟨e1,e2⟩:=evs hl
 exact C7 Ad rfl (by simpa using htn) hk hk' he (by rw[<-e1];exact h1) (by rw[<-e2];exact h2) hne hlen hlen' hb hm (fun i hi=>BE (BT (t:=t) (d := .slice (es++new) .no) (by simp only[Aa,if_true];exact AE _ _)) (BE (RB fun k=>by simp only[Aa];split<;>exact A8 _) (h i hi)))
theorem rtl{l:List Oper}(k:Nat)(d':D)(h:DOps P ro n ops Q l ⟨(k,d')::O,V,df⟩)(hw:WkD (getD O k) d':=by exact tdW):DOps P ro n ops Q l ⟨O,V,df⟩:=BE (BT hw) h
theorem Do{lo:List Oper}{id:Nat}(ord E:List Nat)(S0:Sig){lp:List (Bool×Oper)}{ol:Oper}(hC:Sub S0 V)(h:MO prog ro n lo.toArray 334 S0 (Then (fun s=>DOps prog ro n lo.toArray Q [ol] s) Q) df lp O V)(hB:Ja lo.toArray E ord=true:=by kernel_rfl)(hol:nthO lo (lo.length-1)=some ol:=by exact tdR)(hl:GB lo E ord=some lp:=by exact tdR):DWp prog ro n (.region id lo.toArray true) Q ⟨O,V,df⟩ :=
 PY Ak mixed ord E S0 hB hol hC hl h
theorem yldW{fop:Operand}{args:Array Operand}{ats:Array TypeId}{l:Nat}{us:List D}{R:DE->Sig->Prop}{dst:Option Tmp}(h:DYield P l us V R)(hret:∀d S',R (.ret d) S'->DOps P ro n ops Q rest ⟨putD dst d O,S',df⟩)(hpan:∀d S',R (.panic d) S'->Q (.panic d) ⟨O,S',df⟩)
  (hl:A5 O (A9 (fop::args.toList))=some Sr:=by exact tdR) (hf:ev Sr fop=.yld l:=by exact tdR) (ha:args.toList.map (ev Sr)=us:=by exact td0)
  (ho:At n ⟨dst,(cv fop args ats),ty,pos,after,none⟩=true:=by exact tdR) :
  DOps P ro n ops Q (⟨dst,(cv fop args ats),ty,pos,after,none⟩::rest) ⟨O,V,df⟩:=by
 have hx:∀x∈fop::args.toList,ev Sr x=ev O x:=fun x hx=>C4 fun t ht=>AQ hl t (Bc (by rw[<-ht];exact hx))
 refine L7 rfl (by rw[<-hx fop (by simp)];exact hf) ?_ ho hret hpan
 rw[show args.toList.map (ev O)=args.toList.map (ev Sr) from List.map_congr_left fun x h=>(hx x (by simp[h])).symm,ha]
 exact h
theorem invW{rv:Operand}{name:String}{args:Array Operand}{ats:Array TypeId}{f T:Nat}{us:List D}{R:DE->Sig->Prop}{dst:Option Tmp}(hM:JZ P T name f)(h:DCall P f (d::us) V R)(hret:∀d S',R (.ret d) S'->DOps P ro n ops Q rest ⟨putD dst d O,S',df⟩)(hpan:∀d S',R (.panic d) S'->Q (.panic d) ⟨O,S',df⟩)
  (hl:A5 O (A9 (rv::args.toList))=some Sr:=by exact tdR) (hx:ev Sr rv=.iface T d:=by exact tdR) (ha:args.toList.map (ev Sr)=us:=by exact td0)
  (ho:At n ⟨dst,.call { callee := .invoke rv name,args,argTypes:=ats },ty,pos,after,none⟩=true:=by exact tdR) :
  DOps P ro n ops Q (⟨dst,.call { callee := .invoke rv name,args,argTypes:=ats },ty,pos,after,none⟩::rest) ⟨O,V,df⟩:=by
 have he:∀x∈rv::args.toList,ev Sr x=ev O x:=fun x hx=>C4 fun t ht=>AQ hl t (Bc (by rw[<-ht];exact hx))
 refine JK rfl (by rw[<-he rv (by simp)];exact hx) hM h ?_ ho hret hpan
 rw[show args.toList.map (ev O)=args.toList.map (ev Sr) from List.map_congr_left fun x h=>(he x (by simp[h])).symm,ha]
 exact Ec _
end
end Go.DL
