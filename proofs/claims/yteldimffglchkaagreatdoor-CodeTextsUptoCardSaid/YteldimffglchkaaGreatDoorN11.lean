/- A part of the proof. -/
import Derived.Test.YteldimffglchkaaGreatDoorN10
import Derived.Test.YteldimffglchkaaGreatDoorN07
import Derived.Test.YteldimffglchkaaGreatDoorN08
import Derived.Test.YteldimffglchkaaGreatDoorN09
set_option linter.all false
namespace Go.DL
open Go.Proofs.Tryz
open Go Go.Proofs
class Ans(f:Nat)(us:List D)(O:Sig)(H:outParam Prop)(d:outParam D):Prop where
 call:H->DCall prog f us O (rS d O)
class Giv(f:Nat)(us:List D)(O:Sig)(H:outParam Prop)(c:outParam Bool)(d u:outParam D):Prop where
 call:H->DCall prog f us O fun x U'=>x=(if c then .ret d else .panic u)/\U'=O
theorem ah0{f:Nat}{us:List D}{O:Sig}{d:D}(h:DCall prog f us O (rS d O)):Ans f us O (True) d:=⟨fun _=>h⟩
theorem ah1{f:Nat}{us:List D}{O:Sig}{d:D}{p:Prop}(h:p->DCall prog f us O (rS d O)):Ans f us O (p) d:=⟨fun p=>h p⟩
theorem ah2{f:Nat}{us:List D}{O:Sig}{d:D}{p q:Prop}(h:p->q->DCall prog f us O (rS d O)):Ans f us O (p/\q) d:=⟨fun ⟨p,q⟩=>h p q⟩
theorem ah3{f:Nat}{us:List D}{O:Sig}{d:D}{p q r:Prop}(h:p->q->r->DCall prog f us O (rS d O)):Ans f us O (p/\q/\r) d:=⟨fun ⟨p,q,r⟩=>h p q r⟩
theorem ah4{f:Nat}{us:List D}{O:Sig}{d:D}{p q r s:Prop}(h:p->q->r->s->DCall prog f us O (rS d O)):Ans f us O (p/\q/\r/\s) d:=⟨fun ⟨p,q,r,s⟩=>h p q r s⟩
theorem gh0{f:Nat}{us:List D}{O:Sig}{c:Bool}{d u:D}(h:DCall prog f us O fun x U'=>x=(if c then .ret d else .panic u)/\U'=O):Giv f us O (True) c d u:=⟨fun _=>h⟩
theorem gh1{f:Nat}{us:List D}{O:Sig}{c:Bool}{d u:D}{p:Prop}(h:p->DCall prog f us O fun x U'=>x=(if c then .ret d else .panic u)/\U'=O):Giv f us O (p) c d u:=⟨fun p=>h p⟩
theorem gh4{f:Nat}{us:List D}{O:Sig}{c:Bool}{d u:D}{p q r s:Prop}(h:p->q->r->s->DCall prog f us O fun x U'=>x=(if c then .ret d else .panic u)/\U'=O):Giv f us O (p/\q/\r/\s) c d u:=⟨fun ⟨p,q,r,s⟩=>h p q r s⟩
class BoolIs(b:Bool)(p q:outParam Prop):Prop where
 yes:b=true->p
 no:b=false->q
instance (priority:=low) boolIs (b:Bool):BoolIs b (b=true) (b=false):=⟨id,id⟩
instance (priority:=high) boolIs_t:BoolIs true True False:=⟨fun _=>trivial,(fun h=>by cases h)⟩
instance (priority:=high) boolIs_f:BoolIs false False True:=⟨(fun h=>by cases h),fun _=>trivial⟩
instance boolIs_dec(p:Prop)[inst:Decidable p]:BoolIs (decide p) p (¬p):=⟨of_decide_eq_true,of_decide_eq_false⟩
instance boolIs_not(b:Bool)(p q:Prop)[h:BoolIs b p q]:BoolIs (!b) q p:=⟨fun e=>h.no (by cases b<;>simp_all),fun e=>h.yes (by cases b<;>simp_all)⟩
inductive NotLit(b:Bool):Prop
 |mk
structure Two(A B:Prop):Prop where
 a:A
 b:B
class T2(p q A B:Prop)(C:outParam Prop):Prop where
 to:C->(p->A)/\(q->B)
instance (priority:=low) t2_two (p q A B:Prop):T2 p q A B (Two (p->A) (q->B)):=⟨fun h=>⟨h.a,h.b⟩⟩
instance (priority:=high) t2_a (A B:Prop):T2 True False A B A:=⟨fun h=>⟨fun _=>h,False.elim⟩⟩
instance (priority:=high) t2_b (A B:Prop):T2 False True A B B:=⟨fun h=>⟨False.elim,fun _=>h⟩⟩
theorem sd{p:Prop}(h:p:=by first|assumption|omega|simp):p:=h
theorem tdH{p:Prop}(h:p:=by(and_intros<;>first|trivial|assumption|omega|(simp;done)|(simp;omega))):p:=h
theorem tdS{F p:Prop}(fx:Hold F)(h:Hold F->p:=by intro fx;simp(disch:=first|omega|assumption) [At,big1,big2,w7,D0,C0,CZ,BZ,D1,CY,BV,Bs,BU,Br,BW,BT,EU,fx.get]<;>(try simp only[Bi,Bj,AV,Bh,AN,AY,AX,AW,AU,AM,AT,AS,AR])<;>first|rfl|(and_intros<;>rfl)):p:=h fx
theorem tdE{F p:Prop}(fx:Hold F)(h:Hold F->p:=by intro fx;simp(disch:=first|omega|assumption) [At,big1,big2,w7,D0,C0,CZ,BZ,D1,CY,BV,Bs,BU,Br,BW,BT,EU,fx.get]<;>first|rfl|(and_intros<;>rfl)):p:=h fx
theorem tdC{F p:Prop}(fx:Hold F)(h:Hold F->p:=by intro fx;simp(disch:=first|omega|assumption) [At,big1,big2,w7,D0,C0,CZ,BZ,D1,CY,BV,Bs,BU,Br,BW,BT,EU,fx.get]<;>fail):p:=h fx
theorem tdF{p:Prop}(h:p:=by simp<;>(try simp only[Bi,Bj,AV,Bh,AN,AY,AX,AW,AU,AM,AT,AS,AR])<;>rfl):p:=h
theorem litT:NotLit true:=.mk
theorem litF:NotLit false:=.mk
section
variable {P:Program}{ro:Ro}{n:Nat}{ops:Array Oper}{N:Nat}{S0:Sig}{Q:DX->St->Prop}{df:List DDf}{rest:List Oper}{γ Sr:List (Nat×D)}{O:Sig}{t:Nat}{ty:TypeId}{pos:String}{after:Array Edge}{l:List (Bool×Oper)}{d:D}
theorem VL{fop:Operand}{args:Array Operand}{ats:Array TypeId}{f:Nat}{first cap us:List D}{H:Prop}(k1:DOps prog ro n ops Q rest ⟨(t,d)::γ,O,df⟩)(hl:A0 γ (A5 (fop::args.toList))=some Sr:=by exact tdR)(hf:ev Sr fop=.func (.func f) first cap:=by exact tdR)(ha:first++args.toList.map (ev Sr)++cap=us:=by exact td0)(hs:Ans f us O H d:=by infer_instance)(hH:H:=by exact tdH)(aa:decide (t<n)=true:=by exact tdR):DOps prog ro n ops Q (⟨some t,(cv fop args ats),ty,pos,after,none⟩::rest) ⟨γ,O,df⟩:=Jx hl hf ha (.inl rfl) (hs.call hH) aa k1
theorem Tz{fop:Operand}{args:Array Operand}{ats:Array TypeId}{f:Nat}{first cap us:List D}{j:Nat}{want:Bool}{k:Nat}{H:Prop}(k1:DOps prog ro n ops Q rest ⟨(t,d)::γ,O,df⟩)(hk:(ops[j]?).bind (·.dst)=some k:=by exact tdR)(hb:γ.lookup k=some (.bool want):=by exact tdR)(hl:A0 γ (A5 (fop::args.toList))=some Sr:=by exact tdR)(hf:ev Sr fop=.func (.func f) first cap:=by exact tdR)(ha:first++args.toList.map (ev Sr)++cap=us:=by exact td0)(hs:Ans f us O H d:=by infer_instance)(hH:H:=by exact tdH)(aa:decide (t<n)=true:=by exact tdR):DOps prog ro n ops Q (⟨some t,(cv fop args ats),ty,pos,after,some (j,want)⟩::rest) ⟨γ,O,df⟩:=HV hk hb hl hf ha (.inl rfl) (hs.call hH) aa k1
theorem moIR{fop:Operand}{args:Array Operand}{ats:Array TypeId}{f:Nat}{first cap us:List D}{H:Prop}{l:List (Bool×Oper)}(k1:MO prog ro n ops N S0 Q df l ((t,d)::γ) O)(hl:A0 γ (A5 (fop::args.toList))=some Sr:=by exact tdR)(hf:ev Sr fop=.func (.func f) first cap:=by exact tdR)(ha:first++args.toList.map (ev Sr)++cap=us:=by exact td0)(hs:Ans f us O H d:=by infer_instance)(hH:H:=by exact tdH)(hC:Sub S0 O:=by first|exact Sub.refl _|assumption)(aa:decide (t<n)=true:=by exact tdR):MO prog ro n ops N S0 Q df ((true,⟨some t,(cv fop args ats),ty,pos,after,none⟩)::l) γ O:=Ue hl hf ha (.inl rfl) (hs.call hH) aa hC k1
theorem moIRG{fop:Operand}{args:Array Operand}{ats:Array TypeId}{f:Nat}{first cap us:List D}{j:Nat}{want:Bool}{k:Nat}{H:Prop}{l:List (Bool×Oper)}(k1:MO prog ro n ops N S0 Q df l ((t,d)::γ) O)(hk:(ops[j]?).bind (·.dst)=some k:=by exact tdR)(hb:γ.lookup k=some (.bool want):=by exact tdR)(hl:A0 γ (A5 (fop::args.toList))=some Sr:=by exact tdR)(hf:ev Sr fop=.func (.func f) first cap:=by exact tdR)(ha:first++args.toList.map (ev Sr)++cap=us:=by exact td0)(hs:Ans f us O H d:=by infer_instance)(hH:H:=by exact tdH)(hC:Sub S0 O:=by first|exact Sub.refl _|assumption)(aa:decide (t<n)=true:=by exact tdR):MO prog ro n ops N S0 Q df ((true,⟨some t,(cv fop args ats),ty,pos,after,some (j,want)⟩)::l) γ O:=QL hk hb hl hf ha (.inl rfl) (hs.call hH) aa hC k1
theorem needIR{fop:Operand}{args:Array Operand}{ats:Array TypeId}{f:Nat}{first cap us:List D}{H p q:Prop}{b b':Bool}{u d:D}{dst:Option Tmp}{C:Prop}(kc:C)(hl:A0 γ (A5 (fop::args.toList))=some Sr:=by exact tdR)(hf:ev Sr fop=.func (.func f) first cap:=by exact tdR)(ha:first++args.toList.map (ev Sr)++cap=us:=by exact td0)(hs:Giv f us O H b d u:=by infer_instance)(he:b=b':=by first|assumption|exact rfl)(ah:BoolIs b' p q:=by infer_instance)(hz:T2 p q (DOps prog ro n ops Q rest ⟨putD dst d γ,O,df⟩) (Q (.panic u) ⟨γ,O,df⟩) C:=by infer_instance)(hH:H:=by exact tdH)(ho:Ar n ⟨dst,(cv fop args ats),ty,pos,after,none⟩=true:=by exact tdR):DOps prog ro n ops Q (⟨dst,(cv fop args ats),ty,pos,after,none⟩::rest) ⟨γ,O,df⟩:=needR (hs.call hH) (fun h=>(hz.to kc).1 (ah.yes (he.symm.trans h))) (fun h=>(hz.to kc).2 (ah.no (he.symm.trans h))) (hl:=hl) (hf:=hf) (ha:=ha) (hp:=rfl) (ho:=ho)
theorem cndX{c:Nat}{x y:Code}{b:Bool}{p q C:Prop}(kc:C)(hl:γ.lookup c=some (.bool b):=by exact tdR)(au:NotLit b:=by((fail_if_success (with_reducible exact litT));(fail_if_success (with_reducible exact litF));exact NotLit.mk))(ah:BoolIs b p q:=by infer_instance)(hz:T2 p q (DWp P ro n x Q ⟨(c,.bool true)::γ,O,df⟩) (DWp P ro n y Q ⟨(c,.bool false)::γ,O,df⟩) C:=by infer_instance):DWp P ro n (.cond (.tmp c) x y) Q ⟨γ,O,df⟩:=cndB (fun h=>(hz.to kc).1 (ah.yes h)) (fun h=>(hz.to kc).2 (ah.no h)) hl
theorem splX{dst:Option Tmp}{op:Op}{j:Nat}{want:Bool}{k:Nat}{b:Bool}{p q C:Prop}(kc:C)(hk:(ops[j]?).bind (·.dst)=some k:=by exact tdR)(hb:γ.lookup k=some (.bool b):=by exact tdR)(au:NotLit b:=by((fail_if_success (with_reducible exact litT));(fail_if_success (with_reducible exact litF));exact NotLit.mk))(ah:BoolIs b p q:=by infer_instance)(hz:T2 p q (DOps P ro n ops Q (⟨dst,op,ty,pos,after,some (j,want)⟩::rest) ⟨(k,.bool true)::γ,O,df⟩) (DOps P ro n ops Q (⟨dst,op,ty,pos,after,some (j,want)⟩::rest) ⟨(k,.bool false)::γ,O,df⟩) C:=by infer_instance):DOps P ro n ops Q (⟨dst,op,ty,pos,after,some (j,want)⟩::rest) ⟨γ,O,df⟩:=OV hk hb (fun h=>(hz.to kc).1 (ah.yes h)) (fun h=>(hz.to kc).2 (ah.no h))
theorem moSX{e:Bool}{l:List (Bool×Oper)}{dst:Option Tmp}{op:Op}{j:Nat}{want:Bool}{k:Nat}{b:Bool}{p q C:Prop}(kc:C)(hk:(ops[j]?).bind (·.dst)=some k:=by exact tdR)(hb:γ.lookup k=some (.bool b):=by exact tdR)(au:NotLit b:=by((fail_if_success (with_reducible exact litT));(fail_if_success (with_reducible exact litF));exact NotLit.mk))(ah:BoolIs b p q:=by infer_instance)(hz:T2 p q (MO P ro n ops N S0 Q df ((e,⟨dst,op,ty,pos,after,some (j,want)⟩)::l) ((k,.bool true)::γ) O) (MO P ro n ops N S0 Q df ((e,⟨dst,op,ty,pos,after,some (j,want)⟩)::l) ((k,.bool false)::γ) O) C:=by infer_instance):MO P ro n ops N S0 Q df ((e,⟨dst,op,ty,pos,after,some (j,want)⟩)::l) γ O:=Uc hk hb (fun h=>(hz.to kc).1 (ah.yes h)) (fun h=>(hz.to kc).2 (ah.no h))
end
abbrev OT:=List (Nat×Bool×List (Nat×Nat)×List Nat)
def runO:List (Nat×Nat)->List Nat
 |[]=>[]
 |(a,k)::r=>List.range' a k++runO r
def lookO(i:Nat):OT->Option (List Nat×List Nat)
 |[]=>none
 |(j,_,o,e)::r=>if i==j then some (runO o,e) else lookO i r
def VA(i:Nat):OT->Option (List Nat×List Nat)
 |[]=>none
 |(j,b,o,e)::r=>if i==j&&b then some ((runO o).dropLast,e.filter fun x=>x+1 != (runO o).length) else VA i r
structure Tab(t:OT):Prop
def delO(i:Nat)(t:OT):OT:=t.filter fun x=>x.1 != i
section
variable {P:Program}{ro:Ro}{n:Nat}{Q:DX->St->Prop}{df:List DDf}{γ:List (Nat×D)}{O:Sig}
theorem mixX{lo:List Oper}{id:Nat}{tb:OT}(_:Tab tb){ord E:List Nat}{lp:List (Bool×Oper)}(h:MO prog ro n lo.toArray 431 O Q df lp γ O)(hk:lookO id tb=some (ord,E):=by exact tdR)(hB:Ex lo.toArray E ord=true:=by kernel_rfl)(hl:I7 lo E ord=some lp:=by exact tdR):DWp prog ro n (.region id lo.toArray true) Q ⟨γ,O,df⟩:=mix ord E h hB hl
theorem mixY{lo:List Oper}{id:Nat}{tb:OT}(_:Tab tb){ord E:List Nat}{lp:List (Bool×Oper)}{ol:Oper}(h:MO prog ro n lo.toArray 431 O (Then (fun s=>DOps prog ro n lo.toArray Q [ol] s) Q) df lp γ O)(hk:VA id tb=some (ord,E):=by exact tdR)(hB:Ii lo.toArray E ord=true:=by kernel_rfl)(aC:nthO lo (lo.length-1)=some ol:=by exact tdR)(hl:I7 lo E ord=some lp:=by exact tdR):DWp prog ro n (.region id lo.toArray true) Q ⟨γ,O,df⟩:=mixL ord E h hB aC hl
end
theorem walkQ{F G' G:Prop}{tb:OT}{vars:List Nat} (hs:VarsAre vars->Hold F->Tab tb->Hold G'->G:=by
 intro hv fx tb hG
 repeat1' (first
  |(with_reducible first|refine FG ?_|refine HP ?_|refine Kp ?_|refine GK ?_|refine H3 ?_|refine KO ?_|refine Rd (by decide) ?_|refine Nd ?_|refine Iw ?_|refine IK ?_|refine IL ?_|refine KV ?_|refine KW ?_|refine Nq ?_|refine Au ?_|refine GA ?_|refine QH ?_)
  |((with_reducible refine G0 (d:=?_) (Sr:=?_) Ad ?h1 ?h2 ?hl ?hd ?_);(case h1=>rfl);(case h2=>rfl);(case hl=>rfl);(case hd=>exact tdS fx))
  |((with_reducible refine GN (d:=?_) (k:=?_) (Sr:=?_) Ad ?h1 ?h2 ?hk ?hb ?hl ?hd ?_);(case h1=>rfl);(case h2=>rfl);(case hk=>rfl);(case hb=>rfl);(case hl=>rfl);(case hd=>exact tdS fx))
  |((with_reducible refine step_read0 (d:=?_) (Sr:=?_) Ad ?h1 ?hl ?hd ?_);(case h1=>rfl);(case hl=>rfl);(case hd=>exact tdS fx))
  |((with_reducible refine KF (d:=?_) (Sr:=?_) Ad ?h1 ?h2 ?hl ?hd ?_);(case h1=>rfl);(case h2=>rfl);(case hl=>rfl);(case hd=>exact tdS fx))
  |((with_reducible refine KE (d:=?_) (k:=?_) (Sr:=?_) Ad ?h1 ?h2 ?hk ?hb ?hl ?hd ?_);(case h1=>rfl);(case h2=>rfl);(case hk=>rfl);(case hb=>rfl);(case hl=>rfl);(case hd=>exact tdS fx))
  |((with_reducible refine mo_read0 (d:=?_) (Sr:=?_) Ad ?h1 ?hl ?hd ?_);(case h1=>rfl);(case hl=>rfl);(case hd=>exact tdS fx))
  |((with_reducible refine HT (k:=?_) Ac ?hk ?hb ?h1 ?h2 ?_);(case hk=>rfl);(case hb=>rfl);(case h1=>rfl);(case h2=>rfl))
  |((with_reducible refine GM (k:=?_) Ac ?hk ?hb ?h1 ?h2 ?_);(case hk=>rfl);(case hb=>rfl);(case h1=>rfl);(case h2=>rfl))
  |((with_reducible refine step_skip0 (k:=?_) Ac ?hk ?hb ?h1 ?_);(case hk=>rfl);(case hb=>rfl);(case h1=>rfl))
  |((with_reducible refine step_skipU0 (k:=?_) Ac ?hk ?hb ?h1 ?_);(case hk=>rfl);(case hb=>rfl);(case h1=>rfl))
  |((with_reducible refine KD (k:=?_) ?hk ?hb ?h1 ?h2 ?_);(case hk=>rfl);(case hb=>rfl);(case h1=>rfl);(case h2=>rfl))
  |((with_reducible refine mo_skipU (k:=?_) ?hk ?hb ?h1 ?h2 ?_);(case hk=>rfl);(case hb=>rfl);(case h1=>rfl);(case h2=>rfl))
  |((with_reducible refine mo_skip0 (k:=?_) ?hk ?hb ?h1 ?_);(case hk=>rfl);(case hb=>rfl);(case h1=>rfl))
  |((with_reducible refine mo_skipU0 (k:=?_) ?hk ?hb ?h1 ?_);(case hk=>rfl);(case hb=>rfl);(case h1=>rfl))
  |((with_reducible refine Ks (d:=?_) (U':=?_) (Sr:=?_) Ad ?hl ?he ?h1 ?_);(case hl=>rfl);(case he=>exact tdE fx);(case h1=>rfl))
  |((with_reducible refine DP (d:=?_) (U':=?_) (Sr:=?_) Ad ?hl ?he ?_);(case hl=>rfl);(case he=>exact tdE fx))
  |((with_reducible refine N8 (d:=?_) (U':=?_) (Sr:=?_) Ad ?hl ?he ?h1 ?hC ?_);(case hl=>rfl);(case he=>exact tdE fx);(case h1=>rfl);(case hC=>first|exact Sub.refl _|assumption|exact(Sub.refl _).set (by assumption)))
  |((with_reducible refine FK (d:=?_) (U':=?_) (Sr:=?_) Ad ?hl ?he ?hC ?_);(case hl=>rfl);(case he=>exact tdE fx);(case hC=>first|exact Sub.refl _|assumption|exact(Sub.refl _).set (by assumption)))
  |((with_reducible refine step_neqS (r:=?_) (Sr:=?_) (xs:=?_) (ys:=?_) (fs:=?_) Ad ?hE ?h1 ?hl ?hx ?hy ?hk ?hd ?_);(case hE=>with_reducible first|exact eqTy63|exact eqTy150);(case h1=>rfl);(case hl=>rfl);(case hx=>rfl);(case hy=>rfl);(case hk=>simp<;>rfl);(case hd=>exact tdE fx))
  |((with_reducible refine If (r:=?_) (Sr:=?_) (xs:=?_) (ys:=?_) (fs:=?_) Ad ?hE ?h1 ?hl ?hx ?hy ?hk ?hd ?_);(case hE=>with_reducible first|exact eqTy63|exact eqTy150);(case h1=>rfl);(case hl=>rfl);(case hx=>rfl);(case hy=>rfl);(case hk=>simp<;>rfl);(case hd=>exact tdE fx))
  |((with_reducible refine GP (Sr:=?_) ?hl ?hc ?_);(case hl=>rfl);(case hc=>exact tdC fx))
  |((with_reducible refine GQ (Sr:=?_) ?hl ?hc ?_);(case hl=>rfl);(case hc=>exact tdC fx))
  |((with_reducible refine HU (d:=?_) (cs:=?_) (Sr:=?_) hv Ad ?h1 ?h2 ?h3 ?h4 ?h5 ?hl ?he ?h6 ?h7 ?h8 ?h9 ?_);(case h1=>rfl);(case h2=>rfl);(case h3=>rfl);(case h4=>rfl);(case h5=>simp);(case hl=>rfl);(case he=>exact tdF);(case h6=>rfl);(case h7=>exact tdF);(case h8=>simp);(case h9=>simp))
  |((with_reducible refine GO (d:=?_) (d2:=?_) (cs:=?_) (Sr:=?_) (Sr2:=?_) hv Ad ?h1 ?h2 ?h3 ?h4 ?h5 ?g1 ?g2 ?g3 ?g4 ?gl ?ge ?hl ?he ?h6 ?h7 ?h8 ?h9 ?_);(case h1=>rfl);(case h2=>rfl);(case h3=>rfl);(case h4=>rfl);(case h5=>rfl);(case g1=>rfl);(case g2=>rfl);(case g3=>rfl);(case g4=>simp);(case gl=>rfl);(case ge=>exact tdF);(case hl=>rfl);(case he=>exact tdF);(case h6=>rfl);(case h7=>exact tdF);(case h8=>simp);(case h9=>simp))
  |with_reducible refine VL ?_
  |with_reducible refine Tz ?_
  |with_reducible refine moIR ?_
  |with_reducible refine moIRG ?_
  |with_reducible refine callIP ?_
  |with_reducible refine callIPG ?_
  |with_reducible refine moIP ?_
  |with_reducible refine moIPG ?_
  |with_reducible refine nilE ?_
  |with_reducible refine nilN ?_
  |with_reducible refine boolE ?_
  |with_reducible refine boolN ?_
  |with_reducible refine Mm ?_
  |with_reducible refine Mn ?_
  |with_reducible refine mixY tb ?_
  |with_reducible refine mixX tb ?_
  |with_reducible refine needIR ?_
  |with_reducible refine needIP ?_
  |with_reducible refine moNeedIR ?_
  |with_reducible refine moNeedIP ?_
  |with_reducible refine cndX ?_
  |with_reducible refine splX ?_
  |with_reducible refine moSX ?_)
 exact hG.get):VarsAre vars->Hold F->Tab tb->Hold G'->G:=hs
theorem gf{F G' G:Prop}(fx:F)(h:G')(tb:OT:=[])(vars:List Nat:=[])(hs:VarsAre vars->Hold F->Tab tb->Hold G'->G:=by exact walkQ):G:=hs ⟨⟩ ⟨fx⟩ ⟨⟩ ⟨h⟩
theorem gz{G' G:Prop}(h:G')(tb:OT:=[])(vars:List Nat:=[])(hs:VarsAre vars->Hold True->Tab tb->Hold G'->G:=by exact walkQ):G:=hs ⟨⟩ ⟨trivial⟩ ⟨⟩ ⟨h⟩
theorem gi{a b:Prop}(x:a)(y:b):a/\b:=⟨x,y⟩
theorem en {f m : Nat} {fn : Func} {c : Code} {args : List D} {O : Sig} {R : DE -> Sig -> Prop} (hf : prog.funcs[f]? = some fn) (hm : fn.ntmps = m) (h : DWp prog .none m c (Dp prog m fn R) { γ := Bo 0 args, O }) (hb : fn.body = some c := by exact rfl) (aq : (fn.name == "runtime.NumGoroutine") = false := by decide) (hn : args.length <= m := by simp) : DCall prog f args O R := L2 hf hb aq hm hn h
theorem gy{A B:Prop}(a:A)(b:B):Two A B:=⟨a,b⟩
theorem tdV{F p:Prop} (h:Hold F->p:=by
 intro fx
 have hF:=fx.get
 clear fx
 first|rfl|(simp[hF];done)|(simp_all;done)|(rw[Ag,Bool.eq_iff_iff];simp_all<;>omega)):Hold F->p:=h
section
variable {P:Program}{n:Nat}{γ:List (Nat×D)}{O:Sig}
theorem fe1{F:Prop}{fn:Func}{v:DE}{U':Sig}{t:Nat}{d d':D}(fx:F)(hU:Sub U' O:=by exact tdU)(hr:fn.results=#[.tmp t]:=by exact tdR)(hl:γ.lookup t=some d:=by exact tdR)(hw:WkD d d':=by exact tdW)(hq:Hold F->DE.ret d'=v:=by first|exact tdV|fail):Dp P n fn (fun x τ=>x=v/\τ=U') .ret ⟨γ,O,[]⟩:=fin1 ⟨hq ⟨fx⟩,rfl⟩ hU hr hl hw
theorem fe0{F:Prop}{fn:Func}{v:DE}{U':Sig}(fx:F)(hU:Sub U' O:=by exact tdU)(hr:fn.results=#[]:=by exact tdR)(hq:Hold F->DE.ret (.tup [])=v:=by first|exact tdV|fail):Dp P n fn (fun x τ=>x=v/\τ=U') .ret ⟨γ,O,[]⟩:=fin0 ⟨hq ⟨fx⟩,rfl⟩ hU hr
theorem fe2{F:Prop}{fn:Func}{v:DE}{U':Sig}{t u:Nat}{d d' e e':D}(fx:F)(hU:Sub U' O:=by exact tdU)(hr:fn.results=#[.tmp t,.tmp u]:=by exact tdR)(hl:γ.lookup t=some d:=by exact tdR)(ar:γ.lookup u=some e:=by exact tdR)(ap:decide (u=t)=false:=by exact tdR)(hw:WkD d d':=by exact tdW)(am:WkD e e':=by exact tdW)(hq:Hold F->DE.ret (.tup [d',e'])=v:=by first|exact tdV|fail):Dp P n fn (fun x τ=>x=v/\τ=U') .ret ⟨γ,O,[]⟩:=fin2 ⟨hq ⟨fx⟩,rfl⟩ hU hr hl ar ap hw am
end
theorem td1{p:Prop}(h:p:=by first|omega|(simp;omega)):p:=h
theorem td2{p:Prop}(h:p:=by first|omega|(simp_all;done)|(simp_all;omega)):p:=h
theorem td3{p:Prop}(h:p:=by first|omega|simp):p:=h
theorem goX1{F G' G:Prop}(fx:F)(h:G') (hs:VarsAre []->Hold F->Hold G'->G:=by
 intro hv fx hG
 (first
  |(with_reducible first|refine FG ?_|refine HP ?_|refine Kp ?_|refine GK ?_|refine H3 ?_|refine KO ?_|refine Rd (by decide) ?_|refine Nd ?_|refine Iw ?_|refine IK ?_|refine IL ?_|refine KV ?_|refine KW ?_|refine Nq ?_|refine Au ?_|refine GA ?_|refine QH ?_)
  |((with_reducible refine G0 (d:=?_) (Sr:=?_) Ad ?h1 ?h2 ?hl ?hd ?_);(case h1=>rfl);(case h2=>rfl);(case hl=>rfl);(case hd=>exact tdS fx))
  |((with_reducible refine GN (d:=?_) (k:=?_) (Sr:=?_) Ad ?h1 ?h2 ?hk ?hb ?hl ?hd ?_);(case h1=>rfl);(case h2=>rfl);(case hk=>rfl);(case hb=>rfl);(case hl=>rfl);(case hd=>exact tdS fx))
  |((with_reducible refine step_read0 (d:=?_) (Sr:=?_) Ad ?h1 ?hl ?hd ?_);(case h1=>rfl);(case hl=>rfl);(case hd=>exact tdS fx))
  |((with_reducible refine KF (d:=?_) (Sr:=?_) Ad ?h1 ?h2 ?hl ?hd ?_);(case h1=>rfl);(case h2=>rfl);(case hl=>rfl);(case hd=>exact tdS fx))
  |((with_reducible refine KE (d:=?_) (k:=?_) (Sr:=?_) Ad ?h1 ?h2 ?hk ?hb ?hl ?hd ?_);(case h1=>rfl);(case h2=>rfl);(case hk=>rfl);(case hb=>rfl);(case hl=>rfl);(case hd=>exact tdS fx))
  |((with_reducible refine mo_read0 (d:=?_) (Sr:=?_) Ad ?h1 ?hl ?hd ?_);(case h1=>rfl);(case hl=>rfl);(case hd=>exact tdS fx))
  |((with_reducible refine HT (k:=?_) Ac ?hk ?hb ?h1 ?h2 ?_);(case hk=>rfl);(case hb=>rfl);(case h1=>rfl);(case h2=>rfl))
  |((with_reducible refine GM (k:=?_) Ac ?hk ?hb ?h1 ?h2 ?_);(case hk=>rfl);(case hb=>rfl);(case h1=>rfl);(case h2=>rfl))
  |((with_reducible refine step_skip0 (k:=?_) Ac ?hk ?hb ?h1 ?_);(case hk=>rfl);(case hb=>rfl);(case h1=>rfl))
  |((with_reducible refine step_skipU0 (k:=?_) Ac ?hk ?hb ?h1 ?_);(case hk=>rfl);(case hb=>rfl);(case h1=>rfl))
  |((with_reducible refine KD (k:=?_) ?hk ?hb ?h1 ?h2 ?_);(case hk=>rfl);(case hb=>rfl);(case h1=>rfl);(case h2=>rfl))
  |((with_reducible refine mo_skipU (k:=?_) ?hk ?hb ?h1 ?h2 ?_);(case hk=>rfl);(case hb=>rfl);(case h1=>rfl);(case h2=>rfl))
  |((with_reducible refine mo_skip0 (k:=?_) ?hk ?hb ?h1 ?_);(case hk=>rfl);(case hb=>rfl);(case h1=>rfl))
  |((with_reducible refine mo_skipU0 (k:=?_) ?hk ?hb ?h1 ?_);(case hk=>rfl);(case hb=>rfl);(case h1=>rfl))
  |((with_reducible refine Ks (d:=?_) (U':=?_) (Sr:=?_) Ad ?hl ?he ?h1 ?_);(case hl=>rfl);(case he=>exact tdE fx);(case h1=>rfl))
  |((with_reducible refine DP (d:=?_) (U':=?_) (Sr:=?_) Ad ?hl ?he ?_);(case hl=>rfl);(case he=>exact tdE fx))
  |((with_reducible refine N8 (d:=?_) (U':=?_) (Sr:=?_) Ad ?hl ?he ?h1 ?hC ?_);(case hl=>rfl);(case he=>exact tdE fx);(case h1=>rfl);(case hC=>first|exact Sub.refl _|assumption|exact(Sub.refl _).set (by assumption)))
  |((with_reducible refine FK (d:=?_) (U':=?_) (Sr:=?_) Ad ?hl ?he ?hC ?_);(case hl=>rfl);(case he=>exact tdE fx);(case hC=>first|exact Sub.refl _|assumption|exact(Sub.refl _).set (by assumption)))
  |((with_reducible refine step_neqS (r:=?_) (Sr:=?_) (xs:=?_) (ys:=?_) (fs:=?_) Ad ?hE ?h1 ?hl ?hx ?hy ?hk ?hd ?_);(case hE=>with_reducible first|exact eqTy63|exact eqTy150);(case h1=>rfl);(case hl=>rfl);(case hx=>rfl);(case hy=>rfl);(case hk=>simp<;>rfl);(case hd=>exact tdE fx))
  |((with_reducible refine If (r:=?_) (Sr:=?_) (xs:=?_) (ys:=?_) (fs:=?_) Ad ?hE ?h1 ?hl ?hx ?hy ?hk ?hd ?_);(case hE=>with_reducible first|exact eqTy63|exact eqTy150);(case h1=>rfl);(case hl=>rfl);(case hx=>rfl);(case hy=>rfl);(case hk=>simp<;>rfl);(case hd=>exact tdE fx))
  |((with_reducible refine GP (Sr:=?_) ?hl ?hc ?_);(case hl=>rfl);(case hc=>exact tdC fx))
  |((with_reducible refine GQ (Sr:=?_) ?hl ?hc ?_);(case hl=>rfl);(case hc=>exact tdC fx))
  |((with_reducible refine HU (d:=?_) (cs:=?_) (Sr:=?_) hv Ad ?h1 ?h2 ?h3 ?h4 ?h5 ?hl ?he ?h6 ?h7 ?h8 ?h9 ?_);(case h1=>rfl);(case h2=>rfl);(case h3=>rfl);(case h4=>rfl);(case h5=>simp);(case hl=>rfl);(case he=>exact tdF);(case h6=>rfl);(case h7=>exact tdF);(case h8=>simp);(case h9=>simp))
  |((with_reducible refine GO (d:=?_) (d2:=?_) (cs:=?_) (Sr:=?_) (Sr2:=?_) hv Ad ?h1 ?h2 ?h3 ?h4 ?h5 ?g1 ?g2 ?g3 ?g4 ?gl ?ge ?hl ?he ?h6 ?h7 ?h8 ?h9 ?_);(case h1=>rfl);(case h2=>rfl);(case h3=>rfl);(case h4=>rfl);(case h5=>rfl);(case g1=>rfl);(case g2=>rfl);(case g3=>rfl);(case g4=>simp);(case gl=>rfl);(case ge=>exact tdF);(case hl=>rfl);(case he=>exact tdF);(case h6=>rfl);(case h7=>exact tdF);(case h8=>simp);(case h9=>simp))
  |with_reducible refine VL ?_
  |with_reducible refine Tz ?_
  |with_reducible refine moIR ?_
  |with_reducible refine moIRG ?_
  |with_reducible refine callIP ?_
  |with_reducible refine callIPG ?_
  |with_reducible refine moIP ?_
  |with_reducible refine moIPG ?_
  |with_reducible refine nilE ?_
  |with_reducible refine nilN ?_
  |with_reducible refine boolE ?_
  |with_reducible refine boolN ?_
  |with_reducible refine Mm ?_
  |with_reducible refine Mn ?_)
 exact hG.get):G:=hs ⟨⟩ ⟨fx⟩ ⟨h⟩
def o4:OT:=[(6,false,[(0,6)],[]),(10,false,[(0,13)],[]),(12,false,[(0,12)],[]),(21,false,[(0,3),(4,4),(3,1),(8,7)],[3,8,12,13]),(22,false,[(0,15)],[8,9,12])]
def o5:OT:=[(16,false,[(0,52)],[49]),(18,true,[(0,6)],[5])]
def o6:OT:=[(11,false,[(0,42)],[])]
def o8:OT:=[(3,false,[(0,2),(3,2),(2,1),(5,16)],[2,5,10,18])]
def o13:OT:=[(4,true,[(0,9)],[7,8]),(7,false,[(0,5),(6,2),(5,1),(8,5)],[5,8]),(10,true,[(0,11)],[9,10]),(12,true,[(0,7)],[6])]
def o16:OT:=[(12,false,[(0,12)],[2,5,9,10]),(13,false,[(0,34)],[14])]
def o18:OT:=[(8,true,[(0,17)],[10,12,16])]
def o31:OT:=[(6,false,[(0,11)],[])]
def o36:OT:=[(21,false,[(0,8)],[2,4])]
def o40:OT:=[(13,true,[(1,3),(0,1),(4,3)],[0,6])]
def o43:OT:=[(11,true,[(0,8)],[3,5,7])]
def o48:OT:=[(5,false,[(0,10)],[5,8])]
def o53:OT:=[(6,false,[(0,9)],[])]
def o69:OT:=[(6,false,[(0,9)],[])]
def o87:OT:=[(10,false,[(0,1),(2,7),(1,1),(9,4)],[1])]
def o88:OT:=[(10,true,[(0,8)],[3,5,7])]
def o95:OT:=[(5,false,[(0,10)],[])]
def o98:OT:=[(10,false,[(0,22)],[20]),(20,true,[(0,7)],[6]),(22,true,[(0,10)],[9])]
def o99:OT:=[(10,false,[(0,10)],[]),(16,false,[(0,11)],[])]
def o107:OT:=[(1,false,[(0,12)],[10])]
def o108:OT:=[(3,false,[(0,13)],[6,10,11]),(4,true,[(0,13)],[8,12])]
def o109:OT:=[(1,false,[(0,2),(3,2),(2,1),(5,2)],[2,5])]
def o110:OT:=[(4,false,[(0,22)],[14,21])]
def o111:OT:=[(2,true,[(0,15)],[10,14])]
def o112:OT:=[(2,false,[(0,2),(3,2),(2,1),(5,2)],[2,5])]
def o113:OT:=[(3,false,[(0,1),(2,1),(1,1),(3,3)],[1,3])]
def o114:OT:=[(2,true,[(0,13)],[8,12])]
def o115:OT:=[(1,true,[(0,18)],[17])]
def o119:OT:=[(1,false,[(0,17)],[]),(2,true,[(0,25)],[12,16,20,24])]
def o131:OT:=[(10,true,[(0,7)],[6]),(12,true,[(0,7)],[6]),(15,true,[(0,7)],[6]),(17,true,[(0,7)],[6]),(19,true,[(0,7)],[6]),(21,true,[(0,7)],[6]),(24,true,[(0,7)],[6]),(8,true,[(0,1),(2,2),(5,2),(1,1),(4,1),(7,1)],[1,7])]
def o155:OT:=[(3,true,[(0,16)],[13,15])]
def o171:OT:=[(21,false,[(0,11)],[])]
def o177:OT:=[(1,true,[(0,13)],[8,12])]
def o180:OT:=[(3,false,[(0,9)],[]),(4,false,[(0,14)],[8])]
def o182:OT:=[(5,true,[(0,3),(4,5),(3,1),(9,3)],[3,9,11])]
def o195:OT:=[(14,true,[(0,8),(9,6),(8,1),(15,3)],[3,8,17]),(15,true,[(0,18)],[17])]
def o198:OT:=[(9,false,[(0,10)],[7])]
def o199:OT:=[(13,true,[(0,9)],[6,8])]
def o242:OT:=[(6,false,[(0,12)],[7,11]),(18,true,[(0,7)],[6])]
def o246:OT:=[(5,false,[(0,10)],[8]),(7,true,[(0,10)],[9])]
def o259:OT:=[(0,true,[(0,15)],[14])]
def o295:OT:=[(1,true,[(0,7)],[4,6])]
def o301:OT:=[(18,true,[(0,10)],[8,9]),(20,true,[(0,11)],[7,10])]
def o304:OT:=[(7,true,[(0,3),(4,2),(3,1),(6,2)],[3,7])]
def o342:OT:=[(1,true,[(0,7)],[6])]
def o344:OT:=[(6,true,[(0,8),(9,1),(8,1),(10,2)],[8,10,11])]
def o350:OT:=[(2,false,[(0,27)],[24])]
def o369:OT:=[(11,false,[(0,11)],[9])]
section
variable {P:Program}{ro:Ro}{n:Nat}{ops:Array Oper}{N:Nat}{S0:Sig}{Q:DX->St->Prop}{df:List DDf}{rest:List Oper}{γ Sr:List (Nat×D)}{O:Sig}{t:Nat}{ty:TypeId}{pos:String}{after:Array Edge}{l:List (Bool×Oper)}{d:D}{e:Bool}
theorem QG{P:Program}{fop:Operand}{args:Array Operand}{ats:Array TypeId}{f:Nat}{first cap us bs:List D}(hl:A0 γ (A5 (fop::args.toList))=some Sr)(hf:ev Sr fop=.func (.func f) first cap)(ha:first++args.toList.map (ev Sr)++cap=us)(hb:bs=us\/bs=us.map D.plain)
  (h:∀U',Sub S0 U'->DCall P f bs U' fun x S''=>x=.ret d/\Sub U' S'') (aa:decide (t<n)=true) (k:MO P ro n ops N S0 Q df l ((t,d)::γ) O) :
  MO P ro n ops N S0 Q df ((e,⟨some t,(cv fop args ats),ty,pos,after,none⟩)::l) γ O:=by
 have hx:∀x∈fop::args.toList,ev Sr x=ev γ x:=fun x hx=>B2 fun t ht=>Aq hl t (Ax (by rw[<-ht];exact hx))
 have ai:∀x∈((cv fop args ats)).operands,ev (only (Oper.looksAt ops ⟨some t,(cv fop args ats),ty,pos,after,none⟩) γ) x=ev γ x:=fun x hx=>Bl (o:=⟨some t,(cv fop args ats),ty,pos,after,none⟩) hx
 refine Hx d aa rfl (by rw[Af];rfl) (fun U' aF ro' df'=>?_) k
 refine Dg (first:=first) (cap:=cap) (f:=f) ?_ ?_ (h U' aF) ?_ aa ?_ ?_
 ·show Ay ops (only _ γ) _=some true
  rw[Af];rfl
 ·rw[ai fop (by simp[Op.operands,Call.operands]),<-hx fop (by simp)];exact hf
 ·simp only
  rw[show args.toList.map (ev (only (Oper.looksAt ops ⟨some t,(cv fop args ats),ty,pos,after,none⟩) γ))=args.toList.map (ev Sr) from List.map_congr_left fun x hm=>by
   rw[ai x (by simp at hm;simp[Op.operands,Call.operands,hm]),<-hx x (by simp[hm])],ha]
  rcases hb with rfl|rfl
  ·exact CO _
  ·exact Cq _
 ·rintro d' S'' ⟨h1,h2⟩
  cases h1
  exact Au ⟨rfl,by simp[putD,A4],h2⟩
 ·rintro d' S'' ⟨h1,h2⟩
  cases h1
theorem moQWR{fop:Operand}{args:Array Operand}{ats:Array TypeId}{f:Nat}{first cap us bs:List D}(h:∀U',Sub S0 U'->DCall prog f bs U' fun x S''=>x=.ret d/\Sub U' S'')(k1:MO prog ro n ops N S0 Q df l ((t,d)::γ) O)(hl:A0 γ (A5 (fop::args.toList))=some Sr:=by rfl)(hf:ev Sr fop=.func (.func f) first cap:=by rfl)(ha:first++args.toList.map (ev Sr)++cap=us:=by(simp(disch:=first|omega|assumption) [At,big1,big2,w7]<;>(try simp only[Bi,Bj,AV,Bh,AN,AY,AX,AW,AU,AM,AT,AS,AR])<;>with_unfolding_all rfl))(hp:bs=us:=by exact tdR)(aa:decide (t<n)=true:=by exact tdR):MO prog ro n ops N S0 Q df ((e,⟨some t,(cv fop args ats),ty,pos,after,none⟩)::l) γ O:=QG hl hf ha (.inl hp) h aa k1
end
section
variable {ro:Ro}{n:Nat}{ops:Array Oper}{N:Nat}{S0:Sig}{Q:DX->St->Prop}{df:List DDf}{rest:List Oper}{γ Sr:List (Nat×D)}{O:Sig}{t:Nat}{ty:TypeId}{pos:String}{after:Array Edge}
theorem eqlS{T u:Nat}{x y:Operand}{xs ys:List D}{gd:Option (Nat×Bool)}(fs:List (Nat×Nat))(r:Bool)(hE:EqTy prog T)(hk:(tab T).k=.struct fs)(hd:eqFs tab xs ys fs=some r)
  (h:DOps prog ro n ops Q rest ⟨(t,.bool r)::γ,O,df⟩) (hw:Ay ops γ ⟨some t,.binOp .eql T x y u,ty,pos,after,gd⟩=some true:=by exact tdR) (aa:decide (t<n)=true:=by exact tdR) (hl:A0 γ (A5 [x,y])=some Sr:=by exact tdR) (hx:ev Sr x=.agg xs:=by exact tdR) (hy:ev Sr y=.agg ys:=by exact tdR) :
  DOps prog ro n ops Q (⟨some t,.binOp .eql T x y u,ty,pos,after,gd⟩::rest) ⟨γ,O,df⟩:=by
 have hc:∀z∈[x,y],ev Sr z=ev γ z:=fun z hz=>B2 fun t ht=>Aq hl t (Ax (by rw[<-ht];exact hz))
 refine GC (d:=.bool r) hw (fun c e=>by cases e) (Aa fun c e=>by cases e) (fun g w a hs hT=>?_) aa h
 have:=HC (dst:=some t) (ty:=ty) (pos:=pos) (after:=after) (guard:=gd) (u:=u) Ad hs hT hE hk (by rw[<-hc x (by simp)];exact hx) (by rw[<-hc y (by simp)];exact hy) hd false
 simpa using this
theorem neqS{T u:Nat}{x y:Operand}{xs ys:List D}{gd:Option (Nat×Bool)}(fs:List (Nat×Nat))(r:Bool)(hE:EqTy prog T)(hk:(tab T).k=.struct fs)(hd:eqFs tab xs ys fs=some r)
  (h:DOps prog ro n ops Q rest ⟨(t,.bool (!r))::γ,O,df⟩) (hw:Ay ops γ ⟨some t,.binOp .neq T x y u,ty,pos,after,gd⟩=some true:=by exact tdR) (aa:decide (t<n)=true:=by exact tdR) (hl:A0 γ (A5 [x,y])=some Sr:=by exact tdR) (hx:ev Sr x=.agg xs:=by exact tdR) (hy:ev Sr y=.agg ys:=by exact tdR) :
  DOps prog ro n ops Q (⟨some t,.binOp .neq T x y u,ty,pos,after,gd⟩::rest) ⟨γ,O,df⟩:=by
 have hc:∀z∈[x,y],ev Sr z=ev γ z:=fun z hz=>B2 fun t ht=>Aq hl t (Ax (by rw[<-ht];exact hz))
 refine GC (d:=.bool (!r)) hw (fun c e=>by cases e) (Aa fun c e=>by cases e) (fun g w a hs hT=>?_) aa h
 have:=HC (dst:=some t) (ty:=ty) (pos:=pos) (after:=after) (guard:=gd) (u:=u) Ad hs hT hE hk (by rw[<-hc x (by simp)];exact hx) (by rw[<-hc y (by simp)];exact hy) hd true
 simpa using this
end
theorem DCallR.wk{P:Program}{ro:Ro}{f:Nat}{us bs:List D}{O:Sig}{R:DE->Sig->Prop}(h:DCallR P ro f bs O R)(ha:WkL us bs):DCallR P ro f us O R:=
 ⟨h.lt,h.ent,fun g w vs r aB hs hv=>h.run g w vs r aB hs (ha.rep hv)⟩
section
variable {P:Program}{ro:Ro}{n:Nat}{ops:Array Oper}{Q:DX->St->Prop}{df:List DDf}{rest:List Oper}{γ Sr:List (Nat×D)}{O:Sig}{t:Nat}{ty:TypeId}{pos:String}{after:Array Edge}
theorem Kb{fop:Operand}{args:Array Operand}{ats:Array TypeId}{f:Nat}{first cap us bs:List D}{R:DE->Sig->Prop}{dst:Option Tmp}{gd:Option (Nat×Bool)}
  (aj:Ay ops γ ⟨dst,(cv fop args ats),ty,pos,after,gd⟩=some true)
  (hl:A0 γ (A5 (fop::args.toList))=some Sr) (hf:ev Sr fop=.func (.func f) first cap) (ha:first++args.toList.map (ev Sr)++cap=us) (hw:bs=us\/bs=us.map D.plain) (h:DCallR P ro f bs O R)
  (ho:Ar n ⟨dst,(cv fop args ats),ty,pos,after,gd⟩=true)
  (ae:∀d U',R (.ret d) U'->DOps P ro n ops Q rest ⟨putD dst d γ,U',df⟩)
  (ag:∀d U',R (.panic d) U'->Q (.panic d) ⟨γ,U',df⟩) :
  DOps P ro n ops Q (⟨dst,(cv fop args ats),ty,pos,after,gd⟩::rest) ⟨γ,O,df⟩:=by
 have hx:∀x∈fop::args.toList,ev Sr x=ev γ x:=fun x hx=>B2 fun t ht=>Aq hl t (Ax (by rw[<-ht];exact hx))
 refine H8 aj (by rw[<-hx fop (by simp)];exact hf) (h.wk ?_) ho ae ag
 rw[show args.toList.map (ev γ)=args.toList.map (ev Sr) from List.map_congr_left fun x h=>(hx x (by simp[h])).symm,ha]
 rcases hw with rfl|rfl
 ·exact CO _
 ·exact Cq _
theorem Bn{fop:Operand}{args:Array Operand}{ats:Array TypeId}{f:Nat}{first cap us bs:List D}{R:DE->Sig->Prop}{dst:Option Tmp}(h:DCallR P ro f bs O R)(ae:∀d U',R (.ret d) U'->DOps P ro n ops Q rest ⟨putD dst d γ,U',df⟩)(ag:∀d U',R (.panic d) U'->Q (.panic d) ⟨γ,U',df⟩)(hl:A0 γ (A5 (fop::args.toList))=some Sr:=by exact tdR)(hf:ev Sr fop=.func (.func f) first cap:=by exact tdR)(ha:first++args.toList.map (ev Sr)++cap=us:=by exact td0)(hp:bs=us\/bs=us.map D.plain:=by first|exact .inl tdR|exact .inr tdR)
  (ho:Ar n ⟨dst,(cv fop args ats),ty,pos,after,none⟩=true:=by exact tdR):DOps P ro n ops Q (⟨dst,(cv fop args ats),ty,pos,after,none⟩::rest) ⟨γ,O,df⟩:=Kb rfl hl hf ha hp h ho ae ag
theorem Tw{fop:Operand}{args:Array Operand}{ats:Array TypeId}{f:Nat}{first cap us bs:List D}{R:DE->Sig->Prop}{dst:Option Tmp}{j:Nat}{want:Bool}{k:Nat}(h:DCallR P ro f bs O R)(ae:∀d U',R (.ret d) U'->DOps P ro n ops Q rest ⟨putD dst d γ,U',df⟩)(ag:∀d U',R (.panic d) U'->Q (.panic d) ⟨γ,U',df⟩)(hk:(ops[j]?).bind (·.dst)=some k:=by exact tdR)(hb:γ.lookup k=some (.bool want):=by exact tdR)(hl:A0 γ (A5 (fop::args.toList))=some Sr:=by exact tdR)(hf:ev Sr fop=.func (.func f) first cap:=by exact tdR)(ha:first++args.toList.map (ev Sr)++cap=us:=by exact td0)(hp:bs=us\/bs=us.map D.plain:=by first|exact .inl tdR|exact .inr tdR)
  (ho:Ar n ⟨dst,(cv fop args ats),ty,pos,after,some (j,want)⟩=true:=by exact tdR):DOps P ro n ops Q (⟨dst,(cv fop args ats),ty,pos,after,some (j,want)⟩::rest) ⟨γ,O,df⟩:=
 Kb (by simp only[Ay,CC hk hb];simp) hl hf ha hp h ho ae ag
end
section
variable {P:Program}{ro:Ro}{n:Nat}{ops:Array Oper}{Q:DX->St->Prop}{df:List DDf}{rest:List Oper}{γ Sr:List (Nat×D)}{O:Sig}{t:Nat}{ty:TypeId}{pos:String}{after:Array Edge}
theorem skipV{fop:Operand}{args:Array Operand}{ats:Array TypeId}{j:Nat}{want:Bool}(h:DOps P ro n ops Q rest ⟨(t,.tup [])::γ,O,df⟩)
  (ay:Ay ops γ ⟨some t,(cv fop args ats),ty,pos,after,some (j,want)⟩=some false:=by exact tdR) (hf:ev γ fop=.tup []:=by exact tdR) (aa:decide (t<n)=true:=by exact tdR) :
  DOps P ro n ops Q (⟨some t,(cv fop args ats),ty,pos,after,some (j,want)⟩::rest) ⟨γ,O,df⟩:=by
 intro g w a r hr ak
 unfold wpListIn
 rw[AH ak.tmps ay,if_neg (by simp)]
 have h0:Rep g (.tup []) undef:=⟨[],rfl,rfl⟩
 refine⟨fun f ax=>?_,h g w _ r hr (ak.put (o:=⟨some t,(cv fop args ats),ty,pos,after,some (j,want)⟩) (.refl g) ak.sim h0 aa)⟩
 have hv:=Ah ak.tmps fop
 rw[show ev (St.mk γ O df).γ fop=.tup [] from hf]at hv
 obtain⟨vs,hv,hr⟩:=hv
 simp only[Oper.about,resolve,hv,Deferred.ofValue]at ax
 exact(by simp[Sem.run]at ax:False).elim
end
theorem UB{P:Program}{n:Nat}{γ:Fr}{O:Sig}{fn:Func}{R:DE->Sig->Prop}{U':Sig}{t u:Nat}{d d' e e':D}(hR:R (.ret (.tup [d',e'])) U')(hU:Sub U' O:=by exact tdU)(hr:fn.results=#[.tmp t,.tmp u]:=by exact tdR)(hl:γ.lookup t=some d:=by exact tdR)(ar:γ.lookup u=some e:=by exact tdR)(ap:decide (u=t)=false:=by exact tdR)(hw:WkD d d':=by exact tdW)(am:WkD e e':=by exact tdW):Dp P n fn R .normal ⟨γ,O,[]⟩:=
 ⟨⟨[(t,d'),(u,e')],U',[]⟩,PT (show Tells γ [(t,d'),(u,e')] from ⟨by rw [An hl];exact hw,by rw [An ar];exact am,trivial⟩) hU,rfl, .tup [d',e'],CQ (by
  have:u≠t:=by simpa using ap
  simp[resD,hr,this]),DI hR⟩
theorem enW {f m : Nat} {fn : Func} {c : Code} {args : List D} {O : Sig} {R : DE -> Sig -> Prop} (hf : prog.funcs[f]? = some fn) (hm : fn.ntmps = m) (h : DWp prog .wide m c (Dp prog m fn R) { γ := Bo 0 args, O }) (hb : fn.body = some c := by exact rfl) (aq : (fn.name == "runtime.NumGoroutine") = false := by decide) (hn : args.length <= m := by simp) : BL prog f args O R := Jl hf hb aq hm hn h
section
variable {ro:Ro}{n:Nat}{ops:Array Oper}{N:Nat}{S0:Sig}{Q:DX->St->Prop}{df:List DDf}{γ Sr:List (Nat×D)}{O:Sig}{t:Nat}{ty:TypeId}{pos:String}{after:Array Edge}{e1 u1:Bool}{l:List (Bool×Bool×Oper)}
theorem mixU{lo:List Oper}{id:Nat}(ord E U:List Nat){lp:List (Bool×Bool×Oper)}(h:MO3 prog ro n lo.toArray 431 O Q df tab lp γ O)(hB:GX lo.toArray E U ord=true:=by kernel_rfl)(hA:allOK tab n lo.toArray=true:=by exact tdR)(hl:Qr lo E U ord=some lp:=by exact tdR):DWp prog ro n (.region id lo.toArray true) Q ⟨γ,O,df⟩:=
 Va Ad Ac mixed ord E U O hB hA (Sub.refl _) hl h
theorem u3R(d:D){op:Op}(h:MO3 prog ro n ops N S0 Q df tab l ((t,d)::γ) O)(hr:Dl op=true:=by rfl)(aa:decide (t<n)=true:=by exact tdR)(hl:A0 γ (A5 op.operands.toList)=some Sr:=by exact tdR)(hd:dopX tab Sr S0 op=some d:=by first|with_unfolding_all rfl|(simp;done)|(simp;rfl)):MO3 prog ro n ops N S0 Q df tab ((e1,u1,⟨some t,op,ty,pos,after,none⟩)::l) γ O:=
 Ui Ad hr aa hl hd h
theorem u3A(z:List D){T:Nat}(h:∀k,O k=none->MO3 prog ro n ops N S0 Q df tab l ((t,.ptr k 0)::γ) (O.set k (.cells z)))(hz:(tab T).zero=z:=by(simp<;>rfl)):MO3 prog ro n ops N S0 Q df tab ((e1,u1,⟨some t,.alloc T,ty,pos,after,none⟩)::l) γ O:=by
 subst hz;exact QN h
theorem u3C(Rr:Sig->D->Sig->Prop){fop:Operand}{args:Array Operand}{ats:Array TypeId}{f:Nat}{first cap us bs:List D}(h:∀τ,DCall prog f bs τ fun x X'=> ∃d,x=.ret d/\Rr τ d X')(hn:∀τ k x d X',τ k=none->Rr (τ.set k x) d X'->∃U',Rr τ d U'/\U' k=none/\X'=U'.set k x)(ae:∀d U',Rr O d U'->Sub S0 U'/\MO3 prog ro n ops N S0 Q df tab l ((t,d)::γ) U')(hl:A0 γ (A5 (fop::args.toList))=some Sr:=by exact tdR)(hf:ev Sr fop=.func (.func f) first cap:=by exact tdR)(ha:first++args.toList.map (ev Sr)++cap=us:=by exact td0)(hp:bs=us\/bs=us.map D.plain:=by first|exact .inl tdR|exact .inr tdR)
  (ho:Ar n ⟨some t,(cv fop args ats),ty,pos,after,none⟩=true:=by exact tdR):MO3 prog ro n ops N S0 Q df tab ((e1,true,⟨some t,(cv fop args ats),ty,pos,after,none⟩)::l) γ O:=by
 have hx:∀x∈fop::args.toList,ev Sr x=ev γ x:=fun x hx=>B2 fun t ht=>Aq hl t (Ax (by rw[<-ht];exact hx))
 have ai:∀x∈((cv fop args ats)).operands,ev (only (Oper.looksAt ops ⟨some t,(cv fop args ats),ty,pos,after,none⟩) γ) x=ev γ x:=fun x hx=>Bl (o:=⟨some t,(cv fop args ats),ty,pos,after,none⟩) hx
 refine mo3_u rfl (.inr (.inr ⟨Rr,fun τ=>⟨ho,by rw[Af];rfl,?_⟩,hn,ae⟩))
 refine Dg (first:=first) (cap:=cap) (f:=f) (R:=fun x X'=> ∃d,x=.ret d/\Rr τ d X') ?_ ?_ (h τ) ?_ ho ?_ ?_
 ·show Ay ops (only _ γ) _=some true
  rw[Af];rfl
 ·rw[ai fop (by simp[Op.operands,Call.operands]),<-hx fop (by simp)];exact hf
 ·simp only
  rw[show args.toList.map (ev (only (Oper.looksAt ops ⟨some t,(cv fop args ats),ty,pos,after,none⟩) γ))=args.toList.map (ev Sr) from List.map_congr_left fun x hm=>by
   rw[ai x (by simp at hm;simp[Op.operands,Call.operands,hm]),<-hx x (by simp[hm])],ha]
  rcases hp with rfl|rfl
  ·exact CO _
  ·exact Cq _
 ·rintro d U' ⟨d',hd,hR⟩
  cases hd
  refine Au ⟨rfl,?_⟩
  simp only[putD,A4,if_true]
  exact hR
 ·rintro d U' ⟨d',hd,hR⟩
  cases hd
theorem u3M(h:MO prog ro n ops N S0 Q df (l.map fun p=>(p.1,p.2.2)) γ O)(hl:(l.all fun p=> !(isAl p.2.2).isSome)=true:=by rfl):MO3 prog ro n ops N S0 Q df tab l γ O:=Ih hl h
end
section
variable {ro:Ro}{n:Nat}{ops:Array Oper}{N:Nat}{S0:Sig}{Q:DX->St->Prop}{df:List DDf}{γ Sr:List (Nat×D)}{O:Sig}{t:Nat}{ty:TypeId}{pos:String}{after:Array Edge}{e1 c1 k1:Bool}{l:List (Bool×Bool×Bool×Oper)}
theorem mixK{lo:List Oper}{id:Nat}(ord E C K:List Nat)(S0:Sig)(hC:Sub S0 O){lp:List (Bool×Bool×Bool×Oper)}(h:MO4 prog ro n lo.toArray 431 Q df lp S0 γ O)(hB:D5 lo.toArray E C K ord=true:=by kernel_rfl)(hl:KA lo E C K ord=some lp:=by exact tdR):DWp prog ro n (.region id lo.toArray true) Q ⟨γ,O,df⟩:=
 Vb Ac mixed ord E C K S0 hB hC hl h
theorem k4R(d:D){op:Op}(h:MO4 prog ro n ops N Q df l S0 ((t,d)::γ) O)(hr:Dl op=true:=by rfl)(aa:decide (t<n)=true:=by exact tdR)(hl:A0 γ (A5 op.operands.toList)=some Sr:=by exact tdR)(hd:dopX tab Sr (if c1=true then S0 else fun _=>none) op=some d:=by first|with_unfolding_all rfl|(simp;done)|(simp;rfl)):MO4 prog ro n ops N Q df ((e1,c1,k1,⟨some t,op,ty,pos,after,none⟩)::l) S0 γ O:=
 Uh Ad hr aa hl hd h
theorem k4S(U1:Sig){op:Op}{d:D}{U':Sig}(hC:Sub U1 U')(h:MO4 prog ro n ops N Q df l U1 γ U')(hl:A0 γ (A5 op.operands.toList)=some Sr:=by exact tdR)(he:eopD tab Sr O op=some (d,U'))(hk:k1=false->U1=S0:=by first|(intro;rfl)|exact fun h=>absurd h (by decide)):MO4 prog ro n ops N Q df ((true,c1,k1,⟨none,op,ty,pos,after,none⟩)::l) S0 γ O:=
 mo4_eff (o:=⟨none,op,ty,pos,after,none⟩) Ad U1 rfl rfl ((Bp (Cj hl)) ▸ he) hC hk h
theorem k4N{Q':DX->St->Prop}(h:Q' .normal ⟨γ,O,df⟩):MO4 prog ro n ops N Q' df [] S0 γ O:=Au h
end
def RowR(sz:Nat)(S0 O:Sig)(es:List (List D))(o:Own):Prop:=(o=.clip/\O=S0) \/ ∃i,S0 i=none/\o=.tag i/\O=S0.set i (.tail sz es.length)
theorem RowR.sub{sz:Nat}{S0 O:Sig}{es:List (List D)}{o:Own}(h:RowR sz S0 O es o):Sub S0 O:=by
 rcases h with⟨_,rfl⟩|⟨i,hi,_,rfl⟩
 ·exact Sub.refl _
 ·exact(Sub.refl _).set hi
section
variable {ro:Ro}{n:Nat}{ops:Array Oper}{N:Nat}{S0 Sb:Sig}{Q:DX->St->Prop}{df:List DDf}{rest:List Oper}{γ Sr:List (Nat×D)}{O:Sig}{t:Nat}{ty:TypeId}{pos:String}{after:Array Edge}{d:D}
theorem Vy{T T' e e' sz:Nat}{s x:Operand}{es new:List (List D)}{o:Own}{l:List (Bool×Oper)}(hR:RowR sz Sb O es o)(hC:Sub S0 Sb)(h:∀i,Sb i=none->MO prog ro n ops N S0 Q df l ((t,.slice (es++new) (.tag i))::γ) (Sb.set i (.tail sz (es++new).length)))
  (hl:A0 γ (A5 [s,x])=some Sr:=by exact tdR) (hk:(tab T).k=.slice e:=by(simp<;>rfl)) (aw:(tab T').k=.slice e':=by(simp<;>rfl)) (he:A1 (tab e).k=false:=by simp) (hsz:(tab e).size=sz:=by simp)
  (h1:ev Sr s=.slice es o:=by exact tdR) (h2:esOf (ev Sr x)=some new:=by(simp<;>with_unfolding_all rfl)) (hne:new≠[]:=by simp)
  (hlen:∀c∈es,c.length=sz:=by first|(intro c hc;simp only[List.mem_singleton]at hc;subst hc;rfl)|(intro c hc;obtain⟨y,_,rfl⟩:=List.mem_map.1 hc;rfl)|(simp[or_imp,forall_and]<;>fail)|exact Cc _|exact E3 _|exact CL _|simp) (hlen':∀c∈new,c.length=sz:=by first|(intro c hc;simp only[List.mem_singleton]at hc;subst hc;rfl)|(intro c hc;obtain⟨y,_,rfl⟩:=List.mem_map.1 hc;rfl)|(simp[or_imp,forall_and]<;>fail)|exact Cc _|exact E3 _|exact CL _|simp) (aD:∀c∈new,BB c=true:=by first|(intro c hc;simp only[List.mem_singleton]at hc;subst hc;rfl)|(intro c hc;obtain⟨y,_,rfl⟩:=List.mem_map.1 hc;rfl)|(simp[or_imp,forall_and]<;>fail)|simp[cI,cS,cII,BB,D.flat])
  (hb:(es.length+new.length)*(tab e).bytes<=140737488355328:=by first|(simp;done)|(simp;omega)) (hm:es.length+new.length<=9223372036854775807:=by first|(simp;done)|(simp;omega)) (aa:decide (t<n)=true:=by exact tdR) :
  MO prog ro n ops N S0 Q df ((true,⟨some t,(cA s x T T'),ty,pos,after,none⟩)::l) γ O:=
 mo1 (fun V2 hx=>by
  obtain⟨e1,e2⟩:=Hd hl hx
  subst hsz
  rcases hR with⟨rfl,rfl⟩|⟨i,hi,rfl,rfl⟩
  ·exact Cd Ad rfl (by simpa using aa) hk aw he (by rw[e1];exact h1) (by rw[e2];exact h2) hne hlen hlen' hb hm (fun i hi=>Au ⟨rfl,by simp only[A4,if_true];rw[<-List.length_append];exact⟨hC.set (hC.none hi),h i hi⟩⟩)
  ·refine Nv Ad rfl (by simpa using aa) hk aw he (by rw[e1];exact h1) (w6 ..) (by rw[e2];exact h2) hlen hlen' aD hb hm (Au ⟨rfl,?_⟩)
   simp only[A4,if_true]
   rw[Sig.set_set,<-List.length_append]
   exact⟨hC.set (hC.none hi),h i hi⟩) aa
end
section
variable {ro:Ro}{n:Nat}{ops:Array Oper}{N:Nat}{B:Sig->Prop}{Q:DX->St->Prop}{df:List DDf}{γ Sr:List (Nat×D)}{O:Sig}{t:Nat}{ty:TypeId}{pos:String}{after:Array Edge}{e1 c1 k1:Bool}{l:List (Bool×Bool×Bool×Oper)}
theorem mixI{lo:List Oper}{id:Nat}(ord E C K:List Nat)(B:Sig->Prop)(hC:B O){lp:List (Bool×Bool×Bool×Oper)}(h:MOI prog ro n lo.toArray 431 Q df lp B γ O)(hB:D5 lo.toArray E C K ord=true:=by kernel_rfl)(hl:KA lo E C K ord=some lp:=by exact tdR):DWp prog ro n (.region id lo.toArray true) Q ⟨γ,O,df⟩:=
 Vc Ac mixed ord E C K B hB hC hl h
theorem iR(d:D){op:Op}(hd:∀s,B s->dopX tab Sr s op=some d)(h:MOI prog ro n ops N Q df l B ((t,d)::γ) O)(hr:Dl op=true:=by rfl)(aa:decide (t<n)=true:=by exact tdR)(hl:A0 γ (A5 op.operands.toList)=some Sr:=by exact tdR):MOI prog ro n ops N Q df ((e1,true,k1,⟨some t,op,ty,pos,after,none⟩)::l) B γ O:=
 NY Ad hr aa hl (fun s hs=>hd s (hs rfl)) h
theorem iP(d:D){op:Op}(h:MOI prog ro n ops N Q df l B ((t,d)::γ) O)(hr:Dl op=true:=by rfl)(aa:decide (t<n)=true:=by exact tdR)(hl:A0 γ (A5 op.operands.toList)=some Sr:=by exact tdR)(hd:dopX tab Sr (fun _=>none) op=some d:=by first|with_unfolding_all rfl|(simp;done)|(simp;rfl)):MOI prog ro n ops N Q df ((e1,c1,k1,⟨some t,op,ty,pos,after,none⟩)::l) B γ O:=
 NY Ad hr aa hl (fun s _=>F4 (fun _ _ h=>by cases h) hd) h
theorem iE(B1:Sig->Prop){op:Op}{d:D}{U':Sig}(hC:B1 U')(h:MOI prog ro n ops N Q df l B1 ((t,d)::γ) U')(hl:A0 γ (A5 op.operands.toList)=some Sr:=by exact tdR)(he:eopD tab Sr O op=some (d,U'))(hk:k1=false->B1=B:=by first|(intro;rfl)|exact fun h=>absurd h (by decide))(aa:decide (t<n)=true:=by exact tdR):MOI prog ro n ops N Q df ((true,c1,k1,⟨some t,op,ty,pos,after,none⟩)::l) B γ O:=
 QM (o:=⟨some t,op,ty,pos,after,none⟩) Ad B1 aa rfl ((Bp (Cj hl)) ▸ he) hC hk h
theorem iS(B1:Sig->Prop){op:Op}{d:D}{U':Sig}(hC:B1 U')(h:MOI prog ro n ops N Q df l B1 γ U')(hl:A0 γ (A5 op.operands.toList)=some Sr:=by exact tdR)(he:eopD tab Sr O op=some (d,U'))(hk:k1=false->B1=B:=by first|(intro;rfl)|exact fun h=>absurd h (by decide)):MOI prog ro n ops N Q df ((true,c1,k1,⟨none,op,ty,pos,after,none⟩)::l) B γ O:=
 QM (o:=⟨none,op,ty,pos,after,none⟩) Ad B1 rfl rfl ((Bp (Cj hl)) ▸ he) hC hk h
theorem iN{Q':DX->St->Prop}(h:Q' .normal ⟨γ,O,df⟩):MOI prog ro n ops N Q' df [] B γ O:=Au h
theorem iW(B1:Sig->Prop){fop:Operand}{args:Array Operand}{ats:Array TypeId}{f:Nat}{first cap us bs:List D}{R:DE->Sig->Prop}{dst:Option Tmp}(h:DCall prog f bs O R)(ae:∀d U',R (.ret d) U'->B1 U'/\MOI prog ro n ops N Q df l B1 (putD dst d γ) U')(ag:∀d U',R (.panic d) U'->∀V',Q (.panic d) ⟨V',U',df⟩)(hk:k1=false->B1=B:=by first|(intro;rfl)|exact fun h=>absurd h (by decide))(hl:A0 γ (A5 (fop::args.toList))=some Sr:=by exact tdR)(hf:ev Sr fop=.func (.func f) first cap:=by exact tdR)(ha:first++args.toList.map (ev Sr)++cap=us:=by exact td0)(hp:bs=us\/bs=us.map D.plain:=by first|exact .inl tdR|exact .inr tdR)
  (ho:Ar n ⟨dst,(cv fop args ats),ty,pos,after,none⟩=true:=by exact tdR):MOI prog ro n ops N Q df ((true,c1,k1,⟨dst,(cv fop args ats),ty,pos,after,none⟩)::l) B γ O:=by
 have hx:∀x∈fop::args.toList,ev Sr x=ev γ x:=fun x hx=>B2 fun t ht=>Aq hl t (Ax (by rw[<-ht];exact hx))
 have ai:∀x∈((cv fop args ats)).operands,ev (only (Oper.looksAt ops ⟨dst,(cv fop args ats),ty,pos,after,none⟩) γ) x=ev γ x:=fun x hx=>Bl (o:=⟨dst,(cv fop args ats),ty,pos,after,none⟩) hx
 refine .inr ⟨rfl,ho,by rw[Af];rfl,?_⟩
 refine Dg (first:=first) (cap:=cap) (f:=f) (R:=R) ?_ ?_ h ?_ ho ?_ ?_
 ·show Ay ops (only _ γ) _=some true
  rw[Af];rfl
 ·rw[ai fop (by simp[Op.operands,Call.operands]),<-hx fop (by simp)];exact hf
 ·simp only
  rw[show args.toList.map (ev (only (Oper.looksAt ops ⟨dst,(cv fop args ats),ty,pos,after,none⟩) γ))=args.toList.map (ev Sr) from List.map_congr_left fun x hm=>by
   rw[ai x (by simp at hm;simp[Op.operands,Call.operands,hm]),<-hx x (by simp[hm])],ha]
  rcases hp with rfl|rfl
  ·exact CO _
  ·exact Cq _
 ·intro d U' hR
  obtain⟨h1,h2⟩:=ae d U' hR
  refine Au ⟨rfl,?_⟩
  cases dst with
  |none=>exact⟨B1,h1,hk,h2⟩
  |some t=>simp only[putD,A4,if_true];exact⟨B1,h1,hk,h2⟩
 ·intro d U' hR
  exact⟨rfl,ag d U' hR⟩
end
end Go.DL
namespace Go.DL
open Go.Proofs.Tryz
open Go Go.Proofs
set_option maxHeartbeats 8000000
def idxG{α:Type}[DecidableEq α](s:α):List α->Nat->Int
 |[],_=> -1
 |x::r,k=>if x=s then k else idxG s r (k+1)
theorem Sj(l:List Int)(s:Int)(o:Own)(O:Sig)(hl:l.length<=1073741824:=by exact sd):
  DCall prog 244 [.slice (cI l) o,dI s] O (rS (dI (idxG s l 0)) O):=by
 refine en func244 ntmps244 ?_
 refine gz ?_
 refine Cg [0,1,7] (fun (k:Nat)=>k<=l.length/\idxG s l 0=idxG s (l.drop k) k) (fun k=>[(8,dI k)]) (fun _=>O) (fun k=>l.length-k) (0) (by simp) (fun k hI=>?_)
 obtain⟨hk,hR⟩:=hI
 by_cases h:k<l.length
 ·rw[Ab h,idxG]at hR
  repeat' first|refine gz ?_|apply gy<;>intro hh
  ·rw[if_pos hh.symm]at hR
   exact fe1 hR
  ·exact⟨k+1,⟨by omega,by rw[hR,if_neg (fun e=>hh e.symm)]⟩,td1,wkR⟩
 ·rw[Aj h,idxG]at hR
  refine gz ?_
  exact fe1 hR
@[reducible,instance] def a244:=fun l s o O=>ah1 (@Sj l s o O)
theorem Sp(l:List Int)(s:Int)(o:Own)(O:Sig)(hl:l.length<=1073741824:=by exact sd):
  DCall prog 206 [.slice (cI l) o,dI s] O (rS (.bool (decide (0<=idxG s l 0))) O):=by
 refine en func206 ntmps206 ?_
 refine gz ?_
 exact fe1 trivial
theorem Sm(l:List (List D))(o:Own)(O:Sig):
  DCall prog 241 [.slice l o] O (rS (.slice l .clip) O):=by
 refine en func241 ntmps241 ?_
 refine gz ?_
 exact fe1 trivial
@[reducible,instance] def a241:=fun l o O=>ah0 (@Sm l o O)
theorem UN(a b:List Int)(o o':Own)(O:Sig)(hl:a.length<=1073741824:=by exact sd):
  DCall prog 69 [.slice (cI a) o,.slice (cI b) o'] O (rS (.bool (a==b)) O):=by
 refine en func69 ntmps69 ?_
 by_cases aE:a.length=b.length
 ·refine gz ?_ o69
  refine Cg [0,1,12] (fun (k:Nat)=>k<=a.length/\(a=b ↔ a.drop k=b.drop k)) (fun k=>[(13,dI k)]) (fun _=>O) (fun k=>a.length-k) (0) (by simp) (fun k hI=>?_)
  obtain⟨hk,hR⟩:=hI
  by_cases h:k<a.length
  ·rw[Ab h,Ab (l:=b) (by omega),List.cons.injEq]at hR
   repeat' first|refine gz ?_ o69|apply gy<;>intro hh
   ·have:a≠b:=fun e=>hh (hR.1 e).1
    exact fe1 this
   ·exact⟨k+1,⟨by omega,by rw[hR];simp_all⟩,td1,wkR⟩
  ·have:a=b:=hR.2 (by rw[Aj (by omega),Aj (by omega)])
   refine gz ?_ o69
   exact fe1 this
 ·have:a≠b:=fun e=>aE (by rw[e])
  refine gz ?_ o69
  exact fe1 this
@[reducible,instance] def a69:=fun a b o o' O=>ah1 (@UN a b o o' O)
theorem Gr(l:List (List D))(o:Own)(O:Sig)(hl:l.length<=1073741824:=by exact sd)(hs:∀c∈l,c.length=1:=by exact sd):
  DCall prog 299 [.slice l o] O (rS (sl l) O):=by
 refine en func299 ntmps299 ?_
 refine gz ?_
 refine isN (fun b hb=>?_)
 repeat' first|refine gz ?_|apply gy<;>intro hh
 ·exact fe1 (d':=sl []) (hb hh)
 ·by_cases h:l=[]
  ·refine app0 ?_
   refine gz ?_
   exact fe1 (d':=sl []) h
  ·refine appC (fun i hi=>?_) (hne:=by simp[h]) (hlen':=hs)
   refine gz ?_
   exact finS (U':=O) (es:=l) ⟨rfl,rfl⟩ ((Sub.refl _).set hi)
def inB(n:Int):Bool:=decide (-1000000000<=n)&&decide (n<=1000000000)
theorem Sc(n:Int)(O:Sig):DCall prog 253 [dI n] O (rS (.bool (inB n)) O):=by
 refine en func253 ntmps253 ?_
 by_cases h : -1000000000<=n
 ·refine gz ?_
  (refine fin1 (U':=O) ?_;exact⟨by first|rfl|(simp[inB,h];done)|(simp_all [inB,h];done)|(rw[Ag,Bool.eq_iff_iff];simp_all [inB,h]<;>omega),rfl⟩)
 ·refine gz ?_
  (refine fin1 (U':=O) ?_;exact⟨by first|rfl|(simp[inB,h];done)|(simp_all [inB,h];done)|(rw[Ag,Bool.eq_iff_iff];simp_all [inB,h]<;>omega),rfl⟩)
@[reducible,instance] def a253:=fun n O=>ah0 (@Sc n O)
mutual
def Fact.size:Fact->Nat
 |.mk _ _ _ _ _ k=>1+Fact.sizes k
def Fact.sizes:List Fact->Nat
 |[]=>0
 |f::l=>f.size+Fact.sizes l
end
theorem Fact.size_eq(f:Fact):f.size=1+Fact.sizes f.kids:=by cases f;rw[Fact.size];rfl
theorem Fact.sizes_len: ∀l:List Fact,l.length<=Fact.sizes l
 |[]=>by simp
 |f::l=>by
  have:=Fact.sizes_len l
  rw[Fact.sizes,Fact.size_eq];simp;omega
theorem Fact.sizes_mem: ∀{l:List Fact}{x:Fact},x∈l->x.size<=Fact.sizes l
 |[],_,h=>by cases h
 |f::l,x,h=>by
  rw[Fact.sizes]
  rcases List.mem_cons.1 h with rfl|h
  ·omega
  ·have:=Fact.sizes_mem h;omega
theorem Fact.kid_size{f:Fact}{k:Nat}(h:k<f.kids.length):(f.kids[k]).size<f.size:=by
 have:=Fact.sizes_mem (List.getElem_mem h)
 rw[Fact.size_eq f];omega
def mx(x y:Int):Int:=if y>x then y else x
def EV(o:Int):Bool:=decide (o=2)||decide (o=3)||decide (o=4)
mutual
def Fact.speaks:Fact->Int
 |.mk o a _ _ _ k=>Fact.speakss k (if EV o then IntKind.i64.wrap (a+1) else 0)
def Fact.speakss:List Fact->Int->Int
 |[],n=>n
 |f::l,n=>Fact.speakss l (mx n f.speaks)
end
theorem Fact.speaks_eq(f:Fact):f.speaks=Fact.speakss f.kids (if EV f.op then IntKind.i64.wrap (f.arg+1) else 0):=by cases f;rw[Fact.speaks];rfl
theorem IF(f:Fact)(O:Sig)(hf:f.size<=1073741824:=by exact sd):
  DCall prog 205 [.agg (D3 f)] O (rS (dI f.speaks) O):=by
 have hsz:=Fact.size_eq f
 have aH:=Fact.sizes_len f.kids
 have aA:=(Fact.speaks_eq f).symm
 have hL:EV f.op=(decide (f.op=2)||decide (f.op=3)||decide (f.op=4)):=rfl
 refine en func205 ntmps205 ?_
 repeat' first|refine gz ?_|apply gy<;>intro hh
 all_goals
  refine D7 [2,23,24,34] (fun (k:Nat) (m:Int)=>k<=f.kids.length/\Fact.speakss (f.kids.drop k) m=f.speaks) (fun k m=>[(25,dI k),(3,dI m)]) (fun _ _=>O) (fun k _=>f.kids.length-k) (0) ((if EV f.op then IntKind.i64.wrap (f.arg+1) else 0)) (by exact⟨by omega,aA⟩) (fun k m hI=>?_)
  obtain⟨hk,hR⟩:=hI
  clear hL
  by_cases h:k<f.kids.length
  ·rw[Ab h,Fact.speakss]at hR
   have aG:=Fact.kid_size h
   repeat' first|refine gz ?_|refine Cb (IF (f.kids[k]) O (by omega)) ?_|refine callP (IF (f.kids[k]) O (by omega)) ?_|refine gz ?_|apply gy<;>intro hh
   have hm:mx m (f.kids[k]).speaks=if m<(f.kids[k]).speaks then(f.kids[k]).speaks else m:=rfl
   exact⟨k+1,mx m (f.kids[k]).speaks,⟨by omega,hR⟩,td1,wkR⟩
  ·rw[Aj h,Fact.speakss]at hR
   refine gz ?_
   exact fe1 hR
termination_by SizeOf.sizeOf f
decreasing_by all_goals exact Fact.lt (List.getElem_mem _)
@[reducible,instance] def a205:=fun f O=>ah1 (@IF f O)
mutual
def Fact.depth:Fact->Int
 |.mk _ _ _ _ _ k=>Fact.depths k 0+1
def Fact.depths:List Fact->Int->Int
 |[],n=>n
 |f::l,n=>Fact.depths l (mx n f.depth)
end
theorem RA(f:Fact)(O:Sig):DCall prog 374 [.agg (D3 f)] O (rS (.bool (EV f.op)) O):=by
 refine en func374 ntmps374 ?_
 repeat' first|refine gz ?_|apply gy<;>intro hh
 any_goals (first|(refine fin1 (U':=O) ?_;exact⟨by first|rfl|(simp[EV];done)|(simp_all [EV];done)|(rw[Ag,Bool.eq_iff_iff];simp_all [EV]<;>omega),rfl⟩)|fail)
@[reducible,instance] def a374:=fun f O=>ah0 (@RA f O)
def Dd(op:Int):Nat:=if op=5 then 1 else if op=6\/op=7 then 2 else 0
theorem RB(o:Int)(O:Sig):DCall prog 373 [dI o] O (rS (dI (Dd o)) O):=by
 refine en func373 ntmps373 ?_
 repeat' first|refine gz ?_|apply gy<;>intro hh
 any_goals (first|(refine fin1 (U':=O) ?_;exact⟨by first|rfl|(simp[Dd];done)|(simp_all [Dd];done)|(rw[Ag,Bool.eq_iff_iff];simp_all [Dd]<;>omega),rfl⟩)|fail)
@[reducible,instance] def a373:=fun o O=>ah0 (@RB o O)
theorem RV(b:Bool)(O:Sig):DCall prog 258 [.bool b] O (rS (dI (if b then 0 else 2)) O):=by
 refine en func258 ntmps258 ?_
 repeat' first|refine gz ?_|apply gy<;>intro hh
 any_goals (first|exact fe1 trivial|fail)
@[reducible,instance] def a258:=fun b O=>ah0 (@RV b O)
def LL(op:Int):Option Int:=
 if op=1\/op=2\/op=3\/op=6\/op=18 then some 0 else if op=4\/op=8\/op=17 then some 1 else
 if op=7\/op=9\/op=11\/op=12\/op=13\/op=14\/op=15\/op=16 then some 2 else if op=10 then some 3 else none
def CI(p:BProg)(x:BNode):Int:=match LL x.op with
 |some k=>k
 |none=>if x.op=5/\0<=x.n/\x.n<p.gens.length then p.gens.getD x.n.toNat 0 else -1
def CH(p:BProg)(x:BNode)(size:Int):Bool:=
 if x.op=1 then inB x.n else if x.op=3 then decide (0<=x.n/\x.n<size) else if x.op=4\/x.op=7 then decide (0<=x.n/\x.n<p.slots) else
 if x.op=5 then decide (0<=x.n/\x.n<p.gens.length) else if x.op=6\/x.op=8 then decide (3<=x.n/\x.n<3+p.classes.length) else decide (x.n=0)
theorem Sv(p:BProg)(x:BNode)(size:Int)(O:Sig)(hl:p.gens.length<=1073741824:=by exact sd)(hc:p.classes.length<=1073741824:=by exact sd):
  DCall prog 201 [.agg (Ai p),.agg (Kf x),dI size] O (rS (.bool (CH p x size)) O):=by
 refine en func201 ntmps201 ?_
 repeat' first|refine gz ?_|apply gy<;>intro hh
 any_goals (first|(refine fin1 (U':=O) ?_;exact⟨by first|rfl|(simp[CH];done)|(simp_all [CH];done)|(rw[Ag,Bool.eq_iff_iff];simp_all [CH]<;>omega),rfl⟩)|fail)
@[reducible,instance] def a201:=fun p x size O=>ah2 (@Sv p x size O)
def DM(op:Int):D:=match LL op with
 |some k=>.iface 276 (dI k)
 |none=>if op=5 then .iface 277 (.agg []) else .niliface
theorem Su(op:Int)(O:Sig):DCall prog 202 [dI op] O (rS (DM op) O):=by
 refine en func202 ntmps202 ?_
 repeat' first|refine gz ?_|apply gy<;>intro hh
 any_goals (first|(refine fin1 (U':=O) ?_;exact⟨by first|rfl|(simp[DM,LL];done)|(simp_all [DM,LL];done)|(rw[Ag,Bool.eq_iff_iff];simp_all [DM,LL]<;>omega),rfl⟩)|fail)
@[reducible,instance] def a202:=fun op O=>ah0 (@Su op O)
end Go.DL
