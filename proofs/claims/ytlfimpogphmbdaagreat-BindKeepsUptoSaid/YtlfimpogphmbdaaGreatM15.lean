/- A part of the proof. -/
import Derived.Test.YtlfimpogphmbdaaGreatM14
import Derived.Test.YtlfimpogphmbdaaGreatM11
import Derived.Test.YtlfimpogphmbdaaGreatM12
set_option linter.all false
namespace Go.DL
open Go.Proofs.Tryz
open Go Go.Proofs
class Ans(f:Nat)(us:List D)(V:Sig)(H:outParam Prop)(d:outParam D):Prop where
 call:H->DCall prog f us V (rS d V)
class Giv(f:Nat)(us:List D)(V:Sig)(H:outParam Prop)(c:outParam Bool)(d u:outParam D):Prop where
 call:H->DCall prog f us V fun x S'=>x=(if c then .ret d else .panic u)/\S'=V
theorem ah0{f:Nat}{us:List D}{V:Sig}{d:D}(h:DCall prog f us V (rS d V)):Ans f us V (True) d:=⟨fun _=>h⟩
theorem ah1{f:Nat}{us:List D}{V:Sig}{d:D}{p:Prop}(h:p->DCall prog f us V (rS d V)):Ans f us V (p) d:=⟨fun p=>h p⟩
theorem ah2{f:Nat}{us:List D}{V:Sig}{d:D}{p q:Prop}(h:p->q->DCall prog f us V (rS d V)):Ans f us V (p/\q) d:=⟨fun ⟨p,q⟩=>h p q⟩
theorem ah3{f:Nat}{us:List D}{V:Sig}{d:D}{p q r:Prop}(h:p->q->r->DCall prog f us V (rS d V)):Ans f us V (p/\q/\r) d:=⟨fun ⟨p,q,r⟩=>h p q r⟩
theorem ah4{f:Nat}{us:List D}{V:Sig}{d:D}{p q r s:Prop}(h:p->q->r->s->DCall prog f us V (rS d V)):Ans f us V (p/\q/\r/\s) d:=⟨fun ⟨p,q,r,s⟩=>h p q r s⟩
theorem gh0{f:Nat}{us:List D}{V:Sig}{c:Bool}{d u:D}(h:DCall prog f us V fun x S'=>x=(if c then .ret d else .panic u)/\S'=V):Giv f us V (True) c d u:=⟨fun _=>h⟩
theorem gh1{f:Nat}{us:List D}{V:Sig}{c:Bool}{d u:D}{p:Prop}(h:p->DCall prog f us V fun x S'=>x=(if c then .ret d else .panic u)/\S'=V):Giv f us V (p) c d u:=⟨fun p=>h p⟩
theorem gh2{f:Nat}{us:List D}{V:Sig}{c:Bool}{d u:D}{p q:Prop}(h:p->q->DCall prog f us V fun x S'=>x=(if c then .ret d else .panic u)/\S'=V):Giv f us V (p/\q) c d u:=⟨fun ⟨p,q⟩=>h p q⟩
class BoolIs(b:Bool)(p q:outParam Prop):Prop where
 yes:b=true->p
 no:b=false->q
instance (priority:=low) boolIs (b:Bool):BoolIs b (b=true) (b=false):=⟨id,id⟩
instance (priority:=high) boolIs_t:BoolIs true True False:=⟨fun _=>trivial,(fun h=>by cases h)⟩
instance (priority:=high) boolIs_f:BoolIs false False True:=⟨(fun h=>by cases h),fun _=>trivial⟩
instance boolIs_dec(p:Prop)[inst:Decidable p]:BoolIs (decide p) p (¬p):=⟨of_decide_eq_true,of_decide_eq_false⟩
instance boolIs_not(b:Bool)(p q:Prop)[h:BoolIs b p q]:BoolIs (!b) q p:=⟨fun e=>h.no (by cases b<;>simp_all),fun e=>h.yes (by cases b<;>simp_all)⟩
instance boolIs_and(a b:Bool)(p q p' q':Prop)[h:BoolIs a p q][k:BoolIs b p' q']:BoolIs (a&&b) (p/\p') (q\/q'):=⟨fun e=>by cases a<;>cases b<;>simp_all;exact⟨h.yes rfl,k.yes rfl⟩,fun e=>by cases a with|false=>exact .inl (h.no rfl)|true=>exact .inr (k.no (by simpa using e))⟩
inductive NotLit(b:Bool):Prop
 |mk
structure Two(A B:Prop):Prop where
 a:A
 b:B
class T2(p q A B:Prop)(C:outParam Prop):Prop where
 to:C->(p->A)/\(q->B)
instance (priority:=low) t2_two (p q A B:Prop):T2 p q A B (Two (p->A) (q->B)):=⟨fun h=>⟨h.a,h.b⟩⟩
instance (priority:=high) t2_a (A B:Prop):T2 True False A B A:=⟨fun h=>⟨fun _=>h,False.elim⟩⟩
instance (priority:=high) t2_b (A B:Prop):T2 False True A B B:=⟨fun h=>⟨False.elim,fun _=>h⟩⟩
theorem sd{p:Prop}(h:p:=by first|assumption|omega|simp):p:=h
theorem tdH{p:Prop}(h:p:=by(and_intros<;>first|trivial|assumption|omega|(simp;done)|(simp;omega))):p:=h
theorem tdP{p:Prop}(h:p:=by(try simp only[List.map_cons,List.map_nil,D.plain]);with_unfolding_all rfl):p:=h
theorem tdS{F p:Prop}(fx:Hold F)(h:Hold F->p:=by intro fx;simp(disch:=first|omega|assumption) [An,big1,big2,w8,CN,BR,CM,BQ,CO,CL,BO,Bh,BN,Bg,BP,BM,EM,fx.get]<;>(try simp only[B1,B2,AJ,B0,Ay,AM,AL,AK,AI,Ax,AH,AG,AF])<;>first|rfl|(and_intros<;>rfl)):p:=h fx
theorem tdE{F p:Prop}(fx:Hold F)(h:Hold F->p:=by intro fx;simp(disch:=first|omega|assumption) [An,big1,big2,w8,CN,BR,CM,BQ,CO,CL,BO,Bh,BN,Bg,BP,BM,EM,fx.get]<;>first|rfl|(and_intros<;>rfl)):p:=h fx
theorem tdC{F p:Prop}(fx:Hold F)(h:Hold F->p:=by intro fx;simp(disch:=first|omega|assumption) [An,big1,big2,w8,CN,BR,CM,BQ,CO,CL,BO,Bh,BN,Bg,BP,BM,EM,fx.get]<;>fail):p:=h fx
theorem tdF{p:Prop}(h:p:=by simp<;>(try simp only[B1,B2,AJ,B0,Ay,AM,AL,AK,AI,Ax,AH,AG,AF])<;>rfl):p:=h
theorem litT:NotLit true:=.mk
theorem litF:NotLit false:=.mk
section
variable {P:Program}{ro:Option Nat}{n:Nat}{ops:Array Oper}{N:Nat}{S0:Sig}{Q:DX->St->Prop}{df:List DDf}{rest:List Oper}{γ Sr:List (Nat×D)}{V:Sig}{t:Nat}{ty:TypeId}{pos:String}{after:Array Edge}{l:List (Bool×Oper)}{d:D}
theorem Vi{fop:Operand}{args:Array Operand}{ats:Array TypeId}{f:Nat}{first cap us:List D}{H:Prop}(k1:DOps prog ro n ops Q rest ⟨(t,d)::γ,V,df⟩)(hl:A4 γ (A6 (fop::args.toList))=some Sr:=by exact tdR)(hf:ev Sr fop=.func (.func f) first cap:=by exact tdR)(ha:first++args.toList.map (ev Sr)++cap=us:=by exact td0)(hs:Ans f us V H d:=by infer_instance)(hH:H:=by exact tdH)(htn:decide (t<n)=true:=by exact tdR):DOps prog ro n ops Q (⟨some t,(cv fop args ats),ty,pos,after,none⟩::rest) ⟨γ,V,df⟩:=F2 hl hf ha (.inl rfl) (hs.call hH) htn k1
theorem TC{fop:Operand}{args:Array Operand}{ats:Array TypeId}{f:Nat}{first cap us:List D}{j:Nat}{want:Bool}{k:Nat}{H:Prop}(k1:DOps prog ro n ops Q rest ⟨(t,d)::γ,V,df⟩)(hk:(ops[j]?).bind (·.dst)=some k:=by exact tdR)(hb:γ.lookup k=some (.bool want):=by exact tdR)(hl:A4 γ (A6 (fop::args.toList))=some Sr:=by exact tdR)(hf:ev Sr fop=.func (.func f) first cap:=by exact tdR)(ha:first++args.toList.map (ev Sr)++cap=us:=by exact td0)(hs:Ans f us V H d:=by infer_instance)(hH:H:=by exact tdH)(htn:decide (t<n)=true:=by exact tdR):DOps prog ro n ops Q (⟨some t,(cv fop args ats),ty,pos,after,some (j,want)⟩::rest) ⟨γ,V,df⟩:=DY hk hb hl hf ha (.inl rfl) (hs.call hH) htn k1
theorem moIR{fop:Operand}{args:Array Operand}{ats:Array TypeId}{f:Nat}{first cap us:List D}{H:Prop}{l:List (Bool×Oper)}(k1:MO prog ro n ops N S0 Q df l ((t,d)::γ) V)(hl:A4 γ (A6 (fop::args.toList))=some Sr:=by exact tdR)(hf:ev Sr fop=.func (.func f) first cap:=by exact tdR)(ha:first++args.toList.map (ev Sr)++cap=us:=by exact td0)(hs:Ans f us V H d:=by infer_instance)(hH:H:=by exact tdH)(hC:Sub S0 V:=by first|exact Sub.refl _|assumption)(htn:decide (t<n)=true:=by exact tdR):MO prog ro n ops N S0 Q df ((true,⟨some t,(cv fop args ats),ty,pos,after,none⟩)::l) γ V:=Hv hl hf ha (.inl rfl) (hs.call hH) htn hC k1
theorem moIRG{fop:Operand}{args:Array Operand}{ats:Array TypeId}{f:Nat}{first cap us:List D}{j:Nat}{want:Bool}{k:Nat}{H:Prop}{l:List (Bool×Oper)}(k1:MO prog ro n ops N S0 Q df l ((t,d)::γ) V)(hk:(ops[j]?).bind (·.dst)=some k:=by exact tdR)(hb:γ.lookup k=some (.bool want):=by exact tdR)(hl:A4 γ (A6 (fop::args.toList))=some Sr:=by exact tdR)(hf:ev Sr fop=.func (.func f) first cap:=by exact tdR)(ha:first++args.toList.map (ev Sr)++cap=us:=by exact td0)(hs:Ans f us V H d:=by infer_instance)(hH:H:=by exact tdH)(hC:Sub S0 V:=by first|exact Sub.refl _|assumption)(htn:decide (t<n)=true:=by exact tdR):MO prog ro n ops N S0 Q df ((true,⟨some t,(cv fop args ats),ty,pos,after,some (j,want)⟩)::l) γ V:=LQ hk hb hl hf ha (.inl rfl) (hs.call hH) htn hC k1
theorem needIR{fop:Operand}{args:Array Operand}{ats:Array TypeId}{f:Nat}{first cap us:List D}{H p q:Prop}{b b':Bool}{u d:D}{dst:Option Tmp}{C:Prop}(kc:C)(hl:A4 γ (A6 (fop::args.toList))=some Sr:=by exact tdR)(hf:ev Sr fop=.func (.func f) first cap:=by exact tdR)(ha:first++args.toList.map (ev Sr)++cap=us:=by exact td0)(hs:Giv f us V H b d u:=by infer_instance)(he:b=b':=by first|assumption|exact rfl)(hbi:BoolIs b' p q:=by infer_instance)(hz:T2 p q (DOps prog ro n ops Q rest ⟨putD dst d γ,V,df⟩) (Q (.panic u) ⟨γ,V,df⟩) C:=by infer_instance)(hH:H:=by exact tdH)(ho:As n ⟨dst,(cv fop args ats),ty,pos,after,none⟩=true:=by exact tdR):DOps prog ro n ops Q (⟨dst,(cv fop args ats),ty,pos,after,none⟩::rest) ⟨γ,V,df⟩:=needR (hs.call hH) (fun h=>(hz.to kc).1 (hbi.yes (he.symm.trans h))) (fun h=>(hz.to kc).2 (hbi.no (he.symm.trans h))) (hl:=hl) (hf:=hf) (ha:=ha) (hp:=rfl) (ho:=ho)
theorem U4{fop:Operand}{args:Array Operand}{ats:Array TypeId}{f:Nat}{first cap us:List D}{H p q:Prop}{b b':Bool}{u d:D}{dst:Option Tmp}{l:List (Bool×Oper)}{C:Prop}(kc:C)(hl:A4 γ (A6 (fop::args.toList))=some Sr:=by exact tdR)(hf:ev Sr fop=.func (.func f) first cap:=by exact tdR)(ha:first++args.toList.map (ev Sr)++cap=us:=by exact td0)(hs:Giv f us V H b d u:=by infer_instance)(he:b=b':=by first|assumption|exact rfl)(hbi:BoolIs b' p q:=by infer_instance)(hz:T2 p q (MO prog ro n ops N S0 Q df l (putD dst d γ) V) (∀U',Q (.panic u) ⟨U',V,df⟩) C:=by infer_instance)(hH:H:=by exact tdH)(hC:Sub S0 V:=by first|exact Sub.refl _|assumption)(ho:As n ⟨dst,(cv fop args ats),ty,pos,after,none⟩=true:=by exact tdR):MO prog ro n ops N S0 Q df ((true,⟨dst,(cv fop args ats),ty,pos,after,none⟩)::l) γ V:=moNeedR (hs.call hH) (fun h=>(hz.to kc).1 (hbi.yes (he.symm.trans h))) (fun h=>(hz.to kc).2 (hbi.no (he.symm.trans h))) (hl:=hl) (hf:=hf) (ha:=ha) (hp:=rfl) (hC:=hC) (ho:=ho)
theorem Vj{fop:Operand}{args:Array Operand}{ats:Array TypeId}{f:Nat}{first cap us bs:List D}{H:Prop}(k1:DOps prog ro n ops Q rest ⟨(t,d)::γ,V,df⟩)(hl:A4 γ (A6 (fop::args.toList))=some Sr:=by exact tdR)(hf:ev Sr fop=.func (.func f) first cap:=by exact tdR)(ha:first++args.toList.map (ev Sr)++cap=us:=by exact td0)(hp:us.map D.plain=bs:=by exact tdP)(hs:Ans f bs V H d:=by infer_instance)(hH:H:=by exact tdH)(htn:decide (t<n)=true:=by exact tdR):DOps prog ro n ops Q (⟨some t,(cv fop args ats),ty,pos,after,none⟩::rest) ⟨γ,V,df⟩:=F2 hl hf ha (.inr hp.symm) (hs.call hH) htn k1
theorem TD{fop:Operand}{args:Array Operand}{ats:Array TypeId}{f:Nat}{first cap us bs:List D}{j:Nat}{want:Bool}{k:Nat}{H:Prop}(k1:DOps prog ro n ops Q rest ⟨(t,d)::γ,V,df⟩)(hk:(ops[j]?).bind (·.dst)=some k:=by exact tdR)(hb:γ.lookup k=some (.bool want):=by exact tdR)(hl:A4 γ (A6 (fop::args.toList))=some Sr:=by exact tdR)(hf:ev Sr fop=.func (.func f) first cap:=by exact tdR)(ha:first++args.toList.map (ev Sr)++cap=us:=by exact td0)(hp:us.map D.plain=bs:=by exact tdP)(hs:Ans f bs V H d:=by infer_instance)(hH:H:=by exact tdH)(htn:decide (t<n)=true:=by exact tdR):DOps prog ro n ops Q (⟨some t,(cv fop args ats),ty,pos,after,some (j,want)⟩::rest) ⟨γ,V,df⟩:=DY hk hb hl hf ha (.inr hp.symm) (hs.call hH) htn k1
theorem moIP{fop:Operand}{args:Array Operand}{ats:Array TypeId}{f:Nat}{first cap us bs:List D}{H:Prop}{l:List (Bool×Oper)}(k1:MO prog ro n ops N S0 Q df l ((t,d)::γ) V)(hl:A4 γ (A6 (fop::args.toList))=some Sr:=by exact tdR)(hf:ev Sr fop=.func (.func f) first cap:=by exact tdR)(ha:first++args.toList.map (ev Sr)++cap=us:=by exact td0)(hp:us.map D.plain=bs:=by exact tdP)(hs:Ans f bs V H d:=by infer_instance)(hH:H:=by exact tdH)(hC:Sub S0 V:=by first|exact Sub.refl _|assumption)(htn:decide (t<n)=true:=by exact tdR):MO prog ro n ops N S0 Q df ((true,⟨some t,(cv fop args ats),ty,pos,after,none⟩)::l) γ V:=Hv hl hf ha (.inr hp.symm) (hs.call hH) htn hC k1
theorem moIPG{fop:Operand}{args:Array Operand}{ats:Array TypeId}{f:Nat}{first cap us bs:List D}{j:Nat}{want:Bool}{k:Nat}{H:Prop}{l:List (Bool×Oper)}(k1:MO prog ro n ops N S0 Q df l ((t,d)::γ) V)(hk:(ops[j]?).bind (·.dst)=some k:=by exact tdR)(hb:γ.lookup k=some (.bool want):=by exact tdR)(hl:A4 γ (A6 (fop::args.toList))=some Sr:=by exact tdR)(hf:ev Sr fop=.func (.func f) first cap:=by exact tdR)(ha:first++args.toList.map (ev Sr)++cap=us:=by exact td0)(hp:us.map D.plain=bs:=by exact tdP)(hs:Ans f bs V H d:=by infer_instance)(hH:H:=by exact tdH)(hC:Sub S0 V:=by first|exact Sub.refl _|assumption)(htn:decide (t<n)=true:=by exact tdR):MO prog ro n ops N S0 Q df ((true,⟨some t,(cv fop args ats),ty,pos,after,some (j,want)⟩)::l) γ V:=LQ hk hb hl hf ha (.inr hp.symm) (hs.call hH) htn hC k1
theorem needIP{fop:Operand}{args:Array Operand}{ats:Array TypeId}{f:Nat}{first cap us bs:List D}{H p q:Prop}{b b':Bool}{u d:D}{dst:Option Tmp}{C:Prop}(kc:C)(hl:A4 γ (A6 (fop::args.toList))=some Sr:=by exact tdR)(hf:ev Sr fop=.func (.func f) first cap:=by exact tdR)(ha:first++args.toList.map (ev Sr)++cap=us:=by exact td0)(hp:us.map D.plain=bs:=by exact tdP)(hs:Giv f bs V H b d u:=by infer_instance)(he:b=b':=by first|assumption|exact rfl)(hbi:BoolIs b' p q:=by infer_instance)(hz:T2 p q (DOps prog ro n ops Q rest ⟨putD dst d γ,V,df⟩) (Q (.panic u) ⟨γ,V,df⟩) C:=by infer_instance)(hH:H:=by exact tdH)(ho:As n ⟨dst,(cv fop args ats),ty,pos,after,none⟩=true:=by exact tdR):DOps prog ro n ops Q (⟨dst,(cv fop args ats),ty,pos,after,none⟩::rest) ⟨γ,V,df⟩:=needP (hs.call hH) (fun h=>(hz.to kc).1 (hbi.yes (he.symm.trans h))) (fun h=>(hz.to kc).2 (hbi.no (he.symm.trans h))) (hl:=hl) (hf:=hf) (ha:=ha) (hp:=by rw[hp]) (ho:=ho)
theorem U5{fop:Operand}{args:Array Operand}{ats:Array TypeId}{f:Nat}{first cap us bs:List D}{H p q:Prop}{b b':Bool}{u d:D}{dst:Option Tmp}{l:List (Bool×Oper)}{C:Prop}(kc:C)(hl:A4 γ (A6 (fop::args.toList))=some Sr:=by exact tdR)(hf:ev Sr fop=.func (.func f) first cap:=by exact tdR)(ha:first++args.toList.map (ev Sr)++cap=us:=by exact td0)(hp:us.map D.plain=bs:=by exact tdP)(hs:Giv f bs V H b d u:=by infer_instance)(he:b=b':=by first|assumption|exact rfl)(hbi:BoolIs b' p q:=by infer_instance)(hz:T2 p q (MO prog ro n ops N S0 Q df l (putD dst d γ) V) (∀U',Q (.panic u) ⟨U',V,df⟩) C:=by infer_instance)(hH:H:=by exact tdH)(hC:Sub S0 V:=by first|exact Sub.refl _|assumption)(ho:As n ⟨dst,(cv fop args ats),ty,pos,after,none⟩=true:=by exact tdR):MO prog ro n ops N S0 Q df ((true,⟨dst,(cv fop args ats),ty,pos,after,none⟩)::l) γ V:=moNeedP (hs.call hH) (fun h=>(hz.to kc).1 (hbi.yes (he.symm.trans h))) (fun h=>(hz.to kc).2 (hbi.no (he.symm.trans h))) (hl:=hl) (hf:=hf) (ha:=ha) (hp:=by rw[hp]) (hC:=hC) (ho:=ho)
theorem cndX{c:Nat}{x y:Code}{b:Bool}{p q C:Prop}(kc:C)(hl:γ.lookup c=some (.bool b):=by exact tdR)(hnl:NotLit b:=by((fail_if_success (with_reducible exact litT));(fail_if_success (with_reducible exact litF));exact NotLit.mk))(hbi:BoolIs b p q:=by infer_instance)(hz:T2 p q (DWp P ro n x Q ⟨(c,.bool true)::γ,V,df⟩) (DWp P ro n y Q ⟨(c,.bool false)::γ,V,df⟩) C:=by infer_instance):DWp P ro n (.cond (.tmp c) x y) Q ⟨γ,V,df⟩:=cndB (fun h=>(hz.to kc).1 (hbi.yes h)) (fun h=>(hz.to kc).2 (hbi.no h)) hl
theorem splX{dst:Option Tmp}{op:Op}{j:Nat}{want:Bool}{k:Nat}{b:Bool}{p q C:Prop}(kc:C)(hk:(ops[j]?).bind (·.dst)=some k:=by exact tdR)(hb:γ.lookup k=some (.bool b):=by exact tdR)(hnl:NotLit b:=by((fail_if_success (with_reducible exact litT));(fail_if_success (with_reducible exact litF));exact NotLit.mk))(hbi:BoolIs b p q:=by infer_instance)(hz:T2 p q (DOps P ro n ops Q (⟨dst,op,ty,pos,after,some (j,want)⟩::rest) ⟨(k,.bool true)::γ,V,df⟩) (DOps P ro n ops Q (⟨dst,op,ty,pos,after,some (j,want)⟩::rest) ⟨(k,.bool false)::γ,V,df⟩) C:=by infer_instance):DOps P ro n ops Q (⟨dst,op,ty,pos,after,some (j,want)⟩::rest) ⟨γ,V,df⟩:=Pw hk hb (fun h=>(hz.to kc).1 (hbi.yes h)) (fun h=>(hz.to kc).2 (hbi.no h))
theorem moSX{e:Bool}{l:List (Bool×Oper)}{dst:Option Tmp}{op:Op}{j:Nat}{want:Bool}{k:Nat}{b:Bool}{p q C:Prop}(kc:C)(hk:(ops[j]?).bind (·.dst)=some k:=by exact tdR)(hb:γ.lookup k=some (.bool b):=by exact tdR)(hnl:NotLit b:=by((fail_if_success (with_reducible exact litT));(fail_if_success (with_reducible exact litF));exact NotLit.mk))(hbi:BoolIs b p q:=by infer_instance)(hz:T2 p q (MO P ro n ops N S0 Q df ((e,⟨dst,op,ty,pos,after,some (j,want)⟩)::l) ((k,.bool true)::γ) V) (MO P ro n ops N S0 Q df ((e,⟨dst,op,ty,pos,after,some (j,want)⟩)::l) ((k,.bool false)::γ) V) C:=by infer_instance):MO P ro n ops N S0 Q df ((e,⟨dst,op,ty,pos,after,some (j,want)⟩)::l) γ V:=U1 hk hb (fun h=>(hz.to kc).1 (hbi.yes h)) (fun h=>(hz.to kc).2 (hbi.no h))
end
abbrev OT:=List (Nat×Bool×List (Nat×Nat)×List Nat)
def runO:List (Nat×Nat)->List Nat
 |[]=>[]
 |(a,k)::r=>List.range' a k++runO r
def lookO(i:Nat):OT->Option (List Nat×List Nat)
 |[]=>none
 |(j,_,o,e)::r=>if i==j then some (runO o,e) else lookO i r
def Vb(i:Nat):OT->Option (List Nat×List Nat)
 |[]=>none
 |(j,b,o,e)::r=>if i==j&&b then some ((runO o).dropLast,e.filter fun x=>x+1 != (runO o).length) else Vb i r
structure Tab(t:OT):Prop
def delO(i:Nat)(t:OT):OT:=t.filter fun x=>x.1 != i
section
variable {P:Program}{ro:Option Nat}{n:Nat}{Q:DX->St->Prop}{df:List DDf}{γ:List (Nat×D)}{V:Sig}
theorem mixX{lo:List Oper}{id:Nat}{tb:OT}(_:Tab tb){ord E:List Nat}{lp:List (Bool×Oper)}(h:MO prog ro n lo.toArray 334 V Q df lp γ V)(hk:lookO id tb=some (ord,E):=by exact tdR)(hB:Em lo.toArray E ord=true:=by kernel_rfl)(hl:FF lo E ord=some lp:=by exact tdR):DWp prog ro n (.region id lo.toArray true) Q ⟨γ,V,df⟩:=mix ord E h hB hl
theorem mixY{lo:List Oper}{id:Nat}{tb:OT}(_:Tab tb){ord E:List Nat}{lp:List (Bool×Oper)}{ol:Oper}(h:MO prog ro n lo.toArray 334 V (Then (fun s=>DOps prog ro n lo.toArray Q [ol] s) Q) df lp γ V)(hk:Vb id tb=some (ord,E):=by exact tdR)(hB:Il lo.toArray E ord=true:=by kernel_rfl)(hol:nthO lo (lo.length-1)=some ol:=by exact tdR)(hl:FF lo E ord=some lp:=by exact tdR):DWp prog ro n (.region id lo.toArray true) Q ⟨γ,V,df⟩:=mixL ord E h hB hol hl
end
theorem walkQ{F G' G:Prop}{tb:OT}{vars:List Nat} (hs:VarsAre vars->Hold F->Tab tb->Hold G'->G:=by
 intro hv fx tb hG
 repeat1' (first
  |(with_reducible first|refine FB ?_|refine HW ?_|refine KD ?_|refine GE ?_|refine GV ?_|refine L1 ?_|refine Rz (by decide) ?_|refine NL ?_|refine Iz ?_|refine IT ?_|refine IU ?_|refine Lf ?_|refine Lg ?_|refine NT ?_|refine B6 ?_|refine Gs ?_|refine Ri ?_)
  |((with_reducible refine FY (d:=?_) (Sr:=?_) Ad ?h1 ?h2 ?hl ?hd ?_);(case h1=>rfl);(case h2=>rfl);(case hl=>rfl);(case hd=>exact tdS fx))
  |((with_reducible refine GH (d:=?_) (k:=?_) (Sr:=?_) Ad ?h1 ?h2 ?hk ?hb ?hl ?hd ?_);(case h1=>rfl);(case h2=>rfl);(case hk=>rfl);(case hb=>rfl);(case hl=>rfl);(case hd=>exact tdS fx))
  |((with_reducible refine GI (d:=?_) (Sr:=?_) Ad ?h1 ?hl ?hd ?_);(case h1=>rfl);(case hl=>rfl);(case hd=>exact tdS fx))
  |((with_reducible refine NA (d:=?_) (Sr:=?_) Ad ?h1 ?h2 ?hl ?hd ?_);(case h1=>rfl);(case h2=>rfl);(case hl=>rfl);(case hd=>exact tdS fx))
  |((with_reducible refine KV (d:=?_) (k:=?_) (Sr:=?_) Ad ?h1 ?h2 ?hk ?hb ?hl ?hd ?_);(case h1=>rfl);(case h2=>rfl);(case hk=>rfl);(case hb=>rfl);(case hl=>rfl);(case hd=>exact tdS fx))
  |((with_reducible refine KW (d:=?_) (Sr:=?_) Ad ?h1 ?hl ?hd ?_);(case h1=>rfl);(case hl=>rfl);(case hd=>exact tdS fx))
  |((with_reducible refine HX (k:=?_) Al ?hk ?hb ?h1 ?h2 ?_);(case hk=>rfl);(case hb=>rfl);(case h1=>rfl);(case h2=>rfl))
  |((with_reducible refine GF (k:=?_) Al ?hk ?hb ?h1 ?h2 ?_);(case hk=>rfl);(case hb=>rfl);(case h1=>rfl);(case h2=>rfl))
  |((with_reducible refine GG (k:=?_) Al ?hk ?hb ?h1 ?_);(case hk=>rfl);(case hb=>rfl);(case h1=>rfl))
  |((with_reducible refine FC (k:=?_) Al ?hk ?hb ?h1 ?_);(case hk=>rfl);(case hb=>rfl);(case h1=>rfl))
  |((with_reducible refine KS (k:=?_) ?hk ?hb ?h1 ?h2 ?_);(case hk=>rfl);(case hb=>rfl);(case h1=>rfl);(case h2=>rfl))
  |((with_reducible refine KR (k:=?_) ?hk ?hb ?h1 ?h2 ?_);(case hk=>rfl);(case hb=>rfl);(case h1=>rfl);(case h2=>rfl))
  |((with_reducible refine KT (k:=?_) ?hk ?hb ?h1 ?_);(case hk=>rfl);(case hb=>rfl);(case h1=>rfl))
  |((with_reducible refine Ik (k:=?_) ?hk ?hb ?h1 ?_);(case hk=>rfl);(case hb=>rfl);(case h1=>rfl))
  |((with_reducible refine KF (d:=?_) (S':=?_) (Sr:=?_) Ad ?hl ?he ?h1 ?_);(case hl=>rfl);(case he=>exact tdE fx);(case h1=>rfl))
  |((with_reducible refine I0 (d:=?_) (S':=?_) (Sr:=?_) Ad ?hl ?he ?_);(case hl=>rfl);(case he=>exact tdE fx))
  |((with_reducible refine NC (d:=?_) (S':=?_) (Sr:=?_) Ad ?hl ?he ?h1 ?hC ?_);(case hl=>rfl);(case he=>exact tdE fx);(case h1=>rfl);(case hC=>first|exact Sub.refl _|assumption|exact(Sub.refl _).set (by assumption)))
  |((with_reducible refine ND (d:=?_) (S':=?_) (Sr:=?_) Ad ?hl ?he ?hC ?_);(case hl=>rfl);(case he=>exact tdE fx);(case hC=>first|exact Sub.refl _|assumption|exact(Sub.refl _).set (by assumption)))
  |((with_reducible refine HY (r:=?_) (Sr:=?_) (xs:=?_) (ys:=?_) (fs:=?_) Ad ?hE ?h1 ?hl ?hx ?hy ?hk ?hd ?_);(case hE=>with_reducible first|exact Ka|exact GY);(case h1=>rfl);(case hl=>rfl);(case hx=>rfl);(case hy=>rfl);(case hk=>simp<;>rfl);(case hd=>exact tdE fx))
  |((with_reducible refine NB (r:=?_) (Sr:=?_) (xs:=?_) (ys:=?_) (fs:=?_) Ad ?hE ?h1 ?hl ?hx ?hy ?hk ?hd ?_);(case hE=>with_reducible first|exact Ka|exact GY);(case h1=>rfl);(case hl=>rfl);(case hx=>rfl);(case hy=>rfl);(case hk=>simp<;>rfl);(case hd=>exact tdE fx))
  |((with_reducible refine GK (Sr:=?_) ?hl ?hc ?_);(case hl=>rfl);(case hc=>exact tdC fx))
  |((with_reducible refine GM (Sr:=?_) ?hl ?hc ?_);(case hl=>rfl);(case hc=>exact tdC fx))
  |((with_reducible refine HZ (d:=?_) (cs:=?_) (Sr:=?_) hv Ad ?h1 ?h2 ?h3 ?h4 ?h5 ?hl ?he ?h6 ?h7 ?h8 ?h9 ?_);(case h1=>rfl);(case h2=>rfl);(case h3=>rfl);(case h4=>rfl);(case h5=>simp);(case hl=>rfl);(case he=>exact tdF);(case h6=>rfl);(case h7=>exact tdF);(case h8=>simp);(case h9=>simp))
  |((with_reducible refine GJ (d:=?_) (d2:=?_) (cs:=?_) (Sr:=?_) (Sr2:=?_) hv Ad ?h1 ?h2 ?h3 ?h4 ?h5 ?g1 ?g2 ?g3 ?g4 ?gl ?ge ?hl ?he ?h6 ?h7 ?h8 ?h9 ?_);(case h1=>rfl);(case h2=>rfl);(case h3=>rfl);(case h4=>rfl);(case h5=>rfl);(case g1=>rfl);(case g2=>rfl);(case g3=>rfl);(case g4=>simp);(case gl=>rfl);(case ge=>exact tdF);(case hl=>rfl);(case he=>exact tdF);(case h6=>rfl);(case h7=>exact tdF);(case h8=>simp);(case h9=>simp))
  |with_reducible refine Vi ?_
  |with_reducible refine TC ?_
  |with_reducible refine moIR ?_
  |with_reducible refine moIRG ?_
  |with_reducible refine Vj ?_
  |with_reducible refine TD ?_
  |with_reducible refine moIP ?_
  |with_reducible refine moIPG ?_
  |with_reducible refine nilE ?_
  |with_reducible refine nilN ?_
  |with_reducible refine boolE ?_
  |with_reducible refine boolN ?_
  |with_reducible refine MN ?_
  |with_reducible refine MP ?_
  |with_reducible refine mixY tb ?_
  |with_reducible refine mixX tb ?_
  |with_reducible refine needIR ?_
  |with_reducible refine needIP ?_
  |with_reducible refine U4 ?_
  |with_reducible refine U5 ?_
  |with_reducible refine cndX ?_
  |with_reducible refine splX ?_
  |with_reducible refine moSX ?_)
 exact hG.get):VarsAre vars->Hold F->Tab tb->Hold G'->G:=hs
theorem gf{F G' G:Prop}(fx:F)(h:G')(tb:OT:=[])(vars:List Nat:=[])(hs:VarsAre vars->Hold F->Tab tb->Hold G'->G:=by exact walkQ):G:=hs ⟨⟩ ⟨fx⟩ ⟨⟩ ⟨h⟩
theorem gz{G' G:Prop}(h:G')(tb:OT:=[])(vars:List Nat:=[])(hs:VarsAre vars->Hold True->Tab tb->Hold G'->G:=by exact walkQ):G:=hs ⟨⟩ ⟨trivial⟩ ⟨⟩ ⟨h⟩
theorem gi{a b:Prop}(x:a)(y:b):a/\b:=⟨x,y⟩
theorem en {f m : Nat} {fn : Func} {c : Code} {args : List D} {V : Sig} {R : DE -> Sig -> Prop} (hf : prog.funcs[f]? = some fn) (hm : fn.ntmps = m) (h : DWp prog none m c (Eg prog m fn R) { γ := Cb 0 args, V }) (hb : fn.body = some c := by exact rfl) (hnm : (fn.name == "runtime.NumGoroutine") = false := by decide) (hn : args.length <= m := by simp) : DCall prog f args V R := Li hf hb hnm hm hn h
theorem gy{A B:Prop}(a:A)(b:B):Two A B:=⟨a,b⟩
theorem tdV{F p:Prop} (h:Hold F->p:=by
 intro fx
 have hF:=fx.get
 clear fx
 first|rfl|(simp[hF];done)|(simp_all;done)|(rw[Ae,Bool.eq_iff_iff];simp_all<;>omega)):Hold F->p:=h
section
variable {P:Program}{n:Nat}{γ:List (Nat×D)}{V:Sig}
theorem fe1{F:Prop}{fn:Func}{v:DE}{S':Sig}{t:Nat}{d d':D}(fx:F)(hU:Sub S' V:=by exact tdU)(hr:fn.results=#[.tmp t]:=by exact tdR)(hl:γ.lookup t=some d:=by exact tdR)(hw:WkD d d':=by exact tdW)(hq:Hold F->DE.ret d'=v:=by first|exact tdV|fail):Eg P n fn (fun x τ=>x=v/\τ=S') .ret ⟨γ,V,[]⟩:=fin1 ⟨hq ⟨fx⟩,rfl⟩ hU hr hl hw
theorem fe0{F:Prop}{fn:Func}{v:DE}{S':Sig}(fx:F)(hU:Sub S' V:=by exact tdU)(hr:fn.results=#[]:=by exact tdR)(hq:Hold F->DE.ret (.tup [])=v:=by first|exact tdV|fail):Eg P n fn (fun x τ=>x=v/\τ=S') .ret ⟨γ,V,[]⟩:=fin0 ⟨hq ⟨fx⟩,rfl⟩ hU hr
theorem fe2{F:Prop}{fn:Func}{v:DE}{S':Sig}{t u:Nat}{d d' e e':D}(fx:F)(hU:Sub S' V:=by exact tdU)(hr:fn.results=#[.tmp t,.tmp u]:=by exact tdR)(hl:γ.lookup t=some d:=by exact tdR)(hl2:γ.lookup u=some e:=by exact tdR)(htu:decide (u=t)=false:=by exact tdR)(hw:WkD d d':=by exact tdW)(hw2:WkD e e':=by exact tdW)(hq:Hold F->DE.ret (.tup [d',e'])=v:=by first|exact tdV|fail):Eg P n fn (fun x τ=>x=v/\τ=S') .ret ⟨γ,V,[]⟩:=fin2 ⟨hq ⟨fx⟩,rfl⟩ hU hr hl hl2 htu hw hw2
end
theorem td1{p:Prop}(h:p:=by first|omega|(simp;omega)):p:=h
theorem td2{p:Prop}(h:p:=by first|omega|(simp_all;done)|(simp_all;omega)):p:=h
theorem td3{p:Prop}(h:p:=by first|omega|simp):p:=h
theorem goX1{F G' G:Prop}(fx:F)(h:G') (hs:VarsAre []->Hold F->Hold G'->G:=by
 intro hv fx hG
 (first
  |(with_reducible first|refine FB ?_|refine HW ?_|refine KD ?_|refine GE ?_|refine GV ?_|refine L1 ?_|refine Rz (by decide) ?_|refine NL ?_|refine Iz ?_|refine IT ?_|refine IU ?_|refine Lf ?_|refine Lg ?_|refine NT ?_|refine B6 ?_|refine Gs ?_|refine Ri ?_)
  |((with_reducible refine FY (d:=?_) (Sr:=?_) Ad ?h1 ?h2 ?hl ?hd ?_);(case h1=>rfl);(case h2=>rfl);(case hl=>rfl);(case hd=>exact tdS fx))
  |((with_reducible refine GH (d:=?_) (k:=?_) (Sr:=?_) Ad ?h1 ?h2 ?hk ?hb ?hl ?hd ?_);(case h1=>rfl);(case h2=>rfl);(case hk=>rfl);(case hb=>rfl);(case hl=>rfl);(case hd=>exact tdS fx))
  |((with_reducible refine GI (d:=?_) (Sr:=?_) Ad ?h1 ?hl ?hd ?_);(case h1=>rfl);(case hl=>rfl);(case hd=>exact tdS fx))
  |((with_reducible refine NA (d:=?_) (Sr:=?_) Ad ?h1 ?h2 ?hl ?hd ?_);(case h1=>rfl);(case h2=>rfl);(case hl=>rfl);(case hd=>exact tdS fx))
  |((with_reducible refine KV (d:=?_) (k:=?_) (Sr:=?_) Ad ?h1 ?h2 ?hk ?hb ?hl ?hd ?_);(case h1=>rfl);(case h2=>rfl);(case hk=>rfl);(case hb=>rfl);(case hl=>rfl);(case hd=>exact tdS fx))
  |((with_reducible refine KW (d:=?_) (Sr:=?_) Ad ?h1 ?hl ?hd ?_);(case h1=>rfl);(case hl=>rfl);(case hd=>exact tdS fx))
  |((with_reducible refine HX (k:=?_) Al ?hk ?hb ?h1 ?h2 ?_);(case hk=>rfl);(case hb=>rfl);(case h1=>rfl);(case h2=>rfl))
  |((with_reducible refine GF (k:=?_) Al ?hk ?hb ?h1 ?h2 ?_);(case hk=>rfl);(case hb=>rfl);(case h1=>rfl);(case h2=>rfl))
  |((with_reducible refine GG (k:=?_) Al ?hk ?hb ?h1 ?_);(case hk=>rfl);(case hb=>rfl);(case h1=>rfl))
  |((with_reducible refine FC (k:=?_) Al ?hk ?hb ?h1 ?_);(case hk=>rfl);(case hb=>rfl);(case h1=>rfl))
  |((with_reducible refine KS (k:=?_) ?hk ?hb ?h1 ?h2 ?_);(case hk=>rfl);(case hb=>rfl);(case h1=>rfl);(case h2=>rfl))
  |((with_reducible refine KR (k:=?_) ?hk ?hb ?h1 ?h2 ?_);(case hk=>rfl);(case hb=>rfl);(case h1=>rfl);(case h2=>rfl))
  |((with_reducible refine KT (k:=?_) ?hk ?hb ?h1 ?_);(case hk=>rfl);(case hb=>rfl);(case h1=>rfl))
  |((with_reducible refine Ik (k:=?_) ?hk ?hb ?h1 ?_);(case hk=>rfl);(case hb=>rfl);(case h1=>rfl))
  |((with_reducible refine KF (d:=?_) (S':=?_) (Sr:=?_) Ad ?hl ?he ?h1 ?_);(case hl=>rfl);(case he=>exact tdE fx);(case h1=>rfl))
  |((with_reducible refine I0 (d:=?_) (S':=?_) (Sr:=?_) Ad ?hl ?he ?_);(case hl=>rfl);(case he=>exact tdE fx))
  |((with_reducible refine NC (d:=?_) (S':=?_) (Sr:=?_) Ad ?hl ?he ?h1 ?hC ?_);(case hl=>rfl);(case he=>exact tdE fx);(case h1=>rfl);(case hC=>first|exact Sub.refl _|assumption|exact(Sub.refl _).set (by assumption)))
  |((with_reducible refine ND (d:=?_) (S':=?_) (Sr:=?_) Ad ?hl ?he ?hC ?_);(case hl=>rfl);(case he=>exact tdE fx);(case hC=>first|exact Sub.refl _|assumption|exact(Sub.refl _).set (by assumption)))
  |((with_reducible refine HY (r:=?_) (Sr:=?_) (xs:=?_) (ys:=?_) (fs:=?_) Ad ?hE ?h1 ?hl ?hx ?hy ?hk ?hd ?_);(case hE=>with_reducible first|exact Ka|exact GY);(case h1=>rfl);(case hl=>rfl);(case hx=>rfl);(case hy=>rfl);(case hk=>simp<;>rfl);(case hd=>exact tdE fx))
  |((with_reducible refine NB (r:=?_) (Sr:=?_) (xs:=?_) (ys:=?_) (fs:=?_) Ad ?hE ?h1 ?hl ?hx ?hy ?hk ?hd ?_);(case hE=>with_reducible first|exact Ka|exact GY);(case h1=>rfl);(case hl=>rfl);(case hx=>rfl);(case hy=>rfl);(case hk=>simp<;>rfl);(case hd=>exact tdE fx))
  |((with_reducible refine GK (Sr:=?_) ?hl ?hc ?_);(case hl=>rfl);(case hc=>exact tdC fx))
  |((with_reducible refine GM (Sr:=?_) ?hl ?hc ?_);(case hl=>rfl);(case hc=>exact tdC fx))
  |((with_reducible refine HZ (d:=?_) (cs:=?_) (Sr:=?_) hv Ad ?h1 ?h2 ?h3 ?h4 ?h5 ?hl ?he ?h6 ?h7 ?h8 ?h9 ?_);(case h1=>rfl);(case h2=>rfl);(case h3=>rfl);(case h4=>rfl);(case h5=>simp);(case hl=>rfl);(case he=>exact tdF);(case h6=>rfl);(case h7=>exact tdF);(case h8=>simp);(case h9=>simp))
  |((with_reducible refine GJ (d:=?_) (d2:=?_) (cs:=?_) (Sr:=?_) (Sr2:=?_) hv Ad ?h1 ?h2 ?h3 ?h4 ?h5 ?g1 ?g2 ?g3 ?g4 ?gl ?ge ?hl ?he ?h6 ?h7 ?h8 ?h9 ?_);(case h1=>rfl);(case h2=>rfl);(case h3=>rfl);(case h4=>rfl);(case h5=>rfl);(case g1=>rfl);(case g2=>rfl);(case g3=>rfl);(case g4=>simp);(case gl=>rfl);(case ge=>exact tdF);(case hl=>rfl);(case he=>exact tdF);(case h6=>rfl);(case h7=>exact tdF);(case h8=>simp);(case h9=>simp))
  |with_reducible refine Vi ?_
  |with_reducible refine TC ?_
  |with_reducible refine moIR ?_
  |with_reducible refine moIRG ?_
  |with_reducible refine Vj ?_
  |with_reducible refine TD ?_
  |with_reducible refine moIP ?_
  |with_reducible refine moIPG ?_
  |with_reducible refine nilE ?_
  |with_reducible refine nilN ?_
  |with_reducible refine boolE ?_
  |with_reducible refine boolN ?_
  |with_reducible refine MN ?_
  |with_reducible refine MP ?_)
 exact hG.get):G:=hs ⟨⟩ ⟨fx⟩ ⟨h⟩
def o3:OT:=[(3,false,[(0,1),(2,1),(1,1),(3,16)],[1,3,8,16])]
def o7:OT:=[(20,false,[(0,18)],[6,15])]
def o15:OT:=[(6,false,[(0,9)],[])]
def o16:OT:=[(4,false,[(0,49)],[12,13,17,18])]
def o19:OT:=[(6,true,[(0,14)],[10,11,12,13]),(12,true,[(0,14)],[10,11,12,13]),(18,true,[(0,14)],[10,11,12,13])]
def o22:OT:=[(6,false,[(0,12)],[10]),(11,false,[(0,12)],[10])]
def o27:OT:=[(6,false,[(0,9)],[])]
def o35:OT:=[(6,false,[(0,1),(2,1),(1,1),(3,3)],[1,3])]
def o48:OT:=[(4,true,[(0,21)],[12,14,15,17,18,20]),(5,true,[(0,18)],[9,13,17]),(6,true,[(0,9)],[4,8]),(10,true,[(0,3),(4,3),(3,1),(7,3)],[3,8,9]),(12,true,[(0,18),(19,1),(18,1),(20,7)],[18,22,26]),(16,true,[(0,7),(8,5),(7,1),(13,9)],[7,13,17,21])]
def o55:OT:=[(6,false,[(0,12)],[10])]
def o56:OT:=[(2,true,[(0,3),(4,2),(7,3),(3,1),(6,1),(10,5)],[3,6,10,13,14]),(8,true,[(0,10)],[9]),(15,true,[(0,17),(18,4),(17,1),(22,6)],[17,22,25,27])]
def o58:OT:=[(6,false,[(0,12)],[10])]
def o59:OT:=[(6,false,[(0,11)],[])]
def o79:OT:=[(14,true,[(0,8),(9,6),(8,1),(15,3)],[3,8,17]),(15,true,[(0,18)],[17])]
def o82:OT:=[(9,false,[(0,10)],[7])]
def o83:OT:=[(13,true,[(0,9)],[6,8])]
def o106:OT:=[(1,true,[(0,3),(4,3),(8,3),(3,1),(7,1),(11,3)],[3,7,11,13])]
def o111:OT:=[(1,true,[(0,11)],[10])]
def o112:OT:=[(8,true,[(0,10)],[9]),(10,true,[(0,10)],[9]),(13,true,[(0,10)],[9]),(14,true,[(0,15)],[10,14]),(25,true,[(0,12)],[8,11])]
def o113:OT:=[(1,true,[(0,20),(21,4),(20,1),(25,3)],[20,25,27])]
def o119:OT:=[(18,true,[(0,10)],[8,9]),(20,true,[(0,11)],[7,10])]
def o136:OT:=[(1,true,[(0,3),(4,3),(8,3),(3,1),(7,1),(11,3)],[3,7,11,13])]
def o141:OT:=[(1,true,[(0,12)],[11])]
def o143:OT:=[(1,true,[(0,11)],[7,9,10]),(4,true,[(0,10)],[9])]
def o144:OT:=[(10,true,[(0,13)],[12]),(12,true,[(0,13)],[12]),(15,true,[(0,13)],[12]),(17,true,[(0,12)],[11]),(24,false,[(0,1),(2,3),(1,1),(5,2)],[1,5]),(25,true,[(0,10)],[5,7,9])]
def o148:OT:=[(6,false,[(0,9)],[])]
def o149:OT:=[(6,false,[(0,12)],[10])]
def o157:OT:=[(6,false,[(0,9)],[])]
def o158:OT:=[(6,false,[(0,9)],[])]
def o184:OT:=[(2,true,[(0,7)],[6])]
def o185:OT:=[(31,true,[(0,8)],[7])]
def o187:OT:=[(1,true,[(0,12)],[7,11]),(8,true,[(0,8)],[7]),(11,false,[(0,12)],[])]
def o190:OT:=[(1,true,[(0,12)],[7,11]),(9,false,[(0,13)],[])]
def o191:OT:=[(19,true,[(0,6)],[3,4,5])]
def o200:OT:=[(1,true,[(0,7)],[6])]
def o202:OT:=[(6,true,[(0,8),(9,1),(8,1),(10,2)],[8,10,11])]
def o228:OT:=[(7,true,[(0,3),(4,2),(3,1),(6,2)],[3,7])]
def o247:OT:=[(11,false,[(0,11)],[9])]
def o272:OT:=[(2,false,[(0,27)],[24])]
def o274:OT:=[(4,false,[(1,3),(0,1),(4,7)],[0,8,9])]
def o306:OT:=[(6,false,[(0,2),(3,2),(2,1),(5,3)],[2,5,6])]
section
variable {P:Program}{ro:Option Nat}{n:Nat}{ops:Array Oper}{N:Nat}{S0:Sig}{Q:DX->St->Prop}{df:List DDf}{rest:List Oper}{γ Sr:List (Nat×D)}{V:Sig}{t:Nat}{ty:TypeId}{pos:String}{after:Array Edge}{l:List (Bool×Oper)}{d:D}{e:Bool}
theorem LP{P:Program}{fop:Operand}{args:Array Operand}{ats:Array TypeId}{f:Nat}{first cap us bs:List D}(hl:A4 γ (A6 (fop::args.toList))=some Sr)(hf:ev Sr fop=.func (.func f) first cap)(ha:first++args.toList.map (ev Sr)++cap=us)(hb:bs=us\/bs=us.map D.plain)
  (h:∀S',Sub S0 S'->DCall P f bs S' fun x S''=>x=.ret d/\Sub S' S'') (htn:decide (t<n)=true) (k:MO P ro n ops N S0 Q df l ((t,d)::γ) V) :
  MO P ro n ops N S0 Q df ((e,⟨some t,(cv fop args ats),ty,pos,after,none⟩)::l) γ V:=by
 have hx:∀x∈fop::args.toList,ev Sr x=ev γ x:=fun x hx=>Bv fun t ht=>AD hl t (AU (by rw[<-ht];exact hx))
 have hop:∀x∈((cv fop args ats)).operands,ev (only (Oper.looksAt ops ⟨some t,(cv fop args ats),ty,pos,after,none⟩) γ) x=ev γ x:=fun x hx=>CA (o:=⟨some t,(cv fop args ats),ty,pos,after,none⟩) hx;refine Oz d htn rfl (by rw[Bf];rfl) (fun S' hS' ro' df'=>?_) k;refine Fh (first:=first) (cap:=cap) (f:=f) ?_ ?_ (h S' hS') ?_ htn ?_ ?_
 ·show AB ops (only _ γ) _=some true;rw[Bf];rfl
 ·rw[hop fop (by simp[Op.operands,Call.operands]),<-hx fop (by simp)];exact hf
 ·simp only
  rw[show args.toList.map (ev (only (Oper.looksAt ops ⟨some t,(cv fop args ats),ty,pos,after,none⟩) γ))=args.toList.map (ev Sr) from List.map_congr_left fun x hm=>by
   rw[hop x (by simp at hm;simp[Op.operands,Call.operands,hm]),<-hx x (by simp[hm])],ha]
  rcases hb with rfl|rfl
  ·exact Dn _
  ·exact Eu _
 ·rintro d' S'' ⟨h1,h2⟩
  cases h1;exact B6 ⟨rfl,by simp[putD,A8],h2⟩
 ·rintro d' S'' ⟨h1,h2⟩
  cases h1
theorem moQR{fop:Operand}{args:Array Operand}{ats:Array TypeId}{f:Nat}{first cap us:List D}{H:Prop}(k1:MO prog ro n ops N S0 Q df l ((t,d)::γ) V)(hl:A4 γ (A6 (fop::args.toList))=some Sr:=by rfl)(hf:ev Sr fop=.func (.func f) first cap:=by rfl)(ha:first++args.toList.map (ev Sr)++cap=us:=by(simp(disch:=first|omega|assumption) [An,big1,big2,w8]<;>(try simp only[B1,B2,AJ,B0,Ay,AM,AL,AK,AI,Ax,AH,AG,AF])<;>with_unfolding_all rfl))(hs:∀S',Ans f us S' H d:=by intro S';infer_instance)(hH:H:=by(and_intros<;>first|trivial|assumption|omega|(simp;done)|(simp;omega)))(htn:decide (t<n)=true:=by exact tdR):MO prog ro n ops N S0 Q df ((e,⟨some t,(cv fop args ats),ty,pos,after,none⟩)::l) γ V:=LP hl hf ha (.inl rfl) (fun S' _=>by have h:=(hs S').call hH;exact h.mono fun x S'' hx=>⟨hx.1,hx.2 ▸ Sub.refl _⟩) htn k1
theorem U3{fop:Operand}{args:Array Operand}{ats:Array TypeId}{f:Nat}{first cap us bs:List D}(h:∀S',Sub S0 S'->DCall prog f bs S' fun x S''=>x=.ret d/\Sub S' S'')(k1:MO prog ro n ops N S0 Q df l ((t,d)::γ) V)(hl:A4 γ (A6 (fop::args.toList))=some Sr:=by rfl)(hf:ev Sr fop=.func (.func f) first cap:=by rfl)(ha:first++args.toList.map (ev Sr)++cap=us:=by(simp(disch:=first|omega|assumption) [An,big1,big2,w8]<;>(try simp only[B1,B2,AJ,B0,Ay,AM,AL,AK,AI,Ax,AH,AG,AF])<;>with_unfolding_all rfl))(hp:bs=us:=by exact tdR)(htn:decide (t<n)=true:=by exact tdR):MO prog ro n ops N S0 Q df ((e,⟨some t,(cv fop args ats),ty,pos,after,none⟩)::l) γ V:=LP hl hf ha (.inl hp) h htn k1
theorem mixA{lo:List Oper}{id:Nat}(ord E:List Nat){lp:List (Bool×Oper)}(h:MO2 prog ro n lo.toArray 334 V Q df tab lp γ V)(hB:GP lo.toArray E ord=true:=by kernel_rfl)(hA:allOK tab n lo.toArray=true:=by exact tdR)(hl:FF lo E ord=some lp:=by exact tdR):DWp prog ro n (.region id lo.toArray true) Q ⟨γ,V,df⟩:=
 UN Ad Al mixed ord E V hB hA (Sub.refl _) hl h
end
end Go.DL
namespace Go.DL
open Go.Proofs.Tryz
open Go Go.Proofs
set_option maxHeartbeats 8000000
def idxG{α:Type}[DecidableEq α](s:α):List α->Nat->Int
 |[],_=> -1
 |x::r,k=>if x=s then k else idxG s r (k+1)
theorem SK(l:List Int)(s:Int)(o:Own)(V:Sig)(hl:l.length<=1073741824:=by exact sd):
  DCall prog 174 [.slice (cI l) o,dI s] V (rS (dI (idxG s l 0)) V):=by
 refine en func174 ntmps174 ?_;refine gz ?_;refine Bj [0,1,7] (fun (k:Nat)=>k<=l.length/\idxG s l 0=idxG s (l.drop k) k) (fun k=>[(8,dI k)]) (fun _=>V) (fun k=>l.length-k) (0) (by simp) (fun k hI=>?_);obtain⟨hk,hR⟩:=hI
 by_cases h:k<l.length
 ·rw[A3 h,idxG]at hR
  repeat' first|refine gz ?_|apply gy<;>intro hh
  ·rw[if_pos hh.symm]at hR;exact fe1 hR
  ·exact⟨k+1,⟨by omega,by rw[hR,if_neg (fun e=>hh e.symm)]⟩,td1,wkR⟩
 ·rw[A2 h,idxG]at hR;refine gz ?_;exact fe1 hR
@[reducible,instance] def a174:=fun l s o V=>ah1 (@SK l s o V)
theorem Uo(l:List Int)(s:Int)(o:Own)(V:Sig)(hl:l.length<=1073741824:=by exact sd):
  DCall prog 89 [.slice (cI l) o,dI s] V (rS (.bool (decide (0<=idxG s l 0))) V):=by
 refine en func89 ntmps89 ?_;refine gz ?_;exact fe1 trivial
theorem UG(l:List (List D))(o:Own)(V:Sig):
  DCall prog 43 [.slice l o] V (rS (.slice l .clip) V):=by
 refine en func43 ntmps43 ?_;refine gz ?_;exact fe1 trivial
@[reducible,instance] def a43:=fun l o V=>ah0 (@UG l o V)
theorem P2(a b:List Int)(o o':Own)(V:Sig)(hl:a.length<=1073741824:=by exact sd):
  DCall prog 15 [.slice (cI a) o,.slice (cI b) o'] V (rS (.bool (a==b)) V):=by
 refine en func15 ntmps15 ?_
 by_cases hab:a.length=b.length
 ·refine gz ?_ o15;refine Bj [0,1,12] (fun (k:Nat)=>k<=a.length/\(a=b ↔ a.drop k=b.drop k)) (fun k=>[(13,dI k)]) (fun _=>V) (fun k=>a.length-k) (0) (by simp) (fun k hI=>?_);obtain⟨hk,hR⟩:=hI
  by_cases h:k<a.length
  ·rw[A3 h,A3 (l:=b) (by omega),List.cons.injEq]at hR
   repeat' first|refine gz ?_ o15|apply gy<;>intro hh
   ·have:a≠b:=fun e=>hh (hR.1 e).1;exact fe1 this
   ·exact⟨k+1,⟨by omega,by rw[hR];simp_all⟩,td1,wkR⟩
  ·have:a=b:=hR.2 (by rw[A2 (by omega),A2 (by omega)]);refine gz ?_ o15;exact fe1 this
 ·have:a≠b:=fun e=>hab (by rw[e])
  refine gz ?_ o15;exact fe1 this
@[reducible,instance] def a15:=fun a b o o' V=>ah1 (@P2 a b o o' V)
theorem SY(a b:List Str)(o o':Own)(V:Sig)(hl:a.length<=1073741824:=by exact sd):
  DCall prog 148 [.slice (cS a) o,.slice (cS b) o'] V (rS (.bool (a==b)) V):=by
 refine en func148 ntmps148 ?_
 by_cases hab:a.length=b.length
 ·refine gz ?_ o148;refine Bj [0,1] (fun (k:Nat)=>k<=a.length/\(a=b ↔ a.drop k=b.drop k)) (fun k=>[(5,dI k)]) (fun _=>V) (fun k=>a.length-k) (0) (by simp) (fun k hI=>?_);obtain⟨hk,hR⟩:=hI
  by_cases h:k<a.length
  ·rw[A3 h,A3 (l:=b) (by omega),List.cons.injEq]at hR
   repeat' first|refine gz ?_ o148|apply gy<;>intro hh
   ·have:a≠b:=fun e=>hh (hR.1 e).1;exact fe1 this
   ·exact⟨k+1,⟨by omega,by rw[hR];simp_all⟩,td1,wkR⟩
  ·have:a=b:=hR.2 (by rw[A2 (by omega),A2 (by omega)]);refine gz ?_ o148;exact fe1 this
 ·have:a≠b:=fun e=>hab (by rw[e])
  refine gz ?_ o148;exact fe1 this
@[reducible,instance] def a148:=fun a b o o' V=>ah1 (@SY a b o o' V)
theorem Gp(l:List (List D))(o:Own)(V:Sig)(hl:l.length<=1073741824:=by exact sd)(hs:∀c∈l,c.length=1:=by exact sd):
  DCall prog 118 [.slice l o] V (rS (sl l) V):=by
 refine en func118 ntmps118 ?_;refine gz ?_;refine isN (fun b hb=>?_)
 repeat' first|refine gz ?_|apply gy<;>intro hh
 ·exact fe1 (d':=sl []) (hb hh)
 ·by_cases h:l=[]
  ·refine app0 ?_;refine gz ?_;exact fe1 (d':=sl []) h
  ·refine appC (fun i hi=>?_) (hne:=by simp[h]) (hlen':=hs);refine gz ?_;exact finS (S':=V) (es:=l) ⟨rfl,rfl⟩ ((Sub.refl _).set hi)
def inB(n:Int):Bool:=decide (-1000000000<=n)&&decide (n<=1000000000)
theorem SQ(n:Int)(V:Sig):DCall prog 168 [dI n] V (rS (.bool (inB n)) V):=by
 refine en func168 ntmps168 ?_
 by_cases h : -1000000000<=n
 ·refine gz ?_
  (refine fin1 (S':=V) ?_;exact⟨by first|rfl|(simp[inB,h];done)|(simp_all [inB,h];done)|(rw[Ae,Bool.eq_iff_iff];simp_all [inB,h]<;>omega),rfl⟩)
 ·refine gz ?_
  (refine fin1 (S':=V) ?_;exact⟨by first|rfl|(simp[inB,h];done)|(simp_all [inB,h];done)|(rw[Ae,Bool.eq_iff_iff];simp_all [inB,h]<;>omega),rfl⟩)
@[reducible,instance] def a168:=fun n V=>ah0 (@SQ n V)
mutual
def Fact.size:Fact->Nat
 |.mk _ _ _ _ _ k=>1+Fact.sizes k
def Fact.sizes:List Fact->Nat
 |[]=>0
 |f::l=>f.size+Fact.sizes l
end
theorem Fact.size_eq(f:Fact):f.size=1+Fact.sizes f.kids:=by cases f;rw[Fact.size];rfl
theorem Fact.sizes_len: ∀l:List Fact,l.length<=Fact.sizes l
 |[]=>by simp
 |f::l=>by
  have:=Fact.sizes_len l;rw[Fact.sizes,Fact.size_eq];simp;omega
theorem Fact.sizes_mem: ∀{l:List Fact}{x:Fact},x∈l->x.size<=Fact.sizes l
 |[],_,h=>by cases h
 |f::l,x,h=>by
  rw[Fact.sizes];rcases List.mem_cons.1 h with rfl|h
  ·omega
  ·have:=Fact.sizes_mem h;omega
theorem Fact.kid_size{f:Fact}{k:Nat}(h:k<f.kids.length):(f.kids[k]).size<f.size:=by
 have:=Fact.sizes_mem (List.getElem_mem h);rw[Fact.size_eq f];omega
theorem L9(f:Fact)(V:Sig)(hf:f.size<=1073741824:=by exact sd):
  DCall prog 51 [.agg (Ba f)] V (rS (dI f.size) V):=by
 have hsz:=Fact.size_eq f;have hkl:=Fact.sizes_len f.kids;refine en func51 ntmps51 ?_;refine gz ?_;refine Br [2,7,8,18] (fun (k:Nat) (m:Nat)=>k<=f.kids.length/\m+Fact.sizes (f.kids.drop k)=f.size) (fun k m=>[(9,dI k),(3,dI m)]) (fun _ _=>V) (fun k _=>f.kids.length-k) (0) (1) (by simp;omega) (fun k m hI=>?_);obtain⟨hk,hR⟩:=hI
 by_cases h:k<f.kids.length
 ·rw[A3 h,Fact.sizes]at hR
  repeat' first|refine gz ?_|refine AE (L9 (f.kids[k]) V (by omega)) ?_|refine callP (L9 (f.kids[k]) V (by omega)) ?_|refine gz ?_|apply gy<;>intro hh
  exact⟨k+1,m+(f.kids[k]).size,by omega,td1,wkR⟩
 ·rw[A2 h,Fact.sizes]at hR;refine gz ?_
  (refine fin1 (S':=V) ?_;exact⟨by first|rfl|(simp[hR.symm];done)|(simp_all [hR.symm];done)|(rw[Ae,Bool.eq_iff_iff];simp_all [hR.symm]<;>omega),rfl⟩)
termination_by SizeOf.sizeOf f
decreasing_by exact Fact.lt (List.getElem_mem _)
@[reducible,instance] def a51:=fun f V=>ah1 (@L9 f V)
def mx(x y:Int):Int:=if y>x then y else x
theorem mx_eq(x y:Int):mx x y=max x y:=by unfold mx;split<;>omega
def Cm(o:Int):Bool:=decide (o=2)||decide (o=3)||decide (o=4)
mutual
def Fact.speaks:Fact->Int
 |.mk o a _ _ _ k=>Fact.speakss k (if Cm o then IntKind.i64.wrap (a+1) else 0)
def Fact.speakss:List Fact->Int->Int
 |[],n=>n
 |f::l,n=>Fact.speakss l (mx n f.speaks)
end
theorem Fact.speaks_eq(f:Fact):f.speaks=Fact.speakss f.kids (if Cm f.op then IntKind.i64.wrap (f.arg+1) else 0):=by cases f;rw[Fact.speaks];rfl
theorem L6(f:Fact)(V:Sig)(hf:f.size<=1073741824:=by exact sd):
  DCall prog 88 [.agg (Ba f)] V (rS (dI f.speaks) V):=by
 have hsz:=Fact.size_eq f;have hkl:=Fact.sizes_len f.kids;have hse:=(Fact.speaks_eq f).symm;have hL:Cm f.op=(decide (f.op=2)||decide (f.op=3)||decide (f.op=4)):=rfl;refine en func88 ntmps88 ?_
 repeat' first|refine gz ?_|apply gy<;>intro hh
 all_goals
  refine Br [2,23,24,34] (fun (k:Nat) (m:Int)=>k<=f.kids.length/\Fact.speakss (f.kids.drop k) m=f.speaks) (fun k m=>[(25,dI k),(3,dI m)]) (fun _ _=>V) (fun k _=>f.kids.length-k) (0) ((if Cm f.op then IntKind.i64.wrap (f.arg+1) else 0)) (by exact⟨by omega,hse⟩) (fun k m hI=>?_);obtain⟨hk,hR⟩:=hI;clear hL
  by_cases h:k<f.kids.length
  ·rw[A3 h,Fact.speakss]at hR;have hks:=Fact.kid_size h
   repeat' first|refine gz ?_|refine AE (L6 (f.kids[k]) V (by omega)) ?_|refine callP (L6 (f.kids[k]) V (by omega)) ?_|refine gz ?_|apply gy<;>intro hh
   have hm:mx m (f.kids[k]).speaks=if m<(f.kids[k]).speaks then(f.kids[k]).speaks else m:=rfl
   exact⟨k+1,mx m (f.kids[k]).speaks,⟨by omega,hR⟩,td1,wkR⟩
  ·rw[A2 h,Fact.speakss]at hR;refine gz ?_;exact fe1 hR
termination_by SizeOf.sizeOf f
decreasing_by all_goals exact Fact.lt (List.getElem_mem _)
@[reducible,instance] def a88:=fun f V=>ah1 (@L6 f V)
mutual
def Fact.depth:Fact->Int
 |.mk _ _ _ _ _ k=>Fact.depths k 0+1
def Fact.depths:List Fact->Int->Int
 |[],n=>n
 |f::l,n=>Fact.depths l (mx n f.depth)
end
theorem Fact.depth_eq(f:Fact):f.depth=Fact.depths f.kids 0+1:=by cases f;rw[Fact.depth];rfl
mutual
theorem Fact.depth_le: ∀f:Fact,1<=f.depth/\f.depth<=f.size
 |.mk _ _ _ _ _ k=>by
  have:=Fact.depths_le k 0 (Int.le_refl 0);rw[Fact.depth,Fact.size];simp;omega
theorem Fact.depths_le: ∀(l:List Fact) (n:Int),0<=n->n<=Fact.depths l n/\Fact.depths l n<=max n (Fact.sizes l)
 |[],n,h=>by simp[Fact.depths,Fact.sizes];omega
 |f::l,n,h=>by
  have h1:=Fact.depth_le f;have h2:=Fact.depths_le l (mx n f.depth) (by rw[mx_eq];omega);rw[Fact.depths,Fact.sizes];rw[mx_eq]at h2⊢;simp only[Int.natCast_add];omega
end
end Go.DL
