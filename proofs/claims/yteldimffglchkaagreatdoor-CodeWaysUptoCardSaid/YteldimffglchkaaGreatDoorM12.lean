/- A part of the proof. -/
import Derived.Test.YteldimffglchkaaGreatDoorM11
import Derived.Test.YteldimffglchkaaGreatDoorM07
import Derived.Shelf.Slices.In.SortAlone
import Derived.Shelf.Slices.In.SortNone
set_option linter.all false
namespace Go.DL
open Go.Proofs.Tryz
open Go Go.Proofs
abbrev Str:=List UInt8
attribute [simp] w6 w8
theorem big1{x:Nat}(h:x<=140737488355328):(140737488355328<x)=False:=by simp;omega
theorem big2{x:Nat}(h:x<=9223372036854775807):(9223372036854775807<x)=False:=by simp;omega
@[simp] theorem getElem0{α:Type}(a:α)(l:List α):(a::l)[0]? = some a:=rfl
abbrev sl(es:List (List D)):D:=.slice es .no
abbrev dI(n:Int):D:=.int .i64 n
def cS(l:List Str):List (List D):=l.map fun s=>[.str s]
@[simp] theorem cS_len(l:List Str):(cS l).length=l.length:=by simp[cS]
@[simp] theorem cS_get(l:List Str)(i:Nat):(cS l)[i]? = (l[i]?).map fun s=>[.str s]:=by simp[cS]
@[simp] theorem cS_all(l:List Str):(cS l).all (fun c=>c.length==1)=true:=by simp[cS]
@[simp] theorem E1(l:List Str): ∀c∈cS l,c.length=1:=by simp[cS]
def cI(l:List Int):List (List D):=l.map fun s=>[.int .i64 s]
@[simp] theorem MJ(l:List Int):(cI l).length=l.length:=by simp[cI]
@[simp] theorem cI_get(l:List Int)(i:Nat):(cI l)[i]? = (l[i]?).map fun s=>[.int .i64 s]:=by simp[cI]
@[simp] theorem Cb(l:List Int): ∀c∈cI l,c.length=1:=by simp[cI]
def cII(l:List (List Int)):List (List D):=l.map fun s=>[sl (cI s)]
@[simp] theorem cII_len(l:List (List Int)):(cII l).length=l.length:=by simp[cII]
@[simp] theorem cII_get(l:List (List Int))(i:Nat):(cII l)[i]? = (l[i]?).map fun s=>[sl (cI s)]:=by simp[cII]
@[simp] theorem cI_all(l:List Int):(cI l).all (fun c=>c.length==1)=true:=by simp[cI]
@[simp] theorem cII_all(l:List (List Int)):(cII l).all (fun c=>c.length==1)=true:=by simp[cII]
@[simp] theorem CK(l:List (List Int)): ∀c∈cII l,c.length=1:=by simp[cII]
structure Init where
 slot:Int
 n:Int
 deriving DecidableEq
structure BClass where
 parents:List Int
 slots:List Int
 inits:List Init
 deriving DecidableEq
inductive Fact where
 |mk (op arg:Int) (path:List Int) (cls n:Int) (kids:List Fact)
structure BMeth where
 kind:Int
 gen:Int
 fact:Fact
 node:Int
structure BNode where
 op:Int
 n:Int
 kids:List Int
 deriving DecidableEq
structure BProg where
 classes:List BClass
 slots:Int
 gens:List Int
 methods:List BMeth
 nodes:List BNode
 main:Int
inductive FExp where
 |mk (op n:Int) (text:Str) (kids:List FExp)
inductive FFact where
 |mk (op:Int) (name:Str) (path:List Str) (cls:Str) (n:Int) (kids:List FFact)
structure FInit where
 slot:Str
 n:Int
 deriving DecidableEq
structure FClass where
 name:Str
 parents:List Str
 slots:List Str
 inits:List FInit
 deriving DecidableEq
structure FMeth where
 kind:Int
 name:Str
 params:List Str
 fact:FFact
 body:FExp
structure FProg where
 classes:List FClass
 methods:List FMeth
 main:FExp
structure World where
 parents:List (List Int)
 owner:List Int
 deriving DecidableEq
section
def Fact.op:Fact->Int|.mk o _ _ _ _ _=>o
def Fact.arg:Fact->Int|.mk _ a _ _ _ _=>a
def Fact.path:Fact->List Int|.mk _ _ p _ _ _=>p
def Fact.cls:Fact->Int|.mk _ _ _ c _ _=>c
def Fact.n:Fact->Int|.mk _ _ _ _ n _=>n
def Fact.kids:Fact->List Fact|.mk _ _ _ _ _ k=>k
def FExp.op:FExp->Int|.mk o _ _ _=>o
def FExp.n:FExp->Int|.mk _ n _ _=>n
def FExp.text:FExp->Str|.mk _ _ t _=>t
def FExp.kids:FExp->List FExp|.mk _ _ _ k=>k
def FFact.op:FFact->Int|.mk o _ _ _ _ _=>o
def FFact.name:FFact->Str|.mk _ s _ _ _ _=>s
def FFact.path:FFact->List Str|.mk _ _ p _ _ _=>p
def FFact.cls:FFact->Str|.mk _ _ _ c _ _=>c
def FFact.n:FFact->Int|.mk _ _ _ _ n _=>n
def FFact.kids:FFact->List FFact|.mk _ _ _ _ _ k=>k
theorem Fact.lt{f x:Fact}(h:x∈f.kids):SizeOf.sizeOf x<SizeOf.sizeOf f:=by
 cases f;simp only[Fact.kids]at h
 have:=List.sizeOf_lt_of_mem h
 simp;omega
theorem FExp.lt{f x:FExp}(h:x∈f.kids):SizeOf.sizeOf x<SizeOf.sizeOf f:=by
 cases f;simp only[FExp.kids]at h
 have:=List.sizeOf_lt_of_mem h
 simp;omega
theorem FFact.lt{f x:FFact}(h:x∈f.kids):SizeOf.sizeOf x<SizeOf.sizeOf f:=by
 cases f;simp only[FFact.kids]at h
 have:=List.sizeOf_lt_of_mem h
 simp;omega
end
mutual
def CY:Fact->List D
 |.mk o a p c n k=>[dI o,dI a,sl (cI p),dI c,dI n,sl (MK k)]
def MK:List Fact->List (List D)
 |[]=>[]
 |f::l=>CY f::MK l
end
theorem Ki: ∀l,MK l=l.map CY
 |[]=>by rw[MK];rfl
 |f::l=>by rw[MK,Ki l];rfl
@[simp] theorem Fp(f:Fact):CY f=[dI f.op,dI f.arg,sl (cI f.path),dI f.cls,dI f.n,sl (f.kids.map CY)]:=by
 cases f;rw[CY,Ki];rfl
mutual
def J5:FExp->List D
 |.mk o n t k=>[dI o,dI n,.str t,sl (ML k)]
def ML:List FExp->List (List D)
 |[]=>[]
 |f::l=>J5 f::ML l
end
theorem Kj: ∀l,ML l=l.map J5
 |[]=>by rw[ML];rfl
 |f::l=>by rw[ML,Kj l];rfl
@[simp] theorem GK(f:FExp):J5 f=[dI f.op,dI f.n,.str f.text,sl (f.kids.map J5)]:=by
 cases f;rw[J5,Kj];rfl
mutual
def GJ:FFact->List D
 |.mk o s p c n k=>[dI o,.str s,sl (cS p),.str c,dI n,sl (J4 k)]
def J4:List FFact->List (List D)
 |[]=>[]
 |f::l=>GJ f::J4 l
end
theorem J3: ∀l,J4 l=l.map GJ
 |[]=>by rw[J4];rfl
 |f::l=>by rw[J4,J3 l];rfl
@[simp] theorem Fb(f:FFact):GJ f=[dI f.op,.str f.name,sl (cS f.path),.str f.cls,dI f.n,sl (f.kids.map GJ)]:=by
 cases f;rw[GJ,J3];rfl
@[simp] def J2(i:Init):List D:=[dI i.slot,dI i.n]
@[simp] def J6(c:BClass):List D:=[sl (cI c.parents),sl (cI c.slots),sl (c.inits.map J2)]
@[simp] def TG(m:BMeth):List D:=[dI m.kind,dI m.gen]++CY m.fact++[dI m.node]
@[simp] def Kk(x:BNode):List D:=[dI x.op,dI x.n,sl (cI x.kids)]
@[simp] def Ag(p:BProg):List D:=[sl (p.classes.map J6),dI p.slots,sl (cI p.gens),sl (p.methods.map TG),sl (p.nodes.map Kk),dI p.main]
@[simp] def TF(i:FInit):List D:=[.str i.slot,dI i.n]
@[simp] def NE(c:FClass):List D:=[.str c.name,sl (cS c.parents),sl (cS c.slots),sl (c.inits.map TF)]
@[simp] def TE(m:FMeth):List D:=[dI m.kind,.str m.name,sl (cS m.params)]++GJ m.fact++J5 m.body
@[simp] def cFProg(p:FProg):List D:=[sl (p.classes.map NE),sl (p.methods.map TE)]++J5 p.main
@[simp] def MI(w:World):List D:=[sl (cII w.parents),sl (cI w.owner)]
theorem B5{O:Sig}{i j:Nat}{o:DObj}(h:O.set i o j=none):j≠i/\O j=none:=by
 by_cases hj:j=i
 ·subst hj;rw[w6]at h;cases h
 ·rw[w7 _ _ hj]at h;exact⟨hj,h⟩
theorem Aj{α:Type}{l:List α}{k:Nat}(h:¬k<l.length):l.drop k=[]:=List.drop_of_length_le (by omega)
theorem Ad{α:Type}{l:List α}{k:Nat}(h:k<l.length):l.drop k=l[k]::l.drop (k+1):=List.drop_eq_getElem_cons h
@[simp] theorem cI_nil:cI []=[]:=rfl
@[simp] theorem cS_nil:cS []=[]:=rfl
@[simp] theorem cII_nil:cII []=[]:=rfl
@[simp] theorem cI_take(l:List Int)(k:Nat):(cI l).take k=cI (l.take k):=by simp[cI]
@[simp] theorem cI_tail(l:List Int):(cI l).tail=cI l.tail:=by simp[cI]
@[simp] theorem cS_tail(l:List Str):(cS l).tail=cS l.tail:=by simp[cS]
theorem Bj(f:Fact):[dI f.op,dI f.arg,sl (cI f.path),dI f.cls,dI f.n,sl (f.kids.map CY)]=CY f:=by simp
theorem Bk(f:FExp):[dI f.op,dI f.n,.str f.text,sl (f.kids.map J5)]=J5 f:=by simp
theorem AV(f:FFact):[dI f.op,.str f.name,sl (cS f.path),.str f.cls,dI f.n,sl (f.kids.map GJ)]=GJ f:=by simp
theorem Bi(i:Init):[dI i.slot,dI i.n]=J2 i:=rfl
theorem AN(c:BClass):[sl (cI c.parents),sl (cI c.slots),sl (c.inits.map J2)]=J6 c:=rfl
theorem AY(m:BMeth):[dI m.kind,dI m.gen,dI m.fact.op,dI m.fact.arg,sl (cI m.fact.path),dI m.fact.cls,dI m.fact.n,sl (m.fact.kids.map CY),dI m.node]=TG m:=by simp
theorem AX(x:BNode):[dI x.op,dI x.n,sl (cI x.kids)]=Kk x:=rfl
theorem AW(p:BProg):[sl (p.classes.map J6),dI p.slots,sl (cI p.gens),sl (p.methods.map TG),sl (p.nodes.map Kk),dI p.main]=Ag p:=rfl
theorem AU(i:FInit):[.str i.slot,dI i.n]=TF i:=rfl
theorem AM(c:FClass):[.str c.name,sl (cS c.parents),sl (cS c.slots),sl (c.inits.map TF)]=NE c:=rfl
theorem AT(m:FMeth):dI m.kind :: .str m.name::sl (cS m.params)::dI m.fact.op :: .str m.fact.name::sl (cS m.fact.path) :: .str m.fact.cls::dI m.fact.n::sl (m.fact.kids.map GJ)::J5 m.body=TE m:=by simp
theorem AS(p:FProg):sl (p.classes.map NE)::sl (p.methods.map TE)::J5 p.main=cFProg p:=by simp
theorem AR(w:World):[sl (cII w.parents),sl (cI w.owner)]=MI w:=rfl
def wtL{α:Type}(f:α->Nat):List α->Nat
 |[]=>0
 |x::l=>f x+wtL f l
theorem DG{α:Type}(f:α->Nat): ∀(l:List α) (k:Nat) (h:k<l.length),f l[k]<=wtL f l
 |x::l,0,_=>by simp[wtL]
 |x::l,k+1,h=>by
  have:=DG f l k (by simpa using h)
  simp only[List.getElem_cons_succ,wtL];omega
theorem DF{α:Type}(f:α->Nat)(hf:∀x,1<=f x): ∀l:List α,l.length<=wtL f l
 |[]=>Nat.le_refl _
 |x::l=>by
  have:=DF f hf l
  have:=hf x
  simp only[List.length_cons,wtL];omega
theorem MT{α:Type}(f:α->Nat): ∀l m:List α,wtL f (l++m)=wtL f l+wtL f m
 |[],m=>by simp[wtL]
 |x::l,m=>by simp only[List.cons_append,wtL,MT f l m];omega
def wtS:List Str->Nat:=wtL fun s=>1+s.length
mutual
def Fact.wt:Fact->Nat
 |.mk _ _ p _ _ k=>1+p.length+Fact.wts k
def Fact.wts:List Fact->Nat
 |[]=>0
 |f::l=>f.wt+Fact.wts l
end
mutual
def FExp.wt:FExp->Nat
 |.mk _ _ t k=>1+t.length+FExp.wts k
def FExp.wts:List FExp->Nat
 |[]=>0
 |f::l=>f.wt+FExp.wts l
end
mutual
def FFact.wt:FFact->Nat
 |.mk _ s p c _ k=>1+s.length+wtS p+c.length+FFact.wts k
def FFact.wts:List FFact->Nat
 |[]=>0
 |f::l=>f.wt+FFact.wts l
end
theorem Fact.wts_eq: ∀l,Fact.wts l=wtL Fact.wt l
 |[]=>by rw[Fact.wts,wtL]
 |f::l=>by rw[Fact.wts,wtL,Fact.wts_eq l]
theorem FExp.wts_eq: ∀l,FExp.wts l=wtL FExp.wt l
 |[]=>by rw[FExp.wts,wtL]
 |f::l=>by rw[FExp.wts,wtL,FExp.wts_eq l]
theorem FFact.wts_eq: ∀l,FFact.wts l=wtL FFact.wt l
 |[]=>by rw[FFact.wts,wtL]
 |f::l=>by rw[FFact.wts,wtL,FFact.wts_eq l]
theorem Fact.wt_eq(f:Fact):f.wt=1+f.path.length+wtL Fact.wt f.kids:=by cases f;rw[Fact.wt,Fact.wts_eq];rfl
theorem FExp.wt_eq(f:FExp):f.wt=1+f.text.length+wtL FExp.wt f.kids:=by cases f;rw[FExp.wt,FExp.wts_eq];rfl
theorem FFact.wt_eq(f:FFact):f.wt=1+f.name.length+wtS f.path+f.cls.length+wtL FFact.wt f.kids:=by cases f;rw[FFact.wt,FFact.wts_eq];rfl
theorem Fact.wt_pos(f:Fact):1<=f.wt:=by rw[Fact.wt_eq];omega
theorem FExp.wt_pos(f:FExp):1<=f.wt:=by rw[FExp.wt_eq];omega
theorem FFact.wt_pos(f:FFact):1<=f.wt:=by rw[FFact.wt_eq];omega
theorem Fact.wt_le(f:Fact):f.path.length<f.wt/\f.kids.length<f.wt /\ ∀(k:Nat) (h:k<f.kids.length),(f.kids[k]).wt<f.wt:=by
 have h1:=Fact.wt_eq f
 have h2:=DF Fact.wt Fact.wt_pos f.kids
 exact⟨by omega,by omega,fun k h=>by have:=DG Fact.wt f.kids k h;omega⟩
theorem FExp.wt_le(f:FExp):f.text.length<f.wt/\f.kids.length<f.wt /\ ∀(k:Nat) (h:k<f.kids.length),(f.kids[k]).wt<f.wt:=by
 have h1:=FExp.wt_eq f
 have h2:=DF FExp.wt FExp.wt_pos f.kids
 exact⟨by omega,by omega,fun k h=>by have:=DG FExp.wt f.kids k h;omega⟩
theorem FFact.wt_le(f:FFact):f.name.length<f.wt/\wtS f.path<f.wt/\f.cls.length<f.wt/\f.kids.length<f.wt /\ ∀(k:Nat) (h:k<f.kids.length),(f.kids[k]).wt<f.wt:=by
 have h1:=FFact.wt_eq f
 have h2:=DF FFact.wt FFact.wt_pos f.kids
 exact⟨by omega,by omega,by omega,by omega,fun k h=>by have:=DG FFact.wt f.kids k h;omega⟩
def BClass.wt(c:BClass):Nat:=1+c.parents.length+c.slots.length+c.inits.length
def BNode.wt(x:BNode):Nat:=1+x.kids.length
def BMeth.wt(m:BMeth):Nat:=1+m.fact.wt
def BProg.wt(p:BProg):Nat:=1+wtL BClass.wt p.classes+p.gens.length+wtL BMeth.wt p.methods+wtL BNode.wt p.nodes
def FInit.wt(i:FInit):Nat:=1+i.slot.length
def FClass.wt(c:FClass):Nat:=1+c.name.length+wtS c.parents+wtS c.slots+wtL FInit.wt c.inits
def FMeth.wt(m:FMeth):Nat:=1+m.name.length+wtS m.params+m.fact.wt+m.body.wt
def FProg.wt(p:FProg):Nat:=1+wtL FClass.wt p.classes+wtL FMeth.wt p.methods+p.main.wt
theorem BProg.wt_le(p:BProg):p.classes.length<p.wt/\p.gens.length<p.wt/\p.methods.length<p.wt/\p.nodes.length<p.wt /\
  (∀(k:Nat) (h:k<p.classes.length),(p.classes[k]).wt<p.wt)/\(∀(k:Nat) (h:k<p.methods.length),(p.methods[k]).wt<p.wt) /\ ∀(k:Nat) (h:k<p.nodes.length),(p.nodes[k]).wt<p.wt:=by
 have h1:=DF BClass.wt (fun x=>by unfold BClass.wt;omega) p.classes
 have h2:=DF BMeth.wt (fun x=>by unfold BMeth.wt;omega) p.methods
 have h3:=DF BNode.wt (fun x=>by unfold BNode.wt;omega) p.nodes
 unfold BProg.wt
 exact⟨by omega,by omega,by omega,by omega,fun k h=>by have:=DG BClass.wt p.classes k h;omega,fun k h=>by have:=DG BMeth.wt p.methods k h;omega,fun k h=>by have:=DG BNode.wt p.nodes k h;omega⟩
theorem FProg.wt_le(p:FProg):p.classes.length<p.wt/\p.methods.length<p.wt/\p.main.wt<p.wt /\
  (∀(k:Nat) (h:k<p.classes.length),(p.classes[k]).wt<p.wt)/\(∀(k:Nat) (h:k<p.methods.length),(p.methods[k]).wt<p.wt):=by
 have h1:=DF FClass.wt (fun x=>by unfold FClass.wt;omega) p.classes
 have h2:=DF FMeth.wt (fun x=>by unfold FMeth.wt;omega) p.methods
 unfold FProg.wt
 exact⟨by omega,by omega,by omega,fun k h=>by have:=DG FClass.wt p.classes k h;omega,fun k h=>by have:=DG FMeth.wt p.methods k h;omega⟩
theorem FClass.wt_le(c:FClass):c.name.length<c.wt/\wtS c.parents<c.wt/\wtS c.slots<c.wt/\c.inits.length<c.wt /\ ∀(k:Nat) (h:k<c.inits.length),(c.inits[k]).slot.length<c.wt:=by
 have h1:=DF FInit.wt (fun x=>by unfold FInit.wt;omega) c.inits
 unfold FClass.wt
 exact⟨by omega,by omega,by omega,by omega,fun k h=>by have:=DG FInit.wt c.inits k h;unfold FInit.wt at this⊢; omega⟩
end Go.DL
namespace Go.Proofs
open Go.Proofs.Tryz
open Go.Shelf
def laysSort_ren:Go.Shelf.Ren:=⟨fun x=>match x with|189=>240|125=>289|257=>288|128=>335|129=>316|294=>326|295=>327|296=>328|297=>329|298=>330|299=>331|216=>332|300=>333|301=>334|328=>360|329=>361|330=>362|331=>363|332=>364|215=>365|343=>383|n=>n,fun x=>match x with|28=>23|3=>3|46=>320|0=>0|51=>373|53=>338|4=>4|183=>400|182=>399|131=>227|5=>5|9=>9|218=>440|222=>425|228=>454|229=>249|n=>n,fun n=>n⟩
theorem laysSort:Lays.n189 prog laysSort_ren:=
 {mixed:=Eq.refl true,f125:=func289.trans (congrArg some (by kernel_rfl)),f128:=func335.trans (congrArg some (by kernel_rfl)),f129:=func316.trans (congrArg some (by kernel_rfl)),f189:=func240.trans (congrArg some (by kernel_rfl)),f215:=func365.trans (congrArg some (by kernel_rfl)),f216:=func332.trans (congrArg some (by kernel_rfl)),f257:=func288.trans (congrArg some (by kernel_rfl)),f294:=func326.trans (congrArg some (by kernel_rfl)),f295:=func327.trans (congrArg some (by kernel_rfl)),f296:=func328.trans (congrArg some (by kernel_rfl)),f297:=func329.trans (congrArg some (by kernel_rfl)),f298:=func330.trans (congrArg some (by kernel_rfl)),f299:=func331.trans (congrArg some (by kernel_rfl)),f300:=func333.trans (congrArg some (by kernel_rfl)),f301:=func334.trans (congrArg some (by kernel_rfl)),f328:=func360.trans (congrArg some (by kernel_rfl)),f329:=func361.trans (congrArg some (by kernel_rfl)),f330:=func362.trans (congrArg some (by kernel_rfl)),f331:=func363.trans (congrArg some (by kernel_rfl)),f332:=func364.trans (congrArg some (by kernel_rfl)),f343:=func383.trans (congrArg some (by kernel_rfl)),t0:=underlying0,a0:=isAgg0,z0:=sizeOf0,v0:=zeroValue0,t3:=underlying3,a3:=isAgg3,z3:=sizeOf3,v3:=zeroValue3,t4:=underlying4,a4:=isAgg4,z4:=sizeOf4,v4:=zeroValue4,t5:=underlying5,a5:=isAgg5,z5:=sizeOf5,v5:=zeroValue5,t9:=underlying9,a9:=isAgg9,z9:=sizeOf9,v9:=zeroValue9,t28:=underlying23,a28:=isAgg23,z28:=sizeOf23,v28:=zeroValue23,t46:=underlying320,a46:=isAgg320,z46:=sizeOf320,v46:=zeroValue320,t51:=underlying373,a51:=isAgg373,z51:=sizeOf373,v51:=zeroValue373,t53:=underlying338,a53:=isAgg338,z53:=sizeOf338,v53:=zeroValue338,t131:=underlying227,a131:=isAgg227,z131:=sizeOf227,v131:=zeroValue227,t182:=underlying399,a182:=isAgg399,z182:=sizeOf399,v182:=zeroValue399,t183:=underlying400,a183:=isAgg400,z183:=sizeOf400,v183:=zeroValue400,t218:=underlying440,a218:=isAgg440,z218:=sizeOf440,v218:=zeroValue440,t222:=underlying425,a222:=isAgg425,z222:=sizeOf425,v222:=zeroValue425,t228:=underlying454,a228:=isAgg454,z228:=sizeOf454,v228:=zeroValue454,t229:=underlying249,a229:=isAgg249,z229:=sizeOf249,v229:=zeroValue249 }
end Go.Proofs
namespace Go.DL
open Go.Proofs.Tryz
open Go Go.Proofs Go.Sort
def ED(l:List Int):List Int:=l.mergeSort fun x y=>decide (x<=y)
theorem G1(l:List Int):(ED l).length=l.length:=by unfold ED;exact List.length_mergeSort _
theorem LX(l:List Int)(j:Nat)(h:j<l.length):l.toArray[j]! = l[j]:=by simp[getElem!_pos,h]
theorem Su(l:List Int)(st:MR)(O:Sig)(hm:mOK O 1 st (cI l))(hl:l.length<=1073741824):
  DCall prog 240 [mD st l.length] (mS O st (cI l)) fun x U'=>x=.ret (.tup [])/\U'=mS O st (cI (ED l)):=by
 have hL:∀f∈[laysSort_ren.f 189,laysSort_ren.f 257,laysSort_ren.f 125,laysSort_ren.f 294,laysSort_ren.f 295,laysSort_ren.f 296,laysSort_ren.f 297,laysSort_ren.f 298,laysSort_ren.f 299,laysSort_ren.f 216,laysSort_ren.f 300,laysSort_ren.f 301,laysSort_ren.f 129,laysSort_ren.f 328,laysSort_ren.f 329,laysSort_ren.f 330,laysSort_ren.f 331,laysSort_ren.f 332,laysSort_ren.f 215,laysSort_ren.f 343],f<prog.funcs.size:=by
  rw[Ab];decide
 refine⟨by rw[Ab];decide,AI func240 (by rfl) (by rfl),fun g w vs hs ha=>?_⟩
 obtain⟨v,r,rfl,hv,rfl⟩:=ha
 cases st with
 |none=>
  have aG:l=[]:=by have:cI l=[]:=hm;simpa[cI] using this
  subst aG
  have aD:v=.slice none 0 0:=hv
  subst aD
  refine(Kf (fun D=>AnyS.slices_Sort_int_none_alone laysSort D none 0 w) hL {}).mono ?_
  rintro e w' ⟨rfl,rfl⟩
  refine⟨g,.ret (.tup []),_,.refl g,hs,⟨_,rfl,[],rfl,rfl⟩,rfl,?_⟩
  simp[mS]
 | some x =>
  obtain⟨i,cap,rest⟩:=x
  obtain⟨h1,h2,h3,h4⟩:=hm
  obtain⟨b,hb,hv⟩:=hv
  subst hv
  obtain⟨b',vs,ty,aA,aa,hr⟩:=hs.obj i _ (w6 ..)
  obtain rfl:b'=b:=by rw[hb]at aA;cases aA;rfl
  have ak:∀m:List Int,(cI m).flatten=m.map (D.int .i64):=fun m=>by induction m with
   |nil=>rfl
   |cons x m ih=>simp only[cI,List.map_cons,List.flatten_cons]at ih⊢; rw[ih];rfl
  have hlen:=RepL.length hr
  simp only[Array.length_toList,List.length_append,ak,List.length_map]at hlen
  have ax:∀j (hj:j<l.length),vs[j]? = some (.int .i64 l[j]):=by
   intro j hj
   have:=RepL.get hr j
   rw[List.getElem?_append_left (by simp[ak,hj]),ak]at this
   simp only[List.getElem?_map,List.getElem?_eq_getElem hj,Option.map_some,Option.getD_some,Array.getElem?_toList]at this
   have ap:j<vs.size:=by omega
   rw[Array.getElem?_eq_getElem ap]at this⊢
   have this':vs[j]=.int .i64 l[j]:=this
   rw[this']
  have hH:Holds (Value.int .i64) w b' 0 l.toArray:=by
   intro j hj
   have ay:j<l.length:=by simpa using hj
   refine⟨?_,by simp[Go.World.frozen?, aa]⟩
   simp only[Go.World.cell?, aa,Nat.zero_add]
   rw[LX l j ay];exact ax j ay
  have aI:b'<w.heap.size:=(Array.getElem?_eq_some_iff.1 aa).1
  refine(Kf (fun D=>AnyS.slices_Sort_int_alone laysSort D b' 0 cap l w hH aI (by omega)) hL {}).mono ?_
  rintro e w' ⟨rfl,q,os,rfl⟩
  refine⟨g,.ret (.tup []),_,.refl g,?_,⟨_,rfl,[],rfl,rfl⟩,rfl,rfl⟩
  have aF:=G1 l
  have am:=hs.setObj (i:=i) (b:=b') (ds':=(cI (ED l)).flatten++rest) (vs':=putCells (Value.int .i64) 0 (ED l).toArray vs) (ty:=ty) (w6 ..) hb ?_ ⟨vs,aa⟩
  ·have e1:(mS O (some (i,cap,rest)) (cI l)).set i (.cells ((cI (ED l)).flatten++rest))=mS O (some (i,cap,rest)) (cI (ED l)):=w8 ..
   rw[e1]at am
   refine am.later (fun k x hx=>?_) rfl
   have hk:k<w.heap.size:=by have:=(Array.getElem?_eq_some_iff.1 hx).1;simpa[setB] using this
   simp only[grow,putRow,mapBlock]
   have ea:(Sort.ahead w q).heap=w.heap:=rfl
   rw[ea]
   rw[Array.getElem?_append_left (by simpa using hk)]
   by_cases au:k=b'
   ·subst au
    rw[Ed aa]at hx
    rw[Array.getElem?_modify,if_pos rfl,aa,<-hx]
    rfl
   ·rw[Ec au]at hx
    rw[Array.getElem?_modify,if_neg (fun e=>au e.symm),hx]
  ·refine AF (by simp[putCells,ak];omega) fun j d u hd hu=>?_
   rw[ak]at hd
   simp only[putCells,Array.getElem?_toList,Array.getElem?_mapIdx,Nat.zero_le,true_and,Nat.zero_add,List.size_toArray,Nat.sub_zero]at hu
   have ap:j<vs.size:=by
    rcases Nat.lt_or_ge j vs.size with h|h
    ·exact h
    ·rw[Array.getElem?_eq_none h]at hu;cases hu
   rw[Array.getElem?_eq_getElem ap]at hu
   simp only[Option.map_some,Option.some.injEq]at hu
   by_cases hj:j<(ED l).length
   ·rw[if_pos hj,LX _ _ hj]at hu
    rw[List.getElem?_append_left (by simpa using hj),List.getElem?_map,List.getElem?_eq_getElem hj]at hd
    simp only[Option.map_some,Option.some.injEq]at hd
    subst hd hu
    exact rfl
   ·rw[if_neg hj]at hu
    rw[List.getElem?_append_right (by simpa using hj)]at hd
    have:=RepL.get hr j
    rw[List.getElem?_append_right (by simp[ak];omega),ak]at this
    simp only[List.length_map]at hd this
    rw[aF]at hd
    rw[hd,Array.getElem?_toList,Array.getElem?_eq_getElem ap,hu]at this
    exact this
end Go.DL
namespace Go.DL
open Go.Proofs.Tryz
open Go Go.Proofs
structure Hold(F:Prop):Prop where
 get:F
theorem CV{a b:Int}(h:a<=b):decide (a<=b)=true:=by simp[h]
theorem BV{a b:Int}(h:b<a):decide (a<=b)=false:=by simp;omega
theorem CU{a b:Int}(h:a<b):decide (a<b)=true:=by simp[h]
theorem BU{a b:Int}(h:b<=a):decide (a<b)=false:=by simp;omega
theorem EW{p:Prop}[Decidable p]{α:Type}{a b:α}(h:p):(if p then a else b)=a:=if_pos h
theorem CW{a b:Int}(h:a=b):decide (a=b)=true:=by simp[h]
theorem CT{a b:Int}(h:¬a=b):decide (a=b)=false:=by simp[h]
theorem BP{a b:Nat}(h:a<=b):decide (a<=b)=true:=by simp[h]
theorem Bs{a b:Nat}(h:b<a):decide (a<=b)=false:=by simp;omega
theorem BO{a b:Nat}(h:a<b):decide (a<b)=true:=by simp[h]
theorem Br{a b:Nat}(h:b<=a):decide (a<b)=false:=by simp;omega
theorem BQ{a b:Nat}(h:a=b):decide (a=b)=true:=by simp[h]
theorem BN{a b:Nat}(h:¬a=b):decide (a=b)=false:=by simp[h]
theorem Am(a b:Bool):(DE.ret (.bool a)=DE.ret (.bool b))=(a=b):=by simp
structure VarsAre(vars:List Nat):Prop
theorem I1{P:Program}{ro:Ro}{n:Nat}{ops:Array Oper}{Q:DX->St->Prop}{df:List DDf}{rest:List Oper}{γ Sr:Fr}{O:Sig}{t:Nat}{ty:TypeId}{pos:String}{after:Array Edge}{d:D}{vars:List Nat}(_:VarsAre vars){tab:Nat->Ty}(ht:B2 P tab){T T' ty':Nat}{x:Operand}{pos':String}{after':Array Edge}{cs:List D}(hv:vars.contains t=false)(hT:T'=T)(ae:decide (t<n)=true)(hx:Ev t x=true)(ho:A1 (tab T).k=false)
  (hl:A0 γ (A5 [x])=some Sr) (he:ev Sr x=d) (ag:d.told=true) (hc:d.cells=cs) (hlen:cs.length=(tab T).size) (ah:BC cs=true)
  (h:DOps P ro n ops Q rest ⟨(t,.cptr cs 0)::γ,O,df⟩) :
  DOps P ro n ops Q (⟨some t,.alloc T,ty,pos,after,none⟩::⟨none,.store T' (.tmp t) x,ty',pos',after',none⟩::rest) ⟨γ,O,df⟩:=
 TZ ht vars hv hT ae hx ho hl he ag hc hlen ah h
theorem GQ{P:Program}{ro:Ro}{n:Nat}{ops:Array Oper}{Q:DX->St->Prop}{df:List DDf}{rest:List Oper}{γ Sr Sr2:Fr}{O:Sig}{t t2:Nat}{d d2:D}{vars:List Nat}(_:VarsAre vars){tab:Nat->Ty}(ht:B2 P tab){T T' ty ty' ty2:Nat}{x y:Operand}{pos pos' pos2:String}{after after' after2:Array Edge}{cs:List D}(hv:vars.contains t=false)(hT:T'=T)(ae:decide (t<n)=true)(aq:decide (t2<n)=true)(hx:Ev t x=true)(hy:Ev t y=true)(aB:Ev t2 x=true)(aJ:decide (t2=t)=false)(ho:A1 (tab T).k=false)
  (ar:A0 γ (A5 [y])=some Sr2) (aH:ev Sr2 y=d2) (hl:A0 γ (A5 [x])=some Sr) (he:ev Sr x=d) (ag:d.told=true) (hc:d.cells=cs) (hlen:cs.length=(tab T).size) (ah:BC cs=true)
  (h:DOps P ro n ops Q rest ⟨(t,.cptr cs 0)::(t2,d2)::γ,O,df⟩) :
  DOps P ro n ops Q (⟨some t,.alloc T,ty,pos,after,none⟩::⟨some t2,.assign y,ty2,pos2,after2,none⟩::⟨none,.store T' (.tmp t) x,ty',pos',after',none⟩::rest) ⟨γ,O,df⟩:=
 Qd ht vars hv hT ae aq hx hy aB aJ ho ar aH hl he ag hc hlen ah h
theorem td0{p:Prop}(h:p:=by simp(disch:=first|omega|assumption) [As,big1,big2,w7]<;>(try simp only[Bj,Bk,AV,Bi,AN,AY,AX,AW,AU,AM,AT,AS,AR])<;>with_unfolding_all rfl):p:=h
theorem tdW{p:Prop}(h:p:=by first|exact A8 _|exact Bv _ _|exact An _ (.inl rfl)|exact E5 _|(refine HM _ ?_;first|omega|(simp;done)|(simp;omega))|(refine Cq ?_;(simp;done))|(refine Cq ?_;(simp[cI,cS,cII,Fp,Fb,GK];done))|(refine DM _ ?_;(simp[cI,cS,cII];done))|(refine Cq ?_;(simp_all;done))|assumption):p:=h
theorem tdT{p:Prop}(h:p:=by(first|refine FW ?_ ?_|skip)<;>(repeat' first|exact FV|refine Fd tdR ?_ ?_|(first|exact A8 _|exact Bv _ _|exact An _ (.inl rfl)|exact E5 _|(refine HM _ ?_;first|omega|(simp;done)|(simp;omega))|(refine Cq ?_;(simp;done))|(refine Cq ?_;(simp[cI,cS,cII,Fp,Fb,GK];done))|(refine DM _ ?_;(simp[cI,cS,cII];done))|(refine Cq ?_;(simp_all;done))|assumption))):p:=h
theorem tdU{p:Prop}(h:p:=by first|exact Sub.refl _|(refine Df ?_;simp;done)|assumption|exact(Sub.refl _).set (by assumption)):p:=h
section
variable {P:Program}{ro:Ro}{n:Nat}{ops:Array Oper}{N:Nat}{S0:Sig}{Q:DX->St->Prop}{df:List DDf}{rest:List Oper}{γ Sr:List (Nat×D)}{O:Sig}{t:Nat}{ty:TypeId}{pos:String}{after:Array Edge}{l:List (Bool×Oper)}{d:D}
theorem Ca{fop:Operand}{args:Array Operand}{ats:Array TypeId}{f:Nat}{first cap us bs:List D}(h:DCall P f bs O (rS d O))(k1:DOps P ro n ops Q rest ⟨(t,d)::γ,O,df⟩)(hl:A0 γ (A5 (fop::args.toList))=some Sr:=by exact tdR)(hf:ev Sr fop=.func (.func f) first cap:=by exact tdR)(ha:first++args.toList.map (ev Sr)++cap=us:=by exact td0)(hp:bs=us:=by exact tdR)(ae:decide (t<n)=true:=by exact tdR):DOps P ro n ops Q (⟨some t,(cv fop args ats),ty,pos,after,none⟩::rest) ⟨γ,O,df⟩:=JC hl hf ha (.inl hp) h ae k1
theorem CX{fop:Operand}{args:Array Operand}{ats:Array TypeId}{f:Nat}{first cap us bs:List D}{j:Nat}{want:Bool}{k:Nat}(h:DCall P f bs O (rS d O))(k1:DOps P ro n ops Q rest ⟨(t,d)::γ,O,df⟩)(hk:(ops[j]?).bind (·.dst)=some k:=by exact tdR)(hb:γ.lookup k=some (.bool want):=by exact tdR)(hl:A0 γ (A5 (fop::args.toList))=some Sr:=by exact tdR)(hf:ev Sr fop=.func (.func f) first cap:=by exact tdR)(ha:first++args.toList.map (ev Sr)++cap=us:=by exact td0)(hp:bs=us:=by exact tdR)(ae:decide (t<n)=true:=by exact tdR):DOps P ro n ops Q (⟨some t,(cv fop args ats),ty,pos,after,some (j,want)⟩::rest) ⟨γ,O,df⟩:=I2 hk hb hl hf ha (.inl hp) h ae k1
theorem A3{fop:Operand}{args:Array Operand}{ats:Array TypeId}{f:Nat}{first cap us bs:List D}{R:DE->Sig->Prop}{dst:Option Tmp}(h:DCall P f bs O R)(ai:∀d U',R (.ret d) U'->DOps P ro n ops Q rest ⟨putD dst d γ,U',df⟩)(aj:∀d U',R (.panic d) U'->Q (.panic d) ⟨γ,U',df⟩)(hl:A0 γ (A5 (fop::args.toList))=some Sr:=by exact tdR)(hf:ev Sr fop=.func (.func f) first cap:=by exact tdR)(ha:first++args.toList.map (ev Sr)++cap=us:=by exact td0)(hp:bs=us:=by exact tdR)
  (ho:Ap n ⟨dst,(cv fop args ats),ty,pos,after,none⟩=true:=by exact tdR):DOps P ro n ops Q (⟨dst,(cv fop args ats),ty,pos,after,none⟩::rest) ⟨γ,O,df⟩:=G0 hl hf ha (.inl hp) h ho ai aj
theorem TA{fop:Operand}{args:Array Operand}{ats:Array TypeId}{f:Nat}{first cap us bs:List D}{R:DE->Sig->Prop}{dst:Option Tmp}(h:DCall P f bs O R)(ai:∀d U',R (.ret d) U'->DOps P ro n ops Q rest ⟨putD dst d γ,U',df⟩)(aj:∀d U',R (.panic d) U'->Q (.panic d) ⟨γ,U',df⟩)(hl:A0 γ (A5 (fop::args.toList))=some Sr:=by exact tdR)(hf:ev Sr fop=.func (.func f) first cap:=by exact tdR)(ha:first++args.toList.map (ev Sr)++cap=us:=by exact td0)(hp:bs=us.map D.plain:=by exact tdR)
  (ho:Ap n ⟨dst,(cv fop args ats),ty,pos,after,none⟩=true:=by exact tdR):DOps P ro n ops Q (⟨dst,(cv fop args ats),ty,pos,after,none⟩::rest) ⟨γ,O,df⟩:=G0 hl hf ha (.inr hp) h ho ai aj
theorem cndB{c:Nat}{x y:Code}{b:Bool}(ht:b=true->DWp P ro n x Q ⟨(c,.bool true)::γ,O,df⟩)(hf:b=false->DWp P ro n y Q ⟨(c,.bool false)::γ,O,df⟩)(hl:γ.lookup c=some (.bool b):=by exact tdR):DWp P ro n (.cond (.tmp c) x y) Q ⟨γ,O,df⟩:=by
 refine OC (s:=⟨γ,O,df⟩) (t:=b) (Ar hl) (fun h=>?_) (fun h=>?_)
 ·exact Fz (BF (by rw[Ar hl,h];exact A8 _)) (ht h)
 ·exact Fz (BF (by rw[Ar hl,h];exact A8 _)) (hf h)
theorem mix{lo:List Oper}{id:Nat}(ord E:List Nat){lp:List (Bool×Oper)}(h:MO prog ro n lo.toArray 431 O Q df lp γ O)(hB:Ew lo.toArray E ord=true:=by kernel_rfl)(hl:If lo E ord=some lp:=by exact tdR):DWp prog ro n (.region id lo.toArray true) Q ⟨γ,O,df⟩:=
 Oz Ab mixed ord E O hB (Sub.refl _) hl h
theorem Hy{lo:List Oper}{id:Nat}(ord E:List Nat)(S0:Sig)(hC:Sub S0 O){lp:List (Bool×Oper)}(h:MO prog ro n lo.toArray 431 S0 Q df lp γ O)(hB:Ew lo.toArray E ord=true:=by kernel_rfl)(hl:If lo E ord=some lp:=by exact tdR):DWp prog ro n (.region id lo.toArray true) Q ⟨γ,O,df⟩:=
 Oz Ab mixed ord E S0 hB hC hl h
theorem wkR{V':Fr}{U':Sig}(h:TellsR γ V':=by exact tdT)(hU:Sub U' O:=by exact tdU):Wk P n ⟨γ,O,df⟩ ⟨V',U',df⟩:=Ko h hU
theorem CG{Sk:Fr}{α:Type}{c:Code}(keep:List Nat)(I:α->Prop)(ov:α->Fr)(sg:α->Sig)(μ:α->Nat)(x0:α)(h0:I x0)
  (round:∀x,I x->DWp P ro n c (Then (fun s'=> ∃x',I x'/\μ x'<μ x/\Wk P n s' ⟨ov x'++Sk,sg x',df⟩) Q) ⟨ov x++Sk,sg x,df⟩) (hk:Dj γ keep=some Sk:=by exact tdR) (h1:TellsR γ (ov x0++Sk):=by exact tdT) (h2:Sub (sg x0) O:=by exact tdU):DWp P ro n (.loop c) Q ⟨γ,O,df⟩:=F6 keep I ov sg μ x0 hk h0 h1 h2 round
theorem Di{Sk:Fr}{α β:Type}{c:Code}(keep:List Nat)(I:α->β->Prop)(ov:α->β->Fr)(sg:α->β->Sig)(μ:α->β->Nat)(x0:α)(y0:β)(h0:I x0 y0)
  (round:∀x y,I x y->DWp P ro n c (Then (fun s'=> ∃x' y',I x' y'/\μ x' y'<μ x y/\Wk P n s' ⟨ov x' y'++Sk,sg x' y',df⟩) Q) ⟨ov x y++Sk,sg x y,df⟩) (hk:Dj γ keep=some Sk:=by exact tdR) (h1:TellsR γ (ov x0 y0++Sk):=by exact tdT) (h2:Sub (sg x0 y0) O:=by exact tdU):DWp P ro n (.loop c) Q ⟨γ,O,df⟩:=PH keep I ov sg μ x0 y0 hk h0 h1 h2 round
theorem ET{Sk:Fr}{α β δ:Type}{c:Code}(keep:List Nat)(I:α->β->δ->Prop)(ov:α->β->δ->Fr)(sg:α->β->δ->Sig)(μ:α->β->δ->Nat)(x0:α)(y0:β)(z0:δ)(h0:I x0 y0 z0)
  (round:∀x y z,I x y z->DWp P ro n c (Then (fun s'=> ∃x' y' z',I x' y' z'/\μ x' y' z'<μ x y z/\Wk P n s' ⟨ov x' y' z'++Sk,sg x' y' z',df⟩) Q) ⟨ov x y z++Sk,sg x y z,df⟩) (hk:Dj γ keep=some Sk:=by exact tdR) (h1:TellsR γ (ov x0 y0 z0++Sk):=by exact tdT) (h2:Sub (sg x0 y0 z0) O:=by exact tdU):DWp P ro n (.loop c) Q ⟨γ,O,df⟩:=PG keep I ov sg μ x0 y0 z0 hk h0 h1 h2 round
theorem fin{fn:Func}{R:DE->Sig->Prop}{U':Sig}{d:D}(hR:R (.ret d) U')(hU:Sub U' O:=by exact tdU)(h:resD fn γ=some d:=by exact tdR):Dr P n fn R .ret ⟨γ,O,[]⟩:=Oy hU h hR
theorem finS{fn:Func}{R:DE->Sig->Prop}{U':Sig}{es:List (List D)}{o:Own}{t:Nat}(hR:R (.ret (.slice es .no)) U')(hU:Sub U' O:=by exact tdU)(hr:fn.results=#[.tmp t]:=by exact tdR)(h:getD γ t=.slice es o:=by exact Ar tdR):Dr P n fn R .ret ⟨γ,O,[]⟩:=Tk hU hr h hR
theorem fin1{fn:Func}{R:DE->Sig->Prop}{U':Sig}{t:Nat}{d d':D}(hR:R (.ret d') U')(hU:Sub U' O:=by exact tdU)(hr:fn.results=#[.tmp t]:=by exact tdR)(hl:γ.lookup t=some d:=by exact tdR)(hw:WkD d d':=by exact tdW):Dr P n fn R .ret ⟨γ,O,[]⟩:=
 ⟨⟨[(t,d')],U',[]⟩,TP (show Tells γ [(t,d')] from⟨by rw[Ar hl];exact hw,trivial⟩) hU,rfl,d',D5 (by simp[resD,hr]),E7 hR⟩
theorem fin2{fn:Func}{R:DE->Sig->Prop}{U':Sig}{t u:Nat}{d d' e e':D}(hR:R (.ret (.tup [d',e'])) U')(hU:Sub U' O:=by exact tdU)(hr:fn.results=#[.tmp t,.tmp u]:=by exact tdR)(hl:γ.lookup t=some d:=by exact tdR)(ar:γ.lookup u=some e:=by exact tdR)(aE:decide (u=t)=false:=by exact tdR)(hw:WkD d d':=by exact tdW)(aC:WkD e e':=by exact tdW):Dr P n fn R .ret ⟨γ,O,[]⟩:=
 ⟨⟨[(t,d'),(u,e')],U',[]⟩,TP (show Tells γ [(t,d'),(u,e')] from ⟨by rw [Ar hl];exact hw,by rw [Ar ar];exact aC,trivial⟩) hU,rfl, .tup [d',e'],D5 (by
  have:u≠t:=by simpa using aE
  simp[resD,hr,this]),E7 hR⟩
theorem fin0{fn:Func}{R:DE->Sig->Prop}{U':Sig}(hR:R (.ret (.tup [])) U')(hU:Sub U' O:=by exact tdU)(hr:fn.results=#[]:=by exact tdR):Dr P n fn R .ret ⟨γ,O,[]⟩:=Oy hU (by simp[resD,hr]) hR
theorem DK{fn:Func}{R:DE->Sig->Prop}{U':Sig}(hR:R (.ret (.tup [])) U')(hU:Sub U' O:=by exact tdU)(hr:fn.results=#[]:=by exact tdR):Dr P n fn R .normal ⟨γ,O,[]⟩:=Nt hU (by simp[resD,hr]) hR
theorem finP{fn:Func}{R:DE->Sig->Prop}{U':Sig}{d:D}(hR:R (.panic d) U')(hU:Sub U' O:=by exact tdU):Dr P n fn R (.panic d) ⟨γ,O,[]⟩:=Tl hU hR
theorem HY{c:Code}(t sz:Nat)(h:∀i,O i=none->DWp P ro n c Q ⟨(t,.slice [] (.tag i))::γ,O.set i (.tail sz 0),df⟩)(ht:getD γ t=.nils:=by exact Ar tdR):DWp P ro n c Q ⟨γ,O,df⟩:=dwp_tag t sz ht h
end
section
variable {ro:Ro}{n:Nat}{ops:Array Oper}{N:Nat}{S0:Sig}{Q:DX->St->Prop}{df:List DDf}{rest:List Oper}{γ Sr:List (Nat×D)}{O:Sig}{t:Nat}{ty:TypeId}{pos:String}{after:Array Edge}{d:D}{s x:Operand}{T T' e e':Nat}
theorem evs{s x:Operand}(hl:A0 γ (A5 [s,x])=some Sr):ev Sr s=ev γ s/\ev Sr x=ev γ x:=
 have h:∀z∈[s,x],ev Sr z=ev γ z:=fun z hz=>B9 fun t ht=>At hl t (Az (by rw[<-ht];exact hz))
 ⟨h s (by simp),h x (by simp)⟩
theorem appC{es new:List (List D)}(h:∀i,O i=none->DOps prog ro n ops Q rest ⟨(t,.slice (es++new) (.tag i))::γ,O.set i (.tail (tab e).size (es.length+new.length)),df⟩)
  (hl:A0 γ (A5 [s,x])=some Sr:=by exact tdR) (hk:(tab T).k=.slice e:=by(simp<;>rfl)) (aw:(tab T').k=.slice e':=by(simp<;>rfl)) (he:A1 (tab e).k=false:=by simp)
  (h1:ev Sr s=.slice es .clip:=by exact tdR) (h2:esOf (ev Sr x)=some new:=by(simp<;>with_unfolding_all rfl)) (hne:new≠[]:=by simp)
  (hlen:∀c∈es,c.length=(tab e).size:=by first|exact Cb _|exact E1 _|exact CK _|simp) (hlen':∀c∈new,c.length=(tab e).size:=by first|exact Cb _|exact E1 _|exact CK _|simp)
  (hb:(es.length+new.length)*(tab e).bytes<=140737488355328:=by first|(simp;done)|(simp;omega)) (hm:es.length+new.length<=9223372036854775807:=by first|(simp;done)|(simp;omega)) (ae:decide (t<n)=true:=by exact tdR) :
  DOps prog ro n ops Q (⟨some t,(cA s x T T'),ty,pos,after,none⟩::rest) ⟨γ,O,df⟩:=by
 obtain⟨e1,e2⟩:=evs hl
 exact Cc Ac rfl (by simpa using ae) hk aw he (by rw[<-e1];exact h1) (by rw[<-e2];exact h2) hne hlen hlen' hb hm h
theorem app0{es:List (List D)}(h:DOps prog ro n ops Q rest ⟨(t,d)::γ,O,df⟩)
  (hl:A0 γ (A5 [s,x])=some Sr:=by exact tdR) (hd:ev Sr s=d:=by exact tdR) (hk:(tab T).k=.slice e:=by(simp<;>rfl)) (aw:(tab T').k=.slice e':=by(simp<;>rfl)) (he:A1 (tab e).k=false:=by simp)
  (h1:esOf d=some es:=by exact tdR) (h2:esOf (ev Sr x)=some []:=by first|with_unfolding_all rfl|(simp_all;done)) (ae:decide (t<n)=true:=by exact tdR) :
  DOps prog ro n ops Q (⟨some t,(cA s x T T'),ty,pos,after,none⟩::rest) ⟨γ,O,df⟩:=by
 obtain⟨e1,e2⟩:=evs hl
 have:=Ex (ops:=ops) (Q:=Q) (rest:=rest) (df:=df) (O:=O) (γ:=γ) (ty:=ty) (pos:=pos) (after:=after) (guard:=none) (es:=es) (ro:=ro) (n:=n) Ac (T:=T) (T':=T') (s:=s) (x:=x) rfl (by simpa using ae) hk aw he (by rw[<-e1,hd];exact h1) (by rw[<-e2];exact h2) (by rw[<-e1,hd];exact h)
 exact this
theorem newM{T:Nat}(h:∀i,O i=none->DOps prog ro n ops Q rest ⟨(t,.map i)::γ,O.set i (.map []),df⟩)(ae:decide (t<n)=true:=by exact tdR):
  DOps prog ro n ops Q (⟨some t,.makeMap T none,ty,pos,after,none⟩::rest) ⟨γ,O,df⟩:=
 Mz Ac rfl (.inl rfl) (by simpa using ae) h
theorem newV{T:Nat}{z:List D}(h:∀i,O i=none->DOps prog ro n ops Q rest ⟨(t,.ptr i 0)::γ,O.set i (.cells z),df⟩)(hk:A1 (tab T).k=false:=by simp)(hz:(tab T).zero=z:=by(simp<;>rfl))(ae:decide (t<n)=true:=by exact tdR):
  DOps prog ro n ops Q (⟨some t,.alloc T,ty,pos,after,none⟩::rest) ⟨γ,O,df⟩:=by
 subst hz;exact E0 Ac hk (by simpa using ae) h
theorem pan{T:Nat}{dst:Option Tmp}(h:Q (.panic (.iface T d)) ⟨γ,O,df⟩)(hl:A0 γ (A5 [x])=some Sr:=by exact tdR)(hx:ev Sr x=.iface T d:=by exact tdR):
  DOps prog ro n ops Q (⟨dst,.panic x,ty,pos,after,none⟩::rest) ⟨γ,O,df⟩:=PJ rfl (by rw[<-BY hl];exact hx) h
theorem isN{es:List (List D)}{o:Own}(h:∀b,(b=true->es=[])->DOps prog ro n ops Q rest ⟨(t,.bool b)::γ,O,df⟩)(hl:A0 γ (A5 [x])=some Sr:=by exact tdR)(hx:ev Sr x=.slice es o:=by exact tdR)(hk:(tab T).k=.slice e:=by(simp<;>rfl))(ae:decide (t<n)=true:=by exact tdR):
  DOps prog ro n ops Q (⟨some t,.binOp .eql T x (.const (.slice none 0 0)) T',ty,pos,after,none⟩::rest) ⟨γ,O,df⟩:=
 PL Ac hk rfl (by rw[<-BY hl];exact hx) (by simpa using ae) h
end
end Go.DL
