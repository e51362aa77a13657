/- A part of the proof. -/
import Derived.Test.YteldimffglchkaaGreatDoorQ11
import Derived.Test.YteldimffglchkaaGreatDoorQ09
set_option linter.all false
namespace Go.DL
open Go.Proofs.Tryz
open Go Go.Proofs
def o4:OT:=[(6,false,[(0,6)],[]),(10,false,[(0,13)],[]),(12,false,[(0,12)],[]),(21,false,[(0,3),(4,4),(3,1),(8,7)],[3,8,12,13]),(22,false,[(0,15)],[8,9,12])]
def o5:OT:=[(16,false,[(0,52)],[49]),(18,true,[(0,6)],[5])]
def o6:OT:=[(11,false,[(0,42)],[])]
def o8:OT:=[(3,false,[(0,2),(3,2),(2,1),(5,16)],[2,5,10,18])]
def o13:OT:=[(4,true,[(0,9)],[7,8]),(7,false,[(0,5),(6,2),(5,1),(8,5)],[5,8]),(10,true,[(0,11)],[9,10]),(12,true,[(0,7)],[6])]
def o16:OT:=[(12,false,[(0,12)],[2,5,9,10]),(13,false,[(0,34)],[14])]
def o18:OT:=[(8,true,[(0,17)],[10,12,16])]
def o22:OT:=[(5,false,[(0,16)],[11,14])]
def o36:OT:=[(21,false,[(0,8)],[2,4])]
def o40:OT:=[(13,true,[(1,3),(0,1),(4,3)],[0,6])]
def o48:OT:=[(5,false,[(0,10)],[5,8])]
def o50:OT:=[(6,false,[(0,12)],[10]),(8,false,[(0,3),(4,3),(3,1),(7,4)],[3,7]),(14,false,[(0,25)],[21]),(15,false,[(0,3),(4,3),(3,1),(7,4)],[3,7])]
def o51:OT:=[(1,false,[(0,47)],[38,44])]
def o52:OT:=[(1,false,[(0,6),(7,2),(6,1),(9,5)],[6,9]),(3,true,[(0,11)],[9,10])]
def o53:OT:=[(6,false,[(0,9)],[])]
def o54:OT:=[(6,false,[(0,25)],[22])]
def o55:OT:=[(6,false,[(0,38)],[35])]
def o57:OT:=[(6,false,[(0,24)],[3,12,21])]
def o67:OT:=[(18,false,[(0,31),(32,6),(31,1),(38,2)],[25,31]),(20,false,[(0,11),(12,1),(11,1),(13,2)],[11,13])]
def o98:OT:=[(10,false,[(0,22)],[20]),(20,true,[(0,7)],[6]),(22,true,[(0,10)],[9])]
def o99:OT:=[(10,false,[(0,10)],[]),(16,false,[(0,11)],[])]
def o107:OT:=[(1,false,[(0,12)],[10])]
def o108:OT:=[(3,false,[(0,13)],[6,10,11]),(4,true,[(0,13)],[8,12])]
def o109:OT:=[(1,false,[(0,2),(3,2),(2,1),(5,2)],[2,5])]
def o110:OT:=[(4,false,[(0,22)],[14,21])]
def o111:OT:=[(2,true,[(0,15)],[10,14])]
def o112:OT:=[(2,false,[(0,2),(3,2),(2,1),(5,2)],[2,5])]
def o113:OT:=[(3,false,[(0,1),(2,1),(1,1),(3,3)],[1,3])]
def o114:OT:=[(2,true,[(0,13)],[8,12])]
def o115:OT:=[(1,true,[(0,18)],[17])]
def o119:OT:=[(1,false,[(0,17)],[]),(2,true,[(0,25)],[12,16,20,24])]
def o124:OT:=[(1,false,[(0,31)],[]),(3,true,[(0,15)],[12,14])]
def kV:OT:=[(1,true,[(0,16)],[12,13,14,15])]
def jl:OT:=[(8,true,[(0,11)],[10]),(12,true,[(0,19)],[12,14,18]),(15,true,[(0,18)],[17]),(21,false,[(0,17)],[]),(22,true,[(0,20)],[11,15,19]),(30,true,[(0,14)],[13])]
def o131:OT:=[(10,true,[(0,7)],[6]),(12,true,[(0,7)],[6]),(15,true,[(0,7)],[6]),(17,true,[(0,7)],[6]),(19,true,[(0,7)],[6]),(21,true,[(0,7)],[6]),(24,true,[(0,7)],[6]),(8,true,[(0,1),(2,2),(5,2),(1,1),(4,1),(7,1)],[1,7])]
def o138:OT:=[(11,false,[(0,10)],[])]
def o141:OT:=[(6,false,[(0,9)],[7]),(8,true,[(0,10)],[9])]
def o143:OT:=[(1,false,[(0,1),(2,1),(1,1),(3,3)],[1,3])]
def o144:OT:=[(31,false,[(0,35)],[23,32]),(36,false,[(0,11)],[])]
def kX:OT:=[(5,false,[(0,23)],[5,11]),(13,false,[(0,13)],[11])]
def o155:OT:=[(3,true,[(0,16)],[13,15])]
def o171:OT:=[(21,false,[(0,11)],[])]
def o177:OT:=[(1,true,[(0,13)],[8,12])]
def o180:OT:=[(3,false,[(0,9)],[]),(4,false,[(0,14)],[8])]
def o182:OT:=[(5,true,[(0,3),(4,5),(3,1),(9,3)],[3,9,11])]
def o187:OT:=[(1,true,[(0,13)],[8,12])]
def o191:OT:=[(3,false,[(0,16)],[14])]
def kJ:OT:=[(7,true,[(0,15)],[14]),(11,true,[(0,25)],[22,24]),(14,true,[(0,15)],[10,14]),(17,true,[(0,13)],[8,12])]
def o193:OT:=[(1,false,[(0,13)],[10])]
def o195:OT:=[(14,true,[(0,8),(9,6),(8,1),(15,3)],[3,8,17]),(15,true,[(0,18)],[17])]
def o198:OT:=[(9,false,[(0,10)],[7])]
def o199:OT:=[(13,true,[(0,9)],[6,8])]
def o216:OT:=[(11,false,[(0,7)],[5]),(12,false,[(0,11)],[]),(16,false,[(0,10)],[])]
def o219:OT:=[(11,false,[(0,36)],[34])]
def o242:OT:=[(6,false,[(0,12)],[7,11]),(18,true,[(0,7)],[6])]
def o246:OT:=[(5,false,[(0,10)],[8]),(7,true,[(0,10)],[9])]
def o259:OT:=[(0,true,[(0,15)],[14])]
def o295:OT:=[(1,true,[(0,7)],[4,6])]
def kg:OT:=[(18,true,[(0,10)],[8,9]),(20,true,[(0,11)],[7,10])]
def o304:OT:=[(7,true,[(0,3),(4,2),(3,1),(6,2)],[3,7])]
def o342:OT:=[(1,true,[(0,7)],[6])]
def o344:OT:=[(6,true,[(0,8),(9,1),(8,1),(10,2)],[8,10,11])]
def o350:OT:=[(2,false,[(0,27)],[24])]
def o369:OT:=[(11,false,[(0,11)],[9])]
section
variable {P:Program}{ro:Ro}{n:Nat}{ops:Array Oper}{N:Nat}{S0:Sig}{Q:DX->St->Prop}{df:List DDf}{rest:List Oper}{γ Sr:List (Nat×D)}{O:Sig}{t:Nat}{ty:TypeId}{pos:String}{after:Array Edge}{l:List (Bool×Oper)}{d:D}{e:Bool}
theorem Sp{P:Program}{fop:Operand}{args:Array Operand}{ats:Array TypeId}{f:Nat}{first cap us bs:eO}(hl:A5 γ (Aa (fop::args.toList))=some Sr)(hf:ev Sr fop=.func (.func f) first cap)(ha:first++args.toList.map (ev Sr)++cap=us)(hb:bs=us\/bs=us.map D.plain)
  (h:∀U',Sub S0 U'->ar P f bs U' fun x S''=>x=.ret d/\Sub U' S'') (b6:decide (t<n)=true) (k:MO P ro n ops N S0 Q df l ((t,d)::γ) O) :
  MO P ro n ops N S0 Q df ((e,⟨some t,(cv fop args ats),ty,pos,after,none⟩)::l) γ O:=by
 have hx:∀x∈fop::args.toList,ev Sr x=ev γ x:=fun x hx=>Bs fun t ht=>AB hl t (AL (by rw[<-ht];exact hx))
 have c9:∀x∈((cv fop args ats)).operands,ev (only (Oper.looksAt ops ⟨some t,(cv fop args ats),ty,pos,after,none⟩) γ) x=ev γ x:=fun x hx=>Bf (o:=⟨some t,(cv fop args ats),ty,pos,after,none⟩) hx;refine Pc d b6 rfl (by rw[Ar];rfl) (fun U' fH ro' df'=>?_) k;refine Ef (first:=first) (cap:=cap) (f:=f) ?_ ?_ (h U' fH) ?_ b6 ?_ ?_
 ·show AJ ops (only _ γ) _=some true;rw[Ar];rfl
 ·rw[c9 fop (by simp[Op.operands,Call.operands]),<-hx fop j1];exact hf
 ·simp only
  rw[show args.toList.map (ev (only (Oper.looksAt ops ⟨some t,(cv fop args ats),ty,pos,after,none⟩) γ))=args.toList.map (ev Sr) from ca fun x hm=>by
   rw[c9 x (by simp at hm;simp[Op.operands,Call.operands,hm]),<-hx x (by simp[hm])],ha]
  rcases hb with rfl|rfl
  ·exact E1 _
  ·exact DB _
 ·rintro d' S'' ⟨h1,h2⟩
  cases h1;exact AD ⟨rfl,by simp[putD,A8],h2⟩
 ·rintro d' S'' ⟨h1,h2⟩
  cases h1
theorem moQWR{fop:Operand}{args:Array Operand}{ats:Array TypeId}{f:Nat}{first cap us bs:eO}(h:∀U',Sub S0 U'->ar prog f bs U' fun x S''=>x=.ret d/\Sub U' S'')(k1:MO prog ro n ops N S0 Q df l ((t,d)::γ) O)(hl:A5 γ (Aa (fop::args.toList))=some Sr:=by rfl)(hf:ev Sr fop=.func (.func f) first cap:=by rfl)(ha:first++args.toList.map (ev Sr)++cap=us:=by(simp(disch:=first|omega|assumption) [AA,big1,big2,w7]<;>(try simp only[BB,BC,Bb,BA,AV,Be,Bd,Bc,Ba,AU,B9,B8,B7])<;>with_unfolding_all rfl))(hp:bs=us:=by exact tdR)(b6:decide (t<n)=true:=by exact tdR):MO prog ro n ops N S0 Q df ((e,⟨some t,(cv fop args ats),ty,pos,after,none⟩)::l) γ O:=Sp hl hf ha (.inl hp) h b6 k1
theorem mixA{lo:List Oper}{id:Nat}(ord E:eQ){lp:List (Bool×Oper)}(h:MO2 prog ro n lo.toArray 431 O Q df tab lp γ O)(hB:Ic lo.toArray E ord=true:=by kernel_rfl)(hA:Rj tab n lo.toArray=true:=by exact tdR)(hl:GZ lo E ord=some lp:=by exact tdR):DWp prog ro n (.region id lo.toArray true) Q ⟨γ,O,df⟩:=
 Xt jB Ao mixed ord E O hB hA (Sub.refl _) hl h
end
section
variable {ro:Ro}{n:Nat}{ops:Array Oper}{N:Nat}{S0:Sig}{Q:DX->St->Prop}{df:List DDf}{rest:List Oper}{γ Sr:List (Nat×D)}{O:Sig}{t:Nat}{ty:TypeId}{pos:String}{after:Array Edge}
theorem eqlS{T u:Nat}{x y:Operand}{xs ys:eO}{gd:Option (Nat×Bool)}(fs:List (Nat×Nat))(r:Bool)(hE:EqTy prog T)(hk:(tab T).k=.struct fs)(hd:eqFs tab xs ys fs=some r)
  (h:au prog ro n ops Q rest ⟨(t,.bool r)::γ,O,df⟩) (hw:AJ ops γ ⟨some t,.binOp .eql T x y u,ty,pos,after,gd⟩=some true:=by exact tdR) (b6:decide (t<n)=true:=by exact tdR) (hl:A5 γ (Aa [x,y])=some Sr:=by exact tdR) (hx:ev Sr x=.agg xs:=by exact tdR) (hy:ev Sr y=.agg ys:=by exact tdR) :
  au prog ro n ops Q (⟨some t,.binOp .eql T x y u,ty,pos,after,gd⟩::rest) ⟨γ,O,df⟩:=by
 have hc:∀z∈[x,y],ev Sr z=ev γ z:=fun z hz=>Bs fun t ht=>AB hl t (AL (by rw[<-ht];exact hz))
 refine IV (d:=.bool r) hw (fun c e=>by cases e) (Ag fun c e=>by cases e) (fun g w a hs hT=>?_) b6 h;have:=HO (dst:=some t) (ty:=ty) (pos:=pos) (after:=after) (guard:=gd) (u:=u) jB hs hT hE hk (by rw[<-hc x j1];exact hx) (by rw[<-hc y j1];exact hy) hd false;simpa using this
theorem neqS{T u:Nat}{x y:Operand}{xs ys:eO}{gd:Option (Nat×Bool)}(fs:List (Nat×Nat))(r:Bool)(hE:EqTy prog T)(hk:(tab T).k=.struct fs)(hd:eqFs tab xs ys fs=some r)
  (h:au prog ro n ops Q rest ⟨(t,.bool (!r))::γ,O,df⟩) (hw:AJ ops γ ⟨some t,.binOp .neq T x y u,ty,pos,after,gd⟩=some true:=by exact tdR) (b6:decide (t<n)=true:=by exact tdR) (hl:A5 γ (Aa [x,y])=some Sr:=by exact tdR) (hx:ev Sr x=.agg xs:=by exact tdR) (hy:ev Sr y=.agg ys:=by exact tdR) :
  au prog ro n ops Q (⟨some t,.binOp .neq T x y u,ty,pos,after,gd⟩::rest) ⟨γ,O,df⟩:=by
 have hc:∀z∈[x,y],ev Sr z=ev γ z:=fun z hz=>Bs fun t ht=>AB hl t (AL (by rw[<-ht];exact hz))
 refine IV (d:=.bool (!r)) hw (fun c e=>by cases e) (Ag fun c e=>by cases e) (fun g w a hs hT=>?_) b6 h;have:=HO (dst:=some t) (ty:=ty) (pos:=pos) (after:=after) (guard:=gd) (u:=u) jB hs hT hE hk (by rw[<-hc x j1];exact hx) (by rw[<-hc y j1];exact hy) hd true;simpa using this
end
def kU.wk{P:Program}{ro:Ro}{f:Nat}{us bs:eO}{O:Sig}{R:DE->Sig->Prop}(h:kU P ro f bs O R)(ha:WkL us bs):kU P ro f us O R:=
 ⟨h.lt,h.ent,fun g w vs r fy hs hv=>h.run g w vs r fy hs (ha.rep hv)⟩
section
variable {P:Program}{ro:Ro}{n:Nat}{ops:Array Oper}{Q:DX->St->Prop}{df:List DDf}{rest:List Oper}{γ Sr:List (Nat×D)}{O:Sig}{t:Nat}{ty:TypeId}{pos:String}{after:Array Edge}
theorem Lw{fop:Operand}{args:Array Operand}{ats:Array TypeId}{f:Nat}{first cap us bs:eO}{R:DE->Sig->Prop}{dst:Option Tmp}{gd:Option (Nat×Bool)}
  (d6:AJ ops γ ⟨dst,(cv fop args ats),ty,pos,after,gd⟩=some true)
  (hl:A5 γ (Aa (fop::args.toList))=some Sr) (hf:ev Sr fop=.func (.func f) first cap) (ha:first++args.toList.map (ev Sr)++cap=us) (hw:bs=us\/bs=us.map D.plain) (h:kU P ro f bs O R)
  (ho:Ax n ⟨dst,(cv fop args ats),ty,pos,after,gd⟩=true)
  (b7:∀d U',R (.ret d) U'->au P ro n ops Q rest ⟨putD dst d γ,U',df⟩)
  (b8:∀d U',R (.panic d) U'->Q (.panic d) ⟨γ,U',df⟩) :
  au P ro n ops Q (⟨dst,(cv fop args ats),ty,pos,after,gd⟩::rest) ⟨γ,O,df⟩:=by
 have hx:∀x∈fop::args.toList,ev Sr x=ev γ x:=fun x hx=>Bs fun t ht=>AB hl t (AL (by rw[<-ht];exact hx))
 refine Lq d6 (by rw[<-hx fop j1];exact hf) (h.wk ?_) ho b7 b8;rw[show args.toList.map (ev γ)=args.toList.map (ev Sr) from ca fun x h=>(hx x (by simp[h])).symm,ha];rcases hw with rfl|rfl
 ·exact E1 _
 ·exact DB _
theorem EI{fop:Operand}{args:Array Operand}{ats:Array TypeId}{f:Nat}{first cap us bs:eO}{R:DE->Sig->Prop}{dst:Option Tmp}(h:kU P ro f bs O R)(b7:∀d U',R (.ret d) U'->au P ro n ops Q rest ⟨putD dst d γ,U',df⟩)(b8:∀d U',R (.panic d) U'->Q (.panic d) ⟨γ,U',df⟩:=by intro _ _ z;cases z.1)(hl:A5 γ (Aa (fop::args.toList))=some Sr:=by exact tdR)(hf:ev Sr fop=.func (.func f) first cap:=by exact tdR)(ha:first++args.toList.map (ev Sr)++cap=us:=by exact td0)(hp:bs=us\/bs=us.map D.plain:=by first|exact .inl tdR|exact .inr tdR)
  (ho:Ax n ⟨dst,(cv fop args ats),ty,pos,after,none⟩=true:=by exact tdR):au P ro n ops Q (⟨dst,(cv fop args ats),ty,pos,after,none⟩::rest) ⟨γ,O,df⟩:=Lw rfl hl hf ha hp h ho b7 b8
theorem callXRG{fop:Operand}{args:Array Operand}{ats:Array TypeId}{f:Nat}{first cap us bs:eO}{R:DE->Sig->Prop}{dst:Option Tmp}{j:Nat}{want:Bool}{k:Nat}(h:kU P ro f bs O R)(b7:∀d U',R (.ret d) U'->au P ro n ops Q rest ⟨putD dst d γ,U',df⟩)(b8:∀d U',R (.panic d) U'->Q (.panic d) ⟨γ,U',df⟩)(hk:(ops[j]?).bind (·.dst)=some k:=by exact tdR)(hb:γ.lookup k=some (.bool want):=by exact tdR)(hl:A5 γ (Aa (fop::args.toList))=some Sr:=by exact tdR)(hf:ev Sr fop=.func (.func f) first cap:=by exact tdR)(ha:first++args.toList.map (ev Sr)++cap=us:=by exact td0)(hp:bs=us\/bs=us.map D.plain:=by first|exact .inl tdR|exact .inr tdR)
  (ho:Ax n ⟨dst,(cv fop args ats),ty,pos,after,some (j,want)⟩=true:=by exact tdR):au P ro n ops Q (⟨dst,(cv fop args ats),ty,pos,after,some (j,want)⟩::rest) ⟨γ,O,df⟩:=
 Lw (by simp only[AJ,Do hk hb];simp) hl hf ha hp h ho b7 b8
end
section
variable {P:Program}{ro:Ro}{n:Nat}{ops:Array Oper}{Q:DX->St->Prop}{df:List DDf}{rest:List Oper}{γ Sr:List (Nat×D)}{O:Sig}{t:Nat}{ty:TypeId}{pos:String}{after:Array Edge}
theorem skipV{fop:Operand}{args:Array Operand}{ats:Array TypeId}{j:Nat}{want:Bool}(h:au P ro n ops Q rest ⟨(t,.tup [])::γ,O,df⟩)
  (fu:AJ ops γ ⟨some t,(cv fop args ats),ty,pos,after,some (j,want)⟩=some false:=by exact tdR) (hf:ev γ fop=.tup []:=by exact tdR) (b6:decide (t<n)=true:=by exact tdR) :
  au P ro n ops Q (⟨some t,(cv fop args ats),ty,pos,after,some (j,want)⟩::rest) ⟨γ,O,df⟩:=by
 intro g w a r hr eW;unfold wpListIn;rw[AW eW.tmps fu,aE j1];have h0:Rep g (.tup []) undef:=⟨[],rfl,rfl⟩;refine⟨fun f fp=>?_,h g w _ r hr (eW.put (o:=⟨some t,(cv fop args ats),ty,pos,after,some (j,want)⟩) (.refl g) eW.sim h0 b6)⟩;have hv:=As eW.tmps fop;rw[show ev (St.mk γ O df).γ fop=.tup [] from hf]at hv;obtain⟨vs,hv,hr⟩:=hv;simp only[Oper.about,resolve,hv,Deferred.ofValue]at fp;exact(by simp[Sem.run]at fp:False).elim
end
def WF{P:Program}{n:Nat}{γ:Fr}{O:Sig}{fn:Func}{R:DE->Sig->Prop}{U':Sig}{t u:Nat}{d d' e e':D}(hR:R (.ret (.tup [d',e'])) U')(hZ:Sub U' O:=by exact tdU)(hr:fn.results=#[.tmp t,.tmp u]:=by exact tdR)(hl:γ.lookup t=some d:=by exact tdR)(fm:γ.lookup u=some e:=by exact tdR)(fv:decide (u=t)=false:=by exact tdR)(hw:WkD d d':=by exact tdW)(fq:WkD e e':=by exact tdW):DR P n fn R .normal ⟨γ,O,[]⟩:=
 ⟨⟨[(t,d'),(u,e')],U',[]⟩,VH (show Tells γ [(t,d'),(u,e')] from ⟨by rw [Ay hl];exact hw,by rw [Ay fm];exact fq,trivial⟩) hZ,rfl, .tup [d',e'],E3 (by
  have:u≠t:=by simpa using fv
  simp[resD,hr,this]),Fg hR⟩
def enW {f m : Nat} {fn : Func} {c : Code} {args : eO} {O : Sig} {R : DE -> Sig -> Prop} (hf : prog.funcs[f]? = some fn) (hm : fn.ntmps = m) (h : DWp prog .wide m c (DR prog m fn R) { γ := BV 0 args, O }) (hb : fn.body = some c := by exact rfl) (fB : (fn.name == "runtime.NumGoroutine") = false := by decide) (hn : args.length <= m := by simp) : Fd prog f args O R := Kp hf hb fB hm hn h
section
variable {ro:Ro}{n:Nat}{ops:Array Oper}{N:Nat}{S0:Sig}{Q:DX->St->Prop}{df:List DDf}{γ Sr:List (Nat×D)}{O:Sig}{t:Nat}{ty:TypeId}{pos:String}{after:Array Edge}{e1 u1:Bool}{l:List (Bool×Bool×Oper)}
theorem mixU{lo:List Oper}{id:Nat}(ord E U:eQ){lp:List (Bool×Bool×Oper)}(h:MO3 prog ro n lo.toArray 431 O Q df tab lp γ O)(hB:Ib lo.toArray E U ord=true:=by kernel_rfl)(hA:Rj tab n lo.toArray=true:=by exact tdR)(hl:RV lo E U ord=some lp:=by exact tdR):DWp prog ro n (.region id lo.toArray true) Q ⟨γ,O,df⟩:=
 Xp jB Ao mixed ord E U O hB hA (Sub.refl _) hl h
theorem u3R(d:D){op:Op}(h:MO3 prog ro n ops N S0 Q df tab l ((t,d)::γ) O)(hr:DF op=true:=by rfl)(b6:decide (t<n)=true:=by exact tdR)(hl:A5 γ (Aa op.operands.toList)=some Sr:=by exact tdR)(hd:jX tab Sr S0 op=some d:=by first|with_unfolding_all rfl|(simp;done)|(simp;rfl)):MO3 prog ro n ops N S0 Q df tab ((e1,u1,⟨some t,op,ty,pos,after,none⟩)::l) γ O:=
 Wh jB hr b6 hl hd h
theorem u3A(z:eO){T:Nat}(h:∀k,O k=none->MO3 prog ro n ops N S0 Q df tab l ((t,.ptr k 0)::γ) (O.set k (.cells z)))(hz:(tab T).zero=z:=by(simp<;>rfl)):MO3 prog ro n ops N S0 Q df tab ((e1,u1,⟨some t,.alloc T,ty,pos,after,none⟩)::l) γ O:=by
 subst hz;exact Sx h
theorem u3C(Rr:Sig->D->Sig->Prop){fop:Operand}{args:Array Operand}{ats:Array TypeId}{f:Nat}{first cap us bs:eO}(h:∀τ,ar prog f bs τ fun x X'=> ∃d,x=.ret d/\Rr τ d X')(hn:∀τ k x d X',τ k=none->Rr (τ.set k x) d X'->∃U',Rr τ d U'/\U' k=none/\X'=U'.set k x)(b7:∀d U',Rr O d U'->Sub S0 U'/\MO3 prog ro n ops N S0 Q df tab l ((t,d)::γ) U')(hl:A5 γ (Aa (fop::args.toList))=some Sr:=by exact tdR)(hf:ev Sr fop=.func (.func f) first cap:=by exact tdR)(ha:first++args.toList.map (ev Sr)++cap=us:=by exact td0)(hp:bs=us\/bs=us.map D.plain:=by first|exact .inl tdR|exact .inr tdR)
  (ho:Ax n ⟨some t,(cv fop args ats),ty,pos,after,none⟩=true:=by exact tdR):MO3 prog ro n ops N S0 Q df tab ((e1,true,⟨some t,(cv fop args ats),ty,pos,after,none⟩)::l) γ O:=by
 have hx:∀x∈fop::args.toList,ev Sr x=ev γ x:=fun x hx=>Bs fun t ht=>AB hl t (AL (by rw[<-ht];exact hx))
 have c9:∀x∈((cv fop args ats)).operands,ev (only (Oper.looksAt ops ⟨some t,(cv fop args ats),ty,pos,after,none⟩) γ) x=ev γ x:=fun x hx=>Bf (o:=⟨some t,(cv fop args ats),ty,pos,after,none⟩) hx;refine mo3_u rfl (.inr (.inr ⟨Rr,fun τ=>⟨ho,by rw[Ar];rfl,?_⟩,hn,b7⟩));refine Ef (first:=first) (cap:=cap) (f:=f) (R:=fun x X'=> ∃d,x=.ret d/\Rr τ d X') ?_ ?_ (h τ) ?_ ho ?_ ?_
 ·show AJ ops (only _ γ) _=some true;rw[Ar];rfl
 ·rw[c9 fop (by simp[Op.operands,Call.operands]),<-hx fop j1];exact hf
 ·simp only
  rw[show args.toList.map (ev (only (Oper.looksAt ops ⟨some t,(cv fop args ats),ty,pos,after,none⟩) γ))=args.toList.map (ev Sr) from ca fun x hm=>by
   rw[c9 x (by simp at hm;simp[Op.operands,Call.operands,hm]),<-hx x (by simp[hm])],ha]
  rcases hp with rfl|rfl
  ·exact E1 _
  ·exact DB _
 ·rintro d U' ⟨d',hd,hR⟩
  cases hd;refine AD ⟨rfl,?_⟩;simp only[putD,A8,bu];exact hR
 ·rintro d U' ⟨d',hd,hR⟩
  cases hd
theorem u3M(h:MO prog ro n ops N S0 Q df (l.map fun p=>(p.1,p.2.2)) γ O)(hl:(l.all fun p=> !(jc p.2.2).isSome)=true:=by rfl):MO3 prog ro n ops N S0 Q df tab l γ O:=Jv hl h
end
section
variable {ro:Ro}{n:Nat}{ops:Array Oper}{N:Nat}{S0:Sig}{Q:DX->St->Prop}{df:List DDf}{γ Sr:List (Nat×D)}{O:Sig}{t:Nat}{ty:TypeId}{pos:String}{after:Array Edge}{e1 c1 k1:Bool}{l:List (Bool×Bool×Bool×Oper)}
theorem mixK{lo:List Oper}{id:Nat}(ord E C K:eQ)(S0:Sig)(hC:Sub S0 O){lp:List (Bool×Bool×Bool×Oper)}(h:MO4 prog ro n lo.toArray 431 Q df lp S0 γ O)(hB:DT lo.toArray E C K ord=true:=by kernel_rfl)(hl:LR lo E C K ord=some lp:=by exact tdR):DWp prog ro n (.region id lo.toArray true) Q ⟨γ,O,df⟩:=
 Xr Ao mixed ord E C K S0 hB hC hl h
theorem k4R(d:D){op:Op}(h:MO4 prog ro n ops N Q df l S0 ((t,d)::γ) O)(hr:DF op=true:=by rfl)(b6:decide (t<n)=true:=by exact tdR)(hl:A5 γ (Aa op.operands.toList)=some Sr:=by exact tdR)(hd:jX tab Sr (if c1=true then S0 else fun _=>none) op=some d:=by first|with_unfolding_all rfl|(simp;done)|(simp;rfl)):MO4 prog ro n ops N Q df ((e1,c1,k1,⟨some t,op,ty,pos,after,none⟩)::l) S0 γ O:=
 Wg jB hr b6 hl hd h
theorem k4S(S1:Sig){op:Op}{d:D}{U':Sig}(hC:Sub S1 U')(h:MO4 prog ro n ops N Q df l S1 γ U')(hl:A5 γ (Aa op.operands.toList)=some Sr:=by exact tdR)(he:eopD tab Sr O op=some (d,U'))(hk:k1=false->S1=S0:=by first|(intro;rfl)|exact fun h=>absurd h (by decide)):MO4 prog ro n ops N Q df ((true,c1,k1,⟨none,op,ty,pos,after,none⟩)::l) S0 γ O:=
 mo4_eff (o:=⟨none,op,ty,pos,after,none⟩) jB S1 rfl rfl ((BI (CK hl)) ▸ he) hC hk h
theorem k4N{Q':DX->St->Prop}(h:Q' .normal ⟨γ,O,df⟩):MO4 prog ro n ops N Q' df [] S0 γ O:=AD h
end
section
variable {ro:Ro}{n:Nat}{ops:Array Oper}{N:Nat}{B:Sig->Prop}{Q:DX->St->Prop}{df:List DDf}{γ Sr:List (Nat×D)}{O:Sig}{t:Nat}{ty:TypeId}{pos:String}{after:Array Edge}{e1 c1 k1:Bool}{l:List (Bool×Bool×Bool×Oper)}
theorem mixI{lo:List Oper}{id:Nat}(ord E C K:eQ)(B:Sig->Prop)(hC:B O){lp:List (Bool×Bool×Bool×Oper)}(h:MOI prog ro n lo.toArray 431 Q df lp B γ O)(hB:DT lo.toArray E C K ord=true:=by kernel_rfl)(hl:LR lo E C K ord=some lp:=by exact tdR):DWp prog ro n (.region id lo.toArray true) Q ⟨γ,O,df⟩:=
 Xs Ao mixed ord E C K B hB hC hl h
theorem iR(d:D){op:Op}(hd:∀s,B s->jX tab Sr s op=some d)(h:MOI prog ro n ops N Q df l B ((t,d)::γ) O)(hr:DF op=true:=by rfl)(b6:decide (t<n)=true:=by exact tdR)(hl:A5 γ (Aa op.operands.toList)=some Sr:=by exact tdR):MOI prog ro n ops N Q df ((e1,true,k1,⟨some t,op,ty,pos,after,none⟩)::l) B γ O:=
 Pd jB hr b6 hl (fun s hs=>hd s (hs rfl)) h
theorem iP(d:D){op:Op}(h:MOI prog ro n ops N Q df l B ((t,d)::γ) O)(hr:DF op=true:=by rfl)(b6:decide (t<n)=true:=by exact tdR)(hl:A5 γ (Aa op.operands.toList)=some Sr:=by exact tdR)(hd:jX tab Sr (fun _=>none) op=some d:=by first|with_unfolding_all rfl|(simp;done)|(simp;rfl)):MOI prog ro n ops N Q df ((e1,c1,k1,⟨some t,op,ty,pos,after,none⟩)::l) B γ O:=
 Pd jB hr b6 hl (fun s _=>Ey (fun _ _ h=>by cases h) hd) h
theorem iE(B1:Sig->Prop){op:Op}{d:D}{U':Sig}(hC:B1 U')(h:MOI prog ro n ops N Q df l B1 ((t,d)::γ) U')(hl:A5 γ (Aa op.operands.toList)=some Sr:=by exact tdR)(he:eopD tab Sr O op=some (d,U'))(hk:k1=false->B1=B:=by first|(intro;rfl)|exact fun h=>absurd h (by decide))(b6:decide (t<n)=true:=by exact tdR):MOI prog ro n ops N Q df ((true,c1,k1,⟨some t,op,ty,pos,after,none⟩)::l) B γ O:=
 Sw (o:=⟨some t,op,ty,pos,after,none⟩) jB B1 b6 rfl ((BI (CK hl)) ▸ he) hC hk h
theorem iS(B1:Sig->Prop){op:Op}{d:D}{U':Sig}(hC:B1 U')(h:MOI prog ro n ops N Q df l B1 γ U')(hl:A5 γ (Aa op.operands.toList)=some Sr:=by exact tdR)(he:eopD tab Sr O op=some (d,U'))(hk:k1=false->B1=B:=by first|(intro;rfl)|exact fun h=>absurd h (by decide)):MOI prog ro n ops N Q df ((true,c1,k1,⟨none,op,ty,pos,after,none⟩)::l) B γ O:=
 Sw (o:=⟨none,op,ty,pos,after,none⟩) jB B1 rfl rfl ((BI (CK hl)) ▸ he) hC hk h
theorem iN{Q':DX->St->Prop}(h:Q' .normal ⟨γ,O,df⟩):MOI prog ro n ops N Q' df [] B γ O:=AD h
theorem iW(B1:Sig->Prop){fop:Operand}{args:Array Operand}{ats:Array TypeId}{f:Nat}{first cap us bs:eO}{R:DE->Sig->Prop}{dst:Option Tmp}(h:ar prog f bs O R)(b7:∀d U',R (.ret d) U'->B1 U'/\MOI prog ro n ops N Q df l B1 (putD dst d γ) U')(b8:∀d U',R (.panic d) U'->∀V',Q (.panic d) ⟨V',U',df⟩)(hk:k1=false->B1=B:=by first|(intro;rfl)|exact fun h=>absurd h (by decide))(hl:A5 γ (Aa (fop::args.toList))=some Sr:=by exact tdR)(hf:ev Sr fop=.func (.func f) first cap:=by exact tdR)(ha:first++args.toList.map (ev Sr)++cap=us:=by exact td0)(hp:bs=us\/bs=us.map D.plain:=by first|exact .inl tdR|exact .inr tdR)
  (ho:Ax n ⟨dst,(cv fop args ats),ty,pos,after,none⟩=true:=by exact tdR):MOI prog ro n ops N Q df ((true,c1,k1,⟨dst,(cv fop args ats),ty,pos,after,none⟩)::l) B γ O:=by
 have hx:∀x∈fop::args.toList,ev Sr x=ev γ x:=fun x hx=>Bs fun t ht=>AB hl t (AL (by rw[<-ht];exact hx))
 have c9:∀x∈((cv fop args ats)).operands,ev (only (Oper.looksAt ops ⟨dst,(cv fop args ats),ty,pos,after,none⟩) γ) x=ev γ x:=fun x hx=>Bf (o:=⟨dst,(cv fop args ats),ty,pos,after,none⟩) hx;refine .inr ⟨rfl,ho,by rw[Ar];rfl,?_⟩;refine Ef (first:=first) (cap:=cap) (f:=f) (R:=R) ?_ ?_ h ?_ ho ?_ ?_
 ·show AJ ops (only _ γ) _=some true;rw[Ar];rfl
 ·rw[c9 fop (by simp[Op.operands,Call.operands]),<-hx fop j1];exact hf
 ·simp only
  rw[show args.toList.map (ev (only (Oper.looksAt ops ⟨dst,(cv fop args ats),ty,pos,after,none⟩) γ))=args.toList.map (ev Sr) from ca fun x hm=>by
   rw[c9 x (by simp at hm;simp[Op.operands,Call.operands,hm]),<-hx x (by simp[hm])],ha]
  rcases hp with rfl|rfl
  ·exact E1 _
  ·exact DB _
 ·intro d U' hR;obtain⟨h1,h2⟩:=b7 d U' hR;refine AD ⟨rfl,?_⟩;cases dst with
  |none=>exact⟨B1,h1,hk,h2⟩
  |some t=>simp only[putD,A8,bu];exact⟨B1,h1,hk,h2⟩
 ·intro d U' hR;exact⟨rfl,b8 d U' hR⟩
end
def RowR(sz:Nat)(S0 O:Sig)(es:eR)(o:Own):Prop:=(o=.clip/\O=S0) \/ ∃i,S0 i=none/\o=.tag i/\O=S0.set i (.tail sz es.length)
def RowR.sub{sz:Nat}{S0 O:Sig}{es:eR}{o:Own}(h:RowR sz S0 O es o):Sub S0 O:=by
 rcases h with⟨_,rfl⟩|⟨i,hi,_,rfl⟩
 ·exact Sub.refl _
 ·exact(Sub.refl _).set hi
section
variable {ro:Ro}{n:Nat}{ops:Array Oper}{N:Nat}{S0 Sb:Sig}{Q:DX->St->Prop}{df:List DDf}{rest:List Oper}{γ Sr:List (Nat×D)}{O:Sig}{t:Nat}{ty:TypeId}{pos:String}{after:Array Edge}{d:D}
theorem XQ{T T' e e' sz:Nat}{s x:Operand}{es new:eR}{o:Own}{l:List (Bool×Oper)}(hR:RowR sz Sb O es o)(hC:Sub S0 Sb)(h:∀i,Sb i=none->MO prog ro n ops N S0 Q df l ((t,.slice (es++new) (.tag i))::γ) (Sb.set i (.tail sz (es++new).length)))
  (hl:A5 γ (Aa [s,x])=some Sr:=by exact tdR) (hk:(tab T).k=.slice e:=by(simp<;>rfl)) (fo:(tab T').k=.slice e':=by(simp<;>rfl)) (he:A2 (tab e).k=false:=by simp) (hsz:(tab e).size=sz:=by simp)
  (h1:ev Sr s=.slice es o:=by exact tdR) (h2:k8 (ev Sr x)=some new:=by(simp<;>with_unfolding_all rfl)) (hne:new≠[]:=by simp)
  (hlen:∀c∈es,c.length=sz:=by first|(intro c hc;simp only[bC]at hc;subst hc;rfl)|(intro c hc;obtain⟨y,_,rfl⟩:=aZ.1 hc;rfl)|(simp[or_imp,forall_and]<;>fail)|exact Ck _|exact E0 _|exact BX _|simp) (hlen':∀c∈new,c.length=sz:=by first|(intro c hc;simp only[bC]at hc;subst hc;rfl)|(intro c hc;obtain⟨y,_,rfl⟩:=aZ.1 hc;rfl)|(simp[or_imp,forall_and]<;>fail)|exact Ck _|exact E0 _|exact BX _|simp) (fD:∀c∈new,C6 c=true:=by first|(intro c hc;simp only[bC]at hc;subst hc;rfl)|(intro c hc;obtain⟨y,_,rfl⟩:=aZ.1 hc;rfl)|(simp[or_imp,forall_and]<;>fail)|simp[cI,cS,cII,C6,D.flat])
  (hb:(es.length+new.length)*(tab e).bytes<=140737488355328:=by first|(simp;done)|(simp;omega)) (hm:es.length+new.length<=9223372036854775807:=by first|(simp;done)|(simp;omega)) (b6:decide (t<n)=true:=by exact tdR) :
  MO prog ro n ops N S0 Q df ((true,⟨some t,(cA s x T T'),ty,pos,after,none⟩)::l) γ O:=
 mo1 (fun U2 hx=>by
  obtain⟨e1,e2⟩:=In hl hx
  subst hsz
  rcases hR with⟨rfl,rfl⟩|⟨i,hi,rfl,rfl⟩
  ·exact Cj jB rfl (by simpa using b6) hk fo he (by rw[e1];exact h1) (by rw[e2];exact h2) hne hlen hlen' hb hm (fun i hi=>AD ⟨rfl,by simp only[A8,bu];rw[<-aC];exact⟨hC.set (hC.none hi),h i hi⟩⟩)
  ·refine OB jB rfl (by simpa using b6) hk fo he (by rw[e1];exact h1) (w6 ..) (by rw[e2];exact h2) hlen hlen' fD hb hm (AD ⟨rfl,?_⟩)
   simp only[A8,bu]
   rw[w8,<-aC]
   exact⟨hC.set (hC.none hi),h i hi⟩) b6
end
end Go.DL
namespace Go.DL
open Go.Proofs.Tryz
open Go Go.Proofs
set_option maxHeartbeats 8000000
def jj{α:Type}[DecidableEq α](s:α):List α->Nat->Int
 |[],_=> -1
 |x::r,k=>if x=s then k else jj s r (k+1)
def TR(l:eP)(s:Int)(o:Own)(O:Sig)(hl:l.length<=1073741824:=by exact sd):
  ar prog 244 [.slice (cI l) o,dI s] O (rS (dI (jj s l 0)) O):=by
 refine en func244 ntmps244 ?_;refine gz ?_;refine Bz [0,1,7] (fun (k:Nat)=>k<=l.length/\jj s l 0=jj s (l.drop k) k) (fun k=>[(8,dI k)]) (fun _=>O) (fun k=>l.length-k) (0) j1 (fun k hI=>?_);obtain⟨hk,hR⟩:=hI
 by_cases h:k<l.length
 ·rw[A6 h,jj]at hR
  repeat' first|refine gz ?_|apply gy<;>intro hh
  ·rw[aG hh.symm]at hR;exact fe1 hR
  ·exact⟨k+1,⟨j0,by rw[hR,aE (fun e=>hh e.symm)]⟩,td1,wkR⟩
 ·rw[A9 h,jj]at hR;refine gz ?_;exact fe1 hR
@[reducible,instance] def a244:=fun l s o O=>ah1 (@TR l s o O)
def U4(l:eP)(s:Int)(o:Own)(O:Sig)(hl:l.length<=1073741824:=by exact sd):
  ar prog 206 [.slice (cI l) o,dI s] O (rS (.bool (decide (0<=jj s l 0))) O):=by
 refine en func206 ntmps206 ?_;refine gz ?_;exact fe1 trivial
def TS(l:eR)(o:Own)(O:Sig):
  ar prog 241 [.slice l o] O (rS (.slice l .clip) O):=by
 refine en func241 ntmps241 ?_;refine gz ?_;exact fe1 trivial
@[reducible,instance] def a241:=fun l o O=>ah0 (@TS l o O)
def HF(l:eR)(o:Own)(O:Sig)(hl:l.length<=1073741824:=by exact sd)(hs:∀c∈l,c.length=1:=by exact sd):
  ar prog 299 [.slice l o] O (rS (sl l) O):=by
 refine en func299 ntmps299 ?_;refine gz ?_;refine isN (fun b hb=>?_)
 repeat' first|refine gz ?_|apply gy<;>intro hh
 ·exact fe1 (d':=sl []) (hb hh)
 ·by_cases h:l=[]
  ·refine app0 ?_;refine gz ?_;exact fe1 (d':=sl []) h
  ·refine appC (fun i hi=>?_) (hne:=by simp[h]) (hlen':=hs);refine gz ?_;exact finS (U':=O) (es:=l) ⟨rfl,rfl⟩ ((Sub.refl _).set hi)
def TF(l:eP)(s:Int)(o:Own)(O:Sig)(hl:l.length<=1073741824:=by exact sd):
  ar prog 267 [.slice (cI l) o,dI s] O (rS (.bool (l.contains s)) O):=by
 refine en func267 ntmps267 ?_;refine gz ?_;refine Bz [0,1] (fun (k:Nat)=>k<=l.length/\(s∈l ↔ s∈l.drop k)) (fun k=>[(5,dI k)]) (fun _=>O) (fun k=>l.length-k) (0) j1 (fun k hI=>?_);obtain⟨hk,hR⟩:=hI
 by_cases h:k<l.length
 ·rw[A6 h,aY]at hR
  repeat' first|refine gz ?_|apply gy<;>intro hh
  ·have:=hR.2 (.inl hh.symm);exact fe1 this
  ·exact⟨k+1,⟨j0,by rw[hR];exact⟨fun e=>e.resolve_left fun e=>hh e.symm,.inr⟩⟩,td1,wkR⟩
 ·rw[A9 h]at hR;refine gz ?_;exact fe1 hR
def inB(n:Int):Bool:=decide (-1000000000<=n)&&decide (n<=1000000000)
def TK(n:Int)(O:Sig):ar prog 253 [dI n] O (rS (.bool (inB n)) O):=by
 refine en func253 ntmps253 ?_
 by_cases h : -1000000000<=n
 ·refine gz ?_
  (refine fin1 (U':=O) ?_;exact⟨by first|rfl|(simp[inB,h];done)|(simp_all [inB,h];done)|(rw[Ae,aR];simp_all [inB,h]<;>omega),rfl⟩)
 ·refine gz ?_
  (refine fin1 (U':=O) ?_;exact⟨by first|rfl|(simp[inB,h];done)|(simp_all [inB,h];done)|(rw[Ae,aR];simp_all [inB,h]<;>omega),rfl⟩)
@[reducible,instance] def a253:=fun n O=>ah0 (@TK n O)
def TX(n:Int)(O:Sig):ar prog 221 [dI n] O (rS (.bool (inB n)) O):=by
 refine en func221 ntmps221 ?_
 by_cases h : -1000000000<=n
 ·refine gz ?_
  (refine fin1 (U':=O) ?_;exact⟨by first|rfl|(simp[inB,h];done)|(simp_all [inB,h];done)|(rw[Ae,aR];simp_all [inB,h]<;>omega),rfl⟩)
 ·refine gz ?_
  (refine fin1 (U':=O) ?_;exact⟨by first|rfl|(simp[inB,h];done)|(simp_all [inB,h];done)|(rw[Ae,aR];simp_all [inB,h]<;>omega),rfl⟩)
@[reducible,instance] def a221:=fun n O=>ah0 (@TX n O)
def Nz(n:Int)(O:Sig):ar prog 123 [dI n] O (rS (.bool (decide (n=1\/n=4))) O):=by
 refine en func123 ntmps123 ?_
 by_cases h:n=1
 ·refine gz ?_;exact fe1 h
 ·refine gz ?_;exact fe1 h
@[reducible,instance] def a123:=fun n O=>ah0 (@Nz n O)
mutual
def j8.size:j8->Nat
 |.mk _ _ _ _ _ k=>1+j8.sizes k
def j8.sizes:List j8->Nat
 |[]=>0
 |f::l=>f.size+j8.sizes l
end
def j8.size_eq(f:j8):f.size=1+j8.sizes f.ag:=by cases f;rw[j8.size];rfl
def j8.sizes_len: ∀l:List j8,l.length<=j8.sizes l
 |[]=>by simp
 |f::l=>by
  have:=j8.sizes_len l;rw[j8.sizes,j8.size_eq];simp;omega
def j8.sizes_mem: ∀{l:List j8}{x:j8},x∈l->x.size<=j8.sizes l
 |[],_,h=>by cases h
 |f::l,x,h=>by
  rw[j8.sizes];rcases aY.1 h with rfl|h
  ·omega
  ·have:=j8.sizes_mem h;omega
def j8.kid_size{f:j8}{k:Nat}(h:k<f.ag.length):(f.ag[k]).size<f.size:=by
 have:=j8.sizes_mem (aK h);rw[j8.size_eq f];omega
def mx(x y:Int):Int:=if y>x then y else x
def mx_eq(x y:Int):mx x y=max x y:=by unfold mx;split<;>omega
def CU(o:Int):Bool:=decide (o=2)||decide (o=3)||decide (o=4)
mutual
def j8.speaks:j8->Int
 |.mk o a _ _ _ k=>j8.speakss k (if CU o then IntKind.i64.wrap (a+1) else 0)
def j8.speakss:List j8->Int->Int
 |[],n=>n
 |f::l,n=>j8.speakss l (mx n f.speaks)
end
def j8.speaks_eq(f:j8):f.speaks=j8.speakss f.ag (if CU f.op then IntKind.i64.wrap (f.arg+1) else 0):=by cases f;rw[j8.speaks];rfl
def Ni(f:j8)(O:Sig):ar prog 225 [.agg (Cu f)] O (rS (.bool (CU f.op)) O):=by
 refine en func225 ntmps225 ?_
 repeat' first|refine gz ?_|apply gy<;>intro hh
 any_goals (first|(refine fin1 (U':=O) ?_;exact⟨by first|rfl|(simp[CU,hh];done)|(simp_all [CU,hh];done)|(rw[Ae,aR];simp_all [CU,hh]<;>omega),rfl⟩)|fail)
@[reducible,instance] def a225:=fun f O=>ah0 (@Ni f O)
def JX(f:j8)(O:Sig)(hf:f.size<=1073741824:=by exact sd):
  ar prog 205 [.agg (Cu f)] O (rS (dI f.speaks) O):=by
 have hsz:=j8.size_eq f;have ff:=j8.sizes_len f.ag;have eZ:=(j8.speaks_eq f).symm;have hL:CU f.op=(decide (f.op=2)||decide (f.op=3)||decide (f.op=4)):=rfl;refine en func205 ntmps205 ?_
 repeat' first|refine gz ?_|apply gy<;>intro hh
 all_goals
  refine BO [2,23,24,34] (fun (k:Nat) (m:Int)=>k<=f.ag.length/\j8.speakss (f.ag.drop k) m=f.speaks) (fun k m=>[(25,dI k),(3,dI m)]) (fun _ _=>O) (fun k _=>f.ag.length-k) (0) ((if CU f.op then IntKind.i64.wrap (f.arg+1) else 0)) (by exact⟨j0,eZ⟩) (fun k m hI=>?_);obtain⟨hk,hR⟩:=hI;clear hL
  by_cases h:k<f.ag.length
  ·rw[A6 h,j8.speakss]at hR;have fe:=j8.kid_size h
   repeat' first|refine gz ?_|refine Bh (JX (f.ag[k]) O j0) ?_|refine callP (JX (f.ag[k]) O j0) ?_|refine gz ?_|apply gy<;>intro hh
   have hm:mx m (f.ag[k]).speaks=if m<(f.ag[k]).speaks then(f.ag[k]).speaks else m:=rfl
   exact⟨k+1,mx m (f.ag[k]).speaks,⟨j0,hR⟩,td1,wkR⟩
  ·rw[A9 h,j8.speakss]at hR;refine gz ?_;exact fe1 hR
termination_by SizeOf.sizeOf f
decreasing_by all_goals exact j8.lt (aK _)
@[reducible,instance] def a205:=fun f O=>ah1 (@JX f O)
def JZ(f:j8)(O:Sig)(hf:f.size<=1073741824:=by exact sd):
  ar prog 146 [.agg (Cu f)] O (rS (dI f.speaks) O):=by
 have hsz:=j8.size_eq f;have ff:=j8.sizes_len f.ag;have eZ:=(j8.speaks_eq f).symm;refine en func146 ntmps146 ?_;cases hL:CU f.op
 all_goals
  refine gf hL ?_;refine BO [2,12,13,23] (fun (k:Nat) (m:Int)=>k<=f.ag.length/\j8.speakss (f.ag.drop k) m=f.speaks) (fun k m=>[(14,dI k),(3,dI m)]) (fun _ _=>O) (fun k _=>f.ag.length-k) (0) ((if CU f.op then IntKind.i64.wrap (f.arg+1) else 0)) (by exact⟨j0,eZ⟩) (fun k m hI=>?_);obtain⟨hk,hR⟩:=hI
  by_cases h:k<f.ag.length
  ·rw[A6 h,j8.speakss]at hR;have fe:=j8.kid_size h
   repeat' first|refine gz ?_|refine Bh (JZ (f.ag[k]) O j0) ?_|refine callP (JZ (f.ag[k]) O j0) ?_|refine gz ?_|apply gy<;>intro hh
   have hm:mx m (f.ag[k]).speaks=if m<(f.ag[k]).speaks then(f.ag[k]).speaks else m:=rfl
   exact⟨k+1,mx m (f.ag[k]).speaks,⟨j0,hR⟩,td1,wkR⟩
  ·rw[A9 h,j8.speakss]at hR;refine gz ?_;exact fe1 hR
termination_by SizeOf.sizeOf f
decreasing_by all_goals exact j8.lt (aK _)
@[reducible,instance] def a146:=fun f O=>ah1 (@JZ f O)
mutual
def j8.depth:j8->Int
 |.mk _ _ _ _ _ k=>j8.depths k 0+1
def j8.depths:List j8->Int->Int
 |[],n=>n
 |f::l,n=>j8.depths l (mx n f.depth)
end
def j8.depth_eq(f:j8):f.depth=j8.depths f.ag 0+1:=by cases f;rw[j8.depth];rfl
mutual
def j8.depth_le: ∀f:j8,1<=f.depth/\f.depth<=f.size
 |.mk _ _ _ _ _ k=>by
  have:=j8.depths_le k 0 (dQ 0);rw[j8.depth,j8.size];simp;omega
def j8.depths_le: ∀(l:List j8) (n:Int),0<=n->n<=j8.depths l n/\j8.depths l n<=max n (j8.sizes l)
 |[],n,h=>by simp[j8.depths,j8.sizes];omega
 |f::l,n,h=>by
  have h1:=j8.depth_le f;have h2:=j8.depths_le l (mx n f.depth) (by rw[mx_eq];omega);rw[j8.depths,j8.sizes];rw[mx_eq]at h2⊢;simp only[eF];omega
end
def JV(f:j8)(O:Sig)(hf:f.size<=1073741824:=by exact sd):
  ar prog 223 [.agg (Cu f)] O (rS (dI f.depth) O):=by
 have hsz:=j8.size_eq f;have ff:=j8.sizes_len f.ag;have hd:=j8.depth_le f;have fE:=(j8.depth_eq f).symm;refine en func223 ntmps223 ?_;refine gz ?_;refine BO [2,7,8,18,19] (fun (k:Nat) (m:Int)=>k<=f.ag.length/\j8.depths (f.ag.drop k) m+1=f.depth) (fun k m=>[(9,dI k),(3,dI m)]) (fun _ _=>O) (fun k _=>f.ag.length-k) (0) (0) (by exact⟨j0,fE⟩) (fun k m hI=>?_);obtain⟨hk,hR⟩:=hI
 by_cases h:k<f.ag.length
 ·rw[A6 h,j8.depths]at hR;have fe:=j8.kid_size h
  repeat' first|refine gz ?_|refine Bh (JV (f.ag[k]) O j0) ?_|refine callP (JV (f.ag[k]) O j0) ?_|refine gz ?_|apply gy<;>intro hh
  have hm:mx m (f.ag[k]).depth=if m<(f.ag[k]).depth then(f.ag[k]).depth else m:=rfl
  exact⟨k+1,mx m (f.ag[k]).depth,⟨j0,hR⟩,td1,wkR⟩
 ·rw[A9 h,j8.depths]at hR;refine gz ?_;exact fe1 hR
termination_by SizeOf.sizeOf f
decreasing_by all_goals exact j8.lt (aK _)
@[reducible,instance] def a223:=fun f O=>ah1 (@JV f O)
def Nx(p:aw)(O:Sig)(hl:p.aa.length<=1073741824:=by exact sd)(hp:∀c∈p.aa,c.ae.length<=1073741824:=by exact sd):
  ar prog 129 [.agg (A7 p)] O (rS (sl (cII (p.aa.map (·.ae)))) O):=by
 refine en func129 ntmps129 ?_;refine gz ?_;refine ED 3 1 (fun i hi=>?_);refine BO [1,2,22] (fun (k:Nat) (out:eT)=>k<=p.aa.length/\out.length=k/\out++(p.aa.drop k).map (·.ae)=p.aa.map (·.ae)) (fun k out=>[(4,dI k),(3,.slice (cII out) (.tag i))]) (fun _ out=>O.set i (.tail 1 out.length)) (fun k _=>p.aa.length-k) (0) ([]) j1 (fun k out hI=>?_);obtain⟨hk,ho,hR⟩:=hI
 by_cases h:k<p.aa.length
 ·rw[A6 h]at hR;have fa:=hp _ (aK h);refine gz ?_;refine appK ?_;refine gz ?_;exact⟨k+1,out++[(p.aa[k]).ae],⟨j0,by simp[ho],by rw[aO];exact hR⟩,td1,wkR⟩
 ·rw[A9 h]at hR;simp at hR;refine gz ?_;exact finS (U':=O) (es:=cII out) ⟨by rw[hR],rfl⟩
@[reducible,instance] def a129:=fun p O=>ah2 (@Nx p O)
def Tb(f:j8)(O:Sig):ar prog 374 [.agg (Cu f)] O (rS (.bool (CU f.op)) O):=by
 refine en func374 ntmps374 ?_
 repeat' first|refine gz ?_|apply gy<;>intro hh
 any_goals (first|(refine fin1 (U':=O) ?_;exact⟨by first|rfl|(simp[CU];done)|(simp_all [CU];done)|(rw[Ae,aR];simp_all [CU]<;>omega),rfl⟩)|fail)
@[reducible,instance] def a374:=fun f O=>ah0 (@Tb f O)
def Cr(op:Int):Nat:=if op=5 then 1 else if op=6\/op=7 then 2 else 0
def Tc(o:Int)(O:Sig):ar prog 373 [dI o] O (rS (dI (Cr o)) O):=by
 refine en func373 ntmps373 ?_
 repeat' first|refine gz ?_|apply gy<;>intro hh
 any_goals (first|(refine fin1 (U':=O) ?_;exact⟨by first|rfl|(simp[Cr];done)|(simp_all [Cr];done)|(rw[Ae,aR];simp_all [Cr]<;>omega),rfl⟩)|fail)
@[reducible,instance] def a373:=fun o O=>ah0 (@Tc o O)
def TG(b:Bool)(O:Sig):ar prog 258 [.bool b] O (rS (dI (if b then 0 else 2)) O):=by
 refine en func258 ntmps258 ?_
 repeat' first|refine gz ?_|apply gy<;>intro hh
 any_goals (first|exact fe1 trivial|fail)
@[reducible,instance] def a258:=fun b O=>ah0 (@TG b O)
def JO(l:eT)(c:Int)(o:Own)(O:Sig)(hl:l.length<=1073741824:=by exact sd)(hc:c<3+l.length:=by exact sd):
  ar prog 353 [.slice (cII l) o,dI c] O (rS (sl (cI (if c<3 then [] else(l[(c-3).toNat]?).getD []))) O):=by
 refine en func353 ntmps353 ?_
 by_cases h:c<3
 ·repeat' first|refine gz ?_|apply gy<;>intro hh
  all_goals first|omega|skip
  exact fe1 (d':=sl []) h
 ·have h2:(c-3).toNat<l.length:=by omega
  repeat' first|refine gz ?_|apply gy<;>intro hh
  all_goals first|omega|skip
  exact fe1 (gi h h2)
@[reducible,instance] def a353:=fun l c o O=>ah2 (@JO l c o O)
def TE(w:World)(c:Int)(O:Sig)(hl:w.ae.length<=1073741824:=by exact sd):
  ar prog 270 [.agg (Dg w),dI c] O (rS (.bool (decide (0<=c/\c<3+w.ae.length))) O):=by
 refine en func270 ntmps270 ?_
 repeat' first|refine gz ?_|apply gy<;>intro hh
 any_goals (first|exact fe1 trivial|fail)
@[reducible,instance] def a270:=fun w c O=>ah1 (@TE w c O)
def TD(w:World)(l:eP)(o:Own)(O:Sig)(hl:w.jQ.length<=1073741824:=by exact sd)(fm:l.length<=1073741824:=by exact sd):
  ar prog 271 [.agg (Dg w),.slice (cI l) o] O (rS (.bool (l.all (fun s=>decide (0<=s/\s<w.jQ.length))&&decide (l.length<=2))) O):=by
 refine en func271 ntmps271 ?_;refine gz ?_;refine Bz [1,2,7,8,23,24,25] (fun (k:Nat)=>k<=l.length/\l.all (fun s=>decide (0<=s/\s<w.jQ.length))=(l.drop k).all (fun s=>decide (0<=s/\s<w.jQ.length))) (fun k=>[(9,dI k)]) (fun _=>O) (fun k=>l.length-k) (0) j1 (fun k hI=>?_);obtain⟨hk,hR⟩:=hI
 by_cases h:k<l.length
 ·rw[A6 h,cM]at hR
  repeat' first|refine gz ?_|apply gy<;>intro hh
  ·exact fe1 hR
  ·exact fe1 hR
  ·exact⟨k+1,⟨j0,by rw[hR];simp_all⟩,td1,wkR⟩
 ·rw[A9 h]at hR;refine gz ?_;exact fe1 hR
def IJ(op:Int):Option Int:=
 if op=1\/op=2\/op=3\/op=6\/op=18 then some 0 else if op=4\/op=8\/op=17 then some 1 else
 if op=7\/op=9\/op=11\/op=12\/op=13\/op=14\/op=15\/op=16 then some 2 else if op=10 then some 3 else none
def C4(p:aw)(x:ay):Int:=match IJ x.op with
 |some k=>k
 |none=>if x.op=5/\0<=x.n/\x.n<p.ai.length then p.ai.getD x.n.toNat 0 else -1
def MV{p:aw}{x:ay}(h:x.op=5):C4 p x=if 0<=x.n/\x.n<p.ai.length then p.ai.getD x.n.toNat 0 else -1:=by simp[C4,IJ,h]
def TV(p:aw)(x:ay)(O:Sig)(hl:p.ai.length<=1073741824:=by exact sd):
  ar prog 226 [.agg (A7 p),.agg (HW x)] O (rS (dI (C4 p x)) O):=by
 refine en func226 ntmps226 ?_
 repeat' first|refine gz ?_|apply gy<;>intro hh
 any_goals (first|(refine fin1 (U':=O) ?_;exact⟨by first|rfl|(simp[C4,IJ];done)|(simp_all [C4,IJ];done)|(rw[Ae,aR];simp_all [C4,IJ]<;>omega),rfl⟩)|fail)
 all_goals (refine fin1 (U':=O) ?_;refine⟨?_,rfl⟩;rw[MV (by assumption)])
 all_goals first|(rw[aE j0];done)|(rw[aG ⟨by assumption,by assumption⟩];simp)
@[reducible,instance] def a226:=fun p x O=>ah1 (@TV p x O)
def Co(p:aw)(x:ay)(size:Int):Bool:=
 if x.op=1 then inB x.n else if x.op=3 then decide (0<=x.n/\x.n<size) else if x.op=4\/x.op=7 then decide (0<=x.n/\x.n<p.ac) else
 if x.op=5 then decide (0<=x.n/\x.n<p.ai.length) else if x.op=6\/x.op=8 then decide (3<=x.n/\x.n<3+p.aa.length) else decide (x.n=0)
def TU(p:aw)(x:ay)(size:Int)(O:Sig)(hl:p.ai.length<=1073741824:=by exact sd)(hc:p.aa.length<=1073741824:=by exact sd):
  ar prog 227 [.agg (A7 p),.agg (HW x),dI size] O (rS (.bool (Co p x size)) O):=by
 refine en func227 ntmps227 ?_
 repeat' first|refine gz ?_|apply gy<;>intro hh
 any_goals (first|(refine fin1 (U':=O) ?_;exact⟨by first|rfl|(simp[Co];done)|(simp_all [Co];done)|(rw[Ae,aR];simp_all [Co]<;>omega),rfl⟩)|fail)
def U8(p:aw)(x:ay)(size:Int)(O:Sig)(hl:p.ai.length<=1073741824:=by exact sd)(hc:p.aa.length<=1073741824:=by exact sd):
  ar prog 201 [.agg (A7 p),.agg (HW x),dI size] O (rS (.bool (Co p x size)) O):=by
 refine en func201 ntmps201 ?_
 repeat' first|refine gz ?_|apply gy<;>intro hh
 any_goals (first|(refine fin1 (U':=O) ?_;exact⟨by first|rfl|(simp[Co];done)|(simp_all [Co];done)|(rw[Ae,aR];simp_all [Co]<;>omega),rfl⟩)|fail)
@[reducible,instance] def a201:=fun p x size O=>ah2 (@U8 p x size O)
def EN(op:Int):D:=match IJ op with
 |some k=>.iface 276 (dI k)
 |none=>if op=5 then .iface 277 (.agg []) else .niliface
def U7(op:Int)(O:Sig):ar prog 202 [dI op] O (rS (EN op) O):=by
 refine en func202 ntmps202 ?_
 repeat' first|refine gz ?_|apply gy<;>intro hh
 any_goals (first|(refine fin1 (U':=O) ?_;exact⟨by first|rfl|(simp[EN,IJ];done)|(simp_all [EN,IJ];done)|(rw[Ae,aR];simp_all [EN,IJ]<;>omega),rfl⟩)|fail)
@[reducible,instance] def a202:=fun op O=>ah0 (@U7 op O)
def O3{xs bs:eO}(h:WkL xs bs):WkD (.agg xs) (.agg bs):=by
 rintro g v ⟨vs,e,r⟩
 exact⟨vs,e,h.rep r⟩
def ownersF:List ax->Nat->eP
 |[],_=>[]
 |c::r,i=>List.replicate c.ac.length ((i:Int)+3)++ownersF r (i+1)
def AG(p:aw):World:=⟨p.aa.map (·.ae),ownersF p.aa 0⟩
def Tl(l:eR)(o:Own)(O:Sig):
  ar prog 341 [.slice l o] O (rS (.slice l .clip) O):=by
 refine en func341 ntmps341 ?_;refine gz ?_;exact fe1 trivial
@[reducible,instance] def a341:=fun l o O=>ah0 (@Tl l o O)
def JP(c:ax)(O:Sig)(hl:c.ae.length<=1073741824:=by exact sd):
  ar prog 298 [.agg (Ik c)] O (rS (sl (cI c.ae)) O):=by
 refine en func298 ntmps298 ?_
 repeat' first|refine gz ?_|refine Bh (HF (cI c.ae) .no O (by simpa using hl) (Ck _)) ?_|refine callP (HF (cI c.ae) .no O (by simpa using hl) (Ck _)) ?_|refine gz ?_|apply gy<;>intro hh
 exact fe1 trivial
@[reducible,instance] def a298:=fun c O=>ah1 (@JP c O)
def Tw(l:List ax)(O:Sig)(hl:l.length<=1073741824:=by exact sd)(hp:∀c∈l,c.ae.length<=1073741824:=by exact sd):
  ar prog 297 [sl (l.map Ik),.func (.func 298) [] []] O (rS (sl (cII (l.map (·.ae)))) O):=by
 refine en func297 ntmps297 ?_;refine gz ?_;refine ED 5 1 (fun i hi=>?_);refine BO [1,4,8,9,21,22] (fun (k:Nat) (out:eT)=>k<=l.length/\out.length=k/\out++(l.drop k).map (·.ae)=l.map (·.ae)) (fun k out=>[(10,dI k),(5,.slice (cII out) (.tag i))]) (fun _ out=>O.set i (.tail 1 out.length)) (fun k _=>l.length-k) (0) ([]) j1 (fun k out hI=>?_);obtain⟨hk,ho,hR⟩:=hI
 by_cases h:k<l.length
 ·rw[A6 h]at hR;have fa:=hp _ (aK h)
  repeat' first|refine Bh (JP (l[k]) _ fa) ?_|refine callP (JP (l[k]) _ fa) ?_|refine gz ?_|apply gy<;>intro hh
  exact⟨k+1,out++[(l[k]).ae],⟨j0,by simp[ho],by rw[aO];exact hR⟩,td1,wkR⟩
 ·rw[A9 h]at hR;simp at hR;refine gz ?_;exact finS (U':=O) (es:=cII out) ⟨by rw[hR],rfl⟩ ((Sub.refl _).set hi)
@[reducible,instance] def a297:=fun l O=>ah2 (@Tw l O)
def TN(p:aw)(O:Sig)(hl:p.aa.length<=1073741824:=by exact sd)(hp:∀c∈p.aa,c.ae.length<=1073741824:=by exact sd):
  ar prog 250 [.agg (A7 p)] O (rS (sl (cII (p.aa.map (·.ae)))) O):=by
 refine en func250 ntmps250 ?_;refine gz ?_;exact fe1 trivial
@[reducible,instance] def a250:=fun p O=>ah2 (@TN p O)
def jT(p:aw)(c:Int):Bool:=decide (3<=c)&&decide (c<3+p.aa.length)
def Uh(p:aw)(c:Int)(O:Sig)(hl:p.aa.length<=1073741824:=by exact sd):
  ar prog 185 [.agg (A7 p),dI c] O (rS (.bool (jT p c)) O):=by
 refine en func185 ntmps185 ?_
 by_cases h:3<=c
 ·refine gz ?_
  (refine fin1 (U':=O) ?_;exact⟨by first|rfl|(simp[jT,h];done)|(simp_all [jT,h];done)|(rw[Ae,aR];simp_all [jT,h]<;>omega),rfl⟩)
 ·refine gz ?_
  (refine fin1 (U':=O) ?_;exact⟨by first|rfl|(simp[jT,h];done)|(simp_all [jT,h];done)|(rw[Ae,aR];simp_all [jT,h]<;>omega),rfl⟩)
@[reducible,instance] def a185:=fun p c O=>ah1 (@Uh p c O)
mutual
def j8.cnt:j8->Int->Int
 |.mk _ _ _ _ _ k,most=>j8.cnts k most 1
def j8.cnts:List j8->Int->Int->Int
 |[],_,n=>n
 |f::l,most,n=>if n<=most then j8.cnts l most (n+f.cnt (most-n)) else n
end
def j8.cnt_eq(f:j8)(most:Int):f.cnt most=j8.cnts f.ag most 1:=by cases f;rw[j8.cnt];rfl
mutual
def j8.cnt_le: ∀(f:j8) (most:Int),1<=f.cnt most/\f.cnt most<=f.size
 |.mk _ _ _ _ _ k,most=>by
  have:=j8.cnts_le k most 1;rw[j8.cnt,j8.size];simp only[eF];omega
def j8.cnts_le: ∀(l:List j8) (most n:Int),n<=j8.cnts l most n/\j8.cnts l most n<=n+j8.sizes l
 |[],most,n=>by simp[j8.cnts,j8.sizes]
 |f::l,most,n=>by
  have h1:=j8.cnt_le f (most-n);have h2:=j8.cnts_le l most (n+f.cnt (most-n));rw[j8.cnts,j8.sizes];simp only[eF];split<;>omega
end
def JR(f:j8)(most:Int)(O:Sig)(hf:f.size<=1073741824:=by exact sd)(h1 : -2147483648<=most:=by exact sd)(h2:most<=1073741824:=by exact sd):
  ar prog 269 [.agg (Cu f),dI most] O (rS (dI (f.cnt most)) O):=by
 have hsz:=j8.size_eq f;have ff:=j8.sizes_len f.ag;have fG:=j8.cnt_le f most;have fF:=(j8.cnt_eq f most).symm;refine en func269 ntmps269 ?_;refine gz ?_;refine BO [1,2,4,30] (fun (k:Nat) (m:Int)=>k<=f.ag.length/\1<=m/\j8.cnts (f.ag.drop k) most m=f.cnt most) (fun k m=>[(6,dI k),(5,dI m)]) (fun _ _=>O) (fun k _=>f.ag.length-k) (0) (1) (by exact⟨j0,j0,fF⟩) (fun k m hI=>?_);obtain⟨hk,hm,hR⟩:=hI;have fK:=j8.cnts_le (f.ag.drop k) most m
 by_cases h:k<f.ag.length
 ·rw[A6 h,j8.cnts]at hR;have fe:=j8.kid_size h;have fL:=j8.cnt_le (f.ag[k]) (most-m)
  by_cases d5:m<=most
  ·rw[aG d5]at hR;have fC:=j8.cnts_le (f.ag.drop (k+1)) most (m+(f.ag[k]).cnt (most-m))
   repeat' first|refine gz ?_|refine Bh (JR (f.ag[k]) (most-m) O j0 j0 j0) ?_|refine callP (JR (f.ag[k]) (most-m) O j0 j0 j0) ?_|refine gz ?_|apply gy<;>intro hh
   exact⟨k+1,m+(f.ag[k]).cnt (most-m),⟨j0,j0,hR⟩,td1,wkR⟩
  ·rw[aE d5]at hR;refine gz ?_;exact fe1 hR
 ·rw[A9 h,j8.cnts]at hR;refine gz ?_;exact fe1 hR
termination_by SizeOf.sizeOf f
decreasing_by exact j8.lt (aK _)
@[reducible,instance] def a269:=fun f most O=>ah3 (@JR f most O)
def TW(f:j8)(O:Sig)(hf:f.size<=1073741824:=by exact sd):ar prog 222 [.agg (Cu f)] O (rS (dI (f.cnt 24)) O):=by
 refine en func222 ntmps222 ?_;refine gz ?_;exact fe1 trivial
@[reducible,instance] def a222:=fun f O=>ah1 (@TW f O)
section
variable {O:Sig}{r i j:Nat}{a:D}
def wS(O:Sig)(r i j:Nat)(a:D)(out:eP):Sig:=((O.set r (.cells [.aj,.aj])).set i (.tail 1 out.length)).set j (.cells [a,.slice (cI out) (.tag i)])
theorem wS_j(out:eP):wS O r i j a out j=some (.cells [a,.slice (cI out) (.tag i)]):=w6 ..
theorem wS_i(b9:i≠j)(out:eP):wS O r i j a out i=some (.tail 1 out.length):=by unfold wS;rw[w7 _ _ b9,w6]
theorem wS_r(eU:j≠r)(eV:i≠r)(out:eP):wS O r i j a out r=some (.cells [.aj,.aj]):=by unfold wS;rw[w7 _ _ (cg eU),w7 _ _ (cg eV),w6]
theorem Rw(b9:i≠j)(out:eP)(x:Int):((wS O r i j a out).set i (.tail 1 (out.length+1))).set j (.cells [a,.slice (cI out++[[dI x]]) (.tag i)])=wS O r i j a (out++[x]):=by
 unfold wS;rw[Sig.set_comm _ _ _ (cg b9),w8,w8];simp[cI]
theorem XM(b9:i≠j){x:jP}:(((O.set r (.cells [.aj,.aj])).set j x).set i (.tail 1 0)).set j (.cells [a,.slice [] (.tag i)])=wS O r i j a []:=by
 unfold wS;rw[Sig.set_comm _ _ _ (cg b9),w8];simp[cI]
theorem XL(hr:O r=none)(hi:O i=none)(hj:O j=none)(out:eP):Sub O (wS O r i j a out):=by unfold wS;exact(((Sub.refl _).set hr).set hi).set hj
end
def IS(p:aw)(O:Sig)(hl:p.aa.length<=1073741824:=by exact sd)(hp:∀c∈p.aa,c.ae.length<=1073741824:=by exact sd)(eY:∀c∈p.aa,c.ac.length<=1073741824:=by exact sd)(ho:(ownersF p.aa 0).length<=1073741824:=by exact sd):
  ar prog 58 [.agg (A7 p)] O (rS (.agg (Dg (AG p))) O):=by
 refine en func58 ntmps58 ?_;refine gz ?_ [] [2,3];refine je (fun r hr=>?_);refine gz ?_ [] [2,3];refine je (fun j hj=>?_);obtain⟨eU,hj⟩:=B2 hj;refine gz ?_ [] [2,3];refine Fy j 1 1 (w6 ..) rfl fun i hi=>?_;obtain⟨b9,hi⟩:=B2 hi;obtain⟨eV,hi⟩:=B2 hi;simp only[w8,dE,dN];rw[XM b9];have hS:=fun out=>wS_j (O:=O) (r:=r) (i:=i) (j:=j) (a:=sl (cII (p.aa.map (·.ae)))) out;have fh:=fun out=>wS_i (O:=O) (r:=r) (a:=sl (cII (p.aa.map (·.ae)))) b9 out;have fg:=fun out=>wS_r (O:=O) (a:=sl (cII (p.aa.map (·.ae)))) eU eV out;have fb:=fun out x=>Rw (O:=O) (r:=r) (a:=sl (cII (p.aa.map (·.ae)))) b9 out x;have hne:=fun (s:Sig) (o:jP)=>w7 s o (cg b9);refine BO [1,2,3,34] (fun (k:Nat) (out:eP)=>k<=p.aa.length/\out++ownersF (p.aa.drop k) k=ownersF p.aa 0) (fun k _=>[(4,dI k)]) (fun _ out=>wS O r i j (sl (cII (p.aa.map (·.ae)))) out) (fun k _=>p.aa.length-k) (0) ([]) j1 (fun k out hI=>?_);obtain⟨hk,hR⟩:=hI
 by_cases h:k<p.aa.length
 ·rw[A6 h,ownersF]at hR;have fw:=eY _ (aK h);refine gf hS ?_ [] [2,3];refine BO [1,2,3,4,9,10,11,12,13,14,15,34] (fun (q:Nat) (out:eP)=>q<=(p.aa[k]).ac.length/\out++(List.replicate ((p.aa[k]).ac.length-q) ((k:Int)+3)++ownersF (p.aa.drop (k+1)) (k+1))=ownersF p.aa 0) (fun q _=>[(5,dI q)]) (fun _ out=>wS O r i j (sl (cII (p.aa.map (·.ae)))) out) (fun q _=>(p.aa[k]).ac.length-q) (0) (out) (by simpa using hR) (fun q out hI=>?_);obtain⟨hq,hR⟩:=hI
  have hlen:out.length+((p.aa[k]).ac.length-q)<=1073741824:=by
   have:=bn List.length hR;simp only[aC,bY]at this;omega
  by_cases h':q<(p.aa[k]).ac.length
  ·refine gf (gi hS (gi fh (gi hne fb))) ?_ [] [2,3];exact⟨q+1,out++[(k:Int)+3],by refine⟨j0,?_⟩;rw[<-hR];obtain⟨m,hm⟩:∃m,(p.aa[k]).ac.length-q=m+1:=⟨(p.aa[k]).ac.length-q-1,j0⟩;rw[hm,show(p.aa[k]).ac.length-(q+1)=m by omega,dD];simp,td1,wkR⟩
  ·rw[show(p.aa[k]).ac.length-q=0 by omega]at hR;refine gf hS ?_ [] [2,3];exact⟨k+1,out,⟨j0,by simpa using hR⟩,td1,wkR⟩
 ·rw[A9 h,ownersF,bl]at hR;refine gf (gi hS fg) ?_ [] [2,3];refine HQ jB (ds:=[.agg [sl (cII (p.aa.map (·.ae))),.slice (cI out) (.tag i)]]) ?_ (O3 (by rw[hR];simp[AG])) (U':=O) (.set (XL hr hi hj out) hr) ⟨rfl,rfl⟩;simp[f71]
@[reducible,instance] def a58:=fun p O=>ah4 (@IS p O)
def U6(p:aw)(O:Sig)(hl:p.aa.length<=1073741824:=by exact sd)(hp:∀c∈p.aa,c.ae.length<=1073741824:=by exact sd)(eY:∀c∈p.aa,c.ac.length<=1073741824:=by exact sd)(ho:(ownersF p.aa 0).length<=1073741824:=by exact sd):
  ar prog 203 [.agg (A7 p)] O (rS (.agg (Dg (AG p))) O):=by
 refine en func203 ntmps203 ?_;refine gz ?_ [] [2,3];refine je (fun r hr=>?_);refine gz ?_ [] [2,3];refine je (fun j hj=>?_);obtain⟨eU,hj⟩:=B2 hj;refine gz ?_ [] [2,3];refine Fy j 1 1 (w6 ..) rfl fun i hi=>?_;obtain⟨b9,hi⟩:=B2 hi;obtain⟨eV,hi⟩:=B2 hi;simp only[w8,dE,dN];rw[XM b9];have hS:=fun out=>wS_j (O:=O) (r:=r) (i:=i) (j:=j) (a:=sl (cII (p.aa.map (·.ae)))) out;have fh:=fun out=>wS_i (O:=O) (r:=r) (a:=sl (cII (p.aa.map (·.ae)))) b9 out;have fg:=fun out=>wS_r (O:=O) (a:=sl (cII (p.aa.map (·.ae)))) eU eV out;have fb:=fun out x=>Rw (O:=O) (r:=r) (a:=sl (cII (p.aa.map (·.ae)))) b9 out x;have hne:=fun (s:Sig) (o:jP)=>w7 s o (cg b9);refine BO [2,3,10,11,31] (fun (k:Nat) (out:eP)=>k<=p.aa.length/\out++ownersF (p.aa.drop k) k=ownersF p.aa 0) (fun k _=>[(12,dI k)]) (fun _ out=>wS O r i j (sl (cII (p.aa.map (·.ae)))) out) (fun k _=>p.aa.length-k) (0) ([]) j1 (fun k out hI=>?_);obtain⟨hk,hR⟩:=hI
 by_cases h:k<p.aa.length
 ·rw[A6 h,ownersF]at hR;have fw:=eY _ (aK h);refine gf hS ?_ [] [2,3];refine BO ([2,3,4,5]++List.range' 10 10++[30,31]) (fun (q:Nat) (out:eP)=>q<=(p.aa[k]).ac.length/\out++(List.replicate ((p.aa[k]).ac.length-q) ((k:Int)+3)++ownersF (p.aa.drop (k+1)) (k+1))=ownersF p.aa 0) (fun q _=>[(20,dI q)]) (fun _ out=>wS O r i j (sl (cII (p.aa.map (·.ae)))) out) (fun q _=>(p.aa[k]).ac.length-q) (0) (out) (by simpa using hR) (fun q out hI=>?_);obtain⟨hq,hR⟩:=hI
  have hlen:out.length+((p.aa[k]).ac.length-q)<=1073741824:=by
   have:=bn List.length hR;simp only[aC,bY]at this;omega
  by_cases h':q<(p.aa[k]).ac.length
  ·refine gf (gi hS (gi fh (gi hne fb))) ?_ [] [2,3];exact⟨q+1,out++[(k:Int)+3],by refine⟨j0,?_⟩;rw[<-hR];obtain⟨m,hm⟩:∃m,(p.aa[k]).ac.length-q=m+1:=⟨(p.aa[k]).ac.length-q-1,j0⟩;rw[hm,show(p.aa[k]).ac.length-(q+1)=m by omega,dD];simp,td1,wkR⟩
  ·rw[show(p.aa[k]).ac.length-q=0 by omega]at hR;refine gf hS ?_ [] [2,3];exact⟨k+1,out,⟨j0,by simpa using hR⟩,td1,wkR⟩
 ·rw[A9 h,ownersF,bl]at hR;refine gf (gi hS fg) ?_ [] [2,3];refine HQ jB (ds:=[.agg [sl (cII (p.aa.map (·.ae))),.slice (cI out) (.tag i)]]) ?_ (O3 (by rw[hR];simp[AG])) (U':=O) (.set (XL hr hi hj out) hr) ⟨rfl,rfl⟩;simp[f70]
@[reducible,instance] def a203:=fun p O=>ah4 (@U6 p O)
def GQ{α:Type}[DecidableEq α](l:List α)(s:List α):List α:=l.foldl (fun s x=>j6 x s) s
def hasG(cs:List ax):Nat->eP->eP->eP
 |0,_,out=>out
 |n+1,up,out=>match cs[n]? with
  |some c=>if(n:Int)+3∈up then hasG cs n (GQ c.ae up) (out++c.ac) else hasG cs n up out
  |none=>hasG cs n up out
def hasP(p:aw)(c:Int):eP:=Fi (hasG p.aa (c-2).toNat [c] [])
def Db(p:aw):wtL (fun c:ax=>c.ac.length) p.aa<p.wt:=by
 have:∀l:List ax,wtL (fun c:ax=>c.ac.length) l<=wtL ax.wt l:=fun l=>by
  induction l with
  |nil=>exact bU _
  |cons c l ih=>simp only[wtL,ax.wt];omega
 have:=this p.aa;unfold aw.wt;omega
def IL{α:Type}(f:α->Nat)(l:List α)(n:Nat)(h:n<l.length):wtL f (l.take (n+1))=wtL f (l.take n)+f l[n]:=by
 rw[aU h,O0];simp[wtL]
def Fe{α:Type}(f:α->Nat)(l:List α)(n:Nat):wtL f (l.take n)<=wtL f l:=by
 have:=O0 f (l.take n) (l.drop n);rw[cf]at this;omega
def Wm{O:Sig}{st:MR}{l:eP}(h:mOK O 1 st (cI l)):mOK O 1 st (cI (Fi l)):=by
 cases st with
 |none=>
  have:cI l=[]:=h;have:l=[]:=by simpa[cI] using this
  subst this;rw[show Fi []=[] by simp[Fi]];exact h
 |some x=>
  obtain⟨h1,h2,h3,h4⟩:=h;have e:=Hg l;refine⟨h1,?_,by simpa[e] using h3,Ck _⟩;rw[aC,Aj (Ck _),K7]at h2⊢;omega
def Um(p:aw)(c:Int)(O:Sig)(hp:p.wt<=1073741824:=by exact sd)(hc:3<=c:=by exact sd)(fM:c<3+p.aa.length:=by exact sd):ar prog 173 [.agg (A7 p),dI c] O (rS (sl (cI (hasP p c))) O):=by
 obtain⟨p1,p2,p3,p4,p5,p6,p7⟩:=p.wt_le;have ws:=Db p;refine en func173 ntmps173 ?_;refine gz ?_;refine newSI (fun i hi=>?_);refine gz ?_;refine Qt [2,4,5,45,46,47,48] (fun (n:Nat) (up:eP) (out:eP) (st:MR)=>n<=p.aa.length/\out.length+wtL (fun c:ax=>c.ac.length) (p.aa.take n)<=1073741824/\mOK (O.set i (.map (eSI up))) 1 st (cI out)/\Fi (hasG p.aa n up out)=hasP p c) (fun n _ out st=>[(7,dI (n+2)),(6,mD st out.length)]) (fun _ up out st=>mS (O.set i (.map (eSI up))) st (cI out)) (fun n _ _ _=>n) ((c-2).toNat) ([c]) ([]) (none) (by(refine⟨j0,?_,rfl,rfl⟩;have:=Fe (fun c:ax=>c.ac.length) p.aa (c-2).toNat;simp;omega)) (fun n up out st hI=>?_);obtain⟨hn,hlen,hm,hR⟩:=hI;have hT:=fun k (h:k<p.aa.length)=>IL (fun c:ax=>c.ac.length) p.aa k h;obtain⟨fJ,fk,fj⟩:=mS_at hm;rcases n with _|n
 ·rw[hasG]at hR;refine gz ?_;refine A3 (TT out st _ hm (by simp[wtL]at hlen;omega)) (fun d U' hr=>?_);obtain⟨fA,rfl⟩:=hr;cases fA;have eX:=Wm hm;rw[<-Hg out];rw[hR]at eX⊢;refine mfr 6 ?_ (hm:=eX);refine gz ?_;exact fe1 (d':=sl (cI (hasP p c))) trivial
 ·have h:n<p.aa.length:=by omega
  have fN:=hT n h;have hw:=p5 n h;have fI:(p.aa[n]).wt=1+(p.aa[n]).ae.length+(p.aa[n]).ac.length+(p.aa[n]).ah.length:=rfl;rw[hasG,aD h]at hR
  by_cases d7:(n:Int)+3∈up
  ·simp only[d7,bu]at hR;have e3:(n:Int)+1+2=n+3:=by omega
   have fi:((n:Int)+1+2-3).toNat=n:=by omega
   refine gf (gi fk (gi fj (gi d7 (gi e3 fi)))) ?_;refine mappI (fun st' eX=>?_);obtain⟨fc,d9,d8⟩:=mS_at eX;refine gf (gi d9 (gi d8 (gi d7 (gi e3 fi)))) ?_;refine Bz ([2,4,5,6,7]++List.range' 14 24++[45,46,47,48]) (fun (k:Nat)=>k<=(p.aa[n]).ae.length) (fun k=>[(38,dI k)]) (fun k=>mS (O.set i (.map (eSI (GQ ((p.aa[n]).ae.take k) up)))) st' (cI (out++(p.aa[n]).ac))) (fun k=>(p.aa[n]).ae.length-k) (0) td3 (fun k hI=>?_)
   by_cases hk:k<(p.aa[n]).ae.length
   ·have hs:GQ ((p.aa[n]).ae.take (k+1)) up=j6 (p.aa[n]).ae[k] (GQ ((p.aa[n]).ae.take k) up):=by unfold GQ;rw[aU hk,List.foldl_append];rfl
    refine gf (gi d9 d8) ?_;rw[<-hs];exact⟨k+1,td2,td1,wkR⟩
   ·have hs:(p.aa[n]).ae.take k=(p.aa[n]).ae:=ck j0;rw[hs];have e2:(n:Int)+3-1=n+2:=by omega
    refine gf (gi e3 e2) ?_;exact⟨n,GQ (p.aa[n]).ae up,out++(p.aa[n]).ac,st',⟨j0,by rw[aC];omega,fc _,hR⟩,td1,wkR⟩
  ·simp only[d7,bc]at hR;have e3:(n:Int)+1+2=n+3:=by omega
   have e2:(n:Int)+3-1=n+2:=by omega
   refine gf (gi fk (gi fj (gi d7 (gi e3 e2)))) ?_;exact⟨n,up,out,st,⟨j0,j0,hm,hR⟩,td1,wkR⟩
@[reducible,instance] def a173:=fun p c O=>ah3 (@Um p c O)
end Go.DL
namespace Go.DL
open Go.Proofs.Tryz
open Go Go.Proofs
set_option maxHeartbeats 4000000
def Tp(l:eR)(o:Own)(O:Sig):
  ar prog 337 [.slice l o] O (rS (.slice l .clip) O):=by
 refine en func337 ntmps337 ?_;refine gz ?_;exact fe1 trivial
@[reducible,instance] def a337:=fun l o O=>ah0 (@Tp l o O)
def Pq{α:Type}[DecidableEq α](s:α): ∀(l:List α) (k:Nat),(0<=jj s l k) ↔ s∈l
 |[],_=>by simp[jj]
 | x::r,k=>by
  rw[jj]
  by_cases h:x=s
  ·simp[h]
  ·rw[aE h,Pq s r (k+1)];simp[cg h]
end Go.DL
