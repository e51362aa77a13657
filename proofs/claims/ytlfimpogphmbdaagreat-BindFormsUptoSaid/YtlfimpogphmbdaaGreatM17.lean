/- Part of the proof that the last text ends. -/
import Derived.Test.YtlfimpogphmbdaaGreatM16
import Derived.Test.YtlfimpogphmbdaaGreatM11
import Derived.Test.YtlfimpogphmbdaaGreatM12
set_option linter.all false
namespace Go.DL
open Go.Proofs.Tryz
open Go Go.Proofs
def o3:OT:=[(3,false,[(0,1),(2,1),(1,1),(3,16)],[1,3,8,16])]
def o7:OT:=[(20,false,[(0,18)],[6,15])]
def o15:OT:=[(6,false,[(0,9)],[])]
def o16:OT:=[(4,false,[(0,49)],[12,13,17,18])]
def o19:OT:=[(6,true,[(0,14)],[10,11,12,13]),(12,true,[(0,14)],[10,11,12,13]),(18,true,[(0,14)],[10,11,12,13])]
def o22:OT:=[(6,false,[(0,12)],[10]),(11,false,[(0,12)],[10])]
def o27:OT:=[(6,false,[(0,9)],[])]
def o44:OT:=[(18,false,[(0,31),(32,6),(31,1),(38,2)],[25,31]),(20,false,[(0,11),(12,1),(11,1),(13,2)],[11,13])]
def o48:OT:=[(4,true,[(0,21)],[12,14,15,17,18,20]),(5,true,[(0,18)],[9,13,17]),(6,true,[(0,9)],[4,8]),(10,true,[(0,3),(4,3),(3,1),(7,3)],[3,8,9]),(12,true,[(0,18),(19,1),(18,1),(20,7)],[18,22,26]),(16,true,[(0,7),(8,5),(7,1),(13,9)],[7,13,17,21])]
def o52:OT:=[(3,true,[(0,11)],[6,9,10])]
def o55:OT:=[(6,false,[(0,12)],[10])]
def o56:OT:=[(2,true,[(0,3),(4,2),(7,3),(3,1),(6,1),(10,5)],[3,6,10,13,14]),(8,true,[(0,10)],[9]),(15,true,[(0,17),(18,4),(17,1),(22,6)],[17,22,25,27])]
def o57:OT:=[(1,false,[(0,4),(5,2),(8,3),(4,1),(7,1),(11,4)],[4,7,11]),(11,true,[(0,13)],[8,10,12]),(15,true,[(0,17)],[14,16]),(19,true,[(0,25)],[22,24]),(27,true,[(0,17),(18,4),(17,1),(22,6)],[17,22,25,27])]
def o58:OT:=[(6,false,[(0,12)],[10])]
def o59:OT:=[(6,false,[(0,11)],[])]
def o79:OT:=[(14,true,[(0,8),(9,6),(8,1),(15,3)],[3,8,17]),(15,true,[(0,18)],[17])]
def o82:OT:=[(9,false,[(0,10)],[7])]
def o83:OT:=[(13,true,[(0,9)],[6,8])]
def o90:OT:=[(31,false,[(0,35)],[23,32]),(36,false,[(0,11)],[])]
def o93:OT:=[(5,false,[(0,23)],[5,11]),(13,false,[(0,13)],[11])]
def o106:OT:=[(1,true,[(0,3),(4,3),(8,3),(3,1),(7,1),(11,3)],[3,7,11,13])]
def o111:OT:=[(1,true,[(0,11)],[10])]
def o112:OT:=[(8,true,[(0,10)],[9]),(10,true,[(0,10)],[9]),(13,true,[(0,10)],[9]),(14,true,[(0,15)],[10,14]),(25,true,[(0,12)],[8,11])]
def o113:OT:=[(1,true,[(0,20),(21,4),(20,1),(25,3)],[20,25,27])]
def o119:OT:=[(18,true,[(0,10)],[8,9]),(20,true,[(0,11)],[7,10])]
def o120:OT:=[(14,false,[(0,10)],[8])]
def o125:OT:=[(3,true,[(0,4),(5,1),(4,1),(6,4)],[4,6,8,9]),(6,true,[(0,11)],[6,10])]
def o126:OT:=[(5,true,[(0,15)],[14]),(17,true,[(0,13)],[12]),(18,false,[(0,16)],[])]
def o136:OT:=[(1,true,[(0,3),(4,3),(8,3),(3,1),(7,1),(11,3)],[3,7,11,13])]
def o141:OT:=[(1,true,[(0,12)],[11])]
def o143:OT:=[(1,true,[(0,11)],[7,9,10]),(4,true,[(0,10)],[9])]
def o144:OT:=[(10,true,[(0,13)],[12]),(12,true,[(0,13)],[12]),(15,true,[(0,13)],[12]),(17,true,[(0,12)],[11]),(24,false,[(0,1),(2,3),(1,1),(5,2)],[1,5]),(25,true,[(0,10)],[5,7,9])]
def o146:OT:=[(10,true,[(0,17)],[14,16]),(14,true,[(0,14)],[9,11,13])]
def o147:OT:=[(10,true,[(0,10)],[9]),(12,true,[(0,10)],[9]),(25,false,[(0,1),(2,3),(1,1),(5,2)],[1,5]),(26,true,[(0,15)],[10,12,14])]
def o148:OT:=[(6,false,[(0,9)],[])]
def o149:OT:=[(6,false,[(0,12)],[10])]
def o175:OT:=[(11,false,[(0,36)],[34])]
def o176:OT:=[(1,false,[(0,13)],[10])]
def o184:OT:=[(2,true,[(0,7)],[6])]
def o185:OT:=[(31,true,[(0,8)],[7])]
def o187:OT:=[(1,true,[(0,12)],[7,11]),(8,true,[(0,8)],[7]),(11,false,[(0,12)],[])]
def o190:OT:=[(1,true,[(0,12)],[7,11]),(9,false,[(0,13)],[])]
def o191:OT:=[(19,true,[(0,6)],[3,4,5])]
def o200:OT:=[(1,true,[(0,7)],[6])]
def o202:OT:=[(6,true,[(0,8),(9,1),(8,1),(10,2)],[8,10,11])]
def o203:OT:=[(4,true,[(0,8)],[7])]
def o206:OT:=[(10,true,[(0,9)],[6,8])]
def o211:OT:=[(26,false,[(0,9)],[7]),(31,false,[(0,11)],[9])]
def o228:OT:=[(7,true,[(0,3),(4,2),(3,1),(6,2)],[3,7])]
def o247:OT:=[(11,false,[(0,11)],[9])]
def o250:OT:=[(6,false,[(0,15)],[]),(8,false,[(0,15)],[]),(9,false,[(0,3),(4,5),(10,3),(3,1),(9,1),(13,2)],[3,9,13])]
def o272:OT:=[(2,false,[(0,27)],[24])]
def o274:OT:=[(4,false,[(1,3),(0,1),(4,7)],[0,8,9])]
def o306:OT:=[(6,false,[(0,2),(3,2),(2,1),(5,3)],[2,5,6])]
section
variable {P:Program}{ro:Option Nat}{n:Nat}{ops:Array Oper}{N:Nat}{S0:Sig}{Q:DX->St->Prop}{df:List DDf}{rest:List Oper}{O Sr:List (Nat×D)}{V:Sig}{t:Nat}{ty:TypeId}{pos:String}{after:Array Edge}{l:List (Bool×Oper)}{d:D}{e:Bool}
theorem MM{P:Program}{fop:Operand}{args:Array Operand}{ats:Array TypeId}{f:Nat}{first cap us bs:List D}(hl:A5 O (A9 (fop::args.toList))=some Sr)(hf:ev Sr fop=.func (.func f) first cap)(ha:first++args.toList.map (ev Sr)++cap=us)(hb:bs=us\/bs=us.map D.plain)
  (h:∀S',Sub S0 S'->DCall P f bs S' fun x S''=>x=.ret d/\Sub S' S'') (htn:decide (t<n)=true) (k:MO P ro n ops N S0 Q df l ((t,d)::O) V) :
  MO P ro n ops N S0 Q df ((e,⟨some t,(cv fop args ats),ty,pos,after,none⟩)::l) O V:=by
 have hx:∀x∈fop::args.toList,ev Sr x=ev O x:=fun x hx=>C4 fun t ht=>AQ hl t (Bc (by rw[<-ht];exact hx))
 have hop:∀x∈((cv fop args ats)).operands,ev (only (Oper.looksAt ops ⟨some t,(cv fop args ats),ty,pos,after,none⟩) O) x=ev O x:=fun x hx=>Cd (o:=⟨some t,(cv fop args ats),ty,pos,after,none⟩) hx
 refine Ph d htn rfl (by rw[B5];rfl) (fun S' hS' ro' df' =>?_) k
 refine Gb (first:=first) (cap:=cap) (f:=f) ?_ ?_ (h S' hS') ?_ htn ?_ ?_
 ·show AJ ops (only _ O) _=some true
  rw[B5];rfl
 ·rw[hop fop (by simp[Op.operands,Call.operands]), <-hx fop (by simp)];exact hf
 ·simp only
  rw[show args.toList.map (ev (only (Oper.looksAt ops ⟨some t,(cv fop args ats),ty,pos,after,none⟩) O))=args.toList.map (ev Sr) from List.map_congr_left fun x hm=>by
   rw[hop x (by simp at hm;simp[Op.operands,Call.operands,hm]), <-hx x (by simp[hm])],ha]
  rcases hb with rfl|rfl
  ·exact Ec _
  ·exact Fp _
 ·rintro d' S'' ⟨h1,h2⟩
  cases h1
  exact AL ⟨rfl,by simp[putD,Aa],h2⟩
 ·rintro d' S'' ⟨h1,h2⟩
  cases h1
theorem moQR{fop:Operand}{args:Array Operand}{ats:Array TypeId}{f:Nat}{first cap us:List D}{H:Prop}(k1:MO prog ro n ops N S0 Q df l ((t,d)::O) V)(hl:A5 O (A9 (fop::args.toList))=some Sr:=by rfl)(hf:ev Sr fop=.func (.func f) first cap:=by rfl)(ha:first++args.toList.map (ev Sr)++cap=us:=by(simp(disch:=first|omega|assumption) [Ao,big1,big2,w8]<;>(try simp only[Bn,Bo,AX,Bm,AC,B0,AZ,AY,AW,AB,AV,AU,AT])<;>with_unfolding_all rfl))(hs:∀S',Ans f us S' H d:=by intro S';infer_instance)(hH:H:=by(and_intros<;>first|trivial|assumption|omega|(simp;done)|(simp;omega)))(htn:decide (t<n)=true:=by exact tdR):MO prog ro n ops N S0 Q df ((e,⟨some t,(cv fop args ats),ty,pos,after,none⟩)::l) O V:=MM hl hf ha (.inl rfl) (fun S' _=>by have h:=(hs S').call hH;exact h.mono fun x S'' hx=>⟨hx.1,hx.2 ▸ Sub.refl _⟩) htn k1
theorem Vv{fop:Operand}{args:Array Operand}{ats:Array TypeId}{f:Nat}{first cap us bs:List D}(h:∀S',Sub S0 S'->DCall prog f bs S' fun x S''=>x=.ret d/\Sub S' S'')(k1:MO prog ro n ops N S0 Q df l ((t,d)::O) V)(hl:A5 O (A9 (fop::args.toList))=some Sr:=by rfl)(hf:ev Sr fop=.func (.func f) first cap:=by rfl)(ha:first++args.toList.map (ev Sr)++cap=us:=by(simp(disch:=first|omega|assumption) [Ao,big1,big2,w8]<;>(try simp only[Bn,Bo,AX,Bm,AC,B0,AZ,AY,AW,AB,AV,AU,AT])<;>with_unfolding_all rfl))(hp:bs=us:=by exact tdR)(htn:decide (t<n)=true:=by exact tdR):MO prog ro n ops N S0 Q df ((e,⟨some t,(cv fop args ats),ty,pos,after,none⟩)::l) O V:=MM hl hf ha (.inl hp) h htn k1
theorem mixA{lo:List Oper}{id:Nat}(ord E:List Nat){lp:List (Bool×Oper)}(h:MO2 prog ro n lo.toArray 334 V Q df tab lp O V)(hB:HM lo.toArray E ord=true:=by kernel_rfl)(hA:Rw tab n lo.toArray=true:=by exact tdR)(hl:GB lo E ord=some lp:=by exact tdR):DWp prog ro n (.region id lo.toArray true) Q ⟨O,V,df⟩ :=
 Wq Ad Ak mixed ord E V hB hA (Sub.refl _) hl h
end
section
variable {ro:Option Nat}{n:Nat}{ops:Array Oper}{N:Nat}{S0:Sig}{Q:DX->St->Prop}{df:List DDf}{O Sr:List (Nat×D)}{V:Sig}{t:Nat}{ty:TypeId}{pos:String}{after:Array Edge}{e1 u1:Bool}{l:List (Bool×Bool×Oper)}
theorem mixU{lo:List Oper}{id:Nat}(ord E U:List Nat){lp:List (Bool×Bool×Oper)}(h:MO3 prog ro n lo.toArray 334 V Q df tab lp O V)(hB:HL lo.toArray E U ord=true:=by kernel_rfl)(hA:Rw tab n lo.toArray=true:=by exact tdR)(hl:RV lo E U ord=some lp:=by exact tdR):DWp prog ro n (.region id lo.toArray true) Q ⟨O,V,df⟩ :=
 Wn Ad Ak mixed ord E U V hB hA (Sub.refl _) hl h
theorem u3R(d:D){op:Op}(h:MO3 prog ro n ops N S0 Q df tab l ((t,d)::O) V)(hr:E4 op=true:=by rfl)(htn:decide (t<n)=true:=by exact tdR)(hl:A5 O (A9 op.operands.toList)=some Sr:=by exact tdR)(hd:dopX tab Sr S0 op=some d:=by first|with_unfolding_all rfl|(simp;done)|(simp;rfl)):MO3 prog ro n ops N S0 Q df tab ((e1,u1,⟨some t,op,ty,pos,after,none⟩)::l) O V :=
 Vz Ad hr htn hl hd h
theorem u3A(z:List D){T:Nat}(h:∀k,V k=none->MO3 prog ro n ops N S0 Q df tab l ((t,.ptr k 0)::O) (V.set k (.cells z)))(hz:(tab T).zero=z:=by(simp<;>rfl)):MO3 prog ro n ops N S0 Q df tab ((e1,u1,⟨some t,.alloc T,ty,pos,after,none⟩)::l) O V:=by
 subst hz;exact Sx h
theorem u3N(sz m:Nat){s x:Operand}{T T' e e':Nat}{new:List (List D)}(h:∀i,V i=none->MO3 prog ro n ops N S0 Q df tab l ((t,.slice new (.tag i))::O) (V.set i (.tail sz m)))(hl:A5 O (A9 [s,x])=some Sr:=by exact tdR)(hk:(tab T).k=.slice e:=by(simp<;>rfl))(hk':(tab T').k=.slice e':=by(simp<;>rfl))(he:A6 (tab e).k=false:=by simp)
  (h1:ev Sr s=.nils:=by exact tdR) (h2:esOf (ev Sr x)=some new:=by(simp<;>with_unfolding_all rfl)) (hlen:∀c∈new,c.length=(tab e).size:=by first|exact BQ _|exact Db _|exact BJ _|simp)
  (hb:new.length*(tab e).bytes<=140737488355328:=by first|(simp;done)|(simp;omega)) (hm:new.length<=9223372036854775807:=by first|(simp;done)|(simp;omega)) (htn:decide (t<n)=true:=by exact tdR) (hz:(tab e).size=sz:=by(simp<;>rfl)) (hn:new.length=m:=by simp) :
  MO3 prog ro n ops N S0 Q df tab ((e1,true,⟨some t,(cA s x T T'),ty,pos,after,none⟩)::l) O V:=by
 subst hz hn
 refine mo3_u rfl (.inl ⟨fun i => .slice new (.tag i),.tail (tab e).size new.length,fun τ=>⟨htn,rfl,?_⟩,h⟩)
 obtain⟨k1,k2⟩:=HY (T:=T) (T':=T') hl fun _ hx=>Cd (ops:=ops) (o:=⟨some t,(cA s x T T'),ty,pos,after,none⟩) hx
 exact D3 Ad rfl (by simpa using htn) hk hk' he (by rw[k1];exact h1) (by rw[k2];exact h2) hlen hb hm (fun i hi=>AL ⟨rfl,i,hi,by simp[Aa],rfl⟩)
theorem u3E(i:Nat){y x:DObj}{d:D}{op:Op}(hj:V i=some y)(h0:S0 i=none)(h:MO3 prog ro n ops N S0 Q df tab l ((t,d)::O) (V.set i x))(hl:A5 O (A9 op.operands.toList)=some Sr:=by exact tdR)
  (he:∀τ:Sig,τ i=some y->eopD tab Sr τ op=some (d,τ.set i x):=by(intro τ hO;simp(disch:=first|omega|assumption) [Ao,big1,big2,hO]<;>first|rfl|(and_intros<;>rfl)|omega)) (hn:isAl ⟨some t,op,ty,pos,after,none⟩=none:=by rfl) (htn:decide (t<n)=true:=by exact tdR):MO3 prog ro n ops N S0 Q df tab ((e1,true,⟨some t,op,ty,pos,after,none⟩)::l) O V:=by
 refine mo3_u hn (.inr ⟨i,y,x,d,hj,h0,fun τ hO=>⟨htn,rfl,?_⟩,h⟩)
 refine F6 Ad rfl (by rw[Bt (U':=O) fun x hx=>Cd (o:=⟨some t,op,ty,pos,after,none⟩) hx, <-Bt (C3 hl)];exact he τ hO) htn (AL ⟨rfl,by simp[Aa,putD],rfl⟩)
theorem u3M(h:MO prog ro n ops N S0 Q df (l.map fun p=>(p.1,p.2.2)) O V)(hl:(l.all fun p => !(isAl p.2.2).isSome)=true:=by rfl):MO3 prog ro n ops N S0 Q df tab l O V:=J9 hl h
end
section
variable {ro:Option Nat}{n:Nat}{ops:Array Oper}{N:Nat}{S0:Sig}{Q:DX->St->Prop}{df:List DDf}{O Sr:List (Nat×D)}{V:Sig}{t:Nat}{ty:TypeId}{pos:String}{after:Array Edge}{e1 c1 k1:Bool}{l:List (Bool×Bool×Bool×Oper)}
theorem mixK{lo:List Oper}{id:Nat}(ord E C K:List Nat)(S0:Sig)(hC:Sub S0 V){lp:List (Bool×Bool×Bool×Oper)}(h:MO4 prog ro n lo.toArray 334 Q df lp S0 O V)(hB:HK lo.toArray E C K ord=true:=by kernel_rfl)(hl:RW lo E C K ord=some lp:=by exact tdR):DWp prog ro n (.region id lo.toArray true) Q ⟨O,V,df⟩ :=
 Wp Ak mixed ord E C K S0 hB hC hl h
theorem k4R(d:D){op:Op}(h:MO4 prog ro n ops N Q df l S0 ((t,d)::O) V)(hr:E4 op=true:=by rfl)(htn:decide (t<n)=true:=by exact tdR)(hl:A5 O (A9 op.operands.toList)=some Sr:=by exact tdR)(hd:dopX tab Sr (if c1=true then S0 else fun _=>none) op=some d:=by first|with_unfolding_all rfl|(simp;done)|(simp;rfl)):MO4 prog ro n ops N Q df ((e1,c1,k1,⟨some t,op,ty,pos,after,none⟩)::l) S0 O V :=
 Vy Ad hr htn hl hd h
theorem k4E(S1:Sig){op:Op}{d:D}{S':Sig}(hC:Sub S1 S')(h:MO4 prog ro n ops N Q df l S1 ((t,d)::O) S')(hl:A5 O (A9 op.operands.toList)=some Sr:=by exact tdR)(he:eopD tab Sr V op=some (d,S'))(hk:k1=false->S1=S0:=by first|(intro;rfl)|exact fun h=>absurd h (by decide))(htn:decide (t<n)=true:=by exact tdR):MO4 prog ro n ops N Q df ((true,c1,k1,⟨some t,op,ty,pos,after,none⟩)::l) S0 O V :=
 Sw (o:=⟨some t,op,ty,pos,after,none⟩) Ad S1 htn rfl ((Bt (C3 hl)) ▸ he) hC hk h
theorem k4S(S1:Sig){op:Op}{d:D}{S':Sig}(hC:Sub S1 S')(h:MO4 prog ro n ops N Q df l S1 O S')(hl:A5 O (A9 op.operands.toList)=some Sr:=by exact tdR)(he:eopD tab Sr V op=some (d,S'))(hk:k1=false->S1=S0:=by first|(intro;rfl)|exact fun h=>absurd h (by decide)):MO4 prog ro n ops N Q df ((true,c1,k1,⟨none,op,ty,pos,after,none⟩)::l) S0 O V :=
 Sw (o:=⟨none,op,ty,pos,after,none⟩) Ad S1 rfl rfl ((Bt (C3 hl)) ▸ he) hC hk h
theorem k4N{Q':DX->St->Prop}(h:Q' .normal ⟨O,V,df⟩):MO4 prog ro n ops N Q' df [] S0 O V:=AL h
end
end Go.DL
namespace Go.DL
open Go.Proofs.Tryz
open Go Go.Proofs
set_option maxHeartbeats 8000000
def idxG{α:Type}[DecidableEq α](s:α):List α->Nat->Int
 |[],_ => -1
 |x::r,k=>if x=s then k else idxG s r (k+1)
theorem Uu(l:List Str)(s:Str)(o:Own)(V:Sig)(hl:l.length<=1073741824:=by exact sd):
  DCall prog 130 [.slice (cS l) o,.str s] V (rS (dI (idxG s l 0)) V):=by
 refine en func130 ntmps130 ?_
 refine gz ?_
 refine B2 [0,1] (fun (k:Nat)=>k<=l.length/\idxG s l 0=idxG s (l.drop k) k) (fun k=>[(5,dI k)]) (fun _=>V) (fun k=>l.length-k) (0) (by simp) (fun k hI =>?_)
 obtain⟨hk,hR⟩:=hI
 by_cases h:k<l.length
 ·rw[A0 h,idxG]at hR
  repeat' first|refine gz ?_|apply gy<;>intro hh
  ·exact fe1 (gi hR hh)
  ·exact⟨k+1,⟨by omega,by rw[hR,if_neg hh]⟩,td1,wkR⟩
 ·rw[A1 h,idxG]at hR
  refine gz ?_
  exact fe1 hR
@[reducible,instance] def a130:=fun l s o V=>ah1 (@Uu l s o V)
theorem Ua(l:List Int)(s:Int)(o:Own)(V:Sig)(hl:l.length<=1073741824:=by exact sd):
  DCall prog 174 [.slice (cI l) o,dI s] V (rS (dI (idxG s l 0)) V):=by
 refine en func174 ntmps174 ?_
 refine gz ?_
 refine B2 [0,1,7] (fun (k:Nat)=>k<=l.length/\idxG s l 0=idxG s (l.drop k) k) (fun k=>[(8,dI k)]) (fun _=>V) (fun k=>l.length-k) (0) (by simp) (fun k hI =>?_)
 obtain⟨hk,hR⟩:=hI
 by_cases h:k<l.length
 ·rw[A0 h,idxG]at hR
  repeat' first|refine gz ?_|apply gy<;>intro hh
  ·rw[if_pos hh.symm]at hR
   exact fe1 hR
  ·exact⟨k+1,⟨by omega,by rw[hR,if_neg (fun e=>hh e.symm)]⟩,td1,wkR⟩
 ·rw[A1 h,idxG]at hR
  refine gz ?_
  exact fe1 hR
@[reducible,instance] def a174:=fun l s o V=>ah1 (@Ua l s o V)
theorem VT(l:List Int)(s:Int)(o:Own)(V:Sig)(hl:l.length<=1073741824:=by exact sd):
  DCall prog 89 [.slice (cI l) o,dI s] V (rS (.bool (decide (0<=idxG s l 0))) V):=by
 refine en func89 ntmps89 ?_
 refine gz ?_
 exact fe1 trivial
theorem We(l:List (List D))(o:Own)(V:Sig):
  DCall prog 43 [.slice l o] V (rS (.slice l .clip) V):=by
 refine en func43 ntmps43 ?_
 refine gz ?_
 exact fe1 trivial
@[reducible,instance] def a43:=fun l o V=>ah0 (@We l o V)
theorem PL(a b:List Int)(o o':Own)(V:Sig)(hl:a.length<=1073741824:=by exact sd):
  DCall prog 15 [.slice (cI a) o,.slice (cI b) o'] V (rS (.bool (a==b)) V):=by
 refine en func15 ntmps15 ?_
 by_cases hab:a.length=b.length
 ·refine gz ?_ o15
  refine B2 [0,1,12] (fun (k:Nat)=>k<=a.length/\(a=b ↔ a.drop k=b.drop k)) (fun k=>[(13,dI k)]) (fun _=>V) (fun k=>a.length-k) (0) (by simp) (fun k hI =>?_)
  obtain⟨hk,hR⟩:=hI
  by_cases h:k<a.length
  ·rw[A0 h,A0 (l:=b) (by omega),List.cons.injEq]at hR
   repeat' first|refine gz ?_ o15|apply gy<;>intro hh
   ·have:a≠b:=fun e=>hh (hR.1 e).1
    exact fe1 this
   ·exact⟨k+1,⟨by omega,by rw[hR];simp_all⟩,td1,wkR⟩
  ·have:a=b:=hR.2 (by rw[A1 (by omega),A1 (by omega)])
   refine gz ?_ o15
   exact fe1 this
 ·have:a≠b:=fun e=>hab (by rw[e])
  refine gz ?_ o15
  exact fe1 this
@[reducible,instance] def a15:=fun a b o o' V=>ah1 (@PL a b o o' V)
theorem Ul(a b:List Str)(o o':Own)(V:Sig)(hl:a.length<=1073741824:=by exact sd):
  DCall prog 148 [.slice (cS a) o,.slice (cS b) o'] V (rS (.bool (a==b)) V):=by
 refine en func148 ntmps148 ?_
 by_cases hab:a.length=b.length
 ·refine gz ?_ o148
  refine B2 [0,1] (fun (k:Nat)=>k<=a.length/\(a=b ↔ a.drop k=b.drop k)) (fun k=>[(5,dI k)]) (fun _=>V) (fun k=>a.length-k) (0) (by simp) (fun k hI =>?_)
  obtain⟨hk,hR⟩:=hI
  by_cases h:k<a.length
  ·rw[A0 h,A0 (l:=b) (by omega),List.cons.injEq]at hR
   repeat' first|refine gz ?_ o148|apply gy<;>intro hh
   ·have:a≠b:=fun e=>hh (hR.1 e).1
    exact fe1 this
   ·exact⟨k+1,⟨by omega,by rw[hR];simp_all⟩,td1,wkR⟩
  ·have:a=b:=hR.2 (by rw[A1 (by omega),A1 (by omega)])
   refine gz ?_ o148
   exact fe1 this
 ·have:a≠b:=fun e=>hab (by rw[e])
  refine gz ?_ o148
  exact fe1 this
@[reducible,instance] def a148:=fun a b o o' V=>ah1 (@Ul a b o o' V)
theorem Ho(l:List (List D))(o:Own)(V:Sig)(hl:l.length<=1073741824:=by exact sd)(hs:∀c∈l,c.length=1:=by exact sd):
  DCall prog 118 [.slice l o] V (rS (sl l) V):=by
 refine en func118 ntmps118 ?_
 refine gz ?_
 refine isN (fun b hb =>?_)
 repeat' first|refine gz ?_|apply gy<;>intro hh
 ·exact fe1 (d':=sl []) (hb hh)
 ·by_cases h:l=[]
  ·refine app0 ?_
   refine gz ?_
   exact fe1 (d':=sl []) h
  ·refine appC (fun i hi =>?_) (hne:=by simp[h]) (hlen':=hs)
   refine gz ?_
   exact finS (S':=V) (es:=l) ⟨rfl,rfl⟩ ((Sub.refl _).set hi)
theorem Wg(l:List Int)(s:Int)(o:Own)(V:Sig)(hl:l.length<=1073741824:=by exact sd):
  DCall prog 32 [.slice (cI l) o,dI s] V (rS (.bool (l.contains s)) V):=by
 refine en func32 ntmps32 ?_
 refine gz ?_
 refine B2 [0,1] (fun (k:Nat)=>k<=l.length/\(s∈l ↔ s∈l.drop k)) (fun k=>[(5,dI k)]) (fun _=>V) (fun k=>l.length-k) (0) (by simp) (fun k hI =>?_)
 obtain⟨hk,hR⟩:=hI
 by_cases h:k<l.length
 ·rw[A0 h,List.mem_cons]at hR
  repeat' first|refine gz ?_|apply gy<;>intro hh
  ·have:=hR.2 (.inl hh.symm)
   exact fe1 this
  ·exact⟨k+1,⟨by omega,by rw[hR];exact⟨fun e=>e.resolve_left fun e=>hh e.symm,.inr⟩⟩,td1,wkR⟩
 ·rw[A1 h]at hR
  refine gz ?_
  exact fe1 hR
def inB(n:Int):Bool:=decide (-1000000000<=n)&&decide (n<=1000000000)
theorem Uf(n:Int)(V:Sig):DCall prog 168 [dI n] V (rS (.bool (inB n)) V):=by
 refine en func168 ntmps168 ?_
 by_cases h : -1000000000<=n
 ·refine gz ?_
  (refine fin1 (S':=V) ?_;exact⟨by first|rfl|(simp[inB,h];done)|(simp_all [inB,h];done)|(rw[A7,Bool.eq_iff_iff];simp_all [inB,h]<;>omega),rfl⟩)
 ·refine gz ?_
  (refine fin1 (S':=V) ?_;exact⟨by first|rfl|(simp[inB,h];done)|(simp_all [inB,h];done)|(rw[A7,Bool.eq_iff_iff];simp_all [inB,h]<;>omega),rfl⟩)
@[reducible,instance] def a168:=fun n V=>ah0 (@Uf n V)
theorem U7(n:Int)(V:Sig):DCall prog 177 [dI n] V (rS (.bool (inB n)) V):=by
 refine en func177 ntmps177 ?_
 by_cases h : -1000000000<=n
 ·refine gz ?_
  (refine fin1 (S':=V) ?_;exact⟨by first|rfl|(simp[inB,h];done)|(simp_all [inB,h];done)|(rw[A7,Bool.eq_iff_iff];simp_all [inB,h]<;>omega),rfl⟩)
 ·refine gz ?_
  (refine fin1 (S':=V) ?_;exact⟨by first|rfl|(simp[inB,h];done)|(simp_all [inB,h];done)|(rw[A7,Bool.eq_iff_iff];simp_all [inB,h]<;>omega),rfl⟩)
@[reducible,instance] def a177:=fun n V=>ah0 (@U7 n V)
theorem VQ(n:Int)(V:Sig):DCall prog 94 [dI n] V (rS (.bool (decide (n=1\/n=4))) V):=by
 refine en func94 ntmps94 ?_
 by_cases h:n=1
 ·refine gz ?_
  exact fe1 h
 ·refine gz ?_
  exact fe1 h
@[reducible,instance] def a94:=fun n V=>ah0 (@VQ n V)
mutual
def Fact.size:Fact->Nat
 |.mk _ _ _ _ _ k=>1+Fact.sizes k
def Fact.sizes:List Fact->Nat
 |[]=>0
 |f::l=>f.size+Fact.sizes l
end
theorem Fact.size_eq(f:Fact):f.size=1+Fact.sizes f.kids:=by cases f;rw[Fact.size];rfl
theorem Fact.sizes_len: ∀l:List Fact,l.length<=Fact.sizes l
 |[]=>by simp
 |f::l=>by
  have:=Fact.sizes_len l
  rw[Fact.sizes,Fact.size_eq];simp;omega
theorem Fact.sizes_mem: ∀{l:List Fact} {x:Fact},x∈l->x.size<=Fact.sizes l
 |[],_,h=>by cases h
 |f::l,x,h=>by
  rw[Fact.sizes]
  rcases List.mem_cons.1 h with rfl|h
  ·omega
  ·have:=Fact.sizes_mem h;omega
theorem Fact.kid_size{f:Fact}{k:Nat}(h:k<f.kids.length):(f.kids[k]).size<f.size:=by
 have:=Fact.sizes_mem (List.getElem_mem h)
 rw[Fact.size_eq f];omega
theorem M2(f:Fact)(V:Sig)(hf:f.size<=1073741824:=by exact sd):
  DCall prog 51 [.agg (Bp f)] V (rS (dI f.size) V):=by
 have hsz:=Fact.size_eq f
 have hkl:=Fact.sizes_len f.kids
 refine en func51 ntmps51 ?_
 refine gz ?_
 refine AA [2,7,8,18] (fun (k:Nat) (m:Nat)=>k<=f.kids.length/\m+Fact.sizes (f.kids.drop k)=f.size) (fun k m=>[(9,dI k),(3,dI m)]) (fun _ _=>V) (fun k _=>f.kids.length-k) (0) (1) (by simp;omega) (fun k m hI =>?_)
 obtain⟨hk,hR⟩:=hI
 by_cases h:k<f.kids.length
 ·rw[A0 h,Fact.sizes]at hR
  repeat' first|refine gz ?_|refine Ax (M2 (f.kids[k]) V (by omega)) ?_|refine callP (M2 (f.kids[k]) V (by omega)) ?_|refine gz ?_|apply gy<;>intro hh
  exact⟨k+1,m+(f.kids[k]).size,by omega,td1,wkR⟩
 ·rw[A1 h,Fact.sizes]at hR
  refine gz ?_
  (refine fin1 (S':=V) ?_;exact⟨by first|rfl|(simp[hR.symm];done)|(simp_all [hR.symm];done)|(rw[A7,Bool.eq_iff_iff];simp_all [hR.symm]<;>omega),rfl⟩)
termination_by SizeOf.sizeOf f
decreasing_by exact Fact.lt (List.getElem_mem _)
@[reducible,instance] def a51:=fun f V=>ah1 (@M2 f V)
def mx(x y:Int):Int:=if y>x then y else x
theorem mx_eq(x y:Int):mx x y=max x y:=by unfold mx;split<;>omega
def BZ(o:Int):Bool:=decide (o=2)||decide (o=3)||decide (o=4)
mutual
def Fact.speaks:Fact->Int
 |.mk o a _ _ _ k=>Fact.speakss k (if BZ o then IntKind.i64.wrap (a+1) else 0)
def Fact.speakss:List Fact->Int->Int
 |[],n=>n
 |f::l,n=>Fact.speakss l (mx n f.speaks)
end
theorem Fact.speaks_eq(f:Fact):f.speaks=Fact.speakss f.kids (if BZ f.op then IntKind.i64.wrap (f.arg+1) else 0):=by cases f;rw[Fact.speaks];rfl
theorem Nw(f:Fact)(V:Sig):DCall prog 180 [.agg (Bp f)] V (rS (.bool (BZ f.op)) V):=by
 refine en func180 ntmps180 ?_
 repeat' first|refine gz ?_|apply gy<;>intro hh
 any_goals (first|(refine fin1 (S':=V) ?_;exact⟨by first|rfl|(simp[BZ,hh];done)|(simp_all [BZ,hh];done)|(rw[A7,Bool.eq_iff_iff];simp_all [BZ,hh]<;>omega),rfl⟩)|fail)
@[reducible,instance] def a180:=fun f V=>ah0 (@Nw f V)
theorem LX(f:Fact)(V:Sig)(hf:f.size<=1073741824:=by exact sd):
  DCall prog 88 [.agg (Bp f)] V (rS (dI f.speaks) V):=by
 have hsz:=Fact.size_eq f
 have hkl:=Fact.sizes_len f.kids
 have hse:=(Fact.speaks_eq f).symm
 have hL:BZ f.op=(decide (f.op=2)||decide (f.op=3)||decide (f.op=4)):=rfl
 refine en func88 ntmps88 ?_
 repeat' first|refine gz ?_|apply gy<;>intro hh
 all_goals
  refine AA [2,23,24,34] (fun (k:Nat) (m:Int)=>k<=f.kids.length/\Fact.speakss (f.kids.drop k) m=f.speaks) (fun k m=>[(25,dI k),(3,dI m)]) (fun _ _=>V) (fun k _=>f.kids.length-k) (0) ((if BZ f.op then IntKind.i64.wrap (f.arg+1) else 0)) (by exact⟨by omega,hse⟩) (fun k m hI =>?_)
  obtain⟨hk,hR⟩:=hI
  clear hL
  by_cases h:k<f.kids.length
  ·rw[A0 h,Fact.speakss]at hR
   have hks:=Fact.kid_size h
   repeat' first|refine gz ?_|refine Ax (LX (f.kids[k]) V (by omega)) ?_|refine callP (LX (f.kids[k]) V (by omega)) ?_|refine gz ?_|apply gy<;>intro hh
   have hm:mx m (f.kids[k]).speaks=if m<(f.kids[k]).speaks then(f.kids[k]).speaks else m:=rfl
   exact⟨k+1,mx m (f.kids[k]).speaks,⟨by omega,hR⟩,td1,wkR⟩
  ·rw[A1 h,Fact.speakss]at hR
   refine gz ?_
   exact fe1 hR
termination_by SizeOf.sizeOf f
decreasing_by all_goals exact Fact.lt (List.getElem_mem _)
@[reducible,instance] def a88:=fun f V=>ah1 (@LX f V)
theorem LW(f:Fact)(V:Sig)(hf:f.size<=1073741824:=by exact sd):
  DCall prog 92 [.agg (Bp f)] V (rS (dI f.speaks) V):=by
 have hsz:=Fact.size_eq f
 have hkl:=Fact.sizes_len f.kids
 have hse:=(Fact.speaks_eq f).symm
 refine en func92 ntmps92 ?_
 cases hL:BZ f.op
 all_goals
  refine gf hL ?_
  refine AA [2,12,13,23] (fun (k:Nat) (m:Int)=>k<=f.kids.length/\Fact.speakss (f.kids.drop k) m=f.speaks) (fun k m=>[(14,dI k),(3,dI m)]) (fun _ _=>V) (fun k _=>f.kids.length-k) (0) ((if BZ f.op then IntKind.i64.wrap (f.arg+1) else 0)) (by exact⟨by omega,hse⟩) (fun k m hI =>?_)
  obtain⟨hk,hR⟩:=hI
  by_cases h:k<f.kids.length
  ·rw[A0 h,Fact.speakss]at hR
   have hks:=Fact.kid_size h
   repeat' first|refine gz ?_|refine Ax (LW (f.kids[k]) V (by omega)) ?_|refine callP (LW (f.kids[k]) V (by omega)) ?_|refine gz ?_|apply gy<;>intro hh
   have hm:mx m (f.kids[k]).speaks=if m<(f.kids[k]).speaks then(f.kids[k]).speaks else m:=rfl
   exact⟨k+1,mx m (f.kids[k]).speaks,⟨by omega,hR⟩,td1,wkR⟩
  ·rw[A1 h,Fact.speakss]at hR
   refine gz ?_
   exact fe1 hR
termination_by SizeOf.sizeOf f
decreasing_by all_goals exact Fact.lt (List.getElem_mem _)
@[reducible,instance] def a92:=fun f V=>ah1 (@LW f V)
mutual
def Fact.depth:Fact->Int
 |.mk _ _ _ _ _ k=>Fact.depths k 0+1
def Fact.depths:List Fact->Int->Int
 |[],n=>n
 |f::l,n=>Fact.depths l (mx n f.depth)
end
theorem Fact.depth_eq(f:Fact):f.depth=Fact.depths f.kids 0+1:=by cases f;rw[Fact.depth];rfl
mutual
theorem Fact.depth_le: ∀f:Fact,1<=f.depth/\f.depth<=f.size
 |.mk _ _ _ _ _ k=>by
  have:=Fact.depths_le k 0 (Int.le_refl 0)
  rw[Fact.depth,Fact.size]
  simp;omega
theorem Fact.depths_le: ∀(l:List Fact) (n:Int),0<=n->n<=Fact.depths l n/\Fact.depths l n<=max n (Fact.sizes l)
 |[],n,h=>by simp[Fact.depths,Fact.sizes];omega
 |f::l,n,h=>by
  have h1:=Fact.depth_le f
  have h2:=Fact.depths_le l (mx n f.depth) (by rw[mx_eq];omega)
  rw[Fact.depths,Fact.sizes]
  rw[mx_eq]at h2⊢
  simp only[Int.natCast_add]
  omega
end
theorem JD(f:Fact)(V:Sig)(hf:f.size<=1073741824:=by exact sd):
  DCall prog 178 [.agg (Bp f)] V (rS (dI f.depth) V):=by
 have hsz:=Fact.size_eq f
 have hkl:=Fact.sizes_len f.kids
 have hd:=Fact.depth_le f
 have hde:=(Fact.depth_eq f).symm
 refine en func178 ntmps178 ?_
 refine gz ?_
 refine AA [2,7,8,18,19] (fun (k:Nat) (m:Int)=>k<=f.kids.length/\Fact.depths (f.kids.drop k) m+1=f.depth) (fun k m=>[(9,dI k),(3,dI m)]) (fun _ _=>V) (fun k _=>f.kids.length-k) (0) (0) (by exact⟨by omega,hde⟩) (fun k m hI =>?_)
 obtain⟨hk,hR⟩:=hI
 by_cases h:k<f.kids.length
 ·rw[A0 h,Fact.depths]at hR
  have hks:=Fact.kid_size h
  repeat' first|refine gz ?_|refine Ax (JD (f.kids[k]) V (by omega)) ?_|refine callP (JD (f.kids[k]) V (by omega)) ?_|refine gz ?_|apply gy<;>intro hh
  have hm:mx m (f.kids[k]).depth=if m<(f.kids[k]).depth then(f.kids[k]).depth else m:=rfl
  exact⟨k+1,mx m (f.kids[k]).depth,⟨by omega,hR⟩,td1,wkR⟩
 ·rw[A1 h,Fact.depths]at hR
  refine gz ?_
  exact fe1 hR
termination_by SizeOf.sizeOf f
decreasing_by all_goals exact Fact.lt (List.getElem_mem _)
@[reducible,instance] def a178:=fun f V=>ah1 (@JD f V)
theorem PG(p:BProg)(V:Sig)(hl:p.classes.length<=1073741824:=by exact sd)(hp:∀c∈p.classes,c.parents.length<=1073741824:=by exact sd):
  DCall prog 31 [.agg (Am p)] V (rS (sl (cII (p.classes.map (·.parents)))) V):=by
 refine en func31 ntmps31 ?_
 refine gz ?_
 refine Bz 3 1 (fun i hi =>?_)
 refine AA [1,2,22] (fun (k:Nat) (out:List (List Int))=>k<=p.classes.length/\out.length=k/\out++(p.classes.drop k).map (·.parents)=p.classes.map (·.parents)) (fun k out=>[(4,dI k),(3,.slice (cII out) (.tag i))]) (fun _ out=>V.set i (.tail 1 out.length)) (fun k _=>p.classes.length-k) (0) ([]) (by simp) (fun k out hI =>?_)
 obtain⟨hk,ho,hR⟩:=hI
 by_cases h:k<p.classes.length
 ·rw[A0 h]at hR
  have hpl:=hp _ (List.getElem_mem h)
  refine gz ?_
  refine appK ?_
  refine gz ?_
  exact⟨k+1,out++[(p.classes[k]).parents],⟨by omega,by simp[ho],by rw[List.append_assoc];exact hR⟩,td1,wkR⟩
 ·rw[A1 h]at hR
  simp at hR
  refine gz ?_
  exact finS (S':=V) (es:=cII out) ⟨by rw[hR],rfl⟩
@[reducible,instance] def a31:=fun p V=>ah2 (@PG p V)
theorem E3{xs bs:List D}(h:WkL xs bs):WkD (.agg xs) (.agg bs):=by
 rintro g v ⟨vs,e,r⟩
 exact⟨vs,e,h.rep r⟩
def ownersF:List BClass->Nat->List Int
 |[],_=>[]
 |c::r,i=>List.replicate c.slots.length ((i:Int)+3)++ownersF r (i+1)
def AR(p:BProg):World:=⟨p.classes.map (·.parents),ownersF p.classes 0⟩
theorem TW(l:List (List D))(o:Own)(V:Sig):
  DCall prog 198 [.slice l o] V (rS (.slice l .clip) V):=by
 refine en func198 ntmps198 ?_
 refine gz ?_
 exact fe1 trivial
@[reducible,instance] def a198:=fun l o V=>ah0 (@TW l o V)
theorem JG(c:BClass)(V:Sig)(hl:c.parents.length<=1073741824:=by exact sd):
  DCall prog 117 [.agg (Ae c)] V (rS (sl (cI c.parents)) V):=by
 refine en func117 ntmps117 ?_
 repeat' first|refine gz ?_|refine Ax (Ho (cI c.parents) .no V (by simpa using hl) (BQ _)) ?_|refine callP (Ho (cI c.parents) .no V (by simpa using hl) (BQ _)) ?_|refine gz ?_|apply gy<;>intro hh
 exact fe1 trivial
@[reducible,instance] def a117:=fun c V=>ah1 (@JG c V)
theorem UA(l:List BClass)(V:Sig)(hl:l.length<=1073741824:=by exact sd)(hp:∀c∈l,c.parents.length<=1073741824:=by exact sd):
  DCall prog 116 [sl (l.map Ae),.func (.func 117) [] []] V (rS (sl (cII (l.map (·.parents)))) V):=by
 refine en func116 ntmps116 ?_
 refine gz ?_
 refine Bz 5 1 (fun i hi =>?_)
 refine AA [1,4,8,9,21,22] (fun (k:Nat) (out:List (List Int))=>k<=l.length/\out.length=k/\out++(l.drop k).map (·.parents)=l.map (·.parents)) (fun k out=>[(10,dI k),(5,.slice (cII out) (.tag i))]) (fun _ out=>V.set i (.tail 1 out.length)) (fun k _=>l.length-k) (0) ([]) (by simp) (fun k out hI =>?_)
 obtain⟨hk,ho,hR⟩:=hI
 by_cases h:k<l.length
 ·rw[A0 h]at hR
  have hpl:=hp _ (List.getElem_mem h)
  repeat' first|refine Ax (JG (l[k]) _ hpl) ?_|refine callP (JG (l[k]) _ hpl) ?_|refine gz ?_|apply gy<;>intro hh
  exact⟨k+1,out++[(l[k]).parents],⟨by omega,by simp[ho],by rw[List.append_assoc];exact hR⟩,td1,wkR⟩
 ·rw[A1 h]at hR
  simp at hR
  refine gz ?_
  exact finS (S':=V) (es:=cII out) ⟨by rw[hR],rfl⟩ ((Sub.refl _).set hi)
@[reducible,instance] def a116:=fun l V=>ah2 (@UA l V)
theorem Wa(p:BProg)(V:Sig)(hl:p.classes.length<=1073741824:=by exact sd)(hp:∀c∈p.classes,c.parents.length<=1073741824:=by exact sd):
  DCall prog 49 [.agg (Am p)] V (rS (sl (cII (p.classes.map (·.parents)))) V):=by
 refine en func49 ntmps49 ?_
 refine gz ?_
 exact fe1 trivial
@[reducible,instance] def a49:=fun p V=>ah2 (@Wa p V)
def ownF(p:BProg)(c:Int):Bool:=decide (3<=c)&&decide (c<3+p.classes.length)
mutual
def Fact.cnt:Fact->Int->Int
 |.mk _ _ _ _ _ k,most=>Fact.cnts k most 1
def Fact.cnts:List Fact->Int->Int->Int
 |[],_,n=>n
 |f::l,most,n=>if n<=most then Fact.cnts l most (n+f.cnt (most-n)) else n
end
theorem Fact.cnt_eq(f:Fact)(most:Int):f.cnt most=Fact.cnts f.kids most 1:=by cases f;rw[Fact.cnt];rfl
mutual
theorem Fact.cnt_le: ∀(f:Fact) (most:Int),1<=f.cnt most/\f.cnt most<=f.size
 |.mk _ _ _ _ _ k,most=>by
  have:=Fact.cnts_le k most 1
  rw[Fact.cnt,Fact.size]
  simp only[Int.natCast_add]
  omega
theorem Fact.cnts_le: ∀(l:List Fact) (most n:Int),n<=Fact.cnts l most n/\Fact.cnts l most n<=n+Fact.sizes l
 |[],most,n=>by simp[Fact.cnts,Fact.sizes]
 |f::l,most,n=>by
  have h1:=Fact.cnt_le f (most-n)
  have h2:=Fact.cnts_le l most (n+f.cnt (most-n))
  rw[Fact.cnts,Fact.sizes]
  simp only[Int.natCast_add]
  split<;>omega
end
theorem JF(f:Fact)(most:Int)(V:Sig)(hf:f.size<=1073741824:=by exact sd)(h1 : -2147483648<=most:=by exact sd)(h2:most<=1073741824:=by exact sd):
  DCall prog 133 [.agg (Bp f),dI most] V (rS (dI (f.cnt most)) V):=by
 have hsz:=Fact.size_eq f
 have hkl:=Fact.sizes_len f.kids
 have hall:=Fact.cnt_le f most
 have hce:=(Fact.cnt_eq f most).symm
 refine en func133 ntmps133 ?_
 refine gz ?_
 refine AA [1,2,4,30] (fun (k:Nat) (m:Int)=>k<=f.kids.length/\1<=m/\Fact.cnts (f.kids.drop k) most m=f.cnt most) (fun k m=>[(6,dI k),(5,dI m)]) (fun _ _=>V) (fun k _=>f.kids.length-k) (0) (1) (by exact⟨by omega,by omega,hce⟩) (fun k m hI =>?_)
 obtain⟨hk,hm,hR⟩:=hI
 have hmR:=Fact.cnts_le (f.kids.drop k) most m
 by_cases h:k<f.kids.length
 ·rw[A0 h,Fact.cnts]at hR
  have hks:=Fact.kid_size h
  have hkc:=Fact.cnt_le (f.kids[k]) (most-m)
  by_cases hmost:m<=most
  ·rw[if_pos hmost]at hR
   have hmR2:=Fact.cnts_le (f.kids.drop (k+1)) most (m+(f.kids[k]).cnt (most-m))
   repeat' first|refine gz ?_|refine Ax (JF (f.kids[k]) (most-m) V (by omega) (by omega) (by omega)) ?_|refine callP (JF (f.kids[k]) (most-m) V (by omega) (by omega) (by omega)) ?_|refine gz ?_|apply gy<;>intro hh
   exact⟨k+1,m+(f.kids[k]).cnt (most-m),⟨by omega,by omega,hR⟩,td1,wkR⟩
  ·rw[if_neg hmost]at hR
   refine gz ?_
   exact fe1 hR
 ·rw[A1 h,Fact.cnts]at hR
  refine gz ?_
  exact fe1 hR
termination_by SizeOf.sizeOf f
decreasing_by exact Fact.lt (List.getElem_mem _)
@[reducible,instance] def a133:=fun f most V=>ah3 (@JF f most V)
theorem W8(f:Fact)(V:Sig)(hf:f.size<=1073741824:=by exact sd):DCall prog 54 [.agg (Bp f)] V (rS (dI (f.cnt 24)) V):=by
 refine en func54 ntmps54 ?_
 refine gz ?_
 exact fe1 trivial
@[reducible,instance] def a54:=fun f V=>ah1 (@W8 f V)
section
variable {V:Sig}{r i j:Nat}{a:D}
def wS(V:Sig)(r i j:Nat)(a:D)(out:List Int):Sig:=((V.set r (.cells [.nils,.nils])).set i (.tail 1 out.length)).set j (.cells [a,.slice (cI out) (.tag i)])
theorem wS_j(out:List Int):wS V r i j a out j=some (.cells [a,.slice (cI out) (.tag i)]):=w7 ..
theorem wS_i(hij:i≠j)(out:List Int):wS V r i j a out i=some (.tail 1 out.length):=by unfold wS;rw[w8 _ _ hij,w7]
theorem wS_r(hjr:j≠r)(hir:i≠r)(out:List Int):wS V r i j a out r=some (.cells [.nils,.nils]):=by unfold wS;rw[w8 _ _ (Ne.symm hjr),w8 _ _ (Ne.symm hir),w7]
theorem RD(hij:i≠j)(out:List Int)(x:Int):((wS V r i j a out).set i (.tail 1 (out.length+1))).set j (.cells [a,.slice (cI out++[[dI x]]) (.tag i)])=wS V r i j a (out++[x]):=by
 unfold wS
 rw[Sig.set_comm _ _ _ (Ne.symm hij),w9,w9]
 simp[cI]
theorem WH(hij:i≠j){x:DObj}:(((V.set r (.cells [.nils,.nils])).set j x).set i (.tail 1 0)).set j (.cells [a,.slice [] (.tag i)])=wS V r i j a []:=by
 unfold wS
 rw[Sig.set_comm _ _ _ (Ne.symm hij),w9]
 simp[cI]
theorem WG(hr:V r=none)(hi:V i=none)(hj:V j=none)(out:List Int):Sub V (wS V r i j a out):=by unfold wS;exact(((Sub.refl _).set hr).set hi).set hj
end
theorem LZ(p:BProg)(V:Sig)(hl:p.classes.length<=1073741824:=by exact sd)(hp:∀c∈p.classes,c.parents.length<=1073741824:=by exact sd)(hss:∀c∈p.classes,c.slots.length<=1073741824:=by exact sd)(ho:(ownersF p.classes 0).length<=1073741824:=by exact sd):
  DCall prog 71 [.agg (Am p)] V (rS (.agg (Da (AR p))) V):=by
 refine en func71 ntmps71 ?_
 refine gz ?_ [] [2,3]
 refine newV (fun r hr =>?_)
 refine gz ?_ [] [2,3]
 refine newV (fun j hj =>?_)
 obtain⟨hjr,hj⟩:=A4 hj
 refine gz ?_ [] [2,3]
 refine AD j 1 1 (w7 ..) rfl fun i hi =>?_
 obtain⟨hij,hi⟩:=A4 hi
 obtain⟨hir,hi⟩:=A4 hi
 simp only[w9,List.set_cons_succ,List.set_cons_zero]
 rw[WH hij]
 have hS:=fun out=>wS_j (V:=V) (r:=r) (i:=i) (j:=j) (a:=sl (cII (p.classes.map (·.parents)))) out
 have hSi:=fun out=>wS_i (V:=V) (r:=r) (a:=sl (cII (p.classes.map (·.parents)))) hij out
 have hSr:=fun out=>wS_r (V:=V) (a:=sl (cII (p.classes.map (·.parents)))) hjr hir out
 have hnx:=fun out x=>RD (V:=V) (r:=r) (a:=sl (cII (p.classes.map (·.parents)))) hij out x
 have hne:=fun (s:Sig) (o:DObj)=>w8 s o (Ne.symm hij)
 refine AA [1,2,3,34] (fun (k:Nat) (out:List Int)=>k<=p.classes.length/\out++ownersF (p.classes.drop k) k=ownersF p.classes 0) (fun k _=>[(4,dI k)]) (fun _ out=>wS V r i j (sl (cII (p.classes.map (·.parents)))) out) (fun k _=>p.classes.length-k) (0) ([]) (by simp) (fun k out hI =>?_)
 obtain⟨hk,hR⟩:=hI
 by_cases h:k<p.classes.length
 ·rw[A0 h,ownersF]at hR
  have hsl:=hss _ (List.getElem_mem h)
  refine gf hS ?_ [] [2,3]
  refine AA [1,2,3,4,9,10,11,12,13,14,15,34] (fun (q:Nat) (out:List Int)=>q<=(p.classes[k]).slots.length/\out++(List.replicate ((p.classes[k]).slots.length-q) ((k:Int)+3)++ownersF (p.classes.drop (k+1)) (k+1))=ownersF p.classes 0) (fun q _=>[(5,dI q)]) (fun _ out=>wS V r i j (sl (cII (p.classes.map (·.parents)))) out) (fun q _=>(p.classes[k]).slots.length-q) (0) (out) (by simpa using hR) (fun q out hI =>?_)
  obtain⟨hq,hR⟩:=hI
  have hlen:out.length+((p.classes[k]).slots.length-q)<=1073741824:=by
   have:=congrArg List.length hR
   simp only[List.length_append,List.length_replicate]at this
   omega
  by_cases h':q<(p.classes[k]).slots.length
  ·refine gf (gi hS (gi hSi (gi hne hnx))) ?_ [] [2,3]
   exact⟨q+1,out++[(k:Int)+3],by refine⟨by omega,?_⟩;rw[<-hR];obtain⟨m,hm⟩:∃m,(p.classes[k]).slots.length-q=m+1:=⟨(p.classes[k]).slots.length-q-1,by omega⟩;rw[hm,show(p.classes[k]).slots.length-(q+1)=m by omega,List.replicate_succ];simp,td1,wkR⟩
  ·rw[show(p.classes[k]).slots.length-q=0 by omega]at hR
   refine gf hS ?_ [] [2,3]
   exact⟨k+1,out,⟨by omega,by simpa using hR⟩,td1,wkR⟩
 ·rw[A1 h,ownersF,List.append_nil]at hR
  refine gf (gi hS hSr) ?_ [] [2,3]
  refine Hr Ad (ds:=[.agg [sl (cII (p.classes.map (·.parents))),.slice (cI out) (.tag i)]]) ?_ (E3 (by rw[hR];simp[AR])) (S':=V) (.set (WG hr hi hj out) hr) ⟨rfl,rfl⟩
  simp[f71]
theorem W2(p:BProg)(V:Sig)(hl:p.classes.length<=1073741824:=by exact sd)(hp:∀c∈p.classes,c.parents.length<=1073741824:=by exact sd)(hss:∀c∈p.classes,c.slots.length<=1073741824:=by exact sd)(ho:(ownersF p.classes 0).length<=1073741824:=by exact sd):
  DCall prog 70 [.agg (Am p)] V (rS (.agg (Da (AR p))) V):=by
 refine en func70 ntmps70 ?_
 refine gz ?_ [] [2,3]
 refine newV (fun r hr =>?_)
 refine gz ?_ [] [2,3]
 refine newV (fun j hj =>?_)
 obtain⟨hjr,hj⟩:=A4 hj
 refine gz ?_ [] [2,3]
 refine AD j 1 1 (w7 ..) rfl fun i hi =>?_
 obtain⟨hij,hi⟩:=A4 hi
 obtain⟨hir,hi⟩:=A4 hi
 simp only[w9,List.set_cons_succ,List.set_cons_zero]
 rw[WH hij]
 have hS:=fun out=>wS_j (V:=V) (r:=r) (i:=i) (j:=j) (a:=sl (cII (p.classes.map (·.parents)))) out
 have hSi:=fun out=>wS_i (V:=V) (r:=r) (a:=sl (cII (p.classes.map (·.parents)))) hij out
 have hSr:=fun out=>wS_r (V:=V) (a:=sl (cII (p.classes.map (·.parents)))) hjr hir out
 have hnx:=fun out x=>RD (V:=V) (r:=r) (a:=sl (cII (p.classes.map (·.parents)))) hij out x
 have hne:=fun (s:Sig) (o:DObj)=>w8 s o (Ne.symm hij)
 refine AA [2,3,10,11,31] (fun (k:Nat) (out:List Int)=>k<=p.classes.length/\out++ownersF (p.classes.drop k) k=ownersF p.classes 0) (fun k _=>[(12,dI k)]) (fun _ out=>wS V r i j (sl (cII (p.classes.map (·.parents)))) out) (fun k _=>p.classes.length-k) (0) ([]) (by simp) (fun k out hI =>?_)
 obtain⟨hk,hR⟩:=hI
 by_cases h:k<p.classes.length
 ·rw[A0 h,ownersF]at hR
  have hsl:=hss _ (List.getElem_mem h)
  refine gf hS ?_ [] [2,3]
  refine AA [2,3,4,5,10,11,12,13,14,15,16,17,18,19,30,31] (fun (q:Nat) (out:List Int)=>q<=(p.classes[k]).slots.length/\out++(List.replicate ((p.classes[k]).slots.length-q) ((k:Int)+3)++ownersF (p.classes.drop (k+1)) (k+1))=ownersF p.classes 0) (fun q _=>[(20,dI q)]) (fun _ out=>wS V r i j (sl (cII (p.classes.map (·.parents)))) out) (fun q _=>(p.classes[k]).slots.length-q) (0) (out) (by simpa using hR) (fun q out hI =>?_)
  obtain⟨hq,hR⟩:=hI
  have hlen:out.length+((p.classes[k]).slots.length-q)<=1073741824:=by
   have:=congrArg List.length hR
   simp only[List.length_append,List.length_replicate]at this
   omega
  by_cases h':q<(p.classes[k]).slots.length
  ·refine gf (gi hS (gi hSi (gi hne hnx))) ?_ [] [2,3]
   exact⟨q+1,out++[(k:Int)+3],by refine⟨by omega,?_⟩;rw[<-hR];obtain⟨m,hm⟩:∃m,(p.classes[k]).slots.length-q=m+1:=⟨(p.classes[k]).slots.length-q-1,by omega⟩;rw[hm,show(p.classes[k]).slots.length-(q+1)=m by omega,List.replicate_succ];simp,td1,wkR⟩
  ·rw[show(p.classes[k]).slots.length-q=0 by omega]at hR
   refine gf hS ?_ [] [2,3]
   exact⟨k+1,out,⟨by omega,by simpa using hR⟩,td1,wkR⟩
 ·rw[A1 h,ownersF,List.append_nil]at hR
  refine gf (gi hS hSr) ?_ [] [2,3]
  refine Hr Ad (ds:=[.agg [sl (cII (p.classes.map (·.parents))),.slice (cI out) (.tag i)]]) ?_ (E3 (by rw[hR];simp[AR])) (S':=V) (.set (WG hr hi hj out) hr) ⟨rfl,rfl⟩
  simp[f70]
@[reducible,instance] def a70:=fun p V=>ah4 (@W2 p V)
def Gq{α:Type}[DecidableEq α](l:List α)(s:List α):List α:=l.foldl (fun s x=>ins x s) s
def hasG(cs:List BClass):Nat->List Int->List Int->List Int
 |0,_,out=>out
 |n+1,up,out=>match cs[n]? with
  |some c=>if(n:Int)+3∈up then hasG cs n (Gq c.parents up) (out++c.slots) else hasG cs n up out
  |none=>hasG cs n up out
def hasP(p:BProg)(c:Int):List Int:=ES (hasG p.classes (c-2).toNat [c] [])
theorem GP(p:BProg):wtL (fun c:BClass=>c.slots.length) p.classes<p.wt:=by
 have:∀l:List BClass,wtL (fun c:BClass=>c.slots.length) l<=wtL BClass.wt l:=fun l=>by
  induction l with
  |nil=>exact Nat.le_refl _
  |cons c l ih=>simp only[wtL,BClass.wt];omega
 have:=this p.classes
 unfold BProg.wt;omega
theorem Ij{α:Type}(f:α->Nat)(l:List α)(n:Nat)(h:n<l.length):wtL f (l.take (n+1))=wtL f (l.take n)+f l[n]:=by
 rw[List.take_succ_eq_append_getElem h,Ln];simp[wtL]
theorem EN{α:Type}(f:α->Nat)(l:List α)(n:Nat):wtL f (l.take n)<=wtL f l:=by
 have:=Ln f (l.take n) (l.drop n)
 rw[List.take_append_drop]at this;omega
theorem VC{V:Sig}{st:MR}{l:List Int}(h:mOK V 1 st (cI l)):mOK V 1 st (cI (ES l)):=by
 cases st with
 |none =>
  have:cI l=[]:=h
  have:l=[]:=by simpa[cI] using this
  subst this;rw[show ES []=[] by simp[ES]];exact h
 |some x =>
  obtain⟨h1,h2,h3,h4⟩:=h
  have e:=H1 l
  refine⟨h1,?_,by simpa[e] using h3,BQ _⟩
  rw[List.length_append,Du (BQ _),Ia]at h2⊢
  omega
theorem W5(p:BProg)(c:Int)(V:Sig)(hp:p.wt<=1073741824:=by exact sd)(hc:3<=c:=by exact sd)(hc2:c<3+p.classes.length:=by exact sd):DCall prog 62 [.agg (Am p),dI c] V (rS (sl (cI (hasP p c))) V):=by
 obtain⟨p1,p2,p3,p4,p5,p6,p7⟩:=p.wt_le
 have ws:=GP p
 refine en func62 ntmps62 ?_
 refine gz ?_
 refine newSI (fun i hi =>?_)
 refine gz ?_
 refine Qu [2,4,5,45,46,47,48] (fun (n:Nat) (up:List Int) (out:List Int) (st:MR)=>n<=p.classes.length/\out.length+wtL (fun c:BClass=>c.slots.length) (p.classes.take n)<=1073741824/\mOK (V.set i (.map (eSI up))) 1 st (cI out)/\ES (hasG p.classes n up out)=hasP p c) (fun n _ out st=>[(7,dI (n+2)),(6,mD st out.length)]) (fun _ up out st=>mS (V.set i (.map (eSI up))) st (cI out)) (fun n _ _ _=>n) ((c-2).toNat) ([c]) ([]) (none) (by(refine⟨by omega,?_,rfl,rfl⟩;have:=EN (fun c:BClass=>c.slots.length) p.classes (c-2).toNat;simp;omega)) (fun n up out st hI =>?_)
 obtain⟨hn,hlen,hm,hR⟩:=hI
 have hT:=fun k (h:k<p.classes.length)=>Ij (fun c:BClass=>c.slots.length) p.classes k h
 obtain⟨hmY,hmi,hms⟩:=mS_at hm
 rcases n with _|n
 ·rw[hasG]at hR
  refine gz ?_
  refine Ab (Uk out st _ hm (by simp[wtL]at hlen;omega)) (fun d S' hr =>?_) (fun d S' hr=>by cases hr.1)
  obtain⟨hr1,rfl⟩:=hr
  cases hr1
  have hm':=VC hm
  rw[<-H1 out]
  rw[hR]at hm'⊢
  refine mfr 6 ?_ (hm:=hm')
  refine gz ?_
  exact fe1 (d':=sl (cI (hasP p c))) trivial
 ·have h:n<p.classes.length:=by omega
  have hTn:=hT n h
  have hw:=p5 n h
  have hwu:(p.classes[n]).wt=1+(p.classes[n]).parents.length+(p.classes[n]).slots.length+(p.classes[n]).inits.length:=rfl
  rw[hasG,List.getElem?_eq_getElem h]at hR
  by_cases hup:(n:Int)+3∈up
  ·simp only[hup,if_true]at hR
   have e3:(n:Int)+1+2=n+3:=by omega
   have hn3:((n:Int)+1+2-3).toNat=n:=by omega
   refine gf (gi hmi (gi hms (gi hup (gi e3 hn3)))) ?_
   refine mappI (fun st' hm' =>?_)
   obtain⟨hmY',hmi',hms'⟩:=mS_at hm'
   refine gf (gi hmi' (gi hms' (gi hup (gi e3 hn3)))) ?_
   refine B2 [2,4,5,6,7,14,15,16,17,18,19,20,21,22,23,24,25,26,27,28,29,30,31,32,33,34,35,36,37,45,46,47,48] (fun (k:Nat)=>k<=(p.classes[n]).parents.length) (fun k=>[(38,dI k)]) (fun k=>mS (V.set i (.map (eSI (Gq ((p.classes[n]).parents.take k) up)))) st' (cI (out++(p.classes[n]).slots))) (fun k=>(p.classes[n]).parents.length-k) (0) td3 (fun k hI =>?_)
   by_cases hk:k<(p.classes[n]).parents.length
   ·have hs:Gq ((p.classes[n]).parents.take (k+1)) up=ins (p.classes[n]).parents[k] (Gq ((p.classes[n]).parents.take k) up):=by unfold Gq;rw[List.take_succ_eq_append_getElem hk,List.foldl_append];rfl
    refine gf (gi hmi' hms') ?_
    rw[<-hs]
    exact⟨k+1,td2,td1,wkR⟩
   ·have hs:(p.classes[n]).parents.take k=(p.classes[n]).parents:=List.take_of_length_le (by omega)
    rw[hs]
    have e2:(n:Int)+3-1=n+2:=by omega
    refine gf (gi e3 e2) ?_
    exact⟨n,Gq (p.classes[n]).parents up,out++(p.classes[n]).slots,st',⟨by omega,by rw[List.length_append];omega,hmY' _,hR⟩,td1,wkR⟩
  ·simp only[hup,if_false]at hR
   have e3:(n:Int)+1+2=n+3:=by omega
   have e2:(n:Int)+3-1=n+2:=by omega
   refine gf (gi hmi (gi hms (gi hup (gi e3 e2)))) ?_
   exact⟨n,up,out,st,⟨by omega,by omega,hm,hR⟩,td1,wkR⟩
@[reducible,instance] def a62:=fun p c V=>ah3 (@W5 p c V)
end Go.DL
