/- A part of the proof. -/
import Derived.Test.YtlfimpogphmbdaaGreatM12
import Derived.Test.YtlfimpogphmbdaaGreatM08
set_option linter.all false
namespace Go.DL
open Go.Proofs.Tryz
open Go Go.Proofs
theorem Ka:EqTy prog 63:=⟨by kernel_rfl,by kernel_rfl,by kernel_rfl⟩
theorem GY:EqTy prog 150:=⟨by kernel_rfl,by kernel_rfl,by kernel_rfl⟩
structure Hold(F:Prop):Prop where
 get:F
theorem CN{a b:Int}(h:a<=b):decide (a<=b)=true:=by simp[h]
theorem BR{a b:Int}(h:b<a):decide (a<=b)=false:=by simp;omega
theorem CM{a b:Int}(h:a<b):decide (a<b)=true:=by simp[h]
theorem BQ{a b:Int}(h:b<=a):decide (a<b)=false:=by simp;omega
theorem EM{p:Prop}[Decidable p]{α:Type}{a b:α}(h:p):(if p then a else b)=a:=if_pos h
theorem CO{a b:Int}(h:a=b):decide (a=b)=true:=by simp[h]
theorem CL{a b:Int}(h:¬a=b):decide (a=b)=false:=by simp[h]
theorem BO{a b:Nat}(h:a<=b):decide (a<=b)=true:=by simp[h]
theorem Bh{a b:Nat}(h:b<a):decide (a<=b)=false:=by simp;omega
theorem BN{a b:Nat}(h:a<b):decide (a<b)=true:=by simp[h]
theorem Bg{a b:Nat}(h:b<=a):decide (a<b)=false:=by simp;omega
theorem BP{a b:Nat}(h:a=b):decide (a=b)=true:=by simp[h]
theorem BM{a b:Nat}(h:¬a=b):decide (a=b)=false:=by simp[h]
theorem Ae(a b:Bool):(DE.ret (.bool a)=DE.ret (.bool b))=(a=b):=by simp
structure VarsAre(vars:List Nat):Prop
theorem HZ{P:Program}{ro:Option Nat}{n:Nat}{ops:Array Oper}{Q:DX->St->Prop}{df:List DDf}{rest:List Oper}{γ Sr:Fr}{V:Sig}{t:Nat}{ty:TypeId}{pos:String}{after:Array Edge}{d:D}{vars:List Nat}(_:VarsAre vars){tab:Nat->Ty}(ht:B8 P tab){T T' ty':Nat}{x:Operand}{pos':String}{after':Array Edge}{cs:List D}(hv:vars.contains t=false)(hT:T'=T)(htn:decide (t<n)=true)(hx:Ek t x=true)(ho:A5 (tab T).k=false)
  (hl:A4 γ (A6 [x])=some Sr) (he:ev Sr x=d) (htold:d.told=true) (hc:d.cells=cs) (hlen:cs.length=(tab T).size) (hflat:Cp cs=true)
  (h:DOps P ro n ops Q rest ⟨(t,.cptr cs 0)::γ,V,df⟩) :
  DOps P ro n ops Q (⟨some t,.alloc T,ty,pos,after,none⟩::⟨none,.store T' (.tmp t) x,ty',pos',after',none⟩::rest) ⟨γ,V,df⟩:=
 TQ ht vars hv hT htn hx ho hl he htold hc hlen hflat h
theorem GJ{P:Program}{ro:Option Nat}{n:Nat}{ops:Array Oper}{Q:DX->St->Prop}{df:List DDf}{rest:List Oper}{γ Sr Sr2:Fr}{V:Sig}{t t2:Nat}{d d2:D}{vars:List Nat}(_:VarsAre vars){tab:Nat->Ty}(ht:B8 P tab){T T' ty ty' ty2:Nat}{x y:Operand}{pos pos' pos2:String}{after after' after2:Array Edge}{cs:List D}(hv:vars.contains t=false)(hT:T'=T)(htn:decide (t<n)=true)(htn2:decide (t2<n)=true)(hx:Ek t x=true)(hy:Ek t y=true)(hxy:Ek t2 x=true)(h12:decide (t2=t)=false)(ho:A5 (tab T).k=false)
  (hl2:A4 γ (A6 [y])=some Sr2) (he2:ev Sr2 y=d2) (hl:A4 γ (A6 [x])=some Sr) (he:ev Sr x=d) (htold:d.told=true) (hc:d.cells=cs) (hlen:cs.length=(tab T).size) (hflat:Cp cs=true)
  (h:DOps P ro n ops Q rest ⟨(t,.cptr cs 0)::(t2,d2)::γ,V,df⟩) :
  DOps P ro n ops Q (⟨some t,.alloc T,ty,pos,after,none⟩::⟨some t2,.assign y,ty2,pos2,after2,none⟩::⟨none,.store T' (.tmp t) x,ty',pos',after',none⟩::rest) ⟨γ,V,df⟩:=
 QQ ht vars hv hT htn htn2 hx hy hxy h12 ho hl2 he2 hl he htold hc hlen hflat h
theorem td0{p:Prop}(h:p:=by simp(disch:=first|omega|assumption) [An,big1,big2,w8]<;>(try simp only[B1,B2,AJ,B0,Ay,AM,AL,AK,AI,Ax,AH,AG,AF])<;>with_unfolding_all rfl):p:=h
theorem tdW{p:Prop}(h:p:=by first|exact A7 _|exact Bc _ _|exact Aq _ (.inl rfl)|exact Dv _|(refine HM _ ?_;first|omega|(simp;done)|(simp;omega))|(refine Bd ?_;(simp;done))|(refine Bd ?_;(simp[cI,cS,cII,D8,C5,Ee];done))|(refine DI _ ?_;(simp[cI,cS,cII];done))|(refine Bd ?_;(simp_all;done))|assumption):p:=h
theorem tdT{p:Prop}(h:p:=by(first|refine FW ?_ ?_|skip)<;>(repeat' first|exact FV|refine F0 tdR ?_ ?_|(first|exact A7 _|exact Bc _ _|exact Aq _ (.inl rfl)|exact Dv _|(refine HM _ ?_;first|omega|(simp;done)|(simp;omega))|(refine Bd ?_;(simp;done))|(refine Bd ?_;(simp[cI,cS,cII,D8,C5,Ee];done))|(refine DI _ ?_;(simp[cI,cS,cII];done))|(refine Bd ?_;(simp_all;done))|assumption))):p:=h
theorem tdU{p:Prop}(h:p:=by first|exact Sub.refl _|(refine BY ?_;simp;done)|assumption|exact(Sub.refl _).set (by assumption)):p:=h
section
variable {P:Program}{ro:Option Nat}{n:Nat}{ops:Array Oper}{N:Nat}{S0:Sig}{Q:DX->St->Prop}{df:List DDf}{rest:List Oper}{γ Sr:List (Nat×D)}{V:Sig}{t:Nat}{ty:TypeId}{pos:String}{after:Array Edge}{l:List (Bool×Oper)}{d:D}
theorem AE{fop:Operand}{args:Array Operand}{ats:Array TypeId}{f:Nat}{first cap us bs:List D}(h:DCall P f bs V (rS d V))(k1:DOps P ro n ops Q rest ⟨(t,d)::γ,V,df⟩)(hl:A4 γ (A6 (fop::args.toList))=some Sr:=by exact tdR)(hf:ev Sr fop=.func (.func f) first cap:=by exact tdR)(ha:first++args.toList.map (ev Sr)++cap=us:=by exact td0)(hp:bs=us:=by exact tdR)(htn:decide (t<n)=true:=by exact tdR):DOps P ro n ops Q (⟨some t,(cv fop args ats),ty,pos,after,none⟩::rest) ⟨γ,V,df⟩:=F2 hl hf ha (.inl hp) h htn k1
theorem EX{fop:Operand}{args:Array Operand}{ats:Array TypeId}{f:Nat}{first cap us bs:List D}{j:Nat}{want:Bool}{k:Nat}(h:DCall P f bs V (rS d V))(k1:DOps P ro n ops Q rest ⟨(t,d)::γ,V,df⟩)(hk:(ops[j]?).bind (·.dst)=some k:=by exact tdR)(hb:γ.lookup k=some (.bool want):=by exact tdR)(hl:A4 γ (A6 (fop::args.toList))=some Sr:=by exact tdR)(hf:ev Sr fop=.func (.func f) first cap:=by exact tdR)(ha:first++args.toList.map (ev Sr)++cap=us:=by exact td0)(hp:bs=us:=by exact tdR)(htn:decide (t<n)=true:=by exact tdR):DOps P ro n ops Q (⟨some t,(cv fop args ats),ty,pos,after,some (j,want)⟩::rest) ⟨γ,V,df⟩:=DY hk hb hl hf ha (.inl hp) h htn k1
theorem moR{fop:Operand}{args:Array Operand}{ats:Array TypeId}{f:Nat}{first cap us bs:List D}(h:DCall P f bs V (rS d V))(k1:MO P ro n ops N S0 Q df l ((t,d)::γ) V)(hl:A4 γ (A6 (fop::args.toList))=some Sr:=by exact tdR)(hf:ev Sr fop=.func (.func f) first cap:=by exact tdR)(ha:first++args.toList.map (ev Sr)++cap=us:=by exact td0)(hp:bs=us:=by exact tdR)(htn:decide (t<n)=true:=by exact tdR)(hC:Sub S0 V:=by first|exact Sub.refl _|assumption):MO P ro n ops N S0 Q df ((true,⟨some t,(cv fop args ats),ty,pos,after,none⟩)::l) γ V:=Hv hl hf ha (.inl hp) h htn hC k1
theorem callP{fop:Operand}{args:Array Operand}{ats:Array TypeId}{f:Nat}{first cap us bs:List D}(h:DCall P f bs V (rS d V))(k1:DOps P ro n ops Q rest ⟨(t,d)::γ,V,df⟩)(hl:A4 γ (A6 (fop::args.toList))=some Sr:=by exact tdR)(hf:ev Sr fop=.func (.func f) first cap:=by exact tdR)(ha:first++args.toList.map (ev Sr)++cap=us:=by exact td0)(hp:bs=us.map D.plain:=by exact tdR)(htn:decide (t<n)=true:=by exact tdR):DOps P ro n ops Q (⟨some t,(cv fop args ats),ty,pos,after,none⟩::rest) ⟨γ,V,df⟩:=F2 hl hf ha (.inr hp) h htn k1
theorem EY{fop:Operand}{args:Array Operand}{ats:Array TypeId}{f:Nat}{first cap us bs:List D}{j:Nat}{want:Bool}{k:Nat}(h:DCall P f bs V (rS d V))(k1:DOps P ro n ops Q rest ⟨(t,d)::γ,V,df⟩)(hk:(ops[j]?).bind (·.dst)=some k:=by exact tdR)(hb:γ.lookup k=some (.bool want):=by exact tdR)(hl:A4 γ (A6 (fop::args.toList))=some Sr:=by exact tdR)(hf:ev Sr fop=.func (.func f) first cap:=by exact tdR)(ha:first++args.toList.map (ev Sr)++cap=us:=by exact td0)(hp:bs=us.map D.plain:=by exact tdR)(htn:decide (t<n)=true:=by exact tdR):DOps P ro n ops Q (⟨some t,(cv fop args ats),ty,pos,after,some (j,want)⟩::rest) ⟨γ,V,df⟩:=DY hk hb hl hf ha (.inr hp) h htn k1
theorem moP{fop:Operand}{args:Array Operand}{ats:Array TypeId}{f:Nat}{first cap us bs:List D}(h:DCall P f bs V (rS d V))(k1:MO P ro n ops N S0 Q df l ((t,d)::γ) V)(hl:A4 γ (A6 (fop::args.toList))=some Sr:=by exact tdR)(hf:ev Sr fop=.func (.func f) first cap:=by exact tdR)(ha:first++args.toList.map (ev Sr)++cap=us:=by exact td0)(hp:bs=us.map D.plain:=by exact tdR)(htn:decide (t<n)=true:=by exact tdR)(hC:Sub S0 V:=by first|exact Sub.refl _|assumption):MO P ro n ops N S0 Q df ((true,⟨some t,(cv fop args ats),ty,pos,after,none⟩)::l) γ V:=Hv hl hf ha (.inr hp) h htn hC k1
theorem Ab{fop:Operand}{args:Array Operand}{ats:Array TypeId}{f:Nat}{first cap us bs:List D}{R:DE->Sig->Prop}{dst:Option Tmp}(h:DCall P f bs V R)(hret:∀d S',R (.ret d) S'->DOps P ro n ops Q rest ⟨putD dst d γ,S',df⟩)(hpan:∀d S',R (.panic d) S'->Q (.panic d) ⟨γ,S',df⟩)(hl:A4 γ (A6 (fop::args.toList))=some Sr:=by exact tdR)(hf:ev Sr fop=.func (.func f) first cap:=by exact tdR)(ha:first++args.toList.map (ev Sr)++cap=us:=by exact td0)(hp:bs=us:=by exact tdR)
  (ho:As n ⟨dst,(cv fop args ats),ty,pos,after,none⟩=true:=by exact tdR):DOps P ro n ops Q (⟨dst,(cv fop args ats),ty,pos,after,none⟩::rest) ⟨γ,V,df⟩:=Ex hl hf ha (.inl hp) h ho hret hpan
theorem callWP{fop:Operand}{args:Array Operand}{ats:Array TypeId}{f:Nat}{first cap us bs:List D}{R:DE->Sig->Prop}{dst:Option Tmp}(h:DCall P f bs V R)(hret:∀d S',R (.ret d) S'->DOps P ro n ops Q rest ⟨putD dst d γ,S',df⟩)(hpan:∀d S',R (.panic d) S'->Q (.panic d) ⟨γ,S',df⟩)(hl:A4 γ (A6 (fop::args.toList))=some Sr:=by exact tdR)(hf:ev Sr fop=.func (.func f) first cap:=by exact tdR)(ha:first++args.toList.map (ev Sr)++cap=us:=by exact td0)(hp:bs=us.map D.plain:=by exact tdR)
  (ho:As n ⟨dst,(cv fop args ats),ty,pos,after,none⟩=true:=by exact tdR):DOps P ro n ops Q (⟨dst,(cv fop args ats),ty,pos,after,none⟩::rest) ⟨γ,V,df⟩:=Ex hl hf ha (.inr hp) h ho hret hpan
theorem cndB{c:Nat}{x y:Code}{b:Bool}(ht:b=true->DWp P ro n x Q ⟨(c,.bool true)::γ,V,df⟩)(hf:b=false->DWp P ro n y Q ⟨(c,.bool false)::γ,V,df⟩)(hl:γ.lookup c=some (.bool b):=by exact tdR):DWp P ro n (.cond (.tmp c) x y) Q ⟨γ,V,df⟩:=by
 refine Pe (s:=⟨γ,V,df⟩) (t:=b) (Au hl) (fun h=>?_) (fun h=>?_)
 ·exact dwp_wk (Bz (by rw[Au hl,h];exact A7 _)) (ht h)
 ·exact dwp_wk (Bz (by rw[Au hl,h];exact A7 _)) (hf h)
theorem mix{lo:List Oper}{id:Nat}(ord E:List Nat){lp:List (Bool×Oper)}(h:MO prog ro n lo.toArray 334 V Q df lp γ V)(hB:Em lo.toArray E ord=true:=by kernel_rfl)(hl:FF lo E ord=some lp:=by exact tdR):DWp prog ro n (.region id lo.toArray true) Q ⟨γ,V,df⟩:=
 Pb Al mixed ord E V hB (Sub.refl _) hl h
theorem mixAt{lo:List Oper}{id:Nat}(ord E:List Nat)(S0:Sig)(hC:Sub S0 V){lp:List (Bool×Oper)}(h:MO prog ro n lo.toArray 334 S0 Q df lp γ V)(hB:Em lo.toArray E ord=true:=by kernel_rfl)(hl:FF lo E ord=some lp:=by exact tdR):DWp prog ro n (.region id lo.toArray true) Q ⟨γ,V,df⟩:=
 Pb Al mixed ord E S0 hB hC hl h
theorem wkR{U':Fr}{S':Sig}(h:TellsR γ U':=by exact tdT)(hU:Sub S' V:=by exact tdU):Wk P n ⟨γ,V,df⟩ ⟨U',S',df⟩:=Ky h hU
theorem Bj{Sk:Fr}{α:Type}{c:Code}(keep:List Nat)(I:α->Prop)(ov:α->Fr)(sg:α->Sig)(μ:α->Nat)(x0:α)(h0:I x0)
  (round:∀x,I x->DWp P ro n c (Then (fun s'=> ∃x',I x'/\μ x'<μ x/\Wk P n s' ⟨ov x'++Sk,sg x',df⟩) Q) ⟨ov x++Sk,sg x,df⟩) (hk:Dg γ keep=some Sk:=by exact tdR) (h1:TellsR γ (ov x0++Sk):=by exact tdT) (h2:Sub (sg x0) V:=by exact tdU):DWp P ro n (.loop c) Q ⟨γ,V,df⟩:=EU keep I ov sg μ x0 hk h0 h1 h2 round
theorem Br{Sk:Fr}{α β:Type}{c:Code}(keep:List Nat)(I:α->β->Prop)(ov:α->β->Fr)(sg:α->β->Sig)(μ:α->β->Nat)(x0:α)(y0:β)(h0:I x0 y0)
  (round:∀x y,I x y->DWp P ro n c (Then (fun s'=> ∃x' y',I x' y'/\μ x' y'<μ x y/\Wk P n s' ⟨ov x' y'++Sk,sg x' y',df⟩) Q) ⟨ov x y++Sk,sg x y,df⟩) (hk:Dg γ keep=some Sk:=by exact tdR) (h1:TellsR γ (ov x0 y0++Sk):=by exact tdT) (h2:Sub (sg x0 y0) V:=by exact tdU):DWp P ro n (.loop c) Q ⟨γ,V,df⟩:=Qs keep I ov sg μ x0 y0 hk h0 h1 h2 round
theorem FG{Sk:Fr}{α β δ:Type}{c:Code}(keep:List Nat)(I:α->β->δ->Prop)(ov:α->β->δ->Fr)(sg:α->β->δ->Sig)(μ:α->β->δ->Nat)(x0:α)(y0:β)(z0:δ)(h0:I x0 y0 z0)
  (round:∀x y z,I x y z->DWp P ro n c (Then (fun s'=> ∃x' y' z',I x' y' z'/\μ x' y' z'<μ x y z/\Wk P n s' ⟨ov x' y' z'++Sk,sg x' y' z',df⟩) Q) ⟨ov x y z++Sk,sg x y z,df⟩) (hk:Dg γ keep=some Sk:=by exact tdR) (h1:TellsR γ (ov x0 y0 z0++Sk):=by exact tdT) (h2:Sub (sg x0 y0 z0) V:=by exact tdU):DWp P ro n (.loop c) Q ⟨γ,V,df⟩:=Qr keep I ov sg μ x0 y0 z0 hk h0 h1 h2 round
theorem fin{fn:Func}{R:DE->Sig->Prop}{S':Sig}{d:D}(hR:R (.ret d) S')(hU:Sub S' V:=by exact tdU)(h:resD fn γ=some d:=by exact tdR):Eg P n fn R .ret ⟨γ,V,[]⟩:=Pa hU h hR
theorem finS{fn:Func}{R:DE->Sig->Prop}{S':Sig}{es:List (List D)}{o:Own}{t:Nat}(hR:R (.ret (.slice es .no)) S')(hU:Sub S' V:=by exact tdU)(hr:fn.results=#[.tmp t]:=by exact tdR)(h:getD γ t=.slice es o:=by exact Au tdR):Eg P n fn R .ret ⟨γ,V,[]⟩:=Tj hU hr h hR
theorem fin1{fn:Func}{R:DE->Sig->Prop}{S':Sig}{t:Nat}{d d':D}(hR:R (.ret d') S')(hU:Sub S' V:=by exact tdU)(hr:fn.results=#[.tmp t]:=by exact tdR)(hl:γ.lookup t=some d:=by exact tdR)(hw:WkD d d':=by exact tdW):Eg P n fn R .ret ⟨γ,V,[]⟩:=
 ⟨⟨[(t,d')],S',[]⟩,wk_to (show Tells γ [(t,d')] from⟨by rw[Au hl];exact hw,trivial⟩) hU,rfl,d',E1 (by simp[resD,hr]),Ew hR⟩
theorem fin2{fn:Func}{R:DE->Sig->Prop}{S':Sig}{t u:Nat}{d d' e e':D}(hR:R (.ret (.tup [d',e'])) S')(hU:Sub S' V:=by exact tdU)(hr:fn.results=#[.tmp t,.tmp u]:=by exact tdR)(hl:γ.lookup t=some d:=by exact tdR)(hl2:γ.lookup u=some e:=by exact tdR)(htu:decide (u=t)=false:=by exact tdR)(hw:WkD d d':=by exact tdW)(hw2:WkD e e':=by exact tdW):Eg P n fn R .ret ⟨γ,V,[]⟩:=
 ⟨⟨[(t,d'),(u,e')],S',[]⟩,wk_to (show Tells γ [(t,d'),(u,e')] from ⟨by rw [Au hl];exact hw,by rw [Au hl2];exact hw2,trivial⟩) hU,rfl, .tup [d',e'],E1 (by
  have:u≠t:=by simpa using htu
  simp[resD,hr,this]),Ew hR⟩
theorem fin0{fn:Func}{R:DE->Sig->Prop}{S':Sig}(hR:R (.ret (.tup [])) S')(hU:Sub S' V:=by exact tdU)(hr:fn.results=#[]:=by exact tdR):Eg P n fn R .ret ⟨γ,V,[]⟩:=Pa hU (by simp[resD,hr]) hR
theorem Dl{fn:Func}{R:DE->Sig->Prop}{S':Sig}(hR:R (.ret (.tup [])) S')(hU:Sub S' V:=by exact tdU)(hr:fn.results=#[]:=by exact tdR):Eg P n fn R .normal ⟨γ,V,[]⟩:=NS hU (by simp[resD,hr]) hR
theorem finP{fn:Func}{R:DE->Sig->Prop}{S':Sig}{d:D}(hR:R (.panic d) S')(hU:Sub S' V:=by exact tdU):Eg P n fn R (.panic d) ⟨γ,V,[]⟩:=Tk hU hR
theorem Cj{c:Code}(t sz:Nat)(h:∀i,V i=none->DWp P ro n c Q ⟨(t,.slice [] (.tag i))::γ,V.set i (.tail sz 0),df⟩)(ht:getD γ t=.nils:=by exact Au tdR):DWp P ro n c Q ⟨γ,V,df⟩:=dwp_tag t sz ht h
end
section
variable {ro:Option Nat}{n:Nat}{ops:Array Oper}{N:Nat}{S0:Sig}{Q:DX->St->Prop}{df:List DDf}{rest:List Oper}{γ Sr:List (Nat×D)}{V:Sig}{t:Nat}{ty:TypeId}{pos:String}{after:Array Edge}{d:D}{s x:Operand}{T T' e e':Nat}
theorem evs{s x:Operand}(hl:A4 γ (A6 [s,x])=some Sr):ev Sr s=ev γ s/\ev Sr x=ev γ x:=
 have h:∀z∈[s,x],ev Sr z=ev γ z:=fun z hz=>Bv fun t ht=>AD hl t (AU (by rw[<-ht];exact hz))
 ⟨h s (by simp),h x (by simp)⟩
theorem appN{new:List (List D)}(h:∀i,V i=none->DOps prog ro n ops Q rest ⟨(t,.slice new (.tag i))::γ,V.set i (.tail (tab e).size new.length),df⟩)
  (hl:A4 γ (A6 [s,x])=some Sr:=by exact tdR) (hk:(tab T).k=.slice e:=by(simp<;>rfl)) (hk':(tab T').k=.slice e':=by(simp<;>rfl)) (he:A5 (tab e).k=false:=by simp)
  (h1:ev Sr s=.nils:=by exact tdR) (h2:esOf (ev Sr x)=some new:=by(simp<;>with_unfolding_all rfl)) (hlen:∀c∈new,c.length=(tab e).size:=by first|exact C4 _|exact Eo _|exact CW _|simp)
  (hb:new.length*(tab e).bytes<=140737488355328:=by first|(simp;done)|(simp;omega)) (hm:new.length<=9223372036854775807:=by first|(simp;done)|(simp;omega)) (htn:decide (t<n)=true:=by exact tdR) :
  DOps prog ro n ops Q (⟨some t,(cA s x T T'),ty,pos,after,none⟩::rest) ⟨γ,V,df⟩:=by
 obtain⟨e1,e2⟩:=evs hl;exact IX Ad rfl (by simpa using htn) hk hk' he (by rw[<-e1];exact h1) (by rw[<-e2];exact h2) hlen hb hm h
theorem appC{es new:List (List D)}(h:∀i,V i=none->DOps prog ro n ops Q rest ⟨(t,.slice (es++new) (.tag i))::γ,V.set i (.tail (tab e).size (es.length+new.length)),df⟩)
  (hl:A4 γ (A6 [s,x])=some Sr:=by exact tdR) (hk:(tab T).k=.slice e:=by(simp<;>rfl)) (hk':(tab T').k=.slice e':=by(simp<;>rfl)) (he:A5 (tab e).k=false:=by simp)
  (h1:ev Sr s=.slice es .clip:=by exact tdR) (h2:esOf (ev Sr x)=some new:=by(simp<;>with_unfolding_all rfl)) (hne:new≠[]:=by simp)
  (hlen:∀c∈es,c.length=(tab e).size:=by first|exact C4 _|exact Eo _|exact CW _|simp) (hlen':∀c∈new,c.length=(tab e).size:=by first|exact C4 _|exact Eo _|exact CW _|simp)
  (hb:(es.length+new.length)*(tab e).bytes<=140737488355328:=by first|(simp;done)|(simp;omega)) (hm:es.length+new.length<=9223372036854775807:=by first|(simp;done)|(simp;omega)) (htn:decide (t<n)=true:=by exact tdR) :
  DOps prog ro n ops Q (⟨some t,(cA s x T T'),ty,pos,after,none⟩::rest) ⟨γ,V,df⟩:=by
 obtain⟨e1,e2⟩:=evs hl;exact C7 Ad rfl (by simpa using htn) hk hk' he (by rw[<-e1];exact h1) (by rw[<-e2];exact h2) hne hlen hlen' hb hm h
theorem app0{es:List (List D)}(h:DOps prog ro n ops Q rest ⟨(t,d)::γ,V,df⟩)
  (hl:A4 γ (A6 [s,x])=some Sr:=by exact tdR) (hd:ev Sr s=d:=by exact tdR) (hk:(tab T).k=.slice e:=by(simp<;>rfl)) (hk':(tab T').k=.slice e':=by(simp<;>rfl)) (he:A5 (tab e).k=false:=by simp)
  (h1:esOf d=some es:=by exact tdR) (h2:esOf (ev Sr x)=some []:=by first|with_unfolding_all rfl|(simp_all;done)) (htn:decide (t<n)=true:=by exact tdR) :
  DOps prog ro n ops Q (⟨some t,(cA s x T T'),ty,pos,after,none⟩::rest) ⟨γ,V,df⟩:=by
 obtain⟨e1,e2⟩:=evs hl;have:=CV (ops:=ops) (Q:=Q) (rest:=rest) (df:=df) (V:=V) (γ:=γ) (ty:=ty) (pos:=pos) (after:=after) (guard:=none) (es:=es) (ro:=ro) (n:=n) Ad (T:=T) (T':=T') (s:=s) (x:=x) rfl (by simpa using htn) hk hk' he (by rw[<-e1,hd];exact h1) (by rw[<-e2];exact h2) (by rw[<-e1,hd];exact h);exact this
theorem newM{T:Nat}(h:∀i,V i=none->DOps prog ro n ops Q rest ⟨(t,.map i)::γ,V.set i (.map []),df⟩)(htn:decide (t<n)=true:=by exact tdR):
  DOps prog ro n ops Q (⟨some t,.makeMap T none,ty,pos,after,none⟩::rest) ⟨γ,V,df⟩:=
 MT Ad rfl (.inl rfl) (by simpa using htn) h
theorem newV{T:Nat}{z:List D}(h:∀i,V i=none->DOps prog ro n ops Q rest ⟨(t,.ptr i 0)::γ,V.set i (.cells z),df⟩)(hk:A5 (tab T).k=false:=by simp)(hz:(tab T).zero=z:=by(simp<;>rfl))(htn:decide (t<n)=true:=by exact tdR):
  DOps prog ro n ops Q (⟨some t,.alloc T,ty,pos,after,none⟩::rest) ⟨γ,V,df⟩:=by
 subst hz;exact DT Ad hk (by simpa using htn) h
theorem pan{T:Nat}{dst:Option Tmp}(h:Q (.panic (.iface T d)) ⟨γ,V,df⟩)(hl:A4 γ (A6 [x])=some Sr:=by exact tdR)(hx:ev Sr x=.iface T d:=by exact tdR):
  DOps prog ro n ops Q (⟨dst,.panic x,ty,pos,after,none⟩::rest) ⟨γ,V,df⟩:=Qu rfl (by rw[<-Bu hl];exact hx) h
theorem isN{es:List (List D)}{o:Own}(h:∀b,(b=true->es=[])->DOps prog ro n ops Q rest ⟨(t,.bool b)::γ,V,df⟩)(hl:A4 γ (A6 [x])=some Sr:=by exact tdR)(hx:ev Sr x=.slice es o:=by exact tdR)(hk:(tab T).k=.slice e:=by(simp<;>rfl))(htn:decide (t<n)=true:=by exact tdR):
  DOps prog ro n ops Q (⟨some t,.binOp .eql T x (.const (.slice none 0 0)) T',ty,pos,after,none⟩::rest) ⟨γ,V,df⟩:=
 Qw Ad hk rfl (by rw[<-Bu hl];exact hx) (by simpa using htn) h
end
end Go.DL
