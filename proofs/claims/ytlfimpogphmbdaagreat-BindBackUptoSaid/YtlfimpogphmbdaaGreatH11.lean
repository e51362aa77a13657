/- A part of the proof. -/
import Derived.Test.YtlfimpogphmbdaaGreatH10
set_option linter.all false
namespace Go.DL
open Go.Proofs.Tryz
open Go Go.Proofs
def Mr:EqTy prog 63:=⟨by kernel_rfl,by kernel_rfl,by kernel_rfl⟩
structure Hold(F:Prop):Prop where
 get:F
def DW{a b:Int}(h:a<=b):decide (a<=b)=true:=by simp[h]
def CM{a b:Int}(h:b<a):decide (a<=b)=false:=by simp;omega
def DV{a b:Int}(h:a<b):decide (a<b)=true:=by simp[h]
def CL{a b:Int}(h:b<=a):decide (a<b)=false:=by simp;omega
def Gr{p:Prop}[Decidable p]{α:Type}{a b:α}(h:p):(if p then a else b)=a:=aS h
def DY{a b:Int}(h:a=b):decide (a=b)=true:=by simp[h]
def DU{a b:Int}(h:¬a=b):decide (a=b)=false:=by simp[h]
def CH{a b:Nat}(h:a<=b):decide (a<=b)=true:=by simp[h]
def C0{a b:Nat}(h:b<a):decide (a<=b)=false:=by simp;omega
def CG{a b:Nat}(h:a<b):decide (a<b)=true:=by simp[h]
def BZ{a b:Nat}(h:b<=a):decide (a<b)=false:=by simp;omega
def CI{a b:Nat}(h:a=b):decide (a=b)=true:=by simp[h]
def CF{a b:Nat}(h:¬a=b):decide (a=b)=false:=by simp[h]
def A4(a b:Bool):(DE.ret (.bool a)=DE.ret (.bool b))=(a=b):=by simp
structure lr(vars:fU):Prop
def K2{P:Program}{ro:Option Nat}{n:Nat}{ops:Array Oper}{Q:DX->St->Prop}{df:List DDf}{rest:List Oper}{γ Sr:Fr}{V:Sig}{t:Nat}{ty:TypeId}{pos:String}{after:Array Edge}{d:D}{vars:fU}(_:lr vars){tab:Nat->Ty}(ht:BC P tab){T T' ty':Nat}{x:Operand}{pos':String}{after':Array Edge}{cs:fQ}(hv:vars.contains t=false)(hT:T'=T)(d6:decide (t<n)=true)(hx:FW t x=true)(ho:A5 (tab T).k=false)
  (hl:A7 γ (Ac [x])=some Sr) (he:ev Sr x=d) (e7:d.told=true) (hc:d.cells=cs) (hlen:cs.length=(tab T).size) (e8:Dq cs=true)
  (h:aC P ro n ops Q rest ⟨(t,.aw cs 0)::γ,V,df⟩) :
  aC P ro n ops Q (⟨some t,.alloc T,ty,pos,after,none⟩::⟨none,.store T' (.tmp t) x,ty',pos',after',none⟩::rest) ⟨γ,V,df⟩:=
 Yc ht vars hv hT d6 hx ho hl he e7 hc hlen e8 h
def IC{P:Program}{ro:Option Nat}{n:Nat}{ops:Array Oper}{Q:DX->St->Prop}{df:List DDf}{rest:List Oper}{γ Sr Sr2:Fr}{V:Sig}{t t2:Nat}{d d2:D}{vars:fU}(_:lr vars){tab:Nat->Ty}(ht:BC P tab){T T' ty ty' ty2:Nat}{x y:Operand}{pos pos' pos2:String}{after after' after2:Array Edge}{cs:fQ}(hv:vars.contains t=false)(hT:T'=T)(d6:decide (t<n)=true)(fX:decide (t2<n)=true)(hx:FW t x=true)(hy:FW t y=true)(f8:FW t2 x=true)(gk:decide (t2=t)=false)(ho:A5 (tab T).k=false)
  (f0:A7 γ (Ac [y])=some Sr2) (gj:ev Sr2 y=d2) (hl:A7 γ (Ac [x])=some Sr) (he:ev Sr x=d) (e7:d.told=true) (hc:d.cells=cs) (hlen:cs.length=(tab T).size) (e8:Dq cs=true)
  (h:aC P ro n ops Q rest ⟨(t,.aw cs 0)::(t2,d2)::γ,V,df⟩) :
  aC P ro n ops Q (⟨some t,.alloc T,ty,pos,after,none⟩::⟨some t2,.assign y,ty2,pos2,after2,none⟩::⟨none,.store T' (.tmp t) x,ty',pos',after',none⟩::rest) ⟨γ,V,df⟩:=
 Um ht vars hv hT d6 fX hx hy f8 gk ho f0 gj hl he e7 hc hlen e8 h
def td0{p:Prop}(h:p:=by simp(disch:=first|omega|assumption) [Aq,big1,big2,w8]<;>(try simp only[BA,BB,B5,Bz,AM,B8,B7,B6,B4,AL,B3,B2,B1])<;>with_unfolding_all rfl):p:=h
def tdW{p:Prop}(h:p:=by first|exact A9 _|exact AO _ _|exact An _ (.inl rfl)|exact EO _|(refine JQ _ ?_;first|omega|(simp;done)|(simp;omega))|(refine B9 ?_;(simp;done))|(refine B9 ?_;(simp[cI,cS,cII,EM,Cp,Cl];done))|(refine CY _ ?_;(simp[cI,cS,cII];done))|(refine B9 ?_;(simp_all;done))|assumption):p:=h
def tdT{p:Prop}(h:p:=by(first|refine HN ?_ ?_|skip)<;>(repeat' first|exact HM|refine GF tdR ?_ ?_|(first|exact A9 _|exact AO _ _|exact An _ (.inl rfl)|exact EO _|(refine JQ _ ?_;first|omega|(simp;done)|(simp;omega))|(refine B9 ?_;(simp;done))|(refine B9 ?_;(simp[cI,cS,cII,EM,Cp,Cl];done))|(refine CY _ ?_;(simp[cI,cS,cII];done))|(refine B9 ?_;(simp_all;done))|assumption))):p:=h
def tdU{p:Prop}(h:p:=by first|exact Sub.refl _|(refine BG ?_;simp;done)|assumption|exact(Sub.refl _).set (by assumption)):p:=h
section
variable {P:Program}{ro:Option Nat}{n:Nat}{ops:Array Oper}{N:Nat}{S0:Sig}{Q:DX->St->Prop}{df:List DDf}{rest:List Oper}{γ Sr:List (Nat×D)}{V:Sig}{t:Nat}{ty:TypeId}{pos:String}{after:Array Edge}{l:List (Bool×Oper)}{d:D}
theorem Au{fop:Operand}{args:Array Operand}{ats:Array TypeId}{f:Nat}{first cap us bs:fQ}(h:aB P f bs V (rS d V))(k1:aC P ro n ops Q rest ⟨(t,d)::γ,V,df⟩)(hl:A7 γ (Ac (fop::args.toList))=some Sr:=by exact tdR)(hf:ev Sr fop=.func (.func f) first cap:=by exact tdR)(ha:first++args.toList.map (ev Sr)++cap=us:=by exact td0)(hp:bs=us:=by exact tdR)(d6:decide (t<n)=true:=by exact tdR):aC P ro n ops Q (⟨some t,(cv fop args ats),ty,pos,after,none⟩::rest) ⟨γ,V,df⟩:=IF hl hf ha (.inl hp) h d6 k1
theorem Fl{fop:Operand}{args:Array Operand}{ats:Array TypeId}{f:Nat}{first cap us bs:fQ}{j:Nat}{want:Bool}{k:Nat}(h:aB P f bs V (rS d V))(k1:aC P ro n ops Q rest ⟨(t,d)::γ,V,df⟩)(hk:(ops[j]?).bind (·.dst)=some k:=by exact tdR)(hb:γ.lookup k=some (.bool want):=by exact tdR)(hl:A7 γ (Ac (fop::args.toList))=some Sr:=by exact tdR)(hf:ev Sr fop=.func (.func f) first cap:=by exact tdR)(ha:first++args.toList.map (ev Sr)++cap=us:=by exact td0)(hp:bs=us:=by exact tdR)(d6:decide (t<n)=true:=by exact tdR):aC P ro n ops Q (⟨some t,(cv fop args ats),ty,pos,after,some (j,want)⟩::rest) ⟨γ,V,df⟩:=Hk hk hb hl hf ha (.inl hp) h d6 k1
theorem moR{fop:Operand}{args:Array Operand}{ats:Array TypeId}{f:Nat}{first cap us bs:fQ}(h:aB P f bs V (rS d V))(k1:MO P ro n ops N S0 Q df l ((t,d)::γ) V)(hl:A7 γ (Ac (fop::args.toList))=some Sr:=by exact tdR)(hf:ev Sr fop=.func (.func f) first cap:=by exact tdR)(ha:first++args.toList.map (ev Sr)++cap=us:=by exact td0)(hp:bs=us:=by exact tdR)(d6:decide (t<n)=true:=by exact tdR)(hC:Sub S0 V:=by first|exact Sub.refl _|assumption):MO P ro n ops N S0 Q df ((true,⟨some t,(cv fop args ats),ty,pos,after,none⟩)::l) γ V:=Ro hl hf ha (.inl hp) h d6 hC k1
theorem Ad{fop:Operand}{args:Array Operand}{ats:Array TypeId}{f:Nat}{first cap us bs:fQ}{R:DE->Sig->Prop}{dst:Option Tmp}(h:aB P f bs V R)(d7:∀d U',R (.ret d) U'->aC P ro n ops Q rest ⟨putD dst d γ,U',df⟩)(d8:∀d U',R (.panic d) U'->Q (.panic d) ⟨γ,U',df⟩:=by intro _ _ z;cases z.1)(hl:A7 γ (Ac (fop::args.toList))=some Sr:=by exact tdR)(hf:ev Sr fop=.func (.func f) first cap:=by exact tdR)(ha:first++args.toList.map (ev Sr)++cap=us:=by exact td0)(hp:bs=us:=by exact tdR)
  (ho:AJ n ⟨dst,(cv fop args ats),ty,pos,after,none⟩=true:=by exact tdR):aC P ro n ops Q (⟨dst,(cv fop args ats),ty,pos,after,none⟩::rest) ⟨γ,V,df⟩:=HQ hl hf ha (.inl hp) h ho d7 d8
theorem callWP{fop:Operand}{args:Array Operand}{ats:Array TypeId}{f:Nat}{first cap us bs:fQ}{R:DE->Sig->Prop}{dst:Option Tmp}(h:aB P f bs V R)(d7:∀d U',R (.ret d) U'->aC P ro n ops Q rest ⟨putD dst d γ,U',df⟩)(d8:∀d U',R (.panic d) U'->Q (.panic d) ⟨γ,U',df⟩)(hl:A7 γ (Ac (fop::args.toList))=some Sr:=by exact tdR)(hf:ev Sr fop=.func (.func f) first cap:=by exact tdR)(ha:first++args.toList.map (ev Sr)++cap=us:=by exact td0)(hp:bs=us.map D.plain:=by exact tdR)
  (ho:AJ n ⟨dst,(cv fop args ats),ty,pos,after,none⟩=true:=by exact tdR):aC P ro n ops Q (⟨dst,(cv fop args ats),ty,pos,after,none⟩::rest) ⟨γ,V,df⟩:=HQ hl hf ha (.inr hp) h ho d7 d8
theorem cndB{c:Nat}{x y:Code}{b:Bool}(ht:b=true->DWp P ro n x Q ⟨(c,.bool true)::γ,V,df⟩)(hf:b=false->DWp P ro n y Q ⟨(c,.bool false)::γ,V,df⟩)(hl:γ.lookup c=some (.bool b):=by exact tdR):DWp P ro n (.cond (.tmp c) x y) Q ⟨γ,V,df⟩:=by
 refine Sm (s:=⟨γ,V,df⟩) (t:=b) (At hl) (fun h=>?_) (fun h=>?_)
 ·exact kO (C9 (by rw[At hl,h];exact A9 _)) (ht h)
 ·exact kO (C9 (by rw[At hl,h];exact A9 _)) (hf h)
theorem mix{lo:List Oper}{id:Nat}(ord E:fU){lp:List (Bool×Oper)}(h:MO prog ro n lo.toArray 334 V Q df lp γ V)(hB:FZ lo.toArray E ord=true:=by kernel_rfl)(hl:Hn lo E ord=some lp:=by exact tdR):DWp prog ro n (.region id lo.toArray true) Q ⟨γ,V,df⟩:=
 Sg Ap mixed ord E V hB (Sub.refl _) hl h
theorem Ox{lo:List Oper}{id:Nat}(ord E:fU)(S0:Sig)(hC:Sub S0 V){lp:List (Bool×Oper)}(h:MO prog ro n lo.toArray 334 S0 Q df lp γ V)(hB:FZ lo.toArray E ord=true:=by kernel_rfl)(hl:Hn lo E ord=some lp:=by exact tdR):DWp prog ro n (.region id lo.toArray true) Q ⟨γ,V,df⟩:=
 Sg Ap mixed ord E S0 hB hC hl h
theorem wkR{V':Fr}{U':Sig}(h:kr γ V':=by exact tdT)(hZ:Sub U' V:=by exact tdU):Wk P n ⟨γ,V,df⟩ ⟨V',U',df⟩:=MU h hZ
theorem Bb{Sk:Fr}{α:Type}{c:Code}(keep:fU)(I:α->Prop)(ov:α->Fr)(sg:α->Sig)(μ:α->Nat)(x0:α)(h0:I x0)
  (round:∀x,I x->DWp P ro n c (lW (fun s'=> ∃x',I x'/\μ x'<μ x/\Wk P n s' ⟨ov x'++Sk,sg x',df⟩) Q) ⟨ov x++Sk,sg x,df⟩) (hk:Eu γ keep=some Sk:=by exact tdR) (h1:kr γ (ov x0++Sk):=by exact tdT) (h2:Sub (sg x0) V:=by exact tdU):DWp P ro n (.loop c) Q ⟨γ,V,df⟩:=GB keep I ov sg μ x0 hk h0 h1 h2 round
theorem AG{Sk:Fr}{α β:Type}{c:Code}(keep:fU)(I:α->β->Prop)(ov:α->β->Fr)(sg:α->β->Sig)(μ:α->β->Nat)(x0:α)(y0:β)(h0:I x0 y0)
  (round:∀x y,I x y->DWp P ro n c (lW (fun s'=> ∃x' y',I x' y'/\μ x' y'<μ x y/\Wk P n s' ⟨ov x' y'++Sk,sg x' y',df⟩) Q) ⟨ov x y++Sk,sg x y,df⟩) (hk:Eu γ keep=some Sk:=by exact tdR) (h1:kr γ (ov x0 y0++Sk):=by exact tdT) (h2:Sub (sg x0 y0) V:=by exact tdU):DWp P ro n (.loop c) Q ⟨γ,V,df⟩:=TS keep I ov sg μ x0 y0 hk h0 h1 h2 round
theorem E2{Sk:Fr}{α β δ:Type}{c:Code}(keep:fU)(I:α->β->δ->Prop)(ov:α->β->δ->Fr)(sg:α->β->δ->Sig)(μ:α->β->δ->Nat)(x0:α)(y0:β)(z0:δ)(h0:I x0 y0 z0)
  (round:∀x y z,I x y z->DWp P ro n c (lW (fun s'=> ∃x' y' z',I x' y' z'/\μ x' y' z'<μ x y z/\Wk P n s' ⟨ov x' y' z'++Sk,sg x' y' z',df⟩) Q) ⟨ov x y z++Sk,sg x y z,df⟩) (hk:Eu γ keep=some Sk:=by exact tdR) (h1:kr γ (ov x0 y0 z0++Sk):=by exact tdT) (h2:Sub (sg x0 y0 z0) V:=by exact tdU):DWp P ro n (.loop c) Q ⟨γ,V,df⟩:=TR keep I ov sg μ x0 y0 z0 hk h0 h1 h2 round
theorem fin{fn:Func}{R:DE->Sig->Prop}{U':Sig}{d:D}(hR:R (.ret d) U')(hZ:Sub U' V:=by exact tdU)(h:resD fn γ=some d:=by exact tdR):Fp P n fn R .ret ⟨γ,V,[]⟩:=Sf hZ h hR
theorem finS{fn:Func}{R:DE->Sig->Prop}{U':Sig}{es:fV}{o:Own}{t:Nat}(hR:R (.ret (.slice es .no)) U')(hZ:Sub U' V:=by exact tdU)(hr:fn.results=#[.tmp t]:=by exact tdR)(h:getD γ t=.slice es o:=by exact At tdR):Fp P n fn R .ret ⟨γ,V,[]⟩:=Xf hZ hr h hR
theorem kE{fn:Func}{R:DE->Sig->Prop}{U':Sig}{t:Nat}{d d':D}(hR:R (.ret d') U')(hZ:Sub U' V:=by exact tdU)(hr:fn.results=#[.tmp t]:=by exact tdR)(hl:γ.lookup t=some d:=by exact tdR)(hw:WkD d d':=by exact tdW):Fp P n fn R .ret ⟨γ,V,[]⟩:=
 ⟨⟨[(t,d')],U',[]⟩,Y4 (show Tells γ [(t,d')] from⟨by rw[At hl];exact hw,trivial⟩) hZ,rfl,d',EF (by simp[resD,hr]),Ft hR⟩
theorem fin2{fn:Func}{R:DE->Sig->Prop}{U':Sig}{t u:Nat}{d d' e e':D}(hR:R (.ret (.tup [d',e'])) U')(hZ:Sub U' V:=by exact tdU)(hr:fn.results=#[.tmp t,.tmp u]:=by exact tdR)(hl:γ.lookup t=some d:=by exact tdR)(f0:γ.lookup u=some e:=by exact tdR)(gb:decide (u=t)=false:=by exact tdR)(hw:WkD d d':=by exact tdW)(ga:WkD e e':=by exact tdW):Fp P n fn R .ret ⟨γ,V,[]⟩:=
 ⟨⟨[(t,d'),(u,e')],U',[]⟩,Y4 (show Tells γ [(t,d'),(u,e')] from ⟨by rw [At hl];exact hw,by rw [At f0];exact ga,trivial⟩) hZ,rfl, .tup [d',e'],EF (by
  have:u≠t:=by simpa using gb
  simp[resD,hr,this]),Ft hR⟩
theorem fin0{fn:Func}{R:DE->Sig->Prop}{U':Sig}(hR:R (.ret (.tup [])) U')(hZ:Sub U' V:=by exact tdU)(hr:fn.results=#[]:=by exact tdR):Fp P n fn R .ret ⟨γ,V,[]⟩:=Sf hZ (by simp[resD,hr]) hR
theorem EA{fn:Func}{R:DE->Sig->Prop}{U':Sig}(hR:R (.ret (.tup [])) U')(hZ:Sub U' V:=by exact tdU)(hr:fn.results=#[]:=by exact tdR):Fp P n fn R .normal ⟨γ,V,[]⟩:=QC hZ (by simp[resD,hr]) hR
theorem kV{fn:Func}{R:DE->Sig->Prop}{U':Sig}{d:D}(hR:R (.panic d) U')(hZ:Sub U' V:=by exact tdU):Fp P n fn R (.panic d) ⟨γ,V,[]⟩:=Xg hZ hR
theorem BL{c:Code}(t sz:Nat)(h:∀i,V i=none->DWp P ro n c Q ⟨(t,.slice [] (.tag i))::γ,V.set i (.tail sz 0),df⟩)(ht:getD γ t=.av:=by exact At tdR):DWp P ro n c Q ⟨γ,V,df⟩:=dwp_tag t sz ht h
end
section
variable {ro:Option Nat}{n:Nat}{ops:Array Oper}{N:Nat}{S0:Sig}{Q:DX->St->Prop}{df:List DDf}{rest:List Oper}{γ Sr:List (Nat×D)}{V:Sig}{t:Nat}{ty:TypeId}{pos:String}{after:Array Edge}{d:D}{s x:Operand}{T T' e e':Nat}
theorem evs{s x:Operand}(hl:A7 γ (Ac [s,x])=some Sr):ev Sr s=ev γ s/\ev Sr x=ev γ x:=
 have h:∀z∈[s,x],ev Sr z=ev γ z:=fun z hz=>CA fun t ht=>Be hl t (BE (by rw[<-ht];exact hz))
 ⟨h s k7,h x k7⟩
theorem appN{new:fV}(h:∀i,V i=none->aC prog ro n ops Q rest ⟨(t,.slice new (.tag i))::γ,V.set i (.tail (tab e).size new.length),df⟩)
  (hl:A7 γ (Ac [s,x])=some Sr:=by exact tdR) (hk:(tab T).k=.slice e:=by(simp<;>rfl)) (d9:(tab T').k=.slice e':=by(simp<;>rfl)) (he:A5 (tab e).k=false:=by simp)
  (h1:ev Sr s=.av:=by exact tdR) (h2:kz (ev Sr x)=some new:=by(simp<;>with_unfolding_all rfl)) (hlen:∀c∈new,c.length=(tab e).size:=by first|exact C5 _|exact Dy _|exact BX _|simp)
  (hb:new.length*(tab e).bytes<=140737488355328:=by first|(simp;done)|(simp;omega)) (hm:new.length<=9223372036854775807:=by first|(simp;done)|(simp;omega)) (d6:decide (t<n)=true:=by exact tdR) :
  aC prog ro n ops Q (⟨some t,(cA s x T T'),ty,pos,after,none⟩::rest) ⟨γ,V,df⟩:=by
 obtain⟨e1,e2⟩:=evs hl;exact Ds Ag rfl (by simpa using d6) hk d9 he (by rw[<-e1];exact h1) (by rw[<-e2];exact h2) hlen hb hm h
theorem appK{new:fV}(h:aC prog ro n ops Q rest ⟨(t,.slice new .no)::γ,V,df⟩)
  (hl:A7 γ (Ac [s,x])=some Sr:=by exact tdR) (hk:(tab T).k=.slice e:=by(simp<;>rfl)) (d9:(tab T').k=.slice e':=by(simp<;>rfl)) (he:A5 (tab e).k=false:=by simp)
  (h1:ev Sr s=.av:=by exact tdR) (h2:kz (ev Sr x)=some new:=by(simp<;>with_unfolding_all rfl)) (hlen:∀c∈new,c.length=(tab e).size:=by first|exact C5 _|exact Dy _|exact BX _|simp)
  (hb:new.length*(tab e).bytes<=140737488355328:=by first|(simp;done)|(simp;omega)) (hm:new.length<=9223372036854775807:=by first|(simp;done)|(simp;omega)) (d6:decide (t<n)=true:=by exact tdR) :
  aC prog ro n ops Q (⟨some t,(cA s x T T'),ty,pos,after,none⟩::rest) ⟨γ,V,df⟩:=by
 obtain⟨e1,e2⟩:=evs hl;exact TZ Ag rfl (by simpa using d6) hk d9 he (by rw[<-e1];exact h1) (by rw[<-e2];exact h2) hlen hb hm h
theorem appC{es new:fV}(h:∀i,V i=none->aC prog ro n ops Q rest ⟨(t,.slice (es++new) (.tag i))::γ,V.set i (.tail (tab e).size (es.length+new.length)),df⟩)
  (hl:A7 γ (Ac [s,x])=some Sr:=by exact tdR) (hk:(tab T).k=.slice e:=by(simp<;>rfl)) (d9:(tab T').k=.slice e':=by(simp<;>rfl)) (he:A5 (tab e).k=false:=by simp)
  (h1:ev Sr s=.slice es .clip:=by exact tdR) (h2:kz (ev Sr x)=some new:=by(simp<;>with_unfolding_all rfl)) (hne:new≠[]:=by simp)
  (hlen:∀c∈es,c.length=(tab e).size:=by first|exact C5 _|exact Dy _|exact BX _|simp) (hlen':∀c∈new,c.length=(tab e).size:=by first|exact C5 _|exact Dy _|exact BX _|simp)
  (hb:(es.length+new.length)*(tab e).bytes<=140737488355328:=by first|(simp;done)|(simp;omega)) (hm:es.length+new.length<=9223372036854775807:=by first|(simp;done)|(simp;omega)) (d6:decide (t<n)=true:=by exact tdR) :
  aC prog ro n ops Q (⟨some t,(cA s x T T'),ty,pos,after,none⟩::rest) ⟨γ,V,df⟩:=by
 obtain⟨e1,e2⟩:=evs hl;exact Co Ag rfl (by simpa using d6) hk d9 he (by rw[<-e1];exact h1) (by rw[<-e2];exact h2) hne hlen hlen' hb hm h
theorem app0{es:fV}(h:aC prog ro n ops Q rest ⟨(t,d)::γ,V,df⟩)
  (hl:A7 γ (Ac [s,x])=some Sr:=by exact tdR) (hd:ev Sr s=d:=by exact tdR) (hk:(tab T).k=.slice e:=by(simp<;>rfl)) (d9:(tab T').k=.slice e':=by(simp<;>rfl)) (he:A5 (tab e).k=false:=by simp)
  (h1:kz d=some es:=by exact tdR) (h2:kz (ev Sr x)=some []:=by first|with_unfolding_all rfl|(simp_all;done)) (d6:decide (t<n)=true:=by exact tdR) :
  aC prog ro n ops Q (⟨some t,(cA s x T T'),ty,pos,after,none⟩::rest) ⟨γ,V,df⟩:=by
 obtain⟨e1,e2⟩:=evs hl;have:=E3 (ops:=ops) (Q:=Q) (rest:=rest) (df:=df) (V:=V) (γ:=γ) (ty:=ty) (pos:=pos) (after:=after) (guard:=none) (es:=es) (ro:=ro) (n:=n) Ag (T:=T) (T':=T') (s:=s) (x:=x) rfl (by simpa using d6) hk d9 he (by rw[<-e1,hd];exact h1) (by rw[<-e2];exact h2) (by rw[<-e1,hd];exact h);exact this
theorem newM{T:Nat}(h:∀i,V i=none->aC prog ro n ops Q rest ⟨(t,.map i)::γ,V.set i (.map []),df⟩)(d6:decide (t<n)=true:=by exact tdR):
  aC prog ro n ops Q (⟨some t,.makeMap T none,ty,pos,after,none⟩::rest) ⟨γ,V,df⟩:=
 PH Ag rfl (.inl rfl) (by simpa using d6) h
theorem kR{T:Nat}{z:fQ}(h:∀i,V i=none->aC prog ro n ops Q rest ⟨(t,.ptr i 0)::γ,V.set i (.cells z),df⟩)(hk:A5 (tab T).k=false:=by simp)(hz:(tab T).zero=z:=by(simp<;>rfl))(d6:decide (t<n)=true:=by exact tdR):
  aC prog ro n ops Q (⟨some t,.alloc T,ty,pos,after,none⟩::rest) ⟨γ,V,df⟩:=by
 subst hz;exact El Ag hk (by simpa using d6) h
theorem pan{T:Nat}{dst:Option Tmp}(h:Q (.panic (.iface T d)) ⟨γ,V,df⟩)(hl:A7 γ (Ac [x])=some Sr:=by exact tdR)(hx:ev Sr x=.iface T d:=by exact tdR):
  aC prog ro n ops Q (⟨dst,.panic x,ty,pos,after,none⟩::rest) ⟨γ,V,df⟩:=TU rfl (by rw[<-Cz hl];exact hx) h
theorem isN{es:fV}{o:Own}(h:∀b,(b=true->es=[])->aC prog ro n ops Q rest ⟨(t,.bool b)::γ,V,df⟩)(hl:A7 γ (Ac [x])=some Sr:=by exact tdR)(hx:ev Sr x=.slice es o:=by exact tdR)(hk:(tab T).k=.slice e:=by(simp<;>rfl))(d6:decide (t<n)=true:=by exact tdR):
  aC prog ro n ops Q (⟨some t,.binOp .eql T x (.const (.slice none 0 0)) T',ty,pos,after,none⟩::rest) ⟨γ,V,df⟩:=
 TW Ag hk rfl (by rw[<-Cz hl];exact hx) (by simpa using d6) h
end
def Ug{P:Program}{n:Nat}{γ V':Fr}{V:Sig}{df:List DDf}(h:∀t,WkD (getD γ t) (getD V' t)):Wk P n { γ,V,df } { γ:=V',V,df }:=
 fun g w a hs=>⟨g,.refl g,⟨hs.sim,⟨hs.tmps.1,fun t=>h t g _ (hs.tmps.2 t)⟩,hs.df⟩⟩
@[simp] theorem lenD_mD(e:Nat)(st:MR)(n:Nat)(h:st=none->n=0):lenD (.slice e) (mD st n)=some (.int .i64 n):=by
 cases st with
 |none=>obtain rfl:=h rfl;rfl
 |some x=>rfl
def go1{F G' G:Prop}(fx:F)(h:G') (hs:lr []->Hold F->G'->G:=by
 intro hv fx hG
 (first
  |(with_reducible first|refine Hj ?_|refine K0 ?_|refine N0 ?_|refine Iz ?_|refine IR ?_|refine Np ?_|refine Vh (by decide) ?_|refine Qv ?_|refine Ky ?_|refine KV ?_|refine KW ?_|refine NL ?_|refine NM ?_|refine QD ?_|refine AU ?_|refine Il ?_|refine UV ?_)
  |((with_reducible refine HP (d:=?_) (Sr:=?_) Ag ?h1 ?h2 ?hl ?hd ?_);(case h1=>rfl);(case h2=>rfl);(case hl=>rfl);(case hd=>simp(disch:=first|omega|assumption) [Aq,big1,big2,w8,DW,CM,DV,CL,DY,DU,CH,C0,CG,BZ,CI,CF,Gr,fx.get]<;>(try simp only[BA,BB,B5,Bz,AM,B8,B7,B6,B4,AL,B3,B2,B1])<;>first|rfl|(and_intros<;>rfl)))
  |((with_reducible refine IB (d:=?_) (k:=?_) (Sr:=?_) Ag ?h1 ?h2 ?hk ?hb ?hl ?hd ?_);(case h1=>rfl);(case h2=>rfl);(case hk=>rfl);(case hb=>rfl);(case hl=>rfl);(case hd=>simp(disch:=first|omega|assumption) [Aq,big1,big2,w8,DW,CM,DV,CL,DY,DU,CH,C0,CG,BZ,CI,CF,Gr,fx.get]<;>(try simp only[BA,BB,B5,Bz,AM,B8,B7,B6,B4,AL,B3,B2,B1])<;>first|rfl|(and_intros<;>rfl)))
  |((with_reducible refine step_read0 (d:=?_) (Sr:=?_) Ag ?h1 ?hl ?hd ?_);(case h1=>rfl);(case hl=>rfl);(case hd=>simp(disch:=first|omega|assumption) [Aq,big1,big2,w8,DW,CM,DV,CL,DY,DU,CH,C0,CG,BZ,CI,CF,Gr,fx.get]<;>(try simp only[BA,BB,B5,Bz,AM,B8,B7,B6,B4,AL,B3,B2,B1])<;>first|rfl|(and_intros<;>rfl)))
  |((with_reducible refine Qo (d:=?_) (Sr:=?_) Ag ?h1 ?h2 ?hl ?hd ?_);(case h1=>rfl);(case h2=>rfl);(case hl=>rfl);(case hd=>simp(disch:=first|omega|assumption) [Aq,big1,big2,w8,DW,CM,DV,CL,DY,DU,CH,C0,CG,BZ,CI,CF,Gr,fx.get]<;>(try simp only[BA,BB,B5,Bz,AM,B8,B7,B6,B4,AL,B3,B2,B1])<;>first|rfl|(and_intros<;>rfl)))
  |((with_reducible refine Nj (d:=?_) (k:=?_) (Sr:=?_) Ag ?h1 ?h2 ?hk ?hb ?hl ?hd ?_);(case h1=>rfl);(case h2=>rfl);(case hk=>rfl);(case hb=>rfl);(case hl=>rfl);(case hd=>simp(disch:=first|omega|assumption) [Aq,big1,big2,w8,DW,CM,DV,CL,DY,DU,CH,C0,CG,BZ,CI,CF,Gr,fx.get]<;>(try simp only[BA,BB,B5,Bz,AM,B8,B7,B6,B4,AL,B3,B2,B1])<;>first|rfl|(and_intros<;>rfl)))
  |((with_reducible refine mo_read0 (d:=?_) (Sr:=?_) Ag ?h1 ?hl ?hd ?_);(case h1=>rfl);(case hl=>rfl);(case hd=>simp(disch:=first|omega|assumption) [Aq,big1,big2,w8,DW,CM,DV,CL,DY,DU,CH,C0,CG,BZ,CI,CF,Gr,fx.get]<;>(try simp only[BA,BB,B5,Bz,AM,B8,B7,B6,B4,AL,B3,B2,B1])<;>first|rfl|(and_intros<;>rfl)))
  |((with_reducible refine K1 (k:=?_) Ap ?hk ?hb ?h1 ?h2 ?_);(case hk=>rfl);(case hb=>rfl);(case h1=>rfl);(case h2=>rfl))
  |((with_reducible refine IA (k:=?_) Ap ?hk ?hb ?h1 ?h2 ?_);(case hk=>rfl);(case hb=>rfl);(case h1=>rfl);(case h2=>rfl))
  |((with_reducible refine step_skip0 (k:=?_) Ap ?hk ?hb ?h1 ?_);(case hk=>rfl);(case hb=>rfl);(case h1=>rfl))
  |((with_reducible refine step_skipU0 (k:=?_) Ap ?hk ?hb ?h1 ?_);(case hk=>rfl);(case hb=>rfl);(case h1=>rfl))
  |((with_reducible refine Ni (k:=?_) ?hk ?hb ?h1 ?h2 ?_);(case hk=>rfl);(case hb=>rfl);(case h1=>rfl);(case h2=>rfl))
  |((with_reducible refine Nh (k:=?_) ?hk ?hb ?h1 ?h2 ?_);(case hk=>rfl);(case hb=>rfl);(case h1=>rfl);(case h2=>rfl))
  |((with_reducible refine mo_skip0 (k:=?_) ?hk ?hb ?h1 ?_);(case hk=>rfl);(case hb=>rfl);(case h1=>rfl))
  |((with_reducible refine mo_skipU0 (k:=?_) ?hk ?hb ?h1 ?_);(case hk=>rfl);(case hb=>rfl);(case h1=>rfl))
  |((with_reducible refine N2 (d:=?_) (U':=?_) (Sr:=?_) Ag ?hl ?he ?h1 ?_);(case hl=>rfl);(case he=>simp(disch:=first|omega|assumption) [Aq,big1,big2,w8,DW,CM,DV,CL,DY,DU,CH,C0,CG,BZ,CI,CF,Gr,fx.get]<;>first|rfl|(and_intros<;>rfl));(case h1=>rfl))
  |((with_reducible refine K3 (d:=?_) (U':=?_) (Sr:=?_) Ag ?hl ?he ?_);(case hl=>rfl);(case he=>simp(disch:=first|omega|assumption) [Aq,big1,big2,w8,DW,CM,DV,CL,DY,DU,CH,C0,CG,BZ,CI,CF,Gr,fx.get]<;>first|rfl|(and_intros<;>rfl)))
  |((with_reducible refine Qq (d:=?_) (U':=?_) (Sr:=?_) Ag ?hl ?he ?h1 ?hC ?_);(case hl=>rfl);(case he=>simp(disch:=first|omega|assumption) [Aq,big1,big2,w8,DW,CM,DV,CL,DY,DU,CH,C0,CG,BZ,CI,CF,Gr,fx.get]<;>first|rfl|(and_intros<;>rfl));(case h1=>rfl);(case hC=>clear hG;first|exact Sub.refl _|assumption|exact(Sub.refl _).set (by assumption)))
  |((with_reducible refine Kj (d:=?_) (U':=?_) (Sr:=?_) Ag ?hl ?he ?hC ?_);(case hl=>rfl);(case he=>simp(disch:=first|omega|assumption) [Aq,big1,big2,w8,DW,CM,DV,CL,DY,DU,CH,C0,CG,BZ,CI,CF,Gr,fx.get]<;>first|rfl|(and_intros<;>rfl));(case hC=>clear hG;first|exact Sub.refl _|assumption|exact(Sub.refl _).set (by assumption)))
  |((with_reducible refine step_neqS (r:=?_) (Sr:=?_) (xs:=?_) (ys:=?_) (fs:=?_) Ag ?hE ?h1 ?hl ?hx ?hy ?hk ?hd ?_);(case hE=>with_reducible first|exact Mr|exact eqTy150);(case h1=>rfl);(case hl=>rfl);(case hx=>rfl);(case hy=>rfl);(case hk=>simp<;>rfl);(case hd=>simp(disch:=first|omega|assumption) [Aq,big1,big2,w8,DW,CM,DV,CL,DY,DU,CH,C0,CG,BZ,CI,CF,Gr,fx.get]<;>rfl))
  |((with_reducible refine Qp (r:=?_) (Sr:=?_) (xs:=?_) (ys:=?_) (fs:=?_) Ag ?hE ?h1 ?hl ?hx ?hy ?hk ?hd ?_);(case hE=>with_reducible first|exact Mr|exact eqTy150);(case h1=>rfl);(case hl=>rfl);(case hx=>rfl);(case hy=>rfl);(case hk=>simp<;>rfl);(case hd=>simp(disch:=first|omega|assumption) [Aq,big1,big2,w8,DW,CM,DV,CL,DY,DU,CH,C0,CG,BZ,CI,CF,Gr,fx.get]<;>rfl))
  |((with_reducible refine ID (Sr:=?_) ?hl ?hc ?_);(case hl=>rfl);(case hc=>simp(disch:=first|omega|assumption) [Aq,big1,big2,w8,DW,CM,DV,CL,DY,DU,CH,C0,CG,BZ,CI,CF,Gr,fx.get];done))
  |((with_reducible refine IE (Sr:=?_) ?hl ?hc ?_);(case hl=>rfl);(case hc=>simp(disch:=first|omega|assumption) [Aq,big1,big2,w8,DW,CM,DV,CL,DY,DU,CH,C0,CG,BZ,CI,CF,Gr,fx.get];done))
  |((with_reducible refine K2 (d:=?_) (cs:=?_) (Sr:=?_) hv Ag ?h1 ?h2 ?h3 ?h4 ?h5 ?hl ?he ?h6 ?h7 ?h8 ?h9 ?_);(case h1=>rfl);(case h2=>rfl);(case h3=>rfl);(case h4=>rfl);(case h5=>simp);(case hl=>rfl);(case he=>simp<;>(try simp only[BA,BB,B5,Bz,AM,B8,B7,B6,B4,AL,B3,B2,B1])<;>rfl);(case h6=>rfl);(case h7=>simp<;>(try simp only[BA,BB,B5,Bz,AM,B8,B7,B6,B4,AL,B3,B2,B1])<;>rfl);(case h8=>simp);(case h9=>simp))
  |((with_reducible refine IC (d:=?_) (d2:=?_) (cs:=?_) (Sr:=?_) (Sr2:=?_) hv Ag ?h1 ?h2 ?h3 ?h4 ?h5 ?g1 ?g2 ?g3 ?g4 ?gl ?ge ?hl ?he ?h6 ?h7 ?h8 ?h9 ?_);(case h1=>rfl);(case h2=>rfl);(case h3=>rfl);(case h4=>rfl);(case h5=>rfl);(case g1=>rfl);(case g2=>rfl);(case g3=>rfl);(case g4=>simp);(case gl=>rfl);(case ge=>simp<;>(try simp only[BA,BB,B5,Bz,AM,B8,B7,B6,B4,AL,B3,B2,B1])<;>rfl);(case hl=>rfl);(case he=>simp<;>(try simp only[BA,BB,B5,Bz,AM,B8,B7,B6,B4,AL,B3,B2,B1])<;>rfl);(case h6=>rfl);(case h7=>simp<;>(try simp only[BA,BB,B5,Bz,AM,B8,B7,B6,B4,AL,B3,B2,B1])<;>rfl);(case h8=>simp);(case h9=>simp)))
 exact hG):G:=hs ⟨⟩ ⟨fx⟩ h
section
variable {P:Program}{ro:Option Nat}{n:Nat}{ops:Array Oper}{N:Nat}{S0:Sig}{Q:DX->St->Prop}{df:List DDf}{rest:List Oper}{γ Sr:List (Nat×D)}{V:Sig}{t:Nat}{ty:TypeId}{pos:String}{after:Array Edge}{l:List (Bool×Oper)}{d:D}
theorem needR{fop:Operand}{args:Array Operand}{ats:Array TypeId}{f:Nat}{first cap us bs:fQ}{c:Bool}{u d:D}{dst:Option Tmp}(h:aB P f bs V fun x U'=>x=(if c then .ret d else .panic u)/\U'=V)(k1:c=true->aC P ro n ops Q rest ⟨putD dst d γ,V,df⟩)(k2:c=false->Q (.panic u) ⟨γ,V,df⟩)(hl:A7 γ (Ac (fop::args.toList))=some Sr:=by exact tdR)(hf:ev Sr fop=.func (.func f) first cap:=by exact tdR)(ha:first++args.toList.map (ev Sr)++cap=us:=by exact td0)(hp:bs=us:=by exact tdR)
  (ho:AJ n ⟨dst,(cv fop args ats),ty,pos,after,none⟩=true:=by exact tdR):aC P ro n ops Q (⟨dst,(cv fop args ats),ty,pos,after,none⟩::rest) ⟨γ,V,df⟩:=by
 refine HQ hl hf ha (.inl hp) h ho (fun d' U' hx=>?_) (fun d' U' hx=>?_)
 all_goals obtain⟨hx,rfl⟩:=hx;cases c<;>simp only[bz,bI,bl,DE.ret.injEq,DE.panic.injEq,reduceCtorEq]at hx
 ·subst hx;exact k1 rfl
 ·subst hx;exact k2 rfl
theorem moNeedR{fop:Operand}{args:Array Operand}{ats:Array TypeId}{f:Nat}{first cap us bs:fQ}{c:Bool}{u d:D}{dst:Option Tmp}{l:List (Bool×Oper)}(h:aB P f bs V fun x U'=>x=(if c then .ret d else .panic u)/\U'=V)(k1:c=true->MO P ro n ops N S0 Q df l (putD dst d γ) V)(k2:c=false->∀V',Q (.panic u) ⟨V',V,df⟩)(hl:A7 γ (Ac (fop::args.toList))=some Sr:=by exact tdR)(hf:ev Sr fop=.func (.func f) first cap:=by exact tdR)(ha:first++args.toList.map (ev Sr)++cap=us:=by exact td0)(hp:bs=us:=by exact tdR)(hC:Sub S0 V:=by first|exact Sub.refl _|assumption)
  (ho:AJ n ⟨dst,(cv fop args ats),ty,pos,after,none⟩=true:=by exact tdR):MO P ro n ops N S0 Q df ((true,⟨dst,(cv fop args ats),ty,pos,after,none⟩)::l) γ V:=by
 refine Jt rfl hl hf ha (.inl hp) h ho (fun d' U' hx=>?_) (fun d' U' hx=>?_)
 all_goals obtain⟨hx,rfl⟩:=hx;cases c<;>simp only[bz,bI,bl,DE.ret.injEq,DE.panic.injEq,reduceCtorEq]at hx
 ·subst hx;exact⟨hC,k1 rfl⟩
 ·subst hx;exact k2 rfl
theorem C6{fop:Operand}{args:Array Operand}{ats:Array TypeId}{f:Nat}{first cap us bs:fQ}{R:DE->Sig->Prop}{dst:Option Tmp}{l:List (Bool×Oper)}(h:aB P f bs V R)(d7:∀d U',R (.ret d) U'->Sub S0 U'/\MO P ro n ops N S0 Q df l (putD dst d γ) U')(d8:∀d U',R (.panic d) U'->∀V',Q (.panic d) ⟨V',U',df⟩:=by intro _ _ z;cases z.1)(hl:A7 γ (Ac (fop::args.toList))=some Sr:=by exact tdR)(hf:ev Sr fop=.func (.func f) first cap:=by exact tdR)(ha:first++args.toList.map (ev Sr)++cap=us:=by exact td0)(hp:bs=us:=by exact tdR)
  (ho:AJ n ⟨dst,(cv fop args ats),ty,pos,after,none⟩=true:=by exact tdR):MO P ro n ops N S0 Q df ((true,⟨dst,(cv fop args ats),ty,pos,after,none⟩)::l) γ V:=Jt rfl hl hf ha (.inl hp) h ho d7 d8
theorem nilN{x:Operand}{z:Value}{T T':Nat}{b:Bool}(h:aC prog ro n ops Q rest ⟨(t,.bool (!b))::γ,V,df⟩)(hl:A7 γ (Ac [x])=some Sr:=by exact tdR)(hb:nilB (tab T).k z (ev Sr x)=some b:=by(simp<;>with_unfolding_all rfl))(d6:decide (t<n)=true:=by exact tdR):
  aC prog ro n ops Q (⟨some t,.binOp .neq T x (.const z) T',ty,pos,after,none⟩::rest) ⟨γ,V,df⟩:=
 Xl Ag (b:=b) true rfl (by rw[<-Cz hl];exact hb) (by simpa using d6) (by cases b<;>exact h)
theorem boolE{x y:Operand}{T T':Nat}{a b:Bool}{gd:Option (Nat×Bool)}(h:aC prog ro n ops Q rest ⟨(t,.bool (a==b))::γ,V,df⟩)(hw:AY ops γ ⟨some t,.binOp .eql T x y T',ty,pos,after,gd⟩=some true:=by exact tdR)(hl:A7 γ (Ac [x,y])=some Sr:=by exact tdR)(hk:(tab T).k=.bool:=by(simp;done))(hx:ev Sr x=.bool a:=by exact tdR)(hy:ev Sr y=.bool b:=by exact tdR)(d6:decide (t<n)=true:=by exact tdR):
  aC prog ro n ops Q (⟨some t,.binOp .eql T x y T',ty,pos,after,gd⟩::rest) ⟨γ,V,df⟩:=
 Sn Ag false hw hk (by rw[<-(evs hl).1];exact hx) (by rw[<-(evs hl).2];exact hy) (by simpa using d6) (by cases a<;>cases b<;>exact h)
theorem boolN{x y:Operand}{T T':Nat}{a b:Bool}{gd:Option (Nat×Bool)}(h:aC prog ro n ops Q rest ⟨(t,.bool (a != b))::γ,V,df⟩)(hw:AY ops γ ⟨some t,.binOp .neq T x y T',ty,pos,after,gd⟩=some true:=by exact tdR)(hl:A7 γ (Ac [x,y])=some Sr:=by exact tdR)(hk:(tab T).k=.bool:=by(simp;done))(hx:ev Sr x=.bool a:=by exact tdR)(hy:ev Sr y=.bool b:=by exact tdR)(d6:decide (t<n)=true:=by exact tdR):
  aC prog ro n ops Q (⟨some t,.binOp .neq T x y T',ty,pos,after,gd⟩::rest) ⟨γ,V,df⟩:=
 Sn Ag true hw hk (by rw[<-(evs hl).1];exact hx) (by rw[<-(evs hl).2];exact hy) (by simpa using d6) (by cases a<;>cases b<;>exact h)
theorem mapp{T T' e e' sz:Nat}{s x:Operand}{es new:fV}{st:MR}(h:∀st',mOK V sz st' (es++new)->aC prog ro n ops Q rest ⟨(t,mD st' (es.length+new.length))::γ,mS V st' (es++new),df⟩)(hm:mOK V sz st es:=by assumption)
  (hl:A7 γ (Ac [s,x])=some Sr:=by exact tdR) (hk:(tab T).k=.slice e:=by(simp<;>rfl)) (d9:(tab T').k=.slice e':=by(simp<;>rfl)) (he:A5 (tab e).k=false:=by simp) (fY:(tab e).size=sz:=by simp)
  (h1:ev Sr s=mD st es.length:=by first|with_unfolding_all rfl|(simp[ev,getD,List.lookup];done)) (h2:kz (ev Sr x)=some new:=by(simp<;>with_unfolding_all rfl))
  (hlen':∀c∈new,c.length=sz:=by first|exact C5 _|exact Dy _|exact BX _|simp) (gh:∀c∈new,Dq c=true:=by simp[cI,cS,cII,Dq,D.flat])
  (hb:(es.length+new.length)*(tab e).bytes<=140737488355328:=by first|(simp;done)|(simp;omega)) (gc:es.length+new.length<=9223372036854775807:=by first|(simp;done)|(simp;omega)) (d6:decide (t<n)=true:=by exact tdR) :
  aC prog ro n ops Q (⟨some t,(cA s x T T'),ty,pos,after,none⟩::rest) ⟨γ,mS V st es,df⟩:=by
 obtain⟨e1,e2⟩:=evs hl;exact KX Ag (by simpa using d6) hk d9 he fY (by rw[<-e1];exact h1) hm (by rw[<-e2];exact h2) hlen' gh hb gc (fun st' h'=>by rw[aO];exact h st' h')
theorem V2{T e k sz c:Nat}{l m:Operand}{z:fQ}(h:∀i,V i=none->mOK V sz (some (i,c,(List.replicate (c-k) z).flatten)) (List.replicate k z)->aC prog ro n ops Q rest ⟨(t,.ax i 0 k c)::γ,mS V (some (i,c,(List.replicate (c-k) z).flatten)) (List.replicate k z),df⟩)
  (hl:A7 γ (Ac [l,m])=some Sr:=by exact tdR) (hk:(tab T).k=.slice e:=by(simp<;>rfl)) (he:A5 (tab e).k=false:=by simp) (fY:(tab e).size=sz:=by(simp<;>rfl)) (h0:0<sz:=by decide) (hz:(tab e).zero=z:=by(simp<;>rfl))
  (h1:ev Sr l=.int .i64 k:=by exact tdR) (h2:ev Sr m=.int .i64 c:=by exact tdR) (gg:k<=c:=by first|exact bn _|omega) (hb:c*(tab e).bytes<=140737488355328:=by first|(simp;done)|(simp;omega)) (hm:c<=9223372036854775807:=by omega) (d6:decide (t<n)=true:=by exact tdR) :
  aC prog ro n ops Q (⟨some t,.makeSlice T l m,ty,pos,after,none⟩::rest) ⟨γ,V,df⟩:=by
 obtain⟨e1,e2⟩:=evs hl;exact TV Ag (by simpa using d6) hk he fY h0 hz (by rw[<-e1];exact h1) (by rw[<-e2];exact h2) gg hb hm h
theorem mfr(k:Nat){l:List Oper}{sz:Nat}{st:MR}{es:fV}(h:aC P ro n ops Q l ⟨(k,.slice es .no)::γ,V,df⟩)(hm:mOK V sz st es:=by assumption)(hk:getD γ k=mD st es.length:=by first|exact At tdR|(simp[getD,List.lookup];done)):aC P ro n ops Q l ⟨γ,mS V st es,df⟩:=
 Cd (Lt hm hk) h
theorem bldZ{T len e:Nat}{z:fQ}(h:aC prog ro n ops Q rest ⟨(t,.agg z)::γ,V,df⟩)(hk:(tab T).k=.array len e:=by exact tdR)(he:A5 (tab e).k=false:=by simp)(hz:(tab T).zero=z:=by(simp<;>rfl))(d6:decide (t<n)=true:=by exact tdR):aC prog ro n ops Q (⟨some t,.build T #[],ty,pos,after,none⟩::rest) ⟨γ,V,df⟩:=by
 subst hz;exact QG Ag (by simpa using d6) hk he h
theorem mfrC(xs ys:fQ){i:Nat}{l:List Oper}{sz:Nat}{st:MR}{es:fV}(h:aC P ro n ops Q l ⟨γ,V.set i (.cells (xs ++ .slice es .no::ys)),df⟩)(hi:V i=some (.cells (xs++mD st es.length::ys)):=by first|exact w7 .. |(simp;done))(hm:mOK V sz st es:=by assumption):aC P ro n ops Q l ⟨γ,mS V st es,df⟩:=
 Cd (Hg hm hi) h
theorem celW(xs ys:fQ)(d d':D){i:Nat}{l:List Oper}(h:aC P ro n ops Q l ⟨γ,V.set i (.cells (xs++d'::ys)),df⟩)(hi:V i=some (.cells (xs++d::ys)):=by first|exact w7 .. |(simp;done))(hw:WkD d d'):aC P ro n ops Q l ⟨γ,V,df⟩:=
 Cd (Ep hi hw) h
theorem cfr(k:Nat){l:List Oper}{i:Nat}{m:List (D×D)}(hi:V i=some (.map m))(h:aC P ro n ops Q l ⟨(k,.cmap (m.map (·.1)) (m.map (·.2)))::γ,V.del i,df⟩)(hk:getD γ k=.map i:=by exact At tdR):aC P ro n ops Q l ⟨γ,V,df⟩:=
 Cd (JP hi hk) h
theorem rng{T kt et:Nat}{x:Operand}{l:List (D×D)}(h:∀i,V i=none->aC prog ro n ops Q rest ⟨(t,.obj i)::γ,V.set i (.iter l none),df⟩)(hl:A7 γ (Ac [x])=some Sr:=by exact tdR)(hk:(tab T).k=.map kt et:=by(simp<;>rfl))(hx:Re (ev Sr x)=some l:=by exact tdR)(d6:decide (t<n)=true:=by exact tdR):
  aC prog ro n ops Q (⟨some t,.range T x,ty,pos,after,none⟩::rest) ⟨γ,V,df⟩:=
 TT Ag (by simpa using d6) hk (by rw[<-Cz hl];exact hx) h
theorem nxt{i:Nat}{x:Operand}{left:List (D×D)}{last:Option (D×D)}(h0:left=[]->aC P ro n ops Q rest ⟨(t,.tup [.bool false])::γ,V,df⟩)
  (h1:∀j k v,left[j]? = some (k,v)->aC P ro n ops Q rest ⟨(t,.tup [.bool true,k,v])::γ,V.set i (.iter (left.eraseIdx j) (some (k,v))),df⟩) (hi:V i=some (.iter left last):=by first|exact w7 .. |simp)
  (hl:A7 γ (Ac [x])=some Sr:=by exact tdR) (hx:ev Sr x=.obj i:=by exact tdR) (d6:decide (t<n)=true:=by exact tdR) :
  aC P ro n ops Q (⟨some t,.next x false,ty,pos,after,none⟩::rest) ⟨γ,V,df⟩:=
 Xm (by simpa using d6) (by rw[<-Cz hl];exact hx) hi h0 h1
theorem ent{i:Nat}{x:Operand}{left:List (D×D)}{k v:D}(h:aC P ro n ops Q rest ⟨(t,.tup [k,v])::γ,V,df⟩)(hi:V i=some (.iter left (some (k,v))):=by first|exact w7 .. |simp)
  (hl:A7 γ (Ac [x])=some Sr:=by exact tdR) (hx:ev Sr x=.obj i:=by exact tdR) (d6:decide (t<n)=true:=by exact tdR) :
  aC P ro n ops Q (⟨some t,.entry x,ty,pos,after,none⟩::rest) ⟨γ,V,df⟩:=
 TX (by simpa using d6) (by rw[<-Cz hl];exact hx) hi h
theorem boxV{T:Nat}{x:Operand}{cs:fQ}(h:∀i,V i=none->aC P ro n ops Q rest ⟨(t,.ptr i 0)::γ,V.set i (.cells cs),df⟩)(hl:A7 γ (Ac [x])=some Sr:=by exact tdR)(hd:ev Sr x=d:=by(simp<;>with_unfolding_all rfl))(hc:d.cells=cs:=by(simp<;>with_unfolding_all rfl))(ht:d.told=true:=by exact tdR)(d6:decide (t<n)=true:=by exact tdR):
  aC P ro n ops Q (⟨some t,.box T x,ty,pos,after,none⟩::rest) ⟨γ,V,df⟩:=by
 subst hc hd;rw[Cz hl]at ht h;exact dops_box ht (by simpa using d6) h
theorem finCE{fn:Func}{R:DE->Sig->Prop}{U':Sig}{ds:fQ}(h:resL tab V γ fn.results.toList=some ds)(hR:R (.ret (LF ds)) U')(hZ:Sub U' V:=by first|exact Sub.refl _|(refine BG ?_;simp;done)|assumption|exact(Sub.refl _).set (by assumption)):Fp prog n fn R .ret ⟨γ,V,[]⟩:=Ik Ag h (A9 _) hZ hR
theorem lI{fn:Func}{R:DE->Sig->Prop}{U':Sig}{ds:fQ}{d:D}(hR:R (.ret d) U')(h:resL tab V γ fn.results.toList=some ds:=by(simp[resL];with_unfolding_all rfl))(hw:WkD (LF ds) d:=by exact tdW)(hZ:Sub U' V:=by first|exact Sub.refl _|(refine BG ?_;simp;done)|assumption|exact(Sub.refl _).set (by assumption)):Fp prog n fn R .ret ⟨γ,V,[]⟩:=Ik Ag h hw hZ hR
theorem mixL{lo:List Oper}{id:Nat}(ord E:fU){lp:List (Bool×Oper)}{ol:Oper}(h:MO prog ro n lo.toArray 334 V (lW (fun s=>aC prog ro n lo.toArray Q [ol] s) Q) df lp γ V)(hB:Km lo.toArray E ord=true:=by kernel_rfl)(fZ:nthO lo (lo.length-1)=some ol:=by exact tdR)(hl:Hn lo E ord=some lp:=by exact tdR):DWp prog ro n (.region id lo.toArray true) Q ⟨γ,V,df⟩:=
 Si Ap mixed ord E V hB fZ (Sub.refl _) hl h
theorem mo1{op:Op}{l:List (Bool×Oper)}(h:∀U2,(∀x∈op.operands,ev U2 x=ev γ x)->aC P ro n ops (EQ df (some t) (fun d U'=>Sub S0 U'/\MO P ro n ops N S0 Q df l ((t,d)::γ) U') (fun d U'=> ∀V',Q (.panic d) ⟨V',U',df⟩)) [⟨some t,op,ty,pos,after,none⟩] ⟨U2,V,df⟩)(d6:decide (t<n)=true:=by exact tdR):
  MO P ro n ops N S0 Q df ((true,⟨some t,op,ty,pos,after,none⟩)::l) γ V:=
 ZM (o:=⟨some t,op,ty,pos,after,none⟩) d6 rfl rfl (h _ fun _ hx=>Cw (o:=⟨some t,op,ty,pos,after,none⟩) hx)
theorem J0{U2:Fr}{s x:Operand}{T T':Nat}(hl:A7 γ (Ac [s,x])=some Sr)(hx:∀y∈((cA s x T T')).operands,ev U2 y=ev γ y):ev U2 s=ev Sr s/\ev U2 x=ev Sr x:=by
 obtain⟨e1,e2⟩:=evs hl;exact⟨by rw[hx s (by simp[Op.operands,Call.operands]),e1],by rw[hx x (by simp[Op.operands,Call.operands]),e2]⟩
theorem ZO{s x:Operand}{T T' e e':Nat}{es new:fV}{l:List (Bool×Oper)}(h:∀i,V i=none->MO prog ro n ops N S0 Q df l ((t,.slice (es++new) (.tag i))::γ) (V.set i (.tail (tab e).size (es.length+new.length))))(hl:A7 γ (Ac [s,x])=some Sr:=by exact tdR)(hk:(tab T).k=.slice e:=by(simp<;>rfl))(d9:(tab T').k=.slice e':=by(simp<;>rfl))(he:A5 (tab e).k=false:=by simp)
  (h1:ev Sr s=.slice es .clip:=by exact tdR) (h2:kz (ev Sr x)=some new:=by(simp<;>with_unfolding_all rfl)) (hne:new≠[]:=by first|assumption|(simp;done)|(simp[cI,cS,cII];assumption))
  (hlen:∀c∈es,c.length=(tab e).size:=by first|exact C5 _|exact Dy _|exact BX _|simp) (hlen':∀c∈new,c.length=(tab e).size:=by first|exact C5 _|exact Dy _|exact BX _|simp)
  (hb:(es.length+new.length)*(tab e).bytes<=140737488355328:=by first|(simp;done)|(simp;omega)) (hm:es.length+new.length<=9223372036854775807:=by first|(simp;done)|(simp;omega)) (d6:decide (t<n)=true:=by exact tdR) (hC:Sub S0 V:=by first|exact Sub.refl _|assumption) :
  MO prog ro n ops N S0 Q df ((true,⟨some t,(cA s x T T'),ty,pos,after,none⟩)::l) γ V:=
 mo1 (fun U2 hx=>by
  obtain⟨e1,e2⟩:=J0 hl hx
  exact Co Ag rfl (by simpa using d6) hk d9 he (by rw[e1];exact h1) (by rw[e2];exact h2) hne hlen hlen' hb hm (fun i hi=>AU ⟨rfl,by simp only[Aa,bI];exact⟨hC.set (hC.none hi),h i hi⟩⟩)) d6
theorem UZ{s x:Operand}{T T' e e':Nat}{es new:fV}{l:List (Bool×Oper)}(h:∀i,V i=none->MO prog ro n ops N S0 Q df l ((t,.slice (es++new) .no)::γ) (V.set i (.tail (tab e).size (es.length+new.length))))(hl:A7 γ (Ac [s,x])=some Sr:=by exact tdR)(hk:(tab T).k=.slice e:=by(simp<;>rfl))(d9:(tab T').k=.slice e':=by(simp<;>rfl))(he:A5 (tab e).k=false:=by simp)
  (h1:ev Sr s=.slice es .clip:=by exact tdR) (h2:kz (ev Sr x)=some new:=by(simp<;>with_unfolding_all rfl)) (hne:new≠[]:=by first|assumption|(simp;done)|(simp[cI,cS,cII];assumption))
  (hlen:∀c∈es,c.length=(tab e).size:=by first|exact C5 _|exact Dy _|exact BX _|simp) (hlen':∀c∈new,c.length=(tab e).size:=by first|exact C5 _|exact Dy _|exact BX _|simp)
  (hb:(es.length+new.length)*(tab e).bytes<=140737488355328:=by first|(simp;done)|(simp;omega)) (hm:es.length+new.length<=9223372036854775807:=by first|(simp;done)|(simp;omega)) (d6:decide (t<n)=true:=by exact tdR) (hC:Sub S0 V:=by first|exact Sub.refl _|assumption) :
  MO prog ro n ops N S0 Q df ((true,⟨some t,(cA s x T T'),ty,pos,after,none⟩)::l) γ V:=
 mo1 (fun U2 hx=>by
  obtain⟨e1,e2⟩:=J0 hl hx
  exact Co Ag rfl (by simpa using d6) hk d9 he (by rw[e1];exact h1) (by rw[e2];exact h2) hne hlen hlen' hb hm (fun i hi=>Cd (C9 (t:=t) (d:=.slice (es++new) .no) (by simp only[Aa,bI];exact AO _ _)) (AU ⟨rfl,by simp only[Aa,bI];exact⟨hC.set (hC.none hi),h i hi⟩⟩))) d6
theorem Kk{s x:Operand}{T T' e e':Nat}{new:fV}{l:List (Bool×Oper)}(h:∀i,V i=none->MO prog ro n ops N S0 Q df l ((t,.slice new (.tag i))::γ) (V.set i (.tail (tab e).size new.length)))(hl:A7 γ (Ac [s,x])=some Sr:=by exact tdR)(hk:(tab T).k=.slice e:=by(simp<;>rfl))(d9:(tab T').k=.slice e':=by(simp<;>rfl))(he:A5 (tab e).k=false:=by simp)
  (h1:ev Sr s=.av:=by exact tdR) (h2:kz (ev Sr x)=some new:=by(simp<;>with_unfolding_all rfl)) (hlen:∀c∈new,c.length=(tab e).size:=by first|exact C5 _|exact Dy _|exact BX _|simp)
  (hb:new.length*(tab e).bytes<=140737488355328:=by first|(simp;done)|(simp;omega)) (hm:new.length<=9223372036854775807:=by first|(simp;done)|(simp;omega)) (d6:decide (t<n)=true:=by exact tdR) (hC:Sub S0 V:=by first|exact Sub.refl _|assumption) :
  MO prog ro n ops N S0 Q df ((true,⟨some t,(cA s x T T'),ty,pos,after,none⟩)::l) γ V:=
 mo1 (fun U2 hx=>by
  obtain⟨e1,e2⟩:=J0 hl hx
  exact Ds Ag rfl (by simpa using d6) hk d9 he (by rw[e1];exact h1) (by rw[e2];exact h2) hlen hb hm (fun i hi=>AU ⟨rfl,by simp only[Aa,bI];exact⟨hC.set (hC.none hi),h i hi⟩⟩)) d6
theorem moApp0{s x:Operand}{T T' e e':Nat}{es:fV}{l:List (Bool×Oper)}(h:MO prog ro n ops N S0 Q df l ((t,d)::γ) V)(hl:A7 γ (Ac [s,x])=some Sr:=by exact tdR)(hk:(tab T).k=.slice e:=by(simp<;>rfl))(d9:(tab T').k=.slice e':=by(simp<;>rfl))(he:A5 (tab e).k=false:=by simp)(hd:ev Sr s=d:=by exact tdR)
  (h1:kz d=some es:=by exact tdR) (h2:kz (ev Sr x)=some []:=by first|with_unfolding_all rfl|(simp_all;done)) (d6:decide (t<n)=true:=by exact tdR) (hC:Sub S0 V:=by first|exact Sub.refl _|assumption) :
  MO prog ro n ops N S0 Q df ((true,⟨some t,(cA s x T T'),ty,pos,after,none⟩)::l) γ V:=
 mo1 (fun U2 hx=>by
  obtain⟨e1,e2⟩:=J0 hl hx
  refine E3 Ag rfl (by simpa using d6) hk d9 he (by rw[e1,hd];exact h1) (by rw[e2];exact h2) (AU ⟨rfl,?_⟩)
  simp only[Aa,bI,e1,hd]
  exact⟨hC,h⟩) d6
theorem Ow{T:Nat}{z:fQ}{l:List (Bool×Oper)}(h:∀i,V i=none->MO prog ro n ops N S0 Q df l ((t,.ptr i 0)::γ) (V.set i (.cells z)))(hk:A5 (tab T).k=false:=by simp)(hz:(tab T).zero=z:=by(simp<;>rfl))(d6:decide (t<n)=true:=by exact tdR)(hC:Sub S0 V:=by first|exact Sub.refl _|assumption):
  MO prog ro n ops N S0 Q df ((true,⟨some t,.alloc T,ty,pos,after,none⟩)::l) γ V:=by
 subst hz;exact mo1 (fun U2 hx=>El Ag hk (by simpa using d6) (fun i hi=>AU ⟨rfl,by simp only[Aa,bI];exact⟨hC.set (hC.none hi),h i hi⟩⟩)) d6
theorem moEffW{op:Op}(d':D){U':Sig}{l:List (Bool×Oper)}(h:MO prog ro n ops N S0 Q df l ((t,d')::γ) U')(hl:A7 γ (Ac op.operands.toList)=some Sr:=by exact tdR)(he:eopD tab Sr V op=some (d,U'):=by(simp(disch:=first|omega|assumption) [Aq,big1,big2,w8]<;>first|rfl|(and_intros<;>rfl)|(and_intros<;>first|rfl|omega)))(hw:WkD d d':=by exact tdW)(d6:decide (t<n)=true:=by exact tdR)(hC:Sub S0 U':=by first|exact Sub.refl _|assumption|exact(Sub.refl _).set (by assumption)|exact((Sub.refl _).set (by assumption)).set (by assumption)):
  MO prog ro n ops N S0 Q df ((true,⟨some t,op,ty,pos,after,none⟩)::l) γ V:=
 mo1 (fun U2 hx=>by
  refine FM Ag rfl (by rw[BF (V':=γ) hx];exact(BF (CK hl)) ▸ he) d6 (Cd (C9 (t:=t) (d:=d') (by simp only[putD,Aa,bI];exact hw)) (AU ⟨rfl,?_⟩))
  simp only[Aa,bI]
  exact⟨hC,h⟩) d6
theorem wk_sub{P:Program}{n:Nat}{γ:Fr}{V U':Sig}{df:List DDf}(hZ:Sub U' V):Wk P n ⟨γ,V,df⟩ ⟨γ,U',df⟩:=
 fun g w a hs=>⟨g,.refl g,⟨hs.sim.sub hZ,hs.tmps,hs.df⟩⟩
theorem drp{l:List Oper}(U':Sig)(h:aC P ro n ops Q l ⟨γ,U',df⟩)(hZ:Sub U' V:=by first|exact Sub.refl _|(refine BG ?_;simp;done)|assumption|exact(Sub.refl _).set (by assumption)):aC P ro n ops Q l ⟨γ,V,df⟩:=Cd (wk_sub hZ) h
theorem rtw{c:Code}(k:Nat)(d':D)(h:DWp P ro n c Q ⟨(k,d')::γ,V,df⟩)(hw:WkD (getD γ k) d':=by exact tdW):DWp P ro n c Q ⟨γ,V,df⟩:=kO (C9 hw) h
theorem appCW{s x:Operand}{T T' e e':Nat}{es new:fV}(h:∀i,V i=none->aC prog ro n ops Q rest ⟨(t,.slice (es++new) .no)::γ,V.set i (.tail (tab e).size (es.length+new.length)),df⟩)(hl:A7 γ (Ac [s,x])=some Sr:=by exact tdR)(hk:(tab T).k=.slice e:=by(simp<;>rfl))(d9:(tab T').k=.slice e':=by(simp<;>rfl))(he:A5 (tab e).k=false:=by simp)
  (h1:ev Sr s=.slice es .clip:=by exact tdR) (h2:kz (ev Sr x)=some new:=by(simp<;>with_unfolding_all rfl)) (hne:new≠[]:=by first|assumption|(simp;done)|(simp[cI,cS,cII];assumption))
  (hlen:∀c∈es,c.length=(tab e).size:=by first|exact C5 _|exact Dy _|exact BX _|simp) (hlen':∀c∈new,c.length=(tab e).size:=by first|exact C5 _|exact Dy _|exact BX _|simp)
  (hb:(es.length+new.length)*(tab e).bytes<=140737488355328:=by first|(simp;done)|(simp;omega)) (hm:es.length+new.length<=9223372036854775807:=by first|(simp;done)|(simp;omega)) (d6:decide (t<n)=true:=by exact tdR) :
  aC prog ro n ops Q (⟨some t,(cA s x T T'),ty,pos,after,none⟩::rest) ⟨γ,V,df⟩:=by
 obtain⟨e1,e2⟩:=evs hl;exact Co Ag rfl (by simpa using d6) hk d9 he (by rw[<-e1];exact h1) (by rw[<-e2];exact h2) hne hlen hlen' hb hm (fun i hi=>Cd (C9 (t:=t) (d:=.slice (es++new) .no) (by simp only[Aa,bI];exact AO _ _)) (Cd (Ug fun k=>by simp only[Aa];split<;>exact A9 _) (h i hi)))
theorem rtl{l:List Oper}(k:Nat)(d':D)(h:aC P ro n ops Q l ⟨(k,d')::γ,V,df⟩)(hw:WkD (getD γ k) d':=by exact tdW):aC P ro n ops Q l ⟨γ,V,df⟩:=Cd (C9 hw) h
theorem G0{lo:List Oper}{id:Nat}(ord E:fU)(S0:Sig){lp:List (Bool×Oper)}{ol:Oper}(hC:Sub S0 V)(h:MO prog ro n lo.toArray 334 S0 (lW (fun s=>aC prog ro n lo.toArray Q [ol] s) Q) df lp γ V)(hB:Km lo.toArray E ord=true:=by kernel_rfl)(fZ:nthO lo (lo.length-1)=some ol:=by exact tdR)(hl:Hn lo E ord=some lp:=by exact tdR):DWp prog ro n (.region id lo.toArray true) Q ⟨γ,V,df⟩:=
 Si Ap mixed ord E S0 hB fZ hC hl h
theorem yldW{fop:Operand}{args:Array Operand}{ats:Array TypeId}{l:Nat}{us:fQ}{R:DE->Sig->Prop}{dst:Option Tmp}(h:ku P l us V R)(d7:∀d U',R (.ret d) U'->aC P ro n ops Q rest ⟨putD dst d γ,U',df⟩)(d8:∀d U',R (.panic d) U'->Q (.panic d) ⟨γ,U',df⟩)
  (hl:A7 γ (Ac (fop::args.toList))=some Sr:=by exact tdR) (hf:ev Sr fop=.yld l:=by exact tdR) (ha:args.toList.map (ev Sr)=us:=by exact td0)
  (ho:AJ n ⟨dst,(cv fop args ats),ty,pos,after,none⟩=true:=by exact tdR) :
  aC P ro n ops Q (⟨dst,(cv fop args ats),ty,pos,after,none⟩::rest) ⟨γ,V,df⟩:=by
 have hx:∀x∈fop::args.toList,ev Sr x=ev γ x:=fun x hx=>CA fun t ht=>Be hl t (BE (by rw[<-ht];exact hx))
 refine Mt rfl (by rw[<-hx fop k7];exact hf) ?_ ho d7 d8;rw[show args.toList.map (ev γ)=args.toList.map (ev Sr) from bF fun x h=>(hx x (by simp[h])).symm,ha];exact h
theorem invW{rv:Operand}{name:String}{args:Array Operand}{ats:Array TypeId}{f T:Nat}{us:fQ}{R:DE->Sig->Prop}{dst:Option Tmp}(hM:Lg P T name f)(h:aB P f (d::us) V R)(d7:∀d U',R (.ret d) U'->aC P ro n ops Q rest ⟨putD dst d γ,U',df⟩)(d8:∀d U',R (.panic d) U'->Q (.panic d) ⟨γ,U',df⟩)
  (hl:A7 γ (Ac (rv::args.toList))=some Sr:=by exact tdR) (hx:ev Sr rv=.iface T d:=by exact tdR) (ha:args.toList.map (ev Sr)=us:=by exact td0)
  (ho:AJ n ⟨dst,.call { callee:=.invoke rv name,args,argTypes:=ats },ty,pos,after,none⟩=true:=by exact tdR) :
  aC P ro n ops Q (⟨dst,.call { callee:=.invoke rv name,args,argTypes:=ats },ty,pos,after,none⟩::rest) ⟨γ,V,df⟩:=by
 have he:∀x∈rv::args.toList,ev Sr x=ev γ x:=fun x hx=>CA fun t ht=>Be hl t (BE (by rw[<-ht];exact hx))
 refine KY rfl (by rw[<-he rv k7];exact hx) hM h ?_ ho d7 d8;rw[show args.toList.map (ev γ)=args.toList.map (ev Sr) from bF fun x h=>(he x (by simp[h])).symm,ha];exact EC _
end
end Go.DL
