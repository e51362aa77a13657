/- A part of the proof. -/
import Derived.Test.YtlfimpogphmbdaaGreatQ10
set_option linter.all false
namespace Go.DL
open Go.Proofs.Tryz
open Go Go.Proofs
theorem LF:EqTy prog 63:=⟨by kernel_rfl,by kernel_rfl,by kernel_rfl⟩
structure Hold(F:Prop):Prop where
 get:F
theorem DF{a b:Int}(h:a<=b):decide (a<=b)=true:=by simp[h]
theorem CA{a b:Int}(h:b<a):decide (a<=b)=false:=by simp;omega
theorem DD{a b:Int}(h:a<b):decide (a<b)=true:=by simp[h]
theorem Cz{a b:Int}(h:b<=a):decide (a<b)=false:=by simp;omega
theorem FQ{p:Prop}[Decidable p]{α:Type}{a b:α}(h:p):(if p then a else b)=a:=aS h
theorem DG{a b:Int}(h:a=b):decide (a=b)=true:=by simp[h]
theorem DC{a b:Int}(h:¬a=b):decide (a=b)=false:=by simp[h]
theorem Cv{a b:Nat}(h:a<=b):decide (a<=b)=true:=by simp[h]
theorem BV{a b:Nat}(h:b<a):decide (a<=b)=false:=by simp;omega
theorem Cu{a b:Nat}(h:a<b):decide (a<b)=true:=by simp[h]
theorem BU{a b:Nat}(h:b<=a):decide (a<b)=false:=by simp;omega
theorem Cw{a b:Nat}(h:a=b):decide (a=b)=true:=by simp[h]
theorem Ct{a b:Nat}(h:¬a=b):decide (a=b)=false:=by simp[h]
theorem A5(a b:Bool):(DE.ret (.bool a)=DE.ret (.bool b))=(a=b):=by simp
structure VarsAre(vars:fG):Prop
theorem Jg{P:Program}{ro:Option Nat}{n:Nat}{ops:Array Oper}{Q:DX->St->Prop}{df:List DDf}{rest:List Oper}{γ Sr:Fr}{V:Sig}{t:Nat}{ty:TypeId}{pos:String}{after:Array Edge}{d:D}{vars:fG}(_:VarsAre vars){tab:Nat->Ty}(ht:Bs P tab){T T' ty':Nat}{x:Operand}{pos':String}{after':Array Edge}{cs:fE}(hv:vars.contains t=false)(hT:T'=T)(d6:decide (t<n)=true)(hx:Ft t x=true)(ho:A6 (tab T).k=false)
  (hl:A8 γ (Ad [x])=some Sr) (he:ev Sr x=d) (e7:d.told=true) (hc:d.cells=cs) (hlen:cs.length=(tab T).size) (e8:Db cs=true)
  (h:av P ro n ops Q rest ⟨(t,.am cs 0)::γ,V,df⟩) :
  av P ro n ops Q (⟨some t,.alloc T,ty,pos,after,none⟩::⟨none,.store T' (.tmp t) x,ty',pos',after',none⟩::rest) ⟨γ,V,df⟩:=
 Wu ht vars hv hT d6 hx ho hl he e7 hc hlen e8 h
theorem HW{P:Program}{ro:Option Nat}{n:Nat}{ops:Array Oper}{Q:DX->St->Prop}{df:List DDf}{rest:List Oper}{γ Sr Sr2:Fr}{V:Sig}{t t2:Nat}{d d2:D}{vars:fG}(_:VarsAre vars){tab:Nat->Ty}(ht:Bs P tab){T T' ty ty' ty2:Nat}{x y:Operand}{pos pos' pos2:String}{after after' after2:Array Edge}{cs:fE}(hv:vars.contains t=false)(hT:T'=T)(d6:decide (t<n)=true)(e9:decide (t2<n)=true)(hx:Ft t x=true)(hy:Ft t y=true)(fM:Ft t2 x=true)(fV:decide (t2=t)=false)(ho:A6 (tab T).k=false)
  (fL:A8 γ (Ad [y])=some Sr2) (fU:ev Sr2 y=d2) (hl:A8 γ (Ad [x])=some Sr) (he:ev Sr x=d) (e7:d.told=true) (hc:d.cells=cs) (hlen:cs.length=(tab T).size) (e8:Db cs=true)
  (h:av P ro n ops Q rest ⟨(t,.am cs 0)::(t2,d2)::γ,V,df⟩) :
  av P ro n ops Q (⟨some t,.alloc T,ty,pos,after,none⟩::⟨some t2,.assign y,ty2,pos2,after2,none⟩::⟨none,.store T' (.tmp t) x,ty',pos',after',none⟩::rest) ⟨γ,V,df⟩:=
 SU ht vars hv hT d6 e9 hx hy fM fV ho fL fU hl he e7 hc hlen e8 h
theorem td0{p:Prop}(h:p:=by simp(disch:=first|omega|assumption) [Ar,big1,big2,w8]<;>(try simp only[Bq,Br,B1,Bp,AF,B4,B3,B2,B0,AE,AZ,AY,AX])<;>with_unfolding_all rfl):p:=h
theorem tdW{p:Prop}(h:p:=by first|exact A9 _|exact Ao _ _|exact Am _ (.inl rfl)|exact Es _|(refine J5 _ ?_;first|omega|(simp;done)|(simp;omega))|(refine AM ?_;(simp;done))|(refine AM ?_;(simp[cI,cS,cII,Ds,CB,CF];done))|(refine C3 _ ?_;(simp[cI,cS,cII];done))|(refine AM ?_;(simp_all;done))|assumption):p:=h
theorem tdT{p:Prop}(h:p:=by(first|refine Hf ?_ ?_|skip)<;>(repeat' first|exact He|refine Ga tdR ?_ ?_|(first|exact A9 _|exact Ao _ _|exact Am _ (.inl rfl)|exact Es _|(refine J5 _ ?_;first|omega|(simp;done)|(simp;omega))|(refine AM ?_;(simp;done))|(refine AM ?_;(simp[cI,cS,cII,Ds,CB,CF];done))|(refine C3 _ ?_;(simp[cI,cS,cII];done))|(refine AM ?_;(simp_all;done))|assumption))):p:=h
theorem tdU{p:Prop}(h:p:=by first|exact Sub.refl _|(refine AQ ?_;simp;done)|assumption|exact(Sub.refl _).set (by assumption)):p:=h
section
variable {P:Program}{ro:Option Nat}{n:Nat}{ops:Array Oper}{N:Nat}{S0:Sig}{Q:DX->St->Prop}{df:List DDf}{rest:List Oper}{γ Sr:List (Nat×D)}{V:Sig}{t:Nat}{ty:TypeId}{pos:String}{after:Array Edge}{l:List (Bool×Oper)}{d:D}
theorem Aq{fop:Operand}{args:Array Operand}{ats:Array TypeId}{f:Nat}{first cap us bs:fE}(h:au P f bs V (rS d V))(k1:av P ro n ops Q rest ⟨(t,d)::γ,V,df⟩)(hl:A8 γ (Ad (fop::args.toList))=some Sr:=by exact tdR)(hf:ev Sr fop=.func (.func f) first cap:=by exact tdR)(ha:first++args.toList.map (ev Sr)++cap=us:=by exact td0)(hp:bs=us:=by exact tdR)(d6:decide (t<n)=true:=by exact tdR):av P ro n ops Q (⟨some t,(cv fop args ats),ty,pos,after,none⟩::rest) ⟨γ,V,df⟩:=HZ hl hf ha (.inl hp) h d6 k1
theorem EU{fop:Operand}{args:Array Operand}{ats:Array TypeId}{f:Nat}{first cap us bs:fE}{j:Nat}{want:Bool}{k:Nat}(h:au P f bs V (rS d V))(k1:av P ro n ops Q rest ⟨(t,d)::γ,V,df⟩)(hk:(ops[j]?).bind (·.dst)=some k:=by exact tdR)(hb:γ.lookup k=some (.bool want):=by exact tdR)(hl:A8 γ (Ad (fop::args.toList))=some Sr:=by exact tdR)(hf:ev Sr fop=.func (.func f) first cap:=by exact tdR)(ha:first++args.toList.map (ev Sr)++cap=us:=by exact td0)(hp:bs=us:=by exact tdR)(d6:decide (t<n)=true:=by exact tdR):av P ro n ops Q (⟨some t,(cv fop args ats),ty,pos,after,some (j,want)⟩::rest) ⟨γ,V,df⟩:=GP hk hb hl hf ha (.inl hp) h d6 k1
theorem moR{fop:Operand}{args:Array Operand}{ats:Array TypeId}{f:Nat}{first cap us bs:fE}(h:au P f bs V (rS d V))(k1:MO P ro n ops N S0 Q df l ((t,d)::γ) V)(hl:A8 γ (Ad (fop::args.toList))=some Sr:=by exact tdR)(hf:ev Sr fop=.func (.func f) first cap:=by exact tdR)(ha:first++args.toList.map (ev Sr)++cap=us:=by exact td0)(hp:bs=us:=by exact tdR)(d6:decide (t<n)=true:=by exact tdR)(hC:Sub S0 V:=by first|exact Sub.refl _|assumption):MO P ro n ops N S0 Q df ((true,⟨some t,(cv fop args ats),ty,pos,after,none⟩)::l) γ V:=Qc hl hf ha (.inl hp) h d6 hC k1
theorem Ac{fop:Operand}{args:Array Operand}{ats:Array TypeId}{f:Nat}{first cap us bs:fE}{R:DE->Sig->Prop}{dst:Option Tmp}(h:au P f bs V R)(d7:∀d S',R (.ret d) S'->av P ro n ops Q rest ⟨putD dst d γ,S',df⟩)(d8:∀d S',R (.panic d) S'->Q (.panic d) ⟨γ,S',df⟩)(hl:A8 γ (Ad (fop::args.toList))=some Sr:=by exact tdR)(hf:ev Sr fop=.func (.func f) first cap:=by exact tdR)(ha:first++args.toList.map (ev Sr)++cap=us:=by exact td0)(hp:bs=us:=by exact tdR)
  (ho:AD n ⟨dst,(cv fop args ats),ty,pos,after,none⟩=true:=by exact tdR):av P ro n ops Q (⟨dst,(cv fop args ats),ty,pos,after,none⟩::rest) ⟨γ,V,df⟩:=Hh hl hf ha (.inl hp) h ho d7 d8
theorem callWP{fop:Operand}{args:Array Operand}{ats:Array TypeId}{f:Nat}{first cap us bs:fE}{R:DE->Sig->Prop}{dst:Option Tmp}(h:au P f bs V R)(d7:∀d S',R (.ret d) S'->av P ro n ops Q rest ⟨putD dst d γ,S',df⟩)(d8:∀d S',R (.panic d) S'->Q (.panic d) ⟨γ,S',df⟩)(hl:A8 γ (Ad (fop::args.toList))=some Sr:=by exact tdR)(hf:ev Sr fop=.func (.func f) first cap:=by exact tdR)(ha:first++args.toList.map (ev Sr)++cap=us:=by exact td0)(hp:bs=us.map D.plain:=by exact tdR)
  (ho:AD n ⟨dst,(cv fop args ats),ty,pos,after,none⟩=true:=by exact tdR):av P ro n ops Q (⟨dst,(cv fop args ats),ty,pos,after,none⟩::rest) ⟨γ,V,df⟩:=Hh hl hf ha (.inr hp) h ho d7 d8
theorem cndB{c:Nat}{x y:Code}{b:Bool}(ht:b=true->DWp P ro n x Q ⟨(c,.bool true)::γ,V,df⟩)(hf:b=false->DWp P ro n y Q ⟨(c,.bool false)::γ,V,df⟩)(hl:γ.lookup c=some (.bool b):=by exact tdR):DWp P ro n (.cond (.tmp c) x y) Q ⟨γ,V,df⟩:=by
 refine QR (s:=⟨γ,V,df⟩) (t:=b) (Ap hl) (fun h=>?_) (fun h=>?_)
 ·exact dwp_wk (C2 (by rw[Ap hl,h];exact A9 _)) (ht h)
 ·exact dwp_wk (C2 (by rw[Ap hl,h];exact A9 _)) (hf h)
theorem mix{lo:List Oper}{id:Nat}(ord E:fG){lp:List (Bool×Oper)}(h:MO prog ro n lo.toArray 334 V Q df lp γ V)(hB:Fv lo.toArray E ord=true:=by kernel_rfl)(hl:GT lo E ord=some lp:=by exact tdR):DWp prog ro n (.region id lo.toArray true) Q ⟨γ,V,df⟩:=
 QO An mixed ord E V hB (Sub.refl _) hl h
theorem NB{lo:List Oper}{id:Nat}(ord E:fG)(S0:Sig)(hC:Sub S0 V){lp:List (Bool×Oper)}(h:MO prog ro n lo.toArray 334 S0 Q df lp γ V)(hB:Fv lo.toArray E ord=true:=by kernel_rfl)(hl:GT lo E ord=some lp:=by exact tdR):DWp prog ro n (.region id lo.toArray true) Q ⟨γ,V,df⟩:=
 QO An mixed ord E S0 hB hC hl h
theorem wkR{U':Fr}{S':Sig}(h:TellsR γ U':=by exact tdT)(hZ:Sub S' V:=by exact tdU):Wk P n ⟨γ,V,df⟩ ⟨U',S',df⟩:=M3 h hZ
theorem B5{Sk:Fr}{α:Type}{c:Code}(keep:fG)(I:α->Prop)(ov:α->Fr)(sg:α->Sig)(μ:α->Nat)(x0:α)(h0:I x0)
  (round:∀x,I x->DWp P ro n c (Then (fun s'=> ∃x',I x'/\μ x'<μ x/\Wk P n s' ⟨ov x'++Sk,sg x',df⟩) Q) ⟨ov x++Sk,sg x,df⟩) (hk:Ea γ keep=some Sk:=by exact tdR) (h1:TellsR γ (ov x0++Sk):=by exact tdT) (h2:Sub (sg x0) V:=by exact tdU):DWp P ro n (.loop c) Q ⟨γ,V,df⟩:=G3 keep I ov sg μ x0 hk h0 h1 h2 round
theorem AB{Sk:Fr}{α β:Type}{c:Code}(keep:fG)(I:α->β->Prop)(ov:α->β->Fr)(sg:α->β->Sig)(μ:α->β->Nat)(x0:α)(y0:β)(h0:I x0 y0)
  (round:∀x y,I x y->DWp P ro n c (Then (fun s'=> ∃x' y',I x' y'/\μ x' y'<μ x y/\Wk P n s' ⟨ov x' y'++Sk,sg x' y',df⟩) Q) ⟨ov x y++Sk,sg x y,df⟩) (hk:Ea γ keep=some Sk:=by exact tdR) (h1:TellsR γ (ov x0 y0++Sk):=by exact tdT) (h2:Sub (sg x0 y0) V:=by exact tdU):DWp P ro n (.loop c) Q ⟨γ,V,df⟩:=Ss keep I ov sg μ x0 y0 hk h0 h1 h2 round
theorem CK{Sk:Fr}{α β δ:Type}{c:Code}(keep:fG)(I:α->β->δ->Prop)(ov:α->β->δ->Fr)(sg:α->β->δ->Sig)(μ:α->β->δ->Nat)(x0:α)(y0:β)(z0:δ)(h0:I x0 y0 z0)
  (round:∀x y z,I x y z->DWp P ro n c (Then (fun s'=> ∃x' y' z',I x' y' z'/\μ x' y' z'<μ x y z/\Wk P n s' ⟨ov x' y' z'++Sk,sg x' y' z',df⟩) Q) ⟨ov x y z++Sk,sg x y z,df⟩) (hk:Ea γ keep=some Sk:=by exact tdR) (h1:TellsR γ (ov x0 y0 z0++Sk):=by exact tdT) (h2:Sub (sg x0 y0 z0) V:=by exact tdU):DWp P ro n (.loop c) Q ⟨γ,V,df⟩:=Sq keep I ov sg μ x0 y0 z0 hk h0 h1 h2 round
theorem fin{fn:Func}{R:DE->Sig->Prop}{S':Sig}{d:D}(hR:R (.ret d) S')(hZ:Sub S' V:=by exact tdU)(h:resD fn γ=some d:=by exact tdR):EX P n fn R .ret ⟨γ,V,[]⟩:=QN hZ h hR
theorem finS{fn:Func}{R:DE->Sig->Prop}{S':Sig}{es:fH}{o:Own}{t:Nat}(hR:R (.ret (.slice es .no)) S')(hZ:Sub S' V:=by exact tdU)(hr:fn.results=#[.tmp t]:=by exact tdR)(h:getD γ t=.slice es o:=by exact Ap tdR):EX P n fn R .ret ⟨γ,V,[]⟩:=VP hZ hr h hR
theorem fin1{fn:Func}{R:DE->Sig->Prop}{S':Sig}{t:Nat}{d d':D}(hR:R (.ret d') S')(hZ:Sub S' V:=by exact tdU)(hr:fn.results=#[.tmp t]:=by exact tdR)(hl:γ.lookup t=some d:=by exact tdR)(hw:WkD d d':=by exact tdW):EX P n fn R .ret ⟨γ,V,[]⟩:=
 ⟨⟨[(t,d')],S',[]⟩,Wp (show Tells γ [(t,d')] from⟨by rw[Ap hl];exact hw,trivial⟩) hZ,rfl,d',Ej (by simp[resD,hr]),F0 hR⟩
theorem fin2{fn:Func}{R:DE->Sig->Prop}{S':Sig}{t u:Nat}{d d' e e':D}(hR:R (.ret (.tup [d',e'])) S')(hZ:Sub S' V:=by exact tdU)(hr:fn.results=#[.tmp t,.tmp u]:=by exact tdR)(hl:γ.lookup t=some d:=by exact tdR)(fL:γ.lookup u=some e:=by exact tdR)(fO:decide (u=t)=false:=by exact tdR)(hw:WkD d d':=by exact tdW)(fN:WkD e e':=by exact tdW):EX P n fn R .ret ⟨γ,V,[]⟩:=
 ⟨⟨[(t,d'),(u,e')],S',[]⟩,Wp (show Tells γ [(t,d'),(u,e')] from ⟨by rw [Ap hl];exact hw,by rw [Ap fL];exact fN,trivial⟩) hZ,rfl, .tup [d',e'],Ej (by
  have:u≠t:=by simpa using fO
  simp[resD,hr,this]),F0 hR⟩
theorem fin0{fn:Func}{R:DE->Sig->Prop}{S':Sig}(hR:R (.ret (.tup [])) S')(hZ:Sub S' V:=by exact tdU)(hr:fn.results=#[]:=by exact tdR):EX P n fn R .ret ⟨γ,V,[]⟩:=QN hZ (by simp[resD,hr]) hR
theorem Ef{fn:Func}{R:DE->Sig->Prop}{S':Sig}(hR:R (.ret (.tup [])) S')(hZ:Sub S' V:=by exact tdU)(hr:fn.results=#[]:=by exact tdR):EX P n fn R .normal ⟨γ,V,[]⟩:=Pw hZ (by simp[resD,hr]) hR
theorem finP{fn:Func}{R:DE->Sig->Prop}{S':Sig}{d:D}(hR:R (.panic d) S')(hZ:Sub S' V:=by exact tdU):EX P n fn R (.panic d) ⟨γ,V,[]⟩:=VQ hZ hR
theorem Bv{c:Code}(t sz:Nat)(h:∀i,V i=none->DWp P ro n c Q ⟨(t,.slice [] (.tag i))::γ,V.set i (.tail sz 0),df⟩)(ht:getD γ t=.ak:=by exact Ap tdR):DWp P ro n c Q ⟨γ,V,df⟩:=dwp_tag t sz ht h
end
section
variable {ro:Option Nat}{n:Nat}{ops:Array Oper}{N:Nat}{S0:Sig}{Q:DX->St->Prop}{df:List DDf}{rest:List Oper}{γ Sr:List (Nat×D)}{V:Sig}{t:Nat}{ty:TypeId}{pos:String}{after:Array Edge}{d:D}{s x:Operand}{T T' e e':Nat}
theorem evs{s x:Operand}(hl:A8 γ (Ad [s,x])=some Sr):ev Sr s=ev γ s/\ev Sr x=ev γ x:=
 have h:∀z∈[s,x],ev Sr z=ev γ z:=fun z hz=>Co fun t ht=>B7 hl t (Bw (by rw[<-ht];exact hz))
 ⟨h s (by simp),h x (by simp)⟩
theorem appN{new:fH}(h:∀i,V i=none->av prog ro n ops Q rest ⟨(t,.slice new (.tag i))::γ,V.set i (.tail (tab e).size new.length),df⟩)
  (hl:A8 γ (Ad [s,x])=some Sr:=by exact tdR) (hk:(tab T).k=.slice e:=by(simp<;>rfl)) (d9:(tab T').k=.slice e':=by(simp<;>rfl)) (he:A6 (tab e).k=false:=by simp)
  (h1:ev Sr s=.ak:=by exact tdR) (h2:esOf (ev Sr x)=some new:=by(simp<;>with_unfolding_all rfl)) (hlen:∀c∈new,c.length=(tab e).size:=by first|exact BY _|exact Dj _|exact BR _|simp)
  (hb:new.length*(tab e).bytes<=140737488355328:=by first|(simp;done)|(simp;omega)) (hm:new.length<=9223372036854775807:=by first|(simp;done)|(simp;omega)) (d6:decide (t<n)=true:=by exact tdR) :
  av prog ro n ops Q (⟨some t,(cA s x T T'),ty,pos,after,none⟩::rest) ⟨γ,V,df⟩:=by
 obtain⟨e1,e2⟩:=evs hl
 exact De Af rfl (by simpa using d6) hk d9 he (by rw[<-e1];exact h1) (by rw[<-e2];exact h2) hlen hb hm h
theorem appK{new:fH}(h:av prog ro n ops Q rest ⟨(t,.slice new .no)::γ,V,df⟩)
  (hl:A8 γ (Ad [s,x])=some Sr:=by exact tdR) (hk:(tab T).k=.slice e:=by(simp<;>rfl)) (d9:(tab T').k=.slice e':=by(simp<;>rfl)) (he:A6 (tab e).k=false:=by simp)
  (h1:ev Sr s=.ak:=by exact tdR) (h2:esOf (ev Sr x)=some new:=by(simp<;>with_unfolding_all rfl)) (hlen:∀c∈new,c.length=(tab e).size:=by first|exact BY _|exact Dj _|exact BR _|simp)
  (hb:new.length*(tab e).bytes<=140737488355328:=by first|(simp;done)|(simp;omega)) (hm:new.length<=9223372036854775807:=by first|(simp;done)|(simp;omega)) (d6:decide (t<n)=true:=by exact tdR) :
  av prog ro n ops Q (⟨some t,(cA s x T T'),ty,pos,after,none⟩::rest) ⟨γ,V,df⟩:=by
 obtain⟨e1,e2⟩:=evs hl
 exact SB Af rfl (by simpa using d6) hk d9 he (by rw[<-e1];exact h1) (by rw[<-e2];exact h2) hlen hb hm h
theorem appC{es new:fH}(h:∀i,V i=none->av prog ro n ops Q rest ⟨(t,.slice (es++new) (.tag i))::γ,V.set i (.tail (tab e).size (es.length+new.length)),df⟩)
  (hl:A8 γ (Ad [s,x])=some Sr:=by exact tdR) (hk:(tab T).k=.slice e:=by(simp<;>rfl)) (d9:(tab T').k=.slice e':=by(simp<;>rfl)) (he:A6 (tab e).k=false:=by simp)
  (h1:ev Sr s=.slice es .clip:=by exact tdR) (h2:esOf (ev Sr x)=some new:=by(simp<;>with_unfolding_all rfl)) (hne:new≠[]:=by simp)
  (hlen:∀c∈es,c.length=(tab e).size:=by first|exact BY _|exact Dj _|exact BR _|simp) (hlen':∀c∈new,c.length=(tab e).size:=by first|exact BY _|exact Dj _|exact BR _|simp)
  (hb:(es.length+new.length)*(tab e).bytes<=140737488355328:=by first|(simp;done)|(simp;omega)) (hm:es.length+new.length<=9223372036854775807:=by first|(simp;done)|(simp;omega)) (d6:decide (t<n)=true:=by exact tdR) :
  av prog ro n ops Q (⟨some t,(cA s x T T'),ty,pos,after,none⟩::rest) ⟨γ,V,df⟩:=by
 obtain⟨e1,e2⟩:=evs hl
 exact Ce Af rfl (by simpa using d6) hk d9 he (by rw[<-e1];exact h1) (by rw[<-e2];exact h2) hne hlen hlen' hb hm h
theorem app0{es:fH}(h:av prog ro n ops Q rest ⟨(t,d)::γ,V,df⟩)
  (hl:A8 γ (Ad [s,x])=some Sr:=by exact tdR) (hd:ev Sr s=d:=by exact tdR) (hk:(tab T).k=.slice e:=by(simp<;>rfl)) (d9:(tab T').k=.slice e':=by(simp<;>rfl)) (he:A6 (tab e).k=false:=by simp)
  (h1:esOf d=some es:=by exact tdR) (h2:esOf (ev Sr x)=some []:=by first|with_unfolding_all rfl|(simp_all;done)) (d6:decide (t<n)=true:=by exact tdR) :
  av prog ro n ops Q (⟨some t,(cA s x T T'),ty,pos,after,none⟩::rest) ⟨γ,V,df⟩:=by
 obtain⟨e1,e2⟩:=evs hl
 have:=DJ (ops:=ops) (Q:=Q) (rest:=rest) (df:=df) (V:=V) (γ:=γ) (ty:=ty) (pos:=pos) (after:=after) (guard:=none) (es:=es) (ro:=ro) (n:=n) Af (T:=T) (T':=T') (s:=s) (x:=x) rfl (by simpa using d6) hk d9 he (by rw[<-e1,hd];exact h1) (by rw[<-e2];exact h2) (by rw[<-e1,hd];exact h)
 exact this
theorem newM{T:Nat}(h:∀i,V i=none->av prog ro n ops Q rest ⟨(t,.map i)::γ,V.set i (.map []),df⟩)(d6:decide (t<n)=true:=by exact tdR):
  av prog ro n ops Q (⟨some t,.makeMap T none,ty,pos,after,none⟩::rest) ⟨γ,V,df⟩:=
 OJ Af rfl (.inl rfl) (by simpa using d6) h
theorem newV{T:Nat}{z:fE}(h:∀i,V i=none->av prog ro n ops Q rest ⟨(t,.ptr i 0)::γ,V.set i (.cells z),df⟩)(hk:A6 (tab T).k=false:=by simp)(hz:(tab T).zero=z:=by(simp<;>rfl))(d6:decide (t<n)=true:=by exact tdR):
  av prog ro n ops Q (⟨some t,.alloc T,ty,pos,after,none⟩::rest) ⟨γ,V,df⟩:=by
 subst hz;exact E1 Af hk (by simpa using d6) h
theorem pan{T:Nat}{dst:Option Tmp}(h:Q (.panic (.iface T d)) ⟨γ,V,df⟩)(hl:A8 γ (Ad [x])=some Sr:=by exact tdR)(hx:ev Sr x=.iface T d:=by exact tdR):
  av prog ro n ops Q (⟨dst,.panic x,ty,pos,after,none⟩::rest) ⟨γ,V,df⟩:=Sv rfl (by rw[<-Cn hl];exact hx) h
theorem isN{es:fH}{o:Own}(h:∀b,(b=true->es=[])->av prog ro n ops Q rest ⟨(t,.bool b)::γ,V,df⟩)(hl:A8 γ (Ad [x])=some Sr:=by exact tdR)(hx:ev Sr x=.slice es o:=by exact tdR)(hk:(tab T).k=.slice e:=by(simp<;>rfl))(d6:decide (t<n)=true:=by exact tdR):
  av prog ro n ops Q (⟨some t,.binOp .eql T x (.const (.slice none 0 0)) T',ty,pos,after,none⟩::rest) ⟨γ,V,df⟩:=
 Sx Af hk rfl (by rw[<-Cn hl];exact hx) (by simpa using d6) h
end
theorem SO{P:Program}{n:Nat}{γ U':Fr}{V:Sig}{df:List DDf}(h:∀t,WkD (getD γ t) (getD U' t)):Wk P n { γ,V,df } { γ:=U',V,df }:=
 fun g w a hs=>⟨g,.refl g,⟨hs.sim,⟨hs.tmps.1,fun t=>h t g _ (hs.tmps.2 t)⟩,hs.df⟩⟩
@[simp] theorem lenD_mD(e:Nat)(st:MR)(n:Nat)(h:st=none->n=0):lenD (.slice e) (mD st n)=some (.int .i64 n):=by
 cases st with
 |none=>obtain rfl:=h rfl;rfl
 |some x=>rfl
theorem go1{F G' G:Prop}(fx:F)(h:G') (hs:VarsAre []->Hold F->G'->G:=by
 intro hv fx hG
 (first
  |(with_reducible first|refine GO ?_|refine Je ?_|refine M9 ?_|refine HT ?_|refine Ia ?_|refine Mr ?_|refine TS (by decide) ?_|refine Pq ?_|refine JR ?_|refine Kc ?_|refine Kd ?_|refine MQ ?_|refine MS ?_|refine Px ?_|refine AP ?_|refine HH ?_|refine Tv ?_)
  |((with_reducible refine Hg (d:=?_) (Sr:=?_) Af ?h1 ?h2 ?hl ?hd ?_);(case h1=>rfl);(case h2=>rfl);(case hl=>rfl);(case hd=>simp(disch:=first|omega|assumption) [Ar,big1,big2,w8,DF,CA,DD,Cz,DG,DC,Cv,BV,Cu,BU,Cw,Ct,FQ,fx.get]<;>(try simp only[Bq,Br,B1,Bp,AF,B4,B3,B2,B0,AE,AZ,AY,AX])<;>first|rfl|(and_intros<;>rfl)))
  |((with_reducible refine HV (d:=?_) (k:=?_) (Sr:=?_) Af ?h1 ?h2 ?hk ?hb ?hl ?hd ?_);(case h1=>rfl);(case h2=>rfl);(case hk=>rfl);(case hb=>rfl);(case hl=>rfl);(case hd=>simp(disch:=first|omega|assumption) [Ar,big1,big2,w8,DF,CA,DD,Cz,DG,DC,Cv,BV,Cu,BU,Cw,Ct,FQ,fx.get]<;>(try simp only[Bq,Br,B1,Bp,AF,B4,B3,B2,B0,AE,AZ,AY,AX])<;>first|rfl|(and_intros<;>rfl)))
  |((with_reducible refine step_read0 (d:=?_) (Sr:=?_) Af ?h1 ?hl ?hd ?_);(case h1=>rfl);(case hl=>rfl);(case hd=>simp(disch:=first|omega|assumption) [Ar,big1,big2,w8,DF,CA,DD,Cz,DG,DC,Cv,BV,Cu,BU,Cw,Ct,FQ,fx.get]<;>(try simp only[Bq,Br,B1,Bp,AF,B4,B3,B2,B0,AE,AZ,AY,AX])<;>first|rfl|(and_intros<;>rfl)))
  |((with_reducible refine Pk (d:=?_) (Sr:=?_) Af ?h1 ?h2 ?hl ?hd ?_);(case h1=>rfl);(case h2=>rfl);(case hl=>rfl);(case hd=>simp(disch:=first|omega|assumption) [Ar,big1,big2,w8,DF,CA,DD,Cz,DG,DC,Cv,BV,Cu,BU,Cw,Ct,FQ,fx.get]<;>(try simp only[Bq,Br,B1,Bp,AF,B4,B3,B2,B0,AE,AZ,AY,AX])<;>first|rfl|(and_intros<;>rfl)))
  |((with_reducible refine Mm (d:=?_) (k:=?_) (Sr:=?_) Af ?h1 ?h2 ?hk ?hb ?hl ?hd ?_);(case h1=>rfl);(case h2=>rfl);(case hk=>rfl);(case hb=>rfl);(case hl=>rfl);(case hd=>simp(disch:=first|omega|assumption) [Ar,big1,big2,w8,DF,CA,DD,Cz,DG,DC,Cv,BV,Cu,BU,Cw,Ct,FQ,fx.get]<;>(try simp only[Bq,Br,B1,Bp,AF,B4,B3,B2,B0,AE,AZ,AY,AX])<;>first|rfl|(and_intros<;>rfl)))
  |((with_reducible refine mo_read0 (d:=?_) (Sr:=?_) Af ?h1 ?hl ?hd ?_);(case h1=>rfl);(case hl=>rfl);(case hd=>simp(disch:=first|omega|assumption) [Ar,big1,big2,w8,DF,CA,DD,Cz,DG,DC,Cv,BV,Cu,BU,Cw,Ct,FQ,fx.get]<;>(try simp only[Bq,Br,B1,Bp,AF,B4,B3,B2,B0,AE,AZ,AY,AX])<;>first|rfl|(and_intros<;>rfl)))
  |((with_reducible refine Jf (k:=?_) An ?hk ?hb ?h1 ?h2 ?_);(case hk=>rfl);(case hb=>rfl);(case h1=>rfl);(case h2=>rfl))
  |((with_reducible refine HU (k:=?_) An ?hk ?hb ?h1 ?h2 ?_);(case hk=>rfl);(case hb=>rfl);(case h1=>rfl);(case h2=>rfl))
  |((with_reducible refine step_skip0 (k:=?_) An ?hk ?hb ?h1 ?_);(case hk=>rfl);(case hb=>rfl);(case h1=>rfl))
  |((with_reducible refine step_skipU0 (k:=?_) An ?hk ?hb ?h1 ?_);(case hk=>rfl);(case hb=>rfl);(case h1=>rfl))
  |((with_reducible refine Ml (k:=?_) ?hk ?hb ?h1 ?h2 ?_);(case hk=>rfl);(case hb=>rfl);(case h1=>rfl);(case h2=>rfl))
  |((with_reducible refine Mk (k:=?_) ?hk ?hb ?h1 ?h2 ?_);(case hk=>rfl);(case hb=>rfl);(case h1=>rfl);(case h2=>rfl))
  |((with_reducible refine mo_skip0 (k:=?_) ?hk ?hb ?h1 ?_);(case hk=>rfl);(case hb=>rfl);(case h1=>rfl))
  |((with_reducible refine mo_skipU0 (k:=?_) ?hk ?hb ?h1 ?_);(case hk=>rfl);(case hb=>rfl);(case h1=>rfl))
  |((with_reducible refine Mb (d:=?_) (S':=?_) (Sr:=?_) Af ?hl ?he ?h1 ?_);(case hl=>rfl);(case he=>simp(disch:=first|omega|assumption) [Ar,big1,big2,w8,DF,CA,DD,Cz,DG,DC,Cv,BV,Cu,BU,Cw,Ct,FQ,fx.get]<;>first|rfl|(and_intros<;>rfl));(case h1=>rfl))
  |((with_reducible refine Jh (d:=?_) (S':=?_) (Sr:=?_) Af ?hl ?he ?_);(case hl=>rfl);(case he=>simp(disch:=first|omega|assumption) [Ar,big1,big2,w8,DF,CA,DD,Cz,DG,DC,Cv,BV,Cu,BU,Cw,Ct,FQ,fx.get]<;>first|rfl|(and_intros<;>rfl)))
  |((with_reducible refine Pm (d:=?_) (S':=?_) (Sr:=?_) Af ?hl ?he ?h1 ?hC ?_);(case hl=>rfl);(case he=>simp(disch:=first|omega|assumption) [Ar,big1,big2,w8,DF,CA,DD,Cz,DG,DC,Cv,BV,Cu,BU,Cw,Ct,FQ,fx.get]<;>first|rfl|(and_intros<;>rfl));(case h1=>rfl);(case hC=>clear hG;first|exact Sub.refl _|assumption|exact(Sub.refl _).set (by assumption)))
  |((with_reducible refine Mn (d:=?_) (S':=?_) (Sr:=?_) Af ?hl ?he ?hC ?_);(case hl=>rfl);(case he=>simp(disch:=first|omega|assumption) [Ar,big1,big2,w8,DF,CA,DD,Cz,DG,DC,Cv,BV,Cu,BU,Cw,Ct,FQ,fx.get]<;>first|rfl|(and_intros<;>rfl));(case hC=>clear hG;first|exact Sub.refl _|assumption|exact(Sub.refl _).set (by assumption)))
  |((with_reducible refine step_neqS (r:=?_) (Sr:=?_) (xs:=?_) (ys:=?_) (fs:=?_) Af ?hE ?h1 ?hl ?hx ?hy ?hk ?hd ?_);(case hE=>with_reducible first|exact LF|exact eqTy150);(case h1=>rfl);(case hl=>rfl);(case hx=>rfl);(case hy=>rfl);(case hk=>simp<;>rfl);(case hd=>simp(disch:=first|omega|assumption) [Ar,big1,big2,w8,DF,CA,DD,Cz,DG,DC,Cv,BV,Cu,BU,Cw,Ct,FQ,fx.get]<;>rfl))
  |((with_reducible refine Pl (r:=?_) (Sr:=?_) (xs:=?_) (ys:=?_) (fs:=?_) Af ?hE ?h1 ?hl ?hx ?hy ?hk ?hd ?_);(case hE=>with_reducible first|exact LF|exact eqTy150);(case h1=>rfl);(case hl=>rfl);(case hx=>rfl);(case hy=>rfl);(case hk=>simp<;>rfl);(case hd=>simp(disch:=first|omega|assumption) [Ar,big1,big2,w8,DF,CA,DD,Cz,DG,DC,Cv,BV,Cu,BU,Cw,Ct,FQ,fx.get]<;>rfl))
  |((with_reducible refine HX (Sr:=?_) ?hl ?hc ?_);(case hl=>rfl);(case hc=>simp(disch:=first|omega|assumption) [Ar,big1,big2,w8,DF,CA,DD,Cz,DG,DC,Cv,BV,Cu,BU,Cw,Ct,FQ,fx.get];done))
  |((with_reducible refine HY (Sr:=?_) ?hl ?hc ?_);(case hl=>rfl);(case hc=>simp(disch:=first|omega|assumption) [Ar,big1,big2,w8,DF,CA,DD,Cz,DG,DC,Cv,BV,Cu,BU,Cw,Ct,FQ,fx.get];done))
  |((with_reducible refine Jg (d:=?_) (cs:=?_) (Sr:=?_) hv Af ?h1 ?h2 ?h3 ?h4 ?h5 ?hl ?he ?h6 ?h7 ?h8 ?h9 ?_);(case h1=>rfl);(case h2=>rfl);(case h3=>rfl);(case h4=>rfl);(case h5=>simp);(case hl=>rfl);(case he=>simp<;>(try simp only[Bq,Br,B1,Bp,AF,B4,B3,B2,B0,AE,AZ,AY,AX])<;>rfl);(case h6=>rfl);(case h7=>simp<;>(try simp only[Bq,Br,B1,Bp,AF,B4,B3,B2,B0,AE,AZ,AY,AX])<;>rfl);(case h8=>simp);(case h9=>simp))
  |((with_reducible refine HW (d:=?_) (d2:=?_) (cs:=?_) (Sr:=?_) (Sr2:=?_) hv Af ?h1 ?h2 ?h3 ?h4 ?h5 ?g1 ?g2 ?g3 ?g4 ?gl ?ge ?hl ?he ?h6 ?h7 ?h8 ?h9 ?_);(case h1=>rfl);(case h2=>rfl);(case h3=>rfl);(case h4=>rfl);(case h5=>rfl);(case g1=>rfl);(case g2=>rfl);(case g3=>rfl);(case g4=>simp);(case gl=>rfl);(case ge=>simp<;>(try simp only[Bq,Br,B1,Bp,AF,B4,B3,B2,B0,AE,AZ,AY,AX])<;>rfl);(case hl=>rfl);(case he=>simp<;>(try simp only[Bq,Br,B1,Bp,AF,B4,B3,B2,B0,AE,AZ,AY,AX])<;>rfl);(case h6=>rfl);(case h7=>simp<;>(try simp only[Bq,Br,B1,Bp,AF,B4,B3,B2,B0,AE,AZ,AY,AX])<;>rfl);(case h8=>simp);(case h9=>simp)))
 exact hG):G:=hs ⟨⟩ ⟨fx⟩ h
section
variable {P:Program}{ro:Option Nat}{n:Nat}{ops:Array Oper}{N:Nat}{S0:Sig}{Q:DX->St->Prop}{df:List DDf}{rest:List Oper}{γ Sr:List (Nat×D)}{V:Sig}{t:Nat}{ty:TypeId}{pos:String}{after:Array Edge}{l:List (Bool×Oper)}{d:D}
theorem needR{fop:Operand}{args:Array Operand}{ats:Array TypeId}{f:Nat}{first cap us bs:fE}{c:Bool}{u d:D}{dst:Option Tmp}(h:au P f bs V fun x S'=>x=(if c then .ret d else .panic u)/\S'=V)(k1:c=true->av P ro n ops Q rest ⟨putD dst d γ,V,df⟩)(k2:c=false->Q (.panic u) ⟨γ,V,df⟩)(hl:A8 γ (Ad (fop::args.toList))=some Sr:=by exact tdR)(hf:ev Sr fop=.func (.func f) first cap:=by exact tdR)(ha:first++args.toList.map (ev Sr)++cap=us:=by exact td0)(hp:bs=us:=by exact tdR)
  (ho:AD n ⟨dst,(cv fop args ats),ty,pos,after,none⟩=true:=by exact tdR):av P ro n ops Q (⟨dst,(cv fop args ats),ty,pos,after,none⟩::rest) ⟨γ,V,df⟩:=by
 refine Hh hl hf ha (.inl hp) h ho (fun d' S' hx=>?_) (fun d' S' hx=>?_)
 all_goals obtain⟨hx,rfl⟩:=hx;cases c<;>simp only[bj,bp,bd,DE.ret.injEq,DE.panic.injEq,reduceCtorEq]at hx
 ·subst hx;exact k1 rfl
 ·subst hx;exact k2 rfl
theorem moNeedR{fop:Operand}{args:Array Operand}{ats:Array TypeId}{f:Nat}{first cap us bs:fE}{c:Bool}{u d:D}{dst:Option Tmp}{l:List (Bool×Oper)}(h:au P f bs V fun x S'=>x=(if c then .ret d else .panic u)/\S'=V)(k1:c=true->MO P ro n ops N S0 Q df l (putD dst d γ) V)(k2:c=false->∀U',Q (.panic u) ⟨U',V,df⟩)(hl:A8 γ (Ad (fop::args.toList))=some Sr:=by exact tdR)(hf:ev Sr fop=.func (.func f) first cap:=by exact tdR)(ha:first++args.toList.map (ev Sr)++cap=us:=by exact td0)(hp:bs=us:=by exact tdR)(hC:Sub S0 V:=by first|exact Sub.refl _|assumption)
  (ho:AD n ⟨dst,(cv fop args ats),ty,pos,after,none⟩=true:=by exact tdR):MO P ro n ops N S0 Q df ((true,⟨dst,(cv fop args ats),ty,pos,after,none⟩)::l) γ V:=by
 refine IM rfl hl hf ha (.inl hp) h ho (fun d' S' hx=>?_) (fun d' S' hx=>?_)
 all_goals obtain⟨hx,rfl⟩:=hx;cases c<;>simp only[bj,bp,bd,DE.ret.injEq,DE.panic.injEq,reduceCtorEq]at hx
 ·subst hx;exact⟨hC,k1 rfl⟩
 ·subst hx;exact k2 rfl
theorem C1{fop:Operand}{args:Array Operand}{ats:Array TypeId}{f:Nat}{first cap us bs:fE}{R:DE->Sig->Prop}{dst:Option Tmp}{l:List (Bool×Oper)}(h:au P f bs V R)(d7:∀d S',R (.ret d) S'->Sub S0 S'/\MO P ro n ops N S0 Q df l (putD dst d γ) S')(d8:∀d S',R (.panic d) S'->∀U',Q (.panic d) ⟨U',S',df⟩)(hl:A8 γ (Ad (fop::args.toList))=some Sr:=by exact tdR)(hf:ev Sr fop=.func (.func f) first cap:=by exact tdR)(ha:first++args.toList.map (ev Sr)++cap=us:=by exact td0)(hp:bs=us:=by exact tdR)
  (ho:AD n ⟨dst,(cv fop args ats),ty,pos,after,none⟩=true:=by exact tdR):MO P ro n ops N S0 Q df ((true,⟨dst,(cv fop args ats),ty,pos,after,none⟩)::l) γ V:=IM rfl hl hf ha (.inl hp) h ho d7 d8
theorem nilN{x:Operand}{z:Value}{T T':Nat}{b:Bool}(h:av prog ro n ops Q rest ⟨(t,.bool (!b))::γ,V,df⟩)(hl:A8 γ (Ad [x])=some Sr:=by exact tdR)(hb:nilB (tab T).k z (ev Sr x)=some b:=by(simp<;>with_unfolding_all rfl))(d6:decide (t<n)=true:=by exact tdR):
  av prog ro n ops Q (⟨some t,.binOp .neq T x (.const z) T',ty,pos,after,none⟩::rest) ⟨γ,V,df⟩:=
 VV Af (b:=b) true rfl (by rw[<-Cn hl];exact hb) (by simpa using d6) (by cases b<;>exact h)
theorem boolE{x y:Operand}{T T':Nat}{a b:Bool}{gd:Option (Nat×Bool)}(h:av prog ro n ops Q rest ⟨(t,.bool (a==b))::γ,V,df⟩)(hw:AT ops γ ⟨some t,.binOp .eql T x y T',ty,pos,after,gd⟩=some true:=by exact tdR)(hl:A8 γ (Ad [x,y])=some Sr:=by exact tdR)(hk:(tab T).k=.bool:=by(simp;done))(hx:ev Sr x=.bool a:=by exact tdR)(hy:ev Sr y=.bool b:=by exact tdR)(d6:decide (t<n)=true:=by exact tdR):
  av prog ro n ops Q (⟨some t,.binOp .eql T x y T',ty,pos,after,gd⟩::rest) ⟨γ,V,df⟩:=
 QS Af false hw hk (by rw[<-(evs hl).1];exact hx) (by rw[<-(evs hl).2];exact hy) (by simpa using d6) (by cases a<;>cases b<;>exact h)
theorem boolN{x y:Operand}{T T':Nat}{a b:Bool}{gd:Option (Nat×Bool)}(h:av prog ro n ops Q rest ⟨(t,.bool (a != b))::γ,V,df⟩)(hw:AT ops γ ⟨some t,.binOp .neq T x y T',ty,pos,after,gd⟩=some true:=by exact tdR)(hl:A8 γ (Ad [x,y])=some Sr:=by exact tdR)(hk:(tab T).k=.bool:=by(simp;done))(hx:ev Sr x=.bool a:=by exact tdR)(hy:ev Sr y=.bool b:=by exact tdR)(d6:decide (t<n)=true:=by exact tdR):
  av prog ro n ops Q (⟨some t,.binOp .neq T x y T',ty,pos,after,gd⟩::rest) ⟨γ,V,df⟩:=
 QS Af true hw hk (by rw[<-(evs hl).1];exact hx) (by rw[<-(evs hl).2];exact hy) (by simpa using d6) (by cases a<;>cases b<;>exact h)
theorem mapp{T T' e e' sz:Nat}{s x:Operand}{es new:fH}{st:MR}(h:∀st',mOK V sz st' (es++new)->av prog ro n ops Q rest ⟨(t,mD st' (es.length+new.length))::γ,mS V st' (es++new),df⟩)(hm:mOK V sz st es:=by assumption)
  (hl:A8 γ (Ad [s,x])=some Sr:=by exact tdR) (hk:(tab T).k=.slice e:=by(simp<;>rfl)) (d9:(tab T').k=.slice e':=by(simp<;>rfl)) (he:A6 (tab e).k=false:=by simp) (fJ:(tab e).size=sz:=by simp)
  (h1:ev Sr s=mD st es.length:=by first|with_unfolding_all rfl|(simp[ev,getD,List.lookup];done)) (h2:esOf (ev Sr x)=some new:=by(simp<;>with_unfolding_all rfl))
  (hlen':∀c∈new,c.length=sz:=by first|exact BY _|exact Dj _|exact BR _|simp) (fR:∀c∈new,Db c=true:=by simp[cI,cS,cII,Db,D.flat])
  (hb:(es.length+new.length)*(tab e).bytes<=140737488355328:=by first|(simp;done)|(simp;omega)) (fP:es.length+new.length<=9223372036854775807:=by first|(simp;done)|(simp;omega)) (d6:decide (t<n)=true:=by exact tdR) :
  av prog ro n ops Q (⟨some t,(cA s x T T'),ty,pos,after,none⟩::rest) ⟨γ,mS V st es,df⟩:=by
 obtain⟨e1,e2⟩:=evs hl
 exact Ke Af (by simpa using d6) hk d9 he fJ (by rw[<-e1];exact h1) hm (by rw[<-e2];exact h2) hlen' fR hb fP (fun st' h'=>by rw[aH];exact h st' h')
theorem TD{T e k sz c:Nat}{l m:Operand}{z:fE}(h:∀i,V i=none->mOK V sz (some (i,c,(List.replicate (c-k) z).flatten)) (List.replicate k z)->av prog ro n ops Q rest ⟨(t,.ap i 0 k c)::γ,mS V (some (i,c,(List.replicate (c-k) z).flatten)) (List.replicate k z),df⟩)
  (hl:A8 γ (Ad [l,m])=some Sr:=by exact tdR) (hk:(tab T).k=.slice e:=by(simp<;>rfl)) (he:A6 (tab e).k=false:=by simp) (fJ:(tab e).size=sz:=by(simp<;>rfl)) (h0:0<sz:=by decide) (hz:(tab e).zero=z:=by(simp<;>rfl))
  (h1:ev Sr l=.int .i64 k:=by exact tdR) (h2:ev Sr m=.int .i64 c:=by exact tdR) (fQ:k<=c:=by first|exact bm _|omega) (hb:c*(tab e).bytes<=140737488355328:=by first|(simp;done)|(simp;omega)) (hm:c<=9223372036854775807:=by omega) (d6:decide (t<n)=true:=by exact tdR) :
  av prog ro n ops Q (⟨some t,.makeSlice T l m,ty,pos,after,none⟩::rest) ⟨γ,V,df⟩:=by
 obtain⟨e1,e2⟩:=evs hl
 exact Sw Af (by simpa using d6) hk he fJ h0 hz (by rw[<-e1];exact h1) (by rw[<-e2];exact h2) fQ hb hm h
theorem mfr(k:Nat){l:List Oper}{sz:Nat}{st:MR}{es:fH}(h:av P ro n ops Q l ⟨(k,.slice es .no)::γ,V,df⟩)(hm:mOK V sz st es:=by assumption)(hk:getD γ k=mD st es.length:=by first|exact Ap tdR|(simp[getD,List.lookup];done)):av P ro n ops Q l ⟨γ,mS V st es,df⟩:=
 BA (KJ hm hk) h
theorem bldZ{T len e:Nat}{z:fE}(h:av prog ro n ops Q rest ⟨(t,.agg z)::γ,V,df⟩)(hk:(tab T).k=.array len e:=by exact tdR)(he:A6 (tab e).k=false:=by simp)(hz:(tab T).zero=z:=by(simp<;>rfl))(d6:decide (t<n)=true:=by exact tdR):av prog ro n ops Q (⟨some t,.build T #[],ty,pos,after,none⟩::rest) ⟨γ,V,df⟩:=by
 subst hz;exact PA Af (by simpa using d6) hk he h
theorem mfrC(xs ys:fE){i:Nat}{l:List Oper}{sz:Nat}{st:MR}{es:fH}(h:av P ro n ops Q l ⟨γ,V.set i (.cells (xs ++ .slice es .no::ys)),df⟩)(hi:V i=some (.cells (xs++mD st es.length::ys)):=by first|exact w7 .. |(simp;done))(hm:mOK V sz st es:=by assumption):av P ro n ops Q l ⟨γ,mS V st es,df⟩:=
 BA (EZ hm hi) h
theorem celW(xs ys:fE)(d d':D){i:Nat}{l:List Oper}(h:av P ro n ops Q l ⟨γ,V.set i (.cells (xs++d'::ys)),df⟩)(hi:V i=some (.cells (xs++d::ys)):=by first|exact w7 .. |(simp;done))(hw:WkD d d'):av P ro n ops Q l ⟨γ,V,df⟩:=
 BA (BW hi hw) h
theorem cfr(k:Nat){l:List Oper}{i:Nat}{m:List (D×D)}(hi:V i=some (.map m))(h:av P ro n ops Q l ⟨(k,.cmap (m.map (·.1)) (m.map (·.2)))::γ,V.del i,df⟩)(hk:getD γ k=.map i:=by exact Ap tdR):av P ro n ops Q l ⟨γ,V,df⟩:=
 BA (J4 hi hk) h
theorem rng{T kt et:Nat}{x:Operand}{l:List (D×D)}(h:∀i,V i=none->av prog ro n ops Q rest ⟨(t,.obj i)::γ,V.set i (.iter l none),df⟩)(hl:A8 γ (Ad [x])=some Sr:=by exact tdR)(hk:(tab T).k=.map kt et:=by(simp<;>rfl))(hx:Q3 (ev Sr x)=some l:=by exact tdR)(d6:decide (t<n)=true:=by exact tdR):
  av prog ro n ops Q (⟨some t,.range T x,ty,pos,after,none⟩::rest) ⟨γ,V,df⟩:=
 Su Af (by simpa using d6) hk (by rw[<-Cn hl];exact hx) h
theorem nxt{i:Nat}{x:Operand}{left:List (D×D)}{last:Option (D×D)}(h0:left=[]->av P ro n ops Q rest ⟨(t,.tup [.bool false])::γ,V,df⟩)
  (h1:∀j k v,left[j]? = some (k,v)->av P ro n ops Q rest ⟨(t,.tup [.bool true,k,v])::γ,V.set i (.iter (left.eraseIdx j) (some (k,v))),df⟩) (hi:V i=some (.iter left last):=by first|exact w7 .. |simp)
  (hl:A8 γ (Ad [x])=some Sr:=by exact tdR) (hx:ev Sr x=.obj i:=by exact tdR) (d6:decide (t<n)=true:=by exact tdR) :
  av P ro n ops Q (⟨some t,.next x false,ty,pos,after,none⟩::rest) ⟨γ,V,df⟩:=
 VW (by simpa using d6) (by rw[<-Cn hl];exact hx) hi h0 h1
theorem ent{i:Nat}{x:Operand}{left:List (D×D)}{k v:D}(h:av P ro n ops Q rest ⟨(t,.tup [k,v])::γ,V,df⟩)(hi:V i=some (.iter left (some (k,v))):=by first|exact w7 .. |simp)
  (hl:A8 γ (Ad [x])=some Sr:=by exact tdR) (hx:ev Sr x=.obj i:=by exact tdR) (d6:decide (t<n)=true:=by exact tdR) :
  av P ro n ops Q (⟨some t,.entry x,ty,pos,after,none⟩::rest) ⟨γ,V,df⟩:=
 Sy (by simpa using d6) (by rw[<-Cn hl];exact hx) hi h
theorem boxV{T:Nat}{x:Operand}{cs:fE}(h:∀i,V i=none->av P ro n ops Q rest ⟨(t,.ptr i 0)::γ,V.set i (.cells cs),df⟩)(hl:A8 γ (Ad [x])=some Sr:=by exact tdR)(hd:ev Sr x=d:=by(simp<;>with_unfolding_all rfl))(hc:d.cells=cs:=by(simp<;>with_unfolding_all rfl))(ht:d.told=true:=by exact tdR)(d6:decide (t<n)=true:=by exact tdR):
  av P ro n ops Q (⟨some t,.box T x,ty,pos,after,none⟩::rest) ⟨γ,V,df⟩:=by
 subst hc hd;rw[Cn hl]at ht h;exact dops_box ht (by simpa using d6) h
theorem finCE{fn:Func}{R:DE->Sig->Prop}{S':Sig}{ds:fE}(h:resL tab V γ fn.results.toList=some ds)(hR:R (.ret (KU ds)) S')(hZ:Sub S' V:=by first|exact Sub.refl _|(refine AQ ?_;simp;done)|assumption|exact(Sub.refl _).set (by assumption)):EX prog n fn R .ret ⟨γ,V,[]⟩:=HG Af h (A9 _) hZ hR
theorem finC{fn:Func}{R:DE->Sig->Prop}{S':Sig}{ds:fE}{d:D}(hR:R (.ret d) S')(h:resL tab V γ fn.results.toList=some ds:=by(simp[resL];with_unfolding_all rfl))(hw:WkD (KU ds) d:=by exact tdW)(hZ:Sub S' V:=by first|exact Sub.refl _|(refine AQ ?_;simp;done)|assumption|exact(Sub.refl _).set (by assumption)):EX prog n fn R .ret ⟨γ,V,[]⟩:=HG Af h hw hZ hR
theorem mixL{lo:List Oper}{id:Nat}(ord E:fG){lp:List (Bool×Oper)}{ol:Oper}(h:MO prog ro n lo.toArray 334 V (Then (fun s=>av prog ro n lo.toArray Q [ol] s) Q) df lp γ V)(hB:JD lo.toArray E ord=true:=by kernel_rfl)(fK:nthO lo (lo.length-1)=some ol:=by exact tdR)(hl:GT lo E ord=some lp:=by exact tdR):DWp prog ro n (.region id lo.toArray true) Q ⟨γ,V,df⟩:=
 QP An mixed ord E V hB fK (Sub.refl _) hl h
theorem mo1{op:Op}{l:List (Bool×Oper)}(h:∀U2,(∀x∈op.operands,ev U2 x=ev γ x)->av P ro n ops (EQ df (some t) (fun d S'=>Sub S0 S'/\MO P ro n ops N S0 Q df l ((t,d)::γ) S') (fun d S'=> ∀U',Q (.panic d) ⟨U',S',df⟩)) [⟨some t,op,ty,pos,after,none⟩] ⟨U2,V,df⟩)(d6:decide (t<n)=true:=by exact tdR):
  MO P ro n ops N S0 Q df ((true,⟨some t,op,ty,pos,after,none⟩)::l) γ V:=
 XZ (o:=⟨some t,op,ty,pos,after,none⟩) d6 rfl rfl (h _ fun _ hx=>Cj (o:=⟨some t,op,ty,pos,after,none⟩) hx)
theorem Ii{U2:Fr}{s x:Operand}{T T':Nat}(hl:A8 γ (Ad [s,x])=some Sr)(hx:∀y∈((cA s x T T')).operands,ev U2 y=ev γ y):ev U2 s=ev Sr s/\ev U2 x=ev Sr x:=by
 obtain⟨e1,e2⟩:=evs hl
 exact⟨by rw[hx s (by simp[Op.operands,Call.operands]),e1],by rw[hx x (by simp[Op.operands,Call.operands]),e2]⟩
theorem Y2{s x:Operand}{T T' e e':Nat}{es new:fH}{l:List (Bool×Oper)}(h:∀i,V i=none->MO prog ro n ops N S0 Q df l ((t,.slice (es++new) (.tag i))::γ) (V.set i (.tail (tab e).size (es.length+new.length))))(hl:A8 γ (Ad [s,x])=some Sr:=by exact tdR)(hk:(tab T).k=.slice e:=by(simp<;>rfl))(d9:(tab T').k=.slice e':=by(simp<;>rfl))(he:A6 (tab e).k=false:=by simp)
  (h1:ev Sr s=.slice es .clip:=by exact tdR) (h2:esOf (ev Sr x)=some new:=by(simp<;>with_unfolding_all rfl)) (hne:new≠[]:=by first|assumption|(simp;done)|(simp[cI,cS,cII];assumption))
  (hlen:∀c∈es,c.length=(tab e).size:=by first|exact BY _|exact Dj _|exact BR _|simp) (hlen':∀c∈new,c.length=(tab e).size:=by first|exact BY _|exact Dj _|exact BR _|simp)
  (hb:(es.length+new.length)*(tab e).bytes<=140737488355328:=by first|(simp;done)|(simp;omega)) (hm:es.length+new.length<=9223372036854775807:=by first|(simp;done)|(simp;omega)) (d6:decide (t<n)=true:=by exact tdR) (hC:Sub S0 V:=by first|exact Sub.refl _|assumption) :
  MO prog ro n ops N S0 Q df ((true,⟨some t,(cA s x T T'),ty,pos,after,none⟩)::l) γ V:=
 mo1 (fun U2 hx=>by
  obtain⟨e1,e2⟩:=Ii hl hx
  exact Ce Af rfl (by simpa using d6) hk d9 he (by rw[e1];exact h1) (by rw[e2];exact h2) hne hlen hlen' hb hm (fun i hi=>AP ⟨rfl,by simp only[Aa,bp];exact⟨hC.set (hC.none hi),h i hi⟩⟩)) d6
theorem TA{s x:Operand}{T T' e e':Nat}{es new:fH}{l:List (Bool×Oper)}(h:∀i,V i=none->MO prog ro n ops N S0 Q df l ((t,.slice (es++new) .no)::γ) (V.set i (.tail (tab e).size (es.length+new.length))))(hl:A8 γ (Ad [s,x])=some Sr:=by exact tdR)(hk:(tab T).k=.slice e:=by(simp<;>rfl))(d9:(tab T').k=.slice e':=by(simp<;>rfl))(he:A6 (tab e).k=false:=by simp)
  (h1:ev Sr s=.slice es .clip:=by exact tdR) (h2:esOf (ev Sr x)=some new:=by(simp<;>with_unfolding_all rfl)) (hne:new≠[]:=by first|assumption|(simp;done)|(simp[cI,cS,cII];assumption))
  (hlen:∀c∈es,c.length=(tab e).size:=by first|exact BY _|exact Dj _|exact BR _|simp) (hlen':∀c∈new,c.length=(tab e).size:=by first|exact BY _|exact Dj _|exact BR _|simp)
  (hb:(es.length+new.length)*(tab e).bytes<=140737488355328:=by first|(simp;done)|(simp;omega)) (hm:es.length+new.length<=9223372036854775807:=by first|(simp;done)|(simp;omega)) (d6:decide (t<n)=true:=by exact tdR) (hC:Sub S0 V:=by first|exact Sub.refl _|assumption) :
  MO prog ro n ops N S0 Q df ((true,⟨some t,(cA s x T T'),ty,pos,after,none⟩)::l) γ V:=
 mo1 (fun U2 hx=>by
  obtain⟨e1,e2⟩:=Ii hl hx
  exact Ce Af rfl (by simpa using d6) hk d9 he (by rw[e1];exact h1) (by rw[e2];exact h2) hne hlen hlen' hb hm (fun i hi=>BA (C2 (t:=t) (d:=.slice (es++new) .no) (by simp only[Aa,bp];exact Ao _ _)) (AP ⟨rfl,by simp only[Aa,bp];exact⟨hC.set (hC.none hi),h i hi⟩⟩))) d6
theorem Qd{s x:Operand}{T T' e e':Nat}{new:fH}{l:List (Bool×Oper)}(h:∀i,V i=none->MO prog ro n ops N S0 Q df l ((t,.slice new (.tag i))::γ) (V.set i (.tail (tab e).size new.length)))(hl:A8 γ (Ad [s,x])=some Sr:=by exact tdR)(hk:(tab T).k=.slice e:=by(simp<;>rfl))(d9:(tab T').k=.slice e':=by(simp<;>rfl))(he:A6 (tab e).k=false:=by simp)
  (h1:ev Sr s=.ak:=by exact tdR) (h2:esOf (ev Sr x)=some new:=by(simp<;>with_unfolding_all rfl)) (hlen:∀c∈new,c.length=(tab e).size:=by first|exact BY _|exact Dj _|exact BR _|simp)
  (hb:new.length*(tab e).bytes<=140737488355328:=by first|(simp;done)|(simp;omega)) (hm:new.length<=9223372036854775807:=by first|(simp;done)|(simp;omega)) (d6:decide (t<n)=true:=by exact tdR) (hC:Sub S0 V:=by first|exact Sub.refl _|assumption) :
  MO prog ro n ops N S0 Q df ((true,⟨some t,(cA s x T T'),ty,pos,after,none⟩)::l) γ V:=
 mo1 (fun U2 hx=>by
  obtain⟨e1,e2⟩:=Ii hl hx
  exact De Af rfl (by simpa using d6) hk d9 he (by rw[e1];exact h1) (by rw[e2];exact h2) hlen hb hm (fun i hi=>AP ⟨rfl,by simp only[Aa,bp];exact⟨hC.set (hC.none hi),h i hi⟩⟩)) d6
theorem moApp0{s x:Operand}{T T' e e':Nat}{es:fH}{l:List (Bool×Oper)}(h:MO prog ro n ops N S0 Q df l ((t,d)::γ) V)(hl:A8 γ (Ad [s,x])=some Sr:=by exact tdR)(hk:(tab T).k=.slice e:=by(simp<;>rfl))(d9:(tab T').k=.slice e':=by(simp<;>rfl))(he:A6 (tab e).k=false:=by simp)(hd:ev Sr s=d:=by exact tdR)
  (h1:esOf d=some es:=by exact tdR) (h2:esOf (ev Sr x)=some []:=by first|with_unfolding_all rfl|(simp_all;done)) (d6:decide (t<n)=true:=by exact tdR) (hC:Sub S0 V:=by first|exact Sub.refl _|assumption) :
  MO prog ro n ops N S0 Q df ((true,⟨some t,(cA s x T T'),ty,pos,after,none⟩)::l) γ V:=
 mo1 (fun U2 hx=>by
  obtain⟨e1,e2⟩:=Ii hl hx
  refine DJ Af rfl (by simpa using d6) hk d9 he (by rw[e1,hd];exact h1) (by rw[e2];exact h2) (AP ⟨rfl,?_⟩)
  simp only[Aa,bp,e1,hd]
  exact⟨hC,h⟩) d6
theorem NA{T:Nat}{z:fE}{l:List (Bool×Oper)}(h:∀i,V i=none->MO prog ro n ops N S0 Q df l ((t,.ptr i 0)::γ) (V.set i (.cells z)))(hk:A6 (tab T).k=false:=by simp)(hz:(tab T).zero=z:=by(simp<;>rfl))(d6:decide (t<n)=true:=by exact tdR)(hC:Sub S0 V:=by first|exact Sub.refl _|assumption):
  MO prog ro n ops N S0 Q df ((true,⟨some t,.alloc T,ty,pos,after,none⟩)::l) γ V:=by
 subst hz
 exact mo1 (fun U2 hx=>E1 Af hk (by simpa using d6) (fun i hi=>AP ⟨rfl,by simp only[Aa,bp];exact⟨hC.set (hC.none hi),h i hi⟩⟩)) d6
theorem moEffW{op:Op}(d':D){S':Sig}{l:List (Bool×Oper)}(h:MO prog ro n ops N S0 Q df l ((t,d')::γ) S')(hl:A8 γ (Ad op.operands.toList)=some Sr:=by exact tdR)(he:eopD tab Sr V op=some (d,S'):=by(simp(disch:=first|omega|assumption) [Ar,big1,big2,w8]<;>first|rfl|(and_intros<;>rfl)|(and_intros<;>first|rfl|omega)))(hw:WkD d d':=by exact tdW)(d6:decide (t<n)=true:=by exact tdR)(hC:Sub S0 S':=by first|exact Sub.refl _|assumption|exact(Sub.refl _).set (by assumption)|exact((Sub.refl _).set (by assumption)).set (by assumption)):
  MO prog ro n ops N S0 Q df ((true,⟨some t,op,ty,pos,after,none⟩)::l) γ V:=
 mo1 (fun U2 hx=>by
  refine Fl Af rfl (by rw[Bz (U':=γ) hx];exact(Bz (Cy hl)) ▸ he) d6 (BA (C2 (t:=t) (d:=d') (by simp only[putD,Aa,bp];exact hw)) (AP ⟨rfl,?_⟩))
  simp only[Aa,bp]
  exact⟨hC,h⟩) d6
theorem wk_sub{P:Program}{n:Nat}{γ:Fr}{V S':Sig}{df:List DDf}(hZ:Sub S' V):Wk P n ⟨γ,V,df⟩ ⟨γ,S',df⟩:=
 fun g w a hs=>⟨g,.refl g,⟨hs.sim.sub hZ,hs.tmps,hs.df⟩⟩
theorem drp{l:List Oper}(S':Sig)(h:av P ro n ops Q l ⟨γ,S',df⟩)(hZ:Sub S' V:=by first|exact Sub.refl _|(refine AQ ?_;simp;done)|assumption|exact(Sub.refl _).set (by assumption)):av P ro n ops Q l ⟨γ,V,df⟩:=BA (wk_sub hZ) h
theorem rtw{c:Code}(k:Nat)(d':D)(h:DWp P ro n c Q ⟨(k,d')::γ,V,df⟩)(hw:WkD (getD γ k) d':=by exact tdW):DWp P ro n c Q ⟨γ,V,df⟩:=dwp_wk (C2 hw) h
theorem appCW{s x:Operand}{T T' e e':Nat}{es new:fH}(h:∀i,V i=none->av prog ro n ops Q rest ⟨(t,.slice (es++new) .no)::γ,V.set i (.tail (tab e).size (es.length+new.length)),df⟩)(hl:A8 γ (Ad [s,x])=some Sr:=by exact tdR)(hk:(tab T).k=.slice e:=by(simp<;>rfl))(d9:(tab T').k=.slice e':=by(simp<;>rfl))(he:A6 (tab e).k=false:=by simp)
  (h1:ev Sr s=.slice es .clip:=by exact tdR) (h2:esOf (ev Sr x)=some new:=by(simp<;>with_unfolding_all rfl)) (hne:new≠[]:=by first|assumption|(simp;done)|(simp[cI,cS,cII];assumption))
  (hlen:∀c∈es,c.length=(tab e).size:=by first|exact BY _|exact Dj _|exact BR _|simp) (hlen':∀c∈new,c.length=(tab e).size:=by first|exact BY _|exact Dj _|exact BR _|simp)
  (hb:(es.length+new.length)*(tab e).bytes<=140737488355328:=by first|(simp;done)|(simp;omega)) (hm:es.length+new.length<=9223372036854775807:=by first|(simp;done)|(simp;omega)) (d6:decide (t<n)=true:=by exact tdR) :
  av prog ro n ops Q (⟨some t,(cA s x T T'),ty,pos,after,none⟩::rest) ⟨γ,V,df⟩:=by
 obtain⟨e1,e2⟩:=evs hl
 exact Ce Af rfl (by simpa using d6) hk d9 he (by rw[<-e1];exact h1) (by rw[<-e2];exact h2) hne hlen hlen' hb hm (fun i hi=>BA (C2 (t:=t) (d:=.slice (es++new) .no) (by simp only[Aa,bp];exact Ao _ _)) (BA (SO fun k=>by simp only[Aa];split<;>exact A9 _) (h i hi)))
theorem rtl{l:List Oper}(k:Nat)(d':D)(h:av P ro n ops Q l ⟨(k,d')::γ,V,df⟩)(hw:WkD (getD γ k) d':=by exact tdW):av P ro n ops Q l ⟨γ,V,df⟩:=BA (C2 hw) h
theorem CI{lo:List Oper}{id:Nat}(ord E:fG)(S0:Sig){lp:List (Bool×Oper)}{ol:Oper}(hC:Sub S0 V)(h:MO prog ro n lo.toArray 334 S0 (Then (fun s=>av prog ro n lo.toArray Q [ol] s) Q) df lp γ V)(hB:JD lo.toArray E ord=true:=by kernel_rfl)(fK:nthO lo (lo.length-1)=some ol:=by exact tdR)(hl:GT lo E ord=some lp:=by exact tdR):DWp prog ro n (.region id lo.toArray true) Q ⟨γ,V,df⟩:=
 QP An mixed ord E S0 hB fK hC hl h
theorem yldW{fop:Operand}{args:Array Operand}{ats:Array TypeId}{l:Nat}{us:fE}{R:DE->Sig->Prop}{dst:Option Tmp}(h:DYield P l us V R)(d7:∀d S',R (.ret d) S'->av P ro n ops Q rest ⟨putD dst d γ,S',df⟩)(d8:∀d S',R (.panic d) S'->Q (.panic d) ⟨γ,S',df⟩)
  (hl:A8 γ (Ad (fop::args.toList))=some Sr:=by exact tdR) (hf:ev Sr fop=.yld l:=by exact tdR) (ha:args.toList.map (ev Sr)=us:=by exact td0)
  (ho:AD n ⟨dst,(cv fop args ats),ty,pos,after,none⟩=true:=by exact tdR) :
  av P ro n ops Q (⟨dst,(cv fop args ats),ty,pos,after,none⟩::rest) ⟨γ,V,df⟩:=by
 have hx:∀x∈fop::args.toList,ev Sr x=ev γ x:=fun x hx=>Co fun t ht=>B7 hl t (Bw (by rw[<-ht];exact hx))
 refine LH rfl (by rw[<-hx fop (by simp)];exact hf) ?_ ho d7 d8
 rw[show args.toList.map (ev γ)=args.toList.map (ev Sr) from bT fun x h=>(hx x (by simp[h])).symm,ha]
 exact h
theorem invW{rv:Operand}{name:String}{args:Array Operand}{ats:Array TypeId}{f T:Nat}{us:fE}{R:DE->Sig->Prop}{dst:Option Tmp}(hM:Ku P T name f)(h:au P f (d::us) V R)(d7:∀d S',R (.ret d) S'->av P ro n ops Q rest ⟨putD dst d γ,S',df⟩)(d8:∀d S',R (.panic d) S'->Q (.panic d) ⟨γ,S',df⟩)
  (hl:A8 γ (Ad (rv::args.toList))=some Sr:=by exact tdR) (hx:ev Sr rv=.iface T d:=by exact tdR) (ha:args.toList.map (ev Sr)=us:=by exact td0)
  (ho:AD n ⟨dst,.call { callee:=.invoke rv name,args,argTypes:=ats },ty,pos,after,none⟩=true:=by exact tdR) :
  av P ro n ops Q (⟨dst,.call { callee:=.invoke rv name,args,argTypes:=ats },ty,pos,after,none⟩::rest) ⟨γ,V,df⟩:=by
 have he:∀x∈rv::args.toList,ev Sr x=ev γ x:=fun x hx=>Co fun t ht=>B7 hl t (Bw (by rw[<-ht];exact hx))
 refine Kf rfl (by rw[<-he rv (by simp)];exact hx) hM h ?_ ho d7 d8
 rw[show args.toList.map (ev γ)=args.toList.map (ev Sr) from bT fun x h=>(he x (by simp[h])).symm,ha]
 exact Eh _
end
end Go.DL
