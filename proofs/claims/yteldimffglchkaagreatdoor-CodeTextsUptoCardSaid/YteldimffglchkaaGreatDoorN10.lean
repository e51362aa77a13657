/- A part of the proof. -/
import Derived.Test.YteldimffglchkaaGreatDoorN09
import Derived.Test.YteldimffglchkaaGreatDoorN06
import Derived.Test.YteldimffglchkaaGreatDoorN07
set_option linter.all false
namespace Go.DL
open Go.Proofs.Tryz
open Go Go.Proofs
structure Hold(F:Prop):Prop where
 get:F
theorem D0{a b:Int}(h:a<=b):decide (a<=b)=true:=by simp[h]
theorem C0{a b:Int}(h:b<a):decide (a<=b)=false:=by simp;omega
theorem CZ{a b:Int}(h:a<b):decide (a<b)=true:=by simp[h]
theorem BZ{a b:Int}(h:b<=a):decide (a<b)=false:=by simp;omega
theorem EU{p:Prop}[Decidable p]{α:Type}{a b:α}(h:p):(if p then a else b)=a:=if_pos h
theorem D1{a b:Int}(h:a=b):decide (a=b)=true:=by simp[h]
theorem CY{a b:Int}(h:¬a=b):decide (a=b)=false:=by simp[h]
theorem BV{a b:Nat}(h:a<=b):decide (a<=b)=true:=by simp[h]
theorem Bs{a b:Nat}(h:b<a):decide (a<=b)=false:=by simp;omega
theorem BU{a b:Nat}(h:a<b):decide (a<b)=true:=by simp[h]
theorem Br{a b:Nat}(h:b<=a):decide (a<b)=false:=by simp;omega
theorem BW{a b:Nat}(h:a=b):decide (a=b)=true:=by simp[h]
theorem BT{a b:Nat}(h:¬a=b):decide (a=b)=false:=by simp[h]
theorem Ag(a b:Bool):(DE.ret (.bool a)=DE.ret (.bool b))=(a=b):=by simp
structure VarsAre(vars:List Nat):Prop
theorem HU{P:Program}{ro:Ro}{n:Nat}{ops:Array Oper}{Q:DX->St->Prop}{df:List DDf}{rest:List Oper}{γ Sr:Fr}{O:Sig}{t:Nat}{ty:TypeId}{pos:String}{after:Array Edge}{d:D}{vars:List Nat}(_:VarsAre vars){tab:Nat->Ty}(ht:AZ P tab){T T' ty':Nat}{x:Operand}{pos':String}{after':Array Edge}{cs:List D}(hv:vars.contains t=false)(hT:T'=T)(aa:decide (t<n)=true)(hx:Ew t x=true)(ho:A1 (tab T).k=false)
  (hl:A0 γ (A5 [x])=some Sr) (he:ev Sr x=d) (ai:d.told=true) (hc:d.cells=cs) (hlen:cs.length=(tab T).size) (aj:BB cs=true)
  (h:DOps P ro n ops Q rest ⟨(t,.cptr cs 0)::γ,O,df⟩) :
  DOps P ro n ops Q (⟨some t,.alloc T,ty,pos,after,none⟩::⟨none,.store T' (.tmp t) x,ty',pos',after',none⟩::rest) ⟨γ,O,df⟩:=
 TY ht vars hv hT aa hx ho hl he ai hc hlen aj h
theorem GO{P:Program}{ro:Ro}{n:Nat}{ops:Array Oper}{Q:DX->St->Prop}{df:List DDf}{rest:List Oper}{γ Sr Sr2:Fr}{O:Sig}{t t2:Nat}{d d2:D}{vars:List Nat}(_:VarsAre vars){tab:Nat->Ty}(ht:AZ P tab){T T' ty ty' ty2:Nat}{x y:Operand}{pos pos' pos2:String}{after after' after2:Array Edge}{cs:List D}(hv:vars.contains t=false)(hT:T'=T)(aa:decide (t<n)=true)(ap:decide (t2<n)=true)(hx:Ew t x=true)(hy:Ew t y=true)(aw:Ew t2 x=true)(aD:decide (t2=t)=false)(ho:A1 (tab T).k=false)
  (ar:A0 γ (A5 [y])=some Sr2) (aC:ev Sr2 y=d2) (hl:A0 γ (A5 [x])=some Sr) (he:ev Sr x=d) (ai:d.told=true) (hc:d.cells=cs) (hlen:cs.length=(tab T).size) (aj:BB cs=true)
  (h:DOps P ro n ops Q rest ⟨(t,.cptr cs 0)::(t2,d2)::γ,O,df⟩) :
  DOps P ro n ops Q (⟨some t,.alloc T,ty,pos,after,none⟩::⟨some t2,.assign y,ty2,pos2,after2,none⟩::⟨none,.store T' (.tmp t) x,ty',pos',after',none⟩::rest) ⟨γ,O,df⟩:=
 Q7 ht vars hv hT aa ap hx hy aw aD ho ar aC hl he ai hc hlen aj h
theorem td0{p:Prop}(h:p:=by simp(disch:=first|omega|assumption) [At,big1,big2,w7]<;>(try simp only[Bi,Bj,AV,Bh,AN,AY,AX,AW,AU,AM,AT,AS,AR])<;>with_unfolding_all rfl):p:=h
theorem tdW{p:Prop}(h:p:=by first|exact A8 _|exact BF _ _|exact Am _ (.inl rfl)|exact E7 _|(refine HG _ ?_;first|omega|(simp;done)|(simp;omega))|(refine CB ?_;(simp;done))|(refine CB ?_;(simp[cI,cS,cII,Fm,F7,GI];done))|(refine DN _ ?_;(simp[cI,cS,cII];done))|(refine CB ?_;(simp_all;done))|assumption):p:=h
theorem tdT{p:Prop}(h:p:=by(first|refine FY ?_ ?_|skip)<;>(repeat' first|exact FW|refine Fa tdR ?_ ?_|(first|exact A8 _|exact BF _ _|exact Am _ (.inl rfl)|exact E7 _|(refine HG _ ?_;first|omega|(simp;done)|(simp;omega))|(refine CB ?_;(simp;done))|(refine CB ?_;(simp[cI,cS,cII,Fm,F7,GI];done))|(refine DN _ ?_;(simp[cI,cS,cII];done))|(refine CB ?_;(simp_all;done))|assumption))):p:=h
theorem tdU{p:Prop}(h:p:=by first|exact Sub.refl _|(refine Di ?_;simp;done)|assumption|exact(Sub.refl _).set (by assumption)):p:=h
section
variable {P:Program}{ro:Ro}{n:Nat}{ops:Array Oper}{N:Nat}{S0:Sig}{Q:DX->St->Prop}{df:List DDf}{rest:List Oper}{γ Sr:List (Nat×D)}{O:Sig}{t:Nat}{ty:TypeId}{pos:String}{after:Array Edge}{l:List (Bool×Oper)}{d:D}
theorem Cb{fop:Operand}{args:Array Operand}{ats:Array TypeId}{f:Nat}{first cap us bs:List D}(h:DCall P f bs O (rS d O))(k1:DOps P ro n ops Q rest ⟨(t,d)::γ,O,df⟩)(hl:A0 γ (A5 (fop::args.toList))=some Sr:=by exact tdR)(hf:ev Sr fop=.func (.func f) first cap:=by exact tdR)(ha:first++args.toList.map (ev Sr)++cap=us:=by exact td0)(hp:bs=us:=by exact tdR)(aa:decide (t<n)=true:=by exact tdR):DOps P ro n ops Q (⟨some t,(cv fop args ats),ty,pos,after,none⟩::rest) ⟨γ,O,df⟩:=Jx hl hf ha (.inl hp) h aa k1
theorem D2{fop:Operand}{args:Array Operand}{ats:Array TypeId}{f:Nat}{first cap us bs:List D}{j:Nat}{want:Bool}{k:Nat}(h:DCall P f bs O (rS d O))(k1:DOps P ro n ops Q rest ⟨(t,d)::γ,O,df⟩)(hk:(ops[j]?).bind (·.dst)=some k:=by exact tdR)(hb:γ.lookup k=some (.bool want):=by exact tdR)(hl:A0 γ (A5 (fop::args.toList))=some Sr:=by exact tdR)(hf:ev Sr fop=.func (.func f) first cap:=by exact tdR)(ha:first++args.toList.map (ev Sr)++cap=us:=by exact td0)(hp:bs=us:=by exact tdR)(aa:decide (t<n)=true:=by exact tdR):DOps P ro n ops Q (⟨some t,(cv fop args ats),ty,pos,after,some (j,want)⟩::rest) ⟨γ,O,df⟩:=HV hk hb hl hf ha (.inl hp) h aa k1
theorem A7{fop:Operand}{args:Array Operand}{ats:Array TypeId}{f:Nat}{first cap us bs:List D}{R:DE->Sig->Prop}{dst:Option Tmp}(h:DCall P f bs O R)(ae:∀d U',R (.ret d) U'->DOps P ro n ops Q rest ⟨putD dst d γ,U',df⟩)(ag:∀d U',R (.panic d) U'->Q (.panic d) ⟨γ,U',df⟩)(hl:A0 γ (A5 (fop::args.toList))=some Sr:=by exact tdR)(hf:ev Sr fop=.func (.func f) first cap:=by exact tdR)(ha:first++args.toList.map (ev Sr)++cap=us:=by exact td0)(hp:bs=us:=by exact tdR)
  (ho:Ar n ⟨dst,(cv fop args ats),ty,pos,after,none⟩=true:=by exact tdR):DOps P ro n ops Q (⟨dst,(cv fop args ats),ty,pos,after,none⟩::rest) ⟨γ,O,df⟩:=G1 hl hf ha (.inl hp) h ho ae ag
theorem Tx{fop:Operand}{args:Array Operand}{ats:Array TypeId}{f:Nat}{first cap us bs:List D}{R:DE->Sig->Prop}{dst:Option Tmp}(h:DCall P f bs O R)(ae:∀d U',R (.ret d) U'->DOps P ro n ops Q rest ⟨putD dst d γ,U',df⟩)(ag:∀d U',R (.panic d) U'->Q (.panic d) ⟨γ,U',df⟩)(hl:A0 γ (A5 (fop::args.toList))=some Sr:=by exact tdR)(hf:ev Sr fop=.func (.func f) first cap:=by exact tdR)(ha:first++args.toList.map (ev Sr)++cap=us:=by exact td0)(hp:bs=us.map D.plain:=by exact tdR)
  (ho:Ar n ⟨dst,(cv fop args ats),ty,pos,after,none⟩=true:=by exact tdR):DOps P ro n ops Q (⟨dst,(cv fop args ats),ty,pos,after,none⟩::rest) ⟨γ,O,df⟩:=G1 hl hf ha (.inr hp) h ho ae ag
theorem cndB{c:Nat}{x y:Code}{b:Bool}(ht:b=true->DWp P ro n x Q ⟨(c,.bool true)::γ,O,df⟩)(hf:b=false->DWp P ro n y Q ⟨(c,.bool false)::γ,O,df⟩)(hl:γ.lookup c=some (.bool b):=by exact tdR):DWp P ro n (.cond (.tmp c) x y) Q ⟨γ,O,df⟩:=by
 refine Oy (s:=⟨γ,O,df⟩) (t:=b) (An hl) (fun h=>?_) (fun h=>?_)
 ·exact Co (BN (by rw[An hl,h];exact A8 _)) (ht h)
 ·exact Co (BN (by rw[An hl,h];exact A8 _)) (hf h)
theorem mix{lo:List Oper}{id:Nat}(ord E:List Nat){lp:List (Bool×Oper)}(h:MO prog ro n lo.toArray 431 O Q df lp γ O)(hB:Ex lo.toArray E ord=true:=by kernel_rfl)(hl:I7 lo E ord=some lp:=by exact tdR):DWp prog ro n (.region id lo.toArray true) Q ⟨γ,O,df⟩:=
 Ov Ac mixed ord E O hB (Sub.refl _) hl h
theorem Ij{lo:List Oper}{id:Nat}(ord E:List Nat)(S0:Sig)(hC:Sub S0 O){lp:List (Bool×Oper)}(h:MO prog ro n lo.toArray 431 S0 Q df lp γ O)(hB:Ex lo.toArray E ord=true:=by kernel_rfl)(hl:I7 lo E ord=some lp:=by exact tdR):DWp prog ro n (.region id lo.toArray true) Q ⟨γ,O,df⟩:=
 Ov Ac mixed ord E S0 hB hC hl h
theorem wkR{V':Fr}{U':Sig}(h:TellsR γ V':=by exact tdT)(hU:Sub U' O:=by exact tdU):Wk P n ⟨γ,O,df⟩ ⟨V',U',df⟩:=Kk h hU
theorem Cg{Sk:Fr}{α:Type}{c:Code}(keep:List Nat)(I:α->Prop)(ov:α->Fr)(sg:α->Sig)(μ:α->Nat)(x0:α)(h0:I x0)
  (round:∀x,I x->DWp P ro n c (Then (fun s'=> ∃x',I x'/\μ x'<μ x/\Wk P n s' ⟨ov x'++Sk,sg x',df⟩) Q) ⟨ov x++Sk,sg x,df⟩) (hk:Dm γ keep=some Sk:=by exact tdR) (h1:TellsR γ (ov x0++Sk):=by exact tdT) (h2:Sub (sg x0) O:=by exact tdU):DWp P ro n (.loop c) Q ⟨γ,O,df⟩:=F2 keep I ov sg μ x0 hk h0 h1 h2 round
theorem D7{Sk:Fr}{α β:Type}{c:Code}(keep:List Nat)(I:α->β->Prop)(ov:α->β->Fr)(sg:α->β->Sig)(μ:α->β->Nat)(x0:α)(y0:β)(h0:I x0 y0)
  (round:∀x y,I x y->DWp P ro n c (Then (fun s'=> ∃x' y',I x' y'/\μ x' y'<μ x y/\Wk P n s' ⟨ov x' y'++Sk,sg x' y',df⟩) Q) ⟨ov x y++Sk,sg x y,df⟩) (hk:Dm γ keep=some Sk:=by exact tdR) (h1:TellsR γ (ov x0 y0++Sk):=by exact tdT) (h2:Sub (sg x0 y0) O:=by exact tdU):DWp P ro n (.loop c) Q ⟨γ,O,df⟩:=PD keep I ov sg μ x0 y0 hk h0 h1 h2 round
theorem Ft{Sk:Fr}{α β δ:Type}{c:Code}(keep:List Nat)(I:α->β->δ->Prop)(ov:α->β->δ->Fr)(sg:α->β->δ->Sig)(μ:α->β->δ->Nat)(x0:α)(y0:β)(z0:δ)(h0:I x0 y0 z0)
  (round:∀x y z,I x y z->DWp P ro n c (Then (fun s'=> ∃x' y' z',I x' y' z'/\μ x' y' z'<μ x y z/\Wk P n s' ⟨ov x' y' z'++Sk,sg x' y' z',df⟩) Q) ⟨ov x y z++Sk,sg x y z,df⟩) (hk:Dm γ keep=some Sk:=by exact tdR) (h1:TellsR γ (ov x0 y0 z0++Sk):=by exact tdT) (h2:Sub (sg x0 y0 z0) O:=by exact tdU):DWp P ro n (.loop c) Q ⟨γ,O,df⟩:=PC keep I ov sg μ x0 y0 z0 hk h0 h1 h2 round
theorem fin{fn:Func}{R:DE->Sig->Prop}{U':Sig}{d:D}(hR:R (.ret d) U')(hU:Sub U' O:=by exact tdU)(h:resD fn γ=some d:=by exact tdR):Dp P n fn R .ret ⟨γ,O,[]⟩:=Ou hU h hR
theorem finS{fn:Func}{R:DE->Sig->Prop}{U':Sig}{es:List (List D)}{o:Own}{t:Nat}(hR:R (.ret (.slice es .no)) U')(hU:Sub U' O:=by exact tdU)(hr:fn.results=#[.tmp t]:=by exact tdR)(h:getD γ t=.slice es o:=by exact An tdR):Dp P n fn R .ret ⟨γ,O,[]⟩:=Tg hU hr h hR
theorem fin1{fn:Func}{R:DE->Sig->Prop}{U':Sig}{t:Nat}{d d':D}(hR:R (.ret d') U')(hU:Sub U' O:=by exact tdU)(hr:fn.results=#[.tmp t]:=by exact tdR)(hl:γ.lookup t=some d:=by exact tdR)(hw:WkD d d':=by exact tdW):Dp P n fn R .ret ⟨γ,O,[]⟩:=
 ⟨⟨[(t,d')],U',[]⟩,PT (show Tells γ [(t,d')] from⟨by rw[An hl];exact hw,trivial⟩) hU,rfl,d',CQ (by simp[resD,hr]),DI hR⟩
theorem fin2{fn:Func}{R:DE->Sig->Prop}{U':Sig}{t u:Nat}{d d' e e':D}(hR:R (.ret (.tup [d',e'])) U')(hU:Sub U' O:=by exact tdU)(hr:fn.results=#[.tmp t,.tmp u]:=by exact tdR)(hl:γ.lookup t=some d:=by exact tdR)(ar:γ.lookup u=some e:=by exact tdR)(ay:decide (u=t)=false:=by exact tdR)(hw:WkD d d':=by exact tdW)(ax:WkD e e':=by exact tdW):Dp P n fn R .ret ⟨γ,O,[]⟩:=
 ⟨⟨[(t,d'),(u,e')],U',[]⟩,PT (show Tells γ [(t,d'),(u,e')] from ⟨by rw [An hl];exact hw,by rw [An ar];exact ax,trivial⟩) hU,rfl, .tup [d',e'],CQ (by
  have:u≠t:=by simpa using ay
  simp[resD,hr,this]),DI hR⟩
theorem fin0{fn:Func}{R:DE->Sig->Prop}{U':Sig}(hR:R (.ret (.tup [])) U')(hU:Sub U' O:=by exact tdU)(hr:fn.results=#[]:=by exact tdR):Dp P n fn R .ret ⟨γ,O,[]⟩:=Ou hU (by simp[resD,hr]) hR
theorem DZ{fn:Func}{R:DE->Sig->Prop}{U':Sig}(hR:R (.ret (.tup [])) U')(hU:Sub U' O:=by exact tdU)(hr:fn.results=#[]:=by exact tdR):Dp P n fn R .normal ⟨γ,O,[]⟩:=No hU (by simp[resD,hr]) hR
theorem finP{fn:Func}{R:DE->Sig->Prop}{U':Sig}{d:D}(hR:R (.panic d) U')(hU:Sub U' O:=by exact tdU):Dp P n fn R (.panic d) ⟨γ,O,[]⟩:=Th hU hR
theorem HR{c:Code}(t sz:Nat)(h:∀i,O i=none->DWp P ro n c Q ⟨(t,.slice [] (.tag i))::γ,O.set i (.tail sz 0),df⟩)(ht:getD γ t=.nils:=by exact An tdR):DWp P ro n c Q ⟨γ,O,df⟩:=dwp_tag t sz ht h
end
section
variable {ro:Ro}{n:Nat}{ops:Array Oper}{N:Nat}{S0:Sig}{Q:DX->St->Prop}{df:List DDf}{rest:List Oper}{γ Sr:List (Nat×D)}{O:Sig}{t:Nat}{ty:TypeId}{pos:String}{after:Array Edge}{d:D}{s x:Operand}{T T' e e':Nat}
theorem evs{s x:Operand}(hl:A0 γ (A5 [s,x])=some Sr):ev Sr s=ev γ s/\ev Sr x=ev γ x:=
 have h:∀z∈[s,x],ev Sr z=ev γ z:=fun z hz=>B2 fun t ht=>Aq hl t (Ax (by rw[<-ht];exact hz))
 ⟨h s (by simp),h x (by simp)⟩
theorem appC{es new:List (List D)}(h:∀i,O i=none->DOps prog ro n ops Q rest ⟨(t,.slice (es++new) (.tag i))::γ,O.set i (.tail (tab e).size (es.length+new.length)),df⟩)
  (hl:A0 γ (A5 [s,x])=some Sr:=by exact tdR) (hk:(tab T).k=.slice e:=by(simp<;>rfl)) (ah:(tab T').k=.slice e':=by(simp<;>rfl)) (he:A1 (tab e).k=false:=by simp)
  (h1:ev Sr s=.slice es .clip:=by exact tdR) (h2:esOf (ev Sr x)=some new:=by(simp<;>with_unfolding_all rfl)) (hne:new≠[]:=by simp)
  (hlen:∀c∈es,c.length=(tab e).size:=by first|exact Cc _|exact E3 _|exact CL _|simp) (hlen':∀c∈new,c.length=(tab e).size:=by first|exact Cc _|exact E3 _|exact CL _|simp)
  (hb:(es.length+new.length)*(tab e).bytes<=140737488355328:=by first|(simp;done)|(simp;omega)) (hm:es.length+new.length<=9223372036854775807:=by first|(simp;done)|(simp;omega)) (aa:decide (t<n)=true:=by exact tdR) :
  DOps prog ro n ops Q (⟨some t,(cA s x T T'),ty,pos,after,none⟩::rest) ⟨γ,O,df⟩:=by
 obtain⟨e1,e2⟩:=evs hl
 exact Cd Ad rfl (by simpa using aa) hk ah he (by rw[<-e1];exact h1) (by rw[<-e2];exact h2) hne hlen hlen' hb hm h
theorem app0{es:List (List D)}(h:DOps prog ro n ops Q rest ⟨(t,d)::γ,O,df⟩)
  (hl:A0 γ (A5 [s,x])=some Sr:=by exact tdR) (hd:ev Sr s=d:=by exact tdR) (hk:(tab T).k=.slice e:=by(simp<;>rfl)) (ah:(tab T').k=.slice e':=by(simp<;>rfl)) (he:A1 (tab e).k=false:=by simp)
  (h1:esOf d=some es:=by exact tdR) (h2:esOf (ev Sr x)=some []:=by first|with_unfolding_all rfl|(simp_all;done)) (aa:decide (t<n)=true:=by exact tdR) :
  DOps prog ro n ops Q (⟨some t,(cA s x T T'),ty,pos,after,none⟩::rest) ⟨γ,O,df⟩:=by
 obtain⟨e1,e2⟩:=evs hl
 have:=Ey (ops:=ops) (Q:=Q) (rest:=rest) (df:=df) (O:=O) (γ:=γ) (ty:=ty) (pos:=pos) (after:=after) (guard:=none) (es:=es) (ro:=ro) (n:=n) Ad (T:=T) (T':=T') (s:=s) (x:=x) rfl (by simpa using aa) hk ah he (by rw[<-e1,hd];exact h1) (by rw[<-e2];exact h2) (by rw[<-e1,hd];exact h)
 exact this
theorem newM{T:Nat}(h:∀i,O i=none->DOps prog ro n ops Q rest ⟨(t,.map i)::γ,O.set i (.map []),df⟩)(aa:decide (t<n)=true:=by exact tdR):
  DOps prog ro n ops Q (⟨some t,.makeMap T none,ty,pos,after,none⟩::rest) ⟨γ,O,df⟩:=
 Ms Ad rfl (.inl rfl) (by simpa using aa) h
theorem newV{T:Nat}{z:List D}(h:∀i,O i=none->DOps prog ro n ops Q rest ⟨(t,.ptr i 0)::γ,O.set i (.cells z),df⟩)(hk:A1 (tab T).k=false:=by simp)(hz:(tab T).zero=z:=by(simp<;>rfl))(aa:decide (t<n)=true:=by exact tdR):
  DOps prog ro n ops Q (⟨some t,.alloc T,ty,pos,after,none⟩::rest) ⟨γ,O,df⟩:=by
 subst hz;exact E2 Ad hk (by simpa using aa) h
theorem pan{T:Nat}{dst:Option Tmp}(h:Q (.panic (.iface T d)) ⟨γ,O,df⟩)(hl:A0 γ (A5 [x])=some Sr:=by exact tdR)(hx:ev Sr x=.iface T d:=by exact tdR):
  DOps prog ro n ops Q (⟨dst,.panic x,ty,pos,after,none⟩::rest) ⟨γ,O,df⟩:=PF rfl (by rw[<-C2 hl];exact hx) h
theorem isN{es:List (List D)}{o:Own}(h:∀b,(b=true->es=[])->DOps prog ro n ops Q rest ⟨(t,.bool b)::γ,O,df⟩)(hl:A0 γ (A5 [x])=some Sr:=by exact tdR)(hx:ev Sr x=.slice es o:=by exact tdR)(hk:(tab T).k=.slice e:=by(simp<;>rfl))(aa:decide (t<n)=true:=by exact tdR):
  DOps prog ro n ops Q (⟨some t,.binOp .eql T x (.const (.slice none 0 0)) T',ty,pos,after,none⟩::rest) ⟨γ,O,df⟩:=
 PH Ad hk rfl (by rw[<-C2 hl];exact hx) (by simpa using aa) h
end
theorem go1{F G' G:Prop}(fx:F)(h:G') (hs:VarsAre []->Hold F->G'->G:=by
 intro hv fx hG
 (first
  |(with_reducible first|refine FG ?_|refine HP ?_|refine Kp ?_|refine GK ?_|refine H3 ?_|refine KO ?_|refine Rd (by decide) ?_|refine Nd ?_|refine Iw ?_|refine IK ?_|refine IL ?_|refine KV ?_|refine KW ?_|refine Nq ?_|refine Au ?_|refine GA ?_|refine QH ?_)
  |((with_reducible refine G0 (d:=?_) (Sr:=?_) Ad ?h1 ?h2 ?hl ?hd ?_);(case h1=>rfl);(case h2=>rfl);(case hl=>rfl);(case hd=>simp(disch:=first|omega|assumption) [At,big1,big2,w7,D0,C0,CZ,BZ,D1,CY,BV,Bs,BU,Br,BW,BT,EU,fx.get]<;>(try simp only[Bi,Bj,AV,Bh,AN,AY,AX,AW,AU,AM,AT,AS,AR])<;>first|rfl|(and_intros<;>rfl)))
  |((with_reducible refine GN (d:=?_) (k:=?_) (Sr:=?_) Ad ?h1 ?h2 ?hk ?hb ?hl ?hd ?_);(case h1=>rfl);(case h2=>rfl);(case hk=>rfl);(case hb=>rfl);(case hl=>rfl);(case hd=>simp(disch:=first|omega|assumption) [At,big1,big2,w7,D0,C0,CZ,BZ,D1,CY,BV,Bs,BU,Br,BW,BT,EU,fx.get]<;>(try simp only[Bi,Bj,AV,Bh,AN,AY,AX,AW,AU,AM,AT,AS,AR])<;>first|rfl|(and_intros<;>rfl)))
  |((with_reducible refine step_read0 (d:=?_) (Sr:=?_) Ad ?h1 ?hl ?hd ?_);(case h1=>rfl);(case hl=>rfl);(case hd=>simp(disch:=first|omega|assumption) [At,big1,big2,w7,D0,C0,CZ,BZ,D1,CY,BV,Bs,BU,Br,BW,BT,EU,fx.get]<;>(try simp only[Bi,Bj,AV,Bh,AN,AY,AX,AW,AU,AM,AT,AS,AR])<;>first|rfl|(and_intros<;>rfl)))
  |((with_reducible refine KF (d:=?_) (Sr:=?_) Ad ?h1 ?h2 ?hl ?hd ?_);(case h1=>rfl);(case h2=>rfl);(case hl=>rfl);(case hd=>simp(disch:=first|omega|assumption) [At,big1,big2,w7,D0,C0,CZ,BZ,D1,CY,BV,Bs,BU,Br,BW,BT,EU,fx.get]<;>(try simp only[Bi,Bj,AV,Bh,AN,AY,AX,AW,AU,AM,AT,AS,AR])<;>first|rfl|(and_intros<;>rfl)))
  |((with_reducible refine KE (d:=?_) (k:=?_) (Sr:=?_) Ad ?h1 ?h2 ?hk ?hb ?hl ?hd ?_);(case h1=>rfl);(case h2=>rfl);(case hk=>rfl);(case hb=>rfl);(case hl=>rfl);(case hd=>simp(disch:=first|omega|assumption) [At,big1,big2,w7,D0,C0,CZ,BZ,D1,CY,BV,Bs,BU,Br,BW,BT,EU,fx.get]<;>(try simp only[Bi,Bj,AV,Bh,AN,AY,AX,AW,AU,AM,AT,AS,AR])<;>first|rfl|(and_intros<;>rfl)))
  |((with_reducible refine mo_read0 (d:=?_) (Sr:=?_) Ad ?h1 ?hl ?hd ?_);(case h1=>rfl);(case hl=>rfl);(case hd=>simp(disch:=first|omega|assumption) [At,big1,big2,w7,D0,C0,CZ,BZ,D1,CY,BV,Bs,BU,Br,BW,BT,EU,fx.get]<;>(try simp only[Bi,Bj,AV,Bh,AN,AY,AX,AW,AU,AM,AT,AS,AR])<;>first|rfl|(and_intros<;>rfl)))
  |((with_reducible refine HT (k:=?_) Ac ?hk ?hb ?h1 ?h2 ?_);(case hk=>rfl);(case hb=>rfl);(case h1=>rfl);(case h2=>rfl))
  |((with_reducible refine GM (k:=?_) Ac ?hk ?hb ?h1 ?h2 ?_);(case hk=>rfl);(case hb=>rfl);(case h1=>rfl);(case h2=>rfl))
  |((with_reducible refine step_skip0 (k:=?_) Ac ?hk ?hb ?h1 ?_);(case hk=>rfl);(case hb=>rfl);(case h1=>rfl))
  |((with_reducible refine step_skipU0 (k:=?_) Ac ?hk ?hb ?h1 ?_);(case hk=>rfl);(case hb=>rfl);(case h1=>rfl))
  |((with_reducible refine KD (k:=?_) ?hk ?hb ?h1 ?h2 ?_);(case hk=>rfl);(case hb=>rfl);(case h1=>rfl);(case h2=>rfl))
  |((with_reducible refine mo_skipU (k:=?_) ?hk ?hb ?h1 ?h2 ?_);(case hk=>rfl);(case hb=>rfl);(case h1=>rfl);(case h2=>rfl))
  |((with_reducible refine mo_skip0 (k:=?_) ?hk ?hb ?h1 ?_);(case hk=>rfl);(case hb=>rfl);(case h1=>rfl))
  |((with_reducible refine mo_skipU0 (k:=?_) ?hk ?hb ?h1 ?_);(case hk=>rfl);(case hb=>rfl);(case h1=>rfl))
  |((with_reducible refine Ks (d:=?_) (U':=?_) (Sr:=?_) Ad ?hl ?he ?h1 ?_);(case hl=>rfl);(case he=>simp(disch:=first|omega|assumption) [At,big1,big2,w7,D0,C0,CZ,BZ,D1,CY,BV,Bs,BU,Br,BW,BT,EU,fx.get]<;>first|rfl|(and_intros<;>rfl));(case h1=>rfl))
  |((with_reducible refine DP (d:=?_) (U':=?_) (Sr:=?_) Ad ?hl ?he ?_);(case hl=>rfl);(case he=>simp(disch:=first|omega|assumption) [At,big1,big2,w7,D0,C0,CZ,BZ,D1,CY,BV,Bs,BU,Br,BW,BT,EU,fx.get]<;>first|rfl|(and_intros<;>rfl)))
  |((with_reducible refine N8 (d:=?_) (U':=?_) (Sr:=?_) Ad ?hl ?he ?h1 ?hC ?_);(case hl=>rfl);(case he=>simp(disch:=first|omega|assumption) [At,big1,big2,w7,D0,C0,CZ,BZ,D1,CY,BV,Bs,BU,Br,BW,BT,EU,fx.get]<;>first|rfl|(and_intros<;>rfl));(case h1=>rfl);(case hC=>clear hG;first|exact Sub.refl _|assumption|exact(Sub.refl _).set (by assumption)))
  |((with_reducible refine FK (d:=?_) (U':=?_) (Sr:=?_) Ad ?hl ?he ?hC ?_);(case hl=>rfl);(case he=>simp(disch:=first|omega|assumption) [At,big1,big2,w7,D0,C0,CZ,BZ,D1,CY,BV,Bs,BU,Br,BW,BT,EU,fx.get]<;>first|rfl|(and_intros<;>rfl));(case hC=>clear hG;first|exact Sub.refl _|assumption|exact(Sub.refl _).set (by assumption)))
  |((with_reducible refine step_neqS (r:=?_) (Sr:=?_) (xs:=?_) (ys:=?_) (fs:=?_) Ad ?hE ?h1 ?hl ?hx ?hy ?hk ?hd ?_);(case hE=>with_reducible first|exact eqTy63|exact eqTy150);(case h1=>rfl);(case hl=>rfl);(case hx=>rfl);(case hy=>rfl);(case hk=>simp<;>rfl);(case hd=>simp(disch:=first|omega|assumption) [At,big1,big2,w7,D0,C0,CZ,BZ,D1,CY,BV,Bs,BU,Br,BW,BT,EU,fx.get]<;>rfl))
  |((with_reducible refine If (r:=?_) (Sr:=?_) (xs:=?_) (ys:=?_) (fs:=?_) Ad ?hE ?h1 ?hl ?hx ?hy ?hk ?hd ?_);(case hE=>with_reducible first|exact eqTy63|exact eqTy150);(case h1=>rfl);(case hl=>rfl);(case hx=>rfl);(case hy=>rfl);(case hk=>simp<;>rfl);(case hd=>simp(disch:=first|omega|assumption) [At,big1,big2,w7,D0,C0,CZ,BZ,D1,CY,BV,Bs,BU,Br,BW,BT,EU,fx.get]<;>rfl))
  |((with_reducible refine GP (Sr:=?_) ?hl ?hc ?_);(case hl=>rfl);(case hc=>simp(disch:=first|omega|assumption) [At,big1,big2,w7,D0,C0,CZ,BZ,D1,CY,BV,Bs,BU,Br,BW,BT,EU,fx.get];done))
  |((with_reducible refine GQ (Sr:=?_) ?hl ?hc ?_);(case hl=>rfl);(case hc=>simp(disch:=first|omega|assumption) [At,big1,big2,w7,D0,C0,CZ,BZ,D1,CY,BV,Bs,BU,Br,BW,BT,EU,fx.get];done))
  |((with_reducible refine HU (d:=?_) (cs:=?_) (Sr:=?_) hv Ad ?h1 ?h2 ?h3 ?h4 ?h5 ?hl ?he ?h6 ?h7 ?h8 ?h9 ?_);(case h1=>rfl);(case h2=>rfl);(case h3=>rfl);(case h4=>rfl);(case h5=>simp);(case hl=>rfl);(case he=>simp<;>(try simp only[Bi,Bj,AV,Bh,AN,AY,AX,AW,AU,AM,AT,AS,AR])<;>rfl);(case h6=>rfl);(case h7=>simp<;>(try simp only[Bi,Bj,AV,Bh,AN,AY,AX,AW,AU,AM,AT,AS,AR])<;>rfl);(case h8=>simp);(case h9=>simp))
  |((with_reducible refine GO (d:=?_) (d2:=?_) (cs:=?_) (Sr:=?_) (Sr2:=?_) hv Ad ?h1 ?h2 ?h3 ?h4 ?h5 ?g1 ?g2 ?g3 ?g4 ?gl ?ge ?hl ?he ?h6 ?h7 ?h8 ?h9 ?_);(case h1=>rfl);(case h2=>rfl);(case h3=>rfl);(case h4=>rfl);(case h5=>rfl);(case g1=>rfl);(case g2=>rfl);(case g3=>rfl);(case g4=>simp);(case gl=>rfl);(case ge=>simp<;>(try simp only[Bi,Bj,AV,Bh,AN,AY,AX,AW,AU,AM,AT,AS,AR])<;>rfl);(case hl=>rfl);(case he=>simp<;>(try simp only[Bi,Bj,AV,Bh,AN,AY,AX,AW,AU,AM,AT,AS,AR])<;>rfl);(case h6=>rfl);(case h7=>simp<;>(try simp only[Bi,Bj,AV,Bh,AN,AY,AX,AW,AU,AM,AT,AS,AR])<;>rfl);(case h8=>simp);(case h9=>simp)))
 exact hG):G:=hs ⟨⟩ ⟨fx⟩ h
section
variable {P:Program}{ro:Ro}{n:Nat}{ops:Array Oper}{N:Nat}{S0:Sig}{Q:DX->St->Prop}{df:List DDf}{rest:List Oper}{γ Sr:List (Nat×D)}{O:Sig}{t:Nat}{ty:TypeId}{pos:String}{after:Array Edge}{l:List (Bool×Oper)}{d:D}
theorem needR{fop:Operand}{args:Array Operand}{ats:Array TypeId}{f:Nat}{first cap us bs:List D}{c:Bool}{u d:D}{dst:Option Tmp}(h:DCall P f bs O fun x U'=>x=(if c then .ret d else .panic u)/\U'=O)(k1:c=true->DOps P ro n ops Q rest ⟨putD dst d γ,O,df⟩)(k2:c=false->Q (.panic u) ⟨γ,O,df⟩)(hl:A0 γ (A5 (fop::args.toList))=some Sr:=by exact tdR)(hf:ev Sr fop=.func (.func f) first cap:=by exact tdR)(ha:first++args.toList.map (ev Sr)++cap=us:=by exact td0)(hp:bs=us:=by exact tdR)
  (ho:Ar n ⟨dst,(cv fop args ats),ty,pos,after,none⟩=true:=by exact tdR):DOps P ro n ops Q (⟨dst,(cv fop args ats),ty,pos,after,none⟩::rest) ⟨γ,O,df⟩:=by
 refine G1 hl hf ha (.inl hp) h ho (fun d' U' hx=>?_) (fun d' U' hx=>?_)
 all_goals obtain⟨hx,rfl⟩:=hx;cases c<;>simp only[Bool.false_eq_true,if_true,if_false,DE.ret.injEq,DE.panic.injEq,reduceCtorEq]at hx
 ·subst hx;exact k1 rfl
 ·subst hx;exact k2 rfl
theorem BG{fop:Operand}{args:Array Operand}{ats:Array TypeId}{f:Nat}{first cap us bs:List D}{R:DE->Sig->Prop}{dst:Option Tmp}{l:List (Bool×Oper)}(h:DCall P f bs O R)(ae:∀d U',R (.ret d) U'->Sub S0 U'/\MO P ro n ops N S0 Q df l (putD dst d γ) U')(ag:∀d U',R (.panic d) U'->∀V',Q (.panic d) ⟨V',U',df⟩)(hl:A0 γ (A5 (fop::args.toList))=some Sr:=by exact tdR)(hf:ev Sr fop=.func (.func f) first cap:=by exact tdR)(ha:first++args.toList.map (ev Sr)++cap=us:=by exact td0)(hp:bs=us:=by exact tdR)
  (ho:Ar n ⟨dst,(cv fop args ats),ty,pos,after,none⟩=true:=by exact tdR):MO P ro n ops N S0 Q df ((true,⟨dst,(cv fop args ats),ty,pos,after,none⟩)::l) γ O:=KG rfl hl hf ha (.inl hp) h ho ae ag
theorem nilE{x:Operand}{z:Value}{T T':Nat}{b:Bool}(h:DOps prog ro n ops Q rest ⟨(t,.bool b)::γ,O,df⟩)(hl:A0 γ (A5 [x])=some Sr:=by exact tdR)(hb:nilB (tab T).k z (ev Sr x)=some b:=by(simp<;>with_unfolding_all rfl))(aa:decide (t<n)=true:=by exact tdR):
  DOps prog ro n ops Q (⟨some t,.binOp .eql T x (.const z) T',ty,pos,after,none⟩::rest) ⟨γ,O,df⟩:=
 Mp Ad (b:=b) false rfl (by rw[<-C2 hl];exact hb) (by simpa using aa) (by cases b<;>exact h)
theorem nilN{x:Operand}{z:Value}{T T':Nat}{b:Bool}(h:DOps prog ro n ops Q rest ⟨(t,.bool (!b))::γ,O,df⟩)(hl:A0 γ (A5 [x])=some Sr:=by exact tdR)(hb:nilB (tab T).k z (ev Sr x)=some b:=by(simp<;>with_unfolding_all rfl))(aa:decide (t<n)=true:=by exact tdR):
  DOps prog ro n ops Q (⟨some t,.binOp .neq T x (.const z) T',ty,pos,after,none⟩::rest) ⟨γ,O,df⟩:=
 Mp Ad (b:=b) true rfl (by rw[<-C2 hl];exact hb) (by simpa using aa) (by cases b<;>exact h)
theorem boolE{x y:Operand}{T T':Nat}{a b:Bool}{gd:Option (Nat×Bool)}(h:DOps prog ro n ops Q rest ⟨(t,.bool (a==b))::γ,O,df⟩)(hw:Ay ops γ ⟨some t,.binOp .eql T x y T',ty,pos,after,gd⟩=some true:=by exact tdR)(hl:A0 γ (A5 [x,y])=some Sr:=by exact tdR)(hk:(tab T).k=.bool:=by(simp;done))(hx:ev Sr x=.bool a:=by exact tdR)(hy:ev Sr y=.bool b:=by exact tdR)(aa:decide (t<n)=true:=by exact tdR):
  DOps prog ro n ops Q (⟨some t,.binOp .eql T x y T',ty,pos,after,gd⟩::rest) ⟨γ,O,df⟩:=
 Vd Ad false hw hk (by rw[<-(evs hl).1];exact hx) (by rw[<-(evs hl).2];exact hy) (by simpa using aa) (by cases a<;>cases b<;>exact h)
theorem mapp{T T' e e' sz:Nat}{s x:Operand}{es new:List (List D)}{st:MR}(h:∀st',mOK O sz st' (es++new)->DOps prog ro n ops Q rest ⟨(t,mD st' (es.length+new.length))::γ,mS O st' (es++new),df⟩)(hm:mOK O sz st es:=by assumption)
  (hl:A0 γ (A5 [s,x])=some Sr:=by exact tdR) (hk:(tab T).k=.slice e:=by(simp<;>rfl)) (ah:(tab T').k=.slice e':=by(simp<;>rfl)) (he:A1 (tab e).k=false:=by simp) (hsz:(tab e).size=sz:=by simp)
  (h1:ev Sr s=mD st es.length:=by first|with_unfolding_all rfl|(simp[ev,getD,List.lookup];done)) (h2:esOf (ev Sr x)=some new:=by(simp<;>with_unfolding_all rfl))
  (hlen':∀c∈new,c.length=sz:=by first|exact Cc _|exact E3 _|exact CL _|simp) (aB:∀c∈new,BB c=true:=by simp[cI,cS,cII,BB,D.flat])
  (hb:(es.length+new.length)*(tab e).bytes<=140737488355328:=by first|(simp;done)|(simp;omega)) (hm2:es.length+new.length<=9223372036854775807:=by first|(simp;done)|(simp;omega)) (aa:decide (t<n)=true:=by exact tdR) :
  DOps prog ro n ops Q (⟨some t,(cA s x T T'),ty,pos,after,none⟩::rest) ⟨γ,mS O st es,df⟩:=by
 obtain⟨e1,e2⟩:=evs hl
 exact Mr Ad (by simpa using aa) hk ah he hsz (by rw[<-e1];exact h1) hm (by rw[<-e2];exact h2) hlen' aB hb hm2 (fun st' h'=>by rw[List.length_append];exact h st' h')
theorem mmake{T e k sz c:Nat}{l m:Operand}{z:List D}(h:∀i,O i=none->mOK O sz (some (i,c,(List.replicate (c-k) z).flatten)) (List.replicate k z)->DOps prog ro n ops Q rest ⟨(t,.sref i 0 k c)::γ,mS O (some (i,c,(List.replicate (c-k) z).flatten)) (List.replicate k z),df⟩)
  (hl:A0 γ (A5 [l,m])=some Sr:=by exact tdR) (hk:(tab T).k=.slice e:=by(simp<;>rfl)) (he:A1 (tab e).k=false:=by simp) (hsz:(tab e).size=sz:=by(simp<;>rfl)) (h0:0<sz:=by decide) (hz:(tab e).zero=z:=by(simp<;>rfl))
  (h1:ev Sr l=.int .i64 k:=by exact tdR) (h2:ev Sr m=.int .i64 c:=by exact tdR) (aA:k<=c:=by first|exact Nat.le_refl _|omega) (hb:c*(tab e).bytes<=140737488355328:=by first|(simp;done)|(simp;omega)) (hm:c<=9223372036854775807:=by omega) (aa:decide (t<n)=true:=by exact tdR) :
  DOps prog ro n ops Q (⟨some t,.makeSlice T l m,ty,pos,after,none⟩::rest) ⟨γ,O,df⟩:=by
 obtain⟨e1,e2⟩:=evs hl
 exact PG Ad (by simpa using aa) hk he hsz h0 hz (by rw[<-e1];exact h1) (by rw[<-e2];exact h2) aA hb hm h
theorem mfr(k:Nat){l:List Oper}{sz:Nat}{st:MR}{es:List (List D)}(h:DOps P ro n ops Q l ⟨(k,.slice es .no)::γ,O,df⟩)(hm:mOK O sz st es:=by assumption)(hk:getD γ k=mD st es.length:=by first|exact An tdR|(simp[getD,List.lookup];done)):DOps P ro n ops Q l ⟨γ,mS O st es,df⟩:=
 Ck (ON hm hk) h
theorem bldZ{T len e:Nat}{z:List D}(h:DOps prog ro n ops Q rest ⟨(t,.agg z)::γ,O,df⟩)(hk:(tab T).k=.array len e:=by exact tdR)(he:A1 (tab e).k=false:=by simp)(hz:(tab T).zero=z:=by(simp<;>rfl))(aa:decide (t<n)=true:=by exact tdR):DOps prog ro n ops Q (⟨some t,.build T #[],ty,pos,after,none⟩::rest) ⟨γ,O,df⟩:=by
 subst hz;exact Nu Ad (by simpa using aa) hk he h
theorem mfrC(xs ys:List D){i:Nat}{l:List Oper}{sz:Nat}{st:MR}{es:List (List D)}(h:DOps P ro n ops Q l ⟨γ,O.set i (.cells (xs ++ .slice es .no::ys)),df⟩)(hi:O i=some (.cells (xs++mD st es.length::ys)):=by first|exact w6 .. |(simp;done))(hm:mOK O sz st es:=by assumption):DOps P ro n ops Q l ⟨γ,mS O st es,df⟩:=
 Ck (ML hm hi) h
theorem celW(xs ys:List D)(d d':D){i:Nat}{l:List Oper}(h:DOps P ro n ops Q l ⟨γ,O.set i (.cells (xs++d'::ys)),df⟩)(hi:O i=some (.cells (xs++d::ys)):=by first|exact w6 .. |(simp;done))(hw:WkD d d'):DOps P ro n ops Q l ⟨γ,O,df⟩:=
 Ck (DH hi hw) h
theorem cfr(k:Nat){l:List Oper}{i:Nat}{m:List (D×D)}(hi:O i=some (.map m))(h:DOps P ro n ops Q l ⟨(k,.cmap (m.map (·.1)) (m.map (·.2)))::γ,O.del i,df⟩)(hk:getD γ k=.map i:=by exact An tdR):DOps P ro n ops Q l ⟨γ,O,df⟩:=
 Ck (MM hi hk) h
theorem ent{i:Nat}{x:Operand}{left:List (D×D)}{k v:D}(h:DOps P ro n ops Q rest ⟨(t,.tup [k,v])::γ,O,df⟩)(hi:O i=some (.iter left (some (k,v))):=by first|exact w6 .. |simp)
  (hl:A0 γ (A5 [x])=some Sr:=by exact tdR) (hx:ev Sr x=.obj i:=by exact tdR) (aa:decide (t<n)=true:=by exact tdR) :
  DOps P ro n ops Q (⟨some t,.entry x,ty,pos,after,none⟩::rest) ⟨γ,O,df⟩:=
 PI (by simpa using aa) (by rw[<-C2 hl];exact hx) hi h
theorem boxV{T:Nat}{x:Operand}{cs:List D}(h:∀i,O i=none->DOps P ro n ops Q rest ⟨(t,.ptr i 0)::γ,O.set i (.cells cs),df⟩)(hl:A0 γ (A5 [x])=some Sr:=by exact tdR)(hd:ev Sr x=d:=by(simp<;>with_unfolding_all rfl))(hc:d.cells=cs:=by(simp<;>with_unfolding_all rfl))(ht:d.told=true:=by exact tdR)(aa:decide (t<n)=true:=by exact tdR):
  DOps P ro n ops Q (⟨some t,.box T x,ty,pos,after,none⟩::rest) ⟨γ,O,df⟩:=by
 subst hc hd;rw[C2 hl]at ht h;exact dops_box ht (by simpa using aa) h
theorem finCE{fn:Func}{R:DE->Sig->Prop}{U':Sig}{ds:List D}(h:resL tab O γ fn.results.toList=some ds)(hR:R (.ret (NS ds)) U')(hU:Sub U' O:=by first|exact Sub.refl _|(refine Di ?_;simp;done)|assumption|exact(Sub.refl _).set (by assumption)):Dp prog n fn R .ret ⟨γ,O,[]⟩:=IJ Ad h (A8 _) hU hR
theorem finC{fn:Func}{R:DE->Sig->Prop}{U':Sig}{ds:List D}{d:D}(hR:R (.ret d) U')(h:resL tab O γ fn.results.toList=some ds:=by(simp[resL];with_unfolding_all rfl))(hw:WkD (NS ds) d:=by exact tdW)(hU:Sub U' O:=by first|exact Sub.refl _|(refine Di ?_;simp;done)|assumption|exact(Sub.refl _).set (by assumption)):Dp prog n fn R .ret ⟨γ,O,[]⟩:=IJ Ad h hw hU hR
theorem mixL{lo:List Oper}{id:Nat}(ord E:List Nat){lp:List (Bool×Oper)}{ol:Oper}(h:MO prog ro n lo.toArray 431 O (Then (fun s=>DOps prog ro n lo.toArray Q [ol] s) Q) df lp γ O)(hB:Ii lo.toArray E ord=true:=by kernel_rfl)(aq:nthO lo (lo.length-1)=some ol:=by exact tdR)(hl:I7 lo E ord=some lp:=by exact tdR):DWp prog ro n (.region id lo.toArray true) Q ⟨γ,O,df⟩:=
 Ow Ac mixed ord E O hB aq (Sub.refl _) hl h
theorem mo1{op:Op}{l:List (Bool×Oper)}(h:∀V2,(∀x∈op.operands,ev V2 x=ev γ x)->DOps P ro n ops (EQ df (some t) (fun d U'=>Sub S0 U'/\MO P ro n ops N S0 Q df l ((t,d)::γ) U') (fun d U'=> ∀V',Q (.panic d) ⟨V',U',df⟩)) [⟨some t,op,ty,pos,after,none⟩] ⟨V2,O,df⟩)(aa:decide (t<n)=true:=by exact tdR):
  MO P ro n ops N S0 Q df ((true,⟨some t,op,ty,pos,after,none⟩)::l) γ O:=
 mo_eff (o:=⟨some t,op,ty,pos,after,none⟩) aa rfl rfl (h _ fun _ hx=>Bl (o:=⟨some t,op,ty,pos,after,none⟩) hx)
theorem Hd{V2:Fr}{s x:Operand}{T T':Nat}(hl:A0 γ (A5 [s,x])=some Sr)(hx:∀y∈((cA s x T T')).operands,ev V2 y=ev γ y):ev V2 s=ev Sr s/\ev V2 x=ev Sr x:=by
 obtain⟨e1,e2⟩:=evs hl
 exact⟨by rw[hx s (by simp[Op.operands,Call.operands]),e1],by rw[hx x (by simp[Op.operands,Call.operands]),e2]⟩
theorem moAppC{s x:Operand}{T T' e e':Nat}{es new:List (List D)}{l:List (Bool×Oper)}(h:∀i,O i=none->MO prog ro n ops N S0 Q df l ((t,.slice (es++new) (.tag i))::γ) (O.set i (.tail (tab e).size (es.length+new.length))))(hl:A0 γ (A5 [s,x])=some Sr:=by exact tdR)(hk:(tab T).k=.slice e:=by(simp<;>rfl))(ah:(tab T').k=.slice e':=by(simp<;>rfl))(he:A1 (tab e).k=false:=by simp)
  (h1:ev Sr s=.slice es .clip:=by exact tdR) (h2:esOf (ev Sr x)=some new:=by(simp<;>with_unfolding_all rfl)) (hne:new≠[]:=by first|assumption|(simp;done)|(simp[cI,cS,cII];assumption))
  (hlen:∀c∈es,c.length=(tab e).size:=by first|exact Cc _|exact E3 _|exact CL _|simp) (hlen':∀c∈new,c.length=(tab e).size:=by first|exact Cc _|exact E3 _|exact CL _|simp)
  (hb:(es.length+new.length)*(tab e).bytes<=140737488355328:=by first|(simp;done)|(simp;omega)) (hm:es.length+new.length<=9223372036854775807:=by first|(simp;done)|(simp;omega)) (aa:decide (t<n)=true:=by exact tdR) (hC:Sub S0 O:=by first|exact Sub.refl _|assumption) :
  MO prog ro n ops N S0 Q df ((true,⟨some t,(cA s x T T'),ty,pos,after,none⟩)::l) γ O:=
 mo1 (fun V2 hx=>by
  obtain⟨e1,e2⟩:=Hd hl hx
  exact Cd Ad rfl (by simpa using aa) hk ah he (by rw[e1];exact h1) (by rw[e2];exact h2) hne hlen hlen' hb hm (fun i hi=>Au ⟨rfl,by simp only[A4,if_true];exact⟨hC.set (hC.none hi),h i hi⟩⟩)) aa
theorem moAppCW{s x:Operand}{T T' e e':Nat}{es new:List (List D)}{l:List (Bool×Oper)}(h:∀i,O i=none->MO prog ro n ops N S0 Q df l ((t,.slice (es++new) .no)::γ) (O.set i (.tail (tab e).size (es.length+new.length))))(hl:A0 γ (A5 [s,x])=some Sr:=by exact tdR)(hk:(tab T).k=.slice e:=by(simp<;>rfl))(ah:(tab T').k=.slice e':=by(simp<;>rfl))(he:A1 (tab e).k=false:=by simp)
  (h1:ev Sr s=.slice es .clip:=by exact tdR) (h2:esOf (ev Sr x)=some new:=by(simp<;>with_unfolding_all rfl)) (hne:new≠[]:=by first|assumption|(simp;done)|(simp[cI,cS,cII];assumption))
  (hlen:∀c∈es,c.length=(tab e).size:=by first|exact Cc _|exact E3 _|exact CL _|simp) (hlen':∀c∈new,c.length=(tab e).size:=by first|exact Cc _|exact E3 _|exact CL _|simp)
  (hb:(es.length+new.length)*(tab e).bytes<=140737488355328:=by first|(simp;done)|(simp;omega)) (hm:es.length+new.length<=9223372036854775807:=by first|(simp;done)|(simp;omega)) (aa:decide (t<n)=true:=by exact tdR) (hC:Sub S0 O:=by first|exact Sub.refl _|assumption) :
  MO prog ro n ops N S0 Q df ((true,⟨some t,(cA s x T T'),ty,pos,after,none⟩)::l) γ O:=
 mo1 (fun V2 hx=>by
  obtain⟨e1,e2⟩:=Hd hl hx
  exact Cd Ad rfl (by simpa using aa) hk ah he (by rw[e1];exact h1) (by rw[e2];exact h2) hne hlen hlen' hb hm (fun i hi=>Ck (BN (t:=t) (d:=.slice (es++new) .no) (by simp only[A4,if_true];exact BF _ _)) (Au ⟨rfl,by simp only[A4,if_true];exact⟨hC.set (hC.none hi),h i hi⟩⟩))) aa
theorem moApp0{s x:Operand}{T T' e e':Nat}{es:List (List D)}{l:List (Bool×Oper)}(h:MO prog ro n ops N S0 Q df l ((t,d)::γ) O)(hl:A0 γ (A5 [s,x])=some Sr:=by exact tdR)(hk:(tab T).k=.slice e:=by(simp<;>rfl))(ah:(tab T').k=.slice e':=by(simp<;>rfl))(he:A1 (tab e).k=false:=by simp)(hd:ev Sr s=d:=by exact tdR)
  (h1:esOf d=some es:=by exact tdR) (h2:esOf (ev Sr x)=some []:=by first|with_unfolding_all rfl|(simp_all;done)) (aa:decide (t<n)=true:=by exact tdR) (hC:Sub S0 O:=by first|exact Sub.refl _|assumption) :
  MO prog ro n ops N S0 Q df ((true,⟨some t,(cA s x T T'),ty,pos,after,none⟩)::l) γ O:=
 mo1 (fun V2 hx=>by
  obtain⟨e1,e2⟩:=Hd hl hx
  refine Ey Ad rfl (by simpa using aa) hk ah he (by rw[e1,hd];exact h1) (by rw[e2];exact h2) (Au ⟨rfl,?_⟩)
  simp only[A4,if_true,e1,hd]
  exact⟨hC,h⟩) aa
theorem Ig{T:Nat}{z:List D}{l:List (Bool×Oper)}(h:∀i,O i=none->MO prog ro n ops N S0 Q df l ((t,.ptr i 0)::γ) (O.set i (.cells z)))(hk:A1 (tab T).k=false:=by simp)(hz:(tab T).zero=z:=by(simp<;>rfl))(aa:decide (t<n)=true:=by exact tdR)(hC:Sub S0 O:=by first|exact Sub.refl _|assumption):
  MO prog ro n ops N S0 Q df ((true,⟨some t,.alloc T,ty,pos,after,none⟩)::l) γ O:=by
 subst hz
 exact mo1 (fun V2 hx=>E2 Ad hk (by simpa using aa) (fun i hi=>Au ⟨rfl,by simp only[A4,if_true];exact⟨hC.set (hC.none hi),h i hi⟩⟩)) aa
theorem moEffW{op:Op}(d':D){U':Sig}{l:List (Bool×Oper)}(h:MO prog ro n ops N S0 Q df l ((t,d')::γ) U')(hl:A0 γ (A5 op.operands.toList)=some Sr:=by exact tdR)(he:eopD tab Sr O op=some (d,U'):=by(simp(disch:=first|omega|assumption) [At,big1,big2,w7]<;>first|rfl|(and_intros<;>rfl)|(and_intros<;>first|rfl|omega)))(hw:WkD d d':=by exact tdW)(aa:decide (t<n)=true:=by exact tdR)(hC:Sub S0 U':=by first|exact Sub.refl _|assumption|exact(Sub.refl _).set (by assumption)|exact((Sub.refl _).set (by assumption)).set (by assumption)):
  MO prog ro n ops N S0 Q df ((true,⟨some t,op,ty,pos,after,none⟩)::l) γ O:=
 mo1 (fun V2 hx=>by
  refine Fk Ad rfl (by rw[Bp (V':=γ) hx];exact(Bp (Cj hl)) ▸ he) aa (Ck (BN (t:=t) (d:=d') (by simp only[putD,A4,if_true];exact hw)) (Au ⟨rfl,?_⟩))
  simp only[A4,if_true]
  exact⟨hC,h⟩) aa
theorem Vt{P:Program}{n:Nat}{γ:Fr}{O U':Sig}{df:List DDf}(hU:Sub U' O):Wk P n ⟨γ,O,df⟩ ⟨γ,U',df⟩:=
 fun g w a hs=>⟨g,.refl g,⟨hs.sim.sub hU,hs.tmps,hs.df⟩⟩
theorem drp{l:List Oper}(U':Sig)(h:DOps P ro n ops Q l ⟨γ,U',df⟩)(hU:Sub U' O:=by first|exact Sub.refl _|(refine Di ?_;simp;done)|assumption|exact(Sub.refl _).set (by assumption)):DOps P ro n ops Q l ⟨γ,O,df⟩:=Ck (Vt hU) h
theorem rtl{l:List Oper}(k:Nat)(d':D)(h:DOps P ro n ops Q l ⟨(k,d')::γ,O,df⟩)(hw:WkD (getD γ k) d':=by exact tdW):DOps P ro n ops Q l ⟨γ,O,df⟩:=Ck (BN hw) h
theorem EO{lo:List Oper}{id:Nat}(ord E:List Nat)(S0:Sig){lp:List (Bool×Oper)}{ol:Oper}(hC:Sub S0 O)(h:MO prog ro n lo.toArray 431 S0 (Then (fun s=>DOps prog ro n lo.toArray Q [ol] s) Q) df lp γ O)(hB:Ii lo.toArray E ord=true:=by kernel_rfl)(aq:nthO lo (lo.length-1)=some ol:=by exact tdR)(hl:I7 lo E ord=some lp:=by exact tdR):DWp prog ro n (.region id lo.toArray true) Q ⟨γ,O,df⟩:=
 Ow Ac mixed ord E S0 hB aq hC hl h
theorem yldW{fop:Operand}{args:Array Operand}{ats:Array TypeId}{l:Nat}{us:List D}{R:DE->Sig->Prop}{dst:Option Tmp}(h:DYield P l us O R)(ae:∀d U',R (.ret d) U'->DOps P ro n ops Q rest ⟨putD dst d γ,U',df⟩)(ag:∀d U',R (.panic d) U'->Q (.panic d) ⟨γ,U',df⟩)
  (hl:A0 γ (A5 (fop::args.toList))=some Sr:=by exact tdR) (hf:ev Sr fop=.yld l:=by exact tdR) (ha:args.toList.map (ev Sr)=us:=by exact td0)
  (ho:Ar n ⟨dst,(cv fop args ats),ty,pos,after,none⟩=true:=by exact tdR) :
  DOps P ro n ops Q (⟨dst,(cv fop args ats),ty,pos,after,none⟩::rest) ⟨γ,O,df⟩:=by
 have hx:∀x∈fop::args.toList,ev Sr x=ev γ x:=fun x hx=>B2 fun t ht=>Aq hl t (Ax (by rw[<-ht];exact hx))
 refine PE rfl (by rw[<-hx fop (by simp)];exact hf) ?_ ho ae ag
 rw[show args.toList.map (ev γ)=args.toList.map (ev Sr) from List.map_congr_left fun x h=>(hx x (by simp[h])).symm,ha]
 exact h
end
def hitD(tab:Nat->Ty)(e:Nat)(c:Bool):Option (Option (Nat×D))->Option D
 |some (some (_,d))=>some (if c then .tup [d,.bool true] else d)
 |some none=>match Hr (tab e)with
  |some z=>some (if c then .tup [z,.bool false] else z)
  |none=>none
 |none=>none
@[simp high] theorem lookupD_h {tab:Nat->Ty} {O:Sig} {c:Bool} {T e:Nat} {x d:D}:FL tab O c (.map T e) x d=if A1 (tab e).k || !Bf (tab T).k d then none else match C3 O x with
  |some l=>hitD tab e c (Ca (tab T).k d l 0)
  |none=>none:=by
 rw[QW]
 by_cases hc:(A1 (tab e).k||!Bf (tab T).k d)=true
 ·rw[if_pos hc,if_pos hc]
 ·rw[if_neg hc,if_neg hc]
  cases C3 O x with
  |none=>rfl
  | some l =>
   cases h:Ca (tab T).k d l 0 with
   |none=>simp only[h];rfl
   |some r=>cases r with
    |none=>simp only[h];rfl
    |some p=>simp only[h];rfl
@[simp] theorem hitD_some(tab:Nat->Ty)(e i:Nat)(c:Bool)(d:D):hitD tab e c (some (some (i,d)))=some (if c then .tup [d,.bool true] else d):=rfl
def ins{α:Type}[DecidableEq α](k:α)(s:List α):List α:=if k∈s then s else s++[k]
def getM{α β:Type}[DecidableEq α](z:β)(k:α):List (α×β)->β
 |[]=>z
 |(k',v)::r=>if k=k' then v else getM z k r
def hasM{α β:Type}[DecidableEq α](k:α):List (α×β)->Bool
 |[]=>false
 |(k',_)::r=>decide (k=k')||hasM k r
def putM{α β:Type}[DecidableEq α](k:α)(v:β):List (α×β)->List (α×β)
 |[]=>[(k,v)]
 |(k',v')::r=>if k=k' then(k,v)::r else(k',v')::putM k v r
theorem En{α β:Type}[DecidableEq α](z:β)(k x:α)(v:β): ∀m:List (α×β),getM z x (putM k v m)=if x=k then v else getM z x m
 |[]=>by simp[putM,getM]
 | (k',v')::r=>by
  by_cases h:k=k'
  ·subst h;rw[putM,if_pos rfl,getM];by_cases hx:x=k<;>simp[hx,getM]
  ·rw[putM,if_neg h,getM,En z k x v r]
   by_cases hx:x=k'
   ·rw[if_pos hx,if_neg (fun e=>h (e.symm.trans hx)),getM,if_pos hx]
   ·rw[if_neg hx,getM,if_neg hx]
theorem Gl{α β:Type}[DecidableEq α](k x:α)(v:β): ∀m:List (α×β),hasM x (putM k v m)=(decide (x=k)||hasM x m)
 |[]=>by simp[putM,hasM]
 | (k',v')::r=>by
  by_cases h:k=k'
  ·subst h;rw[putM,if_pos rfl,hasM,hasM];cases decide (x=k)<;>simp
  ·rw[putM,if_neg h,hasM,Gl k x v r,hasM]
   cases decide (x=k')<;>cases decide (x=k)<;>simp
section
def eM{α β:Type}(kf:α->D)(f:β->D)(m:List (α×β)):List (D×D):=m.map fun p=>(kf p.1,f p.2)
def eS{α:Type}(kf:α->D)(s:List α):List (D×D):=s.map fun k=>(kf k,.bool true)
structure KeyOK{α:Type}[DecidableEq α](kt:TyK)(kf:α->D):Prop where
 key:∀a b:α,keyB kt (kf a) (kf b)=some (decide (a=b))
theorem keyI:KeyOK (.int .i64) dI:=⟨fun a b=>by simp[keyB,Eu]⟩
theorem keyS:KeyOK .str D.str:=⟨fun a b=>by simp[keyB,Eu]⟩
variable {α β:Type}[DecidableEq α]{kt:TyK}{kf:α->D}(hk:KeyOK kt kf)
include hk
theorem Nk(k:α): ∀(s:List α) (i:Nat),(k∈s->∃j,Ca kt (kf k) (eS kf s) i=some (some (i+j,.bool true))/\s[j]? = some k)/\(k∉s->Ca kt (kf k) (eS kf s) i=some none)
 |[],i=>by simp[eS,Ca]
 | x::s,i=>by
  obtain⟨h1,h2⟩:=Nk k s (i+1)
  simp only[eS]at h1 h2
  simp only[eS,List.map_cons,Ca,hk.key]
  by_cases h:k=x
  ·subst h
   simp only[decide_true]
   exact⟨fun _=>⟨0,rfl,rfl⟩,fun h=>absurd (by simp) h⟩
  ·have e:decide (k=x)=false:=by simp[h]
   simp only[e]
   refine⟨fun hm=>?_,fun hm=>h2 fun am=>hm (by simp[am])⟩
   obtain⟨j,a,b⟩:=h1 ((List.mem_cons.1 hm).resolve_left h)
   exact⟨j+1,by rw[a];congr 3;omega,by simpa using b⟩
theorem hit_eS{tab:Nat->Ty}{e:Nat}(hz:Hr (tab e)=some (.bool false))(k:α)(s:List α):hitD tab e false (Ca kt (kf k) (eS kf s) 0)=some (.bool (decide (k∈s))):=by
 obtain⟨h1,h2⟩:=Nk hk k s 0
 by_cases h:k∈s
 ·obtain⟨j,a,_⟩:=h1 h;rw[a];simp[h]
 ·rw[h2 h];simp only[hitD,hz,Bool.false_eq_true,if_false,h,decide_false]
theorem put_eS(k:α)(s:List α):Cu kt (kf k) (.bool true) (eS kf s)=some (eS kf (ins k s)):=by
 obtain⟨h1,h2⟩:=Nk hk k s 0
 unfold Cu ins
 by_cases h:k∈s
 ·obtain⟨j,a,b⟩:=h1 h
  rw[a,if_pos h]
  simp only[Nat.zero_add,Option.some.injEq]
  apply List.ext_getElem?
  intro i
  rw[List.getElem?_set]
  by_cases hi:j=i
  ·subst hi
   have au:j<s.length:=(List.getElem?_eq_some_iff.1 b).1
   have hb:s[j]=k:=by rw[List.getElem?_eq_getElem au]at b;exact Option.some.inj b
   simp[eS,au,hb]
  ·rw[if_neg hi]
 ·rw[h2 h,if_neg h];simp[eS]
theorem IA(f:β->D)(k:α): ∀(m:List (α×β)) (i:Nat),(hasM k m=true->∃j v,Ca kt (kf k) (eM kf f m) i=some (some (i+j,f v))/\(∀z,getM z k m=v) /\ ∀w,(eM kf f m).set j (kf k,f w)=eM kf f (putM k w m)) /\
  (hasM k m=false->Ca kt (kf k) (eM kf f m) i=some none/\(∀z,getM z k m=z) /\ ∀w,eM kf f m++[(kf k,f w)]=eM kf f (putM k w m))
 |[],i=>by simp[eM,Ca,hasM,getM,putM]
 | (x,y)::m,i=>by
  obtain⟨h1,h2⟩:=IA f k m (i+1)
  simp only[eM]at h1 h2
  simp only[eM,List.map_cons,Ca,hk.key,hasM]
  by_cases h:k=x
  ·subst h
   simp only[decide_true,Bool.true_or]
   refine⟨fun _=>⟨0,y,rfl,fun z=>by simp[getM],fun w=>by simp[putM]⟩,fun h=>by cases h⟩
  ·have e:decide (k=x)=false:=by simp[h]
   simp only[e,Bool.false_or]
   refine⟨fun hm=>?_,fun hm=>?_⟩
   ·obtain⟨j,v,a,b,c⟩:=h1 hm
    refine⟨j+1,v,by rw[a];congr 3;omega,fun z=>by rw[getM,if_neg h];exact b z,fun w=>?_⟩
    rw[putM,if_neg h,List.map_cons,List.set_cons_succ,c w]
   ·obtain⟨a,b,c⟩:=h2 hm
    refine⟨a,fun z=>by rw[getM,if_neg h];exact b z,fun w=>?_⟩
    rw[putM,if_neg h,List.map_cons,List.cons_append,c w]
theorem VF{tab:Nat->Ty}{e:Nat}{z:β}{zd:D}(f:β->D)(hz:Hr (tab e)=some zd)(k:α)(m:List (α×β)):hitD tab e false (Ca kt (kf k) (eM kf f m) 0)=some (if hasM k m then f (getM z k m) else zd):=by
 obtain⟨h1,h2⟩:=IA hk f k m 0
 cases h:hasM k m with
 |true=>obtain⟨j,v,a,b,_⟩:=h1 h;rw[a,b z];simp
 |false=>obtain⟨a,b,_⟩:=h2 h;rw[a];simp only[hitD,hz,Bool.false_eq_true,if_false]
theorem Rf{tab:Nat->Ty}{e:Nat}{z:β}(f:β->D)(hz:Hr (tab e)=some (f z))(k:α)(m:List (α×β)):hitD tab e false (Ca kt (kf k) (eM kf f m) 0)=some (f (getM z k m)):=by
 obtain⟨h1,h2⟩:=IA hk f k m 0
 cases h:hasM k m with
 |true=>obtain⟨j,v,a,b,_⟩:=h1 h;rw[a,b z];simp
 |false=>obtain⟨a,b,_⟩:=h2 h;rw[a,b z];simp only[hitD,hz,Bool.false_eq_true,if_false,if_true]
theorem KP{tab:Nat->Ty}{e:Nat}{z:β}(f:β->D)(hz:Hr (tab e)=some (f z))(k:α)(m:List (α×β)):hitD tab e true (Ca kt (kf k) (eM kf f m) 0)=some (.tup [f (getM z k m),.bool (hasM k m)]):=by
 obtain⟨h1,h2⟩:=IA hk f k m 0
 cases h:hasM k m with
 |true=>obtain⟨j,v,a,b,_⟩:=h1 h;rw[a,b z];simp
 |false=>obtain⟨a,b,_⟩:=h2 h;rw[a,b z];simp only[hitD,hz,Bool.false_eq_true,if_false,if_true]
theorem Lw(f:β->D)(k:α)(v:β)(m:List (α×β)):Cu kt (kf k) (f v) (eM kf f m)=some (eM kf f (putM k v m)):=by
 obtain⟨h1,h2⟩:=IA hk f k m 0
 unfold Cu
 cases h:hasM k m with
 |true=>obtain⟨j,w,a,_,c⟩:=h1 h;rw[a];simp only[Nat.zero_add];rw[c v]
 |false=>obtain⟨a,_,c⟩:=h2 h;rw[a];simp only;rw[c v]
end
def eSI(s:List Int):List (D×D):=eS dI s
def eSN(m:List (Str×Int)):List (D×D):=eM D.str dI m
def eIN(m:List (Int×Int)):List (D×D):=eM dI dI m
@[simp] theorem hitI4(k:Int)(s:List Int):hitD tab 4 false (Ca (.int .i64) (.int .i64 k) (eSI s) 0)=some (.bool (decide (k∈s))):=hit_eS keyI rfl k s
@[simp] theorem putI4(k:Int)(s:List Int):Cu (.int .i64) (.int .i64 k) (.bool true) (eSI s)=some (eSI (ins k s)):=put_eS keyI k s
@[simp] theorem putSN(k:Str)(v:Int)(m:List (Str×Int)):Cu .str (.str k) (.int .i64 v) (eSN m)=some (eSN (putM k v m)):=Lw keyS dI k v m
@[simp] theorem hitINok(k:Int)(m:List (Int×Int)):hitD tab 3 true (Ca (.int .i64) (.int .i64 k) (eIN m) 0)=some (.tup [.int .i64 (getM 0 k m),.bool (hasM k m)]):=KP keyI dI rfl k m
@[simp] theorem putIN(k v:Int)(m:List (Int×Int)):Cu (.int .i64) (.int .i64 k) (.int .i64 v) (eIN m)=some (eIN (putM k v m)):=Lw keyI dI k v m
def eIO(m:List (Int×List Int)):List (D×D):=eM dI (fun l=>sl (cI l)) m
@[simp] theorem putIO(k:Int)(v:List Int)(m:List (Int×List Int)):Cu (.int .i64) (.int .i64 k) (sl (cI v)) (eIO m)=some (eIO (putM k v m)):=Lw keyI (fun l=>sl (cI l)) k v m
theorem Ut(k:Int)(m:List (Int×List Int)):hitD tab 23 false (Ca (.int .i64) (.int .i64 k) (eIO m) 0)=some (if hasM k m then sl (cI (getM [] k m)) else .nils):=VF keyI _ rfl k m
section
variable {P:Program}{ro:Ro}{n:Nat}{Q:DX->St->Prop}{df:List DDf}{γ:List (Nat×D)}{O:Sig}
theorem Pb{Sk:Fr}{α β δ ε:Type}{c:Code}(keep:List Nat)(I:α->β->δ->ε->Prop)(ov:α->β->δ->ε->Fr)(sg:α->β->δ->ε->Sig)(μ:α->β->δ->ε->Nat)(x0:α)(y0:β)(z0:δ)(u0:ε)(h0:I x0 y0 z0 u0)
  (round:∀x y z u,I x y z u->DWp P ro n c (Then (fun s'=> ∃x' y' z' u',I x' y' z' u'/\μ x' y' z' u'<μ x y z u/\Wk P n s' ⟨ov x' y' z' u'++Sk,sg x' y' z' u',df⟩) Q) ⟨ov x y z u++Sk,sg x y z u,df⟩) (hk:Dm γ keep=some Sk:=by exact tdR) (h1:TellsR γ (ov x0 y0 z0 u0++Sk):=by(first|refine FY ?_ ?_|skip)<;>(repeat' first|exact FW|refine Fa tdR ?_ ?_|(first|exact A8 _|exact BF _ _|exact Am _ (.inl rfl)|exact E7 _|(refine HG _ ?_;first|omega|(simp;done)|(simp;omega))|(refine CB ?_;(simp;done))|(refine CB ?_;(simp[cI,cS,cII,Fm,F7,GI];done))|(refine DN _ ?_;(simp[cI,cS,cII];done))|(refine CB ?_;(simp_all;done))|assumption))) (h2:Sub (sg x0 y0 z0 u0) O:=by first|exact Sub.refl _|(refine Di ?_;simp;done)|assumption|exact(Sub.refl _).set (by assumption)):DWp P ro n (.loop c) Q ⟨γ,O,df⟩:=by
 refine F2 (α:=α×β×δ×ε) keep (fun x=>I x.1 x.2.1 x.2.2.1 x.2.2.2) (fun x=>ov x.1 x.2.1 x.2.2.1 x.2.2.2) (fun x=>sg x.1 x.2.1 x.2.2.1 x.2.2.2) (fun x=>μ x.1 x.2.1 x.2.2.1 x.2.2.2) (x0,y0,z0,u0) hk h0 h1 h2 fun x hx=>Fj (round x.1 x.2.1 x.2.2.1 x.2.2.2 hx) ?_
 intro e s h
 cases e with
 |normal=>obtain⟨x',y',z',u',h3,h4,h5⟩:=h;exact⟨(x',y',z',u'),h3,h4,h5⟩
 |_=>exact h
theorem loop5{Sk:Fr}{α β δ ε ζ:Type}{c:Code}(keep:List Nat)(I:α->β->δ->ε->ζ->Prop)(ov:α->β->δ->ε->ζ->Fr)(sg:α->β->δ->ε->ζ->Sig)(μ:α->β->δ->ε->ζ->Nat)(x0:α)(y0:β)(z0:δ)(u0:ε)(v0:ζ)(h0:I x0 y0 z0 u0 v0)
  (round:∀x y z u v,I x y z u v->DWp P ro n c (Then (fun s'=> ∃x' y' z' u' v',I x' y' z' u' v'/\μ x' y' z' u' v'<μ x y z u v/\Wk P n s' ⟨ov x' y' z' u' v'++Sk,sg x' y' z' u' v',df⟩) Q) ⟨ov x y z u v++Sk,sg x y z u v,df⟩) (hk:Dm γ keep=some Sk:=by exact tdR) (h1:TellsR γ (ov x0 y0 z0 u0 v0++Sk):=by(first|refine FY ?_ ?_|skip)<;>(repeat' first|exact FW|refine Fa tdR ?_ ?_|(first|exact A8 _|exact BF _ _|exact Am _ (.inl rfl)|exact E7 _|(refine HG _ ?_;first|omega|(simp;done)|(simp;omega))|(refine CB ?_;(simp;done))|(refine CB ?_;(simp[cI,cS,cII,Fm,F7,GI];done))|(refine DN _ ?_;(simp[cI,cS,cII];done))|(refine CB ?_;(simp_all;done))|assumption))) (h2:Sub (sg x0 y0 z0 u0 v0) O:=by first|exact Sub.refl _|(refine Di ?_;simp;done)|assumption|exact(Sub.refl _).set (by assumption)):DWp P ro n (.loop c) Q ⟨γ,O,df⟩:=by
 refine F2 (α:=α×β×δ×ε×ζ) keep (fun x=>I x.1 x.2.1 x.2.2.1 x.2.2.2.1 x.2.2.2.2) (fun x=>ov x.1 x.2.1 x.2.2.1 x.2.2.2.1 x.2.2.2.2) (fun x=>sg x.1 x.2.1 x.2.2.1 x.2.2.2.1 x.2.2.2.2) (fun x=>μ x.1 x.2.1 x.2.2.1 x.2.2.2.1 x.2.2.2.2) (x0,y0,z0,u0,v0) hk h0 h1 h2 fun x hx=>Fj (round x.1 x.2.1 x.2.2.1 x.2.2.2.1 x.2.2.2.2 hx) ?_
 intro e s h
 cases e with
 |normal=>obtain⟨x',y',z',u',v',h3,h4,h5⟩:=h;exact⟨(x',y',z',u',v'),h3,h4,h5⟩
 |_=>exact h
variable {ops:Array Oper}{rest:List Oper}{Sr:List (Nat×D)}{t:Nat}{ty:TypeId}{pos:String}{after:Array Edge}
theorem newSI{T:Nat}(h:∀i,O i=none->DOps prog ro n ops Q rest ⟨(t,.map i)::γ,O.set i (.map (eSI [])),df⟩)(aa:decide (t<n)=true:=by exact tdR):DOps prog ro n ops Q (⟨some t,.makeMap T none,ty,pos,after,none⟩::rest) ⟨γ,O,df⟩:=newM h aa
theorem newSN{T:Nat}(h:∀i,O i=none->DOps prog ro n ops Q rest ⟨(t,.map i)::γ,O.set i (.map (eSN [])),df⟩)(aa:decide (t<n)=true:=by exact tdR):DOps prog ro n ops Q (⟨some t,.makeMap T none,ty,pos,after,none⟩::rest) ⟨γ,O,df⟩:=newM h aa
theorem newIN{T:Nat}(h:∀i,O i=none->DOps prog ro n ops Q rest ⟨(t,.map i)::γ,O.set i (.map (eIN [])),df⟩)(aa:decide (t<n)=true:=by exact tdR):DOps prog ro n ops Q (⟨some t,.makeMap T none,ty,pos,after,none⟩::rest) ⟨γ,O,df⟩:=newM h aa
theorem newIO{T:Nat}(h:∀i,O i=none->DOps prog ro n ops Q rest ⟨(t,.map i)::γ,O.set i (.map (eIO [])),df⟩)(aa:decide (t<n)=true:=by exact tdR):DOps prog ro n ops Q (⟨some t,.makeMap T none,ty,pos,after,none⟩::rest) ⟨γ,O,df⟩:=newM h aa
theorem lkO{x y:Operand}{i:Nat}{k:Int}{m:List (Int×List Int)}(h:DOps prog ro n ops Q rest ⟨(t,sl (cI (getM [] k m)))::γ,O,df⟩)(hi:O i=some (.map (eIO m)):=by first|assumption|(simp;done))
  (hl:A0 γ (A5 [x,y])=some Sr:=by exact tdR) (hx:ev Sr x=.map i:=by exact tdR) (hy:ev Sr y=dI k:=by exact tdR) (aa:decide (t<n)=true:=by exact tdR) :
  DOps prog ro n ops Q (⟨some t,.lookup 354 x y false,ty,pos,after,none⟩::rest) ⟨γ,O,df⟩:=by
 refine G0 (d:=if hasM k m then sl (cI (getM [] k m)) else .nils) Ad rfl aa hl ?_ ?_
 ·simp only[dopX_lk,hx,hy]
  simp[hi,Ut]
 ·refine Ck (BN (t:=t) (d:=sl (cI (getM [] k m))) ?_) (C4 (γ:=(t,sl (cI (getM [] k m)))::γ) (fun j=>?_) h)
  ·rw [A4,if_pos rfl]
   cases hh:hasM k m with
   |true=>exact A8 _
   | false =>
    have:getM [] k m=[]:=by
     have key:∀m:List (Int×List Int),hasM k m=false->getM [] k m=[]:=fun m=>by
      induction m with
      |nil=>intro _;rfl
      |cons p m ih=>
       intro h
       simp only[hasM,Bool.or_eq_false_iff,decide_eq_false_iff_not]at h
       rw[getM,if_neg h.1];exact ih h.2
     exact key m hh
    rw[this];exact Am _ (.inl rfl)
  ·simp only[A4];split<;>rfl
end
theorem mS_at{O:Sig}{i sz:Nat}{X:DObj}{st:MR}{es:List (List D)}(h:mOK (O.set i X) sz st es):(∀Y,mOK (O.set i Y) sz st es)/\(∀Y,mS (O.set i Y) st es i=some Y) /\ ∀Y Z,(mS (O.set i Y) st es).set i Z=mS (O.set i Z) st es:=by
 cases st with
 |none=>exact⟨fun Y=>h,fun Y=>w6 .., fun Y Z=>Sig.set_set ..⟩
 |some x=>
  obtain⟨k,cap,r⟩:=x
  obtain⟨h1,h2,h3,h4⟩:=h
  have ak:k≠i:=fun e=>by rw[e,w6]at h1;cases h1
  rw[w7 _ _ ak]at h1
  refine⟨fun Y=>⟨by rw[w7 _ _ ak];exact h1,h2,h3,h4⟩,fun Y=>?_,fun Y Z=>?_⟩
  ·simp only[mS];rw[w7 _ _ (Ne.symm ak),w6]
  ·simp only[mS];rw[Sig.set_comm _ _ _ (Ne.symm ak),Sig.set_set];exact Sig.set_comm _ _ _ ak |>.symm ▸ rfl
theorem TB(a b:List Int):cI a++cI b=cI (a++b):=by simp[cI]
section
variable {ro:Ro}{n:Nat}{Q:DX->St->Prop}{df:List DDf}{γ Sr:List (Nat×D)}{O:Sig}{ops:Array Oper}{rest:List Oper}{t:Nat}{ty:TypeId}{pos:String}{after:Array Edge}
theorem mappI{T T' e e':Nat}{s x:Operand}{l m:List Int}{st:MR}(h:∀st',mOK O 1 st' (cI (l++m))->DOps prog ro n ops Q rest ⟨(t,mD st' (l++m).length)::γ,mS O st' (cI (l++m)),df⟩)(hm:mOK O 1 st (cI l):=by assumption)
  (hl:A0 γ (A5 [s,x])=some Sr:=by exact tdR) (hk:(tab T).k=.slice e:=by(simp<;>rfl)) (ah:(tab T').k=.slice e':=by(simp<;>rfl)) (he:A1 (tab e).k=false:=by simp) (hsz:(tab e).size=1:=by simp)
  (h1:ev Sr s=mD st l.length:=by exact tdR) (h2:esOf (ev Sr x)=some (cI m):=by(simp<;>with_unfolding_all rfl))
  (hb:(l.length+m.length)*(tab e).bytes<=140737488355328:=by first|(simp;done)|(simp;omega)) (hm2:l.length+m.length<=9223372036854775807:=by omega) (aa:decide (t<n)=true:=by exact tdR) :
  DOps prog ro n ops Q (⟨some t,(cA s x T T'),ty,pos,after,none⟩::rest) ⟨γ,mS O st (cI l),df⟩:=by
 refine mapp (fun st' am=>?_) hm hl hk ah he hsz (by rw[h1,MC]) h2 (Cc _) (by simp[cI,BB,D.flat]) (by simpa using hb) ?_ aa
 ·rw[TB]at am⊢
  rw[MC,MC,<-List.length_append]
  exact h st' am
 ·simpa using hm2
end
structure ShlOf(k:IntKind)(a b:Int) where
 val:Int
 is:val=k.wrap (a*2 ^ (min b.toNat k.bits))
def shlI(k:IntKind)(a b:Int):ShlOf k a b:=⟨_,rfl⟩
theorem OJ(k k':IntKind)(a b:Int)(h:0<=b):binD .shl (.int k a) (.int k' b)=some (.int k (shlI k a b).val):=by
 rw[(shlI k a b).is];simp only[binD,h,if_true]
end Go.DL
