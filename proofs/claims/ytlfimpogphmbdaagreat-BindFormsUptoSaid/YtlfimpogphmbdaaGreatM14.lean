/- Part of the proof that the last text ends. -/
import Derived.Test.YtlfimpogphmbdaaGreatM13
import Derived.Test.YtlfimpogphmbdaaGreatM08
set_option linter.all false
namespace Go.DL
open Go.Proofs.Tryz
open Go Go.Proofs
theorem L5:EqTy prog 63:=⟨by kernel_rfl,by kernel_rfl,by kernel_rfl⟩
theorem HT:EqTy prog 150:=⟨by kernel_rfl,by kernel_rfl,by kernel_rfl⟩
structure Hold(F:Prop):Prop where
 get:F
theorem Dx{a b:Int}(h:a<=b):decide (a<=b)=true:=by simp[h]
theorem Cu{a b:Int}(h:b<a):decide (a<=b)=false:=by simp;omega
theorem Dw{a b:Int}(h:a<b):decide (a<b)=true:=by simp[h]
theorem Ct{a b:Int}(h:b<=a):decide (a<b)=false:=by simp;omega
theorem FG{p:Prop}[Decidable p]{α:Type}{a b:α}(h:p):(if p then a else b)=a:=if_pos h
theorem Dy{a b:Int}(h:a=b):decide (a=b)=true:=by simp[h]
theorem Dv{a b:Int}(h:¬a=b):decide (a=b)=false:=by simp[h]
theorem Cq{a b:Nat}(h:a<=b):decide (a<=b)=true:=by simp[h]
theorem BO{a b:Nat}(h:b<a):decide (a<=b)=false:=by simp;omega
theorem Cp{a b:Nat}(h:a<b):decide (a<b)=true:=by simp[h]
theorem BN{a b:Nat}(h:b<=a):decide (a<b)=false:=by simp;omega
theorem Cr{a b:Nat}(h:a=b):decide (a=b)=true:=by simp[h]
theorem Co{a b:Nat}(h:¬a=b):decide (a=b)=false:=by simp[h]
theorem A7(a b:Bool):(DE.ret (.bool a)=DE.ret (.bool b))=(a=b):=by simp
structure VarsAre(vars:List Nat):Prop
theorem IP{P:Program}{ro:Option Nat}{n:Nat}{ops:Array Oper}{Q:DX->St->Prop}{df:List DDf}{rest:List Oper}{O Sr:Fr}{V:Sig}{t:Nat}{ty:TypeId}{pos:String}{after:Array Edge}{d:D}{vars:List Nat}(_:VarsAre vars){tab:Nat->Ty}(ht:Ba P tab){T T' ty':Nat}{x:Operand}{pos':String}{after':Array Edge}{cs:List D}(hv:vars.contains t=false)(hT:T'=T)(htn:decide (t<n)=true)(hx:Fc t x=true)(ho:A6 (tab T).k=false)
  (hl:A5 O (A9 [x])=some Sr) (he:ev Sr x=d) (htold:d.told=true) (hc:d.cells=cs) (hlen:cs.length=(tab T).size) (hflat:D1 cs=true)
  (h:DOps P ro n ops Q rest ⟨(t,.cptr cs 0)::O,V,df⟩) :
  DOps P ro n ops Q (⟨some t,.alloc T,ty,pos,after,none⟩::⟨none,.store T' (.tmp t) x,ty',pos',after',none⟩::rest) ⟨O,V,df⟩ :=
 Vl ht vars hv hT htn hx ho hl he htold hc hlen hflat h
theorem HF{P:Program}{ro:Option Nat}{n:Nat}{ops:Array Oper}{Q:DX->St->Prop}{df:List DDf}{rest:List Oper}{O Sr Sr2:Fr}{V:Sig}{t t2:Nat}{d d2:D}{vars:List Nat}(_:VarsAre vars){tab:Nat->Ty}(ht:Ba P tab){T T' ty ty' ty2:Nat}{x y:Operand}{pos pos' pos2:String}{after after' after2:Array Edge}{cs:List D}(hv:vars.contains t=false)(hT:T'=T)(htn:decide (t<n)=true)(htn2:decide (t2<n)=true)(hx:Fc t x=true)(hy:Fc t y=true)(hxy:Fc t2 x=true)(h12:decide (t2=t)=false)(ho:A6 (tab T).k=false)
  (hl2:A5 O (A9 [y])=some Sr2) (he2:ev Sr2 y=d2) (hl:A5 O (A9 [x])=some Sr) (he:ev Sr x=d) (htold:d.told=true) (hc:d.cells=cs) (hlen:cs.length=(tab T).size) (hflat:D1 cs=true)
  (h:DOps P ro n ops Q rest ⟨(t,.cptr cs 0)::(t2,d2)::O,V,df⟩) :
  DOps P ro n ops Q (⟨some t,.alloc T,ty,pos,after,none⟩::⟨some t2,.assign y,ty2,pos2,after2,none⟩::⟨none,.store T' (.tmp t) x,ty',pos',after',none⟩::rest) ⟨O,V,df⟩ :=
 RG ht vars hv hT htn htn2 hx hy hxy h12 ho hl2 he2 hl he htold hc hlen hflat h
theorem td0{p:Prop}(h:p:=by simp(disch:=first|omega|assumption) [Ao,big1,big2,w8]<;>(try simp only[Bn,Bo,AX,Bm,AC,B0,AZ,AY,AW,AB,AV,AU,AT])<;>with_unfolding_all rfl):p:=h
theorem tdW{p:Prop}(h:p:=by first|exact A8 _|exact AE _ _|exact Al _ (.inl rfl)|exact Em _|(refine IB _ ?_;first|omega|(simp;done)|(simp;omega))|(refine AS ?_;(simp;done))|(refine AS ?_;(simp[cI,cS,cII,DR,Cv,Cz];done))|(refine Cj _ ?_;(simp[cI,cS,cII];done))|(refine AS ?_;(simp_all;done))|assumption):p:=h
theorem tdT{p:Prop}(h:p:=by(first|refine GY ?_ ?_|skip)<;>(repeat' first|exact GX|refine FU tdR ?_ ?_|(first|exact A8 _|exact AE _ _|exact Al _ (.inl rfl)|exact Em _|(refine IB _ ?_;first|omega|(simp;done)|(simp;omega))|(refine AS ?_;(simp;done))|(refine AS ?_;(simp[cI,cS,cII,DR,Cv,Cz];done))|(refine Cj _ ?_;(simp[cI,cS,cII];done))|(refine AS ?_;(simp_all;done))|assumption))):p:=h
theorem tdU{p:Prop}(h:p:=by first|exact Sub.refl _|(refine B3 ?_;simp;done)|assumption|exact(Sub.refl _).set (by assumption)):p:=h
section
variable {P:Program}{ro:Option Nat}{n:Nat}{ops:Array Oper}{N:Nat}{S0:Sig}{Q:DX->St->Prop}{df:List DDf}{rest:List Oper}{O Sr:List (Nat×D)}{V:Sig}{t:Nat}{ty:TypeId}{pos:String}{after:Array Edge}{l:List (Bool×Oper)}{d:D}
theorem Ax{fop:Operand}{args:Array Operand}{ats:Array TypeId}{f:Nat}{first cap us bs:List D}(h:DCall P f bs V (rS d V))(k1:DOps P ro n ops Q rest ⟨(t,d)::O,V,df⟩)(hl:A5 O (A9 (fop::args.toList))=some Sr:=by exact tdR)(hf:ev Sr fop=.func (.func f) first cap:=by exact tdR)(ha:first++args.toList.map (ev Sr)++cap=us:=by exact td0)(hp:bs=us:=by exact tdR)(htn:decide (t<n)=true:=by exact tdR):DOps P ro n ops Q (⟨some t,(cv fop args ats),ty,pos,after,none⟩::rest) ⟨O,V,df⟩:=FW hl hf ha (.inl hp) h htn k1
theorem Fj{fop:Operand}{args:Array Operand}{ats:Array TypeId}{f:Nat}{first cap us bs:List D}{j:Nat}{want:Bool}{k:Nat}(h:DCall P f bs V (rS d V))(k1:DOps P ro n ops Q rest ⟨(t,d)::O,V,df⟩)(hk:(ops[j]?).bind (·.dst)=some k:=by exact tdR)(hb:O.lookup k=some (.bool want):=by exact tdR)(hl:A5 O (A9 (fop::args.toList))=some Sr:=by exact tdR)(hf:ev Sr fop=.func (.func f) first cap:=by exact tdR)(ha:first++args.toList.map (ev Sr)++cap=us:=by exact td0)(hp:bs=us:=by exact tdR)(htn:decide (t<n)=true:=by exact tdR):DOps P ro n ops Q (⟨some t,(cv fop args ats),ty,pos,after,some (j,want)⟩::rest) ⟨O,V,df⟩:=ER hk hb hl hf ha (.inl hp) h htn k1
theorem moR{fop:Operand}{args:Array Operand}{ats:Array TypeId}{f:Nat}{first cap us bs:List D}(h:DCall P f bs V (rS d V))(k1:MO P ro n ops N S0 Q df l ((t,d)::O) V)(hl:A5 O (A9 (fop::args.toList))=some Sr:=by exact tdR)(hf:ev Sr fop=.func (.func f) first cap:=by exact tdR)(ha:first++args.toList.map (ev Sr)++cap=us:=by exact td0)(hp:bs=us:=by exact tdR)(htn:decide (t<n)=true:=by exact tdR)(hC:Sub S0 V:=by first|exact Sub.refl _|assumption):MO P ro n ops N S0 Q df ((true,⟨some t,(cv fop args ats),ty,pos,after,none⟩)::l) O V:=Ip hl hf ha (.inl hp) h htn hC k1
theorem moRG{fop:Operand}{args:Array Operand}{ats:Array TypeId}{f:Nat}{first cap us bs:List D}{j:Nat}{want:Bool}{k:Nat}(h:DCall P f bs V (rS d V))(k1:MO P ro n ops N S0 Q df l ((t,d)::O) V)(hk:(ops[j]?).bind (·.dst)=some k:=by exact tdR)(hb:O.lookup k=some (.bool want):=by exact tdR)(hl:A5 O (A9 (fop::args.toList))=some Sr:=by exact tdR)(hf:ev Sr fop=.func (.func f) first cap:=by exact tdR)(ha:first++args.toList.map (ev Sr)++cap=us:=by exact td0)(hp:bs=us:=by exact tdR)(htn:decide (t<n)=true:=by exact tdR)(hC:Sub S0 V:=by first|exact Sub.refl _|assumption):MO P ro n ops N S0 Q df ((true,⟨some t,(cv fop args ats),ty,pos,after,some (j,want)⟩)::l) O V:=Hd hk hb hl hf ha (.inl hp) h htn hC k1
theorem callP{fop:Operand}{args:Array Operand}{ats:Array TypeId}{f:Nat}{first cap us bs:List D}(h:DCall P f bs V (rS d V))(k1:DOps P ro n ops Q rest ⟨(t,d)::O,V,df⟩)(hl:A5 O (A9 (fop::args.toList))=some Sr:=by exact tdR)(hf:ev Sr fop=.func (.func f) first cap:=by exact tdR)(ha:first++args.toList.map (ev Sr)++cap=us:=by exact td0)(hp:bs=us.map D.plain:=by exact tdR)(htn:decide (t<n)=true:=by exact tdR):DOps P ro n ops Q (⟨some t,(cv fop args ats),ty,pos,after,none⟩::rest) ⟨O,V,df⟩:=FW hl hf ha (.inr hp) h htn k1
theorem Fk{fop:Operand}{args:Array Operand}{ats:Array TypeId}{f:Nat}{first cap us bs:List D}{j:Nat}{want:Bool}{k:Nat}(h:DCall P f bs V (rS d V))(k1:DOps P ro n ops Q rest ⟨(t,d)::O,V,df⟩)(hk:(ops[j]?).bind (·.dst)=some k:=by exact tdR)(hb:O.lookup k=some (.bool want):=by exact tdR)(hl:A5 O (A9 (fop::args.toList))=some Sr:=by exact tdR)(hf:ev Sr fop=.func (.func f) first cap:=by exact tdR)(ha:first++args.toList.map (ev Sr)++cap=us:=by exact td0)(hp:bs=us.map D.plain:=by exact tdR)(htn:decide (t<n)=true:=by exact tdR):DOps P ro n ops Q (⟨some t,(cv fop args ats),ty,pos,after,some (j,want)⟩::rest) ⟨O,V,df⟩:=ER hk hb hl hf ha (.inr hp) h htn k1
theorem moP{fop:Operand}{args:Array Operand}{ats:Array TypeId}{f:Nat}{first cap us bs:List D}(h:DCall P f bs V (rS d V))(k1:MO P ro n ops N S0 Q df l ((t,d)::O) V)(hl:A5 O (A9 (fop::args.toList))=some Sr:=by exact tdR)(hf:ev Sr fop=.func (.func f) first cap:=by exact tdR)(ha:first++args.toList.map (ev Sr)++cap=us:=by exact td0)(hp:bs=us.map D.plain:=by exact tdR)(htn:decide (t<n)=true:=by exact tdR)(hC:Sub S0 V:=by first|exact Sub.refl _|assumption):MO P ro n ops N S0 Q df ((true,⟨some t,(cv fop args ats),ty,pos,after,none⟩)::l) O V:=Ip hl hf ha (.inr hp) h htn hC k1
theorem moPG{fop:Operand}{args:Array Operand}{ats:Array TypeId}{f:Nat}{first cap us bs:List D}{j:Nat}{want:Bool}{k:Nat}(h:DCall P f bs V (rS d V))(k1:MO P ro n ops N S0 Q df l ((t,d)::O) V)(hk:(ops[j]?).bind (·.dst)=some k:=by exact tdR)(hb:O.lookup k=some (.bool want):=by exact tdR)(hl:A5 O (A9 (fop::args.toList))=some Sr:=by exact tdR)(hf:ev Sr fop=.func (.func f) first cap:=by exact tdR)(ha:first++args.toList.map (ev Sr)++cap=us:=by exact td0)(hp:bs=us.map D.plain:=by exact tdR)(htn:decide (t<n)=true:=by exact tdR)(hC:Sub S0 V:=by first|exact Sub.refl _|assumption):MO P ro n ops N S0 Q df ((true,⟨some t,(cv fop args ats),ty,pos,after,some (j,want)⟩)::l) O V:=Hd hk hb hl hf ha (.inr hp) h htn hC k1
theorem Ab{fop:Operand}{args:Array Operand}{ats:Array TypeId}{f:Nat}{first cap us bs:List D}{R:DE->Sig->Prop}{dst:Option Tmp}(h:DCall P f bs V R)(hret:∀d S',R (.ret d) S'->DOps P ro n ops Q rest ⟨putD dst d O,S',df⟩)(hpan:∀d S',R (.panic d) S'->Q (.panic d) ⟨O,S',df⟩)(hl:A5 O (A9 (fop::args.toList))=some Sr:=by exact tdR)(hf:ev Sr fop=.func (.func f) first cap:=by exact tdR)(ha:first++args.toList.map (ev Sr)++cap=us:=by exact td0)(hp:bs=us:=by exact tdR)
  (ho:At n ⟨dst,(cv fop args ats),ty,pos,after,none⟩=true:=by exact tdR):DOps P ro n ops Q (⟨dst,(cv fop args ats),ty,pos,after,none⟩::rest) ⟨O,V,df⟩:=Fs hl hf ha (.inl hp) h ho hret hpan
theorem callWP{fop:Operand}{args:Array Operand}{ats:Array TypeId}{f:Nat}{first cap us bs:List D}{R:DE->Sig->Prop}{dst:Option Tmp}(h:DCall P f bs V R)(hret:∀d S',R (.ret d) S'->DOps P ro n ops Q rest ⟨putD dst d O,S',df⟩)(hpan:∀d S',R (.panic d) S'->Q (.panic d) ⟨O,S',df⟩)(hl:A5 O (A9 (fop::args.toList))=some Sr:=by exact tdR)(hf:ev Sr fop=.func (.func f) first cap:=by exact tdR)(ha:first++args.toList.map (ev Sr)++cap=us:=by exact td0)(hp:bs=us.map D.plain:=by exact tdR)
  (ho:At n ⟨dst,(cv fop args ats),ty,pos,after,none⟩=true:=by exact tdR):DOps P ro n ops Q (⟨dst,(cv fop args ats),ty,pos,after,none⟩::rest) ⟨O,V,df⟩:=Fs hl hf ha (.inr hp) h ho hret hpan
theorem cndB{c:Nat}{x y:Code}{b:Bool}(ht:b=true->DWp P ro n x Q ⟨(c,.bool true)::O,V,df⟩)(hf:b=false->DWp P ro n y Q ⟨(c,.bool false)::O,V,df⟩)(hl:O.lookup c=some (.bool b):=by exact tdR):DWp P ro n (.cond (.tmp c) x y) Q ⟨O,V,df⟩:=by
 refine Q0 (s:=⟨O,V,df⟩) (t:=b) (An hl) (fun h =>?_) (fun h =>?_)
 ·exact dwp_wk (BT (by rw[An hl,h];exact A8 _)) (ht h)
 ·exact dwp_wk (BT (by rw[An hl,h];exact A8 _)) (hf h)
theorem mix{lo:List Oper}{id:Nat}(ord E:List Nat){lp:List (Bool×Oper)}(h:MO prog ro n lo.toArray 334 V Q df lp O V)(hB:Fe lo.toArray E ord=true:=by kernel_rfl)(hl:GB lo E ord=some lp:=by exact tdR):DWp prog ro n (.region id lo.toArray true) Q ⟨O,V,df⟩ :=
 PX Ak mixed ord E V hB (Sub.refl _) hl h
theorem MP{lo:List Oper}{id:Nat}(ord E:List Nat)(S0:Sig)(hC:Sub S0 V){lp:List (Bool×Oper)}(h:MO prog ro n lo.toArray 334 S0 Q df lp O V)(hB:Fe lo.toArray E ord=true:=by kernel_rfl)(hl:GB lo E ord=some lp:=by exact tdR):DWp prog ro n (.region id lo.toArray true) Q ⟨O,V,df⟩ :=
 PX Ak mixed ord E S0 hB hC hl h
theorem wkR{U':Fr}{S':Sig}(h:TellsR O U':=by exact tdT)(hZ:Sub S' V:=by exact tdU):Wk P n ⟨O,V,df⟩ ⟨U',S',df⟩:=Lq h hZ
theorem B2{Sk:Fr}{α:Type}{c:Code}(keep:List Nat)(I:α->Prop)(ov:α->Fr)(sg:α->Sig)(μ:α->Nat)(x0:α)(h0:I x0)
  (round:∀x,I x->DWp P ro n c (Then (fun s' => ∃x',I x'/\μ x'<μ x/\Wk P n s' ⟨ov x'++Sk,sg x',df⟩) Q) ⟨ov x++Sk,sg x,df⟩) (hk:E6 O keep=some Sk:=by exact tdR) (h1:TellsR O (ov x0++Sk):=by exact tdT) (h2:Sub (sg x0) V:=by exact tdU):DWp P ro n (.loop c) Q ⟨O,V,df⟩:=FP keep I ov sg μ x0 hk h0 h1 h2 round
theorem AA{Sk:Fr}{α β:Type}{c:Code}(keep:List Nat)(I:α->β->Prop)(ov:α->β->Fr)(sg:α->β->Sig)(μ:α->β->Nat)(x0:α)(y0:β)(h0:I x0 y0)
  (round:∀x y,I x y->DWp P ro n c (Then (fun s' => ∃x' y',I x' y'/\μ x' y'<μ x y/\Wk P n s' ⟨ov x' y'++Sk,sg x' y',df⟩) Q) ⟨ov x y++Sk,sg x y,df⟩) (hk:E6 O keep=some Sk:=by exact tdR) (h1:TellsR O (ov x0 y0++Sk):=by exact tdT) (h2:Sub (sg x0 y0) V:=by exact tdU):DWp P ro n (.loop c) Q ⟨O,V,df⟩:=Rg keep I ov sg μ x0 y0 hk h0 h1 h2 round
theorem D6{Sk:Fr}{α β δ:Type}{c:Code}(keep:List Nat)(I:α->β->δ->Prop)(ov:α->β->δ->Fr)(sg:α->β->δ->Sig)(μ:α->β->δ->Nat)(x0:α)(y0:β)(z0:δ)(h0:I x0 y0 z0)
  (round:∀x y z,I x y z->DWp P ro n c (Then (fun s' => ∃x' y' z',I x' y' z'/\μ x' y' z'<μ x y z/\Wk P n s' ⟨ov x' y' z'++Sk,sg x' y' z',df⟩) Q) ⟨ov x y z++Sk,sg x y z,df⟩) (hk:E6 O keep=some Sk:=by exact tdR) (h1:TellsR O (ov x0 y0 z0++Sk):=by exact tdT) (h2:Sub (sg x0 y0 z0) V:=by exact tdU):DWp P ro n (.loop c) Q ⟨O,V,df⟩:=Rf keep I ov sg μ x0 y0 z0 hk h0 h1 h2 round
theorem fin{fn:Func}{R:DE->Sig->Prop}{S':Sig}{d:D}(hR:R (.ret d) S')(hZ:Sub S' V:=by exact tdU)(h:resD fn O=some d:=by exact tdR):EM P n fn R .ret ⟨O,V,[]⟩:=PW hZ h hR
theorem finS{fn:Func}{R:DE->Sig->Prop}{S':Sig}{es:List (List D)}{o:Own}{t:Nat}(hR:R (.ret (.slice es .no)) S')(hZ:Sub S' V:=by exact tdU)(hr:fn.results=#[.tmp t]:=by exact tdR)(h:getD O t=.slice es o:=by exact An tdR):EM P n fn R .ret ⟨O,V,[]⟩:=UL hZ hr h hR
theorem fin1{fn:Func}{R:DE->Sig->Prop}{S':Sig}{t:Nat}{d d':D}(hR:R (.ret d') S')(hZ:Sub S' V:=by exact tdU)(hr:fn.results=#[.tmp t]:=by exact tdR)(hl:O.lookup t=some d:=by exact tdR)(hw:WkD d d':=by exact tdW):EM P n fn R .ret ⟨O,V,[]⟩ :=
 ⟨⟨[(t,d')],S',[]⟩,Ve (show Tells O [(t,d')] from⟨by rw[An hl];exact hw,trivial⟩) hZ,rfl,d',Ed (by simp[resD,hr]),EO hR⟩
theorem fin2{fn:Func}{R:DE->Sig->Prop}{S':Sig}{t u:Nat}{d d' e e':D}(hR:R (.ret (.tup [d',e'])) S')(hZ:Sub S' V:=by exact tdU)(hr:fn.results=#[.tmp t,.tmp u]:=by exact tdR)(hl:O.lookup t=some d:=by exact tdR)(hl2:O.lookup u=some e:=by exact tdR)(htu:decide (u=t)=false:=by exact tdR)(hw:WkD d d':=by exact tdW)(hw2:WkD e e':=by exact tdW):EM P n fn R .ret ⟨O,V,[]⟩ :=
 ⟨⟨[(t,d'),(u,e')],S',[]⟩,Ve (show Tells O [(t,d'),(u,e')] from ⟨by rw [An hl];exact hw,by rw [An hl2];exact hw2,trivial⟩) hZ,rfl, .tup [d',e'],Ed (by
  have:u≠t:=by simpa using htu
  simp[resD,hr,this]),EO hR⟩
theorem fin0{fn:Func}{R:DE->Sig->Prop}{S':Sig}(hR:R (.ret (.tup [])) S')(hZ:Sub S' V:=by exact tdU)(hr:fn.results=#[]:=by exact tdR):EM P n fn R .ret ⟨O,V,[]⟩:=PW hZ (by simp[resD,hr]) hR
theorem Eb{fn:Func}{R:DE->Sig->Prop}{S':Sig}(hR:R (.ret (.tup [])) S')(hZ:Sub S' V:=by exact tdU)(hr:fn.results=#[]:=by exact tdR):EM P n fn R .normal ⟨O,V,[]⟩:=OI hZ (by simp[resD,hr]) hR
theorem finP{fn:Func}{R:DE->Sig->Prop}{S':Sig}{d:D}(hR:R (.panic d) S')(hZ:Sub S' V:=by exact tdU):EM P n fn R (.panic d) ⟨O,V,[]⟩:=UM hZ hR
theorem Bz{c:Code}(t sz:Nat)(h:∀i,V i=none->DWp P ro n c Q ⟨(t,.slice [] (.tag i))::O,V.set i (.tail sz 0),df⟩)(ht:getD O t=.nils:=by exact An tdR):DWp P ro n c Q ⟨O,V,df⟩:=dwp_tag t sz ht h
end
section
variable {ro:Option Nat}{n:Nat}{ops:Array Oper}{N:Nat}{S0:Sig}{Q:DX->St->Prop}{df:List DDf}{rest:List Oper}{O Sr:List (Nat×D)}{V:Sig}{t:Nat}{ty:TypeId}{pos:String}{after:Array Edge}{d:D}{s x:Operand}{T T' e e':Nat}
theorem evs{s x:Operand}(hl:A5 O (A9 [s,x])=some Sr):ev Sr s=ev O s/\ev Sr x=ev O x :=
 have h:∀z∈[s,x],ev Sr z=ev O z:=fun z hz=>C4 fun t ht=>AQ hl t (Bc (by rw[<-ht];exact hz))
 ⟨h s (by simp),h x (by simp)⟩
theorem appN{new:List (List D)}(h:∀i,V i=none->DOps prog ro n ops Q rest ⟨(t,.slice new (.tag i))::O,V.set i (.tail (tab e).size new.length),df⟩)
  (hl:A5 O (A9 [s,x])=some Sr:=by exact tdR) (hk:(tab T).k=.slice e:=by(simp<;>rfl)) (hk':(tab T').k=.slice e':=by(simp<;>rfl)) (he:A6 (tab e).k=false:=by simp)
  (h1:ev Sr s=.nils:=by exact tdR) (h2:esOf (ev Sr x)=some new:=by(simp<;>with_unfolding_all rfl)) (hlen:∀c∈new,c.length=(tab e).size:=by first|exact BQ _|exact Db _|exact BJ _|simp)
  (hb:new.length*(tab e).bytes<=140737488355328:=by first|(simp;done)|(simp;omega)) (hm:new.length<=9223372036854775807:=by first|(simp;done)|(simp;omega)) (htn:decide (t<n)=true:=by exact tdR) :
  DOps prog ro n ops Q (⟨some t,(cA s x T T'),ty,pos,after,none⟩::rest) ⟨O,V,df⟩:=by
 obtain⟨e1,e2⟩:=evs hl
 exact D3 Ad rfl (by simpa using htn) hk hk' he (by rw[<-e1];exact h1) (by rw[<-e2];exact h2) hlen hb hm h
theorem appK{new:List (List D)}(h:DOps prog ro n ops Q rest ⟨(t,.slice new .no)::O,V,df⟩)
  (hl:A5 O (A9 [s,x])=some Sr:=by exact tdR) (hk:(tab T).k=.slice e:=by(simp<;>rfl)) (hk':(tab T').k=.slice e':=by(simp<;>rfl)) (he:A6 (tab e).k=false:=by simp)
  (h1:ev Sr s=.nils:=by exact tdR) (h2:esOf (ev Sr x)=some new:=by(simp<;>with_unfolding_all rfl)) (hlen:∀c∈new,c.length=(tab e).size:=by first|exact BQ _|exact Db _|exact BJ _|simp)
  (hb:new.length*(tab e).bytes<=140737488355328:=by first|(simp;done)|(simp;omega)) (hm:new.length<=9223372036854775807:=by first|(simp;done)|(simp;omega)) (htn:decide (t<n)=true:=by exact tdR) :
  DOps prog ro n ops Q (⟨some t,(cA s x T T'),ty,pos,after,none⟩::rest) ⟨O,V,df⟩:=by
 obtain⟨e1,e2⟩:=evs hl
 exact Rn Ad rfl (by simpa using htn) hk hk' he (by rw[<-e1];exact h1) (by rw[<-e2];exact h2) hlen hb hm h
theorem appC{es new:List (List D)}(h:∀i,V i=none->DOps prog ro n ops Q rest ⟨(t,.slice (es++new) (.tag i))::O,V.set i (.tail (tab e).size (es.length+new.length)),df⟩)
  (hl:A5 O (A9 [s,x])=some Sr:=by exact tdR) (hk:(tab T).k=.slice e:=by(simp<;>rfl)) (hk':(tab T').k=.slice e':=by(simp<;>rfl)) (he:A6 (tab e).k=false:=by simp)
  (h1:ev Sr s=.slice es .clip:=by exact tdR) (h2:esOf (ev Sr x)=some new:=by(simp<;>with_unfolding_all rfl)) (hne:new≠[]:=by simp)
  (hlen:∀c∈es,c.length=(tab e).size:=by first|exact BQ _|exact Db _|exact BJ _|simp) (hlen':∀c∈new,c.length=(tab e).size:=by first|exact BQ _|exact Db _|exact BJ _|simp)
  (hb:(es.length+new.length)*(tab e).bytes<=140737488355328:=by first|(simp;done)|(simp;omega)) (hm:es.length+new.length<=9223372036854775807:=by first|(simp;done)|(simp;omega)) (htn:decide (t<n)=true:=by exact tdR) :
  DOps prog ro n ops Q (⟨some t,(cA s x T T'),ty,pos,after,none⟩::rest) ⟨O,V,df⟩:=by
 obtain⟨e1,e2⟩:=evs hl
 exact C7 Ad rfl (by simpa using htn) hk hk' he (by rw[<-e1];exact h1) (by rw[<-e2];exact h2) hne hlen hlen' hb hm h
theorem app0{es:List (List D)}(h:DOps prog ro n ops Q rest ⟨(t,d)::O,V,df⟩)
  (hl:A5 O (A9 [s,x])=some Sr:=by exact tdR) (hd:ev Sr s=d:=by exact tdR) (hk:(tab T).k=.slice e:=by(simp<;>rfl)) (hk':(tab T').k=.slice e':=by(simp<;>rfl)) (he:A6 (tab e).k=false:=by simp)
  (h1:esOf d=some es:=by exact tdR) (h2:esOf (ev Sr x)=some []:=by first|with_unfolding_all rfl|(simp_all;done)) (htn:decide (t<n)=true:=by exact tdR) :
  DOps prog ro n ops Q (⟨some t,(cA s x T T'),ty,pos,after,none⟩::rest) ⟨O,V,df⟩:=by
 obtain⟨e1,e2⟩:=evs hl
 have:=DD (ops:=ops) (Q:=Q) (rest:=rest) (df:=df) (V:=V) (O:=O) (ty:=ty) (pos:=pos) (after:=after) (guard:=none) (es:=es) (ro:=ro) (n:=n) Ad (T:=T) (T':=T') (s:=s) (x:=x) rfl (by simpa using htn) hk hk' he (by rw[<-e1,hd];exact h1) (by rw[<-e2];exact h2) (by rw[<-e1,hd];exact h)
 exact this
theorem newM{T:Nat}(h:∀i,V i=none->DOps prog ro n ops Q rest ⟨(t,.map i)::O,V.set i (.map []),df⟩)(htn:decide (t<n)=true:=by exact tdR):
  DOps prog ro n ops Q (⟨some t,.makeMap T none,ty,pos,after,none⟩::rest) ⟨O,V,df⟩ :=
 NS Ad rfl (.inl rfl) (by simpa using htn) h
theorem newV{T:Nat}{z:List D}(h:∀i,V i=none->DOps prog ro n ops Q rest ⟨(t,.ptr i 0)::O,V.set i (.cells z),df⟩)(hk:A6 (tab T).k=false:=by simp)(hz:(tab T).zero=z:=by(simp<;>rfl))(htn:decide (t<n)=true:=by exact tdR):
  DOps prog ro n ops Q (⟨some t,.alloc T,ty,pos,after,none⟩::rest) ⟨O,V,df⟩:=by
 subst hz;exact DV Ad hk (by simpa using htn) h
theorem pan{T:Nat}{dst:Option Tmp}(h:Q (.panic (.iface T d)) ⟨O,V,df⟩)(hl:A5 O (A9 [x])=some Sr:=by exact tdR)(hx:ev Sr x=.iface T d:=by exact tdR):
  DOps prog ro n ops Q (⟨dst,.panic x,ty,pos,after,none⟩::rest) ⟨O,V,df⟩:=Ri rfl (by rw[<-C2 hl];exact hx) h
theorem isN{es:List (List D)}{o:Own}(h:∀b,(b=true->es=[])->DOps prog ro n ops Q rest ⟨(t,.bool b)::O,V,df⟩)(hl:A5 O (A9 [x])=some Sr:=by exact tdR)(hx:ev Sr x=.slice es o:=by exact tdR)(hk:(tab T).k=.slice e:=by(simp<;>rfl))(htn:decide (t<n)=true:=by exact tdR):
  DOps prog ro n ops Q (⟨some t,.binOp .eql T x (.const (.slice none 0 0)) T',ty,pos,after,none⟩::rest) ⟨O,V,df⟩ :=
 Rk Ad hk rfl (by rw[<-C2 hl];exact hx) (by simpa using htn) h
end
end Go.DL
