/- A part of the proof. -/
import Derived.Test.YteldimffglchkaaGreatDoorH07
import Derived.Test.YteldimffglchkaaGreatDoorH11
import Derived.Shelf.Slices.In.SortAlone
import Derived.Shelf.Slices.In.SortNone
set_option linter.all false
namespace Go.Proofs
open Go.Proofs.Tryz
open Go.Shelf
def laysSort_ren:Go.Shelf.Ren:=⟨fun x=>match x with|189=>240|125=>289|257=>288|128=>335|129=>316|294=>326|295=>327|296=>328|297=>329|298=>330|299=>331|216=>332|300=>333|301=>334|328=>360|329=>361|330=>362|331=>363|332=>364|215=>365|343=>383|n=>n,fun x=>match x with|28=>23|3=>3|46=>320|0=>0|51=>373|53=>338|4=>4|183=>400|182=>399|131=>227|5=>5|9=>9|218=>440|222=>425|228=>454|229=>249|n=>n,fun n=>n⟩
theorem laysSort:Lays.n189 prog laysSort_ren:=
 {mixed:=Eq.refl true,f125:=func289.trans (congrArg some (by kernel_rfl)),f128:=func335.trans (congrArg some (by kernel_rfl)),f129:=func316.trans (congrArg some (by kernel_rfl)),f189:=func240.trans (congrArg some (by kernel_rfl)),f215:=func365.trans (congrArg some (by kernel_rfl)),f216:=func332.trans (congrArg some (by kernel_rfl)),f257:=func288.trans (congrArg some (by kernel_rfl)),f294:=func326.trans (congrArg some (by kernel_rfl)),f295:=func327.trans (congrArg some (by kernel_rfl)),f296:=func328.trans (congrArg some (by kernel_rfl)),f297:=func329.trans (congrArg some (by kernel_rfl)),f298:=func330.trans (congrArg some (by kernel_rfl)),f299:=func331.trans (congrArg some (by kernel_rfl)),f300:=func333.trans (congrArg some (by kernel_rfl)),f301:=func334.trans (congrArg some (by kernel_rfl)),f328:=func360.trans (congrArg some (by kernel_rfl)),f329:=func361.trans (congrArg some (by kernel_rfl)),f330:=func362.trans (congrArg some (by kernel_rfl)),f331:=func363.trans (congrArg some (by kernel_rfl)),f332:=func364.trans (congrArg some (by kernel_rfl)),f343:=func383.trans (congrArg some (by kernel_rfl)),t0:=underlying0,a0:=isAgg0,z0:=sizeOf0,v0:=zeroValue0,t3:=underlying3,a3:=isAgg3,z3:=sizeOf3,v3:=zeroValue3,t4:=underlying4,a4:=isAgg4,z4:=sizeOf4,v4:=zeroValue4,t5:=underlying5,a5:=isAgg5,z5:=sizeOf5,v5:=zeroValue5,t9:=underlying9,a9:=isAgg9,z9:=sizeOf9,v9:=zeroValue9,t28:=underlying23,a28:=isAgg23,z28:=sizeOf23,v28:=zeroValue23,t46:=underlying320,a46:=isAgg320,z46:=sizeOf320,v46:=zeroValue320,t51:=underlying373,a51:=isAgg373,z51:=sizeOf373,v51:=zeroValue373,t53:=underlying338,a53:=isAgg338,z53:=sizeOf338,v53:=zeroValue338,t131:=underlying227,a131:=isAgg227,z131:=sizeOf227,v131:=zeroValue227,t182:=underlying399,a182:=isAgg399,z182:=sizeOf399,v182:=zeroValue399,t183:=underlying400,a183:=isAgg400,z183:=sizeOf400,v183:=zeroValue400,t218:=underlying440,a218:=isAgg440,z218:=sizeOf440,v218:=zeroValue440,t222:=underlying425,a222:=isAgg425,z222:=sizeOf425,v222:=zeroValue425,t228:=underlying454,a228:=isAgg454,z228:=sizeOf454,v228:=zeroValue454,t229:=underlying249,a229:=isAgg249,z229:=sizeOf249,v229:=zeroValue249 }
end Go.Proofs
namespace Go.DL
open Go.Proofs.Tryz
open Go Go.Proofs Go.Sort
def EA(l:List Int):List Int:=l.mergeSort fun x y=>decide (x<=y)
theorem FY(l:List Int):(EA l).length=l.length:=by unfold EA;exact List.length_mergeSort _
theorem Lh(l:List Int)(j:Nat)(h:j<l.length):l.toArray[j]! = l[j]:=by simp[getElem!_pos,h]
theorem R8(l:List Int)(st:MR)(O:Sig)(hm:mOK O 1 st (cI l))(hl:l.length<=1073741824):
  DCall prog 240 [mD st l.length] (mS O st (cI l)) fun x U'=>x=.ret (.tup [])/\U'=mS O st (cI (EA l)):=by
 have hL:∀f∈[laysSort_ren.f 189,laysSort_ren.f 257,laysSort_ren.f 125,laysSort_ren.f 294,laysSort_ren.f 295,laysSort_ren.f 296,laysSort_ren.f 297,laysSort_ren.f 298,laysSort_ren.f 299,laysSort_ren.f 216,laysSort_ren.f 300,laysSort_ren.f 301,laysSort_ren.f 129,laysSort_ren.f 328,laysSort_ren.f 329,laysSort_ren.f 330,laysSort_ren.f 331,laysSort_ren.f 332,laysSort_ren.f 215,laysSort_ren.f 343],f<prog.funcs.size:=by
  rw[Ai];decide
 refine⟨by rw[Ai];decide,BC func240 (by rfl) (by rfl),fun g w vs hs ha=>?_⟩
 obtain⟨v,r,rfl,hv,rfl⟩:=ha
 cases st with
 |none=>
  have aF:l=[]:=by have:cI l=[]:=hm;simpa[cI] using this
  subst aF
  have aC:v=.slice none 0 0:=hv
  subst aC
  refine(JL (fun D=>AnyS.slices_Sort_int_none_alone laysSort D none 0 w) hL {}).mono ?_
  rintro e w' ⟨rfl,rfl⟩
  refine⟨g,.ret (.tup []),_,.refl g,hs,⟨_,rfl,[],rfl,rfl⟩,rfl,?_⟩
  simp[mS]
 | some x =>
  obtain⟨i,cap,rest⟩:=x
  obtain⟨h1,h2,h3,h4⟩:=hm
  obtain⟨b,hb,hv⟩:=hv
  subst hv
  obtain⟨b',vs,ty,ay,aa,hr⟩:=hs.obj i _ (w6 ..)
  obtain rfl:b'=b:=by rw[hb]at ay;cases ay;rfl
  have aj:∀m:List Int,(cI m).flatten=m.map (D.int .i64):=fun m=>by induction m with
   |nil=>rfl
   |cons x m ih=>simp only[cI,List.map_cons,List.flatten_cons]at ih⊢; rw[ih];rfl
  have hlen:=RepL.length hr
  simp only[Array.length_toList,List.length_append,aj,List.length_map]at hlen
  have aw:∀j (hj:j<l.length),vs[j]? = some (.int .i64 l[j]):=by
   intro j hj
   have:=RepL.get hr j
   rw[List.getElem?_append_left (by simp[aj,hj]),aj]at this
   simp only[List.getElem?_map,List.getElem?_eq_getElem hj,Option.map_some,Option.getD_some,Array.getElem?_toList]at this
   have am:j<vs.size:=by omega
   rw[Array.getElem?_eq_getElem am]at this⊢
   have this':vs[j]=.int .i64 l[j]:=this
   rw[this']
  have hH:Holds (Value.int .i64) w b' 0 l.toArray:=by
   intro j hj
   have ax:j<l.length:=by simpa using hj
   refine⟨?_,by simp[Go.World.frozen?, aa]⟩
   simp only[Go.World.cell?, aa,Nat.zero_add]
   rw[Lh l j ax];exact aw j ax
  have aH:b'<w.heap.size:=(Array.getElem?_eq_some_iff.1 aa).1
  refine(JL (fun D=>AnyS.slices_Sort_int_alone laysSort D b' 0 cap l w hH aH (by omega)) hL {}).mono ?_
  rintro e w' ⟨rfl,q,os,rfl⟩
  refine⟨g,.ret (.tup []),_,.refl g,?_,⟨_,rfl,[],rfl,rfl⟩,rfl,rfl⟩
  have aE:=FY l
  have ak:=hs.setObj (i:=i) (b:=b') (ds':=(cI (EA l)).flatten++rest) (vs':=putCells (Value.int .i64) 0 (EA l).toArray vs) (ty:=ty) (w6 ..) hb ?_ ⟨vs,aa⟩
  ·have e1:(mS O (some (i,cap,rest)) (cI l)).set i (.cells ((cI (EA l)).flatten++rest))=mS O (some (i,cap,rest)) (cI (EA l)):=w8 ..
   rw[e1]at ak
   refine ak.later (fun k x hx=>?_) rfl
   have hk:k<w.heap.size:=by have:=(Array.getElem?_eq_some_iff.1 hx).1;simpa[setB] using this
   simp only[grow,putRow,mapBlock]
   have ea:(Sort.ahead w q).heap=w.heap:=rfl
   rw[ea]
   rw[Array.getElem?_append_left (by simpa using hk)]
   by_cases ar:k=b'
   ·subst ar
    rw[Ef aa]at hx
    rw[Array.getElem?_modify,if_pos rfl,aa,<-hx]
    rfl
   ·rw[Ee ar]at hx
    rw[Array.getElem?_modify,if_neg (fun e=>ar e.symm),hx]
  ·refine AF (by simp[putCells,aj];omega) fun j d u hd hu=>?_
   rw[aj]at hd
   simp only[putCells,Array.getElem?_toList,Array.getElem?_mapIdx,Nat.zero_le,true_and,Nat.zero_add,List.size_toArray,Nat.sub_zero]at hu
   have am:j<vs.size:=by
    rcases Nat.lt_or_ge j vs.size with h|h
    ·exact h
    ·rw[Array.getElem?_eq_none h]at hu;cases hu
   rw[Array.getElem?_eq_getElem am]at hu
   simp only[Option.map_some,Option.some.injEq]at hu
   by_cases hj:j<(EA l).length
   ·rw[if_pos hj,Lh _ _ hj]at hu
    rw[List.getElem?_append_left (by simpa using hj),List.getElem?_map,List.getElem?_eq_getElem hj]at hd
    simp only[Option.map_some,Option.some.injEq]at hd
    subst hd hu
    exact rfl
   ·rw[if_neg hj]at hu
    rw[List.getElem?_append_right (by simpa using hj)]at hd
    have:=RepL.get hr j
    rw[List.getElem?_append_right (by simp[aj];omega),aj]at this
    simp only[List.length_map]at hd this
    rw[aE]at hd
    rw[hd,Array.getElem?_toList,Array.getElem?_eq_getElem am,hu]at this
    exact this
end Go.DL
namespace Go.DL
open Go.Proofs.Tryz
open Go Go.Proofs
structure Hold(F:Prop):Prop where
 get:F
theorem CS{a b:Int}(h:a<=b):decide (a<=b)=true:=by simp[h]
theorem BX{a b:Int}(h:b<a):decide (a<=b)=false:=by simp;omega
theorem CR{a b:Int}(h:a<b):decide (a<b)=true:=by simp[h]
theorem BW{a b:Int}(h:b<=a):decide (a<b)=false:=by simp;omega
theorem EN{p:Prop}[Decidable p]{α:Type}{a b:α}(h:p):(if p then a else b)=a:=if_pos h
theorem CT{a b:Int}(h:a=b):decide (a=b)=true:=by simp[h]
theorem CQ{a b:Int}(h:¬a=b):decide (a=b)=false:=by simp[h]
theorem BS{a b:Nat}(h:a<=b):decide (a<=b)=true:=by simp[h]
theorem Bq{a b:Nat}(h:b<a):decide (a<=b)=false:=by simp;omega
theorem BQ{a b:Nat}(h:a<b):decide (a<b)=true:=by simp[h]
theorem Bp{a b:Nat}(h:b<=a):decide (a<b)=false:=by simp;omega
theorem BT{a b:Nat}(h:a=b):decide (a=b)=true:=by simp[h]
theorem BP{a b:Nat}(h:¬a=b):decide (a=b)=false:=by simp[h]
theorem Ah(a b:Bool):(DE.ret (.bool a)=DE.ret (.bool b))=(a=b):=by simp
structure VarsAre(vars:List Nat):Prop
theorem HN{P:Program}{ro:Ro}{n:Nat}{ops:Array Oper}{Q:DX->St->Prop}{df:List DDf}{rest:List Oper}{γ Sr:Fr}{O:Sig}{t:Nat}{ty:TypeId}{pos:String}{after:Array Edge}{d:D}{vars:List Nat}(_:VarsAre vars){tab:Nat->Ty}(ht:AZ P tab){T T' ty':Nat}{x:Operand}{pos':String}{after':Array Edge}{cs:List D}(hv:vars.contains t=false)(hT:T'=T)(ac:decide (t<n)=true)(hx:Et t x=true)(ho:A1 (tab T).k=false)
  (hl:A0 γ (A5 [x])=some Sr) (he:ev Sr x=d) (ae:d.told=true) (hc:d.cells=cs) (hlen:cs.length=(tab T).size) (ag:Bw cs=true)
  (h:DOps P ro n ops Q rest ⟨(t,.cptr cs 0)::γ,O,df⟩) :
  DOps P ro n ops Q (⟨some t,.alloc T,ty,pos,after,none⟩::⟨none,.store T' (.tmp t) x,ty',pos',after',none⟩::rest) ⟨γ,O,df⟩:=
 T0 ht vars hv hT ac hx ho hl he ae hc hlen ag h
theorem GJ{P:Program}{ro:Ro}{n:Nat}{ops:Array Oper}{Q:DX->St->Prop}{df:List DDf}{rest:List Oper}{γ Sr Sr2:Fr}{O:Sig}{t t2:Nat}{d d2:D}{vars:List Nat}(_:VarsAre vars){tab:Nat->Ty}(ht:AZ P tab){T T' ty ty' ty2:Nat}{x y:Operand}{pos pos' pos2:String}{after after' after2:Array Edge}{cs:List D}(hv:vars.contains t=false)(hT:T'=T)(ac:decide (t<n)=true)(ap:decide (t2<n)=true)(hx:Et t x=true)(hy:Et t y=true)(aA:Et t2 x=true)(aI:decide (t2=t)=false)(ho:A1 (tab T).k=false)
  (aq:A0 γ (A5 [y])=some Sr2) (aG:ev Sr2 y=d2) (hl:A0 γ (A5 [x])=some Sr) (he:ev Sr x=d) (ae:d.told=true) (hc:d.cells=cs) (hlen:cs.length=(tab T).size) (ag:Bw cs=true)
  (h:DOps P ro n ops Q rest ⟨(t,.cptr cs 0)::(t2,d2)::γ,O,df⟩) :
  DOps P ro n ops Q (⟨some t,.alloc T,ty,pos,after,none⟩::⟨some t2,.assign y,ty2,pos2,after2,none⟩::⟨none,.store T' (.tmp t) x,ty',pos',after',none⟩::rest) ⟨γ,O,df⟩:=
 Pl ht vars hv hT ac ap hx hy aA aI ho aq aG hl he ae hc hlen ag h
theorem td0{p:Prop}(h:p:=by simp(disch:=first|omega|assumption) [An,big1,big2,w7]<;>(try simp only[Bh,Bi,AU,Bg,AK,AX,AW,AV,AT,AJ,AS,AR,AQ])<;>with_unfolding_all rfl):p:=h
theorem tdW{p:Prop}(h:p:=by first|exact A8 _|exact Bm _ _|exact Ao _ (.inl rfl)|exact E8 _|(refine Hx _ ?_;first|omega|(simp;done)|(simp;omega))|(refine Cm ?_;(simp;done))|(refine Cm ?_;(simp[cI,cS,cII,Fi,F1,GE];done))|(refine DK _ ?_;(simp[cI,cS,cII];done))|(refine Cm ?_;(simp_all;done))|assumption):p:=h
theorem tdT{p:Prop}(h:p:=by(first|refine FT ?_ ?_|skip)<;>(repeat' first|exact FR|refine F6 tdR ?_ ?_|(first|exact A8 _|exact Bm _ _|exact Ao _ (.inl rfl)|exact E8 _|(refine Hx _ ?_;first|omega|(simp;done)|(simp;omega))|(refine Cm ?_;(simp;done))|(refine Cm ?_;(simp[cI,cS,cII,Fi,F1,GE];done))|(refine DK _ ?_;(simp[cI,cS,cII];done))|(refine Cm ?_;(simp_all;done))|assumption))):p:=h
theorem tdU{p:Prop}(h:p:=by first|exact Sub.refl _|(refine Db ?_;simp;done)|assumption|exact(Sub.refl _).set (by assumption)):p:=h
section
variable {P:Program}{ro:Ro}{n:Nat}{ops:Array Oper}{N:Nat}{S0:Sig}{Q:DX->St->Prop}{df:List DDf}{rest:List Oper}{γ Sr:List (Nat×D)}{O:Sig}{t:Nat}{ty:TypeId}{pos:String}{after:Array Edge}{l:List (Bool×Oper)}{d:D}
theorem C9{fop:Operand}{args:Array Operand}{ats:Array TypeId}{f:Nat}{first cap us bs:List D}(h:DCall P f bs O (rS d O))(k1:DOps P ro n ops Q rest ⟨(t,d)::γ,O,df⟩)(hl:A0 γ (A5 (fop::args.toList))=some Sr:=by exact tdR)(hf:ev Sr fop=.func (.func f) first cap:=by exact tdR)(ha:first++args.toList.map (ev Sr)++cap=us:=by exact td0)(hp:bs=us:=by exact tdR)(ac:decide (t<n)=true:=by exact tdR):DOps P ro n ops Q (⟨some t,(cv fop args ats),ty,pos,after,none⟩::rest) ⟨γ,O,df⟩:=J7 hl hf ha (.inl hp) h ac k1
theorem CU{fop:Operand}{args:Array Operand}{ats:Array TypeId}{f:Nat}{first cap us bs:List D}{j:Nat}{want:Bool}{k:Nat}(h:DCall P f bs O (rS d O))(k1:DOps P ro n ops Q rest ⟨(t,d)::γ,O,df⟩)(hk:(ops[j]?).bind (·.dst)=some k:=by exact tdR)(hb:γ.lookup k=some (.bool want):=by exact tdR)(hl:A0 γ (A5 (fop::args.toList))=some Sr:=by exact tdR)(hf:ev Sr fop=.func (.func f) first cap:=by exact tdR)(ha:first++args.toList.map (ev Sr)++cap=us:=by exact td0)(hp:bs=us:=by exact tdR)(ac:decide (t<n)=true:=by exact tdR):DOps P ro n ops Q (⟨some t,(cv fop args ats),ty,pos,after,some (j,want)⟩::rest) ⟨γ,O,df⟩:=HO hk hb hl hf ha (.inl hp) h ac k1
theorem A4{fop:Operand}{args:Array Operand}{ats:Array TypeId}{f:Nat}{first cap us bs:List D}{R:DE->Sig->Prop}{dst:Option Tmp}(h:DCall P f bs O R)(ah:∀d U',R (.ret d) U'->DOps P ro n ops Q rest ⟨putD dst d γ,U',df⟩)(ai:∀d U',R (.panic d) U'->Q (.panic d) ⟨γ,U',df⟩)(hl:A0 γ (A5 (fop::args.toList))=some Sr:=by exact tdR)(hf:ev Sr fop=.func (.func f) first cap:=by exact tdR)(ha:first++args.toList.map (ev Sr)++cap=us:=by exact td0)(hp:bs=us:=by exact tdR)
  (ho:Ar n ⟨dst,(cv fop args ats),ty,pos,after,none⟩=true:=by exact tdR):DOps P ro n ops Q (⟨dst,(cv fop args ats),ty,pos,after,none⟩::rest) ⟨γ,O,df⟩:=FW hl hf ha (.inl hp) h ho ah ai
theorem SA{fop:Operand}{args:Array Operand}{ats:Array TypeId}{f:Nat}{first cap us bs:List D}{R:DE->Sig->Prop}{dst:Option Tmp}(h:DCall P f bs O R)(ah:∀d U',R (.ret d) U'->DOps P ro n ops Q rest ⟨putD dst d γ,U',df⟩)(ai:∀d U',R (.panic d) U'->Q (.panic d) ⟨γ,U',df⟩)(hl:A0 γ (A5 (fop::args.toList))=some Sr:=by exact tdR)(hf:ev Sr fop=.func (.func f) first cap:=by exact tdR)(ha:first++args.toList.map (ev Sr)++cap=us:=by exact td0)(hp:bs=us.map D.plain:=by exact tdR)
  (ho:Ar n ⟨dst,(cv fop args ats),ty,pos,after,none⟩=true:=by exact tdR):DOps P ro n ops Q (⟨dst,(cv fop args ats),ty,pos,after,none⟩::rest) ⟨γ,O,df⟩:=FW hl hf ha (.inr hp) h ho ah ai
theorem cndB{c:Nat}{x y:Code}{b:Bool}(ht:b=true->DWp P ro n x Q ⟨(c,.bool true)::γ,O,df⟩)(hf:b=false->DWp P ro n y Q ⟨(c,.bool false)::γ,O,df⟩)(hl:γ.lookup c=some (.bool b):=by exact tdR):DWp P ro n (.cond (.tmp c) x y) Q ⟨γ,O,df⟩:=by
 refine NM (s:=⟨γ,O,df⟩) (t:=b) (At hl) (fun h=>?_) (fun h=>?_)
 ·exact DA (By (by rw[At hl,h];exact A8 _)) (ht h)
 ·exact DA (By (by rw[At hl,h];exact A8 _)) (hf h)
theorem mix{lo:List Oper}{id:Nat}(ord E:List Nat){lp:List (Bool×Oper)}(h:MO prog ro n lo.toArray 431 O Q df lp γ O)(hB:Eu lo.toArray E ord=true:=by kernel_rfl)(hl:HV lo E ord=some lp:=by exact tdR):DWp prog ro n (.region id lo.toArray true) Q ⟨γ,O,df⟩:=
 NJ Ai mixed ord E O hB (Sub.refl _) hl h
theorem Ho{lo:List Oper}{id:Nat}(ord E:List Nat)(S0:Sig)(hC:Sub S0 O){lp:List (Bool×Oper)}(h:MO prog ro n lo.toArray 431 S0 Q df lp γ O)(hB:Eu lo.toArray E ord=true:=by kernel_rfl)(hl:HV lo E ord=some lp:=by exact tdR):DWp prog ro n (.region id lo.toArray true) Q ⟨γ,O,df⟩:=
 NJ Ai mixed ord E S0 hB hC hl h
theorem wkR{V':Fr}{U':Sig}(h:TellsR γ V':=by exact tdT)(hU:Sub U' O:=by exact tdU):Wk P n ⟨γ,O,df⟩ ⟨V',U',df⟩:=JU h hU
theorem Cx{Sk:Fr}{α:Type}{c:Code}(keep:List Nat)(I:α->Prop)(ov:α->Fr)(sg:α->Sig)(μ:α->Nat)(x0:α)(h0:I x0)
  (round:∀x,I x->DWp P ro n c (Then (fun s'=> ∃x',I x'/\μ x'<μ x/\Wk P n s' ⟨ov x'++Sk,sg x',df⟩) Q) ⟨ov x++Sk,sg x,df⟩) (hk:Dg γ keep=some Sk:=by exact tdR) (h1:TellsR γ (ov x0++Sk):=by exact tdT) (h2:Sub (sg x0) O:=by exact tdU):DWp P ro n (.loop c) Q ⟨γ,O,df⟩:=EX keep I ov sg μ x0 hk h0 h1 h2 round
theorem Cw{Sk:Fr}{α β:Type}{c:Code}(keep:List Nat)(I:α->β->Prop)(ov:α->β->Fr)(sg:α->β->Sig)(μ:α->β->Nat)(x0:α)(y0:β)(h0:I x0 y0)
  (round:∀x y,I x y->DWp P ro n c (Then (fun s'=> ∃x' y',I x' y'/\μ x' y'<μ x y/\Wk P n s' ⟨ov x' y'++Sk,sg x' y',df⟩) Q) ⟨ov x y++Sk,sg x y,df⟩) (hk:Dg γ keep=some Sk:=by exact tdR) (h1:TellsR γ (ov x0 y0++Sk):=by exact tdT) (h2:Sub (sg x0 y0) O:=by exact tdU):DWp P ro n (.loop c) Q ⟨γ,O,df⟩:=OR keep I ov sg μ x0 y0 hk h0 h1 h2 round
theorem FH{Sk:Fr}{α β δ:Type}{c:Code}(keep:List Nat)(I:α->β->δ->Prop)(ov:α->β->δ->Fr)(sg:α->β->δ->Sig)(μ:α->β->δ->Nat)(x0:α)(y0:β)(z0:δ)(h0:I x0 y0 z0)
  (round:∀x y z,I x y z->DWp P ro n c (Then (fun s'=> ∃x' y' z',I x' y' z'/\μ x' y' z'<μ x y z/\Wk P n s' ⟨ov x' y' z'++Sk,sg x' y' z',df⟩) Q) ⟨ov x y z++Sk,sg x y z,df⟩) (hk:Dg γ keep=some Sk:=by exact tdR) (h1:TellsR γ (ov x0 y0 z0++Sk):=by exact tdT) (h2:Sub (sg x0 y0 z0) O:=by exact tdU):DWp P ro n (.loop c) Q ⟨γ,O,df⟩:=OQ keep I ov sg μ x0 y0 z0 hk h0 h1 h2 round
theorem fin{fn:Func}{R:DE->Sig->Prop}{U':Sig}{d:D}(hR:R (.ret d) U')(hU:Sub U' O:=by exact tdU)(h:resD fn γ=some d:=by exact tdR):Dp P n fn R .ret ⟨γ,O,[]⟩:=NI hU h hR
theorem finS{fn:Func}{R:DE->Sig->Prop}{U':Sig}{es:List (List D)}{o:Own}{t:Nat}(hR:R (.ret (.slice es .no)) U')(hU:Sub U' O:=by exact tdU)(hr:fn.results=#[.tmp t]:=by exact tdR)(h:getD γ t=.slice es o:=by exact At tdR):Dp P n fn R .ret ⟨γ,O,[]⟩:=Sg hU hr h hR
theorem fin1{fn:Func}{R:DE->Sig->Prop}{U':Sig}{t:Nat}{d d':D}(hR:R (.ret d') U')(hU:Sub U' O:=by exact tdU)(hr:fn.results=#[.tmp t]:=by exact tdR)(hl:γ.lookup t=some d:=by exact tdR)(hw:WkD d d':=by exact tdW):Dp P n fn R .ret ⟨γ,O,[]⟩:=
 ⟨⟨[(t,d')],U',[]⟩,SO (show Tells γ [(t,d')] from⟨by rw[At hl];exact hw,trivial⟩) hU,rfl,d',D1 (by simp[resD,hr]),Ea hR⟩
theorem fin2{fn:Func}{R:DE->Sig->Prop}{U':Sig}{t u:Nat}{d d' e e':D}(hR:R (.ret (.tup [d',e'])) U')(hU:Sub U' O:=by exact tdU)(hr:fn.results=#[.tmp t,.tmp u]:=by exact tdR)(hl:γ.lookup t=some d:=by exact tdR)(aq:γ.lookup u=some e:=by exact tdR)(aD:decide (u=t)=false:=by exact tdR)(hw:WkD d d':=by exact tdW)(aB:WkD e e':=by exact tdW):Dp P n fn R .ret ⟨γ,O,[]⟩:=
 ⟨⟨[(t,d'),(u,e')],U',[]⟩,SO (show Tells γ [(t,d'),(u,e')] from ⟨by rw [At hl];exact hw,by rw [At aq];exact aB,trivial⟩) hU,rfl, .tup [d',e'],D1 (by
  have:u≠t:=by simpa using aD
  simp[resD,hr,this]),Ea hR⟩
theorem fin0{fn:Func}{R:DE->Sig->Prop}{U':Sig}(hR:R (.ret (.tup [])) U')(hU:Sub U' O:=by exact tdU)(hr:fn.results=#[]:=by exact tdR):Dp P n fn R .ret ⟨γ,O,[]⟩:=NI hU (by simp[resD,hr]) hR
theorem DZ{fn:Func}{R:DE->Sig->Prop}{U':Sig}(hR:R (.ret (.tup [])) U')(hU:Sub U' O:=by exact tdU)(hr:fn.results=#[]:=by exact tdR):Dp P n fn R .normal ⟨γ,O,[]⟩:=ML hU (by simp[resD,hr]) hR
theorem finP{fn:Func}{R:DE->Sig->Prop}{U':Sig}{d:D}(hR:R (.panic d) U')(hU:Sub U' O:=by exact tdU):Dp P n fn R (.panic d) ⟨γ,O,[]⟩:=Sh hU hR
theorem HK{c:Code}(t sz:Nat)(h:∀i,O i=none->DWp P ro n c Q ⟨(t,.slice [] (.tag i))::γ,O.set i (.tail sz 0),df⟩)(ht:getD γ t=.nils:=by exact At tdR):DWp P ro n c Q ⟨γ,O,df⟩:=dwp_tag t sz ht h
end
section
variable {ro:Ro}{n:Nat}{ops:Array Oper}{N:Nat}{S0:Sig}{Q:DX->St->Prop}{df:List DDf}{rest:List Oper}{γ Sr:List (Nat×D)}{O:Sig}{t:Nat}{ty:TypeId}{pos:String}{after:Array Edge}{d:D}{s x:Operand}{T T' e e':Nat}
theorem evs{s x:Operand}(hl:A0 γ (A5 [s,x])=some Sr):ev Sr s=ev γ s/\ev Sr x=ev γ x:=
 have h:∀z∈[s,x],ev Sr z=ev γ z:=fun z hz=>B4 fun t ht=>As hl t (Ax (by rw[<-ht];exact hz))
 ⟨h s (by simp),h x (by simp)⟩
theorem appC{es new:List (List D)}(h:∀i,O i=none->DOps prog ro n ops Q rest ⟨(t,.slice (es++new) (.tag i))::γ,O.set i (.tail (tab e).size (es.length+new.length)),df⟩)
  (hl:A0 γ (A5 [s,x])=some Sr:=by exact tdR) (hk:(tab T).k=.slice e:=by(simp<;>rfl)) (au:(tab T').k=.slice e':=by(simp<;>rfl)) (he:A1 (tab e).k=false:=by simp)
  (h1:ev Sr s=.slice es .clip:=by exact tdR) (h2:esOf (ev Sr x)=some new:=by(simp<;>with_unfolding_all rfl)) (hne:new≠[]:=by simp)
  (hlen:∀c∈es,c.length=(tab e).size:=by first|exact BY _|exact Dk _|exact Ce _|simp) (hlen':∀c∈new,c.length=(tab e).size:=by first|exact BY _|exact Dk _|exact Ce _|simp)
  (hb:(es.length+new.length)*(tab e).bytes<=140737488355328:=by first|(simp;done)|(simp;omega)) (hm:es.length+new.length<=9223372036854775807:=by first|(simp;done)|(simp;omega)) (ac:decide (t<n)=true:=by exact tdR) :
  DOps prog ro n ops Q (⟨some t,(cA s x T T'),ty,pos,after,none⟩::rest) ⟨γ,O,df⟩:=by
 obtain⟨e1,e2⟩:=evs hl
 exact BG Ac rfl (by simpa using ac) hk au he (by rw[<-e1];exact h1) (by rw[<-e2];exact h2) hne hlen hlen' hb hm h
theorem app0{es:List (List D)}(h:DOps prog ro n ops Q rest ⟨(t,d)::γ,O,df⟩)
  (hl:A0 γ (A5 [s,x])=some Sr:=by exact tdR) (hd:ev Sr s=d:=by exact tdR) (hk:(tab T).k=.slice e:=by(simp<;>rfl)) (au:(tab T').k=.slice e':=by(simp<;>rfl)) (he:A1 (tab e).k=false:=by simp)
  (h1:esOf d=some es:=by exact tdR) (h2:esOf (ev Sr x)=some []:=by first|with_unfolding_all rfl|(simp_all;done)) (ac:decide (t<n)=true:=by exact tdR) :
  DOps prog ro n ops Q (⟨some t,(cA s x T T'),ty,pos,after,none⟩::rest) ⟨γ,O,df⟩:=by
 obtain⟨e1,e2⟩:=evs hl
 have:=Ev (ops:=ops) (Q:=Q) (rest:=rest) (df:=df) (O:=O) (γ:=γ) (ty:=ty) (pos:=pos) (after:=after) (guard:=none) (es:=es) (ro:=ro) (n:=n) Ac (T:=T) (T':=T') (s:=s) (x:=x) rfl (by simpa using ac) hk au he (by rw[<-e1,hd];exact h1) (by rw[<-e2];exact h2) (by rw[<-e1,hd];exact h)
 exact this
theorem newM{T:Nat}(h:∀i,O i=none->DOps prog ro n ops Q rest ⟨(t,.map i)::γ,O.set i (.map []),df⟩)(ac:decide (t<n)=true:=by exact tdR):
  DOps prog ro n ops Q (⟨some t,.makeMap T none,ty,pos,after,none⟩::rest) ⟨γ,O,df⟩:=
 LT Ac rfl (.inl rfl) (by simpa using ac) h
theorem newV{T:Nat}{z:List D}(h:∀i,O i=none->DOps prog ro n ops Q rest ⟨(t,.ptr i 0)::γ,O.set i (.cells z),df⟩)(hk:A1 (tab T).k=false:=by simp)(hz:(tab T).zero=z:=by(simp<;>rfl))(ac:decide (t<n)=true:=by exact tdR):
  DOps prog ro n ops Q (⟨some t,.alloc T,ty,pos,after,none⟩::rest) ⟨γ,O,df⟩:=by
 subst hz;exact E2 Ac hk (by simpa using ac) h
theorem pan{T:Nat}{dst:Option Tmp}(h:Q (.panic (.iface T d)) ⟨γ,O,df⟩)(hl:A0 γ (A5 [x])=some Sr:=by exact tdR)(hx:ev Sr x=.iface T d:=by exact tdR):
  DOps prog ro n ops Q (⟨dst,.panic x,ty,pos,after,none⟩::rest) ⟨γ,O,df⟩:=OU rfl (by rw[<-BJ hl];exact hx) h
theorem isN{es:List (List D)}{o:Own}(h:∀b,(b=true->es=[])->DOps prog ro n ops Q rest ⟨(t,.bool b)::γ,O,df⟩)(hl:A0 γ (A5 [x])=some Sr:=by exact tdR)(hx:ev Sr x=.slice es o:=by exact tdR)(hk:(tab T).k=.slice e:=by(simp<;>rfl))(ac:decide (t<n)=true:=by exact tdR):
  DOps prog ro n ops Q (⟨some t,.binOp .eql T x (.const (.slice none 0 0)) T',ty,pos,after,none⟩::rest) ⟨γ,O,df⟩:=
 OW Ac hk rfl (by rw[<-BJ hl];exact hx) (by simpa using ac) h
end
end Go.DL
