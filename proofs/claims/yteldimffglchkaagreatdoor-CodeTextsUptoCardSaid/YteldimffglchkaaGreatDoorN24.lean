/- A part of the proof. -/
import Derived.Shelf.Strings.Cut
import Derived.Shelf.Strings.Prefix
import Derived.Shelf.Strings.Split
import Derived.Test.YteldimffglchkaaGreatDoorProg
import Derived.Test.YteldimffglchkaaGreatDoorN23
import Derived.Test.YteldimffglchkaaGreatDoorN17
import Derived.Test.YteldimffglchkaaGreatDoorN16
import Derived.Test.YteldimffglchkaaGreatDoorN09
import Derived.Test.YteldimffglchkaaGreatDoorN18
set_option linter.all false
namespace Go.Proofs
open Go.Proofs.Tryz
open Go.Shelf
def lays145_ren:Go.Shelf.Ren:=⟨fun|145=>92|220=>167|219=>237|217=>279|225=>280|224=>281|267=>282|266=>321|314=>322|n=>n,fun|9=>9|4=>4|59=>171|3=>3|5=>5|46=>320|146=>374|51=>373|n=>n,fun|1=>0|n=>n⟩
theorem lays145:Go.Proofs.Lays.n145 prog lays145_ren:={
 mixed:=by kernel_rfl
 f145:=func92.trans (congrArg some (by kernel_rfl))
 f217:=func279.trans (congrArg some (by kernel_rfl))
 f219:=func237.trans (congrArg some (by kernel_rfl))
 f220:=func167.trans (congrArg some (by kernel_rfl))
 f224:=func281.trans (congrArg some (by kernel_rfl))
 f225:=func280.trans (congrArg some (by kernel_rfl))
 f266:=func321.trans (congrArg some (by kernel_rfl))
 f267:=func282.trans (congrArg some (by kernel_rfl))
 f314:=func322.trans (congrArg some (by kernel_rfl))
 t3:=underlying3
 a3:=isAgg3
 z3:=sizeOf3
 v3:=zeroValue3
 t4:=underlying4
 a4:=isAgg4
 z4:=sizeOf4
 v4:=zeroValue4
 t5:=underlying5
 a5:=isAgg5
 z5:=sizeOf5
 v5:=zeroValue5
 t9:=underlying9
 a9:=isAgg9
 z9:=sizeOf9
 v9:=zeroValue9
 t46:=underlying320
 a46:=isAgg320
 z46:=sizeOf320
 v46:=zeroValue320
 t51:=underlying373
 a51:=isAgg373
 z51:=sizeOf373
 v51:=zeroValue373
 t59:=underlying171
 a59:=isAgg171
 z59:=sizeOf171
 v59:=zeroValue171
 t146:=underlying374
 a146:=isAgg374
 z146:=sizeOf374
 v146:=zeroValue374
 g1:=by kernel_rfl }
open Go.RowKit Go.Lib in
theorem strings_Cut(s sep:ByteArray)(m:Int)(w:World)(hs:s.size<4294967281)(hm:w.cell? ⟨0,0,none⟩=some (.int .i64 m)):
  Calls prog 92 #[.string s,.string sep] w fun e w'=>e=.returned (.tuple #[.string ⟨(Lib.cut s.data.toList sep.data.toList).1.toArray⟩,.string ⟨(Lib.cut s.data.toList sep.data.toList).2.1.toArray⟩,.bool (Lib.cut s.data.toList sep.data.toList).2.2]) /\ ∃n,w'=w.drewN n:=Any.strings_Cut lays145 s sep m w hs hm
def lays100_ren:Go.Shelf.Ren:=⟨fun|100=>89|207=>164|n=>n,fun|9=>9|4=>4|3=>3|n=>n,fun|n=>n⟩
theorem lays100:Go.Proofs.Lays.n100 prog lays100_ren:={
 mixed:=by kernel_rfl
 f100:=func89.trans (congrArg some (by kernel_rfl))
 f207:=func164.trans (congrArg some (by kernel_rfl))
 t3:=underlying3
 a3:=isAgg3
 z3:=sizeOf3
 v3:=zeroValue3
 t4:=underlying4
 a4:=isAgg4
 z4:=sizeOf4
 v4:=zeroValue4
 t9:=underlying9
 a9:=isAgg9
 z9:=sizeOf9
 v9:=zeroValue9 }
open Go.RowKit Go.Lib in
theorem strings_HasSuffix(s p:ByteArray)(w:World)(hs:s.size<=9223372036854775807):
  Calls prog 89 #[.string s,.string p] w fun e w'=>e=.returned (.bool (Lib.hasSuffix s.data.toList p.data.toList))/\w'=w:=Any.strings_HasSuffix lays100 s p w hs
def lays102_ren:Go.Shelf.Ren:=⟨fun|102=>91|209=>166|207=>164|n=>n,fun|9=>9|4=>4|3=>3|n=>n,fun|n=>n⟩
theorem lays102:Go.Proofs.Lays.n102 prog lays102_ren:={
 mixed:=by kernel_rfl
 f102:=func91.trans (congrArg some (by kernel_rfl))
 f207:=func164.trans (congrArg some (by kernel_rfl))
 f209:=func166.trans (congrArg some (by kernel_rfl))
 t3:=underlying3
 a3:=isAgg3
 z3:=sizeOf3
 v3:=zeroValue3
 t4:=underlying4
 a4:=isAgg4
 z4:=sizeOf4
 v4:=zeroValue4
 t9:=underlying9
 a9:=isAgg9
 z9:=sizeOf9
 v9:=zeroValue9 }
open Go.RowKit Go.Lib in
theorem strings_TrimSuffix(s p:ByteArray)(w:World)(hs:s.size<=9223372036854775807):
  Calls prog 91 #[.string s,.string p] w fun e w'=>e=.returned (.string ⟨(Lib.trimSuffix s.data.toList p.data.toList).toArray⟩)/\w'=w:=Any.strings_TrimSuffix lays102 s p w hs
def lays146_ren:Go.Shelf.Ren:=⟨fun|146=>90|221=>165|268=>234|138=>235|143=>236|195=>276|197=>277|218=>278|219=>237|260=>320|217=>279|225=>280|224=>281|267=>282|266=>321|314=>322|n=>n,fun|9=>9|31=>165|3=>3|4=>4|0=>0|105=>343|21=>21|5=>5|46=>320|119=>431|139=>434|138=>433|146=>374|51=>373|n=>n,fun|1=>0|3=>4|4=>5|n=>n⟩
theorem lays146:Go.Proofs.Lays.n146 prog lays146_ren:={
 mixed:=by kernel_rfl
 f138:=func235.trans (congrArg some (by kernel_rfl))
 f143:=func236.trans (congrArg some (by kernel_rfl))
 f146:=func90.trans (congrArg some (by kernel_rfl))
 f195:=func276.trans (congrArg some (by kernel_rfl))
 f197:=func277.trans (congrArg some (by kernel_rfl))
 f217:=func279.trans (congrArg some (by kernel_rfl))
 f218:=func278.trans (congrArg some (by kernel_rfl))
 f219:=func237.trans (congrArg some (by kernel_rfl))
 f221:=func165.trans (congrArg some (by kernel_rfl))
 f224:=func281.trans (congrArg some (by kernel_rfl))
 f225:=func280.trans (congrArg some (by kernel_rfl))
 f260:=func320.trans (congrArg some (by kernel_rfl))
 f266:=func321.trans (congrArg some (by kernel_rfl))
 f267:=func282.trans (congrArg some (by kernel_rfl))
 f268:=func234.trans (congrArg some (by kernel_rfl))
 f314:=func322.trans (congrArg some (by kernel_rfl))
 t0:=underlying0
 a0:=isAgg0
 z0:=sizeOf0
 v0:=zeroValue0
 t3:=underlying3
 a3:=isAgg3
 z3:=sizeOf3
 v3:=zeroValue3
 t4:=underlying4
 a4:=isAgg4
 z4:=sizeOf4
 v4:=zeroValue4
 t5:=underlying5
 a5:=isAgg5
 z5:=sizeOf5
 v5:=zeroValue5
 t9:=underlying9
 a9:=isAgg9
 z9:=sizeOf9
 v9:=zeroValue9
 t21:=underlying21
 a21:=isAgg21
 z21:=sizeOf21
 v21:=zeroValue21
 t31:=underlying165
 a31:=isAgg165
 z31:=sizeOf165
 v31:=zeroValue165
 t46:=underlying320
 a46:=isAgg320
 z46:=sizeOf320
 v46:=zeroValue320
 t51:=underlying373
 a51:=isAgg373
 z51:=sizeOf373
 v51:=zeroValue373
 t105:=underlying343
 a105:=isAgg343
 z105:=sizeOf343
 v105:=zeroValue343
 t119:=underlying431
 a119:=isAgg431
 z119:=sizeOf431
 t138:=underlying433
 a138:=isAgg433
 z138:=sizeOf433
 v138:=zeroValue433
 t139:=underlying434
 a139:=isAgg434
 z139:=sizeOf434
 v139:=zeroValue434
 t146:=underlying374
 a146:=isAgg374
 z146:=sizeOf374
 v146:=zeroValue374
 g1:=by kernel_rfl
 g3:=by kernel_rfl
 g4:=by kernel_rfl }
open Go.RowKit Go.Lib in
theorem strings_Split(s sep:ByteArray)(m:Int)(w:World)(hs:s.size<4294967281)(hm:w.cell? ⟨0,0,none⟩=some (.int .i64 m))(h1:1<=sep.size):
  Calls prog 90 #[.string s,.string sep] w fun e w'=>
   e=.returned (.slice (some ⟨w.heap.size,0,none⟩) (Lib.countB s sep+1) (Lib.countB s sep+1))/\w'=w.alloc (.cells ((Lib.splitB sep 0 (Lib.countB s sep) s).map Value.string).toArray 9):=Any.strings_Split lays146 (by kernel_rfl) s sep m w hs hm h1
end Go.Proofs
namespace Go.DL
open Go.Proofs.Tryz
open Go Go.Proofs
set_option maxHeartbeats 8000000
theorem Nn{g:G}{O:Sig}{w:Go.World}(hs:Sim prog g O w):NF prog w:=by
 rcases hs.tab w hs.keep with h|⟨_,h⟩
 ·exact absurd h Ix
 ·exact h
theorem QR{g:G}{O:Sig}{w:Go.World}(hs:Sim prog g O w): ∃m,w.cell? ⟨0,0,none⟩=some (.int .i64 m):=(Nn hs).1 0 (by kernel_rfl)
theorem PA{g:G}{O:Sig}{w:Go.World}(hs:Sim prog g O w): ∃te pe,w.cell? ⟨2,0,none⟩=some (.iface te pe):=(Nn hs).2 _ (.inl rfl) 2 (by kernel_rfl)
theorem Td{g:G}{O:Sig}{w:Go.World}(hs:Sim prog g O w): ∃te pe,w.cell? ⟨3,0,none⟩=some (.iface te pe):=(Nn hs).2 _ (.inr rfl) 3 (by kernel_rfl)
theorem Eb(s:Str):(⟨s.toArray⟩:ByteArray).size=s.length:=by simp[ByteArray.size]
theorem Oh(s:Str)(b:UInt8)(O:Sig)(hl:s.length<=1073741824):BL prog 89 [.str s,.str [b]] O (rS (.bool (decide (s.getLast? = some b))) O):=by
 refine⟨by rw[Ac];decide,AI func89 (by rfl) (by rfl),fun g w vs r hr hs ha=>?_⟩
 obtain rfl:r=_:=hr
 obtain⟨v,_,rfl,hv,v2,_,rfl,aB,rfl⟩:=ha
 obtain rfl:v=.string ⟨s.toArray⟩:=hv
 obtain rfl:v2=.string ⟨[b].toArray⟩:=aB
 refine(AP (strings_HasSuffix ⟨s.toArray⟩ ⟨[b].toArray⟩ w (by rw[Eb];omega))).mono ?_
 rintro e w' ⟨rfl,rfl⟩
 exact⟨g,.ret (.bool (decide (s.getLast? = some b))),O,.refl g,hs,⟨_,rfl,by rw[<-Q4];rfl⟩,rfl,rfl⟩
theorem Of(s:Str)(b:UInt8)(O:Sig)(hl:s.length<=1073741824)(hb:s.getLast? = some b):BL prog 91 [.str s,.str [b]] O (rS (.str s.dropLast) O):=by
 refine⟨by rw[Ac];decide,AI func91 (by rfl) (by rfl),fun g w vs r hr hs ha=>?_⟩
 obtain rfl:r=_:=hr
 obtain⟨v,_,rfl,hv,v2,_,rfl,aB,rfl⟩:=ha
 obtain rfl:v=.string ⟨s.toArray⟩:=hv
 obtain rfl:v2=.string ⟨[b].toArray⟩:=aB
 refine(AP (strings_TrimSuffix ⟨s.toArray⟩ ⟨[b].toArray⟩ w (by rw[Eb];omega))).mono ?_
 rintro e w' ⟨rfl,rfl⟩
 exact⟨g,.ret (.str s.dropLast),O,.refl g,hs,⟨_,rfl,by rw[<-TN hb];rfl⟩,rfl,rfl⟩
theorem Ls{g:G}{b:Nat}{vs:List Value}: ∀(l:List Str) (k:Nat),(∀j x,l[j]? = some x->vs[k+j]? = some (.string ⟨x.toArray⟩))->RepE (g.addImm b vs) b 1 k (cS l)
 |[],_,_=>trivial
 | x::l,k,h=>by
  refine⟨⟨rfl,⟨_,?_,rfl⟩,trivial⟩,Ls l (k+1) fun j y hj=>?_⟩
  ·simp only[G.addImm,if_true];have:=h 0 x rfl;simpa using this
  ·have:=h (j+1) y (by simpa using hj)
   rw[show k+1+j=k+(j+1) by omega];exact this
theorem J6{g:G}{O:Sig}{w w':Go.World}(hs:Sim prog g O w)(h:RowKit.Below w.heap.size w w'):Sim prog g O w':=
 hs.later (fun k x hx=>by rw[h.block k (Array.getElem?_eq_some_iff.1 hx).1];exact hx) (by rw[h.os,h.output])
theorem NC{g:G}{O:Sig}{w:Go.World}{e:TypeId}{s:ByteArray}(hs:Sim prog g O w):Sim prog g O (Lib.bytesWorld w e s):=by
 refine hs.later (fun k x hx=>?_) ?_
 ·have hk:k<w.heap.size:=(Array.getElem?_eq_some_iff.1 hx).1
  unfold Lib.bytesWorld World.freeze
  rw[if_neg (by decide)]
  show((w.drew.alloc _).heap.modify w.heap.size _)[k]? = some x
  rw[Array.getElem?_modify,if_neg (by omega)]
  show(w.heap.push _)[k]? = some x
  rw[Array.getElem?_push_lt hk,<-Array.getElem?_eq_getElem hk];exact hx
 ·unfold Lib.bytesWorld World.freeze
  rw[if_neg (by decide)]
  rfl
theorem Sim.drewN{g:G}{O:Sig}{w:Go.World}(hs:Sim prog g O w)(n:Nat):Sim prog g O (w.drewN n):=hs.later (fun k x hx=>hx) rfl
theorem LV(s p:Str)(O:Sig)(hl:s.length<=1073741824):BL prog 92 [.str s,.str p] O (rS (.tup [.str (Lib.cut s p).1,.str (Lib.cut s p).2.1,.bool (Lib.cut s p).2.2]) O):=by
 refine⟨by rw[Ac];decide,AI func92 (by rfl) (by rfl),fun g w vs r hr hs ha=>?_⟩
 obtain rfl:r=_:=hr
 obtain⟨v,_,rfl,hv,v2,_,rfl,aB,rfl⟩:=ha
 obtain rfl:v=.string ⟨s.toArray⟩:=hv
 obtain rfl:v2=.string ⟨p.toArray⟩:=aB
 obtain⟨m,hm⟩:=QR hs
 refine(AP (strings_Cut ⟨s.toArray⟩ ⟨p.toArray⟩ m w (by rw[Eb];omega) hm)).mono ?_
 rintro e w' ⟨rfl,n,rfl⟩
 exact⟨g,.ret (.tup [.str (Lib.cut s p).1,.str (Lib.cut s p).2.1,.bool (Lib.cut s p).2.2]),O,.refl g,hs.drewN n,⟨_,rfl,[_,_,_],rfl,_,_,rfl,rfl,_,_,rfl,rfl,_,_,rfl,rfl,rfl⟩,rfl,rfl⟩
theorem Og(s:Str)(b:UInt8)(O:Sig)(hl:s.length<=1073741824):BL prog 90 [.str s,.str [b]] O (rS (.slice (cS (splitB b s)) .no) O):=by
 refine⟨by rw[Ac];decide,AI func90 (by rfl) (by rfl),fun g w vs r hr hs ha=>?_⟩
 obtain rfl:r=_:=hr
 obtain⟨v,_,rfl,hv,v2,_,rfl,aB,rfl⟩:=ha
 obtain rfl:v=.string ⟨s.toArray⟩:=hv
 obtain rfl:v2=.string ⟨[b].toArray⟩:=aB
 obtain⟨m,hm⟩:=QR hs
 refine(AP (strings_Split ⟨s.toArray⟩ ⟨[b].toArray⟩ m w (by rw[Eb];omega) hm (Nat.le_refl 1))).mono ?_
 rintro e w' ⟨rfl,rfl⟩
 have e1:=HX b s
 have e2:=MZ b s
 rw[show(⟨[b].toArray⟩:ByteArray)=⟨#[b]⟩ from rfl,e1,e2]
 have aP:=hs.addImm ((splitB b s).map fun l=>Value.string ⟨l.toArray⟩) 9 (0,0)
 have bp:=G.addImm_le hs ((splitB b s).map fun l=>Value.string ⟨l.toArray⟩)
 refine⟨_,.ret (.slice (cS (splitB b s)) .no),O,bp,aP,⟨_,rfl,some ⟨w.heap.size,0,none⟩,(splitB b s).length,by simp[cS],by simp[cS],.inr ⟨1,w.heap.size,0,rfl,?_⟩,trivial⟩,rfl,rfl⟩
 exact Ls _ 0 fun j x hj=>by rw[Nat.zero_add,List.getElem?_map,hj];rfl
theorem SJ(s:Str)(O:Sig)(hl:s.length<=1073741824):BL prog 168 [.str s] O fun x U'=>U'=O/\match Lib.atoiAll s with
  |.ok v=>x=.ret (.tup [dI v,.niliface])
  |_=> ∃v,x=.ret (.tup [dI v,.iface 349 .any]):=by
 refine⟨by rw[Ac];decide,AI func168 (by rfl) (by rfl),fun g w vs r hr hs ha=>?_⟩
 obtain rfl:r=_:=hr
 obtain⟨v,_,rfl,hv,rfl⟩:=ha
 obtain rfl:v=.string ⟨s.toArray⟩:=hv
 cases h:Lib.atoiAll s with
 |ok v=>
  refine(AP (strconv_Atoi_ok ⟨s.toArray⟩ (by rw[Eb];omega) v h w)).mono ?_
  rintro e w' ⟨rfl,hw⟩
  refine⟨g,.ret (.tup [dI v,.niliface]),O,.refl g,?_,⟨_,rfl,[_,_],rfl,_,_,rfl,rfl,_,_,rfl,rfl,rfl⟩,rfl,rfl⟩
  rcases hw with rfl|⟨t,rfl⟩
  ·exact hs
  ·exact NC hs
 |range=>
  obtain⟨te,pe,he⟩:=Td hs
  refine(AP (strconv_Atoi_range ⟨s.toArray⟩ (by rw[Eb];omega) h _ w he (.inr ⟨te,pe,rfl⟩))).mono ?_
  rintro e w' ⟨N,rfl,hN,hc,hB⟩
  refine⟨g,.ret (.tup [dI (Lib.atoiSat s),.iface 349 .any]),O,.refl g,?_,⟨_,rfl,[_,_],rfl,_,_,rfl,rfl,_,_,rfl,⟨_,rfl,trivial⟩,rfl⟩,rfl,_,rfl⟩
  exact J6 hs hB
 |_=>
  obtain⟨te,pe,he⟩:=PA hs
  refine(AP (strconv_Atoi_syntax ⟨s.toArray⟩ (by rw[Eb];omega) h _ w he (.inr ⟨te,pe,rfl⟩))).mono ?_
  rintro e w' ⟨N,rfl,hN,hc,hB⟩
  refine⟨g,.ret (.tup [dI 0,.iface 349 .any]),O,.refl g,?_,⟨_,rfl,[_,_],rfl,_,_,rfl,rfl,_,_,rfl,⟨_,rfl,trivial⟩,rfl⟩,rfl,0,rfl⟩
  exact J6 hs hB
theorem Rt(g:Nat)(cap:List D)(O:Sig)(R:Sig->DE->Sig->Prop)
  (hg:∀i,O i=none->BL prog g cap (O.set i (.cells [.bool false])) (R (O.set i (.cells [.bool false]))))
  (hR:∀U' d S'',R U' (.panic d) S''->d=unfC) (hk:∀i S'' x,O i=none->R (O.set i (.cells [.bool false])) x S''->S'' i=some (.cells [.bool false])) :
  BL prog 76 [.func (.func g) [] cap] O fun x U'=> ∃i S'',O i=none/\U'=S''.del i /\
   ((∃d,R (O.set i (.cells [.bool false])) (.ret d) S''/\x=.ret (.bool true))\/(R (O.set i (.cells [.bool false])) (.panic unfC) S''/\x=.ret (.bool false))):=by
 refine Jk (fd:=160) func76 rfl (AI func160 (by rfl) (by rfl)) (by rw[Ac];decide) (by decide) ntmps76 (by simp) ?_
 refine gz ?_ [] [2]
 refine newV (fun i hi=>?_)
 refine gz ?_ [] [2]
 refine Nt (f:=160) (by rw[Ac];decide) rfl rfl ?_
 refine gz ?_ [] [2]
 refine Bn (hg i hi) (fun d U' hr=>?_) (fun d U' hp=>?_)
 ·have aV:=hk i U' _ hi hr
  refine gf aV ?_ [] [2]
  refine⟨_,Wk.refl _ _ _,[.ptr i 0],U'.set i (.cells [.bool true]),.bool true,rfl,(Gv i true _ (w6 ..)).1,Cf (ds:=[.bool true]) Ad ?_,.ret (.bool true),U'.del i,A8 _,GL,i,U',hi,rfl,.inl ⟨d,hr,rfl⟩⟩
  simp[resL]
 ·have aV:=hk i U' _ hi hp
  obtain rfl:=hR _ _ _ hp
  refine gz ?_ [] [2]
  refine⟨_,Wk.refl _ _ _,[.ptr i 0],U'.set i (.cells [.bool false]),.bool false,rfl,(Gv i false _ aV).2,Cf (ds:=[.bool false]) Ad ?_,.ret (.bool false),U'.del i,A8 _,GL,i,U',hi,rfl,.inr ⟨hp,rfl⟩⟩
  simp[resL]
@[simp] theorem hitSN85ok(k:Str)(m:List (Str×Int)):hitD tab 85 true (Ca .str (.str k) (eSN m) 0)=some (.tup [.int .i64 (getM 0 k m),.bool (hasM k m)]):=KP keyS dI rfl k m
def Gi:Nat->List (Str×Int)
 |0=>[]
 |k+1=>putM ((wordsC[k]?).getD []) ((k:Int)+1) (Gi k)
def La:List Str->Nat->List (Str×Int)
 |[],_=>[]
 |w::r,i=>(w,((i+1:Nat):Int))::La r (i+1)
theorem Pf:Gi 21=La wordsC 0:=by decide
theorem L9(w:Str): ∀(l:List Str) (i:Nat),(hasM w (La l i)=true/\idxG w l i+1=getM 0 w (La l i)/\0<=idxG w l i)\/(hasM w (La l i)=false/\idxG w l i = -1)
 |[],i=>.inr ⟨rfl,rfl⟩
 | c::r,i=>by
  by_cases h:c=w
  ·subst h
   exact .inl ⟨by simp[La,hasM],by simp[La,getM,idxG],by simp[idxG]⟩
  ·have h2:¬w=c:=fun e=>h e.symm
   rw[La,hasM,getM,idxG,if_neg h,if_neg h2,decide_eq_false h2,Bool.false_or]
   exact L9 w r (i+1)
theorem Qu(w:Str):opW w=if hasM w (Gi 21) then some (getM 0 w (Gi 21)) else none:=by
 rw[Pf]
 unfold opW
 rcases L9 w wordsC 0 with⟨h1,h2,h3⟩|⟨h1,h2⟩
 ·rw[h1,if_pos h3,if_pos rfl,h2]
 ·rw[h1,h2,if_neg (by decide),if_neg (by simp)]
theorem Rs(O:Sig):DCall prog 94 [] O fun x U'=> ∃im,O im=none/\x=.ret (.map im)/\U'=O.set im (.map (eSN (Gi 21))):=by
 refine en func94 ntmps94 ?_
 refine gz ?_
 refine newSN (fun im aU=>?_)
 refine gz ?_
 refine Cg [0,1,5,6,17] (fun (k:Nat)=>k<=21) (fun k=>[(7,dI k)]) (fun k=>O.set im (.map (eSN (Gi k)))) (fun k=>21-k) (0) (by omega) (fun k hI=>?_)
 have hl:wordsC.length=21:=rfl
 by_cases hk:k<21
 ·have hw:wordsC[k]? = some (wordsC[k]'(by omega)):=List.getElem?_eq_getElem (by omega)
  have hs:Gi (k+1)=putM (wordsC[k]'(by omega)) ((k:Int)+1) (Gi k):=by rw[Gi,hw];rfl
  refine gf (gi hl hw) ?_
  rw[<-hs]
  exact⟨k+1,by omega,td1,wkR⟩
 ·obtain rfl:k=21:=by omega
  refine gf hl ?_
  refine fin1 (U':=O.set im (.map (eSN (Gi 21)))) ⟨im,aU,rfl,rfl⟩
theorem KR(s:Str)(O:Sig)(hs:s.length<=1000000):BL prog 93 [.str s] O fun x U'=>U'=O/\match intP s with
  |some v=>x=.ret (dI v)
  |none=>x=.panic unfC:=by
 refine enW func93 ntmps93 ?_
 refine gz ?_
 refine Bn (SJ s O (by omega)) (fun d U' hr=>?_) (fun d U' hr=>?_)
 rotate_left
 ·obtain⟨_,hr⟩:=hr
  split at hr
  ·cases hr
  ·obtain⟨_,hr⟩:=hr;cases hr
 obtain⟨rfl,hr⟩:=hr
 unfold intP
 cases hA:Lib.atoiAll s with
 | ok v =>
  rw[hA]at hr
  cases hr
  obtain⟨v1,v2⟩:=Lib.atoiAll_bounds hA
  refine gz ?_
  refine Tw (HB v U' v1 v2) (fun d S3 hr=>?_) (fun d S3 hr=>by cases hr.1)
  obtain⟨hd,rfl⟩:=hr
  cases hd
  by_cases he:Lib.itoa v=s
  ·have aW:=decide_eq_true he
   refine gf aW ?_
   refine fin1 (U':=S3) ⟨rfl,?_⟩
   simp only[he,if_true]
  ·have aW:=decide_eq_false he
   repeat' first|((refine finP (U':=S3) ⟨rfl,?_⟩;simp only[he,if_false]))|refine gf aW ?_|apply gy<;>intro hh
 |range=>
  rw[hA]at hr
  obtain⟨v,hr⟩:=hr
  cases hr
  repeat' first|((exact finP (U':=U') ⟨rfl,rfl⟩))|refine gz ?_|apply gy<;>intro hh
 |_=>
  rw[hA]at hr
  obtain⟨v,hr⟩:=hr
  cases hr
  repeat' first|((exact finP (U':=U') ⟨rfl,rfl⟩))|refine gz ?_|apply gy<;>intro hh
theorem RdS.st_push{ic i1 i2:Nat}{ins:List CIns}{st:List Int}{m:Int}{S0 O:Sig}(h:RdS ic i1 i2 ins st m S0 O)(h2:S0 i2=none)(n:Int):RdS ic i1 i2 ins (st++[n]) m S0 ((O.set i2 (.tail 1 (st.length+1))).set ic (.cells [.slice (ins.map cIns) (.tag i1),.slice (cI st++[[dI n]]) (.tag i2),dI m])):=by
 have n1:ic≠i1:=DK h.oc h.o1 (by simp)
 have n2:ic≠i2:=DK h.oc h.o2 (by simp)
 have ea:cI (st++[n])=cI st++[[dI n]]:=by simp[cI]
 exact⟨by rw[w6,ea],by rw[w7 _ _ n1.symm,w7 _ _ h.ne];exact h.o1,by rw[w7 _ _ n2.symm,w6,List.length_append];rfl,h.ne,fun j o hj e=>by rw[w7 _ _ e,w7 _ _ (As hj h2)];exact h.keep j o hj e⟩
theorem RdS.ins_push{ic i1 i2:Nat}{ins:List CIns}{st:List Int}{m:Int}{S0 O:Sig}(h:RdS ic i1 i2 ins st m S0 O)(h1:S0 i1=none)(x:CIns):RdS ic i1 i2 (ins++[x]) st m S0 ((O.set i1 (.tail 2 (ins.length+1))).set ic (.cells [.slice (ins.map cIns++[cIns x]) (.tag i1),.slice (cI st) (.tag i2),dI m])):=by
 have n1:ic≠i1:=DK h.oc h.o1 (by simp)
 have n2:ic≠i2:=DK h.oc h.o2 (by simp)
 have ea:(ins++[x]).map cIns=ins.map cIns++[cIns x]:=by simp
 exact⟨by rw[w6,ea],by rw[w7 _ _ n1.symm,w6,List.length_append];rfl,by rw[w7 _ _ n2.symm,w7 _ _ h.ne.symm];exact h.o2,h.ne,fun j o hj e=>by rw[w7 _ _ e,w7 _ _ (As hj h1)];exact h.keep j o hj e⟩
def rdB(ic i1 i2:Nat)(ins:List CIns)(st:List Int)(m:Int)(S0:Sig):Sig:=((S0.set i1 (.tail 2 ins.length)).set i2 (.tail 1 st.length)).set ic (.cells [.slice (ins.map cIns) (.tag i1),.slice (cI st) (.tag i2),dI m])
theorem RdS.sub{ic i1 i2:Nat}{ins:List CIns}{st:List Int}{m:Int}{S0 O:Sig}(h:RdS ic i1 i2 ins st m S0 O):Sub (rdB ic i1 i2 ins st m S0) O:=fun j o hj=>by
 unfold rdB at hj
 by_cases e:j=ic
 ·subst e;rw[w6]at hj;rw[h.oc];exact hj
 ·rw[w7 _ _ e]at hj
  by_cases e2:j=i2
  ·subst e2;rw[w6]at hj;rw[h.o2];exact hj
  ·rw[w7 _ _ e2]at hj
   by_cases e1:j=i1
   ·subst e1;rw[w6]at hj;rw[h.o1];exact hj
   ·rw[w7 _ _ e1]at hj;exact h.keep j o hj e
theorem RdS.of_rdB{ic i1 i2:Nat}{ins:List CIns}{st:List Int}{m:Int}{S0 O:Sig}(h:RdS ic i1 i2 ins st m S0 O){ins':List CIns}{st':List Int}{m':Int}(h1:S0 i1=none)(h2:S0 i2=none):RdS ic i1 i2 ins' st' m' S0 (rdB ic i1 i2 ins' st' m' S0):=by
 have n1:ic≠i1:=DK h.oc h.o1 (by simp)
 have n2:ic≠i2:=DK h.oc h.o2 (by simp)
 exact⟨w6 .., by unfold rdB;rw[w7 _ _ n1.symm,w7 _ _ h.ne,w6],by unfold rdB;rw[w7 _ _ n2.symm,w6],h.ne,fun j o hj e=>by unfold rdB;rw[w7 _ _ e,w7 _ _ (As hj h2),w7 _ _ (As hj h1)];exact hj⟩
section
variable {P:Program}{ro:Ro}{n N:Nat}{ops:Array Oper}{Q:DX->St->Prop}{df:List DDf}{γ Sr:List (Nat×D)}{O S0:Sig}{ty:TypeId}{pos:String}{after:Array Edge}
theorem Ug{fop:Operand}{args:Array Operand}{ats:Array TypeId}{f:Nat}{first cap us bs:List D}{R:DE->Sig->Prop}{dst:Option Tmp}{l:List (Bool×Oper)}(h:DCallR P ro f bs O R)(aR:∀d U',R (.ret d) U'->Sub S0 U'/\MO P ro n ops N S0 Q df l (putD dst d γ) U')(aS:∀d U',R (.panic d) U'->∀V',Q (.panic d) ⟨V',U',df⟩)(hl:A0 γ (A5 (fop::args.toList))=some Sr:=by exact tdR)(hf:ev Sr fop=.func (.func f) first cap:=by exact tdR)(ha:first++args.toList.map (ev Sr)++cap=us:=by exact td0)(hp:bs=us\/bs=us.map D.plain:=by first|exact .inl tdR|exact .inr tdR)
  (ho:Ar n ⟨dst,(cv fop args ats),ty,pos,after,none⟩=true:=by exact tdR):MO P ro n ops N S0 Q df ((true,⟨dst,(cv fop args ats),ty,pos,after,none⟩)::l) γ O:=
 Ud tdR hl hf ha hp h ho aR aS
end
theorem Hv(b:UInt8): ∀s:Str,(splitB b s).length<=s.length+1 /\ ∀x∈splitB b s,x.length<=s.length
 |[]=>⟨by simp[splitB],by simp[splitB]⟩
 | c::r=>by
  obtain⟨h1,h2⟩:=Hv b r
  rw[splitB]
  split
  ·refine⟨by simp only[List.length_cons];omega,fun x hx=>?_⟩
   rcases List.mem_cons.1 hx with rfl|hx
   ·simp
   ·have:=h2 x hx;rw[List.length_cons];omega
  ·split
   ·refine⟨by simp,fun x hx=>?_⟩
    simp at hx;subst hx;simp
   ·rename_i p ps e
    rw[e]at h1 h2
    refine⟨by simp only[List.length_cons]at*; omega,fun x hx=>?_⟩
    rcases List.mem_cons.1 hx with rfl|hx
    ·have:=h2 p (by simp);simp only[List.length_cons];omega
    ·have:=h2 x (by simp[hx]);rw[List.length_cons];omega
def RdT(s:Str)(ic:Nat)(O:Sig)(x:DE)(U':Sig):Prop:=(∀j o,O j=some o->j≠ic->U' j=some o)/\match EG intP s with
 |none=>x=.panic unfC
 |some c=>x=.ret (.tup [])/\U' ic=some (.cells (cCPg c))
theorem dwp_cutH{P:Program}{ro:Ro}{n:Nat}{Q:DX->St->Prop}{γ:Fr}{O:Sig}{df:List DDf}{x1 b:Code}(X:Prop)(ov:Fr)(U':Sig)(h2:X->DWp P ro n b Q ⟨ov++γ,U',df⟩)(h1:∀b,(X->DWp P ro n b Q ⟨ov++γ,U',df⟩)->DWp P ro n (.seq x1 b) Q ⟨γ,O,df⟩):DWp P ro n (.seq x1 b) Q ⟨γ,O,df⟩:=h1 b h2
theorem O1{α β:Type}(f:α->Option β): ∀l:List α, ∀k (h:k<l.length),mapO f (l.drop k)=match f l[k]with
  |none=>none
  |some y=>match mapO f (l.drop (k+1))with
   |none=>none
   |some r=>some (y::r):=fun l k h=>by rw[Ab h,mapO];rfl
theorem O0{α β:Type}(f:α->Option β): ∀(l:List α) (r:List β),mapO f l=some r->r.length=l.length
 |[],r,h=>by rw[mapO]at h;cases h;rfl
 | x::l,r,h=>by
  rw[mapO]at h
  split at h
  ·cases h
  ·split at h
   ·cases h
   ·rename_i l2 e
    cases h
    rw[List.length_cons,List.length_cons,O0 f l l2 e]
theorem Qp{f:Str->Option Int}{a:Str}{st:List Int}(h:EH f a=some st):st.length<=a.length+1:=by
 unfold EH at h
 split at h
 ·cases h;simp
 ·split at h
  ·have h1:=O0 _ _ _ h
   have h2:=(Hv 32 a.dropLast).1
   rw[List.length_dropLast]at h2
   omega
  ·cases h
theorem UF (s:Str) (ic:Nat) (O:Sig) (hs:s.length<=5000) (hi:O ic=some (.cells [.nils, .nils,dI 0])):BL prog 88 [.cptr [.str s] 0, .ptr ic 0] O (RdT s ic O):=by
 refine enW func88 ntmps88 ?_
 refine dwp_tagcell ic 0 2 hi rfl (fun i1 aq=>?_)
 refine dwp_tagcell ic 1 1 (w6 ..) rfl (fun i2 am=>?_)
 obtain⟨n1,am⟩:=B5 am
 obtain⟨n2,am⟩:=B5 am
 have n3:ic≠i1:=fun e=>by rw[e,aq]at hi;cases hi
 have hR:RdS ic i1 i2 [] [] 0 O ((((O.set i1 (.tail 2 0)).set ic (.cells ([.nils,.nils,dI 0].set 0 (.slice [] (.tag i1))))).set i2 (.tail 1 0)).set ic (.cells (([.nils,.nils,dI 0].set 0 (.slice [] (.tag i1))).set 1 (.slice [] (.tag i2))))):=
  ⟨w6 .., by rw[w7 _ _ n3.symm,w7 _ _ n2.symm,w7 _ _ n3.symm,w6];rfl,by rw[w7 _ _ n1,w6];rfl,n2.symm,fun j o h e=>by rw[w7 _ _ e,w7 _ _ (As h am),w7 _ _ e,w7 _ _ (As h aq)];exact h⟩
 generalize (((O.set i1 (.tail 2 0)).set ic (.cells ([.nils,.nils,dI 0].set 0 (.slice [] (.tag i1))))).set i2 (.tail 1 0)).set ic (.cells (([.nils,.nils,dI 0].set 0 (.slice [] (.tag i1))).set 1 (.slice [] (.tag i2))))=U1 at hR
 refine gz ?_ o88 [16]
 refine Bn (Oh s 10 U1 (by omega)) (fun d U2 h=>?_) (fun d U2 h=>by cases h.1)
 obtain⟨h1,rfl⟩:=h
 cases h1
 by_cases c1:s.getLast? = some 10
 rotate_left
 ·have c1':=decide_eq_false c1
  have aJ:EG intP s=none:=by unfold EG;rw[if_pos c1]
  repeat' first|((exact finP (U':=U2) ⟨hR.keep,by rw[aJ]⟩))|refine gf c1' ?_ o88 [16]|apply gy<;>intro hh
 have c1':=decide_eq_true c1
 refine gf c1' ?_ o88 [16]
 refine Bn (Of s 10 U2 (by omega) c1) (fun d S3 h=>?_) (fun d S3 h=>by cases h.1)
 obtain⟨h1,rfl⟩:=h
 cases h1
 have bL:s.dropLast.length<=5000:=by rw[List.length_dropLast];omega
 refine Bn (Og s.dropLast 10 S3 (by omega)) (fun d S4 h=>?_) (fun d S4 h=>by cases h.1)
 obtain⟨h1,rfl⟩:=h
 cases h1
 have ag:EG intP s=match splitB 10 s.dropLast with
  |[]=>none
  | l0::ls=>match cut2 l0 with
   |none=>none
   | some (a,m)=>match intP m with
    |none=>none
    | some main=>match EH intP a with
     |none=>none
     |some starts=>match mapO (EI intP) ls with
      |none=>none
      |some ins=>if AG ⟨ins,starts,main⟩=true then some ⟨ins,starts,main⟩ else none:=by
  unfold EG;rw[if_neg (by rw[c1];simp)];rfl
 obtain⟨sp1,sp2⟩:=Hv 10 s.dropLast
 have hne:=Lk 10 s.dropLast
 generalize splitB 10 s.dropLast=L at*
 cases L with
 |nil=>exact absurd rfl hne
 | cons l0 ls =>
  have bI:=sp2 l0 (by simp)
  have bn:∀x∈ls,x.length<=5000:=fun x hx=>by have:=sp2 x (by simp[hx]);omega
  rw[List.length_cons]at sp1
  refine gz ?_ o88 [16]
  refine Bn (LV l0 [58,32] S4 (by omega)) (fun d S5 h=>?_) (fun d S5 h=>by cases h.1)
  obtain⟨h1,rfl⟩:=h
  cases h1
  rw[cut_two]
  simp only at ag
  cases aZ:cut2 l0 with
  |none=>
   rw[aZ]at ag
   dsimp only[putD]
   repeat' first|((exact finP (U':=S5) ⟨hR.keep,by rw[ag]⟩))|refine gz ?_ o88 [16]|apply gy<;>intro hh
  | some z =>
   obtain⟨a,m⟩:=z
   rw[aZ]at ag
   simp only at ag
   have bw:=congrArg List.length (IS l0 a m aZ)
   simp only[List.length_append,List.length_cons]at bw
   dsimp only[putD]
   refine gz ?_ o88 [16]
   refine Bn (KR m S5 (by omega)) (fun d S6 h=>?_) (fun d S6 h=>?_)
   rotate_left
   ·obtain⟨rfl,h⟩:=h
    cases hm:intP m with
    |some v=>rw[hm]at h;cases h
    |none=>
     rw[hm]at h ag
     cases h
     refine gz ?_ o88 [16]
     exact finP (U':=S6) ⟨hR.keep,by rw[ag]⟩
   obtain⟨rfl,h⟩:=h
   cases hm:intP m with
   |none=>rw[hm]at h;cases h
   | some main =>
    rw[hm]at h ag
    cases h
    simp only at ag
    have u1:=hR.oc
    have aj:RdS ic i1 i2 [] [] main O (S6.set ic (.cells [.slice [] (.tag i1),.slice [] (.tag i2),dI main])):=⟨w6 .., by rw[w7 _ _ n3.symm];exact hR.o1,by rw[w7 _ _ (DK hR.oc hR.o2 (by simp)).symm];exact hR.o2,hR.ne,fun j o h e=>by rw[w7 _ _ e];exact hR.keep j o h e⟩
    obtain⟨st0,ah⟩:∃st0,st0=(EH intP a).getD []:=⟨_,rfl⟩
    repeat ((fail_if_success (first|(refine dwp_cutH (x1:=.seq _ (.cond _ _ _)) (∃st,EH intP a=some st) ([35,34,33,32,31,30,29,28,23,27,26,25,24,22,21,20,19,18,17,5,4,3,0].map fun k=>(k,D.any)) (rdB ic i1 i2 [] st0 main O) ?_ (fun _ hK=>?_))|fail));(refine goX1 u1 ?_))
    refine dwp_cutH (x1:=.seq _ (.cond _ _ _)) (∃st,EH intP a=some st) ([35,34,33,32,31,30,29,28,23,27,26,25,24,22,21,20,19,18,17,5,4,3,0].map fun k=>(k,D.any)) (rdB ic i1 i2 [] st0 main O) ?_ (fun _ hK=>?_)
    rotate_left
    ·change DWp _ _ _ _ _ ⟨_,S6.set ic (.cells [.slice [] (.tag i1),.slice [] (.tag i2),dI main]),_⟩
     generalize S6.set ic (.cells [.slice [] (.tag i1),.slice [] (.tag i2),dI main])=S7 at*
     by_cases ha:a=[]
     ·have hS:EH intP a=some []:=by unfold EH;rw[if_pos ha]
      have hK:=hK ⟨[],hS⟩
      rw[hS]at ah
      simp only[Option.getD_some]at ah
      subst ah
      have bx:=decide_eq_true ha
      refine gf bx ?_ o88 [16]
      exact Co (CN (by first|(simp;done)|(simp_all;done)) (aj.sub)) hK
     ·refine gf ha ?_ o88 [16]
      refine Bn (Oh a 32 S7 (by omega)) (fun d S8 h=>?_) (fun d S8 h=>by cases h.1)
      obtain⟨h1,rfl⟩:=h
      cases h1
      by_cases c2:a.getLast? = some 32
      rotate_left
      ·have c2':=decide_eq_false c2
       have hS:EH intP a=none:=by unfold EH;rw[if_neg ha,if_neg c2]
       rw[hS]at ag
       repeat' first|((exact finP (U':=S8) ⟨aj.keep,by rw[ag]⟩))|refine gf c2' ?_ o88 [16]|apply gy<;>intro hh
      have c2':=decide_eq_true c2
      dsimp only[putD]
      refine gf c2' ?_ o88 [16]
      refine Bn (Of a 32 S8 (by omega) c2) (fun d S9 h=>?_) (fun d S9 h=>by cases h.1)
      obtain⟨h1,rfl⟩:=h
      cases h1
      have bM:a.dropLast.length<=5000:=by rw[List.length_dropLast];omega
      refine Bn (Og a.dropLast 32 S9 (by omega)) (fun d S10 h=>?_) (fun d S10 h=>by cases h.1)
      obtain⟨h1,rfl⟩:=h
      cases h1
      have hS:EH intP a=mapO intP (splitB 32 a.dropLast):=by unfold EH;rw[if_neg ha,if_pos c2]
      obtain⟨sp3,sp4⟩:=Hv 32 a.dropLast
      generalize splitB 32 a.dropLast=L at*
      dsimp only[putD]
      refine gz ?_ o88 [16]
      refine Ft [1,2,8,10,11,12,13,14,15,16,43,44,57,58,59,60,61,62,63,64,65,66,67,68,69,70,71,72,73,74,75,76,77,78,79,80,81,82,83,84,85,86,87,88,89,90,91,92,93,94,95,96,97,98,99,100] (fun (k:Nat) (st:List Int) (S11:Sig)=>k<=L.length/\st.length<=k/\RdS ic i1 i2 [] st main O S11/\mapO intP L=(mapO intP (L.drop k)).map (st ++ ·)) (fun k _ _=>[(45,dI k)]) (fun _ _ S11=>S11) (fun k _ _=>L.length-k) (0) ([]) (S10) (by exact⟨by omega,by simp,aj,by rw[List.drop_zero];cases mapO intP L<;>rfl⟩) (fun k st S11 hI=>?_)
      clear aj
      obtain⟨hk,bl,aj,hM⟩:=hI
      by_cases aE:k<L.length
      ·have bj:=sp4 _ (List.getElem_mem aE)
       have hw:L[k]? = some L[k]:=List.getElem?_eq_getElem aE
       rw[O1 intP L k aE]at hM
       have n02:ic≠i2:=DK aj.oc aj.o2 (by simp)
       have hu:(S11.out (· = i2)) ic=some (.cells [.slice (([]:List CIns).map cIns) (.tag i1),.slice (cI st) (.tag i2),dI main]):=D8 aj.oc n02
       have uc:=aj.oc
       have u2:=aj.o2
       refine gf hw ?_ [] [16]
       refine EO (id:=10) [0,1,2,3,4,5,6] [3,5] (S11.out (· = i2)) (BS _ _) ?_
       refine gf hu ?_ o88 [16]
       refine Ug (KR L[k] S11 (by omega)) (fun d S12 h=>?_) (fun d S12 h=>?_)
       rotate_left
       ·obtain⟨rfl,h⟩:=h
        cases hm:intP L[k]with
        |some v=>rw[hm]at h;cases h
        |none=>
         rw[hm]at h hM
         cases h
         simp only[Option.map_none]at hM
         rw[hS,hM]at ag
         intro V'
         refine gz ?_ o88 [16]
         exact finP (U':=S12) ⟨aj.keep,by rw[ag]⟩
       obtain⟨rfl,h⟩:=h
       cases hm:intP L[k]with
       |none=>rw[hm]at h;cases h
       | some v =>
        rw[hm]at h hM
        cases h
        refine⟨BS _ _,?_⟩
        dsimp only[putD]
        have bm:Sub (S12.out (· = i2)) (S12.set i2 (.tail 1 (st.length+1))):=fun j o hj=>by
         obtain⟨h1,h2⟩:=D4 hj
         rw[w7 _ _ h2];exact h1
        have ai:=aj.st_push am v
        refine gf (gi hu (gi u2 uc)) ?_ o88 [16]
        exact⟨k+1,st++[v],_,⟨by omega,by rw[List.length_append,List.length_singleton];omega,ai,by rw[hM];cases mapO intP (L.drop (k+1))<;>simp⟩,td1,wkR⟩
      ·have aX:L.drop k=[]:=List.drop_eq_nil_of_le (by omega)
       rw[aX,mapO]at hM
       simp only[Option.map_some,List.append_nil]at hM
       rw[hM]at hS
       have hK:=hK ⟨st,hS⟩
       rw[hS]at ah
       simp only[Option.getD_some]at ah
       subst ah
       refine gz ?_ o88 [16]
       exact Co (CN (by first|(simp;done)|(simp_all;done)) (aj.sub)) hK
    ·rintro⟨st,hS⟩
     rw[hS]at ah ag
     simp only[Option.getD_some]at ah ag
     subst ah
     have ai:=aj.of_rdB (ins':=[]) (st':=st0) (m':=main) aq am
     clear aj u1 hR
     generalize rdB ic i1 i2 [] st0 main O=S7 at*
     refine gz ?_ o88 [16]
     refine Bn ((Rs S7).any _) (fun d S8 h=>?_) (fun d S8 h=>by obtain⟨_,_,h,_⟩:=h;cases h)
     obtain⟨im,aU,hd,rfl⟩:=h
     cases hd
     have nim:∀o,S7 im=some o->False:=fun o h=>by rw[aU]at h;cases h
     have ae:RdS ic i1 i2 [] st0 main O (S7.set im (.map (eSN (Gi 21)))):=⟨by rw[w7 _ _ fun e=>nim _ (by rw[<-e];exact ai.oc)];exact ai.oc,by rw[w7 _ _ fun e=>nim _ (by rw[<-e];exact ai.o1)];exact ai.o1,by rw[w7 _ _ fun e=>nim _ (by rw[<-e];exact ai.o2)];exact ai.o2,ai.ne,fun j o h e=>by rw[w7 _ _ fun e2=>nim _ (by rw[<-e2];exact ai.keep j o h e)];exact ai.keep j o h e⟩
     have ap:(S7.set im (.map (eSN (Gi 21)))) im=some (.map (eSN (Gi 21))):=w6 ..
     have nic:ic≠im:=fun e=>nim _ (by rw[<-e];exact ai.oc)
     have ni1:i1≠im:=fun e=>nim _ (by rw[<-e];exact ai.o1)
     clear ai
     generalize bf:Gi 21=KM at*
     generalize S7.set im (.map (eSN KM))=S8 at*
     refine gz ?_ o88 [16]
     refine Ft [1,8,59,60,98,99,100] (fun (k:Nat) (ins:List CIns) (S9:Sig)=>k<=ls.length/\ins.length<=k/\RdS ic i1 i2 ins st0 main O S9/\S9 im=some (.map (eSN KM))/\mapO (EI intP) ls=(mapO (EI intP) (ls.drop k)).map (ins ++ ·)) (fun k _ _=>[(61,dI k)]) (fun _ _ S9=>S9) (fun k _ _=>ls.length-k) (0) ([]) (S8) (by exact⟨by omega,by simp,ae,ap,by rw[List.drop_zero];cases mapO (EI intP) ls<;>rfl⟩) (fun k ins S9 hI=>?_)
     clear ae ap
     obtain⟨hk,bl,ae,ap,hM⟩:=hI
     by_cases aE:k<ls.length
     ·have bj:=bn _ (List.getElem_mem aE)
      have hw:ls[k]? = some ls[k]:=List.getElem?_eq_getElem aE
      rw[O1 (EI intP) ls k aE]at hM
      refine gf hw ?_ o88 [16]
      refine Bn (LV ls[k] [32] S9 (by omega)) (fun d S10 h=>?_) (fun d S10 h=>by cases h.1)
      obtain⟨h1,rfl⟩:=h
      cases h1
      rw[cut_one]
      have aa:EI intP ls[k]=match cut1 ls[k]with
       |none=>(match opW ls[k]with
        |none=>none
        |some op=>if hasA op then none else some ⟨op,0⟩)
       | some (w,a)=>match opW w with
        |none=>none
        |some op=>if hasA op then(match intP a with
         |none=>none
         |some n=>some ⟨op,n⟩) else none:=by unfold EI;rfl
      have ar:EI intP ls[k]=none->EG intP s=none:=fun h=>by rw[h]at hM;simp only[Option.map_none]at hM;rw[ag,hM]
      have u1:=ae.oc
      have u2:=ae.o1
      have bd:∀x i5 z,EI intP ls[k]=some x->S10 i5=none->z=((S10.set i5 (.cells (cIns x))).set i1 (.tail 2 (ins.length+1))).set ic (.cells [.slice (ins.map cIns++[cIns x]) (.tag i1),.slice (cI st0) (.tag i2),dI main])->RdS ic i1 i2 (ins++[x]) st0 main O z/\z im=some (.map (eSN KM))/\mapO (EI intP) ls=(mapO (EI intP) (ls.drop (k+1))).map ((ins++[x]) ++ ·):=fun x i5 z hx h5 hz=>by
       have nn:∀j o,S10 j=some o->j≠i5:=fun j o h e=>by rw[e,h5]at h;cases h
       have aL:RdS ic i1 i2 ins st0 main O (S10.set i5 (.cells (cIns x))):=⟨by rw[w7 _ _ (nn _ _ ae.oc)];exact ae.oc,by rw[w7 _ _ (nn _ _ ae.o1)];exact ae.o1,by rw[w7 _ _ (nn _ _ ae.o2)];exact ae.o2,ae.ne,fun j o h e=>by rw[w7 _ _ (nn _ _ (ae.keep j o h e))];exact ae.keep j o h e⟩
       subst hz
       exact⟨aL.ins_push aq x,by rw[w7 _ _ nic.symm,w7 _ _ ni1.symm,w7 _ _ (nn _ _ ap)];exact ap,by rw[hM,hx];cases mapO (EI intP) (ls.drop (k+1))<;>simp⟩
      cases hc:cut1 ls[k]with
      | none =>
       rw[hc]at aa
       simp only[Qu,bf]at aa
       dsimp only[putD]
       cases hh:hasM ls[k] KM with
       |false=>
        rw[hh]at aa
        repeat' first|((exact finP (U':=S10) ⟨ae.keep,by rw[ar (by rw[aa];rfl)]⟩))|refine gf (gi ap hh) ?_ o88 [16]|apply gy<;>intro hh
       | true =>
        rw[hh]at aa
        simp only[if_true]at aa
        obtain⟨op,ax⟩:∃op,getM 0 ls[k] KM=op:=⟨_,rfl⟩
        rw[ax]at aa
        cases hA:hasA op with
        |true=>
         rw[hA]at aa
         repeat' first|((exact finP (U':=S10) ⟨ae.keep,by rw[ar (by rw[aa];rfl)]⟩))|refine gf (gi ap (gi hh (gi ax hA))) ?_ o88 [16]|apply gy<;>intro hh
        |false=>
         rw[hA]at aa
         refine gf (gi ap (gi hh (gi ax hA))) ?_ o88 [16]
         refine newV (fun i5 ak=>?_)
         dsimp only[putD]
         refine gz ?_ o88 [16]
         have hz:=bd ⟨op,0⟩ i5 _ aa ak rfl
         change RdS ic i1 i2 (ins++[⟨op,0⟩]) st0 main O (((S10.set i5 (.cells [dI op,dI 0])).set i1 (.tail 2 (ins.length+1))).set ic (.cells [.slice (ins.map cIns++[[dI op,dI 0]]) (.tag i1),.slice (cI st0) (.tag i2),dI main]))/\(((S10.set i5 (.cells [dI op,dI 0])).set i1 (.tail 2 (ins.length+1))).set ic (.cells [.slice (ins.map cIns++[[dI op,dI 0]]) (.tag i1),.slice (cI st0) (.tag i2),dI main])) im=_/\_ at hz
         have v1:(S10.set i5 (.cells [dI op,dI 0])) ic=some (.cells [.slice (ins.map cIns) (.tag i1),.slice (cI st0) (.tag i2),dI main]):=by rw[w7 _ _ (fun e=>by rw[<-e,u1]at ak;cases ak)];exact u1
         have v2:(S10.set i5 (.cells [dI op,dI 0])) i1=some (.tail 2 ins.length):=by rw[w7 _ _ (fun e=>by rw[<-e,u2]at ak;cases ak)];exact u2
         have v5:(S10.set i5 (.cells [dI op,dI 0])) i5=some (.cells [dI op,dI 0]):=w6 ..
         change DOps _ _ _ _ _ _ ⟨_,S10.set i5 (.cells [dI op,dI 0]),_⟩
         generalize S10.set i5 (.cells [dI op,dI 0])=S11 at*
         refine gf (gi v1 (gi v2 v5)) ?_ o88 [16]
         exact⟨k+1,ins++[⟨op,0⟩],_,⟨by omega,by rw[List.length_append,List.length_singleton];omega,hz.1,hz.2.1,hz.2.2⟩,td1,wkR⟩
      | some z =>
       obtain⟨w,a⟩:=z
       rw[hc]at aa
       simp only[Qu,bf]at aa
       dsimp only[putD]
       cases hh:hasM w KM with
       |false=>
        rw[hh]at aa
        repeat' first|((exact finP (U':=S10) ⟨ae.keep,by rw[ar (by rw[aa];rfl)]⟩))|refine gf (gi ap hh) ?_ o88 [16]|apply gy<;>intro hh
       | true =>
        rw[hh]at aa
        simp only[if_true]at aa
        obtain⟨op,ax⟩:∃op,getM 0 w KM=op:=⟨_,rfl⟩
        rw[ax]at aa
        cases hA:hasA op with
        |false=>
         rw[hA]at aa
         repeat' first|((exact finP (U':=S10) ⟨ae.keep,by rw[ar (by rw[aa];rfl)]⟩))|refine gf (gi ap (gi hh (gi ax hA))) ?_ o88 [16]|apply gy<;>intro hh
        | true =>
         rw[hA]at aa
         refine gf (gi ap (gi hh (gi ax hA))) ?_ o88 [16]
         refine newV (fun i5 ak=>?_)
         dsimp only[putD]
         have aY:=congrArg List.length (IU _ _ _ hc)
         simp only[List.length_append,List.length_cons]at aY
         refine gz ?_ o88 [16]
         refine Bn (KR a _ (by omega)) (fun d S11 h=>?_) (fun d S11 h=>?_)
         rotate_left
         ·obtain⟨rfl,h⟩:=h
          cases hm2:intP a with
          |some v=>rw[hm2]at h;cases h
          |none=>
           rw[hm2]at h aa
           cases h
           refine gz ?_ o88 [16]
           refine finP (U':=S10.set i5 (.cells [dI op,dI 0])) ⟨fun j o h e=>?_,by rw[ar (by rw[aa];rfl)]⟩
           have h2:=ae.keep j o h e
           rw[w7 _ _ (As h2 ak)];exact h2
         obtain⟨rfl,h⟩:=h
         cases hm2:intP a with
         |none=>rw[hm2]at h;cases h
         |some v=>
          rw[hm2]at h aa
          cases h
          simp only[if_true]at aa
          dsimp only[putD]
          refine gz ?_ o88 [16]
          have hz:=bd ⟨op,v⟩ i5 _ aa ak rfl
          change RdS ic i1 i2 (ins++[⟨op,v⟩]) st0 main O (((S10.set i5 (.cells [dI op,dI v])).set i1 (.tail 2 (ins.length+1))).set ic (.cells [.slice (ins.map cIns++[[dI op,dI v]]) (.tag i1),.slice (cI st0) (.tag i2),dI main]))/\(((S10.set i5 (.cells [dI op,dI v])).set i1 (.tail 2 (ins.length+1))).set ic (.cells [.slice (ins.map cIns++[[dI op,dI v]]) (.tag i1),.slice (cI st0) (.tag i2),dI main])) im=_/\_ at hz
          have v1:(S10.set i5 (.cells [dI op,dI v])) ic=some (.cells [.slice (ins.map cIns) (.tag i1),.slice (cI st0) (.tag i2),dI main]):=by rw[w7 _ _ (fun e=>by rw[<-e,u1]at ak;cases ak)];exact u1
          have v2:(S10.set i5 (.cells [dI op,dI v])) i1=some (.tail 2 ins.length):=by rw[w7 _ _ (fun e=>by rw[<-e,u2]at ak;cases ak)];exact u2
          have v5:(S10.set i5 (.cells [dI op,dI v])) i5=some (.cells [dI op,dI v]):=w6 ..
          change DOps _ _ _ _ _ _ ⟨_,S10.set i5 (.cells [dI op,dI v]),_⟩
          generalize S10.set i5 (.cells [dI op,dI v])=S11 at*
          refine gf (gi v1 (gi v2 v5)) ?_ o88 [16]
          exact⟨k+1,ins++[⟨op,v⟩],_,⟨by omega,by rw[List.length_append,List.length_singleton];omega,hz.1,hz.2.1,hz.2.2⟩,td1,wkR⟩
     ·have aX:ls.drop k=[]:=List.drop_eq_nil_of_le (by omega)
      rw[aX,mapO]at hM
      simp only[Option.map_some,List.append_nil]at hM
      rw[hM]at ag
      simp only at ag
      refine Co (DH (i:=ic) (az:=[]) (bs:=[.slice (cI st0) (.tag i2),dI main]) (d:=.slice (ins.map cIns) (.tag i1)) (d':=sl (ins.map cIns)) ae.oc (BF _ _)) ?_
      refine Co (DH (i:=ic) (az:=[sl (ins.map cIns)]) (bs:=[dI main]) (d:=.slice (cI st0) (.tag i2)) (d':=sl (cI st0)) (w6 ..) (BF _ _)) ?_
      simp only[Sig.set_set,List.nil_append,List.singleton_append]
      have o9:(S9.set ic (.cells [sl (ins.map cIns),sl (cI st0),dI main])) ic=some (.cells (cCPg ⟨ins,st0,main⟩)):=w6 ..
      have k9:∀j o,O j=some o->j≠ic->(S9.set ic (.cells [sl (ins.map cIns),sl (cI st0),dI main])) j=some o:=fun j o h e=>by rw[w7 _ _ e];exact ae.keep j o h e
      generalize S9.set ic (.cells [sl (ins.map cIns),sl (cI st0),dI main])=S10 at*
      have bk:=Qp hS
      have i70:∀O,Ans 70 [.agg (cCPg ⟨ins,st0,main⟩)] O True (.bool (AG ⟨ins,st0,main⟩)):=fun O=>ah0 (Ok ⟨ins,st0,main⟩ O (by simp only;omega) (by simp only;omega))
      cases hp:AG ⟨ins,st0,main⟩with
      |false=>
       rw[if_neg (by rw[hp];simp)]at ag
       repeat' first|((exact finP (U':=S10) ⟨k9,by rw[ag]⟩))|refine gf (gi o9 hp) ?_ o88 [16]|apply gy<;>intro hh
      |true=>
       rw[if_pos hp]at ag
       refine gf (gi o9 hp) ?_ o88 [16]
       refine DZ (U':=S10) ⟨k9,by rw[ag];exact⟨rfl,o9⟩⟩
def rdT(s:Str):CProg×Int:=if s.length<=5000 then(match EG intP s with
 |none=>(zC,4)
 |some c=>(c,0)) else(zC,3)
theorem UV(s:Str)(O:Sig)(hs:s.length<=1073741824):BL prog 42 [.str s] O (rS (.tup [.agg (cCPg (rdT s).1),dI (rdT s).2]) O):=by
 refine enW func42 ntmps42 ?_
 by_cases hl:s.length<=5000
 rotate_left
 ·have hr:rdT s=(zC,3):=by unfold rdT;rw[if_neg hl]
  rw[hr]
  refine gz ?_ [] [2,4]
  refine newV (fun i hi=>?_)
  refine gf hl ?_ [] [2,4]
  refine finC (U':=O) (d:=.tup [.agg (cCPg zC),dI 3]) ⟨rfl,rfl⟩ (hw:=?_)
  exact PS _
 ·have aJ:EG intP s=none->rdT s=(zC,4):=fun h=>by unfold rdT;rw[if_pos hl,h]
  have aQ:∀c,EG intP s=some c->rdT s=(c,0):=fun c h=>by unfold rdT;rw[if_pos hl,h]
  refine gz ?_ [] [2,4]
  refine newV (fun i2 am=>?_)
  refine gf hl ?_ [] [2,4]
  refine newV (fun i4 bu=>?_)
  refine gz ?_ [] [2,4]
  obtain⟨n24,aH⟩:=B5 bu
  have o4:((O.set i2 (.cells [.nils,.nils,dI 0])).set i4 (.cells [.nils,.nils,dI 0])) i4=some (.cells [.nils,.nils,dI 0]):=w6 ..
  have o2:((O.set i2 (.cells [.nils,.nils,dI 0])).set i4 (.cells [.nils,.nils,dI 0])) i2=some (.cells [.nils,.nils,dI 0]):=by rw[w7 _ _ n24.symm,w6]
  have hS:Sub O ((O.set i2 (.cells [.nils,.nils,dI 0])).set i4 (.cells [.nils,.nils,dI 0])):=((Sub.refl _).set am).set aH
  change DOps _ _ _ _ _ _ ⟨_,(O.set i2 (.cells [.nils,.nils,dI 0])).set i4 (.cells [.nils,.nils,dI 0]),_⟩
  generalize (O.set i2 (.cells [.nils,.nils,dI 0])).set i4 (.cells [.nils,.nils,dI 0])=S0 at*
  have aT:∀i,S0 i=none->i≠i4:=fun i hi e=>by rw[e,o4]at hi;cases hi
  refine Bn (Rt 88 [.cptr [.str s] 0,.ptr i4 0] S0 (fun U1=>RdT s i4 U1) (fun i hi=>UF s i4 _ hl (by rw[w7 _ _ (aT i hi).symm];exact o4)) (fun U1 d U2 h=>?_) (fun i U2 x hi h=>h.1 i _ (w6 ..) (aT i hi))) (fun d U' aD=>?_) (fun d U' aD=>?_)
  ·obtain⟨_,h⟩:=h
   split at h
   ·simpa using h
   ·exact absurd h.1 (by simp)
  ·obtain⟨i,U2,hi,rfl,aD⟩:=aD
   have aK:∀j o,S0 j=some o->j≠i4->(S0.set i (.cells [.bool false])) j=some o/\j≠i:=fun j o hj e=>by
    have e2:j≠i:=fun e2=>by rw[e2,hi]at hj;cases hj
    exact⟨by rw[w7 _ _ e2];exact hj,e2⟩
   rcases aD with⟨e,⟨hK,h⟩,h2⟩|⟨⟨hK,h⟩,h2⟩
   ·cases h2
    split at h
    ·cases h
    ·rename_i c hc
     obtain⟨_,ho⟩:=h
     have aF:∀j o,S0 j=some o->j≠i4->(U2.del i) j=some o:=fun j o hj e=>by
      obtain⟨q1,q2⟩:=aK j o hj e
      simp only[Sig.del,q2,if_false];exact hK j o q1 e
     have p2:=aF _ _ o2 n24.symm
     have p4:(U2.del i) i4=some (.cells (cCPg c)):=by simp only[Sig.del,(aT i hi).symm,if_false];exact ho
     have pS:∀j o,O j=some o->j≠i4->(U2.del i) j=some o:=fun j o hj e=>aF j o (hS j o hj) e
     generalize U2.del i=S3 at*
     refine gf (gi p2 p4) ?_ [] [2,4]
     refine finC (U':=O) (d:=.tup [.agg (cCPg (rdT s).1),dI (rdT s).2]) ⟨rfl,rfl⟩ (hw:=?_) (hU:=fun j o hj=>?_)
     ·rw[aQ c hc];exact A8 _
     ·have e2:=As hj am
      have e4:=As hj aH
      rw[w7 _ _ e2];exact pS j o hj e4
   ·cases h2
    split at h
    ·rename_i hc
     have aF:∀j o,S0 j=some o->j≠i4->(U2.del i) j=some o:=fun j o hj e=>by
      obtain⟨q1,q2⟩:=aK j o hj e
      simp only[Sig.del,q2,if_false];exact hK j o q1 e
     have p2:=aF _ _ o2 n24.symm
     have pS:∀j o,O j=some o->j≠i4->(U2.del i) j=some o:=fun j o hj e=>aF j o (hS j o hj) e
     generalize U2.del i=S3 at*
     refine gf p2 ?_ [] [2,4]
     refine finC (U':=O) (d:=.tup [.agg (cCPg (rdT s).1),dI (rdT s).2]) ⟨rfl,rfl⟩ (hw:=?_) (hU:=fun j o hj=>?_)
     ·rw[aJ hc];exact PS _
     ·have e2:=As hj am
      have e4:=As hj aH
      rw[w7 _ _ e2];exact pS j o hj e4
    ·exact absurd h.1 (by simp)
  ·obtain⟨i,U2,hi,rfl,aD⟩:=aD
   rcases aD with⟨e,_,h2⟩|⟨_,h2⟩<;>cases h2
theorem Q9: ∀(q:Nat) (b:Bool) (f:Str),(stF q b f).1.length<=q
 |0,_,_=>by simp[stF]
 | q+1,b,f=>by
  rw[stF]
  split
  ·simp
  ·split
   ·simp
   ·have:=Q9 q (cutP 32 f).2.2 (cutP 32 f).2.1
    simp only[List.length_cons];omega
theorem Qa: ∀(q:Nat) (f:Str),stF q false f=([],0)
 |0,_=>rfl
 |q+1,_=>by rw[stF,if_pos rfl]
theorem LK: ∀(q:Nat) (t:Str),(Gh q t).length<=q
 |0,_=>by simp[Gh]
 | q+1,t=>by
  rw[Gh]
  split
  ·simp
  ·have:=LK q (cutP 10 t).2.1
   simp only[List.length_cons];omega
theorem R7(q:Nat):Gh q []=[]:=by cases q with|zero=>rfl|succ q=>rw[Gh,if_pos rfl]
theorem UU(s:Str)(O:Sig)(hs:s.length<=1073741824):DCall prog 43 [.str s] O (rS (.tup [.agg (cCPg (rdT s).1),dI (rdT s).2]) O):=by
 refine en func43 ntmps43 ?_
 by_cases hl:s.length<=5000
 rotate_left
 ·have hr:rdT s=(zC,3):=by unfold rdT;rw[if_neg hl]
  rw[hr]
  refine gz ?_ o43 [2,4,14]
  refine newV (fun i hi=>?_)
  refine gf hl ?_ o43 [2,4,14]
  refine finC (U':=O) (d:=.tup [.agg (cCPg zC),dI 3]) ⟨rfl,rfl⟩ (hw:=?_)
  exact PS _
 have aJ:EG intP s=none->rdT s=(zC,4):=fun h=>by unfold rdT;rw[if_pos hl,h]
 have aQ:∀c,EG intP s=some c->rdT s=(c,0):=fun c h=>by unfold rdT;rw[if_pos hl,h]
 have aC:=rt_find s
 have aM:Nl s=⟨Gh (cutP 10 s).2.1.length (cutP 10 s).2.1,(stF ((cutP 10 s).1.length+1) true (cutP 10 s).1).1,(stF ((cutP 10 s).1.length+1) true (cutP 10 s).1).2⟩:=rfl
 obtain⟨b1,b2, -, -⟩:=GF 10 s
 have i95:∀O,Ans 95 [.str s,.int .u8 10] O True (cutD 10 s):=fun O=>ah0 (HA s 10 O (by omega))
 unfold cutD at i95
 generalize cutP 10 s=Z at*
 obtain⟨l0,rest,ff⟩:=Z
 simp only at b1 b2 aM i95
 have tl1:=Q9 (l0.length+1) true l0
 have tl2:=LK rest.length rest
 generalize hS:stF (l0.length+1) true l0=S at*
 obtain⟨S1,S2⟩:=S
 generalize hL:Gh rest.length rest=L at*
 simp only at aM tl1 tl2
 rw[aM]at aC
 clear aM
 refine gz ?_ o43 [2,4,14]
 refine newV (fun i2 am=>?_)
 refine gf hl ?_ o43 [2,4,14]
 refine newV (fun ic bt=>?_)
 obtain⟨n2c,aG⟩:=B5 bt
 have nc2:=n2c.symm
 have aN:((O.set i2 (.cells [.nils,.nils,dI 0])).set ic (.cells [.nils,.nils,dI 0])) ic=some (.cells [.nils,.nils,dI 0]):=w6 ..
 have bD:((O.set i2 (.cells [.nils,.nils,dI 0])).set ic (.cells [.nils,.nils,dI 0])) i2=some (.cells [.nils,.nils,dI 0]):=by rw[w7 _ _ nc2,w6]
 have bC:Sub O ((O.set i2 (.cells [.nils,.nils,dI 0])).set ic (.cells [.nils,.nils,dI 0])):=((Sub.refl _).set am).set aG
 change DOps _ _ _ _ _ _ ⟨_,(O.set i2 (.cells [.nils,.nils,dI 0])).set ic (.cells [.nils,.nils,dI 0]),_⟩
 generalize (O.set i2 (.cells [.nils,.nils,dI 0])).set ic (.cells [.nils,.nils,dI 0])=S0 at*
 repeat ((fail_if_success (first|(refine dwp_tagcell ic 0 2 aN rfl (fun i1 aq=>?_))|fail));(refine goX1 trivial ?_))
 refine dwp_tagcell ic 0 2 aN rfl (fun i1 aq=>?_)
 refine dwp_tagcell ic 1 1 (w6 ..) rfl (fun i3 ay=>?_)
 obtain⟨m1,ay⟩:=B5 ay
 obtain⟨m2,ay⟩:=B5 ay
 have m3:ic≠i1:=fun e=>by rw[e,aq]at aN;cases aN
 have hR:RdS ic i1 i3 [] [] 0 S0 ((((S0.set i1 (.tail 2 0)).set ic (.cells ([.nils,.nils,dI 0].set 0 (.slice [] (.tag i1))))).set i3 (.tail 1 0)).set ic (.cells (([.nils,.nils,dI 0].set 0 (.slice [] (.tag i1))).set 1 (.slice [] (.tag i3))))):=
  ⟨w6 .., by rw[w7 _ _ m3.symm,w7 _ _ m2.symm,w7 _ _ m3.symm,w6];rfl,by rw[w7 _ _ m1,w6];rfl,m2.symm,fun j o h e=>by rw[w7 _ _ e,w7 _ _ (As h ay),w7 _ _ e,w7 _ _ (As h aq)];exact h⟩
 generalize (((S0.set i1 (.tail 2 0)).set ic (.cells ([.nils,.nils,dI 0].set 0 (.slice [] (.tag i1))))).set i3 (.tail 1 0)).set ic (.cells (([.nils,.nils,dI 0].set 0 (.slice [] (.tag i1))).set 1 (.slice [] (.tag i3))))=U1 at hR
 repeat ((fail_if_success (first|(refine dwp_cut1 (x1:=.seq _ (.block 0 _)) ([37,36,35,34,33,32,31,30,29,28,27,26,9,8,5,25,24,23,22,21,20,18,17,16,7].map fun k=>(k,D.any)) (rdB ic i1 i3 [] S1 S2 S0) ?_ (fun _ hK=>?_))|fail));(refine goX1 trivial ?_))
 refine dwp_cut1 (x1:=.seq _ (.block 0 _)) ([37,36,35,34,33,32,31,30,29,28,27,26,9,8,5,25,24,23,22,21,20,18,17,16,7].map fun k=>(k,D.any)) (rdB ic i1 i3 [] S1 S2 S0) ?_ (fun _ hK=>?_)
 rotate_left
 ·refine gz ?_ o43 [2,4,14]
  refine loop5 [0,2,3,4,6,10,11,12,13,14,15,45,46,47,48,49,50,51,52,53,54,55,56,57,58,59,60,61,62,63,64,65,66,67,68,69,70,71,72,73,74,75,76,77,78,79,80,81,82,83,84,85,86,87,88,89,90,91,92,93] (fun (q:Nat) (b:Bool) (f:Str) (st:List Int) (U2:Sig)=>RdS ic i1 i3 [] st 0 S0 U2/\f.length<=5000/\(b=true->f.length<q)/\S1=st++(stF q b f).1/\S2=(stF q b f).2/\st.length+q<=5001) (fun _ b f _ _=>[(8,.bool b),(5,.str f)]) (fun _ _ _ _ U2=>U2) (fun q _ _ _ _=>q) (l0.length+1) (true) (l0) ([]) (U1) (by exact⟨hR,by omega,fun _=>by omega,by rw[hS];rfl,by rw[hS],by simp;omega⟩) (fun q b f st U2 hI=>?_)
  clear hR
  obtain⟨hR,bK,be,aw,au,bH⟩:=hI
  cases b with
  |false=>
   rw[Qa]at aw au
   simp only[List.append_nil]at aw au
   subst aw au
   refine gz ?_ o43 [2,4,14]
   exact Co (CN (by first|(simp;done)|(simp_all;done)) (hR.sub)) hK
  | true =>
   have be:=be rfl
   obtain⟨j,rfl⟩:∃j,q=j+1:=⟨q-1,by omega⟩
   rw[stF,if_neg (by simp)]at aw au
   obtain⟨d1,d2, -, d4⟩:=GF 32 f
   have i95:∀O,Ans 95 [.str f,.int .u8 32] O True (cutD 32 f):=fun O=>ah0 (HA f 32 O (by omega))
   unfold cutD at i95
   generalize cutP 32 f=Z at*
   obtain⟨w,r,fb⟩:=Z
   simp only at d1 d2 d4 i95 aw au
   have u1:=hR.oc
   have u2:=hR.o2
   by_cases hw:w=[58]
   ·rw[if_pos hw]at aw au
    simp only[List.append_nil]at aw au
    have aA:=decide_eq_true hw
    have i96:∀O,Ans 96 [.str r] O True (dI (intX r)):=fun O=>ah0 (KQ r O (by omega))
    rw[<-au]at i96
    subst aw
    have ae:RdS ic i1 i3 [] S1 S2 S0 (U2.set ic (.cells [.slice [] (.tag i1),.slice (cI S1) (.tag i3),dI S2])):=⟨w6 .., by rw[w7 _ _ m3.symm];exact hR.o1,by rw[w7 _ _ (DK hR.oc hR.o2 (by simp)).symm];exact hR.o2,hR.ne,fun j o h e=>by rw[w7 _ _ e];exact hR.keep j o h e⟩
    refine gf (gi aA u1) ?_ o43 [2,4,14]
    exact Co (CN (by first|(simp;done)|(simp_all;done)) (ae.sub)) hK
   ·rw[if_neg hw]at aw au
    simp only at aw au
    have aA:=decide_eq_false hw
    have bB:=KQ w U2 (by omega)
    generalize intX w=m at*
    have n02:ic≠i3:=DK hR.oc hR.o2 (by simp)
    have hu:(U2.out (· = i3)) ic=some (.cells [.slice (([]:List CIns).map cIns) (.tag i1),.slice (cI st) (.tag i3),dI 0]):=D8 hR.oc n02
    refine gf aA ?_ [] [2,4,14]
    refine EO (id:=11) [0,1,2,3,4,5,6] [3,5] (U2.out (· = i3)) (BS _ _) ?_
    refine gf hu ?_ o43 [2,4,14]
    refine BG bB (fun d S5 h=>?_) (fun d S5 h=>by cases h.1)
    obtain⟨h1,rfl⟩:=h
    cases h1
    refine⟨BS _ _,?_⟩
    dsimp only[putD]
    have bm:Sub (S5.out (· = i3)) (S5.set i3 (.tail 1 (st.length+1))):=fun j o hj=>by
     obtain⟨h1,h2⟩:=D4 hj
     rw[w7 _ _ h2];exact h1
    refine gf (gi hu (gi u2 u1)) ?_ o43 [2,4,14]
    exact⟨j,fb,r,st++[m],_,⟨hR.st_push ay m,by omega,fun h=>by have:=d4 h;omega,by rw[aw];simp,au,by rw[List.length_append,List.length_singleton];omega⟩,td1,wkR⟩
 ·have ai:=hR.of_rdB (ins':=[]) (st':=S1) (m':=S2) aq ay
  clear hR
  generalize rdB ic i1 i3 [] S1 S2 S0=U2 at*
  refine dwp_cut1 (x1:=.block 2 _) ([46,45,6].map fun k=>(k,D.any)) (rdB ic i1 i3 L S1 S2 S0) ?_ (fun _ hK=>?_)
  rotate_left
  ·refine gz ?_ o43 [2,4,14]
   refine Pb [0,2,3,4,83,84,85,86,87,88,89,90,91,92,93] (fun (q:Nat) (t:Str) (ins:List CIns) (S4:Sig)=>RdS ic i1 i3 ins S1 S2 S0 S4/\t.length<=q/\ins.length+q<=5000/\L=ins++Gh q t) (fun _ t _ _=>[(6,.str t)]) (fun _ _ _ S4=>S4) (fun q _ _ _=>q) (rest.length) (rest) ([]) (U2) (by exact⟨ai,by omega,by simp;omega,by rw[hL];rfl⟩) (fun q t ins S4 hI=>?_)
   clear ai
   obtain⟨hR,bF,bJ,hT⟩:=hI
   by_cases ht:t=[]
   ·rw[ht,R7,List.append_nil]at hT
    subst hT
    have aO:=decide_eq_true ht
    refine gf aO ?_ o43 [2,4,14]
    exact Co (CN (by first|(simp;done)|(simp_all;done)) (hR.sub)) hK
   ·have aO:=decide_eq_false ht
    have bG:0<t.length:=List.length_pos_iff.2 ht
    obtain⟨j,rfl⟩:∃j,q=j+1:=⟨q-1,by omega⟩
    rw[Gh,if_neg ht]at hT
    obtain⟨d1,d2,d3, -⟩:=GF 10 t
    have d3:=d3 ht
    have i95:∀O,Ans 95 [.str t,.int .u8 10] O True (cutD 10 t):=fun O=>ah0 (HA t 10 O (by omega))
    unfold cutD at i95
    generalize cutP 10 t=Z at*
    obtain⟨line,t2,fb⟩:=Z
    simp only at d1 d2 d3 i95 hT
    unfold insL at hT
    obtain⟨e1,e2, -, -⟩:=GF 32 line
    have i95b:∀O,Ans 95 [.str line,.int .u8 32] O True (cutD 32 line):=fun O=>ah0 (HA line 32 O (by omega))
    unfold cutD at i95b
    generalize cutP 32 line=Z at*
    obtain⟨w,num,fc⟩:=Z
    simp only at e1 e2 i95b hT
    have i96:∀O,Ans 96 [.str num] O True (dI (intX num)):=fun O=>ah0 (KQ num O (by omega))
    generalize intX num=a at*
    refine gf aO ?_ o43 [2,4,14]
    refine newV (fun i5 ak=>?_)
    have nn:∀o,S4 i5=some o->False:=fun o h=>by rw[ak]at h;cases h
    have n5c:i5≠ic:=fun e=>nn _ (by rw[e];exact hR.oc)
    have n51:i5≠i1:=fun e=>nn _ (by rw[e];exact hR.o1)
    have n53:i5≠i3:=fun e=>nn _ (by rw[e];exact hR.o2)
    have n5k:∀j o,S0 j=some o->j≠ic->j≠i5:=fun j o h e e2=>nn _ (by rw[<-e2];exact hR.keep j o h e)
    have bA:∀z,RdS ic i1 i3 ins S1 S2 S0 (S4.set i5 z):=fun z=>⟨by rw[w7 _ _ n5c.symm];exact hR.oc,by rw[w7 _ _ n51.symm];exact hR.o1,by rw[w7 _ _ n53.symm];exact hR.o2,hR.ne,fun j o h e=>by rw[w7 _ _ (n5k j o h e)];exact hR.keep j o h e⟩
    have bE:wordsC.length=21:=rfl
    refine gz ?_ o43 [2,4,14]
    refine D7 [0,2,3,4,6,10,11,12,13,14,45,46,47,48,49,50,51,52,53,54,55,56,57,58,59,60,61,77,78,79,80,81,82,83,84,85,86,87,88,89,90,91,92,93] (fun (k:Nat) (op:Int)=>k<=21/\op=opK w k) (fun k _=>[(15,dI k)]) (fun _ op=>S4.set i5 (.cells [dI op,dI a])) (fun k _=>21-k) (0) (0) (by exact⟨Nat.zero_le _,rfl⟩) (fun k op hI=>?_)
    obtain⟨br,ax⟩:=hI
    have o5:(S4.set i5 (.cells [dI op,dI a])) i5=some (.cells [dI op,dI a]):=w6 ..
    by_cases hk:k<21
    ·have aF:k<wordsC.length:=by omega
     have hg:=List.getElem?_eq_getElem aF
     by_cases hw:wordsC[k]=w
     ·have aA:=decide_eq_true hw
      have ho:opK w (k+1)=(k:Int)+1:=by rw[opK,hg,if_pos (by rw[hw])]
      refine gf (gi aA o5) ?_ o43 [2,4,14]
      exact⟨k+1,1+(k:Int),⟨by omega,by rw[ho];omega⟩,td1,wkR⟩
     ·have aA:=decide_eq_false hw
      have ho:opK w (k+1)=opK w k:=by rw[opK,hg,if_neg (fun e=>hw (Option.some.inj e))]
      refine gf (gi aA o5) ?_ o43 [2,4,14]
      exact⟨k+1,op,⟨by omega,by rw[ho];exact ax⟩,td1,wkR⟩
    ·have bq:k=21:=by omega
     subst bq
     rw[<-ax]at hT
     have aL:=bA (.cells [dI op,dI a])
     change DWp _ _ _ _ _ ⟨_,S4.set i5 (.cells [dI op,dI a]),_⟩
     generalize S4.set i5 (.cells [dI op,dI a])=S5 at*
     have u1:=aL.oc
     have u2:=aL.o1
     refine gf (gi o5 (gi u1 u2)) ?_ o43 [2,4,14]
     exact⟨j,t2,ins++[⟨op,a⟩],_,⟨aL.ins_push aq ⟨op,a⟩,by omega,by rw[List.length_append,List.length_singleton];omega,by rw[hT];simp⟩,td1,wkR⟩
  ·have ba:=ai.of_rdB (ins':=L) (st':=S1) (m':=S2) aq ay
   clear ai
   generalize rdB ic i1 i3 L S1 S2 S0=S4 at*
   refine Co (DH (i:=ic) (az:=[]) (bs:=[.slice (cI S1) (.tag i3),dI S2]) (d:=.slice (L.map cIns) (.tag i1)) (d':=sl (L.map cIns)) ba.oc (BF _ _)) ?_
   refine Co (DH (i:=ic) (az:=[sl (L.map cIns)]) (bs:=[dI S2]) (d:=.slice (cI S1) (.tag i3)) (d':=sl (cI S1)) (w6 ..) (BF _ _)) ?_
   simp only[Sig.set_set,List.nil_append,List.singleton_append]
   have o6:(S4.set ic (.cells [sl (L.map cIns),sl (cI S1),dI S2])) ic=some (.cells (cCPg ⟨L,S1,S2⟩)):=w6 ..
   have o62:(S4.set ic (.cells [sl (L.map cIns),sl (cI S1),dI S2])) i2=some (.cells [.nils,.nils,dI 0]):=by rw[w7 _ _ nc2];exact ba.keep _ _ bD nc2
   have bz:Sub O (S4.set ic (.cells [sl (L.map cIns),sl (cI S1),dI S2])):=fun j o hj=>by rw[w7 _ _ (As hj aG)];exact ba.keep _ _ (bC j o hj) (As hj aG)
   generalize S4.set ic (.cells [sl (L.map cIns),sl (cI S1),dI S2])=S6 at*
   have i74:∀O,Ans 74 [.agg (cCPg ⟨L,S1,S2⟩)] O True (.bool (AG ⟨L,S1,S2⟩)):=fun O=>ah0 (Oj ⟨L,S1,S2⟩ O (by simp only;omega) (by simp only;omega))
   have aI:∀z,Sub O (S6.set i2 z):=fun z j o hj=>by rw[w7 _ _ (As hj am)];exact bz j o hj
   cases hp:AG ⟨L,S1,S2⟩with
   |false=>
    rw[if_neg (by rw[hp];simp)]at aC
    refine gf (gi o6 (gi hp o62)) ?_ o43 [2,4,14]
    refine finC (U':=O) (d:=.tup [.agg (cCPg (rdT s).1),dI (rdT s).2]) ⟨rfl,rfl⟩ (hw:=?_) (hU:=aI _)
    rw[aJ aC];exact PS _
   | true =>
    have i87:∀O,Ans 87 [.agg (cCPg ⟨L,S1,S2⟩)] O True (.str (Cz ⟨L,S1,S2⟩)):=fun O=>ah0 (Oi ⟨L,S1,S2⟩ O hp)
    by_cases hb:Cz ⟨L,S1,S2⟩=s
    ·rw[if_pos ⟨hp,hb⟩]at aC
     have a8:=decide_eq_true hb
     refine gf (gi o6 (gi hp (gi o62 a8))) ?_ o43 [2,4,14]
     refine finC (U':=O) (d:=.tup [.agg (cCPg (rdT s).1),dI (rdT s).2]) ⟨rfl,rfl⟩ (hw:=?_) (hU:=aI _)
     rw[aQ _ aC];exact A8 _
    ·rw[if_neg (fun h=>hb h.2)]at aC
     have a8:=decide_eq_false hb
     refine gf (gi o6 (gi hp (gi o62 a8))) ?_ o43 [2,4,14]
     refine finC (U':=O) (d:=.tup [.agg (cCPg (rdT s).1),dI (rdT s).2]) ⟨rfl,rfl⟩ (hw:=?_) (hU:=aI _)
     rw[aJ aC];exact PS _
theorem rdT_ok(s:Str):((rdT s).1.ins.length<=300/\(rdT s).1.starts.length<=16)/\((rdT s).2=0->AG (rdT s).1=true/\Cz (rdT s).1=s):=by
 unfold rdT
 split
 ·split
  ·simp[zC]
  ·rename_i c h
   have h0:=(Lt Rb _ _).1 h
   obtain⟨h1,h2,_⟩:=(B6 c).1 h0.1
   exact⟨⟨h1,h2⟩,fun _=>h0⟩
 ·simp[zC]
theorem V4(c:CProg)(s:Str)(O:Sig)(h1:c.ins.length<=1073741824)(h2:c.starts.length<=1073741824)(hs:s.length<=1073741824):BL prog 11 [.agg (cCPg c),.str s] O fun x _=>x=.ret (.bool true):=by
 have bi:=fun O:Sig=>Ol c O h1 h2
 have bc:=fun O:Sig=>UW c O h1 h2
 have bh:=fun O:Sig=>UV s O hs
 have bb:=fun O:Sig=>UU s O hs
 obtain⟨⟨l1,l2⟩, -⟩:=rdT_ok s
 generalize rdT s=X at*
 obtain⟨C,e⟩:=X
 simp only at l1 l2 bh bb
 have i43:∀O,Ans 43 [.str s] O True (.tup [.agg (cCPg C),dI e]):=fun O=>ah0 (bb O)
 have i31:∀O,Ans 31 [.agg (cCPg C),.agg (cCPg C)] O True (.bool true):=fun O=>ah0 (by have:=UY C C O (by omega) (by omega) (by omega) (by omega);rw[OY]at this;exact this)
 obtain⟨b,eb,hb⟩:∃(b:Str) (eb:Int),(if AG c then D.tup [.str (Cz c),dI 0] else .tup [.str [],dI 2])=.tup [.str b,dI eb]:=by
  cases AG c
  ·exact⟨_,_,rfl⟩
  ·exact⟨_,_,rfl⟩
 rw[hb]at bi bc
 have i41:∀O,Ans 41 [.agg (cCPg c)] O True (.tup [.str b,dI eb]):=fun O=>ah0 (bc O)
 clear bc bb
 refine enW func11 ntmps11 ?_
 refine gz ?_
 refine Bn (bi O) (fun d U1 hr=>?_) (fun d U1 hr=>by cases hr.1)
 obtain⟨hd,rfl⟩:=hr
 cases hd
 dsimp only[putD]
 refine gz ?_
 refine Bn (bh U1) (fun d U2 hr=>?_) (fun d U2 hr=>by cases hr.1)
 obtain⟨hd,rfl⟩:=hr
 cases hd
 dsimp only[putD]
 refine gz ?_
 refine Tw (V3 U2) (fun d S3 hr=>?_) (fun d S3 hr=>by cases hr.1)
 obtain⟨hd,rfl⟩:=hr
 cases hd
 refine gz ?_
 exact fin1 (U':=S3) rfl (hU:=Sub.refl _)
end Go.DL
