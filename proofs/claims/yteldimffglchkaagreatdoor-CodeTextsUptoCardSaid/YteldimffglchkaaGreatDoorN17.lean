/- A part of the proof. -/
import Derived.Test.YteldimffglchkaaGreatDoorN16
import Derived.Test.YteldimffglchkaaGreatDoorN13
import Derived.Test.YteldimffglchkaaGreatDoorN15
import Derived.Stop.LaidErr
import Derived.Shelf.Vars
import Derived.LaidLaws
import Derived.Test.YteldimffglchkaaGreatDoorN11
import Derived.Shelf.Strings.Builder1
import Derived.Test.YteldimffglchkaaGreatDoorProg
import Derived.Shelf.LaysM
import Derived.Shelf.Strconv.Itoa3
import Derived.Test.YteldimffglchkaaGreatDoorN08
set_option linter.all false
namespace Go.DL
open Go.Proofs.Tryz
open Go Go.Proofs
set_option maxHeartbeats 8000000
def unfC:D:=.iface 245 (.agg [])
theorem UJ(b:Bool)(O:Sig):DCall prog 78 [.bool b] O fun x U'=>x=(if b then .ret (.tup []) else .panic unfC)/\U'=O:=by
 refine en func78 ntmps78 ?_
 cases b
 ·refine gz ?_
  refine pan ?_
  exact finP (U':=O) ⟨rfl,rfl⟩
 ·refine gz ?_
  exact DZ (U':=O) ⟨rfl,rfl⟩
@[reducible,instance] def a78:=fun b O=>gh0 (@UJ b O)
theorem Hg{P:Program}{F:Fence}{n:Nat}{Q:Exit->Act->List Frame->Go.World->Prop}{a:Act}{cs cs':List Frame}{w:Go.World}{id t4 ty1:Nat}{p1:String}{a1:Array Edge}{rest:Code}{v:Value}
  (aQ:recoverD cs=some (v,cs')\/(recoverD cs=none/\v=.nilIface/\cs'=cs)) (aL:t4<a.tmps.size)
  (h:rest.wpSIn F n P Q (a.put (some t4) v) cs' w) :
  (Code.seq (.region id #[⟨some t4,.call { callee:=.builtin .recover,args:= #[],argTypes:= #[] },ty1,p1,a1,none⟩] false) rest).wpSIn F n P Q a cs w:=by
 refine wpSIn_seq (wpSIn_region ?_)
 have hr:List.range (#[(⟨some t4,.call { callee:=.builtin .recover,args:= #[],argTypes:= #[] },ty1,p1,a1,none⟩:Oper)]:Array Oper).size=[0]:=rfl
 rw[hr]
 exact Hl (o:=⟨some t4,.call { callee:=.builtin .recover,args:= #[],argTypes:= #[] },ty1,p1,a1,none⟩) rfl rfl (fun f h=>by cases h) rfl aQ h
theorem Mv{P:Program}{f:Nat}{fn:Func}{id t4 ty1:Nat}{p1:String}{a1:Array Edge}{rest:Code}{args:List D}{O U':Sig}{pan:Option D}{m:Nat}
  (hf:P.funcs[f]? = some fn) (hb:fn.body=some (Code.seq (.region id #[⟨some t4,.call { callee:=.builtin .recover,args:= #[],argTypes:= #[] },ty1,p1,a1,none⟩] false) rest))
  (hm:fn.ntmps=m) (hn:args.length<=m) (aL:t4<m) (aP:fn.results=#[])
  (h:DWp P .none m rest (fun x s=>(x=.normal\/x=.ret)/\s.df=[]/\Sub U' s.O) ⟨(t4,pan.getD .niliface)::Bo 0 args,O,[]⟩):Jq P f args O pan U':=by
 intro g w vs u hs ha hu
 subst hm
 have bA:f<P.funcs.size:=(Array.getElem?_eq_some_iff.1 hf).1
 refine callsDIn_of_wpSIn hf hb (EA bA _) fun c₀ cs hc=>?_
 have hT:=De ha hn
 have aR:∀(d:D) (v:Value),Rep g d v->RepT g ((t4,d)::Bo 0 args) fn.ntmps (({ tmps:=vs.toArray++Array.replicate (fn.ntmps-vs.toArray.size) undef,defers:=[] }:Act).put (some t4) v).tmps:=by
  intro d v hv
  exact RepT.put (o := ⟨some t4, .move (.tmp 0), 0, "", #[], none⟩) (a := { tmps := vs.toArray ++ Array.replicate (fn.ntmps - vs.toArray.size) undef, defers := [] }) hT hv (by simp [Ar, aL])
 have hsz:t4<(vs.toArray++Array.replicate (fn.ntmps-vs.toArray.size) undef).size:=by rw[hT.1];exact aL
 have fin:∀(d:D) (v:Value) (u':FrameMode) (cs':List Frame),pan.getD .niliface=d->Rep g d v->settle u'=.returning->cs'={ c₀ with mode:=u' }::cs->
   rest.wpSIn (FX P {}) 0 P (bodyPostS P fn c₀ cs fun e u' w'=>(∃v,e=.returned v)/\settle u'=.returning /\ ∃g',g.le g'/\Sim P g' U' w')
    (({ tmps:=vs.toArray++Array.replicate (fn.ntmps-vs.toArray.size) undef,defers:=[] }:Act).put (some t4) v) cs' w:=by
  intro d v u' cs' hd hv aA aw
  refine wpSIn_of_wpIn rfl ?_
  subst hd
  refine wpIn_mono (h g w _ {} rfl ⟨hs,aR _ v hv,rfl⟩) ?_
  rintro e a w' ⟨g',s',x,l1,l2,l3,hx,bH,ay⟩
  have hd:a.defers=[]:=DT l2.df bH
  have hr:(results fn a.tmps).run P w'=.ok (.tuple #[]) w':=by simp[results,aP]
  rcases hx with rfl|rfl
  ·obtain rfl:=l3
   exact⟨hd,u',aw,_,hr,⟨_,rfl⟩,aA,g',l1,l2.sim.sub ay⟩
  ·obtain rfl:=l3
   exact⟨hd,u',aw,_,hr,⟨_,rfl⟩,aA,g',l1,l2.sim.sub ay⟩
 cases pan with
 |none=>
  have hu:u=.returning:=hu
  subst hu
  refine Hg (v:=.nilIface) (cs':=c₀::cs) (.inr ⟨?_,rfl,rfl⟩) hsz (fin .niliface .nilIface .returning _ rfl rfl rfl ?_)
  ·simp[recoverD,hc]
  ·rw[<-hc]
 |some d=>
  obtain⟨v,rfl,hv⟩:=hu
  refine Hg (v:=v) (cs':={ c₀ with mode:=.panicking [{ v,recovered:=true }] }::cs) (.inl ?_) hsz (fin d v (.panicking [{ v,recovered:=true }]) _ rfl hv rfl rfl)
  simp[recoverD,hc]
theorem Gv(i:Nat)(b:Bool)(O:Sig)(hi:O i=some (.cells [.bool b])):Jq prog 160 [.ptr i 0] O none O/\Jq prog 160 [.ptr i 0] O (some unfC) (O.set i (.cells [.bool false])):=by
 constructor
 ·refine Mv func160 rfl ntmps160 (by simp) (by decide) rfl ?_
  simp only[Option.getD_none]
  repeat' first|refine gz ?_|apply gy<;>intro hh
  exact⟨.inl rfl,rfl,Sub.refl _⟩
 ·refine Mv func160 rfl ntmps160 (by simp) (by decide) rfl ?_
  simp only[Option.getD_some]
  repeat' first|refine gf hi ?_|apply gy<;>intro hh
  exact⟨.inl rfl,rfl,Sub.refl _⟩
theorem UK(g:Nat)(cap:List D)(O:Sig)(R:Sig->DE->Sig->Prop)
  (hg:∀i,O i=none->DCall prog g cap (O.set i (.cells [.bool false])) (R (O.set i (.cells [.bool false]))))
  (hR:∀U' d S'',R U' (.panic d) S''->d=unfC) (hk:∀i S'' x,O i=none->R (O.set i (.cells [.bool false])) x S''->S'' i=some (.cells [.bool false])) :
  DCall prog 76 [.func (.func g) [] cap] O fun x U'=> ∃i S'',O i=none/\U'=S''.del i /\
   ((∃d,R (O.set i (.cells [.bool false])) (.ret d) S''/\x=.ret (.bool true))\/(R (O.set i (.cells [.bool false])) (.panic unfC) S''/\x=.ret (.bool false))):=by
 refine GE (fd:=160) func76 rfl (AI func160 (by rfl) (by rfl)) (by rw[Ac];decide) (by decide) ntmps76 (by simp) ?_
 refine gz ?_ [] [2]
 refine newV (fun i hi=>?_)
 refine gz ?_ [] [2]
 refine K3 (f:=160) (by rw[Ac];decide) rfl rfl ?_
 refine gz ?_ [] [2]
 refine A7 (hg i hi) (fun d U' hr=>?_) (fun d U' hp=>?_)
 ·have aV:=hk i U' _ hi hr
  refine gf aV ?_ [] [2]
  refine⟨_,Wk.refl _ _ _,[.ptr i 0],U'.set i (.cells [.bool true]),.bool true,rfl,(Gv i true _ (w6 ..)).1,Cf (ds:=[.bool true]) Ad ?_,.ret (.bool true),U'.del i,A8 _,GL,i,U',hi,rfl,.inl ⟨d,hr,rfl⟩⟩
  simp[resL]
 ·have aV:=hk i U' _ hi hp
  obtain rfl:=hR _ _ _ hp
  refine gz ?_ [] [2]
  refine⟨_,Wk.refl _ _ _,[.ptr i 0],U'.set i (.cells [.bool false]),.bool false,rfl,(Gv i false _ aV).2,Cf (ds:=[.bool false]) Ad ?_,.ret (.bool false),U'.del i,A8 _,GL,i,U',hi,rfl,.inr ⟨hp,rfl⟩⟩
  simp[resL]
abbrev cCPg(c:CProg):List D:=[sl (c.ins.map cIns),sl (cI c.starts),dI c.main]
def cChk(p:BProg)(c:CProg)(im:Nat):D:=.cptr (cCPg c++Ai p++[.map im]) 0
theorem SH(p:BProg)(c:CProg)(im:Nat)(x:CIns)(O:Sig)(hp:p.wt<=1073741824)(hx:x.op=19->0<=x.a/\x.a<p.gens.length):DCall prog 171 [cChk p c im,.agg (cIns x)] O (rS (.tup [dI (Ao p x).1,dI (Ao p x).2]) O):=by
 obtain⟨p1,p2,p3,p4,p5,p6,p7⟩:=p.wt_le
 by_cases aG:x.op=19
 ·obtain⟨h1,h2⟩:=hx aG
  have e:p.gens.getD x.a.toNat 0=p.gens[x.a.toNat]'(by omega):=by rw[List.getD_eq_getElem?_getD,List.getElem?_eq_getElem (by omega)];rfl
  refine en func171 ntmps171 ?_
  repeat' first|refine gf aG ?_ o171|apply gy<;>intro hh
  any_goals (first|(refine fin2 (U':=O) ?_;exact⟨by first|rfl|(simp[Ao,aG,e];done)|(simp_all [Ao,aG,e];done)|(rw[Ag,Bool.eq_iff_iff];simp_all [Ao,aG,e]<;>omega),rfl⟩)|fail)
 ·refine en func171 ntmps171 ?_
  repeat' first|refine gz ?_ o171|apply gy<;>intro hh
  any_goals (first|(refine fin2 (U':=O) ?_;exact⟨by first|rfl|(simp[Ao];done)|(simp_all [Ao];done)|(rw[Ag,Bool.eq_iff_iff];simp_all [Ao]<;>omega),rfl⟩)|fail)
theorem Ux{p:BProg}{N q:Nat}{x:CIns}(h:x.op<1\/21<x.op):fitsQ p N q x=false:=by
 unfold fitsQ;rw[if_neg (by omega),if_neg (by omega),if_neg (by omega),if_neg (by omega),if_neg (by omega),if_neg (by omega),decide_eq_false (by omega)]
theorem UC(p:BProg)(c:CProg)(im:Nat)(q:Nat)(x:CIns)(O:Sig)(hp:p.wt<=1073741824)(hc:c.ins.length<=300)(hq:q<300)(hs : -1000<=p.slots/\p.slots<=1000):DCall prog 99 [cChk p c im,dI q,.agg (cIns x)] O fun r U'=>r=(if fitsQ p c.ins.length q x then .ret (.tup []) else .panic unfC)/\U'=O:=by
 obtain⟨p1,p2,p3,p4,p5,p6,p7⟩:=p.wt_le
 refine en func99 ntmps99 ?_
 repeat' first|((refine finP (U':=O) ⟨?_,rfl⟩;have e:fitsQ p c.ins.length q x=false:=(by first|(simp_all [fitsQ,inB]<;>omega)|exact Ux (by omega));rw[e];rfl))|refine gz ?_ o99|apply gy<;>intro hh
 any_goals (first|(refine DZ (U':=O) ⟨?_,rfl⟩;have e:fitsQ p c.ins.length q x=true:=(by simp_all [fitsQ,inB]<;>omega);rw[e];rfl)|fail)
@[reducible,instance] def a99:=fun p c im q x O=>gh4 (@UC p c im q x O)
end Go.DL
namespace Go.DL
open Go.Proofs.Tryz
open Go Go.Proofs Go.ChangeShapes Go.WideShapes Go.ChangeAt Go.RowKit
open Go.Proofs.YteldimffglchkaaGreatDoor
open Go.Proofs.YteldimffglchkaaGreatDoor.Rows (uptoBulk uptoBulkAll)
set_option maxRecDepth 100000
section
variable {H:Type}{enc:TypeId×Value->H}{W:Go.World}{base:Nat}
theorem Vh(n:Nat):Dec enc W n 87 cIns (fun _=>1):=fun cs x h=>by
 obtain⟨xs,m,hm,hb,hl,hx,hf⟩:=Lv underlying87 h
 rw[show prog.cellsOf 87=2 by kernel_rfl]at hl
 match cs,hl with
 | [v0,v1],_ =>
  match xs,hx with
  |[x0,x1],_=>
   obtain⟨a0,r0,w0⟩:=KY underlying85 [v0] x0 (Qq (hf 0 _ rfl) (show prog.cellsOf 85=1 by kernel_rfl) rfl)
   obtain⟨a1,r1,w1⟩:=KY underlying3 [v1] x1 (Qq (hf 1 _ rfl) cellsI rfl)
   refine⟨⟨a0,a1⟩,r0.append r1,?_⟩
   rw[hb];simp only[uptoBulkAll,List.map_cons,List.map_nil];omega
def CProg.wt(c:CProg):Nat:=c.ins.length+c.starts.length
theorem Tn(n:Nat):Dec enc W n 30 cCPg CProg.wt:=fun cs x h=>by
 obtain⟨xs,m,hm,hb,hl,hx,hf⟩:=Lv underlying30 h
 rw[show prog.cellsOf 30=3 by kernel_rfl]at hl
 match cs,hl with
 | [v0,v1,v2],_ =>
  match xs,hx with
  |[x0,x1,x2],_=>
   obtain⟨a0,r0,w0⟩:=Mu underlying28 (by kernel_rfl:prog.cellsOf 87=2) (by omega) (fun _=>rfl) (fun _ _=>Vh _) [v0] x0 (Qq (hf 0 _ rfl) (show prog.cellsOf 28=1 by kernel_rfl) rfl)
   obtain⟨a1,r1,w1⟩:=Vg _ [v1] x1 (Qq (hf 1 _ rfl) (show prog.cellsOf 23=1 by kernel_rfl) rfl)
   obtain⟨a2,r2,w2⟩:=KY underlying3 [v2] x2 (Qq (hf 2 _ rfl) cellsI rfl)
   refine⟨⟨a0,a1,a2⟩,r0.append (r1.append r2),?_⟩
   rw[hb];clear hf hx hl;simp only[Vr]at*; simp only[CProg.wt,uptoBulkAll,List.map_cons,List.map_nil];omega
theorem Qo{v:Value}{d:DataW H}{ps:List MemPlace}(ae:Value.okWide prog W .any base 30 v)(h:DataW.Trod enc prog W 0 (fun _=>true) true 30 v d ps): ∃c:CProg,Rep (g0 W) (.agg (cCPg c)) v/\c.wt<=Rows.uptoBulk d:=by
 obtain⟨cs,rfl,_⟩:=okWide_struct underlying30 ae
 obtain⟨n,hn⟩:=h
 obtain⟨c,h1,h2⟩:=Tn n _ _ hn
 exact⟨c,⟨cs.toList,by simp,h1⟩,h2⟩
theorem P3:prog.readableRec 30=true:=by kernel_rfl
theorem Le:30<prog.types.size:=of_decide_eq_true (by kernel_rfl)
end
section
variable {H:Type}{enc:TypeId×Value->H}{W:Go.World}{base:Nat}
theorem U7{v:Value}{d:DataW H}{ps:List MemPlace}(h:DataW.Trod enc prog W 0 (fun _=>true) true 9 v d ps)(ae:Value.okWide prog W .any base 9 v): ∃s:Str,Rep (g0 W) (.str s) v/\s.length<=uptoBulk d:=by
 obtain⟨b,rfl⟩:=okWide_string underlying9 ae
 obtain⟨n,hn⟩:=h
 obtain⟨l,h1,h2⟩:=dec_str (n:=n) underlying9 _ _ hn
 obtain⟨v,r,e,h3,h4⟩:=h1
 cases e
 exact⟨l,h3,by simp only at h2;omega⟩
theorem Qm:prog.readableRec 9=true:=by kernel_rfl
theorem MS:9<prog.types.size:=of_decide_eq_true (by kernel_rfl)
theorem law2s{N:Nat}{f:Func}(hf:f.params=#[30,9])(bu:f.resultTypes=#[4])(hN:∀(c:CProg) (s:Str),c.wt<=1048576->s.length<=1048576->BL prog N [.agg (cCPg c),.str s] (fun _=>none) fun x _=>x=.ret (.bool true))
  {s:ChangeSpec} (hv:s.vars=[]) (bG:∀d e,s.fn H [d,e]={ results:=[.lit (.bool true)],args:=[d,e] }) {args:Array Value}{ds gs:List (DataW H)}{before:List MemPlace}
  (ae:∀(j:Nat) t v,f.params[j]? = some t->args[j]? = some v->Value.okWide prog W .any base t v)
  (hW:DataW.Whole enc prog f.params.toList s.vars false W args.toList ds gs before) (hk:Rows.uptoSmall H (ds++gs)=true) (hP:TI W) :
  Calls prog N args W fun e W'=> ∃v,e=.returned v/\s.post enc prog f false true false false W args v W':=by
 have bL:=hW
 obtain⟨p,q,hA,hV,rfl,bF,bd⟩:=hW
 rw[hv]at hV
 obtain⟨rfl,rfl⟩:=trodVars_none hV
 rw[hf]at hA ae
 obtain⟨v0,vs0,d0,ds0,p0,q0,bp,rfl,rfl,h0,r0⟩:=trodAll_cons hA
 obtain⟨v1,vs1,d1,ds1,p1,q1,aY,rfl,rfl,h1,r1⟩:=trodAll_cons r0
 obtain⟨rfl,rfl,rfl⟩:=trodAll_nil r1
 obtain rfl:args=#[v0,v1]:=by cases args;simp_all
 have hb:Rows.uptoBulk d0+(Rows.uptoBulk d1+0)<=1048576:=of_decide_eq_true hk
 obtain⟨c,hc,bZ⟩:=Qo (ae 0 30 v0 rfl rfl) h0
 obtain⟨t,ht,bQ⟩:=U7 h1 (ae 1 9 v1 rfl rfl)
 refine(R8 (hN c t (by omega) (by omega)) W hP (vs:=[v0,v1]) ⟨v0,[v1],rfl,hc,v1,[],rfl,ht,rfl⟩).mono fun e W' ⟨he,aT,bx,aS⟩=>?_
 refine⟨_,he,Uo hv bu (fun t ht=>?_) bL (bG d0 d1) aT bx aS⟩
 rw[hf]at ht
 have ht:t=30\/t=9:=by simpa using ht
 rcases ht with rfl|rfl
 ·exact⟨P3,Le⟩
 ·exact⟨Qm,MS⟩
end
abbrev laids7 : List (String × DataW Unit) := [("math/bits.deBruijn32tab", Rows.laid_math_bits_deBruijn32tab), ("math/bits.deBruijn64tab", Rows.laid_math_bits_deBruijn64tab), ("internal/strconv.uint64pow10", Rows.laid_internal_strconv_uint64pow10), ("unicode/utf8.acceptRanges", Rows.laid_unicode_utf8_acceptRanges), ("strconv.ErrRange", Rows.laid_strconv_ErrRange), ("strconv.ErrSyntax", Rows.laid_strconv_ErrSyntax), ("unicode/utf8.first", Rows.laid_unicode_utf8_first)]
theorem laidP7 : laids7.filter (fun x => x.1 == "internal/strconv.uint64pow10") = [("internal/strconv.uint64pow10", Lib.tabData .u64 ((List.range 20).map fun i => ((10 ^ i : Nat) : Int)))] := by kernel_rfl
theorem laidS7 : laids7.filter (fun x => x.1 == "strconv.ErrSyntax") = [("strconv.ErrSyntax", Rows.laid_strconv_ErrSyntax)] := by kernel_rfl
theorem laidR7 : laids7.filter (fun x => x.1 == "strconv.ErrRange") = [("strconv.ErrRange", Rows.laid_strconv_ErrRange)] := by kernel_rfl
theorem Q8 : "*" ++ "errors.errorString" = "*errors.errorString" := by decide
theorem name437 (u : TypeId) (h : prog.typeName? 3 u = some "*errors.errorString") : u = 437 :=
 typeName_ptr_named (nm := "errors.errorString") (by rw [Q8]; kernel_rfl) (by kernel_rfl) (by decide) u (by rw [Q8]; exact h)
theorem gSyn : prog.globalNamed "strconv.ErrSyntax" = some 2 := by kernel_rfl
theorem gRan : prog.globalNamed "strconv.ErrRange" = some 3 := by kernel_rfl
theorem gMax : prog.globalNamed "internal/bytealg.MaxLen" = some 0 := by kernel_rfl
theorem I1 {W : Go.World} {n : String} {g : Nat} {text : List UInt8} (h : laidMet prog [(n, .iface "*errors.errorString" (.ptr (.agg [.lit (.string text)])))] W) (hg : prog.globalNamed n = some g) (ht : (prog.globals[g]?).map (·.type) = some 161) : ∃ te pe, W.cell? ⟨g, 0, none⟩ = some (.iface te pe) := by
 obtain⟨a,s,hv,_⟩:=laid_sentinel h hg ht underlying161 name437 underlying437 underlying439 rfl rfl underlying9 (by kernel_rfl) (by kernel_rfl)
 exact⟨437,_,by have:=World.var?_cell hg hv 0;simpa using this⟩
theorem lib_of{W:Go.World}(h:laidMetH prog laids7 W)(hS:W.ShapedOpen prog):TI W:=by
 refine⟨?_,fun g hg=>?_,fun x hx g hg=>?_⟩
 ·have h2 := h.filter (fun x => x.1 == "internal/strconv.uint64pow10")
  rw[laidP7]at h2
  exact Lib.tabIs_of_head (rest:=[]) gPow gPowT underlying389 underlying338 Vm Vl h2
 ·obtain rfl:=Option.some.inj (gMax.symm.trans hg)
  exact cell_of_shapedOpen_int (P:=prog) (g:=0) (t:=3) (zero:= #[.int .i64 0]) hS (of_decide_eq_true (by kernel_rfl)) (by kernel_rfl) rfl (by kernel_rfl) (by kernel_rfl) underlying3
 ·rcases hx with rfl|rfl
  ·obtain rfl:=Option.some.inj (gSyn.symm.trans hg)
   have h2 := h.filter (fun x => x.1 == "strconv.ErrSyntax")
   rw[laidS7]at h2
   exact I1 h2 gSyn (by kernel_rfl)
  ·obtain rfl:=Option.some.inj (gRan.symm.trans hg)
   have h2 := h.filter (fun x => x.1 == "strconv.ErrRange")
   rw[laidR7]at h2
   exact I1 h2 gRan (by kernel_rfl)
def LT:DataW Unit->List Value
 | .agg xs=>xs.flatMap fun x=>match x with
  |.lit (.int k z)=>[Value.int k z]
  |.agg ys=>ys.map fun y=>match y with
   |.lit (.int k z)=>Value.int k z
   |_=>Value.int .i64 0
  |_=>[]
 |_=>[]
def I0(cs:Array Value):Obj->Obj
 |.cells _ t frozen=>.cells cs t frozen
 |o=>o
def Vu:DataW Unit->ByteArray
 |.iface _ (.ptr (.agg [.lit (.string l)]))=>⟨l.toArray⟩
 |_=>⟨#[]⟩
noncomputable def H1(os:Os):Go.World:=
 let w0:=Go.World.holding prog os ⟨#[.cells #[.string (Vu Rows.laid_strconv_ErrSyntax)] 439,.cells #[.string (Vu Rows.laid_strconv_ErrRange)] 439], #[],[]⟩
 {w0 with heap:=((((((w0.heap.modify 6 (I0 (LT Rows.laid_math_bits_deBruijn32tab).toArray)).modify 7 (I0 (LT Rows.laid_math_bits_deBruijn64tab).toArray)).modify 1 (I0 (LT Rows.laid_internal_strconv_uint64pow10).toArray)).modify 5 (I0 (LT Rows.laid_unicode_utf8_acceptRanges).toArray)).modify 4 (I0 (LT Rows.laid_unicode_utf8_first).toArray)).modify 2 (I0 #[.iface 437 (.pointer (some ⟨13,0,none⟩))])).modify 3 (I0 #[.iface 437 (.pointer (some ⟨14,0,none⟩))]) }
end Go.DL
namespace Go.DL
open Go.Proofs.Tryz
open Go Go.Proofs
set_option maxHeartbeats 8000000
theorem M7(l:List CIns)(q:CIns->Bool)(g:Nat)(cap:List D)(o:Own)(O:Sig)(hl:l.length<=1073741824)(hg:∀x∈l,DCall prog g ([]++[.agg (cIns x)]++cap) O fun r S''=>r=.ret (.bool (q x))/\S''=O):DCall prog 231 [.slice (l.map cIns) o,.func (.func g) [] cap] O (rS (dI (idxF q l 0)) O):=by
 refine en func231 ntmps231 ?_
 refine gz ?_
 refine Cg [0,1,7] (fun (k:Nat)=>k<=l.length/\idxF q l 0=idxF q (l.drop k) k) (fun k=>[(8,dI k)]) (fun _=>O) (fun k=>l.length-k) (0) (by simp) (fun k hI=>?_)
 obtain⟨hk,hR⟩:=hI
 by_cases h:k<l.length
 ·rw[Ab h,idxF]at hR
  repeat' first|refine Cb (hg (l[k]) (List.getElem_mem h)) ?_|refine callP (hg (l[k]) (List.getElem_mem h)) ?_|refine gz ?_|apply gy<;>intro hh
  ·rw[hh]at hR
   exact fe1 hR
  ·rw[hh]at hR
   exact⟨k+1,⟨by omega,hR⟩,td1,wkR⟩
 ·rw[Aj h,idxF]at hR
  refine gz ?_
  exact fe1 hR
theorem Mg(l:List CIns)(q:CIns->Bool)(g:Nat)(cap:List D)(o:Own)(O:Sig)(hl:l.length<=1073741824)(hg:∀x∈l,DCall prog g ([]++[.agg (cIns x)]++cap) O fun r S''=>r=.ret (.bool (q x))/\S''=O):DCall prog 152 [.slice (l.map cIns) o,.func (.func g) [] cap] O (rS (.bool (l.any q)) O):=by
 refine en func152 ntmps152 ?_
 repeat' first|refine gz ?_|refine Cb (M7 l q g cap o O hl hg) ?_|refine callP (M7 l q g cap o O hl hg) ?_|refine gz ?_|apply gy<;>intro hh
 rw[<-Dc q l 0]
 exact fe1 trivial
theorem Me(x:CIns)(O:Sig):DCall prog 154 [.agg (cIns x)] O (rS (.bool (BI x)) O):=by
 refine en func154 ntmps154 ?_
 repeat' first|refine gz ?_|apply gy<;>intro hh
 rotate_left 2
 ·have hn:¬x.op=1:=fun e=>by rw[e]at hh;cases hh
  refine eqlS _ (decide (x=⟨x.op,0⟩)) VI VB (eqIns x ⟨x.op,0⟩) ?_
  have he:decide (x=⟨x.op,0⟩)=decide (x.a=0):=by rcases x with⟨o,a⟩;simp
  refine gz ?_
  refine fin1 (U':=O) ⟨?_,rfl⟩
  rw[he];unfold BI;rw[hh];simp;omega
 all_goals
  refine fin1 (U':=O) ⟨?_,rfl⟩
  rw[Ag,Bool.eq_iff_iff]
  unfold BI inB farN
  simp_all<;>omega
theorem Mf(x:CIns)(O:Sig):DCall prog 153 [.agg (cIns x)] O (rS (.bool (!BI x)) O):=by
 refine en func153 ntmps153 ?_
 repeat' first|refine gz ?_|refine Cb (Me x O) ?_|refine callP (Me x O) ?_|refine gz ?_|apply gy<;>intro hh
 exact fe1 trivial
theorem Ok(c:CProg)(O:Sig)(h1:c.ins.length<=1073741824)(h2:c.starts.length<=1073741824):DCall prog 70 [.agg (cCPg c)] O (rS (.bool (AG c)) O):=by
 refine en func70 ntmps70 ?_
 by_cases c1:c.ins.length<=300
 rotate_left
 ·refine gz ?_
  refine skipV ?_
  refine gz ?_
  refine fin1 (U':=O) ?_
  refine⟨?_,rfl⟩
  rw[Ag,Bool.eq_iff_iff]
  unfold AG
  simp[c1]
 by_cases c2:c.starts.length<=16
 rotate_left
 ·refine gz ?_
  refine skipV ?_
  refine gz ?_
  refine fin1 (U':=O) ?_
  refine⟨?_,rfl⟩
  rw[Ag,Bool.eq_iff_iff]
  unfold AG
  simp[c2]
 repeat' first|refine D2 (F1 c.main) ?_|refine callPG (F1 c.main) ?_|refine D2 (Mh c.starts (fun n=> !farN n) 150 [] .no O h2 (fun n _=>F1 n O)) ?_|refine callPG (Mh c.starts (fun n=> !farN n) 150 [] .no O h2 (fun n _=>F1 n O)) ?_|refine D2 (Mg c.ins (fun x=> !BI x) 153 [] .no O h1 (fun x _=>Mf x O)) ?_|refine callPG (Mg c.ins (fun x=> !BI x) 153 [] .no O h1 (fun x _=>Mf x O)) ?_|refine gz ?_|apply gy<;>intro hh
 all_goals
  refine fin1 (U':=O) ?_
  refine⟨?_,rfl⟩
  rw[Ag,Bool.eq_iff_iff]
  unfold AG
  rw[decide_eq_true c1,decide_eq_true c2]
  simp_all
 ·obtain⟨x,h1,h2⟩:=hh
  intro h3
  rw[h3 x h1]at h2;cases h2
@[reducible,instance] def a70:=fun c O=>ah2 (@Ok c O)
theorem UH(O:Sig):DCall prog 85 [] O (rS (.slice (cS wordsC) .clip) O):=by
 refine en func85 ntmps85 ?_
 refine gz ?_
 exact fe1 trivial
@[reducible,instance] def a85:=fun O=>ah0 (@UH O)
end Go.DL
set_option linter.unusedVariables false
namespace Go.Proofs
open Go.Proofs.Tryz
open Go.RowKit Go.Shelf
theorem sizeB:(prog.info? 159).map (·.size)=some 2:=by kernel_rfl
set_option maxHeartbeats 1000000 in
set_option maxRecDepth 100000 in
theorem Jm(b:Nat)(w:World)(h0:w.cell? ⟨b,0,none⟩=some (.pointer (some ⟨b,0,none⟩))):
  Calls prog 161 #[.pointer (some ⟨b,0,none⟩)] w fun e w'=>e=.returned (.tuple #[])/\w'=w:=by
 obtain⟨j,hj,_⟩:=Option.map_eq_some_iff.1 sizeB
 have mixed:prog.follows .mixedOrders=true:=by kernel_rfl
 have t72:=underlying159;have a72:=isAgg159;have z72:=sizeOf159;have v72:=zeroValue159;have u72:=run_underlying underlying159
 have t70:=underlying157;have a70:=isAgg157;have z70:=sizeOf157;have v70:=zeroValue157;have u70:=run_underlying underlying157
 have t4:=underlying4;have a4:=isAgg4;have z4:=sizeOf4;have v4:=zeroValue4;have u4:=run_underlying underlying4
 go_enter func161,ntmps161
 go_wp2
 rw[Lib.run_neq_ptr_same w _ underlying157 hj]
 go_wp2
 go_end0
 exact⟨rfl,rfl⟩
set_option maxHeartbeats 1000000 in
set_option maxRecDepth 100000 in
theorem IV(b:Nat)(w:World)(h0:w.cell? ⟨b,0,none⟩=some (.pointer none))(bb:w.shape? b=some (159,2))(bF:w.frozen? ⟨b,0,none⟩=false):
  Calls prog 161 #[.pointer (some ⟨b,0,none⟩)] w fun e w'=>e=.returned (.tuple #[])/\w'=w.setCell ⟨b,0,none⟩ (.pointer (some ⟨b,0,none⟩)):=by
 obtain⟨j,hj,bC⟩:=Option.map_eq_some_iff.1 sizeB
 have mixed:prog.follows .mixedOrders=true:=by kernel_rfl
 have t72:=underlying159;have a72:=isAgg159;have z72:=sizeOf159;have v72:=zeroValue159;have u72:=run_underlying underlying159
 have t70:=underlying157;have a70:=isAgg157;have z70:=sizeOf157;have v70:=zeroValue157;have u70:=run_underlying underlying157
 have t4:=underlying4;have a4:=isAgg4;have z4:=sizeOf4;have v4:=zeroValue4;have u4:=run_underlying underlying4
 have t301:=underlying301;have a301:=isAgg301;have z301:=sizeOf301;have v301:=zeroValue301;have u301:=run_underlying underlying301
 have aB:liesAt prog prog.depth 159 (2 / prog.cellsOf 159) 0 159 1=true:=by kernel_rfl
 go_enter func161,ntmps161
 go_wp2
 rw[Lib.run_to_unsafe w ⟨b,0,none⟩ underlying157 underlying301 hj (by rw[bC];decide) bb (Nat.zero_lt_succ 1)]
 simp only[Result.andThen]
 rw[Oper.upon_value]
 go_wp2
 rw[run_callFunc_extern func232 (by kernel_rfl) (by kernel_rfl) (by kernel_rfl) (e:=Extern.AbiNoEscape.same) (by kernel_rfl)]
 rw[Lib.run_noEscape]
 simp only[Result.andThen]
 rw[Oper.upon_value]
 go_wp2
 rw[Lib.run_from_unsafe w ⟨b,0,none⟩ underlying301 underlying157 hj bb aB]
 simp only[Result.andThen]
 rw[Oper.upon_value]
 go_wp2
 go_end0
 exact⟨rfl,rfl⟩
set_option maxHeartbeats 1000000 in
set_option maxRecDepth 100000 in
theorem Jo(b g cap:Nat)(p:Value)(ty:TypeId)(l:List UInt8)(cur:Array Value)(w:World)(h0:l≠[])(bK:w.heap[b]? = some (.cells #[p,.slice (some ⟨g,0,none⟩) l.length cap] ty (0,0)))(hg:w.heap[g]? = some (.cells cur 5 (0,0)))(bR:l.length<=cap)(aw:l.length<=cur.size)(bO:l.length<=9223372036854775807)(aW:∀j x,l[j]? = some x->w.cell? ⟨g,j,none⟩=some (.int .u8 x.toNat)):
  Calls prog 86 #[.pointer (some ⟨b,0,none⟩)] w fun e w'=>e=.returned (.string ⟨l.toArray⟩)/\w'=w.drew.freeze ⟨g,0,none⟩ l.length:=by
 have bB:l.length≠0:=by simpa using h0
 have c1:w.drew.cell? ⟨b,1,none⟩=some (.slice (some ⟨g,0,none⟩) l.length cap):=by
  have:w.drew.heap[b]? = some (.cells #[p,.slice (some ⟨g,0,none⟩) l.length cap] ty (0,0)):=bK
  rw[Lib.cell_of_heap this];rfl
 have b9:(Builtin.unsafeSliceData_ #[96] 246 #[.slice (some ⟨g,0,none⟩) l.length cap]).run prog w.drew=.ok (.pointer (some ⟨g,0,none⟩)) w.drew:=
  Lib.run_unsafeSliceData_row _ _ _ _ _ _ (by omega)
 have b8:(Builtin.unsafeString_ #[246,3] 9 #[.pointer (some ⟨g,0,none⟩),.int .i64 l.length]).run prog w.drew=.ok (.string ⟨l.toArray⟩) (w.drew.freeze ⟨g,0,none⟩ l.length):=by
  refine Lib.run_unsafeString_row w.drew 246 3 9 5 underlying246 (by kernel_rfl) g cur.size (by have bE:w.drew.heap[g]? = some (.cells cur 5 (0,0)):=hg;simp[World.shape?, bE]) l h0 aw bO ?_
  intro j x hj
  have e:((⟨g,0,none⟩:Addr).add j)=⟨g,j,none⟩:=by unfold Addr.add;split<;>simp_all
  rw[e];exact aW j x hj
 have mixed:prog.follows .mixedOrders=true:=by kernel_rfl
 have t72:=underlying159;have a72:=isAgg159;have z72:=sizeOf159;have v72:=zeroValue159;have u72:=run_underlying underlying159
 have t70:=underlying157;have a70:=isAgg157;have z70:=sizeOf157;have v70:=zeroValue157;have u70:=run_underlying underlying157
 have t37:=underlying96;have a37:=isAgg96;have z37:=sizeOf96;have v37:=zeroValue96;have u37:=run_underlying underlying96
 have t127:=underlying246;have a127:=isAgg246;have z127:=sizeOf246;have v127:=zeroValue246;have u127:=run_underlying underlying246
 have t3:=underlying3;have a3:=isAgg3;have z3:=sizeOf3;have v3:=zeroValue3;have u3:=run_underlying underlying3
 have t9:=underlying9;have a9:=isAgg9;have z9:=sizeOf9;have v9:=zeroValue9;have u9:=run_underlying underlying9
 have t5:=underlying5;have a5:=isAgg5;have z5:=sizeOf5;have v5:=zeroValue5;have u5:=run_underlying underlying5
 go_enter func86,ntmps86
 go_wp2
 go_region_o
 all_goals (go_wp2;go_ret;exact⟨rfl,rfl⟩)
end Go.Proofs
namespace Go.Proofs
open Go.Proofs.Tryz
open Go.Shelf
def laysM171_ren:Go.Shelf.Ren:=⟨fun|171=>84|243=>162|246=>233|283=>272|284=>273|285=>274|286=>275|129=>316|317=>315|318=>317|319=>318|320=>319|337=>356|338=>357|n=>n,fun|3=>3|9=>9|2=>2|4=>4|171=>337|0=>0|53=>338|37=>96|5=>5|173=>341|212=>389|51=>373|20=>20|213=>390|46=>320|232=>452|233=>453|n=>n,fun|17=>1|18=>6|19=>7|n=>n⟩
theorem laysM171:Go.Proofs.LaysM.n171 prog laysM171_ren:={
 mixed:=by kernel_rfl
 f129:=func316.trans (congrArg some (by kernel_rfl))
 f171:=func84.trans (congrArg some (by kernel_rfl))
 f243:=func162.trans (congrArg some (by kernel_rfl))
 f246:=func233.trans (congrArg some (by kernel_rfl))
 f283:=func272.trans (congrArg some (by kernel_rfl))
 f284:=func273.trans (congrArg some (by kernel_rfl))
 f285:=func274.trans (congrArg some (by kernel_rfl))
 f286:=func275.trans (congrArg some (by kernel_rfl))
 f317:=func315.trans (congrArg some (by kernel_rfl))
 f318:=func317.trans (congrArg some (by kernel_rfl))
 f319:=func318.trans (congrArg some (by kernel_rfl))
 f320:=func319.trans (congrArg some (by kernel_rfl))
 f337:=func356.trans (congrArg some (by kernel_rfl))
 f338:=func357.trans (congrArg some (by kernel_rfl))
 t0:=underlying0
 a0:=isAgg0
 z0:=sizeOf0
 v0:=zeroValue0
 t2:=underlying2
 a2:=isAgg2
 z2:=sizeOf2
 v2:=zeroValue2
 t3:=underlying3
 a3:=isAgg3
 z3:=sizeOf3
 v3:=zeroValue3
 t4:=underlying4
 a4:=isAgg4
 z4:=sizeOf4
 v4:=zeroValue4
 t5:=underlying5
 a5:=isAgg5
 z5:=sizeOf5
 v5:=zeroValue5
 t9:=underlying9
 a9:=isAgg9
 z9:=sizeOf9
 v9:=zeroValue9
 t20:=underlying20
 a20:=isAgg20
 z20:=sizeOf20
 v20:=zeroValue20
 t37:=underlying96
 a37:=isAgg96
 z37:=sizeOf96
 v37:=zeroValue96
 t46:=underlying320
 a46:=isAgg320
 z46:=sizeOf320
 v46:=zeroValue320
 t51:=underlying373
 a51:=isAgg373
 z51:=sizeOf373
 v51:=zeroValue373
 t53:=underlying338
 a53:=isAgg338
 z53:=sizeOf338
 v53:=zeroValue338
 t171:=underlying337
 a171:=isAgg337
 z171:=sizeOf337
 v171:=zeroValue337
 t173:=underlying341
 a173:=isAgg341
 z173:=sizeOf341
 v173:=zeroValue341
 t212:=underlying389
 a212:=isAgg389
 z212:=sizeOf389
 v212:=zeroValue389
 t213:=underlying390
 a213:=isAgg390
 z213:=sizeOf390
 t232:=underlying452
 a232:=isAgg452
 z232:=sizeOf452
 v232:=zeroValue452
 t233:=underlying453
 a233:=isAgg453
 z233:=sizeOf453
 v233:=zeroValue453
 g17:=by kernel_rfl
 g18:=by kernel_rfl
 g19:=by kernel_rfl
 i0:=by kernel_rfl
 i2:=by kernel_rfl
 i3:=by kernel_rfl
 i4:=by kernel_rfl
 i5:=by kernel_rfl
 i9:=by kernel_rfl
 i20:=by kernel_rfl
 i37:=by kernel_rfl
 i46:=by kernel_rfl
 i51:=by kernel_rfl
 i53:=by kernel_rfl
 i171:=by kernel_rfl
 i173:=by kernel_rfl
 i212:=by kernel_rfl
 i232:=by kernel_rfl
 i233:=by kernel_rfl
 m17:=by kernel_rfl
 m18:=by kernel_rfl
 m19:=by kernel_rfl }
open Go.RowKit Go.Sort Go.Lib in
theorem strconv_Itoa (n : Int) (h0 : -9223372036854775808 <= n) (h1 : n <= 9223372036854775807) (w : World) (am : Lib.TabIs prog w "internal/strconv.uint64pow10" .u64 Lib.pow10Tab) :
  Calls prog 84 #[.int .i64 n] w fun e w'=>e=.returned (.string ⟨(Lib.itoa n).toArray⟩) /\ ∃k os,w'=grow (w.drewN k) os:=Any.strconv_Itoa laysM171 n h0 h1 w am
end Go.Proofs
namespace Go.DL
open Go.Proofs.Tryz
open Go Go.Proofs
set_option maxHeartbeats 8000000
theorem As{O:Sig}{a b:Nat}{o:DObj}(h:O a=some o)(k:O b=none):a≠b:=fun e=>by rw[e,k]at h;cases h
theorem DK{O:Sig}{a b:Nat}{o x:DObj}(h:O a=some o)(k:O b=some x)(hx:o≠x):a≠b:=fun e=>by rw[e,k]at h;cases h;exact hx rfl
theorem RowAt.sref{O:Sig}{sz:Nat}{st:MR}{es:List (List D)}(h:RowAt O sz st es)(hne:es≠[]): ∃r c, ∀n,mD st n=.sref r 0 n c:=by
 rcases st with _|⟨i,cap,rest⟩
 ·exact absurd h hne
 ·exact⟨i,cap,fun _=>rfl⟩
def BK(ib:Nat)(O:Sig)(st:MR)(U':Sig)(st':MR):Prop:= ∀j o,O j=some o->j≠ib->¬Fs st j->U' j=some o /\ ¬Fs st' j
theorem BK.trans{ib:Nat}{O U1 U2:Sig}{st st1 st2:MR}(h:BK ib O st U1 st1)(k:BK ib U1 st1 U2 st2):BK ib O st U2 st2:=fun j o hj hi hn=>k j o (h j o hj hi hn).1 hi (h j o hj hi hn).2
theorem BK.refl(ib:Nat)(O:Sig)(st:MR):BK ib O st O st:=fun j o h _ hn=>⟨h,hn⟩
theorem BK.fresh{ib:Nat}{O U1:Sig}{st st1:MR}{k:Nat}{o:DObj}(h:BK ib O st U1 st1)(hk:U1 k=none):BK ib O st (U1.set k o) st1:=fun j x hj hi hn=>by
 obtain⟨h1,h2⟩:=h j x hj hi hn
 exact⟨by rw[w7 _ _ (As h1 hk)];exact h1,h2⟩
structure BlkS(ib:Nat)(s m:D)(st:MR)(ins:List CIns)(O:Sig):Prop where
 env:O ib=some (.cells [mD st ins.length,s,m])
 row:RowAt O 2 st (ins.map cIns)
 nr:¬Fs st ib
section
variable {ib:Nat}{s m:D}{st:MR}{ins:List CIns}{O:Sig}
theorem BlkS.notrow(h:BlkS ib s m st ins O){k:Nat}(hk:O k=none): ¬Fs st k:=fun hr=>by
 obtain⟨cs,hc⟩:=h.row.cells hr;rw[hk]at hc;cases hc
theorem BlkS.fresh(h:BlkS ib s m st ins O){k:Nat}{o:DObj}(hk:O k=none):BlkS ib s m st ins (O.set k o):=
 ⟨by rw[w7 _ _ (As h.env hk)];exact h.env,h.row.keep fun j x hj hr=>by rw[w7 _ _ fun e=>h.notrow hk (by rw[<-e];exact hr)];exact hj,h.nr⟩
theorem CX(op a:Int)(hn:ins.length<=1000000)(hB:BlkS ib s m st ins O):DCall prog 132 [.ptr ib 0,dI op,dI a] O fun x U'=>x=.ret (.tup []) /\ ∃st',BlkS ib s m st' (ins++[⟨op,a⟩]) U'/\BK ib O st U' st':=by
 obtain⟨q1,q2,q3⟩:=hB
 refine en func132 ntmps132 ?_
 refine gf q1 ?_
 refine rapp (es:=ins.map cIns) (fun st2 U2 bc bh=>?_) (hm:=q2)
 obtain⟨v1,v2⟩:=bh _ _ q1 q3
 obtain⟨rr,rc,be⟩:=bc.sref (by simp)
 have aU:=be (ins.length+1)
 refine gf (gi v1 aU) ?_
 have bd:(ins++[(⟨op,a⟩:CIns)]).map cIns=ins.map cIns++[[dI op,dI a]]:=by simp[cIns]
 refine DZ (U':=U2.set ib (.cells [.sref rr 0 (ins.length+1) rc,s,m])) ?_
 refine⟨rfl,st2,⟨by rw[w6,be];simp,?_,v2⟩,fun j o hj bj hr=>?_⟩
 ·rw[bd]
  exact bc.keep fun j x hj hr=>by rw[w7 _ _ fun e=>v2 (by rw[<-e];exact hr)];exact hj
 ·obtain⟨h3,h4⟩:=bh j o hj hr
  exact⟨by rw[w7 _ _ bj];exact h3,h4⟩
abbrev cLater(ib k:Nat):D:=.func (.func 259) [] [.cptr [.ptr ib 0] 0,.cptr [dI k] 0]
theorem M9(op:Int)(hn:ins.length<=1000000)(hB:BlkS ib s m st ins O):DCall prog 207 [.ptr ib 0,dI op] O fun x U'=>x=.ret (cLater ib ins.length) /\ ∃st',BlkS ib s m st' (ins++[⟨op,0⟩]) U'/\BK ib O st U' st':=by
 have aF:=hB
 obtain⟨q1,q2,q3⟩:=hB
 refine en func207 ntmps207 ?_
 cases aM:st with
 |none=>
  subst aM
  have h0:ins=[]:=by have:ins.map cIns=[]:=q2;simpa using this
  subst h0
  simp only[mD]at q1
  refine gf q1 ?_
  refine A7 (CX op 0 hn aF) (fun d U' hr=>?_) (fun d U' hr=>by cases hr.1)
  obtain⟨h1,st',a8,hK⟩:=hr
  cases h1
  refine gz ?_
  refine fin1 (U':=U') ⟨rfl,st',a8,hK⟩
 |some x=>
  obtain⟨rr,rc,rest⟩:=x
  subst aM
  simp only[mD]at q1
  refine gf q1 ?_
  refine A7 (CX op 0 hn aF) (fun d U' hr=>?_) (fun d U' hr=>by cases hr.1)
  obtain⟨h1,st',a8,hK⟩:=hr
  cases h1
  refine gz ?_
  refine fin1 (U':=U') ⟨rfl,st',a8,hK⟩
def setA(l:List CIns)(k:Nat)(a:Int):List CIns:=l.take k++((l[k]?).map fun x=>(⟨x.op,a⟩:CIns)).toList++l.drop (k+1)
theorem M4(k:Nat)(hk:k<ins.length)(hn:ins.length<=1000000)(hB:BlkS ib s m st ins O):DCall prog 259 [.cptr [.ptr ib 0] 0,.cptr [dI k] 0] O fun x U'=>x=.ret (.tup []) /\ ∃st',BlkS ib s m st' (setA ins k ins.length) U'/\BK ib O st U' st':=by
 obtain⟨q1,q2,q3⟩:=hB
 rcases st with _|⟨r,rc,rest⟩
 ·have:ins.map cIns=[]:=q2
  simp at this;subst this;simp at hk
 have hx:ins=ins.take k++ins[k]::ins.drop (k+1):=by simp
 have aN:setA ins k ins.length=ins.take k++(⟨(ins[k]).op,ins.length⟩:CIns)::ins.drop (k+1):=by unfold setA;rw[List.getElem?_eq_getElem hk];simp
 have aO:O r=some (.cells ((ins.map cIns).flatten++rest))/\((ins.map cIns).flatten++rest).length=rc*2/\(ins.map cIns).length<=rc/\_:=q2
 obtain⟨w1,w2,w3,w4⟩:=aO
 have ba:((ins.take k).map cIns).flatten.length=k*2:=by rw[Aw (sz:=2) (fun e he=>by obtain⟨x,_,rfl⟩:=List.mem_map.1 he;rfl)];simp;omega
 have aw:(ins.map cIns).flatten++rest=((ins.take k).map cIns).flatten++dI (ins[k]).op::dI (ins[k]).a::(((ins.drop (k+1)).map cIns).flatten++rest):=by
  have h0:ins.map cIns=(ins.take k).map cIns++cIns ins[k]::(ins.drop (k+1)).map cIns:=by rw[<-List.map_cons,<-List.map_append,<-hx]
  rw[h0];simp only[List.flatten_append,List.flatten_cons,List.append_assoc,cIns,List.cons_append,List.nil_append]
 have aD:((setA ins k ins.length).map cIns).flatten++rest=((ins.take k).map cIns).flatten++dI (ins[k]).op::dI (ins.length:Int)::(((ins.drop (k+1)).map cIns).flatten++rest):=by
  rw[aN];simp only[List.map_append,List.map_cons,List.flatten_append,List.flatten_cons,List.append_assoc,cIns,List.cons_append,List.nil_append]
 have hlen:(setA ins k ins.length).length=ins.length:=by rw[aN];simp;omega
 rw[aw]at w1 w2
 generalize hA:((ins.take k).map cIns).flatten=A at*
 generalize hM:((ins.drop (k+1)).map cIns).flatten++rest=M at*
 have b6:A.length+(2+M.length)=rc*2:=by simp only[List.length_append,List.length_cons]at w2;omega
 have bT:k<rc:=by rw[List.length_map]at w3;omega
 have bJ:ib≠r:=fun h=>q3 h
 have q1':O ib=some (.cells [.sref r 0 ins.length rc,s,m]):=q1
 have aM:(A++dI (ins[k]).op::dI (ins[k]).a::M).set (k*2+1) (dI (ins.length:Int))=A++dI (ins[k]).op::dI (ins.length:Int)::M:=by
  rw[<-ba,List.set_append_right _ _ (by omega)];simp
 have bt:List.take (k*2+1) (A++dI ins[k].op::dI ins[k].a::M)=A++[dI ins[k].op]:=by rw[<-ba,List.take_length_add_append];rfl
 have bI:List.drop (k*2+1+1) (A++dI ins[k].op::dI ins[k].a::M)=M:=by rw[<-ba,Nat.add_assoc,List.drop_length_add_append];rfl
 have bX:(setA ins k ins.length).map cIns=(ins.take k).map cIns++cIns ⟨(ins[k]).op,ins.length⟩::(ins.drop (k+1)).map cIns:=by rw[aN];simp
 refine en func259 ntmps259 ?_
 refine gf (gi q1' w1) ?_ o259
 rw[bt,bI]
 refine DZ (U':=O.set r (.cells (A++[dI ins[k].op]++dI (ins.length:Int)::M))) ⟨rfl,some (r,rc,rest),⟨?_,⟨?_,?_,?_,?_⟩,q3⟩,fun j o hj bj hr=>⟨by rw[w7 _ _ fun e=>hr e];exact hj,hr⟩⟩
 ·rw[w7 _ _ bJ,q1',hlen];rfl
 ·rw[w6,aD,List.append_assoc];rfl
 ·rw[aD];simp only[List.length_append,List.length_cons];omega
 ·rw[List.length_map,hlen];rw[List.length_map]at w3;exact w3
 ·intro z hz;obtain⟨x,_,rfl⟩:=List.mem_map.1 hz;rfl
end
theorem nn2{O:Sig}{a b:Nat}{o:DObj}(h:O a=some o)(k:O b=none):a≠b:=fun e=>by rw[e,k]at h;cases h
theorem Ix:prog.globals.size≠0:=by
 have h:prog.globals.size=8:=by kernel_rfl
 omega
theorem HB(n:Int)(O:Sig)(h0 : -9223372036854775808<=n)(h1:n<=9223372036854775807):BL prog 84 [dI n] O (rS (.str (Lib.itoa n)) O):=by
 refine⟨by rw[Ac];decide,AI func84 (by rfl) (by rfl),fun g w vs r hr hs ha=>?_⟩
 obtain rfl:r=_:=hr
 obtain⟨v,r,rfl,hv,rfl⟩:=ha
 obtain rfl:v=.int .i64 n:=hv
 have am : Lib.TabIs prog w "internal/strconv.uint64pow10" .u64 Lib.pow10Tab := by
  rcases hs.tab w hs.keep with h|⟨h,_⟩
  ·exact absurd h Ix
  ·exact h
 refine(AP (strconv_Itoa n h0 h1 w am)).mono ?_
 rintro e w' ⟨rfl,k,os,rfl⟩
 refine⟨g,.ret (.str (Lib.itoa n)),O,.refl g,?_,⟨_,rfl,rfl⟩,rfl,rfl⟩
 refine hs.later (fun k x hx=>?_) rfl
 have hk:k<w.heap.size:=(Array.getElem?_eq_some_iff.1 hx).1
 show(w.heap++os)[k]? = some x
 rw[Array.getElem?_append_left hk];exact hx
theorem N0{w:Go.World}{b:Nat}{vs:Array Value}{ty:TypeId}{x:Value}(h:w.heap[b]? = some (.cells vs ty (0,0))):w.setCell ⟨b,0,none⟩ x=setB w b (.cells (vs.setIfInBounds 0 x) ty (0,0)):=by
 have e:w.heap.setIfInBounds b (.cells (vs.setIfInBounds 0 x) ty (0,0))=(w.setCell ⟨b,0,none⟩ x).heap:=by
  unfold World.setCell
  apply Array.ext_getElem?
  intro k
  by_cases hk:b=k
  ·subst hk
   have hb:b<w.heap.size:=(Array.getElem?_eq_some_iff.1 h).1
   rw[Array.getElem?_setIfInBounds_self_of_lt hb,Array.getElem?_modify,if_pos rfl,h];rfl
  ·simp[Array.getElem?_modify,hk]
 unfold setB
 rw[e];rfl
theorem Pw(ib:Nat)(v:D)(O:Sig)(h:O ib=some (.tcells 159 [.nilp,v])):BL prog 161 [.ptr ib 0] O fun x U'=>x=.ret (.tup [])/\U'=O.set ib (.cells [.ptr ib 0,v]):=by
 refine⟨by rw[Ac];decide,AI func161 (by rfl) (by rfl),fun g w vs r hr hs ha=>?_⟩
 obtain rfl:r=_:=hr
 obtain⟨pv,r,rfl,⟨b,hb,rfl⟩,rfl⟩:=ha
 obtain⟨b',vs,aj,aa,ah⟩:=hs.obj ib _ h
 obtain rfl:b'=b:=by rw[hb]at aj;cases aj;rfl
 obtain⟨v0,r0,ax,h0,v1,r1,rfl,h1,rfl⟩:=ah
 obtain rfl:v0=.pointer none:=h0
 obtain rfl:vs=#[.pointer none,v1]:=by apply Array.ext';simpa using ax
 refine(AP (IV b' w (by simp[World.cell?, aa]) (by simp[World.shape?, aa]) (by simp[World.frozen?, aa]))).mono ?_
 rintro e w' ⟨rfl,rfl⟩
 refine⟨g,.ret (.tup []),_,.refl g,?_,⟨_,rfl,[],rfl,rfl⟩,rfl,rfl⟩
 rw[N0 aa]
 refine hs.setAny h rfl rfl hb aa ⟨b',_,159,hb,Ee aa,?_⟩
 exact⟨_,_,rfl,⟨b',hb,rfl⟩,_,_,rfl,h1,rfl⟩
theorem Pv(ib:Nat)(v:D)(O:Sig)(h:O ib=some (.cells [.ptr ib 0,v])):BL prog 161 [.ptr ib 0] O (rS (.tup []) O):=by
 refine⟨by rw[Ac];decide,AI func161 (by rfl) (by rfl),fun g w vs r hr hs ha=>?_⟩
 obtain rfl:r=_:=hr
 obtain⟨pv,r,rfl,⟨b,hb,rfl⟩,rfl⟩:=ha
 obtain⟨b',vs,ty,aj,aa,ah⟩:=hs.obj ib _ h
 obtain rfl:b'=b:=by rw[hb]at aj;cases aj;rfl
 obtain⟨v0,r0,ax,⟨b2,bn,rfl⟩,v1,r1,rfl,h1,rfl⟩:=ah
 obtain rfl:b2=b':=by rw[hb]at bn;cases bn;rfl
 obtain rfl:vs=#[.pointer (some ⟨b2,0,none⟩),v1]:=by apply Array.ext';simpa using ax
 refine(AP (Jm b2 w (by simp[World.cell?, aa]))).mono ?_
 rintro e w' ⟨rfl,rfl⟩
 exact⟨g,.ret (.tup []),_,.refl g,hs,⟨_,rfl,[],rfl,rfl⟩,rfl,rfl⟩
def BldS(ib:Nat)(S0:Sig)(bs:List UInt8)(O:Sig):Prop:=
 Sub S0 O/\S0 ib=none/\((bs=[]/\O ib=some (.tcells 159 [.nilp,.nils])) \/ ∃r:BR,O ib=some (.cells [.ptr ib 0,r.d bs.length])/\BRAt 5 O r bs /\ ¬r.is ib /\ ∀j,r.is j->S0 j=none)
theorem BRAt.set{e:Nat}{O:Sig}{r:BR}{bs:List UInt8}(h:BRAt e O r bs){i:Nat}{o:DObj}(hi:¬r.is i):BRAt e (O.set i o) r bs:=by
 rcases r with _|⟨k,c,cs⟩
 ·exact h
 ·exact⟨by rw[w7 _ _ fun e=>hi e.symm];exact h.1,h.2⟩
theorem bapp{ro:Ro}{n:Nat}{ops:Array Oper}{Q:DX->St->Prop}{df:List DDf}{rest:List Oper}{γ Sr:Fr}{O:Sig}{t:Nat}{ty:TypeId}{pos:String}{after:Array Edge}{s x:Operand}{bs str:List UInt8}{r:BR}
  (h:∀r' U',BRAt 5 U' r' (bs++str)->(∀j o,O j=some o->¬r.is j->U' j=some o /\ ¬r'.is j)->DOps prog ro n ops Q rest ⟨(t,r'.d (bs++str).length)::γ,U',df⟩) (hm:BRAt 5 O r bs) (hb:bs.length+str.length<=140737488355328)
  (hl:A0 γ (A5 [s,x])=some Sr:=by exact tdR) (h1:ev Sr s=r.d bs.length:=by exact tdR) (h2:ev Sr x=.str str:=by exact tdR) (aK:decide (t<n)=true:=by exact tdR) :
  DOps prog ro n ops Q (⟨some t,.call { callee:=.builtin .append,args:= #[s,x],argTypes:= #[96,9] },ty,pos,after,none⟩::rest) ⟨γ,O,df⟩:=by
 obtain⟨e1,e2⟩:=evs hl
 exact Tk Ad (by simpa using aK) (by simp<;>rfl) (by simp<;>rfl) (by simp) (by simp) (by simp) (by rw[<-e1];exact h1) hm (by rw[<-e2];exact h2) hb h
theorem Eo(ib:Nat)(S0:Sig)(bs s:List UInt8)(O:Sig)(hB:BldS ib S0 bs O)(hb:bs.length+s.length<=1000000000):BL prog 83 [.ptr ib 0,.str s] O fun x U'=>x=.ret (.tup [dI s.length,.niliface])/\BldS ib S0 (bs++s) U':=by
 obtain⟨hS,h0,hB⟩:=hB
 refine enW func83 ntmps83 ?_
 rcases hB with⟨rfl,h1⟩|⟨r,h1,h2,h3,h4⟩
 ·refine gz ?_
  refine Bn (Pw ib _ O h1) (fun d U1 hr=>?_) (fun d U1 hr=>by cases hr.1)
  obtain⟨hd,rfl⟩:=hr
  cases hd
  have u1:(O.set ib (.cells [.ptr ib 0,.nils])) ib=some (.cells [.ptr ib 0,.nils]):=w6 ..
  refine gf u1 ?_
  refine bapp (bs:=[]) (str:=s) (r:=none) (fun r' U2 k1 k2=>?_) rfl (by simp at hb⊢; omega)
  obtain⟨u2,u3⟩:=k2 _ _ u1 id
  have ag:BldS ib S0 ([]++s) (U2.set ib (.cells [.ptr ib 0,r'.d ([]++s).length])):=by
   refine⟨fun j o hj=>?_,h0,.inr ⟨r',w6 ..,?_,u3,fun j hj=>?_⟩⟩
   ·have ar:j≠ib:=nn2 hj h0
    rw[w7 _ _ ar]
    exact(k2 j o (by rw[w7 _ _ ar];exact hS j o hj) id).1
   ·exact k1.set u3
   ·cases au:S0 j with
    |none=>rfl
    |some o=>exact absurd hj (k2 j o (by rw[w7 _ _ (nn2 au h0)];exact hS j o au) id).2
  rcases r' with _|⟨i,c,cs⟩<;>simp only[BR.d]at ag⊢
  ·refine gf u2 ?_
   exact UB (U':=_) ⟨rfl,ag⟩
  ·refine gf u2 ?_
   exact UB (U':=_) ⟨rfl,ag⟩
 ·refine gz ?_
  refine Bn (Pv ib _ O h1) (fun d U1 hr=>?_) (fun d U1 hr=>by cases hr.1)
  obtain⟨hd,rfl⟩:=hr
  cases hd
  refine gf h1 ?_
  refine bapp (bs:=bs) (str:=s) (r:=r) (fun r' U2 k1 k2=>?_) h2 (by omega)
  obtain⟨u2,u3⟩:=k2 _ _ h1 h3
  have ag:BldS ib S0 (bs++s) (U2.set ib (.cells [.ptr ib 0,r'.d (bs++s).length])):=by
   refine⟨fun j o hj=>?_,h0,.inr ⟨r',w6 ..,?_,u3,fun j hj=>?_⟩⟩
   ·have ar:j≠ib:=nn2 hj h0
    rw[w7 _ _ ar]
    exact(k2 j o (hS j o hj) fun h=>by rw[h4 j h]at hj;cases hj).1
   ·exact k1.set u3
   ·cases au:S0 j with
    |none=>rfl
    |some o=>exact absurd hj (k2 j o (hS j o au) fun h=>by rw[h4 j h]at au;cases au).2
  rcases r' with _|⟨i,c,cs⟩<;>simp only[BR.d]at ag⊢
  ·refine gf u2 ?_
   exact UB (U':=_) ⟨rfl,ag⟩
  ·refine gf u2 ?_
   exact UB (U':=_) ⟨rfl,ag⟩
theorem Pj{w:Go.World}{b n:Nat}{vs:Array Value}{ty:TypeId}(h:w.heap[b]? = some (.cells vs ty (0,0)))(hn:n≠0):w.freeze ⟨b,0,none⟩ n=setB w b (.cells vs ty (0,0+n)):=by
 have e:w.heap.setIfInBounds b (.cells vs ty (0,0+n))=(w.freeze ⟨b,0,none⟩ n).heap:=by
  unfold World.freeze
  rw[if_neg hn]
  apply Array.ext_getElem?
  intro k
  by_cases hk:b=k
  ·subst hk
   have hb:b<w.heap.size:=(Array.getElem?_eq_some_iff.1 h).1
   rw[Array.getElem?_setIfInBounds_self_of_lt hb,Array.getElem?_modify,if_pos rfl,h];rfl
  ·simp[Array.getElem?_modify,hk]
 unfold setB
 rw[e]
 unfold World.freeze
 rw[if_neg hn]
theorem UG(ib:Nat)(S0:Sig)(bs:List UInt8)(O:Sig)(hB:BldS ib S0 bs O)(hne:bs≠[])(hb:bs.length<=1000000000):BL prog 86 [.ptr ib 0] O (rS (.str bs) S0):=by
 obtain⟨hS,h0,hB⟩:=hB
 rcases hB with⟨rfl,_⟩|⟨r,h1,h2,h3,h4⟩
 ·exact absurd rfl hne
 rcases r with _|⟨i,c,cs⟩
 ·exact absurd h2 hne
 obtain⟨h5,h6⟩:=h2
 refine⟨by rw[Ac];decide,AI func86 (by rfl) (by rfl),fun g w vs r hr hs ha=>?_⟩
 obtain rfl:r=_:=hr
 obtain⟨pv,r,rfl,⟨b,bw,rfl⟩,rfl⟩:=ha
 obtain⟨b',vs,ty,aj,aa,ah⟩:=hs.obj ib _ h1
 obtain rfl:b'=b:=by rw[bw]at aj;cases aj;rfl
 obtain⟨v0,r0,ax,_,v1,r1,rfl,⟨bg,bm,rfl⟩,rfl⟩:=ah
 obtain rfl:vs=#[v0,.slice (some ⟨bg,0,none⟩) bs.length c]:=by apply Array.ext';simpa using ax
 obtain⟨bg',vg,aE,aH,bl⟩:=hs.obj i _ h5
 obtain rfl:bg'=bg:=by rw[bm]at aE;cases aE;rfl
 have bz:=RepL.length bl
 simp only[Array.length_toList,List.length_append,List.length_map]at bz
 refine(AP (Jo b' bg' c v0 ty bs vg w hne aa aH (by omega) (by omega) (by omega) fun j x hj=>?_)).mono ?_
 ·have hg:=RepL.get bl j
  have bD:=(List.getElem?_eq_some_iff.1 hj).1
  rw[List.getElem?_append_left (by simpa using bD),List.getElem?_map,hj]at hg
  simp only[Option.map_some,Array.getElem?_toList]at hg
  have bi:j<vg.size:=by omega
  rw[Array.getElem?_eq_getElem bi]at hg
  simp only[World.cell?, aH]
  rw[Array.getElem?_eq_getElem bi]
  exact congrArg some hg
 ·rintro e w' ⟨rfl,rfl⟩
  have hl:bs.length≠0:=by simpa using hne
  refine⟨g,.ret (.str bs),S0,.refl g,?_,⟨_,rfl,rfl⟩,rfl,rfl⟩
  rw[Pj (w:=w.drew) aH hl]
  refine(hs.drew.kill h5 rfl bm (x:=.cells vg 5 (0,0)) aH).sub fun j o hj=>?_
  have ar:j≠i:=fun e=>by rw[e,h4 i rfl]at hj;cases hj
  simp only[Sig.del,ar,if_false]
  exact hS j o hj
theorem newT{ro:Ro}{n:Nat}{ops:Array Oper}{Q:DX->St->Prop}{df:List DDf}{rest:List Oper}{γ:Fr}{O:Sig}{t T:Nat}{ty:TypeId}{pos:String}{after:Array Edge}(h:∀i,O i=none->DOps prog ro n ops Q rest ⟨(t,.ptr i 0)::γ,O.set i (.tcells T (tab T).zero),df⟩)(hk:A1 (tab T).k=false:=by simp)(aK:decide (t<n)=true:=by exact tdR):
  DOps prog ro n ops Q (⟨some t,.alloc T,ty,pos,after,none⟩::rest) ⟨γ,O,df⟩:=Nw Ad hk (by simpa using aK) h
@[simp] theorem cIns_tk(x:CIns):List.take 2 (cIns x)=cIns x:=rfl
@[simp] theorem cIns_mem(x:CIns)(d:D):(d∈cIns x)=(d=dI x.op\/d=dI x.a):=by simp[cIns]
theorem Ol(c:CProg)(O:Sig)(h1:c.ins.length<=1073741824)(h2:c.starts.length<=1073741824):BL prog 40 [.agg (cCPg c)] O (rS (if AG c then .tup [.str (Cz c),dI 0] else .tup [.str [],dI 2]) O):=by
 have aC:∀l:List Int,l.all farN=true->∀n∈l,0<=n/\n<=1000000000:=fun l h n hn=>by have:=List.all_eq_true.1 h n hn;unfold farN at this;simpa using this
 refine enW func40 ntmps40 ?_
 repeat' first|refine gz ?_ o40|apply gy<;>intro hh
 ·refine fin2 (U':=O) ⟨by rw[hh];rfl,rfl⟩
 ·have hp:=hh
  unfold AG at hp
  simp only[Bool.and_eq_true,decide_eq_true_eq]at hp
  obtain⟨c1,c2,c3,c4,c5⟩:=hp
  have hT:=Kq hh
  have hm:0<=c.main/\c.main<=1000000000:=by unfold farN at c3;simpa using c3
  have aJ:Cz c=Ej c++10::listB (fun l=>l++[10]) (c.ins.map Bw):=by unfold Cz;rw[listB,List.append_assoc];rfl
  have bB:(Ej c).length=(listB (fun n=>Lib.itoa n++[32]) c.starts).length+2+(Lib.itoa c.main).length:=by unfold Ej;simp;omega
  have br:=congrArg List.length aJ
  rw[List.length_append,List.length_cons]at br
  refine newT (fun ib bk=>?_)
  have aF:BldS ib O [] (O.set ib (.tcells 159 (tab 159).zero)):=⟨(Sub.refl _).set bk,bk,.inl ⟨rfl,w6 ..⟩⟩
  generalize O.set ib (.tcells 159 (tab 159).zero)=U1 at aF
  refine gz ?_ o40
  refine Ft [1,2,3,4,8,13,14,24,25,26,27,28,29,30,31,32,33,34,35,36,37,38,39,40,41,42,43,44,45,46,47,48,49,50,51,52,53,54] (fun (k:Nat) (bs:List UInt8) (U2:Sig)=>k<=c.starts.length/\BldS ib O bs U2/\bs++listB (fun n=>Lib.itoa n++[32]) (c.starts.drop k)=listB (fun n=>Lib.itoa n++[32]) c.starts) (fun k _ _=>[(15,dI k)]) (fun _ _ U2=>U2) (fun k _ _=>c.starts.length-k) (0) ([]) (U1) (by exact⟨by omega,aF,rfl⟩) (fun k bs U2 hI=>?_)
  obtain⟨hk,hB,hE⟩:=hI
  have aX:=congrArg List.length hE
  rw[List.length_append]at aX
  by_cases ai:k<c.starts.length
  ·rw[Ab ai,listB]at hE
   obtain⟨n1,n2⟩:=aC _ c4 _ (List.getElem_mem ai)
   have bU:=Ip (n:=c.starts[k]) ⟨by omega,by omega⟩
   refine gz ?_ o40
   refine Bn (HB c.starts[k] U2 (by omega) (by omega)) (fun d S3 hr=>?_) (fun d S3 hr=>by cases hr.1)
   obtain⟨hd,rfl⟩:=hr
   cases hd
   refine gz ?_ o40
   refine Bn (Eo ib O bs (Lib.itoa c.starts[k]++[32]) _ hB (by simp;omega)) (fun d S3 hr=>?_) (fun d S3 hr=>by cases hr.1)
   obtain⟨hd,ak⟩:=hr
   cases hd
   refine gz ?_ o40
   exact⟨k+1,bs++(Lib.itoa c.starts[k]++[32]),S3,⟨by omega,ak,by rw[List.append_assoc];exact hE⟩,td1,wkR⟩
  ·rw [Aj ai,listB,List.append_nil] at hE
   refine gz ?_ o40
   refine Bn (HB c.main U2 (by omega) (by omega)) (fun d S3 hr=>?_) (fun d S3 hr=>by cases hr.1)
   obtain⟨hd,rfl⟩:=hr
   cases hd
   refine gz ?_ o40
   refine Bn (Eo ib O bs ([58,32]++Lib.itoa c.main++[10]) _ hB (by simp;omega)) (fun d S3 hr=>?_) (fun d S3 hr=>by cases hr.1)
   obtain⟨hd,ak⟩:=hr
   cases hd
   have bq:bs++([58,32]++Lib.itoa c.main++[10])++listB (fun l=>l++[10]) (c.ins.map Bw)=Cz c:=by rw[aJ];unfold Ej;simp[hE]
   generalize bs++([58,32]++Lib.itoa c.main++[10])=bs3 at ak bq
   refine gz ?_ o40
   refine Ft [2,3,4,31,32,53,54] (fun (k:Nat) (bs:List UInt8) (U2:Sig)=>k<=c.ins.length/\BldS ib O bs U2/\bs++listB (fun l=>l++[10]) ((c.ins.drop k).map Bw)=Cz c) (fun k _ _=>[(33,dI k)]) (fun _ _ U2=>U2) (fun k _ _=>c.ins.length-k) (0) (bs3) (S3) (by exact⟨by omega,ak,bq⟩) (fun k bs U2 hI=>?_)
   obtain⟨hk,hB,hE⟩:=hI
   have aX:=congrArg List.length hE
   rw[List.length_append]at aX
   by_cases ai:k<c.ins.length
   ·rw[Ab ai,List.map_cons,listB]at hE
    have hI:=List.all_eq_true.1 c5 _ (List.getElem_mem ai)
    have bS:=KJ hI
    unfold BI at hI
    simp only[Bool.and_eq_true,decide_eq_true_eq]at hI
    obtain⟨⟨bW,bV⟩,aq⟩:=hI
    have bP:wordsC.length=21:=rfl
    have aI:FR c.ins[k].op=wordsC[c.ins[k].op.toNat-1]'(by omega):=by unfold FR;rw[show(c.ins[k].op-1).toNat=c.ins[k].op.toNat-1 by omega,List.getElem?_eq_getElem (by omega)];rfl
    have bf:(Bw c.ins[k]).length=(wordsC[c.ins[k].op.toNat-1]'(by omega)).length+(if hasA c.ins[k].op then 1+(Lib.itoa c.ins[k].a).length else 0):=by
     unfold Bw;rw[aI,List.length_append];split<;>simp<;>omega
    have bY:(listB (fun l=>l++[10]) (List.map Bw (List.drop k c.ins))).length=(Bw c.ins[k]).length+1+(listB (fun l=>l++[10]) (List.map Bw (List.drop (k+1) c.ins))).length:=by
     rw[Ab ai,List.map_cons,listB];simp;omega
    by_cases hA:hasA c.ins[k].op=true
    ·rw[if_pos hA]at bf aq
     have b7 : -1000000000<=c.ins[k].a/\c.ins[k].a<=1000000000:=by
      split at aq
      ·unfold inB at aq;simp at aq;omega
      ·unfold farN at aq;simp at aq;omega
     have ap:Bw c.ins[k]=wordsC[c.ins[k].op.toNat-1]'(by omega)++([32]++Lib.itoa c.ins[k].a):=by unfold Bw;rw[aI,if_pos hA];rfl
     refine gz ?_ o40
     refine Bn (Eo ib O bs (wordsC[c.ins[k].op.toNat-1]'(by omega)) _ hB (by omega)) (fun d S3 hr=>?_) (fun d S3 hr=>by cases hr.1)
     obtain⟨hd,ak⟩:=hr
     cases hd
     refine gf hA ?_ o40
     refine Bn (HB c.ins[k].a S3 (by omega) (by omega)) (fun d S4 hr=>?_) (fun d S4 hr=>by cases hr.1)
     obtain⟨hd,rfl⟩:=hr
     cases hd
     refine gz ?_ o40
     refine Bn (Eo ib O _ ([32]++Lib.itoa c.ins[k].a) _ ak (by simp;omega)) (fun d S3 hr=>?_) (fun d S3 hr=>by cases hr.1)
     obtain⟨hd,bM⟩:=hr
     cases hd
     refine gz ?_ o40
     refine Bn (Eo ib O _ [10] _ bM (by simp;omega)) (fun d S3 hr=>?_) (fun d S3 hr=>by cases hr.1)
     obtain⟨hd,aZ⟩:=hr
     cases hd
     rw[ap]at hE
     refine gz ?_ o40
     exact⟨k+1,_,_,⟨by omega,aZ,by simpa[List.append_assoc] using hE⟩,td1,wkR⟩
    ·rw[if_neg hA]at bf aq
     have bN:hasA c.ins[k].op=false:=by simpa using hA
     have ap:Bw c.ins[k]=wordsC[c.ins[k].op.toNat-1]'(by omega):=by unfold Bw;rw[aI,if_neg hA,List.append_nil]
     refine gz ?_ o40
     refine Bn (Eo ib O bs (wordsC[c.ins[k].op.toNat-1]'(by omega)) _ hB (by omega)) (fun d S3 hr=>?_) (fun d S3 hr=>by cases hr.1)
     obtain⟨hd,ak⟩:=hr
     cases hd
     refine gf bN ?_ o40
     refine Bn (Eo ib O _ [10] _ ak (by simp;omega)) (fun d S3 hr=>?_) (fun d S3 hr=>by cases hr.1)
     obtain⟨hd,aZ⟩:=hr
     cases hd
     rw[ap]at hE
     refine gz ?_ o40
     exact⟨k+1,_,_,⟨by omega,aZ,by simpa[List.append_assoc] using hE⟩,td1,wkR⟩
   ·rw[Aj ai,List.map_nil,listB,List.append_nil]at hE
    subst hE
    refine gz ?_ o40
    refine Bn (UG ib O _ _ hB (by rw[aJ];simp) (by omega)) (fun d S3 hr=>?_) (fun d S3 hr=>by cases hr.1)
    obtain⟨hd,rfl⟩:=hr
    cases hd
    refine gz ?_ o40
    refine fin2 (U':=S3) ⟨by rw[hh];rfl,rfl⟩
end Go.DL
