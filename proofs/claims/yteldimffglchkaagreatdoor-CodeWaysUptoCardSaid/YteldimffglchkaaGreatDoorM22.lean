/- A part of the proof. -/
import Derived.Test.YteldimffglchkaaGreatDoorM15
import Derived.Test.YteldimffglchkaaGreatDoorM19
import Derived.Test.YteldimffglchkaaGreatDoorM14
import Derived.Test.YteldimffglchkaaGreatDoorM16
import Derived.Test.YteldimffglchkaaGreatDoorM20
import Derived.Test.YteldimffglchkaaGreatDoorM21
import Derived.Stop.LaidErr
import Derived.Shelf.Vars
import Derived.LaidLaws
import Derived.Shelf.LaysC
import Derived.Shelf.Strconv.AtoiAll
import Derived.Test.YteldimffglchkaaGreatDoorProg
import Derived.Shelf.Strings.Cut
import Derived.Shelf.Strings.Prefix
import Derived.Shelf.Strings.Split
import Derived.Shelf.Strings.Builder1
import Derived.Shelf.LaysM
import Derived.Shelf.Strconv.Itoa3
set_option linter.all false
namespace Go.DL
open Go.Proofs.Tryz
open Go Go.Proofs
set_option maxHeartbeats 8000000
def cIns(x:CIns):List D:=[dI x.op,dI x.a]
@[simp] theorem cIns_len(x:CIns):(cIns x).length=2:=rfl
@[simp] theorem cIns_flat(x:CIns):BC (cIns x)=true:=rfl
abbrev cLev(l:CLev):List D:=[dI l.st,dI l.env]
theorem VD:EqTy prog 87:=⟨by kernel_rfl,by kernel_rfl,by kernel_rfl⟩
theorem Ti:EqTy prog 79:=⟨by kernel_rfl,by kernel_rfl,by kernel_rfl⟩
theorem Vt:(tab 87).k=.struct [(0,85),(1,3)]:=rfl
theorem Re:(tab 79).k=.struct [(0,3),(1,3)]:=rfl
theorem eqIns(a b:CIns):eqFs tab (cIns a) (cIns b) [(0,85),(1,3)]=some (decide (a=b)):=by
 cases a;cases b
 simp[cIns,CIns.mk.injEq,Bool.decide_and]
theorem eqLev(a b:CLev):eqFs tab (cLev a) (cLev b) [(0,3),(1,3)]=some (decide (a=b)):=by
 cases a;cases b
 simp[cLev,CLev.mk.injEq,Bool.decide_and]
theorem UJ(op:Int)(O:Sig):DCall prog 72 [dI op] O (rS (.bool (hasA op)) O):=by
 refine en func72 ntmps72 ?_
 repeat' first|refine gz ?_|apply gy<;>intro hh
 any_goals (first|(refine fin1 (U':=O) ?_;exact⟨by first|rfl|(simp[Go.DL.hasA];done)|(simp_all [Go.DL.hasA];done)|(rw[Am,Bool.eq_iff_iff];simp_all [Go.DL.hasA]<;>omega),rfl⟩)|fail)
@[reducible,instance] def a72:=fun op O=>ah0 (@UJ op O)
theorem F5(n:Int)(O:Sig):DCall prog 150 [dI n] O (rS (.bool (!farN n)) O):=by
 refine en func150 ntmps150 ?_
 repeat' first|refine gz ?_|apply gy<;>intro hh
 any_goals (first|(refine fin1 (U':=O) ?_;exact⟨by first|rfl|(simp[farN];done)|(simp_all [farN];done)|(rw[Am,Bool.eq_iff_iff];simp_all [farN]<;>omega),rfl⟩)|fail)
@[reducible,instance] def a150:=fun n O=>ah0 (@F5 n O)
def unfC:D:=.iface 245 (.agg [])
theorem UG(b:Bool)(O:Sig):DCall prog 78 [.bool b] O fun x U'=>x=(if b then .ret (.tup []) else .panic unfC)/\U'=O:=by
 refine en func78 ntmps78 ?_
 cases b
 ·refine gz ?_
  refine pan ?_
  exact finP (U':=O) ⟨rfl,rfl⟩
 ·refine gz ?_
  exact DK (U':=O) ⟨rfl,rfl⟩
@[reducible,instance] def a78:=fun b O=>gh0 (@UG b O)
theorem Hj{P:Program}{F:Fence}{n:Nat}{Q:Exit->Act->List Frame->Go.World->Prop}{a:Act}{cs cs':List Frame}{w:Go.World}{id t4 ty1:Nat}{p1:String}{a1:Array Edge}{rest:Code}{v:Value}
  (ay:recoverD cs=some (v,cs')\/(recoverD cs=none/\v=.nilIface/\cs'=cs)) (aq:t4<a.tmps.size)
  (h:rest.wpSIn F n P Q (a.put (some t4) v) cs' w) :
  (Code.seq (.region id #[⟨some t4,.call { callee:=.builtin .recover,args:= #[],argTypes:= #[] },ty1,p1,a1,none⟩] false) rest).wpSIn F n P Q a cs w:=by
 refine wpSIn_seq (wpSIn_region ?_)
 have hr:List.range (#[(⟨some t4,.call { callee:=.builtin .recover,args:= #[],argTypes:= #[] },ty1,p1,a1,none⟩:Oper)]:Array Oper).size=[0]:=rfl
 rw[hr]
 exact Ho (o:=⟨some t4,.call { callee:=.builtin .recover,args:= #[],argTypes:= #[] },ty1,p1,a1,none⟩) rfl rfl (fun f h=>by cases h) rfl ay h
theorem MC{P:Program}{f:Nat}{fn:Func}{id t4 ty1:Nat}{p1:String}{a1:Array Edge}{rest:Code}{args:List D}{O U':Sig}{pan:Option D}{m:Nat}
  (hf:P.funcs[f]? = some fn) (hb:fn.body=some (Code.seq (.region id #[⟨some t4,.call { callee:=.builtin .recover,args:= #[],argTypes:= #[] },ty1,p1,a1,none⟩] false) rest))
  (hm:fn.ntmps=m) (hn:args.length<=m) (aq:t4<m) (ax:fn.results=#[])
  (h:DWp P .none m rest (fun x s=>(x=.normal\/x=.ret)/\s.df=[]/\Sub U' s.O) ⟨(t4,pan.getD .niliface)::Bn 0 args,O,[]⟩):Ju P f args O pan U':=by
 intro g w vs u hs ha hu
 subst hm
 have aW:f<P.funcs.size:=(Array.getElem?_eq_some_iff.1 hf).1
 refine callsDIn_of_wpSIn hf hb (EA aW _) fun c₀ cs hc=>?_
 have hT:=Db ha hn
 have aA:∀(d:D) (v:Value),Rep g d v->RepT g ((t4,d)::Bn 0 args) fn.ntmps (({ tmps:=vs.toArray++Array.replicate (fn.ntmps-vs.toArray.size) undef,defers:=[] }:Act).put (some t4) v).tmps:=by
  intro d v hv
  exact RepT.put (o := ⟨some t4, .move (.tmp 0), 0, "", #[], none⟩) (a := { tmps := vs.toArray ++ Array.replicate (fn.ntmps - vs.toArray.size) undef, defers := [] }) hT hv (by simp [Ap, aq])
 have hsz:t4<(vs.toArray++Array.replicate (fn.ntmps-vs.toArray.size) undef).size:=by rw[hT.1];exact aq
 have fin:∀(d:D) (v:Value) (u':FrameMode) (cs':List Frame),pan.getD .niliface=d->Rep g d v->settle u'=.returning->cs'={ c₀ with mode:=u' }::cs->
   rest.wpSIn (FX P {}) 0 P (bodyPostS P fn c₀ cs fun e u' w'=>(∃v,e=.returned v)/\settle u'=.returning /\ ∃g',g.le g'/\Sim P g' U' w')
    (({ tmps:=vs.toArray++Array.replicate (fn.ntmps-vs.toArray.size) undef,defers:=[] }:Act).put (some t4) v) cs' w:=by
  intro d v u' cs' hd hv ai ag
  refine wpSIn_of_wpIn rfl ?_
  subst hd
  refine wpIn_mono (h g w _ {} rfl ⟨hs,aA _ v hv,rfl⟩) ?_
  rintro e a w' ⟨g',s',x,l1,l2,l3,hx,ba,ah⟩
  have hd:a.defers=[]:=DS l2.df ba
  have hr:(results fn a.tmps).run P w'=.ok (.tuple #[]) w':=by simp[results,ax]
  rcases hx with rfl|rfl
  ·obtain rfl:=l3
   exact⟨hd,u',ag,_,hr,⟨_,rfl⟩,ai,g',l1,l2.sim.sub ah⟩
  ·obtain rfl:=l3
   exact⟨hd,u',ag,_,hr,⟨_,rfl⟩,ai,g',l1,l2.sim.sub ah⟩
 cases pan with
 |none=>
  have hu:u=.returning:=hu
  subst hu
  refine Hj (v:=.nilIface) (cs':=c₀::cs) (.inr ⟨?_,rfl,rfl⟩) hsz (fin .niliface .nilIface .returning _ rfl rfl rfl ?_)
  ·simp[recoverD,hc]
  ·rw[<-hc]
 |some d=>
  obtain⟨v,rfl,hv⟩:=hu
  refine Hj (v:=v) (cs':={ c₀ with mode:=.panicking [{ v,recovered:=true }] }::cs) (.inl ?_) hsz (fin d v (.panicking [{ v,recovered:=true }]) _ rfl hv rfl rfl)
  simp[recoverD,hc]
theorem Gx(i:Nat)(b:Bool)(O:Sig)(hi:O i=some (.cells [.bool b])):Ju prog 160 [.ptr i 0] O none O/\Ju prog 160 [.ptr i 0] O (some unfC) (O.set i (.cells [.bool false])):=by
 constructor
 ·refine MC func160 rfl ntmps160 (by simp) (by decide) rfl ?_
  simp only[Option.getD_none]
  repeat' first|refine gz ?_|apply gy<;>intro hh
  exact⟨.inl rfl,rfl,Sub.refl _⟩
 ·refine MC func160 rfl ntmps160 (by simp) (by decide) rfl ?_
  simp only[Option.getD_some]
  repeat' first|refine gf hi ?_|apply gy<;>intro hh
  exact⟨.inl rfl,rfl,Sub.refl _⟩
theorem On(g:Nat)(cap:List D)(O:Sig)(R:Sig->DE->Sig->Prop)
  (hg:∀i,O i=none->DCall prog g cap (O.set i (.cells [.bool false])) (R (O.set i (.cells [.bool false]))))
  (hR:∀U' d S'',R U' (.panic d) S''->d=unfC) (hk:∀i S'' x,O i=none->R (O.set i (.cells [.bool false])) x S''->S'' i=some (.cells [.bool false])) :
  DCall prog 76 [.func (.func g) [] cap] O fun x U'=> ∃i S'',O i=none/\U'=S''.del i /\
   ((∃d,R (O.set i (.cells [.bool false])) (.ret d) S''/\x=.ret (.bool true))\/(R (O.set i (.cells [.bool false])) (.panic unfC) S''/\x=.ret (.bool false))):=by
 refine GH (fd:=160) func76 rfl (AI func160 (by rfl) (by rfl)) (by rw[Ab];decide) (by decide) ntmps76 (by simp) ?_
 refine gz ?_ [] [2]
 refine newV (fun i hi=>?_)
 refine gz ?_ [] [2]
 refine K9 (f:=160) (by rw[Ab];decide) rfl rfl ?_
 refine gz ?_ [] [2]
 refine A3 (hg i hi) (fun d U' hr=>?_) (fun d U' hp=>?_)
 ·have aF:=hk i U' _ hi hr
  refine gf aF ?_ [] [2]
  refine⟨_,Wk.refl _ _ _,[.ptr i 0],U'.set i (.cells [.bool true]),.bool true,rfl,(Gx i true _ (w6 ..)).1,Ce (ds:=[.bool true]) Ac ?_,.ret (.bool true),U'.del i,A8 _,GN,i,U',hi,rfl,.inl ⟨d,hr,rfl⟩⟩
  simp[resL]
 ·have aF:=hk i U' _ hi hp
  obtain rfl:=hR _ _ _ hp
  refine gz ?_ [] [2]
  refine⟨_,Wk.refl _ _ _,[.ptr i 0],U'.set i (.cells [.bool false]),.bool false,rfl,(Gx i false _ aF).2,Ce (ds:=[.bool false]) Ac ?_,.ret (.bool false),U'.del i,A8 _,GN,i,U',hi,rfl,.inr ⟨hp,rfl⟩⟩
  simp[resL]
abbrev cCPg(c:CProg):List D:=[sl (c.ins.map cIns),sl (cI c.starts),dI c.main]
def cChk(p:BProg)(c:CProg)(im:Nat):D:=.cptr (cCPg c++Ag p++[.map im]) 0
theorem SN(p:BProg)(c:CProg)(im:Nat)(x:CIns)(O:Sig)(hp:p.wt<=1073741824)(hx:x.op=19->0<=x.a/\x.a<p.gens.length):DCall prog 171 [cChk p c im,.agg (cIns x)] O (rS (.tup [dI (Ao p x).1,dI (Ao p x).2]) O):=by
 obtain⟨p1,p2,p3,p4,p5,p6,p7⟩:=p.wt_le
 by_cases am:x.op=19
 ·obtain⟨h1,h2⟩:=hx am
  have e:p.gens.getD x.a.toNat 0=p.gens[x.a.toNat]'(by omega):=by rw[List.getD_eq_getElem?_getD,List.getElem?_eq_getElem (by omega)];rfl
  refine en func171 ntmps171 ?_
  repeat' first|refine gf am ?_ o171|apply gy<;>intro hh
  any_goals (first|(refine fin2 (U':=O) ?_;exact⟨by first|rfl|(simp[Ao,am,e];done)|(simp_all [Ao,am,e];done)|(rw[Am,Bool.eq_iff_iff];simp_all [Ao,am,e]<;>omega),rfl⟩)|fail)
 ·refine en func171 ntmps171 ?_
  repeat' first|refine gz ?_ o171|apply gy<;>intro hh
  any_goals (first|(refine fin2 (U':=O) ?_;exact⟨by first|rfl|(simp[Ao];done)|(simp_all [Ao];done)|(rw[Am,Bool.eq_iff_iff];simp_all [Ao]<;>omega),rfl⟩)|fail)
theorem Uw{p:BProg}{N q:Nat}{x:CIns}(h:x.op<1\/21<x.op):fitsQ p N q x=false:=by
 unfold fitsQ;rw[if_neg (by omega),if_neg (by omega),if_neg (by omega),if_neg (by omega),if_neg (by omega),if_neg (by omega),decide_eq_false (by omega)]
theorem UB(p:BProg)(c:CProg)(im:Nat)(q:Nat)(x:CIns)(O:Sig)(hp:p.wt<=1073741824)(hc:c.ins.length<=300)(hq:q<300)(hs : -1000<=p.slots/\p.slots<=1000):DCall prog 99 [cChk p c im,dI q,.agg (cIns x)] O fun r U'=>r=(if fitsQ p c.ins.length q x then .ret (.tup []) else .panic unfC)/\U'=O:=by
 obtain⟨p1,p2,p3,p4,p5,p6,p7⟩:=p.wt_le
 refine en func99 ntmps99 ?_
 repeat' first|((refine finP (U':=O) ⟨?_,rfl⟩;have e:fitsQ p c.ins.length q x=false:=(by first|(simp_all [fitsQ,inB]<;>omega)|exact Uw (by omega));rw[e];rfl))|refine gz ?_ o99|apply gy<;>intro hh
 any_goals (first|(refine DK (U':=O) ⟨?_,rfl⟩;have e:fitsQ p c.ins.length q x=true:=(by simp_all [fitsQ,inB]<;>omega);rw[e];rfl)|fail)
@[reducible,instance] def a99:=fun p c im q x O=>gh4 (@UB p c im q x O)
end Go.DL
namespace Go.DL
open Go.Proofs.Tryz
open Go Go.Proofs Go.ChangeShapes Go.WideShapes Go.ChangeAt Go.RowKit
open Go.Proofs.YteldimffglchkaaGreatDoor
open Go.Proofs.YteldimffglchkaaGreatDoor.Rows (uptoBulk uptoBulkAll)
set_option maxRecDepth 100000
section
variable {H:Type}{enc:TypeId×Value->H}{W:Go.World}{base:Nat}
theorem Va(n:Nat):Dec enc W n 87 cIns (fun _=>1):=fun cs x h=>by
 obtain⟨xs,m,hm,hb,hl,hx,hf⟩:=LD underlying87 h
 rw[show prog.cellsOf 87=2 by kernel_rfl]at hl
 match cs,hl with
 | [v0,v1],_ =>
  match xs,hx with
  |[x0,x1],_=>
   obtain⟨a0,r0,w0⟩:=L6 underlying85 [v0] x0 (Qv (hf 0 _ rfl) (show prog.cellsOf 85=1 by kernel_rfl) rfl)
   obtain⟨a1,r1,w1⟩:=L6 underlying3 [v1] x1 (Qv (hf 1 _ rfl) cellsI rfl)
   refine⟨⟨a0,a1⟩,r0.append r1,?_⟩
   rw[hb];simp only[uptoBulkAll,List.map_cons,List.map_nil];omega
def CProg.wt(c:CProg):Nat:=c.ins.length+c.starts.length
theorem Ts(n:Nat):Dec enc W n 30 cCPg CProg.wt:=fun cs x h=>by
 obtain⟨xs,m,hm,hb,hl,hx,hf⟩:=LD underlying30 h
 rw[show prog.cellsOf 30=3 by kernel_rfl]at hl
 match cs,hl with
 | [v0,v1,v2],_ =>
  match xs,hx with
  |[x0,x1,x2],_=>
   obtain⟨a0,r0,w0⟩:=MB underlying28 (by kernel_rfl:prog.cellsOf 87=2) (by omega) (fun _=>rfl) (fun _ _=>Va _) [v0] x0 (Qv (hf 0 _ rfl) (show prog.cellsOf 28=1 by kernel_rfl) rfl)
   obtain⟨a1,r1,w1⟩:=V9 _ [v1] x1 (Qv (hf 1 _ rfl) (show prog.cellsOf 23=1 by kernel_rfl) rfl)
   obtain⟨a2,r2,w2⟩:=L6 underlying3 [v2] x2 (Qv (hf 2 _ rfl) cellsI rfl)
   refine⟨⟨a0,a1,a2⟩,r0.append (r1.append r2),?_⟩
   rw[hb];clear hf hx hl;simp only[Vk]at*; simp only[CProg.wt,uptoBulkAll,List.map_cons,List.map_nil];omega
theorem Qs{v:Value}{d:DataW H}{ps:List MemPlace}(aa:Value.okWide prog W .any base 30 v)(h:DataW.Trod enc prog W 0 (fun _=>true) true 30 v d ps): ∃c:CProg,Rep (g0 W) (.agg (cCPg c)) v/\c.wt<=Rows.uptoBulk d:=by
 obtain⟨cs,rfl,_⟩:=okWide_struct underlying30 aa
 obtain⟨n,hn⟩:=h
 obtain⟨c,h1,h2⟩:=Ts n _ _ hn
 exact⟨c,⟨cs.toList,by simp,h1⟩,h2⟩
theorem P6:prog.readableRec 30=true:=by kernel_rfl
theorem Ll:30<prog.types.size:=of_decide_eq_true (by kernel_rfl)
end
section
variable {H:Type}{enc:TypeId×Value->H}{W:Go.World}{base:Nat}
theorem U7{v:Value}{d:DataW H}{ps:List MemPlace}(h:DataW.Trod enc prog W 0 (fun _=>true) true 9 v d ps)(aa:Value.okWide prog W .any base 9 v): ∃s:Str,Rep (g0 W) (.str s) v/\s.length<=uptoBulk d:=by
 obtain⟨b,rfl⟩:=okWide_string underlying9 aa
 obtain⟨n,hn⟩:=h
 obtain⟨l,h1,h2⟩:=dec_str (n:=n) underlying9 _ _ hn
 obtain⟨v,r,e,h3,h4⟩:=h1
 cases e
 exact⟨l,h3,by simp only at h2;omega⟩
theorem Qq:prog.readableRec 9=true:=by kernel_rfl
theorem N0:9<prog.types.size:=of_decide_eq_true (by kernel_rfl)
theorem law2s{N:Nat}{f:Func}(hf:f.params=#[30,9])(aU:f.resultTypes=#[4])(hN:∀(c:CProg) (s:Str),c.wt<=1048576->s.length<=1048576->BH prog N [.agg (cCPg c),.str s] (fun _=>none) fun x _=>x=.ret (.bool true))
  {s:ChangeSpec} (hv:s.vars=[]) (a8:∀d e,s.fn H [d,e]={ results:=[.lit (.bool true)],args:=[d,e] }) {args:Array Value}{ds gs:List (DataW H)}{before:List MemPlace}
  (aa:∀(j:Nat) t v,f.params[j]? = some t->args[j]? = some v->Value.okWide prog W .any base t v)
  (hW:DataW.Whole enc prog f.params.toList s.vars false W args.toList ds gs before) (hk:Rows.uptoSmall H (ds++gs)=true) (hP:TK W) :
  Calls prog N args W fun e W'=> ∃v,e=.returned v/\s.post enc prog f false true false false W args v W':=by
 have be:=hW
 obtain⟨p,q,hA,hV,rfl,aZ,aN⟩:=hW
 rw[hv]at hV
 obtain⟨rfl,rfl⟩:=trodVars_none hV
 rw[hf]at hA aa
 obtain⟨v0,vs0,d0,ds0,p0,q0,aR,rfl,rfl,h0,r0⟩:=trodAll_cons hA
 obtain⟨v1,vs1,d1,ds1,p1,q1,aI,rfl,rfl,h1,r1⟩:=trodAll_cons r0
 obtain⟨rfl,rfl,rfl⟩:=trodAll_nil r1
 obtain rfl:args=#[v0,v1]:=by cases args;simp_all
 have hb:Rows.uptoBulk d0+(Rows.uptoBulk d1+0)<=1048576:=of_decide_eq_true hk
 obtain⟨c,hc,bm⟩:=Qs (aa 0 30 v0 rfl rfl) h0
 obtain⟨t,ht,bh⟩:=U7 h1 (aa 1 9 v1 rfl rfl)
 refine(Rd (hN c t (by omega) (by omega)) W hP (vs:=[v0,v1]) ⟨v0,[v1],rfl,hc,v1,[],rfl,ht,rfl⟩).mono fun e W' ⟨he,aC,aV,aB⟩=>?_
 refine⟨_,he,Un hv aU (fun t ht=>?_) be (a8 d0 d1) aC aV aB⟩
 rw[hf]at ht
 have ht:t=30\/t=9:=by simpa using ht
 rcases ht with rfl|rfl
 ·exact⟨P6,Ll⟩
 ·exact⟨Qq,N0⟩
end
abbrev laids7 : List (String × DataW Unit) := [("math/bits.deBruijn32tab", Rows.laid_math_bits_deBruijn32tab), ("math/bits.deBruijn64tab", Rows.laid_math_bits_deBruijn64tab), ("internal/strconv.uint64pow10", Rows.laid_internal_strconv_uint64pow10), ("unicode/utf8.acceptRanges", Rows.laid_unicode_utf8_acceptRanges), ("strconv.ErrRange", Rows.laid_strconv_ErrRange), ("strconv.ErrSyntax", Rows.laid_strconv_ErrSyntax), ("unicode/utf8.first", Rows.laid_unicode_utf8_first)]
theorem laidP7 : laids7.filter (fun x => x.1 == "internal/strconv.uint64pow10") = [("internal/strconv.uint64pow10", Lib.tabData .u64 ((List.range 20).map fun i => ((10 ^ i : Nat) : Int)))] := by kernel_rfl
theorem laidS7 : laids7.filter (fun x => x.1 == "strconv.ErrSyntax") = [("strconv.ErrSyntax", Rows.laid_strconv_ErrSyntax)] := by kernel_rfl
theorem laidR7 : laids7.filter (fun x => x.1 == "strconv.ErrRange") = [("strconv.ErrRange", Rows.laid_strconv_ErrRange)] := by kernel_rfl
theorem Qe : "*" ++ "errors.errorString" = "*errors.errorString" := by decide
theorem name437 (u : TypeId) (h : prog.typeName? 3 u = some "*errors.errorString") : u = 437 :=
 typeName_ptr_named (nm := "errors.errorString") (by rw [Qe]; kernel_rfl) (by kernel_rfl) (by decide) u (by rw [Qe]; exact h)
theorem gSyn : prog.globalNamed "strconv.ErrSyntax" = some 2 := by kernel_rfl
theorem gRan : prog.globalNamed "strconv.ErrRange" = some 3 := by kernel_rfl
theorem gMax : prog.globalNamed "internal/bytealg.MaxLen" = some 0 := by kernel_rfl
theorem I8 {W : Go.World} {n : String} {g : Nat} {text : List UInt8} (h : laidMet prog [(n, .iface "*errors.errorString" (.ptr (.agg [.lit (.string text)])))] W) (hg : prog.globalNamed n = some g) (ht : (prog.globals[g]?).map (·.type) = some 161) : ∃ te pe, W.cell? ⟨g, 0, none⟩ = some (.iface te pe) := by
 obtain⟨a,s,hv,_⟩:=laid_sentinel h hg ht underlying161 name437 underlying437 underlying439 rfl rfl underlying9 (by kernel_rfl) (by kernel_rfl)
 exact⟨437,_,by have:=World.var?_cell hg hv 0;simpa using this⟩
theorem lib_of{W:Go.World}(h:laidMetH prog laids7 W)(hS:W.ShapedOpen prog):TK W:=by
 refine⟨?_,fun g hg=>?_,fun x hx g hg=>?_⟩
 ·have h2 := h.filter (fun x => x.1 == "internal/strconv.uint64pow10")
  rw[laidP7]at h2
  exact Lib.tabIs_of_head (rest:=[]) gPow gPowT underlying389 underlying338 Vf Ve h2
 ·obtain rfl:=Option.some.inj (gMax.symm.trans hg)
  exact cell_of_shapedOpen_int (P:=prog) (g:=0) (t:=3) (zero:= #[.int .i64 0]) hS (of_decide_eq_true (by kernel_rfl)) (by kernel_rfl) rfl (by kernel_rfl) (by kernel_rfl) underlying3
 ·rcases hx with rfl|rfl
  ·obtain rfl:=Option.some.inj (gSyn.symm.trans hg)
   have h2 := h.filter (fun x => x.1 == "strconv.ErrSyntax")
   rw[laidS7]at h2
   exact I8 h2 gSyn (by kernel_rfl)
  ·obtain rfl:=Option.some.inj (gRan.symm.trans hg)
   have h2 := h.filter (fun x => x.1 == "strconv.ErrRange")
   rw[laidR7]at h2
   exact I8 h2 gRan (by kernel_rfl)
def LZ:DataW Unit->List Value
 | .agg xs=>xs.flatMap fun x=>match x with
  |.lit (.int k z)=>[Value.int k z]
  |.agg ys=>ys.map fun y=>match y with
   |.lit (.int k z)=>Value.int k z
   |_=>Value.int .i64 0
  |_=>[]
 |_=>[]
def I7(cs:Array Value):Obj->Obj
 |.cells _ t frozen=>.cells cs t frozen
 |o=>o
def Vn:DataW Unit->ByteArray
 |.iface _ (.ptr (.agg [.lit (.string l)]))=>⟨l.toArray⟩
 |_=>⟨#[]⟩
noncomputable def H3(os:Os):Go.World:=
 let w0:=Go.World.holding prog os ⟨#[.cells #[.string (Vn Rows.laid_strconv_ErrSyntax)] 439,.cells #[.string (Vn Rows.laid_strconv_ErrRange)] 439], #[],[]⟩
 {w0 with heap:=((((((w0.heap.modify 6 (I7 (LZ Rows.laid_math_bits_deBruijn32tab).toArray)).modify 7 (I7 (LZ Rows.laid_math_bits_deBruijn64tab).toArray)).modify 1 (I7 (LZ Rows.laid_internal_strconv_uint64pow10).toArray)).modify 5 (I7 (LZ Rows.laid_unicode_utf8_acceptRanges).toArray)).modify 4 (I7 (LZ Rows.laid_unicode_utf8_first).toArray)).modify 2 (I7 #[.iface 437 (.pointer (some ⟨13,0,none⟩))])).modify 3 (I7 #[.iface 437 (.pointer (some ⟨14,0,none⟩))]) }
end Go.DL
namespace Go.Proofs
open Go.Proofs.Tryz
open Go.Shelf
def laysC172_ren:Go.Shelf.Ren:=⟨fun|172=>168|244=>238|245=>239|247=>283|279=>284|280=>285|281=>286|282=>287|287=>323|316=>324|171=>84|205=>325|321=>358|322=>359|243=>162|246=>233|283=>272|284=>273|285=>274|286=>275|129=>316|317=>315|318=>317|319=>318|320=>319|337=>356|338=>357|n=>n,fun|9=>9|3=>3|75=>161|76=>162|4=>4|5=>5|167=>346|37=>96|0=>0|85=>347|2=>2|168=>349|53=>338|175=>392|46=>320|210=>396|127=>246|145=>439|143=>437|21=>21|171=>337|173=>341|212=>389|51=>373|20=>20|213=>390|232=>452|233=>453|80=>167|n=>n,fun|15=>2|16=>3|17=>1|18=>6|19=>7|n=>n⟩
theorem laysC172:Go.Proofs.LaysC.n172 prog laysC172_ren:={
 mixed:=by kernel_rfl
 f129:=func316.trans (congrArg some (by kernel_rfl))
 f171:=func84.trans (congrArg some (by kernel_rfl))
 f172:=func168.trans (congrArg some (by kernel_rfl))
 f205:=func325.trans (congrArg some (by kernel_rfl))
 f243:=func162.trans (congrArg some (by kernel_rfl))
 f244:=func238.trans (congrArg some (by kernel_rfl))
 f245:=func239.trans (congrArg some (by kernel_rfl))
 f246:=func233.trans (congrArg some (by kernel_rfl))
 f247:=func283.trans (congrArg some (by kernel_rfl))
 f279:=func284.trans (congrArg some (by kernel_rfl))
 f280:=func285.trans (congrArg some (by kernel_rfl))
 f281:=func286.trans (congrArg some (by kernel_rfl))
 f282:=func287.trans (congrArg some (by kernel_rfl))
 f283:=func272.trans (congrArg some (by kernel_rfl))
 f284:=func273.trans (congrArg some (by kernel_rfl))
 f285:=func274.trans (congrArg some (by kernel_rfl))
 f286:=func275.trans (congrArg some (by kernel_rfl))
 f287:=func323.trans (congrArg some (by kernel_rfl))
 f316:=func324.trans (congrArg some (by kernel_rfl))
 f317:=func315.trans (congrArg some (by kernel_rfl))
 f318:=func317.trans (congrArg some (by kernel_rfl))
 f319:=func318.trans (congrArg some (by kernel_rfl))
 f320:=func319.trans (congrArg some (by kernel_rfl))
 f321:=func358.trans (congrArg some (by kernel_rfl))
 f322:=func359.trans (congrArg some (by kernel_rfl))
 f337:=func356.trans (congrArg some (by kernel_rfl))
 f338:=func357.trans (congrArg some (by kernel_rfl))
 t0:=underlying0
 a0:=isAgg0
 z0:=sizeOf0
 v0:=zeroValue0
 t2:=underlying2
 a2:=isAgg2
 z2:=sizeOf2
 v2:=zeroValue2
 t3:=underlying3
 a3:=isAgg3
 z3:=sizeOf3
 v3:=zeroValue3
 t4:=underlying4
 a4:=isAgg4
 z4:=sizeOf4
 v4:=zeroValue4
 t5:=underlying5
 a5:=isAgg5
 z5:=sizeOf5
 v5:=zeroValue5
 t9:=underlying9
 a9:=isAgg9
 z9:=sizeOf9
 v9:=zeroValue9
 t20:=underlying20
 a20:=isAgg20
 z20:=sizeOf20
 v20:=zeroValue20
 t21:=underlying21
 a21:=isAgg21
 z21:=sizeOf21
 v21:=zeroValue21
 t37:=underlying96
 a37:=isAgg96
 z37:=sizeOf96
 v37:=zeroValue96
 t46:=underlying320
 a46:=isAgg320
 z46:=sizeOf320
 v46:=zeroValue320
 t51:=underlying373
 a51:=isAgg373
 z51:=sizeOf373
 v51:=zeroValue373
 t53:=underlying338
 a53:=isAgg338
 z53:=sizeOf338
 v53:=zeroValue338
 t75:=underlying161
 a75:=isAgg161
 z75:=sizeOf161
 v75:=zeroValue161
 t76:=underlying162
 a76:=isAgg162
 z76:=sizeOf162
 v76:=zeroValue162
 t85:=underlying347
 a85:=isAgg347
 z85:=sizeOf347
 v85:=zeroValue347
 t127:=underlying246
 a127:=isAgg246
 z127:=sizeOf246
 v127:=zeroValue246
 t143:=underlying437
 a143:=isAgg437
 z143:=sizeOf437
 v143:=zeroValue437
 t145:=underlying439
 a145:=isAgg439
 z145:=sizeOf439
 v145:=zeroValue439
 t167:=underlying346
 a167:=isAgg346
 z167:=sizeOf346
 v167:=zeroValue346
 t168:=underlying349
 a168:=isAgg349
 z168:=sizeOf349
 v168:=zeroValue349
 t171:=underlying337
 a171:=isAgg337
 z171:=sizeOf337
 v171:=zeroValue337
 t173:=underlying341
 a173:=isAgg341
 z173:=sizeOf341
 v173:=zeroValue341
 t175:=underlying392
 a175:=isAgg392
 z175:=sizeOf392
 v175:=zeroValue392
 t210:=underlying396
 a210:=isAgg396
 z210:=sizeOf396
 v210:=zeroValue396
 t212:=underlying389
 a212:=isAgg389
 z212:=sizeOf389
 v212:=zeroValue389
 t213:=underlying390
 a213:=isAgg390
 z213:=sizeOf390
 t232:=underlying452
 a232:=isAgg452
 z232:=sizeOf452
 v232:=zeroValue452
 t233:=underlying453
 a233:=isAgg453
 z233:=sizeOf453
 v233:=zeroValue453
 g15:=by kernel_rfl
 g16:=by kernel_rfl
 g17:=by kernel_rfl
 g18:=by kernel_rfl
 g19:=by kernel_rfl
 t80:=underlying167
 a80:=isAgg167
 z80:=sizeOf167
 v80:=zeroValue167
 i0:=by kernel_rfl
 i2:=by kernel_rfl
 i3:=by kernel_rfl
 i4:=by kernel_rfl
 i5:=by kernel_rfl
 i9:=by kernel_rfl
 i20:=by kernel_rfl
 i21:=by kernel_rfl
 i37:=by kernel_rfl
 i46:=by kernel_rfl
 i51:=by kernel_rfl
 i53:=by kernel_rfl
 i75:=by kernel_rfl
 i76:=by kernel_rfl
 i80:=by kernel_rfl
 i85:=by kernel_rfl
 i127:=by kernel_rfl
 i143:=by kernel_rfl
 i145:=by kernel_rfl
 i167:=by kernel_rfl
 i168:=by kernel_rfl
 i171:=by kernel_rfl
 i173:=by kernel_rfl
 i175:=by kernel_rfl
 i210:=by kernel_rfl
 i212:=by kernel_rfl
 i232:=by kernel_rfl
 i233:=by kernel_rfl
 m15:=by kernel_rfl
 m16:=by kernel_rfl
 m17:=by kernel_rfl
 m18:=by kernel_rfl
 m19:=by kernel_rfl
 c0:=by kernel_rfl
 c2:=by kernel_rfl
 c3:=by kernel_rfl
 c4:=by kernel_rfl
 c5:=by kernel_rfl
 c9:=by kernel_rfl
 c20:=by kernel_rfl
 c21:=by kernel_rfl
 c37:=by kernel_rfl
 c46:=by kernel_rfl
 c51:=by kernel_rfl
 c53:=by kernel_rfl
 c75:=by kernel_rfl
 c76:=by kernel_rfl
 c80:=by kernel_rfl
 c85:=by kernel_rfl
 c127:=by kernel_rfl
 c143:=by kernel_rfl
 c145:=by kernel_rfl
 c167:=by kernel_rfl
 c168:=by kernel_rfl
 c171:=by kernel_rfl
 c173:=by kernel_rfl
 c175:=by kernel_rfl
 c210:=by kernel_rfl
 c212:=by kernel_rfl
 c213:=by kernel_rfl
 c232:=by kernel_rfl
 c233:=by kernel_rfl }
open Go.RowKit in
theorem strconv_Atoi_ok(s:ByteArray)(aE:s.size<=9223372036854775806)(v:Int)(h:Lib.atoiAll s.data.toList=.ok v)(w:World):
  Calls prog 168 #[.string s] w fun e w'=>e=.returned (.tuple #[.int .i64 v,.nilIface])/\(w'=w \/ ∃t,w'=Lib.bytesWorld w 5 t):=Any.strconv_Atoi_ok laysC172 s aE v h w
open Go.RowKit in
theorem strconv_Atoi_syntax(s:ByteArray)(ae:s.size<=281474976710656)(h:Lib.atoiAll s.data.toList=Lib.atoiAll [])(ev:Value)(w:World)(hv:w.cell? ⟨2,0,none⟩=some ev)(aG:ev=.nilIface \/ ∃te pe,ev=.iface te pe):
  Calls prog 168 #[.string s] w fun e w'=> ∃N,e=.returned (.tuple #[.int .i64 (0),.iface 349 (.pointer (some ⟨N,0,none⟩))])/\w.heap.size<=N/\w'.heap[N]? = some (.cells #[.string ⟨#[65,116,111,105]⟩,.string s,ev] 396 (0,0))/\Below w.heap.size w w':=Any.strconv_Atoi_syntax laysC172 s ae h ev w hv aG
open Go.RowKit in
theorem strconv_Atoi_range(s:ByteArray)(ae:s.size<=281474976710656)(h:Lib.atoiAll s.data.toList=.range)(ev:Value)(w:World)(hv:w.cell? ⟨3,0,none⟩=some ev)(aG:ev=.nilIface \/ ∃te pe,ev=.iface te pe):
  Calls prog 168 #[.string s] w fun e w'=> ∃N,e=.returned (.tuple #[.int .i64 (Lib.atoiSat s.data.toList),.iface 349 (.pointer (some ⟨N,0,none⟩))])/\w.heap.size<=N/\w'.heap[N]? = some (.cells #[.string ⟨#[65,116,111,105]⟩,.string s,ev] 396 (0,0))/\Below w.heap.size w w':=Any.strconv_Atoi_range laysC172 s ae h ev w hv aG
def lays145_ren:Go.Shelf.Ren:=⟨fun|145=>92|220=>167|219=>237|217=>279|225=>280|224=>281|267=>282|266=>321|314=>322|n=>n,fun|9=>9|4=>4|59=>171|3=>3|5=>5|46=>320|146=>374|51=>373|n=>n,fun|1=>0|n=>n⟩
theorem lays145:Go.Proofs.Lays.n145 prog lays145_ren:={
 mixed:=by kernel_rfl
 f145:=func92.trans (congrArg some (by kernel_rfl))
 f217:=func279.trans (congrArg some (by kernel_rfl))
 f219:=func237.trans (congrArg some (by kernel_rfl))
 f220:=func167.trans (congrArg some (by kernel_rfl))
 f224:=func281.trans (congrArg some (by kernel_rfl))
 f225:=func280.trans (congrArg some (by kernel_rfl))
 f266:=func321.trans (congrArg some (by kernel_rfl))
 f267:=func282.trans (congrArg some (by kernel_rfl))
 f314:=func322.trans (congrArg some (by kernel_rfl))
 t3:=underlying3
 a3:=isAgg3
 z3:=sizeOf3
 v3:=zeroValue3
 t4:=underlying4
 a4:=isAgg4
 z4:=sizeOf4
 v4:=zeroValue4
 t5:=underlying5
 a5:=isAgg5
 z5:=sizeOf5
 v5:=zeroValue5
 t9:=underlying9
 a9:=isAgg9
 z9:=sizeOf9
 v9:=zeroValue9
 t46:=underlying320
 a46:=isAgg320
 z46:=sizeOf320
 v46:=zeroValue320
 t51:=underlying373
 a51:=isAgg373
 z51:=sizeOf373
 v51:=zeroValue373
 t59:=underlying171
 a59:=isAgg171
 z59:=sizeOf171
 v59:=zeroValue171
 t146:=underlying374
 a146:=isAgg374
 z146:=sizeOf374
 v146:=zeroValue374
 g1:=by kernel_rfl }
open Go.RowKit Go.Lib in
theorem strings_Cut(s sep:ByteArray)(m:Int)(w:World)(hs:s.size<4294967281)(hm:w.cell? ⟨0,0,none⟩=some (.int .i64 m)):
  Calls prog 92 #[.string s,.string sep] w fun e w'=>e=.returned (.tuple #[.string ⟨(Lib.cut s.data.toList sep.data.toList).1.toArray⟩,.string ⟨(Lib.cut s.data.toList sep.data.toList).2.1.toArray⟩,.bool (Lib.cut s.data.toList sep.data.toList).2.2]) /\ ∃n,w'=w.drewN n:=Any.strings_Cut lays145 s sep m w hs hm
def lays100_ren:Go.Shelf.Ren:=⟨fun|100=>89|207=>164|n=>n,fun|9=>9|4=>4|3=>3|n=>n,fun|n=>n⟩
theorem lays100:Go.Proofs.Lays.n100 prog lays100_ren:={
 mixed:=by kernel_rfl
 f100:=func89.trans (congrArg some (by kernel_rfl))
 f207:=func164.trans (congrArg some (by kernel_rfl))
 t3:=underlying3
 a3:=isAgg3
 z3:=sizeOf3
 v3:=zeroValue3
 t4:=underlying4
 a4:=isAgg4
 z4:=sizeOf4
 v4:=zeroValue4
 t9:=underlying9
 a9:=isAgg9
 z9:=sizeOf9
 v9:=zeroValue9 }
open Go.RowKit Go.Lib in
theorem strings_HasSuffix(s p:ByteArray)(w:World)(hs:s.size<=9223372036854775807):
  Calls prog 89 #[.string s,.string p] w fun e w'=>e=.returned (.bool (Lib.hasSuffix s.data.toList p.data.toList))/\w'=w:=Any.strings_HasSuffix lays100 s p w hs
def lays102_ren:Go.Shelf.Ren:=⟨fun|102=>91|209=>166|207=>164|n=>n,fun|9=>9|4=>4|3=>3|n=>n,fun|n=>n⟩
theorem lays102:Go.Proofs.Lays.n102 prog lays102_ren:={
 mixed:=by kernel_rfl
 f102:=func91.trans (congrArg some (by kernel_rfl))
 f207:=func164.trans (congrArg some (by kernel_rfl))
 f209:=func166.trans (congrArg some (by kernel_rfl))
 t3:=underlying3
 a3:=isAgg3
 z3:=sizeOf3
 v3:=zeroValue3
 t4:=underlying4
 a4:=isAgg4
 z4:=sizeOf4
 v4:=zeroValue4
 t9:=underlying9
 a9:=isAgg9
 z9:=sizeOf9
 v9:=zeroValue9 }
open Go.RowKit Go.Lib in
theorem strings_TrimSuffix(s p:ByteArray)(w:World)(hs:s.size<=9223372036854775807):
  Calls prog 91 #[.string s,.string p] w fun e w'=>e=.returned (.string ⟨(Lib.trimSuffix s.data.toList p.data.toList).toArray⟩)/\w'=w:=Any.strings_TrimSuffix lays102 s p w hs
def lays146_ren:Go.Shelf.Ren:=⟨fun|146=>90|221=>165|268=>234|138=>235|143=>236|195=>276|197=>277|218=>278|219=>237|260=>320|217=>279|225=>280|224=>281|267=>282|266=>321|314=>322|n=>n,fun|9=>9|31=>165|3=>3|4=>4|0=>0|105=>343|21=>21|5=>5|46=>320|119=>431|139=>434|138=>433|146=>374|51=>373|n=>n,fun|1=>0|3=>4|4=>5|n=>n⟩
theorem lays146:Go.Proofs.Lays.n146 prog lays146_ren:={
 mixed:=by kernel_rfl
 f138:=func235.trans (congrArg some (by kernel_rfl))
 f143:=func236.trans (congrArg some (by kernel_rfl))
 f146:=func90.trans (congrArg some (by kernel_rfl))
 f195:=func276.trans (congrArg some (by kernel_rfl))
 f197:=func277.trans (congrArg some (by kernel_rfl))
 f217:=func279.trans (congrArg some (by kernel_rfl))
 f218:=func278.trans (congrArg some (by kernel_rfl))
 f219:=func237.trans (congrArg some (by kernel_rfl))
 f221:=func165.trans (congrArg some (by kernel_rfl))
 f224:=func281.trans (congrArg some (by kernel_rfl))
 f225:=func280.trans (congrArg some (by kernel_rfl))
 f260:=func320.trans (congrArg some (by kernel_rfl))
 f266:=func321.trans (congrArg some (by kernel_rfl))
 f267:=func282.trans (congrArg some (by kernel_rfl))
 f268:=func234.trans (congrArg some (by kernel_rfl))
 f314:=func322.trans (congrArg some (by kernel_rfl))
 t0:=underlying0
 a0:=isAgg0
 z0:=sizeOf0
 v0:=zeroValue0
 t3:=underlying3
 a3:=isAgg3
 z3:=sizeOf3
 v3:=zeroValue3
 t4:=underlying4
 a4:=isAgg4
 z4:=sizeOf4
 v4:=zeroValue4
 t5:=underlying5
 a5:=isAgg5
 z5:=sizeOf5
 v5:=zeroValue5
 t9:=underlying9
 a9:=isAgg9
 z9:=sizeOf9
 v9:=zeroValue9
 t21:=underlying21
 a21:=isAgg21
 z21:=sizeOf21
 v21:=zeroValue21
 t31:=underlying165
 a31:=isAgg165
 z31:=sizeOf165
 v31:=zeroValue165
 t46:=underlying320
 a46:=isAgg320
 z46:=sizeOf320
 v46:=zeroValue320
 t51:=underlying373
 a51:=isAgg373
 z51:=sizeOf373
 v51:=zeroValue373
 t105:=underlying343
 a105:=isAgg343
 z105:=sizeOf343
 v105:=zeroValue343
 t119:=underlying431
 a119:=isAgg431
 z119:=sizeOf431
 t138:=underlying433
 a138:=isAgg433
 z138:=sizeOf433
 v138:=zeroValue433
 t139:=underlying434
 a139:=isAgg434
 z139:=sizeOf434
 v139:=zeroValue434
 t146:=underlying374
 a146:=isAgg374
 z146:=sizeOf374
 v146:=zeroValue374
 g1:=by kernel_rfl
 g3:=by kernel_rfl
 g4:=by kernel_rfl }
open Go.RowKit Go.Lib in
theorem strings_Split(s sep:ByteArray)(m:Int)(w:World)(hs:s.size<4294967281)(hm:w.cell? ⟨0,0,none⟩=some (.int .i64 m))(h1:1<=sep.size):
  Calls prog 90 #[.string s,.string sep] w fun e w'=>
   e=.returned (.slice (some ⟨w.heap.size,0,none⟩) (Lib.countB s sep+1) (Lib.countB s sep+1))/\w'=w.alloc (.cells ((Lib.splitB sep 0 (Lib.countB s sep) s).map Value.string).toArray 9):=Any.strings_Split lays146 (by kernel_rfl) s sep m w hs hm h1
end Go.Proofs
set_option linter.unusedVariables false
namespace Go.Proofs
open Go.Proofs.Tryz
open Go.RowKit Go.Shelf
theorem sizeB:(prog.info? 159).map (·.size)=some 2:=by kernel_rfl
set_option maxHeartbeats 1000000 in
set_option maxRecDepth 100000 in
theorem Jq(b:Nat)(w:World)(h0:w.cell? ⟨b,0,none⟩=some (.pointer (some ⟨b,0,none⟩))):
  Calls prog 161 #[.pointer (some ⟨b,0,none⟩)] w fun e w'=>e=.returned (.tuple #[])/\w'=w:=by
 obtain⟨j,hj,_⟩:=Option.map_eq_some_iff.1 sizeB
 have mixed:prog.follows .mixedOrders=true:=by kernel_rfl
 have t72:=underlying159;have a72:=isAgg159;have z72:=sizeOf159;have v72:=zeroValue159;have u72:=run_underlying underlying159
 have t70:=underlying157;have a70:=isAgg157;have z70:=sizeOf157;have v70:=zeroValue157;have u70:=run_underlying underlying157
 have t4:=underlying4;have a4:=isAgg4;have z4:=sizeOf4;have v4:=zeroValue4;have u4:=run_underlying underlying4
 go_enter func161,ntmps161
 go_wp2
 rw[Lib.run_neq_ptr_same w _ underlying157 hj]
 go_wp2
 go_end0
 exact⟨rfl,rfl⟩
set_option maxHeartbeats 1000000 in
set_option maxRecDepth 100000 in
theorem IY(b:Nat)(w:World)(h0:w.cell? ⟨b,0,none⟩=some (.pointer none))(aL:w.shape? b=some (159,2))(aZ:w.frozen? ⟨b,0,none⟩=false):
  Calls prog 161 #[.pointer (some ⟨b,0,none⟩)] w fun e w'=>e=.returned (.tuple #[])/\w'=w.setCell ⟨b,0,none⟩ (.pointer (some ⟨b,0,none⟩)):=by
 obtain⟨j,hj,aX⟩:=Option.map_eq_some_iff.1 sizeB
 have mixed:prog.follows .mixedOrders=true:=by kernel_rfl
 have t72:=underlying159;have a72:=isAgg159;have z72:=sizeOf159;have v72:=zeroValue159;have u72:=run_underlying underlying159
 have t70:=underlying157;have a70:=isAgg157;have z70:=sizeOf157;have v70:=zeroValue157;have u70:=run_underlying underlying157
 have t4:=underlying4;have a4:=isAgg4;have z4:=sizeOf4;have v4:=zeroValue4;have u4:=run_underlying underlying4
 have t301:=underlying301;have a301:=isAgg301;have z301:=sizeOf301;have v301:=zeroValue301;have u301:=run_underlying underlying301
 have aj:liesAt prog prog.depth 159 (2 / prog.cellsOf 159) 0 159 1=true:=by kernel_rfl
 go_enter func161,ntmps161
 go_wp2
 rw[Lib.run_to_unsafe w ⟨b,0,none⟩ underlying157 underlying301 hj (by rw[aX];decide) aL (Nat.zero_lt_succ 1)]
 simp only[Result.andThen]
 rw[Oper.upon_value]
 go_wp2
 rw[run_callFunc_extern func232 (by kernel_rfl) (by kernel_rfl) (by kernel_rfl) (e:=Extern.AbiNoEscape.same) (by kernel_rfl)]
 rw[Lib.run_noEscape]
 simp only[Result.andThen]
 rw[Oper.upon_value]
 go_wp2
 rw[Lib.run_from_unsafe w ⟨b,0,none⟩ underlying301 underlying157 hj aL aj]
 simp only[Result.andThen]
 rw[Oper.upon_value]
 go_wp2
 go_end0
 exact⟨rfl,rfl⟩
set_option maxHeartbeats 1000000 in
set_option maxRecDepth 100000 in
theorem Js(b g cap:Nat)(p:Value)(ty:TypeId)(l:List UInt8)(cur:Array Value)(w:World)(h0:l≠[])(bd:w.heap[b]? = some (.cells #[p,.slice (some ⟨g,0,none⟩) l.length cap] ty (0,0)))(hg:w.heap[g]? = some (.cells cur 5 (0,0)))(bi:l.length<=cap)(ag:l.length<=cur.size)(bf:l.length<=9223372036854775807)(aH:∀j x,l[j]? = some x->w.cell? ⟨g,j,none⟩=some (.int .u8 x.toNat)):
  Calls prog 86 #[.pointer (some ⟨b,0,none⟩)] w fun e w'=>e=.returned (.string ⟨l.toArray⟩)/\w'=w.drew.freeze ⟨g,0,none⟩ l.length:=by
 have bj:l.length≠0:=by simpa using h0
 have c1:w.drew.cell? ⟨b,1,none⟩=some (.slice (some ⟨g,0,none⟩) l.length cap):=by
  have:w.drew.heap[b]? = some (.cells #[p,.slice (some ⟨g,0,none⟩) l.length cap] ty (0,0)):=bd
  rw[Lib.cell_of_heap this];rfl
 have bq:(Builtin.unsafeSliceData_ #[96] 246 #[.slice (some ⟨g,0,none⟩) l.length cap]).run prog w.drew=.ok (.pointer (some ⟨g,0,none⟩)) w.drew:=
  Lib.run_unsafeSliceData_row _ _ _ _ _ _ (by omega)
 have bp:(Builtin.unsafeString_ #[246,3] 9 #[.pointer (some ⟨g,0,none⟩),.int .i64 l.length]).run prog w.drew=.ok (.string ⟨l.toArray⟩) (w.drew.freeze ⟨g,0,none⟩ l.length):=by
  refine Lib.run_unsafeString_row w.drew 246 3 9 5 underlying246 (by kernel_rfl) g cur.size (by have aY:w.drew.heap[g]? = some (.cells cur 5 (0,0)):=hg;simp[World.shape?, aY]) l h0 ag bf ?_
  intro j x hj
  have e:((⟨g,0,none⟩:Addr).add j)=⟨g,j,none⟩:=by unfold Addr.add;split<;>simp_all
  rw[e];exact aH j x hj
 have mixed:prog.follows .mixedOrders=true:=by kernel_rfl
 have t72:=underlying159;have a72:=isAgg159;have z72:=sizeOf159;have v72:=zeroValue159;have u72:=run_underlying underlying159
 have t70:=underlying157;have a70:=isAgg157;have z70:=sizeOf157;have v70:=zeroValue157;have u70:=run_underlying underlying157
 have t37:=underlying96;have a37:=isAgg96;have z37:=sizeOf96;have v37:=zeroValue96;have u37:=run_underlying underlying96
 have t127:=underlying246;have a127:=isAgg246;have z127:=sizeOf246;have v127:=zeroValue246;have u127:=run_underlying underlying246
 have t3:=underlying3;have a3:=isAgg3;have z3:=sizeOf3;have v3:=zeroValue3;have u3:=run_underlying underlying3
 have t9:=underlying9;have a9:=isAgg9;have z9:=sizeOf9;have v9:=zeroValue9;have u9:=run_underlying underlying9
 have t5:=underlying5;have a5:=isAgg5;have z5:=sizeOf5;have v5:=zeroValue5;have u5:=run_underlying underlying5
 go_enter func86,ntmps86
 go_wp2
 go_region_o
 all_goals (go_wp2;go_ret;exact⟨rfl,rfl⟩)
end Go.Proofs
namespace Go.Proofs
open Go.Proofs.Tryz
open Go.Shelf
def laysM171_ren:Go.Shelf.Ren:=⟨fun|171=>84|243=>162|246=>233|283=>272|284=>273|285=>274|286=>275|129=>316|317=>315|318=>317|319=>318|320=>319|337=>356|338=>357|n=>n,fun|3=>3|9=>9|2=>2|4=>4|171=>337|0=>0|53=>338|37=>96|5=>5|173=>341|212=>389|51=>373|20=>20|213=>390|46=>320|232=>452|233=>453|n=>n,fun|17=>1|18=>6|19=>7|n=>n⟩
theorem laysM171:Go.Proofs.LaysM.n171 prog laysM171_ren:={
 mixed:=by kernel_rfl
 f129:=func316.trans (congrArg some (by kernel_rfl))
 f171:=func84.trans (congrArg some (by kernel_rfl))
 f243:=func162.trans (congrArg some (by kernel_rfl))
 f246:=func233.trans (congrArg some (by kernel_rfl))
 f283:=func272.trans (congrArg some (by kernel_rfl))
 f284:=func273.trans (congrArg some (by kernel_rfl))
 f285:=func274.trans (congrArg some (by kernel_rfl))
 f286:=func275.trans (congrArg some (by kernel_rfl))
 f317:=func315.trans (congrArg some (by kernel_rfl))
 f318:=func317.trans (congrArg some (by kernel_rfl))
 f319:=func318.trans (congrArg some (by kernel_rfl))
 f320:=func319.trans (congrArg some (by kernel_rfl))
 f337:=func356.trans (congrArg some (by kernel_rfl))
 f338:=func357.trans (congrArg some (by kernel_rfl))
 t0:=underlying0
 a0:=isAgg0
 z0:=sizeOf0
 v0:=zeroValue0
 t2:=underlying2
 a2:=isAgg2
 z2:=sizeOf2
 v2:=zeroValue2
 t3:=underlying3
 a3:=isAgg3
 z3:=sizeOf3
 v3:=zeroValue3
 t4:=underlying4
 a4:=isAgg4
 z4:=sizeOf4
 v4:=zeroValue4
 t5:=underlying5
 a5:=isAgg5
 z5:=sizeOf5
 v5:=zeroValue5
 t9:=underlying9
 a9:=isAgg9
 z9:=sizeOf9
 v9:=zeroValue9
 t20:=underlying20
 a20:=isAgg20
 z20:=sizeOf20
 v20:=zeroValue20
 t37:=underlying96
 a37:=isAgg96
 z37:=sizeOf96
 v37:=zeroValue96
 t46:=underlying320
 a46:=isAgg320
 z46:=sizeOf320
 v46:=zeroValue320
 t51:=underlying373
 a51:=isAgg373
 z51:=sizeOf373
 v51:=zeroValue373
 t53:=underlying338
 a53:=isAgg338
 z53:=sizeOf338
 v53:=zeroValue338
 t171:=underlying337
 a171:=isAgg337
 z171:=sizeOf337
 v171:=zeroValue337
 t173:=underlying341
 a173:=isAgg341
 z173:=sizeOf341
 v173:=zeroValue341
 t212:=underlying389
 a212:=isAgg389
 z212:=sizeOf389
 v212:=zeroValue389
 t213:=underlying390
 a213:=isAgg390
 z213:=sizeOf390
 t232:=underlying452
 a232:=isAgg452
 z232:=sizeOf452
 v232:=zeroValue452
 t233:=underlying453
 a233:=isAgg453
 z233:=sizeOf453
 v233:=zeroValue453
 g17:=by kernel_rfl
 g18:=by kernel_rfl
 g19:=by kernel_rfl
 i0:=by kernel_rfl
 i2:=by kernel_rfl
 i3:=by kernel_rfl
 i4:=by kernel_rfl
 i5:=by kernel_rfl
 i9:=by kernel_rfl
 i20:=by kernel_rfl
 i37:=by kernel_rfl
 i46:=by kernel_rfl
 i51:=by kernel_rfl
 i53:=by kernel_rfl
 i171:=by kernel_rfl
 i173:=by kernel_rfl
 i212:=by kernel_rfl
 i232:=by kernel_rfl
 i233:=by kernel_rfl
 m17:=by kernel_rfl
 m18:=by kernel_rfl
 m19:=by kernel_rfl }
open Go.RowKit Go.Sort Go.Lib in
theorem strconv_Itoa (n : Int) (h0 : -9223372036854775808 <= n) (h1 : n <= 9223372036854775807) (w : World) (ap : Lib.TabIs prog w "internal/strconv.uint64pow10" .u64 Lib.pow10Tab) :
  Calls prog 84 #[.int .i64 n] w fun e w'=>e=.returned (.string ⟨(Lib.itoa n).toArray⟩) /\ ∃k os,w'=grow (w.drewN k) os:=Any.strconv_Itoa laysM171 n h0 h1 w ap
end Go.Proofs
namespace Go.DL
open Go.Proofs.Tryz
open Go Go.Proofs
set_option maxHeartbeats 8000000
theorem Af{O:Sig}{a b:Nat}{o:DObj}(h:O a=some o)(k:O b=none):a≠b:=fun e=>by rw[e,k]at h;cases h
theorem ne_some{O:Sig}{a b:Nat}{o x:DObj}(h:O a=some o)(k:O b=some x)(hx:o≠x):a≠b:=fun e=>by rw[e,k]at h;cases h;exact hx rfl
theorem RowAt.sref{O:Sig}{sz:Nat}{st:MR}{es:List (List D)}(h:RowAt O sz st es)(hne:es≠[]): ∃r c, ∀n,mD st n=.sref r 0 n c:=by
 rcases st with _|⟨i,cap,rest⟩
 ·exact absurd h hne
 ·exact⟨i,cap,fun _=>rfl⟩
def BK(ib:Nat)(O:Sig)(st:MR)(U':Sig)(st':MR):Prop:= ∀j o,O j=some o->j≠ib->¬Fu st j->U' j=some o /\ ¬Fu st' j
theorem BK.trans{ib:Nat}{O S1 S2:Sig}{st st1 st2:MR}(h:BK ib O st S1 st1)(k:BK ib S1 st1 S2 st2):BK ib O st S2 st2:=fun j o hj hi hn=>k j o (h j o hj hi hn).1 hi (h j o hj hi hn).2
theorem BK.refl(ib:Nat)(O:Sig)(st:MR):BK ib O st O st:=fun j o h _ hn=>⟨h,hn⟩
theorem BK.fresh{ib:Nat}{O S1:Sig}{st st1:MR}{k:Nat}{o:DObj}(h:BK ib O st S1 st1)(hk:S1 k=none):BK ib O st (S1.set k o) st1:=fun j x hj hi hn=>by
 obtain⟨h1,h2⟩:=h j x hj hi hn
 exact⟨by rw[w7 _ _ (Af h1 hk)];exact h1,h2⟩
structure BlkS(ib:Nat)(s m:D)(st:MR)(ins:List CIns)(O:Sig):Prop where
 env:O ib=some (.cells [mD st ins.length,s,m])
 row:RowAt O 2 st (ins.map cIns)
 nr:¬Fu st ib
section
variable {ib:Nat}{s m:D}{st:MR}{ins:List CIns}{O:Sig}
theorem BlkS.notrow(h:BlkS ib s m st ins O){k:Nat}(hk:O k=none): ¬Fu st k:=fun hr=>by
 obtain⟨cs,hc⟩:=h.row.cells hr;rw[hk]at hc;cases hc
theorem BlkS.fresh(h:BlkS ib s m st ins O){k:Nat}{o:DObj}(hk:O k=none):BlkS ib s m st ins (O.set k o):=
 ⟨by rw[w7 _ _ (Af h.env hk)];exact h.env,h.row.keep fun j x hj hr=>by rw[w7 _ _ fun e=>h.notrow hk (by rw[<-e];exact hr)];exact hj,h.nr⟩
theorem CS(op a:Int)(hn:ins.length<=1000000)(hB:BlkS ib s m st ins O):DCall prog 132 [.ptr ib 0,dI op,dI a] O fun x U'=>x=.ret (.tup []) /\ ∃st',BlkS ib s m st' (ins++[⟨op,a⟩]) U'/\BK ib O st U' st':=by
 obtain⟨q1,q2,q3⟩:=hB
 refine en func132 ntmps132 ?_
 refine gf q1 ?_
 refine rapp (es:=ins.map cIns) (fun st2 S2 aM aP=>?_) (hm:=q2)
 obtain⟨v1,v2⟩:=aP _ _ q1 q3
 obtain⟨rr,rc,aO⟩:=aM.sref (by simp)
 have aD:=aO (ins.length+1)
 refine gf (gi v1 aD) ?_
 have aN:(ins++[(⟨op,a⟩:CIns)]).map cIns=ins.map cIns++[[dI op,dI a]]:=by simp[cIns]
 refine DK (U':=S2.set ib (.cells [.sref rr 0 (ins.length+1) rc,s,m])) ?_
 refine⟨rfl,st2,⟨by rw[w6,aO];simp,?_,v2⟩,fun j o hj aQ hr=>?_⟩
 ·rw[aN]
  exact aM.keep fun j x hj hr=>by rw[w7 _ _ fun e=>v2 (by rw[<-e];exact hr)];exact hj
 ·obtain⟨h3,h4⟩:=aP j o hj hr
  exact⟨by rw[w7 _ _ aQ];exact h3,h4⟩
abbrev cLater(ib k:Nat):D:=.func (.func 259) [] [.cptr [.ptr ib 0] 0,.cptr [dI k] 0]
theorem Mg(op:Int)(hn:ins.length<=1000000)(hB:BlkS ib s m st ins O):DCall prog 207 [.ptr ib 0,dI op] O fun x U'=>x=.ret (cLater ib ins.length) /\ ∃st',BlkS ib s m st' (ins++[⟨op,0⟩]) U'/\BK ib O st U' st':=by
 have aS:=hB
 obtain⟨q1,q2,q3⟩:=hB
 refine en func207 ntmps207 ?_
 cases ar:st with
 |none=>
  subst ar
  have h0:ins=[]:=by have:ins.map cIns=[]:=q2;simpa using this
  subst h0
  simp only[mD]at q1
  refine gf q1 ?_
  refine A3 (CS op 0 hn aS) (fun d U' hr=>?_) (fun d U' hr=>by cases hr.1)
  obtain⟨h1,st',aJ,hK⟩:=hr
  cases h1
  refine gz ?_
  refine fin1 (U':=U') ⟨rfl,st',aJ,hK⟩
 |some x=>
  obtain⟨rr,rc,rest⟩:=x
  subst ar
  simp only[mD]at q1
  refine gf q1 ?_
  refine A3 (CS op 0 hn aS) (fun d U' hr=>?_) (fun d U' hr=>by cases hr.1)
  obtain⟨h1,st',aJ,hK⟩:=hr
  cases h1
  refine gz ?_
  refine fin1 (U':=U') ⟨rfl,st',aJ,hK⟩
def setA(l:List CIns)(k:Nat)(a:Int):List CIns:=l.take k++((l[k]?).map fun x=>(⟨x.op,a⟩:CIns)).toList++l.drop (k+1)
theorem Mb(k:Nat)(hk:k<ins.length)(hn:ins.length<=1000000)(hB:BlkS ib s m st ins O):DCall prog 259 [.cptr [.ptr ib 0] 0,.cptr [dI k] 0] O fun x U'=>x=.ret (.tup []) /\ ∃st',BlkS ib s m st' (setA ins k ins.length) U'/\BK ib O st U' st':=by
 obtain⟨q1,q2,q3⟩:=hB
 rcases st with _|⟨r,rc,rest⟩
 ·have:ins.map cIns=[]:=q2
  simp at this;subst this;simp at hk
 have hx:ins=ins.take k++ins[k]::ins.drop (k+1):=by simp
 have au:setA ins k ins.length=ins.take k++(⟨(ins[k]).op,ins.length⟩:CIns)::ins.drop (k+1):=by unfold setA;rw[List.getElem?_eq_getElem hk];simp
 have aw:O r=some (.cells ((ins.map cIns).flatten++rest))/\((ins.map cIns).flatten++rest).length=rc*2/\(ins.map cIns).length<=rc/\_:=q2
 obtain⟨w1,w2,w3,w4⟩:=aw
 have aK:((ins.take k).map cIns).flatten.length=k*2:=by rw[Av (sz:=2) (fun e he=>by obtain⟨x,_,rfl⟩:=List.mem_map.1 he;rfl)];simp;omega
 have ag:(ins.map cIns).flatten++rest=((ins.take k).map cIns).flatten++dI (ins[k]).op::dI (ins[k]).a::(((ins.drop (k+1)).map cIns).flatten++rest):=by
  have h0:ins.map cIns=(ins.take k).map cIns++cIns ins[k]::(ins.drop (k+1)).map cIns:=by rw[<-List.map_cons,<-List.map_append,<-hx]
  rw[h0];simp only[List.flatten_append,List.flatten_cons,List.append_assoc,cIns,List.cons_append,List.nil_append]
 have ak:((setA ins k ins.length).map cIns).flatten++rest=((ins.take k).map cIns).flatten++dI (ins[k]).op::dI (ins.length:Int)::(((ins.drop (k+1)).map cIns).flatten++rest):=by
  rw[au];simp only[List.map_append,List.map_cons,List.flatten_append,List.flatten_cons,List.append_assoc,cIns,List.cons_append,List.nil_append]
 have hlen:(setA ins k ins.length).length=ins.length:=by rw[au];simp;omega
 rw[ag]at w1 w2
 generalize hA:((ins.take k).map cIns).flatten=A at*
 generalize hM:((ins.drop (k+1)).map cIns).flatten++rest=M at*
 have bn:A.length+(2+M.length)=rc*2:=by simp only[List.length_append,List.length_cons]at w2;omega
 have bk:k<rc:=by rw[List.length_map]at w3;omega
 have bc:ib≠r:=fun h=>q3 h
 have q1':O ib=some (.cells [.sref r 0 ins.length rc,s,m]):=q1
 have ar:(A++dI (ins[k]).op::dI (ins[k]).a::M).set (k*2+1) (dI (ins.length:Int))=A++dI (ins[k]).op::dI (ins.length:Int)::M:=by
  rw[<-aK,List.set_append_right _ _ (by omega)];simp
 have aT:List.take (k*2+1) (A++dI ins[k].op::dI ins[k].a::M)=A++[dI ins[k].op]:=by rw[<-aK,List.take_length_add_append];rfl
 have bb:List.drop (k*2+1+1) (A++dI ins[k].op::dI ins[k].a::M)=M:=by rw[<-aK,Nat.add_assoc,List.drop_length_add_append];rfl
 have bl:(setA ins k ins.length).map cIns=(ins.take k).map cIns++cIns ⟨(ins[k]).op,ins.length⟩::(ins.drop (k+1)).map cIns:=by rw[au];simp
 refine en func259 ntmps259 ?_
 refine gf (gi q1' w1) ?_ o259
 rw[aT,bb]
 refine DK (U':=O.set r (.cells (A++[dI ins[k].op]++dI (ins.length:Int)::M))) ⟨rfl,some (r,rc,rest),⟨?_,⟨?_,?_,?_,?_⟩,q3⟩,fun j o hj aQ hr=>⟨by rw[w7 _ _ fun e=>hr e];exact hj,hr⟩⟩
 ·rw[w7 _ _ bc,q1',hlen];rfl
 ·rw[w6,ak,List.append_assoc];rfl
 ·rw[ak];simp only[List.length_append,List.length_cons];omega
 ·rw[List.length_map,hlen];rw[List.length_map]at w3;exact w3
 ·intro z hz;obtain⟨x,_,rfl⟩:=List.mem_map.1 hz;rfl
end
end Go.DL
