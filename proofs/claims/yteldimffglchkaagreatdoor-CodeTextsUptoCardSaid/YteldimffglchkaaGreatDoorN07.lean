/- A part of the proof. -/
import Derived.Test.YteldimffglchkaaGreatDoorN06
import Derived.Maps.RangeRun
import Derived.RecoverIn
import Derived.Laws.IdiomCopy
import Derived.Laws.IdiomStrings
import Derived.Laws.BytesArg
import Derived.Lib.AppendStr
set_option linter.all false
namespace Go.DL
open Go
theorem Lq{g:G}: ∀{l:List (D×D)}{es:List MapEntry},RepM g l es->RepL g (l.map (·.1)) (es.map (·.key))/\RepL g (l.map (·.2)) (es.map (·.val))
 |[],es,h=>by rw[show es=[] from h];exact⟨rfl,rfl⟩
 |(k,d)::l,es,⟨e,r,he,h1,h2,h3⟩=>by
  subst he
  obtain⟨a,b⟩:=Lq h3
  exact⟨⟨_,_,rfl,h1,a⟩,⟨_,_,rfl,h2,b⟩⟩
theorem RepM.get{g:G}: ∀{l:List (D×D)}{es:List MapEntry},RepM g l es->∀{j:Nat}{e:MapEntry},es[j]? = some e->∃k v,l[j]? = some (k,v)/\Rep g k e.key/\Rep g v e.val
 |[],es,h,j,e,he=>by rw[show es=[] from h]at he;simp at he
 |(k,d)::l,es,⟨e',r,bc,h1,h2,h3⟩,j,e,he=>by
  subst bc
  cases j with
  |zero=>simp at he;subst he;exact⟨k,d,rfl,h1,h2⟩
  |succ j=>simpa using h3.get (by simpa using he)
theorem RepM.len{g:G}: ∀{l:List (D×D)}{es:List MapEntry},RepM g l es->es.length=l.length
 |[],es,h=>by rw[show es=[] from h];rfl
 |(k,d)::l,es,⟨e',r,bc,h1,h2,h3⟩=>by subst bc;simp[h3.len]
theorem RepM.erase{g:G}: ∀{l:List (D×D)}{es:List MapEntry},RepM g l es->∀(j:Nat),RepM g (l.eraseIdx j) (es.eraseIdx j)
 |[],es,h,j=>by rw[show es=[] from h];exact rfl
 |(k,d)::l,es,⟨e',r,bc,h1,h2,h3⟩,j=>by
  subst bc
  cases j with
  |zero=>exact h3
  |succ j=>exact⟨e',_,rfl,h1,h2,h3.erase j⟩
def G.addKeep(g:G)(b:Nat)(o:Obj):G:={ g with keep:=fun k=>if k=b then some o else g.keep k }
section
variable {P:Program}{ro:Ro}{n:Nat}{ops:Array Oper}{Q:DX->St->Prop}{rest:List Oper}{tab:Nat->Ty}{γ:List (Nat×D)}{O:Sig}{df:List DDf}
theorem Sim.mapStays{g:G}{w:World}(ah:Sim P g O w){i b:Nat}{l:List (D×D)}(hi:O i=some (.map l))(hb:g.rho i=some b):
  ∃g',g.le g'/\Sim P g' (O.del i) w/\Rep g' (.cmap (l.map (·.1)) (l.map (·.2))) (.map (some b)):=by
 obtain⟨b',es,clock,ay,ae,hr,aE⟩:=ah.obj i _ hi
 obtain rfl:b'=b:=by rw[hb]at ay;cases ay;rfl
 have bi:blk g O i=some b':=by simp[blk,hi,hb]
 have ba:=ah.free i b' bi
 have ak:g.le (g.addKeep b' (.map es clock)):=
  {imm:=fun _ _ _ h=>h,rho:=fun _ _ h=>h,hist:=fun _ _ _ h=>h,io:=rfl
   keep:=fun k o h=>by
    simp only[G.addKeep]
    by_cases hk:k=b'
    ·rw[hk,ba.1]at h;cases h
    ·rw[if_neg hk];exact h }
 have bd:∀j o,O.del i j=some o->j≠i/\O j=some o:=fun j o h=>by
  by_cases hj:j=i
  ·subst hj;simp[Sig.del]at h
  ·exact⟨hj,by simpa[Sig.del,hj] using h⟩
 have ax:∀j c,blk (g.addKeep b' (.map es clock)) (O.del i) j=some c->j≠i/\blk g O j=some c:=by
  intro j c h
  by_cases hj:j=i
  ·subst hj;simp[blk,Sig.del]at h
  ·refine⟨hj,?_⟩
   unfold blk at h⊢
   simp only[Sig.del,hj,if_false]at h
   exact h
 refine⟨_,ak,?_,?_⟩
 ·exact {
   imm:=ah.imm
   keep:=fun k o h=>by
    simp only[G.addKeep]at h
    by_cases hk:k=b'
    ·rw[if_pos hk]at h;cases h;rw[hk];exact ae
    ·rw[if_neg hk]at h;exact ah.keep k o h
   obj:=fun j o h=>(ah.obj j o (bd j o h).2).mono ak fun _ _ _ _ _ _ _ _ _ _ h=>h
   inj:=fun j k c h1 h2=>ah.inj j k c (ax j c h1).2 (ax k c h2).2
   free:=fun j c h=>by
    obtain⟨hj,h'⟩:=ax j c h
    obtain⟨h1,h2⟩:=ah.free j c h'
    have hc:c≠b':=fun e=>hj (ah.inj j i b' (e ▸ h') bi)
    refine⟨by simp only[G.addKeep];rw[if_neg hc];exact h1,fun hh o=>h2 (fun x hx=>hh x (by simp only[Sig.del,hj,if_false];exact hx)) o⟩
   htop:=fun j sz n k h hk=>ah.htop j sz n k (bd j _ h).2 hk
   hdom:=ah.hdom
   io:=ah.io
   tab:=ah.tab.mono ak
   fin:=ah.fin }
 ·obtain⟨a1,a2⟩:=Lq hr
  exact⟨b',es,clock,rfl,by simp[G.addKeep],aE,RepL.mono ak _ a1,RepL.mono ak _ a2⟩
theorem MM{t i:Nat}{l:List (D×D)}(hi:O i=some (.map l))(hg:getD γ t=.map i):Wk P n ⟨γ,O,df⟩ ⟨(t,.cmap (l.map (·.1)) (l.map (·.2)))::γ,O.del i,df⟩:=by
 intro g w a hs
 have b6:=hs.tmps.2 t
 rw[hg]at b6
 obtain⟨b,hb,hv⟩:=b6
 obtain⟨g',ak,h1,h2⟩:=hs.sim.mapStays hi hb
 refine⟨g',ak,⟨h1,⟨hs.tmps.1,fun k=>?_⟩,hs.df.mono ak⟩⟩
 rw[A4]
 by_cases hk:k=t
 ·rw[if_pos hk,hk,hv];exact h2
 ·rw[if_neg hk];exact Rep.mono ak _ (hs.tmps.2 k)
variable (ht:AZ P tab)
include ht
omit ht in
omit ht in
theorem PI{t i:Nat}{x:Operand}{ty:TypeId}{pos:String}{after:Array Edge}{left:List (D×D)}{k v:D}(ag:t<n)(hx:ev γ x=.obj i)(hi:O i=some (.iter left (some (k,v))))
  (h:DOps P ro n ops Q rest ⟨(t,.tup [k,v])::γ,O,df⟩) :
  DOps P ro n ops Q (⟨some t,.entry x,ty,pos,after,none⟩::rest) ⟨γ,O,df⟩:=by
 refine Bx (fun d U'=>d=.tup [k,v]/\U'=O) rfl (fun c e=>by cases e) (Aa fun c e=>by cases e) (by simp[Ar,ag]) ?_ (fun d U' ⟨a,b⟩=>by subst a b;exact h)
 intro g w a hs hT
 have aQ:=Ah hT x
 rw[hx]at aQ
 obtain⟨b,hb,hv⟩:=aQ
 obtain⟨b',ay,bh⟩:=hs.obj _ _ hi
 obtain rfl:b'=b:=by rw[hb]at ay;cases ay;rfl
 rcases bh with⟨_,hl,_⟩|⟨mb,es,clock,seen,hh,a8,aE,hr,aZ⟩
 ·cases hl
 ·obtain⟨e,st,f1,f2,f3,f4⟩:=aZ k v rfl
  have cw:=hs.keep _ _ a8
  refine⟨g,w,.tuple #[e.key,e.val],.tup [k,v],O,?_,.refl g,hs,⟨_,rfl,_,_,rfl,f3,_,_,rfl,f4,rfl⟩,rfl,rfl⟩
  simp[execOp,hv,Instr.entry,getObj,Sem.run,hh,cw,f1,f2]
omit ht in
theorem K3{fop:Operand}{args:Array Operand}{ats:Array TypeId}{dst:Option Tmp}{ty:TypeId}{pos:String}{after:Array Edge}{f:Nat}{first cap:List D}(aj:f<P.funcs.size)
  (hf:ev γ fop=.func (.func f) first cap) (ho:Ar n ⟨dst,.defer { callee:=.value fop,args,argTypes:=ats },ty,pos,after,none⟩=true)
  (h:DOps P .none n ops Q rest ⟨putD dst .any γ,O,.fn f (first++args.toList.map (ev γ)) cap::df⟩) :
  DOps P .none n ops Q (⟨dst,.defer { callee:=.value fop,args,argTypes:=ats },ty,pos,after,none⟩::rest) ⟨γ,O,df⟩:=by
 intro g w a r hr hs
 obtain rfl:r={}:=hr
 unfold wpListIn
 rw[AH (o:=⟨dst,.defer { callee:=.value fop,args,argTypes:=ats },ty,pos,after,none⟩) (b:=true) hs.tmps rfl,if_pos rfl]
 have bq:=Ah hs.tmps fop
 rw[show ev (St.mk γ O df).γ fop=.func (.func f) first cap from hf]at bq
 obtain⟨fs,cs,bq,co,cn⟩:=bq
 have ap:(resolve a.eval { callee:=.value fop,args,argTypes:=ats } ty).run P w=.ok { target:=.fn (.func f) cs.toArray,args:=fs.toArray++args.map a.eval } w:=by
  simp[resolve,bq,Deferred.ofValue,Sem.run]
 refine⟨fun f' aR=>(Aa (fun c e=>by cases e) _ _ _ aR).elim,?_⟩
 have aa:(Oper.semAt (FX P {}).round a.eval ⟨dst,.defer { callee:=.value fop,args,argTypes:=ats },ty,pos,after,none⟩).run P w=.ok (.defer { target:=.fn (.func f) cs.toArray,args:=fs.toArray++args.map a.eval }) w:=by
  simp only[FX,Oper.semAt,execOp,Sem.run_bind,ap,Result.andThen_ok,Sem.run_pure]
 rw[aa]
 have aD:=hs.put (d:=.any) (v:=undef) (U':=O) (w':=w) (.refl g) hs.sim trivial ho
 refine h g w _ {} rfl ⟨aD.sim,?_,?_⟩
 ·have e:({ a with defers:={ target:=.fn (.func f) cs.toArray,args:=fs.toArray++args.map a.eval }::a.defers }:Act).put dst undef={ (a.put dst undef)with defers:={ target:=.fn (.func f) cs.toArray,args:=fs.toArray++args.map a.eval }::a.defers }:=by cases dst<;>rfl
  show RepT g _ n (({ a with defers:={ target:=.fn (.func f) cs.toArray,args:=fs.toArray++args.map a.eval }::a.defers }:Act).put dst undef).tmps
  rw[e];exact aD.tmps
 ·have e:(({ a with defers:={ target:=.fn (.func f) cs.toArray,args:=fs.toArray++args.map a.eval }::a.defers }:Act).put dst undef).defers={ target:=.fn (.func f) cs.toArray,args:=fs.toArray++args.map a.eval }::a.defers:=by cases dst<;>rfl
  show RepDf g _ (({ a with defers:={ target:=.fn (.func f) cs.toArray,args:=fs.toArray++args.map a.eval }::a.defers }:Act).put dst undef).defers
  rw[e]
  exact⟨fs++args.toList.map a.eval,cs,a.defers,by simp,co.append (CR hs.tmps _),cn,hs.df⟩
end
def Jq(P:Program)(f:Nat)(args:List D)(O:Sig)(pan:Option D)(U':Sig):Prop:=
 ∀g w vs u,Sim P g O w->RepL g args vs->(match pan with|none=>u=.returning|some d=> ∃v,u=.panicking [{ v,recovered:=false }]/\Rep g d v)->
  CallsDIn (FX P {}) 0 P f vs.toArray u w fun e u' w'=>(∃v,e=.returned v)/\settle u'=.returning /\ ∃g',g.le g'/\Sim P g' U' w'
def BodyD(P:Program)(n:Nat)(fn:Func)(fd:Nat)(R:DE->Sig->Prop):DX->St->Prop
 |.normal,s|.ret,s=> ∃cap U' d,s.df=[.fn fd [] cap]/\Jq P fd cap s.O none U'/\L8 P n fn ⟨s.γ,U',[]⟩ d/\R (.ret d) U'
 |.panic p,s=> ∃cap U' d,s.df=[.fn fd [] cap]/\Jq P fd cap s.O (some p) U'/\L8 P n fn ⟨s.γ,U',[]⟩ d/\R (.ret d) U'
 |.exit _,_=>False
theorem GE{P:Program}{f fd:Nat}{fn:Func}{c:Code}{args:List D}{O:Sig}{R:DE->Sig->Prop}(hf:P.funcs[f]? = some fn)(hb:fn.body=some c)(cM:MJ P fd)(bb:fd<P.funcs.size)
  (cr : (fn.name == "runtime.NumGoroutine") = false) {m : Nat} (hm : fn.ntmps = m) (hn : args.length <= m) (h : DWp P .none m c (fun x s => ∃ s', Wk P m s s' /\ BodyD P m fn fd (Weak R) x s') { γ := Bo 0 args, O }) : DCall P f args O R := by
 refine H9 ⟨(Array.getElem?_eq_some_iff.1 hf).1,AI hf cr (by rw[hb];rfl),fun g w vs hs ha=>?_⟩
 refine callsIn_of_wp_defers hf hb (by obtain⟨h1,_⟩:=Array.getElem?_eq_some_iff.1 hf;exact EA h1 _) ?_ rfl
 subst hm
 refine wpIn_mono (h g w _ {} rfl ⟨hs,De ha hn,rfl⟩) ?_
 rintro e a w' ⟨g',s1,x,h1,h2,h3,s2,cd,h4⟩
 obtain⟨g2,aY,aA⟩:=cd _ _ _ h2
 have cV:=h1.trans aY
 have key:∀(u:FrameMode) (pan:Option D) (cap:List D) (U':Sig) (d:D),u≠.run->(match pan with|none=>u=.returning|some d=> ∃v,u=.panicking [{ v,recovered:=false }]/\Rep g2 d v)->
   s2.df=[.fn fd [] cap]->Jq P fd cap s2.O pan U'->L8 P fn.ntmps fn ⟨s2.γ,U',[]⟩ d->Weak R (.ret d) U'->LeavesIn (FX P {}) 0 P fn a.tmps (Jr P g (Weak R)) a.defers u w':=by
  intro u pan cap U' d hu hp e1 e2 e3 e4
  have br:=aA.df
  rw[e1]at br
  obtain⟨az,cs,rest,hd,ra,rc,aU⟩:=br
  obtain rfl:az=[]:=ra
  obtain rfl:rest=[]:=aU
  rw[hd]
  refine leavesIn_cons hu (fun h=>by cases h) (f:=fd) (args:=cs.toArray) ?_ ?_ ?_
  ·simp only[invoke]
   have:=cM (#[]++cs.toArray) w'
   simpa using this
  ·intro g hg
   simp only[Target.leads,Option.some.injEq]at hg
   subst hg;exact(EA bb _)
  ·refine(e2 g2 w' cs u aA.sim rc hp).mono ?_
   rintro e u' w3 ⟨⟨v,rfl⟩,aB,g3,l3,bO⟩
   simp only[aB]
   obtain⟨v,hv,aK⟩:=e3 g3 { a with defers:=[] } w3 ⟨bO,aA.tmps.mono l3,rfl⟩
   exact⟨v,hv,g3,.ret d,U',cV.trans l3,bO,⟨v,rfl,aK⟩,e4⟩
 cases x with
 |normal=>
  obtain rfl:=h3
  obtain⟨cap,U',d,e1,e2,e3,e4⟩:=h4
  exact key .returning none cap U' d (by simp) rfl e1 e2 e3 e4
 |ret=>
  obtain rfl:=h3
  obtain⟨cap,U',d,e1,e2,e3,e4⟩:=h4
  exact key .returning none cap U' d (by simp) rfl e1 e2 e3 e4
 |panic p=>
  obtain⟨v,rfl,aK⟩:=h3
  obtain⟨cap,U',d,e1,e2,e3,e4⟩:=h4
  exact key _ (some p) cap U' d (by simp) ⟨v,rfl,Rep.mono aY _ aK⟩ e1 e2 e3 e4
 |exit i=>exact h4.elim
theorem P8{P:Program}{F:Fence}{n:Nat}{ops:Array Oper}{Q:Exit->Act->List Frame->World->Prop}{a:Act}{cs:List Frame}{w:World}{i:Nat}{l:List Nat}{o:Oper}{v:Value}(ho:ops[i]? = some o)(hg:o.guard=none)
  (bu:∀f,o.about P w a.eval=some f->F.fn f) (aa:(execOp a.eval o).run P w=.ok (.value v) w) (h:wpOpsSIn F n P ops Q l (a.put o.dst v) cs w):wpOpsSIn F n P ops Q (i::l) a cs w:=by
 have hw:Region.wanted o (yielded ops a.tmps)=true:=by simp[Region.wanted,hg]
 simp only[wpOpsSIn,ho,hw,if_true,aa]
 exact⟨bu,h⟩
theorem Hl{P:Program}{F:Fence}{n:Nat}{ops:Array Oper}{Q:Exit->Act->List Frame->World->Prop}{a:Act}{cs cs':List Frame}{w:World}{i:Nat}{l:List Nat}{o:Oper}{v:Value}(ho:ops[i]? = some o)(hg:o.guard=none)
  (bu:∀f,o.about P w a.eval=some f->F.fn f) (aa:(execOp a.eval o).run P w=.ok .recover w) (ai:recoverD cs=some (v,cs')\/(recoverD cs=none/\v=.nilIface/\cs'=cs)) (h:wpOpsSIn F n P ops Q l (a.put o.dst v) cs' w):wpOpsSIn F n P ops Q (i::l) a cs w:=by
 have hw:Region.wanted o (yielded ops a.tmps)=true:=by simp[Region.wanted,hg]
 rcases ai with ai|⟨ai,rfl,rfl⟩
 ·simp only[wpOpsSIn,ho,hw,if_true,aa,ai]
  exact⟨bu,h⟩
 ·simp only[wpOpsSIn,ho,hw,if_true,aa,ai]
  exact⟨bu,h⟩
theorem HE{P:Program}{F:Fence}{n:Nat}{Q:Exit->Act->List Frame->World->Prop}{a:Act}{cs cs':List Frame}{w:World}{id t4 t1 ty1 ty2:Nat}{p1 p2:String}{a1 a2:Array Edge}{rest:Code}{v:Value}
  (ai:recoverD cs=some (v,cs')\/(recoverD cs=none/\v=.nilIface/\cs'=cs)) (bm:t4<a.tmps.size)
  (h:rest.wpSIn F n P Q ((a.put (some t4) v).put (some t1) v) cs' w) :
  (Code.seq (.region id #[⟨some t4,.call { callee:=.builtin .recover,args:= #[],argTypes:= #[] },ty1,p1,a1,none⟩,⟨some t1,.assign (.tmp t4),ty2,p2,a2,none⟩] false) rest).wpSIn F n P Q a cs w:=by
 refine wpSIn_seq (wpSIn_region ?_)
 have hr:List.range (#[(⟨some t4,.call { callee:=.builtin .recover,args:= #[],argTypes:= #[] },ty1,p1,a1,none⟩:Oper),⟨some t1,.assign (.tmp t4),ty2,p2,a2,none⟩]:Array Oper).size=[0,1]:=rfl
 rw[hr]
 have bF:(a.put (some t4) v).eval (.tmp t4)=v:=by simp[Act.put,Act.eval,bm]
 refine Hl (o:=⟨some t4,.call { callee:=.builtin .recover,args:= #[],argTypes:= #[] },ty1,p1,a1,none⟩) rfl rfl (fun f h=>by cases h) rfl ai ?_
 refine P8 (o:=⟨some t1,.assign (.tmp t4),ty2,p2,a2,none⟩) (v:=v) rfl rfl (fun f h=>by cases h) ?_ h
 show(Sem.run P (pure (Next.value ((a.put (some t4) v).eval (.tmp t4)))) w)=_
 rw[bF];rfl
theorem OC{P:Program}{f:Nat}{fn:Func}{id t4 t1 ty1 ty2:Nat}{p1 p2:String}{a1 a2:Array Edge}{rest:Code}{args:List D}{O U':Sig}{pan:Option D}{m:Nat}
  (hf:P.funcs[f]? = some fn) (hb:fn.body=some (Code.seq (.region id #[⟨some t4,.call { callee:=.builtin .recover,args:= #[],argTypes:= #[] },ty1,p1,a1,none⟩,⟨some t1,.assign (.tmp t4),ty2,p2,a2,none⟩] false) rest))
  (hm:fn.ntmps=m) (hn:args.length<=m) (bm:t4<m) (ci:t1<m) (ap:fn.results=#[])
  (h:DWp P .none m rest (fun x s=>(x=.normal\/x=.ret)/\s.df=[]/\Sub U' s.O) ⟨(t1,pan.getD .niliface)::(t4,pan.getD .niliface)::Bo 0 args,O,[]⟩):Jq P f args O pan U':=by
 intro g w vs u hs ha hu
 subst hm
 have aj:f<P.funcs.size:=(Array.getElem?_eq_some_iff.1 hf).1
 refine callsDIn_of_wpSIn hf hb (EA aj _) fun c₀ cs hc=>?_
 have hT:=De ha hn
 have aD:∀(d:D) (v:Value),Rep g d v->RepT g ((t1,d)::(t4,d)::Bo 0 args) fn.ntmps (((({ tmps:=vs.toArray++Array.replicate (fn.ntmps-vs.toArray.size) undef,defers:=[] }:Act).put (some t4) v).put (some t1) v).tmps):=by
  intro d v hv
  have h1 := RepT.put (o := ⟨some t4, .move (.tmp 0), 0, "", #[], none⟩) (a := { tmps := vs.toArray ++ Array.replicate (fn.ntmps - vs.toArray.size) undef, defers := [] }) hT hv (by simp [Ar, bm])
  exact RepT.put (o := ⟨some t1, .move (.tmp 0), 0, "", #[], none⟩) (a := ({ tmps := vs.toArray ++ Array.replicate (fn.ntmps - vs.toArray.size) undef, defers := [] } : Act).put (some t4) v) h1 hv (by simp [Ar, ci])
 have hsz:t4<(vs.toArray++Array.replicate (fn.ntmps-vs.toArray.size) undef).size:=by rw[hT.1];exact bm
 have fin:∀(d:D) (v:Value) (u':FrameMode) (cs':List Frame),pan.getD .niliface=d->Rep g d v->settle u'=.returning->cs'={ c₀ with mode:=u' }::cs->
   rest.wpSIn (FX P {}) 0 P (bodyPostS P fn c₀ cs fun e u' w'=>(∃v,e=.returned v)/\settle u'=.returning /\ ∃g',g.le g'/\Sim P g' U' w')
    (((({ tmps:=vs.toArray++Array.replicate (fn.ntmps-vs.toArray.size) undef,defers:=[] }:Act).put (some t4) v).put (some t1) v)) cs' w:=by
  intro d v u' cs' hd hv aB bt
  refine wpSIn_of_wpIn rfl ?_
  subst hd
  refine wpIn_mono (h g w _ {} rfl ⟨hs,aD _ v hv,rfl⟩) ?_
  rintro e a w' ⟨g',s',x,l1,l2,l3,hx,br,aT⟩
  have hd:a.defers=[]:=DT l2.df br
  have hr:(results fn a.tmps).run P w'=.ok (.tuple #[]) w':=by simp[results,ap]
  rcases hx with rfl|rfl
  ·obtain rfl:=l3
   exact⟨hd,u',bt,_,hr,⟨_,rfl⟩,aB,g',l1,l2.sim.sub aT⟩
  ·obtain rfl:=l3
   exact⟨hd,u',bt,_,hr,⟨_,rfl⟩,aB,g',l1,l2.sim.sub aT⟩
 cases pan with
 |none=>
  have hu:u=.returning:=hu
  subst hu
  refine HE (v:=.nilIface) (cs':=c₀::cs) (.inr ⟨?_,rfl,rfl⟩) hsz (fin .niliface .nilIface .returning _ rfl rfl rfl ?_)
  ·simp[recoverD,hc]
  ·rw[<-hc]
 |some d=>
  obtain⟨v,rfl,hv⟩:=hu
  refine HE (v:=v) (cs':={ c₀ with mode:=.panicking [{ v,recovered:=true }] }::cs) (.inl ?_) hsz (fin d v (.panicking [{ v,recovered:=true }]) _ rfl hv rfl rfl)
  simp[recoverD,hc]
def nilB:TyK->Value->D->Option Bool
 |.iface,.nilIface,.niliface=>some true
 |.iface,.nilIface,.iface _ _=>some false
 |.ptr _,.pointer none,.nilp=>some true
 |.ptr _,.pointer none,.cptr _ _=>some false
 |.ptr _,.pointer none,.ptr _ _=>some false
 |.ptr _,.pointer none,.obj _=>some false
 |_,_,_=>none
theorem Jj{P:Program}{w:Go.World}(d:Nat)(t:TypeId){i}(h:P.underlying t=some (.interface i)):(Op.equalIn (d+1) t .nilIface .nilIface).run P w=.ok true w:=by
 simp[Op.equalIn,run_underlying h]
theorem Ji{P:Program}{w:Go.World}(d:Nat)(t:TypeId){i}(h:P.underlying t=some (.interface i))(u:TypeId)(x:Value):(Op.equalIn (d+1) t (.iface u x) .nilIface).run P w=.ok false w:=by
 simp[Op.equalIn,run_underlying h]
theorem Ep{P:Program}{w:Go.World}(d:Nat)(t:TypeId){e}(h:P.underlying t=some (.pointer e))(p:Option Addr):(Op.equalIn (d+1) t (.pointer p) (.pointer none)).run P w=.ok p.isNone w:=by
 cases p<;>simp[Op.equalIn,run_underlying h]
theorem Mp{P:Program}{tab:Nat->Ty}(ht:AZ P tab){ro:Ro}{n:Nat}{ops:Array Oper}{Q:DX->St->Prop}{rest:List Oper}{γ:Fr}{O:Sig}{df:List DDf}{t T T' ty:Nat}{x:Operand}{z:Value}{pos:String}{after:Array Edge}{guard:Option (Nat×Bool)}{b:Bool}(neg:Bool)
  (hw:Ay ops γ ⟨some t,.binOp (if neg then .neq else .eql) T x (.const z) T',ty,pos,after,guard⟩=some true) (hb:nilB (tab T).k z (ev γ x)=some b) (ag:t<n)
  (h:DOps P ro n ops Q rest ⟨(t,.bool (b != neg))::γ,O,df⟩) :
  DOps P ro n ops Q (⟨some t,.binOp (if neg then .neq else .eql) T x (.const z) T',ty,pos,after,guard⟩::rest) ⟨γ,O,df⟩:=by
 refine GC hw (fun c e=>by cases e) (Aa fun c e=>by cases e) (d:=.bool (b != neg)) ?_ (by simp[Ar,ag]) h
 intro g w a hs hT
 have hv:=Ah hT x
 refine ORun.of (Av (v:=.bool (b != neg)) hs ?_ rfl)
 have fin:∀(v:Value) (c:Bool),a.eval x=v->(Op.equal T v z).run P w=.ok c w->(∀op,(eqGuard op T x (.const z) v z).run P w=.ok () w)->
   (binOp .eql T v z=do pure (.bool (<-Op.equal T v z)))->(binOp .neq T v z=do pure (.bool (!(<-Op.equal T v z))))->
   (do eqGuard (if neg then .neq else .eql) T x (.const z) (a.eval x) (a.eval (.const z));binOp (if neg then .neq else .eql) T (a.eval x) (a.eval (.const z)):Sem Value).run P w=.ok (.bool (c != neg)) w:=by
  intro v c e1 e2 e3 e4 e5
  rw[e1,show a.eval (.const z)=z from rfl]
  cases neg
  ·simp only[Bool.false_eq_true,if_false]
   rw[Sem.run_bind,e3,Result.andThen_ok,e4,Sem.run_bind,e2,Result.andThen_ok,Sem.run_pure]
   cases c<;>rfl
  ·simp only[if_true]
   rw[Sem.run_bind,e3,Result.andThen_ok,e5,Sem.run_bind,e2,Result.andThen_ok,Sem.run_pure]
   cases c<;>rfl
 have iface:(tab T).k=.iface->∃i,P.underlying T=some (.interface i):=fun hk=>by
  obtain⟨desc,be,aS⟩:=Ev ht hk (by simp)
  cases desc<;>simp[KOK]at aS
  exact⟨_,be⟩
 have ptr:∀e,(tab T).k=.ptr e->P.underlying T=some (.pointer e):=fun e hk=>by
  obtain⟨desc,be,aS⟩:=Ev ht hk (by simp)
  cases desc<;>simp[KOK]at aS
  rw[be,aS]
 have gp:∀(p q:Option Addr) op,(eqGuard op T x (.const (.pointer q)) (.pointer p) (.pointer q)).run P w=.ok () w:=fun p q op=>by cases op<;>rfl
 unfold nilB at hb
 split at hb<;>(try (cases hb;done))<;>cases hb<;>rename_i hk he
 ·obtain⟨i,hd⟩:=iface hk
  rw[show ev (St.mk γ O df).γ x=.niliface from he]at hv
  exact fin .nilIface true hv (Jj (P:=P) (w:=w) 9999 T hd) (fun op=>by cases op<;>cases x<;>rfl) rfl rfl
 ·obtain⟨i,hd⟩:=iface hk
  rw[show ev (St.mk γ O df).γ x=.iface _ _ from he]at hv
  obtain⟨y,hv,_⟩:=hv
  exact fin _ false hv (Ji (P:=P) (w:=w) 9999 T hd _ _) (fun op=>by cases op<;>rfl) rfl rfl
 ·rw[show ev (St.mk γ O df).γ x=.nilp from he]at hv
  exact fin (.pointer none) true hv (Ep (P:=P) (w:=w) 9999 T (ptr _ hk) none) (gp _ _) rfl rfl
 ·rw[show ev (St.mk γ O df).γ x=.cptr _ _ from he]at hv
  obtain⟨b,o,hv,_⟩:=hv
  exact fin _ false hv (Ep (P:=P) (w:=w) 9999 T (ptr _ hk) (some _)) (gp _ _) rfl rfl
 ·rw[show ev (St.mk γ O df).γ x=.ptr _ _ from he]at hv
  obtain⟨b,_,hv⟩:=hv
  exact fin _ false hv (Ep (P:=P) (w:=w) 9999 T (ptr _ hk) (some _)) (gp _ _) rfl rfl
 ·rw[show ev (St.mk γ O df).γ x=.obj _ from he]at hv
  obtain⟨b,_,hv⟩:=hv
  exact fin _ false hv (Ep (P:=P) (w:=w) 9999 T (ptr _ hk) (some _)) (gp _ _) rfl rfl
theorem Mk{P:Program}{w:Go.World}(d:Nat)(t:TypeId)(h:P.underlying t=some .bool)(a b:Bool):(Op.equalIn (d+1) t (.bool a) (.bool b)).run P w=.ok (a==b) w:=by
 simp[Op.equalIn,run_underlying h]
theorem Vd{P:Program}{tab:Nat->Ty}(ht:AZ P tab){ro:Ro}{n:Nat}{ops:Array Oper}{Q:DX->St->Prop}{rest:List Oper}{γ:Fr}{O:Sig}{df:List DDf}{t T T' ty:Nat}{x y:Operand}{pos:String}{after:Array Edge}{guard:Option (Nat×Bool)}{a b:Bool}(neg:Bool)
  (hw:Ay ops γ ⟨some t,.binOp (if neg then .neq else .eql) T x y T',ty,pos,after,guard⟩=some true) (hk:(tab T).k=.bool) (hx:ev γ x=.bool a) (hy:ev γ y=.bool b) (ag:t<n)
  (h:DOps P ro n ops Q rest ⟨(t,.bool ((a==b) != neg))::γ,O,df⟩) :
  DOps P ro n ops Q (⟨some t,.binOp (if neg then .neq else .eql) T x y T',ty,pos,after,guard⟩::rest) ⟨γ,O,df⟩:=by
 refine GC hw (fun c e=>by cases e) (Aa fun c e=>by cases e) (d:=.bool ((a==b) != neg)) ?_ (by simp[Ar,ag]) h
 intro g w ac hs hT
 have hv:=Ah hT x
 have hu:=Ah hT y
 rw[show ev (St.mk γ O df).γ x=.bool a from hx]at hv
 rw[show ev (St.mk γ O df).γ y=.bool b from hy]at hu
 have cf:ac.eval x=.bool a:=hv
 have cg:ac.eval y=.bool b:=hu
 refine ORun.of (Av (v:=.bool ((a==b) != neg)) hs ?_ rfl)
 obtain⟨desc,be,aS⟩:=Ev ht hk (by simp)
 have hd:P.underlying T=some .bool:=by cases desc<;>simp[KOK]at aS;exact be
 have e2:(Op.equal T (.bool a) (.bool b)).run P w=.ok (a==b) w:=Mk (P:=P) (w:=w) 9999 T hd a b
 have e3:∀op,(eqGuard op T x y (.bool a) (.bool b)).run P w=.ok () w:=fun op=>by cases op<;>rfl
 rw[cf,cg]
 cases neg
 ·simp only[Bool.false_eq_true,if_false]
  rw[Sem.run_bind,e3,Result.andThen_ok,show binOp .eql T (.bool a) (.bool b)=(do pure (.bool (<-Op.equal T (.bool a) (.bool b))):Sem Value) from rfl,Sem.run_bind,e2,Result.andThen_ok,Sem.run_pure]
  cases (a==b)<;>rfl
 ·simp only[if_true]
  rw[Sem.run_bind,e3,Result.andThen_ok,show binOp .neq T (.bool a) (.bool b)=(do pure (.bool (!(<-Op.equal T (.bool a) (.bool b)))):Sem Value) from rfl,Sem.run_bind,e2,Result.andThen_ok,Sem.run_pure]
  cases (a==b)<;>rfl
def OM(P:Program)(T:Nat)(name:String)(f:Nat):Prop:= ∀(v:Value) (w:Go.World),(method (P.types.size+Made.depth) T v name).run P w=.ok (f,v) w
theorem Ns{P:Program}{ro:Ro}{n:Nat}{ops:Array Oper}{Q:DX->St->Prop}{rest:List Oper}{γ:Fr}{O:Sig}{df:List DDf}{rv:Operand}{name:String}{args:Array Operand}{ats:Array TypeId}{dst:Option Tmp}{ty:TypeId}{pos:String}{after:Array Edge}{guard:Option (Nat×Bool)}{f T:Nat}{d:D}{az:List D}{R:DE->Sig->Prop}
  (hw:Ay ops γ ⟨dst,.call { callee:=.invoke rv name,args,argTypes:=ats },ty,pos,after,guard⟩=some true)
  (hx:ev γ rv=.iface T d) (hM:OM P T name f) (h:DCall P f az O R) (cT:WkL (d::args.toList.map (ev γ)) az)
  (ho:Ar n ⟨dst,.call { callee:=.invoke rv name,args,argTypes:=ats },ty,pos,after,guard⟩=true)
  (bz:∀d U',R (.ret d) U'->DOps P ro n ops Q rest ⟨putD dst d γ,U',df⟩)
  (bA:∀d U',R (.panic d) U'->Q (.panic d) ⟨γ,U',df⟩) :
  DOps P ro n ops Q (⟨dst,.call { callee:=.invoke rv name,args,argTypes:=ats },ty,pos,after,guard⟩::rest) ⟨γ,O,df⟩:=by
 intro g w a r hr hs
 unfold wpListIn
 rw[AH hs.tmps hw,if_pos rfl]
 have hv:=Ah hs.tmps rv
 rw[show ev (St.mk γ O df).γ rv=.iface T d from hx]at hv
 obtain⟨x,hv,ca⟩:=hv
 have ap:(resolve a.eval { callee:=.invoke rv name,args,argTypes:=ats } ty).run P w=.ok { target:=.fn (.method name) #[],args:= #[.iface T x]++args.map a.eval } w:=by
  simp only[resolve,hv];rfl
 refine⟨fun f' aR=>?_,?_⟩
 ·simp only[Oper.about,ap,Target.leads]at aR
  have h0:(#[Value.iface T x]++args.map a.eval)[0]? = some (.iface T x):=by rw[Array.getElem?_append_left (Nat.zero_lt_one)];rfl
  rw[h0]at aR
  simp only[hM x w]at aR
  cases aR
  exact EA h.lt _
 ·rw[Oper.semAt_eq _ _ _ (fun c e=>by cases e)]
  have aa:(execOp a.eval ⟨dst,.call { callee:=.invoke rv name,args,argTypes:=ats },ty,pos,after,guard⟩).run P w=.ok (.enter f (#[x]++args.map a.eval)) w:=by
   simp only[execOp,Sem.run_bind,ap,Result.andThen_ok,invoke]
   have h0:(#[Value.iface T x]++args.map a.eval)[0]? = some (.iface T x):=by rw[Array.getElem?_append_left (Nat.zero_lt_one)];rfl
   have h1:(#[Value.iface T x]++args.map a.eval).extract 1 (#[Value.iface T x]++args.map a.eval).size=args.map a.eval:=by
    apply Array.ext';simp;exact List.take_of_length_le (by simp)
   simp only[h0,h1,callMethod,program,Sem.run_bind]
   show(((method (P.types.size+Made.depth) T x name).run P w).andThen fun q w'=>(callFunc q.1 (#[q.2]++args.map a.eval)).run P w')=_
   rw[hM x w,Result.andThen_ok]
   exact h.ent _ w
  rw[aa]
  refine⟨fun h=>(by cases h),?_⟩
  have bj:RepL g (d::args.toList.map (ev γ)) (x::args.toList.map a.eval):=⟨x,_,rfl,ca,CR hs.tmps _⟩
  have hc:=K9 r (h.run g w _ hs.sim (cT.rep bj))
  have cR:CallsIn (FX P r) 0 P f (#[x]++args.map a.eval) w (Jr P g R):=by
   have e:(x::args.toList.map a.eval).toArray=#[x]++args.map a.eval:=by apply Array.ext';simp
   rw[<-e];exact hc
  refine cR.mono ?_
  rintro e w' ⟨g',y,U',h1,h2,h3,h4⟩
  cases y with
  |ret d=>
   obtain⟨v,rfl,h5⟩:=h3
   exact AD h1 _ (bz d U' h4 g' w' _ r (hr.mono h1) (hs.put (o:=⟨dst,.call { callee:=.invoke rv name,args,argTypes:=ats },ty,pos,after,guard⟩) h1 h2 h5 ho))
  |panic d=>
   obtain⟨v,rfl,h5⟩:=h3
   exact⟨g',⟨γ,U',df⟩,.panic d,h1,⟨h2,hs.tmps.mono h1,hs.df.mono h1⟩,⟨v,rfl,h5⟩,bA d U' h4⟩
section
variable {P:Program}{ro:Ro}{n:Nat}{Q:DX->St->Prop}{s:St}
theorem CF{b:Frame}{a:Act}{k:List Item}{cs:List Frame}{w:Go.World}{c:Code}:step P (lone (b.atR a (.code (.scope c)::k)) cs w)=.next (lone (b.atR a (.code c :: .inScope c::k)) cs w):=
 step_lone_go (by simp[stepG,stepG.exec,Frame.atR])
theorem Ku{b:Frame}{a:Act}{k:List Item}{cs:List Frame}{w:Go.World}{c:Code}:step P (lone (b.atR a (.inScope c::k)) cs w)=.next (lone (b.atR a k) cs w):=
 step_lone_go (by simp[stepG,stepG.exec,Frame.atR])
theorem Mm{c:Code}(h:DWp P ro n c Q s):DWp P ro n (.scope c) Q s:=by
 intro g w a r hr hs
 intro b k cs ck hb bx
 have h0:(lone (b.atR a (.code (.scope c)::k)) cs w).fenced P (FX P r):=fenced_calm hb bx rfl
 obtain⟨e,a₁,w₁,⟨g',s',x,l1,l2,l3,l4⟩,ar⟩:=h g w a r hr hs b (.inScope c::k) cs ck hb bx
 have hp:Post P g n Q e a₁ w₁:=⟨g',s',x,l1,l2,l3,l4⟩
 cases e with
 |normal=>exact⟨.normal,a₁,w₁,hp,.head h0 CF (StepsIn.trans ar (.one (fenced_calm hb bx rfl) Ku))⟩
 | exit id =>
  have hx:exitTo id (.inScope c::k)=exitTo id k:=by simp[exitTo]
  exact⟨.exit id,a₁,w₁,hp,fun k' hk=>.head h0 CF (ar.1 k' (by rw[hx];exact hk)),
   fun cp hk=>let ⟨k₁,h1,h2⟩:=ar.2 cp (by rw[hx];exact hk);⟨k₁,h1,.head h0 CF h2⟩⟩
 |goto l=>cases x<;>first|(cases l3;done)|(obtain⟨v,l3,_⟩:=l3;cases l3)
 |ret=>exact⟨_,a₁,w₁,hp,.of_steps (.one h0 CF) ar⟩
 |panic ch=>exact⟨_,a₁,w₁,hp,.of_steps (.one h0 CF) ar⟩
 |outgrown=>exact⟨_,a₁,w₁,hp,.of_steps (.one h0 CF) ar⟩
end
section
variable {P:Program}{ro:Ro}{n:Nat}{ops:Array Oper}{N:Nat}{S0:Sig}{Q:DX->St->Prop}{df:List DDf}{E:List Nat}
theorem QC(hN:P.funcs.size=N){ord:List Nat}{k:Nat}{ol:Oper}(aq:ops.size=k+1)(aV:ops[k]? = some ol)(aN:mixB ops E [] ord=true)(bk:∀i,i<k->i∈ord)(aj:∀i∈ord,i<k)
  (ce:∀i,i<k->FJ ops ops.size k i=true) (bN:∀e∈ol.after,Region.binds .any e=true->e.on<k) {g0:G}{rr:Rx} (hr:RoRep g0 ro rr) :
  ∀(m:Nat) (r:List Nat) (listed:Array Bool) (γ:Fr) (O:Sig),r.length=m->listed.size=ops.size->r=ord.filter (fun i=> !listed.getD i true)->listed.getD k true=false->Closed ops listed->
   MOps P ro n ops N S0 (Then (fun s=>DOps P ro n ops Q [ol] s) Q) df E r γ O->Sub S0 O->
   ∀(g:G) (w:World) (a:Act),g0.le g->SimS P g n ⟨γ,O,df⟩ a w->wpAnyIn (FX P rr) 0 P .any ops (Post P g0 n Q) (m+1) listed a w:=by
 have aW:∀(r:List Nat) (listed:Array Bool),Closed ops listed->r=ord.filter (fun i=> !listed.getD i true)->∀i∈Region.ready .any ops listed,i∈r\/(i=k/\r=[]):=by
  intro r listed aw hf i hi
  obtain⟨h1,o,ho,hd⟩:=mem_ready.1 hi
  have cG:i<k+1:=by rw[<-aq];exact(Array.getElem?_eq_some_iff.1 ho).1
  by_cases hk:i=k
  ·subst hk
   right
   refine⟨rfl,?_⟩
   rw[hf,List.filter_eq_nil_iff]
   intro x hx
   have:=CG aw ops.size i x o ho hd (ce x (aj x hx))
   rcases Nat.lt_or_ge x listed.size with h|h
   ·simp[h]at this⊢; exact this
   ·simp[Array.getElem?_eq_none h]at this
  ·left
   rw[hf,List.mem_filter]
   exact⟨bk i (by omega),by rw[h1];rfl⟩
 intro m
 induction m with
 | zero =>
  intro r listed γ O hl hsz hf bC aw h hC g w a hg hs
  obtain rfl:r=[]:=List.length_eq_zero_iff.1 hl
  have am:∀x,x<k->listed.getD x true=true:=by
   intro x hx
   have:=(List.filter_eq_nil_iff.1 hf.symm) x (bk x hx)
   simpa using this
  refine⟨fun he=>?_,fun i hi=>?_⟩
  ·exfalso
   have:k∈Region.ready .any ops listed:=by
    refine mem_ready.2 ⟨bC,ol,aV,fun e hm hb=>?_⟩
    have h5:=am _ (bN e hm hb)
    have aO:e.on<listed.size:=by rw[hsz,aq];have:=bN e hm hb;omega
    simpa[aO] using h5
   rw[he]at this;cases this
  ·obtain rfl:i=k:=by
    rcases aW [] listed aw hf i hi with h|h
    ·cases h
    ·exact h.1
   have h1:DOps P ro n ops Q [ol] ⟨γ,O,df⟩:=fun g w a r hr hs=>by
    have h':=h g w a r hr hs
    obtain⟨g',s',x,k1,k2,k3,k4⟩:=h'
    cases x with
    |normal=>exact AD k1 _ (k4 g' w a r (hr.mono k1) k2)
    |ret=>cases k3
    |exit _=>cases k3
    |panic _=>obtain⟨v,k3,_⟩:=k3;cases k3
   have h2:=AD hg _ (h1 g w a rr (hr.mono hg) hs)
   unfold wpOpIn
   rw[aV]
   have hz:∀j,j<ops.size->(listed.setIfInBounds i true).getD j true=true:=by
    intro j hj
    by_cases bY:j=i
    ·subst bY
     have:j<listed.size:=by rw[hsz];exact hj
     simp[this]
    ·rw[getD_set_ne true (fun e=>bY e.symm)];exact am j (by omega)
   have bS:Region.ready .any ops (listed.setIfInBounds i true)=[]:=List.eq_nil_iff_forall_not_mem.2 fun j hj=>by
    obtain⟨h1,o,ho,_⟩:=mem_ready.1 hj
    rw[hz j (Array.getElem?_eq_some_iff.1 ho).1]at h1;cases h1
   simp only[wpListIn]at h2
   simp only
   split
   ·rename_i hw
    rw[if_pos hw]at h2
    exact Oper.wpIn_mono (fun a w h=>⟨bS,h⟩) h2
   ·rename_i hw
    rw[if_neg hw]at h2
    exact⟨h2.1,bS,h2.2⟩
 | succ m ih =>
  intro r listed γ O hl hsz hf bC aw h hC g w a hg hs
  obtain⟨y,t,rfl⟩:∃y t,r=y::t:=by cases r with|nil=>cases hl|cons y t=>exact⟨y,t,rfl⟩
  refine⟨fun he=>?_,fun i hi=>?_⟩
  ·exfalso
   obtain⟨l1,l2,aM,cC,hy,cX⟩:=List.filter_eq_cons_iff.1 hf.symm
   subst aM
   obtain⟨h1,_,_,o,ho,b8,_⟩:=EP l1 [] aN
   have:y∈Region.ready .any ops listed:=by
    refine mem_ready.2 ⟨by simpa using hy,o,ho,fun e hm hb=>?_⟩
    rcases b8 e hm hb with h4|h4
    ·have h5:=cC _ h4
     simp only[Bool.not_eq_true,Bool.not_eq_false']at h5
     have aO:e.on<listed.size:=by
      have:=aj e.on (by simp[h4])
      rw[hsz,aq];omega
     simpa[aO] using h5
    ·cases h4
   rw[he]at this;cases this
  ·have cE:i∈y::t:=by
    rcases aW _ listed aw hf i hi with h|h
    ·exact h
    ·exact absurd h.2 (by simp)
   obtain⟨pre,post,aJ⟩:=List.append_of_mem cE
   rw[aJ]at hf h hl
   obtain⟨l1',l2',aM,bI,cP⟩:=List.filter_eq_append_iff.1 hf.symm
   obtain⟨m1,m2,bD,cy,cY,cO⟩:=List.filter_eq_cons_iff.1 cP
   have au:ord=(l1'++m1)++i::m2:=by rw[aM,bD];simp
   have cG:i<k:=aj i (by rw[au];simp)
   rw[au]at aN
   obtain⟨n1,_,n3,o,ho,b8,hx⟩:=EP (l1'++m1) [] aN
   obtain⟨cD,o',bR,am⟩:=mem_ready.1 hi
   obtain rfl:o'=o:=by rw[ho]at bR;cases bR;rfl
   have aP:=GW ho post pre γ O (fun x bM=>by
    have cb:x∈l1'++m1:=by
     have:x∈l1'.filter (fun i=> !listed.getD i true):=by rw[bI];exact bM
     simp[(List.mem_filter.1 this).1]
    have bL:listed.getD x true=false:=by
     have:x∈l1'.filter (fun i=> !listed.getD i true):=by rw[bI];exact bM
     simpa using(List.mem_filter.1 this).2
    rcases hx x cb with h4|h4
    ·exfalso
     have:=CG aw ops.size i x o' ho am h4
     rcases Nat.lt_or_ge x listed.size with aj|aj
     ·simp[aj]at this bL;rw[bL]at this;cases this
     ·simp[Array.getElem?_eq_none aj]at this
    ·exact h4) h
   have aG:pre++post=ord.filter (fun j=> !(listed.setIfInBounds i true).getD j true):=by
    have cF:i<listed.size:=by
     rw[hsz];exact(Array.getElem?_eq_some_iff.1 ho).1
    rw[au,List.filter_append,List.filter_cons]
    have e1:(listed.setIfInBounds i true).getD i true=true:=by simp[cF]
    rw[e1,AK n1,AK n3]
    simp only[Bool.not_true,Bool.false_eq_true,if_false,List.filter_append,bI,cO]
    rw[List.filter_eq_nil_iff.2 (fun x hx=>by simpa using cy x hx),List.append_nil]
   have hlen:(pre++post).length=m:=by simp at hl⊢; omega
   have aX:(listed.setIfInBounds i true).getD k true=false:=by rw[getD_set_ne true (show i≠k by omega)];exact bC
   obtain⟨o2,bQ,hh⟩:=aP
   obtain rfl:o2=o':=by rw[ho]at bQ;cases bQ;rfl
   unfold wpOpIn
   simp only[ho]
   rcases hh with⟨d,hy,hM⟩|⟨_,hE⟩
   ·exact F6 (Q:=Q) hN (hr.mono hg) hg hs hC hy fun g' w' a' bG aC=>ih _ _ _ _ hlen (by simpa using hsz) aG aX (aw.set hi) hM hC g' w' a' (hg.trans bG) aC
   ·exact CU (Q:=Q) (hr.mono hg) hg hs hE (fun g' w' a' d U' bG hR aC=>ih _ _ _ _ hlen (by simpa using hsz) aG aX (aw.set hi) hR.2 hR.1 g' w' a' (hg.trans bG) aC) fun d U' hp=>hp
def Ii(ops:Array Oper)(E ord:List Nat):Bool:=mixB ops E [] ord&&(List.range (ops.size-1)).all ord.contains&&(ord.length==ops.size-1)&&ord.all (fun i=>decide (i<ops.size-1))&&(match ops[ops.size-1]? with
 |some o=>(List.range (ops.size-1)).all (fun i=>FJ ops ops.size (ops.size-1) i)&&o.after.all (fun e=> !Region.binds .any e||decide (e.on<ops.size-1))
 |none=>false)
theorem Ow(hN:P.funcs.size=N)(hm:P.follows .mixedOrders=true){l:List Oper}{id:Nat}{γ:Fr}{O:Sig}(ord E:List Nat)(S0:Sig){ol:Oper}(hB:Ii l.toArray E ord=true)(hl:nthO l (l.length-1)=some ol)(hC:Sub S0 O)
  {lp:List (Bool×Oper)} (cB:I7 l E ord=some lp) (h:MO P ro n l.toArray N S0 (Then (fun s=>DOps P ro n l.toArray Q [ol] s) Q) df lp γ O):DWp P ro n (.region id l.toArray true) Q ⟨γ,O,df⟩:=by
 intro g w a r hr hs
 refine wpIn_region_any hm ?_
 rw[GV]at hl
 have hne:l.length≠0:=fun e=>by have:l=[]:=List.length_eq_zero_iff.1 e;subst this;cases hl
 unfold Ii at hB
 simp only[Bool.and_eq_true,beq_iff_eq]at hB
 obtain⟨⟨⟨⟨b1,b2⟩,b3⟩,b4⟩,b5⟩:=hB
 have aq:l.toArray.size=(l.toArray.size-1)+1:=by simp;omega
 have aV:l.toArray[l.toArray.size-1]? = some ol:=by simpa using hl
 rw[aV]at b5
 simp only[Bool.and_eq_true]at b5
 have aj:∀i∈ord,i<l.toArray.size-1:=fun i hi=>by simpa using List.all_eq_true.1 b4 i hi
 have aC:SimS P g n ⟨γ,O,df⟩ a { w with drawn:=w.drawn+1 }:=
  ⟨⟨fun b o v h=>hs.sim.imm b o v h,hs.sim.keep,fun i o h=>by
   have:=hs.sim.obj i o h
   cases o<;>exact this,hs.sim.inj,hs.sim.free,hs.sim.htop,hs.sim.hdom,hs.sim.fin,hs.sim.io,hs.sim.tab⟩,hs.tmps,hs.df⟩
 have aw:Closed l.toArray (Array.replicate l.toArray.size false):=by
  intro q o _ hq
  rcases Nat.lt_or_ge q l.length with h'|h'
  ·simp[h']at hq
  ·simp[h']at hq
 have cu:=Ff (P:=P) (ro:=ro) (n:=n) (N:=N) (S0:=S0) (Q:=Then (fun s=>DOps P ro n l.toArray Q [ol] s) Q) (df:=df) (ops:=l.toArray) (E:=E) (ord:=ord) (fun i hi=>by have:=aj i hi;omega) (by rw[N5 cB];exact h)
 have:=QC (P:=P) hN (ops:=l.toArray) (k:=l.toArray.size-1) aq aV b1 (fun i hi=>by simpa using List.all_eq_true.1 b2 i (by simpa using hi)) aj
  (fun i hi=>List.all_eq_true.1 b5.1 i (List.mem_range.2 hi))
  (fun e he hb=>by
   have:=Array.all_eq_true_iff_forall_mem.1 b5.2 e he
   simpa[hb] using this)
  hr ord.length ord (Array.replicate l.toArray.size false) γ O rfl (by simp) (Do (fun i hi=>by have:=aj i hi;omega)).symm (by
   have:l.toArray.size-1<l.toArray.size:=by omega
   rw[Array.getD_eq_getD_getElem?]
   simp only[Array.getElem?_replicate,this,if_true];rfl) aw cu hC g _ a (.refl g) aC
 rw[b3,<-aq]at this
 exact this
end
theorem Hw{g:G}{d d':D}(h:∀v,Rep g d v->Rep g d' v): ∀{az bs:List D}{vs:List Value},RepL g (az++d::bs) vs->RepL g (az++d'::bs) vs
 |[],_,_,⟨v,r,e,h1,h2⟩=>⟨v,r,e,h v h1,h2⟩
 |_::_,_,_,⟨v,r,e,h1,h2⟩=>⟨v,r,e,h1,Hw h h2⟩
section
variable {P:Program}{n:Nat}{γ:List (Nat×D)}{O:Sig}{df:List DDf}
theorem DH{i:Nat}{az bs:List D}{d d':D}(hi:O i=some (.cells (az++d::bs)))(h:WkD d d'):Wk P n ⟨γ,O,df⟩ ⟨γ,O.set i (.cells (az++d'::bs)),df⟩:=
 fun g _ _ hs=>⟨g,.refl g,⟨hs.sim.retell hi fun _=>Hw (h g),hs.tmps,hs.df⟩⟩
theorem ML{i sz:Nat}{st:MR}{es:List (List D)}{az bs:List D}(hm:mOK O sz st es)(hi:O i=some (.cells (az++mD st es.length::bs))):Wk P n ⟨γ,mS O st es,df⟩ ⟨γ,O.set i (.cells (az ++ .slice es .no::bs)),df⟩:=by
 cases st with
 |none=>
  obtain rfl:es=[]:=hm
  exact DH hi (Am _ (.inl rfl))
 |some x=>
  obtain⟨j,cap,rest⟩:=x
  obtain⟨m1,m2,m3,m4⟩:=hm
  have aH:i≠j:=fun h=>by rw[h,m1]at hi;cases hi
  intro g w a hs
  obtain⟨b,_,_,hb,_,_⟩:=hs.sim.obj j _ (w6 O j _)
  obtain⟨g',ak,aC,cm⟩:=hs.sim.freeze (i:=j) (w6 O j _) hb
  have hU:(mS O (some (j,cap,rest)) es).del j=O:=Sig.set_del _ _ m1
  simp only at aC
  rw[hU]at aC
  refine⟨g',ak,⟨aC.retell hi fun vs=>Hw fun v hv=>?_,hs.tmps.mono ak,hs.df.mono ak⟩⟩
  obtain⟨b',ay,hv⟩:=hv
  obtain rfl:b'=b:=by have:=ak.rho _ _ hb;rw[this]at ay;cases ay;rfl
  exact⟨_,cap,hv,m3,.inr ⟨sz,b',0,rfl,DS m4 cm⟩,trivial⟩
theorem WkL.repI{g:G}{b:Nat}: ∀{az bs:List D}{o:Nat},WkL az bs->RepI g b o az->RepI g b o bs
 |[],[],_,_,h=>h
 |_::_,_::_,_,⟨h1,h2⟩,⟨⟨v,h3,h4⟩,h5⟩=>⟨⟨v,h3,h1 g v h4⟩,WkL.repI h2 h5⟩
 |[],_::_,_,h,_=>h.elim
 |_::_,[],_,h,_=>h.elim
def WkE:List (List D)->List (List D)->Prop
 |[],[]=>True
 |a::az,b::bs=>WkL a b/\WkE az bs
 |_,_=>False
theorem WkE.len: ∀{az bs:List (List D)},WkE az bs->az.length=bs.length
 |[],[],_=>rfl
 |a::az,b::bs,h=>by simp[WkE.len h.2]
 |[],_::_,h=>h.elim
 |_::_,[],h=>h.elim
theorem WkE.rep{g:G}{b sz:Nat}: ∀{az bs:List (List D)}{o:Nat},WkE az bs->RepE g b sz o az->RepE g b sz o bs
 |[],[],_,_,h=>h
 |_::_,_::_,_,⟨h1,h2⟩,⟨⟨h3,h4⟩,h5⟩=>⟨⟨by rw[<-h1.len];exact h3,h1.repI h4⟩,WkE.rep h2 h5⟩
 |[],_::_,_,h,_=>h.elim
 |_::_,[],_,h,_=>h.elim
theorem Jt{es es':List (List D)}(o:Own)(h:WkE es es'):WkD (.slice es o) (.slice es' .no):=by
 rintro g v ⟨a,cap,h1,h2,h3,_⟩
 refine⟨a,cap,by rw[<-h.len];exact h1,by rw[<-h.len];exact h2,?_,trivial⟩
 rcases h3 with rfl|⟨sz,b,o,ha,hr⟩
 ·exact .inl (List.length_eq_zero_iff.mp h.len.symm)
 ·exact .inr ⟨sz,b,o,ha,h.rep hr⟩
theorem Ld: ∀ds:List D,WkL ds ds
 |[]=>trivial
 |d::ds=>⟨A8 d,Ld ds⟩
theorem NI: ∀es:List (List D),WkE es es
 |[]=>trivial
 |e::es=>⟨Ld e,NI es⟩
theorem WkE.app: ∀{az bs cs ds:List (List D)},WkE az bs->WkE cs ds->WkE (az++cs) (bs++ds)
 |[],[],_,_,_,h=>h
 |_::_,_::_,_,_,⟨h1,h2⟩,h=>⟨h1,WkE.app h2 h⟩
 |[],_::_,_,_,h,_=>h.elim
 |_::_,[],_,_,h,_=>h.elim
end
theorem Vz{O:Sig}{sz:Nat}{st:MR}{es:List (List D)}{j:Nat}{o:DObj}(hm:mOK O sz st es)(hj:mS O st es j=none):(mS O st es).set j o=mS (O.set j o) st es/\mOK (O.set j o) sz st es:=by
 cases st with
 |none=>exact⟨rfl,hm⟩
 | some x =>
  obtain⟨i,cap,rest⟩:=x
  have aH:j≠i:=fun h=>by
   subst h
   simp only[mS,w6]at hj
   cases hj
  obtain⟨m1,m2,m3,m4⟩:=hm
  refine⟨?_,by rw[w7 _ _ (Ne.symm aH)];exact m1,m2,m3,m4⟩
  funext k
  simp only[mS,Sig.set]
  by_cases h1:k=j
  ·subst h1;rw[if_pos rfl,if_neg aH,if_pos rfl]
  ·by_cases h2:k=i
   ·subst h2;rw[if_neg h1,if_pos rfl,if_pos rfl]
   ·rw[if_neg h1,if_neg h2,if_neg h2,if_neg h1]
theorem QT{O:Sig}{sz:Nat}{st:MR}{es:List (List D)}{j:Nat}{o:DObj}(hm:mOK O sz st es)(hj:O j=some o):mS O st es j=some o:=by
 cases st with
 |none=>exact hj
 |some x=>
  obtain⟨i,cap,rest⟩:=x
  have aH:j≠i:=fun h=>by rw[h,hm.1]at hj;cases hj
  simp only[mS];rw[w7 _ _ aH];exact hj
theorem QS{O:Sig}{st:MR}{es:List (List D)}{j:Nat}(hj:mS O st es j=none):O j=none:=by
 cases st with
 |none=>exact hj
 |some x=>
  obtain⟨i,cap,rest⟩:=x
  simp only[mS,Sig.set]at hj
  by_cases h:j=i
  ·rw[if_pos h]at hj;cases hj
  ·rw[if_neg h]at hj;exact hj
theorem mS_put{O:Sig}{sz:Nat}{st:MR}{es:List (List D)}{j:Nat}{o x:DObj}(hm:mOK O sz st es)(hj:O j=some x):(mS O st es).set j o=mS (O.set j o) st es/\mOK (O.set j o) sz st es:=by
 cases st with
 |none=>exact⟨rfl,hm⟩
 | some y =>
  obtain⟨i,cap,rest⟩:=y
  obtain⟨m1,m2,m3,m4⟩:=hm
  have aH:j≠i:=fun h=>by rw[h,m1]at hj;cases hj
  refine⟨?_,by rw[w7 _ _ (Ne.symm aH)];exact m1,m2,m3,m4⟩
  funext k
  simp only[mS,Sig.set]
  by_cases h1:k=j
  ·subst h1;rw[if_pos rfl,if_neg aH,if_pos rfl]
  ·by_cases h2:k=i
   ·subst h2;rw[if_neg h1,if_pos rfl,if_pos rfl]
   ·rw[if_neg h1,if_neg h2,if_neg h2,if_neg h1]
section
variable {P:Program}{tab:Nat->Ty}{ro:Ro}{n:Nat}{ops:Array Oper}{Q:DX->St->Prop}{γ:List (Nat×D)}{O:Sig}{df:List DDf}{rest:List Oper}{t:Nat}{ty:TypeId}{pos:String}{after:Array Edge}
theorem Nu(ht:AZ P tab){T len e:Nat}(ag:t<n)(hk:(tab T).k=.array len e)(he:A1 (tab e).k=false)
  (h:DOps P ro n ops Q rest ⟨(t,.agg (tab T).zero)::γ,O,df⟩):DOps P ro n ops Q (⟨some t,.build T #[],ty,pos,after,none⟩::rest) ⟨γ,O,df⟩:=by
 refine Bx (fun d U'=>d=.agg (tab T).zero/\U'=O) rfl (fun c e=>by cases e) (Aa fun c e=>by cases e) (by simp[Ar,ag]) ?_ (fun d U' ⟨a,b⟩=>by subst a b;exact h)
 intro g w a hs _
 obtain⟨inf,desc,z,h1,h2,h3,h4,h5,h6,h7,h8,h9,dc⟩:=BO (ht T) (by rw[hk];simp)
 obtain⟨inf',_,_,g1,_⟩:=BO (ht e) (Ae he)
 have hz:RepL g (tab T).zero z.cells.toList:=by
  rw[h9]
  exact AE (by simp) fun j x v e1 e2=>by
   rw[List.getElem?_map,e2]at e1
   cases e1;exact Dk g v
 have hb:P.built T []=some z.cells:=by
  unfold Program.built
  rw[h1,FU ht hk]
  simp only[h7,g1]
  rfl
 refine⟨g,w,.agg z.cells,.agg (tab T).zero,O,?_,.refl g,hs,⟨z.cells.toList,by simp,hz⟩,rfl,rfl⟩
 have:=run_build (P:=P) w T #[] z.cells hb
 simp only[execOp,Array.map_empty,Sem.run_bind,this,Result.andThen_ok]
 rfl
end
section
variable {P:Program}{ro:Ro}{n:Nat}{ops:Array Oper}{Q:DX->St->Prop}{rest:List Oper}{tab:Nat->Ty}{γ:List (Nat×D)}{O:Sig}{df:List DDf}
def SrcOK(P:Program)(O:Sig)(d:D)(m:Nat)(cs:List D):Prop:=
 ∀g w v,Sim P g O w->Rep g d v->∃a cap us,v=.slice a m cap/\RepL g cs us/\us.length=m/\(m=0 \/ ∃b o,a=some ⟨b,o,none⟩ /\ ∀j v,us[j]? = some v->w.cell? ⟨b,o+j,none⟩=some v)
theorem TZ{i off m cap:Nat}{ds:List D}(hi:O i=some (.cells ds))(h:off+m<=ds.length):SrcOK P O (.sref i off m cap) m ((ds.drop off).take m):=by
 intro g w v hs hr
 obtain⟨b,hb,rfl⟩:=hr
 obtain⟨b',vs,ty,ay,ae,hr⟩:=hs.obj i _ hi
 obtain rfl:b'=b:=by rw[hb]at ay;cases ay;rfl
 have hlen:=RepL.length hr
 simp only[Array.length_toList]at hlen
 refine⟨_,_,(vs.toList.drop off).take m,rfl,AE (by simp;omega) fun j d v h1 h2=>?_,by simp;omega,.inr ⟨b',off,rfl,fun j v hj=>?_⟩⟩
 ·have hj:j<m:=by have:=(List.getElem?_eq_some_iff.1 h1).1;simp at this;omega
  rw[List.getElem?_take_of_lt hj,List.getElem?_drop]at h1 h2
  have:=RepL.get hr (off+j)
  rw[h1,h2]at this
  exact this
 ·have bE:j<m:=by have:=(List.getElem?_eq_some_iff.1 hj).1;simp at this;omega
  rw[List.getElem?_take_of_lt bE,List.getElem?_drop,Array.getElem?_toList]at hj
  simp[World.cell?, ae,hj]
theorem Qb{d:D}{es:List (List D)}(h:esOf d=some es)(hl:∀c∈es,c.length=1):SrcOK P O d es.length es.flatten:=by
 intro g w v hs hr
 obtain⟨xa,xc,q1,q2,q3⟩:=BY h hr
 obtain⟨news,v1,v2,v3⟩:=BP hs hl q3
 exact⟨xa,xc,news,q1,v1,by omega,v3⟩
variable (ht:AZ P tab)
include ht
theorem K6{t T T' ty e i off len cap m:Nat}{s x:Operand}{pos:String}{after:Array Edge}{ds cs:List D}
  (ag:t<n) (hk:(tab T).k=.slice e) (he:A1 (tab e).k=false) (hsz:(tab e).size=1) (h1:ev γ s=.sref i off len cap) (hi:O i=some (.cells ds)) (hlen:off+len<=ds.length)
  (h2:SrcOK P O (ev γ x) m cs) (bt:BB cs=true)
  (h:DOps P ro n ops Q rest ⟨(t,.int .i64 ((min m len:Nat):Int))::γ,O.set i (.cells (ds.take off++(cs.take (min m len)++ds.drop (off+min m len)))),df⟩) :
  DOps P ro n ops Q (⟨some t,.call { callee:=.builtin .copy,args:= #[s,x],argTypes:= #[T,T'] },ty,pos,after,none⟩::rest) ⟨γ,O,df⟩:=by
 refine Bx (fun d U'=>d=.int .i64 ((min m len:Nat):Int)/\U'=O.set i (.cells (ds.take off++(cs.take (min m len)++ds.drop (off+min m len))))) rfl (fun c e=>by cases e) (B4 rfl rfl) (by simp[Ar,ag]) ?_
  (fun d U' ⟨a2,a3⟩=>by subst a2 a3;exact h)
 intro g w a hs hT
 have bp:=Ah hT s
 have aQ:=Ah hT x
 rw[h1]at bp
 obtain⟨b,hb,bp⟩:=bp
 obtain⟨xa,xc,us,hx,hr,cW,bf⟩:=h2 g w _ hs aQ
 obtain⟨b2,vs,ty',b9,ae,bP⟩:=hs.obj i _ hi
 obtain rfl:b2=b:=by rw[hb]at b9;cases b9;rfl
 have cz:=RepL.length bP
 simp only[Array.length_toList]at cz
 have aw:=RepL.length hr
 obtain⟨inf,z,t1,t2,t3,t4,t5,t6,t7⟩:=Bd ht hk hk he
 have hu:P.underlying T=some (.slice e):=t1
 have hq:(P.info? e).map (·.size)=some 1:=by rw[t3];simp[t5,hsz]
 have cZ:goInt ((min m len:Nat):Int)=.int .i64 ((min m len:Nat):Int):=rfl
 have aa : ∃ w',(Builtin.copy_ #[T,T'] ty #[a.eval s,a.eval x]).run P w = .ok (goInt ((min m len:Nat):Int)) w'/\Sim P g (O.set i (.cells (ds.take off++(cs.take (min m len)++ds.drop (off+min m len))))) w':=by
  rw[bp,hx]
  by_cases h0:min m len=0
  ·refine⟨w,?_,?_⟩
   ·rw[h0];exact run_copy_none w T T' ty e _ _ len cap m xc hu hq (by show min m len=0;exact h0)
   ·rw[h0];simp only[List.take_zero,List.nil_append,Nat.add_zero,List.take_append_drop]
    rw[show O.set i (.cells ds)=O from funext fun j=>by by_cases hj:j=i<;>simp[Sig.set,hj,hi]];exact hs
  ·obtain⟨b3,o3,rfl,cQ⟩:=bf.resolve_left (by omega)
   have aI:(us.take (min m len)).length=min m len:=by simp;omega
   have hne:us.take (min m len)≠[]:=fun e=>by rw[e]at aI;simp at aI;omega
   have hl:=run_loadCells_list (P:=P) w ⟨b3,o3,none⟩ (us.take (min m len)) (fun j v hj=>by
    rw[Bu]
    have bE:j<min m len:=by have:=(List.getElem?_eq_some_iff.1 hj).1;simp at this;omega
    rw[List.getElem?_take_of_lt bE]at hj
    exact cQ j v hj)
   have bb:=CK hr bt
   have aE:=Bv (P:=P) (us.take (min m len)) 0 w vs ae (fun v hv=>bb v (List.mem_of_mem_take hv)) (o:=off) (by rw[aI];omega)
   rw[if_neg hne]at aE
   refine⟨_,?_,hs.setObj (ty:=ty') (vs':=Ba vs (off+0) (us.take (min m len))) hi hb ?_ ⟨vs,ae⟩⟩
   ·have cH:inf.size=1:=by omega
    have bB:Nat.min m len=min m len:=rfl
    simp only[Builtin.copy_]
    simp[run_underlying hu,Builtin.lenOf,Builtin.firstCells,sizeOf,typeInfo,t3,cH,bB,hl,aE,aI]
    rw[aI]at hl
    simp[hl,aE]
   ·refine AE (by simp only[List.length_append,List.length_take,List.length_drop,Array.length_toList,Ce];omega) fun j d v h1 h2=>?_
    have aA:(Ba vs (off+0) (us.take (min m len)))[j]? = some v:=by simpa using h2
    rw[CD _ _ _ _ (by rw[aI];omega),aI]at aA
    have hg:=RepL.get bP j
    rw[List.getElem?_append]at h1
    simp only[List.length_take]at h1
    by_cases c1:j<off
    ·rw[if_neg (by omega)]at aA
     rw[if_pos (by omega),List.getElem?_take_of_lt c1]at h1
     rw[h1]at hg
     simp only[Array.getElem?_toList,aA,Option.getD_some]at hg
     exact hg
    ·rw[if_neg (by omega),List.getElem?_append]at h1
     simp only[List.length_take]at h1
     have eo:min off ds.length=off:=by omega
     rw[eo]at h1
     by_cases c2:j-off<min m len
     ·rw[if_pos (by omega),List.getElem?_take_of_lt (by omega)]at aA
      rw[if_pos (by omega),List.getElem?_take_of_lt (by omega)]at h1
      have:=RepL.get hr (j-off)
      rw[h1,show j-off=j-(off+0) by omega,aA]at this
      exact this
     ·rw[if_neg (by omega)]at aA
      rw[if_neg (by omega),List.getElem?_drop,show off+min m len+(j-off-min (min m len) cs.length)=j by omega]at h1
      rw[h1]at hg
      simp only[Array.getElem?_toList,aA,Option.getD_some]at hg
      exact hg
 obtain⟨w',aa,bw⟩:=aa
 refine⟨g,w',goInt ((min m len:Nat):Int),.int .i64 ((min m len:Nat):Int),_,?_,.refl g,bw,rfl,rfl,rfl⟩
 simp[execOp,resolve,invoke,builtin,aa]
omit ht in
theorem Kz{g:G}{i b off len cap:Nat}(h:g.rho i=some b):Rep g (.sref i off len cap) (.slice (some ⟨b,off,none⟩) len cap):=⟨b,h,rfl⟩
theorem NQ{g:G}{w:World}{T e i off len cap:Nat}{k:IntKind}{v u:Value}{lo:Nat}(hk:(tab T).k=.slice e)(he:A1 (tab e).k=false)(hv:Rep g (.sref i off len cap) v)(hu:Rep g (.int k lo) u)(bT:lo<=len)(bU:lo<cap):
  ∃r,(Instr.sliceAt T v (some u) none none).run P w=.ok r w/\Rep g (.sref i (off+lo*(tab e).size) (len-lo) (cap-lo)) r:=by
 obtain⟨b,hb,rfl⟩:=hv
 obtain rfl:=AQ hu
 refine⟨_,?_,Kz (len:=len-lo) (cap:=cap-lo) (off:=off+lo*(tab e).size) hb⟩
 have hu:=AJ ht hk
 have c1:(0:Int)<=(lo:Int):=by omega
 have c2:(lo:Int)<=(len:Int):=by omega
 have c3:¬cap=lo:=by omega
 simp only[Option.map_some,Instr.sliceAt,Instr.slice,Instr.sliceBounds,Instr.sliceBound,asIntOf,Sem.run_bind,Sem.run_pure,Result.andThen_ok,run_underlying hu,c1,c2,and_self,if_true,Az (ht e) (Ae he),Int.toNat_natCast,c3,if_false,Bu]
theorem NR{g:G}{w:World}{T e i off len cap:Nat}{k:IntKind}{v u:Value}{hi:Nat}(hk:(tab T).k=.slice e)(he:A1 (tab e).k=false)(hv:Rep g (.sref i off len cap) v)(hu:Rep g (.int k hi) u)(bZ:hi<=cap):
  ∃r,(Instr.sliceAt T v none (some u) none).run P w=.ok r w/\Rep g (.sref i off hi cap) r:=by
 obtain⟨b,hb,rfl⟩:=hv
 obtain rfl:=AQ hu
 refine⟨_,?_,Kz (len:=hi) (cap:=cap) (off:=off) hb⟩
 have hu:=AJ ht hk
 have c1:(0:Int)<=(hi:Int):=by omega
 have c2:(hi:Int)<=(cap:Int):=by omega
 simp only[Instr.sliceAt,Instr.slice,Instr.sliceBounds,Instr.sliceBound,asIntOf,Sem.run_bind,Sem.run_pure,Result.andThen_ok,run_underlying hu,c1,c2,and_self,if_true,Az (ht e) (Ae he),Int.toNat_natCast,Nat.sub_zero,Nat.zero_mul]
 congr 1
 split<;>simp[Addr.add]
variable {N:Nat}{S0:Sig}
theorem mo_cutL{t T ty e i off len cap:Nat}{k:IntKind}{x y:Operand}{lo:Nat}{pos:String}{after:Array Edge}{f:Bool}{l:List (Bool×Oper)}
  (h:MO P ro n ops N S0 Q df l ((t,.sref i (off+lo*(tab e).size) (len-lo) (cap-lo))::γ) O)
  (ag:t<n) (hk:(tab T).k=.slice e) (he:A1 (tab e).k=false) (h1:ev γ x=.sref i off len cap) (h2:ev γ y=.int k lo) (bT:lo<=len) (bU:lo<cap) :
  MO P ro n ops N S0 Q df ((f,⟨some t,.slice T x (some y) none none,ty,pos,after,none⟩)::l) γ O:=by
 refine .inl ⟨_,⟨by simp[Ar,ag],.inl ⟨rfl,(fun c e=>by cases e),Aa (fun c e=>by cases e),fun U' hU g w a hs hT=>?_⟩⟩,h⟩
 have hx:=Ah hT x
 have hy:=Ah hT y
 rw[Bl (o:=⟨some t,.slice T x (some y) none none,ty,pos,after,none⟩) (by simp[Op.operands]),h1]at hx
 rw[Bl (o:=⟨some t,.slice T x (some y) none none,ty,pos,after,none⟩) (by simp[Op.operands]),h2]at hy
 obtain⟨r,h3,h4⟩:=NQ (w:=w) ht hk he hx hy bT bU
 exact⟨g,w,r,by simp only[execOp,Option.map_some,Option.map_none,Sem.run_bind,h3,Result.andThen_ok,Sem.run_pure],.refl g,hs,h4⟩
theorem QJ{t T ty e i off len cap:Nat}{k:IntKind}{x y:Operand}{hi:Nat}{pos:String}{after:Array Edge}{f:Bool}{l:List (Bool×Oper)}
  (h:MO P ro n ops N S0 Q df l ((t,.sref i off hi cap)::γ) O)
  (ag:t<n) (hk:(tab T).k=.slice e) (he:A1 (tab e).k=false) (h1:ev γ x=.sref i off len cap) (h2:ev γ y=.int k hi) (bZ:hi<=cap) :
  MO P ro n ops N S0 Q df ((f,⟨some t,.slice T x none (some y) none,ty,pos,after,none⟩)::l) γ O:=by
 refine .inl ⟨_,⟨by simp[Ar,ag],.inl ⟨rfl,(fun c e=>by cases e),Aa (fun c e=>by cases e),fun U' hU g w a hs hT=>?_⟩⟩,h⟩
 have hx:=Ah hT x
 have hy:=Ah hT y
 rw[Bl (o:=⟨some t,.slice T x none (some y) none,ty,pos,after,none⟩) (by simp[Op.operands]),h1]at hx
 rw[Bl (o:=⟨some t,.slice T x none (some y) none,ty,pos,after,none⟩) (by simp[Op.operands]),h2]at hy
 obtain⟨r,h3,h4⟩:=NR (w:=w) ht hk he hx hy bZ
 exact⟨g,w,r,by simp only[execOp,Option.map_some,Option.map_none,Sem.run_bind,h3,Result.andThen_ok,Sem.run_pure],.refl g,hs,h4⟩
omit ht in
end
def isAl(o:Oper):Option (Nat×Nat):=match o with
 |⟨some t,.alloc T,_,_,_,none⟩=>some (t,T)
 |_=>none
theorem Iq{o:Oper}{t T:Nat}(h:isAl o=some (t,T)): ∃ty pos af,o=⟨some t,.alloc T,ty,pos,af,none⟩:=by
 unfold isAl at h
 split at h
 ·cases h;exact⟨_,_,_,rfl⟩
 ·cases h
section
variable (P:Program)(ro:Ro)(n:Nat)(ops:Array Oper)(N:Nat)(S0:Sig)(Q:DX->St->Prop)(df:List DDf)(tab:Nat->Ty)
def Step2(e:Bool)(o:Oper)(γ:Fr)(O:Sig)(K:Fr->Sig->Prop):Prop:=
 match isAl o with
 |some (t,T)=> ∀k,O k=none->K ((t,.ptr k 0)::γ) (O.set k (.cells (tab T).zero))
 |none=>(∃d,Calm P n ops N S0 γ o d/\K (putD o.dst d γ) O) \/
  (e=true/\Eff P ro n ops df γ O o (fun d U'=>Sub S0 U'/\K (putD o.dst d γ) U') (fun d U'=> ∀V',Q (.panic d) ⟨V',U',df⟩))
def MOps2(E:List Nat):List Nat->Fr->Sig->Prop
 |[],γ,O=>DOps P ro n ops Q [] ⟨γ,O,df⟩
 |i::r,γ,O=> ∃o,ops[i]? = some o/\Step2 P ro n ops N S0 Q df tab (E.contains i) o γ O (MOps2 E r)
end
section
variable {P:Program}{ro:Ro}{n:Nat}{ops:Array Oper}{N:Nat}{S0:Sig}{Q:DX->St->Prop}{df:List DDf}{E:List Nat}{tab:Nat->Ty}
theorem Step2.mono{e:Bool}{o:Oper}{γ V':Fr}{O:Sig}{K K':Fr->Sig->Prop}(h:Step2 P ro n ops N S0 Q df tab e o γ O K)(bl:Alike γ V')(hK:∀γ V' O,Alike γ V'->K γ O->K' V' O):Step2 P ro n ops N S0 Q df tab e o V' O K':=by
 unfold Step2 at h⊢
 split at h
 ·exact fun k hk=>hK _ _ _ (bl.put (some _) _) (h k hk)
 ·rcases h with⟨d,h2,h3⟩|⟨h1,h2⟩
  ·exact .inl ⟨d,h2.congr fun t _=>bl t,hK _ _ _ (bl.put _ _) h3⟩
  ·exact .inr ⟨h1,h2.congr (fun t _=>bl t) fun d U' ⟨h3,h4⟩=>⟨h3,hK _ _ _ (bl.put _ _) h4⟩⟩
theorem MOps2.alike: ∀(l:List Nat) {γ V':Fr}{O:Sig},Alike γ V'->MOps2 P ro n ops N S0 Q df tab E l γ O->MOps2 P ro n ops N S0 Q df tab E l V' O
 |[],_,_,_,h,k=>C4 h k
 |i::r,_,_,_,h,⟨o,ho,k⟩=>⟨o,ho,k.mono h fun _ _ _ h' k'=>MOps2.alike r h' k'⟩
theorem set_comm(O:Sig){k k':Nat}(h:k≠k')(x y:DObj):(O.set k x).set k' y=(O.set k' y).set k x:=by
 funext j
 simp only[Sig.set]
 by_cases h1:j=k'<;>by_cases h2:j=k<;>simp_all
def allOK(tab:Nat->Ty)(n:Nat)(ops:Array Oper):Bool:=ops.all fun o=>match isAl o with
 |some (t,T)=>decide (t<n)&&!A1 (tab T).k
 |none=>true
end
section
variable {P:Program}{ro:Ro}{n:Nat}{ops:Array Oper}{Q:DX->St->Prop}{rest:List Oper}{tab:Nat->Ty}{γ:List (Nat×D)}{O:Sig}{df:List DDf}
variable (ht:AZ P tab)
include ht
theorem Oz{t T T' ty e:Nat}{x:Operand}{s:List UInt8}{pos:String}{after:Array Edge}{gd:Option (Nat×Bool)}
  (h:DOps P ro n ops Q rest ⟨(t,.str s)::γ,O,df⟩) (hw:Ay ops γ ⟨some t,.convert T T' x,ty,pos,after,gd⟩=some true) (ag:t<n) (hk:(tab T).k=.slice e) (bW:(tab T').k=.str) (bV:(tab e).k=.int .u8) (h1:esOf (ev γ x)=some (s.map fun b=>[D.int .u8 (b.toNat:Int)])) :
  DOps P ro n ops Q (⟨some t,.convert T T' x,ty,pos,after,gd⟩::rest) ⟨γ,O,df⟩:=by
 refine Bx (fun d U'=>d=.str s/\U'=O) hw (fun c e=>by cases e) (Aa fun c e=>by cases e) (by simp[Ar,ag]) ?_
  (fun d U' ⟨a2,a3⟩=>by subst a2 a3;exact h)
 intro g w a hs hT
 have aQ:=Ah hT x
 obtain⟨xa,xc,q1,q2,q3⟩:=BY h1 aQ
 obtain⟨vs,v1,v2,v3⟩:=BP hs (sz:=1) (fun c hc=>by obtain⟨b,_,rfl⟩:=List.mem_map.1 hc;rfl) q3
 have aa:(convert T T' (a.eval x)).run P w=.ok (.string ⟨s.toArray⟩) w:=by
  rw[q1]
  cases xa with
  | none =>
   have ah:s=[]:=by
    rcases v3 with h|⟨b,o,h,_⟩
    ·simpa using h
    ·cases h
   subst ah
   exact run_convert_bytes_nil w T e (AJ ht hk) (MQ ht bV) _ _ T' (FF ht bW)
  | some ad =>
   rw[List.length_map]
   refine run_convert_bytes_back w T T' e ad xc s (AJ ht hk) (MQ ht bV) (FF ht bW) fun j hj=>?_
   rcases v3 with h|⟨b,o,h,hc⟩
   ·rw[List.length_map]at h;omega
   ·cases h
    have bb:∀l:List UInt8,(l.map fun b=>[D.int .u8 (b.toNat:Int)]).flatten=l.map fun b=>D.int .u8 (b.toNat:Int):=fun l=>by
     induction l with
     |nil=>rfl
     |cons y l ih=>rw[List.map_cons,List.flatten_cons,ih];rfl
    rw[bb]at v1
    have hg:=RepL.get v1 j
    rw[List.getElem?_map,List.getElem?_eq_getElem hj]at hg
    have bX:j<vs.length:=by rw[v2,List.length_map];omega
    rw[List.getElem?_eq_getElem bX]at hg
    simp only[Option.map_some]at hg
    have:=hc j _ (List.getElem?_eq_getElem bX)
    rw[show vs[j]=.int .u8 ((s[j]).toNat:Int) from AQ hg]at this
    have aL:(⟨b,o,none⟩:Addr).add j=⟨b,o+j,none⟩:=by unfold Addr.add;split<;>simp_all
    rw[aL]
    exact this
 exact⟨g,w,.string ⟨s.toArray⟩,.str s,O,by simp only[execOp];rw[Sem.run_bind,aa];rfl,.refl g,hs,rfl,rfl,rfl⟩
end
def byteD(b:UInt8):List D:=[D.int .u8 (b.toNat:Int)]
@[simp] theorem byteD_len(b:UInt8):(byteD b).length=1:=rfl
theorem HS(l:List UInt8):Lib.strCells ⟨l.toArray⟩=l.map fun b=>Value.int .u8 (b.toNat:Int):=by simp[Lib.strCells]
theorem PM(l:List UInt8):ByteArray.size ⟨l.toArray⟩=l.length:=by simp[ByteArray.size]
section
variable {P:Program}{T T' ty e:TypeId}{i:TypeInfo}{z:Value}(ht:P.underlying T=some (.slice e))(bn:P.underlying T'=some .string)(hi:P.info? e=some i)
include ht bn hi
theorem ED{w w2:World}{base:Option Addr}{n cap:Nat}{s:ByteArray}(aF:n+s.size<=cap)
  (aE:∀a,base=some a->(storeCells (a.add (n*i.size)) (Lib.strCells s)).run P w=.ok () w2) (cq:base=none->w2=w) :
  (Builtin.append_ #[T,T'] ty #[.slice base n cap,.string s]).run P w=.ok (.slice base (n+s.size) cap) w2:=by
 have b7:=Lib.run_firstCells_string (P:=P) w i.size s
 cases base with
 |none=>simp[Builtin.append_,run_underlying ht,run_underlying bn,sizeOf,typeInfo,hi,Builtin.lenOf,aF,b7,cq rfl]
 |some a=>simp[Builtin.append_,run_underlying ht,run_underlying bn,sizeOf,typeInfo,hi,Builtin.lenOf,aF,b7,aE a rfl]
theorem Ht(hz:i.zero=some z){w:World}{base:Option Addr}{n cap:Nat}{s:ByteArray}{olds:List Value}
  (cJ:(Builtin.firstCells i.size n (.slice base n cap)).run P w.drew=.ok olds.toArray w.drew)
  (hg:cap<n+s.size) (da:n+s.size<=9223372036854775807) (bH:(n+s.size)*i.bytes<=140737488355328) :
  ∃c,n+s.size<=c/\(Builtin.append_ #[T,T'] ty #[.slice base n cap,.string s]).run P w =
   .ok (.slice (some ⟨w.heap.size,0,none⟩) (n+s.size) c) { w.drew with heap:=w.heap.push (.cells (olds++Lib.strCells s++(Builtin.zeroCells z.cells (c-(n+s.size))).toList).toArray e (0,0)) }:=by
 refine⟨grownCap w (n+s.size) cap e,grownCap_ge w (n+s.size) cap e,?_⟩
 have cK:=Lib.run_firstCells_string (P:=P) w.drew i.size s
 have hn:¬(n+s.size<=cap):=by omega
 have bJ:¬(9223372036854775807<((n:Int)+(s.size:Int))):=by omega
 have hf:=growslice_fits hg bH
 have bK:¬(281474976710656<Builtin.nextslicecap (n+s.size) cap*i.bytes):=by omega
 simp[Builtin.append_,run_underlying ht,run_underlying bn,sizeOf,typeInfo,zeroValue,hi,hz,Builtin.lenOf,hn,bJ,bK,Question.forced,cJ,cK,newRow,grownCap]
 have e':∀Z:Array Value,olds.toArray++((Lib.strCells s).toArray++Z)=(olds++(Lib.strCells s++Z.toList)).toArray:=fun Z=>by apply Array.ext';simp
 rw[e']
 rfl
end
end Go.DL
