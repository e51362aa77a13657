/- A part of the proof. -/
import Derived.Test.YteldimffglchkaaGreatDoorM06
import Derived.Maps.RangeRun
import Derived.RecoverIn
import Derived.Laws.IdiomCopy
import Derived.Laws.IdiomStrings
set_option linter.all false
namespace Go.DL
open Go
theorem Mf{g:G}: ∀{l:List (D×D)}{es:List MapEntry},RepM g l es->RepL g (l.map (·.1)) (es.map (·.key))/\RepL g (l.map (·.2)) (es.map (·.val))
 |[],es,h=>by rw[show es=[] from h];exact⟨rfl,rfl⟩
 |(k,d)::l,es,⟨e,r,he,h1,h2,h3⟩=>by
  subst he
  obtain⟨a,b⟩:=Mf h3
  exact⟨⟨_,_,rfl,h1,a⟩,⟨_,_,rfl,h2,b⟩⟩
theorem RepM.get{g:G}: ∀{l:List (D×D)}{es:List MapEntry},RepM g l es->∀{j:Nat}{e:MapEntry},es[j]? = some e->∃k v,l[j]? = some (k,v)/\Rep g k e.key/\Rep g v e.val
 |[],es,h,j,e,he=>by rw[show es=[] from h]at he;simp at he
 |(k,d)::l,es,⟨e',r,bi,h1,h2,h3⟩,j,e,he=>by
  subst bi
  cases j with
  |zero=>simp at he;subst he;exact⟨k,d,rfl,h1,h2⟩
  |succ j=>simpa using h3.get (by simpa using he)
theorem RepM.len{g:G}: ∀{l:List (D×D)}{es:List MapEntry},RepM g l es->es.length=l.length
 |[],es,h=>by rw[show es=[] from h];rfl
 |(k,d)::l,es,⟨e',r,bi,h1,h2,h3⟩=>by subst bi;simp[h3.len]
theorem RepM.erase{g:G}: ∀{l:List (D×D)}{es:List MapEntry},RepM g l es->∀(j:Nat),RepM g (l.eraseIdx j) (es.eraseIdx j)
 |[],es,h,j=>by rw[show es=[] from h];exact rfl
 |(k,d)::l,es,⟨e',r,bi,h1,h2,h3⟩,j=>by
  subst bi
  cases j with
  |zero=>exact h3
  |succ j=>exact⟨e',_,rfl,h1,h2,h3.erase j⟩
def G.addKeep(g:G)(b:Nat)(o:Obj):G:={ g with keep:=fun k=>if k=b then some o else g.keep k }
section
variable {P:Program}{ro:Ro}{n:Nat}{ops:Array Oper}{Q:DX->St->Prop}{rest:List Oper}{tab:Nat->Ty}{γ:List (Nat×D)}{O:Sig}{df:List DDf}
theorem Sim.mapStays{g:G}{w:World}(ar:Sim P g O w){i b:Nat}{l:List (D×D)}(hi:O i=some (.map l))(hb:g.rho i=some b):
  ∃g',g.le g'/\Sim P g' (O.del i) w/\Rep g' (.cmap (l.map (·.1)) (l.map (·.2))) (.map (some b)):=by
 obtain⟨b',es,clock,ae,aa,hr,aI⟩:=ar.obj i _ hi
 obtain rfl:b'=b:=by rw[hb]at ae;cases ae;rfl
 have bm:blk g O i=some b':=by simp[blk,hi,hb]
 have bf:=ar.free i b' bm
 have ah:g.le (g.addKeep b' (.map es clock)):=
  {imm:=fun _ _ _ h=>h,rho:=fun _ _ h=>h,hist:=fun _ _ _ h=>h,io:=rfl
   keep:=fun k o h=>by
    simp only[G.addKeep]
    by_cases hk:k=b'
    ·rw[hk,bf.1]at h;cases h
    ·rw[if_neg hk];exact h }
 have bj:∀j o,O.del i j=some o->j≠i/\O j=some o:=fun j o h=>by
  by_cases hj:j=i
  ·subst hj;simp[Sig.del]at h
  ·exact⟨hj,by simpa[Sig.del,hj] using h⟩
 have aE:∀j c,blk (g.addKeep b' (.map es clock)) (O.del i) j=some c->j≠i/\blk g O j=some c:=by
  intro j c h
  by_cases hj:j=i
  ·subst hj;simp[blk,Sig.del]at h
  ·refine⟨hj,?_⟩
   unfold blk at h⊢
   simp only[Sig.del,hj,if_false]at h
   exact h
 refine⟨_,ah,?_,?_⟩
 ·exact {
   imm:=ar.imm
   keep:=fun k o h=>by
    simp only[G.addKeep]at h
    by_cases hk:k=b'
    ·rw[if_pos hk]at h;cases h;rw[hk];exact aa
    ·rw[if_neg hk]at h;exact ar.keep k o h
   obj:=fun j o h=>(ar.obj j o (bj j o h).2).mono ah fun _ _ _ _ _ _ _ _ _ _ h=>h
   inj:=fun j k c h1 h2=>ar.inj j k c (aE j c h1).2 (aE k c h2).2
   free:=fun j c h=>by
    obtain⟨hj,h'⟩:=aE j c h
    obtain⟨h1,h2⟩:=ar.free j c h'
    have hc:c≠b':=fun e=>hj (ar.inj j i b' (e ▸ h') bm)
    refine⟨by simp only[G.addKeep];rw[if_neg hc];exact h1,fun hh o=>h2 (fun x hx=>hh x (by simp only[Sig.del,hj,if_false];exact hx)) o⟩
   htop:=fun j sz n k h hk=>ar.htop j sz n k (bj j _ h).2 hk
   hdom:=ar.hdom
   io:=ar.io
   tab:=ar.tab.mono ah
   fin:=ar.fin }
 ·obtain⟨a1,a2⟩:=Mf hr
  exact⟨b',es,clock,rfl,by simp[G.addKeep],aI,RepL.mono ah _ a1,RepL.mono ah _ a2⟩
theorem Nv{t i:Nat}{l:List (D×D)}(hi:O i=some (.map l))(hg:getD γ t=.map i):Wk P n ⟨γ,O,df⟩ ⟨(t,.cmap (l.map (·.1)) (l.map (·.2)))::γ,O.del i,df⟩:=by
 intro g w a hs
 have b8:=hs.tmps.2 t
 rw[hg]at b8
 obtain⟨b,hb,hv⟩:=b8
 obtain⟨g',ah,h1,h2⟩:=hs.sim.mapStays hi hb
 refine⟨g',ah,⟨h1,⟨hs.tmps.1,fun k=>?_⟩,hs.df.mono ah⟩⟩
 rw[A6]
 by_cases hk:k=t
 ·rw[if_pos hk,hk,hv];exact h2
 ·rw[if_neg hk];exact Rep.mono ah _ (hs.tmps.2 k)
variable (ht:Ba P tab)
include ht
omit ht in
omit ht in
theorem Qa{t i:Nat}{x:Operand}{ty:TypeId}{pos:String}{after:Array Edge}{left:List (D×D)}{k v:D}(aj:t<n)(hx:ev γ x=.obj i)(hi:O i=some (.iter left (some (k,v))))
  (h:DOps P ro n ops Q rest ⟨(t,.tup [k,v])::γ,O,df⟩) :
  DOps P ro n ops Q (⟨some t,.entry x,ty,pos,after,none⟩::rest) ⟨γ,O,df⟩:=by
 refine C5 (fun d U'=>d=.tup [k,v]/\U'=O) rfl (fun c e=>by cases e) (Ad fun c e=>by cases e) (by simp[Aq,aj]) ?_ (fun d U' ⟨a,b⟩=>by subst a b;exact h)
 intro g w a hs hT
 have aS:=Am hT x
 rw[hx]at aS
 obtain⟨b,hb,hv⟩:=aS
 obtain⟨b',ae,bl⟩:=hs.obj _ _ hi
 obtain rfl:b'=b:=by rw[hb]at ae;cases ae;rfl
 rcases bl with⟨_,hl,_⟩|⟨mb,es,clock,seen,hh,bd,aI,hr,bc⟩
 ·cases hl
 ·obtain⟨e,st,f1,f2,f3,f4⟩:=bc k v rfl
  have cy:=hs.keep _ _ bd
  refine⟨g,w,.tuple #[e.key,e.val],.tup [k,v],O,?_,.refl g,hs,⟨_,rfl,_,_,rfl,f3,_,_,rfl,f4,rfl⟩,rfl,rfl⟩
  simp[execOp,hv,Instr.entry,getObj,Sem.run,hh,cy,f1,f2]
omit ht in
theorem KP{fop:Operand}{args:Array Operand}{ats:Array TypeId}{dst:Option Tmp}{ty:TypeId}{pos:String}{after:Array Edge}{f:Nat}{first cap:List D}(am:f<P.funcs.size)
  (hf:ev γ fop=.func (.func f) first cap) (ho:Aq n ⟨dst,.defer { callee:=.value fop,args,argTypes:=ats },ty,pos,after,none⟩=true)
  (h:DOps P .none n ops Q rest ⟨putD dst .any γ,O,.fn f (first++args.toList.map (ev γ)) cap::df⟩) :
  DOps P .none n ops Q (⟨dst,.defer { callee:=.value fop,args,argTypes:=ats },ty,pos,after,none⟩::rest) ⟨γ,O,df⟩:=by
 intro g w a r hr hs
 obtain rfl:r={}:=hr
 unfold wpListIn
 rw[AM (o:=⟨dst,.defer { callee:=.value fop,args,argTypes:=ats },ty,pos,after,none⟩) (b:=true) hs.tmps rfl,if_pos rfl]
 have bu:=Am hs.tmps fop
 rw[show ev (St.mk γ O df).γ fop=.func (.func f) first cap from hf]at bu
 obtain⟨fs,cs,bu,co,cn⟩:=bu
 have au:(resolve a.eval { callee:=.value fop,args,argTypes:=ats } ty).run P w=.ok { target:=.fn (.func f) cs.toArray,args:=fs.toArray++args.map a.eval } w:=by
  simp[resolve,bu,Deferred.ofValue,Sem.run]
 refine⟨fun f' aU=>(Ad (fun c e=>by cases e) _ _ _ aU).elim,?_⟩
 have ac:(Oper.semAt (FX P {}).round a.eval ⟨dst,.defer { callee:=.value fop,args,argTypes:=ats },ty,pos,after,none⟩).run P w=.ok (.defer { target:=.fn (.func f) cs.toArray,args:=fs.toArray++args.map a.eval }) w:=by
  simp only[FX,Oper.semAt,execOp,Sem.run_bind,au,Result.andThen_ok,Sem.run_pure]
 rw[ac]
 have aG:=hs.put (d:=.any) (v:=undef) (U':=O) (w':=w) (.refl g) hs.sim trivial ho
 refine h g w _ {} rfl ⟨aG.sim,?_,?_⟩
 ·have e:({ a with defers:={ target:=.fn (.func f) cs.toArray,args:=fs.toArray++args.map a.eval }::a.defers }:Act).put dst undef={ (a.put dst undef)with defers:={ target:=.fn (.func f) cs.toArray,args:=fs.toArray++args.map a.eval }::a.defers }:=by cases dst<;>rfl
  show RepT g _ n (({ a with defers:={ target:=.fn (.func f) cs.toArray,args:=fs.toArray++args.map a.eval }::a.defers }:Act).put dst undef).tmps
  rw[e];exact aG.tmps
 ·have e:(({ a with defers:={ target:=.fn (.func f) cs.toArray,args:=fs.toArray++args.map a.eval }::a.defers }:Act).put dst undef).defers={ target:=.fn (.func f) cs.toArray,args:=fs.toArray++args.map a.eval }::a.defers:=by cases dst<;>rfl
  show RepDf g _ (({ a with defers:={ target:=.fn (.func f) cs.toArray,args:=fs.toArray++args.map a.eval }::a.defers }:Act).put dst undef).defers
  rw[e]
  exact⟨fs++args.toList.map a.eval,cs,a.defers,by simp,co.append (Ds hs.tmps _),cn,hs.df⟩
end
def LV(P:Program)(f:Nat)(args:List D)(O:Sig)(pan:Option D)(U':Sig):Prop:=
 ∀g w vs u,Sim P g O w->RepL g args vs->(match pan with|none=>u=.returning|some d=> ∃v,u=.panicking [{ v,recovered:=false }]/\Rep g d v)->
  CallsDIn (FX P {}) 0 P f vs.toArray u w fun e u' w'=>(∃v,e=.returned v)/\settle u'=.returning /\ ∃g',g.le g'/\Sim P g' U' w'
def BodyD(P:Program)(n:Nat)(fn:Func)(fd:Nat)(R:DE->Sig->Prop):DX->St->Prop
 |.normal,s|.ret,s=> ∃cap U' d,s.df=[.fn fd [] cap]/\LV P fd cap s.O none U'/\Nr P n fn ⟨s.γ,U',[]⟩ d/\R (.ret d) U'
 |.panic p,s=> ∃cap U' d,s.df=[.fn fd [] cap]/\LV P fd cap s.O (some p) U'/\Nr P n fn ⟨s.γ,U',[]⟩ d/\R (.ret d) U'
 |.exit _,_=>False
theorem Hw{P:Program}{f fd:Nat}{fn:Func}{c:Code}{args:List D}{O:Sig}{R:DE->Sig->Prop}(hf:P.funcs[f]? = some fn)(hb:fn.body=some c)(cM:Pj P fd)(bh:fd<P.funcs.size)
  (cq : (fn.name == "runtime.NumGoroutine") = false) {m : Nat} (hm : fn.ntmps = m) (hn : args.length <= m) (h : DWp P .none m c (fun x s => ∃ s', Wk P m s s' /\ BodyD P m fn fd (Weak R) x s') { γ := BF 0 args, O }) : DCall P f args O R := by
 refine I1 ⟨(Array.getElem?_eq_some_iff.1 hf).1,BP hf cq (by rw[hb];rfl),fun g w vs hs ha=>?_⟩
 refine callsIn_of_wp_defers hf hb (by obtain⟨h1,_⟩:=Array.getElem?_eq_some_iff.1 hf;exact Gh h1 _) ?_ rfl
 subst hm
 refine wpIn_mono (h g w _ {} rfl ⟨hs,El ha hn,rfl⟩) ?_
 rintro e a w' ⟨g',s1,x,h1,h2,h3,s2,ce,h4⟩
 obtain⟨g2,bb,ai⟩:=ce _ _ _ h2
 have cV:=h1.trans bb
 have key:∀(u:FrameMode) (pan:Option D) (cap:List D) (U':Sig) (d:D),u≠.run->(match pan with|none=>u=.returning|some d=> ∃v,u=.panicking [{ v,recovered:=false }]/\Rep g2 d v)->
   s2.df=[.fn fd [] cap]->LV P fd cap s2.O pan U'->Nr P fn.ntmps fn ⟨s2.γ,U',[]⟩ d->Weak R (.ret d) U'->LeavesIn (FX P {}) 0 P fn a.tmps (LW P g (Weak R)) a.defers u w':=by
  intro u pan cap U' d hu hp e1 e2 e3 e4
  have bw:=ai.df
  rw[e1]at bw
  obtain⟨az,cs,rest,hd,ra,rc,aW⟩:=bw
  obtain rfl:az=[]:=ra
  obtain rfl:rest=[]:=aW
  rw[hd]
  refine leavesIn_cons hu (fun h=>by cases h) (f:=fd) (args:=cs.toArray) ?_ ?_ ?_
  ·simp only[invoke]
   have:=cM (#[]++cs.toArray) w'
   simpa using this
  ·intro g hg
   simp only[Target.leads,Option.some.injEq]at hg
   subst hg;exact(Gh bh _)
  ·refine(e2 g2 w' cs u ai.sim rc hp).mono ?_
   rintro e u' w3 ⟨⟨v,rfl⟩,ag,g3,l3,bU⟩
   simp only[ag]
   obtain⟨v,hv,aN⟩:=e3 g3 { a with defers:=[] } w3 ⟨bU,ai.tmps.mono l3,rfl⟩
   exact⟨v,hv,g3,.ret d,U',cV.trans l3,bU,⟨v,rfl,aN⟩,e4⟩
 cases x with
 |normal=>
  obtain rfl:=h3
  obtain⟨cap,U',d,e1,e2,e3,e4⟩:=h4
  exact key .returning none cap U' d (by simp) rfl e1 e2 e3 e4
 |ret=>
  obtain rfl:=h3
  obtain⟨cap,U',d,e1,e2,e3,e4⟩:=h4
  exact key .returning none cap U' d (by simp) rfl e1 e2 e3 e4
 |panic p=>
  obtain⟨v,rfl,aN⟩:=h3
  obtain⟨cap,U',d,e1,e2,e3,e4⟩:=h4
  exact key _ (some p) cap U' d (by simp) ⟨v,rfl,Rep.mono bb _ aN⟩ e1 e2 e3 e4
 |exit i=>exact h4.elim
theorem PD{P:Program}{F:Fence}{n:Nat}{ops:Array Oper}{Q:Exit->Act->List Frame->World->Prop}{a:Act}{cs:List Frame}{w:World}{i:Nat}{l:List Nat}{o:Oper}{v:Value}(ho:ops[i]? = some o)(hg:o.guard=none)
  (bA:∀f,o.about P w a.eval=some f->F.fn f) (ac:(execOp a.eval o).run P w=.ok (.value v) w) (h:wpOpsSIn F n P ops Q l (a.put o.dst v) cs w):wpOpsSIn F n P ops Q (i::l) a cs w:=by
 have hw:Region.wanted o (yielded ops a.tmps)=true:=by simp[Region.wanted,hg]
 simp only[wpOpsSIn,ho,hw,if_true,ac]
 exact⟨bA,h⟩
theorem Id{P:Program}{F:Fence}{n:Nat}{ops:Array Oper}{Q:Exit->Act->List Frame->World->Prop}{a:Act}{cs cs':List Frame}{w:World}{i:Nat}{l:List Nat}{o:Oper}{v:Value}(ho:ops[i]? = some o)(hg:o.guard=none)
  (bA:∀f,o.about P w a.eval=some f->F.fn f) (ac:(execOp a.eval o).run P w=.ok .recover w) (ak:recoverD cs=some (v,cs')\/(recoverD cs=none/\v=.nilIface/\cs'=cs)) (h:wpOpsSIn F n P ops Q l (a.put o.dst v) cs' w):wpOpsSIn F n P ops Q (i::l) a cs w:=by
 have hw:Region.wanted o (yielded ops a.tmps)=true:=by simp[Region.wanted,hg]
 rcases ak with ak|⟨ak,rfl,rfl⟩
 ·simp only[wpOpsSIn,ho,hw,if_true,ac,ak]
  exact⟨bA,h⟩
 ·simp only[wpOpsSIn,ho,hw,if_true,ac,ak]
  exact⟨bA,h⟩
theorem IC{P:Program}{F:Fence}{n:Nat}{Q:Exit->Act->List Frame->World->Prop}{a:Act}{cs cs':List Frame}{w:World}{id t4 t1 ty1 ty2:Nat}{p1 p2:String}{a1 a2:Array Edge}{rest:Code}{v:Value}
  (ak:recoverD cs=some (v,cs')\/(recoverD cs=none/\v=.nilIface/\cs'=cs)) (br:t4<a.tmps.size)
  (h:rest.wpSIn F n P Q ((a.put (some t4) v).put (some t1) v) cs' w) :
  (Code.seq (.region id #[⟨some t4,.call { callee:=.builtin .recover,args:= #[],argTypes:= #[] },ty1,p1,a1,none⟩,⟨some t1,.assign (.tmp t4),ty2,p2,a2,none⟩] false) rest).wpSIn F n P Q a cs w:=by
 refine wpSIn_seq (wpSIn_region ?_)
 have hr:List.range (#[(⟨some t4,.call { callee:=.builtin .recover,args:= #[],argTypes:= #[] },ty1,p1,a1,none⟩:Oper),⟨some t1,.assign (.tmp t4),ty2,p2,a2,none⟩]:Array Oper).size=[0,1]:=rfl
 rw[hr]
 have bM:(a.put (some t4) v).eval (.tmp t4)=v:=by simp[Act.put,Act.eval,br]
 refine Id (o:=⟨some t4,.call { callee:=.builtin .recover,args:= #[],argTypes:= #[] },ty1,p1,a1,none⟩) rfl rfl (fun f h=>by cases h) rfl ak ?_
 refine PD (o:=⟨some t1,.assign (.tmp t4),ty2,p2,a2,none⟩) (v:=v) rfl rfl (fun f h=>by cases h) ?_ h
 show(Sem.run P (pure (Next.value ((a.put (some t4) v).eval (.tmp t4)))) w)=_
 rw[bM];rfl
theorem P8{P:Program}{f:Nat}{fn:Func}{id t4 t1 ty1 ty2:Nat}{p1 p2:String}{a1 a2:Array Edge}{rest:Code}{args:List D}{O U':Sig}{pan:Option D}{m:Nat}
  (hf:P.funcs[f]? = some fn) (hb:fn.body=some (Code.seq (.region id #[⟨some t4,.call { callee:=.builtin .recover,args:= #[],argTypes:= #[] },ty1,p1,a1,none⟩,⟨some t1,.assign (.tmp t4),ty2,p2,a2,none⟩] false) rest))
  (hm:fn.ntmps=m) (hn:args.length<=m) (br:t4<m) (ck:t1<m) (au:fn.results=#[])
  (h:DWp P .none m rest (fun x s=>(x=.normal\/x=.ret)/\s.df=[]/\Sub U' s.O) ⟨(t1,pan.getD .niliface)::(t4,pan.getD .niliface)::BF 0 args,O,[]⟩):LV P f args O pan U':=by
 intro g w vs u hs ha hu
 subst hm
 have am:f<P.funcs.size:=(Array.getElem?_eq_some_iff.1 hf).1
 refine callsDIn_of_wpSIn hf hb (Gh am _) fun c₀ cs hc=>?_
 have hT:=El ha hn
 have aG:∀(d:D) (v:Value),Rep g d v->RepT g ((t1,d)::(t4,d)::BF 0 args) fn.ntmps (((({ tmps:=vs.toArray++Array.replicate (fn.ntmps-vs.toArray.size) undef,defers:=[] }:Act).put (some t4) v).put (some t1) v).tmps):=by
  intro d v hv
  have h1 := RepT.put (o := ⟨some t4, .move (.tmp 0), 0, "", #[], none⟩) (a := { tmps := vs.toArray ++ Array.replicate (fn.ntmps - vs.toArray.size) undef, defers := [] }) hT hv (by simp [Aq, br])
  exact RepT.put (o := ⟨some t1, .move (.tmp 0), 0, "", #[], none⟩) (a := ({ tmps := vs.toArray ++ Array.replicate (fn.ntmps - vs.toArray.size) undef, defers := [] } : Act).put (some t4) v) h1 hv (by simp [Aq, ck])
 have hsz:t4<(vs.toArray++Array.replicate (fn.ntmps-vs.toArray.size) undef).size:=by rw[hT.1];exact br
 have fin:∀(d:D) (v:Value) (u':FrameMode) (cs':List Frame),pan.getD .niliface=d->Rep g d v->settle u'=.returning->cs'={ c₀ with mode:=u' }::cs->
   rest.wpSIn (FX P {}) 0 P (bodyPostS P fn c₀ cs fun e u' w'=>(∃v,e=.returned v)/\settle u'=.returning /\ ∃g',g.le g'/\Sim P g' U' w')
    (((({ tmps:=vs.toArray++Array.replicate (fn.ntmps-vs.toArray.size) undef,defers:=[] }:Act).put (some t4) v).put (some t1) v)) cs' w:=by
  intro d v u' cs' hd hv ag bz
  refine wpSIn_of_wpIn rfl ?_
  subst hd
  refine wpIn_mono (h g w _ {} rfl ⟨hs,aG _ v hv,rfl⟩) ?_
  rintro e a w' ⟨g',s',x,l1,l2,l3,hx,bw,aV⟩
  have hd:a.defers=[]:=En l2.df bw
  have hr:(results fn a.tmps).run P w'=.ok (.tuple #[]) w':=by simp[results,au]
  rcases hx with rfl|rfl
  ·obtain rfl:=l3
   exact⟨hd,u',bz,_,hr,⟨_,rfl⟩,ag,g',l1,l2.sim.sub aV⟩
  ·obtain rfl:=l3
   exact⟨hd,u',bz,_,hr,⟨_,rfl⟩,ag,g',l1,l2.sim.sub aV⟩
 cases pan with
 |none=>
  have hu:u=.returning:=hu
  subst hu
  refine IC (v:=.nilIface) (cs':=c₀::cs) (.inr ⟨?_,rfl,rfl⟩) hsz (fin .niliface .nilIface .returning _ rfl rfl rfl ?_)
  ·simp[recoverD,hc]
  ·rw[<-hc]
 |some d=>
  obtain⟨v,rfl,hv⟩:=hu
  refine IC (v:=v) (cs':={ c₀ with mode:=.panicking [{ v,recovered:=true }] }::cs) (.inl ?_) hsz (fin d v (.panicking [{ v,recovered:=true }]) _ rfl hv rfl rfl)
  simp[recoverD,hc]
def nilB:TyK->Value->D->Option Bool
 |.iface,.nilIface,.niliface=>some true
 |.iface,.nilIface,.iface _ _=>some false
 |.ptr _,.pointer none,.nilp=>some true
 |.ptr _,.pointer none,.cptr _ _=>some false
 |.ptr _,.pointer none,.ptr _ _=>some false
 |.ptr _,.pointer none,.obj _=>some false
 |_,_,_=>none
theorem K0{P:Program}{w:Go.World}(d:Nat)(t:TypeId){i}(h:P.underlying t=some (.interface i)):(Op.equalIn (d+1) t .nilIface .nilIface).run P w=.ok true w:=by
 simp[Op.equalIn,run_underlying h]
theorem JZ{P:Program}{w:Go.World}(d:Nat)(t:TypeId){i}(h:P.underlying t=some (.interface i))(u:TypeId)(x:Value):(Op.equalIn (d+1) t (.iface u x) .nilIface).run P w=.ok false w:=by
 simp[Op.equalIn,run_underlying h]
theorem EY{P:Program}{w:Go.World}(d:Nat)(t:TypeId){e}(h:P.underlying t=some (.pointer e))(p:Option Addr):(Op.equalIn (d+1) t (.pointer p) (.pointer none)).run P w=.ok p.isNone w:=by
 cases p<;>simp[Op.equalIn,run_underlying h]
theorem N8{P:Program}{tab:Nat->Ty}(ht:Ba P tab){ro:Ro}{n:Nat}{ops:Array Oper}{Q:DX->St->Prop}{rest:List Oper}{γ:Fr}{O:Sig}{df:List DDf}{t T T' ty:Nat}{x:Operand}{z:Value}{pos:String}{after:Array Edge}{guard:Option (Nat×Bool)}{b:Bool}(neg:Bool)
  (hw:AB ops γ ⟨some t,.binOp (if neg then .neq else .eql) T x (.const z) T',ty,pos,after,guard⟩=some true) (hb:nilB (tab T).k z (ev γ x)=some b) (aj:t<n)
  (h:DOps P ro n ops Q rest ⟨(t,.bool (b != neg))::γ,O,df⟩) :
  DOps P ro n ops Q (⟨some t,.binOp (if neg then .neq else .eql) T x (.const z) T',ty,pos,after,guard⟩::rest) ⟨γ,O,df⟩:=by
 refine Iy hw (fun c e=>by cases e) (Ad fun c e=>by cases e) (d:=.bool (b != neg)) ?_ (by simp[Aq,aj]) h
 intro g w a hs hT
 have hv:=Am hT x
 refine ORun.of (Aw (v:=.bool (b != neg)) hs ?_ rfl)
 have fin:∀(v:Value) (c:Bool),a.eval x=v->(Op.equal T v z).run P w=.ok c w->(∀op,(eqGuard op T x (.const z) v z).run P w=.ok () w)->
   (binOp .eql T v z=do pure (.bool (<-Op.equal T v z)))->(binOp .neq T v z=do pure (.bool (!(<-Op.equal T v z))))->
   (do eqGuard (if neg then .neq else .eql) T x (.const z) (a.eval x) (a.eval (.const z));binOp (if neg then .neq else .eql) T (a.eval x) (a.eval (.const z)):Sem Value).run P w=.ok (.bool (c != neg)) w:=by
  intro v c e1 e2 e3 e4 e5
  rw[e1,show a.eval (.const z)=z from rfl]
  cases neg
  ·simp only[Bool.false_eq_true,if_false]
   rw[Sem.run_bind,e3,Result.andThen_ok,e4,Sem.run_bind,e2,Result.andThen_ok,Sem.run_pure]
   cases c<;>rfl
  ·simp only[if_true]
   rw[Sem.run_bind,e3,Result.andThen_ok,e5,Sem.run_bind,e2,Result.andThen_ok,Sem.run_pure]
   cases c<;>rfl
 have iface:(tab T).k=.iface->∃i,P.underlying T=some (.interface i):=fun hk=>by
  obtain⟨desc,bP,bx⟩:=Fg ht hk (by simp)
  cases desc<;>simp[KOK]at bx
  exact⟨_,bP⟩
 have ptr:∀e,(tab T).k=.ptr e->P.underlying T=some (.pointer e):=fun e hk=>by
  obtain⟨desc,bP,bx⟩:=Fg ht hk (by simp)
  cases desc<;>simp[KOK]at bx
  rw[bP,bx]
 have gp:∀(p q:Option Addr) op,(eqGuard op T x (.const (.pointer q)) (.pointer p) (.pointer q)).run P w=.ok () w:=fun p q op=>by cases op<;>rfl
 unfold nilB at hb
 split at hb<;>(try (cases hb;done))<;>cases hb<;>rename_i hk he
 ·obtain⟨i,hd⟩:=iface hk
  rw[show ev (St.mk γ O df).γ x=.niliface from he]at hv
  exact fin .nilIface true hv (K0 (P:=P) (w:=w) 9999 T hd) (fun op=>by cases op<;>cases x<;>rfl) rfl rfl
 ·obtain⟨i,hd⟩:=iface hk
  rw[show ev (St.mk γ O df).γ x=.iface _ _ from he]at hv
  obtain⟨y,hv,_⟩:=hv
  exact fin _ false hv (JZ (P:=P) (w:=w) 9999 T hd _ _) (fun op=>by cases op<;>rfl) rfl rfl
 ·rw[show ev (St.mk γ O df).γ x=.nilp from he]at hv
  exact fin (.pointer none) true hv (EY (P:=P) (w:=w) 9999 T (ptr _ hk) none) (gp _ _) rfl rfl
 ·rw[show ev (St.mk γ O df).γ x=.cptr _ _ from he]at hv
  obtain⟨b,o,hv,_⟩:=hv
  exact fin _ false hv (EY (P:=P) (w:=w) 9999 T (ptr _ hk) (some _)) (gp _ _) rfl rfl
 ·rw[show ev (St.mk γ O df).γ x=.ptr _ _ from he]at hv
  obtain⟨b,_,hv⟩:=hv
  exact fin _ false hv (EY (P:=P) (w:=w) 9999 T (ptr _ hk) (some _)) (gp _ _) rfl rfl
 ·rw[show ev (St.mk γ O df).γ x=.obj _ from he]at hv
  obtain⟨b,_,hv⟩:=hv
  exact fin _ false hv (EY (P:=P) (w:=w) 9999 T (ptr _ hk) (some _)) (gp _ _) rfl rfl
def Pi(P:Program)(T:Nat)(name:String)(f:Nat):Prop:= ∀(v:Value) (w:Go.World),(method (P.types.size+Made.depth) T v name).run P w=.ok (f,v) w
theorem O3{P:Program}{ro:Ro}{n:Nat}{ops:Array Oper}{Q:DX->St->Prop}{rest:List Oper}{γ:Fr}{O:Sig}{df:List DDf}{rv:Operand}{name:String}{args:Array Operand}{ats:Array TypeId}{dst:Option Tmp}{ty:TypeId}{pos:String}{after:Array Edge}{guard:Option (Nat×Bool)}{f T:Nat}{d:D}{az:List D}{R:DE->Sig->Prop}
  (hw:AB ops γ ⟨dst,.call { callee:=.invoke rv name,args,argTypes:=ats },ty,pos,after,guard⟩=some true)
  (hx:ev γ rv=.iface T d) (hM:Pi P T name f) (h:DCall P f az O R) (cT:WkL (d::args.toList.map (ev γ)) az)
  (ho:Aq n ⟨dst,.call { callee:=.invoke rv name,args,argTypes:=ats },ty,pos,after,guard⟩=true)
  (bE:∀d U',R (.ret d) U'->DOps P ro n ops Q rest ⟨putD dst d γ,U',df⟩)
  (bF:∀d U',R (.panic d) U'->Q (.panic d) ⟨γ,U',df⟩) :
  DOps P ro n ops Q (⟨dst,.call { callee:=.invoke rv name,args,argTypes:=ats },ty,pos,after,guard⟩::rest) ⟨γ,O,df⟩:=by
 intro g w a r hr hs
 unfold wpListIn
 rw[AM hs.tmps hw,if_pos rfl]
 have hv:=Am hs.tmps rv
 rw[show ev (St.mk γ O df).γ rv=.iface T d from hx]at hv
 obtain⟨x,hv,cb⟩:=hv
 have au:(resolve a.eval { callee:=.invoke rv name,args,argTypes:=ats } ty).run P w=.ok { target:=.fn (.method name) #[],args:= #[.iface T x]++args.map a.eval } w:=by
  simp only[resolve,hv];rfl
 refine⟨fun f' aU=>?_,?_⟩
 ·simp only[Oper.about,au,Target.leads]at aU
  have h0:(#[Value.iface T x]++args.map a.eval)[0]? = some (.iface T x):=by rw[Array.getElem?_append_left (Nat.zero_lt_one)];rfl
  rw[h0]at aU
  simp only[hM x w]at aU
  cases aU
  exact Gh h.lt _
 ·rw[Oper.semAt_eq _ _ _ (fun c e=>by cases e)]
  have ac:(execOp a.eval ⟨dst,.call { callee:=.invoke rv name,args,argTypes:=ats },ty,pos,after,guard⟩).run P w=.ok (.enter f (#[x]++args.map a.eval)) w:=by
   simp only[execOp,Sem.run_bind,au,Result.andThen_ok,invoke]
   have h0:(#[Value.iface T x]++args.map a.eval)[0]? = some (.iface T x):=by rw[Array.getElem?_append_left (Nat.zero_lt_one)];rfl
   have h1:(#[Value.iface T x]++args.map a.eval).extract 1 (#[Value.iface T x]++args.map a.eval).size=args.map a.eval:=by
    apply Array.ext';simp;exact List.take_of_length_le (by simp)
   simp only[h0,h1,callMethod,program,Sem.run_bind]
   show(((method (P.types.size+Made.depth) T x name).run P w).andThen fun q w'=>(callFunc q.1 (#[q.2]++args.map a.eval)).run P w')=_
   rw[hM x w,Result.andThen_ok]
   exact h.ent _ w
  rw[ac]
  refine⟨fun h=>(by cases h),?_⟩
  have bp:RepL g (d::args.toList.map (ev γ)) (x::args.toList.map a.eval):=⟨x,_,rfl,cb,Ds hs.tmps _⟩
  have hc:=KW r (h.run g w _ hs.sim (cT.rep bp))
  have cR:CallsIn (FX P r) 0 P f (#[x]++args.map a.eval) w (LW P g R):=by
   have e:(x::args.toList.map a.eval).toArray=#[x]++args.map a.eval:=by apply Array.ext';simp
   rw[<-e];exact hc
  refine cR.mono ?_
  rintro e w' ⟨g',y,U',h1,h2,h3,h4⟩
  cases y with
  |ret d=>
   obtain⟨v,rfl,h5⟩:=h3
   exact AD h1 _ (bE d U' h4 g' w' _ r (hr.mono h1) (hs.put (o:=⟨dst,.call { callee:=.invoke rv name,args,argTypes:=ats },ty,pos,after,guard⟩) h1 h2 h5 ho))
  |panic d=>
   obtain⟨v,rfl,h5⟩:=h3
   exact⟨g',⟨γ,U',df⟩,.panic d,h1,⟨h2,hs.tmps.mono h1,hs.df.mono h1⟩,⟨v,rfl,h5⟩,bF d U' h4⟩
section
variable {P:Program}{ro:Ro}{n:Nat}{Q:DX->St->Prop}{s:St}
theorem CU{b:Frame}{a:Act}{k:List Item}{cs:List Frame}{w:Go.World}{c:Code}:step P (lone (b.atR a (.code (.scope c)::k)) cs w)=.next (lone (b.atR a (.code c :: .inScope c::k)) cs w):=
 step_lone_go (by simp[stepG,stepG.exec,Frame.atR])
theorem Lg{b:Frame}{a:Act}{k:List Item}{cs:List Frame}{w:Go.World}{c:Code}:step P (lone (b.atR a (.inScope c::k)) cs w)=.next (lone (b.atR a k) cs w):=
 step_lone_go (by simp[stepG,stepG.exec,Frame.atR])
theorem N5{c:Code}(h:DWp P ro n c Q s):DWp P ro n (.scope c) Q s:=by
 intro g w a r hr hs
 intro b k cs cm hb bC
 have h0:(lone (b.atR a (.code (.scope c)::k)) cs w).fenced P (FX P r):=fenced_calm hb bC rfl
 obtain⟨e,a₁,w₁,⟨g',s',x,l1,l2,l3,l4⟩,ax⟩:=h g w a r hr hs b (.inScope c::k) cs cm hb bC
 have hp:Post P g n Q e a₁ w₁:=⟨g',s',x,l1,l2,l3,l4⟩
 cases e with
 |normal=>exact⟨.normal,a₁,w₁,hp,.head h0 CU (StepsIn.trans ax (.one (fenced_calm hb bC rfl) Lg))⟩
 | exit id =>
  have hx:exitTo id (.inScope c::k)=exitTo id k:=by simp[exitTo]
  exact⟨.exit id,a₁,w₁,hp,fun k' hk=>.head h0 CU (ax.1 k' (by rw[hx];exact hk)),
   fun cp hk=>let ⟨k₁,h1,h2⟩:=ax.2 cp (by rw[hx];exact hk);⟨k₁,h1,.head h0 CU h2⟩⟩
 |goto l=>cases x<;>first|(cases l3;done)|(obtain⟨v,l3,_⟩:=l3;cases l3)
 |ret=>exact⟨_,a₁,w₁,hp,.of_steps (.one h0 CU) ax⟩
 |panic ch=>exact⟨_,a₁,w₁,hp,.of_steps (.one h0 CU) ax⟩
 |outgrown=>exact⟨_,a₁,w₁,hp,.of_steps (.one h0 CU) ax⟩
end
section
variable {P:Program}{ro:Ro}{n:Nat}{ops:Array Oper}{N:Nat}{S0:Sig}{Q:DX->St->Prop}{df:List DDf}{E:List Nat}
theorem QY(hN:P.funcs.size=N){ord:List Nat}{k:Nat}{ol:Oper}(aw:ops.size=k+1)(aX:ops[k]? = some ol)(aP:mixB ops E [] ord=true)(bq:∀i,i<k->i∈ord)(am:∀i∈ord,i<k)
  (cf:∀i,i<k->Gy ops ops.size k i=true) (bT:∀e∈ol.after,Region.binds .any e=true->e.on<k) {g0:G}{rr:Rx} (hr:RoRep g0 ro rr) :
  ∀(m:Nat) (r:List Nat) (listed:Array Bool) (γ:Fr) (O:Sig),r.length=m->listed.size=ops.size->r=ord.filter (fun i=> !listed.getD i true)->listed.getD k true=false->Closed ops listed->
   MOps P ro n ops N S0 (Then (fun s=>DOps P ro n ops Q [ol] s) Q) df E r γ O->Sub S0 O->
   ∀(g:G) (w:World) (a:Act),g0.le g->SimS P g n ⟨γ,O,df⟩ a w->wpAnyIn (FX P rr) 0 P .any ops (Post P g0 n Q) (m+1) listed a w:=by
 have aY:∀(r:List Nat) (listed:Array Bool),Closed ops listed->r=ord.filter (fun i=> !listed.getD i true)->∀i∈Region.ready .any ops listed,i∈r\/(i=k/\r=[]):=by
  intro r listed aD hf i hi
  obtain⟨h1,o,ho,hd⟩:=mem_ready.1 hi
  have cH:i<k+1:=by rw[<-aw];exact(Array.getElem?_eq_some_iff.1 ho).1
  by_cases hk:i=k
  ·subst hk
   right
   refine⟨rfl,?_⟩
   rw[hf,List.filter_eq_nil_iff]
   intro x hx
   have:=CV aD ops.size i x o ho hd (cf x (am x hx))
   rcases Nat.lt_or_ge x listed.size with h|h
   ·simp[h]at this⊢; exact this
   ·simp[Array.getElem?_eq_none h]at this
  ·left
   rw[hf,List.mem_filter]
   exact⟨bq i (by omega),by rw[h1];rfl⟩
 intro m
 induction m with
 | zero =>
  intro r listed γ O hl hsz hf bJ aD h hC g w a hg hs
  obtain rfl:r=[]:=List.length_eq_zero_iff.1 hl
  have aq:∀x,x<k->listed.getD x true=true:=by
   intro x hx
   have:=(List.filter_eq_nil_iff.1 hf.symm) x (bq x hx)
   simpa using this
  refine⟨fun he=>?_,fun i hi=>?_⟩
  ·exfalso
   have:k∈Region.ready .any ops listed:=by
    refine mem_ready.2 ⟨bJ,ol,aX,fun e hm hb=>?_⟩
    have h5:=aq _ (bT e hm hb)
    have aQ:e.on<listed.size:=by rw[hsz,aw];have:=bT e hm hb;omega
    simpa[aQ] using h5
   rw[he]at this;cases this
  ·obtain rfl:i=k:=by
    rcases aY [] listed aD hf i hi with h|h
    ·cases h
    ·exact h.1
   have h1:DOps P ro n ops Q [ol] ⟨γ,O,df⟩:=fun g w a r hr hs=>by
    have h':=h g w a r hr hs
    obtain⟨g',s',x,k1,k2,k3,k4⟩:=h'
    cases x with
    |normal=>exact AD k1 _ (k4 g' w a r (hr.mono k1) k2)
    |ret=>cases k3
    |exit _=>cases k3
    |panic _=>obtain⟨v,k3,_⟩:=k3;cases k3
   have h2:=AD hg _ (h1 g w a rr (hr.mono hg) hs)
   unfold wpOpIn
   rw[aX]
   have hz:∀j,j<ops.size->(listed.setIfInBounds i true).getD j true=true:=by
    intro j hj
    by_cases b7:j=i
    ·subst b7
     have:j<listed.size:=by rw[hsz];exact hj
     simp[this]
    ·rw[getD_set_ne true (fun e=>b7 e.symm)];exact aq j (by omega)
   have bY:Region.ready .any ops (listed.setIfInBounds i true)=[]:=List.eq_nil_iff_forall_not_mem.2 fun j hj=>by
    obtain⟨h1,o,ho,_⟩:=mem_ready.1 hj
    rw[hz j (Array.getElem?_eq_some_iff.1 ho).1]at h1;cases h1
   simp only[wpListIn]at h2
   simp only
   split
   ·rename_i hw
    rw[if_pos hw]at h2
    exact Oper.wpIn_mono (fun a w h=>⟨bY,h⟩) h2
   ·rename_i hw
    rw[if_neg hw]at h2
    exact⟨h2.1,bY,h2.2⟩
 | succ m ih =>
  intro r listed γ O hl hsz hf bJ aD h hC g w a hg hs
  obtain⟨y,t,rfl⟩:∃y t,r=y::t:=by cases r with|nil=>cases hl|cons y t=>exact⟨y,t,rfl⟩
  refine⟨fun he=>?_,fun i hi=>?_⟩
  ·exfalso
   obtain⟨l1,l2,aO,cC,hy,cX⟩:=List.filter_eq_cons_iff.1 hf.symm
   subst aO
   obtain⟨h1,_,_,o,ho,b9,_⟩:=Fs l1 [] aP
   have:y∈Region.ready .any ops listed:=by
    refine mem_ready.2 ⟨by simpa using hy,o,ho,fun e hm hb=>?_⟩
    rcases b9 e hm hb with h4|h4
    ·have h5:=cC _ h4
     simp only[Bool.not_eq_true,Bool.not_eq_false']at h5
     have aQ:e.on<listed.size:=by
      have:=am e.on (by simp[h4])
      rw[hsz,aw];omega
     simpa[aQ] using h5
    ·cases h4
   rw[he]at this;cases this
  ·have cF:i∈y::t:=by
    rcases aY _ listed aD hf i hi with h|h
    ·exact h
    ·exact absurd h.2 (by simp)
   obtain⟨pre,post,aL⟩:=List.append_of_mem cF
   rw[aL]at hf h hl
   obtain⟨l1',l2',aO,bO,cP⟩:=List.filter_eq_append_iff.1 hf.symm
   obtain⟨m1,m2,bK,cz,cY,cO⟩:=List.filter_eq_cons_iff.1 cP
   have aB:ord=(l1'++m1)++i::m2:=by rw[aO,bK];simp
   have cH:i<k:=am i (by rw[aB];simp)
   rw[aB]at aP
   obtain⟨n1,_,n3,o,ho,b9,hx⟩:=Fs (l1'++m1) [] aP
   obtain⟨cE,o',bX,aq⟩:=mem_ready.1 hi
   obtain rfl:o'=o:=by rw[ho]at bX;cases bX;rfl
   have aR:=HQ ho post pre γ O (fun x bS=>by
    have cd:x∈l1'++m1:=by
     have:x∈l1'.filter (fun i=> !listed.getD i true):=by rw[bO];exact bS
     simp[(List.mem_filter.1 this).1]
    have bR:listed.getD x true=false:=by
     have:x∈l1'.filter (fun i=> !listed.getD i true):=by rw[bO];exact bS
     simpa using(List.mem_filter.1 this).2
    rcases hx x cd with h4|h4
    ·exfalso
     have:=CV aD ops.size i x o' ho aq h4
     rcases Nat.lt_or_ge x listed.size with am|am
     ·simp[am]at this bR;rw[bR]at this;cases this
     ·simp[Array.getElem?_eq_none am]at this
    ·exact h4) h
   have aJ:pre++post=ord.filter (fun j=> !(listed.setIfInBounds i true).getD j true):=by
    have cG:i<listed.size:=by
     rw[hsz];exact(Array.getElem?_eq_some_iff.1 ho).1
    rw[aB,List.filter_append,List.filter_cons]
    have e1:(listed.setIfInBounds i true).getD i true=true:=by simp[cG]
    rw[e1,AH n1,AH n3]
    simp only[Bool.not_true,Bool.false_eq_true,if_false,List.filter_append,bO,cO]
    rw[List.filter_eq_nil_iff.2 (fun x hx=>by simpa using cz x hx),List.append_nil]
   have hlen:(pre++post).length=m:=by simp at hl⊢; omega
   have aZ:(listed.setIfInBounds i true).getD k true=false:=by rw[getD_set_ne true (show i≠k by omega)];exact bJ
   obtain⟨o2,bW,hh⟩:=aR
   obtain rfl:o2=o':=by rw[ho]at bW;cases bW;rfl
   unfold wpOpIn
   simp only[ho]
   rcases hh with⟨d,hy,hM⟩|⟨_,hE⟩
   ·exact FO (Q:=Q) hN (hr.mono hg) hg hs hC hy fun g' w' a' bN ay=>ih _ _ _ _ hlen (by simpa using hsz) aJ aZ (aD.set hi) hM hC g' w' a' (hg.trans bN) ay
   ·exact D5 (Q:=Q) (hr.mono hg) hg hs hE (fun g' w' a' d U' bN hR ay=>ih _ _ _ _ hlen (by simpa using hsz) aJ aZ (aD.set hi) hR.2 hR.1 g' w' a' (hg.trans bN) ay) fun d U' hp=>hp
def J9(ops:Array Oper)(E ord:List Nat):Bool:=mixB ops E [] ord&&(List.range (ops.size-1)).all ord.contains&&(ord.length==ops.size-1)&&ord.all (fun i=>decide (i<ops.size-1))&&(match ops[ops.size-1]? with
 |some o=>(List.range (ops.size-1)).all (fun i=>Gy ops ops.size (ops.size-1) i)&&o.after.all (fun e=> !Region.binds .any e||decide (e.on<ops.size-1))
 |none=>false)
theorem P5(hN:P.funcs.size=N)(hm:P.follows .mixedOrders=true){l:List Oper}{id:Nat}{γ:Fr}{O:Sig}(ord E:List Nat)(S0:Sig){ol:Oper}(hB:J9 l.toArray E ord=true)(hl:nthO l (l.length-1)=some ol)(hC:Sub S0 O)
  {lp:List (Bool×Oper)} (cB:J0 l E ord=some lp) (h:MO P ro n l.toArray N S0 (Then (fun s=>DOps P ro n l.toArray Q [ol] s) Q) df lp γ O):DWp P ro n (.region id l.toArray true) Q ⟨γ,O,df⟩:=by
 intro g w a r hr hs
 refine wpIn_region_any hm ?_
 rw[HO]at hl
 have hne:l.length≠0:=fun e=>by have:l=[]:=List.length_eq_zero_iff.1 e;subst this;cases hl
 unfold J9 at hB
 simp only[Bool.and_eq_true,beq_iff_eq]at hB
 obtain⟨⟨⟨⟨b1,b2⟩,b3⟩,b4⟩,b5⟩:=hB
 have aw:l.toArray.size=(l.toArray.size-1)+1:=by simp;omega
 have aX:l.toArray[l.toArray.size-1]? = some ol:=by simpa using hl
 rw[aX]at b5
 simp only[Bool.and_eq_true]at b5
 have am:∀i∈ord,i<l.toArray.size-1:=fun i hi=>by simpa using List.all_eq_true.1 b4 i hi
 have ay:SimS P g n ⟨γ,O,df⟩ a { w with drawn:=w.drawn+1 }:=
  ⟨⟨fun b o v h=>hs.sim.imm b o v h,hs.sim.keep,fun i o h=>by
   have:=hs.sim.obj i o h
   cases o<;>exact this,hs.sim.inj,hs.sim.free,hs.sim.htop,hs.sim.hdom,hs.sim.fin,hs.sim.io,hs.sim.tab⟩,hs.tmps,hs.df⟩
 have aD:Closed l.toArray (Array.replicate l.toArray.size false):=by
  intro q o _ hq
  rcases Nat.lt_or_ge q l.length with h'|h'
  ·simp[h']at hq
  ·simp[h']at hq
 have cw:=G1 (P:=P) (ro:=ro) (n:=n) (N:=N) (S0:=S0) (Q:=Then (fun s=>DOps P ro n l.toArray Q [ol] s) Q) (df:=df) (ops:=l.toArray) (E:=E) (ord:=ord) (fun i hi=>by have:=am i hi;omega) (by rw[NK cB];exact h)
 have:=QY (P:=P) hN (ops:=l.toArray) (k:=l.toArray.size-1) aw aX b1 (fun i hi=>by simpa using List.all_eq_true.1 b2 i (by simpa using hi)) am
  (fun i hi=>List.all_eq_true.1 b5.1 i (List.mem_range.2 hi))
  (fun e he hb=>by
   have:=Array.all_eq_true_iff_forall_mem.1 b5.2 e he
   simpa[hb] using this)
  hr ord.length ord (Array.replicate l.toArray.size false) γ O rfl (by simp) (DV (fun i hi=>by have:=am i hi;omega)).symm (by
   have:l.toArray.size-1<l.toArray.size:=by omega
   rw[Array.getD_eq_getD_getElem?]
   simp only[Array.getElem?_replicate,this,if_true];rfl) aD cw hC g _ a (.refl g) ay
 rw[b3,<-aw]at this
 exact this
end
theorem Is{g:G}{d d':D}(h:∀v,Rep g d v->Rep g d' v): ∀{az bs:List D}{vs:List Value},RepL g (az++d::bs) vs->RepL g (az++d'::bs) vs
 |[],_,_,⟨v,r,e,h1,h2⟩=>⟨v,r,e,h v h1,h2⟩
 |_::_,_,_,⟨v,r,e,h1,h2⟩=>⟨v,r,e,h1,Is h h2⟩
section
variable {P:Program}{n:Nat}{γ:List (Nat×D)}{O:Sig}{df:List DDf}
theorem Fe{i:Nat}{az bs:List D}{d d':D}(hi:O i=some (.cells (az++d::bs)))(h:WkD d d'):Wk P n ⟨γ,O,df⟩ ⟨γ,O.set i (.cells (az++d'::bs)),df⟩:=
 fun g _ _ hs=>⟨g,.refl g,⟨hs.sim.retell hi fun _=>Is (h g),hs.tmps,hs.df⟩⟩
theorem Nu{i sz:Nat}{st:MR}{es:List (List D)}{az bs:List D}(hm:mOK O sz st es)(hi:O i=some (.cells (az++mD st es.length::bs))):Wk P n ⟨γ,mS O st es,df⟩ ⟨γ,O.set i (.cells (az ++ .slice es .no::bs)),df⟩:=by
 cases st with
 |none=>
  obtain rfl:es=[]:=hm
  exact Fe hi (Ak _ (.inl rfl))
 |some x=>
  obtain⟨j,cap,rest⟩:=x
  obtain⟨m1,m2,m3,m4⟩:=hm
  have aF:i≠j:=fun h=>by rw[h,m1]at hi;cases hi
  intro g w a hs
  obtain⟨b,_,_,hb,_,_⟩:=hs.sim.obj j _ (w6 O j _)
  obtain⟨g',ah,ay,bD⟩:=hs.sim.freeze (i:=j) (w6 O j _) hb
  have hZ:(mS O (some (j,cap,rest)) es).del j=O:=Sig.set_del _ _ m1
  simp only at ay
  rw[hZ]at ay
  refine⟨g',ah,⟨ay.retell hi fun vs=>Is fun v hv=>?_,hs.tmps.mono ah,hs.df.mono ah⟩⟩
  obtain⟨b',ae,hv⟩:=hv
  obtain rfl:b'=b:=by have:=ah.rho _ _ hb;rw[this]at ae;cases ae;rfl
  exact⟨_,cap,hv,m3,.inr ⟨sz,b',0,rfl,Em m4 bD⟩,trivial⟩
theorem WkL.repI{g:G}{b:Nat}: ∀{az bs:List D}{o:Nat},WkL az bs->RepI g b o az->RepI g b o bs
 |[],[],_,_,h=>h
 |_::_,_::_,_,⟨h1,h2⟩,⟨⟨v,h3,h4⟩,h5⟩=>⟨⟨v,h3,h1 g v h4⟩,WkL.repI h2 h5⟩
 |[],_::_,_,h,_=>h.elim
 |_::_,[],_,h,_=>h.elim
def WkE:List (List D)->List (List D)->Prop
 |[],[]=>True
 |a::az,b::bs=>WkL a b/\WkE az bs
 |_,_=>False
theorem WkE.len: ∀{az bs:List (List D)},WkE az bs->az.length=bs.length
 |[],[],_=>rfl
 |a::az,b::bs,h=>by simp[WkE.len h.2]
 |[],_::_,h=>h.elim
 |_::_,[],h=>h.elim
theorem WkE.rep{g:G}{b sz:Nat}: ∀{az bs:List (List D)}{o:Nat},WkE az bs->RepE g b sz o az->RepE g b sz o bs
 |[],[],_,_,h=>h
 |_::_,_::_,_,⟨h1,h2⟩,⟨⟨h3,h4⟩,h5⟩=>⟨⟨by rw[<-h1.len];exact h3,h1.repI h4⟩,WkE.rep h2 h5⟩
 |[],_::_,_,h,_=>h.elim
 |_::_,[],_,h,_=>h.elim
theorem K8{es es':List (List D)}(o:Own)(h:WkE es es'):WkD (.slice es o) (.slice es' .no):=by
 rintro g v ⟨a,cap,h1,h2,h3,_⟩
 refine⟨a,cap,by rw[<-h.len];exact h1,by rw[<-h.len];exact h2,?_,trivial⟩
 rcases h3 with rfl|⟨sz,b,o,ha,hr⟩
 ·exact .inl (List.length_eq_zero_iff.mp h.len.symm)
 ·exact .inr ⟨sz,b,o,ha,h.rep hr⟩
theorem DH{es es':List (List D)}(o:Own)(h:WkE es es'):WkD (.slice es o) (.slice es' o):=by
 rintro g v ⟨a,cap,h1,h2,h3,h4⟩
 refine⟨a,cap,by rw[<-h.len];exact h1,by rw[<-h.len];exact h2,?_,by cases o<;>(try exact h4)<;>rw[<-h.len]<;>exact h4⟩
 rcases h3 with rfl|⟨sz,b,o,ha,hr⟩
 ·exact .inl (List.length_eq_zero_iff.mp h.len.symm)
 ·exact .inr ⟨sz,b,o,ha,h.rep hr⟩
theorem LZ: ∀ds:List D,WkL ds ds
 |[]=>trivial
 |d::ds=>⟨Ab d,LZ ds⟩
theorem Od: ∀es:List (List D),WkE es es
 |[]=>trivial
 |e::es=>⟨LZ e,Od es⟩
theorem WkE.app: ∀{az bs cs ds:List (List D)},WkE az bs->WkE cs ds->WkE (az++cs) (bs++ds)
 |[],[],_,_,_,h=>h
 |_::_,_::_,_,_,⟨h1,h2⟩,h=>⟨h1,WkE.app h2 h⟩
 |[],_::_,_,_,h,_=>h.elim
 |_::_,[],_,_,h,_=>h.elim
end
theorem W4{O:Sig}{sz:Nat}{st:MR}{es:List (List D)}{j:Nat}{o:DObj}(hm:mOK O sz st es)(hj:mS O st es j=none):(mS O st es).set j o=mS (O.set j o) st es/\mOK (O.set j o) sz st es:=by
 cases st with
 |none=>exact⟨rfl,hm⟩
 | some x =>
  obtain⟨i,cap,rest⟩:=x
  have aF:j≠i:=fun h=>by
   subst h
   simp only[mS,w6]at hj
   cases hj
  obtain⟨m1,m2,m3,m4⟩:=hm
  refine⟨?_,by rw[w7 _ _ (Ne.symm aF)];exact m1,m2,m3,m4⟩
  funext k
  simp only[mS,Sig.set]
  by_cases h1:k=j
  ·subst h1;rw[if_pos rfl,if_neg aF,if_pos rfl]
  ·by_cases h2:k=i
   ·subst h2;rw[if_neg h1,if_pos rfl,if_pos rfl]
   ·rw[if_neg h1,if_neg h2,if_neg h2,if_neg h1]
theorem Rm{O:Sig}{sz:Nat}{st:MR}{es:List (List D)}{j:Nat}{o:DObj}(hm:mOK O sz st es)(hj:O j=some o):mS O st es j=some o:=by
 cases st with
 |none=>exact hj
 |some x=>
  obtain⟨i,cap,rest⟩:=x
  have aF:j≠i:=fun h=>by rw[h,hm.1]at hj;cases hj
  simp only[mS];rw[w7 _ _ aF];exact hj
theorem Rl{O:Sig}{st:MR}{es:List (List D)}{j:Nat}(hj:mS O st es j=none):O j=none:=by
 cases st with
 |none=>exact hj
 |some x=>
  obtain⟨i,cap,rest⟩:=x
  simp only[mS,Sig.set]at hj
  by_cases h:j=i
  ·rw[if_pos h]at hj;cases hj
  ·rw[if_neg h]at hj;exact hj
theorem mS_put{O:Sig}{sz:Nat}{st:MR}{es:List (List D)}{j:Nat}{o x:DObj}(hm:mOK O sz st es)(hj:O j=some x):(mS O st es).set j o=mS (O.set j o) st es/\mOK (O.set j o) sz st es:=by
 cases st with
 |none=>exact⟨rfl,hm⟩
 | some y =>
  obtain⟨i,cap,rest⟩:=y
  obtain⟨m1,m2,m3,m4⟩:=hm
  have aF:j≠i:=fun h=>by rw[h,m1]at hj;cases hj
  refine⟨?_,by rw[w7 _ _ (Ne.symm aF)];exact m1,m2,m3,m4⟩
  funext k
  simp only[mS,Sig.set]
  by_cases h1:k=j
  ·subst h1;rw[if_pos rfl,if_neg aF,if_pos rfl]
  ·by_cases h2:k=i
   ·subst h2;rw[if_neg h1,if_pos rfl,if_pos rfl]
   ·rw[if_neg h1,if_neg h2,if_neg h2,if_neg h1]
section
variable {P:Program}{tab:Nat->Ty}{ro:Ro}{n:Nat}{ops:Array Oper}{Q:DX->St->Prop}{γ:List (Nat×D)}{O:Sig}{df:List DDf}{rest:List Oper}{t:Nat}{ty:TypeId}{pos:String}{after:Array Edge}
theorem O4(ht:Ba P tab){T len e:Nat}(aj:t<n)(hk:(tab T).k=.array len e)(he:A0 (tab e).k=false)
  (h:DOps P ro n ops Q rest ⟨(t,.agg (tab T).zero)::γ,O,df⟩):DOps P ro n ops Q (⟨some t,.build T #[],ty,pos,after,none⟩::rest) ⟨γ,O,df⟩:=by
 refine C5 (fun d U'=>d=.agg (tab T).zero/\U'=O) rfl (fun c e=>by cases e) (Ad fun c e=>by cases e) (by simp[Aq,aj]) ?_ (fun d U' ⟨a,b⟩=>by subst a b;exact h)
 intro g w a hs _
 obtain⟨inf,desc,z,h1,h2,h3,h4,h5,h6,h7,h8,h9,dc⟩:=Ca (ht T) (by rw[hk];simp)
 obtain⟨inf',_,_,g1,_⟩:=Ca (ht e) (Ag he)
 have hz:RepL g (tab T).zero z.cells.toList:=by
  rw[h9]
  exact AE (by simp) fun j x v e1 e2=>by
   rw[List.getElem?_map,e2]at e1
   cases e1;exact DN g v
 have hb:P.built T []=some z.cells:=by
  unfold Program.built
  rw[h1,GN ht hk]
  simp only[h7,g1]
  rfl
 refine⟨g,w,.agg z.cells,.agg (tab T).zero,O,?_,.refl g,hs,⟨z.cells.toList,by simp,hz⟩,rfl,rfl⟩
 have:=run_build (P:=P) w T #[] z.cells hb
 simp only[execOp,Array.map_empty,Sem.run_bind,this,Result.andThen_ok]
 rfl
end
section
variable {P:Program}{ro:Ro}{n:Nat}{ops:Array Oper}{Q:DX->St->Prop}{rest:List Oper}{tab:Nat->Ty}{γ:List (Nat×D)}{O:Sig}{df:List DDf}
def SrcOK(P:Program)(O:Sig)(d:D)(m:Nat)(cs:List D):Prop:=
 ∀g w v,Sim P g O w->Rep g d v->∃a cap us,v=.slice a m cap/\RepL g cs us/\us.length=m/\(m=0 \/ ∃b o,a=some ⟨b,o,none⟩ /\ ∀j v,us[j]? = some v->w.cell? ⟨b,o+j,none⟩=some v)
theorem Uz{i off m cap:Nat}{ds:List D}(hi:O i=some (.cells ds))(h:off+m<=ds.length):SrcOK P O (.sref i off m cap) m ((ds.drop off).take m):=by
 intro g w v hs hr
 obtain⟨b,hb,rfl⟩:=hr
 obtain⟨b',vs,ty,ae,aa,hr⟩:=hs.obj i _ hi
 obtain rfl:b'=b:=by rw[hb]at ae;cases ae;rfl
 have hlen:=RepL.length hr
 simp only[Array.length_toList]at hlen
 refine⟨_,_,(vs.toList.drop off).take m,rfl,AE (by simp;omega) fun j d v h1 h2=>?_,by simp;omega,.inr ⟨b',off,rfl,fun j v hj=>?_⟩⟩
 ·have hj:j<m:=by have:=(List.getElem?_eq_some_iff.1 h1).1;simp at this;omega
  rw[List.getElem?_take_of_lt hj,List.getElem?_drop]at h1 h2
  have:=RepL.get hr (off+j)
  rw[h1,h2]at this
  exact this
 ·have bL:j<m:=by have:=(List.getElem?_eq_some_iff.1 hj).1;simp at this;omega
  rw[List.getElem?_take_of_lt bL,List.getElem?_drop,Array.getElem?_toList]at hj
  simp[World.cell?, aa,hj]
theorem QD{d:D}{es:List (List D)}(h:esOf d=some es)(hl:∀c∈es,c.length=1):SrcOK P O d es.length es.flatten:=by
 intro g w v hs hr
 obtain⟨xa,xc,q1,q2,q3⟩:=Ck h hr
 obtain⟨news,v1,v2,v3⟩:=Cb hs hl q3
 exact⟨xa,xc,news,q1,v1,by omega,v3⟩
variable (ht:Ba P tab)
include ht
theorem KR{t T T' ty e i off len cap m:Nat}{s x:Operand}{pos:String}{after:Array Edge}{ds cs:List D}
  (aj:t<n) (hk:(tab T).k=.slice e) (he:A0 (tab e).k=false) (hsz:(tab e).size=1) (h1:ev γ s=.sref i off len cap) (hi:O i=some (.cells ds)) (hlen:off+len<=ds.length)
  (h2:SrcOK P O (ev γ x) m cs) (bz:BN cs=true)
  (h:DOps P ro n ops Q rest ⟨(t,.int .i64 ((min m len:Nat):Int))::γ,O.set i (.cells (ds.take off++(cs.take (min m len)++ds.drop (off+min m len)))),df⟩) :
  DOps P ro n ops Q (⟨some t,.call { callee:=.builtin .copy,args:= #[s,x],argTypes:= #[T,T'] },ty,pos,after,none⟩::rest) ⟨γ,O,df⟩:=by
 refine C5 (fun d U'=>d=.int .i64 ((min m len:Nat):Int)/\U'=O.set i (.cells (ds.take off++(cs.take (min m len)++ds.drop (off+min m len))))) rfl (fun c e=>by cases e) (B7 rfl rfl) (by simp[Aq,aj]) ?_
  (fun d U' ⟨a2,a3⟩=>by subst a2 a3;exact h)
 intro g w a hs hT
 have aA:=Am hT s
 have aS:=Am hT x
 rw[h1]at aA
 obtain⟨b,hb,aA⟩:=aA
 obtain⟨xa,xc,us,hx,hr,cW,bk⟩:=h2 g w _ hs aS
 obtain⟨b2,vs,ty',bn,aa,bV⟩:=hs.obj i _ hi
 obtain rfl:b2=b:=by rw[hb]at bn;cases bn;rfl
 have bt:=RepL.length bV
 simp only[Array.length_toList]at bt
 have aD:=RepL.length hr
 obtain⟨inf,z,t1,t2,t3,t4,t5,t6,t7⟩:=Bk ht hk hk he
 have hu:P.underlying T=some (.slice e):=t1
 have hq:(P.info? e).map (·.size)=some 1:=by rw[t3];simp[t5,hsz]
 have cZ:goInt ((min m len:Nat):Int)=.int .i64 ((min m len:Nat):Int):=rfl
 have ac : ∃ w',(Builtin.copy_ #[T,T'] ty #[a.eval s,a.eval x]).run P w = .ok (goInt ((min m len:Nat):Int)) w'/\Sim P g (O.set i (.cells (ds.take off++(cs.take (min m len)++ds.drop (off+min m len))))) w':=by
  rw[aA,hx]
  by_cases h0:min m len=0
  ·refine⟨w,?_,?_⟩
   ·rw[h0];exact run_copy_none w T T' ty e _ _ len cap m xc hu hq (by show min m len=0;exact h0)
   ·rw[h0];simp only[List.take_zero,List.nil_append,Nat.add_zero,List.take_append_drop]
    rw[show O.set i (.cells ds)=O from funext fun j=>by by_cases hj:j=i<;>simp[Sig.set,hj,hi]];exact hs
  ·obtain⟨b3,o3,rfl,cQ⟩:=bk.resolve_left (by omega)
   have aK:(us.take (min m len)).length=min m len:=by simp;omega
   have hne:us.take (min m len)≠[]:=fun e=>by rw[e]at aK;simp at aK;omega
   have hl:=run_loadCells_list (P:=P) w ⟨b3,o3,none⟩ (us.take (min m len)) (fun j v hj=>by
    rw[BB]
    have bL:j<min m len:=by have:=(List.getElem?_eq_some_iff.1 hj).1;simp at this;omega
    rw[List.getElem?_take_of_lt bL]at hj
    exact cQ j v hj)
   have bh:=D1 hr bz
   have aI:=BC (P:=P) (us.take (min m len)) 0 w vs aa (fun v hv=>bh v (List.mem_of_mem_take hv)) (o:=off) (by rw[aK];omega)
   rw[if_neg hne]at aI
   refine⟨_,?_,hs.setObj (ty:=ty') (vs':=Bh vs (off+0) (us.take (min m len))) hi hb ?_ ⟨vs,aa⟩⟩
   ·have cJ:inf.size=1:=by omega
    have bI:Nat.min m len=min m len:=rfl
    simp only[Builtin.copy_]
    simp[run_underlying hu,Builtin.lenOf,Builtin.firstCells,sizeOf,typeInfo,t3,cJ,bI,hl,aI,aK]
    rw[aK]at hl
    simp[hl,aI]
   ·refine AE (by simp only[List.length_append,List.length_take,List.length_drop,Array.length_toList,Cz];omega) fun j d v h1 h2=>?_
    have ai:(Bh vs (off+0) (us.take (min m len)))[j]? = some v:=by simpa using h2
    rw[CT _ _ _ _ (by rw[aK];omega),aK]at ai
    have hg:=RepL.get bV j
    rw[List.getElem?_append]at h1
    simp only[List.length_take]at h1
    by_cases c1:j<off
    ·rw[if_neg (by omega)]at ai
     rw[if_pos (by omega),List.getElem?_take_of_lt c1]at h1
     rw[h1]at hg
     simp only[Array.getElem?_toList,ai,Option.getD_some]at hg
     exact hg
    ·rw[if_neg (by omega),List.getElem?_append]at h1
     simp only[List.length_take]at h1
     have eo:min off ds.length=off:=by omega
     rw[eo]at h1
     by_cases c2:j-off<min m len
     ·rw[if_pos (by omega),List.getElem?_take_of_lt (by omega)]at ai
      rw[if_pos (by omega),List.getElem?_take_of_lt (by omega)]at h1
      have:=RepL.get hr (j-off)
      rw[h1,show j-off=j-(off+0) by omega,ai]at this
      exact this
     ·rw[if_neg (by omega)]at ai
      rw[if_neg (by omega),List.getElem?_drop,show off+min m len+(j-off-min (min m len) cs.length)=j by omega]at h1
      rw[h1]at hg
      simp only[Array.getElem?_toList,ai,Option.getD_some]at hg
      exact hg
 obtain⟨w',ac,aM⟩:=ac
 refine⟨g,w',goInt ((min m len:Nat):Int),.int .i64 ((min m len:Nat):Int),_,?_,.refl g,aM,rfl,rfl,rfl⟩
 simp[execOp,resolve,invoke,builtin,ac]
omit ht in
theorem Lm{g:G}{i b off len cap:Nat}(h:g.rho i=some b):Rep g (.sref i off len cap) (.slice (some ⟨b,off,none⟩) len cap):=⟨b,h,rfl⟩
theorem On{g:G}{w:World}{T e i off len cap:Nat}{k:IntKind}{v u:Value}{lo:Nat}(hk:(tab T).k=.slice e)(he:A0 (tab e).k=false)(hv:Rep g (.sref i off len cap) v)(hu:Rep g (.int k lo) u)(bZ:lo<=len)(b6:lo<cap):
  ∃r,(Instr.sliceAt T v (some u) none none).run P w=.ok r w/\Rep g (.sref i (off+lo*(tab e).size) (len-lo) (cap-lo)) r:=by
 obtain⟨b,hb,rfl⟩:=hv
 obtain rfl:=Bb hu
 refine⟨_,?_,Lm (len:=len-lo) (cap:=cap-lo) (off:=off+lo*(tab e).size) hb⟩
 have hu:=AG ht hk
 have c1:(0:Int)<=(lo:Int):=by omega
 have c2:(lo:Int)<=(len:Int):=by omega
 have c3:¬cap=lo:=by omega
 simp only[Option.map_some,Instr.sliceAt,Instr.slice,Instr.sliceBounds,Instr.sliceBound,asIntOf,Sem.run_bind,Sem.run_pure,Result.andThen_ok,run_underlying hu,c1,c2,and_self,if_true,Az (ht e) (Ag he),Int.toNat_natCast,c3,if_false,BB]
theorem Oo{g:G}{w:World}{T e i off len cap:Nat}{k:IntKind}{v u:Value}{hi:Nat}(hk:(tab T).k=.slice e)(he:A0 (tab e).k=false)(hv:Rep g (.sref i off len cap) v)(hu:Rep g (.int k hi) u)(be:hi<=cap):
  ∃r,(Instr.sliceAt T v none (some u) none).run P w=.ok r w/\Rep g (.sref i off hi cap) r:=by
 obtain⟨b,hb,rfl⟩:=hv
 obtain rfl:=Bb hu
 refine⟨_,?_,Lm (len:=hi) (cap:=cap) (off:=off) hb⟩
 have hu:=AG ht hk
 have c1:(0:Int)<=(hi:Int):=by omega
 have c2:(hi:Int)<=(cap:Int):=by omega
 simp only[Instr.sliceAt,Instr.slice,Instr.sliceBounds,Instr.sliceBound,asIntOf,Sem.run_bind,Sem.run_pure,Result.andThen_ok,run_underlying hu,c1,c2,and_self,if_true,Az (ht e) (Ag he),Int.toNat_natCast,Nat.sub_zero,Nat.zero_mul]
 congr 1
 split<;>simp[Addr.add]
variable {N:Nat}{S0:Sig}
theorem mo_cutL{t T ty e i off len cap:Nat}{k:IntKind}{x y:Operand}{lo:Nat}{pos:String}{after:Array Edge}{f:Bool}{l:List (Bool×Oper)}
  (h:MO P ro n ops N S0 Q df l ((t,.sref i (off+lo*(tab e).size) (len-lo) (cap-lo))::γ) O)
  (aj:t<n) (hk:(tab T).k=.slice e) (he:A0 (tab e).k=false) (h1:ev γ x=.sref i off len cap) (h2:ev γ y=.int k lo) (bZ:lo<=len) (b6:lo<cap) :
  MO P ro n ops N S0 Q df ((f,⟨some t,.slice T x (some y) none none,ty,pos,after,none⟩)::l) γ O:=by
 refine .inl ⟨_,⟨by simp[Aq,aj],.inl ⟨rfl,(fun c e=>by cases e),Ad (fun c e=>by cases e),fun U' hZ g w a hs hT=>?_⟩⟩,h⟩
 have hx:=Am hT x
 have hy:=Am hT y
 rw[BO (o:=⟨some t,.slice T x (some y) none none,ty,pos,after,none⟩) (by simp[Op.operands]),h1]at hx
 rw[BO (o:=⟨some t,.slice T x (some y) none none,ty,pos,after,none⟩) (by simp[Op.operands]),h2]at hy
 obtain⟨r,h3,h4⟩:=On (w:=w) ht hk he hx hy bZ b6
 exact⟨g,w,r,by simp only[execOp,Option.map_some,Option.map_none,Sem.run_bind,h3,Result.andThen_ok,Sem.run_pure],.refl g,hs,h4⟩
theorem Rc{t T ty e i off len cap:Nat}{k:IntKind}{x y:Operand}{hi:Nat}{pos:String}{after:Array Edge}{f:Bool}{l:List (Bool×Oper)}
  (h:MO P ro n ops N S0 Q df l ((t,.sref i off hi cap)::γ) O)
  (aj:t<n) (hk:(tab T).k=.slice e) (he:A0 (tab e).k=false) (h1:ev γ x=.sref i off len cap) (h2:ev γ y=.int k hi) (be:hi<=cap) :
  MO P ro n ops N S0 Q df ((f,⟨some t,.slice T x none (some y) none,ty,pos,after,none⟩)::l) γ O:=by
 refine .inl ⟨_,⟨by simp[Aq,aj],.inl ⟨rfl,(fun c e=>by cases e),Ad (fun c e=>by cases e),fun U' hZ g w a hs hT=>?_⟩⟩,h⟩
 have hx:=Am hT x
 have hy:=Am hT y
 rw[BO (o:=⟨some t,.slice T x none (some y) none,ty,pos,after,none⟩) (by simp[Op.operands]),h1]at hx
 rw[BO (o:=⟨some t,.slice T x none (some y) none,ty,pos,after,none⟩) (by simp[Op.operands]),h2]at hy
 obtain⟨r,h3,h4⟩:=Oo (w:=w) ht hk he hx hy be
 exact⟨g,w,r,by simp only[execOp,Option.map_some,Option.map_none,Sem.run_bind,h3,Result.andThen_ok,Sem.run_pure],.refl g,hs,h4⟩
omit ht in
end
inductive RW where
 |nil
 |full (es:List (List D))
 |row (i cap:Nat) (rest:List D)
def RW.d:RW->Nat->D
 |.nil,_=>.nils
 |.full es,_=>.slice es .clip
 |.row i cap _,n=>.sref i 0 n cap
def RW.is:RW->Nat->Prop
 |.row i _ _,j=>j=i
 |_,_=>False
def RWAt(O:Sig)(sz:Nat):RW->List (List D)->Prop
 |.row i cap rest,es=>O i=some (.cells (es.flatten++rest))/\cap*sz<=(es.flatten++rest).length/\es.length<=cap /\ ∀e∈es,e.length=sz
 |.full es0,es=>es=es0 /\ ∀e∈es,e.length=sz
 |.nil,es=>es=[]
def K4(P:Program)(O:Sig)(sz:Nat)(d:D)(new:List (List D)):Prop:= ∀g w v,Sim P g O w->Rep g d v->∃xa xc,v=.slice xa new.length xc/\new.length<=xc /\ ∃us,RepL g new.flatten us/\us.length=new.length*sz/\(new.length=0 \/ ∃b o,xa=some ⟨b,o,none⟩ /\ ∀j v,us[j]? = some v->w.cell? ⟨b,o+j,none⟩=some v)
theorem RWAt.len{O:Sig}{sz:Nat}{r:RW}{es:List (List D)}(h:RWAt O sz r es): ∀e∈es,e.length=sz:=by
 cases r with
 |row i cap rest=>exact h.2.2.2
 |nil=>obtain rfl:es=[]:=h;simp
 |full es0=>exact h.2
theorem RWAt.keep{O U':Sig}{sz:Nat}{r:RW}{es:List (List D)}(h:RWAt O sz r es)(hk:∀j o,O j=some o->r.is j->U' j=some o):RWAt U' sz r es:=by
 cases r with
 |row i cap rest=>exact⟨hk _ _ h.1 rfl,h.2⟩
 |nil=>exact h
 |full es0=>exact h
theorem RWAt.cells{O:Sig}{sz:Nat}{r:RW}{es:List (List D)}(h:RWAt O sz r es){j:Nat}(hj:r.is j): ∃cs,O j=some (.cells cs):=by
 cases r with
 |row i cap rest=>cases hj;exact⟨_,h.1⟩
 |nil=>exact hj.elim
 |full es0=>exact hj.elim
section
variable {P:Program}{O:Sig}{sz:Nat}
theorem GT{d:D}{new:List (List D)}(h:esOf d=some new)(hl:∀c∈new,c.length=sz):K4 P O sz d new:=fun g w v hs hr=>by
 obtain⟨xa,xc,q1,q2,q3⟩:=Ck h hr
 exact⟨xa,xc,q1,q2,Cb hs hl q3⟩
theorem Lh{i off cap:Nat}{pre rest:List D}{es:List (List D)}(hi:O i=some (.cells (pre++(es.flatten++rest))))(hp:pre.length=off)(hl:∀c∈es,c.length=sz)(hc:es.length<=cap):K4 P O sz (.sref i off es.length cap) es:=fun g w v hs hr=>by
 obtain⟨b,hb,rfl⟩:=hr
 obtain⟨b',vs,ty,ae,aa,hr⟩:=hs.obj i _ hi
 obtain rfl:b'=b:=by rw[hb]at ae;cases ae;rfl
 obtain⟨u0,v0,e1,e2,e3⟩:=hr.split
 obtain⟨u,v',f1,f2,f3⟩:=e3.split
 refine⟨_,cap,rfl,hc,u,f2,by rw[RepL.length f2,Au hl],.inr ⟨b',off,rfl,fun j x hx=>?_⟩⟩
 have hj:j<u.length:=(List.getElem?_eq_some_iff.1 hx).1
 simp only[World.cell?, aa]
 have:vs.toList[off+j]? = some x:=by
  rw[e1,List.getElem?_append_right (by rw[RepL.length e2,hp];omega),RepL.length e2,hp,Nat.add_sub_cancel_left,f1,List.getElem?_append_left hj];exact hx
 simpa using this
theorem RWAt.src{r:RW}{es:List (List D)}(h:RWAt O sz r es):K4 P O sz (r.d es.length) es:=by
 cases r with
 |row i cap rest=>exact Lh (pre:=[]) h.1 rfl h.2.2.2 h.2.2.1
 |nil=>obtain rfl:es=[]:=h;exact GT rfl (by simp)
 |full es0=>obtain⟨rfl,h⟩:=h;exact GT rfl h
end
section
variable {P:Program}{ro:Ro}{n:Nat}{ops:Array Oper}{Q:DX->St->Prop}{rest:List Oper}{tab:Nat->Ty}{γ:List (Nat×D)}{O:Sig}{df:List DDf}
variable (ht:Ba P tab)
include ht
theorem Ey{t T T' ty e e' sz:Nat}{s x:Operand}{pos:String}{after:Array Edge}{es new:List (List D)}{r:RW}
  (aj:t<n) (hk:(tab T).k=.slice e) (cD:(tab T').k=.slice e') (he:A0 (tab e).k=false) (hsz:(tab e).size=sz) (h1:ev γ s=r.d es.length) (hm:RWAt O sz r es) (h2:K4 P O sz (ev γ x) new)
  (hlen':∀c∈new,c.length=sz) (bh:∀c∈new,BN c=true)
  (hb:(es.length+new.length)*(tab e).bytes<=140737488355328) (hm2:es.length+new.length<=9223372036854775807)
  (h:∀r' U',RWAt U' sz r' (es++new)->(∀j o,O j=some o->¬r.is j->U' j=some o /\ ¬r'.is j)->(new=[]/\r'=r \/ ∃i c rest,r'=.row i c rest)->DOps P ro n ops Q rest ⟨(t,r'.d (es.length+new.length))::γ,U',df⟩) :
  DOps P ro n ops Q (⟨some t,(cA s x T T'),ty,pos,after,none⟩::rest) ⟨γ,O,df⟩:=by
 subst hsz
 refine C5 (fun d U'=> ∃r',RWAt U' (tab e).size r' (es++new)/\(∀j o,O j=some o->¬r.is j->U' j=some o /\ ¬r'.is j)/\(new=[]/\r'=r \/ ∃i c rest,r'=.row i c rest)/\d=r'.d (es.length+new.length)) rfl (fun c e=>by cases e) (B7 rfl rfl) (by simp[Aq,aj]) ?_
  (fun d U' ⟨r',a1,a2,a4,a3⟩=>by subst a3;exact h r' U' a1 a2 a4)
 intro g w a hs hT
 have aA:=Am hT s
 have aS:=Am hT x
 rw[h1]at aA
 obtain⟨base,cap,r1,r2,us,r3,r4,r5⟩:=hm.src g w _ hs aA
 obtain⟨xa,xc,q1,q2,news,v1,v2,v3⟩:=h2 g w _ hs aS
 obtain⟨inf,z,t1,t2,t3,t4,t5,t6,t7⟩:=Bk ht hk cD he
 have ba:=hm.len
 have aC:∀c∈es++new,c.length=(tab e).size:=fun c hc=>(List.mem_append.1 hc).elim (ba c) (hlen' c)
 by_cases aH:new=[]
 ·subst aH
  have cu:news=[]:=List.length_eq_zero_iff.1 (by rw[v2];simp)
  refine⟨g,w,a.eval s,_,O,An ?_,.refl g,hs,aA,r,by rw[List.append_nil];exact hm,fun j o hj hn=>⟨hj,hn⟩,.inl ⟨rfl,rfl⟩,by simp⟩
  rw[r1,q1]
  have:=Bi (ty:=ty) t1 t2 t3 (w:=w) (w2:=w) (base:=base) (xa:=xa) (n:=es.length) (cap:=cap) (m:=0) (xc:=xc) (news:=[]) (Al (by simp) (.inl rfl)) (by omega) (fun b _=>by simp[storeCells,Sem.run]) (fun _=>rfl)
  simpa using this
 have cr:0<new.length:=List.length_pos_iff.2 aH
 by_cases ap:es.length+new.length<=cap
 ·
  cases r with
  |nil=>
   obtain rfl:es=[]:=hm
   have e1:a.eval s=.slice none 0 0:=aA
   rw[e1]at r1;injection r1 with f1 f2 f3
   simp only[List.length_nil]at ap;omega
  |full es0=>
   obtain⟨rfl,hl⟩:=hm
   obtain⟨a',c',e1,e2,_,e3⟩:=aA
   rw[e1]at r1;injection r1 with f1 f2 f3
   simp only at e3;omega
  | row i cap' rest' =>
   obtain⟨m1,m2,m3,m4⟩:=hm
   obtain⟨b,ae,hv⟩:=aA
   rw[hv]at r1;injection r1 with f1 f2 f3
   subst f3
   subst f1
   obtain⟨b2,vs,ty',bn,aa,hr⟩:=hs.obj i _ m1
   obtain rfl:b2=b:=by rw[ae]at bn;cases bn;rfl
   have bt:=RepL.length hr
   simp only[Array.length_toList]at bt
   have da:=Au m4
   have c9:=Au hlen'
   have cu:=RepL.length v1
   simp only[List.length_append]at m2 bt
   have bH:(es.length+new.length)*(tab e).size<=cap'*(tab e).size:=Nat.mul_le_mul_right _ ap
   rw[Nat.add_mul]at bH
   have aI:=BC (P:=P) news 0 w vs aa (D1 v1 (FF bh)) (o:=es.length*(tab e).size) (by omega)
   have ac:=Bi (ty:=ty) t1 t2 t3 (w:=w) (base:=some ⟨b2,0,none⟩) (xa:=xa) (n:=es.length) (cap:=cap') (m:=new.length) (xc:=xc) (news:=news) (w2:=if news=[] then w else setB w b2 (.cells (Bh vs (0+es.length*(tab e).size) news) ty' (0,0)))
    (Al (by rw[t5];exact v2) v3) ap (fun a ha=>by cases ha;rw[BB,t5];simpa using aI) (fun h=>by cases h)
   have aH:RepL g (es.flatten++(new.flatten++rest'.drop (new.length*(tab e).size))) (Bh vs (0+es.length*(tab e).size) news).toList:=by
    refine AE (by simp only[List.length_append,List.length_drop,Array.length_toList,Cz];omega) fun j d v h1 h2=>?_
    have ai:(Bh vs (0+es.length*(tab e).size) news)[j]? = some v:=by simpa using h2
    rw[CT _ _ _ _ (by omega)]at ai
    simp only[List.getElem?_append]at h1
    have hg:=RepL.get hr j
    by_cases c1:j<es.flatten.length
    ·rw[if_neg (by omega)]at ai
     rw[if_pos c1]at h1
     rw[List.getElem?_append_left c1,h1]at hg
     simp only[Array.getElem?_toList,ai,Option.getD_some]at hg
     exact hg
    ·rw[if_neg c1]at h1
     by_cases c2:j-es.flatten.length<new.flatten.length
     ·rw[if_pos (by omega)]at ai
      rw[if_pos c2]at h1
      have:=RepL.get v1 (j-es.flatten.length)
      rw[h1,show j-es.flatten.length=j-(0+es.length*(tab e).size) by omega,ai]at this
      exact this
     ·rw[if_neg (by omega)]at ai
      rw[if_neg c2,List.getElem?_drop]at h1
      rw[List.getElem?_append_right (by omega),show j-es.flatten.length=new.length*(tab e).size+(j-es.flatten.length-new.flatten.length) by omega,h1]at hg
      simp only[Array.getElem?_toList,ai,Option.getD_some]at hg
      exact hg
   have bQ:es.flatten++(new.flatten++rest'.drop (new.length*(tab e).size))=(es++new).flatten++rest'.drop (new.length*(tab e).size):=by simp
   refine⟨g,_,.slice (some ⟨b2,0,none⟩) (es.length+new.length) cap',.sref i 0 (es.length+new.length) cap',O.set i (.cells ((es++new).flatten++rest'.drop (new.length*(tab e).size))),An (by rw[hv,q1];exact ac),.refl g,?_,FY ae,.row i cap' (rest'.drop (new.length*(tab e).size)),⟨w6 ..,?_,by simpa using ap,aC⟩,fun j o hj hn=>⟨by rw[w7 _ _ hn];exact hj,hn⟩,.inr ⟨_,_,_,rfl⟩,rfl⟩
   ·have ag:=hs.setObj (i:=i) (b:=b2) (ds':=es.flatten++(new.flatten++rest'.drop (new.length*(tab e).size))) (vs':=Bh vs (0+es.length*(tab e).size) news) (ty:=ty') m1 ae aH ⟨vs,aa⟩
    rw[bQ]at ag
    by_cases hne:news=[]
    ·rw[if_pos hne]
     subst hne
     have cg:setB w b2 (.cells (Bh vs (0+es.length*(tab e).size) []) ty' (0,0))=w:=by
      obtain⟨am,cK⟩:=Array.getElem?_eq_some_iff.1 aa
      have e:w.heap.setIfInBounds b2 (.cells vs ty' (0,0))=w.heap:=by
       apply Array.ext (by simp);intro k h1 h2;by_cases hk:b2=k
       ·subst hk;simp[cK]
       ·rw[Array.getElem_setIfInBounds_ne _ hk]
      show { w with heap:=w.heap.setIfInBounds b2 (.cells vs ty' (0,0)) }=w
      rw[e]
     rw[cg]at ag;exact ag
    ·rw[if_neg hne];exact ag
   ·simp only[List.flatten_append,List.length_append,List.length_drop];omega
 ·
  obtain⟨c,hc,ac⟩:=DK (ty:=ty) t1 t2 t3 t4 (w:=w) (base:=base) (xa:=xa) (n:=es.length) (cap:=cap) (m:=new.length) (xc:=xc) (olds:=us) (news:=news)
   (Al (by rw[t5];exact r4) r5) (Al (by rw[t5];exact v2) v3) (by omega) hm2 (by rw[t6];exact hb)
  obtain⟨i',aT,ca⟩:=hs.fresh
  let zs:=(Builtin.zeroCells z.cells (c-(es.length+new.length))).toList
  have bB:RepL (g.bind i' w.heap.size) ((es++new).flatten++zs.map Bd) (us++news++zs):=by
   rw[List.flatten_append]
   exact((RepL.mono (G.bind_le aT) _ r3).append (RepL.mono (G.bind_le aT) _ v1)).append (Cd _ _)
  have bG:ObjRep P (g.bind i' w.drew.heap.size) { w.drew with heap:=w.drew.heap.push (.cells (us++news++zs).toArray e (0,0)) } i' (.cells ((es++new).flatten++zs.map Bd)):=
   ⟨w.drew.heap.size,(us++news++zs).toArray,e,by simp[G.bind],by exact Array.getElem?_push_size,by simpa using bB⟩
  have aM:=hs.drew.newObj aT ca rfl bG
  refine⟨_,_,_,.sref i' 0 (es.length+new.length) c,_,An (by rw[r1,q1];exact ac),G.bind_le aT,aM,FY (by simp[G.bind]),.row i' c (zs.map Bd),⟨w6 ..,?_,by simpa using hc,aC⟩,fun j o hj _=>?_,.inr ⟨_,_,_,rfl⟩,rfl⟩
  ·have hz:zs.length=(c-(es.length+new.length))*(tab e).size:=by simp[zs,size_zeroCells,t7]
   simp only[List.length_append,List.length_map,hz,Au aC,<-Nat.add_mul]
   refine Nat.le_of_eq ?_
   congr 1;omega
  ·have hne:j≠i':=fun e=>by rw[e,ca]at hj;cases hj
   exact⟨by rw[w7 _ _ hne];exact hj,hne⟩
end
section
variable {P:Program}{tab:Nat->Ty}(ht:Ba P tab){ro:Ro}{n:Nat}{ops:Array Oper}{Q:DX->St->Prop}{df:List DDf}{rest:List Oper}{γ:List (Nat×D)}{O:Sig}
include ht
theorem QI{g:G}{w:World}{T e i off len cap:Nat}{k k':IntKind}{v u u':Value}{hi m:Nat}(hk:(tab T).k=.slice e)(he:A0 (tab e).k=false)(hv:Rep g (.sref i off len cap) v)(hu:Rep g (.int k hi) u)(ci:Rep g (.int k' m) u')(be:hi<=m)(hm:m<=cap):
  ∃r,(Instr.sliceAt T v none (some u) (some u')).run P w=.ok r w/\Rep g (.sref i off hi m) r:=by
 obtain⟨b,hb,rfl⟩:=hv
 obtain rfl:=Bb hu
 obtain rfl:=Bb ci
 refine⟨_,?_,Lm (len:=hi) (cap:=m) (off:=off) hb⟩
 have hu:=AG ht hk
 have c1:(0:Int)<=(hi:Int):=by omega
 have c2:(hi:Int)<=(m:Int):=by omega
 have c3:(0:Int)<=(m:Int):=by omega
 have c4:(m:Int)<=(cap:Int):=by omega
 simp only[Option.map_some,Instr.sliceAt,Instr.slice,Instr.sliceBounds,Instr.sliceBound,asIntOf,Sem.run_bind,Sem.run_pure,Result.andThen_ok,run_underlying hu,c1,c2,c3,c4,and_self,if_true,Az (ht e) (Ag he),Int.toNat_natCast,Nat.sub_zero,Nat.zero_mul]
 congr 1
 split<;>simp[Addr.add]
theorem KQ{t T ty e i off len cap:Nat}{k k':IntKind}{x y z:Operand}{hi m:Nat}{pos:String}{after:Array Edge}
  (h:DOps P ro n ops Q rest ⟨(t,.sref i off hi m)::γ,O,df⟩)
  (aj:t<n) (hk:(tab T).k=.slice e) (he:A0 (tab e).k=false) (h1:ev γ x=.sref i off len cap) (h2:ev γ y=.int k hi) (h3:ev γ z=.int k' m) (be:hi<=m) (hm:m<=cap) :
  DOps P ro n ops Q (⟨some t,.slice T x none (some y) (some z),ty,pos,after,none⟩::rest) ⟨γ,O,df⟩:=by
 refine C5 (fun d U'=>d=.sref i off hi m/\U'=O) rfl (fun c e=>by cases e) (Ad fun c e=>by cases e) (by simp[Aq,aj]) ?_
  (fun d U' ⟨a2,a3⟩=>by subst a2 a3;exact h)
 intro g w a hs hT
 have hx:=Am hT x
 have hy:=Am hT y
 have hz:=Am hT z
 rw[h1]at hx
 rw[h2]at hy
 rw[h3]at hz
 obtain⟨r,h4,h5⟩:=QI (w:=w) ht hk he hx hy hz be hm
 exact⟨g,w,r,_,O,by simp only[execOp,Option.map_some,Option.map_none,Sem.run_bind,h4,Result.andThen_ok,Sem.run_pure],.refl g,hs,h5,rfl,rfl⟩
omit ht in
theorem LY{i j c sz:Nat}{es:List (List D)}{r az bs:List D}(hj:O j=some (.cells (es.flatten++r)))(hi:O i=some (.cells (az ++ .sref j 0 es.length c::bs)))(aF:i≠j)(m3:es.length<=c)(m4:∀e∈es,e.length=sz):Wk P n ⟨γ,O,df⟩ ⟨γ,(O.del j).set i (.cells (az ++ .slice es .no::bs)),df⟩:=by
 intro g w a hs
 obtain⟨b,_,_,hb,_,_⟩:=hs.sim.obj j _ hj
 obtain⟨g',ah,ay,bD⟩:=hs.sim.freeze (i:=j) hj hb
 have aT:(O.del j) i=some (.cells (az ++ .sref j 0 es.length c::bs)):=by simp only[Sig.del,aF,if_false];exact hi
 simp only at ay
 refine⟨g',ah,⟨ay.retell aT fun vs=>Is fun v hv=>?_,hs.tmps.mono ah,hs.df.mono ah⟩⟩
 obtain⟨b',ae,hv⟩:=hv
 obtain rfl:b'=b:=by have:=ah.rho _ _ hb;rw[this]at ae;cases ae;rfl
 exact⟨_,c,hv,m3,.inr ⟨sz,b',0,rfl,Em m4 bD⟩,trivial⟩
end
end Go.DL
