/- A part of the proof. -/
import Derived.Test.YteldimffglchkaaGreatDoorQ06
import Derived.Maps.RangeRun
import Derived.RecoverIn
import Derived.Laws.IdiomCopy
import Derived.Laws.IdiomStrings
set_option linter.all false
namespace Go.DL
open Go
def MB{g:G}: ∀{l:List (D×D)}{es:List MapEntry},kO g l es->jE g (l.map (·.1)) (es.map (·.key))/\jE g (l.map (·.2)) (es.map (·.val))
 |[],es,h=>by rw[show es=[] from h];exact⟨rfl,rfl⟩
 |(k,d)::l,es,⟨e,r,he,h1,h2,h3⟩=>by
  subst he;obtain⟨a,b⟩:=MB h3;exact⟨⟨_,_,rfl,h1,a⟩,⟨_,_,rfl,h2,b⟩⟩
def kO.get{g:G}: ∀{l:List (D×D)}{es:List MapEntry},kO g l es->∀{j:Nat}{e:MapEntry},es[j]? = some e->∃k v,l[j]? = some (k,v)/\Rep g k e.key/\Rep g v e.val
 |[],es,h,j,e,he=>by rw[show es=[] from h]at he;simp at he
 |(k,d)::l,es,⟨e',r,fP,h1,h2,h3⟩,j,e,he=>by
  subst fP;cases j with
  |zero=>simp at he;subst he;exact⟨k,d,rfl,h1,h2⟩
  |succ j=>simpa using h3.get (by simpa using he)
def kO.len{g:G}: ∀{l:List (D×D)}{es:List MapEntry},kO g l es->es.length=l.length
 |[],es,h=>by rw[show es=[] from h];rfl
 |(k,d)::l,es,⟨e',r,fP,h1,h2,h3⟩=>by subst fP;simp[h3.len]
def kO.erase{g:G}: ∀{l:List (D×D)}{es:List MapEntry},kO g l es->∀(j:Nat),kO g (l.eraseIdx j) (es.eraseIdx j)
 |[],es,h,j=>by rw[show es=[] from h];exact rfl
 |(k,d)::l,es,⟨e',r,fP,h1,h2,h3⟩,j=>by
  subst fP;cases j with
  |zero=>exact h3
  |succ j=>exact⟨e',_,rfl,h1,h2,h3.erase j⟩
def G.addKeep(g:G)(b:Nat)(o:Obj):G:={ g with keep:=fun k=>if k=b then some o else g.keep k }
section
variable {P:Program}{ro:Ro}{n:Nat}{ops:Array Oper}{Q:DX->St->Prop}{rest:List Oper}{tab:Nat->Ty}{γ:List (Nat×D)}{O:Sig}{df:List DDf}
theorem Sim.mapStays{g:G}{w:World}(eV:Sim P g O w){i b:Nat}{l:List (D×D)}(hi:O i=some (.map l))(hb:g.rho i=some b):
  ∃g',g.le g'/\Sim P g' (O.del i) w/\Rep g' (.cmap (l.map (·.1)) (l.map (·.2))) (.map (some b)):=by
 obtain⟨b',es,clock,b8,b6,hr,fj⟩:=eV.obj i _ hi;obtain rfl:b'=b:=by rw[hb]at b8;cases b8;rfl
 have fU:blk g O i=some b':=by simp[blk,hi,hb]
 have fN:=eV.free i b' fU
 have c9:g.le (g.addKeep b' (.map es clock)):=
  {imm:=fun _ _ _ h=>h,rho:=fun _ _ h=>h,hist:=fun _ _ _ h=>h,io:=rfl
   keep:=fun k o h=>by
    simp only[G.addKeep]
    by_cases hk:k=b'
    ·rw[hk,fN.1]at h;cases h
    ·rw[aE hk];exact h }
 have fQ:∀j o,O.del i j=some o->j≠i/\O j=some o:=fun j o h=>by
  by_cases hj:j=i
  ·subst hj;simp[Sig.del]at h
  ·exact⟨hj,by simpa[Sig.del,hj] using h⟩
 have ff:∀j c,blk (g.addKeep b' (.map es clock)) (O.del i) j=some c->j≠i/\blk g O j=some c:=by
  intro j c h
  by_cases hj:j=i
  ·subst hj;simp[blk,Sig.del]at h
  ·refine⟨hj,?_⟩;unfold blk at h⊢;simp only[Sig.del,hj,bc]at h;exact h
 refine⟨_,c9,?_,?_⟩
 ·exact {
   imm:=eV.imm
   keep:=fun k o h=>by
    simp only[G.addKeep]at h
    by_cases hk:k=b'
    ·rw[aG hk]at h;cases h;rw[hk];exact b6
    ·rw[aE hk]at h;exact eV.keep k o h
   obj:=fun j o h=>(eV.obj j o (fQ j o h).2).mono c9 fun _ _ _ _ _ _ _ _ _ _ h=>h
   inj:=fun j k c h1 h2=>eV.inj j k c (ff j c h1).2 (ff k c h2).2
   free:=fun j c h=>by
    obtain⟨hj,h'⟩:=ff j c h
    obtain⟨h1,h2⟩:=eV.free j c h'
    have hc:c≠b':=fun e=>hj (eV.inj j i b' (e ▸ h') fU)
    refine⟨by simp only[G.addKeep];rw[aE hc];exact h1,fun hh o=>h2 (fun x hx=>hh x (by simp only[Sig.del,hj,bc];exact hx)) o⟩
   htop:=fun j sz n k h hk=>eV.htop j sz n k (fQ j _ h).2 hk
   hdom:=eV.hdom
   io:=eV.io
   tab:=eV.tab.mono c9
   fin:=eV.fin }
 ·obtain⟨a1,a2⟩:=MB hr;exact⟨b',es,clock,rfl,by simp[G.addKeep],fj,jE.mono c9 _ a1,jE.mono c9 _ a2⟩
theorem O2{t i:Nat}{l:List (D×D)}(hi:O i=some (.map l))(hg:getD γ t=.map i):Wk P n ⟨γ,O,df⟩ ⟨(t,.cmap (l.map (·.1)) (l.map (·.2)))::γ,O.del i,df⟩:=by
 intro g w a hs;have gM:=hs.tmps.2 t;rw[hg]at gM;obtain⟨b,hb,hv⟩:=gM;obtain⟨g',c9,h1,h2⟩:=hs.sim.mapStays hi hb;refine⟨g',c9,⟨h1,⟨hs.tmps.1,fun k=>?_⟩,hs.df.mono c9⟩⟩;rw[A8]
 by_cases hk:k=t
 ·rw[aG hk,hk,hv];exact h2
 ·rw[aE hk];exact Rep.mono c9 _ (hs.tmps.2 k)
variable (ht:AZ P tab)
include ht
omit ht in
omit ht in
theorem Ra{t i:Nat}{x:Operand}{ty:TypeId}{pos:String}{after:Array Edge}{left:List (D×D)}{k v:D}(d6:t<n)(hx:ev γ x=.obj i)(hi:O i=some (.iter left (some (k,v))))
  (h:au P ro n ops Q rest ⟨(t,.tup [k,v])::γ,O,df⟩) :
  au P ro n ops Q (⟨some t,.entry x,ty,pos,after,none⟩::rest) ⟨γ,O,df⟩:=by
 refine Ct (fun d U'=>d=.tup [k,v]/\U'=O) rfl (fun c e=>by cases e) (Ag fun c e=>by cases e) (by simp[Ax,d6]) ?_ (fun d U' ⟨a,b⟩=>by subst a b;exact h);intro g w a hs hT;have fA:=As hT x;rw[hx]at fA;obtain⟨b,hb,hv⟩:=fA;obtain⟨b',b8,fS⟩:=hs.obj _ _ hi;obtain rfl:b'=b:=by rw[hb]at b8;cases b8;rfl
 rcases fS with⟨_,hl,_⟩|⟨mb,es,clock,seen,hh,fL,fj,hr,fK⟩
 ·cases hl
 ·obtain⟨e,st,f1,f2,f3,f4⟩:=fK k v rfl;have ik:=hs.keep _ _ fL;refine⟨g,w,.tuple #[e.key,e.val],.tup [k,v],O,?_,.refl g,hs,⟨_,rfl,_,_,rfl,f3,_,_,rfl,f4,rfl⟩,rfl,rfl⟩;simp[execOp,hv,Instr.entry,getObj,Sem.run,hh,ik,f1,f2]
omit ht in
theorem Ln{fop:Operand}{args:Array Operand}{ats:Array TypeId}{dst:Option Tmp}{ty:TypeId}{pos:String}{after:Array Edge}{f:Nat}{first cap:eO}(d8:f<P.funcs.size)
  (hf:ev γ fop=.func (.func f) first cap) (ho:Ax n ⟨dst,.defer { callee:=.value fop,args,argTypes:=ats },ty,pos,after,none⟩=true)
  (h:au P .none n ops Q rest ⟨putD dst .any γ,O,.fn f (first++args.toList.map (ev γ)) cap::df⟩) :
  au P .none n ops Q (⟨dst,.defer { callee:=.value fop,args,argTypes:=ats },ty,pos,after,none⟩::rest) ⟨γ,O,df⟩:=by
 intro g w a r hr hs;obtain rfl:r={}:=hr;unfold wpListIn;rw[AW (o:=⟨dst,.defer { callee:=.value fop,args,argTypes:=ats },ty,pos,after,none⟩) (b:=true) hs.tmps rfl,aG rfl];have f0:=As hs.tmps fop;rw[show ev (St.mk γ O df).γ fop=.func (.func f) first cap from hf]at f0;obtain⟨fs,cs,f0,gY,gX⟩:=f0
 have eW:(resolve a.eval { callee:=.value fop,args,argTypes:=ats } ty).run P w=.ok { target:=.fn (.func f) cs.toArray,args:=fs.toArray++args.map a.eval } w:=by
  simp[resolve,f0,Deferred.ofValue,Sem.run]
 refine⟨fun f' fC=>(Ag (fun c e=>by cases e) _ _ _ fC).elim,?_⟩
 have b7:(Oper.semAt (FX P {}).round a.eval ⟨dst,.defer { callee:=.value fop,args,argTypes:=ats },ty,pos,after,none⟩).run P w=.ok (.defer { target:=.fn (.func f) cs.toArray,args:=fs.toArray++args.map a.eval }) w:=by
  simp only[FX,Oper.semAt,execOp,aP,eW,aJ,bi]
 rw[b7];have fh:=hs.put (d:=.any) (v:=undef) (U':=O) (w':=w) (.refl g) hs.sim trivial ho;refine h g w _ {} rfl ⟨fh.sim,?_,?_⟩
 ·have e:({ a with defers:={ target:=.fn (.func f) cs.toArray,args:=fs.toArray++args.map a.eval }::a.defers }:Act).put dst undef={ (a.put dst undef)with defers:={ target:=.fn (.func f) cs.toArray,args:=fs.toArray++args.map a.eval }::a.defers }:=by cases dst<;>rfl
  show kA g _ n (({ a with defers:={ target:=.fn (.func f) cs.toArray,args:=fs.toArray++args.map a.eval }::a.defers }:Act).put dst undef).tmps;rw[e];exact fh.tmps
 ·have e:(({ a with defers:={ target:=.fn (.func f) cs.toArray,args:=fs.toArray++args.map a.eval }::a.defers }:Act).put dst undef).defers={ target:=.fn (.func f) cs.toArray,args:=fs.toArray++args.map a.eval }::a.defers:=by cases dst<;>rfl
  show RepDf g _ (({ a with defers:={ target:=.fn (.func f) cs.toArray,args:=fs.toArray++args.map a.eval }::a.defers }:Act).put dst undef).defers;rw[e];exact⟨fs++args.toList.map a.eval,cs,a.defers,j1,gY.append (E4 hs.tmps _),gX,hs.df⟩
end
def Mh(P:Program)(f:Nat)(args:eO)(O:Sig)(pan:Option D)(U':Sig):Prop:=
 ∀g w vs u,Sim P g O w->jE g args vs->(match pan with|none=>u=.returning|some d=> ∃v,u=.panicking [{ v,recovered:=false }]/\Rep g d v)->
  CallsDIn (FX P {}) 0 P f vs.toArray u w fun e u' w'=>(∃v,e=.returned v)/\settle u'=.returning /\ ∃g',g.le g'/\Sim P g' U' w'
def BodyD(P:Program)(n:Nat)(fn:Func)(fd:Nat)(R:DE->Sig->Prop):DX->St->Prop
 |.normal,s|.ret,s=> ∃cap U' d,s.df=[.fn fd [] cap]/\Mh P fd cap s.O none U'/\NZ P n fn ⟨s.γ,U',[]⟩ d/\R (.ret d) U'
 |.panic p,s=> ∃cap U' d,s.df=[.fn fd [] cap]/\Mh P fd cap s.O (some p) U'/\NZ P n fn ⟨s.γ,U',[]⟩ d/\R (.ret d) U'
 |.exit _,_=>False
def HT{P:Program}{f fd:Nat}{fn:Func}{c:Code}{args:eO}{O:Sig}{R:DE->Sig->Prop}(hf:P.funcs[f]? = some fn)(hb:fn.body=some c)(iG:Q4 P fd)(fO:fd<P.funcs.size)
  (ic : (fn.name == "runtime.NumGoroutine") = false) {m : Nat} (hm : fn.ntmps = m) (hn : args.length <= m) (h : DWp P .none m c (fun x s => ∃ s', Wk P m s s' /\ BodyD P m fn fd (Weak R) x s') { γ := BV 0 args, O }) : ar P f args O R := by
 refine Ii ⟨(aI.1 hf).1,C8 hf ic (by rw[hb];rfl),fun g w vs hs ha=>?_⟩;refine callsIn_of_wp_defers hf hb (by obtain⟨h1,_⟩:=aI.1 hf;exact GK h1 _) ?_ rfl;subst hm;refine dc (h g w _ {} rfl ⟨hs,ES ha hn,rfl⟩) ?_
 rintro e a w' ⟨g',s1,x,h1,h2,h3,s2,gR,h4⟩
 obtain⟨g2,fJ,d5⟩:=gR _ _ _ h2;have iM:=h1.trans fJ
 have key:∀(u:FrameMode) (pan:Option D) (cap:eO) (U':Sig) (d:D),u≠.run->(match pan with|none=>u=.returning|some d=> ∃v,u=.panicking [{ v,recovered:=false }]/\Rep g2 d v)->
   s2.df=[.fn fd [] cap]->Mh P fd cap s2.O pan U'->NZ P fn.ntmps fn ⟨s2.γ,U',[]⟩ d->Weak R (.ret d) U'->LeavesIn (FX P {}) 0 P fn a.tmps (Mi P g (Weak R)) a.defers u w':=by
  intro u pan cap U' d hu hp e1 e2 e3 e4;have f7:=d5.df;rw[e1]at f7;obtain⟨az,cs,rest,hd,ra,rc,fE⟩:=f7;obtain rfl:az=[]:=ra;obtain rfl:rest=[]:=fE;rw[hd];refine leavesIn_cons hu (fun h=>by cases h) (f:=fd) (args:=cs.toArray) ?_ ?_ ?_
  ·simp only[invoke];have:=iG (#[]++cs.toArray) w';simpa using this
  ·intro g hg;simp only[Target.leads,bE]at hg;subst hg;exact(GK fO _)
  ·refine(e2 g2 w' cs u d5.sim rc hp).mono ?_
   rintro e u' w3 ⟨⟨v,rfl⟩,b9,g3,l3,gE⟩
   simp only[b9];obtain⟨v,hv,fq⟩:=e3 g3 { a with defers:=[] } w3 ⟨gE,d5.tmps.mono l3,rfl⟩;exact⟨v,hv,g3,.ret d,U',iM.trans l3,gE,⟨v,rfl,fq⟩,e4⟩
 cases x with
 |normal=>
  obtain rfl:=h3;obtain⟨cap,U',d,e1,e2,e3,e4⟩:=h4;exact key .returning none cap U' d j1 rfl e1 e2 e3 e4
 |ret=>
  obtain rfl:=h3;obtain⟨cap,U',d,e1,e2,e3,e4⟩:=h4;exact key .returning none cap U' d j1 rfl e1 e2 e3 e4
 |panic p=>
  obtain⟨v,rfl,fq⟩:=h3;obtain⟨cap,U',d,e1,e2,e3,e4⟩:=h4;exact key _ (some p) cap U' d j1 ⟨v,rfl,Rep.mono fJ _ fq⟩ e1 e2 e3 e4
 |exit i=>exact h4.elim
def Qp{P:Program}{F:Fence}{n:Nat}{ops:Array Oper}{Q:Exit->Act->List Frame->World->Prop}{a:Act}{cs:List Frame}{w:World}{i:Nat}{l:eQ}{o:Oper}{v:Value}(ho:ops[i]? = some o)(hg:o.guard=none)
  (ga:∀f,o.about P w a.eval=some f->F.fn f) (b7:(execOp a.eval o).run P w=.ok (.value v) w) (h:wpOpsSIn F n P ops Q l (a.put o.dst v) cs w):wpOpsSIn F n P ops Q (i::l) a cs w:=by
 have hw:Region.wanted o (yielded ops a.tmps)=true:=by simp[Region.wanted,hg]
 simp only[wpOpsSIn,ho,hw,bu,b7];exact⟨ga,h⟩
def Iw{P:Program}{F:Fence}{n:Nat}{ops:Array Oper}{Q:Exit->Act->List Frame->World->Prop}{a:Act}{cs cs':List Frame}{w:World}{i:Nat}{l:eQ}{o:Oper}{v:Value}(ho:ops[i]? = some o)(hg:o.guard=none)
  (ga:∀f,o.about P w a.eval=some f->F.fn f) (b7:(execOp a.eval o).run P w=.ok .recover w) (d7:recoverD cs=some (v,cs')\/(recoverD cs=none/\v=.nilIface/\cs'=cs)) (h:wpOpsSIn F n P ops Q l (a.put o.dst v) cs' w):wpOpsSIn F n P ops Q (i::l) a cs w:=by
 have hw:Region.wanted o (yielded ops a.tmps)=true:=by simp[Region.wanted,hg]
 rcases d7 with d7|⟨d7,rfl,rfl⟩
 ·simp only[wpOpsSIn,ho,hw,bu,b7,d7];exact⟨ga,h⟩
 ·simp only[wpOpsSIn,ho,hw,bu,b7,d7];exact⟨ga,h⟩
def J0{P:Program}{F:Fence}{n:Nat}{Q:Exit->Act->List Frame->World->Prop}{a:Act}{cs cs':List Frame}{w:World}{id t4 t1 ty1 ty2:Nat}{p1 p2:String}{a1 a2:Array Edge}{rest:Code}{v:Value}
  (d7:recoverD cs=some (v,cs')\/(recoverD cs=none/\v=.nilIface/\cs'=cs)) (fY:t4<a.tmps.size)
  (h:rest.wpSIn F n P Q ((a.put (some t4) v).put (some t1) v) cs' w) :
  (Code.seq (.region id #[⟨some t4,.call { callee:=.builtin .recover,args:= #[],argTypes:= #[] },ty1,p1,a1,none⟩,⟨some t1,.assign (.tmp t4),ty2,p2,a2,none⟩] false) rest).wpSIn F n P Q a cs w:=by
 refine wpSIn_seq (wpSIn_region ?_);have hr:List.range (#[(⟨some t4,.call { callee:=.builtin .recover,args:= #[],argTypes:= #[] },ty1,p1,a1,none⟩:Oper),⟨some t1,.assign (.tmp t4),ty2,p2,a2,none⟩]:Array Oper).size=[0,1]:=rfl;rw[hr];have gu:(a.put (some t4) v).eval (.tmp t4)=v:=by simp[Act.put,Act.eval,fY]
 refine Iw (o:=⟨some t4,.call { callee:=.builtin .recover,args:= #[],argTypes:= #[] },ty1,p1,a1,none⟩) rfl rfl (fun f h=>by cases h) rfl d7 ?_;refine Qp (o:=⟨some t1,.assign (.tmp t4),ty2,p2,a2,none⟩) (v:=v) rfl rfl (fun f h=>by cases h) ?_ h;show(Sem.run P (pure (Next.value ((a.put (some t4) v).eval (.tmp t4)))) w)=_;rw[gu];rfl
def PN{P:Program}{f:Nat}{fn:Func}{id t4 t1 ty1 ty2:Nat}{p1 p2:String}{a1 a2:Array Edge}{rest:Code}{args:eO}{O U':Sig}{pan:Option D}{m:Nat}
  (hf:P.funcs[f]? = some fn) (hb:fn.body=some (Code.seq (.region id #[⟨some t4,.call { callee:=.builtin .recover,args:= #[],argTypes:= #[] },ty1,p1,a1,none⟩,⟨some t1,.assign (.tmp t4),ty2,p2,a2,none⟩] false) rest))
  (hm:fn.ntmps=m) (hn:args.length<=m) (fY:t4<m) (gV:t1<m) (eW:fn.results=#[])
  (h:DWp P .none m rest (fun x s=>(x=.normal\/x=.ret)/\s.df=[]/\Sub U' s.O) ⟨(t1,pan.getD .niliface)::(t4,pan.getD .niliface)::BV 0 args,O,[]⟩):Mh P f args O pan U':=by
 intro g w vs u hs ha hu;subst hm;have d8:f<P.funcs.size:=(aI.1 hf).1;refine callsDIn_of_wpSIn hf hb (GK d8 _) fun c₀ cs hc=>?_;have hT:=ES ha hn
 have fh:∀(d:D) (v:Value),Rep g d v->kA g ((t1,d)::(t4,d)::BV 0 args) fn.ntmps (((({ tmps:=vs.toArray++Array.replicate (fn.ntmps-vs.toArray.size) undef,defers:=[] }:Act).put (some t4) v).put (some t1) v).tmps):=by
  intro d v hv;have h1 := kA.put (o := ⟨some t4, .move (.tmp 0), 0, "", #[], none⟩) (a := { tmps := vs.toArray ++ Array.replicate (fn.ntmps - vs.toArray.size) undef, defers := [] }) hT hv (by simp [Ax, fY]);exact kA.put (o := ⟨some t1, .move (.tmp 0), 0, "", #[], none⟩) (a := ({ tmps := vs.toArray ++ Array.replicate (fn.ntmps - vs.toArray.size) undef, defers := [] } : Act).put (some t4) v) h1 hv (by simp [Ax, gV])
 have hsz:t4<(vs.toArray++Array.replicate (fn.ntmps-vs.toArray.size) undef).size:=by rw[hT.1];exact fY
 have fin:∀(d:D) (v:Value) (u':FrameMode) (cs':List Frame),pan.getD .niliface=d->Rep g d v->settle u'=.returning->cs'={ c₀ with mode:=u' }::cs->
   rest.wpSIn (FX P {}) 0 P (bodyPostS P fn c₀ cs fun e u' w'=>(∃v,e=.returned v)/\settle u'=.returning /\ ∃g',g.le g'/\Sim P g' U' w')
    (((({ tmps:=vs.toArray++Array.replicate (fn.ntmps-vs.toArray.size) undef,defers:=[] }:Act).put (some t4) v).put (some t1) v)) cs' w:=by
  intro d v u' cs' hd hv b9 f9;refine wpSIn_of_wpIn rfl ?_;subst hd;refine dc (h g w _ {} rfl ⟨hs,fh _ v hv,rfl⟩) ?_
  rintro e a w' ⟨g',s',x,l1,l2,l3,hx,f7,fD⟩
  have hd:a.defers=[]:=EU l2.df f7;have hr:(results fn a.tmps).run P w'=.ok (.tuple #[]) w':=by simp[results,eW]
  rcases hx with rfl|rfl
  ·obtain rfl:=l3;exact⟨hd,u',f9,_,hr,⟨_,rfl⟩,b9,g',l1,l2.sim.sub fD⟩
  ·obtain rfl:=l3;exact⟨hd,u',f9,_,hr,⟨_,rfl⟩,b9,g',l1,l2.sim.sub fD⟩
 cases pan with
 |none=>
  have hu:u=.returning:=hu;subst hu;refine J0 (v:=.nilIface) (cs':=c₀::cs) (.inr ⟨?_,rfl,rfl⟩) hsz (fin .niliface .nilIface .returning _ rfl rfl rfl ?_)
  ·simp[recoverD,hc]
  ·rw[<-hc]
 |some d=>
  obtain⟨v,rfl,hv⟩:=hu;refine J0 (v:=v) (cs':={ c₀ with mode:=.panicking [{ v,recovered:=true }] }::cs) (.inl ?_) hsz (fin d v (.panicking [{ v,recovered:=true }]) _ rfl hv rfl rfl);simp[recoverD,hc]
def nilB:TyK->Value->D->Option Bool
 |.iface,.nilIface,.niliface=>some true
 |.iface,.nilIface,.iface _ _=>some false
 |.ptr _,.pointer none,.aq=>some true
 |.ptr _,.pointer none,.ak _ _=>some false
 |.ptr _,.pointer none,.ptr _ _=>some false
 |.ptr _,.pointer none,.obj _=>some false
 |_,_,_=>none
def Ko{P:Program}{w:Go.World}(d:Nat)(t:TypeId){i}(h:P.underlying t=some (.interface i)):(Op.equalIn (d+1) t .nilIface .nilIface).run P w=.ok true w:=by
 simp[Op.equalIn,j4 h]
def Kn{P:Program}{w:Go.World}(d:Nat)(t:TypeId){i}(h:P.underlying t=some (.interface i))(u:TypeId)(x:Value):(Op.equalIn (d+1) t (.iface u x) .nilIface).run P w=.ok false w:=by
 simp[Op.equalIn,j4 h]
def Fx{P:Program}{w:Go.World}(d:Nat)(t:TypeId){e}(h:P.underlying t=some (.pointer e))(p:Option Addr):(Op.equalIn (d+1) t (.pointer p) (.pointer none)).run P w=.ok p.isNone w:=by
 cases p<;>simp[Op.equalIn,j4 h]
def NF{P:Program}{tab:Nat->Ty}(ht:AZ P tab){ro:Ro}{n:Nat}{ops:Array Oper}{Q:DX->St->Prop}{rest:List Oper}{γ:Fr}{O:Sig}{df:List DDf}{t T T' ty:Nat}{x:Operand}{z:Value}{pos:String}{after:Array Edge}{guard:Option (Nat×Bool)}{b:Bool}(neg:Bool)
  (hw:AJ ops γ ⟨some t,.binOp (if neg then .neq else .eql) T x (.const z) T',ty,pos,after,guard⟩=some true) (hb:nilB (tab T).k z (ev γ x)=some b) (d6:t<n)
  (h:au P ro n ops Q rest ⟨(t,.bool (b != neg))::γ,O,df⟩) :
  au P ro n ops Q (⟨some t,.binOp (if neg then .neq else .eql) T x (.const z) T',ty,pos,after,guard⟩::rest) ⟨γ,O,df⟩:=by
 refine IV hw (fun c e=>by cases e) (Ag fun c e=>by cases e) (d:=.bool (b != neg)) ?_ (by simp[Ax,d6]) h;intro g w a hs hT;have hv:=As hT x;refine ORun.of (AH (v:=.bool (b != neg)) hs ?_ rfl)
 have fin:∀(v:Value) (c:Bool),a.eval x=v->(Op.equal T v z).run P w=.ok c w->(∀op,(eqGuard op T x (.const z) v z).run P w=.ok () w)->
   (binOp .eql T v z=do pure (.bool (<-Op.equal T v z)))->(binOp .neq T v z=do pure (.bool (!(<-Op.equal T v z))))->
   (do eqGuard (if neg then .neq else .eql) T x (.const z) (a.eval x) (a.eval (.const z));binOp (if neg then .neq else .eql) T (a.eval x) (a.eval (.const z)):Sem Value).run P w=.ok (.bool (c != neg)) w:=by
  intro v c e1 e2 e3 e4 e5;rw[e1,show a.eval (.const z)=z from rfl];cases neg
  ·simp only[bm,bc];rw[aP,e3,aJ,e4,aP,e2,aJ,bi];cases c<;>rfl
  ·simp only[bu];rw[aP,e3,aJ,e5,aP,e2,aJ,bi];cases c<;>rfl
 have iface:(tab T).k=.iface->∃i,P.underlying T=some (.interface i):=fun hk=>by
  obtain⟨desc,gx,f8⟩:=FO ht hk j1;cases desc<;>simp[KOK]at f8;exact⟨_,gx⟩
 have ptr:∀e,(tab T).k=.ptr e->P.underlying T=some (.pointer e):=fun e hk=>by
  obtain⟨desc,gx,f8⟩:=FO ht hk j1;cases desc<;>simp[KOK]at f8;rw[gx,f8]
 have gp:∀(p q:Option Addr) op,(eqGuard op T x (.const (.pointer q)) (.pointer p) (.pointer q)).run P w=.ok () w:=fun p q op=>by cases op<;>rfl
 unfold nilB at hb;split at hb<;>(try (cases hb;done))<;>cases hb<;>rename_i hk he
 ·obtain⟨i,hd⟩:=iface hk;rw[show ev (St.mk γ O df).γ x=.niliface from he]at hv;exact fin .nilIface true hv (Ko (P:=P) (w:=w) 9999 T hd) (fun op=>by cases op<;>cases x<;>rfl) rfl rfl
 ·obtain⟨i,hd⟩:=iface hk;rw[show ev (St.mk γ O df).γ x=.iface _ _ from he]at hv;obtain⟨y,hv,_⟩:=hv;exact fin _ false hv (Kn (P:=P) (w:=w) 9999 T hd _ _) (fun op=>by cases op<;>rfl) rfl rfl
 ·rw[show ev (St.mk γ O df).γ x=.aq from he]at hv;exact fin (.pointer none) true hv (Fx (P:=P) (w:=w) 9999 T (ptr _ hk) none) (gp _ _) rfl rfl
 ·rw[show ev (St.mk γ O df).γ x=.ak _ _ from he]at hv;obtain⟨b,o,hv,_⟩:=hv;exact fin _ false hv (Fx (P:=P) (w:=w) 9999 T (ptr _ hk) (some _)) (gp _ _) rfl rfl
 ·rw[show ev (St.mk γ O df).γ x=.ptr _ _ from he]at hv;obtain⟨b,_,hv⟩:=hv;exact fin _ false hv (Fx (P:=P) (w:=w) 9999 T (ptr _ hk) (some _)) (gp _ _) rfl rfl
 ·rw[show ev (St.mk γ O df).γ x=.obj _ from he]at hv;obtain⟨b,_,hv⟩:=hv;exact fin _ false hv (Fx (P:=P) (w:=w) 9999 T (ptr _ hk) (some _)) (gp _ _) rfl rfl
def Q3(P:Program)(T:Nat)(name:String)(f:Nat):Prop:= ∀(v:Value) (w:Go.World),(method (P.types.size+Made.depth) T v name).run P w=.ok (f,v) w
def Oz{P:Program}{ro:Ro}{n:Nat}{ops:Array Oper}{Q:DX->St->Prop}{rest:List Oper}{γ:Fr}{O:Sig}{df:List DDf}{rv:Operand}{name:String}{args:Array Operand}{ats:Array TypeId}{dst:Option Tmp}{ty:TypeId}{pos:String}{after:Array Edge}{guard:Option (Nat×Bool)}{f T:Nat}{d:D}{az:eO}{R:DE->Sig->Prop}
  (hw:AJ ops γ ⟨dst,.call { callee:=.invoke rv name,args,argTypes:=ats },ty,pos,after,guard⟩=some true)
  (hx:ev γ rv=.iface T d) (hM:Q3 P T name f) (h:ar P f az O R) (iL:WkL (d::args.toList.map (ev γ)) az)
  (ho:Ax n ⟨dst,.call { callee:=.invoke rv name,args,argTypes:=ats },ty,pos,after,guard⟩=true)
  (gh:∀d U',R (.ret d) U'->au P ro n ops Q rest ⟨putD dst d γ,U',df⟩)
  (gj:∀d U',R (.panic d) U'->Q (.panic d) ⟨γ,U',df⟩) :
  au P ro n ops Q (⟨dst,.call { callee:=.invoke rv name,args,argTypes:=ats },ty,pos,after,guard⟩::rest) ⟨γ,O,df⟩:=by
 intro g w a r hr hs;unfold wpListIn;rw[AW hs.tmps hw,aG rfl];have hv:=As hs.tmps rv;rw[show ev (St.mk γ O df).γ rv=.iface T d from hx]at hv;obtain⟨x,hv,gP⟩:=hv
 have eW:(resolve a.eval { callee:=.invoke rv name,args,argTypes:=ats } ty).run P w=.ok { target:=.fn (.method name) #[],args:= #[.iface T x]++args.map a.eval } w:=by
  simp only[resolve,hv];rfl
 refine⟨fun f' fC=>?_,?_⟩
 ·simp only[Oper.about,eW,Target.leads]at fC;have h0:(#[Value.iface T x]++args.map a.eval)[0]? = some (.iface T x):=by rw[dy (Nat.zero_lt_one)];rfl
  rw[h0]at fC;simp only[hM x w]at fC;cases fC;exact GK h.lt _
 ·rw[cX _ _ _ (fun c e=>by cases e)]
  have b7:(execOp a.eval ⟨dst,.call { callee:=.invoke rv name,args,argTypes:=ats },ty,pos,after,guard⟩).run P w=.ok (.enter f (#[x]++args.map a.eval)) w:=by
   simp only[execOp,aP,eW,aJ,invoke];have h0:(#[Value.iface T x]++args.map a.eval)[0]? = some (.iface T x):=by rw[dy (Nat.zero_lt_one)];rfl
   have h1:(#[Value.iface T x]++args.map a.eval).extract 1 (#[Value.iface T x]++args.map a.eval).size=args.map a.eval:=by
    apply da;simp;exact ck j1
   simp only[h0,h1,callMethod,program,aP];show(((method (P.types.size+Made.depth) T x name).run P w).andThen fun q w'=>(callFunc q.1 (#[q.2]++args.map a.eval)).run P w')=_;rw[hM x w,aJ];exact h.ent _ w
  rw[b7];refine⟨fun h=>(by cases h),?_⟩;have fW:jE g (d::args.toList.map (ev γ)) (x::args.toList.map a.eval):=⟨x,_,rfl,gP,E4 hs.tmps _⟩;have hc:=Lu r (h.run g w _ hs.sim (iL.rep fW))
  have iK:CallsIn (FX P r) 0 P f (#[x]++args.map a.eval) w (Mi P g R):=by
   have e:(x::args.toList.map a.eval).toArray=#[x]++args.map a.eval:=by apply da;simp
   rw[<-e];exact hc
  refine iK.mono ?_
  rintro e w' ⟨g',y,U',h1,h2,h3,h4⟩
  cases y with
  |ret d=>
   obtain⟨v,rfl,h5⟩:=h3;exact AO h1 _ (gh d U' h4 g' w' _ r (hr.mono h1) (hs.put (o:=⟨dst,.call { callee:=.invoke rv name,args,argTypes:=ats },ty,pos,after,guard⟩) h1 h2 h5 ho))
  |panic d=>
   obtain⟨v,rfl,h5⟩:=h3;exact⟨g',⟨γ,U',df⟩,.panic d,h1,⟨h2,hs.tmps.mono h1,hs.df.mono h1⟩,⟨v,rfl,h5⟩,gj d U' h4⟩
section
variable {P:Program}{ro:Ro}{n:Nat}{Q:DX->St->Prop}{s:St}
theorem Ds{b:Frame}{a:Act}{k:List Item}{cs:List Frame}{w:Go.World}{c:Code}:step P (lone (b.atR a (.code (.scope c)::k)) cs w)=.next (lone (b.atR a (.code c :: .inScope c::k)) cs w):=
 step_lone_go (by simp[stepG,stepG.exec,Frame.atR])
theorem LL{b:Frame}{a:Act}{k:List Item}{cs:List Frame}{w:Go.World}{c:Code}:step P (lone (b.atR a (.inScope c::k)) cs w)=.next (lone (b.atR a k) cs w):=
 step_lone_go (by simp[stepG,stepG.exec,Frame.atR])
theorem Va{c:Code}(h:DWp P ro n c Q s):DWp P ro n (.scope c) Q s:=by
 intro g w a r hr hs;intro b k cs gW hb gc;have h0:(lone (b.atR a (.code (.scope c)::k)) cs w).fenced P (FX P r):=dR hb gc rfl;obtain⟨e,a₁,w₁,⟨g',s',x,l1,l2,l3,l4⟩,eY⟩:=h g w a r hr hs b (.inScope c::k) cs gW hb gc;have hp:kE P g n Q e a₁ w₁:=⟨g',s',x,l1,l2,l3,l4⟩;cases e with
 |normal=>exact⟨.normal,a₁,w₁,hp,.head h0 Ds (dq eY (.one (dR hb gc rfl) LL))⟩
 | exit id =>
  have hx:exitTo id (.inScope c::k)=exitTo id k:=by simp[exitTo]
  exact⟨.exit id,a₁,w₁,hp,fun k' hk=>.head h0 Ds (eY.1 k' (by rw[hx];exact hk)),
   fun gZ hk=>let ⟨k₁,h1,h2⟩:=eY.2 gZ (by rw[hx];exact hk);⟨k₁,h1,.head h0 Ds h2⟩⟩
 |goto l=>cases x<;>first|(cases l3;done)|(obtain⟨v,l3,_⟩:=l3;cases l3)
 |ret=>exact⟨_,a₁,w₁,hp,.of_steps (.one h0 Ds) eY⟩
 |panic ch=>exact⟨_,a₁,w₁,hp,.of_steps (.one h0 Ds) eY⟩
 |outgrown=>exact⟨_,a₁,w₁,hp,.of_steps (.one h0 Ds) eY⟩
end
section
variable {P:Program}{ro:Ro}{n:Nat}{ops:Array Oper}{N:Nat}{S0:Sig}{Q:DX->St->Prop}{df:List DDf}{E:eQ}
theorem Sh(hN:P.funcs.size=N){ord:eQ}{k:Nat}{ol:Oper}(eX:ops.size=k+1)(fF:ops[k]? = some ol)(fv:mixB ops E [] ord=true)(fX:∀i,i<k->i∈ord)(d8:∀i∈ord,i<k)
  (gS:∀i,i<k->reach ops ops.size k i=true) (gD:∀e∈ol.after,Region.binds .any e=true->e.on<k) {g0:G}{rr:Rx} (hr:kh g0 ro rr) :
  ∀(m:Nat) (r:eQ) (listed:Array Bool) (γ:Fr) (O:Sig),r.length=m->listed.size=ops.size->r=ord.filter (fun i=> !listed.getD i true)->listed.getD k true=false->kC ops listed->
   MOps P ro n ops N S0 (ka (fun s=>au P ro n ops Q [ol] s) Q) df E r γ O->Sub S0 O->
   ∀(g:G) (w:World) (a:Act),g0.le g->kI P g n ⟨γ,O,df⟩ a w->wpAnyIn (FX P rr) 0 P .any ops (kE P g0 n Q) (m+1) listed a w:=by
 have fG:∀(r:eQ) (listed:Array Bool),kC ops listed->r=ord.filter (fun i=> !listed.getD i true)->∀i∈Region.ready .any ops listed,i∈r\/(i=k/\r=[]):=by
  intro r listed fe hf i hi;obtain⟨h1,o,ho,hd⟩:=mem_ready.1 hi;have iC:i<k+1:=by rw[<-eX];exact(aI.1 ho).1
  by_cases hk:i=k
  ·subst hk
   right
   refine⟨rfl,?_⟩;rw[hf,cB];intro x hx;have:=CP fe ops.size i x o ho hd (gS x (d8 x hx));rcases ce x listed.size with h|h
   ·simp[h]at this⊢; exact this
   ·simp[cb h]at this
  ·left
   rw[hf,bI];exact⟨fX i j0,by rw[h1];rfl⟩
 intro m
 induction m with
 | zero =>
  intro r listed γ O hl hsz hf go fe h hC g w a hg hs;obtain rfl:r=[]:=bf.1 hl
  have eU:∀x,x<k->listed.getD x true=true:=by
   intro x hx;have:=(cB.1 hf.symm) x (fX x hx);simpa using this
  refine⟨fun he=>?_,fun i hi=>?_⟩
  ·exfalso
   have:k∈Region.ready .any ops listed:=by
    refine mem_ready.2 ⟨go,ol,fF,fun e hm hb=>?_⟩;have h5:=eU _ (gD e hm hb);have fw:e.on<listed.size:=by rw[hsz,eX];have:=gD e hm hb;omega
    simpa[fw] using h5
   rw[he]at this;cases this
  ·obtain rfl:i=k:=by
    rcases fG [] listed fe hf i hi with h|h
    ·cases h
    ·exact h.1
   have h1:au P ro n ops Q [ol] ⟨γ,O,df⟩:=fun g w a r hr hs=>by
    have h':=h g w a r hr hs;obtain⟨g',s',x,k1,k2,k3,k4⟩:=h';cases x with
    |normal=>exact AO k1 _ (k4 g' w a r (hr.mono k1) k2)
    |ret=>cases k3
    |exit _=>cases k3
    |panic _=>obtain⟨v,k3,_⟩:=k3;cases k3
   have h2:=AO hg _ (h1 g w a rr (hr.mono hg) hs);unfold wpOpIn;rw[fF]
   have hz:∀j,j<ops.size->(listed.setIfInBounds i true).getD j true=true:=by
    intro j hj
    by_cases gL:j=i
    ·subst gL;have:j<listed.size:=by rw[hsz];exact hj
     simp[this]
    ·rw[getD_set_ne true (fun e=>gL e.symm)];exact eU j j0
   have gI:Region.ready .any ops (listed.setIfInBounds i true)=[]:=cy.2 fun j hj=>by
    obtain⟨h1,o,ho,_⟩:=mem_ready.1 hj;rw[hz j (aI.1 ho).1]at h1;cases h1
   simp only[wpListIn]at h2;simp only;split
   ·rename_i hw;rw[aG hw]at h2;exact Oper.wpIn_mono (fun a w h=>⟨gI,h⟩) h2
   ·rename_i hw;rw[aE hw]at h2;exact⟨h2.1,gI,h2.2⟩
 | succ m ih =>
  intro r listed γ O hl hsz hf go fe h hC g w a hg hs;obtain⟨y,t,rfl⟩:∃y t,r=y::t:=by cases r with|nil=>cases hl|cons y t=>exact⟨y,t,rfl⟩
  refine⟨fun he=>?_,fun i hi=>?_⟩
  ·exfalso
   obtain⟨l1,l2,fu,iv,hy,iQ⟩:=bQ.1 hf.symm;subst fu;obtain⟨h1,_,_,o,ho,gN,_⟩:=G3 l1 [] fv
   have:y∈Region.ready .any ops listed:=by
    refine mem_ready.2 ⟨by simpa using hy,o,ho,fun e hm hb=>?_⟩;rcases gN e hm hb with h4|h4
    ·have h5:=iv _ h4;simp only[bZ,dm]at h5
     have fw:e.on<listed.size:=by
      have:=d8 e.on (by simp[h4]);rw[hsz,eX];omega
     simpa[fw] using h5
    ·cases h4
   rw[he]at this;cases this
  ·have iA:i∈y::t:=by
    rcases fG _ listed fe hf i hi with h|h
    ·exact h
    ·exact absurd h.2 j1
   obtain⟨pre,post,fo⟩:=bM iA;rw[fo]at hf h hl;obtain⟨l1',l2',fu,gw,iI⟩:=cG.1 hf.symm;obtain⟨m1,m2,gq,ip,iU,iH⟩:=bQ.1 iI;have fb:ord=(l1'++m1)++i::m2:=by rw[fu,gq];simp
   have iC:i<k:=d8 i (by rw[fb];simp);rw[fb]at fv;obtain⟨n1,_,n3,o,ho,gN,hx⟩:=G3 (l1'++m1) [] fv;obtain⟨iz,o',gH,eU⟩:=mem_ready.1 hi;obtain rfl:o'=o:=by rw[ho]at gH;cases gH;rfl
   have fy:=Ia ho post pre γ O (fun x gC=>by
    have gQ:x∈l1'++m1:=by
     have:x∈l1'.filter (fun i=> !listed.getD i true):=by rw[gw];exact gC
     simp[(bI.1 this).1]
    have gB:listed.getD x true=false:=by
     have:x∈l1'.filter (fun i=> !listed.getD i true):=by rw[gw];exact gC
     simpa using(bI.1 this).2
    rcases hx x gQ with h4|h4
    ·exfalso
     have:=CP fe ops.size i x o' ho eU h4
     rcases ce x listed.size with d8|d8
     ·simp[d8]at this gB;rw[gB]at this;cases this
     ·simp[cb d8]at this
    ·exact h4) h
   have fk:pre++post=ord.filter (fun j=> !(listed.setIfInBounds i true).getD j true):=by
    have iB:i<listed.size:=by
     rw[hsz];exact(aI.1 ho).1
    rw[fb,bV,cw];have e1:(listed.setIfInBounds i true).getD i true=true:=by simp[iB]
    rw[e1,Av n1,Av n3];simp only[cr,bm,bc,bV,gw,iH];rw[cB.2 (fun x hx=>by simpa using ip x hx),bl]
   have hlen:(pre++post).length=m:=by simp at hl⊢; omega
   have fH:(listed.setIfInBounds i true).getD k true=false:=by rw[getD_set_ne true (show i≠k by omega)];exact go
   obtain⟨o2,gG,hh⟩:=fy;obtain rfl:o2=o':=by rw[ho]at gG;cases gG;rfl
   unfold wpOpIn;simp only[ho];rcases hh with⟨d,hy,hM⟩|⟨_,hE⟩
   ·exact Ez (Q:=Q) hN (hr.mono hg) hg hs hC hy fun g' w' a' gv eZ=>ih _ _ _ _ hlen (by simpa using hsz) fk fH (fe.set hi) hM hC g' w' a' (hg.trans gv) eZ
   ·exact Cs (Q:=Q) (hr.mono hg) hg hs hE (fun g' w' a' d U' gv hR eZ=>ih _ _ _ _ hlen (by simpa using hsz) fk fH (fe.set hi) hR.2 hR.1 g' w' a' (hg.trans gv) eZ) fun d U' hp=>hp
def Jx(ops:Array Oper)(E ord:eQ):Bool:=mixB ops E [] ord&&(List.range (ops.size-1)).all ord.contains&&(ord.length==ops.size-1)&&ord.all (fun i=>decide (i<ops.size-1))&&(match ops[ops.size-1]? with
 |some o=>(List.range (ops.size-1)).all (fun i=>reach ops ops.size (ops.size-1) i)&&o.after.all (fun e=> !Region.binds .any e||decide (e.on<ops.size-1))
 |none=>false)
theorem PH(hN:P.funcs.size=N)(hm:P.follows .mixedOrders=true){l:List Oper}{id:Nat}{γ:Fr}{O:Sig}(ord E:eQ)(S0:Sig){ol:Oper}(hB:Jx l.toArray E ord=true)(hl:nthO l (l.length-1)=some ol)(hC:Sub S0 O)
  {lp:List (Bool×Oper)} (iq:GZ l E ord=some lp) (h:MO P ro n l.toArray N S0 (ka (fun s=>au P ro n l.toArray Q [ol] s) Q) df lp γ O):DWp P ro n (.region id l.toArray true) Q ⟨γ,O,df⟩:=by
 intro g w a r hr hs;refine wpIn_region_any hm ?_;rw[I9]at hl;have hne:l.length≠0:=fun e=>by have:l=[]:=bf.1 e;subst this;cases hl
 unfold Jx at hB;simp only[aF,cR]at hB;obtain⟨⟨⟨⟨b1,b2⟩,b3⟩,b4⟩,b5⟩:=hB;have eX:l.toArray.size=(l.toArray.size-1)+1:=by simp;omega
 have fF:l.toArray[l.toArray.size-1]? = some ol:=by simpa using hl
 rw[fF]at b5;simp only[aF]at b5;have d8:∀i∈ord,i<l.toArray.size-1:=fun i hi=>by simpa using aW.1 b4 i hi
 have eZ:kI P g n ⟨γ,O,df⟩ a { w with drawn:=w.drawn+1 }:=
  ⟨⟨fun b o v h=>hs.sim.imm b o v h,hs.sim.keep,fun i o h=>by
   have:=hs.sim.obj i o h
   cases o<;>exact this,hs.sim.inj,hs.sim.free,hs.sim.htop,hs.sim.hdom,hs.sim.fin,hs.sim.io,hs.sim.tab⟩,hs.tmps,hs.df⟩
 have fe:kC l.toArray (Array.replicate l.toArray.size false):=by
  intro q o _ hq;rcases ce q l.length with h'|h'
  ·simp[h']at hq
  ·simp[h']at hq
 have ij:=Gs (P:=P) (ro:=ro) (n:=n) (N:=N) (S0:=S0) (Q:=ka (fun s=>au P ro n l.toArray Q [ol] s) Q) (df:=df) (ops:=l.toArray) (E:=E) (ord:=ord) (fun i hi=>by have:=d8 i hi;omega) (by rw[Jn iq];exact h)
 have:=Sh (P:=P) hN (ops:=l.toArray) (k:=l.toArray.size-1) eX fF b1 (fun i hi=>by simpa using aW.1 b2 i (by simpa using hi)) d8
  (fun i hi=>aW.1 b5.1 i (dF.2 hi))
  (fun e he hb=>by
   have:=bW.1 b5.2 e he
   simpa[hb] using this)
  hr ord.length ord (Array.replicate l.toArray.size false) γ O rfl j1 (D4 (fun i hi=>by have:=d8 i hi;omega)).symm (by
   have:l.toArray.size-1<l.toArray.size:=by omega
   rw[cK]
   simp only[Array.getElem?_replicate,this,bu];rfl) fe ij hC g _ a (.refl g) eZ
 rw[b3,<-eX]at this;exact this
end
def IN{g:G}{d d':D}(h:∀v,Rep g d v->Rep g d' v): ∀{az bs:eO}{vs:List Value},jE g (az++d::bs) vs->jE g (az++d'::bs) vs
 |[],_,_,⟨v,r,e,h1,h2⟩=>⟨v,r,e,h v h1,h2⟩
 |_::_,_,_,⟨v,r,e,h1,h2⟩=>⟨v,r,e,h1,IN h h2⟩
section
variable {P:Program}{n:Nat}{γ:List (Nat×D)}{O:Sig}{df:List DDf}
theorem GU{i:Nat}{az bs:eO}{d d':D}(hi:O i=some (.cells (az++d::bs)))(h:WkD d d'):Wk P n ⟨γ,O,df⟩ ⟨γ,O.set i (.cells (az++d'::bs)),df⟩:=
 fun g _ _ hs=>⟨g,.refl g,⟨hs.sim.retell hi fun _=>IN (h g),hs.tmps,hs.df⟩⟩
theorem O1{i sz:Nat}{st:MR}{es:eR}{az bs:eO}(hm:mOK O sz st es)(hi:O i=some (.cells (az++mD st es.length::bs))):Wk P n ⟨γ,mS O st es,df⟩ ⟨γ,O.set i (.cells (az ++ .slice es .no::bs)),df⟩:=by
 cases st with
 |none=>
  obtain rfl:es=[]:=hm;exact GU hi (Ak _ (.inl rfl))
 |some x=>
  obtain⟨j,cap,rest⟩:=x;obtain⟨m1,m2,m3,m4⟩:=hm;have fg:i≠j:=fun h=>by rw[h,m1]at hi;cases hi
  intro g w a hs;obtain⟨b,_,_,hb,_,_⟩:=hs.sim.obj j _ (w6 O j _);obtain⟨g',c9,eZ,gg⟩:=hs.sim.freeze (i:=j) (w6 O j _) hb;have hZ:(mS O (some (j,cap,rest)) es).del j=O:=Sig.set_del _ _ m1;simp only at eZ;rw[hZ]at eZ;refine⟨g',c9,⟨eZ.retell hi fun vs=>IN fun v hv=>?_,hs.tmps.mono c9,hs.df.mono c9⟩⟩;obtain⟨b',b8,hv⟩:=hv;obtain rfl:b'=b:=by have:=c9.rho _ _ hb;rw[this]at b8;cases b8;rfl
  exact⟨_,cap,hv,m3,.inr ⟨sz,b',0,rfl,ET m4 gg⟩,trivial⟩
theorem WkL.repI{g:G}{b:Nat}: ∀{az bs:eO}{o:Nat},WkL az bs->ju g b o az->ju g b o bs
 |[],[],_,_,h=>h
 |_::_,_::_,_,⟨h1,h2⟩,⟨⟨v,h3,h4⟩,h5⟩=>⟨⟨v,h3,h1 g v h4⟩,WkL.repI h2 h5⟩
 |[],_::_,_,h,_=>h.elim
 |_::_,[],_,h,_=>h.elim
def WkE:eR->eR->Prop
 |[],[]=>True
 |a::az,b::bs=>WkL a b/\WkE az bs
 |_,_=>False
theorem WkE.len: ∀{az bs:eR},WkE az bs->az.length=bs.length
 |[],[],_=>rfl
 |a::az,b::bs,h=>by simp[WkE.len h.2]
 |[],_::_,h=>h.elim
 |_::_,[],h=>h.elim
theorem WkE.rep{g:G}{b sz:Nat}: ∀{az bs:eR}{o:Nat},WkE az bs->jn g b sz o az->jn g b sz o bs
 |[],[],_,_,h=>h
 |_::_,_::_,_,⟨h1,h2⟩,⟨⟨h3,h4⟩,h5⟩=>⟨⟨by rw[<-h1.len];exact h3,h1.repI h4⟩,WkE.rep h2 h5⟩
 |[],_::_,_,h,_=>h.elim
 |_::_,[],_,h,_=>h.elim
theorem Kv{es es':eR}(o:Own)(h:WkE es es'):WkD (.slice es o) (.slice es' .no):=by
 rintro g v ⟨a,cap,h1,h2,h3,_⟩
 refine⟨a,cap,by rw[<-h.len];exact h1,by rw[<-h.len];exact h2,?_,trivial⟩;rcases h3 with rfl|⟨sz,b,o,ha,hr⟩
 ·exact .inl (List.length_eq_zero_iff.mp h.len.symm)
 ·exact .inr ⟨sz,b,o,ha,h.rep hr⟩
theorem Ej{es es':eR}(o:Own)(h:WkE es es'):WkD (.slice es o) (.slice es' o):=by
 rintro g v ⟨a,cap,h1,h2,h3,h4⟩
 refine⟨a,cap,by rw[<-h.len];exact h1,by rw[<-h.len];exact h2,?_,by cases o<;>(try exact h4)<;>rw[<-h.len]<;>exact h4⟩;rcases h3 with rfl|⟨sz,b,o,ha,hr⟩
 ·exact .inl (List.length_eq_zero_iff.mp h.len.symm)
 ·exact .inr ⟨sz,b,o,ha,h.rep hr⟩
theorem Ml: ∀ds:eO,WkL ds ds
 |[]=>trivial
 |d::ds=>⟨Ac d,Ml ds⟩
theorem ON: ∀es:eR,WkE es es
 |[]=>trivial
 |e::es=>⟨Ml e,ON es⟩
theorem WkE.app: ∀{az bs cs ds:eR},WkE az bs->WkE cs ds->WkE (az++cs) (bs++ds)
 |[],[],_,_,_,h=>h
 |_::_,_::_,_,_,⟨h1,h2⟩,h=>⟨h1,WkE.app h2 h⟩
 |[],_::_,_,_,h,_=>h.elim
 |_::_,[],_,_,h,_=>h.elim
end
def XR{O:Sig}{sz:Nat}{st:MR}{es:eR}{j:Nat}{o:jP}(hm:mOK O sz st es)(hj:mS O st es j=none):(mS O st es).set j o=mS (O.set j o) st es/\mOK (O.set j o) sz st es:=by
 cases st with
 |none=>exact⟨rfl,hm⟩
 | some x =>
  obtain⟨i,cap,rest⟩:=x
  have fg:j≠i:=fun h=>by
   subst h;simp only[mS,w6]at hj;cases hj
  obtain⟨m1,m2,m3,m4⟩:=hm;refine⟨?_,j2 (cg fg) m1,m2,m3,m4⟩
  funext k
  simp only[mS,Sig.set]
  by_cases h1:k=j
  ·subst h1;rw[aG rfl,aE fg,aG rfl]
  ·by_cases h2:k=i
   ·subst h2;rw[aE h1,aG rfl,aG rfl]
   ·rw[aE h1,aE h2,aE h2,aE h1]
def SE{O:Sig}{sz:Nat}{st:MR}{es:eR}{j:Nat}{o:jP}(hm:mOK O sz st es)(hj:O j=some o):mS O st es j=some o:=by
 cases st with
 |none=>exact hj
 |some x=>
  obtain⟨i,cap,rest⟩:=x;have fg:j≠i:=fun h=>by rw[h,hm.1]at hj;cases hj
  simp only[mS];rw[w7 _ _ fg];exact hj
def SD{O:Sig}{st:MR}{es:eR}{j:Nat}(hj:mS O st es j=none):O j=none:=by
 cases st with
 |none=>exact hj
 |some x=>
  obtain⟨i,cap,rest⟩:=x;simp only[mS,Sig.set]at hj
  by_cases h:j=i
  ·rw[aG h]at hj;cases hj
  ·rw[aE h]at hj;exact hj
def mS_put{O:Sig}{sz:Nat}{st:MR}{es:eR}{j:Nat}{o x:jP}(hm:mOK O sz st es)(hj:O j=some x):(mS O st es).set j o=mS (O.set j o) st es/\mOK (O.set j o) sz st es:=by
 cases st with
 |none=>exact⟨rfl,hm⟩
 | some y =>
  obtain⟨i,cap,rest⟩:=y;obtain⟨m1,m2,m3,m4⟩:=hm;have fg:j≠i:=fun h=>by rw[h,m1]at hj;cases hj
  refine⟨?_,j2 (cg fg) m1,m2,m3,m4⟩
  funext k
  simp only[mS,Sig.set]
  by_cases h1:k=j
  ·subst h1;rw[aG rfl,aE fg,aG rfl]
  ·by_cases h2:k=i
   ·subst h2;rw[aE h1,aG rfl,aG rfl]
   ·rw[aE h1,aE h2,aE h2,aE h1]
section
variable {P:Program}{tab:Nat->Ty}{ro:Ro}{n:Nat}{ops:Array Oper}{Q:DX->St->Prop}{γ:List (Nat×D)}{O:Sig}{df:List DDf}{rest:List Oper}{t:Nat}{ty:TypeId}{pos:String}{after:Array Edge}
theorem OA(ht:AZ P tab){T len e:Nat}(d6:t<n)(hk:(tab T).k=.array len e)(he:A2 (tab e).k=false)
  (h:au P ro n ops Q rest ⟨(t,.agg (tab T).zero)::γ,O,df⟩):au P ro n ops Q (⟨some t,.build T #[],ty,pos,after,none⟩::rest) ⟨γ,O,df⟩:=by
 refine Ct (fun d U'=>d=.agg (tab T).zero/\U'=O) rfl (fun c e=>by cases e) (Ag fun c e=>by cases e) (by simp[Ax,d6]) ?_ (fun d U' ⟨a,b⟩=>by subst a b;exact h);intro g w a hs _;obtain⟨inf,desc,z,h1,h2,h3,h4,h5,h6,h7,h8,h9,iZ⟩:=Cx (ht T) (by rw[hk];simp);obtain⟨inf',_,_,g1,_⟩:=Cx (ht e) (Ai he)
 have hz:jE g (tab T).zero z.cells.toList:=by
  rw[h9]
  exact AP j1 fun j x v e1 e2=>by
   rw[bA,e2]at e1;cases e1;exact Eo g v
 have hb:P.built T []=some z.cells:=by
  unfold Program.built;rw[h1,Hd ht hk];simp only[h7,g1];rfl
 refine⟨g,w,.agg z.cells,.agg (tab T).zero,O,?_,.refl g,hs,⟨z.cells.toList,j1,hz⟩,rfl,rfl⟩;have:=run_build (P:=P) w T #[] z.cells hb;simp only[execOp,Array.map_empty,aP,this,aJ];rfl
end
section
variable {P:Program}{ro:Ro}{n:Nat}{ops:Array Oper}{Q:DX->St->Prop}{rest:List Oper}{tab:Nat->Ty}{γ:List (Nat×D)}{O:Sig}{df:List DDf}
def SrcOK(P:Program)(O:Sig)(d:D)(m:Nat)(cs:eO):Prop:=
 ∀g w v,Sim P g O w->Rep g d v->∃a cap us,v=.slice a m cap/\jE g cs us/\us.length=m/\(m=0 \/ ∃b o,a=some ⟨b,o,none⟩ /\ ∀j v,us[j]? = some v->w.cell? ⟨b,o+j,none⟩=some v)
theorem VY{i off m cap:Nat}{ds:eO}(hi:O i=some (.cells ds))(h:off+m<=ds.length):SrcOK P O (.am i off m cap) m ((ds.drop off).take m):=by
 intro g w v hs hr;obtain⟨b,hb,rfl⟩:=hr;obtain⟨b',vs,ty,b8,b6,hr⟩:=hs.obj i _ hi;obtain rfl:b'=b:=by rw[hb]at b8;cases b8;rfl
 have hlen:=jE.length hr;simp only[bB]at hlen;refine⟨_,_,(vs.toList.drop off).take m,rfl,AP (by simp;omega) fun j d v h1 h2=>?_,by simp;omega,.inr ⟨b',off,rfl,fun j v hj=>?_⟩⟩
 ·have hj:j<m:=by have:=(aV.1 h1).1;simp at this;omega
  rw[cC hj,cm]at h1 h2;have:=jE.get hr (off+j);rw[h1,h2]at this;exact this
 ·have gr:j<m:=by have:=(aV.1 hj).1;simp at this;omega
  rw[cC gr,cm,bO]at hj;simp[World.cell?, b6,hj]
theorem RJ{d:D}{es:eR}(h:k8 d=some es)(hl:∀c∈es,c.length=1):SrcOK P O d es.length es.flatten:=by
 intro g w v hs hr;obtain⟨xa,xc,q1,q2,q3⟩:=CL h hr;obtain⟨news,v1,v2,v3⟩:=Cy hs hl q3;exact⟨xa,xc,news,q1,v1,j0,v3⟩
variable (ht:AZ P tab)
include ht
theorem Lp{t T T' ty e i off len cap m:Nat}{s x:Operand}{pos:String}{after:Array Edge}{ds cs:eO}
  (d6:t<n) (hk:(tab T).k=.slice e) (he:A2 (tab e).k=false) (hsz:(tab e).size=1) (h1:ev γ s=.am i off len cap) (hi:O i=some (.cells ds)) (hlen:off+len<=ds.length)
  (h2:SrcOK P O (ev γ x) m cs) (f9:C6 cs=true)
  (h:au P ro n ops Q rest ⟨(t,.int .i64 ((min m len:Nat):Int))::γ,O.set i (.cells (ds.take off++(cs.take (min m len)++ds.drop (off+min m len)))),df⟩) :
  au P ro n ops Q (⟨some t,.call { callee:=.builtin .copy,args:= #[s,x],argTypes:= #[T,T'] },ty,pos,after,none⟩::rest) ⟨γ,O,df⟩:=by
 refine Ct (fun d U'=>d=.int .i64 ((min m len:Nat):Int)/\U'=O.set i (.cells (ds.take off++(cs.take (min m len)++ds.drop (off+min m len))))) rfl (fun c e=>by cases e) (Bl rfl rfl) (by simp[Ax,d6]) ?_
  (fun d U' ⟨a2,a3⟩=>by subst a2 a3;exact h)
 intro g w a hs hT;have fa:=As hT s;have fA:=As hT x;rw[h1]at fa;obtain⟨b,hb,fa⟩:=fa;obtain⟨xa,xc,us,hx,hr,iO,fR⟩:=h2 g w _ hs fA;obtain⟨b2,vs,ty',fV,b6,gF⟩:=hs.obj i _ hi;obtain rfl:b2=b:=by rw[hb]at fV;cases fV;rfl
 have fZ:=jE.length gF;simp only[bB]at fZ;have fe:=jE.length hr;obtain⟨inf,z,t1,t2,t3,t4,t5,t6,t7⟩:=Bx ht hk hk he;have hu:P.underlying T=some (.slice e):=t1;have hq:(P.info? e).map (·.size)=some 1:=by rw[t3];simp[t5,hsz]
 have iV:goInt ((min m len:Nat):Int)=.int .i64 ((min m len:Nat):Int):=rfl
 have b7 : ∃ w',(Builtin.copy_ #[T,T'] ty #[a.eval s,a.eval x]).run P w = .ok (goInt ((min m len:Nat):Int)) w'/\Sim P g (O.set i (.cells (ds.take off++(cs.take (min m len)++ds.drop (off+min m len))))) w':=by
  rw[fa,hx]
  by_cases h0:min m len=0
  ·refine⟨w,?_,?_⟩
   ·rw[h0];exact run_copy_none w T T' ty e _ _ len cap m xc hu hq (by show min m len=0;exact h0)
   ·rw[h0];simp only[List.take_zero,bG,dM,cf];rw[show O.set i (.cells ds)=O from funext fun j=>by by_cases hj:j=i<;>simp[Sig.set,hj,hi]];exact hs
  ·obtain⟨b3,o3,rfl,iJ⟩:=fR.resolve_left j0;have fm:(us.take (min m len)).length=min m len:=by simp;omega
   have hne:us.take (min m len)≠[]:=fun e=>by rw[e]at fm;simp at fm;omega
   have hl:=run_loadCells_list (P:=P) w ⟨b3,o3,none⟩ (us.take (min m len)) (fun j v hj=>by
    rw[BQ]
    have gr:j<min m len:=by have:=(aV.1 hj).1;simp at this;omega
    rw[cC gr]at hj
    exact iJ j v hj)
   have fO:=Dw hr f9;have fj:=BS (P:=P) (us.take (min m len)) 0 w vs b6 (fun v hv=>fO v (List.mem_of_mem_take hv)) (o:=off) (by rw[fm];omega);rw[aE hne]at fj;refine⟨_,?_,hs.setObj (ty:=ty') (vs':=Bt vs (off+0) (us.take (min m len))) hi hb ?_ ⟨vs,b6⟩⟩
   ·have iD:inf.size=1:=by omega
    have gn:Nat.min m len=min m len:=rfl;simp only[Builtin.copy_];simp[j4 hu,Builtin.lenOf,Builtin.firstCells,sizeOf,typeInfo,t3,iD,gn,hl,fj,fm];rw[fm]at hl;simp[hl,fj]
   ·refine AP (by simp only[aC,cF,cn,bB,D2];omega) fun j d v h1 h2=>?_
    have d5:(Bt vs (off+0) (us.take (min m len)))[j]? = some v:=by simpa using h2
    rw[Dp _ _ _ _ (by rw[fm];omega),fm]at d5;have hg:=jE.get gF j;rw[cz]at h1;simp only[cF]at h1
    by_cases c1:j<off
    ·rw[aE j0]at d5;rw[aG j0,cC c1]at h1;rw[h1]at hg;simp only[bO,d5,ba]at hg;exact hg
    ·rw[aE j0,cz]at h1;simp only[cF]at h1;have eo:min off ds.length=off:=by omega
     rw[eo]at h1
     by_cases c2:j-off<min m len
     ·rw[aG j0,cC j0]at d5;rw[aG j0,cC j0]at h1;have:=jE.get hr (j-off);rw[h1,show j-off=j-(off+0) by omega,d5]at this;exact this
     ·rw[aE j0]at d5;rw[aE j0,cm,show off+min m len+(j-off-min (min m len) cs.length)=j by omega]at h1;rw[h1]at hg;simp only[bO,d5,ba]at hg;exact hg
 obtain⟨w',b7,fp⟩:=b7;refine⟨g,w',goInt ((min m len:Nat):Int),.int .i64 ((min m len:Nat):Int),_,?_,.refl g,fp,rfl,rfl,rfl⟩;simp[execOp,resolve,invoke,builtin,b7]
omit ht in
theorem LQ{g:G}{i b off len cap:Nat}(h:g.rho i=some b):Rep g (.am i off len cap) (.slice (some ⟨b,off,none⟩) len cap):=⟨b,h,rfl⟩
theorem P0{g:G}{w:World}{T e i off len cap:Nat}{k:IntKind}{v u:Value}{lo:Nat}(hk:(tab T).k=.slice e)(he:A2 (tab e).k=false)(hv:Rep g (.am i off len cap) v)(hu:Rep g (.int k lo) u)(gJ:lo<=len)(gK:lo<cap):
  ∃r,(Instr.sliceAt T v (some u) none none).run P w=.ok r w/\Rep g (.am i (off+lo*(tab e).size) (len-lo) (cap-lo)) r:=by
 obtain⟨b,hb,rfl⟩:=hv;obtain rfl:=Bo hu;refine⟨_,?_,LQ (len:=len-lo) (cap:=cap-lo) (off:=off+lo*(tab e).size) hb⟩;have hu:=AR ht hk;have c1:(0:Int)<=(lo:Int):=by omega
 have c2:(lo:Int)<=(len:Int):=by omega
 have c3:¬cap=lo:=by omega
 simp only[bx,Instr.sliceAt,Instr.slice,Instr.sliceBounds,Instr.sliceBound,asIntOf,aP,bi,aJ,j4 hu,c1,c2,dt,bu,AK (ht e) (Ai he),bF,c3,bc,BQ]
theorem P1{g:G}{w:World}{T e i off len cap:Nat}{k:IntKind}{v u:Value}{hi:Nat}(hk:(tab T).k=.slice e)(he:A2 (tab e).k=false)(hv:Rep g (.am i off len cap) v)(hu:Rep g (.int k hi) u)(fM:hi<=cap):
  ∃r,(Instr.sliceAt T v none (some u) none).run P w=.ok r w/\Rep g (.am i off hi cap) r:=by
 obtain⟨b,hb,rfl⟩:=hv;obtain rfl:=Bo hu;refine⟨_,?_,LQ (len:=hi) (cap:=cap) (off:=off) hb⟩;have hu:=AR ht hk;have c1:(0:Int)<=(hi:Int):=by omega
 have c2:(hi:Int)<=(cap:Int):=by omega
 simp only[Instr.sliceAt,Instr.slice,Instr.sliceBounds,Instr.sliceBound,asIntOf,aP,bi,aJ,j4 hu,c1,c2,dt,bu,AK (ht e) (Ai he),bF,dA,eu]
 congr 1
 split<;>simp[Addr.add]
variable {N:Nat}{S0:Sig}
theorem mo_cutL{t T ty e i off len cap:Nat}{k:IntKind}{x y:Operand}{lo:Nat}{pos:String}{after:Array Edge}{f:Bool}{l:List (Bool×Oper)}
  (h:MO P ro n ops N S0 Q df l ((t,.am i (off+lo*(tab e).size) (len-lo) (cap-lo))::γ) O)
  (d6:t<n) (hk:(tab T).k=.slice e) (he:A2 (tab e).k=false) (h1:ev γ x=.am i off len cap) (h2:ev γ y=.int k lo) (gJ:lo<=len) (gK:lo<cap) :
  MO P ro n ops N S0 Q df ((f,⟨some t,.slice T x (some y) none none,ty,pos,after,none⟩)::l) γ O:=by
 refine .inl ⟨_,⟨by simp[Ax,d6],.inl ⟨rfl,(fun c e=>by cases e),Ag (fun c e=>by cases e),fun U' hZ g w a hs hT=>?_⟩⟩,h⟩;have hx:=As hT x;have hy:=As hT y;rw[Bf (o:=⟨some t,.slice T x (some y) none none,ty,pos,after,none⟩) (by simp[Op.operands]),h1]at hx;rw[Bf (o:=⟨some t,.slice T x (some y) none none,ty,pos,after,none⟩) (by simp[Op.operands]),h2]at hy;obtain⟨r,h3,h4⟩:=P0 (w:=w) ht hk he hx hy gJ gK;exact⟨g,w,r,by simp only[execOp,bx,cZ,aP,h3,aJ,bi],.refl g,hs,h4⟩
theorem Om{t T ty e i off len cap:Nat}{k:IntKind}{x y:Operand}{hi:Nat}{pos:String}{after:Array Edge}{f:Bool}{l:List (Bool×Oper)}
  (h:MO P ro n ops N S0 Q df l ((t,.am i off hi cap)::γ) O)
  (d6:t<n) (hk:(tab T).k=.slice e) (he:A2 (tab e).k=false) (h1:ev γ x=.am i off len cap) (h2:ev γ y=.int k hi) (fM:hi<=cap) :
  MO P ro n ops N S0 Q df ((f,⟨some t,.slice T x none (some y) none,ty,pos,after,none⟩)::l) γ O:=by
 refine .inl ⟨_,⟨by simp[Ax,d6],.inl ⟨rfl,(fun c e=>by cases e),Ag (fun c e=>by cases e),fun U' hZ g w a hs hT=>?_⟩⟩,h⟩;have hx:=As hT x;have hy:=As hT y;rw[Bf (o:=⟨some t,.slice T x none (some y) none,ty,pos,after,none⟩) (by simp[Op.operands]),h1]at hx;rw[Bf (o:=⟨some t,.slice T x none (some y) none,ty,pos,after,none⟩) (by simp[Op.operands]),h2]at hy;obtain⟨r,h3,h4⟩:=P1 (w:=w) ht hk he hx hy fM;exact⟨g,w,r,by simp only[execOp,bx,cZ,aP,h3,aJ,bi],.refl g,hs,h4⟩
omit ht in
end
inductive RW where
 |nil
 |full (es:eR)
 |row (i cap:Nat) (rest:eO)
def RW.d:RW->Nat->D
 |.nil,_=>.aj
 |.full es,_=>.slice es .clip
 |.row i cap _,n=>.am i 0 n cap
def RW.is:RW->Nat->Prop
 |.row i _ _,j=>j=i
 |_,_=>False
def jN(O:Sig)(sz:Nat):RW->eR->Prop
 |.row i cap rest,es=>O i=some (.cells (es.flatten++rest))/\cap*sz<=(es.flatten++rest).length/\es.length<=cap /\ ∀e∈es,e.length=sz
 |.full es0,es=>es=es0 /\ ∀e∈es,e.length=sz
 |.nil,es=>es=[]
def IK(P:Program)(O:Sig)(sz:Nat)(d:D)(new:eR):Prop:= ∀g w v,Sim P g O w->Rep g d v->∃xa xc,v=.slice xa new.length xc/\new.length<=xc /\ ∃us,jE g new.flatten us/\us.length=new.length*sz/\(new.length=0 \/ ∃b o,xa=some ⟨b,o,none⟩ /\ ∀j v,us[j]? = some v->w.cell? ⟨b,o+j,none⟩=some v)
def jN.len{O:Sig}{sz:Nat}{r:RW}{es:eR}(h:jN O sz r es): ∀e∈es,e.length=sz:=by
 cases r with
 |row i cap rest=>exact h.2.2.2
 |nil=>obtain rfl:es=[]:=h;simp
 |full es0=>exact h.2
def jN.keep{O U':Sig}{sz:Nat}{r:RW}{es:eR}(h:jN O sz r es)(hk:∀j o,O j=some o->r.is j->U' j=some o):jN U' sz r es:=by
 cases r with
 |row i cap rest=>exact⟨hk _ _ h.1 rfl,h.2⟩
 |nil=>exact h
 |full es0=>exact h
def jN.cells{O:Sig}{sz:Nat}{r:RW}{es:eR}(h:jN O sz r es){j:Nat}(hj:r.is j): ∃cs,O j=some (.cells cs):=by
 cases r with
 |row i cap rest=>cases hj;exact⟨_,h.1⟩
 |nil=>exact hj.elim
 |full es0=>exact hj.elim
section
variable {P:Program}{O:Sig}{sz:Nat}
theorem GL{d:D}{new:eR}(h:k8 d=some new)(hl:∀c∈new,c.length=sz):IK P O sz d new:=fun g w v hs hr=>by
 obtain⟨xa,xc,q1,q2,q3⟩:=CL h hr;exact⟨xa,xc,q1,q2,Cy hs hl q3⟩
theorem I3{i off cap:Nat}{pre rest:eO}{es:eR}(hi:O i=some (.cells (pre++(es.flatten++rest))))(hp:pre.length=off)(hl:∀c∈es,c.length=sz)(hc:es.length<=cap):IK P O sz (.am i off es.length cap) es:=fun g w v hs hr=>by
 obtain⟨b,hb,rfl⟩:=hr;obtain⟨b',vs,ty,b8,b6,hr⟩:=hs.obj i _ hi;obtain rfl:b'=b:=by rw[hb]at b8;cases b8;rfl
 obtain⟨u0,v0,e1,e2,e3⟩:=hr.split;obtain⟨u,v',f1,f2,f3⟩:=e3.split;refine⟨_,cap,rfl,hc,u,f2,by rw[jE.length f2,Aj hl],.inr ⟨b',off,rfl,fun j x hx=>?_⟩⟩;have hj:j<u.length:=(aV.1 hx).1;simp only[World.cell?, b6]
 have:vs.toList[off+j]? = some x:=by
  rw[e1,bK (by rw[jE.length e2,hp];omega),jE.length e2,hp,Nat.add_sub_cancel_left,f1,bj hj];exact hx
 simpa using this
theorem jN.src{r:RW}{es:eR}(h:jN O sz r es):IK P O sz (r.d es.length) es:=by
 cases r with
 |row i cap rest=>exact I3 (pre:=[]) h.1 rfl h.2.2.2 h.2.2.1
 |nil=>obtain rfl:es=[]:=h;exact GL rfl j1
 |full es0=>obtain⟨rfl,h⟩:=h;exact GL rfl h
end
section
variable {P:Program}{ro:Ro}{n:Nat}{ops:Array Oper}{Q:DX->St->Prop}{rest:List Oper}{tab:Nat->Ty}{γ:List (Nat×D)}{O:Sig}{df:List DDf}
variable (ht:AZ P tab)
include ht
theorem F9{t T T' ty e e' sz:Nat}{s x:Operand}{pos:String}{after:Array Edge}{es new:eR}{r:RW}
  (d6:t<n) (hk:(tab T).k=.slice e) (iy:(tab T').k=.slice e') (he:A2 (tab e).k=false) (hsz:(tab e).size=sz) (h1:ev γ s=r.d es.length) (hm:jN O sz r es) (h2:IK P O sz (ev γ x) new)
  (hlen':∀c∈new,c.length=sz) (fO:∀c∈new,C6 c=true)
  (hb:(es.length+new.length)*(tab e).bytes<=140737488355328) (hm2:es.length+new.length<=9223372036854775807)
  (h:∀r' U',jN U' sz r' (es++new)->(∀j o,O j=some o->¬r.is j->U' j=some o /\ ¬r'.is j)->(new=[]/\r'=r \/ ∃i c rest,r'=.row i c rest)->au P ro n ops Q rest ⟨(t,r'.d (es.length+new.length))::γ,U',df⟩) :
  au P ro n ops Q (⟨some t,(cA s x T T'),ty,pos,after,none⟩::rest) ⟨γ,O,df⟩:=by
 subst hsz
 refine Ct (fun d U'=> ∃r',jN U' (tab e).size r' (es++new)/\(∀j o,O j=some o->¬r.is j->U' j=some o /\ ¬r'.is j)/\(new=[]/\r'=r \/ ∃i c rest,r'=.row i c rest)/\d=r'.d (es.length+new.length)) rfl (fun c e=>by cases e) (Bl rfl rfl) (by simp[Ax,d6]) ?_
  (fun d U' ⟨r',a1,a2,a4,a3⟩=>by subst a3;exact h r' U' a1 a2 a4)
 intro g w a hs hT;have fa:=As hT s;have fA:=As hT x;rw[h1]at fa;obtain⟨base,cap,r1,r2,us,r3,r4,r5⟩:=hm.src g w _ hs fa;obtain⟨xa,xc,q1,q2,news,v1,v2,v3⟩:=h2 g w _ hs fA;obtain⟨inf,z,t1,t2,t3,t4,t5,t6,t7⟩:=Bx ht hk iy he;have fI:=hm.len;have fc:∀c∈es++new,c.length=(tab e).size:=fun c hc=>(bJ.1 hc).elim (fI c) (hlen' c)
 by_cases fi:new=[]
 ·subst fi;have ii:news=[]:=bf.1 (by rw[v2];simp);refine⟨g,w,a.eval s,_,O,At ?_,.refl g,hs,fa,r,by rw[bl];exact hm,fun j o hj hn=>⟨hj,hn⟩,.inl ⟨rfl,rfl⟩,j1⟩;rw[r1,q1];have:=Bu (ty:=ty) t1 t2 t3 (w:=w) (w2:=w) (base:=base) (xa:=xa) (n:=es.length) (cap:=cap) (m:=0) (xc:=xc) (news:=[]) (Aq j1 (.inl rfl)) j0 (fun b _=>by simp[storeCells,Sem.run]) (fun _=>rfl);simpa using this
 have ie:0<new.length:=de.2 fi
 by_cases d9:es.length+new.length<=cap
 ·
  cases r with
  |nil=>
   obtain rfl:es=[]:=hm;have e1:a.eval s=.slice none 0 0:=fa;rw[e1]at r1;injection r1 with f1 f2 f3;simp only[cu]at d9;omega
  |full es0=>
   obtain⟨rfl,hl⟩:=hm;obtain⟨a',c',e1,e2,_,e3⟩:=fa;rw[e1]at r1;injection r1 with f1 f2 f3;simp only at e3;omega
  | row i cap' rest' =>
   obtain⟨m1,m2,m3,m4⟩:=hm;obtain⟨b,b8,hv⟩:=fa;rw[hv]at r1;injection r1 with f1 f2 f3;subst f3;subst f1;obtain⟨b2,vs,ty',fV,b6,hr⟩:=hs.obj i _ m1;obtain rfl:b2=b:=by rw[b8]at fV;cases fV;rfl
   have fZ:=jE.length hr;simp only[bB]at fZ;have iY:=Aj m4;have iX:=Aj hlen';have ii:=jE.length v1;simp only[aC]at m2 fZ;have gm:(es.length+new.length)*(tab e).size<=cap'*(tab e).size:=cW _ d9;rw[cp]at gm;have fj:=BS (P:=P) news 0 w vs b6 (Dw v1 (Ge fO)) (o:=es.length*(tab e).size) j0
   have b7:=Bu (ty:=ty) t1 t2 t3 (w:=w) (base:=some ⟨b2,0,none⟩) (xa:=xa) (n:=es.length) (cap:=cap') (m:=new.length) (xc:=xc) (news:=news) (w2:=if news=[] then w else setB w b2 (.cells (Bt vs (0+es.length*(tab e).size) news) ty' (0,0)))
    (Aq (by rw[t5];exact v2) v3) d9 (fun a ha=>by cases ha;rw[BQ,t5];simpa using fj) (fun h=>by cases h)
   have fi:jE g (es.flatten++(new.flatten++rest'.drop (new.length*(tab e).size))) (Bt vs (0+es.length*(tab e).size) news).toList:=by
    refine AP (by simp only[aC,cn,bB,D2];omega) fun j d v h1 h2=>?_
    have d5:(Bt vs (0+es.length*(tab e).size) news)[j]? = some v:=by simpa using h2
    rw[Dp _ _ _ _ j0]at d5;simp only[cz]at h1;have hg:=jE.get hr j
    by_cases c1:j<es.flatten.length
    ·rw[aE j0]at d5;rw[aG c1]at h1;rw[bj c1,h1]at hg;simp only[bO,d5,ba]at hg;exact hg
    ·rw[aE c1]at h1
     by_cases c2:j-es.flatten.length<new.flatten.length
     ·rw[aG j0]at d5;rw[aG c2]at h1;have:=jE.get v1 (j-es.flatten.length);rw[h1,show j-es.flatten.length=j-(0+es.length*(tab e).size) by omega,d5]at this;exact this
     ·rw[aE j0]at d5;rw[aE c2,cm]at h1;rw[bK j0,show j-es.flatten.length=new.length*(tab e).size+(j-es.flatten.length-new.flatten.length) by omega,h1]at hg;simp only[bO,d5,ba]at hg;exact hg
   have gA:es.flatten++(new.flatten++rest'.drop (new.length*(tab e).size))=(es++new).flatten++rest'.drop (new.length*(tab e).size):=by simp
   refine⟨g,_,.slice (some ⟨b2,0,none⟩) (es.length+new.length) cap',.am i 0 (es.length+new.length) cap',O.set i (.cells ((es++new).flatten++rest'.drop (new.length*(tab e).size))),At (by rw[hv,q1];exact b7),.refl g,?_,Gn b8,.row i cap' (rest'.drop (new.length*(tab e).size)),⟨w6 ..,?_,by simpa using d9,fc⟩,fun j o hj hn=>⟨j2 hn hj,hn⟩,.inr ⟨_,_,_,rfl⟩,rfl⟩
   ·have b9:=hs.setObj (i:=i) (b:=b2) (ds':=es.flatten++(new.flatten++rest'.drop (new.length*(tab e).size))) (vs':=Bt vs (0+es.length*(tab e).size) news) (ty:=ty') m1 b8 fi ⟨vs,b6⟩;rw[gA]at b9
    by_cases hne:news=[]
    ·rw[aG hne];subst hne
     have gT:setB w b2 (.cells (Bt vs (0+es.length*(tab e).size) []) ty' (0,0))=w:=by
      obtain⟨d8,iF⟩:=aI.1 b6
      have e:w.heap.setIfInBounds b2 (.cells vs ty' (0,0))=w.heap:=by
       apply Array.ext j1;intro k h1 h2;by_cases hk:b2=k
       ·subst hk;simp[iF]
       ·rw[dJ _ hk]
      show { w with heap:=w.heap.setIfInBounds b2 (.cells vs ty' (0,0)) }=w;rw[e]
     rw[gT]at b9;exact b9
    ·rw[aE hne];exact b9
   ·simp only[bt,aC,cn];omega
 ·
  obtain⟨c,hc,b7⟩:=Em (ty:=ty) t1 t2 t3 t4 (w:=w) (base:=base) (xa:=xa) (n:=es.length) (cap:=cap) (m:=new.length) (xc:=xc) (olds:=us) (news:=news)
   (Aq (by rw[t5];exact r4) r5) (Aq (by rw[t5];exact v2) v3) j0 hm2 (by rw[t6];exact hb)
  obtain⟨i',fB,gO⟩:=hs.fresh
  let zs:=(Builtin.zeroCells z.cells (c-(es.length+new.length))).toList
  have gb:jE (g.bind i' w.heap.size) ((es++new).flatten++zs.map Bq) (us++news++zs):=by
   rw[bt];exact((jE.mono (G.bind_le fB) _ r3).append (jE.mono (G.bind_le fB) _ v1)).append (CB _ _)
  have gk:kB P (g.bind i' w.drew.heap.size) { w.drew with heap:=w.drew.heap.push (.cells (us++news++zs).toArray e (0,0)) } i' (.cells ((es++new).flatten++zs.map Bq)):=
   ⟨w.drew.heap.size,(us++news++zs).toArray,e,by simp[G.bind],by exact dp,by simpa using gb⟩
  have fp:=hs.drew.newObj fB gO rfl gk;refine⟨_,_,_,.am i' 0 (es.length+new.length) c,_,At (by rw[r1,q1];exact b7),G.bind_le fB,fp,Gn (by simp[G.bind]),.row i' c (zs.map Bq),⟨w6 ..,?_,by simpa using hc,fc⟩,fun j o hj _=>?_,.inr ⟨_,_,_,rfl⟩,rfl⟩
  ·have hz:zs.length=(c-(es.length+new.length))*(tab e).size:=by simp[zs,size_zeroCells,t7]
   simp only[aC,aN,hz,Aj fc,<-cp];refine Nat.le_of_eq ?_
   congr 1;omega
  ·have hne:j≠i':=fun e=>by rw[e,gO]at hj;cases hj
   exact⟨j2 hne hj,hne⟩
end
section
variable {P:Program}{tab:Nat->Ty}(ht:AZ P tab){ro:Ro}{n:Nat}{ops:Array Oper}{Q:DX->St->Prop}{df:List DDf}{rest:List Oper}{γ:List (Nat×D)}{O:Sig}
include ht
theorem RO{g:G}{w:World}{T e i off len cap:Nat}{k k':IntKind}{v u u':Value}{hi m:Nat}(hk:(tab T).k=.slice e)(he:A2 (tab e).k=false)(hv:Rep g (.am i off len cap) v)(hu:Rep g (.int k hi) u)(gU:Rep g (.int k' m) u')(fM:hi<=m)(hm:m<=cap):
  ∃r,(Instr.sliceAt T v none (some u) (some u')).run P w=.ok r w/\Rep g (.am i off hi m) r:=by
 obtain⟨b,hb,rfl⟩:=hv;obtain rfl:=Bo hu;obtain rfl:=Bo gU;refine⟨_,?_,LQ (len:=hi) (cap:=m) (off:=off) hb⟩;have hu:=AR ht hk;have c1:(0:Int)<=(hi:Int):=by omega
 have c2:(hi:Int)<=(m:Int):=by omega
 have c3:(0:Int)<=(m:Int):=by omega
 have c4:(m:Int)<=(cap:Int):=by omega
 simp only[bx,Instr.sliceAt,Instr.slice,Instr.sliceBounds,Instr.sliceBound,asIntOf,aP,bi,aJ,j4 hu,c1,c2,c3,c4,dt,bu,AK (ht e) (Ai he),bF,dA,eu]
 congr 1
 split<;>simp[Addr.add]
theorem Lo{t T ty e i off len cap:Nat}{k k':IntKind}{x y z:Operand}{hi m:Nat}{pos:String}{after:Array Edge}
  (h:au P ro n ops Q rest ⟨(t,.am i off hi m)::γ,O,df⟩)
  (d6:t<n) (hk:(tab T).k=.slice e) (he:A2 (tab e).k=false) (h1:ev γ x=.am i off len cap) (h2:ev γ y=.int k hi) (h3:ev γ z=.int k' m) (fM:hi<=m) (hm:m<=cap) :
  au P ro n ops Q (⟨some t,.slice T x none (some y) (some z),ty,pos,after,none⟩::rest) ⟨γ,O,df⟩:=by
 refine Ct (fun d U'=>d=.am i off hi m/\U'=O) rfl (fun c e=>by cases e) (Ag fun c e=>by cases e) (by simp[Ax,d6]) ?_
  (fun d U' ⟨a2,a3⟩=>by subst a2 a3;exact h)
 intro g w a hs hT;have hx:=As hT x;have hy:=As hT y;have hz:=As hT z;rw[h1]at hx;rw[h2]at hy;rw[h3]at hz;obtain⟨r,h4,h5⟩:=RO (w:=w) ht hk he hx hy hz fM hm;exact⟨g,w,r,_,O,by simp only[execOp,bx,cZ,aP,h4,aJ,bi],.refl g,hs,h5,rfl,rfl⟩
omit ht in
theorem Mk{i j c sz:Nat}{es:eR}{r az bs:eO}(hj:O j=some (.cells (es.flatten++r)))(hi:O i=some (.cells (az ++ .am j 0 es.length c::bs)))(fg:i≠j)(m3:es.length<=c)(m4:∀e∈es,e.length=sz):Wk P n ⟨γ,O,df⟩ ⟨γ,(O.del j).set i (.cells (az ++ .slice es .no::bs)),df⟩:=by
 intro g w a hs;obtain⟨b,_,_,hb,_,_⟩:=hs.sim.obj j _ hj;obtain⟨g',c9,eZ,gg⟩:=hs.sim.freeze (i:=j) hj hb;have fB:(O.del j) i=some (.cells (az ++ .am j 0 es.length c::bs)):=by simp only[Sig.del,fg,bc];exact hi
 simp only at eZ;refine⟨g',c9,⟨eZ.retell fB fun vs=>IN fun v hv=>?_,hs.tmps.mono c9,hs.df.mono c9⟩⟩;obtain⟨b',b8,hv⟩:=hv;obtain rfl:b'=b:=by have:=c9.rho _ _ hb;rw[this]at b8;cases b8;rfl
 exact⟨_,c,hv,m3,.inr ⟨sz,b',0,rfl,ET m4 gg⟩,trivial⟩
end
end Go.DL
