/- A part of the proof. -/
import Derived.Test.YtlfimpogphmbdaaGreatH07
import Derived.Maps.RangeRun
import Derived.RecoverIn
set_option linter.all false
namespace Go.DL
open Go
def Ok{g:G}: ∀{l:List (D×D)}{es:List MapEntry},lL g l es->kI g (l.map (·.1)) (es.map (·.key))/\kI g (l.map (·.2)) (es.map (·.val))
 |[],es,h=>by rw[show es=[] from h];exact⟨rfl,rfl⟩
 |(k,d)::l,es,⟨e,r,he,h1,h2,h3⟩=>by
  subst he;obtain⟨a,b⟩:=Ok h3;exact⟨⟨_,_,rfl,h1,a⟩,⟨_,_,rfl,h2,b⟩⟩
def lL.get{g:G}: ∀{l:List (D×D)}{es:List MapEntry},lL g l es->∀{j:Nat}{e:MapEntry},es[j]? = some e->∃k v,l[j]? = some (k,v)/\Rep g k e.key/\Rep g v e.val
 |[],es,h,j,e,he=>by rw[show es=[] from h]at he;simp at he
 |(k,d)::l,es,⟨e',r,gB,h1,h2,h3⟩,j,e,he=>by
  subst gB;cases j with
  |zero=>simp at he;subst he;exact⟨k,d,rfl,h1,h2⟩
  |succ j=>simpa using h3.get (by simpa using he)
def lL.len{g:G}: ∀{l:List (D×D)}{es:List MapEntry},lL g l es->es.length=l.length
 |[],es,h=>by rw[show es=[] from h];rfl
 |(k,d)::l,es,⟨e',r,gB,h1,h2,h3⟩=>by subst gB;simp[h3.len]
def lL.erase{g:G}: ∀{l:List (D×D)}{es:List MapEntry},lL g l es->∀(j:Nat),lL g (l.eraseIdx j) (es.eraseIdx j)
 |[],es,h,j=>by rw[show es=[] from h];exact rfl
 |(k,d)::l,es,⟨e',r,gB,h1,h2,h3⟩,j=>by
  subst gB;cases j with
  |zero=>exact h3
  |succ j=>exact⟨e',_,rfl,h1,h2,h3.erase j⟩
def NQ(a:Array Nat)(x y:Nat):(a.push x).contains y=(a.contains y||y==x):=by
 rw[aW];simp only[Array.contains_iff_mem,Array.mem_push,bV,cL]
def Gx(p:Nat->Bool)(e:MapEntry): ∀(L:List MapEntry) (j:Nat),(L.map (·.born)).Nodup->(L.filter fun x=>p x.born)[j]? = some e->
  (L.filter fun x=>p x.born&&!(x.born==e.born))=(L.filter fun x=>p x.born).eraseIdx j
 |[],j,_,h=>by simp at h
 | y::L,j,hn,h=>by
  have gZ:=cE.1 (show(y.born::L.map (·.born)).Nodup from hn);cases hp:p y.born with
  |false=>
   rw[eW (p:=fun x:MapEntry=>p x.born) (by simp[hp])]at h⊢;rw[eW (by simp[hp])];exact Gx p e L j gZ.2 h
  | true =>
   rw[List.filter_cons_of_pos (p:=fun x:MapEntry=>p x.born) (by simp[hp])]at h⊢;cases j with
   | zero =>
    simp only[eT,bJ]at h;subst h;rw[eW k7,List.eraseIdx_zero,List.tail_cons];refine List.filter_congr fun x hx=>?_
    have iX:(x.born==y.born)=false:=by
     have:x.born≠y.born:=fun e=>gZ.1 (e ▸ cp hx);simpa using this
    rw[iX];simp
   | succ j =>
    simp only[eg]at h;have gw:e∈L:=(bR.1 (de h)).1
    have iW:(y.born==e.born)=false:=by
     have:y.born≠e.born:=fun e'=>gZ.1 (e' ▸ cp gw);simpa using this
    rw[List.filter_cons_of_pos (by simp[hp,iW]),eX,Gx p e L j gZ.2 h]
def G.addKeep(g:G)(b:Nat)(o:Obj):G:={ g with keep:=fun k=>if k=b then some o else g.keep k }
section
variable {P:Program}{ro:Option Nat}{n:Nat}{ops:Array Oper}{Q:DX->St->Prop}{rest:List Oper}{tab:Nat->Ty}{γ:List (Nat×D)}{V:Sig}{df:List DDf}
theorem Sim.mapStays{g:G}{w:World}(ga:Sim P g V w){i b:Nat}{l:List (D×D)}(hi:V i=some (.map l))(hb:g.rho i=some b):
  ∃g',g.le g'/\Sim P g' (V.del i) w/\Rep g' (.cmap (l.map (·.1)) (l.map (·.2))) (.map (some b)):=by
 obtain⟨b',es,clock,gk,gg,hr,gu⟩:=ga.obj i _ hi;obtain rfl:b'=b:=by rw[hb]at gk;cases gk;rfl
 have gU:blk g V i=some b':=by simp[blk,hi,hb]
 have gR:=ga.free i b' gU
 have fZ:g.le (g.addKeep b' (.map es clock)):=
  {imm:=fun _ _ _ h=>h,rho:=fun _ _ h=>h,hist:=fun _ _ _ h=>h,io:=rfl
   keep:=fun k o h=>by
    simp only[G.addKeep]
    by_cases hk:k=b'
    ·rw[hk,gR.1]at h;cases h
    ·rw[aQ hk];exact h }
 have gS:∀j o,V.del i j=some o->j≠i/\V j=some o:=fun j o h=>by
  by_cases hj:j=i
  ·subst hj;simp[Sig.del]at h
  ·exact⟨hj,by simpa[Sig.del,hj] using h⟩
 have gj:∀j c,blk (g.addKeep b' (.map es clock)) (V.del i) j=some c->j≠i/\blk g V j=some c:=by
  intro j c h
  by_cases hj:j=i
  ·subst hj;simp[blk,Sig.del]at h
  ·refine⟨hj,?_⟩;unfold blk at h⊢;simp only[Sig.del,hj,bl]at h;exact h
 refine⟨_,fZ,?_,?_⟩
 ·exact {
   imm:=ga.imm
   keep:=fun k o h=>by
    simp only[G.addKeep]at h
    by_cases hk:k=b'
    ·rw[aS hk]at h;cases h;rw[hk];exact gg
    ·rw[aQ hk]at h;exact ga.keep k o h
   obj:=fun j o h=>(ga.obj j o (gS j o h).2).mono fZ fun _ _ _ _ _ _ _ _ _ _ h=>h
   inj:=fun j k c h1 h2=>ga.inj j k c (gj j c h1).2 (gj k c h2).2
   free:=fun j c h=>by
    obtain⟨hj,h'⟩:=gj j c h
    obtain⟨h1,h2⟩:=ga.free j c h'
    have hc:c≠b':=fun e=>hj (ga.inj j i b' (e ▸ h') gU)
    refine⟨by simp only[G.addKeep];rw[aQ hc];exact h1,fun hh o=>h2 (fun x hx=>hh x (by simp only[Sig.del,hj,bl];exact hx)) o⟩
   htop:=fun j sz n k h hk=>ga.htop j sz n k (gS j _ h).2 hk
   hdom:=ga.hdom
   io:=ga.io
   fin:=ga.fin }
 ·obtain⟨a1,a2⟩:=Ok hr;exact⟨b',es,clock,rfl,by simp[G.addKeep],gu,kI.mono fZ _ a1,kI.mono fZ _ a2⟩
theorem JP{t i:Nat}{l:List (D×D)}(hi:V i=some (.map l))(hg:getD γ t=.map i):Wk P n ⟨γ,V,df⟩ ⟨(t,.cmap (l.map (·.1)) (l.map (·.2)))::γ,V.del i,df⟩:=by
 intro g w a hs;have iS:=hs.tmps.2 t;rw[hg]at iS;obtain⟨b,hb,hv⟩:=iS;obtain⟨g',fZ,h1,h2⟩:=hs.sim.mapStays hi hb;refine⟨g',fZ,⟨h1,⟨hs.tmps.1,fun k=>?_⟩,hs.df.mono fZ⟩⟩;rw[Aa]
 by_cases hk:k=t
 ·rw[aS hk,hk,hv];exact h2
 ·rw[aQ hk];exact Rep.mono fZ _ (hs.tmps.2 k)
def Re:D->Option (List (D×D))
 |.cmap ks vs=>some (ks.zip vs)
 |.ay=>some []
 |_=>none
theorem SV{c:Nat}{es:Array MapEntry}(h:ln c es.toList): ∀x∈es.toList,x.born<c:=h.2
variable (ht:BC P tab)
include ht
theorem TT{t T kt et:Nat}{x:Operand}{ty:TypeId}{pos:String}{after:Array Edge}{l:List (D×D)}(gb:t<n)(hk:(tab T).k=.map kt et)(hx:Re (ev γ x)=some l)
  (h:∀i,V i=none->aC P ro n ops Q rest ⟨(t,.obj i)::γ,V.set i (.iter l none),df⟩) :
  aC P ro n ops Q (⟨some t,.range T x,ty,pos,after,none⟩::rest) ⟨γ,V,df⟩:=by
 refine In (mk:=fun i=>.obj i) (d:=.iter l none) rfl (fun c e=>by cases e) (Ah fun c e=>by cases e) (by simp[AJ,gb]) rfl ?_ h;intro g w a hs hT;have go:=Az hT x;have hu:=Hi ht hk;unfold Re at hx;split at hx<;>(try (cases hx;done))
 ·rename_i ks vs he;cases hx;rw[he]at go;obtain⟨b,es,clock,hv,d7,gu,r1,r2⟩:=go;have gg:=hs.keep _ _ d7;refine⟨.mapIter (some b) clock #[] clock,.pointer (some ⟨w.heap.size,0,none⟩),?_,fun i hi=>⟨⟨w.heap.size,by simp[G.bind],.inr ⟨b,es,clock, #[],dL,d7,gu,?_,fun k v h=>by cases h⟩⟩,w.heap.size,by simp[G.bind],rfl⟩⟩
  ·simp only[execOp,Instr.range,hv,bb,A2 hu,aU,Cq gg,bp,IG]
  ·have:(es.toList.filter fun e=> !(#[]:Array Nat).contains e.born)=es.toList:=List.filter_eq_self.2 fun e _=>by simp
   rw[this];exact lL.mono (G.bind_le hi) _ (Na r1 r2)
 ·rename_i he;cases hx;rw[he]at go;have hv:a.eval x=.map none:=go;refine⟨.mapIter none 0 #[] 0,.pointer (some ⟨w.heap.size,0,none⟩),?_,fun i hi=>⟨⟨w.heap.size,by simp[G.bind],.inl ⟨rfl,rfl,dL⟩⟩,w.heap.size,by simp[G.bind],rfl⟩⟩;simp only[execOp,Instr.range,hv,bb,A2 hu,aU,bp,IG]
omit ht in
theorem Xm{t i:Nat}{x:Operand}{ty:TypeId}{pos:String}{after:Array Edge}{left:List (D×D)}{last:Option (D×D)}(gb:t<n)(hx:ev γ x=.obj i)(hi:V i=some (.iter left last))
  (h0:left=[]->aC P ro n ops Q rest ⟨(t,.tup [.bool false])::γ,V,df⟩)
  (h1:∀j k v,left[j]? = some (k,v)->aC P ro n ops Q rest ⟨(t,.tup [.bool true,k,v])::γ,V.set i (.iter (left.eraseIdx j) (some (k,v))),df⟩) :
  aC P ro n ops Q (⟨some t,.next x false,ty,pos,after,none⟩::rest) ⟨γ,V,df⟩:=by
 refine EL (fun d U'=>(left=[]/\d=.tup [.bool false]/\U'=V) \/ ∃j k v,left[j]? = some (k,v)/\d=.tup [.bool true,k,v]/\U'=V.set i (.iter (left.eraseIdx j) (some (k,v)))) rfl (fun c e=>by cases e) (Ah fun c e=>by cases e) (by simp[AJ,gb]) ?_ ?_
 ·intro g w a hs hT;have go:=Az hT x;rw[hx]at go;obtain⟨b,hb,hv⟩:=go;obtain⟨b',gk,gh⟩:=hs.obj _ _ hi;obtain rfl:b'=b:=by rw[hb]at gk;cases gk;rfl
  rcases gh with⟨hl,_,hh⟩|⟨mb,es,clock,seen,hh,d7,gu,hr,_⟩
  ·refine⟨g,w,.tuple #[.bool false],.tup [.bool false],V,?_,.refl g,hs,⟨_,rfl,_,_,rfl,rfl,rfl⟩,.inl ⟨hl,rfl,rfl⟩⟩;simp[execOp,hv,Instr.next,getObj,Sem.run,hh]
  ·have iz:=hs.keep _ _ d7;rcases run_next_at (P:=P) w ty b' mb clock clock seen es clock hh iz (SV gu) (bn _)with⟨f8,d6⟩|⟨e,he,w1,gX,d6⟩
   ·have hl:left=[]:=by
     have h1:=hr.len
     have h2:(es.toList.filter fun e=> !seen.contains e.born).length=0:=by
      have:=f8;unfold leftOf at this;rw[<-Array.toList_filter,bY];exact this
     exact bH.1 k0
    refine⟨g,w,.tuple #[.bool false],.tup [.bool false],V,?_,.refl g,hs,⟨_,rfl,_,_,rfl,rfl,rfl⟩,.inl ⟨hl,rfl,rfl⟩⟩;simp only[execOp,hv,bb,d6,aU,bp]
   ·have gB:e∈es.toList.filter fun e=> !seen.contains e.born:=by
     unfold leftOf at he;rwa [Array.toList_filter]at he
    obtain⟨j,hj,jq⟩:=bm gB;have iP:(es.toList.filter fun e=> !seen.contains e.born)[j]? = some e:=by rw[aT hj,jq]
    obtain⟨k,v,jp,rk,rv⟩:=hr.get iP;have jd:Sim P g V w1:=by rcases gX with rfl|rfl;exact hs;exact hs.drew
    have iR:w1.heap[b']? = some (.mapIter (some mb) clock seen clock):=by rcases gX with rfl|rfl<;>exact hh
    have e8:=jd.setAny (i:=i) (b:=b') (d':=.iter (left.eraseIdx j) (some (k,v))) (o:=.mapIter (some mb) clock (seen.push e.born) clock) hi rfl rfl hb iR
     ⟨b',hb,.inr ⟨mb,es,clock,seen.push e.born,DC iR,d7,gu,?_,?_⟩⟩
    ·refine⟨g,_,.tuple #[.bool true,e.key,e.val],.tup [.bool true,k,v],_,?_,.refl g,e8,⟨_,rfl,_,_,rfl,rfl,_,_,rfl,rk,_,_,rfl,rv,rfl⟩,.inr ⟨j,k,v,jp,rfl,rfl⟩⟩;simp only[execOp,hv,bb,d6,aU,bp];rfl
    ·have gM:∀x:MapEntry,(!(seen.push e.born).contains x.born)=(!seen.contains x.born&&!(x.born==e.born)):=by
      intro x;have:(seen.push e.born).contains x.born=(seen.contains x.born||x.born==e.born):=NQ ..;rw[this,Bool.not_or]
     have hk:=Gx (fun b=> !seen.contains b) e es.toList j gu.1 iP;simp only[gM];rw[hk];exact hr.erase j
    ·intro k' v' iC;cases iC;refine⟨e,e.born,k7,?_,rk,rv⟩;have jA:e∈es.toList:=(bR.1 gB).1;rw[<-Array.find?_toList];exact find_born e es.toList gu.1 jA
 ·rintro d U' (⟨a,rfl,rfl⟩|⟨j,k,v,a,rfl,rfl⟩)
  ·exact h0 a
  ·exact h1 j k v a
omit ht in
theorem TX{t i:Nat}{x:Operand}{ty:TypeId}{pos:String}{after:Array Edge}{left:List (D×D)}{k v:D}(gb:t<n)(hx:ev γ x=.obj i)(hi:V i=some (.iter left (some (k,v))))
  (h:aC P ro n ops Q rest ⟨(t,.tup [k,v])::γ,V,df⟩) :
  aC P ro n ops Q (⟨some t,.entry x,ty,pos,after,none⟩::rest) ⟨γ,V,df⟩:=by
 refine EL (fun d U'=>d=.tup [k,v]/\U'=V) rfl (fun c e=>by cases e) (Ah fun c e=>by cases e) (by simp[AJ,gb]) ?_ (fun d U' ⟨a,b⟩=>by subst a b;exact h);intro g w a hs hT;have go:=Az hT x;rw[hx]at go;obtain⟨b,hb,hv⟩:=go;obtain⟨b',gk,gh⟩:=hs.obj _ _ hi;obtain rfl:b'=b:=by rw[hb]at gk;cases gk;rfl
 rcases gh with⟨_,hl,_⟩|⟨mb,es,clock,seen,hh,d7,gu,hr,gQ⟩
 ·cases hl
 ·obtain⟨e,st,f1,f2,f3,f4⟩:=gQ k v rfl;have iz:=hs.keep _ _ d7;refine⟨g,w,.tuple #[e.key,e.val],.tup [k,v],V,?_,.refl g,hs,⟨_,rfl,_,_,rfl,f3,_,_,rfl,f4,rfl⟩,rfl,rfl⟩;simp[execOp,hv,Instr.entry,getObj,Sem.run,hh,iz,f1,f2]
omit ht in
theorem Mv{fop:Operand}{args:Array Operand}{ats:Array TypeId}{dst:Option Tmp}{ty:TypeId}{pos:String}{after:Array Edge}{f:Nat}{first cap:fQ}(d9:f<P.funcs.size)
  (hf:ev γ fop=.func (.func f) first cap) (ho:AJ n ⟨dst,.defer { callee:=.value fop,args,argTypes:=ats },ty,pos,after,none⟩=true)
  (h:aC P none n ops Q rest ⟨putD dst .any γ,V,.fn f (first++args.toList.map (ev γ)) cap::df⟩) :
  aC P none n ops Q (⟨dst,.defer { callee:=.value fop,args,argTypes:=ats },ty,pos,after,none⟩::rest) ⟨γ,V,df⟩:=by
 intro g w a r hr hs;obtain rfl:r=none:=hr;unfold wpListIn;rw[B0 (o:=⟨dst,.defer { callee:=.value fop,args,argTypes:=ats },ty,pos,after,none⟩) (b:=true) hs.tmps rfl,aS rfl];have g7:=Az hs.tmps fop;rw[show ev (St.mk γ V df).γ fop=.func (.func f) first cap from hf]at g7;obtain⟨fs,cs,g7,jh,jg⟩:=g7
 have fX:(resolve a.eval { callee:=.value fop,args,argTypes:=ats } ty).run P w=.ok { target:=.fn (.func f) cs.toArray,args:=fs.toArray++args.map a.eval } w:=by
  simp[resolve,g7,Deferred.ofValue,Sem.run]
 refine⟨fun f' gI=>(Ah (fun c e=>by cases e) _ _ _ gI).elim,?_⟩
 have d6:(Oper.semAt (FX P none).round a.eval ⟨dst,.defer { callee:=.value fop,args,argTypes:=ats },ty,pos,after,none⟩).run P w=.ok (.defer { target:=.fn (.func f) cs.toArray,args:=fs.toArray++args.map a.eval }) w:=by
  simp only[FX,Oper.semAt,execOp,bb,fX,aU,bp]
 rw[d6];have gv:=hs.put (d:=.any) (v:=undef) (U':=V) (w':=w) (.refl g) hs.sim trivial ho;refine h g w _ none rfl ⟨gv.sim,?_,?_⟩
 ·have e:({ a with defers:={ target:=.fn (.func f) cs.toArray,args:=fs.toArray++args.map a.eval }::a.defers }:Act).put dst undef={ (a.put dst undef)with defers:={ target:=.fn (.func f) cs.toArray,args:=fs.toArray++args.map a.eval }::a.defers }:=by cases dst<;>rfl
  show lF g _ n (({ a with defers:={ target:=.fn (.func f) cs.toArray,args:=fs.toArray++args.map a.eval }::a.defers }:Act).put dst undef).tmps;rw[e];exact gv.tmps
 ·have e:(({ a with defers:={ target:=.fn (.func f) cs.toArray,args:=fs.toArray++args.map a.eval }::a.defers }:Act).put dst undef).defers={ target:=.fn (.func f) cs.toArray,args:=fs.toArray++args.map a.eval }::a.defers:=by cases dst<;>rfl
  show RepDf g _ (({ a with defers:={ target:=.fn (.func f) cs.toArray,args:=fs.toArray++args.map a.eval }::a.defers }:Act).put dst undef).defers;rw[e];exact⟨fs++args.toList.map a.eval,cs,a.defers,k7,jh.append (E9 hs.tmps _),jg,hs.df⟩
end
def Q9(P:Program)(f:Nat)(args:fQ)(V:Sig)(pan:Option D)(U':Sig):Prop:=
 ∀g w vs u,Sim P g V w->kI g args vs->(match pan with|none=>u=.returning|some d=> ∃v,u=.panicking [{ v,recovered:=false }]/\Rep g d v)->
  CallsDIn (FX P none) 0 P f vs.toArray u w fun e u' w'=>(∃v,e=.returned v)/\settle u'=.returning /\ ∃g',g.le g'/\Sim P g' U' w'
def BodyD(P:Program)(n:Nat)(fn:Func)(fd:Nat)(R:DE->Sig->Prop):DX->St->Prop
 |.normal,s|.ret,s=> ∃cap U' d,s.df=[.fn fd [] cap]/\Q9 P fd cap s.V none U'/\Q8 P n fn ⟨s.γ,U',[]⟩ d/\R (.ret d) U'
 |.panic p,s=> ∃cap U' d,s.df=[.fn fd [] cap]/\Q9 P fd cap s.V (some p) U'/\Q8 P n fn ⟨s.γ,U',[]⟩ d/\R (.ret d) U'
 |.exit _,_=>False
def Ip{P:Program}{f fd:Nat}{fn:Func}{c:Code}{args:fQ}{V:Sig}{R:DE->Sig->Prop}(hf:P.funcs[f]? = some fn)(hb:fn.body=some c)(jx:Y3 P fd)(jw:fd<P.funcs.size)
  (jk : (fn.name == "runtime.NumGoroutine") = false) {m : Nat} (hm : fn.ntmps = m) (hn : args.length <= m) (h : DWp P none m c (fun x s => ∃ s', Wk P m s s' /\ BodyD P m fn fd (Weak R) x s') { γ := Dc 0 args, V }) : aB P f args V R := by
 refine IY ⟨(aX.1 hf).1,Ek hf jk (by rw[hb];rfl),fun g w vs hs ha=>?_⟩;refine callsIn_of_wp_defers hf hb (by obtain⟨h1,_⟩:=aX.1 hf;exact h1) ?_ rfl;subst hm;refine dF (h g w _ none rfl ⟨hs,GI ha hn,rfl⟩) ?_
 rintro e a w' ⟨g',s1,x,h1,h2,h3,s2,i0,h4⟩
 obtain⟨g2,gP,iG⟩:=i0 _ _ _ h2;have jC:=h1.trans gP
 have key:∀(u:FrameMode) (pan:Option D) (cap:fQ) (U':Sig) (d:D),u≠.run->(match pan with|none=>u=.returning|some d=> ∃v,u=.panicking [{ v,recovered:=false }]/\Rep g2 d v)->
   s2.df=[.fn fd [] cap]->Q9 P fd cap s2.V pan U'->Q8 P fn.ntmps fn ⟨s2.γ,U',[]⟩ d->Weak R (.ret d) U'->LeavesIn (FX P none) 0 P fn a.tmps (QS P g (Weak R)) a.defers u w':=by
  intro u pan cap U' d hu hp e1 e2 e3 e4;have g8:=iG.df;rw[e1]at g8;obtain⟨az,cs,rest,hd,ra,rc,gL⟩:=g8;obtain rfl:az=[]:=ra;obtain rfl:rest=[]:=gL;rw[hd];refine leavesIn_cons hu (fun h=>by cases h) (f:=fd) (args:=cs.toArray) ?_ ?_ ?_
  ·simp only[invoke];have:=jx (#[]++cs.toArray) w';simpa using this
  ·intro g hg;simp only[Target.leads,bJ]at hg;subst hg;exact jw
  ·refine(e2 g2 w' cs u iG.sim rc hp).mono ?_
   rintro e u' w3 ⟨⟨v,rfl⟩,e8,g3,l3,iK⟩
   simp only[e8];obtain⟨v,hv,gD⟩:=e3 g3 { a with defers:=[] } w3 ⟨iK,iG.tmps.mono l3,rfl⟩;exact⟨v,hv,g3,.ret d,U',jC.trans l3,iK,⟨v,rfl,gD⟩,e4⟩
 cases x with
 |normal=>
  obtain rfl:=h3;obtain⟨cap,U',d,e1,e2,e3,e4⟩:=h4;exact key .returning none cap U' d k7 rfl e1 e2 e3 e4
 |ret=>
  obtain rfl:=h3;obtain⟨cap,U',d,e1,e2,e3,e4⟩:=h4;exact key .returning none cap U' d k7 rfl e1 e2 e3 e4
 |panic p=>
  obtain⟨v,rfl,gD⟩:=h3;obtain⟨cap,U',d,e1,e2,e3,e4⟩:=h4;exact key _ (some p) cap U' d k7 ⟨v,rfl,Rep.mono gP _ gD⟩ e1 e2 e3 e4
 |exit i=>exact h4.elim
def T0{P:Program}{F:Fence}{n:Nat}{ops:Array Oper}{Q:Exit->Act->List Frame->World->Prop}{a:Act}{cs:List Frame}{w:World}{i:Nat}{l:fU}{o:Oper}{v:Value}(ho:ops[i]? = some o)(hg:o.guard=none)
  (ij:∀f,o.about P w a.eval=some f->F.fn f) (d6:(execOp a.eval o).run P w=.ok (.value v) w) (h:wpOpsSIn F n P ops Q l (a.put o.dst v) cs w):wpOpsSIn F n P ops Q (i::l) a cs w:=by
 have hw:Region.wanted o (yielded ops a.tmps)=true:=by simp[Region.wanted,hg]
 simp only[wpOpsSIn,ho,hw,bI,d6];exact⟨ij,h⟩
def Oq{P:Program}{F:Fence}{n:Nat}{ops:Array Oper}{Q:Exit->Act->List Frame->World->Prop}{a:Act}{cs cs':List Frame}{w:World}{i:Nat}{l:fU}{o:Oper}{v:Value}(ho:ops[i]? = some o)(hg:o.guard=none)
  (ij:∀f,o.about P w a.eval=some f->F.fn f) (d6:(execOp a.eval o).run P w=.ok .recover w) (d8:recoverD cs=some (v,cs')\/(recoverD cs=none/\v=.nilIface/\cs'=cs)) (h:wpOpsSIn F n P ops Q l (a.put o.dst v) cs' w):wpOpsSIn F n P ops Q (i::l) a cs w:=by
 have hw:Region.wanted o (yielded ops a.tmps)=true:=by simp[Region.wanted,hg]
 rcases d8 with d8|⟨d8,rfl,rfl⟩
 ·simp only[wpOpsSIn,ho,hw,bI,d6,d8];exact⟨ij,h⟩
 ·simp only[wpOpsSIn,ho,hw,bI,d6,d8];exact⟨ij,h⟩
def JO{P:Program}{F:Fence}{n:Nat}{Q:Exit->Act->List Frame->World->Prop}{a:Act}{cs cs':List Frame}{w:World}{id t4 t1 ty1 ty2:Nat}{p1 p2:String}{a1 a2:Array Edge}{rest:Code}{v:Value}
  (d8:recoverD cs=some (v,cs')\/(recoverD cs=none/\v=.nilIface/\cs'=cs)) (gY:t4<a.tmps.size)
  (h:rest.wpSIn F n P Q ((a.put (some t4) v).put (some t1) v) cs' w) :
  (Code.seq (.region id #[⟨some t4,.call { callee:=.builtin .recover,args:= #[],argTypes:= #[] },ty1,p1,a1,none⟩,⟨some t1,.assign (.tmp t4),ty2,p2,a2,none⟩] false) rest).wpSIn F n P Q a cs w:=by
 refine wpSIn_seq (wpSIn_region ?_);have hr:List.range (#[(⟨some t4,.call { callee:=.builtin .recover,args:= #[],argTypes:= #[] },ty1,p1,a1,none⟩:Oper),⟨some t1,.assign (.tmp t4),ty2,p2,a2,none⟩]:Array Oper).size=[0,1]:=rfl;rw[hr];have iD:(a.put (some t4) v).eval (.tmp t4)=v:=by simp[Act.put,Act.eval,gY]
 refine Oq (o:=⟨some t4,.call { callee:=.builtin .recover,args:= #[],argTypes:= #[] },ty1,p1,a1,none⟩) rfl rfl (fun f h=>by cases h) rfl d8 ?_;refine T0 (o:=⟨some t1,.assign (.tmp t4),ty2,p2,a2,none⟩) (v:=v) rfl rfl (fun f h=>by cases h) ?_ h;show(Sem.run P (pure (Next.value ((a.put (some t4) v).eval (.tmp t4)))) w)=_;rw[iD];rfl
def JI{P:Program}{f:Nat}{fn:Func}{id t4 t1 ty1 ty2:Nat}{p1 p2:String}{a1 a2:Array Edge}{rest:Code}{args:fQ}{V U':Sig}{pan:Option D}{m:Nat}
  (hf:P.funcs[f]? = some fn) (hb:fn.body=some (Code.seq (.region id #[⟨some t4,.call { callee:=.builtin .recover,args:= #[],argTypes:= #[] },ty1,p1,a1,none⟩,⟨some t1,.assign (.tmp t4),ty2,p2,a2,none⟩] false) rest))
  (hm:fn.ntmps=m) (hn:args.length<=m) (gY:t4<m) (jc:t1<m) (fX:fn.results=#[])
  (h:DWp P none m rest (fun x s=>(x=.normal\/x=.ret)/\s.df=[]/\Sub U' s.V) ⟨(t1,pan.getD .niliface)::(t4,pan.getD .niliface)::Dc 0 args,V,[]⟩):Q9 P f args V pan U':=by
 intro g w vs u hs ha hu;subst hm;have d9:f<P.funcs.size:=(aX.1 hf).1;refine callsDIn_of_wpSIn hf hb d9 fun c₀ cs hc=>?_;have hT:=GI ha hn
 have gv:∀(d:D) (v:Value),Rep g d v->lF g ((t1,d)::(t4,d)::Dc 0 args) fn.ntmps (((({ tmps:=vs.toArray++Array.replicate (fn.ntmps-vs.toArray.size) undef,defers:=[] }:Act).put (some t4) v).put (some t1) v).tmps):=by
  intro d v hv;have h1 := lF.put (o := ⟨some t4, .move (.tmp 0), 0, "", #[], none⟩) (a := { tmps := vs.toArray ++ Array.replicate (fn.ntmps - vs.toArray.size) undef, defers := [] }) hT hv (by simp [AJ, gY]);exact lF.put (o := ⟨some t1, .move (.tmp 0), 0, "", #[], none⟩) (a := ({ tmps := vs.toArray ++ Array.replicate (fn.ntmps - vs.toArray.size) undef, defers := [] } : Act).put (some t4) v) h1 hv (by simp [AJ, jc])
 have f8:t4<(vs.toArray++Array.replicate (fn.ntmps-vs.toArray.size) undef).size:=by rw[hT.1];exact gY
 have fin:∀(d:D) (v:Value) (u':FrameMode) (cs':List Frame),pan.getD .niliface=d->Rep g d v->settle u'=.returning->cs'={ c₀ with mode:=u' }::cs->
   rest.wpSIn (FX P none) 0 P (bodyPostS P fn c₀ cs fun e u' w'=>(∃v,e=.returned v)/\settle u'=.returning /\ ∃g',g.le g'/\Sim P g' U' w')
    (((({ tmps:=vs.toArray++Array.replicate (fn.ntmps-vs.toArray.size) undef,defers:=[] }:Act).put (some t4) v).put (some t1) v)) cs' w:=by
  intro d v u' cs' hd hv e8 iV;refine wpSIn_of_wpIn rfl ?_;subst hd;refine dF (h g w _ none rfl ⟨hs,gv _ v hv,rfl⟩) ?_
  rintro e a w' ⟨g',s',x,l1,l2,l3,hx,g8,gK⟩
  have hd:a.defers=[]:=Gh l2.df g8;have hr:(results fn a.tmps).run P w'=.ok (.tuple #[]) w':=by simp[results,fX]
  rcases hx with rfl|rfl
  ·obtain rfl:=l3;exact⟨hd,u',iV,_,hr,⟨_,rfl⟩,e8,g',l1,l2.sim.sub gK⟩
  ·obtain rfl:=l3;exact⟨hd,u',iV,_,hr,⟨_,rfl⟩,e8,g',l1,l2.sim.sub gK⟩
 cases pan with
 |none=>
  have hu:u=.returning:=hu;subst hu;refine JO (v:=.nilIface) (cs':=c₀::cs) (.inr ⟨?_,rfl,rfl⟩) f8 (fin .niliface .nilIface .returning _ rfl rfl rfl ?_)
  ·simp[recoverD,hc]
  ·rw[<-hc]
 |some d=>
  obtain⟨v,rfl,hv⟩:=hu;refine JO (v:=v) (cs':={ c₀ with mode:=.panicking [{ v,recovered:=true }] }::cs) (.inl ?_) f8 (fin d v (.panicking [{ v,recovered:=true }]) _ rfl hv rfl rfl);simp[recoverD,hc]
def nilB:TyK->Value->D->Option Bool
 |.iface,.nilIface,.niliface=>some true
 |.iface,.nilIface,.iface _ _=>some false
 |.ptr _,.pointer none,.aA=>some true
 |.ptr _,.pointer none,.aw _ _=>some false
 |.ptr _,.pointer none,.ptr _ _=>some false
 |.ptr _,.pointer none,.obj _=>some false
 |_,_,_=>none
def Lr{P:Program}{w:Go.World}(d:Nat)(t:TypeId){i}(h:P.underlying t=some (.interface i)):(Op.equalIn (d+1) t .nilIface .nilIface).run P w=.ok true w:=by
 simp[Op.equalIn,A2 h]
def Lq{P:Program}{w:Go.World}(d:Nat)(t:TypeId){i}(h:P.underlying t=some (.interface i))(u:TypeId)(x:Value):(Op.equalIn (d+1) t (.iface u x) .nilIface).run P w=.ok false w:=by
 simp[Op.equalIn,A2 h]
def FJ{P:Program}{w:Go.World}(d:Nat)(t:TypeId){e}(h:P.underlying t=some (.pointer e))(p:Option Addr):(Op.equalIn (d+1) t (.pointer p) (.pointer none)).run P w=.ok p.isNone w:=by
 cases p<;>simp[Op.equalIn,A2 h]
def Xl{P:Program}{tab:Nat->Ty}(ht:BC P tab){ro:Option Nat}{n:Nat}{ops:Array Oper}{Q:DX->St->Prop}{rest:List Oper}{γ:Fr}{V:Sig}{df:List DDf}{t T T' ty:Nat}{x:Operand}{z:Value}{pos:String}{after:Array Edge}{guard:Option (Nat×Bool)}{b:Bool}(neg:Bool)
  (hw:AY ops γ ⟨some t,.binOp (if neg then .neq else .eql) T x (.const z) T',ty,pos,after,guard⟩=some true) (hb:nilB (tab T).k z (ev γ x)=some b) (gb:t<n)
  (h:aC P ro n ops Q rest ⟨(t,.bool (b != neg))::γ,V,df⟩) :
  aC P ro n ops Q (⟨some t,.binOp (if neg then .neq else .eql) T x (.const z) T',ty,pos,after,guard⟩::rest) ⟨γ,V,df⟩:=by
 refine NN hw (fun c e=>by cases e) (Ah fun c e=>by cases e) (d:=.bool (b != neg)) ?_ (by simp[AJ,gb]) h;intro g w a hs hT;have hv:=Az hT x;refine ORun.of (AA (v:=.bool (b != neg)) hs ?_ rfl)
 have fin:∀(v:Value) (c:Bool),a.eval x=v->(Op.equal T v z).run P w=.ok c w->(∀op,(eqGuard op T x (.const z) v z).run P w=.ok () w)->
   (binOp .eql T v z=do pure (.bool (<-Op.equal T v z)))->(binOp .neq T v z=do pure (.bool (!(<-Op.equal T v z))))->
   (do eqGuard (if neg then .neq else .eql) T x (.const z) (a.eval x) (a.eval (.const z));binOp (if neg then .neq else .eql) T (a.eval x) (a.eval (.const z)):Sem Value).run P w=.ok (.bool (c != neg)) w:=by
  intro v c e1 e2 e3 e4 e5;rw[e1,show a.eval (.const z)=z from rfl];cases neg
  ·simp only[bz,bl];rw[bb,e3,aU,e4,bb,e2,aU,bp];cases c<;>rfl
  ·simp only[bI];rw[bb,e3,aU,e5,bb,e2,aU,bp];cases c<;>rfl
 have iface:(tab T).k=.iface->∃i,P.underlying T=some (.interface i):=fun hk=>by
  obtain⟨desc,gT,gJ⟩:=FV ht hk k7;cases desc<;>simp[KOK]at gJ;exact⟨_,gT⟩
 have ptr:∀e,(tab T).k=.ptr e->P.underlying T=some (.pointer e):=fun e hk=>by
  obtain⟨desc,gT,gJ⟩:=FV ht hk k7;cases desc<;>simp[KOK]at gJ;rw[gT,gJ]
 have gp:∀(p q:Option Addr) op,(eqGuard op T x (.const (.pointer q)) (.pointer p) (.pointer q)).run P w=.ok () w:=fun p q op=>by cases op<;>rfl
 unfold nilB at hb;split at hb<;>(try (cases hb;done))<;>cases hb<;>rename_i hk he
 ·obtain⟨i,hd⟩:=iface hk;rw[show ev (St.mk γ V df).γ x=.niliface from he]at hv;exact fin .nilIface true hv (Lr (P:=P) (w:=w) 9999 T hd) (fun op=>by cases op<;>cases x<;>rfl) rfl rfl
 ·obtain⟨i,hd⟩:=iface hk;rw[show ev (St.mk γ V df).γ x=.iface _ _ from he]at hv;obtain⟨y,hv,_⟩:=hv;exact fin _ false hv (Lq (P:=P) (w:=w) 9999 T hd _ _) (fun op=>by cases op<;>rfl) rfl rfl
 ·rw[show ev (St.mk γ V df).γ x=.aA from he]at hv;exact fin (.pointer none) true hv (FJ (P:=P) (w:=w) 9999 T (ptr _ hk) none) (gp _ _) rfl rfl
 ·rw[show ev (St.mk γ V df).γ x=.aw _ _ from he]at hv;obtain⟨b,o,hv,_⟩:=hv;exact fin _ false hv (FJ (P:=P) (w:=w) 9999 T (ptr _ hk) (some _)) (gp _ _) rfl rfl
 ·rw[show ev (St.mk γ V df).γ x=.ptr _ _ from he]at hv;obtain⟨b,_,hv⟩:=hv;exact fin _ false hv (FJ (P:=P) (w:=w) 9999 T (ptr _ hk) (some _)) (gp _ _) rfl rfl
 ·rw[show ev (St.mk γ V df).γ x=.obj _ from he]at hv;obtain⟨b,_,hv⟩:=hv;exact fin _ false hv (FJ (P:=P) (w:=w) 9999 T (ptr _ hk) (some _)) (gp _ _) rfl rfl
def PB{P:Program}{w:Go.World}(d:Nat)(t:TypeId)(h:P.underlying t=some .bool)(a b:Bool):(Op.equalIn (d+1) t (.bool a) (.bool b)).run P w=.ok (a==b) w:=by
 simp[Op.equalIn,A2 h]
def Sn{P:Program}{tab:Nat->Ty}(ht:BC P tab){ro:Option Nat}{n:Nat}{ops:Array Oper}{Q:DX->St->Prop}{rest:List Oper}{γ:Fr}{V:Sig}{df:List DDf}{t T T' ty:Nat}{x y:Operand}{pos:String}{after:Array Edge}{guard:Option (Nat×Bool)}{a b:Bool}(neg:Bool)
  (hw:AY ops γ ⟨some t,.binOp (if neg then .neq else .eql) T x y T',ty,pos,after,guard⟩=some true) (hk:(tab T).k=.bool) (hx:ev γ x=.bool a) (hy:ev γ y=.bool b) (gb:t<n)
  (h:aC P ro n ops Q rest ⟨(t,.bool ((a==b) != neg))::γ,V,df⟩) :
  aC P ro n ops Q (⟨some t,.binOp (if neg then .neq else .eql) T x y T',ty,pos,after,guard⟩::rest) ⟨γ,V,df⟩:=by
 refine NN hw (fun c e=>by cases e) (Ah fun c e=>by cases e) (d:=.bool ((a==b) != neg)) ?_ (by simp[AJ,gb]) h;intro g w ac hs hT;have hv:=Az hT x;have hu:=Az hT y;rw[show ev (St.mk γ V df).γ x=.bool a from hx]at hv;rw[show ev (St.mk γ V df).γ y=.bool b from hy]at hu;have ja:ac.eval x=.bool a:=hv;have jb:ac.eval y=.bool b:=hu;refine ORun.of (AA (v:=.bool ((a==b) != neg)) hs ?_ rfl);obtain⟨desc,gT,gJ⟩:=FV ht hk k7;have hd:P.underlying T=some .bool:=by cases desc<;>simp[KOK]at gJ;exact gT
 have e2:(Op.equal T (.bool a) (.bool b)).run P w=.ok (a==b) w:=PB (P:=P) (w:=w) 9999 T hd a b;have e3:∀op,(eqGuard op T x y (.bool a) (.bool b)).run P w=.ok () w:=fun op=>by cases op<;>rfl
 rw[ja,jb];cases neg
 ·simp only[bz,bl];rw[bb,e3,aU,show binOp .eql T (.bool a) (.bool b)=(do pure (.bool (<-Op.equal T (.bool a) (.bool b))):Sem Value) from rfl,bb,e2,aU,bp];cases (a==b)<;>rfl
 ·simp only[bI];rw[bb,e3,aU,show binOp .neq T (.bool a) (.bool b)=(do pure (.bool (!(<-Op.equal T (.bool a) (.bool b)))):Sem Value) from rfl,bb,e2,aU,bp];cases (a==b)<;>rfl
def Lg(P:Program)(T:Nat)(name:String)(f:Nat):Prop:= ∀(v:Value) (w:Go.World),(method (P.types.size+Made.depth) T v name).run P w=.ok (f,v) w
def KY{P:Program}{ro:Option Nat}{n:Nat}{ops:Array Oper}{Q:DX->St->Prop}{rest:List Oper}{γ:Fr}{V:Sig}{df:List DDf}{rv:Operand}{name:String}{args:Array Operand}{ats:Array TypeId}{dst:Option Tmp}{ty:TypeId}{pos:String}{after:Array Edge}{guard:Option (Nat×Bool)}{f T:Nat}{d:D}{az:fQ}{R:DE->Sig->Prop}
  (hw:AY ops γ ⟨dst,.call { callee:=.invoke rv name,args,argTypes:=ats },ty,pos,after,guard⟩=some true)
  (hx:ev γ rv=.iface T d) (hM:Lg P T name f) (h:aB P f az V R) (has:WkL (d::args.toList.map (ev γ)) az)
  (ho:AJ n ⟨dst,.call { callee:=.invoke rv name,args,argTypes:=ats },ty,pos,after,guard⟩=true)
  (iv:∀d U',R (.ret d) U'->aC P ro n ops Q rest ⟨putD dst d γ,U',df⟩)
  (iy:∀d U',R (.panic d) U'->Q (.panic d) ⟨γ,U',df⟩) :
  aC P ro n ops Q (⟨dst,.call { callee:=.invoke rv name,args,argTypes:=ats },ty,pos,after,guard⟩::rest) ⟨γ,V,df⟩:=by
 intro g w a r hr hs;unfold wpListIn;rw[B0 hs.tmps hw,aS rfl];have hv:=Az hs.tmps rv;rw[show ev (St.mk γ V df).γ rv=.iface T d from hx]at hv;obtain⟨x,hv,iY⟩:=hv
 have fX:(resolve a.eval { callee:=.invoke rv name,args,argTypes:=ats } ty).run P w=.ok { target:=.fn (.method name) #[],args:= #[.iface T x]++args.map a.eval } w:=by
  simp only[resolve,hv];rfl
 refine⟨fun f' gI=>?_,?_⟩
 ·simp only[Oper.about,fX,Target.leads]at gI;have h0:(#[Value.iface T x]++args.map a.eval)[0]? = some (.iface T x):=by rw[eI (Nat.zero_lt_one)];rfl
  rw[h0]at gI;simp only[hM x w]at gI;cases gI;exact h.lt
 ·rw[cW _ _ _ (fun c e=>by cases e)]
  have d6:(execOp a.eval ⟨dst,.call { callee:=.invoke rv name,args,argTypes:=ats },ty,pos,after,guard⟩).run P w=.ok (.enter f (#[x]++args.map a.eval)) w:=by
   simp only[execOp,bb,fX,aU,invoke];have h0:(#[Value.iface T x]++args.map a.eval)[0]? = some (.iface T x):=by rw[eI (Nat.zero_lt_one)];rfl
   have h1:(#[Value.iface T x]++args.map a.eval).extract 1 (#[Value.iface T x]++args.map a.eval).size=args.map a.eval:=by
    apply eb;simp;exact bM k7
   simp only[h0,h1,callMethod,program,bb];show(((method (P.types.size+Made.depth) T x name).run P w).andThen fun q w'=>(callFunc q.1 (#[q.2]++args.map a.eval)).run P w')=_;rw[hM x w,aU];exact h.ent _ w
  rw[d6];refine⟨fun h=>(by cases h),?_⟩;have gV:kI g (d::args.toList.map (ev γ)) (x::args.toList.map a.eval):=⟨x,_,rfl,iY,E9 hs.tmps _⟩;have hc:=h.run g w _ hs.sim (has.rep gV)
  have jB:CallsIn (FX P r) 0 P f (#[x]++args.map a.eval) w (QS P g R):=by
   have e:(x::args.toList.map a.eval).toArray=#[x]++args.map a.eval:=by apply eb;simp
   rw[<-e];exact hc
  refine jB.mono ?_
  rintro e w' ⟨g',y,U',h1,h2,h3,h4⟩
  cases y with
  |ret d=>
   obtain⟨v,rfl,h5⟩:=h3;exact AF h1 _ (iv d U' h4 g' w' _ r (hr.mono h1) (hs.put (o:=⟨dst,.call { callee:=.invoke rv name,args,argTypes:=ats },ty,pos,after,guard⟩) h1 h2 h5 ho))
  |panic d=>
   obtain⟨v,rfl,h5⟩:=h3;exact⟨g',⟨γ,U',df⟩,.panic d,h1,⟨h2,hs.tmps.mono h1,hs.df.mono h1⟩,⟨v,rfl,h5⟩,iy d U' h4⟩
section
variable {P:Program}{ro:Option Nat}{n:Nat}{Q:DX->St->Prop}{s:St}
theorem DB{b:Frame}{a:Act}{k:List Item}{cs:List Frame}{w:Go.World}{c:Code}:step P (lone (b.atR a (.code (.scope c)::k)) cs w)=.next (lone (b.atR a (.code c :: .inScope c::k)) cs w):=
 step_lone_go (by simp[stepG,stepG.exec,Frame.atR])
theorem N3{b:Frame}{a:Act}{k:List Item}{cs:List Frame}{w:Go.World}{c:Code}:step P (lone (b.atR a (.inScope c::k)) cs w)=.next (lone (b.atR a k) cs w):=
 step_lone_go (by simp[stepG,stepG.exec,Frame.atR])
theorem PE{c:Code}(h:DWp P ro n c Q s):DWp P ro n (.scope c) Q s:=by
 intro g w a r hr hs;intro b k cs je hb iq;have h0:(lone (b.atR a (.code (.scope c)::k)) cs w).fenced P (FX P r):=eL hb iq rfl;obtain⟨e,a₁,w₁,⟨g',s',x,l1,l2,l3,l4⟩,f0⟩:=h g w a r hr hs b (.inScope c::k) cs je hb iq;have hp:lQ P g n Q e a₁ w₁:=⟨g',s',x,l1,l2,l3,l4⟩;cases e with
 |normal=>exact⟨.normal,a₁,w₁,hp,.head h0 DB (dM f0 (.one (eL hb iq rfl) N3))⟩
 | exit id =>
  have hx:exitTo id (.inScope c::k)=exitTo id k:=by simp[exitTo]
  exact⟨.exit id,a₁,w₁,hp,fun k' hk=>.head h0 DB (f0.1 k' (by rw[hx];exact hk)),
   fun ji hk=>let ⟨k₁,h1,h2⟩:=f0.2 ji (by rw[hx];exact hk);⟨k₁,h1,.head h0 DB h2⟩⟩
 |goto l=>cases x<;>first|(cases l3;done)|(obtain⟨v,l3,_⟩:=l3;cases l3)
 |ret=>exact⟨_,a₁,w₁,hp,.of_steps (.one h0 DB) f0⟩
 |panic ch=>exact⟨_,a₁,w₁,hp,.of_steps (.one h0 DB) f0⟩
 |outgrown=>exact⟨_,a₁,w₁,hp,.of_steps (.one h0 DB) f0⟩
end
section
variable {P:Program}{ro:Option Nat}{n:Nat}{ops:Array Oper}{N:Nat}{S0:Sig}{Q:DX->St->Prop}{df:List DDf}{E:fU}
theorem UQ(hN:P.funcs.size=N){ord:fU}{k:Nat}{ol:Oper}(fY:ops.size=k+1)(gN:ops[k]? = some ol)(gF:mixB ops E [] ord=true)(gW:∀i,i<k->i∈ord)(d9:∀i∈ord,i<k)
  (gX:∀i,i<k->F3 ops ops.size k i=true) (iJ:∀e∈ol.after,Region.binds .any e=true->e.on<k) {g0:G}{rr:Option Nat} (hr:lw g0 ro rr) :
  ∀(m:Nat) (r:fU) (listed:Array Bool) (γ:Fr) (V:Sig),r.length=m->listed.size=ops.size->r=ord.filter (fun i=> !listed.getD i true)->listed.getD k true=false->lG ops listed->
   MOps P ro n ops N S0 (lW (fun s=>aC P ro n ops Q [ol] s) Q) df E r γ V->Sub S0 V->
   ∀(g:G) (w:World) (a:Act),g0.le g->lP P g n ⟨γ,V,df⟩ a w->wpAnyIn (FX P rr) 0 P .any ops (lQ P g0 n Q) (m+1) listed a w:=by
 have gw:∀(r:fU) (listed:Array Bool),lG ops listed->r=ord.filter (fun i=> !listed.getD i true)->∀i∈Region.ready .any ops listed,i∈r\/(i=k/\r=[]):=by
  intro r listed gr hf i hi;obtain⟨h1,o,ho,hd⟩:=mem_ready.1 hi;have jv:i<k+1:=by rw[<-fY];exact(aX.1 ho).1
  by_cases hk:i=k
  ·subst hk
   right
   refine⟨rfl,?_⟩;rw[hf,cH];intro x hx;have:=CN gr ops.size i x o ho hd (gX x (d9 x hx));rcases cF x listed.size with h|h
   ·simp[h]at this⊢; exact this
   ·simp[cu h]at this
  ·left
   rw[hf,bR];exact⟨gW i k0,by rw[h1];rfl⟩
 intro m
 induction m with
 | zero =>
  intro r listed γ V hl f8 hf iA gr h hC g w a hg hs;obtain rfl:r=[]:=bH.1 hl
  have e7:∀x,x<k->listed.getD x true=true:=by
   intro x hx;have:=(cH.1 hf.symm) x (gW x hx);simpa using this
  refine⟨fun he=>?_,fun i hi=>?_⟩
  ·exfalso
   have:k∈Region.ready .any ops listed:=by
    refine mem_ready.2 ⟨iA,ol,gN,fun e hm hb=>?_⟩;have h5:=e7 _ (iJ e hm hb);have gG:e.on<listed.size:=by rw[f8,fY];have:=iJ e hm hb;omega
    simpa[gG] using h5
   rw[he]at this;cases this
  ·obtain rfl:i=k:=by
    rcases gw [] listed gr hf i hi with h|h
    ·cases h
    ·exact h.1
   have h1:aC P ro n ops Q [ol] ⟨γ,V,df⟩:=fun g w a r hr hs=>by
    have h':=h g w a r hr hs;obtain⟨g',s',x,k1,k2,k3,k4⟩:=h';cases x with
    |normal=>exact AF k1 _ (k4 g' w a r (hr.mono k1) k2)
    |ret=>cases k3
    |exit _=>cases k3
    |panic _=>obtain⟨v,k3,_⟩:=k3;cases k3
   have h2:=AF hg _ (h1 g w a rr (hr.mono hg) hs);unfold wpOpIn;rw[gN]
   have hz:∀j,j<ops.size->(listed.setIfInBounds i true).getD j true=true:=by
    intro j hj
    by_cases iQ:j=i
    ·subst iQ;have:j<listed.size:=by rw[f8];exact hj
     simp[this]
    ·rw[getD_set_ne true (fun e=>iQ e.symm)];exact e7 j k0
   have iO:Region.ready .any ops (listed.setIfInBounds i true)=[]:=cX.2 fun j hj=>by
    obtain⟨h1,o,ho,_⟩:=mem_ready.1 hj;rw[hz j (aX.1 ho).1]at h1;cases h1
   simp only[wpListIn]at h2;simp only;split
   ·rename_i hw;rw[aS hw]at h2;exact Oper.wpIn_mono (fun a w h=>⟨iO,h⟩) h2
   ·rename_i hw;rw[aQ hw]at h2;exact⟨h2.1,iO,h2.2⟩
 | succ m ih =>
  intro r listed γ V hl f8 hf iA gr h hC g w a hg hs;obtain⟨y,t,rfl⟩:∃y t,r=y::t:=by cases r with|nil=>cases hl|cons y t=>exact⟨y,t,rfl⟩
  refine⟨fun he=>?_,fun i hi=>?_⟩
  ·exfalso
   obtain⟨l1,l2,gE,jo,hy,jD⟩:=cj.1 hf.symm;subst gE;obtain⟨h1,_,_,o,ho,iU,_⟩:=EP l1 [] gF
   have:y∈Region.ready .any ops listed:=by
    refine mem_ready.2 ⟨by simpa using hy,o,ho,fun e hm hb=>?_⟩;rcases iU e hm hb with h4|h4
    ·have h5:=jo _ h4;simp only[cy,dU]at h5
     have gG:e.on<listed.size:=by
      have:=d9 e.on (by simp[h4]);rw[f8,fY];omega
     simpa[gG] using h5
    ·cases h4
   rw[he]at this;cases this
  ·have jt:i∈y::t:=by
    rcases gw _ listed gr hf i hi with h|h
    ·exact h
    ·exact absurd h.2 k7
   obtain⟨pre,post,gC⟩:=co jt;rw[gC]at hf h hl;obtain⟨l1',l2',gE,iF,jz⟩:=dr.1 hf.symm;obtain⟨m1,m2,iB,jm,jE,jy⟩:=cj.1 jz;have gc:ord=(l1'++m1)++i::m2:=by rw[gE,iB];simp
   have jv:i<k:=d9 i (by rw[gc];simp);rw[gc]at gF;obtain⟨n1,_,n3,o,ho,iU,hx⟩:=EP (l1'++m1) [] gF;obtain⟨jr,o',iM,e7⟩:=mem_ready.1 hi;obtain rfl:o'=o:=by rw[ho]at iM;cases iM;rfl
   have gH:=GM ho post pre γ V (fun x iI=>by
    have iZ:x∈l1'++m1:=by
     have:x∈l1'.filter (fun i=> !listed.getD i true):=by rw[iF];exact iI
     simp[(bR.1 this).1]
    have iH:listed.getD x true=false:=by
     have:x∈l1'.filter (fun i=> !listed.getD i true):=by rw[iF];exact iI
     simpa using(bR.1 this).2
    rcases hx x iZ with h4|h4
    ·exfalso
     have:=CN gr ops.size i x o' ho e7 h4
     rcases cF x listed.size with d9|d9
     ·simp[d9]at this iH;rw[iH]at this;cases this
     ·simp[cu d9]at this
    ·exact h4) h
   have gx:pre++post=ord.filter (fun j=> !(listed.setIfInBounds i true).getD j true):=by
    have ju:i<listed.size:=by
     rw[f8];exact(aX.1 ho).1
    rw[gc,cn,cP];have e1:(listed.setIfInBounds i true).getD i true=true:=by simp[ju]
    rw[e1,AC n1,AC n3];simp only[cQ,bz,bl,cn,iF,jy];rw[cH.2 (fun x hx=>by simpa using jm x hx),br]
   have hlen:(pre++post).length=m:=by simp at hl⊢; omega
   have gO:(listed.setIfInBounds i true).getD k true=false:=by rw[getD_set_ne true (show i≠k by omega)];exact iA
   obtain⟨o2,iL,hh⟩:=gH;obtain rfl:o2=o':=by rw[ho]at iL;cases iL;rfl
   unfold wpOpIn;simp only[ho];rcases hh with⟨d,hy,hM⟩|⟨_,hE⟩
   ·exact Fk (Q:=Q) hN (hr.mono hg) hg hs hC hy fun g' w' a' iE hs'=>ih _ _ _ _ hlen (by simpa using f8) gx gO (gr.set hi) hM hC g' w' a' (hg.trans iE) hs'
   ·exact Dr (Q:=Q) (hr.mono hg) hg hs hE (fun g' w' a' d U' iE hR hs'=>ih _ _ _ _ hlen (by simpa using f8) gx gO (gr.set hi) hR.2 hR.1 g' w' a' (hg.trans iE) hs') fun d U' hp=>hp
def Km(ops:Array Oper)(E ord:fU):Bool:=mixB ops E [] ord&&(List.range (ops.size-1)).all ord.contains&&(ord.length==ops.size-1)&&ord.all (fun i=>decide (i<ops.size-1))&&(match ops[ops.size-1]? with
 |some o=>(List.range (ops.size-1)).all (fun i=>F3 ops ops.size (ops.size-1) i)&&o.after.all (fun e=> !Region.binds .any e||decide (e.on<ops.size-1))
 |none=>false)
theorem Si(hN:P.funcs.size=N)(hm:P.follows .mixedOrders=true){l:List Oper}{id:Nat}{γ:Fr}{V:Sig}(ord E:fU)(S0:Sig){ol:Oper}(hB:Km l.toArray E ord=true)(hl:nthO l (l.length-1)=some ol)(hC:Sub S0 V)
  {lp:List (Bool×Oper)} (jn:Hn l E ord=some lp) (h:MO P ro n l.toArray N S0 (lW (fun s=>aC P ro n l.toArray Q [ol] s) Q) df lp γ V):DWp P ro n (.region id l.toArray true) Q ⟨γ,V,df⟩:=by
 intro g w a r hr hs;refine wpIn_region_any hm ?_;rw[Kd]at hl;have hne:l.length≠0:=fun e=>by have:l=[]:=bH.1 e;subst this;cases hl
 unfold Km at hB;simp only[aN,cL]at hB;obtain⟨⟨⟨⟨b1,b2⟩,b3⟩,b4⟩,b5⟩:=hB;have fY:l.toArray.size=(l.toArray.size-1)+1:=by simp;omega
 have gN:l.toArray[l.toArray.size-1]? = some ol:=by simpa using hl
 rw[gN]at b5;simp only[aN]at b5;have d9:∀i∈ord,i<l.toArray.size-1:=fun i hi=>by simpa using bh.1 b4 i hi
 have hs':lP P g n ⟨γ,V,df⟩ a { w with drawn:=w.drawn+1 }:=
  ⟨⟨fun b o v h=>hs.sim.imm b o v h,hs.sim.keep,fun i o h=>by
   have:=hs.sim.obj i o h
   cases o<;>exact this,hs.sim.inj,hs.sim.free,hs.sim.htop,hs.sim.hdom,hs.sim.fin,hs.sim.io⟩,hs.tmps,hs.df⟩
 have gr:lG l.toArray (Array.replicate l.toArray.size false):=by
  intro q o _ hq;rcases cF q l.length with h'|h'
  ·simp[h']at hq
  ·simp[h']at hq
 have jl:=F8 (P:=P) (ro:=ro) (n:=n) (N:=N) (S0:=S0) (Q:=lW (fun s=>aC P ro n l.toArray Q [ol] s) Q) (df:=df) (ops:=l.toArray) (E:=E) (ord:=ord) (fun i hi=>by have:=d9 i hi;omega) (by rw[Ka jn];exact h)
 have:=UQ (P:=P) hN (ops:=l.toArray) (k:=l.toArray.size-1) fY gN b1 (fun i hi=>by simpa using bh.1 b2 i (by simpa using hi)) d9
  (fun i hi=>bh.1 b5.1 i (fK.2 hi))
  (fun e he hb=>by
   have:=cz.1 b5.2 e he
   simpa[hb] using this)
  hr ord.length ord (Array.replicate l.toArray.size false) γ V rfl k7 (DK (fun i hi=>by have:=d9 i hi;omega)).symm (by
   have:l.toArray.size-1<l.toArray.size:=by omega
   rw[cV]
   simp only[Array.getElem?_replicate,this,bI];rfl) gr jl hC g _ a (.refl g) hs'
 rw[b3,<-fY]at this;exact this
end
def Jr{g:G}{d d':D}(h:∀v,Rep g d v->Rep g d' v): ∀{az bs:fQ}{vs:List Value},kI g (az++d::bs) vs->kI g (az++d'::bs) vs
 |[],_,_,⟨v,r,e,h1,h2⟩=>⟨v,r,e,h v h1,h2⟩
 |_::_,_,_,⟨v,r,e,h1,h2⟩=>⟨v,r,e,h1,Jr h h2⟩
section
variable {P:Program}{n:Nat}{γ:List (Nat×D)}{V:Sig}{df:List DDf}
theorem Ep{i:Nat}{az bs:fQ}{d d':D}(hi:V i=some (.cells (az++d::bs)))(h:WkD d d'):Wk P n ⟨γ,V,df⟩ ⟨γ,V.set i (.cells (az++d'::bs)),df⟩:=
 fun g _ _ hs=>⟨g,.refl g,⟨hs.sim.retell hi fun _=>Jr (h g),hs.tmps,hs.df⟩⟩
theorem Hg{i sz:Nat}{st:MR}{es:fV}{az bs:fQ}(hm:mOK V sz st es)(hi:V i=some (.cells (az++mD st es.length::bs))):Wk P n ⟨γ,mS V st es,df⟩ ⟨γ,V.set i (.cells (az ++ .slice es .no::bs)),df⟩:=by
 cases st with
 |none=>
  obtain rfl:es=[]:=hm;exact Ep hi (An _ (.inl rfl))
 |some x=>
  obtain⟨j,cap,rest⟩:=x;obtain⟨m1,m2,m3,m4⟩:=hm;have gA:i≠j:=fun h=>by rw[h,m1]at hi;cases hi
  intro g w a hs;obtain⟨b,_,_,hb,_,_⟩:=hs.sim.obj j _ (w7 V j _);obtain⟨g',fZ,hs',jf⟩:=hs.sim.freeze (i:=j) (w7 V j _) hb;have hZ:(mS V (some (j,cap,rest)) es).del j=V:=Sig.set_del _ _ m1;simp only at hs';rw[hZ]at hs';refine⟨g',fZ,⟨hs'.retell hi fun vs=>Jr fun v hv=>?_,hs.tmps.mono fZ,hs.df.mono fZ⟩⟩;obtain⟨b',gk,hv⟩:=hv;obtain rfl:b'=b:=by have:=fZ.rho _ _ hb;rw[this]at gk;cases gk;rfl
  exact⟨_,cap,hv,m3,.inr ⟨sz,b',0,rfl,GJ m4 jf⟩,trivial⟩
theorem WkL.repI{g:G}{b:Nat}: ∀{az bs:fQ}{o:Nat},WkL az bs->kx g b o az->kx g b o bs
 |[],[],_,_,h=>h
 |_::_,_::_,_,⟨h1,h2⟩,⟨⟨v,h3,h4⟩,h5⟩=>⟨⟨v,h3,h1 g v h4⟩,WkL.repI h2 h5⟩
 |[],_::_,_,h,_=>h.elim
 |_::_,[],_,h,_=>h.elim
def WkE:fV->fV->Prop
 |[],[]=>True
 |a::az,b::bs=>WkL a b/\WkE az bs
 |_,_=>False
theorem WkE.len: ∀{az bs:fV},WkE az bs->az.length=bs.length
 |[],[],_=>rfl
 |a::az,b::bs,h=>by simp[WkE.len h.2]
 |[],_::_,h=>h.elim
 |_::_,[],h=>h.elim
theorem WkE.rep{g:G}{b sz:Nat}: ∀{az bs:fV}{o:Nat},WkE az bs->kl g b sz o az->kl g b sz o bs
 |[],[],_,_,h=>h
 |_::_,_::_,_,⟨h1,h2⟩,⟨⟨h3,h4⟩,h5⟩=>⟨⟨by rw[<-h1.len];exact h3,h1.repI h4⟩,WkE.rep h2 h5⟩
 |[],_::_,_,h,_=>h.elim
 |_::_,[],_,h,_=>h.elim
theorem Ix{es es':fV}(o:Own)(h:WkE es es'):WkD (.slice es o) (.slice es' .no):=by
 rintro g v ⟨a,cap,h1,h2,h3,_⟩
 refine⟨a,cap,by rw[<-h.len];exact h1,by rw[<-h.len];exact h2,?_,trivial⟩;rcases h3 with rfl|⟨sz,b,o,ha,hr⟩
 ·exact .inl (List.length_eq_zero_iff.mp h.len.symm)
 ·exact .inr ⟨sz,b,o,ha,h.rep hr⟩
theorem Er{es es':fV}(o:Own)(h:WkE es es'):WkD (.slice es o) (.slice es' o):=by
 rintro g v ⟨a,cap,h1,h2,h3,h4⟩
 refine⟨a,cap,by rw[<-h.len];exact h1,by rw[<-h.len];exact h2,?_,by cases o<;>(try exact h4)<;>rw[<-h.len]<;>exact h4⟩;rcases h3 with rfl|⟨sz,b,o,ha,hr⟩
 ·exact .inl (List.length_eq_zero_iff.mp h.len.symm)
 ·exact .inr ⟨sz,b,o,ha,h.rep hr⟩
theorem O2: ∀ds:fQ,WkL ds ds
 |[]=>trivial
 |d::ds=>⟨A9 d,O2 ds⟩
theorem QU: ∀es:fV,WkE es es
 |[]=>trivial
 |e::es=>⟨O2 e,QU es⟩
theorem WkE.app: ∀{az bs cs ds:fV},WkE az bs->WkE cs ds->WkE (az++cs) (bs++ds)
 |[],[],_,_,_,h=>h
 |_::_,_::_,_,_,⟨h1,h2⟩,h=>⟨h1,WkE.app h2 h⟩
 |[],_::_,_,_,h,_=>h.elim
 |_::_,[],_,_,h,_=>h.elim
end
def ZP{V:Sig}{sz:Nat}{st:MR}{es:fV}{j:Nat}{o:kM}(hm:mOK V sz st es)(hj:mS V st es j=none):(mS V st es).set j o=mS (V.set j o) st es/\mOK (V.set j o) sz st es:=by
 cases st with
 |none=>exact⟨rfl,hm⟩
 | some x =>
  obtain⟨i,cap,rest⟩:=x
  have gA:j≠i:=fun h=>by
   subst h;simp only[mS,w7]at hj;cases hj
  obtain⟨m1,m2,m3,m4⟩:=hm;refine⟨?_,k8 (aZ gA) m1,m2,m3,m4⟩
  funext k
  simp only[mS,Sig.set]
  by_cases h1:k=j
  ·subst h1;rw[aS rfl,aQ gA,aS rfl]
  ·by_cases h2:k=i
   ·subst h2;rw[aQ h1,aS rfl,aS rfl]
   ·rw[aQ h1,aQ h2,aQ h2,aQ h1]
def V8{V:Sig}{sz:Nat}{st:MR}{es:fV}{j:Nat}{o:kM}(hm:mOK V sz st es)(hj:V j=some o):mS V st es j=some o:=by
 cases st with
 |none=>exact hj
 |some x=>
  obtain⟨i,cap,rest⟩:=x;have gA:j≠i:=fun h=>by rw[h,hm.1]at hj;cases hj
  simp only[mS];rw[w8 _ _ gA];exact hj
def V7{V:Sig}{st:MR}{es:fV}{j:Nat}(hj:mS V st es j=none):V j=none:=by
 cases st with
 |none=>exact hj
 |some x=>
  obtain⟨i,cap,rest⟩:=x;simp only[mS,Sig.set]at hj
  by_cases h:j=i
  ·rw[aS h]at hj;cases hj
  ·rw[aQ h]at hj;exact hj
def mS_put{V:Sig}{sz:Nat}{st:MR}{es:fV}{j:Nat}{o x:kM}(hm:mOK V sz st es)(hj:V j=some x):(mS V st es).set j o=mS (V.set j o) st es/\mOK (V.set j o) sz st es:=by
 cases st with
 |none=>exact⟨rfl,hm⟩
 | some y =>
  obtain⟨i,cap,rest⟩:=y;obtain⟨m1,m2,m3,m4⟩:=hm;have gA:j≠i:=fun h=>by rw[h,m1]at hj;cases hj
  refine⟨?_,k8 (aZ gA) m1,m2,m3,m4⟩
  funext k
  simp only[mS,Sig.set]
  by_cases h1:k=j
  ·subst h1;rw[aS rfl,aQ gA,aS rfl]
  ·by_cases h2:k=i
   ·subst h2;rw[aQ h1,aS rfl,aS rfl]
   ·rw[aQ h1,aQ h2,aQ h2,aQ h1]
section
variable {P:Program}{tab:Nat->Ty}{ro:Option Nat}{n:Nat}{ops:Array Oper}{Q:DX->St->Prop}{γ:List (Nat×D)}{V:Sig}{df:List DDf}{rest:List Oper}{t:Nat}{ty:TypeId}{pos:String}{after:Array Edge}
theorem QG(ht:BC P tab){T len e:Nat}(gb:t<n)(hk:(tab T).k=.array len e)(he:A5 (tab e).k=false)
  (h:aC P ro n ops Q rest ⟨(t,.agg (tab T).zero)::γ,V,df⟩):aC P ro n ops Q (⟨some t,.build T #[],ty,pos,after,none⟩::rest) ⟨γ,V,df⟩:=by
 refine EL (fun d U'=>d=.agg (tab T).zero/\U'=V) rfl (fun c e=>by cases e) (Ah fun c e=>by cases e) (by simp[AJ,gb]) ?_ (fun d U' ⟨a,b⟩=>by subst a b;exact h);intro g w a hs _;obtain⟨inf,desc,z,h1,h2,h3,h4,h5,h6,h7,h8,h9,jF⟩:=Db (ht T) (by rw[hk];simp);obtain⟨inf',_,_,g1,_⟩:=Db (ht e) (Aj he)
 have hz:kI g (tab T).zero z.cells.toList:=by
  rw[h9]
  exact Bs k7 fun j x v e1 e2=>by
   rw[bN,e2]at e1;cases e1;exact F1 g v
 have hb:P.built T []=some z.cells:=by
  unfold Program.built;rw[h1,JY ht hk];simp only[h7,g1];rfl
 refine⟨g,w,.agg z.cells,.agg (tab T).zero,V,?_,.refl g,hs,⟨z.cells.toList,k7,hz⟩,rfl,rfl⟩;have:=run_build (P:=P) w T #[] z.cells hb;simp only[execOp,Array.map_empty,bb,this,aU];rfl
end
end Go.DL
