/- A part of the proof. -/
import Derived.Test.YtlfimpogphmbdaaGreatQ07
import Derived.Maps.RangeRun
import Derived.RecoverIn
import Derived.Laws.IdiomCopy
import Derived.Laws.IdiomStrings
set_option linter.all false
namespace Go.DL
open Go
theorem Np{g:G}: ∀{l:List (D×D)}{es:List MapEntry},RepM g l es->RepL g (l.map (·.1)) (es.map (·.key))/\RepL g (l.map (·.2)) (es.map (·.val))
 |[],es,h=>by rw[show es=[] from h];exact⟨rfl,rfl⟩
 |(k,d)::l,es,⟨e,r,he,h1,h2,h3⟩=>by
  subst he
  obtain⟨a,b⟩:=Np h3
  exact⟨⟨_,_,rfl,h1,a⟩,⟨_,_,rfl,h2,b⟩⟩
theorem RepM.get{g:G}: ∀{l:List (D×D)}{es:List MapEntry},RepM g l es->∀{j:Nat}{e:MapEntry},es[j]? = some e->∃k v,l[j]? = some (k,v)/\Rep g k e.key/\Rep g v e.val
 |[],es,h,j,e,he=>by rw[show es=[] from h]at he;simp at he
 |(k,d)::l,es,⟨e',r,gb,h1,h2,h3⟩,j,e,he=>by
  subst gb
  cases j with
  |zero=>simp at he;subst he;exact⟨k,d,rfl,h1,h2⟩
  |succ j=>simpa using h3.get (by simpa using he)
theorem RepM.len{g:G}: ∀{l:List (D×D)}{es:List MapEntry},RepM g l es->es.length=l.length
 |[],es,h=>by rw[show es=[] from h];rfl
 |(k,d)::l,es,⟨e',r,gb,h1,h2,h3⟩=>by subst gb;simp[h3.len]
theorem RepM.erase{g:G}: ∀{l:List (D×D)}{es:List MapEntry},RepM g l es->∀(j:Nat),RepM g (l.eraseIdx j) (es.eraseIdx j)
 |[],es,h,j=>by rw[show es=[] from h];exact rfl
 |(k,d)::l,es,⟨e',r,gb,h1,h2,h3⟩,j=>by
  subst gb
  cases j with
  |zero=>exact h3
  |succ j=>exact⟨e',_,rfl,h1,h2,h3.erase j⟩
theorem MW(a:Array Nat)(x y:Nat):(a.push x).contains y=(a.contains y||y==x):=by
 rw[aO]
 simp only[Array.contains_iff_mem,Array.mem_push,bL,cp]
theorem FY(p:Nat->Bool)(e:MapEntry): ∀(L:List MapEntry) (j:Nat),(L.map (·.born)).Nodup->(L.filter fun x=>p x.born)[j]? = some e->
  (L.filter fun x=>p x.born&&!(x.born==e.born))=(L.filter fun x=>p x.born).eraseIdx j
 |[],j,_,h=>by simp at h
 | y::L,j,hn,h=>by
  have gP:=cP.1 (show(y.born::L.map (·.born)).Nodup from hn)
  cases hp:p y.born with
  |false=>
   rw[eD (p:=fun x:MapEntry=>p x.born) (by simp[hp])]at h⊢
   rw[eD (by simp[hp])]
   exact FY p e L j gP.2 h
  | true =>
   rw[List.filter_cons_of_pos (p:=fun x:MapEntry=>p x.born) (by simp[hp])]at h⊢
   cases j with
   | zero =>
    simp only[eA,bq]at h
    subst h
    rw[eD (by simp),List.eraseIdx_zero,List.tail_cons]
    refine List.filter_congr fun x hx=>?_
    have iU:(x.born==y.born)=false:=by
     have:x.born≠y.born:=fun e=>gP.1 (e ▸ dq hx)
     simpa using this
    rw[iU];simp
   | succ j =>
    simp only[dK]at h
    have f7:e∈L:=(bH.1 (cK h)).1
    have iR:(y.born==e.born)=false:=by
     have:y.born≠e.born:=fun e'=>gP.1 (e' ▸ dq f7)
     simpa using this
    rw[List.filter_cons_of_pos (by simp[hp,iR]),eE,FY p e L j gP.2 h]
def G.addKeep(g:G)(b:Nat)(o:Obj):G:={ g with keep:=fun k=>if k=b then some o else g.keep k }
section
variable {P:Program}{ro:Option Nat}{n:Nat}{ops:Array Oper}{Q:DX->St->Prop}{rest:List Oper}{tab:Nat->Ty}{γ:List (Nat×D)}{V:Sig}{df:List DDf}
theorem Sim.mapStays{g:G}{w:World}(fU:Sim P g V w){i b:Nat}{l:List (D×D)}(hi:V i=some (.map l))(hb:g.rho i=some b):
  ∃g',g.le g'/\Sim P g' (V.del i) w/\Rep g' (.cmap (l.map (·.1)) (l.map (·.2))) (.map (some b)):=by
 obtain⟨b',es,clock,fM,d7,hr,fN⟩:=fU.obj i _ hi
 obtain rfl:b'=b:=by rw[hb]at fM;cases fM;rfl
 have gJ:blk g V i=some b':=by simp[blk,hi,hb]
 have gF:=fU.free i b' gJ
 have fJ:g.le (g.addKeep b' (.map es clock)):=
  {imm:=fun _ _ _ h=>h,rho:=fun _ _ h=>h,hist:=fun _ _ _ h=>h,io:=rfl
   keep:=fun k o h=>by
    simp only[G.addKeep]
    by_cases hk:k=b'
    ·rw[hk,gF.1]at h;cases h
    ·rw[aN hk];exact h }
 have gG:∀j o,V.del i j=some o->j≠i/\V j=some o:=fun j o h=>by
  by_cases hj:j=i
  ·subst hj;simp[Sig.del]at h
  ·exact⟨hj,by simpa[Sig.del,hj] using h⟩
 have fY:∀j c,blk (g.addKeep b' (.map es clock)) (V.del i) j=some c->j≠i/\blk g V j=some c:=by
  intro j c h
  by_cases hj:j=i
  ·subst hj;simp[blk,Sig.del]at h
  ·refine⟨hj,?_⟩
   unfold blk at h⊢
   simp only[Sig.del,hj,bd]at h
   exact h
 refine⟨_,fJ,?_,?_⟩
 ·exact {
   imm:=fU.imm
   keep:=fun k o h=>by
    simp only[G.addKeep]at h
    by_cases hk:k=b'
    ·rw[aS hk]at h;cases h;rw[hk];exact d7
    ·rw[aN hk]at h;exact fU.keep k o h
   obj:=fun j o h=>(fU.obj j o (gG j o h).2).mono fJ fun _ _ _ _ _ _ _ _ _ _ h=>h
   inj:=fun j k c h1 h2=>fU.inj j k c (fY j c h1).2 (fY k c h2).2
   free:=fun j c h=>by
    obtain⟨hj,h'⟩:=fY j c h
    obtain⟨h1,h2⟩:=fU.free j c h'
    have hc:c≠b':=fun e=>hj (fU.inj j i b' (e ▸ h') gJ)
    refine⟨by simp only[G.addKeep];rw[aN hc];exact h1,fun hh o=>h2 (fun x hx=>hh x (by simp only[Sig.del,hj,bd];exact hx)) o⟩
   htop:=fun j sz n k h hk=>fU.htop j sz n k (gG j _ h).2 hk
   hdom:=fU.hdom
   io:=fU.io
   fin:=fU.fin }
 ·obtain⟨a1,a2⟩:=Np hr
  exact⟨b',es,clock,rfl,by simp[G.addKeep],fN,RepL.mono fJ _ a1,RepL.mono fJ _ a2⟩
theorem J4{t i:Nat}{l:List (D×D)}(hi:V i=some (.map l))(hg:getD γ t=.map i):Wk P n ⟨γ,V,df⟩ ⟨(t,.cmap (l.map (·.1)) (l.map (·.2)))::γ,V.del i,df⟩:=by
 intro g w a hs
 have iO:=hs.tmps.2 t
 rw[hg]at iO
 obtain⟨b,hb,hv⟩:=iO
 obtain⟨g',fJ,h1,h2⟩:=hs.sim.mapStays hi hb
 refine⟨g',fJ,⟨h1,⟨hs.tmps.1,fun k=>?_⟩,hs.df.mono fJ⟩⟩
 rw[Aa]
 by_cases hk:k=t
 ·rw[aS hk,hk,hv];exact h2
 ·rw[aN hk];exact Rep.mono fJ _ (hs.tmps.2 k)
def Q3:D->Option (List (D×D))
 |.cmap ks vs=>some (ks.zip vs)
 |.aq=>some []
 |_=>none
theorem Re{c:Nat}{es:Array MapEntry}(h:Stamps c es.toList): ∀x∈es.toList,x.born<c:=h.2
variable (ht:Bs P tab)
include ht
theorem Su{t T kt et:Nat}{x:Operand}{ty:TypeId}{pos:String}{after:Array Edge}{l:List (D×D)}(d9:t<n)(hk:(tab T).k=.map kt et)(hx:Q3 (ev γ x)=some l)
  (h:∀i,V i=none->av P ro n ops Q rest ⟨(t,.obj i)::γ,V.set i (.iter l none),df⟩) :
  av P ro n ops Q (⟨some t,.range T x,ty,pos,after,none⟩::rest) ⟨γ,V,df⟩:=by
 refine HJ (mk:=fun i=>.obj i) (d:=.iter l none) rfl (fun c e=>by cases e) (Ah fun c e=>by cases e) (by simp[AD,d9]) rfl ?_ h
 intro g w a hs hT
 have e8:=Au hT x
 have hu:=GN ht hk
 unfold Q3 at hx
 split at hx<;>(try (cases hx;done))
 ·rename_i ks vs he
  cases hx
  rw[he]at e8
  obtain⟨b,es,clock,hv,d8,fN,r1,r2⟩:=e8
  have d7:=hs.keep _ _ d8
  refine⟨.mapIter (some b) clock #[] clock,.pointer (some ⟨w.heap.size,0,none⟩),?_,fun i hi=>⟨⟨w.heap.size,by simp[G.bind],.inr ⟨b,es,clock, #[],dn,d8,fN,?_,fun k v h=>by cases h⟩⟩,w.heap.size,by simp[G.bind],rfl⟩⟩
  ·simp only[execOp,Instr.range,hv,aU,A3 hu,aK,Cf d7,bf,I0]
  ·have:(es.toList.filter fun e=> !(#[]:Array Nat).contains e.born)=es.toList:=List.filter_eq_self.2 fun e _=>by simp
   rw[this]
   exact RepM.mono (G.bind_le hi) _ (Mf r1 r2)
 ·rename_i he
  cases hx
  rw[he]at e8
  have hv:a.eval x=.map none:=e8
  refine⟨.mapIter none 0 #[] 0,.pointer (some ⟨w.heap.size,0,none⟩),?_,fun i hi=>⟨⟨w.heap.size,by simp[G.bind],.inl ⟨rfl,rfl,dn⟩⟩,w.heap.size,by simp[G.bind],rfl⟩⟩
  simp only[execOp,Instr.range,hv,aU,A3 hu,aK,bf,I0]
omit ht in
theorem VW{t i:Nat}{x:Operand}{ty:TypeId}{pos:String}{after:Array Edge}{left:List (D×D)}{last:Option (D×D)}(d9:t<n)(hx:ev γ x=.obj i)(hi:V i=some (.iter left last))
  (h0:left=[]->av P ro n ops Q rest ⟨(t,.tup [.bool false])::γ,V,df⟩)
  (h1:∀j k v,left[j]? = some (k,v)->av P ro n ops Q rest ⟨(t,.tup [.bool true,k,v])::γ,V.set i (.iter (left.eraseIdx j) (some (k,v))),df⟩) :
  av P ro n ops Q (⟨some t,.next x false,ty,pos,after,none⟩::rest) ⟨γ,V,df⟩:=by
 refine Eo (fun d S'=>(left=[]/\d=.tup [.bool false]/\S'=V) \/ ∃j k v,left[j]? = some (k,v)/\d=.tup [.bool true,k,v]/\S'=V.set i (.iter (left.eraseIdx j) (some (k,v)))) rfl (fun c e=>by cases e) (Ah fun c e=>by cases e) (by simp[AD,d9]) ?_ ?_
 ·intro g w a hs hT
  have e8:=Au hT x
  rw[hx]at e8
  obtain⟨b,hb,hv⟩:=e8
  obtain⟨b',fM,fX⟩:=hs.obj _ _ hi
  obtain rfl:b'=b:=by rw[hb]at fM;cases fM;rfl
  rcases fX with⟨hl,_,hh⟩|⟨mb,es,clock,seen,hh,d8,fN,hr,_⟩
  ·refine⟨g,w,.tuple #[.bool false],.tup [.bool false],V,?_,.refl g,hs,⟨_,rfl,_,_,rfl,rfl,rfl⟩,.inl ⟨hl,rfl,rfl⟩⟩
   simp[execOp,hv,Instr.next,getObj,Sem.run,hh]
  ·have gY:=hs.keep _ _ d8
   rcases run_next_at (P:=P) w ty b' mb clock clock seen es clock hh gY (Re fN) (bm _)with⟨e7,d6⟩|⟨e,he,w1,gM,d6⟩
   ·have hl:left=[]:=by
     have h1:=hr.len
     have h2:(es.toList.filter fun e=> !seen.contains e.born).length=0:=by
      have:=e7;unfold leftOf at this
      rw[<-Array.toList_filter,bN];exact this
     exact bC.1 (by omega)
    refine⟨g,w,.tuple #[.bool false],.tup [.bool false],V,?_,.refl g,hs,⟨_,rfl,_,_,rfl,rfl,rfl⟩,.inl ⟨hl,rfl,rfl⟩⟩
    simp only[execOp,hv,aU,d6,aK,bf]
   ·have gb:e∈es.toList.filter fun e=> !seen.contains e.born:=by
     unfold leftOf at he;rwa [Array.toList_filter]at he
    obtain⟨j,hj,jr⟩:=bh gb
    have iJ:(es.toList.filter fun e=> !seen.contains e.born)[j]? = some e:=by rw[aM hj,jr]
    obtain⟨k,v,jn,rk,rv⟩:=hr.get iJ
    have ja:Sim P g V w1:=by rcases gM with rfl|rfl;exact hs;exact hs.drew
    have iM:w1.heap[b']? = some (.mapIter (some mb) clock seen clock):=by rcases gM with rfl|rfl<;>exact hh
    have fO:=ja.setAny (i:=i) (b:=b') (d':=.iter (left.eraseIdx j) (some (k,v))) (o:=.mapIter (some mb) clock (seen.push e.born) clock) hi rfl rfl hb iM
     ⟨b',hb,.inr ⟨mb,es,clock,seen.push e.born,Dm iM,d8,fN,?_,?_⟩⟩
    ·refine⟨g,_,.tuple #[.bool true,e.key,e.val],.tup [.bool true,k,v],_,?_,.refl g,fO,⟨_,rfl,_,_,rfl,rfl,_,_,rfl,rk,_,_,rfl,rv,rfl⟩,.inr ⟨j,k,v,jn,rfl,rfl⟩⟩
     simp only[execOp,hv,aU,d6,aK,bf]
     rfl
    ·have gA:∀x:MapEntry,(!(seen.push e.born).contains x.born)=(!seen.contains x.born&&!(x.born==e.born)):=by
      intro x
      have:(seen.push e.born).contains x.born=(seen.contains x.born||x.born==e.born):=MW ..
      rw[this,Bool.not_or]
     have hk:=FY (fun b=> !seen.contains b) e es.toList j fN.1 iJ
     simp only[gA]
     rw[hk]
     exact hr.erase j
    ·intro k' v' g7
     cases g7
     refine⟨e,e.born,by simp,?_,rk,rv⟩
     have jC:e∈es.toList:=(bH.1 gb).1
     rw[<-Array.find?_toList];exact find_born e es.toList fN.1 jC
 ·rintro d S' (⟨a,rfl,rfl⟩|⟨j,k,v,a,rfl,rfl⟩)
  ·exact h0 a
  ·exact h1 j k v a
omit ht in
theorem Sy{t i:Nat}{x:Operand}{ty:TypeId}{pos:String}{after:Array Edge}{left:List (D×D)}{k v:D}(d9:t<n)(hx:ev γ x=.obj i)(hi:V i=some (.iter left (some (k,v))))
  (h:av P ro n ops Q rest ⟨(t,.tup [k,v])::γ,V,df⟩) :
  av P ro n ops Q (⟨some t,.entry x,ty,pos,after,none⟩::rest) ⟨γ,V,df⟩:=by
 refine Eo (fun d S'=>d=.tup [k,v]/\S'=V) rfl (fun c e=>by cases e) (Ah fun c e=>by cases e) (by simp[AD,d9]) ?_ (fun d S' ⟨a,b⟩=>by subst a b;exact h)
 intro g w a hs hT
 have e8:=Au hT x
 rw[hx]at e8
 obtain⟨b,hb,hv⟩:=e8
 obtain⟨b',fM,fX⟩:=hs.obj _ _ hi
 obtain rfl:b'=b:=by rw[hb]at fM;cases fM;rfl
 rcases fX with⟨_,hl,_⟩|⟨mb,es,clock,seen,hh,d8,fN,hr,gE⟩
 ·cases hl
 ·obtain⟨e,st,f1,f2,f3,f4⟩:=gE k v rfl
  have gY:=hs.keep _ _ d8
  refine⟨g,w,.tuple #[e.key,e.val],.tup [k,v],V,?_,.refl g,hs,⟨_,rfl,_,_,rfl,f3,_,_,rfl,f4,rfl⟩,rfl,rfl⟩
  simp[execOp,hv,Instr.entry,getObj,Sem.run,hh,gY,f1,f2]
omit ht in
theorem LJ{fop:Operand}{args:Array Operand}{ats:Array TypeId}{dst:Option Tmp}{ty:TypeId}{pos:String}{after:Array Edge}{f:Nat}{first cap:fE}(fK:f<P.funcs.size)
  (hf:ev γ fop=.func (.func f) first cap) (ho:AD n ⟨dst,.defer { callee:=.value fop,args,argTypes:=ats },ty,pos,after,none⟩=true)
  (h:av P none n ops Q rest ⟨putD dst .any γ,V,.fn f (first++args.toList.map (ev γ)) cap::df⟩) :
  av P none n ops Q (⟨dst,.defer { callee:=.value fop,args,argTypes:=ats },ty,pos,after,none⟩::rest) ⟨γ,V,df⟩:=by
 intro g w a r hr hs
 obtain rfl:r=none:=hr
 unfold wpListIn
 rw[AV (o:=⟨dst,.defer { callee:=.value fop,args,argTypes:=ats },ty,pos,after,none⟩) (b:=true) hs.tmps rfl,aS rfl]
 have gQ:=Au hs.tmps fop
 rw[show ev (St.mk γ V df).γ fop=.func (.func f) first cap from hf]at gQ
 obtain⟨fs,cs,gQ,je,jd⟩:=gQ
 have fP:(resolve a.eval { callee:=.value fop,args,argTypes:=ats } ty).run P w=.ok { target:=.fn (.func f) cs.toArray,args:=fs.toArray++args.map a.eval } w:=by
  simp[resolve,gQ,Deferred.ofValue,Sem.run]
 refine⟨fun f' gu=>(Ah (fun c e=>by cases e) _ _ _ gu).elim,?_⟩
 have d6:(Oper.semAt (FX P none).round a.eval ⟨dst,.defer { callee:=.value fop,args,argTypes:=ats },ty,pos,after,none⟩).run P w=.ok (.defer { target:=.fn (.func f) cs.toArray,args:=fs.toArray++args.map a.eval }) w:=by
  simp only[FX,Oper.semAt,execOp,aU,fP,aK,bf]
 rw[d6]
 have f6:=hs.put (d:=.any) (v:=undef) (S':=V) (w':=w) (.refl g) hs.sim trivial ho
 refine h g w _ none rfl ⟨f6.sim,?_,?_⟩
 ·have e:({ a with defers:={ target:=.fn (.func f) cs.toArray,args:=fs.toArray++args.map a.eval }::a.defers }:Act).put dst undef={ (a.put dst undef)with defers:={ target:=.fn (.func f) cs.toArray,args:=fs.toArray++args.map a.eval }::a.defers }:=by cases dst<;>rfl
  show RepT g _ n (({ a with defers:={ target:=.fn (.func f) cs.toArray,args:=fs.toArray++args.map a.eval }::a.defers }:Act).put dst undef).tmps
  rw[e];exact f6.tmps
 ·have e:(({ a with defers:={ target:=.fn (.func f) cs.toArray,args:=fs.toArray++args.map a.eval }::a.defers }:Act).put dst undef).defers={ target:=.fn (.func f) cs.toArray,args:=fs.toArray++args.map a.eval }::a.defers:=by cases dst<;>rfl
  show RepDf g _ (({ a with defers:={ target:=.fn (.func f) cs.toArray,args:=fs.toArray++args.map a.eval }::a.defers }:Act).put dst undef).defers
  rw[e]
  exact⟨fs++args.toList.map a.eval,cs,a.defers,by simp,je.append (DQ hs.tmps _),jd,hs.df⟩
end
def P6(P:Program)(f:Nat)(args:fE)(V:Sig)(pan:Option D)(S':Sig):Prop:=
 ∀g w vs u,Sim P g V w->RepL g args vs->(match pan with|none=>u=.returning|some d=> ∃v,u=.panicking [{ v,recovered:=false }]/\Rep g d v)->
  CallsDIn (FX P none) 0 P f vs.toArray u w fun e u' w'=>(∃v,e=.returned v)/\settle u'=.returning /\ ∃g',g.le g'/\Sim P g' S' w'
def BodyD(P:Program)(n:Nat)(fn:Func)(fd:Nat)(R:DE->Sig->Prop):DX->St->Prop
 |.normal,s|.ret,s=> ∃cap S' d,s.df=[.fn fd [] cap]/\P6 P fd cap s.V none S'/\P5 P n fn ⟨s.γ,S',[]⟩ d/\R (.ret d) S'
 |.panic p,s=> ∃cap S' d,s.df=[.fn fd [] cap]/\P6 P fd cap s.V (some p) S'/\P5 P n fn ⟨s.γ,S',[]⟩ d/\R (.ret d) S'
 |.exit _,_=>False
theorem HM{P:Program}{f fd:Nat}{fn:Func}{c:Code}{args:fE}{V:Sig}{R:DE->Sig->Prop}(hf:P.funcs[f]? = some fn)(hb:fn.body=some c)(jz:Wo P fd)(ij:fd<P.funcs.size)
  (jg : (fn.name == "runtime.NumGoroutine") = false) {m : Nat} (hm : fn.ntmps = m) (hn : args.length <= m) (h : DWp P none m c (fun x s => ∃ s', Wk P m s s' /\ BodyD P m fn fd (Weak R) x s') { γ := CX 0 args, V }) : au P f args V R := by
 refine Ie ⟨(aR.1 hf).1,E0 hf jg (by rw[hb];rfl),fun g w vs hs ha=>?_⟩
 refine callsIn_of_wp_defers hf hb (by obtain⟨h1,_⟩:=aR.1 hf;exact h1) ?_ rfl
 subst hm
 refine de (h g w _ none rfl ⟨hs,Gd ha hn,rfl⟩) ?_
 rintro e a w' ⟨g',s1,x,h1,h2,h3,s2,iX,h4⟩
 obtain⟨g2,gD,fZ⟩:=iX _ _ _ h2
 have jF:=h1.trans gD
 have key:∀(u:FrameMode) (pan:Option D) (cap:fE) (S':Sig) (d:D),u≠.run->(match pan with|none=>u=.returning|some d=> ∃v,u=.panicking [{ v,recovered:=false }]/\Rep g2 d v)->
   s2.df=[.fn fd [] cap]->P6 P fd cap s2.V pan S'->P5 P fn.ntmps fn ⟨s2.γ,S',[]⟩ d->Weak R (.ret d) S'->LeavesIn (FX P none) 0 P fn a.tmps (PJ P g (Weak R)) a.defers u w':=by
  intro u pan cap S' d hu hp e1 e2 e3 e4
  have gR:=fZ.df
  rw[e1]at gR
  obtain⟨az,cs,rest,hd,ra,rc,gx⟩:=gR
  obtain rfl:az=[]:=ra
  obtain rfl:rest=[]:=gx
  rw[hd]
  refine leavesIn_cons hu (fun h=>by cases h) (f:=fd) (args:=cs.toArray) ?_ ?_ ?_
  ·simp only[invoke]
   have:=jz (#[]++cs.toArray) w'
   simpa using this
  ·intro g hg
   simp only[Target.leads,bq]at hg
   subst hg;exact ij
  ·refine(e2 g2 w' cs u fZ.sim rc hp).mono ?_
   rintro e u' w3 ⟨⟨v,rfl⟩,fO,g3,l3,iB⟩
   simp only[fO]
   obtain⟨v,hv,gh⟩:=e3 g3 { a with defers:=[] } w3 ⟨iB,fZ.tmps.mono l3,rfl⟩
   exact⟨v,hv,g3,.ret d,S',jF.trans l3,iB,⟨v,rfl,gh⟩,e4⟩
 cases x with
 |normal=>
  obtain rfl:=h3
  obtain⟨cap,S',d,e1,e2,e3,e4⟩:=h4
  exact key .returning none cap S' d (by simp) rfl e1 e2 e3 e4
 |ret=>
  obtain rfl:=h3
  obtain⟨cap,S',d,e1,e2,e3,e4⟩:=h4
  exact key .returning none cap S' d (by simp) rfl e1 e2 e3 e4
 |panic p=>
  obtain⟨v,rfl,gh⟩:=h3
  obtain⟨cap,S',d,e1,e2,e3,e4⟩:=h4
  exact key _ (some p) cap S' d (by simp) ⟨v,rfl,Rep.mono gD _ gh⟩ e1 e2 e3 e4
 |exit i=>exact h4.elim
theorem Rk{P:Program}{F:Fence}{n:Nat}{ops:Array Oper}{Q:Exit->Act->List Frame->World->Prop}{a:Act}{cs:List Frame}{w:World}{i:Nat}{l:fG}{o:Oper}{v:Value}(ho:ops[i]? = some o)(hg:o.guard=none)
  (gT:∀f,o.about P w a.eval=some f->F.fn f) (d6:(execOp a.eval o).run P w=.ok (.value v) w) (h:wpOpsSIn F n P ops Q l (a.put o.dst v) cs w):wpOpsSIn F n P ops Q (i::l) a cs w:=by
 have hw:Region.wanted o (yielded ops a.tmps)=true:=by simp[Region.wanted,hg]
 simp only[wpOpsSIn,ho,hw,bp,d6]
 exact⟨gT,h⟩
theorem Nx{P:Program}{F:Fence}{n:Nat}{ops:Array Oper}{Q:Exit->Act->List Frame->World->Prop}{a:Act}{cs cs':List Frame}{w:World}{i:Nat}{l:fG}{o:Oper}{v:Value}(ho:ops[i]? = some o)(hg:o.guard=none)
  (gT:∀f,o.about P w a.eval=some f->F.fn f) (d6:(execOp a.eval o).run P w=.ok .recover w) (e9:recoverD cs=some (v,cs')\/(recoverD cs=none/\v=.nilIface/\cs'=cs)) (h:wpOpsSIn F n P ops Q l (a.put o.dst v) cs' w):wpOpsSIn F n P ops Q (i::l) a cs w:=by
 have hw:Region.wanted o (yielded ops a.tmps)=true:=by simp[Region.wanted,hg]
 rcases e9 with e9|⟨e9,rfl,rfl⟩
 ·simp only[wpOpsSIn,ho,hw,bp,d6,e9]
  exact⟨gT,h⟩
 ·simp only[wpOpsSIn,ho,hw,bp,d6,e9]
  exact⟨gT,h⟩
theorem J3{P:Program}{F:Fence}{n:Nat}{Q:Exit->Act->List Frame->World->Prop}{a:Act}{cs cs':List Frame}{w:World}{id t4 t1 ty1 ty2:Nat}{p1 p2:String}{a1 a2:Array Edge}{rest:Code}{v:Value}
  (e9:recoverD cs=some (v,cs')\/(recoverD cs=none/\v=.nilIface/\cs'=cs)) (gN:t4<a.tmps.size)
  (h:rest.wpSIn F n P Q ((a.put (some t4) v).put (some t1) v) cs' w) :
  (Code.seq (.region id #[⟨some t4,.call { callee:=.builtin .recover,args:= #[],argTypes:= #[] },ty1,p1,a1,none⟩,⟨some t1,.assign (.tmp t4),ty2,p2,a2,none⟩] false) rest).wpSIn F n P Q a cs w:=by
 refine wpSIn_seq (wpSIn_region ?_)
 have hr:List.range (#[(⟨some t4,.call { callee:=.builtin .recover,args:= #[],argTypes:= #[] },ty1,p1,a1,none⟩:Oper),⟨some t1,.assign (.tmp t4),ty2,p2,a2,none⟩]:Array Oper).size=[0,1]:=rfl
 rw[hr]
 have go:(a.put (some t4) v).eval (.tmp t4)=v:=by simp[Act.put,Act.eval,gN]
 refine Nx (o:=⟨some t4,.call { callee:=.builtin .recover,args:= #[],argTypes:= #[] },ty1,p1,a1,none⟩) rfl rfl (fun f h=>by cases h) rfl e9 ?_
 refine Rk (o:=⟨some t1,.assign (.tmp t4),ty2,p2,a2,none⟩) (v:=v) rfl rfl (fun f h=>by cases h) ?_ h
 show(Sem.run P (pure (Next.value ((a.put (some t4) v).eval (.tmp t4)))) w)=_
 rw[go];rfl
theorem IX{P:Program}{f:Nat}{fn:Func}{id t4 t1 ty1 ty2:Nat}{p1 p2:String}{a1 a2:Array Edge}{rest:Code}{args:fE}{V S':Sig}{pan:Option D}{m:Nat}
  (hf:P.funcs[f]? = some fn) (hb:fn.body=some (Code.seq (.region id #[⟨some t4,.call { callee:=.builtin .recover,args:= #[],argTypes:= #[] },ty1,p1,a1,none⟩,⟨some t1,.assign (.tmp t4),ty2,p2,a2,none⟩] false) rest))
  (hm:fn.ntmps=m) (hn:args.length<=m) (gN:t4<m) (i0:t1<m) (fP:fn.results=#[])
  (h:DWp P none m rest (fun x s=>(x=.normal\/x=.ret)/\s.df=[]/\Sub S' s.V) ⟨(t1,pan.getD .niliface)::(t4,pan.getD .niliface)::CX 0 args,V,[]⟩):P6 P f args V pan S':=by
 intro g w vs u hs ha hu
 subst hm
 have fK:f<P.funcs.size:=(aR.1 hf).1
 refine callsDIn_of_wpSIn hf hb fK fun c₀ cs hc=>?_
 have hT:=Gd ha hn
 have f6:∀(d:D) (v:Value),Rep g d v->RepT g ((t1,d)::(t4,d)::CX 0 args) fn.ntmps (((({ tmps:=vs.toArray++Array.replicate (fn.ntmps-vs.toArray.size) undef,defers:=[] }:Act).put (some t4) v).put (some t1) v).tmps):=by
  intro d v hv
  have h1 := RepT.put (o := ⟨some t4, .move (.tmp 0), 0, "", #[], none⟩) (a := { tmps := vs.toArray ++ Array.replicate (fn.ntmps - vs.toArray.size) undef, defers := [] }) hT hv (by simp [AD, gN])
  exact RepT.put (o := ⟨some t1, .move (.tmp 0), 0, "", #[], none⟩) (a := ({ tmps := vs.toArray ++ Array.replicate (fn.ntmps - vs.toArray.size) undef, defers := [] } : Act).put (some t4) v) h1 hv (by simp [AD, i0])
 have e7:t4<(vs.toArray++Array.replicate (fn.ntmps-vs.toArray.size) undef).size:=by rw[hT.1];exact gN
 have fin:∀(d:D) (v:Value) (u':FrameMode) (cs':List Frame),pan.getD .niliface=d->Rep g d v->settle u'=.returning->cs'={ c₀ with mode:=u' }::cs->
   rest.wpSIn (FX P none) 0 P (bodyPostS P fn c₀ cs fun e u' w'=>(∃v,e=.returned v)/\settle u'=.returning /\ ∃g',g.le g'/\Sim P g' S' w')
    (((({ tmps:=vs.toArray++Array.replicate (fn.ntmps-vs.toArray.size) undef,defers:=[] }:Act).put (some t4) v).put (some t1) v)) cs' w:=by
  intro d v u' cs' hd hv fO gS
  refine wpSIn_of_wpIn rfl ?_
  subst hd
  refine de (h g w _ none rfl ⟨hs,f6 _ v hv,rfl⟩) ?_
  rintro e a w' ⟨g',s',x,l1,l2,l3,hx,gR,gw⟩
  have hd:a.defers=[]:=FH l2.df gR
  have hr:(results fn a.tmps).run P w'=.ok (.tuple #[]) w':=by simp[results,fP]
  rcases hx with rfl|rfl
  ·obtain rfl:=l3
   exact⟨hd,u',gS,_,hr,⟨_,rfl⟩,fO,g',l1,l2.sim.sub gw⟩
  ·obtain rfl:=l3
   exact⟨hd,u',gS,_,hr,⟨_,rfl⟩,fO,g',l1,l2.sim.sub gw⟩
 cases pan with
 |none=>
  have hu:u=.returning:=hu
  subst hu
  refine J3 (v:=.nilIface) (cs':=c₀::cs) (.inr ⟨?_,rfl,rfl⟩) e7 (fin .niliface .nilIface .returning _ rfl rfl rfl ?_)
  ·simp[recoverD,hc]
  ·rw[<-hc]
 |some d=>
  obtain⟨v,rfl,hv⟩:=hu
  refine J3 (v:=v) (cs':={ c₀ with mode:=.panicking [{ v,recovered:=true }] }::cs) (.inl ?_) e7 (fin d v (.panicking [{ v,recovered:=true }]) _ rfl hv rfl rfl)
  simp[recoverD,hc]
def nilB:TyK->Value->D->Option Bool
 |.iface,.nilIface,.niliface=>some true
 |.iface,.nilIface,.iface _ _=>some false
 |.ptr _,.pointer none,.ar=>some true
 |.ptr _,.pointer none,.am _ _=>some false
 |.ptr _,.pointer none,.ptr _ _=>some false
 |.ptr _,.pointer none,.obj _=>some false
 |_,_,_=>none
theorem KH{P:Program}{w:Go.World}(d:Nat)(t:TypeId){i}(h:P.underlying t=some (.interface i)):(Op.equalIn (d+1) t .nilIface .nilIface).run P w=.ok true w:=by
 simp[Op.equalIn,A3 h]
theorem KG{P:Program}{w:Go.World}(d:Nat)(t:TypeId){i}(h:P.underlying t=some (.interface i))(u:TypeId)(x:Value):(Op.equalIn (d+1) t (.iface u x) .nilIface).run P w=.ok false w:=by
 simp[Op.equalIn,A3 h]
theorem Fi{P:Program}{w:Go.World}(d:Nat)(t:TypeId){e}(h:P.underlying t=some (.pointer e))(p:Option Addr):(Op.equalIn (d+1) t (.pointer p) (.pointer none)).run P w=.ok p.isNone w:=by
 cases p<;>simp[Op.equalIn,A3 h]
theorem VV{P:Program}{tab:Nat->Ty}(ht:Bs P tab){ro:Option Nat}{n:Nat}{ops:Array Oper}{Q:DX->St->Prop}{rest:List Oper}{γ:Fr}{V:Sig}{df:List DDf}{t T T' ty:Nat}{x:Operand}{z:Value}{pos:String}{after:Array Edge}{guard:Option (Nat×Bool)}{b:Bool}(neg:Bool)
  (hw:AT ops γ ⟨some t,.binOp (if neg then .neq else .eql) T x (.const z) T',ty,pos,after,guard⟩=some true) (hb:nilB (tab T).k z (ev γ x)=some b) (d9:t<n)
  (h:av P ro n ops Q rest ⟨(t,.bool (b != neg))::γ,V,df⟩) :
  av P ro n ops Q (⟨some t,.binOp (if neg then .neq else .eql) T x (.const z) T',ty,pos,after,guard⟩::rest) ⟨γ,V,df⟩:=by
 refine MT hw (fun c e=>by cases e) (Ah fun c e=>by cases e) (d:=.bool (b != neg)) ?_ (by simp[AD,d9]) h
 intro g w a hs hT
 have hv:=Au hT x
 refine ORun.of (Aw (v:=.bool (b != neg)) hs ?_ rfl)
 have fin:∀(v:Value) (c:Bool),a.eval x=v->(Op.equal T v z).run P w=.ok c w->(∀op,(eqGuard op T x (.const z) v z).run P w=.ok () w)->
   (binOp .eql T v z=do pure (.bool (<-Op.equal T v z)))->(binOp .neq T v z=do pure (.bool (!(<-Op.equal T v z))))->
   (do eqGuard (if neg then .neq else .eql) T x (.const z) (a.eval x) (a.eval (.const z));binOp (if neg then .neq else .eql) T (a.eval x) (a.eval (.const z)):Sem Value).run P w=.ok (.bool (c != neg)) w:=by
  intro v c e1 e2 e3 e4 e5
  rw[e1,show a.eval (.const z)=z from rfl]
  cases neg
  ·simp only[bj,bd]
   rw[aU,e3,aK,e4,aU,e2,aK,bf]
   cases c<;>rfl
  ·simp only[bp]
   rw[aU,e3,aK,e5,aU,e2,aK,bf]
   cases c<;>rfl
 have iface:(tab T).k=.iface->∃i,P.underlying T=some (.interface i):=fun hk=>by
  obtain⟨desc,gH,gv⟩:=Fs ht hk (by simp)
  cases desc<;>simp[KOK]at gv
  exact⟨_,gH⟩
 have ptr:∀e,(tab T).k=.ptr e->P.underlying T=some (.pointer e):=fun e hk=>by
  obtain⟨desc,gH,gv⟩:=Fs ht hk (by simp)
  cases desc<;>simp[KOK]at gv
  rw[gH,gv]
 have gp:∀(p q:Option Addr) op,(eqGuard op T x (.const (.pointer q)) (.pointer p) (.pointer q)).run P w=.ok () w:=fun p q op=>by cases op<;>rfl
 unfold nilB at hb
 split at hb<;>(try (cases hb;done))<;>cases hb<;>rename_i hk he
 ·obtain⟨i,hd⟩:=iface hk
  rw[show ev (St.mk γ V df).γ x=.niliface from he]at hv
  exact fin .nilIface true hv (KH (P:=P) (w:=w) 9999 T hd) (fun op=>by cases op<;>cases x<;>rfl) rfl rfl
 ·obtain⟨i,hd⟩:=iface hk
  rw[show ev (St.mk γ V df).γ x=.iface _ _ from he]at hv
  obtain⟨y,hv,_⟩:=hv
  exact fin _ false hv (KG (P:=P) (w:=w) 9999 T hd _ _) (fun op=>by cases op<;>rfl) rfl rfl
 ·rw[show ev (St.mk γ V df).γ x=.ar from he]at hv
  exact fin (.pointer none) true hv (Fi (P:=P) (w:=w) 9999 T (ptr _ hk) none) (gp _ _) rfl rfl
 ·rw[show ev (St.mk γ V df).γ x=.am _ _ from he]at hv
  obtain⟨b,o,hv,_⟩:=hv
  exact fin _ false hv (Fi (P:=P) (w:=w) 9999 T (ptr _ hk) (some _)) (gp _ _) rfl rfl
 ·rw[show ev (St.mk γ V df).γ x=.ptr _ _ from he]at hv
  obtain⟨b,_,hv⟩:=hv
  exact fin _ false hv (Fi (P:=P) (w:=w) 9999 T (ptr _ hk) (some _)) (gp _ _) rfl rfl
 ·rw[show ev (St.mk γ V df).γ x=.obj _ from he]at hv
  obtain⟨b,_,hv⟩:=hv
  exact fin _ false hv (Fi (P:=P) (w:=w) 9999 T (ptr _ hk) (some _)) (gp _ _) rfl rfl
theorem OD{P:Program}{w:Go.World}(d:Nat)(t:TypeId)(h:P.underlying t=some .bool)(a b:Bool):(Op.equalIn (d+1) t (.bool a) (.bool b)).run P w=.ok (a==b) w:=by
 simp[Op.equalIn,A3 h]
theorem QS{P:Program}{tab:Nat->Ty}(ht:Bs P tab){ro:Option Nat}{n:Nat}{ops:Array Oper}{Q:DX->St->Prop}{rest:List Oper}{γ:Fr}{V:Sig}{df:List DDf}{t T T' ty:Nat}{x y:Operand}{pos:String}{after:Array Edge}{guard:Option (Nat×Bool)}{a b:Bool}(neg:Bool)
  (hw:AT ops γ ⟨some t,.binOp (if neg then .neq else .eql) T x y T',ty,pos,after,guard⟩=some true) (hk:(tab T).k=.bool) (hx:ev γ x=.bool a) (hy:ev γ y=.bool b) (d9:t<n)
  (h:av P ro n ops Q rest ⟨(t,.bool ((a==b) != neg))::γ,V,df⟩) :
  av P ro n ops Q (⟨some t,.binOp (if neg then .neq else .eql) T x y T',ty,pos,after,guard⟩::rest) ⟨γ,V,df⟩:=by
 refine MT hw (fun c e=>by cases e) (Ah fun c e=>by cases e) (d:=.bool ((a==b) != neg)) ?_ (by simp[AD,d9]) h
 intro g w ac hs hT
 have hv:=Au hT x
 have hu:=Au hT y
 rw[show ev (St.mk γ V df).γ x=.bool a from hx]at hv
 rw[show ev (St.mk γ V df).γ y=.bool b from hy]at hu
 have iY:ac.eval x=.bool a:=hv
 have iZ:ac.eval y=.bool b:=hu
 refine ORun.of (Aw (v:=.bool ((a==b) != neg)) hs ?_ rfl)
 obtain⟨desc,gH,gv⟩:=Fs ht hk (by simp)
 have hd:P.underlying T=some .bool:=by cases desc<;>simp[KOK]at gv;exact gH
 have e2:(Op.equal T (.bool a) (.bool b)).run P w=.ok (a==b) w:=OD (P:=P) (w:=w) 9999 T hd a b
 have e3:∀op,(eqGuard op T x y (.bool a) (.bool b)).run P w=.ok () w:=fun op=>by cases op<;>rfl
 rw[iY,iZ]
 cases neg
 ·simp only[bj,bd]
  rw[aU,e3,aK,show binOp .eql T (.bool a) (.bool b)=(do pure (.bool (<-Op.equal T (.bool a) (.bool b))):Sem Value) from rfl,aU,e2,aK,bf]
  cases (a==b)<;>rfl
 ·simp only[bp]
  rw[aU,e3,aK,show binOp .neq T (.bool a) (.bool b)=(do pure (.bool (!(<-Op.equal T (.bool a) (.bool b)))):Sem Value) from rfl,aU,e2,aK,bf]
  cases (a==b)<;>rfl
def Ku(P:Program)(T:Nat)(name:String)(f:Nat):Prop:= ∀(v:Value) (w:Go.World),(method (P.types.size+Made.depth) T v name).run P w=.ok (f,v) w
theorem Kf{P:Program}{ro:Option Nat}{n:Nat}{ops:Array Oper}{Q:DX->St->Prop}{rest:List Oper}{γ:Fr}{V:Sig}{df:List DDf}{rv:Operand}{name:String}{args:Array Operand}{ats:Array TypeId}{dst:Option Tmp}{ty:TypeId}{pos:String}{after:Array Edge}{guard:Option (Nat×Bool)}{f T:Nat}{d:D}{az:fE}{R:DE->Sig->Prop}
  (hw:AT ops γ ⟨dst,.call { callee:=.invoke rv name,args,argTypes:=ats },ty,pos,after,guard⟩=some true)
  (hx:ev γ rv=.iface T d) (hM:Ku P T name f) (h:au P f az V R) (has:WkL (d::args.toList.map (ev γ)) az)
  (ho:AD n ⟨dst,.call { callee:=.invoke rv name,args,argTypes:=ats },ty,pos,after,guard⟩=true)
  (gV:∀d S',R (.ret d) S'->av P ro n ops Q rest ⟨putD dst d γ,S',df⟩)
  (gW:∀d S',R (.panic d) S'->Q (.panic d) ⟨γ,S',df⟩) :
  av P ro n ops Q (⟨dst,.call { callee:=.invoke rv name,args,argTypes:=ats },ty,pos,after,guard⟩::rest) ⟨γ,V,df⟩:=by
 intro g w a r hr hs
 unfold wpListIn
 rw[AV hs.tmps hw,aS rfl]
 have hv:=Au hs.tmps rv
 rw[show ev (St.mk γ V df).γ rv=.iface T d from hx]at hv
 obtain⟨x,hv,iV⟩:=hv
 have fP:(resolve a.eval { callee:=.invoke rv name,args,argTypes:=ats } ty).run P w=.ok { target:=.fn (.method name) #[],args:= #[.iface T x]++args.map a.eval } w:=by
  simp only[resolve,hv];rfl
 refine⟨fun f' gu=>?_,?_⟩
 ·simp only[Oper.about,fP,Target.leads]at gu
  have h0:(#[Value.iface T x]++args.map a.eval)[0]? = some (.iface T x):=by rw[eu (Nat.zero_lt_one)];rfl
  rw[h0]at gu
  simp only[hM x w]at gu
  cases gu
  exact h.lt
 ·rw[cE _ _ _ (fun c e=>by cases e)]
  have d6:(execOp a.eval ⟨dst,.call { callee:=.invoke rv name,args,argTypes:=ats },ty,pos,after,guard⟩).run P w=.ok (.enter f (#[x]++args.map a.eval)) w:=by
   simp only[execOp,aU,fP,aK,invoke]
   have h0:(#[Value.iface T x]++args.map a.eval)[0]? = some (.iface T x):=by rw[eu (Nat.zero_lt_one)];rfl
   have h1:(#[Value.iface T x]++args.map a.eval).extract 1 (#[Value.iface T x]++args.map a.eval).size=args.map a.eval:=by
    apply dE;simp;exact bA (by simp)
   simp only[h0,h1,callMethod,program,aU]
   show(((method (P.types.size+Made.depth) T x name).run P w).andThen fun q w'=>(callFunc q.1 (#[q.2]++args.map a.eval)).run P w')=_
   rw[hM x w,aK]
   exact h.ent _ w
  rw[d6]
  refine⟨fun h=>(by cases h),?_⟩
  have gK:RepL g (d::args.toList.map (ev γ)) (x::args.toList.map a.eval):=⟨x,_,rfl,iV,DQ hs.tmps _⟩
  have hc:=h.run g w _ hs.sim (has.rep gK)
  have jE:CallsIn (FX P r) 0 P f (#[x]++args.map a.eval) w (PJ P g R):=by
   have e:(x::args.toList.map a.eval).toArray=#[x]++args.map a.eval:=by apply dE;simp
   rw[<-e];exact hc
  refine jE.mono ?_
  rintro e w' ⟨g',y,S',h1,h2,h3,h4⟩
  cases y with
  |ret d=>
   obtain⟨v,rfl,h5⟩:=h3
   exact AA h1 _ (gV d S' h4 g' w' _ r (hr.mono h1) (hs.put (o:=⟨dst,.call { callee:=.invoke rv name,args,argTypes:=ats },ty,pos,after,guard⟩) h1 h2 h5 ho))
  |panic d=>
   obtain⟨v,rfl,h5⟩:=h3
   exact⟨g',⟨γ,S',df⟩,.panic d,h1,⟨h2,hs.tmps.mono h1,hs.df.mono h1⟩,⟨v,rfl,h5⟩,gW d S' h4⟩
section
variable {P:Program}{ro:Option Nat}{n:Nat}{Q:DX->St->Prop}{s:St}
theorem Dl{b:Frame}{a:Act}{k:List Item}{cs:List Frame}{w:Go.World}{c:Code}:step P (lone (b.atR a (.code (.scope c)::k)) cs w)=.next (lone (b.atR a (.code c :: .inScope c::k)) cs w):=
 step_lone_go (by simp[stepG,stepG.exec,Frame.atR])
theorem Mc{b:Frame}{a:Act}{k:List Item}{cs:List Frame}{w:Go.World}{c:Code}:step P (lone (b.atR a (.inScope c::k)) cs w)=.next (lone (b.atR a k) cs w):=
 step_lone_go (by simp[stepG,stepG.exec,Frame.atR])
theorem OG{c:Code}(h:DWp P ro n c Q s):DWp P ro n (.scope c) Q s:=by
 intro g w a r hr hs
 intro b k cs jb hb gU
 have h0:(lone (b.atR a (.code (.scope c)::k)) cs w).fenced P (FX P r):=ex hb gU rfl
 obtain⟨e,a₁,w₁,⟨g',s',x,l1,l2,l3,l4⟩,fR⟩:=h g w a r hr hs b (.inScope c::k) cs jb hb gU
 have hp:Post P g n Q e a₁ w₁:=⟨g',s',x,l1,l2,l3,l4⟩
 cases e with
 |normal=>exact⟨.normal,a₁,w₁,hp,.head h0 Dl (dp fR (.one (ex hb gU rfl) Mc))⟩
 | exit id =>
  have hx:exitTo id (.inScope c::k)=exitTo id k:=by simp[exitTo]
  exact⟨.exit id,a₁,w₁,hp,fun k' hk=>.head h0 Dl (fR.1 k' (by rw[hx];exact hk)),
   fun jf hk=>let ⟨k₁,h1,h2⟩:=fR.2 jf (by rw[hx];exact hk);⟨k₁,h1,.head h0 Dl h2⟩⟩
 |goto l=>cases x<;>first|(cases l3;done)|(obtain⟨v,l3,_⟩:=l3;cases l3)
 |ret=>exact⟨_,a₁,w₁,hp,.of_steps (.one h0 Dl) fR⟩
 |panic ch=>exact⟨_,a₁,w₁,hp,.of_steps (.one h0 Dl) fR⟩
 |outgrown=>exact⟨_,a₁,w₁,hp,.of_steps (.one h0 Dl) fR⟩
end
section
variable {P:Program}{ro:Option Nat}{n:Nat}{ops:Array Oper}{N:Nat}{S0:Sig}{Q:DX->St->Prop}{df:List DDf}{E:fG}
theorem Tq(hN:P.funcs.size=N){ord:fG}{k:Nat}{ol:Oper}(fQ:ops.size=k+1)(gB:ops[k]? = some ol)(gk:mixB ops E [] ord=true)(gL:∀i,i<k->i∈ord)(fK:∀i∈ord,i<k)
  (gM:∀i,i<k->EF ops ops.size k i=true) (iz:∀e∈ol.after,Region.binds .any e=true->e.on<k) {g0:G}{rr:Option Nat} (hr:RoRep g0 ro rr) :
  ∀(m:Nat) (r:fG) (listed:Array Bool) (γ:Fr) (V:Sig),r.length=m->listed.size=ops.size->r=ord.filter (fun i=> !listed.getD i true)->listed.getD k true=false->Closed ops listed->
   MOps P ro n ops N S0 (Then (fun s=>av P ro n ops Q [ol] s) Q) df E r γ V->Sub S0 V->
   ∀(g:G) (w:World) (a:Act),g0.le g->SimS P g n ⟨γ,V,df⟩ a w->wpAnyIn (FX P rr) 0 P .any ops (Post P g0 n Q) (m+1) listed a w:=by
 have f7:∀(r:fG) (listed:Array Bool),Closed ops listed->r=ord.filter (fun i=> !listed.getD i true)->∀i∈Region.ready .any ops listed,i∈r\/(i=k/\r=[]):=by
  intro r listed fW hf i hi
  obtain⟨h1,o,ho,hd⟩:=mem_ready.1 hi
  have jw:i<k+1:=by rw[<-fQ];exact(aR.1 ho).1
  by_cases hk:i=k
  ·subst hk
   right
   refine⟨rfl,?_⟩
   rw[hf,cn]
   intro x hx
   have:=CC fW ops.size i x o ho hd (gM x (fK x hx))
   rcases cg x listed.size with h|h
   ·simp[h]at this⊢; exact this
   ·simp[bY h]at this
  ·left
   rw[hf,bH]
   exact⟨gL i (by omega),by rw[h1];rfl⟩
 intro m
 induction m with
 | zero =>
  intro r listed γ V hl e7 hf gZ fW h hC g w a hg hs
  obtain rfl:r=[]:=bC.1 hl
  have fL:∀x,x<k->listed.getD x true=true:=by
   intro x hx
   have:=(cn.1 hf.symm) x (gL x hx)
   simpa using this
  refine⟨fun he=>?_,fun i hi=>?_⟩
  ·exfalso
   have:k∈Region.ready .any ops listed:=by
    refine mem_ready.2 ⟨gZ,ol,gB,fun e hm hb=>?_⟩
    have h5:=fL _ (iz e hm hb)
    have gn:e.on<listed.size:=by rw[e7,fQ];have:=iz e hm hb;omega
    simpa[gn] using h5
   rw[he]at this;cases this
  ·obtain rfl:i=k:=by
    rcases f7 [] listed fW hf i hi with h|h
    ·cases h
    ·exact h.1
   have h1:av P ro n ops Q [ol] ⟨γ,V,df⟩:=fun g w a r hr hs=>by
    have h':=h g w a r hr hs
    obtain⟨g',s',x,k1,k2,k3,k4⟩:=h'
    cases x with
    |normal=>exact AA k1 _ (k4 g' w a r (hr.mono k1) k2)
    |ret=>cases k3
    |exit _=>cases k3
    |panic _=>obtain⟨v,k3,_⟩:=k3;cases k3
   have h2:=AA hg _ (h1 g w a rr (hr.mono hg) hs)
   unfold wpOpIn
   rw[gB]
   have hz:∀j,j<ops.size->(listed.setIfInBounds i true).getD j true=true:=by
    intro j hj
    by_cases iK:j=i
    ·subst iK
     have:j<listed.size:=by rw[e7];exact hj
     simp[this]
    ·rw[getD_set_ne true (fun e=>iK e.symm)];exact fL j (by omega)
   have iF:Region.ready .any ops (listed.setIfInBounds i true)=[]:=cF.2 fun j hj=>by
    obtain⟨h1,o,ho,_⟩:=mem_ready.1 hj
    rw[hz j (aR.1 ho).1]at h1;cases h1
   simp only[wpListIn]at h2
   simp only
   split
   ·rename_i hw
    rw[aS hw]at h2
    exact Oper.wpIn_mono (fun a w h=>⟨iF,h⟩) h2
   ·rename_i hw
    rw[aN hw]at h2
    exact⟨h2.1,iF,h2.2⟩
 | succ m ih =>
  intro r listed γ V hl e7 hf gZ fW h hC g w a hg hs
  obtain⟨y,t,rfl⟩:∃y t,r=y::t:=by cases r with|nil=>cases hl|cons y t=>exact⟨y,t,rfl⟩
  refine⟨fun he=>?_,fun i hi=>?_⟩
  ·exfalso
   obtain⟨l1,l2,gj,jm,hy,jH⟩:=bU.1 hf.symm
   subst gj
   obtain⟨h1,_,_,o,ho,iP,_⟩:=Et l1 [] gk
   have:y∈Region.ready .any ops listed:=by
    refine mem_ready.2 ⟨by simpa using hy,o,ho,fun e hm hb=>?_⟩
    rcases iP e hm hb with h4|h4
    ·have h5:=jm _ h4
     simp only[ca,dw]at h5
     have gn:e.on<listed.size:=by
      have:=fK e.on (by simp[h4])
      rw[e7,fQ];omega
     simpa[gn] using h5
    ·cases h4
   rw[he]at this;cases this
  ·have ju:i∈y::t:=by
    rcases f7 _ listed fW hf i hi with h|h
    ·exact h
    ·exact absurd h.2 (by simp)
   obtain⟨pre,post,gg⟩:=bX ju
   rw[gg]at hf h hl
   obtain⟨l1',l2',gj,iq,jB⟩:=cT.1 hf.symm
   obtain⟨m1,m2,g6,ji,jI,jA⟩:=bU.1 jB
   have fV:ord=(l1'++m1)++i::m2:=by rw[gj,g6];simp
   have jw:i<k:=fK i (by rw[fV];simp)
   rw[fV]at gk
   obtain⟨n1,_,n3,o,ho,iP,hx⟩:=Et (l1'++m1) [] gk
   obtain⟨jt,o',iE,fL⟩:=mem_ready.1 hi
   obtain rfl:o'=o:=by rw[ho]at iE;cases iE;rfl
   have gr:=Gg ho post pre γ V (fun x iy=>by
    have iW:x∈l1'++m1:=by
     have:x∈l1'.filter (fun i=> !listed.getD i true):=by rw[iq];exact iy
     simp[(bH.1 this).1]
    have iv:listed.getD x true=false:=by
     have:x∈l1'.filter (fun i=> !listed.getD i true):=by rw[iq];exact iy
     simpa using(bH.1 this).2
    rcases hx x iW with h4|h4
    ·exfalso
     have:=CC fW ops.size i x o' ho fL h4
     rcases cg x listed.size with fK|fK
     ·simp[fK]at this iv;rw[iv]at this;cases this
     ·simp[bY fK]at this
    ·exact h4) h
   have f9:pre++post=ord.filter (fun j=> !(listed.setIfInBounds i true).getD j true):=by
    have jv:i<listed.size:=by
     rw[e7];exact(aR.1 ho).1
    rw[fV,bW,cu]
    have e1:(listed.setIfInBounds i true).getD i true=true:=by simp[jv]
    rw[e1,Ay n1,Ay n3]
    simp only[cw,bj,bd,bW,iq,jA]
    rw[cn.2 (fun x hx=>by simpa using ji x hx),bb]
   have hlen:(pre++post).length=m:=by simp at hl⊢; omega
   have gC:(listed.setIfInBounds i true).getD k true=false:=by rw[getD_set_ne true (show i≠k by omega)];exact gZ
   obtain⟨o2,iD,hh⟩:=gr
   obtain rfl:o2=o':=by rw[ho]at iD;cases iD;rfl
   unfold wpOpIn
   simp only[ho]
   rcases hh with⟨d,hy,hM⟩|⟨_,hE⟩
   ·exact ET (Q:=Q) hN (hr.mono hg) hg hs hC hy fun g' w' a' g9 hs'=>ih _ _ _ _ hlen (by simpa using e7) f9 gC (fW.set hi) hM hC g' w' a' (hg.trans g9) hs'
   ·exact Dd (Q:=Q) (hr.mono hg) hg hs hE (fun g' w' a' d S' g9 hR hs'=>ih _ _ _ _ hlen (by simpa using e7) f9 gC (fW.set hi) hR.2 hR.1 g' w' a' (hg.trans g9) hs') fun d S' hp=>hp
def JD(ops:Array Oper)(E ord:fG):Bool:=mixB ops E [] ord&&(List.range (ops.size-1)).all ord.contains&&(ord.length==ops.size-1)&&ord.all (fun i=>decide (i<ops.size-1))&&(match ops[ops.size-1]? with
 |some o=>(List.range (ops.size-1)).all (fun i=>EF ops ops.size (ops.size-1) i)&&o.after.all (fun e=> !Region.binds .any e||decide (e.on<ops.size-1))
 |none=>false)
theorem QP(hN:P.funcs.size=N)(hm:P.follows .mixedOrders=true){l:List Oper}{id:Nat}{γ:Fr}{V:Sig}(ord E:fG)(S0:Sig){ol:Oper}(hB:JD l.toArray E ord=true)(hl:nthO l (l.length-1)=some ol)(hC:Sub S0 V)
  {lp:List (Bool×Oper)} (jl:GT l E ord=some lp) (h:MO P ro n l.toArray N S0 (Then (fun s=>av P ro n l.toArray Q [ol] s) Q) df lp γ V):DWp P ro n (.region id l.toArray true) Q ⟨γ,V,df⟩:=by
 intro g w a r hr hs
 refine wpIn_region_any hm ?_
 rw[Ju]at hl
 have hne:l.length≠0:=fun e=>by have:l=[]:=bC.1 e;subst this;cases hl
 unfold JD at hB
 simp only[aI,cp]at hB
 obtain⟨⟨⟨⟨b1,b2⟩,b3⟩,b4⟩,b5⟩:=hB
 have fQ:l.toArray.size=(l.toArray.size-1)+1:=by simp;omega
 have gB:l.toArray[l.toArray.size-1]? = some ol:=by simpa using hl
 rw[gB]at b5
 simp only[aI]at b5
 have fK:∀i∈ord,i<l.toArray.size-1:=fun i hi=>by simpa using bc.1 b4 i hi
 have hs':SimS P g n ⟨γ,V,df⟩ a { w with drawn:=w.drawn+1 }:=
  ⟨⟨fun b o v h=>hs.sim.imm b o v h,hs.sim.keep,fun i o h=>by
   have:=hs.sim.obj i o h
   cases o<;>exact this,hs.sim.inj,hs.sim.free,hs.sim.htop,hs.sim.hdom,hs.sim.fin,hs.sim.io⟩,hs.tmps,hs.df⟩
 have fW:Closed l.toArray (Array.replicate l.toArray.size false):=by
  intro q o _ hq
  rcases cg q l.length with h'|h'
  ·simp[h']at hq
  ·simp[h']at hq
 have jh:=EK (P:=P) (ro:=ro) (n:=n) (N:=N) (S0:=S0) (Q:=Then (fun s=>av P ro n l.toArray Q [ol] s) Q) (df:=df) (ops:=l.toArray) (E:=E) (ord:=ord) (fun i hi=>by have:=fK i hi;omega) (by rw[Jr jl];exact h)
 have:=Tq (P:=P) hN (ops:=l.toArray) (k:=l.toArray.size-1) fQ gB b1 (fun i hi=>by simpa using bc.1 b2 i (by simpa using hi)) fK
  (fun i hi=>bc.1 b5.1 i (fw.2 hi))
  (fun e he hb=>by
   have:=cb.1 b5.2 e he
   simpa[hb] using this)
  hr ord.length ord (Array.replicate l.toArray.size false) γ V rfl (by simp) (Dq (fun i hi=>by have:=fK i hi;omega)).symm (by
   have:l.toArray.size-1<l.toArray.size:=by omega
   rw[cC]
   simp only[Array.getElem?_replicate,this,bp];rfl) fW jh hC g _ a (.refl g) hs'
 rw[b3,<-fQ]at this
 exact this
end
theorem IK{g:G}{d d':D}(h:∀v,Rep g d v->Rep g d' v): ∀{az bs:fE}{vs:List Value},RepL g (az++d::bs) vs->RepL g (az++d'::bs) vs
 |[],_,_,⟨v,r,e,h1,h2⟩=>⟨v,r,e,h v h1,h2⟩
 |_::_,_,_,⟨v,r,e,h1,h2⟩=>⟨v,r,e,h1,IK h h2⟩
section
variable {P:Program}{n:Nat}{γ:List (Nat×D)}{V:Sig}{df:List DDf}
theorem BW{i:Nat}{az bs:fE}{d d':D}(hi:V i=some (.cells (az++d::bs)))(h:WkD d d'):Wk P n ⟨γ,V,df⟩ ⟨γ,V.set i (.cells (az++d'::bs)),df⟩:=
 fun g _ _ hs=>⟨g,.refl g,⟨hs.sim.retell hi fun _=>IK (h g),hs.tmps,hs.df⟩⟩
theorem EZ{i sz:Nat}{st:MR}{es:fH}{az bs:fE}(hm:mOK V sz st es)(hi:V i=some (.cells (az++mD st es.length::bs))):Wk P n ⟨γ,mS V st es,df⟩ ⟨γ,V.set i (.cells (az ++ .slice es .no::bs)),df⟩:=by
 cases st with
 |none=>
  obtain rfl:es=[]:=hm
  exact BW hi (Am _ (.inl rfl))
 |some x=>
  obtain⟨j,cap,rest⟩:=x
  obtain⟨m1,m2,m3,m4⟩:=hm
  have ga:i≠j:=fun h=>by rw[h,m1]at hi;cases hi
  intro g w a hs
  obtain⟨b,_,_,hb,_,_⟩:=hs.sim.obj j _ (w7 V j _)
  obtain⟨g',fJ,hs',jc⟩:=hs.sim.freeze (i:=j) (w7 V j _) hb
  have hZ:(mS V (some (j,cap,rest)) es).del j=V:=Sig.set_del _ _ m1
  simp only at hs'
  rw[hZ]at hs'
  refine⟨g',fJ,⟨hs'.retell hi fun vs=>IK fun v hv=>?_,hs.tmps.mono fJ,hs.df.mono fJ⟩⟩
  obtain⟨b',fM,hv⟩:=hv
  obtain rfl:b'=b:=by have:=fJ.rho _ _ hb;rw[this]at fM;cases fM;rfl
  exact⟨_,cap,hv,m3,.inr ⟨sz,b',0,rfl,Ge m4 jc⟩,trivial⟩
theorem WkL.repI{g:G}{b:Nat}: ∀{az bs:fE}{o:Nat},WkL az bs->RepI g b o az->RepI g b o bs
 |[],[],_,_,h=>h
 |_::_,_::_,_,⟨h1,h2⟩,⟨⟨v,h3,h4⟩,h5⟩=>⟨⟨v,h3,h1 g v h4⟩,WkL.repI h2 h5⟩
 |[],_::_,_,h,_=>h.elim
 |_::_,[],_,h,_=>h.elim
def WkE:fH->fH->Prop
 |[],[]=>True
 |a::az,b::bs=>WkL a b/\WkE az bs
 |_,_=>False
theorem WkE.len: ∀{az bs:fH},WkE az bs->az.length=bs.length
 |[],[],_=>rfl
 |a::az,b::bs,h=>by simp[WkE.len h.2]
 |[],_::_,h=>h.elim
 |_::_,[],h=>h.elim
theorem WkE.rep{g:G}{b sz:Nat}: ∀{az bs:fH}{o:Nat},WkE az bs->RepE g b sz o az->RepE g b sz o bs
 |[],[],_,_,h=>h
 |_::_,_::_,_,⟨h1,h2⟩,⟨⟨h3,h4⟩,h5⟩=>⟨⟨by rw[<-h1.len];exact h3,h1.repI h4⟩,WkE.rep h2 h5⟩
 |[],_::_,_,h,_=>h.elim
 |_::_,[],_,h,_=>h.elim
theorem HR{es es':fH}(o:Own)(h:WkE es es'):WkD (.slice es o) (.slice es' .no):=by
 rintro g v ⟨a,cap,h1,h2,h3,_⟩
 refine⟨a,cap,by rw[<-h.len];exact h1,by rw[<-h.len];exact h2,?_,trivial⟩
 rcases h3 with rfl|⟨sz,b,o,ha,hr⟩
 ·exact .inl (List.length_eq_zero_iff.mp h.len.symm)
 ·exact .inr ⟨sz,b,o,ha,h.rep hr⟩
theorem E6{es es':fH}(o:Own)(h:WkE es es'):WkD (.slice es o) (.slice es' o):=by
 rintro g v ⟨a,cap,h1,h2,h3,h4⟩
 refine⟨a,cap,by rw[<-h.len];exact h1,by rw[<-h.len];exact h2,?_,by cases o<;>(try exact h4)<;>rw[<-h.len]<;>exact h4⟩
 rcases h3 with rfl|⟨sz,b,o,ha,hr⟩
 ·exact .inl (List.length_eq_zero_iff.mp h.len.symm)
 ·exact .inr ⟨sz,b,o,ha,h.rep hr⟩
theorem N6: ∀ds:fE,WkL ds ds
 |[]=>trivial
 |d::ds=>⟨A9 d,N6 ds⟩
theorem PL: ∀es:fH,WkE es es
 |[]=>trivial
 |e::es=>⟨N6 e,PL es⟩
theorem WkE.app: ∀{az bs cs ds:fH},WkE az bs->WkE cs ds->WkE (az++cs) (bs++ds)
 |[],[],_,_,_,h=>h
 |_::_,_::_,_,_,⟨h1,h2⟩,h=>⟨h1,WkE.app h2 h⟩
 |[],_::_,_,_,h,_=>h.elim
 |_::_,[],_,_,h,_=>h.elim
end
theorem Y3{V:Sig}{sz:Nat}{st:MR}{es:fH}{j:Nat}{o:DObj}(hm:mOK V sz st es)(hj:mS V st es j=none):(mS V st es).set j o=mS (V.set j o) st es/\mOK (V.set j o) sz st es:=by
 cases st with
 |none=>exact⟨rfl,hm⟩
 | some x =>
  obtain⟨i,cap,rest⟩:=x
  have ga:j≠i:=fun h=>by
   subst h
   simp only[mS,w7]at hj
   cases hj
  obtain⟨m1,m2,m3,m4⟩:=hm
  refine⟨?_,by rw[w8 _ _ (aQ ga)];exact m1,m2,m3,m4⟩
  funext k
  simp only[mS,Sig.set]
  by_cases h1:k=j
  ·subst h1;rw[aS rfl,aN ga,aS rfl]
  ·by_cases h2:k=i
   ·subst h2;rw[aN h1,aS rfl,aS rfl]
   ·rw[aN h1,aN h2,aN h2,aN h1]
theorem TK{V:Sig}{sz:Nat}{st:MR}{es:fH}{j:Nat}{o:DObj}(hm:mOK V sz st es)(hj:V j=some o):mS V st es j=some o:=by
 cases st with
 |none=>exact hj
 |some x=>
  obtain⟨i,cap,rest⟩:=x
  have ga:j≠i:=fun h=>by rw[h,hm.1]at hj;cases hj
  simp only[mS];rw[w8 _ _ ga];exact hj
theorem TJ{V:Sig}{st:MR}{es:fH}{j:Nat}(hj:mS V st es j=none):V j=none:=by
 cases st with
 |none=>exact hj
 |some x=>
  obtain⟨i,cap,rest⟩:=x
  simp only[mS,Sig.set]at hj
  by_cases h:j=i
  ·rw[aS h]at hj;cases hj
  ·rw[aN h]at hj;exact hj
theorem mS_put{V:Sig}{sz:Nat}{st:MR}{es:fH}{j:Nat}{o x:DObj}(hm:mOK V sz st es)(hj:V j=some x):(mS V st es).set j o=mS (V.set j o) st es/\mOK (V.set j o) sz st es:=by
 cases st with
 |none=>exact⟨rfl,hm⟩
 | some y =>
  obtain⟨i,cap,rest⟩:=y
  obtain⟨m1,m2,m3,m4⟩:=hm
  have ga:j≠i:=fun h=>by rw[h,m1]at hj;cases hj
  refine⟨?_,by rw[w8 _ _ (aQ ga)];exact m1,m2,m3,m4⟩
  funext k
  simp only[mS,Sig.set]
  by_cases h1:k=j
  ·subst h1;rw[aS rfl,aN ga,aS rfl]
  ·by_cases h2:k=i
   ·subst h2;rw[aN h1,aS rfl,aS rfl]
   ·rw[aN h1,aN h2,aN h2,aN h1]
section
variable {P:Program}{tab:Nat->Ty}{ro:Option Nat}{n:Nat}{ops:Array Oper}{Q:DX->St->Prop}{γ:List (Nat×D)}{V:Sig}{df:List DDf}{rest:List Oper}{t:Nat}{ty:TypeId}{pos:String}{after:Array Edge}
theorem PA(ht:Bs P tab){T len e:Nat}(d9:t<n)(hk:(tab T).k=.array len e)(he:A6 (tab e).k=false)
  (h:av P ro n ops Q rest ⟨(t,.agg (tab T).zero)::γ,V,df⟩):av P ro n ops Q (⟨some t,.build T #[],ty,pos,after,none⟩::rest) ⟨γ,V,df⟩:=by
 refine Eo (fun d S'=>d=.agg (tab T).zero/\S'=V) rfl (fun c e=>by cases e) (Ah fun c e=>by cases e) (by simp[AD,d9]) ?_ (fun d S' ⟨a,b⟩=>by subst a b;exact h)
 intro g w a hs _
 obtain⟨inf,desc,z,h1,h2,h3,h4,h5,h6,h7,h8,h9,jK⟩:=CV (ht T) (by rw[hk];simp)
 obtain⟨inf',_,_,g1,_⟩:=CV (ht e) (Aj he)
 have hz:RepL g (tab T).zero z.cells.toList:=by
  rw[h9]
  exact Bf (by simp) fun j x v e1 e2=>by
   rw[bD,e2]at e1
   cases e1;exact ED g v
 have hb:P.built T []=some z.cells:=by
  unfold Program.built
  rw[h1,Jd ht hk]
  simp only[h7,g1]
  rfl
 refine⟨g,w,.agg z.cells,.agg (tab T).zero,V,?_,.refl g,hs,⟨z.cells.toList,by simp,hz⟩,rfl,rfl⟩
 have:=run_build (P:=P) w T #[] z.cells hb
 simp only[execOp,Array.map_empty,aU,this,aK]
 rfl
end
section
variable {P:Program}{ro:Option Nat}{n:Nat}{ops:Array Oper}{Q:DX->St->Prop}{rest:List Oper}{tab:Nat->Ty}{γ:List (Nat×D)}{V:Sig}{df:List DDf}
def SrcOK(P:Program)(V:Sig)(d:D)(m:Nat)(cs:fE):Prop:=
 ∀g w v,Sim P g V w->Rep g d v->∃a cap us,v=.slice a m cap/\RepL g cs us/\us.length=m/\(m=0 \/ ∃b o,a=some ⟨b,o,none⟩ /\ ∀j v,us[j]? = some v->w.cell? ⟨b,o+j,none⟩=some v)
theorem Wv{i off m cap:Nat}{ds:fE}(hi:V i=some (.cells ds))(h:off+m<=ds.length):SrcOK P V (.ap i off m cap) m ((ds.drop off).take m):=by
 intro g w v hs hr
 obtain⟨b,hb,rfl⟩:=hr
 obtain⟨b',vs,ty,fM,d7,hr⟩:=hs.obj i _ hi
 obtain rfl:b'=b:=by rw[hb]at fM;cases fM;rfl
 have hlen:=RepL.length hr
 simp only[bN]at hlen
 refine⟨_,_,(vs.toList.drop off).take m,rfl,Bf (by simp;omega) fun j d v h1 h2=>?_,by simp;omega,.inr ⟨b',off,rfl,fun j v hj=>?_⟩⟩
 ·have hj:j<m:=by have:=(bn.1 h1).1;simp at this;omega
  rw[cX hj,cH]at h1 h2
  have:=RepL.get hr (off+j)
  rw[h1,h2]at this
  exact this
 ·have g8:j<m:=by have:=(bn.1 hj).1;simp at this;omega
  rw[cX g8,cH,cc]at hj
  simp[World.cell?, d7,hj]
theorem SW{d:D}{es:fH}(h:esOf d=some es)(hl:∀c∈es,c.length=1):SrcOK P V d es.length es.flatten:=by
 intro g w v hs hr
 obtain⟨xa,xc,q1,q2,q3⟩:=CU h hr
 obtain⟨news,v1,v2,v3⟩:=CZ hs hl q3
 exact⟨xa,xc,news,q1,v1,by omega,v3⟩
variable (ht:Bs P tab)
include ht
theorem LK{t T T' ty e i off len cap m:Nat}{s x:Operand}{pos:String}{after:Array Edge}{ds cs:fE}
  (d9:t<n) (hk:(tab T).k=.slice e) (he:A6 (tab e).k=false) (e7:(tab e).size=1) (h1:ev γ s=.ap i off len cap) (hi:V i=some (.cells ds)) (hlen:off+len<=ds.length)
  (h2:SrcOK P V (ev γ x) m cs) (gS:Db cs=true)
  (h:av P ro n ops Q rest ⟨(t,.int .i64 ((min m len:Nat):Int))::γ,V.set i (.cells (ds.take off++(cs.take (min m len)++ds.drop (off+min m len)))),df⟩) :
  av P ro n ops Q (⟨some t,.call { callee:=.builtin .copy,args:= #[s,x],argTypes:= #[T,T'] },ty,pos,after,none⟩::rest) ⟨γ,V,df⟩:=by
 refine Eo (fun d S'=>d=.int .i64 ((min m len:Nat):Int)/\S'=V.set i (.cells (ds.take off++(cs.take (min m len)++ds.drop (off+min m len))))) rfl (fun c e=>by cases e) (Cd rfl rfl) (by simp[AD,d9]) ?_
  (fun d S' ⟨a2,a3⟩=>by subst a2 a3;exact h)
 intro g w a hs hT
 have gO:=Au hT s
 have e8:=Au hT x
 rw[h1]at gO
 obtain⟨b,hb,gO⟩:=gO
 obtain⟨xa,xc,us,hx,hr,jG,gI⟩:=h2 g w _ hs e8
 obtain⟨b2,vs,ty',iQ,d7,iC⟩:=hs.obj i _ hi
 obtain rfl:b2=b:=by rw[hb]at iQ;cases iQ;rfl
 have jk:=RepL.length iC
 simp only[bN]at jk
 have fW:=RepL.length hr
 obtain⟨inf,z,t1,t2,t3,t4,t5,t6,t7⟩:=Ca ht hk hk he
 have hu:P.underlying T=some (.slice e):=t1
 have hq:(P.info? e).map (·.size)=some 1:=by rw[t3];simp[t5,e7]
 have jJ:goInt ((min m len:Nat):Int)=.int .i64 ((min m len:Nat):Int):=rfl
 have d6 : ∃ w',(Builtin.copy_ #[T,T'] ty #[a.eval s,a.eval x]).run P w = .ok (goInt ((min m len:Nat):Int)) w'/\Sim P g (V.set i (.cells (ds.take off++(cs.take (min m len)++ds.drop (off+min m len))))) w':=by
  rw[gO,hx]
  by_cases h0:min m len=0
  ·refine⟨w,?_,?_⟩
   ·rw[h0];exact run_copy_none w T T' ty e _ _ len cap m xc hu hq (by show min m len=0;exact h0)
   ·rw[h0];simp only[List.take_zero,br,eF,dA]
    rw[show V.set i (.cells ds)=V from funext fun j=>by by_cases hj:j=i<;>simp[Sig.set,hj,hi]];exact hs
  ·obtain⟨b3,o3,rfl,jD⟩:=gI.resolve_left (by omega)
   have gc:(us.take (min m len)).length=min m len:=by simp;omega
   have hne:us.take (min m len)≠[]:=fun e=>by rw[e]at gc;simp at gc;omega
   have hl:=run_loadCells_list (P:=P) w ⟨b3,o3,none⟩ (us.take (min m len)) (fun j v hj=>by
    rw[Cc]
    have g8:j<min m len:=by have:=(bn.1 hj).1;simp at this;omega
    rw[cX g8]at hj
    exact jD j v hj)
   have ij:=Ec hr gS
   have fN:=CN (P:=P) (us.take (min m len)) 0 w vs d7 (fun v hv=>ij v (List.mem_of_mem_take hv)) (o:=off) (by rw[gc];omega)
   rw[aN hne]at fN
   refine⟨_,?_,hs.setObj (ty:=ty') (vs':=Cl vs (off+0) (us.take (min m len))) hi hb ?_ ⟨vs,d7⟩⟩
   ·have jx:inf.size=1:=by omega
    have gX:Nat.min m len=min m len:=rfl
    simp only[Builtin.copy_]
    simp[A3 hu,Builtin.lenOf,Builtin.firstCells,sizeOf,typeInfo,t3,jx,gX,hl,fN,gc]
    rw[gc]at hl
    simp[hl,fN]
   ·refine Bf (by simp only[aH,cj,dY,bN,E5];omega) fun j d v h1 h2=>?_
    have fZ:(Cl vs (off+0) (us.take (min m len)))[j]? = some v:=by simpa using h2
    rw[EB _ _ _ _ (by rw[gc];omega),gc]at fZ
    have hg:=RepL.get iC j
    rw[cL]at h1
    simp only[cj]at h1
    by_cases c1:j<off
    ·rw[aN (by omega)]at fZ
     rw[aS (by omega),cX c1]at h1
     rw[h1]at hg
     simp only[cc,fZ,bP]at hg
     exact hg
    ·rw[aN (by omega),cL]at h1
     simp only[cj]at h1
     have eo:min off ds.length=off:=by omega
     rw[eo]at h1
     by_cases c2:j-off<min m len
     ·rw[aS (by omega),cX (by omega)]at fZ
      rw[aS (by omega),cX (by omega)]at h1
      have:=RepL.get hr (j-off)
      rw[h1,show j-off=j-(off+0) by omega,fZ]at this
      exact this
     ·rw[aN (by omega)]at fZ
      rw[aN (by omega),cH,show off+min m len+(j-off-min (min m len) cs.length)=j by omega]at h1
      rw[h1]at hg
      simp only[cc,fZ,bP]at hg
      exact hg
 obtain⟨w',d6,f0⟩:=d6
 refine⟨g,w',goInt ((min m len:Nat):Int),.int .i64 ((min m len:Nat):Int),_,?_,.refl g,f0,rfl,rfl,rfl⟩
 simp[execOp,resolve,invoke,builtin,d6]
omit ht in
theorem Pc{g:G}{i b off len cap:Nat}(h:g.rho i=some b):Rep g (.ap i off len cap) (.slice (some ⟨b,off,none⟩) len cap):=⟨b,h,rfl⟩
theorem Wx{g:G}{w:World}{T e i off len cap:Nat}{k:IntKind}{v u:Value}{lo:Nat}(hk:(tab T).k=.slice e)(he:A6 (tab e).k=false)(hv:Rep g (.ap i off len cap) v)(hu:Rep g (.int k lo) u)(iH:lo<=len)(iI:lo<cap):
  ∃r,(Instr.sliceAt T v (some u) none none).run P w=.ok r w/\Rep g (.ap i (off+lo*(tab e).size) (len-lo) (cap-lo)) r:=by
 obtain⟨b,hb,rfl⟩:=hv
 obtain rfl:=BP hu
 refine⟨_,?_,Pc (len:=len-lo) (cap:=cap-lo) (off:=off+lo*(tab e).size) hb⟩
 have hu:=Bc ht hk
 have c1:(0:Int)<=(lo:Int):=by omega
 have c2:(lo:Int)<=(len:Int):=by omega
 have c3:¬cap=lo:=by omega
 simp only[bG,Instr.sliceAt,Instr.slice,Instr.sliceBounds,Instr.sliceBound,asIntOf,aU,bf,aK,A3 hu,c1,c2,dy,bp,B9 (ht e) (Aj he),dP,c3,bd,Cc]
theorem Wy{g:G}{w:World}{T e i off len cap:Nat}{k:IntKind}{v u:Value}{hi:Nat}(hk:(tab T).k=.slice e)(he:A6 (tab e).k=false)(hv:Rep g (.ap i off len cap) v)(hu:Rep g (.int k hi) u)(iL:hi<=cap):
  ∃r,(Instr.sliceAt T v none (some u) none).run P w=.ok r w/\Rep g (.ap i off hi cap) r:=by
 obtain⟨b,hb,rfl⟩:=hv
 obtain rfl:=BP hu
 refine⟨_,?_,Pc (len:=hi) (cap:=cap) (off:=off) hb⟩
 have hu:=Bc ht hk
 have c1:(0:Int)<=(hi:Int):=by omega
 have c2:(hi:Int)<=(cap:Int):=by omega
 simp only[Instr.sliceAt,Instr.slice,Instr.sliceBounds,Instr.sliceBound,asIntOf,aU,bf,aK,A3 hu,c1,c2,dy,bp,B9 (ht e) (Aj he),dP,du,ff]
 congr 1
 split<;>simp[Addr.add]
variable {N:Nat}{S0:Sig}
theorem mo_cutL{t T ty e i off len cap:Nat}{k:IntKind}{x y:Operand}{lo:Nat}{pos:String}{after:Array Edge}{f:Bool}{l:List (Bool×Oper)}
  (h:MO P ro n ops N S0 Q df l ((t,.ap i (off+lo*(tab e).size) (len-lo) (cap-lo))::γ) V)
  (d9:t<n) (hk:(tab T).k=.slice e) (he:A6 (tab e).k=false) (h1:ev γ x=.ap i off len cap) (h2:ev γ y=.int k lo) (iH:lo<=len) (iI:lo<cap) :
  MO P ro n ops N S0 Q df ((f,⟨some t,.slice T x (some y) none none,ty,pos,after,none⟩)::l) γ V:=by
 refine .inl ⟨_,⟨by simp[AD,d9],.inl ⟨rfl,(fun c e=>by cases e),Ah (fun c e=>by cases e),fun S' hZ g w a hs hT=>?_⟩⟩,h⟩
 have hx:=Au hT x
 have hy:=Au hT y
 rw[Cj (o:=⟨some t,.slice T x (some y) none none,ty,pos,after,none⟩) (by simp[Op.operands]),h1]at hx
 rw[Cj (o:=⟨some t,.slice T x (some y) none none,ty,pos,after,none⟩) (by simp[Op.operands]),h2]at hy
 obtain⟨r,h3,h4⟩:=Wx (w:=w) ht hk he hx hy iH iI
 exact⟨g,w,r,by simp only[execOp,bG,eJ,aU,h3,aK,bf],.refl g,hs,h4⟩
theorem mo_cutH{t T ty e i off len cap:Nat}{k:IntKind}{x y:Operand}{hi:Nat}{pos:String}{after:Array Edge}{f:Bool}{l:List (Bool×Oper)}
  (h:MO P ro n ops N S0 Q df l ((t,.ap i off hi cap)::γ) V)
  (d9:t<n) (hk:(tab T).k=.slice e) (he:A6 (tab e).k=false) (h1:ev γ x=.ap i off len cap) (h2:ev γ y=.int k hi) (iL:hi<=cap) :
  MO P ro n ops N S0 Q df ((f,⟨some t,.slice T x none (some y) none,ty,pos,after,none⟩)::l) γ V:=by
 refine .inl ⟨_,⟨by simp[AD,d9],.inl ⟨rfl,(fun c e=>by cases e),Ah (fun c e=>by cases e),fun S' hZ g w a hs hT=>?_⟩⟩,h⟩
 have hx:=Au hT x
 have hy:=Au hT y
 rw[Cj (o:=⟨some t,.slice T x none (some y) none,ty,pos,after,none⟩) (by simp[Op.operands]),h1]at hx
 rw[Cj (o:=⟨some t,.slice T x none (some y) none,ty,pos,after,none⟩) (by simp[Op.operands]),h2]at hy
 obtain⟨r,h3,h4⟩:=Wy (w:=w) ht hk he hx hy iL
 exact⟨g,w,r,by simp only[execOp,bG,eJ,aU,h3,aK,bf],.refl g,hs,h4⟩
omit ht in
theorem KW{g:G}{b:Nat}{vs:List Value}: ∀(l:List UInt8) (k:Nat),(∀j x,l[j]? = some x->vs[k+j]? = some (.int .u8 (x.toNat:Int)))->RepE (g.addImm b vs) b 1 k (l.map fun x=>[D.int .u8 (x.toNat:Int)])
 |[],_,_=>trivial
 | x::l,k,h=>by
  refine⟨⟨rfl,⟨_,?_,rfl⟩,trivial⟩,KW l (k+1) fun j y hj=>?_⟩
  ·simp only[G.addImm,bp];have:=h 0 x rfl;simpa using this
  ·have:=h (j+1) y (by simpa using hj)
   rw[show k+1+j=k+(j+1) by omega];exact this
theorem SC{t T T' ty e:Nat}{x:Operand}{s:List UInt8}{pos:String}{after:Array Edge}
  (h:av P ro n ops Q rest ⟨(t,.slice (s.map fun b=>[D.int .u8 (b.toNat:Int)]) .no)::γ,V,df⟩) (d9:t<n) (hk:(tab T).k=.str) (jp:(tab T').k=.slice e) (jo:(tab e).k=.int .u8) (h1:ev γ x=.str s) :
  av P ro n ops Q (⟨some t,.convert T T' x,ty,pos,after,none⟩::rest) ⟨γ,V,df⟩:=by
 refine Eo (fun d S'=>d=.slice (s.map fun b=>[D.int .u8 (b.toNat:Int)]) .no/\S'=V) rfl (fun c e=>by cases e) (Ah fun c e=>by cases e) (by simp[AD,d9]) ?_
  (fun d S' ⟨a2,a3⟩=>by subst a2 a3;exact h)
 intro g w a hs hT
 have e8:=Au hT x
 rw[h1]at e8
 have hv:a.eval x=.string ⟨s.toArray⟩:=e8
 have d6:=run_bytes_of_string (P:=P) w T T' e ⟨s.toArray⟩ (Jc ht hk) (Bc ht jp) (M6 ht jo)
 have jy:=grownCap_ge w (ByteArray.size ⟨s.toArray⟩) 0 e
 generalize grownCap w (ByteArray.size ⟨s.toArray⟩) 0 e=cap at d6 jy
 have e7:(ByteArray.size ⟨s.toArray⟩)=s.length:=by simp[ByteArray.size]
 have f0:=hs.drew.addImm (bytesRow ⟨s.toArray⟩ cap).toList e ((bytesRow ⟨s.toArray⟩ cap).size,(bytesRow ⟨s.toArray⟩ cap).size+1)
 have fJ:=G.addImm_le hs.drew (bytesRow ⟨s.toArray⟩ cap).toList
 rw[Array.toArray_toList]at f0
 have go:∀j x,s[j]? = some x->(bytesRow ⟨s.toArray⟩ cap).toList[0+j]? = some (.int .u8 (x.toNat:Int)):=fun j x hj=>by
  have jq:j<s.length:=(bn.1 hj).1
  simp only[bytesRow,ck,Array.toList_append,Array.toList_map]
  rw[bx (by simpa using jq),bD,hj];rfl
 refine⟨_,_,.slice (some ⟨w.heap.size,0,none⟩) s.length cap,_,V,?_,fJ,f0,?_,rfl,rfl⟩
 ·simp only[execOp,hv]
  rw[aU,d6,e7]
  rfl
 ·refine⟨some ⟨w.heap.size,0,none⟩,cap,by simp,by rw[aZ];omega,.inr ⟨1,w.heap.size,0,rfl,KW s 0 go⟩,trivial⟩
end
end Go.DL
