/- A part of the proof. -/
import Derived.Test.YtlfimpogphmbdaaGreatM09
import Derived.Maps.RangeRun
import Derived.RecoverIn
import Derived.Test.YtlfimpogphmbdaaGreatM08
set_option linter.all false
namespace Go.DL
open Go
theorem LJ{g:G}: ∀{l:List (D×D)}{es:List MapEntry},RepM g l es->RepL g (l.map (·.1)) (es.map (·.key))/\RepL g (l.map (·.2)) (es.map (·.val))
 |[],es,h=>by rw[show es=[] from h];exact⟨rfl,rfl⟩
 |(k,d)::l,es,⟨e,r,he,h1,h2,h3⟩=>by
  subst he;obtain⟨a,b⟩:=LJ h3;exact⟨⟨_,_,rfl,h1,a⟩,⟨_,_,rfl,h2,b⟩⟩
theorem RepM.get{g:G}: ∀{l:List (D×D)}{es:List MapEntry},RepM g l es->∀{j:Nat}{e:MapEntry},es[j]? = some e->∃k v,l[j]? = some (k,v)/\Rep g k e.key/\Rep g v e.val
 |[],es,h,j,e,he=>by rw[show es=[] from h]at he;simp at he
 |(k,d)::l,es,⟨e',r,he',h1,h2,h3⟩,j,e,he=>by
  subst he';cases j with
  |zero=>simp at he;subst he;exact⟨k,d,rfl,h1,h2⟩
  |succ j=>simpa using h3.get (by simpa using he)
theorem RepM.len{g:G}: ∀{l:List (D×D)}{es:List MapEntry},RepM g l es->es.length=l.length
 |[],es,h=>by rw[show es=[] from h];rfl
 |(k,d)::l,es,⟨e',r,he',h1,h2,h3⟩=>by subst he';simp[h3.len]
theorem RepM.erase{g:G}: ∀{l:List (D×D)}{es:List MapEntry},RepM g l es->∀(j:Nat),RepM g (l.eraseIdx j) (es.eraseIdx j)
 |[],es,h,j=>by rw[show es=[] from h];exact rfl
 |(k,d)::l,es,⟨e',r,he',h1,h2,h3⟩,j=>by
  subst he';cases j with
  |zero=>exact h3
  |succ j=>exact⟨e',_,rfl,h1,h2,h3.erase j⟩
theorem Lj(a:Array Nat)(x y:Nat):(a.push x).contains y=(a.contains y||y==x):=by
 rw[Bool.eq_iff_iff];simp only[Array.contains_iff_mem,Array.mem_push,Bool.or_eq_true,beq_iff_eq]
theorem EP(p:Nat->Bool)(e:MapEntry): ∀(L:List MapEntry) (j:Nat),(L.map (·.born)).Nodup->(L.filter fun x=>p x.born)[j]? = some e->
  (L.filter fun x=>p x.born&&!(x.born==e.born))=(L.filter fun x=>p x.born).eraseIdx j
 |[],j,_,h=>by simp at h
 | y::L,j,hn,h=>by
  have hn':=List.nodup_cons.1 (show(y.born::L.map (·.born)).Nodup from hn);cases hp:p y.born with
  |false=>
   rw[List.filter_cons_of_neg (p:=fun x:MapEntry=>p x.born) (by simp[hp])]at h⊢;rw[List.filter_cons_of_neg (by simp[hp])];exact EP p e L j hn'.2 h
  | true =>
   rw[List.filter_cons_of_pos (p:=fun x:MapEntry=>p x.born) (by simp[hp])]at h⊢;cases j with
   | zero =>
    simp only[List.getElem?_cons_zero,Option.some.injEq]at h;subst h;rw[List.filter_cons_of_neg (by simp),List.eraseIdx_zero,List.tail_cons];refine List.filter_congr fun x hx=>?_
    have hxy:(x.born==y.born)=false:=by
     have:x.born≠y.born:=fun e=>hn'.1 (e ▸ List.mem_map_of_mem hx);simpa using this
    rw[hxy];simp
   | succ j =>
    simp only[List.getElem?_cons_succ]at h;have hmem:e∈L:=(List.mem_filter.1 (List.mem_of_getElem? h)).1
    have hye:(y.born==e.born)=false:=by
     have:y.born≠e.born:=fun e'=>hn'.1 (e' ▸ List.mem_map_of_mem hmem);simpa using this
    rw[List.filter_cons_of_pos (by simp[hp,hye]),List.eraseIdx_cons_succ,EP p e L j hn'.2 h]
def G.addKeep(g:G)(b:Nat)(o:Obj):G:={ g with keep:=fun k=>if k=b then some o else g.keep k }
section
variable {P:Program}{ro:Option Nat}{n:Nat}{ops:Array Oper}{Q:DX->St->Prop}{rest:List Oper}{tab:Nat->Ty}{γ:List (Nat×D)}{V:Sig}{df:List DDf}
theorem Sim.mapStays{g:G}{w:World}(hs0:Sim P g V w){i b:Nat}{l:List (D×D)}(hi:V i=some (.map l))(hb:g.rho i=some b):
  ∃g',g.le g'/\Sim P g' (V.del i) w/\Rep g' (.cmap (l.map (·.1)) (l.map (·.2))) (.map (some b)):=by
 obtain⟨b',es,clock,hb',hheap,hr,hst⟩:=hs0.obj i _ hi;obtain rfl:b'=b:=by rw[hb]at hb';cases hb';rfl
 have hblk:blk g V i=some b':=by simp[blk,hi,hb]
 have hfree:=hs0.free i b' hblk
 have hle:g.le (g.addKeep b' (.map es clock)):=
  {imm:=fun _ _ _ h=>h,rho:=fun _ _ h=>h,hist:=fun _ _ _ h=>h,io:=rfl
   keep:=fun k o h=>by
    simp only[G.addKeep]
    by_cases hk:k=b'
    ·rw[hk,hfree.1]at h;cases h
    ·rw[if_neg hk];exact h }
 have hdel:∀j o,V.del i j=some o->j≠i/\V j=some o:=fun j o h=>by
  by_cases hj:j=i
  ·subst hj;simp[Sig.del]at h
  ·exact⟨hj,by simpa[Sig.del,hj] using h⟩
 have hblk':∀j c,blk (g.addKeep b' (.map es clock)) (V.del i) j=some c->j≠i/\blk g V j=some c:=by
  intro j c h
  by_cases hj:j=i
  ·subst hj;simp[blk,Sig.del]at h
  ·refine⟨hj,?_⟩;unfold blk at h⊢;simp only[Sig.del,hj,if_false]at h;exact h
 refine⟨_,hle,?_,?_⟩
 ·exact {
   imm:=hs0.imm
   keep:=fun k o h=>by
    simp only[G.addKeep]at h
    by_cases hk:k=b'
    ·rw[if_pos hk]at h;cases h;rw[hk];exact hheap
    ·rw[if_neg hk]at h;exact hs0.keep k o h
   obj:=fun j o h=>(hs0.obj j o (hdel j o h).2).mono hle fun _ _ _ _ _ _ _ _ _ _ h=>h
   inj:=fun j k c h1 h2=>hs0.inj j k c (hblk' j c h1).2 (hblk' k c h2).2
   free:=fun j c h=>by
    obtain⟨hj,h'⟩:=hblk' j c h
    obtain⟨h1,h2⟩:=hs0.free j c h'
    have hc:c≠b':=fun e=>hj (hs0.inj j i b' (e ▸ h') hblk)
    refine⟨by simp only[G.addKeep];rw[if_neg hc];exact h1,fun hh o=>h2 (fun x hx=>hh x (by simp only[Sig.del,hj,if_false];exact hx)) o⟩
   htop:=fun j sz n k h hk=>hs0.htop j sz n k (hdel j _ h).2 hk
   hdom:=hs0.hdom
   io:=hs0.io
   fin:=hs0.fin }
 ·obtain⟨a1,a2⟩:=LJ hr;exact⟨b',es,clock,rfl,by simp[G.addKeep],hst,RepL.mono hle _ a1,RepL.mono hle _ a2⟩
theorem HL{t i:Nat}{l:List (D×D)}(hi:V i=some (.map l))(hg:getD γ t=.map i):Wk P n ⟨γ,V,df⟩ ⟨(t,.cmap (l.map (·.1)) (l.map (·.2)))::γ,V.del i,df⟩:=by
 intro g w a hs;have hgt:=hs.tmps.2 t;rw[hg]at hgt;obtain⟨b,hb,hv⟩:=hgt;obtain⟨g',hle,h1,h2⟩:=hs.sim.mapStays hi hb;refine⟨g',hle,⟨h1,⟨hs.tmps.1,fun k=>?_⟩,hs.df.mono hle⟩⟩;rw[A8]
 by_cases hk:k=t
 ·rw[if_pos hk,hk,hv];exact h2
 ·rw[if_neg hk];exact Rep.mono hle _ (hs.tmps.2 k)
def Oq:D->Option (List (D×D))
 |.cmap ks vs=>some (ks.zip vs)
 |.nilmap=>some []
 |_=>none
theorem Py{c:Nat}{es:Array MapEntry}(h:Stamps c es.toList): ∀x∈es.toList,x.born<c:=h.2
variable (ht:B8 P tab)
include ht
theorem Qt{t T kt et:Nat}{x:Operand}{ty:TypeId}{pos:String}{after:Array Edge}{l:List (D×D)}(htn:t<n)(hk:(tab T).k=.map kt et)(hx:Oq (ev γ x)=some l)
  (h:∀i,V i=none->DOps P ro n ops Q rest ⟨(t,.obj i)::γ,V.set i (.iter l none),df⟩) :
  DOps P ro n ops Q (⟨some t,.range T x,ty,pos,after,none⟩::rest) ⟨γ,V,df⟩:=by
 refine Gt (mk:=fun i=>.obj i) (d:=.iter l none) rfl (fun c e=>by cases e) (Ac fun c e=>by cases e) (by simp[As,htn]) rfl ?_ h;intro g w a hs hT;have hxv:=Ao hT x;have hu:=FA ht hk;unfold Oq at hx;split at hx<;>(try (cases hx;done))
 ·rename_i ks vs he;cases hx;rw[he]at hxv;obtain⟨b,es,clock,hv,hkeep,hst,r1,r2⟩:=hxv;have hheap:=hs.keep _ _ hkeep;refine⟨.mapIter (some b) clock #[] clock,.pointer (some ⟨w.heap.size,0,none⟩),?_,fun i hi=>⟨⟨w.heap.size,by simp[G.bind],.inr ⟨b,es,clock, #[],Array.getElem?_push_size,hkeep,hst,?_,fun k v h=>by cases h⟩⟩,w.heap.size,by simp[G.bind],rfl⟩⟩
  ·simp only[execOp,Instr.range,hv,Sem.run_bind,A0 hu,Result.andThen_ok,BC hheap,Sem.run_pure,GN]
  ·have:(es.toList.filter fun e=> !(#[]:Array Nat).contains e.born)=es.toList:=List.filter_eq_self.2 fun e _=>by simp
   rw[this];exact RepM.mono (G.bind_le hi) _ (KL r1 r2)
 ·rename_i he;cases hx;rw[he]at hxv;have hv:a.eval x=.map none:=hxv;refine⟨.mapIter none 0 #[] 0,.pointer (some ⟨w.heap.size,0,none⟩),?_,fun i hi=>⟨⟨w.heap.size,by simp[G.bind],.inl ⟨rfl,rfl,Array.getElem?_push_size⟩⟩,w.heap.size,by simp[G.bind],rfl⟩⟩;simp only[execOp,Instr.range,hv,Sem.run_bind,A0 hu,Result.andThen_ok,Sem.run_pure,GN]
omit ht in
theorem Tp{t i:Nat}{x:Operand}{ty:TypeId}{pos:String}{after:Array Edge}{left:List (D×D)}{last:Option (D×D)}(htn:t<n)(hx:ev γ x=.obj i)(hi:V i=some (.iter left last))
  (h0:left=[]->DOps P ro n ops Q rest ⟨(t,.tup [.bool false])::γ,V,df⟩)
  (h1:∀j k v,left[j]? = some (k,v)->DOps P ro n ops Q rest ⟨(t,.tup [.bool true,k,v])::γ,V.set i (.iter (left.eraseIdx j) (some (k,v))),df⟩) :
  DOps P ro n ops Q (⟨some t,.next x false,ty,pos,after,none⟩::rest) ⟨γ,V,df⟩:=by
 refine Ds (fun d S'=>(left=[]/\d=.tup [.bool false]/\S'=V) \/ ∃j k v,left[j]? = some (k,v)/\d=.tup [.bool true,k,v]/\S'=V.set i (.iter (left.eraseIdx j) (some (k,v)))) rfl (fun c e=>by cases e) (Ac fun c e=>by cases e) (by simp[As,htn]) ?_ ?_
 ·intro g w a hs hT;have hxv:=Ao hT x;rw[hx]at hxv;obtain⟨b,hb,hv⟩:=hxv;obtain⟨b',hb',hcase⟩:=hs.obj _ _ hi;obtain rfl:b'=b:=by rw[hb]at hb';cases hb';rfl
  rcases hcase with⟨hl,_,hh⟩|⟨mb,es,clock,seen,hh,hkeep,hst,hr,_⟩
  ·refine⟨g,w,.tuple #[.bool false],.tup [.bool false],V,?_,.refl g,hs,⟨_,rfl,_,_,rfl,rfl,rfl⟩,.inl ⟨hl,rfl,rfl⟩⟩;simp[execOp,hv,Instr.next,getObj,Sem.run,hh]
  ·have hmh:=hs.keep _ _ hkeep;rcases run_next_at (P:=P) w ty b' mb clock clock seen es clock hh hmh (Py hst) (Nat.le_refl _)with⟨hsz,hrun⟩|⟨e,he,w1,hw1,hrun⟩
   ·have hl:left=[]:=by
     have h1:=hr.len
     have h2:(es.toList.filter fun e=> !seen.contains e.born).length=0:=by
      have:=hsz;unfold leftOf at this;rw[<-Array.toList_filter,Array.length_toList];exact this
     exact List.length_eq_zero_iff.1 (by omega)
    refine⟨g,w,.tuple #[.bool false],.tup [.bool false],V,?_,.refl g,hs,⟨_,rfl,_,_,rfl,rfl,rfl⟩,.inl ⟨hl,rfl,rfl⟩⟩;simp only[execOp,hv,Sem.run_bind,hrun,Result.andThen_ok,Sem.run_pure]
   ·have he':e∈es.toList.filter fun e=> !seen.contains e.born:=by
     unfold leftOf at he;rwa [Array.toList_filter]at he
    obtain⟨j,hj,hje⟩:=List.getElem_of_mem he';have hjs:(es.toList.filter fun e=> !seen.contains e.born)[j]? = some e:=by rw[List.getElem?_eq_getElem hj,hje]
    obtain⟨k,v,hkv,rk,rv⟩:=hr.get hjs;have hs1:Sim P g V w1:=by rcases hw1 with rfl|rfl;exact hs;exact hs.drew
    have hh1:w1.heap[b']? = some (.mapIter (some mb) clock seen clock):=by rcases hw1 with rfl|rfl<;>exact hh
    have hset:=hs1.setAny (i:=i) (b:=b') (d':=.iter (left.eraseIdx j) (some (k,v))) (o:=.mapIter (some mb) clock (seen.push e.born) clock) hi rfl rfl hb hh1
     ⟨b',hb,.inr ⟨mb,es,clock,seen.push e.born,Cw hh1,hkeep,hst,?_,?_⟩⟩
    ·refine⟨g,_,.tuple #[.bool true,e.key,e.val],.tup [.bool true,k,v],_,?_,.refl g,hset,⟨_,rfl,_,_,rfl,rfl,_,_,rfl,rk,_,_,rfl,rv,rfl⟩,.inr ⟨j,k,v,hkv,rfl,rfl⟩⟩;simp only[execOp,hv,Sem.run_bind,hrun,Result.andThen_ok,Sem.run_pure];rfl
    ·have hpush:∀x:MapEntry,(!(seen.push e.born).contains x.born)=(!seen.contains x.born&&!(x.born==e.born)):=by
      intro x;have:(seen.push e.born).contains x.born=(seen.contains x.born||x.born==e.born):=Lj ..;rw[this,Bool.not_or]
     have hk:=EP (fun b=> !seen.contains b) e es.toList j hst.1 hjs;simp only[hpush];rw[hk];exact hr.erase j
    ·intro k' v' hkv';cases hkv';refine⟨e,e.born,by simp,?_,rk,rv⟩;have hem:e∈es.toList:=(List.mem_filter.1 he').1;rw[<-Array.find?_toList];exact find_born e es.toList hst.1 hem
 ·rintro d S' (⟨a,rfl,rfl⟩|⟨j,k,v,a,rfl,rfl⟩)
  ·exact h0 a
  ·exact h1 j k v a
omit ht in
theorem Qx{t i:Nat}{x:Operand}{ty:TypeId}{pos:String}{after:Array Edge}{left:List (D×D)}{k v:D}(htn:t<n)(hx:ev γ x=.obj i)(hi:V i=some (.iter left (some (k,v))))
  (h:DOps P ro n ops Q rest ⟨(t,.tup [k,v])::γ,V,df⟩) :
  DOps P ro n ops Q (⟨some t,.entry x,ty,pos,after,none⟩::rest) ⟨γ,V,df⟩:=by
 refine Ds (fun d S'=>d=.tup [k,v]/\S'=V) rfl (fun c e=>by cases e) (Ac fun c e=>by cases e) (by simp[As,htn]) ?_ (fun d S' ⟨a,b⟩=>by subst a b;exact h);intro g w a hs hT;have hxv:=Ao hT x;rw[hx]at hxv;obtain⟨b,hb,hv⟩:=hxv;obtain⟨b',hb',hcase⟩:=hs.obj _ _ hi;obtain rfl:b'=b:=by rw[hb]at hb';cases hb';rfl
 rcases hcase with⟨_,hl,_⟩|⟨mb,es,clock,seen,hh,hkeep,hst,hr,hlast⟩
 ·cases hl
 ·obtain⟨e,st,f1,f2,f3,f4⟩:=hlast k v rfl;have hmh:=hs.keep _ _ hkeep;refine⟨g,w,.tuple #[e.key,e.val],.tup [k,v],V,?_,.refl g,hs,⟨_,rfl,_,_,rfl,f3,_,_,rfl,f4,rfl⟩,rfl,rfl⟩;simp[execOp,hv,Instr.entry,getObj,Sem.run,hh,hmh,f1,f2]
omit ht in
theorem Ke{fop:Operand}{args:Array Operand}{ats:Array TypeId}{dst:Option Tmp}{ty:TypeId}{pos:String}{after:Array Edge}{f:Nat}{first cap:List D}(hlt:f<P.funcs.size)
  (hf:ev γ fop=.func (.func f) first cap) (ho:As n ⟨dst,.defer { callee:=.value fop,args,argTypes:=ats },ty,pos,after,none⟩=true)
  (h:DOps P none n ops Q rest ⟨putD dst .any γ,V,.fn f (first++args.toList.map (ev γ)) cap::df⟩) :
  DOps P none n ops Q (⟨dst,.defer { callee:=.value fop,args,argTypes:=ats },ty,pos,after,none⟩::rest) ⟨γ,V,df⟩:=by
 intro g w a r hr hs;obtain rfl:r=none:=hr;unfold wpListIn;rw[Az (o:=⟨dst,.defer { callee:=.value fop,args,argTypes:=ats },ty,pos,after,none⟩) (b:=true) hs.tmps rfl,if_pos rfl];have hfv:=Ao hs.tmps fop;rw[show ev (St.mk γ V df).γ fop=.func (.func f) first cap from hf]at hfv;obtain⟨fs,cs,hfv,hr1,hr2⟩:=hfv
 have hres:(resolve a.eval { callee:=.value fop,args,argTypes:=ats } ty).run P w=.ok { target:=.fn (.func f) cs.toArray,args:=fs.toArray++args.map a.eval } w:=by
  simp[resolve,hfv,Deferred.ofValue,Sem.run]
 refine⟨fun f' hf'=>(Ac (fun c e=>by cases e) _ _ _ hf').elim,?_⟩
 have hrun:(Oper.semAt (FX P none).round a.eval ⟨dst,.defer { callee:=.value fop,args,argTypes:=ats },ty,pos,after,none⟩).run P w=.ok (.defer { target:=.fn (.func f) cs.toArray,args:=fs.toArray++args.map a.eval }) w:=by
  simp only[FX,Oper.semAt,execOp,Sem.run_bind,hres,Result.andThen_ok,Sem.run_pure]
 rw[hrun];have hput:=hs.put (d:=.any) (v:=undef) (S':=V) (w':=w) (.refl g) hs.sim trivial ho;refine h g w _ none rfl ⟨hput.sim,?_,?_⟩
 ·have e:({ a with defers:={ target:=.fn (.func f) cs.toArray,args:=fs.toArray++args.map a.eval }::a.defers }:Act).put dst undef={ (a.put dst undef)with defers:={ target:=.fn (.func f) cs.toArray,args:=fs.toArray++args.map a.eval }::a.defers }:=by cases dst<;>rfl
  show RepT g _ n (({ a with defers:={ target:=.fn (.func f) cs.toArray,args:=fs.toArray++args.map a.eval }::a.defers }:Act).put dst undef).tmps;rw[e];exact hput.tmps
 ·have e:(({ a with defers:={ target:=.fn (.func f) cs.toArray,args:=fs.toArray++args.map a.eval }::a.defers }:Act).put dst undef).defers={ target:=.fn (.func f) cs.toArray,args:=fs.toArray++args.map a.eval }::a.defers:=by cases dst<;>rfl
  show RepDf g _ (({ a with defers:={ target:=.fn (.func f) cs.toArray,args:=fs.toArray++args.map a.eval }::a.defers }:Act).put dst undef).defers;rw[e];exact⟨fs++args.toList.map a.eval,cs,a.defers,by simp,hr1.append (D4 hs.tmps _),hr2,hs.df⟩
end
def Nh(P:Program)(f:Nat)(args:List D)(V:Sig)(pan:Option D)(S':Sig):Prop:=
 ∀g w vs u,Sim P g V w->RepL g args vs->(match pan with|none=>u=.returning|some d=> ∃v,u=.panicking [{ v,recovered:=false }]/\Rep g d v)->
  CallsDIn (FX P none) 0 P f vs.toArray u w fun e u' w'=>(∃v,e=.returned v)/\settle u'=.returning /\ ∃g',g.le g'/\Sim P g' S' w'
def BodyD(P:Program)(n:Nat)(fn:Func)(fd:Nat)(R:DE->Sig->Prop):DX->St->Prop
 |.normal,s|.ret,s=> ∃cap S' d,s.df=[.fn fd [] cap]/\Nh P fd cap s.V none S'/\Ng P n fn ⟨s.γ,S',[]⟩ d/\R (.ret d) S'
 |.panic p,s=> ∃cap S' d,s.df=[.fn fd [] cap]/\Nh P fd cap s.V (some p) S'/\Ng P n fn ⟨s.γ,S',[]⟩ d/\R (.ret d) S'
 |.exit _,_=>False
theorem Gw{P:Program}{f fd:Nat}{fn:Func}{c:Code}{args:List D}{V:Sig}{R:DE->Sig->Prop}(hf:P.funcs[f]? = some fn)(hb:fn.body=some c)(hfd:TK P fd)(hfl:fd<P.funcs.size)
  (hnm : (fn.name == "runtime.NumGoroutine") = false) {m : Nat} (hm : fn.ntmps = m) (hn : args.length <= m) (h : DWp P none m c (fun x s => ∃ s', Wk P m s s' /\ BodyD P m fn fd (Weak R) x s') { γ := Cb 0 args, V }) : DCall P f args V R := by
 refine H0 ⟨(Array.getElem?_eq_some_iff.1 hf).1,Db hf hnm (by rw[hb];rfl),fun g w vs hs ha=>?_⟩;refine callsIn_of_wp_defers hf hb (by obtain⟨h1,_⟩:=Array.getElem?_eq_some_iff.1 hf;exact h1) ?_ rfl;subst hm;refine wpIn_mono (h g w _ none rfl ⟨hs,F4 ha hn,rfl⟩) ?_
 rintro e a w' ⟨g',s1,x,h1,h2,h3,s2,hwk,h4⟩
 obtain⟨g2,hle2,h2'⟩:=hwk _ _ _ h2;have h1':=h1.trans hle2
 have key:∀(u:FrameMode) (pan:Option D) (cap:List D) (S':Sig) (d:D),u≠.run->(match pan with|none=>u=.returning|some d=> ∃v,u=.panicking [{ v,recovered:=false }]/\Rep g2 d v)->
   s2.df=[.fn fd [] cap]->Nh P fd cap s2.V pan S'->Ng P fn.ntmps fn ⟨s2.γ,S',[]⟩ d->Weak R (.ret d) S'->LeavesIn (FX P none) 0 P fn a.tmps (O7 P g (Weak R)) a.defers u w':=by
  intro u pan cap S' d hu hp e1 e2 e3 e4;have hdf:=h2'.df;rw[e1]at hdf;obtain⟨az,cs,rest,hd,ra,rc,hrest⟩:=hdf;obtain rfl:az=[]:=ra;obtain rfl:rest=[]:=hrest;rw[hd];refine leavesIn_cons hu (fun h=>by cases h) (f:=fd) (args:=cs.toArray) ?_ ?_ ?_
  ·simp only[invoke];have:=hfd (#[]++cs.toArray) w';simpa using this
  ·intro g hg;simp only[Target.leads,Option.some.injEq]at hg;subst hg;exact hfl
  ·refine(e2 g2 w' cs u h2'.sim rc hp).mono ?_
   rintro e u' w3 ⟨⟨v,rfl⟩,hset,g3,l3,hs3⟩
   simp only[hset];obtain⟨v,hv,hrep⟩:=e3 g3 { a with defers:=[] } w3 ⟨hs3,h2'.tmps.mono l3,rfl⟩;exact⟨v,hv,g3,.ret d,S',h1'.trans l3,hs3,⟨v,rfl,hrep⟩,e4⟩
 cases x with
 |normal=>
  obtain rfl:=h3;obtain⟨cap,S',d,e1,e2,e3,e4⟩:=h4;exact key .returning none cap S' d (by simp) rfl e1 e2 e3 e4
 |ret=>
  obtain rfl:=h3;obtain⟨cap,S',d,e1,e2,e3,e4⟩:=h4;exact key .returning none cap S' d (by simp) rfl e1 e2 e3 e4
 |panic p=>
  obtain⟨v,rfl,hrep⟩:=h3;obtain⟨cap,S',d,e1,e2,e3,e4⟩:=h4;exact key _ (some p) cap S' d (by simp) ⟨v,rfl,Rep.mono hle2 _ hrep⟩ e1 e2 e3 e4
 |exit i=>exact h4.elim
theorem PE{P:Program}{F:Fence}{n:Nat}{ops:Array Oper}{Q:Exit->Act->List Frame->World->Prop}{a:Act}{cs:List Frame}{w:World}{i:Nat}{l:List Nat}{o:Oper}{v:Value}(ho:ops[i]? = some o)(hg:o.guard=none)
  (hab:∀f,o.about P w a.eval=some f->F.fn f) (hrun:(execOp a.eval o).run P w=.ok (.value v) w) (h:wpOpsSIn F n P ops Q l (a.put o.dst v) cs w):wpOpsSIn F n P ops Q (i::l) a cs w:=by
 have hw:Region.wanted o (yielded ops a.tmps)=true:=by simp[Region.wanted,hg]
 simp only[wpOpsSIn,ho,hw,if_true,hrun];exact⟨hab,h⟩
theorem LM{P:Program}{F:Fence}{n:Nat}{ops:Array Oper}{Q:Exit->Act->List Frame->World->Prop}{a:Act}{cs cs':List Frame}{w:World}{i:Nat}{l:List Nat}{o:Oper}{v:Value}(ho:ops[i]? = some o)(hg:o.guard=none)
  (hab:∀f,o.about P w a.eval=some f->F.fn f) (hrun:(execOp a.eval o).run P w=.ok .recover w) (hrec:recoverD cs=some (v,cs')\/(recoverD cs=none/\v=.nilIface/\cs'=cs)) (h:wpOpsSIn F n P ops Q l (a.put o.dst v) cs' w):wpOpsSIn F n P ops Q (i::l) a cs w:=by
 have hw:Region.wanted o (yielded ops a.tmps)=true:=by simp[Region.wanted,hg]
 rcases hrec with hrec|⟨hrec,rfl,rfl⟩
 ·simp only[wpOpsSIn,ho,hw,if_true,hrun,hrec];exact⟨hab,h⟩
 ·simp only[wpOpsSIn,ho,hw,if_true,hrun,hrec];exact⟨hab,h⟩
theorem HK{P:Program}{F:Fence}{n:Nat}{Q:Exit->Act->List Frame->World->Prop}{a:Act}{cs cs':List Frame}{w:World}{id t4 t1 ty1 ty2:Nat}{p1 p2:String}{a1 a2:Array Edge}{rest:Code}{v:Value}
  (hrec:recoverD cs=some (v,cs')\/(recoverD cs=none/\v=.nilIface/\cs'=cs)) (ht4:t4<a.tmps.size)
  (h:rest.wpSIn F n P Q ((a.put (some t4) v).put (some t1) v) cs' w) :
  (Code.seq (.region id #[⟨some t4,.call { callee:=.builtin .recover,args:= #[],argTypes:= #[] },ty1,p1,a1,none⟩,⟨some t1,.assign (.tmp t4),ty2,p2,a2,none⟩] false) rest).wpSIn F n P Q a cs w:=by
 refine wpSIn_seq (wpSIn_region ?_);have hr:List.range (#[(⟨some t4,.call { callee:=.builtin .recover,args:= #[],argTypes:= #[] },ty1,p1,a1,none⟩:Oper),⟨some t1,.assign (.tmp t4),ty2,p2,a2,none⟩]:Array Oper).size=[0,1]:=rfl;rw[hr];have hget:(a.put (some t4) v).eval (.tmp t4)=v:=by simp[Act.put,Act.eval,ht4]
 refine LM (o:=⟨some t4,.call { callee:=.builtin .recover,args:= #[],argTypes:= #[] },ty1,p1,a1,none⟩) rfl rfl (fun f h=>by cases h) rfl hrec ?_;refine PE (o:=⟨some t1,.assign (.tmp t4),ty2,p2,a2,none⟩) (v:=v) rfl rfl (fun f h=>by cases h) ?_ h;show(Sem.run P (pure (Next.value ((a.put (some t4) v).eval (.tmp t4)))) w)=_;rw[hget];rfl
theorem HF{P:Program}{f:Nat}{fn:Func}{id t4 t1 ty1 ty2:Nat}{p1 p2:String}{a1 a2:Array Edge}{rest:Code}{args:List D}{V S':Sig}{pan:Option D}{m:Nat}
  (hf:P.funcs[f]? = some fn) (hb:fn.body=some (Code.seq (.region id #[⟨some t4,.call { callee:=.builtin .recover,args:= #[],argTypes:= #[] },ty1,p1,a1,none⟩,⟨some t1,.assign (.tmp t4),ty2,p2,a2,none⟩] false) rest))
  (hm:fn.ntmps=m) (hn:args.length<=m) (ht4:t4<m) (ht1:t1<m) (hres:fn.results=#[])
  (h:DWp P none m rest (fun x s=>(x=.normal\/x=.ret)/\s.df=[]/\Sub S' s.V) ⟨(t1,pan.getD .niliface)::(t4,pan.getD .niliface)::Cb 0 args,V,[]⟩):Nh P f args V pan S':=by
 intro g w vs u hs ha hu;subst hm;have hlt:f<P.funcs.size:=(Array.getElem?_eq_some_iff.1 hf).1;refine callsDIn_of_wpSIn hf hb hlt fun c₀ cs hc=>?_;have hT:=F4 ha hn
 have hput:∀(d:D) (v:Value),Rep g d v->RepT g ((t1,d)::(t4,d)::Cb 0 args) fn.ntmps (((({ tmps:=vs.toArray++Array.replicate (fn.ntmps-vs.toArray.size) undef,defers:=[] }:Act).put (some t4) v).put (some t1) v).tmps):=by
  intro d v hv;have h1 := RepT.put (o := ⟨some t4, .move (.tmp 0), 0, "", #[], none⟩) (a := { tmps := vs.toArray ++ Array.replicate (fn.ntmps - vs.toArray.size) undef, defers := [] }) hT hv (by simp [As, ht4]);exact RepT.put (o := ⟨some t1, .move (.tmp 0), 0, "", #[], none⟩) (a := ({ tmps := vs.toArray ++ Array.replicate (fn.ntmps - vs.toArray.size) undef, defers := [] } : Act).put (some t4) v) h1 hv (by simp [As, ht1])
 have hsz:t4<(vs.toArray++Array.replicate (fn.ntmps-vs.toArray.size) undef).size:=by rw[hT.1];exact ht4
 have fin:∀(d:D) (v:Value) (u':FrameMode) (cs':List Frame),pan.getD .niliface=d->Rep g d v->settle u'=.returning->cs'={ c₀ with mode:=u' }::cs->
   rest.wpSIn (FX P none) 0 P (bodyPostS P fn c₀ cs fun e u' w'=>(∃v,e=.returned v)/\settle u'=.returning /\ ∃g',g.le g'/\Sim P g' S' w')
    (((({ tmps:=vs.toArray++Array.replicate (fn.ntmps-vs.toArray.size) undef,defers:=[] }:Act).put (some t4) v).put (some t1) v)) cs' w:=by
  intro d v u' cs' hd hv hset hcs;refine wpSIn_of_wpIn rfl ?_;subst hd;refine wpIn_mono (h g w _ none rfl ⟨hs,hput _ v hv,rfl⟩) ?_
  rintro e a w' ⟨g',s',x,l1,l2,l3,hx,hdf,hsub⟩
  have hd:a.defers=[]:=ED l2.df hdf;have hr:(results fn a.tmps).run P w'=.ok (.tuple #[]) w':=by simp[results,hres]
  rcases hx with rfl|rfl
  ·obtain rfl:=l3;exact⟨hd,u',hcs,_,hr,⟨_,rfl⟩,hset,g',l1,l2.sim.sub hsub⟩
  ·obtain rfl:=l3;exact⟨hd,u',hcs,_,hr,⟨_,rfl⟩,hset,g',l1,l2.sim.sub hsub⟩
 cases pan with
 |none=>
  have hu:u=.returning:=hu;subst hu;refine HK (v:=.nilIface) (cs':=c₀::cs) (.inr ⟨?_,rfl,rfl⟩) hsz (fin .niliface .nilIface .returning _ rfl rfl rfl ?_)
  ·simp[recoverD,hc]
  ·rw[<-hc]
 |some d=>
  obtain⟨v,rfl,hv⟩:=hu;refine HK (v:=v) (cs':={ c₀ with mode:=.panicking [{ v,recovered:=true }] }::cs) (.inl ?_) hsz (fin d v (.panicking [{ v,recovered:=true }]) _ rfl hv rfl rfl);simp[recoverD,hc]
def nilB:TyK->Value->D->Option Bool
 |.iface,.nilIface,.niliface=>some true
 |.iface,.nilIface,.iface _ _=>some false
 |.ptr _,.pointer none,.nilp=>some true
 |.ptr _,.pointer none,.cptr _ _=>some false
 |.ptr _,.pointer none,.ptr _ _=>some false
 |.ptr _,.pointer none,.obj _=>some false
 |_,_,_=>none
theorem Jj{P:Program}{w:Go.World}(d:Nat)(t:TypeId){i}(h:P.underlying t=some (.interface i)):(Op.equalIn (d+1) t .nilIface .nilIface).run P w=.ok true w:=by
 simp[Op.equalIn,A0 h]
theorem Ji{P:Program}{w:Go.World}(d:Nat)(t:TypeId){i}(h:P.underlying t=some (.interface i))(u:TypeId)(x:Value):(Op.equalIn (d+1) t (.iface u x) .nilIface).run P w=.ok false w:=by
 simp[Op.equalIn,A0 h]
theorem Ec{P:Program}{w:Go.World}(d:Nat)(t:TypeId){e}(h:P.underlying t=some (.pointer e))(p:Option Addr):(Op.equalIn (d+1) t (.pointer p) (.pointer none)).run P w=.ok p.isNone w:=by
 cases p<;>simp[Op.equalIn,A0 h]
theorem MS{P:Program}{tab:Nat->Ty}(ht:B8 P tab){ro:Option Nat}{n:Nat}{ops:Array Oper}{Q:DX->St->Prop}{rest:List Oper}{γ:Fr}{V:Sig}{df:List DDf}{t T T' ty:Nat}{x:Operand}{z:Value}{pos:String}{after:Array Edge}{guard:Option (Nat×Bool)}{b:Bool}(neg:Bool)
  (hw:AB ops γ ⟨some t,.binOp (if neg then .neq else .eql) T x (.const z) T',ty,pos,after,guard⟩=some true) (hb:nilB (tab T).k z (ev γ x)=some b) (htn:t<n)
  (h:DOps P ro n ops Q rest ⟨(t,.bool (b != neg))::γ,V,df⟩) :
  DOps P ro n ops Q (⟨some t,.binOp (if neg then .neq else .eql) T x (.const z) T',ty,pos,after,guard⟩::rest) ⟨γ,V,df⟩:=by
 refine HE hw (fun c e=>by cases e) (Ac fun c e=>by cases e) (d:=.bool (b != neg)) ?_ (by simp[As,htn]) h;intro g w a hs hT;have hv:=Ao hT x;refine ORun.of (Ap (v:=.bool (b != neg)) hs ?_ rfl)
 have fin:∀(v:Value) (c:Bool),a.eval x=v->(Op.equal T v z).run P w=.ok c w->(∀op,(eqGuard op T x (.const z) v z).run P w=.ok () w)->
   (binOp .eql T v z=do pure (.bool (<-Op.equal T v z)))->(binOp .neq T v z=do pure (.bool (!(<-Op.equal T v z))))->
   (do eqGuard (if neg then .neq else .eql) T x (.const z) (a.eval x) (a.eval (.const z));binOp (if neg then .neq else .eql) T (a.eval x) (a.eval (.const z)):Sem Value).run P w=.ok (.bool (c != neg)) w:=by
  intro v c e1 e2 e3 e4 e5;rw[e1,show a.eval (.const z)=z from rfl];cases neg
  ·simp only[Bool.false_eq_true,if_false];rw[Sem.run_bind,e3,Result.andThen_ok,e4,Sem.run_bind,e2,Result.andThen_ok,Sem.run_pure];cases c<;>rfl
  ·simp only[if_true];rw[Sem.run_bind,e3,Result.andThen_ok,e5,Sem.run_bind,e2,Result.andThen_ok,Sem.run_pure];cases c<;>rfl
 have iface:(tab T).k=.iface->∃i,P.underlying T=some (.interface i):=fun hk=>by
  obtain⟨desc,hd1,hd2⟩:=Ei ht hk (by simp);cases desc<;>simp[KOK]at hd2;exact⟨_,hd1⟩
 have ptr:∀e,(tab T).k=.ptr e->P.underlying T=some (.pointer e):=fun e hk=>by
  obtain⟨desc,hd1,hd2⟩:=Ei ht hk (by simp);cases desc<;>simp[KOK]at hd2;rw[hd1,hd2]
 have gp:∀(p q:Option Addr) op,(eqGuard op T x (.const (.pointer q)) (.pointer p) (.pointer q)).run P w=.ok () w:=fun p q op=>by cases op<;>rfl
 unfold nilB at hb;split at hb<;>(try (cases hb;done))<;>cases hb<;>rename_i hk he
 ·obtain⟨i,hd⟩:=iface hk;rw[show ev (St.mk γ V df).γ x=.niliface from he]at hv;exact fin .nilIface true hv (Jj (P:=P) (w:=w) 9999 T hd) (fun op=>by cases op<;>cases x<;>rfl) rfl rfl
 ·obtain⟨i,hd⟩:=iface hk;rw[show ev (St.mk γ V df).γ x=.iface _ _ from he]at hv;obtain⟨y,hv,_⟩:=hv;exact fin _ false hv (Ji (P:=P) (w:=w) 9999 T hd _ _) (fun op=>by cases op<;>rfl) rfl rfl
 ·rw[show ev (St.mk γ V df).γ x=.nilp from he]at hv;exact fin (.pointer none) true hv (Ec (P:=P) (w:=w) 9999 T (ptr _ hk) none) (gp _ _) rfl rfl
 ·rw[show ev (St.mk γ V df).γ x=.cptr _ _ from he]at hv;obtain⟨b,o,hv,_⟩:=hv;exact fin _ false hv (Ec (P:=P) (w:=w) 9999 T (ptr _ hk) (some _)) (gp _ _) rfl rfl
 ·rw[show ev (St.mk γ V df).γ x=.ptr _ _ from he]at hv;obtain⟨b,_,hv⟩:=hv;exact fin _ false hv (Ec (P:=P) (w:=w) 9999 T (ptr _ hk) (some _)) (gp _ _) rfl rfl
 ·rw[show ev (St.mk γ V df).γ x=.obj _ from he]at hv;obtain⟨b,_,hv⟩:=hv;exact fin _ false hv (Ec (P:=P) (w:=w) 9999 T (ptr _ hk) (some _)) (gp _ _) rfl rfl
theorem MK{P:Program}{w:Go.World}(d:Nat)(t:TypeId)(h:P.underlying t=some .bool)(a b:Bool):(Op.equalIn (d+1) t (.bool a) (.bool b)).run P w=.ok (a==b) w:=by
 simp[Op.equalIn,A0 h]
theorem Pf{P:Program}{tab:Nat->Ty}(ht:B8 P tab){ro:Option Nat}{n:Nat}{ops:Array Oper}{Q:DX->St->Prop}{rest:List Oper}{γ:Fr}{V:Sig}{df:List DDf}{t T T' ty:Nat}{x y:Operand}{pos:String}{after:Array Edge}{guard:Option (Nat×Bool)}{a b:Bool}(neg:Bool)
  (hw:AB ops γ ⟨some t,.binOp (if neg then .neq else .eql) T x y T',ty,pos,after,guard⟩=some true) (hk:(tab T).k=.bool) (hx:ev γ x=.bool a) (hy:ev γ y=.bool b) (htn:t<n)
  (h:DOps P ro n ops Q rest ⟨(t,.bool ((a==b) != neg))::γ,V,df⟩) :
  DOps P ro n ops Q (⟨some t,.binOp (if neg then .neq else .eql) T x y T',ty,pos,after,guard⟩::rest) ⟨γ,V,df⟩:=by
 refine HE hw (fun c e=>by cases e) (Ac fun c e=>by cases e) (d:=.bool ((a==b) != neg)) ?_ (by simp[As,htn]) h;intro g w ac hs hT;have hv:=Ao hT x;have hu:=Ao hT y;rw[show ev (St.mk γ V df).γ x=.bool a from hx]at hv;rw[show ev (St.mk γ V df).γ y=.bool b from hy]at hu;have hv':ac.eval x=.bool a:=hv;have hu':ac.eval y=.bool b:=hu;refine ORun.of (Ap (v:=.bool ((a==b) != neg)) hs ?_ rfl);obtain⟨desc,hd1,hd2⟩:=Ei ht hk (by simp);have hd:P.underlying T=some .bool:=by cases desc<;>simp[KOK]at hd2;exact hd1
 have e2:(Op.equal T (.bool a) (.bool b)).run P w=.ok (a==b) w:=MK (P:=P) (w:=w) 9999 T hd a b;have e3:∀op,(eqGuard op T x y (.bool a) (.bool b)).run P w=.ok () w:=fun op=>by cases op<;>rfl
 rw[hv',hu'];cases neg
 ·simp only[Bool.false_eq_true,if_false];rw[Sem.run_bind,e3,Result.andThen_ok,show binOp .eql T (.bool a) (.bool b)=(do pure (.bool (<-Op.equal T (.bool a) (.bool b))):Sem Value) from rfl,Sem.run_bind,e2,Result.andThen_ok,Sem.run_pure];cases (a==b)<;>rfl
 ·simp only[if_true];rw[Sem.run_bind,e3,Result.andThen_ok,show binOp .neq T (.bool a) (.bool b)=(do pure (.bool (!(<-Op.equal T (.bool a) (.bool b)))):Sem Value) from rfl,Sem.run_bind,e2,Result.andThen_ok,Sem.run_pure];cases (a==b)<;>rfl
def Jc(P:Program)(T:Nat)(name:String)(f:Nat):Prop:= ∀(v:Value) (w:Go.World),(method (P.types.size+Made.depth) T v name).run P w=.ok (f,v) w
theorem IW{P:Program}{ro:Option Nat}{n:Nat}{ops:Array Oper}{Q:DX->St->Prop}{rest:List Oper}{γ:Fr}{V:Sig}{df:List DDf}{rv:Operand}{name:String}{args:Array Operand}{ats:Array TypeId}{dst:Option Tmp}{ty:TypeId}{pos:String}{after:Array Edge}{guard:Option (Nat×Bool)}{f T:Nat}{d:D}{az:List D}{R:DE->Sig->Prop}
  (hw:AB ops γ ⟨dst,.call { callee:=.invoke rv name,args,argTypes:=ats },ty,pos,after,guard⟩=some true)
  (hx:ev γ rv=.iface T d) (hM:Jc P T name f) (h:DCall P f az V R) (has:WkL (d::args.toList.map (ev γ)) az)
  (ho:As n ⟨dst,.call { callee:=.invoke rv name,args,argTypes:=ats },ty,pos,after,guard⟩=true)
  (hret:∀d S',R (.ret d) S'->DOps P ro n ops Q rest ⟨putD dst d γ,S',df⟩)
  (hpan:∀d S',R (.panic d) S'->Q (.panic d) ⟨γ,S',df⟩) :
  DOps P ro n ops Q (⟨dst,.call { callee:=.invoke rv name,args,argTypes:=ats },ty,pos,after,guard⟩::rest) ⟨γ,V,df⟩:=by
 intro g w a r hr hs;unfold wpListIn;rw[Az hs.tmps hw,if_pos rfl];have hv:=Ao hs.tmps rv;rw[show ev (St.mk γ V df).γ rv=.iface T d from hx]at hv;obtain⟨x,hv,hxr⟩:=hv
 have hres:(resolve a.eval { callee:=.invoke rv name,args,argTypes:=ats } ty).run P w=.ok { target:=.fn (.method name) #[],args:= #[.iface T x]++args.map a.eval } w:=by
  simp only[resolve,hv];rfl
 refine⟨fun f' hf'=>?_,?_⟩
 ·simp only[Oper.about,hres,Target.leads]at hf';have h0:(#[Value.iface T x]++args.map a.eval)[0]? = some (.iface T x):=by rw[Array.getElem?_append_left (Nat.zero_lt_one)];rfl
  rw[h0]at hf';simp only[hM x w]at hf';cases hf';exact h.lt
 ·rw[Oper.semAt_eq _ _ _ (fun c e=>by cases e)]
  have hrun:(execOp a.eval ⟨dst,.call { callee:=.invoke rv name,args,argTypes:=ats },ty,pos,after,guard⟩).run P w=.ok (.enter f (#[x]++args.map a.eval)) w:=by
   simp only[execOp,Sem.run_bind,hres,Result.andThen_ok,invoke];have h0:(#[Value.iface T x]++args.map a.eval)[0]? = some (.iface T x):=by rw[Array.getElem?_append_left (Nat.zero_lt_one)];rfl
   have h1:(#[Value.iface T x]++args.map a.eval).extract 1 (#[Value.iface T x]++args.map a.eval).size=args.map a.eval:=by
    apply Array.ext';simp;exact List.take_of_length_le (by simp)
   simp only[h0,h1,callMethod,program,Sem.run_bind];show(((method (P.types.size+Made.depth) T x name).run P w).andThen fun q w'=>(callFunc q.1 (#[q.2]++args.map a.eval)).run P w')=_;rw[hM x w,Result.andThen_ok];exact h.ent _ w
  rw[hrun];refine⟨fun h=>(by cases h),?_⟩;have hargs:RepL g (d::args.toList.map (ev γ)) (x::args.toList.map a.eval):=⟨x,_,rfl,hxr,D4 hs.tmps _⟩;have hc:=h.run g w _ hs.sim (has.rep hargs)
  have hc':CallsIn (FX P r) 0 P f (#[x]++args.map a.eval) w (O7 P g R):=by
   have e:(x::args.toList.map a.eval).toArray=#[x]++args.map a.eval:=by apply Array.ext';simp
   rw[<-e];exact hc
  refine hc'.mono ?_
  rintro e w' ⟨g',y,S',h1,h2,h3,h4⟩
  cases y with
  |ret d=>
   obtain⟨v,rfl,h5⟩:=h3;exact At h1 _ (hret d S' h4 g' w' _ r (hr.mono h1) (hs.put (o:=⟨dst,.call { callee:=.invoke rv name,args,argTypes:=ats },ty,pos,after,guard⟩) h1 h2 h5 ho))
  |panic d=>
   obtain⟨v,rfl,h5⟩:=h3;exact⟨g',⟨γ,S',df⟩,.panic d,h1,⟨h2,hs.tmps.mono h1,hs.df.mono h1⟩,⟨v,rfl,h5⟩,hpan d S' h4⟩
section
variable {P:Program}{ro:Option Nat}{n:Nat}{Q:DX->St->Prop}{s:St}
theorem Cv{b:Frame}{a:Act}{k:List Item}{cs:List Frame}{w:Go.World}{c:Code}:step P (lone (b.atR a (.code (.scope c)::k)) cs w)=.next (lone (b.atR a (.code c :: .inScope c::k)) cs w):=
 step_lone_go (by simp[stepG,stepG.exec,Frame.atR])
theorem KG{b:Frame}{a:Act}{k:List Item}{cs:List Frame}{w:Go.World}{c:Code}:step P (lone (b.atR a (.inScope c::k)) cs w)=.next (lone (b.atR a k) cs w):=
 step_lone_go (by simp[stepG,stepG.exec,Frame.atR])
theorem MN{c:Code}(h:DWp P ro n c Q s):DWp P ro n (.scope c) Q s:=by
 intro g w a r hr hs;intro b k cs hro hb hrm;have h0:(lone (b.atR a (.code (.scope c)::k)) cs w).fenced P (FX P r):=fenced_calm hb hrm rfl;obtain⟨e,a₁,w₁,⟨g',s',x,l1,l2,l3,l4⟩,harr⟩:=h g w a r hr hs b (.inScope c::k) cs hro hb hrm;have hp:Post P g n Q e a₁ w₁:=⟨g',s',x,l1,l2,l3,l4⟩;cases e with
 |normal=>exact⟨.normal,a₁,w₁,hp,.head h0 Cv (StepsIn.trans harr (.one (fenced_calm hb hrm rfl) KG))⟩
 | exit id =>
  have hx:exitTo id (.inScope c::k)=exitTo id k:=by simp[exitTo]
  exact⟨.exit id,a₁,w₁,hp,fun k' hk=>.head h0 Cv (harr.1 k' (by rw[hx];exact hk)),
   fun hr' hk=>let ⟨k₁,h1,h2⟩:=harr.2 hr' (by rw[hx];exact hk);⟨k₁,h1,.head h0 Cv h2⟩⟩
 |goto l=>cases x<;>first|(cases l3;done)|(obtain⟨v,l3,_⟩:=l3;cases l3)
 |ret=>exact⟨_,a₁,w₁,hp,.of_steps (.one h0 Cv) harr⟩
 |panic ch=>exact⟨_,a₁,w₁,hp,.of_steps (.one h0 Cv) harr⟩
 |outgrown=>exact⟨_,a₁,w₁,hp,.of_steps (.one h0 Cv) harr⟩
end
section
variable {P:Program}{ro:Option Nat}{n:Nat}{ops:Array Oper}{N:Nat}{S0:Sig}{Q:DX->St->Prop}{df:List DDf}{E:List Nat}
theorem Rg(hN:P.funcs.size=N){ord:List Nat}{k:Nat}{ol:Oper}(hops:ops.size=k+1)(hol:ops[k]? = some ol)(hmix:mixB ops E [] ord=true)(hall:∀i,i<k->i∈ord)(hlt:∀i∈ord,i<k)
  (hw1:∀i,i<k->G4 ops ops.size k i=true) (hw2:∀e∈ol.after,Region.binds .any e=true->e.on<k) {g0:G}{rr:Option Nat} (hr:RoRep g0 ro rr) :
  ∀(m:Nat) (r:List Nat) (listed:Array Bool) (γ:Fr) (V:Sig),r.length=m->listed.size=ops.size->r=ord.filter (fun i=> !listed.getD i true)->listed.getD k true=false->Closed ops listed->
   MOps P ro n ops N S0 (Then (fun s=>DOps P ro n ops Q [ol] s) Q) df E r γ V->Sub S0 V->
   ∀(g:G) (w:World) (a:Act),g0.le g->SimS P g n ⟨γ,V,df⟩ a w->wpAnyIn (FX P rr) 0 P .any ops (Post P g0 n Q) (m+1) listed a w:=by
 have hmem:∀(r:List Nat) (listed:Array Bool),Closed ops listed->r=ord.filter (fun i=> !listed.getD i true)->∀i∈Region.ready .any ops listed,i∈r\/(i=k/\r=[]):=by
  intro r listed hcl hf i hi;obtain⟨h1,o,ho,hd⟩:=mem_ready.1 hi;have hik:i<k+1:=by rw[<-hops];exact(Array.getElem?_eq_some_iff.1 ho).1
  by_cases hk:i=k
  ·subst hk
   right
   refine⟨rfl,?_⟩;rw[hf,List.filter_eq_nil_iff];intro x hx;have:=Cz hcl ops.size i x o ho hd (hw1 x (hlt x hx));rcases Nat.lt_or_ge x listed.size with h|h
   ·simp[h]at this⊢; exact this
   ·simp[Array.getElem?_eq_none h]at this
  ·left
   rw[hf,List.mem_filter];exact⟨hall i (by omega),by rw[h1];rfl⟩
 intro m
 induction m with
 | zero =>
  intro r listed γ V hl hsz hf hlk hcl h hC g w a hg hs;obtain rfl:r=[]:=List.length_eq_zero_iff.1 hl
  have hdone:∀x,x<k->listed.getD x true=true:=by
   intro x hx;have:=(List.filter_eq_nil_iff.1 hf.symm) x (hall x hx);simpa using this
  refine⟨fun he=>?_,fun i hi=>?_⟩
  ·exfalso
   have:k∈Region.ready .any ops listed:=by
    refine mem_ready.2 ⟨hlk,ol,hol,fun e hm hb=>?_⟩;have h5:=hdone _ (hw2 e hm hb);have hlt':e.on<listed.size:=by rw[hsz,hops];have:=hw2 e hm hb;omega
    simpa[hlt'] using h5
   rw[he]at this;cases this
  ·obtain rfl:i=k:=by
    rcases hmem [] listed hcl hf i hi with h|h
    ·cases h
    ·exact h.1
   have h1:DOps P ro n ops Q [ol] ⟨γ,V,df⟩:=fun g w a r hr hs=>by
    have h':=h g w a r hr hs;obtain⟨g',s',x,k1,k2,k3,k4⟩:=h';cases x with
    |normal=>exact At k1 _ (k4 g' w a r (hr.mono k1) k2)
    |ret=>cases k3
    |exit _=>cases k3
    |panic _=>obtain⟨v,k3,_⟩:=k3;cases k3
   have h2:=At hg _ (h1 g w a rr (hr.mono hg) hs);unfold wpOpIn;rw[hol]
   have hz:∀j,j<ops.size->(listed.setIfInBounds i true).getD j true=true:=by
    intro j hj
    by_cases hji:j=i
    ·subst hji;have:j<listed.size:=by rw[hsz];exact hj
     simp[this]
    ·rw[getD_set_ne true (fun e=>hji e.symm)];exact hdone j (by omega)
   have hnr:Region.ready .any ops (listed.setIfInBounds i true)=[]:=List.eq_nil_iff_forall_not_mem.2 fun j hj=>by
    obtain⟨h1,o,ho,_⟩:=mem_ready.1 hj;rw[hz j (Array.getElem?_eq_some_iff.1 ho).1]at h1;cases h1
   simp only[wpListIn]at h2;simp only;split
   ·rename_i hw;rw[if_pos hw]at h2;exact Oper.wpIn_mono (fun a w h=>⟨hnr,h⟩) h2
   ·rename_i hw;rw[if_neg hw]at h2;exact⟨h2.1,hnr,h2.2⟩
 | succ m ih =>
  intro r listed γ V hl hsz hf hlk hcl h hC g w a hg hs;obtain⟨y,t,rfl⟩:∃y t,r=y::t:=by cases r with|nil=>cases hl|cons y t=>exact⟨y,t,rfl⟩
  refine⟨fun he=>?_,fun i hi=>?_⟩
  ·exfalso
   obtain⟨l1,l2,hord,hl1,hy,hl2⟩:=List.filter_eq_cons_iff.1 hf.symm;subst hord;obtain⟨h1,_,_,o,ho,hea,_⟩:=Dx l1 [] hmix
   have:y∈Region.ready .any ops listed:=by
    refine mem_ready.2 ⟨by simpa using hy,o,ho,fun e hm hb=>?_⟩;rcases hea e hm hb with h4|h4
    ·have h5:=hl1 _ h4;simp only[Bool.not_eq_true,Bool.not_eq_false']at h5
     have hlt':e.on<listed.size:=by
      have:=hlt e.on (by simp[h4]);rw[hsz,hops];omega
     simpa[hlt'] using h5
    ·cases h4
   rw[he]at this;cases this
  ·have hir:i∈y::t:=by
    rcases hmem _ listed hcl hf i hi with h|h
    ·exact h
    ·exact absurd h.2 (by simp)
   obtain⟨pre,post,hsplit⟩:=List.append_of_mem hir;rw[hsplit]at hf h hl;obtain⟨l1',l2',hord,hf1,hf2⟩:=List.filter_eq_append_iff.1 hf.symm;obtain⟨m1,m2,hl2',hm1,hiu,hf3⟩:=List.filter_eq_cons_iff.1 hf2;have hord':ord=(l1'++m1)++i::m2:=by rw[hord,hl2'];simp
   have hik:i<k:=hlt i (by rw[hord'];simp);rw[hord']at hmix;obtain⟨n1,_,n3,o,ho,hea,hx⟩:=Dx (l1'++m1) [] hmix;obtain⟨hiun,o',ho',hdone⟩:=mem_ready.1 hi;obtain rfl:o'=o:=by rw[ho]at ho';cases ho';rfl
   have hfront:=F7 ho post pre γ V (fun x hxp=>by
    have hx1:x∈l1'++m1:=by
     have:x∈l1'.filter (fun i=> !listed.getD i true):=by rw[hf1];exact hxp
     simp[(List.mem_filter.1 this).1]
    have hxu:listed.getD x true=false:=by
     have:x∈l1'.filter (fun i=> !listed.getD i true):=by rw[hf1];exact hxp
     simpa using(List.mem_filter.1 this).2
    rcases hx x hx1 with h4|h4
    ·exfalso
     have:=Cz hcl ops.size i x o' ho hdone h4
     rcases Nat.lt_or_ge x listed.size with hlt|hlt
     ·simp[hlt]at this hxu;rw[hxu]at this;cases this
     ·simp[Array.getElem?_eq_none hlt]at this
    ·exact h4) h
   have hnext:pre++post=ord.filter (fun j=> !(listed.setIfInBounds i true).getD j true):=by
    have hil:i<listed.size:=by
     rw[hsz];exact(Array.getElem?_eq_some_iff.1 ho).1
    rw[hord',List.filter_append,List.filter_cons];have e1:(listed.setIfInBounds i true).getD i true=true:=by simp[hil]
    rw[e1,B3 n1,B3 n3];simp only[Bool.not_true,Bool.false_eq_true,if_false,List.filter_append,hf1,hf3];rw[List.filter_eq_nil_iff.2 (fun x hx=>by simpa using hm1 x hx),List.append_nil]
   have hlen:(pre++post).length=m:=by simp at hl⊢; omega
   have hlk':(listed.setIfInBounds i true).getD k true=false:=by rw[getD_set_ne true (show i≠k by omega)];exact hlk
   obtain⟨o2,ho2,hh⟩:=hfront;obtain rfl:o2=o':=by rw[ho]at ho2;cases ho2;rfl
   unfold wpOpIn;simp only[ho];rcases hh with⟨d,hy,hM⟩|⟨_,hE⟩
   ·exact Gx (Q:=Q) hN (hr.mono hg) hg hs hC hy fun g' w' a' hg' hs'=>ih _ _ _ _ hlen (by simpa using hsz) hnext hlk' (hcl.set hi) hM hC g' w' a' (hg.trans hg') hs'
   ·exact Fe (Q:=Q) (hr.mono hg) hg hs hE (fun g' w' a' d S' hg' hR hs'=>ih _ _ _ _ hlen (by simpa using hsz) hnext hlk' (hcl.set hi) hR.2 hR.1 g' w' a' (hg.trans hg') hs') fun d S' hp=>hp
def Il(ops:Array Oper)(E ord:List Nat):Bool:=mixB ops E [] ord&&(List.range (ops.size-1)).all ord.contains&&(ord.length==ops.size-1)&&ord.all (fun i=>decide (i<ops.size-1))&&(match ops[ops.size-1]? with
 |some o=>(List.range (ops.size-1)).all (fun i=>G4 ops ops.size (ops.size-1) i)&&o.after.all (fun e=> !Region.binds .any e||decide (e.on<ops.size-1))
 |none=>false)
theorem Pc(hN:P.funcs.size=N)(hm:P.follows .mixedOrders=true){l:List Oper}{id:Nat}{γ:Fr}{V:Sig}(ord E:List Nat)(S0:Sig){ol:Oper}(hB:Il l.toArray E ord=true)(hl:nthO l (l.length-1)=some ol)(hC:Sub S0 V)
  {lp:List (Bool×Oper)} (hlp:FF l E ord=some lp) (h:MO P ro n l.toArray N S0 (Then (fun s=>DOps P ro n l.toArray Q [ol] s) Q) df lp γ V):DWp P ro n (.region id l.toArray true) Q ⟨γ,V,df⟩:=by
 intro g w a r hr hs;refine wpIn_region_any hm ?_;rw[Nw]at hl;have hne:l.length≠0:=fun e=>by have:l=[]:=List.length_eq_zero_iff.1 e;subst this;cases hl
 unfold Il at hB;simp only[Bool.and_eq_true,beq_iff_eq]at hB;obtain⟨⟨⟨⟨b1,b2⟩,b3⟩,b4⟩,b5⟩:=hB;have hops:l.toArray.size=(l.toArray.size-1)+1:=by simp;omega
 have hol:l.toArray[l.toArray.size-1]? = some ol:=by simpa using hl
 rw[hol]at b5;simp only[Bool.and_eq_true]at b5;have hlt:∀i∈ord,i<l.toArray.size-1:=fun i hi=>by simpa using List.all_eq_true.1 b4 i hi
 have hs':SimS P g n ⟨γ,V,df⟩ a { w with drawn:=w.drawn+1 }:=
  ⟨⟨fun b o v h=>hs.sim.imm b o v h,hs.sim.keep,fun i o h=>by
   have:=hs.sim.obj i o h
   cases o<;>exact this,hs.sim.inj,hs.sim.free,hs.sim.htop,hs.sim.hdom,hs.sim.fin,hs.sim.io⟩,hs.tmps,hs.df⟩
 have hcl:Closed l.toArray (Array.replicate l.toArray.size false):=by
  intro q o _ hq;rcases Nat.lt_or_ge q l.length with h'|h'
  ·simp[h']at hq
  ·simp[h']at hq
 have hmo:=DN (P:=P) (ro:=ro) (n:=n) (N:=N) (S0:=S0) (Q:=Then (fun s=>DOps P ro n l.toArray Q [ol] s) Q) (df:=df) (ops:=l.toArray) (E:=E) (ord:=ord) (fun i hi=>by have:=hlt i hi;omega) (by rw[I9 hlp];exact h)
 have:=Rg (P:=P) hN (ops:=l.toArray) (k:=l.toArray.size-1) hops hol b1 (fun i hi=>by simpa using List.all_eq_true.1 b2 i (by simpa using hi)) hlt
  (fun i hi=>List.all_eq_true.1 b5.1 i (List.mem_range.2 hi))
  (fun e he hb=>by
   have:=Array.all_eq_true_iff_forall_mem.1 b5.2 e he
   simpa[hb] using this)
  hr ord.length ord (Array.replicate l.toArray.size false) γ V rfl (by simp) (Eb (fun i hi=>by have:=hlt i hi;omega)).symm (by
   have:l.toArray.size-1<l.toArray.size:=by omega
   rw[Array.getD_eq_getD_getElem?]
   simp only[Array.getElem?_replicate,this,if_true];rfl) hcl hmo hC g _ a (.refl g) hs'
 rw[b3,<-hops]at this;exact this
end
theorem Hu{g:G}{d d':D}(h:∀v,Rep g d v->Rep g d' v): ∀{az bs:List D}{vs:List Value},RepL g (az++d::bs) vs->RepL g (az++d'::bs) vs
 |[],_,_,⟨v,r,e,h1,h2⟩=>⟨v,r,e,h v h1,h2⟩
 |_::_,_,_,⟨v,r,e,h1,h2⟩=>⟨v,r,e,h1,Hu h h2⟩
section
variable {P:Program}{n:Nat}{γ:List (Nat×D)}{V:Sig}{df:List DDf}
theorem Et{i:Nat}{az bs:List D}{d d':D}(hi:V i=some (.cells (az++d::bs)))(h:WkD d d'):Wk P n ⟨γ,V,df⟩ ⟨γ,V.set i (.cells (az++d'::bs)),df⟩:=
 fun g _ _ hs=>⟨g,.refl g,⟨hs.sim.retell hi fun _=>Hu (h g),hs.tmps,hs.df⟩⟩
theorem Fz{i sz:Nat}{st:MR}{es:List (List D)}{az bs:List D}(hm:mOK V sz st es)(hi:V i=some (.cells (az++mD st es.length::bs))):Wk P n ⟨γ,mS V st es,df⟩ ⟨γ,V.set i (.cells (az ++ .slice es .no::bs)),df⟩:=by
 cases st with
 |none=>
  obtain rfl:es=[]:=hm;exact Et hi (Aq _ (.inl rfl))
 |some x=>
  obtain⟨j,cap,rest⟩:=x;obtain⟨m1,m2,m3,m4⟩:=hm;have hij:i≠j:=fun h=>by rw[h,m1]at hi;cases hi
  intro g w a hs;obtain⟨b,_,_,hb,_,_⟩:=hs.sim.obj j _ (w7 V j _);obtain⟨g',hle,hs',hri⟩:=hs.sim.freeze (i:=j) (w7 V j _) hb;have hU:(mS V (some (j,cap,rest)) es).del j=V:=Sig.set_del _ _ m1;simp only at hs';rw[hU]at hs';refine⟨g',hle,⟨hs'.retell hi fun vs=>Hu fun v hv=>?_,hs.tmps.mono hle,hs.df.mono hle⟩⟩;obtain⟨b',hb',hv⟩:=hv;obtain rfl:b'=b:=by have:=hle.rho _ _ hb;rw[this]at hb';cases hb';rfl
  exact⟨_,cap,hv,m3,.inr ⟨sz,b',0,rfl,F5 m4 hri⟩,trivial⟩
theorem WkL.repI{g:G}{b:Nat}: ∀{az bs:List D}{o:Nat},WkL az bs->RepI g b o az->RepI g b o bs
 |[],[],_,_,h=>h
 |_::_,_::_,_,⟨h1,h2⟩,⟨⟨v,h3,h4⟩,h5⟩=>⟨⟨v,h3,h1 g v h4⟩,WkL.repI h2 h5⟩
 |[],_::_,_,h,_=>h.elim
 |_::_,[],_,h,_=>h.elim
def WkE:List (List D)->List (List D)->Prop
 |[],[]=>True
 |a::az,b::bs=>WkL a b/\WkE az bs
 |_,_=>False
theorem WkE.len: ∀{az bs:List (List D)},WkE az bs->az.length=bs.length
 |[],[],_=>rfl
 |a::az,b::bs,h=>by simp[WkE.len h.2]
 |[],_::_,h=>h.elim
 |_::_,[],h=>h.elim
theorem WkE.rep{g:G}{b sz:Nat}: ∀{az bs:List (List D)}{o:Nat},WkE az bs->RepE g b sz o az->RepE g b sz o bs
 |[],[],_,_,h=>h
 |_::_,_::_,_,⟨h1,h2⟩,⟨⟨h3,h4⟩,h5⟩=>⟨⟨by rw[<-h1.len];exact h3,h1.repI h4⟩,WkE.rep h2 h5⟩
 |[],_::_,_,h,_=>h.elim
 |_::_,[],_,h,_=>h.elim
theorem GC{es es':List (List D)}(o:Own)(h:WkE es es'):WkD (.slice es o) (.slice es' .no):=by
 rintro g v ⟨a,cap,h1,h2,h3,_⟩
 refine⟨a,cap,by rw[<-h.len];exact h1,by rw[<-h.len];exact h2,?_,trivial⟩;rcases h3 with rfl|⟨sz,b,o,ha,hr⟩
 ·exact .inl (List.length_eq_zero_iff.mp h.len.symm)
 ·exact .inr ⟨sz,b,o,ha,h.rep hr⟩
theorem Lr: ∀ds:List D,WkL ds ds
 |[]=>trivial
 |d::ds=>⟨A7 d,Lr ds⟩
theorem Oa: ∀es:List (List D),WkE es es
 |[]=>trivial
 |e::es=>⟨Lr e,Oa es⟩
theorem WkE.app: ∀{az bs cs ds:List (List D)},WkE az bs->WkE cs ds->WkE (az++cs) (bs++ds)
 |[],[],_,_,_,h=>h
 |_::_,_::_,_,_,⟨h1,h2⟩,h=>⟨h1,WkE.app h2 h⟩
 |[],_::_,_,_,h,_=>h.elim
 |_::_,[],_,_,h,_=>h.elim
end
theorem Va{V:Sig}{sz:Nat}{st:MR}{es:List (List D)}{j:Nat}{o:DObj}(hm:mOK V sz st es)(hj:mS V st es j=none):(mS V st es).set j o=mS (V.set j o) st es/\mOK (V.set j o) sz st es:=by
 cases st with
 |none=>exact⟨rfl,hm⟩
 | some x =>
  obtain⟨i,cap,rest⟩:=x
  have hij:j≠i:=fun h=>by
   subst h;simp only[mS,w7]at hj;cases hj
  obtain⟨m1,m2,m3,m4⟩:=hm;refine⟨?_,by rw[w8 _ _ (Ne.symm hij)];exact m1,m2,m3,m4⟩
  funext k
  simp only[mS,Sig.set]
  by_cases h1:k=j
  ·subst h1;rw[if_pos rfl,if_neg hij,if_pos rfl]
  ·by_cases h2:k=i
   ·subst h2;rw[if_neg h1,if_pos rfl,if_pos rfl]
   ·rw[if_neg h1,if_neg h2,if_neg h2,if_neg h1]
theorem Rq{V:Sig}{sz:Nat}{st:MR}{es:List (List D)}{j:Nat}{o:DObj}(hm:mOK V sz st es)(hj:V j=some o):mS V st es j=some o:=by
 cases st with
 |none=>exact hj
 |some x=>
  obtain⟨i,cap,rest⟩:=x;have hij:j≠i:=fun h=>by rw[h,hm.1]at hj;cases hj
  simp only[mS];rw[w8 _ _ hij];exact hj
theorem Ro{V:Sig}{st:MR}{es:List (List D)}{j:Nat}(hj:mS V st es j=none):V j=none:=by
 cases st with
 |none=>exact hj
 |some x=>
  obtain⟨i,cap,rest⟩:=x;simp only[mS,Sig.set]at hj
  by_cases h:j=i
  ·rw[if_pos h]at hj;cases hj
  ·rw[if_neg h]at hj;exact hj
theorem mS_put{V:Sig}{sz:Nat}{st:MR}{es:List (List D)}{j:Nat}{o x:DObj}(hm:mOK V sz st es)(hj:V j=some x):(mS V st es).set j o=mS (V.set j o) st es/\mOK (V.set j o) sz st es:=by
 cases st with
 |none=>exact⟨rfl,hm⟩
 | some y =>
  obtain⟨i,cap,rest⟩:=y;obtain⟨m1,m2,m3,m4⟩:=hm;have hij:j≠i:=fun h=>by rw[h,m1]at hj;cases hj
  refine⟨?_,by rw[w8 _ _ (Ne.symm hij)];exact m1,m2,m3,m4⟩
  funext k
  simp only[mS,Sig.set]
  by_cases h1:k=j
  ·subst h1;rw[if_pos rfl,if_neg hij,if_pos rfl]
  ·by_cases h2:k=i
   ·subst h2;rw[if_neg h1,if_pos rfl,if_pos rfl]
   ·rw[if_neg h1,if_neg h2,if_neg h2,if_neg h1]
section
variable {P:Program}{tab:Nat->Ty}{ro:Option Nat}{n:Nat}{ops:Array Oper}{Q:DX->St->Prop}{γ:List (Nat×D)}{V:Sig}{df:List DDf}{rest:List Oper}{t:Nat}{ty:TypeId}{pos:String}{after:Array Edge}
theorem NW(ht:B8 P tab){T len e:Nat}(htn:t<n)(hk:(tab T).k=.array len e)(he:A5 (tab e).k=false)
  (h:DOps P ro n ops Q rest ⟨(t,.agg (tab T).zero)::γ,V,df⟩):DOps P ro n ops Q (⟨some t,.build T #[],ty,pos,after,none⟩::rest) ⟨γ,V,df⟩:=by
 refine Ds (fun d S'=>d=.agg (tab T).zero/\S'=V) rfl (fun c e=>by cases e) (Ac fun c e=>by cases e) (by simp[As,htn]) ?_ (fun d S' ⟨a,b⟩=>by subst a b;exact h);intro g w a hs _;obtain⟨inf,desc,z,h1,h2,h3,h4,h5,h6,h7,h8,h9,h10⟩:=C8 (ht T) (by rw[hk];simp);obtain⟨inf',_,_,g1,_⟩:=C8 (ht e) (Ag he)
 have hz:RepL g (tab T).zero z.cells.toList:=by
  rw[h9]
  exact AT (by simp) fun j x v e1 e2=>by
   rw[List.getElem?_map,e2]at e1;cases e1;exact DJ g v
 have hb:P.built T []=some z.cells:=by
  unfold Program.built;rw[h1,HV ht hk];simp only[h7,g1];rfl
 refine⟨g,w,.agg z.cells,.agg (tab T).zero,V,?_,.refl g,hs,⟨z.cells.toList,by simp,hz⟩,rfl,rfl⟩;have:=run_build (P:=P) w T #[] z.cells hb;simp only[execOp,Array.map_empty,Sem.run_bind,this,Result.andThen_ok];rfl
end
end Go.DL
