/- A part of the proof. -/
import Derived.Test.YteldimffglchkaaGreatDoorN02
import Derived.Laws.AppendOwn
set_option linter.all false
namespace Go.DL
open Go
def Ba(cs:Array Value)(k:Nat):List Value->Array Value
 |[]=>cs
 |v::vs=>Ba (cs.setIfInBounds k v) (k+1) vs
theorem Ce: ∀(vs:List Value) (cs:Array Value) (k:Nat),(Ba cs k vs).size=cs.size
 |[],_,_=>rfl
 |v::vs,cs,k=>by rw[Ba,Ce vs];simp
theorem CD: ∀(vs:List Value) (cs:Array Value) (k i:Nat),k+vs.length<=cs.size->(Ba cs k vs)[i]? = if k<=i/\i<k+vs.length then vs[i-k]? else cs[i]?
 |[],cs,k,i,_=>by simp only[Ba,List.length_nil];rw[if_neg (by omega)]
 | v::vs,cs,k,i,h=>by
  simp only[List.length_cons]at h
  rw[Ba,CD vs _ (k+1) i (by simp;omega)]
  simp only[List.length_cons]
  by_cases ba:i=k
  ·subst ba
   rw[if_neg (by omega),if_pos (by omega)]
   have:i<cs.size:=by omega
   simp[this]
  ·by_cases h2:k+1<=i/\i<k+1+vs.length
   ·rw[if_pos h2,if_pos (by omega)]
    rw[show i-k=(i-(k+1))+1 by omega];simp
   ·rw[if_neg h2,if_neg (by omega),Array.getElem?_setIfInBounds_ne (Ne.symm ba)]
def O8:Value->Bool
 |.agg _|.tuple _=>false
 |_=>true
def setB(w:World)(b:Nat)(o:Obj):World:={ w with heap:=w.heap.setIfInBounds b o }
theorem Ed{w:World}{b k:Nat}{o:Obj}(h:k≠b):(setB w b o).heap[k]? = w.heap[k]? :=by simp[setB,Array.getElem?_setIfInBounds_ne (Ne.symm h)]
theorem Ee{w:World}{b:Nat}{o x:Obj}(h:w.heap[b]? = some x):(setB w b o).heap[b]? = some o:=by
 have:=(Array.getElem?_eq_some_iff.1 h).1
 simp[setB,this]
theorem Ll{w:World}{b o:Nat}{cs:Array Value}{ty:TypeId}{fz:Nat×Nat}(v:Value)(h:w.heap[b]? = some (.cells cs ty fz)):
  w.setCell ⟨b,o,none⟩ v=setB w b (.cells (cs.setIfInBounds o v) ty fz):=by
 have bp:=(Array.getElem?_eq_some_iff.1 h).1
 have he:=(Array.getElem?_eq_some_iff.1 h).2
 unfold World.setCell setB
 congr 1
 apply Array.ext
 ·simp
 ·intro i h1 h2
  simp only[Array.size_modify]at h1
  rw[Array.getElem_modify]
  by_cases hi:b=i
  ·subst hi;simp[he]
  ·have h3:(w.heap.setIfInBounds b (Obj.cells (cs.setIfInBounds o v) ty fz))[i]? = w.heap[i]? :=Array.getElem?_setIfInBounds_ne hi
   rw[Array.getElem?_eq_getElem h2,Array.getElem?_eq_getElem h1]at h3
   rw[if_neg hi];exact(Option.some.inj h3).symm
theorem Qe(w:World)(b:Nat)(o o':Obj):setB (setB w b o) b o'=setB w b o':=by simp[setB]
theorem Bv{P:Program}{b o:Nat}{ty:TypeId}: ∀(vs:List Value) (i:Nat) (w:World) (cs:Array Value),w.heap[b]? = some (.cells cs ty (0,0))->(∀v∈vs,O8 v=true)->o+i+vs.length<=cs.size->
  (storeCells ⟨b,o,none⟩ vs i).run P w=.ok () (if vs=[] then w else setB w b (.cells (Ba cs (o+i) vs) ty (0,0)))
 |[],i,w,cs,_,_,_=>by simp[storeCells,Sem.run]
 | v::vs,i,w,cs,h,hf,hsz=>by
  simp only[List.length_cons]at hsz
  have aM:w.cell? ⟨b,o+i,none⟩=some (cs[o+i]'(by omega)):=by
   simp[World.cell?, h,show o+i<cs.size by omega]
  have bw:w.frozen? ⟨b,o+i,none⟩=false:=by simp[World.frozen?, h]
  have hv:=hf v (by simp)
  have aC:(store ((⟨b,o,none⟩:Addr).add i) v).run P w=.ok () (setB w b (.cells (cs.setIfInBounds (o+i) v) ty (0,0))):=by
   rw[Bu,<-Ll v h]
   unfold store
   cases v<;>simp[O8]at hv<;>simp[Sem.run,aM,bw]
  simp only[storeCells,Sem.run_bind,aC,Result.andThen_ok]
  have h2:(setB w b (.cells (cs.setIfInBounds (o+i) v) ty (0,0))).heap[b]? = some (.cells (cs.setIfInBounds (o+i) v) ty (0,0)):=Ee h
  rw[Bv vs (i+1) _ _ h2 (fun x hx=>hf x (by simp[hx])) (by simp;omega)]
  by_cases a8:vs=[]
  ·subst a8;simp[Ba]
  ·simp[a8,Ba,Qe,Nat.add_assoc]
def D.flat:D->Bool
 |.any|.agg _|.tup _=>false
 |_=>true
theorem Rk{g:G}{d:D}{v:Value}(h:Rep g d v)(hf:d.flat=true):O8 v=true:=by
 cases d<;>simp only[D.flat]at hf<;>(try cases hf)
 case bool=>cases h;rfl
 case int=>cases h;rfl
 case str=>cases h;rfl
 case nilp=>cases h;rfl
 case cptr=>obtain⟨b,o,rfl,hr⟩:=h;rfl
 case ptr=>obtain⟨b,hb,rfl⟩:=h;rfl
 case nils=>cases h;rfl
 case slice=>obtain⟨a,cap,rfl,hr⟩:=h;rfl
 case sref=>obtain⟨b,hb,rfl⟩:=h;rfl
 case map=>obtain⟨b,hb,rfl⟩:=h;rfl
 case nilmap=>cases h;rfl
 case cmap=>obtain⟨b,es,c,rfl,hr⟩:=h;rfl
 case func=>obtain⟨fs,cs,rfl,hr⟩:=h;rfl
 case yld=>obtain⟨b,hb,rfl⟩:=h;rfl
 case nilf=>cases h;rfl
 case iface=>obtain⟨x,rfl,hr⟩:=h;rfl
 case niliface=>cases h;rfl
 case obj=>obtain⟨b,hb,rfl⟩:=h;rfl
def BB(ds:List D):Bool:=ds.all D.flat
theorem CK{g:G}: ∀{ds:List D}{vs:List Value},RepL g ds vs->BB ds=true->∀v∈vs,O8 v=true
 |[],_,h,_,v,hv=>by cases h;simp at hv
 |d::ds,_,⟨v0,r,e,h1,h2⟩,hf,v,hv=>by
  subst e
  simp only[BB,List.all_cons,Bool.and_eq_true]at hf
  rcases List.mem_cons.1 hv with rfl|hv
  ·exact Rk h1 hf.1
  ·exact CK h2 hf.2 v hv
theorem ObjRep.setB{P:Program}{g:G}{O:Sig}{w:World}{i b:Nat}{d:DObj}{o:Obj}(hU:O i=some d)(hne:blk g O i≠some b)(h:ObjRep P g w i d):ObjRep P g (DL.setB w b o) i d:=by
 have key:∀k x,w.heap[k]? = some x->k≠b->(DL.setB w b o).heap[k]? = some x:=fun k x h hk=>by rw[Ed hk];exact h
 cases d with
 |cells ds=>
  obtain⟨k,vs,ty,h1,h2,h3⟩:=h
  exact⟨k,vs,ty,h1,key k _ h2 (fun e=>hne (by simp[blk,hU,h1,e])),h3⟩
 |tcells ty ds=>
  obtain⟨k,vs,h1,h2,h3⟩:=h
  exact⟨k,vs,h1,key k _ h2 (fun e=>hne (by simp[blk,hU,h1,e])),h3⟩
 |mcells ds=>
  obtain⟨k,vs,ty,h1,h2,h3⟩:=h
  exact⟨k,vs,ty,h1,key k _ h2 (fun e=>hne (by simp[blk,hU,h1,e])),h3⟩
 |map l=>
  obtain⟨k,vs,ty,h1,h2,h3⟩:=h
  exact⟨k,vs,ty,h1,key k _ h2 (fun e=>hne (by simp[blk,hU,h1,e])),h3⟩
 |tail sz n=>
  rcases h with h|⟨k,o',cap,vs,ty,h1,h2,h3,h4,h5⟩
  ·exact .inl h
  ·exact .inr ⟨k,o',cap,vs,ty,h1,h2,key k _ h3 (fun e=>hne (by simp[blk,hU,h1,e])),h4,h5⟩
 |loop st pe ps az bo n γ did=>
  obtain⟨k,db,fn,tmps,h1,h2,h3,h4,h5⟩:=h
  exact⟨k,db,fn,tmps,h1,h2,h3,h4,key k _ h5 (fun e=>hne (by simp[blk,hU,h1,e]))⟩
 |defs=>
  obtain⟨k,h1,h2⟩:=h
  exact⟨k,h1,key k _ h2 (fun e=>hne (by simp[blk,hU,h1,e]))⟩
 |iter l la=>
  obtain⟨k,h1,h2⟩:=h
  exact⟨k,h1,h2.imp (fun ⟨a,c,d⟩=>⟨a,c,key k _ d (fun e=>hne (by simp[blk,hU,h1,e]))⟩) (fun ⟨mb,es,c,seen,e1,r⟩=>⟨mb,es,c,seen,key k _ e1 (fun e=>hne (by simp[blk,hU,h1,e])),r⟩)⟩
def G.bind(g:G)(i b:Nat):G:={ g with rho:=fun j=>if j=i then some b else g.rho j }
theorem G.bind_le{g:G}{i b:Nat}(h:g.rho i=none):g.le (g.bind i b):=
 {imm:=fun _ _ _ x=>x,hist:=fun _ _ _ x=>x,keep:=fun _ _ x=>x,io:=rfl
  rho:=fun j c x=>by
   simp only[G.bind]
   by_cases hj:j=i
   ·subst hj;rw[h]at x;cases x
   ·rw[if_neg hj];exact x }
theorem Sim.taken{P:Program}{g:G}{O:Sig}{w:World}(hs:Sim P g O w){i:Nat}{d:DObj}(h:O i=some d):(g.rho i).isSome=true:=by
 have:=hs.obj i d h
 cases d with
 |tail sz n=>
  rcases this with h|⟨k,o',cap,vs,ty,h1,_⟩
  ·exact hs.hdom _ _ _ h.1
  ·exact hs.hdom _ _ _ h1
 |cells ds=>obtain⟨k,_,_,h1,_⟩:=this;rw[h1];rfl
 |tcells ty ds=>obtain⟨k,_,h1,_⟩:=this;rw[h1];rfl
 |mcells ds=>obtain⟨k,_,_,h1,_⟩:=this;rw[h1];rfl
 |map l=>obtain⟨k,_,_,h1,_⟩:=this;rw[h1];rfl
 |loop=>obtain⟨k,_,_,_,h1,_⟩:=this;rw[h1];rfl
 |defs=>obtain⟨k,h1,_⟩:=this;rw[h1];rfl
 |iter=>obtain⟨k,h1,_⟩:=this;rw[h1];rfl
theorem Sim.fresh{P:Program}{g:G}{O:Sig}{w:World}(hs:Sim P g O w): ∃i,g.rho i=none/\O i=none:=by
 obtain⟨m,hm⟩:=hs.fin
 refine⟨m,hm m (Nat.le_refl _),?_⟩
 cases h:O m with
 |none=>rfl
 |some d=>have:=hs.taken h;rw[hm m (Nat.le_refl _)]at this;cases this
theorem OH{g:G}{O:Sig}{i b j:Nat}(hU:O i=none):blk (g.bind i b) O j=blk g O j:=by
 unfold blk G.bind
 by_cases hj:j=i
 ·subst hj;rw[hU]
 ·cases O j with
  |none=>rfl
  |some d=>cases d<;>simp[hj]
theorem Sim.newObj{P:Program}{g:G}{O:Sig}{w:World}(hs:Sim P g O w){i:Nat}{d:DObj}{o:Obj}(hi:g.rho i=none)(hU:O i=none)(ht:d.isTail=false)
  (hd:ObjRep P (g.bind i w.heap.size) { w with heap:=w.heap.push o } i d):Sim P (g.bind i w.heap.size) (O.set i d) { w with heap:=w.heap.push o } where
 imm:=fun b o v h=>Mz (hs.imm b o v h)
 keep:=fun k o h=>heap_push (hs.keep k o h)
 obj:=fun j x h=>by
  by_cases hj:j=i
  ·subst hj;simp only[Sig.set,if_true,Option.some.injEq]at h;subst h;exact hd
  ·simp only[Sig.set,hj,if_false]at h
   exact((hs.obj j x h).mono (G.bind_le hi) (fun _ _ _ _ _ _ _ _ _ _ h=>h)).push _
 inj:=by
  have key:∀j b,blk (g.bind i w.heap.size) (O.set i d) j=some b->(j=i/\b=w.heap.size)\/(j≠i/\blk g O j=some b):=by
   intro j b h
   by_cases hj:j=i
   ·subst hj
    left
    refine⟨rfl,?_⟩
    simp only[blk,Sig.set,if_true]at h
    cases d<;>simp[DObj.isTail]at ht<;>simp[G.bind]at h<;>exact h.symm
   ·right
    refine⟨hj,?_⟩
    rw[<-OH (b:=w.heap.size) hU]
    unfold blk at h⊢
    simp only[Sig.set,hj,if_false]at h
    exact h
  intro j k b h1 h2
  rcases key j b h1 with⟨a1,a2⟩|⟨a1,a2⟩<;>rcases key k b h2 with⟨b1,b2⟩|⟨b1,b2⟩
  ·rw[a1,b1]
  ·have:=hs.blk_lt b2;omega
  ·have:=hs.blk_lt a2;omega
  ·exact hs.inj j k b a2 b2
 free:=fun j b h=>by
  by_cases hj:j=i
  ·subst hj
   have hb:b=w.heap.size:=by
    simp only[blk,Sig.set,if_true]at h
    cases d<;>simp[DObj.isTail]at ht<;>simp[G.bind]at h<;>exact h.symm
   subst hb
   refine⟨?_,fun _ o=>?_⟩
   ·cases hk:g.keep w.heap.size with
    |none=>exact hk
    |some x=>have:=(Array.getElem?_eq_some_iff.1 (hs.keep _ _ hk)).1;omega
   ·cases hk:g.imm w.heap.size o with
    |none=>exact hk
    |some x=>have:=L5 (hs.imm _ _ _ hk);omega
  ·have h':blk g O j=some b:=by
    rw[<-OH (b:=w.heap.size) hU]
    unfold blk at h⊢
    simp only[Sig.set,hj,if_false]at h
    exact h
   obtain⟨h1,h2⟩:=hs.free j b h'
   exact⟨h1,fun ht o=>h2 (fun x hx=>ht x (by simp only[Sig.set,hj,if_false];exact hx)) o⟩
 htop:=fun j sz n k h hk=>by
  by_cases hj:j=i
  ·subst hj;simp only[Sig.set,if_true,Option.some.injEq]at h;subst h;cases ht
  ·simp only[Sig.set,hj,if_false]at h;exact hs.htop j sz n k h hk
 hdom:=fun j n v h=>by
  simp only[G.bind]
  by_cases hj:j=i
  ·rw[if_pos hj];rfl
  ·rw[if_neg hj];exact hs.hdom j n v h
 io:=hs.io
 tab:=hs.tab
 fin:=by
  obtain⟨m,hm⟩:=hs.fin
  refine⟨max m (i+1),fun k hk=>?_⟩
  simp only[G.bind]
  rw[if_neg (by omega)]
  exact hm k (by omega)
theorem w6(O:Sig)(i:Nat)(o:DObj):O.set i o i=some o:=by simp[Sig.set]
theorem w7(O:Sig){i j:Nat}(o:DObj)(h:j≠i):O.set i o j=O j:=by simp[Sig.set,h]
theorem Sig.set_set(O:Sig)(i:Nat)(o o':DObj):(O.set i o).set i o'=O.set i o':=by
 funext j;by_cases h:j=i<;>simp[Sig.set,h]
theorem Sig.set_del(O:Sig){i:Nat}(o:DObj)(h:O i=none):(O.set i o).del i=O:=by
 funext j;by_cases hj:j=i
 ·subst hj;simp[Sig.del,h]
 ·simp[Sig.set,Sig.del,hj]
theorem BQ(g:G): ∀(l:List Value),RepL g (l.map B8) l
 |[]=>rfl
 |v::l=>⟨_,_,rfl,Dk g v,BQ g l⟩
section
variable {P:Program}{ro:Ro}{n:Nat}{ops:Array Oper}{Q:DX->St->Prop}{rest:List Oper}{tab:Nat->Ty}{γ:List (Nat×D)}{O:Sig}{df:List DDf}
theorem GD{o:Oper}{mk:Nat->D}{d:DObj}(hw:Ay ops γ o=some true)(bl:∀c,o.op≠.defer c)(bC:∀(w:World) (ρ:Operand->Value) f,o.about P w ρ=some f->False)(ho:Ar n o=true)(hd:d.isTail=false)
  (hr : ∀ g w (a:Act),Sim P g O w->RepT g γ n a.tmps -> ∃ ob v,(execOp a.eval o).run P w = .ok (.value v) { w with heap:=w.heap.push ob } /\
   ∀i,g.rho i=none->ObjRep P (g.bind i w.heap.size) { w with heap:=w.heap.push ob } i d/\Rep (g.bind i w.heap.size) (mk i) v)
  (h:∀i,O i=none->DOps P ro n ops Q rest ⟨putD o.dst (mk i) γ,O.set i d,df⟩):DOps P ro n ops Q (o::rest) ⟨γ,O,df⟩:=by
 intro g w a r bi hs
 unfold wpListIn
 rw[AH hs.tmps hw,if_pos rfl]
 refine⟨fun f hf=>(bC _ _ f hf).elim,?_⟩
 obtain⟨ob,v,h1,h2⟩:=hr g w a hs.sim hs.tmps
 rw[Oper.semAt_eq _ _ _ bl,h1]
 obtain⟨i,hi,hU⟩:=hs.sim.fresh
 obtain⟨h3,h4⟩:=h2 i hi
 exact AD (G.bind_le hi) _ (h i hU _ _ _ r (bi.mono (G.bind_le hi)) (hs.put (G.bind_le hi) (hs.sim.newObj hi hU hd h3) h4 ho))
variable (ht:AZ P tab)
include ht
theorem E2{t T:Nat}{ty:TypeId}{pos:String}{after:Array Edge}(hk:A1 (tab T).k=false)(ay:t<n)
  (h:∀i,O i=none->DOps P ro n ops Q rest ⟨(t,.ptr i 0)::γ,O.set i (.cells (tab T).zero),df⟩) :
  DOps P ro n ops Q (⟨some t,.alloc T,ty,pos,after,none⟩::rest) ⟨γ,O,df⟩:=by
 refine GD (mk:=fun i=>.ptr i 0) (d:=.cells (tab T).zero) rfl (fun c e=>by cases e) (Aa fun c e=>by cases e) (by simp[Ar,ay]) rfl ?_ h
 intro g w a hs hT
 obtain⟨z,hz,bd,bD⟩:=Ct (ht T) (Ae hk) w
 refine⟨.cells z.cells T,.pointer (some ⟨w.heap.size,0,none⟩),?_,fun i hi=>⟨⟨w.heap.size,z.cells,T,by simp[G.bind],by simp,?_⟩,w.heap.size,by simp[G.bind],rfl⟩⟩
 ·simp only[execOp,Instr.alloc,Sem.run_bind,hz,Result.andThen_ok,newVar,Cl]
  rfl
 ·rw[bd];exact BQ _ _
omit ht in
theorem dops_box{t T:Nat}{x:Operand}{ty:TypeId}{pos:String}{after:Array Edge}(ae:(ev γ x).told=true)(ay:t<n)
  (h:∀i,O i=none->DOps P ro n ops Q rest ⟨(t,.ptr i 0)::γ,O.set i (.cells (ev γ x).cells),df⟩) :
  DOps P ro n ops Q (⟨some t,.box T x,ty,pos,after,none⟩::rest) ⟨γ,O,df⟩:=by
 refine GD (mk:=fun i=>.ptr i 0) (d:=.cells (ev γ x).cells) rfl (fun c e=>by cases e) (Aa fun c e=>by cases e) (by simp[Ar,ay]) rfl ?_ h
 intro g w a hs hT
 refine⟨.cells (a.eval x).cells T,.pointer (some ⟨w.heap.size,0,none⟩),?_,fun i hi=>⟨⟨w.heap.size,(a.eval x).cells,T,by simp[G.bind],by simp,?_⟩,w.heap.size,by simp[G.bind],rfl⟩⟩
 ·simp[execOp,Instr.box,newVar,Cl]
 ·exact RepL.mono (G.bind_le hi) _ (EF (Ah hT x) ae)
omit ht in
theorem Sim.setObj{g:G}{w:World}(hs:Sim P g O w){i b:Nat}{ds ds':List D}{vs':Array Value}{ty:TypeId}(hi:O i=some (.cells ds))(hb:g.rho i=some b)(hr:RepL g ds' vs'.toList)
  (hx:∃vs,w.heap[b]? = some (.cells vs ty (0,0))):Sim P g (O.set i (.cells ds')) (setB w b (.cells vs' ty (0,0))):=by
 obtain⟨vs,hx⟩:=hx
 have aa:blk g O i=some b:=by simp[blk,hi,hb]
 have aq:=hs.free i b aa
 have aP:∀o,g.imm b o=none:=aq.2 fun o ho=>by rw[hi]at ho;cases ho;rfl
 have ai:∀j,blk g (O.set i (.cells ds')) j=blk g O j:=by
  intro j
  by_cases hj:j=i
  ·subst hj;simp[blk,Sig.set,hi]
  ·simp[blk,Sig.set,hj]
 exact {
  imm:=fun c o v h=>by
   have hc:c≠b:=fun e=>by rw[e,aP o]at h;cases h
   have:=hs.imm c o v h
   unfold World.cell? at this⊢
   simp only at this⊢
   rw[Ed hc];exact this
  keep:=fun k o h=>by
   have hc:k≠b:=fun e=>by rw[e,aq.1]at h;cases h
   rw[Ed hc];exact hs.keep k o h
  obj:=fun j o h=>by
   by_cases hj:j=i
   ·subst hj
    rw[w6]at h;cases h
    exact⟨b,vs',ty,hb,Ee hx,hr⟩
   ·rw[w7 _ _ hj]at h
    exact(hs.obj j o h).setB h fun e=>hj (hs.inj j i b e aa)
  inj:=fun j k c h1 h2=>hs.inj j k c (by rw[<-ai];exact h1) (by rw[<-ai];exact h2)
  free:=fun j c h=>by
   rw[ai]at h
   obtain⟨h1,h2⟩:=hs.free j c h
   refine⟨h1,fun hh o=>?_⟩
   by_cases hj:j=i
   ·subst hj
    rw[aa]at h;cases h
    exact aP o
   ·exact h2 (fun x hx=>hh x (by rw[w7 _ _ hj];exact hx)) o
  htop:=fun j sz n k h hk=>by
   by_cases hj:j=i
   ·subst hj;rw[w6]at h;cases h
   ·rw[w7 _ _ hj]at h;exact hs.htop j sz n k h hk
  hdom:=hs.hdom
  io:=hs.io
  tab:=hs.tab
  fin:=hs.fin }
theorem Lh{g:G}{w:World}{a:Act}(hs:Sim P g O w)(hT:RepT g γ n a.tmps){T i off:Nat}{x y:Operand}{ds:List D}(hk:A1 (tab T).k=false)(hx:ev γ x=.ptr i off)(hi:O i=some (.cells ds))
  (ae:(ev γ y).told=true) (hl:(ev γ y).cells.length=(tab T).size) (hf:BB (ev γ y).cells=true) (aJ:off+(ev γ y).cells.length<=ds.length) :
  ∃w',(Instr.storeAt T (a.eval x) (a.eval y)).run P w=.ok () w'/\Sim P g (O.set i (.cells (ds.take off++(ev γ y).cells++ds.drop (off+(ev γ y).cells.length)))) w':=by
 have aG:=Ah hT x
 rw[hx]at aG
 obtain⟨b,hb,aG⟩:=aG
 have hy:=Ah hT y
 have aQ:=EF hy ae
 obtain⟨b',vs,ty',aN,ah,hr⟩:=hs.obj i _ hi
 obtain rfl:b'=b:=by rw[hb]at aN;cases aN;rfl
 have bn:=RepL.length aQ
 have bq:=RepL.length hr
 simp only[Array.length_toList]at bn bq
 let w':=setB w b' (.cells (Ba vs off (a.eval y).cells.toList) ty' (0,0))
 have aj:RepL g (ds.take off++(ev γ y).cells++ds.drop (off+(ev γ y).cells.length)) (Ba vs off (a.eval y).cells.toList).toList:=by
  refine AE (by simp only[List.length_append,List.length_take,List.length_drop,Array.length_toList,Ce];omega) fun j d v h1 h2=>?_
  have aA:(Ba vs off (a.eval y).cells.toList)[j]? = some v:=by simpa using h2
  rw[CD _ _ _ _ (by simp;omega)]at aA
  simp only[Array.length_toList]at aA
  simp only[List.getElem?_append,List.length_append,List.length_take,List.getElem?_take,List.getElem?_drop]at h1
  have e1:min off ds.length=off:=by omega
  rw[e1]at h1
  by_cases c1:j<off
  ·rw[if_neg (by omega)]at aA
   rw[if_pos (by omega),if_pos c1,if_pos c1]at h1
   have:=RepL.get hr j
   rw[h1]at this
   simp only[Array.getElem?_toList,aA,Option.getD_some]at this
   exact this
  ·by_cases c2:j<off+(ev γ y).cells.length
   ·rw[if_pos (by omega)]at aA
    rw[if_pos (by omega),if_neg c1]at h1
    have:=RepL.get aQ (j-off)
    rw[h1,aA]at this
    exact this
   ·rw[if_neg (by omega)]at aA
    rw[if_neg (by omega)]at h1
    have:=RepL.get hr j
    rw[show off+(ev γ y).cells.length+(j-(off+(ev γ y).cells.length))=j by omega]at h1
    rw[h1]at this
    simp only[Array.getElem?_toList,aA,Option.getD_some]at this
    exact this
 refine⟨w',?_,hs.setObj hi hb aj ⟨vs,ah⟩⟩
 simp only[aG,Instr.storeAt,Instr.sureAddr,storeVar,Sem.run_bind,Sem.run_pure,Result.andThen_ok,Az (ht T) (Ae hk)]
 rw[if_neg (by omega)]
 have aC:=Bv (P:=P) (a.eval y).cells.toList 0 w vs ah (CK aQ hf) (by simp;omega) (o:=off)
 rw[aC]
 simp only[Result.andThen_ok,Nat.add_zero]
 by_cases he:(a.eval y).cells.toList=[]
 ·rw[if_pos he]
  have be:w'=w:=by
   show setB w b' (.cells (Ba vs off (a.eval y).cells.toList) ty' (0,0))=w
   rw[he]
   obtain⟨bp,bu⟩:=Array.getElem?_eq_some_iff.1 ah
   have e:w.heap.setIfInBounds b' (.cells vs ty' (0,0))=w.heap:=by
    apply Array.ext (by simp);intro k h1 h2;by_cases hk:b'=k
    ·subst hk;simp[bu]
    ·rw[Array.getElem_setIfInBounds_ne _ hk]
   show { w with heap:=w.heap.setIfInBounds b' (.cells vs ty' (0,0)) }=w
   rw[e]
  rw[be]
 ·rw[if_neg he]
theorem K2{T i off:Nat}{x y:Operand}{ds:List D}{ty:TypeId}{pos:String}{after:Array Edge}{guard:Option (Nat×Bool)}(hw:Ay ops γ ⟨none,.store T x y,ty,pos,after,guard⟩=some true)(hk:A1 (tab T).k=false)(hx:ev γ x=.ptr i off)(hi:O i=some (.cells ds))
  (ae:(ev γ y).told=true) (hl:(ev γ y).cells.length=(tab T).size) (hf:BB (ev γ y).cells=true) (aJ:off+(ev γ y).cells.length<=ds.length)
  (h:DOps P ro n ops Q rest ⟨γ,O.set i (.cells (ds.take off++(ev γ y).cells++ds.drop (off+(ev γ y).cells.length))),df⟩) :
  DOps P ro n ops Q (⟨none,.store T x y,ty,pos,after,guard⟩::rest) ⟨γ,O,df⟩:=by
 refine Er (d:=.any) (U':=O.set i (.cells (ds.take off++(ev γ y).cells++ds.drop (off+(ev γ y).cells.length)))) hw (fun c e=>by cases e) (Aa fun c e=>by cases e) ?_ rfl h
 intro g w a hs hT
 obtain⟨w',h1,h2⟩:=Lh ht hs hT hk hx hi ae hl hf aJ
 exact⟨g,w',undef,.inr ⟨by simp only[execOp,Sem.run_bind,h1,Result.andThen_ok];rfl,rfl⟩,.refl g,h2,trivial⟩
omit ht in
theorem Lb{i t:Nat}{ds:List D}(hi:O i=some (.cells ds))(hg:getD γ t=.ptr i 0):Wk P n ⟨γ,O,df⟩ ⟨(t,.cptr ds 0)::γ,O.del i,df⟩:=by
 intro g w a hs
 have aw:=hs.sim
 obtain⟨b,vs,ty,hb,ah,hr⟩:=hs.sim.obj i _ hi
 have aa:blk g O i=some b:=by simp[blk,hi,hb]
 have aq:=hs.sim.free i b aa
 have aP:∀o,g.imm b o=none:=aq.2 fun o ho=>by change O i=some o at ho;rw[hi]at ho;cases ho;rfl
 have ak:g.le (g.addImm b vs.toList):=
  {imm:=fun c o v h=>by
    simp only[G.addImm]
    by_cases hc:c=b
    ·rw[hc,aP o]at h;cases h
    ·rw[if_neg hc];exact h
   rho:=fun _ _ h=>h,hist:=fun _ _ _ h=>h,keep:=fun _ _ h=>h,io:=rfl }
 have ai:∀j c,blk (g.addImm b vs.toList) (O.del i) j=some c->j≠i/\blk g O j=some c:=by
  intro j c h
  by_cases hj:j=i
  ·subst hj;simp[blk,Sig.del]at h
  ·refine⟨hj,?_⟩
   unfold blk at h⊢
   simp only[Sig.del,hj,if_false]at h
   exact h
 refine⟨g.addImm b vs.toList,ak,⟨?_,⟨hs.tmps.1,fun k=>?_⟩,hs.df.mono ak⟩⟩
 ·exact {
   imm:=fun c o v h=>by
    simp only[G.addImm]at h
    by_cases hc:c=b
    ·rw[if_pos hc]at h
     subst hc
     simp only[World.cell?, ah]
     simpa using h
    ·rw[if_neg hc]at h;exact aw.imm c o v h
   keep:=aw.keep
   obj:=fun j o h=>by
    have hj:j≠i:=fun e=>by rw[e]at h;simp[Sig.del]at h
    simp only[Sig.del,hj,if_false]at h
    refine(aw.obj j o h).mono ak ?_
    intro sz m c o' cap e1 e2 e3 k _ hk
    simp only[G.addImm]
    by_cases hc:c=b
    ·exfalso
     subst hc
     exact hj (aw.inj j i c (by rw[e1]at h;simp[blk,h,e2]) aa)
    ·rw[if_neg hc];exact hk
   inj:=fun j k c h1 h2=>aw.inj j k c (ai j c h1).2 (ai k c h2).2
   free:=fun j c h=>by
    obtain⟨hj,h'⟩:=ai j c h
    obtain⟨h1,h2⟩:=aw.free j c h'
    refine⟨h1,fun hh o=>?_⟩
    have hc:c≠b:=fun e=>hj (aw.inj j i b (e ▸ h') aa)
    simp only[G.addImm];rw[if_neg hc]
    exact h2 (fun x hx=>hh x (by simp only[Sig.del,hj,if_false];exact hx)) o
   htop:=fun j sz n k h hk=>by
    have hj:j≠i:=fun e=>by rw[e]at h;simp[Sig.del]at h
    simp only[Sig.del,hj,if_false]at h
    exact aw.htop j sz n k h hk
   hdom:=aw.hdom
   io:=aw.io
   tab:=aw.tab
   fin:=aw.fin }
 ·rw[A4]
  by_cases hk:k=t
  ·rw[if_pos hk,hk]
   have:=hs.tmps.2 t
   rw[hg]at this
   obtain⟨b',aN,hv⟩:=this
   obtain rfl:b'=b:=by rw[hb]at aN;cases aN;rfl
   exact⟨b',0,by simpa using hv,FI hr ak⟩
  ·rw[if_neg hk];exact Rep.mono ak _ (hs.tmps.2 k)
omit ht in
theorem Ck{l:List Oper}{s s':St}(h:Wk P n s s')(k:DOps P ro n ops Q l s'):DOps P ro n ops Q l s:=fun g w a r hr hs=>
 let ⟨g',l',aR⟩:=h g w a hs
 AD l' _ (k g' w a r (hr.mono l') aR)
theorem Nr{t T:Nat}{x:Operand}{ty ty':TypeId}{pos pos':String}{after after':Array Edge}(hk:A1 (tab T).k=false)(ay:t<n)(hx:x≠.tmp t)
  (ae:(ev γ x).told=true) (hl:(ev γ x).cells.length=(tab T).size) (hf:BB (ev γ x).cells=true)
  (h:DOps P ro n ops Q rest ⟨(t,.cptr (ev γ x).cells 0)::γ,O,df⟩) :
  DOps P ro n ops Q (⟨some t,.alloc T,ty,pos,after,none⟩::⟨none,.store T (.tmp t) x,ty',pos',after',none⟩::rest) ⟨γ,O,df⟩:=by
 refine E2 ht hk ay fun i hi=>?_
 have aL:ev ((t,.ptr i 0)::γ) x=ev γ x:=by
  cases x with
  |tmp k=>simp only[ev,A4];rw[if_neg fun e=>hx (by rw[e])]
  |_=>rfl
 have hz:(tab T).zero.length=(tab T).size:=by
  obtain⟨_,_,_,_,_,_,_,_,_,_,h8,_⟩:=BO (ht T) (Ae hk)
  exact h8
 refine K2 ht rfl hk (x:=.tmp t) (i:=i) (off:=0) (by simp[ev,A4]) (w6 ..) (by rw[aL];exact ae) (by rw[aL];exact hl) (by rw[aL];exact hf) (by rw[aL];omega) ?_
 rw[aL]
 refine Ck (Lb (i:=i) (t:=t) (w6 ..) (by simp[A4])) ?_
 have e1:(tab T).zero.take 0++(ev γ x).cells++(tab T).zero.drop (0+(ev γ x).cells.length)=(ev γ x).cells:=by
  rw[List.drop_of_length_le (by omega)];simp
 rw[Sig.set_set,Sig.set_del _ _ hi,e1]
 refine C4 (γ:=(t,.cptr (ev γ x).cells 0)::γ) (fun k=>?_) h
 simp only[A4]
 split<;>rfl
end
theorem RepL.split{g:G}: ∀{a b:List D}{vs:List Value},RepL g (a++b) vs->∃u v,vs=u++v/\RepL g a u/\RepL g b v
 |[],b,vs,h=>⟨[],vs,rfl,rfl,h⟩
 |d::a,b,vs,⟨v,r,e,h1,h2⟩=>by
  obtain⟨u,t,e2,h3,h4⟩:=RepL.split h2
  exact⟨v::u,t,by rw[e,e2];rfl,⟨v,u,rfl,h1,h3⟩,h4⟩
theorem RepL.append{g:G}: ∀{a b:List D}{u v:List Value},RepL g a u->RepL g b v->RepL g (a++b) (u++v)
 |[],b,u,v,h1,h2=>by cases h1;exact h2
 |d::a,b,_,v,⟨x,r,e,h1,h3⟩,h2=>⟨x,r++v,by rw[e];rfl,h1,RepL.append h3 h2⟩
theorem RepE.values{g:G}{b sz:Nat}: ∀{es:List (List D)}{o:Nat},RepE g b sz o es->∃vs,RepL g es.flatten vs/\vs.length=es.length*sz /\ ∀j v,vs[j]? = some v->g.imm b (o+j)=some v
 |[],_,_=>⟨[],rfl,by simp,fun j v h=>by simp at h⟩
 | e::es,o,⟨⟨h1,h2⟩,h3⟩=>by
  obtain⟨us,r1,hu⟩:=h2.values
  obtain⟨vs,r2,hl,hv⟩:=RepE.values h3
  have aI:=RepL.length r1
  refine⟨us++vs,by simpa using r1.append r2,by simp[hl,aI,h1,Nat.add_mul,Nat.add_comm],fun j v h=>?_⟩
  rw[List.getElem?_append]at h
  split at h
  ·exact hu j v h
  ·rename_i hj
   have:=hv _ _ h
   rw[aI,h1]at this hj
   rwa [show o+sz+(j-sz)=o+j by omega]at this
theorem I5{g:G}{b sz:Nat}: ∀{es:List (List D)}{o:Nat}{vs:List Value},(∀e∈es,e.length=sz)->RepL g es.flatten vs->(∀j v,vs[j]? = some v->g.imm b (o+j)=some v)->RepE g b sz o es
 |[],_,_,_,_,_=>trivial
 | e::es,o,vs,hl,hr,hv=>by
  rw[List.flatten_cons]at hr
  obtain⟨u,v,rfl,h1,h2⟩:=hr.split
  have aI:=RepL.length h1
  have bA:=hl e (by simp)
  refine⟨⟨bA,N4 h1 fun j x hx=>hv j x ?_⟩,I5 (fun e he=>hl e (by simp[he])) h2 fun j x hx=>?_⟩
  ·have:j<u.length:=(List.getElem?_eq_some_iff.1 hx).1
   rw[List.getElem?_append_left this];exact hx
  ·have:=hv (sz+j) x (by rw[List.getElem?_append_right (by omega)];rwa [show sz+j-u.length=j by omega])
   rwa [show o+sz+j=o+(sz+j) by omega]
theorem RepE.append{g:G}{b sz:Nat}: ∀{es fs:List (List D)}{o:Nat},RepE g b sz o es->RepE g b sz (o+es.length*sz) fs->RepE g b sz o (es++fs)
 |[],fs,o,_,h=>by simpa using h
 |e::es,fs,o,⟨h1,h2⟩,h=>by
  refine⟨h1,RepE.append h2 ?_⟩
  rwa [show o+sz+es.length*sz=o+(e::es).length*sz by simp[Nat.add_mul];omega]
theorem RepE.size{g:G}{b sz sz':Nat}{es:List (List D)}{o:Nat}(h:RepE g b sz o es)(hne:es≠[])(hl:∀e∈es,e.length=sz'):sz=sz':=by
 cases es with
 |nil=>exact absurd rfl hne
 |cons e es=>rw[<-h.1.1];exact hl e (by simp)
theorem ObjRep.other{P:Program}{g:G}{O:Sig}{w w':World}{i b:Nat}{d:DObj}(hU:O i=some d)(hne:blk g O i≠some b)(key:∀k x,w.heap[k]? = some x->k≠b->w'.heap[k]? = some x)(h:ObjRep P g w i d):ObjRep P g w' i d:=by
 cases d with
 |cells ds=>
  obtain⟨k,vs,ty,h1,h2,h3⟩:=h
  exact⟨k,vs,ty,h1,key k _ h2 (fun e=>hne (by simp[blk,hU,h1,e])),h3⟩
 |tcells ty ds=>
  obtain⟨k,vs,h1,h2,h3⟩:=h
  exact⟨k,vs,h1,key k _ h2 (fun e=>hne (by simp[blk,hU,h1,e])),h3⟩
 |mcells ds=>
  obtain⟨k,vs,ty,h1,h2,h3⟩:=h
  exact⟨k,vs,ty,h1,key k _ h2 (fun e=>hne (by simp[blk,hU,h1,e])),h3⟩
 |map l=>
  obtain⟨k,vs,ty,h1,h2,h3⟩:=h
  exact⟨k,vs,ty,h1,key k _ h2 (fun e=>hne (by simp[blk,hU,h1,e])),h3⟩
 |tail sz n=>
  rcases h with h|⟨k,o',cap,vs,ty,h1,h2,h3,h4,h5⟩
  ·exact .inl h
  ·exact .inr ⟨k,o',cap,vs,ty,h1,h2,key k _ h3 (fun e=>hne (by simp[blk,hU,h1,e])),h4,h5⟩
 |loop st pe ps az bo n γ did=>
  obtain⟨k,db,fn,tmps,h1,h2,h3,h4,h5⟩:=h
  exact⟨k,db,fn,tmps,h1,h2,h3,h4,key k _ h5 (fun e=>hne (by simp[blk,hU,h1,e]))⟩
 |defs=>
  obtain⟨k,h1,h2⟩:=h
  exact⟨k,h1,key k _ h2 (fun e=>hne (by simp[blk,hU,h1,e]))⟩
 |iter l la=>
  obtain⟨k,h1,h2⟩:=h
  exact⟨k,h1,h2.imp (fun ⟨a,c,d⟩=>⟨a,c,key k _ d (fun e=>hne (by simp[blk,hU,h1,e]))⟩) (fun ⟨mb,es,c,seen,e1,r⟩=>⟨mb,es,c,seen,key k _ e1 (fun e=>hne (by simp[blk,hU,h1,e])),r⟩)⟩
def G.put(g:G)(i b start k:Nat)(vs:List Value)(v:Value):G where
 imm b' o:=if b'=b/\start<=o/\o<start+vs.length then vs[o-start]? else g.imm b' o
 rho j:=if j=i then some ((g.rho i).getD 0) else g.rho j
 hist j m:=if j=i/\m=k then some v else g.hist j m
 keep:=g.keep
 io:=g.io
def Grows(g:G)(O:Sig)(i k:Nat):Prop:=(g.rho i=none/\O i=none) \/ ∃sz n,O i=some (.tail sz n)/\n<k
section
variable {P:Program}{g:G}{O:Sig}{w w':World}{i b start k:Nat}{vs:List Value}{v:Value}
theorem Grows.none(hs:Sim P g O w)(h:Grows g O i k): ∀m,k<=m->g.hist i m=none:=by
 intro m hm
 rcases h with⟨h,_⟩|⟨sz,n,h,hn⟩
 ·cases hh:g.hist i m with
  |none=>rfl
  |some x=>have:=hs.hdom i m x hh;rw[h]at this;cases this
 ·exact hs.htop i sz n m h (by omega)
theorem G.put_le(hs:Sim P g O w)(hg:Grows g O i k)(h0:∀j,start<=j->g.imm b j=none):g.le (g.put i b start k vs v) where
 imm:=fun c o x h=>by
  simp only[G.put]
  rw[if_neg];exact h
  rintro⟨rfl,h1,_⟩
  rw[h0 o h1]at h;cases h
 rho:=fun j c h=>by
  simp only[G.put]
  by_cases hj:j=i
  ·subst hj;rw[if_pos rfl,h];rfl
  ·rw[if_neg hj];exact h
 hist:=fun j m x h=>by
  simp only[G.put]
  rw[if_neg];exact h
  rintro⟨rfl,rfl⟩
  rw[hg.none hs _ (Nat.le_refl _)]at h;cases h
 keep:=fun _ _ h=>h
 io:=rfl
theorem My{w w':World}{a:Addr}{x:Value}{b:Nat}(hn:a.block≠b)(key:∀k x,w.heap[k]? = some x->k≠b->w'.heap[k]? = some x)(h:w.cell? a=some x):w'.cell? a=some x:=by
 unfold World.cell? at h⊢
 cases hh:w.heap[a.block]? with
 |none=>rw[hh]at h;cases h
 |some o=>rw[hh]at h;rw[key _ _ hh hn];exact h
theorem Sim.put{sz o cap:Nat}{cs:Array Value}{ty:TypeId}(hs:Sim P g O w)(hg:Grows g O i k)(h0:∀j,start<=j->g.imm b j=none)
  (key:∀c x,w.heap[c]? = some x->c≠b->w'.heap[c]? = some x) (hb:w'.heap[b]? = some (.cells cs ty (0,0)))
  (aT:∀o x,g.imm b o=some x->cs[o]? = some x) (aj:∀j x,vs[j]? = some x->cs[start+j]? = some x) (hlen:start+vs.length=o+k*sz) (hsz:o+cap*sz<=cs.size)
  (ap:g.keep b=none) (ar:∀j,blk g O j=some b->j=i) (hv:v=.slice (some ⟨b,o,none⟩) k cap) (aF:k<=cap) (bt:(w'.os,w'.output)=(w.os,w.output)) :
  Sim P (g.put i b start k vs v) (O.set i (.tail sz k)) w':=by
 have ak:=G.put_le (vs:=vs) (v:=v) hs hg h0
 have aa:∀j c,blk (g.put i b start k vs v) (O.set i (.tail sz k)) j=some c->(j=i/\c=b)\/(j≠i/\blk g O j=some c):=by
  intro j c h
  by_cases hj:j=i
  ·subst hj
   simp only[blk,w6,G.put,and_self,if_true,hv,Option.some.injEq]at h
   exact .inl ⟨rfl,h.symm⟩
  ·refine .inr ⟨hj,?_⟩
   unfold blk at h⊢
   rw[w7 _ _ hj]at h
   simp only[G.put,hj,false_and,if_false]at h
   exact h
 have am:∀c o,c≠b->(g.put i b start k vs v).imm c o=g.imm c o:=by
  intro c o hc
  simp only[G.put,hc,false_and,if_false]
 exact {
  imm:=fun c o x h=>by
   by_cases hc:c=b
   ·subst hc
    unfold World.cell?
    simp only[hb]
    simp only[G.put,true_and]at h
    split at h
    ·rename_i hr
     have:=aj _ _ h
     rw[show start+(o-start)=o by omega]at this
     simpa using this
    ·simpa using aT _ _ h
   ·rw[am c o hc]at h
    exact My (by simpa using hc) key (hs.imm c o x h)
  keep:=fun c x h=>key c x (hs.keep c x h) (fun e=>by rw[e]at h;simp only[G.put]at h;rw[ap]at h;cases h)
  obj:=fun j d h=>by
   by_cases hj:j=i
   ·subst hj
    rw[w6]at h;cases h
    refine .inr ⟨b,o,cap,cs,ty,?_,aF,hb,hsz,fun j hj=>?_⟩
    ·simp only[G.put,and_self,if_true,hv]
    ·simp only[G.put]
     rw[if_neg (by omega)]
     exact h0 j (by
      have:=Nat.le_add_right start vs.length
      omega)
   ·rw[w7 _ _ hj]at h
    have hne:blk g O j≠some b:=fun e=>hj (ar j e)
    refine((hs.obj j d h).mono ak ?_).other (O:=O) (b:=b) h ?_ key
    ·intro sz' n' b' o' cap' e1 e2 _ j' _ bm
     rw[am];exact bm
     rintro rfl
     exact hne (by simp[blk,h,e1,e2])
    ·have e:blk (g.put i b start k vs v) O j=blk g O j:=by
      unfold blk
      simp only[G.put,hj,false_and,if_false]
     rw[e];exact hne
  inj:=fun j l c h1 h2=>by
   rcases aa j c h1 with⟨a1,a2⟩|⟨a1,a2⟩<;>rcases aa l c h2 with⟨b1,b2⟩|⟨b1,b2⟩
   ·rw[a1,b1]
   ·exact absurd (ar l (a2 ▸ b2)) b1
   ·exact absurd (ar j (b2 ▸ a2)) a1
   ·exact hs.inj j l c a2 b2
  free:=fun j c h=>by
   rcases aa j c h with⟨rfl,rfl⟩|⟨hj,h'⟩
   ·exact⟨ap,fun hh=>by have:=hh _ (w6 ..);cases this⟩
   ·obtain⟨h1,h2⟩:=hs.free j c h'
    refine⟨h1,fun hh o=>?_⟩
    rw[am c o (fun e=>hj (ar j (e ▸ h')))]
    exact h2 (fun x hx=>hh x (by rw[w7 _ _ hj];exact hx)) o
  htop:=fun j sz' n m h hm=>by
   simp only[G.put]
   by_cases hj:j=i
   ·subst hj
    rw[w6]at h;cases h
    rw[if_neg (by omega)]
    exact hg.none hs m (by omega)
   ·rw[w7 _ _ hj]at h
    simp only[hj,false_and,if_false]
    exact hs.htop j sz' n m h hm
  hdom:=fun j m x h=>by
   simp only[G.put]at h⊢
   by_cases hj:j=i
   ·subst hj;simp
   ·simp only[hj,false_and,if_false]at h⊢
    exact hs.hdom j m x h
  io:=bt.trans hs.io
  tab:=hs.tab
  fin:=by
   obtain⟨m,hm⟩:=hs.fin
   refine⟨max m (i+1),fun j hj=>?_⟩
   simp only[G.put]
   rw[if_neg (by omega)]
   exact hm j (by omega) }
end
def esOf:D->Option (List (List D))
 |.slice es _=>some es
 |.nils=>some []
 |_=>none
theorem BY{g:G}{d:D}{v:Value}{es:List (List D)}(h:esOf d=some es)(hr:Rep g d v): ∃a cap,v=.slice a es.length cap/\es.length<=cap/\(es=[] \/ ∃sz b o,a=some ⟨b,o,none⟩/\RepE g b sz o es):=by
 cases d<;>simp only[esOf]at h<;>try (cases h;done)
 ·cases h;exact⟨none,0,hr,by simp,.inl rfl⟩
 ·cases h
  obtain⟨a,cap,h1,h2,h3,_⟩:=hr
  exact⟨a,cap,h1,h2,h3⟩
section
variable {P:Program}{T T' ty e e':TypeId}{i:TypeInfo}{z:Value}(ht:P.underlying T=some (.slice e))(aO:P.underlying T'=some (.slice e'))(hi:P.info? e=some i)
include ht aO hi
theorem Bb{w w2:World}{base xa:Option Addr}{n cap m xc:Nat}{news:List Value}(bb:(Builtin.firstCells i.size m (.slice xa m xc)).run P w=.ok news.toArray w)(ag:n+m<=cap)
  (aC:∀a,base=some a->(storeCells (a.add (n*i.size)) news).run P w=.ok () w2) (bk:base=none->w2=w) :
  (Builtin.append_ #[T,T'] ty #[.slice base n cap,.slice xa m xc]).run P w=.ok (.slice base (n+m) cap) w2:=by
 cases base with
 |none=>simp[Builtin.append_,run_underlying ht,run_underlying aO,sizeOf,typeInfo,hi,Builtin.lenOf,ag,bb,bk rfl]
 |some a=>simp[Builtin.append_,run_underlying ht,run_underlying aO,sizeOf,typeInfo,hi,Builtin.lenOf,ag,bb,aC a rfl]
theorem Dj(hz:i.zero=some z){w:World}{base xa:Option Addr}{n cap m xc:Nat}{olds news:List Value}
  (bx:(Builtin.firstCells i.size n (.slice base n cap)).run P w.drew=.ok olds.toArray w.drew) (bz:(Builtin.firstCells i.size m (.slice xa m xc)).run P w.drew=.ok news.toArray w.drew)
  (hg:cap<n+m) (bE:n+m<=9223372036854775807) (aW:(n+m)*i.bytes<=140737488355328) :
  ∃c,n+m<=c/\(Builtin.append_ #[T,T'] ty #[.slice base n cap,.slice xa m xc]).run P w =
   .ok (.slice (some ⟨w.heap.size,0,none⟩) (n+m) c) { w.drew with heap:=w.heap.push (.cells (olds++news++(Builtin.zeroCells z.cells (c-(n+m))).toList).toArray e (0,0)) }:=by
 refine⟨grownCap w (n+m) cap e,grownCap_ge w (n+m) cap e,?_⟩
 have hn:¬(n+m<=cap):=by omega
 have aX:¬(9223372036854775807<((n:Int)+(m:Int))):=by omega
 have hf:=growslice_fits hg aW
 have aY:¬(281474976710656<Builtin.nextslicecap (n+m) cap*i.bytes):=by omega
 simp[Builtin.append_,run_underlying ht,run_underlying aO,sizeOf,typeInfo,zeroValue,hi,hz,Builtin.lenOf,hn,aX,aY,Question.forced,bx,bz,newRow,grownCap]
 have e':∀Z:Array Value,olds.toArray++(news.toArray++Z)=(olds++(news++Z.toList)).toArray:=fun Z=>by apply Array.ext';simp
 rw[e']
 rfl
end
theorem Al{P:Program}{w:World}{size m c:Nat}{a:Option Addr}{vs:List Value}(hl:vs.length=m*size)(h:(m=0) \/ ∃b o,a=some ⟨b,o,none⟩ /\ ∀j v,vs[j]? = some v->w.cell? ⟨b,o+j,none⟩=some v):
  (Builtin.firstCells size m (.slice a m c)).run P w=.ok vs.toArray w:=by
 rcases h with rfl|⟨b,o,rfl,h⟩
 ·have:vs=[]:=by simpa using hl
  subst this
  cases a with
  |none=>exact run_firstCells_none ..
  |some a=>exact run_firstCells_some w size 0 a 0 c [] (by simp) (fun j v h=>by simp at h)
 ·exact run_firstCells_some w size m ⟨b,o,none⟩ m c vs hl (fun j v hj=>by rw[Bu];exact h j v hj)
theorem BP{P:Program}{g:G}{O:Sig}{w:World}{es:List (List D)}{a:Option Addr}{sz:Nat}(hs:Sim P g O w)(hlen:∀c∈es,c.length=sz)(h:es=[] \/ ∃sz b o,a=some ⟨b,o,none⟩/\RepE g b sz o es):
  ∃vs,RepL g es.flatten vs/\vs.length=es.length*sz/\(es.length=0 \/ ∃b o,a=some ⟨b,o,none⟩ /\ ∀j v,vs[j]? = some v->w.cell? ⟨b,o+j,none⟩=some v):=by
 rcases h with rfl|⟨sz',b,o,ha,hr⟩
 ·exact⟨[],rfl,by simp,.inl rfl⟩
 ·by_cases hne:es=[]
  ·subst hne;exact⟨[],rfl,by simp,.inl rfl⟩
  ·obtain rfl:=hr.size hne hlen
   obtain⟨vs,h1,h2,h3⟩:=hr.values
   exact⟨vs,h1,h2,.inr ⟨b,o,ha,fun j v hj=>hs.imm _ _ _ (h3 j v hj)⟩⟩
theorem EY{l:List (List D)}(h:∀c∈l,BB c=true):BB l.flatten=true:=by
 unfold BB at h⊢
 simp only[List.all_eq_true,List.mem_flatten,forall_exists_index,and_imp]at h⊢
 intro d c hc hd
 exact h c hc d hd
section
variable {P:Program}{ro:Ro}{n:Nat}{ops:Array Oper}{Q:DX->St->Prop}{rest:List Oper}{tab:Nat->Ty}{γ:List (Nat×D)}{O:Sig}{df:List DDf}
variable (ht:AZ P tab)
include ht
theorem Bd{T T' e e':Nat}(hk:(tab T).k=.slice e)(au:(tab T').k=.slice e')(he:A1 (tab e).k=false):
  ∃i z,P.underlying T=some (.slice e)/\P.underlying T'=some (.slice e')/\P.info? e=some i/\i.zero=some z/\i.size=(tab e).size/\i.bytes=(tab e).bytes/\z.cells.size=(tab e).size:=by
 obtain⟨inf,desc,z,h1,h2,h3,h4,h5,h6,h7,h8,h9,_⟩:=BO (ht e) (Ae he)
 refine⟨inf,z,AJ ht hk,AJ ht au,h1,h7,h4,h5,?_⟩
 rw[<-h8,h9];simp
theorem FQ{g:G}{w:World}{T T' ty e e' i:Nat}{es new:List (List D)}{base xa:Option Addr}{cap xc:Nat}(hs:Sim P g O w)(hk:(tab T).k=.slice e)(au:(tab T').k=.slice e')(he:A1 (tab e).k=false)
  (hlen:∀c∈es,c.length=(tab e).size) (hlen':∀c∈new,c.length=(tab e).size)
  (h1:es=[] \/ ∃sz b o,base=some ⟨b,o,none⟩/\RepE g b sz o es) (h2:new=[] \/ ∃sz b o,xa=some ⟨b,o,none⟩/\RepE g b sz o new) (aF:cap<es.length+new.length)
  (hb:(es.length+new.length)*(tab e).bytes<=140737488355328) (hm:es.length+new.length<=9223372036854775807) (hg:Grows g O i (es.length+new.length)) :
  ∃g' w' v,(Builtin.append_ #[T,T'] ty #[.slice base es.length cap,.slice xa new.length xc]).run P w=.ok v w'/\g.le g'/\Sim P g' (O.set i (.tail (tab e).size (es.length+new.length))) w'/\Rep g' (.slice (es++new) (.tag i)) v:=by
 obtain⟨inf,z,t1,t2,t3,t4,t5,t6,t7⟩:=Bd ht hk au he
 obtain⟨us,u1,u2,u3⟩:=BP (w:=w.drew) (O:=O) ⟨hs.imm,hs.keep,fun i o h=>by have:=hs.obj i o h;cases o<;>exact this,hs.inj,hs.free,hs.htop,hs.hdom,hs.fin,hs.io,hs.tab⟩ hlen h1
 obtain⟨vs,v1,v2,v3⟩:=BP (w:=w.drew) (O:=O) ⟨hs.imm,hs.keep,fun i o h=>by have:=hs.obj i o h;cases o<;>exact this,hs.inj,hs.free,hs.htop,hs.hdom,hs.fin,hs.io,hs.tab⟩ hlen' h2
 obtain⟨c,hc,aD⟩:=Dj (ty:=ty) t1 t2 t3 t4 (w:=w) (base:=base) (xa:=xa) (n:=es.length) (cap:=cap) (m:=new.length) (xc:=xc) (olds:=us) (news:=vs)
  (Al (by rw[t5];exact u2) u3) (Al (by rw[t5];exact v2) v3) aF hm (by rw[t6];exact hb)
 have h0:∀j,0<=j->g.imm w.heap.size j=none:=by
  intro j _
  cases hh:g.imm w.heap.size j with
  |none=>rfl
  |some x=>have:=L5 (hs.imm _ _ _ hh);omega
 have ap:g.keep w.heap.size=none:=by
  cases hh:g.keep w.heap.size with
  |none=>rfl
  |some x=>have:=(Array.getElem?_eq_some_iff.1 (hs.keep _ _ hh)).1;omega
 have aK:(us++vs).length=(es.length+new.length)*(tab e).size:=by simp[u2,v2,Nat.add_mul]
 have ak:=G.put_le (b:=w.heap.size) (start:=0) (vs:=us++vs) (v:=.slice (some ⟨w.heap.size,0,none⟩) (es.length+new.length) c) hs hg h0
 refine⟨_,_,_,aD,ak,?_,?_⟩
 ·refine Sim.put (sz:=(tab e).size) (o:=0) (cap:=c) (cs:=(us++vs++(Builtin.zeroCells z.cells (c-(es.length+new.length))).toList).toArray) (ty:=e) hs hg h0 ?_ ?_ ?_ ?_ ?_ ?_ ap ?_ rfl hc ?_
  ·intro k x hx _;exact heap_push hx
  ·simp
  ·intro o x hx;rw[h0 o (by omega)]at hx;cases hx
  ·intro j x hx
   have:j<(us++vs).length:=(List.getElem?_eq_some_iff.1 hx).1
   simp only[Nat.zero_add,List.getElem?_toArray]
   rw[List.getElem?_append_left this];exact hx
  ·omega
  ·simp only[List.size_toArray,List.length_append,Array.length_toList,size_zeroCells,t7,Nat.zero_add]
   rw[<-List.length_append,aK,<-Nat.add_mul]
   exact Nat.mul_le_mul_right _ (by omega)
  ·intro j hj;have:=hs.blk_lt hj;omega
  ·rfl
 ·refine⟨some ⟨w.heap.size,0,none⟩,c,by simp,by simpa using hc,.inr ⟨(tab e).size,w.heap.size,0,rfl,?_⟩,?_⟩
  ·refine I5 (vs:=us++vs) ?_ ?_ ?_
   ·intro c bB
    rcases List.mem_append.1 bB with h|h
    ·exact hlen c h
    ·exact hlen' c h
   ·rw[List.flatten_append];exact RepL.mono ak _ (u1.append v1)
   ·intro j x hx
    have:j<(us++vs).length:=(List.getElem?_eq_some_iff.1 hx).1
    simp only[G.put,Nat.zero_add,Nat.zero_le,true_and,Nat.sub_zero]
    rw[if_pos this];exact hx
  ·simp only[List.length_append,G.put,and_self,if_true]
omit ht in
theorem Ap{a:Act}{s x:Operand}{T T' ty:Nat}{dst:Option Tmp}{pos:String}{after:Array Edge}{guard:Option (Nat×Bool)}{w w':World}{v:Value}
  (h:(Builtin.append_ #[T,T'] ty #[a.eval s,a.eval x]).run P w=.ok v w') :
  (execOp a.eval ⟨dst,(cA s x T T'),ty,pos,after,guard⟩).run P w=.ok (.value v) w':=by
 simp[execOp,resolve,invoke,builtin,h]
theorem J8 {T T' ty e e' id:Nat} {s x:Operand} {dst:Option Tmp} {pos:String} {after:Array Edge} {guard:Option (Nat × Bool)} {es new:List (List D)}
  (hk:(tab T).k=.slice e) (au:(tab T').k=.slice e') (he:A1 (tab e).k=false) (h1:ev γ s=.slice es (.tag id)) (hU:O id=some (.tail (tab e).size es.length)) (h2:esOf (ev γ x)=some new)
  (hlen:∀c∈es,c.length=(tab e).size) (hlen':∀c∈new,c.length=(tab e).size) (aV:∀c∈new,BB c=true)
  (hb:(es.length+new.length)*(tab e).bytes<=140737488355328) (hm:es.length+new.length<=9223372036854775807) :
  ∀g w (a:Act),Sim P g O w->RepT g γ n a.tmps->∃g' w' v,((execOp a.eval ⟨dst,(cA s x T T'),ty,pos,after,guard⟩).run P w=.ok (.value v) w' \/
   ((execOp a.eval ⟨dst,(cA s x T T'),ty,pos,after,guard⟩).run P w=.ok .skip w'/\v=undef))/\g.le g'/\Sim P g' (O.set id (.tail (tab e).size (es.length+new.length))) w'/\Rep g' (.slice (es++new) (.tag id)) v:=by
 intro g w a hs hT
 have ax:=Ah hT s
 have aG:=Ah hT x
 rw[h1]at ax
 obtain⟨base,cap,r1,r2,r3,r4⟩:=ax
 obtain⟨xa,xc,q1,q2,q3⟩:=BY h2 aG
 simp only at r4
 by_cases aj:new=[]
 ·subst aj
  refine⟨g,w,a.eval s,.inl (Ap ?_),.refl g,?_,?_⟩
  ·obtain⟨i,z,t1,t2,t3,t4,t5,t6,t7⟩:=Bd ht hk au he
   rw[r1,q1]
   have:=Bb (ty:=ty) t1 t2 t3 (w:=w) (w2:=w) (base:=base) (xa:=xa) (n:=es.length) (cap:=cap) (m:=0) (xc:=xc) (news:=[]) (Al (by simp) (.inl rfl)) (by omega) (fun b _=>by simp[storeCells,Sem.run]) (fun _=>rfl)
   simpa using this
  ·have e:O.set id (.tail (tab e).size (es.length+([]:List (List D)).length))=O:=by
    funext j
    by_cases hj:j=id
    ·subst hj;rw[w6,hU];rfl
    ·rw[w7 _ _ hj]
   rw[e];exact hs
  ·rw[List.append_nil];exact⟨base,cap,r1,r2,r3,r4⟩
 ·have aE:0 < new.length:=List.length_pos_iff.2 aj
  have aH:Grows g O id (es.length+new.length):=.inr ⟨_,_,hU,by omega⟩
  by_cases ag:es.length+new.length<=cap
  ·obtain⟨i,z,t1,t2,t3,t4,t5,t6,t7⟩:=Bd ht hk au he
   rcases hs.obj _ _ hU with⟨o1,o2⟩|⟨b,o,cap',vs,ty',o1,o2,o3,o4,o5⟩
   ·rw[r4,r1]at o1
    simp only[Option.some.injEq,Value.slice.injEq]at o1
    omega
   ·rw [r4,r1] at o1
    simp only[Option.some.injEq,Value.slice.injEq,true_and]at o1
    obtain⟨rfl,rfl⟩:=o1
    obtain⟨us,v1,v2,v3⟩:=BP hs hlen' q3
    have aI:us.length=new.length*(tab e).size:=v2
    have aC:o+es.length*(tab e).size+us.length=o+(es.length+new.length)*(tab e).size:=by rw[aI,Nat.add_mul];omega
    have bc:(es.length+new.length)*(tab e).size<=cap*(tab e).size:=Nat.mul_le_mul_right _ ag
    have bh:=Bv (P:=P) us 0 w vs o3 (CK v1 (EY aV)) (o:=o+es.length*(tab e).size) (by omega)
    have aa:blk g O id=some b:=by simp[blk,hU,r4,r1]
    have h0:∀j,o+es.length*(tab e).size<=j->g.imm b j=none:=o5
    have ak:=G.put_le (b:=b) (start:=o+es.length*(tab e).size) (vs:=us) (v:=.slice (some ⟨b,o,none⟩) (es.length+new.length) cap) hs aH h0
    have aD:=Bb (ty:=ty) t1 t2 t3 (w:=w) (base:=some ⟨b,o,none⟩) (xa:=xa) (n:=es.length) (cap:=cap) (m:=new.length) (xc:=xc) (news:=us) (w2:=if us=[] then w else setB w b (.cells (Ba vs (o+es.length*(tab e).size) us) ty' (0,0)))
     (Al (by rw[t5];exact v2) v3) ag (fun a ha=>by cases ha;rw[Bu,t5];simpa using bh) (fun h=>by cases h)
    have ah:(if us=[] then w else setB w b (.cells (Ba vs (o+es.length*(tab e).size) us) ty' (0,0))).heap[b]? = some (.cells (Ba vs (o+es.length*(tab e).size) us) ty' (0,0)):=by
     by_cases hu:us=[]
     ·rw[if_pos hu,hu];exact o3
     ·rw[if_neg hu,Ee o3]
    have aS:∀c x,w.heap[c]? = some x->c≠b->(if us=[] then w else setB w b (.cells (Ba vs (o+es.length*(tab e).size) us) ty' (0,0))).heap[c]? = some x:=by
     intro c x hx hc
     by_cases hu:us=[]
     ·rw[if_pos hu];exact hx
     ·rw[if_neg hu,Ed hc];exact hx
    have aZ:=CD us vs (o+es.length*(tab e).size)
    refine⟨_,_,_,.inl (Ap (by rw[r1,q1];exact aD)),ak,?_,?_⟩
    ·refine Sim.put (sz:=(tab e).size) (o:=o) (cap:=cap) hs aH h0 aS ah ?_ ?_ aC (by rw[Ce];exact o4) (hs.free id b aa).1 (fun j hj=>hs.inj j id b hj aa) rfl ag ?_
     ·intro j x hx
      rw[aZ j (by omega)]
      have br:j<o+es.length*(tab e).size:=by
       rcases Nat.lt_or_ge j (o+es.length*(tab e).size)with h|h
       ·exact h
       ·rw[h0 j h]at hx;cases hx
      rw[if_neg (by omega)]
      have:=hs.imm b j x hx
      simpa[World.cell?, o3] using this
     ·intro j x hx
      have hj:j<us.length:=(List.getElem?_eq_some_iff.1 hx).1
      rw[aZ _ (by omega),if_pos (by omega)]
      rwa [show o+es.length*(tab e).size+j-(o+es.length*(tab e).size)=j by omega]
     ·split<;>rfl
    ·refine⟨some ⟨b,o,none⟩,cap,by simp,by simpa using ag,.inr ⟨(tab e).size,b,o,rfl,?_⟩,?_⟩
     ·refine RepE.append ?_ ?_
      ·rcases r3 with rfl|⟨sz',b',o',e1,e2⟩
       ·trivial
       ·cases e1
        by_cases hne:es=[]
        ·subst hne;trivial
        ·obtain rfl:=e2.size hne hlen
         exact RepE.mono ak _ e2
      ·refine I5 (vs:=us) hlen' (RepL.mono ak _ v1) fun j x hx=>?_
       have hj:j<us.length:=(List.getElem?_eq_some_iff.1 hx).1
       simp only[G.put,true_and]
       rw[if_pos (by omega)]
       rwa [show o+es.length*(tab e).size+j-(o+es.length*(tab e).size)=j by omega]
     ·simp only[List.length_append,G.put,and_self,if_true]
  ·obtain⟨g',w',v,s1,s2,s3,s4⟩:=FQ (ty:=ty) (i:=id) (base:=base) (xa:=xa) (cap:=cap) (xc:=xc) ht hs hk au he hlen hlen' r3 q3 (by omega) hb hm aH
   exact⟨g',w',v,.inl (Ap (by rw[r1,q1];exact s1)),s2,s3,s4⟩
theorem Nv{t T T' ty e e' id:Nat}{s x:Operand}{pos:String}{after:Array Edge}{guard:Option (Nat×Bool)}{es new:List (List D)}
  (hw:Ay ops γ ⟨some t,(cA s x T T'),ty,pos,after,guard⟩=some true) (ay:t<n)
  (hk:(tab T).k=.slice e) (au:(tab T').k=.slice e') (he:A1 (tab e).k=false) (h1:ev γ s=.slice es (.tag id)) (hU:O id=some (.tail (tab e).size es.length)) (h2:esOf (ev γ x)=some new)
  (hlen:∀c∈es,c.length=(tab e).size) (hlen':∀c∈new,c.length=(tab e).size) (aV:∀c∈new,BB c=true)
  (hb:(es.length+new.length)*(tab e).bytes<=140737488355328) (hm:es.length+new.length<=9223372036854775807)
  (h:DOps P ro n ops Q rest ⟨(t,.slice (es++new) (.tag id))::γ,O.set id (.tail (tab e).size (es.length+new.length)),df⟩) :
  DOps P ro n ops Q (⟨some t,(cA s x T T'),ty,pos,after,guard⟩::rest) ⟨γ,O,df⟩:=by
 refine Er (d:=.slice (es++new) (.tag id)) (U':=O.set id (.tail (tab e).size (es.length+new.length))) hw (fun c e=>by cases e) (B4 rfl rfl) (J8 ht hk au he h1 hU h2 hlen hlen' aV hb hm) (by simp[Ar,ay]) h
end
def Sub(U' O:Sig):Prop:= ∀i o,U' i=some o->O i=some o
theorem Sub.refl(O:Sig):Sub O O:=fun _ _ h=>h
theorem Sub.trans{a b c:Sig}(h:Sub a b)(k:Sub b c):Sub a c:=fun i o x=>k i o (h i o x)
theorem Sub.set{a b:Sig}{i:Nat}{o:DObj}(h:Sub a b)(hi:a i=none):Sub a (b.set i o):=fun j x hx=>by
 by_cases hj:j=i
 ·subst hj;rw[hi]at hx;cases hx
 ·rw[w7 _ _ hj];exact h j x hx
theorem Sub.both{a b:Sig}{i:Nat}{o:DObj}(h:Sub a b):Sub (a.set i o) (b.set i o):=fun j x hx=>by
 by_cases hj:j=i
 ·subst hj;rw[w6]at hx⊢; exact hx
 ·rw[w7 _ _ hj]at hx⊢; exact h j x hx
theorem Sub.none{a b:Sig}{i:Nat}(h:Sub a b)(hb:b i=none):a i=none:=by
 cases ha:a i with
 |none=>rfl
 |some o=>rw[h i o ha]at hb;cases hb
theorem Sig.set_comm(O:Sig){i j:Nat}(o o':DObj)(h:i≠j):(O.set i o).set j o'=(O.set j o').set i o:=by
 funext k
 by_cases h1:k=i
 ·subst h1;simp[Sig.set,h]
 ·by_cases h2:k=j
  ·subst h2;simp[Sig.set,Ne.symm h]
  ·simp[Sig.set,h1,h2]
theorem ND{g:G}{O U':Sig}(h:Sub U' O){i b:Nat}(hb:blk g U' i=some b):blk g O i=some b /\ ∃o,U' i=some o/\O i=some o:=by
 cases hi:U' i with
 |none=>simp[blk,hi]at hb
 |some o=>
  have:=h i o hi
  refine⟨?_,o,rfl,this⟩
  unfold blk at hb⊢
  rw[hi]at hb;rw[this];exact hb
theorem Sim.sub{P:Program}{g:G}{O U':Sig}{w:World}(hs:Sim P g O w)(h:Sub U' O):Sim P g U' w where
 imm:=hs.imm
 keep:=hs.keep
 obj:=fun i o x=>hs.obj i o (h i o x)
 inj:=fun i j b h1 h2=>hs.inj i j b (ND h h1).1 (ND h h2).1
 free:=fun i b hb=>by
  obtain⟨h1,o,h2,h3⟩:=ND h hb
  obtain⟨f1,f2⟩:=hs.free i b h1
  exact⟨f1,fun hh=>f2 fun x hx=>by rw[h3]at hx;cases hx;exact hh _ h2⟩
 htop:=fun i sz n k x hk=>hs.htop i sz n k (h i _ x) hk
 hdom:=hs.hdom
 io:=hs.io
 tab:=hs.tab
 fin:=hs.fin
theorem PT{P:Program}{n:Nat}{γ V':Fr}{O U':Sig}{df:List DDf}(h:Tells γ V')(hU:Sub U' O):Wk P n { γ,O,df } { γ:=V',O:=U',df }:=
 fun g w a hs=>⟨g,.refl g,⟨hs.sim.sub hU,⟨hs.tmps.1,fun t=>h.get t g _ (hs.tmps.2 t)⟩,hs.df⟩⟩
section
variable {P:Program}{ro:Ro}{n:Nat}{Q:DX->St->Prop}{s:St}
theorem Ti{c:Code}(h:DWp P ro n c (fun x s=> ∃s',Wk P n s s'/\Q x s') s):DWp P ro n c Q s:=fun g w a r hr hs=>
 wpIn_mono (h g w a r hr hs) fun _ _ _ ⟨g1,s1,x,h1,h2,h3,s',hw,hq⟩=>
  let ⟨g2,l2,bf⟩:=hw g1 _ _ h2
  ⟨g2,s',x,h1.trans l2,bf,h3.mono l2,hq⟩
theorem Mo{c:Code}(h:∀g w a,SimS P g n s a w->∃g' s',g.le g'/\SimS P g' n s' a w/\DWp P ro n c Q s'):DWp P ro n c Q s:=fun g w a r hr hs=>
 let ⟨g',_,l,aR,k⟩:=h g w a hs
 wpIn_mono (k g' w a r (hr.mono l) aR) fun _ _ _ p=>p.le l
end
def Weak(R:DE->Sig->Prop)(x:DE)(O:Sig):Prop:= ∃x' U',(match x,x' with
  |.ret d,.ret d'=>WkD d d'
  |.panic d,.panic d'=>WkD d d'
  |_,_=>False)/\Sub U' O/\R x' U'
theorem DI{R:DE->Sig->Prop}{x:DE}{O:Sig}(h:R x O):Weak R x O:=⟨x,O,by cases x<;>exact A8 _,.refl _,h⟩
theorem H9{P:Program}{f:Nat}{args:List D}{O:Sig}{R:DE->Sig->Prop}(h:DCall P f args O (Weak R)):DCall P f args O R:=
 ⟨h.lt,h.ent,fun g w vs hs ha=>(h.run g w vs hs ha).mono fun _ _ ⟨g',x,U',h1,h2,h3,x',S'',hm,aB,hR⟩=>by
  refine⟨g',x',S'',h1,h2.sub aB,?_,hR⟩
  cases x<;>cases x'<;>simp only at hm
  ·obtain⟨v,e,hv⟩:=h3;exact⟨v,e,hm _ _ hv⟩
  ·obtain⟨v,e,hv⟩:=h3;exact⟨v,e,hm _ _ hv⟩⟩
theorem IR{P:Program}{ro:Ro}{f:Nat}{args:List D}{O:Sig}{R:DE->Sig->Prop}(h:DCallR P ro f args O (Weak R)):DCallR P ro f args O R:=
 ⟨h.lt,h.ent,fun g w vs r bj hs ha=>(h.run g w vs r bj hs ha).mono fun _ _ ⟨g',x,U',h1,h2,h3,x',S'',hm,aB,hR⟩=>by
  refine⟨g',x',S'',h1,h2.sub aB,?_,hR⟩
  cases x<;>cases x'<;>simp only at hm
  ·obtain⟨v,e,hv⟩:=h3;exact⟨v,e,hm _ _ hv⟩
  ·obtain⟨v,e,hv⟩:=h3;exact⟨v,e,hm _ _ hv⟩⟩
def Dp(P:Program)(n:Nat)(fn:Func)(R:DE->Sig->Prop)(x:DX)(s:St):Prop:= ∃s',Wk P n s s'/\TJ P n fn (Weak R) x s'
theorem L2{P:Program}{f:Nat}{fn:Func}{c:Code}{args:List D}{O:Sig}{R:DE->Sig->Prop}(hf:P.funcs[f]? = some fn)(hb:fn.body=some c)
  (aU : (fn.name == "runtime.NumGoroutine") = false) {m : Nat} (hm : fn.ntmps = m) (hn : args.length <= m) (h : DWp P .none m c (Dp P m fn R) { γ := Bo 0 args, O }) : DCall P f args O R :=
 H9 (Mw hf hb aU hm hn (Ti h))
theorem Jl{P:Program}{f:Nat}{fn:Func}{c:Code}{args:List D}{O:Sig}{R:DE->Sig->Prop}(hf:P.funcs[f]? = some fn)(hb:fn.body=some c)
  (aU : (fn.name == "runtime.NumGoroutine") = false) {m : Nat} (hm : fn.ntmps = m) (hn : args.length <= m) (h : DWp P .wide m c (Dp P m fn R) { γ := Bo 0 args, O }) : BL P f args O R :=
 IR (L3 hf hb aU hm hn (Ti h))
theorem Th{P:Program}{n:Nat}{fn:Func}{R:DE->Sig->Prop}{γ:Fr}{O U':Sig}{d:D}(hU:Sub U' O)(hR:R (.panic d) U'):Dp P n fn R (.panic d) ⟨γ,O,[]⟩:=
 ⟨⟨γ,U',[]⟩,fun g _ _ hs=>⟨g,.refl g,⟨hs.sim.sub hU,hs.tmps,hs.df⟩⟩,rfl,DI hR⟩
theorem Sim.tagNil{P:Program}{g:G}{O:Sig}{w:World}{i sz:Nat}(hs:Sim P g O w)(hi:g.rho i=none)(hU:O i=none):
  g.le (g.put i 0 0 0 [] (.slice none 0 0))/\Sim P (g.put i 0 0 0 [] (.slice none 0 0)) (O.set i (.tail sz 0)) w:=by
 have hg:Grows g O i 0:=.inl ⟨hi,hU⟩
 have am:∀b o,(g.put i 0 0 0 [] (.slice none 0 0)).imm b o=g.imm b o:=by
  intro b o
  simp only[G.put,List.length_nil]
  rw[if_neg (by omega)]
 have ak:g.le (g.put i 0 0 0 [] (.slice none 0 0)):=
  {imm:=fun b o v h=>by rw[am];exact h
   rho:=fun j c h=>by
    simp only[G.put]
    by_cases hj:j=i
    ·subst hj;rw[hi]at h;cases h
    ·rw[if_neg hj];exact h
   hist:=fun j m x h=>by
    simp only[G.put]
    rw[if_neg];exact h
    rintro⟨rfl,rfl⟩
    rw[hg.none hs _ (Nat.le_refl _)]at h;cases h
   keep:=fun _ _ h=>h,io:=rfl }
 have aa:∀j c,blk (g.put i 0 0 0 [] (.slice none 0 0)) (O.set i (.tail sz 0)) j=some c->j≠i/\blk g O j=some c:=by
  intro j c h
  by_cases hj:j=i
  ·subst hj
   simp[blk,w6,G.put]at h
  ·refine⟨hj,?_⟩
   unfold blk at h⊢
   rw[w7 _ _ hj]at h
   simp only[G.put,hj,false_and,if_false]at h
   exact h
 refine⟨ak,?_⟩
 exact {
  imm:=fun b o v h=>by rw[am]at h;exact hs.imm b o v h
  keep:=hs.keep
  obj:=fun j d h=>by
   by_cases hj:j=i
   ·subst hj
    rw[w6]at h;cases h
    exact .inl ⟨by simp[G.put],rfl⟩
   ·rw[w7 _ _ hj]at h
    exact(hs.obj j d h).mono ak fun _ _ _ _ _ _ _ _ _ _ hn=>by rw[am];exact hn
  inj:=fun j l c h1 h2=>hs.inj j l c (aa j c h1).2 (aa l c h2).2
  free:=fun j c h=>by
   obtain⟨hj,h'⟩:=aa j c h
   obtain⟨h1,h2⟩:=hs.free j c h'
   refine⟨h1,fun hh o=>?_⟩
   rw[am]
   exact h2 (fun x hx=>hh x (by rw[w7 _ _ hj];exact hx)) o
  htop:=fun j sz' n m h hm=>by
   simp only[G.put]
   by_cases hj:j=i
   ·subst hj
    rw[w6]at h;cases h
    rw[if_neg (by omega)]
    exact hg.none hs m (by omega)
   ·rw[w7 _ _ hj]at h
    simp only[hj,false_and,if_false]
    exact hs.htop j sz' n m h hm
  hdom:=fun j m x h=>by
   simp only[G.put]at h⊢
   by_cases hj:j=i
   ·subst hj;simp
   ·simp only[hj,false_and,if_false]at h⊢
    exact hs.hdom j m x h
  io:=hs.io
  tab:=hs.tab
  fin:=by
   obtain⟨m,hm⟩:=hs.fin
   refine⟨max m (i+1),fun j hj=>?_⟩
   simp only[G.put]
   rw[if_neg (by omega)]
   exact hm j (by omega) }
theorem GU{g:G}{i b:Nat}:Rep (g.put i b 0 0 [] (.slice none 0 0)) (.slice [] (.tag i)) (.slice none 0 0):=
 ⟨none,0,rfl,by simp,.inl rfl,by simp[G.put]⟩
section
variable {P:Program}{ro:Ro}{n:Nat}{ops:Array Oper}{Q:DX->St->Prop}{rest:List Oper}{tab:Nat->Ty}{γ:List (Nat×D)}{O:Sig}{df:List DDf}
theorem U3{g:G}{w:World}{a:Act}{t sz i:Nat}(hs:SimS P g n ⟨γ,O,df⟩ a w)(h:getD γ t=.nils)(hi:g.rho i=none)(hU:O i=none):
  g.le (g.put i 0 0 0 [] (.slice none 0 0))/\SimS P (g.put i 0 0 0 [] (.slice none 0 0)) n ⟨(t,.slice [] (.tag i))::γ,O.set i (.tail sz 0),df⟩ a w:=by
 obtain⟨h1,h2⟩:=hs.sim.tagNil (sz:=sz) hi hU
 refine⟨h1,⟨h2,⟨hs.tmps.1,fun k=>?_⟩,hs.df.mono h1⟩⟩
 rw[A4]
 by_cases hk:k=t
 ·rw[if_pos hk,hk]
  have:=hs.tmps.2 t
  rw[h]at this
  rw[show a.tmps.getD t undef=.slice none 0 0 from this]
  exact GU
 ·rw[if_neg hk];exact Rep.mono h1 _ (hs.tmps.2 k)
theorem dwp_tag{c:Code}(t sz:Nat)(ht:getD γ t=.nils)(h:∀i,O i=none->DWp P ro n c Q ⟨(t,.slice [] (.tag i))::γ,O.set i (.tail sz 0),df⟩):DWp P ro n c Q ⟨γ,O,df⟩:=
 Mo fun g w a hs=>by
  obtain⟨i,hi,hU⟩:=hs.sim.fresh
  obtain⟨h1,h2⟩:=U3 (t:=t) (sz:=sz) hs ht hi hU
  exact⟨_,_,h1,h2,h i hU⟩
variable (ht:AZ P tab)
include ht
theorem IN{t T T' ty e e':Nat}{s x:Operand}{pos:String}{after:Array Edge}{guard:Option (Nat×Bool)}{es new:List (List D)}
  (hw:Ay ops γ ⟨some t,(cA s x T T'),ty,pos,after,guard⟩=some true) (ay:t<n)
  (hk:(tab T).k=.slice e) (au:(tab T').k=.slice e') (he:A1 (tab e).k=false) (h1:(ev γ s=.nils/\es=[])\/(ev γ s=.slice es .clip/\new≠[])) (h2:esOf (ev γ x)=some new)
  (hlen:∀c∈es,c.length=(tab e).size) (hlen':∀c∈new,c.length=(tab e).size)
  (hb:(es.length+new.length)*(tab e).bytes<=140737488355328) (hm:es.length+new.length<=9223372036854775807)
  (h:∀i,O i=none->DOps P ro n ops Q rest ⟨(t,.slice (es++new) (.tag i))::γ,O.set i (.tail (tab e).size (es.length+new.length)),df⟩) :
  DOps P ro n ops Q (⟨some t,(cA s x T T'),ty,pos,after,guard⟩::rest) ⟨γ,O,df⟩:=by
 intro g w a r hr hs
 unfold wpListIn
 rw[AH hs.tmps hw,if_pos rfl]
 refine⟨fun f hf=>(B4 rfl rfl _ _ f hf).elim,?_⟩
 obtain⟨i,hi,hU⟩:=hs.sim.fresh
 have key:∃g' w' v,(Builtin.append_ #[T,T'] ty #[a.eval s,a.eval x]).run P w=.ok v w'/\g.le g'/\Sim P g' (O.set i (.tail (tab e).size (es.length+new.length))) w'/\Rep g' (.slice (es++new) (.tag i)) v:=by
  have ax:=Ah hs.tmps s
  obtain⟨xa,xc,q1,q2,q3⟩:=BY h2 (Ah hs.tmps x)
  have aH:Grows g O i (es.length+new.length):=.inl ⟨hi,hU⟩
  rcases h1 with⟨h1,rfl⟩|⟨h1,hne⟩
  ·rw[show ev (St.mk γ O df).γ s=.nils from h1]at ax
   have ax:a.eval s=.slice none 0 0:=ax
   by_cases aj:new=[]
   ·subst aj
    obtain⟨inf,z,t1,t2,t3,t4,t5,t6,t7⟩:=Bd ht hk au he
    obtain⟨l1,l2⟩:=hs.sim.tagNil (sz:=(tab e).size) hi hU
    refine⟨_,w,.slice none 0 0,?_,l1,l2,?_⟩
    ·rw[ax,q1]
     exact Bb (ty:=ty) t1 t2 t3 (w:=w) (w2:=w) (base:=none) (xa:=xa) (n:=0) (cap:=0) (m:=0) (xc:=xc) (news:=[]) (Al (by simp) (.inl rfl)) (by omega) (fun b _=>by simp[storeCells,Sem.run]) (fun _=>rfl)
    ·exact GU
   ·have aE:0<new.length:=List.length_pos_iff.2 aj
    rw[ax,q1]
    exact FQ (es:=[]) (base:=none) (cap:=0) ht hs.sim hk au he (by simp) hlen' (.inl rfl) q3 (by simpa using aE) hb hm aH
  ·rw[show ev (St.mk γ O df).γ s=.slice es .clip from h1]at ax
   obtain⟨base,cap,r1,r2,r3,r4⟩:=ax
   simp only at r4
   subst r4
   have aE:0<new.length:=List.length_pos_iff.2 hne
   rw[r1,q1]
   exact FQ ht hs.sim hk au he hlen hlen' r3 q3 (by omega) hb hm aH
 obtain⟨g',w',v,k1,k2,k3,k4⟩:=key
 rw[Oper.semAt_eq _ _ _ (fun c e=>by cases e),Ap k1]
 exact AD k2 _ (h i hU g' w' _ r (hr.mono k2) (hs.put (o:=⟨some t,(cA s x T T'),ty,pos,after,guard⟩) k2 k3 k4 (by simp[Ar,ay])))
end
end Go.DL
