/- A part of the proof. -/
import Derived.Test.YtlfimpogphmbdaaGreatH03
import Derived.Laws.AppendOwn
set_option linter.all false
namespace Go.DL
open Go
def Cy(cs:Array Value)(k:Nat):List Value->Array Value
 |[]=>cs
 |v::vs=>Cy (cs.setIfInBounds k v) (k+1) vs
def Eo: ∀(vs:List Value) (cs:Array Value) (k:Nat),(Cy cs k vs).size=cs.size
 |[],_,_=>rfl
 |v::vs,cs,k=>by rw[Cy,Eo vs];simp
def EZ: ∀(vs:List Value) (cs:Array Value) (k i:Nat),k+vs.length<=cs.size->(Cy cs k vs)[i]? = if k<=i/\i<k+vs.length then vs[i-k]? else cs[i]?
 |[],cs,k,i,_=>by simp only[Cy,cG];rw[aQ k0]
 | v::vs,cs,k,i,h=>by
  simp only[aV]at h;rw[Cy,EZ vs _ (k+1) i (by simp;omega)];simp only[aV]
  by_cases gQ:i=k
  ·subst gQ;rw[aQ k0,aS k0];have:i<cs.size:=by omega
   simp[this]
  ·by_cases h2:k+1<=i/\i<k+1+vs.length
   ·rw[aS h2,aS k0];rw[show i-k=(i-(k+1))+1 by omega];simp
   ·rw[aQ h2,aQ k0,dq (aZ gQ)]
def Rv:Value->Bool
 |.agg _|.tuple _=>false
 |_=>true
def setB(w:World)(b:Nat)(o:Obj):World:={ w with heap:=w.heap.setIfInBounds b o }
def Fx{w:World}{b k:Nat}{o:Obj}(h:k≠b):(setB w b o).heap[k]? = w.heap[k]? :=by simp[setB,dq (aZ h)]
def DC{w:World}{b:Nat}{o x:Obj}(h:w.heap[b]? = some x):(setB w b o).heap[b]? = some o:=by
 have:=(aX.1 h).1;simp[setB,this]
def Oe{w:World}{b o:Nat}{cs:Array Value}{ty:TypeId}{fz:Nat×Nat}(v:Value)(h:w.heap[b]? = some (.cells cs ty fz)):
  w.setCell ⟨b,o,none⟩ v=setB w b (.cells (cs.setIfInBounds o v) ty fz):=by
 have iq:=(aX.1 h).1;have he:=(aX.1 h).2;unfold World.setCell setB
 congr 1
 apply Array.ext
 ·simp
 ·intro i h1 h2;simp only[Array.size_modify]at h1;rw[Array.getElem_modify]
  by_cases hi:b=i
  ·subst hi;simp[he]
  ·have h3:(w.heap.setIfInBounds b (Obj.cells (cs.setIfInBounds o v) ty fz))[i]? = w.heap[i]? :=dq hi;rw[bO h2,bO h1]at h3;rw[aQ hi];exact(Option.some.inj h3).symm
def Of(w:World)(b:Nat)(o o':Obj):setB (setB w b o) b o'=setB w b o':=by simp[setB]
def D1{P:Program}{b o:Nat}{ty:TypeId}: ∀(vs:List Value) (i:Nat) (w:World) (cs:Array Value),w.heap[b]? = some (.cells cs ty (0,0))->(∀v∈vs,Rv v=true)->o+i+vs.length<=cs.size->
  (storeCells ⟨b,o,none⟩ vs i).run P w=.ok () (if vs=[] then w else setB w b (.cells (Cy cs (o+i) vs) ty (0,0)))
 |[],i,w,cs,_,_,_=>by simp[storeCells,Sem.run]
 | v::vs,i,w,cs,h,hf,gH=>by
  simp only[aV]at gH
  have gC:w.cell? ⟨b,o+i,none⟩=some (cs[o+i]'(by omega)):=by
   simp[World.cell?, h,show o+i<cs.size by omega]
  have iB:w.frozen? ⟨b,o+i,none⟩=false:=by simp[World.frozen?, h]
  have hv:=hf v k7
  have gj:(store ((⟨b,o,none⟩:Addr).add i) v).run P w=.ok () (setB w b (.cells (cs.setIfInBounds (o+i) v) ty (0,0))):=by
   rw[Cm,<-Oe v h];unfold store;cases v<;>simp[Rv]at hv<;>simp[Sem.run,gC,iB]
  simp only[storeCells,bb,gj,aU];have h2:(setB w b (.cells (cs.setIfInBounds (o+i) v) ty (0,0))).heap[b]? = some (.cells (cs.setIfInBounds (o+i) v) ty (0,0)):=DC h;rw[D1 vs (i+1) _ _ h2 (fun x hx=>hf x (by simp[hx])) (by simp;omega)]
  by_cases gP:vs=[]
  ·subst gP;simp[Cy]
  ·simp[gP,Cy,Of,cZ]
def D.flat:D->Bool
 |.any|.agg _|.tup _=>false
 |_=>true
def Vq{g:G}{d:D}{v:Value}(h:Rep g d v)(hf:d.flat=true):Rv v=true:=by
 cases d<;>simp only[D.flat]at hf<;>(try cases hf)
 case bool=>cases h;rfl
 case int=>cases h;rfl
 case str=>cases h;rfl
 case aA=>cases h;rfl
 case aw=>obtain⟨b,o,rfl,hr⟩:=h;rfl
 case ptr=>obtain⟨b,hb,rfl⟩:=h;rfl
 case av=>cases h;rfl
 case slice=>obtain⟨a,cap,rfl,hr⟩:=h;rfl
 case ax=>obtain⟨b,hb,rfl⟩:=h;rfl
 case map=>obtain⟨b,hb,rfl⟩:=h;rfl
 case ay=>cases h;rfl
 case cmap=>obtain⟨b,es,c,rfl,hr⟩:=h;rfl
 case func=>obtain⟨fs,cs,rfl,hr⟩:=h;rfl
 case yld=>obtain⟨b,hb,rfl⟩:=h;rfl
 case nilf=>cases h;rfl
 case iface=>obtain⟨x,rfl,hr⟩:=h;rfl
 case niliface=>cases h;rfl
 case obj=>obtain⟨b,hb,rfl⟩:=h;rfl
def Dq(ds:fQ):Bool:=ds.all D.flat
def Ex{g:G}: ∀{ds:fQ}{vs:List Value},kI g ds vs->Dq ds=true->∀v∈vs,Rv v=true
 |[],_,h,_,v,hv=>by cases h;simp at hv
 |d::ds,_,⟨v0,r,e,h1,h2⟩,hf,v,hv=>by
  subst e;simp only[Dq,bU,aN]at hf;rcases be.1 hv with rfl|hv
  ·exact Vq h1 hf.1
  ·exact Ex h2 hf.2 v hv
def lM.setB{P:Program}{g:G}{V:Sig}{w:World}{i b:Nat}{d:kM}{o:Obj}(hZ:V i=some d)(hne:blk g V i≠some b)(h:lM P g w i d):lM P g (DL.setB w b o) i d:=by
 have key:∀k x,w.heap[k]? = some x->k≠b->(DL.setB w b o).heap[k]? = some x:=fun k x h hk=>by rw[Fx hk];exact h
 cases d with
 |cells ds=>
  obtain⟨k,vs,ty,h1,h2,h3⟩:=h;exact⟨k,vs,ty,h1,key k _ h2 (fun e=>hne (by simp[blk,hZ,h1,e])),h3⟩
 |map l=>
  obtain⟨k,vs,ty,h1,h2,h3⟩:=h;exact⟨k,vs,ty,h1,key k _ h2 (fun e=>hne (by simp[blk,hZ,h1,e])),h3⟩
 |tail sz n=>
  rcases h with h|⟨k,o',cap,vs,ty,h1,h2,h3,h4,h5⟩
  ·exact .inl h
  ·exact .inr ⟨k,o',cap,vs,ty,h1,h2,key k _ h3 (fun e=>hne (by simp[blk,hZ,h1,e])),h4,h5⟩
 |loop st pe ps az bo n γ did=>
  obtain⟨k,db,fn,tmps,h1,h2,h3,h4,h5⟩:=h;exact⟨k,db,fn,tmps,h1,h2,h3,h4,key k _ h5 (fun e=>hne (by simp[blk,hZ,h1,e]))⟩
 |defs=>
  obtain⟨k,h1,h2⟩:=h;exact⟨k,h1,key k _ h2 (fun e=>hne (by simp[blk,hZ,h1,e]))⟩
 |iter l la=>
  obtain⟨k,h1,h2⟩:=h;exact⟨k,h1,h2.imp (fun ⟨a,c,d⟩=>⟨a,c,key k _ d (fun e=>hne (by simp[blk,hZ,h1,e]))⟩) (fun ⟨mb,es,c,seen,e1,r⟩=>⟨mb,es,c,seen,key k _ e1 (fun e=>hne (by simp[blk,hZ,h1,e])),r⟩)⟩
def G.bind(g:G)(i b:Nat):G:={ g with rho:=fun j=>if j=i then some b else g.rho j }
def G.bind_le{g:G}{i b:Nat}(h:g.rho i=none):g.le (g.bind i b):=
 {imm:=fun _ _ _ x=>x,hist:=fun _ _ _ x=>x,keep:=fun _ _ x=>x,io:=rfl
  rho:=fun j c x=>by
   simp only[G.bind]
   by_cases hj:j=i
   ·subst hj;rw[h]at x;cases x
   ·rw[aQ hj];exact x }
def Sim.taken{P:Program}{g:G}{V:Sig}{w:World}(hs:Sim P g V w){i:Nat}{d:kM}(h:V i=some d):(g.rho i).isSome=true:=by
 have:=hs.obj i d h;cases d with
 |tail sz n=>
  rcases this with h|⟨k,o',cap,vs,ty,h1,_⟩
  ·exact hs.hdom _ _ _ h.1
  ·exact hs.hdom _ _ _ h1
 |cells ds=>obtain⟨k,_,_,h1,_⟩:=this;rw[h1];rfl
 |map l=>obtain⟨k,_,_,h1,_⟩:=this;rw[h1];rfl
 |loop=>obtain⟨k,_,_,_,h1,_⟩:=this;rw[h1];rfl
 |defs=>obtain⟨k,h1,_⟩:=this;rw[h1];rfl
 |iter=>obtain⟨k,h1,_⟩:=this;rw[h1];rfl
def Sim.fresh{P:Program}{g:G}{V:Sig}{w:World}(hs:Sim P g V w): ∃i,g.rho i=none/\V i=none:=by
 obtain⟨m,hm⟩:=hs.fin;refine⟨m,hm m (bn _),?_⟩;cases h:V m with
 |none=>rfl
 |some d=>have:=hs.taken h;rw[hm m (bn _)]at this;cases this
def SC{g:G}{V:Sig}{i b j:Nat}(hZ:V i=none):blk (g.bind i b) V j=blk g V j:=by
 unfold blk G.bind
 by_cases hj:j=i
 ·subst hj;rw[hZ]
 ·cases V j with
  |none=>rfl
  |some d=>cases d<;>simp[hj]
def Sim.newObj{P:Program}{g:G}{V:Sig}{w:World}(hs:Sim P g V w){i:Nat}{d:kM}{o:Obj}(hi:g.rho i=none)(hZ:V i=none)(ht:d.isTail=false)
  (hd:lM P (g.bind i w.heap.size) { w with heap:=w.heap.push o } i d):Sim P (g.bind i w.heap.size) (V.set i d) { w with heap:=w.heap.push o } where
 imm:=fun b o v h=>PN (hs.imm b o v h)
 keep:=fun k o h=>lE (hs.keep k o h)
 obj:=fun j x h=>by
  by_cases hj:j=i
  ·subst hj;simp only[Sig.set,bI,bJ]at h;subst h;exact hd
  ·simp only[Sig.set,hj,bl]at h;exact((hs.obj j x h).mono (G.bind_le hi) (fun _ _ _ _ _ _ _ _ _ _ h=>h)).push _
 inj:=by
  have key:∀j b,blk (g.bind i w.heap.size) (V.set i d) j=some b->(j=i/\b=w.heap.size)\/(j≠i/\blk g V j=some b):=by
   intro j b h
   by_cases hj:j=i
   ·subst hj
    left
    refine⟨rfl,?_⟩;simp only[blk,Sig.set,bI]at h;cases d<;>simp[kM.isTail]at ht<;>simp[G.bind]at h<;>exact h.symm
   ·right
    refine⟨hj,?_⟩;rw[<-SC (b:=w.heap.size) hZ];unfold blk at h⊢;simp only[Sig.set,hj,bl]at h;exact h
  intro j k b h1 h2;rcases key j b h1 with⟨a1,a2⟩|⟨a1,a2⟩<;>rcases key k b h2 with⟨b1,b2⟩|⟨b1,b2⟩
  ·rw[a1,b1]
  ·have:=hs.blk_lt b2;omega
  ·have:=hs.blk_lt a2;omega
  ·exact hs.inj j k b a2 b2
 free:=fun j b h=>by
  by_cases hj:j=i
  ·subst hj
   have hb:b=w.heap.size:=by
    simp only[blk,Sig.set,bI]at h;cases d<;>simp[kM.isTail]at ht<;>simp[G.bind]at h<;>exact h.symm
   subst hb;refine⟨?_,fun _ o=>?_⟩
   ·cases hk:g.keep w.heap.size with
    |none=>exact hk
    |some x=>have:=(aX.1 (hs.keep _ _ hk)).1;omega
   ·cases hk:g.imm w.heap.size o with
    |none=>exact hk
    |some x=>have:=NR (hs.imm _ _ _ hk);omega
  ·have h':blk g V j=some b:=by
    rw[<-SC (b:=w.heap.size) hZ];unfold blk at h⊢;simp only[Sig.set,hj,bl]at h;exact h
   obtain⟨h1,h2⟩:=hs.free j b h';exact⟨h1,fun ht o=>h2 (fun x hx=>ht x (by simp only[Sig.set,hj,bl];exact hx)) o⟩
 htop:=fun j sz n k h hk=>by
  by_cases hj:j=i
  ·subst hj;simp only[Sig.set,bI,bJ]at h;subst h;cases ht
  ·simp only[Sig.set,hj,bl]at h;exact hs.htop j sz n k h hk
 hdom:=fun j n v h=>by
  simp only[G.bind]
  by_cases hj:j=i
  ·rw[aS hj];rfl
  ·rw[aQ hj];exact hs.hdom j n v h
 io:=hs.io
 fin:=by
  obtain⟨m,hm⟩:=hs.fin;refine⟨max m (i+1),fun k hk=>?_⟩;simp only[G.bind];rw[aQ k0];exact hm k k0
def w7(V:Sig)(i:Nat)(o:kM):V.set i o i=some o:=by simp[Sig.set]
def w8(V:Sig){i j:Nat}(o:kM)(h:j≠i):V.set i o j=V j:=by simp[Sig.set,h]
theorem k8{σ:Sig}{i j:Nat}{o:kM}{x:Option kM}(n:¬i=j)(h:σ i=x):σ.set j o i=x:=(w8 _ _ n).trans h
def w9(V:Sig)(i:Nat)(o o':kM):(V.set i o).set i o'=V.set i o':=by
 funext j;by_cases h:j=i<;>simp[Sig.set,h]
def Sig.set_del(V:Sig){i:Nat}(o:kM)(h:V i=none):(V.set i o).del i=V:=by
 funext j;by_cases hj:j=i
 ·subst hj;simp[Sig.del,h]
 ·simp[Sig.set,Sig.del,hj]
def EG(g:G): ∀(l:List Value),kI g (l.map Cu) l
 |[]=>rfl
 |v::l=>⟨_,_,rfl,F1 g v,EG g l⟩
section
variable {P:Program}{ro:Option Nat}{n:Nat}{ops:Array Oper}{Q:DX->St->Prop}{rest:List Oper}{tab:Nat->Ty}{γ:List (Nat×D)}{V:Sig}{df:List DDf}
theorem In{o:Oper}{mk:Nat->D}{d:kM}(hw:AY ops γ o=some true)(g7:∀c,o.op≠.defer c)(iH:∀(w:World) (ρ:Operand->Value) f,o.about P w ρ=some f->False)(ho:AJ n o=true)(hd:d.isTail=false)
  (hr : ∀ g w (a:Act),Sim P g V w->lF g γ n a.tmps -> ∃ ob v,(execOp a.eval o).run P w = .ok (.value v) { w with heap:=w.heap.push ob } /\
   ∀i,g.rho i=none->lM P (g.bind i w.heap.size) { w with heap:=w.heap.push ob } i d/\Rep (g.bind i w.heap.size) (mk i) v)
  (h:∀i,V i=none->aC P ro n ops Q rest ⟨putD o.dst (mk i) γ,V.set i d,df⟩):aC P ro n ops Q (o::rest) ⟨γ,V,df⟩:=by
 intro g w a r gX hs;unfold wpListIn;rw[B0 hs.tmps hw,aS rfl];refine⟨fun f hf=>(iH _ _ f hf).elim,?_⟩;obtain⟨ob,v,h1,h2⟩:=hr g w a hs.sim hs.tmps;rw[cW _ _ _ g7,h1];obtain⟨i,hi,hZ⟩:=hs.sim.fresh;obtain⟨h3,h4⟩:=h2 i hi;exact AF (G.bind_le hi) _ (h i hZ _ _ _ r (gX.mono (G.bind_le hi)) (hs.put (G.bind_le hi) (hs.sim.newObj hi hZ hd h3) h4 ho))
variable (ht:BC P tab)
include ht
theorem El{t T:Nat}{ty:TypeId}{pos:String}{after:Array Edge}(hk:A5 (tab T).k=false)(gh:t<n)
  (h:∀i,V i=none->aC P ro n ops Q rest ⟨(t,.ptr i 0)::γ,V.set i (.cells (tab T).zero),df⟩) :
  aC P ro n ops Q (⟨some t,.alloc T,ty,pos,after,none⟩::rest) ⟨γ,V,df⟩:=by
 refine In (mk:=fun i=>.ptr i 0) (d:=.cells (tab T).zero) rfl (fun c e=>by cases e) (Ah fun c e=>by cases e) (by simp[AJ,gh]) rfl ?_ h;intro g w a hs hT;obtain⟨z,hz,gT,iI⟩:=E8 (ht T) (Aj hk) w;refine⟨.cells z.cells T,.pointer (some ⟨w.heap.size,0,none⟩),?_,fun i hi=>⟨⟨w.heap.size,z.cells,T,by simp[G.bind],k7,?_⟩,w.heap.size,by simp[G.bind],rfl⟩⟩
 ·simp only[execOp,Instr.alloc,bb,hz,aU,newVar,DF];rfl
 ·rw[gT];exact EG _ _
omit ht in
theorem dops_box{t T:Nat}{x:Operand}{ty:TypeId}{pos:String}{after:Array Edge}(d7:(ev γ x).told=true)(gh:t<n)
  (h:∀i,V i=none->aC P ro n ops Q rest ⟨(t,.ptr i 0)::γ,V.set i (.cells (ev γ x).cells),df⟩) :
  aC P ro n ops Q (⟨some t,.box T x,ty,pos,after,none⟩::rest) ⟨γ,V,df⟩:=by
 refine In (mk:=fun i=>.ptr i 0) (d:=.cells (ev γ x).cells) rfl (fun c e=>by cases e) (Ah fun c e=>by cases e) (by simp[AJ,gh]) rfl ?_ h;intro g w a hs hT;refine⟨.cells (a.eval x).cells T,.pointer (some ⟨w.heap.size,0,none⟩),?_,fun i hi=>⟨⟨w.heap.size,(a.eval x).cells,T,by simp[G.bind],k7,?_⟩,w.heap.size,by simp[G.bind],rfl⟩⟩
 ·simp[execOp,Instr.box,newVar,DF]
 ·exact kI.mono (G.bind_le hi) _ (Gg (Az hT x) d7)
omit ht in
theorem Sim.setObj{g:G}{w:World}(hs:Sim P g V w){i b:Nat}{ds ds':fQ}{vs':Array Value}{ty:TypeId}(hi:V i=some (.cells ds))(hb:g.rho i=some b)(hr:kI g ds' vs'.toList)
  (hx:∃vs,w.heap[b]? = some (.cells vs ty (0,0))):Sim P g (V.set i (.cells ds')) (setB w b (.cells vs' ty (0,0))):=by
 obtain⟨vs,hx⟩:=hx;have d6:blk g V i=some b:=by simp[blk,hi,hb]
 have f0:=hs.free i b d6;have gF:∀o,g.imm b o=none:=f0.2 fun o ho=>by rw[hi]at ho;cases ho;rfl
 have e7:∀j,blk g (V.set i (.cells ds')) j=blk g V j:=by
  intro j
  by_cases hj:j=i
  ·subst hj;simp[blk,Sig.set,hi]
  ·simp[blk,Sig.set,hj]
 exact {
  imm:=fun c o v h=>by
   have hc:c≠b:=fun e=>by rw[e,gF o]at h;cases h
   have:=hs.imm c o v h
   unfold World.cell? at this⊢
   simp only at this⊢
   rw[Fx hc];exact this
  keep:=fun k o h=>by
   have hc:k≠b:=fun e=>by rw[e,f0.1]at h;cases h
   rw[Fx hc];exact hs.keep k o h
  obj:=fun j o h=>by
   by_cases hj:j=i
   ·subst hj
    rw[w7]at h;cases h
    exact⟨b,vs',ty,hb,DC hx,hr⟩
   ·rw[w8 _ _ hj]at h
    exact(hs.obj j o h).setB h fun e=>hj (hs.inj j i b e d6)
  inj:=fun j k c h1 h2=>hs.inj j k c (by rw[<-e7];exact h1) (by rw[<-e7];exact h2)
  free:=fun j c h=>by
   rw[e7]at h
   obtain⟨h1,h2⟩:=hs.free j c h
   refine⟨h1,fun hh o=>?_⟩
   by_cases hj:j=i
   ·subst hj
    rw[d6]at h;cases h
    exact gF o
   ·exact h2 (fun x hx=>hh x (k8 hj hx)) o
  htop:=fun j sz n k h hk=>by
   by_cases hj:j=i
   ·subst hj;rw[w7]at h;cases h
   ·rw[w8 _ _ hj]at h;exact hs.htop j sz n k h hk
  hdom:=hs.hdom
  io:=hs.io
  fin:=hs.fin }
theorem O9{g:G}{w:World}{a:Act}(hs:Sim P g V w)(hT:lF g γ n a.tmps){T i off:Nat}{x y:Operand}{ds:fQ}(hk:A5 (tab T).k=false)(hx:ev γ x=.ptr i off)(hi:V i=some (.cells ds))
  (d7:(ev γ y).told=true) (hl:(ev γ y).cells.length=(tab T).size) (hf:Dq (ev γ y).cells=true) (gx:off+(ev γ y).cells.length<=ds.length) :
  ∃w',(Instr.storeAt T (a.eval x) (a.eval y)).run P w=.ok () w'/\Sim P g (V.set i (.cells (ds.take off++(ev γ y).cells++ds.drop (off+(ev γ y).cells.length)))) w':=by
 have gu:=Az hT x;rw[hx]at gu;obtain⟨b,hb,gu⟩:=gu;have hy:=Az hT y;have gG:=Gg hy d7;obtain⟨b',vs,ty',gD,d9,hr⟩:=hs.obj i _ hi;obtain rfl:b'=b:=by rw[hb]at gD;cases gD;rfl
 have ij:=kI.length gG;have iv:=kI.length hr;simp only[bY]at ij iv
 let w':=setB w b' (.cells (Cy vs off (a.eval y).cells.toList) ty' (0,0))
 have e8:kI g (ds.take off++(ev γ y).cells++ds.drop (off+(ev γ y).cells.length)) (Cy vs off (a.eval y).cells.toList).toList:=by
  refine Bs (by simp only[aO,ck,ey,bY,Eo];omega) fun j d v h1 h2=>?_
  have gg:(Cy vs off (a.eval y).cells.toList)[j]? = some v:=by simpa using h2
  rw[EZ _ _ _ _ (by simp;omega)]at gg;simp only[bY]at gg;simp only[di,aO,ck,dT,dc]at h1;have e1:min off ds.length=off:=by omega
  rw[e1]at h1
  by_cases c1:j<off
  ·rw[aQ k0]at gg;rw[aS k0,aS c1,aS c1]at h1;have:=kI.get hr j;rw[h1]at this;simp only[cD,gg,ca]at this;exact this
  ·by_cases c2:j<off+(ev γ y).cells.length
   ·rw[aS k0]at gg;rw[aS k0,aQ c1]at h1;have:=kI.get gG (j-off);rw[h1,gg]at this;exact this
   ·rw[aQ k0]at gg;rw[aQ k0]at h1;have:=kI.get hr j;rw[show off+(ev γ y).cells.length+(j-(off+(ev γ y).cells.length))=j by omega]at h1;rw[h1]at this;simp only[cD,gg,ca]at this;exact this
 refine⟨w',?_,hs.setObj hi hb e8 ⟨vs,d9⟩⟩;simp only[gu,Instr.storeAt,Instr.sureAddr,storeVar,bb,bp,aU,Bh (ht T) (Aj hk)];rw[aQ k0];have gj:=D1 (P:=P) (a.eval y).cells.toList 0 w vs d9 (Ex gG hf) (by simp;omega) (o:=off);rw[gj];simp only[aU,eY]
 by_cases he:(a.eval y).cells.toList=[]
 ·rw[aS he]
  have gU:w'=w:=by
   show setB w b' (.cells (Cy vs off (a.eval y).cells.toList) ty' (0,0))=w;rw[he];obtain⟨iq,iA⟩:=aX.1 d9
   have e:w.heap.setIfInBounds b' (.cells vs ty' (0,0))=w.heap:=by
    apply Array.ext k7;intro k h1 h2;by_cases hk:b'=k
    ·subst hk;simp[iA]
    ·rw[fG _ hk]
   show { w with heap:=w.heap.setIfInBounds b' (.cells vs ty' (0,0)) }=w;rw[e]
  rw[gU]
 ·rw[aQ he]
theorem Mu{T i off:Nat}{x y:Operand}{ds:fQ}{ty:TypeId}{pos:String}{after:Array Edge}{guard:Option (Nat×Bool)}(hw:AY ops γ ⟨none,.store T x y,ty,pos,after,guard⟩=some true)(hk:A5 (tab T).k=false)(hx:ev γ x=.ptr i off)(hi:V i=some (.cells ds))
  (d7:(ev γ y).told=true) (hl:(ev γ y).cells.length=(tab T).size) (hf:Dq (ev γ y).cells=true) (gx:off+(ev γ y).cells.length<=ds.length)
  (h:aC P ro n ops Q rest ⟨γ,V.set i (.cells (ds.take off++(ev γ y).cells++ds.drop (off+(ev γ y).cells.length))),df⟩) :
  aC P ro n ops Q (⟨none,.store T x y,ty,pos,after,guard⟩::rest) ⟨γ,V,df⟩:=by
 refine GX (d:=.any) (U':=V.set i (.cells (ds.take off++(ev γ y).cells++ds.drop (off+(ev γ y).cells.length)))) hw (fun c e=>by cases e) (Ah fun c e=>by cases e) ?_ rfl h;intro g w a hs hT;obtain⟨w',h1,h2⟩:=O9 ht hs hT hk hx hi d7 hl hf gx;exact⟨g,w',undef,.inr ⟨by simp only[execOp,bb,h1,aU];rfl,rfl⟩,.refl g,h2,trivial⟩
omit ht in
theorem HF{i t:Nat}{ds:fQ}(hi:V i=some (.cells ds))(hg:getD γ t=.ptr i 0):Wk P n ⟨γ,V,df⟩ ⟨(t,.aw ds 0)::γ,V.del i,df⟩:=by
 intro g w a hs;have ga:=hs.sim;obtain⟨b,vs,ty,hb,d9,hr⟩:=hs.sim.obj i _ hi;have d6:blk g V i=some b:=by simp[blk,hi,hb]
 have f0:=hs.sim.free i b d6;have gF:∀o,g.imm b o=none:=f0.2 fun o ho=>by change V i=some o at ho;rw[hi]at ho;cases ho;rfl
 have fX:g.le (g.addImm b vs.toList):=
  {imm:=fun c o v h=>by
    simp only[G.addImm]
    by_cases hc:c=b
    ·rw[hc,gF o]at h;cases h
    ·rw[aQ hc];exact h
   rho:=fun _ _ h=>h,hist:=fun _ _ _ h=>h,keep:=fun _ _ h=>h,io:=rfl }
 have e7:∀j c,blk (g.addImm b vs.toList) (V.del i) j=some c->j≠i/\blk g V j=some c:=by
  intro j c h
  by_cases hj:j=i
  ·subst hj;simp[blk,Sig.del]at h
  ·refine⟨hj,?_⟩;unfold blk at h⊢;simp only[Sig.del,hj,bl]at h;exact h
 refine⟨g.addImm b vs.toList,fX,⟨?_,⟨hs.tmps.1,fun k=>?_⟩,hs.df.mono fX⟩⟩
 ·exact {
   imm:=fun c o v h=>by
    simp only[G.addImm]at h
    by_cases hc:c=b
    ·rw[aS hc]at h
     subst hc
     simp only[World.cell?, d9]
     simpa using h
    ·rw[aQ hc]at h;exact ga.imm c o v h
   keep:=ga.keep
   obj:=fun j o h=>by
    have hj:j≠i:=fun e=>by rw[e]at h;simp[Sig.del]at h
    simp only[Sig.del,hj,bl]at h
    refine(ga.obj j o h).mono fX ?_
    intro sz m c o' cap e1 e2 e3 k _ hk
    simp only[G.addImm]
    by_cases hc:c=b
    ·exfalso
     subst hc
     exact hj (ga.inj j i c (by rw[e1]at h;simp[blk,h,e2]) d6)
    ·rw[aQ hc];exact hk
   inj:=fun j k c h1 h2=>ga.inj j k c (e7 j c h1).2 (e7 k c h2).2
   free:=fun j c h=>by
    obtain⟨hj,h'⟩:=e7 j c h
    obtain⟨h1,h2⟩:=ga.free j c h'
    refine⟨h1,fun hh o=>?_⟩
    have hc:c≠b:=fun e=>hj (ga.inj j i b (e ▸ h') d6)
    simp only[G.addImm];rw[aQ hc]
    exact h2 (fun x hx=>hh x (by simp only[Sig.del,hj,bl];exact hx)) o
   htop:=fun j sz n k h hk=>by
    have hj:j≠i:=fun e=>by rw[e]at h;simp[Sig.del]at h
    simp only[Sig.del,hj,bl]at h
    exact ga.htop j sz n k h hk
   hdom:=ga.hdom
   io:=ga.io
   fin:=ga.fin }
 ·rw[Aa]
  by_cases hk:k=t
  ·rw[aS hk,hk];have:=hs.tmps.2 t;rw[hg]at this;obtain⟨b',gD,hv⟩:=this;obtain rfl:b'=b:=by rw[hb]at gD;cases gD;rfl
   exact⟨b',0,by simpa using hv,Hm hr fX⟩
  ·rw[aQ hk];exact Rep.mono fX _ (hs.tmps.2 k)
omit ht in
theorem Cd{l:List Oper}{s s':St}(h:Wk P n s s')(k:aC P ro n ops Q l s'):aC P ro n ops Q l s:=fun g w a r hr hs=>
 let ⟨g',l',hs'⟩:=h g w a hs
 AF l' _ (k g' w a r (hr.mono l') hs')
theorem QE{t T:Nat}{x:Operand}{ty ty':TypeId}{pos pos':String}{after after':Array Edge}(hk:A5 (tab T).k=false)(gh:t<n)(hx:x≠.tmp t)
  (d7:(ev γ x).told=true) (hl:(ev γ x).cells.length=(tab T).size) (hf:Dq (ev γ x).cells=true)
  (h:aC P ro n ops Q rest ⟨(t,.aw (ev γ x).cells 0)::γ,V,df⟩) :
  aC P ro n ops Q (⟨some t,.alloc T,ty,pos,after,none⟩::⟨none,.store T (.tmp t) x,ty',pos',after',none⟩::rest) ⟨γ,V,df⟩:=by
 refine El ht hk gh fun i hi=>?_
 have gB:ev ((t,.ptr i 0)::γ) x=ev γ x:=by
  cases x with
  |tmp k=>simp only[ev,Aa];rw[aQ fun e=>hx (by rw[e])]
  |_=>rfl
 have hz:(tab T).zero.length=(tab T).size:=by
  obtain⟨_,_,_,_,_,_,_,_,_,_,h8,_⟩:=Db (ht T) (Aj hk);exact h8
 refine Mu ht rfl hk (x:=.tmp t) (i:=i) (off:=0) (by simp[ev,Aa]) (w7 ..) (by rw[gB];exact d7) (by rw[gB];exact hl) (by rw[gB];exact hf) (by rw[gB];omega) ?_;rw[gB];refine Cd (HF (i:=i) (t:=t) (w7 ..) (by simp[Aa])) ?_
 have e1:(tab T).zero.take 0++(ev γ x).cells++(tab T).zero.drop (0+(ev γ x).cells.length)=(ev γ x).cells:=by
  rw[dm k0];simp
 rw[w9,Sig.set_del _ _ hi,e1];refine Dj (γ:=(t,.aw (ev γ x).cells 0)::γ) (fun k=>?_) h;simp only[Aa];split<;>rfl
end
def kI.split{g:G}: ∀{a b:fQ}{vs:List Value},kI g (a++b) vs->∃u v,vs=u++v/\kI g a u/\kI g b v
 |[],b,vs,h=>⟨[],vs,rfl,rfl,h⟩
 |d::a,b,vs,⟨v,r,e,h1,h2⟩=>by
  obtain⟨u,t,e2,h3,h4⟩:=kI.split h2;exact⟨v::u,t,by rw[e,e2];rfl,⟨v,u,rfl,h1,h3⟩,h4⟩
def kI.append{g:G}: ∀{a b:fQ}{u v:List Value},kI g a u->kI g b v->kI g (a++b) (u++v)
 |[],b,u,v,h1,h2=>by cases h1;exact h2
 |d::a,b,_,v,⟨x,r,e,h1,h3⟩,h2=>⟨x,r++v,by rw[e];rfl,h1,kI.append h3 h2⟩
def kl.values{g:G}{b sz:Nat}: ∀{es:fV}{o:Nat},kl g b sz o es->∃vs,kI g es.flatten vs/\vs.length=es.length*sz /\ ∀j v,vs[j]? = some v->g.imm b (o+j)=some v
 |[],_,_=>⟨[],rfl,k7,fun j v h=>by simp at h⟩
 | e::es,o,⟨⟨h1,h2⟩,h3⟩=>by
  obtain⟨us,r1,hu⟩:=h2.values;obtain⟨vs,r2,hl,hv⟩:=kl.values h3;have gw:=kI.length r1;refine⟨us++vs,by simpa using r1.append r2,by simp[hl,gw,h1,cK,fB],fun j v h=>?_⟩;rw[di]at h;split at h
  ·exact hu j v h
  ·rename_i hj;have:=hv _ _ h;rw[gw,h1]at this hj
   rwa [show o+sz+(j-sz)=o+j by omega]at this
def K8{g:G}{b sz:Nat}: ∀{es:fV}{o:Nat}{vs:List Value},(∀e∈es,e.length=sz)->kI g es.flatten vs->(∀j v,vs[j]? = some v->g.imm b (o+j)=some v)->kl g b sz o es
 |[],_,_,_,_,_=>trivial
 | e::es,o,vs,hl,hr,hv=>by
  rw[cT]at hr;obtain⟨u,v,rfl,h1,h2⟩:=hr.split;have gw:=kI.length h1;have iF:=hl e k7;refine⟨⟨iF,Qi h1 fun j x hx=>hv j x ?_⟩,K8 (fun e he=>hl e (by simp[he])) h2 fun j x hx=>?_⟩
  ·have:j<u.length:=(bC.1 hx).1;rw[bK this];exact hx
  ·have:=hv (sz+j) x (by rw[bP k0];rwa [show sz+j-u.length=j by omega])
   rwa [show o+sz+j=o+(sz+j) by omega]
def kl.append{g:G}{b sz:Nat}: ∀{es fs:fV}{o:Nat},kl g b sz o es->kl g b sz (o+es.length*sz) fs->kl g b sz o (es++fs)
 |[],fs,o,_,h=>by simpa using h
 |e::es,fs,o,⟨h1,h2⟩,h=>by
  refine⟨h1,kl.append h2 ?_⟩
  rwa [show o+sz+es.length*sz=o+(e::es).length*sz by simp[cK];omega]
def kl.size{g:G}{b sz sz':Nat}{es:fV}{o:Nat}(h:kl g b sz o es)(hne:es≠[])(hl:∀e∈es,e.length=sz'):sz=sz':=by
 cases es with
 |nil=>exact absurd rfl hne
 |cons e es=>rw[<-h.1.1];exact hl e k7
def lM.other{P:Program}{g:G}{V:Sig}{w w':World}{i b:Nat}{d:kM}(hZ:V i=some d)(hne:blk g V i≠some b)(key:∀k x,w.heap[k]? = some x->k≠b->w'.heap[k]? = some x)(h:lM P g w i d):lM P g w' i d:=by
 cases d with
 |cells ds=>
  obtain⟨k,vs,ty,h1,h2,h3⟩:=h;exact⟨k,vs,ty,h1,key k _ h2 (fun e=>hne (by simp[blk,hZ,h1,e])),h3⟩
 |map l=>
  obtain⟨k,vs,ty,h1,h2,h3⟩:=h;exact⟨k,vs,ty,h1,key k _ h2 (fun e=>hne (by simp[blk,hZ,h1,e])),h3⟩
 |tail sz n=>
  rcases h with h|⟨k,o',cap,vs,ty,h1,h2,h3,h4,h5⟩
  ·exact .inl h
  ·exact .inr ⟨k,o',cap,vs,ty,h1,h2,key k _ h3 (fun e=>hne (by simp[blk,hZ,h1,e])),h4,h5⟩
 |loop st pe ps az bo n γ did=>
  obtain⟨k,db,fn,tmps,h1,h2,h3,h4,h5⟩:=h;exact⟨k,db,fn,tmps,h1,h2,h3,h4,key k _ h5 (fun e=>hne (by simp[blk,hZ,h1,e]))⟩
 |defs=>
  obtain⟨k,h1,h2⟩:=h;exact⟨k,h1,key k _ h2 (fun e=>hne (by simp[blk,hZ,h1,e]))⟩
 |iter l la=>
  obtain⟨k,h1,h2⟩:=h;exact⟨k,h1,h2.imp (fun ⟨a,c,d⟩=>⟨a,c,key k _ d (fun e=>hne (by simp[blk,hZ,h1,e]))⟩) (fun ⟨mb,es,c,seen,e1,r⟩=>⟨mb,es,c,seen,key k _ e1 (fun e=>hne (by simp[blk,hZ,h1,e])),r⟩)⟩
def G.put(g:G)(i b start k:Nat)(vs:List Value)(v:Value):G where
 imm b' o:=if b'=b/\start<=o/\o<start+vs.length then vs[o-start]? else g.imm b' o
 rho j:=if j=i then some ((g.rho i).getD 0) else g.rho j
 hist j m:=if j=i/\m=k then some v else g.hist j m
 keep:=g.keep
 io:=g.io
def Grows(g:G)(V:Sig)(i k:Nat):Prop:=(g.rho i=none/\V i=none) \/ ∃sz n,V i=some (.tail sz n)/\n<k
section
variable {P:Program}{g:G}{V:Sig}{w w':World}{i b start k:Nat}{vs:List Value}{v:Value}
theorem Grows.none(hs:Sim P g V w)(h:Grows g V i k): ∀m,k<=m->g.hist i m=none:=by
 intro m hm;rcases h with⟨h,_⟩|⟨sz,n,h,hn⟩
 ·cases hh:g.hist i m with
  |none=>rfl
  |some x=>have:=hs.hdom i m x hh;rw[h]at this;cases this
 ·exact hs.htop i sz n m h k0
theorem G.put_le(hs:Sim P g V w)(hg:Grows g V i k)(h0:∀j,start<=j->g.imm b j=none):g.le (g.put i b start k vs v) where
 imm:=fun c o x h=>by
  simp only[G.put];rw[aQ];exact h
  rintro⟨rfl,h1,_⟩
  rw[h0 o h1]at h;cases h
 rho:=fun j c h=>by
  simp only[G.put]
  by_cases hj:j=i
  ·subst hj;rw[aS rfl,h];rfl
  ·rw[aQ hj];exact h
 hist:=fun j m x h=>by
  simp only[G.put];rw[aQ];exact h
  rintro⟨rfl,rfl⟩
  rw[hg.none hs _ (bn _)]at h;cases h
 keep:=fun _ _ h=>h
 io:=rfl
theorem PM{w w':World}{a:Addr}{x:Value}{b:Nat}(hn:a.block≠b)(key:∀k x,w.heap[k]? = some x->k≠b->w'.heap[k]? = some x)(h:w.cell? a=some x):w'.cell? a=some x:=by
 unfold World.cell? at h⊢;cases hh:w.heap[a.block]? with
 |none=>rw[hh]at h;cases h
 |some o=>rw[hh]at h;rw[key _ _ hh hn];exact h
theorem Sim.put{sz o cap:Nat}{cs:Array Value}{ty:TypeId}(hs:Sim P g V w)(hg:Grows g V i k)(h0:∀j,start<=j->g.imm b j=none)
  (key:∀c x,w.heap[c]? = some x->c≠b->w'.heap[c]? = some x) (hb:w'.heap[b]? = some (.cells cs ty (0,0)))
  (gK:∀o x,g.imm b o=some x->cs[o]? = some x) (e8:∀j x,vs[j]? = some x->cs[start+j]? = some x) (hlen:start+vs.length=o+k*sz) (gH:o+cap*sz<=cs.size)
  (fZ:g.keep b=none) (f8:∀j,blk g V j=some b->j=i) (hv:v=.slice (some ⟨b,o,none⟩) k cap) (gr:k<=cap) (iz:(w'.os,w'.output)=(w.os,w.output)) :
  Sim P (g.put i b start k vs v) (V.set i (.tail sz k)) w':=by
 have fX:=G.put_le (vs:=vs) (v:=v) hs hg h0
 have d6:∀j c,blk (g.put i b start k vs v) (V.set i (.tail sz k)) j=some c->(j=i/\c=b)\/(j≠i/\blk g V j=some c):=by
  intro j c h
  by_cases hj:j=i
  ·subst hj;simp only[blk,w7,G.put,dV,bI,hv,bJ]at h;exact .inl ⟨rfl,h.symm⟩
  ·refine .inr ⟨hj,?_⟩;unfold blk at h⊢;rw[w8 _ _ hj]at h;simp only[G.put,hj,ec,bl]at h;exact h
 have fY:∀c o,c≠b->(g.put i b start k vs v).imm c o=g.imm c o:=by
  intro c o hc;simp only[G.put,hc,ec,bl]
 exact {
  imm:=fun c o x h=>by
   by_cases hc:c=b
   ·subst hc
    unfold World.cell?
    simp only[hb]
    simp only[G.put,fh]at h
    split at h
    ·rename_i hr
     have:=e8 _ _ h
     rw[show start+(o-start)=o by omega]at this
     simpa using this
    ·simpa using gK _ _ h
   ·rw[fY c o hc]at h
    exact PM (by simpa using hc) key (hs.imm c o x h)
  keep:=fun c x h=>key c x (hs.keep c x h) (fun e=>by rw[e]at h;simp only[G.put]at h;rw[fZ]at h;cases h)
  obj:=fun j d h=>by
   by_cases hj:j=i
   ·subst hj
    rw[w7]at h;cases h
    refine .inr ⟨b,o,cap,cs,ty,?_,gr,hb,gH,fun j hj=>?_⟩
    ·simp only[G.put,dV,bI,hv]
    ·simp only[G.put]
     rw[aQ k0]
     exact h0 j (by
      have:=fF start vs.length
      omega)
   ·rw[w8 _ _ hj]at h
    have hne:blk g V j≠some b:=fun e=>hj (f8 j e)
    refine((hs.obj j d h).mono fX ?_).other (V:=V) (b:=b) h ?_ key
    ·intro sz' n' b' o' cap' e1 e2 _ j' _ g8
     rw[fY];exact g8
     rintro rfl
     exact hne (by simp[blk,h,e1,e2])
    ·have e:blk (g.put i b start k vs v) V j=blk g V j:=by
      unfold blk
      simp only[G.put,hj,ec,bl]
     rw[e];exact hne
  inj:=fun j l c h1 h2=>by
   rcases d6 j c h1 with⟨a1,a2⟩|⟨a1,a2⟩<;>rcases d6 l c h2 with⟨b1,b2⟩|⟨b1,b2⟩
   ·rw[a1,b1]
   ·exact absurd (f8 l (a2 ▸ b2)) b1
   ·exact absurd (f8 j (b2 ▸ a2)) a1
   ·exact hs.inj j l c a2 b2
  free:=fun j c h=>by
   rcases d6 j c h with⟨rfl,rfl⟩|⟨hj,h'⟩
   ·exact⟨fZ,fun hh=>by have:=hh _ (w7 ..);cases this⟩
   ·obtain⟨h1,h2⟩:=hs.free j c h'
    refine⟨h1,fun hh o=>?_⟩
    rw[fY c o (fun e=>hj (f8 j (e ▸ h')))]
    exact h2 (fun x hx=>hh x (k8 hj hx)) o
  htop:=fun j sz' n m h hm=>by
   simp only[G.put]
   by_cases hj:j=i
   ·subst hj
    rw[w7]at h;cases h
    rw[aQ k0]
    exact hg.none hs m k0
   ·rw[w8 _ _ hj]at h
    simp only[hj,ec,bl]
    exact hs.htop j sz' n m h hm
  hdom:=fun j m x h=>by
   simp only[G.put]at h⊢
   by_cases hj:j=i
   ·subst hj;simp
   ·simp only[hj,ec,bl]at h⊢
    exact hs.hdom j m x h
  io:=iz.trans hs.io
  fin:=by
   obtain⟨m,hm⟩:=hs.fin
   refine⟨max m (i+1),fun j hj=>?_⟩
   simp only[G.put]
   rw[aQ k0]
   exact hm j k0 }
end
def kz:D->Option fV
 |.slice es _=>some es
 |.av=>some []
 |_=>none
def D8{g:G}{d:D}{v:Value}{es:fV}(h:kz d=some es)(hr:Rep g d v): ∃a cap,v=.slice a es.length cap/\es.length<=cap/\(es=[] \/ ∃sz b o,a=some ⟨b,o,none⟩/\kl g b sz o es):=by
 cases d<;>simp only[kz]at h<;>try (cases h;done)
 ·cases h;exact⟨none,0,hr,k7,.inl rfl⟩
 ·cases h;obtain⟨a,cap,h1,h2,h3,_⟩:=hr;exact⟨a,cap,h1,h2,h3⟩
section
variable {P:Program}{T T' ty e e':TypeId}{i:TypeInfo}{z:Value}(ht:P.underlying T=some (.slice e))(gE:P.underlying T'=some (.slice e'))(hi:P.info? e=some i)
include ht gE hi
theorem Cr{w w2:World}{base xa:Option Addr}{n cap m xc:Nat}{news:List Value}(gR:(Builtin.firstCells i.size m (.slice xa m xc)).run P w=.ok news.toArray w)(d8:n+m<=cap)
  (gj:∀a,base=some a->(storeCells (a.add (n*i.size)) news).run P w=.ok () w2) (gY:base=none->w2=w) :
  (Builtin.append_ #[T,T'] ty #[.slice base n cap,.slice xa m xc]).run P w=.ok (.slice base (n+m) cap) w2:=by
 cases base with
 |none=>simp[Builtin.append_,A2 ht,A2 gE,sizeOf,typeInfo,hi,Builtin.lenOf,d8,gR,gY rfl]
 |some a=>simp[Builtin.append_,A2 ht,A2 gE,sizeOf,typeInfo,hi,Builtin.lenOf,d8,gR,gj a rfl]
theorem Ge(hz:i.zero=some z){w:World}{base xa:Option Addr}{n cap m xc:Nat}{olds news:List Value}
  (iC:(Builtin.firstCells i.size n (.slice base n cap)).run P w.drew=.ok olds.toArray w.drew) (iD:(Builtin.firstCells i.size m (.slice xa m xc)).run P w.drew=.ok news.toArray w.drew)
  (hg:cap<n+m) (iJ:n+m<=9223372036854775807) (gL:(n+m)*i.bytes<=140737488355328) :
  ∃c,n+m<=c/\(Builtin.append_ #[T,T'] ty #[.slice base n cap,.slice xa m xc]).run P w =
   .ok (.slice (some ⟨w.heap.size,0,none⟩) (n+m) c) { w.drew with heap:=w.heap.push (.cells (olds++news++(Builtin.zeroCells z.cells (c-(n+m))).toList).toArray e (0,0)) }:=by
 refine⟨grownCap w (n+m) cap e,grownCap_ge w (n+m) cap e,?_⟩;have hn:¬(n+m<=cap):=by omega
 have gM:¬(9223372036854775807<((n:Int)+(m:Int))):=by omega
 have hf:=growslice_fits hg gL;have gN:¬(281474976710656<Builtin.nextslicecap (n+m) cap*i.bytes):=by omega
 simp[Builtin.append_,A2 ht,A2 gE,sizeOf,typeInfo,zeroValue,hi,hz,Builtin.lenOf,hn,gM,gN,Question.forced,iC,iD,newRow,grownCap];have e':∀Z:Array Value,olds.toArray++(news.toArray++Z)=(olds++(news++Z.toList)).toArray:=fun Z=>by apply eb;simp
 rw[e'];rfl
end
def AX{P:Program}{w:World}{size m c:Nat}{a:Option Addr}{vs:List Value}(hl:vs.length=m*size)(h:(m=0) \/ ∃b o,a=some ⟨b,o,none⟩ /\ ∀j v,vs[j]? = some v->w.cell? ⟨b,o+j,none⟩=some v):
  (Builtin.firstCells size m (.slice a m c)).run P w=.ok vs.toArray w:=by
 rcases h with rfl|⟨b,o,rfl,h⟩
 ·have:vs=[]:=by simpa using hl
  subst this;cases a with
  |none=>exact run_firstCells_none ..
  |some a=>exact run_firstCells_some w size 0 a 0 c [] k7 (fun j v h=>by simp at h)
 ·exact run_firstCells_some w size m ⟨b,o,none⟩ m c vs hl (fun j v hj=>by rw[Cm];exact h j v hj)
def Df{P:Program}{g:G}{V:Sig}{w:World}{es:fV}{a:Option Addr}{sz:Nat}(hs:Sim P g V w)(hlen:∀c∈es,c.length=sz)(h:es=[] \/ ∃sz b o,a=some ⟨b,o,none⟩/\kl g b sz o es):
  ∃vs,kI g es.flatten vs/\vs.length=es.length*sz/\(es.length=0 \/ ∃b o,a=some ⟨b,o,none⟩ /\ ∀j v,vs[j]? = some v->w.cell? ⟨b,o+j,none⟩=some v):=by
 rcases h with rfl|⟨sz',b,o,ha,hr⟩
 ·exact⟨[],rfl,k7,.inl rfl⟩
 ·by_cases hne:es=[]
  ·subst hne;exact⟨[],rfl,k7,.inl rfl⟩
  ·obtain rfl:=hr.size hne hlen;obtain⟨vs,h1,h2,h3⟩:=hr.values;exact⟨vs,h1,h2,.inr ⟨b,o,ha,fun j v hj=>hs.imm _ _ _ (h3 j v hj)⟩⟩
def Jd{l:fV}(h:∀c∈l,Dq c=true):Dq l.flatten=true:=by
 unfold Dq at h⊢;simp only[bh,List.mem_flatten,forall_exists_index,and_imp]at h⊢;intro d c hc hd;exact h c hc d hd
section
variable {P:Program}{ro:Option Nat}{n:Nat}{ops:Array Oper}{Q:DX->St->Prop}{rest:List Oper}{tab:Nat->Ty}{γ:List (Nat×D)}{V:Sig}{df:List DDf}
variable (ht:BC P tab)
include ht
theorem Ch{T T' e e':Nat}(hk:(tab T).k=.slice e)(gb:(tab T').k=.slice e')(he:A5 (tab e).k=false):
  ∃i z,P.underlying T=some (.slice e)/\P.underlying T'=some (.slice e')/\P.info? e=some i/\i.zero=some z/\i.size=(tab e).size/\i.bytes=(tab e).bytes/\z.cells.size=(tab e).size:=by
 obtain⟨inf,desc,z,h1,h2,h3,h4,h5,h6,h7,h8,h9,_⟩:=Db (ht e) (Aj he);refine⟨inf,z,Bm ht hk,Bm ht gb,h1,h7,h4,h5,?_⟩;rw[<-h8,h9];simp
theorem HB{g:G}{w:World}{T T' ty e e' i:Nat}{es new:fV}{base xa:Option Addr}{cap xc:Nat}(hs:Sim P g V w)(hk:(tab T).k=.slice e)(gb:(tab T').k=.slice e')(he:A5 (tab e).k=false)
  (hlen:∀c∈es,c.length=(tab e).size) (hlen':∀c∈new,c.length=(tab e).size)
  (h1:es=[] \/ ∃sz b o,base=some ⟨b,o,none⟩/\kl g b sz o es) (h2:new=[] \/ ∃sz b o,xa=some ⟨b,o,none⟩/\kl g b sz o new) (gr:cap<es.length+new.length)
  (hb:(es.length+new.length)*(tab e).bytes<=140737488355328) (hm:es.length+new.length<=9223372036854775807) (hg:Grows g V i (es.length+new.length)) :
  ∃g' w' v,(Builtin.append_ #[T,T'] ty #[.slice base es.length cap,.slice xa new.length xc]).run P w=.ok v w'/\g.le g'/\Sim P g' (V.set i (.tail (tab e).size (es.length+new.length))) w'/\Rep g' (.slice (es++new) (.tag i)) v:=by
 obtain⟨inf,z,t1,t2,t3,t4,t5,t6,t7⟩:=Ch ht hk gb he;obtain⟨us,u1,u2,u3⟩:=Df (w:=w.drew) (V:=V) ⟨hs.imm,hs.keep,fun i o h=>by have:=hs.obj i o h;cases o<;>exact this,hs.inj,hs.free,hs.htop,hs.hdom,hs.fin,hs.io⟩ hlen h1;obtain⟨vs,v1,v2,v3⟩:=Df (w:=w.drew) (V:=V) ⟨hs.imm,hs.keep,fun i o h=>by have:=hs.obj i o h;cases o<;>exact this,hs.inj,hs.free,hs.htop,hs.hdom,hs.fin,hs.io⟩ hlen' h2
 obtain⟨c,hc,gk⟩:=Ge (ty:=ty) t1 t2 t3 t4 (w:=w) (base:=base) (xa:=xa) (n:=es.length) (cap:=cap) (m:=new.length) (xc:=xc) (olds:=us) (news:=vs)
  (AX (by rw[t5];exact u2) u3) (AX (by rw[t5];exact v2) v3) gr hm (by rw[t6];exact hb)
 have h0:∀j,0<=j->g.imm w.heap.size j=none:=by
  intro j _;cases hh:g.imm w.heap.size j with
  |none=>rfl
  |some x=>have:=NR (hs.imm _ _ _ hh);omega
 have fZ:g.keep w.heap.size=none:=by
  cases hh:g.keep w.heap.size with
  |none=>rfl
  |some x=>have:=(aX.1 (hs.keep _ _ hh)).1;omega
 have gA:(us++vs).length=(es.length+new.length)*(tab e).size:=by simp[u2,v2,cK]
 have fX:=G.put_le (b:=w.heap.size) (start:=0) (vs:=us++vs) (v:=.slice (some ⟨w.heap.size,0,none⟩) (es.length+new.length) c) hs hg h0;refine⟨_,_,_,gk,fX,?_,?_⟩
 ·refine Sim.put (sz:=(tab e).size) (o:=0) (cap:=c) (cs:=(us++vs++(Builtin.zeroCells z.cells (c-(es.length+new.length))).toList).toArray) (ty:=e) hs hg h0 ?_ ?_ ?_ ?_ ?_ ?_ fZ ?_ rfl hc ?_
  ·intro k x hx _;exact lE hx
  ·simp
  ·intro o x hx;rw[h0 o k0]at hx;cases hx
  ·intro j x hx;have:j<(us++vs).length:=(bC.1 hx).1;simp only[bZ,du];rw[bK this];exact hx
  ·omega
  ·simp only[fC,aO,bY,size_zeroCells,t7,bZ];rw[<-aO,gA,<-cK];exact dG _ k0
  ·intro j hj;have:=hs.blk_lt hj;omega
  ·rfl
 ·refine⟨some ⟨w.heap.size,0,none⟩,c,k7,by simpa using hc,.inr ⟨(tab e).size,w.heap.size,0,rfl,?_⟩,?_⟩
  ·refine K8 (vs:=us++vs) ?_ ?_ ?_
   ·intro c iG;rcases bi.1 iG with h|h
    ·exact hlen c h
    ·exact hlen' c h
   ·rw[ee];exact kI.mono fX _ (u1.append v1)
   ·intro j x hx;have:j<(us++vs).length:=(bC.1 hx).1;simp only[G.put,bZ,fi,fh,dQ];rw[aS this];exact hx
  ·simp only[aO,G.put,dV,bI]
omit ht in
theorem By{a:Act}{s x:Operand}{T T' ty:Nat}{dst:Option Tmp}{pos:String}{after:Array Edge}{guard:Option (Nat×Bool)}{w w':World}{v:Value}
  (h:(Builtin.append_ #[T,T'] ty #[a.eval s,a.eval x]).run P w=.ok v w') :
  (execOp a.eval ⟨dst,(cA s x T T'),ty,pos,after,guard⟩).run P w=.ok (.value v) w':=by
 simp[execOp,resolve,invoke,builtin,h]
theorem QN {T T' ty e e' id:Nat} {s x:Operand} {dst:Option Tmp} {pos:String} {after:Array Edge} {guard:Option (Nat × Bool)} {es new:fV}
  (hk:(tab T).k=.slice e) (gb:(tab T').k=.slice e') (he:A5 (tab e).k=false) (h1:ev γ s=.slice es (.tag id)) (hZ:V id=some (.tail (tab e).size es.length)) (h2:kz (ev γ x)=some new)
  (hlen:∀c∈es,c.length=(tab e).size) (hlen':∀c∈new,c.length=(tab e).size) (iE:∀c∈new,Dq c=true)
  (hb:(es.length+new.length)*(tab e).bytes<=140737488355328) (hm:es.length+new.length<=9223372036854775807) :
  ∀g w (a:Act),Sim P g V w->lF g γ n a.tmps->∃g' w' v,((execOp a.eval ⟨dst,(cA s x T T'),ty,pos,after,guard⟩).run P w=.ok (.value v) w' \/
   ((execOp a.eval ⟨dst,(cA s x T T'),ty,pos,after,guard⟩).run P w=.ok .skip w'/\v=undef))/\g.le g'/\Sim P g' (V.set id (.tail (tab e).size (es.length+new.length))) w'/\Rep g' (.slice (es++new) (.tag id)) v:=by
 intro g w a hs hT;have gc:=Az hT s;have gu:=Az hT x;rw[h1]at gc;obtain⟨base,cap,r1,r2,r3,r4⟩:=gc;obtain⟨xa,xc,q1,q2,q3⟩:=D8 h2 gu;simp only at r4
 by_cases e8:new=[]
 ·subst e8;refine⟨g,w,a.eval s,.inl (By ?_),.refl g,?_,?_⟩
  ·obtain⟨i,z,t1,t2,t3,t4,t5,t6,t7⟩:=Ch ht hk gb he;rw[r1,q1];have:=Cr (ty:=ty) t1 t2 t3 (w:=w) (w2:=w) (base:=base) (xa:=xa) (n:=es.length) (cap:=cap) (m:=0) (xc:=xc) (news:=[]) (AX k7 (.inl rfl)) k0 (fun b _=>by simp[storeCells,Sem.run]) (fun _=>rfl);simpa using this
  ·have e:V.set id (.tail (tab e).size (es.length+([]:fV).length))=V:=by
    funext j
    by_cases hj:j=id
    ·subst hj;rw[w7,hZ];rfl
    ·rw[w8 _ _ hj]
   rw[e];exact hs
  ·rw[br];exact⟨base,cap,r1,r2,r3,r4⟩
 ·have go:0 < new.length:=eD.2 e8;have gv:Grows g V id (es.length+new.length):=.inr ⟨_,_,hZ,k0⟩
  by_cases d8:es.length+new.length<=cap
  ·obtain⟨i,z,t1,t2,t3,t4,t5,t6,t7⟩:=Ch ht hk gb he;rcases hs.obj _ _ hZ with⟨o1,o2⟩|⟨b,o,cap',vs,ty',o1,o2,o3,o4,o5⟩
   ·rw[r4,r1]at o1;simp only[bJ,Value.slice.injEq]at o1;omega
   ·rw [r4,r1] at o1;simp only[bJ,Value.slice.injEq,fh]at o1;obtain⟨rfl,rfl⟩:=o1;obtain⟨us,v1,v2,v3⟩:=Df hs hlen' q3;have gw:us.length=new.length*(tab e).size:=v2;have gj:o+es.length*(tab e).size+us.length=o+(es.length+new.length)*(tab e).size:=by rw[gw,cK];omega
    have gS:(es.length+new.length)*(tab e).size<=cap*(tab e).size:=dG _ d8;have gW:=D1 (P:=P) us 0 w vs o3 (Ex v1 (Jd iE)) (o:=o+es.length*(tab e).size) k0;have d6:blk g V id=some b:=by simp[blk,hZ,r4,r1]
    have h0:∀j,o+es.length*(tab e).size<=j->g.imm b j=none:=o5;have fX:=G.put_le (b:=b) (start:=o+es.length*(tab e).size) (vs:=us) (v:=.slice (some ⟨b,o,none⟩) (es.length+new.length) cap) hs gv h0
    have gk:=Cr (ty:=ty) t1 t2 t3 (w:=w) (base:=some ⟨b,o,none⟩) (xa:=xa) (n:=es.length) (cap:=cap) (m:=new.length) (xc:=xc) (news:=us) (w2:=if us=[] then w else setB w b (.cells (Cy vs (o+es.length*(tab e).size) us) ty' (0,0)))
     (AX (by rw[t5];exact v2) v3) d8 (fun a ha=>by cases ha;rw[Cm,t5];simpa using gW) (fun h=>by cases h)
    have d9:(if us=[] then w else setB w b (.cells (Cy vs (o+es.length*(tab e).size) us) ty' (0,0))).heap[b]? = some (.cells (Cy vs (o+es.length*(tab e).size) us) ty' (0,0)):=by
     by_cases hu:us=[]
     ·rw[aS hu,hu];exact o3
     ·rw[aQ hu,DC o3]
    have gJ:∀c x,w.heap[c]? = some x->c≠b->(if us=[] then w else setB w b (.cells (Cy vs (o+es.length*(tab e).size) us) ty' (0,0))).heap[c]? = some x:=by
     intro c x hx hc
     by_cases hu:us=[]
     ·rw[aS hu];exact hx
     ·rw[aQ hu,Fx hc];exact hx
    have gO:=EZ us vs (o+es.length*(tab e).size);refine⟨_,_,_,.inl (By (by rw[r1,q1];exact gk)),fX,?_,?_⟩
    ·refine Sim.put (sz:=(tab e).size) (o:=o) (cap:=cap) hs gv h0 gJ d9 ?_ ?_ gj (by rw[Eo];exact o4) (hs.free id b d6).1 (fun j hj=>hs.inj j id b hj d6) rfl d8 ?_
     ·intro j x hx;rw[gO j k0]
      have iy:j<o+es.length*(tab e).size:=by
       rcases cF j (o+es.length*(tab e).size)with h|h
       ·exact h
       ·rw[h0 j h]at hx;cases hx
      rw[aQ k0];have:=hs.imm b j x hx;simpa[World.cell?, o3] using this
     ·intro j x hx;have hj:j<us.length:=(bC.1 hx).1;rw[gO _ k0,aS k0]
      rwa [show o+es.length*(tab e).size+j-(o+es.length*(tab e).size)=j by omega]
     ·split<;>rfl
    ·refine⟨some ⟨b,o,none⟩,cap,k7,by simpa using d8,.inr ⟨(tab e).size,b,o,rfl,?_⟩,?_⟩
     ·refine kl.append ?_ ?_
      ·rcases r3 with rfl|⟨sz',b',o',e1,e2⟩
       ·trivial
       ·cases e1
        by_cases hne:es=[]
        ·subst hne;trivial
        ·obtain rfl:=e2.size hne hlen;exact kl.mono fX _ e2
      ·refine K8 (vs:=us) hlen' (kI.mono fX _ v1) fun j x hx=>?_;have hj:j<us.length:=(bC.1 hx).1;simp only[G.put,fh];rw[aS k0]
       rwa [show o+es.length*(tab e).size+j-(o+es.length*(tab e).size)=j by omega]
     ·simp only[aO,G.put,dV,bI]
  ·obtain⟨g',w',v,s1,s2,s3,s4⟩:=HB (ty:=ty) (i:=id) (base:=base) (xa:=xa) (cap:=cap) (xc:=xc) ht hs hk gb he hlen hlen' r3 q3 k0 hb hm gv;exact⟨g',w',v,.inl (By (by rw[r1,q1];exact s1)),s2,s3,s4⟩
end
def Sub(U' V:Sig):Prop:= ∀i o,U' i=some o->V i=some o
def Sub.refl(V:Sig):Sub V V:=fun _ _ h=>h
def Sub.trans{a b c:Sig}(h:Sub a b)(k:Sub b c):Sub a c:=fun i o x=>k i o (h i o x)
def Sub.set{a b:Sig}{i:Nat}{o:kM}(h:Sub a b)(hi:a i=none):Sub a (b.set i o):=fun j x hx=>by
 by_cases hj:j=i
 ·subst hj;rw[hi]at hx;cases hx
 ·rw[w8 _ _ hj];exact h j x hx
def Sub.both{a b:Sig}{i:Nat}{o:kM}(h:Sub a b):Sub (a.set i o) (b.set i o):=fun j x hx=>by
 by_cases hj:j=i
 ·subst hj;rw[w7]at hx⊢; exact hx
 ·rw[w8 _ _ hj]at hx⊢; exact h j x hx
def Sub.none{a b:Sig}{i:Nat}(h:Sub a b)(hb:b i=none):a i=none:=by
 cases ha:a i with
 |none=>rfl
 |some o=>rw[h i o ha]at hb;cases hb
def Sig.set_comm(V:Sig){i j:Nat}(o o':kM)(h:i≠j):(V.set i o).set j o'=(V.set j o').set i o:=by
 funext k
 by_cases h1:k=i
 ·subst h1;simp[Sig.set,h]
 ·by_cases h2:k=j
  ·subst h2;simp[Sig.set,aZ h]
  ·simp[Sig.set,h1,h2]
def QJ{g:G}{V U':Sig}(h:Sub U' V){i b:Nat}(hb:blk g U' i=some b):blk g V i=some b /\ ∃o,U' i=some o/\V i=some o:=by
 cases hi:U' i with
 |none=>simp[blk,hi]at hb
 |some o=>
  have:=h i o hi;refine⟨?_,o,rfl,this⟩;unfold blk at hb⊢;rw[hi]at hb;rw[this];exact hb
def Sim.sub{P:Program}{g:G}{V U':Sig}{w:World}(hs:Sim P g V w)(h:Sub U' V):Sim P g U' w where
 imm:=hs.imm
 keep:=hs.keep
 obj:=fun i o x=>hs.obj i o (h i o x)
 inj:=fun i j b h1 h2=>hs.inj i j b (QJ h h1).1 (QJ h h2).1
 free:=fun i b hb=>by
  obtain⟨h1,o,h2,h3⟩:=QJ h hb;obtain⟨f1,f2⟩:=hs.free i b h1;exact⟨f1,fun hh=>f2 fun x hx=>by rw[h3]at hx;cases hx;exact hh _ h2⟩
 htop:=fun i sz n k x hk=>hs.htop i sz n k (h i _ x) hk
 hdom:=hs.hdom
 io:=hs.io
 fin:=hs.fin
def Y4{P:Program}{n:Nat}{γ V':Fr}{V U':Sig}{df:List DDf}(h:Tells γ V')(hZ:Sub U' V):Wk P n { γ,V,df } { γ:=V',V:=U',df }:=
 fun g w a hs=>⟨g,.refl g,⟨hs.sim.sub hZ,⟨hs.tmps.1,fun t=>h.get t g _ (hs.tmps.2 t)⟩,hs.df⟩⟩
section
variable {P:Program}{ro:Option Nat}{n:Nat}{Q:DX->St->Prop}{s:St}
theorem dwp_end{c:Code}(h:DWp P ro n c (fun x s=> ∃s',Wk P n s s'/\Q x s') s):DWp P ro n c Q s:=fun g w a r hr hs=>
 dF (h g w a r hr hs) fun _ _ _ ⟨g1,s1,x,h1,h2,h3,s',hw,hq⟩=>
  let ⟨g2,l2,gV⟩:=hw g1 _ _ h2
  ⟨g2,s',x,h1.trans l2,gV,h3.mono l2,hq⟩
theorem PG{c:Code}(h:∀g w a,lP P g n s a w->∃g' s',g.le g'/\lP P g' n s' a w/\DWp P ro n c Q s'):DWp P ro n c Q s:=fun g w a r hr hs=>
 let ⟨g',_,l,hs',k⟩:=h g w a hs
 dF (k g' w a r (hr.mono l) hs') fun _ _ _ p=>p.le l
end
def Weak(R:DE->Sig->Prop)(x:DE)(V:Sig):Prop:= ∃x' U',(match x,x' with
  |.ret d,.ret d'=>WkD d d'
  |.panic d,.panic d'=>WkD d d'
  |_,_=>False)/\Sub U' V/\R x' U'
def Ft{R:DE->Sig->Prop}{x:DE}{V:Sig}(h:R x V):Weak R x V:=⟨x,V,by cases x<;>exact A9 _,.refl _,h⟩
def IY{P:Program}{f:Nat}{args:fQ}{V:Sig}{R:DE->Sig->Prop}(h:aB P f args V (Weak R)):aB P f args V R:=
 ⟨h.lt,h.ent,fun g w vs hs ha=>(h.run g w vs hs ha).mono fun _ _ ⟨g',x,U',h1,h2,h3,x',S'',hm,gI,hR⟩=>by
  refine⟨g',x',S'',h1,h2.sub gI,?_,hR⟩
  cases x<;>cases x'<;>simp only at hm
  ·obtain⟨v,e,hv⟩:=h3;exact⟨v,e,hm _ _ hv⟩
  ·obtain⟨v,e,hv⟩:=h3;exact⟨v,e,hm _ _ hv⟩⟩
def Fp(P:Program)(n:Nat)(fn:Func)(R:DE->Sig->Prop)(x:DX)(s:St):Prop:= ∃s',Wk P n s s'/\BodyQ P n fn (Weak R) x s'
def NP{P:Program}{f:Nat}{fn:Func}{c:Code}{args:fQ}{V:Sig}{R:DE->Sig->Prop}(hf:P.funcs[f]? = some fn)(hb:fn.body=some c)
  (gZ : (fn.name == "runtime.NumGoroutine") = false) {m : Nat} (hm : fn.ntmps = m) (hn : args.length <= m) (h : DWp P none m c (Fp P m fn R) { γ := Dc 0 args, V }) : aB P f args V R :=
 IY (PJ hf hb gZ hm hn (dwp_end h))
def Xg{P:Program}{n:Nat}{fn:Func}{R:DE->Sig->Prop}{γ:Fr}{V U':Sig}{d:D}(hZ:Sub U' V)(hR:R (.panic d) U'):Fp P n fn R (.panic d) ⟨γ,V,[]⟩:=
 ⟨⟨γ,U',[]⟩,fun g _ _ hs=>⟨g,.refl g,⟨hs.sim.sub hZ,hs.tmps,hs.df⟩⟩,rfl,Ft hR⟩
def Sim.tagNil{P:Program}{g:G}{V:Sig}{w:World}{i sz:Nat}(hs:Sim P g V w)(hi:g.rho i=none)(hZ:V i=none):
  g.le (g.put i 0 0 0 [] (.slice none 0 0))/\Sim P (g.put i 0 0 0 [] (.slice none 0 0)) (V.set i (.tail sz 0)) w:=by
 have hg:Grows g V i 0:=.inl ⟨hi,hZ⟩
 have fY:∀b o,(g.put i 0 0 0 [] (.slice none 0 0)).imm b o=g.imm b o:=by
  intro b o;simp only[G.put,cG];rw[aQ k0]
 have fX:g.le (g.put i 0 0 0 [] (.slice none 0 0)):=
  {imm:=fun b o v h=>by rw[fY];exact h
   rho:=fun j c h=>by
    simp only[G.put]
    by_cases hj:j=i
    ·subst hj;rw[hi]at h;cases h
    ·rw[aQ hj];exact h
   hist:=fun j m x h=>by
    simp only[G.put]
    rw[aQ];exact h
    rintro⟨rfl,rfl⟩
    rw[hg.none hs _ (bn _)]at h;cases h
   keep:=fun _ _ h=>h,io:=rfl }
 have d6:∀j c,blk (g.put i 0 0 0 [] (.slice none 0 0)) (V.set i (.tail sz 0)) j=some c->j≠i/\blk g V j=some c:=by
  intro j c h
  by_cases hj:j=i
  ·subst hj;simp[blk,w7,G.put]at h
  ·refine⟨hj,?_⟩;unfold blk at h⊢;rw[w8 _ _ hj]at h;simp only[G.put,hj,ec,bl]at h;exact h
 refine⟨fX,?_⟩
 exact {
  imm:=fun b o v h=>by rw[fY]at h;exact hs.imm b o v h
  keep:=hs.keep
  obj:=fun j d h=>by
   by_cases hj:j=i
   ·subst hj
    rw[w7]at h;cases h
    exact .inl ⟨by simp[G.put],rfl⟩
   ·rw[w8 _ _ hj]at h
    exact(hs.obj j d h).mono fX fun _ _ _ _ _ _ _ _ _ _ hn=>by rw[fY];exact hn
  inj:=fun j l c h1 h2=>hs.inj j l c (d6 j c h1).2 (d6 l c h2).2
  free:=fun j c h=>by
   obtain⟨hj,h'⟩:=d6 j c h
   obtain⟨h1,h2⟩:=hs.free j c h'
   refine⟨h1,fun hh o=>?_⟩
   rw[fY]
   exact h2 (fun x hx=>hh x (k8 hj hx)) o
  htop:=fun j sz' n m h hm=>by
   simp only[G.put]
   by_cases hj:j=i
   ·subst hj
    rw[w7]at h;cases h
    rw[aQ k0]
    exact hg.none hs m k0
   ·rw[w8 _ _ hj]at h
    simp only[hj,ec,bl]
    exact hs.htop j sz' n m h hm
  hdom:=fun j m x h=>by
   simp only[G.put]at h⊢
   by_cases hj:j=i
   ·subst hj;simp
   ·simp only[hj,ec,bl]at h⊢
    exact hs.hdom j m x h
  io:=hs.io
  fin:=by
   obtain⟨m,hm⟩:=hs.fin
   refine⟨max m (i+1),fun j hj=>?_⟩
   simp only[G.put]
   rw[aQ k0]
   exact hm j k0 }
def IH{g:G}{i b:Nat}:Rep (g.put i b 0 0 [] (.slice none 0 0)) (.slice [] (.tag i)) (.slice none 0 0):=
 ⟨none,0,rfl,k7,.inl rfl,by simp[G.put]⟩
section
variable {P:Program}{ro:Option Nat}{n:Nat}{ops:Array Oper}{Q:DX->St->Prop}{rest:List Oper}{tab:Nat->Ty}{γ:List (Nat×D)}{V:Sig}{df:List DDf}
theorem Yf{g:G}{w:World}{a:Act}{t sz i:Nat}(hs:lP P g n ⟨γ,V,df⟩ a w)(h:getD γ t=.av)(hi:g.rho i=none)(hZ:V i=none):
  g.le (g.put i 0 0 0 [] (.slice none 0 0))/\lP P (g.put i 0 0 0 [] (.slice none 0 0)) n ⟨(t,.slice [] (.tag i))::γ,V.set i (.tail sz 0),df⟩ a w:=by
 obtain⟨h1,h2⟩:=hs.sim.tagNil (sz:=sz) hi hZ;refine⟨h1,⟨h2,⟨hs.tmps.1,fun k=>?_⟩,hs.df.mono h1⟩⟩;rw[Aa]
 by_cases hk:k=t
 ·rw[aS hk,hk];have:=hs.tmps.2 t;rw[h]at this;rw[show a.tmps.getD t undef=.slice none 0 0 from this];exact IH
 ·rw[aQ hk];exact Rep.mono h1 _ (hs.tmps.2 k)
theorem dwp_tag{c:Code}(t sz:Nat)(ht:getD γ t=.av)(h:∀i,V i=none->DWp P ro n c Q ⟨(t,.slice [] (.tag i))::γ,V.set i (.tail sz 0),df⟩):DWp P ro n c Q ⟨γ,V,df⟩:=
 PG fun g w a hs=>by
  obtain⟨i,hi,hZ⟩:=hs.sim.fresh;obtain⟨h1,h2⟩:=Yf (t:=t) (sz:=sz) hs ht hi hZ;exact⟨_,_,h1,h2,h i hZ⟩
variable (ht:BC P tab)
include ht
theorem GC{t T T' ty e e':Nat}{s x:Operand}{pos:String}{after:Array Edge}{guard:Option (Nat×Bool)}{es new:fV}
  (hw:AY ops γ ⟨some t,(cA s x T T'),ty,pos,after,guard⟩=some true) (gh:t<n)
  (hk:(tab T).k=.slice e) (gb:(tab T').k=.slice e') (he:A5 (tab e).k=false) (h1:(ev γ s=.av/\es=[])\/(ev γ s=.slice es .clip/\new≠[])) (h2:kz (ev γ x)=some new)
  (hlen:∀c∈es,c.length=(tab e).size) (hlen':∀c∈new,c.length=(tab e).size)
  (hb:(es.length+new.length)*(tab e).bytes<=140737488355328) (hm:es.length+new.length<=9223372036854775807)
  (h:∀i,V i=none->aC P ro n ops Q rest ⟨(t,.slice (es++new) (.tag i))::γ,V.set i (.tail (tab e).size (es.length+new.length)),df⟩) :
  aC P ro n ops Q (⟨some t,(cA s x T T'),ty,pos,after,guard⟩::rest) ⟨γ,V,df⟩:=by
 intro g w a r hr hs;unfold wpListIn;rw[B0 hs.tmps hw,aS rfl];refine⟨fun f hf=>(Cn rfl rfl _ _ f hf).elim,?_⟩;obtain⟨i,hi,hZ⟩:=hs.sim.fresh
 have key:∃g' w' v,(Builtin.append_ #[T,T'] ty #[a.eval s,a.eval x]).run P w=.ok v w'/\g.le g'/\Sim P g' (V.set i (.tail (tab e).size (es.length+new.length))) w'/\Rep g' (.slice (es++new) (.tag i)) v:=by
  have gc:=Az hs.tmps s;obtain⟨xa,xc,q1,q2,q3⟩:=D8 h2 (Az hs.tmps x);have gv:Grows g V i (es.length+new.length):=.inl ⟨hi,hZ⟩;rcases h1 with⟨h1,rfl⟩|⟨h1,hne⟩
  ·rw[show ev (St.mk γ V df).γ s=.av from h1]at gc;have gc:a.eval s=.slice none 0 0:=gc
   by_cases e8:new=[]
   ·subst e8;obtain⟨inf,z,t1,t2,t3,t4,t5,t6,t7⟩:=Ch ht hk gb he;obtain⟨l1,l2⟩:=hs.sim.tagNil (sz:=(tab e).size) hi hZ;refine⟨_,w,.slice none 0 0,?_,l1,l2,?_⟩
    ·rw[gc,q1];exact Cr (ty:=ty) t1 t2 t3 (w:=w) (w2:=w) (base:=none) (xa:=xa) (n:=0) (cap:=0) (m:=0) (xc:=xc) (news:=[]) (AX k7 (.inl rfl)) k0 (fun b _=>by simp[storeCells,Sem.run]) (fun _=>rfl)
    ·exact IH
   ·have go:0<new.length:=eD.2 e8;rw[gc,q1];exact HB (es:=[]) (base:=none) (cap:=0) ht hs.sim hk gb he k7 hlen' (.inl rfl) q3 (by simpa using go) hb hm gv
  ·rw[show ev (St.mk γ V df).γ s=.slice es .clip from h1]at gc;obtain⟨base,cap,r1,r2,r3,r4⟩:=gc;simp only at r4;subst r4;have go:0<new.length:=eD.2 hne;rw[r1,q1];exact HB ht hs.sim hk gb he hlen hlen' r3 q3 k0 hb hm gv
 obtain⟨g',w',v,k1,k2,k3,k4⟩:=key;rw[cW _ _ _ (fun c e=>by cases e),By k1];exact AF k2 _ (h i hZ g' w' _ r (hr.mono k2) (hs.put (o:=⟨some t,(cA s x T T'),ty,pos,after,guard⟩) k2 k3 k4 (by simp[AJ,gh])))
end
end Go.DL
