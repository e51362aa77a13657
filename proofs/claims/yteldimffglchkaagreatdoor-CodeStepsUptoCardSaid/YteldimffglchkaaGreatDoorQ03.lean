/- A part of the proof. -/
import Derived.Test.YteldimffglchkaaGreatDoorQ02
import Derived.Laws.AppendOwn
set_option linter.all false
namespace Go.DL
open Go
def Bt(cs:Array Value)(k:Nat):List Value->Array Value
 |[]=>cs
 |v::vs=>Bt (cs.setIfInBounds k v) (k+1) vs
def D2: ∀(vs:List Value) (cs:Array Value) (k:Nat),(Bt cs k vs).size=cs.size
 |[],_,_=>rfl
 |v::vs,cs,k=>by rw[Bt,D2 vs];simp
def Dp: ∀(vs:List Value) (cs:Array Value) (k i:Nat),k+vs.length<=cs.size->(Bt cs k vs)[i]? = if k<=i/\i<k+vs.length then vs[i-k]? else cs[i]?
 |[],cs,k,i,_=>by simp only[Bt,cu];rw[aE j0]
 | v::vs,cs,k,i,h=>by
  simp only[aS]at h;rw[Bt,Dp vs _ (k+1) i (by simp;omega)];simp only[aS]
  by_cases fI:i=k
  ·subst fI;rw[aE j0,aG j0];have:i<cs.size:=by omega
   simp[this]
  ·by_cases h2:k+1<=i/\i<k+1+vs.length
   ·rw[aG h2,aG j0];rw[show i-k=(i-(k+1))+1 by omega];simp
   ·rw[aE h2,aE j0,cP (cg fI)]
def Pn:Value->Bool
 |.agg _|.tuple _=>false
 |_=>true
def setB(w:World)(b:Nat)(o:Obj):World:={ w with heap:=w.heap.setIfInBounds b o }
def Fk{w:World}{b k:Nat}{o:Obj}(h:k≠b):(setB w b o).heap[k]? = w.heap[k]? :=by simp[setB,cP (cg h)]
def Fl{w:World}{b:Nat}{o x:Obj}(h:w.heap[b]? = some x):(setB w b o).heap[b]? = some o:=by
 have:=(aI.1 h).1;simp[setB,this]
def Mx{w:World}{b o:Nat}{cs:Array Value}{ty:TypeId}{fz:Nat×Nat}(v:Value)(h:w.heap[b]? = some (.cells cs ty fz)):
  w.setCell ⟨b,o,none⟩ v=setB w b (.cells (cs.setIfInBounds o v) ty fz):=by
 have fW:=(aI.1 h).1;have he:=(aI.1 h).2;unfold World.setCell setB
 congr 1
 apply Array.ext
 ·simp
 ·intro i h1 h2;simp only[Array.size_modify]at h1;rw[Array.getElem_modify]
  by_cases hi:b=i
  ·subst hi;simp[he]
  ·have h3:(w.heap.setIfInBounds b (Obj.cells (cs.setIfInBounds o v) ty fz))[i]? = w.heap[i]? :=cP hi;rw[bw h2,bw h1]at h3;rw[aE hi];exact(Option.some.inj h3).symm
def RM(w:World)(b:Nat)(o o':Obj):setB (setB w b o) b o'=setB w b o':=by simp[setB]
def BS{P:Program}{b o:Nat}{ty:TypeId}: ∀(vs:List Value) (i:Nat) (w:World) (cs:Array Value),w.heap[b]? = some (.cells cs ty (0,0))->(∀v∈vs,Pn v=true)->o+i+vs.length<=cs.size->
  (storeCells ⟨b,o,none⟩ vs i).run P w=.ok () (if vs=[] then w else setB w b (.cells (Bt cs (o+i) vs) ty (0,0)))
 |[],i,w,cs,_,_,_=>by simp[storeCells,Sem.run]
 | v::vs,i,w,cs,h,hf,hsz=>by
  simp only[aS]at hsz
  have fo:w.cell? ⟨b,o+i,none⟩=some (cs[o+i]'(by omega)):=by
   simp[World.cell?, h,show o+i<cs.size by omega]
  have f7:w.frozen? ⟨b,o+i,none⟩=false:=by simp[World.frozen?, h]
  have hv:=hf v j1
  have fb:(store ((⟨b,o,none⟩:Addr).add i) v).run P w=.ok () (setB w b (.cells (cs.setIfInBounds (o+i) v) ty (0,0))):=by
   rw[BQ,<-Mx v h];unfold store;cases v<;>simp[Pn]at hv<;>simp[Sem.run,fo,f7]
  simp only[storeCells,aP,fb,aJ];have h2:(setB w b (.cells (cs.setIfInBounds (o+i) v) ty (0,0))).heap[b]? = some (.cells (cs.setIfInBounds (o+i) v) ty (0,0)):=Fl h;rw[BS vs (i+1) _ _ h2 (fun x hx=>hf x (by simp[hx])) (by simp;omega)]
  by_cases fH:vs=[]
  ·subst fH;simp[Bt]
  ·simp[fH,Bt,RM,cT]
def D.flat:D->Bool
 |.any|.agg _|.tup _=>false
 |_=>true
def T0{g:G}{d:D}{v:Value}(h:Rep g d v)(hf:d.flat=true):Pn v=true:=by
 cases d<;>simp only[D.flat]at hf<;>(try cases hf)
 case bool=>cases h;rfl
 case int=>cases h;rfl
 case str=>cases h;rfl
 case aq=>cases h;rfl
 case ak=>obtain⟨b,o,rfl,hr⟩:=h;rfl
 case ptr=>obtain⟨b,hb,rfl⟩:=h;rfl
 case aj=>cases h;rfl
 case slice=>obtain⟨a,cap,rfl,hr⟩:=h;rfl
 case am=>obtain⟨b,hb,rfl⟩:=h;rfl
 case map=>obtain⟨b,hb,rfl⟩:=h;rfl
 case nilmap=>cases h;rfl
 case cmap=>obtain⟨b,es,c,rfl,hr⟩:=h;rfl
 case func=>obtain⟨fs,cs,rfl,hr⟩:=h;rfl
 case yld=>obtain⟨b,hb,rfl⟩:=h;rfl
 case ap=>cases h;rfl
 case iface=>obtain⟨x,rfl,hr⟩:=h;rfl
 case niliface=>cases h;rfl
 case obj=>obtain⟨b,hb,rfl⟩:=h;rfl
def C6(ds:eO):Bool:=ds.all D.flat
def Dw{g:G}: ∀{ds:eO}{vs:List Value},jE g ds vs->C6 ds=true->∀v∈vs,Pn v=true
 |[],_,h,_,v,hv=>by cases h;simp at hv
 |d::ds,_,⟨v0,r,e,h1,h2⟩,hf,v,hv=>by
  subst e;simp only[C6,cM,aF]at hf;rcases aY.1 hv with rfl|hv
  ·exact T0 h1 hf.1
  ·exact Dw h2 hf.2 v hv
def kB.setB{P:Program}{g:G}{O:Sig}{w:World}{i b:Nat}{d:jP}{o:Obj}(hZ:O i=some d)(hne:blk g O i≠some b)(h:kB P g w i d):kB P g (DL.setB w b o) i d:=by
 have key:∀k x,w.heap[k]? = some x->k≠b->(DL.setB w b o).heap[k]? = some x:=fun k x h hk=>by rw[Fk hk];exact h
 cases d with
 |cells ds=>
  obtain⟨k,vs,ty,h1,h2,h3⟩:=h;exact⟨k,vs,ty,h1,key k _ h2 (fun e=>hne (by simp[blk,hZ,h1,e])),h3⟩
 |tcells ty ds=>
  obtain⟨k,vs,h1,h2,h3⟩:=h;exact⟨k,vs,h1,key k _ h2 (fun e=>hne (by simp[blk,hZ,h1,e])),h3⟩
 |mcells ds=>
  obtain⟨k,vs,ty,h1,h2,h3⟩:=h;exact⟨k,vs,ty,h1,key k _ h2 (fun e=>hne (by simp[blk,hZ,h1,e])),h3⟩
 |map l=>
  obtain⟨k,vs,ty,h1,h2,h3⟩:=h;exact⟨k,vs,ty,h1,key k _ h2 (fun e=>hne (by simp[blk,hZ,h1,e])),h3⟩
 |tail sz n=>
  rcases h with h|⟨k,o',cap,vs,ty,h1,h2,h3,h4,h5⟩
  ·exact .inl h
  ·exact .inr ⟨k,o',cap,vs,ty,h1,h2,key k _ h3 (fun e=>hne (by simp[blk,hZ,h1,e])),h4,h5⟩
 |loop st pe ps az bo n γ did=>
  obtain⟨k,db,fn,tmps,h1,h2,h3,h4,h5⟩:=h;exact⟨k,db,fn,tmps,h1,h2,h3,h4,key k _ h5 (fun e=>hne (by simp[blk,hZ,h1,e]))⟩
 |defs=>
  obtain⟨k,h1,h2⟩:=h;exact⟨k,h1,key k _ h2 (fun e=>hne (by simp[blk,hZ,h1,e]))⟩
 |iter l la=>
  obtain⟨k,h1,h2⟩:=h;exact⟨k,h1,h2.imp (fun ⟨a,c,d⟩=>⟨a,c,key k _ d (fun e=>hne (by simp[blk,hZ,h1,e]))⟩) (fun ⟨mb,es,c,seen,e1,r⟩=>⟨mb,es,c,seen,key k _ e1 (fun e=>hne (by simp[blk,hZ,h1,e])),r⟩)⟩
def G.bind(g:G)(i b:Nat):G:={ g with rho:=fun j=>if j=i then some b else g.rho j }
def G.bind_le{g:G}{i b:Nat}(h:g.rho i=none):g.le (g.bind i b):=
 {imm:=fun _ _ _ x=>x,hist:=fun _ _ _ x=>x,keep:=fun _ _ x=>x,io:=rfl
  rho:=fun j c x=>by
   simp only[G.bind]
   by_cases hj:j=i
   ·subst hj;rw[h]at x;cases x
   ·rw[aE hj];exact x }
def Sim.taken{P:Program}{g:G}{O:Sig}{w:World}(hs:Sim P g O w){i:Nat}{d:jP}(h:O i=some d):(g.rho i).isSome=true:=by
 have:=hs.obj i d h;cases d with
 |tail sz n=>
  rcases this with h|⟨k,o',cap,vs,ty,h1,_⟩
  ·exact hs.hdom _ _ _ h.1
  ·exact hs.hdom _ _ _ h1
 |cells ds=>obtain⟨k,_,_,h1,_⟩:=this;rw[h1];rfl
 |tcells ty ds=>obtain⟨k,_,h1,_⟩:=this;rw[h1];rfl
 |mcells ds=>obtain⟨k,_,_,h1,_⟩:=this;rw[h1];rfl
 |map l=>obtain⟨k,_,_,h1,_⟩:=this;rw[h1];rfl
 |loop=>obtain⟨k,_,_,_,h1,_⟩:=this;rw[h1];rfl
 |defs=>obtain⟨k,h1,_⟩:=this;rw[h1];rfl
 |iter=>obtain⟨k,h1,_⟩:=this;rw[h1];rfl
def Sim.fresh{P:Program}{g:G}{O:Sig}{w:World}(hs:Sim P g O w): ∃i,g.rho i=none/\O i=none:=by
 obtain⟨m,hm⟩:=hs.fin;refine⟨m,hm m (bU _),?_⟩;cases h:O m with
 |none=>rfl
 |some d=>have:=hs.taken h;rw[hm m (bU _)]at this;cases this
def PT{g:G}{O:Sig}{i b j:Nat}(hZ:O i=none):blk (g.bind i b) O j=blk g O j:=by
 unfold blk G.bind
 by_cases hj:j=i
 ·subst hj;rw[hZ]
 ·cases O j with
  |none=>rfl
  |some d=>cases d<;>simp[hj]
def Sim.newObj{P:Program}{g:G}{O:Sig}{w:World}(hs:Sim P g O w){i:Nat}{d:jP}{o:Obj}(hi:g.rho i=none)(hZ:O i=none)(ht:d.isTail=false)
  (hd:kB P (g.bind i w.heap.size) { w with heap:=w.heap.push o } i d):Sim P (g.bind i w.heap.size) (O.set i d) { w with heap:=w.heap.push o } where
 imm:=fun b o v h=>NP (hs.imm b o v h)
 keep:=fun k o h=>jt (hs.keep k o h)
 obj:=fun j x h=>by
  by_cases hj:j=i
  ·subst hj;simp only[Sig.set,bu,bE]at h;subst h;exact hd
  ·simp only[Sig.set,hj,bc]at h;exact((hs.obj j x h).mono (G.bind_le hi) (fun _ _ _ _ _ _ _ _ _ _ h=>h)).push _
 inj:=by
  have key:∀j b,blk (g.bind i w.heap.size) (O.set i d) j=some b->(j=i/\b=w.heap.size)\/(j≠i/\blk g O j=some b):=by
   intro j b h
   by_cases hj:j=i
   ·subst hj
    left
    refine⟨rfl,?_⟩;simp only[blk,Sig.set,bu]at h;cases d<;>simp[jP.isTail]at ht<;>simp[G.bind]at h<;>exact h.symm
   ·right
    refine⟨hj,?_⟩;rw[<-PT (b:=w.heap.size) hZ];unfold blk at h⊢;simp only[Sig.set,hj,bc]at h;exact h
  intro j k b h1 h2;rcases key j b h1 with⟨a1,a2⟩|⟨a1,a2⟩<;>rcases key k b h2 with⟨b1,b2⟩|⟨b1,b2⟩
  ·rw[a1,b1]
  ·have:=hs.blk_lt b2;omega
  ·have:=hs.blk_lt a2;omega
  ·exact hs.inj j k b a2 b2
 free:=fun j b h=>by
  by_cases hj:j=i
  ·subst hj
   have hb:b=w.heap.size:=by
    simp only[blk,Sig.set,bu]at h;cases d<;>simp[jP.isTail]at ht<;>simp[G.bind]at h<;>exact h.symm
   subst hb;refine⟨?_,fun _ o=>?_⟩
   ·cases hk:g.keep w.heap.size with
    |none=>exact hk
    |some x=>have:=(aI.1 (hs.keep _ _ hk)).1;omega
   ·cases hk:g.imm w.heap.size o with
    |none=>exact hk
    |some x=>have:=Md (hs.imm _ _ _ hk);omega
  ·have h':blk g O j=some b:=by
    rw[<-PT (b:=w.heap.size) hZ];unfold blk at h⊢;simp only[Sig.set,hj,bc]at h;exact h
   obtain⟨h1,h2⟩:=hs.free j b h';exact⟨h1,fun ht o=>h2 (fun x hx=>ht x (by simp only[Sig.set,hj,bc];exact hx)) o⟩
 htop:=fun j sz n k h hk=>by
  by_cases hj:j=i
  ·subst hj;simp only[Sig.set,bu,bE]at h;subst h;cases ht
  ·simp only[Sig.set,hj,bc]at h;exact hs.htop j sz n k h hk
 hdom:=fun j n v h=>by
  simp only[G.bind]
  by_cases hj:j=i
  ·rw[aG hj];rfl
  ·rw[aE hj];exact hs.hdom j n v h
 io:=hs.io
 tab:=hs.tab
 fin:=by
  obtain⟨m,hm⟩:=hs.fin;refine⟨max m (i+1),fun k hk=>?_⟩;simp only[G.bind];rw[aE j0];exact hm k j0
def w6(O:Sig)(i:Nat)(o:jP):O.set i o i=some o:=by simp[Sig.set]
def w7(O:Sig){i j:Nat}(o:jP)(h:j≠i):O.set i o j=O j:=by simp[Sig.set,h]
theorem j2{σ:Sig}{i j:Nat}{o:jP}{x:Option jP}(n:¬i=j)(h:σ i=x):σ.set j o i=x:=(w7 _ _ n).trans h
def w8(O:Sig)(i:Nat)(o o':jP):(O.set i o).set i o'=O.set i o':=by
 funext j;by_cases h:j=i<;>simp[Sig.set,h]
def Sig.set_del(O:Sig){i:Nat}(o:jP)(h:O i=none):(O.set i o).del i=O:=by
 funext j;by_cases hj:j=i
 ·subst hj;simp[Sig.del,h]
 ·simp[Sig.set,Sig.del,hj]
def CB(g:G): ∀(l:List Value),jE g (l.map Bq) l
 |[]=>rfl
 |v::l=>⟨_,_,rfl,Eo g v,CB g l⟩
section
variable {P:Program}{ro:Ro}{n:Nat}{ops:Array Oper}{Q:DX->St->Prop}{rest:List Oper}{tab:Nat->Ty}{γ:List (Nat×D)}{O:Sig}{df:List DDf}
theorem HS{o:Oper}{mk:Nat->D}{d:jP}(hw:AJ ops γ o=some true)(fS:∀c,o.op≠.defer c)(gc:∀(w:World) (ρ:Operand->Value) f,o.about P w ρ=some f->False)(ho:Ax n o=true)(hd:d.isTail=false)
  (hr : ∀ g w (a:Act),Sim P g O w->kA g γ n a.tmps -> ∃ ob v,(execOp a.eval o).run P w = .ok (.value v) { w with heap:=w.heap.push ob } /\
   ∀i,g.rho i=none->kB P (g.bind i w.heap.size) { w with heap:=w.heap.push ob } i d/\Rep (g.bind i w.heap.size) (mk i) v)
  (h:∀i,O i=none->au P ro n ops Q rest ⟨putD o.dst (mk i) γ,O.set i d,df⟩):au P ro n ops Q (o::rest) ⟨γ,O,df⟩:=by
 intro g w a r fP hs;unfold wpListIn;rw[AW hs.tmps hw,aG rfl];refine⟨fun f hf=>(gc _ _ f hf).elim,?_⟩;obtain⟨ob,v,h1,h2⟩:=hr g w a hs.sim hs.tmps;rw[cX _ _ _ fS,h1];obtain⟨i,hi,hZ⟩:=hs.sim.fresh;obtain⟨h3,h4⟩:=h2 i hi;exact AO (G.bind_le hi) _ (h i hZ _ _ _ r (fP.mono (G.bind_le hi)) (hs.put (G.bind_le hi) (hs.sim.newObj hi hZ hd h3) h4 ho))
variable (ht:AZ P tab)
include ht
theorem Dx{t T:Nat}{ty:TypeId}{pos:String}{after:Array Edge}(hk:A2 (tab T).k=false)(eY:t<n)
  (h:∀i,O i=none->au P ro n ops Q rest ⟨(t,.ptr i 0)::γ,O.set i (.cells (tab T).zero),df⟩) :
  au P ro n ops Q (⟨some t,.alloc T,ty,pos,after,none⟩::rest) ⟨γ,O,df⟩:=by
 refine HS (mk:=fun i=>.ptr i 0) (d:=.cells (tab T).zero) rfl (fun c e=>by cases e) (Ag fun c e=>by cases e) (by simp[Ax,eY]) rfl ?_ h;intro g w a hs hT;obtain⟨z,hz,fL,gg⟩:=Dd (ht T) (Ai hk) w;refine⟨.cells z.cells T,.pointer (some ⟨w.heap.size,0,none⟩),?_,fun i hi=>⟨⟨w.heap.size,z.cells,T,by simp[G.bind],j1,?_⟩,w.heap.size,by simp[G.bind],rfl⟩⟩
 ·simp only[execOp,Instr.alloc,aP,hz,aJ,newVar,D5];rfl
 ·rw[fL];exact CB _ _
omit ht in
theorem dops_box{t T:Nat}{x:Operand}{ty:TypeId}{pos:String}{after:Array Edge}(b7:(ev γ x).told=true)(eY:t<n)
  (h:∀i,O i=none->au P ro n ops Q rest ⟨(t,.ptr i 0)::γ,O.set i (.cells (ev γ x).cells),df⟩) :
  au P ro n ops Q (⟨some t,.box T x,ty,pos,after,none⟩::rest) ⟨γ,O,df⟩:=by
 refine HS (mk:=fun i=>.ptr i 0) (d:=.cells (ev γ x).cells) rfl (fun c e=>by cases e) (Ag fun c e=>by cases e) (by simp[Ax,eY]) rfl ?_ h;intro g w a hs hT;refine⟨.cells (a.eval x).cells T,.pointer (some ⟨w.heap.size,0,none⟩),?_,fun i hi=>⟨⟨w.heap.size,(a.eval x).cells,T,by simp[G.bind],j1,?_⟩,w.heap.size,by simp[G.bind],rfl⟩⟩
 ·simp[execOp,Instr.box,newVar,D5]
 ·exact jE.mono (G.bind_le hi) _ (FV (As hT x) b7)
omit ht in
theorem Sim.setObj{g:G}{w:World}(hs:Sim P g O w){i b:Nat}{ds ds':eO}{vs':Array Value}{ty:TypeId}(hi:O i=some (.cells ds))(hb:g.rho i=some b)(hr:jE g ds' vs'.toList)
  (hx:∃vs,w.heap[b]? = some (.cells vs ty (0,0))):Sim P g (O.set i (.cells ds')) (setB w b (.cells vs' ty (0,0))):=by
 obtain⟨vs,hx⟩:=hx;have b6:blk g O i=some b:=by simp[blk,hi,hb]
 have d9:=hs.free i b b6;have fu:∀o,g.imm b o=none:=d9.2 fun o ho=>by rw[hi]at ho;cases ho;rfl
 have c9:∀j,blk g (O.set i (.cells ds')) j=blk g O j:=by
  intro j
  by_cases hj:j=i
  ·subst hj;simp[blk,Sig.set,hi]
  ·simp[blk,Sig.set,hj]
 exact {
  imm:=fun c o v h=>by
   have hc:c≠b:=fun e=>by rw[e,fu o]at h;cases h
   have:=hs.imm c o v h
   unfold World.cell? at this⊢
   simp only at this⊢
   rw[Fk hc];exact this
  keep:=fun k o h=>by
   have hc:k≠b:=fun e=>by rw[e,d9.1]at h;cases h
   rw[Fk hc];exact hs.keep k o h
  obj:=fun j o h=>by
   by_cases hj:j=i
   ·subst hj
    rw[w6]at h;cases h
    exact⟨b,vs',ty,hb,Fl hx,hr⟩
   ·rw[w7 _ _ hj]at h
    exact(hs.obj j o h).setB h fun e=>hj (hs.inj j i b e b6)
  inj:=fun j k c h1 h2=>hs.inj j k c (by rw[<-c9];exact h1) (by rw[<-c9];exact h2)
  free:=fun j c h=>by
   rw[c9]at h
   obtain⟨h1,h2⟩:=hs.free j c h
   refine⟨h1,fun hh o=>?_⟩
   by_cases hj:j=i
   ·subst hj
    rw[b6]at h;cases h
    exact fu o
   ·exact h2 (fun x hx=>hh x (j2 hj hx)) o
  htop:=fun j sz n k h hk=>by
   by_cases hj:j=i
   ·subst hj;rw[w6]at h;cases h
   ·rw[w7 _ _ hj]at h;exact hs.htop j sz n k h hk
  hdom:=hs.hdom
  io:=hs.io
  tab:=hs.tab
  fin:=hs.fin }
theorem Ms{g:G}{w:World}{a:Act}(hs:Sim P g O w)(hT:kA g γ n a.tmps){T i off:Nat}{x y:Operand}{ds:eO}(hk:A2 (tab T).k=false)(hx:ev γ x=.ptr i off)(hi:O i=some (.cells ds))
  (b7:(ev γ y).told=true) (hl:(ev γ y).cells.length=(tab T).size) (hf:C6 (ev γ y).cells=true) (fj:off+(ev γ y).cells.length<=ds.length) :
  ∃w',(Instr.storeAt T (a.eval x) (a.eval y)).run P w=.ok () w'/\Sim P g (O.set i (.cells (ds.take off++(ev γ y).cells++ds.drop (off+(ev γ y).cells.length)))) w':=by
 have fg:=As hT x;rw[hx]at fg;obtain⟨b,hb,fg⟩:=fg;have hy:=As hT y;have fv:=FV hy b7;obtain⟨b',vs,ty',fp,b9,hr⟩:=hs.obj i _ hi;obtain rfl:b'=b:=by rw[hb]at fp;cases fp;rfl
 have fV:=jE.length fv;have fX:=jE.length hr;simp only[bB]at fV fX
 let w':=setB w b' (.cells (Bt vs off (a.eval y).cells.toList) ty' (0,0))
 have d5:jE g (ds.take off++(ev γ y).cells++ds.drop (off+(ev γ y).cells.length)) (Bt vs off (a.eval y).cells.toList).toList:=by
  refine AP (by simp only[aC,cF,cn,bB,D2];omega) fun j d v h1 h2=>?_
  have eZ:(Bt vs off (a.eval y).cells.toList)[j]? = some v:=by simpa using h2
  rw[Dp _ _ _ _ (by simp;omega)]at eZ;simp only[bB]at eZ;simp only[cz,aC,cF,dv,cm]at h1;have e1:min off ds.length=off:=by omega
  rw[e1]at h1
  by_cases c1:j<off
  ·rw[aE j0]at eZ;rw[aG j0,aG c1,aG c1]at h1;have:=jE.get hr j;rw[h1]at this;simp only[bO,eZ,ba]at this;exact this
  ·by_cases c2:j<off+(ev γ y).cells.length
   ·rw[aG j0]at eZ;rw[aG j0,aE c1]at h1;have:=jE.get fv (j-off);rw[h1,eZ]at this;exact this
   ·rw[aE j0]at eZ;rw[aE j0]at h1;have:=jE.get hr j;rw[show off+(ev γ y).cells.length+(j-(off+(ev γ y).cells.length))=j by omega]at h1;rw[h1]at this;simp only[bO,eZ,ba]at this;exact this
 refine⟨w',?_,hs.setObj hi hb d5 ⟨vs,b9⟩⟩;simp only[fg,Instr.storeAt,Instr.sureAddr,storeVar,aP,bi,aJ,AK (ht T) (Ai hk)];rw[aE j0];have fb:=BS (P:=P) (a.eval y).cells.toList 0 w vs b9 (Dw fv hf) (by simp;omega) (o:=off);rw[fb];simp only[aJ,dM]
 by_cases he:(a.eval y).cells.toList=[]
 ·rw[aG he]
  have fM:w'=w:=by
   show setB w b' (.cells (Bt vs off (a.eval y).cells.toList) ty' (0,0))=w;rw[he];obtain⟨fW,f0⟩:=aI.1 b9
   have e:w.heap.setIfInBounds b' (.cells vs ty' (0,0))=w.heap:=by
    apply Array.ext j1;intro k h1 h2;by_cases hk:b'=k
    ·subst hk;simp[f0]
    ·rw[dJ _ hk]
   show { w with heap:=w.heap.setIfInBounds b' (.cells vs ty' (0,0)) }=w;rw[e]
  rw[fM]
 ·rw[aE he]
theorem Ll{T i off:Nat}{x y:Operand}{ds:eO}{ty:TypeId}{pos:String}{after:Array Edge}{guard:Option (Nat×Bool)}(hw:AJ ops γ ⟨none,.store T x y,ty,pos,after,guard⟩=some true)(hk:A2 (tab T).k=false)(hx:ev γ x=.ptr i off)(hi:O i=some (.cells ds))
  (b7:(ev γ y).told=true) (hl:(ev γ y).cells.length=(tab T).size) (hf:C6 (ev γ y).cells=true) (fj:off+(ev γ y).cells.length<=ds.length)
  (h:au P ro n ops Q rest ⟨γ,O.set i (.cells (ds.take off++(ev γ y).cells++ds.drop (off+(ev γ y).cells.length))),df⟩) :
  au P ro n ops Q (⟨none,.store T x y,ty,pos,after,guard⟩::rest) ⟨γ,O,df⟩:=by
 refine Fz (d:=.any) (U':=O.set i (.cells (ds.take off++(ev γ y).cells++ds.drop (off+(ev γ y).cells.length)))) hw (fun c e=>by cases e) (Ag fun c e=>by cases e) ?_ rfl h;intro g w a hs hT;obtain⟨w',h1,h2⟩:=Ms ht hs hT hk hx hi b7 hl hf fj;exact⟨g,w',undef,.inr ⟨by simp only[execOp,aP,h1,aJ];rfl,rfl⟩,.refl g,h2,trivial⟩
omit ht in
theorem Mj{i t:Nat}{ds:eO}(hi:O i=some (.cells ds))(hg:getD γ t=.ptr i 0):Wk P n ⟨γ,O,df⟩ ⟨(t,.ak ds 0)::γ,O.del i,df⟩:=by
 intro g w a hs;have eW:=hs.sim;obtain⟨b,vs,ty,hb,b9,hr⟩:=hs.sim.obj i _ hi;have b6:blk g O i=some b:=by simp[blk,hi,hb]
 have d9:=hs.sim.free i b b6;have fu:∀o,g.imm b o=none:=d9.2 fun o ho=>by change O i=some o at ho;rw[hi]at ho;cases ho;rfl
 have d6:g.le (g.addImm b vs.toList):=
  {imm:=fun c o v h=>by
    simp only[G.addImm]
    by_cases hc:c=b
    ·rw[hc,fu o]at h;cases h
    ·rw[aE hc];exact h
   rho:=fun _ _ h=>h,hist:=fun _ _ _ h=>h,keep:=fun _ _ h=>h,io:=rfl }
 have c9:∀j c,blk (g.addImm b vs.toList) (O.del i) j=some c->j≠i/\blk g O j=some c:=by
  intro j c h
  by_cases hj:j=i
  ·subst hj;simp[blk,Sig.del]at h
  ·refine⟨hj,?_⟩;unfold blk at h⊢;simp only[Sig.del,hj,bc]at h;exact h
 refine⟨g.addImm b vs.toList,d6,⟨?_,⟨hs.tmps.1,fun k=>?_⟩,hs.df.mono d6⟩⟩
 ·exact {
   imm:=fun c o v h=>by
    simp only[G.addImm]at h
    by_cases hc:c=b
    ·rw[aG hc]at h
     subst hc
     simp only[World.cell?, b9]
     simpa using h
    ·rw[aE hc]at h;exact eW.imm c o v h
   keep:=eW.keep
   obj:=fun j o h=>by
    have hj:j≠i:=fun e=>by rw[e]at h;simp[Sig.del]at h
    simp only[Sig.del,hj,bc]at h
    refine(eW.obj j o h).mono d6 ?_
    intro sz m c o' cap e1 e2 e3 k _ hk
    simp only[G.addImm]
    by_cases hc:c=b
    ·exfalso
     subst hc
     exact hj (eW.inj j i c (by rw[e1]at h;simp[blk,h,e2]) b6)
    ·rw[aE hc];exact hk
   inj:=fun j k c h1 h2=>eW.inj j k c (c9 j c h1).2 (c9 k c h2).2
   free:=fun j c h=>by
    obtain⟨hj,h'⟩:=c9 j c h
    obtain⟨h1,h2⟩:=eW.free j c h'
    refine⟨h1,fun hh o=>?_⟩
    have hc:c≠b:=fun e=>hj (eW.inj j i b (e ▸ h') b6)
    simp only[G.addImm];rw[aE hc]
    exact h2 (fun x hx=>hh x (by simp only[Sig.del,hj,bc];exact hx)) o
   htop:=fun j sz n k h hk=>by
    have hj:j≠i:=fun e=>by rw[e]at h;simp[Sig.del]at h
    simp only[Sig.del,hj,bc]at h
    exact eW.htop j sz n k h hk
   hdom:=eW.hdom
   io:=eW.io
   tab:=eW.tab
   fin:=eW.fin }
 ·rw[A8]
  by_cases hk:k=t
  ·rw[aG hk,hk];have:=hs.tmps.2 t;rw[hg]at this;obtain⟨b',fp,hv⟩:=this;obtain rfl:b'=b:=by rw[hb]at fp;cases fp;rfl
   exact⟨b',0,by simpa using hv,GY hr d6⟩
  ·rw[aE hk];exact Rep.mono d6 _ (hs.tmps.2 k)
omit ht in
theorem C9{l:List Oper}{s s':St}(h:Wk P n s s')(k:au P ro n ops Q l s'):au P ro n ops Q l s:=fun g w a r hr hs=>
 let ⟨g',l',fw⟩:=h g w a hs
 AO l' _ (k g' w a r (hr.mono l') fw)
theorem Oy{t T:Nat}{x:Operand}{ty ty':TypeId}{pos pos':String}{after after':Array Edge}(hk:A2 (tab T).k=false)(eY:t<n)(hx:x≠.tmp t)
  (b7:(ev γ x).told=true) (hl:(ev γ x).cells.length=(tab T).size) (hf:C6 (ev γ x).cells=true)
  (h:au P ro n ops Q rest ⟨(t,.ak (ev γ x).cells 0)::γ,O,df⟩) :
  au P ro n ops Q (⟨some t,.alloc T,ty,pos,after,none⟩::⟨none,.store T (.tmp t) x,ty',pos',after',none⟩::rest) ⟨γ,O,df⟩:=by
 refine Dx ht hk eY fun i hi=>?_
 have fm:ev ((t,.ptr i 0)::γ) x=ev γ x:=by
  cases x with
  |tmp k=>simp only[ev,A8];rw[aE fun e=>hx (by rw[e])]
  |_=>rfl
 have hz:(tab T).zero.length=(tab T).size:=by
  obtain⟨_,_,_,_,_,_,_,_,_,_,h8,_⟩:=Cx (ht T) (Ai hk);exact h8
 refine Ll ht rfl hk (x:=.tmp t) (i:=i) (off:=0) (by simp[ev,A8]) (w6 ..) (by rw[fm];exact b7) (by rw[fm];exact hl) (by rw[fm];exact hf) (by rw[fm];omega) ?_;rw[fm];refine C9 (Mj (i:=i) (t:=t) (w6 ..) (by simp[A8])) ?_
 have e1:(tab T).zero.take 0++(ev γ x).cells++(tab T).zero.drop (0+(ev γ x).cells.length)=(ev γ x).cells:=by
  rw[dk j0];simp
 rw[w8,Sig.set_del _ _ hi,e1];refine Cn (γ:=(t,.ak (ev γ x).cells 0)::γ) (fun k=>?_) h;simp only[A8];split<;>rfl
end
def jE.split{g:G}: ∀{a b:eO}{vs:List Value},jE g (a++b) vs->∃u v,vs=u++v/\jE g a u/\jE g b v
 |[],b,vs,h=>⟨[],vs,rfl,rfl,h⟩
 |d::a,b,vs,⟨v,r,e,h1,h2⟩=>by
  obtain⟨u,t,e2,h3,h4⟩:=jE.split h2;exact⟨v::u,t,by rw[e,e2];rfl,⟨v,u,rfl,h1,h3⟩,h4⟩
def jE.append{g:G}: ∀{a b:eO}{u v:List Value},jE g a u->jE g b v->jE g (a++b) (u++v)
 |[],b,u,v,h1,h2=>by cases h1;exact h2
 |d::a,b,_,v,⟨x,r,e,h1,h3⟩,h2=>⟨x,r++v,by rw[e];rfl,h1,jE.append h3 h2⟩
def jn.values{g:G}{b sz:Nat}: ∀{es:eR}{o:Nat},jn g b sz o es->∃vs,jE g es.flatten vs/\vs.length=es.length*sz /\ ∀j v,vs[j]? = some v->g.imm b (o+j)=some v
 |[],_,_=>⟨[],rfl,j1,fun j v h=>by simp at h⟩
 | e::es,o,⟨⟨h1,h2⟩,h3⟩=>by
  obtain⟨us,r1,hu⟩:=h2.values;obtain⟨vs,r2,hl,hv⟩:=jn.values h3;have fi:=jE.length r1;refine⟨us++vs,by simpa using r1.append r2,by simp[hl,fi,h1,cp,ew],fun j v h=>?_⟩;rw[cz]at h;split at h
  ·exact hu j v h
  ·rename_i hj;have:=hv _ _ h;rw[fi,h1]at this hj
   rwa [show o+sz+(j-sz)=o+j by omega]at this
def Jl{g:G}{b sz:Nat}: ∀{es:eR}{o:Nat}{vs:List Value},(∀e∈es,e.length=sz)->jE g es.flatten vs->(∀j v,vs[j]? = some v->g.imm b (o+j)=some v)->jn g b sz o es
 |[],_,_,_,_,_=>trivial
 | e::es,o,vs,hl,hr,hv=>by
  rw[br]at hr;obtain⟨u,v,rfl,h1,h2⟩:=hr.split;have fi:=jE.length h1;have ga:=hl e j1;refine⟨⟨ga,Oh h1 fun j x hx=>hv j x ?_⟩,Jl (fun e he=>hl e (by simp[he])) h2 fun j x hx=>?_⟩
  ·have:j<u.length:=(aV.1 hx).1;rw[bj this];exact hx
  ·have:=hv (sz+j) x (by rw[bK j0];rwa [show sz+j-u.length=j by omega])
   rwa [show o+sz+j=o+(sz+j) by omega]
def jn.append{g:G}{b sz:Nat}: ∀{es fs:eR}{o:Nat},jn g b sz o es->jn g b sz (o+es.length*sz) fs->jn g b sz o (es++fs)
 |[],fs,o,_,h=>by simpa using h
 |e::es,fs,o,⟨h1,h2⟩,h=>by
  refine⟨h1,jn.append h2 ?_⟩
  rwa [show o+sz+es.length*sz=o+(e::es).length*sz by simp[cp];omega]
def jn.size{g:G}{b sz sz':Nat}{es:eR}{o:Nat}(h:jn g b sz o es)(hne:es≠[])(hl:∀e∈es,e.length=sz'):sz=sz':=by
 cases es with
 |nil=>exact absurd rfl hne
 |cons e es=>rw[<-h.1.1];exact hl e j1
def kB.other{P:Program}{g:G}{O:Sig}{w w':World}{i b:Nat}{d:jP}(hZ:O i=some d)(hne:blk g O i≠some b)(key:∀k x,w.heap[k]? = some x->k≠b->w'.heap[k]? = some x)(h:kB P g w i d):kB P g w' i d:=by
 cases d with
 |cells ds=>
  obtain⟨k,vs,ty,h1,h2,h3⟩:=h;exact⟨k,vs,ty,h1,key k _ h2 (fun e=>hne (by simp[blk,hZ,h1,e])),h3⟩
 |tcells ty ds=>
  obtain⟨k,vs,h1,h2,h3⟩:=h;exact⟨k,vs,h1,key k _ h2 (fun e=>hne (by simp[blk,hZ,h1,e])),h3⟩
 |mcells ds=>
  obtain⟨k,vs,ty,h1,h2,h3⟩:=h;exact⟨k,vs,ty,h1,key k _ h2 (fun e=>hne (by simp[blk,hZ,h1,e])),h3⟩
 |map l=>
  obtain⟨k,vs,ty,h1,h2,h3⟩:=h;exact⟨k,vs,ty,h1,key k _ h2 (fun e=>hne (by simp[blk,hZ,h1,e])),h3⟩
 |tail sz n=>
  rcases h with h|⟨k,o',cap,vs,ty,h1,h2,h3,h4,h5⟩
  ·exact .inl h
  ·exact .inr ⟨k,o',cap,vs,ty,h1,h2,key k _ h3 (fun e=>hne (by simp[blk,hZ,h1,e])),h4,h5⟩
 |loop st pe ps az bo n γ did=>
  obtain⟨k,db,fn,tmps,h1,h2,h3,h4,h5⟩:=h;exact⟨k,db,fn,tmps,h1,h2,h3,h4,key k _ h5 (fun e=>hne (by simp[blk,hZ,h1,e]))⟩
 |defs=>
  obtain⟨k,h1,h2⟩:=h;exact⟨k,h1,key k _ h2 (fun e=>hne (by simp[blk,hZ,h1,e]))⟩
 |iter l la=>
  obtain⟨k,h1,h2⟩:=h;exact⟨k,h1,h2.imp (fun ⟨a,c,d⟩=>⟨a,c,key k _ d (fun e=>hne (by simp[blk,hZ,h1,e]))⟩) (fun ⟨mb,es,c,seen,e1,r⟩=>⟨mb,es,c,seen,key k _ e1 (fun e=>hne (by simp[blk,hZ,h1,e])),r⟩)⟩
def G.put(g:G)(i b start k:Nat)(vs:List Value)(v:Value):G where
 imm b' o:=if b'=b/\start<=o/\o<start+vs.length then vs[o-start]? else g.imm b' o
 rho j:=if j=i then some ((g.rho i).getD 0) else g.rho j
 hist j m:=if j=i/\m=k then some v else g.hist j m
 keep:=g.keep
 io:=g.io
def Grows(g:G)(O:Sig)(i k:Nat):Prop:=(g.rho i=none/\O i=none) \/ ∃sz n,O i=some (.tail sz n)/\n<k
section
variable {P:Program}{g:G}{O:Sig}{w w':World}{i b start k:Nat}{vs:List Value}{v:Value}
theorem Grows.none(hs:Sim P g O w)(h:Grows g O i k): ∀m,k<=m->g.hist i m=none:=by
 intro m hm;rcases h with⟨h,_⟩|⟨sz,n,h,hn⟩
 ·cases hh:g.hist i m with
  |none=>rfl
  |some x=>have:=hs.hdom i m x hh;rw[h]at this;cases this
 ·exact hs.htop i sz n m h j0
theorem G.put_le(hs:Sim P g O w)(hg:Grows g O i k)(h0:∀j,start<=j->g.imm b j=none):g.le (g.put i b start k vs v) where
 imm:=fun c o x h=>by
  simp only[G.put];rw[aE];exact h
  rintro⟨rfl,h1,_⟩
  rw[h0 o h1]at h;cases h
 rho:=fun j c h=>by
  simp only[G.put]
  by_cases hj:j=i
  ·subst hj;rw[aG rfl,h];rfl
  ·rw[aE hj];exact h
 hist:=fun j m x h=>by
  simp only[G.put];rw[aE];exact h
  rintro⟨rfl,rfl⟩
  rw[hg.none hs _ (bU _)]at h;cases h
 keep:=fun _ _ h=>h
 io:=rfl
theorem NO{w w':World}{a:Addr}{x:Value}{b:Nat}(hn:a.block≠b)(key:∀k x,w.heap[k]? = some x->k≠b->w'.heap[k]? = some x)(h:w.cell? a=some x):w'.cell? a=some x:=by
 unfold World.cell? at h⊢;cases hh:w.heap[a.block]? with
 |none=>rw[hh]at h;cases h
 |some o=>rw[hh]at h;rw[key _ _ hh hn];exact h
theorem Sim.put{sz o cap:Nat}{cs:Array Value}{ty:TypeId}(hs:Sim P g O w)(hg:Grows g O i k)(h0:∀j,start<=j->g.imm b j=none)
  (key:∀c x,w.heap[c]? = some x->c≠b->w'.heap[c]? = some x) (hb:w'.heap[b]? = some (.cells cs ty (0,0)))
  (fA:∀o x,g.imm b o=some x->cs[o]? = some x) (d5:∀j x,vs[j]? = some x->cs[start+j]? = some x) (hlen:start+vs.length=o+k*sz) (hsz:o+cap*sz<=cs.size)
  (d8:g.keep b=none) (eU:∀j,blk g O j=some b->j=i) (hv:v=.slice (some ⟨b,o,none⟩) k cap) (ff:k<=cap) (fZ:(w'.os,w'.output)=(w.os,w.output)) :
  Sim P (g.put i b start k vs v) (O.set i (.tail sz k)) w':=by
 have d6:=G.put_le (vs:=vs) (v:=v) hs hg h0
 have b6:∀j c,blk (g.put i b start k vs v) (O.set i (.tail sz k)) j=some c->(j=i/\c=b)\/(j≠i/\blk g O j=some c):=by
  intro j c h
  by_cases hj:j=i
  ·subst hj;simp only[blk,w6,G.put,dt,bu,hv,bE]at h;exact .inl ⟨rfl,h.symm⟩
  ·refine .inr ⟨hj,?_⟩;unfold blk at h⊢;rw[w7 _ _ hj]at h;simp only[G.put,hj,dw,bc]at h;exact h
 have d7:∀c o,c≠b->(g.put i b start k vs v).imm c o=g.imm c o:=by
  intro c o hc;simp only[G.put,hc,dw,bc]
 exact {
  imm:=fun c o x h=>by
   by_cases hc:c=b
   ·subst hc
    unfold World.cell?
    simp only[hb]
    simp only[G.put,ep]at h
    split at h
    ·rename_i hr
     have:=d5 _ _ h
     rw[show start+(o-start)=o by omega]at this
     simpa using this
    ·simpa using fA _ _ h
   ·rw[d7 c o hc]at h
    exact NO (by simpa using hc) key (hs.imm c o x h)
  keep:=fun c x h=>key c x (hs.keep c x h) (fun e=>by rw[e]at h;simp only[G.put]at h;rw[d8]at h;cases h)
  obj:=fun j d h=>by
   by_cases hj:j=i
   ·subst hj
    rw[w6]at h;cases h
    refine .inr ⟨b,o,cap,cs,ty,?_,ff,hb,hsz,fun j hj=>?_⟩
    ·simp only[G.put,dt,bu,hv]
    ·simp only[G.put]
     rw[aE j0]
     exact h0 j (by
      have:=eA start vs.length
      omega)
   ·rw[w7 _ _ hj]at h
    have hne:blk g O j≠some b:=fun e=>hj (eU j e)
    refine((hs.obj j d h).mono d6 ?_).other (O:=O) (b:=b) h ?_ key
    ·intro sz' n' b' o' cap' e1 e2 _ j' _ fU
     rw[d7];exact fU
     rintro rfl
     exact hne (by simp[blk,h,e1,e2])
    ·have e:blk (g.put i b start k vs v) O j=blk g O j:=by
      unfold blk
      simp only[G.put,hj,dw,bc]
     rw[e];exact hne
  inj:=fun j l c h1 h2=>by
   rcases b6 j c h1 with⟨a1,a2⟩|⟨a1,a2⟩<;>rcases b6 l c h2 with⟨b1,b2⟩|⟨b1,b2⟩
   ·rw[a1,b1]
   ·exact absurd (eU l (a2 ▸ b2)) b1
   ·exact absurd (eU j (b2 ▸ a2)) a1
   ·exact hs.inj j l c a2 b2
  free:=fun j c h=>by
   rcases b6 j c h with⟨rfl,rfl⟩|⟨hj,h'⟩
   ·exact⟨d8,fun hh=>by have:=hh _ (w6 ..);cases this⟩
   ·obtain⟨h1,h2⟩:=hs.free j c h'
    refine⟨h1,fun hh o=>?_⟩
    rw[d7 c o (fun e=>hj (eU j (e ▸ h')))]
    exact h2 (fun x hx=>hh x (j2 hj hx)) o
  htop:=fun j sz' n m h hm=>by
   simp only[G.put]
   by_cases hj:j=i
   ·subst hj
    rw[w6]at h;cases h
    rw[aE j0]
    exact hg.none hs m j0
   ·rw[w7 _ _ hj]at h
    simp only[hj,dw,bc]
    exact hs.htop j sz' n m h hm
  hdom:=fun j m x h=>by
   simp only[G.put]at h⊢
   by_cases hj:j=i
   ·subst hj;simp
   ·simp only[hj,dw,bc]at h⊢
    exact hs.hdom j m x h
  io:=fZ.trans hs.io
  tab:=hs.tab
  fin:=by
   obtain⟨m,hm⟩:=hs.fin
   refine⟨max m (i+1),fun j hj=>?_⟩
   simp only[G.put]
   rw[aE j0]
   exact hm j j0 }
end
def k8:D->Option eR
 |.slice es _=>some es
 |.aj=>some []
 |_=>none
def CL{g:G}{d:D}{v:Value}{es:eR}(h:k8 d=some es)(hr:Rep g d v): ∃a cap,v=.slice a es.length cap/\es.length<=cap/\(es=[] \/ ∃sz b o,a=some ⟨b,o,none⟩/\jn g b sz o es):=by
 cases d<;>simp only[k8]at h<;>try (cases h;done)
 ·cases h;exact⟨none,0,hr,j1,.inl rfl⟩
 ·cases h;obtain⟨a,cap,h1,h2,h3,_⟩:=hr;exact⟨a,cap,h1,h2,h3⟩
section
variable {P:Program}{T T' ty e e':TypeId}{i:TypeInfo}{z:Value}(ht:P.underlying T=some (.slice e))(fq:P.underlying T'=some (.slice e'))(hi:P.info? e=some i)
include ht fq hi
theorem Bu{w w2:World}{base xa:Option Addr}{n cap m xc:Nat}{news:List Value}(fJ:(Builtin.firstCells i.size m (.slice xa m xc)).run P w=.ok news.toArray w)(b8:n+m<=cap)
  (fb:∀a,base=some a->(storeCells (a.add (n*i.size)) news).run P w=.ok () w2) (fR:base=none->w2=w) :
  (Builtin.append_ #[T,T'] ty #[.slice base n cap,.slice xa m xc]).run P w=.ok (.slice base (n+m) cap) w2:=by
 cases base with
 |none=>simp[Builtin.append_,j4 ht,j4 fq,sizeOf,typeInfo,hi,Builtin.lenOf,b8,fJ,fR rfl]
 |some a=>simp[Builtin.append_,j4 ht,j4 fq,sizeOf,typeInfo,hi,Builtin.lenOf,b8,fJ,fb a rfl]
theorem Em(hz:i.zero=some z){w:World}{base xa:Option Addr}{n cap m xc:Nat}{olds news:List Value}
  (f8:(Builtin.firstCells i.size n (.slice base n cap)).run P w.drew=.ok olds.toArray w.drew) (f9:(Builtin.firstCells i.size m (.slice xa m xc)).run P w.drew=.ok news.toArray w.drew)
  (hg:cap<n+m) (gh:n+m<=9223372036854775807) (fD:(n+m)*i.bytes<=140737488355328) :
  ∃c,n+m<=c/\(Builtin.append_ #[T,T'] ty #[.slice base n cap,.slice xa m xc]).run P w =
   .ok (.slice (some ⟨w.heap.size,0,none⟩) (n+m) c) { w.drew with heap:=w.heap.push (.cells (olds++news++(Builtin.zeroCells z.cells (c-(n+m))).toList).toArray e (0,0)) }:=by
 refine⟨grownCap w (n+m) cap e,grownCap_ge w (n+m) cap e,?_⟩;have hn:¬(n+m<=cap):=by omega
 have fE:¬(9223372036854775807<((n:Int)+(m:Int))):=by omega
 have hf:=growslice_fits hg fD;have fF:¬(281474976710656<Builtin.nextslicecap (n+m) cap*i.bytes):=by omega
 simp[Builtin.append_,j4 ht,j4 fq,sizeOf,typeInfo,zeroValue,hi,hz,Builtin.lenOf,hn,fE,fF,Question.forced,f8,f9,newRow,grownCap];have e':∀Z:Array Value,olds.toArray++(news.toArray++Z)=(olds++(news++Z.toList)).toArray:=fun Z=>by apply da;simp
 rw[e'];rfl
end
def Aq{P:Program}{w:World}{size m c:Nat}{a:Option Addr}{vs:List Value}(hl:vs.length=m*size)(h:(m=0) \/ ∃b o,a=some ⟨b,o,none⟩ /\ ∀j v,vs[j]? = some v->w.cell? ⟨b,o+j,none⟩=some v):
  (Builtin.firstCells size m (.slice a m c)).run P w=.ok vs.toArray w:=by
 rcases h with rfl|⟨b,o,rfl,h⟩
 ·have:vs=[]:=by simpa using hl
  subst this;cases a with
  |none=>exact run_firstCells_none ..
  |some a=>exact run_firstCells_some w size 0 a 0 c [] j1 (fun j v h=>by simp at h)
 ·exact run_firstCells_some w size m ⟨b,o,none⟩ m c vs hl (fun j v hj=>by rw[BQ];exact h j v hj)
def Cy{P:Program}{g:G}{O:Sig}{w:World}{es:eR}{a:Option Addr}{sz:Nat}(hs:Sim P g O w)(hlen:∀c∈es,c.length=sz)(h:es=[] \/ ∃sz b o,a=some ⟨b,o,none⟩/\jn g b sz o es):
  ∃vs,jE g es.flatten vs/\vs.length=es.length*sz/\(es.length=0 \/ ∃b o,a=some ⟨b,o,none⟩ /\ ∀j v,vs[j]? = some v->w.cell? ⟨b,o+j,none⟩=some v):=by
 rcases h with rfl|⟨sz',b,o,ha,hr⟩
 ·exact⟨[],rfl,j1,.inl rfl⟩
 ·by_cases hne:es=[]
  ·subst hne;exact⟨[],rfl,j1,.inl rfl⟩
  ·obtain rfl:=hr.size hne hlen;obtain⟨vs,h1,h2,h3⟩:=hr.values;exact⟨vs,h1,h2,.inr ⟨b,o,ha,fun j v hj=>hs.imm _ _ _ (h3 j v hj)⟩⟩
def Ge{l:eR}(h:∀c∈l,C6 c=true):C6 l.flatten=true:=by
 unfold C6 at h⊢;simp only[aW,List.mem_flatten,forall_exists_index,and_imp]at h⊢;intro d c hc hd;exact h c hc d hd
section
variable {P:Program}{ro:Ro}{n:Nat}{ops:Array Oper}{Q:DX->St->Prop}{rest:List Oper}{tab:Nat->Ty}{γ:List (Nat×D)}{O:Sig}{df:List DDf}
variable (ht:AZ P tab)
include ht
theorem Bx{T T' e e':Nat}(hk:(tab T).k=.slice e)(eV:(tab T').k=.slice e')(he:A2 (tab e).k=false):
  ∃i z,P.underlying T=some (.slice e)/\P.underlying T'=some (.slice e')/\P.info? e=some i/\i.zero=some z/\i.size=(tab e).size/\i.bytes=(tab e).bytes/\z.cells.size=(tab e).size:=by
 obtain⟨inf,desc,z,h1,h2,h3,h4,h5,h6,h7,h8,h9,_⟩:=Cx (ht e) (Ai he);refine⟨inf,z,AR ht hk,AR ht eV,h1,h7,h4,h5,?_⟩;rw[<-h8,h9];simp
theorem H6{g:G}{w:World}{T T' ty e e' i:Nat}{es new:eR}{base xa:Option Addr}{cap xc:Nat}(hs:Sim P g O w)(hk:(tab T).k=.slice e)(eV:(tab T').k=.slice e')(he:A2 (tab e).k=false)
  (hlen:∀c∈es,c.length=(tab e).size) (hlen':∀c∈new,c.length=(tab e).size)
  (h1:es=[] \/ ∃sz b o,base=some ⟨b,o,none⟩/\jn g b sz o es) (h2:new=[] \/ ∃sz b o,xa=some ⟨b,o,none⟩/\jn g b sz o new) (ff:cap<es.length+new.length)
  (hb:(es.length+new.length)*(tab e).bytes<=140737488355328) (hm:es.length+new.length<=9223372036854775807) (hg:Grows g O i (es.length+new.length)) :
  ∃g' w' v,(Builtin.append_ #[T,T'] ty #[.slice base es.length cap,.slice xa new.length xc]).run P w=.ok v w'/\g.le g'/\Sim P g' (O.set i (.tail (tab e).size (es.length+new.length))) w'/\Rep g' (.slice (es++new) (.tag i)) v:=by
 obtain⟨inf,z,t1,t2,t3,t4,t5,t6,t7⟩:=Bx ht hk eV he;obtain⟨us,u1,u2,u3⟩:=Cy (w:=w.drew) (O:=O) ⟨hs.imm,hs.keep,fun i o h=>by have:=hs.obj i o h;cases o<;>exact this,hs.inj,hs.free,hs.htop,hs.hdom,hs.fin,hs.io,hs.tab⟩ hlen h1;obtain⟨vs,v1,v2,v3⟩:=Cy (w:=w.drew) (O:=O) ⟨hs.imm,hs.keep,fun i o h=>by have:=hs.obj i o h;cases o<;>exact this,hs.inj,hs.free,hs.htop,hs.hdom,hs.fin,hs.io,hs.tab⟩ hlen' h2
 obtain⟨c,hc,fc⟩:=Em (ty:=ty) t1 t2 t3 t4 (w:=w) (base:=base) (xa:=xa) (n:=es.length) (cap:=cap) (m:=new.length) (xc:=xc) (olds:=us) (news:=vs)
  (Aq (by rw[t5];exact u2) u3) (Aq (by rw[t5];exact v2) v3) ff hm (by rw[t6];exact hb)
 have h0:∀j,0<=j->g.imm w.heap.size j=none:=by
  intro j _;cases hh:g.imm w.heap.size j with
  |none=>rfl
  |some x=>have:=Md (hs.imm _ _ _ hh);omega
 have d8:g.keep w.heap.size=none:=by
  cases hh:g.keep w.heap.size with
  |none=>rfl
  |some x=>have:=(aI.1 (hs.keep _ _ hh)).1;omega
 have fk:(us++vs).length=(es.length+new.length)*(tab e).size:=by simp[u2,v2,cp]
 have d6:=G.put_le (b:=w.heap.size) (start:=0) (vs:=us++vs) (v:=.slice (some ⟨w.heap.size,0,none⟩) (es.length+new.length) c) hs hg h0;refine⟨_,_,_,fc,d6,?_,?_⟩
 ·refine Sim.put (sz:=(tab e).size) (o:=0) (cap:=c) (cs:=(us++vs++(Builtin.zeroCells z.cells (c-(es.length+new.length))).toList).toArray) (ty:=e) hs hg h0 ?_ ?_ ?_ ?_ ?_ ?_ d8 ?_ rfl hc ?_
  ·intro k x hx _;exact jt hx
  ·simp
  ·intro o x hx;rw[h0 o j0]at hx;cases hx
  ·intro j x hx;have:j<(us++vs).length:=(aV.1 hx).1;simp only[co,dn];rw[bj this];exact hx
  ·omega
  ·simp only[List.size_toArray,aC,bB,size_zeroCells,t7,co];rw[<-aC,fk,<-cp];exact cW _ j0
  ·intro j hj;have:=hs.blk_lt hj;omega
  ·rfl
 ·refine⟨some ⟨w.heap.size,0,none⟩,c,j1,by simpa using hc,.inr ⟨(tab e).size,w.heap.size,0,rfl,?_⟩,?_⟩
  ·refine Jl (vs:=us++vs) ?_ ?_ ?_
   ·intro c gb;rcases bJ.1 gb with h|h
    ·exact hlen c h
    ·exact hlen' c h
   ·rw[bt];exact jE.mono d6 _ (u1.append v1)
   ·intro j x hx;have:j<(us++vs).length:=(aV.1 hx).1;simp only[G.put,co,cE,ep,dA];rw[aG this];exact hx
  ·simp only[aC,G.put,dt,bu]
omit ht in
theorem At{a:Act}{s x:Operand}{T T' ty:Nat}{dst:Option Tmp}{pos:String}{after:Array Edge}{guard:Option (Nat×Bool)}{w w':World}{v:Value}
  (h:(Builtin.append_ #[T,T'] ty #[a.eval s,a.eval x]).run P w=.ok v w') :
  (execOp a.eval ⟨dst,(cA s x T T'),ty,pos,after,guard⟩).run P w=.ok (.value v) w':=by
 simp[execOp,resolve,invoke,builtin,h]
theorem Ke {T T' ty e e' id:Nat} {s x:Operand} {dst:Option Tmp} {pos:String} {after:Array Edge} {guard:Option (Nat × Bool)} {es new:eR}
  (hk:(tab T).k=.slice e) (eV:(tab T').k=.slice e') (he:A2 (tab e).k=false) (h1:ev γ s=.slice es (.tag id)) (hZ:O id=some (.tail (tab e).size es.length)) (h2:k8 (ev γ x)=some new)
  (hlen:∀c∈es,c.length=(tab e).size) (hlen':∀c∈new,c.length=(tab e).size) (fC:∀c∈new,C6 c=true)
  (hb:(es.length+new.length)*(tab e).bytes<=140737488355328) (hm:es.length+new.length<=9223372036854775807) :
  ∀g w (a:Act),Sim P g O w->kA g γ n a.tmps->∃g' w' v,((execOp a.eval ⟨dst,(cA s x T T'),ty,pos,after,guard⟩).run P w=.ok (.value v) w' \/
   ((execOp a.eval ⟨dst,(cA s x T T'),ty,pos,after,guard⟩).run P w=.ok .skip w'/\v=undef))/\g.le g'/\Sim P g' (O.set id (.tail (tab e).size (es.length+new.length))) w'/\Rep g' (.slice (es++new) (.tag id)) v:=by
 intro g w a hs hT;have eX:=As hT s;have fg:=As hT x;rw[h1]at eX;obtain⟨base,cap,r1,r2,r3,r4⟩:=eX;obtain⟨xa,xc,q1,q2,q3⟩:=CL h2 fg;simp only at r4
 by_cases d5:new=[]
 ·subst d5;refine⟨g,w,a.eval s,.inl (At ?_),.refl g,?_,?_⟩
  ·obtain⟨i,z,t1,t2,t3,t4,t5,t6,t7⟩:=Bx ht hk eV he;rw[r1,q1];have:=Bu (ty:=ty) t1 t2 t3 (w:=w) (w2:=w) (base:=base) (xa:=xa) (n:=es.length) (cap:=cap) (m:=0) (xc:=xc) (news:=[]) (Aq j1 (.inl rfl)) j0 (fun b _=>by simp[storeCells,Sem.run]) (fun _=>rfl);simpa using this
  ·have e:O.set id (.tail (tab e).size (es.length+([]:eR).length))=O:=by
    funext j
    by_cases hj:j=id
    ·subst hj;rw[w6,hZ];rfl
    ·rw[w7 _ _ hj]
   rw[e];exact hs
  ·rw[bl];exact⟨base,cap,r1,r2,r3,r4⟩
 ·have fe:0 < new.length:=de.2 d5;have fh:Grows g O id (es.length+new.length):=.inr ⟨_,_,hZ,j0⟩
  by_cases b8:es.length+new.length<=cap
  ·obtain⟨i,z,t1,t2,t3,t4,t5,t6,t7⟩:=Bx ht hk eV he;rcases hs.obj _ _ hZ with⟨o1,o2⟩|⟨b,o,cap',vs,ty',o1,o2,o3,o4,o5⟩
   ·rw[r4,r1]at o1;simp only[bE,Value.slice.injEq]at o1;omega
   ·rw [r4,r1] at o1;simp only[bE,Value.slice.injEq,ep]at o1;obtain⟨rfl,rfl⟩:=o1;obtain⟨us,v1,v2,v3⟩:=Cy hs hlen' q3;have fi:us.length=new.length*(tab e).size:=v2;have fb:o+es.length*(tab e).size+us.length=o+(es.length+new.length)*(tab e).size:=by rw[fi,cp];omega
    have fK:(es.length+new.length)*(tab e).size<=cap*(tab e).size:=cW _ b8;have fO:=BS (P:=P) us 0 w vs o3 (Dw v1 (Ge fC)) (o:=o+es.length*(tab e).size) j0;have b6:blk g O id=some b:=by simp[blk,hZ,r4,r1]
    have h0:∀j,o+es.length*(tab e).size<=j->g.imm b j=none:=o5;have d6:=G.put_le (b:=b) (start:=o+es.length*(tab e).size) (vs:=us) (v:=.slice (some ⟨b,o,none⟩) (es.length+new.length) cap) hs fh h0
    have fc:=Bu (ty:=ty) t1 t2 t3 (w:=w) (base:=some ⟨b,o,none⟩) (xa:=xa) (n:=es.length) (cap:=cap) (m:=new.length) (xc:=xc) (news:=us) (w2:=if us=[] then w else setB w b (.cells (Bt vs (o+es.length*(tab e).size) us) ty' (0,0)))
     (Aq (by rw[t5];exact v2) v3) b8 (fun a ha=>by cases ha;rw[BQ,t5];simpa using fO) (fun h=>by cases h)
    have b9:(if us=[] then w else setB w b (.cells (Bt vs (o+es.length*(tab e).size) us) ty' (0,0))).heap[b]? = some (.cells (Bt vs (o+es.length*(tab e).size) us) ty' (0,0)):=by
     by_cases hu:us=[]
     ·rw[aG hu,hu];exact o3
     ·rw[aE hu,Fl o3]
    have fy:∀c x,w.heap[c]? = some x->c≠b->(if us=[] then w else setB w b (.cells (Bt vs (o+es.length*(tab e).size) us) ty' (0,0))).heap[c]? = some x:=by
     intro c x hx hc
     by_cases hu:us=[]
     ·rw[aG hu];exact hx
     ·rw[aE hu,Fk hc];exact hx
    have fG:=Dp us vs (o+es.length*(tab e).size);refine⟨_,_,_,.inl (At (by rw[r1,q1];exact fc)),d6,?_,?_⟩
    ·refine Sim.put (sz:=(tab e).size) (o:=o) (cap:=cap) hs fh h0 fy b9 ?_ ?_ fb (by rw[D2];exact o4) (hs.free id b b6).1 (fun j hj=>hs.inj j id b hj b6) rfl b8 ?_
     ·intro j x hx;rw[fG j j0]
      have fY:j<o+es.length*(tab e).size:=by
       rcases ce j (o+es.length*(tab e).size)with h|h
       ·exact h
       ·rw[h0 j h]at hx;cases hx
      rw[aE j0];have:=hs.imm b j x hx;simpa[World.cell?, o3] using this
     ·intro j x hx;have hj:j<us.length:=(aV.1 hx).1;rw[fG _ j0,aG j0]
      rwa [show o+es.length*(tab e).size+j-(o+es.length*(tab e).size)=j by omega]
     ·split<;>rfl
    ·refine⟨some ⟨b,o,none⟩,cap,j1,by simpa using b8,.inr ⟨(tab e).size,b,o,rfl,?_⟩,?_⟩
     ·refine jn.append ?_ ?_
      ·rcases r3 with rfl|⟨sz',b',o',e1,e2⟩
       ·trivial
       ·cases e1
        by_cases hne:es=[]
        ·subst hne;trivial
        ·obtain rfl:=e2.size hne hlen;exact jn.mono d6 _ e2
      ·refine Jl (vs:=us) hlen' (jE.mono d6 _ v1) fun j x hx=>?_;have hj:j<us.length:=(aV.1 hx).1;simp only[G.put,ep];rw[aG j0]
       rwa [show o+es.length*(tab e).size+j-(o+es.length*(tab e).size)=j by omega]
     ·simp only[aC,G.put,dt,bu]
  ·obtain⟨g',w',v,s1,s2,s3,s4⟩:=H6 (ty:=ty) (i:=id) (base:=base) (xa:=xa) (cap:=cap) (xc:=xc) ht hs hk eV he hlen hlen' r3 q3 j0 hb hm fh;exact⟨g',w',v,.inl (At (by rw[r1,q1];exact s1)),s2,s3,s4⟩
theorem OB{t T T' ty e e' id:Nat}{s x:Operand}{pos:String}{after:Array Edge}{guard:Option (Nat×Bool)}{es new:eR}
  (hw:AJ ops γ ⟨some t,(cA s x T T'),ty,pos,after,guard⟩=some true) (eY:t<n)
  (hk:(tab T).k=.slice e) (eV:(tab T').k=.slice e') (he:A2 (tab e).k=false) (h1:ev γ s=.slice es (.tag id)) (hZ:O id=some (.tail (tab e).size es.length)) (h2:k8 (ev γ x)=some new)
  (hlen:∀c∈es,c.length=(tab e).size) (hlen':∀c∈new,c.length=(tab e).size) (fC:∀c∈new,C6 c=true)
  (hb:(es.length+new.length)*(tab e).bytes<=140737488355328) (hm:es.length+new.length<=9223372036854775807)
  (h:au P ro n ops Q rest ⟨(t,.slice (es++new) (.tag id))::γ,O.set id (.tail (tab e).size (es.length+new.length)),df⟩) :
  au P ro n ops Q (⟨some t,(cA s x T T'),ty,pos,after,guard⟩::rest) ⟨γ,O,df⟩:=by
 refine Fz (d:=.slice (es++new) (.tag id)) (U':=O.set id (.tail (tab e).size (es.length+new.length))) hw (fun c e=>by cases e) (Bl rfl rfl) (Ke ht hk eV he h1 hZ h2 hlen hlen' fC hb hm) (by simp[Ax,eY]) h
end
def Sub(U' O:Sig):Prop:= ∀i o,U' i=some o->O i=some o
def Sub.refl(O:Sig):Sub O O:=fun _ _ h=>h
def Sub.trans{a b c:Sig}(h:Sub a b)(k:Sub b c):Sub a c:=fun i o x=>k i o (h i o x)
def Sub.set{a b:Sig}{i:Nat}{o:jP}(h:Sub a b)(hi:a i=none):Sub a (b.set i o):=fun j x hx=>by
 by_cases hj:j=i
 ·subst hj;rw[hi]at hx;cases hx
 ·rw[w7 _ _ hj];exact h j x hx
def Sub.both{a b:Sig}{i:Nat}{o:jP}(h:Sub a b):Sub (a.set i o) (b.set i o):=fun j x hx=>by
 by_cases hj:j=i
 ·subst hj;rw[w6]at hx⊢; exact hx
 ·rw[w7 _ _ hj]at hx⊢; exact h j x hx
def Sub.none{a b:Sig}{i:Nat}(h:Sub a b)(hb:b i=none):a i=none:=by
 cases ha:a i with
 |none=>rfl
 |some o=>rw[h i o ha]at hb;cases hb
def Sig.set_comm(O:Sig){i j:Nat}(o o':jP)(h:i≠j):(O.set i o).set j o'=(O.set j o').set i o:=by
 funext k
 by_cases h1:k=i
 ·subst h1;simp[Sig.set,h]
 ·by_cases h2:k=j
  ·subst h2;simp[Sig.set,cg h]
  ·simp[Sig.set,h1,h2]
def OH{g:G}{O U':Sig}(h:Sub U' O){i b:Nat}(hb:blk g U' i=some b):blk g O i=some b /\ ∃o,U' i=some o/\O i=some o:=by
 cases hi:U' i with
 |none=>simp[blk,hi]at hb
 |some o=>
  have:=h i o hi;refine⟨?_,o,rfl,this⟩;unfold blk at hb⊢;rw[hi]at hb;rw[this];exact hb
def Sim.sub{P:Program}{g:G}{O U':Sig}{w:World}(hs:Sim P g O w)(h:Sub U' O):Sim P g U' w where
 imm:=hs.imm
 keep:=hs.keep
 obj:=fun i o x=>hs.obj i o (h i o x)
 inj:=fun i j b h1 h2=>hs.inj i j b (OH h h1).1 (OH h h2).1
 free:=fun i b hb=>by
  obtain⟨h1,o,h2,h3⟩:=OH h hb;obtain⟨f1,f2⟩:=hs.free i b h1;exact⟨f1,fun hh=>f2 fun x hx=>by rw[h3]at hx;cases hx;exact hh _ h2⟩
 htop:=fun i sz n k x hk=>hs.htop i sz n k (h i _ x) hk
 hdom:=hs.hdom
 io:=hs.io
 tab:=hs.tab
 fin:=hs.fin
def VH{P:Program}{n:Nat}{γ V':Fr}{O U':Sig}{df:List DDf}(h:Tells γ V')(hZ:Sub U' O):Wk P n { γ,O,df } { γ:=V',O:=U',df }:=
 fun g w a hs=>⟨g,.refl g,⟨hs.sim.sub hZ,⟨hs.tmps.1,fun t=>h.get t g _ (hs.tmps.2 t)⟩,hs.df⟩⟩
section
variable {P:Program}{ro:Ro}{n:Nat}{Q:DX->St->Prop}{s:St}
theorem Vd{c:Code}(h:DWp P ro n c (fun x s=> ∃s',Wk P n s s'/\Q x s') s):DWp P ro n c Q s:=fun g w a r hr hs=>
 dc (h g w a r hr hs) fun _ _ _ ⟨g1,s1,x,h1,h2,h3,s',hw,hq⟩=>
  let ⟨g2,l2,fN⟩:=hw g1 _ _ h2
  ⟨g2,s',x,h1.trans l2,fN,h3.mono l2,hq⟩
theorem ND{c:Code}(h:∀g w a,kI P g n s a w->∃g' s',g.le g'/\kI P g' n s' a w/\DWp P ro n c Q s'):DWp P ro n c Q s:=fun g w a r hr hs=>
 let ⟨g',_,l,fw,k⟩:=h g w a hs
 dc (k g' w a r (hr.mono l) fw) fun _ _ _ p=>p.le l
end
def Weak(R:DE->Sig->Prop)(x:DE)(O:Sig):Prop:= ∃x' U',(match x,x' with
  |.ret d,.ret d'=>WkD d d'
  |.panic d,.panic d'=>WkD d d'
  |_,_=>False)/\Sub U' O/\R x' U'
def Fg{R:DE->Sig->Prop}{x:DE}{O:Sig}(h:R x O):Weak R x O:=⟨x,O,by cases x<;>exact Ac _,.refl _,h⟩
def Ii{P:Program}{f:Nat}{args:eO}{O:Sig}{R:DE->Sig->Prop}(h:ar P f args O (Weak R)):ar P f args O R:=
 ⟨h.lt,h.ent,fun g w vs hs ha=>(h.run g w vs hs ha).mono fun _ _ ⟨g',x,U',h1,h2,h3,x',S'',hm,fa,hR⟩=>by
  refine⟨g',x',S'',h1,h2.sub fa,?_,hR⟩
  cases x<;>cases x'<;>simp only at hm
  ·obtain⟨v,e,hv⟩:=h3;exact⟨v,e,hm _ _ hv⟩
  ·obtain⟨v,e,hv⟩:=h3;exact⟨v,e,hm _ _ hv⟩⟩
def OD{P:Program}{ro:Ro}{f:Nat}{args:eO}{O:Sig}{R:DE->Sig->Prop}(h:kU P ro f args O (Weak R)):kU P ro f args O R:=
 ⟨h.lt,h.ent,fun g w vs r fQ hs ha=>(h.run g w vs r fQ hs ha).mono fun _ _ ⟨g',x,U',h1,h2,h3,x',S'',hm,fa,hR⟩=>by
  refine⟨g',x',S'',h1,h2.sub fa,?_,hR⟩
  cases x<;>cases x'<;>simp only at hm
  ·obtain⟨v,e,hv⟩:=h3;exact⟨v,e,hm _ _ hv⟩
  ·obtain⟨v,e,hv⟩:=h3;exact⟨v,e,hm _ _ hv⟩⟩
def DR(P:Program)(n:Nat)(fn:Func)(R:DE->Sig->Prop)(x:DX)(s:St):Prop:= ∃s',Wk P n s s'/\VF P n fn (Weak R) x s'
def Mb{P:Program}{f:Nat}{fn:Func}{c:Code}{args:eO}{O:Sig}{R:DE->Sig->Prop}(hf:P.funcs[f]? = some fn)(hb:fn.body=some c)
  (fB : (fn.name == "runtime.NumGoroutine") = false) {m : Nat} (hm : fn.ntmps = m) (hn : args.length <= m) (h : DWp P .none m c (DR P m fn R) { γ := BV 0 args, O }) : ar P f args O R :=
 Ii (NL hf hb fB hm hn (Vd h))
def Kp{P:Program}{f:Nat}{fn:Func}{c:Code}{args:eO}{O:Sig}{R:DE->Sig->Prop}(hf:P.funcs[f]? = some fn)(hb:fn.body=some c)
  (fB : (fn.name == "runtime.NumGoroutine") = false) {m : Nat} (hm : fn.ntmps = m) (hn : args.length <= m) (h : DWp P .wide m c (DR P m fn R) { γ := BV 0 args, O }) : Fd P f args O R :=
 OD (Mc hf hb fB hm hn (Vd h))
def V9{P:Program}{n:Nat}{fn:Func}{R:DE->Sig->Prop}{γ:Fr}{O U':Sig}{d:D}(hZ:Sub U' O)(hR:R (.panic d) U'):DR P n fn R (.panic d) ⟨γ,O,[]⟩:=
 ⟨⟨γ,U',[]⟩,fun g _ _ hs=>⟨g,.refl g,⟨hs.sim.sub hZ,hs.tmps,hs.df⟩⟩,rfl,Fg hR⟩
def Sim.tagNil{P:Program}{g:G}{O:Sig}{w:World}{i sz:Nat}(hs:Sim P g O w)(hi:g.rho i=none)(hZ:O i=none):
  g.le (g.put i 0 0 0 [] (.slice none 0 0))/\Sim P (g.put i 0 0 0 [] (.slice none 0 0)) (O.set i (.tail sz 0)) w:=by
 have hg:Grows g O i 0:=.inl ⟨hi,hZ⟩
 have d7:∀b o,(g.put i 0 0 0 [] (.slice none 0 0)).imm b o=g.imm b o:=by
  intro b o;simp only[G.put,cu];rw[aE j0]
 have d6:g.le (g.put i 0 0 0 [] (.slice none 0 0)):=
  {imm:=fun b o v h=>by rw[d7];exact h
   rho:=fun j c h=>by
    simp only[G.put]
    by_cases hj:j=i
    ·subst hj;rw[hi]at h;cases h
    ·rw[aE hj];exact h
   hist:=fun j m x h=>by
    simp only[G.put]
    rw[aE];exact h
    rintro⟨rfl,rfl⟩
    rw[hg.none hs _ (bU _)]at h;cases h
   keep:=fun _ _ h=>h,io:=rfl }
 have b6:∀j c,blk (g.put i 0 0 0 [] (.slice none 0 0)) (O.set i (.tail sz 0)) j=some c->j≠i/\blk g O j=some c:=by
  intro j c h
  by_cases hj:j=i
  ·subst hj;simp[blk,w6,G.put]at h
  ·refine⟨hj,?_⟩;unfold blk at h⊢;rw[w7 _ _ hj]at h;simp only[G.put,hj,dw,bc]at h;exact h
 refine⟨d6,?_⟩
 exact {
  imm:=fun b o v h=>by rw[d7]at h;exact hs.imm b o v h
  keep:=hs.keep
  obj:=fun j d h=>by
   by_cases hj:j=i
   ·subst hj
    rw[w6]at h;cases h
    exact .inl ⟨by simp[G.put],rfl⟩
   ·rw[w7 _ _ hj]at h
    exact(hs.obj j d h).mono d6 fun _ _ _ _ _ _ _ _ _ _ hn=>by rw[d7];exact hn
  inj:=fun j l c h1 h2=>hs.inj j l c (b6 j c h1).2 (b6 l c h2).2
  free:=fun j c h=>by
   obtain⟨hj,h'⟩:=b6 j c h
   obtain⟨h1,h2⟩:=hs.free j c h'
   refine⟨h1,fun hh o=>?_⟩
   rw[d7]
   exact h2 (fun x hx=>hh x (j2 hj hx)) o
  htop:=fun j sz' n m h hm=>by
   simp only[G.put]
   by_cases hj:j=i
   ·subst hj
    rw[w6]at h;cases h
    rw[aE j0]
    exact hg.none hs m j0
   ·rw[w7 _ _ hj]at h
    simp only[hj,dw,bc]
    exact hs.htop j sz' n m h hm
  hdom:=fun j m x h=>by
   simp only[G.put]at h⊢
   by_cases hj:j=i
   ·subst hj;simp
   ·simp only[hj,dw,bc]at h⊢
    exact hs.hdom j m x h
  io:=hs.io
  tab:=hs.tab
  fin:=by
   obtain⟨m,hm⟩:=hs.fin
   refine⟨max m (i+1),fun j hj=>?_⟩
   simp only[G.put]
   rw[aE j0]
   exact hm j j0 }
def I7{g:G}{i b:Nat}:Rep (g.put i b 0 0 [] (.slice none 0 0)) (.slice [] (.tag i)) (.slice none 0 0):=
 ⟨none,0,rfl,j1,.inl rfl,by simp[G.put]⟩
section
variable {P:Program}{ro:Ro}{n:Nat}{ops:Array Oper}{Q:DX->St->Prop}{rest:List Oper}{tab:Nat->Ty}{γ:List (Nat×D)}{O:Sig}{df:List DDf}
theorem W1{g:G}{w:World}{a:Act}{t sz i:Nat}(hs:kI P g n ⟨γ,O,df⟩ a w)(h:getD γ t=.aj)(hi:g.rho i=none)(hZ:O i=none):
  g.le (g.put i 0 0 0 [] (.slice none 0 0))/\kI P (g.put i 0 0 0 [] (.slice none 0 0)) n ⟨(t,.slice [] (.tag i))::γ,O.set i (.tail sz 0),df⟩ a w:=by
 obtain⟨h1,h2⟩:=hs.sim.tagNil (sz:=sz) hi hZ;refine⟨h1,⟨h2,⟨hs.tmps.1,fun k=>?_⟩,hs.df.mono h1⟩⟩;rw[A8]
 by_cases hk:k=t
 ·rw[aG hk,hk];have:=hs.tmps.2 t;rw[h]at this;rw[show a.tmps.getD t undef=.slice none 0 0 from this];exact I7
 ·rw[aE hk];exact Rep.mono h1 _ (hs.tmps.2 k)
theorem dwp_tag{c:Code}(t sz:Nat)(ht:getD γ t=.aj)(h:∀i,O i=none->DWp P ro n c Q ⟨(t,.slice [] (.tag i))::γ,O.set i (.tail sz 0),df⟩):DWp P ro n c Q ⟨γ,O,df⟩:=
 ND fun g w a hs=>by
  obtain⟨i,hi,hZ⟩:=hs.sim.fresh;obtain⟨h1,h2⟩:=W1 (t:=t) (sz:=sz) hs ht hi hZ;exact⟨_,_,h1,h2,h i hZ⟩
variable (ht:AZ P tab)
include ht
theorem Gi{t T T' ty e e':Nat}{s x:Operand}{pos:String}{after:Array Edge}{guard:Option (Nat×Bool)}{es new:eR}
  (hw:AJ ops γ ⟨some t,(cA s x T T'),ty,pos,after,guard⟩=some true) (eY:t<n)
  (hk:(tab T).k=.slice e) (eV:(tab T').k=.slice e') (he:A2 (tab e).k=false) (h1:(ev γ s=.aj/\es=[])\/(ev γ s=.slice es .clip/\new≠[])) (h2:k8 (ev γ x)=some new)
  (hlen:∀c∈es,c.length=(tab e).size) (hlen':∀c∈new,c.length=(tab e).size)
  (hb:(es.length+new.length)*(tab e).bytes<=140737488355328) (hm:es.length+new.length<=9223372036854775807)
  (h:∀i,O i=none->au P ro n ops Q rest ⟨(t,.slice (es++new) (.tag i))::γ,O.set i (.tail (tab e).size (es.length+new.length)),df⟩) :
  au P ro n ops Q (⟨some t,(cA s x T T'),ty,pos,after,guard⟩::rest) ⟨γ,O,df⟩:=by
 intro g w a r hr hs;unfold wpListIn;rw[AW hs.tmps hw,aG rfl];refine⟨fun f hf=>(Bl rfl rfl _ _ f hf).elim,?_⟩;obtain⟨i,hi,hZ⟩:=hs.sim.fresh
 have key:∃g' w' v,(Builtin.append_ #[T,T'] ty #[a.eval s,a.eval x]).run P w=.ok v w'/\g.le g'/\Sim P g' (O.set i (.tail (tab e).size (es.length+new.length))) w'/\Rep g' (.slice (es++new) (.tag i)) v:=by
  have eX:=As hs.tmps s;obtain⟨xa,xc,q1,q2,q3⟩:=CL h2 (As hs.tmps x);have fh:Grows g O i (es.length+new.length):=.inl ⟨hi,hZ⟩;rcases h1 with⟨h1,rfl⟩|⟨h1,hne⟩
  ·rw[show ev (St.mk γ O df).γ s=.aj from h1]at eX;have eX:a.eval s=.slice none 0 0:=eX
   by_cases d5:new=[]
   ·subst d5;obtain⟨inf,z,t1,t2,t3,t4,t5,t6,t7⟩:=Bx ht hk eV he;obtain⟨l1,l2⟩:=hs.sim.tagNil (sz:=(tab e).size) hi hZ;refine⟨_,w,.slice none 0 0,?_,l1,l2,?_⟩
    ·rw[eX,q1];exact Bu (ty:=ty) t1 t2 t3 (w:=w) (w2:=w) (base:=none) (xa:=xa) (n:=0) (cap:=0) (m:=0) (xc:=xc) (news:=[]) (Aq j1 (.inl rfl)) j0 (fun b _=>by simp[storeCells,Sem.run]) (fun _=>rfl)
    ·exact I7
   ·have fe:0<new.length:=de.2 d5;rw[eX,q1];exact H6 (es:=[]) (base:=none) (cap:=0) ht hs.sim hk eV he j1 hlen' (.inl rfl) q3 (by simpa using fe) hb hm fh
  ·rw[show ev (St.mk γ O df).γ s=.slice es .clip from h1]at eX;obtain⟨base,cap,r1,r2,r3,r4⟩:=eX;simp only at r4;subst r4;have fe:0<new.length:=de.2 hne;rw[r1,q1];exact H6 ht hs.sim hk eV he hlen hlen' r3 q3 j0 hb hm fh
 obtain⟨g',w',v,k1,k2,k3,k4⟩:=key;rw[cX _ _ _ (fun c e=>by cases e),At k1];exact AO k2 _ (h i hZ g' w' _ r (hr.mono k2) (hs.put (o:=⟨some t,(cA s x T T'),ty,pos,after,guard⟩) k2 k3 k4 (by simp[Ax,eY])))
end
end Go.DL
