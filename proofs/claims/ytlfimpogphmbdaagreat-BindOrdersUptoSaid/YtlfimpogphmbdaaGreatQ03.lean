/- A part of the proof. -/
import Derived.Test.YtlfimpogphmbdaaGreatQ02
import Derived.OrdersIn
import Derived.Still
set_option linter.all false
namespace Go.DL
open Go
def ORun(P:Program)(g:G)(V:Sig)(d:D)(s:Sem Next)(w:World):Prop:=
 ∃g' w' v,s.run P w=.ok (.value v) w'/\g.le g'/\Sim P g' V w'/\Rep g' d v
theorem ORun.of{P:Program}{g:G}{V:Sig}{d:D}{s:Sem Value}{w:World}(h:PRun P g V d s w):ORun P g V d (do pure (.value (<-s))) w:=
 let ⟨g',w',v,h1,h2,h3,h4⟩:=h
 ⟨g',w',v,by simp only[aU,h1,aK,bf],h2,h3,h4⟩
theorem Aw{P:Program}{g:G}{V:Sig}{d:D}{s:Sem Value}{w:World}{v:Value}(hs:Sim P g V w)(h:s.run P w=.ok v w)(hr:Rep g d v):PRun P g V d s w:=
 ⟨g,w,v,h,.refl g,hs,hr⟩
theorem El{α:Type}{c:Prop}[Decidable c]{x y:α}(h:(if c then some x else none)=some y):c/\x=y:=by
 split at h
 ·rename_i hc;cases h;exact⟨hc,rfl⟩
 ·cases h
theorem BF{α:Type}{c:Prop}[Decidable c]{x:Option α}{y:α}(h:(if c then none else x)=some y): ¬c/\x=some y:=by
 split at h
 ·cases h
 ·rename_i hc;exact⟨hc,h⟩
section
variable {P:Program}{tab:Nat->Ty}(ht:Bs P tab){g:G}{V:Sig}{w:World}(hs:Sim P g V w)
include ht hs
theorem Tf{t:Nat}{cs:fE}{off:Nat}{d:D}{vs:List Value}(hk:A6 (tab t).k=false)(h:Mh (tab t) cs off=some d)(hr:RepL g cs vs):
  PRun P g V d (part t vs.toArray off) w:=by
 have hl:=RepL.length hr
 unfold Mh at h
 unfold PRun part
 simp only[aU,Jo (ht t) (Aj hk),aK]
 by_cases ha:(tab t).agg=true
 ·rw[aS ha]at h⊢
  obtain⟨gF,rfl⟩:=El h
  refine⟨g,w,.agg (vs.toArray.extract off (off+(tab t).size)),by simp only[aU,B9 (ht t) (Aj hk),aK,bf],.refl g,hs,(vs.drop off).take (tab t).size,by simp,?_⟩
  refine Bf (by simp;omega) fun j x y hx hy=>?_
  rw[dv]at hx hy
  split at hx
  ·rename_i hj
   simp only[hj,bp,cH]at hx hy
   have:=RepL.get hr (off+j)
   rw[hx,hy]at this
   exact this
  ·cases hx
 ·simp only[ca]at ha
  simp only[ha,bj,bd]at h⊢
  have hj:off<vs.length:=by
   have:=(bn.1 h).1;omega
  have hv:vs.toArray[off]? = some vs[off]:=by simp[hj]
  refine⟨g,w,vs[off],by rw[hv];rfl,.refl g,hs,?_⟩
  have:=RepL.get hr off
  rw[h,aM hj]at this
  exact this
theorem KF{s f off ft:Nat}{fs:List (Nat×Nat)}{x:Value}{d d':D}(hk:(tab s).k=.struct fs)(hf:fs[f]? = some (off,ft))(h1:A6 (tab ft).k=false)(h2:(tab ft).size≠0)
  (hx:Rep g d x) (hd:shiftD d off=some d'):PRun P g V d' (Instr.fieldAt s x f) w:=by
 obtain⟨l,fQ,f6⟩:=HS ht hk
 have e9:(l.toList.map (fun f=>(f.offset,f.type)))[f]? = some (off,ft):=by rw[f6];exact hf
 rw[bD]at e9
 obtain⟨fld,f7,he⟩:=cq.1 e9
 cases he
 have d9:l[f]? = some fld:=by rw[<-f7];simp
 cases d<;>simp only[shiftD,bq,reduceCtorEq]at hd<;>subst hd
 case am cs o=>
  obtain⟨b,o',rfl,hr⟩:=hx
  refine Aw hs (v:=.pointer (some ⟨b,o'+(o+fld.offset),none⟩)) ?_ ⟨b,o',rfl,hr⟩
  simp only[Instr.fieldAt,aU,A3 fQ,aK,d9,Instr.sureAddr,bf,GB ht h1 h2,ci]
 case ptr i o=>
  obtain⟨b,hb,rfl⟩:=hx
  refine Aw hs (v:=.pointer (some ⟨b,o+fld.offset,none⟩)) ?_ ⟨b,hb,rfl⟩
  simp only[Instr.fieldAt,aU,A3 fQ,aK,d9,Instr.sureAddr,bf,GB ht h1 h2]
theorem JP{t e:Nat}{es:fH}{own:Own}{k:IntKind}{n:Int}{c:fE}{x:Value}(hk:(tab t).k=.slice e)(he:A6 (tab e).k=false)
  (hx:Rep g (.slice es own) x) (h0:0<=n) (hc:es[n.toNat]? = some c) (hl:c.length=(tab e).size):PRun P g V (.am c 0) (Instr.indexAt t x (.int k n)) w:=by
 obtain⟨a,cap,rfl,gA,hr,_⟩:=hx
 rcases hr with rfl|⟨sz,b,o,rfl,hr⟩
 ·simp at hc
 obtain⟨h1,h2⟩:=RepE.get ht hr hc
 have f0:n.toNat<es.length:=(bn.1 hc).1
 refine Aw hs (v:=.pointer (some ⟨b,o+n.toNat*sz,none⟩)) ?_ ⟨b,o+n.toNat*sz,rfl,h2⟩
 have d6:0<=n/\n<(es.length:Int):=⟨h0,by omega⟩
 simp only[Instr.indexAt,aU,asIntOf,bf,aK,A3 (Bc ht hk),d6,dy,bp,B9 (ht e) (Aj he),Cc]
 rw[<-hl,h1]
theorem KE{t e id off len cap:Nat}{k:IntKind}{n:Int}{x:Value}(hk:(tab t).k=.slice e)(he:A6 (tab e).k=false)
  (hx:Rep g (.ap id off len cap) x) (h0:0<=n/\n.toNat<len):PRun P g V (.ptr id (off+n.toNat*(tab e).size)) (Instr.indexAt t x (.int k n)) w:=by
 obtain⟨b,hb,rfl⟩:=hx
 refine Aw hs (v:=.pointer (some ⟨b,off+n.toNat*(tab e).size,none⟩)) ?_ ⟨b,hb,rfl⟩
 have d6:0<=n/\n<(len:Int):=⟨h0.1,by omega⟩
 simp only[Instr.indexAt,aU,asIntOf,bf,aK,A3 (Bc ht hk),d6,dy,bp,B9 (ht e) (Aj he),Cc]
theorem JQ{t len e:Nat}{d d':D}{k:IntKind}{n:Int}{x:Value}(hk:(tab t).k=.array len e)(he:A6 (tab e).k=false)
  (hx:Rep g d x) (h0:0<=n/\n.toNat<len)
  (hd:shiftD d (n.toNat*(tab e).size)=some d'):PRun P g V d' (Instr.indexAt t x (.int k n)) w:=by
 have d6:0<=n/\n<(len:Int):=⟨h0.1,by omega⟩
 cases d<;>simp only[shiftD,bq,reduceCtorEq]at hd<;>subst hd
 case am cs o=>
  obtain⟨b,o',rfl,hr⟩:=hx
  refine Aw hs (v:=.pointer (some ⟨b,o'+(o+n.toNat*(tab e).size),none⟩)) ?_ ⟨b,o',rfl,hr⟩
  simp only[Instr.indexAt,Instr.sureAddr,aU,asIntOf,bf,aK,A3 (Jd ht hk),d6,dy,bp,B9 (ht e) (Aj he),Cc,ci]
 case ptr i o=>
  obtain⟨b,hb,rfl⟩:=hx
  refine Aw hs (v:=.pointer (some ⟨b,o+n.toNat*(tab e).size,none⟩)) ?_ ⟨b,hb,rfl⟩
  simp only[Instr.indexAt,Instr.sureAddr,aU,asIntOf,bf,aK,A3 (Jd ht hk),d6,dy,bp,B9 (ht e) (Aj he),Cc]
end
theorem T1(off:Nat): ∀(vs:List Value) (j:Nat) (cs:Array Value),off+j+vs.length<=cs.size->
  ((vs.zipIdx j).foldl (fun (cs:Array Value) (p:Value×Nat)=>cs.setIfInBounds (off+p.2) p.1) cs).toList=cs.toList.take (off+j)++vs++cs.toList.drop (off+j+vs.length):=by
 intro vs
 induction vs with
 |nil=>intro j cs _;simp
 | cons x vs ih =>
  intro j cs h
  simp only[aP]at h
  simp only[List.zipIdx_cons,dz]
  rw[ih (j+1) _ (by simp;omega)]
  apply dN
  intro i
  simp only[Array.toList_setIfInBounds,cL,aH,cj,ce,bN,aP,dv,cH,dB,List.getElem?_cons]
  have e1:min (off+(j+1)) cs.size=off+j+1:=by omega
  have e2:min (off+j) cs.size=off+j:=by omega
  rw[e1,e2]
  by_cases h1:i<off+j
  ·have:i<off+j+1+vs.length:=by omega
   have h3:i<off+j+1:=by omega
   have h4:i<off+j+(vs.length+1):=by omega
   have h5:i<off+(j+1):=by omega
   have h6:¬off+j=i:=by omega
   simp[h1,this,h3,h4,h5,h6]
  ·by_cases h2:i=off+j
   ·subst h2
    have:off+j<off+(j+1):=by omega
    have h7:off+j<cs.size:=by omega
    have h8:¬off+j+1+vs.length<=off+j:=by omega
    simp[this,h7,h8]
   ·have h3:¬i<off+j+1:=by omega
    by_cases h4:i<off+j+1+vs.length
    ·have h5:i<off+j+(vs.length+1):=by omega
     have h6:¬i-(off+j)=0:=by omega
     simp only[h4,bp,h3,bd,h5,h1,h6]
     congr 1
    ·have h5:¬i<off+j+(vs.length+1):=by omega
     simp only[h4,bd,h5]
     have e3:off+(j+1)+vs.length+(i-(off+j+1+vs.length))=i:=by omega
     have e4:off+j+(vs.length+1)+(i-(off+j+(vs.length+1)))=i:=by omega
     have h6:¬off+j=i:=by omega
     rw[e3,e4]
     simp[h6]
theorem U3{sz:Nat}: ∀(ps:List (Nat×Value)) (k:Nat) (cells:Array Value),ps.map (·.1)=List.range' k ps.length->(∀p∈ps,p.2.cells.size=sz)->(k+ps.length)*sz=cells.size->
  Instr.fill (fun i=>some (i*sz,sz)) cells ps=some ((cells.toList.take (k*sz))++(ps.flatMap fun p=>p.2.cells.toList)).toArray:=by
 intro ps
 induction ps with
 |nil=>
  intro k cells _ _ h
  simp only[Instr.fill,eC,bb]
  rw[bA (by simp at h⊢; omega)]
 | cons p ps ih =>
  intro k cells hm fV h
  obtain⟨i,v⟩:=p
  simp only[ba,aP,List.range'_succ,cD]at hm
  obtain⟨rfl,hm⟩:=hm
  have hv:v.cells.size=sz:=fV (i,v) (by simp)
  simp only[aP]at h
  have e1:(i+(ps.length+1))*sz=i*sz+(ps.length+1)*sz:=co _ _ _
  have e2:(ps.length+1)*sz=ps.length*sz+sz:=by rw[co,ew]
  have e3:(i+1)*sz=i*sz+sz:=by rw[co,ew]
  have e4:(i+1+ps.length)*sz=cells.size:=by rw[<-h];congr 1;omega
  have h1:¬(v.cells.size≠sz||decide (i*sz+v.cells.size>cells.size))=true:=by
   simp[hv];omega
  simp only[Instr.fill,h1,bd]
  have fW:=T1 (i*sz) v.cells.toList 0 cells (by simp[hv];omega)
  obtain⟨c2,gj⟩:∃c2,v.cells.zipIdx.foldl (fun (cs:Array Value) (p:Value×Nat)=>cs.setIfInBounds (i*sz+p.2) p.1) cells=c2:=⟨_,rfl⟩
  have gh:c2.toList=cells.toList.take (i*sz)++v.cells.toList++cells.toList.drop (i*sz+sz):=by
   rw[<-gj,<-fb,Array.toList_zipIdx,fW]
   simp[hv]
  have hl:c2.size=cells.size:=by
   have:=bF List.length gh
   simp[hv]at this
   omega
  have:=ih (i+1) c2 hm (fun p hp=>fV p (by simp[hp])) (by rw[e4,hl])
  rw[show(v.cells.zipIdx.foldl (fun cs x=>match x with|(c,j)=>cs.setIfInBounds (i*sz+j) c) cells)=c2 from gj,this]
  congr 2
  rw[gh,e3]
  simp only[cz]
  have e5:(cells.toList.take (i*sz)).length=i*sz:=by simp;omega
  rw[aT,List.take_append,bA (by omega),e5,List.take_append]
  simp[hv,show i*sz+sz-i*sz=sz by omega,bA]
theorem Qt(k:Nat): ∀(l:List (List Value)),(∀e∈l,e.length=k)->∀(i j:Nat) e,l[i]? = some e->j<k->l.flatten[i*k+j]? = e[j]?
 |[],_,i,j,e,h,_=>by simp at h
 |x::l,hl,0,j,e,h,hj=>by
  simp at h;subst h
  have:=hl x (by simp)
  simp[cL,this,hj]
 |x::l,hl,i+1,j,e,h,hj=>by
  have hx:=hl x (by simp)
  have:=Qt k l (fun y hy=>hl y (by simp[hy])) i j e (by simpa using h) hj
  have e2:(i+1)*k=i*k+k:=by rw[co,ew]
  simp only[cy,cL]
  rw[aN (by omega),<-this]
  congr 1;omega
theorem Pd{g:G}{b:Nat}: ∀{ds:fE}{vs:List Value}{o:Nat},RepL g ds vs->(∀(j:Nat) v,vs[j]? = some v->g.imm b (o+j)=some v)->RepI g b o ds
 |[],_,_,_,_=>trivial
 | d::ds,_,o,⟨v,r,e,h1,h2⟩,h=>by
  subst e
  exact⟨⟨v,by simpa using h 0 v rfl,h1⟩,Pd h2 fun j x hx=>by
   have:=h (j+1) x (by simpa using hx)
   rwa [show o+(j+1)=o+1+j by omega]at this⟩
theorem Ta{g:G}{b sz:Nat}: ∀{es:fH}{vss:List (List Value)}{o:Nat},vss.length=es.length->(∀(i:Nat) e v,es[i]? = some e->vss[i]? = some v->RepL g e v)->
  (∀e∈es,e.length=sz)->(∀(i:Nat) v,vss[i]? = some v->∀(j:Nat) x,v[j]? = some x->g.imm b (o+i*sz+j)=some x)->RepE g b sz o es
 |[],_,_,_,_,_,_=>trivial
 |e::es,[],_,h,_,_,_=>by simp at h
 |e::es,v::vss,o,h,hr,hl,hi=>by
  refine⟨⟨hl e (by simp),Pd (hr 0 e v rfl rfl) fun j x hx=>by simpa using hi 0 v rfl j x hx⟩,Ta (by simpa using h) (fun i e' v' h1 h2=>hr (i+1) e' v' (by simpa using h1) (by simpa using h2)) (fun e' he=>hl e' (by simp[he])) fun i v' hv j x hx=>?_⟩
  have:=hi (i+1) v' (by simpa using hv) j x hx
  rwa [show o+(i+1)*sz+j=o+sz+i*sz+j by rw[co];omega]at this
section
variable {P:Program}{tab:Nat->Ty}(ht:Bs P tab){g:G}{V:Sig}{w:World}(hs:Sim P g V w)
include ht hs
theorem Km{t e len:Nat}{parts:List (Nat×Value)}{ds:fE}(hk:(tab t).k=.slice e)(he:A6 (tab e).k=false)
  (hm:parts.map (·.1)=List.range len) (fV:len*(tab e).size<=16777216) (hr:RepL g ds (parts.map (·.2))) (d7:∀d∈ds,d.told=true/\d.cells.length=(tab e).size) :
  PRun P g V (.slice (ds.map D.cells) .clip) (Instr.buildSlice t len parts.toArray) w:=by
 have hlen:parts.length=len:=by have:=bF List.length hm;simpa using this
 have fU:ds.length=len:=by have:=RepL.length hr;simp at this;omega
 have fL:∀(i:Nat) (d:D) (p:Nat×Value),ds[i]? = some d->parts[i]? = some p->RepL g d.cells p.2.cells.toList:=by
  intro i d p h1 h2
  have:=RepL.get hr i
  rw[h1,bD,h2]at this
  exact FG this (d7 d (cK h1)).1
 have d8:∀p∈parts,p.2.cells.size=(tab e).size:=by
  intro p hp
  obtain⟨i,hi⟩:=List.mem_iff_getElem?.1 hp
  have gv:i<ds.length:=by have:=(bn.1 hi).1;omega
  have h1:ds[i]? = some ds[i]:=aM gv
  have:=RepL.length (fL i _ p h1 hi)
  have h2:=(d7 _ (cK h1)).2
  simp at this;omega
 obtain⟨z,hz,gD,gC⟩:=DP (ht e) (Aj he) w
 let cells:=parts.flatMap fun p=>p.2.cells.toList
 have gG:cells.length=len*(tab e).size:=by
  have:∀(l:List (Nat×Value)),(∀p∈l,p.2.cells.size=(tab e).size)->(l.flatMap fun p=>p.2.cells.toList).length=l.length*(tab e).size:=by
   intro l
   induction l with
   |nil=>intro _;simp
   |cons p l ih=>
    intro h
    have h1:=ih fun q hq=>h q (by simp[hq])
    have h2:=h p (by simp)
    simp only[cz,aH,h1,aP,bN,h2,co,ew]
    omega
  rw[<-hlen];exact this parts d8
 have fJ:(Instr.buildSlice t len parts.toArray).run P w=.ok (.slice (some ⟨w.heap.size,0,none⟩) len len) { w with heap:=w.heap.push (.cells cells.toArray e) }:=by
  have e8:∀(cs:Array Value),cs.size=len*(tab e).size->Instr.fill (fun i=>some (i*(tab e).size,(tab e).size)) cs parts=some cells.toArray:=by
   intro cs gx
   have:=U3 (sz:=(tab e).size) parts 0 cs (by rw[hm,hlen,List.range_eq_range']) d8 (by rw[hlen,gx];simp)
   simpa using this
  simp only[Instr.buildSlice,aU,A3 (Bc ht hk),aK,B9 (ht e) (Aj he)]
  rw[aN (by omega)]
  by_cases h0:len*(tab e).size=0
  ·simp only[h0,bp,pure_bind]
   rw[e8 _ (by simp[h0])]
   simp[Dn]
  ·simp only[h0,bd,bind_assoc,aU,hz,pure_bind,aK]
   rw[e8 _ (by simp)]
   simp[Dn]
 refine⟨g.addImm w.heap.size cells,_,_,fJ,G.addImm_le hs _,hs.addImm cells e (0,0),some ⟨w.heap.size,0,none⟩,len,?_,by simp[fU],?_,by simp[fU]⟩
 ·simp[fU]
 ·right
  refine⟨(tab e).size,w.heap.size,0,rfl,Ta (vss:=parts.map fun p=>p.2.cells.toList) (by simp[hlen,fU]) ?_ ?_ ?_⟩
  ·intro i c v h1 h2
   rw[bD]at h1 h2
   obtain⟨d,hd,rfl⟩:=cq.1 h1
   obtain⟨p,hp,rfl⟩:=cq.1 h2
   exact RepL.mono (G.addImm_le hs _) _ (fL i d p hd hp)
  ·intro c hc
   obtain⟨d,hd,rfl⟩:=bO.1 hc
   exact(d7 d hd).2
  ·intro i v hv j x hx
   have gE:v.length=(tab e).size:=by
    rw[bD]at hv
    obtain⟨p,hp,rfl⟩:=cq.1 hv
    simpa using d8 p (cK hp)
   have hj:j<(tab e).size:=by have:=(bn.1 hx).1;omega
   have:=Qt (tab e).size (parts.map fun p=>p.2.cells.toList) (fun e' f9=>by
    obtain⟨p,hp,rfl⟩:=bO.1 f9
    simpa using d8 p hp) i j v hv hj
   show(if w.heap.size=w.heap.size then cells[0+i*(tab e).size+j]? else _)=some x
   rw[aS rfl,ck]
   have h3:cells=(parts.map fun p=>p.2.cells.toList).flatten:=List.flatMap_def ..
   rw[h3,this,hx]
end
theorem DQ{g:G}{γ:Fr}{m:Nat}{a:Act}(h:RepT g γ m a.tmps): ∀(l:List Operand),RepL g (l.map (ev γ)) (l.map a.eval)
 |[]=>rfl
 |x::l=>⟨_,_,rfl,Au h x,DQ h l⟩
theorem F1{α β:Type}(a:Array α)(f:α->β):a.map f=(a.toList.map f).toArray:=by cases a;simp
section
variable {P:Program}{tab:Nat->Ty}(ht:Bs P tab){g:G}{V:Sig}{w:World}(hs:Sim P g V w)
include ht hs
theorem XB{γ:Fr}{m:Nat}{a:Act}(hT:RepT g γ m a.tmps){o:Oper}{d:D}(h:dop tab γ V o.op=some d):ORun P g V d (execOp a.eval o) w:=by
 obtain⟨dst,op,type,pos,after,guard⟩:=o
 simp only at h
 have E:=fun x=>Au hT x
 unfold execOp
 cases op<;>simp only[dop,Pf,nilD,unD,W6,DY,U5,D1,NQ,HE,If,boxD,TE,KB]at h<;>(try (cases h;done))
 case move x=>cases h;exact⟨g,w,_,rfl,.refl g,hs,E x⟩
 case assign x=>cases h;exact⟨g,w,_,rfl,.refl g,hs,E x⟩
 case pick c x y=>
  have hc:=E c
  split at h
  ·rename_i t e
   rw[e]at hc
   cases h
   obtain hc:=Ho hc
   refine⟨g,w,if t then a.eval x else a.eval y,?_,.refl g,hs,?_⟩
   ·simp[asBool,hc,Sem.run]
   ·cases t
    ·exact E y
    ·exact E x
  ·cases h
 case box t v=>
  obtain⟨h1,rfl⟩:=El h
  exact .of (XI hs (E v) h1 t)
 case load t x=>
  obtain⟨h1,h2⟩:=BF h
  exact .of (Rq (ht t) (Aj (by simpa using h1)) hs (E x) h2)
 case nilCheck x=>
  have hx:=E x
  dsimp only
  split at h<;>cases h<;>(rename_i e;rw[e]at hx)
  ·obtain⟨b,o,hv,hr⟩:=hx;rw[hv];exact⟨g,w,_,rfl,.refl g,hs,b,o,rfl,hr⟩
  ·obtain⟨b,hb,hv⟩:=hx;rw[hv];exact⟨g,w,_,rfl,.refl g,hs,b,hb,rfl⟩
  ·obtain⟨fs,cs,hv,hr⟩:=hx;rw[hv];exact⟨g,w,_,rfl,.refl g,hs,fs,cs,rfl,hr⟩
  ·obtain⟨y,hv,hr⟩:=hx;rw[hv];exact⟨g,w,_,rfl,.refl g,hs,y,rfl,hr⟩
 case binOp op t x y yt=>
  obtain⟨r,hr,hd⟩:=Wj (P:=P) (t:=t) h (E x) (E y) x y w
  exact .of (Aw hs hr hd)
 case unOp op t x=>
  dsimp only
  have hx:=E x
  split at h<;>cases h<;>(rename_i e;rw[e]at hx)
  ·obtain hv:=Ho hx;rw[hv];exact .of (Aw hs (v:=.bool _) rfl rfl)
  ·have hv:a.eval x=.int _ _:=hx;rw[hv];exact .of (Aw hs (v:=.int _ _) rfl rfl)
 case convert s t x=>
  dsimp only
  have hx:=E x
  split at h<;>cases h
  rename_i h1 h2 h3
  rw[h3]at hx
  have hv:a.eval x=.int _ _:=hx
  rw[hv]
  obtain⟨inf,desc,z,_,hu,_⟩:=CV (ht s) (Aj h1)
  refine .of (Aw hs (v:=.int _ _) ?_ rfl)
  simp only[convert,aU,A3 hu,A3 (M6 ht h2),aK]
  cases desc<;>rfl
 case makeInterface t x=>
  obtain⟨h1,h2⟩:=BF h
  cases h2
  simp only[bL,dU,ca]at h1
  obtain⟨inf,desc,z,_,hu,hk,_⟩:=CV (ht t) (Aj h1.1)
  refine .of (Aw hs (v:=.iface t (a.eval x)) ?_ ⟨_,rfl,E x⟩)
  simp only[Instr.makeInterface,aU,A3 hu,aK]
  cases desc<;>first|rfl|skip
  rename_i ms
  cases gu:(tab t).k<;>simp[gu,KOK,GY]at hk h1
 case makeFunc fn first cap=>
  cases h
  refine .of (Aw hs (v:=.func fn (first.map a.eval) (cap.map a.eval)) rfl ?_)
  rw[F1,F1]
  exact⟨_,_,rfl,DQ hT _,DQ hT _⟩
 case fieldAddr s x f=>
  split at h<;>(try (cases h;done))
  rename_i fs hk
  split at h<;>(try (cases h;done))
  rename_i off ft hf
  obtain⟨h1,h2⟩:=BF h
  simp only[bL,dU,ca,cp]at h1
  exact .of (KF ht hs hk hf h1.1 h1.2 (E x) h2)
 case field s x f=>
  dsimp only
  split at h<;>(try (cases h;done))
  rename_i fs cs hk hx
  split at h<;>(try (cases h;done))
  rename_i off ft hf
  obtain⟨h1,h2⟩:=BF h
  have hv:=E x
  rw[hx]at hv
  obtain⟨vs,hv,hr⟩:=hv
  obtain⟨l,fQ,f6⟩:=HS ht hk
  have e9:(l.toList.map (fun f=>(f.offset,f.type)))[f]? = some (off,ft):=by rw[f6];exact hf
  rw[bD]at e9
  obtain⟨fld,f7,he⟩:=cq.1 e9
  cases he
  have d9:l[f]? = some fld:=by rw[<-f7];simp
  obtain⟨g',w',v,r1,r2,r3,r4⟩:=Tf ht hs (by simpa using h1) h2 hr
  refine .of ⟨g',w',v,?_,r2,r3,r4⟩
  simp only[Instr.field,aU,A3 fQ,aK,d9,hv,asAgg,bf,r1]
 case indexAddr t x i=>
  dsimp only
  have hx:=E x
  have hi:=E i
  split at h<;>(try (cases h;done))
  ·rename_i e es own k n hk h1 h2
   rw[h1]at hx;rw[h2]at hi
   have hv:a.eval i=.int k n:=hi
   rw[hv]
   obtain⟨h3,h⟩:=BF h
   split at h<;>(try (cases h;done))
   rename_i h0
   split at h<;>(try (cases h;done))
   rename_i c hc
   obtain⟨hl,rfl⟩:=El h
   exact .of (JP ht hs hk (by simpa using h3) hx h0 hc hl)
  ·rename_i e id off len cap k n hk h1 h2
   rw[h1]at hx;rw[h2]at hi
   have hv:a.eval i=.int k n:=hi
   rw[hv]
   obtain⟨h3,h⟩:=BF h
   obtain⟨h4,rfl⟩:=El h
   exact .of (KE ht hs hk (by simpa using h3) hx h4)
  ·rename_i len e k n hk h2
   rw[h2]at hi
   have hv:a.eval i=.int k n:=hi
   rw[hv]
   obtain⟨h3,h⟩:=BF h
   split at h
   ·rename_i h4
    exact .of (JQ ht hs hk (by simpa using h3) hx h4 h)
   ·cases h
 case index t x i=>
  dsimp only
  have hx:=E x
  have hi:=E i
  split at h<;>(try (cases h;done))
  rename_i s k n hk h1 h2
  rw[h1]at hx;rw[h2]at hi
  have hv:a.eval i=.int k n:=hi
  have gk:a.eval x=.string ⟨s.toArray⟩:=hx
  rw[hv,gk]
  split at h<;>(try (cases h;done))
  rename_i h0
  obtain⟨b,hb,rfl⟩:=cq.1 h
  refine .of (Aw hs (v:=.int .u8 b.toNat) ?_ rfl)
  simp only[Instr.index,aU,asIntOf,bf,aK,A3 (Jc ht hk),h0,bp]
  have:(ByteArray.mk s.toArray)[n.toNat]? = some b:=by
   obtain⟨h3,h4⟩:=bn.1 hb
   rw[getElem?_pos _ _ (by simpa[ByteArray.size] using h3)]
   simp[ByteArray.getElem_eq_getElem_data,h4]
  rw[this];rfl
 case extract x i=>
  dsimp only
  have hx:=E x
  split at h<;>(try (cases h;done))
  rename_i ds e
  rw[e]at hx
  obtain⟨vs,hv,hr⟩:=hx
  rw[hv]
  have hl:=RepL.length hr
  have hi:i<vs.length:=by have:=(bn.1 h).1;omega
  have:=RepL.get hr i
  rw[h,aM hi]at this
  refine .of (Aw hs (v:=vs[i]) ?_ this)
  simp[Instr.extract,hi,Sem.run]
 case buildSlice t len parts=>
  dsimp only
  split at h<;>(try (cases h;done))
  rename_i e hk
  obtain⟨h1,h⟩:=BF h
  obtain⟨h2,rfl⟩:=El h
  simp only[aI,cp,aL,bc]at h2
  obtain⟨⟨h3,h4⟩,h5⟩:=h2
  have hr:RepL g (parts.toList.map fun p=>ev γ p.2) ((parts.toList.map fun (p:Nat×Operand)=>(p.1,a.eval p.2)).map (·.2)):=by
   rw[dk]
   have:∀(l:List (Nat×Operand)),RepL g (l.map fun p=>ev γ p.2) (l.map ((fun x=>x.2) ∘ fun p=>(p.1,a.eval p.2))):=by
    intro l
    induction l with
    |nil=>rfl
    |cons p l ih=>exact⟨_,_,rfl,E p.2,ih⟩
   exact this _
  have:=Km ht hs (parts:=parts.toList.map fun (p:Nat×Operand)=>(p.1,a.eval p.2)) (len:=len) hk (by simpa using h1) (by rw[dk];exact h3) (by simpa using h4) hr (by
   intro d hd
   obtain⟨p,hp,rfl⟩:=bO.1 hd
   exact h5 p hp)
  rw[dk]at this
  refine .of ?_
  rw[F1]
  exact this
 case call c=>
  obtain⟨callee,args,argTypes⟩:=c
  cases callee<;>(try simp only[dop]at h)<;>(try (cases h;done))
  rename_i b
  cases b<;>(try simp only[dop]at h)<;>(try (cases h;done))
  have hr:=DQ hT args.toList
  dsimp only
  obtain⟨argTypes⟩:=argTypes
  obtain⟨args⟩:=args
  simp only[lenC]at h
  split at h<;>(try (cases h;done))
  rename_i t x
  have key:∀v n,a.eval x=v->(Builtin.len_ #[t] type #[v]).run P w=.ok (.int .i64 n) w->ORun P g V (.int .i64 n) (do let d <-resolve a.eval { callee:=.builtin .len,args:= #[x],argTypes:= #[t] } type;invoke d.target d.args) w:=by
   intro v n h1 h2
   refine⟨g,w,.int .i64 n,?_,.refl g,hs,rfl⟩
   simp only[resolve,aU,bf,aK,invoke,builtin,List.map_toArray,ba,bJ,h1,h2]
  have one:=E x
  simp only[lenD]at h
  split at h<;>(try (cases h;done))<;>cases h
  ·rename_i e es own hk h1
   rw[h1]at one
   obtain⟨a',cap,hv,_⟩:=one
   exact key _ _ hv (by simp[Builtin.len_,A3 (Bc ht hk),goInt,Sem.run])
  ·rename_i e hk h1
   rw[h1]at one
   have hv:a.eval x=_:=one
   exact key _ _ hv (by simp[Builtin.len_,A3 (Bc ht hk),goInt,Sem.run])
  ·rename_i e id off len cap hk h1
   rw[h1]at one
   obtain⟨b,_,hv⟩:=one
   exact key _ _ hv (by simp[Builtin.len_,A3 (Bc ht hk),goInt,Sem.run])
  ·rename_i s hk h1
   rw[h1]at one
   have hv:a.eval x=_:=one
   have hz:(ByteArray.mk s.toArray).size=s.length:=by simp[ByteArray.size]
   exact key _ _ hv (by simp only[Builtin.len_,aU,A3 (Jc ht hk),aK,cV,eA,goInt,hz];rfl)
end
def Wo(P:Program)(f:Nat):Prop:= ∀args w,(callFunc f args).run P w=.ok (.enter f args) w
theorem E0 {P : Program} {f : Nat} {fn : Func} (h : P.funcs[f]? = some fn) (hn : (fn.name == "runtime.NumGoroutine") = false) (hb : fn.body.isSome = true) : Wo P f := by
 intro args w
 have h2:fn.body.isNone=false:=by cases hx:fn.body<;>simp_all
 simp only[callFunc,program,aU,Sem.run,aK,h,hn,h2,bj,bd]
 rfl
structure au(P:Program)(f:Nat)(args:fE)(V:Sig)(R:DE->Sig->Prop):Prop where
 lt:f<P.funcs.size
 ent:Wo P f
 run:DCalls P f args V R
abbrev rS(d:D)(τ:Sig):DE->Sig->Prop:=fun x s=>x=.ret d/\s=τ
theorem au.mono{P:Program}{f:Nat}{args:fE}{V:Sig}{R R':DE->Sig->Prop}(h:au P f args V R)(hr:∀x S',R x S'->R' x S'):au P f args V R':=
 ⟨h.lt,h.ent,h.run.mono hr⟩
theorem OL{P:Program}{f:Nat}{fn:Func}{c:Code}{args:fE}{V:Sig}{R:DE->Sig->Prop}(hf:P.funcs[f]? = some fn)(hb:fn.body=some c)
  (gr : (fn.name == "runtime.NumGoroutine") = false) {m : Nat} (hm : fn.ntmps = m) (hn : args.length <= m) (h : DWp P none m c (BodyQ P m fn R) { γ := CX 0 args, V }) : au P f args V R :=
 ⟨(aR.1 hf).1,E0 hf gr (by rw[hb];rfl),MU hf hb (by omega) (by rw[hm];exact h)⟩
def av(P:Program)(ro:Option Nat)(n:Nat)(ops:Array Oper)(Q:DX->St->Prop)(l:List Oper)(s:St):Prop:=
 ∀g w a r,RoRep g ro r->SimS P g n s a w->wpListIn (FX P r) 0 P ops (Post P g n Q) l a w
def putD(dst:Option Tmp)(d:D)(γ:Fr):Fr:=
 match dst with
 |some t=>(t,d)::γ
 |none=>γ
def AD(n:Nat)(o:Oper):Bool:=
 match o.dst with
 |some t=>decide (t<n)
 |none=>true
theorem Aa(t:Nat)(d:D)(γ:Fr)(i:Nat):getD ((t,d)::γ) i=if i=t then d else getD γ i:=by
 unfold getD
 by_cases h:i=t
 ·subst h;simp[List.lookup]
 ·have:(i==t)=false:=by simpa using h
  simp[List.lookup,this,h]
theorem RepT.put{g:G}{γ:Fr}{n:Nat}{a:Act}{d:D}{v:Value}{o:Oper}(h:RepT g γ n a.tmps)(hd:Rep g d v)(ho:AD n o=true):
  RepT g (putD o.dst d γ) n (a.put o.dst v).tmps:=by
 unfold AD at ho
 cases ga:o.dst with
 |none=>exact h
 | some t =>
  rw[ga]at ho
  simp only[aL]at ho
  simp only[Act.put,putD]
  refine⟨by simpa using h.1,fun i=>?_⟩
  rw[Aa]
  by_cases hi:i=t
  ·subst hi
   have:i<a.tmps.size:=by rw[h.1];exact ho
   simpa[this] using hd
  ·rw[aN hi]
   have:=h.2 i
   rwa [show(a.tmps.setIfInBounds t v).getD i undef=a.tmps.getD i undef by simp[cC, cQ (aQ hi)]]
theorem Act.put_df(a:Act)(dst:Option Tmp)(v:Value):(a.put dst v).defers=a.defers:=by cases dst<;>rfl
theorem SimS.put{P:Program}{g g':G}{n:Nat}{s:St}{a:Act}{w w':World}{d:D}{v:Value}{o:Oper}{S':Sig}(h:SimS P g n s a w)(hg:g.le g')(hs:Sim P g' S' w')(hd:Rep g' d v)(ho:AD n o=true):
  SimS P g' n { s with γ:=putD o.dst d s.γ,V:=S' } (a.put o.dst v) w':=
 ⟨hs,(h.tmps.mono hg).put hd ho,by rw[Act.put_df];exact h.df.mono hg⟩
def Dr(ops:Array Oper)(γ:Fr)(j:Nat):Option Bool:=
 ((ops[j]?).bind (·.dst)).bind fun t=>match getD γ t with
  |.bool b=>some b
  |_=>none
def Jb(ops:Array Oper)(γ:Fr)(j:Nat):Bool:=
 match (ops[j]?).bind (·.dst)with
 |some t=>(match getD γ t with
  |.tup []=>true
  |_=>false)
 |none=>false
def AT(ops:Array Oper)(γ:Fr)(o:Oper):Option Bool:=
 match o.guard with
 |none=>some true
 |some (j,want)=>match Dr ops γ j with
  |some b=>some (b==want)
  |none=>if Jb ops γ j then some false else none
theorem AV {g:G} {γ:Fr} {n:Nat} {a:Act} {ops:Array Oper} {o:Oper} {b:Bool} (hT:RepT g γ n a.tmps) (h:AT ops γ o=some b) :
  Region.wanted o (yielded ops a.tmps)=b:=by
 unfold AT at h
 unfold Region.wanted
 cases hg:o.guard with
 |none=>rw[hg]at h;cases h;rfl
 | some p =>
  obtain⟨j,want⟩:=p
  rw[hg]at h
  simp only at h⊢
  split at h
  ·rename_i c hc
   cases h
   have:yielded ops a.tmps j=some c:=by
    unfold Dr at hc
    unfold yielded
    cases hd:(ops[j]?).bind (·.dst)with
    |none=>rw[hd]at hc;cases hc
    | some t =>
     rw[hd]at hc
     simp only[dW]at hc⊢
     have ht:=hT.2 t
     split at hc
     ·rename_i c' fM
      cases hc
      rw[fM]at ht
      have ht:=Ho ht
      have f0:t<a.tmps.size:=by
       rcases cg t a.tmps.size with hl|hl
       ·exact hl
       ·simp[cC, bY hl,undef]at ht
      rw[bz f0]
      simp[cC, bz f0]at ht
      simp[ht]
     ·cases hc
   rw[this]
   cases c<;>cases want<;>rfl
  ·split at h
   ·rename_i hu
    cases h
    have:yielded ops a.tmps j=none:=by
     unfold Jb at hu
     unfold yielded
     cases hd:(ops[j]?).bind (·.dst)with
     |none=>rfl
     | some t =>
      rw[hd]at hu
      simp only at hu
      have ht:=hT.2 t
      split at hu
      ·rename_i fM
       rw[fM]at ht
       obtain⟨vs,hv,hr⟩:=ht
       obtain rfl:vs=[]:=hr
       simp only[dW]
       rcases cg t a.tmps.size with hl|hl
       ·simp[cC, bz hl]at hv
        rw[bz hl,hv]
       ·rw[bY hl]
      ·cases hu
    rw[this];rfl
   ·cases h
section
variable {P:Program}{ro:Option Nat}{n:Nat}{ops:Array Oper}{Q:DX->St->Prop}{l rest:List Oper}{s:St}{o:Oper}
theorem AP(h:Q .normal s):av P ro n ops Q [] s:=fun g _ _ _ _ hs=>⟨g,s,.normal,.refl g,hs,rfl,h⟩
theorem Sp{id:Nat}(h:av P ro n l.toArray Q l s):DWp P ro n (.region id l.toArray false) Q s:=
 fun g w a r hr hs=>wpIn_region_lit (h g w a r hr hs)
theorem AA {g g':G} {r:Option Nat} (hg:g.le g') : ∀ (l:List Oper) {a:Act} {w:World},wpListIn (FX P r) 0 P ops (Post P g' n Q) l a w->wpListIn (FX P r) 0 P ops (Post P g n Q) l a w
  |[],_,_,h=>Post.le hg h
  | o::l,a,w,h=>by
    unfold wpListIn at h⊢
    split
    · rename_i hw
      rw[aS hw]at h
      refine⟨h.1,?_⟩
      have h2:=h.2
      revert h2
      generalize (o.semAt (FX P r).round a.eval).run P w=res
      cases res with
      | ok nx w' =>
        cases nx<;>simp only[Oper.uponIn]<;>first
          |exact fun h=>AA hg l h
          | (rintro ⟨h1,h2⟩
             refine⟨h1,?_⟩
             first
               | (refine h2.mono ?_
                  intro e w'' he
                  cases e<;>first
                    |exact AA hg l he
                    |exact Post.le hg he
                    |(obtain⟨a0,w0,he⟩:=he;exact⟨a0,w0,Post.le hg he⟩))
               | (refine h2.mono ?_
                  intro v w'' he
                  exact AA hg l he))
          |exact fun h=>h
      |halt x w'=>cases x<;>simp only[Oper.uponIn]<;>first|exact fun h=>Post.le hg h|exact fun h=>h
    · rename_i hw
      rw[aN hw]at h
      exact⟨h.1,AA hg l h.2⟩
theorem MT{d:D}(hw:AT ops s.γ o=some true)(fZ:∀c,o.op≠.defer c)(gb:∀(w:World) (ρ:Operand->Value) f,o.about P w ρ=some f->False)
  (hd:∀g w (a:Act),Sim P g s.V w->RepT g s.γ n a.tmps->ORun P g s.V d (execOp a.eval o) w) (ho:AD n o=true)
  (h:av P ro n ops Q rest { s with γ:=putD o.dst d s.γ }):av P ro n ops Q (o::rest) s:=by
 intro g w a r hr hs
 unfold wpListIn
 rw[AV hs.tmps hw,aS rfl]
 refine⟨fun f hf=>(gb _ _ f hf).elim,?_⟩
 obtain⟨g',w',v,h1,h2,h3,h4⟩:=hd g w a hs.sim hs.tmps
 rw[cE _ _ _ fZ,h1]
 exact AA h2 _ (h g' w' _ r (hr.mono h2) (hs.put h2 h3 h4 ho))
theorem Gq{d:D}{S':Sig}(hw:AT ops s.γ o=some true)(fZ:∀c,o.op≠.defer c)(gb:∀(w:World) (ρ:Operand->Value) f,o.about P w ρ=some f->False)
  (hd:∀g w (a:Act),Sim P g s.V w->RepT g s.γ n a.tmps->∃g' w' v,((execOp a.eval o).run P w=.ok (.value v) w'\/((execOp a.eval o).run P w=.ok .skip w'/\v=undef))/\g.le g'/\Sim P g' S' w'/\Rep g' d v) (ho:AD n o=true)
  (h:av P ro n ops Q rest { s with γ:=putD o.dst d s.γ,V:=S' }):av P ro n ops Q (o::rest) s:=by
 intro g w a r hr hs
 unfold wpListIn
 rw[AV hs.tmps hw,aS rfl]
 refine⟨fun f hf=>(gb _ _ f hf).elim,?_⟩
 obtain⟨g',w',v,h1,h2,h3,h4⟩:=hd g w a hs.sim hs.tmps
 rw[cE _ _ _ fZ]
 rcases h1 with h1|⟨h1,rfl⟩
 ·rw[h1];exact AA h2 _ (h g' w' _ r (hr.mono h2) (hs.put h2 h3 h4 ho))
 ·rw[h1];exact AA h2 _ (h g' w' _ r (hr.mono h2) (hs.put h2 h3 h4 ho))
theorem VY{fop:Operand}{args:Array Operand}{ats:Array TypeId}{dst:Option Tmp}{ty:TypeId}{pos:String}{after:Array Edge}{guard:Option (Nat×Bool)}{f:Nat}{first cap:fE}{R:DE->Sig->Prop}
  (hw:AT ops s.γ ⟨dst,(cv fop args ats),ty,pos,after,guard⟩=some true)
  (hf:ev s.γ fop=.func (.func f) first cap) (h:au P f (first++args.toList.map (ev s.γ)++cap) s.V R)
  (ho:AD n ⟨dst,(cv fop args ats),ty,pos,after,guard⟩=true)
  (fX:∀d S',R (.ret d) S'->av P ro n ops Q rest { s with γ:=putD dst d s.γ,V:=S' })
  (fY:∀d S',R (.panic d) S'->Q (.panic d) { s with V:=S' }) :
  av P ro n ops Q (⟨dst,(cv fop args ats),ty,pos,after,guard⟩::rest) s:=by
 intro g w a r hr hs
 unfold wpListIn
 rw[AV hs.tmps hw,aS rfl]
 have fR:=Au hs.tmps fop
 rw[hf]at fR
 obtain⟨fs,cs,fR,go,gn⟩:=fR
 have fK:(resolve a.eval { callee:=.value fop,args,argTypes:=ats } ty).run P w=.ok { target:=.fn (.func f) cs.toArray,args:=fs.toArray++args.map a.eval } w:=by
  simp[resolve,fR,Deferred.ofValue,Sem.run]
 refine⟨fun f' e9=>?_,?_⟩
 ·simp only[Oper.about,fK,Target.leads]at e9
  cases e9
  exact h.lt
 ·rw[cE _ _ _ (fun c e=>by cases e)]
  have fJ:(execOp a.eval ⟨dst,(cv fop args ats),ty,pos,after,guard⟩).run P w=.ok (.enter f (fs.toArray++args.map a.eval++cs.toArray)) w:=by
   simp only[execOp,aU,fK,aK,invoke,h.ent _ w]
  rw[fJ]
  refine⟨fun h=>(by cases h),?_⟩
  have fN:RepL g (first++args.toList.map (ev s.γ)++cap) (fs++args.toList.map a.eval++cs):=by
   have app:∀{x y:fE}{u v:List Value},RepL g x u->RepL g y v->RepL g (x++y) (u++v):=by
    intro x
    induction x with
    |nil=>intro y u v h1 h2;cases h1;exact h2
    |cons d x ih=>intro y u v h1 h2;obtain⟨v0,r0,rfl,h3,h4⟩:=h1;exact⟨v0,r0++v,rfl,h3,ih h4 h2⟩
   exact app (app go (DQ hs.tmps _)) gn
  have hc:=h.run g w _ hs.sim fN
  have fM:CallsIn (FX P r) 0 P f (fs.toArray++args.map a.eval++cs.toArray) w (PJ P g R):=by
   have e:(fs++args.toList.map a.eval++cs).toArray=fs.toArray++args.map a.eval++cs.toArray:=by simp
   rw[<-e];exact hc
  refine fM.mono ?_
  rintro e w' ⟨g',x,S',h1,h2,h3,h4⟩
  cases x with
  |ret d=>
   obtain⟨v,rfl,h5⟩:=h3
   exact AA h1 _ (fX d S' h4 g' w' _ r (hr.mono h1) (hs.put (o:=⟨dst,(cv fop args ats),ty,pos,after,guard⟩) h1 h2 h5 ho))
  |panic d=>
   obtain⟨v,rfl,h5⟩:=h3
   exact⟨g',{ s with V:=S' },.panic d,h1,⟨h2,hs.tmps.mono h1,hs.df.mono h1⟩,⟨v,rfl,h5⟩,fY d S' h4⟩
end
def isEff:Op->Bool
 |.call { callee:=.builtin .len,.. }=>false
 |.move _|.assign _|.pick .. |.box .. |.load .. |.nilCheck _|.binOp .. |.unOp .. |.convert .. |.makeInterface .. |.makeFunc .. |.fieldAddr .. |.field .. |.indexAddr .. |.index .. |.extract .. |.buildSlice .. =>false
 |_=>true
def Ei(N:Nat):Op->Bool
 |.call { callee:=.value (.func f),.. }=>decide (f<N)
 |.call { callee:=.builtin _,.. }=>true
 |.call _=>false
 |_=>true
def Pv(tab:Nat->Ty)(N n:Nat)(ops:Array Oper):List Oper->Fr->Sig->Option (List Oper×Fr)
 |[],γ,_=>some ([],γ)
 | o::rest,γ,V =>
  match AT ops γ o with
  |some true=>
   if isEff o.op then some (o::rest,γ) else
   match dop tab γ V o.op with
   |some d=>if AD n o then Pv tab N n ops rest (putD o.dst d γ) V else none
   |none=>none
  |some false=>if Ei N o.op&&AD n o then Pv tab N n ops rest (putD o.dst .any γ) V else none
  |none=>none
theorem Ah{P:Program}{o:Oper}(h:∀c,o.op≠.call c)(w:World)(ρ:Operand->Value)(f:Nat):o.about P w ρ=some f->False:=by
 unfold Oper.about
 split
 ·rename_i c hc;exact absurd hc (h c)
 ·intro h;cases h
theorem Cd{P:Program}{o:Oper}{c:Call}{b:Builtin}(h:o.op=.call c)(hb:c.callee=.builtin b)(w:World)(ρ:Operand->Value)(f:Nat):o.about P w ρ=some f->False:=by
 unfold Oper.about
 rw[h]
 simp[resolve,hb,Target.leads]
theorem Ij{P:Program}{o:Oper}(h:Ei P.funcs.size o.op=true)(w:World)(ρ:Operand->Value)(f:Nat)(hf:o.about P w ρ=some f)
  (hρ:∀k,ρ (.func k)=.func (.func k) #[] #[]):f<P.funcs.size:=by
 by_cases hc:∃c,o.op=.call c
 ·obtain⟨c,hc⟩:=hc
  rw[hc]at h
  obtain⟨callee,args,ats⟩:=c
  cases callee with
  |builtin b=>exact(Cd hc rfl w ρ f hf).elim
  |value x=>
   cases x<;>simp only[Ei]at h<;>(try (cases h;done))
   rename_i k
   unfold Oper.about at hf
   rw[hc]at hf
   simp[resolve,hρ,Deferred.ofValue,Target.leads]at hf
   subst hf
   simpa using h
  |invoke r m=>cases h
 ·exact(Ah (fun c e=>hc ⟨c,e⟩) w ρ f hf).elim
def kokB:TypeDesc->TyK->Bool
 |.slice e,.slice e'=>e==e'
 |.struct fs,.struct l=>fs.toList.map (fun f=>(f.offset,f.type))==l
 |.array n e,.array m e'=>n==m&&e==e'
 |.map k e,.map k' e'=>k==k'&&e==e'
 |.int k,.int k'=>k==k'
 |.string,.str=>true
 |.bool,.bool=>true
 |.interface _,.iface=>true
 |.pointer e,.ptr e'=>e==e'
 |.func _ _ _,.func=>true
 |_,_=>false
theorem kok_of{d:TypeDesc}{k:TyK}(h:kokB d k=true):KOK d k:=by
 unfold kokB at h
 split at h<;>simp_all [KOK]
def dEqB:D->D->Bool
 |.any,.any=>true
 |.bool a,.bool b=>a==b
 |.int k a,.int k' b=>k==k'&&a==b
 |.str a,.str b=>a==b
 |.ar,.ar=>true
 |.ak,.ak=>true
 |.aq,.aq=>true
 |.nilf,.nilf=>true
 |.niliface,.niliface=>true
 |_,_=>false
theorem dEq_of{a b:D}(h:dEqB a b=true):a=b:=by
 unfold dEqB at h
 split at h<;>simp_all
def dEqL:fE->fE->Bool
 |[],[]=>true
 |a::az,b::bs=>dEqB a b&&dEqL az bs
 |_,_=>false
theorem W5: ∀{a b:fE},dEqL a b=true->a=b
 |[],[],_=>rfl
 |a::az,b::bs,h=>by
  simp only[dEqL,aI]at h
  rw[dEq_of h.1,W5 h.2]
 |[],_::_,h=>by simp[dEqL]at h
 |_::_,[],h=>by simp[dEqL]at h
def aggB:TypeDesc->Bool
 |.struct _|.array _ _=>true
 |_=>false
def P7 (P:Program) (t:Nat) (i:Ty):Bool :=
 match i.k with
 |.other=>true
 |_=>match P.info? t,P.underlying t with
  | some inf,some desc=>kokB desc i.k && inf.size==i.size && inf.bytes==i.bytes && i.agg==aggB desc &&
    (match inf.zero with
     |some z=>i.zero.length==i.size&&dEqL i.zero (z.cells.toList.map Ci)&&i.agg==aggV z
     |none=>false)
  |_,_=>false
theorem Nb{P:Program}{t:Nat}{i:Ty}(h:P7 P t i=true):TyOK P t i:=by
 by_cases hk:i.k=.other
 ·unfold TyOK;rw[hk];trivial
 ·have h2:∃inf desc z,P.info? t=some inf/\P.underlying t=some desc/\KOK desc i.k/\inf.size=i.size/\inf.bytes=i.bytes /\
    i.agg=(match desc with|.struct _|.array _ _=>true|_=>false)/\inf.zero=some z/\i.zero.length=i.size/\i.zero=z.cells.toList.map Ci/\i.agg=aggV z:=by
   unfold P7 at h
   split at h
   ·rename_i e;exact absurd e hk
   ·split at h
    ·rename_i inf desc h1 h2
     simp only[aI,cp]at h
     obtain⟨⟨⟨⟨a,b⟩,c⟩,d⟩,e⟩:=h
     split at e
     ·rename_i z hz
      simp only[aI,cp]at e
      refine⟨inf,desc,z,h1,h2,kok_of a,b,c,?_,hz,e.1.1,W5 e.1.2,e.2⟩
      rw[d];unfold aggB;cases desc<;>rfl
     ·cases e
    ·cases h
  unfold TyOK
  split
  ·rename_i e;exact absurd e hk
  ·exact h2
def WkD(a b:D):Prop:= ∀g v,Rep g a v->Rep g b v
theorem A9(a:D):WkD a a:=fun _ _ h=>h
theorem Es(a:D):WkD a .any:=fun _ _ _=>trivial
theorem AM{a b:D}(h:a=b):WkD a b:=h ▸ A9 a
theorem Am(o:Own)(h:o=.no\/o=.clip):WkD .ak (.slice [] o):=by
 rintro g v rfl
 refine⟨none,0,rfl,by simp,.inl rfl,?_⟩
 rcases h with rfl|rfl
 ·trivial
 ·rfl
theorem Ao(es:fH)(o:Own):WkD (.slice es o) (.slice es .no):=by
 rintro g v ⟨a,cap,h1,h2,h3,_⟩
 exact⟨a,cap,h1,h2,h3,trivial⟩
theorem J5(k:IntKind){a b:Int}(h:a=b):WkD (.int k a) (.int k b):=h ▸ A9 _
theorem C3{es es':fH}(o:Own)(h:es=es'):WkD (.slice es o) (.slice es' .no):=h ▸ Ao es o
def WkL:fE->fE->Prop
 |[],[]=>True
 |a::az,b::bs=>WkD a b/\WkL az bs
 |_,_=>False
theorem WkL.rep{g:G}: ∀{az bs:fE}{vs:List Value},WkL az bs->RepL g az vs->RepL g bs vs
 |[],[],_,_,h=>h
 |a::az,b::bs,_,⟨h1,h2⟩,⟨v,r,e,h3,h4⟩=>⟨v,r,e,h1 g v h3,WkL.rep h2 h4⟩
 |[],_::_,_,h,_=>h.elim
 |_::_,[],_,h,_=>h.elim
theorem WkL.len: ∀{az bs:fE},WkL az bs->az.length=bs.length
 |[],[],_=>rfl
 |a::az,b::bs,h=>by simp[WkL.len h.2]
 |[],_::_,h=>h.elim
 |_::_,[],h=>h.elim
theorem au.wk{P:Program}{f:Nat}{args args':fE}{V:Sig}{R:DE->Sig->Prop}(h:au P f args' V R)(hw:WkL args args'):au P f args V R:=
 ⟨h.lt,h.ent,fun g w vs hs ha=>h.run g w vs hs (hw.rep ha)⟩
def Tells(γ:Fr):Fr->Prop
 |[]=>True
 |p::r=>WkD (getD γ p.1) p.2/\Tells γ r
theorem Tells.get{γ:Fr}: ∀{U':Fr},Tells γ U'->∀t,WkD (getD γ t) (getD U' t)
 |[],_,t=>Es _
 |p::r,h,t=>by
  rw[show p::r=(p.1,p.2)::r from rfl,Aa]
  by_cases ht:t=p.1
  ·rw[aS ht,ht];exact h.1
  ·rw[aN ht];exact Tells.get h.2 t
section
variable {K:St->Prop}{Q:DX->St->Prop}{s:St}{i id:Nat}{d:D}
theorem GO(h:K s):Then K Q .normal s:=h
theorem Je(h:Q (.exit i) s):Then K Q (.exit i) s:=h
theorem M9(h:Q .ret s):Then K Q .ret s:=h
theorem HT(h:Q (.panic d) s):Then K Q (.panic d) s:=h
theorem Ia(h:Q .normal s):InB id Q .normal s:=h
theorem Mr(h:Q .normal s):InB id Q (.exit id) s:=by simp only[InB,bp];exact h
theorem TS(hi:i≠id)(h:Q (.exit i) s):InB id Q (.exit i) s:=by simp only[InB,hi,bd];exact h
theorem Pq(h:Q .ret s):InB id Q .ret s:=h
theorem JR(h:Q (.panic d) s):InB id Q (.panic d) s:=h
end
theorem Ar{x:Int}(h1 : -9223372036854775808<=x)(h2:x<=9223372036854775807):IntKind.i64.wrap x=x:=by
 have e1:(2:Int) ^ IntKind.i64.bits=18446744073709551616:=by decide
 have e2:(2:Int) ^ (IntKind.i64.bits-1)=9223372036854775808:=by decide
 have e3:IntKind.i64.signed=true:=rfl
 simp only[IntKind.wrap,e1,e2,e3,aW,aL,ge_iff_le]
 split<;>omega
attribute [simp] Pv AT Dr isEff dop ev Ci putD AD Ei A6 GY D.told D.cells CX resD Tells WkL A9 Es lenC boxD TE E2
@[simp] theorem getD_hit(t:Nat)(d:D)(γ:Fr):getD ((t,d)::γ) t=d:=by rw[Aa,aS rfl]
@[simp] theorem getD_miss(t:Nat)(d:D)(γ:Fr)(i:Nat)(h:i≠t):getD ((t,d)::γ) i=getD γ i:=by rw[Aa,aN h]
@[simp] theorem getD_nil(t:Nat):getD [] t=.any:=rfl
@[simp] theorem wkD_own_no(es:fH)(o:Own):WkD (.slice es o) (.slice es .no):=Ao es o
section
variable (k:IntKind)(a b:Int)(x y d:D)(tab:Nat->Ty)(e n id off len cap f:Nat)(es:fH)(o:Own)(s u:List UInt8)(c c':Bool)(cs:fE)(fs:List (Nat×Nat))(γ:List (Nat×D))(V:Sig)(ty:Ty)
@[simp] theorem binD_add:binD .add (.int k a) (.int k b)=some (.int k (k.wrap (a+b))):=by simp[binD]
@[simp] theorem binD_sub:binD .sub (.int k a) (.int k b)=some (.int k (k.wrap (a-b))):=by simp[binD]
@[simp] theorem binD_mul:binD .mul (.int k a) (.int k b)=some (.int k (k.wrap (a*b))):=by simp[binD]
@[simp] theorem binD_quo:binD .quo (.int k a) (.int k b)=if b≠0 then some (.int k (k.wrap (a.tdiv b))) else none:=by simp[binD]
@[simp] theorem binD_rem:binD .rem (.int k a) (.int k b)=if b≠0 then some (.int k (a.tmod b)) else none:=by simp[binD]
theorem EA{α:Type}[BEq α][LawfulBEq α][DecidableEq α](a b:α):(a==b)=decide (a=b):=by rw[aO];simp
@[simp] theorem binD_eql:binD .eql (.int k a) (.int k b)=some (.bool (decide (a=b))):=by simp[binD,EA]
@[simp] theorem binD_neq:binD .neq (.int k a) (.int k b)=some (.bool (!decide (a=b))):=by simp[binD,bne,EA]
@[simp] theorem binD_lss:binD .lss (.int k a) (.int k b)=some (.bool (decide (a<b))):=by simp[binD]
@[simp] theorem binD_leq:binD .leq (.int k a) (.int k b)=some (.bool (decide (a<=b))):=by simp[binD]
@[simp] theorem binD_gtr:binD .gtr (.int k a) (.int k b)=some (.bool (decide (b<a))):=by simp[binD]
@[simp] theorem binD_geq:binD .geq (.int k a) (.int k b)=some (.bool (decide (b<=a))):=by simp[binD]
@[simp] theorem binD_eqs:binD .eql (.str s) (.str u)=some (.bool (decide (s=u))):=by simp[binD,EA]
@[simp] theorem binD_nes:binD .neq (.str s) (.str u)=some (.bool (!decide (s=u))):=by simp[binD,bne,EA]
@[simp] theorem binD_ads:binD .add (.str s) (.str u)=if s.length+u.length<=9223372036854775807 then some (.str (s++u)) else none:=rfl
@[simp] theorem pickD_t:Pf (.bool true) x y=some x:=rfl
@[simp] theorem pickD_f:Pf (.bool false) x y=some y:=rfl
@[simp] theorem pickD_b:Pf (.bool c) x y=some (if c then x else y):=rfl
@[simp] theorem nilD_cptr:nilD (.am cs n)=some (.am cs n):=rfl
@[simp] theorem nilD_ptr:nilD (.ptr id n)=some (.ptr id n):=rfl
@[simp] theorem nilD_func(g:Nat)(l m:fE):nilD (.func (.func g) l m)=some (.func (.func g) l m):=rfl
@[simp] theorem nilD_iface(t:Nat):nilD (.iface t d)=some (.iface t d):=rfl
@[simp] theorem unD_not:unD .not (.bool c)=some (.bool (!c)):=rfl
@[simp] theorem unD_neg:unD .neg (.int k a)=some (.int k (k.wrap (0-a))):=rfl
@[simp] theorem convD_int(k':IntKind):W6 false (.int k) (.int k' a)=some (.int k (k.wrap a)):=rfl
@[simp] theorem loadT_m:KB ty V d=match A6 ty.k with|true=>none|false=>KC ty V d:=by unfold KB;cases A6 ty.k<;>rfl
@[simp] theorem Y9:DY tab f x (.struct fs)=match fs[f]? with
  |some (off,ft)=>(match A6 (tab ft).k||(tab ft).size==0 with|true=>none|false=>shiftD x off)
  |none=>none:=by
 simp only[DY]
 cases fs[f]? with
 |none=>rfl
 |some p=>simp only;cases (A6 (tab p.2).k||(tab p.2).size==0)<;>rfl
@[simp] theorem shiftD_cptr:shiftD (.am cs n) off=some (.am cs (n+off)):=rfl
@[simp] theorem shiftD_ptr:shiftD (.ptr id n) off=some (.ptr id (n+off)):=rfl
@[simp] theorem fieldD_s:U5 tab f (.struct fs) (.agg cs)=match fs[f]? with
  |some (off,ft)=>if A6 (tab ft).k then none else Mh (tab ft) cs off
  |none=>none:=rfl
@[simp] theorem Y5:D1 tab (.slice e) (.slice es o) (.int k a)=match A6 (tab e).k with
  |true=>none
  | false=>match decide (0<=a) with
   |true=>(match es[a.toNat]? with
    |some c=>(match c.length==(tab e).size with|true=>some (.am c 0)|false=>none)
    |none=>none)
   |false=>none:=by
 simp only[D1]
 cases A6 (tab e).k
 ·by_cases h:0<=a
  ·simp only[h,bp,fp,bj,bd]
   cases es[a.toNat]? with
   |none=>rfl
   | some c =>
    by_cases h2:c.length=(tab e).size
    ·simp[h2]
    ·have h3:(c.length==(tab e).size)=false:=by simpa using h2
     simp[h2,h3]
  ·simp[h]
 ·rfl
@[simp] theorem Y6:D1 tab (.slice e) (.ap id off len cap) (.int k a) =
  if A6 (tab e).k then none else if 0<=a/\a.toNat<len then some (.ptr id (off+a.toNat*(tab e).size)) else none:=rfl
@[simp] theorem Y7:D1 tab (.array len e) x (.int k a) =
  if A6 (tab e).k then none else if 0<=a/\a.toNat<len then shiftD x (a.toNat*(tab e).size) else none:=by cases x<;>rfl
@[simp] theorem indexD_s:NQ .str (.str s) (.int k a)=if 0<=a then(s[a.toNat]?).map fun b=>.int .u8 b.toNat else none:=rfl
@[simp] theorem extractD_t:HE n (.tup cs)=cs[n]? :=rfl
@[simp] theorem bsliceD_s (parts:List (Nat × Operand)):If tab γ len parts (.slice e)=if A6 (tab e).k then none else
  if parts.map (·.1)==List.range len&&len*(tab e).size<=16777216&&parts.all (fun p=>(ev γ p.2).told&&(ev γ p.2).cells.length==(tab e).size) then
   some (.slice (parts.map fun p=>(ev γ p.2).cells) .clip) else none:=rfl
@[simp] theorem lenD_s:lenD (.slice e) (.slice es o)=some (.int .i64 es.length):=rfl
@[simp] theorem lenD_n:lenD (.slice e) .ak=some (.int .i64 0):=rfl
@[simp] theorem lenD_r:lenD (.slice e) (.ap id off len cap)=some (.int .i64 len):=rfl
@[simp] theorem lenD_t:lenD .str (.str s)=some (.int .i64 s.length):=rfl
@[simp] theorem loadD_c:KC ty V (.am cs off)=match ty.agg with
  |true=>(match decide (off+ty.size<=cs.length)with|true=>some (.agg ((cs.drop off).take ty.size))|false=>none)
  |false=>cs[off]? :=by
 simp only[KC]
 cases ty.agg
 ·rfl
 ·by_cases h:off+ty.size<=cs.length<;>simp[h]
@[simp] theorem loadD_p:KC ty V (.ptr id off)=match E2 (V id) with
  |some cs=>if ty.agg then(if off+ty.size<=cs.length then some (.agg ((cs.drop off).take ty.size)) else none) else cs[off]?
  |none=>none:=rfl
@[simp] theorem partD_eq:Mh ty cs off=if ty.agg then(if off+ty.size<=cs.length then some (.agg ((cs.drop off).take ty.size)) else none) else cs[off]? :=rfl
end
theorem Co{γ U':Fr}{x:Operand}(h:∀t,x=.tmp t->getD γ t=getD U' t):ev γ x=ev U' x:=by
 cases x with
 |tmp t=>exact h t rfl
 |_=>rfl
theorem FM{γ U':Fr}{l:List Operand}(h:∀x∈l,ev γ x=ev U' x):l.map (ev γ)=l.map (ev U'):=bT h
theorem OK{tab:Nat->Ty}{γ U':Fr}{V:Sig}{op:Op}(h:∀x∈op.operands,ev γ x=ev U' x):dop tab γ V op=dop tab U' V op:=by
 cases op<;>simp only[Op.operands]at h<;>simp only[dop]
 case move x=>rw[h x (by simp)]
 case assign x=>rw[h x (by simp)]
 case pick c a b=>rw[h c (by simp),h a (by simp),h b (by simp)]
 case box t x=>rw[h x (by simp)]
 case load t x=>rw[h x (by simp)]
 case nilCheck x=>rw[h x (by simp)]
 case binOp o t x y u=>rw[h x (by simp),h y (by simp)]
 case unOp o t x=>rw[h x (by simp)]
 case convert s t x=>rw[h x (by simp)]
 case makeInterface t x=>rw[h x (by simp)]
 case makeFunc fn first cap=>rw[FM (fun x hx=>h x (by simp at hx;simp[hx])),FM (l:=cap.toList) (fun x hx=>h x (by simp at hx;simp[hx]))]
 case fieldAddr s x f=>rw[h x (by simp)]
 case field s x f=>rw[h x (by simp)]
 case indexAddr t x i=>rw[h x (by simp),h i (by simp)]
 case index t x i=>rw[h x (by simp),h i (by simp)]
 case extract x i=>rw[h x (by simp)]
 case buildSlice t len parts=>
  have hp:∀p∈parts.toList,ev γ p.2=ev U' p.2:=fun p hp=>h p.2 (by simp;exact⟨p.1,by simpa using hp⟩)
  unfold If
  split
  ·rename_i e _
   have e1:(parts.toList.map fun p=>(ev γ p.2).cells)=parts.toList.map fun p=>(ev U' p.2).cells:=bT fun p fO=>by rw[hp p fO]
   have e2:(parts.toList.all fun p=>(ev γ p.2).told&&(ev γ p.2).cells.length==(tab e).size)=parts.toList.all fun p=>(ev U' p.2).told&&(ev U' p.2).cells.length==(tab e).size:=by
    rw[aO,bc,bc]
    constructor<;>intro hh p fO<;>have:=hh p fO<;>rw[hp p fO]at* <;> exact this
   rw[e1,e2]
  ·rfl
 case call c=>
  obtain⟨callee,args,ats⟩:=c
  cases callee<;>try rfl
  rename_i b
  cases b<;>try rfl
  obtain⟨args⟩:=args
  obtain⟨ats⟩:=ats
  simp only[dop,lenC]
  split
  ·rename_i t x
   rw[h x (by simp[Call.operands])]
  ·rfl
section
variable {P:Program}{ro:Option Nat}{n:Nat}{ops:Array Oper}{tab:Nat->Ty}(N:Nat){C:Sig->Prop}
def Yld (P:Program) (n:Nat) (ops:Array Oper) (tab:Nat->Ty) (N:Nat) (C:Sig->Prop) (γ:Fr) (o:Oper) (d:D):Prop :=
  AD n o=true /\
  ((AT ops γ o=some true /\
      ((isEff o.op=false /\ ∀ V,C V->dop tab γ V o.op=some d) \/
       ∃fop args ats f first cap,o.op=(cv fop args ats)/\ev γ fop=.func (.func f) first cap /\
        ∀V,C V->au P f (first++args.toList.map (ev γ)++cap) V fun x S'=>x=.ret d/\C S')) \/
   (AT ops γ o=some false/\Ei N o.op=true/\d=.any))
theorem Hr{o:Oper}{t:Nat}(h:Operand.tmp t∈o.op.operands):t∈o.looksAt ops:=
 cY _ (List.mem_filterMap.2 ⟨.tmp t,by simpa using h,rfl⟩)
theorem J6{γ U':Fr}{o:Oper}(h:∀t∈o.looksAt ops,getD γ t=getD U' t):AT ops γ o=AT ops U' o:=by
 unfold AT
 cases hg:o.guard with
 |none=>rfl
 | some p =>
  obtain⟨j,want⟩:=p
  have:Dr ops γ j=Dr ops U' j:=by
   unfold Dr
   cases hd:(ops[j]?).bind (·.dst)with
   |none=>rfl
   |some t=>
    have:=h t (eL _ (by simp[hg,hd]))
    simp[this]
  have hu:Jb ops γ j=Jb ops U' j:=by
   unfold Jb
   cases hd:(ops[j]?).bind (·.dst)with
   |none=>rfl
   |some t=>
    have:=h t (eL _ (by simp[hg,hd]))
    simp[this]
  simp only[this,hu]
theorem Yld.congr{γ U':Fr}{o:Oper}{d:D}(h:∀t∈o.looksAt ops,getD γ t=getD U' t)(hy:Yld P n ops tab N C γ o d):Yld P n ops tab N C U' o d:=by
 have fP:∀x∈o.op.operands,ev γ x=ev U' x:=fun x hx=>Co fun t ht=>h t (Hr (ht ▸ hx))
 refine⟨hy.1,?_⟩
 rw[<-J6 h]
 rcases hy.2 with⟨hw,⟨he,hd⟩|⟨fop,args,ats,f,first,cap,ho,hf,hc⟩⟩|hs
 ·exact .inl ⟨hw,.inl ⟨he,fun V hZ=>by rw[<-OK fP];exact hd V hZ⟩⟩
 ·rw[ho]at fP
  refine .inl ⟨hw,.inr ⟨fop,args,ats,f,first,cap,ho,by rw[<-fP fop (by simp[Op.operands,Call.operands])];exact hf,fun V hZ=>?_⟩⟩
  rw[<-FM (γ:=γ) fun x hx=>fP x (by simp at hx;simp[Op.operands,Call.operands,hx])]
  exact hc V hZ
 ·exact .inr hs
theorem AI{dst:Option Tmp}{d:D}{γ:Fr}{t:Nat}(h:dst≠some t):getD (putD dst d γ) t=getD γ t:=by
 cases dst with
 |none=>rfl
 |some k=>
  simp only[putD,Aa]
  rw[aN fun e=>h (by rw[e])]
def Alike(γ U':Fr):Prop:= ∀t,getD γ t=getD U' t
theorem BL{a b:Option Tmp}(d e:D)(γ:Fr)(h:∀t,a=some t->b≠some t):Alike (putD a d (putD b e γ)) (putD b e (putD a d γ)):=by
 intro t
 cases a with
 |none=>rfl
 | some i =>
  cases b with
  |none=>rfl
  | some j =>
   have gw:i≠j:=fun e=>h i rfl (by rw[e])
   simp only[putD,Aa]
   by_cases h1:t=i
   ·subst h1;simp[gw]
   ·by_cases h2:t=j
    ·subst h2;simp[h1,aQ h1]
    ·simp[h1,h2]
theorem Alike.put{γ U':Fr}(h:Alike γ U')(dst:Option Tmp)(d:D):Alike (putD dst d γ) (putD dst d U'):=by
 intro t
 cases dst with
 |none=>exact h t
 |some k=>simp only[putD,Aa];rw[h t]
def AnyD(P:Program)(n:Nat)(ops:Array Oper)(tab:Nat->Ty)(N:Nat)(C:Sig->Prop)(T:Fr->Prop):Nat->Array Bool->Fr->Prop
 |0,_,γ=>T γ
 |m+1,listed,γ=>Region.ready .any ops listed≠[] /\ ∀i∈Region.ready .any ops listed, ∃o d,ops[i]? = some o/\Yld P n ops tab N C γ o d/\AnyD P n ops tab N C T m (listed.setIfInBounds i true) (putD o.dst d γ)
theorem AnyD.alike{T:Fr->Prop}(hT:∀γ U',Alike γ U'->T γ->T U'): ∀(m:Nat) (listed:Array Bool) (γ U':Fr),Alike γ U'->AnyD P n ops tab N C T m listed γ->AnyD P n ops tab N C T m listed U'
 |0,_,_,_,h,k=>hT _ _ h k
 |m+1,_,_,_,h,k=>⟨k.1,fun i hi=>
  let ⟨o,d,h1,h2,h3⟩:=k.2 i hi
  ⟨o,d,h1,h2.congr N fun t _=>h t,AnyD.alike hT m _ _ _ (h.put _ _) h3⟩⟩
def cnt(plen:Nat)(listed:Array Bool):Nat:=((List.range plen).filter fun p=> !listed.getD p true).length
def Closed(ops:Array Oper)(listed:Array Bool):Prop:=
 ∀(q:Nat) o,ops[q]? = some o->listed.getD q false=true->∀e∈o.after,Region.binds .any e=true->listed.getD e.on false=true
theorem Closed.set{listed:Array Bool}(h:Closed ops listed){i:Nat}(hi:i∈Region.ready .any ops listed):Closed ops (listed.setIfInBounds i true):=by
 intro q o ho hq e he hb
 obtain⟨_,oi,gg,e7⟩:=mem_ready.1 hi
 by_cases gc:q=i
 ·subst gc
  rw[ho]at gg;cases gg
  exact getD_set_true (e7 e he hb)
 ·rw[getD_set_ne false (aQ gc)]at hq
  exact getD_set_true (h q o ho hq e he hb)
end
def EF(ops:Array Oper):Nat->Nat->Nat->Bool
 |0,_,_=>false
 |fuel+1,k,p=>match ops[k]? with
  |some o=>(o.after.any fun e=>Region.binds .any e&&e.on==p)||(o.after.any fun e=>Region.binds .any e&&(decide (p<e.on)&&EF ops fuel e.on p))
  |none=>false
theorem CC{ops:Array Oper}{listed:Array Bool}(hc:Closed ops listed): ∀(fuel k p:Nat) (o:Oper),ops[k]? = some o->
  (∀e∈o.after,Region.binds .any e=true->listed.getD e.on false=true)->EF ops fuel k p=true->listed.getD p false=true
 |0,_,_,_,_,_,h=>by cases h
 | fuel+1,k,p,o,ho,e7,h=>by
  simp only[EF,ho,bL]at h
  rcases h with h|h
  ·rw[fe]at h
   obtain⟨e,he,h⟩:=h
   simp only[aI,cp]at h
   obtain⟨hb,rfl⟩:=h
   exact e7 e he hb
  ·rw[fe]at h
   obtain⟨e,he,h⟩:=h
   simp only[aI]at h
   obtain⟨hb,_,h⟩:=h
   have h1:=e7 e he hb
   cases hq:ops[e.on]? with
   |none=>cases fuel<;>simp[EF,hq]at h
   |some q=>exact CC hc fuel e.on p q hq (fun e' f9 gB=>hc e.on q hq h1 e' f9 gB) h
section
variable {P:Program}{ro:Option Nat}{n:Nat}{ops:Array Oper}{tab:Nat->Ty}{N:Nat}{C:Sig->Prop}{Q:DX->St->Prop}{df:List DDf}
theorem D3{l:List Oper}{γ U':Fr}{V:Sig}(h:Alike γ U')(k:av P ro n ops Q l ⟨γ,V,df⟩):av P ro n ops Q l ⟨U',V,df⟩:=
 fun g w a r hr hs=>k g w a r hr ⟨hs.sim,⟨hs.tmps.1,fun t=>by rw[h t];exact hs.tmps.2 t⟩,hs.df⟩
end
end Go.DL
