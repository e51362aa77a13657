/- A part of the proof. -/
import Derived.Test.YtlfimpogphmbdaaGreatH02
import Derived.OrdersIn
import Derived.Still
set_option linter.all false
namespace Go.DL
open Go
def ORun(P:Program)(g:G)(V:Sig)(d:D)(s:Sem Next)(w:World):Prop:=
 ∃g' w' v,s.run P w=.ok (.value v) w'/\g.le g'/\Sim P g' V w'/\Rep g' d v
def ORun.of{P:Program}{g:G}{V:Sig}{d:D}{s:Sem Value}{w:World}(h:PRun P g V d s w):ORun P g V d (do pure (.value (<-s))) w:=
 let ⟨g',w',v,h1,h2,h3,h4⟩:=h
 ⟨g',w',v,by simp only[bb,h1,aU,bp],h2,h3,h4⟩
def AA{P:Program}{g:G}{V:Sig}{d:D}{s:Sem Value}{w:World}{v:Value}(hs:Sim P g V w)(h:s.run P w=.ok v w)(hr:Rep g d v):PRun P g V d s w:=
 ⟨g,w,v,h,.refl g,hs,hr⟩
def EI{α:Type}{c:Prop}[Decidable c]{x y:α}(h:(if c then some x else none)=some y):c/\x=y:=by
 split at h
 ·rename_i hc;cases h;exact⟨hc,rfl⟩
 ·cases h
def BJ{α:Type}{c:Prop}[Decidable c]{x:Option α}{y:α}(h:(if c then none else x)=some y): ¬c/\x=some y:=by
 split at h
 ·cases h
 ·rename_i hc;exact⟨hc,h⟩
section
variable {P:Program}{tab:Nat->Ty}(ht:BC P tab){g:G}{V:Sig}{w:World}(hs:Sim P g V w)
include ht hs
theorem UK{t:Nat}{cs:fQ}{off:Nat}{d:D}{vs:List Value}(hk:A5 (tab t).k=false)(h:Nd (tab t) cs off=some d)(hr:kI g cs vs):
  PRun P g V d (part t vs.toArray off) w:=by
 have hl:=kI.length hr;unfold Nd at h;unfold PRun part;simp only[bb,K7 (ht t) (Aj hk),aU]
 by_cases ha:(tab t).agg=true
 ·rw[aS ha]at h⊢;obtain⟨gV,rfl⟩:=EI h;refine⟨g,w,.agg (vs.toArray.extract off (off+(tab t).size)),by simp only[bb,Bh (ht t) (Aj hk),aU,bp],.refl g,hs,(vs.drop off).take (tab t).size,k7,?_⟩;refine Bs (by simp;omega) fun j x y hx hy=>?_
  rw[dT]at hx hy;split at hx
  ·rename_i hj;simp only[hj,bI,dc]at hx hy;have:=kI.get hr (off+j);rw[hx,hy]at this;exact this
  ·cases hx
 ·simp only[cy]at ha;simp only[ha,bz,bl]at h⊢
  have hj:off<vs.length:=by
   have:=(bC.1 h).1;omega
  have hv:vs.toArray[off]? = some vs[off]:=by simp[hj]
  refine⟨g,w,vs[off],by rw[hv];rfl,.refl g,hs,?_⟩;have:=kI.get hr off;rw[h,aT hj]at this;exact this
theorem Lp{s f off ft:Nat}{fs:List (Nat×Nat)}{x:Value}{d d':D}(hk:(tab s).k=.struct fs)(hf:fs[f]? = some (off,ft))(h1:A5 (tab ft).k=false)(h2:(tab ft).size≠0)
  (hx:Rep g d x) (hd:lu d off=some d'):PRun P g V d' (Instr.fieldAt s x f) w:=by
 obtain⟨l,gg,gx⟩:=Iy ht hk;have fX:(l.toList.map (fun f=>(f.offset,f.type)))[f]? = some (off,ft):=by rw[gx];exact hf
 rw[bN]at fX;obtain⟨fld,gA,he⟩:=cN.1 fX;cases he;have d9:l[f]? = some fld:=by rw[<-gA];simp
 cases d<;>simp only[lu,bJ,reduceCtorEq]at hd<;>subst hd
 case aw cs o=>
  obtain⟨b,o',rfl,hr⟩:=hx;refine AA hs (v:=.pointer (some ⟨b,o'+(o+fld.offset),none⟩)) ?_ ⟨b,o',rfl,hr⟩;simp only[Instr.fieldAt,bb,A2 gg,aU,d9,Instr.sureAddr,bp,Hb ht h1 h2,cZ]
 case ptr i o=>
  obtain⟨b,hb,rfl⟩:=hx;refine AA hs (v:=.pointer (some ⟨b,o+fld.offset,none⟩)) ?_ ⟨b,hb,rfl⟩;simp only[Instr.fieldAt,bb,A2 gg,aU,d9,Instr.sureAddr,bp,Hb ht h1 h2]
theorem Kw{t e:Nat}{es:fV}{own:Own}{k:IntKind}{n:Int}{c:fQ}{x:Value}(hk:(tab t).k=.slice e)(he:A5 (tab e).k=false)
  (hx:Rep g (.slice es own) x) (h0:0<=n) (hc:es[n.toNat]? = some c) (hl:c.length=(tab e).size):PRun P g V (.aw c 0) (Instr.indexAt t x (.int k n)) w:=by
 obtain⟨a,cap,rfl,gQ,hr,_⟩:=hx;rcases hr with rfl|⟨sz,b,o,rfl,hr⟩
 ·simp at hc
 obtain⟨h1,h2⟩:=kl.get ht hr hc;have gw:n.toNat<es.length:=(bC.1 hc).1;refine AA hs (v:=.pointer (some ⟨b,o+n.toNat*sz,none⟩)) ?_ ⟨b,o+n.toNat*sz,rfl,h2⟩;have d6:0<=n/\n<(es.length:Int):=⟨h0,k0⟩;simp only[Instr.indexAt,bb,asIntOf,bp,aU,A2 (Bm ht hk),d6,dV,bI,Bh (ht e) (Aj he),Cm];rw[<-hl,h1]
theorem Lo{t e id off len cap:Nat}{k:IntKind}{n:Int}{x:Value}(hk:(tab t).k=.slice e)(he:A5 (tab e).k=false)
  (hx:Rep g (.ax id off len cap) x) (h0:0<=n/\n.toNat<len):PRun P g V (.ptr id (off+n.toNat*(tab e).size)) (Instr.indexAt t x (.int k n)) w:=by
 obtain⟨b,hb,rfl⟩:=hx;refine AA hs (v:=.pointer (some ⟨b,off+n.toNat*(tab e).size,none⟩)) ?_ ⟨b,hb,rfl⟩;have d6:0<=n/\n<(len:Int):=⟨h0.1,k0⟩;simp only[Instr.indexAt,bb,asIntOf,bp,aU,A2 (Bm ht hk),d6,dV,bI,Bh (ht e) (Aj he),Cm]
theorem Kx{t len e:Nat}{d d':D}{k:IntKind}{n:Int}{x:Value}(hk:(tab t).k=.array len e)(he:A5 (tab e).k=false)
  (hx:Rep g d x) (h0:0<=n/\n.toNat<len)
  (hd:lu d (n.toNat*(tab e).size)=some d'):PRun P g V d' (Instr.indexAt t x (.int k n)) w:=by
 have d6:0<=n/\n<(len:Int):=⟨h0.1,k0⟩;cases d<;>simp only[lu,bJ,reduceCtorEq]at hd<;>subst hd
 case aw cs o=>
  obtain⟨b,o',rfl,hr⟩:=hx;refine AA hs (v:=.pointer (some ⟨b,o'+(o+n.toNat*(tab e).size),none⟩)) ?_ ⟨b,o',rfl,hr⟩;simp only[Instr.indexAt,Instr.sureAddr,bb,asIntOf,bp,aU,A2 (JY ht hk),d6,dV,bI,Bh (ht e) (Aj he),Cm,cZ]
 case ptr i o=>
  obtain⟨b,hb,rfl⟩:=hx;refine AA hs (v:=.pointer (some ⟨b,o+n.toNat*(tab e).size,none⟩)) ?_ ⟨b,hb,rfl⟩;simp only[Instr.indexAt,Instr.sureAddr,bb,asIntOf,bp,aU,A2 (JY ht hk),d6,dV,bI,Bh (ht e) (Aj he),Cm]
end
def Uw(off:Nat): ∀(vs:List Value) (j:Nat) (cs:Array Value),off+j+vs.length<=cs.size->
  ((vs.zipIdx j).foldl (fun (cs:Array Value) (p:Value×Nat)=>cs.setIfInBounds (off+p.2) p.1) cs).toList=cs.toList.take (off+j)++vs++cs.toList.drop (off+j+vs.length):=by
 intro vs
 induction vs with
 |nil=>intro j cs _;simp
 | cons x vs ih =>
  intro j cs h;simp only[aV]at h;simp only[List.zipIdx_cons,dW];rw[ih (j+1) _ (by simp;omega)];apply ek;intro i;simp only[Array.toList_setIfInBounds,di,aO,ck,cg,bY,aV,dT,dc,dJ,List.getElem?_cons];have e1:min (off+(j+1)) cs.size=off+j+1:=by omega
  have e2:min (off+j) cs.size=off+j:=by omega
  rw[e1,e2]
  by_cases h1:i<off+j
  ·have:i<off+j+1+vs.length:=by omega
   have h3:i<off+j+1:=by omega
   have h4:i<off+j+(vs.length+1):=by omega
   have h5:i<off+(j+1):=by omega
   have h6:¬off+j=i:=by omega
   simp[h1,this,h3,h4,h5,h6]
  ·by_cases h2:i=off+j
   ·subst h2;have:off+j<off+(j+1):=by omega
    have h7:off+j<cs.size:=by omega
    have h8:¬off+j+1+vs.length<=off+j:=by omega
    simp[this,h7,h8]
   ·have h3:¬i<off+j+1:=by omega
    by_cases h4:i<off+j+1+vs.length
    ·have h5:i<off+j+(vs.length+1):=by omega
     have h6:¬i-(off+j)=0:=by omega
     simp only[h4,bI,h3,bl,h5,h1,h6]
     congr 1
    ·have h5:¬i<off+j+(vs.length+1):=by omega
     simp only[h4,bl,h5];have e3:off+(j+1)+vs.length+(i-(off+j+1+vs.length))=i:=by omega
     have e4:off+j+(vs.length+1)+(i-(off+j+(vs.length+1)))=i:=by omega
     have h6:¬off+j=i:=by omega
     rw[e3,e4];simp[h6]
def Vt{sz:Nat}: ∀(ps:List (Nat×Value)) (k:Nat) (cells:Array Value),ps.map (·.1)=List.range' k ps.length->(∀p∈ps,p.2.cells.size=sz)->(k+ps.length)*sz=cells.size->
  Instr.fill (fun i=>some (i*sz,sz)) cells ps=some ((cells.toList.take (k*sz))++(ps.flatMap fun p=>p.2.cells.toList)).toArray:=by
 intro ps
 induction ps with
 |nil=>
  intro k cells _ _ h;simp only[Instr.fill,eV,br];rw[bM (by simp at h⊢; omega)]
 | cons p ps ih =>
  intro k cells hm gk h;obtain⟨i,v⟩:=p;simp only[bg,aV,List.range'_succ,da]at hm;obtain⟨rfl,hm⟩:=hm;have hv:v.cells.size=sz:=gk (i,v) k7;simp only[aV]at h;have e1:(i+(ps.length+1))*sz=i*sz+(ps.length+1)*sz:=cK _ _ _;have e2:(ps.length+1)*sz=ps.length*sz+sz:=by rw[cK,eK]
  have e3:(i+1)*sz=i*sz+sz:=by rw[cK,eK]
  have e4:(i+1+ps.length)*sz=cells.size:=by rw[<-h];congr 1;omega
  have h1:¬(v.cells.size≠sz||decide (i*sz+v.cells.size>cells.size))=true:=by
   simp[hv];omega
  simp only[Instr.fill,h1,bl];have go:=Uw (i*sz) v.cells.toList 0 cells (by simp[hv];omega);obtain⟨c2,gH⟩:∃c2,v.cells.zipIdx.foldl (fun (cs:Array Value) (p:Value×Nat)=>cs.setIfInBounds (i*sz+p.2) p.1) cells=c2:=⟨_,rfl⟩
  have gG:c2.toList=cells.toList.take (i*sz)++v.cells.toList++cells.toList.drop (i*sz+sz):=by
   rw[<-gH,<-fw,Array.toList_zipIdx,go];simp[hv]
  have hl:c2.size=cells.size:=by
   have:=cf List.length gG;simp[hv]at this;omega
  have:=ih (i+1) c2 hm (fun p hp=>gk p (by simp[hp])) (by rw[e4,hl]);rw[show(v.cells.zipIdx.foldl (fun cs x=>match x with|(c,j)=>cs.setIfInBounds (i*sz+j) c) cells)=c2 from gH,this]
  congr 2
  rw[gG,e3];simp only[cx];have e5:(cells.toList.take (i*sz)).length=i*sz:=by simp;omega
  rw[bc,List.take_append,bM k0,e5,List.take_append];simp[hv,show i*sz+sz-i*sz=sz by omega,bM]
def RE(k:Nat): ∀(l:List (List Value)),(∀e∈l,e.length=k)->∀(i j:Nat) e,l[i]? = some e->j<k->l.flatten[i*k+j]? = e[j]?
 |[],_,i,j,e,h,_=>by simp at h
 |x::l,hl,0,j,e,h,hj=>by
  simp at h;subst h;have:=hl x k7;simp[di,this,hj]
 |x::l,hl,i+1,j,e,h,hj=>by
  have hx:=hl x k7;have:=RE k l (fun y hy=>hl y (by simp[hy])) i j e (by simpa using h) hj;have e2:(i+1)*k=i*k+k:=by rw[cK,eK]
  simp only[cT,di];rw[aQ k0,<-this]
  congr 1;omega
def Qi{g:G}{b:Nat}: ∀{ds:fQ}{vs:List Value}{o:Nat},kI g ds vs->(∀(j:Nat) v,vs[j]? = some v->g.imm b (o+j)=some v)->kx g b o ds
 |[],_,_,_,_=>trivial
 | d::ds,_,o,⟨v,r,e,h1,h2⟩,h=>by
  subst e
  exact⟨⟨v,by simpa using h 0 v rfl,h1⟩,Qi h2 fun j x hx=>by
   have:=h (j+1) x (by simpa using hx)
   rwa [show o+(j+1)=o+1+j by omega]at this⟩
def UE{g:G}{b sz:Nat}: ∀{es:fV}{vss:List (List Value)}{o:Nat},vss.length=es.length->(∀(i:Nat) e v,es[i]? = some e->vss[i]? = some v->kI g e v)->
  (∀e∈es,e.length=sz)->(∀(i:Nat) v,vss[i]? = some v->∀(j:Nat) x,v[j]? = some x->g.imm b (o+i*sz+j)=some x)->kl g b sz o es
 |[],_,_,_,_,_,_=>trivial
 |e::es,[],_,h,_,_,_=>by simp at h
 |e::es,v::vss,o,h,hr,hl,hi=>by
  refine⟨⟨hl e k7,Qi (hr 0 e v rfl rfl) fun j x hx=>by simpa using hi 0 v rfl j x hx⟩,UE (by simpa using h) (fun i e' v' h1 h2=>hr (i+1) e' v' (by simpa using h1) (by simpa using h2)) (fun e' he=>hl e' (by simp[he])) fun i v' hv j x hx=>?_⟩;have:=hi (i+1) v' (by simpa using hv) j x hx
  rwa [show o+(i+1)*sz+j=o+sz+i*sz+j by rw[cK];omega]at this
section
variable {P:Program}{tab:Nat->Ty}(ht:BC P tab){g:G}{V:Sig}{w:World}(hs:Sim P g V w)
include ht hs
theorem L3{t e len:Nat}{parts:List (Nat×Value)}{ds:fQ}(hk:(tab t).k=.slice e)(he:A5 (tab e).k=false)
  (hm:parts.map (·.1)=List.range len) (gk:len*(tab e).size<=16777216) (hr:kI g ds (parts.map (·.2))) (d7:∀d∈ds,d.told=true/\d.cells.length=(tab e).size) :
  PRun P g V (.slice (ds.map D.cells) .clip) (Instr.buildSlice t len parts.toArray) w:=by
 have hlen:parts.length=len:=by have:=cf List.length hm;simpa using this
 have gj:ds.length=len:=by have:=kI.length hr;simp at this;omega
 have f0:∀(i:Nat) (d:D) (p:Nat×Value),ds[i]? = some d->parts[i]? = some p->kI g d.cells p.2.cells.toList:=by
  intro i d p h1 h2;have:=kI.get hr i;rw[h1,bN,h2]at this;exact Gg this (d7 d (de h1)).1
 have d8:∀p∈parts,p.2.cells.size=(tab e).size:=by
  intro p hp;obtain⟨i,hi⟩:=List.mem_iff_getElem?.1 hp;have gN:i<ds.length:=by have:=(bC.1 hi).1;omega
  have h1:ds[i]? = some ds[i]:=aT gN;have:=kI.length (f0 i _ p h1 hi);have h2:=(d7 _ (de h1)).2;simp at this;omega
 obtain⟨z,hz,gT,gS⟩:=E8 (ht e) (Aj he) w
 let cells:=parts.flatMap fun p=>p.2.cells.toList
 have gW:cells.length=len*(tab e).size:=by
  have:∀(l:List (Nat×Value)),(∀p∈l,p.2.cells.size=(tab e).size)->(l.flatMap fun p=>p.2.cells.toList).length=l.length*(tab e).size:=by
   intro l
   induction l with
   |nil=>intro _;simp
   |cons p l ih=>
    intro h;have h1:=ih fun q hq=>h q (by simp[hq])
    have h2:=h p k7;simp only[cx,aO,h1,aV,bY,h2,cK,eK];omega
  rw[<-hlen];exact this parts d8
 have fY:(Instr.buildSlice t len parts.toArray).run P w=.ok (.slice (some ⟨w.heap.size,0,none⟩) len len) { w with heap:=w.heap.push (.cells cells.toArray e) }:=by
  have e8:∀(cs:Array Value),cs.size=len*(tab e).size->Instr.fill (fun i=>some (i*(tab e).size,(tab e).size)) cs parts=some cells.toArray:=by
   intro cs gP;have:=Vt (sz:=(tab e).size) parts 0 cs (by rw[hm,hlen,List.range_eq_range']) d8 (by rw[hlen,gP];simp);simpa using this
  simp only[Instr.buildSlice,bb,A2 (Bm ht hk),aU,Bh (ht e) (Aj he)];rw[aQ k0]
  by_cases h0:len*(tab e).size=0
  ·simp only[h0,bI,pure_bind];rw[e8 _ (by simp[h0])];simp[DF]
  ·simp only[h0,bl,bind_assoc,bb,hz,pure_bind,aU];rw[e8 _ k7];simp[DF]
 refine⟨g.addImm w.heap.size cells,_,_,fY,G.addImm_le hs _,hs.addImm cells e (0,0),some ⟨w.heap.size,0,none⟩,len,?_,by simp[gj],?_,by simp[gj]⟩
 ·simp[gj]
 ·right
  refine⟨(tab e).size,w.heap.size,0,rfl,UE (vss:=parts.map fun p=>p.2.cells.toList) (by simp[hlen,gj]) ?_ ?_ ?_⟩
  ·intro i c v h1 h2;rw[bN]at h1 h2;obtain⟨d,hd,rfl⟩:=cN.1 h1;obtain⟨p,hp,rfl⟩:=cN.1 h2;exact kI.mono (G.addImm_le hs _) _ (f0 i d p hd hp)
  ·intro c hc;obtain⟨d,hd,rfl⟩:=bD.1 hc;exact(d7 d hd).2
  ·intro i v hv j x hx
   have gU:v.length=(tab e).size:=by
    rw[bN]at hv;obtain⟨p,hp,rfl⟩:=cN.1 hv;simpa using d8 p (de hp)
   have hj:j<(tab e).size:=by have:=(bC.1 hx).1;omega
   have:=RE (tab e).size (parts.map fun p=>p.2.cells.toList) (fun e' gB=>by
    obtain⟨p,hp,rfl⟩:=bD.1 gB
    simpa using d8 p hp) i j v hv hj
   show(if w.heap.size=w.heap.size then cells[0+i*(tab e).size+j]? else _)=some x;rw[aS rfl,bZ];have h3:cells=(parts.map fun p=>p.2.cells.toList).flatten:=List.flatMap_def ..;rw[h3,this,hx]
end
def E9{g:G}{γ:Fr}{m:Nat}{a:Act}(h:lF g γ m a.tmps): ∀(l:List Operand),kI g (l.map (ev γ)) (l.map a.eval)
 |[]=>rfl
 |x::l=>⟨_,_,rfl,Az h x,E9 h l⟩
def Fu{α β:Type}(a:Array α)(f:α->β):a.map f=(a.toList.map f).toArray:=by cases a;simp
section
variable {P:Program}{tab:Nat->Ty}(ht:BC P tab){g:G}{V:Sig}{w:World}(hs:Sim P g V w)
include ht hs
theorem Zs{γ:Fr}{m:Nat}{a:Act}(hT:lF g γ m a.tmps){o:Oper}{d:D}(h:dop tab γ V o.op=some d):ORun P g V d (execOp a.eval o) w:=by
 obtain⟨dst,op,type,pos,after,guard⟩:=o;simp only at h;have E:=fun x=>Az hT x;unfold execOp;cases op<;>simp only[dop,Ql,nilD,unD,Xw,Ei,Vv,Dh,OQ,Ii,IZ,boxD,V3,Lm]at h<;>(try (cases h;done))
 case move x=>cases h;exact⟨g,w,_,rfl,.refl g,hs,E x⟩
 case assign x=>cases h;exact⟨g,w,_,rfl,.refl g,hs,E x⟩
 case pick c x y=>
  have hc:=E c;split at h
  ·rename_i t e;rw[e]at hc;cases h;obtain hc:=HW hc;refine⟨g,w,if t then a.eval x else a.eval y,?_,.refl g,hs,?_⟩
   ·simp[asBool,hc,Sem.run]
   ·cases t
    ·exact E y
    ·exact E x
  ·cases h
 case box t v=>
  obtain⟨h1,rfl⟩:=EI h;exact .of (Zx hs (E v) h1 t)
 case load t x=>
  obtain⟨h1,h2⟩:=BJ h;exact .of (T6 (ht t) (Aj (by simpa using h1)) hs (E x) h2)
 case nilCheck x=>
  have hx:=E x
  dsimp only
  split at h<;>cases h<;>(rename_i e;rw[e]at hx)
  ·obtain⟨b,o,hv,hr⟩:=hx;rw[hv];exact⟨g,w,_,rfl,.refl g,hs,b,o,rfl,hr⟩
  ·obtain⟨b,hb,hv⟩:=hx;rw[hv];exact⟨g,w,_,rfl,.refl g,hs,b,hb,rfl⟩
  ·obtain⟨fs,cs,hv,hr⟩:=hx;rw[hv];exact⟨g,w,_,rfl,.refl g,hs,fs,cs,rfl,hr⟩
  ·obtain⟨y,hv,hr⟩:=hx;rw[hv];exact⟨g,w,_,rfl,.refl g,hs,y,rfl,hr⟩
 case binOp op t x y yt=>
  obtain⟨r,hr,hd⟩:=XK (P:=P) (t:=t) h (E x) (E y) x y w;exact .of (AA hs hr hd)
 case unOp op t x=>
  dsimp only
  have hx:=E x;split at h<;>cases h<;>(rename_i e;rw[e]at hx)
  ·obtain hv:=HW hx;rw[hv];exact .of (AA hs (v:=.bool _) rfl rfl)
  ·have hv:a.eval x=.int _ _:=hx;rw[hv];exact .of (AA hs (v:=.int _ _) rfl rfl)
 case convert s t x=>
  dsimp only
  have hx:=E x;split at h<;>cases h;rename_i h1 h2 h3;rw[h3]at hx;have hv:a.eval x=.int _ _:=hx;rw[hv];obtain⟨inf,desc,z,_,hu,_⟩:=Db (ht s) (Aj h1);refine .of (AA hs (v:=.int _ _) ?_ rfl);simp only[convert,bb,A2 hu,A2 (MX ht h2),aU];cases desc<;>rfl
 case makeInterface t x=>
  obtain⟨h1,h2⟩:=BJ h;cases h2;simp only[bV,dX,cy]at h1;obtain⟨inf,desc,z,_,hu,hk,_⟩:=Db (ht t) (Aj h1.1);refine .of (AA hs (v:=.iface t (a.eval x)) ?_ ⟨_,rfl,E x⟩);simp only[Instr.makeInterface,bb,A2 hu,aU];cases desc<;>first|rfl|skip
  rename_i ms;cases gM:(tab t).k<;>simp[gM,KOK,Ht]at hk h1
 case makeFunc fn first cap=>
  cases h;refine .of (AA hs (v:=.func fn (first.map a.eval) (cap.map a.eval)) rfl ?_);rw[Fu,Fu];exact⟨_,_,rfl,E9 hT _,E9 hT _⟩
 case fieldAddr s x f=>
  split at h<;>(try (cases h;done));rename_i fs hk;split at h<;>(try (cases h;done));rename_i off ft hf;obtain⟨h1,h2⟩:=BJ h;simp only[bV,dX,cy,cL]at h1;exact .of (Lp ht hs hk hf h1.1 h1.2 (E x) h2)
 case field s x f=>
  dsimp only
  split at h<;>(try (cases h;done));rename_i fs cs hk hx;split at h<;>(try (cases h;done));rename_i off ft hf;obtain⟨h1,h2⟩:=BJ h;have hv:=E x;rw[hx]at hv;obtain⟨vs,hv,hr⟩:=hv;obtain⟨l,gg,gx⟩:=Iy ht hk;have fX:(l.toList.map (fun f=>(f.offset,f.type)))[f]? = some (off,ft):=by rw[gx];exact hf
  rw[bN]at fX;obtain⟨fld,gA,he⟩:=cN.1 fX;cases he;have d9:l[f]? = some fld:=by rw[<-gA];simp
  obtain⟨g',w',v,r1,r2,r3,r4⟩:=UK ht hs (by simpa using h1) h2 hr;refine .of ⟨g',w',v,?_,r2,r3,r4⟩;simp only[Instr.field,bb,A2 gg,aU,d9,hv,asAgg,bp,r1]
 case indexAddr t x i=>
  dsimp only
  have hx:=E x;have hi:=E i;split at h<;>(try (cases h;done))
  ·rename_i e es own k n hk h1 h2;rw[h1]at hx;rw[h2]at hi;have hv:a.eval i=.int k n:=hi;rw[hv];obtain⟨h3,h⟩:=BJ h;split at h<;>(try (cases h;done));rename_i h0;split at h<;>(try (cases h;done));rename_i c hc;obtain⟨hl,rfl⟩:=EI h;exact .of (Kw ht hs hk (by simpa using h3) hx h0 hc hl)
  ·rename_i e id off len cap k n hk h1 h2;rw[h1]at hx;rw[h2]at hi;have hv:a.eval i=.int k n:=hi;rw[hv];obtain⟨h3,h⟩:=BJ h;obtain⟨h4,rfl⟩:=EI h;exact .of (Lo ht hs hk (by simpa using h3) hx h4)
  ·rename_i len e k n hk h2;rw[h2]at hi;have hv:a.eval i=.int k n:=hi;rw[hv];obtain⟨h3,h⟩:=BJ h;split at h
   ·rename_i h4;exact .of (Kx ht hs hk (by simpa using h3) hx h4 h)
   ·cases h
 case index t x i=>
  dsimp only
  have hx:=E x;have hi:=E i;split at h<;>(try (cases h;done));rename_i s k n hk h1 h2;rw[h1]at hx;rw[h2]at hi;have hv:a.eval i=.int k n:=hi;have gI:a.eval x=.string ⟨s.toArray⟩:=hx;rw[hv,gI];split at h<;>(try (cases h;done));rename_i h0;obtain⟨b,hb,rfl⟩:=cN.1 h;refine .of (AA hs (v:=.int .u8 b.toNat) ?_ rfl);simp only[Instr.index,bb,asIntOf,bp,aU,A2 (JX ht hk),h0,bI]
  have:(ByteArray.mk s.toArray)[n.toNat]? = some b:=by
   obtain⟨h3,h4⟩:=bC.1 hb;rw[getElem?_pos _ _ (by simpa[ByteArray.size] using h3)];simp[ByteArray.getElem_eq_getElem_data,h4]
  rw[this];rfl
 case extract x i=>
  dsimp only
  have hx:=E x;split at h<;>(try (cases h;done));rename_i ds e;rw[e]at hx;obtain⟨vs,hv,hr⟩:=hx;rw[hv];have hl:=kI.length hr;have hi:i<vs.length:=by have:=(bC.1 h).1;omega
  have:=kI.get hr i;rw[h,aT hi]at this;refine .of (AA hs (v:=vs[i]) ?_ this);simp[Instr.extract,hi,Sem.run]
 case buildSlice t len parts=>
  dsimp only
  split at h<;>(try (cases h;done));rename_i e hk;obtain⟨h1,h⟩:=BJ h;obtain⟨h2,rfl⟩:=EI h;simp only[aN,cL,aP,bh]at h2;obtain⟨⟨h3,h4⟩,h5⟩:=h2
  have hr:kI g (parts.toList.map fun p=>ev γ p.2) ((parts.toList.map fun (p:Nat×Operand)=>(p.1,a.eval p.2)).map (·.2)):=by
   rw[cr]
   have:∀(l:List (Nat×Operand)),kI g (l.map fun p=>ev γ p.2) (l.map ((fun x=>x.2) ∘ fun p=>(p.1,a.eval p.2))):=by
    intro l
    induction l with
    |nil=>rfl
    |cons p l ih=>exact⟨_,_,rfl,E p.2,ih⟩
   exact this _
  have:=L3 ht hs (parts:=parts.toList.map fun (p:Nat×Operand)=>(p.1,a.eval p.2)) (len:=len) hk (by simpa using h1) (by rw[cr];exact h3) (by simpa using h4) hr (by
   intro d hd
   obtain⟨p,hp,rfl⟩:=bD.1 hd
   exact h5 p hp)
  rw[cr]at this;refine .of ?_;rw[Fu];exact this
 case call c=>
  obtain⟨callee,args,argTypes⟩:=c;cases callee<;>(try simp only[dop]at h)<;>(try (cases h;done));rename_i b;cases b<;>(try simp only[dop]at h)<;>(try (cases h;done));have hr:=E9 hT args.toList
  dsimp only
  obtain⟨argTypes⟩:=argTypes;obtain⟨args⟩:=args;simp only[lenC]at h;split at h<;>(try (cases h;done));rename_i t x
  have key:∀v n,a.eval x=v->(Builtin.len_ #[t] type #[v]).run P w=.ok (.int .i64 n) w->ORun P g V (.int .i64 n) (do let d <-resolve a.eval { callee:=.builtin .len,args:= #[x],argTypes:= #[t] } type;invoke d.target d.args) w:=by
   intro v n h1 h2;refine⟨g,w,.int .i64 n,?_,.refl g,hs,rfl⟩;simp only[resolve,bb,bp,aU,invoke,builtin,List.map_toArray,bg,cq,h1,h2]
  have one:=E x;simp only[lenD]at h;split at h<;>(try (cases h;done))<;>cases h
  ·rename_i e es own hk h1;rw[h1]at one;obtain⟨a',cap,hv,_⟩:=one;exact key _ _ hv (by simp[Builtin.len_,A2 (Bm ht hk),goInt,Sem.run])
  ·rename_i e hk h1;rw[h1]at one;have hv:a.eval x=_:=one;exact key _ _ hv (by simp[Builtin.len_,A2 (Bm ht hk),goInt,Sem.run])
  ·rename_i e id off len cap hk h1;rw[h1]at one;obtain⟨b,_,hv⟩:=one;exact key _ _ hv (by simp[Builtin.len_,A2 (Bm ht hk),goInt,Sem.run])
  ·rename_i s hk h1;rw[h1]at one;have hv:a.eval x=_:=one;have hz:(ByteArray.mk s.toArray).size=s.length:=by simp[ByteArray.size]
   exact key _ _ hv (by simp only[Builtin.len_,bb,A2 (JX ht hk),aU,du,eT,goInt,hz];rfl)
end
def Y3(P:Program)(f:Nat):Prop:= ∀args w,(callFunc f args).run P w=.ok (.enter f args) w
def Ek {P : Program} {f : Nat} {fn : Func} (h : P.funcs[f]? = some fn) (hn : (fn.name == "runtime.NumGoroutine") = false) (hb : fn.body.isSome = true) : Y3 P f := by
 intro args w;have h2:fn.body.isNone=false:=by cases hx:fn.body<;>simp_all
 simp only[callFunc,program,bb,Sem.run,aU,h,hn,h2,bz,bl];rfl
structure aB(P:Program)(f:Nat)(args:fQ)(V:Sig)(R:DE->Sig->Prop):Prop where
 lt:f<P.funcs.size
 ent:Y3 P f
 run:DCalls P f args V R
abbrev rS(d:D)(τ:Sig):DE->Sig->Prop:=fun x s=>x=.ret d/\s=τ
def aB.mono{P:Program}{f:Nat}{args:fQ}{V:Sig}{R R':DE->Sig->Prop}(h:aB P f args V R)(hr:∀x U',R x U'->R' x U'):aB P f args V R':=
 ⟨h.lt,h.ent,h.run.mono hr⟩
def PJ{P:Program}{f:Nat}{fn:Func}{c:Code}{args:fQ}{V:Sig}{R:DE->Sig->Prop}(hf:P.funcs[f]? = some fn)(hb:fn.body=some c)
  (gL : (fn.name == "runtime.NumGoroutine") = false) {m : Nat} (hm : fn.ntmps = m) (hn : args.length <= m) (h : DWp P none m c (BodyQ P m fn R) { γ := Dc 0 args, V }) : aB P f args V R :=
 ⟨(aX.1 hf).1,Ek hf gL (by rw[hb];rfl),NO hf hb k0 (by rw[hm];exact h)⟩
def aC(P:Program)(ro:Option Nat)(n:Nat)(ops:Array Oper)(Q:DX->St->Prop)(l:List Oper)(s:St):Prop:=
 ∀g w a r,lw g ro r->lP P g n s a w->wpListIn (FX P r) 0 P ops (lQ P g n Q) l a w
def putD(dst:Option Tmp)(d:D)(γ:Fr):Fr:=
 match dst with
 |some t=>(t,d)::γ
 |none=>γ
def AJ(n:Nat)(o:Oper):Bool:=
 match o.dst with
 |some t=>decide (t<n)
 |none=>true
def Aa(t:Nat)(d:D)(γ:Fr)(i:Nat):getD ((t,d)::γ) i=if i=t then d else getD γ i:=by
 unfold getD
 by_cases h:i=t
 ·subst h;simp[List.lookup]
 ·have:(i==t)=false:=by simpa using h
  simp[List.lookup,this,h]
def lF.put{g:G}{γ:Fr}{n:Nat}{a:Act}{d:D}{v:Value}{o:Oper}(h:lF g γ n a.tmps)(hd:Rep g d v)(ho:AJ n o=true):
  lF g (putD o.dst d γ) n (a.put o.dst v).tmps:=by
 unfold AJ at ho;cases gC:o.dst with
 |none=>exact h
 | some t =>
  rw[gC]at ho;simp only[aP]at ho;simp only[Act.put,putD];refine⟨by simpa using h.1,fun i=>?_⟩;rw[Aa]
  by_cases hi:i=t
  ·subst hi;have:i<a.tmps.size:=by rw[h.1];exact ho
   simpa[this] using hd
  ·rw[aQ hi];have:=h.2 i
   rwa [show(a.tmps.setIfInBounds t v).getD i undef=a.tmps.getD i undef by simp[cV, dq (aZ hi)]]
def Act.put_df(a:Act)(dst:Option Tmp)(v:Value):(a.put dst v).defers=a.defers:=by cases dst<;>rfl
def lP.put{P:Program}{g g':G}{n:Nat}{s:St}{a:Act}{w w':World}{d:D}{v:Value}{o:Oper}{U':Sig}(h:lP P g n s a w)(hg:g.le g')(hs:Sim P g' U' w')(hd:Rep g' d v)(ho:AJ n o=true):
  lP P g' n { s with γ:=putD o.dst d s.γ,V:=U' } (a.put o.dst v) w':=
 ⟨hs,(h.tmps.mono hg).put hd ho,by rw[Act.put_df];exact h.df.mono hg⟩
def DM(ops:Array Oper)(γ:Fr)(j:Nat):Option Bool:=
 ((ops[j]?).bind (·.dst)).bind fun t=>match getD γ t with
  |.bool b=>some b
  |_=>none
def JW(ops:Array Oper)(γ:Fr)(j:Nat):Bool:=
 match (ops[j]?).bind (·.dst)with
 |some t=>(match getD γ t with
  |.tup []=>true
  |_=>false)
 |none=>false
def AY(ops:Array Oper)(γ:Fr)(o:Oper):Option Bool:=
 match o.guard with
 |none=>some true
 |some (j,want)=>match DM ops γ j with
  |some b=>some (b==want)
  |none=>if JW ops γ j then some false else none
def B0 {g:G} {γ:Fr} {n:Nat} {a:Act} {ops:Array Oper} {o:Oper} {b:Bool} (hT:lF g γ n a.tmps) (h:AY ops γ o=some b) :
  Region.wanted o (yielded ops a.tmps)=b:=by
 unfold AY at h;unfold Region.wanted;cases hg:o.guard with
 |none=>rw[hg]at h;cases h;rfl
 | some p =>
  obtain⟨j,want⟩:=p;rw[hg]at h;simp only at h⊢;split at h
  ·rename_i c hc;cases h
   have:yielded ops a.tmps j=some c:=by
    unfold DM at hc;unfold yielded;cases hd:(ops[j]?).bind (·.dst)with
    |none=>rw[hd]at hc;cases hc
    | some t =>
     rw[hd]at hc;simp only[ex]at hc⊢;have ht:=hT.2 t;split at hc
     ·rename_i c' f8;cases hc;rw[f8]at ht;have ht:=HW ht
      have gw:t<a.tmps.size:=by
       rcases cF t a.tmps.size with hl|hl
       ·exact hl
       ·simp[cV, cu hl,undef]at ht
      rw[bO gw];simp[cV, bO gw]at ht;simp[ht]
     ·cases hc
   rw[this];cases c<;>cases want<;>rfl
  ·split at h
   ·rename_i hu;cases h
    have:yielded ops a.tmps j=none:=by
     unfold JW at hu;unfold yielded;cases hd:(ops[j]?).bind (·.dst)with
     |none=>rfl
     | some t =>
      rw[hd]at hu;simp only at hu;have ht:=hT.2 t;split at hu
      ·rename_i f8;rw[f8]at ht;obtain⟨vs,hv,hr⟩:=ht;obtain rfl:vs=[]:=hr;simp only[ex];rcases cF t a.tmps.size with hl|hl
       ·simp[cV, bO hl]at hv;rw[bO hl,hv]
       ·rw[cu hl]
      ·cases hu
    rw[this];rfl
   ·cases h
section
variable {P:Program}{ro:Option Nat}{n:Nat}{ops:Array Oper}{Q:DX->St->Prop}{l rest:List Oper}{s:St}{o:Oper}
theorem AU(h:Q .normal s):aC P ro n ops Q [] s:=fun g _ _ _ _ hs=>⟨g,s,.normal,.refl g,hs,rfl,h⟩
theorem TQ{id:Nat}(h:aC P ro n l.toArray Q l s):DWp P ro n (.region id l.toArray false) Q s:=
 fun g w a r hr hs=>wpIn_region_lit (h g w a r hr hs)
theorem AF {g g':G} {r:Option Nat} (hg:g.le g') : ∀ (l:List Oper) {a:Act} {w:World},wpListIn (FX P r) 0 P ops (lQ P g' n Q) l a w->wpListIn (FX P r) 0 P ops (lQ P g n Q) l a w
  |[],_,_,h=>lQ.le hg h
  | o::l,a,w,h=>by
    unfold wpListIn at h⊢;split
    · rename_i hw
      rw[aS hw]at h;refine⟨h.1,?_⟩;have h2:=h.2;revert h2;generalize (o.semAt (FX P r).round a.eval).run P w=res;cases res with
      | ok nx w' =>
        cases nx<;>simp only[Oper.uponIn]<;>first
          |exact fun h=>AF hg l h
          | (rintro ⟨h1,h2⟩
             refine⟨h1,?_⟩
             first
               | (refine h2.mono ?_
                  intro e w'' he
                  cases e<;>first
                    |exact AF hg l he
                    |exact lQ.le hg he
                    |(obtain⟨a0,w0,he⟩:=he;exact⟨a0,w0,lQ.le hg he⟩))
               | (refine h2.mono ?_
                  intro v w'' he
                  exact AF hg l he))
          |exact fun h=>h
      |halt x w'=>cases x<;>simp only[Oper.uponIn]<;>first|exact fun h=>lQ.le hg h|exact fun h=>h
    · rename_i hw
      rw[aQ hw]at h;exact⟨h.1,AF hg l h.2⟩
theorem NN{d:D}(hw:AY ops s.γ o=some true)(gv:∀c,o.op≠.defer c)(gD:∀(w:World) (ρ:Operand->Value) f,o.about P w ρ=some f->False)
  (hd:∀g w (a:Act),Sim P g s.V w->lF g s.γ n a.tmps->ORun P g s.V d (execOp a.eval o) w) (ho:AJ n o=true)
  (h:aC P ro n ops Q rest { s with γ:=putD o.dst d s.γ }):aC P ro n ops Q (o::rest) s:=by
 intro g w a r hr hs;unfold wpListIn;rw[B0 hs.tmps hw,aS rfl];refine⟨fun f hf=>(gD _ _ f hf).elim,?_⟩;obtain⟨g',w',v,h1,h2,h3,h4⟩:=hd g w a hs.sim hs.tmps;rw[cW _ _ _ gv,h1];exact AF h2 _ (h g' w' _ r (hr.mono h2) (hs.put h2 h3 h4 ho))
theorem GX{d:D}{U':Sig}(hw:AY ops s.γ o=some true)(gv:∀c,o.op≠.defer c)(gD:∀(w:World) (ρ:Operand->Value) f,o.about P w ρ=some f->False)
  (hd:∀g w (a:Act),Sim P g s.V w->lF g s.γ n a.tmps->∃g' w' v,((execOp a.eval o).run P w=.ok (.value v) w'\/((execOp a.eval o).run P w=.ok .skip w'/\v=undef))/\g.le g'/\Sim P g' U' w'/\Rep g' d v) (ho:AJ n o=true)
  (h:aC P ro n ops Q rest { s with γ:=putD o.dst d s.γ,V:=U' }):aC P ro n ops Q (o::rest) s:=by
 intro g w a r hr hs;unfold wpListIn;rw[B0 hs.tmps hw,aS rfl];refine⟨fun f hf=>(gD _ _ f hf).elim,?_⟩;obtain⟨g',w',v,h1,h2,h3,h4⟩:=hd g w a hs.sim hs.tmps;rw[cW _ _ _ gv];rcases h1 with h1|⟨h1,rfl⟩
 ·rw[h1];exact AF h2 _ (h g' w' _ r (hr.mono h2) (hs.put h2 h3 h4 ho))
 ·rw[h1];exact AF h2 _ (h g' w' _ r (hr.mono h2) (hs.put h2 h3 h4 ho))
theorem Xo{fop:Operand}{args:Array Operand}{ats:Array TypeId}{dst:Option Tmp}{ty:TypeId}{pos:String}{after:Array Edge}{guard:Option (Nat×Bool)}{f:Nat}{first cap:fQ}{R:DE->Sig->Prop}
  (hw:AY ops s.γ ⟨dst,(cv fop args ats),ty,pos,after,guard⟩=some true)
  (hf:ev s.γ fop=.func (.func f) first cap) (h:aB P f (first++args.toList.map (ev s.γ)++cap) s.V R)
  (ho:AJ n ⟨dst,(cv fop args ats),ty,pos,after,guard⟩=true)
  (gr:∀d U',R (.ret d) U'->aC P ro n ops Q rest { s with γ:=putD dst d s.γ,V:=U' })
  (gu:∀d U',R (.panic d) U'->Q (.panic d) { s with V:=U' }) :
  aC P ro n ops Q (⟨dst,(cv fop args ats),ty,pos,after,guard⟩::rest) s:=by
 intro g w a r hr hs;unfold wpListIn;rw[B0 hs.tmps hw,aS rfl];have gh:=Az hs.tmps fop;rw[hf]at gh;obtain⟨fs,cs,gh,gK,gJ⟩:=gh
 have fZ:(resolve a.eval { callee:=.value fop,args,argTypes:=ats } ty).run P w=.ok { target:=.fn (.func f) cs.toArray,args:=fs.toArray++args.map a.eval } w:=by
  simp[resolve,gh,Deferred.ofValue,Sem.run]
 refine⟨fun f' fX=>?_,?_⟩
 ·simp only[Oper.about,fZ,Target.leads]at fX;cases fX;exact h.lt
 ·rw[cW _ _ _ (fun c e=>by cases e)]
  have fY:(execOp a.eval ⟨dst,(cv fop args ats),ty,pos,after,guard⟩).run P w=.ok (.enter f (fs.toArray++args.map a.eval++cs.toArray)) w:=by
   simp only[execOp,bb,fZ,aU,invoke,h.ent _ w]
  rw[fY];refine⟨fun h=>(by cases h),?_⟩
  have ga:kI g (first++args.toList.map (ev s.γ)++cap) (fs++args.toList.map a.eval++cs):=by
   have app:∀{x y:fQ}{u v:List Value},kI g x u->kI g y v->kI g (x++y) (u++v):=by
    intro x
    induction x with
    |nil=>intro y u v h1 h2;cases h1;exact h2
    |cons d x ih=>intro y u v h1 h2;obtain⟨v0,r0,rfl,h3,h4⟩:=h1;exact⟨v0,r0++v,rfl,h3,ih h4 h2⟩
   exact app (app gK (E9 hs.tmps _)) gJ
  have hc:=h.run g w _ hs.sim ga
  have f8:CallsIn (FX P r) 0 P f (fs.toArray++args.map a.eval++cs.toArray) w (QS P g R):=by
   have e:(fs++args.toList.map a.eval++cs).toArray=fs.toArray++args.map a.eval++cs.toArray:=by simp
   rw[<-e];exact hc
  refine f8.mono ?_
  rintro e w' ⟨g',x,U',h1,h2,h3,h4⟩
  cases x with
  |ret d=>
   obtain⟨v,rfl,h5⟩:=h3;exact AF h1 _ (gr d U' h4 g' w' _ r (hr.mono h1) (hs.put (o:=⟨dst,(cv fop args ats),ty,pos,after,guard⟩) h1 h2 h5 ho))
  |panic d=>
   obtain⟨v,rfl,h5⟩:=h3;exact⟨g',{ s with V:=U' },.panic d,h1,⟨h2,hs.tmps.mono h1,hs.df.mono h1⟩,⟨v,rfl,h5⟩,gu d U' h4⟩
end
def isEff:Op->Bool
 |.call { callee:=.builtin .len,.. }=>false
 |.move _|.assign _|.pick .. |.box .. |.load .. |.nilCheck _|.binOp .. |.unOp .. |.convert .. |.makeInterface .. |.makeFunc .. |.fieldAddr .. |.field .. |.indexAddr .. |.index .. |.extract .. |.buildSlice .. =>false
 |_=>true
def ED(N:Nat):Op->Bool
 |.call { callee:=.value (.func f),.. }=>decide (f<N)
 |.call { callee:=.builtin _,.. }=>true
 |.call _=>false
 |_=>true
def QB(tab:Nat->Ty)(N n:Nat)(ops:Array Oper):List Oper->Fr->Sig->Option (List Oper×Fr)
 |[],γ,_=>some ([],γ)
 | o::rest,γ,V =>
  match AY ops γ o with
  |some true=>
   if isEff o.op then some (o::rest,γ) else
   match dop tab γ V o.op with
   |some d=>if AJ n o then QB tab N n ops rest (putD o.dst d γ) V else none
   |none=>none
  |some false=>if ED N o.op&&AJ n o then QB tab N n ops rest (putD o.dst .any γ) V else none
  |none=>none
def Ah{P:Program}{o:Oper}(h:∀c,o.op≠.call c)(w:World)(ρ:Operand->Value)(f:Nat):o.about P w ρ=some f->False:=by
 unfold Oper.about;split
 ·rename_i c hc;exact absurd hc (h c)
 ·intro h;cases h
def Cn{P:Program}{o:Oper}{c:Call}{b:Builtin}(h:o.op=.call c)(hb:c.callee=.builtin b)(w:World)(ρ:Operand->Value)(f:Nat):o.about P w ρ=some f->False:=by
 unfold Oper.about;rw[h];simp[resolve,hb,Target.leads]
def J1{P:Program}{o:Oper}(h:ED P.funcs.size o.op=true)(w:World)(ρ:Operand->Value)(f:Nat)(hf:o.about P w ρ=some f)
  (hρ:∀k,ρ (.func k)=.func (.func k) #[] #[]):f<P.funcs.size:=by
 by_cases hc:∃c,o.op=.call c
 ·obtain⟨c,hc⟩:=hc;rw[hc]at h;obtain⟨callee,args,ats⟩:=c;cases callee with
  |builtin b=>exact(Cn hc rfl w ρ f hf).elim
  |value x=>
   cases x<;>simp only[ED]at h<;>(try (cases h;done));rename_i k;unfold Oper.about at hf;rw[hc]at hf;simp[resolve,hρ,Deferred.ofValue,Target.leads]at hf;subst hf;simpa using h
  |invoke r m=>cases h
 ·exact(Ah (fun c e=>hc ⟨c,e⟩) w ρ f hf).elim
def kokB:TypeDesc->TyK->Bool
 |.slice e,.slice e'=>e==e'
 |.struct fs,.struct l=>fs.toList.map (fun f=>(f.offset,f.type))==l
 |.array n e,.array m e'=>n==m&&e==e'
 |.map k e,.map k' e'=>k==k'&&e==e'
 |.int k,.int k'=>k==k'
 |.string,.str=>true
 |.bool,.bool=>true
 |.interface _,.iface=>true
 |.pointer e,.ptr e'=>e==e'
 |.func _ _ _,.func=>true
 |_,_=>false
def kok_of{d:TypeDesc}{k:TyK}(h:kokB d k=true):KOK d k:=by
 unfold kokB at h;split at h<;>simp_all [KOK]
def dEqB:D->D->Bool
 |.any,.any=>true
 |.bool a,.bool b=>a==b
 |.int k a,.int k' b=>k==k'&&a==b
 |.str a,.str b=>a==b
 |.aA,.aA=>true
 |.av,.av=>true
 |.ay,.ay=>true
 |.nilf,.nilf=>true
 |.niliface,.niliface=>true
 |_,_=>false
def dEq_of{a b:D}(h:dEqB a b=true):a=b:=by
 unfold dEqB at h;split at h<;>simp_all
def dEqL:fQ->fQ->Bool
 |[],[]=>true
 |a::az,b::bs=>dEqB a b&&dEqL az bs
 |_,_=>false
def Xv: ∀{a b:fQ},dEqL a b=true->a=b
 |[],[],_=>rfl
 |a::az,b::bs,h=>by
  simp only[dEqL,aN]at h;rw[dEq_of h.1,Xv h.2]
 |[],_::_,h=>by simp[dEqL]at h
 |_::_,[],h=>by simp[dEqL]at h
def aggB:TypeDesc->Bool
 |.struct _|.array _ _=>true
 |_=>false
def Qa (P:Program) (t:Nat) (i:Ty):Bool :=
 match i.k with
 |.other=>true
 |_=>match P.info? t,P.underlying t with
  | some inf,some desc=>kokB desc i.k && inf.size==i.size && inf.bytes==i.bytes && i.agg==aggB desc &&
    (match inf.zero with
     |some z=>i.zero.length==i.size&&dEqL i.zero (z.cells.toList.map Cu)&&i.agg==aggV z
     |none=>false)
  |_,_=>false
def O8{P:Program}{t:Nat}{i:Ty}(h:Qa P t i=true):TyOK P t i:=by
 by_cases hk:i.k=.other
 ·unfold TyOK;rw[hk];trivial
 ·have h2:∃inf desc z,P.info? t=some inf/\P.underlying t=some desc/\KOK desc i.k/\inf.size=i.size/\inf.bytes=i.bytes /\
    i.agg=(match desc with|.struct _|.array _ _=>true|_=>false)/\inf.zero=some z/\i.zero.length=i.size/\i.zero=z.cells.toList.map Cu/\i.agg=aggV z:=by
   unfold Qa at h;split at h
   ·rename_i e;exact absurd e hk
   ·split at h
    ·rename_i inf desc h1 h2;simp only[aN,cL]at h;obtain⟨⟨⟨⟨a,b⟩,c⟩,d⟩,e⟩:=h;split at e
     ·rename_i z hz;simp only[aN,cL]at e;refine⟨inf,desc,z,h1,h2,kok_of a,b,c,?_,hz,e.1.1,Xv e.1.2,e.2⟩;rw[d];unfold aggB;cases desc<;>rfl
     ·cases e
    ·cases h
  unfold TyOK;split
  ·rename_i e;exact absurd e hk
  ·exact h2
def WkD(a b:D):Prop:= ∀g v,Rep g a v->Rep g b v
def A9(a:D):WkD a a:=fun _ _ h=>h
def EO(a:D):WkD a .any:=fun _ _ _=>trivial
def B9{a b:D}(h:a=b):WkD a b:=h ▸ A9 a
def An(o:Own)(h:o=.no\/o=.clip):WkD .av (.slice [] o):=by
 rintro g v rfl
 refine⟨none,0,rfl,k7,.inl rfl,?_⟩;rcases h with rfl|rfl
 ·trivial
 ·rfl
def AO(es:fV)(o:Own):WkD (.slice es o) (.slice es .no):=by
 rintro g v ⟨a,cap,h1,h2,h3,_⟩
 exact⟨a,cap,h1,h2,h3,trivial⟩
def JQ(k:IntKind){a b:Int}(h:a=b):WkD (.int k a) (.int k b):=h ▸ A9 _
def CY{es es':fV}(o:Own)(h:es=es'):WkD (.slice es o) (.slice es' .no):=h ▸ AO es o
def WkL:fQ->fQ->Prop
 |[],[]=>True
 |a::az,b::bs=>WkD a b/\WkL az bs
 |_,_=>False
def WkL.rep{g:G}: ∀{az bs:fQ}{vs:List Value},WkL az bs->kI g az vs->kI g bs vs
 |[],[],_,_,h=>h
 |a::az,b::bs,_,⟨h1,h2⟩,⟨v,r,e,h3,h4⟩=>⟨v,r,e,h1 g v h3,WkL.rep h2 h4⟩
 |[],_::_,_,h,_=>h.elim
 |_::_,[],_,h,_=>h.elim
def WkL.len: ∀{az bs:fQ},WkL az bs->az.length=bs.length
 |[],[],_=>rfl
 |a::az,b::bs,h=>by simp[WkL.len h.2]
 |[],_::_,h=>h.elim
 |_::_,[],h=>h.elim
def aB.wk{P:Program}{f:Nat}{args args':fQ}{V:Sig}{R:DE->Sig->Prop}(h:aB P f args' V R)(hw:WkL args args'):aB P f args V R:=
 ⟨h.lt,h.ent,fun g w vs hs ha=>h.run g w vs hs (hw.rep ha)⟩
def Tells(γ:Fr):Fr->Prop
 |[]=>True
 |p::r=>WkD (getD γ p.1) p.2/\Tells γ r
def Tells.get{γ:Fr}: ∀{V':Fr},Tells γ V'->∀t,WkD (getD γ t) (getD V' t)
 |[],_,t=>EO _
 |p::r,h,t=>by
  rw[show p::r=(p.1,p.2)::r from rfl,Aa]
  by_cases ht:t=p.1
  ·rw[aS ht,ht];exact h.1
  ·rw[aQ ht];exact Tells.get h.2 t
section
variable {K:St->Prop}{Q:DX->St->Prop}{s:St}{i id:Nat}{d:D}
theorem Hj(h:K s):lW K Q .normal s:=h
theorem K0(h:Q (.exit i) s):lW K Q (.exit i) s:=h
theorem N0(h:Q .ret s):lW K Q .ret s:=h
theorem Iz(h:Q (.panic d) s):lW K Q (.panic d) s:=h
theorem IR(h:Q .normal s):InB id Q .normal s:=h
theorem Np(h:Q .normal s):InB id Q (.exit id) s:=by simp only[InB,bI];exact h
theorem Vh(hi:i≠id)(h:Q (.exit i) s):InB id Q (.exit i) s:=by simp only[InB,hi,bl];exact h
theorem Qv(h:Q .ret s):InB id Q .ret s:=h
theorem Ky(h:Q (.panic d) s):InB id Q (.panic d) s:=h
end
def Aq{x:Int}(h1 : -9223372036854775808<=x)(h2:x<=9223372036854775807):IntKind.i64.wrap x=x:=by
 have e1:(2:Int) ^ IntKind.i64.bits=18446744073709551616:=by decide
 have e2:(2:Int) ^ (IntKind.i64.bits-1)=9223372036854775808:=by decide
 have e3:IntKind.i64.signed=true:=rfl;simp only[IntKind.wrap,e1,e2,e3,bd,aP,ge_iff_le];split<;>omega
attribute [simp] QB AY DM isEff dop ev Cu putD AJ ED A5 Ht D.told D.cells Dc resD Tells WkL A9 EO lenC boxD V3 Em
@[simp] theorem getD_hit(t:Nat)(d:D)(γ:Fr):getD ((t,d)::γ) t=d:=by rw[Aa,aS rfl]
@[simp] theorem getD_miss(t:Nat)(d:D)(γ:Fr)(i:Nat)(h:i≠t):getD ((t,d)::γ) i=getD γ i:=by rw[Aa,aQ h]
@[simp] theorem getD_nil(t:Nat):getD [] t=.any:=rfl
@[simp] theorem wkD_own_no(es:fV)(o:Own):WkD (.slice es o) (.slice es .no):=AO es o
section
variable (k:IntKind)(a b:Int)(x y d:D)(tab:Nat->Ty)(e n id off len cap f:Nat)(es:fV)(o:Own)(s u:List UInt8)(c c':Bool)(cs:fQ)(fs:List (Nat×Nat))(γ:List (Nat×D))(V:Sig)(ty:Ty)
@[simp] theorem binD_add:binD .add (.int k a) (.int k b)=some (.int k (k.wrap (a+b))):=by simp[binD]
@[simp] theorem binD_sub:binD .sub (.int k a) (.int k b)=some (.int k (k.wrap (a-b))):=by simp[binD]
@[simp] theorem binD_mul:binD .mul (.int k a) (.int k b)=some (.int k (k.wrap (a*b))):=by simp[binD]
@[simp] theorem binD_quo:binD .quo (.int k a) (.int k b)=if b≠0 then some (.int k (k.wrap (a.tdiv b))) else none:=by simp[binD]
@[simp] theorem binD_rem:binD .rem (.int k a) (.int k b)=if b≠0 then some (.int k (a.tmod b)) else none:=by simp[binD]
theorem EX{α:Type}[BEq α][LawfulBEq α][DecidableEq α](a b:α):(a==b)=decide (a=b):=by rw[aW];simp
@[simp] theorem binD_eql:binD .eql (.int k a) (.int k b)=some (.bool (decide (a=b))):=by simp[binD,EX]
@[simp] theorem binD_neq:binD .neq (.int k a) (.int k b)=some (.bool (!decide (a=b))):=by simp[binD,bne,EX]
@[simp] theorem binD_lss:binD .lss (.int k a) (.int k b)=some (.bool (decide (a<b))):=by simp[binD]
@[simp] theorem binD_leq:binD .leq (.int k a) (.int k b)=some (.bool (decide (a<=b))):=by simp[binD]
@[simp] theorem binD_gtr:binD .gtr (.int k a) (.int k b)=some (.bool (decide (b<a))):=by simp[binD]
@[simp] theorem binD_geq:binD .geq (.int k a) (.int k b)=some (.bool (decide (b<=a))):=by simp[binD]
@[simp] theorem binD_eqs:binD .eql (.str s) (.str u)=some (.bool (decide (s=u))):=by simp[binD,EX]
@[simp] theorem binD_nes:binD .neq (.str s) (.str u)=some (.bool (!decide (s=u))):=by simp[binD,bne,EX]
@[simp] theorem binD_ads:binD .add (.str s) (.str u)=if s.length+u.length<=9223372036854775807 then some (.str (s++u)) else none:=rfl
@[simp] theorem pickD_t:Ql (.bool true) x y=some x:=rfl
@[simp] theorem pickD_f:Ql (.bool false) x y=some y:=rfl
@[simp] theorem pickD_b:Ql (.bool c) x y=some (if c then x else y):=rfl
@[simp] theorem nilD_cptr:nilD (.aw cs n)=some (.aw cs n):=rfl
@[simp] theorem nilD_ptr:nilD (.ptr id n)=some (.ptr id n):=rfl
@[simp] theorem nilD_func(g:Nat)(l m:fQ):nilD (.func (.func g) l m)=some (.func (.func g) l m):=rfl
@[simp] theorem nilD_iface(t:Nat):nilD (.iface t d)=some (.iface t d):=rfl
@[simp] theorem unD_not:unD .not (.bool c)=some (.bool (!c)):=rfl
@[simp] theorem unD_neg:unD .neg (.int k a)=some (.int k (k.wrap (0-a))):=rfl
@[simp] theorem convD_int(k':IntKind):Xw false (.int k) (.int k' a)=some (.int k (k.wrap a)):=rfl
@[simp] theorem loadT_m:Lm ty V d=match A5 ty.k with|true=>none|false=>Ln ty V d:=by unfold Lm;cases A5 ty.k<;>rfl
@[simp] theorem ZV:Ei tab f x (.struct fs)=match fs[f]? with
  |some (off,ft)=>(match A5 (tab ft).k||(tab ft).size==0 with|true=>none|false=>lu x off)
  |none=>none:=by
 simp only[Ei];cases fs[f]? with
 |none=>rfl
 |some p=>simp only;cases (A5 (tab p.2).k||(tab p.2).size==0)<;>rfl
@[simp] theorem shiftD_cptr:lu (.aw cs n) off=some (.aw cs (n+off)):=rfl
@[simp] theorem shiftD_ptr:lu (.ptr id n) off=some (.ptr id (n+off)):=rfl
@[simp] theorem fieldD_s:Vv tab f (.struct fs) (.agg cs)=match fs[f]? with
  |some (off,ft)=>if A5 (tab ft).k then none else Nd (tab ft) cs off
  |none=>none:=rfl
@[simp] theorem ZR:Dh tab (.slice e) (.slice es o) (.int k a)=match A5 (tab e).k with
  |true=>none
  | false=>match decide (0<=a) with
   |true=>(match es[a.toNat]? with
    |some c=>(match c.length==(tab e).size with|true=>some (.aw c 0)|false=>none)
    |none=>none)
   |false=>none:=by
 simp only[Dh];cases A5 (tab e).k
 ·by_cases h:0<=a
  ·simp only[h,bI,eJ,bz,bl];cases es[a.toNat]? with
   |none=>rfl
   | some c =>
    by_cases h2:c.length=(tab e).size
    ·simp[h2]
    ·have h3:(c.length==(tab e).size)=false:=by simpa using h2
     simp[h2,h3]
  ·simp[h]
 ·rfl
@[simp] theorem ZS:Dh tab (.slice e) (.ax id off len cap) (.int k a) =
  if A5 (tab e).k then none else if 0<=a/\a.toNat<len then some (.ptr id (off+a.toNat*(tab e).size)) else none:=rfl
@[simp] theorem ZT:Dh tab (.array len e) x (.int k a) =
  if A5 (tab e).k then none else if 0<=a/\a.toNat<len then lu x (a.toNat*(tab e).size) else none:=by cases x<;>rfl
@[simp] theorem indexD_s:OQ .str (.str s) (.int k a)=if 0<=a then(s[a.toNat]?).map fun b=>.int .u8 b.toNat else none:=rfl
@[simp] theorem extractD_t:Ii n (.tup cs)=cs[n]? :=rfl
@[simp] theorem bsliceD_s (parts:List (Nat × Operand)):IZ tab γ len parts (.slice e)=if A5 (tab e).k then none else
  if parts.map (·.1)==List.range len&&len*(tab e).size<=16777216&&parts.all (fun p=>(ev γ p.2).told&&(ev γ p.2).cells.length==(tab e).size) then
   some (.slice (parts.map fun p=>(ev γ p.2).cells) .clip) else none:=rfl
@[simp] theorem lenD_s:lenD (.slice e) (.slice es o)=some (.int .i64 es.length):=rfl
@[simp] theorem lenD_n:lenD (.slice e) .av=some (.int .i64 0):=rfl
@[simp] theorem lenD_r:lenD (.slice e) (.ax id off len cap)=some (.int .i64 len):=rfl
@[simp] theorem lenD_t:lenD .str (.str s)=some (.int .i64 s.length):=rfl
@[simp] theorem loadD_c:Ln ty V (.aw cs off)=match ty.agg with
  |true=>(match decide (off+ty.size<=cs.length)with|true=>some (.agg ((cs.drop off).take ty.size))|false=>none)
  |false=>cs[off]? :=by
 simp only[Ln];cases ty.agg
 ·rfl
 ·by_cases h:off+ty.size<=cs.length<;>simp[h]
@[simp] theorem loadD_p:Ln ty V (.ptr id off)=match Em (V id) with
  |some cs=>if ty.agg then(if off+ty.size<=cs.length then some (.agg ((cs.drop off).take ty.size)) else none) else cs[off]?
  |none=>none:=rfl
@[simp] theorem partD_eq:Nd ty cs off=if ty.agg then(if off+ty.size<=cs.length then some (.agg ((cs.drop off).take ty.size)) else none) else cs[off]? :=rfl
end
def CA{γ V':Fr}{x:Operand}(h:∀t,x=.tmp t->getD γ t=getD V' t):ev γ x=ev V' x:=by
 cases x with
 |tmp t=>exact h t rfl
 |_=>rfl
def Gm{γ V':Fr}{l:List Operand}(h:∀x∈l,ev γ x=ev V' x):l.map (ev γ)=l.map (ev V'):=bF h
def PI{tab:Nat->Ty}{γ V':Fr}{V:Sig}{op:Op}(h:∀x∈op.operands,ev γ x=ev V' x):dop tab γ V op=dop tab V' V op:=by
 cases op<;>simp only[Op.operands]at h<;>simp only[dop]
 case move x=>rw[h x k7]
 case assign x=>rw[h x k7]
 case pick c a b=>rw[h c k7,h a k7,h b k7]
 case box t x=>rw[h x k7]
 case load t x=>rw[h x k7]
 case nilCheck x=>rw[h x k7]
 case binOp o t x y u=>rw[h x k7,h y k7]
 case unOp o t x=>rw[h x k7]
 case convert s t x=>rw[h x k7]
 case makeInterface t x=>rw[h x k7]
 case makeFunc fn first cap=>rw[Gm (fun x hx=>h x (by simp at hx;simp[hx])),Gm (l:=cap.toList) (fun x hx=>h x (by simp at hx;simp[hx]))]
 case fieldAddr s x f=>rw[h x k7]
 case field s x f=>rw[h x k7]
 case indexAddr t x i=>rw[h x k7,h i k7]
 case index t x i=>rw[h x k7,h i k7]
 case extract x i=>rw[h x k7]
 case buildSlice t len parts=>
  have hp:∀p∈parts.toList,ev γ p.2=ev V' p.2:=fun p hp=>h p.2 (by simp;exact⟨p.1,by simpa using hp⟩)
  unfold IZ;split
  ·rename_i e _;have e1:(parts.toList.map fun p=>(ev γ p.2).cells)=parts.toList.map fun p=>(ev V' p.2).cells:=bF fun p gb=>by rw[hp p gb]
   have e2:(parts.toList.all fun p=>(ev γ p.2).told&&(ev γ p.2).cells.length==(tab e).size)=parts.toList.all fun p=>(ev V' p.2).told&&(ev V' p.2).cells.length==(tab e).size:=by
    rw[aW,bh,bh];constructor<;>intro hh p gb<;>have:=hh p gb<;>rw[hp p gb]at* <;> exact this
   rw[e1,e2]
  ·rfl
 case call c=>
  obtain⟨callee,args,ats⟩:=c;cases callee<;>try rfl
  rename_i b;cases b<;>try rfl
  obtain⟨args⟩:=args;obtain⟨ats⟩:=ats;simp only[dop,lenC];split
  ·rename_i t x;rw[h x (by simp[Call.operands])]
  ·rfl
section
variable {P:Program}{ro:Option Nat}{n:Nat}{ops:Array Oper}{tab:Nat->Ty}(N:Nat){C:Sig->Prop}
def Yld (P:Program) (n:Nat) (ops:Array Oper) (tab:Nat->Ty) (N:Nat) (C:Sig->Prop) (γ:Fr) (o:Oper) (d:D):Prop :=
  AJ n o=true /\
  ((AY ops γ o=some true /\
      ((isEff o.op=false /\ ∀ V,C V->dop tab γ V o.op=some d) \/
       ∃fop args ats f first cap,o.op=(cv fop args ats)/\ev γ fop=.func (.func f) first cap /\
        ∀V,C V->aB P f (first++args.toList.map (ev γ)++cap) V fun x U'=>x=.ret d/\C U')) \/
   (AY ops γ o=some false/\ED N o.op=true/\d=.any))
theorem HZ{o:Oper}{t:Nat}(h:Operand.tmp t∈o.op.operands):t∈o.looksAt ops:=
 bu _ (List.mem_filterMap.2 ⟨.tmp t,by simpa using h,rfl⟩)
theorem JR{γ V':Fr}{o:Oper}(h:∀t∈o.looksAt ops,getD γ t=getD V' t):AY ops γ o=AY ops V' o:=by
 unfold AY;cases hg:o.guard with
 |none=>rfl
 | some p =>
  obtain⟨j,want⟩:=p
  have:DM ops γ j=DM ops V' j:=by
   unfold DM;cases hd:(ops[j]?).bind (·.dst)with
   |none=>rfl
   |some t=>
    have:=h t (cC _ (by simp[hg,hd]));simp[this]
  have hu:JW ops γ j=JW ops V' j:=by
   unfold JW;cases hd:(ops[j]?).bind (·.dst)with
   |none=>rfl
   |some t=>
    have:=h t (cC _ (by simp[hg,hd]));simp[this]
  simp only[this,hu]
theorem Yld.congr{γ V':Fr}{o:Oper}{d:D}(h:∀t∈o.looksAt ops,getD γ t=getD V' t)(hy:Yld P n ops tab N C γ o d):Yld P n ops tab N C V' o d:=by
 have gc:∀x∈o.op.operands,ev γ x=ev V' x:=fun x hx=>CA fun t ht=>h t (HZ (ht ▸ hx));refine⟨hy.1,?_⟩;rw[<-JR h];rcases hy.2 with⟨hw,⟨he,hd⟩|⟨fop,args,ats,f,first,cap,ho,hf,hc⟩⟩|hs
 ·exact .inl ⟨hw,.inl ⟨he,fun V hZ=>by rw[<-PI gc];exact hd V hZ⟩⟩
 ·rw[ho]at gc;refine .inl ⟨hw,.inr ⟨fop,args,ats,f,first,cap,ho,by rw[<-gc fop (by simp[Op.operands,Call.operands])];exact hf,fun V hZ=>?_⟩⟩;rw[<-Gm (γ:=γ) fun x hx=>gc x (by simp at hx;simp[Op.operands,Call.operands,hx])];exact hc V hZ
 ·exact .inr hs
theorem AR{dst:Option Tmp}{d:D}{γ:Fr}{t:Nat}(h:dst≠some t):getD (putD dst d γ) t=getD γ t:=by
 cases dst with
 |none=>rfl
 |some k=>
  simp only[putD,Aa];rw[aQ fun e=>h (by rw[e])]
def lY(γ V':Fr):Prop:= ∀t,getD γ t=getD V' t
theorem BP{a b:Option Tmp}(d e:D)(γ:Fr)(h:∀t,a=some t->b≠some t):lY (putD a d (putD b e γ)) (putD b e (putD a d γ)):=by
 intro t;cases a with
 |none=>rfl
 | some i =>
  cases b with
  |none=>rfl
  | some j =>
   have gO:i≠j:=fun e=>h i rfl (by rw[e])
   simp only[putD,Aa]
   by_cases h1:t=i
   ·subst h1;simp[gO]
   ·by_cases h2:t=j
    ·subst h2;simp[h1,aZ h1]
    ·simp[h1,h2]
theorem lY.put{γ V':Fr}(h:lY γ V')(dst:Option Tmp)(d:D):lY (putD dst d γ) (putD dst d V'):=by
 intro t;cases dst with
 |none=>exact h t
 |some k=>simp only[putD,Aa];rw[h t]
def AnyD(P:Program)(n:Nat)(ops:Array Oper)(tab:Nat->Ty)(N:Nat)(C:Sig->Prop)(T:Fr->Prop):Nat->Array Bool->Fr->Prop
 |0,_,γ=>T γ
 |m+1,listed,γ=>Region.ready .any ops listed≠[] /\ ∀i∈Region.ready .any ops listed, ∃o d,ops[i]? = some o/\Yld P n ops tab N C γ o d/\AnyD P n ops tab N C T m (listed.setIfInBounds i true) (putD o.dst d γ)
theorem AnyD.alike{T:Fr->Prop}(hT:∀γ V',lY γ V'->T γ->T V'): ∀(m:Nat) (listed:Array Bool) (γ V':Fr),lY γ V'->AnyD P n ops tab N C T m listed γ->AnyD P n ops tab N C T m listed V'
 |0,_,_,_,h,k=>hT _ _ h k
 |m+1,_,_,_,h,k=>⟨k.1,fun i hi=>
  let ⟨o,d,h1,h2,h3⟩:=k.2 i hi
  ⟨o,d,h1,h2.congr N fun t _=>h t,AnyD.alike hT m _ _ _ (h.put _ _) h3⟩⟩
def cnt(plen:Nat)(listed:Array Bool):Nat:=((List.range plen).filter fun p=> !listed.getD p true).length
def lG(ops:Array Oper)(listed:Array Bool):Prop:=
 ∀(q:Nat) o,ops[q]? = some o->listed.getD q false=true->∀e∈o.after,Region.binds .any e=true->listed.getD e.on false=true
theorem lG.set{listed:Array Bool}(h:lG ops listed){i:Nat}(hi:i∈Region.ready .any ops listed):lG ops (listed.setIfInBounds i true):=by
 intro q o ho hq e he hb;obtain⟨_,oi,gF,e7⟩:=mem_ready.1 hi
 by_cases gE:q=i
 ·subst gE;rw[ho]at gF;cases gF;exact getD_set_true (e7 e he hb)
 ·rw[getD_set_ne false (aZ gE)]at hq;exact getD_set_true (h q o ho hq e he hb)
end
def F3(ops:Array Oper):Nat->Nat->Nat->Bool
 |0,_,_=>false
 |fuel+1,k,p=>match ops[k]? with
  |some o=>(o.after.any fun e=>Region.binds .any e&&e.on==p)||(o.after.any fun e=>Region.binds .any e&&(decide (p<e.on)&&F3 ops fuel e.on p))
  |none=>false
def CN{ops:Array Oper}{listed:Array Bool}(hc:lG ops listed): ∀(fuel k p:Nat) (o:Oper),ops[k]? = some o->
  (∀e∈o.after,Region.binds .any e=true->listed.getD e.on false=true)->F3 ops fuel k p=true->listed.getD p false=true
 |0,_,_,_,_,_,h=>by cases h
 | fuel+1,k,p,o,ho,e7,h=>by
  simp only[F3,ho,bV]at h;rcases h with h|h
  ·rw[fy]at h;obtain⟨e,he,h⟩:=h;simp only[aN,cL]at h;obtain⟨hb,rfl⟩:=h;exact e7 e he hb
  ·rw[fy]at h;obtain⟨e,he,h⟩:=h;simp only[aN]at h;obtain⟨hb,_,h⟩:=h;have h1:=e7 e he hb;cases hq:ops[e.on]? with
   |none=>cases fuel<;>simp[F3,hq]at h
   |some q=>exact CN hc fuel e.on p q hq (fun e' gB gR=>hc e.on q hq h1 e' gB gR) h
section
variable {P:Program}{ro:Option Nat}{n:Nat}{ops:Array Oper}{tab:Nat->Ty}{N:Nat}{C:Sig->Prop}{Q:DX->St->Prop}{df:List DDf}
theorem Dj{l:List Oper}{γ V':Fr}{V:Sig}(h:lY γ V')(k:aC P ro n ops Q l ⟨γ,V,df⟩):aC P ro n ops Q l ⟨V',V,df⟩:=
 fun g w a r hr hs=>k g w a r hr ⟨hs.sim,⟨hs.tmps.1,fun t=>by rw[h t];exact hs.tmps.2 t⟩,hs.df⟩
end
end Go.DL
