/- A part of the proof. -/
import Derived.Test.YteldimffglchkaaGreatDoorQ01
import Derived.OrdersIn
import Derived.Still
set_option linter.all false
namespace Go.DL
open Go
def ORun(P:Program)(g:G)(O:Sig)(d:D)(s:Sem Next)(w:World):Prop:=
 ∃g' w' v,s.run P w=.ok (.value v) w'/\g.le g'/\Sim P g' O w'/\Rep g' d v
def ORun.of{P:Program}{g:G}{O:Sig}{d:D}{s:Sem Value}{w:World}(h:PRun P g O d s w):ORun P g O d (do pure (.value (<-s))) w:=
 let ⟨g',w',v,h1,h2,h3,h4⟩:=h
 ⟨g',w',v,by simp only[aP,h1,aJ,bi],h2,h3,h4⟩
def AH{P:Program}{g:G}{O:Sig}{d:D}{s:Sem Value}{w:World}{v:Value}(hs:Sim P g O w)(h:s.run P w=.ok v w)(hr:Rep g d v):PRun P g O d s w:=
 ⟨g,w,v,h,.refl g,hs,hr⟩
def EG{α:Type}{c:Prop}[Decidable c]{x y:α}(h:(if c then some x else none)=some y):c/\x=y:=by
 split at h
 ·rename_i hc;cases h;exact⟨hc,rfl⟩
 ·cases h
def Br{α:Type}{c:Prop}[Decidable c]{x:Option α}{y:α}(h:(if c then none else x)=some y): ¬c/\x=some y:=by
 split at h
 ·cases h
 ·rename_i hc;exact⟨hc,h⟩
section
variable {P:Program}{tab:Nat->Ty}(ht:AZ P tab){g:G}{O:Sig}{w:World}(hs:Sim P g O w)
include ht hs
theorem RX{t:Nat}{cs:eO}{off:Nat}{d:D}{vs:List Value}(hk:A2 (tab t).k=false)(h:LS (tab t) cs off=some d)(hr:jE g cs vs):
  PRun P g O d (part t vs.toArray off) w:=by
 have hl:=jE.length hr;unfold LS at h;unfold PRun part;simp only[aP,Jk (ht t) (Ai hk),aJ]
 by_cases ha:(tab t).agg=true
 ·rw[aG ha]at h⊢;obtain⟨fL,rfl⟩:=EG h;refine⟨g,w,.agg (vs.toArray.extract off (off+(tab t).size)),by simp only[aP,AK (ht t) (Ai hk),aJ,bi],.refl g,hs,(vs.drop off).take (tab t).size,j1,?_⟩;refine AP (by simp;omega) fun j x y hx hy=>?_
  rw[dv]at hx hy;split at hx
  ·rename_i hj;simp only[hj,bu,cm]at hx hy;have:=jE.get hr (off+j);rw[hx,hy]at this;exact this
  ·cases hx
 ·simp only[bZ]at ha;simp only[ha,bm,bc]at h⊢
  have hj:off<vs.length:=by
   have:=(aV.1 h).1;omega
  have hv:vs.toArray[off]? = some vs[off]:=by simp[hj]
  refine⟨g,w,vs[off],by rw[hv];rfl,.refl g,hs,?_⟩;have:=jE.get hr off;rw[h,aD hj]at this;exact this
theorem Km{s f off ft:Nat}{fs:List (Nat×Nat)}{x:Value}{d d':D}(hk:(tab s).k=.struct fs)(hf:fs[f]? = some (off,ft))(h1:A2 (tab ft).k=false)(h2:(tab ft).size≠0)
  (hx:Rep g d x) (hd:kx d off=some d'):PRun P g O d' (Instr.fieldAt s x f) w:=by
 obtain⟨l,fa,fj⟩:=HZ ht hk;have d6:(l.toList.map (fun f=>(f.offset,f.type)))[f]? = some (off,ft):=by rw[fj];exact hf
 rw[bA]at d6;obtain⟨fld,fk,he⟩:=ci.1 d6;cases he;have b9:l[f]? = some fld:=by rw[<-fk];simp
 cases d<;>simp only[kx,bE,reduceCtorEq]at hd<;>subst hd
 case ak cs o=>
  obtain⟨b,o',rfl,hr⟩:=hx;refine AH hs (v:=.pointer (some ⟨b,o'+(o+fld.offset),none⟩)) ?_ ⟨b,o',rfl,hr⟩;simp only[Instr.fieldAt,aP,j4 fa,aJ,b9,Instr.sureAddr,bi,GN ht h1 h2,cT]
 case ptr i o=>
  obtain⟨b,hb,rfl⟩:=hx;refine AH hs (v:=.pointer (some ⟨b,o+fld.offset,none⟩)) ?_ ⟨b,hb,rfl⟩;simp only[Instr.fieldAt,aP,j4 fa,aJ,b9,Instr.sureAddr,bi,GN ht h1 h2]
theorem JE{t e:Nat}{es:eR}{own:Own}{k:IntKind}{n:Int}{c:eO}{x:Value}(hk:(tab t).k=.slice e)(he:A2 (tab e).k=false)
  (hx:Rep g (.slice es own) x) (h0:0<=n) (hc:es[n.toNat]? = some c) (hl:c.length=(tab e).size):PRun P g O (.ak c 0) (Instr.indexAt t x (.int k n)) w:=by
 obtain⟨a,cap,rfl,fG,hr,_⟩:=hx;rcases hr with rfl|⟨sz,b,o,rfl,hr⟩
 ·simp at hc
 obtain⟨h1,h2⟩:=jn.get ht hr hc;have fi:n.toNat<es.length:=(aV.1 hc).1;refine AH hs (v:=.pointer (some ⟨b,o+n.toNat*sz,none⟩)) ?_ ⟨b,o+n.toNat*sz,rfl,h2⟩;have b6:0<=n/\n<(es.length:Int):=⟨h0,j0⟩;simp only[Instr.indexAt,aP,asIntOf,bi,aJ,j4 (AR ht hk),b6,dt,bu,AK (ht e) (Ai he),BQ];rw[<-hl,h1]
theorem Kl{t e id off len cap:Nat}{k:IntKind}{n:Int}{x:Value}(hk:(tab t).k=.slice e)(he:A2 (tab e).k=false)
  (hx:Rep g (.am id off len cap) x) (h0:0<=n/\n.toNat<len):PRun P g O (.ptr id (off+n.toNat*(tab e).size)) (Instr.indexAt t x (.int k n)) w:=by
 obtain⟨b,hb,rfl⟩:=hx;refine AH hs (v:=.pointer (some ⟨b,off+n.toNat*(tab e).size,none⟩)) ?_ ⟨b,hb,rfl⟩;have b6:0<=n/\n<(len:Int):=⟨h0.1,j0⟩;simp only[Instr.indexAt,aP,asIntOf,bi,aJ,j4 (AR ht hk),b6,dt,bu,AK (ht e) (Ai he),BQ]
theorem JF{t len e:Nat}{d d':D}{k:IntKind}{n:Int}{x:Value}(hk:(tab t).k=.array len e)(he:A2 (tab e).k=false)
  (hx:Rep g d x) (h0:0<=n/\n.toNat<len)
  (hd:kx d (n.toNat*(tab e).size)=some d'):PRun P g O d' (Instr.indexAt t x (.int k n)) w:=by
 have b6:0<=n/\n<(len:Int):=⟨h0.1,j0⟩;cases d<;>simp only[kx,bE,reduceCtorEq]at hd<;>subst hd
 case ak cs o=>
  obtain⟨b,o',rfl,hr⟩:=hx;refine AH hs (v:=.pointer (some ⟨b,o'+(o+n.toNat*(tab e).size),none⟩)) ?_ ⟨b,o',rfl,hr⟩;simp only[Instr.indexAt,Instr.sureAddr,aP,asIntOf,bi,aJ,j4 (Hd ht hk),b6,dt,bu,AK (ht e) (Ai he),BQ,cT]
 case ptr i o=>
  obtain⟨b,hb,rfl⟩:=hx;refine AH hs (v:=.pointer (some ⟨b,o+n.toNat*(tab e).size,none⟩)) ?_ ⟨b,hb,rfl⟩;simp only[Instr.indexAt,Instr.sureAddr,aP,asIntOf,bi,aJ,j4 (Hd ht hk),b6,dt,bu,AK (ht e) (Ai he),BQ]
end
def RL(off:Nat): ∀(vs:List Value) (j:Nat) (cs:Array Value),off+j+vs.length<=cs.size->
  ((vs.zipIdx j).foldl (fun (cs:Array Value) (p:Value×Nat)=>cs.setIfInBounds (off+p.2) p.1) cs).toList=cs.toList.take (off+j)++vs++cs.toList.drop (off+j+vs.length):=by
 intro vs
 induction vs with
 |nil=>intro j cs _;simp
 | cons x vs ih =>
  intro j cs h;simp only[aS]at h;simp only[List.zipIdx_cons,eb];rw[ih (j+1) _ (by simp;omega)];apply cD;intro i;simp only[Array.toList_setIfInBounds,cz,aC,cF,bP,bB,aS,dv,cm,dP,List.getElem?_cons];have e1:min (off+(j+1)) cs.size=off+j+1:=by omega
  have e2:min (off+j) cs.size=off+j:=by omega
  rw[e1,e2]
  by_cases h1:i<off+j
  ·have:i<off+j+1+vs.length:=by omega
   have h3:i<off+j+1:=by omega
   have h4:i<off+j+(vs.length+1):=by omega
   have h5:i<off+(j+1):=by omega
   have h6:¬off+j=i:=by omega
   simp[h1,this,h3,h4,h5,h6]
  ·by_cases h2:i=off+j
   ·subst h2;have:off+j<off+(j+1):=by omega
    have h7:off+j<cs.size:=by omega
    have h8:¬off+j+1+vs.length<=off+j:=by omega
    simp[this,h7,h8]
   ·have h3:¬i<off+j+1:=by omega
    by_cases h4:i<off+j+1+vs.length
    ·have h5:i<off+j+(vs.length+1):=by omega
     have h6:¬i-(off+j)=0:=by omega
     simp only[h4,bu,h3,bc,h5,h1,h6]
     congr 1
    ·have h5:¬i<off+j+(vs.length+1):=by omega
     simp only[h4,bc,h5];have e3:off+(j+1)+vs.length+(i-(off+j+1+vs.length))=i:=by omega
     have e4:off+j+(vs.length+1)+(i-(off+j+(vs.length+1)))=i:=by omega
     have h6:¬off+j=i:=by omega
     rw[e3,e4];simp[h6]
def T5{sz:Nat}: ∀(ps:List (Nat×Value)) (k:Nat) (cells:Array Value),ps.map (·.1)=List.range' k ps.length->(∀p∈ps,p.2.cells.size=sz)->(k+ps.length)*sz=cells.size->
  Instr.fill (fun i=>some (i*sz,sz)) cells ps=some ((cells.toList.take (k*sz))++(ps.flatMap fun p=>p.2.cells.toList)).toArray:=by
 intro ps
 induction ps with
 |nil=>
  intro k cells _ _ h;simp only[Instr.fill,List.flatMap_nil,bl];rw[ck (by simp at h⊢; omega)]
 | cons p ps ih =>
  intro k cells hm hsz h;obtain⟨i,v⟩:=p;simp only[bd,aS,List.range'_succ,ec]at hm;obtain⟨rfl,hm⟩:=hm;have hv:v.cells.size=sz:=hsz (i,v) j1;simp only[aS]at h;have e1:(i+(ps.length+1))*sz=i*sz+(ps.length+1)*sz:=cp _ _ _;have e2:(ps.length+1)*sz=ps.length*sz+sz:=by rw[cp,dO]
  have e3:(i+1)*sz=i*sz+sz:=by rw[cp,dO]
  have e4:(i+1+ps.length)*sz=cells.size:=by rw[<-h];congr 1;omega
  have h1:¬(v.cells.size≠sz||decide (i*sz+v.cells.size>cells.size))=true:=by
   simp[hv];omega
  simp only[Instr.fill,h1,bc];have fe:=RL (i*sz) v.cells.toList 0 cells (by simp[hv];omega);obtain⟨c2,fw⟩:∃c2,v.cells.zipIdx.foldl (fun (cs:Array Value) (p:Value×Nat)=>cs.setIfInBounds (i*sz+p.2) p.1) cells=c2:=⟨_,rfl⟩
  have fv:c2.toList=cells.toList.take (i*sz)++v.cells.toList++cells.toList.drop (i*sz+sz):=by
   rw[<-fw,<-ei,Array.toList_zipIdx,fe];simp[hv]
  have hl:c2.size=cells.size:=by
   have:=bn List.length fv;simp[hv]at this;omega
  have:=ih (i+1) c2 hm (fun p hp=>hsz p (by simp[hp])) (by rw[e4,hl]);rw[show(v.cells.zipIdx.foldl (fun cs x=>match x with|(c,j)=>cs.setIfInBounds (i*sz+j) c) cells)=c2 from fw,this]
  congr 2
  rw[fv,e3];simp only[List.flatMap_cons];have e5:(cells.toList.take (i*sz)).length=i*sz:=by simp;omega
  rw[aO,List.take_append,ck j0,e5,List.take_append];simp[hv,show i*sz+sz-i*sz=sz by omega,ck]
def Pw(k:Nat): ∀(l:List (List Value)),(∀e∈l,e.length=k)->∀(i j:Nat) e,l[i]? = some e->j<k->l.flatten[i*k+j]? = e[j]?
 |[],_,i,j,e,h,_=>by simp at h
 |x::l,hl,0,j,e,h,hj=>by
  simp at h;subst h;have:=hl x j1;simp[cz,this,hj]
 |x::l,hl,i+1,j,e,h,hj=>by
  have hx:=hl x j1;have:=Pw k l (fun y hy=>hl y (by simp[hy])) i j e (by simpa using h) hj;have e2:(i+1)*k=i*k+k:=by rw[cp,dO]
  simp only[br,cz];rw[aE j0,<-this]
  congr 1;omega
def Oh{g:G}{b:Nat}: ∀{ds:eO}{vs:List Value}{o:Nat},jE g ds vs->(∀(j:Nat) v,vs[j]? = some v->g.imm b (o+j)=some v)->ju g b o ds
 |[],_,_,_,_=>trivial
 | d::ds,_,o,⟨v,r,e,h1,h2⟩,h=>by
  subst e
  exact⟨⟨v,by simpa using h 0 v rfl,h1⟩,Oh h2 fun j x hx=>by
   have:=h (j+1) x (by simpa using hx)
   rwa [show o+(j+1)=o+1+j by omega]at this⟩
def RS{g:G}{b sz:Nat}: ∀{es:eR}{vss:List (List Value)}{o:Nat},vss.length=es.length->(∀(i:Nat) e v,es[i]? = some e->vss[i]? = some v->jE g e v)->
  (∀e∈es,e.length=sz)->(∀(i:Nat) v,vss[i]? = some v->∀(j:Nat) x,v[j]? = some x->g.imm b (o+i*sz+j)=some x)->jn g b sz o es
 |[],_,_,_,_,_,_=>trivial
 |e::es,[],_,h,_,_,_=>by simp at h
 |e::es,v::vss,o,h,hr,hl,hi=>by
  refine⟨⟨hl e j1,Oh (hr 0 e v rfl rfl) fun j x hx=>by simpa using hi 0 v rfl j x hx⟩,RS (by simpa using h) (fun i e' v' h1 h2=>hr (i+1) e' v' (by simpa using h1) (by simpa using h2)) (fun e' he=>hl e' (by simp[he])) fun i v' hv j x hx=>?_⟩;have:=hi (i+1) v' (by simpa using hv) j x hx
  rwa [show o+(i+1)*sz+j=o+sz+i*sz+j by rw[cp];omega]at this
section
variable {P:Program}{tab:Nat->Ty}(ht:AZ P tab){g:G}{O:Sig}{w:World}(hs:Sim P g O w)
include ht hs
theorem Kc{t e len:Nat}{parts:List (Nat×Value)}{ds:eO}(hk:(tab t).k=.slice e)(he:A2 (tab e).k=false)
  (hm:parts.map (·.1)=List.range len) (hsz:len*(tab e).size<=16777216) (hr:jE g ds (parts.map (·.2))) (b7:∀d∈ds,d.told=true/\d.cells.length=(tab e).size) :
  PRun P g O (.slice (ds.map D.cells) .clip) (Instr.buildSlice t len parts.toArray) w:=by
 have hlen:parts.length=len:=by have:=bn List.length hm;simpa using this
 have fc:ds.length=len:=by have:=jE.length hr;simp at this;omega
 have eV:∀(i:Nat) (d:D) (p:Nat×Value),ds[i]? = some d->parts[i]? = some p->jE g d.cells p.2.cells.toList:=by
  intro i d p h1 h2;have:=jE.get hr i;rw[h1,bA,h2]at this;exact FV this (b7 d (cJ h1)).1
 have b8:∀p∈parts,p.2.cells.size=(tab e).size:=by
  intro p hp;obtain⟨i,hi⟩:=List.mem_iff_getElem?.1 hp;have fD:i<ds.length:=by have:=(aV.1 hi).1;omega
  have h1:ds[i]? = some ds[i]:=aD fD;have:=jE.length (eV i _ p h1 hi);have h2:=(b7 _ (cJ h1)).2;simp at this;omega
 obtain⟨z,hz,fJ,fI⟩:=Dd (ht e) (Ai he) w
 let cells:=parts.flatMap fun p=>p.2.cells.toList
 have fM:cells.length=len*(tab e).size:=by
  have:∀(l:List (Nat×Value)),(∀p∈l,p.2.cells.size=(tab e).size)->(l.flatMap fun p=>p.2.cells.toList).length=l.length*(tab e).size:=by
   intro l
   induction l with
   |nil=>intro _;simp
   |cons p l ih=>
    intro h;have h1:=ih fun q hq=>h q (by simp[hq])
    have h2:=h p j1;simp only[List.flatMap_cons,aC,h1,aS,bB,h2,cp,dO];omega
  rw[<-hlen];exact this parts b8
 have d7:(Instr.buildSlice t len parts.toArray).run P w=.ok (.slice (some ⟨w.heap.size,0,none⟩) len len) { w with heap:=w.heap.push (.cells cells.toArray e) }:=by
  have d5:∀(cs:Array Value),cs.size=len*(tab e).size->Instr.fill (fun i=>some (i*(tab e).size,(tab e).size)) cs parts=some cells.toArray:=by
   intro cs fF;have:=T5 (sz:=(tab e).size) parts 0 cs (by rw[hm,hlen,List.range_eq_range']) b8 (by rw[hlen,fF];simp);simpa using this
  simp only[Instr.buildSlice,aP,j4 (AR ht hk),aJ,AK (ht e) (Ai he)];rw[aE j0]
  by_cases h0:len*(tab e).size=0
  ·simp only[h0,bu,pure_bind];rw[d5 _ (by simp[h0])];simp[D5]
  ·simp only[h0,bc,bind_assoc,aP,hz,pure_bind,aJ];rw[d5 _ j1];simp[D5]
 refine⟨g.addImm w.heap.size cells,_,_,d7,G.addImm_le hs _,hs.addImm cells e (0,0),some ⟨w.heap.size,0,none⟩,len,?_,by simp[fc],?_,by simp[fc]⟩
 ·simp[fc]
 ·right
  refine⟨(tab e).size,w.heap.size,0,rfl,RS (vss:=parts.map fun p=>p.2.cells.toList) (by simp[hlen,fc]) ?_ ?_ ?_⟩
  ·intro i c v h1 h2;rw[bA]at h1 h2;obtain⟨d,hd,rfl⟩:=ci.1 h1;obtain⟨p,hp,rfl⟩:=ci.1 h2;exact jE.mono (G.addImm_le hs _) _ (eV i d p hd hp)
  ·intro c hc;obtain⟨d,hd,rfl⟩:=aZ.1 hc;exact(b7 d hd).2
  ·intro i v hv j x hx
   have fK:v.length=(tab e).size:=by
    rw[bA]at hv;obtain⟨p,hp,rfl⟩:=ci.1 hv;simpa using b8 p (cJ hp)
   have hj:j<(tab e).size:=by have:=(aV.1 hx).1;omega
   have:=Pw (tab e).size (parts.map fun p=>p.2.cells.toList) (fun e' fm=>by
    obtain⟨p,hp,rfl⟩:=aZ.1 fm
    simpa using b8 p hp) i j v hv hj
   show(if w.heap.size=w.heap.size then cells[0+i*(tab e).size+j]? else _)=some x;rw[aG rfl,co];have h3:cells=(parts.map fun p=>p.2.cells.toList).flatten:=List.flatMap_def ..;rw[h3,this,hx]
end
def E4{g:G}{γ:Fr}{m:Nat}{a:Act}(h:kA g γ m a.tmps): ∀(l:List Operand),jE g (l.map (ev γ)) (l.map a.eval)
 |[]=>rfl
 |x::l=>⟨_,_,rfl,As h x,E4 h l⟩
def Fh{α β:Type}(a:Array α)(f:α->β):a.map f=(a.toList.map f).toArray:=by cases a;simp
section
variable {P:Program}{tab:Nat->Ty}(ht:AZ P tab){g:G}{O:Sig}{w:World}(hs:Sim P g O w)
include ht hs
theorem Xv{γ:Fr}{m:Nat}{a:Act}(hT:kA g γ m a.tmps){o:Oper}{d:D}(h:dop tab γ O o.op=some d):ORun P g O d (execOp a.eval o) w:=by
 obtain⟨dst,op,type,pos,after,guard⟩:=o;simp only at h;have E:=fun x=>As hT x;unfold execOp;cases op<;>simp only[dop,Oi,nilD,unD,Vp,Ee,N2,D7,SS,HM,Il,boxD,Sy,Kj]at h<;>(try (cases h;done))
 case move x=>cases h;exact⟨g,w,_,rfl,.refl g,hs,E x⟩
 case assign x=>cases h;exact⟨g,w,_,rfl,.refl g,hs,E x⟩
 case pick c x y=>
  have hc:=E c;split at h
  ·rename_i t e;rw[e]at hc;cases h;obtain hc:=Hl hc;refine⟨g,w,if t then a.eval x else a.eval y,?_,.refl g,hs,?_⟩
   ·simp[asBool,hc,Sem.run]
   ·cases t
    ·exact E y
    ·exact E x
  ·cases h
 case box t v=>
  obtain⟨h1,rfl⟩:=EG h;exact .of (XD hs (E v) h1 t)
 case load t x=>
  obtain⟨h1,h2⟩:=Br h;exact .of (Qy (ht t) (Ai (by simpa using h1)) hs (E x) h2)
 case nilCheck x=>
  have hx:=E x
  dsimp only
  split at h<;>cases h<;>(rename_i e;rw[e]at hx)
  ·obtain⟨b,o,hv,hr⟩:=hx;rw[hv];exact⟨g,w,_,rfl,.refl g,hs,b,o,rfl,hr⟩
  ·obtain⟨b,hb,hv⟩:=hx;rw[hv];exact⟨g,w,_,rfl,.refl g,hs,b,hb,rfl⟩
  ·obtain⟨fs,cs,hv,hr⟩:=hx;rw[hv];exact⟨g,w,_,rfl,.refl g,hs,fs,cs,rfl,hr⟩
  ·obtain⟨y,hv,hr⟩:=hx;rw[hv];exact⟨g,w,_,rfl,.refl g,hs,y,rfl,hr⟩
 case binOp op t x y yt=>
  obtain⟨r,hr,hd⟩:=VD (P:=P) (t:=t) h (E x) (E y) x y w;exact .of (AH hs hr hd)
 case unOp op t x=>
  dsimp only
  have hx:=E x;split at h<;>cases h<;>(rename_i e;rw[e]at hx)
  ·obtain hv:=Hl hx;rw[hv];exact .of (AH hs (v:=.bool _) rfl rfl)
  ·have hv:a.eval x=.int _ _:=hx;rw[hv];exact .of (AH hs (v:=.int _ _) rfl rfl)
 case convert s t x=>
  dsimp only
  have hx:=E x;split at h<;>cases h;rename_i h1 h2 h3;rw[h3]at hx;have hv:a.eval x=.int _ _:=hx;rw[hv];obtain⟨inf,desc,z,_,hu,_⟩:=Cx (ht s) (Ai h1);refine .of (AH hs (v:=.int _ _) ?_ rfl);simp only[convert,aP,j4 hu,j4 (O6 ht h2),aJ];cases desc<;>rfl
 case makeInterface t x=>
  obtain⟨h1,h2⟩:=Br h;cases h2;simp only[bR,eh,bZ]at h1;obtain⟨inf,desc,z,_,hu,hk,_⟩:=Cx (ht t) (Ai h1.1);refine .of (AH hs (v:=.iface t (a.eval x)) ?_ ⟨_,rfl,E x⟩);simp only[Instr.makeInterface,aP,j4 hu,aJ];cases desc<;>first|rfl|skip
  rename_i ms;cases fC:(tab t).k<;>simp[fC,KOK,H3]at hk h1
 case makeFunc fn first cap=>
  cases h;refine .of (AH hs (v:=.func fn (first.map a.eval) (cap.map a.eval)) rfl ?_);rw[Fh,Fh];exact⟨_,_,rfl,E4 hT _,E4 hT _⟩
 case fieldAddr s x f=>
  split at h<;>(try (cases h;done));rename_i fs hk;split at h<;>(try (cases h;done));rename_i off ft hf;obtain⟨h1,h2⟩:=Br h;simp only[bR,eh,bZ,cR]at h1;exact .of (Km ht hs hk hf h1.1 h1.2 (E x) h2)
 case field s x f=>
  dsimp only
  split at h<;>(try (cases h;done));rename_i fs cs hk hx;split at h<;>(try (cases h;done));rename_i off ft hf;obtain⟨h1,h2⟩:=Br h;have hv:=E x;rw[hx]at hv;obtain⟨vs,hv,hr⟩:=hv;obtain⟨l,fa,fj⟩:=HZ ht hk;have d6:(l.toList.map (fun f=>(f.offset,f.type)))[f]? = some (off,ft):=by rw[fj];exact hf
  rw[bA]at d6;obtain⟨fld,fk,he⟩:=ci.1 d6;cases he;have b9:l[f]? = some fld:=by rw[<-fk];simp
  obtain⟨g',w',v,r1,r2,r3,r4⟩:=RX ht hs (by simpa using h1) h2 hr;refine .of ⟨g',w',v,?_,r2,r3,r4⟩;simp only[Instr.field,aP,j4 fa,aJ,b9,hv,asAgg,bi,r1]
 case indexAddr t x i=>
  dsimp only
  have hx:=E x;have hi:=E i;split at h<;>(try (cases h;done))
  ·rename_i e es own k n hk h1 h2;rw[h1]at hx;rw[h2]at hi;have hv:a.eval i=.int k n:=hi;rw[hv];obtain⟨h3,h⟩:=Br h;split at h<;>(try (cases h;done));rename_i h0;split at h<;>(try (cases h;done));rename_i c hc;obtain⟨hl,rfl⟩:=EG h;exact .of (JE ht hs hk (by simpa using h3) hx h0 hc hl)
  ·rename_i e id off len cap k n hk h1 h2;rw[h1]at hx;rw[h2]at hi;have hv:a.eval i=.int k n:=hi;rw[hv];obtain⟨h3,h⟩:=Br h;obtain⟨h4,rfl⟩:=EG h;exact .of (Kl ht hs hk (by simpa using h3) hx h4)
  ·rename_i len e k n hk h2;rw[h2]at hi;have hv:a.eval i=.int k n:=hi;rw[hv];obtain⟨h3,h⟩:=Br h;split at h
   ·rename_i h4;exact .of (JF ht hs hk (by simpa using h3) hx h4 h)
   ·cases h
 case index t x i=>
  dsimp only
  have hx:=E x;have hi:=E i;split at h<;>(try (cases h;done));rename_i s k n hk h1 h2;rw[h1]at hx;rw[h2]at hi;have hv:a.eval i=.int k n:=hi;have fy:a.eval x=.string ⟨s.toArray⟩:=hx;rw[hv,fy];split at h<;>(try (cases h;done));rename_i h0;obtain⟨b,hb,rfl⟩:=ci.1 h;refine .of (AH hs (v:=.int .u8 b.toNat) ?_ rfl);simp only[Instr.index,aP,asIntOf,bi,aJ,j4 (J8 ht hk),h0,bu]
  have:(ByteArray.mk s.toArray)[n.toNat]? = some b:=by
   obtain⟨h3,h4⟩:=aV.1 hb;rw[getElem?_pos _ _ (by simpa[ByteArray.size] using h3)];simp[ByteArray.getElem_eq_getElem_data,h4]
  rw[this];rfl
 case extract x i=>
  dsimp only
  have hx:=E x;split at h<;>(try (cases h;done));rename_i ds e;rw[e]at hx;obtain⟨vs,hv,hr⟩:=hx;rw[hv];have hl:=jE.length hr;have hi:i<vs.length:=by have:=(aV.1 h).1;omega
  have:=jE.get hr i;rw[h,aD hi]at this;refine .of (AH hs (v:=vs[i]) ?_ this);simp[Instr.extract,hi,Sem.run]
 case buildSlice t len parts=>
  dsimp only
  split at h<;>(try (cases h;done));rename_i e hk;obtain⟨h1,h⟩:=Br h;obtain⟨h2,rfl⟩:=EG h;simp only[aF,cR,aH,aW]at h2;obtain⟨⟨h3,h4⟩,h5⟩:=h2
  have hr:jE g (parts.toList.map fun p=>ev γ p.2) ((parts.toList.map fun (p:Nat×Operand)=>(p.1,a.eval p.2)).map (·.2)):=by
   rw[dh]
   have:∀(l:List (Nat×Operand)),jE g (l.map fun p=>ev γ p.2) (l.map ((fun x=>x.2) ∘ fun p=>(p.1,a.eval p.2))):=by
    intro l
    induction l with
    |nil=>rfl
    |cons p l ih=>exact⟨_,_,rfl,E p.2,ih⟩
   exact this _
  have:=Kc ht hs (parts:=parts.toList.map fun (p:Nat×Operand)=>(p.1,a.eval p.2)) (len:=len) hk (by simpa using h1) (by rw[dh];exact h3) (by simpa using h4) hr (by
   intro d hd
   obtain⟨p,hp,rfl⟩:=aZ.1 hd
   exact h5 p hp)
  rw[dh]at this;refine .of ?_;rw[Fh];exact this
 case call c=>
  obtain⟨callee,args,argTypes⟩:=c;cases callee<;>(try simp only[dop]at h)<;>(try (cases h;done));rename_i b;cases b<;>(try simp only[dop]at h)<;>(try (cases h;done));have hr:=E4 hT args.toList
  dsimp only
  obtain⟨argTypes⟩:=argTypes;obtain⟨args⟩:=args;simp only[lenC]at h;split at h<;>(try (cases h;done));rename_i t x
  have key:∀v n,a.eval x=v->(Builtin.len_ #[t] type #[v]).run P w=.ok (.int .i64 n) w->ORun P g O (.int .i64 n) (do let d <-resolve a.eval { callee:=.builtin .len,args:= #[x],argTypes:= #[t] } type;invoke d.target d.args) w:=by
   intro v n h1 h2;refine⟨g,w,.int .i64 n,?_,.refl g,hs,rfl⟩;simp only[resolve,aP,bi,aJ,invoke,builtin,List.map_toArray,bd,bX,h1,h2]
  have one:=E x;simp only[lenD]at h;split at h<;>(try (cases h;done))<;>cases h
  ·rename_i e es own hk h1;rw[h1]at one;obtain⟨a',cap,hv,_⟩:=one;exact key _ _ hv (by simp[Builtin.len_,j4 (AR ht hk),goInt,Sem.run])
  ·rename_i e hk h1;rw[h1]at one;have hv:a.eval x=_:=one;exact key _ _ hv (by simp[Builtin.len_,j4 (AR ht hk),goInt,Sem.run])
  ·rename_i e id off len cap hk h1;rw[h1]at one;obtain⟨b,_,hv⟩:=one;exact key _ _ hv (by simp[Builtin.len_,j4 (AR ht hk),goInt,Sem.run])
  ·rename_i s hk h1;rw[h1]at one;have hv:a.eval x=_:=one;have hz:(ByteArray.mk s.toArray).size=s.length:=by simp[ByteArray.size]
   exact key _ _ hv (by simp only[Builtin.len_,aP,j4 (J8 ht hk),aJ,dn,eH,goInt,hz];rfl)
end
def Q4(P:Program)(f:Nat):Prop:= ∀args w,(callFunc f args).run P w=.ok (.enter f args) w
def C8 {P : Program} {f : Nat} {fn : Func} (h : P.funcs[f]? = some fn) (hn : (fn.name == "runtime.NumGoroutine") = false) (hb : fn.body.isSome = true) : Q4 P f := by
 intro args w;have h2:fn.body.isNone=false:=by cases hx:fn.body<;>simp_all
 simp only[callFunc,program,aP,Sem.run,aJ,h,hn,h2,bm,bc];rfl
structure ar(P:Program)(f:Nat)(args:eO)(O:Sig)(R:DE->Sig->Prop):Prop where
 lt:f<P.funcs.size
 ent:Q4 P f
 run:DCalls P f args O R
abbrev rS(d:D)(τ:Sig):DE->Sig->Prop:=fun x s=>x=.ret d/\s=τ
structure kU(P:Program)(ro:Ro)(f:Nat)(args:eO)(O:Sig)(R:DE->Sig->Prop):Prop where
 lt:f<P.funcs.size
 ent:Q4 P f
 run:∀g w vs r,kh g ro r->Sim P g O w->jE g args vs->CallsIn (FX P r) 0 P f vs.toArray w (Mi P g R)
abbrev Fd(P:Program)(f:Nat)(args:eO)(O:Sig)(R:DE->Sig->Prop):Prop:=kU P .wide f args O R
def ar.any{P:Program}{f:Nat}{args:eO}{O:Sig}{R:DE->Sig->Prop}(h:ar P f args O R)(ro:Ro):kU P ro f args O R:=⟨h.lt,h.ent,fun g w vs r _ hs ha=>Lu r (h.run g w vs hs ha)⟩
def kU.mono{P:Program}{ro:Ro}{f:Nat}{args:eO}{O:Sig}{R R':DE->Sig->Prop}(h:kU P ro f args O R)(hr:∀x U',R x U'->R' x U'):kU P ro f args O R':=
 ⟨h.lt,h.ent,fun g w vs r ff hs ha=>(h.run g w vs r ff hs ha).mono fun _ _ ⟨g',x,U',h1,h2,h3,h4⟩=>⟨g',x,U',h1,h2,h3,hr _ _ h4⟩⟩
def Mc{P:Program}{f:Nat}{fn:Func}{c:Code}{args:eO}{O:Sig}{R:DE->Sig->Prop}(hf:P.funcs[f]? = some fn)(hb:fn.body=some c)
  (fg : (fn.name == "runtime.NumGoroutine") = false) {m : Nat} (hm : fn.ntmps = m) (hn : args.length <= m) (h : DWp P .wide m c (VF P m fn R) { γ := BV 0 args, O }) : Fd P f args O R :=
 ⟨(aI.1 hf).1,C8 hf fg (by rw[hb];rfl),by subst hm;exact fun g w vs r ff hs ha=>by obtain rfl:r=_:=ff;exact GR hf hb hn h (fun _=>rfl) rfl g w vs hs ha⟩
def ar.mono{P:Program}{f:Nat}{args:eO}{O:Sig}{R R':DE->Sig->Prop}(h:ar P f args O R)(hr:∀x U',R x U'->R' x U'):ar P f args O R':=
 ⟨h.lt,h.ent,h.run.mono hr⟩
def NL{P:Program}{f:Nat}{fn:Func}{c:Code}{args:eO}{O:Sig}{R:DE->Sig->Prop}(hf:P.funcs[f]? = some fn)(hb:fn.body=some c)
  (fg : (fn.name == "runtime.NumGoroutine") = false) {m : Nat} (hm : fn.ntmps = m) (hn : args.length <= m) (h : DWp P .none m c (VF P m fn R) { γ := BV 0 args, O }) : ar P f args O R :=
 ⟨(aI.1 hf).1,C8 hf fg (by rw[hb];rfl),Ma hf hb j0 (by rw[hm];exact h)⟩
def au(P:Program)(ro:Ro)(n:Nat)(ops:Array Oper)(Q:DX->St->Prop)(l:List Oper)(s:St):Prop:=
 ∀g w a r,kh g ro r->kI P g n s a w->wpListIn (FX P r) 0 P ops (kE P g n Q) l a w
def putD(dst:Option Tmp)(d:D)(γ:Fr):Fr:=
 match dst with
 |some t=>(t,d)::γ
 |none=>γ
def Ax(n:Nat)(o:Oper):Bool:=
 match o.dst with
 |some t=>decide (t<n)
 |none=>true
def A8(t:Nat)(d:D)(γ:Fr)(i:Nat):getD ((t,d)::γ) i=if i=t then d else getD γ i:=by
 unfold getD
 by_cases h:i=t
 ·subst h;simp[List.lookup]
 ·have:(i==t)=false:=by simpa using h
  simp[List.lookup,this,h]
def kA.put{g:G}{γ:Fr}{n:Nat}{a:Act}{d:D}{v:Value}{o:Oper}(h:kA g γ n a.tmps)(hd:Rep g d v)(ho:Ax n o=true):
  kA g (putD o.dst d γ) n (a.put o.dst v).tmps:=by
 unfold Ax at ho;cases fo:o.dst with
 |none=>exact h
 | some t =>
  rw[fo]at ho;simp only[aH]at ho;simp only[Act.put,putD];refine⟨by simpa using h.1,fun i=>?_⟩;rw[A8]
  by_cases hi:i=t
  ·subst hi;have:i<a.tmps.size:=by rw[h.1];exact ho
   simpa[this] using hd
  ·rw[aE hi];have:=h.2 i
   rwa [show(a.tmps.setIfInBounds t v).getD i undef=a.tmps.getD i undef by simp[cK, cP (cg hi)]]
def Act.put_df(a:Act)(dst:Option Tmp)(v:Value):(a.put dst v).defers=a.defers:=by cases dst<;>rfl
def kI.put{P:Program}{g g':G}{n:Nat}{s:St}{a:Act}{w w':World}{d:D}{v:Value}{o:Oper}{U':Sig}(h:kI P g n s a w)(hg:g.le g')(hs:Sim P g' U' w')(hd:Rep g' d v)(ho:Ax n o=true):
  kI P g' n { s with γ:=putD o.dst d s.γ,O:=U' } (a.put o.dst v) w':=
 ⟨hs,(h.tmps.mono hg).put hd ho,by rw[Act.put_df];exact h.df.mono hg⟩
def Dy(ops:Array Oper)(γ:Fr)(j:Nat):Option Bool:=
 ((ops[j]?).bind (·.dst)).bind fun t=>match getD γ t with
  |.bool b=>some b
  |_=>none
def J7(ops:Array Oper)(γ:Fr)(j:Nat):Bool:=
 match (ops[j]?).bind (·.dst)with
 |some t=>(match getD γ t with
  |.tup []=>true
  |_=>false)
 |none=>false
def AJ(ops:Array Oper)(γ:Fr)(o:Oper):Option Bool:=
 match o.guard with
 |none=>some true
 |some (j,want)=>match Dy ops γ j with
  |some b=>some (b==want)
  |none=>if J7 ops γ j then some false else none
def AW {g:G} {γ:Fr} {n:Nat} {a:Act} {ops:Array Oper} {o:Oper} {b:Bool} (hT:kA g γ n a.tmps) (h:AJ ops γ o=some b) :
  Region.wanted o (yielded ops a.tmps)=b:=by
 unfold AJ at h;unfold Region.wanted;cases hg:o.guard with
 |none=>rw[hg]at h;cases h;rfl
 | some p =>
  obtain⟨j,want⟩:=p;rw[hg]at h;simp only at h⊢;split at h
  ·rename_i c hc;cases h
   have:yielded ops a.tmps j=some c:=by
    unfold Dy at hc;unfold yielded;cases hd:(ops[j]?).bind (·.dst)with
    |none=>rw[hd]at hc;cases hc
    | some t =>
     rw[hd]at hc;simp only[dz]at hc⊢;have ht:=hT.2 t;split at hc
     ·rename_i c' eW;cases hc;rw[eW]at ht;have ht:=Hl ht
      have fi:t<a.tmps.size:=by
       rcases ce t a.tmps.size with hl|hl
       ·exact hl
       ·simp[cK, cb hl,undef]at ht
      rw[bw fi];simp[cK, bw fi]at ht;simp[ht]
     ·cases hc
   rw[this];cases c<;>cases want<;>rfl
  ·split at h
   ·rename_i hu;cases h
    have:yielded ops a.tmps j=none:=by
     unfold J7 at hu;unfold yielded;cases hd:(ops[j]?).bind (·.dst)with
     |none=>rfl
     | some t =>
      rw[hd]at hu;simp only at hu;have ht:=hT.2 t;split at hu
      ·rename_i eW;rw[eW]at ht;obtain⟨vs,hv,hr⟩:=ht;obtain rfl:vs=[]:=hr;simp only[dz];rcases ce t a.tmps.size with hl|hl
       ·simp[cK, bw hl]at hv;rw[bw hl,hv]
       ·rw[cb hl]
      ·cases hu
    rw[this];rfl
   ·cases h
section
variable {P:Program}{ro:Ro}{n:Nat}{ops:Array Oper}{Q:DX->St->Prop}{l rest:List Oper}{s:St}{o:Oper}
theorem AD(h:Q .normal s):au P ro n ops Q [] s:=fun g _ _ _ _ hs=>⟨g,s,.normal,.refl g,hs,rfl,h⟩
theorem QY{id:Nat}(h:au P ro n l.toArray Q l s):DWp P ro n (.region id l.toArray false) Q s:=
 fun g w a r hr hs=>wpIn_region_lit (h g w a r hr hs)
theorem AO {g g':G} {r:Rx} (hg:g.le g') : ∀ (l:List Oper) {a:Act} {w:World},wpListIn (FX P r) 0 P ops (kE P g' n Q) l a w->wpListIn (FX P r) 0 P ops (kE P g n Q) l a w
  |[],_,_,h=>kE.le hg h
  | o::l,a,w,h=>by
    unfold wpListIn at h⊢;split
    · rename_i hw
      rw[aG hw]at h;refine⟨h.1,?_⟩;have h2:=h.2;revert h2;generalize (o.semAt (FX P r).round a.eval).run P w=res;cases res with
      | ok nx w' =>
        cases nx<;>simp only[Oper.uponIn]<;>first
          |exact fun h=>AO hg l h
          | (rintro ⟨h1,h2⟩
             refine⟨h1,?_⟩
             first
               | (refine h2.mono ?_
                  intro e w'' he
                  cases e<;>first
                    |exact AO hg l he
                    |exact kE.le hg he
                    |(obtain⟨a0,w0,he⟩:=he;exact⟨a0,w0,kE.le hg he⟩))
               | (refine h2.mono ?_
                  intro v w'' he
                  exact AO hg l he))
          |exact fun h=>h
      |halt x w'=>cases x<;>simp only[Oper.uponIn]<;>first|exact fun h=>kE.le hg h|exact fun h=>h
    · rename_i hw
      rw[aE hw]at h;exact⟨h.1,AO hg l h.2⟩
theorem IV{d:D}(hw:AJ ops s.γ o=some true)(fh:∀c,o.op≠.defer c)(fp:∀(w:World) (ρ:Operand->Value) f,o.about P w ρ=some f->False)
  (hd:∀g w (a:Act),Sim P g s.O w->kA g s.γ n a.tmps->ORun P g s.O d (execOp a.eval o) w) (ho:Ax n o=true)
  (h:au P ro n ops Q rest { s with γ:=putD o.dst d s.γ }):au P ro n ops Q (o::rest) s:=by
 intro g w a r hr hs;unfold wpListIn;rw[AW hs.tmps hw,aG rfl];refine⟨fun f hf=>(fp _ _ f hf).elim,?_⟩;obtain⟨g',w',v,h1,h2,h3,h4⟩:=hd g w a hs.sim hs.tmps;rw[cX _ _ _ fh,h1];exact AO h2 _ (h g' w' _ r (hr.mono h2) (hs.put h2 h3 h4 ho))
theorem Fz{d:D}{U':Sig}(hw:AJ ops s.γ o=some true)(fh:∀c,o.op≠.defer c)(fp:∀(w:World) (ρ:Operand->Value) f,o.about P w ρ=some f->False)
  (hd:∀g w (a:Act),Sim P g s.O w->kA g s.γ n a.tmps->∃g' w' v,((execOp a.eval o).run P w=.ok (.value v) w'\/((execOp a.eval o).run P w=.ok .skip w'/\v=undef))/\g.le g'/\Sim P g' U' w'/\Rep g' d v) (ho:Ax n o=true)
  (h:au P ro n ops Q rest { s with γ:=putD o.dst d s.γ,O:=U' }):au P ro n ops Q (o::rest) s:=by
 intro g w a r hr hs;unfold wpListIn;rw[AW hs.tmps hw,aG rfl];refine⟨fun f hf=>(fp _ _ f hf).elim,?_⟩;obtain⟨g',w',v,h1,h2,h3,h4⟩:=hd g w a hs.sim hs.tmps;rw[cX _ _ _ fh];rcases h1 with h1|⟨h1,rfl⟩
 ·rw[h1];exact AO h2 _ (h g' w' _ r (hr.mono h2) (hs.put h2 h3 h4 ho))
 ·rw[h1];exact AO h2 _ (h g' w' _ r (hr.mono h2) (hs.put h2 h3 h4 ho))
theorem Lq{fop:Operand}{args:Array Operand}{ats:Array TypeId}{dst:Option Tmp}{ty:TypeId}{pos:String}{after:Array Edge}{guard:Option (Nat×Bool)}{f:Nat}{first cap:eO}{R:DE->Sig->Prop}
  (hw:AJ ops s.γ ⟨dst,(cv fop args ats),ty,pos,after,guard⟩=some true)
  (hf:ev s.γ fop=.func (.func f) first cap) (h:kU P ro f (first++args.toList.map (ev s.γ)++cap) s.O R)
  (ho:Ax n ⟨dst,(cv fop args ats),ty,pos,after,guard⟩=true)
  (d8:∀d U',R (.ret d) U'->au P ro n ops Q rest { s with γ:=putD dst d s.γ,O:=U' })
  (d9:∀d U',R (.panic d) U'->Q (.panic d) { s with O:=U' }) :
  au P ro n ops Q (⟨dst,(cv fop args ats),ty,pos,after,guard⟩::rest) s:=by
 intro g w a r hr hs;unfold wpListIn;rw[AW hs.tmps hw,aG rfl];have fb:=As hs.tmps fop;rw[hf]at fb;obtain⟨fs,cs,fb,fB,fA⟩:=fb
 have eU:(resolve a.eval { callee:=.value fop,args,argTypes:=ats } ty).run P w=.ok { target:=.fn (.func f) cs.toArray,args:=fs.toArray++args.map a.eval } w:=by
  simp[resolve,fb,Deferred.ofValue,Sem.run]
 refine⟨fun f' d6=>?_,?_⟩
 ·simp only[Oper.about,eU,Target.leads]at d6;cases d6;exact GK h.lt _
 ·rw[cX _ _ _ (fun c e=>by cases e)]
  have d7:(execOp a.eval ⟨dst,(cv fop args ats),ty,pos,after,guard⟩).run P w=.ok (.enter f (fs.toArray++args.map a.eval++cs.toArray)) w:=by
   simp only[execOp,aP,eU,aJ,invoke,h.ent _ w]
  rw[d7];refine⟨fun h=>(by cases h),?_⟩
  have eX:jE g (first++args.toList.map (ev s.γ)++cap) (fs++args.toList.map a.eval++cs):=by
   have app:∀{x y:eO}{u v:List Value},jE g x u->jE g y v->jE g (x++y) (u++v):=by
    intro x
    induction x with
    |nil=>intro y u v h1 h2;cases h1;exact h2
    |cons d x ih=>intro y u v h1 h2;obtain⟨v0,r0,rfl,h3,h4⟩:=h1;exact⟨v0,r0++v,rfl,h3,ih h4 h2⟩
   exact app (app fB (E4 hs.tmps _)) fA
  have hc:=h.run g w _ r hr hs.sim eX
  have eW:CallsIn (FX P r) 0 P f (fs.toArray++args.map a.eval++cs.toArray) w (Mi P g R):=by
   have e:(fs++args.toList.map a.eval++cs).toArray=fs.toArray++args.map a.eval++cs.toArray:=by simp
   rw[<-e];exact hc
  refine eW.mono ?_
  rintro e w' ⟨g',x,U',h1,h2,h3,h4⟩
  cases x with
  |ret d=>
   obtain⟨v,rfl,h5⟩:=h3;exact AO h1 _ (d8 d U' h4 g' w' _ r (hr.mono h1) (hs.put (o:=⟨dst,(cv fop args ats),ty,pos,after,guard⟩) h1 h2 h5 ho))
  |panic d=>
   obtain⟨v,rfl,h5⟩:=h3;exact⟨g',{ s with O:=U' },.panic d,h1,⟨h2,hs.tmps.mono h1,hs.df.mono h1⟩,⟨v,rfl,h5⟩,d9 d U' h4⟩
theorem Ve{fop:Operand}{args:Array Operand}{ats:Array TypeId}{dst:Option Tmp}{ty:TypeId}{pos:String}{after:Array Edge}{guard:Option (Nat×Bool)}{f:Nat}{first cap:eO}{R:DE->Sig->Prop}
  (hw:AJ ops s.γ ⟨dst,(cv fop args ats),ty,pos,after,guard⟩=some true)
  (hf:ev s.γ fop=.func (.func f) first cap) (h:ar P f (first++args.toList.map (ev s.γ)++cap) s.O R)
  (ho:Ax n ⟨dst,(cv fop args ats),ty,pos,after,guard⟩=true)
  (d8:∀d U',R (.ret d) U'->au P ro n ops Q rest { s with γ:=putD dst d s.γ,O:=U' })
  (d9:∀d U',R (.panic d) U'->Q (.panic d) { s with O:=U' }) :
  au P ro n ops Q (⟨dst,(cv fop args ats),ty,pos,after,guard⟩::rest) s:=
 Lq hw hf (h.any ro) ho d8 d9
end
def isEff:Op->Bool
 |.call { callee:=.builtin .len,.. }=>false
 |.move _|.assign _|.pick .. |.box .. |.load .. |.nilCheck _|.binOp .. |.unOp .. |.convert .. |.makeInterface .. |.makeFunc .. |.fieldAddr .. |.field .. |.indexAddr .. |.index .. |.extract .. |.buildSlice .. =>false
 |_=>true
def EE(N:Nat):Op->Bool
 |.call { callee:=.value (.func f),.. }=>decide (f<N)
 |.call { callee:=.builtin _,.. }=>true
 |.call _=>false
 |_=>true
def Ov(tab:Nat->Ty)(N n:Nat)(ops:Array Oper):List Oper->Fr->Sig->Option (List Oper×Fr)
 |[],γ,_=>some ([],γ)
 | o::rest,γ,O =>
  match AJ ops γ o with
  |some true=>
   if isEff o.op then some (o::rest,γ) else
   match dop tab γ O o.op with
   |some d=>if Ax n o then Ov tab N n ops rest (putD o.dst d γ) O else none
   |none=>none
  |some false=>if EE N o.op&&Ax n o then Ov tab N n ops rest (putD o.dst .any γ) O else none
  |none=>none
def Ag{P:Program}{o:Oper}(h:∀c,o.op≠.call c)(w:World)(ρ:Operand->Value)(f:Nat):o.about P w ρ=some f->False:=by
 unfold Oper.about;split
 ·rename_i c hc;exact absurd hc (h c)
 ·intro h;cases h
def Bl{P:Program}{o:Oper}{c:Call}{b:Builtin}(h:o.op=.call c)(hb:c.callee=.builtin b)(w:World)(ρ:Operand->Value)(f:Nat):o.about P w ρ=some f->False:=by
 unfold Oper.about;rw[h];simp[resolve,hb,Target.leads]
def Ip{P:Program}{o:Oper}(h:EE P.funcs.size o.op=true)(w:World)(ρ:Operand->Value)(f:Nat)(hf:o.about P w ρ=some f)
  (hρ:∀k,ρ (.func k)=.func (.func k) #[] #[]):f<P.funcs.size:=by
 by_cases hc:∃c,o.op=.call c
 ·obtain⟨c,hc⟩:=hc;rw[hc]at h;obtain⟨callee,args,ats⟩:=c;cases callee with
  |builtin b=>exact(Bl hc rfl w ρ f hf).elim
  |value x=>
   cases x<;>simp only[EE]at h<;>(try (cases h;done));rename_i k;unfold Oper.about at hf;rw[hc]at hf;simp[resolve,hρ,Deferred.ofValue,Target.leads]at hf;subst hf;simpa using h
  |invoke r m=>cases h
 ·exact(Ag (fun c e=>hc ⟨c,e⟩) w ρ f hf).elim
def kokB:TypeDesc->TyK->Bool
 |.slice e,.slice e'=>e==e'
 |.struct fs,.struct l=>fs.toList.map (fun f=>(f.offset,f.type))==l
 |.array n e,.array m e'=>n==m&&e==e'
 |.map k e,.map k' e'=>k==k'&&e==e'
 |.int k,.int k'=>k==k'
 |.string,.str=>true
 |.bool,.bool=>true
 |.interface _,.iface=>true
 |.pointer e,.ptr e'=>e==e'
 |.func _ _ _,.func=>true
 |_,_=>false
def kok_of{d:TypeDesc}{k:TyK}(h:kokB d k=true):KOK d k:=by
 unfold kokB at h;split at h<;>simp_all [KOK]
def dEqB:D->D->Bool
 |.any,.any=>true
 |.bool a,.bool b=>a==b
 |.int k a,.int k' b=>k==k'&&a==b
 |.str a,.str b=>a==b
 |.aq,.aq=>true
 |.aj,.aj=>true
 |.nilmap,.nilmap=>true
 |.ap,.ap=>true
 |.niliface,.niliface=>true
 |_,_=>false
def dEq_of{a b:D}(h:dEqB a b=true):a=b:=by
 unfold dEqB at h;split at h<;>simp_all
def dEqL:eO->eO->Bool
 |[],[]=>true
 |a::az,b::bs=>dEqB a b&&dEqL az bs
 |_,_=>false
def Vo: ∀{a b:eO},dEqL a b=true->a=b
 |[],[],_=>rfl
 |a::az,b::bs,h=>by
  simp only[dEqL,aF]at h;rw[dEq_of h.1,Vo h.2]
 |[],_::_,h=>by simp[dEqL]at h
 |_::_,[],h=>by simp[dEqL]at h
def aggB:TypeDesc->Bool
 |.struct _|.array _ _=>true
 |_=>false
def O7 (P:Program) (t:Nat) (i:Ty):Bool :=
 match i.k with
 |.other=>true
 |_=>match P.info? t,P.underlying t with
  | some inf,some desc=>kokB desc i.k && inf.size==i.size && inf.bytes==i.bytes && i.agg==aggB desc &&
    (match inf.zero with
     |some z=>i.zero.length==i.size&&dEqL i.zero (z.cells.toList.map Bq)&&i.agg==aggV z
     |none=>false)
  |_,_=>false
def Mo{P:Program}{t:Nat}{i:Ty}(h:O7 P t i=true):TyOK P t i:=by
 by_cases hk:i.k=.other
 ·unfold TyOK;rw[hk];trivial
 ·have h2:∃inf desc z,P.info? t=some inf/\P.underlying t=some desc/\KOK desc i.k/\inf.size=i.size/\inf.bytes=i.bytes /\
    i.agg=(match desc with|.struct _|.array _ _=>true|_=>false)/\inf.zero=some z/\i.zero.length=i.size/\i.zero=z.cells.toList.map Bq/\i.agg=aggV z:=by
   unfold O7 at h;split at h
   ·rename_i e;exact absurd e hk
   ·split at h
    ·rename_i inf desc h1 h2;simp only[aF,cR]at h;obtain⟨⟨⟨⟨a,b⟩,c⟩,d⟩,e⟩:=h;split at e
     ·rename_i z hz;simp only[aF,cR]at e;refine⟨inf,desc,z,h1,h2,kok_of a,b,c,?_,hz,e.1.1,Vo e.1.2,e.2⟩;rw[d];unfold aggB;cases desc<;>rfl
     ·cases e
    ·cases h
  unfold TyOK;split
  ·rename_i e;exact absurd e hk
  ·exact h2
def WkD(a b:D):Prop:= ∀g v,Rep g a v->Rep g b v
def Ac(a:D):WkD a a:=fun _ _ h=>h
def EK(a:D):WkD a .any:=fun _ _ _=>trivial
def Cb{a b:D}(h:a=b):WkD a b:=h ▸ Ac a
def Ak(o:Own)(h:o=.no\/o=.clip):WkD .aj (.slice [] o):=by
 rintro g v rfl
 refine⟨none,0,rfl,j1,.inl rfl,?_⟩;rcases h with rfl|rfl
 ·trivial
 ·rfl
def Cc(es:eR)(o:Own):WkD (.slice es o) (.slice es .no):=by
 rintro g v ⟨a,cap,h1,h2,h3,_⟩
 exact⟨a,cap,h1,h2,h3,trivial⟩
def HY(k:IntKind){a b:Int}(h:a=b):WkD (.int k a) (.int k b):=h ▸ Ac _
def DC{es es':eR}(o:Own)(h:es=es'):WkD (.slice es o) (.slice es' .no):=h ▸ Cc es o
def WkL:eO->eO->Prop
 |[],[]=>True
 |a::az,b::bs=>WkD a b/\WkL az bs
 |_,_=>False
def WkL.rep{g:G}: ∀{az bs:eO}{vs:List Value},WkL az bs->jE g az vs->jE g bs vs
 |[],[],_,_,h=>h
 |a::az,b::bs,_,⟨h1,h2⟩,⟨v,r,e,h3,h4⟩=>⟨v,r,e,h1 g v h3,WkL.rep h2 h4⟩
 |[],_::_,_,h,_=>h.elim
 |_::_,[],_,h,_=>h.elim
def WkL.len: ∀{az bs:eO},WkL az bs->az.length=bs.length
 |[],[],_=>rfl
 |a::az,b::bs,h=>by simp[WkL.len h.2]
 |[],_::_,h=>h.elim
 |_::_,[],h=>h.elim
def ar.wk{P:Program}{f:Nat}{args args':eO}{O:Sig}{R:DE->Sig->Prop}(h:ar P f args' O R)(hw:WkL args args'):ar P f args O R:=
 ⟨h.lt,h.ent,fun g w vs hs ha=>h.run g w vs hs (hw.rep ha)⟩
def Tells(γ:Fr):Fr->Prop
 |[]=>True
 |p::r=>WkD (getD γ p.1) p.2/\Tells γ r
def Tells.get{γ:Fr}: ∀{V':Fr},Tells γ V'->∀t,WkD (getD γ t) (getD V' t)
 |[],_,t=>EK _
 |p::r,h,t=>by
  rw[show p::r=(p.1,p.2)::r from rfl,A8]
  by_cases ht:t=p.1
  ·rw[aG ht,ht];exact h.1
  ·rw[aE ht];exact Tells.get h.2 t
section
variable {K:St->Prop}{Q:DX->St->Prop}{s:St}{i id:Nat}{d:D}
theorem Ja(h:K s):ka K Q .normal s:=h
theorem Mq(h:Q (.exit i) s):ka K Q (.exit i) s:=h
theorem OS(h:Q .ret s):ka K Q .ret s:=h
theorem Kz(h:Q (.panic d) s):ka K Q (.panic d) s:=h
theorem L5(h:Q .normal s):InB id Q .normal s:=h
theorem Pp(h:Q .normal s):InB id Q (.exit id) s:=by simp only[InB,bu];exact h
theorem XW(hi:i≠id)(h:Q (.exit i) s):InB id Q (.exit i) s:=by simp only[InB,hi,bc];exact h
theorem ST(h:Q .ret s):InB id Q .ret s:=h
theorem MY(h:Q (.panic d) s):InB id Q (.panic d) s:=h
end
def AA{x:Int}(h1 : -9223372036854775808<=x)(h2:x<=9223372036854775807):IntKind.i64.wrap x=x:=by
 have e1:(2:Int) ^ IntKind.i64.bits=18446744073709551616:=by decide
 have e2:(2:Int) ^ (IntKind.i64.bits-1)=9223372036854775808:=by decide
 have e3:IntKind.i64.signed=true:=rfl;simp only[IntKind.wrap,e1,e2,e3,bq,aH,ge_iff_le];split<;>omega
attribute [simp] Ov AJ Dy isEff dop ev Bq putD Ax EE A2 H3 D.told D.cells BV resD Tells WkL Ac EK lenC boxD Sy Eg
@[simp] theorem getD_hit(t:Nat)(d:D)(γ:Fr):getD ((t,d)::γ) t=d:=by rw[A8,aG rfl]
@[simp] theorem getD_miss(t:Nat)(d:D)(γ:Fr)(i:Nat)(h:i≠t):getD ((t,d)::γ) i=getD γ i:=by rw[A8,aE h]
@[simp] theorem getD_nil(t:Nat):getD [] t=.any:=rfl
@[simp] theorem wkD_own_no(es:eR)(o:Own):WkD (.slice es o) (.slice es .no):=Cc es o
section
variable (k:IntKind)(a b:Int)(x y d:D)(tab:Nat->Ty)(e n id off len cap f:Nat)(es:eR)(o:Own)(s u:List UInt8)(c c':Bool)(cs:eO)(fs:List (Nat×Nat))(γ:List (Nat×D))(O:Sig)(ty:Ty)
@[simp] theorem binD_add:binD .add (.int k a) (.int k b)=some (.int k (k.wrap (a+b))):=by simp[binD]
@[simp] theorem binD_sub:binD .sub (.int k a) (.int k b)=some (.int k (k.wrap (a-b))):=by simp[binD]
@[simp] theorem binD_mul:binD .mul (.int k a) (.int k b)=some (.int k (k.wrap (a*b))):=by simp[binD]
@[simp] theorem binD_quo:binD .quo (.int k a) (.int k b)=if b≠0 then some (.int k (k.wrap (a.tdiv b))) else none:=by simp[binD]
@[simp] theorem binD_rem:binD .rem (.int k a) (.int k b)=if b≠0 then some (.int k (a.tmod b)) else none:=by simp[binD]
theorem H4{α:Type}[BEq α][LawfulBEq α][DecidableEq α](a b:α):(a==b)=decide (a=b):=by rw[aR];simp
@[simp] theorem binD_eql:binD .eql (.int k a) (.int k b)=some (.bool (decide (a=b))):=by simp[binD,H4]
@[simp] theorem binD_neq:binD .neq (.int k a) (.int k b)=some (.bool (!decide (a=b))):=by simp[binD,bne,H4]
@[simp] theorem binD_lss:binD .lss (.int k a) (.int k b)=some (.bool (decide (a<b))):=by simp[binD]
@[simp] theorem binD_leq:binD .leq (.int k a) (.int k b)=some (.bool (decide (a<=b))):=by simp[binD]
@[simp] theorem binD_gtr:binD .gtr (.int k a) (.int k b)=some (.bool (decide (b<a))):=by simp[binD]
@[simp] theorem binD_geq:binD .geq (.int k a) (.int k b)=some (.bool (decide (b<=a))):=by simp[binD]
@[simp] theorem binD_nes:binD .neq (.str s) (.str u)=some (.bool (!decide (s=u))):=by simp[binD,bne,H4]
@[simp] theorem binD_ads:binD .add (.str s) (.str u)=if s.length+u.length<=9223372036854775807 then some (.str (s++u)) else none:=rfl
@[simp] theorem pickD_t:Oi (.bool true) x y=some x:=rfl
@[simp] theorem pickD_f:Oi (.bool false) x y=some y:=rfl
@[simp] theorem pickD_b:Oi (.bool c) x y=some (if c then x else y):=rfl
@[simp] theorem nilD_cptr:nilD (.ak cs n)=some (.ak cs n):=rfl
@[simp] theorem nilD_ptr:nilD (.ptr id n)=some (.ptr id n):=rfl
@[simp] theorem nilD_func(g:Nat)(l m:eO):nilD (.func (.func g) l m)=some (.func (.func g) l m):=rfl
@[simp] theorem nilD_iface(t:Nat):nilD (.iface t d)=some (.iface t d):=rfl
@[simp] theorem unD_not:unD .not (.bool c)=some (.bool (!c)):=rfl
@[simp] theorem unD_neg:unD .neg (.int k a)=some (.int k (k.wrap (0-a))):=rfl
@[simp] theorem convD_int(k':IntKind):Vp false (.int k) (.int k' a)=some (.int k (k.wrap a)):=rfl
@[simp] theorem loadT_m:Kj ty O d=match A2 ty.k with|true=>none|false=>Kk ty O d:=by unfold Kj;cases A2 ty.k<;>rfl
@[simp] theorem XY:Ee tab f x (.struct fs)=match fs[f]? with
  |some (off,ft)=>(match A2 (tab ft).k||(tab ft).size==0 with|true=>none|false=>kx x off)
  |none=>none:=by
 simp only[Ee];cases fs[f]? with
 |none=>rfl
 |some p=>simp only;cases (A2 (tab p.2).k||(tab p.2).size==0)<;>rfl
@[simp] theorem shiftD_cptr:kx (.ak cs n) off=some (.ak cs (n+off)):=rfl
@[simp] theorem shiftD_ptr:kx (.ptr id n) off=some (.ptr id (n+off)):=rfl
@[simp] theorem fieldD_s:N2 tab f (.struct fs) (.agg cs)=match fs[f]? with
  |some (off,ft)=>if A2 (tab ft).k then none else LS (tab ft) cs off
  |none=>none:=rfl
@[simp] theorem XT:D7 tab (.slice e) (.slice es o) (.int k a)=match A2 (tab e).k with
  |true=>none
  | false=>match decide (0<=a) with
   |true=>(match es[a.toNat]? with
    |some c=>(match c.length==(tab e).size with|true=>some (.ak c 0)|false=>none)
    |none=>none)
   |false=>none:=by
 simp only[D7];cases A2 (tab e).k
 ·by_cases h:0<=a
  ·simp only[h,bu,eD,bm,bc];cases es[a.toNat]? with
   |none=>rfl
   | some c =>
    by_cases h2:c.length=(tab e).size
    ·simp[h2]
    ·have h3:(c.length==(tab e).size)=false:=by simpa using h2
     simp[h2,h3]
  ·simp[h]
 ·rfl
@[simp] theorem XU:D7 tab (.slice e) (.am id off len cap) (.int k a) =
  if A2 (tab e).k then none else if 0<=a/\a.toNat<len then some (.ptr id (off+a.toNat*(tab e).size)) else none:=rfl
@[simp] theorem XV:D7 tab (.array len e) x (.int k a) =
  if A2 (tab e).k then none else if 0<=a/\a.toNat<len then kx x (a.toNat*(tab e).size) else none:=by cases x<;>rfl
@[simp] theorem indexD_s:SS .str (.str s) (.int k a)=if 0<=a then(s[a.toNat]?).map fun b=>.int .u8 b.toNat else none:=rfl
@[simp] theorem extractD_t:HM n (.tup cs)=cs[n]? :=rfl
@[simp] theorem bsliceD_s (parts:List (Nat × Operand)):Il tab γ len parts (.slice e)=if A2 (tab e).k then none else
  if parts.map (·.1)==List.range len&&len*(tab e).size<=16777216&&parts.all (fun p=>(ev γ p.2).told&&(ev γ p.2).cells.length==(tab e).size) then
   some (.slice (parts.map fun p=>(ev γ p.2).cells) .clip) else none:=rfl
@[simp] theorem lenD_s:lenD (.slice e) (.slice es o)=some (.int .i64 es.length):=rfl
@[simp] theorem lenD_n:lenD (.slice e) .aj=some (.int .i64 0):=rfl
@[simp] theorem lenD_r:lenD (.slice e) (.am id off len cap)=some (.int .i64 len):=rfl
@[simp] theorem lenD_t:lenD .str (.str s)=some (.int .i64 s.length):=rfl
@[simp] theorem loadD_c:Kk ty O (.ak cs off)=match ty.agg with
  |true=>(match decide (off+ty.size<=cs.length)with|true=>some (.agg ((cs.drop off).take ty.size))|false=>none)
  |false=>cs[off]? :=by
 simp only[Kk];cases ty.agg
 ·rfl
 ·by_cases h:off+ty.size<=cs.length<;>simp[h]
@[simp] theorem loadD_p:Kk ty O (.ptr id off)=match Eg (O id) with
  |some cs=>if ty.agg then(if off+ty.size<=cs.length then some (.agg ((cs.drop off).take ty.size)) else none) else cs[off]?
  |none=>none:=rfl
@[simp] theorem partD_eq:LS ty cs off=if ty.agg then(if off+ty.size<=cs.length then some (.agg ((cs.drop off).take ty.size)) else none) else cs[off]? :=rfl
end
def Bs{γ V':Fr}{x:Operand}(h:∀t,x=.tmp t->getD γ t=getD V' t):ev γ x=ev V' x:=by
 cases x with
 |tmp t=>exact h t rfl
 |_=>rfl
def G5{γ V':Fr}{l:List Operand}(h:∀x∈l,ev γ x=ev V' x):l.map (ev γ)=l.map (ev V'):=ca h
def NJ{tab:Nat->Ty}{γ V':Fr}{O:Sig}{op:Op}(h:∀x∈op.operands,ev γ x=ev V' x):dop tab γ O op=dop tab V' O op:=by
 cases op<;>simp only[Op.operands]at h<;>simp only[dop]
 case move x=>rw[h x j1]
 case assign x=>rw[h x j1]
 case pick c a b=>rw[h c j1,h a j1,h b j1]
 case box t x=>rw[h x j1]
 case load t x=>rw[h x j1]
 case nilCheck x=>rw[h x j1]
 case binOp o t x y u=>rw[h x j1,h y j1]
 case unOp o t x=>rw[h x j1]
 case convert s t x=>rw[h x j1]
 case makeInterface t x=>rw[h x j1]
 case makeFunc fn first cap=>rw[G5 (fun x hx=>h x (by simp at hx;simp[hx])),G5 (l:=cap.toList) (fun x hx=>h x (by simp at hx;simp[hx]))]
 case fieldAddr s x f=>rw[h x j1]
 case field s x f=>rw[h x j1]
 case indexAddr t x i=>rw[h x j1,h i j1]
 case index t x i=>rw[h x j1,h i j1]
 case extract x i=>rw[h x j1]
 case buildSlice t len parts=>
  have hp:∀p∈parts.toList,ev γ p.2=ev V' p.2:=fun p hp=>h p.2 (by simp;exact⟨p.1,by simpa using hp⟩)
  unfold Il;split
  ·rename_i e _;have e1:(parts.toList.map fun p=>(ev γ p.2).cells)=parts.toList.map fun p=>(ev V' p.2).cells:=ca fun p eY=>by rw[hp p eY]
   have e2:(parts.toList.all fun p=>(ev γ p.2).told&&(ev γ p.2).cells.length==(tab e).size)=parts.toList.all fun p=>(ev V' p.2).told&&(ev V' p.2).cells.length==(tab e).size:=by
    rw[aR,aW,aW];constructor<;>intro hh p eY<;>have:=hh p eY<;>rw[hp p eY]at* <;> exact this
   rw[e1,e2]
  ·rfl
 case call c=>
  obtain⟨callee,args,ats⟩:=c;cases callee<;>try rfl
  rename_i b;cases b<;>try rfl
  obtain⟨args⟩:=args;obtain⟨ats⟩:=ats;simp only[dop,lenC];split
  ·rename_i t x;rw[h x (by simp[Call.operands])]
  ·rfl
section
variable {P:Program}{ro:Ro}{n:Nat}{ops:Array Oper}{tab:Nat->Ty}(N:Nat){C:Sig->Prop}
def Yld (P:Program) (n:Nat) (ops:Array Oper) (tab:Nat->Ty) (N:Nat) (C:Sig->Prop) (γ:Fr) (o:Oper) (d:D):Prop :=
  Ax n o=true /\
  ((AJ ops γ o=some true /\
      ((isEff o.op=false /\ ∀ O,C O->dop tab γ O o.op=some d) \/
       ∃fop args ats f first cap,o.op=(cv fop args ats)/\ev γ fop=.func (.func f) first cap /\
        ∀O,C O->ar P f (first++args.toList.map (ev γ)++cap) O fun x U'=>x=.ret d/\C U')) \/
   (AJ ops γ o=some false/\EE N o.op=true/\d=.any))
theorem Hq{o:Oper}{t:Nat}(h:Operand.tmp t∈o.op.operands):t∈o.looksAt ops:=
 List.mem_append_left _ (List.mem_filterMap.2 ⟨.tmp t,by simpa using h,rfl⟩)
theorem J4{γ V':Fr}{o:Oper}(h:∀t∈o.looksAt ops,getD γ t=getD V' t):AJ ops γ o=AJ ops V' o:=by
 unfold AJ;cases hg:o.guard with
 |none=>rfl
 | some p =>
  obtain⟨j,want⟩:=p
  have:Dy ops γ j=Dy ops V' j:=by
   unfold Dy;cases hd:(ops[j]?).bind (·.dst)with
   |none=>rfl
   |some t=>
    have:=h t (eL _ (by simp[hg,hd]));simp[this]
  have hu:J7 ops γ j=J7 ops V' j:=by
   unfold J7;cases hd:(ops[j]?).bind (·.dst)with
   |none=>rfl
   |some t=>
    have:=h t (eL _ (by simp[hg,hd]));simp[this]
  simp only[this,hu]
theorem Yld.congr{γ V':Fr}{o:Oper}{d:D}(h:∀t∈o.looksAt ops,getD γ t=getD V' t)(hy:Yld P n ops tab N C γ o d):Yld P n ops tab N C V' o d:=by
 have eZ:∀x∈o.op.operands,ev γ x=ev V' x:=fun x hx=>Bs fun t ht=>h t (Hq (ht ▸ hx));refine⟨hy.1,?_⟩;rw[<-J4 h];rcases hy.2 with⟨hw,⟨he,hd⟩|⟨fop,args,ats,f,first,cap,ho,hf,hc⟩⟩|hs
 ·exact .inl ⟨hw,.inl ⟨he,fun O hZ=>by rw[<-NJ eZ];exact hd O hZ⟩⟩
 ·rw[ho]at eZ;refine .inl ⟨hw,.inr ⟨fop,args,ats,f,first,cap,ho,by rw[<-eZ fop (by simp[Op.operands,Call.operands])];exact hf,fun O hZ=>?_⟩⟩;rw[<-G5 (γ:=γ) fun x hx=>eZ x (by simp at hx;simp[Op.operands,Call.operands,hx])];exact hc O hZ
 ·exact .inr hs
theorem Al{dst:Option Tmp}{d:D}{γ:Fr}{t:Nat}(h:dst≠some t):getD (putD dst d γ) t=getD γ t:=by
 cases dst with
 |none=>rfl
 |some k=>
  simp only[putD,A8];rw[aE fun e=>h (by rw[e])]
def kP(γ V':Fr):Prop:= ∀t,getD γ t=getD V' t
theorem AN{a b:Option Tmp}(d e:D)(γ:Fr)(h:∀t,a=some t->b≠some t):kP (putD a d (putD b e γ)) (putD b e (putD a d γ)):=by
 intro t;cases a with
 |none=>rfl
 | some i =>
  cases b with
  |none=>rfl
  | some j =>
   have fE:i≠j:=fun e=>h i rfl (by rw[e])
   simp only[putD,A8]
   by_cases h1:t=i
   ·subst h1;simp[fE]
   ·by_cases h2:t=j
    ·subst h2;simp[h1,cg h1]
    ·simp[h1,h2]
theorem kP.put{γ V':Fr}(h:kP γ V')(dst:Option Tmp)(d:D):kP (putD dst d γ) (putD dst d V'):=by
 intro t;cases dst with
 |none=>exact h t
 |some k=>simp only[putD,A8];rw[h t]
def AnyD(P:Program)(n:Nat)(ops:Array Oper)(tab:Nat->Ty)(N:Nat)(C:Sig->Prop)(T:Fr->Prop):Nat->Array Bool->Fr->Prop
 |0,_,γ=>T γ
 |m+1,listed,γ=>Region.ready .any ops listed≠[] /\ ∀i∈Region.ready .any ops listed, ∃o d,ops[i]? = some o/\Yld P n ops tab N C γ o d/\AnyD P n ops tab N C T m (listed.setIfInBounds i true) (putD o.dst d γ)
theorem AnyD.alike{T:Fr->Prop}(hT:∀γ V',kP γ V'->T γ->T V'): ∀(m:Nat) (listed:Array Bool) (γ V':Fr),kP γ V'->AnyD P n ops tab N C T m listed γ->AnyD P n ops tab N C T m listed V'
 |0,_,_,_,h,k=>hT _ _ h k
 |m+1,_,_,_,h,k=>⟨k.1,fun i hi=>
  let ⟨o,d,h1,h2,h3⟩:=k.2 i hi
  ⟨o,d,h1,h2.congr N fun t _=>h t,AnyD.alike hT m _ _ _ (h.put _ _) h3⟩⟩
def cnt(plen:Nat)(listed:Array Bool):Nat:=((List.range plen).filter fun p=> !listed.getD p true).length
def kC(ops:Array Oper)(listed:Array Bool):Prop:=
 ∀(q:Nat) o,ops[q]? = some o->listed.getD q false=true->∀e∈o.after,Region.binds .any e=true->listed.getD e.on false=true
theorem kC.set{listed:Array Bool}(h:kC ops listed){i:Nat}(hi:i∈Region.ready .any ops listed):kC ops (listed.setIfInBounds i true):=by
 intro q o ho hq e he hb;obtain⟨_,oi,fu,c9⟩:=mem_ready.1 hi
 by_cases fq:q=i
 ·subst fq;rw[ho]at fu;cases fu;exact getD_set_true (c9 e he hb)
 ·rw[getD_set_ne false (cg fq)]at hq;exact getD_set_true (h q o ho hq e he hb)
end
def reach(ops:Array Oper):Nat->Nat->Nat->Bool
 |0,_,_=>false
 |fuel+1,k,p=>match ops[k]? with
  |some o=>(o.after.any fun e=>Region.binds .any e&&e.on==p)||(o.after.any fun e=>Region.binds .any e&&(decide (p<e.on)&&reach ops fuel e.on p))
  |none=>false
def CP{ops:Array Oper}{listed:Array Bool}(hc:kC ops listed): ∀(fuel k p:Nat) (o:Oper),ops[k]? = some o->
  (∀e∈o.after,Region.binds .any e=true->listed.getD e.on false=true)->reach ops fuel k p=true->listed.getD p false=true
 |0,_,_,_,_,_,h=>by cases h
 | fuel+1,k,p,o,ho,c9,h=>by
  simp only[reach,ho,bR]at h;rcases h with h|h
  ·rw[Array.any_eq_true']at h;obtain⟨e,he,h⟩:=h;simp only[aF,cR]at h;obtain⟨hb,rfl⟩:=h;exact c9 e he hb
  ·rw[Array.any_eq_true']at h;obtain⟨e,he,h⟩:=h;simp only[aF]at h;obtain⟨hb,_,h⟩:=h;have h1:=c9 e he hb;cases hq:ops[e.on]? with
   |none=>cases fuel<;>simp[reach,hq]at h
   |some q=>exact CP hc fuel e.on p q hq (fun e' fm fH=>hc e.on q hq h1 e' fm fH) h
section
variable {P:Program}{ro:Ro}{n:Nat}{ops:Array Oper}{tab:Nat->Ty}{N:Nat}{C:Sig->Prop}{Q:DX->St->Prop}{df:List DDf}
theorem Cn{l:List Oper}{γ V':Fr}{O:Sig}(h:kP γ V')(k:au P ro n ops Q l ⟨γ,O,df⟩):au P ro n ops Q l ⟨V',O,df⟩:=
 fun g w a r hr hs=>k g w a r hr ⟨hs.sim,⟨hs.tmps.1,fun t=>by rw[h t];exact hs.tmps.2 t⟩,hs.df⟩
end
end Go.DL
