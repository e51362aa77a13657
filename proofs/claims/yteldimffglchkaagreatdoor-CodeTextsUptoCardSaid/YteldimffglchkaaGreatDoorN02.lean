/- A part of the proof. -/
import Derived.Test.YteldimffglchkaaGreatDoorN01
import Derived.OrdersIn
import Derived.Still
set_option linter.all false
namespace Go.DL
open Go
def ORun(P:Program)(g:G)(O:Sig)(d:D)(s:Sem Next)(w:World):Prop:=
 ∃g' w' v,s.run P w=.ok (.value v) w'/\g.le g'/\Sim P g' O w'/\Rep g' d v
theorem ORun.of{P:Program}{g:G}{O:Sig}{d:D}{s:Sem Value}{w:World}(h:PRun P g O d s w):ORun P g O d (do pure (.value (<-s))) w:=
 let ⟨g',w',v,h1,h2,h3,h4⟩:=h
 ⟨g',w',v,by simp only[Sem.run_bind,h1,Result.andThen_ok,Sem.run_pure],h2,h3,h4⟩
theorem Av{P:Program}{g:G}{O:Sig}{d:D}{s:Sem Value}{w:World}{v:Value}(hs:Sim P g O w)(h:s.run P w=.ok v w)(hr:Rep g d v):PRun P g O d s w:=
 ⟨g,w,v,h,.refl g,hs,hr⟩
theorem DB{α:Type}{c:Prop}[Decidable c]{x y:α}(h:(if c then some x else none)=some y):c/\x=y:=by
 split at h
 ·rename_i hc;cases h;exact⟨hc,rfl⟩
 ·cases h
theorem B9{α:Type}{c:Prop}[Decidable c]{x:Option α}{y:α}(h:(if c then none else x)=some y): ¬c/\x=some y:=by
 split at h
 ·cases h
 ·rename_i hc;exact⟨hc,h⟩
section
variable {P:Program}{tab:Nat->Ty}(ht:AZ P tab){g:G}{O:Sig}{w:World}(hs:Sim P g O w)
include ht hs
theorem Qt{t:Nat}{cs:List D}{off:Nat}{d:D}{vs:List Value}(hk:A1 (tab t).k=false)(h:KB (tab t) cs off=some d)(hr:RepL g cs vs):
  PRun P g O d (part t vs.toArray off) w:=by
 have hl:=RepL.length hr
 unfold KB at h
 unfold PRun part
 simp only[Sem.run_bind,I4 (ht t) (Ae hk),Result.andThen_ok]
 by_cases ha:(tab t).agg=true
 ·rw[if_pos ha]at h⊢
  obtain⟨bd,rfl⟩:=DB h
  refine⟨g,w,.agg (vs.toArray.extract off (off+(tab t).size)),by simp only[Sem.run_bind,Az (ht t) (Ae hk),Result.andThen_ok,Sem.run_pure],.refl g,hs,(vs.drop off).take (tab t).size,by simp,?_⟩
  refine AE (by simp;omega) fun j x y hx hy=>?_
  rw[List.getElem?_take]at hx hy
  split at hx
  ·rename_i hj
   simp only[hj,if_true,List.getElem?_drop]at hx hy
   have:=RepL.get hr (off+j)
   rw[hx,hy]at this
   exact this
  ·cases hx
 ·simp only[Bool.not_eq_true]at ha
  simp only[ha,Bool.false_eq_true,if_false]at h⊢
  have hj:off<vs.length:=by
   have:=(List.getElem?_eq_some_iff.1 h).1;omega
  have hv:vs.toArray[off]? = some vs[off]:=by simp[hj]
  refine⟨g,w,vs[off],by rw[hv];rfl,.refl g,hs,?_⟩
  have:=RepL.get hr off
  rw[h,List.getElem?_eq_getElem hj]at this
  exact this
theorem Jh{s f off ft:Nat}{fs:List (Nat×Nat)}{x:Value}{d d':D}(hk:(tab s).k=.struct fs)(hf:fs[f]? = some (off,ft))(h1:A1 (tab ft).k=false)(h2:(tab ft).size≠0)
  (hx:Rep g d x) (hd:shiftD d off=some d'):PRun P g O d' (Instr.fieldAt s x f) w:=by
 obtain⟨l,aB,aJ⟩:=GJ ht hk
 have ak:(l.toList.map (fun f=>(f.offset,f.type)))[f]? = some (off,ft):=by rw[aJ];exact hf
 rw[List.getElem?_map]at ak
 obtain⟨fld,aK,he⟩:=Option.map_eq_some_iff.1 ak
 cases he
 have ah:l[f]? = some fld:=by rw[<-aK];simp
 cases d<;>simp only[shiftD,Option.some.injEq,reduceCtorEq]at hd<;>subst hd
 case cptr cs o=>
  obtain⟨b,o',rfl,hr⟩:=hx
  refine Av hs (v:=.pointer (some ⟨b,o'+(o+fld.offset),none⟩)) ?_ ⟨b,o',rfl,hr⟩
  simp only[Instr.fieldAt,Sem.run_bind,run_underlying aB,Result.andThen_ok,ah,Instr.sureAddr,Sem.run_pure,Fv ht h1 h2,Nat.add_assoc]
 case ptr i o=>
  obtain⟨b,hb,rfl⟩:=hx
  refine Av hs (v:=.pointer (some ⟨b,o+fld.offset,none⟩)) ?_ ⟨b,hb,rfl⟩
  simp only[Instr.fieldAt,Sem.run_bind,run_underlying aB,Result.andThen_ok,ah,Instr.sureAddr,Sem.run_pure,Fv ht h1 h2]
theorem Iu{t e:Nat}{es:List (List D)}{own:Own}{k:IntKind}{n:Int}{c:List D}{x:Value}(hk:(tab t).k=.slice e)(he:A1 (tab e).k=false)
  (hx:Rep g (.slice es own) x) (h0:0<=n) (hc:es[n.toNat]? = some c) (hl:c.length=(tab e).size):PRun P g O (.cptr c 0) (Instr.indexAt t x (.int k n)) w:=by
 obtain⟨a,cap,rfl,aZ,hr,_⟩:=hx
 rcases hr with rfl|⟨sz,b,o,rfl,hr⟩
 ·simp at hc
 obtain⟨h1,h2⟩:=RepE.get ht hr hc
 have aI:n.toNat<es.length:=(List.getElem?_eq_some_iff.1 hc).1
 refine Av hs (v:=.pointer (some ⟨b,o+n.toNat*sz,none⟩)) ?_ ⟨b,o+n.toNat*sz,rfl,h2⟩
 have aa:0<=n/\n<(es.length:Int):=⟨h0,by omega⟩
 simp only[Instr.indexAt,Sem.run_bind,asIntOf,Sem.run_pure,Result.andThen_ok,run_underlying (AJ ht hk),aa,and_self,if_true,Az (ht e) (Ae he),Bu]
 rw[<-hl,h1]
theorem Jf{t e id off len cap:Nat}{k:IntKind}{n:Int}{x:Value}(hk:(tab t).k=.slice e)(he:A1 (tab e).k=false)
  (hx:Rep g (.sref id off len cap) x) (h0:0<=n/\n.toNat<len):PRun P g O (.ptr id (off+n.toNat*(tab e).size)) (Instr.indexAt t x (.int k n)) w:=by
 obtain⟨b,hb,rfl⟩:=hx
 refine Av hs (v:=.pointer (some ⟨b,off+n.toNat*(tab e).size,none⟩)) ?_ ⟨b,hb,rfl⟩
 have aa:0<=n/\n<(len:Int):=⟨h0.1,by omega⟩
 simp only[Instr.indexAt,Sem.run_bind,asIntOf,Sem.run_pure,Result.andThen_ok,run_underlying (AJ ht hk),aa,and_self,if_true,Az (ht e) (Ae he),Bu]
theorem Iv{t len e:Nat}{d d':D}{k:IntKind}{n:Int}{x:Value}(hk:(tab t).k=.array len e)(he:A1 (tab e).k=false)
  (hx:Rep g d x) (h0:0<=n/\n.toNat<len)
  (hd:shiftD d (n.toNat*(tab e).size)=some d'):PRun P g O d' (Instr.indexAt t x (.int k n)) w:=by
 have aa:0<=n/\n<(len:Int):=⟨h0.1,by omega⟩
 cases d<;>simp only[shiftD,Option.some.injEq,reduceCtorEq]at hd<;>subst hd
 case cptr cs o=>
  obtain⟨b,o',rfl,hr⟩:=hx
  refine Av hs (v:=.pointer (some ⟨b,o'+(o+n.toNat*(tab e).size),none⟩)) ?_ ⟨b,o',rfl,hr⟩
  simp only[Instr.indexAt,Instr.sureAddr,Sem.run_bind,asIntOf,Sem.run_pure,Result.andThen_ok,run_underlying (FU ht hk),aa,and_self,if_true,Az (ht e) (Ae he),Bu,Nat.add_assoc]
 case ptr i o=>
  obtain⟨b,hb,rfl⟩:=hx
  refine Av hs (v:=.pointer (some ⟨b,o+n.toNat*(tab e).size,none⟩)) ?_ ⟨b,hb,rfl⟩
  simp only[Instr.indexAt,Instr.sureAddr,Sem.run_bind,asIntOf,Sem.run_pure,Result.andThen_ok,run_underlying (FU ht hk),aa,and_self,if_true,Az (ht e) (Ae he),Bu]
end
theorem Qd(off:Nat): ∀(vs:List Value) (j:Nat) (cs:Array Value),off+j+vs.length<=cs.size->
  ((vs.zipIdx j).foldl (fun (cs:Array Value) (p:Value×Nat)=>cs.setIfInBounds (off+p.2) p.1) cs).toList=cs.toList.take (off+j)++vs++cs.toList.drop (off+j+vs.length):=by
 intro vs
 induction vs with
 |nil=>intro j cs _;simp
 | cons x vs ih =>
  intro j cs h
  simp only[List.length_cons]at h
  simp only[List.zipIdx_cons,List.foldl_cons]
  rw[ih (j+1) _ (by simp;omega)]
  apply List.ext_getElem?
  intro i
  simp only[Array.toList_setIfInBounds,List.getElem?_append,List.length_append,List.length_take,List.length_set,Array.length_toList,List.length_cons,List.getElem?_take,List.getElem?_drop,List.getElem?_set,List.getElem?_cons]
  have e1:min (off+(j+1)) cs.size=off+j+1:=by omega
  have e2:min (off+j) cs.size=off+j:=by omega
  rw[e1,e2]
  by_cases h1:i<off+j
  ·have:i<off+j+1+vs.length:=by omega
   have h3:i<off+j+1:=by omega
   have h4:i<off+j+(vs.length+1):=by omega
   have h5:i<off+(j+1):=by omega
   have h6:¬off+j=i:=by omega
   simp[h1,this,h3,h4,h5,h6]
  ·by_cases h2:i=off+j
   ·subst h2
    have:off+j<off+(j+1):=by omega
    have h7:off+j<cs.size:=by omega
    have h8:¬off+j+1+vs.length<=off+j:=by omega
    simp[this,h7,h8]
   ·have h3:¬i<off+j+1:=by omega
    by_cases h4:i<off+j+1+vs.length
    ·have h5:i<off+j+(vs.length+1):=by omega
     have h6:¬i-(off+j)=0:=by omega
     simp only[h4,if_true,h3,if_false,h5,h1,h6]
     congr 1
    ·have h5:¬i<off+j+(vs.length+1):=by omega
     simp only[h4,if_false,h5]
     have e3:off+(j+1)+vs.length+(i-(off+j+1+vs.length))=i:=by omega
     have e4:off+j+(vs.length+1)+(i-(off+j+(vs.length+1)))=i:=by omega
     have h6:¬off+j=i:=by omega
     rw[e3,e4]
     simp[h6]
theorem Rq{sz:Nat}: ∀(ps:List (Nat×Value)) (k:Nat) (cells:Array Value),ps.map (·.1)=List.range' k ps.length->(∀p∈ps,p.2.cells.size=sz)->(k+ps.length)*sz=cells.size->
  Instr.fill (fun i=>some (i*sz,sz)) cells ps=some ((cells.toList.take (k*sz))++(ps.flatMap fun p=>p.2.cells.toList)).toArray:=by
 intro ps
 induction ps with
 |nil=>
  intro k cells _ _ h
  simp only[Instr.fill,List.flatMap_nil,List.append_nil]
  rw[List.take_of_length_le (by simp at h⊢; omega)]
 | cons p ps ih =>
  intro k cells hm hsz h
  obtain⟨i,v⟩:=p
  simp only[List.map_cons,List.length_cons,List.range'_succ,List.cons.injEq]at hm
  obtain⟨rfl,hm⟩:=hm
  have hv:v.cells.size=sz:=hsz (i,v) (by simp)
  simp only[List.length_cons]at h
  have e1:(i+(ps.length+1))*sz=i*sz+(ps.length+1)*sz:=Nat.add_mul _ _ _
  have e2:(ps.length+1)*sz=ps.length*sz+sz:=by rw[Nat.add_mul,Nat.one_mul]
  have e3:(i+1)*sz=i*sz+sz:=by rw[Nat.add_mul,Nat.one_mul]
  have e4:(i+1+ps.length)*sz=cells.size:=by rw[<-h];congr 1;omega
  have h1:¬(v.cells.size≠sz||decide (i*sz+v.cells.size>cells.size))=true:=by
   simp[hv];omega
  simp only[Instr.fill,h1,if_false]
  have aE:=Qd (i*sz) v.cells.toList 0 cells (by simp[hv];omega)
  obtain⟨c2,aR⟩:∃c2,v.cells.zipIdx.foldl (fun (cs:Array Value) (p:Value×Nat)=>cs.setIfInBounds (i*sz+p.2) p.1) cells=c2:=⟨_,rfl⟩
  have aQ:c2.toList=cells.toList.take (i*sz)++v.cells.toList++cells.toList.drop (i*sz+sz):=by
   rw[<-aR,<-Array.foldl_toList,Array.toList_zipIdx,aE]
   simp[hv]
  have hl:c2.size=cells.size:=by
   have:=congrArg List.length aQ
   simp[hv]at this
   omega
  have:=ih (i+1) c2 hm (fun p hp=>hsz p (by simp[hp])) (by rw[e4,hl])
  rw[show(v.cells.zipIdx.foldl (fun cs x=>match x with|(c,j)=>cs.setIfInBounds (i*sz+j) c) cells)=c2 from aR,this]
  congr 2
  rw[aQ,e3]
  simp only[List.flatMap_cons]
  have e5:(cells.toList.take (i*sz)).length=i*sz:=by simp;omega
  rw[List.append_assoc,List.take_append,List.take_of_length_le (by omega),e5,List.take_append]
  simp[hv,show i*sz+sz-i*sz=sz by omega,List.take_of_length_le]
theorem Od(k:Nat): ∀(l:List (List Value)),(∀e∈l,e.length=k)->∀(i j:Nat) e,l[i]? = some e->j<k->l.flatten[i*k+j]? = e[j]?
 |[],_,i,j,e,h,_=>by simp at h
 |x::l,hl,0,j,e,h,hj=>by
  simp at h;subst h
  have:=hl x (by simp)
  simp[List.getElem?_append,this,hj]
 |x::l,hl,i+1,j,e,h,hj=>by
  have hx:=hl x (by simp)
  have:=Od k l (fun y hy=>hl y (by simp[hy])) i j e (by simpa using h) hj
  have e2:(i+1)*k=i*k+k:=by rw[Nat.add_mul,Nat.one_mul]
  simp only[List.flatten_cons,List.getElem?_append]
  rw[if_neg (by omega),<-this]
  congr 1;omega
theorem N4{g:G}{b:Nat}: ∀{ds:List D}{vs:List Value}{o:Nat},RepL g ds vs->(∀(j:Nat) v,vs[j]? = some v->g.imm b (o+j)=some v)->RepI g b o ds
 |[],_,_,_,_=>trivial
 | d::ds,_,o,⟨v,r,e,h1,h2⟩,h=>by
  subst e
  exact⟨⟨v,by simpa using h 0 v rfl,h1⟩,N4 h2 fun j x hx=>by
   have:=h (j+1) x (by simpa using hx)
   rwa [show o+(j+1)=o+1+j by omega]at this⟩
theorem Ql{g:G}{b sz:Nat}: ∀{es:List (List D)}{vss:List (List Value)}{o:Nat},vss.length=es.length->(∀(i:Nat) e v,es[i]? = some e->vss[i]? = some v->RepL g e v)->
  (∀e∈es,e.length=sz)->(∀(i:Nat) v,vss[i]? = some v->∀(j:Nat) x,v[j]? = some x->g.imm b (o+i*sz+j)=some x)->RepE g b sz o es
 |[],_,_,_,_,_,_=>trivial
 |e::es,[],_,h,_,_,_=>by simp at h
 |e::es,v::vss,o,h,hr,hl,hi=>by
  refine⟨⟨hl e (by simp),N4 (hr 0 e v rfl rfl) fun j x hx=>by simpa using hi 0 v rfl j x hx⟩,Ql (by simpa using h) (fun i e' v' h1 h2=>hr (i+1) e' v' (by simpa using h1) (by simpa using h2)) (fun e' he=>hl e' (by simp[he])) fun i v' hv j x hx=>?_⟩
  have:=hi (i+1) v' (by simpa using hv) j x hx
  rwa [show o+(i+1)*sz+j=o+sz+i*sz+j by rw[Nat.add_mul];omega]at this
section
variable {P:Program}{tab:Nat->Ty}(ht:AZ P tab){g:G}{O:Sig}{w:World}(hs:Sim P g O w)
include ht hs
theorem J5{t e len:Nat}{parts:List (Nat×Value)}{ds:List D}(hk:(tab t).k=.slice e)(he:A1 (tab e).k=false)
  (hm:parts.map (·.1)=List.range len) (hsz:len*(tab e).size<=16777216) (hr:RepL g ds (parts.map (·.2))) (ae:∀d∈ds,d.told=true/\d.cells.length=(tab e).size) :
  PRun P g O (.slice (ds.map D.cells) .clip) (Instr.buildSlice t len parts.toArray) w:=by
 have hlen:parts.length=len:=by have:=congrArg List.length hm;simpa using this
 have aD:ds.length=len:=by have:=RepL.length hr;simp at this;omega
 have au:∀(i:Nat) (d:D) (p:Nat×Value),ds[i]? = some d->parts[i]? = some p->RepL g d.cells p.2.cells.toList:=by
  intro i d p h1 h2
  have:=RepL.get hr i
  rw[h1,List.getElem?_map,h2]at this
  exact EF this (ae d (List.mem_of_getElem? h1)).1
 have ag:∀p∈parts,p.2.cells.size=(tab e).size:=by
  intro p hp
  obtain⟨i,hi⟩:=List.mem_iff_getElem?.1 hp
  have aW:i<ds.length:=by have:=(List.getElem?_eq_some_iff.1 hi).1;omega
  have h1:ds[i]? = some ds[i]:=List.getElem?_eq_getElem aW
  have:=RepL.length (au i _ p h1 hi)
  have h2:=(ae _ (List.mem_of_getElem? h1)).2
  simp at this;omega
 obtain⟨z,hz,bb,ba⟩:=Ct (ht e) (Ae he) w
 let cells:=parts.flatMap fun p=>p.2.cells.toList
 have be:cells.length=len*(tab e).size:=by
  have:∀(l:List (Nat×Value)),(∀p∈l,p.2.cells.size=(tab e).size)->(l.flatMap fun p=>p.2.cells.toList).length=l.length*(tab e).size:=by
   intro l
   induction l with
   |nil=>intro _;simp
   |cons p l ih=>
    intro h
    have h1:=ih fun q hq=>h q (by simp[hq])
    have h2:=h p (by simp)
    simp only[List.flatMap_cons,List.length_append,h1,List.length_cons,Array.length_toList,h2,Nat.add_mul,Nat.one_mul]
    omega
  rw[<-hlen];exact this parts ag
 have am:(Instr.buildSlice t len parts.toArray).run P w=.ok (.slice (some ⟨w.heap.size,0,none⟩) len len) { w with heap:=w.heap.push (.cells cells.toArray e) }:=by
  have aj:∀(cs:Array Value),cs.size=len*(tab e).size->Instr.fill (fun i=>some (i*(tab e).size,(tab e).size)) cs parts=some cells.toArray:=by
   intro cs aY
   have:=Rq (sz:=(tab e).size) parts 0 cs (by rw[hm,hlen,List.range_eq_range']) ag (by rw[hlen,aY];simp)
   simpa using this
  simp only[Instr.buildSlice,Sem.run_bind,run_underlying (AJ ht hk),Result.andThen_ok,Az (ht e) (Ae he)]
  rw[if_neg (by omega)]
  by_cases h0:len*(tab e).size=0
  ·simp only[h0,if_true,pure_bind]
   rw[aj _ (by simp[h0])]
   simp[Cl]
  ·simp only[h0,if_false,bind_assoc,Sem.run_bind,hz,pure_bind,Result.andThen_ok]
   rw[aj _ (by simp)]
   simp[Cl]
 refine⟨g.addImm w.heap.size cells,_,_,am,G.addImm_le hs _,hs.addImm cells e (0,0),some ⟨w.heap.size,0,none⟩,len,?_,by simp[aD],?_,by simp[aD]⟩
 ·simp[aD]
 ·right
  refine⟨(tab e).size,w.heap.size,0,rfl,Ql (vss:=parts.map fun p=>p.2.cells.toList) (by simp[hlen,aD]) ?_ ?_ ?_⟩
  ·intro i c v h1 h2
   rw[List.getElem?_map]at h1 h2
   obtain⟨d,hd,rfl⟩:=Option.map_eq_some_iff.1 h1
   obtain⟨p,hp,rfl⟩:=Option.map_eq_some_iff.1 h2
   exact RepL.mono (G.addImm_le hs _) _ (au i d p hd hp)
  ·intro c hc
   obtain⟨d,hd,rfl⟩:=List.mem_map.1 hc
   exact(ae d hd).2
  ·intro i v hv j x hx
   have bc:v.length=(tab e).size:=by
    rw[List.getElem?_map]at hv
    obtain⟨p,hp,rfl⟩:=Option.map_eq_some_iff.1 hv
    simpa using ag p (List.mem_of_getElem? hp)
   have hj:j<(tab e).size:=by have:=(List.getElem?_eq_some_iff.1 hx).1;omega
   have:=Od (tab e).size (parts.map fun p=>p.2.cells.toList) (fun e' aL=>by
    obtain⟨p,hp,rfl⟩:=List.mem_map.1 aL
    simpa using ag p hp) i j v hv hj
   show(if w.heap.size=w.heap.size then cells[0+i*(tab e).size+j]? else _)=some x
   rw[if_pos rfl,Nat.zero_add]
   have h3:cells=(parts.map fun p=>p.2.cells.toList).flatten:=List.flatMap_def ..
   rw[h3,this,hx]
end
theorem CR{g:G}{γ:Fr}{m:Nat}{a:Act}(h:RepT g γ m a.tmps): ∀(l:List Operand),RepL g (l.map (ev γ)) (l.map a.eval)
 |[]=>rfl
 |x::l=>⟨_,_,rfl,Ah h x,CR h l⟩
theorem Ea{α β:Type}(a:Array α)(f:α->β):a.map f=(a.toList.map f).toArray:=by cases a;simp
section
variable {P:Program}{tab:Nat->Ty}(ht:AZ P tab){g:G}{O:Sig}{w:World}(hs:Sim P g O w)
include ht hs
theorem Ve{γ:Fr}{m:Nat}{a:Act}(hT:RepT g γ m a.tmps){o:Oper}{d:D}(h:dop tab γ O o.op=some d):ORun P g O d (execOp a.eval o) w:=by
 obtain⟨dst,op,type,pos,after,guard⟩:=o
 simp only at h
 have E:=fun x=>Ah hT x
 unfold execOp
 cases op<;>simp only[dop,N6,nilD,unD,Tt,Df,LU,Cn,LP,Gx,Hb,boxD,QO,Jd]at h<;>(try (cases h;done))
 case move x=>cases h;exact⟨g,w,_,rfl,.refl g,hs,E x⟩
 case assign x=>cases h;exact⟨g,w,_,rfl,.refl g,hs,E x⟩
 case pick c x y=>
  have hc:=E c
  split at h
  ·rename_i t e
   rw[e]at hc
   cases h
   obtain hc:=G5 hc
   refine⟨g,w,if t then a.eval x else a.eval y,?_,.refl g,hs,?_⟩
   ·simp[asBool,hc,Sem.run]
   ·cases t
    ·exact E y
    ·exact E x
  ·cases h
 case box t v=>
  obtain⟨h1,rfl⟩:=DB h
  exact .of (Vn hs (E v) h1 t)
 case load t x=>
  obtain⟨h1,h2⟩:=B9 h
  exact .of (Pe (ht t) (Ae (by simpa using h1)) hs (E x) h2)
 case nilCheck x=>
  have hx:=E x
  dsimp only
  split at h<;>cases h<;>(rename_i e;rw[e]at hx)
  ·obtain⟨b,o,hv,hr⟩:=hx;rw[hv];exact⟨g,w,_,rfl,.refl g,hs,b,o,rfl,hr⟩
  ·obtain⟨b,hb,hv⟩:=hx;rw[hv];exact⟨g,w,_,rfl,.refl g,hs,b,hb,rfl⟩
  ·obtain⟨fs,cs,hv,hr⟩:=hx;rw[hv];exact⟨g,w,_,rfl,.refl g,hs,fs,cs,rfl,hr⟩
  ·obtain⟨y,hv,hr⟩:=hx;rw[hv];exact⟨g,w,_,rfl,.refl g,hs,y,rfl,hr⟩
 case binOp op t x y yt=>
  obtain⟨r,hr,hd⟩:=TH (P:=P) (t:=t) h (E x) (E y) x y w
  exact .of (Av hs hr hd)
 case unOp op t x=>
  dsimp only
  have hx:=E x
  split at h<;>cases h<;>(rename_i e;rw[e]at hx)
  ·obtain hv:=G5 hx;rw[hv];exact .of (Av hs (v:=.bool _) rfl rfl)
  ·have hv:a.eval x=.int _ _:=hx;rw[hv];exact .of (Av hs (v:=.int _ _) rfl rfl)
 case convert s t x=>
  dsimp only
  have hx:=E x
  split at h<;>cases h
  rename_i h1 h2 h3
  rw[h3]at hx
  have hv:a.eval x=.int _ _:=hx
  rw[hv]
  obtain⟨inf,desc,z,_,hu,_⟩:=BO (ht s) (Ae h1)
  refine .of (Av hs (v:=.int _ _) ?_ rfl)
  simp only[convert,Sem.run_bind,run_underlying hu,run_underlying (MQ ht h2),Result.andThen_ok]
  cases desc<;>rfl
 case makeInterface t x=>
  obtain⟨h1,h2⟩:=B9 h
  cases h2
  simp only[Bool.or_eq_true,not_or,Bool.not_eq_true]at h1
  obtain⟨inf,desc,z,_,hu,hk,_⟩:=BO (ht t) (Ae h1.1)
  refine .of (Av hs (v:=.iface t (a.eval x)) ?_ ⟨_,rfl,E x⟩)
  simp only[Instr.makeInterface,Sem.run_bind,run_underlying hu,Result.andThen_ok]
  cases desc<;>first|rfl|skip
  rename_i ms
  cases aV:(tab t).k<;>simp[aV,KOK,FN]at hk h1
 case makeFunc fn first cap=>
  cases h
  refine .of (Av hs (v:=.func fn (first.map a.eval) (cap.map a.eval)) rfl ?_)
  rw[Ea,Ea]
  exact⟨_,_,rfl,CR hT _,CR hT _⟩
 case fieldAddr s x f=>
  split at h<;>(try (cases h;done))
  rename_i fs hk
  split at h<;>(try (cases h;done))
  rename_i off ft hf
  obtain⟨h1,h2⟩:=B9 h
  simp only[Bool.or_eq_true,not_or,Bool.not_eq_true,beq_iff_eq]at h1
  exact .of (Jh ht hs hk hf h1.1 h1.2 (E x) h2)
 case field s x f=>
  dsimp only
  split at h<;>(try (cases h;done))
  rename_i fs cs hk hx
  split at h<;>(try (cases h;done))
  rename_i off ft hf
  obtain⟨h1,h2⟩:=B9 h
  have hv:=E x
  rw[hx]at hv
  obtain⟨vs,hv,hr⟩:=hv
  obtain⟨l,aB,aJ⟩:=GJ ht hk
  have ak:(l.toList.map (fun f=>(f.offset,f.type)))[f]? = some (off,ft):=by rw[aJ];exact hf
  rw[List.getElem?_map]at ak
  obtain⟨fld,aK,he⟩:=Option.map_eq_some_iff.1 ak
  cases he
  have ah:l[f]? = some fld:=by rw[<-aK];simp
  obtain⟨g',w',v,r1,r2,r3,r4⟩:=Qt ht hs (by simpa using h1) h2 hr
  refine .of ⟨g',w',v,?_,r2,r3,r4⟩
  simp only[Instr.field,Sem.run_bind,run_underlying aB,Result.andThen_ok,ah,hv,asAgg,Sem.run_pure,r1]
 case indexAddr t x i=>
  dsimp only
  have hx:=E x
  have hi:=E i
  split at h<;>(try (cases h;done))
  ·rename_i e es own k n hk h1 h2
   rw[h1]at hx;rw[h2]at hi
   have hv:a.eval i=.int k n:=hi
   rw[hv]
   obtain⟨h3,h⟩:=B9 h
   split at h<;>(try (cases h;done))
   rename_i h0
   split at h<;>(try (cases h;done))
   rename_i c hc
   obtain⟨hl,rfl⟩:=DB h
   exact .of (Iu ht hs hk (by simpa using h3) hx h0 hc hl)
  ·rename_i e id off len cap k n hk h1 h2
   rw[h1]at hx;rw[h2]at hi
   have hv:a.eval i=.int k n:=hi
   rw[hv]
   obtain⟨h3,h⟩:=B9 h
   obtain⟨h4,rfl⟩:=DB h
   exact .of (Jf ht hs hk (by simpa using h3) hx h4)
  ·rename_i len e k n hk h2
   rw[h2]at hi
   have hv:a.eval i=.int k n:=hi
   rw[hv]
   obtain⟨h3,h⟩:=B9 h
   split at h
   ·rename_i h4
    exact .of (Iv ht hs hk (by simpa using h3) hx h4 h)
   ·cases h
 case index t x i=>
  dsimp only
  have hx:=E x
  have hi:=E i
  split at h<;>(try (cases h;done))
  rename_i s k n hk h1 h2
  rw[h1]at hx;rw[h2]at hi
  have hv:a.eval i=.int k n:=hi
  have aS:a.eval x=.string ⟨s.toArray⟩:=hx
  rw[hv,aS]
  split at h<;>(try (cases h;done))
  rename_i h0
  obtain⟨b,hb,rfl⟩:=Option.map_eq_some_iff.1 h
  refine .of (Av hs (v:=.int .u8 b.toNat) ?_ rfl)
  simp only[Instr.index,Sem.run_bind,asIntOf,Sem.run_pure,Result.andThen_ok,run_underlying (FF ht hk),h0,if_true]
  have:(ByteArray.mk s.toArray)[n.toNat]? = some b:=by
   obtain⟨h3,h4⟩:=List.getElem?_eq_some_iff.1 hb
   rw[getElem?_pos _ _ (by simpa[ByteArray.size] using h3)]
   simp[ByteArray.getElem_eq_getElem_data,h4]
  rw[this];rfl
 case extract x i=>
  dsimp only
  have hx:=E x
  split at h<;>(try (cases h;done))
  rename_i ds e
  rw[e]at hx
  obtain⟨vs,hv,hr⟩:=hx
  rw[hv]
  have hl:=RepL.length hr
  have hi:i<vs.length:=by have:=(List.getElem?_eq_some_iff.1 h).1;omega
  have:=RepL.get hr i
  rw[h,List.getElem?_eq_getElem hi]at this
  refine .of (Av hs (v:=vs[i]) ?_ this)
  simp[Instr.extract,hi,Sem.run]
 case buildSlice t len parts=>
  dsimp only
  split at h<;>(try (cases h;done))
  rename_i e hk
  obtain⟨h1,h⟩:=B9 h
  obtain⟨h2,rfl⟩:=DB h
  simp only[Bool.and_eq_true,beq_iff_eq,decide_eq_true_eq,List.all_eq_true]at h2
  obtain⟨⟨h3,h4⟩,h5⟩:=h2
  have hr:RepL g (parts.toList.map fun p=>ev γ p.2) ((parts.toList.map fun (p:Nat×Operand)=>(p.1,a.eval p.2)).map (·.2)):=by
   rw[List.map_map]
   have:∀(l:List (Nat×Operand)),RepL g (l.map fun p=>ev γ p.2) (l.map ((fun x=>x.2) ∘ fun p=>(p.1,a.eval p.2))):=by
    intro l
    induction l with
    |nil=>rfl
    |cons p l ih=>exact⟨_,_,rfl,E p.2,ih⟩
   exact this _
  have:=J5 ht hs (parts:=parts.toList.map fun (p:Nat×Operand)=>(p.1,a.eval p.2)) (len:=len) hk (by simpa using h1) (by rw[List.map_map];exact h3) (by simpa using h4) hr (by
   intro d hd
   obtain⟨p,hp,rfl⟩:=List.mem_map.1 hd
   exact h5 p hp)
  rw[List.map_map]at this
  refine .of ?_
  rw[Ea]
  exact this
 case call c=>
  obtain⟨callee,args,argTypes⟩:=c
  cases callee<;>(try simp only[dop]at h)<;>(try (cases h;done))
  rename_i b
  cases b<;>(try simp only[dop]at h)<;>(try (cases h;done))
  have hr:=CR hT args.toList
  dsimp only
  obtain⟨argTypes⟩:=argTypes
  obtain⟨args⟩:=args
  simp only[lenC]at h
  split at h<;>(try (cases h;done))
  rename_i t x
  have key:∀v n,a.eval x=v->(Builtin.len_ #[t] type #[v]).run P w=.ok (.int .i64 n) w->ORun P g O (.int .i64 n) (do let d <-resolve a.eval { callee:=.builtin .len,args:= #[x],argTypes:= #[t] } type;invoke d.target d.args) w:=by
   intro v n h1 h2
   refine⟨g,w,.int .i64 n,?_,.refl g,hs,rfl⟩
   simp only[resolve,Sem.run_bind,Sem.run_pure,Result.andThen_ok,invoke,builtin,List.map_toArray,List.map_cons,List.map_nil,h1,h2]
  have one:=E x
  simp only[lenD]at h
  split at h<;>(try (cases h;done))<;>cases h
  ·rename_i e es own hk h1
   rw[h1]at one
   obtain⟨a',cap,hv,_⟩:=one
   exact key _ _ hv (by simp[Builtin.len_,run_underlying (AJ ht hk),goInt,Sem.run])
  ·rename_i e hk h1
   rw[h1]at one
   have hv:a.eval x=_:=one
   exact key _ _ hv (by simp[Builtin.len_,run_underlying (AJ ht hk),goInt,Sem.run])
  ·rename_i e id off len cap hk h1
   rw[h1]at one
   obtain⟨b,_,hv⟩:=one
   exact key _ _ hv (by simp[Builtin.len_,run_underlying (AJ ht hk),goInt,Sem.run])
  ·rename_i s hk h1
   rw[h1]at one
   have hv:a.eval x=_:=one
   have hz:(ByteArray.mk s.toArray).size=s.length:=by simp[ByteArray.size]
   exact key _ _ hv (by simp only[Builtin.len_,Sem.run_bind,run_underlying (FF ht hk),Result.andThen_ok,List.getElem?_toArray,List.getElem?_cons_zero,goInt,hz];rfl)
end
def MJ(P:Program)(f:Nat):Prop:= ∀args w,(callFunc f args).run P w=.ok (.enter f args) w
theorem AI {P : Program} {f : Nat} {fn : Func} (h : P.funcs[f]? = some fn) (hn : (fn.name == "runtime.NumGoroutine") = false) (hb : fn.body.isSome = true) : MJ P f := by
 intro args w
 have h2:fn.body.isNone=false:=by cases hx:fn.body<;>simp_all
 simp only[callFunc,program,Sem.run_bind,Sem.run,Result.andThen_ok,h,hn,h2,Bool.false_eq_true,if_false]
 rfl
structure DCall(P:Program)(f:Nat)(args:List D)(O:Sig)(R:DE->Sig->Prop):Prop where
 lt:f<P.funcs.size
 ent:MJ P f
 run:DCalls P f args O R
abbrev rS(d:D)(τ:Sig):DE->Sig->Prop:=fun x s=>x=.ret d/\s=τ
structure DCallR(P:Program)(ro:Ro)(f:Nat)(args:List D)(O:Sig)(R:DE->Sig->Prop):Prop where
 lt:f<P.funcs.size
 ent:MJ P f
 run:∀g w vs r,RoRep g ro r->Sim P g O w->RepL g args vs->CallsIn (FX P r) 0 P f vs.toArray w (Jr P g R)
abbrev BL(P:Program)(f:Nat)(args:List D)(O:Sig)(R:DE->Sig->Prop):Prop:=DCallR P .wide f args O R
theorem DCall.any{P:Program}{f:Nat}{args:List D}{O:Sig}{R:DE->Sig->Prop}(h:DCall P f args O R)(ro:Ro):DCallR P ro f args O R:=⟨h.lt,h.ent,fun g w vs r _ hs ha=>K9 r (h.run g w vs hs ha)⟩
theorem DCallR.mono{P:Program}{ro:Ro}{f:Nat}{args:List D}{O:Sig}{R R':DE->Sig->Prop}(h:DCallR P ro f args O R)(hr:∀x U',R x U'->R' x U'):DCallR P ro f args O R':=
 ⟨h.lt,h.ent,fun g w vs r aF hs ha=>(h.run g w vs r aF hs ha).mono fun _ _ ⟨g',x,U',h1,h2,h3,h4⟩=>⟨g',x,U',h1,h2,h3,hr _ _ h4⟩⟩
theorem L3{P:Program}{f:Nat}{fn:Func}{c:Code}{args:List D}{O:Sig}{R:DE->Sig->Prop}(hf:P.funcs[f]? = some fn)(hb:fn.body=some c)
  (aG : (fn.name == "runtime.NumGoroutine") = false) {m : Nat} (hm : fn.ntmps = m) (hn : args.length <= m) (h : DWp P .wide m c (TJ P m fn R) { γ := Bo 0 args, O }) : BL P f args O R :=
 ⟨(Array.getElem?_eq_some_iff.1 hf).1,AI hf aG (by rw[hb];rfl),by subst hm;exact fun g w vs r aF hs ha=>by obtain rfl:r=_:=aF;exact Fz hf hb hn h (fun _=>rfl) rfl g w vs hs ha⟩
theorem DCall.mono{P:Program}{f:Nat}{args:List D}{O:Sig}{R R':DE->Sig->Prop}(h:DCall P f args O R)(hr:∀x U',R x U'->R' x U'):DCall P f args O R':=
 ⟨h.lt,h.ent,h.run.mono hr⟩
theorem Mw{P:Program}{f:Nat}{fn:Func}{c:Code}{args:List D}{O:Sig}{R:DE->Sig->Prop}(hf:P.funcs[f]? = some fn)(hb:fn.body=some c)
  (aG : (fn.name == "runtime.NumGoroutine") = false) {m : Nat} (hm : fn.ntmps = m) (hn : args.length <= m) (h : DWp P .none m c (TJ P m fn R) { γ := Bo 0 args, O }) : DCall P f args O R :=
 ⟨(Array.getElem?_eq_some_iff.1 hf).1,AI hf aG (by rw[hb];rfl),L1 hf hb (by omega) (by rw[hm];exact h)⟩
def DOps(P:Program)(ro:Ro)(n:Nat)(ops:Array Oper)(Q:DX->St->Prop)(l:List Oper)(s:St):Prop:=
 ∀g w a r,RoRep g ro r->SimS P g n s a w->wpListIn (FX P r) 0 P ops (Post P g n Q) l a w
def putD(dst:Option Tmp)(d:D)(γ:Fr):Fr:=
 match dst with
 |some t=>(t,d)::γ
 |none=>γ
def Ar(n:Nat)(o:Oper):Bool:=
 match o.dst with
 |some t=>decide (t<n)
 |none=>true
theorem A4(t:Nat)(d:D)(γ:Fr)(i:Nat):getD ((t,d)::γ) i=if i=t then d else getD γ i:=by
 unfold getD
 by_cases h:i=t
 ·subst h;simp[List.lookup]
 ·have:(i==t)=false:=by simpa using h
  simp[List.lookup,this,h]
theorem RepT.put{g:G}{γ:Fr}{n:Nat}{a:Act}{d:D}{v:Value}{o:Oper}(h:RepT g γ n a.tmps)(hd:Rep g d v)(ho:Ar n o=true):
  RepT g (putD o.dst d γ) n (a.put o.dst v).tmps:=by
 unfold Ar at ho
 cases aM:o.dst with
 |none=>exact h
 | some t =>
  rw[aM]at ho
  simp only[decide_eq_true_eq]at ho
  simp only[Act.put,putD]
  refine⟨by simpa using h.1,fun i=>?_⟩
  rw[A4]
  by_cases hi:i=t
  ·subst hi
   have:i<a.tmps.size:=by rw[h.1];exact ho
   simpa[this] using hd
  ·rw[if_neg hi]
   have:=h.2 i
   rwa [show(a.tmps.setIfInBounds t v).getD i undef=a.tmps.getD i undef by simp[Array.getD_eq_getD_getElem?, Array.getElem?_setIfInBounds_ne (Ne.symm hi)]]
theorem Act.put_df(a:Act)(dst:Option Tmp)(v:Value):(a.put dst v).defers=a.defers:=by cases dst<;>rfl
theorem SimS.put{P:Program}{g g':G}{n:Nat}{s:St}{a:Act}{w w':World}{d:D}{v:Value}{o:Oper}{U':Sig}(h:SimS P g n s a w)(hg:g.le g')(hs:Sim P g' U' w')(hd:Rep g' d v)(ho:Ar n o=true):
  SimS P g' n { s with γ:=putD o.dst d s.γ,O:=U' } (a.put o.dst v) w':=
 ⟨hs,(h.tmps.mono hg).put hd ho,by rw[Act.put_df];exact h.df.mono hg⟩
def CM(ops:Array Oper)(γ:Fr)(j:Nat):Option Bool:=
 ((ops[j]?).bind (·.dst)).bind fun t=>match getD γ t with
  |.bool b=>some b
  |_=>none
def HN(ops:Array Oper)(γ:Fr)(j:Nat):Bool:=
 match (ops[j]?).bind (·.dst)with
 |some t=>(match getD γ t with
  |.tup []=>true
  |_=>false)
 |none=>false
def Ay(ops:Array Oper)(γ:Fr)(o:Oper):Option Bool:=
 match o.guard with
 |none=>some true
 |some (j,want)=>match CM ops γ j with
  |some b=>some (b==want)
  |none=>if HN ops γ j then some false else none
theorem AH {g:G} {γ:Fr} {n:Nat} {a:Act} {ops:Array Oper} {o:Oper} {b:Bool} (hT:RepT g γ n a.tmps) (h:Ay ops γ o=some b) :
  Region.wanted o (yielded ops a.tmps)=b:=by
 unfold Ay at h
 unfold Region.wanted
 cases hg:o.guard with
 |none=>rw[hg]at h;cases h;rfl
 | some p =>
  obtain⟨j,want⟩:=p
  rw[hg]at h
  simp only at h⊢
  split at h
  ·rename_i c hc
   cases h
   have:yielded ops a.tmps j=some c:=by
    unfold CM at hc
    unfold yielded
    cases hd:(ops[j]?).bind (·.dst)with
    |none=>rw[hd]at hc;cases hc
    | some t =>
     rw[hd]at hc
     simp only[Option.bind_some]at hc⊢
     have ht:=hT.2 t
     split at hc
     ·rename_i c' aw
      cases hc
      rw[aw]at ht
      have ht:=G5 ht
      have aI:t<a.tmps.size:=by
       rcases Nat.lt_or_ge t a.tmps.size with hl|hl
       ·exact hl
       ·simp[Array.getD_eq_getD_getElem?, Array.getElem?_eq_none hl,undef]at ht
      rw[Array.getElem?_eq_getElem aI]
      simp[Array.getD_eq_getD_getElem?, Array.getElem?_eq_getElem aI]at ht
      simp[ht]
     ·cases hc
   rw[this]
   cases c<;>cases want<;>rfl
  ·split at h
   ·rename_i hu
    cases h
    have:yielded ops a.tmps j=none:=by
     unfold HN at hu
     unfold yielded
     cases hd:(ops[j]?).bind (·.dst)with
     |none=>rfl
     | some t =>
      rw[hd]at hu
      simp only at hu
      have ht:=hT.2 t
      split at hu
      ·rename_i aw
       rw[aw]at ht
       obtain⟨vs,hv,hr⟩:=ht
       obtain rfl:vs=[]:=hr
       simp only[Option.bind_some]
       rcases Nat.lt_or_ge t a.tmps.size with hl|hl
       ·simp[Array.getD_eq_getD_getElem?, Array.getElem?_eq_getElem hl]at hv
        rw[Array.getElem?_eq_getElem hl,hv]
       ·rw[Array.getElem?_eq_none hl]
      ·cases hu
    rw[this];rfl
   ·cases h
section
variable {P:Program}{ro:Ro}{n:Nat}{ops:Array Oper}{Q:DX->St->Prop}{l rest:List Oper}{s:St}{o:Oper}
theorem Au(h:Q .normal s):DOps P ro n ops Q [] s:=fun g _ _ _ _ hs=>⟨g,s,.normal,.refl g,hs,rfl,h⟩
theorem PB{id:Nat}(h:DOps P ro n l.toArray Q l s):DWp P ro n (.region id l.toArray false) Q s:=
 fun g w a r hr hs=>wpIn_region_lit (h g w a r hr hs)
theorem AD {g g':G} {r:Rx} (hg:g.le g') : ∀ (l:List Oper) {a:Act} {w:World},wpListIn (FX P r) 0 P ops (Post P g' n Q) l a w->wpListIn (FX P r) 0 P ops (Post P g n Q) l a w
  |[],_,_,h=>Post.le hg h
  | o::l,a,w,h=>by
    unfold wpListIn at h⊢
    split
    · rename_i hw
      rw[if_pos hw]at h
      refine⟨h.1,?_⟩
      have h2:=h.2
      revert h2
      generalize (o.semAt (FX P r).round a.eval).run P w=res
      cases res with
      | ok nx w' =>
        cases nx<;>simp only[Oper.uponIn]<;>first
          |exact fun h=>AD hg l h
          | (rintro ⟨h1,h2⟩
             refine⟨h1,?_⟩
             first
               | (refine h2.mono ?_
                  intro e w'' he
                  cases e<;>first
                    |exact AD hg l he
                    |exact Post.le hg he
                    |(obtain⟨a0,w0,he⟩:=he;exact⟨a0,w0,Post.le hg he⟩))
               | (refine h2.mono ?_
                  intro v w'' he
                  exact AD hg l he))
          |exact fun h=>h
      |halt x w'=>cases x<;>simp only[Oper.uponIn]<;>first|exact fun h=>Post.le hg h|exact fun h=>h
    · rename_i hw
      rw[if_neg hw]at h
      exact⟨h.1,AD hg l h.2⟩
theorem GC{d:D}(hw:Ay ops s.γ o=some true)(aH:∀c,o.op≠.defer c)(aN:∀(w:World) (ρ:Operand->Value) f,o.about P w ρ=some f->False)
  (hd:∀g w (a:Act),Sim P g s.O w->RepT g s.γ n a.tmps->ORun P g s.O d (execOp a.eval o) w) (ho:Ar n o=true)
  (h:DOps P ro n ops Q rest { s with γ:=putD o.dst d s.γ }):DOps P ro n ops Q (o::rest) s:=by
 intro g w a r hr hs
 unfold wpListIn
 rw[AH hs.tmps hw,if_pos rfl]
 refine⟨fun f hf=>(aN _ _ f hf).elim,?_⟩
 obtain⟨g',w',v,h1,h2,h3,h4⟩:=hd g w a hs.sim hs.tmps
 rw[Oper.semAt_eq _ _ _ aH,h1]
 exact AD h2 _ (h g' w' _ r (hr.mono h2) (hs.put h2 h3 h4 ho))
theorem Er{d:D}{U':Sig}(hw:Ay ops s.γ o=some true)(aH:∀c,o.op≠.defer c)(aN:∀(w:World) (ρ:Operand->Value) f,o.about P w ρ=some f->False)
  (hd:∀g w (a:Act),Sim P g s.O w->RepT g s.γ n a.tmps->∃g' w' v,((execOp a.eval o).run P w=.ok (.value v) w'\/((execOp a.eval o).run P w=.ok .skip w'/\v=undef))/\g.le g'/\Sim P g' U' w'/\Rep g' d v) (ho:Ar n o=true)
  (h:DOps P ro n ops Q rest { s with γ:=putD o.dst d s.γ,O:=U' }):DOps P ro n ops Q (o::rest) s:=by
 intro g w a r hr hs
 unfold wpListIn
 rw[AH hs.tmps hw,if_pos rfl]
 refine⟨fun f hf=>(aN _ _ f hf).elim,?_⟩
 obtain⟨g',w',v,h1,h2,h3,h4⟩:=hd g w a hs.sim hs.tmps
 rw[Oper.semAt_eq _ _ _ aH]
 rcases h1 with h1|⟨h1,rfl⟩
 ·rw[h1];exact AD h2 _ (h g' w' _ r (hr.mono h2) (hs.put h2 h3 h4 ho))
 ·rw[h1];exact AD h2 _ (h g' w' _ r (hr.mono h2) (hs.put h2 h3 h4 ho))
theorem H8{fop:Operand}{args:Array Operand}{ats:Array TypeId}{dst:Option Tmp}{ty:TypeId}{pos:String}{after:Array Edge}{guard:Option (Nat×Bool)}{f:Nat}{first cap:List D}{R:DE->Sig->Prop}
  (hw:Ay ops s.γ ⟨dst,(cv fop args ats),ty,pos,after,guard⟩=some true)
  (hf:ev s.γ fop=.func (.func f) first cap) (h:DCallR P ro f (first++args.toList.map (ev s.γ)++cap) s.O R)
  (ho:Ar n ⟨dst,(cv fop args ats),ty,pos,after,guard⟩=true)
  (ap:∀d U',R (.ret d) U'->DOps P ro n ops Q rest { s with γ:=putD dst d s.γ,O:=U' })
  (aq:∀d U',R (.panic d) U'->Q (.panic d) { s with O:=U' }) :
  DOps P ro n ops Q (⟨dst,(cv fop args ats),ty,pos,after,guard⟩::rest) s:=by
 intro g w a r hr hs
 unfold wpListIn
 rw[AH hs.tmps hw,if_pos rfl]
 have aC:=Ah hs.tmps fop
 rw[hf]at aC
 obtain⟨fs,cs,aC,aU,aT⟩:=aC
 have ar:(resolve a.eval { callee:=.value fop,args,argTypes:=ats } ty).run P w=.ok { target:=.fn (.func f) cs.toArray,args:=fs.toArray++args.map a.eval } w:=by
  simp[resolve,aC,Deferred.ofValue,Sem.run]
 refine⟨fun f' ak=>?_,?_⟩
 ·simp only[Oper.about,ar,Target.leads]at ak
  cases ak
  exact EA h.lt _
 ·rw[Oper.semAt_eq _ _ _ (fun c e=>by cases e)]
  have am:(execOp a.eval ⟨dst,(cv fop args ats),ty,pos,after,guard⟩).run P w=.ok (.enter f (fs.toArray++args.map a.eval++cs.toArray)) w:=by
   simp only[execOp,Sem.run_bind,ar,Result.andThen_ok,invoke,h.ent _ w]
  rw[am]
  refine⟨fun h=>(by cases h),?_⟩
  have ax:RepL g (first++args.toList.map (ev s.γ)++cap) (fs++args.toList.map a.eval++cs):=by
   have app:∀{x y:List D}{u v:List Value},RepL g x u->RepL g y v->RepL g (x++y) (u++v):=by
    intro x
    induction x with
    |nil=>intro y u v h1 h2;cases h1;exact h2
    |cons d x ih=>intro y u v h1 h2;obtain⟨v0,r0,rfl,h3,h4⟩:=h1;exact⟨v0,r0++v,rfl,h3,ih h4 h2⟩
   exact app (app aU (CR hs.tmps _)) aT
  have hc:=h.run g w _ r hr hs.sim ax
  have aw:CallsIn (FX P r) 0 P f (fs.toArray++args.map a.eval++cs.toArray) w (Jr P g R):=by
   have e:(fs++args.toList.map a.eval++cs).toArray=fs.toArray++args.map a.eval++cs.toArray:=by simp
   rw[<-e];exact hc
  refine aw.mono ?_
  rintro e w' ⟨g',x,U',h1,h2,h3,h4⟩
  cases x with
  |ret d=>
   obtain⟨v,rfl,h5⟩:=h3
   exact AD h1 _ (ap d U' h4 g' w' _ r (hr.mono h1) (hs.put (o:=⟨dst,(cv fop args ats),ty,pos,after,guard⟩) h1 h2 h5 ho))
  |panic d=>
   obtain⟨v,rfl,h5⟩:=h3
   exact⟨g',{ s with O:=U' },.panic d,h1,⟨h2,hs.tmps.mono h1,hs.df.mono h1⟩,⟨v,rfl,h5⟩,aq d U' h4⟩
theorem Tj{fop:Operand}{args:Array Operand}{ats:Array TypeId}{dst:Option Tmp}{ty:TypeId}{pos:String}{after:Array Edge}{guard:Option (Nat×Bool)}{f:Nat}{first cap:List D}{R:DE->Sig->Prop}
  (hw:Ay ops s.γ ⟨dst,(cv fop args ats),ty,pos,after,guard⟩=some true)
  (hf:ev s.γ fop=.func (.func f) first cap) (h:DCall P f (first++args.toList.map (ev s.γ)++cap) s.O R)
  (ho:Ar n ⟨dst,(cv fop args ats),ty,pos,after,guard⟩=true)
  (ap:∀d U',R (.ret d) U'->DOps P ro n ops Q rest { s with γ:=putD dst d s.γ,O:=U' })
  (aq:∀d U',R (.panic d) U'->Q (.panic d) { s with O:=U' }) :
  DOps P ro n ops Q (⟨dst,(cv fop args ats),ty,pos,after,guard⟩::rest) s:=
 H8 hw hf (h.any ro) ho ap aq
end
def isEff:Op->Bool
 |.call { callee:=.builtin .len,.. }=>false
 |.move _|.assign _|.pick .. |.box .. |.load .. |.nilCheck _|.binOp .. |.unOp .. |.convert .. |.makeInterface .. |.makeFunc .. |.fieldAddr .. |.field .. |.indexAddr .. |.index .. |.extract .. |.buildSlice .. =>false
 |_=>true
def DQ(N:Nat):Op->Bool
 |.call { callee:=.value (.func f),.. }=>decide (f<N)
 |.call { callee:=.builtin _,.. }=>true
 |.call _=>false
 |_=>true
def Nm(tab:Nat->Ty)(N n:Nat)(ops:Array Oper):List Oper->Fr->Sig->Option (List Oper×Fr)
 |[],γ,_=>some ([],γ)
 | o::rest,γ,O =>
  match Ay ops γ o with
  |some true=>
   if isEff o.op then some (o::rest,γ) else
   match dop tab γ O o.op with
   |some d=>if Ar n o then Nm tab N n ops rest (putD o.dst d γ) O else none
   |none=>none
  |some false=>if DQ N o.op&&Ar n o then Nm tab N n ops rest (putD o.dst .any γ) O else none
  |none=>none
theorem Aa{P:Program}{o:Oper}(h:∀c,o.op≠.call c)(w:World)(ρ:Operand->Value)(f:Nat):o.about P w ρ=some f->False:=by
 unfold Oper.about
 split
 ·rename_i c hc;exact absurd hc (h c)
 ·intro h;cases h
theorem B4{P:Program}{o:Oper}{c:Call}{b:Builtin}(h:o.op=.call c)(hb:c.callee=.builtin b)(w:World)(ρ:Operand->Value)(f:Nat):o.about P w ρ=some f->False:=by
 unfold Oper.about
 rw[h]
 simp[resolve,hb,Target.leads]
theorem Hf{P:Program}{o:Oper}(h:DQ P.funcs.size o.op=true)(w:World)(ρ:Operand->Value)(f:Nat)(hf:o.about P w ρ=some f)
  (hρ:∀k,ρ (.func k)=.func (.func k) #[] #[]):f<P.funcs.size:=by
 by_cases hc:∃c,o.op=.call c
 ·obtain⟨c,hc⟩:=hc
  rw[hc]at h
  obtain⟨callee,args,ats⟩:=c
  cases callee with
  |builtin b=>exact(B4 hc rfl w ρ f hf).elim
  |value x=>
   cases x<;>simp only[DQ]at h<;>(try (cases h;done))
   rename_i k
   unfold Oper.about at hf
   rw[hc]at hf
   simp[resolve,hρ,Deferred.ofValue,Target.leads]at hf
   subst hf
   simpa using h
  |invoke r m=>cases h
 ·exact(Aa (fun c e=>hc ⟨c,e⟩) w ρ f hf).elim
def kokB:TypeDesc->TyK->Bool
 |.slice e,.slice e'=>e==e'
 |.struct fs,.struct l=>fs.toList.map (fun f=>(f.offset,f.type))==l
 |.array n e,.array m e'=>n==m&&e==e'
 |.map k e,.map k' e'=>k==k'&&e==e'
 |.int k,.int k'=>k==k'
 |.string,.str=>true
 |.bool,.bool=>true
 |.interface _,.iface=>true
 |.pointer e,.ptr e'=>e==e'
 |.func _ _ _,.func=>true
 |_,_=>false
theorem kok_of{d:TypeDesc}{k:TyK}(h:kokB d k=true):KOK d k:=by
 unfold kokB at h
 split at h<;>simp_all [KOK]
def dEqB:D->D->Bool
 |.any,.any=>true
 |.bool a,.bool b=>a==b
 |.int k a,.int k' b=>k==k'&&a==b
 |.str a,.str b=>a==b
 |.nilp,.nilp=>true
 |.nils,.nils=>true
 |.nilmap,.nilmap=>true
 |.nilf,.nilf=>true
 |.niliface,.niliface=>true
 |_,_=>false
theorem dEq_of{a b:D}(h:dEqB a b=true):a=b:=by
 unfold dEqB at h
 split at h<;>simp_all
def dEqL:List D->List D->Bool
 |[],[]=>true
 |a::az,b::bs=>dEqB a b&&dEqL az bs
 |_,_=>false
theorem Tp: ∀{a b:List D},dEqL a b=true->a=b
 |[],[],_=>rfl
 |a::az,b::bs,h=>by
  simp only[dEqL,Bool.and_eq_true]at h
  rw[dEq_of h.1,Tp h.2]
 |[],_::_,h=>by simp[dEqL]at h
 |_::_,[],h=>by simp[dEqL]at h
def aggB:TypeDesc->Bool
 |.struct _|.array _ _=>true
 |_=>false
def MT (P:Program) (t:Nat) (i:Ty):Bool :=
 match i.k with
 |.other=>true
 |_=>match P.info? t,P.underlying t with
  | some inf,some desc=>kokB desc i.k && inf.size==i.size && inf.bytes==i.bytes && i.agg==aggB desc &&
    (match inf.zero with
     |some z=>i.zero.length==i.size&&dEqL i.zero (z.cells.toList.map B8)&&i.agg==aggV z
     |none=>false)
  |_,_=>false
theorem Lf{P:Program}{t:Nat}{i:Ty}(h:MT P t i=true):TyOK P t i:=by
 by_cases hk:i.k=.other
 ·unfold TyOK;rw[hk];trivial
 ·have h2:∃inf desc z,P.info? t=some inf/\P.underlying t=some desc/\KOK desc i.k/\inf.size=i.size/\inf.bytes=i.bytes /\
    i.agg=(match desc with|.struct _|.array _ _=>true|_=>false)/\inf.zero=some z/\i.zero.length=i.size/\i.zero=z.cells.toList.map B8/\i.agg=aggV z:=by
   unfold MT at h
   split at h
   ·rename_i e;exact absurd e hk
   ·split at h
    ·rename_i inf desc h1 h2
     simp only[Bool.and_eq_true,beq_iff_eq]at h
     obtain⟨⟨⟨⟨a,b⟩,c⟩,d⟩,e⟩:=h
     split at e
     ·rename_i z hz
      simp only[Bool.and_eq_true,beq_iff_eq]at e
      refine⟨inf,desc,z,h1,h2,kok_of a,b,c,?_,hz,e.1.1,Tp e.1.2,e.2⟩
      rw[d];unfold aggB;cases desc<;>rfl
     ·cases e
    ·cases h
  unfold TyOK
  split
  ·rename_i e;exact absurd e hk
  ·exact h2
def WkD(a b:D):Prop:= ∀g v,Rep g a v->Rep g b v
theorem A8(a:D):WkD a a:=fun _ _ h=>h
theorem E7(a:D):WkD a .any:=fun _ _ _=>trivial
theorem CB{a b:D}(h:a=b):WkD a b:=h ▸ A8 a
theorem Am(o:Own)(h:o=.no\/o=.clip):WkD .nils (.slice [] o):=by
 rintro g v rfl
 refine⟨none,0,rfl,by simp,.inl rfl,?_⟩
 rcases h with rfl|rfl
 ·trivial
 ·rfl
theorem BF(es:List (List D))(o:Own):WkD (.slice es o) (.slice es .no):=by
 rintro g v ⟨a,cap,h1,h2,h3,_⟩
 exact⟨a,cap,h1,h2,h3,trivial⟩
theorem HG(k:IntKind){a b:Int}(h:a=b):WkD (.int k a) (.int k b):=h ▸ A8 _
theorem DN{es es':List (List D)}(o:Own)(h:es=es'):WkD (.slice es o) (.slice es' .no):=h ▸ BF es o
def WkL:List D->List D->Prop
 |[],[]=>True
 |a::az,b::bs=>WkD a b/\WkL az bs
 |_,_=>False
theorem WkL.rep{g:G}: ∀{az bs:List D}{vs:List Value},WkL az bs->RepL g az vs->RepL g bs vs
 |[],[],_,_,h=>h
 |a::az,b::bs,_,⟨h1,h2⟩,⟨v,r,e,h3,h4⟩=>⟨v,r,e,h1 g v h3,WkL.rep h2 h4⟩
 |[],_::_,_,h,_=>h.elim
 |_::_,[],_,h,_=>h.elim
theorem WkL.len: ∀{az bs:List D},WkL az bs->az.length=bs.length
 |[],[],_=>rfl
 |a::az,b::bs,h=>by simp[WkL.len h.2]
 |[],_::_,h=>h.elim
 |_::_,[],h=>h.elim
theorem DCall.wk{P:Program}{f:Nat}{args args':List D}{O:Sig}{R:DE->Sig->Prop}(h:DCall P f args' O R)(hw:WkL args args'):DCall P f args O R:=
 ⟨h.lt,h.ent,fun g w vs hs ha=>h.run g w vs hs (hw.rep ha)⟩
def Tells(γ:Fr):Fr->Prop
 |[]=>True
 |p::r=>WkD (getD γ p.1) p.2/\Tells γ r
theorem Tells.get{γ:Fr}: ∀{V':Fr},Tells γ V'->∀t,WkD (getD γ t) (getD V' t)
 |[],_,t=>E7 _
 |p::r,h,t=>by
  rw[show p::r=(p.1,p.2)::r from rfl,A4]
  by_cases ht:t=p.1
  ·rw[if_pos ht,ht];exact h.1
  ·rw[if_neg ht];exact Tells.get h.2 t
section
variable {K:St->Prop}{Q:DX->St->Prop}{s:St}{i id:Nat}{d:D}
theorem FG(h:K s):Then K Q .normal s:=h
theorem HP(h:Q (.exit i) s):Then K Q (.exit i) s:=h
theorem Kp(h:Q .ret s):Then K Q .ret s:=h
theorem GK(h:Q (.panic d) s):Then K Q (.panic d) s:=h
theorem H3(h:Q .normal s):InB id Q .normal s:=h
theorem KO(h:Q .normal s):InB id Q (.exit id) s:=by simp only[InB,if_true];exact h
theorem Rd(hi:i≠id)(h:Q (.exit i) s):InB id Q (.exit i) s:=by simp only[InB,hi,if_false];exact h
theorem Nd(h:Q .ret s):InB id Q .ret s:=h
theorem Iw(h:Q (.panic d) s):InB id Q (.panic d) s:=h
end
theorem At{x:Int}(h1 : -9223372036854775808<=x)(h2:x<=9223372036854775807):IntKind.i64.wrap x=x:=by
 have e1:(2:Int) ^ IntKind.i64.bits=18446744073709551616:=by decide
 have e2:(2:Int) ^ (IntKind.i64.bits-1)=9223372036854775808:=by decide
 have e3:IntKind.i64.signed=true:=rfl
 simp only[IntKind.wrap,e1,e2,e3,Bool.true_and,decide_eq_true_eq,ge_iff_le]
 split<;>omega
attribute [simp] Nm Ay CM isEff dop ev B8 putD Ar DQ A1 FN D.told D.cells Bo resD Tells WkL A8 E7 lenC boxD QO Dh
@[simp] theorem getD_hit(t:Nat)(d:D)(γ:Fr):getD ((t,d)::γ) t=d:=by rw[A4,if_pos rfl]
@[simp] theorem getD_miss(t:Nat)(d:D)(γ:Fr)(i:Nat)(h:i≠t):getD ((t,d)::γ) i=getD γ i:=by rw[A4,if_neg h]
@[simp] theorem getD_nil(t:Nat):getD [] t=.any:=rfl
@[simp] theorem wkD_own_no(es:List (List D))(o:Own):WkD (.slice es o) (.slice es .no):=BF es o
section
variable (k:IntKind)(a b:Int)(x y d:D)(tab:Nat->Ty)(e n id off len cap f:Nat)(es:List (List D))(o:Own)(s u:List UInt8)(c c':Bool)(cs:List D)(fs:List (Nat×Nat))(γ:List (Nat×D))(O:Sig)(ty:Ty)
@[simp] theorem binD_add:binD .add (.int k a) (.int k b)=some (.int k (k.wrap (a+b))):=by simp[binD]
@[simp] theorem binD_sub:binD .sub (.int k a) (.int k b)=some (.int k (k.wrap (a-b))):=by simp[binD]
@[simp] theorem binD_mul:binD .mul (.int k a) (.int k b)=some (.int k (k.wrap (a*b))):=by simp[binD]
@[simp] theorem binD_quo:binD .quo (.int k a) (.int k b)=if b≠0 then some (.int k (k.wrap (a.tdiv b))) else none:=by simp[binD]
@[simp] theorem binD_rem:binD .rem (.int k a) (.int k b)=if b≠0 then some (.int k (a.tmod b)) else none:=by simp[binD]
theorem Eu{α:Type}[BEq α][LawfulBEq α][DecidableEq α](a b:α):(a==b)=decide (a=b):=by rw[Bool.eq_iff_iff];simp
@[simp] theorem binD_eql:binD .eql (.int k a) (.int k b)=some (.bool (decide (a=b))):=by simp[binD,Eu]
@[simp] theorem binD_neq:binD .neq (.int k a) (.int k b)=some (.bool (!decide (a=b))):=by simp[binD,bne,Eu]
@[simp] theorem binD_lss:binD .lss (.int k a) (.int k b)=some (.bool (decide (a<b))):=by simp[binD]
@[simp] theorem binD_leq:binD .leq (.int k a) (.int k b)=some (.bool (decide (a<=b))):=by simp[binD]
@[simp] theorem binD_gtr:binD .gtr (.int k a) (.int k b)=some (.bool (decide (b<a))):=by simp[binD]
@[simp] theorem binD_geq:binD .geq (.int k a) (.int k b)=some (.bool (decide (b<=a))):=by simp[binD]
@[simp] theorem binD_eqs:binD .eql (.str s) (.str u)=some (.bool (decide (s=u))):=by simp[binD,Eu]
@[simp] theorem binD_nes:binD .neq (.str s) (.str u)=some (.bool (!decide (s=u))):=by simp[binD,bne,Eu]
@[simp] theorem binD_ads:binD .add (.str s) (.str u)=if s.length+u.length<=9223372036854775807 then some (.str (s++u)) else none:=rfl
@[simp] theorem pickD_t:N6 (.bool true) x y=some x:=rfl
@[simp] theorem pickD_f:N6 (.bool false) x y=some y:=rfl
@[simp] theorem pickD_b:N6 (.bool c) x y=some (if c then x else y):=rfl
@[simp] theorem nilD_cptr:nilD (.cptr cs n)=some (.cptr cs n):=rfl
@[simp] theorem nilD_ptr:nilD (.ptr id n)=some (.ptr id n):=rfl
@[simp] theorem nilD_func(g:Nat)(l m:List D):nilD (.func (.func g) l m)=some (.func (.func g) l m):=rfl
@[simp] theorem nilD_iface(t:Nat):nilD (.iface t d)=some (.iface t d):=rfl
@[simp] theorem unD_not:unD .not (.bool c)=some (.bool (!c)):=rfl
@[simp] theorem unD_neg:unD .neg (.int k a)=some (.int k (k.wrap (0-a))):=rfl
@[simp] theorem convD_int(k':IntKind):Tt false (.int k) (.int k' a)=some (.int k (k.wrap a)):=rfl
@[simp] theorem loadT_m:Jd ty O d=match A1 ty.k with|true=>none|false=>Je ty O d:=by unfold Jd;cases A1 ty.k<;>rfl
@[simp] theorem VG:Df tab f x (.struct fs)=match fs[f]? with
  |some (off,ft)=>(match A1 (tab ft).k||(tab ft).size==0 with|true=>none|false=>shiftD x off)
  |none=>none:=by
 simp only[Df]
 cases fs[f]? with
 |none=>rfl
 |some p=>simp only;cases (A1 (tab p.2).k||(tab p.2).size==0)<;>rfl
@[simp] theorem shiftD_cptr:shiftD (.cptr cs n) off=some (.cptr cs (n+off)):=rfl
@[simp] theorem shiftD_ptr:shiftD (.ptr id n) off=some (.ptr id (n+off)):=rfl
@[simp] theorem fieldD_s:LU tab f (.struct fs) (.agg cs)=match fs[f]? with
  |some (off,ft)=>if A1 (tab ft).k then none else KB (tab ft) cs off
  |none=>none:=rfl
@[simp] theorem VC:Cn tab (.slice e) (.slice es o) (.int k a)=match A1 (tab e).k with
  |true=>none
  | false=>match decide (0<=a) with
   |true=>(match es[a.toNat]? with
    |some c=>(match c.length==(tab e).size with|true=>some (.cptr c 0)|false=>none)
    |none=>none)
   |false=>none:=by
 simp only[Cn]
 cases A1 (tab e).k
 ·by_cases h:0<=a
  ·simp only[h,if_true,decide_true,Bool.false_eq_true,if_false]
   cases es[a.toNat]? with
   |none=>rfl
   | some c =>
    by_cases h2:c.length=(tab e).size
    ·simp[h2]
    ·have h3:(c.length==(tab e).size)=false:=by simpa using h2
     simp[h2,h3]
  ·simp[h]
 ·rfl
@[simp] theorem VD:Cn tab (.slice e) (.sref id off len cap) (.int k a) =
  if A1 (tab e).k then none else if 0<=a/\a.toNat<len then some (.ptr id (off+a.toNat*(tab e).size)) else none:=rfl
@[simp] theorem VE:Cn tab (.array len e) x (.int k a) =
  if A1 (tab e).k then none else if 0<=a/\a.toNat<len then shiftD x (a.toNat*(tab e).size) else none:=by cases x<;>rfl
@[simp] theorem indexD_s:LP .str (.str s) (.int k a)=if 0<=a then(s[a.toNat]?).map fun b=>.int .u8 b.toNat else none:=rfl
@[simp] theorem extractD_t:Gx n (.tup cs)=cs[n]? :=rfl
@[simp] theorem bsliceD_s (parts:List (Nat × Operand)):Hb tab γ len parts (.slice e)=if A1 (tab e).k then none else
  if parts.map (·.1)==List.range len&&len*(tab e).size<=16777216&&parts.all (fun p=>(ev γ p.2).told&&(ev γ p.2).cells.length==(tab e).size) then
   some (.slice (parts.map fun p=>(ev γ p.2).cells) .clip) else none:=rfl
@[simp] theorem lenD_s:lenD (.slice e) (.slice es o)=some (.int .i64 es.length):=rfl
@[simp] theorem lenD_n:lenD (.slice e) .nils=some (.int .i64 0):=rfl
@[simp] theorem lenD_r:lenD (.slice e) (.sref id off len cap)=some (.int .i64 len):=rfl
@[simp] theorem lenD_t:lenD .str (.str s)=some (.int .i64 s.length):=rfl
@[simp] theorem loadD_c:Je ty O (.cptr cs off)=match ty.agg with
  |true=>(match decide (off+ty.size<=cs.length)with|true=>some (.agg ((cs.drop off).take ty.size))|false=>none)
  |false=>cs[off]? :=by
 simp only[Je]
 cases ty.agg
 ·rfl
 ·by_cases h:off+ty.size<=cs.length<;>simp[h]
@[simp] theorem loadD_p:Je ty O (.ptr id off)=match Dh (O id) with
  |some cs=>if ty.agg then(if off+ty.size<=cs.length then some (.agg ((cs.drop off).take ty.size)) else none) else cs[off]?
  |none=>none:=rfl
@[simp] theorem partD_eq:KB ty cs off=if ty.agg then(if off+ty.size<=cs.length then some (.agg ((cs.drop off).take ty.size)) else none) else cs[off]? :=rfl
end
theorem B2{γ V':Fr}{x:Operand}(h:∀t,x=.tmp t->getD γ t=getD V' t):ev γ x=ev V' x:=by
 cases x with
 |tmp t=>exact h t rfl
 |_=>rfl
theorem ER{γ V':Fr}{l:List Operand}(h:∀x∈l,ev γ x=ev V' x):l.map (ev γ)=l.map (ev V'):=List.map_congr_left h
theorem Mt{tab:Nat->Ty}{γ V':Fr}{O:Sig}{op:Op}(h:∀x∈op.operands,ev γ x=ev V' x):dop tab γ O op=dop tab V' O op:=by
 cases op<;>simp only[Op.operands]at h<;>simp only[dop]
 case move x=>rw[h x (by simp)]
 case assign x=>rw[h x (by simp)]
 case pick c a b=>rw[h c (by simp),h a (by simp),h b (by simp)]
 case box t x=>rw[h x (by simp)]
 case load t x=>rw[h x (by simp)]
 case nilCheck x=>rw[h x (by simp)]
 case binOp o t x y u=>rw[h x (by simp),h y (by simp)]
 case unOp o t x=>rw[h x (by simp)]
 case convert s t x=>rw[h x (by simp)]
 case makeInterface t x=>rw[h x (by simp)]
 case makeFunc fn first cap=>rw[ER (fun x hx=>h x (by simp at hx;simp[hx])),ER (l:=cap.toList) (fun x hx=>h x (by simp at hx;simp[hx]))]
 case fieldAddr s x f=>rw[h x (by simp)]
 case field s x f=>rw[h x (by simp)]
 case indexAddr t x i=>rw[h x (by simp),h i (by simp)]
 case index t x i=>rw[h x (by simp),h i (by simp)]
 case extract x i=>rw[h x (by simp)]
 case buildSlice t len parts=>
  have hp:∀p∈parts.toList,ev γ p.2=ev V' p.2:=fun p hp=>h p.2 (by simp;exact⟨p.1,by simpa using hp⟩)
  unfold Hb
  split
  ·rename_i e _
   have e1:(parts.toList.map fun p=>(ev γ p.2).cells)=parts.toList.map fun p=>(ev V' p.2).cells:=List.map_congr_left fun p ay=>by rw[hp p ay]
   have e2:(parts.toList.all fun p=>(ev γ p.2).told&&(ev γ p.2).cells.length==(tab e).size)=parts.toList.all fun p=>(ev V' p.2).told&&(ev V' p.2).cells.length==(tab e).size:=by
    rw[Bool.eq_iff_iff,List.all_eq_true,List.all_eq_true]
    constructor<;>intro hh p ay<;>have:=hh p ay<;>rw[hp p ay]at* <;> exact this
   rw[e1,e2]
  ·rfl
 case call c=>
  obtain⟨callee,args,ats⟩:=c
  cases callee<;>try rfl
  rename_i b
  cases b<;>try rfl
  obtain⟨args⟩:=args
  obtain⟨ats⟩:=ats
  simp only[dop,lenC]
  split
  ·rename_i t x
   rw[h x (by simp[Call.operands])]
  ·rfl
section
variable {P:Program}{ro:Ro}{n:Nat}{ops:Array Oper}{tab:Nat->Ty}(N:Nat){C:Sig->Prop}
def Yld (P:Program) (n:Nat) (ops:Array Oper) (tab:Nat->Ty) (N:Nat) (C:Sig->Prop) (γ:Fr) (o:Oper) (d:D):Prop :=
  Ar n o=true /\
  ((Ay ops γ o=some true /\
      ((isEff o.op=false /\ ∀ O,C O->dop tab γ O o.op=some d) \/
       ∃fop args ats f first cap,o.op=(cv fop args ats)/\ev γ fop=.func (.func f) first cap /\
        ∀O,C O->DCall P f (first++args.toList.map (ev γ)++cap) O fun x U'=>x=.ret d/\C U')) \/
   (Ay ops γ o=some false/\DQ N o.op=true/\d=.any))
theorem G8{o:Oper}{t:Nat}(h:Operand.tmp t∈o.op.operands):t∈o.looksAt ops:=
 List.mem_append_left _ (List.mem_filterMap.2 ⟨.tmp t,by simpa using h,rfl⟩)
theorem HJ{γ V':Fr}{o:Oper}(h:∀t∈o.looksAt ops,getD γ t=getD V' t):Ay ops γ o=Ay ops V' o:=by
 unfold Ay
 cases hg:o.guard with
 |none=>rfl
 | some p =>
  obtain⟨j,want⟩:=p
  have:CM ops γ j=CM ops V' j:=by
   unfold CM
   cases hd:(ops[j]?).bind (·.dst)with
   |none=>rfl
   |some t=>
    have:=h t (List.mem_append_right _ (by simp[hg,hd]))
    simp[this]
  have hu:HN ops γ j=HN ops V' j:=by
   unfold HN
   cases hd:(ops[j]?).bind (·.dst)with
   |none=>rfl
   |some t=>
    have:=h t (List.mem_append_right _ (by simp[hg,hd]))
    simp[this]
  simp only[this,hu]
theorem Yld.congr{γ V':Fr}{o:Oper}{d:D}(h:∀t∈o.looksAt ops,getD γ t=getD V' t)(hy:Yld P n ops tab N C γ o d):Yld P n ops tab N C V' o d:=by
 have aA:∀x∈o.op.operands,ev γ x=ev V' x:=fun x hx=>B2 fun t ht=>h t (G8 (ht ▸ hx))
 refine⟨hy.1,?_⟩
 rw[<-HJ h]
 rcases hy.2 with⟨hw,⟨he,hd⟩|⟨fop,args,ats,f,first,cap,ho,hf,hc⟩⟩|hs
 ·exact .inl ⟨hw,.inl ⟨he,fun O hU=>by rw[<-Mt aA];exact hd O hU⟩⟩
 ·rw[ho]at aA
  refine .inl ⟨hw,.inr ⟨fop,args,ats,f,first,cap,ho,by rw[<-aA fop (by simp[Op.operands,Call.operands])];exact hf,fun O hU=>?_⟩⟩
  rw[<-ER (γ:=γ) fun x hx=>aA x (by simp at hx;simp[Op.operands,Call.operands,hx])]
  exact hc O hU
 ·exact .inr hs
theorem AC{dst:Option Tmp}{d:D}{γ:Fr}{t:Nat}(h:dst≠some t):getD (putD dst d γ) t=getD γ t:=by
 cases dst with
 |none=>rfl
 |some k=>
  simp only[putD,A4]
  rw[if_neg fun e=>h (by rw[e])]
def Alike(γ V':Fr):Prop:= ∀t,getD γ t=getD V' t
theorem Bq{a b:Option Tmp}(d e:D)(γ:Fr)(h:∀t,a=some t->b≠some t):Alike (putD a d (putD b e γ)) (putD b e (putD a d γ)):=by
 intro t
 cases a with
 |none=>rfl
 | some i =>
  cases b with
  |none=>rfl
  | some j =>
   have aX:i≠j:=fun e=>h i rfl (by rw[e])
   simp only[putD,A4]
   by_cases h1:t=i
   ·subst h1;simp[aX]
   ·by_cases h2:t=j
    ·subst h2;simp[h1,Ne.symm h1]
    ·simp[h1,h2]
theorem Alike.put{γ V':Fr}(h:Alike γ V')(dst:Option Tmp)(d:D):Alike (putD dst d γ) (putD dst d V'):=by
 intro t
 cases dst with
 |none=>exact h t
 |some k=>simp only[putD,A4];rw[h t]
def AnyD(P:Program)(n:Nat)(ops:Array Oper)(tab:Nat->Ty)(N:Nat)(C:Sig->Prop)(T:Fr->Prop):Nat->Array Bool->Fr->Prop
 |0,_,γ=>T γ
 |m+1,listed,γ=>Region.ready .any ops listed≠[] /\ ∀i∈Region.ready .any ops listed, ∃o d,ops[i]? = some o/\Yld P n ops tab N C γ o d/\AnyD P n ops tab N C T m (listed.setIfInBounds i true) (putD o.dst d γ)
theorem AnyD.alike{T:Fr->Prop}(hT:∀γ V',Alike γ V'->T γ->T V'): ∀(m:Nat) (listed:Array Bool) (γ V':Fr),Alike γ V'->AnyD P n ops tab N C T m listed γ->AnyD P n ops tab N C T m listed V'
 |0,_,_,_,h,k=>hT _ _ h k
 |m+1,_,_,_,h,k=>⟨k.1,fun i hi=>
  let ⟨o,d,h1,h2,h3⟩:=k.2 i hi
  ⟨o,d,h1,h2.congr N fun t _=>h t,AnyD.alike hT m _ _ _ (h.put _ _) h3⟩⟩
def Closed(ops:Array Oper)(listed:Array Bool):Prop:=
 ∀(q:Nat) o,ops[q]? = some o->listed.getD q false=true->∀e∈o.after,Region.binds .any e=true->listed.getD e.on false=true
theorem Closed.set{listed:Array Bool}(h:Closed ops listed){i:Nat}(hi:i∈Region.ready .any ops listed):Closed ops (listed.setIfInBounds i true):=by
 intro q o ho hq e he hb
 obtain⟨_,oi,aP,ai⟩:=mem_ready.1 hi
 by_cases aO:q=i
 ·subst aO
  rw[ho]at aP;cases aP
  exact getD_set_true (ai e he hb)
 ·rw[getD_set_ne false (Ne.symm aO)]at hq
  exact getD_set_true (h q o ho hq e he hb)
end
def FJ(ops:Array Oper):Nat->Nat->Nat->Bool
 |0,_,_=>false
 |fuel+1,k,p=>match ops[k]? with
  |some o=>(o.after.any fun e=>Region.binds .any e&&e.on==p)||(o.after.any fun e=>Region.binds .any e&&(decide (p<e.on)&&FJ ops fuel e.on p))
  |none=>false
theorem CG{ops:Array Oper}{listed:Array Bool}(hc:Closed ops listed): ∀(fuel k p:Nat) (o:Oper),ops[k]? = some o->
  (∀e∈o.after,Region.binds .any e=true->listed.getD e.on false=true)->FJ ops fuel k p=true->listed.getD p false=true
 |0,_,_,_,_,_,h=>by cases h
 | fuel+1,k,p,o,ho,ai,h=>by
  simp only[FJ,ho,Bool.or_eq_true]at h
  rcases h with h|h
  ·rw[Array.any_eq_true']at h
   obtain⟨e,he,h⟩:=h
   simp only[Bool.and_eq_true,beq_iff_eq]at h
   obtain⟨hb,rfl⟩:=h
   exact ai e he hb
  ·rw[Array.any_eq_true']at h
   obtain⟨e,he,h⟩:=h
   simp only[Bool.and_eq_true]at h
   obtain⟨hb,_,h⟩:=h
   have h1:=ai e he hb
   cases hq:ops[e.on]? with
   |none=>cases fuel<;>simp[FJ,hq]at h
   |some q=>exact CG hc fuel e.on p q hq (fun e' aL a8=>hc e.on q hq h1 e' aL a8) h
section
variable {P:Program}{ro:Ro}{n:Nat}{ops:Array Oper}{tab:Nat->Ty}{N:Nat}{C:Sig->Prop}{Q:DX->St->Prop}{df:List DDf}
theorem C4{l:List Oper}{γ V':Fr}{O:Sig}(h:Alike γ V')(k:DOps P ro n ops Q l ⟨γ,O,df⟩):DOps P ro n ops Q l ⟨V',O,df⟩:=
 fun g w a r hr hs=>k g w a r hr ⟨hs.sim,⟨hs.tmps.1,fun t=>by rw[h t];exact hs.tmps.2 t⟩,hs.df⟩
end
end Go.DL
