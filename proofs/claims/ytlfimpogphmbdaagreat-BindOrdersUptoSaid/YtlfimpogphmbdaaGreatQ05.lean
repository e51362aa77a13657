/- A part of the proof. -/
import Derived.Test.YtlfimpogphmbdaaGreatQ04
import Derived.Laws.Tables
import Derived.Laws.Cover3
set_option linter.all false
namespace Go.DL
open Go
def Jl(tab:Nat->Ty):TyK->D->Option D->Option D->Option D->Option D
 |.slice e,x,none,some (.int _ h),none=>if A6 (tab e).k then none else match esOf x with
  |some es=>if 0<=h/\h<=es.length then some (.slice (es.take h.toNat) .no) else none
  |none=>none
 |.slice e,x,some (.int _ l),none,none=>if A6 (tab e).k then none else match esOf x with
  |some es=>if 0<=l/\l<=es.length/\es.all (fun c=>c.length==(tab e).size) then some (.slice (es.drop l.toNat) .no) else none
  |none=>none
 |.slice e,x,none,some (.int _ h),some (.int _ m)=>if A6 (tab e).k then none else match esOf x with
  |some es=>if h=m/\m=es.length then some (.slice es .clip) else none
  |none=>none
 |_,_,_,_,_=>none
def keyB:TyK->D->D->Option Bool
 |.int _,.int k a,.int k' b=>if k=k' then some (a==b) else none
 |.str,.str a,.str b=>some (a==b)
 |_,_,_=>none
def Di(kt:TyK)(k:D):List (D×D)->Nat->Option (Option (Nat×D))
 |[],_=>some none
 |(k',d)::r,i=>match keyB kt k k' with
  |some true=>some (some (i,d))
  |some false=>Di kt k r (i+1)
  |none=>none
def CE(V:Sig):D->Option (List (D×D))
 |.aq=>some []
 |.cmap ks vs=>some (ks.zip vs)
 |.map id=>match V id with
  |some (.map l)=>some l
  |_=>none
 |_=>none
def H5(ty:Ty):Option D:=if ty.agg then some (.agg ty.zero) else ty.zero[0]?
def Bk:TyK->D->Bool
 |.int _,.int _ _=>true
 |.str,.str _=>true
 |_,_=>false
def GX (tab:Nat->Ty) (V:Sig) (ok:Bool):TyK->D->D->Option D
 | .map kt et,x,k=>if A6 (tab et).k || !Bk (tab kt).k k then none else match CE V x with
  | some l=>match Di (tab kt).k k l 0 with
   |some (some (_,d))=>some (if ok then .tup [d,.bool true] else d)
   |some none=>match H5 (tab et)with
    |some z=>some (if ok then .tup [z,.bool false] else z)
    |none=>none
   |none=>none
  |none=>none
 |_,_,_=>none
def Kq(tab:Nat->Ty)(t:Nat)(ok:Bool):D->Option D
 | .iface t' d=>if A6 (tab t).k || GY (tab t).k then none else
  if t'=t then some (if ok then .tup [d,.bool true] else d) else
  if ok then match H5 (tab t)with
   |some z=>some (.tup [z,.bool false])
   |none=>none
  else none
 | .niliface=>if A6 (tab t).k || GY (tab t).k then none else
  if ok then match H5 (tab t)with
   |some z=>some (.tup [z,.bool false])
   |none=>none
  else none
 |_=>none
def U4 (tab:Nat->Ty) (fs:List (Nat × Nat)):fE->Fr->Option fE
 |cells,[]=>some cells
 |cells,(i,d)::r=>match fs[i]? with
  | some (off,ft)=>if d.told && d.cells.length==(tab ft).size && decide (off+d.cells.length<=cells.length) then
    U4 tab fs (cells.take off++d.cells++cells.drop (off+d.cells.length)) r else none
  |none=>none
def OS(tab:Nat->Ty)(t:Nat)(parts:Fr):TyK->Option D
 |.struct fs=>if fs.all (fun p=> !A6 (tab p.2).k) then(U4 tab fs (tab t).zero parts).map .agg else none
 |_=>none
def Ny:Bool->D->D->Option D
 |true,.int k a,.int _ b=>some (.int k (if b>a then b else a))
 |false,.int k a,.int _ b=>some (.int k (if b<a then b else a))
 |_,_,_=>none
def I7(tab:Nat->Ty)(γ:Fr)(V:Sig):List TypeId->List Operand->Option D
 |[t],[x]=>match (tab t).k with
  |.map _ _=>(CE V (ev γ x)).map fun l=>.int .i64 l.length
  |_=>none
 |_,_=>none
def Gt(tab:Nat->Ty)(γ:Fr)(V:Sig):Callee->List TypeId->List Operand->Option D
 |.builtin .len,ts,xs=>I7 tab γ V ts xs
 |.builtin .max,_,[a,b]=>Ny true (ev γ a) (ev γ b)
 |.builtin .min,_,[a,b]=>Ny false (ev γ a) (ev γ b)
 |_,_,_=>none
def dop2(tab:Nat->Ty)(γ:Fr)(V:Sig):Op->Option D
 |.slice t x lo hi mx=>Jl tab (tab t).k (ev γ x) (lo.map (ev γ)) (hi.map (ev γ)) (mx.map (ev γ))
 |.lookup t x k ok=>GX tab V ok (tab t).k (ev γ x) (ev γ k)
 |.typeAssert x _ t ok=>Kq tab t ok (ev γ x)
 |.build t parts=>OS tab t (parts.toList.map fun p=>(p.1,ev γ p.2)) (tab t).k
 |.call c=>Gt tab γ V c.callee c.argTypes.toList c.args.toList
 |_=>none
theorem RepE.take{g:G}{b sz:Nat}: ∀{es:fH}{o:Nat} (k:Nat),RepE g b sz o es->RepE g b sz o (es.take k)
 |[],_,k,_=>by simp[RepE]
 |e::es,o,0,_=>by simp[RepE]
 |e::es,o,k+1,⟨h1,h2⟩=>by simpa[RepE] using⟨h1,RepE.take k h2⟩
theorem RepE.drop{g:G}{b sz:Nat}: ∀{es:fH}{o:Nat} (k:Nat),RepE g b sz o es->RepE g b sz (o+k*sz) (es.drop k)
 |[],_,k,_=>by simp[RepE]
 |e::es,o,0,h=>by simpa using h
 |e::es,o,k+1,⟨_,h2⟩=>by
  have:=RepE.drop k h2
  simpa[show o+sz+k*sz=o+(k+1)*sz by rw[co];omega] using this
theorem ON{z:Value}(h:aggV z=false):z.cells=#[z]:=by
 cases z<;>first|rfl|cases h
theorem IJ{P:Program}{tab:Nat->Ty}(ht:Bs P tab){t:Nat}{d:D}(hk:A6 (tab t).k=false)(h:H5 (tab t)=some d)(w:World): ∃z,(zeroValue t).run P w=.ok z w /\ ∀g,Rep g d z:=by
 obtain⟨inf,desc,z,h1,h2,h3,h4,h5,h6,h7,h8,h9,fX⟩:=CV (ht t) (Aj hk)
 refine⟨z,by simp[zeroValue,typeInfo,program,h1,h7,Sem.run],fun g=>?_⟩
 unfold H5 at h
 cases hz:aggV z with
 | true =>
  rw[hz]at fX
  rw[aS fX]at h
  cases h
  cases z<;>simp only[aggV]at hz<;>try (cases hz;done)
  rename_i cs
  refine⟨cs.toList,by simp,?_⟩
  rw[h9]
  simp only[Value.cells]
  exact Bf (by simp) fun j x v e1 e2=>by
   rw[bD,e2]at e1
   cases e1;exact ED g v
 |false=>
  rw[hz]at fX
  rw[aN (by simp[fX]),h9,ON hz]at h
  have h:some (Ci z)=some d:=h
  cases h
  exact ED g _
theorem BP{g:G}{k:IntKind}{n:Int}{v:Value}(h:Rep g (.int k n) v):v=.int k n:=h
theorem FF{g:G}{s:List UInt8}{v:Value}(h:Rep g (.str s) v):v=.string ⟨s.toArray⟩:=h
theorem Qi{kt:TyK}{desc:TypeDesc}{k k':D}{b:Bool}{g:G}{v u:Value}(hd:KOK desc kt)(h:keyB kt k k'=some b)(hv:Rep g k v)(hu:Rep g k' u):Instr.sameNow desc v u=some b:=by
 unfold keyB at h
 split at h
 ·rename_i k1 a k2 b'
  rw[BP hv,BP hu]
  cases desc<;>simp[KOK]at hd
  simp only[Instr.sameNow]
  exact h
 ·rename_i a b'
  rw[FF hv,FF hu]
  cases desc<;>simp[KOK]at hd
  cases h
  simp only[Instr.sameNow,bq]
  rw[aO]
  show(a.toArray==b'.toArray)=true ↔ _
  simp
 ·cases h
theorem Ee{kt:TyK}{desc:TypeDesc}{k:D}{g:G}{v:Value}(hd:KOK desc kt)(hv:Rep g k v): ∀{l:List (D×D)}{es:List MapEntry}{i:Nat}{r:Option (Nat×D)},RepM g l es->Di kt k l i=some r->
  ∃r',Instr.findNow desc v es i=some r'/\(match r,r' with
   |none,none=>True
   |some (j,d),some (j',x)=>j=j'/\Rep g d x/\i<=j /\ ∃e,es[j-i]? = some e/\Rep g k e.key/\e.val=x
   |_,_=>False)
 |[],es,i,r,h,hf=>by
  simp only[Di,bq]at hf
  subst hf
  rw[show es=[] from h]
  exact⟨none,rfl,trivial⟩
 | (k',d)::l,es,i,r,⟨e,rest,he,h1,h2,h3⟩,hf=>by
  subst he
  simp only[Di]at hf
  split at hf
  ·rename_i hk
   cases hf
   refine⟨some (i,e.val),?_,rfl,h2,bm _,e,by simp,?_,rfl⟩
   ·simp only[Instr.findNow,Qi hd hk hv h1]
   ·have:k=k':=by
     unfold keyB at hk
     split at hk
     ·split at hk
      ·rename_i e1;simp at hk;rw[e1,hk]
      ·cases hk
     ·simp at hk;rw[hk]
     ·cases hk
    rw[this];exact h1
  ·rename_i hk
   obtain⟨r',e1,e2⟩:=Ee hd hv (i:=i+1) h3 hf
   refine⟨r',?_,?_⟩
   ·simp only[Instr.findNow,Qi hd hk hv h1];exact e1
   ·cases r with
    |none=>cases r'<;>simpa using e2
    | some p =>
     obtain⟨j,d⟩:=p
     cases r' with
     |none=>exact e2
     |some q=>
      obtain⟨j',x⟩:=q
      obtain⟨a1,a2,a3,e',a4,a5,a6⟩:=e2
      refine⟨a1,a2,by omega,e',?_,a5,a6⟩
      rw[show j-i=(j-(i+1))+1 by omega]
      simpa using a4
  ·cases hf
theorem O2{P:Program}{tab:Nat->Ty}{g:G}{fs:List (Nat×Nat)}{places:List (Nat×Nat)}(hp:places=fs.map fun p=>(p.1,(tab p.2).size)): ∀{parts:Fr}{ps:List (Nat×Value)}{cells out:fE}{cs:Array Value},
  U4 tab fs cells parts=some out->parts.map (·.1)=ps.map (·.1)->RepL g (parts.map (·.2)) (ps.map (·.2))->RepL g cells cs.toList->
  ∃r,Instr.fill (places.toArray[·]?) cs ps=some r/\RepL g out r.toList
 |[],ps,cells,out,cs,h,hm,hr,hc=>by
  have:ps=[]:=by simpa using hm.symm
  subst this
  cases h
  exact⟨cs,rfl,hc⟩
 |(i,d)::parts,[],_,_,_,h,hm,_,_=>by simp at hm
 | (i,d)::parts,(i',v)::ps,cells,out,cs,h,hm,hr,hc=>by
  simp only[ba,cD]at hm
  obtain⟨rfl,hm⟩:=hm
  obtain⟨v',r',e1,h1,h2⟩:=hr
  simp only[ba,cD]at e1
  obtain⟨rfl,rfl⟩:=e1
  simp only[U4]at h
  split at h
  ·rename_i off ft hf
   split at h<;>(try (cases h;done))
   rename_i fL
   simp only[aI,cp,aL]at fL
   obtain⟨⟨c1,c2⟩,c3⟩:=fL
   have gv:=FG h1 c1
   have hl:=RepL.length gv
   have gL:=RepL.length hc
   simp only[bN]at hl gL
   have gb:places[i]? = some (off,(tab ft).size):=by rw[hp,bD,hf];rfl
   have fM:=T1 off v.cells.toList 0 cs (by simp;omega)
   have fM:((v.cells.zipIdx.foldl (fun cs (c,j)=>cs.setIfInBounds (off+j) c) cs)).toList=cs.toList.take off++v.cells.toList++cs.toList.drop (off+v.cells.toList.length):=by
    have e:v.cells.zipIdx.foldl (fun cs (c,j)=>cs.setIfInBounds (off+j) c) cs=(v.cells.toList.zipIdx 0).foldl (fun (cs:Array Value) (p:Value×Nat)=>cs.setIfInBounds (off+p.2) p.1) cs:=by
     rw[<-fb];simp
    rw[e];simpa using fM
   obtain⟨r,fZ,ga⟩:=O2 (P:=P) hp (cs:=v.cells.zipIdx.foldl (fun cs (c,j)=>cs.setIfInBounds (off+j) c) cs) h hm h2 (by
    rw[fM]
    refine RepL.append (RepL.append ?_ gv) ?_
    ·refine Bf (by simp;omega) fun j x y hx hy=>?_
     rw[dv]at hx hy
     split at hx<;>(try (cases hx;done))
     rename_i hj
     rw[aS hj]at hy
     have:=RepL.get hc j
     rw[hx,hy]at this;exact this
    ·refine Bf (by simp only[dY,bN];omega) fun j x y hx hy=>?_
     rw[cH]at hx hy
     have:=RepL.get hc (off+d.cells.length+j)
     simp only[bN]at hy
     rw[hl]at hy
     rw[hx,hy]at this;exact this)
   refine⟨r,?_,ga⟩
   rw[Instr.fill]
   simp only[cV,gb]
   rw[aN (by simp;omega)]
   simp only[cV]at fZ
   exact fZ
  ·cases h
theorem Mf{g:G}: ∀{ks vs:fE}{es:List MapEntry},RepL g ks (es.map (·.key))->RepL g vs (es.map (·.val))->RepM g (ks.zip vs) es
 |[],vs,es,h1,_=>by
  have:es=[]:=by have:es.map (·.key)=[]:=h1;simpa using this
  subst this
  exact rfl
 |k::ks,vs,[],⟨_,_,h,_⟩,_=>by simp at h
 |k::ks,[],e::es,_,h=>by have:(e::es).map (·.val)=[]:=h;simp at this
 |k::ks,v::vs,e::es,⟨a,r,h1,h2,h3⟩,⟨a',r',fY,gO,gN⟩=>by
  simp only[ba,cD]at h1 fY
  obtain⟨rfl,rfl⟩:=h1
  obtain⟨rfl,rfl⟩:=fY
  exact⟨e,es,rfl,h2,gO,Mf h3 gN⟩
theorem Cf{P:Program}{w:World}{r clock:Nat}{es:Array MapEntry}(h:w.heap[r]? = some (.map es clock)):(getObj r).run P w=.ok (.map es clock) w:=by simp[getObj,Sem.run,h]
theorem Il{g:G}{a:Option Addr}{es:fH}{cap:Nat}(h1:es.length<=cap)(h2:es=[] \/ ∃sz b o,a=some ⟨b,o,none⟩/\RepE g b sz o es):Rep g (.slice es .no) (.slice a es.length cap):=
 ⟨a,cap,rfl,h1,h2,trivial⟩
section
variable {P:Program}{tab:Nat->Ty}(ht:Bs P tab){g:G}{V:Sig}{w:World}(hs:Sim P g V w)
include ht hs
theorem SH{t:Nat}{parts:Fr}{ps:List (Nat×Value)}{d:D}(h:OS tab t parts (tab t).k=some d)(hm:parts.map (·.1)=ps.map (·.1))(hr:RepL g (parts.map (·.2)) (ps.map (·.2))):
  PRun P g V d (Instr.build t ps.toArray) w:=by
 unfold OS at h
 split at h<;>(try (cases h;done))
 rename_i fs hk
 split at h<;>(try (cases h;done))
 rename_i gh
 obtain⟨out,ho,rfl⟩:=cq.1 h
 obtain⟨inf,desc,z,h1,h2,h3,h4,h5,h6,h7,h8,h9,fX⟩:=CV (ht t) (by rw[hk];simp)
 obtain⟨l,hl,gu⟩:=HS ht hk
 have hz:RepL g (tab t).zero z.cells.toList:=by
  rw[h9]
  exact Bf (by simp) fun j x v e1 e2=>by
   rw[bD,e2]at e1
   cases e1;exact ED g v
 obtain⟨r,fZ,ga⟩:=O2 (P:=P) (tab:=tab) (fs:=fs) rfl ho hm hr hz
 have gb:l.toList.mapM (fun f=>(P.info? f.type).map fun i=>(f.offset,i.size))=some (fs.map fun p=>(p.1,(tab p.2).size)):=by
  rw[<-gu]
  rw[dk]
  have key:∀(fl:List Field),(∀f∈fl,A6 (tab f.type).k=false)->fl.mapM (fun f=>(P.info? f.type).map fun i=>(f.offset,i.size))=some (fl.map ((fun p:Nat×Nat=>(p.1,(tab p.2).size)) ∘ fun f=>(f.offset,f.type))):=by
   intro fl
   induction fl with
   |nil=>intro _;rfl
   |cons f fl ih=>
    intro hh
    obtain⟨inf',_,_,g1,_,_,g4,_⟩:=CV (ht f.type) (Aj (hh f (by simp)))
    simp only[fy,g1,bG,Option.bind_eq_bind,dW,ih fun x hx=>hh x (by simp[hx])]
    simp[g4]
  refine key _ fun f hf=>?_
  have:=(bc.1 gh) (f.offset,f.type) (by rw[<-gu];exact bO.2 ⟨f,hf,rfl⟩)
  simpa using this
 have hb:P.built t ps=some r:=by
  unfold Program.built
  rw[h1,hl]
  simp only[h7,gb]
  exact fZ
 exact Aw hs (v:=.agg r) (run_build w t ps.toArray r (by simpa using hb)) ⟨r.toList,by simp,ga⟩
theorem Rf{t:Nat}{x d:D}{lo hi mx:Option D}{v:Value}{lo' fJ mx':Option Value}(h:Jl tab (tab t).k x lo hi mx=some d)(hx:Rep g x v)
  (gE:lo'.isSome=lo.isSome /\ ∀a b,lo=some a->lo'=some b->Rep g a b) (gr:fJ.isSome=hi.isSome /\ ∀a b,hi=some a->fJ=some b->Rep g a b) (gD:mx'.isSome=mx.isSome /\ ∀a b,mx=some a->mx'=some b->Rep g a b) :
  PRun P g V d (Instr.sliceAt t v lo' fJ mx') w:=by
 unfold Jl at h
 split at h<;>(try (cases h;done))
 ·rename_i e k hh hk
  obtain⟨hd,h⟩:=BF h
  split at h<;>(try (cases h;done))
  rename_i es fU
  obtain⟨⟨c1,c2⟩,rfl⟩:=El h
  obtain⟨a,cap,rfl,r1,r2⟩:=CU fU hx
  obtain rfl:lo'=none:=by cases lo'<;>simp_all
  obtain rfl:mx'=none:=by cases mx'<;>simp_all
  obtain⟨hv,rfl⟩:∃y,fJ=some y:=by cases fJ<;>simp_all
  have:=gr.2 _ _ rfl rfl
  rw[BP this]
  have gJ:hh<=(cap:Int):=by omega
  refine Aw hs (v:=.slice a hh.toNat cap) ?_ ?_
  ·have hu:=Bc ht hk
   simp only[Instr.sliceAt,Instr.slice,Instr.sliceBounds,Instr.sliceBound,asIntOf,aU,bf,aK,A3 hu,c1,gJ,dy,bp,B9 (ht e) (Aj (by simpa using hd)),du,ff]
   congr 1
   cases a with
   |none=>simp
   |some a=>cases a;simp[Addr.add]
  ·have hl:(es.take hh.toNat).length=hh.toNat:=by simp;omega
   have:=Il (g:=g) (a:=a) (es:=es.take hh.toNat) (cap:=cap) (by omega) (r2.imp (fun h=>by simp[h]) fun ⟨sz,b,o,q1,q2⟩=>⟨sz,b,o,q1,q2.take _⟩)
   rwa [hl]at this
 ·rename_i e k ll hk
  obtain⟨hd,h⟩:=BF h
  split at h<;>(try (cases h;done))
  rename_i es fU
  obtain⟨⟨c1,c2,c3⟩,rfl⟩:=El h
  obtain⟨a,cap,rfl,r1,r2⟩:=CU fU hx
  obtain rfl:fJ=none:=by cases fJ<;>simp_all
  obtain rfl:mx'=none:=by cases mx'<;>simp_all
  obtain⟨lv,rfl⟩:∃y,lo'=some y:=by cases lo'<;>simp_all
  have:=gE.2 _ _ rfl rfl
  rw[BP this]
  refine Aw hs (v:=.slice (if cap=ll.toNat then a else a.map (·.add (ll.toNat*(tab e).size))) (es.length-ll.toNat) (cap-ll.toNat)) ?_ ?_
  ·have hu:=Bc ht hk
   simp only[Instr.sliceAt,Instr.slice,Instr.sliceBounds,Instr.sliceBound,asIntOf,aU,bf,aK,A3 hu,c1,c2,dy,bp,B9 (ht e) (Aj (by simpa using hd))]
  ·have hl:(es.drop ll.toNat).length=es.length-ll.toNat:=by simp
   rw[<-hl]
   refine Il (by omega) ?_
   by_cases hne:es.drop ll.toNat=[]
   ·exact .inl hne
   ·right
    have go:ll.toNat<es.length:=by
     rcases cg ll.toNat es.length with h|h
     ·exact h
     ·exact absurd (cN h) hne
    rw[aN (by omega)]
    rcases r2 with rfl|⟨sz,b,o,rfl,q2⟩
    ·simp at go
    ·obtain rfl:=q2.size (by rintro rfl;simp at go) (fun c hc=>by simpa using(bc.1 c3) c hc)
     exact⟨(tab e).size,b,o+ll.toNat*(tab e).size,by simp[Cc],q2.drop _⟩
 ·rename_i e k hh k' mm hk
  obtain⟨hd,h⟩:=BF h
  split at h<;>(try (cases h;done))
  rename_i es fU
  obtain⟨⟨rfl,c2⟩,rfl⟩:=El h
  obtain⟨a,cap,rfl,r1,r2⟩:=CU fU hx
  obtain rfl:lo'=none:=by cases lo'<;>simp_all
  obtain⟨mv,rfl⟩:∃y,mx'=some y:=by cases mx'<;>simp_all
  obtain⟨hv,rfl⟩:∃y,fJ=some y:=by cases fJ<;>simp_all
  have e1:=gr.2 _ _ rfl rfl
  have e2:=gD.2 _ _ rfl rfl
  rw[BP e1,BP e2,c2]
  have c3:((es.length:Nat):Int)<=(cap:Int):=by omega
  refine Aw hs (v:=.slice a es.length es.length) ?_ ⟨a,es.length,rfl,bm _,r2,rfl⟩
  have hu:=Bc ht hk
  simp only[Instr.sliceAt,Instr.slice,Instr.sliceBounds,Instr.sliceBound,asIntOf,aU,bf,aK,A3 hu,c3,Int.natCast_nonneg,dC,dP,dy,bp,B9 (ht e) (Aj (by simpa using hd)),du,ff,bm]
  congr 1
  cases a with
  |none=>simp
  |some a=>cases a;simp[Addr.add]
theorem It{x:D}{l:List (D×D)}{v:Value}(h:CE V x=some l)(hx:Rep g x v):
  ∃es:Array MapEntry,RepM g l es.toList/\(v=.map none/\es=#[] \/ ∃r clock,v=.map (some r)/\w.heap[r]? = some (.map es clock)):=by
 unfold CE at h
 split at h<;>(try (cases h;done))
 ·cases h;exact⟨#[],rfl,.inl ⟨hx,rfl⟩⟩
 ·cases h
  obtain⟨b,es,clock,rfl,h1,_,h2,h3⟩:=hx
  exact⟨es,Mf h2 h3,.inr ⟨b,clock,rfl,hs.keep _ _ h1⟩⟩
 ·split at h<;>(try (cases h;done))
  rename_i id l' hZ
  cases h
  obtain⟨b,es,clock,h1,h2,h3⟩:=hs.obj _ _ hZ
  obtain⟨b',h4,rfl⟩:=hx
  rw[h1]at h4;cases h4
  exact⟨es,h3.1,.inr ⟨b,clock,rfl,h2⟩⟩
theorem Pp{t:Nat}{x k d:D}{ok:Bool}{v u:Value}(h:GX tab V ok (tab t).k x k=some d)(hx:Rep g x v)(hk:Rep g k u):PRun P g V d (Instr.lookup t v u ok) w:=by
 unfold GX at h
 split at h<;>(try (cases h;done))
 rename_i x k _ _ _ kt et gC
 obtain⟨hc,h⟩:=BF h
 simp only[bL,dU,ca,eO,cw]at hc
 obtain⟨gM,fV⟩:=hc
 have fV:Bk (tab kt).k k=true:=by simpa using fV
 split at h<;>(try (cases h;done))
 rename_i l hl
 obtain⟨es,hm,hv⟩:=It ht hs hl hx
 have hu:=GN ht gC
 obtain⟨desc,d9,d7⟩:∃desc,P.underlying kt=some desc/\KOK desc (tab kt).k:=Fs ht rfl (by intro e;rw[e]at fV;cases k<;>cases fV)
 have fP:(Instr.checkKey es.isEmpty 10000 kt u).run P w=.ok () w:=by
  unfold Instr.checkKey
  simp only[aU,A3 d9,aK]
  have f7:(∃kd k1 n1,(tab kt).k=.int kd/\k=.int k1 n1)\/(∃s1,(tab kt).k=.str/\k=.str s1):=by
   cases gg:(tab kt).k<;>cases k<;>simp[gg,Bk]at fV<;>simp
  rcases f7 with⟨kd,k1,n1,e1,rfl⟩|⟨s1,e1,rfl⟩
  ·rw[e1]at d7
   rw[BP hk]
   cases desc<;>simp[KOK]at d7
   rfl
  ·rw[e1]at d7
   rw[FF hk]
   cases desc<;>simp[KOK]at d7
   rfl
 split at h<;>(try (cases h;done))
 ·rename_i j d' hf
  cases h
  obtain⟨r',e1,e2⟩:=Ee (g:=g) d7 hk hm hf
  cases r' with
  |none=>exact e2.elim
  | some q =>
   obtain⟨j',y⟩:=q
   obtain⟨_,e2,_⟩:=e2
   refine Aw hs (v:=if ok then .tuple #[y,.bool true] else y) ?_ ?_
   ·rcases hv with⟨rfl,rfl⟩|⟨r,clock,rfl,hh⟩
    ·simp only[Instr.lookup,aU,A3 hu,aK,bf,fP,Instr.findKey,A3 d9,e1]
    ·simp only[Instr.lookup,aU,A3 hu,aK,bf,Cf hh,fP,Instr.findKey,A3 d9,e1]
   ·cases ok
    ·exact e2
    ·exact⟨[y,.bool true],by simp,y,[.bool true],rfl,e2,.bool true,[],rfl,rfl,rfl⟩
 ·rename_i hf
  split at h<;>(try (cases h;done))
  rename_i zd hz
  cases h
  obtain⟨z,z1,z2⟩:=IJ ht gM hz w
  obtain⟨r',e1,e2⟩:=Ee (g:=g) d7 hk hm hf
  cases r' with
  |some q=>exact e2.elim
  | none =>
   refine Aw hs (v:=if ok then .tuple #[z,.bool false] else z) ?_ ?_
   ·rcases hv with⟨rfl,rfl⟩|⟨r,clock,rfl,hh⟩
    ·simp only[Instr.lookup,aU,A3 hu,aK,bf,fP,Instr.findKey,A3 d9,e1,z1]
    ·simp only[Instr.lookup,aU,A3 hu,aK,bf,Cf hh,fP,Instr.findKey,A3 d9,e1,z1]
   ·cases ok
    ·exact z2 g
    ·exact⟨[z,.bool false],by simp,z,[.bool false],rfl,z2 g,.bool false,[],rfl,rfl,rfl⟩
end
theorem Sim.setAny{P:Program}{g:G}{V:Sig}{w:World}(hs:Sim P g V w){i b:Nat}{d d':DObj}{o x:Obj}(hi:V i=some d)(ht:d.isTail=false)(gj:d'.isTail=false)(hb:g.rho i=some b)
  (hx:w.heap[b]? = some x) (hr:ObjRep P g (setB w b o) i d'):Sim P g (V.set i d') (setB w b o):=by
 have d8:blk g V i=some b:=by
  unfold blk;rw[hi]
  cases d<;>first|exact hb|cases ht
 have fK:=hs.free i b d8
 have gn:∀o,g.imm b o=none:=fK.2 fun o ho=>by rw[hi]at ho;cases ho;exact ht
 have e9:∀j,blk g (V.set i d') j=blk g V j:=by
  intro j
  by_cases hj:j=i
  ·subst hj
   rw[d8]
   unfold blk;rw[w7]
   cases d'<;>first|exact hb|cases gj
  ·unfold blk;rw[w8 _ _ hj]
 exact {
  imm:=fun c o v h=>by
   have hc:c≠b:=fun e=>by rw[e,gn o]at h;cases h
   exact OO (b:=b) (by simpa using hc) (fun k x hx hk=>by rw[F3 hk];exact hx) (hs.imm c o v h)
  keep:=fun k o h=>by
   have hc:k≠b:=fun e=>by rw[e,fK.1]at h;cases h
   rw[F3 hc];exact hs.keep k o h
  obj:=fun j o h=>by
   by_cases hj:j=i
   ·subst hj
    rw[w7]at h;cases h;exact hr
   ·rw[w8 _ _ hj]at h
    exact(hs.obj j o h).setB h fun e=>hj (hs.inj j i b e d8)
  inj:=fun j k c h1 h2=>hs.inj j k c (by rw[<-e9];exact h1) (by rw[<-e9];exact h2)
  free:=fun j c h=>by
   rw[e9]at h
   obtain⟨h1,h2⟩:=hs.free j c h
   refine⟨h1,fun hh o=>?_⟩
   by_cases hj:j=i
   ·subst hj
    rw[d8]at h;cases h
    exact gn o
   ·exact h2 (fun x hx=>hh x (by rw[w8 _ _ hj];exact hx)) o
  htop:=fun j sz n k h hk=>by
   by_cases hj:j=i
   ·subst hj;rw[w7]at h;cases h;cases gj
   ·rw[w8 _ _ hj]at h;exact hs.htop j sz n k h hk
  hdom:=hs.hdom
  io:=hs.io
  fin:=hs.fin }
def Cs(kt:TyK)(k d:D)(l:List (D×D)):Option (List (D×D)):=
 match Di kt k l 0 with
 |some (some (j,_))=>some (l.set j (k,d))
 |some none=>some (l++[(k,d)])
 |none=>none
theorem RepM.set{g:G}{k d:D}{kv v:Value}(hk:Rep g k kv)(hd:Rep g d v): ∀{l:List (D×D)}{es:List MapEntry} (j:Nat),RepM g l es->RepM g (l.set j (k,d)) (es.modify j fun e=>{ e with key:=kv,val:=v })
 |[],es,j,h=>by
  rw[show es=[] from h]
  cases j<;>simp[RepM]
 |(k',d')::l,es,0,⟨e,rest,he,h1,h2,h3⟩=>by
  subst he
  exact⟨{ e with key:=kv,val:=v },rest,by simp,hk,hd,h3⟩
 |(k',d')::l,es,j+1,⟨e,rest,he,h1,h2,h3⟩=>by
  subst he
  exact⟨e,rest.modify j fun e=>{ e with key:=kv,val:=v },by simp,h1,h2,RepM.set hk hd j h3⟩
theorem Stamps.modify{c:Nat}{es:Array MapEntry}(h:Stamps c es.toList)(j:Nat){u v:Value}:Stamps c (es.modify j fun e=>{ e with key:=u,val:=v }).toList:=by
 have e:(es.modify j fun e=>{ e with key:=u,val:=v }).toList.map (·.born)=es.toList.map (·.born):=by
  apply dN ; intro k
  simp only[bD,cc,cW]
  by_cases hk:j=k
  ·subst hk;rw[aS rfl];cases es[j]? <;> rfl
  ·rw[aN hk]
 refine⟨by rw[e];exact h.1,fun x hx=>?_⟩
 have:x.born∈(es.modify j fun e=>{ e with key:=u,val:=v }).toList.map (·.born):=dq hx
 rw[e]at this
 obtain⟨y,hy,gx⟩:=bO.1 this
 rw[<-gx];exact h.2 y hy
theorem Stamps.push{c:Nat}{es:Array MapEntry}(h:Stamps c es.toList){u v:Value}:Stamps (c+1) (es.push { key:=u,val:=v,born:=c }).toList:=by
 refine⟨?_,fun x hx=>?_⟩
 ·simp only[Array.toList_push,bI,ba,bJ]
  refine dL.2 ⟨h.1,by simp,fun a ha b hb=>?_⟩
  obtain⟨y,hy,rfl⟩:=bO.1 ha
  have:=h.2 y hy
  simp at hb;omega
 ·simp only[Array.toList_push,bk,bM]at hx
  rcases hx with hx|rfl
  ·have:=h.2 x hx;omega
  ·simp
theorem RepM.push{g:G}{k d:D}{e:MapEntry}(hk:Rep g k e.key)(hd:Rep g d e.val): ∀{l:List (D×D)}{es:List MapEntry},RepM g l es->RepM g (l++[(k,d)]) (es++[e])
 |[],es,h=>by
  rw[show es=[] from h]
  exact⟨e,[],rfl,hk,hd,rfl⟩
 |(k',d')::l,es,⟨e',rest,he,h1,h2,h3⟩=>by
  subst he
  exact⟨e',rest++[e],rfl,h1,h2,RepM.push hk hd h3⟩
theorem Jm{g:G}{kt:TyK}{k:D}{u v:Value}(hk:Bk kt k=true)(h1:Rep g k u)(h2:Rep g k v):Instr.sameBits 10000 u v=true:=by
 cases kt<;>cases k<;>simp only[Bk]at hk<;>try (cases hk;done)
 ·rw[BP h1,BP h2];simp[Instr.sameBits]
 ·rw[FF h1,FF h2]
  show(_==_)=true
  rename_i s
  show(s.toArray==s.toArray)=true
  simp
section
variable {P:Program}{tab:Nat->Ty}(ht:Bs P tab){g:G}{V:Sig}{w:World}(hs:Sim P g V w)
include ht hs
theorem L8{t kt et:Nat}{k:D}{u:Value}(hk:Bk (tab kt).k k=true)(hr:Rep g k u)(e:Bool): ∃desc,P.underlying kt=some desc/\KOK desc (tab kt).k/\(Instr.checkKey e 10000 kt u).run P w=.ok () w:=by
 obtain⟨desc,d9,d7⟩:∃desc,P.underlying kt=some desc/\KOK desc (tab kt).k:=Fs ht rfl (by intro e;rw[e]at hk;cases k<;>cases hk)
 refine⟨desc,d9,d7,?_⟩
 unfold Instr.checkKey
 simp only[aU,A3 d9,aK]
 have f7:(∃kd k1 n1,(tab kt).k=.int kd/\k=.int k1 n1)\/(∃s1,(tab kt).k=.str/\k=.str s1):=by
  cases gg:(tab kt).k<;>cases k<;>simp[gg,Bk]at hk<;>simp
 rcases f7 with⟨kd,k1,n1,e1,rfl⟩|⟨s1,e1,rfl⟩
 ·rw[e1]at d7
  rw[BP hr]
  cases desc<;>simp[KOK]at d7
  rfl
 ·rw[e1]at d7
  rw[FF hr]
  cases desc<;>simp[KOK]at d7
  rfl
theorem Gc{r clock clock':Nat}{es es':Array MapEntry}(h:w.heap[r]? = some (.map es clock)):(setObj r (.map es' clock')).run P w=.ok () (setB w r (.map es' clock')):=by
 simp[setObj,Sem.run,h,setB]
theorem GD{t kt et id:Nat}{x k d:D}{l l':List (D×D)}{m u v:Value}(gF:(tab t).k=.map kt et)(hk:Bk (tab kt).k k=true)(hm:x=.map id)(hZ:V id=some (.map l))(hp:Cs (tab kt).k k d l=some l')
  (h1:Rep g x m) (h2:Rep g k u) (h3:Rep g d v):∃w',(Instr.mapUpdate t m u v).run P w=.ok () w'/\Sim P g (V.set id (.map l')) w':=by
 subst hm
 obtain⟨b',fW,rfl⟩:=h1
 obtain⟨b,es,clock,hb,hh,hr,gk⟩:=hs.obj _ _ hZ
 rw[fW]at hb;cases hb
 obtain⟨desc,d9,d7,fP⟩:=L8 (t:=t) (et:=et) ht hs hk h2 false
 have hu:=GN ht gF
 unfold Cs at hp
 split at hp<;>(try (cases hp;done))
 ·rename_i j dd hf
  cases hp
  obtain⟨r',e1,e2⟩:=Ee (g:=g) d7 h2 hr hf
  cases r' with
  |none=>exact e2.elim
  | some q =>
   obtain⟨j',y⟩:=q
   obtain⟨rfl,e2,_,e,a1,a2,a3⟩:=e2
   rw[du]at a1
   have a1':es[j]? = some e:=by simpa using a1
   refine⟨setB w b' (.map (es.modify j fun e=>{ e with key:=u,val:=v }) clock),?_,?_⟩
   ·simp only[Instr.mapUpdate,aU,A3 hu,aK,Cf hh,fP,Instr.findKey,A3 d9,e1,bf,a1',bG,bP,Instr.keyThatStays,Jm hk a2 h2,bp]
    exact Gc ht hs hh
   ·refine hs.setAny hZ rfl rfl fW hh ⟨b',_,clock,fW,Dm hh,?_,gk.modify j⟩
    simpa using RepM.set h2 h3 j hr
 ·rename_i hf
  cases hp
  obtain⟨r',e1,e2⟩:=Ee (g:=g) d7 h2 hr hf
  cases r' with
  |some q=>exact e2.elim
  | none =>
   refine⟨setB w b' (.map (es.push { key:=u,val:=v,born:=clock }) (clock+1)),?_,?_⟩
   ·simp only[Instr.mapUpdate,aU,A3 hu,aK,Cf hh,fP,Instr.findKey,A3 d9,e1,bf]
    exact Gc ht hs hh
   ·refine hs.setAny hZ rfl rfl fW hh ⟨b',_,clock+1,fW,Dm hh,?_,gk.push⟩
    simpa using RepM.push (e:={ key:=u,val:=v,born:=clock }) h2 h3 hr
end
section
variable {P:Program}{tab:Nat->Ty}(ht:Bs P tab){g:G}{V:Sig}{w:World}(hs:Sim P g V w)
include ht hs
theorem PE{xt t:Nat}{x d:D}{ok:Bool}{v:Value}(h:Kq tab t ok x=some d)(hx:Rep g x v):PRun P g V d (Instr.typeAssert v xt t ok) w:=by
 have fQ:∀{α:Prop},A6 (tab t).k=false->GY (tab t).k=false->(∀desc,P.underlying t=some desc->(∀i,desc≠.interface i)->α)->α:=by
  intro α h1 h2 k
  obtain⟨desc,d9,d7⟩:=Fs ht rfl (Aj h1)
  refine k desc d9 ?_
  rintro i rfl
  cases hk:(tab t).k<;>rw[hk]at d7 h2<;>simp[KOK,GY]at d7 h2
 cases x<;>simp only[Kq]at h<;>try (cases h;done)
 ·rename_i t' d'
  obtain⟨hc,h⟩:=BF h
  simp only[bL,dU,ca]at hc
  obtain⟨y,rfl,hy⟩:=hx
  refine fQ hc.1 hc.2 fun desc hd hn=>?_
  by_cases he:t'=t
  ·rw[aS he]at h
   cases h
   refine Aw hs (v:=if ok then .tuple #[y,.bool true] else y) ?_ ?_
   ·simp only[Instr.typeAssert,aU,A3 hd,aK]
    cases desc<;>first|exact absurd rfl (hn _)|simp[he]
   ·cases ok
    ·exact hy
    ·exact⟨[y,.bool true],by simp,y,[.bool true],rfl,hy,.bool true,[],rfl,rfl,rfl⟩
  ·rw[aN he]at h
   obtain⟨rfl,h⟩:ok=true/\_:=by
    cases ok
    ·simp at h
    ·exact⟨rfl,h⟩
   simp only[bp]at h
   split at h<;>(try (cases h;done))
   rename_i zd hz
   cases h
   obtain⟨z,z1,z2⟩:=IJ ht hc.1 hz w
   refine Aw hs (v:=.tuple #[z,.bool false]) ?_ ⟨[z,.bool false],by simp,z,[.bool false],rfl,z2 g,.bool false,[],rfl,rfl,rfl⟩
   simp only[Instr.typeAssert,aU,A3 hd,aK]
   cases desc<;>first|exact absurd rfl (hn _)|simp[he,z1]
 ·obtain⟨hc,h⟩:=BF h
  simp only[bL,dU,ca]at hc
  refine fQ hc.1 hc.2 fun desc hd hn=>?_
  obtain⟨rfl,h⟩:ok=true/\_:=by
   cases ok
   ·simp at h
   ·exact⟨rfl,h⟩
  simp only[bp]at h
  split at h<;>(try (cases h;done))
  rename_i zd hz
  cases h
  obtain⟨z,z1,z2⟩:=IJ ht hc.1 hz w
  rw[show v=.nilIface from hx]
  refine Aw hs (v:=.tuple #[z,.bool false]) ?_ ⟨[z,.bool false],by simp,z,[.bool false],rfl,z2 g,.bool false,[],rfl,rfl,rfl⟩
  simp only[Instr.typeAssert,aU,A3 hd,aK]
  cases desc<;>first|exact absurd rfl (hn _)|simp[z1]
theorem VZ{γ:Fr}{m:Nat}{a:Act}(hT:RepT g γ m a.tmps){o:Oper}{d:D}(h:dop2 tab γ V o.op=some d):ORun P g V d (execOp a.eval o) w:=by
 obtain⟨dst,op,type,pos,after,guard⟩:=o
 simp only at h
 have E:=fun x=>Au hT x
 have fN:∀(x:Option Operand),(x.map a.eval).isSome=(x.map (ev γ)).isSome /\ ∀p q,x.map (ev γ)=some p->x.map a.eval=some q->Rep g p q:=by
  intro x
  cases x with
  |none=>exact⟨rfl,fun p q h=>by cases h⟩
  |some y=>exact⟨rfl,fun p q h1 h2=>by cases h1;cases h2;exact E y⟩
 unfold execOp
 cases op<;>simp only[dop2]at h<;>(try (cases h;done))
 case slice t x lo hi mx=>exact .of (Rf ht hs h (E x) (fN lo) (fN hi) (fN mx))
 case lookup t x k ok=>exact .of (Pp ht hs h (E x) (E k))
 case typeAssert x xt t ok=>exact .of (PE ht hs h (E x))
 case build t parts=>
  refine .of ?_
  have:=SH (ps:=parts.toList.map fun p=>(p.1,a.eval p.2)) ht hs h (by simp) (by
   rw[dk,dk]
   have:=DQ hT (parts.toList.map (·.2))
   rw[dk,dk]at this
   exact this)
  have e:(parts.toList.map fun p=>(p.1,a.eval p.2)).toArray=parts.map fun (i,x)=>(i,a.eval x):=by
   rw[F1]
  rw[e]at this
  exact this
 case call c=>
  obtain⟨callee,args,ats⟩:=c
  unfold Gt at h
  split at h<;>(try (cases h;done))
  ·rename_i hc
   subst hc
   unfold I7 at h
   split at h<;>(try (cases h;done))
   rename_i t x e1 e2
   obtain rfl:ats=#[t]:=by apply dE;simpa using e1
   obtain rfl:args=#[x]:=by apply dE;simpa using e2
   split at h<;>(try (cases h;done))
   rename_i kt et hk
   obtain⟨l,hl,rfl⟩:=cq.1 h
   obtain⟨es,hm,hv⟩:=It ht hs hl (E x)
   have hlen:∀{l:List (D×D)}{es:List MapEntry},RepM g l es->es.length=l.length:=by
    intro l
    induction l with
    |nil=>intro es h;rw[show es=[] from h];rfl
    |cons p l ih=>intro es h;obtain⟨e,rest,rfl,_,_,h3⟩:=h;simp[ih h3]
   have f0:=hlen hm
   simp only[bN]at f0
   refine⟨g,w,.int .i64 l.length,?_,.refl g,hs,rfl⟩
   rcases hv with⟨hv,rfl⟩|⟨r,clock,hv,hh⟩
   ·simp at f0
    simp[resolve,invoke,builtin,Builtin.len_,A3 (GN ht hk),hv,goInt,<-f0]
   ·simp[resolve,invoke,builtin,Builtin.len_,A3 (GN ht hk),hv,Cf hh,goInt,f0]
  ·rename_i x y hc d6
   subst hc
   obtain rfl:args=#[x,y]:=by apply dE;simpa using d6
   unfold Ny at h
   split at h<;>(try (cases h;done))
   ·rename_i k p k' q hb e1 e2
    cases h
    have h1:=E x
    have h2:=E y
    rw[e1]at h1
    rw[e2]at h2
    refine⟨g,w,.int k (if q>p then q else p),?_,.refl g,hs,rfl⟩
    simp[resolve,invoke,builtin,Builtin.max_,Builtin.max2,BP h1,BP h2]
   ·rename_i hb e1 e2
    cases hb
  ·rename_i x y hc d6
   subst hc
   obtain rfl:args=#[x,y]:=by apply dE;simpa using d6
   unfold Ny at h
   split at h<;>(try (cases h;done))
   ·rename_i hb e1 e2
    cases hb
   ·rename_i k p k' q hb e1 e2
    cases h
    have h1:=E x
    have h2:=E y
    rw[e1]at h1
    rw[e2]at h2
    refine⟨g,w,.int k (if q<p then q else p),?_,.refl g,hs,rfl⟩
    simp[resolve,invoke,builtin,Builtin.min_,Builtin.min2,BP h1,BP h2]
end
def PU (tab:Nat->Ty) (V:Sig) (T:Nat):D->D->Option (D × Sig)
 |.ptr i off,d=>match V i with
  | some (.cells ds)=>if A6 (tab T).k || !d.told || d.cells.length != (tab T).size || !Db d.cells || decide (ds.length < off+d.cells.length) then none else
    some (.any,V.set i (.cells (ds.take off++d.cells++ds.drop (off+d.cells.length))))
  |_=>none
 |_,_=>none
def updD(tab:Nat->Ty)(V:Sig):TyK->D->D->D->Option (D×Sig)
 | .map kt _, .map id,k,d=>if !Bk (tab kt).k k then none else match V id with
  |some (.map l)=>match Cs (tab kt).k k d l with
   |some l'=>some (.any,V.set id (.map l'))
   |none=>none
  |_=>none
 |_,_,_,_=>none
def GQ:TyK->Option Nat
 |.slice e=>some e
 |_=>none
def appD (tab:Nat->Ty) (V:Sig):List TypeId->D->D->Option (D × Sig)
 | [T,T'], .slice es (.tag id),x=>match GQ (tab T).k,GQ (tab T').k,V id,esOf x with
  | some e,some _,some (.tail sz k),some new =>
   if A6 (tab e).k||sz != (tab e).size||k != es.length||!es.all (fun c=>c.length==(tab e).size)||!new.all (fun c=>c.length==(tab e).size)||!new.all Db ||
     decide (140737488355328<(es.length+new.length)*(tab e).bytes)||decide (9223372036854775807<es.length+new.length) then none else
    some (.slice (es++new) (.tag id),V.set id (.tail (tab e).size (es.length+new.length)))
  |_,_,_,_=>none
 |_,_,_=>none
def bapD(tab:Nat->Ty)(V:Sig)(ts:List TypeId)(γ:Fr):Callee->List Operand->Option (D×Sig)
 |.builtin .append,[s,x]=>appD tab V ts (ev γ s) (ev γ x)
 |_,_=>none
def eopD(tab:Nat->Ty)(γ:Fr)(V:Sig):Op->Option (D×Sig)
 |.store T x y=>PU tab V T (ev γ x) (ev γ y)
 |.mapUpdate t m k x=>updD tab V (tab t).k (ev γ m) (ev γ k) (ev γ x)
 |.insert t m k x=>updD tab V (tab t).k (ev γ m) (ev γ k) (ev γ x)
 |.call c=>bapD tab V c.argTypes.toList γ c.callee c.args.toList
 |_=>none
def dopX(tab:Nat->Ty)(γ:Fr)(V:Sig)(op:Op):Option D:=
 match dop tab γ V op with
 |some d=>some d
 |none=>dop2 tab γ V op
def letOp(vars:fG)(o:Oper)(l:List Oper):Option (Nat×Nat×Operand):=
 match o.op with
 |.alloc T=>match o,l with
  |⟨some t,_,_,_,_,none⟩,⟨none,.store T' (.tmp t') x,_,_,_,none⟩::_=>if T==T'&&t==t'&&!vars.contains t then some (t,T,x) else none
  |_,_=>none
 |_=>none
def Ft(t:Nat):Operand->Bool
 |.tmp k=>k != t
 |_=>true
def WO(vars:fG)(o:Oper):Bool:=
 match o.dst with
 |some t=>vars.contains t
 |none=>false
def isDefer:Op->Bool
 |.defer _=>true
 |_=>false
def OB (tab:Nat->Ty) (N n:Nat) (ops:Array Oper) (vars:fG):List Oper->Fr->Sig->Option (List Oper × Fr × Sig)
 |[],γ,V=>some ([],γ,V)
 | o::l,γ,V =>
  match AT ops γ o with
  | some true =>
   match letOp vars o l with
   |some (t,T,x)=>
    match l with
    |[]=>none
    | _::l'=>if A6 (tab T).k || !decide (t < n) || !Ft t x || !(ev γ x).told || (ev γ x).cells.length != (tab T).size || !Db (ev γ x).cells then none else
      OB tab N n ops vars l' ((t,.am (ev γ x).cells 0)::γ) V
   | none =>
    if WO vars o||isDefer o.op then some (o::l,γ,V) else
    match dopX tab γ V o.op with
    |some d=>if AD n o then OB tab N n ops vars l (putD o.dst d γ) V else none
    |none=>
     match eopD tab γ V o.op with
     |some (d,S')=>if AD n o then OB tab N n ops vars l (putD o.dst d γ) S' else none
     |none=>some (o::l,γ,V)
  |some false=>if Ei N o.op&&AD n o then OB tab N n ops vars l (putD o.dst .any γ) V else none
  |none=>none
section
variable {P:Program}{ro:Option Nat}{n:Nat}{ops:Array Oper}{Q:DX->St->Prop}{tab:Nat->Ty}(ht:Bs P tab)
include ht
theorem Kt{γ:Fr}{V:Sig}{o:Oper}{d:D}(h:dopX tab γ V o.op=some d)(w:World)(ρ:Operand->Value)(f:Nat):o.about P w ρ=some f->False:=by
 by_cases hc:∃c,o.op=.call c
 ·obtain⟨c,hc⟩:=hc
  obtain⟨callee,args,ats⟩:=c
  cases callee with
  |builtin b=>exact Cd hc rfl w ρ f
  |value x=>rw[hc]at h;cases h
  |invoke r m=>rw[hc]at h;cases h
 ·exact Ah (fun c e=>hc ⟨c,e⟩) w ρ f
theorem G5{g:G}{V:Sig}{w:World}(hs:Sim P g V w){γ:Fr}{m:Nat}{a:Act}(hT:RepT g γ m a.tmps){o:Oper}{d:D}(h:dopX tab γ V o.op=some d):ORun P g V d (execOp a.eval o) w:=by
 unfold dopX at h
 split at h
 ·rename_i d' hd
  cases h
  exact XB ht hs hT hd
 ·exact VZ ht hs hT h
theorem Fl{γ:Fr}{V S':Sig}{df:List DDf}{o:Oper}{rest:List Oper}{d:D}(hw:AT ops γ o=some true)(he:eopD tab γ V o.op=some (d,S'))(ho:AD n o=true)
  (h:av P ro n ops Q rest ⟨putD o.dst d γ,S',df⟩):av P ro n ops Q (o::rest) ⟨γ,V,df⟩:=by
 obtain⟨dst,op,type,pos,after,guard⟩:=o
 cases op<;>simp only[eopD]at he<;>try (cases he;done)
 case store T x y=>
  unfold PU at he
  split at he<;>(try (cases he;done))
  rename_i i off hx
  split at he<;>(try (cases he;done))
  rename_i ds hi
  obtain⟨hc,he⟩:=BF he
  cases he
  simp only[bL,dU,ca,eO,cw,eU,bne_eq_false_iff_eq,be,Nat.not_lt]at hc
  obtain⟨⟨⟨⟨c1,c2⟩,c3⟩,c4⟩,c5⟩:=hc
  refine Gq (d:=.any) (S':=V.set i (.cells (ds.take off++(ev γ y).cells++ds.drop (off+(ev γ y).cells.length)))) hw (fun c e=>by cases e) (Ah fun c e=>by cases e) ?_ ho h
  intro g w a hs hT
  obtain⟨w',h1,h2⟩:=Nd ht hs hT c1 hx hi (by simpa using c2) c3 (by simpa using c4) c5
  exact⟨g,w',undef,.inr ⟨by simp only[execOp,aU,h1,aK];rfl,rfl⟩,.refl g,h2,trivial⟩
 case mapUpdate t m k x=>
  unfold updD at he
  split at he<;>(try (cases he;done))
  rename_i kt et id hk hm
  obtain⟨hc,he⟩:=BF he
  split at he<;>(try (cases he;done))
  rename_i l hZ
  split at he<;>(try (cases he;done))
  rename_i l' hp
  cases he
  refine Gq (d:=.any) (S':=V.set id (.map l')) hw (fun c e=>by cases e) (Ah fun c e=>by cases e) ?_ ho h
  intro g w a hs hT
  obtain⟨w',h1,h2⟩:=GD ht hs hk (by simpa using hc) hm hZ hp (Au hT m) (Au hT k) (Au hT x)
  exact⟨g,w',undef,.inr ⟨by simp only[execOp,aU,h1,aK];rfl,rfl⟩,.refl g,h2,trivial⟩
 case insert t m k x=>
  unfold updD at he
  split at he<;>(try (cases he;done))
  rename_i kt et id hk hm
  obtain⟨hc,he⟩:=BF he
  split at he<;>(try (cases he;done))
  rename_i l hZ
  split at he<;>(try (cases he;done))
  rename_i l' hp
  cases he
  refine Gq (d:=.any) (S':=V.set id (.map l')) hw (fun c e=>by cases e) (Ah fun c e=>by cases e) ?_ ho h
  intro g w a hs hT
  obtain⟨w',h1,h2⟩:=GD ht hs hk (by simpa using hc) hm hZ hp (Au hT m) (Au hT k) (Au hT x)
  exact⟨g,w',undef,.inr ⟨by simp only[execOp,aU,h1,aK];rfl,rfl⟩,.refl g,h2,trivial⟩
 case call c=>
  obtain⟨callee,args,ats⟩:=c
  unfold bapD at he
  split at he<;>(try (cases he;done))
  rename_i s x hc d6
  simp only at hc d6 he
  subst hc
  obtain rfl:args=#[s,x]:=by apply dE;simpa using d6
  unfold appD at he
  split at he<;>(try (cases he;done))
  rename_i T T' es id gB hs'
  obtain rfl:ats=#[T,T']:=by apply dE;simpa using gB
  split at he<;>(try (cases he;done))
  rename_i e e' sz k new q1 q2 q3 q4
  obtain⟨hc,he⟩:=BF he
  cases he
  have gH:(tab T).k=.slice e:=by
   unfold GQ at q1
   split at q1<;>(try (cases q1;done))
   rename_i e0 h0;cases q1;exact h0
  have gG:(tab T').k=.slice e':=by
   unfold GQ at q2
   split at q2<;>(try (cases q2;done))
   rename_i e0 h0;cases q2;exact h0
  simp only[bL,dU,ca,eO,cw,eU,bne_eq_false_iff_eq,be,Nat.not_lt,Bool.not_eq_false,bc,cp]at hc
  obtain⟨⟨⟨⟨⟨⟨⟨c1,c2⟩,c3⟩,c4⟩,c5⟩,c6⟩,c7⟩,c8⟩:=hc
  subst c2 c3
  exact Gq (d:=.slice (es++new) (.tag id)) hw (fun c e=>by cases e) (Cd rfl rfl) (PG (e':=e') ht gH gG c1 hs' q3 q4 c4 c5 c6 c7 c8) ho h
end
section
variable {P:Program}{ro:Option Nat}{n:Nat}{ops:Array Oper}{Q:DX->St->Prop}{tab:Nat->Ty}(ht:Bs P tab)
include ht
theorem Hs{t:Nat}{x:Operand}(h:Ft t x=true):x≠.tmp t:=by
 rintro rfl
 simp[Ft]at h
theorem OJ{γ:Fr}{V:Sig}{df:List DDf}{rest:List Oper}{t T:Nat}{r:Option Operand}{ty:TypeId}{pos:String}{after:Array Edge}{guard:Option (Nat×Bool)}
  (hw:AT ops γ ⟨some t,.makeMap T r,ty,pos,after,guard⟩=some true) (hr:r=none \/ ∃x kt et k v,r=some x/\(tab T).k=.map kt et/\ev γ x=.int k v) (e7:t<n)
  (h:∀i,V i=none->av P ro n ops Q rest ⟨(t,.map i)::γ,V.set i (.map []),df⟩) :
  av P ro n ops Q (⟨some t,.makeMap T r,ty,pos,after,guard⟩::rest) ⟨γ,V,df⟩:=by
 refine HJ (mk:=fun i=>.map i) (d:=.map []) hw (fun c e=>by cases e) (Ah fun c e=>by cases e) (by simp[AD,e7]) rfl ?_ h
 intro g w a hs hT
 refine⟨.map #[] 0,.map (some w.heap.size),?_,fun i hi=>⟨⟨w.heap.size, #[],0,by simp[G.bind],by simp,rfl,by simp[Stamps]⟩,w.heap.size,by simp[G.bind],rfl⟩⟩
 rcases hr with rfl|⟨x,kt,et,k,v,rfl,hk,hx⟩
 ·simp only[execOp,Instr.makeMap,newObj,aU,Sem.run,eJ,aK]
  rfl
 ·have:=Au hT x
  rw[hx]at this
  have hu:=A3 (GN ht hk) w
  simp only[execOp,Instr.makeMap,newObj,bG,BP this,aU,hu,aK,asInt,bf]
  rfl
omit ht in
theorem Sv{γ:Fr}{V:Sig}{df:List DDf}{rest:List Oper}{x:Operand}{dst:Option Tmp}{ty:TypeId}{pos:String}{after:Array Edge}{guard:Option (Nat×Bool)}{t:Nat}{d:D}
  (hw:AT ops γ ⟨dst,.panic x,ty,pos,after,guard⟩=some true) (hx:ev γ x=.iface t d) (h:Q (.panic (.iface t d)) ⟨γ,V,df⟩) :
  av P ro n ops Q (⟨dst,.panic x,ty,pos,after,guard⟩::rest) ⟨γ,V,df⟩:=by
 intro g w a r hr hs
 unfold wpListIn
 rw[AV hs.tmps hw,aS rfl]
 refine⟨fun f hf=>(Ah (fun c e=>by cases e) _ _ f hf).elim,?_⟩
 have hv:=Au hs.tmps x
 rw[show ev (St.mk γ V df).γ x=.iface t d from hx]at hv
 obtain⟨y,hy,gw⟩:=hv
 have e8:(execOp a.eval ⟨dst,.panic x,ty,pos,after,guard⟩).run P w=.halt (.panic (.iface t y)) w:=by
  simp only[execOp,hy,Instr.panic,aU]
  rfl
 rw[cE _ _ _ (fun c e=>by cases e),e8]
 exact⟨g,⟨γ,V,df⟩,.panic (.iface t d),.refl g,hs,⟨.iface t y,rfl,y,rfl,gw⟩,h⟩
end
section
variable (tab:Nat->Ty)(N n:Nat)(ops:Array Oper)(vars:fG)(l:List Oper)(γ:List (Nat×D))(V:Sig)
def putX(o:Oper):Option D->Option (List Oper×Fr×Sig)
 |some d=>if WO vars o then some (o::l,γ,V) else if AD n o then OB tab N n ops vars l (putD o.dst d γ) V else none
 |none=>some (o::l,γ,V)
def putE(o:Oper):Option (D×Sig)->Option (List Oper×Fr×Sig)
 |some (d,S')=>if WO vars o then some (o::l,γ,V) else if AD n o then OB tab N n ops vars l (putD o.dst d γ) S' else none
 |none=>some (o::l,γ,V)
def skipX(o:Oper):Option (List Oper×Fr×Sig):=match Ei N o.op&&AD n o with
 |true=>OB tab N n ops vars l (putD o.dst .any γ) V
 |false=>none
@[simp] theorem putX_none(o:Oper):putX tab N n ops vars l γ V o none=some (o::l,γ,V):=rfl
@[simp] theorem putE_none(o:Oper):putE tab N n ops vars l γ V o none=some (o::l,γ,V):=rfl
@[simp] theorem skipX_eq(o:Oper):skipX tab N n ops vars l γ V o=match Ei N o.op&&AD n o with
 |true=>OB tab N n ops vars l (putD o.dst .any γ) V
 |false=>none:=rfl
variable (dst:Option Tmp)(ty:TypeId)(pos:String)(af:Array Edge)(gd:Option (Nat×Bool))
end
attribute [simp] WO Ft PU esOf CE H5 Kq U4 OS Db D.flat
section
variable (tab:Nat->Ty)(V:Sig)(e T T' k t:Nat)(es new:fH)(o:Own)(x d:D)(h m l:Int)(k1 k2:IntKind)(c:Bool)(γ:List (Nat×D))(id:Nat)(fs:List (Nat×Nat))(parts:List (Nat×D))(kt:TyK)
@[simp] theorem sliceD_h:Jl tab (.slice e) x none (some (.int k1 h)) none=if A6 (tab e).k then none else match esOf x with
  |some es=>if 0<=h/\h<=es.length then some (.slice (es.take h.toNat) .no) else none
  |none=>none:=rfl
@[simp] theorem sliceD_l:Jl tab (.slice e) x (some (.int k1 l)) none none=if A6 (tab e).k then none else match esOf x with
  |some es=>if 0<=l/\l<=es.length/\es.all (fun c=>c.length==(tab e).size) then some (.slice (es.drop l.toNat) .no) else none
  |none=>none:=rfl
@[simp] theorem sliceD_m:Jl tab (.slice e) x none (some (.int k1 h)) (some (.int k2 m))=if A6 (tab e).k then none else match esOf x with
  |some es=>if h=m/\m=es.length then some (.slice es .clip) else none
  |none=>none:=rfl
@[simp] theorem TM:GX tab V c (.map T e) x d=if A6 (tab e).k || !Bk (tab T).k d then none else match CE V x with
  | some l=>match Di (tab T).k d l 0 with
   |some (some (_,d))=>some (if c then .tup [d,.bool true] else d)
   |some none=>match H5 (tab e)with
    |some z=>some (if c then .tup [z,.bool false] else z)
    |none=>none
   |none=>none
  |none=>none:=rfl
@[simp] theorem simpleKey_i:Bk (.int k1) (.int k2 h)=true:=rfl
@[simp] theorem simpleKey_s(s:List UInt8):Bk .str (.str s)=true:=rfl
@[simp] theorem mostD_t:Ny true (.int k1 h) (.int k2 m)=some (.int k1 (if m>h then m else h)):=rfl
@[simp] theorem mostD_f:Ny false (.int k1 h) (.int k2 m)=some (.int k1 (if m<h then m else h)):=rfl
@[simp] theorem sliceEl_s:GQ (.slice e)=some e:=rfl
@[simp] theorem updD_m:updD tab V (.map T e) (.map id) x d=if !Bk (tab T).k x then none else match V id with
  |some (.map l)=>match Cs (tab T).k x d l with
   |some l'=>some (.any,V.set id (.map l'))
   |none=>none
  |_=>none:=rfl
@[simp] theorem appD_t:appD tab V [T,T'] (.slice es (.tag id)) x=match GQ (tab T).k,GQ (tab T').k,V id,esOf x with
  | some e,some _,some (.tail sz k),some new =>
   if A6 (tab e).k||sz != (tab e).size||k != es.length||!es.all (fun c=>c.length==(tab e).size)||!new.all (fun c=>c.length==(tab e).size)||!new.all Db ||
     decide (140737488355328<(es.length+new.length)*(tab e).bytes)||decide (9223372036854775807<es.length+new.length) then none else
    some (.slice (es++new) (.tag id),V.set id (.tail (tab e).size (es.length+new.length)))
  |_,_,_,_=>none:=rfl
@[simp] theorem lenMapD_s:I7 tab γ V [t] [.tmp k]=(match (tab t).k with
  |.map _ _=>(CE V (getD γ k)).map fun l=>.int .i64 l.length
  |_=>none):=rfl
end
section
variable {P:Program}{ro:Option Nat}{n:Nat}{ops:Array Oper}{Q:DX->St->Prop}{tab:Nat->Ty}{df:List DDf}(ht:Bs P tab)
include ht
theorem Sx{γ:Fr}{V:Sig}{rest:List Oper}{t T T':Nat}{x:Operand}{ty:TypeId}{pos:String}{after:Array Edge}{guard:Option (Nat×Bool)}{es:fH}{o:Own}{e:Nat}(hk:(tab T).k=.slice e)
  (hw:AT ops γ ⟨some t,.binOp .eql T x (.const (.slice none 0 0)) T',ty,pos,after,guard⟩=some true) (hx:ev γ x=.slice es o) (e7:t<n)
  (h:∀b,(b=true->es=[])->av P ro n ops Q rest ⟨(t,.bool b)::γ,V,df⟩) :
  av P ro n ops Q (⟨some t,.binOp .eql T x (.const (.slice none 0 0)) T',ty,pos,after,guard⟩::rest) ⟨γ,V,df⟩:=by
 intro g w a r hr hs
 unfold wpListIn
 rw[AV hs.tmps hw,aS rfl]
 refine⟨fun f hf=>(Ah (fun c e=>by cases e) _ _ f hf).elim,?_⟩
 have hv:=Au hs.tmps x
 rw[show ev (St.mk γ V df).γ x=.slice es o from hx]at hv
 obtain⟨b,cap,h1,h2,h3,_⟩:=hv
 have e8:∃c:Bool,(c=true->es=[])/\(execOp a.eval ⟨some t,.binOp .eql T x (.const (.slice none 0 0)) T',ty,pos,after,guard⟩).run P w=.ok (.value (.bool c)) w:=by
  refine⟨b.isNone,fun hb=>?_,?_⟩
  ·rcases h3 with h3|⟨sz,b',o,rfl,_⟩
   ·exact h3
   ·cases hb
  ·have:=run_equal_slice_nil (P:=P) w T e b es.length cap (Bc ht hk)
   have fY:a.eval x=.slice b es.length cap:=h1
   have hg:(eqGuard .eql T x (.const (.slice none 0 0)) (a.eval x) (.slice none 0 0)).run P w=.ok () w:=by rw[fY];rfl
   simp only[execOp,aU,show a.eval (.const (.slice none 0 0))=.slice none 0 0 from rfl,hg,aK]
   simp only[binOp,aU,fY,this,aK]
   rfl
 obtain⟨c,hc,e8⟩:=e8
 rw[cE _ _ _ (fun c e=>by cases e),e8]
 exact h c hc g w _ r hr (hs.put (o:=⟨some t,.binOp .eql T x (.const (.slice none 0 0)) T',ty,pos,after,guard⟩) (.refl g) hs.sim (d:=.bool c) rfl (by simp[AD,e7]))
theorem DJ{γ:Fr}{V:Sig}{rest:List Oper}{t T T' ty e e':Nat}{s x:Operand}{pos:String}{after:Array Edge}{guard:Option (Nat×Bool)}{es:fH}
  (hw:AT ops γ ⟨some t,(cA s x T T'),ty,pos,after,guard⟩=some true) (e7:t<n)
  (hk:(tab T).k=.slice e) (fO:(tab T').k=.slice e') (he:A6 (tab e).k=false) (h1:esOf (ev γ s)=some es) (h2:esOf (ev γ x)=some [])
  (h:av P ro n ops Q rest ⟨(t,ev γ s)::γ,V,df⟩) :
  av P ro n ops Q (⟨some t,(cA s x T T'),ty,pos,after,guard⟩::rest) ⟨γ,V,df⟩:=by
 refine Gq (d:=ev γ s) (S':=V) hw (fun c e=>by cases e) (Cd rfl rfl) ?_ (by simp[AD,e7]) h
 intro g w a hs hT
 obtain⟨i,z,t1,t2,t3,t4,t5,t6,t7⟩:=Ca ht hk fO he
 obtain⟨sa,sc,r1,r2,r3⟩:=CU h1 (Au hT s)
 obtain⟨xa,xc,q1,q2,q3⟩:=CU h2 (Au hT x)
 refine⟨g,w,a.eval s,.inl (Bl ?_),.refl g,hs,Au hT s⟩
 rw[r1,q1]
 have:=Cg (ty:=ty) t1 t2 t3 (w:=w) (w2:=w) (base:=sa) (xa:=xa) (n:=es.length) (cap:=sc) (m:=0) (xc:=xc) (news:=[]) (AR (by simp) (.inl rfl)) (by omega) (fun b _=>by simp[storeCells,Sem.run]) (fun _=>rfl)
 simpa using this
theorem De{γ:Fr}{V:Sig}{rest:List Oper}{t T T' ty e e':Nat}{s x:Operand}{pos:String}{after:Array Edge}{guard:Option (Nat×Bool)}{new:fH}
  (hw:AT ops γ ⟨some t,(cA s x T T'),ty,pos,after,guard⟩=some true) (e7:t<n)
  (hk:(tab T).k=.slice e) (fO:(tab T').k=.slice e') (he:A6 (tab e).k=false) (h1:ev γ s=.ak) (h2:esOf (ev γ x)=some new)
  (hlen':∀c∈new,c.length=(tab e).size) (hb:new.length*(tab e).bytes<=140737488355328) (hm:new.length<=9223372036854775807)
  (h:∀i,V i=none->av P ro n ops Q rest ⟨(t,.slice new (.tag i))::γ,V.set i (.tail (tab e).size new.length),df⟩) :
  av P ro n ops Q (⟨some t,(cA s x T T'),ty,pos,after,guard⟩::rest) ⟨γ,V,df⟩:=
 G4 (es:=[]) ht hw e7 hk fO he (.inl ⟨h1,rfl⟩) h2 (by simp) hlen' (by simpa using hb) (by simpa using hm) (fun i hi=>by simpa using h i hi)
theorem SB{γ:Fr}{V:Sig}{rest:List Oper}{t T T' ty e e':Nat}{s x:Operand}{pos:String}{after:Array Edge}{guard:Option (Nat×Bool)}{new:fH}
  (hw:AT ops γ ⟨some t,(cA s x T T'),ty,pos,after,guard⟩=some true) (e7:t<n)
  (hk:(tab T).k=.slice e) (fO:(tab T').k=.slice e') (he:A6 (tab e).k=false) (h1:ev γ s=.ak) (h2:esOf (ev γ x)=some new)
  (hlen':∀c∈new,c.length=(tab e).size) (hb:new.length*(tab e).bytes<=140737488355328) (hm:new.length<=9223372036854775807)
  (h:av P ro n ops Q rest ⟨(t,.slice new .no)::γ,V,df⟩) :
  av P ro n ops Q (⟨some t,(cA s x T T'),ty,pos,after,guard⟩::rest) ⟨γ,V,df⟩:=
 De ht hw e7 hk fO he h1 h2 hlen' hb hm fun i hi=>BA (s':=⟨(t,.slice new .no)::γ,V,df⟩) (fun g w a hs=>⟨g,.refl g,⟨hs.sim.sub ((Sub.refl _).set hi),⟨hs.tmps.1,fun k=>by
  have:=hs.tmps.2 k
  rw[Aa]at this⊢
  by_cases hk:k=t
  ·rw[aS hk]at this⊢
   exact Ao _ _ _ _ this
  ·rw[aN hk]at this⊢
   exact this⟩,hs.df⟩⟩) h
theorem Ce{γ:Fr}{V:Sig}{rest:List Oper}{t T T' ty e e':Nat}{s x:Operand}{pos:String}{after:Array Edge}{guard:Option (Nat×Bool)}{es new:fH}
  (hw:AT ops γ ⟨some t,(cA s x T T'),ty,pos,after,guard⟩=some true) (e7:t<n)
  (hk:(tab T).k=.slice e) (fO:(tab T').k=.slice e') (he:A6 (tab e).k=false) (h1:ev γ s=.slice es .clip) (h2:esOf (ev γ x)=some new) (hne:new≠[])
  (hlen:∀c∈es,c.length=(tab e).size) (hlen':∀c∈new,c.length=(tab e).size) (hb:(es.length+new.length)*(tab e).bytes<=140737488355328) (hm:es.length+new.length<=9223372036854775807)
  (h:∀i,V i=none->av P ro n ops Q rest ⟨(t,.slice (es++new) (.tag i))::γ,V.set i (.tail (tab e).size (es.length+new.length)),df⟩) :
  av P ro n ops Q (⟨some t,(cA s x T T'),ty,pos,after,guard⟩::rest) ⟨γ,V,df⟩:=
 G4 ht hw e7 hk fO he (.inr ⟨h1,hne⟩) h2 hlen hlen' hb hm h
end
section
variable {P:Program}{ro:Option Nat}{n:Nat}{ops:Array Oper}{Q:DX->St->Prop}{rest:List Oper}{s:St}
theorem Gr{fop:Operand}{args:Array Operand}{ats:Array TypeId}{dst:Option Tmp}{ty:TypeId}{pos:String}{after:Array Edge}{guard:Option (Nat×Bool)}{f:Nat}{first cap az:fE}{R:DE->Sig->Prop}
  (hw:AT ops s.γ ⟨dst,(cv fop args ats),ty,pos,after,guard⟩=some true)
  (hf:ev s.γ fop=.func (.func f) first cap) (h:au P f az s.V R) (ha:WkL (first++args.toList.map (ev s.γ)++cap) az)
  (ho:AD n ⟨dst,(cv fop args ats),ty,pos,after,guard⟩=true)
  (f9:∀d S',R (.ret d) S'->av P ro n ops Q rest { s with γ:=putD dst d s.γ,V:=S' })
  (gc:∀d S',R (.panic d) S'->Q (.panic d) { s with V:=S' }) :
  av P ro n ops Q (⟨dst,(cv fop args ats),ty,pos,after,guard⟩::rest) s:=
 VY hw hf (h.wk ha) ho f9 gc
end
theorem dwp_join{P:Program}{ro:Option Nat}{n:Nat}{Q:DX->St->Prop}{c y:Code}{γ:Fr}{V:Sig}{df:List DDf}(t:Nat)(d:D)
  (h1:DWp P ro n c (fun e s'=>e=.normal/\Wk P n s' ⟨(t,d)::γ,V,df⟩) ⟨γ,V,df⟩) (h2:DWp P ro n y Q ⟨(t,d)::γ,V,df⟩):DWp P ro n c (Then (DWp P ro n y Q) Q) ⟨γ,V,df⟩:=
 Fk h1 fun x s ⟨e,hw⟩=>by subst e;exact dwp_wk hw h2
@[simp] def TellsS(γ:Fr):fG->Fr->Prop
 |_,[]=>True
 |seen,p::r=>(if p.1∈seen then True else WkD (getD γ p.1) p.2)/\TellsS γ (p.1::seen) r
theorem TellsS.get{γ:Fr}: ∀{U':Fr}{seen:fG},TellsS γ seen U'->∀t,t∉seen->WkD (getD γ t) (getD U' t)
 |[],_,_,t,_=>Es _
 | (i,d)::r,seen,h,t,hs=>by
  rw[Aa]
  by_cases ht:t=i
  ·subst ht
   rw[aS rfl]
   have:=h.1
   simpa[hs] using this
  ·rw[aN ht]
   exact TellsS.get h.2 t (by simp[ht,hs])
theorem FB{P:Program}{n:Nat}{γ U':Fr}{V S':Sig}{df:List DDf}(h:TellsS γ [] U')(hZ:Sub S' V):DX.normal=.normal/\Wk P n { γ,V,df } { γ:=U',V:=S',df }:=
 ⟨rfl,fun g w a hs=>⟨g,.refl g,⟨hs.sim.sub hZ,⟨hs.tmps.1,fun t=>h.get t (by simp) g _ (hs.tmps.2 t)⟩,hs.df⟩⟩⟩
theorem QN{P:Program}{n:Nat}{fn:Func}{R:DE->Sig->Prop}{γ:Fr}{V S':Sig}{d:D}(hZ:Sub S' V)(h:resD fn γ=some d)(hR:R (.ret d) S'):EX P n fn R .ret ⟨γ,V,[]⟩:=
 ⟨⟨γ,S',[]⟩,fun g _ _ hs=>⟨g,.refl g,⟨hs.sim.sub hZ,hs.tmps,hs.df⟩⟩,rfl,d,Ej h,F0 hR⟩
theorem Pw{P:Program}{n:Nat}{fn:Func}{R:DE->Sig->Prop}{γ:Fr}{V S':Sig}{d:D}(hZ:Sub S' V)(h:resD fn γ=some d)(hR:R (.ret d) S'):EX P n fn R .normal ⟨γ,V,[]⟩:=
 ⟨⟨γ,S',[]⟩,fun g _ _ hs=>⟨g,.refl g,⟨hs.sim.sub hZ,hs.tmps,hs.df⟩⟩,rfl,d,Ej h,F0 hR⟩
theorem VP{P:Program}{n:Nat}{fn:Func}{R:DE->Sig->Prop}{γ:Fr}{V S':Sig}{es:fH}{o:Own}{t:Nat}(hZ:Sub S' V)(hr:fn.results=#[.tmp t])(h:getD γ t=.slice es o)(hR:R (.ret (.slice es .no)) S'):EX P n fn R .ret ⟨γ,V,[]⟩:=
 ⟨⟨[(t,.slice es .no)],S',[]⟩,Wp (by simp[h]) hZ,rfl,_,Ej (by simp[resD,hr]),F0 hR⟩
@[simp] def resL (tab:Nat->Ty) (V:Sig) (γ:Fr):List ResultVar->Option fE
 |[]=>some []
 |.tmp t::r=>match resL tab V γ r with
  |some ds=>some (getD γ t::ds)
  |none=>none
 |.cell t T::r=>match KB (tab T) V (getD γ t),resL tab V γ r with
  |some d,some ds=>some (d::ds)
  |_,_=>none
@[simp] def KU:fE->D
 |[d]=>d
 |ds=>.tup ds
theorem Me{P:Program}{tab:Nat->Ty}(ht:Bs P tab){g:G}{n:Nat}{γ:Fr}{V:Sig}{tmps:Array Value}{w:World}(hs:Sim P g V w)(hT:RepT g γ n tmps): ∀{l:List ResultVar}{ds:fE},resL tab V γ l=some ds->
  ∃vs,(l.mapM (fun (x:ResultVar)=>match x with|.tmp t=>pure (tmps.getD t undef)|.cell a t=>(do loadVar t (<-asAddr (tmps.getD a undef)):Sem Value))).run P w=.ok vs w/\RepL g ds vs
 |[],ds,h=>by
  simp only[resL]at h;cases h
  exact⟨[],by simp,rfl⟩
 |.tmp t::r,ds,h=>by
  simp only[resL]at h
  split at h<;>(try (cases h;done))
  rename_i ds' hd
  cases h
  obtain⟨vs,h1,h2⟩:=Me ht hs hT hd
  refine⟨tmps.getD t undef::vs,?_,_,_,rfl,hT.2 t,h2⟩
  simp only[fy,aU,bf,aK,h1]
 | .cell t T::r,ds,h=>by
  simp only[resL]at h
  split at h<;>(try (cases h;done))
  rename_i d ds' hd gK
  cases h
  obtain⟨vs,h1,h2⟩:=Me ht hs hT gK
  obtain⟨hk,hd⟩:=BF hd
  obtain⟨v,hv,hr⟩:=NH (ht T) (Aj (by simpa using hk)) hs (hT.2 t) hd
  have f6:(do loadVar T (<-asAddr (tmps.getD t undef)):Sem Value).run P w=.ok v w:=by
   rw[<-hv]
   have hp:∃a,tmps.getD t undef=.pointer (some a):=by
    have:=hT.2 t
    cases hg:getD γ t<;>rw[hg]at hd this<;>simp only[KC]at hd<;>try (cases hd;done)
    ·obtain⟨b,o,e,_⟩:=this;exact⟨_,e⟩
    ·obtain⟨b,_,e⟩:=this;exact⟨_,e⟩
   obtain⟨a,ha⟩:=hp
   rw[ha]
   simp[Instr.loadAt,Instr.sureAddr,asAddr]
  refine⟨v::vs,?_,_,_,rfl,hr,h2⟩
  simp only[fy,aU,f6,bf,aK,h1]
theorem Do{P:Program}{tab:Nat->Ty}(ht:Bs P tab){n:Nat}{fn:Func}{s:St}{ds:fE}(h:resL tab s.V s.γ fn.results.toList=some ds):P5 P n fn s (KU ds):=by
 intro g a w hs
 obtain⟨vs,h1,h2⟩:=Me ht hs.sim hs.tmps h
 have hl:=RepL.length h2
 have hv:∃v,(results fn a.tmps).run P w=.ok v w/\v=(if h:vs.toArray.size=1 then vs.toArray[0] else .tuple vs.toArray):=by
  refine⟨_,?_,rfl⟩
  unfold results
  simp only[aU,Array.mapM_eq_mapM_toList,Sem.run_map]
  erw [h1]
  simp only[aK,bf]
 obtain⟨v,hv,gA⟩:=hv
 refine⟨v,hv,?_⟩
 subst gA
 match ds,vs,h2,hl with
 |[],[],_,_=>exact⟨[],rfl,rfl⟩
 |[d],[v],h2,_=>obtain⟨_,_,e,h3,_⟩:=h2;cases e;exact h3
 |d::d'::ds,v::v'::vs,h2,_=>exact⟨_,by simp,h2⟩
theorem HG{P:Program}{tab:Nat->Ty}(ht:Bs P tab){n:Nat}{fn:Func}{R:DE->Sig->Prop}{γ:Fr}{V S':Sig}{ds:fE}{d:D}(h:resL tab V γ fn.results.toList=some ds)(hw:WkD (KU ds) d)(hZ:Sub S' V)(hR:R (.ret d) S'):EX P n fn R .ret ⟨γ,V,[]⟩:=
 ⟨_,Wk.refl P n _,rfl,_,Do ht h,.ret d,S',hw,hZ,hR⟩
theorem Sim.retell{P:Program}{g:G}{V:Sig}{w:World}(hs:Sim P g V w){j:Nat}{ds ds':fE}(hj:V j=some (.cells ds))(h:∀vs,RepL g ds vs->RepL g ds' vs):Sim P g (V.set j (.cells ds')) w:=by
 have d8:∀k,blk g (V.set j (.cells ds')) k=blk g V k:=by
  intro k
  by_cases hk:k=j
  ·subst hk;simp[blk,Sig.set,hj]
  ·simp[blk,Sig.set,hk]
 exact {
  imm:=hs.imm
  keep:=hs.keep
  obj:=fun k o hk=>by
   by_cases h1:k=j
   ·subst h1
    rw[w7]at hk;cases hk
    obtain⟨b,vs,ty,a1,a2,a3⟩:=hs.obj _ _ hj
    exact⟨b,vs,ty,a1,a2,h _ a3⟩
   ·rw[w8 _ _ h1]at hk;exact hs.obj k o hk
  inj:=fun a b c h1 h2=>hs.inj a b c (by rw[<-d8];exact h1) (by rw[<-d8];exact h2)
  free:=fun k c hk=>by
   rw[d8]at hk
   obtain⟨h1,h2⟩:=hs.free k c hk
   refine⟨h1,fun hh=>h2 fun o ho=>?_⟩
   by_cases h3:k=j
   ·subst h3;rw[hj]at ho;cases ho;rfl
   ·exact hh o (by rw[w8 _ _ h3];exact ho)
  htop:=fun k sz n m hk hm=>by
   by_cases h1:k=j
   ·subst h1;rw[w7]at hk;cases hk
   ·rw[w8 _ _ h1]at hk;exact hs.htop k sz n m hk hm
  hdom:=hs.hdom
  io:=hs.io
  fin:=hs.fin }
theorem Q1{g:G}{d:D}: ∀{ds:fE}{vs:List Value} (k:Nat),RepL g ds vs->(∀v,vs[k]? = some v->Rep g d v)->RepL g (ds.set k d) vs
 |[],vs,k,h,_=>by simpa using h
 |x::ds,_,0,⟨v,r,e,h1,h2⟩,h=>by subst e;exact⟨v,r,rfl,h v rfl,h2⟩
 |x::ds,_,k+1,⟨v,r,e,h1,h2⟩,h=>by subst e;exact⟨v,r,rfl,h1,Q1 k h2 fun u hu=>h u (by simpa using hu)⟩
theorem Ak{P:Program}{ro:Option Nat}{n:Nat}{Q:DX->St->Prop}{γ:Fr}{V:Sig}{df:List DDf}{c:Code}(j off sz:Nat){ds:fE}(hj:V j=some (.cells ds))(ho:ds[off]? = some .ak)
  (h:∀i,V i=none->DWp P ro n c Q ⟨γ,(V.set i (.tail sz 0)).set j (.cells (ds.set off (.slice [] (.tag i)))),df⟩):DWp P ro n c Q ⟨γ,V,df⟩:=
 OI fun g w a hs=>by
  obtain⟨i,hi,hZ⟩:=hs.sim.fresh
  change V i=none at hZ
  obtain⟨h1,h2⟩:=hs.sim.tagNil (sz:=sz) hi hZ
  have gI:j≠i:=fun e=>by rw[e]at hj;rw[hZ]at hj;cases hj
  have h3:Sim P (g.put i 0 0 0 [] (.slice none 0 0)) ((V.set i (.tail sz 0)).set j (.cells (ds.set off (.slice [] (.tag i))))) w:=by
   obtain⟨b,vs,ty,a1,a2,a3⟩:=hs.sim.obj _ _ hj
   have hv:∀v,vs.toList[off]? = some v->v=.slice none 0 0:=fun v hv=>by
    have:=RepL.get a3 off
    rw[ho,hv]at this
    exact this
   have fR:V.set i (.tail sz 0) j=some (.cells ds):=by rw[w8 _ _ gI];exact hj
   have hb:=h2.obj _ _ fR
   have e:∀vs',RepL (g.put i 0 0 0 [] (.slice none 0 0)) ds vs'->RepL (g.put i 0 0 0 [] (.slice none 0 0)) (ds.set off (.slice [] (.tag i))) vs':=by
    intro vs' hr
    refine Q1 off hr fun v f6=>?_
    have:=RepL.get hr off
    rw[ho,f6]at this
    rw[show v=.slice none 0 0 from this]
    exact I1
   exact h2.retell fR e
  exact⟨_,⟨γ,(V.set i (.tail sz 0)).set j (.cells (ds.set off (.slice [] (.tag i)))),df⟩,h1,⟨h3,hs.tmps.mono h1,hs.df.mono h1⟩,h i hZ⟩
end Go.DL
