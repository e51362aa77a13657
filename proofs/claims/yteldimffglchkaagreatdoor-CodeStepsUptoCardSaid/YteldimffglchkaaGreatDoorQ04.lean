/- A part of the proof. -/
import Derived.Test.YteldimffglchkaaGreatDoorQ03
import Derived.Laws.Tables
import Derived.Laws.Cover3
set_option linter.all false
namespace Go.DL
open Go
def Jh(tab:Nat->Ty):TyK->D->Option D->Option D->Option D->Option D
 |.slice e,x,none,some (.int _ h),none=>if A2 (tab e).k then none else match k8 x with
  |some es=>if 0<=h/\h<=es.length then some (.slice (es.take h.toNat) .no) else none
  |none=>none
 |.slice e,x,some (.int _ l),none,none=>if A2 (tab e).k then none else match k8 x with
  |some es=>if 0<=l/\l<=es.length/\es.all (fun c=>c.length==(tab e).size) then some (.slice (es.drop l.toNat) .no) else none
  |none=>none
 |.slice e,x,none,some (.int _ h),some (.int _ m)=>if A2 (tab e).k then none else match k8 x with
  |some es=>if h=m/\m=es.length then some (.slice es .clip) else none
  |none=>none
 |_,_,_,_,_=>none
def keyB:TyK->D->D->Option Bool
 |.int _,.int k a,.int k' b=>if k=k' then some (a==b) else none
 |.str,.str a,.str b=>some (a==b)
 |_,_,_=>none
def D3(kt:TyK)(k:D):List (D×D)->Nat->Option (Option (Nat×D))
 |[],_=>some none
 |(k',d)::r,i=>match keyB kt k k' with
  |some true=>some (some (i,d))
  |some false=>D3 kt k r (i+1)
  |none=>none
def CS(O:Sig):D->Option (List (D×D))
 |.nilmap=>some []
 |.cmap ks vs=>some (ks.zip vs)
 |.map id=>match O id with
  |some (.map l)=>some l
  |_=>none
 |_=>none
def IF(ty:Ty):Option D:=if ty.agg then some (.agg ty.zero) else ty.zero[0]?
def By:TyK->D->Bool
 |.int _,.int _ _=>true
 |.str,.str _=>true
 |_,_=>false
def H1 (tab:Nat->Ty) (O:Sig) (ok:Bool):TyK->D->D->Option D
 | .map kt et,x,k=>if A2 (tab et).k || !By (tab kt).k k then none else match CS O x with
  | some l=>match D3 (tab kt).k k l 0 with
   |some (some (_,d))=>some (if ok then .tup [d,.bool true] else d)
   |some none=>match IF (tab et)with
    |some z=>some (if ok then .tup [z,.bool false] else z)
    |none=>none
   |none=>none
  |none=>none
 |_,_,_=>none
def Kd(tab:Nat->Ty)(t:Nat)(ok:Bool):D->Option D
 | .iface t' d=>if A2 (tab t).k || H3 (tab t).k then none else
  if t'=t then some (if ok then .tup [d,.bool true] else d) else
  if ok then match IF (tab t)with
   |some z=>some (.tup [z,.bool false])
   |none=>none
  else none
 | .niliface=>if A2 (tab t).k || H3 (tab t).k then none else
  if ok then match IF (tab t)with
   |some z=>some (.tup [z,.bool false])
   |none=>none
  else none
 |_=>none
def QF (tab:Nat->Ty) (fs:List (Nat × Nat)):eO->Fr->Option eO
 |cells,[]=>some cells
 |cells,(i,d)::r=>match fs[i]? with
  | some (off,ft)=>if d.told && d.cells.length==(tab ft).size && decide (off+d.cells.length<=cells.length) then
    QF tab fs (cells.take off++d.cells++cells.drop (off+d.cells.length)) r else none
  |none=>none
def NS(tab:Nat->Ty)(t:Nat)(parts:Fr):TyK->Option D
 |.struct fs=>if fs.all (fun p=> !A2 (tab p.2).k) then(QF tab fs (tab t).zero parts).map .agg else none
 |_=>none
def MI:Bool->D->D->Option D
 |true,.int k a,.int _ b=>some (.int k (if b>a then b else a))
 |false,.int k a,.int _ b=>some (.int k (if b<a then b else a))
 |_,_,_=>none
def Ie(tab:Nat->Ty)(γ:Fr)(O:Sig):List TypeId->List Operand->Option D
 |[t],[x]=>match (tab t).k with
  |.map _ _=>(CS O (ev γ x)).map fun l=>.int .i64 l.length
  |_=>none
 |_,_=>none
def GF(tab:Nat->Ty)(γ:Fr)(O:Sig):Callee->List TypeId->List Operand->Option D
 |.builtin .len,ts,xs=>Ie tab γ O ts xs
 |.builtin .max,_,[a,b]=>MI true (ev γ a) (ev γ b)
 |.builtin .min,_,[a,b]=>MI false (ev γ a) (ev γ b)
 |_,_,_=>none
def kj(tab:Nat->Ty)(γ:Fr)(O:Sig):Op->Option D
 |.slice t x lo hi mx=>Jh tab (tab t).k (ev γ x) (lo.map (ev γ)) (hi.map (ev γ)) (mx.map (ev γ))
 |.lookup t x k ok=>H1 tab O ok (tab t).k (ev γ x) (ev γ k)
 |.typeAssert x _ t ok=>Kd tab t ok (ev γ x)
 |.build t parts=>NS tab t (parts.toList.map fun p=>(p.1,ev γ p.2)) (tab t).k
 |.call c=>GF tab γ O c.callee c.argTypes.toList c.args.toList
 |_=>none
def jn.take{g:G}{b sz:Nat}: ∀{es:eR}{o:Nat} (k:Nat),jn g b sz o es->jn g b sz o (es.take k)
 |[],_,k,_=>by simp[jn]
 |e::es,o,0,_=>by simp[jn]
 |e::es,o,k+1,⟨h1,h2⟩=>by simpa[jn] using⟨h1,jn.take k h2⟩
def jn.drop{g:G}{b sz:Nat}: ∀{es:eR}{o:Nat} (k:Nat),jn g b sz o es->jn g b sz (o+k*sz) (es.drop k)
 |[],_,k,_=>by simp[jn]
 |e::es,o,0,h=>by simpa using h
 |e::es,o,k+1,⟨_,h2⟩=>by
  have:=jn.drop k h2;simpa[show o+sz+k*sz=o+(k+1)*sz by rw[cp];omega] using this
def NN{z:Value}(h:aggV z=false):z.cells=#[z]:=by
 cases z<;>first|rfl|cases h
def LP{P:Program}{tab:Nat->Ty}(ht:AZ P tab){t:Nat}{d:D}(hk:A2 (tab t).k=false)(h:IF (tab t)=some d)(w:World): ∃z,(zeroValue t).run P w=.ok z w /\ ∀g,Rep g d z:=by
 obtain⟨inf,desc,z,h1,h2,h3,h4,h5,h6,h7,h8,h9,fe⟩:=Cx (ht t) (Ai hk);refine⟨z,by simp[zeroValue,typeInfo,program,h1,h7,Sem.run],fun g=>?_⟩;unfold IF at h;cases hz:aggV z with
 | true =>
  rw[hz]at fe;rw[aG fe]at h;cases h;cases z<;>simp only[aggV]at hz<;>try (cases hz;done)
  rename_i cs;refine⟨cs.toList,j1,?_⟩;rw[h9];simp only[Value.cells]
  exact AP j1 fun j x v e1 e2=>by
   rw[bA,e2]at e1;cases e1;exact Eo g v
 |false=>
  rw[hz]at fe;rw[aE (by simp[fe]),h9,NN hz]at h;have h:some (Bq z)=some d:=h;cases h;exact Eo g _
def Bo{g:G}{k:IntKind}{n:Int}{v:Value}(h:Rep g (.int k n) v):v=.int k n:=h
def FU{g:G}{s:List UInt8}{v:Value}(h:Rep g (.str s) v):v=.string ⟨s.toArray⟩:=h
def Pm{kt:TyK}{desc:TypeDesc}{k k':D}{b:Bool}{g:G}{v u:Value}(hd:KOK desc kt)(h:keyB kt k k'=some b)(hv:Rep g k v)(hu:Rep g k' u):Instr.sameNow desc v u=some b:=by
 unfold keyB at h;split at h
 ·rename_i k1 a k2 b';rw[Bo hv,Bo hu];cases desc<;>simp[KOK]at hd;simp only[Instr.sameNow];exact h
 ·rename_i a b';rw[FU hv,FU hu];cases desc<;>simp[KOK]at hd;cases h;simp only[Instr.sameNow,bE];rw[aR];show(a.toArray==b'.toArray)=true ↔ _;simp
 ·cases h
def Gf{kt:TyK}{desc:TypeDesc}{k:D}{g:G}{v:Value}(hd:KOK desc kt)(hv:Rep g k v): ∀{l:List (D×D)}{es:List MapEntry}{i:Nat}{r:Option (Nat×D)},kO g l es->D3 kt k l i=some r->
  ∃r',Instr.findNow desc v es i=some r'/\(match r,r' with
   |none,none=>True
   |some (j,d),some (j',x)=>j=j'/\Rep g d x/\i<=j /\ ∃e,es[j-i]? = some e/\Rep g k e.key/\e.val=x
   |_,_=>False)
 |[],es,i,r,h,hf=>by
  simp only[D3,bE]at hf;subst hf;rw[show es=[] from h];exact⟨none,rfl,trivial⟩
 | (k',d)::l,es,i,r,⟨e,rest,he,h1,h2,h3⟩,hf=>by
  subst he;simp only[D3]at hf;split at hf
  ·rename_i hk;cases hf;refine⟨some (i,e.val),?_,rfl,h2,bU _,e,j1,?_,rfl⟩
   ·simp only[Instr.findNow,Pm hd hk hv h1]
   ·have:k=k':=by
     unfold keyB at hk;split at hk
     ·split at hk
      ·rename_i e1;simp at hk;rw[e1,hk]
      ·cases hk
     ·simp at hk;rw[hk]
     ·cases hk
    rw[this];exact h1
  ·rename_i hk;obtain⟨r',e1,e2⟩:=Gf hd hv (i:=i+1) h3 hf;refine⟨r',?_,?_⟩
   ·simp only[Instr.findNow,Pm hd hk hv h1];exact e1
   ·cases r with
    |none=>cases r'<;>simpa using e2
    | some p =>
     obtain⟨j,d⟩:=p;cases r' with
     |none=>exact e2
     |some q=>
      obtain⟨j',x⟩:=q;obtain⟨a1,a2,a3,e',a4,a5,a6⟩:=e2;refine⟨a1,a2,j0,e',?_,a5,a6⟩;rw[show j-i=(j-(i+1))+1 by omega];simpa using a4
  ·cases hf
def JL{P:Program}{tab:Nat->Ty}{g:G}{fs:List (Nat×Nat)}{places:List (Nat×Nat)}(hp:places=fs.map fun p=>(p.1,(tab p.2).size)): ∀{parts:Fr}{ps:List (Nat×Value)}{cells out:eO}{cs:Array Value},
  QF tab fs cells parts=some out->parts.map (·.1)=ps.map (·.1)->jE g (parts.map (·.2)) (ps.map (·.2))->jE g cells cs.toList->
  ∃r,Instr.fill (places.toArray[·]?) cs ps=some r/\jE g out r.toList
 |[],ps,cells,out,cs,h,hm,hr,hc=>by
  have:ps=[]:=by simpa using hm.symm
  subst this;cases h;exact⟨cs,rfl,hc⟩
 |(i,d)::parts,[],_,_,_,h,hm,_,_=>by simp at hm
 | (i,d)::parts,(i',v)::ps,cells,out,cs,h,hm,hr,hc=>by
  simp only[bd,ec]at hm;obtain⟨rfl,hm⟩:=hm;obtain⟨v',r',e1,h1,h2⟩:=hr;simp only[bd,ec]at e1;obtain⟨rfl,rfl⟩:=e1;simp only[QF]at h;split at h
  ·rename_i off ft hf;split at h<;>(try (cases h;done));rename_i d9;simp only[aF,cR,aH]at d9;obtain⟨⟨c1,c2⟩,c3⟩:=d9;have fD:=FV h1 c1;have hl:=jE.length fD;have fS:=jE.length hc;simp only[bB]at hl fS;have fo:places[i]? = some (off,(tab ft).size):=by rw[hp,bA,hf];rfl
   have eU:=RL off v.cells.toList 0 cs (by simp;omega)
   have eU:((v.cells.zipIdx.foldl (fun cs (c,j)=>cs.setIfInBounds (off+j) c) cs)).toList=cs.toList.take off++v.cells.toList++cs.toList.drop (off+v.cells.toList.length):=by
    have e:v.cells.zipIdx.foldl (fun cs (c,j)=>cs.setIfInBounds (off+j) c) cs=(v.cells.toList.zipIdx 0).foldl (fun (cs:Array Value) (p:Value×Nat)=>cs.setIfInBounds (off+p.2) p.1) cs:=by
     rw[<-ei];simp
    rw[e];simpa using eU
   obtain⟨r,fg,fm⟩:=JL (P:=P) hp (cs:=v.cells.zipIdx.foldl (fun cs (c,j)=>cs.setIfInBounds (off+j) c) cs) h hm h2 (by
    rw[eU]
    refine jE.append (jE.append ?_ fD) ?_
    ·refine AP (by simp;omega) fun j x y hx hy=>?_
     rw[dv]at hx hy
     split at hx<;>(try (cases hx;done))
     rename_i hj
     rw[aG hj]at hy
     have:=jE.get hc j
     rw[hx,hy]at this;exact this
    ·refine AP (by simp only[cn,bB];omega) fun j x y hx hy=>?_
     rw[cm]at hx hy
     have:=jE.get hc (off+d.cells.length+j)
     simp only[bB]at hy
     rw[hl]at hy
     rw[hx,hy]at this;exact this)
   refine⟨r,?_,fm⟩;rw[Instr.fill];simp only[dn,fo];rw[aE (by simp;omega)];simp only[dn]at fg;exact fg
  ·cases h
def P3{g:G}: ∀{ks vs:eO}{es:List MapEntry},jE g ks (es.map (·.key))->jE g vs (es.map (·.val))->kO g (ks.zip vs) es
 |[],vs,es,h1,_=>by
  have:es=[]:=by have:es.map (·.key)=[]:=h1;simpa using this
  subst this;exact rfl
 |k::ks,vs,[],⟨_,_,h,_⟩,_=>by simp at h
 |k::ks,[],e::es,_,h=>by have:(e::es).map (·.val)=[]:=h;simp at this
 |k::ks,v::vs,e::es,⟨a,r,h1,h2,h3⟩,⟨a',r',ff,fW,fV⟩=>by
  simp only[bd,ec]at h1 ff;obtain⟨rfl,rfl⟩:=h1;obtain⟨rfl,rfl⟩:=ff;exact⟨e,es,rfl,h2,fW,P3 h3 fV⟩
def ER{P:Program}{w:World}{r clock:Nat}{es:Array MapEntry}(h:w.heap[r]? = some (.map es clock)):(getObj r).run P w=.ok (.map es clock) w:=by simp[getObj,Sem.run,h]
def Iu{g:G}{a:Option Addr}{es:eR}{cap:Nat}(h1:es.length<=cap)(h2:es=[] \/ ∃sz b o,a=some ⟨b,o,none⟩/\jn g b sz o es):Rep g (.slice es .no) (.slice a es.length cap):=
 ⟨a,cap,rfl,h1,h2,trivial⟩
section
variable {P:Program}{tab:Nat->Ty}(ht:AZ P tab){g:G}{O:Sig}{w:World}(hs:Sim P g O w)
include ht hs
theorem Rh{t:Nat}{parts:Fr}{ps:List (Nat×Value)}{d:D}(h:NS tab t parts (tab t).k=some d)(hm:parts.map (·.1)=ps.map (·.1))(hr:jE g (parts.map (·.2)) (ps.map (·.2))):
  PRun P g O d (Instr.build t ps.toArray) w:=by
 unfold NS at h;split at h<;>(try (cases h;done));rename_i fs hk;split at h<;>(try (cases h;done));rename_i fu;obtain⟨out,ho,rfl⟩:=ci.1 h;obtain⟨inf,desc,z,h1,h2,h3,h4,h5,h6,h7,h8,h9,fe⟩:=Cx (ht t) (by rw[hk];simp);obtain⟨l,hl,fC⟩:=HZ ht hk
 have hz:jE g (tab t).zero z.cells.toList:=by
  rw[h9]
  exact AP j1 fun j x v e1 e2=>by
   rw[bA,e2]at e1;cases e1;exact Eo g v
 obtain⟨r,fg,fm⟩:=JL (P:=P) (tab:=tab) (fs:=fs) rfl ho hm hr hz
 have fo:l.toList.mapM (fun f=>(P.info? f.type).map fun i=>(f.offset,i.size))=some (fs.map fun p=>(p.1,(tab p.2).size)):=by
  rw[<-fC];rw[dh]
  have key:∀(fl:List Field),(∀f∈fl,A2 (tab f.type).k=false)->fl.mapM (fun f=>(P.info? f.type).map fun i=>(f.offset,i.size))=some (fl.map ((fun p:Nat×Nat=>(p.1,(tab p.2).size)) ∘ fun f=>(f.offset,f.type))):=by
   intro fl
   induction fl with
   |nil=>intro _;rfl
   |cons f fl ih=>
    intro hh;obtain⟨inf',_,_,g1,_,_,g4,_⟩:=Cx (ht f.type) (Ai (hh f j1));simp only[eG,g1,bx,Option.bind_eq_bind,dz,ih fun x hx=>hh x (by simp[hx])];simp[g4]
  refine key _ fun f hf=>?_;have:=(aW.1 fu) (f.offset,f.type) (by rw[<-fC];exact aZ.2 ⟨f,hf,rfl⟩);simpa using this
 have hb:P.built t ps=some r:=by
  unfold Program.built;rw[h1,hl];simp only[h7,fo];exact fg
 exact AH hs (v:=.agg r) (run_build w t ps.toArray r (by simpa using hb)) ⟨r.toList,j1,fm⟩
theorem Qd{t:Nat}{x d:D}{lo hi mx:Option D}{v:Value}{lo' d7 mx':Option Value}(h:Jh tab (tab t).k x lo hi mx=some d)(hx:Rep g x v)
  (fL:lo'.isSome=lo.isSome /\ ∀a b,lo=some a->lo'=some b->Rep g a b) (fB:d7.isSome=hi.isSome /\ ∀a b,hi=some a->d7=some b->Rep g a b) (fK:mx'.isSome=mx.isSome /\ ∀a b,mx=some a->mx'=some b->Rep g a b) :
  PRun P g O d (Instr.sliceAt t v lo' d7 mx') w:=by
 unfold Jh at h;split at h<;>(try (cases h;done))
 ·rename_i e k hh hk;obtain⟨hd,h⟩:=Br h;split at h<;>(try (cases h;done));rename_i es fa;obtain⟨⟨c1,c2⟩,rfl⟩:=EG h;obtain⟨a,cap,rfl,r1,r2⟩:=CL fa hx;obtain rfl:lo'=none:=by cases lo'<;>simp_all
  obtain rfl:mx'=none:=by cases mx'<;>simp_all
  obtain⟨hv,rfl⟩:∃y,d7=some y:=by cases d7<;>simp_all
  have:=fB.2 _ _ rfl rfl;rw[Bo this];have fQ:hh<=(cap:Int):=by omega
  refine AH hs (v:=.slice a hh.toNat cap) ?_ ?_
  ·have hu:=AR ht hk;simp only[Instr.sliceAt,Instr.slice,Instr.sliceBounds,Instr.sliceBound,asIntOf,aP,bi,aJ,j4 hu,c1,fQ,dt,bu,AK (ht e) (Ai (by simpa using hd)),dA,eu]
   congr 1
   cases a with
   |none=>simp
   |some a=>cases a;simp[Addr.add]
  ·have hl:(es.take hh.toNat).length=hh.toNat:=by simp;omega
   have:=Iu (g:=g) (a:=a) (es:=es.take hh.toNat) (cap:=cap) j0 (r2.imp (fun h=>by simp[h]) fun ⟨sz,b,o,q1,q2⟩=>⟨sz,b,o,q1,q2.take _⟩)
   rwa [hl]at this
 ·rename_i e k ll hk;obtain⟨hd,h⟩:=Br h;split at h<;>(try (cases h;done));rename_i es fa;obtain⟨⟨c1,c2,c3⟩,rfl⟩:=EG h;obtain⟨a,cap,rfl,r1,r2⟩:=CL fa hx;obtain rfl:d7=none:=by cases d7<;>simp_all
  obtain rfl:mx'=none:=by cases mx'<;>simp_all
  obtain⟨lv,rfl⟩:∃y,lo'=some y:=by cases lo'<;>simp_all
  have:=fL.2 _ _ rfl rfl;rw[Bo this];refine AH hs (v:=.slice (if cap=ll.toNat then a else a.map (·.add (ll.toNat*(tab e).size))) (es.length-ll.toNat) (cap-ll.toNat)) ?_ ?_
  ·have hu:=AR ht hk;simp only[Instr.sliceAt,Instr.slice,Instr.sliceBounds,Instr.sliceBound,asIntOf,aP,bi,aJ,j4 hu,c1,c2,dt,bu,AK (ht e) (Ai (by simpa using hd))]
  ·have hl:(es.drop ll.toNat).length=es.length-ll.toNat:=by simp
   rw[<-hl];refine Iu j0 ?_
   by_cases hne:es.drop ll.toNat=[]
   ·exact .inl hne
   ·right
    have fA:ll.toNat<es.length:=by
     rcases ce ll.toNat es.length with h|h
     ·exact h
     ·exact absurd (dk h) hne
    rw[aE j0];rcases r2 with rfl|⟨sz,b,o,rfl,q2⟩
    ·simp at fA
    ·obtain rfl:=q2.size (by rintro rfl;simp at fA) (fun c hc=>by simpa using(aW.1 c3) c hc);exact⟨(tab e).size,b,o+ll.toNat*(tab e).size,by simp[BQ],q2.drop _⟩
 ·rename_i e k hh k' mm hk;obtain⟨hd,h⟩:=Br h;split at h<;>(try (cases h;done));rename_i es fa;obtain⟨⟨rfl,c2⟩,rfl⟩:=EG h;obtain⟨a,cap,rfl,r1,r2⟩:=CL fa hx;obtain rfl:lo'=none:=by cases lo'<;>simp_all
  obtain⟨mv,rfl⟩:∃y,mx'=some y:=by cases mx'<;>simp_all
  obtain⟨hv,rfl⟩:∃y,d7=some y:=by cases d7<;>simp_all
  have e1:=fB.2 _ _ rfl rfl;have e2:=fK.2 _ _ rfl rfl;rw[Bo e1,Bo e2,c2];have c3:((es.length:Nat):Int)<=(cap:Int):=by omega
  refine AH hs (v:=.slice a es.length es.length) ?_ ⟨a,es.length,rfl,bU _,r2,rfl⟩;have hu:=AR ht hk;simp only[Instr.sliceAt,Instr.slice,Instr.sliceBounds,Instr.sliceBound,asIntOf,aP,bi,aJ,j4 hu,c3,Int.natCast_nonneg,dQ,bF,dt,bu,AK (ht e) (Ai (by simpa using hd)),dA,eu,bU]
  congr 1
  cases a with
  |none=>simp
  |some a=>cases a;simp[Addr.add]
theorem IC{x:D}{l:List (D×D)}{v:Value}(h:CS O x=some l)(hx:Rep g x v):
  ∃es:Array MapEntry,kO g l es.toList/\(v=.map none/\es=#[] \/ ∃r clock,v=.map (some r)/\w.heap[r]? = some (.map es clock)):=by
 unfold CS at h;split at h<;>(try (cases h;done))
 ·cases h;exact⟨#[],rfl,.inl ⟨hx,rfl⟩⟩
 ·cases h;obtain⟨b,es,clock,rfl,h1,_,h2,h3⟩:=hx;exact⟨es,P3 h2 h3,.inr ⟨b,clock,rfl,hs.keep _ _ h1⟩⟩
 ·split at h<;>(try (cases h;done));rename_i id l' hZ;cases h;obtain⟨b,es,clock,h1,h2,h3⟩:=hs.obj _ _ hZ;obtain⟨b',h4,rfl⟩:=hx;rw[h1]at h4;cases h4;exact⟨es,h3.1,.inr ⟨b,clock,rfl,h2⟩⟩
theorem On{t:Nat}{x k d:D}{ok:Bool}{v u:Value}(h:H1 tab O ok (tab t).k x k=some d)(hx:Rep g x v)(hk:Rep g k u):PRun P g O d (Instr.lookup t v u ok) w:=by
 unfold H1 at h;split at h<;>(try (cases h;done));rename_i x k _ _ _ kt et fI;obtain⟨hc,h⟩:=Br h;simp only[bR,eh,bZ,ee,cr]at hc;obtain⟨fU,fb⟩:=hc;have fb:By (tab kt).k k=true:=by simpa using fb
 split at h<;>(try (cases h;done));rename_i l hl;obtain⟨es,hm,hv⟩:=IC ht hs hl hx;have hu:=J9 ht fI;obtain⟨desc,b9,b7⟩:∃desc,P.underlying kt=some desc/\KOK desc (tab kt).k:=FO ht rfl (by intro e;rw[e]at fb;cases k<;>cases fb)
 have eX:(Instr.checkKey es.isEmpty 10000 kt u).run P w=.ok () w:=by
  unfold Instr.checkKey;simp only[aP,j4 b9,aJ]
  have fj:(∃kd k1 n1,(tab kt).k=.int kd/\k=.int k1 n1)\/(∃s1,(tab kt).k=.str/\k=.str s1):=by
   cases fq:(tab kt).k<;>cases k<;>simp[fq,By]at fb<;>simp
  rcases fj with⟨kd,k1,n1,e1,rfl⟩|⟨s1,e1,rfl⟩
  ·rw[e1]at b7;rw[Bo hk];cases desc<;>simp[KOK]at b7;rfl
  ·rw[e1]at b7;rw[FU hk];cases desc<;>simp[KOK]at b7;rfl
 split at h<;>(try (cases h;done))
 ·rename_i j d' hf;cases h;obtain⟨r',e1,e2⟩:=Gf (g:=g) b7 hk hm hf;cases r' with
  |none=>exact e2.elim
  | some q =>
   obtain⟨j',y⟩:=q;obtain⟨_,e2,_⟩:=e2;refine AH hs (v:=if ok then .tuple #[y,.bool true] else y) ?_ ?_
   ·rcases hv with⟨rfl,rfl⟩|⟨r,clock,rfl,hh⟩
    ·simp only[Instr.lookup,aP,j4 hu,aJ,bi,eX,Instr.findKey,j4 b9,e1]
    ·simp only[Instr.lookup,aP,j4 hu,aJ,bi,ER hh,eX,Instr.findKey,j4 b9,e1]
   ·cases ok
    ·exact e2
    ·exact⟨[y,.bool true],j1,y,[.bool true],rfl,e2,.bool true,[],rfl,rfl,rfl⟩
 ·rename_i hf;split at h<;>(try (cases h;done));rename_i zd hz;cases h;obtain⟨z,z1,z2⟩:=LP ht fU hz w;obtain⟨r',e1,e2⟩:=Gf (g:=g) b7 hk hm hf;cases r' with
  |some q=>exact e2.elim
  | none =>
   refine AH hs (v:=if ok then .tuple #[z,.bool false] else z) ?_ ?_
   ·rcases hv with⟨rfl,rfl⟩|⟨r,clock,rfl,hh⟩
    ·simp only[Instr.lookup,aP,j4 hu,aJ,bi,eX,Instr.findKey,j4 b9,e1,z1]
    ·simp only[Instr.lookup,aP,j4 hu,aJ,bi,ER hh,eX,Instr.findKey,j4 b9,e1,z1]
   ·cases ok
    ·exact z2 g
    ·exact⟨[z,.bool false],j1,z,[.bool false],rfl,z2 g,.bool false,[],rfl,rfl,rfl⟩
end
def Sim.setAny{P:Program}{g:G}{O:Sig}{w:World}(hs:Sim P g O w){i b:Nat}{d d':jP}{o x:Obj}(hi:O i=some d)(ht:d.isTail=false)(fv:d'.isTail=false)(hb:g.rho i=some b)
  (hx:w.heap[b]? = some x) (hr:kB P g (setB w b o) i d'):Sim P g (O.set i d') (setB w b o):=by
 have b8:blk g O i=some b:=by
  unfold blk;rw[hi];cases d<;>first|exact hb|cases ht
 have d8:=hs.free i b b8;have fy:∀o,g.imm b o=none:=d8.2 fun o ho=>by rw[hi]at ho;cases ho;exact ht
 have d6:∀j,blk g (O.set i d') j=blk g O j:=by
  intro j
  by_cases hj:j=i
  ·subst hj;rw[b8];unfold blk;rw[w6];cases d'<;>first|exact hb|cases fv
  ·unfold blk;rw[w7 _ _ hj]
 exact {
  imm:=fun c o v h=>by
   have hc:c≠b:=fun e=>by rw[e,fy o]at h;cases h
   exact NO (b:=b) (by simpa using hc) (fun k x hx hk=>by rw[Fk hk];exact hx) (hs.imm c o v h)
  keep:=fun k o h=>by
   have hc:k≠b:=fun e=>by rw[e,d8.1]at h;cases h
   rw[Fk hc];exact hs.keep k o h
  obj:=fun j o h=>by
   by_cases hj:j=i
   ·subst hj
    rw[w6]at h;cases h;exact hr
   ·rw[w7 _ _ hj]at h
    exact(hs.obj j o h).setB h fun e=>hj (hs.inj j i b e b8)
  inj:=fun j k c h1 h2=>hs.inj j k c (by rw[<-d6];exact h1) (by rw[<-d6];exact h2)
  free:=fun j c h=>by
   rw[d6]at h
   obtain⟨h1,h2⟩:=hs.free j c h
   refine⟨h1,fun hh o=>?_⟩
   by_cases hj:j=i
   ·subst hj
    rw[b8]at h;cases h
    exact fy o
   ·exact h2 (fun x hx=>hh x (j2 hj hx)) o
  htop:=fun j sz n k h hk=>by
   by_cases hj:j=i
   ·subst hj;rw[w6]at h;cases h;cases fv
   ·rw[w7 _ _ hj]at h;exact hs.htop j sz n k h hk
  hdom:=hs.hdom
  io:=hs.io
  tab:=hs.tab
  fin:=hs.fin }
def Dt(kt:TyK)(k d:D)(l:List (D×D)):Option (List (D×D)):=
 match D3 kt k l 0 with
 |some (some (j,_))=>some (l.set j (k,d))
 |some none=>some (l++[(k,d)])
 |none=>none
def kO.set{g:G}{k d:D}{kv v:Value}(hk:Rep g k kv)(hd:Rep g d v): ∀{l:List (D×D)}{es:List MapEntry} (j:Nat),kO g l es->kO g (l.set j (k,d)) (es.modify j fun e=>{ e with key:=kv,val:=v })
 |[],es,j,h=>by
  rw[show es=[] from h];cases j<;>simp[kO]
 |(k',d')::l,es,0,⟨e,rest,he,h1,h2,h3⟩=>by
  subst he;exact⟨{ e with key:=kv,val:=v },rest,j1,hk,hd,h3⟩
 |(k',d')::l,es,j+1,⟨e,rest,he,h1,h2,h3⟩=>by
  subst he;exact⟨e,rest.modify j fun e=>{ e with key:=kv,val:=v },j1,h1,h2,kO.set hk hd j h3⟩
def kw.modify{c:Nat}{es:Array MapEntry}(h:kw c es.toList)(j:Nat){u v:Value}:kw c (es.modify j fun e=>{ e with key:=u,val:=v }).toList:=by
 have e:(es.modify j fun e=>{ e with key:=u,val:=v }).toList.map (·.born)=es.toList.map (·.born):=by
  apply cD ; intro k;simp only[bA,bO,cQ]
  by_cases hk:j=k
  ·subst hk;rw[aG rfl];cases es[j]? <;> rfl
  ·rw[aE hk]
 refine⟨by rw[e];exact h.1,fun x hx=>?_⟩;have:x.born∈(es.modify j fun e=>{ e with key:=u,val:=v }).toList.map (·.born):=List.mem_map_of_mem hx;rw[e]at this;obtain⟨y,hy,fF⟩:=aZ.1 this;rw[<-fF];exact h.2 y hy
def kw.push{c:Nat}{es:Array MapEntry}(h:kw c es.toList){u v:Value}:kw (c+1) (es.push { key:=u,val:=v,born:=c }).toList:=by
 refine⟨?_,fun x hx=>?_⟩
 ·simp only[Array.toList_push,bz,bd,bX];refine ex.2 ⟨h.1,j1,fun a ha b hb=>?_⟩;obtain⟨y,hy,rfl⟩:=aZ.1 ha;have:=h.2 y hy;simp at hb;omega
 ·simp only[Array.toList_push,bJ,bC]at hx;rcases hx with hx|rfl
  ·have:=h.2 x hx;omega
  ·simp
def kO.push{g:G}{k d:D}{e:MapEntry}(hk:Rep g k e.key)(hd:Rep g d e.val): ∀{l:List (D×D)}{es:List MapEntry},kO g l es->kO g (l++[(k,d)]) (es++[e])
 |[],es,h=>by
  rw[show es=[] from h];exact⟨e,[],rfl,hk,hd,rfl⟩
 |(k',d')::l,es,⟨e',rest,he,h1,h2,h3⟩=>by
  subst he;exact⟨e',rest++[e],rfl,h1,h2,kO.push hk hd h3⟩
def Og{g:G}{kt:TyK}{k:D}{u v:Value}(hk:By kt k=true)(h1:Rep g k u)(h2:Rep g k v):Instr.sameBits 10000 u v=true:=by
 cases kt<;>cases k<;>simp only[By]at hk<;>try (cases hk;done)
 ·rw[Bo h1,Bo h2];simp[Instr.sameBits]
 ·rw[FU h1,FU h2];show(_==_)=true;rename_i s;show(s.toArray==s.toArray)=true;simp
section
variable {P:Program}{tab:Nat->Ty}(ht:AZ P tab){g:G}{O:Sig}{w:World}(hs:Sim P g O w)
include ht hs
theorem QC{t kt et:Nat}{k:D}{u:Value}(hk:By (tab kt).k k=true)(hr:Rep g k u)(e:Bool): ∃desc,P.underlying kt=some desc/\KOK desc (tab kt).k/\(Instr.checkKey e 10000 kt u).run P w=.ok () w:=by
 obtain⟨desc,b9,b7⟩:∃desc,P.underlying kt=some desc/\KOK desc (tab kt).k:=FO ht rfl (by intro e;rw[e]at hk;cases k<;>cases hk);refine⟨desc,b9,b7,?_⟩;unfold Instr.checkKey;simp only[aP,j4 b9,aJ]
 have fj:(∃kd k1 n1,(tab kt).k=.int kd/\k=.int k1 n1)\/(∃s1,(tab kt).k=.str/\k=.str s1):=by
  cases fq:(tab kt).k<;>cases k<;>simp[fq,By]at hk<;>simp
 rcases fj with⟨kd,k1,n1,e1,rfl⟩|⟨s1,e1,rfl⟩
 ·rw[e1]at b7;rw[Bo hr];cases desc<;>simp[KOK]at b7;rfl
 ·rw[e1]at b7;rw[FU hr];cases desc<;>simp[KOK]at b7;rfl
theorem KK{r clock clock':Nat}{es es':Array MapEntry}(h:w.heap[r]? = some (.map es clock)):(setObj r (.map es' clock')).run P w=.ok () (setB w r (.map es' clock')):=by
 simp[setObj,Sem.run,h,setB]
theorem GP{t kt et id:Nat}{x k d:D}{l l':List (D×D)}{m u v:Value}(fM:(tab t).k=.map kt et)(hk:By (tab kt).k k=true)(hm:x=.map id)(hZ:O id=some (.map l))(hp:Dt (tab kt).k k d l=some l')
  (h1:Rep g x m) (h2:Rep g k u) (h3:Rep g d v):∃w',(Instr.mapUpdate t m u v).run P w=.ok () w'/\Sim P g (O.set id (.map l')) w':=by
 subst hm;obtain⟨b',fc,rfl⟩:=h1;obtain⟨b,es,clock,hb,hh,hr,fw⟩:=hs.obj _ _ hZ;rw[fc]at hb;cases hb;obtain⟨desc,b9,b7,eX⟩:=QC (t:=t) (et:=et) ht hs hk h2 false;have hu:=J9 ht fM;unfold Dt at hp;split at hp<;>(try (cases hp;done))
 ·rename_i j dd hf;cases hp;obtain⟨r',e1,e2⟩:=Gf (g:=g) b7 h2 hr hf;cases r' with
  |none=>exact e2.elim
  | some q =>
   obtain⟨j',y⟩:=q;obtain⟨rfl,e2,_,e,a1,a2,a3⟩:=e2;rw[dA]at a1;have a1':es[j]? = some e:=by simpa using a1
   refine⟨setB w b' (.map (es.modify j fun e=>{ e with key:=u,val:=v }) clock),?_,?_⟩
   ·simp only[Instr.mapUpdate,aP,j4 hu,aJ,ER hh,eX,Instr.findKey,j4 b9,e1,bi,a1',bx,ba,Instr.keyThatStays,Og hk a2 h2,bu];exact KK ht hs hh
   ·refine hs.setAny hZ rfl rfl fc hh ⟨b',_,clock,fc,Fl hh,?_,fw.modify j⟩;simpa using kO.set h2 h3 j hr
 ·rename_i hf;cases hp;obtain⟨r',e1,e2⟩:=Gf (g:=g) b7 h2 hr hf;cases r' with
  |some q=>exact e2.elim
  | none =>
   refine⟨setB w b' (.map (es.push { key:=u,val:=v,born:=clock }) (clock+1)),?_,?_⟩
   ·simp only[Instr.mapUpdate,aP,j4 hu,aJ,ER hh,eX,Instr.findKey,j4 b9,e1,bi];exact KK ht hs hh
   ·refine hs.setAny hZ rfl rfl fc hh ⟨b',_,clock+1,fc,Fl hh,?_,fw.push⟩;simpa using kO.push (e:={ key:=u,val:=v,born:=clock }) h2 h3 hr
end
section
variable {P:Program}{tab:Nat->Ty}(ht:AZ P tab){g:G}{O:Sig}{w:World}(hs:Sim P g O w)
include ht hs
theorem OJ{xt t:Nat}{x d:D}{ok:Bool}{v:Value}(h:Kd tab t ok x=some d)(hx:Rep g x v):PRun P g O d (Instr.typeAssert v xt t ok) w:=by
 have eY:∀{α:Prop},A2 (tab t).k=false->H3 (tab t).k=false->(∀desc,P.underlying t=some desc->(∀i,desc≠.interface i)->α)->α:=by
  intro α h1 h2 k;obtain⟨desc,b9,b7⟩:=FO ht rfl (Ai h1);refine k desc b9 ?_
  rintro i rfl
  cases hk:(tab t).k<;>rw[hk]at b7 h2<;>simp[KOK,H3]at b7 h2
 cases x<;>simp only[Kd]at h<;>try (cases h;done)
 ·rename_i t' d';obtain⟨hc,h⟩:=Br h;simp only[bR,eh,bZ]at hc;obtain⟨y,rfl,hy⟩:=hx;refine eY hc.1 hc.2 fun desc hd hn=>?_
  by_cases he:t'=t
  ·rw[aG he]at h;cases h;refine AH hs (v:=if ok then .tuple #[y,.bool true] else y) ?_ ?_
   ·simp only[Instr.typeAssert,aP,j4 hd,aJ];cases desc<;>first|exact absurd rfl (hn _)|simp[he]
   ·cases ok
    ·exact hy
    ·exact⟨[y,.bool true],j1,y,[.bool true],rfl,hy,.bool true,[],rfl,rfl,rfl⟩
  ·rw[aE he]at h
   obtain⟨rfl,h⟩:ok=true/\_:=by
    cases ok
    ·simp at h
    ·exact⟨rfl,h⟩
   simp only[bu]at h;split at h<;>(try (cases h;done));rename_i zd hz;cases h;obtain⟨z,z1,z2⟩:=LP ht hc.1 hz w;refine AH hs (v:=.tuple #[z,.bool false]) ?_ ⟨[z,.bool false],j1,z,[.bool false],rfl,z2 g,.bool false,[],rfl,rfl,rfl⟩;simp only[Instr.typeAssert,aP,j4 hd,aJ];cases desc<;>first|exact absurd rfl (hn _)|simp[he,z1]
 ·obtain⟨hc,h⟩:=Br h;simp only[bR,eh,bZ]at hc;refine eY hc.1 hc.2 fun desc hd hn=>?_
  obtain⟨rfl,h⟩:ok=true/\_:=by
   cases ok
   ·simp at h
   ·exact⟨rfl,h⟩
  simp only[bu]at h;split at h<;>(try (cases h;done));rename_i zd hz;cases h;obtain⟨z,z1,z2⟩:=LP ht hc.1 hz w;rw[show v=.nilIface from hx];refine AH hs (v:=.tuple #[z,.bool false]) ?_ ⟨[z,.bool false],j1,z,[.bool false],rfl,z2 g,.bool false,[],rfl,rfl,rfl⟩;simp only[Instr.typeAssert,aP,j4 hd,aJ];cases desc<;>first|exact absurd rfl (hn _)|simp[z1]
theorem Vg{γ:Fr}{m:Nat}{a:Act}(hT:kA g γ m a.tmps){o:Oper}{d:D}(h:kj tab γ O o.op=some d):ORun P g O d (execOp a.eval o) w:=by
 obtain⟨dst,op,type,pos,after,guard⟩:=o;simp only at h;have E:=fun x=>As hT x
 have eV:∀(x:Option Operand),(x.map a.eval).isSome=(x.map (ev γ)).isSome /\ ∀p q,x.map (ev γ)=some p->x.map a.eval=some q->Rep g p q:=by
  intro x;cases x with
  |none=>exact⟨rfl,fun p q h=>by cases h⟩
  |some y=>exact⟨rfl,fun p q h1 h2=>by cases h1;cases h2;exact E y⟩
 unfold execOp;cases op<;>simp only[kj]at h<;>(try (cases h;done))
 case slice t x lo hi mx=>exact .of (Qd ht hs h (E x) (eV lo) (eV hi) (eV mx))
 case lookup t x k ok=>exact .of (On ht hs h (E x) (E k))
 case typeAssert x xt t ok=>exact .of (OJ ht hs h (E x))
 case build t parts=>
  refine .of ?_
  have:=Rh (ps:=parts.toList.map fun p=>(p.1,a.eval p.2)) ht hs h j1 (by
   rw[dh,dh]
   have:=E4 hT (parts.toList.map (·.2))
   rw[dh,dh]at this
   exact this)
  have e:(parts.toList.map fun p=>(p.1,a.eval p.2)).toArray=parts.map fun (i,x)=>(i,a.eval x):=by
   rw[Fh]
  rw[e]at this;exact this
 case call c=>
  obtain⟨callee,args,ats⟩:=c;unfold GF at h;split at h<;>(try (cases h;done))
  ·rename_i hc;subst hc;unfold Ie at h;split at h<;>(try (cases h;done));rename_i t x e1 e2;obtain rfl:ats=#[t]:=by apply da;simpa using e1
   obtain rfl:args=#[x]:=by apply da;simpa using e2
   split at h<;>(try (cases h;done));rename_i kt et hk;obtain⟨l,hl,rfl⟩:=ci.1 h;obtain⟨es,hm,hv⟩:=IC ht hs hl (E x)
   have hlen:∀{l:List (D×D)}{es:List MapEntry},kO g l es->es.length=l.length:=by
    intro l
    induction l with
    |nil=>intro es h;rw[show es=[] from h];rfl
    |cons p l ih=>intro es h;obtain⟨e,rest,rfl,_,_,h3⟩:=h;simp[ih h3]
   have fh:=hlen hm;simp only[bB]at fh;refine⟨g,w,.int .i64 l.length,?_,.refl g,hs,rfl⟩;rcases hv with⟨hv,rfl⟩|⟨r,clock,hv,hh⟩
   ·simp at fh;simp[resolve,invoke,builtin,Builtin.len_,j4 (J9 ht hk),hv,goInt,<-fh]
   ·simp[resolve,invoke,builtin,Builtin.len_,j4 (J9 ht hk),hv,ER hh,goInt,fh]
  ·rename_i x y hc b6;subst hc;obtain rfl:args=#[x,y]:=by apply da;simpa using b6
   unfold MI at h;split at h<;>(try (cases h;done))
   ·rename_i k p k' q hb e1 e2;cases h;have h1:=E x;have h2:=E y;rw[e1]at h1;rw[e2]at h2;refine⟨g,w,.int k (if q>p then q else p),?_,.refl g,hs,rfl⟩;simp[resolve,invoke,builtin,Builtin.max_,Builtin.max2,Bo h1,Bo h2]
   ·rename_i hb e1 e2;cases hb
  ·rename_i x y hc b6;subst hc;obtain rfl:args=#[x,y]:=by apply da;simpa using b6
   unfold MI at h;split at h<;>(try (cases h;done))
   ·rename_i hb e1 e2;cases hb
   ·rename_i k p k' q hb e1 e2;cases h;have h1:=E x;have h2:=E y;rw[e1]at h1;rw[e2]at h2;refine⟨g,w,.int k (if q<p then q else p),?_,.refl g,hs,rfl⟩;simp[resolve,invoke,builtin,Builtin.min_,Builtin.min2,Bo h1,Bo h2]
end
def EP (tab:Nat->Ty) (O:Sig) (T:Nat):D->D->Option (D × Sig)
 |.ptr i off,d=>match O i with
  | some (.cells ds)=>if A2 (tab T).k || !d.told || d.cells.length != (tab T).size || !C6 d.cells || decide (ds.length < off+d.cells.length) then none else
    some (.any,O.set i (.cells (ds.take off++d.cells++ds.drop (off+d.cells.length))))
  |_=>none
 |_,_=>none
def updD(tab:Nat->Ty)(O:Sig):TyK->D->D->D->Option (D×Sig)
 | .map kt _, .map id,k,d=>if !By (tab kt).k k then none else match O id with
  |some (.map l)=>match Dt (tab kt).k k d l with
   |some l'=>some (.any,O.set id (.map l'))
   |none=>none
  |_=>none
 |_,_,_,_=>none
def GW:TyK->Option Nat
 |.slice e=>some e
 |_=>none
def appD (tab:Nat->Ty) (O:Sig):List TypeId->D->D->Option (D × Sig)
 | [T,T'], .slice es (.tag id),x=>match GW (tab T).k,GW (tab T').k,O id,k8 x with
  | some e,some _,some (.tail sz k),some new =>
   if A2 (tab e).k||sz != (tab e).size||k != es.length||!es.all (fun c=>c.length==(tab e).size)||!new.all (fun c=>c.length==(tab e).size)||!new.all C6 ||
     decide (140737488355328<(es.length+new.length)*(tab e).bytes)||decide (9223372036854775807<es.length+new.length) then none else
    some (.slice (es++new) (.tag id),O.set id (.tail (tab e).size (es.length+new.length)))
  |_,_,_,_=>none
 |_,_,_=>none
def bapD(tab:Nat->Ty)(O:Sig)(ts:List TypeId)(γ:Fr):Callee->List Operand->Option (D×Sig)
 |.builtin .append,[s,x]=>appD tab O ts (ev γ s) (ev γ x)
 |_,_=>none
def eopD(tab:Nat->Ty)(γ:Fr)(O:Sig):Op->Option (D×Sig)
 |.store T x y=>EP tab O T (ev γ x) (ev γ y)
 |.mapUpdate t m k x=>updD tab O (tab t).k (ev γ m) (ev γ k) (ev γ x)
 |.insert t m k x=>updD tab O (tab t).k (ev γ m) (ev γ k) (ev γ x)
 |.call c=>bapD tab O c.argTypes.toList γ c.callee c.args.toList
 |_=>none
def jX(tab:Nat->Ty)(γ:Fr)(O:Sig)(op:Op):Option D:=
 match dop tab γ O op with
 |some d=>some d
 |none=>kj tab γ O op
def letOp(vars:eQ)(o:Oper)(l:List Oper):Option (Nat×Nat×Operand):=
 match o.op with
 |.alloc T=>match o,l with
  |⟨some t,_,_,_,_,none⟩,⟨none,.store T' (.tmp t') x,_,_,_,none⟩::_=>if T==T'&&t==t'&&!vars.contains t then some (t,T,x) else none
  |_,_=>none
 |_=>none
def FD(t:Nat):Operand->Bool
 |.tmp k=>k != t
 |_=>true
def Ws(vars:eQ)(o:Oper):Bool:=
 match o.dst with
 |some t=>vars.contains t
 |none=>false
def isDefer:Op->Bool
 |.defer _=>true
 |_=>false
def NB (tab:Nat->Ty) (N n:Nat) (ops:Array Oper) (vars:eQ):List Oper->Fr->Sig->Option (List Oper × Fr × Sig)
 |[],γ,O=>some ([],γ,O)
 | o::l,γ,O =>
  match AJ ops γ o with
  | some true =>
   match letOp vars o l with
   |some (t,T,x)=>
    match l with
    |[]=>none
    | _::l'=>if A2 (tab T).k || !decide (t < n) || !FD t x || !(ev γ x).told || (ev γ x).cells.length != (tab T).size || !C6 (ev γ x).cells then none else
      NB tab N n ops vars l' ((t,.ak (ev γ x).cells 0)::γ) O
   | none =>
    if Ws vars o||isDefer o.op then some (o::l,γ,O) else
    match jX tab γ O o.op with
    |some d=>if Ax n o then NB tab N n ops vars l (putD o.dst d γ) O else none
    |none=>
     match eopD tab γ O o.op with
     |some (d,U')=>if Ax n o then NB tab N n ops vars l (putD o.dst d γ) U' else none
     |none=>some (o::l,γ,O)
  |some false=>if EE N o.op&&Ax n o then NB tab N n ops vars l (putD o.dst .any γ) O else none
  |none=>none
section
variable {P:Program}{ro:Ro}{n:Nat}{ops:Array Oper}{Q:DX->St->Prop}{tab:Nat->Ty}(ht:AZ P tab)
include ht
theorem H7{γ:Fr}{O:Sig}{o:Oper}{d:D}(h:jX tab γ O o.op=some d)(w:World)(ρ:Operand->Value)(f:Nat):o.about P w ρ=some f->False:=by
 by_cases hc:∃c,o.op=.call c
 ·obtain⟨c,hc⟩:=hc;obtain⟨callee,args,ats⟩:=c;cases callee with
  |builtin b=>exact Bl hc rfl w ρ f
  |value x=>rw[hc]at h;cases h
  |invoke r m=>rw[hc]at h;cases h
 ·exact Ag (fun c e=>hc ⟨c,e⟩) w ρ f
theorem Ex{g:G}{O:Sig}{w:World}(hs:Sim P g O w){γ:Fr}{m:Nat}{a:Act}(hT:kA g γ m a.tmps){o:Oper}{d:D}(h:jX tab γ O o.op=some d):ORun P g O d (execOp a.eval o) w:=by
 unfold jX at h;split at h
 ·rename_i d' hd;cases h;exact Xv ht hs hT hd
 ·exact Vg ht hs hT h
theorem Gz{γ:Fr}{O U':Sig}{df:List DDf}{o:Oper}{rest:List Oper}{d:D}(hw:AJ ops γ o=some true)(he:eopD tab γ O o.op=some (d,U'))(ho:Ax n o=true)
  (h:au P ro n ops Q rest ⟨putD o.dst d γ,U',df⟩):au P ro n ops Q (o::rest) ⟨γ,O,df⟩:=by
 obtain⟨dst,op,type,pos,after,guard⟩:=o;cases op<;>simp only[eopD]at he<;>try (cases he;done)
 case store T x y=>
  unfold EP at he;split at he<;>(try (cases he;done));rename_i i off hx;split at he<;>(try (cases he;done));rename_i ds hi;obtain⟨hc,he⟩:=Br he;cases he;simp only[bR,eh,bZ,ee,cr,Bool.not_false,bne_eq_false_iff_eq,bh,Nat.not_lt]at hc;obtain⟨⟨⟨⟨c1,c2⟩,c3⟩,c4⟩,c5⟩:=hc;refine Fz (d:=.any) (U':=O.set i (.cells (ds.take off++(ev γ y).cells++ds.drop (off+(ev γ y).cells.length)))) hw (fun c e=>by cases e) (Ag fun c e=>by cases e) ?_ ho h;intro g w a hs hT;obtain⟨w',h1,h2⟩:=Ms ht hs hT c1 hx hi (by simpa using c2) c3 (by simpa using c4) c5;exact⟨g,w',undef,.inr ⟨by simp only[execOp,aP,h1,aJ];rfl,rfl⟩,.refl g,h2,trivial⟩
 case mapUpdate t m k x=>
  unfold updD at he;split at he<;>(try (cases he;done));rename_i kt et id hk hm;obtain⟨hc,he⟩:=Br he;split at he<;>(try (cases he;done));rename_i l hZ;split at he<;>(try (cases he;done));rename_i l' hp;cases he;refine Fz (d:=.any) (U':=O.set id (.map l')) hw (fun c e=>by cases e) (Ag fun c e=>by cases e) ?_ ho h;intro g w a hs hT;obtain⟨w',h1,h2⟩:=GP ht hs hk (by simpa using hc) hm hZ hp (As hT m) (As hT k) (As hT x);exact⟨g,w',undef,.inr ⟨by simp only[execOp,aP,h1,aJ];rfl,rfl⟩,.refl g,h2,trivial⟩
 case insert t m k x=>
  unfold updD at he;split at he<;>(try (cases he;done));rename_i kt et id hk hm;obtain⟨hc,he⟩:=Br he;split at he<;>(try (cases he;done));rename_i l hZ;split at he<;>(try (cases he;done));rename_i l' hp;cases he;refine Fz (d:=.any) (U':=O.set id (.map l')) hw (fun c e=>by cases e) (Ag fun c e=>by cases e) ?_ ho h;intro g w a hs hT;obtain⟨w',h1,h2⟩:=GP ht hs hk (by simpa using hc) hm hZ hp (As hT m) (As hT k) (As hT x);exact⟨g,w',undef,.inr ⟨by simp only[execOp,aP,h1,aJ];rfl,rfl⟩,.refl g,h2,trivial⟩
 case call c=>
  obtain⟨callee,args,ats⟩:=c;unfold bapD at he;split at he<;>(try (cases he;done));rename_i s x hc b6;simp only at hc b6 he;subst hc;obtain rfl:args=#[s,x]:=by apply da;simpa using b6
  unfold appD at he;split at he<;>(try (cases he;done));rename_i T T' es id fH fJ;obtain rfl:ats=#[T,T']:=by apply da;simpa using fH
  split at he<;>(try (cases he;done));rename_i e e' sz k new q1 q2 q3 q4;obtain⟨hc,he⟩:=Br he;cases he
  have fO:(tab T).k=.slice e:=by
   unfold GW at q1;split at q1<;>(try (cases q1;done));rename_i e0 h0;cases q1;exact h0
  have fN:(tab T').k=.slice e':=by
   unfold GW at q2;split at q2<;>(try (cases q2;done));rename_i e0 h0;cases q2;exact h0
  simp only[bR,eh,bZ,ee,cr,Bool.not_false,bne_eq_false_iff_eq,bh,Nat.not_lt,Bool.not_eq_false,aW,cR]at hc;obtain⟨⟨⟨⟨⟨⟨⟨c1,c2⟩,c3⟩,c4⟩,c5⟩,c6⟩,c7⟩,c8⟩:=hc;subst c2 c3;exact Fz (d:=.slice (es++new) (.tag id)) hw (fun c e=>by cases e) (Bl rfl rfl) (Ke (e':=e') ht fO fN c1 fJ q3 q4 c4 c5 c6 c7 c8) ho h
end
section
variable {P:Program}{ro:Ro}{n:Nat}{ops:Array Oper}{Q:DX->St->Prop}{tab:Nat->Ty}(ht:AZ P tab)
include ht
theorem Hr{t:Nat}{x:Operand}(h:FD t x=true):x≠.tmp t:=by
 rintro rfl
 simp[FD]at h
theorem NI{γ:Fr}{O:Sig}{df:List DDf}{rest:List Oper}{t T:Nat}{r:Option Operand}{ty:TypeId}{pos:String}{after:Array Edge}{guard:Option (Nat×Bool)}
  (hw:AJ ops γ ⟨some t,.makeMap T r,ty,pos,after,guard⟩=some true) (hr:r=none \/ ∃x kt et k v,r=some x/\(tab T).k=.map kt et/\ev γ x=.int k v) (c9:t<n)
  (h:∀i,O i=none->au P ro n ops Q rest ⟨(t,.map i)::γ,O.set i (.map []),df⟩) :
  au P ro n ops Q (⟨some t,.makeMap T r,ty,pos,after,guard⟩::rest) ⟨γ,O,df⟩:=by
 refine HS (mk:=fun i=>.map i) (d:=.map []) hw (fun c e=>by cases e) (Ag fun c e=>by cases e) (by simp[Ax,c9]) rfl ?_ h;intro g w a hs hT;refine⟨.map #[] 0,.map (some w.heap.size),?_,fun i hi=>⟨⟨w.heap.size, #[],0,by simp[G.bind],j1,rfl,by simp[kw]⟩,w.heap.size,by simp[G.bind],rfl⟩⟩;rcases hr with rfl|⟨x,kt,et,k,v,rfl,hk,hx⟩
 ·simp only[execOp,Instr.makeMap,newObj,aP,Sem.run,cZ,aJ];rfl
 ·have:=As hT x;rw[hx]at this;have hu:=j4 (J9 ht hk) w;simp only[execOp,Instr.makeMap,newObj,bx,Bo this,aP,hu,aJ,asInt,bi];rfl
omit ht in
theorem R8{γ:Fr}{O:Sig}{df:List DDf}{rest:List Oper}{x:Operand}{dst:Option Tmp}{ty:TypeId}{pos:String}{after:Array Edge}{guard:Option (Nat×Bool)}{t:Nat}{d:D}
  (hw:AJ ops γ ⟨dst,.panic x,ty,pos,after,guard⟩=some true) (hx:ev γ x=.iface t d) (h:Q (.panic (.iface t d)) ⟨γ,O,df⟩) :
  au P ro n ops Q (⟨dst,.panic x,ty,pos,after,guard⟩::rest) ⟨γ,O,df⟩:=by
 intro g w a r hr hs;unfold wpListIn;rw[AW hs.tmps hw,aG rfl];refine⟨fun f hf=>(Ag (fun c e=>by cases e) _ _ f hf).elim,?_⟩;have hv:=As hs.tmps x;rw[show ev (St.mk γ O df).γ x=.iface t d from hx]at hv;obtain⟨y,hy,fE⟩:=hv
 have d5:(execOp a.eval ⟨dst,.panic x,ty,pos,after,guard⟩).run P w=.halt (.panic (.iface t y)) w:=by
  simp only[execOp,hy,Instr.panic,aP];rfl
 rw[cX _ _ _ (fun c e=>by cases e),d5];exact⟨g,⟨γ,O,df⟩,.panic (.iface t d),.refl g,hs,⟨.iface t y,rfl,y,rfl,fE⟩,h⟩
end
section
variable (tab:Nat->Ty)(N n:Nat)(ops:Array Oper)(vars:eQ)(l:List Oper)(γ:List (Nat×D))(O:Sig)
def putX(o:Oper):Option D->Option (List Oper×Fr×Sig)
 |some d=>if Ws vars o then some (o::l,γ,O) else if Ax n o then NB tab N n ops vars l (putD o.dst d γ) O else none
 |none=>some (o::l,γ,O)
def putE(o:Oper):Option (D×Sig)->Option (List Oper×Fr×Sig)
 |some (d,U')=>if Ws vars o then some (o::l,γ,O) else if Ax n o then NB tab N n ops vars l (putD o.dst d γ) U' else none
 |none=>some (o::l,γ,O)
def skipX(o:Oper):Option (List Oper×Fr×Sig):=match EE N o.op&&Ax n o with
 |true=>NB tab N n ops vars l (putD o.dst .any γ) O
 |false=>none
@[simp] theorem putX_none(o:Oper):putX tab N n ops vars l γ O o none=some (o::l,γ,O):=rfl
@[simp] theorem putE_none(o:Oper):putE tab N n ops vars l γ O o none=some (o::l,γ,O):=rfl
@[simp] theorem skipX_eq(o:Oper):skipX tab N n ops vars l γ O o=match EE N o.op&&Ax n o with
 |true=>NB tab N n ops vars l (putD o.dst .any γ) O
 |false=>none:=rfl
variable (dst:Option Tmp)(ty:TypeId)(pos:String)(af:Array Edge)(gd:Option (Nat×Bool))
end
attribute [simp] Ws FD EP k8 CS IF Kd QF NS C6 D.flat
section
variable (tab:Nat->Ty)(O:Sig)(e T T' k t:Nat)(es new:eR)(o:Own)(x d:D)(h m l:Int)(k1 k2:IntKind)(c:Bool)(γ:List (Nat×D))(id:Nat)(fs:List (Nat×Nat))(parts:List (Nat×D))(kt:TyK)
@[simp] theorem sliceD_h:Jh tab (.slice e) x none (some (.int k1 h)) none=if A2 (tab e).k then none else match k8 x with
  |some es=>if 0<=h/\h<=es.length then some (.slice (es.take h.toNat) .no) else none
  |none=>none:=rfl
@[simp] theorem sliceD_l:Jh tab (.slice e) x (some (.int k1 l)) none none=if A2 (tab e).k then none else match k8 x with
  |some es=>if 0<=l/\l<=es.length/\es.all (fun c=>c.length==(tab e).size) then some (.slice (es.drop l.toNat) .no) else none
  |none=>none:=rfl
@[simp] theorem sliceD_m:Jh tab (.slice e) x none (some (.int k1 h)) (some (.int k2 m))=if A2 (tab e).k then none else match k8 x with
  |some es=>if h=m/\m=es.length then some (.slice es .clip) else none
  |none=>none:=rfl
@[simp] theorem SH:H1 tab O c (.map T e) x d=if A2 (tab e).k || !By (tab T).k d then none else match CS O x with
  | some l=>match D3 (tab T).k d l 0 with
   |some (some (_,d))=>some (if c then .tup [d,.bool true] else d)
   |some none=>match IF (tab e)with
    |some z=>some (if c then .tup [z,.bool false] else z)
    |none=>none
   |none=>none
  |none=>none:=rfl
@[simp] theorem simpleKey_i:By (.int k1) (.int k2 h)=true:=rfl
@[simp] theorem simpleKey_s(s:List UInt8):By .str (.str s)=true:=rfl
@[simp] theorem mostD_t:MI true (.int k1 h) (.int k2 m)=some (.int k1 (if m>h then m else h)):=rfl
@[simp] theorem mostD_f:MI false (.int k1 h) (.int k2 m)=some (.int k1 (if m<h then m else h)):=rfl
@[simp] theorem sliceEl_s:GW (.slice e)=some e:=rfl
@[simp] theorem updD_m:updD tab O (.map T e) (.map id) x d=if !By (tab T).k x then none else match O id with
  |some (.map l)=>match Dt (tab T).k x d l with
   |some l'=>some (.any,O.set id (.map l'))
   |none=>none
  |_=>none:=rfl
@[simp] theorem appD_t:appD tab O [T,T'] (.slice es (.tag id)) x=match GW (tab T).k,GW (tab T').k,O id,k8 x with
  | some e,some _,some (.tail sz k),some new =>
   if A2 (tab e).k||sz != (tab e).size||k != es.length||!es.all (fun c=>c.length==(tab e).size)||!new.all (fun c=>c.length==(tab e).size)||!new.all C6 ||
     decide (140737488355328<(es.length+new.length)*(tab e).bytes)||decide (9223372036854775807<es.length+new.length) then none else
    some (.slice (es++new) (.tag id),O.set id (.tail (tab e).size (es.length+new.length)))
  |_,_,_,_=>none:=rfl
@[simp] theorem lenMapD_s:Ie tab γ O [t] [.tmp k]=(match (tab t).k with
  |.map _ _=>(CS O (getD γ k)).map fun l=>.int .i64 l.length
  |_=>none):=rfl
end
section
variable {P:Program}{ro:Ro}{n:Nat}{ops:Array Oper}{Q:DX->St->Prop}{tab:Nat->Ty}{df:List DDf}(ht:AZ P tab)
include ht
theorem R9{γ:Fr}{O:Sig}{rest:List Oper}{t T T':Nat}{x:Operand}{ty:TypeId}{pos:String}{after:Array Edge}{guard:Option (Nat×Bool)}{es:eR}{o:Own}{e:Nat}(hk:(tab T).k=.slice e)
  (hw:AJ ops γ ⟨some t,.binOp .eql T x (.const (.slice none 0 0)) T',ty,pos,after,guard⟩=some true) (hx:ev γ x=.slice es o) (c9:t<n)
  (h:∀b,(b=true->es=[])->au P ro n ops Q rest ⟨(t,.bool b)::γ,O,df⟩) :
  au P ro n ops Q (⟨some t,.binOp .eql T x (.const (.slice none 0 0)) T',ty,pos,after,guard⟩::rest) ⟨γ,O,df⟩:=by
 intro g w a r hr hs;unfold wpListIn;rw[AW hs.tmps hw,aG rfl];refine⟨fun f hf=>(Ag (fun c e=>by cases e) _ _ f hf).elim,?_⟩;have hv:=As hs.tmps x;rw[show ev (St.mk γ O df).γ x=.slice es o from hx]at hv;obtain⟨b,cap,h1,h2,h3,_⟩:=hv
 have d5:∃c:Bool,(c=true->es=[])/\(execOp a.eval ⟨some t,.binOp .eql T x (.const (.slice none 0 0)) T',ty,pos,after,guard⟩).run P w=.ok (.value (.bool c)) w:=by
  refine⟨b.isNone,fun hb=>?_,?_⟩
  ·rcases h3 with h3|⟨sz,b',o,rfl,_⟩
   ·exact h3
   ·cases hb
  ·have:=run_equal_slice_nil (P:=P) w T e b es.length cap (AR ht hk);have ff:a.eval x=.slice b es.length cap:=h1;have hg:(eqGuard .eql T x (.const (.slice none 0 0)) (a.eval x) (.slice none 0 0)).run P w=.ok () w:=by rw[ff];rfl
   simp only[execOp,aP,show a.eval (.const (.slice none 0 0))=.slice none 0 0 from rfl,hg,aJ];simp only[binOp,aP,ff,this,aJ];rfl
 obtain⟨c,hc,d5⟩:=d5;rw[cX _ _ _ (fun c e=>by cases e),d5];exact h c hc g w _ r hr (hs.put (o:=⟨some t,.binOp .eql T x (.const (.slice none 0 0)) T',ty,pos,after,guard⟩) (.refl g) hs.sim (d:=.bool c) rfl (by simp[Ax,c9]))
theorem FI{γ:Fr}{O:Sig}{rest:List Oper}{t T T' ty e e':Nat}{s x:Operand}{pos:String}{after:Array Edge}{guard:Option (Nat×Bool)}{es:eR}
  (hw:AJ ops γ ⟨some t,(cA s x T T'),ty,pos,after,guard⟩=some true) (c9:t<n)
  (hk:(tab T).k=.slice e) (eW:(tab T').k=.slice e') (he:A2 (tab e).k=false) (h1:k8 (ev γ s)=some es) (h2:k8 (ev γ x)=some [])
  (h:au P ro n ops Q rest ⟨(t,ev γ s)::γ,O,df⟩) :
  au P ro n ops Q (⟨some t,(cA s x T T'),ty,pos,after,guard⟩::rest) ⟨γ,O,df⟩:=by
 refine Fz (d:=ev γ s) (U':=O) hw (fun c e=>by cases e) (Bl rfl rfl) ?_ (by simp[Ax,c9]) h;intro g w a hs hT;obtain⟨i,z,t1,t2,t3,t4,t5,t6,t7⟩:=Bx ht hk eW he;obtain⟨sa,sc,r1,r2,r3⟩:=CL h1 (As hT s);obtain⟨xa,xc,q1,q2,q3⟩:=CL h2 (As hT x);refine⟨g,w,a.eval s,.inl (At ?_),.refl g,hs,As hT s⟩;rw[r1,q1];have:=Bu (ty:=ty) t1 t2 t3 (w:=w) (w2:=w) (base:=sa) (xa:=xa) (n:=es.length) (cap:=sc) (m:=0) (xc:=xc) (news:=[]) (Aq j1 (.inl rfl)) j0 (fun b _=>by simp[storeCells,Sem.run]) (fun _=>rfl);simpa using this
theorem K2{γ:Fr}{O:Sig}{rest:List Oper}{t T T' ty e e':Nat}{s x:Operand}{pos:String}{after:Array Edge}{guard:Option (Nat×Bool)}{new:eR}
  (hw:AJ ops γ ⟨some t,(cA s x T T'),ty,pos,after,guard⟩=some true) (c9:t<n)
  (hk:(tab T).k=.slice e) (eW:(tab T').k=.slice e') (he:A2 (tab e).k=false) (h1:ev γ s=.aj) (h2:k8 (ev γ x)=some new)
  (hlen':∀c∈new,c.length=(tab e).size) (hb:new.length*(tab e).bytes<=140737488355328) (hm:new.length<=9223372036854775807)
  (h:∀i,O i=none->au P ro n ops Q rest ⟨(t,.slice new (.tag i))::γ,O.set i (.tail (tab e).size new.length),df⟩) :
  au P ro n ops Q (⟨some t,(cA s x T T'),ty,pos,after,guard⟩::rest) ⟨γ,O,df⟩:=
 Gi (es:=[]) ht hw c9 hk eW he (.inl ⟨h1,rfl⟩) h2 j1 hlen' (by simpa using hb) (by simpa using hm) (fun i hi=>by simpa using h i hi)
theorem Rb{γ:Fr}{O:Sig}{rest:List Oper}{t T T' ty e e':Nat}{s x:Operand}{pos:String}{after:Array Edge}{guard:Option (Nat×Bool)}{new:eR}
  (hw:AJ ops γ ⟨some t,(cA s x T T'),ty,pos,after,guard⟩=some true) (c9:t<n)
  (hk:(tab T).k=.slice e) (eW:(tab T').k=.slice e') (he:A2 (tab e).k=false) (h1:ev γ s=.aj) (h2:k8 (ev γ x)=some new)
  (hlen':∀c∈new,c.length=(tab e).size) (hb:new.length*(tab e).bytes<=140737488355328) (hm:new.length<=9223372036854775807)
  (h:au P ro n ops Q rest ⟨(t,.slice new .no)::γ,O,df⟩) :
  au P ro n ops Q (⟨some t,(cA s x T T'),ty,pos,after,guard⟩::rest) ⟨γ,O,df⟩:=
 K2 ht hw c9 hk eW he h1 h2 hlen' hb hm fun i hi=>C9 (s':=⟨(t,.slice new .no)::γ,O,df⟩) (fun g w a hs=>⟨g,.refl g,⟨hs.sim.sub ((Sub.refl _).set hi),⟨hs.tmps.1,fun k=>by
  have:=hs.tmps.2 k
  rw[A8]at this⊢
  by_cases hk:k=t
  ·rw[aG hk]at this⊢
   exact Cc _ _ _ _ this
  ·rw[aE hk]at this⊢
   exact this⟩,hs.df⟩⟩) h
theorem Cj{γ:Fr}{O:Sig}{rest:List Oper}{t T T' ty e e':Nat}{s x:Operand}{pos:String}{after:Array Edge}{guard:Option (Nat×Bool)}{es new:eR}
  (hw:AJ ops γ ⟨some t,(cA s x T T'),ty,pos,after,guard⟩=some true) (c9:t<n)
  (hk:(tab T).k=.slice e) (eW:(tab T').k=.slice e') (he:A2 (tab e).k=false) (h1:ev γ s=.slice es .clip) (h2:k8 (ev γ x)=some new) (hne:new≠[])
  (hlen:∀c∈es,c.length=(tab e).size) (hlen':∀c∈new,c.length=(tab e).size) (hb:(es.length+new.length)*(tab e).bytes<=140737488355328) (hm:es.length+new.length<=9223372036854775807)
  (h:∀i,O i=none->au P ro n ops Q rest ⟨(t,.slice (es++new) (.tag i))::γ,O.set i (.tail (tab e).size (es.length+new.length)),df⟩) :
  au P ro n ops Q (⟨some t,(cA s x T T'),ty,pos,after,guard⟩::rest) ⟨γ,O,df⟩:=
 Gi ht hw c9 hk eW he (.inr ⟨h1,hne⟩) h2 hlen hlen' hb hm h
end
section
variable {P:Program}{ro:Ro}{n:Nat}{ops:Array Oper}{Q:DX->St->Prop}{rest:List Oper}{s:St}
theorem Ef{fop:Operand}{args:Array Operand}{ats:Array TypeId}{dst:Option Tmp}{ty:TypeId}{pos:String}{after:Array Edge}{guard:Option (Nat×Bool)}{f:Nat}{first cap az:eO}{R:DE->Sig->Prop}
  (hw:AJ ops s.γ ⟨dst,(cv fop args ats),ty,pos,after,guard⟩=some true)
  (hf:ev s.γ fop=.func (.func f) first cap) (h:ar P f az s.O R) (ha:WkL (first++args.toList.map (ev s.γ)++cap) az)
  (ho:Ax n ⟨dst,(cv fop args ats),ty,pos,after,guard⟩=true)
  (fk:∀d U',R (.ret d) U'->au P ro n ops Q rest { s with γ:=putD dst d s.γ,O:=U' })
  (fp:∀d U',R (.panic d) U'->Q (.panic d) { s with O:=U' }) :
  au P ro n ops Q (⟨dst,(cv fop args ats),ty,pos,after,guard⟩::rest) s:=
 Ve hw hf (h.wk ha) ho fk fp
end
def dwp_join{P:Program}{ro:Ro}{n:Nat}{Q:DX->St->Prop}{c y:Code}{γ:Fr}{O:Sig}{df:List DDf}(t:Nat)(d:D)
  (h1:DWp P ro n c (fun e s'=>e=.normal/\Wk P n s' ⟨(t,d)::γ,O,df⟩) ⟨γ,O,df⟩) (h2:DWp P ro n y Q ⟨(t,d)::γ,O,df⟩):DWp P ro n c (ka (DWp P ro n y Q) Q) ⟨γ,O,df⟩:=
 EH h1 fun x s ⟨e,hw⟩=>by subst e;exact FH hw h2
@[simp] def TellsS(γ:Fr):eQ->Fr->Prop
 |_,[]=>True
 |seen,p::r=>(if p.1∈seen then True else WkD (getD γ p.1) p.2)/\TellsS γ (p.1::seen) r
def TellsS.get{γ:Fr}: ∀{V':Fr}{seen:eQ},TellsS γ seen V'->∀t,t∉seen->WkD (getD γ t) (getD V' t)
 |[],_,_,t,_=>EK _
 | (i,d)::r,seen,h,t,hs=>by
  rw[A8]
  by_cases ht:t=i
  ·subst ht;rw[aG rfl];have:=h.1;simpa[hs] using this
  ·rw[aE ht];exact TellsS.get h.2 t (by simp[ht,hs])
def FM{P:Program}{n:Nat}{γ V':Fr}{O U':Sig}{df:List DDf}(h:TellsS γ [] V')(hZ:Sub U' O):DX.normal=.normal/\Wk P n { γ,O,df } { γ:=V',O:=U',df }:=
 ⟨rfl,fun g w a hs=>⟨g,.refl g,⟨hs.sim.sub hZ,⟨hs.tmps.1,fun t=>h.get t j1 g _ (hs.tmps.2 t)⟩,hs.df⟩⟩⟩
def PE{P:Program}{n:Nat}{fn:Func}{R:DE->Sig->Prop}{γ:Fr}{O U':Sig}{d:D}(hZ:Sub U' O)(h:resD fn γ=some d)(hR:R (.ret d) U'):DR P n fn R .ret ⟨γ,O,[]⟩:=
 ⟨⟨γ,U',[]⟩,fun g _ _ hs=>⟨g,.refl g,⟨hs.sim.sub hZ,hs.tmps,hs.df⟩⟩,rfl,d,E3 h,Fg hR⟩
def Ow{P:Program}{n:Nat}{fn:Func}{R:DE->Sig->Prop}{γ:Fr}{O U':Sig}{d:D}(hZ:Sub U' O)(h:resD fn γ=some d)(hR:R (.ret d) U'):DR P n fn R .normal ⟨γ,O,[]⟩:=
 ⟨⟨γ,U',[]⟩,fun g _ _ hs=>⟨g,.refl g,⟨hs.sim.sub hZ,hs.tmps,hs.df⟩⟩,rfl,d,E3 h,Fg hR⟩
def V8{P:Program}{n:Nat}{fn:Func}{R:DE->Sig->Prop}{γ:Fr}{O U':Sig}{es:eR}{o:Own}{t:Nat}(hZ:Sub U' O)(hr:fn.results=#[.tmp t])(h:getD γ t=.slice es o)(hR:R (.ret (.slice es .no)) U'):DR P n fn R .ret ⟨γ,O,[]⟩:=
 ⟨⟨[(t,.slice es .no)],U',[]⟩,VH (by simp[h]) hZ,rfl,_,E3 (by simp[resD,hr]),Fg hR⟩
@[simp] def resL (tab:Nat->Ty) (O:Sig) (γ:Fr):List ResultVar->Option eO
 |[]=>some []
 |.tmp t::r=>match resL tab O γ r with
  |some ds=>some (getD γ t::ds)
  |none=>none
 |.cell t T::r=>match Kj (tab T) O (getD γ t),resL tab O γ r with
  |some d,some ds=>some (d::ds)
  |_,_=>none
@[simp] def P2:eO->D
 |[d]=>d
 |ds=>.tup ds
def LN{P:Program}{tab:Nat->Ty}(ht:AZ P tab){g:G}{n:Nat}{γ:Fr}{O:Sig}{tmps:Array Value}{w:World}(hs:Sim P g O w)(hT:kA g γ n tmps): ∀{l:List ResultVar}{ds:eO},resL tab O γ l=some ds->
  ∃vs,(l.mapM (fun (x:ResultVar)=>match x with|.tmp t=>pure (tmps.getD t undef)|.cell a t=>(do loadVar t (<-asAddr (tmps.getD a undef)):Sem Value))).run P w=.ok vs w/\jE g ds vs
 |[],ds,h=>by
  simp only[resL]at h;cases h;exact⟨[],j1,rfl⟩
 |.tmp t::r,ds,h=>by
  simp only[resL]at h;split at h<;>(try (cases h;done));rename_i ds' hd;cases h;obtain⟨vs,h1,h2⟩:=LN ht hs hT hd;refine⟨tmps.getD t undef::vs,?_,_,_,rfl,hT.2 t,h2⟩;simp only[eG,aP,bi,aJ,h1]
 | .cell t T::r,ds,h=>by
  simp only[resL]at h;split at h<;>(try (cases h;done));rename_i d ds' hd fR;cases h;obtain⟨vs,h1,h2⟩:=LN ht hs hT fR;obtain⟨hk,hd⟩:=Br hd;obtain⟨v,hv,hr⟩:=MU (ht T) (Ai (by simpa using hk)) hs (hT.2 t) hd
  have fi:(do loadVar T (<-asAddr (tmps.getD t undef)):Sem Value).run P w=.ok v w:=by
   rw[<-hv]
   have hp:∃a,tmps.getD t undef=.pointer (some a):=by
    have:=hT.2 t;cases hg:getD γ t<;>rw[hg]at hd this<;>simp only[Kk]at hd<;>try (cases hd;done)
    ·obtain⟨b,o,e,_⟩:=this;exact⟨_,e⟩
    ·obtain⟨b,_,e⟩:=this;exact⟨_,e⟩
   obtain⟨a,ha⟩:=hp;rw[ha];simp[Instr.loadAt,Instr.sureAddr,asAddr]
  refine⟨v::vs,?_,_,_,rfl,hr,h2⟩;simp only[eG,aP,fi,bi,aJ,h1]
def En{P:Program}{tab:Nat->Ty}(ht:AZ P tab){n:Nat}{fn:Func}{s:St}{ds:eO}(h:resL tab s.O s.γ fn.results.toList=some ds):NZ P n fn s (P2 ds):=by
 intro g a w hs;obtain⟨vs,h1,h2⟩:=LN ht hs.sim hs.tmps h;have hl:=jE.length h2
 have hv:∃v,(results fn a.tmps).run P w=.ok v w/\v=(if h:vs.toArray.size=1 then vs.toArray[0] else .tuple vs.toArray):=by
  refine⟨_,?_,rfl⟩;unfold results;simp only[aP,Array.mapM_eq_mapM_toList,Sem.run_map]
  erw [h1]
  simp only[aJ,bi]
 obtain⟨v,hv,fG⟩:=hv;refine⟨v,hv,?_⟩;subst fG
 match ds,vs,h2,hl with
 |[],[],_,_=>exact⟨[],rfl,rfl⟩
 |[d],[v],h2,_=>obtain⟨_,_,e,h3,_⟩:=h2;cases e;exact h3
 |d::d'::ds,v::v'::vs,h2,_=>exact⟨_,j1,h2⟩
def HQ{P:Program}{tab:Nat->Ty}(ht:AZ P tab){n:Nat}{fn:Func}{R:DE->Sig->Prop}{γ:Fr}{O U':Sig}{ds:eO}{d:D}(h:resL tab O γ fn.results.toList=some ds)(hw:WkD (P2 ds) d)(hZ:Sub U' O)(hR:R (.ret d) U'):DR P n fn R .ret ⟨γ,O,[]⟩:=
 ⟨_,Wk.refl P n _,rfl,_,En ht h,.ret d,U',hw,hZ,hR⟩
def Sim.retell{P:Program}{g:G}{O:Sig}{w:World}(hs:Sim P g O w){j:Nat}{ds ds':eO}(hj:O j=some (.cells ds))(h:∀vs,jE g ds vs->jE g ds' vs):Sim P g (O.set j (.cells ds')) w:=by
 have b8:∀k,blk g (O.set j (.cells ds')) k=blk g O k:=by
  intro k
  by_cases hk:k=j
  ·subst hk;simp[blk,Sig.set,hj]
  ·simp[blk,Sig.set,hk]
 exact {
  imm:=hs.imm
  keep:=hs.keep
  obj:=fun k o hk=>by
   by_cases h1:k=j
   ·subst h1
    rw[w6]at hk;cases hk
    obtain⟨b,vs,ty,a1,a2,a3⟩:=hs.obj _ _ hj
    exact⟨b,vs,ty,a1,a2,h _ a3⟩
   ·rw[w7 _ _ h1]at hk;exact hs.obj k o hk
  inj:=fun a b c h1 h2=>hs.inj a b c (by rw[<-b8];exact h1) (by rw[<-b8];exact h2)
  free:=fun k c hk=>by
   rw[b8]at hk
   obtain⟨h1,h2⟩:=hs.free k c hk
   refine⟨h1,fun hh=>h2 fun o ho=>?_⟩
   by_cases h3:k=j
   ·subst h3;rw[hj]at ho;cases ho;rfl
   ·exact hh o (j2 h3 ho)
  htop:=fun k sz n m hk hm=>by
   by_cases h1:k=j
   ·subst h1;rw[w6]at hk;cases hk
   ·rw[w7 _ _ h1]at hk;exact hs.htop k sz n m hk hm
  hdom:=hs.hdom
  io:=hs.io
  tab:=hs.tab
  fin:=hs.fin }
def P4{g:G}{d:D}: ∀{ds:eO}{vs:List Value} (k:Nat),jE g ds vs->(∀v,vs[k]? = some v->Rep g d v)->jE g (ds.set k d) vs
 |[],vs,k,h,_=>by simpa using h
 |x::ds,_,0,⟨v,r,e,h1,h2⟩,h=>by subst e;exact⟨v,r,rfl,h v rfl,h2⟩
 |x::ds,_,k+1,⟨v,r,e,h1,h2⟩,h=>by subst e;exact⟨v,r,rfl,h1,P4 k h2 fun u hu=>h u (by simpa using hu)⟩
def Fy{P:Program}{ro:Ro}{n:Nat}{Q:DX->St->Prop}{γ:Fr}{O:Sig}{df:List DDf}{c:Code}(j off sz:Nat){ds:eO}(hj:O j=some (.cells ds))(ho:ds[off]? = some .aj)
  (h:∀i,O i=none->DWp P ro n c Q ⟨γ,(O.set i (.tail sz 0)).set j (.cells (ds.set off (.slice [] (.tag i)))),df⟩):DWp P ro n c Q ⟨γ,O,df⟩:=
 ND fun g w a hs=>by
  obtain⟨i,hi,hZ⟩:=hs.sim.fresh;change O i=none at hZ;obtain⟨h1,h2⟩:=hs.sim.tagNil (sz:=sz) hi hZ;have fP:j≠i:=fun e=>by rw[e]at hj;rw[hZ]at hj;cases hj
  have h3:Sim P (g.put i 0 0 0 [] (.slice none 0 0)) ((O.set i (.tail sz 0)).set j (.cells (ds.set off (.slice [] (.tag i))))) w:=by
   obtain⟨b,vs,ty,a1,a2,a3⟩:=hs.sim.obj _ _ hj
   have hv:∀v,vs.toList[off]? = some v->v=.slice none 0 0:=fun v hv=>by
    have:=jE.get a3 off;rw[ho,hv]at this;exact this
   have eZ:O.set i (.tail sz 0) j=some (.cells ds):=by rw[w7 _ _ fP];exact hj
   have hb:=h2.obj _ _ eZ
   have e:∀vs',jE (g.put i 0 0 0 [] (.slice none 0 0)) ds vs'->jE (g.put i 0 0 0 [] (.slice none 0 0)) (ds.set off (.slice [] (.tag i))) vs':=by
    intro vs' hr;refine P4 off hr fun v fi=>?_;have:=jE.get hr off;rw[ho,fi]at this;rw[show v=.slice none 0 0 from this];exact I7
   exact h2.retell eZ e
  exact⟨_,⟨γ,(O.set i (.tail sz 0)).set j (.cells (ds.set off (.slice [] (.tag i)))),df⟩,h1,⟨h3,hs.tmps.mono h1,hs.df.mono h1⟩,h i hZ⟩
end Go.DL
