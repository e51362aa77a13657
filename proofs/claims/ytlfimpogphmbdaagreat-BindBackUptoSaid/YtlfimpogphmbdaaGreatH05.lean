/- A part of the proof. -/
import Derived.Test.YtlfimpogphmbdaaGreatH04
import Derived.Laws.Tables
import Derived.Laws.Cover3
set_option linter.all false
namespace Go.DL
open Go
def K4(tab:Nat->Ty):TyK->D->Option D->Option D->Option D->Option D
 |.slice e,x,none,some (.int _ h),none=>if A5 (tab e).k then none else match kz x with
  |some es=>if 0<=h/\h<=es.length then some (.slice (es.take h.toNat) .no) else none
  |none=>none
 |.slice e,x,some (.int _ l),none,none=>if A5 (tab e).k then none else match kz x with
  |some es=>if 0<=l/\l<=es.length/\es.all (fun c=>c.length==(tab e).size) then some (.slice (es.drop l.toNat) .no) else none
  |none=>none
 |.slice e,x,none,some (.int _ h),some (.int _ m)=>if A5 (tab e).k then none else match kz x with
  |some es=>if h=m/\m=es.length then some (.slice es .clip) else none
  |none=>none
 |_,_,_,_,_=>none
def keyB:TyK->D->D->Option Bool
 |.int _,.int k a,.int k' b=>if k=k' then some (a==b) else none
 |.str,.str a,.str b=>some (a==b)
 |_,_,_=>none
def Du(kt:TyK)(k:D):List (D×D)->Nat->Option (Option (Nat×D))
 |[],_=>some none
 |(k',d)::r,i=>match keyB kt k k' with
  |some true=>some (some (i,d))
  |some false=>Du kt k r (i+1)
  |none=>none
def CQ(V:Sig):D->Option (List (D×D))
 |.ay=>some []
 |.cmap ks vs=>some (ks.zip vs)
 |.map id=>match V id with
  |some (.map l)=>some l
  |_=>none
 |_=>none
def HD(ty:Ty):Option D:=if ty.agg then some (.agg ty.zero) else ty.zero[0]?
def Bx:TyK->D->Bool
 |.int _,.int _ _=>true
 |.str,.str _=>true
 |_,_=>false
def Hr (tab:Nat->Ty) (V:Sig) (ok:Bool):TyK->D->D->Option D
 | .map kt et,x,k=>if A5 (tab et).k || !Bx (tab kt).k k then none else match CQ V x with
  | some l=>match Du (tab kt).k k l 0 with
   |some (some (_,d))=>some (if ok then .tup [d,.bool true] else d)
   |some none=>match HD (tab et)with
    |some z=>some (if ok then .tup [z,.bool false] else z)
    |none=>none
   |none=>none
  |none=>none
 |_,_,_=>none
def L7(tab:Nat->Ty)(t:Nat)(ok:Bool):D->Option D
 | .iface t' d=>if A5 (tab t).k || Ht (tab t).k then none else
  if t'=t then some (if ok then .tup [d,.bool true] else d) else
  if ok then match HD (tab t)with
   |some z=>some (.tup [z,.bool false])
   |none=>none
  else none
 | .niliface=>if A5 (tab t).k || Ht (tab t).k then none else
  if ok then match HD (tab t)with
   |some z=>some (.tup [z,.bool false])
   |none=>none
  else none
 |_=>none
def Vu (tab:Nat->Ty) (fs:List (Nat × Nat)):fQ->Fr->Option fQ
 |cells,[]=>some cells
 |cells,(i,d)::r=>match fs[i]? with
  | some (off,ft)=>if d.told && d.cells.length==(tab ft).size && decide (off+d.cells.length<=cells.length) then
    Vu tab fs (cells.take off++d.cells++cells.drop (off+d.cells.length)) r else none
  |none=>none
def PR(tab:Nat->Ty)(t:Nat)(parts:Fr):TyK->Option D
 |.struct fs=>if fs.all (fun p=> !A5 (tab p.2).k) then(Vu tab fs (tab t).zero parts).map .agg else none
 |_=>none
def Ou:Bool->D->D->Option D
 |true,.int k a,.int _ b=>some (.int k (if b>a then b else a))
 |false,.int k a,.int _ b=>some (.int k (if b<a then b else a))
 |_,_,_=>none
def IP(tab:Nat->Ty)(γ:Fr)(V:Sig):List TypeId->List Operand->Option D
 |[t],[x]=>match (tab t).k with
  |.map _ _=>(CQ V (ev γ x)).map fun l=>.int .i64 l.length
  |_=>none
 |_,_=>none
def H0(tab:Nat->Ty)(γ:Fr)(V:Sig):Callee->List TypeId->List Operand->Option D
 |.builtin .len,ts,xs=>IP tab γ V ts xs
 |.builtin .max,_,[a,b]=>Ou true (ev γ a) (ev γ b)
 |.builtin .min,_,[a,b]=>Ou false (ev γ a) (ev γ b)
 |_,_,_=>none
def lk(tab:Nat->Ty)(γ:Fr)(V:Sig):Op->Option D
 |.slice t x lo hi mx=>K4 tab (tab t).k (ev γ x) (lo.map (ev γ)) (hi.map (ev γ)) (mx.map (ev γ))
 |.lookup t x k ok=>Hr tab V ok (tab t).k (ev γ x) (ev γ k)
 |.typeAssert x _ t ok=>L7 tab t ok (ev γ x)
 |.build t parts=>PR tab t (parts.toList.map fun p=>(p.1,ev γ p.2)) (tab t).k
 |.call c=>H0 tab γ V c.callee c.argTypes.toList c.args.toList
 |_=>none
def kl.take{g:G}{b sz:Nat}: ∀{es:fV}{o:Nat} (k:Nat),kl g b sz o es->kl g b sz o (es.take k)
 |[],_,k,_=>by simp[kl]
 |e::es,o,0,_=>by simp[kl]
 |e::es,o,k+1,⟨h1,h2⟩=>by simpa[kl] using⟨h1,kl.take k h2⟩
def kl.drop{g:G}{b sz:Nat}: ∀{es:fV}{o:Nat} (k:Nat),kl g b sz o es->kl g b sz (o+k*sz) (es.drop k)
 |[],_,k,_=>by simp[kl]
 |e::es,o,0,h=>by simpa using h
 |e::es,o,k+1,⟨_,h2⟩=>by
  have:=kl.drop k h2;simpa[show o+sz+k*sz=o+(k+1)*sz by rw[cK];omega] using this
def PL{z:Value}(h:aggV z=false):z.cells=#[z]:=by
 cases z<;>first|rfl|cases h
def Jq{P:Program}{tab:Nat->Ty}(ht:BC P tab){t:Nat}{d:D}(hk:A5 (tab t).k=false)(h:HD (tab t)=some d)(w:World): ∃z,(zeroValue t).run P w=.ok z w /\ ∀g,Rep g d z:=by
 obtain⟨inf,desc,z,h1,h2,h3,h4,h5,h6,h7,h8,h9,gr⟩:=Db (ht t) (Aj hk);refine⟨z,by simp[zeroValue,typeInfo,program,h1,h7,Sem.run],fun g=>?_⟩;unfold HD at h;cases hz:aggV z with
 | true =>
  rw[hz]at gr;rw[aS gr]at h;cases h;cases z<;>simp only[aggV]at hz<;>try (cases hz;done)
  rename_i cs;refine⟨cs.toList,k7,?_⟩;rw[h9];simp only[Value.cells]
  exact Bs k7 fun j x v e1 e2=>by
   rw[bN,e2]at e1;cases e1;exact F1 g v
 |false=>
  rw[hz]at gr;rw[aQ (by simp[gr]),h9,PL hz]at h;have h:some (Cu z)=some d:=h;cases h;exact F1 g _
def BU{g:G}{k:IntKind}{n:Int}{v:Value}(h:Rep g (.int k n) v):v=.int k n:=h
def Gf{g:G}{s:List UInt8}{v:Value}(h:Rep g (.str s) v):v=.string ⟨s.toArray⟩:=h
def Ru{kt:TyK}{desc:TypeDesc}{k k':D}{b:Bool}{g:G}{v u:Value}(hd:KOK desc kt)(h:keyB kt k k'=some b)(hv:Rep g k v)(hu:Rep g k' u):Instr.sameNow desc v u=some b:=by
 unfold keyB at h;split at h
 ·rename_i k1 a k2 b';rw[BU hv,BU hu];cases desc<;>simp[KOK]at hd;simp only[Instr.sameNow];exact h
 ·rename_i a b';rw[Gf hv,Gf hu];cases desc<;>simp[KOK]at hd;cases h;simp only[Instr.sameNow,bJ];rw[aW];show(a.toArray==b'.toArray)=true ↔ _;simp
 ·cases h
def Ez{kt:TyK}{desc:TypeDesc}{k:D}{g:G}{v:Value}(hd:KOK desc kt)(hv:Rep g k v): ∀{l:List (D×D)}{es:List MapEntry}{i:Nat}{r:Option (Nat×D)},lL g l es->Du kt k l i=some r->
  ∃r',Instr.findNow desc v es i=some r'/\(match r,r' with
   |none,none=>True
   |some (j,d),some (j',x)=>j=j'/\Rep g d x/\i<=j /\ ∃e,es[j-i]? = some e/\Rep g k e.key/\e.val=x
   |_,_=>False)
 |[],es,i,r,h,hf=>by
  simp only[Du,bJ]at hf;subst hf;rw[show es=[] from h];exact⟨none,rfl,trivial⟩
 | (k',d)::l,es,i,r,⟨e,rest,he,h1,h2,h3⟩,hf=>by
  subst he;simp only[Du]at hf;split at hf
  ·rename_i hk;cases hf;refine⟨some (i,e.val),?_,rfl,h2,bn _,e,k7,?_,rfl⟩
   ·simp only[Instr.findNow,Ru hd hk hv h1]
   ·have:k=k':=by
     unfold keyB at hk;split at hk
     ·split at hk
      ·rename_i e1;simp at hk;rw[e1,hk]
      ·cases hk
     ·simp at hk;rw[hk]
     ·cases hk
    rw[this];exact h1
  ·rename_i hk;obtain⟨r',e1,e2⟩:=Ez hd hv (i:=i+1) h3 hf;refine⟨r',?_,?_⟩
   ·simp only[Instr.findNow,Ru hd hk hv h1];exact e1
   ·cases r with
    |none=>cases r'<;>simpa using e2
    | some p =>
     obtain⟨j,d⟩:=p;cases r' with
     |none=>exact e2
     |some q=>
      obtain⟨j',x⟩:=q;obtain⟨a1,a2,a3,e',a4,a5,a6⟩:=e2;refine⟨a1,a2,k0,e',?_,a5,a6⟩;rw[show j-i=(j-(i+1))+1 by omega];simpa using a4
  ·cases hf
def P4{P:Program}{tab:Nat->Ty}{g:G}{fs:List (Nat×Nat)}{places:List (Nat×Nat)}(hp:places=fs.map fun p=>(p.1,(tab p.2).size)): ∀{parts:Fr}{ps:List (Nat×Value)}{cells out:fQ}{cs:Array Value},
  Vu tab fs cells parts=some out->parts.map (·.1)=ps.map (·.1)->kI g (parts.map (·.2)) (ps.map (·.2))->kI g cells cs.toList->
  ∃r,Instr.fill (places.toArray[·]?) cs ps=some r/\kI g out r.toList
 |[],ps,cells,out,cs,h,hm,hr,hc=>by
  have:ps=[]:=by simpa using hm.symm
  subst this;cases h;exact⟨cs,rfl,hc⟩
 |(i,d)::parts,[],_,_,_,h,hm,_,_=>by simp at hm
 | (i,d)::parts,(i',v)::ps,cells,out,cs,h,hm,hr,hc=>by
  simp only[bg,da]at hm;obtain⟨rfl,hm⟩:=hm;obtain⟨v',r',e1,h1,h2⟩:=hr;simp only[bg,da]at e1;obtain⟨rfl,rfl⟩:=e1;simp only[Vu]at h;split at h
  ·rename_i off ft hf;split at h<;>(try (cases h;done));rename_i f0;simp only[aN,cL,aP]at f0;obtain⟨⟨c1,c2⟩,c3⟩:=f0;have gN:=Gg h1 c1;have hl:=kI.length gN;have g8:=kI.length hc;simp only[bY]at hl g8;have gD:places[i]? = some (off,(tab ft).size):=by rw[hp,bN,hf];rfl
   have f8:=Uw off v.cells.toList 0 cs (by simp;omega)
   have f8:((v.cells.zipIdx.foldl (fun cs (c,j)=>cs.setIfInBounds (off+j) c) cs)).toList=cs.toList.take off++v.cells.toList++cs.toList.drop (off+v.cells.toList.length):=by
    have e:v.cells.zipIdx.foldl (fun cs (c,j)=>cs.setIfInBounds (off+j) c) cs=(v.cells.toList.zipIdx 0).foldl (fun (cs:Array Value) (p:Value×Nat)=>cs.setIfInBounds (off+p.2) p.1) cs:=by
     rw[<-fw];simp
    rw[e];simpa using f8
   obtain⟨r,gv,gC⟩:=P4 (P:=P) hp (cs:=v.cells.zipIdx.foldl (fun cs (c,j)=>cs.setIfInBounds (off+j) c) cs) h hm h2 (by
    rw[f8]
    refine kI.append (kI.append ?_ gN) ?_
    ·refine Bs (by simp;omega) fun j x y hx hy=>?_
     rw[dT]at hx hy
     split at hx<;>(try (cases hx;done))
     rename_i hj
     rw[aS hj]at hy
     have:=kI.get hc j
     rw[hx,hy]at this;exact this
    ·refine Bs (by simp only[ey,bY];omega) fun j x y hx hy=>?_
     rw[dc]at hx hy
     have:=kI.get hc (off+d.cells.length+j)
     simp only[bY]at hy
     rw[hl]at hy
     rw[hx,hy]at this;exact this)
   refine⟨r,?_,gC⟩;rw[Instr.fill];simp only[du,gD];rw[aQ (by simp;omega)];simp only[du]at gv;exact gv
  ·cases h
def Na{g:G}: ∀{ks vs:fQ}{es:List MapEntry},kI g ks (es.map (·.key))->kI g vs (es.map (·.val))->lL g (ks.zip vs) es
 |[],vs,es,h1,_=>by
  have:es=[]:=by have:es.map (·.key)=[]:=h1;simpa using this
  subst this;exact rfl
 |k::ks,vs,[],⟨_,_,h,_⟩,_=>by simp at h
 |k::ks,[],e::es,_,h=>by have:(e::es).map (·.val)=[]:=h;simp at this
 |k::ks,v::vs,e::es,⟨a,r,h1,h2,h3⟩,⟨a',r',gu,iv,iq⟩=>by
  simp only[bg,da]at h1 gu;obtain⟨rfl,rfl⟩:=h1;obtain⟨rfl,rfl⟩:=gu;exact⟨e,es,rfl,h2,iv,Na h3 iq⟩
def Cq{P:Program}{w:World}{r clock:Nat}{es:Array MapEntry}(h:w.heap[r]? = some (.map es clock)):(getObj r).run P w=.ok (.map es clock) w:=by simp[getObj,Sem.run,h]
def J4{g:G}{a:Option Addr}{es:fV}{cap:Nat}(h1:es.length<=cap)(h2:es=[] \/ ∃sz b o,a=some ⟨b,o,none⟩/\kl g b sz o es):Rep g (.slice es .no) (.slice a es.length cap):=
 ⟨a,cap,rfl,h1,h2,trivial⟩
section
variable {P:Program}{tab:Nat->Ty}(ht:BC P tab){g:G}{V:Sig}{w:World}(hs:Sim P g V w)
include ht hs
theorem U5{t:Nat}{parts:Fr}{ps:List (Nat×Value)}{d:D}(h:PR tab t parts (tab t).k=some d)(hm:parts.map (·.1)=ps.map (·.1))(hr:kI g (parts.map (·.2)) (ps.map (·.2))):
  PRun P g V d (Instr.build t ps.toArray) w:=by
 unfold PR at h;split at h<;>(try (cases h;done));rename_i fs hk;split at h<;>(try (cases h;done));rename_i gG;obtain⟨out,ho,rfl⟩:=cN.1 h;obtain⟨inf,desc,z,h1,h2,h3,h4,h5,h6,h7,h8,h9,gr⟩:=Db (ht t) (by rw[hk];simp);obtain⟨l,hl,gM⟩:=Iy ht hk
 have hz:kI g (tab t).zero z.cells.toList:=by
  rw[h9]
  exact Bs k7 fun j x v e1 e2=>by
   rw[bN,e2]at e1;cases e1;exact F1 g v
 obtain⟨r,gv,gC⟩:=P4 (P:=P) (tab:=tab) (fs:=fs) rfl ho hm hr hz
 have gD:l.toList.mapM (fun f=>(P.info? f.type).map fun i=>(f.offset,i.size))=some (fs.map fun p=>(p.1,(tab p.2).size)):=by
  rw[<-gM];rw[cr]
  have key:∀(fl:List Field),(∀f∈fl,A5 (tab f.type).k=false)->fl.mapM (fun f=>(P.info? f.type).map fun i=>(f.offset,i.size))=some (fl.map ((fun p:Nat×Nat=>(p.1,(tab p.2).size)) ∘ fun f=>(f.offset,f.type))):=by
   intro fl
   induction fl with
   |nil=>intro _;rfl
   |cons f fl ih=>
    intro hh;obtain⟨inf',_,_,g1,_,_,g4,_⟩:=Db (ht f.type) (Aj (hh f k7));simp only[fL,g1,bT,Option.bind_eq_bind,ex,ih fun x hx=>hh x (by simp[hx])];simp[g4]
  refine key _ fun f hf=>?_;have:=(bh.1 gG) (f.offset,f.type) (by rw[<-gM];exact bD.2 ⟨f,hf,rfl⟩);simpa using this
 have hb:P.built t ps=some r:=by
  unfold Program.built;rw[h1,hl];simp only[h7,gD];exact gv
 exact AA hs (v:=.agg r) (run_build w t ps.toArray r (by simpa using hb)) ⟨r.toList,k7,gC⟩
theorem SW{t:Nat}{x d:D}{lo hi mx:Option D}{v:Value}{lo' fY mx':Option Value}(h:K4 tab (tab t).k x lo hi mx=some d)(hx:Rep g x v)
  (gU:lo'.isSome=lo.isSome /\ ∀a b,lo=some a->lo'=some b->Rep g a b) (gL:fY.isSome=hi.isSome /\ ∀a b,hi=some a->fY=some b->Rep g a b) (gT:mx'.isSome=mx.isSome /\ ∀a b,mx=some a->mx'=some b->Rep g a b) :
  PRun P g V d (Instr.sliceAt t v lo' fY mx') w:=by
 unfold K4 at h;split at h<;>(try (cases h;done))
 ·rename_i e k hh hk;obtain⟨hd,h⟩:=BJ h;split at h<;>(try (cases h;done));rename_i es gj;obtain⟨⟨c1,c2⟩,rfl⟩:=EI h;obtain⟨a,cap,rfl,r1,r2⟩:=D8 gj hx;obtain rfl:lo'=none:=by cases lo'<;>simp_all
  obtain rfl:mx'=none:=by cases mx'<;>simp_all
  obtain⟨hv,rfl⟩:∃y,fY=some y:=by cases fY<;>simp_all
  have:=gL.2 _ _ rfl rfl;rw[BU this];have gZ:hh<=(cap:Int):=by omega
  refine AA hs (v:=.slice a hh.toNat cap) ?_ ?_
  ·have hu:=Bm ht hk;simp only[Instr.sliceAt,Instr.slice,Instr.sliceBounds,Instr.sliceBound,asIntOf,bb,bp,aU,A2 hu,c1,gZ,dV,bI,Bh (ht e) (Aj (by simpa using hd)),dQ,fA]
   congr 1
   cases a with
   |none=>simp
   |some a=>cases a;simp[Addr.add]
  ·have hl:(es.take hh.toNat).length=hh.toNat:=by simp;omega
   have:=J4 (g:=g) (a:=a) (es:=es.take hh.toNat) (cap:=cap) k0 (r2.imp (fun h=>by simp[h]) fun ⟨sz,b,o,q1,q2⟩=>⟨sz,b,o,q1,q2.take _⟩)
   rwa [hl]at this
 ·rename_i e k ll hk;obtain⟨hd,h⟩:=BJ h;split at h<;>(try (cases h;done));rename_i es gj;obtain⟨⟨c1,c2,c3⟩,rfl⟩:=EI h;obtain⟨a,cap,rfl,r1,r2⟩:=D8 gj hx;obtain rfl:fY=none:=by cases fY<;>simp_all
  obtain rfl:mx'=none:=by cases mx'<;>simp_all
  obtain⟨lv,rfl⟩:∃y,lo'=some y:=by cases lo'<;>simp_all
  have:=gU.2 _ _ rfl rfl;rw[BU this];refine AA hs (v:=.slice (if cap=ll.toNat then a else a.map (·.add (ll.toNat*(tab e).size))) (es.length-ll.toNat) (cap-ll.toNat)) ?_ ?_
  ·have hu:=Bm ht hk;simp only[Instr.sliceAt,Instr.slice,Instr.sliceBounds,Instr.sliceBound,asIntOf,bb,bp,aU,A2 hu,c1,c2,dV,bI,Bh (ht e) (Aj (by simpa using hd))]
  ·have hl:(es.drop ll.toNat).length=es.length-ll.toNat:=by simp
   rw[<-hl];refine J4 k0 ?_
   by_cases hne:es.drop ll.toNat=[]
   ·exact .inl hne
   ·right
    have gK:ll.toNat<es.length:=by
     rcases cF ll.toNat es.length with h|h
     ·exact h
     ·exact absurd (dm h) hne
    rw[aQ k0];rcases r2 with rfl|⟨sz,b,o,rfl,q2⟩
    ·simp at gK
    ·obtain rfl:=q2.size (by rintro rfl;simp at gK) (fun c hc=>by simpa using(bh.1 c3) c hc);exact⟨(tab e).size,b,o+ll.toNat*(tab e).size,by simp[Cm],q2.drop _⟩
 ·rename_i e k hh k' mm hk;obtain⟨hd,h⟩:=BJ h;split at h<;>(try (cases h;done));rename_i es gj;obtain⟨⟨rfl,c2⟩,rfl⟩:=EI h;obtain⟨a,cap,rfl,r1,r2⟩:=D8 gj hx;obtain rfl:lo'=none:=by cases lo'<;>simp_all
  obtain⟨mv,rfl⟩:∃y,mx'=some y:=by cases mx'<;>simp_all
  obtain⟨hv,rfl⟩:∃y,fY=some y:=by cases fY<;>simp_all
  have e1:=gL.2 _ _ rfl rfl;have e2:=gT.2 _ _ rfl rfl;rw[BU e1,BU e2,c2];have c3:((es.length:Nat):Int)<=(cap:Int):=by omega
  refine AA hs (v:=.slice a es.length es.length) ?_ ⟨a,es.length,rfl,bn _,r2,rfl⟩;have hu:=Bm ht hk;simp only[Instr.sliceAt,Instr.slice,Instr.sliceBounds,Instr.sliceBound,asIntOf,bb,bp,aU,A2 hu,c3,Int.natCast_nonneg,dY,el,dV,bI,Bh (ht e) (Aj (by simpa using hd)),dQ,fA,bn]
  congr 1
  cases a with
  |none=>simp
  |some a=>cases a;simp[Addr.add]
theorem Je{x:D}{l:List (D×D)}{v:Value}(h:CQ V x=some l)(hx:Rep g x v):
  ∃es:Array MapEntry,lL g l es.toList/\(v=.map none/\es=#[] \/ ∃r clock,v=.map (some r)/\w.heap[r]? = some (.map es clock)):=by
 unfold CQ at h;split at h<;>(try (cases h;done))
 ·cases h;exact⟨#[],rfl,.inl ⟨hx,rfl⟩⟩
 ·cases h;obtain⟨b,es,clock,rfl,h1,_,h2,h3⟩:=hx;exact⟨es,Na h2 h3,.inr ⟨b,clock,rfl,hs.keep _ _ h1⟩⟩
 ·split at h<;>(try (cases h;done));rename_i id l' hZ;cases h;obtain⟨b,es,clock,h1,h2,h3⟩:=hs.obj _ _ hZ;obtain⟨b',h4,rfl⟩:=hx;rw[h1]at h4;cases h4;exact⟨es,h3.1,.inr ⟨b,clock,rfl,h2⟩⟩
theorem Qs{t:Nat}{x k d:D}{ok:Bool}{v u:Value}(h:Hr tab V ok (tab t).k x k=some d)(hx:Rep g x v)(hk:Rep g k u):PRun P g V d (Instr.lookup t v u ok) w:=by
 unfold Hr at h;split at h<;>(try (cases h;done));rename_i x k _ _ _ kt et gS;obtain⟨hc,h⟩:=BJ h;simp only[bV,dX,cy,ff,cQ]at hc;obtain⟨ij,gk⟩:=hc;have gk:Bx (tab kt).k k=true:=by simpa using gk
 split at h<;>(try (cases h;done));rename_i l hl;obtain⟨es,hm,hv⟩:=Je ht hs hl hx;have hu:=Hi ht gS;obtain⟨desc,d9,d7⟩:∃desc,P.underlying kt=some desc/\KOK desc (tab kt).k:=FV ht rfl (by intro e;rw[e]at gk;cases k<;>cases gk)
 have gc:(Instr.checkKey es.isEmpty 10000 kt u).run P w=.ok () w:=by
  unfold Instr.checkKey;simp only[bb,A2 d9,aU]
  have gA:(∃kd k1 n1,(tab kt).k=.int kd/\k=.int k1 n1)\/(∃s1,(tab kt).k=.str/\k=.str s1):=by
   cases gF:(tab kt).k<;>cases k<;>simp[gF,Bx]at gk<;>simp
  rcases gA with⟨kd,k1,n1,e1,rfl⟩|⟨s1,e1,rfl⟩
  ·rw[e1]at d7;rw[BU hk];cases desc<;>simp[KOK]at d7;rfl
  ·rw[e1]at d7;rw[Gf hk];cases desc<;>simp[KOK]at d7;rfl
 split at h<;>(try (cases h;done))
 ·rename_i j d' hf;cases h;obtain⟨r',e1,e2⟩:=Ez (g:=g) d7 hk hm hf;cases r' with
  |none=>exact e2.elim
  | some q =>
   obtain⟨j',y⟩:=q;obtain⟨_,e2,_⟩:=e2;refine AA hs (v:=if ok then .tuple #[y,.bool true] else y) ?_ ?_
   ·rcases hv with⟨rfl,rfl⟩|⟨r,clock,rfl,hh⟩
    ·simp only[Instr.lookup,bb,A2 hu,aU,bp,gc,Instr.findKey,A2 d9,e1]
    ·simp only[Instr.lookup,bb,A2 hu,aU,bp,Cq hh,gc,Instr.findKey,A2 d9,e1]
   ·cases ok
    ·exact e2
    ·exact⟨[y,.bool true],k7,y,[.bool true],rfl,e2,.bool true,[],rfl,rfl,rfl⟩
 ·rename_i hf;split at h<;>(try (cases h;done));rename_i zd hz;cases h;obtain⟨z,z1,z2⟩:=Jq ht ij hz w;obtain⟨r',e1,e2⟩:=Ez (g:=g) d7 hk hm hf;cases r' with
  |some q=>exact e2.elim
  | none =>
   refine AA hs (v:=if ok then .tuple #[z,.bool false] else z) ?_ ?_
   ·rcases hv with⟨rfl,rfl⟩|⟨r,clock,rfl,hh⟩
    ·simp only[Instr.lookup,bb,A2 hu,aU,bp,gc,Instr.findKey,A2 d9,e1,z1]
    ·simp only[Instr.lookup,bb,A2 hu,aU,bp,Cq hh,gc,Instr.findKey,A2 d9,e1,z1]
   ·cases ok
    ·exact z2 g
    ·exact⟨[z,.bool false],k7,z,[.bool false],rfl,z2 g,.bool false,[],rfl,rfl,rfl⟩
end
def Sim.setAny{P:Program}{g:G}{V:Sig}{w:World}(hs:Sim P g V w){i b:Nat}{d d':kM}{o x:Obj}(hi:V i=some d)(ht:d.isTail=false)(gH:d'.isTail=false)(hb:g.rho i=some b)
  (hx:w.heap[b]? = some x) (hr:lM P g (setB w b o) i d'):Sim P g (V.set i d') (setB w b o):=by
 have d8:blk g V i=some b:=by
  unfold blk;rw[hi];cases d<;>first|exact hb|cases ht
 have fZ:=hs.free i b d8;have gJ:∀o,g.imm b o=none:=fZ.2 fun o ho=>by rw[hi]at ho;cases ho;exact ht
 have fX:∀j,blk g (V.set i d') j=blk g V j:=by
  intro j
  by_cases hj:j=i
  ·subst hj;rw[d8];unfold blk;rw[w7];cases d'<;>first|exact hb|cases gH
  ·unfold blk;rw[w8 _ _ hj]
 exact {
  imm:=fun c o v h=>by
   have hc:c≠b:=fun e=>by rw[e,gJ o]at h;cases h
   exact PM (b:=b) (by simpa using hc) (fun k x hx hk=>by rw[Fx hk];exact hx) (hs.imm c o v h)
  keep:=fun k o h=>by
   have hc:k≠b:=fun e=>by rw[e,fZ.1]at h;cases h
   rw[Fx hc];exact hs.keep k o h
  obj:=fun j o h=>by
   by_cases hj:j=i
   ·subst hj
    rw[w7]at h;cases h;exact hr
   ·rw[w8 _ _ hj]at h
    exact(hs.obj j o h).setB h fun e=>hj (hs.inj j i b e d8)
  inj:=fun j k c h1 h2=>hs.inj j k c (by rw[<-fX];exact h1) (by rw[<-fX];exact h2)
  free:=fun j c h=>by
   rw[fX]at h
   obtain⟨h1,h2⟩:=hs.free j c h
   refine⟨h1,fun hh o=>?_⟩
   by_cases hj:j=i
   ·subst hj
    rw[d8]at h;cases h
    exact gJ o
   ·exact h2 (fun x hx=>hh x (k8 hj hx)) o
  htop:=fun j sz n k h hk=>by
   by_cases hj:j=i
   ·subst hj;rw[w7]at h;cases h;cases gH
   ·rw[w8 _ _ hj]at h;exact hs.htop j sz n k h hk
  hdom:=hs.hdom
  io:=hs.io
  fin:=hs.fin }
def CE(kt:TyK)(k d:D)(l:List (D×D)):Option (List (D×D)):=
 match Du kt k l 0 with
 |some (some (j,_))=>some (l.set j (k,d))
 |some none=>some (l++[(k,d)])
 |none=>none
def lL.set{g:G}{k d:D}{kv v:Value}(hk:Rep g k kv)(hd:Rep g d v): ∀{l:List (D×D)}{es:List MapEntry} (j:Nat),lL g l es->lL g (l.set j (k,d)) (es.modify j fun e=>{ e with key:=kv,val:=v })
 |[],es,j,h=>by
  rw[show es=[] from h];cases j<;>simp[lL]
 |(k',d')::l,es,0,⟨e,rest,he,h1,h2,h3⟩=>by
  subst he;exact⟨{ e with key:=kv,val:=v },rest,k7,hk,hd,h3⟩
 |(k',d')::l,es,j+1,⟨e,rest,he,h1,h2,h3⟩=>by
  subst he;exact⟨e,rest.modify j fun e=>{ e with key:=kv,val:=v },k7,h1,h2,lL.set hk hd j h3⟩
def ln.modify{c:Nat}{es:Array MapEntry}(h:ln c es.toList)(j:Nat){u v:Value}:ln c (es.modify j fun e=>{ e with key:=u,val:=v }).toList:=by
 have e:(es.modify j fun e=>{ e with key:=u,val:=v }).toList.map (·.born)=es.toList.map (·.born):=by
  apply ek ; intro k;simp only[bN,cD,dv]
  by_cases hk:j=k
  ·subst hk;rw[aS rfl];cases es[j]? <;> rfl
  ·rw[aQ hk]
 refine⟨by rw[e];exact h.1,fun x hx=>?_⟩;have:x.born∈(es.modify j fun e=>{ e with key:=u,val:=v }).toList.map (·.born):=cp hx;rw[e]at this;obtain⟨y,hy,gP⟩:=bD.1 this;rw[<-gP];exact h.2 y hy
def ln.push{c:Nat}{es:Array MapEntry}(h:ln c es.toList){u v:Value}:ln (c+1) (es.push { key:=u,val:=v,born:=c }).toList:=by
 refine⟨?_,fun x hx=>?_⟩
 ·simp only[Array.toList_push,bL,bg,cq];refine dk.2 ⟨h.1,k7,fun a ha b hb=>?_⟩;obtain⟨y,hy,rfl⟩:=bD.1 ha;have:=h.2 y hy;simp at hb;omega
 ·simp only[Array.toList_push,bi,bq]at hx;rcases hx with hx|rfl
  ·have:=h.2 x hx;omega
  ·simp
def lL.push{g:G}{k d:D}{e:MapEntry}(hk:Rep g k e.key)(hd:Rep g d e.val): ∀{l:List (D×D)}{es:List MapEntry},lL g l es->lL g (l++[(k,d)]) (es++[e])
 |[],es,h=>by
  rw[show es=[] from h];exact⟨e,[],rfl,hk,hd,rfl⟩
 |(k',d')::l,es,⟨e',rest,he,h1,h2,h3⟩=>by
  subst he;exact⟨e',rest++[e],rfl,h1,h2,lL.push hk hd h3⟩
def K5{g:G}{kt:TyK}{k:D}{u v:Value}(hk:Bx kt k=true)(h1:Rep g k u)(h2:Rep g k v):Instr.sameBits 10000 u v=true:=by
 cases kt<;>cases k<;>simp only[Bx]at hk<;>try (cases hk;done)
 ·rw[BU h1,BU h2];simp[Instr.sameBits]
 ·rw[Gf h1,Gf h2];show(_==_)=true;rename_i s;show(s.toArray==s.toArray)=true;simp
section
variable {P:Program}{tab:Nat->Ty}(ht:BC P tab){g:G}{V:Sig}{w:World}(hs:Sim P g V w)
include ht hs
theorem LV{t kt et:Nat}{k:D}{u:Value}(hk:Bx (tab kt).k k=true)(hr:Rep g k u)(e:Bool): ∃desc,P.underlying kt=some desc/\KOK desc (tab kt).k/\(Instr.checkKey e 10000 kt u).run P w=.ok () w:=by
 obtain⟨desc,d9,d7⟩:∃desc,P.underlying kt=some desc/\KOK desc (tab kt).k:=FV ht rfl (by intro e;rw[e]at hk;cases k<;>cases hk);refine⟨desc,d9,d7,?_⟩;unfold Instr.checkKey;simp only[bb,A2 d9,aU]
 have gA:(∃kd k1 n1,(tab kt).k=.int kd/\k=.int k1 n1)\/(∃s1,(tab kt).k=.str/\k=.str s1):=by
  cases gF:(tab kt).k<;>cases k<;>simp[gF,Bx]at hk<;>simp
 rcases gA with⟨kd,k1,n1,e1,rfl⟩|⟨s1,e1,rfl⟩
 ·rw[e1]at d7;rw[BU hr];cases desc<;>simp[KOK]at d7;rfl
 ·rw[e1]at d7;rw[Gf hr];cases desc<;>simp[KOK]at d7;rfl
theorem GH{r clock clock':Nat}{es es':Array MapEntry}(h:w.heap[r]? = some (.map es clock)):(setObj r (.map es' clock')).run P w=.ok () (setB w r (.map es' clock')):=by
 simp[setObj,Sem.run,h,setB]
theorem Hc{t kt et id:Nat}{x k d:D}{l l':List (D×D)}{m u v:Value}(gV:(tab t).k=.map kt et)(hk:Bx (tab kt).k k=true)(hm:x=.map id)(hZ:V id=some (.map l))(hp:CE (tab kt).k k d l=some l')
  (h1:Rep g x m) (h2:Rep g k u) (h3:Rep g d v):∃w',(Instr.mapUpdate t m u v).run P w=.ok () w'/\Sim P g (V.set id (.map l')) w':=by
 subst hm;obtain⟨b',go,rfl⟩:=h1;obtain⟨b,es,clock,hb,hh,hr,gI⟩:=hs.obj _ _ hZ;rw[go]at hb;cases hb;obtain⟨desc,d9,d7,gc⟩:=LV (t:=t) (et:=et) ht hs hk h2 false;have hu:=Hi ht gV;unfold CE at hp;split at hp<;>(try (cases hp;done))
 ·rename_i j dd hf;cases hp;obtain⟨r',e1,e2⟩:=Ez (g:=g) d7 h2 hr hf;cases r' with
  |none=>exact e2.elim
  | some q =>
   obtain⟨j',y⟩:=q;obtain⟨rfl,e2,_,e,a1,a2,a3⟩:=e2;rw[dQ]at a1;have a1':es[j]? = some e:=by simpa using a1
   refine⟨setB w b' (.map (es.modify j fun e=>{ e with key:=u,val:=v }) clock),?_,?_⟩
   ·simp only[Instr.mapUpdate,bb,A2 hu,aU,Cq hh,gc,Instr.findKey,A2 d9,e1,bp,a1',bT,ca,Instr.keyThatStays,K5 hk a2 h2,bI];exact GH ht hs hh
   ·refine hs.setAny hZ rfl rfl go hh ⟨b',_,clock,go,DC hh,?_,gI.modify j⟩;simpa using lL.set h2 h3 j hr
 ·rename_i hf;cases hp;obtain⟨r',e1,e2⟩:=Ez (g:=g) d7 h2 hr hf;cases r' with
  |some q=>exact e2.elim
  | none =>
   refine⟨setB w b' (.map (es.push { key:=u,val:=v,born:=clock }) (clock+1)),?_,?_⟩
   ·simp only[Instr.mapUpdate,bb,A2 hu,aU,Cq hh,gc,Instr.findKey,A2 d9,e1,bp];exact GH ht hs hh
   ·refine hs.setAny hZ rfl rfl go hh ⟨b',_,clock+1,go,DC hh,?_,gI.push⟩;simpa using lL.push (e:={ key:=u,val:=v,born:=clock }) h2 h3 hr
end
section
variable {P:Program}{tab:Nat->Ty}(ht:BC P tab){g:G}{V:Sig}{w:World}(hs:Sim P g V w)
include ht hs
theorem QL{xt t:Nat}{x d:D}{ok:Bool}{v:Value}(h:L7 tab t ok x=some d)(hx:Rep g x v):PRun P g V d (Instr.typeAssert v xt t ok) w:=by
 have gg:∀{α:Prop},A5 (tab t).k=false->Ht (tab t).k=false->(∀desc,P.underlying t=some desc->(∀i,desc≠.interface i)->α)->α:=by
  intro α h1 h2 k;obtain⟨desc,d9,d7⟩:=FV ht rfl (Aj h1);refine k desc d9 ?_
  rintro i rfl
  cases hk:(tab t).k<;>rw[hk]at d7 h2<;>simp[KOK,Ht]at d7 h2
 cases x<;>simp only[L7]at h<;>try (cases h;done)
 ·rename_i t' d';obtain⟨hc,h⟩:=BJ h;simp only[bV,dX,cy]at hc;obtain⟨y,rfl,hy⟩:=hx;refine gg hc.1 hc.2 fun desc hd hn=>?_
  by_cases he:t'=t
  ·rw[aS he]at h;cases h;refine AA hs (v:=if ok then .tuple #[y,.bool true] else y) ?_ ?_
   ·simp only[Instr.typeAssert,bb,A2 hd,aU];cases desc<;>first|exact absurd rfl (hn _)|simp[he]
   ·cases ok
    ·exact hy
    ·exact⟨[y,.bool true],k7,y,[.bool true],rfl,hy,.bool true,[],rfl,rfl,rfl⟩
  ·rw[aQ he]at h
   obtain⟨rfl,h⟩:ok=true/\_:=by
    cases ok
    ·simp at h
    ·exact⟨rfl,h⟩
   simp only[bI]at h;split at h<;>(try (cases h;done));rename_i zd hz;cases h;obtain⟨z,z1,z2⟩:=Jq ht hc.1 hz w;refine AA hs (v:=.tuple #[z,.bool false]) ?_ ⟨[z,.bool false],k7,z,[.bool false],rfl,z2 g,.bool false,[],rfl,rfl,rfl⟩;simp only[Instr.typeAssert,bb,A2 hd,aU];cases desc<;>first|exact absurd rfl (hn _)|simp[he,z1]
 ·obtain⟨hc,h⟩:=BJ h;simp only[bV,dX,cy]at hc;refine gg hc.1 hc.2 fun desc hd hn=>?_
  obtain⟨rfl,h⟩:ok=true/\_:=by
   cases ok
   ·simp at h
   ·exact⟨rfl,h⟩
  simp only[bI]at h;split at h<;>(try (cases h;done));rename_i zd hz;cases h;obtain⟨z,z1,z2⟩:=Jq ht hc.1 hz w;rw[show v=.nilIface from hx];refine AA hs (v:=.tuple #[z,.bool false]) ?_ ⟨[z,.bool false],k7,z,[.bool false],rfl,z2 g,.bool false,[],rfl,rfl,rfl⟩;simp only[Instr.typeAssert,bb,A2 hd,aU];cases desc<;>first|exact absurd rfl (hn _)|simp[z1]
theorem Xp{γ:Fr}{m:Nat}{a:Act}(hT:lF g γ m a.tmps){o:Oper}{d:D}(h:lk tab γ V o.op=some d):ORun P g V d (execOp a.eval o) w:=by
 obtain⟨dst,op,type,pos,after,guard⟩:=o;simp only at h;have E:=fun x=>Az hT x
 have ga:∀(x:Option Operand),(x.map a.eval).isSome=(x.map (ev γ)).isSome /\ ∀p q,x.map (ev γ)=some p->x.map a.eval=some q->Rep g p q:=by
  intro x;cases x with
  |none=>exact⟨rfl,fun p q h=>by cases h⟩
  |some y=>exact⟨rfl,fun p q h1 h2=>by cases h1;cases h2;exact E y⟩
 unfold execOp;cases op<;>simp only[lk]at h<;>(try (cases h;done))
 case slice t x lo hi mx=>exact .of (SW ht hs h (E x) (ga lo) (ga hi) (ga mx))
 case lookup t x k ok=>exact .of (Qs ht hs h (E x) (E k))
 case typeAssert x xt t ok=>exact .of (QL ht hs h (E x))
 case build t parts=>
  refine .of ?_
  have:=U5 (ps:=parts.toList.map fun p=>(p.1,a.eval p.2)) ht hs h k7 (by
   rw[cr,cr]
   have:=E9 hT (parts.toList.map (·.2))
   rw[cr,cr]at this
   exact this)
  have e:(parts.toList.map fun p=>(p.1,a.eval p.2)).toArray=parts.map fun (i,x)=>(i,a.eval x):=by
   rw[Fu]
  rw[e]at this;exact this
 case call c=>
  obtain⟨callee,args,ats⟩:=c;unfold H0 at h;split at h<;>(try (cases h;done))
  ·rename_i hc;subst hc;unfold IP at h;split at h<;>(try (cases h;done));rename_i t x e1 e2;obtain rfl:ats=#[t]:=by apply eb;simpa using e1
   obtain rfl:args=#[x]:=by apply eb;simpa using e2
   split at h<;>(try (cases h;done));rename_i kt et hk;obtain⟨l,hl,rfl⟩:=cN.1 h;obtain⟨es,hm,hv⟩:=Je ht hs hl (E x)
   have hlen:∀{l:List (D×D)}{es:List MapEntry},lL g l es->es.length=l.length:=by
    intro l
    induction l with
    |nil=>intro es h;rw[show es=[] from h];rfl
    |cons p l ih=>intro es h;obtain⟨e,rest,rfl,_,_,h3⟩:=h;simp[ih h3]
   have gw:=hlen hm;simp only[bY]at gw;refine⟨g,w,.int .i64 l.length,?_,.refl g,hs,rfl⟩;rcases hv with⟨hv,rfl⟩|⟨r,clock,hv,hh⟩
   ·simp at gw;simp[resolve,invoke,builtin,Builtin.len_,A2 (Hi ht hk),hv,goInt,<-gw]
   ·simp[resolve,invoke,builtin,Builtin.len_,A2 (Hi ht hk),hv,Cq hh,goInt,gw]
  ·rename_i x y hc d6;subst hc;obtain rfl:args=#[x,y]:=by apply eb;simpa using d6
   unfold Ou at h;split at h<;>(try (cases h;done))
   ·rename_i k p k' q hb e1 e2;cases h;have h1:=E x;have h2:=E y;rw[e1]at h1;rw[e2]at h2;refine⟨g,w,.int k (if q>p then q else p),?_,.refl g,hs,rfl⟩;simp[resolve,invoke,builtin,Builtin.max_,Builtin.max2,BU h1,BU h2]
   ·rename_i hb e1 e2;cases hb
  ·rename_i x y hc d6;subst hc;obtain rfl:args=#[x,y]:=by apply eb;simpa using d6
   unfold Ou at h;split at h<;>(try (cases h;done))
   ·rename_i hb e1 e2;cases hb
   ·rename_i k p k' q hb e1 e2;cases h;have h1:=E x;have h2:=E y;rw[e1]at h1;rw[e2]at h2;refine⟨g,w,.int k (if q<p then q else p),?_,.refl g,hs,rfl⟩;simp[resolve,invoke,builtin,Builtin.min_,Builtin.min2,BU h1,BU h2]
end
def R1 (tab:Nat->Ty) (V:Sig) (T:Nat):D->D->Option (D × Sig)
 |.ptr i off,d=>match V i with
  | some (.cells ds)=>if A5 (tab T).k || !d.told || d.cells.length != (tab T).size || !Dq d.cells || decide (ds.length < off+d.cells.length) then none else
    some (.any,V.set i (.cells (ds.take off++d.cells++ds.drop (off+d.cells.length))))
  |_=>none
 |_,_=>none
def updD(tab:Nat->Ty)(V:Sig):TyK->D->D->D->Option (D×Sig)
 | .map kt _, .map id,k,d=>if !Bx (tab kt).k k then none else match V id with
  |some (.map l)=>match CE (tab kt).k k d l with
   |some l'=>some (.any,V.set id (.map l'))
   |none=>none
  |_=>none
 |_,_,_,_=>none
def Hl:TyK->Option Nat
 |.slice e=>some e
 |_=>none
def appD (tab:Nat->Ty) (V:Sig):List TypeId->D->D->Option (D × Sig)
 | [T,T'], .slice es (.tag id),x=>match Hl (tab T).k,Hl (tab T').k,V id,kz x with
  | some e,some _,some (.tail sz k),some new =>
   if A5 (tab e).k||sz != (tab e).size||k != es.length||!es.all (fun c=>c.length==(tab e).size)||!new.all (fun c=>c.length==(tab e).size)||!new.all Dq ||
     decide (140737488355328<(es.length+new.length)*(tab e).bytes)||decide (9223372036854775807<es.length+new.length) then none else
    some (.slice (es++new) (.tag id),V.set id (.tail (tab e).size (es.length+new.length)))
  |_,_,_,_=>none
 |_,_,_=>none
def bapD(tab:Nat->Ty)(V:Sig)(ts:List TypeId)(γ:Fr):Callee->List Operand->Option (D×Sig)
 |.builtin .append,[s,x]=>appD tab V ts (ev γ s) (ev γ x)
 |_,_=>none
def eopD(tab:Nat->Ty)(γ:Fr)(V:Sig):Op->Option (D×Sig)
 |.store T x y=>R1 tab V T (ev γ x) (ev γ y)
 |.mapUpdate t m k x=>updD tab V (tab t).k (ev γ m) (ev γ k) (ev γ x)
 |.insert t m k x=>updD tab V (tab t).k (ev γ m) (ev γ k) (ev γ x)
 |.call c=>bapD tab V c.argTypes.toList γ c.callee c.args.toList
 |_=>none
def kT(tab:Nat->Ty)(γ:Fr)(V:Sig)(op:Op):Option D:=
 match dop tab γ V op with
 |some d=>some d
 |none=>lk tab γ V op
def letOp(vars:fU)(o:Oper)(l:List Oper):Option (Nat×Nat×Operand):=
 match o.op with
 |.alloc T=>match o,l with
  |⟨some t,_,_,_,_,none⟩,⟨none,.store T' (.tmp t') x,_,_,_,none⟩::_=>if T==T'&&t==t'&&!vars.contains t then some (t,T,x) else none
  |_,_=>none
 |_=>none
def FW(t:Nat):Operand->Bool
 |.tmp k=>k != t
 |_=>true
def YD(vars:fU)(o:Oper):Bool:=
 match o.dst with
 |some t=>vars.contains t
 |none=>false
def isDefer:Op->Bool
 |.defer _=>true
 |_=>false
def Pz (tab:Nat->Ty) (N n:Nat) (ops:Array Oper) (vars:fU):List Oper->Fr->Sig->Option (List Oper × Fr × Sig)
 |[],γ,V=>some ([],γ,V)
 | o::l,γ,V =>
  match AY ops γ o with
  | some true =>
   match letOp vars o l with
   |some (t,T,x)=>
    match l with
    |[]=>none
    | _::l'=>if A5 (tab T).k || !decide (t < n) || !FW t x || !(ev γ x).told || (ev γ x).cells.length != (tab T).size || !Dq (ev γ x).cells then none else
      Pz tab N n ops vars l' ((t,.aw (ev γ x).cells 0)::γ) V
   | none =>
    if YD vars o||isDefer o.op then some (o::l,γ,V) else
    match kT tab γ V o.op with
    |some d=>if AJ n o then Pz tab N n ops vars l (putD o.dst d γ) V else none
    |none=>
     match eopD tab γ V o.op with
     |some (d,U')=>if AJ n o then Pz tab N n ops vars l (putD o.dst d γ) U' else none
     |none=>some (o::l,γ,V)
  |some false=>if ED N o.op&&AJ n o then Pz tab N n ops vars l (putD o.dst .any γ) V else none
  |none=>none
section
variable {P:Program}{ro:Option Nat}{n:Nat}{ops:Array Oper}{Q:DX->St->Prop}{tab:Nat->Ty}(ht:BC P tab)
include ht
theorem Le{γ:Fr}{V:Sig}{o:Oper}{d:D}(h:kT tab γ V o.op=some d)(w:World)(ρ:Operand->Value)(f:Nat):o.about P w ρ=some f->False:=by
 by_cases hc:∃c,o.op=.call c
 ·obtain⟨c,hc⟩:=hc;obtain⟨callee,args,ats⟩:=c;cases callee with
  |builtin b=>exact Cn hc rfl w ρ f
  |value x=>rw[hc]at h;cases h
  |invoke r m=>rw[hc]at h;cases h
 ·exact Ah (fun c e=>hc ⟨c,e⟩) w ρ f
theorem GD{g:G}{V:Sig}{w:World}(hs:Sim P g V w){γ:Fr}{m:Nat}{a:Act}(hT:lF g γ m a.tmps){o:Oper}{d:D}(h:kT tab γ V o.op=some d):ORun P g V d (execOp a.eval o) w:=by
 unfold kT at h;split at h
 ·rename_i d' hd;cases h;exact Zs ht hs hT hd
 ·exact Xp ht hs hT h
theorem FM{γ:Fr}{V U':Sig}{df:List DDf}{o:Oper}{rest:List Oper}{d:D}(hw:AY ops γ o=some true)(he:eopD tab γ V o.op=some (d,U'))(ho:AJ n o=true)
  (h:aC P ro n ops Q rest ⟨putD o.dst d γ,U',df⟩):aC P ro n ops Q (o::rest) ⟨γ,V,df⟩:=by
 obtain⟨dst,op,type,pos,after,guard⟩:=o;cases op<;>simp only[eopD]at he<;>try (cases he;done)
 case store T x y=>
  unfold R1 at he;split at he<;>(try (cases he;done));rename_i i off hx;split at he<;>(try (cases he;done));rename_i ds hi;obtain⟨hc,he⟩:=BJ he;cases he;simp only[bV,dX,cy,ff,cQ,fk,bne_eq_false_iff_eq,bk,Nat.not_lt]at hc;obtain⟨⟨⟨⟨c1,c2⟩,c3⟩,c4⟩,c5⟩:=hc;refine GX (d:=.any) (U':=V.set i (.cells (ds.take off++(ev γ y).cells++ds.drop (off+(ev γ y).cells.length)))) hw (fun c e=>by cases e) (Ah fun c e=>by cases e) ?_ ho h;intro g w a hs hT;obtain⟨w',h1,h2⟩:=O9 ht hs hT c1 hx hi (by simpa using c2) c3 (by simpa using c4) c5;exact⟨g,w',undef,.inr ⟨by simp only[execOp,bb,h1,aU];rfl,rfl⟩,.refl g,h2,trivial⟩
 case mapUpdate t m k x=>
  unfold updD at he;split at he<;>(try (cases he;done));rename_i kt et id hk hm;obtain⟨hc,he⟩:=BJ he;split at he<;>(try (cases he;done));rename_i l hZ;split at he<;>(try (cases he;done));rename_i l' hp;cases he;refine GX (d:=.any) (U':=V.set id (.map l')) hw (fun c e=>by cases e) (Ah fun c e=>by cases e) ?_ ho h;intro g w a hs hT;obtain⟨w',h1,h2⟩:=Hc ht hs hk (by simpa using hc) hm hZ hp (Az hT m) (Az hT k) (Az hT x);exact⟨g,w',undef,.inr ⟨by simp only[execOp,bb,h1,aU];rfl,rfl⟩,.refl g,h2,trivial⟩
 case insert t m k x=>
  unfold updD at he;split at he<;>(try (cases he;done));rename_i kt et id hk hm;obtain⟨hc,he⟩:=BJ he;split at he<;>(try (cases he;done));rename_i l hZ;split at he<;>(try (cases he;done));rename_i l' hp;cases he;refine GX (d:=.any) (U':=V.set id (.map l')) hw (fun c e=>by cases e) (Ah fun c e=>by cases e) ?_ ho h;intro g w a hs hT;obtain⟨w',h1,h2⟩:=Hc ht hs hk (by simpa using hc) hm hZ hp (Az hT m) (Az hT k) (Az hT x);exact⟨g,w',undef,.inr ⟨by simp only[execOp,bb,h1,aU];rfl,rfl⟩,.refl g,h2,trivial⟩
 case call c=>
  obtain⟨callee,args,ats⟩:=c;unfold bapD at he;split at he<;>(try (cases he;done));rename_i s x hc d6;simp only at hc d6 he;subst hc;obtain rfl:args=#[s,x]:=by apply eb;simpa using d6
  unfold appD at he;split at he<;>(try (cases he;done));rename_i T T' es id gR hs';obtain rfl:ats=#[T,T']:=by apply eb;simpa using gR
  split at he<;>(try (cases he;done));rename_i e e' sz k new q1 q2 q3 q4;obtain⟨hc,he⟩:=BJ he;cases he
  have gX:(tab T).k=.slice e:=by
   unfold Hl at q1;split at q1<;>(try (cases q1;done));rename_i e0 h0;cases q1;exact h0
  have gW:(tab T').k=.slice e':=by
   unfold Hl at q2;split at q2<;>(try (cases q2;done));rename_i e0 h0;cases q2;exact h0
  simp only[bV,dX,cy,ff,cQ,fk,bne_eq_false_iff_eq,bk,Nat.not_lt,Bool.not_eq_false,bh,cL]at hc;obtain⟨⟨⟨⟨⟨⟨⟨c1,c2⟩,c3⟩,c4⟩,c5⟩,c6⟩,c7⟩,c8⟩:=hc;subst c2 c3;exact GX (d:=.slice (es++new) (.tag id)) hw (fun c e=>by cases e) (Cn rfl rfl) (QN (e':=e') ht gX gW c1 hs' q3 q4 c4 c5 c6 c7 c8) ho h
end
section
variable {P:Program}{ro:Option Nat}{n:Nat}{ops:Array Oper}{Q:DX->St->Prop}{tab:Nat->Ty}(ht:BC P tab)
include ht
theorem I0{t:Nat}{x:Operand}(h:FW t x=true):x≠.tmp t:=by
 rintro rfl
 simp[FW]at h
theorem PH{γ:Fr}{V:Sig}{df:List DDf}{rest:List Oper}{t T:Nat}{r:Option Operand}{ty:TypeId}{pos:String}{after:Array Edge}{guard:Option (Nat×Bool)}
  (hw:AY ops γ ⟨some t,.makeMap T r,ty,pos,after,guard⟩=some true) (hr:r=none \/ ∃x kt et k v,r=some x/\(tab T).k=.map kt et/\ev γ x=.int k v) (e7:t<n)
  (h:∀i,V i=none->aC P ro n ops Q rest ⟨(t,.map i)::γ,V.set i (.map []),df⟩) :
  aC P ro n ops Q (⟨some t,.makeMap T r,ty,pos,after,guard⟩::rest) ⟨γ,V,df⟩:=by
 refine In (mk:=fun i=>.map i) (d:=.map []) hw (fun c e=>by cases e) (Ah fun c e=>by cases e) (by simp[AJ,e7]) rfl ?_ h;intro g w a hs hT;refine⟨.map #[] 0,.map (some w.heap.size),?_,fun i hi=>⟨⟨w.heap.size, #[],0,by simp[G.bind],k7,rfl,by simp[ln]⟩,w.heap.size,by simp[G.bind],rfl⟩⟩;rcases hr with rfl|⟨x,kt,et,k,v,rfl,hk,hx⟩
 ·simp only[execOp,Instr.makeMap,newObj,bb,Sem.run,fa,aU];rfl
 ·have:=Az hT x;rw[hx]at this;have hu:=A2 (Hi ht hk) w;simp only[execOp,Instr.makeMap,newObj,bT,BU this,bb,hu,aU,asInt,bp];rfl
omit ht in
theorem TU{γ:Fr}{V:Sig}{df:List DDf}{rest:List Oper}{x:Operand}{dst:Option Tmp}{ty:TypeId}{pos:String}{after:Array Edge}{guard:Option (Nat×Bool)}{t:Nat}{d:D}
  (hw:AY ops γ ⟨dst,.panic x,ty,pos,after,guard⟩=some true) (hx:ev γ x=.iface t d) (h:Q (.panic (.iface t d)) ⟨γ,V,df⟩) :
  aC P ro n ops Q (⟨dst,.panic x,ty,pos,after,guard⟩::rest) ⟨γ,V,df⟩:=by
 intro g w a r hr hs;unfold wpListIn;rw[B0 hs.tmps hw,aS rfl];refine⟨fun f hf=>(Ah (fun c e=>by cases e) _ _ f hf).elim,?_⟩;have hv:=Az hs.tmps x;rw[show ev (St.mk γ V df).γ x=.iface t d from hx]at hv;obtain⟨y,hy,gO⟩:=hv
 have e8:(execOp a.eval ⟨dst,.panic x,ty,pos,after,guard⟩).run P w=.halt (.panic (.iface t y)) w:=by
  simp only[execOp,hy,Instr.panic,bb];rfl
 rw[cW _ _ _ (fun c e=>by cases e),e8];exact⟨g,⟨γ,V,df⟩,.panic (.iface t d),.refl g,hs,⟨.iface t y,rfl,y,rfl,gO⟩,h⟩
end
section
variable (tab:Nat->Ty)(N n:Nat)(ops:Array Oper)(vars:fU)(l:List Oper)(γ:List (Nat×D))(V:Sig)
def putX(o:Oper):Option D->Option (List Oper×Fr×Sig)
 |some d=>if YD vars o then some (o::l,γ,V) else if AJ n o then Pz tab N n ops vars l (putD o.dst d γ) V else none
 |none=>some (o::l,γ,V)
def putE(o:Oper):Option (D×Sig)->Option (List Oper×Fr×Sig)
 |some (d,U')=>if YD vars o then some (o::l,γ,V) else if AJ n o then Pz tab N n ops vars l (putD o.dst d γ) U' else none
 |none=>some (o::l,γ,V)
def skipX(o:Oper):Option (List Oper×Fr×Sig):=match ED N o.op&&AJ n o with
 |true=>Pz tab N n ops vars l (putD o.dst .any γ) V
 |false=>none
@[simp] theorem putX_none(o:Oper):putX tab N n ops vars l γ V o none=some (o::l,γ,V):=rfl
@[simp] theorem putE_none(o:Oper):putE tab N n ops vars l γ V o none=some (o::l,γ,V):=rfl
@[simp] theorem skipX_eq(o:Oper):skipX tab N n ops vars l γ V o=match ED N o.op&&AJ n o with
 |true=>Pz tab N n ops vars l (putD o.dst .any γ) V
 |false=>none:=rfl
variable (dst:Option Tmp)(ty:TypeId)(pos:String)(af:Array Edge)(gd:Option (Nat×Bool))
end
attribute [simp] YD FW R1 kz CQ HD L7 Vu PR Dq D.flat
section
variable (tab:Nat->Ty)(V:Sig)(e T T' k t:Nat)(es new:fV)(o:Own)(x d:D)(h m l:Int)(k1 k2:IntKind)(c:Bool)(γ:List (Nat×D))(id:Nat)(fs:List (Nat×Nat))(parts:List (Nat×D))(kt:TyK)
@[simp] theorem sliceD_h:K4 tab (.slice e) x none (some (.int k1 h)) none=if A5 (tab e).k then none else match kz x with
  |some es=>if 0<=h/\h<=es.length then some (.slice (es.take h.toNat) .no) else none
  |none=>none:=rfl
@[simp] theorem sliceD_l:K4 tab (.slice e) x (some (.int k1 l)) none none=if A5 (tab e).k then none else match kz x with
  |some es=>if 0<=l/\l<=es.length/\es.all (fun c=>c.length==(tab e).size) then some (.slice (es.drop l.toNat) .no) else none
  |none=>none:=rfl
@[simp] theorem sliceD_m:K4 tab (.slice e) x none (some (.int k1 h)) (some (.int k2 m))=if A5 (tab e).k then none else match kz x with
  |some es=>if h=m/\m=es.length then some (.slice es .clip) else none
  |none=>none:=rfl
@[simp] theorem V9:Hr tab V c (.map T e) x d=if A5 (tab e).k || !Bx (tab T).k d then none else match CQ V x with
  | some l=>match Du (tab T).k d l 0 with
   |some (some (_,d))=>some (if c then .tup [d,.bool true] else d)
   |some none=>match HD (tab e)with
    |some z=>some (if c then .tup [z,.bool false] else z)
    |none=>none
   |none=>none
  |none=>none:=rfl
@[simp] theorem simpleKey_i:Bx (.int k1) (.int k2 h)=true:=rfl
@[simp] theorem simpleKey_s(s:List UInt8):Bx .str (.str s)=true:=rfl
@[simp] theorem mostD_t:Ou true (.int k1 h) (.int k2 m)=some (.int k1 (if m>h then m else h)):=rfl
@[simp] theorem mostD_f:Ou false (.int k1 h) (.int k2 m)=some (.int k1 (if m<h then m else h)):=rfl
@[simp] theorem sliceEl_s:Hl (.slice e)=some e:=rfl
@[simp] theorem updD_m:updD tab V (.map T e) (.map id) x d=if !Bx (tab T).k x then none else match V id with
  |some (.map l)=>match CE (tab T).k x d l with
   |some l'=>some (.any,V.set id (.map l'))
   |none=>none
  |_=>none:=rfl
@[simp] theorem appD_t:appD tab V [T,T'] (.slice es (.tag id)) x=match Hl (tab T).k,Hl (tab T').k,V id,kz x with
  | some e,some _,some (.tail sz k),some new =>
   if A5 (tab e).k||sz != (tab e).size||k != es.length||!es.all (fun c=>c.length==(tab e).size)||!new.all (fun c=>c.length==(tab e).size)||!new.all Dq ||
     decide (140737488355328<(es.length+new.length)*(tab e).bytes)||decide (9223372036854775807<es.length+new.length) then none else
    some (.slice (es++new) (.tag id),V.set id (.tail (tab e).size (es.length+new.length)))
  |_,_,_,_=>none:=rfl
@[simp] theorem lenMapD_s:IP tab γ V [t] [.tmp k]=(match (tab t).k with
  |.map _ _=>(CQ V (getD γ k)).map fun l=>.int .i64 l.length
  |_=>none):=rfl
end
section
variable {P:Program}{ro:Option Nat}{n:Nat}{ops:Array Oper}{Q:DX->St->Prop}{tab:Nat->Ty}{df:List DDf}(ht:BC P tab)
include ht
theorem TW{γ:Fr}{V:Sig}{rest:List Oper}{t T T':Nat}{x:Operand}{ty:TypeId}{pos:String}{after:Array Edge}{guard:Option (Nat×Bool)}{es:fV}{o:Own}{e:Nat}(hk:(tab T).k=.slice e)
  (hw:AY ops γ ⟨some t,.binOp .eql T x (.const (.slice none 0 0)) T',ty,pos,after,guard⟩=some true) (hx:ev γ x=.slice es o) (e7:t<n)
  (h:∀b,(b=true->es=[])->aC P ro n ops Q rest ⟨(t,.bool b)::γ,V,df⟩) :
  aC P ro n ops Q (⟨some t,.binOp .eql T x (.const (.slice none 0 0)) T',ty,pos,after,guard⟩::rest) ⟨γ,V,df⟩:=by
 intro g w a r hr hs;unfold wpListIn;rw[B0 hs.tmps hw,aS rfl];refine⟨fun f hf=>(Ah (fun c e=>by cases e) _ _ f hf).elim,?_⟩;have hv:=Az hs.tmps x;rw[show ev (St.mk γ V df).γ x=.slice es o from hx]at hv;obtain⟨b,cap,h1,h2,h3,_⟩:=hv
 have e8:∃c:Bool,(c=true->es=[])/\(execOp a.eval ⟨some t,.binOp .eql T x (.const (.slice none 0 0)) T',ty,pos,after,guard⟩).run P w=.ok (.value (.bool c)) w:=by
  refine⟨b.isNone,fun hb=>?_,?_⟩
  ·rcases h3 with h3|⟨sz,b',o,rfl,_⟩
   ·exact h3
   ·cases hb
  ·have:=run_equal_slice_nil (P:=P) w T e b es.length cap (Bm ht hk);have gu:a.eval x=.slice b es.length cap:=h1;have hg:(eqGuard .eql T x (.const (.slice none 0 0)) (a.eval x) (.slice none 0 0)).run P w=.ok () w:=by rw[gu];rfl
   simp only[execOp,bb,show a.eval (.const (.slice none 0 0))=.slice none 0 0 from rfl,hg,aU];simp only[binOp,bb,gu,this,aU];rfl
 obtain⟨c,hc,e8⟩:=e8;rw[cW _ _ _ (fun c e=>by cases e),e8];exact h c hc g w _ r hr (hs.put (o:=⟨some t,.binOp .eql T x (.const (.slice none 0 0)) T',ty,pos,after,guard⟩) (.refl g) hs.sim (d:=.bool c) rfl (by simp[AJ,e7]))
theorem E3{γ:Fr}{V:Sig}{rest:List Oper}{t T T' ty e e':Nat}{s x:Operand}{pos:String}{after:Array Edge}{guard:Option (Nat×Bool)}{es:fV}
  (hw:AY ops γ ⟨some t,(cA s x T T'),ty,pos,after,guard⟩=some true) (e7:t<n)
  (hk:(tab T).k=.slice e) (gb:(tab T').k=.slice e') (he:A5 (tab e).k=false) (h1:kz (ev γ s)=some es) (h2:kz (ev γ x)=some [])
  (h:aC P ro n ops Q rest ⟨(t,ev γ s)::γ,V,df⟩) :
  aC P ro n ops Q (⟨some t,(cA s x T T'),ty,pos,after,guard⟩::rest) ⟨γ,V,df⟩:=by
 refine GX (d:=ev γ s) (U':=V) hw (fun c e=>by cases e) (Cn rfl rfl) ?_ (by simp[AJ,e7]) h;intro g w a hs hT;obtain⟨i,z,t1,t2,t3,t4,t5,t6,t7⟩:=Ch ht hk gb he;obtain⟨sa,sc,r1,r2,r3⟩:=D8 h1 (Az hT s);obtain⟨xa,xc,q1,q2,q3⟩:=D8 h2 (Az hT x);refine⟨g,w,a.eval s,.inl (By ?_),.refl g,hs,Az hT s⟩;rw[r1,q1];have:=Cr (ty:=ty) t1 t2 t3 (w:=w) (w2:=w) (base:=sa) (xa:=xa) (n:=es.length) (cap:=sc) (m:=0) (xc:=xc) (news:=[]) (AX k7 (.inl rfl)) k0 (fun b _=>by simp[storeCells,Sem.run]) (fun _=>rfl);simpa using this
theorem Ds{γ:Fr}{V:Sig}{rest:List Oper}{t T T' ty e e':Nat}{s x:Operand}{pos:String}{after:Array Edge}{guard:Option (Nat×Bool)}{new:fV}
  (hw:AY ops γ ⟨some t,(cA s x T T'),ty,pos,after,guard⟩=some true) (e7:t<n)
  (hk:(tab T).k=.slice e) (gb:(tab T').k=.slice e') (he:A5 (tab e).k=false) (h1:ev γ s=.av) (h2:kz (ev γ x)=some new)
  (hlen':∀c∈new,c.length=(tab e).size) (hb:new.length*(tab e).bytes<=140737488355328) (hm:new.length<=9223372036854775807)
  (h:∀i,V i=none->aC P ro n ops Q rest ⟨(t,.slice new (.tag i))::γ,V.set i (.tail (tab e).size new.length),df⟩) :
  aC P ro n ops Q (⟨some t,(cA s x T T'),ty,pos,after,guard⟩::rest) ⟨γ,V,df⟩:=
 GC (es:=[]) ht hw e7 hk gb he (.inl ⟨h1,rfl⟩) h2 k7 hlen' (by simpa using hb) (by simpa using hm) (fun i hi=>by simpa using h i hi)
theorem TZ{γ:Fr}{V:Sig}{rest:List Oper}{t T T' ty e e':Nat}{s x:Operand}{pos:String}{after:Array Edge}{guard:Option (Nat×Bool)}{new:fV}
  (hw:AY ops γ ⟨some t,(cA s x T T'),ty,pos,after,guard⟩=some true) (e7:t<n)
  (hk:(tab T).k=.slice e) (gb:(tab T').k=.slice e') (he:A5 (tab e).k=false) (h1:ev γ s=.av) (h2:kz (ev γ x)=some new)
  (hlen':∀c∈new,c.length=(tab e).size) (hb:new.length*(tab e).bytes<=140737488355328) (hm:new.length<=9223372036854775807)
  (h:aC P ro n ops Q rest ⟨(t,.slice new .no)::γ,V,df⟩) :
  aC P ro n ops Q (⟨some t,(cA s x T T'),ty,pos,after,guard⟩::rest) ⟨γ,V,df⟩:=
 Ds ht hw e7 hk gb he h1 h2 hlen' hb hm fun i hi=>Cd (s':=⟨(t,.slice new .no)::γ,V,df⟩) (fun g w a hs=>⟨g,.refl g,⟨hs.sim.sub ((Sub.refl _).set hi),⟨hs.tmps.1,fun k=>by
  have:=hs.tmps.2 k
  rw[Aa]at this⊢
  by_cases hk:k=t
  ·rw[aS hk]at this⊢
   exact AO _ _ _ _ this
  ·rw[aQ hk]at this⊢
   exact this⟩,hs.df⟩⟩) h
theorem Co{γ:Fr}{V:Sig}{rest:List Oper}{t T T' ty e e':Nat}{s x:Operand}{pos:String}{after:Array Edge}{guard:Option (Nat×Bool)}{es new:fV}
  (hw:AY ops γ ⟨some t,(cA s x T T'),ty,pos,after,guard⟩=some true) (e7:t<n)
  (hk:(tab T).k=.slice e) (gb:(tab T').k=.slice e') (he:A5 (tab e).k=false) (h1:ev γ s=.slice es .clip) (h2:kz (ev γ x)=some new) (hne:new≠[])
  (hlen:∀c∈es,c.length=(tab e).size) (hlen':∀c∈new,c.length=(tab e).size) (hb:(es.length+new.length)*(tab e).bytes<=140737488355328) (hm:es.length+new.length<=9223372036854775807)
  (h:∀i,V i=none->aC P ro n ops Q rest ⟨(t,.slice (es++new) (.tag i))::γ,V.set i (.tail (tab e).size (es.length+new.length)),df⟩) :
  aC P ro n ops Q (⟨some t,(cA s x T T'),ty,pos,after,guard⟩::rest) ⟨γ,V,df⟩:=
 GC ht hw e7 hk gb he (.inr ⟨h1,hne⟩) h2 hlen hlen' hb hm h
end
section
variable {P:Program}{ro:Option Nat}{n:Nat}{ops:Array Oper}{Q:DX->St->Prop}{rest:List Oper}{s:St}
theorem GY{fop:Operand}{args:Array Operand}{ats:Array TypeId}{dst:Option Tmp}{ty:TypeId}{pos:String}{after:Array Edge}{guard:Option (Nat×Bool)}{f:Nat}{first cap az:fQ}{R:DE->Sig->Prop}
  (hw:AY ops s.γ ⟨dst,(cv fop args ats),ty,pos,after,guard⟩=some true)
  (hf:ev s.γ fop=.func (.func f) first cap) (h:aB P f az s.V R) (ha:WkL (first++args.toList.map (ev s.γ)++cap) az)
  (ho:AJ n ⟨dst,(cv fop args ats),ty,pos,after,guard⟩=true)
  (gB:∀d U',R (.ret d) U'->aC P ro n ops Q rest { s with γ:=putD dst d s.γ,V:=U' })
  (gE:∀d U',R (.panic d) U'->Q (.panic d) { s with V:=U' }) :
  aC P ro n ops Q (⟨dst,(cv fop args ats),ty,pos,after,guard⟩::rest) s:=
 Xo hw hf (h.wk ha) ho gB gE
end
def dwp_join{P:Program}{ro:Option Nat}{n:Nat}{Q:DX->St->Prop}{c y:Code}{γ:Fr}{V:Sig}{df:List DDf}(t:Nat)(d:D)
  (h1:DWp P ro n c (fun e s'=>e=.normal/\Wk P n s' ⟨(t,d)::γ,V,df⟩) ⟨γ,V,df⟩) (h2:DWp P ro n y Q ⟨(t,d)::γ,V,df⟩):DWp P ro n c (lW (DWp P ro n y Q) Q) ⟨γ,V,df⟩:=
 FL h1 fun x s ⟨e,hw⟩=>by subst e;exact kO hw h2
@[simp] def TellsS(γ:Fr):fU->Fr->Prop
 |_,[]=>True
 |seen,p::r=>(if p.1∈seen then True else WkD (getD γ p.1) p.2)/\TellsS γ (p.1::seen) r
def TellsS.get{γ:Fr}: ∀{V':Fr}{seen:fU},TellsS γ seen V'->∀t,t∉seen->WkD (getD γ t) (getD V' t)
 |[],_,_,t,_=>EO _
 | (i,d)::r,seen,h,t,hs=>by
  rw[Aa]
  by_cases ht:t=i
  ·subst ht;rw[aS rfl];have:=h.1;simpa[hs] using this
  ·rw[aQ ht];exact TellsS.get h.2 t (by simp[ht,hs])
def G8{P:Program}{n:Nat}{γ V':Fr}{V U':Sig}{df:List DDf}(h:TellsS γ [] V')(hZ:Sub U' V):DX.normal=.normal/\Wk P n { γ,V,df } { γ:=V',V:=U',df }:=
 ⟨rfl,fun g w a hs=>⟨g,.refl g,⟨hs.sim.sub hZ,⟨hs.tmps.1,fun t=>h.get t k7 g _ (hs.tmps.2 t)⟩,hs.df⟩⟩⟩
def Sf{P:Program}{n:Nat}{fn:Func}{R:DE->Sig->Prop}{γ:Fr}{V U':Sig}{d:D}(hZ:Sub U' V)(h:resD fn γ=some d)(hR:R (.ret d) U'):Fp P n fn R .ret ⟨γ,V,[]⟩:=
 ⟨⟨γ,U',[]⟩,fun g _ _ hs=>⟨g,.refl g,⟨hs.sim.sub hZ,hs.tmps,hs.df⟩⟩,rfl,d,EF h,Ft hR⟩
def QC{P:Program}{n:Nat}{fn:Func}{R:DE->Sig->Prop}{γ:Fr}{V U':Sig}{d:D}(hZ:Sub U' V)(h:resD fn γ=some d)(hR:R (.ret d) U'):Fp P n fn R .normal ⟨γ,V,[]⟩:=
 ⟨⟨γ,U',[]⟩,fun g _ _ hs=>⟨g,.refl g,⟨hs.sim.sub hZ,hs.tmps,hs.df⟩⟩,rfl,d,EF h,Ft hR⟩
def Xf{P:Program}{n:Nat}{fn:Func}{R:DE->Sig->Prop}{γ:Fr}{V U':Sig}{es:fV}{o:Own}{t:Nat}(hZ:Sub U' V)(hr:fn.results=#[.tmp t])(h:getD γ t=.slice es o)(hR:R (.ret (.slice es .no)) U'):Fp P n fn R .ret ⟨γ,V,[]⟩:=
 ⟨⟨[(t,.slice es .no)],U',[]⟩,Y4 (by simp[h]) hZ,rfl,_,EF (by simp[resD,hr]),Ft hR⟩
@[simp] def resL (tab:Nat->Ty) (V:Sig) (γ:Fr):List ResultVar->Option fQ
 |[]=>some []
 |.tmp t::r=>match resL tab V γ r with
  |some ds=>some (getD γ t::ds)
  |none=>none
 |.cell t T::r=>match Lm (tab T) V (getD γ t),resL tab V γ r with
  |some d,some ds=>some (d::ds)
  |_,_=>none
@[simp] def LF:fQ->D
 |[d]=>d
 |ds=>.tup ds
def N9{P:Program}{tab:Nat->Ty}(ht:BC P tab){g:G}{n:Nat}{γ:Fr}{V:Sig}{tmps:Array Value}{w:World}(hs:Sim P g V w)(hT:lF g γ n tmps): ∀{l:List ResultVar}{ds:fQ},resL tab V γ l=some ds->
  ∃vs,(l.mapM (fun (x:ResultVar)=>match x with|.tmp t=>pure (tmps.getD t undef)|.cell a t=>(do loadVar t (<-asAddr (tmps.getD a undef)):Sem Value))).run P w=.ok vs w/\kI g ds vs
 |[],ds,h=>by
  simp only[resL]at h;cases h;exact⟨[],k7,rfl⟩
 |.tmp t::r,ds,h=>by
  simp only[resL]at h;split at h<;>(try (cases h;done));rename_i ds' hd;cases h;obtain⟨vs,h1,h2⟩:=N9 ht hs hT hd;refine⟨tmps.getD t undef::vs,?_,_,_,rfl,hT.2 t,h2⟩;simp only[fL,bb,bp,aU,h1]
 | .cell t T::r,ds,h=>by
  simp only[resL]at h;split at h<;>(try (cases h;done));rename_i d ds' hd g7;cases h;obtain⟨vs,h1,h2⟩:=N9 ht hs hT g7;obtain⟨hk,hd⟩:=BJ hd;obtain⟨v,hv,hr⟩:=OE (ht T) (Aj (by simpa using hk)) hs (hT.2 t) hd
  have gx:(do loadVar T (<-asAddr (tmps.getD t undef)):Sem Value).run P w=.ok v w:=by
   rw[<-hv]
   have hp:∃a,tmps.getD t undef=.pointer (some a):=by
    have:=hT.2 t;cases hg:getD γ t<;>rw[hg]at hd this<;>simp only[Ln]at hd<;>try (cases hd;done)
    ·obtain⟨b,o,e,_⟩:=this;exact⟨_,e⟩
    ·obtain⟨b,_,e⟩:=this;exact⟨_,e⟩
   obtain⟨a,ha⟩:=hp;rw[ha];simp[Instr.loadAt,Instr.sureAddr,asAddr]
  refine⟨v::vs,?_,_,_,rfl,hr,h2⟩;simp only[fL,bb,gx,bp,aU,h1]
def DG{P:Program}{tab:Nat->Ty}(ht:BC P tab){n:Nat}{fn:Func}{s:St}{ds:fQ}(h:resL tab s.V s.γ fn.results.toList=some ds):Q8 P n fn s (LF ds):=by
 intro g a w hs;obtain⟨vs,h1,h2⟩:=N9 ht hs.sim hs.tmps h;have hl:=kI.length h2
 have hv:∃v,(results fn a.tmps).run P w=.ok v w/\v=(if h:vs.toArray.size=1 then vs.toArray[0] else .tuple vs.toArray):=by
  refine⟨_,?_,rfl⟩;unfold results;simp only[bb,Array.mapM_eq_mapM_toList,Sem.run_map]
  erw [h1]
  simp only[aU,bp]
 obtain⟨v,hv,gQ⟩:=hv;refine⟨v,hv,?_⟩;subst gQ
 match ds,vs,h2,hl with
 |[],[],_,_=>exact⟨[],rfl,rfl⟩
 |[d],[v],h2,_=>obtain⟨_,_,e,h3,_⟩:=h2;cases e;exact h3
 |d::d'::ds,v::v'::vs,h2,_=>exact⟨_,k7,h2⟩
def Ik{P:Program}{tab:Nat->Ty}(ht:BC P tab){n:Nat}{fn:Func}{R:DE->Sig->Prop}{γ:Fr}{V U':Sig}{ds:fQ}{d:D}(h:resL tab V γ fn.results.toList=some ds)(hw:WkD (LF ds) d)(hZ:Sub U' V)(hR:R (.ret d) U'):Fp P n fn R .ret ⟨γ,V,[]⟩:=
 ⟨_,Wk.refl P n _,rfl,_,DG ht h,.ret d,U',hw,hZ,hR⟩
def Sim.retell{P:Program}{g:G}{V:Sig}{w:World}(hs:Sim P g V w){j:Nat}{ds ds':fQ}(hj:V j=some (.cells ds))(h:∀vs,kI g ds vs->kI g ds' vs):Sim P g (V.set j (.cells ds')) w:=by
 have d8:∀k,blk g (V.set j (.cells ds')) k=blk g V k:=by
  intro k
  by_cases hk:k=j
  ·subst hk;simp[blk,Sig.set,hj]
  ·simp[blk,Sig.set,hk]
 exact {
  imm:=hs.imm
  keep:=hs.keep
  obj:=fun k o hk=>by
   by_cases h1:k=j
   ·subst h1
    rw[w7]at hk;cases hk
    obtain⟨b,vs,ty,a1,a2,a3⟩:=hs.obj _ _ hj
    exact⟨b,vs,ty,a1,a2,h _ a3⟩
   ·rw[w8 _ _ h1]at hk;exact hs.obj k o hk
  inj:=fun a b c h1 h2=>hs.inj a b c (by rw[<-d8];exact h1) (by rw[<-d8];exact h2)
  free:=fun k c hk=>by
   rw[d8]at hk
   obtain⟨h1,h2⟩:=hs.free k c hk
   refine⟨h1,fun hh=>h2 fun o ho=>?_⟩
   by_cases h3:k=j
   ·subst h3;rw[hj]at ho;cases ho;rfl
   ·exact hh o (k8 h3 ho)
  htop:=fun k sz n m hk hm=>by
   by_cases h1:k=j
   ·subst h1;rw[w7]at hk;cases hk
   ·rw[w8 _ _ h1]at hk;exact hs.htop k sz n m hk hm
  hdom:=hs.hdom
  io:=hs.io
  fin:=hs.fin }
def R9{g:G}{d:D}: ∀{ds:fQ}{vs:List Value} (k:Nat),kI g ds vs->(∀v,vs[k]? = some v->Rep g d v)->kI g (ds.set k d) vs
 |[],vs,k,h,_=>by simpa using h
 |x::ds,_,0,⟨v,r,e,h1,h2⟩,h=>by subst e;exact⟨v,r,rfl,h v rfl,h2⟩
 |x::ds,_,k+1,⟨v,r,e,h1,h2⟩,h=>by subst e;exact⟨v,r,rfl,h1,R9 k h2 fun u hu=>h u (by simpa using hu)⟩
def Bt{P:Program}{ro:Option Nat}{n:Nat}{Q:DX->St->Prop}{γ:Fr}{V:Sig}{df:List DDf}{c:Code}(j off sz:Nat){ds:fQ}(hj:V j=some (.cells ds))(ho:ds[off]? = some .av)
  (h:∀i,V i=none->DWp P ro n c Q ⟨γ,(V.set i (.tail sz 0)).set j (.cells (ds.set off (.slice [] (.tag i)))),df⟩):DWp P ro n c Q ⟨γ,V,df⟩:=
 PG fun g w a hs=>by
  obtain⟨i,hi,hZ⟩:=hs.sim.fresh;change V i=none at hZ;obtain⟨h1,h2⟩:=hs.sim.tagNil (sz:=sz) hi hZ;have gY:j≠i:=fun e=>by rw[e]at hj;rw[hZ]at hj;cases hj
  have h3:Sim P (g.put i 0 0 0 [] (.slice none 0 0)) ((V.set i (.tail sz 0)).set j (.cells (ds.set off (.slice [] (.tag i))))) w:=by
   obtain⟨b,vs,ty,a1,a2,a3⟩:=hs.sim.obj _ _ hj
   have hv:∀v,vs.toList[off]? = some v->v=.slice none 0 0:=fun v hv=>by
    have:=kI.get a3 off;rw[ho,hv]at this;exact this
   have gh:V.set i (.tail sz 0) j=some (.cells ds):=by rw[w8 _ _ gY];exact hj
   have hb:=h2.obj _ _ gh
   have e:∀vs',kI (g.put i 0 0 0 [] (.slice none 0 0)) ds vs'->kI (g.put i 0 0 0 [] (.slice none 0 0)) (ds.set off (.slice [] (.tag i))) vs':=by
    intro vs' hr;refine R9 off hr fun v gx=>?_;have:=kI.get hr off;rw[ho,gx]at this;rw[show v=.slice none 0 0 from this];exact IH
   exact h2.retell gh e
  exact⟨_,⟨γ,(V.set i (.tail sz 0)).set j (.cells (ds.set off (.slice [] (.tag i)))),df⟩,h1,⟨h3,hs.tmps.mono h1,hs.df.mono h1⟩,h i hZ⟩
end Go.DL
