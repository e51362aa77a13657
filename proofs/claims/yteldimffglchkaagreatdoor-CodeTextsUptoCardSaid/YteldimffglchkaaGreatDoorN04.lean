/- A part of the proof. -/
import Derived.Test.YteldimffglchkaaGreatDoorN03
import Derived.Laws.Tables
import Derived.Test.YteldimffglchkaaGreatDoorN02
import Derived.Laws.Cover3
set_option linter.all false
namespace Go.DL
open Go
def HZ(tab:Nat->Ty):TyK->D->Option D->Option D->Option D->Option D
 |.slice e,x,none,some (.int _ h),none=>if A1 (tab e).k then none else match esOf x with
  |some es=>if 0<=h/\h<=es.length then some (.slice (es.take h.toNat) .no) else none
  |none=>none
 |.slice e,x,some (.int _ l),none,none=>if A1 (tab e).k then none else match esOf x with
  |some es=>if 0<=l/\l<=es.length/\es.all (fun c=>c.length==(tab e).size) then some (.slice (es.drop l.toNat) .no) else none
  |none=>none
 |.slice e,x,none,some (.int _ h),some (.int _ m)=>if A1 (tab e).k then none else match esOf x with
  |some es=>if h=m/\m=es.length then some (.slice es .clip) else none
  |none=>none
 |_,_,_,_,_=>none
def keyB:TyK->D->D->Option Bool
 |.int _,.int k a,.int k' b=>if k=k' then some (a==b) else none
 |.str,.str a,.str b=>some (a==b)
 |_,_,_=>none
def Ca(kt:TyK)(k:D):List (D×D)->Nat->Option (Option (Nat×D))
 |[],_=>some none
 |(k',d)::r,i=>match keyB kt k k' with
  |some true=>some (some (i,d))
  |some false=>Ca kt k r (i+1)
  |none=>none
def C3(O:Sig):D->Option (List (D×D))
 |.nilmap=>some []
 |.cmap ks vs=>some (ks.zip vs)
 |.map id=>match O id with
  |some (.map l)=>some l
  |_=>none
 |_=>none
def Hr(ty:Ty):Option D:=if ty.agg then some (.agg ty.zero) else ty.zero[0]?
def Bf:TyK->D->Bool
 |.int _,.int _ _=>true
 |.str,.str _=>true
 |_,_=>false
def FL (tab:Nat->Ty) (O:Sig) (ok:Bool):TyK->D->D->Option D
 | .map kt et,x,k=>if A1 (tab et).k || !Bf (tab kt).k k then none else match C3 O x with
  | some l=>match Ca (tab kt).k k l 0 with
   |some (some (_,d))=>some (if ok then .tup [d,.bool true] else d)
   |some none=>match Hr (tab et)with
    |some z=>some (if ok then .tup [z,.bool false] else z)
    |none=>none
   |none=>none
  |none=>none
 |_,_,_=>none
def J7(tab:Nat->Ty)(t:Nat)(ok:Bool):D->Option D
 | .iface t' d=>if A1 (tab t).k || FN (tab t).k then none else
  if t'=t then some (if ok then .tup [d,.bool true] else d) else
  if ok then match Hr (tab t)with
   |some z=>some (.tup [z,.bool false])
   |none=>none
  else none
 | .niliface=>if A1 (tab t).k || FN (tab t).k then none else
  if ok then match Hr (tab t)with
   |some z=>some (.tup [z,.bool false])
   |none=>none
  else none
 |_=>none
def Pk (tab:Nat->Ty) (fs:List (Nat × Nat)):List D->Fr->Option (List D)
 |cells,[]=>some cells
 |cells,(i,d)::r=>match fs[i]? with
  | some (off,ft)=>if d.told && d.cells.length==(tab ft).size && decide (off+d.cells.length<=cells.length) then
    Pk tab fs (cells.take off++d.cells++cells.drop (off+d.cells.length)) r else none
  |none=>none
def MF(tab:Nat->Ty)(t:Nat)(parts:Fr):TyK->Option D
 |.struct fs=>if fs.all (fun p=> !A1 (tab p.2).k) then(Pk tab fs (tab t).zero parts).map .agg else none
 |_=>none
def LC:Bool->D->D->Option D
 |true,.int k a,.int _ b=>some (.int k (if b>a then b else a))
 |false,.int k a,.int _ b=>some (.int k (if b<a then b else a))
 |_,_,_=>none
def H0(tab:Nat->Ty)(γ:Fr)(O:Sig):List TypeId->List Operand->Option D
 |[t],[x]=>match (tab t).k with
  |.map _ _=>(C3 O (ev γ x)).map fun l=>.int .i64 l.length
  |_=>none
 |_,_=>none
def Fp(tab:Nat->Ty)(γ:Fr)(O:Sig):Callee->List TypeId->List Operand->Option D
 |.builtin .len,ts,xs=>H0 tab γ O ts xs
 |.builtin .max,_,[a,b]=>LC true (ev γ a) (ev γ b)
 |.builtin .min,_,[a,b]=>LC false (ev γ a) (ev γ b)
 |_,_,_=>none
def dop2(tab:Nat->Ty)(γ:Fr)(O:Sig):Op->Option D
 |.slice t x lo hi mx=>HZ tab (tab t).k (ev γ x) (lo.map (ev γ)) (hi.map (ev γ)) (mx.map (ev γ))
 |.lookup t x k ok=>FL tab O ok (tab t).k (ev γ x) (ev γ k)
 |.typeAssert x _ t ok=>J7 tab t ok (ev γ x)
 |.build t parts=>MF tab t (parts.toList.map fun p=>(p.1,ev γ p.2)) (tab t).k
 |.call c=>Fp tab γ O c.callee c.argTypes.toList c.args.toList
 |_=>none
theorem RepE.take{g:G}{b sz:Nat}: ∀{es:List (List D)}{o:Nat} (k:Nat),RepE g b sz o es->RepE g b sz o (es.take k)
 |[],_,k,_=>by simp[RepE]
 |e::es,o,0,_=>by simp[RepE]
 |e::es,o,k+1,⟨h1,h2⟩=>by simpa[RepE] using⟨h1,RepE.take k h2⟩
theorem RepE.drop{g:G}{b sz:Nat}: ∀{es:List (List D)}{o:Nat} (k:Nat),RepE g b sz o es->RepE g b sz (o+k*sz) (es.drop k)
 |[],_,k,_=>by simp[RepE]
 |e::es,o,0,h=>by simpa using h
 |e::es,o,k+1,⟨_,h2⟩=>by
  have:=RepE.drop k h2
  simpa[show o+sz+k*sz=o+(k+1)*sz by rw[Nat.add_mul];omega] using this
theorem Mx{z:Value}(h:aggV z=false):z.cells=#[z]:=by
 cases z<;>first|rfl|cases h
theorem Ky{P:Program}{tab:Nat->Ty}(ht:AZ P tab){t:Nat}{d:D}(hk:A1 (tab t).k=false)(h:Hr (tab t)=some d)(w:World): ∃z,(zeroValue t).run P w=.ok z w /\ ∀g,Rep g d z:=by
 obtain⟨inf,desc,z,h1,h2,h3,h4,h5,h6,h7,h8,h9,aD⟩:=BO (ht t) (Ae hk)
 refine⟨z,by simp[zeroValue,typeInfo,program,h1,h7,Sem.run],fun g=>?_⟩
 unfold Hr at h
 cases hz:aggV z with
 | true =>
  rw[hz]at aD
  rw[if_pos aD]at h
  cases h
  cases z<;>simp only[aggV]at hz<;>try (cases hz;done)
  rename_i cs
  refine⟨cs.toList,by simp,?_⟩
  rw[h9]
  simp only[Value.cells]
  exact AE (by simp) fun j x v e1 e2=>by
   rw[List.getElem?_map,e2]at e1
   cases e1;exact Dk g v
 |false=>
  rw[hz]at aD
  rw[if_neg (by simp[aD]),h9,Mx hz]at h
  have h:some (B8 z)=some d:=h
  cases h
  exact Dk g _
theorem AQ{g:G}{k:IntKind}{n:Int}{v:Value}(h:Rep g (.int k n) v):v=.int k n:=h
theorem EE{g:G}{s:List UInt8}{v:Value}(h:Rep g (.str s) v):v=.string ⟨s.toArray⟩:=h
theorem O7{kt:TyK}{desc:TypeDesc}{k k':D}{b:Bool}{g:G}{v u:Value}(hd:KOK desc kt)(h:keyB kt k k'=some b)(hv:Rep g k v)(hu:Rep g k' u):Instr.sameNow desc v u=some b:=by
 unfold keyB at h
 split at h
 ·rename_i k1 a k2 b'
  rw[AQ hv,AQ hu]
  cases desc<;>simp[KOK]at hd
  simp only[Instr.sameNow]
  exact h
 ·rename_i a b'
  rw[EE hv,EE hu]
  cases desc<;>simp[KOK]at hd
  cases h
  simp only[Instr.sameNow,Option.some.injEq]
  rw[Bool.eq_iff_iff]
  show(a.toArray==b'.toArray)=true ↔ _
  simp
 ·cases h
theorem EZ{kt:TyK}{desc:TypeDesc}{k:D}{g:G}{v:Value}(hd:KOK desc kt)(hv:Rep g k v): ∀{l:List (D×D)}{es:List MapEntry}{i:Nat}{r:Option (Nat×D)},RepM g l es->Ca kt k l i=some r->
  ∃r',Instr.findNow desc v es i=some r'/\(match r,r' with
   |none,none=>True
   |some (j,d),some (j',x)=>j=j'/\Rep g d x/\i<=j /\ ∃e,es[j-i]? = some e/\Rep g k e.key/\e.val=x
   |_,_=>False)
 |[],es,i,r,h,hf=>by
  simp only[Ca,Option.some.injEq]at hf
  subst hf
  rw[show es=[] from h]
  exact⟨none,rfl,trivial⟩
 | (k',d)::l,es,i,r,⟨e,rest,he,h1,h2,h3⟩,hf=>by
  subst he
  simp only[Ca]at hf
  split at hf
  ·rename_i hk
   cases hf
   refine⟨some (i,e.val),?_,rfl,h2,Nat.le_refl _,e,by simp,?_,rfl⟩
   ·simp only[Instr.findNow,O7 hd hk hv h1]
   ·have:k=k':=by
     unfold keyB at hk
     split at hk
     ·split at hk
      ·rename_i e1;simp at hk;rw[e1,hk]
      ·cases hk
     ·simp at hk;rw[hk]
     ·cases hk
    rw[this];exact h1
  ·rename_i hk
   obtain⟨r',e1,e2⟩:=EZ hd hv (i:=i+1) h3 hf
   refine⟨r',?_,?_⟩
   ·simp only[Instr.findNow,O7 hd hk hv h1];exact e1
   ·cases r with
    |none=>cases r'<;>simpa using e2
    | some p =>
     obtain⟨j,d⟩:=p
     cases r' with
     |none=>exact e2
     |some q=>
      obtain⟨j',x⟩:=q
      obtain⟨a1,a2,a3,e',a4,a5,a6⟩:=e2
      refine⟨a1,a2,by omega,e',?_,a5,a6⟩
      rw[show j-i=(j-(i+1))+1 by omega]
      simpa using a4
  ·cases hf
theorem IB{P:Program}{tab:Nat->Ty}{g:G}{fs:List (Nat×Nat)}{places:List (Nat×Nat)}(hp:places=fs.map fun p=>(p.1,(tab p.2).size)): ∀{parts:Fr}{ps:List (Nat×Value)}{cells out:List D}{cs:Array Value},
  Pk tab fs cells parts=some out->parts.map (·.1)=ps.map (·.1)->RepL g (parts.map (·.2)) (ps.map (·.2))->RepL g cells cs.toList->
  ∃r,Instr.fill (places.toArray[·]?) cs ps=some r/\RepL g out r.toList
 |[],ps,cells,out,cs,h,hm,hr,hc=>by
  have:ps=[]:=by simpa using hm.symm
  subst this
  cases h
  exact⟨cs,rfl,hc⟩
 |(i,d)::parts,[],_,_,_,h,hm,_,_=>by simp at hm
 | (i,d)::parts,(i',v)::ps,cells,out,cs,h,hm,hr,hc=>by
  simp only[List.map_cons,List.cons.injEq]at hm
  obtain⟨rfl,hm⟩:=hm
  obtain⟨v',r',e1,h1,h2⟩:=hr
  simp only[List.map_cons,List.cons.injEq]at e1
  obtain⟨rfl,rfl⟩:=e1
  simp only[Pk]at h
  split at h
  ·rename_i off ft hf
   split at h<;>(try (cases h;done))
   rename_i ap
   simp only[Bool.and_eq_true,beq_iff_eq,decide_eq_true_eq]at ap
   obtain⟨⟨c1,c2⟩,c3⟩:=ap
   have aW:=EF h1 c1
   have hl:=RepL.length aW
   have bl:=RepL.length hc
   simp only[Array.length_toList]at hl bl
   have aL:places[i]? = some (off,(tab ft).size):=by rw[hp,List.getElem?_map,hf];rfl
   have ar:=Qd off v.cells.toList 0 cs (by simp;omega)
   have ar:((v.cells.zipIdx.foldl (fun cs (c,j)=>cs.setIfInBounds (off+j) c) cs)).toList=cs.toList.take off++v.cells.toList++cs.toList.drop (off+v.cells.toList.length):=by
    have e:v.cells.zipIdx.foldl (fun cs (c,j)=>cs.setIfInBounds (off+j) c) cs=(v.cells.toList.zipIdx 0).foldl (fun (cs:Array Value) (p:Value×Nat)=>cs.setIfInBounds (off+p.2) p.1) cs:=by
     rw[<-Array.foldl_toList];simp
    rw[e];simpa using ar
   obtain⟨r,aF,aK⟩:=IB (P:=P) hp (cs:=v.cells.zipIdx.foldl (fun cs (c,j)=>cs.setIfInBounds (off+j) c) cs) h hm h2 (by
    rw[ar]
    refine RepL.append (RepL.append ?_ aW) ?_
    ·refine AE (by simp;omega) fun j x y hx hy=>?_
     rw[List.getElem?_take]at hx hy
     split at hx<;>(try (cases hx;done))
     rename_i hj
     rw[if_pos hj]at hy
     have:=RepL.get hc j
     rw[hx,hy]at this;exact this
    ·refine AE (by simp only[List.length_drop,Array.length_toList];omega) fun j x y hx hy=>?_
     rw[List.getElem?_drop]at hx hy
     have:=RepL.get hc (off+d.cells.length+j)
     simp only[Array.length_toList]at hy
     rw[hl]at hy
     rw[hx,hy]at this;exact this)
   refine⟨r,?_,aK⟩
   rw[Instr.fill]
   simp only[List.getElem?_toArray,aL]
   rw[if_neg (by simp;omega)]
   simp only[List.getElem?_toArray]at aF
   exact aF
  ·cases h
theorem NT{g:G}: ∀{ks vs:List D}{es:List MapEntry},RepL g ks (es.map (·.key))->RepL g vs (es.map (·.val))->RepM g (ks.zip vs) es
 |[],vs,es,h1,_=>by
  have:es=[]:=by have:es.map (·.key)=[]:=h1;simpa using this
  subst this
  exact rfl
 |k::ks,vs,[],⟨_,_,h,_⟩,_=>by simp at h
 |k::ks,[],e::es,_,h=>by have:(e::es).map (·.val)=[]:=h;simp at this
 |k::ks,v::vs,e::es,⟨a,r,h1,h2,h3⟩,⟨a',r',aE,bp,bn⟩=>by
  simp only[List.map_cons,List.cons.injEq]at h1 aE
  obtain⟨rfl,rfl⟩:=h1
  obtain⟨rfl,rfl⟩:=aE
  exact⟨e,es,rfl,h2,bp,NT h3 bn⟩
theorem DR{P:Program}{w:World}{r clock:Nat}{es:Array MapEntry}(h:w.heap[r]? = some (.map es clock)):(getObj r).run P w=.ok (.map es clock) w:=by simp[getObj,Sem.run,h]
theorem Hj{g:G}{a:Option Addr}{es:List (List D)}{cap:Nat}(h1:es.length<=cap)(h2:es=[] \/ ∃sz b o,a=some ⟨b,o,none⟩/\RepE g b sz o es):Rep g (.slice es .no) (.slice a es.length cap):=
 ⟨a,cap,rfl,h1,h2,trivial⟩
section
variable {P:Program}{tab:Nat->Ty}(ht:AZ P tab){g:G}{O:Sig}{w:World}(hs:Sim P g O w)
include ht hs
theorem PN{t:Nat}{parts:Fr}{ps:List (Nat×Value)}{d:D}(h:MF tab t parts (tab t).k=some d)(hm:parts.map (·.1)=ps.map (·.1))(hr:RepL g (parts.map (·.2)) (ps.map (·.2))):
  PRun P g O d (Instr.build t ps.toArray) w:=by
 unfold MF at h
 split at h<;>(try (cases h;done))
 rename_i fs hk
 split at h<;>(try (cases h;done))
 rename_i aP
 obtain⟨out,ho,rfl⟩:=Option.map_eq_some_iff.1 h
 obtain⟨inf,desc,z,h1,h2,h3,h4,h5,h6,h7,h8,h9,aD⟩:=BO (ht t) (by rw[hk];simp)
 obtain⟨l,hl,aV⟩:=GJ ht hk
 have hz:RepL g (tab t).zero z.cells.toList:=by
  rw[h9]
  exact AE (by simp) fun j x v e1 e2=>by
   rw[List.getElem?_map,e2]at e1
   cases e1;exact Dk g v
 obtain⟨r,aF,aK⟩:=IB (P:=P) (tab:=tab) (fs:=fs) rfl ho hm hr hz
 have aL:l.toList.mapM (fun f=>(P.info? f.type).map fun i=>(f.offset,i.size))=some (fs.map fun p=>(p.1,(tab p.2).size)):=by
  rw[<-aV]
  rw[List.map_map]
  have key:∀(fl:List Field),(∀f∈fl,A1 (tab f.type).k=false)->fl.mapM (fun f=>(P.info? f.type).map fun i=>(f.offset,i.size))=some (fl.map ((fun p:Nat×Nat=>(p.1,(tab p.2).size)) ∘ fun f=>(f.offset,f.type))):=by
   intro fl
   induction fl with
   |nil=>intro _;rfl
   |cons f fl ih=>
    intro hh
    obtain⟨inf',_,_,g1,_,_,g4,_⟩:=BO (ht f.type) (Ae (hh f (by simp)))
    simp only[List.mapM_cons,g1,Option.map_some,Option.bind_eq_bind,Option.bind_some,ih fun x hx=>hh x (by simp[hx])]
    simp[g4]
  refine key _ fun f hf=>?_
  have:=(List.all_eq_true.1 aP) (f.offset,f.type) (by rw[<-aV];exact List.mem_map.2 ⟨f,hf,rfl⟩)
  simpa using this
 have hb:P.built t ps=some r:=by
  unfold Program.built
  rw[h1,hl]
  simp only[h7,aL]
  exact aF
 exact Av hs (v:=.agg r) (run_build w t ps.toArray r (by simpa using hb)) ⟨r.toList,by simp,aK⟩
theorem OX{t:Nat}{x d:D}{lo hi mx:Option D}{v:Value}{lo' ak mx':Option Value}(h:HZ tab (tab t).k x lo hi mx=some d)(hx:Rep g x v)
  (bd:lo'.isSome=lo.isSome /\ ∀a b,lo=some a->lo'=some b->Rep g a b) (aU:ak.isSome=hi.isSome /\ ∀a b,hi=some a->ak=some b->Rep g a b) (bc:mx'.isSome=mx.isSome /\ ∀a b,mx=some a->mx'=some b->Rep g a b) :
  PRun P g O d (Instr.sliceAt t v lo' ak mx') w:=by
 unfold HZ at h
 split at h<;>(try (cases h;done))
 ·rename_i e k hh hk
  obtain⟨hd,h⟩:=B9 h
  split at h<;>(try (cases h;done))
  rename_i es aA
  obtain⟨⟨c1,c2⟩,rfl⟩:=DB h
  obtain⟨a,cap,rfl,r1,r2⟩:=BY aA hx
  obtain rfl:lo'=none:=by cases lo'<;>simp_all
  obtain rfl:mx'=none:=by cases mx'<;>simp_all
  obtain⟨hv,rfl⟩:∃y,ak=some y:=by cases ak<;>simp_all
  have:=aU.2 _ _ rfl rfl
  rw[AQ this]
  have bj:hh<=(cap:Int):=by omega
  refine Av hs (v:=.slice a hh.toNat cap) ?_ ?_
  ·have hu:=AJ ht hk
   simp only[Instr.sliceAt,Instr.slice,Instr.sliceBounds,Instr.sliceBound,asIntOf,Sem.run_bind,Sem.run_pure,Result.andThen_ok,run_underlying hu,c1,bj,and_self,if_true,Az (ht e) (Ae (by simpa using hd)),Nat.sub_zero,Nat.zero_mul]
   congr 1
   cases a with
   |none=>simp
   |some a=>cases a;simp[Addr.add]
  ·have hl:(es.take hh.toNat).length=hh.toNat:=by simp;omega
   have:=Hj (g:=g) (a:=a) (es:=es.take hh.toNat) (cap:=cap) (by omega) (r2.imp (fun h=>by simp[h]) fun ⟨sz,b,o,q1,q2⟩=>⟨sz,b,o,q1,q2.take _⟩)
   rwa [hl]at this
 ·rename_i e k ll hk
  obtain⟨hd,h⟩:=B9 h
  split at h<;>(try (cases h;done))
  rename_i es aA
  obtain⟨⟨c1,c2,c3⟩,rfl⟩:=DB h
  obtain⟨a,cap,rfl,r1,r2⟩:=BY aA hx
  obtain rfl:ak=none:=by cases ak<;>simp_all
  obtain rfl:mx'=none:=by cases mx'<;>simp_all
  obtain⟨lv,rfl⟩:∃y,lo'=some y:=by cases lo'<;>simp_all
  have:=bd.2 _ _ rfl rfl
  rw[AQ this]
  refine Av hs (v:=.slice (if cap=ll.toNat then a else a.map (·.add (ll.toNat*(tab e).size))) (es.length-ll.toNat) (cap-ll.toNat)) ?_ ?_
  ·have hu:=AJ ht hk
   simp only[Instr.sliceAt,Instr.slice,Instr.sliceBounds,Instr.sliceBound,asIntOf,Sem.run_bind,Sem.run_pure,Result.andThen_ok,run_underlying hu,c1,c2,and_self,if_true,Az (ht e) (Ae (by simpa using hd))]
  ·have hl:(es.drop ll.toNat).length=es.length-ll.toNat:=by simp
   rw[<-hl]
   refine Hj (by omega) ?_
   by_cases hne:es.drop ll.toNat=[]
   ·exact .inl hne
   ·right
    have aT:ll.toNat<es.length:=by
     rcases Nat.lt_or_ge ll.toNat es.length with h|h
     ·exact h
     ·exact absurd (List.drop_of_length_le h) hne
    rw[if_neg (by omega)]
    rcases r2 with rfl|⟨sz,b,o,rfl,q2⟩
    ·simp at aT
    ·obtain rfl:=q2.size (by rintro rfl;simp at aT) (fun c hc=>by simpa using(List.all_eq_true.1 c3) c hc)
     exact⟨(tab e).size,b,o+ll.toNat*(tab e).size,by simp[Bu],q2.drop _⟩
 ·rename_i e k hh k' mm hk
  obtain⟨hd,h⟩:=B9 h
  split at h<;>(try (cases h;done))
  rename_i es aA
  obtain⟨⟨rfl,c2⟩,rfl⟩:=DB h
  obtain⟨a,cap,rfl,r1,r2⟩:=BY aA hx
  obtain rfl:lo'=none:=by cases lo'<;>simp_all
  obtain⟨mv,rfl⟩:∃y,mx'=some y:=by cases mx'<;>simp_all
  obtain⟨hv,rfl⟩:∃y,ak=some y:=by cases ak<;>simp_all
  have e1:=aU.2 _ _ rfl rfl
  have e2:=bc.2 _ _ rfl rfl
  rw[AQ e1,AQ e2,c2]
  have c3:((es.length:Nat):Int)<=(cap:Int):=by omega
  refine Av hs (v:=.slice a es.length es.length) ?_ ⟨a,es.length,rfl,Nat.le_refl _,r2,rfl⟩
  have hu:=AJ ht hk
  simp only[Instr.sliceAt,Instr.slice,Instr.sliceBounds,Instr.sliceBound,asIntOf,Sem.run_bind,Sem.run_pure,Result.andThen_ok,run_underlying hu,c3,Int.natCast_nonneg,Int.le_refl,Int.toNat_natCast,and_self,if_true,Az (ht e) (Ae (by simpa using hd)),Nat.sub_zero,Nat.zero_mul,Nat.le_refl]
  congr 1
  cases a with
  |none=>simp
  |some a=>cases a;simp[Addr.add]
theorem Hq{x:D}{l:List (D×D)}{v:Value}(h:C3 O x=some l)(hx:Rep g x v):
  ∃es:Array MapEntry,RepM g l es.toList/\(v=.map none/\es=#[] \/ ∃r clock,v=.map (some r)/\w.heap[r]? = some (.map es clock)):=by
 unfold C3 at h
 split at h<;>(try (cases h;done))
 ·cases h;exact⟨#[],rfl,.inl ⟨hx,rfl⟩⟩
 ·cases h
  obtain⟨b,es,clock,rfl,h1,_,h2,h3⟩:=hx
  exact⟨es,NT h2 h3,.inr ⟨b,clock,rfl,hs.keep _ _ h1⟩⟩
 ·split at h<;>(try (cases h;done))
  rename_i id l' hU
  cases h
  obtain⟨b,es,clock,h1,h2,h3⟩:=hs.obj _ _ hU
  obtain⟨b',h4,rfl⟩:=hx
  rw[h1]at h4;cases h4
  exact⟨es,h3.1,.inr ⟨b,clock,rfl,h2⟩⟩
theorem Na{t:Nat}{x k d:D}{ok:Bool}{v u:Value}(h:FL tab O ok (tab t).k x k=some d)(hx:Rep g x v)(hk:Rep g k u):PRun P g O d (Instr.lookup t v u ok) w:=by
 unfold FL at h
 split at h<;>(try (cases h;done))
 rename_i x k _ _ _ kt et ba
 obtain⟨hc,h⟩:=B9 h
 simp only[Bool.or_eq_true,not_or,Bool.not_eq_true,Bool.not_eq_eq_eq_not,Bool.not_true]at hc
 obtain⟨bm,aB⟩:=hc
 have aB:Bf (tab kt).k k=true:=by simpa using aB
 split at h<;>(try (cases h;done))
 rename_i l hl
 obtain⟨es,hm,hv⟩:=Hq ht hs hl hx
 have hu:=HO ht ba
 obtain⟨desc,ah,ae⟩:∃desc,P.underlying kt=some desc/\KOK desc (tab kt).k:=Ev ht rfl (by intro e;rw[e]at aB;cases k<;>cases aB)
 have aw:(Instr.checkKey es.isEmpty 10000 kt u).run P w=.ok () w:=by
  unfold Instr.checkKey
  simp only[Sem.run_bind,run_underlying ah,Result.andThen_ok]
  have aI:(∃kd k1 n1,(tab kt).k=.int kd/\k=.int k1 n1)\/(∃s1,(tab kt).k=.str/\k=.str s1):=by
   cases aN:(tab kt).k<;>cases k<;>simp[aN,Bf]at aB<;>simp
  rcases aI with⟨kd,k1,n1,e1,rfl⟩|⟨s1,e1,rfl⟩
  ·rw[e1]at ae
   rw[AQ hk]
   cases desc<;>simp[KOK]at ae
   rfl
  ·rw[e1]at ae
   rw[EE hk]
   cases desc<;>simp[KOK]at ae
   rfl
 split at h<;>(try (cases h;done))
 ·rename_i j d' hf
  cases h
  obtain⟨r',e1,e2⟩:=EZ (g:=g) ae hk hm hf
  cases r' with
  |none=>exact e2.elim
  | some q =>
   obtain⟨j',y⟩:=q
   obtain⟨_,e2,_⟩:=e2
   refine Av hs (v:=if ok then .tuple #[y,.bool true] else y) ?_ ?_
   ·rcases hv with⟨rfl,rfl⟩|⟨r,clock,rfl,hh⟩
    ·simp only[Instr.lookup,Sem.run_bind,run_underlying hu,Result.andThen_ok,Sem.run_pure,aw,Instr.findKey,run_underlying ah,e1]
    ·simp only[Instr.lookup,Sem.run_bind,run_underlying hu,Result.andThen_ok,Sem.run_pure,DR hh,aw,Instr.findKey,run_underlying ah,e1]
   ·cases ok
    ·exact e2
    ·exact⟨[y,.bool true],by simp,y,[.bool true],rfl,e2,.bool true,[],rfl,rfl,rfl⟩
 ·rename_i hf
  split at h<;>(try (cases h;done))
  rename_i zd hz
  cases h
  obtain⟨z,z1,z2⟩:=Ky ht bm hz w
  obtain⟨r',e1,e2⟩:=EZ (g:=g) ae hk hm hf
  cases r' with
  |some q=>exact e2.elim
  | none =>
   refine Av hs (v:=if ok then .tuple #[z,.bool false] else z) ?_ ?_
   ·rcases hv with⟨rfl,rfl⟩|⟨r,clock,rfl,hh⟩
    ·simp only[Instr.lookup,Sem.run_bind,run_underlying hu,Result.andThen_ok,Sem.run_pure,aw,Instr.findKey,run_underlying ah,e1,z1]
    ·simp only[Instr.lookup,Sem.run_bind,run_underlying hu,Result.andThen_ok,Sem.run_pure,DR hh,aw,Instr.findKey,run_underlying ah,e1,z1]
   ·cases ok
    ·exact z2 g
    ·exact⟨[z,.bool false],by simp,z,[.bool false],rfl,z2 g,.bool false,[],rfl,rfl,rfl⟩
end
theorem Sim.setAny{P:Program}{g:G}{O:Sig}{w:World}(hs:Sim P g O w){i b:Nat}{d d':DObj}{o x:Obj}(hi:O i=some d)(ht:d.isTail=false)(aQ:d'.isTail=false)(hb:g.rho i=some b)
  (hx:w.heap[b]? = some x) (hr:ObjRep P g (setB w b o) i d'):Sim P g (O.set i d') (setB w b o):=by
 have ag:blk g O i=some b:=by
  unfold blk;rw[hi]
  cases d<;>first|exact hb|cases ht
 have am:=hs.free i b ag
 have aS:∀o,g.imm b o=none:=am.2 fun o ho=>by rw[hi]at ho;cases ho;exact ht
 have aj:∀j,blk g (O.set i d') j=blk g O j:=by
  intro j
  by_cases hj:j=i
  ·subst hj
   rw[ag]
   unfold blk;rw[w6]
   cases d'<;>first|exact hb|cases aQ
  ·unfold blk;rw[w7 _ _ hj]
 exact {
  imm:=fun c o v h=>by
   have hc:c≠b:=fun e=>by rw[e,aS o]at h;cases h
   exact My (b:=b) (by simpa using hc) (fun k x hx hk=>by rw[Ed hk];exact hx) (hs.imm c o v h)
  keep:=fun k o h=>by
   have hc:k≠b:=fun e=>by rw[e,am.1]at h;cases h
   rw[Ed hc];exact hs.keep k o h
  obj:=fun j o h=>by
   by_cases hj:j=i
   ·subst hj
    rw[w6]at h;cases h;exact hr
   ·rw[w7 _ _ hj]at h
    exact(hs.obj j o h).setB h fun e=>hj (hs.inj j i b e ag)
  inj:=fun j k c h1 h2=>hs.inj j k c (by rw[<-aj];exact h1) (by rw[<-aj];exact h2)
  free:=fun j c h=>by
   rw[aj]at h
   obtain⟨h1,h2⟩:=hs.free j c h
   refine⟨h1,fun hh o=>?_⟩
   by_cases hj:j=i
   ·subst hj
    rw[ag]at h;cases h
    exact aS o
   ·exact h2 (fun x hx=>hh x (by rw[w7 _ _ hj];exact hx)) o
  htop:=fun j sz n k h hk=>by
   by_cases hj:j=i
   ·subst hj;rw[w6]at h;cases h;cases aQ
   ·rw[w7 _ _ hj]at h;exact hs.htop j sz n k h hk
  hdom:=hs.hdom
  io:=hs.io
  tab:=hs.tab
  fin:=hs.fin }
def Cu(kt:TyK)(k d:D)(l:List (D×D)):Option (List (D×D)):=
 match Ca kt k l 0 with
 |some (some (j,_))=>some (l.set j (k,d))
 |some none=>some (l++[(k,d)])
 |none=>none
theorem RepM.set{g:G}{k d:D}{kv v:Value}(hk:Rep g k kv)(hd:Rep g d v): ∀{l:List (D×D)}{es:List MapEntry} (j:Nat),RepM g l es->RepM g (l.set j (k,d)) (es.modify j fun e=>{ e with key:=kv,val:=v })
 |[],es,j,h=>by
  rw[show es=[] from h]
  cases j<;>simp[RepM]
 |(k',d')::l,es,0,⟨e,rest,he,h1,h2,h3⟩=>by
  subst he
  exact⟨{ e with key:=kv,val:=v },rest,by simp,hk,hd,h3⟩
 |(k',d')::l,es,j+1,⟨e,rest,he,h1,h2,h3⟩=>by
  subst he
  exact⟨e,rest.modify j fun e=>{ e with key:=kv,val:=v },by simp,h1,h2,RepM.set hk hd j h3⟩
theorem Stamps.modify{c:Nat}{es:Array MapEntry}(h:Stamps c es.toList)(j:Nat){u v:Value}:Stamps c (es.modify j fun e=>{ e with key:=u,val:=v }).toList:=by
 have e:(es.modify j fun e=>{ e with key:=u,val:=v }).toList.map (·.born)=es.toList.map (·.born):=by
  apply List.ext_getElem? ; intro k
  simp only[List.getElem?_map,Array.getElem?_toList,Array.getElem?_modify]
  by_cases hk:j=k
  ·subst hk;rw[if_pos rfl];cases es[j]? <;> rfl
  ·rw[if_neg hk]
 refine⟨by rw[e];exact h.1,fun x hx=>?_⟩
 have:x.born∈(es.modify j fun e=>{ e with key:=u,val:=v }).toList.map (·.born):=List.mem_map_of_mem hx
 rw[e]at this
 obtain⟨y,hy,aY⟩:=List.mem_map.1 this
 rw[<-aY];exact h.2 y hy
theorem Stamps.push{c:Nat}{es:Array MapEntry}(h:Stamps c es.toList){u v:Value}:Stamps (c+1) (es.push { key:=u,val:=v,born:=c }).toList:=by
 refine⟨?_,fun x hx=>?_⟩
 ·simp only[Array.toList_push,List.map_append,List.map_cons,List.map_nil]
  refine List.nodup_append.2 ⟨h.1,by simp,fun a ha b hb=>?_⟩
  obtain⟨y,hy,rfl⟩:=List.mem_map.1 ha
  have:=h.2 y hy
  simp at hb;omega
 ·simp only[Array.toList_push,List.mem_append,List.mem_singleton]at hx
  rcases hx with hx|rfl
  ·have:=h.2 x hx;omega
  ·simp
theorem RepM.push{g:G}{k d:D}{e:MapEntry}(hk:Rep g k e.key)(hd:Rep g d e.val): ∀{l:List (D×D)}{es:List MapEntry},RepM g l es->RepM g (l++[(k,d)]) (es++[e])
 |[],es,h=>by
  rw[show es=[] from h]
  exact⟨e,[],rfl,hk,hd,rfl⟩
 |(k',d')::l,es,⟨e',rest,he,h1,h2,h3⟩=>by
  subst he
  exact⟨e',rest++[e],rfl,h1,h2,RepM.push hk hd h3⟩
theorem N3{g:G}{kt:TyK}{k:D}{u v:Value}(hk:Bf kt k=true)(h1:Rep g k u)(h2:Rep g k v):Instr.sameBits 10000 u v=true:=by
 cases kt<;>cases k<;>simp only[Bf]at hk<;>try (cases hk;done)
 ·rw[AQ h1,AQ h2];simp[Instr.sameBits]
 ·rw[EE h1,EE h2]
  show(_==_)=true
  rename_i s
  show(s.toArray==s.toArray)=true
  simp
section
variable {P:Program}{tab:Nat->Ty}(ht:AZ P tab){g:G}{O:Sig}{w:World}(hs:Sim P g O w)
include ht hs
theorem Pi{t kt et:Nat}{k:D}{u:Value}(hk:Bf (tab kt).k k=true)(hr:Rep g k u)(e:Bool): ∃desc,P.underlying kt=some desc/\KOK desc (tab kt).k/\(Instr.checkKey e 10000 kt u).run P w=.ok () w:=by
 obtain⟨desc,ah,ae⟩:∃desc,P.underlying kt=some desc/\KOK desc (tab kt).k:=Ev ht rfl (by intro e;rw[e]at hk;cases k<;>cases hk)
 refine⟨desc,ah,ae,?_⟩
 unfold Instr.checkKey
 simp only[Sem.run_bind,run_underlying ah,Result.andThen_ok]
 have aI:(∃kd k1 n1,(tab kt).k=.int kd/\k=.int k1 n1)\/(∃s1,(tab kt).k=.str/\k=.str s1):=by
  cases aN:(tab kt).k<;>cases k<;>simp[aN,Bf]at hk<;>simp
 rcases aI with⟨kd,k1,n1,e1,rfl⟩|⟨s1,e1,rfl⟩
 ·rw[e1]at ae
  rw[AQ hr]
  cases desc<;>simp[KOK]at ae
  rfl
 ·rw[e1]at ae
  rw[EE hr]
  cases desc<;>simp[KOK]at ae
  rfl
theorem Jy{r clock clock':Nat}{es es':Array MapEntry}(h:w.heap[r]? = some (.map es clock)):(setObj r (.map es' clock')).run P w=.ok () (setB w r (.map es' clock')):=by
 simp[setObj,Sem.run,h,setB]
theorem Fx{t kt et id:Nat}{x k d:D}{l l':List (D×D)}{m u v:Value}(be:(tab t).k=.map kt et)(hk:Bf (tab kt).k k=true)(hm:x=.map id)(hU:O id=some (.map l))(hp:Cu (tab kt).k k d l=some l')
  (h1:Rep g x m) (h2:Rep g k u) (h3:Rep g d v):∃w',(Instr.mapUpdate t m u v).run P w=.ok () w'/\Sim P g (O.set id (.map l')) w':=by
 subst hm
 obtain⟨b',aC,rfl⟩:=h1
 obtain⟨b,es,clock,hb,hh,hr,aR⟩:=hs.obj _ _ hU
 rw[aC]at hb;cases hb
 obtain⟨desc,ah,ae,aw⟩:=Pi (t:=t) (et:=et) ht hs hk h2 false
 have hu:=HO ht be
 unfold Cu at hp
 split at hp<;>(try (cases hp;done))
 ·rename_i j dd hf
  cases hp
  obtain⟨r',e1,e2⟩:=EZ (g:=g) ae h2 hr hf
  cases r' with
  |none=>exact e2.elim
  | some q =>
   obtain⟨j',y⟩:=q
   obtain⟨rfl,e2,_,e,a1,a2,a3⟩:=e2
   rw[Nat.sub_zero]at a1
   have a1':es[j]? = some e:=by simpa using a1
   refine⟨setB w b' (.map (es.modify j fun e=>{ e with key:=u,val:=v }) clock),?_,?_⟩
   ·simp only[Instr.mapUpdate,Sem.run_bind,run_underlying hu,Result.andThen_ok,DR hh,aw,Instr.findKey,run_underlying ah,e1,Sem.run_pure,a1',Option.map_some,Option.getD_some,Instr.keyThatStays,N3 hk a2 h2,if_true]
    exact Jy ht hs hh
   ·refine hs.setAny hU rfl rfl aC hh ⟨b',_,clock,aC,Ee hh,?_,aR.modify j⟩
    simpa using RepM.set h2 h3 j hr
 ·rename_i hf
  cases hp
  obtain⟨r',e1,e2⟩:=EZ (g:=g) ae h2 hr hf
  cases r' with
  |some q=>exact e2.elim
  | none =>
   refine⟨setB w b' (.map (es.push { key:=u,val:=v,born:=clock }) (clock+1)),?_,?_⟩
   ·simp only[Instr.mapUpdate,Sem.run_bind,run_underlying hu,Result.andThen_ok,DR hh,aw,Instr.findKey,run_underlying ah,e1,Sem.run_pure]
    exact Jy ht hs hh
   ·refine hs.setAny hU rfl rfl aC hh ⟨b',_,clock+1,aC,Ee hh,?_,aR.push⟩
    simpa using RepM.push (e:={ key:=u,val:=v,born:=clock }) h2 h3 hr
end
section
variable {P:Program}{tab:Nat->Ty}(ht:AZ P tab){g:G}{O:Sig}{w:World}(hs:Sim P g O w)
include ht hs
theorem NE{xt t:Nat}{x d:D}{ok:Bool}{v:Value}(h:J7 tab t ok x=some d)(hx:Rep g x v):PRun P g O d (Instr.typeAssert v xt t ok) w:=by
 have ax:∀{α:Prop},A1 (tab t).k=false->FN (tab t).k=false->(∀desc,P.underlying t=some desc->(∀i,desc≠.interface i)->α)->α:=by
  intro α h1 h2 k
  obtain⟨desc,ah,ae⟩:=Ev ht rfl (Ae h1)
  refine k desc ah ?_
  rintro i rfl
  cases hk:(tab t).k<;>rw[hk]at ae h2<;>simp[KOK,FN]at ae h2
 cases x<;>simp only[J7]at h<;>try (cases h;done)
 ·rename_i t' d'
  obtain⟨hc,h⟩:=B9 h
  simp only[Bool.or_eq_true,not_or,Bool.not_eq_true]at hc
  obtain⟨y,rfl,hy⟩:=hx
  refine ax hc.1 hc.2 fun desc hd hn=>?_
  by_cases he:t'=t
  ·rw[if_pos he]at h
   cases h
   refine Av hs (v:=if ok then .tuple #[y,.bool true] else y) ?_ ?_
   ·simp only[Instr.typeAssert,Sem.run_bind,run_underlying hd,Result.andThen_ok]
    cases desc<;>first|exact absurd rfl (hn _)|simp[he]
   ·cases ok
    ·exact hy
    ·exact⟨[y,.bool true],by simp,y,[.bool true],rfl,hy,.bool true,[],rfl,rfl,rfl⟩
  ·rw[if_neg he]at h
   obtain⟨rfl,h⟩:ok=true/\_:=by
    cases ok
    ·simp at h
    ·exact⟨rfl,h⟩
   simp only[if_true]at h
   split at h<;>(try (cases h;done))
   rename_i zd hz
   cases h
   obtain⟨z,z1,z2⟩:=Ky ht hc.1 hz w
   refine Av hs (v:=.tuple #[z,.bool false]) ?_ ⟨[z,.bool false],by simp,z,[.bool false],rfl,z2 g,.bool false,[],rfl,rfl,rfl⟩
   simp only[Instr.typeAssert,Sem.run_bind,run_underlying hd,Result.andThen_ok]
   cases desc<;>first|exact absurd rfl (hn _)|simp[he,z1]
 ·obtain⟨hc,h⟩:=B9 h
  simp only[Bool.or_eq_true,not_or,Bool.not_eq_true]at hc
  refine ax hc.1 hc.2 fun desc hd hn=>?_
  obtain⟨rfl,h⟩:ok=true/\_:=by
   cases ok
   ·simp at h
   ·exact⟨rfl,h⟩
  simp only[if_true]at h
  split at h<;>(try (cases h;done))
  rename_i zd hz
  cases h
  obtain⟨z,z1,z2⟩:=Ky ht hc.1 hz w
  rw[show v=.nilIface from hx]
  refine Av hs (v:=.tuple #[z,.bool false]) ?_ ⟨[z,.bool false],by simp,z,[.bool false],rfl,z2 g,.bool false,[],rfl,rfl,rfl⟩
  simp only[Instr.typeAssert,Sem.run_bind,run_underlying hd,Result.andThen_ok]
  cases desc<;>first|exact absurd rfl (hn _)|simp[z1]
theorem Tl{γ:Fr}{m:Nat}{a:Act}(hT:RepT g γ m a.tmps){o:Oper}{d:D}(h:dop2 tab γ O o.op=some d):ORun P g O d (execOp a.eval o) w:=by
 obtain⟨dst,op,type,pos,after,guard⟩:=o
 simp only at h
 have E:=fun x=>Ah hT x
 have au:∀(x:Option Operand),(x.map a.eval).isSome=(x.map (ev γ)).isSome /\ ∀p q,x.map (ev γ)=some p->x.map a.eval=some q->Rep g p q:=by
  intro x
  cases x with
  |none=>exact⟨rfl,fun p q h=>by cases h⟩
  |some y=>exact⟨rfl,fun p q h1 h2=>by cases h1;cases h2;exact E y⟩
 unfold execOp
 cases op<;>simp only[dop2]at h<;>(try (cases h;done))
 case slice t x lo hi mx=>exact .of (OX ht hs h (E x) (au lo) (au hi) (au mx))
 case lookup t x k ok=>exact .of (Na ht hs h (E x) (E k))
 case typeAssert x xt t ok=>exact .of (NE ht hs h (E x))
 case build t parts=>
  refine .of ?_
  have:=PN (ps:=parts.toList.map fun p=>(p.1,a.eval p.2)) ht hs h (by simp) (by
   rw[List.map_map,List.map_map]
   have:=CR hT (parts.toList.map (·.2))
   rw[List.map_map,List.map_map]at this
   exact this)
  have e:(parts.toList.map fun p=>(p.1,a.eval p.2)).toArray=parts.map fun (i,x)=>(i,a.eval x):=by
   rw[Ea]
  rw[e]at this
  exact this
 case call c=>
  obtain⟨callee,args,ats⟩:=c
  unfold Fp at h
  split at h<;>(try (cases h;done))
  ·rename_i hc
   subst hc
   unfold H0 at h
   split at h<;>(try (cases h;done))
   rename_i t x e1 e2
   obtain rfl:ats=#[t]:=by apply Array.ext';simpa using e1
   obtain rfl:args=#[x]:=by apply Array.ext';simpa using e2
   split at h<;>(try (cases h;done))
   rename_i kt et hk
   obtain⟨l,hl,rfl⟩:=Option.map_eq_some_iff.1 h
   obtain⟨es,hm,hv⟩:=Hq ht hs hl (E x)
   have hlen:∀{l:List (D×D)}{es:List MapEntry},RepM g l es->es.length=l.length:=by
    intro l
    induction l with
    |nil=>intro es h;rw[show es=[] from h];rfl
    |cons p l ih=>intro es h;obtain⟨e,rest,rfl,_,_,h3⟩:=h;simp[ih h3]
   have aG:=hlen hm
   simp only[Array.length_toList]at aG
   refine⟨g,w,.int .i64 l.length,?_,.refl g,hs,rfl⟩
   rcases hv with⟨hv,rfl⟩|⟨r,clock,hv,hh⟩
   ·simp at aG
    simp[resolve,invoke,builtin,Builtin.len_,run_underlying (HO ht hk),hv,goInt,<-aG]
   ·simp[resolve,invoke,builtin,Builtin.len_,run_underlying (HO ht hk),hv,DR hh,goInt,aG]
  ·rename_i x y hc aa
   subst hc
   obtain rfl:args=#[x,y]:=by apply Array.ext';simpa using aa
   unfold LC at h
   split at h<;>(try (cases h;done))
   ·rename_i k p k' q hb e1 e2
    cases h
    have h1:=E x
    have h2:=E y
    rw[e1]at h1
    rw[e2]at h2
    refine⟨g,w,.int k (if q>p then q else p),?_,.refl g,hs,rfl⟩
    simp[resolve,invoke,builtin,Builtin.max_,Builtin.max2,AQ h1,AQ h2]
   ·rename_i hb e1 e2
    cases hb
  ·rename_i x y hc aa
   subst hc
   obtain rfl:args=#[x,y]:=by apply Array.ext';simpa using aa
   unfold LC at h
   split at h<;>(try (cases h;done))
   ·rename_i hb e1 e2
    cases hb
   ·rename_i k p k' q hb e1 e2
    cases h
    have h1:=E x
    have h2:=E y
    rw[e1]at h1
    rw[e2]at h2
    refine⟨g,w,.int k (if q<p then q else p),?_,.refl g,hs,rfl⟩
    simp[resolve,invoke,builtin,Builtin.min_,Builtin.min2,AQ h1,AQ h2]
end
def DO (tab:Nat->Ty) (O:Sig) (T:Nat):D->D->Option (D × Sig)
 |.ptr i off,d=>match O i with
  | some (.cells ds)=>if A1 (tab T).k || !d.told || d.cells.length != (tab T).size || !BB d.cells || decide (ds.length < off+d.cells.length) then none else
    some (.any,O.set i (.cells (ds.take off++d.cells++ds.drop (off+d.cells.length))))
  |_=>none
 |_,_=>none
def updD(tab:Nat->Ty)(O:Sig):TyK->D->D->D->Option (D×Sig)
 | .map kt _, .map id,k,d=>if !Bf (tab kt).k k then none else match O id with
  |some (.map l)=>match Cu (tab kt).k k d l with
   |some l'=>some (.any,O.set id (.map l'))
   |none=>none
  |_=>none
 |_,_,_,_=>none
def FH:TyK->Option Nat
 |.slice e=>some e
 |_=>none
def appD (tab:Nat->Ty) (O:Sig):List TypeId->D->D->Option (D × Sig)
 | [T,T'], .slice es (.tag id),x=>match FH (tab T).k,FH (tab T').k,O id,esOf x with
  | some e,some _,some (.tail sz k),some new =>
   if A1 (tab e).k||sz != (tab e).size||k != es.length||!es.all (fun c=>c.length==(tab e).size)||!new.all (fun c=>c.length==(tab e).size)||!new.all BB ||
     decide (140737488355328<(es.length+new.length)*(tab e).bytes)||decide (9223372036854775807<es.length+new.length) then none else
    some (.slice (es++new) (.tag id),O.set id (.tail (tab e).size (es.length+new.length)))
  |_,_,_,_=>none
 |_,_,_=>none
def bapD(tab:Nat->Ty)(O:Sig)(ts:List TypeId)(γ:Fr):Callee->List Operand->Option (D×Sig)
 |.builtin .append,[s,x]=>appD tab O ts (ev γ s) (ev γ x)
 |_,_=>none
def eopD(tab:Nat->Ty)(γ:Fr)(O:Sig):Op->Option (D×Sig)
 |.store T x y=>DO tab O T (ev γ x) (ev γ y)
 |.mapUpdate t m k x=>updD tab O (tab t).k (ev γ m) (ev γ k) (ev γ x)
 |.insert t m k x=>updD tab O (tab t).k (ev γ m) (ev γ k) (ev γ x)
 |.call c=>bapD tab O c.argTypes.toList γ c.callee c.args.toList
 |_=>none
def dopX(tab:Nat->Ty)(γ:Fr)(O:Sig)(op:Op):Option D:=
 match dop tab γ O op with
 |some d=>some d
 |none=>dop2 tab γ O op
def letOp(vars:List Nat)(o:Oper)(l:List Oper):Option (Nat×Nat×Operand):=
 match o.op with
 |.alloc T=>match o,l with
  |⟨some t,_,_,_,_,none⟩,⟨none,.store T' (.tmp t') x,_,_,_,none⟩::_=>if T==T'&&t==t'&&!vars.contains t then some (t,T,x) else none
  |_,_=>none
 |_=>none
def Ew(t:Nat):Operand->Bool
 |.tmp k=>k != t
 |_=>true
def Uq(vars:List Nat)(o:Oper):Bool:=
 match o.dst with
 |some t=>vars.contains t
 |none=>false
def isDefer:Op->Bool
 |.defer _=>true
 |_=>false
def Mj (tab:Nat->Ty) (N n:Nat) (ops:Array Oper) (vars:List Nat):List Oper->Fr->Sig->Option (List Oper × Fr × Sig)
 |[],γ,O=>some ([],γ,O)
 | o::l,γ,O =>
  match Ay ops γ o with
  | some true =>
   match letOp vars o l with
   |some (t,T,x)=>
    match l with
    |[]=>none
    | _::l'=>if A1 (tab T).k || !decide (t < n) || !Ew t x || !(ev γ x).told || (ev γ x).cells.length != (tab T).size || !BB (ev γ x).cells then none else
      Mj tab N n ops vars l' ((t,.cptr (ev γ x).cells 0)::γ) O
   | none =>
    if Uq vars o||isDefer o.op then some (o::l,γ,O) else
    match dopX tab γ O o.op with
    |some d=>if Ar n o then Mj tab N n ops vars l (putD o.dst d γ) O else none
    |none=>
     match eopD tab γ O o.op with
     |some (d,U')=>if Ar n o then Mj tab N n ops vars l (putD o.dst d γ) U' else none
     |none=>some (o::l,γ,O)
  |some false=>if DQ N o.op&&Ar n o then Mj tab N n ops vars l (putD o.dst .any γ) O else none
  |none=>none
section
variable {P:Program}{ro:Ro}{n:Nat}{ops:Array Oper}{Q:DX->St->Prop}{tab:Nat->Ty}(ht:AZ P tab)
include ht
theorem J9{γ:Fr}{O:Sig}{o:Oper}{d:D}(h:dopX tab γ O o.op=some d)(w:World)(ρ:Operand->Value)(f:Nat):o.about P w ρ=some f->False:=by
 by_cases hc:∃c,o.op=.call c
 ·obtain⟨c,hc⟩:=hc
  obtain⟨callee,args,ats⟩:=c
  cases callee with
  |builtin b=>exact B4 hc rfl w ρ f
  |value x=>rw[hc]at h;cases h
  |invoke r m=>rw[hc]at h;cases h
 ·exact Aa (fun c e=>hc ⟨c,e⟩) w ρ f
theorem F3{g:G}{O:Sig}{w:World}(hs:Sim P g O w){γ:Fr}{m:Nat}{a:Act}(hT:RepT g γ m a.tmps){o:Oper}{d:D}(h:dopX tab γ O o.op=some d):ORun P g O d (execOp a.eval o) w:=by
 unfold dopX at h
 split at h
 ·rename_i d' hd
  cases h
  exact Ve ht hs hT hd
 ·exact Tl ht hs hT h
theorem Fk{γ:Fr}{O U':Sig}{df:List DDf}{o:Oper}{rest:List Oper}{d:D}(hw:Ay ops γ o=some true)(he:eopD tab γ O o.op=some (d,U'))(ho:Ar n o=true)
  (h:DOps P ro n ops Q rest ⟨putD o.dst d γ,U',df⟩):DOps P ro n ops Q (o::rest) ⟨γ,O,df⟩:=by
 obtain⟨dst,op,type,pos,after,guard⟩:=o
 cases op<;>simp only[eopD]at he<;>try (cases he;done)
 case store T x y=>
  unfold DO at he
  split at he<;>(try (cases he;done))
  rename_i i off hx
  split at he<;>(try (cases he;done))
  rename_i ds hi
  obtain⟨hc,he⟩:=B9 he
  cases he
  simp only[Bool.or_eq_true,not_or,Bool.not_eq_true,Bool.not_eq_eq_eq_not,Bool.not_true,Bool.not_false,bne_eq_false_iff_eq,decide_eq_false_iff_not,Nat.not_lt]at hc
  obtain⟨⟨⟨⟨c1,c2⟩,c3⟩,c4⟩,c5⟩:=hc
  refine Er (d:=.any) (U':=O.set i (.cells (ds.take off++(ev γ y).cells++ds.drop (off+(ev γ y).cells.length)))) hw (fun c e=>by cases e) (Aa fun c e=>by cases e) ?_ ho h
  intro g w a hs hT
  obtain⟨w',h1,h2⟩:=Lh ht hs hT c1 hx hi (by simpa using c2) c3 (by simpa using c4) c5
  exact⟨g,w',undef,.inr ⟨by simp only[execOp,Sem.run_bind,h1,Result.andThen_ok];rfl,rfl⟩,.refl g,h2,trivial⟩
 case mapUpdate t m k x=>
  unfold updD at he
  split at he<;>(try (cases he;done))
  rename_i kt et id hk hm
  obtain⟨hc,he⟩:=B9 he
  split at he<;>(try (cases he;done))
  rename_i l hU
  split at he<;>(try (cases he;done))
  rename_i l' hp
  cases he
  refine Er (d:=.any) (U':=O.set id (.map l')) hw (fun c e=>by cases e) (Aa fun c e=>by cases e) ?_ ho h
  intro g w a hs hT
  obtain⟨w',h1,h2⟩:=Fx ht hs hk (by simpa using hc) hm hU hp (Ah hT m) (Ah hT k) (Ah hT x)
  exact⟨g,w',undef,.inr ⟨by simp only[execOp,Sem.run_bind,h1,Result.andThen_ok];rfl,rfl⟩,.refl g,h2,trivial⟩
 case insert t m k x=>
  unfold updD at he
  split at he<;>(try (cases he;done))
  rename_i kt et id hk hm
  obtain⟨hc,he⟩:=B9 he
  split at he<;>(try (cases he;done))
  rename_i l hU
  split at he<;>(try (cases he;done))
  rename_i l' hp
  cases he
  refine Er (d:=.any) (U':=O.set id (.map l')) hw (fun c e=>by cases e) (Aa fun c e=>by cases e) ?_ ho h
  intro g w a hs hT
  obtain⟨w',h1,h2⟩:=Fx ht hs hk (by simpa using hc) hm hU hp (Ah hT m) (Ah hT k) (Ah hT x)
  exact⟨g,w',undef,.inr ⟨by simp only[execOp,Sem.run_bind,h1,Result.andThen_ok];rfl,rfl⟩,.refl g,h2,trivial⟩
 case call c=>
  obtain⟨callee,args,ats⟩:=c
  unfold bapD at he
  split at he<;>(try (cases he;done))
  rename_i s x hc aa
  simp only at hc aa he
  subst hc
  obtain rfl:args=#[s,x]:=by apply Array.ext';simpa using aa
  unfold appD at he
  split at he<;>(try (cases he;done))
  rename_i T T' es id a8 bb
  obtain rfl:ats=#[T,T']:=by apply Array.ext';simpa using a8
  split at he<;>(try (cases he;done))
  rename_i e e' sz k new q1 q2 q3 q4
  obtain⟨hc,he⟩:=B9 he
  cases he
  have bh:(tab T).k=.slice e:=by
   unfold FH at q1
   split at q1<;>(try (cases q1;done))
   rename_i e0 h0;cases q1;exact h0
  have bf:(tab T').k=.slice e':=by
   unfold FH at q2
   split at q2<;>(try (cases q2;done))
   rename_i e0 h0;cases q2;exact h0
  simp only[Bool.or_eq_true,not_or,Bool.not_eq_true,Bool.not_eq_eq_eq_not,Bool.not_true,Bool.not_false,bne_eq_false_iff_eq,decide_eq_false_iff_not,Nat.not_lt,Bool.not_eq_false,List.all_eq_true,beq_iff_eq]at hc
  obtain⟨⟨⟨⟨⟨⟨⟨c1,c2⟩,c3⟩,c4⟩,c5⟩,c6⟩,c7⟩,c8⟩:=hc
  subst c2 c3
  exact Er (d:=.slice (es++new) (.tag id)) hw (fun c e=>by cases e) (B4 rfl rfl) (J8 (e':=e') ht bh bf c1 bb q3 q4 c4 c5 c6 c7 c8) ho h
end
section
variable {P:Program}{ro:Ro}{n:Nat}{ops:Array Oper}{Q:DX->St->Prop}{tab:Nat->Ty}(ht:AZ P tab)
include ht
theorem G9{t:Nat}{x:Operand}(h:Ew t x=true):x≠.tmp t:=by
 rintro rfl
 simp[Ew]at h
theorem Ms{γ:Fr}{O:Sig}{df:List DDf}{rest:List Oper}{t T:Nat}{r:Option Operand}{ty:TypeId}{pos:String}{after:Array Edge}{guard:Option (Nat×Bool)}
  (hw:Ay ops γ ⟨some t,.makeMap T r,ty,pos,after,guard⟩=some true) (hr:r=none \/ ∃x kt et k v,r=some x/\(tab T).k=.map kt et/\ev γ x=.int k v) (aq:t<n)
  (h:∀i,O i=none->DOps P ro n ops Q rest ⟨(t,.map i)::γ,O.set i (.map []),df⟩) :
  DOps P ro n ops Q (⟨some t,.makeMap T r,ty,pos,after,guard⟩::rest) ⟨γ,O,df⟩:=by
 refine GD (mk:=fun i=>.map i) (d:=.map []) hw (fun c e=>by cases e) (Aa fun c e=>by cases e) (by simp[Ar,aq]) rfl ?_ h
 intro g w a hs hT
 refine⟨.map #[] 0,.map (some w.heap.size),?_,fun i hi=>⟨⟨w.heap.size, #[],0,by simp[G.bind],by simp,rfl,by simp[Stamps]⟩,w.heap.size,by simp[G.bind],rfl⟩⟩
 rcases hr with rfl|⟨x,kt,et,k,v,rfl,hk,hx⟩
 ·simp only[execOp,Instr.makeMap,newObj,Sem.run_bind,Sem.run,Option.map_none,Result.andThen_ok]
  rfl
 ·have:=Ah hT x
  rw[hx]at this
  have hu:=run_underlying (HO ht hk) w
  simp only[execOp,Instr.makeMap,newObj,Option.map_some,AQ this,Sem.run_bind,hu,Result.andThen_ok,asInt,Sem.run_pure]
  rfl
omit ht in
theorem PF{γ:Fr}{O:Sig}{df:List DDf}{rest:List Oper}{x:Operand}{dst:Option Tmp}{ty:TypeId}{pos:String}{after:Array Edge}{guard:Option (Nat×Bool)}{t:Nat}{d:D}
  (hw:Ay ops γ ⟨dst,.panic x,ty,pos,after,guard⟩=some true) (hx:ev γ x=.iface t d) (h:Q (.panic (.iface t d)) ⟨γ,O,df⟩) :
  DOps P ro n ops Q (⟨dst,.panic x,ty,pos,after,guard⟩::rest) ⟨γ,O,df⟩:=by
 intro g w a r hr hs
 unfold wpListIn
 rw[AH hs.tmps hw,if_pos rfl]
 refine⟨fun f hf=>(Aa (fun c e=>by cases e) _ _ f hf).elim,?_⟩
 have hv:=Ah hs.tmps x
 rw[show ev (St.mk γ O df).γ x=.iface t d from hx]at hv
 obtain⟨y,hy,aX⟩:=hv
 have ai:(execOp a.eval ⟨dst,.panic x,ty,pos,after,guard⟩).run P w=.halt (.panic (.iface t y)) w:=by
  simp only[execOp,hy,Instr.panic,Sem.run_bind]
  rfl
 rw[Oper.semAt_eq _ _ _ (fun c e=>by cases e),ai]
 exact⟨g,⟨γ,O,df⟩,.panic (.iface t d),.refl g,hs,⟨.iface t y,rfl,y,rfl,aX⟩,h⟩
end
section
variable (tab:Nat->Ty)(N n:Nat)(ops:Array Oper)(vars:List Nat)(l:List Oper)(γ:List (Nat×D))(O:Sig)
def putX(o:Oper):Option D->Option (List Oper×Fr×Sig)
 |some d=>if Uq vars o then some (o::l,γ,O) else if Ar n o then Mj tab N n ops vars l (putD o.dst d γ) O else none
 |none=>some (o::l,γ,O)
def putE(o:Oper):Option (D×Sig)->Option (List Oper×Fr×Sig)
 |some (d,U')=>if Uq vars o then some (o::l,γ,O) else if Ar n o then Mj tab N n ops vars l (putD o.dst d γ) U' else none
 |none=>some (o::l,γ,O)
def skipX(o:Oper):Option (List Oper×Fr×Sig):=match DQ N o.op&&Ar n o with
 |true=>Mj tab N n ops vars l (putD o.dst .any γ) O
 |false=>none
@[simp] theorem putX_none(o:Oper):putX tab N n ops vars l γ O o none=some (o::l,γ,O):=rfl
@[simp] theorem putE_none(o:Oper):putE tab N n ops vars l γ O o none=some (o::l,γ,O):=rfl
@[simp] theorem skipX_eq(o:Oper):skipX tab N n ops vars l γ O o=match DQ N o.op&&Ar n o with
 |true=>Mj tab N n ops vars l (putD o.dst .any γ) O
 |false=>none:=rfl
variable (dst:Option Tmp)(ty:TypeId)(pos:String)(af:Array Edge)(gd:Option (Nat×Bool))
end
attribute [simp] Uq Ew DO esOf C3 Hr J7 Pk MF BB D.flat
section
variable (tab:Nat->Ty)(O:Sig)(e T T' k t:Nat)(es new:List (List D))(o:Own)(x d:D)(h m l:Int)(k1 k2:IntKind)(c:Bool)(γ:List (Nat×D))(id:Nat)(fs:List (Nat×Nat))(parts:List (Nat×D))(kt:TyK)
@[simp] theorem sliceD_h:HZ tab (.slice e) x none (some (.int k1 h)) none=if A1 (tab e).k then none else match esOf x with
  |some es=>if 0<=h/\h<=es.length then some (.slice (es.take h.toNat) .no) else none
  |none=>none:=rfl
@[simp] theorem sliceD_l:HZ tab (.slice e) x (some (.int k1 l)) none none=if A1 (tab e).k then none else match esOf x with
  |some es=>if 0<=l/\l<=es.length/\es.all (fun c=>c.length==(tab e).size) then some (.slice (es.drop l.toNat) .no) else none
  |none=>none:=rfl
@[simp] theorem sliceD_m:HZ tab (.slice e) x none (some (.int k1 h)) (some (.int k2 m))=if A1 (tab e).k then none else match esOf x with
  |some es=>if h=m/\m=es.length then some (.slice es .clip) else none
  |none=>none:=rfl
@[simp] theorem QW:FL tab O c (.map T e) x d=if A1 (tab e).k || !Bf (tab T).k d then none else match C3 O x with
  | some l=>match Ca (tab T).k d l 0 with
   |some (some (_,d))=>some (if c then .tup [d,.bool true] else d)
   |some none=>match Hr (tab e)with
    |some z=>some (if c then .tup [z,.bool false] else z)
    |none=>none
   |none=>none
  |none=>none:=rfl
@[simp] theorem simpleKey_i:Bf (.int k1) (.int k2 h)=true:=rfl
@[simp] theorem simpleKey_s(s:List UInt8):Bf .str (.str s)=true:=rfl
@[simp] theorem mostD_t:LC true (.int k1 h) (.int k2 m)=some (.int k1 (if m>h then m else h)):=rfl
@[simp] theorem mostD_f:LC false (.int k1 h) (.int k2 m)=some (.int k1 (if m<h then m else h)):=rfl
@[simp] theorem sliceEl_s:FH (.slice e)=some e:=rfl
@[simp] theorem updD_m:updD tab O (.map T e) (.map id) x d=if !Bf (tab T).k x then none else match O id with
  |some (.map l)=>match Cu (tab T).k x d l with
   |some l'=>some (.any,O.set id (.map l'))
   |none=>none
  |_=>none:=rfl
@[simp] theorem appD_t:appD tab O [T,T'] (.slice es (.tag id)) x=match FH (tab T).k,FH (tab T').k,O id,esOf x with
  | some e,some _,some (.tail sz k),some new =>
   if A1 (tab e).k||sz != (tab e).size||k != es.length||!es.all (fun c=>c.length==(tab e).size)||!new.all (fun c=>c.length==(tab e).size)||!new.all BB ||
     decide (140737488355328<(es.length+new.length)*(tab e).bytes)||decide (9223372036854775807<es.length+new.length) then none else
    some (.slice (es++new) (.tag id),O.set id (.tail (tab e).size (es.length+new.length)))
  |_,_,_,_=>none:=rfl
@[simp] theorem lenMapD_s:H0 tab γ O [t] [.tmp k]=(match (tab t).k with
  |.map _ _=>(C3 O (getD γ k)).map fun l=>.int .i64 l.length
  |_=>none):=rfl
end
section
variable {P:Program}{ro:Ro}{n:Nat}{ops:Array Oper}{Q:DX->St->Prop}{tab:Nat->Ty}{df:List DDf}(ht:AZ P tab)
include ht
theorem PH{γ:Fr}{O:Sig}{rest:List Oper}{t T T':Nat}{x:Operand}{ty:TypeId}{pos:String}{after:Array Edge}{guard:Option (Nat×Bool)}{es:List (List D)}{o:Own}{e:Nat}(hk:(tab T).k=.slice e)
  (hw:Ay ops γ ⟨some t,.binOp .eql T x (.const (.slice none 0 0)) T',ty,pos,after,guard⟩=some true) (hx:ev γ x=.slice es o) (aq:t<n)
  (h:∀b,(b=true->es=[])->DOps P ro n ops Q rest ⟨(t,.bool b)::γ,O,df⟩) :
  DOps P ro n ops Q (⟨some t,.binOp .eql T x (.const (.slice none 0 0)) T',ty,pos,after,guard⟩::rest) ⟨γ,O,df⟩:=by
 intro g w a r hr hs
 unfold wpListIn
 rw[AH hs.tmps hw,if_pos rfl]
 refine⟨fun f hf=>(Aa (fun c e=>by cases e) _ _ f hf).elim,?_⟩
 have hv:=Ah hs.tmps x
 rw[show ev (St.mk γ O df).γ x=.slice es o from hx]at hv
 obtain⟨b,cap,h1,h2,h3,_⟩:=hv
 have ai:∃c:Bool,(c=true->es=[])/\(execOp a.eval ⟨some t,.binOp .eql T x (.const (.slice none 0 0)) T',ty,pos,after,guard⟩).run P w=.ok (.value (.bool c)) w:=by
  refine⟨b.isNone,fun hb=>?_,?_⟩
  ·rcases h3 with h3|⟨sz,b',o,rfl,_⟩
   ·exact h3
   ·cases hb
  ·have:=run_equal_slice_nil (P:=P) w T e b es.length cap (AJ ht hk)
   have aE:a.eval x=.slice b es.length cap:=h1
   have hg:(eqGuard .eql T x (.const (.slice none 0 0)) (a.eval x) (.slice none 0 0)).run P w=.ok () w:=by rw[aE];rfl
   simp only[execOp,Sem.run_bind,show a.eval (.const (.slice none 0 0))=.slice none 0 0 from rfl,hg,Result.andThen_ok]
   simp only[binOp,Sem.run_bind,aE,this,Result.andThen_ok]
   rfl
 obtain⟨c,hc,ai⟩:=ai
 rw[Oper.semAt_eq _ _ _ (fun c e=>by cases e),ai]
 exact h c hc g w _ r hr (hs.put (o:=⟨some t,.binOp .eql T x (.const (.slice none 0 0)) T',ty,pos,after,guard⟩) (.refl g) hs.sim (d:=.bool c) rfl (by simp[Ar,aq]))
theorem Ey{γ:Fr}{O:Sig}{rest:List Oper}{t T T' ty e e':Nat}{s x:Operand}{pos:String}{after:Array Edge}{guard:Option (Nat×Bool)}{es:List (List D)}
  (hw:Ay ops γ ⟨some t,(cA s x T T'),ty,pos,after,guard⟩=some true) (aq:t<n)
  (hk:(tab T).k=.slice e) (aO:(tab T').k=.slice e') (he:A1 (tab e).k=false) (h1:esOf (ev γ s)=some es) (h2:esOf (ev γ x)=some [])
  (h:DOps P ro n ops Q rest ⟨(t,ev γ s)::γ,O,df⟩) :
  DOps P ro n ops Q (⟨some t,(cA s x T T'),ty,pos,after,guard⟩::rest) ⟨γ,O,df⟩:=by
 refine Er (d:=ev γ s) (U':=O) hw (fun c e=>by cases e) (B4 rfl rfl) ?_ (by simp[Ar,aq]) h
 intro g w a hs hT
 obtain⟨i,z,t1,t2,t3,t4,t5,t6,t7⟩:=Bd ht hk aO he
 obtain⟨sa,sc,r1,r2,r3⟩:=BY h1 (Ah hT s)
 obtain⟨xa,xc,q1,q2,q3⟩:=BY h2 (Ah hT x)
 refine⟨g,w,a.eval s,.inl (Ap ?_),.refl g,hs,Ah hT s⟩
 rw[r1,q1]
 have:=Bb (ty:=ty) t1 t2 t3 (w:=w) (w2:=w) (base:=sa) (xa:=xa) (n:=es.length) (cap:=sc) (m:=0) (xc:=xc) (news:=[]) (Al (by simp) (.inl rfl)) (by omega) (fun b _=>by simp[storeCells,Sem.run]) (fun _=>rfl)
 simpa using this
theorem Cd{γ:Fr}{O:Sig}{rest:List Oper}{t T T' ty e e':Nat}{s x:Operand}{pos:String}{after:Array Edge}{guard:Option (Nat×Bool)}{es new:List (List D)}
  (hw:Ay ops γ ⟨some t,(cA s x T T'),ty,pos,after,guard⟩=some true) (aq:t<n)
  (hk:(tab T).k=.slice e) (aO:(tab T').k=.slice e') (he:A1 (tab e).k=false) (h1:ev γ s=.slice es .clip) (h2:esOf (ev γ x)=some new) (hne:new≠[])
  (hlen:∀c∈es,c.length=(tab e).size) (hlen':∀c∈new,c.length=(tab e).size) (hb:(es.length+new.length)*(tab e).bytes<=140737488355328) (hm:es.length+new.length<=9223372036854775807)
  (h:∀i,O i=none->DOps P ro n ops Q rest ⟨(t,.slice (es++new) (.tag i))::γ,O.set i (.tail (tab e).size (es.length+new.length)),df⟩) :
  DOps P ro n ops Q (⟨some t,(cA s x T T'),ty,pos,after,guard⟩::rest) ⟨γ,O,df⟩:=
 IN ht hw aq hk aO he (.inr ⟨h1,hne⟩) h2 hlen hlen' hb hm h
end
section
variable {P:Program}{ro:Ro}{n:Nat}{ops:Array Oper}{Q:DX->St->Prop}{rest:List Oper}{s:St}
theorem Dg{fop:Operand}{args:Array Operand}{ats:Array TypeId}{dst:Option Tmp}{ty:TypeId}{pos:String}{after:Array Edge}{guard:Option (Nat×Bool)}{f:Nat}{first cap az:List D}{R:DE->Sig->Prop}
  (hw:Ay ops s.γ ⟨dst,(cv fop args ats),ty,pos,after,guard⟩=some true)
  (hf:ev s.γ fop=.func (.func f) first cap) (h:DCall P f az s.O R) (ha:WkL (first++args.toList.map (ev s.γ)++cap) az)
  (ho:Ar n ⟨dst,(cv fop args ats),ty,pos,after,guard⟩=true)
  (aJ:∀d U',R (.ret d) U'->DOps P ro n ops Q rest { s with γ:=putD dst d s.γ,O:=U' })
  (aM:∀d U',R (.panic d) U'->Q (.panic d) { s with O:=U' }) :
  DOps P ro n ops Q (⟨dst,(cv fop args ats),ty,pos,after,guard⟩::rest) s:=
 Tj hw hf (h.wk ha) ho aJ aM
end
@[simp] def TellsS(γ:Fr):List Nat->Fr->Prop
 |_,[]=>True
 |seen,p::r=>(if p.1∈seen then True else WkD (getD γ p.1) p.2)/\TellsS γ (p.1::seen) r
theorem TellsS.get{γ:Fr}: ∀{V':Fr}{seen:List Nat},TellsS γ seen V'->∀t,t∉seen->WkD (getD γ t) (getD V' t)
 |[],_,_,t,_=>E7 _
 | (i,d)::r,seen,h,t,hs=>by
  rw[A4]
  by_cases ht:t=i
  ·subst ht
   rw[if_pos rfl]
   have:=h.1
   simpa[hs] using this
  ·rw[if_neg ht]
   exact TellsS.get h.2 t (by simp[ht,hs])
theorem wk_join{P:Program}{n:Nat}{γ V':Fr}{O U':Sig}{df:List DDf}(h:TellsS γ [] V')(hU:Sub U' O):DX.normal=.normal/\Wk P n { γ,O,df } { γ:=V',O:=U',df }:=
 ⟨rfl,fun g w a hs=>⟨g,.refl g,⟨hs.sim.sub hU,⟨hs.tmps.1,fun t=>h.get t (by simp) g _ (hs.tmps.2 t)⟩,hs.df⟩⟩⟩
theorem Ou{P:Program}{n:Nat}{fn:Func}{R:DE->Sig->Prop}{γ:Fr}{O U':Sig}{d:D}(hU:Sub U' O)(h:resD fn γ=some d)(hR:R (.ret d) U'):Dp P n fn R .ret ⟨γ,O,[]⟩:=
 ⟨⟨γ,U',[]⟩,fun g _ _ hs=>⟨g,.refl g,⟨hs.sim.sub hU,hs.tmps,hs.df⟩⟩,rfl,d,CQ h,DI hR⟩
theorem No{P:Program}{n:Nat}{fn:Func}{R:DE->Sig->Prop}{γ:Fr}{O U':Sig}{d:D}(hU:Sub U' O)(h:resD fn γ=some d)(hR:R (.ret d) U'):Dp P n fn R .normal ⟨γ,O,[]⟩:=
 ⟨⟨γ,U',[]⟩,fun g _ _ hs=>⟨g,.refl g,⟨hs.sim.sub hU,hs.tmps,hs.df⟩⟩,rfl,d,CQ h,DI hR⟩
theorem Tg{P:Program}{n:Nat}{fn:Func}{R:DE->Sig->Prop}{γ:Fr}{O U':Sig}{es:List (List D)}{o:Own}{t:Nat}(hU:Sub U' O)(hr:fn.results=#[.tmp t])(h:getD γ t=.slice es o)(hR:R (.ret (.slice es .no)) U'):Dp P n fn R .ret ⟨γ,O,[]⟩:=
 ⟨⟨[(t,.slice es .no)],U',[]⟩,PT (by simp[h]) hU,rfl,_,CQ (by simp[resD,hr]),DI hR⟩
@[simp] def resL (tab:Nat->Ty) (O:Sig) (γ:Fr):List ResultVar->Option (List D)
 |[]=>some []
 |.tmp t::r=>match resL tab O γ r with
  |some ds=>some (getD γ t::ds)
  |none=>none
 |.cell t T::r=>match Jd (tab T) O (getD γ t),resL tab O γ r with
  |some d,some ds=>some (d::ds)
  |_,_=>none
@[simp] def NS:List D->D
 |[d]=>d
 |ds=>.tup ds
theorem Kx{P:Program}{tab:Nat->Ty}(ht:AZ P tab){g:G}{n:Nat}{γ:Fr}{O:Sig}{tmps:Array Value}{w:World}(hs:Sim P g O w)(hT:RepT g γ n tmps): ∀{l:List ResultVar}{ds:List D},resL tab O γ l=some ds->
  ∃vs,(l.mapM (fun (x:ResultVar)=>match x with|.tmp t=>pure (tmps.getD t undef)|.cell a t=>(do loadVar t (<-asAddr (tmps.getD a undef)):Sem Value))).run P w=.ok vs w/\RepL g ds vs
 |[],ds,h=>by
  simp only[resL]at h;cases h
  exact⟨[],by simp,rfl⟩
 |.tmp t::r,ds,h=>by
  simp only[resL]at h
  split at h<;>(try (cases h;done))
  rename_i ds' hd
  cases h
  obtain⟨vs,h1,h2⟩:=Kx ht hs hT hd
  refine⟨tmps.getD t undef::vs,?_,_,_,rfl,hT.2 t,h2⟩
  simp only[List.mapM_cons,Sem.run_bind,Sem.run_pure,Result.andThen_ok,h1]
 | .cell t T::r,ds,h=>by
  simp only[resL]at h
  split at h<;>(try (cases h;done))
  rename_i d ds' hd bk
  cases h
  obtain⟨vs,h1,h2⟩:=Kx ht hs hT bk
  obtain⟨hk,hd⟩:=B9 hd
  obtain⟨v,hv,hr⟩:=LI (ht T) (Ae (by simpa using hk)) hs (hT.2 t) hd
  have aH:(do loadVar T (<-asAddr (tmps.getD t undef)):Sem Value).run P w=.ok v w:=by
   rw[<-hv]
   have hp:∃a,tmps.getD t undef=.pointer (some a):=by
    have:=hT.2 t
    cases hg:getD γ t<;>rw[hg]at hd this<;>simp only[Je]at hd<;>try (cases hd;done)
    ·obtain⟨b,o,e,_⟩:=this;exact⟨_,e⟩
    ·obtain⟨b,_,e⟩:=this;exact⟨_,e⟩
   obtain⟨a,ha⟩:=hp
   rw[ha]
   simp[Instr.loadAt,Instr.sureAddr,asAddr]
  refine⟨v::vs,?_,_,_,rfl,hr,h2⟩
  simp only[List.mapM_cons,Sem.run_bind,aH,Sem.run_pure,Result.andThen_ok,h1]
theorem Cf{P:Program}{tab:Nat->Ty}(ht:AZ P tab){n:Nat}{fn:Func}{s:St}{ds:List D}(h:resL tab s.O s.γ fn.results.toList=some ds):L8 P n fn s (NS ds):=by
 intro g a w hs
 obtain⟨vs,h1,h2⟩:=Kx ht hs.sim hs.tmps h
 have hl:=RepL.length h2
 have hv:∃v,(results fn a.tmps).run P w=.ok v w/\v=(if h:vs.toArray.size=1 then vs.toArray[0] else .tuple vs.toArray):=by
  refine⟨_,?_,rfl⟩
  unfold results
  simp only[Sem.run_bind,Array.mapM_eq_mapM_toList,Sem.run_map]
  erw [h1]
  simp only[Result.andThen_ok,Sem.run_pure]
 obtain⟨v,hv,aZ⟩:=hv
 refine⟨v,hv,?_⟩
 subst aZ
 match ds,vs,h2,hl with
 |[],[],_,_=>exact⟨[],rfl,rfl⟩
 |[d],[v],h2,_=>obtain⟨_,_,e,h3,_⟩:=h2;cases e;exact h3
 |d::d'::ds,v::v'::vs,h2,_=>exact⟨_,by simp,h2⟩
theorem IJ{P:Program}{tab:Nat->Ty}(ht:AZ P tab){n:Nat}{fn:Func}{R:DE->Sig->Prop}{γ:Fr}{O U':Sig}{ds:List D}{d:D}(h:resL tab O γ fn.results.toList=some ds)(hw:WkD (NS ds) d)(hU:Sub U' O)(hR:R (.ret d) U'):Dp P n fn R .ret ⟨γ,O,[]⟩:=
 ⟨_,Wk.refl P n _,rfl,_,Cf ht h,.ret d,U',hw,hU,hR⟩
theorem Sim.retell{P:Program}{g:G}{O:Sig}{w:World}(hs:Sim P g O w){j:Nat}{ds ds':List D}(hj:O j=some (.cells ds))(h:∀vs,RepL g ds vs->RepL g ds' vs):Sim P g (O.set j (.cells ds')) w:=by
 have ag:∀k,blk g (O.set j (.cells ds')) k=blk g O k:=by
  intro k
  by_cases hk:k=j
  ·subst hk;simp[blk,Sig.set,hj]
  ·simp[blk,Sig.set,hk]
 exact {
  imm:=hs.imm
  keep:=hs.keep
  obj:=fun k o hk=>by
   by_cases h1:k=j
   ·subst h1
    rw[w6]at hk;cases hk
    obtain⟨b,vs,ty,a1,a2,a3⟩:=hs.obj _ _ hj
    exact⟨b,vs,ty,a1,a2,h _ a3⟩
   ·rw[w7 _ _ h1]at hk;exact hs.obj k o hk
  inj:=fun a b c h1 h2=>hs.inj a b c (by rw[<-ag];exact h1) (by rw[<-ag];exact h2)
  free:=fun k c hk=>by
   rw[ag]at hk
   obtain⟨h1,h2⟩:=hs.free k c hk
   refine⟨h1,fun hh=>h2 fun o ho=>?_⟩
   by_cases h3:k=j
   ·subst h3;rw[hj]at ho;cases ho;rfl
   ·exact hh o (by rw[w7 _ _ h3];exact ho)
  htop:=fun k sz n m hk hm=>by
   by_cases h1:k=j
   ·subst h1;rw[w6]at hk;cases hk
   ·rw[w7 _ _ h1]at hk;exact hs.htop k sz n m hk hm
  hdom:=hs.hdom
  io:=hs.io
  tab:=hs.tab
  fin:=hs.fin }
theorem NU{g:G}{d:D}: ∀{ds:List D}{vs:List Value} (k:Nat),RepL g ds vs->(∀v,vs[k]? = some v->Rep g d v)->RepL g (ds.set k d) vs
 |[],vs,k,h,_=>by simpa using h
 |x::ds,_,0,⟨v,r,e,h1,h2⟩,h=>by subst e;exact⟨v,r,rfl,h v rfl,h2⟩
 |x::ds,_,k+1,⟨v,r,e,h1,h2⟩,h=>by subst e;exact⟨v,r,rfl,h1,NU k h2 fun u hu=>h u (by simpa using hu)⟩
theorem dwp_tagcell{P:Program}{ro:Ro}{n:Nat}{Q:DX->St->Prop}{γ:Fr}{O:Sig}{df:List DDf}{c:Code}(j off sz:Nat){ds:List D}(hj:O j=some (.cells ds))(ho:ds[off]? = some .nils)
  (h:∀i,O i=none->DWp P ro n c Q ⟨γ,(O.set i (.tail sz 0)).set j (.cells (ds.set off (.slice [] (.tag i)))),df⟩):DWp P ro n c Q ⟨γ,O,df⟩:=
 Mo fun g w a hs=>by
  obtain⟨i,hi,hU⟩:=hs.sim.fresh
  change O i=none at hU
  obtain⟨h1,h2⟩:=hs.sim.tagNil (sz:=sz) hi hU
  have bi:j≠i:=fun e=>by rw[e]at hj;rw[hU]at hj;cases hj
  have h3:Sim P (g.put i 0 0 0 [] (.slice none 0 0)) ((O.set i (.tail sz 0)).set j (.cells (ds.set off (.slice [] (.tag i))))) w:=by
   obtain⟨b,vs,ty,a1,a2,a3⟩:=hs.sim.obj _ _ hj
   have hv:∀v,vs.toList[off]? = some v->v=.slice none 0 0:=fun v hv=>by
    have:=RepL.get a3 off
    rw[ho,hv]at this
    exact this
   have ay:O.set i (.tail sz 0) j=some (.cells ds):=by rw[w7 _ _ bi];exact hj
   have hb:=h2.obj _ _ ay
   have e:∀vs',RepL (g.put i 0 0 0 [] (.slice none 0 0)) ds vs'->RepL (g.put i 0 0 0 [] (.slice none 0 0)) (ds.set off (.slice [] (.tag i))) vs':=by
    intro vs' hr
    refine NU off hr fun v aH=>?_
    have:=RepL.get hr off
    rw[ho,aH]at this
    rw[show v=.slice none 0 0 from this]
    exact GU
   exact h2.retell ay e
  exact⟨_,⟨γ,(O.set i (.tail sz 0)).set j (.cells (ds.set off (.slice [] (.tag i)))),df⟩,h1,⟨h3,hs.tmps.mono h1,hs.df.mono h1⟩,h i hU⟩
end Go.DL
