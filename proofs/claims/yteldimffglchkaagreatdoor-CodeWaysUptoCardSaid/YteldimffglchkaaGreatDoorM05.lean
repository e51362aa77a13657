/- A part of the proof. -/
import Derived.Test.YteldimffglchkaaGreatDoorM04
import Derived.Test.YteldimffglchkaaGreatDoorM02
import Derived.Test.YteldimffglchkaaGreatDoorM03
import Derived.Laws.Cover3
set_option linter.all false
namespace Go.DL
open Go
theorem Sim.setAny{P:Program}{g:G}{O:Sig}{w:World}(hs:Sim P g O w){i b:Nat}{d d':DObj}{o x:Obj}(hi:O i=some d)(ht:d.isTail=false)(aC:d'.isTail=false)(hb:g.rho i=some b)
  (hx:w.heap[b]? = some x) (hr:ObjRep P g (setB w b o) i d'):Sim P g (O.set i d') (setB w b o):=by
 have ae:blk g O i=some b:=by
  unfold blk;rw[hi]
  cases d<;>first|exact hb|cases ht
 have aj:=hs.free i b ae
 have aE:∀o,g.imm b o=none:=aj.2 fun o ho=>by rw[hi]at ho;cases ho;exact ht
 have ai:∀j,blk g (O.set i d') j=blk g O j:=by
  intro j
  by_cases hj:j=i
  ·subst hj
   rw[ae]
   unfold blk;rw[w6]
   cases d'<;>first|exact hb|cases aC
  ·unfold blk;rw[w7 _ _ hj]
 exact {
  imm:=fun c o v h=>by
   have hc:c≠b:=fun e=>by rw[e,aE o]at h;cases h
   exact MF (b:=b) (by simpa using hc) (fun k x hx hk=>by rw[Ec hk];exact hx) (hs.imm c o v h)
  keep:=fun k o h=>by
   have hc:k≠b:=fun e=>by rw[e,aj.1]at h;cases h
   rw[Ec hc];exact hs.keep k o h
  obj:=fun j o h=>by
   by_cases hj:j=i
   ·subst hj
    rw[w6]at h;cases h;exact hr
   ·rw[w7 _ _ hj]at h
    exact(hs.obj j o h).setB h fun e=>hj (hs.inj j i b e ae)
  inj:=fun j k c h1 h2=>hs.inj j k c (by rw[<-ai];exact h1) (by rw[<-ai];exact h2)
  free:=fun j c h=>by
   rw[ai]at h
   obtain⟨h1,h2⟩:=hs.free j c h
   refine⟨h1,fun hh o=>?_⟩
   by_cases hj:j=i
   ·subst hj
    rw[ae]at h;cases h
    exact aE o
   ·exact h2 (fun x hx=>hh x (by rw[w7 _ _ hj];exact hx)) o
  htop:=fun j sz n k h hk=>by
   by_cases hj:j=i
   ·subst hj;rw[w6]at h;cases h;cases aC
   ·rw[w7 _ _ hj]at h;exact hs.htop j sz n k h hk
  hdom:=hs.hdom
  io:=hs.io
  tab:=hs.tab
  fin:=hs.fin }
def Cu(kt:TyK)(k d:D)(l:List (D×D)):Option (List (D×D)):=
 match C9 kt k l 0 with
 |some (some (j,_))=>some (l.set j (k,d))
 |some none=>some (l++[(k,d)])
 |none=>none
theorem RepM.set{g:G}{k d:D}{kv v:Value}(hk:Rep g k kv)(hd:Rep g d v): ∀{l:List (D×D)}{es:List MapEntry} (j:Nat),RepM g l es->RepM g (l.set j (k,d)) (es.modify j fun e=>{ e with key:=kv,val:=v })
 |[],es,j,h=>by
  rw[show es=[] from h]
  cases j<;>simp[RepM]
 |(k',d')::l,es,0,⟨e,rest,he,h1,h2,h3⟩=>by
  subst he
  exact⟨{ e with key:=kv,val:=v },rest,by simp,hk,hd,h3⟩
 |(k',d')::l,es,j+1,⟨e,rest,he,h1,h2,h3⟩=>by
  subst he
  exact⟨e,rest.modify j fun e=>{ e with key:=kv,val:=v },by simp,h1,h2,RepM.set hk hd j h3⟩
theorem Stamps.modify{c:Nat}{es:Array MapEntry}(h:Stamps c es.toList)(j:Nat){u v:Value}:Stamps c (es.modify j fun e=>{ e with key:=u,val:=v }).toList:=by
 have e:(es.modify j fun e=>{ e with key:=u,val:=v }).toList.map (·.born)=es.toList.map (·.born):=by
  apply List.ext_getElem? ; intro k
  simp only[List.getElem?_map,Array.getElem?_toList,Array.getElem?_modify]
  by_cases hk:j=k
  ·subst hk;rw[if_pos rfl];cases es[j]? <;> rfl
  ·rw[if_neg hk]
 refine⟨by rw[e];exact h.1,fun x hx=>?_⟩
 have:x.born∈(es.modify j fun e=>{ e with key:=u,val:=v }).toList.map (·.born):=List.mem_map_of_mem hx
 rw[e]at this
 obtain⟨y,hy,aI⟩:=List.mem_map.1 this
 rw[<-aI];exact h.2 y hy
theorem Stamps.push{c:Nat}{es:Array MapEntry}(h:Stamps c es.toList){u v:Value}:Stamps (c+1) (es.push { key:=u,val:=v,born:=c }).toList:=by
 refine⟨?_,fun x hx=>?_⟩
 ·simp only[Array.toList_push,List.map_append,List.map_cons,List.map_nil]
  refine List.nodup_append.2 ⟨h.1,by simp,fun a ha b hb=>?_⟩
  obtain⟨y,hy,rfl⟩:=List.mem_map.1 ha
  have:=h.2 y hy
  simp at hb;omega
 ·simp only[Array.toList_push,List.mem_append,List.mem_singleton]at hx
  rcases hx with hx|rfl
  ·have:=h.2 x hx;omega
  ·simp
theorem RepM.push{g:G}{k d:D}{e:MapEntry}(hk:Rep g k e.key)(hd:Rep g d e.val): ∀{l:List (D×D)}{es:List MapEntry},RepM g l es->RepM g (l++[(k,d)]) (es++[e])
 |[],es,h=>by
  rw[show es=[] from h]
  exact⟨e,[],rfl,hk,hd,rfl⟩
 |(k',d')::l,es,⟨e',rest,he,h1,h2,h3⟩=>by
  subst he
  exact⟨e',rest++[e],rfl,h1,h2,RepM.push hk hd h3⟩
theorem N8{g:G}{kt:TyK}{k:D}{u v:Value}(hk:Bg kt k=true)(h1:Rep g k u)(h2:Rep g k v):Instr.sameBits 10000 u v=true:=by
 cases kt<;>cases k<;>simp only[Bg]at hk<;>try (cases hk;done)
 ·rw[B4 h1,B4 h2];simp[Instr.sameBits]
 ·rw[EG h1,EG h2]
  show(_==_)=true
  rename_i s
  show(s.toArray==s.toArray)=true
  simp
section
variable {P:Program}{tab:Nat->Ty}(ht:B2 P tab){g:G}{O:Sig}{w:World}(hs:Sim P g O w)
include ht hs
theorem Pm{t kt et:Nat}{k:D}{u:Value}(hk:Bg (tab kt).k k=true)(hr:Rep g k u)(e:Bool): ∃desc,P.underlying kt=some desc/\KOK desc (tab kt).k/\(Instr.checkKey e 10000 kt u).run P w=.ok () w:=by
 obtain⟨desc,ap,ah⟩:∃desc,P.underlying kt=some desc/\KOK desc (tab kt).k:=Eu ht rfl (by intro e;rw[e]at hk;cases k<;>cases hk)
 refine⟨desc,ap,ah,?_⟩
 unfold Instr.checkKey
 simp only[Sem.run_bind,run_underlying ap,Result.andThen_ok]
 have aL:(∃kd k1 n1,(tab kt).k=.int kd/\k=.int k1 n1)\/(∃s1,(tab kt).k=.str/\k=.str s1):=by
  cases aO:(tab kt).k<;>cases k<;>simp[aO,Bg]at hk<;>simp
 rcases aL with⟨kd,k1,n1,e1,rfl⟩|⟨s1,e1,rfl⟩
 ·rw[e1]at ah
  rw[B4 hr]
  cases desc<;>simp[KOK]at ah
  rfl
 ·rw[e1]at ah
  rw[EG hr]
  cases desc<;>simp[KOK]at ah
  rfl
theorem JD{r clock clock':Nat}{es es':Array MapEntry}(h:w.heap[r]? = some (.map es clock)):(setObj r (.map es' clock')).run P w=.ok () (setB w r (.map es' clock')):=by
 simp[setObj,Sem.run,h,setB]
theorem Fy{t kt et id:Nat}{x k d:D}{l l':List (D×D)}{m u v:Value}(aN:(tab t).k=.map kt et)(hk:Bg (tab kt).k k=true)(hm:x=.map id)(hU:O id=some (.map l))(hp:Cu (tab kt).k k d l=some l')
  (h1:Rep g x m) (h2:Rep g k u) (h3:Rep g d v):∃w',(Instr.mapUpdate t m u v).run P w=.ok () w'/\Sim P g (O.set id (.map l')) w':=by
 subst hm
 obtain⟨b',au,rfl⟩:=h1
 obtain⟨b,es,clock,hb,hh,hr,aD⟩:=hs.obj _ _ hU
 rw[au]at hb;cases hb
 obtain⟨desc,ap,ah,aF⟩:=Pm (t:=t) (et:=et) ht hs hk h2 false
 have hu:=HU ht aN
 unfold Cu at hp
 split at hp<;>(try (cases hp;done))
 ·rename_i j dd hf
  cases hp
  obtain⟨r',e1,e2⟩:=F3 (g:=g) ah h2 hr hf
  cases r' with
  |none=>exact e2.elim
  | some q =>
   obtain⟨j',y⟩:=q
   obtain⟨rfl,e2,_,e,a1,a2,a3⟩:=e2
   rw[Nat.sub_zero]at a1
   have a1':es[j]? = some e:=by simpa using a1
   refine⟨setB w b' (.map (es.modify j fun e=>{ e with key:=u,val:=v }) clock),?_,?_⟩
   ·simp only[Instr.mapUpdate,Sem.run_bind,run_underlying hu,Result.andThen_ok,DQ hh,aF,Instr.findKey,run_underlying ap,e1,Sem.run_pure,a1',Option.map_some,Option.getD_some,Instr.keyThatStays,N8 hk a2 h2,if_true]
    exact JD ht hs hh
   ·refine hs.setAny hU rfl rfl au hh ⟨b',_,clock,au,Ed hh,?_,aD.modify j⟩
    simpa using RepM.set h2 h3 j hr
 ·rename_i hf
  cases hp
  obtain⟨r',e1,e2⟩:=F3 (g:=g) ah h2 hr hf
  cases r' with
  |some q=>exact e2.elim
  | none =>
   refine⟨setB w b' (.map (es.push { key:=u,val:=v,born:=clock }) (clock+1)),?_,?_⟩
   ·simp only[Instr.mapUpdate,Sem.run_bind,run_underlying hu,Result.andThen_ok,DQ hh,aF,Instr.findKey,run_underlying ap,e1,Sem.run_pure]
    exact JD ht hs hh
   ·refine hs.setAny hU rfl rfl au hh ⟨b',_,clock+1,au,Ed hh,?_,aD.push⟩
    simpa using RepM.push (e:={ key:=u,val:=v,born:=clock }) h2 h3 hr
end
section
variable {P:Program}{tab:Nat->Ty}(ht:B2 P tab){g:G}{O:Sig}{w:World}(hs:Sim P g O w)
include ht hs
theorem NH{xt t:Nat}{x d:D}{ok:Bool}{v:Value}(h:Ja tab t ok x=some d)(hx:Rep g x v):PRun P g O d (Instr.typeAssert v xt t ok) w:=by
 have aq:∀{α:Prop},A1 (tab t).k=false->FN (tab t).k=false->(∀desc,P.underlying t=some desc->(∀i,desc≠.interface i)->α)->α:=by
  intro α h1 h2 k
  obtain⟨desc,ap,ah⟩:=Eu ht rfl (Ae h1)
  refine k desc ap ?_
  rintro i rfl
  cases hk:(tab t).k<;>rw[hk]at ah h2<;>simp[KOK,FN]at ah h2
 cases x<;>simp only[Ja]at h<;>try (cases h;done)
 ·rename_i t' d'
  obtain⟨hc,h⟩:=B8 h
  simp only[Bool.or_eq_true,not_or,Bool.not_eq_true]at hc
  obtain⟨y,rfl,hy⟩:=hx
  refine aq hc.1 hc.2 fun desc hd hn=>?_
  by_cases he:t'=t
  ·rw[if_pos he]at h
   cases h
   refine Au hs (v:=if ok then .tuple #[y,.bool true] else y) ?_ ?_
   ·simp only[Instr.typeAssert,Sem.run_bind,run_underlying hd,Result.andThen_ok]
    cases desc<;>first|exact absurd rfl (hn _)|simp[he]
   ·cases ok
    ·exact hy
    ·exact⟨[y,.bool true],by simp,y,[.bool true],rfl,hy,.bool true,[],rfl,rfl,rfl⟩
  ·rw[if_neg he]at h
   obtain⟨rfl,h⟩:ok=true/\_:=by
    cases ok
    ·simp at h
    ·exact⟨rfl,h⟩
   simp only[if_true]at h
   split at h<;>(try (cases h;done))
   rename_i zd hz
   cases h
   obtain⟨z,z1,z2⟩:=KD ht hc.1 hz w
   refine Au hs (v:=.tuple #[z,.bool false]) ?_ ⟨[z,.bool false],by simp,z,[.bool false],rfl,z2 g,.bool false,[],rfl,rfl,rfl⟩
   simp only[Instr.typeAssert,Sem.run_bind,run_underlying hd,Result.andThen_ok]
   cases desc<;>first|exact absurd rfl (hn _)|simp[he,z1]
 ·obtain⟨hc,h⟩:=B8 h
  simp only[Bool.or_eq_true,not_or,Bool.not_eq_true]at hc
  refine aq hc.1 hc.2 fun desc hd hn=>?_
  obtain⟨rfl,h⟩:ok=true/\_:=by
   cases ok
   ·simp at h
   ·exact⟨rfl,h⟩
  simp only[if_true]at h
  split at h<;>(try (cases h;done))
  rename_i zd hz
  cases h
  obtain⟨z,z1,z2⟩:=KD ht hc.1 hz w
  rw[show v=.nilIface from hx]
  refine Au hs (v:=.tuple #[z,.bool false]) ?_ ⟨[z,.bool false],by simp,z,[.bool false],rfl,z2 g,.bool false,[],rfl,rfl,rfl⟩
  simp only[Instr.typeAssert,Sem.run_bind,run_underlying hd,Result.andThen_ok]
  cases desc<;>first|exact absurd rfl (hn _)|simp[z1]
theorem Tq{γ:Fr}{m:Nat}{a:Act}(hT:RepT g γ m a.tmps){o:Oper}{d:D}(h:dop2 tab γ O o.op=some d):ORun P g O d (execOp a.eval o) w:=by
 obtain⟨dst,op,type,pos,after,guard⟩:=o
 simp only at h
 have E:=fun x=>Ai hT x
 have am:∀(x:Option Operand),(x.map a.eval).isSome=(x.map (ev γ)).isSome /\ ∀p q,x.map (ev γ)=some p->x.map a.eval=some q->Rep g p q:=by
  intro x
  cases x with
  |none=>exact⟨rfl,fun p q h=>by cases h⟩
  |some y=>exact⟨rfl,fun p q h1 h2=>by cases h1;cases h2;exact E y⟩
 unfold execOp
 cases op<;>simp only[dop2]at h<;>(try (cases h;done))
 case slice t x lo hi mx=>exact .of (P0 ht hs h (E x) (am lo) (am hi) (am mx))
 case lookup t x k ok=>exact .of (Ng ht hs h (E x) (E k))
 case typeAssert x xt t ok=>exact .of (NH ht hs h (E x))
 case build t parts=>
  refine .of ?_
  have:=PS (ps:=parts.toList.map fun p=>(p.1,a.eval p.2)) ht hs h (by simp) (by
   rw[List.map_map,List.map_map]
   have:=CN hT (parts.toList.map (·.2))
   rw[List.map_map,List.map_map]at this
   exact this)
  have e:(parts.toList.map fun p=>(p.1,a.eval p.2)).toArray=parts.map fun (i,x)=>(i,a.eval x):=by
   rw[E9]
  rw[e]at this
  exact this
 case call c=>
  obtain⟨callee,args,ats⟩:=c
  unfold Fs at h
  split at h<;>(try (cases h;done))
  ·rename_i hc
   subst hc
   unfold H2 at h
   split at h<;>(try (cases h;done))
   rename_i t x e1 e2
   obtain rfl:ats=#[t]:=by apply Array.ext';simpa using e1
   obtain rfl:args=#[x]:=by apply Array.ext';simpa using e2
   split at h<;>(try (cases h;done))
   rename_i kt et hk
   obtain⟨l,hl,rfl⟩:=Option.map_eq_some_iff.1 h
   obtain⟨es,hm,hv⟩:=Ht ht hs hl (E x)
   have hlen:∀{l:List (D×D)}{es:List MapEntry},RepM g l es->es.length=l.length:=by
    intro l
    induction l with
    |nil=>intro es h;rw[show es=[] from h];rfl
    |cons p l ih=>intro es h;obtain⟨e,rest,rfl,_,_,h3⟩:=h;simp[ih h3]
   have aw:=hlen hm
   simp only[Array.length_toList]at aw
   refine⟨g,w,.int .i64 l.length,?_,.refl g,hs,rfl⟩
   rcases hv with⟨hv,rfl⟩|⟨r,clock,hv,hh⟩
   ·simp at aw
    simp[resolve,invoke,builtin,Builtin.len_,run_underlying (HU ht hk),hv,goInt,<-aw]
   ·simp[resolve,invoke,builtin,Builtin.len_,run_underlying (HU ht hk),hv,DQ hh,goInt,aw]
  ·rename_i x y hc aa
   subst hc
   obtain rfl:args=#[x,y]:=by apply Array.ext';simpa using aa
   unfold LJ at h
   split at h<;>(try (cases h;done))
   ·rename_i k p k' q hb e1 e2
    cases h
    have h1:=E x
    have h2:=E y
    rw[e1]at h1
    rw[e2]at h2
    refine⟨g,w,.int k (if q>p then q else p),?_,.refl g,hs,rfl⟩
    simp[resolve,invoke,builtin,Builtin.max_,Builtin.max2,B4 h1,B4 h2]
   ·rename_i hb e1 e2
    cases hb
  ·rename_i x y hc aa
   subst hc
   obtain rfl:args=#[x,y]:=by apply Array.ext';simpa using aa
   unfold LJ at h
   split at h<;>(try (cases h;done))
   ·rename_i hb e1 e2
    cases hb
   ·rename_i k p k' q hb e1 e2
    cases h
    have h1:=E x
    have h2:=E y
    rw[e1]at h1
    rw[e2]at h2
    refine⟨g,w,.int k (if q<p then q else p),?_,.refl g,hs,rfl⟩
    simp[resolve,invoke,builtin,Builtin.min_,Builtin.min2,B4 h1,B4 h2]
end
def DN (tab:Nat->Ty) (O:Sig) (T:Nat):D->D->Option (D × Sig)
 |.ptr i off,d=>match O i with
  | some (.cells ds)=>if A1 (tab T).k || !d.told || d.cells.length != (tab T).size || !BC d.cells || decide (ds.length < off+d.cells.length) then none else
    some (.any,O.set i (.cells (ds.take off++d.cells++ds.drop (off+d.cells.length))))
  |_=>none
 |_,_=>none
def updD(tab:Nat->Ty)(O:Sig):TyK->D->D->D->Option (D×Sig)
 | .map kt _, .map id,k,d=>if !Bg (tab kt).k k then none else match O id with
  |some (.map l)=>match Cu (tab kt).k k d l with
   |some l'=>some (.any,O.set id (.map l'))
   |none=>none
  |_=>none
 |_,_,_,_=>none
def FI:TyK->Option Nat
 |.slice e=>some e
 |_=>none
def appD (tab:Nat->Ty) (O:Sig):List TypeId->D->D->Option (D × Sig)
 | [T,T'], .slice es (.tag id),x=>match FI (tab T).k,FI (tab T').k,O id,esOf x with
  | some e,some _,some (.tail sz k),some new =>
   if A1 (tab e).k||sz != (tab e).size||k != es.length||!es.all (fun c=>c.length==(tab e).size)||!new.all (fun c=>c.length==(tab e).size)||!new.all BC ||
     decide (140737488355328<(es.length+new.length)*(tab e).bytes)||decide (9223372036854775807<es.length+new.length) then none else
    some (.slice (es++new) (.tag id),O.set id (.tail (tab e).size (es.length+new.length)))
  |_,_,_,_=>none
 |_,_,_=>none
def bapD(tab:Nat->Ty)(O:Sig)(ts:List TypeId)(γ:Fr):Callee->List Operand->Option (D×Sig)
 |.builtin .append,[s,x]=>appD tab O ts (ev γ s) (ev γ x)
 |_,_=>none
def eopD(tab:Nat->Ty)(γ:Fr)(O:Sig):Op->Option (D×Sig)
 |.store T x y=>DN tab O T (ev γ x) (ev γ y)
 |.mapUpdate t m k x=>updD tab O (tab t).k (ev γ m) (ev γ k) (ev γ x)
 |.insert t m k x=>updD tab O (tab t).k (ev γ m) (ev γ k) (ev γ x)
 |.call c=>bapD tab O c.argTypes.toList γ c.callee c.args.toList
 |_=>none
def dopX(tab:Nat->Ty)(γ:Fr)(O:Sig)(op:Op):Option D:=
 match dop tab γ O op with
 |some d=>some d
 |none=>dop2 tab γ O op
def letOp(vars:List Nat)(o:Oper)(l:List Oper):Option (Nat×Nat×Operand):=
 match o.op with
 |.alloc T=>match o,l with
  |⟨some t,_,_,_,_,none⟩,⟨none,.store T' (.tmp t') x,_,_,_,none⟩::_=>if T==T'&&t==t'&&!vars.contains t then some (t,T,x) else none
  |_,_=>none
 |_=>none
def Ev(t:Nat):Operand->Bool
 |.tmp k=>k != t
 |_=>true
def Up(vars:List Nat)(o:Oper):Bool:=
 match o.dst with
 |some t=>vars.contains t
 |none=>false
def isDefer:Op->Bool
 |.defer _=>true
 |_=>false
def Mq (tab:Nat->Ty) (N n:Nat) (ops:Array Oper) (vars:List Nat):List Oper->Fr->Sig->Option (List Oper × Fr × Sig)
 |[],γ,O=>some ([],γ,O)
 | o::l,γ,O =>
  match Ax ops γ o with
  | some true =>
   match letOp vars o l with
   |some (t,T,x)=>
    match l with
    |[]=>none
    | _::l'=>if A1 (tab T).k || !decide (t < n) || !Ev t x || !(ev γ x).told || (ev γ x).cells.length != (tab T).size || !BC (ev γ x).cells then none else
      Mq tab N n ops vars l' ((t,.cptr (ev γ x).cells 0)::γ) O
   | none =>
    if Up vars o||isDefer o.op then some (o::l,γ,O) else
    match dopX tab γ O o.op with
    |some d=>if Ap n o then Mq tab N n ops vars l (putD o.dst d γ) O else none
    |none=>
     match eopD tab γ O o.op with
     |some (d,U')=>if Ap n o then Mq tab N n ops vars l (putD o.dst d γ) U' else none
     |none=>some (o::l,γ,O)
  |some false=>if DP N o.op&&Ap n o then Mq tab N n ops vars l (putD o.dst .any γ) O else none
  |none=>none
section
variable {P:Program}{ro:Ro}{n:Nat}{ops:Array Oper}{Q:DX->St->Prop}{tab:Nat->Ty}(ht:B2 P tab)
include ht
theorem Jc{γ:Fr}{O:Sig}{o:Oper}{d:D}(h:dopX tab γ O o.op=some d)(w:World)(ρ:Operand->Value)(f:Nat):o.about P w ρ=some f->False:=by
 by_cases hc:∃c,o.op=.call c
 ·obtain⟨c,hc⟩:=hc
  obtain⟨callee,args,ats⟩:=c
  cases callee with
  |builtin b=>exact AZ hc rfl w ρ f
  |value x=>rw[hc]at h;cases h
  |invoke r m=>rw[hc]at h;cases h
 ·exact Aa (fun c e=>hc ⟨c,e⟩) w ρ f
theorem F7{g:G}{O:Sig}{w:World}(hs:Sim P g O w){γ:Fr}{m:Nat}{a:Act}(hT:RepT g γ m a.tmps){o:Oper}{d:D}(h:dopX tab γ O o.op=some d):ORun P g O d (execOp a.eval o) w:=by
 unfold dopX at h
 split at h
 ·rename_i d' hd
  cases h
  exact V7 ht hs hT hd
 ·exact Tq ht hs hT h
theorem Fo{γ:Fr}{O U':Sig}{df:List DDf}{o:Oper}{rest:List Oper}{d:D}(hw:Ax ops γ o=some true)(he:eopD tab γ O o.op=some (d,U'))(ho:Ap n o=true)
  (h:DOps P ro n ops Q rest ⟨putD o.dst d γ,U',df⟩):DOps P ro n ops Q (o::rest) ⟨γ,O,df⟩:=by
 obtain⟨dst,op,type,pos,after,guard⟩:=o
 cases op<;>simp only[eopD]at he<;>try (cases he;done)
 case store T x y=>
  unfold DN at he
  split at he<;>(try (cases he;done))
  rename_i i off hx
  split at he<;>(try (cases he;done))
  rename_i ds hi
  obtain⟨hc,he⟩:=B8 he
  cases he
  simp only[Bool.or_eq_true,not_or,Bool.not_eq_true,Bool.not_eq_eq_eq_not,Bool.not_true,Bool.not_false,bne_eq_false_iff_eq,decide_eq_false_iff_not,Nat.not_lt]at hc
  obtain⟨⟨⟨⟨c1,c2⟩,c3⟩,c4⟩,c5⟩:=hc
  refine Ep (d:=.any) (U':=O.set i (.cells (ds.take off++(ev γ y).cells++ds.drop (off+(ev γ y).cells.length)))) hw (fun c e=>by cases e) (Aa fun c e=>by cases e) ?_ ho h
  intro g w a hs hT
  obtain⟨w',h1,h2⟩:=Lo ht hs hT c1 hx hi (by simpa using c2) c3 (by simpa using c4) c5
  exact⟨g,w',undef,.inr ⟨by simp only[execOp,Sem.run_bind,h1,Result.andThen_ok];rfl,rfl⟩,.refl g,h2,trivial⟩
 case mapUpdate t m k x=>
  unfold updD at he
  split at he<;>(try (cases he;done))
  rename_i kt et id hk hm
  obtain⟨hc,he⟩:=B8 he
  split at he<;>(try (cases he;done))
  rename_i l hU
  split at he<;>(try (cases he;done))
  rename_i l' hp
  cases he
  refine Ep (d:=.any) (U':=O.set id (.map l')) hw (fun c e=>by cases e) (Aa fun c e=>by cases e) ?_ ho h
  intro g w a hs hT
  obtain⟨w',h1,h2⟩:=Fy ht hs hk (by simpa using hc) hm hU hp (Ai hT m) (Ai hT k) (Ai hT x)
  exact⟨g,w',undef,.inr ⟨by simp only[execOp,Sem.run_bind,h1,Result.andThen_ok];rfl,rfl⟩,.refl g,h2,trivial⟩
 case insert t m k x=>
  unfold updD at he
  split at he<;>(try (cases he;done))
  rename_i kt et id hk hm
  obtain⟨hc,he⟩:=B8 he
  split at he<;>(try (cases he;done))
  rename_i l hU
  split at he<;>(try (cases he;done))
  rename_i l' hp
  cases he
  refine Ep (d:=.any) (U':=O.set id (.map l')) hw (fun c e=>by cases e) (Aa fun c e=>by cases e) ?_ ho h
  intro g w a hs hT
  obtain⟨w',h1,h2⟩:=Fy ht hs hk (by simpa using hc) hm hU hp (Ai hT m) (Ai hT k) (Ai hT x)
  exact⟨g,w',undef,.inr ⟨by simp only[execOp,Sem.run_bind,h1,Result.andThen_ok];rfl,rfl⟩,.refl g,h2,trivial⟩
 case call c=>
  obtain⟨callee,args,ats⟩:=c
  unfold bapD at he
  split at he<;>(try (cases he;done))
  rename_i s x hc aa
  simp only at hc aa he
  subst hc
  obtain rfl:args=#[s,x]:=by apply Array.ext';simpa using aa
  unfold appD at he
  split at he<;>(try (cases he;done))
  rename_i T T' es id aK aM
  obtain rfl:ats=#[T,T']:=by apply Array.ext';simpa using aK
  split at he<;>(try (cases he;done))
  rename_i e e' sz k new q1 q2 q3 q4
  obtain⟨hc,he⟩:=B8 he
  cases he
  have aQ:(tab T).k=.slice e:=by
   unfold FI at q1
   split at q1<;>(try (cases q1;done))
   rename_i e0 h0;cases q1;exact h0
  have aP:(tab T').k=.slice e':=by
   unfold FI at q2
   split at q2<;>(try (cases q2;done))
   rename_i e0 h0;cases q2;exact h0
  simp only[Bool.or_eq_true,not_or,Bool.not_eq_true,Bool.not_eq_eq_eq_not,Bool.not_true,Bool.not_false,bne_eq_false_iff_eq,decide_eq_false_iff_not,Nat.not_lt,Bool.not_eq_false,List.all_eq_true,beq_iff_eq]at hc
  obtain⟨⟨⟨⟨⟨⟨⟨c1,c2⟩,c3⟩,c4⟩,c5⟩,c6⟩,c7⟩,c8⟩:=hc
  subst c2 c3
  exact Ep (d:=.slice (es++new) (.tag id)) hw (fun c e=>by cases e) (AZ rfl rfl) (Jb (e':=e') ht aQ aP c1 aM q3 q4 c4 c5 c6 c7 c8) ho h
end
section
variable {P:Program}{ro:Ro}{n:Nat}{ops:Array Oper}{Q:DX->St->Prop}{tab:Nat->Ty}(ht:B2 P tab)
include ht
theorem G9{t:Nat}{x:Operand}(h:Ev t x=true):x≠.tmp t:=by
 rintro rfl
 simp[Ev]at h
theorem Mz{γ:Fr}{O:Sig}{df:List DDf}{rest:List Oper}{t T:Nat}{r:Option Operand}{ty:TypeId}{pos:String}{after:Array Edge}{guard:Option (Nat×Bool)}
  (hw:Ax ops γ ⟨some t,.makeMap T r,ty,pos,after,guard⟩=some true) (hr:r=none \/ ∃x kt et k v,r=some x/\(tab T).k=.map kt et/\ev γ x=.int k v) (ak:t<n)
  (h:∀i,O i=none->DOps P ro n ops Q rest ⟨(t,.map i)::γ,O.set i (.map []),df⟩) :
  DOps P ro n ops Q (⟨some t,.makeMap T r,ty,pos,after,guard⟩::rest) ⟨γ,O,df⟩:=by
 refine GG (mk:=fun i=>.map i) (d:=.map []) hw (fun c e=>by cases e) (Aa fun c e=>by cases e) (by simp[Ap,ak]) rfl ?_ h
 intro g w a hs hT
 refine⟨.map #[] 0,.map (some w.heap.size),?_,fun i hi=>⟨⟨w.heap.size, #[],0,by simp[G.bind],by simp,rfl,by simp[Stamps]⟩,w.heap.size,by simp[G.bind],rfl⟩⟩
 rcases hr with rfl|⟨x,kt,et,k,v,rfl,hk,hx⟩
 ·simp only[execOp,Instr.makeMap,newObj,Sem.run_bind,Sem.run,Option.map_none,Result.andThen_ok]
  rfl
 ·have:=Ai hT x
  rw[hx]at this
  have hu:=run_underlying (HU ht hk) w
  simp only[execOp,Instr.makeMap,newObj,Option.map_some,B4 this,Sem.run_bind,hu,Result.andThen_ok,asInt,Sem.run_pure]
  rfl
omit ht in
theorem PJ{γ:Fr}{O:Sig}{df:List DDf}{rest:List Oper}{x:Operand}{dst:Option Tmp}{ty:TypeId}{pos:String}{after:Array Edge}{guard:Option (Nat×Bool)}{t:Nat}{d:D}
  (hw:Ax ops γ ⟨dst,.panic x,ty,pos,after,guard⟩=some true) (hx:ev γ x=.iface t d) (h:Q (.panic (.iface t d)) ⟨γ,O,df⟩) :
  DOps P ro n ops Q (⟨dst,.panic x,ty,pos,after,guard⟩::rest) ⟨γ,O,df⟩:=by
 intro g w a r hr hs
 unfold wpListIn
 rw[AH hs.tmps hw,if_pos rfl]
 refine⟨fun f hf=>(Aa (fun c e=>by cases e) _ _ f hf).elim,?_⟩
 have hv:=Ai hs.tmps x
 rw[show ev (St.mk γ O df).γ x=.iface t d from hx]at hv
 obtain⟨y,hy,aH⟩:=hv
 have ag:(execOp a.eval ⟨dst,.panic x,ty,pos,after,guard⟩).run P w=.halt (.panic (.iface t y)) w:=by
  simp only[execOp,hy,Instr.panic,Sem.run_bind]
  rfl
 rw[Oper.semAt_eq _ _ _ (fun c e=>by cases e),ag]
 exact⟨g,⟨γ,O,df⟩,.panic (.iface t d),.refl g,hs,⟨.iface t y,rfl,y,rfl,aH⟩,h⟩
end
section
variable (tab:Nat->Ty)(N n:Nat)(ops:Array Oper)(vars:List Nat)(l:List Oper)(γ:List (Nat×D))(O:Sig)
def putX(o:Oper):Option D->Option (List Oper×Fr×Sig)
 |some d=>if Up vars o then some (o::l,γ,O) else if Ap n o then Mq tab N n ops vars l (putD o.dst d γ) O else none
 |none=>some (o::l,γ,O)
def putE(o:Oper):Option (D×Sig)->Option (List Oper×Fr×Sig)
 |some (d,U')=>if Up vars o then some (o::l,γ,O) else if Ap n o then Mq tab N n ops vars l (putD o.dst d γ) U' else none
 |none=>some (o::l,γ,O)
def skipX(o:Oper):Option (List Oper×Fr×Sig):=match DP N o.op&&Ap n o with
 |true=>Mq tab N n ops vars l (putD o.dst .any γ) O
 |false=>none
@[simp] theorem putX_none(o:Oper):putX tab N n ops vars l γ O o none=some (o::l,γ,O):=rfl
@[simp] theorem putE_none(o:Oper):putE tab N n ops vars l γ O o none=some (o::l,γ,O):=rfl
@[simp] theorem skipX_eq(o:Oper):skipX tab N n ops vars l γ O o=match DP N o.op&&Ap n o with
 |true=>Mq tab N n ops vars l (putD o.dst .any γ) O
 |false=>none:=rfl
variable (dst:Option Tmp)(ty:TypeId)(pos:String)(af:Array Edge)(gd:Option (Nat×Bool))
end
attribute [simp] Up Ev DN esOf BZ Hu Ja Po MM BC D.flat
section
variable (tab:Nat->Ty)(O:Sig)(e T T' k t:Nat)(es new:List (List D))(o:Own)(x d:D)(h m l:Int)(k1 k2:IntKind)(c:Bool)(γ:List (Nat×D))(id:Nat)(fs:List (Nat×Nat))(parts:List (Nat×D))(kt:TyK)
@[simp] theorem sliceD_h:I6 tab (.slice e) x none (some (.int k1 h)) none=if A1 (tab e).k then none else match esOf x with
  |some es=>if 0<=h/\h<=es.length then some (.slice (es.take h.toNat) .no) else none
  |none=>none:=rfl
@[simp] theorem sliceD_l:I6 tab (.slice e) x (some (.int k1 l)) none none=if A1 (tab e).k then none else match esOf x with
  |some es=>if 0<=l/\l<=es.length/\es.all (fun c=>c.length==(tab e).size) then some (.slice (es.drop l.toNat) .no) else none
  |none=>none:=rfl
@[simp] theorem sliceD_m:I6 tab (.slice e) x none (some (.int k1 h)) (some (.int k2 m))=if A1 (tab e).k then none else match esOf x with
  |some es=>if h=m/\m=es.length then some (.slice es .clip) else none
  |none=>none:=rfl
@[simp] theorem R8:FM tab O c (.map T e) x d=if A1 (tab e).k || !Bg (tab T).k d then none else match BZ O x with
  | some l=>match C9 (tab T).k d l 0 with
   |some (some (_,d))=>some (if c then .tup [d,.bool true] else d)
   |some none=>match Hu (tab e)with
    |some z=>some (if c then .tup [z,.bool false] else z)
    |none=>none
   |none=>none
  |none=>none:=rfl
@[simp] theorem simpleKey_i:Bg (.int k1) (.int k2 h)=true:=rfl
@[simp] theorem simpleKey_s(s:List UInt8):Bg .str (.str s)=true:=rfl
@[simp] theorem mostD_t:LJ true (.int k1 h) (.int k2 m)=some (.int k1 (if m>h then m else h)):=rfl
@[simp] theorem mostD_f:LJ false (.int k1 h) (.int k2 m)=some (.int k1 (if m<h then m else h)):=rfl
@[simp] theorem sliceEl_s:FI (.slice e)=some e:=rfl
@[simp] theorem updD_m:updD tab O (.map T e) (.map id) x d=if !Bg (tab T).k x then none else match O id with
  |some (.map l)=>match Cu (tab T).k x d l with
   |some l'=>some (.any,O.set id (.map l'))
   |none=>none
  |_=>none:=rfl
@[simp] theorem appD_t:appD tab O [T,T'] (.slice es (.tag id)) x=match FI (tab T).k,FI (tab T').k,O id,esOf x with
  | some e,some _,some (.tail sz k),some new =>
   if A1 (tab e).k||sz != (tab e).size||k != es.length||!es.all (fun c=>c.length==(tab e).size)||!new.all (fun c=>c.length==(tab e).size)||!new.all BC ||
     decide (140737488355328<(es.length+new.length)*(tab e).bytes)||decide (9223372036854775807<es.length+new.length) then none else
    some (.slice (es++new) (.tag id),O.set id (.tail (tab e).size (es.length+new.length)))
  |_,_,_,_=>none:=rfl
@[simp] theorem lenMapD_s:H2 tab γ O [t] [.tmp k]=(match (tab t).k with
  |.map _ _=>(BZ O (getD γ k)).map fun l=>.int .i64 l.length
  |_=>none):=rfl
end
section
variable {P:Program}{ro:Ro}{n:Nat}{ops:Array Oper}{Q:DX->St->Prop}{tab:Nat->Ty}{df:List DDf}(ht:B2 P tab)
include ht
theorem PL{γ:Fr}{O:Sig}{rest:List Oper}{t T T':Nat}{x:Operand}{ty:TypeId}{pos:String}{after:Array Edge}{guard:Option (Nat×Bool)}{es:List (List D)}{o:Own}{e:Nat}(hk:(tab T).k=.slice e)
  (hw:Ax ops γ ⟨some t,.binOp .eql T x (.const (.slice none 0 0)) T',ty,pos,after,guard⟩=some true) (hx:ev γ x=.slice es o) (ak:t<n)
  (h:∀b,(b=true->es=[])->DOps P ro n ops Q rest ⟨(t,.bool b)::γ,O,df⟩) :
  DOps P ro n ops Q (⟨some t,.binOp .eql T x (.const (.slice none 0 0)) T',ty,pos,after,guard⟩::rest) ⟨γ,O,df⟩:=by
 intro g w a r hr hs
 unfold wpListIn
 rw[AH hs.tmps hw,if_pos rfl]
 refine⟨fun f hf=>(Aa (fun c e=>by cases e) _ _ f hf).elim,?_⟩
 have hv:=Ai hs.tmps x
 rw[show ev (St.mk γ O df).γ x=.slice es o from hx]at hv
 obtain⟨b,cap,h1,h2,h3,_⟩:=hv
 have ag:∃c:Bool,(c=true->es=[])/\(execOp a.eval ⟨some t,.binOp .eql T x (.const (.slice none 0 0)) T',ty,pos,after,guard⟩).run P w=.ok (.value (.bool c)) w:=by
  refine⟨b.isNone,fun hb=>?_,?_⟩
  ·rcases h3 with h3|⟨sz,b',o,rfl,_⟩
   ·exact h3
   ·cases hb
  ·have:=run_equal_slice_nil (P:=P) w T e b es.length cap (AB ht hk)
   have aG:a.eval x=.slice b es.length cap:=h1
   have hg:(eqGuard .eql T x (.const (.slice none 0 0)) (a.eval x) (.slice none 0 0)).run P w=.ok () w:=by rw[aG];rfl
   simp only[execOp,Sem.run_bind,show a.eval (.const (.slice none 0 0))=.slice none 0 0 from rfl,hg,Result.andThen_ok]
   simp only[binOp,Sem.run_bind,aG,this,Result.andThen_ok]
   rfl
 obtain⟨c,hc,ag⟩:=ag
 rw[Oper.semAt_eq _ _ _ (fun c e=>by cases e),ag]
 exact h c hc g w _ r hr (hs.put (o:=⟨some t,.binOp .eql T x (.const (.slice none 0 0)) T',ty,pos,after,guard⟩) (.refl g) hs.sim (d:=.bool c) rfl (by simp[Ap,ak]))
theorem Ex{γ:Fr}{O:Sig}{rest:List Oper}{t T T' ty e e':Nat}{s x:Operand}{pos:String}{after:Array Edge}{guard:Option (Nat×Bool)}{es:List (List D)}
  (hw:Ax ops γ ⟨some t,(cA s x T T'),ty,pos,after,guard⟩=some true) (ak:t<n)
  (hk:(tab T).k=.slice e) (aB:(tab T').k=.slice e') (he:A1 (tab e).k=false) (h1:esOf (ev γ s)=some es) (h2:esOf (ev γ x)=some [])
  (h:DOps P ro n ops Q rest ⟨(t,ev γ s)::γ,O,df⟩) :
  DOps P ro n ops Q (⟨some t,(cA s x T T'),ty,pos,after,guard⟩::rest) ⟨γ,O,df⟩:=by
 refine Ep (d:=ev γ s) (U':=O) hw (fun c e=>by cases e) (AZ rfl rfl) ?_ (by simp[Ap,ak]) h
 intro g w a hs hT
 obtain⟨i,z,t1,t2,t3,t4,t5,t6,t7⟩:=Bd ht hk aB he
 obtain⟨sa,sc,r1,r2,r3⟩:=BT h1 (Ai hT s)
 obtain⟨xa,xc,q1,q2,q3⟩:=BT h2 (Ai hT x)
 refine⟨g,w,a.eval s,.inl (Aq ?_),.refl g,hs,Ai hT s⟩
 rw[r1,q1]
 have:=Bb (ty:=ty) t1 t2 t3 (w:=w) (w2:=w) (base:=sa) (xa:=xa) (n:=es.length) (cap:=sc) (m:=0) (xc:=xc) (news:=[]) (Al (by simp) (.inl rfl)) (by omega) (fun b _=>by simp[storeCells,Sem.run]) (fun _=>rfl)
 simpa using this
theorem Cc{γ:Fr}{O:Sig}{rest:List Oper}{t T T' ty e e':Nat}{s x:Operand}{pos:String}{after:Array Edge}{guard:Option (Nat×Bool)}{es new:List (List D)}
  (hw:Ax ops γ ⟨some t,(cA s x T T'),ty,pos,after,guard⟩=some true) (ak:t<n)
  (hk:(tab T).k=.slice e) (aB:(tab T').k=.slice e') (he:A1 (tab e).k=false) (h1:ev γ s=.slice es .clip) (h2:esOf (ev γ x)=some new) (hne:new≠[])
  (hlen:∀c∈es,c.length=(tab e).size) (hlen':∀c∈new,c.length=(tab e).size) (hb:(es.length+new.length)*(tab e).bytes<=140737488355328) (hm:es.length+new.length<=9223372036854775807)
  (h:∀i,O i=none->DOps P ro n ops Q rest ⟨(t,.slice (es++new) (.tag i))::γ,O.set i (.tail (tab e).size (es.length+new.length)),df⟩) :
  DOps P ro n ops Q (⟨some t,(cA s x T T'),ty,pos,after,guard⟩::rest) ⟨γ,O,df⟩:=
 IR ht hw ak hk aB he (.inr ⟨h1,hne⟩) h2 hlen hlen' hb hm h
end
section
variable {P:Program}{ro:Ro}{n:Nat}{ops:Array Oper}{Q:DX->St->Prop}{rest:List Oper}{s:St}
theorem Dd{fop:Operand}{args:Array Operand}{ats:Array TypeId}{dst:Option Tmp}{ty:TypeId}{pos:String}{after:Array Edge}{guard:Option (Nat×Bool)}{f:Nat}{first cap az:List D}{R:DE->Sig->Prop}
  (hw:Ax ops s.γ ⟨dst,(cv fop args ats),ty,pos,after,guard⟩=some true)
  (hf:ev s.γ fop=.func (.func f) first cap) (h:DCall P f az s.O R) (ha:WkL (first++args.toList.map (ev s.γ)++cap) az)
  (ho:Ap n ⟨dst,(cv fop args ats),ty,pos,after,guard⟩=true)
  (ay:∀d U',R (.ret d) U'->DOps P ro n ops Q rest { s with γ:=putD dst d s.γ,O:=U' })
  (aA:∀d U',R (.panic d) U'->Q (.panic d) { s with O:=U' }) :
  DOps P ro n ops Q (⟨dst,(cv fop args ats),ty,pos,after,guard⟩::rest) s:=
 To hw hf (h.wk ha) ho ay aA
end
@[simp] def TellsS(γ:Fr):List Nat->Fr->Prop
 |_,[]=>True
 |seen,p::r=>(if p.1∈seen then True else WkD (getD γ p.1) p.2)/\TellsS γ (p.1::seen) r
theorem TellsS.get{γ:Fr}: ∀{V':Fr}{seen:List Nat},TellsS γ seen V'->∀t,t∉seen->WkD (getD γ t) (getD V' t)
 |[],_,_,t,_=>E5 _
 | (i,d)::r,seen,h,t,hs=>by
  rw[A6]
  by_cases ht:t=i
  ·subst ht
   rw[if_pos rfl]
   have:=h.1
   simpa[hs] using this
  ·rw[if_neg ht]
   exact TellsS.get h.2 t (by simp[ht,hs])
theorem wk_join{P:Program}{n:Nat}{γ V':Fr}{O U':Sig}{df:List DDf}(h:TellsS γ [] V')(hU:Sub U' O):DX.normal=.normal/\Wk P n { γ,O,df } { γ:=V',O:=U',df }:=
 ⟨rfl,fun g w a hs=>⟨g,.refl g,⟨hs.sim.sub hU,⟨hs.tmps.1,fun t=>h.get t (by simp) g _ (hs.tmps.2 t)⟩,hs.df⟩⟩⟩
theorem Oy{P:Program}{n:Nat}{fn:Func}{R:DE->Sig->Prop}{γ:Fr}{O U':Sig}{d:D}(hU:Sub U' O)(h:resD fn γ=some d)(hR:R (.ret d) U'):Dr P n fn R .ret ⟨γ,O,[]⟩:=
 ⟨⟨γ,U',[]⟩,fun g _ _ hs=>⟨g,.refl g,⟨hs.sim.sub hU,hs.tmps,hs.df⟩⟩,rfl,d,D5 h,E7 hR⟩
theorem Nt{P:Program}{n:Nat}{fn:Func}{R:DE->Sig->Prop}{γ:Fr}{O U':Sig}{d:D}(hU:Sub U' O)(h:resD fn γ=some d)(hR:R (.ret d) U'):Dr P n fn R .normal ⟨γ,O,[]⟩:=
 ⟨⟨γ,U',[]⟩,fun g _ _ hs=>⟨g,.refl g,⟨hs.sim.sub hU,hs.tmps,hs.df⟩⟩,rfl,d,D5 h,E7 hR⟩
theorem Tk{P:Program}{n:Nat}{fn:Func}{R:DE->Sig->Prop}{γ:Fr}{O U':Sig}{es:List (List D)}{o:Own}{t:Nat}(hU:Sub U' O)(hr:fn.results=#[.tmp t])(h:getD γ t=.slice es o)(hR:R (.ret (.slice es .no)) U'):Dr P n fn R .ret ⟨γ,O,[]⟩:=
 ⟨⟨[(t,.slice es .no)],U',[]⟩,TP (by simp[h]) hU,rfl,_,D5 (by simp[resD,hr]),E7 hR⟩
@[simp] def resL (tab:Nat->Ty) (O:Sig) (γ:Fr):List ResultVar->Option (List D)
 |[]=>some []
 |.tmp t::r=>match resL tab O γ r with
  |some ds=>some (getD γ t::ds)
  |none=>none
 |.cell t T::r=>match Jh (tab T) O (getD γ t),resL tab O γ r with
  |some d,some ds=>some (d::ds)
  |_,_=>none
@[simp] def NX:List D->D
 |[d]=>d
 |ds=>.tup ds
theorem KC{P:Program}{tab:Nat->Ty}(ht:B2 P tab){g:G}{n:Nat}{γ:Fr}{O:Sig}{tmps:Array Value}{w:World}(hs:Sim P g O w)(hT:RepT g γ n tmps): ∀{l:List ResultVar}{ds:List D},resL tab O γ l=some ds->
  ∃vs,(l.mapM (fun (x:ResultVar)=>match x with|.tmp t=>pure (tmps.getD t undef)|.cell a t=>(do loadVar t (<-asAddr (tmps.getD a undef)):Sem Value))).run P w=.ok vs w/\RepL g ds vs
 |[],ds,h=>by
  simp only[resL]at h;cases h
  exact⟨[],by simp,rfl⟩
 |.tmp t::r,ds,h=>by
  simp only[resL]at h
  split at h<;>(try (cases h;done))
  rename_i ds' hd
  cases h
  obtain⟨vs,h1,h2⟩:=KC ht hs hT hd
  refine⟨tmps.getD t undef::vs,?_,_,_,rfl,hT.2 t,h2⟩
  simp only[List.mapM_cons,Sem.run_bind,Sem.run_pure,Result.andThen_ok,h1]
 | .cell t T::r,ds,h=>by
  simp only[resL]at h
  split at h<;>(try (cases h;done))
  rename_i d ds' hd aS
  cases h
  obtain⟨vs,h1,h2⟩:=KC ht hs hT aS
  obtain⟨hk,hd⟩:=B8 hd
  obtain⟨v,hv,hr⟩:=LQ (ht T) (Ae (by simpa using hk)) hs (hT.2 t) hd
  have ax:(do loadVar T (<-asAddr (tmps.getD t undef)):Sem Value).run P w=.ok v w:=by
   rw[<-hv]
   have hp:∃a,tmps.getD t undef=.pointer (some a):=by
    have:=hT.2 t
    cases hg:getD γ t<;>rw[hg]at hd this<;>simp only[Ji]at hd<;>try (cases hd;done)
    ·obtain⟨b,o,e,_⟩:=this;exact⟨_,e⟩
    ·obtain⟨b,_,e⟩:=this;exact⟨_,e⟩
   obtain⟨a,ha⟩:=hp
   rw[ha]
   simp[Instr.loadAt,Instr.sureAddr,asAddr]
  refine⟨v::vs,?_,_,_,rfl,hr,h2⟩
  simp only[List.mapM_cons,Sem.run_bind,ax,Sem.run_pure,Result.andThen_ok,h1]
theorem Ce{P:Program}{tab:Nat->Ty}(ht:B2 P tab){n:Nat}{fn:Func}{s:St}{ds:List D}(h:resL tab s.O s.γ fn.results.toList=some ds):Lf P n fn s (NX ds):=by
 intro g a w hs
 obtain⟨vs,h1,h2⟩:=KC ht hs.sim hs.tmps h
 have hl:=RepL.length h2
 have hv:∃v,(results fn a.tmps).run P w=.ok v w/\v=(if h:vs.toArray.size=1 then vs.toArray[0] else .tuple vs.toArray):=by
  refine⟨_,?_,rfl⟩
  unfold results
  simp only[Sem.run_bind,Array.mapM_eq_mapM_toList,Sem.run_map]
  erw [h1]
  simp only[Result.andThen_ok,Sem.run_pure]
 obtain⟨v,hv,aJ⟩:=hv
 refine⟨v,hv,?_⟩
 subst aJ
 match ds,vs,h2,hl with
 |[],[],_,_=>exact⟨[],rfl,rfl⟩
 |[d],[v],h2,_=>obtain⟨_,_,e,h3,_⟩:=h2;cases e;exact h3
 |d::d'::ds,v::v'::vs,h2,_=>exact⟨_,by simp,h2⟩
theorem IN{P:Program}{tab:Nat->Ty}(ht:B2 P tab){n:Nat}{fn:Func}{R:DE->Sig->Prop}{γ:Fr}{O U':Sig}{ds:List D}{d:D}(h:resL tab O γ fn.results.toList=some ds)(hw:WkD (NX ds) d)(hU:Sub U' O)(hR:R (.ret d) U'):Dr P n fn R .ret ⟨γ,O,[]⟩:=
 ⟨_,Wk.refl P n _,rfl,_,Ce ht h,.ret d,U',hw,hU,hR⟩
theorem Sim.retell{P:Program}{g:G}{O:Sig}{w:World}(hs:Sim P g O w){j:Nat}{ds ds':List D}(hj:O j=some (.cells ds))(h:∀vs,RepL g ds vs->RepL g ds' vs):Sim P g (O.set j (.cells ds')) w:=by
 have ae:∀k,blk g (O.set j (.cells ds')) k=blk g O k:=by
  intro k
  by_cases hk:k=j
  ·subst hk;simp[blk,Sig.set,hj]
  ·simp[blk,Sig.set,hk]
 exact {
  imm:=hs.imm
  keep:=hs.keep
  obj:=fun k o hk=>by
   by_cases h1:k=j
   ·subst h1
    rw[w6]at hk;cases hk
    obtain⟨b,vs,ty,a1,a2,a3⟩:=hs.obj _ _ hj
    exact⟨b,vs,ty,a1,a2,h _ a3⟩
   ·rw[w7 _ _ h1]at hk;exact hs.obj k o hk
  inj:=fun a b c h1 h2=>hs.inj a b c (by rw[<-ae];exact h1) (by rw[<-ae];exact h2)
  free:=fun k c hk=>by
   rw[ae]at hk
   obtain⟨h1,h2⟩:=hs.free k c hk
   refine⟨h1,fun hh=>h2 fun o ho=>?_⟩
   by_cases h3:k=j
   ·subst h3;rw[hj]at ho;cases ho;rfl
   ·exact hh o (by rw[w7 _ _ h3];exact ho)
  htop:=fun k sz n m hk hm=>by
   by_cases h1:k=j
   ·subst h1;rw[w6]at hk;cases hk
   ·rw[w7 _ _ h1]at hk;exact hs.htop k sz n m hk hm
  hdom:=hs.hdom
  io:=hs.io
  tab:=hs.tab
  fin:=hs.fin }
theorem NZ{g:G}{d:D}: ∀{ds:List D}{vs:List Value} (k:Nat),RepL g ds vs->(∀v,vs[k]? = some v->Rep g d v)->RepL g (ds.set k d) vs
 |[],vs,k,h,_=>by simpa using h
 |x::ds,_,0,⟨v,r,e,h1,h2⟩,h=>by subst e;exact⟨v,r,rfl,h v rfl,h2⟩
 |x::ds,_,k+1,⟨v,r,e,h1,h2⟩,h=>by subst e;exact⟨v,r,rfl,h1,NZ k h2 fun u hu=>h u (by simpa using hu)⟩
theorem Ci{P:Program}{ro:Ro}{n:Nat}{Q:DX->St->Prop}{γ:Fr}{O:Sig}{df:List DDf}{c:Code}(j off sz:Nat){ds:List D}(hj:O j=some (.cells ds))(ho:ds[off]? = some .nils)
  (h:∀i,O i=none->DWp P ro n c Q ⟨γ,(O.set i (.tail sz 0)).set j (.cells (ds.set off (.slice [] (.tag i)))),df⟩):DWp P ro n c Q ⟨γ,O,df⟩:=
 Mv fun g w a hs=>by
  obtain⟨i,hi,hU⟩:=hs.sim.fresh
  change O i=none at hU
  obtain⟨h1,h2⟩:=hs.sim.tagNil (sz:=sz) hi hU
  have aR:j≠i:=fun e=>by rw[e]at hj;rw[hU]at hj;cases hj
  have h3:Sim P (g.put i 0 0 0 [] (.slice none 0 0)) ((O.set i (.tail sz 0)).set j (.cells (ds.set off (.slice [] (.tag i))))) w:=by
   obtain⟨b,vs,ty,a1,a2,a3⟩:=hs.sim.obj _ _ hj
   have hv:∀v,vs.toList[off]? = some v->v=.slice none 0 0:=fun v hv=>by
    have:=RepL.get a3 off
    rw[ho,hv]at this
    exact this
   have ar:O.set i (.tail sz 0) j=some (.cells ds):=by rw[w7 _ _ aR];exact hj
   have hb:=h2.obj _ _ ar
   have e:∀vs',RepL (g.put i 0 0 0 [] (.slice none 0 0)) ds vs'->RepL (g.put i 0 0 0 [] (.slice none 0 0)) (ds.set off (.slice [] (.tag i))) vs':=by
    intro vs' hr
    refine NZ off hr fun v ax=>?_
    have:=RepL.get hr off
    rw[ho,ax]at this
    rw[show v=.slice none 0 0 from this]
    exact GW
   exact h2.retell ar e
  exact⟨_,⟨γ,(O.set i (.tail sz 0)).set j (.cells (ds.set off (.slice [] (.tag i)))),df⟩,h1,⟨h3,hs.tmps.mono h1,hs.df.mono h1⟩,h i hU⟩
end Go.DL
