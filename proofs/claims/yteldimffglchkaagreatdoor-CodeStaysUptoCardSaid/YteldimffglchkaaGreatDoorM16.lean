/- A part of the proof. -/
import Derived.Test.YteldimffglchkaaGreatDoorM15
import Derived.Lib.Atoi
import Derived.Lib.ItoaNum
set_option linter.all false
namespace Go.DL
open Go Go.Proofs
def InR(n:Int)(k:Nat):Prop:=0<=n/\n<k
def cntB(p:BProg):Nat->Int->Nat
 |0,_=>1
 |k+1,node=>1+wtL (cntB p k) (A1 p node).kids
def negS(s:List Int):Nat:=s.countP (· < 0)
theorem Ox: ∀(s:List Int) (n:Nat) (v:Int),n<s.length->s.getD n 0<0->0<=v->negS (s.set n v)+1=negS s
 |[],n,v,h,_,_=>by simp at h
 |x::r,0,v,_,h,hv=>by
  have hx:x<0:=h
  simp only[List.set_cons_zero,negS,List.countP_cons,hx,decide_true,if_true]
  rw[if_neg (by simpa using hv)]
 |x::r,n+1,v,hl,h,hv=>by
  have:=Ox r n v (by simpa using hl) (by simpa using h) hv
  simp only[negS]at this
  simp only[List.set_cons_succ,negS,List.countP_cons]
  omega
theorem Ia{p:BProg}{k:Nat}{f:Int->Int->List Int->Bool×List Int}{x:BNode}{size:Int}
  (hf:∀c z s s',f c z s=(true,s')->s.length=p.nodes.length->0<=z->s'.length=s.length/\cntB p k c+negS s'=negS s) (hz:0<=size) :
  ∀(l:List Int) (j:Nat) (s s':List Int),B4 f x size j l s=(true,s')->s.length=p.nodes.length->s'.length=s.length/\wtL (cntB p k) l+negS s'=negS s
 |[],j,s,s',h,hs=>by
  rw[B4]at h;cases h
  exact⟨rfl,by rw[wtL];omega⟩
 | c::r,j,s,s',h,hs=>by
  rw[B4]at h
  cases hc:f c (if x.op=9/\j=1 then size+1 else size) s with
  | mk b s1 =>
   rw[hc]at h
   cases b with
   |false=>simp at h
   |true=>
    obtain⟨h2,h3⟩:=hf _ _ _ _ hc hs (by split<;>omega)
    obtain⟨h5,h6⟩:=Ia hf hz r (j+1) s1 s' h (by omega)
    exact⟨by omega,by rw[wtL];omega⟩
theorem IJ(p:BProg)(inM:Bool): ∀(k:Nat) (node size:Int) (s s':List Int),Bs p inM k node size s=(true,s')->s.length=p.nodes.length->0<=size->s'.length=s.length/\cntB p k node+negS s'=negS s
 |0,_,_,_,_,h,_,_=>by simp[Bs]at h
 | k+1,node,size,s,s',h,hs,hz=>by
  rw[Bs]at h
  split at h
  ·simp at h
  ·rename_i h1
   split at h
   ·simp at h
   ·rename_i h2
    obtain⟨h5,h6⟩:=Ia (IJ p inM k) hz (A1 p node).kids 0 _ s' h (by simpa using hs)
    have hn:node.toNat<s.length:=by omega
    have h7:=Ox s node.toNat size hn (by omega) hz
    exact⟨by rw[h5,List.length_set],by rw[cntB];omega⟩
theorem Kn(p:BProg): ∀(l:List BMeth) (s s':List Int),Cr p l s=some s'->s.length=p.nodes.length->(∀m∈l,0<=p.gens.getD m.gen.toNat 0)->
  s'.length=s.length/\wtL (fun m:BMeth=>cntB p 12 m.node) l+negS s'=negS s
 |[],s,s',h,hs,_=>by rw[Cr]at h;cases h;exact⟨rfl,by rw[wtL];omega⟩
 | m::r,s,s',h,hs,hg=>by
  rw[Cr]at h
  split at h
  ·cases hw:Bs p (decide (m.kind=1)||decide (m.kind=4)) 12 m.node (p.gens.getD m.gen.toNat 0) s with
   | mk b s1 =>
    rw[hw]at h
    cases b with
    |false=>simp[optW]at h
    |true=>
     simp only[optW]at h
     obtain⟨h1,h2⟩:=IJ p _ _ _ _ _ _ hw hs (hg m (by simp))
     obtain⟨h3,h4⟩:=Kn p r s1 s' h (by omega) fun x hx=>hg x (by simp[hx])
     exact⟨by omega,by rw[wtL];omega⟩
  ·cases h
theorem UK(n:Nat):negS (List.replicate n (-1))=n:=by
 unfold negS
 rw[List.countP_replicate];simp
theorem QS: ∀s:List Int,EntOK s-> -1∉s->negS s=0:=fun s h hn=>by
 unfold negS
 rw[List.countP_eq_zero]
 intro x hx
 have h1:=h x hx
 have h2:x ≠ -1:=fun e=>hn (e ▸ hx)
 simp only[decide_eq_true_eq]
 omega
theorem UU{p:BProg}(h:okP p=true):wtL (fun m:BMeth=>cntB p 12 m.node) p.methods+cntB p 12 p.main=p.nodes.length:=by
 unfold okP Db at h
 split at h
 ·rename_i hc
  simp only[Bool.and_eq_true,decide_eq_true_eq,List.all_eq_true]at hc
  obtain⟨_,hg⟩:=hc
  have ar:∀n:Nat,0<=p.gens.getD n 0:=fun n=>by
   rw[List.getD_eq_getElem?_getD]
   by_cases hl:n<p.gens.length
   ·rw[List.getElem?_eq_getElem hl]
    have:=(hg _ (List.getElem_mem hl)).1
    simp only[Option.getD_some];omega
   ·rw[List.getElem?_eq_none (by omega)];simp
  cases hm:Cr p p.methods (List.replicate p.nodes.length (-1))with
  |none=>rw[hm]at h;simp at h
  | some s =>
   rw[hm]at h
   obtain⟨k1,k2⟩:=Kn p p.methods _ s hm (by simp) fun m _=>ar _
   rw[List.length_replicate]at k1
   rw[UK]at k2
   cases hw:Bs p false 12 p.main 0 s with
   | mk b s2 =>
    simp only[hw]at h
    cases b with
    |false=>simp[optW]at h
    | true =>
     obtain⟨m1,m2⟩:=IJ p false 12 _ _ _ _ hw k1 (Int.le_refl _)
     have e1:=methsP_ent p (fun g hx=>(hg g hx).1) p.methods _ s hm (fun x hx=>by rw[List.eq_of_mem_replicate hx];simp[EntOK]<;>omega)
     have e2:=GL p false 12 p.main 0 s (Int.le_refl _) e1
     rw[hw]at e2
     simp only[optW]at h
     split at h
     ·simp at h
     ·rename_i aD
      have:=QS s2 e2 aD
      omega
 ·cases h
structure CIns where
 op:Int
 a:Int
 deriving DecidableEq
structure CProg where
 ins:List CIns
 starts:List Int
 main:Int
structure CLev where
 st:Int
 env:Int
 deriving DecidableEq
def kidN(x:BNode)(i:Nat):Int:=(x.kids[i]?).getD 0
def cL(p:BProg):Nat->Int->Nat
 |0,_=>0
 |k+1,n=>
  if(A1 p n).op=9 then cL p k (kidN (A1 p n) 0)+(cL p k (kidN (A1 p n) 1)+2)
  else if(A1 p n).op=11 then cL p k (kidN (A1 p n) 0)+(cL p k (kidN (A1 p n) 1)+1)
  else if(A1 p n).op=10 then cL p k (kidN (A1 p n) 0)+(cL p k (kidN (A1 p n) 1)+(cL p k (kidN (A1 p n) 2)+2))
  else wtL (cL p k) (A1 p n).kids+1
def Dm(o:Int):Int:=if o=1 then 1 else if o=2 then 2 else if o=3 then 3 else if o=4 then 5 else if o=5 then 19 else if o=6 then 4 else if o=7 then 8 else if o=8 then 6 else if o=17 then 7 else if o=18 then 20 else o-3
def FQ(f:Int->Nat->List CIns):List Int->Nat->List CIns
 |[],_=>[]
 |c::r,q=>f c q++FQ f r (q+(f c q).length)
def cN (p:BProg):Nat->Int->Nat->List CIns
 |0,_,_=>[]
 | k+1,n,q =>
  if(A1 p n).op=9 then cN p k (kidN (A1 p n) 0) q++(⟨14,0⟩::(cN p k (kidN (A1 p n) 1) (q+cL p k (kidN (A1 p n) 0)+1)++[⟨15,0⟩]))
  else if(A1 p n).op=11 then cN p k (kidN (A1 p n) 0) q++(⟨16,0⟩::cN p k (kidN (A1 p n) 1) (q+cL p k (kidN (A1 p n) 0)+1))
  else if(A1 p n).op=10 then
   cN p k (kidN (A1 p n) 0) q++(⟨17,((q+cL p k (kidN (A1 p n) 0)+1+cL p k (kidN (A1 p n) 1)+1:Nat):Int)⟩::(cN p k (kidN (A1 p n) 1) (q+cL p k (kidN (A1 p n) 0)+1) ++
    (⟨18,((q+cL p k (kidN (A1 p n) 0)+1+cL p k (kidN (A1 p n) 1)+1+cL p k (kidN (A1 p n) 2):Nat):Int)⟩::cN p k (kidN (A1 p n) 2) (q+cL p k (kidN (A1 p n) 0)+1+cL p k (kidN (A1 p n) 1)+1))))
  else FQ (cN p k) (A1 p n).kids q++[⟨Dm (A1 p n).op,(A1 p n).n⟩]
theorem FP{f:Int->Nat->List CIns}{g:Int->Nat}(h:∀c q,(f c q).length=g c): ∀(l:List Int) (q:Nat),(FQ f l q).length=wtL g l
 |[],_=>by rw[FQ,wtL];rfl
 |c::r,q=>by rw[FQ,wtL,List.length_append,h,FP h r]
theorem Hy(p:BProg): ∀(k:Nat) (n:Int) (q:Nat),(cN p k n q).length=cL p k n
 |0,_,_=>by rw[cN,cL];rfl
 | k+1,n,q=>by
  have ih:=Hy p k
  rw[cN,cL]
  split
  ·simp only[List.length_append,List.length_cons,List.length_nil,ih]
  ·split
   ·simp only[List.length_append,List.length_cons,ih]
   ·split
    ·simp only[List.length_append,List.length_cons,ih];omega
    ·simp only[List.length_append,List.length_cons,List.length_nil,FP ih]
def trE(p:BProg)(inM:Bool):Nat->Int->Nat->Prop
 |0,_,_=>False
 |k+1,n,size=>InR n p.nodes.length/\((A1 p n).kids.length:Int)=BE p (A1 p n)/\BD p (A1 p n) size=true /\ ¬((A1 p n).op=18/\inM=false) /\
  ∀(j:Nat) (h:j<(A1 p n).kids.length),trE p inM k ((A1 p n).kids[j]) (if(A1 p n).op=9/\j=1 then size+1 else size)
theorem II{p:BProg}{inM:Bool}{k:Nat}{f:Int->Int->List Int->Bool×List Int}{x:BNode}{size:Nat}(hf:∀c (z:Nat) s s',f c z s=(true,s')->trE p inM k c z):
  ∀(l:List Int) (i:Nat) (s s':List Int),B4 f x size i l s=(true,s')->∀(j:Nat) (h:j<l.length),trE p inM k l[j] (if x.op=9/\i+j=1 then size+1 else size)
 |[],_,_,_,_,j,h=>by simp at h
 | c::r,i,s,s',h,j,hj=>by
  rw[B4]at h
  cases hc:f c (if x.op=9/\i=1 then(size:Int)+1 else size) s with
  | mk b s1 =>
   rw[hc]at h
   cases b with
   |false=>simp at h
   | true =>
    cases j with
    |zero=>
     rw[List.getElem_cons_zero,Nat.add_zero]
     by_cases e:x.op=9/\i=1
     ·rw[if_pos e]at hc⊢; exact hf c (size+1) _ _ hc
     ·rw[if_neg e]at hc⊢; exact hf c size _ _ hc
    |succ j=>
     have:=II hf r (i+1) s1 s' h j (by simpa using hj)
     rw[show i+1+j=i+(j+1) by omega]at this
     simpa using this
theorem L7(p:BProg)(inM:Bool): ∀(k:Nat) (n:Int) (size:Nat) (s s':List Int),Bs p inM k n size s=(true,s')->trE p inM k n size
 |0,_,_,_,_,h=>by simp[Bs]at h
 | k+1,n,size,s,s',h=>by
  rw[Bs]at h
  split at h
  ·simp at h
  ·rename_i h1
   split at h
   ·simp at h
   ·rename_i h2
    refine⟨⟨by omega,by omega⟩,Classical.byContradiction fun e=>h2 (.inl e),?_,fun e=>h2 (.inr (.inr e)),fun j hj=>?_⟩
    ·cases hn:BD p (A1 p n) size with
     |true=>rfl
     |false=>exact absurd (.inr (.inl hn)) h2
    ·have:=II (fun c z s s' h=>L7 p inM k c z s s' h) _ 0 _ _ h j hj
     rw[Nat.zero_add]at this
     exact this
theorem Uk{p:BProg}{inM:Bool}{k:Nat}{n:Int}{size:Nat}(h:trE p inM (k+1) n size):1<=(A1 p n).op/\(A1 p n).op<=18:=by
 obtain⟨_,h2,_⟩:=h
 unfold BE GF at h2
 by_cases hh:1<=(A1 p n).op/\(A1 p n).op<=18
 ·exact hh
 ·exfalso
  rw[if_neg (by omega),if_neg (by omega),if_neg (by omega),if_neg (by omega)]at h2
  simp only at h2
  rw[if_neg (by omega)]at h2
  omega
theorem Ec{p:BProg}{inM:Bool}{k:Nat}{n:Int}{size:Nat}(h:trE p inM (k+1) n size){m:Nat}(hm:GF (A1 p n).op=some (m:Int)):(A1 p n).kids.length=m:=by
 obtain⟨_,h2,_⟩:=h
 unfold BE at h2
 rw[hm]at h2
 simp only at h2
 omega
theorem HU{x:BNode}{i:Nat}(h:i<x.kids.length):kidN x i=x.kids[i]:=by unfold kidN;rw[List.getElem?_eq_getElem h];rfl
theorem cL_le(p:BProg): ∀(k:Nat) (n:Int) (inM:Bool) (size:Nat),trE p inM k n size->cL p k n+0<=2*cntB p k n
 |0,_,_,_,h=>h.elim
 | k+1,n,inM,size,h=>by
  have ai:=Uk h
  have hk:=h.2.2.2.2
  have aq:∀l:List Int,(∀(j:Nat) (h:j<l.length),cL p k l[j]<=2*cntB p k l[j])->wtL (cL p k) l<=2*wtL (cntB p k) l:=fun l=>by
   induction l with
   |nil=>intro _;rw[wtL,wtL];omega
   |cons c r ih=>
    intro h
    have h1:=h 0 (by simp)
    have h2:=ih fun j hj=>by have:=h (j+1) (by simpa using hj);simpa using this
    rw[List.getElem_cons_zero]at h1
    rw[wtL,wtL];omega
  have aa:∀(j:Nat) (h:j<(A1 p n).kids.length),cL p k (A1 p n).kids[j]<=2*cntB p k (A1 p n).kids[j]:=fun j hj=>cL_le p k _ _ _ (hk j hj)
  have hs:=aq _ aa
  rw[cL,cntB]
  have two:∀m:Nat,(A1 p n).kids.length=m->m=2->wtL (cntB p k) (A1 p n).kids=cntB p k (kidN (A1 p n) 0)+cntB p k (kidN (A1 p n) 1):=fun m h1 h2=>by
   match hh:(A1 p n).kids with
   |[a,b]=>unfold kidN;rw[hh];simp[wtL]
   |[]=>rw[hh]at h1;simp at h1;omega
   |[_]=>rw[hh]at h1;simp at h1;omega
   |_::_::_::_=>rw[hh]at h1;simp at h1;omega
  split
  ·rename_i h9
   have hl:(A1 p n).kids.length=2:=Ec h (by rw[h9];rfl)
   have:=two 2 hl rfl
   have a1:=aa 0 (by omega)
   have a2:=aa 1 (by omega)
   rw[<-HU]at a1 a2
   omega
  ·split
   ·rename_i ag
    have hl:(A1 p n).kids.length=2:=Ec h (by rw[ag];rfl)
    have:=two 2 hl rfl
    have a1:=aa 0 (by omega)
    have a2:=aa 1 (by omega)
    rw[<-HU]at a1 a2
    omega
   ·split
    ·rename_i ah
     have hl:(A1 p n).kids.length=3:=Ec h (by rw[ah];rfl)
     have a1:=aa 0 (by omega)
     have a2:=aa 1 (by omega)
     have a3:=aa 2 (by omega)
     rw[<-HU]at a1 a2 a3
     have:wtL (cntB p k) (A1 p n).kids=cntB p k (kidN (A1 p n) 0)+(cntB p k (kidN (A1 p n) 1)+cntB p k (kidN (A1 p n) 2)):=by
      match hh:(A1 p n).kids with
      |[a,b,c]=>unfold kidN;rw[hh];simp[wtL]
      |[]=>rw[hh]at hl;simp at hl
      |[_]=>rw[hh]at hl;simp at hl
      |[_,_]=>rw[hh]at hl;simp at hl
      |_::_::_::_::_=>rw[hh]at hl;simp at hl
     omega
    ·omega
def Ig(f:Int->Int->List CLev):List Int->Int->List CLev
 |[],_=>[]
 |c::r,s=>f c s++Ig f r (s+1)
def lvN(p:BProg):Nat->Int->Int->Int->List CLev
 |0,_,_,_=>[]
 |k+1,n,s,e=>
  if(A1 p n).op=9 then lvN p k (kidN (A1 p n) 0) s e++(⟨s+1,e⟩::(lvN p k (kidN (A1 p n) 1) s (e+1)++[⟨s+1,e+1⟩]))
  else if(A1 p n).op=11 then lvN p k (kidN (A1 p n) 0) s e++(⟨s+1,e⟩::lvN p k (kidN (A1 p n) 1) s e)
  else if(A1 p n).op=10 then lvN p k (kidN (A1 p n) 0) s e++(⟨s+1,e⟩::(lvN p k (kidN (A1 p n) 1) s e++(⟨s+1,e⟩::lvN p k (kidN (A1 p n) 2) s e)))
  else Ig (fun c s=>lvN p k c s e) (A1 p n).kids s++[⟨s+(A1 p n).kids.length,e⟩]
def Ah(p:BProg)(x:CIns):Int×Int:=
 if x.op=1\/x.op=2\/x.op=3\/x.op=4\/x.op=20 then(0,1) else if x.op=5\/x.op=6\/x.op=7 then(1,1) else if x.op=14\/x.op=16\/x.op=17 then(1,0) else
 if x.op=19 then(p.gens.getD x.a.toNat 0,1) else if x.op=15\/x.op=18 then(0,0) else if x.op=21 then(1,0) else(2,1)
abbrev Met:=Nat->Option CLev
def updM(met:Met)(n:Nat)(l:CLev):Met:=fun j=>if j=n then some l else met j
def BL(N:Nat)(met:Met)(n:Int)(l:CLev):Option Met:=
 if n<0\/(N:Int)<=n\/(met n.toNat≠none/\met n.toNat≠some l) then none else some (updM met n.toNat l)
def CI(p:BProg)(c:CProg)(env:Int)(next:Bool)(q:Nat)(x:CIns)(l:CLev)(met:Met):Option Met:=
 if l.st<(Ah p x).1\/(x.op=3/\l.env<=x.a)\/(x.op=15/\l.env<=env)\/(x.op=20/\next=false) then none
 else if x.op=21 then(if l.st=1/\l.env=env then some met else none)
 else if x.op=14 then BL c.ins.length met ((q:Int)+1) ⟨l.st-(Ah p x).1+(Ah p x).2,l.env+1⟩
 else if x.op=15 then BL c.ins.length met ((q:Int)+1) ⟨l.st-(Ah p x).1+(Ah p x).2,l.env-1⟩
 else if x.op=18 then BL c.ins.length met x.a ⟨l.st-(Ah p x).1+(Ah p x).2,l.env⟩
 else if x.op=17 then(match BL c.ins.length met x.a ⟨l.st-(Ah p x).1+(Ah p x).2,l.env⟩with
  |none=>none
  |some m=>BL c.ins.length m ((q:Int)+1) ⟨l.st-(Ah p x).1+(Ah p x).2,l.env⟩)
 else BL c.ins.length met ((q:Int)+1) ⟨l.st-(Ah p x).1+(Ah p x).2,l.env⟩
def CA(p:BProg)(c:CProg)(env:Int)(next:Bool):Nat->Nat->Met->Option Met
 |0,_,met=>some met
 | f+1,q,met=>match met q with
  |none=>CA p c env next f (q+1) met
  |some l=>match CI p c env next q ((c.ins[q]?).getD ⟨0,0⟩) l met with
   |none=>none
   |some m=>CA p c env next f (q+1) m
theorem Mb{p:BProg}{c:CProg}{env:Int}{next:Bool}: ∀(f q:Nat) (met:Met),(∀j,q<=j->j<q+f->met j=none)->CA p c env next f q met=some met
 |0,_,_,_=>rfl
 |f+1,q,met,h=>by
  rw[CA,h q (by omega) (by omega)]
  exact Mb f (q+1) met fun j h1 h2=>h j (by omega) (by omega)
theorem It{N:Nat}{met:Met}{n:Nat}{l:CLev}(h:n<N)(hm:met n=none\/met n=some l):BL N met (n:Int) l=some (updM met n l):=by
 unfold BL
 rw[show((n:Int)).toNat=n by omega,if_neg]
 rintro(h1|h1|⟨h1,h2⟩)
 ·omega
 ·omega
 ·exact hm.elim h1 h2
section
variable {p:BProg}{c:CProg}{env:Int}{next:Bool}
def segM(met:Met)(q L:Nat)(lv:List CLev)(l1:CLev):Met:=fun j=>if q<=j/\j<q+L then lv[j-q]? else if j=q+L then some l1 else met j
def Seg(p:BProg)(c:CProg)(env:Int)(next:Bool)(q L:Nat)(lv:List CLev)(l0 l1:CLev):Prop:=
 1<=L/\lv.length=L/\lv[0]? = some l0 /\ ∀(f:Nat) (met:Met),met q=some l0->(∀j,q<j->j<q+L->met j=none)->(met (q+L)=none\/met (q+L)=some l1)->
  CA p c env next (L+f) q met=CA p c env next f (q+L) (segM met q L lv l1)
theorem HK{q L M:Nat}{lv lw:List CLev}{l0 l1 l2:CLev}(h:Seg p c env next q L lv l0 l1)(k:Seg p c env next (q+L) M lw l1 l2):Seg p c env next q (L+M) (lv++lw) l0 l2:=by
 obtain⟨h1,h2,h3,h4⟩:=h
 obtain⟨k1,k2,k3,k4⟩:=k
 refine⟨by omega,by rw[List.length_append,h2,k2],by rw[List.getElem?_append_left (by omega)];exact h3,fun f met m1 m2 m3=>?_⟩
 rw[Nat.add_assoc,h4 (M+f) met m1 (fun j a b=>m2 j a (by omega)) (.inl (m2 (q+L) (by omega) (by omega)))]
 rw[k4 f (segM met q L lv l1) (by unfold segM;rw[if_neg (by omega),if_pos rfl]) (fun j a b=>by unfold segM;rw[if_neg (by omega),if_neg (by omega)];exact m2 j (by omega) (by omega))
  (by unfold segM;rw[if_neg (by omega),if_neg (by omega),Nat.add_assoc];exact m3)]
 rw[Nat.add_assoc]
 congr 1
 funext j
 unfold segM
 by_cases a:q+L<=j/\j<q+L+M
 ·rw[if_pos a,if_pos (by omega),List.getElem?_append_right (by omega),h2]
  congr 1;omega
 ·rw[if_neg a]
  by_cases b:j=q+L+M
  ·rw[if_pos b,if_neg (by omega),if_pos (by omega)]
  ·rw[if_neg b]
   by_cases d:q<=j/\j<q+L
   ·rw[if_pos d,if_pos (by omega),List.getElem?_append_left (by omega)]
   ·rw[if_neg d,if_neg (by omega),if_neg (by omega),if_neg (by omega)]
theorem Li{q:Nat}{x:CIns}{l0 l1:CLev}(hx:c.ins[q]? = some x)(hn:q+1<c.ins.length)(hs:∀met:Met,CI p c env next q x l0 met=BL c.ins.length met ((q:Int)+1) l1):Seg p c env next q 1 [l0] l0 l1:=by
 refine⟨Nat.le_refl _,rfl,rfl,fun f met m1 _ m3=>?_⟩
 rw[Nat.add_comm,CA,m1,hx]
 simp only[Option.getD_some]
 rw[hs,show((q:Int)+1)=((q+1:Nat):Int) by omega,It hn m3]
 simp only
 congr 1
 funext j
 unfold updM segM
 by_cases a:j=q+1
 ·rw[if_pos a,if_neg (by omega)]
 ·rw[if_neg a]
  by_cases b:j=q
  ·rw[if_pos (by omega),b,Nat.sub_self,m1];rfl
  ·rw[if_neg (by omega)]
theorem seg_if{q A B C:Nat}{la lb lc:List CLev}{s e:Int}(ha:Seg p c env next q A la ⟨s,e⟩ ⟨s+1,e⟩)(hz:c.ins[q+A]? = some ⟨17,((q+A+1+B+1:Nat):Int)⟩)(hb:Seg p c env next (q+A+1) B lb ⟨s,e⟩ ⟨s+1,e⟩)
  (hj:c.ins[q+A+1+B]? = some ⟨18,((q+A+1+B+1+C:Nat):Int)⟩) (hc:Seg p c env next (q+A+1+B+1) C lc ⟨s,e⟩ ⟨s+1,e⟩) (hN:q+A+1+B+1+C<c.ins.length) (h0:0<=s) :
  Seg p c env next q (A+(B+(C+2))) (la++(⟨s+1,e⟩::(lb++(⟨s+1,e⟩::lc)))) ⟨s,e⟩ ⟨s+1,e⟩:=by
 obtain⟨a1,a2,a3,a4⟩:=ha
 obtain⟨b1,b2,b3,b4⟩:=hb
 obtain⟨c1,c2,c3,c4⟩:=hc
 refine⟨by omega,by simp only[List.length_append,List.length_cons];omega,by rw[List.getElem?_append_left (by omega)];exact a3,fun f met m1 m2 m3=>?_⟩
 have u17:Ah p ⟨17,((q+A+1+B+1:Nat):Int)⟩=(1,0):=by unfold Ah;simp
 have u18:Ah p ⟨18,((q+A+1+B+1+C:Nat):Int)⟩=(0,0):=by unfold Ah;simp
 rw[show A+(B+(C+2))+f=A+(1+(B+(1+(C+f)))) by omega,a4 _ met m1 (fun j x y=>m2 j x (by omega)) (.inl (m2 (q+A) (by omega) (by omega)))]
 generalize aJ:segM met q A la ⟨s+1,e⟩=M1
 have g1:∀j,M1 j=if q<=j/\j<q+A then la[j-q]? else if j=q+A then some ⟨s+1,e⟩ else met j:=fun j=>by rw[<-aJ];rfl
 have s1:CI p c env next (q+A) ⟨17,((q+A+1+B+1:Nat):Int)⟩ ⟨s+1,e⟩ M1=some (updM (updM M1 (q+A+1+B+1) ⟨s,e⟩) (q+A+1) ⟨s,e⟩):=by
  unfold CI
  rw[u17]
  simp only
  rw[if_neg (by omega),if_neg (by omega),if_neg (by omega),if_neg (by omega),if_neg (by omega),if_pos trivial,It (by omega) (by
   left;rw[g1,if_neg (by omega),if_neg (by omega)];exact m2 _ (by omega) (by omega))]
  simp only
  rw[show(((q+A:Nat):Int)+1)=((q+A+1:Nat):Int) by omega,It (by omega) (by
   left;unfold updM;rw[if_neg (by omega),g1,if_neg (by omega),if_neg (by omega)];exact m2 _ (by omega) (by omega))]
  simp
 rw[Nat.add_comm 1,CA,show M1 (q+A)=some ⟨s+1,e⟩ by rw[g1,if_neg (by omega),if_pos rfl],hz]
 simp only[Option.getD_some]
 rw[s1]
 simp only
 generalize aI:updM (updM M1 (q+A+1+B+1) ⟨s,e⟩) (q+A+1) ⟨s,e⟩=M2
 have g2:∀j,M2 j=if j=q+A+1 then some ⟨s,e⟩ else if j=q+A+1+B+1 then some ⟨s,e⟩ else M1 j:=fun j=>by rw[<-aI];rfl
 rw[b4 _ M2 (by rw[g2,if_pos rfl]) (fun j x y=>by rw[g2,if_neg (by omega),if_neg (by omega),g1,if_neg (by omega),if_neg (by omega)];exact m2 _ (by omega) (by omega))
  (.inl (by rw[g2,if_neg (by omega),if_neg (by omega),g1,if_neg (by omega),if_neg (by omega)];exact m2 _ (by omega) (by omega)))]
 generalize aH:segM M2 (q+A+1) B lb ⟨s+1,e⟩=M3
 have g3:∀j,M3 j=if q+A+1<=j/\j<q+A+1+B then lb[j-(q+A+1)]? else if j=q+A+1+B then some ⟨s+1,e⟩ else M2 j:=fun j=>by rw[<-aH];rfl
 have ae:M3 (q+A+1+B+1+C)=met (q+(A+(B+(C+2)))):=by
  rw[g3,if_neg (by omega),if_neg (by omega),g2,if_neg (by omega),if_neg (by omega),g1,if_neg (by omega),if_neg (by omega)]
  congr 1;omega
 have s2:CI p c env next (q+A+1+B) ⟨18,((q+A+1+B+1+C:Nat):Int)⟩ ⟨s+1,e⟩ M3=some (updM M3 (q+A+1+B+1+C) ⟨s+1,e⟩):=by
  unfold CI
  rw[u18]
  simp only
  rw[if_neg (by omega),if_neg (by omega),if_neg (by omega),if_neg (by omega),if_pos trivial,It hN (by
   rw[ae]
   rcases m3 with h|h
   ·exact .inl h
   ·right;rw[h];simp)]
  simp
 rw[Nat.add_comm 1,CA,show M3 (q+A+1+B)=some ⟨s+1,e⟩ by rw[g3,if_neg (by omega),if_pos rfl],hj]
 simp only[Option.getD_some]
 rw[s2]
 simp only
 generalize aG:updM M3 (q+A+1+B+1+C) ⟨s+1,e⟩=M4
 have g4:∀j,M4 j=if j=q+A+1+B+1+C then some ⟨s+1,e⟩ else M3 j:=fun j=>by rw[<-aG];rfl
 rw[c4 _ M4 (by rw[g4,if_neg (by omega),g3,if_neg (by omega),if_neg (by omega),g2,if_neg (by omega),if_pos rfl])
  (fun j x y=>by rw[g4,if_neg (by omega),g3,if_neg (by omega),if_neg (by omega),g2,if_neg (by omega),if_neg (by omega),g1,if_neg (by omega),if_neg (by omega)];exact m2 _ (by omega) (by omega)) (.inr (by rw[g4,if_pos rfl]))]
 rw[show q+A+1+B+1+C=q+(A+(B+(C+2))) by omega]
 congr 1
 funext j
 show segM M4 (q+A+1+B+1) C lc ⟨s+1,e⟩ j=segM met q (A+(B+(C+2))) _ _ j
 unfold segM
 by_cases z1:q+A+1+B+1<=j/\j<q+A+1+B+1+C
 ·rw[if_pos z1,if_pos (by omega),List.getElem?_append_right (by omega),List.getElem?_cons,if_neg (by omega),List.getElem?_append_right (by omega),List.getElem?_cons,if_neg (by omega)]
  congr 1;omega
 ·rw [if_neg z1]
  by_cases z2:j=q+A+1+B+1+C
  ·rw[if_pos z2,if_neg (by omega),if_pos (by omega)]
  ·rw [if_neg z2,g4,if_neg z2,g3]
   by_cases z3:q+A+1<=j/\j<q+A+1+B
   ·rw[if_pos z3,if_pos (by omega),List.getElem?_append_right (by omega),List.getElem?_cons,if_neg (by omega),List.getElem?_append_left (by omega)]
    congr 1;omega
   ·rw[if_neg z3]
    by_cases z4:j=q+A+1+B
    ·rw[if_pos z4,if_pos (by omega),List.getElem?_append_right (by omega),List.getElem?_cons,if_neg (by omega),List.getElem?_append_right (by omega),List.getElem?_cons,if_pos (by omega)]
    ·rw[if_neg z4,g2,if_neg (by omega),if_neg (by omega),g1]
     by_cases z5:q<=j/\j<q+A
     ·rw[if_pos z5,if_pos (by omega),List.getElem?_append_left (by omega)]
     ·rw[if_neg z5]
      by_cases z6:j=q+A
      ·rw[if_pos z6,if_pos (by omega),List.getElem?_append_right (by omega),List.getElem?_cons,if_pos (by omega)]
      ·rw[if_neg z6,if_neg (by omega),if_neg (by omega)]
end
section
variable {p:BProg}{c:CProg}{env:Int}{next:Bool}
theorem Seg.cast{q L L':Nat}{lv lv':List CLev}{l0 l1 l0' l1':CLev}(h:Seg p c env next q L lv l0 l1)(e1:L=L')(e2:lv=lv')(e3:l0=l0')(e4:l1=l1'):Seg p c env next q L' lv' l0' l1':=by
 subst e1 e2 e3 e4;exact h
theorem seg_op{q:Nat}{x:CIns}{s e m:Int}(hx:c.ins[q]? = some x)(hn:q+1<c.ins.length)(hu:Ah p x=(m,1))(hs:m<=s)(h3:x.op=3->x.a<e)(aK:x.op=20->next=true)(ai:x.op≠21/\x.op≠14/\x.op≠15/\x.op≠18/\x.op≠17):
  Seg p c env next q 1 [⟨s,e⟩] ⟨s,e⟩ ⟨s-m+1,e⟩:=by
 refine Li hx hn fun met=>?_
 unfold CI
 rw[hu,if_neg,if_neg ai.1,if_neg ai.2.1,if_neg ai.2.2.1,if_neg ai.2.2.2.1,if_neg ai.2.2.2.2]
 rintro(h|h|h|h)
 ·simp only at h;omega
 ·have:=h3 h.1;simp only at h;omega
 ·exact ai.2.2.1 h.1
 ·have:=aK h.1;rw[this]at h;cases h.2
theorem Ol{k:Nat}{e:Int}: ∀(l:List Int) (q:Nat) (s:Int) (M:Nat) (lw:List CLev) (l2:CLev),
  (∀(i:Nat) (h:i<l.length),Seg p c env next (q+wtL (cL p k) (l.take i)) (cL p k l[i]) (lvN p k l[i] (s+i) e) ⟨s+i,e⟩ ⟨s+i+1,e⟩)->
  Seg p c env next (q+wtL (cL p k) l) M lw ⟨s+l.length,e⟩ l2->Seg p c env next q (wtL (cL p k) l+M) (Ig (fun c s=>lvN p k c s e) l s++lw) ⟨s,e⟩ l2
 |[],q,s,M,lw,l2,_,h=>by
  rw[wtL]at h⊢
  exact h.cast (by omega) (by rw[Ig];rfl) (by simp) rfl
 | a::r,q,s,M,lw,l2,hk,h=>by
  have h0:=hk 0 (by simp)
  have ih:=Ol (k:=k) (e:=e) r (q+cL p k a) (s+1) M lw l2 (fun i hi=>by
   have:=hk (i+1) (by simpa using hi)
   rw[List.take_succ_cons,wtL,List.getElem_cons_succ]at this
   rw[show q+cL p k a+wtL (cL p k) (r.take i)=q+(cL p k a+wtL (cL p k) (r.take i)) by omega,show s+1+(i:Int)=s+((i+1:Nat):Int) by omega]
   exact this) (by
   rw[wtL,List.length_cons]at h
   rw[show q+cL p k a+wtL (cL p k) r=q+(cL p k a+wtL (cL p k) r) by omega,show s+1+(r.length:Int)=s+((r.length+1:Nat):Int) by omega]
   exact h)
  rw[List.take_zero,wtL,List.getElem_cons_zero]at h0
  have h0:=h0.cast (q:=q+0) rfl (lv':=lvN p k a s e) (by simp) (l0':=⟨s,e⟩) (by simp) (l1':=⟨s+1,e⟩) (by simp)
  refine(HK h0 ih).cast (by rw[wtL];omega) (by rw[Ig,List.append_assoc]) rfl rfl
theorem uses_op{o n:Int}{m:Nat}(h:o=5/\p.gens.getD n.toNat 0=m\/o≠5/\GF o=some (m:Int))(h1:1<=o/\o<=18)(h9:o≠9)(ah:o≠10)(ag:o≠11):Ah p ⟨Dm o,n⟩=((m:Int),1):=by
 have hc:o=1\/o=2\/o=3\/o=4\/o=5\/o=6\/o=7\/o=8\/o=12\/o=13\/o=14\/o=15\/o=16\/o=17\/o=18:=by omega
 rcases hc with rfl|rfl|rfl|rfl|rfl|rfl|rfl|rfl|rfl|rfl|rfl|rfl|rfl|rfl|rfl<;>simp[GF]at h<;>simp[Ah,Dm]<;>omega
theorem Ng{o:Int}(h1:1<=o/\o<=18)(h9:o≠9)(ah:o≠10)(ag:o≠11):(Dm o≠21/\Dm o≠14/\Dm o≠15/\Dm o≠18/\Dm o≠17)/\(Dm o=3->o=3)/\(Dm o=20->o=18):=by
 have hc:o=1\/o=2\/o=3\/o=4\/o=5\/o=6\/o=7\/o=8\/o=12\/o=13\/o=14\/o=15\/o=16\/o=17\/o=18:=by omega
 rcases hc with rfl|rfl|rfl|rfl|rfl|rfl|rfl|rfl|rfl|rfl|rfl|rfl|rfl|rfl|rfl<;>decide
theorem Nk{f:Int->Nat->List CIns}{g:Int->Nat}(hf:∀c q,(f c q).length=g c): ∀(l:List Int) (q i j:Nat) (h:i<l.length),j<g l[i]->(FQ f l q)[wtL g (l.take i)+j]? = (f l[i] (q+wtL g (l.take i)))[j]?
 |[],_,_,_,h,_=>by simp at h
 |a::r,q,0,j,_,hj=>by
  rw[List.take_zero,wtL,List.getElem_cons_zero]at*
  rw[FQ,Nat.zero_add,Nat.add_zero,List.getElem?_append_left (by rw[hf];exact hj)]
 |a::r,q,i+1,j,h,hj=>by
  rw[List.getElem_cons_succ]at hj
  rw[List.take_succ_cons,wtL,List.getElem_cons_succ,FQ,Nat.add_assoc,List.getElem?_append_right (by rw[hf];omega),hf,Nat.add_sub_cancel_left,Nk hf r _ i j (by simpa using h) hj,Nat.add_assoc]
theorem Dq : ∀ (k:Nat) (n:Int) (size q:Nat) (s:Int),trE p next k n size->(∀ i,i < cL p k n->c.ins[q+i]? = (cN p k n q)[i]?)->q+cL p k n < c.ins.length->0<=s->env<=size ->
  Seg p c env next q (cL p k n) (lvN p k n s size) ⟨s,size⟩ ⟨s+1,size⟩
 |0,_,_,_,_,h,_,_,_,_=>h.elim
 | k+1,n,size,q,s,h,hc,hN,h0,he=>by
  have ai:=Uk h
  have hk:=h.2.2.2.2
  have ac:∀(i:Nat),i<(A1 p n).kids.length->trE p next k (kidN (A1 p n) i) (if(A1 p n).op=9/\i=1 then size+1 else size):=fun i hi=>by rw[HU hi];exact hk i hi
  have hl:=Hy p k
  rw[cL]at hc hN⊢
  rw[cN]at hc
  rw[lvN]
  by_cases h9:(A1 p n).op=9
  ·have hlen:(A1 p n).kids.length=2:=Ec h (by rw[h9];rfl)
   have t0:=ac 0 (by omega)
   have t1:=ac 1 (by omega)
   rw[if_neg (by omega)]at t0
   rw[if_pos ⟨h9,rfl⟩]at t1
   rw[if_pos h9]at hc hN⊢
   rw[if_pos h9]at hc⊢
   generalize hA:cL p k (kidN (A1 p n) 0)=A at*
   generalize hB:cL p k (kidN (A1 p n) 1)=B at*
   have a:=Dq k _ size q s t0 (fun i hi=>by rw[hA]at hi;rw[hc i (by omega),List.getElem?_append_left (by rw[hl,hA];exact hi)]) (by rw[hA];omega) h0 he
   have b:=Dq k _ (size+1) (q+A+1) s t1 (fun i hi=>by
    rw[hB]at hi
    rw[show q+A+1+i=q+(A+1+i) by omega,hc _ (by omega),List.getElem?_append_right (by rw[hl,hA];omega),hl,hA,show A+1+i-A=i+1 by omega,List.getElem?_cons_succ,List.getElem?_append_left (by rw[hl,hB];exact hi)]) (by rw[hB];omega) h0 (by omega)
   rw[hA]at a
   rw[hB]at b
   have e1:((size+1:Nat):Int)=(size:Int)+1:=by omega
   rw[e1]at b
   have x1:c.ins[q+A]? = some ⟨14,0⟩:=by rw[hc A (by omega),List.getElem?_append_right (by rw[hl,hA];omega),hl,hA,Nat.sub_self];rfl
   have x2:c.ins[q+A+1+B]? = some ⟨15,0⟩:=by
    rw[show q+A+1+B=q+(A+1+B) by omega,hc _ (by omega),List.getElem?_append_right (by rw[hl,hA];omega),hl,hA,show A+1+B-A=B+1 by omega,List.getElem?_cons_succ,List.getElem?_append_right (by rw[hl,hB];omega),hl,hB,Nat.sub_self];rfl
   have s1:Seg p c env next (q+A) 1 [⟨s+1,size⟩] ⟨s+1,size⟩ ⟨s,(size:Int)+1⟩:=Li x1 (by omega) fun met=>by
    unfold CI
    have u:Ah p ⟨14,0⟩=(1,0):=by unfold Ah;simp
    rw[u,if_neg (by simp only;omega),if_neg (by simp),if_pos rfl]
    simp
   have s2:Seg p c env next (q+A+1+B) 1 [⟨s+1,(size:Int)+1⟩] ⟨s+1,(size:Int)+1⟩ ⟨s+1,size⟩:=Li x2 (by omega) fun met=>by
    unfold CI
    have u:Ah p ⟨15,0⟩=(0,0):=by unfold Ah;simp
    rw[u,if_neg (by simp only;omega),if_neg (by simp),if_neg (by simp),if_pos rfl]
    simp
   exact(HK a (HK s1 (HK b s2))).cast (by omega) rfl rfl rfl
  ·rw [if_neg h9] at hc hN ⊢
   rw[if_neg h9]at hc⊢
   by_cases ag:(A1 p n).op=11
   ·have hlen:(A1 p n).kids.length=2:=Ec h (by rw[ag];rfl)
    have t0:=ac 0 (by omega)
    have t1:=ac 1 (by omega)
    rw[if_neg (by omega)]at t0 t1
    rw[if_pos ag]at hc hN⊢
    rw[if_pos ag]at hc⊢
    generalize hA:cL p k (kidN (A1 p n) 0)=A at*
    generalize hB:cL p k (kidN (A1 p n) 1)=B at*
    have a:=Dq k _ size q s t0 (fun i hi=>by rw[hA]at hi;rw[hc i (by omega),List.getElem?_append_left (by rw[hl,hA];exact hi)]) (by rw[hA];omega) h0 he
    have b:=Dq k _ size (q+A+1) s t1 (fun i hi=>by
     rw[hB]at hi
     rw[show q+A+1+i=q+(A+1+i) by omega,hc _ (by omega),List.getElem?_append_right (by rw[hl,hA];omega),hl,hA,show A+1+i-A=i+1 by omega,List.getElem?_cons_succ]) (by rw[hB];omega) h0 he
    rw[hA]at a
    rw[hB]at b
    have x1:c.ins[q+A]? = some ⟨16,0⟩:=by rw[hc A (by omega),List.getElem?_append_right (by rw[hl,hA];omega),hl,hA,Nat.sub_self];rfl
    have s1:Seg p c env next (q+A) 1 [⟨s+1,size⟩] ⟨s+1,size⟩ ⟨s,size⟩:=Li x1 (by omega) fun met=>by
     unfold CI
     have u:Ah p ⟨16,0⟩=(1,0):=by unfold Ah;simp
     rw[u,if_neg (by simp only;omega),if_neg (by simp),if_neg (by simp),if_neg (by simp),if_neg (by simp),if_neg (by simp)]
     simp
    exact(HK a (HK s1 b)).cast (by omega) rfl rfl rfl
   ·rw [if_neg ag] at hc hN ⊢
    rw[if_neg ag]at hc⊢
    by_cases ah:(A1 p n).op=10
    ·have hlen:(A1 p n).kids.length=3:=Ec h (by rw[ah];rfl)
     have t0:=ac 0 (by omega)
     have t1:=ac 1 (by omega)
     have t2:=ac 2 (by omega)
     rw[if_neg (by omega)]at t0 t1 t2
     rw[if_pos ah]at hc hN⊢
     rw[if_pos ah]at hc⊢
     generalize hA:cL p k (kidN (A1 p n) 0)=A at*
     generalize hB:cL p k (kidN (A1 p n) 1)=B at*
     generalize hC:cL p k (kidN (A1 p n) 2)=C at*
     have a:=Dq k _ size q s t0 (fun i hi=>by rw[hA]at hi;rw[hc i (by omega),List.getElem?_append_left (by rw[hl,hA];exact hi)]) (by rw[hA];omega) h0 he
     have b:=Dq k _ size (q+A+1) s t1 (fun i hi=>by
      rw[hB]at hi
      rw[show q+A+1+i=q+(A+1+i) by omega,hc _ (by omega),List.getElem?_append_right (by rw[hl,hA];omega),hl,hA,show A+1+i-A=i+1 by omega,List.getElem?_cons_succ,List.getElem?_append_left (by rw[hl,hB];exact hi)]) (by rw[hB];omega) h0 he
     have d:=Dq k _ size (q+A+1+B+1) s t2 (fun i hi=>by
      rw[hC]at hi
      rw[show q+A+1+B+1+i=q+(A+1+B+1+i) by omega,hc _ (by omega),List.getElem?_append_right (by rw[hl,hA];omega),hl,hA,show A+1+B+1+i-A=(B+1+i)+1 by omega,List.getElem?_cons_succ,List.getElem?_append_right (by rw[hl,hB];omega),hl,hB,show B+1+i-B=i+1 by omega,List.getElem?_cons_succ]) (by rw[hC];omega) h0 he
     rw[hA]at a
     rw[hB]at b
     rw[hC]at d
     refine seg_if a ?_ b ?_ d (by omega) h0
     ·rw[hc A (by omega),List.getElem?_append_right (by rw[hl,hA];omega),hl,hA,Nat.sub_self];rfl
     ·rw[show q+A+1+B=q+(A+1+B) by omega,hc _ (by omega),List.getElem?_append_right (by rw[hl,hA];omega),hl,hA,show A+1+B-A=B+1 by omega,List.getElem?_cons_succ,List.getElem?_append_right (by rw[hl,hB];omega),hl,hB,Nat.sub_self,List.getElem?_cons_zero,show q+(A+1+B)=q+A+1+B by omega]
    ·rw [if_neg ah] at hc hN ⊢
     rw[if_neg ah]at hc⊢
     have aw:=FP hl (A1 p n).kids q
     obtain⟨o1,o2,o3⟩:=Ng ai h9 ah ag
     have hu:Ah p ⟨Dm (A1 p n).op,(A1 p n).n⟩=(((A1 p n).kids.length:Int),1):=by
      refine uses_op ?_ ai h9 ah ag
      have aj:=h.2.1
      by_cases h5:(A1 p n).op=5
      ·left
       refine⟨h5,?_⟩
       rw[Ih h5]at aj
       by_cases aA:0<=(A1 p n).n/\(A1 p n).n<p.gens.length
       ·rw[if_pos aA]at aj;omega
       ·rw[if_neg aA]at aj;omega
      ·right
       refine⟨h5,?_⟩
       unfold BE at aj
       cases ax:GF (A1 p n).op with
       |none=>rw[ax]at aj;simp only at aj;rw[if_neg fun hh=>h5 hh.1]at aj;omega
       |some m=>rw[ax]at aj;simp only at aj;rw[aj]
     have hx:c.ins[q+wtL (cL p k) (A1 p n).kids]? = some ⟨Dm (A1 p n).op,(A1 p n).n⟩:=by
      rw[hc _ (by omega),List.getElem?_append_right (by omega),aw,Nat.sub_self];rfl
     have ak:=h.2.2.1
     have last:=seg_op (p:=p) (env:=env) (next:=next) (s:=s+(A1 p n).kids.length) (e:=size) hx (by omega) hu (by omega) (fun e3=>by
      have h3:=o2 e3
      show(A1 p n).n<_
      unfold BD at ak
      rw[h3]at ak
      simp at ak
      omega) (fun e20=>by
      have aL:=o3 e20
      cases hn:next with
      |true=>rfl
      |false=>exact absurd ⟨aL,hn⟩ h.2.2.2.1) o1
     have last:=last.cast rfl rfl rfl (l1':=⟨s+1,size⟩) (by congr 1;omega)
     exact Ol _ q s 1 _ _ (fun i hi=>by
      have au:=hk i hi
      rw[if_neg fun hh=>h9 hh.1]at au
      refine Dq k _ size _ (s+i) au (fun j hj=>?_) ?_ (by omega) he
      ·rw[Nat.add_assoc,hc _ ?_,List.getElem?_append_left ?_]
       ·exact Nk hl _ q i j hi hj
       ·rw[aw]
        have:=ED (cL p k) (A1 p n).kids i hi
        have h2:=Cy (cL p k) (A1 p n).kids (i+1)
        omega
       ·have:=ED (cL p k) (A1 p n).kids i hi
        have h2:=Cy (cL p k) (A1 p n).kids (i+1)
        omega
      ·have:=ED (cL p k) (A1 p n).kids i hi
       have h2:=Cy (cL p k) (A1 p n).kids (i+1)
       omega) last
end
theorem Kr{f:Int->Int->List CLev}{g:Int->Nat}(h:∀c s,(f c s).length=g c): ∀(l:List Int) (s:Int),(Ig f l s).length=wtL g l
 |[],_=>by rw[Ig,wtL];rfl
 |c::r,s=>by rw[Ig,wtL,List.length_append,h,Kr h r]
theorem NO(p:BProg): ∀(k:Nat) (n s e:Int),(lvN p k n s e).length=cL p k n
 |0,_,_,_=>by rw[lvN,cL];rfl
 | k+1,n,s,e=>by
  have ih:=NO p k
  rw[lvN,cL]
  split
  ·simp only[List.length_append,List.length_cons,List.length_nil,ih]
  ·split
   ·simp only[List.length_append,List.length_cons,ih]
   ·split
    ·simp only[List.length_append,List.length_cons,ih];omega
    ·simp only[List.length_append,List.length_cons,List.length_nil,Kr (fun c s=>ih c s e)]
theorem cN_pos{p:BProg}{inM:Bool}{k:Nat}{n:Int}{size:Nat}(h:trE p inM k n size):1<=cL p k n:=by
 cases k with
 |zero=>exact h.elim
 |succ k=>rw[cL];split;omega;split;omega;split<;>omega
section
variable {p:BProg}{c:CProg}{next:Bool}
theorem Ui{k:Nat}{n:Int}{size q:Nat}(h:trE p next k n size)(hc:∀i,i<cL p k n->c.ins[q+i]? = (cN p k n q)[i]?)(ae:c.ins[q+cL p k n]? = some ⟨21,0⟩):
  CA p c size next (c.ins.length-q) q (updM (fun _=>none) q ⟨0,size⟩)=some (segM (fun _=>none) q (cL p k n) (lvN p k n 0 size) ⟨1,size⟩):=by
 have aC:=cN_pos h
 have hN:q+cL p k n<c.ins.length:=(List.getElem?_eq_some_iff.1 ae).1
 obtain⟨f,hf⟩:∃f,c.ins.length-q=cL p k n+(f+1):=⟨c.ins.length-q-cL p k n-1,by omega⟩
 obtain⟨s1,s2,s3,s4⟩:=Dq k n size q 0 h hc hN (Int.le_refl _) (Int.le_refl _)
 rw[hf,s4 (f+1) _ (by unfold updM;rw[if_pos rfl]) (fun j a b=>by unfold updM;rw[if_neg (by omega)]) (.inl (by unfold updM;rw[if_neg (by omega)]))]
 have e:segM (updM (fun _=>none) q ⟨0,size⟩) q (cL p k n) (lvN p k n 0 size) ⟨0+1,size⟩=segM (fun _=>none) q (cL p k n) (lvN p k n 0 size) ⟨1,size⟩:=by
  funext j
  unfold segM updM
  by_cases a:q<=j/\j<q+cL p k n
  ·rw[if_pos a,if_pos a]
  ·rw[if_neg a,if_neg a]
   by_cases b:j=q+cL p k n
   ·rw[if_pos b,if_pos b];rfl
   ·rw[if_neg b,if_neg b,if_neg (by omega)]
 rw[e,CA]
 have g:segM (fun _=>none) q (cL p k n) (lvN p k n 0 size) ⟨1,size⟩ (q+cL p k n)=some ⟨1,(size:Int)⟩:=by unfold segM;rw[if_neg (by omega),if_pos rfl]
 rw[g,ae]
 have st:CI p c size next (q+cL p k n) ⟨21,0⟩ ⟨1,size⟩ (segM (fun _=>none) q (cL p k n) (lvN p k n 0 size) ⟨1,size⟩)=some (segM (fun _=>none) q (cL p k n) (lvN p k n 0 size) ⟨1,size⟩):=by
  unfold CI
  have u:Ah p ⟨21,0⟩=(1,0):=by unfold Ah;simp
  rw[u,if_neg (by simp),if_pos rfl,if_pos ⟨rfl,rfl⟩]
 simp only[Option.getD_some]
 rw[st]
 exact Mb f _ _ fun j a b=>by unfold segM;rw[if_neg (by omega),if_neg (by omega)]
end
structure CSt where
 pos:Int
 env:Int
 next:Bool
def wayM(p:BProg)(c:CProg)(s:CSt):Option Met:=
 if s.pos<0\/(c.ins.length:Int)<=s.pos then none else CA p c s.env s.next (c.ins.length-s.pos.toNat) s.pos.toNat (updM (fun _=>none) s.pos.toNat ⟨0,s.env⟩)
def mrgM(N:Nat)(W w:Met):Option Met:=
 if(List.range N).all (fun k=>W k=none||w k=none||W k=w k) then some (fun k=>match w k with|none=>W k|some x=>some x) else none
def Fu(p:BProg)(c:CProg):List CSt->Met->Option Met
 |[],W=>some W
 | s::r,W=>match wayM p c s with
  |none=>none
  |some w=>match mrgM c.ins.length W w with
   |none=>none
   |some V=>Fu p c r V
theorem Ep{N:Nat}{met m:Met}{n:Int}{l:CLev}(h:BL N met n l=some m)(hd:∀j,N<=j->met j=none): ∀j,N<=j->m j=none:=by
 unfold BL at h
 split at h
 ·cases h
 ·rename_i e
  cases h
  intro j hj
  unfold updM
  rw[if_neg (by omega)]
  exact hd j hj
theorem Oh {p:BProg} {c:CProg} {env:Int} {next:Bool} {q:Nat} {x:CIns} {l:CLev} {met m:Met} (h:CI p c env next q x l met=some m) (hd : ∀ j,c.ins.length<=j->met j=none) : ∀ j,c.ins.length<=j->m j=none:=by
 unfold CI at h
 split at h
 ·cases h
 ·split at h
  ·split at h
   ·cases h;exact hd
   ·cases h
  ·split at h
   ·exact Ep h hd
   ·split at h
    ·exact Ep h hd
    ·split at h
     ·exact Ep h hd
     ·split at h
      ·split at h
       ·cases h
       ·rename_i e
        exact Ep h (Ep e hd)
      ·exact Ep h hd
theorem Lj{p:BProg}{c:CProg}{env:Int}{next:Bool}: ∀(f q:Nat) (met m:Met),CA p c env next f q met=some m->(∀j,c.ins.length<=j->met j=none)->∀j,c.ins.length<=j->m j=none
 |0,_,_,_,h,hd=>by cases h;exact hd
 | f+1,q,met,m,h,hd=>by
  rw[CA]at h
  split at h
  ·exact Lj f _ _ _ h hd
  ·split at h
   ·cases h
   ·rename_i e
    exact Lj f _ _ _ h (Oh e hd)
theorem L6{p:BProg}{c:CProg}{s:CSt}{w:Met}(h:wayM p c s=some w): ∀j,c.ins.length<=j->w j=none:=by
 unfold wayM at h
 split at h
 ·cases h
 ·exact Lj _ _ _ _ h fun j hj=>by unfold updM;rw[if_neg (by omega)]
theorem QW{N:Nat}{W w V:Met}(hw:∀j,N<=j->w j=none):mrgM N W w=some V ↔ (∀k a b,W k=some a->w k=some b->a=b)/\V=fun k=>match w k with|none=>W k|some x=>some x:=by
 unfold mrgM
 constructor
 ·intro h
  split at h
  ·rename_i e
   cases h
   refine⟨fun k a b ha hb=>?_,rfl⟩
   have hk:k<N:=Classical.byContradiction fun hn=>by rw[hw k (by omega)]at hb;cases hb
   have:=List.all_eq_true.1 e k (List.mem_range.2 hk)
   simp only[ha,hb]at this
   simpa using this
  ·cases h
 ·rintro⟨h,rfl⟩
  rw[if_pos]
  refine List.all_eq_true.2 fun k hk=>?_
  cases ha:W k with
  |none=>simp
  |some a=>
   cases hb:w k with
   |none=>simp
   |some b=>simp[h k a b ha hb]
theorem E9 {p:BProg} {c:CProg} : ∀ (l:List CSt) (W V:Met),Fu p c l W=some V ↔
  (∀k x,W k=some x->V k=some x)/\(∀s∈l, ∃w,wayM p c s=some w /\ ∀k x,w k=some x->V k=some x) /\
  (∀k x,V k=some x->W k=some x \/ ∃s∈l, ∃w,wayM p c s=some w/\w k=some x)
 | [],W,V=>by
  rw[Fu]
  constructor
  ·intro h;cases h
   exact⟨fun _ _ h=>h,fun _ h=>(List.not_mem_nil h).elim,fun _ _ h=>.inl h⟩
  ·rintro⟨h1,_,h3⟩
   congr 1
   funext k
   cases e:V k with
   |some x=>
    rcases h3 k x e with h|⟨s,hs,_⟩
    ·exact h
    ·exact(List.not_mem_nil hs).elim
   |none=>
    cases e2:W k with
    |none=>rfl
    |some x=>rw[h1 k x e2]at e;cases e
 | s::r,W,V=>by
  rw[Fu]
  cases hw:wayM p c s with
  | none =>
   constructor
   ·intro h;cases h
   ·rintro⟨_,h,_⟩
    obtain⟨w,e,_⟩:=h s List.mem_cons_self
    rw[hw]at e;cases e
  | some w =>
   simp only
   have hd:=L6 hw
   cases hm:mrgM c.ins.length W w with
   | none =>
    constructor
    ·intro h;cases h
    ·rintro⟨h1,h2,h3⟩
     obtain⟨w',e,e2⟩:=h2 s List.mem_cons_self
     rw[hw]at e;cases e
     have:=(QW (W:=W) (V:=fun k=>match w k with|none=>W k|some x=>some x) hd).2 ⟨fun k a b ha hb=>by
      have:=h1 k a ha;rw[e2 k b hb]at this;cases this;rfl,rfl⟩
     rw[hm]at this;cases this
   | some U =>
    obtain⟨m1,rfl⟩:=(QW hd).1 hm
    simp only
    rw[E9 r _ V]
    constructor
    ·rintro⟨h1,h2,h3⟩
     refine⟨fun k x hk=>h1 k x ?_,fun t ht=>?_,fun k x hk=>?_⟩
     ·cases e:w k with
      |none=>exact hk
      |some b=>rw[m1 k x b hk e]
     ·rcases List.mem_cons.1 ht with rfl|ht
      ·exact⟨w,hw,fun k x hk=>h1 k x (by simp only[hk])⟩
      ·exact h2 t ht
     ·rcases h3 k x hk with h|⟨t,ht,h⟩
      ·cases e:w k with
       |none=>rw[e]at h;exact .inl h
       |some b=>rw[e]at h;cases h;exact .inr ⟨s,List.mem_cons_self,w,hw,e⟩
      ·exact .inr ⟨t,List.mem_cons_of_mem _ ht,h⟩
    ·rintro⟨h1,h2,h3⟩
     obtain⟨w',e,e2⟩:=h2 s List.mem_cons_self
     rw[hw]at e;cases e
     refine⟨fun k x hk=>?_,fun t ht=>h2 t (List.mem_cons_of_mem _ ht),fun k x hk=>?_⟩
     ·cases e:w k with
      |none=>rw[e]at hk;exact h1 k x hk
      |some b=>rw[e]at hk;cases hk;exact e2 k _ e
     ·rcases h3 k x hk with h|⟨t,ht,w',ap,ay⟩
      ·left
       cases e:w k with
       |none=>exact h
       |some b=>rw[m1 k x b h e]
      ·rcases List.mem_cons.1 ht with rfl|ht
       ·rw[hw]at ap;cases ap
        left;simp only[ay]
       ·exact .inr ⟨t,ht,w',ap,ay⟩
theorem Ru{p:BProg}{c:CProg}{l m:List CSt}(h:∀s,s∈l ↔ s∈m)(W:Met):Fu p c l W=Fu p c m W:=by
 have key:∀V,Fu p c l W=some V ↔ Fu p c m W=some V:=fun V=>by
  rw[E9,E9]
  simp only[h]
 cases e:Fu p c l W with
 |some V=>exact((key V).1 e).symm
 |none=>
  cases e2:Fu p c m W with
  |none=>rfl
  |some V=>rw[(key V).2 e2]at e;cases e
def Fv(p:BProg)(c:CProg)(l:List CSt):Option (List CLev):=
 match Fu p c l (fun _=>none)with
 |none=>none
 |some W=>if(List.range c.ins.length).all (fun k=>(W k).isSome) then some ((List.range c.ins.length).map fun k=>(W k).getD ⟨0,0⟩) else none
theorem Ku{p:BProg}{c:CProg}{l m:List CSt}(h:∀s,s∈l ↔ s∈m):Fv p c l=Fv p c m:=by unfold Fv;rw[Ru h]
structure CBody where
 node:Int
 size:Nat
 next:Bool
def bodyC(p:BProg)(k:Nat)(n:Int)(q:Nat):List CIns:=cN p k n q++[⟨21,0⟩]
def AN(p:BProg)(k:Nat):List CBody->Nat->List CIns
 |[],_=>[]
 |b::r,q=>bodyC p k b.node q++AN p k r (q+(cL p k b.node+1))
def startsC(p:BProg)(k:Nat):List CBody->Nat->List CSt
 |[],_=>[]
 |b::r,q=>⟨q,b.size,b.next⟩::startsC p k r (q+(cL p k b.node+1))
def Ks(p:BProg)(k:Nat)(b:CBody):List CLev:=lvN p k b.node 0 b.size++[⟨1,b.size⟩]
def EO(p:BProg)(k:Nat):List CBody->List CLev
 |[]=>[]
 |b::r=>Ks p k b++EO p k r
theorem Cw(p:BProg)(k:Nat)(n:Int)(q:Nat):(bodyC p k n q).length=cL p k n+1:=by unfold bodyC;rw[List.length_append,Hy];rfl
theorem HS(p:BProg)(k:Nat)(b:CBody):(Ks p k b).length=cL p k b.node+1:=by unfold Ks;rw[List.length_append,NO];rfl
theorem Ja(p:BProg)(k:Nat): ∀(l:List CBody) (q:Nat),(AN p k l q).length=(EO p k l).length
 |[],_=>rfl
 |b::r,q=>by rw[AN,EO,List.length_append,List.length_append,Cw,HS,Ja p k r]
section
variable {p:BProg}{c:CProg}{k:Nat}
theorem way_one{b:CBody}{q:Nat}(h:trE p b.next k b.node b.size)(hc:∀i,i<cL p k b.node+1->c.ins[q+i]? = (bodyC p k b.node q)[i]?):
  ∃w,wayM p c ⟨q,b.size,b.next⟩=some w /\ ∀j x,w j=some x ↔ q<=j/\(Ks p k b)[j-q]? = some x:=by
 have ae:c.ins[q+cL p k b.node]? = some ⟨21,0⟩:=by
  rw[hc _ (by omega)]
  unfold bodyC
  rw[List.getElem?_append_right (by rw[Hy];exact Nat.le_refl _),Hy,Nat.sub_self]
  rfl
 have hN:q+cL p k b.node<c.ins.length:=(List.getElem?_eq_some_iff.1 ae).1
 refine⟨segM (fun _=>none) q (cL p k b.node) (lvN p k b.node 0 b.size) ⟨1,b.size⟩,?_,?_⟩
 ·unfold wayM
  simp only[show((q:Int)).toNat=q by omega]
  rw[if_neg (by omega)]
  exact Ui h (fun i hi=>by
   rw[hc i (by omega)]
   unfold bodyC
   rw[List.getElem?_append_left (by rw[Hy];exact hi)]) ae
 ·intro j x
  have hl:=NO p k b.node 0 b.size
  unfold segM Ks
  by_cases a:q<=j/\j<q+cL p k b.node
  ·rw[if_pos a,List.getElem?_append_left (by omega)]
   exact⟨fun e=>⟨a.1,e⟩,fun e=>e.2⟩
  ·rw[if_neg a]
   by_cases d:j=q+cL p k b.node
   ·rw[if_pos d,List.getElem?_append_right (by omega),hl,show j-q-cL p k b.node=0 by omega]
    exact⟨fun e=>⟨by omega,by simpa using e⟩,fun e=>by simpa using e.2⟩
   ·rw[if_neg d]
    constructor
    ·intro e;cases e
    ·rintro⟨e1,e2⟩
     have:=(List.getElem?_eq_some_iff.1 e2).1
     rw[List.length_append,hl,List.length_singleton]at this
     omega
theorem Qr: ∀(l:List CBody) (q:Nat),(∀b∈l,trE p b.next k b.node b.size)->(∀i,i<(EO p k l).length->c.ins[q+i]? = (AN p k l q)[i]?)->
  (∀s∈startsC p k l q, ∃w,wayM p c s=some w /\ ∀j x,w j=some x->q<=j/\(EO p k l)[j-q]? = some x) /\
  (∀j x,q<=j->(EO p k l)[j-q]? = some x->∃s∈startsC p k l q, ∃w,wayM p c s=some w/\w j=some x)
 |[],q,_,_=>by
  refine⟨fun s hs=>?_,fun j x _ h=>?_⟩
  ·rw[startsC]at hs;cases hs
  ·rw[EO]at h;simp at h
 | b::r,q,ht,hc=>by
  have hb:=HS p k b
  have aF:=Cw p k b.node q
  obtain⟨w,hw,hx⟩:=way_one (q:=q) (ht b List.mem_cons_self) (fun i hi=>by
   rw[hc i (by rw[EO,List.length_append];omega),AN,List.getElem?_append_left (by omega)])
  obtain⟨i1,i2⟩:=Qr r (q+(cL p k b.node+1)) (fun x hx=>ht x (List.mem_cons_of_mem _ hx)) (fun i hi=>by
   have:=hc (cL p k b.node+1+i) (by rw[EO,List.length_append];omega)
   rw[AN,List.getElem?_append_right (by omega),aF,show cL p k b.node+1+i-(cL p k b.node+1)=i by omega]at this
   rw[<-this,Nat.add_assoc])
  rw[startsC,EO]
  refine⟨fun s hs=>?_,fun j x hj h=>?_⟩
  ·rcases List.mem_cons.1 hs with rfl|hs
   ·refine⟨w,hw,fun j x e=>?_⟩
    obtain⟨e1,e2⟩:=(hx j x).1 e
    have:=(List.getElem?_eq_some_iff.1 e2).1
    rw[List.getElem?_append_left this]
    exact⟨e1,e2⟩
   ·obtain⟨v,hv,aB⟩:=i1 s hs
    refine⟨v,hv,fun j x e=>?_⟩
    obtain⟨e1,e2⟩:=aB j x e
    rw[List.getElem?_append_right (by omega),hb,show j-q-(cL p k b.node+1)=j-(q+(cL p k b.node+1)) by omega]
    exact⟨by omega,e2⟩
  ·by_cases hl:j-q<(Ks p k b).length
   ·rw[List.getElem?_append_left hl]at h
    exact⟨_,List.mem_cons_self,w,hw,(hx j x).2 ⟨hj,h⟩⟩
   ·rw[List.getElem?_append_right (by omega),hb,show j-q-(cL p k b.node+1)=j-(q+(cL p k b.node+1)) by omega]at h
    obtain⟨s,hs,v,hv⟩:=i2 j x (by omega) h
    exact⟨s,List.mem_cons_of_mem _ hs,v,hv⟩
theorem NQ{l:List CBody}{m:List CSt}(ht:∀b∈l,trE p b.next k b.node b.size)(hc:c.ins=AN p k l 0)(hm:∀s,s∈m ↔ s∈startsC p k l 0):Fv p c m=some (EO p k l):=by
 have hlen:c.ins.length=(EO p k l).length:=by rw[hc,Ja]
 obtain⟨h1,h2⟩:=Qr (c:=c) l 0 ht (fun i _=>by rw[hc,Nat.zero_add])
 rw[Ku hm]
 have e:Fu p c (startsC p k l 0) (fun _=>none)=some (fun j=>(EO p k l)[j]?):=by
  refine(E9 _ _ _).2 ⟨fun _ _ h=>(nomatch h),fun s hs=>?_,fun j x hj=>.inr ?_⟩
  ·obtain⟨w,hw,hv⟩:=h1 s hs
   exact⟨w,hw,fun j x e=>(hv j x e).2⟩
  ·exact h2 j x (Nat.zero_le _) hj
 unfold Fv
 rw[e]
 simp only
 rw[if_pos]
 ·congr 1
  rw[hlen]
  refine List.ext_getElem (by rw[List.length_map,List.length_range]) fun i a b=>?_
  rw[List.getElem_map,List.getElem_range,List.getElem?_eq_getElem b]
  rfl
 ·refine List.all_eq_true.2 fun j hj=>?_
  rw[List.mem_range,hlen]at hj
  rw[List.getElem?_eq_getElem hj]
  rfl
end
theorem OC(p:BProg)(k:Nat): ∀(l:List CBody),(∀b∈l,trE p b.next k b.node b.size)->(EO p k l).length<=2*wtL (fun b=>cntB p k b) (l.map (·.node))+l.length
 |[],_=>by rw[EO];simp
 |b::r,h=>by
  have:=OC p k r fun x hx=>h x (List.mem_cons_of_mem _ hx)
  have:=cL_le p k b.node b.next b.size (h b List.mem_cons_self)
  rw[EO,List.length_append,HS,List.map_cons,wtL,List.length_cons]
  omega
def JR(m:BMeth):Bool:=decide (m.kind=1)||decide (m.kind=4)
def Bf(p:BProg):List CBody:=p.methods.map fun m=>⟨m.node,(p.gens.getD m.gen.toNat 0).toNat,JR m⟩
def bodsP(p:BProg):List CBody:=Bf p++[⟨p.main,0,false⟩]
theorem OB(p:BProg)(hg:∀n:Nat,0<=p.gens.getD n 0): ∀(l:List BMeth) (s s':List Int),Cr p l s=some s'->∀m∈l,trE p (JR m) 12 m.node (p.gens.getD m.gen.toNat 0).toNat
 |[],_,_,_,m,hm=>by cases hm
 | a::r,s,s',h,m,hm=>by
  rw[Cr]at h
  split at h
  ·cases hw:Bs p (decide (a.kind=1)||decide (a.kind=4)) 12 a.node (p.gens.getD a.gen.toNat 0) s with
   | mk b s1 =>
    rw[hw]at h
    cases b with
    |false=>simp[optW]at h
    | true =>
     simp only[optW]at h
     rcases List.mem_cons.1 hm with rfl|hm
     ·have h0:=hg m.gen.toNat
      refine L7 p (JR m) 12 m.node _ s s1 ?_
      rw[show(((p.gens.getD m.gen.toNat 0).toNat:Nat):Int)=p.gens.getD m.gen.toNat 0 by omega]
      exact hw
     ·exact OB p hg r _ _ h m hm
  ·cases h
theorem Dz{p:BProg}(h:okP p=true):(∀g∈p.gens,1<=g/\g<=3)/\p.gens.length<=8/\p.methods.length<=16/\1<=p.nodes.length/\p.nodes.length<=120:=by
 unfold okP Db at h
 split at h
 ·rename_i hc
  simp only[Bool.and_eq_true,decide_eq_true_eq,List.all_eq_true]at hc
  exact⟨hc.2,by omega,by omega,by omega,by omega⟩
 ·cases h
theorem Eg{p:BProg}(h:okP p=true)(n:Nat):0<=p.gens.getD n 0/\p.gens.getD n 0<=3:=by
 have hg:=(Dz h).1
 rw[List.getD_eq_getElem?_getD]
 by_cases hl:n<p.gens.length
 ·rw[List.getElem?_eq_getElem hl]
  have:=hg _ (List.getElem_mem hl)
  simp only[Option.getD_some];omega
 ·rw[List.getElem?_eq_none (by omega)];simp
theorem LT{p:BProg}(h:okP p=true): ∀b∈bodsP p,trE p b.next 12 b.node b.size:=by
 have ar:=fun n=>(Eg h n).1
 unfold okP Db at h
 split at h
 ·cases hm:Cr p p.methods (List.replicate p.nodes.length (-1))with
  |none=>rw[hm]at h;simp at h
  | some s =>
   rw[hm]at h
   cases hw:Bs p false 12 p.main 0 s with
   | mk b s2 =>
    simp only[hw]at h
    cases b with
    |false=>simp[optW]at h
    | true =>
     intro b hb
     unfold bodsP Bf at hb
     rcases List.mem_append.1 hb with hb|hb
     ·obtain⟨m,aE,rfl⟩:=List.mem_map.1 hb
      exact OB p ar _ _ _ hm m aE
     ·rw[List.mem_singleton]at hb
      rw[hb]
      exact L7 p false 12 p.main 0 s s2 hw
 ·cases h
theorem K6{α}(f:α->Nat): ∀a b:List α,wtL f (a++b)=wtL f a+wtL f b
 |[],b=>by rw[List.nil_append,wtL,Nat.zero_add]
 |x::r,b=>by rw[List.cons_append,wtL,wtL,K6 f r b,Nat.add_assoc]
theorem Ob{α β}(f:β->Nat)(g:α->β): ∀a:List α,wtL f (a.map g)=wtL (fun x=>f (g x)) a
 |[]=>by rw[List.map_nil,wtL,wtL]
 |x::r=>by rw[List.map_cons,wtL,wtL,Ob f g r]
theorem VT{p:BProg}(h:okP p=true):wtL (fun b=>cntB p 12 b) ((bodsP p).map (·.node))=p.nodes.length:=by
 rw[<-UU h]
 unfold bodsP Bf
 rw[List.map_append,K6,List.map_map,Ob]
 simp only[List.map_cons,List.map_nil,wtL,Nat.add_zero]
 rfl
def Kq(p:BProg):Nat:=(AN p 12 (Bf p) 0).length
def D2(p:BProg):CProg:=⟨AN p 12 (Bf p) 0++bodyC p 12 p.main (Kq p),(startsC p 12 (Bf p) 0).map (·.pos),(Kq p:Int)⟩
def Dl(p:BProg)(m:BMeth)(n:Int):CSt:=⟨n,p.gens.getD m.gen.toNat 0,JR m⟩
def stsP(p:BProg)(c:CProg):List CSt:=List.zipWith (Dl p) p.methods c.starts++[⟨c.main,0,false⟩]
theorem Gp(p:BProg)(k:Nat): ∀(l m:List CBody) (q:Nat),AN p k (l++m) q=AN p k l q++AN p k m (q+(AN p k l q).length)
 |[],m,q=>by rw[List.nil_append,AN];rfl
 |b::r,m,q=>by
  rw[List.cons_append,AN,AN,Gp p k r m,List.append_assoc,List.length_append,Cw,Nat.add_assoc,Nat.add_assoc]
theorem Gi(p:BProg)(k:Nat): ∀(l m:List CBody) (q:Nat),startsC p k (l++m) q=startsC p k l q++startsC p k m (q+(AN p k l q).length)
 |[],m,q=>by rw[List.nil_append,startsC,AN];rfl
 |b::r,m,q=>by
  rw[List.cons_append,startsC,startsC,Gi p k r m,AN,List.cons_append,List.length_append,Cw,Nat.add_assoc,Nat.add_assoc]
theorem JF(p:BProg):(D2 p).ins=AN p 12 (bodsP p) 0:=by
 unfold D2 bodsP
 rw[Gp,Nat.zero_add]
 simp only[AN,List.append_nil]
 rfl
theorem Uq{p:BProg}(h:okP p=true):stsP p (D2 p)=startsC p 12 (bodsP p) 0:=by
 unfold stsP bodsP
 rw[Gi,Nat.zero_add]
 simp only[startsC]
 refine congrArg (· ++ [(⟨(Kq p:Int),0,false⟩:CSt)]) ?_
 unfold D2 Bf
 simp only
 have:∀(l:List BMeth) (q:Nat),List.zipWith (Dl p) l ((startsC p 12 (l.map fun m=>(⟨m.node,(p.gens.getD m.gen.toNat 0).toNat,JR m⟩:CBody)) q).map (·.pos))=startsC p 12 (l.map fun m=>⟨m.node,(p.gens.getD m.gen.toNat 0).toNat,JR m⟩) q:=fun l=>by
  induction l with
  |nil=>intro q;rfl
  |cons m r ih=>
   intro q
   rw[List.map_cons,startsC,List.map_cons,List.zipWith_cons_cons,ih]
   refine congrArg (· :: _) ?_
   unfold Dl
   have:=Eg h m.gen.toNat
   rw[show(((p.gens.getD m.gen.toNat 0).toNat:Nat):Int)=p.gens.getD m.gen.toNat 0 by omega]
 exact this _ _
theorem Rv{p:BProg}(h:okP p=true):Fv p (D2 p) (stsP p (D2 p))=some (EO p 12 (bodsP p)):=
 NQ (LT h) (JF p) fun s=>by rw[Uq h]
theorem LQ{p:BProg}(h:okP p=true):(D2 p).ins.length<=2*p.nodes.length+p.methods.length+1:=by
 have:=OC p 12 (bodsP p) (LT h)
 rw[VT h]at this
 rw[JF,Ja]
 have e:(bodsP p).length=p.methods.length+1:=by unfold bodsP Bf;rw[List.length_append,List.length_map];rfl
 omega
theorem Ke(p:BProg):(D2 p).starts.length=p.methods.length:=by
 unfold D2 Bf
 simp only
 have:∀(l:List CBody) (q:Nat),(startsC p 12 l q).length=l.length:=fun l=>by
  induction l with
  |nil=>intro q;rfl
  |cons m r ih=>intro q;rw[startsC,List.length_cons,List.length_cons,ih]
 rw[List.length_map,this,List.length_map]
def fitsC(p:BProg)(N:Nat)(q:Nat)(x:CIns):Bool:=
 if x.op=1 then inB x.a else if x.op=3 then decide (0<=x.a) else if x.op=4\/x.op=6 then decide (3<=x.a/\x.a<3+p.classes.length) else if x.op=5\/x.op=8 then decide (0<=x.a/\x.a<p.slots) else
 if x.op=17\/x.op=18 then decide ((q:Int)<x.a/\x.a<N) else if x.op=19 then decide (0<=x.a/\x.a<p.gens.length) else decide (1<=x.op/\x.op<=21/\x.a=0)
theorem PL{p:BProg}{x:BNode}{size:Int}(N q:Nat)(ai:1<=x.op/\x.op<=18)(h9:x.op≠9)(ah:x.op≠10)(ag:x.op≠11)(h:BD p x size=true):fitsC p N q ⟨Dm x.op,x.n⟩=true:=by
 have hc:x.op=1\/x.op=2\/x.op=3\/x.op=4\/x.op=5\/x.op=6\/x.op=7\/x.op=8\/x.op=12\/x.op=13\/x.op=14\/x.op=15\/x.op=16\/x.op=17\/x.op=18:=by omega
 unfold BD at h
 unfold fitsC
 rcases hc with e|e|e|e|e|e|e|e|e|e|e|e|e|e|e<;>rw[e]at h ⊢ <;> simp[Dm]at h ⊢ <;> first|exact h|omega
def sumB:List UInt8->UInt8->UInt8
 |[],n=>n
 |c::r,n=>sumB r (3*n+c+1)
def hiB:Nat->Nat->List UInt8
 |0,_=>[]
 |k+1,n=>if n=0 then [] else hiB k (n / 128)++[UInt8.ofNat (128+n % 128)]
def digB(n:Nat):List UInt8:=hiB 10 (n / 128)++[UInt8.ofNat (n % 128)]
def RH(n:Int):Nat:=if n<0 then(-2*n-1).toNat else(2*n).toNat
def hasA(op:Int):Bool:=decide (op=1\/op=3\/op=4\/op=5\/op=6\/op=8\/op=17\/op=18\/op=19)
def insB(x:CIns):List UInt8:=UInt8.ofNat x.op.toNat::(if hasA x.op then digB (RH x.a) else [])
def listB{α}(f:α->List UInt8):List α->List UInt8
 |[]=>[]
 |x::r=>f x++listB f r
def rawB(c:CProg):List UInt8:=199::(digB c.starts.length++(listB (fun n:Int=>digB n.toNat) c.starts++(digB c.main.toNat++(digB c.ins.length++listB insB c.ins))))
def JM(c:CProg):List UInt8:=rawB c++[sumB (rawB c) 0]
def farN(n:Int):Bool:=decide (0<=n/\n<=1000000000)
def F5(x:CIns):Bool:=decide (1<=x.op/\x.op<=21)&&(if hasA x.op then(if x.op=1 then inB x.a else farN x.a) else decide (x.a=0))
def Er(c:CProg):Bool:=decide (c.ins.length<=300)&&(decide (c.starts.length<=16)&&(farN c.main&&(c.starts.all farN&&c.ins.all F5)))
theorem Og{n:Nat}(h:n<256):(UInt8.ofNat n).toNat=n:=by
 rw[UInt8.toNat_ofNat'];omega
theorem RE: ∀k n,(hiB k n).length<=k
 |0,n=>by rw[hiB];simp
 | k+1,n=>by
  rw[hiB]
  split
  ·simp
  ·have:=RE k (n / 128)
   rw[List.length_append,List.length_singleton];omega
theorem OM: ∀k n,n<128 ^ k->∀j,k<=j->hiB j n=hiB k n
 |0,n,hn,j,_=>by
  have h0:n=0:=by simpa using hn
  subst h0
  cases j<;>rfl
 |k+1,n,hn,j,hj=>by
  obtain⟨i,rfl⟩:∃i,j=i+1:=⟨j-1,by omega⟩
  rw[hiB,hiB]
  split
  ·rfl
  ·rw[OM k (n / 128) (Nat.div_lt_of_lt_mul (by rw[Nat.pow_succ]at hn;omega)) i (by omega)]
def wordsC:List Str:=[[105,110,116],[110,111,110,101],[110,97,109,101],[110,101,119],[115,108,111,116],[116,117,114,110],[111,117,116],[115,101,116],[97,100,100],[115,117,98],[109,117,108],[108,101,115,115],[115,97,109,101],[108,101,116],[100,114,111,112],[112,111,112],[122,101,114,111],[106,117,109,112],[99,97,108,108],[110,101,120,116],[101,110,100]]
def Uf(op:Int):Str:=(wordsC[(op-1).toNat]?).getD []
def Gf(x:CIns):Str:=Uf x.op++(if hasA x.op then 32::Lib.itoa x.a else [])
def PG(c:CProg):Str:=listB (fun n=>Lib.itoa n++[32]) c.starts++58::32::Lib.itoa c.main
def M6(c:CProg):Str:=listB (fun l=>l++[10]) (PG c::c.ins.map Gf)
theorem Dx: ∀(k u:Nat),u<10 ^ (k+1)->(Lib.decDigits u).length<=k+1
 |0,u,h=>by rw[Lib.decDigits,dif_pos (by omega)];simp
 | k+1,u,h=>by
  rw[Lib.decDigits]
  split
  ·simp
  ·have:=Dx k (u / 10) (Nat.div_lt_of_lt_mul (by rw[Nat.pow_succ]at h;omega))
   rw[List.length_append,List.length_singleton];omega
theorem Lz{n:Int}(h:farN n=true):(Lib.itoa n).length<=10:=by
 unfold farN at h
 simp only[decide_eq_true_eq]at h
 unfold Lib.itoa
 rw[if_neg (by omega)]
 exact Dx 9 _ (by omega)
theorem RA{n:Int}(h : -1000000000<=n/\n<=1000000000):(Lib.itoa n).length<=11:=by
 unfold Lib.itoa
 split
 ·have:=Dx 9 n.natAbs (by omega)
  rw[List.length_cons];omega
 ·have:=Dx 9 n.toNat (by omega)
  omega
theorem Ha{α}{f:α->List UInt8}{m:Nat}: ∀(l:List α),(∀x∈l,(f x).length<=m)->(listB f l).length<=m*l.length
 |[],_=>by rw[listB];simp
 |x::r,h=>by
  have h1:=h x List.mem_cons_self
  have h2:=Ha r fun y hy=>h y (List.mem_cons_of_mem _ hy)
  rw[listB,List.length_append,List.length_cons,Nat.mul_succ];omega
theorem Qn: ∀k:Nat,k<21->((wordsC[k]?).getD []).length<=4/\(k=0->((wordsC[k]?).getD []).length=3):=by decide
theorem OD{x:CIns}(h:F5 x=true):(Gf x).length<=15:=by
 unfold F5 at h
 rw[Bool.and_eq_true]at h
 obtain⟨h1,h2⟩:=h
 simp only[decide_eq_true_eq]at h1
 obtain⟨w1,w2⟩:=Qn (x.op-1).toNat (by omega)
 unfold Gf Uf
 rw[List.length_append]
 cases e:hasA x.op with
 |false=>rw[if_neg (by simp),List.length_nil];omega
 | true =>
  rw[e,if_pos rfl]at h2
  rw[if_pos rfl,List.length_cons]
  split at h2
  ·rename_i e1
   have:=w2 (by omega)
   unfold inB at h2
   have:=RA (n:=x.a) (by simpa[Bool.and_eq_true,decide_eq_true_eq] using h2)
   omega
  ·have:=Lz h2
   omega
theorem Un{c:CProg}(h:Er c=true):(M6 c).length<=5000:=by
 unfold Er at h
 simp only[Bool.and_eq_true,decide_eq_true_eq,List.all_eq_true]at h
 obtain⟨h1,h2,h3,h4,h5⟩:=h
 have a:=Ha (f:=fun n=>Lib.itoa n++[32]) (m:=11) c.starts fun n hn=>by
  have:=Lz (h4 n hn)
  rw[List.length_append,List.length_singleton];omega
 have b:=Ha (f:=fun l:Str=>l++[(10:UInt8)]) (m:=16) (c.ins.map Gf) fun l hl=>by
  obtain⟨x,hx,rfl⟩:=List.mem_map.1 hl
  have:=OD (h5 x hx)
  rw[List.length_append,List.length_singleton];omega
 have d:=Lz h3
 rw[List.length_map]at b
 unfold M6 PG
 rw[listB,List.length_append,List.length_append,List.length_append,List.length_cons,List.length_cons,List.length_singleton]
 omega
theorem Iz{n:Nat}(h:n<128 ^ 5):(digB n).length<=5:=by
 unfold digB
 rw[List.length_append,List.length_singleton,OM 4 (n / 128) (Nat.div_lt_of_lt_mul (by omega)) 10 (by omega)]
 have:=RE 4 (n / 128)
 omega
theorem Uc{c:CProg}(h:Er c=true):(JM c).length<=5000:=by
 unfold Er at h
 simp only[Bool.and_eq_true,decide_eq_true_eq,List.all_eq_true]at h
 obtain⟨h1,h2,h3,h4,h5⟩:=h
 have far:∀n:Int,farN n=true->(digB n.toNat).length<=5:=fun n hn=>by
  unfold farN at hn
  simp only[decide_eq_true_eq]at hn
  exact Iz (by omega)
 have a:=Ha (f:=fun n:Int=>digB n.toNat) (m:=5) c.starts fun n hn=>far n (h4 n hn)
 have b:=Ha (f:=insB) (m:=6) c.ins fun x hx=>by
  have hp:=h5 x hx
  unfold F5 at hp
  rw[Bool.and_eq_true]at hp
  unfold insB
  rw[List.length_cons]
  split
  ·rename_i e
   have am:=hp.2
   rw[if_pos e]at am
   have : -1000000000<=x.a/\x.a<=1000000000:=by
    split at am
    ·unfold inB at am
     simpa[Bool.and_eq_true,decide_eq_true_eq] using am
    ·unfold farN at am
     simp only[decide_eq_true_eq]at am
     omega
   have:=Iz (n:=RH x.a) (by unfold RH;split<;>omega)
   omega
  ·simp
 have d1:=far _ h3
 have d2:=Iz (n:=c.starts.length) (by omega)
 have d3:=Iz (n:=c.ins.length) (by omega)
 unfold JM rawB
 rw[List.length_append,List.length_cons,List.length_append,List.length_append,List.length_append,List.length_append,List.length_singleton]
 omega
end Go.DL
