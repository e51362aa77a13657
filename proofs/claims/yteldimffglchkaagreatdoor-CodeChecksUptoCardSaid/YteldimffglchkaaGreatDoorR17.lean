/- A part of the proof. -/
import Derived.Test.YteldimffglchkaaGreatDoorR16
import Derived.Lib.Atoi
import Derived.Lib.ItoaNum
set_option linter.all false
namespace Go.DL
open Go Go.Proofs
def InR(n:Int)(k:Nat):Prop:=0<=n/\n<k
def cntB(p:BProg):Nat->Int->Nat
 |0,_=>1
 |k+1,node=>1+wtL (cntB p k) (Aa p node).kids
def negS(s:List Int):Nat:=s.countP (· < 0)
theorem Ob: ∀(s:List Int) (n:Nat) (v:Int),n<s.length->s.getD n 0<0->0<=v->negS (s.set n v)+1=negS s
 |[],n,v,h,_,_=>by simp at h
 |x::r,0,v,_,h,hv=>by
  have hx:x<0:=h
  simp only[List.set_cons_zero,negS,List.countP_cons,hx,decide_true,if_true]
  rw[if_neg (by simpa using hv)]
 |x::r,n+1,v,hl,h,hv=>by
  have:=Ob r n v (by simpa using hl) (by simpa using h) hv
  simp only[negS]at this
  simp only[List.set_cons_succ,negS,List.countP_cons]
  omega
theorem I1{p:BProg}{k:Nat}{f:Int->Int->List Int->Bool×List Int}{x:BNode}{size:Int}
  (hf:∀c z s s',f c z s=(true,s')->s.length=p.nodes.length->0<=z->s'.length=s.length/\cntB p k c+negS s'=negS s) (hz:0<=size) :
  ∀(l:List Int) (j:Nat) (s s':List Int),B6 f x size j l s=(true,s')->s.length=p.nodes.length->s'.length=s.length/\wtL (cntB p k) l+negS s'=negS s
 |[],j,s,s',h,hs=>by
  rw[B6]at h;cases h
  exact⟨rfl,by rw[wtL];omega⟩
 | c::r,j,s,s',h,hs=>by
  rw[B6]at h
  cases hc:f c (if x.op=9/\j=1 then size+1 else size) s with
  | mk b s1 =>
   rw[hc]at h
   cases b with
   |false=>simp at h
   |true=>
    obtain⟨h2,h3⟩:=hf _ _ _ _ hc hs (by split<;>omega)
    obtain⟨h5,h6⟩:=I1 hf hz r (j+1) s1 s' h (by omega)
    exact⟨by omega,by rw[wtL];omega⟩
theorem Ix(p:BProg)(inM:Bool): ∀(k:Nat) (node size:Int) (s s':List Int),Bx p inM k node size s=(true,s')->s.length=p.nodes.length->0<=size->s'.length=s.length/\cntB p k node+negS s'=negS s
 |0,_,_,_,_,h,_,_=>by simp[Bx]at h
 | k+1,node,size,s,s',h,hs,hz=>by
  rw[Bx]at h
  split at h
  ·simp at h
  ·rename_i h1
   split at h
   ·simp at h
   ·rename_i h2
    obtain⟨h5,h6⟩:=I1 (Ix p inM k) hz (Aa p node).kids 0 _ s' h (by simpa using hs)
    have hn:node.toNat<s.length:=by omega
    have h7:=Ob s node.toNat size hn (by omega) hz
    exact⟨by rw[h5,List.length_set],by rw[cntB];omega⟩
theorem Kh(p:BProg): ∀(l:List BMeth) (s s':List Int),Cw p l s=some s'->s.length=p.nodes.length->(∀m∈l,0<=p.gens.getD m.gen.toNat 0)->
  s'.length=s.length/\wtL (fun m:BMeth=>cntB p 12 m.node) l+negS s'=negS s
 |[],s,s',h,hs,_=>by rw[Cw]at h;cases h;exact⟨rfl,by rw[wtL];omega⟩
 | m::r,s,s',h,hs,hg=>by
  rw[Cw]at h
  split at h
  ·cases hw:Bx p (decide (m.kind=1)||decide (m.kind=4)) 12 m.node (p.gens.getD m.gen.toNat 0) s with
   | mk b s1 =>
    rw[hw]at h
    cases b with
    |false=>simp[optW]at h
    |true=>
     simp only[optW]at h
     obtain⟨h1,h2⟩:=Ix p _ _ _ _ _ _ hw hs (hg m (by simp))
     obtain⟨h3,h4⟩:=Kh p r s1 s' h (by omega) fun x hx=>hg x (by simp[hx])
     exact⟨by omega,by rw[wtL];omega⟩
  ·cases h
theorem UC(n:Nat):negS (List.replicate n (-1))=n:=by
 unfold negS
 rw[List.countP_replicate];simp
theorem Qz: ∀s:List Int,EntOK s-> -1∉s->negS s=0:=fun s h hn=>by
 unfold negS
 rw[List.countP_eq_zero]
 intro x hx
 have h1:=h x hx
 have h2:x ≠ -1:=fun e=>hn (e ▸ hx)
 simp only[decide_eq_true_eq]
 omega
theorem UQ{p:BProg}(h:okP p=true):wtL (fun m:BMeth=>cntB p 12 m.node) p.methods+cntB p 12 p.main=p.nodes.length:=by
 unfold okP Df at h
 split at h
 ·rename_i hc
  simp only[Bool.and_eq_true,decide_eq_true_eq,List.all_eq_true]at hc
  obtain⟨_,hg⟩:=hc
  have ak:∀n:Nat,0<=p.gens.getD n 0:=fun n=>by
   rw[List.getD_eq_getElem?_getD]
   by_cases hl:n<p.gens.length
   ·rw[List.getElem?_eq_getElem hl]
    have:=(hg _ (List.getElem_mem hl)).1
    simp only[Option.getD_some];omega
   ·rw[List.getElem?_eq_none (by omega)];simp
  cases hm:Cw p p.methods (List.replicate p.nodes.length (-1))with
  |none=>rw[hm]at h;simp at h
  | some s =>
   rw[hm]at h
   obtain⟨k1,k2⟩:=Kh p p.methods _ s hm (by simp) fun m _=>ak _
   rw[List.length_replicate]at k1
   rw[UC]at k2
   cases hw:Bx p false 12 p.main 0 s with
   | mk b s2 =>
    simp only[hw]at h
    cases b with
    |false=>simp[optW]at h
    | true =>
     obtain⟨m1,m2⟩:=Ix p false 12 _ _ _ _ hw k1 (Int.le_refl _)
     have e1:=methsP_ent p (fun g hx=>(hg g hx).1) p.methods _ s hm (fun x hx=>by rw[List.eq_of_mem_replicate hx];simp[EntOK]<;>omega)
     have e2:=GI p false 12 p.main 0 s (Int.le_refl _) e1
     rw[hw]at e2
     simp only[optW]at h
     split at h
     ·simp at h
     ·rename_i aB
      have:=Qz s2 e2 aB
      omega
 ·cases h
structure CIns where
 op:Int
 a:Int
 deriving DecidableEq
structure CProg where
 ins:List CIns
 starts:List Int
 main:Int
structure CLev where
 st:Int
 env:Int
 deriving DecidableEq
def kidN(x:BNode)(i:Nat):Int:=(x.kids[i]?).getD 0
def cL(p:BProg):Nat->Int->Nat
 |0,_=>0
 |k+1,n=>
  if(Aa p n).op=9 then cL p k (kidN (Aa p n) 0)+(cL p k (kidN (Aa p n) 1)+2)
  else if(Aa p n).op=11 then cL p k (kidN (Aa p n) 0)+(cL p k (kidN (Aa p n) 1)+1)
  else if(Aa p n).op=10 then cL p k (kidN (Aa p n) 0)+(cL p k (kidN (Aa p n) 1)+(cL p k (kidN (Aa p n) 2)+2))
  else wtL (cL p k) (Aa p n).kids+1
def TU(o:Int):Int:=if o=1 then 1 else if o=2 then 2 else if o=3 then 3 else if o=4 then 5 else if o=5 then 19 else if o=6 then 4 else if o=7 then 8 else if o=8 then 6 else if o=17 then 7 else if o=18 then 20 else o-3
def JV(f:Int->Nat->List CIns):List Int->Nat->List CIns
 |[],_=>[]
 |c::r,q=>f c q++JV f r (q+(f c q).length)
def cN (p:BProg):Nat->Int->Nat->List CIns
 |0,_,_=>[]
 | k+1,n,q =>
  if(Aa p n).op=9 then cN p k (kidN (Aa p n) 0) q++(⟨14,0⟩::(cN p k (kidN (Aa p n) 1) (q+cL p k (kidN (Aa p n) 0)+1)++[⟨15,0⟩]))
  else if(Aa p n).op=11 then cN p k (kidN (Aa p n) 0) q++(⟨16,0⟩::cN p k (kidN (Aa p n) 1) (q+cL p k (kidN (Aa p n) 0)+1))
  else if(Aa p n).op=10 then
   cN p k (kidN (Aa p n) 0) q++(⟨17,((q+cL p k (kidN (Aa p n) 0)+1+cL p k (kidN (Aa p n) 1)+1:Nat):Int)⟩::(cN p k (kidN (Aa p n) 1) (q+cL p k (kidN (Aa p n) 0)+1) ++
    (⟨18,((q+cL p k (kidN (Aa p n) 0)+1+cL p k (kidN (Aa p n) 1)+1+cL p k (kidN (Aa p n) 2):Nat):Int)⟩::cN p k (kidN (Aa p n) 2) (q+cL p k (kidN (Aa p n) 0)+1+cL p k (kidN (Aa p n) 1)+1))))
  else JV (cN p k) (Aa p n).kids q++[⟨TU (Aa p n).op,(Aa p n).n⟩]
theorem Jz{f:Int->Nat->List CIns}{g:Int->Nat}(h:∀c q,(f c q).length=g c): ∀(l:List Int) (q:Nat),(JV f l q).length=wtL g l
 |[],_=>by rw[JV,wtL];rfl
 |c::r,q=>by rw[JV,wtL,List.length_append,h,Jz h r]
theorem OP(p:BProg): ∀(k:Nat) (n:Int) (q:Nat),(cN p k n q).length=cL p k n
 |0,_,_=>by rw[cN,cL];rfl
 | k+1,n,q=>by
  have ih:=OP p k
  rw[cN,cL]
  split
  ·simp only[List.length_append,List.length_cons,List.length_nil,ih]
  ·split
   ·simp only[List.length_append,List.length_cons,ih]
   ·split
    ·simp only[List.length_append,List.length_cons,ih];omega
    ·simp only[List.length_append,List.length_cons,List.length_nil,Jz ih]
def trE(p:BProg)(inM:Bool):Nat->Int->Nat->Prop
 |0,_,_=>False
 |k+1,n,size=>InR n p.nodes.length/\((Aa p n).kids.length:Int)=BQ p (Aa p n)/\C6 p (Aa p n) size=true /\ ¬((Aa p n).op=18/\inM=false) /\
  ∀(j:Nat) (h:j<(Aa p n).kids.length),trE p inM k ((Aa p n).kids[j]) (if(Aa p n).op=9/\j=1 then size+1 else size)
theorem Iw{p:BProg}{inM:Bool}{k:Nat}{f:Int->Int->List Int->Bool×List Int}{x:BNode}{size:Nat}(hf:∀c (z:Nat) s s',f c z s=(true,s')->trE p inM k c z):
  ∀(l:List Int) (i:Nat) (s s':List Int),B6 f x size i l s=(true,s')->∀(j:Nat) (h:j<l.length),trE p inM k l[j] (if x.op=9/\i+j=1 then size+1 else size)
 |[],_,_,_,_,j,h=>by simp at h
 | c::r,i,s,s',h,j,hj=>by
  rw[B6]at h
  cases hc:f c (if x.op=9/\i=1 then(size:Int)+1 else size) s with
  | mk b s1 =>
   rw[hc]at h
   cases b with
   |false=>simp at h
   | true =>
    cases j with
    |zero=>
     rw[List.getElem_cons_zero,Nat.add_zero]
     by_cases e:x.op=9/\i=1
     ·rw[if_pos e]at hc⊢; exact hf c (size+1) _ _ hc
     ·rw[if_neg e]at hc⊢; exact hf c size _ _ hc
    |succ j=>
     have:=Iw hf r (i+1) s1 s' h j (by simpa using hj)
     rw[show i+1+j=i+(j+1) by omega]at this
     simpa using this
theorem KW(p:BProg)(inM:Bool): ∀(k:Nat) (n:Int) (size:Nat) (s s':List Int),Bx p inM k n size s=(true,s')->trE p inM k n size
 |0,_,_,_,_,h=>by simp[Bx]at h
 | k+1,n,size,s,s',h=>by
  rw[Bx]at h
  split at h
  ·simp at h
  ·rename_i h1
   split at h
   ·simp at h
   ·rename_i h2
    refine⟨⟨by omega,by omega⟩,Classical.byContradiction fun e=>h2 (.inl e),?_,fun e=>h2 (.inr (.inr e)),fun j hj=>?_⟩
    ·cases hn:C6 p (Aa p n) size with
     |true=>rfl
     |false=>exact absurd (.inr (.inl hn)) h2
    ·have:=Iw (fun c z s s' h=>KW p inM k c z s s' h) _ 0 _ _ h j hj
     rw[Nat.zero_add]at this
     exact this
theorem tr_op{p:BProg}{inM:Bool}{k:Nat}{n:Int}{size:Nat}(h:trE p inM (k+1) n size):1<=(Aa p n).op/\(Aa p n).op<=18:=by
 obtain⟨_,h2,_⟩:=h
 unfold BQ Ij at h2
 by_cases hh:1<=(Aa p n).op/\(Aa p n).op<=18
 ·exact hh
 ·exfalso
  rw[if_neg (by omega),if_neg (by omega),if_neg (by omega),if_neg (by omega)]at h2
  simp only at h2
  rw[if_neg (by omega)]at h2
  omega
theorem KY{p:BProg}{inM:Bool}{k:Nat}{n:Int}{size:Nat}(h:trE p inM (k+1) n size){m:Nat}(hm:Ij (Aa p n).op=some (m:Int)):(Aa p n).kids.length=m:=by
 obtain⟨_,h2,_⟩:=h
 unfold BQ at h2
 rw[hm]at h2
 simp only at h2
 omega
theorem Nw{x:BNode}{i:Nat}(h:i<x.kids.length):kidN x i=x.kids[i]:=by unfold kidN;rw[List.getElem?_eq_getElem h];rfl
theorem cL_le(p:BProg): ∀(k:Nat) (n:Int) (inM:Bool) (size:Nat),trE p inM k n size->cL p k n+0<=2*cntB p k n
 |0,_,_,_,h=>h.elim
 | k+1,n,inM,size,h=>by
  have ac:=tr_op h
  have hk:=h.2.2.2.2
  have aj:∀l:List Int,(∀(j:Nat) (h:j<l.length),cL p k l[j]<=2*cntB p k l[j])->wtL (cL p k) l<=2*wtL (cntB p k) l:=fun l=>by
   induction l with
   |nil=>intro _;rw[wtL,wtL];omega
   |cons c r ih=>
    intro h
    have h1:=h 0 (by simp)
    have h2:=ih fun j hj=>by have:=h (j+1) (by simpa using hj);simpa using this
    rw[List.getElem_cons_zero]at h1
    rw[wtL,wtL];omega
  have aa:∀(j:Nat) (h:j<(Aa p n).kids.length),cL p k (Aa p n).kids[j]<=2*cntB p k (Aa p n).kids[j]:=fun j hj=>cL_le p k _ _ _ (hk j hj)
  have hs:=aj _ aa
  rw[cL,cntB]
  have two:∀m:Nat,(Aa p n).kids.length=m->m=2->wtL (cntB p k) (Aa p n).kids=cntB p k (kidN (Aa p n) 0)+cntB p k (kidN (Aa p n) 1):=fun m h1 h2=>by
   match hh:(Aa p n).kids with
   |[a,b]=>unfold kidN;rw[hh];simp[wtL]
   |[]=>rw[hh]at h1;simp at h1;omega
   |[_]=>rw[hh]at h1;simp at h1;omega
   |_::_::_::_=>rw[hh]at h1;simp at h1;omega
  split
  ·rename_i h9
   have hl:(Aa p n).kids.length=2:=KY h (by rw[h9];rfl)
   have:=two 2 hl rfl
   have a1:=aa 0 (by omega)
   have a2:=aa 1 (by omega)
   rw[<-Nw]at a1 a2
   omega
  ·split
   ·rename_i aI
    have hl:(Aa p n).kids.length=2:=KY h (by rw[aI];rfl)
    have:=two 2 hl rfl
    have a1:=aa 0 (by omega)
    have a2:=aa 1 (by omega)
    rw[<-Nw]at a1 a2
    omega
   ·split
    ·rename_i aJ
     have hl:(Aa p n).kids.length=3:=KY h (by rw[aJ];rfl)
     have a1:=aa 0 (by omega)
     have a2:=aa 1 (by omega)
     have a3:=aa 2 (by omega)
     rw[<-Nw]at a1 a2 a3
     have:wtL (cntB p k) (Aa p n).kids=cntB p k (kidN (Aa p n) 0)+(cntB p k (kidN (Aa p n) 1)+cntB p k (kidN (Aa p n) 2)):=by
      match hh:(Aa p n).kids with
      |[a,b,c]=>unfold kidN;rw[hh];simp[wtL]
      |[]=>rw[hh]at hl;simp at hl
      |[_]=>rw[hh]at hl;simp at hl
      |[_,_]=>rw[hh]at hl;simp at hl
      |_::_::_::_::_=>rw[hh]at hl;simp at hl
     omega
    ·omega
def M7(f:Int->Int->List CLev):List Int->Int->List CLev
 |[],_=>[]
 |c::r,s=>f c s++M7 f r (s+1)
def lvN(p:BProg):Nat->Int->Int->Int->List CLev
 |0,_,_,_=>[]
 |k+1,n,s,e=>
  if(Aa p n).op=9 then lvN p k (kidN (Aa p n) 0) s e++(⟨s+1,e⟩::(lvN p k (kidN (Aa p n) 1) s (e+1)++[⟨s+1,e+1⟩]))
  else if(Aa p n).op=11 then lvN p k (kidN (Aa p n) 0) s e++(⟨s+1,e⟩::lvN p k (kidN (Aa p n) 1) s e)
  else if(Aa p n).op=10 then lvN p k (kidN (Aa p n) 0) s e++(⟨s+1,e⟩::(lvN p k (kidN (Aa p n) 1) s e++(⟨s+1,e⟩::lvN p k (kidN (Aa p n) 2) s e)))
  else M7 (fun c s=>lvN p k c s e) (Aa p n).kids s++[⟨s+(Aa p n).kids.length,e⟩]
def Ag(p:BProg)(x:CIns):Int×Int:=
 if x.op=1\/x.op=2\/x.op=3\/x.op=4\/x.op=20 then(0,1) else if x.op=5\/x.op=6\/x.op=7 then(1,1) else if x.op=14\/x.op=16\/x.op=17 then(1,0) else
 if x.op=19 then(p.gens.getD x.a.toNat 0,1) else if x.op=15\/x.op=18 then(0,0) else if x.op=21 then(1,0) else(2,1)
abbrev Met:=Nat->Option CLev
def updM(met:Met)(n:Nat)(l:CLev):Met:=fun j=>if j=n then some l else met j
def AI(N:Nat)(met:Met)(n:Int)(l:CLev):Option Met:=
 if n<0\/(N:Int)<=n\/(met n.toNat≠none/\met n.toNat≠some l) then none else some (updM met n.toNat l)
def CT(p:BProg)(c:CProg)(env:Int)(next:Bool)(q:Nat)(x:CIns)(l:CLev)(met:Met):Option Met:=
 if l.st<(Ag p x).1\/(x.op=3/\l.env<=x.a)\/(x.op=15/\l.env<=env)\/(x.op=20/\next=false) then none
 else if x.op=21 then(if l.st=1/\l.env=env then some met else none)
 else if x.op=14 then AI c.ins.length met ((q:Int)+1) ⟨l.st-(Ag p x).1+(Ag p x).2,l.env+1⟩
 else if x.op=15 then AI c.ins.length met ((q:Int)+1) ⟨l.st-(Ag p x).1+(Ag p x).2,l.env-1⟩
 else if x.op=18 then AI c.ins.length met x.a ⟨l.st-(Ag p x).1+(Ag p x).2,l.env⟩
 else if x.op=17 then(match AI c.ins.length met x.a ⟨l.st-(Ag p x).1+(Ag p x).2,l.env⟩with
  |none=>none
  |some m=>AI c.ins.length m ((q:Int)+1) ⟨l.st-(Ag p x).1+(Ag p x).2,l.env⟩)
 else AI c.ins.length met ((q:Int)+1) ⟨l.st-(Ag p x).1+(Ag p x).2,l.env⟩
def DY(p:BProg)(c:CProg)(env:Int)(next:Bool):Nat->Nat->Met->Option Met
 |0,_,met=>some met
 | f+1,q,met=>match met q with
  |none=>DY p c env next f (q+1) met
  |some l=>match CT p c env next q ((c.ins[q]?).getD ⟨0,0⟩) l met with
   |none=>none
   |some m=>DY p c env next f (q+1) m
theorem Kk{f:Int->Int->List CLev}{g:Int->Nat}(h:∀c s,(f c s).length=g c): ∀(l:List Int) (s:Int),(M7 f l s).length=wtL g l
 |[],_=>by rw[M7,wtL];rfl
 |c::r,s=>by rw[M7,wtL,List.length_append,h,Kk h r]
theorem R8(p:BProg): ∀(k:Nat) (n s e:Int),(lvN p k n s e).length=cL p k n
 |0,_,_,_=>by rw[lvN,cL];rfl
 | k+1,n,s,e=>by
  have ih:=R8 p k
  rw[lvN,cL]
  split
  ·simp only[List.length_append,List.length_cons,List.length_nil,ih]
  ·split
   ·simp only[List.length_append,List.length_cons,ih]
   ·split
    ·simp only[List.length_append,List.length_cons,ih];omega
    ·simp only[List.length_append,List.length_cons,List.length_nil,Kk (fun c s=>ih c s e)]
structure CSt where
 pos:Int
 env:Int
 next:Bool
def wayM(p:BProg)(c:CProg)(s:CSt):Option Met:=
 if s.pos<0\/(c.ins.length:Int)<=s.pos then none else DY p c s.env s.next (c.ins.length-s.pos.toNat) s.pos.toNat (updM (fun _=>none) s.pos.toNat ⟨0,s.env⟩)
def mrgM(N:Nat)(W w:Met):Option Met:=
 if(List.range N).all (fun k=>W k=none||w k=none||W k=w k) then some (fun k=>match w k with|none=>W k|some x=>some x) else none
def DN(p:BProg)(c:CProg):List CSt->Met->Option Met
 |[],W=>some W
 | s::r,W=>match wayM p c s with
  |none=>none
  |some w=>match mrgM c.ins.length W w with
   |none=>none
   |some V=>DN p c r V
theorem Ev{N:Nat}{met m:Met}{n:Int}{l:CLev}(h:AI N met n l=some m)(hd:∀j,N<=j->met j=none): ∀j,N<=j->m j=none:=by
 unfold AI at h
 split at h
 ·cases h
 ·rename_i e
  cases h
  intro j hj
  unfold updM
  rw[if_neg (by omega)]
  exact hd j hj
theorem O0 {p:BProg} {c:CProg} {env:Int} {next:Bool} {q:Nat} {x:CIns} {l:CLev} {met m:Met} (h:CT p c env next q x l met=some m) (hd : ∀ j,c.ins.length<=j->met j=none) : ∀ j,c.ins.length<=j->m j=none:=by
 unfold CT at h
 split at h
 ·cases h
 ·split at h
  ·split at h
   ·cases h;exact hd
   ·cases h
  ·split at h
   ·exact Ev h hd
   ·split at h
    ·exact Ev h hd
    ·split at h
     ·exact Ev h hd
     ·split at h
      ·split at h
       ·cases h
       ·rename_i e
        exact Ev h (Ev e hd)
      ·exact Ev h hd
theorem L7{p:BProg}{c:CProg}{env:Int}{next:Bool}: ∀(f q:Nat) (met m:Met),DY p c env next f q met=some m->(∀j,c.ins.length<=j->met j=none)->∀j,c.ins.length<=j->m j=none
 |0,_,_,_,h,hd=>by cases h;exact hd
 | f+1,q,met,m,h,hd=>by
  rw[DY]at h
  split at h
  ·exact L7 f _ _ _ h hd
  ·split at h
   ·cases h
   ·rename_i e
    exact L7 f _ _ _ h (O0 e hd)
theorem Ni{p:BProg}{c:CProg}{s:CSt}{w:Met}(h:wayM p c s=some w): ∀j,c.ins.length<=j->w j=none:=by
 unfold wayM at h
 split at h
 ·cases h
 ·exact L7 _ _ _ _ h fun j hj=>by unfold updM;rw[if_neg (by omega)]
theorem QD{N:Nat}{W w V:Met}(hw:∀j,N<=j->w j=none):mrgM N W w=some V ↔ (∀k a b,W k=some a->w k=some b->a=b)/\V=fun k=>match w k with|none=>W k|some x=>some x:=by
 unfold mrgM
 constructor
 ·intro h
  split at h
  ·rename_i e
   cases h
   refine⟨fun k a b ha hb=>?_,rfl⟩
   have hk:k<N:=Classical.byContradiction fun hn=>by rw[hw k (by omega)]at hb;cases hb
   have:=List.all_eq_true.1 e k (List.mem_range.2 hk)
   simp only[ha,hb]at this
   simpa using this
  ·cases h
 ·rintro⟨h,rfl⟩
  rw[if_pos]
  refine List.all_eq_true.2 fun k hk=>?_
  cases ha:W k with
  |none=>simp
  |some a=>
   cases hb:w k with
   |none=>simp
   |some b=>simp[h k a b ha hb]
theorem FY {p:BProg} {c:CProg} : ∀ (l:List CSt) (W V:Met),DN p c l W=some V ↔
  (∀k x,W k=some x->V k=some x)/\(∀s∈l, ∃w,wayM p c s=some w /\ ∀k x,w k=some x->V k=some x) /\
  (∀k x,V k=some x->W k=some x \/ ∃s∈l, ∃w,wayM p c s=some w/\w k=some x)
 | [],W,V=>by
  rw[DN]
  constructor
  ·intro h;cases h
   exact⟨fun _ _ h=>h,fun _ h=>(List.not_mem_nil h).elim,fun _ _ h=>.inl h⟩
  ·rintro⟨h1,_,h3⟩
   congr 1
   funext k
   cases e:V k with
   |some x=>
    rcases h3 k x e with h|⟨s,hs,_⟩
    ·exact h
    ·exact(List.not_mem_nil hs).elim
   |none=>
    cases e2:W k with
    |none=>rfl
    |some x=>rw[h1 k x e2]at e;cases e
 | s::r,W,V=>by
  rw[DN]
  cases hw:wayM p c s with
  | none =>
   constructor
   ·intro h;cases h
   ·rintro⟨_,h,_⟩
    obtain⟨w,e,_⟩:=h s List.mem_cons_self
    rw[hw]at e;cases e
  | some w =>
   simp only
   have hd:=Ni hw
   cases hm:mrgM c.ins.length W w with
   | none =>
    constructor
    ·intro h;cases h
    ·rintro⟨h1,h2,h3⟩
     obtain⟨w',e,e2⟩:=h2 s List.mem_cons_self
     rw[hw]at e;cases e
     have:=(QD (W:=W) (V:=fun k=>match w k with|none=>W k|some x=>some x) hd).2 ⟨fun k a b ha hb=>by
      have:=h1 k a ha;rw[e2 k b hb]at this;cases this;rfl,rfl⟩
     rw[hm]at this;cases this
   | some U =>
    obtain⟨m1,rfl⟩:=(QD hd).1 hm
    simp only
    rw[FY r _ V]
    constructor
    ·rintro⟨h1,h2,h3⟩
     refine⟨fun k x hk=>h1 k x ?_,fun t ht=>?_,fun k x hk=>?_⟩
     ·cases e:w k with
      |none=>exact hk
      |some b=>rw[m1 k x b hk e]
     ·rcases List.mem_cons.1 ht with rfl|ht
      ·exact⟨w,hw,fun k x hk=>h1 k x (by simp only[hk])⟩
      ·exact h2 t ht
     ·rcases h3 k x hk with h|⟨t,ht,h⟩
      ·cases e:w k with
       |none=>rw[e]at h;exact .inl h
       |some b=>rw[e]at h;cases h;exact .inr ⟨s,List.mem_cons_self,w,hw,e⟩
      ·exact .inr ⟨t,List.mem_cons_of_mem _ ht,h⟩
    ·rintro⟨h1,h2,h3⟩
     obtain⟨w',e,e2⟩:=h2 s List.mem_cons_self
     rw[hw]at e;cases e
     refine⟨fun k x hk=>?_,fun t ht=>h2 t (List.mem_cons_of_mem _ ht),fun k x hk=>?_⟩
     ·cases e:w k with
      |none=>rw[e]at hk;exact h1 k x hk
      |some b=>rw[e]at hk;cases hk;exact e2 k _ e
     ·rcases h3 k x hk with h|⟨t,ht,w',ai,aw⟩
      ·left
       cases e:w k with
       |none=>exact h
       |some b=>rw[m1 k x b h e]
      ·rcases List.mem_cons.1 ht with rfl|ht
       ·rw[hw]at ai;cases ai
        left;simp only[aw]
       ·exact .inr ⟨t,ht,w',ai,aw⟩
theorem Rd{p:BProg}{c:CProg}{l m:List CSt}(h:∀s,s∈l ↔ s∈m)(W:Met):DN p c l W=DN p c m W:=by
 have key:∀V,DN p c l W=some V ↔ DN p c m W=some V:=fun V=>by
  rw[FY,FY]
  simp only[h]
 cases e:DN p c l W with
 |some V=>exact((key V).1 e).symm
 |none=>
  cases e2:DN p c m W with
  |none=>rfl
  |some V=>rw[(key V).2 e2]at e;cases e
def DZ(p:BProg)(c:CProg)(l:List CSt):Option (List CLev):=
 match DN p c l (fun _=>none)with
 |none=>none
 |some W=>if(List.range c.ins.length).all (fun k=>(W k).isSome) then some ((List.range c.ins.length).map fun k=>(W k).getD ⟨0,0⟩) else none
theorem Pj{p:BProg}{c:CProg}{l m:List CSt}(h:∀s,s∈l ↔ s∈m):DZ p c l=DZ p c m:=by unfold DZ;rw[Rd h]
structure CBody where
 node:Int
 size:Nat
 next:Bool
def bodyC(p:BProg)(k:Nat)(n:Int)(q:Nat):List CIns:=cN p k n q++[⟨21,0⟩]
def BU(p:BProg)(k:Nat):List CBody->Nat->List CIns
 |[],_=>[]
 |b::r,q=>bodyC p k b.node q++BU p k r (q+(cL p k b.node+1))
def HB(p:BProg)(k:Nat):List CBody->Nat->List CSt
 |[],_=>[]
 |b::r,q=>⟨q,b.size,b.next⟩::HB p k r (q+(cL p k b.node+1))
def R9(p:BProg)(k:Nat)(b:CBody):List CLev:=lvN p k b.node 0 b.size++[⟨1,b.size⟩]
def Pg(p:BProg)(k:Nat):List CBody->List CLev
 |[]=>[]
 |b::r=>R9 p k b++Pg p k r
theorem EF(p:BProg)(k:Nat)(n:Int)(q:Nat):(bodyC p k n q).length=cL p k n+1:=by unfold bodyC;rw[List.length_append,OP];rfl
theorem Kl(p:BProg)(k:Nat)(b:CBody):(R9 p k b).length=cL p k b.node+1:=by unfold R9;rw[List.length_append,R8];rfl
theorem M8(p:BProg)(k:Nat): ∀(l:List CBody) (q:Nat),(BU p k l q).length=(Pg p k l).length
 |[],_=>rfl
 |b::r,q=>by rw[BU,Pg,List.length_append,List.length_append,EF,Kl,M8 p k r]
theorem Og(p:BProg)(k:Nat): ∀(l:List CBody),(∀b∈l,trE p b.next k b.node b.size)->(Pg p k l).length<=2*wtL (fun b=>cntB p k b) (l.map (·.node))+l.length
 |[],_=>by rw[Pg];simp
 |b::r,h=>by
  have:=Og p k r fun x hx=>h x (List.mem_cons_of_mem _ hx)
  have:=cL_le p k b.node b.next b.size (h b List.mem_cons_self)
  rw[Pg,List.length_append,Kl,List.map_cons,wtL,List.length_cons]
  omega
def JI(m:BMeth):Bool:=decide (m.kind=1)||decide (m.kind=4)
def BD(p:BProg):List CBody:=p.methods.map fun m=>⟨m.node,(p.gens.getD m.gen.toNat 0).toNat,JI m⟩
def bodsP(p:BProg):List CBody:=BD p++[⟨p.main,0,false⟩]
theorem Oe(p:BProg)(hg:∀n:Nat,0<=p.gens.getD n 0): ∀(l:List BMeth) (s s':List Int),Cw p l s=some s'->∀m∈l,trE p (JI m) 12 m.node (p.gens.getD m.gen.toNat 0).toNat
 |[],_,_,_,m,hm=>by cases hm
 | a::r,s,s',h,m,hm=>by
  rw[Cw]at h
  split at h
  ·cases hw:Bx p (decide (a.kind=1)||decide (a.kind=4)) 12 a.node (p.gens.getD a.gen.toNat 0) s with
   | mk b s1 =>
    rw[hw]at h
    cases b with
    |false=>simp[optW]at h
    | true =>
     simp only[optW]at h
     rcases List.mem_cons.1 hm with rfl|hm
     ·have h0:=hg m.gen.toNat
      refine KW p (JI m) 12 m.node _ s s1 ?_
      rw[show(((p.gens.getD m.gen.toNat 0).toNat:Nat):Int)=p.gens.getD m.gen.toNat 0 by omega]
      exact hw
     ·exact Oe p hg r _ _ h m hm
  ·cases h
theorem FZ{p:BProg}(h:okP p=true):(∀g∈p.gens,1<=g/\g<=3)/\p.gens.length<=8/\p.methods.length<=16/\1<=p.nodes.length/\p.nodes.length<=120:=by
 unfold okP Df at h
 split at h
 ·rename_i hc
  simp only[Bool.and_eq_true,decide_eq_true_eq,List.all_eq_true]at hc
  exact⟨hc.2,by omega,by omega,by omega,by omega⟩
 ·cases h
theorem GC{p:BProg}(h:okP p=true)(n:Nat):0<=p.gens.getD n 0/\p.gens.getD n 0<=3:=by
 have hg:=(FZ h).1
 rw[List.getD_eq_getElem?_getD]
 by_cases hl:n<p.gens.length
 ·rw[List.getElem?_eq_getElem hl]
  have:=hg _ (List.getElem_mem hl)
  simp only[Option.getD_some];omega
 ·rw[List.getElem?_eq_none (by omega)];simp
theorem U9{p:BProg}(h:okP p=true): ∀b∈bodsP p,trE p b.next 12 b.node b.size:=by
 have ak:=fun n=>(GC h n).1
 unfold okP Df at h
 split at h
 ·cases hm:Cw p p.methods (List.replicate p.nodes.length (-1))with
  |none=>rw[hm]at h;simp at h
  | some s =>
   rw[hm]at h
   cases hw:Bx p false 12 p.main 0 s with
   | mk b s2 =>
    simp only[hw]at h
    cases b with
    |false=>simp[optW]at h
    | true =>
     intro b hb
     unfold bodsP BD at hb
     rcases List.mem_append.1 hb with hb|hb
     ·obtain⟨m,aC,rfl⟩:=List.mem_map.1 hb
      exact Oe p ak _ _ _ hm m aC
     ·rw[List.mem_singleton]at hb
      rw[hb]
      exact KW p false 12 p.main 0 s s2 hw
 ·cases h
theorem JZ{α}(f:α->Nat): ∀a b:List α,wtL f (a++b)=wtL f a+wtL f b
 |[],b=>by rw[List.nil_append,wtL,Nat.zero_add]
 |x::r,b=>by rw[List.cons_append,wtL,wtL,JZ f r b,Nat.add_assoc]
theorem NT{α β}(f:β->Nat)(g:α->β): ∀a:List α,wtL f (a.map g)=wtL (fun x=>f (g x)) a
 |[]=>by rw[List.map_nil,wtL,wtL]
 |x::r=>by rw[List.map_cons,wtL,wtL,NT f g r]
theorem VX{p:BProg}(h:okP p=true):wtL (fun b=>cntB p 12 b) ((bodsP p).map (·.node))=p.nodes.length:=by
 rw[<-UQ h]
 unfold bodsP BD
 rw[List.map_append,JZ,List.map_map,NT]
 simp only[List.map_cons,List.map_nil,wtL,Nat.add_zero]
 rfl
def M5(p:BProg):Nat:=(BU p 12 (BD p) 0).length
def HR(p:BProg):CProg:=⟨BU p 12 (BD p) 0++bodyC p 12 p.main (M5 p),(HB p 12 (BD p) 0).map (·.pos),(M5 p:Int)⟩
def CV(p:BProg)(m:BMeth)(n:Int):CSt:=⟨n,p.gens.getD m.gen.toNat 0,JI m⟩
def stsP(p:BProg)(c:CProg):List CSt:=List.zipWith (CV p) p.methods c.starts++[⟨c.main,0,false⟩]
theorem Gj(p:BProg)(k:Nat): ∀(l m:List CBody) (q:Nat),BU p k (l++m) q=BU p k l q++BU p k m (q+(BU p k l q).length)
 |[],m,q=>by rw[List.nil_append,BU];rfl
 |b::r,m,q=>by
  rw[List.cons_append,BU,BU,Gj p k r m,List.append_assoc,List.length_append,EF,Nat.add_assoc,Nat.add_assoc]
theorem TT(p:BProg):(HR p).ins=BU p 12 (bodsP p) 0:=by
 unfold HR bodsP
 rw[Gj,Nat.zero_add]
 simp only[BU,List.append_nil]
 rfl
theorem VR{p:BProg}(h:okP p=true):(HR p).ins.length<=2*p.nodes.length+p.methods.length+1:=by
 have:=Og p 12 (bodsP p) (U9 h)
 rw[VX h]at this
 rw[TT,M8]
 have e:(bodsP p).length=p.methods.length+1:=by unfold bodsP BD;rw[List.length_append,List.length_map];rfl
 omega
def fitsC(p:BProg)(N:Nat)(q:Nat)(x:CIns):Bool:=
 if x.op=1 then inB x.a else if x.op=3 then decide (0<=x.a) else if x.op=4\/x.op=6 then decide (3<=x.a/\x.a<3+p.classes.length) else if x.op=5\/x.op=8 then decide (0<=x.a/\x.a<p.slots) else
 if x.op=17\/x.op=18 then decide ((q:Int)<x.a/\x.a<N) else if x.op=19 then decide (0<=x.a/\x.a<p.gens.length) else decide (1<=x.op/\x.op<=21/\x.a=0)
def sumB:List UInt8->UInt8->UInt8
 |[],n=>n
 |c::r,n=>sumB r (3*n+c+1)
def hiB:Nat->Nat->List UInt8
 |0,_=>[]
 |k+1,n=>if n=0 then [] else hiB k (n / 128)++[UInt8.ofNat (128+n % 128)]
def digB(n:Nat):List UInt8:=hiB 10 (n / 128)++[UInt8.ofNat (n % 128)]
def Ru(n:Int):Nat:=if n<0 then(-2*n-1).toNat else(2*n).toNat
def hasA(op:Int):Bool:=decide (op=1\/op=3\/op=4\/op=5\/op=6\/op=8\/op=17\/op=18\/op=19)
def insB(x:CIns):List UInt8:=UInt8.ofNat x.op.toNat::(if hasA x.op then digB (Ru x.a) else [])
def listB{α}(f:α->List UInt8):List α->List UInt8
 |[]=>[]
 |x::r=>f x++listB f r
def rawB(c:CProg):List UInt8:=199::(digB c.starts.length++(listB (fun n:Int=>digB n.toNat) c.starts++(digB c.main.toNat++(digB c.ins.length++listB insB c.ins))))
def JE(c:CProg):List UInt8:=rawB c++[sumB (rawB c) 0]
def farN(n:Int):Bool:=decide (0<=n/\n<=1000000000)
def F5(x:CIns):Bool:=decide (1<=x.op/\x.op<=21)&&(if hasA x.op then(if x.op=1 then inB x.a else farN x.a) else decide (x.a=0))
def Ew(c:CProg):Bool:=decide (c.ins.length<=300)&&(decide (c.starts.length<=16)&&(farN c.main&&(c.starts.all farN&&c.ins.all F5)))
theorem NZ{n:Nat}(h:n<256):(UInt8.ofNat n).toNat=n:=by
 rw[UInt8.toNat_ofNat'];omega
theorem Rm: ∀k n,(hiB k n).length<=k
 |0,n=>by rw[hiB];simp
 | k+1,n=>by
  rw[hiB]
  split
  ·simp
  ·have:=Rm k (n / 128)
   rw[List.length_append,List.length_singleton];omega
theorem Ot: ∀k n,n<128 ^ k->∀j,k<=j->hiB j n=hiB k n
 |0,n,hn,j,_=>by
  have h0:n=0:=by simpa using hn
  subst h0
  cases j<;>rfl
 |k+1,n,hn,j,hj=>by
  obtain⟨i,rfl⟩:∃i,j=i+1:=⟨j-1,by omega⟩
  rw[hiB,hiB]
  split
  ·rfl
  ·rw[Ot k (n / 128) (Nat.div_lt_of_lt_mul (by rw[Nat.pow_succ]at hn;omega)) i (by omega)]
def wordsC:List Str:=[[105,110,116],[110,111,110,101],[110,97,109,101],[110,101,119],[115,108,111,116],[116,117,114,110],[111,117,116],[115,101,116],[97,100,100],[115,117,98],[109,117,108],[108,101,115,115],[115,97,109,101],[108,101,116],[100,114,111,112],[112,111,112],[122,101,114,111],[106,117,109,112],[99,97,108,108],[110,101,120,116],[101,110,100]]
def Ud(op:Int):Str:=(wordsC[(op-1).toNat]?).getD []
def Gc(x:CIns):Str:=Ud x.op++(if hasA x.op then 32::Lib.itoa x.a else [])
def Pn(c:CProg):Str:=listB (fun n=>Lib.itoa n++[32]) c.starts++58::32::Lib.itoa c.main
def LQ(c:CProg):Str:=listB (fun l=>l++[10]) (Pn c::c.ins.map Gc)
theorem Dz: ∀(k u:Nat),u<10 ^ (k+1)->(Lib.decDigits u).length<=k+1
 |0,u,h=>by rw[Lib.decDigits,dif_pos (by omega)];simp
 | k+1,u,h=>by
  rw[Lib.decDigits]
  split
  ·simp
  ·have:=Dz k (u / 10) (Nat.div_lt_of_lt_mul (by rw[Nat.pow_succ]at h;omega))
   rw[List.length_append,List.length_singleton];omega
theorem Lm{n:Int}(h:farN n=true):(Lib.itoa n).length<=10:=by
 unfold farN at h
 simp only[decide_eq_true_eq]at h
 unfold Lib.itoa
 rw[if_neg (by omega)]
 exact Dz 9 _ (by omega)
theorem Rh{n:Int}(h : -1000000000<=n/\n<=1000000000):(Lib.itoa n).length<=11:=by
 unfold Lib.itoa
 split
 ·have:=Dz 9 n.natAbs (by omega)
  rw[List.length_cons];omega
 ·have:=Dz 9 n.toNat (by omega)
  omega
theorem H4{α}{f:α->List UInt8}{m:Nat}: ∀(l:List α),(∀x∈l,(f x).length<=m)->(listB f l).length<=m*l.length
 |[],_=>by rw[listB];simp
 |x::r,h=>by
  have h1:=h x List.mem_cons_self
  have h2:=H4 r fun y hy=>h y (List.mem_cons_of_mem _ hy)
  rw[listB,List.length_append,List.length_cons,Nat.mul_succ];omega
theorem Q5: ∀k:Nat,k<21->((wordsC[k]?).getD []).length<=4/\(k=0->((wordsC[k]?).getD []).length=3):=by decide
theorem Oh{x:CIns}(h:F5 x=true):(Gc x).length<=15:=by
 unfold F5 at h
 rw[Bool.and_eq_true]at h
 obtain⟨h1,h2⟩:=h
 simp only[decide_eq_true_eq]at h1
 obtain⟨w1,w2⟩:=Q5 (x.op-1).toNat (by omega)
 unfold Gc Ud
 rw[List.length_append]
 cases e:hasA x.op with
 |false=>rw[if_neg (by simp),List.length_nil];omega
 | true =>
  rw[e,if_pos rfl]at h2
  rw[if_pos rfl,List.length_cons]
  split at h2
  ·rename_i e1
   have:=w2 (by omega)
   unfold inB at h2
   have:=Rh (n:=x.a) (by simpa[Bool.and_eq_true,decide_eq_true_eq] using h2)
   omega
  ·have:=Lm h2
   omega
theorem Uk{c:CProg}(h:Ew c=true):(LQ c).length<=5000:=by
 unfold Ew at h
 simp only[Bool.and_eq_true,decide_eq_true_eq,List.all_eq_true]at h
 obtain⟨h1,h2,h3,h4,h5⟩:=h
 have a:=H4 (f:=fun n=>Lib.itoa n++[32]) (m:=11) c.starts fun n hn=>by
  have:=Lm (h4 n hn)
  rw[List.length_append,List.length_singleton];omega
 have b:=H4 (f:=fun l:Str=>l++[(10:UInt8)]) (m:=16) (c.ins.map Gc) fun l hl=>by
  obtain⟨x,hx,rfl⟩:=List.mem_map.1 hl
  have:=Oh (h5 x hx)
  rw[List.length_append,List.length_singleton];omega
 have d:=Lm h3
 rw[List.length_map]at b
 unfold LQ Pn
 rw[listB,List.length_append,List.length_append,List.length_append,List.length_cons,List.length_cons,List.length_singleton]
 omega
theorem Iq{n:Nat}(h:n<128 ^ 5):(digB n).length<=5:=by
 unfold digB
 rw[List.length_append,List.length_singleton,Ot 4 (n / 128) (Nat.div_lt_of_lt_mul (by omega)) 10 (by omega)]
 have:=Rm 4 (n / 128)
 omega
theorem U7{c:CProg}(h:Ew c=true):(JE c).length<=5000:=by
 unfold Ew at h
 simp only[Bool.and_eq_true,decide_eq_true_eq,List.all_eq_true]at h
 obtain⟨h1,h2,h3,h4,h5⟩:=h
 have far:∀n:Int,farN n=true->(digB n.toNat).length<=5:=fun n hn=>by
  unfold farN at hn
  simp only[decide_eq_true_eq]at hn
  exact Iq (by omega)
 have a:=H4 (f:=fun n:Int=>digB n.toNat) (m:=5) c.starts fun n hn=>far n (h4 n hn)
 have b:=H4 (f:=insB) (m:=6) c.ins fun x hx=>by
  have hp:=h5 x hx
  unfold F5 at hp
  rw[Bool.and_eq_true]at hp
  unfold insB
  rw[List.length_cons]
  split
  ·rename_i e
   have ae:=hp.2
   rw[if_pos e]at ae
   have : -1000000000<=x.a/\x.a<=1000000000:=by
    split at ae
    ·unfold inB at ae
     simpa[Bool.and_eq_true,decide_eq_true_eq] using ae
    ·unfold farN at ae
     simp only[decide_eq_true_eq]at ae
     omega
   have:=Iq (n:=Ru x.a) (by unfold Ru;split<;>omega)
   omega
  ·simp
 have d1:=far _ h3
 have d2:=Iq (n:=c.starts.length) (by omega)
 have d3:=Iq (n:=c.ins.length) (by omega)
 unfold JE rawB
 rw[List.length_append,List.length_cons,List.length_append,List.length_append,List.length_append,List.length_append,List.length_singleton]
 omega
def fitL(p:BProg)(N:Nat)(q:Nat)(l:List CIns):Prop:= ∀(i:Nat) (x:CIns),l[i]? = some x->fitsC p N (q+i) x=true
section
variable {p:BProg}{N:Nat}
theorem fit_nil(q:Nat):fitL p N q []:=fun i x h=>by simp at h
theorem V8{q r:Nat}{x:CIns}{m:List CIns}(h:fitsC p N q x=true)(hr:r=q+1)(k:fitL p N r m):fitL p N q (x::m):=fun i y hy=>by
 cases i with
 |zero=>simp only[List.getElem?_cons_zero,Option.some.injEq]at hy;rw[<-hy];exact h
 |succ i=>
  rw[List.getElem?_cons_succ]at hy
  have:=k i y hy
  rw[hr,show q+1+i=q+(i+1) by omega]at this
  exact this
end
def CW(p:BProg)(N:Nat):List CIns->Nat->Bool
 |[],_=>true
 |x::r,q=>fitsC p N q x&&CW p N r (q+1)
theorem EH{p:BProg}{N:Nat}: ∀(l:List CIns) (q:Nat),CW p N l q=true ↔ fitL p N q l
 |[],q=>by rw[CW];exact⟨fun _=>fit_nil q,fun _=>rfl⟩
 | x::r,q=>by
  rw[CW,Bool.and_eq_true,EH r]
  constructor
  ·rintro⟨a,b⟩;exact V8 a rfl b
  ·intro h
   refine⟨by have:=h 0 x rfl;rwa [Nat.add_zero]at this,fun i y hy=>?_⟩
   have:=h (i+1) y (by rw[List.getElem?_cons_succ];exact hy)
   rw[show q+1+i=q+(i+1) by omega]
   exact this
def AQ(p:BProg)(c:CProg):Option (List CLev):=
 if okP p&&(decide (c.ins.length<=300)&&(decide (c.starts.length=p.methods.length)&&CW p c.ins.length c.ins 0)) then DZ p c (stsP p c) else none
theorem reach_at{N:Nat}{met m:Met}{n:Int}{l:CLev}(h:AI N met n l=some m)(j:Nat):m j=met j\/((j:Int)=n/\m j=some l):=by
 unfold AI at h
 split at h
 ·cases h
 ·cases h
  unfold updM
  by_cases e:j=n.toNat
  ·rw[if_pos e];exact .inr ⟨by omega,rfl⟩
  ·rw[if_neg e];exact .inl rfl
section
variable {p:BProg}{c:CProg}{env:Int}{next:Bool}
theorem IG {q:Nat} {x:CIns} {l:CLev} {met m:Met} (h:CT p c env next q x l met=some m) (hj:x.op=17\/x.op=18->(q:Int) < x.a) (j:Nat):m j=met j\/(q < j /\ ∃ l',m j=some l'/\l'.env<=l.env+1):=by
 unfold CT at h
 split at h
 ·cases h
 ·split at h
  ·split at h
   ·cases h;exact .inl rfl
   ·cases h
  ·split at h
   ·rcases reach_at h j with e|⟨e,e2⟩
    ·exact .inl e
    ·exact .inr ⟨by omega,_,e2,by simp only;omega⟩
   ·split at h
    ·rcases reach_at h j with e|⟨e,e2⟩
     ·exact .inl e
     ·exact .inr ⟨by omega,_,e2,by simp only;omega⟩
    ·split at h
     ·rename_i aG
      have:=hj (.inr aG)
      rcases reach_at h j with e|⟨e,e2⟩
      ·exact .inl e
      ·exact .inr ⟨by omega,_,e2,by simp only;omega⟩
     ·split at h
      ·rename_i aH
       have:=hj (.inl aH)
       split at h
       ·cases h
       ·rename_i e0
        rcases reach_at h j with e|⟨e,e2⟩
        ·rcases reach_at e0 j with e1|⟨e1,e2⟩
         ·exact .inl (e.trans e1)
         ·exact .inr ⟨by omega,_,e.trans e2,by simp only;omega⟩
        ·exact .inr ⟨by omega,_,e2,by simp only;omega⟩
      ·rcases reach_at h j with e|⟨e,e2⟩
       ·exact .inl e
       ·exact .inr ⟨by omega,_,e2,by simp only;omega⟩
theorem Qj{q:Nat}{x:CIns}{l:CLev}{met m:Met}(h:CT p c env next q x l met=some m)(h3:x.op=3):x.a<l.env:=by
 unfold CT at h
 split at h
 ·cases h
 ·omega
def Am(c:CProg)(q:Nat):CIns:=(c.ins[q]?).getD ⟨0,0⟩
theorem E7(hf:∀q:Nat,(Am c q).op=17\/(Am c q).op=18->(q:Int)<(Am c q).a): ∀(f q:Nat) (met m:Met),DY p c env next f q met=some m->∀j,j<q->m j=met j
 |0,_,_,_,h,_,_=>by cases h;rfl
 | f+1,q,met,m,h,j,hj=>by
  rw[DY]at h
  split at h
  ·exact E7 hf f _ _ _ h j (by omega)
  ·split at h
   ·cases h
   ·rename_i e
    rw[E7 hf f _ _ _ h j (by omega)]
    rcases IG e (hf q) j with e2|⟨e2,_⟩
    ·exact e2
    ·omega
theorem II(hf:∀q:Nat,(Am c q).op=17\/(Am c q).op=18->(q:Int)<(Am c q).a)(e0:Int): ∀(f q:Nat) (met m:Met),DY p c env next f q met=some m->(∀j l,met j=some l->l.env<=e0+j)->
  ∀j l,q<=j->j<q+f->m j=some l->(Am c j).op=3->(Am c j).a<e0+j
 |0,_,_,_,_,_,_,_,_,_,_,_=>by omega
 | f+1,q,met,m,h,hE,j,l,h1,h2,hm,h3=>by
  rw[DY]at h
  split at h
  ·rename_i hq
   by_cases hj:j=q
   ·subst hj
    rw[E7 hf f _ _ _ h j (by omega),hq]at hm
    cases hm
   ·exact II hf e0 f _ _ _ h hE j l (by omega) (by omega) hm h3
  ·rename_i l0 hq
   split at h
   ·cases h
   ·rename_i m0 e
    by_cases hj:j=q
    ·subst hj
     have:=Qj e h3
     have:=hE j l0 hq
     unfold Am
     omega
    ·refine II hf e0 f _ _ _ h (fun i l' hi=>?_) j l (by omega) (by omega) hm h3
     rcases IG e (hf q) i with e2|⟨e2,l2,e3,e4⟩
     ·rw[e2]at hi;exact hE i l' hi
     ·rw[e3]at hi;cases hi
      have:=hE q l0 hq
      omega
theorem Uf(hf:∀q:Nat,(Am c q).op=17\/(Am c q).op=18->(q:Int)<(Am c q).a){s:CSt}{w:Met}(h:wayM p c s=some w)(h0:s.env<=3){j:Nat}{l:CLev}(hl:w j=some l)(h3:(Am c j).op=3):(Am c j).a<3+j:=by
 have hd:=Ni h
 unfold wayM at h
 split at h
 ·cases h
 ·have hj:j<c.ins.length:=Classical.byContradiction fun hn=>by rw[hd j (by omega)]at hl;cases hl
  by_cases hq:s.pos.toNat<=j
  ·refine II hf 3 _ _ _ _ h (fun i l' hi=>?_) j l hq (by omega) hl h3
   unfold updM at hi
   split at hi
   ·cases hi;simp only;omega
   ·cases hi
  ·rw[E7 hf _ _ _ _ h j (by omega)]at hl
   unfold updM at hl
   rw[if_neg (by omega)]at hl
   cases hl
end
def fitsQ(p:BProg)(N:Nat)(q:Nat)(x:CIns):Bool:=
 if x.op=1 then inB x.a else if x.op=3 then decide (0<=x.a/\x.a<=123+N) else if x.op=4\/x.op=6 then decide (3<=x.a/\x.a<3+p.classes.length) else if x.op=5\/x.op=8 then decide (0<=x.a/\x.a<p.slots) else
 if x.op=17\/x.op=18 then decide ((q:Int)<x.a/\x.a<N) else if x.op=19 then decide (0<=x.a/\x.a<p.gens.length) else decide (1<=x.op/\x.op<=21/\x.a=0)
def Cs(p:BProg)(N:Nat):List CIns->Nat->Bool
 |[],_=>true
 |x::r,q=>fitsQ p N q x&&Cs p N r (q+1)
theorem V6{p:BProg}{N q:Nat}{x:CIns}(h:fitsC p N q x=true)(h3:x.op=3->x.a<=123+N):fitsQ p N q x=true:=by
 unfold fitsC at h;unfold fitsQ
 by_cases e:x.op=3
 ·rw[if_neg (by omega),if_pos e]at h⊢
  simp only[decide_eq_true_eq]at h⊢
  exact⟨h,h3 e⟩
 ·rw[if_neg e]at h⊢
  exact h
theorem V7{p:BProg}{N q:Nat}{x:CIns}(h:fitsQ p N q x=true):fitsC p N q x=true:=by
 unfold fitsQ at h;unfold fitsC
 by_cases e:x.op=3
 ·rw[if_neg (by omega),if_pos e]at h⊢
  simp only[decide_eq_true_eq]at h⊢
  exact h.1
 ·rw[if_neg e]at h⊢
  exact h
theorem Na{p:BProg}{N:Nat}: ∀(l:List CIns) (q:Nat),Cs p N l q=true->CW p N l q=true
 |[],_,_=>rfl
 |x::r,q,h=>by
  rw[Cs,Bool.and_eq_true]at h
  rw[CW,V7 h.1,Na r _ h.2];rfl
theorem KT{p:BProg}{N:Nat}: ∀(l:List CIns) (q:Nat),CW p N l q=true->(∀(i:Nat) (x:CIns),l[i]? = some x->x.op=3->x.a<=123+N)->Cs p N l q=true
 |[],_,_,_=>rfl
 |x::r,q,h,hn=>by
  rw[CW,Bool.and_eq_true]at h
  rw[Cs,V6 h.1 (hn 0 x rfl),KT r _ h.2 fun i y hy=>hn (i+1) y (by rw[List.getElem?_cons_succ];exact hy)];rfl
def stsQ(p:BProg)(c:CProg):List CSt:=⟨c.main,0,false⟩::List.zipWith (CV p) p.methods c.starts
def Lj(p:BProg)(c:CProg):Option (List CLev):=
 if okP p&&(decide (c.ins.length<=300)&&(decide (c.starts.length=p.methods.length)&&Cs p c.ins.length c.ins 0)) then DZ p c (stsQ p c) else none
theorem Rc (p:BProg) (c:CProg):Lj p c=AQ p c:=by
 unfold Lj AQ
 have hs:DZ p c (stsQ p c)=DZ p c (stsP p c):=Pj fun s=>by unfold stsQ stsP;rw[List.mem_cons,List.mem_append,List.mem_singleton,or_comm]
 rw[hs]
 by_cases ag:okP p=true
 ·by_cases h1:c.ins.length<=300
  ·by_cases h2:c.starts.length=p.methods.length
   ·rw [ag,decide_eq_true h1,decide_eq_true h2,Bool.true_and,Bool.true_and,Bool.true_and,Bool.true_and]
    cases hq:Cs p c.ins.length c.ins 0 with
    |true=>rw[Na _ _ hq];rfl
    | false =>
     cases hf:CW p c.ins.length c.ins 0 with
     |false=>rfl
     | true =>
      rw[if_neg (by simp)]
      change none=DZ p c (stsP p c)
      cases hl:DZ p c (stsP p c)with
      |none=>rfl
      | some lv =>
       exfalso
       have aq:=hq
       rw[KT _ _ hf]at aq
       ·cases aq
       intro i x hx h3
       have hi:i<c.ins.length:=(List.getElem?_eq_some_iff.1 hx).1
       have ha:∀q,Am c q=((c.ins[q]?).getD ⟨0,0⟩):=fun _=>rfl
       have am:∀q:Nat,(Am c q).op=17\/(Am c q).op=18->(q:Int)<(Am c q).a:=fun q ac=>by
        rw[ha]at ac⊢
        cases hc:c.ins[q]? with
        |none=>rw[hc]at ac;simp at ac
        |some y=>
         rw[hc]at ac
         simp only[Option.getD_some]at ac⊢
         have:=(EH _ _).1 hf q y hc
         unfold fitsC at this
         rw[if_neg (by omega),if_neg (by omega),if_neg (by omega),if_neg (by omega),if_pos ac]at this
         simp only[decide_eq_true_eq]at this
         omega
       unfold DZ at hl
       cases hL:DN p c (stsP p c) (fun _=>none)with
       |none=>rw[hL]at hl;cases hl
       | some W =>
        rw[hL]at hl
        simp only at hl
        split at hl
        ·rename_i aa
         have:=List.all_eq_true.1 aa i (List.mem_range.2 hi)
         obtain⟨l,hW⟩:=Option.isSome_iff_exists.1 this
         rcases((FY _ _ _).1 hL).2.2 i l hW with h|⟨s,hs,w,hw,ax⟩
         ·cases h
         ·have ap:s.env<=3:=by
           unfold stsP at hs
           rcases List.mem_append.1 hs with hs|hs
           ·rw[<-List.map_uncurry_zip_eq_zipWith]at hs
            obtain⟨⟨m,n⟩,_,rfl⟩:=List.mem_map.1 hs
            exact(GC ag m.gen.toNat).2
           ·rw[List.mem_singleton]at hs;rw[hs];simp
          have e:Am c i=x:=by rw[ha,hx];rfl
          have:=Uf am hw ap ax (by rw[e];exact h3)
          rw[e]at this
          omega
        ·cases hl
   ·rw[ag,decide_eq_true h1,decide_eq_false h2];rfl
  ·rw[ag,decide_eq_false h1];rfl
 ·rw[Bool.not_eq_true]at ag
  rw[ag];rfl
def CZ {S:Type} (p:BProg) (c:CProg) (env:Int) (next:Bool) (step:Nat->CLev->S->Option S):Nat->Nat->Met->S->Option S
 |0,_,_,s=>some s
 | f+1,q,met,s=>match met q with
  |none=>CZ p c env next step f (q+1) met s
  | some l=>match CT p c env next q (Am c q) l met with
   |none=>none
   |some m=>match step q l s with
    |none=>none
    |some s'=>CZ p c env next step f (q+1) m s'
def B5{S:Type}(p:BProg)(c:CProg)(x:CSt)(step:Nat->CLev->S->Option S)(s:S):Option S:=
 if x.pos<0\/(c.ins.length:Int)<=x.pos then none else CZ p c x.env x.next step (c.ins.length-x.pos.toNat) x.pos.toNat (updM (fun _=>none) x.pos.toNat ⟨0,x.env⟩) s
def Dy(k:Nat)(l:CLev)(W:Met):Option Met:=if W k≠none/\W k≠some l then none else some (updM W k l)
open Classical in
noncomputable def mrgF(q N:Nat)(W w:Met):Option Met:=
 if ∀k,q<=k->k<N->W k=none\/w k=none\/W k=w k then some (fun k=>if q<=k/\k<N then(match w k with|none=>W k|some x=>some x) else W k) else none
section
variable {p:BProg}{c:CProg}{env:Int}{next:Bool}
theorem NW (hf : ∀ q:Nat,(Am c q).op=17\/(Am c q).op=18->(q:Int) < (Am c q).a) : ∀ (f q:Nat) (met W:Met),CZ p c env next Dy f q met W=match DY p c env next f q met with
  |none=>none
  |some w=>mrgF q (q+f) W w
 |0,q,met,W=>by
  rw[CZ,DY]
  simp only[mrgF]
  rw[if_pos (fun k h1 h2=>by omega)]
  congr 1;funext k;rw[if_neg (by omega)]
 | f+1,q,met,W=>by
  rw[CZ,DY]
  have ih:=NW hf f (q+1)
  cases hq:met q with
  | none =>
   simp only
   rw[ih]
   cases hs:DY p c env next f (q+1) met with
   |none=>rfl
   | some w =>
    have hw:w q=none:=by rw[E7 hf f (q+1) met w hs q (by omega),hq]
    rw[show q+1+f=q+(f+1) by omega]
    simp only[mrgF]
    have e:(∀k,q+1<=k->k<q+(f+1)->W k=none\/w k=none\/W k=w k) ↔ (∀k,q<=k->k<q+(f+1)->W k=none\/w k=none\/W k=w k):=
     ⟨fun h k h1 h2=>Decidable.byCases (fun e:k=q=>by subst e;exact .inr (.inl hw)) fun e=>h k (by omega) h2,fun h k h1 h2=>h k (by omega) h2⟩
    by_cases hc:∀k,q<=k->k<q+(f+1)->W k=none\/w k=none\/W k=w k
    ·rw[if_pos (e.2 hc),if_pos hc]
     congr 1;funext k
     by_cases hk:k=q
     ·subst hk;rw[if_neg (by omega),if_pos (by omega),hw]
     ·by_cases h:q<=k/\k<q+(f+1)
      ·rw[if_pos h,if_pos (by omega)]
      ·rw[if_neg h,if_neg (by omega)]
    ·rw[if_neg hc,if_neg (fun h=>hc (e.1 h))]
  | some l =>
   simp only
   have hi:(c.ins[q]?).getD ⟨0,0⟩=Am c q:=rfl
   rw[hi]
   cases ay:CT p c env next q (Am c q) l met with
   |none=>rfl
   | some m =>
    simp only
    have ar:m q=some l:=by
     rcases IG ay (hf q) q with h|⟨h,_⟩
     ·rw[h,hq]
     ·omega
    cases hg:Dy q l W with
    | none =>
     simp only
     cases hs:DY p c env next f (q+1) m with
     |none=>rfl
     | some w =>
      have hw:w q=some l:=by rw[E7 hf f (q+1) m w hs q (by omega),ar]
      unfold Dy at hg
      split at hg
      ·rename_i hc
       simp only[mrgF]
       rw[if_neg]
       intro h
       rcases h q (by omega) (by omega)with h|h|h
       ·exact hc.1 h
       ·rw[hw]at h;cases h
       ·rw[hw]at h;exact hc.2 h
      ·cases hg
    | some V =>
     simp only
     rw[ih]
     cases hs:DY p c env next f (q+1) m with
     |none=>rfl
     | some w =>
      have hw:w q=some l:=by rw[E7 hf f (q+1) m w hs q (by omega),ar]
      unfold Dy at hg
      split at hg
      ·cases hg
      ·rename_i hc
       cases hg
       have aF:W q=none\/W q=some l:=by
        cases h:W q with
        |none=>exact .inl rfl
        |some y=>right;exact Classical.byContradiction fun h2=>hc ⟨by rw[h];simp,by rw[h];exact h2⟩
       rw[show q+1+f=q+(f+1) by omega]
       simp only[mrgF]
       have hu:∀k,k≠q->updM W q l k=W k:=fun k hk=>by unfold updM;rw[if_neg hk]
       have e:(∀k,q+1<=k->k<q+(f+1)->updM W q l k=none\/w k=none\/updM W q l k=w k) ↔ (∀k,q<=k->k<q+(f+1)->W k=none\/w k=none\/W k=w k):=
        ⟨fun h k h1 h2=>by
         by_cases e:k=q
         ·subst e;rw[hw];rcases aF with h|h
          ·exact .inl h
          ·exact .inr (.inr h)
         ·have:=h k (by omega) h2;rwa [hu k e]at this,fun h k h1 h2=>by rw[hu k (by omega)];exact h k (by omega) h2⟩
       by_cases ah:∀k,q<=k->k<q+(f+1)->W k=none\/w k=none\/W k=w k
       ·rw[if_pos (e.2 ah),if_pos ah]
        congr 1;funext k
        by_cases hk:k=q
        ·subst hk;rw[if_neg (by omega),if_pos (by omega),hw];unfold updM;rw[if_pos rfl]
        ·rw[hu k hk]
         by_cases h:q<=k/\k<q+(f+1)
         ·rw[if_pos h,if_pos (by omega)]
         ·rw[if_neg h,if_neg (by omega)]
       ·rw[if_neg ah,if_neg (fun h=>ah (e.1 h))]
theorem FQ{N:Nat}{met m:Met}{n:Int}{l:CLev}(h:AI N met n l=some m)(hm:∀j,N<=j->met j=none): ∀j,N<=j->m j=none:=fun j hj=>by
 rcases reach_at h j with e|⟨e,_⟩
 ·rw[e];exact hm j hj
 ·unfold AI at h
  split at h
  ·cases h
  ·rename_i hc;exfalso;omega
theorem step_hi {q:Nat} {x:CIns} {l:CLev} {met m:Met} (h:CT p c env next q x l met=some m) (hm : ∀ j,c.ins.length<=j->met j=none) : ∀ j,c.ins.length<=j->m j=none:=by
 unfold CT at h
 split at h
 ·cases h
 ·split at h
  ·split at h
   ·cases h;exact hm
   ·cases h
  ·split at h
   ·exact FQ h hm
   ·split at h
    ·exact FQ h hm
    ·split at h
     ·exact FQ h hm
     ·split at h
      ·split at h
       ·cases h
       ·rename_i m1 h1
        exact FQ h (FQ h1 hm)
      ·exact FQ h hm
theorem Np: ∀(f q:Nat) (met m:Met),DY p c env next f q met=some m->(∀j,c.ins.length<=j->met j=none)->∀j,c.ins.length<=j->m j=none
 |0,_,_,_,h,hm=>by cases h;exact hm
 | f+1,q,met,m,h,hm=>by
  rw[DY]at h
  split at h
  ·exact Np f _ _ _ h hm
  ·split at h
   ·cases h
   ·rename_i m1 h1
    exact Np f _ _ _ h (step_hi h1 hm)
theorem NY(hf:∀q:Nat,(Am c q).op=17\/(Am c q).op=18->(q:Int)<(Am c q).a)(x:CSt)(W:Met):B5 p c x Dy W=match wayM p c x with
  |none=>none
  |some w=>mrgM c.ins.length W w:=by
 unfold B5 wayM
 split
 ·rfl
 ·rename_i hx
  rw[NW hf]
  cases hs:DY p c x.env x.next (c.ins.length-x.pos.toNat) x.pos.toNat (updM (fun _=>none) x.pos.toNat ⟨0,x.env⟩)with
  |none=>rfl
  | some w =>
   simp only
   have au:∀k,k<x.pos.toNat->w k=none:=fun k hk=>by rw[E7 hf _ _ _ _ hs k hk];unfold updM;rw[if_neg (by omega)]
   have aE:∀k,c.ins.length<=k->w k=none:=Np _ _ _ _ hs fun j hj=>by unfold updM;rw[if_neg (by omega)]
   rw[show x.pos.toNat+(c.ins.length-x.pos.toNat)=c.ins.length by omega]
   unfold mrgF mrgM
   have e:(∀k,x.pos.toNat<=k->k<c.ins.length->W k=none\/w k=none\/W k=w k) ↔ ((List.range c.ins.length).all (fun k=>W k=none||w k=none||W k=w k)=true):=by
    rw[List.all_eq_true]
    constructor
    ·intro h k hk
     simp only[Bool.or_eq_true,decide_eq_true_eq]
     by_cases h1:x.pos.toNat<=k
     ·rcases h k h1 (by simpa using hk)with h|h|h
      ·exact .inl (.inl h)
      ·exact .inl (.inr h)
      ·exact .inr h
     ·exact .inl (.inr (au k (by omega)))
    ·intro h k _ h2
     have:=h k (by simpa using h2)
     simp only[Bool.or_eq_true,decide_eq_true_eq]at this
     rcases this with(h|h)|h
     ·exact .inl h
     ·exact .inr (.inl h)
     ·exact .inr (.inr h)
   by_cases hc:∀k,x.pos.toNat<=k->k<c.ins.length->W k=none\/w k=none\/W k=w k
   ·rw[if_pos hc,if_pos (e.1 hc)]
    congr 1;funext k
    split
    ·rfl
    ·have:w k=none:=by
      by_cases h:k<x.pos.toNat
      ·exact au k h
      ·exact aE k (by omega)
     rw[this]
   ·rw[if_neg hc,if_neg (fun h=>hc (e.2 h))]
end
abbrev MetL:=List (Int×CLev)
def metOf(m:MetL):Met:=fun j=>if hasM (j:Int) m then some (getM ⟨0,0⟩ (j:Int) m) else none
theorem QX:metOf []=fun _=>none:=rfl
theorem De(m:MetL)(n:Nat)(l:CLev):metOf (putM (n:Int) l m)=updM (metOf m) n l:=by
 funext j
 unfold metOf updM
 rw[H7,EV]
 by_cases e:j=n
 ·subst e;simp
 ·have e':¬((j:Int)=n):=fun h=>e (by omega)
  simp[e,e']
def FF(k:Nat)(l:CLev)(W:MetL):Option MetL:=if hasM (k:Int) W=true/\getM ⟨0,0⟩ (k:Int) W≠l then none else some (putM (k:Int) l W)
theorem UZ(k:Nat)(l:CLev)(W:MetL):Dy k l (metOf W)=(FF k l W).map metOf:=by
 unfold Dy FF metOf
 cases h:hasM (k:Int) W with
 |false=>simp only[Bool.false_eq_true,if_false,false_and];rw[if_neg (by simp)];show _=some (metOf _);rw[De];rfl
 |true=>
  simp only[if_true,true_and]
  by_cases e:getM ⟨0,0⟩ (k:Int) W=l
  ·rw[if_neg (fun h=>h.2 (by rw[e])),if_neg (fun h=>h e)];show _=some (metOf _);rw[De];rfl
  ·rw[if_pos ⟨by simp,by simpa using e⟩,if_pos e];rfl
theorem Iu{S T:Type}{p:BProg}{c:CProg}{env:Int}{next:Bool}{f:S->T}{g:Nat->CLev->S->Option S}{h:Nat->CLev->T->Option T}(e:∀k l s,h k l (f s)=(g k l s).map f): ∀(n q:Nat) (met:Met) (s:S),CZ p c env next h n q met (f s)=(CZ p c env next g n q met s).map f
 |0,_,_,_=>rfl
 | n+1,q,met,s=>by
  rw[CZ,CZ]
  split
  ·exact Iu e n _ _ _
  ·split
   ·rfl
   ·rw[e]
    cases g q _ s with
    |none=>rfl
    |some s'=>exact Iu e n _ _ _
theorem OZ{S T:Type}{p:BProg}{c:CProg}{x:CSt}{f:S->T}{g:Nat->CLev->S->Option S}{h:Nat->CLev->T->Option T}(e:∀k l s,h k l (f s)=(g k l s).map f)(s:S):B5 p c x h (f s)=(B5 p c x g s).map f:=by
 unfold B5
 split
 ·rfl
 ·exact Iu e _ _ _ _
def allL(p:BProg)(c:CProg):List CSt->MetL->Option MetL
 |[],W=>some W
 |s::r,W=>match B5 p c s FF W with
  |none=>none
  |some V=>allL p c r V
theorem OU{p:BProg}{c:CProg}(hf:∀q:Nat,(Am c q).op=17\/(Am c q).op=18->(q:Int)<(Am c q).a): ∀(l:List CSt) (W:MetL),DN p c l (metOf W)=(allL p c l W).map metOf
 |[],_=>rfl
 | s::r,W=>by
  rw[DN,allL]
  have h:=NY (p:=p) hf s (metOf W)
  rw[OZ (f:=metOf) UZ]at h
  cases hw:wayM p c s with
  |none=>
   rw[hw]at h
   simp only at h
   cases hl:B5 p c s FF W with
   |none=>rfl
   |some V=>rw[hl]at h;cases h
  |some w=>
   rw[hw]at h
   simp only at h⊢
   rw[<-h]
   cases hl:B5 p c s FF W with
   |none=>rfl
   |some V=>exact OU hf r V
def H5(N:Nat)(W:MetL):Prop:=(W.map (·.1)).Nodup /\ ∀x∈W,0<=x.1/\x.1<N
theorem H8(k:Int): ∀m:MetL,hasM k m=true ↔ k∈m.map (·.1)
 |[]=>by simp[hasM]
 |x::m=>by rw[hasM,List.map_cons,List.mem_cons,Bool.or_eq_true,decide_eq_true_eq,H8 k m]
theorem IM(k:Int)(l:CLev): ∀m:MetL,(putM k l m).map (·.1)=if hasM k m then m.map (·.1) else m.map (·.1)++[k]
 |[]=>by simp[putM,hasM]
 | x::m=>by
  rw[putM,hasM]
  by_cases e:k=x.1
  ·subst e;simp
  ·rw[if_neg e]
   have:decide (k=x.1)=false:=by simp[e]
   rw[this,Bool.false_or,List.map_cons,IM k l m]
   split<;>simp
theorem Pp{N:Nat}{W:MetL}(h:H5 N W){k:Nat}(hk:k<N)(l:CLev):H5 N (putM (k:Int) l W):=by
 have hm:∀x:Int,x∈(putM (k:Int) l W).map (·.1)->0<=x/\x<N:=fun x hx=>by
  rw[IM]at hx
  split at hx
  ·obtain⟨y,hy,rfl⟩:=List.mem_map.1 hx;exact h.2 y hy
  ·rcases List.mem_append.1 hx with hx|hx
   ·obtain⟨y,hy,rfl⟩:=List.mem_map.1 hx;exact h.2 y hy
   ·rw[List.mem_singleton]at hx;omega
 refine⟨?_,fun x hx=>hm x.1 (List.mem_map.2 ⟨x,hx,rfl⟩)⟩
 rw[IM]
 split
 ·exact h.1
 ·rename_i hn
  refine List.nodup_append.2 ⟨h.1,by simp,fun a ha b hb=>?_⟩
  rw[List.mem_singleton]at hb
  subst hb
  intro e;subst e
  exact hn ((H8 _ _).2 ha)
theorem M0: ∀(N:Nat) (l:List Int),l.Nodup->(∀x∈l,0<=x/\x<N)->l.length<=N/\(l.length=N ↔ ∀k:Nat,k<N->(k:Int)∈l)
 | 0,l,_,hl=>by
  have:l=[]:=by
   cases l with
   |nil=>rfl
   |cons x l=>have:=hl x (by simp);omega
  subst this;simp
 | N+1,l,hn,hl=>by
  have h1:=M0 N (l.erase (N:Int)) (hn.erase _) fun x hx=>by
   have h2:=(hn.mem_erase_iff).1 hx
   have:=hl x h2.2;have:=h2.1;omega
  have hm:∀k:Nat,k<N->((k:Int)∈l.erase (N:Int) ↔ (k:Int)∈l):=fun k hk=>by
   rw[hn.mem_erase_iff];exact⟨fun h=>h.2,fun h=>⟨by omega,h⟩⟩
  by_cases hN:(N:Int)∈l
  ·have hlen:=List.length_erase_of_mem hN
   have aA:0<l.length:=List.length_pos_of_mem hN
   refine⟨by omega,fun h k hk=>?_,fun h=>?_⟩
   ·by_cases e:k=N
    ·subst e;exact hN
    ·exact(hm k (by omega)).1 (h1.2.1 (by omega) k (by omega))
   ·have:=h1.2.2 fun k hk=>(hm k hk).2 (h k (by omega))
    omega
  ·rw[List.erase_of_not_mem hN]at h1
   exact⟨by omega,fun h=>by omega,fun h=>absurd (h N (by omega)) hN⟩
theorem Q8{N:Nat}{W:MetL}(h:H5 N W):(W.length=N) ↔ (List.range N).all (fun k=>(metOf W k).isSome)=true:=by
 have:=(M0 N (W.map (·.1)) h.1 fun x hx=>by obtain⟨y,hy,rfl⟩:=List.mem_map.1 hx;exact h.2 y hy).2
 rw[List.length_map]at this
 rw[this,List.all_eq_true]
 constructor
 ·intro h k hk
  unfold metOf;rw[if_pos ((H8 _ _).2 (h k (by simpa using hk)))];rfl
 ·intro h k hk
  have:=h k (by simpa using hk)
  unfold metOf at this
  split at this
  ·rename_i h2;exact(H8 _ _).1 h2
  ·cases this
theorem HL{p:BProg}{c:CProg}{env:Int}{next:Bool}: ∀(n q:Nat) (met:Met) (W V:MetL),q+n<=c.ins.length->H5 c.ins.length W->CZ p c env next FF n q met W=some V->H5 c.ins.length V
 |0,_,_,_,_,_,h,e=>by cases e;exact h
 | n+1,q,met,W,V,hq,h,e=>by
  rw[CZ]at e
  split at e
  ·exact HL n _ _ _ _ (by omega) h e
  ·split at e
   ·cases e
   ·split at e
    ·cases e
    ·rename_i s' hs
     unfold FF at hs
     split at hs
     ·cases hs
     ·cases hs
      exact HL n _ _ _ _ (by omega) (Pp h (by omega) _) e
theorem Po{p:BProg}{c:CProg}{x:CSt}{W V:MetL}(h:H5 c.ins.length W)(e:B5 p c x FF W=some V):H5 c.ins.length V:=by
 unfold B5 at e
 split at e
 ·cases e
 ·exact HL _ _ _ _ _ (by omega) h e
theorem Kp{p:BProg}{c:CProg}: ∀(l:List CSt) (W V:MetL),H5 c.ins.length W->allL p c l W=some V->H5 c.ins.length V
 |[],_,_,h,e=>by cases e;exact h
 | s::r,W,V,h,e=>by
  rw[allL]at e
  split at e
  ·cases e
  ·rename_i V1 h1
   exact Kp r _ _ (Po h h1) e
def It(p:BProg)(c:CProg):Option MetL:=match allL p c (stsQ p c) []with
 |none=>none
 |some W=>if W.length=c.ins.length then some W else none
theorem OY{p:BProg}{c:CProg}(hf:∀q:Nat,(Am c q).op=17\/(Am c q).op=18->(q:Int)<(Am c q).a):DZ p c (stsQ p c)=(It p c).map fun W=>(List.range c.ins.length).map fun k:Nat=>getM ⟨0,0⟩ (k:Int) W:=by
 unfold DZ It
 rw[<-QX,OU hf]
 cases h:allL p c (stsQ p c) []with
 |none=>rfl
 | some W =>
  have hk:=Kp _ _ _ ⟨by simp,by simp⟩ h
  have hw:=Q8 hk
  show(if _ then _ else _)=_
  simp only
  by_cases e:W.length=c.ins.length
  ·rw[if_pos e,if_pos (hw.1 e)]
   simp only[Option.map_some,Option.some.injEq]
   refine List.map_congr_left fun k aD=>?_
   have:=List.all_eq_true.1 (hw.1 e) k aD
   unfold metOf at this⊢
   split at this
   ·rename_i h2;rw[if_pos h2];rfl
   ·cases this
  ·rw[if_neg e,if_neg (fun h=>e (hw.2 h))];rfl
def By(p:BProg)(c:CProg):Option MetL:=
 if okP p&&(decide (c.ins.length<=300)&&(decide (c.starts.length=p.methods.length)&&Cs p c.ins.length c.ins 0)) then It p c else none
theorem HY{p:BProg}{N:Nat}: ∀(l:List CIns) (q:Nat),Cs p N l q=true->∀(i:Nat) (x:CIns),l[i]? = some x->fitsQ p N (q+i) x=true
 |[],_,_,_,_,h=>by simp at h
 |y::l,q,h,i,x,hx=>by
  rw[Cs,Bool.and_eq_true]at h
  cases i with
  |zero=>simp at hx;subst hx;exact h.1
  |succ i=>simp at hx;have:=HY l (q+1) h.2 i x hx;rwa [show q+1+i=q+(i+1) by omega]at this
theorem V4{p:BProg}{c:CProg}(h:Cs p c.ins.length c.ins 0=true): ∀q:Nat,(Am c q).op=17\/(Am c q).op=18->(q:Int)<(Am c q).a:=fun q ho=>by
 unfold Am at ho⊢
 cases hx:c.ins[q]? with
 |none=>rw[hx]at ho;simp at ho
 |some x=>
  rw[hx]at ho
  have:=HY _ _ h q x hx
  unfold fitsQ at this
  simp only[Option.getD_some]at ho⊢
  rcases ho with e|e<;>rw[e]at this<;>simp at this<;>omega
theorem Pi(p:BProg)(c:CProg):Lj p c=(By p c).map fun W=>(List.range c.ins.length).map fun k:Nat=>getM ⟨0,0⟩ (k:Int) W:=by
 unfold Lj By
 split
 ·rename_i h
  simp only[Bool.and_eq_true,decide_eq_true_eq]at h
  exact OY (V4 h.2.2.2)
 ·rfl
end Go.DL
