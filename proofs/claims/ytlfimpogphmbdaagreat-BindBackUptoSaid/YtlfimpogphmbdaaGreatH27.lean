/- A part of the proof. -/
import Derived.Test.YtlfimpogphmbdaaGreatH26
set_option linter.all false
namespace Go.DL
open Go.Proofs.Tryz
open Go Go.Proofs
def cntB(p:aD):Nat->Int->Nat
 |0,_=>1
 |k+1,node=>1+wtL (cntB p k) (Ao p node).aq
def negS(s:fR):Nat:=s.countP (· < 0)
def Rm: ∀(s:fR) (n:Nat) (v:Int),n<s.length->s.getD n 0<0->0<=v->negS (s.set n v)+1=negS s
 |[],n,v,h,_,_=>by simp at h
 |x::r,0,v,_,h,hv=>by
  have hx:x<0:=h;simp only[fu,negS,List.countP_cons,hx,eJ,bI];rw[aQ (by simpa using hv)]
 |x::r,n+1,v,hl,h,hv=>by
  have:=Rm r n v (by simpa using hl) (by simpa using h) hv;simp only[negS]at this;simp only[eF,negS,List.countP_cons];omega
def JS{p:aD}{k:Nat}{f:Int->Int->fR->Bool×fR}{x:aG}{size:Int}
  (hf:∀c z s s',f c z s=(true,s')->s.length=p.kC.length->0<=z->okE p k c z.toNat/\s'.length=s.length/\cntB p k c+negS s'<=negS s) (hz:0<=size) :
  ∀(l:fR) (j:Nat) (s s':fR),Bk f x size j l s=(true,s')->s.length=p.kC.length->
   (∀(i:Nat) (h:i<l.length),okE p k l[i] (if x.op=9/\j+i=1 then size.toNat+1 else size.toNat))/\s'.length=s.length/\wtL (cntB p k) l+negS s'<=negS s
 |[],j,s,s',h,hs=>by
  rw[Bk]at h;cases h;exact⟨fun i h=>by simp at h,rfl,by rw[wtL];omega⟩
 | c::r,j,s,s',h,hs=>by
  rw[Bk]at h;cases hc:f c (if x.op=9/\j=1 then size+1 else size) s with
  | mk b s1 =>
   rw[hc]at h;cases b with
   |false=>simp at h
   | true =>
    obtain⟨h1,h2,h3⟩:=hf _ _ _ _ hc hs (by split<;>omega);obtain⟨h4,h5,h6⟩:=JS hf hz r (j+1) s1 s' h k0;refine⟨fun i hi=>?_,k0,by rw[wtL];omega⟩;cases i with
    |zero=>
     simp only[dR,eY];rw[show(if x.op=9/\j=1 then size.toNat+1 else size.toNat)=(if x.op=9/\j=1 then size+1 else size).toNat by split<;>omega];exact h1
    |succ i=>
     have:=h4 i (by simpa using hi);rw[show j+1+i=j+(i+1) by omega]at this;exact this
def Jn(p:aD)(inM:Bool): ∀(k:Nat) (node size:Int) (s s':fR),BT p inM k node size s=(true,s')->s.length=p.kC.length->0<=size->okE p k node size.toNat/\s'.length=s.length/\cntB p k node+negS s'<=negS s
 |0,_,_,_,_,h,_,_=>by simp[BT]at h
 | k+1,node,size,s,s',h,hs,hz=>by
  rw[BT]at h;split at h
  ·simp at h
  ·rename_i h1;split at h
   ·simp at h
   ·rename_i h2;obtain⟨h4,h5,h6⟩:=JS (Jn p inM k) hz (Ao p node).aq 0 _ s' h (by simpa using hs);have hn:node.toNat<s.length:=by omega
    have h7:=Rm s node.toNat size hn k0 hz;refine⟨?_,by rw[h5,cg],by rw[cntB];omega⟩;rw[okE];refine⟨⟨k0,k0⟩,?_,fun j hj=>?_⟩
    ·rw[show((size.toNat:Nat):Int)=size by omega];cases hb:BI p (Ao p node) size
     ·exact absurd (.inr (.inl hb)) h2
     ·rfl
    ·have:=h4 j hj;rw[bZ]at this;exact this
def LB{p:aD}{k:Nat}{f:Int->fP->Nat->aH×Nat}{op:Int}{txt:Str}{env:fP}(hf:∀c e t,(f c e t).2<=t+cntB p k c): ∀(l:fR) (j t:Nat),(D0 f op txt env j l t).2<=t+wtL (cntB p k) l
 |[],_,t=>by rw[D0,wtL];simp
 |c::r,j,t=>by
  rw[D0,wtL];have h1:=hf c (if op=9/\j=1 then env++[txt] else env) t;have h2:=LB (op:=op) (txt:=txt) (env:=env) hf r (j+1) (f c (if op=9/\j=1 then env++[txt] else env) t).2;simp only;omega
def Qf(p:aD)(a b g P:fP): ∀(k:Nat) (node:Int) (env:fP) (t:Nat),(spE p a b g P k node env t).2<=t+cntB p k node
 |0,_,_,t=>by rw[spE,cntB];simp
 |k+1,node,env,t=>by
  rw[spE,cntB];have:=LB (op:=(Ao p node).op) (txt:=Es a b g P (Ao p node) env t) (env:=env) (Qf p a b g P k) (Ao p node).aq 0 (if(Ao p node).op=9 then t+1 else t);have h2:(if(Ao p node).op=9 then t+1 else t)<=t+1:=by split<;>omega
  generalize (if(Ao p node).op=9 then t+1 else t)=t0 at*;simp only;omega
def I5(p:aD): ∀(l:List aF) (s s':fR),D5 p l s=some s'->s.length=p.kC.length->(∀g∈p.au,1<=g)->
  (∀m∈l,Do p m=true/\okE p 12 m.node (Ci p m)/\cntB p 12 m.node<=p.kC.length)/\s'.length=s.length/\negS s'<=negS s
 |[],s,s',h,hs,_=>by rw[D5]at h;cases h;exact⟨k7,rfl,bn _⟩
 | m::r,s,s',h,hs,hg=>by
  rw[D5]at h;split at h
  ·rename_i hm;cases hw:BT p (decide (m.kind=1)||decide (m.kind=4)) 12 m.node (p.au.getD m.gen.toNat 0) s with
   | mk b s1 =>
    rw[hw]at h;cases b with
    |false=>simp[optW]at h
    | true =>
     simp only[optW]at h
     have fX:0<=m.gen/\m.gen<p.au.length:=by
      unfold Do at hm;simp only[aN,aP]at hm;exact hm.1.1.2
     have h0:0<=p.au.getD m.gen.toNat 0:=by
      have hl:m.gen.toNat<p.au.length:=by omega
      rw[bj,aT hl];have:=hg _ (aR hl);simp only[ca];omega
     obtain⟨h1,h2,h3⟩:=Jn p _ 12 _ _ _ _ hw hs h0;obtain⟨h4,h5,h6⟩:=I5 p r s1 s' h k0 hg;have gO:negS s<=s.length:=fe;refine⟨fun x hx=>?_,k0,k0⟩;rcases be.1 hx with rfl|hx
     ·exact⟨hm,h1,k0⟩
     ·exact h4 x hx
  ·cases h
def HV: ∀(l:fR) (n m:Int),D2 n l=some m->m=n+l.length /\ ∀x∈l,n<=x/\x<m
 |[],n,m,h=>by rw[D2]at h;cases h;simp
 | s::r,n,m,h=>by
  rw[D2]at h;split at h
  ·rename_i hs;obtain⟨h1,h2⟩:=HV r _ _ h;refine⟨by rw[h1,aV];omega,fun x hx=>?_⟩;rcases be.1 hx with rfl|hx
   ·omega
   ·have:=h2 x hx;omega
  ·cases h
def GZ: ∀(cs:List aE) (n m:Int),Bu n cs=some m->m=n+wtL (fun c:aE=>c.am.length) cs/\(∀c∈cs, ∀x∈c.am,n<=x/\x<m)/\wtL (fun c:aE=>c.am.length) cs<=4*cs.length
 |[],n,m,h=>by rw[Bu]at h;cases h;simp[wtL]
 | c::r,n,m,h=>by
  rw[Bu]at h;split at h
  ·cases h
  ·rename_i h4;split at h
   ·cases h
   ·rename_i m1 hm;obtain⟨h1,h2⟩:=HV _ _ _ hm;obtain⟨h5,h6,h7⟩:=GZ r _ _ h;refine⟨by rw[wtL];omega,fun x hx y hy=>?_,by rw[wtL,aV];omega⟩;rcases be.1 hx with rfl|hx
    ·have:=h2 y hy;omega
    ·have:=h6 x hx y hy;omega
def Fz: ∀(cs:List aE) (i:Nat),(ownersF cs i).length=wtL (fun c:aE=>c.am.length) cs
 |[],_=>by rw[ownersF,wtL];rfl
 |c::r,i=>by rw[ownersF,wtL,aO,bB,Fz r]
def JB(cs:List aE)(Q:Int->Prop)(hQ:∀c∈cs, ∀x∈c.am,Q x): ∀(n:Nat) (up out:fR),(∀x∈out,Q x)->∀x∈lh cs n up out,Q x
 |0,_,out,ho,x,hx=>by rw[lh]at hx;exact ho x hx
 | n+1,up,out,ho,x,hx=>by
  rw[lh]at hx;split at hx
  ·rename_i c hc;split at hx
   ·refine JB cs Q hQ n _ _ (fun y hy=>?_) x hx;rcases bi.1 hy with hy|hy
    ·exact ho y hy
    ·exact hQ c (de hc) y hy
   ·exact JB cs Q hQ n _ _ ho x hx
  ·exact JB cs Q hQ n _ _ ho x hx
def OM(has:fR): ∀(l:List lR) (seen:fR),Dw has seen l=true->∀x∈l,x.slot∈has
 |[],_,_,x,hx=>by simp at hx
 |y::r,seen,h,x,hx=>by
  rw[Dw]at h;simp only[aN,aP]at h;rcases be.1 hx with rfl|hx
  ·exact h.1.1.1
  ·exact OM has r _ h.2 x hx
def Ja(p:aD): ∀(l:List aE) (i:Nat),AK p i l=true->∀c∈l, ∃j:Int,Dw (hasP p j) [] c.ar=true
 |[],_,_,c,hc=>by simp at hc
 |y::r,i,h,c,hc=>by
  rw[AK]at h;simp only[aN,aP]at h;rcases be.1 hc with rfl|hc
  ·exact⟨_,h.1.2⟩
  ·exact Ja p r _ h.2 c hc
structure ClassesOK(p:aD):Prop where
 len:p.ak.length<=10
 am:0<=p.am/\p.am<=40
 own:((AH p).owner.length:Int)=p.am
 cls:∀c∈p.ak,ClsIx (3+p.ak.length) p.am.toNat c
def MC{p:aD}(h:Ar p=true):ClassesOK p:=by
 unfold Ar at h;simp only[aN,aP]at h;obtain⟨iK,h⟩:=h;split at h
 ·cases h
 ·rename_i n hn;simp only[aN,aP]at h;obtain⟨⟨gO,hg⟩,hi⟩:=h;obtain⟨k1,k2,k3⟩:=GZ _ _ _ hn;refine⟨iK,k0,by show((ownersF p.ak 0).length:Int)=p.am;rw[Fz];omega,fun c hc=>⟨fun x hx=>?_,fun x hx=>?_,fun x hx=>?_⟩⟩
  ·obtain⟨k,hk,rfl⟩:=bm hc
   have:=(BN hg (k+3)).2 x (by
    unfold parentsF
    rw[aQ k0]
    rw[show(((k+3:Nat):Int)-3).toNat=k by omega,aT (by simpa using hk)]
    simpa using hx)
   exact⟨k0,k0⟩
  ·have:=k2 c hc x hx;exact⟨k0,k0⟩
  ·obtain⟨j,hj⟩:=Ja p _ _ hi c hc;have h1:=OM _ _ _ hj x hx;unfold hasP at h1;unfold Fw at h1;have h2:=JB p.ak (fun x=>0<=x/\x<n) k2 _ _ [] k7 _ (fv.1 h1);exact⟨k0,k0⟩
def mx_le(x y:Int):x<=mx x y/\y<=mx x y:=by unfold mx;split<;>omega
def LA: ∀(l:List kA) (n:Int),n<=kA.speakss l n /\ ∀x∈l,x.speaks<=kA.speakss l n
 |[],n=>by rw[kA.speakss];simp
 |f::l,n=>by
  rw[kA.speakss];obtain⟨h1,h2⟩:=LA l (mx n f.speaks);obtain⟨h3,h4⟩:=mx_le n f.speaks;refine⟨k0,fun x hx=>?_⟩;rcases be.1 hx with rfl|hx
  ·omega
  ·exact h2 x hx
def SJ{α S:Type}(f:α->S->Bool×S): ∀(l:List α) (s s':S),allS f l s=(true,s')->∀x∈l, ∃t t',f x t=(true,t')
 |[],_,_,_,x,hx=>by simp at hx
 | y::r,s,s',h,x,hx=>by
  rw[allS]at h;cases hy:f y s with
  | mk b s1 =>
   rw[hy]at h;cases b with
   |false=>simp at h
   |true=>
    rcases be.1 hx with rfl|hx
    ·exact⟨_,_,hy⟩
    ·exact SJ f r _ _ h x hx
def Vr{A S P:Nat}: ∀(l:List kA),(∀x∈l,FIx A S P x)->FIxs A S P l
 |[],_=>by rw[FIxs];trivial
 |x::r,h=>by rw[FIxs];exact⟨h x k7,Vr r fun y hy=>h y (by simp[hy])⟩
def Rk(w:World)(P:Nat): ∀(d:Nat) (f:kA) (s s':Int),DH w d f s=(true,s')->f.speaks<=P->FIx (3+w.ap.length) w.owner.length P f
 |0,_,_,_,h,_=>by simp[DH]at h
 | d+1,f,s,s',h,hP=>by
  have gY:=kA.speaks_eq f;rw[gY]at hP;obtain⟨g1,g2⟩:=LA f.aq (if C1 f.op then IntKind.i64.wrap (f.arg+1) else 0);rw[DH]at h;split at h
  ·simp at h
  ·rename_i iq;split at h
   ·rename_i hl;rw[aS hl]at g1 g2 hP;simp only[dC]at h;have gB:=h.1;unfold Hs at gB;simp only[aN,aP]at gB;obtain⟨⟨⟨a1,a2⟩,gw⟩,hr⟩:=gB;unfold Nc at gw;simp only[aN,bh,aP]at gw
    have hk:f.aq=[]:=by
     have iR:f.aq.length=Bl f.op:=cY fun e=>iq (.inr (.inr (.inr e)))
     have:Bl f.op=0:=by
      unfold C1 at hl;simp only[bV,aP]at hl;unfold Bl;rw[aQ k0,aQ k0]
     exact dP k0
    have hw:IntKind.i64.wrap (f.arg+1)=f.arg+1:=Aq k0 k0;rw[hw]at g1 hP;have iI:f.arg<(P:Int):=by omega
    have gZ:f.op=2->0<=f.cls/\f.cls<3+w.ap.length:=fun ho=>by
     rw[aS ho]at hr;simp only[aN,aP]at hr;exact hr.2
    clear hr;cases f with
    |mk o a pth c n k=>
     simp only[kA.aq,kA.op,kA.arg,kA.path,kA.cls,kA.n]at*;rw[FIx];refine⟨fun x hx=>?_,fun ho=>?_,fun _=>⟨a1,iI⟩,by rw[hk,FIxs];trivial⟩
     ·have:=gw.2 x hx;exact⟨this.1,this.2⟩
     ·have:=gZ ho;exact⟨this.1,k0⟩
   ·rename_i hl;split at h
    ·rename_i h0;obtain⟨b1,b2,b3,b4⟩:=h0
     have gc:∀x∈f.aq,FIx (3+w.ap.length) w.owner.length P x:=fun x hx=>by
      obtain⟨t,t',ht⟩:=SJ _ _ _ _ h x hx;exact Rk w P d x t t' ht (by have:=g2 x hx;omega)
     cases f with
     |mk o a pth c n k=>
      simp only[kA.aq,kA.op,kA.arg,kA.path,kA.cls,kA.n]at*;have ij:pth=[]:=dP b2;unfold C1 at hl;simp only[bV,aP]at hl;rw[FIx];exact⟨fun x hx=>by rw[ij]at hx;simp at hx,fun ho=>absurd (.inl (.inl ho)) hl,fun ho=>absurd k0 hl,Vr _ gc⟩
    ·simp at h
def sp_ok{p:aD}(gU:p.wt<=100000000)(h:okP p=true):SpOK p:=by
 unfold okP Dk at h;split at h
 ·rename_i hc;simp only[aN,aP,bh]at hc;obtain⟨⟨gj,⟨⟨h8,iW⟩,iO⟩,iJ⟩,hg⟩:=hc;have hC:=MC gj;cases hm:D5 p p.k9 (List.replicate p.kC.length (-1))with
  |none=>rw[hm]at h;simp at h
  | some s =>
   rw[hm]at h;obtain⟨k1,k2,k3⟩:=I5 p p.k9 _ s hm k7 (fun g hx=>(hg g hx).1);rw[bB]at k2;cases hw:BT p false 12 p.kH 0 s with
   | mk b s2 =>
    simp only[hw]at h;cases b with
    |false=>simp[optW]at h
    | true =>
     obtain⟨m1,m2,m3⟩:=Jn p false 12 _ _ _ _ hw k2 (dY _);have gO:negS s<=s.length:=fe;have gR:=Qf p (spA p) (spS p) (spG p) (spL p) 12 p.kH [] 0;refine⟨gU,⟨hC.am.1,by have:=hC.am.2;omega⟩,hC.cls,fun m iB=>?_,m1,k0⟩;obtain⟨q1,q2,q3⟩:=k1 m iB;unfold Do at q1;simp only[aN,aP]at q1;obtain⟨⟨⟨_,fX⟩,d9⟩,iL⟩:=q1
     have iV:1<=p.au.getD m.gen.toNat 0/\p.au.getD m.gen.toNat 0<=3:=by
      have hl:m.gen.toNat<p.au.length:=by omega
      rw[bj,aT hl];exact hg _ (aR hl)
     have f8:((Ci p m:Nat):Int)=p.au.getD m.gen.toNat 0:=by unfold Ci;omega
     have gS:=Qf p (spA p) (spS p) (spG p) (spL p) 12 m.node ((spL p).take (Ci p m)) (Ci p m);refine⟨⟨fX.1,fX.2⟩,⟨k0,k0⟩,?_,q2,k0⟩;unfold CW at d9;cases hf:DH (AH p) 12 m.kJ 24 with
     | mk b t =>
      rw[hf]at d9;cases b with
      |false=>simp at d9
      |true=>
       have:=Rk (AH p) (Ci p m) 12 m.kJ 24 t hf k0;have ho:(AH p).owner.length=p.am.toNat:=by have:=hC.own;have:=hC.am.1;omega
       rw[ho]at this;have g8:(AH p).ap.length=p.ak.length:=by show(p.ak.map (·.ap)).length=_;rw[aY]
       rw[g8]at this;exact this
 ·simp at h
def EntOK(s:fR):Prop:= ∀x∈s,x = -1\/0<=x
def EntOK.set{s:fR}(h:EntOK s)(n:Nat){v:Int}(hv:0<=v):EntOK (s.set n v):=fun x hx=>by
 rcases List.mem_or_eq_of_mem_set hx with hx|rfl
 ·exact h x hx
 ·exact .inr hv
def m6{f:Int->Int->fR->Bool×fR}{x:aG}{size:Int}(hf:∀c z s,0<=z->EntOK s->EntOK (f c z s).2)(hz:0<=size): ∀(l:fR) (j:Nat) (s:fR),EntOK s->EntOK (Bk f x size j l s).2
 |[],_,_,h=>h
 |c::r,j,s,h=>by
  rw[Bk];have h1:=hf c (if x.op=9/\j=1 then size+1 else size) s (by split<;>omega) h;split
  ·rename_i s' e;rw[e]at h1;exact h1
  ·rename_i s' e;rw[e]at h1;exact m6 hf hz r _ _ h1
def JT(p:aD)(inM:Bool): ∀(k:Nat) (node size:Int) (s:fR),0<=size->EntOK s->EntOK (BT p inM k node size s).2
 |0,_,_,_,_,h=>h
 | k+1,node,size,s,hz,h=>by
  rw[BT];split
  ·exact h
  ·split
   ·exact h.set _ hz
   ·exact m6 (fun c z s hz hs=>JT p inM k c z s hz hs) hz _ _ _ (h.set _ hz)
def J7(p:aD)(hF:∀f,CW (AH p) f=Ew (AH p) f): ∀(l:List aF) (s:fR),D5 p l s=optW (D4 p l s)
 |[],s=>rfl
 | m::r,s=>by
  have hm:Do p m=G1 p m:=by unfold Do G1;rw[hF]
  rw[D5,D4,hm];split
  ·cases hw:BT p (decide (m.kind=1)||decide (m.kind=4)) 12 m.node (p.au.getD m.gen.toNat 0) s with
   |mk b s'=>cases b with
    |false=>rfl
    |true=>simp only[optW];exact J7 p hF r s'
  ·rfl
def methsP_ent(p:aD)(hg:∀g∈p.au,1<=g): ∀(l:List aF) (s s':fR),D5 p l s=some s'->EntOK s->EntOK s'
 |[],s,s',h,hs=>by rw[D5]at h;cases h;exact hs
 | m::r,s,s',h,hs=>by
  rw[D5]at h;split at h
  ·rename_i hm
   have h0:0<=p.au.getD m.gen.toNat 0:=by
    rw[bj];cases iF:p.au[m.gen.toNat]? with
    |none=>simp
    |some g=>have:=hg g (de iF);simp only[ca];omega
   have he:=JT p (decide (m.kind=1)||decide (m.kind=4)) 12 m.node (p.au.getD m.gen.toNat 0) s h0 hs;cases hw:BT p (decide (m.kind=1)||decide (m.kind=4)) 12 m.node (p.au.getD m.gen.toNat 0) s with
   |mk b s1=>
    rw[hw]at h he;cases b with
    |false=>simp[optW]at h
    |true=>simp only[optW]at h;exact methsP_ent p hg r s1 s' h he
  ·cases h
def look_eq(p:aD)(hC:Ar p=AP p)(hF:∀f,CW (AH p) f=Ew (AH p) f):Dk p=G7 p:=by
 have hh:(Ar p&&(decide (p.au.length<=8)&&decide (p.k9.length<=16)&&decide (1<=p.kC.length)&&decide (p.kC.length<=120)))=LZ p:=by unfold LZ;rw[hC];simp only[eH]
 unfold Dk G7;rw[hh];split
 ·rename_i hc;simp only[aN,bh,aP]at hc;have fY:=methsP_ent p (fun g hg=>(hc.2 g hg).1) p.k9 (List.replicate p.kC.length (-1));have iz:=J7 p hF p.k9 (List.replicate p.kC.length (-1));rw[iz]at fY⊢;cases hm:D4 p p.k9 (List.replicate p.kC.length (-1))with
  | mk b s =>
   rw[hm]at fY;cases b with
   |false=>rfl
   | true =>
    simp only[optW];have h1:=fY s rfl fun x hx=>.inl (dK hx);have h2:=JT p false 12 p.kH 0 s (dY _) h1;cases hw:BT p false 12 p.kH 0 s with
    | mk b s2 =>
     rw[hw]at h2;cases b with
     |false=>rfl
     | true =>
      simp only
      have e:(-1∈s2) = ¬(s2.all (fun n=>decide (0<=n))=true):=by
       simp only[bh,aP];refine propext ⟨fun h k=>by have:=k _ h;omega,fun h=>cY fun k=>h fun x hx=>?_⟩;rcases h2 x hx with rfl|h
       ·exact absurd hx k
       ·exact h
      by_cases hs:s2.all (fun n=>decide (0<=n))=true
      ·rw[aS hs,aQ (by rw[e];exact fun k=>k hs)]
      ·rw[aQ hs,aS (by rw[e];exact hs)]
 ·rfl
end Go.DL
namespace Go.DL
open Go.Proofs.Tryz
open Go Go.Proofs
set_option maxHeartbeats 8000000
def G4(g:fW):Nat->Nat->Bool
 |_,0=>true
 |i,n+1=>decide (linE g ((i:Int)+3)=0)&&G4 g (i+1) n
def kW(p:aD):fW:=p.ak.map (·.ap)
def DZ(f:aL):Int:=
 if(Bn f).isSome=true then(if G4 (kW (Ae f)) 0 (kW (Ae f)).length=true then(if(Ae f).k9.all (fun m=>decide (m.kJ.size<=24))=true then 0 else 3) else 7) else 2
def IJ:aD:=⟨[],0,[],[],[],0⟩
def Fm(f:aL):aD:=if DZ f=0 then Ae f else IJ
mutual
def PX(cm sm:List (Str×Int))(env:Str->Int): ∀x:aI,(bndF cm sm env x).size<=x.wt
 |.mk o s p c n k=>by
  have hw:(aI.mk o s p c n k).wt=1+s.length+wtS p+c.length+wtL aI.wt k:=aI.wt_eq _;have:=MJ cm sm env k;rw[bndF,kA.size];omega
def MJ(cm sm:List (Str×Int))(env:Str->Int): ∀l:List aI,kA.sizes (GE cm sm env l)<=wtL aI.wt l
 |[]=>by rw[GE,kA.sizes,wtL];omega
 |x::r=>by
  have h1:=PX cm sm env x;have h2:=MJ cm sm env r;rw[GE,kA.sizes,wtL];omega
end
def PV(cm sm gm:List (Str×Int)): ∀(l:List aK) (k:Nat),(bndMM cm sm gm l k).length=l.length
 |[],_=>rfl
 |m::r,k=>by rw[bndMM,aV,PV cm sm gm r,aV]
def MI(cm sm gm:List (Str×Int)): ∀(l:List aK) (k:Nat), ∀x∈bndMM cm sm gm l k,x.kJ.size<=wtL aK.wt l
 |[],_,x,hx=>by simp[bndMM]at hx
 | m::r,k,x,hx=>by
  rw[bndMM]at hx;rw[wtL];rcases be.1 hx with rfl|hx
  ·have:=PX cm sm (EB m) m.kJ;unfold aK.wt;simp only;omega
  ·have:=MI cm sm gm r _ x hx;omega
def GW(f:aL)(V:Sig)(hw:f.wt<=10000000):aB prog 17 [.agg (AS f)] V (rS (.tup [.agg (Am (Fm f)),dI (DZ f)]) V):=by
 obtain⟨p1,p2,p3,p4,p5⟩:=f.wt_le
 have d6:WkD (.tup [.agg [.av,dI 0,.av,.av,.av,dI 0],dI (DZ f)]) (.tup [.agg (Am IJ),dI (DZ f)]):=
  Iw (show WkL _ _ from⟨DA (show WkL _ (Am IJ) from⟨An _ (.inl rfl),A9 _,An _ (.inl rfl),An _ (.inl rfl),An _ (.inl rfl),A9 _,trivial⟩),A9 _,trivial⟩)
 refine en func17 ntmps17 ?_
 try refine gz ?_ [] [2]
 refine kR (fun i2 iS=>?_);cases hs:(Bn f).isSome with
 |false=>
  have hE:DZ f=2:=by unfold DZ;rw[hs];rfl
  have hP:Fm f=IJ:=by unfold Fm;rw[hE];rfl
  rw[hP];rw[hE]at d6⊢
  try refine gf hs ?_ [] [2]
  refine lI (U':=V) ⟨rfl,rfl⟩ (hw:=?_);exact d6
 | true =>
  have gu:DZ f=if G4 (kW (Ae f)) 0 (kW (Ae f)).length=true then(if(Ae f).k9.all (fun m=>decide (m.kJ.size<=24))=true then 0 else 3) else 7:=by unfold DZ;rw[hs];rfl
  have gh:(Ae f).ak=f.ak.map (FT (AZ f) (Bd f)):=rfl;have gj:(Ae f).ak.length<=10000000:=by rw[gh,aY];omega
  have iH:∀c∈(Ae f).ak,c.ap.length<=1073741824:=fun c hc=>by
   rw[gh]at hc;obtain⟨d,hd,rfl⟩:=bD.1 hc;obtain⟨k,hk,rfl⟩:=bm hd;have:=p4 k hk;obtain⟨_,y2,_⟩:=(f.ak[k]).wt_le;have:=Bc (f.ak[k]).ap;unfold FT;simp only[aY];omega
  have iP:(Ae f).k9.length<=10000000:=by show(bndMM _ _ _ _ _).length<=_;rw[PV];omega
  have iA:∀x∈(Ae f).k9,x.kJ.size<=1073741824:=fun x hx=>by have:=MI _ _ _ _ _ x hx;unfold aL.wt at hw;omega
  have fZ:(kW (Ae f)).length<=10000000:=by unfold kW;rw[aY];exact gj
  have iU:∀x∈kW (Ae f),x.length<=1073741824:=fun x hx=>by obtain⟨c,hc,rfl⟩:=bD.1 hx;exact iH c hc
  have gG:(Ae f).ak.map (·.ap)=kW (Ae f):=rfl;have iG:(Ae f).ak.length=(kW (Ae f)).length:=by unfold kW;rw[aY]
  try refine gf (gi hs (gi gG iG)) ?_ [] [2]
  refine Bb [2,4,5,10,20,35,36,37,38,39,40,41,42,43,44,45,46,47,48] (fun (k:Nat)=>k<=(kW (Ae f)).length/\G4 (kW (Ae f)) 0 (kW (Ae f)).length=G4 (kW (Ae f)) k ((kW (Ae f)).length-k)) (fun k=>[(21,dI k)]) (fun _=>V.set i2 (.cells [.av,dI 0,.av,.av,.av,dI 0])) (fun k=>(kW (Ae f)).length-k) (0) k7 (fun k hI=>?_);obtain⟨hk,hL⟩:=hI
  by_cases gD:k<(kW (Ae f)).length
  ·rw[show(kW (Ae f)).length-k=((kW (Ae f)).length-(k+1))+1 by omega,G4]at hL
   by_cases h0:linE (kW (Ae f)) ((k:Int)+3)=0
   ·rw[bf h0,bd]at hL
    try refine gf h0 ?_ [] [2]
    exact⟨k+1,⟨k0,hL⟩,td1,wkR⟩
   ·rw[ba h0,bw]at hL;have hE:DZ f=7:=by rw[gu,hL];rfl
    have hP:Fm f=IJ:=by unfold Fm;rw[hE];rfl
    rw[hP];rw[hE]at d6⊢
    try refine gf h0 ?_ [] [2]
    refine lI (U':=V) ⟨rfl,rfl⟩ (hw:=?_);exact d6
  ·have iD:k=(kW (Ae f)).length:=by omega
   rw[iD,eh,G4]at hL;rw[aS hL]at gu
   try refine gz ?_ [] [2]
   refine Bb [2,4,36,37,48] (fun (j:Nat)=>j<=(Ae f).k9.length/\(Ae f).k9.all (fun m=>decide (m.kJ.size<=24))=((Ae f).k9.drop j).all (fun m=>decide (m.kJ.size<=24))) (fun j=>[(38,dI j)]) (fun _=>V.set i2 (.cells [.av,dI 0,.av,.av,.av,dI 0])) (fun j=>(Ae f).k9.length-j) (0) k7 (fun j hI=>?_);obtain⟨hj,hA⟩:=hI
   by_cases gF:j<(Ae f).k9.length
   ·rw[A0 gF,bU]at hA;have iQ:=iA _ (aR gF)
    by_cases gT:((Ae f).k9[j]).kJ.size<=24
    ·rw[bf gT,bd]at hA
     try refine gz ?_ [] [2]
     exact⟨j+1,⟨k0,hA⟩,td1,wkR⟩
    ·rw[ba gT,bw]at hA;have hE:DZ f=3:=by rw[gu,aQ (by rw[hA];simp)]
     have hP:Fm f=IJ:=by unfold Fm;rw[hE];rfl
     rw[hP];rw[hE]at d6⊢
     try refine gz ?_ [] [2]
     refine lI (U':=V) ⟨rfl,rfl⟩ (hw:=?_);exact d6
   ·rw[A1 gF]at hA;have hE:DZ f=0:=by rw[gu,aS (by rw[hA];rfl)]
    have hP:Fm f=Ae f:=by unfold Fm;rw[hE];rfl
    rw[hP,hE]
    try refine gz ?_ [] [2]
    exact lI (U':=V) ⟨rfl,rfl⟩
@[reducible,instance] def a17:=fun f V=>ah1 (@GW f V)
def Nv{p:aD}(hg:Bo (p.ak.map (·.ap))=true){k:Nat}(hk:k<p.ak.length):(p.ak[k]).ap.length<=3 /\ ∀x∈(p.ak[k]).ap,3<=x/\x<(k:Int)+3:=by
 have h:=BN hg (k+3)
 have e:parentsF (p.ak.map (·.ap)) ((k+3:Nat):Int)=(p.ak[k]).ap:=by
  unfold parentsF;rw[aQ k0,show(((k+3:Nat):Int)-3).toNat=k by omega,aT (by simpa using hk)];simp
 rw[e]at h;exact⟨h.1,fun x hx=>by have:=h.2 x hx;omega⟩
def Sv: ∀(cs:List aE) (n:Int),(∀c∈cs,c.ap.length<=3)->G6 n cs=Bu n cs
 |[],_,_=>rfl
 | c::r,n,h=>by
  have h3:=h c k7;rw[G6,Bu]
  by_cases h4:4<c.am.length
  ·rw[aS (.inl h4),aS h4]
  ·rw[aQ k0,aQ h4];cases D2 n c.am with
   |none=>rfl
   |some m=>exact Sv r m fun x hx=>h x (by simp[hx])
def YB{g:fW}(hg:Bo g=true){c:Int}(hc:0<=c/\c<3+g.length):decide (linE g c=0)=decide (0<(Gp g c).length):=by
 unfold linE;rw[aS ⟨hg,hc⟩]
 by_cases h:Gp g c=[]
 ·rw[aS h,h];rfl
 ·rw[aQ h];have:=eD.2 h;simp[this]
def Mx: ∀(l:List kA) (n d:Int),kA.depths l n<=d ↔ n<=d /\ ∀x∈l,x.depth<=d
 |[],n,d=>by rw[kA.depths];simp
 |f::l,n,d=>by
  rw[kA.depths,Mx l];have:mx n f.depth<=d ↔ n<=d/\f.depth<=d:=by unfold mx;split<;>omega
  rw[this];simp only[be,fE];exact and_assoc
def locP(w:World)(f:kA):Prop:=1<=f.op/\f.op<=7/\f.aq.length=Bl f.op/\(if C1 f.op then Hs w f=true else f.arg=0/\f.path.length=0/\f.cls=0/\f.n=0)
def Va(w:World)(f:kA):(KK w f&&FI w f)=true ↔ locP w f:=by
 unfold locP KK FI Hs Yj Nc C1 inB Hh Bl;rcases bX (f.op=2)with h2|h2
 ·simp[h2];grind
 ·rcases bX (f.op=3)with h3|h3
  ·simp[h3];grind
  ·rcases bX (f.op=4)with h4|h4
   ·simp[h4];grind
   ·simp[h2,h3,h4]
    grind
def F5(w:World): ∀(d:Nat) (f:kA) (s s':Int),0<=s->s<=1000->(DH w d f s=(true,s') ↔ (s'=s-f.size/\(f.size:Int)<=s/\f.depth<=d/\IK w f=true))
 |0,f,s,s',_,_=>by
  have:=(kA.depth_le f).1;simp[DH];omega
 | d+1,f,s,s',h0,h1=>by
  have hw:IntKind.i64.wrap (s-1)=s-1:=Aq k0 k0
  have gJ:∀(l:List kA) (t t':Int),0<=t->t<=1000->(allS (DH w d) l t=(true,t') ↔ (t'=t-kA.sizes l/\(kA.sizes l:Int)<=t/\(∀x∈l,x.depth<=d)/\Dv w l=true)):=fun l=>by
   induction l with
   |nil=>intro t t' h0 h1;rw[allS,kA.sizes,Dv];simp;omega
   | cons x r ih =>
    intro t t' h0 h1;rw[allS,kA.sizes,Dv];cases hy:DH w d x t with
    | mk b t1 =>
     cases b with
     |false=>
      have hx:=F5 w d x t (t-x.size) h0 h1;rw[hy]at hx;simp only[dC,bz,ec,ew,be,fE,aN]at hx⊢
      rintro⟨a1,a2,⟨a3,a4⟩,a5,a6⟩
      exact hx ⟨trivial,k0,a3,a5⟩
     |true=>
      obtain⟨b1,b2,b3,b4⟩:=(F5 w d x t t1 h0 h1).1 hy;simp only[be,fE,aN];rw[ih t1 t' k0 k0];constructor
      ·rintro⟨a1,a2,a3,a4⟩;exact⟨k0,k0,⟨b3,a3⟩,b4,a4⟩
      ·rintro⟨a1,a2,⟨_,a3⟩,_,a4⟩;exact⟨k0,k0,a3,a4⟩
  have gA:=Va w f;rw[DH,hw,kA.depth_eq,kA.size_eq,Nf,aN,gA]
  have hd:kA.depths f.aq 0+1<=((d+1:Nat):Int) ↔ ∀x∈f.aq,x.depth<=d:=by
   have:=Mx f.aq 0 d;constructor
   ·intro h;exact(this.1 k0).2
   ·intro h;have:=this.2 ⟨k0,h⟩;omega
  rw[hd];unfold locP;split
  ·rename_i hc;simp only[dC,bz,ec,ew]
   rintro⟨a1,a2,a3,⟨a4,a5,a6,a7⟩,a8⟩
   rcases hc with hc|hc|hc|hc<;>omega
  ·rename_i hc;have c1:¬s-1<0:=fun h=>hc (.inl h);have c2:¬f.op<1:=fun h=>hc (.inr (.inl h));have c3:¬7<f.op:=fun h=>hc (.inr (.inr (.inl h)));have c4:f.aq.length=Bl f.op:=cY fun h=>hc (.inr (.inr (.inr h)));split
   ·rename_i hl
    have hk:f.aq=[]:=by
     have:Bl f.op=0:=by
      unfold C1 at hl;simp only[bV,aP]at hl;unfold Bl;rw[aQ k0,aQ k0]
     exact dP k0
    rw[hk]at c4⊢;rw[kA.sizes,Dv];simp only[dC];constructor
    ·rintro⟨a1,a2⟩;exact⟨k0,k0,k7,⟨k0,k0,c4,a1⟩,trivial⟩
    ·rintro⟨a1,a2,a3,⟨a4,a5,a6,a7⟩,a8⟩;exact⟨a7,k0⟩
   ·rename_i hl;split
    ·rename_i hz;rw[gJ _ _ _ k0 k0];constructor
     ·rintro⟨a1,a2,a3,a4⟩;exact⟨k0,k0,a3,⟨k0,k0,c4,hz⟩,a4⟩
     ·rintro⟨a1,a2,a3,_,a4⟩;exact⟨k0,k0,a3,a4⟩
    ·rename_i hz;simp only[dC,bz,ec,ew]
     rintro⟨a1,a2,a3,⟨a4,a5,a6,a7⟩,a8⟩
     exact hz a7
mutual
def Xx: ∀(f:kA) (most:Int),((f.size:Int)<=most->f.cnt most=f.size)/\(most<f.size->most<f.cnt most)
 |.mk o a p c n k,most=>by
  have:=Ss k most 1;rw[kA.cnt,kA.size];omega
def Ss: ∀(l:List kA) (most n:Int),(n+(kA.sizes l:Int)<=most->kA.cnts l most n=n+kA.sizes l)/\(most<n+kA.sizes l->most<kA.cnts l most n)
 |[],most,n=>by rw[kA.cnts,kA.sizes];omega
 | f::l,most,n=>by
  rw[kA.cnts,kA.sizes];have h1:=Xx f (most-n);have h2:=kA.cnts_le l most (n+f.cnt (most-n));have h3:=Ss l most (n+f.cnt (most-n));split
  ·by_cases hs:(f.size:Int)<=most-n
   ·rw[h1.1 hs]at h2 h3⊢;omega
   ·have:=h1.2 k0;omega
  ·omega
end
def Vp(w:World)(f:kA):CW w f=Ew w f:=by
 have h:=F5 w 12 f 24 (24-f.size) k0 k0;have hc:=Xx f 24
 have e1:CW w f=true ↔ ((f.size:Int)<=24/\f.depth<=12/\IK w f=true):=by
  unfold CW;constructor
  ·intro hb;cases hn:DH w 12 f 24 with
   |mk b s'=>
    rw[hn]at hb;cases b with
    |false=>simp at hb
    |true=>exact((F5 w 12 f 24 s' k0 k0).1 hn).2
  ·intro hb;rw[h.2 ⟨rfl,hb⟩]
 have e2:Ew w f=true ↔ ((f.size:Int)<=24/\f.depth<=12/\IK w f=true):=by
  unfold Ew;simp only[aN,aP];constructor
  ·rintro⟨⟨a,b⟩,c⟩;exact⟨k0,b,c⟩
  ·rintro⟨a,b,c⟩;exact⟨⟨k0,b⟩,c⟩
 rw[aW,e1,e2]
def YA(p:aD)(hC:Ar p=AP p):Dk p=G7 p:=look_eq p hC fun f=>Vp _ f
def M0(i:Nat): ∀(ps seen:fR),(∀p∈ps,3<=p/\p<3+i)->ps.Nodup->(∀p∈ps,p∉seen)->Dp i seen ps=true
 |[],_,_,_,_=>rfl
 | p::r,seen,h,hn,hs=>by
  rw[cE]at hn;rw[Dp,M0 i r _ (fun x hx=>h x (by simp[hx])) hn.2 (fun x hx hm=>?_),bf (h p k7),ba (hs p k7)]
  ·rfl
  ·rcases bi.1 hm with hm|hm
   ·exact hs x (by simp[hx]) hm
   ·rw[bq.1 hm]at hx;exact hn.1 hx
def KC: ∀(l:fW) (i:Nat),(∀(k:Nat) (h:k<l.length),Gt (i+k) l[k]=true)->C7 i l=true
 |[],_,_=>rfl
 |x::r,i,h=>by
  rw[C7,KC r (i+1) fun k hk=>by have:=h (k+1) (by simp only[aV];omega);rw[show i+1+k=i+(k+1) by omega];simpa using this];have:=h 0 k7;simpa using this
def Hz: ∀(l:List aJ) (own:fP),BH own l=true->∀c∈l,c.ap.length<=3/\c.ap.Nodup
 |[],_,_,c,hc=>by cases hc
 | x::r,own,h,c,hc=>by
  rw[BH]at h;simp only[aN]at h;rcases be.1 hc with rfl|hc
  ·obtain⟨⟨⟨a,_⟩,b⟩,_⟩:=h;rw[bA,bk]at a;exact⟨k0,((Fi _ _).1 b).1⟩
  ·exact Hz r _ h.2.2 c hc
def Ns{s t:Str}: ∀(l:fP) (k:Nat),s∈l->t∈l->idxG s l k=idxG t l k->s=t
 |[],_,h,_,_=>by cases h
 | x::r,k,hs,ht,h=>by
  rw[idxG,idxG]at h
  by_cases e1:x=s
  ·by_cases e2:x=t
   ·rw[<-e1,e2]
   ·rw[aS e1,aQ e2]at h;have:=(Hu t r (k+1) ((be.1 ht).resolve_left fun h=>e2 h.symm)).2;omega
  ·by_cases e2:x=t
   ·rw[aQ e1,aS e2]at h;have:=(Hu s r (k+1) ((be.1 hs).resolve_left fun h=>e1 h.symm)).2;omega
   ·rw[aQ e1,aQ e2]at h;exact Ns r (k+1) ((be.1 hs).resolve_left fun h=>e1 h.symm) ((be.1 ht).resolve_left fun h=>e2 h.symm) h
def Iq{f:aL}(h:FOK f){s:Str}(hs:s∈kD f):lD (kD f) s=idxG s (kD f) 0+3:=by
 have hb:=h.ownB s hs;unfold lD;have e1:idxG s kK 0=if wAny=s then 0 else if wInt=s then 1 else if Gc=s then 2 else -1:=rfl
 have h1:wAny≠s:=fun e=>by rw[<-e]at hb;exact absurd hb (by decide)
 have h2:wInt≠s:=fun e=>by rw[<-e]at hb;exact absurd hb (by decide)
 have h3:Gc≠s:=fun e=>by rw[<-e]at hb;exact absurd hb (by decide)
 rw[e1,aQ h1,aQ h2,aQ h3,aQ k0]
def Tc{f:aL}(hf:Cg f=true):Bo (kW (Ae f))=true:=by
 have h:=Fe hf
 have hr:BH [] f.ak=true/\f.ak.length<=10:=by
  unfold Cg Ib D9 at hf;simp only[aN,bA,bk]at hf;exact⟨hf.1.2.1.2.1,k0⟩
 have gG:kW (Ae f)=f.ak.map fun c=>c.ap.map fun s=>getM 0 s (AZ f):=by unfold kW Ae;simp only[cr];rfl
 rw[gG];unfold Bo;rw[aN,aP,aY];refine⟨k0,KC _ 0 fun k hk=>?_⟩;rw[aY]at hk;rw[dh,bZ];have hc:f.ak[k]∈f.ak:=aR hk;obtain⟨g1,g2⟩:=Hz _ _ hr.1 _ hc;have gr:∀s∈(f.ak[k]).ap,s∈kD f:=h.par _ hc
 have hv:∀s∈(f.ak[k]).ap,getM 0 s (AZ f)=idxG s (kD f) 0+3:=fun s hs=>by
  rw[FO f h.own s (bu _ (gr s hs)),Iq h (gr s hs)]
 have iC:∀s∈(f.ak[k]).ap,0<=idxG s (kD f) 0/\idxG s (kD f) 0<k:=fun s hs=>by
  have h1:=FP _ _ hr.1 k s (by rw[aT hk];exact hs);rw[bG]at h1;have h3:=(Hu s ((f.ak.take k).map (·.name)) 0 h1).2
  have h2:idxG s (kD f) 0=idxG s ((f.ak.take k).map (·.name)) 0:=by
   unfold kD
   conv=>lhs;rw[<-dt k f.ak,bL]
   exact Jz s _ _ 0 h1
  rw[aY,ck]at h3;rw[h2];omega
 unfold Gt;rw[aN,aP,aY];refine⟨g1,M0 k _ _ (fun p hp=>?_) ?_ (fun p hp hm=>by cases hm)⟩
 ·obtain⟨s,hs,rfl⟩:=bD.1 hp;rw[hv s hs];have:=iC s hs;omega
 ·unfold List.Nodup;rw[List.pairwise_map];refine List.Pairwise.imp_of_mem (fun {a b} ha hb hne he=>?_) g2;rw[hv a ha,hv b hb]at he;exact hne (Ns (kD f) 0 (gr a ha) (gr b hb) k0)
def N6(p:aD):(kw p).length=p.ak.length:=by unfold kw;rw[aY,List.length_zip,Ax];omega
def Ri: ∀(l m:fP),l.Nodup->(∀x∈l,x∈m)->l.length<=m.length
 |[],m,_,_=>by simp
 | x::r,m,hn,hs=>by
  rw[cE]at hn;have hx:=hs x k7
  have:=Ri r (m.erase x) hn.2 fun y hy=>by
   have hne:y≠x:=fun e=>hn.1 (e ▸ hy);exact(List.mem_erase_of_ne hne).2 (hs y (by simp[hy]))
  rw[List.length_erase_of_mem hx]at this;have h0:0<m.length:=List.length_pos_of_mem hx;rw[aV];omega
def Nw(bs:List Bool)(i j:Nat)(v:Bool):(bs.set i v).getD j false=if i=j/\i<bs.length then v else bs.getD j false:=by
 rw[bj,bj,dJ]
 by_cases h:i=j
 ·subst h
  by_cases hl:i<bs.length
  ·simp[hl]
  ·simp[hl]
 ·simp[h]
def HJ(k:Nat): ∀(ps:fR) (bs:List Bool) (j:Nat),(∀x∈ps,0<=x/\x<k/\x<bs.length)->(H6 k ps bs).getD j false=(bs.getD j false||(bs.getD k false&&decide ((j:Int)∈ps)))
 |[],bs,j,_=>by rw[H6];simp
 | p::r,bs,j,h=>by
  obtain⟨h0,h1,h2⟩:=h p k7;rw[H6,HJ k r _ j (fun x hx=>by rw[cg];exact h x (by simp[hx]))];rw[Nw,Nw];have hk:¬(p.toNat=k/\p.toNat<bs.length):=by omega
  rw[aQ hk]
  by_cases hj:p.toNat=j
  ·have gE:(j:Int)=p:=by omega
   rw[aS ⟨hj,k0⟩,hj];simp[gE];cases bs.getD j false<;>cases bs.getD k false<;>simp_all
  ·have gE:¬(j:Int)=p:=by omega
   rw[aQ (by rintro⟨a,_⟩;exact hj a)];simp[gE]
def Jp(g:fW)(hg:Bo g=true): ∀(j:Nat) (bs:List Bool) (k:Nat),j+2<k->bs.length=3+g.length->j<=g.length->(upD g j bs).getD k false=bs.getD k false
 |0,_,_,_,_,_=>rfl
 | j+1,bs,k,h,hl,hj=>by
  have hp:=(BN hg (j+3)).2;rw[upD,Jp g hg j _ k k0 (by rw[DQ];exact hl) k0,HJ _ _ _ _ (fun x hx=>by have:=hp x hx;omega)]
  have:decide ((k:Int)∈parentsF g ((j+3:Nat):Int))=false:=by
   rw[bk];intro hx;have:=hp k hx;omega
  rw[this];simp
def GP{α:Type}[DecidableEq α]{x:α}: ∀(l s:List α),x∈He l s ↔ x∈l\/x∈s
 |[],s=>by unfold He;simp
 |y::r,s=>by
  have:=GP (x:=x) r (ins y s);unfold He at this⊢;rw[dW,this,Et,be]
  grind
def Nu{p:aD}(hg:Bo (p.ak.map (·.ap))=true){s:Int}: ∀(n:Nat) (up out:fR) (bs:List Bool),n<=p.ak.length->bs.length=3+p.ak.length->(∀k:Nat,3<=k->k<n+3->((k:Int)∈up ↔ bs.getD k false=true))->
  (s∈lh p.ak n up out ↔ s∈out \/ ∃k, ∃h:k<p.ak.length,k<n/\(upD (p.ak.map (·.ap)) n bs).getD (k+3) false=true/\s∈(p.ak[k]).am)
 |0,up,out,bs,_,_,_=>by rw[lh];simp
 | n+1,up,out,bs,hn,hl,hR=>by
  have go:n<p.ak.length:=by omega
  have f0:=(Nv hg go).2
  have f8:parentsF (p.ak.map (·.ap)) ((n+3:Nat):Int)=(p.ak[n]).ap:=by
   unfold parentsF;rw[aQ k0,show(((n+3:Nat):Int)-3).toNat=n by omega,aT (by simpa using go)];simp
  have e8:=fun (j:Nat)=>HJ (n+3) (p.ak[n]).ap bs j (fun x hx=>by have:=f0 x hx;omega)
  have hlen:(H6 (n+3) (p.ak[n]).ap bs).length=3+p.ak.length:=by rw[DQ];exact hl
  have e7:=Jp _ hg n (H6 (n+3) (p.ak[n]).ap bs) (n+3) k0 (by rw[hlen,aY]) (by rw[aY];omega)
  have d7:(H6 (n+3) (p.ak[n]).ap bs).getD (n+3) false=bs.getD (n+3) false:=by
   rw[e8];have:decide (((n+3:Nat):Int)∈(p.ak[n]).ap)=false:=by rw[bk];intro hx;have:=f0 _ hx;omega
   rw[this];simp
  have d8:=hR (n+3) k0 k0;rw[lh,aT go,upD,f8];simp only;have gk:((n+3:Nat):Int)=(n:Int)+3:=by omega
  rw[gk]at d8
  by_cases hu:(n:Int)+3∈up
  ·have hb:=d8.1 hu
   rw[aS hu,Nu hg n _ _ (H6 (n+3) (p.ak[n]).ap bs) k0 hlen (fun k h3 hk=>by
    rw[GP,hR k h3 k0,e8 k,hb]
    simp;grind),bi]
   constructor
   ·rintro((h|h)|⟨k,hk,h1,h2,h3⟩)
    ·exact .inl h
    ·exact .inr ⟨n,go,k0,by rw[e7,d7];exact hb,h⟩
    ·exact .inr ⟨k,hk,k0,h2,h3⟩
   ·rintro(h|⟨k,hk,h1,h2,h3⟩)
    ·exact .inl (.inl h)
    ·by_cases gC:k=n
     ·subst gC;exact .inl (.inr h3)
     ·exact .inr ⟨k,hk,k0,h2,h3⟩
  ·have hb:bs.getD (n+3) false=false:=by
    cases h:bs.getD (n+3) false
    ·rfl
    ·exact absurd (d8.2 h) hu
   rw[aQ hu,Nu hg n _ _ (H6 (n+3) (p.ak[n]).ap bs) k0 hlen (fun k h3 hk=>by
    rw[hR k h3 k0,e8 k,hb]
    simp)]
   constructor
   ·rintro(h|⟨k,hk,h1,h2,h3⟩)
    ·exact .inl h
    ·exact .inr ⟨k,hk,k0,h2,h3⟩
   ·rintro(h|⟨k,hk,h1,h2,h3⟩)
    ·exact .inl h
    ·by_cases gC:k=n
     ·subst gC;rw[e7,d7,hb]at h2;cases h2
     ·exact .inr ⟨k,hk,k0,h2,h3⟩
def LE: ∀(l:fR) (n m:Int),D2 n l=some m->∀s,s∈l ↔ n<=s/\s<m
 |[],n,m,h,s=>by rw[D2]at h;cases h;simp
 | x::r,n,m,h,s=>by
  rw[D2]at h;split at h
  ·rename_i hx;have h1:=LE r _ _ h s;have h2:=(HV r _ _ h).1;rw[be,h1];omega
  ·cases h
def LK: ∀(cs:List aE) (i:Nat), ∀x∈ownersF cs i,(i:Int)+3<=x
 |[],_,x,hx=>by simp[ownersF]at hx
 |c::r,i,x,hx=>by
  rw[ownersF]at hx;rcases bi.1 hx with hx|hx
  ·have:=dK hx;omega
  ·have:=LK r (i+1) x hx;omega
def Oo: ∀(cs:List aE) (i:Nat) (n m:Int),Bu n cs=some m->∀(s:Int) (k:Nat) (h:k<cs.length),s∈(cs[k]).am ↔ n<=s/\s<m/\((ownersF cs i)[(s-n).toNat]?).getD 0=(i:Int)+k+3
 |[],_,_,_,_,_,k,h=>by simp at h
 | c::r,i,n,m,hc,s,k,h=>by
  rw[Bu]at hc;split at hc
  ·cases hc
  ·split at hc
   ·cases hc
   ·rename_i m1 hm;have h1:=LE _ _ _ hm s;have h2:=(HV _ _ _ hm).1;obtain⟨h3,_,_⟩:=GZ r _ _ hc;have hlen:=Fz r (i+1);rw[ownersF]
    have gN:n<=s->s<m1->((List.replicate c.am.length ((i:Int)+3)++ownersF r (i+1))[(s-n).toNat]?).getD 0=(i:Int)+3:=fun a b=>by
     rw[bK (by rw[bB];omega),dO,aS k0];rfl
    have gx:m1<=s->((List.replicate c.am.length ((i:Int)+3)++ownersF r (i+1))[(s-n).toNat]?).getD 0=((ownersF r (i+1))[(s-m1).toNat]?).getD 0:=fun a=>by
     rw[bP (by rw[bB];omega),bB,show(s-n).toNat-c.am.length=(s-m1).toNat by omega]
    cases k with
    | zero =>
     simp only[dR];rw[h1];constructor
     ·rintro⟨a,b⟩;exact⟨a,k0,by rw[gN a b];simp⟩
     ·rintro⟨a,b,d⟩
      refine⟨a,cY fun hn=>?_⟩;rw[gx k0]at d;have hl:(s-m1).toNat<(ownersF r (i+1)).length:=by omega
      rw[aT hl]at d;have:=LK r (i+1) _ (aR hl);simp at d;omega
    | succ k =>
     simp only[dB];rw[Oo r (i+1) m1 m hc s k (by simpa using h)];constructor
     ·rintro⟨a,b,d⟩;exact⟨k0,b,by rw[gx a,d];omega⟩
     ·rintro⟨a,b,d⟩
      by_cases hs:s<m1
      ·rw[gN a hs]at d;omega
      ·rw[gx k0]at d;exact⟨k0,b,by rw[d];omega⟩
def OA{x:Int}{l:fR}:x∈Fw l ↔ x∈l:=by unfold Fw;exact fv
def Y8(g:fW)(hg:Bo g=true)(i:Nat)(bs:List Bool)(hl:bs.length=3+g.length)(hi:i<g.length):(upD g (i+1) bs).getD (i+3) false=bs.getD (i+3) false:=by
 have hp:=(BN hg (i+3)).2;rw[upD,Jp g hg i _ (i+3) k0 (by rw[DQ];exact hl) k0,HJ _ _ _ _ (fun x hx=>by have:=hp x hx;omega)]
 have:decide (((i+3:Nat):Int)∈parentsF g ((i+3:Nat):Int))=false:=by
  rw[bk];intro hx;have:=hp _ hx;omega
 rw[this];simp
def YF{p:aD}{N:Int}(hg:Bo (p.ak.map (·.ap))=true)(hc:Bu 0 p.ak=some N){i:Nat}(hi:i<p.ak.length)(s:Int):s∈hasP p ((i:Int)+3) ↔ (0<=s/\s<N)/\hasW (AH p) ((i:Int)+3) s=true:=by
 have fZ:(p.ak.map (·.ap)).length=p.ak.length:=aY _;have gX:((i:Int)+3-2).toNat=i+1:=by omega
 have gv:((i:Int)+3).toNat=i+3:=by omega
 have gI:((List.replicate (3+p.ak.length) false).set (i+3) true).length=3+p.ak.length:=by rw[cg,bB]
 have hb:∀k:Nat,((List.replicate (3+p.ak.length) false).set (i+3) true).getD k false=decide (i+3=k):=fun k=>by
  rw[Nw]
  by_cases h:i+3=k
  ·rw[aS ⟨h,by rw[bB];omega⟩,bf h]
  ·rw[aQ (fun hh=>h hh.1),ba h,bj,dO];split<;>rfl
 unfold hasP
 rw[OA,gX,Nu hg (i+1) [(i:Int)+3] [] _ k0 gI (fun k _ _=>by
  rw[hb];simp only[bq,aP];omega)]
 have gW:upF (AH p).ap ((i:Int)+3)=upD (p.ak.map (·.ap)) (i+1) ((List.replicate (3+p.ak.length) false).set (i+3) true):=by
  unfold upF AH;simp only[fZ,gv];rfl
 obtain⟨hN,_,_⟩:=GZ _ _ _ hc;have iM:=Fz p.ak 0;have ga:=fun k (h:k<p.ak.length)=>Oo p.ak 0 0 N hc s k h;simp only[Int.sub_zero]at ga;have d7:=Y8 _ hg i _ (by rw[gI,fZ]) (by rw[fZ];exact hi);rw[hb]at d7
 have iE:∀k:Nat,i<k->(upD (p.ak.map (·.ap)) (i+1) ((List.replicate (3+p.ak.length) false).set (i+3) true)).getD (k+3) false=false:=fun k hk=>by
  rw[Jp _ hg (i+1) _ (k+3) k0 (by rw[gI,fZ]) (by rw[fZ];omega),hb];exact ba k0
 unfold hasW Jg;rw[gW];simp only[eR,false_or,aN,bV,aP];have gV:(AH p).owner=ownersF p.ak 0:=rfl;rw[gV];constructor
 ·rintro⟨k,hk,h1,h2,h3⟩
  obtain⟨a,b,d⟩:=(ga k hk).1 h3;refine⟨⟨a,b⟩,k0,.inr ⟨k0,?_⟩⟩;rw[d,show(((0:Nat):Int)+k+3).toNat=k+3 by omega];exact h2
 ·rintro⟨⟨a,b⟩, -, h⟩
  have gL:s.toNat<(ownersF p.ak 0).length:=by omega
  have iv:=Ho (aR gL);rw[aT gL]at h ga;simp only[ca]at h ga;obtain⟨o1,o2⟩:=iv;generalize (ownersF p.ak 0)[s.toNat]=o at*;have gM:o=((o-3).toNat:Int)+3:=by omega
  have gD:(o-3).toNat<p.ak.length:=by omega
  refine⟨(o-3).toNat,gD,?_⟩;have gK:=(ga _ gD).2 ⟨a,b,k0⟩;have iy:o.toNat=(o-3).toNat+3:=by omega
  rcases h with(h|h)|⟨-, h⟩
  ·have hk:(o-3).toNat=i:=by omega
   exact⟨k0,by rw[hk,d7];simp,gK⟩
  ·omega
  ·rw[iy]at h;refine⟨Nat.lt_of_not_le fun hh=>?_,h,gK⟩;rw[iE _ k0]at h;cases h
def Rw{w:World}{N c:Int}{has:fR}(hh:∀s,s∈has ↔ (0<=s/\s<N)/\hasW w c s=true): ∀(l:List lR) (seen:List lR),Dw has (seen.map (·.slot)) l=Gs w N c seen l
 |[],_=>rfl
 | x::r,seen=>by
  rw[Dw,Gs,<-Rw hh r (seen++[x]),bL,List.map_singleton]
  have h1:decide (x.slot∈has)=(decide (0<=x.slot/\x.slot<N)&&hasW w c x.slot):=by
   rw[aW,aP,aN,aP,hh]
  have h2:(!decide (x.slot∈seen.map (·.slot)))=seen.all fun y=> !decide (y.slot=x.slot):=by
   rw[aW,bh];simp only[bA,bk,bD,not_exists,not_and]
  rw[h1,h2];unfold G5;generalize (decide (0<=x.slot/\x.slot<N)&&hasW w c x.slot)=a;generalize (seen.all fun y=> !decide (y.slot=x.slot))=b;cases a<;>cases b<;>cases inB x.n<;>rfl
def Ku{p:aD}{N:Int}(hg:Bo (p.ak.map (·.ap))=true)(hc:Bu 0 p.ak=some N): ∀(l:List aE) (i:Nat),i+l.length=p.ak.length->AK p i l=Ec (AH p) N i l
 |[],_,_=>rfl
 |c::r,i,hl=>by
  rw[aV]at hl;rw[AK,Ec,Ku hg hc r (i+1) k0];have h1:=YB hg (c:=(i:Int)+3) ⟨k0,by rw[aY];omega⟩;have h2:=Rw (YF hg hc (i:=i) k0) c.ar [];rw[cq]at h2;rw[h1,h2];rfl
def U4(p:aD):Ar p=AP p:=by
 unfold Ar AP;cases hg:Bo (p.ak.map (·.ap))with
 | true =>
  have h3:∀c∈p.ak,c.ap.length<=3:=fun c hc=>by
   obtain⟨k,hk,rfl⟩:=bm hc;exact(Nv hg hk).1
  rw[Sv p.ak 0 h3];cases hc:Bu 0 p.ak with
  |none=>rfl
  |some n=>simp only[Ku hg hc p.ak 0 k0]
 |false=>
  congr 1
  cases Bu 0 p.ak<;>cases G6 0 p.ak<;>simp
def Yz(p:aD):Dk p=G7 p:=YA p (U4 p)
def Hf{p:aD}(h:Ar p=true): ∃N,Bu 0 p.ak=some N/\N=p.am/\Bo (p.ak.map (·.ap))=true/\AK p 0 p.ak=true:=by
 unfold Ar at h;simp only[aN,aP]at h;obtain⟨_,h⟩:=h;split at h
 ·cases h
 ·simp only[aN,aP]at h;exact⟨_,by assumption,h.1.1,h.1.2,h.2⟩
def N7(p:aD)(k:Nat)(h:k<p.ak.length)(h2:k<(kw p).length)(h3:k<(freshN p.ak.length).length):
  (kw p)[k]=⟨(freshN p.ak.length)[k],(p.ak[k]).ap.map (ixS (spA p)),(p.ak[k]).am.map (ixS (spS p)),(p.ak[k]).ar.map fun x=>⟨ixS (spS p) x.slot,x.n⟩⟩:=by
 simp only[kw,dh,List.getElem_zip];rfl
def Up(p:aD):kD (Ay p)=freshN p.ak.length:=by
 have hl:=Ax p.ak.length;show(kw p).map (·.name)=_;have hc:=N6 p;refine List.ext_getElem (by rw[aY,hc,hl]) fun k h1 h2=>?_
 rw[dh,N7 p k k0 k0 h2]
def IT{l:fP}(hn:l.Nodup){j:Nat}(hj:j<l.length):idxG l[j] l 0=j:=by
 have hs:l=l.take j++l[j]::l.drop (j+1):=by simp
 have h1:l[j]∉l.take j:=fun hm=>by
  have gQ:=hn;rw[hs,dk]at gQ;exact gQ.2.2 _ hm _ List.mem_cons_self rfl
 have h2:=Jx l[j] (l.take j) (l.drop (j+1)) 0 h1;rw[<-hs,ck]at h2;omega
def T9{p:aD}(gM:okP p=true)(hs:(Bn (Ay p)).isSome=true):kW (Ae (Ay p))=p.ak.map (·.ap):=by
 have g7:Cg (Ay p)=true:=by rw[II];exact hs
 have hF:=Fe g7;have gg:=(Hf (FA gM));obtain⟨N,_,_,hg,_⟩:=gg;have hl:=Ax p.ak.length;have gj:(Ae (Ay p)).ak=(kw p).map (FT (AZ (Ay p)) (Bd (Ay p))):=rfl;have gH:=N6 p;unfold kW;rw[gj,cr];refine List.ext_getElem (by rw[aY,aY,gH]) fun k h1 h2=>?_
 have hk:k<p.ak.length:=by rw[aY]at h2;exact h2
 rw[dh,dh,N7 p k hk k0 k0];show(((p.ak[k]).ap.map (ixS (spA p))).map fun s=>getM 0 s (AZ (Ay p)))=_;rw[cr];refine Eq.trans (bF fun x hx=>?_) (List.map_id _);obtain⟨y1,y2⟩:=(Nv hg hk).2 x hx;obtain⟨j,rfl⟩:∃j:Nat,x=(j:Int)+3:=⟨(x-3).toNat,k0⟩;have hj:j<(freshN p.ak.length).length:=by omega
 have e1:ixS (spA p) ((j:Int)+3)=(freshN p.ak.length)[j]:=by
  have hA:spA p=kK++freshN p.ak.length:=rfl;unfold ixS;rw[hA,show((j:Int)+3).toNat=3+j by omega,bP (by show 3<=3+j;omega),show 3+j-kK.length=j by show 3+j-3=j;omega,aT hj];rfl
 have gb:(freshN p.ak.length)[j]∈kD (Ay p):=by rw[Up];exact aR hj
 have gP:=hF.own;rw[Up]at gP
 show getM 0 (ixS (spA p) ((j:Int)+3)) (AZ (Ay p))=(j:Int)+3;rw[e1,FO _ hF.own _ (bu _ gb),Iq hF gb,Up,IT gP hj]
def OG{g:fW}: ∀(n i:Nat),(∀k,i<=k->k<i+n->linE g ((k:Int)+3)=0)->G4 g i n=true
 |0,_,_=>rfl
 |n+1,i,h=>by
  rw[G4,bf (h i k0 k0),bd];exact OG n (i+1) fun k h1 h2=>h k k0 k0
end Go.DL
