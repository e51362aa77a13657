/- A part of the proof. -/
import Derived.Test.YtlfimpogphmbdaaGreatH28
set_option linter.all false
namespace Go.DL
open Go.Proofs.Tryz
open Go Go.Proofs
def Vl(s:fR)(i j:Nat)(v:Int)(h:i<s.length):(s.set i v).getD j 0=if i=j then v else s.getD j 0:=by
 rw[bj,bj,dJ]
 by_cases e:i=j
 ·subst e;simp[h]
 ·simp[e]
section
variable {a:aD}{own am au:fP}{t0:Bool}(hS:a.am=am.length)(hC:a.ak.length=own.length)(hO:∀s∈own,Ak s=true)(jD:a.au.length=au.length)
include hS hC hO jD
def CallK(a:aD)(au:fP)(x:aH):Prop:=x.op=5->∃j:Nat,j<au.length/\idxG x.text au 0=j/\a.au[j]? = some (x.aq.length:Int)
mutual
theorem Y5 : ∀ (e:aH) (d:Int) (k:Nat) (b c:fP) (pre post:List aG) (s:fR),d+k=13->allD CO e d=true->(allE e).all (ko own am t0)=true->l9 (CallK a au) e ->
  (∀x∈kY e c,x∈b)->(∀x∈c,x∈b)->a.kC=pre++(CB own am au e b pre.length++post)->s.length=a.kC.length->(∀j,pre.length<=j->j<pre.length+e.cnt->s.getD j 0<0)->
  ∃s',BT a t0 k pre.length b.length s=(true,s')/\s'.length=s.length/\(∀j,j<pre.length\/pre.length+e.cnt<=j->s'.getD j 0=s.getD j 0) /\ ∀j,pre.length<=j->j<pre.length+e.cnt->0<=s'.getD j 0
 | .mk o n t l,d,k,b,c,pre,post,s,hd,h1,h2,h3,h4,h5,h6,h7,h8=>by
  rw[allD,aN]at h1;rw[allE,bU,aN]at h2;rw[l9]at h3;have hN:=Rl h1.1;obtain⟨q,rfl⟩:∃q,k=q+1:=⟨k-1,by have:=hN.deep;omega⟩;have iy:(aH.mk o n t l).cnt=(As l).length+1:=by unfold aH.cnt;rw[allE,aV]
  rw[iy]at h8⊢;rw[CB]at h6
  have jA:Ao a (pre.length:Nat)=⟨o,Dt own am au o n t b,AW l (pre.length+1)⟩:=by
   unfold Ao;rw[h6,show((pre.length:Nat):Int).toNat=pre.length by omega,bP (bn _),eh];rfl
  have hlen:pre.length<a.kC.length:=by rw[h6];simp
  have d8:(if o=4\/o=7 then decide (t∈am) else if o=6\/o=8 then decide (t∈own) else if o=18 then t0 else true)=true:=h2.1;have jz:=Qt h4 h5;have jk:=Qu hN h4;have gU:=Fv l (pre.length+1);obtain⟨N,iB⟩:∃N,N=Dt own am au o n t b:=⟨_,rfl⟩
  have jn:((AW l (pre.length+1)).length:Int)=Cj a ⟨o,N,AW l (pre.length+1)⟩:=by
   rw[gU];rcases hN.aq with⟨e5,_⟩|⟨_,e⟩
   ·obtain⟨j,j1,j2,j3⟩:=h3.1 e5;have j2:idxG t au 0=j:=j2;have j3:a.au[j]? = some (l.length:Int):=j3;have eN:N=j:=by rw[iB];unfold Dt;rw[aQ k0,aQ k0,aS e5,j2]
    rw[J8 (x:=⟨o,N,_⟩) e5]
    show _=if 0<=N/\N<a.au.length then a.au.getD N.toNat 0 else -1
    rw[aS k0,eN,bj,show((j:Int)).toNat=j by omega,j3];rfl
   ·unfold Cj
    show _=match H9 o with|some k=>k|none=>_
    rw[e]
  have gY:BI a ⟨o,N,AW l (pre.length+1)⟩ b.length=true:=by
   unfold BI;show(if o=1 then inB N else if o=3 then decide (0<=N/\N<b.length) else if o=4\/o=7 then decide (0<=N/\N<a.am) else if o=5 then decide (0<=N/\N<a.au.length) else if o=6\/o=8 then decide (3<=N/\N<3+a.ak.length) else decide (N=0))=true;rw[iB];unfold Dt
   by_cases e1:o=1
   ·rw[aS e1,aQ k0,aQ k0,aQ k0,aQ k0];rcases hN.num with h|h
    ·rw[h];decide
    ·exact h.2
   ·rw [aQ e1]
    by_cases e3:o=3
    ·rw[aS e3,aS e3];obtain⟨j,j1,j2⟩:=Nl t b 0 n (jz e3);rw[j2];exact bf k0
    ·rw [aQ e3,aQ e3]
     by_cases e4:o=4\/o=7
     ·rw[aS e4]at d8;rw[aS e4,aS e4,hS];obtain⟨j,j1,_,j3⟩:=DJ am 0 (bx d8);rw[j3];exact bf k0
     ·rw[aQ e4]at d8;rw[aQ e4,aQ e4]
      by_cases e5:o=5
      ·rw[aS e5,aS e5];obtain⟨j,j1,j2,_⟩:=h3.1 e5;have j2:idxG t au 0=j:=j2;rw[j2];exact bf k0
      ·rw[aQ e5,aQ e5]
       by_cases e6:o=6\/o=8
       ·rw[aS e6]at d8;rw[aS e6,aS e6,hC];have hm:=bx d8;obtain⟨j,j1,_,j3⟩:=DJ own 0 hm;unfold lD;rw[Nr (Ot (hO t hm)),aQ k0,j3];exact bf k0
       ·rw[aQ e6,aQ e6];rcases hN.num with h|h
        ·exact bf h
        ·exact absurd h.1 e1
  have gk:¬(o=18/\t0=false):=fun h=>by
   rw[aQ k0,aQ k0,aS h.1,h.2]at d8;cases d8
  have fZ:=fun j=>Vl s pre.length j (b.length:Int) k0
  obtain⟨s',r1,r2,r3,r4⟩:=Uf o t l 0 (d+1) q b c (pre++[⟨o,Dt own am au o n t b,AW l (pre.length+1)⟩]) post N (AW l (pre.length+1)) (s.set pre.length b.length) k0 h1.2 h2.2 h3.2 jk h5
   (by rw [h6,aO,ce];simp) (by rw [cg];exact h7) (fun j j1 j2=>by
    rw[aO,ce]at j1 j2
    rw[fZ,aQ k0]
    exact h8 j k0 k0)
  rw[aO,ce]at r1 r3 r4;refine⟨s',?_,by rw[r2,cg],fun j hj=>?_,fun j j1 j2=>?_⟩
  ·rw[BT,aQ (by have:=h8 pre.length k0 k0;rw[show((pre.length:Nat):Int).toNat=pre.length by omega];omega),jA,<-iB,show((pre.length:Nat):Int).toNat=pre.length by omega]
   rw[aQ (by
    rintro(h|h|h)
    ·exact h jn
    ·rw[gY]at h;cases h
    ·exact gk h)]
   exact r1
  ·rw[r3 j k0,fZ,aQ k0]
  ·by_cases e:j=pre.length
   ·rw[e,r3 _ k0,fZ,aS rfl];omega
   ·exact r4 j k0 k0
theorem Uf(o:Int)(t:Str): ∀(l:List aH) (i:Nat) (d:Int) (k:Nat) (b c:fP) (pre post:List aG) (N:Int) (ks:fR) (s:fR),d+k=13->Eh CO l d=true->(As l).all (ko own am t0)=true->Dd (CallK a au) l->
  (∀x∈looseEs o t l i c,x∈b)->(∀x∈c,x∈b)->a.kC=pre++(Ce own am au o t l i b pre.length++post)->s.length=a.kC.length->(∀j,pre.length<=j->j<pre.length+(As l).length->s.getD j 0<0)->
  ∃s',Bk (BT a t0 k) ⟨o,N,ks⟩ b.length i (AW l pre.length) s=(true,s')/\s'.length=s.length/\(∀j,j<pre.length\/pre.length+(As l).length<=j->s'.getD j 0=s.getD j 0) /\ ∀j,pre.length<=j->j<pre.length+(As l).length->0<=s'.getD j 0
 |[],i,d,k,b,c,pre,post,N,ks,s,hd,h1,h2,h3,h4,h5,h6,h7,h8=>by
  rw[AW,Bk,As];exact⟨s,rfl,rfl,fun _ _=>rfl,fun j j1 j2=>by simp at j2;omega⟩
 | x::r,i,d,k,b,c,pre,post,N,ks,s,hd,h1,h2,h3,h4,h5,h6,h7,h8=>by
  rw[Eh,aN]at h1;rw[As,dp,aN]at h2;rw[Dd]at h3;rw[looseEs]at h4;rw[As,aO]at h8⊢;have jE:x.cnt=(allE x).length:=rfl;rw[Ce]at h6;rw[AW,Bk]
  by_cases cc:o=9/\i=1
  ·rw[aS cc]at h4 h6;rw[aS (show(aG.mk o N ks).op=9/\i=1 from cc)];have hlen:(CB own am au x (b++[t]) pre.length).length=x.cnt:=BR x _ _
   obtain⟨s1,r1,r2,r3,r4⟩:=Y5 x d k (b++[t]) (ins t c) pre (Ce own am au o t r (i+1) b (pre.length+x.cnt)++post) s hd h1.1 h2.1 h3.1
    (fun y hy=>bu _ (h4 y (bu _ hy)))
    (fun y hy=>by
     rcases Et.1 hy with rfl|hy
     ·simp
     ·exact bu _ (h5 y hy))
    (by rw[h6];simp[bc]) h7 (fun j j1 j2=>h8 j j1 k0)
   obtain⟨s2,r5,r6,r7,r8⟩:=Uf o t r (i+1) d k b c (pre++CB own am au x (b++[t]) pre.length) post N ks s1 hd h1.2 h2.2 h3.2 (fun y hy=>h4 y (cC _ hy)) h5
    (by rw [h6,aO,hlen];simp [bc]) (by rw [r2];exact h7) (fun j j1 j2=>by
     rw[aO,hlen]at j1 j2
     rw[r3 j k0];exact h8 j k0 k0)
   rw[aO,hlen]at r5 r7 r8;rw[aO,ce]at r1;have e1:((b.length:Int)+1)=((b.length+1:Nat):Int):=by omega
   rw[e1,r1];refine⟨s2,r5,k0,fun j hj=>by rw[r7 j k0,r3 j k0],fun j j1 j2=>?_⟩
   by_cases hj:j<pre.length+x.cnt
   ·rw[r7 j k0];exact r4 j j1 hj
   ·exact r8 j k0 k0
  ·rw[aQ cc]at h4 h6;rw[aQ (show ¬((aG.mk o N ks).op=9/\i=1) from cc)];have hlen:(CB own am au x b pre.length).length=x.cnt:=BR x _ _
   obtain⟨s1,r1,r2,r3,r4⟩:=Y5 x d k b c pre (Ce own am au o t r (i+1) b (pre.length+x.cnt)++post) s hd h1.1 h2.1 h3.1 (fun y hy=>h4 y (bu _ hy)) h5
    (by rw[h6];simp[bc]) h7 (fun j j1 j2=>h8 j j1 k0)
   obtain⟨s2,r5,r6,r7,r8⟩:=Uf o t r (i+1) d k b c (pre++CB own am au x b pre.length) post N ks s1 hd h1.2 h2.2 h3.2 (fun y hy=>h4 y (cC _ hy)) h5
    (by rw [h6,aO,hlen];simp [bc]) (by rw [r2];exact h7) (fun j j1 j2=>by
     rw[aO,hlen]at j1 j2
     rw[r3 j k0];exact h8 j k0 k0)
   rw[aO,hlen]at r5 r7 r8;rw[r1];refine⟨s2,r5,k0,fun j hj=>by rw[r7 j k0,r3 j k0],fun j j1 j2=>?_⟩
   by_cases hj:j<pre.length+x.cnt
   ·rw[r7 j k0];exact r4 j j1 hj
   ·exact r8 j k0 k0
end
end
section
variable {P S C own:fP}{w:World}(hS:w.owner.length=S.length)(hC:∀c∈C,0<=lD own c/\lD own c<3+w.ap.length)(iW:∀c∈C,c≠[])(hP:P.length<=3)(gS:[]∉P)
include hS hC iW hP gS
theorem Vx : ∀ (n:Nat) (x:aI) (d:Int),x.wt<=n->CX (lN P S C) x d=true->IK w (E4 own S P x)=true/\(E4 own S P x).depth+d<=13/\(E4 own S P x).speaks<=P.length
 |0,x,_,hx,_=>by have:=x.wt_pos;omega
 | n+1, .mk o s q c n' k,d,hw,hx=>by
  have jF:(aI.mk o s q c n' k).wt=1+s.length+wtS q+c.length+wtL aI.wt k:=aI.wt_eq _;rw[CX,aN]at hx;obtain⟨h1,h2⟩:=hx;unfold lN fctB fctC at h1;simp only[aN,aP]at h1;obtain⟨hd,ho,⟨⟨⟨qk,q1⟩,q0⟩,⟨q2,q3⟩,q5,q6⟩,q4⟩:=h1;have ho:1<=o/\o<=7:=ho;have qk:(k.length:Int)=arF o:=qk;have q1:(if Al o=true then decide (s∈P) else(decide (s=[])&&decide (q=[])))=true:=q1;have q0:q.length<=2:=q0;have q2:(decide (o=2) == !decide (c=[]))=true:=q2;have q3:(!decide (o=2)||decide (c∈C))=true:=q3;have q4:q.all (fun s=>decide (s∈S))=true:=q4;have q5:(decide (o=3\/o=4)||decide (n'=0))=true:=q5;have q6:inB n'=true:=q6
  have hk:∀(l:List aI),wtL aI.wt l<=n->Bi (lN P S C) l (d+1)=true->Dv w (C2 own S P l)=true/\(∀m:Int,m+(d+1)<=13->kA.depths (C2 own S P l) m+(d+1)<=13)/\(∀m:Int,m<=P.length->kA.speakss (C2 own S P l) m<=P.length):=fun l=>by
   induction l with
   |nil=>intro _ _;rw[C2,Dv];exact⟨rfl,fun m h=>by rw[kA.depths];exact h,fun m h=>by rw[kA.speakss];exact h⟩
   |cons y r ih2=>
    intro hl hy;rw[wtL]at hl;rw[Bi,aN]at hy;obtain⟨a1,a2,a3⟩:=Vx n y (d+1) k0 hy.1;obtain⟨b1,b2,b3⟩:=ih2 k0 hy.2;rw[C2,Dv,a1,b1];refine⟨rfl,fun m h=>?_,fun m h=>?_⟩
    ·rw[kA.depths];exact b2 _ (by unfold mx;split<;>omega)
    ·rw[kA.speakss];exact b3 _ (by unfold mx;split<;>omega)
  obtain⟨k1,k2,k3⟩:=hk k k0 h2
  have gC:Al o=true->∃j:Nat,j<P.length/\(if s=[] then(0:Int) else idxG s P 0)=j:=fun hn=>by
   rw[aS hn]at q1;have hs:=bx q1;rw[aQ fun e:s=[]=>gS (by rw[<-e];exact hs)];obtain⟨j,j1,_,j3⟩:=DJ P 0 hs;exact⟨j,j1,by rw[j3];omega⟩
  have jf:¬Al o=true->s=[]/\q=[]:=fun hn=>by
   rw[aQ hn]at q1;simpa using q1
  have gu:∀l:List aI,(C2 own S P l).length=l.length:=fun l=>by rw[MK,aY]
  have e8:C1 o=Al o:=by unfold C1 Al;by_cases e2:o=2<;>by_cases e3:o=3<;>by_cases e4:o=4<;>simp[e2,e3,e4]
  rw[E4];refine⟨?_,?_,?_⟩
  ·rw [Nf,(Va w _).2 ?_]
   ·exact k1
   ·refine⟨ho.1,ho.2,?_,?_⟩
    ·show(C2 own S P k).length=Bl o;rw[gu];unfold arF at qk;unfold Bl
     by_cases e5:o=5
     ·rw[aS e5]at qk⊢; omega
     ·rw[aQ e5]at qk⊢
      by_cases e6:o=6\/o=7
      ·rw[aS e6]at qk⊢; omega
      ·rw[aQ e6]at qk⊢; omega
    ·show if C1 o=true then Hs w _=true else _
     rw[e8]
     by_cases hn:Al o=true
     ·rw[aS hn];obtain⟨j,j1,j2⟩:=gC hn;unfold Hs Nc
      show(decide (0<=(if s=[] then(0:Int) else idxG s P 0)/\(if s=[] then(0:Int) else idxG s P 0)<3)&&(decide ((q.map fun x=>idxG x S 0).length<=2)&&(q.map fun x=>idxG x S 0).all (fun c=>decide (0<=c/\c<w.owner.length))) &&
       (if o=2 then decide (n'=0)&&decide (0<=(if c=[] then(0:Int) else lD own c)/\(if c=[] then(0:Int) else lD own c)<3+w.ap.length) else decide ((if c=[] then(0:Int) else lD own c)=0)&&inB n'))=true
      rw[j2,aY];simp only[aN,aP,bh];refine⟨⟨⟨k0,k0⟩,q0,fun z hz=>?_⟩,?_⟩
      ·obtain⟨y,hy,rfl⟩:=bD.1 hz;obtain⟨i,i1,_,i3⟩:=DJ S 0 (bx (bh.1 q4 y hy));rw[i3];omega
      ·by_cases e2:o=2
       ·rw[aS e2];have hc:c∈C:=by simpa[e2] using q3
        rw[aQ (iW c hc)];have:=hC c hc;simp only[aN,aP];refine⟨by simpa[e2] using q5,this⟩
       ·rw[aQ e2];have hc:c=[]:=by simpa[e2] using q2
        rw[aS hc,q6];rfl
     ·rw[aQ hn];obtain⟨e1,e2⟩:=jf hn;have gX:¬(o=2\/o=3\/o=4):=by simpa[Al] using hn
      have hc:c=[]:=by
       have:o≠2:=fun h=>gX (.inl h);simpa[this] using q2
      have jh:n'=0:=by
       have h3:o≠3:=fun h=>gX k0;have h4:o≠4:=fun h=>gX k0;simpa[h3,h4] using q5
      show(if s=[] then(0:Int) else idxG s P 0)=0/\(q.map fun x=>idxG x S 0).length=0/\(if c=[] then(0:Int) else lD own c)=0/\n'=0;rw[aS e1,aS hc,e2,jh];exact⟨rfl,rfl,rfl,rfl⟩
  ·rw [kA.depth]
   by_cases iX:d=12
   ·have gL:∀l:List aI,Bi (lN P S C) l (d+1)=true->l=[]:=fun l hl=>by
     cases l with
     |nil=>rfl
     |cons y r=>
      rw[Bi,aN]at hl;cases y;rw[CX]at hl;unfold lN at hl;simp only[aN,aP]at hl;omega
    rw[gL k h2,C2,kA.depths];omega
   ·have:=k2 0 k0;omega
  ·rw[kA.speaks,e8];refine k3 _ ?_;split
   ·rename_i hn;obtain⟨j,j1,j2⟩:=gC hn;rw[j2,Aq k0 k0];omega
   ·omega
end
def LD: ∀(n k:Nat),D2 (k:Int) (seqI k n)=some ((k+n:Nat):Int)
 |0,k=>by rw[seqI,D2];rfl
 |n+1,k=>by
  rw[seqI,D2,aS rfl,show((k:Int)+1)=((k+1:Nat):Int) by omega,LD n (k+1)]
  congr 1;omega
def N8: ∀n k:Nat,(seqI k n).length=n
 |0,_=>rfl
 |n+1,k=>by rw[seqI,aV,N8 n]
def My(f:aL): ∀(l:List aJ) (k:Nat),(∀c∈l,c.am.length<=4)->Bu (k:Int) (CS f l k)=some ((k+(l.flatMap (·.am)).length:Nat):Int)
 |[],k,_=>by rw[CS,Bu];rfl
 |c::r,k,h=>by
  have h4:=h c k7;have hl:(QI f c k).am=seqI k c.am.length:=rfl;rw[CS,Bu,hl,N8,aQ k0,LD];simp only;rw[My f r _ fun x hx=>h x (by simp[hx]),cx,aO]
  congr 1;omega
def JA(cs:List aE): ∀(m:Nat) (up out:fR), ∀x∈out,x∈lh cs m up out
 |0,_,out,x,hx=>by rw[lh];exact hx
 | m+1,up,out,x,hx=>by
  rw[lh];split
  ·split
   ·exact JA cs m _ _ x (bu _ hx)
   ·exact JA cs m _ _ x hx
  ·exact JA cs m _ _ x hx
def Ic{f:aL}{cs:List aE}(hc:∀(i:Nat) (h:i<cs.length), ∀s∈prs f i,((ixN f s:Nat):Int)+3∈(cs[i]).ap/\ixN f s<i): ∀(m:Nat) (up out:fR) (k j:Nat),m<=cs.length->k<m->(k:Int)+3∈up->Lies f k j->∀h:j<cs.length, ∀x∈(cs[j]).am,x∈lh cs m up out
 |0,_,_,_,_,_,h,_,_,_,_,_=>by omega
 | m+1,up,out,k,j,hm,hk,hu,hl,hj,x,hx=>by
  have gK:m<cs.length:=by omega
  rw[lh,aT gK];simp only
  by_cases e:k=m
  ·subst e;rw[aS hu];rcases Jv.1 hl with rfl|⟨s,hs,h⟩
   ·exact JA cs _ _ _ x (cC _ hx)
   ·obtain⟨h1,h2⟩:=hc k gK s hs;exact Ic hc k _ _ (ixN f s) j k0 h2 ((GP _ _).2 (.inl h1)) h hj x hx
  ·split
   ·exact Ic hc m _ _ k j k0 k0 ((GP _ _).2 (.inr hu)) hl hj x hx
   ·exact Ic hc m _ _ k j k0 k0 hu hl hj x hx
mutual
def Nx: ∀(e:aH) (d:Int) (g:kZ),allD CO e d=true->(∀p∈g.1,1<=p.2/\p.2<=3)->∀p∈(genE e g).1,1<=p.2/\p.2<=3
 | .mk o n t l,d,g,h,hg=>by
  rw[allD,aN]at h;have hN:=Rl h.1;rw[genE];refine OX l (d+1) _ h.2 ?_;split
  ·rename_i h5
   have hk:1<=l.length/\l.length<=3:=by
    rcases hN.aq with h|h
    ·exact h.2
    ·exact absurd h5 h.1
   unfold l5;split
   ·exact hg
   ·intro p hp;rcases bi.1 hp with hp|hp
    ·exact hg p hp
    ·rw[bq]at hp;rw[hp];simp only;omega
  ·exact hg
def OX: ∀(l:List aH) (d:Int) (g:kZ),Eh CO l d=true->(∀p∈g.1,1<=p.2/\p.2<=3)->∀p∈(AV l g).1,1<=p.2/\p.2<=3
 |[],_,_,_,hg=>by rw[AV];exact hg
 |x::r,d,g,h,hg=>by
  rw[Eh,aN]at h;rw[AV];exact OX r d _ h.2 (Nx x d g h.1 hg)
end
def LT{g:fW}: ∀(n i:Nat),G4 g i n=true->∀k,i<=k->k<i+n->linE g ((k:Int)+3)=0
 |0,_,_,k,h1,h2=>by omega
 |n+1,i,h,k,h1,h2=>by
  rw[G4,aN,aP]at h
  by_cases e:k=i
  ·rw[e];exact h.1
  ·exact LT n (i+1) h.2 k k0 k0
def OL{mine:fP}{has:fR}{S:fP}(hm:∀s∈mine,s∈S/\idxG s S 0∈has): ∀(l:List aM) (seen:fP),(∀s∈seen,s∈S)->iniR mine seen l=true->Dw has (seen.map fun s=>idxG s S 0) (l.map fun x=>⟨idxG x.slot S 0,x.n⟩)=true
 |[],_,_,_=>rfl
 | x::r,seen,hs,hi=>by
  rw[iniR]at hi;simp only[aN,aP]at hi;obtain⟨⟨h1,h2,h3⟩,h4⟩:=hi;obtain⟨m1,m2⟩:=hm _ h1
  have ih:=OL hm r (seen++[x.slot]) (fun s hh=>by
   rcases bi.1 hh with hh|hh
   ·exact hs s hh
   ·rw[bq]at hh;rw[hh];exact m1) h4
  rw[bL,List.map_singleton]at ih;rw[bg,Dw,ih,Bool.and_true];simp only[aN,aP];refine⟨⟨m2,?_⟩,h3⟩;have h2:x.slot∉seen:=by simpa using h2
  have:idxG x.slot S 0∉seen.map fun s=>idxG s S 0:=fun hh=>by
   obtain⟨y,hy,e⟩:=bD.1 hh;exact h2 (Ns S 0 (hs y hy) m1 e ▸ hy)
  simpa using this
def P1 {f:aL} (hf:Cg f=true) (hE:DZ f=0):okP (A6 f)=true:=by
 have hF:=Fe hf;have hB:=MG hf;have gP:=FR hf
 obtain⟨ij,gH⟩:G4 (kW (A6 f)) 0 (kW (A6 f)).length=true/\(A6 f).k9.all (fun m=>decide (m.kJ.size<=24))=true:=by
  rw[gP];unfold DZ at hE;split at hE
  ·split at hE
   ·split at hE
    ·exact⟨by assumption,by assumption⟩
    ·cases hE
   ·cases hE
  ·cases hE
 have gx:Bo ((A6 f).ak.map (·.ap))=true:=by rw[gP];exact Tc hf
 have hr:BH [] f.ak=true/\inisR f 0 f.ak=true:=by
  unfold Cg Ib D9 at hf;simp only[aN]at hf;exact⟨hf.1.2.1.2.1,hf.1.2.2.1⟩
 have jb:∀c∈f.ak,c.am.length<=4:=by
  have:∀(l:List aJ) (own:fP),BH own l=true->∀c∈l,c.am.length<=4:=fun l=>by
   induction l with
   |nil=>intro _ _ c hc;cases hc
   |cons x r ih=>
    intro own h c hc;simp only[BH,aN,bA,bk]at h;rcases be.1 hc with rfl|hc
    ·omega
    ·exact ih _ h.2.2 c hc
  exact this _ _ hr.1
 have iz:(A6 f).ak.length=f.ak.length:=by rw[gP];exact aY ..
 have iS:∀(i:Nat) (h:i<f.ak.length) (h2:i<(A6 f).ak.length),(A6 f).ak[i]=FT (AZ f) (Bd f) f.ak[i]:=fun i h h2=>by
  have e:(A6 f).ak=f.ak.map (FT (AZ f) (Bd f)):=by rw[gP];rfl
  simp only[e,dh]
 have hp:∀i, ∀s∈prs f i,s∈kD f/\ixN f s<i/\idxG s (kD f) 0=ixN f s:=fun i s hs=>by
  have h1:=FP _ _ hr.1 i s hs;rw[bG]at h1
  have h2:idxG s (kD f) 0=idxG s ((f.ak.take i).map (·.name)) 0:=by
   unfold kD
   conv=>lhs;rw[<-dt i f.ak,bL]
   exact Jz s _ _ 0 h1
  have h3:=(Hu s ((f.ak.take i).map (·.name)) 0 h1).2;rw[aY,ck]at h3;have h4:ixN f s=(idxG s (kD f) 0).toNat:=by unfold kD;rw[Kz];rfl
  refine⟨?_,k0,k0⟩;unfold kD;obtain⟨c,hc,e⟩:=bD.1 h1;exact bD.2 ⟨c,List.mem_of_mem_take hc,e⟩
 have ja:∀s∈kB f,getM 0 s (Bd f)=idxG s (kB f) 0:=fun s hs=>Da s (kB f) 0 [] hF.slo hs
 have gr:∀(i:Nat) (h:i<(A6 f).ak.length), ∀s∈prs f i,((ixN f s:Nat):Int)+3∈((A6 f).ak[i]).ap/\ixN f s<i:=fun i h s hs=>by
  obtain⟨q1,q2,q3⟩:=hp i s hs;have hi:i<f.ak.length:=by omega
  refine⟨?_,q2⟩;rw[iS i hi h]
  have hs':s∈f.ak[i].ap:=by
   unfold prs at hs;rw[aT hi]at hs;exact hs
  refine bD.2 ⟨s,hs',?_⟩;rw[FO f hF.own s (bu _ q1),Iq hF q1,q3]
 have d7:Ar (A6 f)=true:=by
  unfold Ar;have e0:=My f f.ak 0 jb
  have e1:Bu 0 (A6 f).ak=some ((kB f).length:Int):=by
   have:(A6 f).ak=CS f f.ak 0:=rfl;rw[this];have e2:((0:Nat):Int)=0:=rfl;rw[e2]at e0;rw[e0,bZ];rfl
  rw[e1,gx,iz,bf hB.cls];have e3:(A6 f).am=(kB f).length:=rfl;simp only[e3,eJ,bd]
  have key:∀(l pre:List aJ) (k:Nat),f.ak=pre++l->inisR f pre.length l=true->AK (A6 f) pre.length (CS f l k)=true:=fun l=>by
   induction l with
   |nil=>intro pre k _ _;rw[CS,AK]
   |cons c r ih=>
    intro pre k iR hi;rw[inisR,aN]at hi;have jr:pre.length<f.ak.length:=by rw[iR];simp
    have h2:=ih (pre++[c]) (k+c.am.length) (by rw[iR];simp) (by rw[aO,ce];exact hi.2);rw[aO,ce]at h2;have jm:linE ((A6 f).ak.map (·.ap)) ((pre.length:Int)+3)=0:=LT _ 0 ij pre.length k0 (by unfold kW;rw[aY,iz];omega);rw[CS,AK,h2,jm];simp only[eJ,bd,Bool.and_true];have jq:(QI f c k).ar=c.ar.map fun x=>(⟨idxG x.slot (kB f) 0,x.n⟩:lR):=rfl;rw[jq];refine OL (S:=kB f) (fun s hs=>?_) c.ar [] k7 hi.1;obtain⟨j,hj,g1,g2⟩:=(Fa _ _).1 hs;have hl:=(SO f pre.length jr (fun i s hs=>(hp i s hs).2.1) j).1 g1;have iD:s∈kB f:=dw.2 ⟨_,aR hj,g2⟩;refine⟨iD,?_⟩;unfold hasP;rw[OA,show((pre.length:Int)+3-2).toNat=pre.length+1 by omega];refine Ic gr (pre.length+1) _ [] pre.length j k0 k0 k7 hl k0 _ ?_;rw[iS j hj k0];exact bD.2 ⟨s,g2,ja s iD⟩
  exact key f.ak [] 0 rfl hr.2
 have iO:(A6 f).au.length=(kG f).length:=by show((Bj f).1.map (·.2)).length=_;unfold kG;rw[aY,aY]
 have go:∀(l:List aK) (g:kZ),(∀m∈l,m∈f.k9)->(∀p∈g.1,1<=p.2/\p.2<=3)->∀p∈(metG l g).1,1<=p.2/\p.2<=3:=fun l=>by
  induction l with
  |nil=>intro g _ hg;exact hg
  | cons m r ih =>
   intro g hl hg;rw[metG];refine ih _ (fun x hx=>hl x (by simp[hx])) ?_;have hh:=(hF.met m (hl m k7)).1;unfold C4 at hh;simp only[aN,aP]at hh;have h1:=hh.2.2.1;have h2:=hh.2.2.2.1;unfold l5;split
   ·exact hg
   ·intro p hp;rcases bi.1 hp with hp|hp
    ·exact hg p hp
    ·rw[bq]at hp;rw[hp];simp only;omega
 have gB:∀(l:List aK) (g:kZ),(∀m∈l,m∈f.k9)->(∀p∈g.1,1<=p.2/\p.2<=3)->∀p∈(AV (l.map (·.body)) g).1,1<=p.2/\p.2<=3:=fun l=>by
  induction l with
  |nil=>intro g _ hg;rw[cq,AV];exact hg
  |cons m r ih=>
   intro g hl hg;rw[bg,AV];exact ih _ (fun x hx=>hl x (by simp[hx])) (Nx m.body 1 g ((C8 m.body 1 120 k0).1.1 (hF.met m (hl m k7)).2.2.1).1 hg)
 have jv:∀p∈(Bj f).1,1<=p.2/\p.2<=3:=by
  unfold Bj Br;rw[Ie,AV,AV];exact Nx f.kH 1 _ ((C8 f.kH 1 120 k0).1.1 hF.mainC).1 (gB f.k9 _ (fun m h=>h) (go f.k9 _ (fun m h=>h) k7))
 have gA:(A6 f).au.all (fun g=>decide (1<=g/\g<=3))=true:=by
  rw[bh];intro g hg;obtain⟨p,h1,rfl⟩:=bD.1 (show g∈(Bj f).1.map (·.2) from hg);exact bf (jv p h1)
 obtain⟨i0,iZ⟩:=QZ hF.gen;have fX:∀e:aH,l9 (Lf (Bj f).1) e->l9 (CallK (A6 f) (kG f)) e:=fun e he=>Fq (fun x hx h5=>JZ (hx h5)) e he;have gJ:(A6 f).ak.length=(kD f).length:=by rw[iz];unfold kD;rw[aY]
 have jd:(AH (A6 f)).ap.length=(kD f).length:=by show((A6 f).ak.map (·.ap)).length=_;rw[aY,gJ]
 have gW:(AH (A6 f)).owner.length=(kB f).length:=by
  have:=(MC d7).own;have e3:(A6 f).am=(kB f).length:=rfl;omega
 have jx:∀c∈kD f++kK,0<=lD (kD f) c/\lD (kD f) c<3+(AH (A6 f)).ap.length:=fun c hc=>by
  rw[jd]
  by_cases hl:c∈kK
  ·have:∀x∈kK,0<=idxG x kK 0/\idxG x kK 0<3:=by decide
   obtain⟨h1,h2⟩:=this c hl;unfold lD;rw[aS h1];omega
  ·have hm:=(bi.1 hc).resolve_right hl;obtain⟨j,j1,_,j3⟩:=DJ (kD f) 0 hm;rw[Iq hF hm,j3];omega
 have jy:∀c∈kD f++kK,c≠[]:=fun c hc=>by
  rcases bi.1 hc with h|h
  ·exact Eb (hF.ownB c h)
  ·exact OF h
 have f8 : ∀ (l:List aK) (pre post:List aG) (s:fR),(A6 f).kC=pre++(Bf (kD f) (kB f) (kG f) l pre.length++post)->(∀ m ∈ l,m ∈ f.k9)->(∀ x ∈ bndMRm (kD f) (kB f) (kG f) l pre.length,x.kJ.size<=24)->s.length=(A6 f).kC.length ->
   (∀j,pre.length<=j->j<pre.length+wtL (fun m:aK=>m.body.cnt) l->s.getD j 0<0)->
   ∃s',D5 (A6 f) (bndMRm (kD f) (kB f) (kG f) l pre.length) s=some s'/\s'.length=s.length/\(∀j,j<pre.length\/pre.length+wtL (fun m:aK=>m.body.cnt) l<=j->s'.getD j 0=s.getD j 0) /\ ∀j,pre.length<=j->j<pre.length+wtL (fun m:aK=>m.body.cnt) l->0<=s'.getD j 0:=fun l=>by
  induction l with
  |nil=>
   intro pre post s _ _ _ _ _;rw[bndMRm,D5,wtL];exact⟨s,rfl,rfl,fun _ _=>rfl,fun j j1 j2=>by omega⟩
  | cons m r ih =>
   intro pre post s hn hm hz gU hs;have g7:=hm m k7;obtain⟨m1,⟨b,hb,m2⟩,m3,_,_⟩:=hF.met m g7
   have m4:DD m.params (kB f) (kD f) (decide (m.kind=1\/m.kind=4)) m.body=true:=by
    have iH:Dn (kB f) (kD f) f.k9 (budR f)=true/\0<=budR f:=by
     unfold Cg at hf;simp only[aN,aP]at hf;exact⟨hf.2.2.1,hf.2.1.1⟩
    have:∀(l:List aK) (b:Int),0<=b->Dn (kB f) (kD f) l b=true->∀m∈l,DD m.params (kB f) (kD f) (decide (m.kind=1\/m.kind=4)) m.body=true:=fun l=>by
     induction l with
     |nil=>intro _ _ _ m hm;cases hm
     | cons y r ih =>
      intro b hb h m hm;rw[Dn,aN]at h;rcases be.1 hm with rfl|hm
      ·have h1:=h.1;unfold Cv at h1;split at h1
       ·split at h1
        ·simp only[aN]at h1;exact h1.2
        ·cases h1
       ·cases h1
      ·exact ih _ (GN _ _ y b hb h.1).1 h.2 m hm
    exact this _ _ iH.2 iH.1 m g7
   obtain⟨t1,t2⟩:=i0 m g7;obtain⟨j,j1,j2,j3⟩:=JZ t1;have hh:=m1;unfold C4 at hh;simp only[aN,aP]at hh;obtain⟨⟨k1,k2⟩,_,p1,p2,p3⟩:=hh;obtain⟨n1,n2⟩:=(BD _).1 p3;have gS:[]∉m.params:=fun hx=>by have:=n1 _ hx;rw[DR]at this;cases this
   rw[Bf]at hn;rw[bndMRm]at hz⊢;rw[wtL]at hs⊢;have hlen:(CB (kD f) (kB f) (kG f) m.body m.params pre.length).length=m.body.cnt:=BR _ _ _;obtain⟨f1,f2,f3⟩:=Vx gW jx jy k0 gS m.kJ.wt m.kJ 1 (bn _) ((DN m.kJ 1 b hb).1.1 m2).1
   have iQ:(A6 f).au.getD (idxG m.name (kG f) 0).toNat 0=m.params.length:=by
    rw[j2,bj,show((j:Int)).toNat=j by omega,j3];rfl
   have gH:=hz _ (List.mem_cons_self ..)
   have jw:CW (AH (A6 f)) (E4 (kD f) (kB f) m.params m.kJ)=true:=by
    unfold CW;have:=(F5 (AH (A6 f)) 12 (E4 (kD f) (kB f) m.params m.kJ) 24 _ k0 k0).2 ⟨rfl,by have:(E4 (kD f) (kB f) m.params m.kJ).size<=24:=gH;omega,k0,f1⟩;rw[this]
   have je:Do (A6 f) ⟨m.kind,idxG m.name (kG f) 0,E4 (kD f) (kB f) m.params m.kJ,pre.length⟩=true:=by
    unfold Do;simp only[aN,aP];exact⟨⟨⟨⟨k1,k2⟩,k0,k0⟩,jw⟩,by rw[iQ];exact f3⟩
   obtain⟨s1,r1,r2,r3,r4⟩:=Y5 (a:=A6 f) (own:=kD f) (am:=kB f) (au:=kG f) (t0:=decide (m.kind=1\/m.kind=4)) rfl gJ hF.ownB iO m.body 1 12 m.params [] pre (Bf (kD f) (kB f) (kG f) r (pre.length+m.body.cnt)++post) s k0
    ((C8 m.body 1 120 k0).1.1 m3).1 (EE m4) (fX _ t2) (F0 m4) k7 (by rw[hn];simp[bc]) gU (fun j a b=>hs j a k0)
   obtain⟨s2,r5,r6,r7,r8⟩:=ih (pre++CB (kD f) (kB f) (kG f) m.body m.params pre.length) post s1 (by rw[hn,aO,hlen];simp[bc]) (fun x hx=>hm x (by simp[hx]))
    (fun x hx=>hz x (by rw [aO,hlen] at hx;exact dH _ hx)) k0 (fun j a b=>by
     rw[aO,hlen]at a b
     rw[r3 j k0];exact hs j k0 k0)
   rw[aO,hlen]at r5 r7 r8
   have iq:(decide (m.kind=1)||decide (m.kind=4))=decide (m.kind=1\/m.kind=4):=by
    by_cases a:m.kind=1<;>by_cases b:m.kind=4<;>simp[a,b]
   rw[D5,aS je];simp only[iQ,iq,r1,optW];refine⟨s2,r5,k0,fun j hj=>by rw[r7 j k0,r3 j k0],fun j a b=>?_⟩
   by_cases hj:j<pre.length+m.body.cnt
   ·rw[r7 j k0];exact r4 j a hj
   ·exact r8 j k0 k0
 have hN:(A6 f).kC=Bf (kD f) (kB f) (kG f) f.k9 0++CB (kD f) (kB f) (kG f) f.kH [] (Bf (kD f) (kB f) (kG f) f.k9 0).length:=rfl;have jg:=H3 (kD f) (kB f) (kG f) f.k9 0;have jJ:1<=f.kH.cnt:=by unfold aH.cnt;rw[L9];simp
 have jN:(A6 f).kC.length=wtL (fun m:aK=>m.body.cnt) f.k9+f.kH.cnt:=by rw[hN,aO,BR,jg]
 obtain⟨s1,r1,r2,r3,r4⟩:=f8 f.k9 [] _ (List.replicate (A6 f).kC.length (-1)) (by rw[bG];exact hN) (fun m h=>h) (fun x hx=>bx (bh.1 gH x hx)) (by rw[bB]) (fun j a b=>by
  rw[bj,dO,aS (by simp only[cG]at b;omega)];decide)
 obtain⟨s2,q1,q2,q3,q4⟩:=Y5 (a:=A6 f) (own:=kD f) (am:=kB f) (au:=kG f) (t0:=false) rfl gJ hF.ownB iO f.kH 1 12 [] [] (Bf (kD f) (kB f) (kG f) f.k9 0) [] s1 k0
  ((C8 f.kH 1 120 k0).1.1 hF.mainC).1 (EE hF.mainS) (fX _ iZ) (F0 hF.mainS) k7 (by rw [hN,br]) (by rw [r2,bB]) (fun j a b=>by
   rw[r3 j (by simp only[cG];omega),bj,dO,aS k0];decide)
 unfold okP Dk
 have g8:(A6 f).k9.length<=16:=by
  have:∀(l:List aK) (k:Nat),(bndMRm (kD f) (kB f) (kG f) l k).length=l.length:=fun l=>by
   induction l with
   |nil=>intro k;rfl
   |cons m r ih=>intro k;rw[bndMRm,aV,ih,aV]
  show(bndMRm _ _ _ f.k9 0).length<=16;rw[this];exact hB.met
 have f0:=hB.kC;have iP:=hB.gen;rw[d7,gA,aS (by simp only[bd,Bool.and_true,aN,aP];exact⟨⟨⟨k0,g8⟩,k0⟩,f0⟩)];have e1:(A6 f).k9=bndMRm (kD f) (kB f) (kG f) f.k9 0:=rfl;have e2:(A6 f).kH=((Bf (kD f) (kB f) (kG f) f.k9 0).length:Int):=rfl;rw[cG]at r1;rw[e1,r1,e2];have q1:BT (A6 f) false 12 ((Bf (kD f) (kB f) (kG f) f.k9 0).length:Int) 0 s1=(true,s2):=q1;simp only[q1,optW];rw[aQ]
 ·rfl
 ·intro hm;obtain⟨j,hj,e⟩:=bm hm;have e7:j<(A6 f).kC.length:=by rw[q2,r2,bB]at hj;exact hj
  have hg:s2.getD j 0 = -1:=by rw[bj,aT hj,e];rfl
  by_cases jp:j<(Bf (kD f) (kB f) (kG f) f.k9 0).length
  ·have h1:=q3 j (.inl jp);have h2:=r4 j k7 (by simp only[cG];omega);omega
  ·have:=q4 j k0 k0;omega
end Go.DL
namespace Go.DL
open Go.Proofs.Tryz
open Go Go.Proofs
set_option maxHeartbeats 8000000
structure FcT(i7 i1 i2:Nat)(op n:Int)(A C:Str)(l:fP)(ks:List aI)(V S1:Sig):Prop where
 o7:S1 i7=some (.cells [dI op,(.str A),.slice (cS l) (.tag i1),(.str C),dI n,.slice (ks.map AE) (.tag i2)])
 o1:S1 i1=some (.tail 1 l.length)
 o2:S1 i2=some (.tail 6 ks.length)
 hS:Sub V S1
def FcT.path{i7 i1 i2:Nat}{op n:Int}{A C:Str}{l:fP}{ks:List aI}{V S1:Sig}(h:FcT i7 i1 i2 op n A C l ks V S1)(v:Str)(iX:i1≠i2)(h7:V i7=none)(h1:V i1=none):
  FcT i7 i1 i2 op n A C (l++[v]) ks V ((S1.set i1 (.tail 1 (l.length+1))).set i7 (.cells [dI op,(.str A),.slice (cS l++[[.str v]]) (.tag i1),(.str C),dI n,.slice (ks.map AE) (.tag i2)])):=by
 have n1:i1≠i7:=Ab h.o1 h.o7 k7;have n2:i2≠i7:=Ab h.o2 h.o7 k7;refine⟨by rw[w7];simp[cS],by rw[w8 _ _ n1,w7,aO];rfl,k8 n2 (k8 (aZ iX) h.o2),fun j o hj=>?_⟩;rw[w8 _ _ (A3 hj h7),w8 _ _ (A3 hj h1)];exact h.hS j o hj
def subN(t:Str):fP->fP->Str->Str
 |o::os,n::ns,d=>subN t os ns (if o=t then n else d)
 |_,_,d=>d
mutual
def anE(P:fP):aH->fP->fP->Nat->aH×Nat
 |.mk o n t k,old,now,x=>
  if o=3 then(.mk o n (subN t old now t) [],x)
  else(.mk o n (if o=9/\0<k.length then ixS P x else t) (anEs P o t (if o=9/\0<k.length then ixS P x else t) old now k 0 (if o=9/\0<k.length then x+1 else x)).1,(anEs P o t (if o=9/\0<k.length then ixS P x else t) old now k 0 (if o=9/\0<k.length then x+1 else x)).2)
def anEs(P:fP)(o:Int)(t tx:Str)(old now:fP):List aH->Nat->Nat->List aH×Nat
 |[],_,x=>([],x)
 | y::r,i,x=>((if o=9/\i=1 then anE P y (old++[t]) (now++[tx]) x else anE P y old now x).1::(anEs P o t tx old now r (i+1) (if o=9/\i=1 then anE P y (old++[t]) (now++[tx]) x else anE P y old now x).2).1,
   (anEs P o t tx old now r (i+1) (if o=9/\i=1 then anE P y (old++[t]) (now++[tx]) x else anE P y old now x).2).2)
end
def anE_eq(P:fP)(e:aH)(old now:fP)(x:Nat):anE P e old now x=if e.op=3 then(.mk e.op e.n (subN e.text old now e.text) [],x)
  else(.mk e.op e.n (if e.op=9/\0<e.aq.length then ixS P x else e.text) (anEs P e.op e.text (if e.op=9/\0<e.aq.length then ixS P x else e.text) old now e.aq 0 (if e.op=9/\0<e.aq.length then x+1 else x)).1,(anEs P e.op e.text (if e.op=9/\0<e.aq.length then ixS P x else e.text) old now e.aq 0 (if e.op=9/\0<e.aq.length then x+1 else x)).2):=by cases e;rw[anE];rfl
mutual
def SI(P:fP): ∀(e:aH) (old now:fP) (x:Nat),x<=(anE P e old now x).2
 | .mk o n t k,old,now,x=>by
  rw[anE];split
  ·exact bn _
  ·refine dy ?_ (L8 P o t _ old now k 0 _);split<;>omega
def L8(P:fP)(o:Int)(t tx:Str)(old now:fP): ∀(l:List aH) (i x:Nat),x<=(anEs P o t tx old now l i x).2
 |[],i,x=>by rw[anEs];exact bn _
 |y::r,i,x=>by
  rw[anEs];refine dy ?_ (L8 P o t tx old now r (i+1) _);split
  ·exact SI P y _ _ x
  ·exact SI P y _ _ x
end
def Z0(c:aJ)(V:Sig)(hw:c.wt<=1073741824):aB prog 72 [.agg (kL c)] V (rS (.agg (kL c)) V):=by
 obtain⟨w1,w2,w3,w4,w5⟩:=c.wt_le;have wp:=Bc c.ap;have ws:=Bc c.am;refine en func72 ntmps72 ?_;refine gz ?_ o72 [2];refine kR (fun i hi=>?_);refine gz ?_ o72 [2];generalize gg:V.set i (.cells [.str [],.av,.av,.av])=S1;refine Kk (fun i1 h1=>?_);have ga:=(Sub.refl S1).set (o:=.tail (tab 9).size (cS c.ap).length) h1;refine Kk (fun i2 h2=>?_);have iF:=ga.set (o:=.tail (tab 9).size (cS c.am).length) (ga.none h2);refine Kk (fun i3 h3=>?_);have iE:=iF.set (o:=.tail (tab 150).size (c.ar.map Dz).length) (iF.none h3);have q1:S1 i=some (.cells [.str [],.av,.av,.av]):=by rw[<-gg];exact w7 ..
 have q3:=iE _ _ q1;have hS:Sub V S1:=by rw[<-gg];exact(Sub.refl _).set hi
 generalize Sig.set (Sig.set (Sig.set S1 i1 _) i2 _) i3 _=S3 at*;refine gf q3 ?_ o72 [2];refine lI (U':=V) ⟨rfl,rfl⟩ (hZ:=(hS.trans iE).set hi) (hw:=?_);exact DA (AN (A9 _) (AN (AO _ _) (AN (AO _ _) (AN (AO _ _) Ga))))
mutual
def cpF(old now:fP):aI->aI
 |.mk o s p c n k=>.mk o (if 0<=idxG s old 0 then ixS now (idxG s old 0) else s) p c n (cpFs old now k)
def cpFs(old now:fP):List aI->List aI
 |[]=>[]
 |x::r=>cpF old now x::cpFs old now r
end
def Sq(old now:fP): ∀l,cpFs old now l=l.map (cpF old now)
 |[]=>by rw[cpFs];rfl
 |x::r=>by rw[cpFs,Sq old now r];rfl
def cpF_eq(old now:fP)(f:aI):cpF old now f=.mk f.op (if 0<=idxG f.name old 0 then ixS now (idxG f.name old 0) else f.name) f.path f.cls f.n (f.aq.map (cpF old now)):=by cases f;rw[cpF,Sq];rfl
def YZ(old now:fP)(hl:now.length=old.length)(ho:old.length<=1073741824): ∀(n:Nat) (x:aI) (o1 o2:Own) (V:Sig),x.wt<=n->n<=1073741824->
  aB prog 74 [.agg (AE x),.slice (cS old) o1,.slice (cS now) o2] V (rS (.agg (AE (cpF old now x))) V):=by
 intro n
 induction n with
 |zero=>
  intro x _ _ V hx;have:=x.wt_pos;omega
 | succ n ih =>
  intro x o1 o2 V hx hw;obtain⟨w1,w2,w3,w4,w5⟩:=x.wt_le;have wp:=Bc x.path;obtain⟨N,hN⟩:∃N:Str,N=if 0<=idxG x.name old 0 then ixS now (idxG x.name old 0) else x.name:=⟨_,rfl⟩
  have hb:=cpF_eq old now x;rw[<-hN]at hb;refine en func74 ntmps74 ?_;refine gz ?_ o74 [6,7];refine kR (fun i6 iK=>?_);generalize gg:V.set i6 (.cells [dI 0,.str [],.av,.str [],dI 0,.av])=S1;have q6:S1 i6=some (.cells [dI 0,.str [],.av,.str [],dI 0,.av]):=by rw[<-gg];exact w7 ..
  have iU:Sub V S1:=by rw[<-gg];exact(Sub.refl _).set iK
  clear gg;refine gz ?_ (kX 1 o74) [6,7];refine mixU (id:=1) [0,1,2,3,4,5,7,8,9,10,6,11,12,13] [13] [6] ?_;refine u3R (.aw (AE x) 0) ?_;refine u3R (dI x.op) ?_;refine u3R (.aw (AE x) 1) ?_;refine u3R (.str x.name) ?_;refine u3R (.aw (AE x) 2) ?_;refine u3R (sl (cS x.path)) ?_;refine u3R (.aw (AE x) 3) ?_;refine u3R (.str x.cls) ?_;refine u3R (.aw (AE x) 4) ?_;refine u3R (dI x.n) ?_;refine u3N 1 x.path.length (fun i1 jM=>?_);refine u3R (.agg [dI x.op,.str x.name,.slice (cS x.path) (.tag i1),.str x.cls,dI x.n,.av]) ?_;refine u3A [dI 0,.str [],.av,.str [],dI 0,.av] (fun i7 iJ=>?_)
  have ga:Sub S1 (((S1.set i1 (.tail 1 x.path.length)).set i7 (.cells [dI 0,.str [],.av,.str [],dI 0,.av])).set i7 (.cells [dI x.op,.str x.name,.slice (cS x.path) (.tag i1),.str x.cls,dI x.n,.av])):=by
   intro k x hk;simp only[Sig.set]at iJ hk⊢
   grind
  refine u3M ?_;simp only[List.map];refine Kj Ag tdR (by simp[w8];rfl) ga ?_;have h7:S1 i7=none:=(A8 iJ).2;have q7:(((S1.set i1 (.tail 1 x.path.length)).set i7 (.cells [dI 0,.str [],.av,.str [],dI 0,.av])).set i7 (.cells [dI x.op,.str x.name,.slice (cS x.path) (.tag i1),.str x.cls,dI x.n,.av])) i7=some (.cells [dI x.op,.str x.name,.slice (cS x.path) (.tag i1),.str x.cls,dI x.n,.av]):=w7 ..;generalize ((S1.set i1 (.tail 1 x.path.length)).set i7 (.cells [dI 0,.str [],.av,.str [],dI 0,.av])).set i7 (.cells [dI x.op,.str x.name,.slice (cS x.path) (.tag i1),.str x.cls,dI x.n,.av])=S2 at*
  repeat ((fail_if_success (first|(refine ky (x1:=.seq _ _) [] (S2.set i7 (.cells [dI x.op,.str N,.slice (cS x.path) (.tag i1),.str x.cls,dI x.n,.av])) ?_ (fun _ hK=>?_))|fail));(refine goX1 trivial ?_))
  refine ky (x1:=.seq _ _) [] (S2.set i7 (.cells [dI x.op,.str N,.slice (cS x.path) (.tag i1),.str x.cls,dI x.n,.av])) ?_ (fun _ hK=>?_)
  ·have gw:S2 i6=some (.cells [dI 0,.str [],.av,.str [],dI 0,.av]):=ga _ _ q6;have n67:i6≠i7:=A3 q6 h7;have hS:Sub V S2:=iU.trans ga;have s7:V i7=none:=iU.none h7;refine gz ?_ o74 [6,7];refine Bt i7 5 6 (ds:=[dI x.op,.str N,.slice (cS x.path) (.tag i1),.str x.cls,dI x.n,.av]) (w7 ..) rfl (fun i2 ju=>?_);obtain⟨a1,a2⟩:=A8 ju;have s2:V i2=none:=hS.none a2;generalize gD:Sig.set (Sig.set _ i2 _) i7 _=S3;have r7:S3 i7=some (.cells [dI x.op,.str N,.slice (cS x.path) (.tag i1),.str x.cls,dI x.n,.slice (([]:List aI).map AE) (.tag i2)]):=by rw[<-gD];exact w7 ..
   have r2:S3 i2=some (.tail 6 ([]:List aI).length):=by rw[<-gD,w8 _ _ a1];exact w7 ..
   have r6:S3 i6=some (.cells [dI 0,.str [],.av,.str [],dI 0,.av]):=by rw[<-gD,w8 _ _ n67,w8 _ _ (A3 gw a2),w8 _ _ n67];exact gw
   have rS:Sub V S3:=by rw[<-gD];exact(((hS.set s7)).set s2).set s7
   clear gD;refine E2 [1,2,3,6,7,53] (fun (k:Nat) (ks:List aI) (S4:Sig)=>k<=x.aq.length/\ks++(x.aq.drop k).map (cpF old now)=x.aq.map (cpF old now)/\S4 i7=some (.cells [dI x.op,.str N,.slice (cS x.path) (.tag i1),.str x.cls,dI x.n,.slice (ks.map AE) (.tag i2)])/\S4 i2=some (.tail 6 ks.length)/\S4 i6=some (.cells [dI 0,.str [],.av,.str [],dI 0,.av])/\Sub V S4) (fun k _ _=>[(9,dI k)]) (fun _ _ S4=>S4) (fun k _ _=>x.aq.length-k) (0) ([]) (S3) (by exact⟨k0,rfl,r7,r2,r6,rS⟩) (fun k ks S4 hI=>?_);obtain⟨hk,hR,o7,o2',o6,oS⟩:=hI;have hlen:=cf List.length hR;simp at hlen
   by_cases gu:k<x.aq.length
   ·rw[A0 gu,bg]at hR;have jG:=w5 k gu;have n72:i7≠i2:=Ab o7 o2' k7;have u7:(S4.out fun j=>j=i2) i7=some (.cells [dI x.op,.str N,.slice (cS x.path) (.tag i1),.str x.cls,dI x.n,.slice (ks.map AE) (.tag i2)]):=EH o7 n72;have d6:Sub (S4.out fun j=>j=i2) S4:=C3 _ _
    have iC:Sub (S4.out fun j=>j=i2) (S4.set i2 (.tail 6 (ks.length+1))):=fun j o hj=>by
     obtain⟨h1,h2⟩:=Ct hj;rw[w8 _ _ h2];exact h1
    refine gz ?_ (kX 8 o74) [6,7];refine G0 (id:=8) [0,1,2,3,4,5,6,7,8,9,10,11,12] [9,11] (S4.out fun j=>j=i2) d6 ?_
    repeat' first|refine gf (gi u7 (gi o7 o2')) ?_ [] [6,7]|refine moR (ih x.aq[k] o1 o2 S4 k0 k0) ?_|refine moP (ih x.aq[k] o1 o2 S4 k0 k0) ?_|refine gf (gi u7 (gi o7 o2')) ?_ o74 [6,7]|apply gy<;>intro hh
    exact⟨k+1,ks++[cpF old now x.aq[k]],(S4.set i2 (.tail 6 (ks.length+1))).set i7 (.cells [dI x.op,.str N,.slice (cS x.path) (.tag i1),.str x.cls,dI x.n,.slice (ks.map AE++[AE (cpF old now x.aq[k])]) (.tag i2)]),⟨k0,by rw[bc];exact hR,by rw[w7];simp,by rw[w8 _ _ (aZ n72),w7,aO];rfl,k8 n67 (k8 (Ab o6 o2' k7) o6),(oS.set s2).set s7⟩,td1,wkR⟩
   ·rw[A1 gu,cq,br]at hR;subst hR;refine gf o7 ?_ o74 [6,7];refine rtl 53 (.agg [dI x.op,.str N,sl (cS x.path),.str x.cls,dI x.n,sl ((x.aq.map (cpF old now)).map AE)]) ?_ (hw:=DA (AN (A9 _) (AN (A9 _) (AN (AO _ _) (AN (A9 _) (AN (A9 _) (AN (CY _ k7) Ga)))))));refine gf o6 ?_ o74 [6,7];refine lI (U':=V) ⟨rfl,rfl⟩ (hZ:=oS.set iK) (hw:=?_);rw[hb];refine B9 ?_;simp[aI.op,aI.name,aI.path,aI.cls,aI.n,aI.aq]
  ·by_cases hh:0<=idxG x.name old 0
   ·rw[aS hh]at hN
    have jK:idxG x.name old 0<old.length:=by
     rcases idxG_lt x.name old 0 with h|h
     ·omega
     ·have:=h.2;omega
    obtain⟨m,hm⟩:∃m:Nat,idxG x.name old 0=m:=⟨(idxG x.name old 0).toNat,k0⟩;have gK:m<now.length:=by omega
    have e2:ixS now (m:Int)=now[m]:=by unfold ixS;rw[show((m:Int)).toNat=m by omega,aT gK];rfl
    rw[hm,e2]at hN;subst hN;refine gf (gi hm q7) ?_ o74 [6,7];exact kO (Aw (by first|(simp;done)|(simp_all;done)) (Sub.refl _)) hK
   ·rw[aQ hh]at hN;subst hN;refine gf q7 ?_ o74 [6,7];exact kO (Aw (by first|(simp;done)|(simp_all;done)) (BG (by rw[Sig.set_self _ q7]))) hK
def WH(P:fP)(t:Nat)(V:Sig)(ht:t<P.length)(hP:P.length<=1000)(gQ:refM (t+1) [] []=some (P.take (t+1))):aB prog 165 [dI t] V (rS (.str (ixS P t)) V):=by
 have ji:ixS P t=P[t]:=by unfold ixS;rw[show((t:Int)).toNat=t by omega,aT ht];rfl
 obtain⟨PT,gR⟩:∃PT,PT=P.take (t+1):=⟨_,rfl⟩;have i73:∀V:Sig,Ans 73 [.av,dI ((t:Int)+1)] V True (sl (cS PT)):=fun V=>ah0 (aB.wk (RI (t+1) [] PT .no V (by simp;omega) (by rw[gR];exact gQ)) (AN (An _ (.inl rfl)) (AN (B9 k7) Ga)))
 have jI:PT.length=t+1:=by rw[gR,ck];omega
 have jH:t<PT.length:=by omega
 have iY:PT[t]=P[t]:=by simp only[gR];rw[List.getElem_take]
 clear gR;rw[ji,<-iY];refine en func165 ntmps165 ?_;refine gz ?_;exact kE (U':=V) ⟨rfl,rfl⟩
section
variable {P:fP}(hP:P.length<=1000)(gQ:∀t,t<P.length->refM (t+1) [] []=some (P.take (t+1)))
include hP gQ
theorem RH: ∀(n:Nat) (e:aH) (old now:fP) (o1 o2:Own) (t ib:Nat) (V:Sig),e.wt<=n->n+old.length<=1000000000->now.length=old.length->(anE P e old now t).2<=P.length->V ib=some (.cells [dI t])->
  aB prog 75 [.agg (Af e),.slice (cS old) o1,.slice (cS now) o2,.ptr ib 0] V fun x U'=>x=.ret (.agg (Af (anE P e old now t).1))/\U'=V.set ib (.cells [dI (anE P e old now t).2]):=by
 intro n
 induction n with
 |zero=>
  intro e _ _ _ _ _ _ _ hx;have:=e.wt_pos;omega
 | succ n ih =>
  intro e old now o1 o2 t ib V hx gH jl hT gv;obtain⟨w1,w2,w3⟩:=e.wt_le;rw[anE_eq]at hT⊢;refine en func75 ntmps75 ?_;refine gz ?_ o75 [8,9];refine kR (fun i8 gO=>?_);have n8:ib≠i8:=A3 gv gO;refine gz ?_ o75 [8,9];refine kR (fun i9 jt=>?_);obtain⟨a1,a2⟩:=A8 jt;have n9:ib≠i9:=A3 gv a2;generalize gE:Sig.set (V.set i8 _) i9 _=S0;have q0:S0 i9=some (.cells [dI 0,dI 0,.str [],.av]):=by rw[<-gE];exact w7 ..
  have q1:S0 i8=some (.cells [dI 0,dI 0,.str [],.av]):=by rw[<-gE,w8 _ _ (aZ a1)];exact w7 ..
  have q2:S0 ib=some (.cells [dI t]):=by rw[<-gE,w8 _ _ n9,w8 _ _ n8];exact gv
  have q3:Sub V S0:=by rw[<-gE];exact((Sub.refl _).set gO).set a2
  clear gE;have q9:(S0.set i9 (.cells [dI e.op,dI e.n,.str e.text,.av])) i9=some (.cells [dI e.op,dI e.n,.str e.text,.av]):=w7 ..;have q8:(S0.set i9 (.cells [dI e.op,dI e.n,.str e.text,.av])) i8=some (.cells [dI 0,dI 0,.str [],.av]):=by rw[w8 _ _ (aZ a1)];exact q1
  have qb:(S0.set i9 (.cells [dI e.op,dI e.n,.str e.text,.av])) ib=some (.cells [dI t]):=by rw[w8 _ _ n9];exact q2
  have qS:Sub V (S0.set i9 (.cells [dI e.op,dI e.n,.str e.text,.av])):=q3.set a2
  by_cases c3:e.op=3
  ·rw[aS c3]at hT⊢;refine gf (gi q0 c3) ?_ o75 [8,9];rw[c3]at q9 q8 qS;generalize S0.set i9 (.cells [dI 3,dI e.n,.str e.text,.av])=S1 at*;rw[<-c3]at q9;rw[show V.set ib (.cells [dI t])=V from Sig.set_self _ gv];refine E2 [1,2,3,4,8,9,11,40,41,42,43,44,45,46,47,48,49,50,51,52,53,54,55,56,57,58,59,60,61,62,63,64,65,66,67,68,69,70,71,72,73,74,75,76,77,78,79,80,81,82,83,84,85,86,87,88,89,90,91,92,93,94,95,96,97,98,99,100,101,102,103,104,105,106,107,108,109,110] (fun (j:Nat) (s:Str) (S2:Sig)=>j<=old.length/\subN e.text (old.drop j) (now.drop j) s=subN e.text old now e.text/\S2 i9=some (.cells [dI e.op,dI e.n,.str s,.av])/\S2 i8=some (.cells [dI 0,dI 0,.str [],.av])/\Sub V S2) (fun j _ _=>[(10,dI j)]) (fun _ _ S2=>S2) (fun j _ _=>old.length-j) (0) (e.text) (S1) (by exact⟨k0,rfl,q9,q8,qS⟩) (fun j s S2 hI=>?_);obtain⟨hj,hR,r9,r8,rS⟩:=hI
   by_cases e7:j<old.length
   ·have jo:j<now.length:=by omega
    rw[A0 e7,A0 jo,subN]at hR
    by_cases hh:old[j]=e.text
    ·rw[aS hh]at hR;refine gf (gi r9 hh) ?_ o75 [8,9];exact⟨j+1,now[j],S2.set i9 (.cells [dI e.op,dI e.n,.str now[j],.av]),⟨k0,hR,w7 .., by rw[w8 _ _ (aZ a1)];exact r8,rS.set a2⟩,td1,wkR⟩
    ·rw[aQ hh]at hR;refine gf (gi r9 hh) ?_ o75 [8,9];exact⟨j+1,s,S2,⟨k0,hR,r9,r8,rS⟩,td1,wkR⟩
   ·rw[A1 e7]at hR;have hs:s=subN e.text old now e.text:=by rw[<-hR];rfl
    subst hs;refine gf (gi r9 r8) ?_ o75 [8,9];refine lI (U':=V) ⟨rfl,rfl⟩ (hZ:=rS.set gO) (hw:=?_);rw[Cl];exact DA (AN (A9 _) (AN (A9 _) (AN (A9 _) (AN (An _ (.inl rfl)) Ga))))
  ·rw [aQ c3] at hT ⊢;refine gf q0 ?_ o75 [8,9];generalize S0.set i9 (.cells [dI e.op,dI e.n,.str e.text,.av])=S1 at*;refine Bt i9 3 4 (ds:=[dI e.op,dI e.n,.str e.text,.av]) q9 rfl fun it gN=>?_;have nbt:ib≠it:=A3 qb gN;have n9t:i9≠it:=A3 q9 gN;have n8t:i8≠it:=A3 q8 gN;have n89:i8≠i9:=aZ a1;have st:V it=none:=qS.none gN;generalize gc:Sig.set (Sig.set S1 it _) i9 _=S2;have u9:S2 i9=some (.cells [dI e.op,dI e.n,.str e.text,.slice (([]:List aH).map Af) (.tag it)]):=by rw[<-gc];exact w7 ..
   have ut:S2 it=some (.tail 4 ([]:List aH).length):=by rw[<-gc,w8 _ _ (aZ n9t)];exact w7 ..
   have u8:S2 i8=some (.cells [dI 0,dI 0,.str [],.av]):=by rw[<-gc,w8 _ _ n89,w8 _ _ n8t];exact q8
   have ub:S2 ib=some (.cells [dI t]):=by rw[<-gc,w8 _ _ n9,w8 _ _ nbt];exact qb
   have uS:Sub V S2:=by rw[<-gc];exact(qS.set st).set a2
   clear gc;generalize hL:anEs P e.op e.text (if e.op=9/\0<e.aq.length then ixS P t else e.text) old now e.aq 0 (if e.op=9/\0<e.aq.length then t+1 else t)=L at*;have jB:(if e.op=9/\0<e.aq.length then t+1 else t)<=L.2:=by rw[<-hL];exact L8 P _ _ _ _ _ _ _ _
   have hT:L.2<=P.length:=hT;obtain⟨tx,gh⟩:∃tx:Str,tx=if e.op=9/\0<e.aq.length then ixS P t else e.text:=⟨_,rfl⟩
   rw[<-gh]at hL⊢
   have h9:e.op=9->0<e.aq.length->t<P.length/\tx=ixS P t/\L=anEs P e.op e.text tx old now e.aq 0 (t+1):=fun c9 hk=>by
    rw[aS ⟨c9,hk⟩]at jB gh hL;exact⟨k0,gh,hL.symm⟩
   have gZ:¬(e.op=9/\0<e.aq.length)->tx=e.text/\L=anEs P e.op e.text tx old now e.aq 0 t:=fun hc=>by
    rw[aQ hc]at gh hL;exact⟨gh,hL.symm⟩
   have jC:0<=e.aq.length/\([]:List aH).length=0/\(if e.op=9/\0=0/\0<e.aq.length then t=t/\([]:List aH)=[] else([]:List aH)++(anEs P e.op e.text tx old now (e.aq.drop 0) 0 t).1=L.1/\(anEs P e.op e.text tx old now (e.aq.drop 0) 0 t).2=L.2)/\S2 i9=some (.cells [dI e.op,dI e.n,.str (if e.op=9/\0=0 then e.text else tx),.slice (([]:List aH).map Af) (.tag it)])/\S2 it=some (.tail 4 ([]:List aH).length)/\S2 i8=some (.cells [dI 0,dI 0,.str [],.av])/\Sub (V.set ib (.cells [dI t])) S2:=by
    refine⟨k0,rfl,?_,?_,ut,u8,?_⟩
    ·by_cases hc:e.op=9/\0<e.aq.length
     ·rw[aS ⟨hc.1,rfl,hc.2⟩];exact⟨rfl,rfl⟩
     ·rw[aQ fun h=>hc ⟨h.1,h.2.2⟩,dE,(gZ hc).2];exact⟨rfl,rfl⟩
    ·by_cases hc:e.op=9
     ·rw[aS ⟨hc,rfl⟩];exact u9
     ·rw[aQ fun h=>hc h.1,(gZ fun h=>hc h.1).1];exact u9
    ·rw[Sig.set_self _ gv];exact uS
   refine T5 [1,2,3,4,8,9,110] (fun (j:Nat) (out:List aH) (t':Nat) (S3:Sig)=>j<=e.aq.length/\out.length=j/\(if e.op=9/\j=0/\0<e.aq.length then t'=t/\out=[] else out++(anEs P e.op e.text tx old now (e.aq.drop j) j t').1=L.1/\(anEs P e.op e.text tx old now (e.aq.drop j) j t').2=L.2)/\S3 i9=some (.cells [dI e.op,dI e.n,.str (if e.op=9/\j=0 then e.text else tx),.slice (out.map Af) (.tag it)])/\S3 it=some (.tail 4 out.length)/\S3 i8=some (.cells [dI 0,dI 0,.str [],.av])/\Sub (V.set ib (.cells [dI t'])) S3) (fun j _ _ _=>[(11,dI j)]) (fun _ _ _ S3=>S3) (fun j _ _ _=>e.aq.length-j) (0) ([]) (t) (S2) (by exact jC) (fun j out t' S3 hI=>?_);obtain⟨hj,gJ,hR,r9,rt,r8,rS⟩:=hI
   by_cases e7:j<e.aq.length
   ·have gj:S3 ib=some (.cells [dI t']):=rS _ _ (w7 ..);have jL:e.op=9/\0<e.aq.length->e.op=9:=fun h=>h.1;have cS1:∀(l:fP) (x:Str),cS (l++[x])=cS l++[[.str x]]:=fun l x=>by simp[cS]
    by_cases hB:e.op=9/\j=1
    ·obtain⟨c9,rfl⟩:=hB;rw[aQ k0,A0 e7,anEs,aS ⟨c9,rfl⟩]at hR;rw[aQ k0]at r9;obtain⟨hR,fY⟩:=hR;have u9:(S3.out fun j=>j=ib\/j=it) i9=_:=EH r9 (by rintro(h|h);exact n9 h.symm;exact n9t h);have d6:Sub (S3.out fun j=>j=ib\/j=it) S3:=C3 _ _;have iI:=fun o3 o4 τ (hτ:τ ib=some (.cells [dI t']))=>ih (e.aq[1]) (old++[e.text]) (now++[tx]) o3 o4 t' ib τ (by have:=w3 1 e7;omega) (by simp;omega) (by simp;omega) (dy (dy (L8 P _ _ _ _ _ _ _ _) (Nat.le_of_eq fY)) hT) hτ
     simp only[cS1]at iI;refine gf (gi r9 c9) ?_ (kX 16 o75) [8,9];refine G0 (id:=16) [0,1,2,3,4,5,6,8,9,10,12,14,15,16,18,7,11,13,17,19,20,21,22] [7,11,13,17,19,21] (S3.out fun j=>j=ib\/j=it) (C3 _ _) ?_;refine gf u9 ?_ o75 [8,9];refine Kk (fun i4 iM=>?_);have iG:Sub (S3.out fun j=>j=ib\/j=it) (S3.set i4 (.tail 1 (old.length+1))):=d6.set (d6.none iM);refine gz ?_ o75 [8,9];have gF:Sub S3 (S3.set i4 (.tail 1 (old.length+1))):=(Sub.refl _).set iM;generalize S3.set i4 (.tail 1 (old.length+1))=S4 at*;refine Kk (fun i5 iL=>?_);have jc:Sub (S3.out fun j=>j=ib\/j=it) (S4.set i5 (.tail 1 (now.length+1))):=iG.set (iG.none iL);refine gz ?_ o75 [8,9];have d9:Sub S3 (S4.set i5 (.tail 1 (now.length+1))):=gF.set (gF.none iL);generalize S4.set i5 (.tail 1 (now.length+1))=S5 at*;refine C6 (iI _ _ S5 (d9 _ _ gj)) (fun d S6 hx=>?_);obtain⟨gT,rfl⟩:=hx;cases gT;generalize hy:(anE P e.aq[1] (old++[e.text]) (now++[tx]) t').1=y at*;generalize hm:(anE P e.aq[1] (old++[e.text]) (now++[tx]) t').2=m at*
     have gI:Sub (S3.out fun j=>j=ib\/j=it) (S5.set ib (.cells [dI m])):=fun j z hz=>by
      obtain⟨h1,h2⟩:=Ct hz;rw[w8 _ _ fun e=>h2 (.inl e)];exact jc _ _ hz
     have gV:Sub (S3.out fun j=>j=ib\/j=it) ((S5.set ib (.cells [dI m])).set it (.tail 4 (out.length+1))):=fun j z hz=>by
      obtain⟨h1,h2⟩:=Ct hz;rw[w8 _ _ fun e=>h2 (.inr e)];exact gI _ _ hz
     refine⟨gI,?_⟩;simp only[putD];have p4:=d9 _ _ rt;have p9:=d9 _ _ r9;refine gf (gi p4 p9) ?_ o75 [8,9];have f1:(((S5.set ib (.cells [dI m])).set it (.tail 4 (out.length+1))).set i9 (.cells [dI e.op,dI e.n,.str tx,.slice (out.map Af++[Af y]) (.tag it)])) i9=some (.cells [dI e.op,dI e.n,.str tx,.slice ((out++[y]).map Af) (.tag it)]):=by rw[w7];simp
     have f2:(((S5.set ib (.cells [dI m])).set it (.tail 4 (out.length+1))).set i9 (.cells [dI e.op,dI e.n,.str tx,.slice (out.map Af++[Af y]) (.tag it)])) it=some (.tail 4 (out++[y]).length):=by rw[w8 _ _ (aZ n9t),w7,aO];rfl
     have f3:(((S5.set ib (.cells [dI m])).set it (.tail 4 (out.length+1))).set i9 (.cells [dI e.op,dI e.n,.str tx,.slice (out.map Af++[Af y]) (.tag it)])) i8=some (.cells [dI 0,dI 0,.str [],.av]):=by rw[w8 _ _ n89,w8 _ _ n8t,w8 _ _ (aZ n8)];exact d9 _ _ r8
     have f4:Sub (V.set ib (.cells [dI m])) (((S5.set ib (.cells [dI m])).set it (.tail 4 (out.length+1))).set i9 (.cells [dI e.op,dI e.n,.str tx,.slice (out.map Af++[Af y]) (.tag it)])):=((HO (rS.trans d9)).set (k8 (aZ nbt) st)).set (k8 (aZ n9) a2);exact⟨2,out++[y],m,((S5.set ib (.cells [dI m])).set it (.tail 4 (out.length+1))).set i9 (.cells [dI e.op,dI e.n,.str tx,.slice (out.map Af++[Af y]) (.tag it)]),⟨k0,by simp;omega,by rw[aQ fun h=>by omega,bc];exact⟨hR,fY⟩,by rw[aQ fun h=>by omega];exact f1,f2,f3,f4⟩,td1,wkR⟩
    ·by_cases hA:e.op=9/\j=0
     case' pos=>
      obtain⟨c9,gM⟩:=hA;rw[aS ⟨c9,gM,k0⟩]at hR;rw[aS ⟨c9,gM⟩]at r9;obtain⟨iV,fY⟩:=hR;obtain⟨g1,g2,g3⟩:=h9 c9 k0;rw[<-iV]at g1 g2 g3;have i165:∀V:Sig,Ans 165 [dI t'] V True (.str tx):=fun V=>ah0 (by rw[g2];exact WH P t' V g1 hP (gQ _ g1))
      refine gf (gi r9 gj) ?_ (kX 17 o75) [8,9];generalize gb:Sig.set (S3.set i9 _) ib _=S4;have s9:S4 i9=some (.cells [dI e.op,dI e.n,.str tx,.slice (out.map Af) (.tag it)]):=by rw[<-gb,w8 _ _ (aZ n9)];exact w7 ..
      have s4:S4 it=some (.tail 4 out.length):=by rw[<-gb,w8 _ _ (aZ nbt),w8 _ _ (aZ n9t)];exact rt
      have s8:S4 i8=some (.cells [dI 0,dI 0,.str [],.av]):=by rw[<-gb,w8 _ _ (aZ n8),w8 _ _ n89];exact r8
      obtain⟨t4,gG⟩:∃t4:Nat,t4=t'+1:=⟨_,rfl⟩;have sb:S4 ib=some (.cells [dI t4]):=by rw[<-gb,gG];exact w7 ..
      have sS:Sub (V.set ib (.cells [dI t4])) S4:=by
       rw[<-gb,gG];exact HO (rS.set (k8 (aZ n9) a2))
      have iA:out++(anEs P e.op e.text tx old now (e.aq.drop j) j t4).1=L.1/\(anEs P e.op e.text tx old now (e.aq.drop j) j t4).2=L.2:=by rw[gM,dE,gG,<-g3,fY];exact⟨rfl,rfl⟩
      clear gb i165 gM c9 g1 g2 g3 r9 rt r8 rS gj iV fY gG
     case' neg=>
      rw[aQ fun h=>hA ⟨h.1,h.2.1⟩]at hR;rw[aQ hA]at r9
      by_cases c9:e.op=9
      case' pos=>
       have c1:j≠1:=fun h=>hB ⟨c9,h⟩;have c0:j≠0:=fun h=>hA ⟨c9,h⟩;refine gf (gi r9 c9) ?_ (kX 17 o75) [8,9];clear c1 c0
      case' neg=>
       repeat' first|refine gf r9 ?_ (kX 17 o75) [8,9]|apply gy<;>intro hh
      all_goals
       clear c9;obtain⟨S4,rfl⟩:∃x,x=S3:=⟨_,rfl⟩;obtain⟨t4,rfl⟩:∃x,x=t':=⟨_,rfl⟩;have s9:=r9;have s4:=rt;have s8:=r8;have sb:=gj;have sS:=rS;have iA:=hR;clear r9 rt r8 gj rS hR hA
     all_goals
      rw[A0 e7,anEs,aQ hB]at iA;obtain⟨hR,fY⟩:=iA;have u9:(S4.out fun j=>j=ib\/j=it) i9=_:=EH s9 (by rintro(h|h);exact n9 h.symm;exact n9t h);have d6:Sub (S4.out fun j=>j=ib\/j=it) S4:=C3 _ _;refine G0 (id:=17) [0,1,2,3,4,5,6,7,8,9,10,11,12,13] [10,12] (S4.out fun j=>j=ib\/j=it) (C3 _ _) ?_;refine gf u9 ?_ o75 [8,9];refine C6 (ih (e.aq[j]) old now o1 o2 t4 ib S4 (by have:=w3 j e7;omega) k0 jl (dy (dy (L8 P _ _ _ _ _ _ _ _) (Nat.le_of_eq fY)) hT) sb) (fun d S5 hx=>?_);obtain⟨gT,rfl⟩:=hx;cases gT
      have gI:Sub (S4.out fun j=>j=ib\/j=it) (S4.set ib (.cells [dI (anE P e.aq[j] old now t4).2])):=fun j z hz=>by
       obtain⟨h1,h2⟩:=Ct hz;rw[w8 _ _ fun e=>h2 (.inl e)];exact h1
      have gV:Sub (S4.out fun j=>j=ib\/j=it) ((S4.set ib (.cells [dI (anE P e.aq[j] old now t4).2])).set it (.tail 4 (out.length+1))):=fun j z hz=>by
       obtain⟨h1,h2⟩:=Ct hz;rw[w8 _ _ fun e=>h2 (.inr e),w8 _ _ fun e=>h2 (.inl e)];exact h1
      refine⟨gI,?_⟩;simp only[putD];refine gf (gi s4 s9) ?_ o75 [8,9]
      have iv:∀(y:aH) (m:Nat),(((S4.set ib (.cells [dI m])).set it (.tail 4 (out.length+1))).set i9 (.cells [dI e.op,dI e.n,.str tx,.slice (out.map Af++[Af y]) (.tag it)])) i9=some (.cells [dI e.op,dI e.n,.str tx,.slice ((out++[y]).map Af) (.tag it)])/\(((S4.set ib (.cells [dI m])).set it (.tail 4 (out.length+1))).set i9 (.cells [dI e.op,dI e.n,.str tx,.slice (out.map Af++[Af y]) (.tag it)])) it=some (.tail 4 (out++[y]).length)/\(((S4.set ib (.cells [dI m])).set it (.tail 4 (out.length+1))).set i9 (.cells [dI e.op,dI e.n,.str tx,.slice (out.map Af++[Af y]) (.tag it)])) i8=some (.cells [dI 0,dI 0,.str [],.av])/\Sub (V.set ib (.cells [dI m])) (((S4.set ib (.cells [dI m])).set it (.tail 4 (out.length+1))).set i9 (.cells [dI e.op,dI e.n,.str tx,.slice (out.map Af++[Af y]) (.tag it)])):=fun y m=>
       ⟨by rw[w7];simp,by rw[w8 _ _ (aZ n9t),w7,aO];rfl,k8 n89 (k8 n8t (k8 (aZ n8) s8)),((HO sS).set (k8 (aZ nbt) st)).set (k8 (aZ n9) a2)⟩
      obtain⟨f1,f2,f3,f4⟩:=iv (anE P e.aq[j] old now t4).1 (anE P e.aq[j] old now t4).2;exact⟨j+1,out++[(anE P e.aq[j] old now t4).1],(anE P e.aq[j] old now t4).2,((S4.set ib (.cells [dI (anE P e.aq[j] old now t4).2])).set it (.tail 4 (out.length+1))).set i9 (.cells [dI e.op,dI e.n,.str tx,.slice (out.map Af++[Af (anE P e.aq[j] old now t4).1]) (.tag it)]),⟨k0,by simp;omega,by rw[aQ fun h=>by omega,bc];exact⟨hR,fY⟩,by rw[aQ fun h=>by omega];exact f1,f2,f3,f4⟩,td1,wkR⟩
   ·rw[A1 e7,anEs,br]at hR
    have hR:out=L.1/\t'=L.2/\S3 i9=some (.cells [dI e.op,dI e.n,.str tx,.slice (out.map Af) (.tag it)]):=by
     by_cases hA:e.op=9/\j=0
     ·have gL:¬0<e.aq.length:=by omega
      rw[aQ fun h=>gL h.2.2]at hR;rw[aS hA]at r9;have:=(gZ fun h=>gL h.2).1;rw[this];exact⟨hR.1,hR.2,r9⟩
     ·rw[aQ fun h=>hA ⟨h.1,h.2.1⟩]at hR;rw[aQ hA]at r9;exact⟨hR.1,hR.2,r9⟩
    obtain⟨e1,e2,r9⟩:=hR;rw[<-e1,<-e2];refine kO (Ep (az:=[dI e.op,dI e.n,.str tx]) (bs:=[]) (d':=sl (out.map Af)) r9 (AO _ _)) ?_;simp only[bE,bG];have r8':(S3.set i9 (.cells [dI e.op,dI e.n,.str tx,sl (out.map Af)])) i8=some (.cells [dI 0,dI 0,.str [],.av]):=by rw[w8 _ _ n89];exact r8
    have r9':(S3.set i9 (.cells [dI e.op,dI e.n,.str tx,sl (out.map Af)])) i9=some (.cells [dI e.op,dI e.n,.str tx,sl (out.map Af)]):=w7 ..;have rS':Sub (V.set ib (.cells [dI t'])) (S3.set i9 (.cells [dI e.op,dI e.n,.str tx,sl (out.map Af)])):=rS.set (k8 (aZ n9) a2);generalize S3.set i9 (.cells [dI e.op,dI e.n,.str tx,sl (out.map Af)])=S4 at*;refine gf (gi r9' r8') ?_ o75 [8,9];exact lI (U':=V.set ib (.cells [dI t'])) ⟨rfl,rfl⟩ (hw:=by refine B9 ?_;simp[Cl,aH.op,aH.n,aH.text,aH.aq]) (hZ:=rS'.set (k8 (aZ n8) gO))
end
end Go.DL
