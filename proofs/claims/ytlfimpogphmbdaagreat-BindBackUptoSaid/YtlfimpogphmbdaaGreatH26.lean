/- A part of the proof. -/
import Derived.Test.YtlfimpogphmbdaaGreatH25
set_option linter.all false
namespace Go.DL
open Go.Proofs.Tryz
open Go Go.Proofs
set_option maxHeartbeats 8000000
def ixS(l:fP)(n:Int):Str:=(l[n.toNat]?).getD []
def InR(n:Int)(k:Nat):Prop:=0<=n/\n<k
def spC(a b:fP)(c:aE):aJ:=⟨[],c.ap.map (ixS a),c.am.map (ixS b),c.ar.map fun x=>⟨ixS b x.slot,x.n⟩⟩
def ClsIx(A S:Nat)(c:aE):Prop:=(∀x∈c.ap,InR x A)/\(∀x∈c.am,InR x S) /\ ∀x∈c.ar,InR x.slot S
def WX(p:aD)(a b g:fP)(c:aE)(V:Sig)(hc:ClsIx a.length b.length c)(ha:a.length<=1073741824)(hb:b.length<=1073741824)(hw:c.wt<=1073741824):
  aB prog 136 [.agg (kF c),cSp p a b g] V (rS (.agg (kL (spC a b c))) V):=by
 have ju:c.ap.length<=1073741824/\c.am.length<=1073741824/\c.ar.length<=1073741824:=by unfold aE.wt at hw;omega
 obtain⟨c1,c2,c3⟩:=ju;obtain⟨x1,x2,x3⟩:=hc
 have h1:=fun (V:Sig)=>KS c.ap (ixS a) 138 [cSp p a b g] .no V c1 (fun x hx U' _=>by
  obtain⟨h0,h1⟩:=x1 x hx
  obtain⟨n,rfl⟩:∃n:Nat,x=n:=⟨x.toNat,k0⟩
  exact WW p a b g n U' k0 ha)
 have h2:=fun (V:Sig)=>KS c.am (ixS b) 139 [cSp p a b g] .no V c2 (fun x hx U' _=>by
  obtain⟨h0,h1⟩:=x2 x hx
  obtain⟨n,rfl⟩:∃n:Nat,x=n:=⟨x.toNat,k0⟩
  exact WV p a b g n U' k0 hb)
 have h3:=fun (V:Sig)=>WU c.ar (fun x=>⟨ixS b x.slot,x.n⟩) 141 [cSp p a b g] .no V c3 (fun x hx U' _=>by
  obtain⟨s,v⟩:=x
  obtain⟨h0,h1⟩:=x3 _ hx
  obtain⟨n,rfl⟩:∃n:Nat,s=n:=⟨s.toNat,by simp only at h0;omega⟩
  exact WT p a b g n v U' (by simp only at h1;omega) hb)
 refine en func136 ntmps136 ?_;refine gz ?_ o136;refine kR (fun i hi=>?_)
 repeat' first|refine gz ?_|refine moR (h1 _) ?_|refine moP (h1 _) ?_|refine moR (h3 _) ?_|refine moP (h3 _) ?_|refine gz ?_ o136|apply gy<;>intro hh
 repeat' first|refine gz ?_|refine moR (h2 _) ?_|refine moP (h2 _) ?_|refine moR (h3 _) ?_|refine moP (h3 _) ?_|refine gz ?_ o136|apply gy<;>intro hh
 exact lI (U':=V) ⟨rfl,rfl⟩ (hw:=by refine B9 ?_;simp[spC])
mutual
def FIx(A S P:Nat):kA->Prop
 |.mk o g p c _ k=>(∀x∈p,InR x S)/\(o=2->InR c A)/\(o=2\/o=3\/o=4->InR g P)/\FIxs A S P k
def FIxs(A S P:Nat):List kA->Prop
 |[]=>True
 |x::r=>FIx A S P x/\FIxs A S P r
end
def JM{A S P:Nat}: ∀{l:List kA},FIxs A S P l->∀x∈l,FIx A S P x
 |[],_,x,hx=>by simp at hx
 |y::r,h,x,hx=>by
  rw[FIxs]at h;rcases be.1 hx with rfl|hx
  ·exact h.1
  ·exact JM h.2 x hx
mutual
def spF(a b P:fP):kA->aI
 |.mk o g p c n k=>.mk o (if o=2\/o=3\/o=4 then ixS P g else []) (p.map (ixS b)) (if o=2 then ixS a c else []) n (spFs a b P k)
def spFs(a b P:fP):List kA->List aI
 |[]=>[]
 |x::r=>spF a b P x::spFs a b P r
end
def R3(a b P:fP): ∀l,spFs a b P l=l.map (spF a b P)
 |[]=>by rw[spFs];rfl
 |x::r=>by rw[spFs,R3 a b P r];rfl
def spF_eq(a b P:fP)(f:kA):spF a b P f=.mk f.op (if f.op=2\/f.op=3\/f.op=4 then ixS P f.arg else []) (f.path.map (ixS b)) (if f.op=2 then ixS a f.cls else []) f.n (f.aq.map (spF a b P)):=by
 cases f;rw[spF,R3];rfl
def Ev{l:fP}{n:Int}(h:InR n l.length): ∃k:Nat,n=k /\ ∃hk:k<l.length,ixS l n=l[k]:=by
 obtain⟨h0,h1⟩:=h;refine⟨n.toNat,k0,k0,?_⟩;unfold ixS;rw[aT k0];rfl
def WR(p:aD)(a b g P:fP)(ha:a.length<=1073741824)(hb:b.length<=1073741824)(hP:P.length<=1073741824): ∀(n:Nat) (f:kA) (o:Own) (V:Sig),f.wt<=n->n<=1073741824->FIx a.length b.length P.length f->
  aB prog 143 [.aw [sl (p.ak.map kF),dI p.am,sl (cI p.au),sl (p.k9.map Av),sl (p.kC.map Ai),dI p.kH,sl (cS a),sl (cS b),sl (cS g)] 0,.agg (Bp f),.slice (cS P) o] V (rS (.agg (AE (spF a b P f))) V):=by
 intro n
 induction n with
 |zero=>
  intro f o V hx;have:=f.wt_pos;omega
 | succ n ih =>
  intro f o V hx hn hI;obtain⟨w1,w2,iD⟩:=f.wt_le;have ja:f.path.length<=1073741824:=by omega
  obtain⟨i1,i2,i3,i4⟩:(∀x∈f.path,InR x b.length)/\(f.op=2->InR f.cls a.length)/\(f.op=2\/f.op=3\/f.op=4->InR f.arg P.length)/\FIxs a.length b.length P.length f.aq:=by cases f;rw[FIx]at hI;exact hI
  have gZ:=spF_eq a b P f;have gE:D.aw [.aw [sl (p.ak.map kF),dI p.am,sl (cI p.au),sl (p.k9.map Av),sl (p.kC.map Ai),dI p.kH,sl (cS a),sl (cS b),sl (cS g)] 0] 0=cSp p a b g:=rfl
  have iW:=fun (V:Sig)=>KS f.path (ixS b) 216 [cSp p a b g] .no V ja (fun x hx U' _=>by
   obtain⟨k,rfl,hk,_⟩:=Ev (i1 x hx)
   exact Wa p a b g k U' hk hb)
  have iV:∀x∈f.aq, ∀U',aB prog 218 ([]++[.agg (Bp x)]++[cSp p a b g,.aw [.slice (cS P) o] 0]) U' fun r S''=>r=.ret (.agg (AE (spF a b P x)))/\S''=U':=fun x hx U'=>by
   have gY:=ih x o U' (by obtain⟨k,hk,rfl⟩:=bm hx;have:=iD k hk;omega) k0 (JM i4 x hx);have jO:cSp p a b g=.aw [.aw [sl (p.ak.map kF),dI p.am,sl (cI p.au),sl (p.k9.map Av),sl (p.kC.map Ai),dI p.kH,sl (cS a),sl (cS b),sl (cS g)] 0] 0:=rfl;rw[jO];refine en func218 ntmps218 ?_;refine gz ?_;refine kR (fun i hi=>?_)
   repeat' first|refine gz ?_|refine Au (ih x o _ (by obtain⟨k,hk,rfl⟩:=bm hx;have:=iD k hk;omega) k0 (JM i4 x hx)) ?_|refine callP (ih x o _ (by obtain⟨k,hk,rfl⟩:=bm hx;have:=iD k hk;omega) k0 (JM i4 x hx)) ?_|refine gz ?_|apply gy<;>intro hh
   exact lI (U':=U') ⟨rfl,rfl⟩
  have e7:=fun (V:Sig)=>W9 f.aq (spF a b P) 218 [cSp p a b g,.aw [.slice (cS P) o] 0] .no V k0 (fun x hx U' _=>iV x hx U');refine en func143 ntmps143 ?_;refine gz ?_ o143;refine kR (fun i6 d6=>?_);refine gz ?_ (kX 1 o143);refine mixL (id:=1) [0,1,2,3,4,5,6,7,8,9] [9] ?_;refine gz ?_ o143;refine Yr (fun U' _=>(iW U').mono fun x S'' hx=>⟨hx.1,hx.2 ▸ Sub.refl _⟩) ?_;refine gz ?_ o143;refine Ow (fun i7 gI=>?_);have n67:i6≠i7:=fun e=>by rw[<-e,w7]at gI;cases gI
  by_cases h2:f.op=2
  ·obtain⟨k,hk,gk,gO⟩:=Ev (i3 (.inl h2));obtain⟨k',ji,jH,iO⟩:=Ev (i2 h2)
   repeat' first|refine gf (gi h2 (gi hk ji)) ?_|refine Au (e7 _) ?_|refine callP (e7 _) ?_|refine gf (gi h2 (gi hk ji)) ?_ o143|apply gy<;>intro hh
   exact lI (U':=V) ⟨rfl,rfl⟩ (hZ:=(((Sub.refl _).set d6).set (A8 gI).2).set d6) (hw:=by rw[gZ];refine B9 ?_;simp[Cp,aI.op,aI.name,aI.path,aI.cls,aI.n,aI.aq,h2,gO,iO])
  by_cases h3:f.op=3
  ·obtain⟨k,hk,gk,gO⟩:=Ev (i3 (.inr (.inl h3)))
   repeat' first|refine gf (gi h3 hk) ?_|refine Au (e7 _) ?_|refine callP (e7 _) ?_|refine gf (gi h3 hk) ?_ o143|apply gy<;>intro hh
   exact lI (U':=V) ⟨rfl,rfl⟩ (hZ:=(((Sub.refl _).set d6).set (A8 gI).2).set d6) (hw:=by rw[gZ];refine B9 ?_;simp[Cp,aI.op,aI.name,aI.path,aI.cls,aI.n,aI.aq,h3,gO])
  by_cases h4:f.op=4
  ·obtain⟨k,hk,gk,gO⟩:=Ev (i3 (.inr (.inr h4)))
   repeat' first|refine gf (gi h4 hk) ?_|refine Au (e7 _) ?_|refine callP (e7 _) ?_|refine gf (gi h4 hk) ?_ o143|apply gy<;>intro hh
   exact lI (U':=V) ⟨rfl,rfl⟩ (hZ:=(((Sub.refl _).set d6).set (A8 gI).2).set d6) (hw:=by rw[gZ];refine B9 ?_;simp[Cp,aI.op,aI.name,aI.path,aI.cls,aI.n,aI.aq,h4,gO])
  repeat' first|refine gf (gi h2 (gi h3 h4)) ?_|refine Au (e7 _) ?_|refine callP (e7 _) ?_|refine gf (gi h2 (gi h3 h4)) ?_ o143|apply gy<;>intro hh
  exact lI (U':=V) ⟨rfl,rfl⟩ (hZ:=(((Sub.refl _).set d6).set (A8 gI).2).set d6) (hw:=by rw[gZ];refine B9 ?_;simp[Cp,aI.op,aI.name,aI.path,aI.cls,aI.n,aI.aq,h2,h3,h4])
def D0(f:Int->fP->Nat->aH×Nat)(op:Int)(txt:Str)(env:fP):Nat->fR->Nat->List aH×Nat
 |_,[],t=>([],t)
 |j,c::r,t=>((f c (if op=9/\j=1 then env++[txt] else env) t).1::(D0 f op txt env (j+1) r (f c (if op=9/\j=1 then env++[txt] else env) t).2).1,(D0 f op txt env (j+1) r (f c (if op=9/\j=1 then env++[txt] else env) t).2).2)
def Es(a b g P:fP)(x:aG)(env:fP)(t:Nat):Str:=
 if x.op=3 then ixS env x.n else if x.op=4\/x.op=7 then ixS b x.n else if x.op=5 then ixS g x.n else if x.op=6\/x.op=8 then ixS a x.n else if x.op=9 then ixS P t else []
def spE(p:aD)(a b g P:fP):Nat->Int->fP->Nat->aH×Nat
 |0,_,_,t=>(.mk 0 0 [] [],t)
 | k+1,node,env,t=>(.mk (Ao p node).op (if (Ao p node).op=1 then (Ao p node).n else 0) (Es a b g P (Ao p node) env t)
   (D0 (spE p a b g P k) (Ao p node).op (Es a b g P (Ao p node) env t) env 0 (Ao p node).aq (if(Ao p node).op=9 then t+1 else t)).1,
   (D0 (spE p a b g P k) (Ao p node).op (Es a b g P (Ao p node) env t) env 0 (Ao p node).aq (if(Ao p node).op=9 then t+1 else t)).2)
def Gd{f:Int->fP->Nat->aH×Nat}{op:Int}{txt:Str}{env:fP}(hf:∀c e t,t<=(f c e t).2): ∀(j:Nat) (l:fR) (t:Nat),t<=(D0 f op txt env j l t).2
 |_,[],_=>bn _
 |j,c::r,t=>by rw[D0];exact dy (hf _ _ _) (Gd hf (j+1) r _)
def J3(p:aD)(a b g P:fP): ∀(k:Nat) (node:Int) (env:fP) (t:Nat),t<=(spE p a b g P k node env t).2
 |0,_,_,_=>bn _
 |k+1,node,env,t=>by
  rw[spE];refine dy ?_ (Gd (J3 p a b g P k) _ _ _);split<;>omega
def okE(p:aD):Nat->Int->Nat->Prop
 |0,_,_=>False
 |k+1,node,size=>InR node p.kC.length/\BI p (Ao p node) size=true /\ ∀(j:Nat) (h:j<(Ao p node).aq.length),okE p k ((Ao p node).aq[j]) (if(Ao p node).op=9/\j=1 then size+1 else size)
def cSp0(p:aD)(a b c:fP):D:=.aw [sl (p.ak.map kF),dI p.am,sl (cI p.au),sl (p.k9.map Av),sl (p.kC.map Ai),dI p.kH,sl (cS a),sl (cS b),sl (cS c)] 0
def HO{a b:Sig}{i:Nat}{c c':kM}(h:Sub (a.set i c) b):Sub (a.set i c') (b.set i c'):=fun k z hk=>by
 by_cases gw:k=i
 ·subst gw;rw[w7]at hk⊢; exact hk
 ·rw[w8 _ _ gw]at hk⊢; exact h k z (k8 gw hk)
def Pr(p:aD)(a b g P:fP)(hp:p.wt<=1073741824)(ha:a.length=3+p.ak.length)(jZ:a.length<=1073741824)(hb:(b.length:Int)=p.am)(jY:b.length<=1073741824)(hg:g.length=p.au.length)(hP:P.length<=1073741824): ∀(k:Nat) (node:Int) (env:fP) (o:Own) (t ib:Nat) (V:Sig),okE p k node env.length->env.length+k<=1073741824->(spE p a b g P k node env t).2<=P.length->V ib=some (.cells [cSp0 p a b g,sl (cS P),dI t])->
  aB prog 144 [.ptr ib 0,dI node,.slice (cS env) o] V fun x U'=>x=.ret (.agg (Af (spE p a b g P k node env t).1))/\U'=V.set ib (.cells [cSp0 p a b g,sl (cS P),dI (spE p a b g P k node env t).2]):=by
 obtain⟨p1,p2,p3,p4,p5,p6,p7⟩:=p.wt_le;intro k
 induction k with
 |zero=>intro node env o t ib V h;exact h.elim
 | succ k ih =>
  intro node env o t ib V jb jU hT iq;rw[okE]at jb;obtain⟨⟨h0,hq⟩,gM,gv⟩:=jb;obtain⟨q,rfl⟩:∃q:Nat,node=(q:Int):=⟨node.toNat,k0⟩;have hq:q<p.kC.length:=by omega
  have jD:Ao p q=p.kC[q]:=by unfold Ao;rw[show((q:Int)).toNat=q by omega,aT hq];rfl
  rw[spE]at hT⊢;rw[jD]at hT gM gv⊢;generalize hx:p.kC[q]=x at*
  have jR:x.aq.length<=1073741824:=by
   have:=p7 q hq;rw[hx]at this;have jS:x.wt=1+x.aq.length:=rfl;omega
  generalize hL:D0 (spE p a b g P k) x.op (Es a b g P x env t) env 0 x.aq (if x.op=9 then t+1 else t)=L at*;have jx:(if x.op=9 then t+1 else t)<=L.2:=by rw[<-hL];exact Gd (J3 p a b g P k) _ _ _
  have gE:cSp0 p a b g=.aw [sl (p.ak.map kF),dI p.am,sl (cI p.au),sl (p.k9.map Av),sl (p.kC.map Ai),dI p.kH,sl (cS a),sl (cS b),sl (cS g)] 0:=rfl;have r3:x.op=3->InR x.n env.length:=fun h=>by simpa[BI,h,InR] using gM
  have r47:x.op=4\/x.op=7->InR x.n b.length:=fun h=>by rcases h with h|h<;>simpa[BI,h,InR,hb] using gM
  have r5:x.op=5->InR x.n g.length:=fun h=>by simpa[BI,h,InR,hg] using gM
  have r68:x.op=6\/x.op=8->InR x.n a.length:=fun h=>by
   have:3<=x.n/\x.n<3+p.ak.length:=by rcases h with h|h<;>simpa[BI,h] using gM
   exact⟨k0,k0⟩
  have r9:x.op=9->t<P.length:=fun h=>by rw[aS h]at jx;omega
  refine en func144 ntmps144 ?_
  try refine gz ?_ o144 [6,8]
  refine kR (fun i6 d6=>?_);have n6:ib≠i6:=A3 iq d6
  try refine gf (gi iq (gi hx gE)) ?_ o144 [6,8]
  refine kR (fun i8 gH=>?_);have n68:i6≠i8:=fun e=>by rw[<-e,w7]at gH;cases gH
  have n8:ib≠i8:=A3 iq (A8 gH).2;generalize gQ:V.set i6 (.cells [dI 0,dI 0,.str [],.av])=S1;have d9:S1 ib=some (.cells [cSp0 p a b g,sl (cS P),dI t]):=by rw[<-gQ,w8 _ _ n6];exact iq
  have d7:∀(tx:Str) (m:Int),m=(if x.op=1 then x.n else 0)->tx=Es a b g P x env t->¬x.op=9->Sub ((S1.set i8 (.cells [dI x.op,dI (if x.op=1 then x.n else 0),.str (Es a b g P x env t),.av])).set ib (.cells [cSp0 p a b g,sl (cS P),dI (if x.op=9 then t+1 else t:Nat)])) (S1.set i8 (.cells [dI x.op,dI m,.str tx,.av])):=fun tx m h1 h2 h3=>by
   rw[h1,h2,aQ h3,Sig.set_self _ (k8 n8 d9)];exact Sub.refl _
  repeat ((fail_if_success (first|(refine ky (x1:=.seq _ (.block 0 _)) [] ((S1.set i8 (.cells [dI x.op,dI (if x.op=1 then x.n else 0),.str (Es a b g P x env t),.av])).set ib (.cells [cSp0 p a b g,sl (cS P),dI (if x.op=9 then t+1 else t:Nat)])) ?_ (fun _ hK=>?_))|fail));(refine goX1 trivial ?_))
  refine ky (x1:=.seq _ (.block 0 _)) [] ((S1.set i8 (.cells [dI x.op,dI (if x.op=1 then x.n else 0),.str (Es a b g P x env t),.av])).set ib (.cells [cSp0 p a b g,sl (cS P),dI (if x.op=9 then t+1 else t:Nat)])) ?_ (fun _ hK=>?_)
  ·generalize (if x.op=1 then x.n else 0)=num at*;generalize e8:Es a b g P x env t=txt at*;generalize (if x.op=9 then t+1 else t)=t0 at*;refine Bt i8 3 4 (ds:=[dI x.op,dI num,.str txt,.av]) (k8 (aZ n8) (w7 ..)) rfl fun it gx=>?_;have fY:S1 it=none:=(A8 (A8 gx).2).2;have nbt:ib≠it:=A3 d9 fY;have n8t:i8≠it:=fun e=>by have:=(A8 gx).2;rw[<-e,w7]at this;cases this
   generalize gP:Sig.set (Sig.set (Sig.set _ ib _) it _) i8 _=S2;have q8:S2 i8=some (.cells [dI x.op,dI num,.str txt,.slice (([]:List aH).map Af) (.tag it)]):=by rw[<-gP];exact w7 ..
   have qt:S2 it=some (.tail 4 ([]:List aH).length):=by rw[<-gP,w8 _ _ (aZ n8t)];exact w7 ..
   have qS:Sub (V.set ib (.cells [cSp0 p a b g,sl (cS P),dI t0])) S2:=by
    rw[<-gP,<-gQ];refine Sub.set (Sub.set ?_ ?_) ?_
    ·refine Sub.both ((((Sub.refl _).set d6)).set (A8 gH).2)
    ·rw[w8 _ _ (aZ nbt)];rw[<-gQ]at fY;exact(A8 fY).2
    ·rw[w8 _ _ (aZ n8)];exact(A8 gH).2
   have s8:V i8=none:=(A8 gH).2;have st:V it=none:=by rw[<-gQ]at fY;exact(A8 fY).2
   have fZ:S1 i6=some (.cells [dI 0,dI 0,.str [],.av]):=by rw[<-gQ];exact w7 ..
   have n6t:i6≠it:=A3 fZ fY;have s6:V i6=none:=d6;have q6:S2 i6=some (.cells [dI 0,dI 0,.str [],.av]):=by rw[<-gP,w8 _ _ n68,w8 _ _ n6t,w8 _ _ (aZ n6),w8 _ _ n68];exact fZ
   clear gP d7 gx
   try refine gf q8 ?_ o144 [6,8]
   refine T5 [0,2,6,7,8,106,107,137] (fun (j:Nat) (out:List aH) (t':Nat) (S3:Sig)=>j<=x.aq.length/\out.length=j/\out++(D0 (spE p a b g P k) x.op txt env j (x.aq.drop j) t').1=L.1/\(D0 (spE p a b g P k) x.op txt env j (x.aq.drop j) t').2=L.2/\S3 i8=some (.cells [dI x.op,dI num,.str txt,.slice (out.map Af) (.tag it)])/\S3 it=some (.tail 4 out.length)/\S3 i6=some (.cells [dI 0,dI 0,.str [],.av])/\Sub (V.set ib (.cells [cSp0 p a b g,sl (cS P),dI t'])) S3) (fun j _ _ _=>[(108,dI j)]) (fun _ _ _ S3=>S3) (fun j _ _ _=>x.aq.length-j) (0) ([]) (t0) (S2) (by exact⟨k0,rfl,by rw[<-hL];rfl,by rw[<-hL];rfl,q8,qt,q6,qS⟩) (fun j out t' S3 hI=>?_);obtain⟨hj,jV,hR,gB,o8,ot,o6,oS⟩:=hI
   by_cases iK:j<x.aq.length
   ·rw[A0 iK,D0]at hR gB;have gw:=gv j iK;have jB:out.length+1=j+1:=by omega
    have gD:S3 ib=some (.cells [cSp0 p a b g,sl (cS P),dI t']):=oS _ _ (w7 ..);have u8:(S3.out fun j=>j=ib\/j=it) i8=_:=EH o8 (by rintro(h|h);exact n8 h.symm;exact n8t h);have nt':it≠ib:=aZ nbt;have nt8:it≠i8:=aZ n8t;have n8':i8≠ib:=aZ n8;have gR:=hT;rw[<-gB]at gR
    have gG:∀{c:kM} (τ:Sig),Sub S3 τ->Sub (S3.out fun j=>j=ib\/j=it) (τ.set ib c):=fun τ hτ j z hz=>by
     obtain⟨h1,h2⟩:=Ct hz;rw[w8 _ _ fun e=>h2 (.inl e)];exact hτ _ _ h1
    have gg:∀{c:kM} (τ:Sig),Sub S3 τ->Sub (S3.out fun j=>j=ib\/j=it) ((τ.set ib c).set it (.tail 4 (out.length+1))):=fun τ hτ j z hz=>by
     obtain⟨h1,h2⟩:=Ct hz;rw[w8 _ _ fun e=>h2 (.inr e)];exact gG τ hτ _ _ hz
    have gK:∀(e:aH) (c:kM) (τ:Sig),Sub S3 τ->(((τ.set ib c).set it (.tail 4 (out.length+1))).set i8 (.cells [dI x.op,dI num,.str txt,.slice ((out++[e]).map Af) (.tag it)])) it=some (.tail 4 (out++[e]).length)/\(((τ.set ib c).set it (.tail 4 (out.length+1))).set i8 (.cells [dI x.op,dI num,.str txt,.slice ((out++[e]).map Af) (.tag it)])) i6=some (.cells [dI 0,dI 0,.str [],.av])/\Sub (V.set ib c) (((τ.set ib c).set it (.tail 4 (out.length+1))).set i8 (.cells [dI x.op,dI num,.str txt,.slice ((out++[e]).map Af) (.tag it)])):=fun e c τ hτ=>
     ⟨by rw[w8 _ _ nt8,w7,aO];rfl,k8 n68 (k8 n6t (k8 (aZ n6) (hτ _ _ o6))),((HO (oS.trans hτ)).set (k8 nt' st)).set (k8 n8' s8)⟩
    by_cases c91:x.op=9/\j=1
    ·rw[aS c91]at hR gB gw gR;obtain⟨c9,rfl⟩:=c91;have jM:cS (env++[txt])=cS env++[[.str txt]]:=by simp[cS]
     try refine gf o8 ?_ (kX 25 o144) [6,8]
     refine UZ (fun i4 gA=>?_);have nib4:ib≠i4:=A3 gD gA;have nt4:it≠i4:=A3 ot gA;have n84:i8≠i4:=A3 o8 gA;have gT:Sub S3 (S3.set i4 (.tail (tab 9).size ((cS env).length+[[D.str txt]].length))):=(Sub.refl _).set gA;have iL:(S3.set i4 (.tail (tab 9).size ((cS env).length+[[D.str txt]].length))) ib=some (.cells [cSp0 p a b g,sl (cS P),dI t']):=by rw[w8 _ _ nib4];exact gD
     have jy:(S3.set i4 (.tail (tab 9).size ((cS env).length+[[D.str txt]].length))) it=some (.tail 4 out.length):=by rw[w8 _ _ nt4];exact ot
     have jP:(S3.set i4 (.tail (tab 9).size ((cS env).length+[[D.str txt]].length))) i8=_:=(w8 _ _ n84).trans o8;generalize S3.set i4 (.tail (tab 9).size ((cS env).length+[[D.str txt]].length))=S4 at*
     try refine gz ?_ (kX 25 o144) [6,8]
     refine G0 (id:=25) [0,1,2,3,4,5,6,7,8] [5,7] (S3.out fun j=>j=ib\/j=it) ((C3 _ _).trans gT) ?_;have iZ:=(C3 S3 fun j=>j=ib\/j=it).trans gT
     try refine gf u8 ?_ o144 [6,8]
     have jl:=ih (x.aq[1]) (env++[txt]) .no t' ib S4 (by simpa using gw) (by simp;omega) (dy (Gd (J3 p a b g P k) _ _ _) gR) iL;rw[jM]at jl;refine C6 jl (fun d S5 hx=>?_);obtain⟨gC,rfl⟩:=hx;cases gC;refine⟨gG _ gT,?_⟩;simp only[putD];have gu:=gg (c:=.cells [cSp0 p a b g,sl (cS P),dI (spE p a b g P k x.aq[1] (env++[txt]) t').2]) _ gT
     try refine gf (gi jy jP) ?_ o144 [6,8]
     have d8:=gK (spE p a b g P k x.aq[1] (env++[txt]) t').1 (.cells [cSp0 p a b g,sl (cS P),dI (spE p a b g P k x.aq[1] (env++[txt]) t').2]) S4 gT;exact⟨2,out++[(spE p a b g P k x.aq[1] (env++[txt]) t').1],(spE p a b g P k x.aq[1] (env++[txt]) t').2,((S4.set ib (.cells [cSp0 p a b g,sl (cS P),dI (spE p a b g P k x.aq[1] (env++[txt]) t').2])).set it (.tail 4 (out.length+1))).set i8 (.cells [dI x.op,dI num,.str txt,.slice ((out++[(spE p a b g P k x.aq[1] (env++[txt]) t').1]).map Af) (.tag it)]),⟨k0,by simp;omega,by rw[bc];exact hR,gB,w7 .., d8.1,d8.2.1,d8.2.2⟩,td1,wkR⟩
    ·rw[aQ c91]at hR gB gw gR
     repeat' first|refine gf o8 ?_ (kX 25 o144) [6,8]|apply gy<;>intro hh
     all_goals
      refine G0 (id:=25) [0,1,2,3,4,5,6,7,8] [5,7] (S3.out fun j=>j=ib\/j=it) (C3 _ _) ?_
      try refine gf u8 ?_ o144 [6,8]
      refine C6 (ih (x.aq[j]) env o t' ib S3 gw k0 (dy (Gd (J3 p a b g P k) _ _ _) gR) gD) (fun d S5 hx=>?_);obtain⟨gC,rfl⟩:=hx;cases gC;refine⟨gG _ (Sub.refl _),?_⟩;simp only[putD];have gu:=gg (c:=.cells [cSp0 p a b g,sl (cS P),dI (spE p a b g P k x.aq[j] env t').2]) _ (Sub.refl S3)
      try refine gf (gi ot o8) ?_ o144 [6,8]
      have d8:=gK (spE p a b g P k x.aq[j] env t').1 (.cells [cSp0 p a b g,sl (cS P),dI (spE p a b g P k x.aq[j] env t').2]) S3 (Sub.refl _);exact⟨j+1,out++[(spE p a b g P k x.aq[j] env t').1],(spE p a b g P k x.aq[j] env t').2,((S3.set ib (.cells [cSp0 p a b g,sl (cS P),dI (spE p a b g P k x.aq[j] env t').2])).set it (.tail 4 (out.length+1))).set i8 (.cells [dI x.op,dI num,.str txt,.slice ((out++[(spE p a b g P k x.aq[j] env t').1]).map Af) (.tag it)]),⟨k0,by simp;omega,by rw[bc];exact hR,gB,w7 .., d8.1,d8.2.1,d8.2.2⟩,td1,wkR⟩
   ·have jX:j=x.aq.length:=by omega
    rw[A1 iK,D0]at hR gB;rw[br]at hR;rw[<-hR,<-gB];refine kO (Ep (az:=[dI x.op,dI num,.str txt]) (bs:=[]) (d':=sl (out.map Af)) o8 (AO _ _)) ?_
    try refine gf o6 ?_ o144 [6,8]
    exact lI (U':=V.set ib (.cells [cSp0 p a b g,sl (cS P),dI t'])) ⟨rfl,rfl⟩ (hw:=by refine B9 ?_;simp[Cl,aH.op,aH.n,aH.text,aH.aq]) (hZ:=(oS.set (k8 (aZ n8) s8)).set (k8 (aZ n6) s6))
  ·repeat' first|refine gz ?_ o144 [6,8]|apply gy<;>intro hh
   ·have c:x.op=1:=by assumption
    exact kO (Aw (by first|(simp;done)|(simp_all;done)) (d7 _ _ (by simp[c]) (by simp[Es,c]) k0)) hK
   ·have c:x.op=3:=by assumption
    obtain⟨m,hm,gN,fX⟩:=Ev (r3 c)
    try refine gf hm ?_ o144 [6,8]
    exact kO (Aw (by first|(simp;done)|(simp_all;done)) (d7 _ _ (by simp[c]) (by simp[Es,c,fX]) k0)) hK
   ·have c:x.op=4:=by assumption
    obtain⟨m,hm,gN,fX⟩:=Ev (r47 (.inl c))
    try refine gf (gi hm (gi d9 gE)) ?_ o144 [6,8]
    exact kO (Aw (by first|(simp;done)|(simp_all;done)) (d7 _ _ (by simp[c]) (by simp[Es,c,fX]) k0)) hK
   ·have c:x.op=7:=by assumption
    obtain⟨m,hm,gN,fX⟩:=Ev (r47 (.inr c))
    try refine gf (gi hm (gi d9 gE)) ?_ o144 [6,8]
    exact kO (Aw (by first|(simp;done)|(simp_all;done)) (d7 _ _ (by simp[c]) (by simp[Es,c,fX]) k0)) hK
   ·have c:x.op=5:=by assumption
    obtain⟨m,hm,gN,fX⟩:=Ev (r5 c)
    try refine gf (gi hm (gi d9 gE)) ?_ o144 [6,8]
    exact kO (Aw (by first|(simp;done)|(simp_all;done)) (d7 _ _ (by simp[c]) (by simp[Es,c,fX]) k0)) hK
   ·have c:x.op=6:=by assumption
    obtain⟨m,hm,gN,fX⟩:=Ev (r68 (.inl c))
    try refine gf (gi hm (gi d9 gE)) ?_ o144 [6,8]
    exact kO (Aw (by first|(simp;done)|(simp_all;done)) (d7 _ _ (by simp[c]) (by simp[Es,c,fX]) k0)) hK
   ·have c:x.op=8:=by assumption
    obtain⟨m,hm,gN,fX⟩:=Ev (r68 (.inr c))
    try refine gf (gi hm (gi d9 gE)) ?_ o144 [6,8]
    exact kO (Aw (by first|(simp;done)|(simp_all;done)) (d7 _ _ (by simp[c]) (by simp[Es,c,fX]) k0)) hK
   ·have c:x.op=9:=by assumption
    have ht:=r9 c;have fX:ixS P t=P[t]:=by unfold ixS;rw[show((t:Int)).toNat=t by omega,aT ht];rfl
    try refine gf d9 ?_ o144 [6,8]
    refine kO (Aw k7 (BG ?_)) hK;simp[Es,c,fX]
   ·exact kO (Aw (by first|(simp;done)|(simp_all;done)) (d7 _ _ (by simp[*]) (by simp[Es, *]) (by assumption))) hK
def RowW(U':Sig)(es:fV)(E:D):MR->Prop
 |none=>E=.slice [] .clip/\es=[]
 |some (r,_,rest)=>E=.ax r 0 es.length es.length/\U' r=some (.cells (es.flatten++rest))
def Tx(st:MR)(es:fV)(V:Sig)(hr:lS V 4 st es)(hn:es.length<=1073741824):aB prog 214 [mD st es.length] V fun x U'=>(∃E,x=.ret E/\RowW V es E st)/\U'=V:=by
 cases st with
 |none=>
  have he:es=[]:=hr;subst he
  show aB prog 214 [.av] V _;refine en func214 ntmps214 ?_
  try refine gz ?_
  exact kE (U':=V) ⟨⟨_,rfl,rfl,rfl⟩,rfl⟩
 |some x=>
  obtain⟨r,cap,rest⟩:=x;obtain⟨h1,h2,h3,h4⟩:=hr
  show aB prog 214 [.ax r 0 es.length cap] V _;refine en func214 ntmps214 ?_
  try refine gz ?_
  refine TY Ag (off:=0) (m:=es.length) (cap:=cap) ?_ (by decide) (by simp<;>rfl) k7 rfl rfl rfl (bn _) h3
  try refine gz ?_
  exact kE (U':=V) ⟨⟨_,rfl,rfl,h1⟩,rfl⟩
def TJ(l:List aE)(h:aE->aJ)(g:Nat)(cap:fQ)(o:Own)(V:Sig)(hl:l.length<=1073741824)
  (hg:∀x∈l, ∀U',Sub V U'->aB prog g ([]++[.agg (kF x)]++cap) U' fun r S''=>r=.ret (.agg (kL (h x)))/\S''=U') :
  aB prog 135 [.slice (l.map kF) o,.func (.func g) [] cap] V fun x U'=> ∃E st,x=.ret E/\RowW U' ((l.map h).map kL) E st/\Sub V U' /\ ∀j x,V j=some x->¬Cf st j:=by
 refine en func135 ntmps135 ?_
 try refine gz ?_
 refine Yy [1,4,8,9,21,22] (fun (k:Nat) (out:List aJ) (E:D) (st:MR) (S1:Sig)=>k<=l.length/\out++(l.drop k).map h=l.map h/\E=mD st out.length/\lS S1 4 st (out.map kL)/\Sub V S1 /\ ∀j x,V j=some x->¬Cf st j) (fun k _ E _ _=>[(10,dI k),(5,E)]) (fun _ _ _ _ S1=>S1) (fun k _ _ _ _=>l.length-k) (0) ([]) (.av) (none) (V) (by exact⟨k0,rfl,rfl,rfl,Sub.refl _,fun _ _ _=>id⟩) (fun k out E st S1 hI=>?_);obtain⟨hk,hR,rfl,ga,hS,hN⟩:=hI;have hlen:=cf List.length hR;simp at hlen
 by_cases hh:k<l.length
 ·rw[A0 hh]at hR
  repeat' first|refine Au (hg (l[k]) (aR hh) _ hS) ?_|refine callP (hg (l[k]) (aR hh) _ hS) ?_|refine gf hh ?_|apply gy<;>intro hh
  refine rapp (es:=out.map kL) (fun st2 S2 g7 jh=>?_) (hm:=ga)
  try refine gz ?_
  exact⟨k+1,out++[h l[k]],mD st2 (out++[h l[k]]).length,st2,S2,⟨k0,by rw[bc];exact hR,rfl,by rw[bL];exact g7,fun j x hj=>(jh _ _ (hS _ _ hj) (hN _ _ hj)).1,fun j x hj=>(jh _ _ (hS _ _ hj) (hN _ _ hj)).2⟩,td1,wkR⟩
 ·try refine gf hh ?_
  rw[A1 hh]at hR;simp at hR;have gX:=Tx st (out.map kL) S1 ga (by rw[aY];omega);rw[aY]at gX;refine Ad gX (fun d S2 hr=>?_) (fun d S2 hr=>by obtain⟨⟨_,h,_⟩,_⟩:=hr;cases h);obtain⟨⟨E,e1,hW⟩,rfl⟩:=hr;cases e1
  try refine gz ?_
  exact kE (U':=S2) ⟨d,st,rfl,by rw[<-hR];exact hW,hS,hN⟩
def Ax(n:Nat):(freshN n).length=n:=by unfold freshN;rw[M2];simp
def spA(p:aD):fP:=[wAny,wInt,Gc]++freshN p.ak.length
def spS(p:aD):fP:=freshN p.am.toNat
def spG(p:aD):fP:=freshN p.au.length
def spL(p:aD):fP:=freshN (p.kC.length+3)
def Ci(p:aD)(m:aF):Nat:=(p.au.getD m.gen.toNat 0).toNat
def spM(p:aD)(m:aF):aK:=⟨m.kind,ixS (spG p) m.gen,(spL p).take (Ci p m),spF (spA p) (spS p) ((spL p).take (Ci p m)) m.kJ,(spE p (spA p) (spS p) (spG p) (spL p) 12 m.node ((spL p).take (Ci p m)) (Ci p m)).1⟩
def kw(p:aD):List aJ:=(p.ak.zip (freshN p.ak.length)).map fun x=>{ spC (spA p) (spS p) x.1 with name:=x.2 }
def Ay(p:aD):aL:=⟨kw p,p.k9.map (spM p),(spE p (spA p) (spS p) (spG p) (spL p) 12 p.kH [] 0).1⟩
structure MetOK(p:aD)(m:aF):Prop where
 gen:InR m.gen p.au.length
 par:0<=p.au.getD m.gen.toNat 0/\Ci p m<=p.kC.length+3
 kJ:FIx (3+p.ak.length) p.am.toNat (Ci p m) m.kJ
 body:okE p 12 m.node (Ci p m)
 left:(spE p (spA p) (spS p) (spG p) (spL p) 12 m.node ((spL p).take (Ci p m)) (Ci p m)).2<=p.kC.length+3
structure SpOK(p:aD):Prop where
 wt:p.wt<=100000000
 am:0<=p.am/\p.am<=100000000
 cls:∀c∈p.ak,ClsIx (3+p.ak.length) p.am.toNat c
 met:∀m∈p.k9,MetOK p m
 kH:okE p 12 p.kH 0
 left:(spE p (spA p) (spS p) (spG p) (spL p) 12 p.kH [] 0).2<=p.kC.length+3
def RJ(p:aD)(V:Sig)(hp:SpOK p):aB prog 56 [.agg (Am p)] V (rS (.agg (AS (Ay p))) V):=by
 obtain⟨p1,p2,p3,p4,p5,p6,p7⟩:=p.wt_le;have jT:=hp.wt;obtain⟨s0,s1⟩:=hp.am;obtain⟨sn,jz⟩:∃n:Nat,p.am=n:=⟨p.am.toNat,k0⟩;have gc:p.am.toNat=sn:=by omega
 have ij:(spA p).length=3+p.ak.length:=by unfold spA;rw[aO,Ax];rfl
 have je:(spS p).length=sn:=by unfold spS;rw[Ax,gc]
 have jg:(spG p).length=p.au.length:=Ax _;have jf:(spL p).length=p.kC.length+3:=Ax _;have f0:cSp p (spA p) (spS p) (spG p)=.aw [.aw [sl (p.ak.map kF),dI p.am,sl (cI p.au),sl (p.k9.map Av),sl (p.kC.map Ai),dI p.kH,sl (cS (spA p)),sl (cS (spS p)),sl (cS (spG p))] 0] 0:=rfl;have k1:=fun (V:Sig)=>Gz p.ak.length V k0;have k2:=fun (V:Sig)=>Gz sn V k0;have k3:=fun (V:Sig)=>Gz p.au.length V k0;refine en func56 ntmps56 ?_
 try refine gz ?_ o56 [2,4,6,77,109]
 refine kR (fun i2 iv=>?_)
 repeat' first|refine gz ?_ [] [2,4,6,77,109]|refine Au (k1 _) ?_|refine callP (k1 _) ?_|refine moR (k1 _) ?_|refine moP (k1 _) ?_|refine gz ?_ (kX 2 o56) [2,4,6,77,109]|apply gy<;>intro hh
 refine mixL (id:=2) [0,1,2,4,5,7,8,9,3,6,10,11,12,13] [13] ?_
 try refine gz ?_ (kX 2 o56) [2,4,6,77,109]
 refine moQAppC (es:=cS [wAny,wInt,Gc]) (new:=cS (freshN p.ak.length)) ?_ (hm:=by simp[Ax];omega) (hb:=by simp[Ax];omega);have jN:cS [wAny,wInt,Gc]++cS (freshN p.ak.length)=cS (spA p):=by unfold spA;simp[cS]
 rw[jN,jz];refine Yr (fun U' _=>(k2 U').mono fun x S'' hx=>⟨hx.1,hx.2 ▸ Sub.refl _⟩) ?_;refine Yr (fun U' _=>(k3 U').mono fun x S'' hx=>⟨hx.1,hx.2 ▸ Sub.refl _⟩) ?_
 try refine gz ?_ (kX 2 o56) [2,4,6,77,109]
 refine Ow (fun i4 gA=>?_);have n24:i2≠i4:=fun e=>by rw[<-e,w7]at gA;cases gA
 repeat ((fail_if_success (first|(refine kO (HF (i:=i4) (t:=4) (w7 ..) (by rfl)) ?_)|fail));(refine goX1 trivial ?_))
 refine kO (HF (i:=i4) (t:=4) (w7 ..) (by rfl)) ?_;have eS:freshN sn=spS p:=by unfold spS;rw[gc]
 have eG:freshN p.au.length=spG p:=rfl
 have iQ:∀(τ:Sig) (o:kM),τ i4=none->(τ.set i4 o).del i4=τ:=fun τ o h=>by
  funext j;simp only[Sig.set,Sig.del];split
  ·rename_i e;rw[e,h]
  ·rfl
 rw[iQ _ _ gA,eS,eG];clear k1 k2 k3;have k4:∀(V:Sig),aB prog 134 [dI (p.kC.length+3:Nat)] V (rS (sl (cS (spL p))) V):=fun V=>Gz (p.kC.length+3) V k0;have k5:∀(V:Sig),aB prog 135 _ V _:=fun V=>TJ p.ak (spC (spA p) (spS p)) 136 [cSp p (spA p) (spS p) (spG p)] .no V k0 (fun x hx U' _=>WX p (spA p) (spS p) (spG p) x U' (by rw[ij,je,<-gc];exact hp.cls x hx) k0 k0 (by obtain⟨k,hk,rfl⟩:=bm hx;have:=p5 k hk;omega))
 rw[f0]at k5;have jc:((p.kC.length:Int)+3)=((p.kC.length+3:Nat):Int):=by omega
 repeat ((fail_if_success (first|(refine dwp_cutE3 (x3:=.seq _ (.block 0 _)) (fun i=>(V.set i2 (.cells [.av,.av,dI 0,dI 0,.str [],.av])) i=none) (fun i=>[(6,.ptr i 0),(5,sl (cS (spL p))),(4,cSp p (spA p) (spS p) (spG p)),(2,.ptr i2 0),(1,.aw (Am p) 0)]) (fun i=>(V.set i2 (.cells [.av,.av,dI 0,dI 0,.str [],.av])).set i (.cells [sl ((kw p).map kL),.av,dI 0,dI 0,.str [],.av])) (fun i6 d6=>?_) (fun _ hK=>?_))|fail));(refine goX1 trivial ?_))
 refine dwp_cutE3 (x3:=.seq _ (.block 0 _)) (fun i=>(V.set i2 (.cells [.av,.av,dI 0,dI 0,.str [],.av])) i=none) (fun i=>[(6,.ptr i 0),(5,sl (cS (spL p))),(4,cSp p (spA p) (spS p) (spG p)),(2,.ptr i2 0),(1,.aw (Am p) 0)]) (fun i=>(V.set i2 (.cells [.av,.av,dI 0,dI 0,.str [],.av])).set i (.cells [sl ((kw p).map kL),.av,dI 0,dI 0,.str [],.av])) (fun i6 d6=>?_) (fun _ hK=>?_)
 ·refine Bt i6 1 13 (ds:=[sl ((kw p).map kL),.av,dI 0,dI 0,.str [],.av]) (w7 ..) rfl fun it gx=>?_;have n26:i2≠i6:=fun e=>by rw[<-e,w7]at d6;cases d6
  have gW:V i6=none:=(A8 d6).2;have n6t:i6≠it:=fun e=>by rw[<-e,w7]at gx;cases gx
  have go:=(A8 gx).2;have n2t:i2≠it:=fun e=>by rw[<-e,w7]at go;cases go
  have iY:V it=none:=(A8 go).2;generalize gS:Sig.set (Sig.set _ it _) i6 _=Sa;have q6:Sa i6=some (.cells [sl ((kw p).map kL),.slice (([]:List aK).map BQ) (.tag it),dI 0,dI 0,.str [],.av]):=by rw[<-gS];exact w7 ..
  have qt:Sa it=some (.tail 13 ([]:List aK).length):=by rw[<-gS,w8 _ _ (aZ n6t)];exact w7 ..
  have q2:Sa i2=some (.cells [.av,.av,dI 0,dI 0,.str [],.av]):=by rw[<-gS,w8 _ _ n26,w8 _ _ n2t,w8 _ _ n26];exact w7 ..
  have qS:Sub V Sa:=by rw[<-gS];exact((((Sub.refl _).set iv).set gW).set iY).set gW
  clear gS gx go;have jm:cSp0 p (spA p) (spS p) (spG p)=.aw [sl (p.ak.map kF),dI p.am,sl (cI p.au),sl (p.k9.map Av),sl (p.kC.map Ai),dI p.kH,sl (cS (spA p)),sl (cS (spS p)),sl (cS (spG p))] 0:=rfl
  try refine gf f0 ?_ o56 [2,4,6,77,109]
  refine E2 [1,2,4,5,6,12,57,58,106,107,108,109,110,111,112,113,114,115] (fun (k:Nat) (ms:List aK) (S3:Sig)=>k<=p.k9.length/\ms=(p.k9.take k).map (spM p)/\S3 i6=some (.cells [sl ((kw p).map kL),.slice (ms.map BQ) (.tag it),dI 0,dI 0,.str [],.av])/\S3 it=some (.tail 13 ms.length)/\S3 i2=some (.cells [.av,.av,dI 0,dI 0,.str [],.av])/\Sub V S3) (fun k _ _=>[(59,dI k)]) (fun _ _ S3=>S3) (fun k _ _=>p.k9.length-k) (0) ([]) (Sa) (by exact⟨k0,rfl,q6,qt,q2,qS⟩) (fun k ms S3 hI=>?_);obtain⟨hk,g8,o6,ot,o2,oS⟩:=hI
  by_cases gk:k<p.k9.length
  ·have hM:=hp.met _ (aR gk);have jt:=p6 k gk;generalize hm:p.k9[k]=m at*;obtain⟨gq,iy,jJ⟩:∃gq:Nat,m.gen=gq/\gq<p.au.length:=⟨m.gen.toNat,by have:=hM.gen;unfold InR at this;omega,by have:=hM.gen;unfold InR at this;omega⟩
   have jA:p.au[gq]=((Ci p m:Nat):Int):=by
    have h1:=hM.par.1;unfold Ci;rw[iy,show((gq:Int)).toNat=gq by omega,bj,aT jJ]at*;simp only[ca]at*;omega
   have ja:=hM.par.2;generalize gh:Ci p m=pn at*;have jw:List.take pn (cS (spL p))=cS ((spL p).take pn):=by simp[cS,List.map_take]
   have iX:((spL p).take pn).length=pn:=by rw[ck];omega
   rw[f0]
   repeat ((fail_if_success (first|(refine boxV (T:=214) (fun i11 gb=>?_))|fail));(refine goX1 (gi hm (gi iy (gi jA jw))) ?_))
   refine boxV (T:=214) (fun i11 gb=>?_);have n611:i6≠i11:=A3 o6 gb;have nt11:it≠i11:=A3 ot gb;have n211:i2≠i11:=A3 o2 gb
   try refine gz ?_ (kX 15 o56) [2,4,6,77,109]
   generalize f8:S3.set i11 _=S4;have b11:S4 i11=some (.cells [cSp0 p (spA p) (spS p) (spG p),sl (cS (spL p)),dI pn]):=by rw[<-f8];exact w7 ..
   have b6:S4 i6=some (.cells [sl ((kw p).map kL),.slice (ms.map BQ) (.tag it),dI 0,dI 0,.str [],.av]):=by rw[<-f8,w8 _ _ n611];exact o6
   have bt:S4 it=some (.tail 13 ms.length):=by rw[<-f8,w8 _ _ nt11];exact ot
   have b2:S4 i2=some (.cells [.av,.av,dI 0,dI 0,.str [],.av]):=by rw[<-f8,w8 _ _ n211];exact o2
   have s11:V i11=none:=oS.none gb;have bS:Sub V S4:=by rw[<-f8];exact oS.set s11
   clear f8;have iM:gq<(spG p).length:=by omega
   have jC:ixS (spG p) m.gen=(spG p)[gq]:=by rw[iy];unfold ixS;rw[show((gq:Int)).toNat=gq by omega,aT iM];rfl
   have jK:m.kJ.wt<=1073741824:=by unfold aF.wt at jt;omega
   have gY:=fun (U':Sig)=>WR p (spA p) (spS p) (spG p) ((spL p).take pn) k0 k0 k0 1073741824 m.kJ .no U' jK (bn _) (by rw[ij,je,iX,<-gc,<-gh];exact hM.kJ)
   have gF:=Pr p (spA p) (spS p) (spG p) (spL p) k0 ij k0 k0 k0 jg k0 12 m.node ((spL p).take pn) .no pn i11 S4 (by rw[iX,<-gh];exact hM.body) k0 (by rw[jf];have:=hM.left;rw[gh]at this;exact this) b11;have u6:(S4.out fun j=>j=i11\/j=it) i6=_:=EH b6 (by rintro(h|h);exact n611 h;exact n6t h);refine G0 (id:=15) [0,1,2,3,4,5,6,7,8,9,10,11,12,13,14,15,16,18,19,20,21,17,22,23,24,25,26] [22,25] (S4.out fun j=>j=i11\/j=it) (C3 _ _) ?_
   try refine gf (gi u6 (gi hm iy)) ?_ o56 [2,4,6,77,109]
   refine Yr (fun U' _=>(gY U').mono fun x S'' hx=>⟨hx.1,hx.2 ▸ Sub.refl _⟩) ?_
   try refine gz ?_ o56 [2,4,6,77,109]
   refine C6 gF (fun d S5 hx=>?_);obtain⟨gC,rfl⟩:=hx;cases gC
   have gG:∀{c:kM},Sub (S4.out fun j=>j=i11\/j=it) (S4.set i11 c):=fun j z hz=>by
    obtain⟨h1,h2⟩:=Ct hz;rw[w8 _ _ fun e=>h2 (.inl e)];exact h1
   have gg:∀{c:kM},Sub (S4.out fun j=>j=i11\/j=it) ((S4.set i11 c).set it (.tail 13 (ms.length+1))):=fun j z hz=>by
    obtain⟨h1,h2⟩:=Ct hz;rw[w8 _ _ fun e=>h2 (.inr e)];exact gG _ _ hz
   refine⟨gG,?_⟩;simp only[putD];have gu:=gg (c:=.cells [cSp0 p (spA p) (spS p) (spG p),sl (cS (spL p)),dI (spE p (spA p) (spS p) (spG p) (spL p) 12 m.node (List.take pn (spL p)) pn).2]);have jE:ms.length=k:=by rw[g8];simp;omega
   try refine gf (gi bt b6) ?_ o56 [2,4,6,77,109]
   generalize gL:Sig.set _ i6 _=qq
   have c6:qq i6=some (.cells [sl ((kw p).map kL),.slice ((ms++[spM p m]).map BQ) (.tag it),dI 0,dI 0,.str [],.av]):=by
    rw[<-gL,w7];simp[spM,jC,gh]
   have ct:qq it=some (.tail 13 (ms++[spM p m]).length):=by rw[<-gL,w8 _ _ (aZ n6t),w7,aO];rfl
   have c2:qq i2=some (.cells [.av,.av,dI 0,dI 0,.str [],.av]):=by rw[<-gL,w8 _ _ n26,w8 _ _ n2t,w8 _ _ n211];exact b2
   have cS:Sub V qq:=by rw[<-gL];exact((bS.set s11).set iY).set gW
   have iI:ms++[spM p m]=(p.k9.take (k+1)).map (spM p):=by rw[g8,<-List.take_append_getElem gk,bL,hm];rfl
   clear gL;exact⟨k+1,ms++[spM p m],qq,⟨k0,iI,c6,ct,c2,cS⟩,td1,wkR⟩
  ·rw[f0];refine kO (Ep (az:=[sl ((kw p).map kL)]) (bs:=[dI 0,dI 0,.str [],.av]) (d':=sl (ms.map BQ)) o6 (AO _ _)) ?_;generalize iA:S3.set i6 _=S5;have o6:S5 i6=some (.cells [sl ((kw p).map kL),sl (ms.map BQ),dI 0,dI 0,.str [],.av]):=by rw[<-iA];exact w7 ..
   have o2:S5 i2=some (.cells [.av,.av,dI 0,dI 0,.str [],.av]):=by rw[<-iA,w8 _ _ n26];exact o2
   have oS:Sub V S5:=by rw[<-iA];exact oS.set gW
   clear iA ot
   repeat ((fail_if_success (first|(refine boxV (T:=214) (fun i12 gr=>?_))|fail));(refine goX1 trivial ?_))
   refine boxV (T:=214) (fun i12 gr=>?_);have n612:i6≠i12:=A3 o6 gr;have n212:i2≠i12:=A3 o2 gr
   try refine gz ?_ o56 [2,4,6,77,109]
   generalize f8:S5.set i12 _=S4;have b12:S4 i12=some (.cells [cSp0 p (spA p) (spS p) (spG p),sl (cS (spL p)),dI (0:Nat)]):=by rw[<-f8];exact w7 ..
   have b6:S4 i6=some (.cells [sl ((kw p).map kL),sl (ms.map BQ),dI 0,dI 0,.str [],.av]):=by rw[<-f8,w8 _ _ n612];exact o6
   have b2:S4 i2=some (.cells [.av,.av,dI 0,dI 0,.str [],.av]):=by rw[<-f8,w8 _ _ n212];exact o2
   have s12:V i12=none:=oS.none gr;have bS:Sub V S4:=by rw[<-f8];exact oS.set s12
   clear f8;have gF:=Pr p (spA p) (spS p) (spG p) (spL p) k0 ij k0 k0 k0 jg k0 12 p.kH [] .no 0 i12 S4 hp.kH k7 (by rw[jf];exact hp.left) b12;have iJ:k=p.k9.length:=by omega
   rw[iJ,dN]at g8;subst g8;refine Ad (gF.wk (args:=[.ptr i12 0,dI p.kH,.av]) ⟨A9 _,A9 _,An _ (.inl rfl),trivial⟩) (fun d S6 hx=>?_);obtain⟨gC,rfl⟩:=hx;cases gC;simp only[putD]
   try refine gf (gi b6 b2) ?_ o56 [2,4,6,77,109]
   exact lI (U':=V) ⟨rfl,rfl⟩ (hw:=by refine B9 ?_;simp[Ay]) (hZ:=((bS.set s12).set gW).set iv)
 ·repeat' first|refine gf jc ?_ [] [2,4,6,77,109]|refine Au (k4 _) ?_|refine callP (k4 _) ?_|refine moR (k4 _) ?_|refine moP (k4 _) ?_|refine gf jc ?_ o56 [2,4,6,77,109]|apply gy<;>intro hh
  refine Ad (k5 _) (fun d S1 hr=>?_) (fun d S1 hr=>by obtain⟨_,_,h,_⟩:=hr;cases h);obtain⟨E,st,e1,hW,gU,jr⟩:=hr;cases e1;have o2:S1 i2=some (.cells [.av,.av,dI 0,dI 0,.str [],.av]):=gU _ _ (w7 ..);have r2:¬Cf st i2:=jr _ _ (w7 ..);have gV:Sub V S1:=((Sub.refl _).set iv).trans gU;have iU:∀j x,V j=some x->¬Cf st j:=fun j x hj=>jr _ _ (k8 (A3 hj iv) hj);simp only[putD];cases st with
  |none=>
   obtain⟨rfl,iH⟩:=hW;have jL:p.ak=[]:=by simpa using iH
   try refine gz ?_ o56 [2,4,6,77,109]
   refine kR (fun i6 d6=>?_);have n26:i2≠i6:=A3 o2 d6;have fZ:=gU.none d6
   try refine gz ?_ o56 [2,4,6,77,109]
   refine Bb [1,2,3,4,5,6,9,10,11,12,42,56,57,58,59,60,61,62,63,64,65,66,67,68,69,70,71,72,73,74,75,76,77,78,79,80,81,82,83,84,85,86,87,88,89,90,91,92,93,94,95,96,97,98,99,100,101,102,103,104,105,106,107,108,109,110,111,112,113,114,115] (fun (k:Nat)=>k=0) (fun k=>[(43,dI k)]) (fun _=>S1.set i6 (.cells [.slice [] .clip,.av,dI 0,dI 0,.str [],.av])) (fun _=>0) (0) (by rfl) (fun k hI=>?_);subst hI
   try refine gz ?_ o56 [2,4,6,77,109]
   refine kO (Ep (az:=[]) (bs:=[.av,dI 0,dI 0,.str [],.av]) (d':=sl ((kw p).map kL)) (w7 ..) (by unfold kw;rw[jL];exact AO _ _)) ?_;refine kO (Aw (by rw[f0];simp) ?_) (hK i6 fZ);rw[w9];exact Sub.both gU
  | some x =>
   obtain⟨r,cap,rest⟩:=x;obtain⟨rfl,ga⟩:=hW;have g7:i2≠r:=r2
   try refine gz ?_ o56 [2,4,6,77,109]
   refine kR (fun i6 d6=>?_);have n26:i2≠i6:=A3 o2 d6;have fZ:=gU.none d6;have iF:r≠i6:=A3 ga d6
   have i0:V r=none:=by
    cases h:V r with
    |none=>rfl
    |some x=>exact absurd rfl (iU r x h)
   try refine gz ?_ o56 [2,4,6,77,109]
   refine AG [1,2,3,4,5,6,9,10,11,12,42,56,57,58,59,60,61,62,63,64,65,66,67,68,69,70,71,72,73,74,75,76,77,78,79,80,81,82,83,84,85,86,87,88,89,90,91,92,93,94,95,96,97,98,99,100,101,102,103,104,105,106,107,108,109,110,111,112,113,114,115] (fun (k:Nat) (S3:Sig)=>k<=p.ak.length/\S3 r=some (.cells ((((kw p).take k++(p.ak.map (spC (spA p) (spS p))).drop k).map kL).flatten++rest))/\S3 i6=some (.cells [.ax r 0 p.ak.length p.ak.length,.av,dI 0,dI 0,.str [],.av])/\S3 i2=some (.cells [.av,.av,dI 0,dI 0,.str [],.av])/\Sub V S3) (fun k _=>[(43,dI k)]) (fun _ S3=>S3) (fun k _=>p.ak.length-k) (0) (S1.set i6 (.cells [.ax r 0 p.ak.length p.ak.length,.av,dI 0,dI 0,.str [],.av])) (by exact⟨k0,by rw[w8 _ _ iF,ga];simp,k7,k8 n26 o2,gV.set (gV.none d6)⟩) (fun k S3 hI=>?_);obtain⟨hk,q1,q6,q2,qS⟩:=hI
   by_cases gk:k<p.ak.length
   ·have jW:k<(freshN p.ak.length).length:=by rw[Ax];exact gk
    have jd:(kw p).length=p.ak.length:=by unfold kw;simp[Ax]
    have iE:(kw p)[k]'(by omega)={ spC (spA p) (spS p) p.ak[k]with name:=(freshN p.ak.length)[k] }:=by simp[kw]
    have hX:(((kw p).take k++(p.ak.map (spC (spA p) (spS p))).drop k).map kL).flatten++rest=(((kw p).take k).map kL).flatten ++ .str (spC (spA p) (spS p) p.ak[k]).name::((kL (spC (spA p) (spS p) p.ak[k])).tail++((((p.ak.map (spC (spA p) (spS p))).drop (k+1)).map kL).flatten++rest)):=by
     rw[ed (by simpa using gk)];simp
    have hA:((((kw p).take k).map kL).flatten).length=k*4:=by
     rw[List.length_flatten,cr]
     have:(List.map (List.length ∘ kL) ((kw p).take k))=List.replicate k 4:=by
      rw[List.eq_replicate_iff];exact⟨by simp;omega,fun b hb=>by obtain⟨x,_,rfl⟩:=bD.1 hb;rfl⟩
     rw[this];simp
    have hY:(((kw p).take (k+1)++(p.ak.map (spC (spA p) (spS p))).drop (k+1)).map kL).flatten++rest=(((kw p).take k).map kL).flatten ++ .str (freshN p.ak.length)[k]::((kL (spC (spA p) (spS p) p.ak[k])).tail++((((p.ak.map (spC (spA p) (spS p))).drop (k+1)).map kL).flatten++rest)):=by
     rw[<-List.take_append_getElem k0,iE];simp
    rw[hX]at q1;generalize (((kw p).take k).map kL).flatten=A at*;generalize (kL (spC (spA p) (spS p) p.ak[k])).tail++((((p.ak.map (spC (spA p) (spS p))).drop (k+1)).map kL).flatten++rest)=R at*;have t1:List.take (k*4) (A ++ .str (spC (spA p) (spS p) p.ak[k]).name::R)=A:=by rw[<-hA];exact List.take_left' rfl
    have t2:List.drop (k*4+1) (A ++ .str (spC (spA p) (spS p) p.ak[k]).name::R)=R:=by rw[<-hA,fI];rfl
    try refine gf (gi q6 (gi q1 (gi t1 t2))) ?_ o56 [2,4,6,77,109]
    exact⟨k+1,S3.set r (.cells (A ++ .str (freshN p.ak.length)[k]::R)),⟨k0,by rw[w7,hY],k8 (aZ iF) q6,k8 g7 q2,qS.set i0⟩,td1,wkR⟩
   ·have iJ:k=p.ak.length:=by omega
    subst iJ;have jd:(kw p).length=p.ak.length:=by unfold kw;simp[Ax]
    have d8:(kw p).take p.ak.length++(p.ak.map (spC (spA p) (spS p))).drop p.ak.length=kw p:=by
     rw[bM k0,dm k7,br]
    rw[d8]at q1;have jG:p.ak.length=((kw p).map kL).length:=by rw[aY,jd]
    rw[jG]at q6;refine kO (O1 (az:=[]) (bs:=[.av,dI 0,dI 0,.str [],.av]) (sz:=4) q1 q6 (aZ iF) (bn _) (fun e he=>by obtain⟨x,_,rfl⟩:=bD.1 he;rfl)) ?_
    try refine gz ?_ o56 [2,4,6,77,109]
    refine kO (Aw (by rw[f0];simp) ?_) (hK i6 fZ);refine Sub.both fun j x hj=>?_;have jI:j≠r:=fun e=>by rw[e,w8 _ _ (aZ g7),i0]at hj;cases hj
    simp only[Sig.del,jI,bl]
    by_cases jk:j=i2
    ·subst jk;rw[w7]at hj;rw[<-hj];exact q2
    ·rw[w8 _ _ jk]at hj;exact qS _ _ hj
@[reducible,instance] def a56:=fun p V=>ah1 (@RJ p V)
def wL:fP:=(((List.range 160).map fun n=>Lh (n+1)).filter Ak).take 128
def oA(k:Nat):Bool:=decide (frO (wL.take k) 10000 1=wL[k]?)&&decide (E6 (wL.take k)=(wL[k]?).getD [])
def wLl:wL.length=128:=by decide +kernel
def wL0:(List.range' 0 48).all oA=true:=by decide +kernel
def wL1:(List.range' 48 32).all oA=true:=by decide +kernel
def wL2:(List.range' 80 26).all oA=true:=by decide +kernel
def wL3:(List.range' 106 22).all oA=true:=by decide +kernel
def wLk{k:Nat}(s n:Nat)(ha:(List.range' s n).all oA=true)(h1:s<=k)(h2:k<s+n):oA k=true:=bh.1 ha k (List.mem_range'_1.2 ⟨h1,h2⟩)
def wLa{k:Nat}(h:k<128): ∃w,wL[k]?=some w/\frO (wL.take k) 10000 1=some w/\E6 (wL.take k)=w:=by
 have hk:oA k=true:=by
  by_cases h1:k<48
  ·exact wLk _ _ wL0 k0 k0
  ·by_cases h2:k<80
   ·exact wLk _ _ wL1 k0 k0
   ·by_cases h3:k<106
    ·exact wLk _ _ wL2 k0 k0
    ·exact wLk _ _ wL3 k0 k0
 have hw:wL[k]?=some (wL[k]'(by rw[wLl];exact h)):=aT _;unfold oA at hk;rw[aN,aP,aP,hw]at hk;exact⟨_,hw,hk.1,by rw[hk.2];rfl⟩
def wLs{k:Nat}{w:Str}(h:wL[k]?=some w):wL.take (k+1)=wL.take k++[w]:=by rw[List.take_add_one,h];rfl
def wLr: ∀(n k:Nat),k+n<=128->refM n (wL.take k) (wL.take k)=some (wL.take (k+n))/\Di n (wL.take k)=wL.take (k+n)
 |0,k,_=>by rw[refM,Di];exact⟨rfl,rfl⟩
 |n+1,k,h=>by
  obtain⟨w,h1,h2,h3⟩:=wLa (k:=k) k0;have i:=wLr n (k+1) k0;rw[refM,h2,Di,h3];simp only;rw[<-wLs h1,show k+(n+1)=k+1+n by omega];exact i
def ref128:refM 128 [] []=some (freshN 128):=by
 have h:=wLr 128 0 k0;unfold freshN;rw[List.take_zero]at h;rw[h.1,h.2]
def Ra: ∀(n:Nat) (l out ws:fP),refM n l out=some ws->∃t,ws=out++t/\t.length=n
 |0,l,out,ws,h=>by rw[refM]at h;cases h;exact⟨[],k7,rfl⟩
 | n+1,l,out,ws,h=>by
  rw[refM]at h;cases hf:frO l 10000 1 with
  |none=>rw[hf]at h;cases h
  |some w=>
   rw[hf]at h;obtain⟨t,h1,h2⟩:=Ra n _ _ ws h;exact⟨w::t,by rw[h1];simp,by simp[h2]⟩
def On: ∀(n m:Nat) (l out ws:fP),refM (n+m) l out=some ws->refM n l out=some (ws.take (out.length+n))
 |0,m,l,out,ws,h=>by
  rw[bZ]at h;obtain⟨t,h1,h2⟩:=Ra m l out ws h;rw[refM,h1,eY,List.take_left]
 | n+1,m,l,out,ws,h=>by
  rw[show n+1+m=(n+m)+1 by omega,refM]at h;rw[refM];cases hf:frO l 10000 1 with
  |none=>rw[hf]at h;cases h
  |some w=>
   rw[hf]at h;simp only at h⊢;rw[On n m _ _ ws h,aO]
   congr 2
   simp;omega
def Hv: ∀(n m:Nat) (l:fP),Di n l=(Di (n+m) l).take (l.length+n)
 | 0,m,l=>by
  rw[bZ,Di,eY]
  have key:∀(m:Nat) (l:fP),(Di m l).take l.length=l:=fun m=>by
   induction m with
   |zero=>intro l;rw[Di];simp
   |succ m ih=>
    intro l;rw[Di];have:=cf (List.take l.length) (ih (l++[E6 l]));rw[List.take_take,aO,List.take_left,Nat.min_eq_left k7]at this;exact this
  exact(key m l).symm
 |n+1,m,l=>by
  rw[show n+1+m=(n+m)+1 by omega,Di,Di,Hv n m,aO]
  congr 1
  simp;omega
def Om{n:Nat}(h:n<=128):refM n [] []=some (freshN n):=by
 have h1:=On n (128-n) [] [] _ (by rw[show n+(128-n)=128 by omega];exact ref128);have h2:=Hv n (128-n) [];rw[show n+(128-n)=128 by omega]at h2;rw[h1];unfold freshN;rw[h2]
def IU{n m:Nat}(h:n<=m):(freshN m).take n=freshN n:=by
 have h2:=Hv n (m-n) [];rw[show n+(m-n)=m by omega]at h2;unfold freshN;rw[h2];simp
def YH:freshN 128=wL:=by
 have h:=(wLr 128 0 k0).2;rw[List.take_zero,bZ,bM (by rw[wLl];exact bn _)]at h;exact h
def Y7:wL.Nodup:=by decide +kernel
def FG{n:Nat}(h:n<=128):(freshN n).Nodup /\ ∀s∈freshN n,Ak s=true:=by
 have e:=IU h;rw[YH]at e;rw[<-e];refine⟨List.Nodup.sublist (List.take_sublist _ _) Y7,fun s hs=>?_⟩;have h1:=List.mem_of_mem_take hs;unfold wL at h1;exact(bR.1 (List.mem_of_mem_take h1)).2
def Uv{o:Int}(h:hasM o kP=true):o=1\/o=2\/o=18\/o=3\/o=6\/o=4\/o=8\/o=7\/o=9\/o=5\/o=10\/o=17\/o=11\/o=12\/o=13\/o=14\/o=15\/o=16:=by
 simpa[kP,hasM] using h
structure NodOK(d:Int)(o n:Int)(t:Str)(k:Nat):Prop where
 deep:d<=12
 text:t=[] ↔ ¬(3<=o/\o<=9)
 num:n=0\/o=1/\inB n=true
 aq:(o=5/\1<=k/\k<=3)\/(o≠5/\H9 o=some (k:Int))
 op:1<=o/\o<=18
def Rl{d o n:Int}{t:Str}{l:List aH}(h:CO d (.mk o n t l)=true):NodOK d o n t l.length:=by
 have h:(decide (d<=12)&&((hasM o kP&&decide ((getM (⟨false,0,0⟩:Sh) o kP).lo<=l.length)&&decide (l.length<=(getM (⟨false,0,0⟩:Sh) o kP).hi)&&((getM (⟨false,0,0⟩:Sh) o kP).named == !decide (t=[]))) &&
  ((!(getM (⟨false,0,0⟩:Sh) o kP).named||Ak t)&&(decide (n=0)||(decide (o=1)&&inB n)))))=true:=h
 simp only[aN,aP,bV]at h;obtain⟨h1,⟨⟨⟨h2,h3⟩,h4⟩,h5⟩,h6,h7⟩:=h;have h8:=Uv h2;refine⟨h1,?_,h7,?_,k0⟩
 ·rcases h8 with rfl|rfl|rfl|rfl|rfl|rfl|rfl|rfl|rfl|rfl|rfl|rfl|rfl|rfl|rfl|rfl|rfl|rfl<;>simpa[kP,getM] using h5
 ·rcases h8 with rfl|rfl|rfl|rfl|rfl|rfl|rfl|rfl|rfl|rfl|rfl|rfl|rfl|rfl|rfl|rfl|rfl|rfl<;>simp[kP,getM]at h3 h4<;>simp[H9]<;>first|omega|(rw[h4];rfl)|(rw[h4])
def Qt{o n:Int}{t:Str}{l:List aH}{b c:fP}(h4:∀x∈kY (.mk o n t l) c,x∈b)(h5:∀x∈c,x∈b)(e3:o=3):t∈b:=by
 rw[kY]at h4
 by_cases hc:t∈c
 ·exact h5 t hc
 ·rw[aS ⟨e3,hc⟩]at h4;exact h4 t (bq.2 rfl)
def Qu{d o n:Int}{t:Str}{l:List aH}{b c:fP}(hN:NodOK d o n t l.length)(h4:∀x∈kY (.mk o n t l) c,x∈b): ∀x∈looseEs o t l 0 c,x∈b:=fun x hx=>by
 by_cases e3:o=3
 ·have:l.length=0:=by
   rcases hN.aq with h|h
   ·omega
   ·rw[e3]at h;simp[H9]at h;omega
  rw[bH.1 this,looseEs]at hx;cases hx
 ·rw[kY,aQ fun h=>e3 h.1]at h4;exact h4 x hx
def Nl(t:Str): ∀(l:fP) (k:Nat) (n:Int),t∈l->∃j:Nat,j<l.length/\D6 t l k n=((k+j:Nat):Int)
 |[],_,_,h=>by cases h
 | x::r,k,n,h=>by
  rw[D6]
  by_cases hr:t∈r
  ·obtain⟨j,h1,h2⟩:=Nl t r (k+1) (if x=t then k else n) hr;exact⟨j+1,by rw[aV];omega,by rw[h2];omega⟩
  ·have hx:x=t:=((be.1 h).resolve_right hr).symm
   have:∀(l:fP) (k:Nat) (n:Int),t∉l->D6 t l k n=n:=fun l=>by
    induction l with
    |nil=>intro k n _;rfl
    |cons y s ih=>
     intro k n hy;rw[be,dX]at hy;rw[D6,aQ fun e=>hy.1 e.symm,ih _ _ hy.2]
   exact⟨0,k7,by rw[this r _ _ hr,aS hx];omega⟩
def Nk(t:Str): ∀(l:fP) (k:Nat) (n:Int),t∉l->D6 t l k n=n
 |[],_,_,_=>rfl
 |y::s,k,n,hy=>by
  rw[be,dX]at hy;rw[D6,aQ fun e=>hy.1 e.symm,Nk t s _ _ hy.2]
def Nm: ∀(l:fP) (j k:Nat) (n:Int) (h:j<l.length),l.Nodup->D6 l[j] l k n=((k+j:Nat):Int)
 |x::r,0,k,n,_,hn=>by
  rw[cE]at hn;rw[dR,D6,aS rfl,Nk x r _ _ hn.1];omega
 |x::r,j+1,k,n,h,hn=>by
  rw[cE]at hn;have h2:j<r.length:=by rw[aV]at h;omega
  rw[dB,D6,Nm r j (k+1) _ h2 hn.2];omega
def I8{l:fP}{j:Nat}(h:j<l.length):ixS l (j:Int)=l[j]:=by
 unfold ixS;rw[show((j:Int)).toNat=j by omega,aT h];rfl
def CZ{P:fP}{a b:Nat}(h:a<=b){x:Str}(hx:x∈P.take a):x∈P.take b:=by
 have:P.take a=(P.take b).take a:=by rw[List.take_take,Nat.min_eq_left h]
 rw[this]at hx;exact List.mem_of_mem_take hx
def R0{P:fP}(hP:P.Nodup){t:Nat}(h:t<P.length):P[t]∉P.take t/\P[t]∈P.take (t+1):=by
 refine⟨fun hm=>?_,by rw[List.take_add_one,aT h];exact cC _ (bq.2 rfl)⟩;have e:P=P.take t++P[t]::P.drop (t+1):=by simp
 have hn:=hP;rw[e,dk]at hn;exact hn.2.2 _ hm _ List.mem_cons_self rfl
section
variable {a:aD}{A S G P own am au:fP}{R:Ren}{t0:Bool}
  (jo:∀s∈am,ixS S (idxG s am 0)=R.s s/\Ak (R.s s)=true) (jp:∀s∈au,ixS G (idxG s au 0)=R.g s/\Ak (R.g s)=true)
  (jq:∀s∈own,ixS A (lD own s)=R.c s/\Ak (R.c s)=true) (hP:P.Nodup) (iS:∀s∈P,Ak s=true)
include jo jp jq hP iS
mutual
theorem Ye: ∀(e:aH) (d:Int) (k:Nat) (b c env:fP) (t:Nat) (pre post:List aG),d+k=13->allD CO e d=true->(allE e).all (ko own am t0)=true->l9 (CallsIn au) e->
  (∀x∈kY e c,x∈b)->(∀x∈c,x∈b)->a.kC=pre++(CB own am au e b pre.length++post)->env.Nodup->env.length=b.length->(∀x∈env,x∈P.take t)->t+e.cnt<=P.length->
  AlE R e (spE a A S G P k pre.length env t).1 b env/\(spE a A S G P k pre.length env t).2<=t+e.cnt
 | .mk o n t l,d,k,b,c,env,tk,pre,post,hd,h1,h2,h3,h4,h5,h6,h7,h8,h9,iC=>by
  rw[allD,aN]at h1;rw[allE,bU,aN]at h2;rw[l9]at h3;have hN:=Rl h1.1;obtain⟨q,rfl⟩:∃q,k=q+1:=⟨k-1,by have:=hN.deep;omega⟩;have iR:(aH.mk o n t l).cnt=(As l).length+1:=by unfold aH.cnt;rw[allE,aV]
  rw[iR]at iC⊢;rw[CB]at h6
  have iz:Ao a (pre.length:Nat)=⟨o,Dt own am au o n t b,AW l (pre.length+1)⟩:=by
   unfold Ao;rw[h6,show((pre.length:Nat):Int).toNat=pre.length by omega,bP (bn _),eh];rfl
  have gj:(if o=4\/o=7 then decide (t∈am) else if o=6\/o=8 then decide (t∈own) else if o=18 then t0 else true)=true:=h2.1;have jn:=Qt h4 h5;have jF:=Qu hN h4;have e8:Es A S G P (Ao a (pre.length:Nat)) env tk=(if o=3 then ixS env (Dt own am au o n t b) else if o=4\/o=7 then ixS S (Dt own am au o n t b) else if o=5 then ixS G (Dt own am au o n t b) else if o=6\/o=8 then ixS A (Dt own am au o n t b) else if o=9 then ixS P tk else []):=by rw[iz];rfl
  generalize jv:Es A S G P (Ao a (pre.length:Nat)) env tk=tx at*;have hk:(Ao a (pre.length:Nat)).aq=AW l (pre.length+1):=by rw[iz]
  have ho:(Ao a (pre.length:Nat)).op=o:=by rw[iz]
  have hn:(Ao a (pre.length:Nat)).n=Dt own am au o n t b:=by rw[iz]
  have g3:o=3->tx∈env/\D6 tx env 0 n=D6 t b 0 n:=fun e3=>by
   obtain⟨j,j1,j2⟩:=Nl t b 0 n (jn e3);have e:Dt own am au o n t b=((0+j:Nat):Int):=by unfold Dt;rw[aS e3,j2]
   rw[aS e3,e,bZ,I8 k0]at e8;rw[e8];exact⟨aR _,by rw[Nm env j 0 n k0 h7,j2]⟩
  have g4:o=4\/o=7->tx=R.s t/\Ak tx=true:=fun e4=>by
   rw[aS e4]at gj;have:=jo t (bx gj);have e:Dt own am au o n t b=idxG t am 0:=by unfold Dt;rw[aQ k0,aS e4]
   rw[aQ k0,aS e4,e,this.1]at e8;exact⟨e8,by rw[e8];exact this.2⟩
  have g5:o=5->tx=R.g t/\Ak tx=true:=fun e5=>by
   have:=jp t (h3.1 e5);have e:Dt own am au o n t b=idxG t au 0:=by unfold Dt;rw[aQ k0,aQ k0,aS e5]
   rw[aQ k0,aQ k0,aS e5,e,this.1]at e8;exact⟨e8,by rw[e8];exact this.2⟩
  have g6:o=6\/o=8->tx=R.c t/\Ak tx=true:=fun e6=>by
   rw[aQ k0,aS e6]at gj;have:=jq t (bx gj);have e:Dt own am au o n t b=lD own t:=by unfold Dt;rw[aQ k0,aQ k0,aQ k0,aS e6]
   rw[aQ k0,aQ k0,aQ k0,aS e6,e,this.1]at e8;exact⟨e8,by rw[e8];exact this.2⟩
  have g9:o=9->tx∉env/\tx∈P.take (tk+1)/\Ak tx=true:=fun e9=>by
   have hl:tk<P.length:=by omega
   rw[aQ k0,aQ k0,aQ k0,aQ k0,aS e9,I8 hl]at e8;obtain⟨q1,q2⟩:=R0 hP hl;rw[e8];exact⟨fun hm=>q1 (h9 _ hm),q2,iS _ (aR hl)⟩
  have gno:¬(3<=o/\o<=9)->tx=[]:=fun e=>by
   rw[aQ k0,aQ k0,aQ k0,aQ k0,aQ k0]at e8;exact e8
  have gJ:3<=o/\o<=9->Ak tx=true:=fun e=>by
   obtain h|h|h|h|h:o=3\/(o=4\/o=7)\/o=5\/(o=6\/o=8)\/o=9:=by omega
   ·exact iS _ (List.mem_of_mem_take (h9 _ (g3 h).1))
   ·exact(g4 h).2
   ·exact(g5 h).2
   ·exact(g6 h).2
   ·exact(g9 h).2.2
  have iP:tx=[] ↔ t=[]:=by
   rw[hN.text];refine⟨fun e h=>?_,gno⟩;have:=gJ h;rw[e,DR]at this;cases this
  have iG:(if o=1 then Dt own am au o n t b else 0)=n:=by
   by_cases e1:o=1
   ·rw[aS e1];unfold Dt;rw[aQ k0,aQ k0,aQ k0,aQ k0]
   ·rw[aQ e1];rcases hN.num with h|h
    ·exact h.symm
    ·exact absurd h.1 e1
  obtain⟨r1,r2⟩:=Uq o t tx l 0 (d+1) q b c env (if o=9 then tk+1 else tk) (pre++[⟨o,Dt own am au o n t b,AW l (pre.length+1)⟩]) post k0 h1.2 h2.2 h3.2 jF h5
   (by rw[h6,aO,ce];simp) h7 h8 (fun x hx=>CZ (by split<;>omega) (h9 x hx)) (by split<;>omega) (fun e9=>by rw[aS e9];exact⟨(g9 e9).1,(g9 e9).2.1⟩)
  rw[aO,ce]at r1 r2;rw[spE,hk,ho,hn,jv];refine⟨?_,?_⟩
  ·rw[AlE];refine⟨⟨rfl,iG,iP,fun hne=>gJ (cY fun h=>hne (gno h))⟩,⟨fun e=>⟨jn e,g3 e⟩,fun e=>(g4 e).1,fun e=>(g5 e).1,fun e=>(g6 e).1⟩,?_⟩;exact r1
  ·have:(if o=9 then tk+1 else tk)<=tk+1:=by split<;>omega
   omega
theorem Uq(o:Int)(t txt:Str): ∀(l:List aH) (i:Nat) (d:Int) (k:Nat) (b c env:fP) (tk:Nat) (pre post:List aG),d+k=13->Eh CO l d=true->(As l).all (ko own am t0)=true->Dd (CallsIn au) l->
  (∀x∈looseEs o t l i c,x∈b)->(∀x∈c,x∈b)->a.kC=pre++(Ce own am au o t l i b pre.length++post)->env.Nodup->env.length=b.length->(∀x∈env,x∈P.take tk)->tk+(As l).length<=P.length->(o=9->txt∉env/\txt∈P.take tk)->
  AlEs R o t txt l (D0 (spE a A S G P k) o txt env i (AW l pre.length) tk).1 i b env/\(D0 (spE a A S G P k) o txt env i (AW l pre.length) tk).2<=tk+(As l).length
 |[],i,d,k,b,c,env,tk,pre,post,hd,h1,h2,h3,h4,h5,h6,h7,h8,h9,iC,iB=>by rw[AW,D0,AlEs,As];exact⟨rfl,bn _⟩
 | x::r,i,d,k,b,c,env,tk,pre,post,hd,h1,h2,h3,h4,h5,h6,h7,h8,h9,iC,iB=>by
  rw[Eh,aN]at h1;rw[As,dp,aN]at h2;rw[Dd]at h3;rw[looseEs]at h4;rw[As,aO]at iC⊢;have jQ:x.cnt=(allE x).length:=rfl;rw[Ce]at h6;rw[AW,D0]
  by_cases cc:o=9/\i=1
  ·rw[aS cc]at h4 h6⊢;obtain⟨w1,w2⟩:=iB cc.1
   obtain⟨r1,r2⟩:=Ye x d k (b++[t]) (ins t c) (env++[txt]) tk pre (Ce own am au o t r (i+1) b (pre.length+x.cnt)++post) hd h1.1 h2.1 h3.1
    (fun y hy=>bu _ (h4 y (bu _ hy)))
    (fun y hy=>by
     rcases Et.1 hy with rfl|hy
     ·simp
     ·exact bu _ (h5 y hy))
    (by rw[h6];simp[bc])
    (by rw[dk];exact⟨h7,k7,fun y hy z hz=>by rw[bq]at hz;rw[hz];exact fun e=>w1 (e ▸ hy)⟩)
    (by simp [h8]) (fun y hy=>by
     rcases bi.1 hy with hy|hy
     ·exact h9 y hy
     ·rw[bq]at hy;rw[hy];exact w2) k0
   have hlen:(CB own am au x (b++[t]) pre.length).length=x.cnt:=BR x _ _
   obtain⟨r3,r4⟩:=Uq o t txt r (i+1) d k b c env (spE a A S G P k pre.length (env++[txt]) tk).2 (pre++CB own am au x (b++[t]) pre.length) post hd h1.2 h2.2 h3.2 (fun y hy=>h4 y (cC _ hy)) h5
    (by rw[h6,aO,hlen];simp[bc]) h7 h8 (fun y hy=>CZ (J3 _ _ _ _ _ _ _ _ _) (h9 y hy)) k0 (fun e9=>⟨w1,CZ (J3 _ _ _ _ _ _ _ _ _) w2⟩)
   rw[aO,hlen]at r3 r4;rw[AlEs];refine⟨⟨_,_,rfl,?_,r3⟩,by simp only;omega⟩;rw[aS cc];exact r1
  ·rw[aQ cc]at h4 h6⊢;obtain⟨r1,r2⟩:=Ye x d k b c env tk pre (Ce own am au o t r (i+1) b (pre.length+x.cnt)++post) hd h1.1 h2.1 h3.1 (fun y hy=>h4 y (bu _ hy)) h5 (by rw[h6];simp[bc]) h7 h8 h9 k0;have hlen:(CB own am au x b pre.length).length=x.cnt:=BR x _ _
   obtain⟨r3,r4⟩:=Uq o t txt r (i+1) d k b c env (spE a A S G P k pre.length env tk).2 (pre++CB own am au x b pre.length) post hd h1.2 h2.2 h3.2 (fun y hy=>h4 y (cC _ hy)) h5
    (by rw[h6,aO,hlen];simp[bc]) h7 h8 (fun y hy=>CZ (J3 _ _ _ _ _ _ _ _ _) (h9 y hy)) k0 (fun e9=>⟨(iB e9).1,CZ (J3 _ _ _ _ _ _ _ _ _) (iB e9).2⟩)
   rw[aO,hlen]at r3 r4;rw[AlEs];refine⟨⟨_,_,rfl,?_,r3⟩,by simp only;omega⟩;rw[aQ cc];exact r1
end
end
end Go.DL
