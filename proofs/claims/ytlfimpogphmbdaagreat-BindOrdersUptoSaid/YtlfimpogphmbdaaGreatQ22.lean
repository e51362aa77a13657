/- A part of the proof. -/
import Derived.Test.YtlfimpogphmbdaaGreatQ21
set_option linter.all false
namespace Go.DL
open Go.Proofs.Tryz
open Go Go.Proofs
set_option maxHeartbeats 8000000
def CG(f:Int->fD->Nat->aB×Nat)(op:Int)(txt:Str)(env:fD):Nat->fF->Nat->List aB×Nat
 |_,[],t=>([],t)
 |j,c::r,t=>((f c (if op=9/\j=1 then env++[txt] else env) t).1::(CG f op txt env (j+1) r (f c (if op=9/\j=1 then env++[txt] else env) t).2).1,(CG f op txt env (j+1) r (f c (if op=9/\j=1 then env++[txt] else env) t).2).2)
def Cp(a b g P:fD)(x:aA)(env:fD)(t:Nat):Str:=
 if x.op=3 then ixS env x.n else if x.op=4\/x.op=7 then ixS b x.n else if x.op=5 then ixS g x.n else if x.op=6\/x.op=8 then ixS a x.n else if x.op=9 then ixS P t else []
def spE(p:aw)(a b g P:fD):Nat->Int->fD->Nat->aB×Nat
 |0,_,_,t=>(.mk 0 0 [] [],t)
 | k+1,node,env,t=>(.mk (As p node).op (if (As p node).op=1 then (As p node).n else 0) (Cp a b g P (As p node) env t)
   (CG (spE p a b g P k) (As p node).op (Cp a b g P (As p node) env t) env 0 (As p node).ah (if(As p node).op=9 then t+1 else t)).1,
   (CG (spE p a b g P k) (As p node).op (Cp a b g P (As p node) env t) env 0 (As p node).ah (if(As p node).op=9 then t+1 else t)).2)
theorem Dw{f:Int->fD->Nat->aB×Nat}{op:Int}{txt:Str}{env:fD}(hf:∀c e t,t<=(f c e t).2): ∀(j:Nat) (l:fF) (t:Nat),t<=(CG f op txt env j l t).2
 |_,[],_=>bm _
 |j,c::r,t=>by rw[CG];exact dG (hf _ _ _) (Dw hf (j+1) r _)
theorem Jj(p:aw)(a b g P:fD): ∀(k:Nat) (node:Int) (env:fD) (t:Nat),t<=(spE p a b g P k node env t).2
 |0,_,_,_=>bm _
 |k+1,node,env,t=>by
  rw[spE]
  refine dG ?_ (Dw (Jj p a b g P k) _ _ _)
  split<;>omega
def okE(p:aw):Nat->Int->Nat->Prop
 |0,_,_=>False
 |k+1,node,size=>InR node p.nodes.length/\Bn p (As p node) size=true /\ ∀(j:Nat) (h:j<(As p node).ah.length),okE p k ((As p node).ah[j]) (if(As p node).op=9/\j=1 then size+1 else size)
def cSp0(p:aw)(a b c:fD):D:=.am [sl (p.aa.map cBClass),dI p.ae,sl (cI p.aj),sl (p.methods.map Ag),sl (p.nodes.map Ab),dI p.main,sl (cS a),sl (cS b),sl (cS c)] 0
theorem Nc{a b:Sig}{i:Nat}{c c':DObj}(h:Sub (a.set i c) b):Sub (a.set i c') (b.set i c'):=fun k z hk=>by
 by_cases f6:k=i
 ·subst f6;rw[w7]at hk⊢; exact hk
 ·rw[w8 _ _ f6]at hk⊢; exact h k z (by rw[w8 _ _ f6];exact hk)
theorem Oq(p:aw)(a b g P:fD)(hp:p.wt<=1073741824)(ha:a.length=3+p.aa.length)(jD:a.length<=1073741824)(hb:(b.length:Int)=p.ae)(jC:b.length<=1073741824)(hg:g.length=p.aj.length)(hP:P.length<=1073741824): ∀(k:Nat) (node:Int) (env:fD) (o:Own) (t ib:Nat) (V:Sig),okE p k node env.length->env.length+k<=1073741824->(spE p a b g P k node env t).2<=P.length->V ib=some (.cells [cSp0 p a b g,sl (cS P),dI t])->
  au prog 144 [.ptr ib 0,dI node,.slice (cS env) o] V fun x S'=>x=.ret (.agg (Al (spE p a b g P k node env t).1))/\S'=V.set ib (.cells [cSp0 p a b g,sl (cS P),dI (spE p a b g P k node env t).2]):=by
 obtain⟨p1,p2,p3,p4,p5,p6,p7⟩:=p.wt_le
 intro k
 induction k with
 |zero=>intro node env o t ib V h;exact h.elim
 | succ k ih =>
  intro node env o t ib V iv jv hT gK
  rw[okE]at iv
  obtain⟨⟨h0,hq⟩,gu,f0⟩:=iv
  obtain⟨q,rfl⟩:∃q:Nat,node=(q:Int):=⟨node.toNat,by omega⟩
  have hq:q<p.nodes.length:=by omega
  have i0:As p q=p.nodes[q]:=by unfold As;rw[show((q:Int)).toNat=q by omega,aM hq];rfl
  rw[spE]at hT⊢
  rw[i0]at hT gu f0⊢
  generalize hx:p.nodes[q]=x at*
  have jq:x.ah.length<=1073741824:=by
   have:=p7 q hq
   rw[hx]at this
   have jr:x.wt=1+x.ah.length:=rfl
   omega
  generalize hL:CG (spE p a b g P k) x.op (Cp a b g P x env t) env 0 x.ah (if x.op=9 then t+1 else t)=L at*
  have iQ:(if x.op=9 then t+1 else t)<=L.2:=by rw[<-hL];exact Dw (Jj p a b g P k) _ _ _
  have gn:cSp0 p a b g=.am [sl (p.aa.map cBClass),dI p.ae,sl (cI p.aj),sl (p.methods.map Ag),sl (p.nodes.map Ab),dI p.main,sl (cS a),sl (cS b),sl (cS g)] 0:=rfl
  have r3:x.op=3->InR x.n env.length:=fun h=>by simpa[Bn,h,InR] using gu
  have r47:x.op=4\/x.op=7->InR x.n b.length:=fun h=>by rcases h with h|h<;>simpa[Bn,h,InR,hb] using gu
  have r5:x.op=5->InR x.n g.length:=fun h=>by simpa[Bn,h,InR,hg] using gu
  have r68:x.op=6\/x.op=8->InR x.n a.length:=fun h=>by
   have:3<=x.n/\x.n<3+p.aa.length:=by rcases h with h|h<;>simpa[Bn,h] using gu
   exact⟨by omega,by omega⟩
  have r9:x.op=9->t<P.length:=fun h=>by rw[aS h]at iQ;omega
  refine en func144 ntmps144 ?_
  try refine gz ?_ o144 [6,8]
  refine newV (fun i6 d9=>?_)
  have n6:ib≠i6:=A0 gK d9
  try refine gf (gi gK (gi hx gn)) ?_ o144 [6,8]
  refine newV (fun i8 gk=>?_)
  have n68:i6≠i8:=fun e=>by rw[<-e,w7]at gk;cases gk
  have n8:ib≠i8:=A0 gK (A4 gk).2
  generalize gx:V.set i6 (.cells [dI 0,dI 0,.str [],.ak])=S1
  have d8:S1 ib=some (.cells [cSp0 p a b g,sl (cS P),dI t]):=by rw[<-gx,w8 _ _ n6];exact gK
  have d6:∀(tx:Str) (m:Int),m=(if x.op=1 then x.n else 0)->tx=Cp a b g P x env t->¬x.op=9->Sub ((S1.set i8 (.cells [dI x.op,dI (if x.op=1 then x.n else 0),.str (Cp a b g P x env t),.ak])).set ib (.cells [cSp0 p a b g,sl (cS P),dI (if x.op=9 then t+1 else t:Nat)])) (S1.set i8 (.cells [dI x.op,dI m,.str tx,.ak])):=fun tx m h1 h2 h3=>by
   rw[h1,h2,aN h3,Sig.set_self _ (by rw[w8 _ _ n8];exact d8)]
   exact Sub.refl _
  repeat ((fail_if_success (first|(refine dwp_cut1 (x1:=.seq _ (.block 0 _)) [] ((S1.set i8 (.cells [dI x.op,dI (if x.op=1 then x.n else 0),.str (Cp a b g P x env t),.ak])).set ib (.cells [cSp0 p a b g,sl (cS P),dI (if x.op=9 then t+1 else t:Nat)])) ?_ (fun _ hK=>?_))|fail));(refine goX1 trivial ?_))
  refine dwp_cut1 (x1:=.seq _ (.block 0 _)) [] ((S1.set i8 (.cells [dI x.op,dI (if x.op=1 then x.n else 0),.str (Cp a b g P x env t),.ak])).set ib (.cells [cSp0 p a b g,sl (cS P),dI (if x.op=9 then t+1 else t:Nat)])) ?_ (fun _ hK=>?_)
  ·generalize (if x.op=1 then x.n else 0)=num at*
   generalize ju:Cp a b g P x env t=txt at*
   generalize (if x.op=9 then t+1 else t)=t0 at*
   refine Ak i8 3 4 (ds:=[dI x.op,dI num,.str txt,.ak]) (by rw[w8 _ _ (aQ n8)];exact w7 ..) rfl fun it e7=>?_
   have e9:S1 it=none:=(A4 (A4 e7).2).2
   have nbt:ib≠it:=A0 d8 e9
   have n8t:i8≠it:=fun e=>by have:=(A4 e7).2;rw[<-e,w7]at this;cases this
   generalize gw:Sig.set (Sig.set (Sig.set _ ib _) it _) i8 _=S2
   have q8:S2 i8=some (.cells [dI x.op,dI num,.str txt,.slice (([]:List aB).map Al) (.tag it)]):=by rw[<-gw];exact w7 ..
   have qt:S2 it=some (.tail 4 ([]:List aB).length):=by rw[<-gw,w8 _ _ (aQ n8t)];exact w7 ..
   have qS:Sub (V.set ib (.cells [cSp0 p a b g,sl (cS P),dI t0])) S2:=by
    rw[<-gw,<-gx]
    refine Sub.set (Sub.set ?_ ?_) ?_
    ·refine Sub.both ((((Sub.refl _).set d9)).set (A4 gk).2)
    ·rw[w8 _ _ (aQ nbt)];rw[<-gx]at e9;exact(A4 e9).2
    ·rw[w8 _ _ (aQ n8)];exact(A4 gk).2
   have s8:V i8=none:=(A4 gk).2
   have st:V it=none:=by rw[<-gx]at e9;exact(A4 e9).2
   have fJ:S1 i6=some (.cells [dI 0,dI 0,.str [],.ak]):=by rw[<-gx];exact w7 ..
   have n6t:i6≠it:=A0 fJ e9
   have s6:V i6=none:=d9
   have q6:S2 i6=some (.cells [dI 0,dI 0,.str [],.ak]):=by rw[<-gw,w8 _ _ n68,w8 _ _ n6t,w8 _ _ (aQ n6),w8 _ _ n68];exact fJ
   clear gw d6 e7
   try refine gf q8 ?_ o144 [6,8]
   refine Po [0,2,6,7,8,106,107,137] (fun (j:Nat) (out:List aB) (t':Nat) (S3:Sig)=>j<=x.ah.length/\out.length=j/\out++(CG (spE p a b g P k) x.op txt env j (x.ah.drop j) t').1=L.1/\(CG (spE p a b g P k) x.op txt env j (x.ah.drop j) t').2=L.2/\S3 i8=some (.cells [dI x.op,dI num,.str txt,.slice (out.map Al) (.tag it)])/\S3 it=some (.tail 4 out.length)/\S3 i6=some (.cells [dI 0,dI 0,.str [],.ak])/\Sub (V.set ib (.cells [cSp0 p a b g,sl (cS P),dI t'])) S3) (fun j _ _ _=>[(108,dI j)]) (fun _ _ _ S3=>S3) (fun j _ _ _=>x.ah.length-j) (0) ([]) (t0) (S2) (by exact⟨by omega,rfl,by rw[<-hL];rfl,by rw[<-hL];rfl,q8,qt,q6,qS⟩) (fun j out t' S3 hI=>?_)
   obtain⟨hj,jy,hR,f9,o8,ot,o6,oS⟩:=hI
   by_cases gU:j<x.ah.length
   ·rw[A2 gU,CG]at hR f9
    have f6:=f0 j gU
    have iW:out.length+1=j+1:=by omega
    have gg:S3 ib=some (.cells [cSp0 p a b g,sl (cS P),dI t']):=oS _ _ (w7 ..)
    have u8:(S3.out fun j=>j=ib\/j=it) i8=_:=BO o8 (by rintro(h|h);exact n8 h.symm;exact n8t h)
    have nt':it≠ib:=aQ nbt
    have nt8:it≠i8:=aQ n8t
    have n8':i8≠ib:=aQ n8
    have gA:=hT
    rw[<-f9]at gA
    have gj:∀{c:DObj} (τ:Sig),Sub S3 τ->Sub (S3.out fun j=>j=ib\/j=it) (τ.set ib c):=fun τ hO j z hz=>by
     obtain⟨h1,h2⟩:=Bm hz
     rw[w8 _ _ fun e=>h2 (.inl e)];exact hO _ _ h1
    have fQ:∀{c:DObj} (τ:Sig),Sub S3 τ->Sub (S3.out fun j=>j=ib\/j=it) ((τ.set ib c).set it (.tail 4 (out.length+1))):=fun τ hO j z hz=>by
     obtain⟨h1,h2⟩:=Bm hz
     rw[w8 _ _ fun e=>h2 (.inr e)];exact gj τ hO _ _ hz
    have go:∀(e:aB) (c:DObj) (τ:Sig),Sub S3 τ->(((τ.set ib c).set it (.tail 4 (out.length+1))).set i8 (.cells [dI x.op,dI num,.str txt,.slice ((out++[e]).map Al) (.tag it)])) it=some (.tail 4 (out++[e]).length)/\(((τ.set ib c).set it (.tail 4 (out.length+1))).set i8 (.cells [dI x.op,dI num,.str txt,.slice ((out++[e]).map Al) (.tag it)])) i6=some (.cells [dI 0,dI 0,.str [],.ak])/\Sub (V.set ib c) (((τ.set ib c).set it (.tail 4 (out.length+1))).set i8 (.cells [dI x.op,dI num,.str txt,.slice ((out++[e]).map Al) (.tag it)])):=fun e c τ hO=>
     ⟨by rw[w8 _ _ nt8,w7,aH];rfl,by rw[w8 _ _ n68,w8 _ _ n6t,w8 _ _ (aQ n6)];exact hO _ _ o6,((Nc (oS.trans hO)).set (by rw[w8 _ _ nt'];exact st)).set (by rw[w8 _ _ n8'];exact s8)⟩
    by_cases c91:x.op=9/\j=1
    ·rw[aS c91]at hR f9 f6 gA
     obtain⟨c9,rfl⟩:=c91
     have jh:cS (env++[txt])=cS env++[[.str txt]]:=by simp[cS]
     try refine gf o8 ?_ (delO 25 o144) [6,8]
     refine TA (fun i4 f7=>?_)
     have nib4:ib≠i4:=A0 gg f7
     have nt4:it≠i4:=A0 ot f7
     have n84:i8≠i4:=A0 o8 f7
     have gC:Sub S3 (S3.set i4 (.tail (tab 9).size ((cS env).length+[[D.str txt]].length))):=(Sub.refl _).set f7
     have gV:(S3.set i4 (.tail (tab 9).size ((cS env).length+[[D.str txt]].length))) ib=some (.cells [cSp0 p a b g,sl (cS P),dI t']):=by rw[w8 _ _ nib4];exact gg
     have iR:(S3.set i4 (.tail (tab 9).size ((cS env).length+[[D.str txt]].length))) it=some (.tail 4 out.length):=by rw[w8 _ _ nt4];exact ot
     have jp:(S3.set i4 (.tail (tab 9).size ((cS env).length+[[D.str txt]].length))) i8=_:=(w8 _ _ n84).trans o8
     generalize S3.set i4 (.tail (tab 9).size ((cS env).length+[[D.str txt]].length))=S4 at*
     try refine gz ?_ (delO 25 o144) [6,8]
     refine CI (id:=25) [0,1,2,3,4,5,6,7,8] [5,7] (S3.out fun j=>j=ib\/j=it) ((AU _ _).trans gC) ?_
     have g9:=(AU S3 fun j=>j=ib\/j=it).trans gC
     try refine gf u8 ?_ o144 [6,8]
     have iJ:=ih (x.ah[1]) (env++[txt]) .no t' ib S4 (by simpa using f6) (by simp;omega) (dG (Dw (Jj p a b g P k) _ _ _) gA) gV
     rw[jh]at iJ
     refine C1 iJ (fun d S5 hx=>?_) (fun d S5 hx=>by cases hx.1)
     obtain⟨ga,rfl⟩:=hx
     cases ga
     refine⟨gj _ gC,?_⟩
     simp only[putD]
     have fZ:=fQ (c:=.cells [cSp0 p a b g,sl (cS P),dI (spE p a b g P k x.ah[1] (env++[txt]) t').2]) _ gC
     try refine gf (gi iR jp) ?_ o144 [6,8]
     have d7:=go (spE p a b g P k x.ah[1] (env++[txt]) t').1 (.cells [cSp0 p a b g,sl (cS P),dI (spE p a b g P k x.ah[1] (env++[txt]) t').2]) S4 gC
     exact⟨2,out++[(spE p a b g P k x.ah[1] (env++[txt]) t').1],(spE p a b g P k x.ah[1] (env++[txt]) t').2,((S4.set ib (.cells [cSp0 p a b g,sl (cS P),dI (spE p a b g P k x.ah[1] (env++[txt]) t').2])).set it (.tail 4 (out.length+1))).set i8 (.cells [dI x.op,dI num,.str txt,.slice ((out++[(spE p a b g P k x.ah[1] (env++[txt]) t').1]).map Al) (.tag it)]),⟨by omega,by simp;omega,by rw[aT];exact hR,f9,w7 .., d7.1,d7.2.1,d7.2.2⟩,td1,wkR⟩
    ·rw[aN c91]at hR f9 f6 gA
     repeat' first|refine gf o8 ?_ (delO 25 o144) [6,8]|apply gy<;>intro hh
     all_goals
      refine CI (id:=25) [0,1,2,3,4,5,6,7,8] [5,7] (S3.out fun j=>j=ib\/j=it) (AU _ _) ?_
      try refine gf u8 ?_ o144 [6,8]
      refine C1 (ih (x.ah[j]) env o t' ib S3 f6 (by omega) (dG (Dw (Jj p a b g P k) _ _ _) gA) gg) (fun d S5 hx=>?_) (fun d S5 hx=>by cases hx.1)
      obtain⟨ga,rfl⟩:=hx
      cases ga
      refine⟨gj _ (Sub.refl _),?_⟩
      simp only[putD]
      have fZ:=fQ (c:=.cells [cSp0 p a b g,sl (cS P),dI (spE p a b g P k x.ah[j] env t').2]) _ (Sub.refl S3)
      try refine gf (gi ot o8) ?_ o144 [6,8]
      have d7:=go (spE p a b g P k x.ah[j] env t').1 (.cells [cSp0 p a b g,sl (cS P),dI (spE p a b g P k x.ah[j] env t').2]) S3 (Sub.refl _)
      exact⟨j+1,out++[(spE p a b g P k x.ah[j] env t').1],(spE p a b g P k x.ah[j] env t').2,((S3.set ib (.cells [cSp0 p a b g,sl (cS P),dI (spE p a b g P k x.ah[j] env t').2])).set it (.tail 4 (out.length+1))).set i8 (.cells [dI x.op,dI num,.str txt,.slice ((out++[(spE p a b g P k x.ah[j] env t').1]).map Al) (.tag it)]),⟨by omega,by simp;omega,by rw[aT];exact hR,f9,w7 .., d7.1,d7.2.1,d7.2.2⟩,td1,wkR⟩
   ·have jB:j=x.ah.length:=by omega
    rw[A1 gU,CG]at hR f9
    rw[bb]at hR
    rw[<-hR,<-f9]
    refine dwp_wk (BW (az:=[dI x.op,dI num,.str txt]) (bs:=[]) (d':=sl (out.map Al)) o8 (Ao _ _)) ?_
    try refine gf o6 ?_ o144 [6,8]
    exact finC (S':=V.set ib (.cells [cSp0 p a b g,sl (cS P),dI t'])) ⟨rfl,rfl⟩ (hw:=by refine AM ?_;simp[CF,aB.op,aB.n,aB.text,aB.ah]) (hZ:=(oS.set (by rw[w8 _ _ (aQ n8)];exact s8)).set (by rw[w8 _ _ (aQ n6)];exact s6))
  ·repeat' first|refine gz ?_ o144 [6,8]|apply gy<;>intro hh
   ·have c:x.op=1:=by assumption
    exact dwp_wk (Ae (by first|(simp;done)|(simp_all;done)) (d6 _ _ (by simp[c]) (by simp[Cp,c]) (by omega))) hK
   ·have c:x.op=3:=by assumption
    obtain⟨m,hm,gv,e8⟩:=BX (r3 c)
    try refine gf hm ?_ o144 [6,8]
    exact dwp_wk (Ae (by first|(simp;done)|(simp_all;done)) (d6 _ _ (by simp[c]) (by simp[Cp,c,e8]) (by omega))) hK
   ·have c:x.op=4:=by assumption
    obtain⟨m,hm,gv,e8⟩:=BX (r47 (.inl c))
    try refine gf (gi hm (gi d8 gn)) ?_ o144 [6,8]
    exact dwp_wk (Ae (by first|(simp;done)|(simp_all;done)) (d6 _ _ (by simp[c]) (by simp[Cp,c,e8]) (by omega))) hK
   ·have c:x.op=7:=by assumption
    obtain⟨m,hm,gv,e8⟩:=BX (r47 (.inr c))
    try refine gf (gi hm (gi d8 gn)) ?_ o144 [6,8]
    exact dwp_wk (Ae (by first|(simp;done)|(simp_all;done)) (d6 _ _ (by simp[c]) (by simp[Cp,c,e8]) (by omega))) hK
   ·have c:x.op=5:=by assumption
    obtain⟨m,hm,gv,e8⟩:=BX (r5 c)
    try refine gf (gi hm (gi d8 gn)) ?_ o144 [6,8]
    exact dwp_wk (Ae (by first|(simp;done)|(simp_all;done)) (d6 _ _ (by simp[c]) (by simp[Cp,c,e8]) (by omega))) hK
   ·have c:x.op=6:=by assumption
    obtain⟨m,hm,gv,e8⟩:=BX (r68 (.inl c))
    try refine gf (gi hm (gi d8 gn)) ?_ o144 [6,8]
    exact dwp_wk (Ae (by first|(simp;done)|(simp_all;done)) (d6 _ _ (by simp[c]) (by simp[Cp,c,e8]) (by omega))) hK
   ·have c:x.op=8:=by assumption
    obtain⟨m,hm,gv,e8⟩:=BX (r68 (.inr c))
    try refine gf (gi hm (gi d8 gn)) ?_ o144 [6,8]
    exact dwp_wk (Ae (by first|(simp;done)|(simp_all;done)) (d6 _ _ (by simp[c]) (by simp[Cp,c,e8]) (by omega))) hK
   ·have c:x.op=9:=by assumption
    have ht:=r9 c
    have e8:ixS P t=P[t]:=by unfold ixS;rw[show((t:Int)).toNat=t by omega,aM ht];rfl
    try refine gf d8 ?_ o144 [6,8]
    refine dwp_wk (Ae (by simp) (AQ ?_)) hK
    simp[Cp,c,e8]
   ·exact dwp_wk (Ae (by first|(simp;done)|(simp_all;done)) (d6 _ _ (by simp[*]) (by simp[Cp, *]) (by assumption))) hK
def RowW(S':Sig)(es:fH)(E:D):MR->Prop
 |none=>E=.slice [] .clip/\es=[]
 |some (r,_,rest)=>E=.ap r 0 es.length es.length/\S' r=some (.cells (es.flatten++rest))
theorem RO(st:MR)(es:fH)(V:Sig)(hr:RowAt V 4 st es)(hn:es.length<=1073741824):au prog 214 [mD st es.length] V fun x S'=>(∃E,x=.ret E/\RowW V es E st)/\S'=V:=by
 cases st with
 |none=>
  have he:es=[]:=hr
  subst he
  show au prog 214 [.ak] V _
  refine en func214 ntmps214 ?_
  try refine gz ?_
  exact fin1 (S':=V) ⟨⟨_,rfl,rfl,rfl⟩,rfl⟩
 |some x=>
  obtain⟨r,cap,rest⟩:=x
  obtain⟨h1,h2,h3,h4⟩:=hr
  show au prog 214 [.ap r 0 es.length cap] V _
  refine en func214 ntmps214 ?_
  try refine gz ?_
  refine Sz Af (off:=0) (m:=es.length) (cap:=cap) ?_ (by decide) (by simp<;>rfl) (by simp) rfl rfl rfl (bm _) h3
  try refine gz ?_
  exact fin1 (S':=V) ⟨⟨_,rfl,rfl,h1⟩,rfl⟩
theorem RZ(l:List ax)(h:ax->aD)(g:Nat)(cap:fE)(o:Own)(V:Sig)(hl:l.length<=1073741824)
  (hg:∀x∈l, ∀S',Sub V S'->au prog g ([]++[.agg (cBClass x)]++cap) S' fun r S''=>r=.ret (.agg (cFClass (h x)))/\S''=S') :
  au prog 135 [.slice (l.map cBClass) o,.func (.func g) [] cap] V fun x S'=> ∃E st,x=.ret E/\RowW S' ((l.map h).map cFClass) E st/\Sub V S' /\ ∀j x,V j=some x->¬Bt st j:=by
 refine en func135 ntmps135 ?_
 try refine gz ?_
 refine Ro [1,4,8,9,21,22] (fun (k:Nat) (out:List aD) (E:D) (st:MR) (S1:Sig)=>k<=l.length/\out++(l.drop k).map h=l.map h/\E=mD st out.length/\RowAt S1 4 st (out.map cFClass)/\Sub V S1 /\ ∀j x,V j=some x->¬Bt st j) (fun k _ E _ _=>[(10,dI k),(5,E)]) (fun _ _ _ _ S1=>S1) (fun k _ _ _ _=>l.length-k) (0) ([]) (.ak) (none) (V) (by exact⟨by omega,rfl,rfl,rfl,Sub.refl _,fun _ _ _=>id⟩) (fun k out E st S1 hI=>?_)
 obtain⟨hk,hR,rfl,fN,hS,hN⟩:=hI
 have hlen:=bF List.length hR
 simp at hlen
 by_cases hh:k<l.length
 ·rw[A2 hh]at hR
  repeat' first|refine Aq (hg (l[k]) (aJ hh) _ hS) ?_|refine callP (hg (l[k]) (aJ hh) _ hS) ?_|refine gf hh ?_|apply gy<;>intro hh
  refine rapp (es:=out.map cFClass) (fun st2 S2 gH iE=>?_) (hm:=fN)
  try refine gz ?_
  exact⟨k+1,out++[h l[k]],mD st2 (out++[h l[k]]).length,st2,S2,⟨by omega,by rw[aT];exact hR,rfl,by rw[bI];exact gH,fun j x hj=>(iE _ _ (hS _ _ hj) (hN _ _ hj)).1,fun j x hj=>(iE _ _ (hS _ _ hj) (hN _ _ hj)).2⟩,td1,wkR⟩
 ·try refine gf hh ?_
  rw[A1 hh]at hR
  simp at hR
  have gG:=RO st (out.map cFClass) S1 fN (by rw[aZ];omega)
  rw[aZ]at gG
  refine Ac gG (fun d S2 hr=>?_) (fun d S2 hr=>by obtain⟨⟨_,h,_⟩,_⟩:=hr;cases h)
  obtain⟨⟨E,e1,hW⟩,rfl⟩:=hr
  cases e1
  try refine gz ?_
  exact fin1 (S':=S2) ⟨d,st,rfl,by rw[<-hR];exact hW,hS,hN⟩
theorem Bx(n:Nat):(AW n).length=n:=by unfold AW;rw[Le];simp
def spA(p:aw):fD:=[wAny,wInt,H9]++AW p.aa.length
def spS(p:aw):fD:=AW p.ae.toNat
def spG(p:aw):fD:=AW p.aj.length
def spL(p:aw):fD:=AW (p.nodes.length+3)
def D5(p:aw)(m:ay):Nat:=(p.aj.getD m.gen.toNat 0).toNat
def spM(p:aw)(m:ay):aE:=⟨m.kind,ixS (spG p) m.gen,(spL p).take (D5 p m),spF (spA p) (spS p) ((spL p).take (D5 p m)) m.fact,(spE p (spA p) (spS p) (spG p) (spL p) 12 m.node ((spL p).take (D5 p m)) (D5 p m)).1⟩
def spCs(p:aw):List aD:=(p.aa.zip (AW p.aa.length)).map fun x=>{ spC (spA p) (spS p) x.1 with name:=x.2 }
def Ba(p:aw):aF:=⟨spCs p,p.methods.map (spM p),(spE p (spA p) (spS p) (spG p) (spL p) 12 p.main [] 0).1⟩
structure MetOK(p:aw)(m:ay):Prop where
 gen:InR m.gen p.aj.length
 par:0<=p.aj.getD m.gen.toNat 0/\D5 p m<=p.nodes.length+3
 fact:FIx (3+p.aa.length) p.ae.toNat (D5 p m) m.fact
 body:okE p 12 m.node (D5 p m)
 left:(spE p (spA p) (spS p) (spG p) (spL p) 12 m.node ((spL p).take (D5 p m)) (D5 p m)).2<=p.nodes.length+3
structure SpOK(p:aw):Prop where
 wt:p.wt<=100000000
 ae:0<=p.ae/\p.ae<=100000000
 cls:∀c∈p.aa,ClsIx (3+p.aa.length) p.ae.toNat c
 met:∀m∈p.methods,MetOK p m
 main:okE p 12 p.main 0
 left:(spE p (spA p) (spS p) (spG p) (spL p) 12 p.main [] 0).2<=p.nodes.length+3
theorem Qw(p:aw)(V:Sig)(hp:SpOK p):au prog 56 [.agg (Ai p)] V (rS (.agg (Bd (Ba p))) V):=by
 obtain⟨p1,p2,p3,p4,p5,p6,p7⟩:=p.wt_le
 have jt:=hp.wt
 obtain⟨s0,s1⟩:=hp.ae
 obtain⟨sn,iU⟩:∃n:Nat,p.ae=n:=⟨p.ae.toNat,by omega⟩
 have fP:p.ae.toNat=sn:=by omega
 have gJ:(spA p).length=3+p.aa.length:=by unfold spA;rw[aH,Bx];rfl
 have iB:(spS p).length=sn:=by unfold spS;rw[Bx,fP]
 have iD:(spG p).length=p.aj.length:=Bx _
 have iC:(spL p).length=p.nodes.length+3:=Bx _
 have fK:cSp p (spA p) (spS p) (spG p)=.am [.am [sl (p.aa.map cBClass),dI p.ae,sl (cI p.aj),sl (p.methods.map Ag),sl (p.nodes.map Ab),dI p.main,sl (cS (spA p)),sl (cS (spS p)),sl (cS (spG p))] 0] 0:=rfl
 have k1:=fun (V:Sig)=>G0 p.aa.length V (by omega)
 have k2:=fun (V:Sig)=>G0 sn V (by omega)
 have k3:=fun (V:Sig)=>G0 p.aj.length V (by omega)
 refine en func56 ntmps56 ?_
 try refine gz ?_ o56 [2,4,6,77,109]
 refine newV (fun i2 gL=>?_)
 repeat' first|refine gz ?_ [] [2,4,6,77,109]|refine Aq (k1 _) ?_|refine callP (k1 _) ?_|refine moR (k1 _) ?_|refine moP (k1 _) ?_|refine gz ?_ (delO 2 o56) [2,4,6,77,109]|apply gy<;>intro hh
 refine mixL (id:=2) [0,1,2,4,5,7,8,9,3,6,10,11,12,13] [13] ?_
 try refine gz ?_ (delO 2 o56) [2,4,6,77,109]
 refine moQAppC (es:=cS [wAny,wInt,H9]) (new:=cS (AW p.aa.length)) ?_ (hm:=by simp[Bx];omega) (hb:=by simp[Bx];omega)
 have ji:cS [wAny,wInt,H9]++cS (AW p.aa.length)=cS (spA p):=by unfold spA;simp[cS]
 rw[ji,iU]
 refine WE (fun S' _=>(k2 S').mono fun x S'' hx=>⟨hx.1,hx.2 ▸ Sub.refl _⟩) ?_
 refine WE (fun S' _=>(k3 S').mono fun x S'' hx=>⟨hx.1,hx.2 ▸ Sub.refl _⟩) ?_
 try refine gz ?_ (delO 2 o56) [2,4,6,77,109]
 refine NA (fun i4 f7=>?_)
 have n24:i2≠i4:=fun e=>by rw[<-e,w7]at f7;cases f7
 repeat ((fail_if_success (first|(refine dwp_wk (H7 (i:=i4) (t:=4) (w7 ..) (by rfl)) ?_)|fail));(refine goX1 trivial ?_))
 refine dwp_wk (H7 (i:=i4) (t:=4) (w7 ..) (by rfl)) ?_
 have eS:AW sn=spS p:=by unfold spS;rw[fP]
 have eG:AW p.aj.length=spG p:=rfl
 have gX:∀(τ:Sig) (o:DObj),τ i4=none->(τ.set i4 o).del i4=τ:=fun τ o h=>by
  funext j;simp only[Sig.set,Sig.del];split
  ·rename_i e;rw[e,h]
  ·rfl
 rw[gX _ _ f7,eS,eG]
 clear k1 k2 k3
 have k4:∀(V:Sig),au prog 134 [dI (p.nodes.length+3:Nat)] V (rS (sl (cS (spL p))) V):=fun V=>G0 (p.nodes.length+3) V (by omega)
 have k5:∀(V:Sig),au prog 135 _ V _:=fun V=>RZ p.aa (spC (spA p) (spS p)) 136 [cSp p (spA p) (spS p) (spG p)] .no V (by omega) (fun x hx S' _=>Vx p (spA p) (spS p) (spG p) x S' (by rw[gJ,iB,<-fP];exact hp.cls x hx) (by omega) (by omega) (by obtain⟨k,hk,rfl⟩:=bh hx;have:=p5 k hk;omega))
 rw[fK]at k5
 have iy:((p.nodes.length:Int)+3)=((p.nodes.length+3:Nat):Int):=by omega
 repeat ((fail_if_success (first|(refine dwp_cutE3 (x3:=.seq _ (.block 0 _)) (fun i=>(V.set i2 (.cells [.ak,.ak,dI 0,dI 0,.str [],.ak])) i=none) (fun i=>[(6,.ptr i 0),(5,sl (cS (spL p))),(4,cSp p (spA p) (spS p) (spG p)),(2,.ptr i2 0),(1,.am (Ai p) 0)]) (fun i=>(V.set i2 (.cells [.ak,.ak,dI 0,dI 0,.str [],.ak])).set i (.cells [sl ((spCs p).map cFClass),.ak,dI 0,dI 0,.str [],.ak])) (fun i6 d9=>?_) (fun _ hK=>?_))|fail));(refine goX1 trivial ?_))
 refine dwp_cutE3 (x3:=.seq _ (.block 0 _)) (fun i=>(V.set i2 (.cells [.ak,.ak,dI 0,dI 0,.str [],.ak])) i=none) (fun i=>[(6,.ptr i 0),(5,sl (cS (spL p))),(4,cSp p (spA p) (spS p) (spG p)),(2,.ptr i2 0),(1,.am (Ai p) 0)]) (fun i=>(V.set i2 (.cells [.ak,.ak,dI 0,dI 0,.str [],.ak])).set i (.cells [sl ((spCs p).map cFClass),.ak,dI 0,dI 0,.str [],.ak])) (fun i6 d9=>?_) (fun _ hK=>?_)
 ·refine Ak i6 1 13 (ds:=[sl ((spCs p).map cFClass),.ak,dI 0,dI 0,.str [],.ak]) (w7 ..) rfl fun it e7=>?_
  have n26:i2≠i6:=fun e=>by rw[<-e,w7]at d9;cases d9
  have gF:V i6=none:=(A4 d9).2
  have n6t:i6≠it:=fun e=>by rw[<-e,w7]at e7;cases e7
  have fU:=(A4 e7).2
  have n2t:i2≠it:=fun e=>by rw[<-e,w7]at fU;cases fU
  have g8:V it=none:=(A4 fU).2
  generalize gB:Sig.set (Sig.set _ it _) i6 _=Sa
  have q6:Sa i6=some (.cells [sl ((spCs p).map cFClass),.slice (([]:List aE).map BZ) (.tag it),dI 0,dI 0,.str [],.ak]):=by rw[<-gB];exact w7 ..
  have qt:Sa it=some (.tail 13 ([]:List aE).length):=by rw[<-gB,w8 _ _ (aQ n6t)];exact w7 ..
  have q2:Sa i2=some (.cells [.ak,.ak,dI 0,dI 0,.str [],.ak]):=by rw[<-gB,w8 _ _ n26,w8 _ _ n2t,w8 _ _ n26];exact w7 ..
  have qS:Sub V Sa:=by rw[<-gB];exact((((Sub.refl _).set gL).set gF).set g8).set gF
  clear gB e7 fU
  have iK:cSp0 p (spA p) (spS p) (spG p)=.am [sl (p.aa.map cBClass),dI p.ae,sl (cI p.aj),sl (p.methods.map Ag),sl (p.nodes.map Ab),dI p.main,sl (cS (spA p)),sl (cS (spS p)),sl (cS (spG p))] 0:=rfl
  try refine gf fK ?_ o56 [2,4,6,77,109]
  refine CK [1,2,4,5,6,12,57,58,106,107,108,109,110,111,112,113,114,115] (fun (k:Nat) (ms:List aE) (S3:Sig)=>k<=p.methods.length/\ms=(p.methods.take k).map (spM p)/\S3 i6=some (.cells [sl ((spCs p).map cFClass),.slice (ms.map BZ) (.tag it),dI 0,dI 0,.str [],.ak])/\S3 it=some (.tail 13 ms.length)/\S3 i2=some (.cells [.ak,.ak,dI 0,dI 0,.str [],.ak])/\Sub V S3) (fun k _ _=>[(59,dI k)]) (fun _ _ S3=>S3) (fun k _ _=>p.methods.length-k) (0) ([]) (Sa) (by exact⟨by omega,rfl,q6,qt,q2,qS⟩) (fun k ms S3 hI=>?_)
  obtain⟨hk,gI,o6,ot,o2,oS⟩:=hI
  by_cases fL:k<p.methods.length
  ·have hM:=hp.met _ (aJ fL)
   have iO:=p6 k fL
   generalize hm:p.methods[k]=m at*
   obtain⟨gq,gM,je⟩:∃gq:Nat,m.gen=gq/\gq<p.aj.length:=⟨m.gen.toNat,by have:=hM.gen;unfold InR at this;omega,by have:=hM.gen;unfold InR at this;omega⟩
   have iV:p.aj[gq]=((D5 p m:Nat):Int):=by
    have h1:=hM.par.1
    unfold D5
    rw[gM,show((gq:Int)).toNat=gq by omega,bg,aM je]at*
    simp only[bP]at*
    omega
   have iq:=hM.par.2
   generalize fR:D5 p m=pn at*
   have iP:List.take pn (cS (spL p))=cS ((spL p).take pn):=by simp[cS,List.map_take]
   have g7:((spL p).take pn).length=pn:=by rw[cj];omega
   rw[fK]
   repeat ((fail_if_success (first|(refine boxV (T:=214) (fun i11 fO=>?_))|fail));(refine goX1 (gi hm (gi gM (gi iV iP))) ?_))
   refine boxV (T:=214) (fun i11 fO=>?_)
   have n611:i6≠i11:=A0 o6 fO
   have nt11:it≠i11:=A0 ot fO
   have n211:i2≠i11:=A0 o2 fO
   try refine gz ?_ (delO 15 o56) [2,4,6,77,109]
   generalize fM:S3.set i11 _=S4
   have b11:S4 i11=some (.cells [cSp0 p (spA p) (spS p) (spG p),sl (cS (spL p)),dI pn]):=by rw[<-fM];exact w7 ..
   have b6:S4 i6=some (.cells [sl ((spCs p).map cFClass),.slice (ms.map BZ) (.tag it),dI 0,dI 0,.str [],.ak]):=by rw[<-fM,w8 _ _ n611];exact o6
   have bt:S4 it=some (.tail 13 ms.length):=by rw[<-fM,w8 _ _ nt11];exact ot
   have b2:S4 i2=some (.cells [.ak,.ak,dI 0,dI 0,.str [],.ak]):=by rw[<-fM,w8 _ _ n211];exact o2
   have s11:V i11=none:=oS.none fO
   have bS:Sub V S4:=by rw[<-fM];exact oS.set s11
   clear fM
   have gW:gq<(spG p).length:=by omega
   have iY:ixS (spG p) m.gen=(spG p)[gq]:=by rw[gM];unfold ixS;rw[show((gq:Int)).toNat=gq by omega,aM gW];rfl
   have jf:m.fact.wt<=1073741824:=by unfold ay.wt at iO;omega
   have g6:=fun (S':Sig)=>Vr p (spA p) (spS p) (spG p) ((spL p).take pn) (by omega) (by omega) (by omega) 1073741824 m.fact .no S' jf (bm _) (by rw[gJ,iB,g7,<-fP,<-fR];exact hM.fact)
   have gh:=Oq p (spA p) (spS p) (spG p) (spL p) (by omega) gJ (by omega) (by omega) (by omega) iD (by omega) 12 m.node ((spL p).take pn) .no pn i11 S4 (by rw[g7,<-fR];exact hM.body) (by omega) (by rw[iC];have:=hM.left;rw[fR]at this;exact this) b11
   have u6:(S4.out fun j=>j=i11\/j=it) i6=_:=BO b6 (by rintro(h|h);exact n611 h;exact n6t h)
   refine CI (id:=15) [0,1,2,3,4,5,6,7,8,9,10,11,12,13,14,15,16,18,19,20,21,17,22,23,24,25,26] [22,25] (S4.out fun j=>j=i11\/j=it) (AU _ _) ?_
   try refine gf (gi u6 (gi hm gM)) ?_ o56 [2,4,6,77,109]
   refine WE (fun S' _=>(g6 S').mono fun x S'' hx=>⟨hx.1,hx.2 ▸ Sub.refl _⟩) ?_
   try refine gz ?_ o56 [2,4,6,77,109]
   refine C1 gh (fun d S5 hx=>?_) (fun d S5 hx=>by cases hx.1)
   obtain⟨ga,rfl⟩:=hx
   cases ga
   have gj:∀{c:DObj},Sub (S4.out fun j=>j=i11\/j=it) (S4.set i11 c):=fun j z hz=>by
    obtain⟨h1,h2⟩:=Bm hz
    rw[w8 _ _ fun e=>h2 (.inl e)];exact h1
   have fQ:∀{c:DObj},Sub (S4.out fun j=>j=i11\/j=it) ((S4.set i11 c).set it (.tail 13 (ms.length+1))):=fun j z hz=>by
    obtain⟨h1,h2⟩:=Bm hz
    rw[w8 _ _ fun e=>h2 (.inr e)];exact gj _ _ hz
   refine⟨gj,?_⟩
   simp only[putD]
   have fZ:=fQ (c:=.cells [cSp0 p (spA p) (spS p) (spG p),sl (cS (spL p)),dI (spE p (spA p) (spS p) (spG p) (spL p) 12 m.node (List.take pn (spL p)) pn).2])
   have ja:ms.length=k:=by rw[gI];simp;omega
   try refine gf (gi bt b6) ?_ o56 [2,4,6,77,109]
   generalize gr:Sig.set _ i6 _=qq
   have c6:qq i6=some (.cells [sl ((spCs p).map cFClass),.slice ((ms++[spM p m]).map BZ) (.tag it),dI 0,dI 0,.str [],.ak]):=by
    rw[<-gr,w7]
    simp[spM,iY,fR]
   have ct:qq it=some (.tail 13 (ms++[spM p m]).length):=by rw[<-gr,w8 _ _ (aQ n6t),w7,aH];rfl
   have c2:qq i2=some (.cells [.ak,.ak,dI 0,dI 0,.str [],.ak]):=by rw[<-gr,w8 _ _ n26,w8 _ _ n2t,w8 _ _ n211];exact b2
   have cS:Sub V qq:=by rw[<-gr];exact((bS.set s11).set g8).set gF
   have gR:ms++[spM p m]=(p.methods.take (k+1)).map (spM p):=by rw[gI,<-List.take_append_getElem fL,bI,hm];rfl
   clear gr
   exact⟨k+1,ms++[spM p m],qq,⟨by omega,gR,c6,ct,c2,cS⟩,td1,wkR⟩
  ·rw[fK]
   refine dwp_wk (BW (az:=[sl ((spCs p).map cFClass)]) (bs:=[dI 0,dI 0,.str [],.ak]) (d':=sl (ms.map BZ)) o6 (Ao _ _)) ?_
   generalize gN:S3.set i6 _=S5
   have o6:S5 i6=some (.cells [sl ((spCs p).map cFClass),sl (ms.map BZ),dI 0,dI 0,.str [],.ak]):=by rw[<-gN];exact w7 ..
   have o2:S5 i2=some (.cells [.ak,.ak,dI 0,dI 0,.str [],.ak]):=by rw[<-gN,w8 _ _ n26];exact o2
   have oS:Sub V S5:=by rw[<-gN];exact oS.set gF
   clear gN ot
   repeat ((fail_if_success (first|(refine boxV (T:=214) (fun i12 fV=>?_))|fail));(refine goX1 trivial ?_))
   refine boxV (T:=214) (fun i12 fV=>?_)
   have n612:i6≠i12:=A0 o6 fV
   have n212:i2≠i12:=A0 o2 fV
   try refine gz ?_ o56 [2,4,6,77,109]
   generalize fM:S5.set i12 _=S4
   have b12:S4 i12=some (.cells [cSp0 p (spA p) (spS p) (spG p),sl (cS (spL p)),dI (0:Nat)]):=by rw[<-fM];exact w7 ..
   have b6:S4 i6=some (.cells [sl ((spCs p).map cFClass),sl (ms.map BZ),dI 0,dI 0,.str [],.ak]):=by rw[<-fM,w8 _ _ n612];exact o6
   have b2:S4 i2=some (.cells [.ak,.ak,dI 0,dI 0,.str [],.ak]):=by rw[<-fM,w8 _ _ n212];exact o2
   have s12:V i12=none:=oS.none fV
   have bS:Sub V S4:=by rw[<-fM];exact oS.set s12
   clear fM
   have gh:=Oq p (spA p) (spS p) (spG p) (spL p) (by omega) gJ (by omega) (by omega) (by omega) iD (by omega) 12 p.main [] .no 0 i12 S4 hp.main (by simp) (by rw[iC];exact hp.left) b12
   have gT:k=p.methods.length:=by omega
   rw[gT,dr]at gI
   subst gI
   refine Ac (gh.wk (args:=[.ptr i12 0,dI p.main,.ak]) ⟨A9 _,A9 _,Am _ (.inl rfl),trivial⟩) (fun d S6 hx=>?_) (fun d S6 hx=>by cases hx.1)
   obtain⟨ga,rfl⟩:=hx
   cases ga
   simp only[putD]
   try refine gf (gi b6 b2) ?_ o56 [2,4,6,77,109]
   exact finC (S':=V) ⟨rfl,rfl⟩ (hw:=by refine AM ?_;simp[Ba]) (hZ:=((bS.set s12).set gF).set gL)
 ·repeat' first|refine gf iy ?_ [] [2,4,6,77,109]|refine Aq (k4 _) ?_|refine callP (k4 _) ?_|refine moR (k4 _) ?_|refine moP (k4 _) ?_|refine gf iy ?_ o56 [2,4,6,77,109]|apply gy<;>intro hh
  refine Ac (k5 _) (fun d S1 hr=>?_) (fun d S1 hr=>by obtain⟨_,_,h,_⟩:=hr;cases h)
  obtain⟨E,st,e1,hW,gD,iL⟩:=hr
  cases e1
  have o2:S1 i2=some (.cells [.ak,.ak,dI 0,dI 0,.str [],.ak]):=gD _ _ (w7 ..)
  have r2:¬Bt st i2:=iL _ _ (w7 ..)
  have gE:Sub V S1:=((Sub.refl _).set gL).trans gD
  have gZ:∀j x,V j=some x->¬Bt st j:=fun j x hj=>iL _ _ (by rw[w8 _ _ (A0 hj gL)];exact hj)
  simp only[putD]
  cases st with
  |none=>
   obtain⟨rfl,gQ⟩:=hW
   have jg:p.aa=[]:=by simpa using gQ
   try refine gz ?_ o56 [2,4,6,77,109]
   refine newV (fun i6 d9=>?_)
   have n26:i2≠i6:=A0 o2 d9
   have fJ:=gD.none d9
   try refine gz ?_ o56 [2,4,6,77,109]
   refine B5 [1,2,3,4,5,6,9,10,11,12,42,56,57,58,59,60,61,62,63,64,65,66,67,68,69,70,71,72,73,74,75,76,77,78,79,80,81,82,83,84,85,86,87,88,89,90,91,92,93,94,95,96,97,98,99,100,101,102,103,104,105,106,107,108,109,110,111,112,113,114,115] (fun (k:Nat)=>k=0) (fun k=>[(43,dI k)]) (fun _=>S1.set i6 (.cells [.slice [] .clip,.ak,dI 0,dI 0,.str [],.ak])) (fun _=>0) (0) (by rfl) (fun k hI=>?_)
   subst hI
   try refine gz ?_ o56 [2,4,6,77,109]
   refine dwp_wk (BW (az:=[]) (bs:=[.ak,dI 0,dI 0,.str [],.ak]) (d':=sl ((spCs p).map cFClass)) (w7 ..) (by unfold spCs;rw[jg];exact Ao _ _)) ?_
   refine dwp_wk (Ae (by rw[fK];simp) ?_) (hK i6 fJ)
   rw[w9]
   exact Sub.both gD
  | some x =>
   obtain⟨r,cap,rest⟩:=x
   obtain⟨rfl,fN⟩:=hW
   have gH:i2≠r:=r2
   try refine gz ?_ o56 [2,4,6,77,109]
   refine newV (fun i6 d9=>?_)
   have n26:i2≠i6:=A0 o2 d9
   have fJ:=gD.none d9
   have gP:r≠i6:=A0 fN d9
   have ij:V r=none:=by
    cases h:V r with
    |none=>rfl
    |some x=>exact absurd rfl (gZ r x h)
   try refine gz ?_ o56 [2,4,6,77,109]
   refine AB [1,2,3,4,5,6,9,10,11,12,42,56,57,58,59,60,61,62,63,64,65,66,67,68,69,70,71,72,73,74,75,76,77,78,79,80,81,82,83,84,85,86,87,88,89,90,91,92,93,94,95,96,97,98,99,100,101,102,103,104,105,106,107,108,109,110,111,112,113,114,115] (fun (k:Nat) (S3:Sig)=>k<=p.aa.length/\S3 r=some (.cells ((((spCs p).take k++(p.aa.map (spC (spA p) (spS p))).drop k).map cFClass).flatten++rest))/\S3 i6=some (.cells [.ap r 0 p.aa.length p.aa.length,.ak,dI 0,dI 0,.str [],.ak])/\S3 i2=some (.cells [.ak,.ak,dI 0,dI 0,.str [],.ak])/\Sub V S3) (fun k _=>[(43,dI k)]) (fun _ S3=>S3) (fun k _=>p.aa.length-k) (0) (S1.set i6 (.cells [.ap r 0 p.aa.length p.aa.length,.ak,dI 0,dI 0,.str [],.ak])) (by exact⟨by omega,by rw[w8 _ _ gP,fN];simp,by simp,by rw[w8 _ _ n26];exact o2,gE.set (gE.none d9)⟩) (fun k S3 hI=>?_)
   obtain⟨hk,q1,q6,q2,qS⟩:=hI
   by_cases fL:k<p.aa.length
   ·have jA:k<(AW p.aa.length).length:=by rw[Bx];exact fL
    have iz:(spCs p).length=p.aa.length:=by unfold spCs;simp[Bx]
    have gO:(spCs p)[k]'(by omega)={ spC (spA p) (spS p) p.aa[k]with name:=(AW p.aa.length)[k] }:=by simp[spCs]
    have hX:(((spCs p).take k++(p.aa.map (spC (spA p) (spS p))).drop k).map cFClass).flatten++rest=(((spCs p).take k).map cFClass).flatten ++ .str (spC (spA p) (spS p) p.aa[k]).name::((cFClass (spC (spA p) (spS p) p.aa[k])).tail++((((p.aa.map (spC (spA p) (spS p))).drop (k+1)).map cFClass).flatten++rest)):=by
     rw[dH (by simpa using fL)];simp
    have hA:((((spCs p).take k).map cFClass).flatten).length=k*4:=by
     rw[List.length_flatten,dk]
     have:(List.map (List.length ∘ cFClass) ((spCs p).take k))=List.replicate k 4:=by
      rw[List.eq_replicate_iff];exact⟨by simp;omega,fun b hb=>by obtain⟨x,_,rfl⟩:=bO.1 hb;rfl⟩
     rw[this];simp
    have hY:(((spCs p).take (k+1)++(p.aa.map (spC (spA p) (spS p))).drop (k+1)).map cFClass).flatten++rest=(((spCs p).take k).map cFClass).flatten ++ .str (AW p.aa.length)[k]::((cFClass (spC (spA p) (spS p) p.aa[k])).tail++((((p.aa.map (spC (spA p) (spS p))).drop (k+1)).map cFClass).flatten++rest)):=by
     rw[<-List.take_append_getElem (by omega),gO];simp
    rw[hX]at q1
    generalize (((spCs p).take k).map cFClass).flatten=A at*
    generalize (cFClass (spC (spA p) (spS p) p.aa[k])).tail++((((p.aa.map (spC (spA p) (spS p))).drop (k+1)).map cFClass).flatten++rest)=R at*
    have t1:List.take (k*4) (A ++ .str (spC (spA p) (spS p) p.aa[k]).name::R)=A:=by rw[<-hA];exact List.take_left' rfl
    have t2:List.drop (k*4+1) (A ++ .str (spC (spA p) (spS p) p.aa[k]).name::R)=R:=by rw[<-hA,eh];rfl
    try refine gf (gi q6 (gi q1 (gi t1 t2))) ?_ o56 [2,4,6,77,109]
    exact⟨k+1,S3.set r (.cells (A ++ .str (AW p.aa.length)[k]::R)),⟨by omega,by rw[w7,hY],by rw[w8 _ _ (aQ gP)];exact q6,by rw[w8 _ _ gH];exact q2,qS.set ij⟩,td1,wkR⟩
   ·have gT:k=p.aa.length:=by omega
    subst gT
    have iz:(spCs p).length=p.aa.length:=by unfold spCs;simp[Bx]
    have d7:(spCs p).take p.aa.length++(p.aa.map (spC (spA p) (spS p))).drop p.aa.length=spCs p:=by
     rw[bA (by omega),cN (by simp),bb]
    rw[d7]at q1
    have jb:p.aa.length=((spCs p).map cFClass).length:=by rw[aZ,iz]
    rw[jb]at q6
    refine dwp_wk (N5 (az:=[]) (bs:=[.ak,dI 0,dI 0,.str [],.ak]) (sz:=4) q1 q6 (aQ gP) (bm _) (fun e he=>by obtain⟨x,_,rfl⟩:=bO.1 he;rfl)) ?_
    try refine gz ?_ o56 [2,4,6,77,109]
    refine dwp_wk (Ae (by rw[fK];simp) ?_) (hK i6 fJ)
    refine Sub.both fun j x hj=>?_
    have jd:j≠r:=fun e=>by rw[e,w8 _ _ (aQ gH),ij]at hj;cases hj
    simp only[Sig.del,jd,bd]
    by_cases iH:j=i2
    ·subst iH;rw[w7]at hj;rw[<-hj];exact q2
    ·rw[w8 _ _ iH]at hj;exact qS _ _ hj
@[reducible,instance] def a56:=fun p V=>ah1 (@Qw p V)
def wL:fD:=(((List.range 160).map fun n=>Kw (n+1)).filter AJ).take 128
def oA(k:Nat):Bool:=decide (frO (wL.take k) 10000 1=wL[k]?)&&decide (DN (wL.take k)=(wL[k]?).getD [])
theorem wLl:wL.length=128:=by decide +kernel
theorem wL0:(List.range' 0 48).all oA=true:=by decide +kernel
theorem wL1:(List.range' 48 32).all oA=true:=by decide +kernel
theorem wL2:(List.range' 80 26).all oA=true:=by decide +kernel
theorem wL3:(List.range' 106 22).all oA=true:=by decide +kernel
theorem wLk{k:Nat}(s n:Nat)(ha:(List.range' s n).all oA=true)(h1:s<=k)(h2:k<s+n):oA k=true:=bc.1 ha k (List.mem_range'_1.2 ⟨h1,h2⟩)
theorem wLa{k:Nat}(h:k<128): ∃w,wL[k]?=some w/\frO (wL.take k) 10000 1=some w/\DN (wL.take k)=w:=by
 have hk:oA k=true:=by
  by_cases h1:k<48
  ·exact wLk _ _ wL0 (by omega) (by omega)
  ·by_cases h2:k<80
   ·exact wLk _ _ wL1 (by omega) (by omega)
   ·by_cases h3:k<106
    ·exact wLk _ _ wL2 (by omega) (by omega)
    ·exact wLk _ _ wL3 (by omega) (by omega)
 have hw:wL[k]?=some (wL[k]'(by rw[wLl];exact h)):=aM _
 unfold oA at hk
 rw[aI,aL,aL,hw]at hk
 exact⟨_,hw,hk.1,by rw[hk.2];rfl⟩
theorem wLs{k:Nat}{w:Str}(h:wL[k]?=some w):wL.take (k+1)=wL.take k++[w]:=by rw[List.take_add_one,h];rfl
theorem wLr: ∀(n k:Nat),k+n<=128->refM n (wL.take k) (wL.take k)=some (wL.take (k+n))/\D2 n (wL.take k)=wL.take (k+n)
 |0,k,_=>by rw[refM,D2];exact⟨rfl,rfl⟩
 |n+1,k,h=>by
  obtain⟨w,h1,h2,h3⟩:=wLa (k:=k) (by omega)
  have i:=wLr n (k+1) (by omega)
  rw[refM,h2,D2,h3]
  simp only
  rw[<-wLs h1,show k+(n+1)=k+1+n by omega]
  exact i
theorem ref128:refM 128 [] []=some (AW 128):=by
 have h:=wLr 128 0 (by omega)
 unfold AW
 rw[List.take_zero]at h
 rw[h.1,h.2]
theorem Q2: ∀(n:Nat) (l out ws:fD),refM n l out=some ws->∃t,ws=out++t/\t.length=n
 |0,l,out,ws,h=>by rw[refM]at h;cases h;exact⟨[],by simp,rfl⟩
 | n+1,l,out,ws,h=>by
  rw[refM]at h
  cases hf:frO l 10000 1 with
  |none=>rw[hf]at h;cases h
  |some w=>
   rw[hf]at h
   obtain⟨t,h1,h2⟩:=Q2 n _ _ ws h
   exact⟨w::t,by rw[h1];simp,by simp[h2]⟩
theorem Ns: ∀(n m:Nat) (l out ws:fD),refM (n+m) l out=some ws->refM n l out=some (ws.take (out.length+n))
 |0,m,l,out,ws,h=>by
  rw[ck]at h
  obtain⟨t,h1,h2⟩:=Q2 m l out ws h
  rw[refM,h1,eF,List.take_left]
 | n+1,m,l,out,ws,h=>by
  rw[show n+1+m=(n+m)+1 by omega,refM]at h
  rw[refM]
  cases hf:frO l 10000 1 with
  |none=>rw[hf]at h;cases h
  |some w=>
   rw[hf]at h
   simp only at h⊢
   rw[Ns n m _ _ ws h,aH]
   congr 2
   simp;omega
theorem GZ: ∀(n m:Nat) (l:fD),D2 n l=(D2 (n+m) l).take (l.length+n)
 | 0,m,l=>by
  rw[ck,D2,eF]
  have key:∀(m:Nat) (l:fD),(D2 m l).take l.length=l:=fun m=>by
   induction m with
   |zero=>intro l;rw[D2];simp
   |succ m ih=>
    intro l
    rw[D2]
    have:=bF (List.take l.length) (ih (l++[DN l]))
    rw[List.take_take,aH,List.take_left,Nat.min_eq_left (by simp)]at this
    exact this
  exact(key m l).symm
 |n+1,m,l=>by
  rw[show n+1+m=(n+m)+1 by omega,D2,D2,GZ n m,aH]
  congr 1
  simp;omega
theorem Nr{n:Nat}(h:n<=128):refM n [] []=some (AW n):=by
 have h1:=Ns n (128-n) [] [] _ (by rw[show n+(128-n)=128 by omega];exact ref128)
 have h2:=GZ n (128-n) []
 rw[show n+(128-n)=128 by omega]at h2
 rw[h1]
 unfold AW
 rw[h2]
theorem Ld{n m:Nat}(h:n<=m):(AW m).take n=AW n:=by
 have h2:=GZ n (m-n) []
 rw[show n+(m-n)=m by omega]at h2
 unfold AW
 rw[h2];simp
def numM:fD->Int->List (Str×Int)->List (Str×Int)
 |[],_,m=>m
 |s::r,b,m=>numM r (b+1) (putM s b m)
def cNum(m:List (Str×Int)):D:=.cmap ((eSN m).map (·.1)) ((eSN m).map (·.2))
theorem VJ(l:fD)(b:Int)(o:Own)(V:Sig)(hl:l.length<=1073741824)(hb:0<=b/\b<=1000):au prog 101 [.slice (cS l) o,dI b] V (rS (cNum (numM l b [])) V):=by
 obtain⟨jl,jk⟩:=hb
 refine en func101 ntmps101 ?_
 refine gz ?_
 refine Tn (fun im gc=>?_)
 refine gz ?_
 refine AB [1,4,5,9,10,22] (fun (k:Nat) (m:List (Str×Int))=>k<=l.length/\numM l b []=numM (l.drop k) (b+k) m) (fun k _=>[(11,dI k)]) (fun _ m=>V.set im (.map (eSN m))) (fun k _=>l.length-k) (0) ([]) (by simp) (fun k m hI=>?_)
 obtain⟨hk,hR⟩:=hI
 by_cases fL:k<l.length
 ·rw[A2 fL,numM]at hR
  refine gz ?_
  exact⟨k+1,putM l[k] (b+k) m,⟨by omega,by rw[hR];congr 1;omega⟩,td1,wkR⟩
 ·rw[A1 fL,numM]at hR
  repeat ((fail_if_success (first|(refine cfr 22 (i:=im) (m:=eSN m) (w7 ..) ?_)|fail));(refine goX1 trivial ?_))
  refine cfr 22 (i:=im) (m:=eSN m) (w7 ..) ?_
  rw[Sig.set_del _ _ gc,hR]
  refine gz ?_
  exact fe1 trivial
@[reducible,instance] def a101:=fun l b o V=>ah2 (@VJ l b o V)
theorem Ox(c:aD)(V:Sig):au prog 103 [.agg (cFClass c)] V (rS (.str c.name) V):=by
 refine en func103 ntmps103 ?_
 refine gz ?_
 exact fe1 trivial
theorem DZ(l:fD)(b:Int)(o:Own)(V:Sig)(hl:l.length<=1073741824)(hb:0<=b/\b<=1000):au prog 101 [.slice (cS l) o,dI b] V fun x S'=> ∃im,V im=none/\x=.ret (.map im)/\S'=V.set im (.map (eSN (numM l b []))):=by
 obtain⟨jl,jk⟩:=hb
 refine en func101 ntmps101 ?_
 refine gz ?_
 refine Tn (fun im gc=>?_)
 refine gz ?_
 refine AB [1,4,5,9,10,22] (fun (k:Nat) (m:List (Str×Int))=>k<=l.length/\numM l b []=numM (l.drop k) (b+k) m) (fun k _=>[(11,dI k)]) (fun _ m=>V.set im (.map (eSN m))) (fun k _=>l.length-k) (0) ([]) (by simp) (fun k m hI=>?_)
 obtain⟨hk,hR⟩:=hI
 by_cases fL:k<l.length
 ·rw[A2 fL,numM]at hR
  refine gz ?_
  exact⟨k+1,putM l[k] (b+k) m,⟨by omega,by rw[hR];congr 1;omega⟩,td1,wkR⟩
 ·rw[A1 fL,numM]at hR
  refine gz ?_
  exact fin1 (S':=V.set im (.map (eSN m))) ⟨im,gc,rfl,by rw[hR]⟩
structure EnvS(ib ia is ig:Nat)(p6:fE)(cm sm gm:List (Str×Int))(V:Sig):Prop where
 env:∃a b c d e f,p6=[a,b,c,d,e,f]/\V ib=some (.cells [a,b,c,d,e,f,.map ia,.map is,.map ig])
 oa:V ia=some (.map (eSN cm))
 os:V is=some (.map (eSN sm))
 og:V ig=some (.map (eSN gm))
theorem EnvS.sub{ib ia is ig:Nat}{p6:fE}{cm sm gm:List (Str×Int)}{V S':Sig}(h:EnvS ib ia is ig p6 cm sm gm V)(hs:Sub V S'):EnvS ib ia is ig p6 cm sm gm S':=by
 obtain⟨⟨a,b,c,d,e,f,h1,h2⟩,h3,h4,h5⟩:=h
 exact⟨⟨a,b,c,d,e,f,h1,hs _ _ h2⟩,hs _ _ h3,hs _ _ h4,hs _ _ h5⟩
section
variable {ib ia is ig:Nat}{p6:fE}{cm sm gm:List (Str×Int)}{V:Sig}
theorem LE(s:Str)(hE:EnvS ib ia is ig p6 cm sm gm V):au prog 108 [.str s,.am [.ptr ib 0] 0] V (rS (dI (getM 0 s cm)) V):=by
 obtain⟨⟨a,b,c,d,e,f,rfl,o1⟩,o2,o3,o4⟩:=hE
 refine en func108 ntmps108 ?_
 refine gf (gi o1 (gi o2 (gi o3 o4))) ?_
 exact fe1 trivial
theorem LD(s:Str)(hE:EnvS ib ia is ig p6 cm sm gm V):au prog 109 [.str s,.am [.ptr ib 0] 0] V (rS (dI (getM 0 s sm)) V):=by
 obtain⟨⟨a,b,c,d,e,f,rfl,o1⟩,o2,o3,o4⟩:=hE
 refine en func109 ntmps109 ?_
 refine gf (gi o1 (gi o2 (gi o3 o4))) ?_
 exact fe1 trivial
theorem LC(x:aG)(hE:EnvS ib ia is ig p6 cm sm gm V):au prog 111 [.agg (Dh x),.am [.ptr ib 0] 0] V (rS (.agg (Dg ⟨getM 0 x.slot sm,x.n⟩)) V):=by
 obtain⟨⟨a,b,c,d,e,f,rfl,o1⟩,o2,o3,o4⟩:=hE
 refine en func111 ntmps111 ?_
 refine gz ?_ o111
 refine newV (fun i hi=>?_)
 have n1:ib≠i:=A0 o1 hi
 have n2:ia≠i:=A0 o2 hi
 have n3:is≠i:=A0 o3 hi
 refine gf (gi o1 (gi o2 (gi o3 o4))) ?_ o111
 exact finC (S':=V) ⟨rfl,rfl⟩
def Ih(cm sm:List (Str×Int))(c:aD):ax:=⟨c.ag.map fun s=>getM 0 s cm,c.ae.map fun s=>getM 0 s sm,c.ai.map fun x=>⟨getM 0 x.slot sm,x.n⟩⟩
theorem Sj(c:aD)(hw:c.ag.length<=1073741824/\c.ae.length<=1073741824/\c.ai.length<=1073741824)(hE:EnvS ib ia is ig p6 cm sm gm V):au prog 106 [.agg (cFClass c),.am [.ptr ib 0] 0] V (rS (.agg (cBClass (Ih cm sm c))) V):=by
 obtain⟨w1,w2,w3⟩:=hw
 refine en func106 ntmps106 ?_
 refine gz ?_ o106
 refine newV (fun i hi=>?_)
 have fW:=hE.sub (S':=V.set i (.cells [.ak,.ak,.ak])) ((Sub.refl _).set hi)
 repeat' first|refine gz ?_|refine moR (G1 c.ag (fun s=>getM 0 s cm) 108 [.am [.ptr ib 0] 0] _ _ w1 (fun x hx S' hs=>LE x (fW.sub hs))) ?_|refine moP (G1 c.ag (fun s=>getM 0 s cm) 108 [.am [.ptr ib 0] 0] _ _ w1 (fun x hx S' hs=>LE x (fW.sub hs))) ?_|refine moR (G1 c.ae (fun s=>getM 0 s sm) 109 [.am [.ptr ib 0] 0] _ _ w2 (fun x hx S' hs=>LD x (fW.sub hs))) ?_|refine moP (G1 c.ae (fun s=>getM 0 s sm) 109 [.am [.ptr ib 0] 0] _ _ w2 (fun x hx S' hs=>LD x (fW.sub hs))) ?_|refine moR (Ow c.ai (fun x=>⟨getM 0 x.slot sm,x.n⟩) 111 [.am [.ptr ib 0] 0] _ _ w3 (fun x hx S' hs=>LC x (fW.sub hs))) ?_|refine moP (Ow c.ai (fun x=>⟨getM 0 x.slot sm,x.n⟩) 111 [.am [.ptr ib 0] 0] _ _ w3 (fun x hx S' hs=>LC x (fW.sub hs))) ?_|refine gz ?_ o106|apply gy<;>intro hh
 exact finC (S':=V) ⟨rfl,rfl⟩ (hw:=by refine AM ?_;simp[Ih])
end
theorem PK{α β:Type}(l:List (α×β)):(l.map (·.1)).zip (l.map (·.2))=l:=by
 induction l with
 |nil=>rfl
 |cons x l ih=>simp only[ba,eY,ih]
theorem VU(s:List (Str×Int))(j:Nat):(eSN s).eraseIdx j=eSN (s.eraseIdx j):=by
 unfold eSN eM
 induction s generalizing j with
 |nil=>simp
 |cons x s ih=>cases j with
  |zero=>simp
  |succ j=>simp[ih]
theorem eSN_get{s:List (Str×Int)}{j:Nat}{k v:D}(h:(eSN s)[j]? = some (k,v)): ∃hj:j<s.length,k=.str s[j].1/\v=dI s[j].2:=by
 unfold eSN eM at h
 rw[bD]at h
 by_cases hj:j<s.length
 ·rw[aM hj]at h
  simp only[bG,bq,da]at h
  exact⟨hj,h.1.symm,h.2.symm⟩
 ·rw[bQ (by omega)]at h;cases h
section
variable {α β:Type}[DecidableEq α]
theorem Fd(k:α): ∀m:List (α×β),hasM k m=true ↔ k∈m.map (·.1)
 |[]=>by simp[hasM]
 |(x,y)::r=>by simp[hasM,Fd k r]
theorem Qh(k:α)(v:β): ∀m:List (α×β),(putM k v m).map (·.1)=if hasM k m=true then m.map (·.1) else m.map (·.1)++[k]
 |[]=>by simp[putM,hasM]
 | (x,y)::r=>by
  by_cases h:k=x
  ·simp[putM,hasM,h]
  ·rw[putM,aN h,ba,Qh k v r,hasM]
   by_cases h2:hasM k r=true<;>simp[h,h2]
theorem Jv(k:α)(v:β){m:List (α×β)}(h:(m.map (·.1)).Nodup):((putM k v m).map (·.1)).Nodup:=by
 rw[Qh]
 split
 ·exact h
 ·rename_i h2
  rw[dL]
  refine⟨h,by simp,fun a ha b hb e=>?_⟩
  simp only[bM]at hb
  subst hb;subst e
  exact h2 ((Fd _ _).2 ha)
theorem Lc(z:β): ∀(m:List (α×β)) (j:Nat) (hj:j<m.length),(m.map (·.1)).Nodup->((m.eraseIdx j).map (·.1)).Nodup /\ ∀x,hasM x m=(decide (x=m[j].1)||hasM x (m.eraseIdx j))/\(x≠m[j].1->getM z x (m.eraseIdx j)=getM z x m)/\(x=m[j].1->hasM x (m.eraseIdx j)=false/\getM z x m=m[j].2)
 |(a,b)::r,0,_,h=>by
  simp only[ba,cP]at h
  refine⟨h.2,fun x=>⟨rfl,fun hx=>by simp only[dM,ne_eq]at hx;simp[getM,hx],fun hx=>?_⟩⟩
  simp only[dM]at hx
  subst hx
  refine⟨?_,by simp[getM]⟩
  simp only[List.eraseIdx_zero,List.tail_cons]
  cases hh:hasM x r with
  |false=>rfl
  |true=>exact absurd ((Fd _ _).1 hh) h.1
 | (a,b)::r,j+1,hj,h=>by
  have iI:j<r.length:=by simpa using hj
  simp only[ba,cP]at h
  obtain⟨h1,h2⟩:=Lc z r j iI h.2
  have d6:∀y,y∈(r.eraseIdx j).map (·.1)->y∈r.map (·.1):=fun y hy=>by
   obtain⟨p,hp,rfl⟩:=bO.1 hy
   exact bO.2 ⟨p,List.mem_of_mem_eraseIdx hp,rfl⟩
  have gS:r[j].1∈r.map (·.1):=bO.2 ⟨_,aJ iI,rfl⟩
  refine⟨by simp only[eE,ba,cP];exact⟨fun hm=>h.1 (d6 _ hm),h1⟩,fun x=>?_⟩
  obtain⟨e1,e2,e3⟩:=h2 x
  simp only[eI,eE]
  refine⟨?_,fun hx=>?_,fun hx=>?_⟩
  ·rw[hasM,e1,hasM];cases decide (x=a)<;>cases decide (x=r[j].1)<;>simp
  ·rw[getM,getM,e2 hx]
  ·have hne:x≠a:=fun e=>h.1 (by rw[<-e,hx];exact gS)
   rw[hasM,getM,aN hne]
   exact⟨by rw[(e3 hx).1];simp[hne],(e3 hx).2⟩
end
theorem TV{α β:Type}[DecidableEq α]{z:β}{k:α}: ∀{m:List (α×β)},hasM k m=false->getM z k m=z
 |[],_=>rfl
 |(x,y)::r,h=>by
  rw[hasM,dD,be]at h
  rw[getM,aN h.1];exact TV h.2
def NmD(nm:D)(m:List (Str×Int)):Prop:=(nm=cNum m\/(nm=.aq/\m=[]))/\(m.map (·.1)).Nodup
def updE(env:Str->Int)(s:Str)(v:Int):Str->Int:=fun x=>if x=s then v else env x
theorem UZ(ib:Nat)(nm:D)(m:List (Str×Int))(size:Int)(s:Str)(V:Sig)(hn:NmD nm m)(hs:0<=size/\size<=2000000000):
  au prog 195 [.agg [.ptr ib 0,nm,dI size],.str s] V fun x S'=> ∃m',x=.ret (.agg [.ptr ib 0,cNum m',dI (size+1)])/\NmD (cNum m') m'/\(∀x,getM 0 x m'=updE (fun y=>getM 0 y m) s size x)/\S'=V:=by
 obtain⟨hn,iZ⟩:=hn
 obtain⟨jx,jw⟩:=hs
 have gb:Q3 nm=some (eSN m):=by
  rcases hn with rfl|⟨rfl,rfl⟩
  ·show some (((eSN m).map (·.1)).zip ((eSN m).map (·.2)))=_
   rw[PK]
  ·rfl
 refine en func195 ntmps195 ?_
 try refine gz ?_ [] [4]
 refine newV (fun i hi=>?_)
 try refine gz ?_ [] [4]
 refine Tn (fun im gc=>?_)
 try refine gz ?_ [] [4]
 refine rng (kt:=9) (et:=3) (l:=eSN m) (fun it e7=>?_) (hx:=by exact gb)
 try refine gz ?_ [] [4]
 have n1:i≠im:=fun e=>by rw[<-e,w7]at gc;cases gc
 have n2:im≠it:=fun e=>by rw[<-e,w7]at e7;cases e7
 have n3:i≠it:=fun e=>by rw[<-e,w8 _ _ n1,w7]at e7;cases e7
 obtain⟨m1,i2⟩:=A4 gc
 have i3:V it=none:=by rw[w8 _ _ (aQ n2),w8 _ _ (aQ n3)]at e7;exact e7
 have h0:∀x,getM 0 x m=if hasM x m=true then getM 0 x m else getM 0 x ([]:List (Str×Int)):=fun x=>by
  by_cases h:hasM x m=true
  ·rw[aS h]
  ·rw[aN h];exact TV (by simpa using h)
 refine CK [1,2,4,5,11,20,21,22,23,24,25,26,27,28,29,30] (fun (L:List (Str×Int)) (acc:List (Str×Int)) (la:Option (D×D))=>(L.map (·.1)).Nodup/\(acc.map (·.1)).Nodup/\(∀x,getM 0 x m=if hasM x L=true then getM 0 x L else getM 0 x acc)) (fun _ _ _=>[]) (fun L acc la=>((V.set i (.cells [.ar,.aq,dI 0])).set im (.map (eSN acc))).set it (.iter (eSN L) la)) (fun L _ _=>L.length) (m) ([]) (none) (by exact⟨iZ,by simp,h0⟩) (fun L acc la hI=>?_)
 obtain⟨hL,hA,hR⟩:=hI
 try refine gz ?_ [] [4]
 refine nxt (fun iM=>?_) (fun jj k v jc=>?_)
 ·have jn:L=[]:=by unfold eSN eM at iM;simpa using iM
  subst jn
  have jm:∀x,getM 0 x m=getM 0 x acc:=fun x=>by have:=hR x;simpa[hasM] using this
  repeat ((fail_if_success (first|(refine cfr 5 (i:=im) (m:=eSN (putM s size acc)) ((w7 ..)) ?_)|fail));(refine goX1 trivial ?_))
  refine cfr 5 (i:=im) (m:=eSN (putM s size acc)) ((w7 ..)) ?_
  generalize gY:Sig.del _ im=Se
  have w1:Se i=some (.cells [.ar,.aq,dI 0]):=by rw[<-gY];simp[Sig.del,n1,w8 _ _ n1,w8 _ _ n3]
  have wS:Sub V Se:=fun j x hj=>by
   have e1:j≠i:=A0 hj hi
   have e2:j≠im:=A0 hj i2
   have e3:j≠it:=A0 hj i3
   rw[<-gY];simp only[Sig.del,e2,bd,w8 _ _ e1,w8 _ _ e2,w8 _ _ e3];exact hj
  clear gY
  try refine gf w1 ?_ [] [4]
  refine finC (S':=V) (d:=.agg [.ptr ib 0,cNum (putM s size acc),dI (size+1)]) ⟨_,rfl,⟨.inl rfl,Jv _ _ hA⟩,fun x=>?_,rfl⟩ (hZ:=wS.set hi)
  rw[Cb];unfold updE
  split
  ·rfl
  ·exact(jm x).symm
 ·obtain⟨iF,rfl,rfl⟩:=eSN_get jc
  rw[VU]
  obtain⟨e1,e2⟩:=Lc (0:Int) L jj iF hL
  try refine gz ?_ [] [4]
  refine ent ?_
  try refine gz ?_ [] [4]
  have jz:(L.eraseIdx jj).length<L.length:=by rw[eT,aS iF];omega
  have iX:∀x,getM 0 x m=if hasM x (L.eraseIdx jj)=true then getM 0 x (L.eraseIdx jj) else getM 0 x (putM L[jj].1 L[jj].2 acc):=fun x=>by
   obtain⟨f1,f2,f3⟩:=e2 x
   rw[hR x,Cb]
   by_cases hx:x=L[jj].1
   ·rw[aS hx,(f3 hx).1,f1,aX hx,Bool.true_or,aS rfl,aN (by simp),(f3 hx).2]
   ·rw[aN hx,f1,aV hx,dc,f2 hx]
  have d6:Sub (((V.set i (.cells [.ar,.aq,dI 0])).set im (.map (eSN (putM L[jj].1 L[jj].2 acc)))).set it (.iter (eSN (L.eraseIdx jj)) (some (.str L[jj].1,dI L[jj].2)))) ((((V.set i (.cells [.ar,.aq,dI 0])).set im (.map (eSN acc))).set it (.iter (eSN (L.eraseIdx jj)) (some (.str L[jj].1,dI L[jj].2)))).set im (.map (eSN (putM L[jj].1 L[jj].2 acc)))):=by
   rw[set_comm _ (aQ n2),w9];exact Sub.refl _
  exact⟨L.eraseIdx jj,putM L[jj].1 L[jj].2 acc,_,⟨e1,Jv _ _ hA,iX⟩,td1,wkR⟩
mutual
def bndF(cm sm:List (Str×Int))(env:Str->Int):aC->Fact
 |.mk o s p c n k=>.mk o (env s) (p.map fun x=>getM 0 x sm) (getM 0 c cm) n (HP cm sm env k)
def HP(cm sm:List (Str×Int))(env:Str->Int):List aC->List Fact
 |[]=>[]
 |x::r=>bndF cm sm env x::HP cm sm env r
end
theorem OW(cm sm:List (Str×Int))(env:Str->Int): ∀l,HP cm sm env l=l.map (bndF cm sm env)
 |[]=>by rw[HP];rfl
 |x::r=>by rw[HP,OW cm sm env r];rfl
theorem bndF_eq(cm sm:List (Str×Int))(env:Str->Int)(f:aC):bndF cm sm env f=.mk f.op (env f.name) (f.path.map fun x=>getM 0 x sm) (getM 0 f.cls cm) f.n (f.ah.map (bndF cm sm env)):=by
 cases f;rw[bndF,OW];rfl
theorem RU(l:List aC)(h:aC->Fact)(g:Nat)(first cap:fE)(o:Own)(V:Sig)(hl:l.length<=1073741824)
  (hg:∀x∈l, ∀S',Sub V S'->au prog g (first++[.agg (B6 x)]++cap) S' fun r S''=>r=.ret (.agg (AS (h x)))/\S''=S') :
  au prog 197 [.slice (l.map B6) o,.func (.func g) first cap] V (rS (sl ((l.map h).map AS)) V):=by
 refine en func197 ntmps197 ?_
 try refine gz ?_
 refine Bv 5 6 (fun i hi=>?_)
 refine AB [1,4,8,9,21,22] (fun (k:Nat) (out:List Fact)=>k<=l.length/\out++(l.drop k).map h=l.map h) (fun k out=>[(10,dI k),(5,.slice (out.map AS) (.tag i))]) (fun _ out=>V.set i (.tail 6 out.length)) (fun k _=>l.length-k) (0) ([]) (by simp) (fun k out hI=>?_)
 obtain⟨hk,hR⟩:=hI
 have hlen:=bF List.length hR
 simp at hlen
 by_cases hh:k<l.length
 ·rw[A2 hh]at hR
  try refine gf hh ?_
  refine Ac (hg (l[k]) (aJ hh) _ ((Sub.refl _).set hi)) (fun d S' hr=>?_) (fun d S' hr=>by cases hr.1) (ha:=rfl)
  obtain⟨e1,e2⟩:=hr
  cases e1
  rw[e2]
  try refine gz ?_
  exact⟨k+1,out++[h l[k]],⟨by omega,by rw[aT];exact hR⟩,td1,wkR⟩
 ·try refine gf hh ?_
  rw[A1 hh]at hR
  simp at hR
  exact finS (S':=V) (es:=out.map AS) ⟨by rw[hR],rfl⟩
section
variable {ib ia is ig:Nat}{p6:fE}{cm sm gm:List (Str×Int)}
theorem UY(s:Str)(nm:D)(size:Int)(V:Sig)(hE:EnvS ib ia is ig p6 cm sm gm V):au prog 196 [.str s,.am [.ptr ib 0,nm,dI size] 0] V (rS (dI (getM 0 s sm)) V):=by
 obtain⟨⟨a,b,c,d,e,f,rfl,o1⟩,o2,o3,o4⟩:=hE
 refine en func196 ntmps196 ?_
 try refine gf (gi o1 (gi o2 (gi o3 o4))) ?_
 exact fe1 trivial
theorem NmD.cases{nm:D}{m:List (Str×Int)}(h:NmD nm m):(∃ks vs,nm=.cmap ks vs/\ks.zip vs=eSN m)\/(nm=.aq /\ ∀x,getM 0 x m=0):=by
 rcases h.1 with rfl|⟨rfl,rfl⟩
 ·exact .inl ⟨_,_,rfl,PK _⟩
 ·exact .inr ⟨rfl,fun _=>rfl⟩
theorem VH(nm:D)(m:List (Str×Int))(size:Int)(hn:NmD nm m): ∀(n:Nat) (f:aC) (V:Sig),f.wt<=n->n<=1073741824->EnvS ib ia is ig p6 cm sm gm V->
  au prog 113 [.agg [.ptr ib 0,nm,dI size],.agg (B6 f)] V (rS (.agg (AS (bndF cm sm (fun y=>getM 0 y m) f))) V):=by
 intro n
 induction n with
 |zero=>
  intro f V hx
  have:=f.wt_pos
  omega
 | succ n ih =>
  intro f V hx hw hE
  obtain⟨w1,w2,w3,w4,w5⟩:=f.wt_le
  have iq:f.path.length<=1073741824:=by have:=Bb f.path;omega
  have jo:=hE
  obtain⟨⟨a,b,c,d,e,g,rfl,o1⟩,o2,o3,o4⟩:=hE
  refine en func113 ntmps113 ?_
  try refine gz ?_ o113 [4]
  refine newV (fun i hi=>?_)
  have n1:ib≠i:=A0 o1 hi
  have n2:ia≠i:=A0 o2 hi
  have n3:is≠i:=A0 o3 hi
  have fW:=jo.sub (S':=V.set i (.cells [dI 0,dI 0,.ak,dI 0,dI 0,.ak])) ((Sub.refl _).set hi)
  have fY:=G1 f.path (fun s=>getM 0 s sm) 196 [.am [.ptr ib 0,nm,dI size] 0] .no (V.set i (.cells [dI 0,dI 0,.ak,dI 0,dI 0,.ak])) iq (fun x hx S' hs=>UY x nm size S' (fW.sub hs))
  have fX:=RU f.ah (bndF cm sm (fun y=>getM 0 y m)) 113 [.agg [.ptr ib 0,nm,dI size]] [] .no (V.set i (.cells [dI 0,dI 0,.ak,dI 0,dI 0,.ak])) (by omega) (fun x hx S' hs=>ih x S' (by obtain⟨k,hk,rfl⟩:=bh hx;have:=w5 k hk;omega) (by omega) (fW.sub hs))
  have hb:=bndF_eq cm sm (fun y=>getM 0 y m) f
  rcases hn.cases with⟨ks,vs,rfl,hz⟩|⟨rfl,hz⟩
  ·repeat' first|refine gf (gi hz (gi o1 (gi o2 o3))) ?_ [] [4]|refine moR (fY) ?_|refine moP (fY) ?_|refine moR (fX) ?_|refine moP (fX) ?_|refine gf (gi hz (gi o1 (gi o2 o3))) ?_ o113 [4]|apply gy<;>intro hh
   exact finC (S':=V) ⟨rfl,rfl⟩ (hw:=by rw[hb];refine AM ?_;simp[Fact.op,Fact.arg,Fact.path,Fact.cls,Fact.n,Fact.ah])
  ·repeat' first|refine gf (gi o1 (gi o2 o3)) ?_ [] [4]|refine moR (fY) ?_|refine moP (fY) ?_|refine moR (fX) ?_|refine moP (fX) ?_|refine gf (gi o1 (gi o2 o3)) ?_ o113 [4]|apply gy<;>intro hh
   exact finC (S':=V) ⟨rfl,rfl⟩ (hw:=by rw[hb];refine AM ?_;simp[Fact.op,Fact.arg,Fact.path,Fact.cls,Fact.n,Fact.ah,hz])
end
end Go.DL
