/- A part of the proof. -/
import Derived.Test.YtlfimpogphmbdaaGreatM20
import Derived.Test.YtlfimpogphmbdaaGreatM21
import Derived.Test.YtlfimpogphmbdaaGreatM23
import Derived.Test.YtlfimpogphmbdaaGreatM12
import Derived.Test.YtlfimpogphmbdaaGreatM22
set_option linter.all false
namespace Go.DL
open Go.Proofs.Tryz
open Go Go.Proofs
set_option maxHeartbeats 8000000
def BJ(f:Int->List Str->Nat->FExp×Nat)(op:Int)(txt:Str)(env:List Str):Nat->List Int->Nat->List FExp×Nat
 |_,[],t=>([],t)
 |j,c::r,t=>((f c (if op=9/\j=1 then env++[txt] else env) t).1::(BJ f op txt env (j+1) r (f c (if op=9/\j=1 then env++[txt] else env) t).2).1,(BJ f op txt env (j+1) r (f c (if op=9/\j=1 then env++[txt] else env) t).2).2)
def CR(a b g P:List Str)(x:BNode)(env:List Str)(t:Nat):Str:=
 if x.op=3 then ixS env x.n else if x.op=4\/x.op=7 then ixS b x.n else if x.op=5 then ixS g x.n else if x.op=6\/x.op=8 then ixS a x.n else if x.op=9 then ixS P t else []
def spE(p:BProg)(a b g P:List Str):Nat->Int->List Str->Nat->FExp×Nat
 |0,_,_,t=>(.mk 0 0 [] [],t)
 | k+1,node,env,t=>(.mk (Aj p node).op (if (Aj p node).op=1 then (Aj p node).n else 0) (CR a b g P (Aj p node) env t)
   (BJ (spE p a b g P k) (Aj p node).op (CR a b g P (Aj p node) env t) env 0 (Aj p node).kids (if(Aj p node).op=9 then t+1 else t)).1,
   (BJ (spE p a b g P k) (Aj p node).op (CR a b g P (Aj p node) env t) env 0 (Aj p node).kids (if(Aj p node).op=9 then t+1 else t)).2)
theorem Ey{f:Int->List Str->Nat->FExp×Nat}{op:Int}{txt:Str}{env:List Str}(hf:∀c e t,t<=(f c e t).2): ∀(j:Nat) (l:List Int) (t:Nat),t<=(BJ f op txt env j l t).2
 |_,[],_=>Nat.le_refl _
 |j,c::r,t=>by rw[BJ];exact Nat.le_trans (hf _ _ _) (Ey hf (j+1) r _)
theorem Oi(p:BProg)(a b g P:List Str): ∀(k:Nat) (node:Int) (env:List Str) (t:Nat),t<=(spE p a b g P k node env t).2
 |0,_,_,_=>Nat.le_refl _
 |k+1,node,env,t=>by
  rw[spE];refine Nat.le_trans ?_ (Ey (Oi p a b g P k) _ _ _);split<;>omega
def okE(p:BProg):Nat->Int->Nat->Prop
 |0,_,_=>False
 |k+1,node,size=>InR node p.nodes.length/\BF p (Aj p node) size=true /\ ∀(j:Nat) (h:j<(Aj p node).kids.length),okE p k ((Aj p node).kids[j]) (if(Aj p node).op=9/\j=1 then size+1 else size)
def cSp0(p:BProg)(a b c:List Str):D:=.cptr [sl (p.classes.map cBClass),dI p.slots,sl (cI p.gens),sl (p.methods.map Ak),sl (p.nodes.map Af),dI p.main,sl (cS a),sl (cS b),sl (cS c)] 0
theorem QP{a b:Sig}{i:Nat}{c c':DObj}(h:Sub (a.set i c) b):Sub (a.set i c') (b.set i c'):=fun k z hk=>by
 by_cases hki:k=i
 ·subst hki;rw[w7]at hk⊢; exact hk
 ·rw[w8 _ _ hki]at hk⊢; exact h k z (by rw[w8 _ _ hki];exact hk)
theorem MB(p:BProg)(a b g P:List Str)(hp:p.wt<=1073741824)(ha:a.length=3+p.classes.length)(ha':a.length<=1073741824)(hb:(b.length:Int)=p.slots)(hb':b.length<=1073741824)(hg:g.length=p.gens.length)(hP:P.length<=1073741824): ∀(k:Nat) (node:Int) (env:List Str) (o:Own) (t ib:Nat) (V:Sig),okE p k node env.length->env.length+k<=1073741824->(spE p a b g P k node env t).2<=P.length->V ib=some (.cells [cSp0 p a b g,sl (cS P),dI t])->
  DCall prog 144 [.ptr ib 0,dI node,.slice (cS env) o] V fun x S'=>x=.ret (.agg (AO (spE p a b g P k node env t).1))/\S'=V.set ib (.cells [cSp0 p a b g,sl (cS P),dI (spE p a b g P k node env t).2]):=by
 obtain⟨p1,p2,p3,p4,p5,p6,p7⟩:=p.wt_le;intro k
 induction k with
 |zero=>intro node env o t ib V h;exact h.elim
 | succ k ih =>
  intro node env o t ib V hok hsz hT hib;rw[okE]at hok;obtain⟨⟨h0,hq⟩,hnb,hkids⟩:=hok;obtain⟨q,rfl⟩:∃q:Nat,node=(q:Int):=⟨node.toNat,by omega⟩;have hq:q<p.nodes.length:=by omega
  have hna:Aj p q=p.nodes[q]:=by unfold Aj;rw[show((q:Int)).toNat=q by omega,List.getElem?_eq_getElem hq];rfl
  rw[spE]at hT⊢;rw[hna]at hT hnb hkids⊢;generalize hx:p.nodes[q]=x at*
  have hwx:x.kids.length<=1073741824:=by
   have:=p7 q hq;rw[hx]at this;have hwu:x.wt=1+x.kids.length:=rfl;omega
  generalize hL:BJ (spE p a b g P k) x.op (CR a b g P x env t) env 0 x.kids (if x.op=9 then t+1 else t)=L at*;have ht9:(if x.op=9 then t+1 else t)<=L.2:=by rw[<-hL];exact Ey (Oi p a b g P k) _ _ _
  have hcs:cSp0 p a b g=.cptr [sl (p.classes.map cBClass),dI p.slots,sl (cI p.gens),sl (p.methods.map Ak),sl (p.nodes.map Af),dI p.main,sl (cS a),sl (cS b),sl (cS g)] 0:=rfl;have r3:x.op=3->InR x.n env.length:=fun h=>by simpa[BF,h,InR] using hnb
  have r47:x.op=4\/x.op=7->InR x.n b.length:=fun h=>by rcases h with h|h<;>simpa[BF,h,InR,hb] using hnb
  have r5:x.op=5->InR x.n g.length:=fun h=>by simpa[BF,h,InR,hg] using hnb
  have r68:x.op=6\/x.op=8->InR x.n a.length:=fun h=>by
   have:3<=x.n/\x.n<3+p.classes.length:=by rcases h with h|h<;>simpa[BF,h] using hnb
   exact⟨by omega,by omega⟩
  have r9:x.op=9->t<P.length:=fun h=>by rw[if_pos h]at ht9;omega
  refine en func144 ntmps144 ?_
  try refine gz ?_ o144 [6,8]
  refine newV (fun i6 hi6=>?_);have n6:ib≠i6:=A1 hib hi6
  try refine gf (gi hib (gi hx hcs)) ?_ o144 [6,8]
  refine newV (fun i8 hi8=>?_);have n68:i6≠i8:=fun e=>by rw[<-e,w7]at hi8;cases hi8
  have n8:ib≠i8:=A1 hib (Aa hi8).2;generalize hU1:V.set i6 (.cells [dI 0,dI 0,.str [],.nils])=S1;have hib1:S1 ib=some (.cells [cSp0 p a b g,sl (cS P),dI t]):=by rw[<-hU1,w8 _ _ n6];exact hib
  have hsub:∀(tx:Str) (m:Int),m=(if x.op=1 then x.n else 0)->tx=CR a b g P x env t->¬x.op=9->Sub ((S1.set i8 (.cells [dI x.op,dI (if x.op=1 then x.n else 0),.str (CR a b g P x env t),.nils])).set ib (.cells [cSp0 p a b g,sl (cS P),dI (if x.op=9 then t+1 else t:Nat)])) (S1.set i8 (.cells [dI x.op,dI m,.str tx,.nils])):=fun tx m h1 h2 h3=>by
   rw[h1,h2,if_neg h3,Sig.set_self _ (by rw[w8 _ _ n8];exact hib1)];exact Sub.refl _
  repeat ((fail_if_success (first|(refine dwp_cut1 (x1:=.seq _ (.block 0 _)) [] ((S1.set i8 (.cells [dI x.op,dI (if x.op=1 then x.n else 0),.str (CR a b g P x env t),.nils])).set ib (.cells [cSp0 p a b g,sl (cS P),dI (if x.op=9 then t+1 else t:Nat)])) ?_ (fun _ hK=>?_))|fail));(refine goX1 trivial ?_))
  refine dwp_cut1 (x1:=.seq _ (.block 0 _)) [] ((S1.set i8 (.cells [dI x.op,dI (if x.op=1 then x.n else 0),.str (CR a b g P x env t),.nils])).set ib (.cells [cSp0 p a b g,sl (cS P),dI (if x.op=9 then t+1 else t:Nat)])) ?_ (fun _ hK=>?_)
  ·generalize (if x.op=1 then x.n else 0)=num at*;generalize htx:CR a b g P x env t=txt at*;generalize (if x.op=9 then t+1 else t)=t0 at*;refine CB i8 3 4 (ds:=[dI x.op,dI num,.str txt,.nils]) (by rw[w8 _ _ (Ne.symm n8)];exact w7 ..) rfl fun it hit=>?_
   have hit1:S1 it=none:=(Aa (Aa hit).2).2;have nbt:ib≠it:=A1 hib1 hit1;have n8t:i8≠it:=fun e=>by have:=(Aa hit).2;rw[<-e,w7]at this;cases this
   generalize hU2:Sig.set (Sig.set (Sig.set _ ib _) it _) i8 _=S2;have q8:S2 i8=some (.cells [dI x.op,dI num,.str txt,.slice (([]:List FExp).map AO) (.tag it)]):=by rw[<-hU2];exact w7 ..
   have qt:S2 it=some (.tail 4 ([]:List FExp).length):=by rw[<-hU2,w8 _ _ (Ne.symm n8t)];exact w7 ..
   have qS:Sub (V.set ib (.cells [cSp0 p a b g,sl (cS P),dI t0])) S2:=by
    rw[<-hU2,<-hU1];refine Sub.set (Sub.set ?_ ?_) ?_
    ·refine Sub.both ((((Sub.refl _).set hi6)).set (Aa hi8).2)
    ·rw[w8 _ _ (Ne.symm nbt)];rw[<-hU1]at hit1;exact(Aa hit1).2
    ·rw[w8 _ _ (Ne.symm n8)];exact(Aa hi8).2
   have s8:V i8=none:=(Aa hi8).2;have st:V it=none:=by rw[<-hU1]at hit1;exact(Aa hit1).2
   have hi61:S1 i6=some (.cells [dI 0,dI 0,.str [],.nils]):=by rw[<-hU1];exact w7 ..
   have n6t:i6≠it:=A1 hi61 hit1;have s6:V i6=none:=hi6;have q6:S2 i6=some (.cells [dI 0,dI 0,.str [],.nils]):=by rw[<-hU2,w8 _ _ n68,w8 _ _ n6t,w8 _ _ (Ne.symm n6),w8 _ _ n68];exact hi61
   clear hU2 hsub hit
   try refine gf q8 ?_ o144 [6,8]
   refine Ua [0,2,6,7,8,106,107,137] (fun (j:Nat) (out:List FExp) (t':Nat) (S3:Sig)=>j<=x.kids.length/\out.length=j/\out++(BJ (spE p a b g P k) x.op txt env j (x.kids.drop j) t').1=L.1/\(BJ (spE p a b g P k) x.op txt env j (x.kids.drop j) t').2=L.2/\S3 i8=some (.cells [dI x.op,dI num,.str txt,.slice (out.map AO) (.tag it)])/\S3 it=some (.tail 4 out.length)/\S3 i6=some (.cells [dI 0,dI 0,.str [],.nils])/\Sub (V.set ib (.cells [cSp0 p a b g,sl (cS P),dI t'])) S3) (fun j _ _ _=>[(108,dI j)]) (fun _ _ _ S3=>S3) (fun j _ _ _=>x.kids.length-j) (0) ([]) (t0) (S2) (by exact⟨by omega,rfl,by rw[<-hL];rfl,by rw[<-hL];rfl,q8,qt,q6,qS⟩) (fun j out t' S3 hI=>?_);obtain⟨hj,hol,hR,hR2,o8,ot,o6,oS⟩:=hI
   by_cases hjl:j<x.kids.length
   ·rw[A3 hjl,BJ]at hR hR2;have hki:=hkids j hjl;have hnxt:out.length+1=j+1:=by omega
    have hib3:S3 ib=some (.cells [cSp0 p a b g,sl (cS P),dI t']):=oS _ _ (w7 ..);have u8:(S3.out fun j=>j=ib\/j=it) i8=_:=Hb o8 (by rintro(h|h);exact n8 h.symm;exact n8t h);have nt':it≠ib:=Ne.symm nbt;have nt8:it≠i8:=Ne.symm n8t;have n8':i8≠ib:=Ne.symm n8;have hT':=hT;rw[<-hR2]at hT'
    have hsb:∀{c:DObj} (τ:Sig),Sub S3 τ->Sub (S3.out fun j=>j=ib\/j=it) (τ.set ib c):=fun τ hZ j z hz=>by
     obtain⟨h1,h2⟩:=EF hz;rw[w8 _ _ fun e=>h2 (.inl e)];exact hZ _ _ h1
    have hsb2:∀{c:DObj} (τ:Sig),Sub S3 τ->Sub (S3.out fun j=>j=ib\/j=it) ((τ.set ib c).set it (.tail 4 (out.length+1))):=fun τ hZ j z hz=>by
     obtain⟨h1,h2⟩:=EF hz;rw[w8 _ _ fun e=>h2 (.inr e)];exact hsb τ hZ _ _ hz
    have hsb3:∀(e:FExp) (c:DObj) (τ:Sig),Sub S3 τ->(((τ.set ib c).set it (.tail 4 (out.length+1))).set i8 (.cells [dI x.op,dI num,.str txt,.slice ((out++[e]).map AO) (.tag it)])) it=some (.tail 4 (out++[e]).length)/\(((τ.set ib c).set it (.tail 4 (out.length+1))).set i8 (.cells [dI x.op,dI num,.str txt,.slice ((out++[e]).map AO) (.tag it)])) i6=some (.cells [dI 0,dI 0,.str [],.nils])/\Sub (V.set ib c) (((τ.set ib c).set it (.tail 4 (out.length+1))).set i8 (.cells [dI x.op,dI num,.str txt,.slice ((out++[e]).map AO) (.tag it)])):=fun e c τ hZ=>
     ⟨by rw[w8 _ _ nt8,w7,List.length_append];rfl,by rw[w8 _ _ n68,w8 _ _ n6t,w8 _ _ (Ne.symm n6)];exact hZ _ _ o6,((QP (oS.trans hZ)).set (by rw[w8 _ _ nt'];exact st)).set (by rw[w8 _ _ n8'];exact s8)⟩
    by_cases c91:x.op=9/\j=1
    ·rw[if_pos c91]at hR hR2 hki hT';obtain⟨c9,rfl⟩:=c91;have hcS:cS (env++[txt])=cS env++[[.str txt]]:=by simp[cS]
     try refine gf o8 ?_ (delO 25 o144) [6,8]
     refine Rk (fun i4 hi4=>?_);have nib4:ib≠i4:=A1 hib3 hi4;have nt4:it≠i4:=A1 ot hi4;have n84:i8≠i4:=A1 o8 hi4;have hS4:Sub S3 (S3.set i4 (.tail (tab 9).size ((cS env).length+[[D.str txt]].length))):=(Sub.refl _).set hi4;have hib4:(S3.set i4 (.tail (tab 9).size ((cS env).length+[[D.str txt]].length))) ib=some (.cells [cSp0 p a b g,sl (cS P),dI t']):=by rw[w8 _ _ nib4];exact hib3
     have ht4:(S3.set i4 (.tail (tab 9).size ((cS env).length+[[D.str txt]].length))) it=some (.tail 4 out.length):=by rw[w8 _ _ nt4];exact ot
     have h84:(S3.set i4 (.tail (tab 9).size ((cS env).length+[[D.str txt]].length))) i8=_:=(w8 _ _ n84).trans o8;generalize S3.set i4 (.tail (tab 9).size ((cS env).length+[[D.str txt]].length))=S4 at*
     try refine gz ?_ (delO 25 o144) [6,8]
     refine Im (id:=25) [0,1,2,3,4,5,6,7,8] [5,7] (S3.out fun j=>j=ib\/j=it) ((CS _ _).trans hS4) ?_;have hsub0:=(CS S3 fun j=>j=ib\/j=it).trans hS4
     try refine gf u8 ?_ o144 [6,8]
     have hih:=ih (x.kids[1]) (env++[txt]) .no t' ib S4 (by simpa using hki) (by simp;omega) (Nat.le_trans (Ey (Oi p a b g P k) _ _ _) hT') hib4;rw[hcS]at hih;refine E4 hih (fun d S5 hx=>?_) (fun d S5 hx=>by cases hx.1);obtain⟨hx',rfl⟩:=hx;cases hx';refine⟨hsb _ hS4,?_⟩;simp only[putD];have hsub2:=hsb2 (c:=.cells [cSp0 p a b g,sl (cS P),dI (spE p a b g P k x.kids[1] (env++[txt]) t').2]) _ hS4
     try refine gf (gi ht4 h84) ?_ o144 [6,8]
     have hfin:=hsb3 (spE p a b g P k x.kids[1] (env++[txt]) t').1 (.cells [cSp0 p a b g,sl (cS P),dI (spE p a b g P k x.kids[1] (env++[txt]) t').2]) S4 hS4;exact⟨2,out++[(spE p a b g P k x.kids[1] (env++[txt]) t').1],(spE p a b g P k x.kids[1] (env++[txt]) t').2,((S4.set ib (.cells [cSp0 p a b g,sl (cS P),dI (spE p a b g P k x.kids[1] (env++[txt]) t').2])).set it (.tail 4 (out.length+1))).set i8 (.cells [dI x.op,dI num,.str txt,.slice ((out++[(spE p a b g P k x.kids[1] (env++[txt]) t').1]).map AO) (.tag it)]),⟨by omega,by simp;omega,by rw[List.append_assoc];exact hR,hR2,w7 .., hfin.1,hfin.2.1,hfin.2.2⟩,td1,wkR⟩
    ·rw[if_neg c91]at hR hR2 hki hT'
     repeat' first|refine gf o8 ?_ (delO 25 o144) [6,8]|apply gy<;>intro hh
     all_goals
      refine Im (id:=25) [0,1,2,3,4,5,6,7,8] [5,7] (S3.out fun j=>j=ib\/j=it) (CS _ _) ?_
      try refine gf u8 ?_ o144 [6,8]
      refine E4 (ih (x.kids[j]) env o t' ib S3 hki (by omega) (Nat.le_trans (Ey (Oi p a b g P k) _ _ _) hT') hib3) (fun d S5 hx=>?_) (fun d S5 hx=>by cases hx.1);obtain⟨hx',rfl⟩:=hx;cases hx';refine⟨hsb _ (Sub.refl _),?_⟩;simp only[putD];have hsub2:=hsb2 (c:=.cells [cSp0 p a b g,sl (cS P),dI (spE p a b g P k x.kids[j] env t').2]) _ (Sub.refl S3)
      try refine gf (gi ot o8) ?_ o144 [6,8]
      have hfin:=hsb3 (spE p a b g P k x.kids[j] env t').1 (.cells [cSp0 p a b g,sl (cS P),dI (spE p a b g P k x.kids[j] env t').2]) S3 (Sub.refl _);exact⟨j+1,out++[(spE p a b g P k x.kids[j] env t').1],(spE p a b g P k x.kids[j] env t').2,((S3.set ib (.cells [cSp0 p a b g,sl (cS P),dI (spE p a b g P k x.kids[j] env t').2])).set it (.tail 4 (out.length+1))).set i8 (.cells [dI x.op,dI num,.str txt,.slice ((out++[(spE p a b g P k x.kids[j] env t').1]).map AO) (.tag it)]),⟨by omega,by simp;omega,by rw[List.append_assoc];exact hR,hR2,w7 .., hfin.1,hfin.2.1,hfin.2.2⟩,td1,wkR⟩
   ·have hjk:j=x.kids.length:=by omega
    rw[A2 hjl,BJ]at hR hR2;rw[List.append_nil]at hR;rw[<-hR,<-hR2];refine dwp_wk (Et (az:=[dI x.op,dI num,.str txt]) (bs:=[]) (d':=sl (out.map AO)) o8 (Bc _ _)) ?_
    try refine gf o6 ?_ o144 [6,8]
    exact finC (S':=V.set ib (.cells [cSp0 p a b g,sl (cS P),dI t'])) ⟨rfl,rfl⟩ (hw:=by refine Bd ?_;simp[Ee,FExp.op,FExp.n,FExp.text,FExp.kids]) (hU:=(oS.set (by rw[w8 _ _ (Ne.symm n8)];exact s8)).set (by rw[w8 _ _ (Ne.symm n6)];exact s6))
  ·repeat' first|refine gz ?_ o144 [6,8]|apply gy<;>intro hh
   ·have c:x.op=1:=by assumption
    exact dwp_wk (Bt (by first|(simp;done)|(simp_all;done)) (hsub _ _ (by simp[c]) (by simp[CR,c]) (by omega))) hK
   ·have c:x.op=3:=by assumption
    obtain⟨m,hm,hml,hmk⟩:=CU (r3 c)
    try refine gf hm ?_ o144 [6,8]
    exact dwp_wk (Bt (by first|(simp;done)|(simp_all;done)) (hsub _ _ (by simp[c]) (by simp[CR,c,hmk]) (by omega))) hK
   ·have c:x.op=4:=by assumption
    obtain⟨m,hm,hml,hmk⟩:=CU (r47 (.inl c))
    try refine gf (gi hm (gi hib1 hcs)) ?_ o144 [6,8]
    exact dwp_wk (Bt (by first|(simp;done)|(simp_all;done)) (hsub _ _ (by simp[c]) (by simp[CR,c,hmk]) (by omega))) hK
   ·have c:x.op=7:=by assumption
    obtain⟨m,hm,hml,hmk⟩:=CU (r47 (.inr c))
    try refine gf (gi hm (gi hib1 hcs)) ?_ o144 [6,8]
    exact dwp_wk (Bt (by first|(simp;done)|(simp_all;done)) (hsub _ _ (by simp[c]) (by simp[CR,c,hmk]) (by omega))) hK
   ·have c:x.op=5:=by assumption
    obtain⟨m,hm,hml,hmk⟩:=CU (r5 c)
    try refine gf (gi hm (gi hib1 hcs)) ?_ o144 [6,8]
    exact dwp_wk (Bt (by first|(simp;done)|(simp_all;done)) (hsub _ _ (by simp[c]) (by simp[CR,c,hmk]) (by omega))) hK
   ·have c:x.op=6:=by assumption
    obtain⟨m,hm,hml,hmk⟩:=CU (r68 (.inl c))
    try refine gf (gi hm (gi hib1 hcs)) ?_ o144 [6,8]
    exact dwp_wk (Bt (by first|(simp;done)|(simp_all;done)) (hsub _ _ (by simp[c]) (by simp[CR,c,hmk]) (by omega))) hK
   ·have c:x.op=8:=by assumption
    obtain⟨m,hm,hml,hmk⟩:=CU (r68 (.inr c))
    try refine gf (gi hm (gi hib1 hcs)) ?_ o144 [6,8]
    exact dwp_wk (Bt (by first|(simp;done)|(simp_all;done)) (hsub _ _ (by simp[c]) (by simp[CR,c,hmk]) (by omega))) hK
   ·have c:x.op=9:=by assumption
    have ht:=r9 c;have hmk:ixS P t=P[t]:=by unfold ixS;rw[show((t:Int)).toNat=t by omega,List.getElem?_eq_getElem ht];rfl
    try refine gf hib1 ?_ o144 [6,8]
    refine dwp_wk (Bt (by simp) (BY ?_)) hK;simp[CR,c,hmk]
   ·exact dwp_wk (Bt (by first|(simp;done)|(simp_all;done)) (hsub _ _ (by simp[*]) (by simp[CR, *]) (by assumption))) hK
def RowW(S':Sig)(es:List (List D))(E:D):MR->Prop
 |none=>E=.slice [] .clip/\es=[]
 |some (r,_,rest)=>E=.sref r 0 es.length es.length/\S' r=some (.cells (es.flatten++rest))
theorem Qd(st:MR)(es:List (List D))(V:Sig)(hr:RowAt V 4 st es)(hn:es.length<=1073741824):DCall prog 214 [mD st es.length] V fun x S'=>(∃E,x=.ret E/\RowW V es E st)/\S'=V:=by
 cases st with
 |none=>
  have he:es=[]:=hr;subst he
  show DCall prog 214 [.nils] V _;refine en func214 ntmps214 ?_
  try refine gz ?_
  exact fin1 (S':=V) ⟨⟨_,rfl,rfl,rfl⟩,rfl⟩
 |some x=>
  obtain⟨r,cap,rest⟩:=x;obtain⟨h1,h2,h3,h4⟩:=hr
  show DCall prog 214 [.sref r 0 es.length cap] V _;refine en func214 ntmps214 ?_
  try refine gz ?_
  refine Qy Ad (off:=0) (m:=es.length) (cap:=cap) ?_ (by decide) (by simp<;>rfl) (by simp) rfl rfl rfl (Nat.le_refl _) h3
  try refine gz ?_
  exact fin1 (S':=V) ⟨⟨_,rfl,rfl,h1⟩,rfl⟩
theorem Ql(l:List BClass)(h:BClass->FClass)(g:Nat)(cap:List D)(o:Own)(V:Sig)(hl:l.length<=1073741824)
  (hg:∀x∈l, ∀S',Sub V S'->DCall prog g ([]++[.agg (cBClass x)]++cap) S' fun r S''=>r=.ret (.agg (cFClass (h x)))/\S''=S') :
  DCall prog 135 [.slice (l.map cBClass) o,.func (.func g) [] cap] V fun x S'=> ∃E st,x=.ret E/\RowW S' ((l.map h).map cFClass) E st/\Sub V S' /\ ∀j x,V j=some x->¬Bq st j:=by
 refine en func135 ntmps135 ?_
 try refine gz ?_
 refine U9 [1,4,8,9,21,22] (fun (k:Nat) (out:List FClass) (E:D) (st:MR) (S1:Sig)=>k<=l.length/\out++(l.drop k).map h=l.map h/\E=mD st out.length/\RowAt S1 4 st (out.map cFClass)/\Sub V S1 /\ ∀j x,V j=some x->¬Bq st j) (fun k _ E _ _=>[(10,dI k),(5,E)]) (fun _ _ _ _ S1=>S1) (fun k _ _ _ _=>l.length-k) (0) ([]) (.nils) (none) (V) (by exact⟨by omega,rfl,rfl,rfl,Sub.refl _,fun _ _ _=>id⟩) (fun k out E st S1 hI=>?_);obtain⟨hk,hR,rfl,hrow,hS,hN⟩:=hI;have hlen:=congrArg List.length hR;simp at hlen
 by_cases hh:k<l.length
 ·rw[A3 hh]at hR
  repeat' first|refine AE (hg (l[k]) (List.getElem_mem hh) _ hS) ?_|refine callP (hg (l[k]) (List.getElem_mem hh) _ hS) ?_|refine gf hh ?_|apply gy<;>intro hh
  refine rapp (es:=out.map cFClass) (fun st2 S2 hr2 hk2=>?_) (hm:=hrow)
  try refine gz ?_
  exact⟨k+1,out++[h l[k]],mD st2 (out++[h l[k]]).length,st2,S2,⟨by omega,by rw[List.append_assoc];exact hR,rfl,by rw[List.map_append];exact hr2,fun j x hj=>(hk2 _ _ (hS _ _ hj) (hN _ _ hj)).1,fun j x hj=>(hk2 _ _ (hS _ _ hj) (hN _ _ hj)).2⟩,td1,wkR⟩
 ·try refine gf hh ?_
  rw[A2 hh]at hR;simp at hR;have h214:=Qd st (out.map cFClass) S1 hrow (by rw[List.length_map];omega);rw[List.length_map]at h214;refine Ab h214 (fun d S2 hr=>?_) (fun d S2 hr=>by obtain⟨⟨_,h,_⟩,_⟩:=hr;cases h);obtain⟨⟨E,e1,hW⟩,rfl⟩:=hr;cases e1
  try refine gz ?_
  exact fin1 (S':=S2) ⟨d,st,rfl,by rw[<-hR];exact hW,hS,hN⟩
theorem B4(n:Nat):(Bo n).length=n:=by unfold Bo;rw[JM];simp
def spA(p:BProg):List Str:=[wAny,wInt,Fk]++Bo p.classes.length
def spS(p:BProg):List Str:=Bo p.slots.toNat
def spG(p:BProg):List Str:=Bo p.gens.length
def spL(p:BProg):List Str:=Bo (p.nodes.length+3)
def Ck(p:BProg)(m:BMeth):Nat:=(p.gens.getD m.gen.toNat 0).toNat
def spM(p:BProg)(m:BMeth):FMeth:=⟨m.kind,ixS (spG p) m.gen,(spL p).take (Ck p m),spF (spA p) (spS p) ((spL p).take (Ck p m)) m.fact,(spE p (spA p) (spS p) (spG p) (spL p) 12 m.node ((spL p).take (Ck p m)) (Ck p m)).1⟩
def spCs(p:BProg):List FClass:=(p.classes.zip (Bo p.classes.length)).map fun x=>{ spC (spA p) (spS p) x.1 with name:=x.2 }
def Ai(p:BProg):FProg:=⟨spCs p,p.methods.map (spM p),(spE p (spA p) (spS p) (spG p) (spL p) 12 p.main [] 0).1⟩
structure MetOK(p:BProg)(m:BMeth):Prop where
 gen:InR m.gen p.gens.length
 par:0<=p.gens.getD m.gen.toNat 0/\Ck p m<=p.nodes.length+3
 fact:FIx (3+p.classes.length) p.slots.toNat (Ck p m) m.fact
 body:okE p 12 m.node (Ck p m)
 left:(spE p (spA p) (spS p) (spG p) (spL p) 12 m.node ((spL p).take (Ck p m)) (Ck p m)).2<=p.nodes.length+3
structure SpOK(p:BProg):Prop where
 wt:p.wt<=100000000
 slots:0<=p.slots/\p.slots<=100000000
 cls:∀c∈p.classes,ClsIx (3+p.classes.length) p.slots.toNat c
 met:∀m∈p.methods,MetOK p m
 main:okE p 12 p.main 0
 left:(spE p (spA p) (spS p) (spG p) (spL p) 12 p.main [] 0).2<=p.nodes.length+3
theorem OU(p:BProg)(V:Sig)(hp:SpOK p):DCall prog 56 [.agg (Am p)] V (rS (.agg (BA (Ai p))) V):=by
 obtain⟨p1,p2,p3,p4,p5,p6,p7⟩:=p.wt_le;have hwt:=hp.wt;obtain⟨s0,s1⟩:=hp.slots;obtain⟨sn,hsn⟩:∃n:Nat,p.slots=n:=⟨p.slots.toNat,by omega⟩;have hsn':p.slots.toNat=sn:=by omega
 have hlA:(spA p).length=3+p.classes.length:=by unfold spA;rw[List.length_append,B4];rfl
 have hlS:(spS p).length=sn:=by unfold spS;rw[B4,hsn']
 have hlG:(spG p).length=p.gens.length:=B4 _;have hlL:(spL p).length=p.nodes.length+3:=B4 _;have hcsp:cSp p (spA p) (spS p) (spG p)=.cptr [.cptr [sl (p.classes.map cBClass),dI p.slots,sl (cI p.gens),sl (p.methods.map Ak),sl (p.nodes.map Af),dI p.main,sl (cS (spA p)),sl (cS (spS p)),sl (cS (spG p))] 0] 0:=rfl;have k1:=fun (V:Sig)=>ES p.classes.length V (by omega)
 have k2:=fun (V:Sig)=>ES sn V (by omega)
 have k3:=fun (V:Sig)=>ES p.gens.length V (by omega)
 refine en func56 ntmps56 ?_
 try refine gz ?_ o56 [2,4,6,77,109]
 refine newV (fun i2 hi2=>?_)
 repeat' first|refine gz ?_ [] [2,4,6,77,109]|refine AE (k1 _) ?_|refine callP (k1 _) ?_|refine moR (k1 _) ?_|refine moP (k1 _) ?_|refine gz ?_ (delO 2 o56) [2,4,6,77,109]|apply gy<;>intro hh
 refine mixL (id:=2) [0,1,2,4,5,7,8,9,3,6,10,11,12,13] [13] ?_
 try refine gz ?_ (delO 2 o56) [2,4,6,77,109]
 refine moQAppC (es:=cS [wAny,wInt,Fk]) (new:=cS (Bo p.classes.length)) ?_ (hm:=by simp[B4];omega) (hb:=by simp[B4];omega);have hcA:cS [wAny,wInt,Fk]++cS (Bo p.classes.length)=cS (spA p):=by unfold spA;simp[cS]
 rw[hcA,hsn];refine U3 (fun S' _=>(k2 S').mono fun x S'' hx=>⟨hx.1,hx.2 ▸ Sub.refl _⟩) ?_;refine U3 (fun S' _=>(k3 S').mono fun x S'' hx=>⟨hx.1,hx.2 ▸ Sub.refl _⟩) ?_
 try refine gz ?_ (delO 2 o56) [2,4,6,77,109]
 refine OA (fun i4 hi4=>?_);have n24:i2≠i4:=fun e=>by rw[<-e,w7]at hi4;cases hi4
 repeat ((fail_if_success (first|(refine dwp_wk (FP (i:=i4) (t:=4) (w7 ..) (by rfl)) ?_)|fail));(refine goX1 trivial ?_))
 refine dwp_wk (FP (i:=i4) (t:=4) (w7 ..) (by rfl)) ?_;have eS:Bo sn=spS p:=by unfold spS;rw[hsn']
 have eG:Bo p.gens.length=spG p:=rfl
 have hdel:∀(τ:Sig) (o:DObj),τ i4=none->(τ.set i4 o).del i4=τ:=fun τ o h=>by
  funext j;simp only[Sig.set,Sig.del];split
  ·rename_i e;rw[e,h]
  ·rfl
 rw[hdel _ _ hi4,eS,eG];clear k1 k2 k3;have k4:∀(V:Sig),DCall prog 134 [dI (p.nodes.length+3:Nat)] V (rS (sl (cS (spL p))) V):=fun V=>ES (p.nodes.length+3) V (by omega)
 have k5:∀(V:Sig),DCall prog 135 _ V _:=fun V=>Ql p.classes (spC (spA p) (spS p)) 136 [cSp p (spA p) (spS p) (spG p)] .no V (by omega) (fun x hx S' _=>T6 p (spA p) (spS p) (spG p) x S' (by rw[hlA,hlS,<-hsn'];exact hp.cls x hx) (by omega) (by omega) (by obtain⟨k,hk,rfl⟩:=List.getElem_of_mem hx;have:=p5 k hk;omega))
 rw[hcsp]at k5;have hn3:((p.nodes.length:Int)+3)=((p.nodes.length+3:Nat):Int):=by omega
 repeat ((fail_if_success (first|(refine dwp_cutE3 (x3:=.seq _ (.block 0 _)) (fun i=>(V.set i2 (.cells [.nils,.nils,dI 0,dI 0,.str [],.nils])) i=none) (fun i=>[(6,.ptr i 0),(5,sl (cS (spL p))),(4,cSp p (spA p) (spS p) (spG p)),(2,.ptr i2 0),(1,.cptr (Am p) 0)]) (fun i=>(V.set i2 (.cells [.nils,.nils,dI 0,dI 0,.str [],.nils])).set i (.cells [sl ((spCs p).map cFClass),.nils,dI 0,dI 0,.str [],.nils])) (fun i6 hi6=>?_) (fun _ hK=>?_))|fail));(refine goX1 trivial ?_))
 refine dwp_cutE3 (x3:=.seq _ (.block 0 _)) (fun i=>(V.set i2 (.cells [.nils,.nils,dI 0,dI 0,.str [],.nils])) i=none) (fun i=>[(6,.ptr i 0),(5,sl (cS (spL p))),(4,cSp p (spA p) (spS p) (spG p)),(2,.ptr i2 0),(1,.cptr (Am p) 0)]) (fun i=>(V.set i2 (.cells [.nils,.nils,dI 0,dI 0,.str [],.nils])).set i (.cells [sl ((spCs p).map cFClass),.nils,dI 0,dI 0,.str [],.nils])) (fun i6 hi6=>?_) (fun _ hK=>?_)
 ·refine CB i6 1 13 (ds:=[sl ((spCs p).map cFClass),.nils,dI 0,dI 0,.str [],.nils]) (w7 ..) rfl fun it hit=>?_;have n26:i2≠i6:=fun e=>by rw[<-e,w7]at hi6;cases hi6
  have h60:V i6=none:=(Aa hi6).2;have n6t:i6≠it:=fun e=>by rw[<-e,w7]at hit;cases hit
  have hit2:=(Aa hit).2;have n2t:i2≠it:=fun e=>by rw[<-e,w7]at hit2;cases hit2
  have ht0:V it=none:=(Aa hit2).2;generalize hSa:Sig.set (Sig.set _ it _) i6 _=Sa;have q6:Sa i6=some (.cells [sl ((spCs p).map cFClass),.slice (([]:List FMeth).map D0) (.tag it),dI 0,dI 0,.str [],.nils]):=by rw[<-hSa];exact w7 ..
  have qt:Sa it=some (.tail 13 ([]:List FMeth).length):=by rw[<-hSa,w8 _ _ (Ne.symm n6t)];exact w7 ..
  have q2:Sa i2=some (.cells [.nils,.nils,dI 0,dI 0,.str [],.nils]):=by rw[<-hSa,w8 _ _ n26,w8 _ _ n2t,w8 _ _ n26];exact w7 ..
  have qS:Sub V Sa:=by rw[<-hSa];exact((((Sub.refl _).set hi2).set h60).set ht0).set h60
  clear hSa hit hit2;have hcsp0:cSp0 p (spA p) (spS p) (spG p)=.cptr [sl (p.classes.map cBClass),dI p.slots,sl (cI p.gens),sl (p.methods.map Ak),sl (p.nodes.map Af),dI p.main,sl (cS (spA p)),sl (cS (spS p)),sl (cS (spG p))] 0:=rfl
  try refine gf hcsp ?_ o56 [2,4,6,77,109]
  refine FG [1,2,4,5,6,12,57,58,106,107,108,109,110,111,112,113,114,115] (fun (k:Nat) (ms:List FMeth) (S3:Sig)=>k<=p.methods.length/\ms=(p.methods.take k).map (spM p)/\S3 i6=some (.cells [sl ((spCs p).map cFClass),.slice (ms.map D0) (.tag it),dI 0,dI 0,.str [],.nils])/\S3 it=some (.tail 13 ms.length)/\S3 i2=some (.cells [.nils,.nils,dI 0,dI 0,.str [],.nils])/\Sub V S3) (fun k _ _=>[(59,dI k)]) (fun _ _ S3=>S3) (fun k _ _=>p.methods.length-k) (0) ([]) (Sa) (by exact⟨by omega,rfl,q6,qt,q2,qS⟩) (fun k ms S3 hI=>?_);obtain⟨hk,hms,o6,ot,o2,oS⟩:=hI
  by_cases hkl:k<p.methods.length
  ·have hM:=hp.met _ (List.getElem_mem hkl);have hwm:=p6 k hkl;generalize hm:p.methods[k]=m at*;obtain⟨gq,hgq,hgl⟩:∃gq:Nat,m.gen=gq/\gq<p.gens.length:=⟨m.gen.toNat,by have:=hM.gen;unfold InR at this;omega,by have:=hM.gen;unfold InR at this;omega⟩
   have hpn:p.gens[gq]=((Ck p m:Nat):Int):=by
    have h1:=hM.par.1;unfold Ck;rw[hgq,show((gq:Int)).toNat=gq by omega,List.getD_eq_getElem?_getD,List.getElem?_eq_getElem hgl]at*;simp only[Option.getD_some]at*;omega
   have hpl:=hM.par.2;generalize hpnn:Ck p m=pn at*;have htk:List.take pn (cS (spL p))=cS ((spL p).take pn):=by simp[cS,List.map_take]
   have htl:((spL p).take pn).length=pn:=by rw[List.length_take];omega
   rw[hcsp]
   repeat ((fail_if_success (first|(refine boxV (T:=214) (fun i11 hi11=>?_))|fail));(refine goX1 (gi hm (gi hgq (gi hpn htk))) ?_))
   refine boxV (T:=214) (fun i11 hi11=>?_);have n611:i6≠i11:=A1 o6 hi11;have nt11:it≠i11:=A1 ot hi11;have n211:i2≠i11:=A1 o2 hi11
   try refine gz ?_ (delO 15 o56) [2,4,6,77,109]
   generalize hU4:S3.set i11 _=S4;have b11:S4 i11=some (.cells [cSp0 p (spA p) (spS p) (spG p),sl (cS (spL p)),dI pn]):=by rw[<-hU4];exact w7 ..
   have b6:S4 i6=some (.cells [sl ((spCs p).map cFClass),.slice (ms.map D0) (.tag it),dI 0,dI 0,.str [],.nils]):=by rw[<-hU4,w8 _ _ n611];exact o6
   have bt:S4 it=some (.tail 13 ms.length):=by rw[<-hU4,w8 _ _ nt11];exact ot
   have b2:S4 i2=some (.cells [.nils,.nils,dI 0,dI 0,.str [],.nils]):=by rw[<-hU4,w8 _ _ n211];exact o2
   have s11:V i11=none:=oS.none hi11;have bS:Sub V S4:=by rw[<-hU4];exact oS.set s11
   clear hU4;have hgl':gq<(spG p).length:=by omega
   have hnm:ixS (spG p) m.gen=(spG p)[gq]:=by rw[hgq];unfold ixS;rw[show((gq:Int)).toNat=gq by omega,List.getElem?_eq_getElem hgl'];rfl
   have hfw:m.fact.wt<=1073741824:=by unfold BMeth.wt at hwm;omega
   have h143:=fun (S':Sig)=>SZ p (spA p) (spS p) (spG p) ((spL p).take pn) (by omega) (by omega) (by omega) 1073741824 m.fact .no S' hfw (Nat.le_refl _) (by rw[hlA,hlS,htl,<-hsn',<-hpnn];exact hM.fact)
   have h144:=MB p (spA p) (spS p) (spG p) (spL p) (by omega) hlA (by omega) (by omega) (by omega) hlG (by omega) 12 m.node ((spL p).take pn) .no pn i11 S4 (by rw[htl,<-hpnn];exact hM.body) (by omega) (by rw[hlL];have:=hM.left;rw[hpnn]at this;exact this) b11;have u6:(S4.out fun j=>j=i11\/j=it) i6=_:=Hb b6 (by rintro(h|h);exact n611 h;exact n6t h);refine Im (id:=15) [0,1,2,3,4,5,6,7,8,9,10,11,12,13,14,15,16,18,19,20,21,17,22,23,24,25,26] [22,25] (S4.out fun j=>j=i11\/j=it) (CS _ _) ?_
   try refine gf (gi u6 (gi hm hgq)) ?_ o56 [2,4,6,77,109]
   refine U3 (fun S' _=>(h143 S').mono fun x S'' hx=>⟨hx.1,hx.2 ▸ Sub.refl _⟩) ?_
   try refine gz ?_ o56 [2,4,6,77,109]
   refine E4 h144 (fun d S5 hx=>?_) (fun d S5 hx=>by cases hx.1);obtain⟨hx',rfl⟩:=hx;cases hx'
   have hsb:∀{c:DObj},Sub (S4.out fun j=>j=i11\/j=it) (S4.set i11 c):=fun j z hz=>by
    obtain⟨h1,h2⟩:=EF hz;rw[w8 _ _ fun e=>h2 (.inl e)];exact h1
   have hsb2:∀{c:DObj},Sub (S4.out fun j=>j=i11\/j=it) ((S4.set i11 c).set it (.tail 13 (ms.length+1))):=fun j z hz=>by
    obtain⟨h1,h2⟩:=EF hz;rw[w8 _ _ fun e=>h2 (.inr e)];exact hsb _ _ hz
   refine⟨hsb,?_⟩;simp only[putD];have hsub2:=hsb2 (c:=.cells [cSp0 p (spA p) (spS p) (spG p),sl (cS (spL p)),dI (spE p (spA p) (spS p) (spG p) (spL p) 12 m.node (List.take pn (spL p)) pn).2]);have hmsl:ms.length=k:=by rw[hms];simp;omega
   try refine gf (gi bt b6) ?_ o56 [2,4,6,77,109]
   generalize hqq:Sig.set _ i6 _=qq
   have c6:qq i6=some (.cells [sl ((spCs p).map cFClass),.slice ((ms++[spM p m]).map D0) (.tag it),dI 0,dI 0,.str [],.nils]):=by
    rw[<-hqq,w7];simp[spM,hnm,hpnn]
   have ct:qq it=some (.tail 13 (ms++[spM p m]).length):=by rw[<-hqq,w8 _ _ (Ne.symm n6t),w7,List.length_append];rfl
   have c2:qq i2=some (.cells [.nils,.nils,dI 0,dI 0,.str [],.nils]):=by rw[<-hqq,w8 _ _ n26,w8 _ _ n2t,w8 _ _ n211];exact b2
   have cS:Sub V qq:=by rw[<-hqq];exact((bS.set s11).set ht0).set h60
   have hms':ms++[spM p m]=(p.methods.take (k+1)).map (spM p):=by rw[hms,<-List.take_append_getElem hkl,List.map_append,hm];rfl
   clear hqq;exact⟨k+1,ms++[spM p m],qq,⟨by omega,hms',c6,ct,c2,cS⟩,td1,wkR⟩
  ·rw[hcsp];refine dwp_wk (Et (az:=[sl ((spCs p).map cFClass)]) (bs:=[dI 0,dI 0,.str [],.nils]) (d':=sl (ms.map D0)) o6 (Bc _ _)) ?_;generalize hU5:S3.set i6 _=S5;have o6:S5 i6=some (.cells [sl ((spCs p).map cFClass),sl (ms.map D0),dI 0,dI 0,.str [],.nils]):=by rw[<-hU5];exact w7 ..
   have o2:S5 i2=some (.cells [.nils,.nils,dI 0,dI 0,.str [],.nils]):=by rw[<-hU5,w8 _ _ n26];exact o2
   have oS:Sub V S5:=by rw[<-hU5];exact oS.set h60
   clear hU5 ot
   repeat ((fail_if_success (first|(refine boxV (T:=214) (fun i12 hi12=>?_))|fail));(refine goX1 trivial ?_))
   refine boxV (T:=214) (fun i12 hi12=>?_);have n612:i6≠i12:=A1 o6 hi12;have n212:i2≠i12:=A1 o2 hi12
   try refine gz ?_ o56 [2,4,6,77,109]
   generalize hU4:S5.set i12 _=S4;have b12:S4 i12=some (.cells [cSp0 p (spA p) (spS p) (spG p),sl (cS (spL p)),dI (0:Nat)]):=by rw[<-hU4];exact w7 ..
   have b6:S4 i6=some (.cells [sl ((spCs p).map cFClass),sl (ms.map D0),dI 0,dI 0,.str [],.nils]):=by rw[<-hU4,w8 _ _ n612];exact o6
   have b2:S4 i2=some (.cells [.nils,.nils,dI 0,dI 0,.str [],.nils]):=by rw[<-hU4,w8 _ _ n212];exact o2
   have s12:V i12=none:=oS.none hi12;have bS:Sub V S4:=by rw[<-hU4];exact oS.set s12
   clear hU4;have h144:=MB p (spA p) (spS p) (spG p) (spL p) (by omega) hlA (by omega) (by omega) (by omega) hlG (by omega) 12 p.main [] .no 0 i12 S4 hp.main (by simp) (by rw[hlL];exact hp.left) b12;have hke:k=p.methods.length:=by omega
   rw[hke,List.take_length]at hms;subst hms;refine Ab (h144.wk (args:=[.ptr i12 0,dI p.main,.nils]) ⟨A7 _,A7 _,Aq _ (.inl rfl),trivial⟩) (fun d S6 hx=>?_) (fun d S6 hx=>by cases hx.1);obtain⟨hx',rfl⟩:=hx;cases hx';simp only[putD]
   try refine gf (gi b6 b2) ?_ o56 [2,4,6,77,109]
   exact finC (S':=V) ⟨rfl,rfl⟩ (hw:=by refine Bd ?_;simp[Ai]) (hU:=((bS.set s12).set h60).set hi2)
 ·repeat' first|refine gf hn3 ?_ [] [2,4,6,77,109]|refine AE (k4 _) ?_|refine callP (k4 _) ?_|refine moR (k4 _) ?_|refine moP (k4 _) ?_|refine gf hn3 ?_ o56 [2,4,6,77,109]|apply gy<;>intro hh
  refine Ab (k5 _) (fun d S1 hr=>?_) (fun d S1 hr=>by obtain⟨_,_,h,_⟩:=hr;cases h);obtain⟨E,st,e1,hW,hS1,hN1⟩:=hr;cases e1;have o2:S1 i2=some (.cells [.nils,.nils,dI 0,dI 0,.str [],.nils]):=hS1 _ _ (w7 ..);have r2:¬Bq st i2:=hN1 _ _ (w7 ..);have hS01:Sub V S1:=((Sub.refl _).set hi2).trans hS1;have hN01:∀j x,V j=some x->¬Bq st j:=fun j x hj=>hN1 _ _ (by rw[w8 _ _ (A1 hj hi2)];exact hj)
  simp only[putD];cases st with
  |none=>
   obtain⟨rfl,hnil⟩:=hW;have hcl:p.classes=[]:=by simpa using hnil
   try refine gz ?_ o56 [2,4,6,77,109]
   refine newV (fun i6 hi6=>?_);have n26:i2≠i6:=A1 o2 hi6;have hi61:=hS1.none hi6
   try refine gz ?_ o56 [2,4,6,77,109]
   refine Bj [1,2,3,4,5,6,9,10,11,12,42,56,57,58,59,60,61,62,63,64,65,66,67,68,69,70,71,72,73,74,75,76,77,78,79,80,81,82,83,84,85,86,87,88,89,90,91,92,93,94,95,96,97,98,99,100,101,102,103,104,105,106,107,108,109,110,111,112,113,114,115] (fun (k:Nat)=>k=0) (fun k=>[(43,dI k)]) (fun _=>S1.set i6 (.cells [.slice [] .clip,.nils,dI 0,dI 0,.str [],.nils])) (fun _=>0) (0) (by rfl) (fun k hI=>?_);subst hI
   try refine gz ?_ o56 [2,4,6,77,109]
   refine dwp_wk (Et (az:=[]) (bs:=[.nils,dI 0,dI 0,.str [],.nils]) (d':=sl ((spCs p).map cFClass)) (w7 ..) (by unfold spCs;rw[hcl];exact Bc _ _)) ?_;refine dwp_wk (Bt (by rw[hcsp];simp) ?_) (hK i6 hi61);rw[Sig.set_set];exact Sub.both hS1
  | some x =>
   obtain⟨r,cap,rest⟩:=x;obtain⟨rfl,hrow⟩:=hW;have hr2:i2≠r:=r2
   try refine gz ?_ o56 [2,4,6,77,109]
   refine newV (fun i6 hi6=>?_);have n26:i2≠i6:=A1 o2 hi6;have hi61:=hS1.none hi6;have hri:r≠i6:=A1 hrow hi6
   have hr0:V r=none:=by
    cases h:V r with
    |none=>rfl
    |some x=>exact absurd rfl (hN01 r x h)
   try refine gz ?_ o56 [2,4,6,77,109]
   refine Br [1,2,3,4,5,6,9,10,11,12,42,56,57,58,59,60,61,62,63,64,65,66,67,68,69,70,71,72,73,74,75,76,77,78,79,80,81,82,83,84,85,86,87,88,89,90,91,92,93,94,95,96,97,98,99,100,101,102,103,104,105,106,107,108,109,110,111,112,113,114,115] (fun (k:Nat) (S3:Sig)=>k<=p.classes.length/\S3 r=some (.cells ((((spCs p).take k++(p.classes.map (spC (spA p) (spS p))).drop k).map cFClass).flatten++rest))/\S3 i6=some (.cells [.sref r 0 p.classes.length p.classes.length,.nils,dI 0,dI 0,.str [],.nils])/\S3 i2=some (.cells [.nils,.nils,dI 0,dI 0,.str [],.nils])/\Sub V S3) (fun k _=>[(43,dI k)]) (fun _ S3=>S3) (fun k _=>p.classes.length-k) (0) (S1.set i6 (.cells [.sref r 0 p.classes.length p.classes.length,.nils,dI 0,dI 0,.str [],.nils])) (by exact⟨by omega,by rw[w8 _ _ hri,hrow];simp,by simp,by rw[w8 _ _ n26];exact o2,hS01.set (hS01.none hi6)⟩) (fun k S3 hI=>?_);obtain⟨hk,q1,q6,q2,qS⟩:=hI
   by_cases hkl:k<p.classes.length
   ·have hkn:k<(Bo p.classes.length).length:=by rw[B4];exact hkl
    have hlc:(spCs p).length=p.classes.length:=by unfold spCs;simp[B4]
    have hspk:(spCs p)[k]'(by omega)={ spC (spA p) (spS p) p.classes[k]with name:=(Bo p.classes.length)[k] }:=by simp[spCs]
    have hX:(((spCs p).take k++(p.classes.map (spC (spA p) (spS p))).drop k).map cFClass).flatten++rest=(((spCs p).take k).map cFClass).flatten ++ .str (spC (spA p) (spS p) p.classes[k]).name::((cFClass (spC (spA p) (spS p) p.classes[k])).tail++((((p.classes.map (spC (spA p) (spS p))).drop (k+1)).map cFClass).flatten++rest)):=by
     rw[List.drop_eq_getElem_cons (by simpa using hkl)];simp
    have hA:((((spCs p).take k).map cFClass).flatten).length=k*4:=by
     rw[List.length_flatten,List.map_map]
     have:(List.map (List.length ∘ cFClass) ((spCs p).take k))=List.replicate k 4:=by
      rw[List.eq_replicate_iff];exact⟨by simp;omega,fun b hb=>by obtain⟨x,_,rfl⟩:=List.mem_map.1 hb;rfl⟩
     rw[this];simp
    have hY:(((spCs p).take (k+1)++(p.classes.map (spC (spA p) (spS p))).drop (k+1)).map cFClass).flatten++rest=(((spCs p).take k).map cFClass).flatten ++ .str (Bo p.classes.length)[k]::((cFClass (spC (spA p) (spS p) p.classes[k])).tail++((((p.classes.map (spC (spA p) (spS p))).drop (k+1)).map cFClass).flatten++rest)):=by
     rw[<-List.take_append_getElem (by omega),hspk];simp
    rw[hX]at q1;generalize (((spCs p).take k).map cFClass).flatten=A at*;generalize (cFClass (spC (spA p) (spS p) p.classes[k])).tail++((((p.classes.map (spC (spA p) (spS p))).drop (k+1)).map cFClass).flatten++rest)=R at*;have t1:List.take (k*4) (A ++ .str (spC (spA p) (spS p) p.classes[k]).name::R)=A:=by rw[<-hA];exact List.take_left' rfl
    have t2:List.drop (k*4+1) (A ++ .str (spC (spA p) (spS p) p.classes[k]).name::R)=R:=by rw[<-hA,List.drop_length_add_append];rfl
    try refine gf (gi q6 (gi q1 (gi t1 t2))) ?_ o56 [2,4,6,77,109]
    exact⟨k+1,S3.set r (.cells (A ++ .str (Bo p.classes.length)[k]::R)),⟨by omega,by rw[w7,hY],by rw[w8 _ _ (Ne.symm hri)];exact q6,by rw[w8 _ _ hr2];exact q2,qS.set hr0⟩,td1,wkR⟩
   ·have hke:k=p.classes.length:=by omega
    subst hke;have hlc:(spCs p).length=p.classes.length:=by unfold spCs;simp[B4]
    have hfin:(spCs p).take p.classes.length++(p.classes.map (spC (spA p) (spS p))).drop p.classes.length=spCs p:=by
     rw[List.take_of_length_le (by omega),List.drop_of_length_le (by simp),List.append_nil]
    rw[hfin]at q1;have hl2:p.classes.length=((spCs p).map cFClass).length:=by rw[List.length_map,hlc]
    rw[hl2]at q6;refine dwp_wk (Lq (az:=[]) (bs:=[.nils,dI 0,dI 0,.str [],.nils]) (sz:=4) q1 q6 (Ne.symm hri) (Nat.le_refl _) (fun e he=>by obtain⟨x,_,rfl⟩:=List.mem_map.1 he;rfl)) ?_
    try refine gz ?_ o56 [2,4,6,77,109]
    refine dwp_wk (Bt (by rw[hcsp];simp) ?_) (hK i6 hi61);refine Sub.both fun j x hj=>?_;have hjr:j≠r:=fun e=>by rw[e,w8 _ _ (Ne.symm hr2),hr0]at hj;cases hj
    simp only[Sig.del,hjr,if_false]
    by_cases hj2:j=i2
    ·subst hj2;rw[w7]at hj;rw[<-hj];exact q2
    ·rw[w8 _ _ hj2]at hj;exact qS _ _ hj
@[reducible,instance] def a56:=fun p V=>ah1 (@OU p V)
def cntB(p:BProg):Nat->Int->Nat
 |0,_=>1
 |k+1,node=>1+wtL (cntB p k) (Aj p node).kids
def negS(s:List Int):Nat:=s.countP (· < 0)
theorem KQ: ∀(s:List Int) (n:Nat) (v:Int),n<s.length->s.getD n 0<0->0<=v->negS (s.set n v)+1=negS s
 |[],n,v,h,_,_=>by simp at h
 |x::r,0,v,_,h,hv=>by
  have hx:x<0:=h;simp only[List.set_cons_zero,negS,List.countP_cons,hx,decide_true,if_true];rw[if_neg (by simpa using hv)]
 |x::r,n+1,v,hl,h,hv=>by
  have:=KQ r n v (by simpa using hl) (by simpa using h) hv;simp only[negS]at this;simp only[List.set_cons_succ,negS,List.countP_cons];omega
theorem HO{p:BProg}{k:Nat}{f:Int->Int->List Int->Bool×List Int}{x:BNode}{size:Int}
  (hf:∀c z s s',f c z s=(true,s')->s.length=p.nodes.length->0<=z->okE p k c z.toNat/\s'.length=s.length/\cntB p k c+negS s'<=negS s) (hz:0<=size) :
  ∀(l:List Int) (j:Nat) (s s':List Int),C6 f x size j l s=(true,s')->s.length=p.nodes.length->
   (∀(i:Nat) (h:i<l.length),okE p k l[i] (if x.op=9/\j+i=1 then size.toNat+1 else size.toNat))/\s'.length=s.length/\wtL (cntB p k) l+negS s'<=negS s
 |[],j,s,s',h,hs=>by
  rw[C6]at h;cases h;exact⟨fun i h=>by simp at h,rfl,by rw[wtL];omega⟩
 | c::r,j,s,s',h,hs=>by
  rw[C6]at h;cases hc:f c (if x.op=9/\j=1 then size+1 else size) s with
  | mk b s1 =>
   rw[hc]at h;cases b with
   |false=>simp at h
   | true =>
    obtain⟨h1,h2,h3⟩:=hf _ _ _ _ hc hs (by split<;>omega);obtain⟨h4,h5,h6⟩:=HO hf hz r (j+1) s1 s' h (by omega);refine⟨fun i hi=>?_,by omega,by rw[wtL];omega⟩;cases i with
    |zero=>
     simp only[List.getElem_cons_zero,Nat.add_zero];rw[show(if x.op=9/\j=1 then size.toNat+1 else size.toNat)=(if x.op=9/\j=1 then size+1 else size).toNat by split<;>omega];exact h1
    |succ i=>
     have:=h4 i (by simpa using hi);rw[show j+1+i=j+(i+1) by omega]at this;exact this
theorem Hr(p:BProg)(inM:Bool): ∀(k:Nat) (node size:Int) (s s':List Int),Dm p inM k node size s=(true,s')->s.length=p.nodes.length->0<=size->okE p k node size.toNat/\s'.length=s.length/\cntB p k node+negS s'<=negS s
 |0,_,_,_,_,h,_,_=>by simp[Dm]at h
 | k+1,node,size,s,s',h,hs,hz=>by
  rw[Dm]at h;split at h
  ·simp at h
  ·rename_i h1;split at h
   ·simp at h
   ·rename_i h2;obtain⟨h4,h5,h6⟩:=HO (Hr p inM k) hz (Aj p node).kids 0 _ s' h (by simpa using hs);have hn:node.toNat<s.length:=by omega
    have h7:=KQ s node.toNat size hn (by omega) hz;refine⟨?_,by rw[h5,List.length_set],by rw[cntB];omega⟩;rw[okE];refine⟨⟨by omega,by omega⟩,?_,fun j hj=>?_⟩
    ·rw[show((size.toNat:Nat):Int)=size by omega];cases hb:BF p (Aj p node) size
     ·exact absurd (.inr (.inl hb)) h2
     ·rfl
    ·have:=h4 j hj;rw[Nat.zero_add]at this;exact this
theorem Jt{p:BProg}{k:Nat}{f:Int->List Str->Nat->FExp×Nat}{op:Int}{txt:Str}{env:List Str}(hf:∀c e t,(f c e t).2<=t+cntB p k c): ∀(l:List Int) (j t:Nat),(BJ f op txt env j l t).2<=t+wtL (cntB p k) l
 |[],_,t=>by rw[BJ,wtL];simp
 |c::r,j,t=>by
  rw[BJ,wtL];have h1:=hf c (if op=9/\j=1 then env++[txt] else env) t;have h2:=Jt (op:=op) (txt:=txt) (env:=env) hf r (j+1) (f c (if op=9/\j=1 then env++[txt] else env) t).2;simp only;omega
theorem Nq(p:BProg)(a b g P:List Str): ∀(k:Nat) (node:Int) (env:List Str) (t:Nat),(spE p a b g P k node env t).2<=t+cntB p k node
 |0,_,_,t=>by rw[spE,cntB];simp
 |k+1,node,env,t=>by
  rw[spE,cntB];have:=Jt (op:=(Aj p node).op) (txt:=CR a b g P (Aj p node) env t) (env:=env) (Nq p a b g P k) (Aj p node).kids 0 (if(Aj p node).op=9 then t+1 else t);have h2:(if(Aj p node).op=9 then t+1 else t)<=t+1:=by split<;>omega
  generalize (if(Aj p node).op=9 then t+1 else t)=t0 at*;simp only;omega
theorem Gc(p:BProg): ∀(l:List BMeth) (s s':List Int),Ce p l s=some s'->s.length=p.nodes.length->(∀g∈p.gens,1<=g)->
  (∀m∈l,Dz p m=true/\okE p 12 m.node (Ck p m)/\cntB p 12 m.node<=p.nodes.length)/\s'.length=s.length/\negS s'<=negS s
 |[],s,s',h,hs,_=>by rw[Ce]at h;cases h;exact⟨by simp,rfl,Nat.le_refl _⟩
 | m::r,s,s',h,hs,hg=>by
  rw[Ce]at h;split at h
  ·rename_i hm;cases hw:Dm p (decide (m.kind=1)||decide (m.kind=4)) 12 m.node (p.gens.getD m.gen.toNat 0) s with
   | mk b s1 =>
    rw[hw]at h;cases b with
    |false=>simp[optW]at h
    | true =>
     simp only[optW]at h
     have hgen:0<=m.gen/\m.gen<p.gens.length:=by
      unfold Dz at hm;simp only[Bool.and_eq_true,decide_eq_true_eq]at hm;exact hm.1.1.2
     have h0:0<=p.gens.getD m.gen.toNat 0:=by
      have hl:m.gen.toNat<p.gens.length:=by omega
      rw[List.getD_eq_getElem?_getD,List.getElem?_eq_getElem hl];have:=hg _ (List.getElem_mem hl);simp only[Option.getD_some];omega
     obtain⟨h1,h2,h3⟩:=Hr p _ 12 _ _ _ _ hw hs h0;obtain⟨h4,h5,h6⟩:=Gc p r s1 s' h (by omega) hg;have hns:negS s<=s.length:=List.countP_le_length;refine⟨fun x hx=>?_,by omega,by omega⟩;rcases List.mem_cons.1 hx with rfl|hx
     ·exact⟨hm,h1,by omega⟩
     ·exact h4 x hx
  ·cases h
end Go.DL
