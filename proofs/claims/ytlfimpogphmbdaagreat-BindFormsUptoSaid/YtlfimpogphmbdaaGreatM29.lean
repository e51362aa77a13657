/- Part of the proof that the last text ends. -/
import Derived.Test.YtlfimpogphmbdaaGreatM23
import Derived.Test.YtlfimpogphmbdaaGreatM24
import Derived.Test.YtlfimpogphmbdaaGreatM28
import Derived.Test.YtlfimpogphmbdaaGreatM12
import Derived.Test.YtlfimpogphmbdaaGreatM26
import Derived.Test.YtlfimpogphmbdaaGreatM17
import Derived.Test.YtlfimpogphmbdaaGreatM16
set_option linter.all false
namespace Go.DL
open Go.Proofs.Tryz
open Go Go.Proofs
set_option maxHeartbeats 8000000
def CA(f:Int->List Str->Nat->FExp×Nat)(op:Int)(txt:Str)(env:List Str):Nat->List Int->Nat->List FExp×Nat
 |_,[],t=>([],t)
 |j,c::r,t=>((f c (if op=9/\j=1 then env++[txt] else env) t).1::(CA f op txt env (j+1) r (f c (if op=9/\j=1 then env++[txt] else env) t).2).1,(CA f op txt env (j+1) r (f c (if op=9/\j=1 then env++[txt] else env) t).2).2)
def Ch(a b g P:List Str)(x:BNode)(env:List Str)(t:Nat):Str:=
 if x.op=3 then ixS env x.n else if x.op=4\/x.op=7 then ixS b x.n else if x.op=5 then ixS g x.n else if x.op=6\/x.op=8 then ixS a x.n else if x.op=9 then ixS P t else []
def spE(p:BProg)(a b g P:List Str):Nat->Int->List Str->Nat->FExp×Nat
 |0,_,_,t=>(.mk 0 0 [] [],t)
 | k+1,node,env,t=>(.mk (Ap p node).op (if (Ap p node).op=1 then (Ap p node).n else 0) (Ch a b g P (Ap p node) env t)
   (CA (spE p a b g P k) (Ap p node).op (Ch a b g P (Ap p node) env t) env 0 (Ap p node).kids (if(Ap p node).op=9 then t+1 else t)).1,
   (CA (spE p a b g P k) (Ap p node).op (Ch a b g P (Ap p node) env t) env 0 (Ap p node).kids (if(Ap p node).op=9 then t+1 else t)).2)
theorem CD{f:Int->List Str->Nat->FExp×Nat}{op:Int}{txt:Str}{env:List Str}(hf:∀c e t,t<=(f c e t).2): ∀(j:Nat) (l:List Int) (t:Nat),t<=(CA f op txt env j l t).2
 |_,[],_=>Nat.le_refl _
 |j,c::r,t=>by rw[CA];exact Nat.le_trans (hf _ _ _) (CD hf (j+1) r _)
theorem H0(p:BProg)(a b g P:List Str): ∀(k:Nat) (node:Int) (env:List Str) (t:Nat),t<=(spE p a b g P k node env t).2
 |0,_,_,_=>Nat.le_refl _
 |k+1,node,env,t=>by
  rw[spE]
  refine Nat.le_trans ?_ (CD (H0 p a b g P k) _ _ _)
  split<;>omega
def okE(p:BProg):Nat->Int->Nat->Prop
 |0,_,_=>False
 |k+1,node,size=>InR node p.nodes.length/\Bk p (Ap p node) size=true /\ ∀(j:Nat) (h:j<(Ap p node).kids.length),okE p k ((Ap p node).kids[j]) (if(Ap p node).op=9/\j=1 then size+1 else size)
def cSp0(p:BProg)(a b c:List Str):D:=.cptr [sl (p.classes.map Ae),dI p.slots,sl (cI p.gens),sl (p.methods.map Aq),sl (p.nodes.map Ai),dI p.main,sl (cS a),sl (cS b),sl (cS c)] 0
theorem Ms{a b:Sig}{i:Nat}{c c':DObj}(h:Sub (a.set i c) b):Sub (a.set i c') (b.set i c'):=fun k z hk=>by
 by_cases hki:k=i
 ·subst hki;rw[w7]at hk⊢; exact hk
 ·rw[w8 _ _ hki]at hk⊢; exact h k z (by rw[w8 _ _ hki];exact hk)
theorem NA(p:BProg)(a b g P:List Str)(hp:p.wt<=1073741824)(ha:a.length=3+p.classes.length)(ha':a.length<=1073741824)(hb:(b.length:Int)=p.slots)(hb':b.length<=1073741824)(hg:g.length=p.gens.length)(hP:P.length<=1073741824): ∀(k:Nat) (node:Int) (env:List Str) (o:Own) (t ib:Nat) (V:Sig),okE p k node env.length->env.length+k<=1073741824->(spE p a b g P k node env t).2<=P.length->V ib=some (.cells [cSp0 p a b g,sl (cS P),dI t])->
  DCall prog 144 [.ptr ib 0,dI node,.slice (cS env) o] V fun x S'=>x=.ret (.agg (Ah (spE p a b g P k node env t).1))/\S'=V.set ib (.cells [cSp0 p a b g,sl (cS P),dI (spE p a b g P k node env t).2]):=by
 obtain⟨p1,p2,p3,p4,p5,p6,p7⟩:=p.wt_le
 intro k
 induction k with
 |zero=>intro node env o t ib V h;exact h.elim
 | succ k ih =>
  intro node env o t ib V hok hsz hT hib
  rw[okE]at hok
  obtain⟨⟨h0,hq⟩,hnb,hkids⟩:=hok
  obtain⟨q,rfl⟩:∃q:Nat,node=(q:Int):=⟨node.toNat,by omega⟩
  have hq:q<p.nodes.length:=by omega
  have hna:Ap p q=p.nodes[q]:=by unfold Ap;rw[show((q:Int)).toNat=q by omega,List.getElem?_eq_getElem hq];rfl
  rw[spE]at hT⊢
  rw[hna]at hT hnb hkids⊢
  generalize hx:p.nodes[q]=x at*
  have hwx:x.kids.length<=1073741824:=by
   have:=p7 q hq
   rw[hx]at this
   have hwu:x.wt=1+x.kids.length:=rfl
   omega
  generalize hL:CA (spE p a b g P k) x.op (Ch a b g P x env t) env 0 x.kids (if x.op=9 then t+1 else t)=L at*
  have ht9:(if x.op=9 then t+1 else t)<=L.2:=by rw[<-hL];exact CD (H0 p a b g P k) _ _ _
  have hcs:cSp0 p a b g=.cptr [sl (p.classes.map Ae),dI p.slots,sl (cI p.gens),sl (p.methods.map Aq),sl (p.nodes.map Ai),dI p.main,sl (cS a),sl (cS b),sl (cS g)] 0:=rfl
  have r3:x.op=3->InR x.n env.length:=fun h=>by simpa[Bk,h,InR] using hnb
  have r47:x.op=4\/x.op=7->InR x.n b.length:=fun h=>by rcases h with h|h<;>simpa[Bk,h,InR,hb] using hnb
  have r5:x.op=5->InR x.n g.length:=fun h=>by simpa[Bk,h,InR,hg] using hnb
  have r68:x.op=6\/x.op=8->InR x.n a.length:=fun h=>by
   have:3<=x.n/\x.n<3+p.classes.length:=by rcases h with h|h<;>simpa[Bk,h] using hnb
   exact⟨by omega,by omega⟩
  have r9:x.op=9->t<P.length:=fun h=>by rw[if_pos h]at ht9;omega
  refine en func144 ntmps144 ?_
  try refine gz ?_ o144 [6,8]
  refine newV (fun i6 hi6=>?_)
  have n6:ib≠i6:=A3 hib hi6
  try refine gf (gi hib (gi hx hcs)) ?_ o144 [6,8]
  refine newV (fun i8 hi8=>?_)
  have n68:i6≠i8:=fun e=>by rw[<-e,w7]at hi8;cases hi8
  have n8:ib≠i8:=A3 hib (A4 hi8).2
  generalize hU1:V.set i6 (.cells [dI 0,dI 0,.str [],.nils])=S1
  have hib1:S1 ib=some (.cells [cSp0 p a b g,sl (cS P),dI t]):=by rw[<-hU1,w8 _ _ n6];exact hib
  have hsub:∀(tx:Str) (m:Int),m=(if x.op=1 then x.n else 0)->tx=Ch a b g P x env t->¬x.op=9->Sub ((S1.set i8 (.cells [dI x.op,dI (if x.op=1 then x.n else 0),.str (Ch a b g P x env t),.nils])).set ib (.cells [cSp0 p a b g,sl (cS P),dI (if x.op=9 then t+1 else t:Nat)])) (S1.set i8 (.cells [dI x.op,dI m,.str tx,.nils])):=fun tx m h1 h2 h3=>by
   rw[h1,h2,if_neg h3,Sig.set_self _ (by rw[w8 _ _ n8];exact hib1)]
   exact Sub.refl _
  repeat ((fail_if_success (first|(refine dwp_cut1 (x1:=.seq _ (.block 0 _)) [] ((S1.set i8 (.cells [dI x.op,dI (if x.op=1 then x.n else 0),.str (Ch a b g P x env t),.nils])).set ib (.cells [cSp0 p a b g,sl (cS P),dI (if x.op=9 then t+1 else t:Nat)])) ?_ (fun _ hK=>?_))|fail));(refine goX1 trivial ?_))
  refine dwp_cut1 (x1:=.seq _ (.block 0 _)) [] ((S1.set i8 (.cells [dI x.op,dI (if x.op=1 then x.n else 0),.str (Ch a b g P x env t),.nils])).set ib (.cells [cSp0 p a b g,sl (cS P),dI (if x.op=9 then t+1 else t:Nat)])) ?_ (fun _ hK=>?_)
  ·generalize (if x.op=1 then x.n else 0)=num at*
   generalize htx:Ch a b g P x env t=txt at*
   generalize (if x.op=9 then t+1 else t)=t0 at*
   refine AD i8 3 4 (ds:=[dI x.op,dI num,.str txt,.nils]) (by rw[w8 _ _ (Ne.symm n8)];exact w7 ..) rfl fun it hit=>?_
   have hit1:S1 it=none:=(A4 (A4 hit).2).2
   have nbt:ib≠it:=A3 hib1 hit1
   have n8t:i8≠it:=fun e=>by have:=(A4 hit).2;rw[<-e,w7]at this;cases this
   generalize hU2:Sig.set (Sig.set (Sig.set _ ib _) it _) i8 _=S2
   have q8:S2 i8=some (.cells [dI x.op,dI num,.str txt,.slice (([]:List FExp).map Ah) (.tag it)]):=by rw[<-hU2];exact w7 ..
   have qt:S2 it=some (.tail 4 ([]:List FExp).length):=by rw[<-hU2,w8 _ _ (Ne.symm n8t)];exact w7 ..
   have qS:Sub (V.set ib (.cells [cSp0 p a b g,sl (cS P),dI t0])) S2:=by
    rw[<-hU2,<-hU1]
    refine Sub.set (Sub.set ?_ ?_) ?_
    ·refine Sub.both ((((Sub.refl _).set hi6)).set (A4 hi8).2)
    ·rw[w8 _ _ (Ne.symm nbt)];rw[<-hU1]at hit1;exact(A4 hit1).2
    ·rw[w8 _ _ (Ne.symm n8)];exact(A4 hi8).2
   have s8:V i8=none:=(A4 hi8).2
   have st:V it=none:=by rw[<-hU1]at hit1;exact(A4 hit1).2
   have hi61:S1 i6=some (.cells [dI 0,dI 0,.str [],.nils]):=by rw[<-hU1];exact w7 ..
   have n6t:i6≠it:=A3 hi61 hit1
   have s6:V i6=none:=hi6
   have q6:S2 i6=some (.cells [dI 0,dI 0,.str [],.nils]):=by rw[<-hU2,w8 _ _ n68,w8 _ _ n6t,w8 _ _ (Ne.symm n6),w8 _ _ n68];exact hi61
   clear hU2 hsub hit
   try refine gf q8 ?_ o144 [6,8]
   refine Qu [0,2,6,7,8,106,107,137] (fun (j:Nat) (out:List FExp) (t':Nat) (S3:Sig)=>j<=x.kids.length/\out.length=j/\out++(CA (spE p a b g P k) x.op txt env j (x.kids.drop j) t').1=L.1/\(CA (spE p a b g P k) x.op txt env j (x.kids.drop j) t').2=L.2/\S3 i8=some (.cells [dI x.op,dI num,.str txt,.slice (out.map Ah) (.tag it)])/\S3 it=some (.tail 4 out.length)/\S3 i6=some (.cells [dI 0,dI 0,.str [],.nils])/\Sub (V.set ib (.cells [cSp0 p a b g,sl (cS P),dI t'])) S3) (fun j _ _ _=>[(108,dI j)]) (fun _ _ _ S3=>S3) (fun j _ _ _=>x.kids.length-j) (0) ([]) (t0) (S2) (by exact⟨by omega,rfl,by rw[<-hL];rfl,by rw[<-hL];rfl,q8,qt,q6,qS⟩) (fun j out t' S3 hI=>?_)
   obtain⟨hj,hol,hR,hR2,o8,ot,o6,oS⟩:=hI
   by_cases hjl:j<x.kids.length
   ·rw[A0 hjl,CA]at hR hR2
    have hki:=hkids j hjl
    have hnxt:out.length+1=j+1:=by omega
    have hib3:S3 ib=some (.cells [cSp0 p a b g,sl (cS P),dI t']):=oS _ _ (w7 ..)
    have u8:(S3.out fun j=>j=ib\/j=it) i8=_:=DG o8 (by rintro(h|h);exact n8 h.symm;exact n8t h)
    have nt':it≠ib:=Ne.symm nbt
    have nt8:it≠i8:=Ne.symm n8t
    have n8':i8≠ib:=Ne.symm n8
    have hT':=hT
    rw[<-hR2]at hT'
    have hsb:∀{c:DObj} (τ:Sig),Sub S3 τ->Sub (S3.out fun j=>j=ib\/j=it) (τ.set ib c):=fun τ hO j z hz=>by
     obtain⟨h1,h2⟩:=C1 hz
     rw[w8 _ _ fun e=>h2 (.inl e)];exact hO _ _ h1
    have hsb2:∀{c:DObj} (τ:Sig),Sub S3 τ->Sub (S3.out fun j=>j=ib\/j=it) ((τ.set ib c).set it (.tail 4 (out.length+1))):=fun τ hO j z hz=>by
     obtain⟨h1,h2⟩:=C1 hz
     rw[w8 _ _ fun e=>h2 (.inr e)];exact hsb τ hO _ _ hz
    have hsb3:∀(e:FExp) (c:DObj) (τ:Sig),Sub S3 τ->(((τ.set ib c).set it (.tail 4 (out.length+1))).set i8 (.cells [dI x.op,dI num,.str txt,.slice ((out++[e]).map Ah) (.tag it)])) it=some (.tail 4 (out++[e]).length)/\(((τ.set ib c).set it (.tail 4 (out.length+1))).set i8 (.cells [dI x.op,dI num,.str txt,.slice ((out++[e]).map Ah) (.tag it)])) i6=some (.cells [dI 0,dI 0,.str [],.nils])/\Sub (V.set ib c) (((τ.set ib c).set it (.tail 4 (out.length+1))).set i8 (.cells [dI x.op,dI num,.str txt,.slice ((out++[e]).map Ah) (.tag it)])):=fun e c τ hO=>
     ⟨by rw[w8 _ _ nt8,w7,List.length_append];rfl,by rw[w8 _ _ n68,w8 _ _ n6t,w8 _ _ (Ne.symm n6)];exact hO _ _ o6,((Ms (oS.trans hO)).set (by rw[w8 _ _ nt'];exact st)).set (by rw[w8 _ _ n8'];exact s8)⟩
    by_cases c91:x.op=9/\j=1
    ·rw[if_pos c91]at hR hR2 hki hT'
     obtain⟨c9,rfl⟩:=c91
     have hcS:cS (env++[txt])=cS env++[[.str txt]]:=by simp[cS]
     try refine gf o8 ?_ (delO 25 o144) [6,8]
     refine Sv (fun i4 hi4=>?_)
     have nib4:ib≠i4:=A3 hib3 hi4
     have nt4:it≠i4:=A3 ot hi4
     have n84:i8≠i4:=A3 o8 hi4
     have hS4:Sub S3 (S3.set i4 (.tail (tab 9).size ((cS env).length+[[D.str txt]].length))):=(Sub.refl _).set hi4
     have hib4:(S3.set i4 (.tail (tab 9).size ((cS env).length+[[D.str txt]].length))) ib=some (.cells [cSp0 p a b g,sl (cS P),dI t']):=by rw[w8 _ _ nib4];exact hib3
     have ht4:(S3.set i4 (.tail (tab 9).size ((cS env).length+[[D.str txt]].length))) it=some (.tail 4 out.length):=by rw[w8 _ _ nt4];exact ot
     have h84:(S3.set i4 (.tail (tab 9).size ((cS env).length+[[D.str txt]].length))) i8=_:=(w8 _ _ n84).trans o8
     generalize S3.set i4 (.tail (tab 9).size ((cS env).length+[[D.str txt]].length))=S4 at*
     try refine gz ?_ (delO 25 o144) [6,8]
     refine Do (id:=25) [0,1,2,3,4,5,6,7,8] [5,7] (S3.out fun j=>j=ib\/j=it) ((Bv _ _).trans hS4) ?_
     have hsub0:=(Bv S3 fun j=>j=ib\/j=it).trans hS4
     try refine gf u8 ?_ o144 [6,8]
     have hih:=ih (x.kids[1]) (env++[txt]) .no t' ib S4 (by simpa using hki) (by simp;omega) (Nat.le_trans (CD (H0 p a b g P k) _ _ _) hT') hib4
     rw[hcS]at hih
     refine BF hih (fun d S5 hx=>?_) (fun d S5 hx=>by cases hx.1)
     obtain⟨hx',rfl⟩:=hx
     cases hx'
     refine⟨hsb _ hS4,?_⟩
     simp only[putD]
     have hsub2:=hsb2 (c:=.cells [cSp0 p a b g,sl (cS P),dI (spE p a b g P k x.kids[1] (env++[txt]) t').2]) _ hS4
     try refine gf (gi ht4 h84) ?_ o144 [6,8]
     have hfin:=hsb3 (spE p a b g P k x.kids[1] (env++[txt]) t').1 (.cells [cSp0 p a b g,sl (cS P),dI (spE p a b g P k x.kids[1] (env++[txt]) t').2]) S4 hS4
     exact⟨2,out++[(spE p a b g P k x.kids[1] (env++[txt]) t').1],(spE p a b g P k x.kids[1] (env++[txt]) t').2,((S4.set ib (.cells [cSp0 p a b g,sl (cS P),dI (spE p a b g P k x.kids[1] (env++[txt]) t').2])).set it (.tail 4 (out.length+1))).set i8 (.cells [dI x.op,dI num,.str txt,.slice ((out++[(spE p a b g P k x.kids[1] (env++[txt]) t').1]).map Ah) (.tag it)]),⟨by omega,by simp;omega,by rw[List.append_assoc];exact hR,hR2,w7 .., hfin.1,hfin.2.1,hfin.2.2⟩,td1,wkR⟩
    ·rw[if_neg c91]at hR hR2 hki hT'
     repeat' first|refine gf o8 ?_ (delO 25 o144) [6,8]|apply gy<;>intro hh
     ·refine Do (id:=25) [0,1,2,3,4,5,6,7,8] [5,7] (S3.out fun j=>j=ib\/j=it) (Bv _ _) ?_
      try refine gf u8 ?_ o144 [6,8]
      refine BF (ih (x.kids[j]) env o t' ib S3 hki (by omega) (Nat.le_trans (CD (H0 p a b g P k) _ _ _) hT') hib3) (fun d S5 hx=>?_) (fun d S5 hx=>by cases hx.1)
      obtain⟨hx',rfl⟩:=hx
      cases hx'
      refine⟨hsb _ (Sub.refl _),?_⟩
      simp only[putD]
      have hsub2:=hsb2 (c:=.cells [cSp0 p a b g,sl (cS P),dI (spE p a b g P k x.kids[j] env t').2]) _ (Sub.refl S3)
      try refine gf (gi ot o8) ?_ o144 [6,8]
      have hfin:=hsb3 (spE p a b g P k x.kids[j] env t').1 (.cells [cSp0 p a b g,sl (cS P),dI (spE p a b g P k x.kids[j] env t').2]) S3 (Sub.refl _)
      exact⟨j+1,out++[(spE p a b g P k x.kids[j] env t').1],(spE p a b g P k x.kids[j] env t').2,((S3.set ib (.cells [cSp0 p a b g,sl (cS P),dI (spE p a b g P k x.kids[j] env t').2])).set it (.tail 4 (out.length+1))).set i8 (.cells [dI x.op,dI num,.str txt,.slice ((out++[(spE p a b g P k x.kids[j] env t').1]).map Ah) (.tag it)]),⟨by omega,by simp;omega,by rw[List.append_assoc];exact hR,hR2,w7 .., hfin.1,hfin.2.1,hfin.2.2⟩,td1,wkR⟩
     ·refine Do (id:=25) [0,1,2,3,4,5,6,7,8] [5,7] (S3.out fun j=>j=ib\/j=it) (Bv _ _) ?_
      try refine gf u8 ?_ o144 [6,8]
      refine BF (ih (x.kids[j]) env o t' ib S3 hki (by omega) (Nat.le_trans (CD (H0 p a b g P k) _ _ _) hT') hib3) (fun d S5 hx=>?_) (fun d S5 hx=>by cases hx.1)
      obtain⟨hx',rfl⟩:=hx
      cases hx'
      refine⟨hsb _ (Sub.refl _),?_⟩
      simp only[putD]
      have hsub2:=hsb2 (c:=.cells [cSp0 p a b g,sl (cS P),dI (spE p a b g P k x.kids[j] env t').2]) _ (Sub.refl S3)
      try refine gf (gi ot o8) ?_ o144 [6,8]
      have hfin:=hsb3 (spE p a b g P k x.kids[j] env t').1 (.cells [cSp0 p a b g,sl (cS P),dI (spE p a b g P k x.kids[j] env t').2]) S3 (Sub.refl _)
      exact⟨j+1,out++[(spE p a b g P k x.kids[j] env t').1],(spE p a b g P k x.kids[j] env t').2,((S3.set ib (.cells [cSp0 p a b g,sl (cS P),dI (spE p a b g P k x.kids[j] env t').2])).set it (.tail 4 (out.length+1))).set i8 (.cells [dI x.op,dI num,.str txt,.slice ((out++[(spE p a b g P k x.kids[j] env t').1]).map Ah) (.tag it)]),⟨by omega,by simp;omega,by rw[List.append_assoc];exact hR,hR2,w7 .., hfin.1,hfin.2.1,hfin.2.2⟩,td1,wkR⟩
   ·have hjk:j=x.kids.length:=by omega
    rw[A1 hjl,CA]at hR hR2
    rw[List.append_nil]at hR
    rw[<-hR,<-hR2]
    refine dwp_wk (CV (az:=[dI x.op,dI num,.str txt]) (bs:=[]) (d':=sl (out.map Ah)) o8 (AE _ _)) ?_
    try refine gf o6 ?_ o144 [6,8]
    exact finC (S':=V.set ib (.cells [cSp0 p a b g,sl (cS P),dI t'])) ⟨rfl,rfl⟩ (hw:=by refine AS ?_;simp[Cz,FExp.op,FExp.n,FExp.text,FExp.kids]) (hZ:=(oS.set (by rw[w8 _ _ (Ne.symm n8)];exact s8)).set (by rw[w8 _ _ (Ne.symm n6)];exact s6))
  ·repeat' first|refine gz ?_ o144 [6,8]|apply gy<;>intro hh
   ·have c:x.op=1:=by assumption
    exact dwp_wk (Ag (by first|(simp;done)|(simp_all;done)) (hsub _ _ (by simp[c]) (by simp[Ch,c]) (by omega))) hK
   ·have c:x.op=3:=by assumption
    obtain⟨m,hm,hml,hmk⟩:=BP (r3 c)
    try refine gf hm ?_ o144 [6,8]
    exact dwp_wk (Ag (by first|(simp;done)|(simp_all;done)) (hsub _ _ (by simp[c]) (by simp[Ch,c,hmk]) (by omega))) hK
   ·have c:x.op=4:=by assumption
    obtain⟨m,hm,hml,hmk⟩:=BP (r47 (.inl c))
    try refine gf (gi hm (gi hib1 hcs)) ?_ o144 [6,8]
    exact dwp_wk (Ag (by first|(simp;done)|(simp_all;done)) (hsub _ _ (by simp[c]) (by simp[Ch,c,hmk]) (by omega))) hK
   ·have c:x.op=7:=by assumption
    obtain⟨m,hm,hml,hmk⟩:=BP (r47 (.inr c))
    try refine gf (gi hm (gi hib1 hcs)) ?_ o144 [6,8]
    exact dwp_wk (Ag (by first|(simp;done)|(simp_all;done)) (hsub _ _ (by simp[c]) (by simp[Ch,c,hmk]) (by omega))) hK
   ·have c:x.op=5:=by assumption
    obtain⟨m,hm,hml,hmk⟩:=BP (r5 c)
    try refine gf (gi hm (gi hib1 hcs)) ?_ o144 [6,8]
    exact dwp_wk (Ag (by first|(simp;done)|(simp_all;done)) (hsub _ _ (by simp[c]) (by simp[Ch,c,hmk]) (by omega))) hK
   ·have c:x.op=6:=by assumption
    obtain⟨m,hm,hml,hmk⟩:=BP (r68 (.inl c))
    try refine gf (gi hm (gi hib1 hcs)) ?_ o144 [6,8]
    exact dwp_wk (Ag (by first|(simp;done)|(simp_all;done)) (hsub _ _ (by simp[c]) (by simp[Ch,c,hmk]) (by omega))) hK
   ·have c:x.op=8:=by assumption
    obtain⟨m,hm,hml,hmk⟩:=BP (r68 (.inr c))
    try refine gf (gi hm (gi hib1 hcs)) ?_ o144 [6,8]
    exact dwp_wk (Ag (by first|(simp;done)|(simp_all;done)) (hsub _ _ (by simp[c]) (by simp[Ch,c,hmk]) (by omega))) hK
   ·have c:x.op=9:=by assumption
    have ht:=r9 c
    have hmk:ixS P t=P[t]:=by unfold ixS;rw[show((t:Int)).toNat=t by omega,List.getElem?_eq_getElem ht];rfl
    try refine gf hib1 ?_ o144 [6,8]
    refine dwp_wk (Ag (by simp) (B3 ?_)) hK
    simp[Ch,c,hmk]
   ·exact dwp_wk (Ag (by first|(simp;done)|(simp_all;done)) (hsub _ _ (by simp[*]) (by simp[Ch, *]) (by assumption))) hK
def RowW(S':Sig)(es:List (List D))(E:D):MR->Prop
 |none=>E=.slice [] .clip/\es=[]
 |some (r,_,rest)=>E=.sref r 0 es.length es.length/\S' r=some (.cells (es.flatten++rest))
theorem QV(st:MR)(es:List (List D))(V:Sig)(hr:RowAt V 4 st es)(hn:es.length<=1073741824):DCall prog 214 [mD st es.length] V fun x S'=>(∃E,x=.ret E/\RowW V es E st)/\S'=V:=by
 cases st with
 |none =>
  have he:es=[]:=hr
  subst he
  show DCall prog 214 [.nils] V _
  refine en func214 ntmps214 ?_
  try refine gz ?_
  exact fin1 (S':=V) ⟨⟨_,rfl,rfl,rfl⟩,rfl⟩
 |some x =>
  obtain⟨r,cap,rest⟩:=x
  obtain⟨h1,h2,h3,h4⟩:=hr
  show DCall prog 214 [.sref r 0 es.length cap] V _
  refine en func214 ntmps214 ?_
  try refine gz ?_
  refine Rm Ad (off:=0) (m:=es.length) (cap:=cap) ?_ (by decide) (by simp<;>rfl) (by simp) rfl rfl rfl (Nat.le_refl _) h3
  try refine gz ?_
  exact fin1 (S':=V) ⟨⟨_,rfl,rfl,h1⟩,rfl⟩
theorem R7(l:List BClass)(h:BClass->FClass)(g:Nat)(cap:List D)(o:Own)(V:Sig)(hl:l.length<=1073741824)
  (hg:∀x∈l, ∀S',Sub V S'->DCall prog g ([]++[.agg (Ae x)]++cap) S' fun r S''=>r=.ret (.agg (cFClass (h x)))/\S''=S') :
  DCall prog 135 [.slice (l.map Ae) o,.func (.func g) [] cap] V fun x S'=> ∃E st,x=.ret E/\RowW S' ((l.map h).map cFClass) E st/\Sub V S' /\ ∀j x,V j=some x->¬Cm st j:=by
 refine en func135 ntmps135 ?_
 try refine gz ?_
 refine VD [1,4,8,9,21,22] (fun (k:Nat) (out:List FClass) (E:D) (st:MR) (S1:Sig)=>k<=l.length/\out++(l.drop k).map h=l.map h/\E=mD st out.length/\RowAt S1 4 st (out.map cFClass)/\Sub V S1 /\ ∀j x,V j=some x->¬Cm st j) (fun k _ E _ _=>[(10,dI k),(5,E)]) (fun _ _ _ _ S1=>S1) (fun k _ _ _ _=>l.length-k) (0) ([]) (.nils) (none) (V) (by exact⟨by omega,rfl,rfl,rfl,Sub.refl _,fun _ _ _=>id⟩) (fun k out E st S1 hI=>?_)
 obtain⟨hk,hR,rfl,hrow,hS,hN⟩:=hI
 have hlen:=congrArg List.length hR
 simp at hlen
 by_cases hh:k<l.length
 ·rw[A0 hh]at hR
  repeat' first|refine Ax (hg (l[k]) (List.getElem_mem hh) _ hS) ?_|refine callP (hg (l[k]) (List.getElem_mem hh) _ hS) ?_|refine gf hh ?_|apply gy<;>intro hh
  refine rapp (es:=out.map cFClass) (fun st2 S2 hr2 hk2=>?_) (hm:=hrow)
  try refine gz ?_
  exact⟨k+1,out++[h l[k]],mD st2 (out++[h l[k]]).length,st2,S2,⟨by omega,by rw[List.append_assoc];exact hR,rfl,by rw[List.map_append];exact hr2,fun j x hj=>(hk2 _ _ (hS _ _ hj) (hN _ _ hj)).1,fun j x hj=>(hk2 _ _ (hS _ _ hj) (hN _ _ hj)).2⟩,td1,wkR⟩
 ·try refine gf hh ?_
  rw[A1 hh]at hR
  simp at hR
  have h214:=QV st (out.map cFClass) S1 hrow (by rw[List.length_map];omega)
  rw[List.length_map]at h214
  refine Ab h214 (fun d S2 hr=>?_) (fun d S2 hr=>by obtain⟨⟨_,h,_⟩,_⟩:=hr;cases h)
  obtain⟨⟨E,e1,hW⟩,rfl⟩:=hr
  cases e1
  try refine gz ?_
  exact fin1 (S':=S2) ⟨d,st,rfl,by rw[<-hR];exact hW,hS,hN⟩
theorem Br(n:Nat):(B1 n).length=n:=by unfold B1;rw[KG];simp
def spA(p:BProg):List Str:=[wAny,wInt,IF]++B1 p.classes.length
def spS(p:BProg):List Str:=B1 p.slots.toNat
def spG(p:BProg):List Str:=B1 p.gens.length
def spL(p:BProg):List Str:=B1 (p.nodes.length+3)
def CU(p:BProg)(m:BMeth):Nat:=(p.gens.getD m.gen.toNat 0).toNat
def spM(p:BProg)(m:BMeth):FMeth:=⟨m.kind,ixS (spG p) m.gen,(spL p).take (CU p m),spF (spA p) (spS p) ((spL p).take (CU p m)) m.fact,(spE p (spA p) (spS p) (spG p) (spL p) 12 m.node ((spL p).take (CU p m)) (CU p m)).1⟩
def spCs(p:BProg):List FClass:=(p.classes.zip (B1 p.classes.length)).map fun x=>{ spC (spA p) (spS p) x.1 with name:=x.2 }
def Dm(p:BProg):FProg:=⟨spCs p,p.methods.map (spM p),(spE p (spA p) (spS p) (spG p) (spL p) 12 p.main [] 0).1⟩
structure MetOK(p:BProg)(m:BMeth):Prop where
 gen:InR m.gen p.gens.length
 par:0<=p.gens.getD m.gen.toNat 0/\CU p m<=p.nodes.length+3
 fact:FIx (3+p.classes.length) p.slots.toNat (CU p m) m.fact
 body:okE p 12 m.node (CU p m)
 left:(spE p (spA p) (spS p) (spG p) (spL p) 12 m.node ((spL p).take (CU p m)) (CU p m)).2<=p.nodes.length+3
structure SpOK(p:BProg):Prop where
 wt:p.wt<=100000000
 slots:0<=p.slots/\p.slots<=100000000
 cls:∀c∈p.classes,ClsIx (3+p.classes.length) p.slots.toNat c
 met:∀m∈p.methods,MetOK p m
 main:okE p 12 p.main 0
 left:(spE p (spA p) (spS p) (spG p) (spL p) 12 p.main [] 0).2<=p.nodes.length+3
theorem PC(p:BProg)(V:Sig)(hp:SpOK p):DCall prog 56 [.agg (Am p)] V (rS (.agg (B7 (Dm p))) V):=by
 obtain⟨p1,p2,p3,p4,p5,p6,p7⟩:=p.wt_le
 have hwt:=hp.wt
 obtain⟨s0,s1⟩:=hp.slots
 obtain⟨sn,hsn⟩:∃n:Nat,p.slots=n:=⟨p.slots.toNat,by omega⟩
 have hsn':p.slots.toNat=sn:=by omega
 have hlA:(spA p).length=3+p.classes.length:=by unfold spA;rw[List.length_append,Br];rfl
 have hlS:(spS p).length=sn:=by unfold spS;rw[Br,hsn']
 have hlG:(spG p).length=p.gens.length:=Br _
 have hlL:(spL p).length=p.nodes.length+3:=Br _
 have hcsp:cSp p (spA p) (spS p) (spG p)=.cptr [.cptr [sl (p.classes.map Ae),dI p.slots,sl (cI p.gens),sl (p.methods.map Aq),sl (p.nodes.map Ai),dI p.main,sl (cS (spA p)),sl (cS (spS p)),sl (cS (spG p))] 0] 0:=rfl
 have k1:=fun (V:Sig)=>FN p.classes.length V (by omega)
 have k2:=fun (V:Sig)=>FN sn V (by omega)
 have k3:=fun (V:Sig)=>FN p.gens.length V (by omega)
 refine en func56 ntmps56 ?_
 try refine gz ?_ o56 [2,4,6,77,109]
 refine newV (fun i2 hi2=>?_)
 repeat' first|refine gz ?_ [] [2,4,6,77,109]|refine Ax (k1 _) ?_|refine callP (k1 _) ?_|refine moR (k1 _) ?_|refine moP (k1 _) ?_|refine gz ?_ (delO 2 o56) [2,4,6,77,109]|apply gy<;>intro hh
 refine mixL (id:=2) [0,1,2,4,5,7,8,9,3,6,10,11,12,13] [13] ?_
 try refine gz ?_ (delO 2 o56) [2,4,6,77,109]
 refine moQAppC (es:=cS [wAny,wInt,IF]) (new:=cS (B1 p.classes.length)) ?_ (hm:=by simp[Br];omega) (hb:=by simp[Br];omega)
 have hcA:cS [wAny,wInt,IF]++cS (B1 p.classes.length)=cS (spA p):=by unfold spA;simp[cS]
 rw[hcA,hsn]
 refine Vv (fun S' _=>(k2 S').mono fun x S'' hx=>⟨hx.1,hx.2 ▸ Sub.refl _⟩) ?_
 refine Vv (fun S' _=>(k3 S').mono fun x S'' hx=>⟨hx.1,hx.2 ▸ Sub.refl _⟩) ?_
 try refine gz ?_ (delO 2 o56) [2,4,6,77,109]
 refine MN (fun i4 hi4=>?_)
 have n24:i2≠i4:=fun e=>by rw[<-e,w7]at hi4;cases hi4
 repeat ((fail_if_success (first|(refine dwp_wk (GQ (i:=i4) (t:=4) (w7 ..) (by rfl)) ?_)|fail));(refine goX1 trivial ?_))
 refine dwp_wk (GQ (i:=i4) (t:=4) (w7 ..) (by rfl)) ?_
 have eS:B1 sn=spS p:=by unfold spS;rw[hsn']
 have eG:B1 p.gens.length=spG p:=rfl
 have hdel:∀(τ:Sig) (o:DObj),τ i4=none->(τ.set i4 o).del i4=τ:=fun τ o h=>by
  funext j;simp only[Sig.set,Sig.del];split
  ·rename_i e;rw[e,h]
  ·rfl
 rw[hdel _ _ hi4,eS,eG]
 clear k1 k2 k3
 have k4:∀(V:Sig),DCall prog 134 [dI (p.nodes.length+3:Nat)] V (rS (sl (cS (spL p))) V):=fun V=>FN (p.nodes.length+3) V (by omega)
 have k5:∀(V:Sig),DCall prog 135 _ V _:=fun V=>R7 p.classes (spC (spA p) (spS p)) 136 [cSp p (spA p) (spS p) (spG p)] .no V (by omega) (fun x hx S' _=>Ut p (spA p) (spS p) (spG p) x S' (by rw[hlA,hlS,<-hsn'];exact hp.cls x hx) (by omega) (by omega) (by obtain⟨k,hk,rfl⟩:=List.getElem_of_mem hx;have:=p5 k hk;omega))
 rw[hcsp]at k5
 have hn3:((p.nodes.length:Int)+3)=((p.nodes.length+3:Nat):Int):=by omega
 repeat ((fail_if_success (first|(refine dwp_cutE3 (x3:=.seq _ (.block 0 _)) (fun i=>(V.set i2 (.cells [.nils,.nils,dI 0,dI 0,.str [],.nils])) i=none) (fun i=>[(6,.ptr i 0),(5,sl (cS (spL p))),(4,cSp p (spA p) (spS p) (spG p)),(2,.ptr i2 0),(1,.cptr (Am p) 0)]) (fun i=>(V.set i2 (.cells [.nils,.nils,dI 0,dI 0,.str [],.nils])).set i (.cells [sl ((spCs p).map cFClass),.nils,dI 0,dI 0,.str [],.nils])) (fun i6 hi6=>?_) (fun _ hK=>?_))|fail));(refine goX1 trivial ?_))
 refine dwp_cutE3 (x3:=.seq _ (.block 0 _)) (fun i=>(V.set i2 (.cells [.nils,.nils,dI 0,dI 0,.str [],.nils])) i=none) (fun i=>[(6,.ptr i 0),(5,sl (cS (spL p))),(4,cSp p (spA p) (spS p) (spG p)),(2,.ptr i2 0),(1,.cptr (Am p) 0)]) (fun i=>(V.set i2 (.cells [.nils,.nils,dI 0,dI 0,.str [],.nils])).set i (.cells [sl ((spCs p).map cFClass),.nils,dI 0,dI 0,.str [],.nils])) (fun i6 hi6=>?_) (fun _ hK=>?_)
 ·refine AD i6 1 13 (ds:=[sl ((spCs p).map cFClass),.nils,dI 0,dI 0,.str [],.nils]) (w7 ..) rfl fun it hit=>?_
  have n26:i2≠i6:=fun e=>by rw[<-e,w7]at hi6;cases hi6
  have h60:V i6=none:=(A4 hi6).2
  have n6t:i6≠it:=fun e=>by rw[<-e,w7]at hit;cases hit
  have hit2:=(A4 hit).2
  have n2t:i2≠it:=fun e=>by rw[<-e,w7]at hit2;cases hit2
  have ht0:V it=none:=(A4 hit2).2
  generalize hSa:Sig.set (Sig.set _ it _) i6 _=Sa
  have q6:Sa i6=some (.cells [sl ((spCs p).map cFClass),.slice (([]:List FMeth).map BC) (.tag it),dI 0,dI 0,.str [],.nils]):=by rw[<-hSa];exact w7 ..
  have qt:Sa it=some (.tail 13 ([]:List FMeth).length):=by rw[<-hSa,w8 _ _ (Ne.symm n6t)];exact w7 ..
  have q2:Sa i2=some (.cells [.nils,.nils,dI 0,dI 0,.str [],.nils]):=by rw[<-hSa,w8 _ _ n26,w8 _ _ n2t,w8 _ _ n26];exact w7 ..
  have qS:Sub V Sa:=by rw[<-hSa];exact((((Sub.refl _).set hi2).set h60).set ht0).set h60
  clear hSa hit hit2
  have hcsp0:cSp0 p (spA p) (spS p) (spG p)=.cptr [sl (p.classes.map Ae),dI p.slots,sl (cI p.gens),sl (p.methods.map Aq),sl (p.nodes.map Ai),dI p.main,sl (cS (spA p)),sl (cS (spS p)),sl (cS (spG p))] 0:=rfl
  try refine gf hcsp ?_ o56 [2,4,6,77,109]
  refine D6 [1,2,4,5,6,12,57,58,106,107,108,109,110,111,112,113,114,115] (fun (k:Nat) (ms:List FMeth) (S3:Sig)=>k<=p.methods.length/\ms=(p.methods.take k).map (spM p)/\S3 i6=some (.cells [sl ((spCs p).map cFClass),.slice (ms.map BC) (.tag it),dI 0,dI 0,.str [],.nils])/\S3 it=some (.tail 13 ms.length)/\S3 i2=some (.cells [.nils,.nils,dI 0,dI 0,.str [],.nils])/\Sub V S3) (fun k _ _=>[(59,dI k)]) (fun _ _ S3=>S3) (fun k _ _=>p.methods.length-k) (0) ([]) (Sa) (by exact⟨by omega,rfl,q6,qt,q2,qS⟩) (fun k ms S3 hI=>?_)
  obtain⟨hk,hms,o6,ot,o2,oS⟩:=hI
  by_cases hkl:k<p.methods.length
  ·have hM:=hp.met _ (List.getElem_mem hkl)
   have hwm:=p6 k hkl
   generalize hm:p.methods[k]=m at*
   obtain⟨gq,hgq,hgl⟩:∃gq:Nat,m.gen=gq/\gq<p.gens.length:=⟨m.gen.toNat,by have:=hM.gen;unfold InR at this;omega,by have:=hM.gen;unfold InR at this;omega⟩
   have hpn:p.gens[gq]=((CU p m:Nat):Int):=by
    have h1:=hM.par.1
    unfold CU
    rw[hgq,show((gq:Int)).toNat=gq by omega,List.getD_eq_getElem?_getD,List.getElem?_eq_getElem hgl]at*
    simp only[Option.getD_some]at*
    omega
   have hpl:=hM.par.2
   generalize hpnn:CU p m=pn at*
   have htk:List.take pn (cS (spL p))=cS ((spL p).take pn):=by simp[cS,List.map_take]
   have htl:((spL p).take pn).length=pn:=by rw[List.length_take];omega
   rw[hcsp]
   repeat ((fail_if_success (first|(refine boxV (T:=214) (fun i11 hi11=>?_))|fail));(refine goX1 (gi hm (gi hgq (gi hpn htk))) ?_))
   refine boxV (T:=214) (fun i11 hi11=>?_)
   have n611:i6≠i11:=A3 o6 hi11
   have nt11:it≠i11:=A3 ot hi11
   have n211:i2≠i11:=A3 o2 hi11
   try refine gz ?_ (delO 15 o56) [2,4,6,77,109]
   generalize hU4:S3.set i11 _=S4
   have b11:S4 i11=some (.cells [cSp0 p (spA p) (spS p) (spG p),sl (cS (spL p)),dI pn]):=by rw[<-hU4];exact w7 ..
   have b6:S4 i6=some (.cells [sl ((spCs p).map cFClass),.slice (ms.map BC) (.tag it),dI 0,dI 0,.str [],.nils]):=by rw[<-hU4,w8 _ _ n611];exact o6
   have bt:S4 it=some (.tail 13 ms.length):=by rw[<-hU4,w8 _ _ nt11];exact ot
   have b2:S4 i2=some (.cells [.nils,.nils,dI 0,dI 0,.str [],.nils]):=by rw[<-hU4,w8 _ _ n211];exact o2
   have s11:V i11=none:=oS.none hi11
   have bS:Sub V S4:=by rw[<-hU4];exact oS.set s11
   clear hU4
   have hgl':gq<(spG p).length:=by omega
   have hnm:ixS (spG p) m.gen=(spG p)[gq]:=by rw[hgq];unfold ixS;rw[show((gq:Int)).toNat=gq by omega,List.getElem?_eq_getElem hgl'];rfl
   have hfw:m.fact.wt<=1073741824:=by unfold BMeth.wt at hwm;omega
   have h143:=fun (S':Sig)=>Un p (spA p) (spS p) (spG p) ((spL p).take pn) (by omega) (by omega) (by omega) 1073741824 m.fact .no S' hfw (Nat.le_refl _) (by rw[hlA,hlS,htl,<-hsn',<-hpnn];exact hM.fact)
   have h144:=NA p (spA p) (spS p) (spG p) (spL p) (by omega) hlA (by omega) (by omega) (by omega) hlG (by omega) 12 m.node ((spL p).take pn) .no pn i11 S4 (by rw[htl,<-hpnn];exact hM.body) (by omega) (by rw[hlL];have:=hM.left;rw[hpnn]at this;exact this) b11
   have u6:(S4.out fun j=>j=i11\/j=it) i6=_:=DG b6 (by rintro(h|h);exact n611 h;exact n6t h)
   refine Do (id:=15) [0,1,2,3,4,5,6,7,8,9,10,11,12,13,14,15,16,18,19,20,21,17,22,23,24,25,26] [22,25] (S4.out fun j=>j=i11\/j=it) (Bv _ _) ?_
   try refine gf (gi u6 (gi hm hgq)) ?_ o56 [2,4,6,77,109]
   refine Vv (fun S' _=>(h143 S').mono fun x S'' hx=>⟨hx.1,hx.2 ▸ Sub.refl _⟩) ?_
   try refine gz ?_ o56 [2,4,6,77,109]
   refine BF h144 (fun d S5 hx=>?_) (fun d S5 hx=>by cases hx.1)
   obtain⟨hx',rfl⟩:=hx
   cases hx'
   have hsb:∀{c:DObj},Sub (S4.out fun j=>j=i11\/j=it) (S4.set i11 c):=fun j z hz=>by
    obtain⟨h1,h2⟩:=C1 hz
    rw[w8 _ _ fun e=>h2 (.inl e)];exact h1
   have hsb2:∀{c:DObj},Sub (S4.out fun j=>j=i11\/j=it) ((S4.set i11 c).set it (.tail 13 (ms.length+1))):=fun j z hz=>by
    obtain⟨h1,h2⟩:=C1 hz
    rw[w8 _ _ fun e=>h2 (.inr e)];exact hsb _ _ hz
   refine⟨hsb,?_⟩
   simp only[putD]
   have hsub2:=hsb2 (c:=.cells [cSp0 p (spA p) (spS p) (spG p),sl (cS (spL p)),dI (spE p (spA p) (spS p) (spG p) (spL p) 12 m.node (List.take pn (spL p)) pn).2])
   have hmsl:ms.length=k:=by rw[hms];simp;omega
   try refine gf (gi bt b6) ?_ o56 [2,4,6,77,109]
   generalize hqq:Sig.set _ i6 _=qq
   have c6:qq i6=some (.cells [sl ((spCs p).map cFClass),.slice ((ms++[spM p m]).map BC) (.tag it),dI 0,dI 0,.str [],.nils]):=by
    rw[<-hqq,w7]
    simp[spM,hnm,hpnn]
   have ct:qq it=some (.tail 13 (ms++[spM p m]).length):=by rw[<-hqq,w8 _ _ (Ne.symm n6t),w7,List.length_append];rfl
   have c2:qq i2=some (.cells [.nils,.nils,dI 0,dI 0,.str [],.nils]):=by rw[<-hqq,w8 _ _ n26,w8 _ _ n2t,w8 _ _ n211];exact b2
   have cS:Sub V qq:=by rw[<-hqq];exact((bS.set s11).set ht0).set h60
   have hms':ms++[spM p m]=(p.methods.take (k+1)).map (spM p):=by rw[hms,<-List.take_append_getElem hkl,List.map_append,hm];rfl
   clear hqq
   exact⟨k+1,ms++[spM p m],qq,⟨by omega,hms',c6,ct,c2,cS⟩,td1,wkR⟩
  ·rw[hcsp]
   refine dwp_wk (CV (az:=[sl ((spCs p).map cFClass)]) (bs:=[dI 0,dI 0,.str [],.nils]) (d':=sl (ms.map BC)) o6 (AE _ _)) ?_
   generalize hU5:S3.set i6 _=S5
   have o6:S5 i6=some (.cells [sl ((spCs p).map cFClass),sl (ms.map BC),dI 0,dI 0,.str [],.nils]):=by rw[<-hU5];exact w7 ..
   have o2:S5 i2=some (.cells [.nils,.nils,dI 0,dI 0,.str [],.nils]):=by rw[<-hU5,w8 _ _ n26];exact o2
   have oS:Sub V S5:=by rw[<-hU5];exact oS.set h60
   clear hU5 ot
   repeat ((fail_if_success (first|(refine boxV (T:=214) (fun i12 hi12=>?_))|fail));(refine goX1 trivial ?_))
   refine boxV (T:=214) (fun i12 hi12=>?_)
   have n612:i6≠i12:=A3 o6 hi12
   have n212:i2≠i12:=A3 o2 hi12
   try refine gz ?_ o56 [2,4,6,77,109]
   generalize hU4:S5.set i12 _=S4
   have b12:S4 i12=some (.cells [cSp0 p (spA p) (spS p) (spG p),sl (cS (spL p)),dI (0:Nat)]):=by rw[<-hU4];exact w7 ..
   have b6:S4 i6=some (.cells [sl ((spCs p).map cFClass),sl (ms.map BC),dI 0,dI 0,.str [],.nils]):=by rw[<-hU4,w8 _ _ n612];exact o6
   have b2:S4 i2=some (.cells [.nils,.nils,dI 0,dI 0,.str [],.nils]):=by rw[<-hU4,w8 _ _ n212];exact o2
   have s12:V i12=none:=oS.none hi12
   have bS:Sub V S4:=by rw[<-hU4];exact oS.set s12
   clear hU4
   have h144:=NA p (spA p) (spS p) (spG p) (spL p) (by omega) hlA (by omega) (by omega) (by omega) hlG (by omega) 12 p.main [] .no 0 i12 S4 hp.main (by simp) (by rw[hlL];exact hp.left) b12
   have hke:k=p.methods.length:=by omega
   rw[hke,List.take_length]at hms
   subst hms
   refine Ab (h144.wk (args:=[.ptr i12 0,dI p.main,.nils]) ⟨A8 _,A8 _,Al _ (.inl rfl),trivial⟩) (fun d S6 hx=>?_) (fun d S6 hx=>by cases hx.1)
   obtain⟨hx',rfl⟩:=hx
   cases hx'
   simp only[putD]
   try refine gf (gi b6 b2) ?_ o56 [2,4,6,77,109]
   exact finC (S':=V) ⟨rfl,rfl⟩ (hw:=by refine AS ?_;simp[Dm]) (hZ:=((bS.set s12).set h60).set hi2)
 ·repeat' first|refine gf hn3 ?_ [] [2,4,6,77,109]|refine Ax (k4 _) ?_|refine callP (k4 _) ?_|refine moR (k4 _) ?_|refine moP (k4 _) ?_|refine gf hn3 ?_ o56 [2,4,6,77,109]|apply gy<;>intro hh
  refine Ab (k5 _) (fun d S1 hr=>?_) (fun d S1 hr=>by obtain⟨_,_,h,_⟩:=hr;cases h)
  obtain⟨E,st,e1,hW,hS1,hN1⟩:=hr
  cases e1
  have o2:S1 i2=some (.cells [.nils,.nils,dI 0,dI 0,.str [],.nils]):=hS1 _ _ (w7 ..)
  have r2:¬Cm st i2:=hN1 _ _ (w7 ..)
  have hS01:Sub V S1:=((Sub.refl _).set hi2).trans hS1
  have hN01:∀j x,V j=some x->¬Cm st j:=fun j x hj=>hN1 _ _ (by rw[w8 _ _ (A3 hj hi2)];exact hj)
  simp only[putD]
  cases st with
  |none =>
   obtain⟨rfl,hnil⟩:=hW
   have hcl:p.classes=[]:=by simpa using hnil
   try refine gz ?_ o56 [2,4,6,77,109]
   refine newV (fun i6 hi6=>?_)
   have n26:i2≠i6:=A3 o2 hi6
   have hi61:=hS1.none hi6
   try refine gz ?_ o56 [2,4,6,77,109]
   refine B2 [1,2,3,4,5,6,9,10,11,12,42,56,57,58,59,60,61,62,63,64,65,66,67,68,69,70,71,72,73,74,75,76,77,78,79,80,81,82,83,84,85,86,87,88,89,90,91,92,93,94,95,96,97,98,99,100,101,102,103,104,105,106,107,108,109,110,111,112,113,114,115] (fun (k:Nat)=>k=0) (fun k=>[(43,dI k)]) (fun _=>S1.set i6 (.cells [.slice [] .clip,.nils,dI 0,dI 0,.str [],.nils])) (fun _=>0) (0) (by rfl) (fun k hI=>?_)
   subst hI
   try refine gz ?_ o56 [2,4,6,77,109]
   refine dwp_wk (CV (az:=[]) (bs:=[.nils,dI 0,dI 0,.str [],.nils]) (d':=sl ((spCs p).map cFClass)) (w7 ..) (by unfold spCs;rw[hcl];exact AE _ _)) ?_
   refine dwp_wk (Ag (by rw[hcsp];simp) ?_) (hK i6 hi61)
   rw[w9]
   exact Sub.both hS1
  | some x =>
   obtain⟨r,cap,rest⟩:=x
   obtain⟨rfl,hrow⟩:=hW
   have hr2:i2≠r:=r2
   try refine gz ?_ o56 [2,4,6,77,109]
   refine newV (fun i6 hi6=>?_)
   have n26:i2≠i6:=A3 o2 hi6
   have hi61:=hS1.none hi6
   have hri:r≠i6:=A3 hrow hi6
   have hr0:V r=none:=by
    cases h:V r with
    |none=>rfl
    |some x=>exact absurd rfl (hN01 r x h)
   try refine gz ?_ o56 [2,4,6,77,109]
   refine AA [1,2,3,4,5,6,9,10,11,12,42,56,57,58,59,60,61,62,63,64,65,66,67,68,69,70,71,72,73,74,75,76,77,78,79,80,81,82,83,84,85,86,87,88,89,90,91,92,93,94,95,96,97,98,99,100,101,102,103,104,105,106,107,108,109,110,111,112,113,114,115] (fun (k:Nat) (S3:Sig)=>k<=p.classes.length/\S3 r=some (.cells ((((spCs p).take k++(p.classes.map (spC (spA p) (spS p))).drop k).map cFClass).flatten++rest))/\S3 i6=some (.cells [.sref r 0 p.classes.length p.classes.length,.nils,dI 0,dI 0,.str [],.nils])/\S3 i2=some (.cells [.nils,.nils,dI 0,dI 0,.str [],.nils])/\Sub V S3) (fun k _=>[(43,dI k)]) (fun _ S3=>S3) (fun k _=>p.classes.length-k) (0) (S1.set i6 (.cells [.sref r 0 p.classes.length p.classes.length,.nils,dI 0,dI 0,.str [],.nils])) (by exact⟨by omega,by rw[w8 _ _ hri,hrow];simp,by simp,by rw[w8 _ _ n26];exact o2,hS01.set (hS01.none hi6)⟩) (fun k S3 hI=>?_)
   obtain⟨hk,q1,q6,q2,qS⟩:=hI
   by_cases hkl:k<p.classes.length
   ·have hkn:k<(B1 p.classes.length).length:=by rw[Br];exact hkl
    have hlc:(spCs p).length=p.classes.length:=by unfold spCs;simp[Br]
    have hspk:(spCs p)[k]'(by omega)={ spC (spA p) (spS p) p.classes[k]with name:=(B1 p.classes.length)[k] }:=by simp[spCs]
    have hX:(((spCs p).take k++(p.classes.map (spC (spA p) (spS p))).drop k).map cFClass).flatten++rest=(((spCs p).take k).map cFClass).flatten ++ .str (spC (spA p) (spS p) p.classes[k]).name::((cFClass (spC (spA p) (spS p) p.classes[k])).tail++((((p.classes.map (spC (spA p) (spS p))).drop (k+1)).map cFClass).flatten++rest)):=by
     rw[List.drop_eq_getElem_cons (by simpa using hkl)];simp
    have hA:((((spCs p).take k).map cFClass).flatten).length=k*4:=by
     rw[List.length_flatten,List.map_map]
     have:(List.map (List.length ∘ cFClass) ((spCs p).take k))=List.replicate k 4:=by
      rw[List.eq_replicate_iff];exact⟨by simp;omega,fun b hb=>by obtain⟨x,_,rfl⟩:=List.mem_map.1 hb;rfl⟩
     rw[this];simp
    have hY:(((spCs p).take (k+1)++(p.classes.map (spC (spA p) (spS p))).drop (k+1)).map cFClass).flatten++rest=(((spCs p).take k).map cFClass).flatten ++ .str (B1 p.classes.length)[k]::((cFClass (spC (spA p) (spS p) p.classes[k])).tail++((((p.classes.map (spC (spA p) (spS p))).drop (k+1)).map cFClass).flatten++rest)):=by
     rw[<-List.take_append_getElem (by omega),hspk];simp
    rw[hX]at q1
    generalize (((spCs p).take k).map cFClass).flatten=A at*
    generalize (cFClass (spC (spA p) (spS p) p.classes[k])).tail++((((p.classes.map (spC (spA p) (spS p))).drop (k+1)).map cFClass).flatten++rest)=R at*
    have t1:List.take (k*4) (A ++ .str (spC (spA p) (spS p) p.classes[k]).name::R)=A:=by rw[<-hA];exact List.take_left' rfl
    have t2:List.drop (k*4+1) (A ++ .str (spC (spA p) (spS p) p.classes[k]).name::R)=R:=by rw[<-hA,List.drop_length_add_append];rfl
    try refine gf (gi q6 (gi q1 (gi t1 t2))) ?_ o56 [2,4,6,77,109]
    exact⟨k+1,S3.set r (.cells (A ++ .str (B1 p.classes.length)[k]::R)),⟨by omega,by rw[w7,hY],by rw[w8 _ _ (Ne.symm hri)];exact q6,by rw[w8 _ _ hr2];exact q2,qS.set hr0⟩,td1,wkR⟩
   ·have hke:k=p.classes.length:=by omega
    subst hke
    have hlc:(spCs p).length=p.classes.length:=by unfold spCs;simp[Br]
    have hfin:(spCs p).take p.classes.length++(p.classes.map (spC (spA p) (spS p))).drop p.classes.length=spCs p:=by
     rw[List.take_of_length_le (by omega),List.drop_of_length_le (by simp),List.append_nil]
    rw[hfin]at q1
    have hl2:p.classes.length=((spCs p).map cFClass).length:=by rw[List.length_map,hlc]
    rw[hl2]at q6
    refine dwp_wk (Ml (az:=[]) (bs:=[.nils,dI 0,dI 0,.str [],.nils]) (sz:=4) q1 q6 (Ne.symm hri) (Nat.le_refl _) (fun e he=>by obtain⟨x,_,rfl⟩:=List.mem_map.1 he;rfl)) ?_
    try refine gz ?_ o56 [2,4,6,77,109]
    refine dwp_wk (Ag (by rw[hcsp];simp) ?_) (hK i6 hi61)
    refine Sub.both fun j x hj=>?_
    have hjr:j≠r:=fun e=>by rw[e,w8 _ _ (Ne.symm hr2),hr0]at hj;cases hj
    simp only[Sig.del,hjr,if_false]
    by_cases hj2:j=i2
    ·subst hj2;rw[w7]at hj;rw[<-hj];exact q2
    ·rw[w8 _ _ hj2]at hj;exact qS _ _ hj
@[reducible,instance] def a56:=fun p V=>ah1 (@PC p V)
def wL:List Str:=(((List.range 160).map fun n=>Lp (n+1)).filter AP).take 128
def oA(k:Nat):Bool:=decide (frO (wL.take k) 10000 1=wL[k]?)&&decide (Ei (wL.take k)=(wL[k]?).getD [])
theorem wLl:wL.length=128:=by decide +kernel
theorem wL0:(List.range' 0 48).all oA=true:=by decide +kernel
theorem wL1:(List.range' 48 32).all oA=true:=by decide +kernel
theorem wL2:(List.range' 80 26).all oA=true:=by decide +kernel
theorem wL3:(List.range' 106 22).all oA=true:=by decide +kernel
theorem wLk{k:Nat}(s n:Nat)(ha:(List.range' s n).all oA=true)(h1:s<=k)(h2:k<s+n):oA k=true:=List.all_eq_true.1 ha k (List.mem_range'_1.2 ⟨h1,h2⟩)
theorem wLa{k:Nat}(h:k<128): ∃w,wL[k]?=some w/\frO (wL.take k) 10000 1=some w/\Ei (wL.take k)=w:=by
 have hk:oA k=true:=by
  by_cases h1:k<48
  ·exact wLk _ _ wL0 (by omega) (by omega)
  ·by_cases h2:k<80
   ·exact wLk _ _ wL1 (by omega) (by omega)
   ·by_cases h3:k<106
    ·exact wLk _ _ wL2 (by omega) (by omega)
    ·exact wLk _ _ wL3 (by omega) (by omega)
 have hw:wL[k]?=some (wL[k]'(by rw[wLl];exact h)):=List.getElem?_eq_getElem _
 unfold oA at hk
 rw[Bool.and_eq_true,decide_eq_true_eq,decide_eq_true_eq,hw]at hk
 exact⟨_,hw,hk.1,by rw[hk.2];rfl⟩
theorem wLs{k:Nat}{w:Str}(h:wL[k]?=some w):wL.take (k+1)=wL.take k++[w]:=by rw[List.take_add_one,h];rfl
theorem wLr: ∀(n k:Nat),k+n<=128->refM n (wL.take k) (wL.take k)=some (wL.take (k+n))/\Dt n (wL.take k)=wL.take (k+n)
 |0,k,_=>by rw[refM,Dt];exact⟨rfl,rfl⟩
 |n+1,k,h=>by
  obtain⟨w,h1,h2,h3⟩:=wLa (k:=k) (by omega)
  have i:=wLr n (k+1) (by omega)
  rw[refM,h2,Dt,h3]
  simp only
  rw[<-wLs h1,show k+(n+1)=k+1+n by omega]
  exact i
theorem ref128:refM 128 [] []=some (B1 128):=by
 have h:=wLr 128 0 (by omega)
 unfold B1
 rw[List.take_zero]at h
 rw[h.1,h.2]
theorem P7: ∀(n:Nat) (l out ws:List Str),refM n l out=some ws->∃t,ws=out++t/\t.length=n
 |0,l,out,ws,h=>by rw[refM]at h;cases h;exact⟨[],by simp,rfl⟩
 | n+1,l,out,ws,h=>by
  rw[refM]at h
  cases hf:frO l 10000 1 with
  |none=>rw[hf]at h;cases h
  |some w =>
   rw[hf]at h
   obtain⟨t,h1,h2⟩:=P7 n _ _ ws h
   exact⟨w::t,by rw[h1];simp,by simp[h2]⟩
theorem MH: ∀(n m:Nat) (l out ws:List Str),refM (n+m) l out=some ws->refM n l out=some (ws.take (out.length+n))
 |0,m,l,out,ws,h=>by
  rw[Nat.zero_add]at h
  obtain⟨t,h1,h2⟩:=P7 m l out ws h
  rw[refM,h1,Nat.add_zero,List.take_left]
 | n+1,m,l,out,ws,h=>by
  rw[show n+1+m=(n+m)+1 by omega,refM]at h
  rw[refM]
  cases hf:frO l 10000 1 with
  |none=>rw[hf]at h;cases h
  |some w =>
   rw[hf]at h
   simp only at h⊢
   rw[MH n m _ _ ws h,List.length_append]
   congr 2
   simp;omega
theorem GI: ∀(n m:Nat) (l:List Str),Dt n l=(Dt (n+m) l).take (l.length+n)
 | 0,m,l=>by
  rw[Nat.zero_add,Dt,Nat.add_zero]
  have key:∀(m:Nat) (l:List Str),(Dt m l).take l.length=l:=fun m=>by
   induction m with
   |zero=>intro l;rw[Dt];simp
   |succ m ih =>
    intro l
    rw[Dt]
    have:=congrArg (List.take l.length) (ih (l++[Ei l]))
    rw[List.take_take,List.length_append,List.take_left,Nat.min_eq_left (by simp)]at this
    exact this
  exact(key m l).symm
 |n+1,m,l=>by
  rw[show n+1+m=(n+m)+1 by omega,Dt,Dt,GI n m,List.length_append]
  congr 1
  simp;omega
theorem MG{n:Nat}(h:n<=128):refM n [] []=some (B1 n):=by
 have h1:=MH n (128-n) [] [] _ (by rw[show n+(128-n)=128 by omega];exact ref128)
 have h2:=GI n (128-n) []
 rw[show n+(128-n)=128 by omega]at h2
 rw[h1]
 unfold B1
 rw[h2]
theorem KF{n m:Nat}(h:n<=m):(B1 m).take n=B1 n:=by
 have h2:=GI n (m-n) []
 rw[show n+(m-n)=m by omega]at h2
 unfold B1
 rw[h2];simp
def numM:List Str->Int->List (Str×Int)->List (Str×Int)
 |[],_,m=>m
 |s::r,b,m=>numM r (b+1) (putM s b m)
def cNum(m:List (Str×Int)):D:=.cmap ((eSN m).map (·.1)) ((eSN m).map (·.2))
theorem UF(l:List Str)(b:Int)(o:Own)(V:Sig)(hl:l.length<=1073741824)(hb:0<=b/\b<=1000):DCall prog 101 [.slice (cS l) o,dI b] V (rS (cNum (numM l b [])) V):=by
 obtain⟨hb0,hb1⟩:=hb
 refine en func101 ntmps101 ?_
 refine gz ?_
 refine Sf (fun im him=>?_)
 refine gz ?_
 refine AA [1,4,5,9,10,22] (fun (k:Nat) (m:List (Str×Int))=>k<=l.length/\numM l b []=numM (l.drop k) (b+k) m) (fun k _=>[(11,dI k)]) (fun _ m=>V.set im (.map (eSN m))) (fun k _=>l.length-k) (0) ([]) (by simp) (fun k m hI=>?_)
 obtain⟨hk,hR⟩:=hI
 by_cases hkl:k<l.length
 ·rw[A0 hkl,numM]at hR
  refine gz ?_
  exact⟨k+1,putM l[k] (b+k) m,⟨by omega,by rw[hR];congr 1;omega⟩,td1,wkR⟩
 ·rw[A1 hkl,numM]at hR
  repeat ((fail_if_success (first|(refine cfr 22 (i:=im) (m:=eSN m) (w7 ..) ?_)|fail));(refine goX1 trivial ?_))
  refine cfr 22 (i:=im) (m:=eSN m) (w7 ..) ?_
  rw[Sig.set_del _ _ him,hR]
  refine gz ?_
  exact fe1 trivial
@[reducible,instance] def a101:=fun l b o V=>ah2 (@UF l b o V)
theorem NE(c:FClass)(V:Sig):DCall prog 103 [.agg (cFClass c)] V (rS (.str c.name) V):=by
 refine en func103 ntmps103 ?_
 refine gz ?_
 exact fe1 trivial
theorem DT(l:List Str)(b:Int)(o:Own)(V:Sig)(hl:l.length<=1073741824)(hb:0<=b/\b<=1000):DCall prog 101 [.slice (cS l) o,dI b] V fun x S'=> ∃im,V im=none/\x=.ret (.map im)/\S'=V.set im (.map (eSN (numM l b []))):=by
 obtain⟨hb0,hb1⟩:=hb
 refine en func101 ntmps101 ?_
 refine gz ?_
 refine Sf (fun im him=>?_)
 refine gz ?_
 refine AA [1,4,5,9,10,22] (fun (k:Nat) (m:List (Str×Int))=>k<=l.length/\numM l b []=numM (l.drop k) (b+k) m) (fun k _=>[(11,dI k)]) (fun _ m=>V.set im (.map (eSN m))) (fun k _=>l.length-k) (0) ([]) (by simp) (fun k m hI=>?_)
 obtain⟨hk,hR⟩:=hI
 by_cases hkl:k<l.length
 ·rw[A0 hkl,numM]at hR
  refine gz ?_
  exact⟨k+1,putM l[k] (b+k) m,⟨by omega,by rw[hR];congr 1;omega⟩,td1,wkR⟩
 ·rw[A1 hkl,numM]at hR
  refine gz ?_
  exact fin1 (S':=V.set im (.map (eSN m))) ⟨im,him,rfl,by rw[hR]⟩
structure EnvS(ib ia is ig:Nat)(p6:List D)(cm sm gm:List (Str×Int))(V:Sig):Prop where
 env:∃a b c d e f,p6=[a,b,c,d,e,f]/\V ib=some (.cells [a,b,c,d,e,f,.map ia,.map is,.map ig])
 oa:V ia=some (.map (eSN cm))
 os:V is=some (.map (eSN sm))
 og:V ig=some (.map (eSN gm))
theorem EnvS.sub{ib ia is ig:Nat}{p6:List D}{cm sm gm:List (Str×Int)}{V S':Sig}(h:EnvS ib ia is ig p6 cm sm gm V)(hs:Sub V S'):EnvS ib ia is ig p6 cm sm gm S':=by
 obtain⟨⟨a,b,c,d,e,f,h1,h2⟩,h3,h4,h5⟩:=h
 exact⟨⟨a,b,c,d,e,f,h1,hs _ _ h2⟩,hs _ _ h3,hs _ _ h4,hs _ _ h5⟩
section
variable {ib ia is ig:Nat}{p6:List D}{cm sm gm:List (Str×Int)}{V:Sig}
theorem L4(s:Str)(hE:EnvS ib ia is ig p6 cm sm gm V):DCall prog 108 [.str s,.cptr [.ptr ib 0] 0] V (rS (dI (getM 0 s cm)) V):=by
 obtain⟨⟨a,b,c,d,e,f,rfl,o1⟩,o2,o3,o4⟩:=hE
 refine en func108 ntmps108 ?_
 refine gf (gi o1 (gi o2 (gi o3 o4))) ?_
 exact fe1 trivial
theorem L3(s:Str)(hE:EnvS ib ia is ig p6 cm sm gm V):DCall prog 109 [.str s,.cptr [.ptr ib 0] 0] V (rS (dI (getM 0 s sm)) V):=by
 obtain⟨⟨a,b,c,d,e,f,rfl,o1⟩,o2,o3,o4⟩:=hE
 refine en func109 ntmps109 ?_
 refine gf (gi o1 (gi o2 (gi o3 o4))) ?_
 exact fe1 trivial
theorem L2(x:FInit)(hE:EnvS ib ia is ig p6 cm sm gm V):DCall prog 111 [.agg (D5 x),.cptr [.ptr ib 0] 0] V (rS (.agg (F8 ⟨getM 0 x.slot sm,x.n⟩)) V):=by
 obtain⟨⟨a,b,c,d,e,f,rfl,o1⟩,o2,o3,o4⟩:=hE
 refine en func111 ntmps111 ?_
 refine gz ?_ o111
 refine newV (fun i hi=>?_)
 have n1:ib≠i:=A3 o1 hi
 have n2:ia≠i:=A3 o2 hi
 have n3:is≠i:=A3 o3 hi
 refine gf (gi o1 (gi o2 (gi o3 o4))) ?_ o111
 exact finC (S':=V) ⟨rfl,rfl⟩
def OO(cm sm:List (Str×Int))(c:FClass):BClass:=⟨c.parents.map fun s=>getM 0 s cm,c.slots.map fun s=>getM 0 s sm,c.inits.map fun x=>⟨getM 0 x.slot sm,x.n⟩⟩
theorem Ra(c:FClass)(hw:c.parents.length<=1073741824/\c.slots.length<=1073741824/\c.inits.length<=1073741824)(hE:EnvS ib ia is ig p6 cm sm gm V):DCall prog 106 [.agg (cFClass c),.cptr [.ptr ib 0] 0] V (rS (.agg (Ae (OO cm sm c))) V):=by
 obtain⟨w1,w2,w3⟩:=hw
 refine en func106 ntmps106 ?_
 refine gz ?_ o106
 refine newV (fun i hi=>?_)
 have hE2:=hE.sub (S':=V.set i (.cells [.nils,.nils,.nils])) ((Sub.refl _).set hi)
 repeat' first|refine gz ?_|refine moR (FO c.parents (fun s=>getM 0 s cm) 108 [.cptr [.ptr ib 0] 0] _ _ w1 (fun x hx S' hs=>L4 x (hE2.sub hs))) ?_|refine moP (FO c.parents (fun s=>getM 0 s cm) 108 [.cptr [.ptr ib 0] 0] _ _ w1 (fun x hx S' hs=>L4 x (hE2.sub hs))) ?_|refine moR (FO c.slots (fun s=>getM 0 s sm) 109 [.cptr [.ptr ib 0] 0] _ _ w2 (fun x hx S' hs=>L3 x (hE2.sub hs))) ?_|refine moP (FO c.slots (fun s=>getM 0 s sm) 109 [.cptr [.ptr ib 0] 0] _ _ w2 (fun x hx S' hs=>L3 x (hE2.sub hs))) ?_|refine moR (ND c.inits (fun x=>⟨getM 0 x.slot sm,x.n⟩) 111 [.cptr [.ptr ib 0] 0] _ _ w3 (fun x hx S' hs=>L2 x (hE2.sub hs))) ?_|refine moP (ND c.inits (fun x=>⟨getM 0 x.slot sm,x.n⟩) 111 [.cptr [.ptr ib 0] 0] _ _ w3 (fun x hx S' hs=>L2 x (hE2.sub hs))) ?_|refine gz ?_ o106|apply gy<;>intro hh
 exact finC (S':=V) ⟨rfl,rfl⟩ (hw:=by refine AS ?_;simp[OO])
end
end Go.DL
