/- A part of the proof. -/
import Derived.Test.YtlfimpogphmbdaaGreatQ18
set_option linter.all false
namespace Go.DL
open Go.Proofs.Tryz
open Go Go.Proofs
set_option maxHeartbeats 8000000
def Gz{T:Type}(node:Int->T->Bool)(most:Int)(d:Int)(x:T)(n:Int):Option Int:=if n+1<=most/\node d x=true then some (n+1) else none
def IC(most:Int)(x:aB):Option Int:=visE (Gz F6 most) x 1 0
def Fx(most:Int)(x:aC):Option Int:=visF (Gz Fu most) x 1 0
theorem Gj{T:Type}{node:Int->T->Bool}{most d:Int}{x:T}{n:Int}(h:¬(n+1<=most)\/node d x=false):Gz node most d x n=none:=by
 unfold Gz;rw[aN];rintro⟨h1,h2⟩;rcases h with h|h
 ·exact h h1
 ·rw[h]at h2;cases h2
theorem Gi{T:Type}{node:Int->T->Bool}{most d:Int}{x:T}{n:Int}(h:n+1<=most)(h2:node d x=true):Gz node most d x n=some (n+1):=by
 unfold Gz;rw[aS ⟨h,h2⟩]
def GL(ip:Nat)(most:Int):Sig->Int->Prop:=fun V n=>V ip=some (.cells [dI n])/\0<=n/\n<=most
theorem GL.mono{ip:Nat}{most:Int}:MonoG (GL ip most):=fun V S' s h hk=>⟨hk _ _ h.1 rfl,h.2⟩
theorem RM(e:aB)(most:Int)(V:Sig)(hw:e.wt<=1073741824)(hm:0<=most/\most<=1000000):au prog 235 [pE e,dI most] V fun x S'=>x=(if(IC most e).isSome then .ret (dI ((IC most e).getD 0)) else .panic unf2)/\S'=V:=by
 obtain⟨gS,iV⟩:=hm
 refine Bj func235 rfl (by decide) ntmps235 (by simp) ?_
 try refine gz ?_ [] [5]
 refine newV (fun ip gU=>?_)
 try refine gz ?_ [] [5]
 have d8:∀{S:Type} (a:Option S),a=a:=fun _=>rfl
 have ht:∀j,(j=ip)->(V.set ip (.cells [dI 0])) j≠none:=fun j e=>by rw[e,w7];simp
 have e7:∀(did:Nat) (S':Sig),(∀j x,(V.set ip (.cells [dI 0])) j=some x->¬(j=ip)->S' j=some x/\j≠did)->Sub V (dels [did] S'):=fun did S' h=>Gb fun j x hj=>by
  have e:j≠ip:=fun e=>by rw[e,gU]at hj;cases hj
  exact h j x (by rw[w8 _ _ e];exact hj) e
 refine Jq unf2 (GL ip most) (· = ip) (· = ip) (IC most e) 0 (GL.mono.indep _) GL.mono.fresh ⟨w7 .., by omega,gS⟩ ht ht rfl (fun l did LO SL d7 hd hl fM gg hG fP=>?_) (fun did n S' ho fO d9 hG hk=>?_) (fun did S' ho fO d9 hk=>?_)
 ·refine Ln l _ _ (· = ip) (Gz F6 most) (fun d x S1 n gJ gA hx d6=>?_) (fun V s a o h ha=>h.new GL.mono.fresh ha) e SL 0 fP hw hG
  refine Ez d7 d6.1 ?_
  try refine gz ?_ [] [5]
  refine⟨d6.1,?_⟩
  obtain⟨hc,gP,gO⟩:=d6.busy d7 (GL.mono.indep _) hl
  obtain⟨Sb,fV⟩:∃Sb,Sb=S1.set l (Ck LO):=⟨_,rfl⟩
  rw[<-fV]at hc⊢
  have hK:∀m:Int,Keep (· = ip) (S1.set l (Ck LO)) (Sb.set ip (.cells [dI m])):=fun m j x hj hne=>by rw[w8 _ _ hne,fV];exact hj
  rw[<-Sig.set_self _ hc]
  repeat' first|(exact KI (Gj (by first|exact .inl (by assumption)|exact .inr (by assumption))) (d6.bad hl (fun _ h=>h) (hK _)))|refine gz ?_ [] [5]|apply gy<;>intro hh
  exact Id (Gi (by omega) (by assumption)) d7 (GL.mono.indep _) d6 fM hl ⟨w7 .., by omega,by omega⟩ (hK _)
 ·try refine gf hG.1 ?_ [] [5]
  rw[ho]
  exact O1 [did] (S':=V) (d':=dI n) ⟨rfl,rfl⟩ (e7 did S' hk) (hd:=by simp[d9]) (hw:=A9 _)
 ·rw[ho]
  exact JZ [did] (S':=V) ⟨rfl,rfl⟩ (e7 did S' hk) (hd:=by simp[d9])
@[reducible,instance] def a235e:=fun e most V=>gh2 (@RM e most V)
theorem RL(e:aC)(most:Int)(V:Sig)(hw:e.wt<=1073741824)(hm:0<=most/\most<=1000000):au prog 235 [pF e,dI most] V fun x S'=>x=(if(Fx most e).isSome then .ret (dI ((Fx most e).getD 0)) else .panic unf2)/\S'=V:=by
 obtain⟨gS,iV⟩:=hm
 refine Bj func235 rfl (by decide) ntmps235 (by simp) ?_
 try refine gz ?_ [] [5]
 refine newV (fun ip gU=>?_)
 try refine gz ?_ [] [5]
 have d8:∀{S:Type} (a:Option S),a=a:=fun _=>rfl
 have ht:∀j,(j=ip)->(V.set ip (.cells [dI 0])) j≠none:=fun j e=>by rw[e,w7];simp
 have e7:∀(did:Nat) (S':Sig),(∀j x,(V.set ip (.cells [dI 0])) j=some x->¬(j=ip)->S' j=some x/\j≠did)->Sub V (dels [did] S'):=fun did S' h=>Gb fun j x hj=>by
  have e:j≠ip:=fun e=>by rw[e,gU]at hj;cases hj
  exact h j x (by rw[w8 _ _ e];exact hj) e
 refine Jq unf2 (GL ip most) (· = ip) (· = ip) (Fx most e) 0 (GL.mono.indep _) GL.mono.fresh ⟨w7 .., by omega,gS⟩ ht ht rfl (fun l did LO SL d7 hd hl fM gg hG fP=>?_) (fun did n S' ho fO d9 hG hk=>?_) (fun did S' ho fO d9 hk=>?_)
 ·refine Lm l _ _ (· = ip) (Gz Fu most) (fun d x S1 n gJ gA hx d6=>?_) (fun V s a o h ha=>h.new GL.mono.fresh ha) e SL 0 fP hw hG
  refine Ez d7 d6.1 ?_
  try refine gz ?_ [] [5]
  refine⟨d6.1,?_⟩
  obtain⟨hc,gP,gO⟩:=d6.busy d7 (GL.mono.indep _) hl
  obtain⟨Sb,fV⟩:∃Sb,Sb=S1.set l (Ck LO):=⟨_,rfl⟩
  rw[<-fV]at hc⊢
  have hK:∀m:Int,Keep (· = ip) (S1.set l (Ck LO)) (Sb.set ip (.cells [dI m])):=fun m j x hj hne=>by rw[w8 _ _ hne,fV];exact hj
  rw[<-Sig.set_self _ hc]
  repeat' first|(exact KI (Gj (by first|exact .inl (by assumption)|exact .inr (by assumption))) (d6.bad hl (fun _ h=>h) (hK _)))|refine gz ?_ [] [5]|apply gy<;>intro hh
  exact Id (Gi (by omega) (by assumption)) d7 (GL.mono.indep _) d6 fM hl ⟨w7 .., by omega,by omega⟩ (hK _)
 ·try refine gf hG.1 ?_ [] [5]
  rw[ho]
  exact O1 [did] (S':=V) (d':=dI n) ⟨rfl,rfl⟩ (e7 did S' hk) (hd:=by simp[d9]) (hw:=A9 _)
 ·rw[ho]
  exact JZ [did] (S':=V) ⟨rfl,rfl⟩ (e7 did S' hk) (hd:=by simp[d9])
@[reducible,instance] def a235f:=fun e most V=>gh2 (@RL e most V)
def cB:fD->D
 |[]=>.ar
 |s::r=>.am [cB r,.str s] 0
theorem Uj(b:fD)(s:Str)(V:Sig):au prog 303 [cB b,.str s] V (rS (.bool (decide (s∈b))) V):=by
 induction b with
 |nil=>
  have hb:cB []=.ar:=rfl
  refine en func303 ntmps303 ?_
  refine gf hb ?_
  exact fe1 trivial
 | cons x r ih =>
  have hb:cB (x::r)=.am [cB r,.str x] 0:=rfl
  refine en func303 ntmps303 ?_
  by_cases hx:x=s
  ·refine gf (gi hb hx) ?_
   exact fe1 trivial
  ·have iI:¬s=x:=fun h=>hx h.symm
   rw[show decide (s∈x::r)=decide (s∈r) by simp[iI]]
   repeat' first|refine gf (gi hb hx) ?_|refine EU (ih) ?_|refine callPG (ih) ?_|refine gf (gi hb hx) ?_|apply gy<;>intro hh
   any_goals (first|exact fe1 trivial|fail)
@[reducible,instance] def a303:=fun b s V=>ah0 (@Uj b s V)
mutual
def freeE:aB->fD->fD->fD
 |.mk o _ t k,b,a=>CR o t b 0 k (if o=3 /\ ¬t∈b then ins t a else a)
def CR(o:Int)(t:Str)(b:fD):Nat->List aB->fD->fD
 |_,[],a=>a
 |i,x::r,a=>CR o t b (i+1) r (freeE x (if o=9/\i=1 then t::b else b) a)
end
theorem Qr(e:aB)(b a:fD):freeE e b a=CR e.op e.text b 0 e.ah (if e.op=3 /\ ¬e.text∈b then ins e.text a else a):=by cases e;rw[freeE];rfl
theorem RA: ∀(n:Nat) (e:aB) (b acc:fD) (im:Nat) (V:Sig),e.wt<=n->n<=1073741824->V im=some (.map (eSS acc))->
  au prog 276 [.agg (Al e),cB b,.map im] V fun x S'=>x=.ret (.tup [])/\S'=V.set im (.map (eSS (freeE e b acc))):=by
 intro n
 induction n with
 |zero=>
  intro e b acc im V hx
  have:=e.wt_pos
  omega
 | succ n ih =>
  intro e b acc im V hx hn hm
  obtain⟨w1,w2,fQ⟩:=e.wt_le
  have jE : .am [cB b,.str e.text] 0=cB (e.text::b):=rfl
  refine en func276 ntmps276 ?_
  by_cases hc:e.op=3 /\ ¬e.text∈b
  ·obtain⟨A,hA⟩:∃A,A=ins e.text acc:=⟨_,rfl⟩
   have gI:freeE e b acc=CR e.op e.text b 0 e.ah A:=by rw[Qr,aS hc,hA]
   obtain⟨gC,gY⟩:=hc
   refine gf (gi hm (gi gC (gi gY hA.symm))) ?_
   refine AB [1,2,3,23,24] (fun (k:Nat) (a:fD)=>k<=e.ah.length/\CR e.op e.text b 0 e.ah A=CR e.op e.text b k (e.ah.drop k) a) (fun k _=>[(25,dI k)]) (fun _ a=>V.set im (.map (eSS a))) (fun k _=>e.ah.length-k) (0) (A) (by simp) (fun k a hI=>?_)
   obtain⟨hk,hR⟩:=hI
   by_cases e8:k<e.ah.length
   ·rw[A2 e8,CR]at hR
    have hi:(V.set im (.map (eSS a))) im=some (.map (eSS a)):=w7 ..
    by_cases h9:e.op=9/\k=1
    ·omega
    ·rw[aN h9]at hR
     by_cases fX:e.op=9
     ·have iH:¬k=1:=fun h=>h9 ⟨fX,h⟩
      refine gf fX ?_
      refine Ac (ih e.ah[k] b a im _ (by have:=fQ k e8;omega) (by omega) hi) (fun d S' hr=>?_) (fun d S' hr=>by cases hr.1)
      obtain⟨h1,rfl⟩:=hr
      cases h1
      refine gz ?_
      exact⟨k+1,freeE e.ah[k] b a,⟨by omega,hR⟩,td1,wkR⟩
     ·refine gf fX ?_
      refine Ac (ih e.ah[k] b a im _ (by have:=fQ k e8;omega) (by omega) hi) (fun d S' hr=>?_) (fun d S' hr=>by cases hr.1)
      obtain⟨h1,rfl⟩:=hr
      cases h1
      refine gz ?_
      exact⟨k+1,freeE e.ah[k] b a,⟨by omega,hR⟩,td1,wkR⟩
   ·rw[A1 e8,CR]at hR
    refine gz ?_
    refine Ef (S':=V.set im (.map (eSS (freeE e b acc)))) ⟨rfl,rfl⟩ (hZ:=by rw[gI,hR];exact Sub.refl _)
  ·obtain⟨A,hA⟩:∃A,A=acc:=⟨_,rfl⟩
   have gI:freeE e b acc=CR e.op e.text b 0 e.ah A:=by rw[Qr,aN hc,hA]
   subst hA
   have e7:Sub (V.set im (.map (eSS A))) V:=by rw[Sig.set_self _ hm];exact Sub.refl _
   by_cases gC:e.op=3
   ·have gY:e.text∈b:=by by_cases h:e.text∈b;exact h;exact absurd ⟨gC,h⟩ hc
    refine gf (gi gC gY) ?_
    refine AB [1,2,3,23,24] (fun (k:Nat) (a:fD)=>k<=e.ah.length/\CR e.op e.text b 0 e.ah A=CR e.op e.text b k (e.ah.drop k) a) (fun k _=>[(25,dI k)]) (fun _ a=>V.set im (.map (eSS a))) (fun k _=>e.ah.length-k) (0) (A) (by simp) (fun k a hI=>?_)
    obtain⟨hk,hR⟩:=hI
    by_cases e8:k<e.ah.length
    ·rw[A2 e8,CR]at hR
     have hi:(V.set im (.map (eSS a))) im=some (.map (eSS a)):=w7 ..
     by_cases h9:e.op=9/\k=1
     ·omega
     ·rw[aN h9]at hR
      by_cases fX:e.op=9
      ·have iH:¬k=1:=fun h=>h9 ⟨fX,h⟩
       refine gf fX ?_
       refine Ac (ih e.ah[k] b a im _ (by have:=fQ k e8;omega) (by omega) hi) (fun d S' hr=>?_) (fun d S' hr=>by cases hr.1)
       obtain⟨h1,rfl⟩:=hr
       cases h1
       refine gz ?_
       exact⟨k+1,freeE e.ah[k] b a,⟨by omega,hR⟩,td1,wkR⟩
      ·refine gf fX ?_
       refine Ac (ih e.ah[k] b a im _ (by have:=fQ k e8;omega) (by omega) hi) (fun d S' hr=>?_) (fun d S' hr=>by cases hr.1)
       obtain⟨h1,rfl⟩:=hr
       cases h1
       refine gz ?_
       exact⟨k+1,freeE e.ah[k] b a,⟨by omega,hR⟩,td1,wkR⟩
    ·rw[A1 e8,CR]at hR
     refine gz ?_
     refine Ef (S':=V.set im (.map (eSS (freeE e b A)))) ⟨rfl,rfl⟩ (hZ:=by rw[gI,hR];exact Sub.refl _)
   ·refine gf gC ?_
    refine AB [1,2,3,23,24] (fun (k:Nat) (a:fD)=>k<=e.ah.length/\CR e.op e.text b 0 e.ah A=CR e.op e.text b k (e.ah.drop k) a) (fun k _=>[(25,dI k)]) (fun _ a=>V.set im (.map (eSS a))) (fun k _=>e.ah.length-k) (0) (A) (by simp) (fun k a hI=>?_)
    obtain⟨hk,hR⟩:=hI
    by_cases e8:k<e.ah.length
    ·rw[A2 e8,CR]at hR
     have hi:(V.set im (.map (eSS a))) im=some (.map (eSS a)):=w7 ..
     by_cases h9:e.op=9/\k=1
     ·rw[aS h9]at hR
      obtain⟨h9,rfl⟩:=h9
      have jg:cB []=.ar:=rfl
      rcases b with _|⟨x0,b0⟩
      ·refine gf (gi h9 jg) ?_
       refine Ac (ih e.ah[1] [e.text] a im _ (by have:=fQ 1 e8;omega) (by omega) hi) (fun d S' hr=>?_) (fun d S' hr=>by cases hr.1)
       obtain⟨h1,rfl⟩:=hr
       cases h1
       refine gz ?_
       exact⟨2,freeE e.ah[1] [e.text] a,⟨by omega,hR⟩,td1,wkR⟩
      ·have jf:cB (x0::b0)=.am [cB b0,.str x0] 0:=rfl
       refine gf (gi h9 jf) ?_
       refine Ac (ih e.ah[1] (e.text::x0::b0) a im _ (by have:=fQ 1 e8;omega) (by omega) hi) (fun d S' hr=>?_) (fun d S' hr=>by cases hr.1)
       obtain⟨h1,rfl⟩:=hr
       cases h1
       refine gz ?_
       exact⟨2,freeE e.ah[1] (e.text::x0::b0) a,⟨by omega,hR⟩,td1,wkR⟩
     ·rw[aN h9]at hR
      by_cases fX:e.op=9
      ·have iH:¬k=1:=fun h=>h9 ⟨fX,h⟩
       refine gf fX ?_
       refine Ac (ih e.ah[k] b a im _ (by have:=fQ k e8;omega) (by omega) hi) (fun d S' hr=>?_) (fun d S' hr=>by cases hr.1)
       obtain⟨h1,rfl⟩:=hr
       cases h1
       refine gz ?_
       exact⟨k+1,freeE e.ah[k] b a,⟨by omega,hR⟩,td1,wkR⟩
      ·refine gf fX ?_
       refine Ac (ih e.ah[k] b a im _ (by have:=fQ k e8;omega) (by omega) hi) (fun d S' hr=>?_) (fun d S' hr=>by cases hr.1)
       obtain⟨h1,rfl⟩:=hr
       cases h1
       refine gz ?_
       exact⟨k+1,freeE e.ah[k] b a,⟨by omega,hR⟩,td1,wkR⟩
    ·rw[A1 e8,CR]at hR
     refine gz ?_
     refine Ef (S':=V.set im (.map (eSS (freeE e b A)))) ⟨rfl,rfl⟩ (hZ:=by rw[gI,hR];exact Sub.refl _)
def cSet(s:fD):D:=.cmap (s.map .str) (s.map fun _=>.bool true)
instance a241e'(x:aB)(V:Sig):Ans 241 [.iface 308 (.agg (Al x))] V True (.func (.func 278) [] [.am [pE x] 0]):=a241e x V
instance a241f'(x:aC)(V:Sig):Ans 241 [.iface 316 (.agg (B6 x))] V True (.func (.func 278) [] [.am [pF x] 0]):=a241f x V
instance a235e'(e:aB)(most:Int)(V:Sig):Giv 235 [.iface 308 (.agg (Al e)),dI most] V (e.wt<=1073741824/\(0<=most/\most<=1000000)) (IC most e).isSome (dI ((IC most e).getD 0)) unf2:=a235e e most V
instance a235f'(e:aC)(most:Int)(V:Sig):Giv 235 [.iface 316 (.agg (B6 e)),dI most] V (e.wt<=1073741824/\(0<=most/\most<=1000000)) (Fx most e).isSome (dI ((Fx most e).getD 0)) unf2:=a235f e most V
theorem UC(e:aB)(V:Sig)(hw:e.wt<=1073741824):au prog 237 [.agg (Al e)] V (rS (cSet (freeE e [] [])) V):=by
 refine en func237 ntmps237 ?_
 try refine gz ?_
 refine Mj (fun im gV=>?_)
 try refine gz ?_
 refine Ac (RA _ e [] [] im _ (bm _) hw (w7 ..)) (fun d S' hr=>?_) (fun d S' hr=>by cases hr.1)
 obtain⟨h1,rfl⟩:=hr
 cases h1
 repeat ((fail_if_success (first|(refine cfr 8 (i:=im) (m:=eSS (freeE e [] [])) (w7 ..) ?_)|fail));(refine goX1 trivial ?_))
 refine cfr 8 (i:=im) (m:=eSS (freeE e [] [])) (w7 ..) ?_
 rw[VT,VR,w9,Sig.set_del _ _ gV]
 try refine gz ?_
 exact fe1 trivial
@[reducible,instance] def a237:=fun e V=>ah1 (@UC e V)
theorem K5(e:aB)(V:Sig):au prog 236 [.agg (Al e)] V (rS (.func (.func 275) [] [.am (Al e) 0]) V):=by
 refine en func236 ntmps236 ?_
 try refine gz ?_
 exact fe1 trivial
@[reducible,instance] def a236:=fun e V=>ah0 (@K5 e V)
theorem RB{S:Type}(l:Nat)(Good:Sig->S->Prop)(touch tp:Nat->Prop)(step:aB->S->Option S)(e:aB)(V:Sig)(s0:S)(hw:e.wt<=1073741824)
  (hy:∀(x:aB) V s,x.wt<=1073741824->Good V s->DYield prog l [.agg (Al x)] V (OutO unf2 (.bool true) Good (Keep tp V) touch V (step x s)))
  (hi:Indep Good V) (hf:PI Good) (h0:Good V s0) (ht:∀j,touch j->tp j) (gu:∀j,V j=none->¬tp j) :
  au prog 275 [.yld l,.am (Al e) 0] V (OutO unf2 (.tup []) Good (Keep tp V) touch V (visE (fun _ x s=>step x s) e 1 s0)):=by
 refine Bj func275 rfl (by decide) ntmps275 (by simp) ?_
 try refine gz ?_
 refine Jq unf2 Good touch tp (visE (fun _ x s=>step x s) e 1 s0) s0 hi hf h0 (fun j hj hn=>gu j hn (ht j hj)) (fun j hj hn=>gu j hn hj) rfl (fun l2 did LO SL d7 hd hl fM gg hG fP=>?_) (fun did s' S' ho fO d9 hG hk=>?_) (fun did S' ho fO d9 hk=>?_)
 ·have f9:Indep Good (V.set did .defs):=hi.older fun j hj=>by
   by_cases e:j=did
   ·rw[e];exact hd
   ·rw[w8 _ _ e]at hj;exact hj
  refine Ln l2 _ _ touch (fun _ x s=>step x s) (fun d x S1 s gJ gA hx d6=>?_) (fun V s a o h ha=>h.new hf ha) e SL s0 fP hw hG
  refine Ez d7 d6.1 ?_
  try refine gz ?_
  refine⟨d6.1,?_⟩
  have gb:=d6.busy d7 f9 hl
  have f6:pE x=.iface 308 (.agg (Al x)):=rfl
  try refine gf f6 ?_
  refine yldWG (hy x _ s hx gb) (fun e S2 hr=>?_) (fun e S2 hr=>?_)
  ·obtain⟨s2,gk,rfl,e9,hK⟩:=hr.ret
   try refine gz ?_
   exact Id gk d7 f9 d6 fM hl e9 hK
  ·obtain⟨hn,rfl,gZ⟩:=hr.pan
   try refine gz ?_
   exact KI hn (d6.bad hl ht gZ)
 ·rw[ho]
  try refine gz ?_
  refine O1 [did] (S':=S'.del did) (d':=.tup []) ⟨rfl,hi did fO _ _ _ hG ⟨_,d9,rfl⟩ (fun j hj=>by simp only[Sig.del,hj,bd]),fun j x hj hn=>?_⟩ (Sub.refl _) (hd:=by simp[d9]) (hw:=A9 _)
  obtain⟨h1,h2⟩:=hk j x hj hn
  simp only[Sig.del,h2,bd];exact h1
 ·rw[ho]
  try refine gz ?_
  refine JZ [did] (S':=S'.del did) ⟨rfl,fun j x hj hn=>?_⟩ (Sub.refl _) (hd:=by simp[d9])
  obtain⟨h1,h2⟩:=hk j x hj hn
  simp only[Sig.del,h2,bd];exact h1
abbrev GenT:=List (Str×Int)×Bool
def seeG(name:Str)(n:Int)(s:GenT):GenT:=if hasM name s.1=true then(s.1,s.2&&decide (getM 0 name s.1=n)) else(s.1++[(name,n)],s.2)
theorem Mg{α β:Type}[DecidableEq α](k:α)(v:β): ∀m:List (α×β),hasM k m=false->putM k v m=m++[(k,v)]
 |[],_=>rfl
 | p::r,h=>by
  obtain⟨a,b⟩:=p
  by_cases e:k=a
  ·simp[hasM,e]at h
  ·have h2:hasM k r=false:=by simpa[hasM,e] using h
   rw[putM,aN e,Mg k v r h2];rfl
structure GenS(mp ib il it:Nat)(V:Sig)(s:GenT):Prop where
 om:V mp=some (.map (eSN s.1))
 ob:V ib=some (.cells [.bool s.2])
 ol:V il=some (.cells [.slice (cS (s.1.map (·.1))) (.tag it)])
 ot:V it=some (.tail 1 s.1.length)
def tG(mp ib il it:Nat):Nat->Prop:=fun j=>j=mp\/j=ib\/j=il\/j=it
theorem Lq(name:Str)(n:Int)(im mp ib il it:Nat)(s:GenT)(V:Sig)(hl:s.1.length<=100000000)(h0:V im=some (.cells [.map mp]))(hG:GenS mp ib il it V s)(hb:ib≠il):
  au prog 244 [.str name,dI n,.ptr im 0,.ptr ib 0,.ptr il 0] V fun x S'=>x=.ret (.tup [])/\GenS mp ib il it S' (seeG name n s)/\Keep (tG mp ib il it) V S':=by
 obtain⟨acc,ok⟩:=s
 obtain⟨om,ob,ol,ot⟩:=hG
 simp only at om ob ol ot hl
 have e1:il≠mp:=A7 ol om (by simp)
 have e2:it≠mp:=A7 ot om (by simp)
 have e3:it≠il:=A7 ot ol (by simp)
 have e4:it≠ib:=A7 ot ob (by simp)
 have e5:ib≠mp:=A7 ob om (by simp)
 refine en func244 ntmps244 ?_
 cases hh:hasM name acc
 ·have hp:=Mg name n acc hh
  have hs:seeG name n (acc,ok)=(acc++[(name,n)],ok):=by unfold seeG;rw[aN (by rw[hh];simp)]
  have hc:cS (acc.map (·.1))++[[D.str name]]=cS ((acc++[(name,n)]).map (·.1)):=by simp[cS]
  rw[hs]
  refine gf (gi h0 (gi om (gi ob (gi ol (gi ot (gi hh hp)))))) ?_
  refine Ef (S':=_) ⟨rfl,⟨?_,?_,?_,?_⟩,fun j o hj hn=>?_⟩
  ·rw[w8 _ _ (aQ e1),w8 _ _ (aQ e2),w7]
  ·rw[w8 _ _ hb,w8 _ _ (aQ e4),w8 _ _ e5];exact ob
  ·rw[w7,hc]
  ·rw[w8 _ _ e3,w7,aH];rfl
  ·have n1:j≠mp:=fun e=>hn (.inl e)
   have n2:j≠il:=fun e=>hn (.inr (.inr (.inl e)))
   have n3:j≠it:=fun e=>hn (.inr (.inr (.inr e)))
   rw[w8 _ _ n2,w8 _ _ n3,w8 _ _ n1];exact hj
 ·have hs:seeG name n (acc,ok)=(acc,ok&&decide (getM 0 name acc=n)):=by unfold seeG;rw[aS hh]
  have hK:∀b,Keep (tG mp ib il it) V (V.set ib (.cells [.bool b])):=fun b j o hj hn=>by rw[w8 _ _ fun e=>hn (.inr (.inl e))];exact hj
  have hg:GenS mp ib il it (V.set ib (.cells [.bool (ok&&decide (getM 0 name acc=n))])) (acc,ok&&decide (getM 0 name acc=n)):=
   ⟨by rw[w8 _ _ (aQ e5)];exact om,w7 .., by rw[w8 _ _ (aQ hb)];exact ol,by rw[w8 _ _ e4];exact ot⟩
  rw[hs]
  cases ok
  ·refine gf (gi h0 (gi om (gi ob (gi ol (gi ot hh))))) ?_
   exact fin0 (S':=_) ⟨rfl,hg,hK _⟩
  ·refine gf (gi h0 (gi om (gi ob (gi ol (gi ot hh))))) ?_
   exact fin0 (S':=_) ⟨rfl,hg,hK _⟩
section
variable {S:Type}(step:Int->aB->S->Option S)(pot:S->Nat)(hP:∀d x s s',step d x s=some s'->pot s'<=pot s+1)
include hP
mutual
theorem M4: ∀(x:aB) (d:Int) (s s':S),visE step x d s=some s'->pot s'<=pot s+x.wt
 | .mk o n t k,d,s,s',he=>by
  have hw:(aB.mk o n t k).wt=1+t.length+wtL aB.wt k:=aB.wt_eq _
  rw[visE]at he
  split at he
  ·cases he
  ·rename_i s1 h1
   have:=hP _ _ _ _ h1
   have:=N8 k _ _ _ he
   omega
theorem N8: ∀(l:List aB) (d:Int) (s s':S),Du step l d s=some s'->pot s'<=pot s+wtL aB.wt l
 |[],d,s,s',he=>by rw[Du]at he;cases he;omega
 | x::r,d,s,s',he=>by
  rw[Du]at he
  rw[wtL]
  split at he
  ·cases he
  ·rename_i s1 h1
   have:=M4 x _ _ _ h1
   have:=N8 r _ _ _ he
   omega
end
end
theorem Ry{S:Type}(l i:Nat)(Good:Sig->S->Prop)(Bad:Sig->Prop)(touch:Nat->Prop)(step:Int->aB->S->Option S)(pot:S->Nat)(B:Nat)(hP:∀d x s s',step d x s=some s'->pot s'<=pot s+1)(g8:¬touch i)
  (hy:∀(d:Int) (x:aB) V s,1<=d->d<=2147483648->x.wt<=1073741824->pot s<B->Good V s->DYield prog l [dI d,pE x] V (OutO unf2 (.bool true) Good Bad touch V (step d x s))) :
  ∀(n:Nat) (x:aB) (d:Int) V s,x.wt<=n->n<=1073741824->1<=d->d+n<=2147483648->pot s+x.wt<=B->Good V s->V i=some (.cells [.func (.func 279) [] [.am [.yld l] 0,.ptr i 0]])->
   au prog 279 [pE x,dI d,.am [.yld l] 0,.ptr i 0] V (OutO unf2 (.bool true) Good Bad touch V (visE step x d s)):=by
 intro n
 induction n with
 |zero=>
  intro x d V s hx
  have:=x.wt_pos
  omega
 | succ n ih =>
  intro x d V s hx hn hd gA hB hG hi
  have jr:=aB.wt_eq x
  have f6:pE x=.iface 308 (.agg (Al x)):=rfl
  refine en func279 ntmps279 ?_
  refine gz ?_
  refine yldW (hy d x V s hd (by omega) (by omega) (by omega) hG) (fun e S' hr=>?_) (fun e S' hr=>?_)
  ·obtain⟨s',d8,rfl,gr,hK⟩:=hr.ret
   have jC:=hK i _ hi g8
   have jz:=hP _ _ _ _ d8
   rw[M5,d8]
   simp only
   have fQ:∀(k:Nat) (h:k<x.ah.length),(x.ah[k]).wt<x.wt:=by have:=x.wt_le;grind
   have e8:x.ah.length<=1073741824:=by have:=x.wt_le;omega
   refine gz ?_
   refine invW TG (O5 x S' (by omega)) (fun e S2 hr=>?_) (fun e S2 hr=>by cases hr.1) (hx:=by exact f6)
   obtain⟨h1,h2⟩:=hr
   simp only[DE.ret.injEq]at h1
   subst h1
   rw[h2]
   clear h2 S2
   refine gz ?_
   refine CK [1,3,15,16] (fun (j:Nat) (s1:S) (S1:Sig)=>j<=x.ah.length/\pot s1+wtL aB.wt (x.ah.drop j)<=B/\Good S1 s1/\Du step x.ah (d+1) s'=Du step (x.ah.drop j) (d+1) s1/\(∀j o,V j=some o->¬touch j->S1 j=some o)) (fun j _ _=>[(17,dI j)]) (fun _ _ S1=>S1) (fun j _ _=>x.ah.length-j) (0) (s') (S') (by exact⟨by omega,by rw[dO];omega,gr,rfl,hK⟩) (fun j s1 S1 hI=>?_)
   obtain⟨hj,iO,d6,hR,g6⟩:=hI
   have fR:=g6 i _ hi g8
   by_cases gH:j<x.ah.length
   ·rw[A2 gH,Du]at hR
    rw[A2 gH,wtL]at iO
    refine gf fR ?_
    refine Ac (ih x.ah[j] (d+1) S1 s1 (by have:=fQ j gH;omega) (by omega) (by omega) (by omega) (by omega) d6 fR) (fun e S2 hr=>?_) (fun e S2 hr=>?_)
    ·obtain⟨s2,gk,rfl,e9,jm⟩:=hr.ret
     have jy:=M4 step pot hP _ _ _ _ gk
     rw[gk]at hR
     refine gz ?_
     exact⟨j+1,s2,S2,⟨by omega,by omega,e9,hR,fun j o h1 h2=>jm _ _ (g6 _ _ h1 h2) h2⟩,td1,wkR⟩
    ·obtain⟨hn,rfl,hb⟩:=hr.pan
     rw[hn]at hR;rw[hR]
     exact finP (S':=S2) ⟨rfl,hb⟩
   ·rw[A1 gH,Du]at hR
    rw[hR]
    refine gz ?_
    refine fin1 (S':=S1) ?_
    exact⟨rfl,d6,g6⟩
  ·obtain⟨d8,rfl,hb⟩:=hr.pan
   rw[M5,d8]
   exact finP (S':=S') ⟨rfl,hb⟩
theorem Rz{S:Type}(l:Nat)(Good:Sig->S->Prop)(Bad:Sig->Prop)(touch:Nat->Prop)(step:Int->aB->S->Option S)(pot:S->Nat)(B:Nat)(hP:∀d x s s',step d x s=some s'->pot s'<=pot s+1)
  (hy:∀(d:Int) (x:aB) V s,1<=d->d<=2147483648->x.wt<=1073741824->pot s<B->Good V s->DYield prog l [dI d,pE x] V (OutO unf2 (.bool true) Good Bad touch V (step d x s)))
  (hm : ∀ V s a o,Good V s->V a=none->Good (V.set a o) s) (x:aB) (V:Sig) (s:S) (ht : ∀ a,V a=none -> ¬ touch a) (hx:x.wt<=1073741824) (hB:pot s+x.wt<=B) (hG:Good V s) :
   au prog 278 [.yld l,.am [pE x] 0] V (OutO unf2 (.tup []) Good Bad touch V (visE step x 1 s)):=by
 refine en func278 ntmps278 ?_
 refine gz ?_ [] [3]
 refine newV (fun a ha=>?_)
 refine gz ?_ [] [3]
 refine Ac (Ry l a Good Bad touch step pot B hP (ht a ha) hy x.wt x 1 (V.set a _) s (bm _) hx (by omega) (by omega) hB (hm _ _ _ _ hG ha) (w7 ..)) (fun e S' hr=>?_) (fun e S' hr=>?_)
 ·obtain⟨s',hs',rfl,gr,hK⟩:=hr.ret
  rw[hs']
  refine gz ?_ [] [3]
  refine Ef (S':=S') ?_
  exact⟨rfl,gr,fun j o h1 h2=>hK j o (by rw[w8 _ _ fun e=>by rw[e,ha]at h1;cases h1];exact h1) h2⟩
 ·obtain⟨hn,rfl,hb⟩:=hr.pan
  rw[hn]
  exact finP (S':=S') ⟨rfl,hb⟩
theorem RC{S:Type}(l:Nat)(Good:Sig->S->Prop)(touch tp:Nat->Prop)(step:aB->S->Option S)(e:aB)(V:Sig)(s0:S)(pot:S->Nat)(B:Nat)(hP:∀x s s',step x s=some s'->pot s'<=pot s+1)(hB:pot s0+e.wt<=B)(hw:e.wt<=1073741824)
  (hy:∀(x:aB) V s,x.wt<=1073741824->pot s<B->Good V s->DYield prog l [.agg (Al x)] V (OutO unf2 (.bool true) Good (Keep tp V) touch V (step x s)))
  (hi:Indep Good V) (hf:PI Good) (h0:Good V s0) (ht:∀j,touch j->tp j) (gu:∀j,V j=none->¬tp j) :
  au prog 275 [.yld l,.am (Al e) 0] V (OutO unf2 (.tup []) Good (Keep tp V) touch V (visE (fun _ x s=>step x s) e 1 s0)):=by
 refine Bj func275 rfl (by decide) ntmps275 (by simp) ?_
 try refine gz ?_
 refine Jq unf2 Good touch tp (visE (fun _ x s=>step x s) e 1 s0) s0 hi hf h0 (fun j hj hn=>gu j hn (ht j hj)) (fun j hj hn=>gu j hn hj) rfl (fun l2 did LO SL d7 hd hl fM gg hG fP=>?_) (fun did s' S' ho fO d9 hG hk=>?_) (fun did S' ho fO d9 hk=>?_)
 ·have f9:Indep Good (V.set did .defs):=hi.older fun j hj=>by
   by_cases e:j=did
   ·rw[e];exact hd
   ·rw[w8 _ _ e]at hj;exact hj
  refine Rz l2 _ _ touch (fun _ x s=>step x s) pot B (fun d x s s' h=>hP x s s' h) (fun d x S1 s gJ gA hx iv d6=>?_) (fun V s a o h ha=>h.new hf ha) e SL s0 fP hw hB hG
  refine Ez d7 d6.1 ?_
  try refine gz ?_
  refine⟨d6.1,?_⟩
  have gb:=d6.busy d7 f9 hl
  have f6:pE x=.iface 308 (.agg (Al x)):=rfl
  try refine gf f6 ?_
  refine yldWG (hy x _ s hx iv gb) (fun e S2 hr=>?_) (fun e S2 hr=>?_)
  ·obtain⟨s2,gk,rfl,e9,hK⟩:=hr.ret
   try refine gz ?_
   exact Id gk d7 f9 d6 fM hl e9 hK
  ·obtain⟨hn,rfl,gZ⟩:=hr.pan
   try refine gz ?_
   exact KI hn (d6.bad hl ht gZ)
 ·rw[ho]
  try refine gz ?_
  refine O1 [did] (S':=S'.del did) (d':=.tup []) ⟨rfl,hi did fO _ _ _ hG ⟨_,d9,rfl⟩ (fun j hj=>by simp only[Sig.del,hj,bd]),fun j x hj hn=>?_⟩ (Sub.refl _) (hd:=by simp[d9]) (hw:=A9 _)
  obtain⟨h1,h2⟩:=hk j x hj hn
  simp only[Sig.del,h2,bd];exact h1
 ·rw[ho]
  try refine gz ?_
  refine JZ [did] (S':=S'.del did) ⟨rfl,fun j x hj hn=>?_⟩ (Sub.refl _) (hd:=by simp[d9])
  obtain⟨h1,h2⟩:=hk j x hj hn
  simp only[Sig.del,h2,bd];exact h1
def stepG(x:aB)(s:GenT):Option GenT:=some (if x.op=5 then seeG x.text x.ah.length s else s)
mutual
def genE:aB->GenT->GenT
 |.mk o _ t k,s=>CM k (if o=5 then seeG t k.length s else s)
def CM:List aB->GenT->GenT
 |[],s=>s
 |x::r,s=>CM r (genE x s)
end
mutual
theorem IG: ∀(e:aB) (d:Int) (s:GenT),visE (fun _ x s=>stepG x s) e d s=some (genE e s)
 |.mk o n t k,d,s=>by rw[visE,genE];exact Na k _ _
theorem Na: ∀(l:List aB) (d:Int) (s:GenT),Du (fun _ x s=>stepG x s) l d s=some (CM l s)
 |[],d,s=>by rw[Du,CM]
 |x::r,d,s=>by rw[Du,IG x,CM];exact Na r _ _
end
theorem Hk(name:Str)(n:Int)(s:GenT):(seeG name n s).1.length<=s.1.length+1:=by
 unfold seeG;split<;>simp
theorem Ng(x:aB)(s s':GenT)(h:stepG x s=some s'):s'.1.length<=s.1.length+1:=by
 unfold stepG at h
 cases h
 split
 ·exact Hk ..
 ·omega
theorem Qp(e:aB)(s:GenT):(genE e s).1.length<=s.1.length+e.wt:=
 M4 (fun _ x s=>stepG x s) (fun s=>s.1.length) (fun _ x s s' h=>Ng x s s' h) e 1 s _ (IG e 1 s)
def metG:List aE->GenT->GenT
 |[],s=>s
 |m::r,s=>metG r (seeG m.name m.params.length s)
def BN(f:aF):List aB:=f.methods.map (·.body)++[f.main]
def BM(f:aF):GenT:=CM (BN f) (metG f.methods ([],true))
theorem Kn(f:aF):f.methods.length+wtL aB.wt (BN f)<=f.wt:=by
 have h:∀l:List aE,l.length+wtL aB.wt (l.map (·.body))<=wtL aE.wt l:=by
  intro l
  induction l with
  |nil=>simp[wtL]
  |cons m l ih=>simp only[aP,ba,wtL,aE.wt];omega
 have:=h f.methods
 unfold BN aF.wt
 rw[GI];simp only[wtL];omega
theorem finMC{n:Nat}{fn:Func}{R:DE->Sig->Prop}{γ:Fr}{V S':Sig}{ds:fE}{d':D}(js:fG)(hR:R (.ret d') S')(hZ:Sub S' (dels js V))(hn:js.Nodup)(hd:∀j∈js,V j=some .defs)(h:resL tab (dels js V) γ fn.results.toList=some ds)(hw:WkD (KU ds) d'): ∃s',Wk prog n ⟨γ,V,js.map .coll⟩ s'/\SK prog n fn (Weak R) .ret s':=
 ⟨_,Wk.refl _ _ _,js,rfl,hn,hd,KU ds,Do Af h,.ret d',S',hw,hZ,hR⟩
theorem Lx(f:aF)(V:Sig)(hw:f.wt<=100000000):au prog 191 [.agg (Bd f)] V (rS (.tup [sl (cS ((BM f).1.map (·.1))),.any,.bool (BM f).2]) V):=by
 obtain⟨p1,p2,p3,p4,p5⟩:=f.wt_le
 have jF:=Kn f
 refine Bj func191 rfl (by decide) ntmps191 (by simp) ?_
 try refine gz ?_ o191 [2,3,4]
 refine newV (fun il gW=>?_)
 try refine gz ?_ o191 [2,3,4]
 refine newV (fun im gV=>?_)
 try refine gz ?_ o191 [2,3,4]
 refine newV (fun ib jd=>?_)
 try refine gz ?_ o191 [2,3,4]
 refine Tn (fun mp iQ=>?_)
 obtain⟨a1,b1⟩:=A4 gV
 obtain⟨a2,b2⟩:=A4 jd
 obtain⟨a3,b3⟩:=A4 b2
 obtain⟨a4,b4⟩:=A4 iQ
 obtain⟨a5,b5⟩:=A4 b4
 obtain⟨a6,b6⟩:=A4 b5
 have c1:=a1.symm
 have c2:=a2.symm
 have c3:=a3.symm
 have c4:=a4.symm
 have c5:=a5.symm
 have c6:=a6.symm
 try refine gz ?_ o191 [2,3,4]
 generalize go:Sig.set (Sig.set _ im _) ib _=S6
 have o1:S6 il=some (.cells [.ak]):=by rw[<-go];simp[w8 _ _ c1,w8 _ _ c3,w8 _ _ c6]
 have o2:S6 im=some (.cells [.map mp]):=by rw[<-go];simp[w8 _ _ c2]
 have o3:S6 ib=some (.cells [.bool true]):=by rw[<-go];simp
 have o4:S6 mp=some (.map (eSN [])):=by rw[<-go];simp[w8 _ _ a4,w8 _ _ a5]
 have iC:Sub V S6:=fun j x hj=>by
  have e1:j≠il:=A0 hj gW
  have e2:j≠im:=A0 hj b1
  have e3:j≠ib:=A0 hj b3
  have e4:j≠mp:=A0 hj b6
  rw[<-go]
  simp only[w8 _ _ e1,w8 _ _ e2,w8 _ _ e3,w8 _ _ e4]
  exact hj
 clear go
 refine Ak il 0 1 (ds:=[.ak]) o1 rfl (fun it fJ=>?_)
 have t1:il≠it:=A0 o1 fJ
 have t2:im≠it:=A0 o2 fJ
 have t3:ib≠it:=A0 o3 fJ
 have t4:mp≠it:=A0 o4 fJ
 generalize gK:Sig.set (Sig.set _ it _) il _=S7
 have jo:GenS mp ib il it S7 ([],true):=by
  rw[<-gK]
  exact⟨by simp[w8 _ _ a6,w8 _ _ t4];exact o4,by simp[w8 _ _ a3,w8 _ _ t3];exact o3,by simp[cS],by simp[w8 _ _ (aQ t1)]⟩
 have iU:S7 im=some (.cells [.map mp]):=by rw[<-gK];simp[w8 _ _ a1,w8 _ _ t2];exact o2
 have hz:∀j,S6 j=none->V j=none:=fun j hj=>by
  cases h:V j with
  |none=>rfl
  |some o=>rw[iC _ _ h]at hj;cases hj
 have jk:Sub V S7:=fun j x hj=>by
  have e1:j≠il:=A0 hj gW
  have e2:j≠it:=fun e=>by rw[e,hz _ fJ]at hj;cases hj
  rw[<-gK,w8 _ _ e1,w8 _ _ e2]
  exact iC _ _ hj
 clear gK
 have g9:∀j,tG mp ib il it j->V j=none:=fun j hj=>by
  rcases hj with rfl|rfl|rfl|rfl
  ·exact b6
  ·exact b3
  ·exact gW
  ·exact hz _ fJ
 have gx:¬tG mp ib il it im:=fun h=>by
  rcases h with h|h|h|h
  ·exact c5 h
  ·exact c2 h
  ·exact a1 h
  ·exact t2 h
 refine Ro [1,2,3,4,5,10,11,16,17,35,36,37,38,39,40,41,42,43,44,45,46,47,48,49,50,51,52,53,54,55,56,57,58,59,60,61] (fun (k:Nat) (out:List aB) (o:Own) (s:GenT) (S1:Sig)=>k<=f.methods.length/\out=(f.methods.take k).map (·.body)/\(o=.clip \/ ∃i,o=.tag i/\S1 i=some (.tail 4 out.length)/\V i=none /\ ¬tG mp ib il it i)/\s.1.length<=k/\metG f.methods ([],true)=metG (f.methods.drop k) s/\GenS mp ib il it S1 s/\S1 im=some (.cells [.map mp])/\Sub V S1) (fun k out o _ _=>[(18,dI k),(6,.slice (out.map Al) o)]) (fun _ _ _ _ S1=>S1) (fun k _ _ _ _=>f.methods.length-k) (0) ([]) (.clip) (_) (S7) (by exact⟨by omega,rfl,.inl rfl,bm _,rfl,jo,iU,jk⟩) (fun k out o s S1 hI=>?_)
 obtain⟨hk,fU,ho,jx,hR,hG,hm,hS⟩:=hI
 have iy:out.length=k:=by rw[fU];simp;omega
 by_cases e8:k<f.methods.length
 ·rw[A2 e8,metG]at hR
  have iJ:=p5 k e8
  have jw:f.methods[k].params.length<=1073741824/\f.methods[k].name.length<=1073741824:=by have:=iJ;unfold aE.wt at this;have:=Bb f.methods[k].params;omega
  have iB:out++[(f.methods[k]).body]=(f.methods.take (k+1)).map (·.body):=by rw[fU,AH e8,bI];rfl
  try refine gz ?_ o191 [2,3,4]
  refine Ac (Lq f.methods[k].name f.methods[k].params.length im mp ib il it s S1 (by omega) hm hG c3.symm) (fun x S2 hr=>?_) (fun x S2 hr=>by cases hr.1)
  obtain⟨e1,e9,hK⟩:=hr
  cases e1
  have fY:S2 im=some (.cells [.map mp]):=hK _ _ hm gx
  have gh:Sub V S2:=fun j x hj=>hK _ _ (hS _ _ hj) fun ht=>by rw[g9 j ht]at hj;cases hj
  have iL:=Hk f.methods[k].name f.methods[k].params.length s
  rcases ho with rfl|⟨i,rfl,fR,gc,fJ⟩
  ·try refine gz ?_ o191 [2,3,4]
   refine appC (fun j hj=>?_)
   try refine gz ?_ o191 [2,3,4]
   have jc:V j=none:=gh.none hj
   have gw:¬tG mp ib il it j:=fun ht=>by
    rcases ht with rfl|rfl|rfl|rfl
    ·rw[e9.om]at hj;cases hj
    ·rw[e9.ob]at hj;cases hj
    ·rw[e9.ol]at hj;cases hj
    ·rw[e9.ot]at hj;cases hj
   have f0:GenS mp ib il it (S2.set j (.tail 4 (out++[(f.methods[k]).body]).length)) (seeG f.methods[k].name f.methods[k].params.length s):=
    ⟨by rw[w8 _ _ fun e=>gw (.inl e.symm)];exact e9.om,by rw[w8 _ _ fun e=>gw (.inr (.inl e.symm))];exact e9.ob,by rw[w8 _ _ fun e=>gw (.inr (.inr (.inl e.symm)))];exact e9.ol,by rw[w8 _ _ fun e=>gw (.inr (.inr (.inr e.symm)))];exact e9.ot⟩
   have gR:(S2.set j (.tail 4 (out++[(f.methods[k]).body]).length)) im=some (.cells [.map mp]):=by rw[w8 _ _ (A0 fY hj)];exact fY
   have e7:Sub (S2.set j (.tail 4 (out++[(f.methods[k]).body]).length)) (S2.set j (.tail (tab 40).size ((out.map Al).length+[Al (f.methods[k]).body].length))):=by simp;exact Sub.refl _
   exact⟨k+1,out++[(f.methods[k]).body],.tag j,_,S2.set j (.tail 4 (out++[(f.methods[k]).body]).length),⟨by omega,iB,.inr ⟨j,rfl,w7 .., jc,gw⟩,by omega,hR,f0,gR,gh.trans ((Sub.refl _).set hj)⟩,td1,wkR⟩
  ·have f9:=hK _ _ fR fJ
   try refine gf f9 ?_ o191 [2,3,4]
   have f0:GenS mp ib il it (S2.set i (.tail 4 (out++[(f.methods[k]).body]).length)) (seeG f.methods[k].name f.methods[k].params.length s):=
    ⟨by rw[w8 _ _ fun e=>fJ (.inl e.symm)];exact e9.om,by rw[w8 _ _ fun e=>fJ (.inr (.inl e.symm))];exact e9.ob,by rw[w8 _ _ fun e=>fJ (.inr (.inr (.inl e.symm)))];exact e9.ol,by rw[w8 _ _ fun e=>fJ (.inr (.inr (.inr e.symm)))];exact e9.ot⟩
   have gR:(S2.set i (.tail 4 (out++[(f.methods[k]).body]).length)) im=some (.cells [.map mp]):=by rw[w8 _ _ (A7 fY f9 (by simp))];exact fY
   have e7:Sub (S2.set i (.tail 4 (out++[(f.methods[k]).body]).length)) (S2.set i (.tail 4 (out.length+1))):=by simp;exact Sub.refl _
   exact⟨k+1,out++[(f.methods[k]).body],.tag i,_,S2.set i (.tail 4 (out++[(f.methods[k]).body]).length),⟨by omega,iB,.inr ⟨i,rfl,w7 .., gc,fJ⟩,by omega,hR,f0,gR,gh.set gc⟩,td1,wkR⟩
 ·have iZ:k=f.methods.length:=by omega
  subst iZ
  rw[A1 e8,metG]at hR
  rw[dr]at fU
  have gX:BM f=CM (out++[f.main]) s:=by unfold BM BN;rw[hR,fU]
  have gn:out++[f.main]=BN f:=by unfold BN;rw[fU]
  have iX:(BN f).length<=f.wt:=by rw[<-gn,aH,iy];simp;omega
  rw[gn]at gX
  clear hR
  obtain⟨Sc,jn,iR,ji,gB⟩:∃Sc,GenS mp ib il it Sc s/\Sc im=some (.cells [.map mp])/\Sub V Sc/\(o=.clip/\Sub Sc S1 \/ ∃i,o=.tag i/\S1 i=some (.tail 4 out.length) /\ ∀x,Sub Sc (S1.set i x)):=by
   rcases ho with rfl|⟨i,rfl,fR,gc,fJ⟩
   ·exact⟨S1,hG,hm,hS,.inl ⟨rfl,Sub.refl _⟩⟩
   ·have e:∀j,j≠i->(S1.del i) j=S1 j:=fun j hj=>by simp only[Sig.del,hj,bd]
    refine⟨S1.del i,⟨?_,?_,?_,?_⟩,?_,fun j x hj=>?_,.inr ⟨i,rfl,fR,fun x j y hj=>?_⟩⟩
    ·rw[e _ fun e=>fJ (.inl e.symm)];exact hG.om
    ·rw[e _ fun e=>fJ (.inr (.inl e.symm))];exact hG.ob
    ·rw[e _ fun e=>fJ (.inr (.inr (.inl e.symm)))];exact hG.ol
    ·rw[e _ fun e=>fJ (.inr (.inr (.inr e.symm)))];exact hG.ot
    ·rw[e _ (A7 hm fR (by simp))];exact hm
    ·rw[e _ fun e=>by rw[e,gc]at hj;cases hj];exact hS _ _ hj
    ·by_cases h:j=i
     ·simp only[Sig.del,h,bp]at hj;cases hj
     ·rw[e _ h]at hj;rw[w8 _ _ h];exact hj
  clear ho
  repeat ((fail_if_success (first|(refine dwp_cut1 (b:=.block 2 _) [(39,sl ((BN f).map Al)),(40,dI (BN f).length),(41,dI 0)] Sc ?_ (fun _ hK=>?_))|fail));(refine goX1 trivial ?_))
  refine dwp_cut1 (b:=.block 2 _) [(39,sl ((BN f).map Al)),(40,dI (BN f).length),(41,dI 0)] Sc ?_ (fun _ hK=>?_)
  ·have iM:0<=(BN f).length:=eR _
   generalize jD:BN f=es at*
   try refine gz ?_ o191 [2,3,4]
   refine loopD4 [2,3,4,5,39,40,47,59,60,61] (fun (q:Nat) (s1:GenT) (S2:Sig) (js:fG)=>q<=es.length/\s1.1.length+wtL aB.wt (es.drop q)<=100000000/\CM es s=CM (es.drop q) s1/\GenS mp ib il it S2 s1/\S2 im=some (.cells [.map mp])/\Sub V S2/\js.Nodup/\(∀j∈js,V j=none/\S2 j=some .defs)) (fun q _ _ _=>[(41,dI q)]) (fun _ _ S2 _=>S2) (fun _ _ _ js=>js.map .coll) (fun q _ _ _=>es.length-q) (0) (s) (Sc) ([]) (by exact⟨by omega,by rw[dO];omega,rfl,jn,iR,ji,by simp,by simp⟩) (fun q s1 S2 js hI=>?_)
   obtain⟨hq,hB,hR,e9,fY,gh,iz,f7⟩:=hI
   by_cases ij:q<es.length
   ·rw [A2 ij] at hB hR
    rw[wtL]at hB
    rw[CM]at hR
    have jv:es[q].wt<=100000000:=by omega
    have gj:MonoG (fun (V:Sig) (s:GenT)=>GenS mp ib il it V s/\V im=some (.cells [.map mp])):=fun V S' s ⟨⟨g1,g2,g3,g4⟩,g5⟩ hj=>⟨⟨hj _ _ g1 rfl,hj _ _ g2 rfl,hj _ _ g3 rfl,hj _ _ g4 rfl⟩,hj _ _ g5 rfl⟩
    have gE:∀j,tG mp ib il it j->S2 j≠none/\S2 j≠some .defs:=fun j hj=>by
     rcases hj with rfl|rfl|rfl|rfl
     ·rw[e9.om];simp
     ·rw[e9.ob];simp
     ·rw[e9.ol];simp
     ·rw[e9.ot];simp
    have jB:=Qp es[q] s1
    repeat' first|refine gz ?_ [] [2,3,4]|refine Aq (K5 es[q] S2) ?_|refine callP (K5 es[q] S2) ?_|refine gz ?_ o191 [2,3,4]|apply gy<;>intro hh
    refine Jq unf2 (fun (V:Sig) (s:GenT)=>GenS mp ib il it V s/\V im=some (.cells [.map mp])) (tG mp ib il it) (tG mp ib il it) (some (genE es[q] s1)) s1 (gj.indep _) gj.fresh ⟨e9,fY⟩ (fun j hj=>(gE j hj).1) (fun j hj=>(gE j hj).1) rfl (fun l did LO SL d7 hd hl fM gg g7 fP=>?_) (fun did s' S' ho fO d9 gr hk=>?_) (fun did S' ho fO d9 hk=>by cases ho)
    ·rw[<-IG es[q] 1 s1]
     refine(RC l _ (tG mp ib il it) (fun j=>tG mp ib il it j\/j=l) stepG es[q] SL s1 (fun s=>s.1.length) 100000000 Ng (by omega) (by omega) (fun x S3 s hx iv f0=>?_) (g7.indep (gj.indep _)) (fun V s a o h ha=>h.new gj.fresh ha) g7 (fun j h=>.inl h) (fun j hj h=>?_)).mono (fun x S' hx=>by rw[IG]at hx⊢; exact hx)
     ·have gb:=f0.busy d7 (gj.indep _) hl
      obtain⟨gb,gQ⟩:=gb
      refine Ez d7 f0.1 ?_
      try refine gz ?_ o191 [2,3,4]
      refine⟨f0.1,?_⟩
      by_cases h5:x.op=5
      ·have d8:stepG x s=some (seeG x.text x.ah.length s):=by unfold stepG;rw[aS h5]
       have jq:x.ah.length<=1073741824:=by have:=x.wt_le;omega
       try refine gf h5 ?_ o191 [2,3,4]
       refine Ac (Lq x.text x.ah.length im mp ib il it s _ (by omega) gQ gb c3.symm) (fun x S4 hr=>?_) (fun x S4 hr=>by cases hr.1)
       obtain⟨e1,jp,iF⟩:=hr
       cases e1
       try refine gz ?_ o191 [2,3,4]
       exact Id d8 d7 (gj.indep _) f0 fM hl ⟨jp,iF _ _ gQ gx⟩ iF
      ·have d8:stepG x s=some s:=by unfold stepG;rw[aN h5]
       try refine gf h5 ?_ o191 [2,3,4]
       exact Id d8 d7 (gj.indep _) f0 fM hl ⟨gb,gQ⟩ (Keep.refl _ _)
     ·rcases h with h|h
      ·exact fP j hj h
      ·rw[h,g7.1]at hj;cases hj
    ·cases ho
     try refine gz ?_ o191 [2,3,4]
     have jb:Sub V S':=fun j x hj=>(hk j x (gh _ _ hj) fun ht=>by rw[g9 j ht]at hj;cases hj).1
     have ja:(did::js).Nodup:=cP.2 ⟨fun hm=>(hk did _ (f7 did hm).2 fun ht=>(gE did ht).2 (f7 did hm).2).2 rfl,iz⟩
     have i0:∀j∈did::js,V j=none/\S' j=some .defs:=fun j hj=>by
      rcases aY.1 hj with rfl|hj
      ·exact⟨gh.none fO,d9⟩
      ·exact⟨(f7 j hj).1,(hk j _ (f7 j hj).2 fun ht=>(gE j ht).2 (f7 j hj).2).1⟩
     exact⟨q+1,genE es[q] s1,S',did::js,⟨by omega,by omega,hR,gr.1,gr.2,jb,ja,i0⟩,td1,wkR⟩
   ·rw[A1 ij,CM]at hR
    obtain⟨z1,z2,z3,z4⟩:=e9
    have y1:S2.set il (.cells [.slice (cS (s1.1.map (·.1))) (.tag it)])=S2:=Sig.set_self _ z3
    have y2:S2.set im (.cells [.map mp])=S2:=Sig.set_self _ fY
    have y3:S2.set ib (.cells [.bool s1.2])=S2:=Sig.set_self _ z2
    have s3:Sub S2 (S2.set il (.cells [.slice (cS (s1.1.map (·.1))) (.tag it)])):=by rw[y1];exact Sub.refl _
    have s4:Sub S2 ((S2.set il (.cells [.slice (cS (s1.1.map (·.1))) (.tag it)])).set im (.cells [.map mp])):=by rw[y1,y2];exact Sub.refl _
    have s5:Sub S2 (((S2.set il (.cells [.slice (cS (s1.1.map (·.1))) (.tag it)])).set im (.cells [.map mp])).set ib (.cells [.bool s1.2])):=by rw[y1,y2,y3];exact Sub.refl _
    try refine gf (gi z1 (gi z2 (gi z3 fY))) ?_ o191 [2,3,4]
    rw[y1,y2,y3]
    have u1:∀j o,S2 j=some o->o≠.defs->(dels js S2) j=some o:=fun j o hj ho=>by
     rw[Kg js S2 j fun hm=>ho (by have:=(f7 j hm).2;rw[hj]at this;cases this;rfl)];exact hj
    have v1:=u1 _ _ z3 (by simp)
    have v2:=u1 _ _ fY (by simp)
    have v3:=u1 _ _ z2 (by simp)
    rw[hR]at gX
    subst gX
    refine finMC js (S':=V) (ds:=[.slice (cS ((BM f).1.map (·.1))) (.tag it),.map mp,.bool (BM f).2]) ⟨rfl,rfl⟩ (Wt gh fun j hj=>(f7 j hj).1) iz (fun j hj=>(f7 j hj).2) (by simp[resL,v1,v2,v3]) ?_
    exact GK ⟨Ao _ _,Es _,A9 _,trivial⟩
  ·rcases gB with⟨rfl,gB⟩|⟨i,rfl,fR,gB⟩
   ·try refine gz ?_ o191 [2,3,4]
    refine appC (fun j hj=>?_)
    try refine gz ?_ o191 [2,3,4]
    exact dwp_wk (Ae (by first|(simp[<-gn];done)|(simp_all [<-gn];done)) (gB.trans ((Sub.refl _).set hj))) hK
   ·try refine gf fR ?_ o191 [2,3,4]
    exact dwp_wk (Ae (by first|(simp[<-gn];done)|(simp_all [<-gn];done)) (gB _)) hK
mutual
theorem PQ{S:Type}{step:Int->aB->S->Option S}(Q:S->Prop)(h:∀d x s s',step d x s=some s'->Q s->Q s'): ∀(x:aB) (d:Int) (s s':S),Q s->visE step x d s=some s'->Q s'
 | .mk o n t k,d,s,s',hp,he=>by
  rw[visE]at he
  split at he
  ·cases he
  ·rename_i s1 h1
   exact N9 Q h k _ _ _ (h _ _ _ _ h1 hp) he
theorem N9{S:Type}{step:Int->aB->S->Option S}(Q:S->Prop)(h:∀d x s s',step d x s=some s'->Q s->Q s'): ∀(l:List aB) (d:Int) (s s':S),Q s->Du step l d s=some s'->Q s'
 |[],d,s,s',hp,he=>by rw[Du]at he;cases he;exact hp
 | x::r,d,s,s',hp,he=>by
  rw[Du]at he
  split at he
  ·cases he
  ·rename_i s1 h1
   exact N9 Q h r _ _ _ (PQ Q h x _ _ _ hp h1) he
end
theorem Qg{most:Int}{e:aB}{k:Int}(hm:0<=most)(h:IC most e=some k):0<=k/\k<=most:=
 PQ (fun n=>0<=n/\n<=most) (fun d x s s' hs hq=>by unfold Gz at hs;split at hs<;>cases hs;omega) e 1 0 k ⟨dC _,hm⟩ h
def nodK(names ae:fD)(lits:Bool)(x:aB):Bool:=
 if x.op=4\/x.op=7 then decide (x.text∈ae) else if x.op=6\/x.op=8 then decide (x.text∈names) else if x.op=18 then lits else true
def DO(names ae:fD)(lits:Bool)(x:aB)(_:Unit):Option Unit:=if nodK names ae lits x then some () else none
def allK(names ae:fD)(lits:Bool)(e:aB):Option Unit:=visE (fun _ x s=>DO names ae lits x s) e 1 ()
def C7(names ae args:fD)(lits:Bool)(e:aB)(n:Int):Option Int:=match IC 120 e with
 |none=>none
 |some k=>if n+k<=120/\allK names ae lits e=some ()/\(∀s∈freeE e [] [],s∈args) then some (n+k) else none
def KnR(f:aF)(ip ic is:Nat)(d:D)(o:Option Int)(V:Sig)(x:DE)(S':Sig):Prop:=match o with
 |some m=>x=.ret (.tup [])/\S'=V.set ip (pObj f ic is d m)
 |none=>x=.panic unf2 /\ ∃m,S'=V.set ip (pObj f ic is d m)
theorem Ly(f:aF)(ip ic is:Nat)(d:D)(n:Int)(names ae:fD)(e:aB)(args:fD)(lits:Bool)(V:Sig)(hw:e.wt<=1073741824)(ha:args.length<=1073741824)(hn:0<=n/\n<=1000000)
  (h1:V ip=some (pObj f ic is d n)) (h2:V ic=some (.map (eSN (C4 names 0)))) (h3:V is=some (.map (eSS ae))) :
  au prog 187 [.ptr ip 0,.agg (Al e),sl (cS args),.bool lits] V (KnR f ip ic is d (C7 names ae args lits e n) V):=by
 have gN:ip≠ic:=A7 h1 h2 (by simp)
 have gM:ip≠is:=A7 h1 h3 (by simp)
 obtain⟨gP,gO⟩:=hn
 refine Bj func187 rfl (by decide) ntmps187 (by simp) ?_
 cases fK:IC 120 e with
 |none=>
  have hB:C7 names ae args lits e n=none:=by unfold C7;rw[fK]
  have gL:(IC 120 e).isSome=false:=by rw[fK];rfl
  rw[hB]
  repeat' first|(exact fun _=>JZ [] (S':=V.set ip (pObj f ic is d n)) ⟨rfl,n,rfl⟩ (by rw[Sig.set_self _ h1];exact Sub.refl _))|refine gf (gi h1 fK) ?_ o187|apply gy<;>intro hh
 | some k =>
  have hk:=Qg (by omega) fK
  have gL:(IC 120 e).isSome=true:=by rw[fK];rfl
  by_cases gv:n+k<=120
  ·try refine gf (gi h1 fK) ?_ o187
   generalize fZ:V.set ip _=SA
   have o1:SA ip=some (pObj f ic is d (n+k)):=by rw[<-fZ,w7]
   have o2:SA ic=some (.map (eSN (C4 names 0))):=by rw[<-fZ,w8 _ _ (aQ gN)];exact h2
   have o3:SA is=some (.map (eSS ae)):=by rw[<-fZ,w8 _ _ (aQ gM)];exact h3
   have fW:SA=V.set ip (pObj f ic is d (n+k)):=fZ.symm
   have hI:∀S0,Indep (fun (_:Sig) (_:Unit)=>True) S0:=fun S0 l _ S1 S2 s _ _ _=>trivial
   have hF:PI (fun (_:Sig) (_:Unit)=>True):=fun V s a o _ _=>trivial
   refine Jq unf2 (fun _ (_:Unit)=>True) (fun _=>False) (fun _=>False) (allK names ae lits e) () (hI _) hF trivial (fun j h=>h.elim) (fun j h=>h.elim) rfl (fun l did LO SL d7 hd hl fM gg hG fP=>?_) (fun did s' S' ho fO d9 hG hk=>?_) (fun did S' ho fO d9 hk=>?_)
   ·have iD:SL l=some LO:=hG.1
    have ga:Indep (fun (_:Sig) (_:Unit)=>True) (SA.set did .defs):=hI _
    refine(RB l _ (fun _=>False) (fun j=>False\/j=l) (DO names ae lits) e SL () hw (fun x S1 u hx d6=>?_) (hG.indep (hI _)) (fun V s a o h ha=>h.new hF ha) hG (fun j h=>h.elim) (fun j hj h=>?_)).mono (fun x S' hx=>hx.bad fun hK j y hj hn=>?_)
    ·have bne:∀{q o},SA q=some o->(SA.set did .defs) q=some o/\q≠l:=fun {q o} hq=>by
      have e1:q≠did:=fun e=>by rw[e,hd]at hq;cases hq
      have e2:(SA.set did .defs) q=some o:=by rw[w8 _ _ e1];exact hq
      exact⟨e2,fun e=>by rw[e,hl]at e2;cases e2⟩
     have qb:∀{q o},SA q=some o->(S1.set l (Ck LO)) q=some o:=fun {q o} hq=>by
      rw[w8 _ _ (bne hq).2];exact d6.2.2 q o (bne hq).1 id
     have r1:=qb o1
     have r2:=qb o2
     have r3:=qb o3
     have fL:=Keep.refl (fun _=>False) (S1.set l (Ck LO))
     refine Ez d7 d6.1 ?_
     try refine gz ?_ o187
     refine⟨d6.1,?_⟩
     generalize fV:S1.set l (Ck LO)=Sb at r1 r2 r3⊢
     rw[fV]at fL
     have fL:Keep (fun _=>False) (S1.set l (Ck LO)) Sb:=by rw[fV];exact fL
     rcases bK (x.op=4)with h4|h4
     ·have fN:nodK names ae lits x=decide (x.text∈ae):=by unfold nodK;rw[h4];simp
      by_cases hm:x.text∈ae
      ·have d8:DO names ae lits x u=some ():=by unfold DO;rw[fN,aX hm];rfl
       try refine gf (gi r1 (gi r3 (gi h4 hm))) ?_ o187
       exact Id d8 d7 ga d6 fM hl trivial fL
      ·have d8:DO names ae lits x u=none:=by unfold DO;rw[fN,aV hm];rfl
       repeat' first|(exact KI d8 (TP fL))|refine gf (gi r1 (gi r3 (gi h4 hm))) ?_ o187|apply gy<;>intro hh
     rcases bK (x.op=7)with h7|h7
     ·have fN:nodK names ae lits x=decide (x.text∈ae):=by unfold nodK;rw[h7];simp
      by_cases hm:x.text∈ae
      ·have d8:DO names ae lits x u=some ():=by unfold DO;rw[fN,aX hm];rfl
       try refine gf (gi r1 (gi r3 (gi h7 hm))) ?_ o187
       exact Id d8 d7 ga d6 fM hl trivial fL
      ·have d8:DO names ae lits x u=none:=by unfold DO;rw[fN,aV hm];rfl
       repeat' first|(exact KI d8 (TP fL))|refine gf (gi r1 (gi r3 (gi h7 hm))) ?_ o187|apply gy<;>intro hh
     rcases bK (x.op=6)with h6|h6
     ·have fN:nodK names ae lits x=decide (x.text∈names):=by unfold nodK;rw[h6];simp
      by_cases hm:x.text∈names
      ·have d8:DO names ae lits x u=some ():=by unfold DO;rw[fN,aX hm];rfl
       try refine gf (gi r1 (gi r2 (gi Fc (gi h6 hm)))) ?_ o187
       exact Id d8 d7 ga d6 fM hl trivial fL
      ·have d8:DO names ae lits x u=none:=by unfold DO;rw[fN,aV hm];rfl
       repeat' first|(exact KI d8 (TP fL))|refine gf (gi r1 (gi r2 (gi Fc (gi h6 hm)))) ?_ o187|apply gy<;>intro hh
     rcases bK (x.op=8)with h8|h8
     ·have fN:nodK names ae lits x=decide (x.text∈names):=by unfold nodK;rw[h8];simp
      by_cases hm:x.text∈names
      ·have d8:DO names ae lits x u=some ():=by unfold DO;rw[fN,aX hm];rfl
       try refine gf (gi r1 (gi r2 (gi Fc (gi h8 hm)))) ?_ o187
       exact Id d8 d7 ga d6 fM hl trivial fL
      ·have d8:DO names ae lits x u=none:=by unfold DO;rw[fN,aV hm];rfl
       repeat' first|(exact KI d8 (TP fL))|refine gf (gi r1 (gi r2 (gi Fc (gi h8 hm)))) ?_ o187|apply gy<;>intro hh
     rcases bK (x.op=18)with gD|gD
     ·have fN:nodK names ae lits x=lits:=by unfold nodK;rw[gD];simp
      cases gF:lits
      ·have d8:DO names ae false x u=none:=by unfold DO;rw[gF]at fN;rw[fN];rfl
       repeat' first|(exact KI d8 (TP fL))|refine gf (gi r1 (gi gD gF)) ?_ o187|apply gy<;>intro hh
      ·have d8:DO names ae true x u=some ():=by unfold DO;rw[gF]at fN;rw[fN];rfl
       try refine gf (gi r1 (gi gD gF)) ?_ o187
       exact Id d8 d7 ga d6 fM hl trivial fL
     ·have fN:nodK names ae lits x=true:=by unfold nodK;rw[aN (by omega),aN (by omega),aN gD]
      have d8:DO names ae lits x u=some ():=by unfold DO;rw[fN];rfl
      try refine gf r1 ?_ o187
      exact Id d8 d7 ga d6 fM hl trivial fL
    ·rcases h with h|h
     ·exact h
     ·rw[h,iD]at hj;cases hj
    ·have e2:j≠l:=fun e=>by rw[e,hl]at hj;cases hj
     exact hK j y (by rw[gg,w8 _ _ e2];exact hj) (by rintro(h|h);exact hn h;exact e2 h)
   ·have ju:(freeE e [] []).length<=(freeE e [] []).length:=bm _
    try refine gz ?_ o187
    refine rng (kt:=9) (et:=4) (l:=eSS (freeE e [] [])) (fun it fJ=>?_) (hx:=by rw[<-SM];with_unfolding_all rfl)
    try refine gz ?_ o187
    have e7:∀{S5:Sig},(∀j x,S' j=some x->S5 j=some x)->Sub (V.set ip (pObj f ic is d (n+k))) (dels [did] S5):=fun {S5} h5=>Gb fun j x hj=>by
     rw[<-fW]at hj
     obtain⟨g1,g2⟩:=hk j x hj id
     exact⟨h5 j x g1,g2⟩
    have je:it≠did:=fun e=>by rw[e,d9]at fJ;cases fJ
    refine CK [2,66] (fun (L:fD) (S5:Sig) (la:Option (D×D))=>((∀x∈freeE e [] [],x∈args) ↔ (∀x∈L,x∈args))/\(∀j x,S' j=some x->S5 j=some x)/\S5 it=some (.iter (eSS L) la)) (fun _ _ _=>[]) (fun _ S5 _=>S5) (fun L _ _=>L.length) (freeE e [] []) (_) (none) (by exact⟨Iff.rfl,fun j x hj=>by rw[w8 _ _ fun e=>by rw[e,fJ]at hj;cases hj];exact hj,w7 ..⟩) (fun L S5 la hI=>?_)
    obtain⟨hL,h5,gT⟩:=hI
    try refine gz ?_ o187
    refine nxt (fun iE=>?_) (fun jj k v iY=>?_) (hi:=gT)
    ·have jl:L=[]:=by unfold eSS eS at iE;simpa using iE
     subst jl
     have hB:C7 names ae args lits e n=some (n+k):=by unfold C7;rw[fK];exact aS ⟨gv,ho,hL.2 (by simp)⟩
     rw[hB]
     try refine gz ?_ o187
     exact O1 [did] (S':=V.set ip (pObj f ic is d (n+k))) (d':=.tup []) ⟨rfl,rfl⟩ (e7 h5) (hd:=by simp[h5 _ _ d9]) (hw:=A9 _)
    ·obtain⟨gG,rfl,rfl⟩:=VS iY
     rw[OF]
     try refine gz ?_ o187
     refine ent ?_
     by_cases hm:L[jj]∈args
     ·have iW:=aX hm
      try refine gf hm ?_ o187
      have iX:(L.eraseIdx jj).length<L.length:=by rw[eT,aS gG];omega
      exact⟨L.eraseIdx jj,_,_,⟨by rw[hL];exact⟨fun h x hx=>h x ((JH gG x).2 (.inr hx)),fun h x hx=>Or.elim ((JH gG x).1 hx) (fun e=>e ▸ hm) (h x)⟩,fun j x hj=>by rw[w8 _ _ fun e=>by rw[e,fJ]at hj;cases hj];exact h5 j x hj,w7 ..⟩,td1,wkR⟩
     ·have hB:C7 names ae args lits e n=none:=by unfold C7;rw[fK];exact aN fun h=>hm (hL.1 h.2.2 _ (aJ gG))
      rw[hB]
      have iW:=aV hm
      repeat' first|(exact JZ [did] (S':=V.set ip (pObj f ic is d (n+k))) ⟨rfl,_,rfl⟩ (e7 fun j x hj=>by rw[w8 _ _ fun e=>by rw[e,fJ]at hj;cases hj];exact h5 j x hj) (hd:=by simp[w8 _ _ (aQ je),h5 _ _ d9]))|refine gf hm ?_ o187|apply gy<;>intro hh
   ·have hB:C7 names ae args lits e n=none:=by unfold C7;rw[fK];exact aN fun h=>by rw[ho]at h;cases h.2.1
    rw[hB]
    try refine gz ?_ o187
    exact JZ [did] (S':=V.set ip (pObj f ic is d (n+k))) ⟨rfl,_,rfl⟩ (Gb fun j x hj=>hk j x (by rw[fW];exact hj) id) (hd:=by simp[d9])
  ·have hB:C7 names ae args lits e n=none:=by unfold C7;rw[fK];exact aN fun h=>gv h.1
   rw[hB]
   repeat' first|(exact JZ [] (S':=V.set ip (pObj f ic is d (n+k))) ⟨rfl,_,rfl⟩ (Sub.refl _))|refine gf (gi h1 fK) ?_ o187|apply gy<;>intro hh
mutual
theorem PO{S:Type}{step:Int->aC->S->Option S}(Q:S->Prop)(h:∀d x s s',step d x s=some s'->Q s->Q s'): ∀(x:aC) (d:Int) (s s':S),Q s->visF step x d s=some s'->Q s'
 | .mk o a b c n k,d,s,s',hp,he=>by
  rw[visF]at he
  split at he
  ·cases he
  ·rename_i s1 h1
   exact N7 Q h k _ _ _ (h _ _ _ _ h1 hp) he
theorem N7{S:Type}{step:Int->aC->S->Option S}(Q:S->Prop)(h:∀d x s s',step d x s=some s'->Q s->Q s'): ∀(l:List aC) (d:Int) (s s':S),Q s->Gw step l d s=some s'->Q s'
 |[],d,s,s',hp,he=>by rw[Gw]at he;cases he;exact hp
 | x::r,d,s,s',hp,he=>by
  rw[Gw]at he
  split at he
  ·cases he
  ·rename_i s1 h1
   exact N7 Q h r _ _ _ (PO Q h x _ _ _ hp h1) he
end
theorem NG{most:Int}{e:aC}{k:Int}(hm:0<=most)(h:Fx most e=some k):0<=k/\k<=most:=
 PO (fun n=>0<=n/\n<=most) (fun d x s s' hs hq=>by unfold Gz at hs;split at hs<;>cases hs;omega) e 1 0 k ⟨dC _,hm⟩ h
def wAny:Str:=[97,110,121]
def wInt:Str:=[105,110,116]
def H9:Str:=[110,111,110,101]
def Jx(names ae args:fD)(x:aC):Bool:=
 (decide (x.name=[])||decide (x.name∈args))&&(x.path.all (fun s=>decide (s∈ae))&&(decide (x.cls∈names)||decide (x.cls=[])||decide (x.cls=wAny)||decide (x.cls=wInt)||decide (x.cls=H9)))
def Ik(names ae args:fD)(x:aC)(_:Unit):Option Unit:=if Jx names ae args x then some () else none
theorem P9{names ae args:fD}{x:aC}{u:Unit}(h:Jx names ae args x=false):Ik names ae args x u=none:=by unfold Ik;rw[h];rfl
theorem P8{names ae args:fD}{x:aC}{u:Unit}(h:Jx names ae args x=true):Ik names ae args x u=some ():=by unfold Ik;rw[h];rfl
def CL(names ae args:fD)(e:aC)(n:Int):Option Int:=match Fx 120 e with
 |none=>none
 |some k=>if n+k<=120/\visF (fun _ x s=>Ik names ae args x s) e 1 ()=some () then some (n+k) else none
theorem Lr(f:aF)(ip ic is:Nat)(d:D)(n:Int)(ae:fD)(s:Str)(V:Sig)(h1:V ip=some (pObj f ic is d n))(h3:V is=some (.map (eSS ae))):
  au prog 243 [.str s,.am [.ptr ip 0] 0] V (rS (.bool (decide (s∈ae))) V):=by
 refine en func243 ntmps243 ?_
 try refine gf (gi h1 h3) ?_
 exact fe1 trivial
theorem RV(f:aF)(ip ic is:Nat)(d:D)(n:Int)(names ae:fD)(e:aC)(args:fD)(V:Sig)(hw:e.wt<=1073741824)(ha:args.length<=1073741824)(hn:0<=n/\n<=1000000)
  (h1:V ip=some (pObj f ic is d n)) (h2:V ic=some (.map (eSN (C4 names 0)))) (h3:V is=some (.map (eSS ae))) :
  au prog 190 [.ptr ip 0,.agg (B6 e),sl (cS args)] V (KnR f ip ic is d (CL names ae args e n) V):=by
 have gN:ip≠ic:=A7 h1 h2 (by simp)
 have gM:ip≠is:=A7 h1 h3 (by simp)
 obtain⟨gP,gO⟩:=hn
 refine Bj func190 rfl (by decide) ntmps190 (by simp) ?_
 cases fK:Fx 120 e with
 |none=>
  have hB:CL names ae args e n=none:=by unfold CL;rw[fK]
  have gL:(Fx 120 e).isSome=false:=by rw[fK];rfl
  rw[hB]
  repeat' first|(exact fun _=>JZ [] (S':=V.set ip (pObj f ic is d n)) ⟨rfl,n,rfl⟩ (by rw[Sig.set_self _ h1];exact Sub.refl _))|refine gf (gi h1 fK) ?_ o190|apply gy<;>intro hh
 | some k =>
  have hk:=NG (by omega) fK
  have gL:(Fx 120 e).isSome=true:=by rw[fK];rfl
  by_cases gv:n+k<=120
  ·try refine gf (gi h1 fK) ?_ o190
   generalize fZ:V.set ip _=SA
   have o1:SA ip=some (pObj f ic is d (n+k)):=by rw[<-fZ,w7]
   have o2:SA ic=some (.map (eSN (C4 names 0))):=by rw[<-fZ,w8 _ _ (aQ gN)];exact h2
   have o3:SA is=some (.map (eSS ae)):=by rw[<-fZ,w8 _ _ (aQ gM)];exact h3
   have fW:SA=V.set ip (pObj f ic is d (n+k)):=fZ.symm
   have hI:∀S0,Indep (fun (_:Sig) (_:Unit)=>True) S0:=fun S0 l _ S1 S2 s _ _ _=>trivial
   have hF:PI (fun (_:Sig) (_:Unit)=>True):=fun V s a o _ _=>trivial
   refine Jq unf2 (fun _ (_:Unit)=>True) (fun _=>False) (fun _=>False) (visF (fun _ x s=>Ik names ae args x s) e 1 ()) () (hI _) hF trivial (fun j h=>h.elim) (fun j h=>h.elim) rfl (fun l did LO SL d7 hd hl fM gg hG fP=>?_) (fun did s' S' ho fO d9 hG hk=>?_) (fun did S' ho fO d9 hk=>?_)
   ·have iD:SL l=some LO:=hG.1
    have ga:Indep (fun (_:Sig) (_:Unit)=>True) (SA.set did .defs):=hI _
    refine(Lm l _ _ (fun _=>False) (fun _ x s=>Ik names ae args x s) (fun d x S1 u gJ gA hx d6=>?_) (fun V s a o h ha=>h.new hF ha) e SL () (fun _ _ h=>h) hw hG)
    ·have bne:∀{q o},SA q=some o->(SA.set did .defs) q=some o/\q≠l:=fun {q o} hq=>by
      have e1:q≠did:=fun e=>by rw[e,hd]at hq;cases hq
      have e2:(SA.set did .defs) q=some o:=by rw[w8 _ _ e1];exact hq
      exact⟨e2,fun e=>by rw[e,hl]at e2;cases e2⟩
     have qb:∀{q o},SA q=some o->(S1.set l (Ck LO)) q=some o:=fun {q o} hq=>by
      rw[w8 _ _ (bne hq).2];exact d6.2.2 q o (bne hq).1 id
     have r1:=qb o1
     have r2:=qb o2
     have r3:=qb o3
     have fL:=Keep.refl (fun _=>False) (S1.set l (Ck LO))
     refine Ez d7 d6.1 ?_
     try refine gz ?_ o190
     refine⟨d6.1,?_⟩
     generalize fV:S1.set l (Ck LO)=Sb at r1 r2 r3⊢
     rw[fV]at fL
     have fL:Keep (fun _=>False) (S1.set l (Ck LO)) Sb:=by rw[fV];exact fL
     have f6:pF x=.iface 316 (.agg (B6 x)):=rfl
     have iq:x.path.length<=1073741824:=by have:=Bb x.path;have:=x.wt_le;omega
     repeat' first|(exact KI (P9 (by clear fL r1 r2 r3 d6 hG fP d7;first|(simp_all [Jx,wAny,wInt,H9];done)|(simp_all [Jx,wAny,wInt,H9];grind))) (d6.bad hl (fun _ h=>h) fL))|refine gf (gi r1 (gi r2 (gi r3 (gi f6 Fc)))) ?_|refine Aq (Od x.path (fun s=>decide (s∈ae)) 243 [.am [.ptr ip 0] 0] _ Sb iq (fun y hy=>Lr f ip ic is _ _ ae y Sb r1 r3)) ?_|refine callP (Od x.path (fun s=>decide (s∈ae)) 243 [.am [.ptr ip 0] 0] _ Sb iq (fun y hy=>Lr f ip ic is _ _ ae y Sb r1 r3)) ?_|refine gf (gi r1 (gi r2 (gi r3 (gi f6 Fc)))) ?_ o190|apply gy<;>intro hh
     all_goals exact Id (P8 (by clear fL r1 r2 r3 d6 hG fP d7;simp_all [Jx,wAny,wInt,H9])) d7 ga d6 fM hl trivial fL
   ·have hB:CL names ae args e n=some (n+k):=by unfold CL;rw[fK];exact aS ⟨gv,ho⟩
    rw[hB]
    try refine gz ?_ o190
    exact O1 [did] (S':=V.set ip (pObj f ic is d (n+k))) (d':=.tup []) ⟨rfl,rfl⟩ (Gb fun j x hj=>hk j x (by rw[fW];exact hj) id) (hd:=by simp[d9]) (hw:=A9 _)
   ·have hB:CL names ae args e n=none:=by unfold CL;rw[fK];exact aN fun h=>by rw[ho]at h;cases h.2
    rw[hB]
    try refine gz ?_ o190
    exact JZ [did] (S':=V.set ip (pObj f ic is d (n+k))) ⟨rfl,_,rfl⟩ (Gb fun j x hj=>hk j x (by rw[fW];exact hj) id) (hd:=by simp[d9])
  ·have hB:CL names ae args e n=none:=by unfold CL;rw[fK];exact aN fun h=>gv h.1
   rw[hB]
   repeat' first|(exact JZ [] (S':=V.set ip (pObj f ic is d (n+k))) ⟨rfl,_,rfl⟩ (Sub.refl _))|refine gf (gi h1 fK) ?_ o190|apply gy<;>intro hh
mutual
def allE:aB->List aB
 |.mk o n t k=>.mk o n t k::Bg k
def Bg:List aB->List aB
 |[]=>[]
 |x::r=>allE x++Bg r
end
theorem Wn(e:aB):allE e=e::Bg e.ah:=by cases e;rw[allE];rfl
mutual
theorem Er: ∀e:aB,(allE e).length<=e.wt
 |.mk o n t k=>by
  have:=P3 k
  rw[allE,aB.wt_eq];simp only[aP]
  show _<=1+t.length+wtL aB.wt k
  omega
theorem P3: ∀l:List aB,(Bg l).length<=wtL aB.wt l
 |[]=>by rw[Bg];simp
 |x::r=>by
  have h1:=Er x
  have h2:=P3 r
  rw[Bg,aH,wtL];omega
end
theorem IU: ∀(n:Nat) (e:aB) (V:Sig),e.wt<=n->n<=1073741824->au prog 76 [.agg (Al e)] V (rS (sl ((allE e).map Al)) V):=by
 intro n
 induction n with
 |zero=>
  intro e V hx
  have:=e.wt_pos
  omega
 | succ n ih =>
  intro e V hx hn
  obtain⟨w1,w2,fQ⟩:=e.wt_le
  have hlen:=Er e
  rw[Wn]at hlen⊢
  refine en func76 ntmps76 ?_
  refine gz ?_
  refine Po [1,2,22] (fun (k:Nat) (out:List aB) (o:Own) (S1:Sig)=>k<=e.ah.length/\e::Bg e.ah=out++Bg (e.ah.drop k)/\(o=.clip \/ ∃i,o=.tag i/\V i=none/\S1 i=some (.tail 4 out.length))/\Sub V S1) (fun k out o _=>[(4,dI k),(3,.slice (out.map Al) o)]) (fun _ _ _ S1=>S1) (fun k _ _ _=>e.ah.length-k) (0) ([e]) (.clip) (V) (by exact⟨by omega,rfl,.inl rfl,Sub.refl _⟩) (fun k out o S1 hI=>?_)
  obtain⟨hk,hR,ho,hS⟩:=hI
  have iy:out.length<=e.wt:=by rw[hR,aH]at hlen;omega
  by_cases e8:k<e.ah.length
  ·rw[A2 e8,Bg,<-aT]at hR
   have jt:=fQ k e8
   have jA:=Er e.ah[k]
   have iP:out.length+(allE e.ah[k]).length<=e.wt:=by rw[hR]at hlen;simp only[aH]at hlen;omega
   have hne:(allE e.ah[k]).map Al≠[]:=by rw[Wn];simp
   rcases ho with rfl|⟨i,rfl,gc,fR⟩
   ·repeat' first|refine gz ?_|refine Aq (ih e.ah[k] S1 (by omega) (by omega)) ?_|refine callP (ih e.ah[k] S1 (by omega) (by omega)) ?_|refine gz ?_|apply gy<;>intro hh
    refine appC (fun j hj=>?_) (hne:=hne)
    refine gz ?_
    have jh:V j=none:=hS.none hj
    have iK:DObj.tail (tab 40).size ((out.map Al).length+((allE e.ah[k]).map Al).length)=.tail 4 (out++allE e.ah[k]).length:=by simp
    have e7:Sub (S1.set j (.tail 4 (out++allE e.ah[k]).length)) (S1.set j (.tail (tab 40).size ((out.map Al).length+((allE e.ah[k]).map Al).length))):=by rw[iK];exact Sub.refl _
    exact⟨k+1,out++allE e.ah[k],.tag j,S1.set j (.tail 4 (out++allE e.ah[k]).length),⟨by omega,hR,.inr ⟨j,rfl,jh,w7 ..⟩,hS.trans ((Sub.refl _).set hj)⟩,td1,wkR⟩
   ·repeat' first|refine gf fR ?_|refine Aq (ih e.ah[k] S1 (by omega) (by omega)) ?_|refine callP (ih e.ah[k] S1 (by omega) (by omega)) ?_|refine gf fR ?_|apply gy<;>intro hh
    have e7:Sub (S1.set i (.tail 4 (out++allE e.ah[k]).length)) (S1.set i (.tail 4 (out.length+(allE e.ah[k]).length))):=by rw[aH];exact Sub.refl _
    exact⟨k+1,out++allE e.ah[k],.tag i,S1.set i (.tail 4 (out++allE e.ah[k]).length),⟨by omega,hR,.inr ⟨i,rfl,gc,w7 ..⟩,hS.set gc⟩,td1,wkR⟩
  ·rw[A1 e8,Bg,bb]at hR
   refine gz ?_
   rw[hR]
   exact fin1 (S':=V) ⟨rfl,rfl⟩
end Go.DL
