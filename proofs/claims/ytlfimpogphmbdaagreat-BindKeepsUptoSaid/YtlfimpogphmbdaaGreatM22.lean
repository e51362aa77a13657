/- A part of the proof. -/
import Derived.Test.YtlfimpogphmbdaaGreatM20
import Derived.Test.YtlfimpogphmbdaaGreatM21
import Derived.Test.YtlfimpogphmbdaaGreatM14
import Derived.Test.YtlfimpogphmbdaaGreatM17
import Derived.Test.YtlfimpogphmbdaaGreatM15
set_option linter.all false
namespace Go.DL
open Go.Proofs.Tryz
open Go Go.Proofs
set_option maxHeartbeats 8000000
def Fo{T:Type}(node:Int->T->Bool)(most:Int)(d:Int)(x:T)(n:Int):Option Int:=if n+1<=most/\node d x=true then some (n+1) else none
def Hp(most:Int)(x:FExp):Option Int:=visE (Fo EH most) x 1 0
def En(most:Int)(x:FFact):Option Int:=visF (Fo El most) x 1 0
theorem Fa{T:Type}{node:Int->T->Bool}{most d:Int}{x:T}{n:Int}(h:¬(n+1<=most)\/node d x=false):Fo node most d x n=none:=by
 unfold Fo;rw[if_neg];rintro⟨h1,h2⟩;rcases h with h|h
 ·exact h h1
 ·rw[h]at h2;cases h2
theorem F9{T:Type}{node:Int->T->Bool}{most d:Int}{x:T}{n:Int}(h:n+1<=most)(h2:node d x=true):Fo node most d x n=some (n+1):=by
 unfold Fo;rw[if_pos ⟨h,h2⟩]
def GL(ip:Nat)(most:Int):Sig->Int->Prop:=fun V n=>V ip=some (.cells [dI n])/\0<=n/\n<=most
theorem GL.mono{ip:Nat}{most:Int}:MonoG (GL ip most):=fun V S' s h hk=>⟨hk _ _ h.1 rfl,h.2⟩
theorem Qb(e:FExp)(most:Int)(V:Sig)(hw:e.wt<=1073741824)(hm:0<=most/\most<=1000000):DCall prog 235 [pE e,dI most] V fun x S'=>x=(if(Hp most e).isSome then .ret (dI ((Hp most e).getD 0)) else .panic unf2)/\S'=V:=by
 obtain⟨hm0,hm1⟩:=hm;refine AX func235 rfl (by decide) ntmps235 (by simp) ?_
 try refine gz ?_ [] [5]
 refine newV (fun ip hip=>?_)
 try refine gz ?_ [] [5]
 have hst:∀{S:Type} (a:Option S),a=a:=fun _=>rfl;have ht:∀j,(j=ip)->(V.set ip (.cells [dI 0])) j≠none:=fun j e=>by rw[e,w7];simp
 have hsub:∀(did:Nat) (S':Sig),(∀j x,(V.set ip (.cells [dI 0])) j=some x->¬(j=ip)->S' j=some x/\j≠did)->Sub V (dels [did] S'):=fun did S' h=>F1 fun j x hj=>by
  have e:j≠ip:=fun e=>by rw[e,hip]at hj;cases hj
  exact h j x (by rw[w8 _ _ e];exact hj) e
 refine I8 unf2 (GL ip most) (· = ip) (· = ip) (Hp most e) 0 (GL.mono.indep _) GL.mono.fresh ⟨w7 .., by omega,hm0⟩ ht ht rfl (fun l did LO SL hLO hd hl htl hSL hG hnt=>?_) (fun did n S' ho hdn hdd hG hk=>?_) (fun did S' ho hdn hdd hk=>?_)
 ·refine JV l _ _ (· = ip) (Fo EH most) (fun d x S1 n hd1 hd2 hx hG1=>?_) (fun V s a o h ha=>h.new GL.mono.fresh ha) e SL 0 hnt hw hG;refine DD hLO hG1.1 ?_
  try refine gz ?_ [] [5]
  refine⟨hG1.1,?_⟩;obtain⟨hc,hn0,hn1⟩:=hG1.busy hLO (GL.mono.indep _) hl;obtain⟨Sb,hSb⟩:∃Sb,Sb=S1.set l (BG LO):=⟨_,rfl⟩;rw[<-hSb]at hc⊢;have hK:∀m:Int,Keep (· = ip) (S1.set l (BG LO)) (Sb.set ip (.cells [dI m])):=fun m j x hj hne=>by rw[w8 _ _ hne,hSb];exact hj
  rw[<-Sig.set_self _ hc]
  repeat' first|(exact Jk (Fa (by first|exact .inl (by assumption)|exact .inr (by assumption))) (hG1.bad hl (fun _ h=>h) (hK _)))|refine gz ?_ [] [5]|apply gy<;>intro hh
  exact GZ (F9 (by omega) (by assumption)) hLO (GL.mono.indep _) hG1 htl hl ⟨w7 .., by omega,by omega⟩ (hK _)
 ·try refine gf hG.1 ?_ [] [5]
  rw[ho];exact Mf [did] (S':=V) (d':=dI n) ⟨rfl,rfl⟩ (hsub did S' hk) (hd:=by simp[hdd]) (hw:=A7 _)
 ·rw[ho];exact IJ [did] (S':=V) ⟨rfl,rfl⟩ (hsub did S' hk) (hd:=by simp[hdd])
@[reducible,instance] def a235e:=fun e most V=>gh2 (@Qb e most V)
theorem Qa(e:FFact)(most:Int)(V:Sig)(hw:e.wt<=1073741824)(hm:0<=most/\most<=1000000):DCall prog 235 [pF e,dI most] V fun x S'=>x=(if(En most e).isSome then .ret (dI ((En most e).getD 0)) else .panic unf2)/\S'=V:=by
 obtain⟨hm0,hm1⟩:=hm;refine AX func235 rfl (by decide) ntmps235 (by simp) ?_
 try refine gz ?_ [] [5]
 refine newV (fun ip hip=>?_)
 try refine gz ?_ [] [5]
 have hst:∀{S:Type} (a:Option S),a=a:=fun _=>rfl;have ht:∀j,(j=ip)->(V.set ip (.cells [dI 0])) j≠none:=fun j e=>by rw[e,w7];simp
 have hsub:∀(did:Nat) (S':Sig),(∀j x,(V.set ip (.cells [dI 0])) j=some x->¬(j=ip)->S' j=some x/\j≠did)->Sub V (dels [did] S'):=fun did S' h=>F1 fun j x hj=>by
  have e:j≠ip:=fun e=>by rw[e,hip]at hj;cases hj
  exact h j x (by rw[w8 _ _ e];exact hj) e
 refine I8 unf2 (GL ip most) (· = ip) (· = ip) (En most e) 0 (GL.mono.indep _) GL.mono.fresh ⟨w7 .., by omega,hm0⟩ ht ht rfl (fun l did LO SL hLO hd hl htl hSL hG hnt=>?_) (fun did n S' ho hdn hdd hG hk=>?_) (fun did S' ho hdn hdd hk=>?_)
 ·refine JU l _ _ (· = ip) (Fo El most) (fun d x S1 n hd1 hd2 hx hG1=>?_) (fun V s a o h ha=>h.new GL.mono.fresh ha) e SL 0 hnt hw hG;refine DD hLO hG1.1 ?_
  try refine gz ?_ [] [5]
  refine⟨hG1.1,?_⟩;obtain⟨hc,hn0,hn1⟩:=hG1.busy hLO (GL.mono.indep _) hl;obtain⟨Sb,hSb⟩:∃Sb,Sb=S1.set l (BG LO):=⟨_,rfl⟩;rw[<-hSb]at hc⊢;have hK:∀m:Int,Keep (· = ip) (S1.set l (BG LO)) (Sb.set ip (.cells [dI m])):=fun m j x hj hne=>by rw[w8 _ _ hne,hSb];exact hj
  rw[<-Sig.set_self _ hc]
  repeat' first|(exact Jk (Fa (by first|exact .inl (by assumption)|exact .inr (by assumption))) (hG1.bad hl (fun _ h=>h) (hK _)))|refine gz ?_ [] [5]|apply gy<;>intro hh
  exact GZ (F9 (by omega) (by assumption)) hLO (GL.mono.indep _) hG1 htl hl ⟨w7 .., by omega,by omega⟩ (hK _)
 ·try refine gf hG.1 ?_ [] [5]
  rw[ho];exact Mf [did] (S':=V) (d':=dI n) ⟨rfl,rfl⟩ (hsub did S' hk) (hd:=by simp[hdd]) (hw:=A7 _)
 ·rw[ho];exact IJ [did] (S':=V) ⟨rfl,rfl⟩ (hsub did S' hk) (hd:=by simp[hdd])
@[reducible,instance] def a235f:=fun e most V=>gh2 (@Qa e most V)
def cB:List Str->D
 |[]=>.nilp
 |s::r=>.cptr [cB r,.str s] 0
theorem RU(b:List Str)(s:Str)(V:Sig):DCall prog 303 [cB b,.str s] V (rS (.bool (decide (s∈b))) V):=by
 induction b with
 |nil=>
  have hb:cB []=.nilp:=rfl;refine en func303 ntmps303 ?_;refine gf hb ?_;exact fe1 trivial
 | cons x r ih =>
  have hb:cB (x::r)=.cptr [cB r,.str x] 0:=rfl;refine en func303 ntmps303 ?_
  by_cases hx:x=s
  ·refine gf (gi hb hx) ?_;exact fe1 trivial
  ·have hx':¬s=x:=fun h=>hx h.symm;rw[show decide (s∈x::r)=decide (s∈r) by simp[hx']]
   repeat' first|refine gf (gi hb hx) ?_|refine EX (ih) ?_|refine EY (ih) ?_|refine gf (gi hb hx) ?_|apply gy<;>intro hh
   any_goals (first|exact fe1 trivial|fail)
@[reducible,instance] def a303:=fun b s V=>ah0 (@RU b s V)
mutual
def freeE:FExp->List Str->List Str->List Str
 |.mk o _ t k,b,a=>C2 o t b 0 k (if o=3 /\ ¬t∈b then ins t a else a)
def C2(o:Int)(t:Str)(b:List Str):Nat->List FExp->List Str->List Str
 |_,[],a=>a
 |i,x::r,a=>C2 o t b (i+1) r (freeE x (if o=9/\i=1 then t::b else b) a)
end
theorem OO(e:FExp)(b a:List Str):freeE e b a=C2 e.op e.text b 0 e.kids (if e.op=3 /\ ¬e.text∈b then ins e.text a else a):=by cases e;rw[freeE];rfl
theorem Q0: ∀(n:Nat) (e:FExp) (b acc:List Str) (im:Nat) (V:Sig),e.wt<=n->n<=1073741824->V im=some (.map (eSS acc))->
  DCall prog 276 [.agg (AO e),cB b,.map im] V fun x S'=>x=.ret (.tup [])/\S'=V.set im (.map (eSS (freeE e b acc))):=by
 intro n
 induction n with
 |zero=>
  intro e b acc im V hx;have:=e.wt_pos;omega
 | succ n ih =>
  intro e b acc im V hx hn hm;obtain⟨w1,w2,hw3⟩:=e.wt_le;have hcB : .cptr [cB b,.str e.text] 0=cB (e.text::b):=rfl;refine en func276 ntmps276 ?_
  by_cases hc:e.op=3 /\ ¬e.text∈b
  ·obtain⟨A,hA⟩:∃A,A=ins e.text acc:=⟨_,rfl⟩;have hfr:freeE e b acc=C2 e.op e.text b 0 e.kids A:=by rw[OO,if_pos hc,hA]
   obtain⟨hc1,hc2⟩:=hc;refine gf (gi hm (gi hc1 (gi hc2 hA.symm))) ?_;refine Br [1,2,3,23,24] (fun (k:Nat) (a:List Str)=>k<=e.kids.length/\C2 e.op e.text b 0 e.kids A=C2 e.op e.text b k (e.kids.drop k) a) (fun k _=>[(25,dI k)]) (fun _ a=>V.set im (.map (eSS a))) (fun k _=>e.kids.length-k) (0) (A) (by simp) (fun k a hI=>?_);obtain⟨hk,hR⟩:=hI
   by_cases hkl:k<e.kids.length
   ·rw[A3 hkl,C2]at hR;have hi:(V.set im (.map (eSS a))) im=some (.map (eSS a)):=w7 ..
    by_cases h9:e.op=9/\k=1
    ·omega
    ·rw[if_neg h9]at hR
     by_cases h9o:e.op=9
     ·have h9k:¬k=1:=fun h=>h9 ⟨h9o,h⟩;refine gf h9o ?_;refine Ab (ih e.kids[k] b a im _ (by have:=hw3 k hkl;omega) (by omega) hi) (fun d S' hr=>?_) (fun d S' hr=>by cases hr.1);obtain⟨h1,rfl⟩:=hr;cases h1;refine gz ?_;exact⟨k+1,freeE e.kids[k] b a,⟨by omega,hR⟩,td1,wkR⟩
     ·refine gf h9o ?_;refine Ab (ih e.kids[k] b a im _ (by have:=hw3 k hkl;omega) (by omega) hi) (fun d S' hr=>?_) (fun d S' hr=>by cases hr.1);obtain⟨h1,rfl⟩:=hr;cases h1;refine gz ?_;exact⟨k+1,freeE e.kids[k] b a,⟨by omega,hR⟩,td1,wkR⟩
   ·rw[A2 hkl,C2]at hR;refine gz ?_;refine Dl (S':=V.set im (.map (eSS (freeE e b acc)))) ⟨rfl,rfl⟩ (hU:=by rw[hfr,hR];exact Sub.refl _)
  ·obtain⟨A,hA⟩:∃A,A=acc:=⟨_,rfl⟩;have hfr:freeE e b acc=C2 e.op e.text b 0 e.kids A:=by rw[OO,if_neg hc,hA]
   subst hA;have hsub:Sub (V.set im (.map (eSS A))) V:=by rw[Sig.set_self _ hm];exact Sub.refl _
   by_cases hc1:e.op=3
   ·have hc2:e.text∈b:=by by_cases h:e.text∈b;exact h;exact absurd ⟨hc1,h⟩ hc
    refine gf (gi hc1 hc2) ?_;refine Br [1,2,3,23,24] (fun (k:Nat) (a:List Str)=>k<=e.kids.length/\C2 e.op e.text b 0 e.kids A=C2 e.op e.text b k (e.kids.drop k) a) (fun k _=>[(25,dI k)]) (fun _ a=>V.set im (.map (eSS a))) (fun k _=>e.kids.length-k) (0) (A) (by simp) (fun k a hI=>?_);obtain⟨hk,hR⟩:=hI
    by_cases hkl:k<e.kids.length
    ·rw[A3 hkl,C2]at hR;have hi:(V.set im (.map (eSS a))) im=some (.map (eSS a)):=w7 ..
     by_cases h9:e.op=9/\k=1
     ·omega
     ·rw[if_neg h9]at hR
      by_cases h9o:e.op=9
      ·have h9k:¬k=1:=fun h=>h9 ⟨h9o,h⟩;refine gf h9o ?_;refine Ab (ih e.kids[k] b a im _ (by have:=hw3 k hkl;omega) (by omega) hi) (fun d S' hr=>?_) (fun d S' hr=>by cases hr.1);obtain⟨h1,rfl⟩:=hr;cases h1;refine gz ?_;exact⟨k+1,freeE e.kids[k] b a,⟨by omega,hR⟩,td1,wkR⟩
      ·refine gf h9o ?_;refine Ab (ih e.kids[k] b a im _ (by have:=hw3 k hkl;omega) (by omega) hi) (fun d S' hr=>?_) (fun d S' hr=>by cases hr.1);obtain⟨h1,rfl⟩:=hr;cases h1;refine gz ?_;exact⟨k+1,freeE e.kids[k] b a,⟨by omega,hR⟩,td1,wkR⟩
    ·rw[A2 hkl,C2]at hR;refine gz ?_;refine Dl (S':=V.set im (.map (eSS (freeE e b A)))) ⟨rfl,rfl⟩ (hU:=by rw[hfr,hR];exact Sub.refl _)
   ·refine gf hc1 ?_;refine Br [1,2,3,23,24] (fun (k:Nat) (a:List Str)=>k<=e.kids.length/\C2 e.op e.text b 0 e.kids A=C2 e.op e.text b k (e.kids.drop k) a) (fun k _=>[(25,dI k)]) (fun _ a=>V.set im (.map (eSS a))) (fun k _=>e.kids.length-k) (0) (A) (by simp) (fun k a hI=>?_);obtain⟨hk,hR⟩:=hI
    by_cases hkl:k<e.kids.length
    ·rw[A3 hkl,C2]at hR;have hi:(V.set im (.map (eSS a))) im=some (.map (eSS a)):=w7 ..
     by_cases h9:e.op=9/\k=1
     ·rw[if_pos h9]at hR;obtain⟨h9,rfl⟩:=h9;have hb0:cB []=.nilp:=rfl;rcases b with _|⟨x0,b0⟩
      ·refine gf (gi h9 hb0) ?_;refine Ab (ih e.kids[1] [e.text] a im _ (by have:=hw3 1 hkl;omega) (by omega) hi) (fun d S' hr=>?_) (fun d S' hr=>by cases hr.1);obtain⟨h1,rfl⟩:=hr;cases h1;refine gz ?_;exact⟨2,freeE e.kids[1] [e.text] a,⟨by omega,hR⟩,td1,wkR⟩
      ·have hb1:cB (x0::b0)=.cptr [cB b0,.str x0] 0:=rfl;refine gf (gi h9 hb1) ?_;refine Ab (ih e.kids[1] (e.text::x0::b0) a im _ (by have:=hw3 1 hkl;omega) (by omega) hi) (fun d S' hr=>?_) (fun d S' hr=>by cases hr.1);obtain⟨h1,rfl⟩:=hr;cases h1;refine gz ?_;exact⟨2,freeE e.kids[1] (e.text::x0::b0) a,⟨by omega,hR⟩,td1,wkR⟩
     ·rw[if_neg h9]at hR
      by_cases h9o:e.op=9
      ·have h9k:¬k=1:=fun h=>h9 ⟨h9o,h⟩;refine gf h9o ?_;refine Ab (ih e.kids[k] b a im _ (by have:=hw3 k hkl;omega) (by omega) hi) (fun d S' hr=>?_) (fun d S' hr=>by cases hr.1);obtain⟨h1,rfl⟩:=hr;cases h1;refine gz ?_;exact⟨k+1,freeE e.kids[k] b a,⟨by omega,hR⟩,td1,wkR⟩
      ·refine gf h9o ?_;refine Ab (ih e.kids[k] b a im _ (by have:=hw3 k hkl;omega) (by omega) hi) (fun d S' hr=>?_) (fun d S' hr=>by cases hr.1);obtain⟨h1,rfl⟩:=hr;cases h1;refine gz ?_;exact⟨k+1,freeE e.kids[k] b a,⟨by omega,hR⟩,td1,wkR⟩
    ·rw[A2 hkl,C2]at hR;refine gz ?_;refine Dl (S':=V.set im (.map (eSS (freeE e b A)))) ⟨rfl,rfl⟩ (hU:=by rw[hfr,hR];exact Sub.refl _)
def cSet(s:List Str):D:=.cmap (s.map .str) (s.map fun _=>.bool true)
instance a241e'(x:FExp)(V:Sig):Ans 241 [.iface 308 (.agg (AO x))] V True (.func (.func 278) [] [.cptr [pE x] 0]):=a241e x V
instance a241f'(x:FFact)(V:Sig):Ans 241 [.iface 316 (.agg (AV x))] V True (.func (.func 278) [] [.cptr [pF x] 0]):=a241f x V
instance a235e'(e:FExp)(most:Int)(V:Sig):Giv 235 [.iface 308 (.agg (AO e)),dI most] V (e.wt<=1073741824/\(0<=most/\most<=1000000)) (Hp most e).isSome (dI ((Hp most e).getD 0)) unf2:=a235e e most V
instance a235f'(e:FFact)(most:Int)(V:Sig):Giv 235 [.iface 316 (.agg (AV e)),dI most] V (e.wt<=1073741824/\(0<=most/\most<=1000000)) (En most e).isSome (dI ((En most e).getD 0)) unf2:=a235f e most V
theorem So(e:FExp)(V:Sig)(hw:e.wt<=1073741824):DCall prog 237 [.agg (AO e)] V (rS (cSet (freeE e [] [])) V):=by
 refine en func237 ntmps237 ?_
 try refine gz ?_
 refine KP (fun im him=>?_)
 try refine gz ?_
 refine Ab (Q0 _ e [] [] im _ (Nat.le_refl _) hw (w7 ..)) (fun d S' hr=>?_) (fun d S' hr=>by cases hr.1);obtain⟨h1,rfl⟩:=hr;cases h1
 repeat ((fail_if_success (first|(refine cfr 8 (i:=im) (m:=eSS (freeE e [] [])) (w7 ..) ?_)|fail));(refine goX1 trivial ?_))
 refine cfr 8 (i:=im) (m:=eSS (freeE e [] [])) (w7 ..) ?_;rw[Tn,Tl,Sig.set_set,Sig.set_del _ _ him]
 try refine gz ?_
 exact fe1 trivial
@[reducible,instance] def a237:=fun e V=>ah1 (@So e V)
theorem IN(e:FExp)(V:Sig):DCall prog 236 [.agg (AO e)] V (rS (.func (.func 275) [] [.cptr (AO e) 0]) V):=by
 refine en func236 ntmps236 ?_
 try refine gz ?_
 exact fe1 trivial
@[reducible,instance] def a236:=fun e V=>ah0 (@IN e V)
theorem Q1{S:Type}(l:Nat)(Good:Sig->S->Prop)(touch tp:Nat->Prop)(step:FExp->S->Option S)(e:FExp)(V:Sig)(s0:S)(hw:e.wt<=1073741824)
  (hy:∀(x:FExp) V s,x.wt<=1073741824->Good V s->DYield prog l [.agg (AO x)] V (OutO unf2 (.bool true) Good (Keep tp V) touch V (step x s)))
  (hi:Indep Good V) (hf:O6 Good) (h0:Good V s0) (ht:∀j,touch j->tp j) (htp:∀j,V j=none->¬tp j) :
  DCall prog 275 [.yld l,.cptr (AO e) 0] V (OutO unf2 (.tup []) Good (Keep tp V) touch V (visE (fun _ x s=>step x s) e 1 s0)):=by
 refine AX func275 rfl (by decide) ntmps275 (by simp) ?_
 try refine gz ?_
 refine I8 unf2 Good touch tp (visE (fun _ x s=>step x s) e 1 s0) s0 hi hf h0 (fun j hj hn=>htp j hn (ht j hj)) (fun j hj hn=>htp j hn hj) rfl (fun l2 did LO SL hLO hd hl htl hSL hG hnt=>?_) (fun did s' S' ho hdn hdd hG hk=>?_) (fun did S' ho hdn hdd hk=>?_)
 ·have hi2:Indep Good (V.set did .defs):=hi.older fun j hj=>by
   by_cases e:j=did
   ·rw[e];exact hd
   ·rw[w8 _ _ e]at hj;exact hj
  refine JV l2 _ _ touch (fun _ x s=>step x s) (fun d x S1 s hd1 hd2 hx hG1=>?_) (fun V s a o h ha=>h.new hf ha) e SL s0 hnt hw hG;refine DD hLO hG1.1 ?_
  try refine gz ?_
  refine⟨hG1.1,?_⟩;have hGb:=hG1.busy hLO hi2 hl;have hpx:pE x=.iface 308 (.agg (AO x)):=rfl
  try refine gf hpx ?_
  refine yldWG (hy x _ s hx hGb) (fun e S2 hr=>?_) (fun e S2 hr=>?_)
  ·obtain⟨s2,hs2,rfl,hG2,hK⟩:=hr.ret
   try refine gz ?_
   exact GZ hs2 hLO hi2 hG1 htl hl hG2 hK
  ·obtain⟨hn,rfl,hb2⟩:=hr.pan
   try refine gz ?_
   exact Jk hn (hG1.bad hl ht hb2)
 ·rw[ho]
  try refine gz ?_
  refine Mf [did] (S':=S'.del did) (d':=.tup []) ⟨rfl,hi did hdn _ _ _ hG ⟨_,hdd,rfl⟩ (fun j hj=>by simp only[Sig.del,hj,if_false]),fun j x hj hn=>?_⟩ (Sub.refl _) (hd:=by simp[hdd]) (hw:=A7 _);obtain⟨h1,h2⟩:=hk j x hj hn;simp only[Sig.del,h2,if_false];exact h1
 ·rw[ho]
  try refine gz ?_
  refine IJ [did] (S':=S'.del did) ⟨rfl,fun j x hj hn=>?_⟩ (Sub.refl _) (hd:=by simp[hdd]);obtain⟨h1,h2⟩:=hk j x hj hn;simp only[Sig.del,h2,if_false];exact h1
mutual
theorem Od{S:Type}{step:Int->FExp->S->Option S}(Q:S->Prop)(h:∀d x s s',step d x s=some s'->Q s->Q s'): ∀(x:FExp) (d:Int) (s s':S),Q s->visE step x d s=some s'->Q s'
 | .mk o n t k,d,s,s',hp,he=>by
  rw[visE]at he;split at he
  ·cases he
  ·rename_i s1 h1;exact Lu Q h k _ _ _ (h _ _ _ _ h1 hp) he
theorem Lu{S:Type}{step:Int->FExp->S->Option S}(Q:S->Prop)(h:∀d x s s',step d x s=some s'->Q s->Q s'): ∀(l:List FExp) (d:Int) (s s':S),Q s->CF step l d s=some s'->Q s'
 |[],d,s,s',hp,he=>by rw[CF]at he;cases he;exact hp
 | x::r,d,s,s',hp,he=>by
  rw[CF]at he;split at he
  ·cases he
  ·rename_i s1 h1;exact Lu Q h r _ _ _ (Od Q h x _ _ _ hp h1) he
end
theorem OE{most:Int}{e:FExp}{k:Int}(hm:0<=most)(h:Hp most e=some k):0<=k/\k<=most:=
 Od (fun n=>0<=n/\n<=most) (fun d x s s' hs hq=>by unfold Fo at hs;split at hs<;>cases hs;omega) e 1 0 k ⟨Int.le_refl _,hm⟩ h
def nodK(names slots:List Str)(lits:Bool)(x:FExp):Bool:=
 if x.op=4\/x.op=7 then decide (x.text∈slots) else if x.op=6\/x.op=8 then decide (x.text∈names) else if x.op=18 then lits else true
def D2(names slots:List Str)(lits:Bool)(x:FExp)(_:Unit):Option Unit:=if nodK names slots lits x then some () else none
def allK(names slots:List Str)(lits:Bool)(e:FExp):Option Unit:=visE (fun _ x s=>D2 names slots lits x s) e 1 ()
def Bn(names slots args:List Str)(lits:Bool)(e:FExp)(n:Int):Option Int:=match Hp 120 e with
 |none=>none
 |some k=>if n+k<=120/\allK names slots lits e=some ()/\(∀s∈freeE e [] [],s∈args) then some (n+k) else none
def KnR(f:FProg)(ip ic is:Nat)(d:D)(o:Option Int)(V:Sig)(x:DE)(S':Sig):Prop:=match o with
 |some m=>x=.ret (.tup [])/\S'=V.set ip (pObj f ic is d m)
 |none=>x=.panic unf2 /\ ∃m,S'=V.set ip (pObj f ic is d m)
theorem K5(f:FProg)(ip ic is:Nat)(d:D)(n:Int)(names slots:List Str)(e:FExp)(args:List Str)(lits:Bool)(V:Sig)(hw:e.wt<=1073741824)(ha:args.length<=1073741824)(hn:0<=n/\n<=1000000)
  (h1:V ip=some (pObj f ic is d n)) (h2:V ic=some (.map (eSN (Bm names 0)))) (h3:V is=some (.map (eSS slots))) :
  DCall prog 187 [.ptr ip 0,.agg (AO e),sl (cS args),.bool lits] V (KnR f ip ic is d (Bn names slots args lits e n) V):=by
 have hpi:ip≠ic:=A9 h1 h2 (by simp);have hps:ip≠is:=A9 h1 h3 (by simp);obtain⟨hn0,hn1⟩:=hn;refine AX func187 rfl (by decide) ntmps187 (by simp) ?_;cases hlk:Hp 120 e with
 |none=>
  have hB:Bn names slots args lits e n=none:=by unfold Bn;rw[hlk]
  have hsm:(Hp 120 e).isSome=false:=by rw[hlk];rfl
  rw[hB]
  repeat' first|(exact fun _=>IJ [] (S':=V.set ip (pObj f ic is d n)) ⟨rfl,n,rfl⟩ (by rw[Sig.set_self _ h1];exact Sub.refl _))|refine gf (gi h1 hlk) ?_ o187|apply gy<;>intro hh
 | some k =>
  have hk:=OE (by omega) hlk;have hsm:(Hp 120 e).isSome=true:=by rw[hlk];rfl
  by_cases hk2:n+k<=120
  ·try refine gf (gi h1 hlk) ?_ o187
   generalize hSA:V.set ip _=SA;have o1:SA ip=some (pObj f ic is d (n+k)):=by rw[<-hSA,w7]
   have o2:SA ic=some (.map (eSN (Bm names 0))):=by rw[<-hSA,w8 _ _ (Ne.symm hpi)];exact h2
   have o3:SA is=some (.map (eSS slots)):=by rw[<-hSA,w8 _ _ (Ne.symm hps)];exact h3
   have hSA':SA=V.set ip (pObj f ic is d (n+k)):=hSA.symm;have hI:∀S0,Indep (fun (_:Sig) (_:Unit)=>True) S0:=fun S0 l _ S1 S2 s _ _ _=>trivial;have hF:O6 (fun (_:Sig) (_:Unit)=>True):=fun V s a o _ _=>trivial;refine I8 unf2 (fun _ (_:Unit)=>True) (fun _=>False) (fun _=>False) (allK names slots lits e) () (hI _) hF trivial (fun j h=>h.elim) (fun j h=>h.elim) rfl (fun l did LO SL hLO hd hl htl hSL hG hnt=>?_) (fun did s' S' ho hdn hdd hG hk=>?_) (fun did S' ho hdn hdd hk=>?_)
   ·have hLl:SL l=some LO:=hG.1;have hI0:Indep (fun (_:Sig) (_:Unit)=>True) (SA.set did .defs):=hI _;refine(Q1 l _ (fun _=>False) (fun j=>False\/j=l) (D2 names slots lits) e SL () hw (fun x S1 u hx hG1=>?_) (hG.indep (hI _)) (fun V s a o h ha=>h.new hF ha) hG (fun j h=>h.elim) (fun j hj h=>?_)).mono (fun x S' hx=>hx.bad fun hK j y hj hn=>?_)
    ·have bne:∀{q o},SA q=some o->(SA.set did .defs) q=some o/\q≠l:=fun {q o} hq=>by
      have e1:q≠did:=fun e=>by rw[e,hd]at hq;cases hq
      have e2:(SA.set did .defs) q=some o:=by rw[w8 _ _ e1];exact hq
      exact⟨e2,fun e=>by rw[e,hl]at e2;cases e2⟩
     have qb:∀{q o},SA q=some o->(S1.set l (BG LO)) q=some o:=fun {q o} hq=>by
      rw[w8 _ _ (bne hq).2];exact hG1.2.2 q o (bne hq).1 id
     have r1:=qb o1;have r2:=qb o2;have r3:=qb o3;have hKr:=Keep.refl (fun _=>False) (S1.set l (BG LO));refine DD hLO hG1.1 ?_
     try refine gz ?_ o187
     refine⟨hG1.1,?_⟩;generalize hSb:S1.set l (BG LO)=Sb at r1 r2 r3⊢;rw[hSb]at hKr;have hKr:Keep (fun _=>False) (S1.set l (BG LO)) Sb:=by rw[hSb];exact hKr
     rcases Decidable.em (x.op=4)with h4|h4
     ·have hnk:nodK names slots lits x=decide (x.text∈slots):=by unfold nodK;rw[h4];simp
      by_cases hm:x.text∈slots
      ·have hst:D2 names slots lits x u=some ():=by unfold D2;rw[hnk,decide_eq_true hm];rfl
       try refine gf (gi r1 (gi r3 (gi h4 hm))) ?_ o187
       exact GZ hst hLO hI0 hG1 htl hl trivial hKr
      ·have hst:D2 names slots lits x u=none:=by unfold D2;rw[hnk,decide_eq_false hm];rfl
       repeat' first|(exact Jk hst (Rv hKr))|refine gf (gi r1 (gi r3 (gi h4 hm))) ?_ o187|apply gy<;>intro hh
     rcases Decidable.em (x.op=7)with h7|h7
     ·have hnk:nodK names slots lits x=decide (x.text∈slots):=by unfold nodK;rw[h7];simp
      by_cases hm:x.text∈slots
      ·have hst:D2 names slots lits x u=some ():=by unfold D2;rw[hnk,decide_eq_true hm];rfl
       try refine gf (gi r1 (gi r3 (gi h7 hm))) ?_ o187
       exact GZ hst hLO hI0 hG1 htl hl trivial hKr
      ·have hst:D2 names slots lits x u=none:=by unfold D2;rw[hnk,decide_eq_false hm];rfl
       repeat' first|(exact Jk hst (Rv hKr))|refine gf (gi r1 (gi r3 (gi h7 hm))) ?_ o187|apply gy<;>intro hh
     rcases Decidable.em (x.op=6)with h6|h6
     ·have hnk:nodK names slots lits x=decide (x.text∈names):=by unfold nodK;rw[h6];simp
      by_cases hm:x.text∈names
      ·have hst:D2 names slots lits x u=some ():=by unfold D2;rw[hnk,decide_eq_true hm];rfl
       try refine gf (gi r1 (gi r2 (gi E7 (gi h6 hm)))) ?_ o187
       exact GZ hst hLO hI0 hG1 htl hl trivial hKr
      ·have hst:D2 names slots lits x u=none:=by unfold D2;rw[hnk,decide_eq_false hm];rfl
       repeat' first|(exact Jk hst (Rv hKr))|refine gf (gi r1 (gi r2 (gi E7 (gi h6 hm)))) ?_ o187|apply gy<;>intro hh
     rcases Decidable.em (x.op=8)with h8|h8
     ·have hnk:nodK names slots lits x=decide (x.text∈names):=by unfold nodK;rw[h8];simp
      by_cases hm:x.text∈names
      ·have hst:D2 names slots lits x u=some ():=by unfold D2;rw[hnk,decide_eq_true hm];rfl
       try refine gf (gi r1 (gi r2 (gi E7 (gi h8 hm)))) ?_ o187
       exact GZ hst hLO hI0 hG1 htl hl trivial hKr
      ·have hst:D2 names slots lits x u=none:=by unfold D2;rw[hnk,decide_eq_false hm];rfl
       repeat' first|(exact Jk hst (Rv hKr))|refine gf (gi r1 (gi r2 (gi E7 (gi h8 hm)))) ?_ o187|apply gy<;>intro hh
     rcases Decidable.em (x.op=18)with h18|h18
     ·have hnk:nodK names slots lits x=lits:=by unfold nodK;rw[h18];simp
      cases hlt:lits
      ·have hst:D2 names slots false x u=none:=by unfold D2;rw[hlt]at hnk;rw[hnk];rfl
       repeat' first|(exact Jk hst (Rv hKr))|refine gf (gi r1 (gi h18 hlt)) ?_ o187|apply gy<;>intro hh
      ·have hst:D2 names slots true x u=some ():=by unfold D2;rw[hlt]at hnk;rw[hnk];rfl
       try refine gf (gi r1 (gi h18 hlt)) ?_ o187
       exact GZ hst hLO hI0 hG1 htl hl trivial hKr
     ·have hnk:nodK names slots lits x=true:=by unfold nodK;rw[if_neg (by omega),if_neg (by omega),if_neg h18]
      have hst:D2 names slots lits x u=some ():=by unfold D2;rw[hnk];rfl
      try refine gf r1 ?_ o187
      exact GZ hst hLO hI0 hG1 htl hl trivial hKr
    ·rcases h with h|h
     ·exact h
     ·rw[h,hLl]at hj;cases hj
    ·have e2:j≠l:=fun e=>by rw[e,hl]at hj;cases hj
     exact hK j y (by rw[hSL,w8 _ _ e2];exact hj) (by rintro(h|h);exact hn h;exact e2 h)
   ·have hwf:(freeE e [] []).length<=(freeE e [] []).length:=Nat.le_refl _
    try refine gz ?_ o187
    refine rng (kt:=9) (et:=4) (l:=eSS (freeE e [] [])) (fun it hit=>?_) (hx:=by rw[<-QH];with_unfolding_all rfl)
    try refine gz ?_ o187
    have hsub:∀{S5:Sig},(∀j x,S' j=some x->S5 j=some x)->Sub (V.set ip (pObj f ic is d (n+k))) (dels [did] S5):=fun {S5} h5=>F1 fun j x hj=>by
     rw[<-hSA']at hj;obtain⟨g1,g2⟩:=hk j x hj id;exact⟨h5 j x g1,g2⟩
    have hdi:it≠did:=fun e=>by rw[e,hdd]at hit;cases hit
    refine FG [2,66] (fun (L:List Str) (S5:Sig) (la:Option (D×D))=>((∀x∈freeE e [] [],x∈args) ↔ (∀x∈L,x∈args))/\(∀j x,S' j=some x->S5 j=some x)/\S5 it=some (.iter (eSS L) la)) (fun _ _ _=>[]) (fun _ S5 _=>S5) (fun L _ _=>L.length) (freeE e [] []) (_) (none) (by exact⟨Iff.rfl,fun j x hj=>by rw[w8 _ _ fun e=>by rw[e,hit]at hj;cases hj];exact hj,w7 ..⟩) (fun L S5 la hI=>?_);obtain⟨hL,h5,hit6⟩:=hI
    try refine gz ?_ o187
    refine nxt (fun hL0=>?_) (fun jj k v hkv=>?_) (hi:=hit6)
    ·have hL1:L=[]:=by unfold eSS eS at hL0;simpa using hL0
     subst hL1;have hB:Bn names slots args lits e n=some (n+k):=by unfold Bn;rw[hlk];exact if_pos ⟨hk2,ho,hL.2 (by simp)⟩
     rw[hB]
     try refine gz ?_ o187
     exact Mf [did] (S':=V.set ip (pObj f ic is d (n+k))) (d':=.tup []) ⟨rfl,rfl⟩ (hsub h5) (hd:=by simp[h5 _ _ hdd]) (hw:=A7 _)
    ·obtain⟨hjj,rfl,rfl⟩:=Tm hkv;rw[MM]
     try refine gz ?_ o187
     refine ent ?_
     by_cases hm:L[jj]∈args
     ·have hm':=decide_eq_true hm
      try refine gf hm ?_ o187
      have hle:(L.eraseIdx jj).length<L.length:=by rw[List.length_eraseIdx,if_pos hjj];omega
      exact⟨L.eraseIdx jj,_,_,⟨by rw[hL];exact⟨fun h x hx=>h x ((Is hjj x).2 (.inr hx)),fun h x hx=>Or.elim ((Is hjj x).1 hx) (fun e=>e ▸ hm) (h x)⟩,fun j x hj=>by rw[w8 _ _ fun e=>by rw[e,hit]at hj;cases hj];exact h5 j x hj,w7 ..⟩,td1,wkR⟩
     ·have hB:Bn names slots args lits e n=none:=by unfold Bn;rw[hlk];exact if_neg fun h=>hm (hL.1 h.2.2 _ (List.getElem_mem hjj))
      rw[hB];have hm':=decide_eq_false hm
      repeat' first|(exact IJ [did] (S':=V.set ip (pObj f ic is d (n+k))) ⟨rfl,_,rfl⟩ (hsub fun j x hj=>by rw[w8 _ _ fun e=>by rw[e,hit]at hj;cases hj];exact h5 j x hj) (hd:=by simp[w8 _ _ (Ne.symm hdi),h5 _ _ hdd]))|refine gf hm ?_ o187|apply gy<;>intro hh
   ·have hB:Bn names slots args lits e n=none:=by unfold Bn;rw[hlk];exact if_neg fun h=>by rw[ho]at h;cases h.2.1
    rw[hB]
    try refine gz ?_ o187
    exact IJ [did] (S':=V.set ip (pObj f ic is d (n+k))) ⟨rfl,_,rfl⟩ (F1 fun j x hj=>hk j x (by rw[hSA'];exact hj) id) (hd:=by simp[hdd])
  ·have hB:Bn names slots args lits e n=none:=by unfold Bn;rw[hlk];exact if_neg fun h=>hk2 h.1
   rw[hB]
   repeat' first|(exact IJ [] (S':=V.set ip (pObj f ic is d (n+k))) ⟨rfl,_,rfl⟩ (Sub.refl _))|refine gf (gi h1 hlk) ?_ o187|apply gy<;>intro hh
mutual
theorem Oc{S:Type}{step:Int->FFact->S->Option S}(Q:S->Prop)(h:∀d x s s',step d x s=some s'->Q s->Q s'): ∀(x:FFact) (d:Int) (s s':S),Q s->visF step x d s=some s'->Q s'
 | .mk o a b c n k,d,s,s',hp,he=>by
  rw[visF]at he;split at he
  ·cases he
  ·rename_i s1 h1;exact Ls Q h k _ _ _ (h _ _ _ _ h1 hp) he
theorem Ls{S:Type}{step:Int->FFact->S->Option S}(Q:S->Prop)(h:∀d x s s',step d x s=some s'->Q s->Q s'): ∀(l:List FFact) (d:Int) (s s':S),Q s->Fl step l d s=some s'->Q s'
 |[],d,s,s',hp,he=>by rw[Fl]at he;cases he;exact hp
 | x::r,d,s,s',hp,he=>by
  rw[Fl]at he;split at he
  ·cases he
  ·rename_i s1 h1;exact Ls Q h r _ _ _ (Oc Q h x _ _ _ hp h1) he
end
theorem LV{most:Int}{e:FFact}{k:Int}(hm:0<=most)(h:En most e=some k):0<=k/\k<=most:=
 Oc (fun n=>0<=n/\n<=most) (fun d x s s' hs hq=>by unfold Fo at hs;split at hs<;>cases hs;omega) e 1 0 k ⟨Int.le_refl _,hm⟩ h
def wAny:Str:=[97,110,121]
def wInt:Str:=[105,110,116]
def Fk:Str:=[110,111,110,101]
def Ii(names slots args:List Str)(x:FFact):Bool:=
 (decide (x.name=[])||decide (x.name∈args))&&(x.path.all (fun s=>decide (s∈slots))&&(decide (x.cls∈names)||decide (x.cls=[])||decide (x.cls=wAny)||decide (x.cls=wInt)||decide (x.cls=Fk)))
def H8(names slots args:List Str)(x:FFact)(_:Unit):Option Unit:=if Ii names slots args x then some () else none
theorem No{names slots args:List Str}{x:FFact}{u:Unit}(h:Ii names slots args x=false):H8 names slots args x u=none:=by unfold H8;rw[h];rfl
theorem Nn{names slots args:List Str}{x:FFact}{u:Unit}(h:Ii names slots args x=true):H8 names slots args x u=some ():=by unfold H8;rw[h];rfl
def BW(names slots args:List Str)(e:FFact)(n:Int):Option Int:=match En 120 e with
 |none=>none
 |some k=>if n+k<=120/\visF (fun _ x s=>H8 names slots args x s) e 1 ()=some () then some (n+k) else none
theorem JZ(f:FProg)(ip ic is:Nat)(d:D)(n:Int)(slots:List Str)(s:Str)(V:Sig)(h1:V ip=some (pObj f ic is d n))(h3:V is=some (.map (eSS slots))):
  DCall prog 243 [.str s,.cptr [.ptr ip 0] 0] V (rS (.bool (decide (s∈slots))) V):=by
 refine en func243 ntmps243 ?_
 try refine gf (gi h1 h3) ?_
 exact fe1 trivial
theorem Qg(f:FProg)(ip ic is:Nat)(d:D)(n:Int)(names slots:List Str)(e:FFact)(args:List Str)(V:Sig)(hw:e.wt<=1073741824)(ha:args.length<=1073741824)(hn:0<=n/\n<=1000000)
  (h1:V ip=some (pObj f ic is d n)) (h2:V ic=some (.map (eSN (Bm names 0)))) (h3:V is=some (.map (eSS slots))) :
  DCall prog 190 [.ptr ip 0,.agg (AV e),sl (cS args)] V (KnR f ip ic is d (BW names slots args e n) V):=by
 have hpi:ip≠ic:=A9 h1 h2 (by simp);have hps:ip≠is:=A9 h1 h3 (by simp);obtain⟨hn0,hn1⟩:=hn;refine AX func190 rfl (by decide) ntmps190 (by simp) ?_;cases hlk:En 120 e with
 |none=>
  have hB:BW names slots args e n=none:=by unfold BW;rw[hlk]
  have hsm:(En 120 e).isSome=false:=by rw[hlk];rfl
  rw[hB]
  repeat' first|(exact fun _=>IJ [] (S':=V.set ip (pObj f ic is d n)) ⟨rfl,n,rfl⟩ (by rw[Sig.set_self _ h1];exact Sub.refl _))|refine gf (gi h1 hlk) ?_ o190|apply gy<;>intro hh
 | some k =>
  have hk:=LV (by omega) hlk;have hsm:(En 120 e).isSome=true:=by rw[hlk];rfl
  by_cases hk2:n+k<=120
  ·try refine gf (gi h1 hlk) ?_ o190
   generalize hSA:V.set ip _=SA;have o1:SA ip=some (pObj f ic is d (n+k)):=by rw[<-hSA,w7]
   have o2:SA ic=some (.map (eSN (Bm names 0))):=by rw[<-hSA,w8 _ _ (Ne.symm hpi)];exact h2
   have o3:SA is=some (.map (eSS slots)):=by rw[<-hSA,w8 _ _ (Ne.symm hps)];exact h3
   have hSA':SA=V.set ip (pObj f ic is d (n+k)):=hSA.symm;have hI:∀S0,Indep (fun (_:Sig) (_:Unit)=>True) S0:=fun S0 l _ S1 S2 s _ _ _=>trivial;have hF:O6 (fun (_:Sig) (_:Unit)=>True):=fun V s a o _ _=>trivial;refine I8 unf2 (fun _ (_:Unit)=>True) (fun _=>False) (fun _=>False) (visF (fun _ x s=>H8 names slots args x s) e 1 ()) () (hI _) hF trivial (fun j h=>h.elim) (fun j h=>h.elim) rfl (fun l did LO SL hLO hd hl htl hSL hG hnt=>?_) (fun did s' S' ho hdn hdd hG hk=>?_) (fun did S' ho hdn hdd hk=>?_)
   ·have hLl:SL l=some LO:=hG.1;have hI0:Indep (fun (_:Sig) (_:Unit)=>True) (SA.set did .defs):=hI _;refine(JU l _ _ (fun _=>False) (fun _ x s=>H8 names slots args x s) (fun d x S1 u hd1 hd2 hx hG1=>?_) (fun V s a o h ha=>h.new hF ha) e SL () (fun _ _ h=>h) hw hG)
    ·have bne:∀{q o},SA q=some o->(SA.set did .defs) q=some o/\q≠l:=fun {q o} hq=>by
      have e1:q≠did:=fun e=>by rw[e,hd]at hq;cases hq
      have e2:(SA.set did .defs) q=some o:=by rw[w8 _ _ e1];exact hq
      exact⟨e2,fun e=>by rw[e,hl]at e2;cases e2⟩
     have qb:∀{q o},SA q=some o->(S1.set l (BG LO)) q=some o:=fun {q o} hq=>by
      rw[w8 _ _ (bne hq).2];exact hG1.2.2 q o (bne hq).1 id
     have r1:=qb o1;have r2:=qb o2;have r3:=qb o3;have hKr:=Keep.refl (fun _=>False) (S1.set l (BG LO));refine DD hLO hG1.1 ?_
     try refine gz ?_ o190
     refine⟨hG1.1,?_⟩;generalize hSb:S1.set l (BG LO)=Sb at r1 r2 r3⊢;rw[hSb]at hKr;have hKr:Keep (fun _=>False) (S1.set l (BG LO)) Sb:=by rw[hSb];exact hKr
     have hpx:pF x=.iface 316 (.agg (AV x)):=rfl;have hpl:x.path.length<=1073741824:=by have:=Bk x.path;have:=x.wt_le;omega
     repeat' first|(exact Jk (No (by clear hKr r1 r2 r3 hG1 hG hnt hLO;first|(simp_all [Ii,wAny,wInt,Fk];done)|(simp_all [Ii,wAny,wInt,Fk];grind))) (hG1.bad hl (fun _ h=>h) hKr))|refine gf (gi r1 (gi r2 (gi r3 (gi hpx E7)))) ?_|refine AE (Ms x.path (fun s=>decide (s∈slots)) 243 [.cptr [.ptr ip 0] 0] _ Sb hpl (fun y hy=>JZ f ip ic is _ _ slots y Sb r1 r3)) ?_|refine callP (Ms x.path (fun s=>decide (s∈slots)) 243 [.cptr [.ptr ip 0] 0] _ Sb hpl (fun y hy=>JZ f ip ic is _ _ slots y Sb r1 r3)) ?_|refine gf (gi r1 (gi r2 (gi r3 (gi hpx E7)))) ?_ o190|apply gy<;>intro hh
     all_goals exact GZ (Nn (by clear hKr r1 r2 r3 hG1 hG hnt hLO;simp_all [Ii,wAny,wInt,Fk])) hLO hI0 hG1 htl hl trivial hKr
   ·have hB:BW names slots args e n=some (n+k):=by unfold BW;rw[hlk];exact if_pos ⟨hk2,ho⟩
    rw[hB]
    try refine gz ?_ o190
    exact Mf [did] (S':=V.set ip (pObj f ic is d (n+k))) (d':=.tup []) ⟨rfl,rfl⟩ (F1 fun j x hj=>hk j x (by rw[hSA'];exact hj) id) (hd:=by simp[hdd]) (hw:=A7 _)
   ·have hB:BW names slots args e n=none:=by unfold BW;rw[hlk];exact if_neg fun h=>by rw[ho]at h;cases h.2
    rw[hB]
    try refine gz ?_ o190
    exact IJ [did] (S':=V.set ip (pObj f ic is d (n+k))) ⟨rfl,_,rfl⟩ (F1 fun j x hj=>hk j x (by rw[hSA'];exact hj) id) (hd:=by simp[hdd])
  ·have hB:BW names slots args e n=none:=by unfold BW;rw[hlk];exact if_neg fun h=>hk2 h.1
   rw[hB]
   repeat' first|(exact IJ [] (S':=V.set ip (pObj f ic is d (n+k))) ⟨rfl,_,rfl⟩ (Sub.refl _))|refine gf (gi h1 hlk) ?_ o190|apply gy<;>intro hh
def setL:List Str->List Str->List Str
 |[],a=>a
 |s::r,a=>setL r (ins s a)
theorem Q6(l:List Str)(o:Own)(V:Sig)(hl:l.length<=1073741824):DCall prog 254 [.slice (cS l) o] V fun x S'=> ∃im,V im=none/\x=.ret (.map im)/\S'=V.set im (.map (eSS (setL l []))):=by
 refine en func254 ntmps254 ?_;refine gz ?_;refine KP (fun im him=>?_);refine gz ?_;refine Br [2,3,7,8,16] (fun (k:Nat) (m:List Str)=>k<=l.length/\setL l []=setL (l.drop k) m) (fun k _=>[(9,dI k)]) (fun _ m=>V.set im (.map (eSS m))) (fun k _=>l.length-k) (0) ([]) (by simp) (fun k m hI=>?_);obtain⟨hk,hR⟩:=hI
 by_cases hkl:k<l.length
 ·rw[A3 hkl,setL]at hR;refine gz ?_;exact⟨k+1,ins l[k] m,⟨by omega,hR⟩,td1,wkR⟩
 ·rw[A2 hkl,setL]at hR;refine gz ?_;exact fin1 (S':=V.set im (.map (eSS m))) ⟨im,him,rfl,by rw[hR]⟩
def Dr(f:Nat->Option Str):Nat->Nat->Option Str
 |0,_=>none
 |k+1,j=>match f j with
  |some w=>some w
  |none=>Dr f k (j+1)
theorem Dj(f:Nat->Option Str)(k j:Nat):Dr f (k+1) j=match f j with
 |some w=>some w
 |none=>Dr f k (j+1):=rfl
def D6(tk:List Str):Nat->Str->Option Str
 |0,s=>if s∈kwds\/s∈tk then none else some s
 |n+1,s=>Dr (fun c=>D6 tk n (s++[UInt8.ofNat c])) 26 97
def IF(tk:List Str):Option Str:=Dr (fun k=>D6 tk k []) 8 1
def DoneY(l i2:Nat)(LO:DObj)(w:Str)(V S':Sig):Prop:=S' l=some (UR .ret LO)/\S' i2=some (.cells [.str w]) /\ ∀j o,V j=some o->j≠l->j≠i2->S' j=some o
def YR(tk:List Str)(l i2:Nat)(LO:DObj)(w:Str)(V:Sig)(x:DE)(S':Sig):Prop:=
 if w∈tk then x=.ret (.bool true)/\Sub V S' else x=.ret (.bool false)/\DoneY l i2 LO w V S'
def GR(o:Option Str)(l i2:Nat)(LO:DObj)(V:Sig)(x:DE)(S':Sig):Prop:=match o with
 |none=>x=.ret (.bool true)/\Sub V S'
 |some w=>x=.ret (.bool false)/\DoneY l i2 LO w V S'
theorem DoneY.sub{l i2:Nat}{LO:DObj}{w:Str}{V S1 S2:Sig}(h:Sub V S1)(k:DoneY l i2 LO w S1 S2):DoneY l i2 LO w V S2:=⟨k.1,k.2.1,fun j o hj h1 h2=>k.2.2 j o (h j o hj) h1 h2⟩
theorem RT(tk:List Str)(l i2:Nat)(LO:DObj)(Sb:Sig)(hl:Sb l=some LO)(hLO:isLD LO=true)(h2:Sb i2=some (.cells [.str []]))(hy:∀(w:Str) V,Sub Sb V->w.length<=8->DYield prog l [.str w] V (YR tk l i2 LO w V))(is ik i4:Nat):
  ∀(n:Nat) (s:Str) (o:Own) (V:Sig),s.length+n<=8->Sub Sb V->V is=some (.cells [dI ((s.length+n:Nat):Int)])->V ik=some (.map (eSS kwds))->V i4=some (.cells [.func (.func 306) [] [.ptr is 0,.cptr [.map ik] 0,.cptr [.yld l] 0,.ptr i4 0]])->
   DCall prog 306 [.slice (cB8 s) o,.ptr is 0,.cptr [.map ik] 0,.cptr [.yld l] 0,.ptr i4 0] V (GR (D6 tk n s) l i2 LO V):=by
 intro n
 induction n with
 | zero =>
  intro s o V hn hS o1 o2 o3;have e0:((s.length+0:Nat):Int)=s.length:=by omega
  rw[e0]at o1;refine en func306 ntmps306 ?_
  try refine gf (gi o1 o2) ?_ o306
  refine strR s ?_
  by_cases hk:s∈kwds
  ·have hg:D6 tk 0 s=none:=by rw[D6,if_pos (.inl hk)]
   rw[hg]
   try refine gf (gi o2 hk) ?_ o306
   refine skpV ?_
   try refine gz ?_ o306
   exact fin1 (S':=V) ⟨rfl,Sub.refl _⟩
  ·try refine gf (gi o2 hk) ?_ o306
   refine strR s ?_
   try refine gz ?_ o306
   refine yldWG (hy s V hS (by omega)) (fun e S' hr=>?_) (fun e S' hr=>?_)
   ·by_cases ht:s∈tk
    ·have hg:D6 tk 0 s=none:=by rw[D6,if_pos (.inr ht)]
     unfold YR at hr;rw[if_pos ht]at hr;obtain⟨e1,hr⟩:=hr;cases e1;rw[hg]
     try refine gz ?_ o306
     exact fin1 (S':=S') ⟨rfl,hr⟩
    ·have hg:D6 tk 0 s=some s:=by rw[D6,if_neg fun h=>h.elim hk ht]
     unfold YR at hr;rw[if_neg ht]at hr;obtain⟨e1,hr⟩:=hr;cases e1;rw[hg]
     try refine gz ?_ o306
     exact fin1 (S':=S') ⟨rfl,hr⟩
   ·unfold YR at hr;split at hr<;>cases hr.1
 | succ n ih =>
  intro s o V hn hS o1 o2 o3;rw[D6];have nl:∀{j x},Sb j=some x->Sb j=some x:=fun h=>h;have hcl:∀{j f c1 c2 V},V j=some (.cells [.func f c1 c2])->Sub Sb V->j≠l/\j≠i2:=fun {j f c1 c2 V} h hS=>⟨fun e=>(by rw[e,hS _ _ hl]at h;cases h;cases hLO),fun e=>(by rw[e,hS _ _ h2]at h;cases h)⟩
  refine en func306 ntmps306 ?_
  try refine gf o1 ?_ o306
  refine Br [0,4] (fun (j:Nat) (S1:Sig)=>j<=26/\Sub V S1/\Dr (fun c=>D6 tk n (s++[UInt8.ofNat c])) 26 97=Dr (fun c=>D6 tk n (s++[UInt8.ofNat c])) (26-j) (97+j)) (fun j _=>[(7,.int .u8 ((97+j:Nat):Int))]) (fun _ S1=>S1) (fun j _=>26-j) (0) (V) (by exact⟨by omega,Sub.refl _,rfl⟩) (fun j S1 hI=>?_);obtain⟨hj,hS1,hR⟩:=hI;have q1:=hS1 _ _ o1;have q2:=hS1 _ _ o2;have q3:=hS1 _ _ o3;obtain⟨r1,r2⟩:=hcl q3 (hS.trans hS1)
  by_cases hjl:j<26
  ·rw[show 26-j=(26-(j+1))+1 by omega,Dj _ (26-(j+1))]at hR;have u3:(S1.out (fun x=>x=l\/x=i2)) i4=_:=Hb q3 (fun h=>h.elim r1 r2);have hout:Sub (S1.out (fun x=>x=l\/x=i2)) S1:=CS _ _
   try refine gf q3 ?_
   refine mixAt (id:=6) [0,1,3,4,2,5,6,7] [2,5,6] (S1.out (fun x=>x=l\/x=i2)) (CS _ _) ?_
   try refine gf u3 ?_ o306
   refine V9 (fun a ha=>?_) (hlen:=cB8_mem _)
   try refine gf u3 ?_ o306
   have hb:(UInt8.ofNat (97+j)).toNat=97+j:=by rw[UInt8.toNat_ofNat'];omega
   have hcb:cB8 (s++[UInt8.ofNat (97+j)])=cB8 s++[[D.int .u8 (97+(j:Int))]]:=by unfold cB8;rw[List.map_append,List.map_cons,List.map_nil,hb];simp
   have hS2:Sub V (S1.set a (.tail (tab 5).size ((cB8 s).length+[[D.int IntKind.u8 (97+(j:Int))]].length))):=hS1.trans ((Sub.refl _).set ha);have hlen:((s++[UInt8.ofNat (97+j)]).length+n:Nat)=s.length+(n+1):=by simp;omega
   have hih:=ih (s++[UInt8.ofNat (97+j)]) (.tag a) _ (by omega) (hS.trans hS2) (by rw[hlen];exact hS2 _ _ o1) (hS2 _ _ o2) (hS2 _ _ o3);rw[hcb]at hih;have hs0:Sub (S1.out (fun x=>x=l\/x=i2)) (S1.set a (.tail (tab 5).size ((cB8 s).length+[[D.int IntKind.u8 (97+(j:Int))]].length))):=hout.trans ((Sub.refl _).set ha);have hwr:IntKind.wrap .u8 (97+(j:Int)+1)=97+(j:Int)+1:=by rw[IntKind.wrap_u8];omega
   refine E4 hih (fun d S' hr=>?_) (fun d S' hr=>by unfold GR at hr;split at hr<;>cases hr.1);cases hg:D6 tk n (s++[UInt8.ofNat (97+j)])with
   |none=>
    rw[hg]at hr;obtain⟨e1,hr⟩:=hr;cases e1;rw[hg]at hR;refine⟨hs0.trans hr,?_⟩
    try refine gf hwr ?_ o306
    exact⟨j+1,S',⟨by omega,hS2.trans hr,hR⟩,td1,wkR⟩
   | some w =>
    rw[hg]at hr;obtain⟨e1,hr⟩:=hr;cases e1;rw[hg]at hR;refine⟨fun q x hq=>?_,?_⟩
    ·obtain⟨h1,h2⟩:=EF hq;exact hr.2.2 _ _ (hs0 _ _ hq) (fun e=>h2 (.inl e)) (fun e=>h2 (.inr e))
    ·rw[hR]
     try refine gz ?_ o306
     exact fin1 (S':=S') ⟨rfl,hr.sub hS2⟩
  ·have h0:∀f:Nat->Option Str,Dr f 0 (97+j)=none:=fun _=>rfl;rw[show 26-j=0 by omega,h0]at hR;rw[hR]
   try refine gz ?_ o306
   exact fin1 (S':=S1) ⟨rfl,hS1⟩
abbrev GenT:=List (Str×Int)×Bool
def seeG(name:Str)(n:Int)(s:GenT):GenT:=if hasM name s.1=true then(s.1,s.2&&decide (getM 0 name s.1=n)) else(s.1++[(name,n)],s.2)
theorem KM{α β:Type}[DecidableEq α](k:α)(v:β): ∀m:List (α×β),hasM k m=false->putM k v m=m++[(k,v)]
 |[],_=>rfl
 | p::r,h=>by
  obtain⟨a,b⟩:=p
  by_cases e:k=a
  ·simp[hasM,e]at h
  ·have h2:hasM k r=false:=by simpa[hasM,e] using h
   rw[putM,if_neg e,KM k v r h2];rfl
structure GenS(mp ib il it:Nat)(V:Sig)(s:GenT):Prop where
 om:V mp=some (.map (eSN s.1))
 ob:V ib=some (.cells [.bool s.2])
 ol:V il=some (.cells [.slice (cS (s.1.map (·.1))) (.tag it)])
 ot:V it=some (.tail 1 s.1.length)
def tG(mp ib il it:Nat):Nat->Prop:=fun j=>j=mp\/j=ib\/j=il\/j=it
theorem JY(name:Str)(n:Int)(im mp ib il it:Nat)(s:GenT)(V:Sig)(hl:s.1.length<=100000000)(h0:V im=some (.cells [.map mp]))(hG:GenS mp ib il it V s)(hb:ib≠il):
  DCall prog 244 [.str name,dI n,.ptr im 0,.ptr ib 0,.ptr il 0] V fun x S'=>x=.ret (.tup [])/\GenS mp ib il it S' (seeG name n s)/\Keep (tG mp ib il it) V S':=by
 obtain⟨acc,ok⟩:=s;obtain⟨om,ob,ol,ot⟩:=hG;simp only at om ob ol ot hl;have e1:il≠mp:=A9 ol om (by simp);have e2:it≠mp:=A9 ot om (by simp);have e3:it≠il:=A9 ot ol (by simp);have e4:it≠ib:=A9 ot ob (by simp);have e5:ib≠mp:=A9 ob om (by simp);refine en func244 ntmps244 ?_;cases hh:hasM name acc
 ·have hp:=KM name n acc hh;have hs:seeG name n (acc,ok)=(acc++[(name,n)],ok):=by unfold seeG;rw[if_neg (by rw[hh];simp)]
  have hc:cS (acc.map (·.1))++[[D.str name]]=cS ((acc++[(name,n)]).map (·.1)):=by simp[cS]
  rw[hs];refine gf (gi h0 (gi om (gi ob (gi ol (gi ot (gi hh hp)))))) ?_;refine Dl (S':=_) ⟨rfl,⟨?_,?_,?_,?_⟩,fun j o hj hn=>?_⟩
  ·rw[w8 _ _ (Ne.symm e1),w8 _ _ (Ne.symm e2),w7]
  ·rw[w8 _ _ hb,w8 _ _ (Ne.symm e4),w8 _ _ e5];exact ob
  ·rw[w7,hc]
  ·rw[w8 _ _ e3,w7,List.length_append];rfl
  ·have n1:j≠mp:=fun e=>hn (.inl e);have n2:j≠il:=fun e=>hn (.inr (.inr (.inl e)));have n3:j≠it:=fun e=>hn (.inr (.inr (.inr e)));rw[w8 _ _ n2,w8 _ _ n3,w8 _ _ n1];exact hj
 ·have hs:seeG name n (acc,ok)=(acc,ok&&decide (getM 0 name acc=n)):=by unfold seeG;rw[if_pos hh]
  have hK:∀b,Keep (tG mp ib il it) V (V.set ib (.cells [.bool b])):=fun b j o hj hn=>by rw[w8 _ _ fun e=>hn (.inr (.inl e))];exact hj
  have hg:GenS mp ib il it (V.set ib (.cells [.bool (ok&&decide (getM 0 name acc=n))])) (acc,ok&&decide (getM 0 name acc=n)):=
   ⟨by rw[w8 _ _ (Ne.symm e5)];exact om,w7 .., by rw[w8 _ _ (Ne.symm hb)];exact ol,by rw[w8 _ _ e4];exact ot⟩
  rw[hs];cases ok
  ·refine gf (gi h0 (gi om (gi ob (gi ol (gi ot hh))))) ?_;exact fin0 (S':=_) ⟨rfl,hg,hK _⟩
  ·refine gf (gi h0 (gi om (gi ob (gi ol (gi ot hh))))) ?_;exact fin0 (S':=_) ⟨rfl,hg,hK _⟩
section
variable {S:Type}(step:Int->FExp->S->Option S)(pot:S->Nat)(hP:∀d x s s',step d x s=some s'->pot s'<=pot s+1)
include hP
mutual
theorem Kz: ∀(x:FExp) (d:Int) (s s':S),visE step x d s=some s'->pot s'<=pot s+x.wt
 | .mk o n t k,d,s,s',he=>by
  have hw:(FExp.mk o n t k).wt=1+t.length+wtL FExp.wt k:=FExp.wt_eq _;rw[visE]at he;split at he
  ·cases he
  ·rename_i s1 h1;have:=hP _ _ _ _ h1;have:=Lt k _ _ _ he;omega
theorem Lt: ∀(l:List FExp) (d:Int) (s s':S),CF step l d s=some s'->pot s'<=pot s+wtL FExp.wt l
 |[],d,s,s',he=>by rw[CF]at he;cases he;omega
 | x::r,d,s,s',he=>by
  rw[CF]at he;rw[wtL];split at he
  ·cases he
  ·rename_i s1 h1;have:=Kz x _ _ _ h1;have:=Lt r _ _ _ he;omega
end
end
theorem PY{S:Type}(l i:Nat)(Good:Sig->S->Prop)(Bad:Sig->Prop)(touch:Nat->Prop)(step:Int->FExp->S->Option S)(pot:S->Nat)(B:Nat)(hP:∀d x s s',step d x s=some s'->pot s'<=pot s+1)(hti:¬touch i)
  (hy:∀(d:Int) (x:FExp) V s,1<=d->d<=2147483648->x.wt<=1073741824->pot s<B->Good V s->DYield prog l [dI d,pE x] V (OutO unf2 (.bool true) Good Bad touch V (step d x s))) :
  ∀(n:Nat) (x:FExp) (d:Int) V s,x.wt<=n->n<=1073741824->1<=d->d+n<=2147483648->pot s+x.wt<=B->Good V s->V i=some (.cells [.func (.func 279) [] [.cptr [.yld l] 0,.ptr i 0]])->
   DCall prog 279 [pE x,dI d,.cptr [.yld l] 0,.ptr i 0] V (OutO unf2 (.bool true) Good Bad touch V (visE step x d s)):=by
 intro n
 induction n with
 |zero=>
  intro x d V s hx;have:=x.wt_pos;omega
 | succ n ih =>
  intro x d V s hx hn hd hd2 hB hG hi;have hwx:=FExp.wt_eq x;have hpx:pE x=.iface 308 (.agg (AO x)):=rfl;refine en func279 ntmps279 ?_;refine gz ?_;refine yldW (hy d x V s hd (by omega) (by omega) (by omega) hG) (fun e S' hr=>?_) (fun e S' hr=>?_)
  ·obtain⟨s',hst,rfl,hG',hK⟩:=hr.ret;have hi':=hK i _ hi hti;have hp':=hP _ _ _ _ hst;rw[KA,hst];simp only;have hw3:∀(k:Nat) (h:k<x.kids.length),(x.kids[k]).wt<x.wt:=by have:=x.wt_le;grind
   have hkl:x.kids.length<=1073741824:=by have:=x.wt_le;omega
   refine gz ?_;refine invW Rn (Mk x S' (by omega)) (fun e S2 hr=>?_) (fun e S2 hr=>by cases hr.1) (hx:=by exact hpx);obtain⟨h1,h2⟩:=hr;simp only[DE.ret.injEq]at h1;subst h1;rw[h2];clear h2 S2;refine gz ?_;refine FG [1,3,15,16] (fun (j:Nat) (s1:S) (S1:Sig)=>j<=x.kids.length/\pot s1+wtL FExp.wt (x.kids.drop j)<=B/\Good S1 s1/\CF step x.kids (d+1) s'=CF step (x.kids.drop j) (d+1) s1/\(∀j o,V j=some o->¬touch j->S1 j=some o)) (fun j _ _=>[(17,dI j)]) (fun _ _ S1=>S1) (fun j _ _=>x.kids.length-j) (0) (s') (S') (by exact⟨by omega,by rw[List.drop_zero];omega,hG',rfl,hK⟩) (fun j s1 S1 hI=>?_);obtain⟨hj,hp1,hG1,hR,hK1⟩:=hI;have hi1:=hK1 i _ hi hti
   by_cases hj':j<x.kids.length
   ·rw[A3 hj',CF]at hR;rw[A3 hj',wtL]at hp1;refine gf hi1 ?_;refine Ab (ih x.kids[j] (d+1) S1 s1 (by have:=hw3 j hj';omega) (by omega) (by omega) (by omega) (by omega) hG1 hi1) (fun e S2 hr=>?_) (fun e S2 hr=>?_)
    ·obtain⟨s2,hs2,rfl,hG2,hK2⟩:=hr.ret;have hp2:=Kz step pot hP _ _ _ _ hs2;rw[hs2]at hR;refine gz ?_;exact⟨j+1,s2,S2,⟨by omega,by omega,hG2,hR,fun j o h1 h2=>hK2 _ _ (hK1 _ _ h1 h2) h2⟩,td1,wkR⟩
    ·obtain⟨hn,rfl,hb⟩:=hr.pan;rw[hn]at hR;rw[hR];exact finP (S':=S2) ⟨rfl,hb⟩
   ·rw[A2 hj',CF]at hR;rw[hR];refine gz ?_;refine fin1 (S':=S1) ?_;exact⟨rfl,hG1,hK1⟩
  ·obtain⟨hst,rfl,hb⟩:=hr.pan;rw[KA,hst];exact finP (S':=S') ⟨rfl,hb⟩
theorem PZ{S:Type}(l:Nat)(Good:Sig->S->Prop)(Bad:Sig->Prop)(touch:Nat->Prop)(step:Int->FExp->S->Option S)(pot:S->Nat)(B:Nat)(hP:∀d x s s',step d x s=some s'->pot s'<=pot s+1)
  (hy:∀(d:Int) (x:FExp) V s,1<=d->d<=2147483648->x.wt<=1073741824->pot s<B->Good V s->DYield prog l [dI d,pE x] V (OutO unf2 (.bool true) Good Bad touch V (step d x s)))
  (hm : ∀ V s a o,Good V s->V a=none->Good (V.set a o) s) (x:FExp) (V:Sig) (s:S) (ht : ∀ a,V a=none -> ¬ touch a) (hx:x.wt<=1073741824) (hB:pot s+x.wt<=B) (hG:Good V s) :
   DCall prog 278 [.yld l,.cptr [pE x] 0] V (OutO unf2 (.tup []) Good Bad touch V (visE step x 1 s)):=by
 refine en func278 ntmps278 ?_;refine gz ?_ [] [3];refine newV (fun a ha=>?_);refine gz ?_ [] [3];refine Ab (PY l a Good Bad touch step pot B hP (ht a ha) hy x.wt x 1 (V.set a _) s (Nat.le_refl _) hx (by omega) (by omega) hB (hm _ _ _ _ hG ha) (w7 ..)) (fun e S' hr=>?_) (fun e S' hr=>?_)
 ·obtain⟨s',hs',rfl,hG',hK⟩:=hr.ret;rw[hs'];refine gz ?_ [] [3];refine Dl (S':=S') ?_;exact⟨rfl,hG',fun j o h1 h2=>hK j o (by rw[w8 _ _ fun e=>by rw[e,ha]at h1;cases h1];exact h1) h2⟩
 ·obtain⟨hn,rfl,hb⟩:=hr.pan;rw[hn];exact finP (S':=S') ⟨rfl,hb⟩
theorem Q2{S:Type}(l:Nat)(Good:Sig->S->Prop)(touch tp:Nat->Prop)(step:FExp->S->Option S)(e:FExp)(V:Sig)(s0:S)(pot:S->Nat)(B:Nat)(hP:∀x s s',step x s=some s'->pot s'<=pot s+1)(hB:pot s0+e.wt<=B)(hw:e.wt<=1073741824)
  (hy:∀(x:FExp) V s,x.wt<=1073741824->pot s<B->Good V s->DYield prog l [.agg (AO x)] V (OutO unf2 (.bool true) Good (Keep tp V) touch V (step x s)))
  (hi:Indep Good V) (hf:O6 Good) (h0:Good V s0) (ht:∀j,touch j->tp j) (htp:∀j,V j=none->¬tp j) :
  DCall prog 275 [.yld l,.cptr (AO e) 0] V (OutO unf2 (.tup []) Good (Keep tp V) touch V (visE (fun _ x s=>step x s) e 1 s0)):=by
 refine AX func275 rfl (by decide) ntmps275 (by simp) ?_
 try refine gz ?_
 refine I8 unf2 Good touch tp (visE (fun _ x s=>step x s) e 1 s0) s0 hi hf h0 (fun j hj hn=>htp j hn (ht j hj)) (fun j hj hn=>htp j hn hj) rfl (fun l2 did LO SL hLO hd hl htl hSL hG hnt=>?_) (fun did s' S' ho hdn hdd hG hk=>?_) (fun did S' ho hdn hdd hk=>?_)
 ·have hi2:Indep Good (V.set did .defs):=hi.older fun j hj=>by
   by_cases e:j=did
   ·rw[e];exact hd
   ·rw[w8 _ _ e]at hj;exact hj
  refine PZ l2 _ _ touch (fun _ x s=>step x s) pot B (fun d x s s' h=>hP x s s' h) (fun d x S1 s hd1 hd2 hx hpb hG1=>?_) (fun V s a o h ha=>h.new hf ha) e SL s0 hnt hw hB hG;refine DD hLO hG1.1 ?_
  try refine gz ?_
  refine⟨hG1.1,?_⟩;have hGb:=hG1.busy hLO hi2 hl;have hpx:pE x=.iface 308 (.agg (AO x)):=rfl
  try refine gf hpx ?_
  refine yldWG (hy x _ s hx hpb hGb) (fun e S2 hr=>?_) (fun e S2 hr=>?_)
  ·obtain⟨s2,hs2,rfl,hG2,hK⟩:=hr.ret
   try refine gz ?_
   exact GZ hs2 hLO hi2 hG1 htl hl hG2 hK
  ·obtain⟨hn,rfl,hb2⟩:=hr.pan
   try refine gz ?_
   exact Jk hn (hG1.bad hl ht hb2)
 ·rw[ho]
  try refine gz ?_
  refine Mf [did] (S':=S'.del did) (d':=.tup []) ⟨rfl,hi did hdn _ _ _ hG ⟨_,hdd,rfl⟩ (fun j hj=>by simp only[Sig.del,hj,if_false]),fun j x hj hn=>?_⟩ (Sub.refl _) (hd:=by simp[hdd]) (hw:=A7 _);obtain⟨h1,h2⟩:=hk j x hj hn;simp only[Sig.del,h2,if_false];exact h1
 ·rw[ho]
  try refine gz ?_
  refine IJ [did] (S':=S'.del did) ⟨rfl,fun j x hj hn=>?_⟩ (Sub.refl _) (hd:=by simp[hdd]);obtain⟨h1,h2⟩:=hk j x hj hn;simp only[Sig.del,h2,if_false];exact h1
end Go.DL
