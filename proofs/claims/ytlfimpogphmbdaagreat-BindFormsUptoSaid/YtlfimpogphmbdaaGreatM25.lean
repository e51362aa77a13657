/- Part of the proof that the last text ends. -/
import Derived.Test.YtlfimpogphmbdaaGreatM23
import Derived.Test.YtlfimpogphmbdaaGreatM24
import Derived.Test.YtlfimpogphmbdaaGreatM16
import Derived.Test.YtlfimpogphmbdaaGreatM20
set_option linter.all false
namespace Go.DL
open Go.Proofs.Tryz
open Go Go.Proofs
set_option maxHeartbeats 8000000
def Gj{T:Type}(node:Int->T->Bool)(most:Int)(d:Int)(x:T)(n:Int):Option Int:=if n+1<=most/\node d x=true then some (n+1) else none
def Ii(most:Int)(x:FExp):Option Int:=visE (Gj Fz most) x 1 0
def Fg(most:Int)(x:FFact):Option Int:=visF (Gj Fd most) x 1 0
theorem G6{T:Type}{node:Int->T->Bool}{most d:Int}{x:T}{n:Int}(h:¬(n+1<=most)\/node d x=false):Gj node most d x n=none:=by
 unfold Gj;rw[if_neg];rintro⟨h1,h2⟩;rcases h with h|h
 ·exact h h1
 ·rw[h]at h2;cases h2
theorem G5{T:Type}{node:Int->T->Bool}{most d:Int}{x:T}{n:Int}(h:n+1<=most)(h2:node d x=true):Gj node most d x n=some (n+1):=by
 unfold Gj;rw[if_pos ⟨h,h2⟩]
def GL(ip:Nat)(most:Int):Sig->Int->Prop:=fun V n=>V ip=some (.cells [dI n])/\0<=n/\n<=most
theorem GL.mono{ip:Nat}{most:Int}:MonoG (GL ip most):=fun V S' s h hk=>⟨hk _ _ h.1 rfl,h.2⟩
theorem QT(e:FExp)(most:Int)(V:Sig)(hw:e.wt<=1073741824)(hm:0<=most/\most<=1000000):DCall prog 235 [pE e,dI most] V fun x S'=>x=(if(Ii most e).isSome then .ret (dI ((Ii most e).getD 0)) else .panic unf2)/\S'=V:=by
 obtain⟨hm0,hm1⟩:=hm
 refine Bh func235 rfl (by decide) ntmps235 (by simp) ?_
 try refine gz ?_ [] [5]
 refine newV (fun ip hip =>?_)
 try refine gz ?_ [] [5]
 have hst:∀{S:Type} (a:Option S),a=a:=fun _=>rfl
 have ht:∀j,(j=ip)->(V.set ip (.cells [dI 0])) j≠none:=fun j e=>by rw[e,w7];simp
 have hsub:∀(did:Nat) (S':Sig),(∀j x,(V.set ip (.cells [dI 0])) j=some x->¬(j=ip)->S' j=some x/\j≠did)->Sub V (dels [did] S'):=fun did S' h=>FV fun j x hj=>by
  have e:j≠ip:=fun e=>by rw[e,hip]at hj;cases hj
  exact h j x (by rw[w8 _ _ e];exact hj) e
 refine IX unf2 (GL ip most) (· = ip) (· = ip) (Ii most e) 0 (GL.mono.indep _) GL.mono.fresh ⟨w7 .., by omega,hm0⟩ ht ht rfl (fun l did LO SL hLO hd hl htl hSL hG hnt =>?_) (fun did n S' ho hdn hdd hG hk =>?_) (fun did S' ho hdn hdd hk =>?_)
 ·refine KP l _ _ (· = ip) (Gj Fz most) (fun d x S1 n hd1 hd2 hx hG1 =>?_) (fun V s a o h ha=>h.new GL.mono.fresh ha) e SL 0 hnt hw hG
  refine Eu hLO hG1.1 ?_
  try refine gz ?_ [] [5]
  refine⟨hG1.1,?_⟩
  obtain⟨hc,hn0,hn1⟩:=hG1.busy hLO (GL.mono.indep _) hl
  obtain⟨Sb,hSb⟩:∃Sb,Sb=S1.set l (Ce LO):=⟨_,rfl⟩
  rw[<-hSb]at hc⊢
  have hK:∀m:Int,Keep (· = ip) (S1.set l (Ce LO)) (Sb.set ip (.cells [dI m])):=fun m j x hj hne=>by rw[w8 _ _ hne,hSb];exact hj
  rw[<-Sig.set_self _ hc]
  repeat' first|(exact Kb (G6 (by first|exact .inl (by assumption)|exact .inr (by assumption))) (hG1.bad hl (fun _ h=>h) (hK _)))|refine gz ?_ [] [5]|apply gy<;>intro hh
  exact HU (G5 (by omega) (by assumption)) hLO (GL.mono.indep _) hG1 htl hl ⟨w7 .., by omega,by omega⟩ (hK _)
 ·try refine gf hG.1 ?_ [] [5]
  rw[ho]
  exact Ng [did] (S':=V) (d':=dI n) ⟨rfl,rfl⟩ (hsub did S' hk) (hd:=by simp[hdd]) (hw:=A8 _)
 ·rw[ho]
  exact Ju [did] (S':=V) ⟨rfl,rfl⟩ (hsub did S' hk) (hd:=by simp[hdd])
@[reducible,instance] def a235e:=fun e most V=>gh2 (@QT e most V)
theorem QS(e:FFact)(most:Int)(V:Sig)(hw:e.wt<=1073741824)(hm:0<=most/\most<=1000000):DCall prog 235 [pF e,dI most] V fun x S'=>x=(if(Fg most e).isSome then .ret (dI ((Fg most e).getD 0)) else .panic unf2)/\S'=V:=by
 obtain⟨hm0,hm1⟩:=hm
 refine Bh func235 rfl (by decide) ntmps235 (by simp) ?_
 try refine gz ?_ [] [5]
 refine newV (fun ip hip =>?_)
 try refine gz ?_ [] [5]
 have hst:∀{S:Type} (a:Option S),a=a:=fun _=>rfl
 have ht:∀j,(j=ip)->(V.set ip (.cells [dI 0])) j≠none:=fun j e=>by rw[e,w7];simp
 have hsub:∀(did:Nat) (S':Sig),(∀j x,(V.set ip (.cells [dI 0])) j=some x->¬(j=ip)->S' j=some x/\j≠did)->Sub V (dels [did] S'):=fun did S' h=>FV fun j x hj=>by
  have e:j≠ip:=fun e=>by rw[e,hip]at hj;cases hj
  exact h j x (by rw[w8 _ _ e];exact hj) e
 refine IX unf2 (GL ip most) (· = ip) (· = ip) (Fg most e) 0 (GL.mono.indep _) GL.mono.fresh ⟨w7 .., by omega,hm0⟩ ht ht rfl (fun l did LO SL hLO hd hl htl hSL hG hnt =>?_) (fun did n S' ho hdn hdd hG hk =>?_) (fun did S' ho hdn hdd hk =>?_)
 ·refine KO l _ _ (· = ip) (Gj Fd most) (fun d x S1 n hd1 hd2 hx hG1 =>?_) (fun V s a o h ha=>h.new GL.mono.fresh ha) e SL 0 hnt hw hG
  refine Eu hLO hG1.1 ?_
  try refine gz ?_ [] [5]
  refine⟨hG1.1,?_⟩
  obtain⟨hc,hn0,hn1⟩:=hG1.busy hLO (GL.mono.indep _) hl
  obtain⟨Sb,hSb⟩:∃Sb,Sb=S1.set l (Ce LO):=⟨_,rfl⟩
  rw[<-hSb]at hc⊢
  have hK:∀m:Int,Keep (· = ip) (S1.set l (Ce LO)) (Sb.set ip (.cells [dI m])):=fun m j x hj hne=>by rw[w8 _ _ hne,hSb];exact hj
  rw[<-Sig.set_self _ hc]
  repeat' first|(exact Kb (G6 (by first|exact .inl (by assumption)|exact .inr (by assumption))) (hG1.bad hl (fun _ h=>h) (hK _)))|refine gz ?_ [] [5]|apply gy<;>intro hh
  exact HU (G5 (by omega) (by assumption)) hLO (GL.mono.indep _) hG1 htl hl ⟨w7 .., by omega,by omega⟩ (hK _)
 ·try refine gf hG.1 ?_ [] [5]
  rw[ho]
  exact Ng [did] (S':=V) (d':=dI n) ⟨rfl,rfl⟩ (hsub did S' hk) (hd:=by simp[hdd]) (hw:=A8 _)
 ·rw[ho]
  exact Ju [did] (S':=V) ⟨rfl,rfl⟩ (hsub did S' hk) (hd:=by simp[hdd])
@[reducible,instance] def a235f:=fun e most V=>gh2 (@QS e most V)
def cB:List Str->D
 |[] => .nilp
 |s::r => .cptr [cB r,.str s] 0
theorem Tg(b:List Str)(s:Str)(V:Sig):DCall prog 303 [cB b,.str s] V (rS (.bool (decide (s∈b))) V):=by
 induction b with
 |nil =>
  have hb:cB []=.nilp:=rfl
  refine en func303 ntmps303 ?_
  refine gf hb ?_
  exact fe1 trivial
 | cons x r ih =>
  have hb:cB (x::r)=.cptr [cB r,.str x] 0:=rfl
  refine en func303 ntmps303 ?_
  by_cases hx:x=s
  ·refine gf (gi hb hx) ?_
   exact fe1 trivial
  ·have hx':¬s=x:=fun h=>hx h.symm
   rw[show decide (s∈x::r)=decide (s∈r) by simp[hx']]
   repeat' first|refine gf (gi hb hx) ?_|refine Fj (ih) ?_|refine Fk (ih) ?_|refine gf (gi hb hx) ?_|apply gy<;>intro hh
   any_goals (first|exact fe1 trivial|fail)
@[reducible,instance] def a303:=fun b s V=>ah0 (@Tg b s V)
mutual
def freeE:FExp->List Str->List Str->List Str
 |.mk o _ t k,b,a=>CH o t b 0 k (if o=3 /\ ¬t∈b then ins t a else a)
def CH(o:Int)(t:Str)(b:List Str):Nat->List FExp->List Str->List Str
 |_,[],a=>a
 |i,x::r,a=>CH o t b (i+1) r (freeE x (if o=9/\i=1 then t::b else b) a)
end
theorem Pw(e:FExp)(b a:List Str):freeE e b a=CH e.op e.text b 0 e.kids (if e.op=3 /\ ¬e.text∈b then ins e.text a else a):=by cases e;rw[freeE];rfl
theorem QH: ∀(n:Nat) (e:FExp) (b acc:List Str) (im:Nat) (V:Sig),e.wt<=n->n<=1073741824->V im=some (.map (eSS acc))->
  DCall prog 276 [.agg (Ah e),cB b,.map im] V fun x S'=>x=.ret (.tup [])/\S'=V.set im (.map (eSS (freeE e b acc))):=by
 intro n
 induction n with
 |zero =>
  intro e b acc im V hx
  have:=e.wt_pos
  omega
 | succ n ih =>
  intro e b acc im V hx hn hm
  obtain⟨w1,w2,hw3⟩:=e.wt_le
  have hcB : .cptr [cB b,.str e.text] 0=cB (e.text::b):=rfl
  refine en func276 ntmps276 ?_
  by_cases hc:e.op=3 /\ ¬e.text∈b
  ·obtain⟨A,hA⟩:∃A,A=ins e.text acc:=⟨_,rfl⟩
   have hfr:freeE e b acc=CH e.op e.text b 0 e.kids A:=by rw[Pw,if_pos hc,hA]
   obtain⟨hc1,hc2⟩:=hc
   refine gf (gi hm (gi hc1 (gi hc2 hA.symm))) ?_
   refine AA [1,2,3,23,24] (fun (k:Nat) (a:List Str)=>k<=e.kids.length/\CH e.op e.text b 0 e.kids A=CH e.op e.text b k (e.kids.drop k) a) (fun k _=>[(25,dI k)]) (fun _ a=>V.set im (.map (eSS a))) (fun k _=>e.kids.length-k) (0) (A) (by simp) (fun k a hI =>?_)
   obtain⟨hk,hR⟩:=hI
   by_cases hkl:k<e.kids.length
   ·rw[A0 hkl,CH]at hR
    have hi:(V.set im (.map (eSS a))) im=some (.map (eSS a)):=w7 ..
    by_cases h9:e.op=9/\k=1
    ·omega
    ·rw[if_neg h9]at hR
     by_cases h9o:e.op=9
     ·have h9k:¬k=1:=fun h=>h9 ⟨h9o,h⟩
      refine gf h9o ?_
      refine Ab (ih e.kids[k] b a im _ (by have:=hw3 k hkl;omega) (by omega) hi) (fun d S' hr =>?_) (fun d S' hr=>by cases hr.1)
      obtain⟨h1,rfl⟩:=hr
      cases h1
      refine gz ?_
      exact⟨k+1,freeE e.kids[k] b a,⟨by omega,hR⟩,td1,wkR⟩
     ·refine gf h9o ?_
      refine Ab (ih e.kids[k] b a im _ (by have:=hw3 k hkl;omega) (by omega) hi) (fun d S' hr =>?_) (fun d S' hr=>by cases hr.1)
      obtain⟨h1,rfl⟩:=hr
      cases h1
      refine gz ?_
      exact⟨k+1,freeE e.kids[k] b a,⟨by omega,hR⟩,td1,wkR⟩
   ·rw[A1 hkl,CH]at hR
    refine gz ?_
    refine Eb (S':=V.set im (.map (eSS (freeE e b acc)))) ⟨rfl,rfl⟩ (hZ:=by rw[hfr,hR];exact Sub.refl _)
  ·obtain⟨A,hA⟩:∃A,A=acc:=⟨_,rfl⟩
   have hfr:freeE e b acc=CH e.op e.text b 0 e.kids A:=by rw[Pw,if_neg hc,hA]
   subst hA
   have hsub:Sub (V.set im (.map (eSS A))) V:=by rw[Sig.set_self _ hm];exact Sub.refl _
   by_cases hc1:e.op=3
   ·have hc2:e.text∈b:=by by_cases h:e.text∈b;exact h;exact absurd ⟨hc1,h⟩ hc
    refine gf (gi hc1 hc2) ?_
    refine AA [1,2,3,23,24] (fun (k:Nat) (a:List Str)=>k<=e.kids.length/\CH e.op e.text b 0 e.kids A=CH e.op e.text b k (e.kids.drop k) a) (fun k _=>[(25,dI k)]) (fun _ a=>V.set im (.map (eSS a))) (fun k _=>e.kids.length-k) (0) (A) (by simp) (fun k a hI =>?_)
    obtain⟨hk,hR⟩:=hI
    by_cases hkl:k<e.kids.length
    ·rw[A0 hkl,CH]at hR
     have hi:(V.set im (.map (eSS a))) im=some (.map (eSS a)):=w7 ..
     by_cases h9:e.op=9/\k=1
     ·omega
     ·rw[if_neg h9]at hR
      by_cases h9o:e.op=9
      ·have h9k:¬k=1:=fun h=>h9 ⟨h9o,h⟩
       refine gf h9o ?_
       refine Ab (ih e.kids[k] b a im _ (by have:=hw3 k hkl;omega) (by omega) hi) (fun d S' hr =>?_) (fun d S' hr=>by cases hr.1)
       obtain⟨h1,rfl⟩:=hr
       cases h1
       refine gz ?_
       exact⟨k+1,freeE e.kids[k] b a,⟨by omega,hR⟩,td1,wkR⟩
      ·refine gf h9o ?_
       refine Ab (ih e.kids[k] b a im _ (by have:=hw3 k hkl;omega) (by omega) hi) (fun d S' hr =>?_) (fun d S' hr=>by cases hr.1)
       obtain⟨h1,rfl⟩:=hr
       cases h1
       refine gz ?_
       exact⟨k+1,freeE e.kids[k] b a,⟨by omega,hR⟩,td1,wkR⟩
    ·rw[A1 hkl,CH]at hR
     refine gz ?_
     refine Eb (S':=V.set im (.map (eSS (freeE e b A)))) ⟨rfl,rfl⟩ (hZ:=by rw[hfr,hR];exact Sub.refl _)
   ·refine gf hc1 ?_
    refine AA [1,2,3,23,24] (fun (k:Nat) (a:List Str)=>k<=e.kids.length/\CH e.op e.text b 0 e.kids A=CH e.op e.text b k (e.kids.drop k) a) (fun k _=>[(25,dI k)]) (fun _ a=>V.set im (.map (eSS a))) (fun k _=>e.kids.length-k) (0) (A) (by simp) (fun k a hI =>?_)
    obtain⟨hk,hR⟩:=hI
    by_cases hkl:k<e.kids.length
    ·rw[A0 hkl,CH]at hR
     have hi:(V.set im (.map (eSS a))) im=some (.map (eSS a)):=w7 ..
     by_cases h9:e.op=9/\k=1
     ·rw[if_pos h9]at hR
      obtain⟨h9,rfl⟩:=h9
      have hb0:cB []=.nilp:=rfl
      rcases b with _|⟨x0,b0⟩
      ·refine gf (gi h9 hb0) ?_
       refine Ab (ih e.kids[1] [e.text] a im _ (by have:=hw3 1 hkl;omega) (by omega) hi) (fun d S' hr =>?_) (fun d S' hr=>by cases hr.1)
       obtain⟨h1,rfl⟩:=hr
       cases h1
       refine gz ?_
       exact⟨2,freeE e.kids[1] [e.text] a,⟨by omega,hR⟩,td1,wkR⟩
      ·have hb1:cB (x0::b0)=.cptr [cB b0,.str x0] 0:=rfl
       refine gf (gi h9 hb1) ?_
       refine Ab (ih e.kids[1] (e.text::x0::b0) a im _ (by have:=hw3 1 hkl;omega) (by omega) hi) (fun d S' hr =>?_) (fun d S' hr=>by cases hr.1)
       obtain⟨h1,rfl⟩:=hr
       cases h1
       refine gz ?_
       exact⟨2,freeE e.kids[1] (e.text::x0::b0) a,⟨by omega,hR⟩,td1,wkR⟩
     ·rw[if_neg h9]at hR
      by_cases h9o:e.op=9
      ·have h9k:¬k=1:=fun h=>h9 ⟨h9o,h⟩
       refine gf h9o ?_
       refine Ab (ih e.kids[k] b a im _ (by have:=hw3 k hkl;omega) (by omega) hi) (fun d S' hr =>?_) (fun d S' hr=>by cases hr.1)
       obtain⟨h1,rfl⟩:=hr
       cases h1
       refine gz ?_
       exact⟨k+1,freeE e.kids[k] b a,⟨by omega,hR⟩,td1,wkR⟩
      ·refine gf h9o ?_
       refine Ab (ih e.kids[k] b a im _ (by have:=hw3 k hkl;omega) (by omega) hi) (fun d S' hr =>?_) (fun d S' hr=>by cases hr.1)
       obtain⟨h1,rfl⟩:=hr
       cases h1
       refine gz ?_
       exact⟨k+1,freeE e.kids[k] b a,⟨by omega,hR⟩,td1,wkR⟩
    ·rw[A1 hkl,CH]at hR
     refine gz ?_
     refine Eb (S':=V.set im (.map (eSS (freeE e b A)))) ⟨rfl,rfl⟩ (hZ:=by rw[hfr,hR];exact Sub.refl _)
def cSet(s:List Str):D := .cmap (s.map .str) (s.map fun _ => .bool true)
instance a241e'(x:FExp)(V:Sig):Ans 241 [.iface 308 (.agg (Ah x))] V True (.func (.func 278) [] [.cptr [pE x] 0]):=a241e x V
instance a241f'(x:FFact)(V:Sig):Ans 241 [.iface 316 (.agg (AM x))] V True (.func (.func 278) [] [.cptr [pF x] 0]):=a241f x V
instance a235e'(e:FExp)(most:Int)(V:Sig):Giv 235 [.iface 308 (.agg (Ah e)),dI most] V (e.wt<=1073741824/\(0<=most/\most<=1000000)) (Ii most e).isSome (dI ((Ii most e).getD 0)) unf2:=a235e e most V
instance a235f'(e:FFact)(most:Int)(V:Sig):Giv 235 [.iface 316 (.agg (AM e)),dI most] V (e.wt<=1073741824/\(0<=most/\most<=1000000)) (Fg most e).isSome (dI ((Fg most e).getD 0)) unf2:=a235f e most V
theorem TA(e:FExp)(V:Sig)(hw:e.wt<=1073741824):DCall prog 237 [.agg (Ah e)] V (rS (cSet (freeE e [] [])) V):=by
 refine en func237 ntmps237 ?_
 try refine gz ?_
 refine LF (fun im him =>?_)
 try refine gz ?_
 refine Ab (QH _ e [] [] im _ (Nat.le_refl _) hw (w7 ..)) (fun d S' hr =>?_) (fun d S' hr=>by cases hr.1)
 obtain⟨h1,rfl⟩:=hr
 cases h1
 repeat ((fail_if_success (first|(refine cfr 8 (i:=im) (m:=eSS (freeE e [] [])) (w7 ..) ?_)|fail));(refine goX1 trivial ?_))
 refine cfr 8 (i:=im) (m:=eSS (freeE e [] [])) (w7 ..) ?_
 rw[UP,UN,w9,Sig.set_del _ _ him]
 try refine gz ?_
 exact fe1 trivial
@[reducible,instance] def a237:=fun e V=>ah1 (@TA e V)
theorem JA(e:FExp)(V:Sig):DCall prog 236 [.agg (Ah e)] V (rS (.func (.func 275) [] [.cptr (Ah e) 0]) V):=by
 refine en func236 ntmps236 ?_
 try refine gz ?_
 exact fe1 trivial
@[reducible,instance] def a236:=fun e V=>ah0 (@JA e V)
theorem QI{S:Type}(l:Nat)(Good:Sig->S->Prop)(touch tp:Nat->Prop)(step:FExp->S->Option S)(e:FExp)(V:Sig)(s0:S)(hw:e.wt<=1073741824)
  (hy:∀(x:FExp) V s,x.wt<=1073741824->Good V s->DYield prog l [.agg (Ah x)] V (OutO unf2 (.bool true) Good (Keep tp V) touch V (step x s)))
  (hi:Indep Good V) (hf:OS Good) (h0:Good V s0) (ht:∀j,touch j->tp j) (htp:∀j,V j=none->¬tp j) :
  DCall prog 275 [.yld l,.cptr (Ah e) 0] V (OutO unf2 (.tup []) Good (Keep tp V) touch V (visE (fun _ x s=>step x s) e 1 s0)):=by
 refine Bh func275 rfl (by decide) ntmps275 (by simp) ?_
 try refine gz ?_
 refine IX unf2 Good touch tp (visE (fun _ x s=>step x s) e 1 s0) s0 hi hf h0 (fun j hj hn=>htp j hn (ht j hj)) (fun j hj hn=>htp j hn hj) rfl (fun l2 did LO SL hLO hd hl htl hSL hG hnt =>?_) (fun did s' S' ho hdn hdd hG hk =>?_) (fun did S' ho hdn hdd hk =>?_)
 ·have hi2:Indep Good (V.set did .defs):=hi.older fun j hj=>by
   by_cases e:j=did
   ·rw[e];exact hd
   ·rw[w8 _ _ e]at hj;exact hj
  refine KP l2 _ _ touch (fun _ x s=>step x s) (fun d x S1 s hd1 hd2 hx hG1 =>?_) (fun V s a o h ha=>h.new hf ha) e SL s0 hnt hw hG
  refine Eu hLO hG1.1 ?_
  try refine gz ?_
  refine⟨hG1.1,?_⟩
  have hGb:=hG1.busy hLO hi2 hl
  have hpx:pE x=.iface 308 (.agg (Ah x)):=rfl
  try refine gf hpx ?_
  refine yldWG (hy x _ s hx hGb) (fun e S2 hr =>?_) (fun e S2 hr =>?_)
  ·obtain⟨s2,hs2,rfl,hG2,hK⟩:=hr.ret
   try refine gz ?_
   exact HU hs2 hLO hi2 hG1 htl hl hG2 hK
  ·obtain⟨hn,rfl,hb2⟩:=hr.pan
   try refine gz ?_
   exact Kb hn (hG1.bad hl ht hb2)
 ·rw[ho]
  try refine gz ?_
  refine Ng [did] (S':=S'.del did) (d' := .tup []) ⟨rfl,hi did hdn _ _ _ hG ⟨_,hdd,rfl⟩ (fun j hj=>by simp only[Sig.del,hj,if_false]),fun j x hj hn =>?_⟩ (Sub.refl _) (hd:=by simp[hdd]) (hw:=A8 _)
  obtain⟨h1,h2⟩:=hk j x hj hn
  simp only[Sig.del,h2,if_false];exact h1
 ·rw[ho]
  try refine gz ?_
  refine Ju [did] (S':=S'.del did) ⟨rfl,fun j x hj hn =>?_⟩ (Sub.refl _) (hd:=by simp[hdd])
  obtain⟨h1,h2⟩:=hk j x hj hn
  simp only[Sig.del,h2,if_false];exact h1
abbrev GenT:=List (Str×Int)×Bool
def seeG(name:Str)(n:Int)(s:GenT):GenT:=if hasM name s.1=true then(s.1,s.2&&decide (getM 0 name s.1=n)) else(s.1++[(name,n)],s.2)
theorem LD{α β:Type}[DecidableEq α](k:α)(v:β): ∀m:List (α×β),hasM k m=false->putM k v m=m++[(k,v)]
 |[],_=>rfl
 | p::r,h=>by
  obtain⟨a,b⟩:=p
  by_cases e:k=a
  ·simp[hasM,e]at h
  ·have h2:hasM k r=false:=by simpa[hasM,e] using h
   rw[putM,if_neg e,LD k v r h2];rfl
structure GenS(mp ib il it:Nat)(V:Sig)(s:GenT):Prop where
 om:V mp=some (.map (eSN s.1))
 ob:V ib=some (.cells [.bool s.2])
 ol:V il=some (.cells [.slice (cS (s.1.map (·.1))) (.tag it)])
 ot:V it=some (.tail 1 s.1.length)
def tG(mp ib il it:Nat):Nat->Prop:=fun j=>j=mp\/j=ib\/j=il\/j=it
theorem KS(name:Str)(n:Int)(im mp ib il it:Nat)(s:GenT)(V:Sig)(hl:s.1.length<=100000000)(h0:V im=some (.cells [.map mp]))(hG:GenS mp ib il it V s)(hb:ib≠il):
  DCall prog 244 [.str name,dI n,.ptr im 0,.ptr ib 0,.ptr il 0] V fun x S'=>x=.ret (.tup [])/\GenS mp ib il it S' (seeG name n s)/\Keep (tG mp ib il it) V S':=by
 obtain⟨acc,ok⟩:=s
 obtain⟨om,ob,ol,ot⟩:=hG
 simp only at om ob ol ot hl
 have e1:il≠mp:=Ac ol om (by simp)
 have e2:it≠mp:=Ac ot om (by simp)
 have e3:it≠il:=Ac ot ol (by simp)
 have e4:it≠ib:=Ac ot ob (by simp)
 have e5:ib≠mp:=Ac ob om (by simp)
 refine en func244 ntmps244 ?_
 cases hh:hasM name acc
 ·have hp:=LD name n acc hh
  have hs:seeG name n (acc,ok)=(acc++[(name,n)],ok):=by unfold seeG;rw[if_neg (by rw[hh];simp)]
  have hc:cS (acc.map (·.1))++[[D.str name]]=cS ((acc++[(name,n)]).map (·.1)):=by simp[cS]
  rw[hs]
  refine gf (gi h0 (gi om (gi ob (gi ol (gi ot (gi hh hp)))))) ?_
  refine Eb (S':=_) ⟨rfl,⟨?_,?_,?_,?_⟩,fun j o hj hn =>?_⟩
  ·rw[w8 _ _ (Ne.symm e1),w8 _ _ (Ne.symm e2),w7]
  ·rw[w8 _ _ hb,w8 _ _ (Ne.symm e4),w8 _ _ e5];exact ob
  ·rw[w7,hc]
  ·rw[w8 _ _ e3,w7,List.length_append];rfl
  ·have n1:j≠mp:=fun e=>hn (.inl e)
   have n2:j≠il:=fun e=>hn (.inr (.inr (.inl e)))
   have n3:j≠it:=fun e=>hn (.inr (.inr (.inr e)))
   rw[w8 _ _ n2,w8 _ _ n3,w8 _ _ n1];exact hj
 ·have hs:seeG name n (acc,ok)=(acc,ok&&decide (getM 0 name acc=n)):=by unfold seeG;rw[if_pos hh]
  have hK:∀b,Keep (tG mp ib il it) V (V.set ib (.cells [.bool b])):=fun b j o hj hn=>by rw[w8 _ _ fun e=>hn (.inr (.inl e))];exact hj
  have hg:GenS mp ib il it (V.set ib (.cells [.bool (ok&&decide (getM 0 name acc=n))])) (acc,ok&&decide (getM 0 name acc=n)) :=
   ⟨by rw[w8 _ _ (Ne.symm e5)];exact om,w7 .., by rw[w8 _ _ (Ne.symm hb)];exact ol,by rw[w8 _ _ e4];exact ot⟩
  rw[hs]
  cases ok
  ·refine gf (gi h0 (gi om (gi ob (gi ol (gi ot hh))))) ?_
   exact fin0 (S':=_) ⟨rfl,hg,hK _⟩
  ·refine gf (gi h0 (gi om (gi ob (gi ol (gi ot hh))))) ?_
   exact fin0 (S':=_) ⟨rfl,hg,hK _⟩
section
variable {S:Type}(step:Int->FExp->S->Option S)(pot:S->Nat)(hP:∀d x s s',step d x s=some s'->pot s'<=pot s+1)
include hP
mutual
theorem Lr: ∀(x:FExp) (d:Int) (s s':S),visE step x d s=some s'->pot s'<=pot s+x.wt
 | .mk o n t k,d,s,s',he=>by
  have hw:(FExp.mk o n t k).wt=1+t.length+wtL FExp.wt k:=FExp.wt_eq _
  rw[visE]at he
  split at he
  ·cases he
  ·rename_i s1 h1
   have:=hP _ _ _ _ h1
   have:=Mo k _ _ _ he
   omega
theorem Mo: ∀(l:List FExp) (d:Int) (s s':S),Dk step l d s=some s'->pot s'<=pot s+wtL FExp.wt l
 |[],d,s,s',he=>by rw[Dk]at he;cases he;omega
 | x::r,d,s,s',he=>by
  rw[Dk]at he
  rw[wtL]
  split at he
  ·cases he
  ·rename_i s1 h1
   have:=Lr x _ _ _ h1
   have:=Mo r _ _ _ he
   omega
end
end
theorem QF{S:Type}(l i:Nat)(Good:Sig->S->Prop)(Bad:Sig->Prop)(touch:Nat->Prop)(step:Int->FExp->S->Option S)(pot:S->Nat)(B:Nat)(hP:∀d x s s',step d x s=some s'->pot s'<=pot s+1)(hti:¬touch i)
  (hy:∀(d:Int) (x:FExp) V s,1<=d->d<=2147483648->x.wt<=1073741824->pot s<B->Good V s->DYield prog l [dI d,pE x] V (OutO unf2 (.bool true) Good Bad touch V (step d x s))) :
  ∀(n:Nat) (x:FExp) (d:Int) V s,x.wt<=n->n<=1073741824->1<=d->d+n<=2147483648->pot s+x.wt<=B->Good V s->V i=some (.cells [.func (.func 279) [] [.cptr [.yld l] 0,.ptr i 0]])->
   DCall prog 279 [pE x,dI d,.cptr [.yld l] 0,.ptr i 0] V (OutO unf2 (.bool true) Good Bad touch V (visE step x d s)):=by
 intro n
 induction n with
 |zero =>
  intro x d V s hx
  have:=x.wt_pos
  omega
 | succ n ih =>
  intro x d V s hx hn hd hd2 hB hG hi
  have hwx:=FExp.wt_eq x
  have hpx:pE x=.iface 308 (.agg (Ah x)):=rfl
  refine en func279 ntmps279 ?_
  refine gz ?_
  refine yldW (hy d x V s hd (by omega) (by omega) (by omega) hG) (fun e S' hr =>?_) (fun e S' hr =>?_)
  ·obtain⟨s',hst,rfl,hG',hK⟩:=hr.ret
   have hi':=hK i _ hi hti
   have hp':=hP _ _ _ _ hst
   rw[Ls,hst]
   simp only
   have hw3:∀(k:Nat) (h:k<x.kids.length),(x.kids[k]).wt<x.wt:=by have:=x.wt_le;grind
   have hkl:x.kids.length<=1073741824:=by have:=x.wt_le;omega
   refine gz ?_
   refine invW SC (Nl x S' (by omega)) (fun e S2 hr =>?_) (fun e S2 hr=>by cases hr.1) (hx:=by exact hpx)
   obtain⟨h1,h2⟩:=hr
   simp only[DE.ret.injEq]at h1
   subst h1
   rw[h2]
   clear h2 S2
   refine gz ?_
   refine D6 [1,3,15,16] (fun (j:Nat) (s1:S) (S1:Sig)=>j<=x.kids.length/\pot s1+wtL FExp.wt (x.kids.drop j)<=B/\Good S1 s1/\Dk step x.kids (d+1) s'=Dk step (x.kids.drop j) (d+1) s1/\(∀j o,V j=some o->¬touch j->S1 j=some o)) (fun j _ _=>[(17,dI j)]) (fun _ _ S1=>S1) (fun j _ _=>x.kids.length-j) (0) (s') (S') (by exact⟨by omega,by rw[List.drop_zero];omega,hG',rfl,hK⟩) (fun j s1 S1 hI =>?_)
   obtain⟨hj,hp1,hG1,hR,hK1⟩:=hI
   have hi1:=hK1 i _ hi hti
   by_cases hj':j<x.kids.length
   ·rw[A0 hj',Dk]at hR
    rw[A0 hj',wtL]at hp1
    refine gf hi1 ?_
    refine Ab (ih x.kids[j] (d+1) S1 s1 (by have:=hw3 j hj';omega) (by omega) (by omega) (by omega) (by omega) hG1 hi1) (fun e S2 hr =>?_) (fun e S2 hr =>?_)
    ·obtain⟨s2,hs2,rfl,hG2,hK2⟩:=hr.ret
     have hp2:=Lr step pot hP _ _ _ _ hs2
     rw[hs2]at hR
     refine gz ?_
     exact⟨j+1,s2,S2,⟨by omega,by omega,hG2,hR,fun j o h1 h2=>hK2 _ _ (hK1 _ _ h1 h2) h2⟩,td1,wkR⟩
    ·obtain⟨hn,rfl,hb⟩:=hr.pan
     rw[hn]at hR;rw[hR]
     exact finP (S':=S2) ⟨rfl,hb⟩
   ·rw[A1 hj',Dk]at hR
    rw[hR]
    refine gz ?_
    refine fin1 (S':=S1) ?_
    exact⟨rfl,hG1,hK1⟩
  ·obtain⟨hst,rfl,hb⟩:=hr.pan
   rw[Ls,hst]
   exact finP (S':=S') ⟨rfl,hb⟩
theorem QG{S:Type}(l:Nat)(Good:Sig->S->Prop)(Bad:Sig->Prop)(touch:Nat->Prop)(step:Int->FExp->S->Option S)(pot:S->Nat)(B:Nat)(hP:∀d x s s',step d x s=some s'->pot s'<=pot s+1)
  (hy:∀(d:Int) (x:FExp) V s,1<=d->d<=2147483648->x.wt<=1073741824->pot s<B->Good V s->DYield prog l [dI d,pE x] V (OutO unf2 (.bool true) Good Bad touch V (step d x s)))
  (hm : ∀ V s a o,Good V s->V a=none->Good (V.set a o) s) (x:FExp) (V:Sig) (s:S) (ht : ∀ a,V a=none -> ¬ touch a) (hx:x.wt<=1073741824) (hB:pot s+x.wt<=B) (hG:Good V s) :
   DCall prog 278 [.yld l,.cptr [pE x] 0] V (OutO unf2 (.tup []) Good Bad touch V (visE step x 1 s)):=by
 refine en func278 ntmps278 ?_
 refine gz ?_ [] [3]
 refine newV (fun a ha =>?_)
 refine gz ?_ [] [3]
 refine Ab (QF l a Good Bad touch step pot B hP (ht a ha) hy x.wt x 1 (V.set a _) s (Nat.le_refl _) hx (by omega) (by omega) hB (hm _ _ _ _ hG ha) (w7 ..)) (fun e S' hr =>?_) (fun e S' hr =>?_)
 ·obtain⟨s',hs',rfl,hG',hK⟩:=hr.ret
  rw[hs']
  refine gz ?_ [] [3]
  refine Eb (S':=S') ?_
  exact⟨rfl,hG',fun j o h1 h2=>hK j o (by rw[w8 _ _ fun e=>by rw[e,ha]at h1;cases h1];exact h1) h2⟩
 ·obtain⟨hn,rfl,hb⟩:=hr.pan
  rw[hn]
  exact finP (S':=S') ⟨rfl,hb⟩
theorem QJ{S:Type}(l:Nat)(Good:Sig->S->Prop)(touch tp:Nat->Prop)(step:FExp->S->Option S)(e:FExp)(V:Sig)(s0:S)(pot:S->Nat)(B:Nat)(hP:∀x s s',step x s=some s'->pot s'<=pot s+1)(hB:pot s0+e.wt<=B)(hw:e.wt<=1073741824)
  (hy:∀(x:FExp) V s,x.wt<=1073741824->pot s<B->Good V s->DYield prog l [.agg (Ah x)] V (OutO unf2 (.bool true) Good (Keep tp V) touch V (step x s)))
  (hi:Indep Good V) (hf:OS Good) (h0:Good V s0) (ht:∀j,touch j->tp j) (htp:∀j,V j=none->¬tp j) :
  DCall prog 275 [.yld l,.cptr (Ah e) 0] V (OutO unf2 (.tup []) Good (Keep tp V) touch V (visE (fun _ x s=>step x s) e 1 s0)):=by
 refine Bh func275 rfl (by decide) ntmps275 (by simp) ?_
 try refine gz ?_
 refine IX unf2 Good touch tp (visE (fun _ x s=>step x s) e 1 s0) s0 hi hf h0 (fun j hj hn=>htp j hn (ht j hj)) (fun j hj hn=>htp j hn hj) rfl (fun l2 did LO SL hLO hd hl htl hSL hG hnt =>?_) (fun did s' S' ho hdn hdd hG hk =>?_) (fun did S' ho hdn hdd hk =>?_)
 ·have hi2:Indep Good (V.set did .defs):=hi.older fun j hj=>by
   by_cases e:j=did
   ·rw[e];exact hd
   ·rw[w8 _ _ e]at hj;exact hj
  refine QG l2 _ _ touch (fun _ x s=>step x s) pot B (fun d x s s' h=>hP x s s' h) (fun d x S1 s hd1 hd2 hx hpb hG1 =>?_) (fun V s a o h ha=>h.new hf ha) e SL s0 hnt hw hB hG
  refine Eu hLO hG1.1 ?_
  try refine gz ?_
  refine⟨hG1.1,?_⟩
  have hGb:=hG1.busy hLO hi2 hl
  have hpx:pE x=.iface 308 (.agg (Ah x)):=rfl
  try refine gf hpx ?_
  refine yldWG (hy x _ s hx hpb hGb) (fun e S2 hr =>?_) (fun e S2 hr =>?_)
  ·obtain⟨s2,hs2,rfl,hG2,hK⟩:=hr.ret
   try refine gz ?_
   exact HU hs2 hLO hi2 hG1 htl hl hG2 hK
  ·obtain⟨hn,rfl,hb2⟩:=hr.pan
   try refine gz ?_
   exact Kb hn (hG1.bad hl ht hb2)
 ·rw[ho]
  try refine gz ?_
  refine Ng [did] (S':=S'.del did) (d' := .tup []) ⟨rfl,hi did hdn _ _ _ hG ⟨_,hdd,rfl⟩ (fun j hj=>by simp only[Sig.del,hj,if_false]),fun j x hj hn =>?_⟩ (Sub.refl _) (hd:=by simp[hdd]) (hw:=A8 _)
  obtain⟨h1,h2⟩:=hk j x hj hn
  simp only[Sig.del,h2,if_false];exact h1
 ·rw[ho]
  try refine gz ?_
  refine Ju [did] (S':=S'.del did) ⟨rfl,fun j x hj hn =>?_⟩ (Sub.refl _) (hd:=by simp[hdd])
  obtain⟨h1,h2⟩:=hk j x hj hn
  simp only[Sig.del,h2,if_false];exact h1
def stepG(x:FExp)(s:GenT):Option GenT:=some (if x.op=5 then seeG x.text x.kids.length s else s)
mutual
def genE:FExp->GenT->GenT
 |.mk o _ t k,s=>Dr k (if o=5 then seeG t k.length s else s)
def Dr:List FExp->GenT->GenT
 |[],s=>s
 |x::r,s=>Dr r (genE x s)
end
mutual
theorem Il: ∀(e:FExp) (d:Int) (s:GenT),visE (fun _ x s=>stepG x s) e d s=some (genE e s)
 |.mk o n t k,d,s=>by rw[visE,genE];exact Mq k _ _
theorem Mq: ∀(l:List FExp) (d:Int) (s:GenT),Dk (fun _ x s=>stepG x s) l d s=some (Dr l s)
 |[],d,s=>by rw[Dk,Dr]
 |x::r,d,s=>by rw[Dk,Il x,Dr];exact Mq r _ _
end
theorem H3(name:Str)(n:Int)(s:GenT):(seeG name n s).1.length<=s.1.length+1:=by
 unfold seeG;split<;>simp
theorem Mv(x:FExp)(s s':GenT)(h:stepG x s=some s'):s'.1.length<=s.1.length+1:=by
 unfold stepG at h
 cases h
 split
 ·exact H3 ..
 ·omega
theorem Pu(e:FExp)(s:GenT):(genE e s).1.length<=s.1.length+e.wt :=
 Lr (fun _ x s=>stepG x s) (fun s=>s.1.length) (fun _ x s s' h=>Mv x s s' h) e 1 s _ (Il e 1 s)
def metG:List FMeth->GenT->GenT
 |[],s=>s
 |m::r,s=>metG r (seeG m.name m.params.length s)
def BY(f:FProg):List FExp:=f.methods.map (·.body)++[f.main]
def CK(f:FProg):GenT:=Dr (BY f) (metG f.methods ([],true))
theorem JS(f:FProg):f.methods.length+wtL FExp.wt (BY f)<=f.wt:=by
 have h:∀l:List FMeth,l.length+wtL FExp.wt (l.map (·.body))<=wtL FMeth.wt l:=by
  intro l
  induction l with
  |nil=>simp[wtL]
  |cons m l ih=>simp only[List.length_cons,List.map_cons,wtL,FMeth.wt];omega
 have:=h f.methods
 unfold BY FProg.wt
 rw[Ln];simp only[wtL];omega
theorem finMC{n:Nat}{fn:Func}{R:DE->Sig->Prop}{O:Fr}{V S':Sig}{ds:List D}{d':D}(js:List Nat)(hR:R (.ret d') S')(hZ:Sub S' (dels js V))(hn:js.Nodup)(hd:∀j∈js,V j=some .defs)(h:resL tab (dels js V) O fn.results.toList=some ds)(hw:WkD (Kp ds) d'): ∃s',Wk prog n ⟨O,V,js.map .coll⟩ s'/\Rx prog n fn (Weak R) .ret s' :=
 ⟨_,Wk.refl _ _ _,js,rfl,hn,hd,Kp ds,Dg Ad h,.ret d',S',hw,hZ,hR⟩
theorem KZ(f:FProg)(V:Sig)(hw:f.wt<=100000000):DCall prog 191 [.agg (B7 f)] V (rS (.tup [sl (cS ((CK f).1.map (·.1))),.any,.bool (CK f).2]) V):=by
 obtain⟨p1,p2,p3,p4,p5⟩:=f.wt_le
 have hbw:=JS f
 refine Bh func191 rfl (by decide) ntmps191 (by simp) ?_
 try refine gz ?_ o191 [2,3,4]
 refine newV (fun il hil =>?_)
 try refine gz ?_ o191 [2,3,4]
 refine newV (fun im him =>?_)
 try refine gz ?_ o191 [2,3,4]
 refine newV (fun ib hib =>?_)
 try refine gz ?_ o191 [2,3,4]
 refine Sf (fun mp hmp =>?_)
 obtain⟨a1,b1⟩:=A4 him
 obtain⟨a2,b2⟩:=A4 hib
 obtain⟨a3,b3⟩:=A4 b2
 obtain⟨a4,b4⟩:=A4 hmp
 obtain⟨a5,b5⟩:=A4 b4
 obtain⟨a6,b6⟩:=A4 b5
 have c1:=a1.symm
 have c2:=a2.symm
 have c3:=a3.symm
 have c4:=a4.symm
 have c5:=a5.symm
 have c6:=a6.symm
 try refine gz ?_ o191 [2,3,4]
 generalize hU6:Sig.set (Sig.set _ im _) ib _=S6
 have o1:S6 il=some (.cells [.nils]):=by rw[<-hU6];simp[w8 _ _ c1,w8 _ _ c3,w8 _ _ c6]
 have o2:S6 im=some (.cells [.map mp]):=by rw[<-hU6];simp[w8 _ _ c2]
 have o3:S6 ib=some (.cells [.bool true]):=by rw[<-hU6];simp
 have o4:S6 mp=some (.map (eSN [])):=by rw[<-hU6];simp[w8 _ _ a4,w8 _ _ a5]
 have hS6:Sub V S6:=fun j x hj=>by
  have e1:j≠il:=A3 hj hil
  have e2:j≠im:=A3 hj b1
  have e3:j≠ib:=A3 hj b3
  have e4:j≠mp:=A3 hj b6
  rw[<-hU6]
  simp only[w8 _ _ e1,w8 _ _ e2,w8 _ _ e3,w8 _ _ e4]
  exact hj
 clear hU6
 refine AD il 0 1 (ds:=[.nils]) o1 rfl (fun it hit =>?_)
 have t1:il≠it:=A3 o1 hit
 have t2:im≠it:=A3 o2 hit
 have t3:ib≠it:=A3 o3 hit
 have t4:mp≠it:=A3 o4 hit
 generalize hU7:Sig.set (Sig.set _ it _) il _=S7
 have hG7:GenS mp ib il it S7 ([],true):=by
  rw[<-hU7]
  exact⟨by simp[w8 _ _ a6,w8 _ _ t4];exact o4,by simp[w8 _ _ a3,w8 _ _ t3];exact o3,by simp[cS],by simp[w8 _ _ (Ne.symm t1)]⟩
 have hm7:S7 im=some (.cells [.map mp]):=by rw[<-hU7];simp[w8 _ _ a1,w8 _ _ t2];exact o2
 have hz:∀j,S6 j=none->V j=none:=fun j hj=>by
  cases h:V j with
  |none=>rfl
  |some o=>rw[hS6 _ _ h]at hj;cases hj
 have hS7:Sub V S7:=fun j x hj=>by
  have e1:j≠il:=A3 hj hil
  have e2:j≠it:=fun e=>by rw[e,hz _ hit]at hj;cases hj
  rw[<-hU7,w8 _ _ e1,w8 _ _ e2]
  exact hS6 _ _ hj
 clear hU7
 have ht0:∀j,tG mp ib il it j->V j=none:=fun j hj=>by
  rcases hj with rfl|rfl|rfl|rfl
  ·exact b6
  ·exact b3
  ·exact hil
  ·exact hz _ hit
 have him':¬tG mp ib il it im:=fun h=>by
  rcases h with h|h|h|h
  ·exact c5 h
  ·exact c2 h
  ·exact a1 h
  ·exact t2 h
 refine VD [1,2,3,4,5,10,11,16,17,35,36,37,38,39,40,41,42,43,44,45,46,47,48,49,50,51,52,53,54,55,56,57,58,59,60,61] (fun (k:Nat) (out:List FExp) (o:Own) (s:GenT) (S1:Sig)=>k<=f.methods.length/\out=(f.methods.take k).map (·.body)/\(o=.clip \/ ∃i,o=.tag i/\S1 i=some (.tail 4 out.length)/\V i=none /\ ¬tG mp ib il it i)/\s.1.length<=k/\metG f.methods ([],true)=metG (f.methods.drop k) s/\GenS mp ib il it S1 s/\S1 im=some (.cells [.map mp])/\Sub V S1) (fun k out o _ _=>[(18,dI k),(6,.slice (out.map Ah) o)]) (fun _ _ _ _ S1=>S1) (fun k _ _ _ _=>f.methods.length-k) (0) ([]) (.clip) (_) (S7) (by exact⟨by omega,rfl,.inl rfl,Nat.le_refl _,rfl,hG7,hm7,hS7⟩) (fun k out o s S1 hI =>?_)
 obtain⟨hk,hout,ho,hsl,hR,hG,hm,hS⟩:=hI
 have hol:out.length=k:=by rw[hout];simp;omega
 by_cases hkl:k<f.methods.length
 ·rw[A0 hkl,metG]at hR
  have hwm:=p5 k hkl
  have hwb:f.methods[k].params.length<=1073741824/\f.methods[k].name.length<=1073741824:=by have:=hwm;unfold FMeth.wt at this;have:=Bu f.methods[k].params;omega
  have hbd:out++[(f.methods[k]).body]=(f.methods.take (k+1)).map (·.body):=by rw[hout,AH hkl,List.map_append];rfl
  try refine gz ?_ o191 [2,3,4]
  refine Ab (KS f.methods[k].name f.methods[k].params.length im mp ib il it s S1 (by omega) hm hG c3.symm) (fun x S2 hr =>?_) (fun x S2 hr=>by cases hr.1)
  obtain⟨e1,hG2,hK⟩:=hr
  cases e1
  have hm2:S2 im=some (.cells [.map mp]):=hK _ _ hm him'
  have hS2:Sub V S2:=fun j x hj=>hK _ _ (hS _ _ hj) fun ht=>by rw[ht0 j ht]at hj;cases hj
  have hsl2:=H3 f.methods[k].name f.methods[k].params.length s
  rcases ho with rfl|⟨i,rfl,hi1,hi0,hit⟩
  ·try refine gz ?_ o191 [2,3,4]
   refine appC (fun j hj =>?_)
   try refine gz ?_ o191 [2,3,4]
   have hj0:V j=none:=hS2.none hj
   have hjt:¬tG mp ib il it j:=fun ht=>by
    rcases ht with rfl|rfl|rfl|rfl
    ·rw[hG2.om]at hj;cases hj
    ·rw[hG2.ob]at hj;cases hj
    ·rw[hG2.ol]at hj;cases hj
    ·rw[hG2.ot]at hj;cases hj
   have hG3:GenS mp ib il it (S2.set j (.tail 4 (out++[(f.methods[k]).body]).length)) (seeG f.methods[k].name f.methods[k].params.length s) :=
    ⟨by rw[w8 _ _ fun e=>hjt (.inl e.symm)];exact hG2.om,by rw[w8 _ _ fun e=>hjt (.inr (.inl e.symm))];exact hG2.ob,by rw[w8 _ _ fun e=>hjt (.inr (.inr (.inl e.symm)))];exact hG2.ol,by rw[w8 _ _ fun e=>hjt (.inr (.inr (.inr e.symm)))];exact hG2.ot⟩
   have hm3:(S2.set j (.tail 4 (out++[(f.methods[k]).body]).length)) im=some (.cells [.map mp]):=by rw[w8 _ _ (A3 hm2 hj)];exact hm2
   have hsub:Sub (S2.set j (.tail 4 (out++[(f.methods[k]).body]).length)) (S2.set j (.tail (tab 40).size ((out.map Ah).length+[Ah (f.methods[k]).body].length))):=by simp;exact Sub.refl _
   exact⟨k+1,out++[(f.methods[k]).body],.tag j,_,S2.set j (.tail 4 (out++[(f.methods[k]).body]).length),⟨by omega,hbd,.inr ⟨j,rfl,w7 .., hj0,hjt⟩,by omega,hR,hG3,hm3,hS2.trans ((Sub.refl _).set hj)⟩,td1,wkR⟩
  ·have hi2:=hK _ _ hi1 hit
   try refine gf hi2 ?_ o191 [2,3,4]
   have hG3:GenS mp ib il it (S2.set i (.tail 4 (out++[(f.methods[k]).body]).length)) (seeG f.methods[k].name f.methods[k].params.length s) :=
    ⟨by rw[w8 _ _ fun e=>hit (.inl e.symm)];exact hG2.om,by rw[w8 _ _ fun e=>hit (.inr (.inl e.symm))];exact hG2.ob,by rw[w8 _ _ fun e=>hit (.inr (.inr (.inl e.symm)))];exact hG2.ol,by rw[w8 _ _ fun e=>hit (.inr (.inr (.inr e.symm)))];exact hG2.ot⟩
   have hm3:(S2.set i (.tail 4 (out++[(f.methods[k]).body]).length)) im=some (.cells [.map mp]):=by rw[w8 _ _ (Ac hm2 hi2 (by simp))];exact hm2
   have hsub:Sub (S2.set i (.tail 4 (out++[(f.methods[k]).body]).length)) (S2.set i (.tail 4 (out.length+1))):=by simp;exact Sub.refl _
   exact⟨k+1,out++[(f.methods[k]).body],.tag i,_,S2.set i (.tail 4 (out++[(f.methods[k]).body]).length),⟨by omega,hbd,.inr ⟨i,rfl,w7 .., hi0,hit⟩,by omega,hR,hG3,hm3,hS2.set hi0⟩,td1,wkR⟩
 ·have hke:k=f.methods.length:=by omega
  subst hke
  rw[A1 hkl,metG]at hR
  rw[List.take_length]at hout
  have hgp:CK f=Dr (out++[f.main]) s:=by unfold CK BY;rw[hR,hout]
  have hbe:out++[f.main]=BY f:=by unfold BY;rw[hout]
  have hle:(BY f).length<=f.wt:=by rw[<-hbe,List.length_append,hol];simp;omega
  rw[hbe]at hgp
  clear hR
  obtain⟨Sc,hGc,hmc,hSc,hcc⟩:∃Sc,GenS mp ib il it Sc s/\Sc im=some (.cells [.map mp])/\Sub V Sc/\(o=.clip/\Sub Sc S1 \/ ∃i,o=.tag i/\S1 i=some (.tail 4 out.length) /\ ∀x,Sub Sc (S1.set i x)):=by
   rcases ho with rfl|⟨i,rfl,hi1,hi0,hit⟩
   ·exact⟨S1,hG,hm,hS,.inl ⟨rfl,Sub.refl _⟩⟩
   ·have e:∀j,j≠i->(S1.del i) j=S1 j:=fun j hj=>by simp only[Sig.del,hj,if_false]
    refine⟨S1.del i,⟨?_,?_,?_,?_⟩,?_,fun j x hj =>?_,.inr ⟨i,rfl,hi1,fun x j y hj =>?_⟩⟩
    ·rw[e _ fun e=>hit (.inl e.symm)];exact hG.om
    ·rw[e _ fun e=>hit (.inr (.inl e.symm))];exact hG.ob
    ·rw[e _ fun e=>hit (.inr (.inr (.inl e.symm)))];exact hG.ol
    ·rw[e _ fun e=>hit (.inr (.inr (.inr e.symm)))];exact hG.ot
    ·rw[e _ (Ac hm hi1 (by simp))];exact hm
    ·rw[e _ fun e=>by rw[e,hi0]at hj;cases hj];exact hS _ _ hj
    ·by_cases h:j=i
     ·simp only[Sig.del,h,if_true]at hj;cases hj
     ·rw[e _ h]at hj;rw[w8 _ _ h];exact hj
  clear ho
  repeat ((fail_if_success (first|(refine dwp_cut1 (b := .block 2 _) [(39,sl ((BY f).map Ah)),(40,dI (BY f).length),(41,dI 0)] Sc ?_ (fun _ hK =>?_))|fail));(refine goX1 trivial ?_))
  refine dwp_cut1 (b := .block 2 _) [(39,sl ((BY f).map Ah)),(40,dI (BY f).length),(41,dI 0)] Sc ?_ (fun _ hK =>?_)
  ·have hpos:0<=(BY f).length:=Nat.zero_le _
   generalize hes:BY f=es at *
   try refine gz ?_ o191 [2,3,4]
   refine loopD4 [2,3,4,5,39,40,47,59,60,61] (fun (q:Nat) (s1:GenT) (S2:Sig) (js:List Nat)=>q<=es.length/\s1.1.length+wtL FExp.wt (es.drop q)<=100000000/\Dr es s=Dr (es.drop q) s1/\GenS mp ib il it S2 s1/\S2 im=some (.cells [.map mp])/\Sub V S2/\js.Nodup/\(∀j∈js,V j=none/\S2 j=some .defs)) (fun q _ _ _=>[(41,dI q)]) (fun _ _ S2 _=>S2) (fun _ _ _ js=>js.map .coll) (fun q _ _ _=>es.length-q) (0) (s) (Sc) ([]) (by exact⟨by omega,by rw[List.drop_zero];omega,rfl,hGc,hmc,hSc,by simp,by simp⟩) (fun q s1 S2 js hI =>?_)
   obtain⟨hq,hB,hR,hG2,hm2,hS2,hnd,hjs⟩:=hI
   by_cases hql:q<es.length
   ·rw [A0 hql] at hB hR
    rw[wtL]at hB
    rw[Dr]at hR
    have hwe:es[q].wt<=100000000:=by omega
    have hMo:MonoG (fun (V:Sig) (s:GenT)=>GenS mp ib il it V s/\V im=some (.cells [.map mp])):=fun V S' s ⟨⟨g1,g2,g3,g4⟩,g5⟩ hj=>⟨⟨hj _ _ g1 rfl,hj _ _ g2 rfl,hj _ _ g3 rfl,hj _ _ g4 rfl⟩,hj _ _ g5 rfl⟩
    have htn:∀j,tG mp ib il it j->S2 j≠none/\S2 j≠some .defs:=fun j hj=>by
     rcases hj with rfl|rfl|rfl|rfl
     ·rw[hG2.om];simp
     ·rw[hG2.ob];simp
     ·rw[hG2.ol];simp
     ·rw[hG2.ot];simp
    have hlq:=Pu es[q] s1
    repeat' first|refine gz ?_ [] [2,3,4]|refine Ax (JA es[q] S2) ?_|refine callP (JA es[q] S2) ?_|refine gz ?_ o191 [2,3,4]|apply gy<;>intro hh
    refine IX unf2 (fun (V:Sig) (s:GenT)=>GenS mp ib il it V s/\V im=some (.cells [.map mp])) (tG mp ib il it) (tG mp ib il it) (some (genE es[q] s1)) s1 (hMo.indep _) hMo.fresh ⟨hG2,hm2⟩ (fun j hj=>(htn j hj).1) (fun j hj=>(htn j hj).1) rfl (fun l did LO SL hLO hd hl htl hSL hGd hnt =>?_) (fun did s' S' ho hdn hdd hG' hk =>?_) (fun did S' ho hdn hdd hk=>by cases ho)
    ·rw[<-Il es[q] 1 s1]
     refine(QJ l _ (tG mp ib il it) (fun j=>tG mp ib il it j\/j=l) stepG es[q] SL s1 (fun s=>s.1.length) 100000000 Mv (by omega) (by omega) (fun x S3 s hx hpb hG3 =>?_) (hGd.indep (hMo.indep _)) (fun V s a o h ha=>h.new hMo.fresh ha) hGd (fun j h => .inl h) (fun j hj h =>?_)).mono (fun x S' hx=>by rw[Il]at hx⊢; exact hx)
     ·have hGb:=hG3.busy hLO (hMo.indep _) hl
      obtain⟨hGb,hmb⟩:=hGb
      refine Eu hLO hG3.1 ?_
      try refine gz ?_ o191 [2,3,4]
      refine⟨hG3.1,?_⟩
      by_cases h5:x.op=5
      ·have hst:stepG x s=some (seeG x.text x.kids.length s):=by unfold stepG;rw[if_pos h5]
       have hxk:x.kids.length<=1073741824:=by have:=x.wt_le;omega
       try refine gf h5 ?_ o191 [2,3,4]
       refine Ab (KS x.text x.kids.length im mp ib il it s _ (by omega) hmb hGb c3.symm) (fun x S4 hr =>?_) (fun x S4 hr=>by cases hr.1)
       obtain⟨e1,hG4,hK4⟩:=hr
       cases e1
       try refine gz ?_ o191 [2,3,4]
       exact HU hst hLO (hMo.indep _) hG3 htl hl ⟨hG4,hK4 _ _ hmb him'⟩ hK4
      ·have hst:stepG x s=some s:=by unfold stepG;rw[if_neg h5]
       try refine gf h5 ?_ o191 [2,3,4]
       exact HU hst hLO (hMo.indep _) hG3 htl hl ⟨hGb,hmb⟩ (Keep.refl _ _)
     ·rcases h with h|h
      ·exact hnt j hj h
      ·rw[h,hGd.1]at hj;cases hj
    ·cases ho
     try refine gz ?_ o191 [2,3,4]
     have hj1:Sub V S':=fun j x hj=>(hk j x (hS2 _ _ hj) fun ht=>by rw[ht0 j ht]at hj;cases hj).1
     have hj2:(did::js).Nodup:=List.nodup_cons.2 ⟨fun hm=>(hk did _ (hjs did hm).2 fun ht=>(htn did ht).2 (hjs did hm).2).2 rfl,hnd⟩
     have hj3:∀j∈did::js,V j=none/\S' j=some .defs:=fun j hj=>by
      rcases List.mem_cons.1 hj with rfl|hj
      ·exact⟨hS2.none hdn,hdd⟩
      ·exact⟨(hjs j hj).1,(hk j _ (hjs j hj).2 fun ht=>(htn j ht).2 (hjs j hj).2).1⟩
     exact⟨q+1,genE es[q] s1,S',did::js,⟨by omega,by omega,hR,hG'.1,hG'.2,hj1,hj2,hj3⟩,td1,wkR⟩
   ·rw[A1 hql,Dr]at hR
    obtain⟨z1,z2,z3,z4⟩:=hG2
    have y1:S2.set il (.cells [.slice (cS (s1.1.map (·.1))) (.tag it)])=S2:=Sig.set_self _ z3
    have y2:S2.set im (.cells [.map mp])=S2:=Sig.set_self _ hm2
    have y3:S2.set ib (.cells [.bool s1.2])=S2:=Sig.set_self _ z2
    have s3:Sub S2 (S2.set il (.cells [.slice (cS (s1.1.map (·.1))) (.tag it)])):=by rw[y1];exact Sub.refl _
    have s4:Sub S2 ((S2.set il (.cells [.slice (cS (s1.1.map (·.1))) (.tag it)])).set im (.cells [.map mp])):=by rw[y1,y2];exact Sub.refl _
    have s5:Sub S2 (((S2.set il (.cells [.slice (cS (s1.1.map (·.1))) (.tag it)])).set im (.cells [.map mp])).set ib (.cells [.bool s1.2])):=by rw[y1,y2,y3];exact Sub.refl _
    try refine gf (gi z1 (gi z2 (gi z3 hm2))) ?_ o191 [2,3,4]
    rw[y1,y2,y3]
    have u1:∀j o,S2 j=some o->o≠.defs->(dels js S2) j=some o:=fun j o hj ho=>by
     rw[JL js S2 j fun hm=>ho (by have:=(hjs j hm).2;rw[hj]at this;cases this;rfl)];exact hj
    have v1:=u1 _ _ z3 (by simp)
    have v2:=u1 _ _ hm2 (by simp)
    have v3:=u1 _ _ z2 (by simp)
    rw[hR]at hgp
    subst hgp
    refine finMC js (S':=V) (ds:=[.slice (cS ((CK f).1.map (·.1))) (.tag it),.map mp,.bool (CK f).2]) ⟨rfl,rfl⟩ (Vk hS2 fun j hj=>(hjs j hj).1) hnd (fun j hj=>(hjs j hj).2) (by simp[resL,v1,v2,v3]) ?_
    exact Gs ⟨AE _ _,Em _,A8 _,trivial⟩
  ·rcases hcc with⟨rfl,hcc⟩|⟨i,rfl,hi1,hcc⟩
   ·try refine gz ?_ o191 [2,3,4]
    refine appC (fun j hj =>?_)
    try refine gz ?_ o191 [2,3,4]
    exact dwp_wk (Ag (by first|(simp[<-hbe];done)|(simp_all [<-hbe];done)) (hcc.trans ((Sub.refl _).set hj))) hK
   ·try refine gf hi1 ?_ o191 [2,3,4]
    exact dwp_wk (Ag (by first|(simp[<-hbe];done)|(simp_all [<-hbe];done)) (hcc _)) hK
end Go.DL
