/- Part of a proof in texts M01 on: a layer of pure values over the fenced walk, the walks of the functions, the plain laws. -/
import Derived.Test.YtlfimpogphmbdaaGreatM27
import Derived.Test.YtlfimpogphmbdaaGreatM21
import Derived.Test.YtlfimpogphmbdaaGreatM26
set_option linter.all false
namespace Go.DL
open Go.Proofs.Tryz
open Go Go.Proofs
set_option maxHeartbeats 8000000
theorem RowAt.sref {σ:Sig} {sz:Nat} {st:MR} {es:List (List D)} (h:RowAt σ sz st es) (hne:es ≠ []) : ∃ r c, ∀ n,mD st n = .sref r 0 n c:=by
 rcases st with _ | ⟨i,cap,rest⟩
 ·exact absurd h hne
 ·exact ⟨i,cap,fun _=>rfl⟩
def FExp.cnt (e:FExp):Nat:=(allE e).length
def bndN (cm sm gm:List (Str × Int)) (o n:Int) (t:Str) (env:Str->Int):Int :=
 if o=3 then env t else if o=4\/o=7 then getM 0 t sm else if o=5 then getM 0 t gm else if o=6\/o=8 then getM 0 t cm else n
def G7:List FExp->Nat->List Int
 | [],_=>[]
 | x::r,k=>(k:Int)::G7 r (k+x.cnt)
mutual
def bndE (cm sm gm:List (Str × Int)):FExp->(Str->Int)->Int->Nat->List BNode
 | .mk o n t l,env,size,k=>⟨o,bndN cm sm gm o n t env,G7 l (k+1)⟩::Jy cm sm gm o t l 0 env size (k+1)
def Jy (cm sm gm:List (Str × Int)) (o:Int) (t:Str):List FExp->Nat->(Str->Int)->Int->Nat->List BNode
 | [],_,_,_,_=>[]
 | x::r,i,env,size,k=>(if o=9/\i=1 then bndE cm sm gm x (updE env t size) (size+1) k else bndE cm sm gm x env size k)++Jy cm sm gm o t r (i+1) env size (k+x.cnt)
end
section
variable {cm sm gm:List (Str × Int)}
theorem bndE_eq (e:FExp) (env:Str->Int) (size:Int) (k:Nat):bndE cm sm gm e env size k=⟨e.op,bndN cm sm gm e.op e.n e.text env,G7 e.kids (k+1)⟩::Jy cm sm gm e.op e.text e.kids 0 env size (k+1):=by cases e;rw [bndE];rfl
mutual
theorem FP : ∀ (e:FExp) (env:Str->Int) (size:Int) (k:Nat),(bndE cm sm gm e env size k).length=e.cnt
 | .mk o n t l,env,size,k=>by
  rw [bndE,List.length_cons,N8 o t l,FExp.cnt,allE];simp
theorem N8 (o:Int) (t:Str) : ∀ (l:List FExp) (i:Nat) (env:Str->Int) (size:Int) (k:Nat),(Jy cm sm gm o t l i env size k).length=(Ng l).length
 | [],_,_,_,_=>by rw [Jy,Ng];rfl
 | x::r,i,env,size,k=>by
  rw [Jy,Ng,List.length_append,List.length_append,N8 o t r]
  split
  ·rw [FP x];rfl
  ·rw [FP x];rfl
end
end
theorem FExp.cnt_le (e:FExp):e.cnt<=e.wt:=Pc e
structure BS (ib ia is ig:Nat) (a b c d f:D) (cm sm gm:List (Str × Int)) (st:MR) (ns:List BNode) (σ:Sig):Prop where
 env:σ ib=some (.cells [a,b,c,d,mD st ns.length,f, .map ia, .map is, .map ig])
 oa:σ ia=some (.map (eSN cm))
 os:σ is=some (.map (eSN sm))
 og:σ ig=some (.map (eSN gm))
 row:RowAt σ 3 st (ns.map Ai)
 nr : ¬ C4 st ib
def BK (ib:Nat) (σ:Sig) (st:MR) (σ':Sig) (st':MR):Prop := ∀ j o,σ j=some o->j ≠ ib -> ¬ C4 st j->σ' j=some o /\ ¬ C4 st' j
theorem BK.trans {ib:Nat} {σ σ1 σ2:Sig} {st st1 st2:MR} (h:BK ib σ st σ1 st1) (k:BK ib σ1 st1 σ2 st2):BK ib σ st σ2 st2:=fun j o hj hi hn=>k j o (h j o hj hi hn).1 hi (h j o hj hi hn).2
theorem BK.refl (ib:Nat) (σ:Sig) (st:MR):BK ib σ st σ st:=fun j o h _ hn=>⟨h,hn⟩
theorem BK.fresh {ib:Nat} {σ σ1:Sig} {st st1:MR} {k:Nat} {o:DObj} (h:BK ib σ st σ1 st1) (hk:σ1 k=none):BK ib σ st (σ1.set k o) st1:=fun j x hj hi hn=>by
 obtain ⟨h1,h2⟩:=h j x hj hi hn
 exact ⟨by rw [w8 _ _ (A3 h1 hk)];exact h1,h2⟩
section
variable {ib ia is ig:Nat} {a b c d f:D} {cm sm gm:List (Str × Int)} {st:MR} {ns:List BNode} {σ:Sig}
theorem BS.set (h:BS ib ia is ig a b c d f cm sm gm st ns σ) {k:Nat} {o:DObj} (h1:ib ≠ k) (h2:ia ≠ k) (h3:is ≠ k) (h4:ig ≠ k) (h5 : ¬ C4 st k):BS ib ia is ig a b c d f cm sm gm st ns (σ.set k o) :=
 ⟨by rw [w8 _ _ h1];exact h.env,by rw [w8 _ _ h2];exact h.oa,by rw [w8 _ _ h3];exact h.os,by rw [w8 _ _ h4];exact h.og,h.row.keep fun j x hj hr=>by rw [w8 _ _ fun e=>h5 (by rw [<- e];exact hr)];exact hj,h.nr⟩
theorem BS.notrow (h:BS ib ia is ig a b c d f cm sm gm st ns σ) {k:Nat} (hk:σ k=none) : ¬ C4 st k:=fun hr=>by
 obtain ⟨cs,hc⟩:=h.row.cells hr;rw [hk] at hc;cases hc
theorem BS.fresh (h:BS ib ia is ig a b c d f cm sm gm st ns σ) {k:Nat} {o:DObj} (hk:σ k=none):BS ib ia is ig a b c d f cm sm gm st ns (σ.set k o) :=
 h.set (A3 h.env hk) (A3 h.oa hk) (A3 h.os hk) (A3 h.og hk) (h.notrow hk)
theorem BS.tail (h:BS ib ia is ig a b c d f cm sm gm st ns σ) {k s n:Nat} {o:DObj} (hk:σ k=some (.tail s n)) : ¬ C4 st k/\k ≠ ib/\BS ib ia is ig a b c d f cm sm gm st ns (σ.set k o) :=
 have hr : ¬ C4 st k:=fun hr=>by obtain ⟨cs,hc⟩:=h.row.cells hr;rw [hk] at hc;cases hc
 ⟨hr,AC hk h.env (by simp),h.set (AC h.env hk (by simp)) (AC h.oa hk (by simp)) (AC h.os hk (by simp)) (AC h.og hk (by simp)) hr⟩
theorem BS.zero (h:BS ib ia is ig a b c d f cm sm gm st ns σ):st=none->ns.length=0:=fun e=>by
 subst e;have:ns.map Ai=[]:=h.row;simpa using this
theorem MA : ∀ (n:Nat) (e:FExp) (nm:D) (m:List (Str × Int)) (size:Int) (st:MR) (ns:List BNode) (σ:Sig),e.wt<=n->ns.length+e.wt<=100000000->0<=size->size+n<=1000000000->NmD nm m ->
  BS ib ia is ig a b c d f cm sm gm st ns σ->DCall prog 112 [.agg [.ptr ib 0,nm,dI size], .agg (Bc e)] σ fun x σ'=>x = .ret (dI ns.length) /\
   ∃ st',BS ib ia is ig a b c d f cm sm gm st' (ns++bndE cm sm gm e (fun y=>getM 0 y m) size ns.length) σ'/\BK ib σ st σ' st':=by
 intro n
 induction n with
 | zero =>
  intro e nm m size st ns σ hx
  have:=e.wt_pos
  omega
 | succ n ih =>
  intro e nm m size st ns σ hx hn hs0 hs1 hm hB
  obtain ⟨w1,w2,hw3⟩:=e.wt_le
  have hfl:nm.flat=true:=by rcases hm.cases with ⟨_,_,rfl,_⟩ | ⟨rfl,_⟩<;>rfl
  simp only [D.flat] at hfl
  have hz:=hB.zero
  have hB0:=hB
  have hnl:ns.length<=100000000:=by omega
  obtain ⟨q1,q2,q3,q4,q5,q6⟩:=hB
  refine en func112 ntmps112 ?_
  try refine gf q1 ?_ o112 [6]
  refine newV (fun i hi => ?_)
  have n1:ib ≠ i:=A3 q1 hi
  have n2:ia ≠ i:=A3 q2 hi
  have n3:is ≠ i:=A3 q3 hi
  have n4:ig ≠ i:=A3 q4 hi
  have hnr : ¬ C4 st i:=hB0.notrow hi
  generalize hnum:bndN cm sm gm e.op e.n e.text (fun y=>getM 0 y m)=num
  repeat ((fail_if_success (first | (refine dwp_cut1 (x1 := .seq _ (.block 0 _)) [] (σ.set i (.cells [dI e.op,dI num, .nils])) ?_ (fun _ hK => ?_)) | fail));(refine goX1 trivial ?_))
  refine dwp_cut1 (x1 := .seq _ (.block 0 _)) [] (σ.set i (.cells [dI e.op,dI num, .nils])) ?_ (fun _ hK => ?_)
  ·refine dwp_wk (EZ (az:=[dI e.op,dI num]) (bs:=[]) (d':=sl (cI [])) (w7 ..) (At _ (.inl rfl))) ?_
   rw [w9]
   have hB1:=hB0.fresh (o := .cells [dI e.op,dI num,sl (cI [])]) hi
   have hK1:=(BK.refl ib σ st).fresh (o := .cells [dI e.op,dI num,sl (cI [])]) hi
   have o6:(σ.set i (.cells [dI e.op,dI num,sl (cI [])])) i=some (.cells [dI e.op,dI num,sl (cI [])]):=w7 ..
   generalize hσ1:σ.set i (.cells ([dI e.op,dI num]++sl (cI [])::[]))=σ1
   have hσ1:σ.set i (.cells [dI e.op,dI num,sl (cI [])])=σ1:=hσ1
   rw [hσ1] at hB1 hK1 o6
   clear hσ1
   have r1:=hB1.env
   have r5:=hB1.row
   have u1:(σ1.out (C4 st)) ib=some (.cells [a,b,c,d,mD st ns.length,f, .map ia, .map is, .map ig]):=HA r1 hB1.nr
   have u6:(σ1.out (C4 st)) i=some (.cells [dI e.op,dI num,sl (cI [])]):=HA o6 hnr
   try refine gf (gi r1 o6) ?_ (delO 14 o112) [6]
   refine HC [0,1,2,3,4,5,6,7,8,9,10,11,12,13] [10] (σ1.out (C4 st)) (CR _ _) ?_
   try refine gf (gi u1 u6) ?_ o112 [6]
   refine moRapp (es:=ns.map Ai) (fun st2 σ2 hr2 hk2 => ?_) (fun j o h=>Fd h) (hm:=r5)
   obtain ⟨v1,v2⟩:=hk2 _ _ r1 hB1.nr
   obtain ⟨rr,rc,hmd⟩:=hr2.sref (by simp)
   have hmd1:=hmd (ns.length+1)
   try refine gf (gi v1 hmd1) ?_ o112 [6]
   refine BD 7 1 (fun it hit => ?_)
   obtain ⟨i1,i2⟩:=A8 hit
   have hnd:(ns++[(⟨e.op,num,[]⟩:BNode)]).map Ai=ns.map Ai++[[dI e.op,dI num,sl []]]:=by simp
   have hB2:BS ib ia is ig a b c d f cm sm gm st2 (ns++[⟨e.op,num,[]⟩]) (σ2.set ib (.cells [a,b,c,d, .sref rr 0 (ns.length+1) rc,f, .map ia, .map is, .map ig])):=by
    have hx : ∀ j o,σ1 j=some o->j ≠ ib -> ¬ C4 st j->(σ2.set ib (.cells [a,b,c,d, .sref rr 0 (ns.length+1) rc,f, .map ia, .map is, .map ig])) j=some o:=fun j o hj hjb hr=>by
     rw [w8 _ _ hjb];exact (hk2 j o hj hr).1
    have hnm : ∀ {k l},σ1 k=some (.map l)->k ≠ ib /\ ¬ C4 st k:=fun {k l} hk=>⟨AC hk r1 (by simp),fun hr=>by obtain ⟨cs,hc⟩:=r5.cells hr;rw [hk] at hc;cases hc⟩
    refine ⟨by rw [w7,hmd];simp,hx _ _ hB1.oa (hnm hB1.oa).1 (hnm hB1.oa).2,hx _ _ hB1.os (hnm hB1.os).1 (hnm hB1.os).2,hx _ _ hB1.og (hnm hB1.og).1 (hnm hB1.og).2, ?_,v2⟩
    rw [hnd]
    exact hr2.keep fun j x hj hr=>by rw [w8 _ _ fun e=>v2 (by rw [<- e];exact hr)];exact hj
   have hK2:BK ib σ st (σ2.set ib (.cells [a,b,c,d, .sref rr 0 (ns.length+1) rc,f, .map ia, .map is, .map ig])) st2:=fun j o hj hjb hr=>by
    obtain ⟨h1,h2⟩:=hK1 j o hj hjb hr
    obtain ⟨h3,h4⟩:=hk2 j o h1 h2
    exact ⟨by rw [w8 _ _ hjb];exact h3,h4⟩
   have hB3:=hB2.fresh (o := .tail 1 0) hit
   have hK3:=hK2.fresh (o := .tail 1 0) hit
   have ho3:((σ2.set ib (.cells [a,b,c,d, .sref rr 0 (ns.length+1) rc,f, .map ia, .map is, .map ig])).set it (.tail 1 0)) it=some (.tail 1 0):=w7 ..
   have hi0 : ∀ o,σ it=some o->C4 st it:=fun o h=>Classical.byContradiction fun hr=>by rw [(hK2 it o h i1 hr).1] at hit;cases hit
   refine Tz [2,3,4,5,84,85,111,112,113,114,115,116,117,118,119,120,121,122] (fun (k:Nat) (l:List Int) (ms:List BNode) (st1:MR) (σ1:Sig)=>k<=e.kids.length/\l.length=k/\l++G7 (e.kids.drop k) (ns.length+1+ms.length)=G7 e.kids (ns.length+1)/\ms++Jy cm sm gm e.op e.text (e.kids.drop k) k (fun y=>getM 0 y m) size (ns.length+1+ms.length)=Jy cm sm gm e.op e.text e.kids 0 (fun y=>getM 0 y m) size (ns.length+1)/\ns.length+1+ms.length+wtL FExp.wt (e.kids.drop k)<=100000000/\BS ib ia is ig a b c d f cm sm gm st1 (ns++⟨e.op,num,[]⟩::ms) σ1/\BK ib σ st σ1 st1/\σ1 it=some (.tail 1 l.length)) (fun k l _ _ _=>[(86,dI k),(7, .slice (cI l) (.tag it))]) (fun _ _ _ _ σ1=>σ1) (fun k _ _ _ _=>e.kids.length-k) (0) ([]) ([]) (st2) (_) (by exact ⟨by omega,rfl,rfl,rfl,by have:=FExp.wt_eq e;simp only [List.length_nil,List.drop_zero];omega,hB3,hK3,ho3⟩) (fun k l ms st1 σ1 hI => ?_)
   obtain ⟨hk,hll,hRl,hRm,hbud,hB4,hK4,o4⟩:=hI
   by_cases hkl:k < e.kids.length
   ·rw [A2 hkl] at hRl hRm hbud
    rw [G7] at hRl
    rw [Jy] at hRm
    rw [wtL] at hbud
    have hwk:=hw3 k hkl
    have hck:=FExp.cnt_le e.kids[k]
    try refine gz ?_ o112 [6]
    refine newV (fun i10 hi10 => ?_)
    have hni:=hB4.tail (o := .defs) o4
    by_cases hlet:e.op=9/\k=1
    ·rw [if_pos hlet] at hRm
     obtain ⟨hl1,hl2⟩:=hlet
     try refine gf (gi hl1 hfl) ?_ o112 [6]
     refine Ab (S5 ib nm m size e.text _ hm ⟨hs0,by omega⟩) (fun x σ2 hr => ?_) (fun x σ2 hr=>by obtain ⟨_,h,_⟩:=hr;cases h)
     obtain ⟨m',e1,hm',henv,e2⟩:=hr
     cases e1
     rw [e2]
     clear e2 σ2
     have henv:(fun y=>getM 0 y m')=updE (fun y=>getM 0 y m) e.text size:=funext henv
     have hB5:=hB4.fresh (o := .cells [.ptr ib 0,cNum m',dI (size+1)]) hi10
     have hK5:=hK4.fresh (o := .cells [.ptr ib 0,cNum m',dI (size+1)]) hi10
     have o5:(σ1.set i10 (.cells [.ptr ib 0,cNum m',dI (size+1)])) it=some (.tail 1 l.length):=by rw [w8 _ _ (A3 o4 hi10)];exact o4
     try refine gz ?_ o112 [6]
     refine Ab (ih e.kids[k] (cNum m') m' (size+1) st1 (ns++⟨e.op,num,[]⟩::ms) _ (by omega) (by simp only [List.length_append,List.length_cons];omega) (by omega) (by omega) hm' hB5) (fun x σ3 hr => ?_) (fun x σ3 hr=>by cases hr.1)
     obtain ⟨e1,st3,hB6,hK6⟩:=hr
     cases e1
     obtain ⟨o6,_⟩:=hK6 _ _ o5 hni.2.1 hni.1
     have hK7:=hK5.trans hK6
     rw [henv] at hB6
     have hpos:(((ns++(⟨e.op,num,[]⟩:BNode)::ms).length:Nat):Int)=((ns.length+1+ms.length:Nat):Int):=by simp only [List.length_append,List.length_cons];omega
     have hlen3:(ns++(⟨e.op,num,[]⟩:BNode)::ms).length=ns.length+1+ms.length:=by simp only [List.length_append,List.length_cons];omega
     rw [hlen3] at hB6
     have hB7:=(hB6.tail (o := .tail 1 (l++[((ns.length+1+ms.length:Nat):Int)]).length) o6).2.2
     have hK8:BK ib σ st (σ3.set it (.tail 1 (l++[((ns.length+1+ms.length:Nat):Int)]).length)) st3:=fun j x hj hjb hr=>by
      obtain ⟨h1,h2⟩:=hK7 j x hj hjb hr
      exact ⟨by rw [w8 _ _ fun e=>hr (by have:=hi0 x (by rw [<- e];exact hj);rw [e];exact this)];exact h1,h2⟩
     have hbl:=FP (cm:=cm) (sm:=sm) (gm:=gm) e.kids[k] (updE (fun y=>getM 0 y m) e.text size) (size+1) (ns.length+1+ms.length)
     have hsub:Sub (σ3.set it (.tail 1 (l++[((ns.length+1+ms.length:Nat):Int)]).length)) (σ3.set it (.tail 1 (l.length+1))):=by rw [List.length_append];exact Sub.refl _
     rw [List.append_assoc,List.cons_append] at hB7
     have hw7:WkD (.slice (cI l++[[dI ((ns.length:Int)+((ms.length:Int)+1))]]) (.tag it)) (.slice (cI (l++[((ns.length+1+ms.length:Nat):Int)])) (.tag it)):=B5 (by simp [cI];omega)
     try refine gf (gi o6 hpos) ?_ o112 [6]
     exact ⟨k+1,l++[((ns.length+1+ms.length:Nat):Int)],ms++bndE cm sm gm e.kids[k] (updE (fun y=>getM 0 y m) e.text size) (size+1) (ns.length+1+ms.length),st3,σ3.set it (.tail 1 (l++[((ns.length+1+ms.length:Nat):Int)]).length),⟨by omega,by rw [List.length_append,hll];rfl,by rw [List.append_assoc,List.length_append,hbl, <- Nat.add_assoc];exact hRl,by rw [List.append_assoc,List.length_append,hbl, <- Nat.add_assoc];exact hRm,by rw [List.length_append,hbl];omega,hB7,hK8,w7 ..⟩,td1,wkR⟩
    ·rw [if_neg hlet] at hRm
     have hB5:=hB4.fresh (o := .cells [.ptr ib 0,nm,dI size]) hi10
     have hK5:=hK4.fresh (o := .cells [.ptr ib 0,nm,dI size]) hi10
     have o5:(σ1.set i10 (.cells [.ptr ib 0,nm,dI size])) it=some (.tail 1 l.length):=by rw [w8 _ _ (A3 o4 hi10)];exact o4
     by_cases h9:e.op=9
     ·have hk1:k ≠ 1:=fun h=>hlet ⟨h9,h⟩
      try refine gf (gi h9 hfl) ?_ o112 [6]
      refine Ab (ih e.kids[k] nm m size st1 (ns++⟨e.op,num,[]⟩::ms) _ (by omega) (by simp only [List.length_append,List.length_cons];omega) (by omega) (by omega) hm hB5) (fun x σ3 hr => ?_) (fun x σ3 hr=>by cases hr.1)
      obtain ⟨e1,st3,hB6,hK6⟩:=hr
      cases e1
      obtain ⟨o6,_⟩:=hK6 _ _ o5 hni.2.1 hni.1
      have hK7:=hK5.trans hK6
      have hpos:(((ns++(⟨e.op,num,[]⟩:BNode)::ms).length:Nat):Int)=((ns.length+1+ms.length:Nat):Int):=by simp only [List.length_append,List.length_cons];omega
      have hlen3:(ns++(⟨e.op,num,[]⟩:BNode)::ms).length=ns.length+1+ms.length:=by simp only [List.length_append,List.length_cons];omega
      rw [hlen3] at hB6
      have hB7:=(hB6.tail (o := .tail 1 (l++[((ns.length+1+ms.length:Nat):Int)]).length) o6).2.2
      have hK8:BK ib σ st (σ3.set it (.tail 1 (l++[((ns.length+1+ms.length:Nat):Int)]).length)) st3:=fun j x hj hjb hr=>by
       obtain ⟨h1,h2⟩:=hK7 j x hj hjb hr
       exact ⟨by rw [w8 _ _ fun e=>hr (by have:=hi0 x (by rw [<- e];exact hj);rw [e];exact this)];exact h1,h2⟩
      have hbl:=FP (cm:=cm) (sm:=sm) (gm:=gm) e.kids[k] (fun y=>getM 0 y m) size (ns.length+1+ms.length)
      have hsub:Sub (σ3.set it (.tail 1 (l++[((ns.length+1+ms.length:Nat):Int)]).length)) (σ3.set it (.tail 1 (l.length+1))):=by rw [List.length_append];exact Sub.refl _
      rw [List.append_assoc,List.cons_append] at hB7
      have hw7:WkD (.slice (cI l++[[dI ((ns.length:Int)+((ms.length:Int)+1))]]) (.tag it)) (.slice (cI (l++[((ns.length+1+ms.length:Nat):Int)])) (.tag it)):=B5 (by simp [cI];omega)
      try refine gf (gi o6 hpos) ?_ o112 [6]
      exact ⟨k+1,l++[((ns.length+1+ms.length:Nat):Int)],ms++bndE cm sm gm e.kids[k] (fun y=>getM 0 y m) size (ns.length+1+ms.length),st3,σ3.set it (.tail 1 (l++[((ns.length+1+ms.length:Nat):Int)]).length),⟨by omega,by rw [List.length_append,hll];rfl,by rw [List.append_assoc,List.length_append,hbl, <- Nat.add_assoc];exact hRl,by rw [List.append_assoc,List.length_append,hbl, <- Nat.add_assoc];exact hRm,by rw [List.length_append,hbl];omega,hB7,hK8,w7 ..⟩,td1,wkR⟩
     ·try refine gf hfl ?_ o112 [6]
      refine Ab (ih e.kids[k] nm m size st1 (ns++⟨e.op,num,[]⟩::ms) _ (by omega) (by simp only [List.length_append,List.length_cons];omega) (by omega) (by omega) hm hB5) (fun x σ3 hr => ?_) (fun x σ3 hr=>by cases hr.1)
      obtain ⟨e1,st3,hB6,hK6⟩:=hr
      cases e1
      obtain ⟨o6,_⟩:=hK6 _ _ o5 hni.2.1 hni.1
      have hK7:=hK5.trans hK6
      have hpos:(((ns++(⟨e.op,num,[]⟩:BNode)::ms).length:Nat):Int)=((ns.length+1+ms.length:Nat):Int):=by simp only [List.length_append,List.length_cons];omega
      have hlen3:(ns++(⟨e.op,num,[]⟩:BNode)::ms).length=ns.length+1+ms.length:=by simp only [List.length_append,List.length_cons];omega
      rw [hlen3] at hB6
      have hB7:=(hB6.tail (o := .tail 1 (l++[((ns.length+1+ms.length:Nat):Int)]).length) o6).2.2
      have hK8:BK ib σ st (σ3.set it (.tail 1 (l++[((ns.length+1+ms.length:Nat):Int)]).length)) st3:=fun j x hj hjb hr=>by
       obtain ⟨h1,h2⟩:=hK7 j x hj hjb hr
       exact ⟨by rw [w8 _ _ fun e=>hr (by have:=hi0 x (by rw [<- e];exact hj);rw [e];exact this)];exact h1,h2⟩
      have hbl:=FP (cm:=cm) (sm:=sm) (gm:=gm) e.kids[k] (fun y=>getM 0 y m) size (ns.length+1+ms.length)
      have hsub:Sub (σ3.set it (.tail 1 (l++[((ns.length+1+ms.length:Nat):Int)]).length)) (σ3.set it (.tail 1 (l.length+1))):=by rw [List.length_append];exact Sub.refl _
      rw [List.append_assoc,List.cons_append] at hB7
      have hw7:WkD (.slice (cI l++[[dI ((ns.length:Int)+((ms.length:Int)+1))]]) (.tag it)) (.slice (cI (l++[((ns.length+1+ms.length:Nat):Int)])) (.tag it)):=B5 (by simp [cI];omega)
      try refine gf (gi o6 hpos) ?_ o112 [6]
      exact ⟨k+1,l++[((ns.length+1+ms.length:Nat):Int)],ms++bndE cm sm gm e.kids[k] (fun y=>getM 0 y m) size (ns.length+1+ms.length),st3,σ3.set it (.tail 1 (l++[((ns.length+1+ms.length:Nat):Int)]).length),⟨by omega,by rw [List.length_append,hll];rfl,by rw [List.append_assoc,List.length_append,hbl, <- Nat.add_assoc];exact hRl,by rw [List.append_assoc,List.length_append,hbl, <- Nat.add_assoc];exact hRm,by rw [List.length_append,hbl];omega,hB7,hK8,w7 ..⟩,td1,wkR⟩
   ·rw [A1 hkl,G7,List.append_nil] at hRl
    rw [A1 hkl,Jy,List.append_nil] at hRm
    obtain ⟨t1,t2,t3,t4,t5,t6⟩:=hB4
    rcases st1 with _ | ⟨r,rc,rest⟩
    ·have:(ns++(⟨e.op,num,[]⟩:BNode)::ms).map Ai=[]:=t5
     simp at this
    ·have hrow:σ1 r=some (.cells (((ns++(⟨e.op,num,[]⟩:BNode)::ms).map Ai).flatten++rest))/\(((ns++(⟨e.op,num,[]⟩:BNode)::ms).map Ai).flatten++rest).length=rc*3/\((ns++(⟨e.op,num,[]⟩:BNode)::ms).map Ai).length<=rc/\_:=t5
     have henv:σ1 ib=some (.cells [a,b,c,d, .sref r 0 (ns.length+1+ms.length) rc,f, .map ia, .map is, .map ig]):=by
      rw [t1];show some (DObj.cells [a,b,c,d, .sref r 0 (ns++(⟨e.op,num,[]⟩:BNode)::ms).length rc,f, .map ia, .map is, .map ig])=_
      rw [show (ns++(⟨e.op,num,[]⟩:BNode)::ms).length=ns.length+1+ms.length by simp only [List.length_append,List.length_cons];omega]
     obtain ⟨w1,w2,w3,w4⟩:=hrow
     have hAl:(ns.map Ai).flatten.length=ns.length*3:=by rw [D5 (sz:=3) (by simp)];simp
     have hcs : ∀ q:List Int,((ns++(⟨e.op,num,q⟩:BNode)::ms).map Ai).flatten++rest=(ns.map Ai).flatten++[dI e.op,dI num]++sl (cI q)::((ms.map Ai).flatten++rest):=fun q=>by simp
     have hcs':((ns++(⟨e.op,num,[]⟩:BNode)::ms).map Ai).flatten++rest=(ns.map Ai).flatten++dI e.op::dI num::sl (cI [])::((ms.map Ai).flatten++rest):=by simp
     rw [hcs'] at w1 w2
     clear hcs'
     generalize hA:(ns.map Ai).flatten=A at *
     generalize hM:(ms.map Ai).flatten=M at *
     have hcl:A.length+(3+(M.length+rest.length))=rc*3:=by simp only [List.length_append,List.length_cons] at w2;omega
     have w3':=w3
     rw [List.length_map,List.length_append,List.length_cons] at w3
     have htd:List.take (ns.length*3+2) (A++dI e.op::dI num::sl []::(M++rest))=A++[dI e.op,dI num]:=by rw [<- hAl,List.take_length_add_append];rfl
     have hdd:List.drop (ns.length*3+2+1) (A++dI e.op::dI num::sl []::(M++rest))=M++rest:=by rw [<- hAl,Nat.add_assoc,List.drop_length_add_append];rfl
     try refine gf (gi henv w1) ?_ (delO 25 o112) [6]
     refine mixL (id:=25) [0,1,2,3,4,5,6,7,8,9,10] [8] ?_
     repeat ((fail_if_success (first | (refine celW (List.take (ns.length*3+2) (A++dI e.op::dI num::sl []::(M++rest))) (List.drop (ns.length*3+2+1) (A++dI e.op::dI num::sl []::(M++rest))) (.slice (cI l) .clip) (sl (cI l)) ?_ (w7 ..) (B4 _ _)) | fail));(refine goX1 (gi henv w1) ?_))
     refine celW (List.take (ns.length*3+2) (A++dI e.op::dI num::sl []::(M++rest))) (List.drop (ns.length*3+2+1) (A++dI e.op::dI num::sl []::(M++rest))) (.slice (cI l) .clip) (sl (cI l)) ?_ (w7 ..) (B4 _ _)
     rw [htd,hdd,w9]
     have hbe:bndE cm sm gm e (fun y=>getM 0 y m) size ns.length=⟨e.op,num,l⟩::ms:=by rw [bndE_eq,hnum, <- hRl, <- hRm]
     have hln:(ns++(⟨e.op,num,l⟩:BNode)::ms).length=ns.length+1+ms.length:=by simp only [List.length_append,List.length_cons];omega
     have hnb : ∀ {j x},σ1 j=some (.map x)->j ≠ r:=fun hj=>AC hj w1 (by simp)
     have hbr:ib ≠ r:=fun h=>t6 h
     have hBf:BS ib ia is ig a b c d f cm sm gm (some (r,rc,rest)) (ns++⟨e.op,num,l⟩::ms) (σ1.set r (.cells (A++[dI e.op,dI num]++sl (cI l)::(M++rest)))):=by
      refine ⟨?_,by rw [w8 _ _ (hnb t2)];exact t2,by rw [w8 _ _ (hnb t3)];exact t3,by rw [w8 _ _ (hnb t4)];exact t4,⟨?_, ?_, ?_, ?_⟩,t6⟩
      ·rw [w8 _ _ hbr,henv, <- hln];rfl
      ·rw [w7,hcs l]
      ·rw [hcs l];simp only [List.length_append,List.length_cons,List.length_nil];omega
      ·rw [List.length_map,hln];omega
      ·intro z hz;obtain ⟨x,_,rfl⟩:=List.mem_map.1 hz;rfl
     have hKf:BK ib σ st (σ1.set r (.cells (A++[dI e.op,dI num]++sl (cI l)::(M++rest)))) (some (r,rc,rest)):=fun j x hj hjb hr=>by
      obtain ⟨h1,h2⟩:=hK4 j x hj hjb hr
      exact ⟨by rw [w8 _ _ fun e=>h2 e];exact h1,h2⟩
     rw [<- hbe] at hBf
     try refine gz ?_ o112 [6]
     exact fin1 (σ':=_) ⟨rfl,_,hBf,hKf⟩
  ·rcases hm.cases with ⟨ks,vs,rfl,hzp⟩ | ⟨rfl,hzp⟩
   ·repeat' first | refine gf (gi hzp (gi q1 (gi q2 (gi q3 q4)))) ?_ o112 [6] | apply gy<;>intro hh
    all_goals (refine dwp_wk ?_ hK;clear hK ih;refine BH (by simp) (Bl ?_);rw [<- hnum];unfold bndN;simp [*];done)
   ·repeat' first | refine gf (gi q1 (gi q2 (gi q3 q4))) ?_ o112 [6] | apply gy<;>intro hh
    all_goals (refine dwp_wk ?_ hK;clear hK ih;refine BH (by simp) (Bl ?_);rw [<- hnum];unfold bndN;simp [*];done)
end
section
variable {ops:Array Oper} {n N:Nat} {ro:Option Nat} {σ0:Sig} {Q:DX->St->Prop} {df:List DDf} {γ γr:List (Nat × D)} {σ:Sig} {t:Nat} {ty:TypeId} {pos:String} {after:Array Edge} {d:D}
theorem moRd {op:Op} {l:List (Bool × Oper)} (h:MO prog ro n ops N σ0 Q df l ((t,d)::γ) σ) (hd:dopX tab γr σ op=some d) (hC:Sub σ0 σ) (hr:Fa op=true:=by rfl) (hl:A4 γ (A6 op.operands.toList)=some γr:=by with_unfolding_all rfl) (htn:decide (t < n)=true:=by with_unfolding_all rfl) :
  MO prog ro n ops N σ0 Q df ((true,⟨some t,op,ty,pos,after,none⟩)::l) γ σ :=
 mo1 (fun γ2 hx=>Fu Ad hr rfl (by rw [Bz hx];exact (Bz (CC hl)) ▸ hd) htn (Be ⟨rfl,by simp only [putD,A7,if_true];exact ⟨hC,h⟩⟩)) htn
end
def Ch (f:FProg):List (Str × Int):=putM LC 2 (putM wInt 1 (putM wAny 0 (numM (f.classes.map (·.name)) 3 [])))
def C3 (f:FProg):List (Str × Int):=numM (AD f) 0 []
def gensN (f:FProg):List Str:=(EW f).1.map (·.1)
def AZ (f:FProg):List (Str × Int):=numM (gensN f) 0 []
def HN (m:FMeth):Str->Int:=fun y=>getM 0 y (numM m.params 0 [])
def N3 (cm sm gm:List (Str × Int)):List FMeth->Nat->List BNode
 | [],_=>[]
 | m::r,k=>bndE cm sm gm m.body (HN m) m.params.length k++N3 cm sm gm r (k+m.body.cnt)
def bndMM (cm sm gm:List (Str × Int)):List FMeth->Nat->List BMeth
 | [],_=>[]
 | m::r,k=>⟨m.kind,getM 0 m.name gm,bndF cm sm (HN m) m.fact,k⟩::bndMM cm sm gm r (k+m.body.cnt)
def AU (f:FProg):BProg :=
 ⟨f.classes.map (NX (Ch f) (C3 f)),(AD f).length,Nb (AZ f) f,bndMM (Ch f) (C3 f) (AZ f) f.methods 0,
  N3 (Ch f) (C3 f) (AZ f) f.methods 0++bndE (Ch f) (C3 f) (AZ f) f.main (fun _=>0) 0 (N3 (Ch f) (C3 f) (AZ f) f.methods 0).length,(N3 (Ch f) (C3 f) (AZ f) f.methods 0).length⟩
theorem Oj : ∀ (l:List Str) (b:Int) (m:List (Str × Int)) (s:Str),(s ∈ l->b<=getM 0 s (numM l b m)/\getM 0 s (numM l b m) < b+l.length)/\(s ∉ l->getM 0 s (numM l b m)=getM 0 s m)
 | [],b,m,s=>by simp [numM]
 | x::r,b,m,s=>by
  obtain ⟨h1,h2⟩:=Oj r (b+1) (putM x b m) s
  rw [numM]
  refine ⟨fun h => ?_,fun h => ?_⟩
  ·by_cases hr:s ∈ r
   ·have:=h1 hr;simp only [List.length_cons];omega
   ·rw [h2 hr,CZ]
    have:s=x:=(List.mem_cons.1 h).resolve_right hr
    rw [if_pos this];simp only [List.length_cons];omega
  ·rw [List.mem_cons,not_or] at h
   rw [h2 h.2,CZ,if_neg h.1]
theorem Oi : ∀ (l:List Str) (b:Int) (m:List (Str × Int)),l.Nodup->(∀ s ∈ l,hasM s m=false)->(numM l b m).length=m.length+l.length
 | [],b,m,_,_=>by simp [numM]
 | x::r,b,m,hn,hm=>by
  rw [List.nodup_cons] at hn
  rw [numM,Oi r _ _ hn.2 fun s hs => ?_,KS x b m (hm x (by simp))]
  ·simp only [List.length_append,List.length_cons,List.length_nil];omega
  ·rw [HZ,hm s (by simp [hs])]
   have:s ≠ x:=fun e=>hn.1 (e ▸ hs)
   simp [this]
theorem FZ : ∀ (l:List Str) (b:Int) (m:List (Str × Int)),(m.map (·.1)).Nodup->((numM l b m).map (·.1)).Nodup
 | [],_,m,h=>h
 | x::r,b,m,h=>FZ r _ _ (Iz x b h)
theorem LR (name:Str) (n:Int) (s:GenT) (h:(s.1.map (·.1)).Nodup):((seeG name n s).1.map (·.1)).Nodup/\name ∈ (seeG name n s).1.map (·.1) /\ ∀ x ∈ s.1.map (·.1),x ∈ (seeG name n s).1.map (·.1):=by
 unfold seeG
 split
 ·rename_i hh
  exact ⟨h,(GM _ _).1 hh,fun x hx=>hx⟩
 ·rename_i hh
  simp only [List.map_append,List.map_cons,List.map_nil]
  refine ⟨List.nodup_append.2 ⟨h,by simp,fun a ha b hb e => ?_⟩,by simp,fun x hx=>by simp [hx]⟩
  simp only [List.mem_singleton] at hb
  exact hh ((GM _ _).2 (by rw [<- hb, <- e];exact ha))
def CallsIn (ks:List Str) (x:FExp):Prop:=x.op=5->x.text ∈ ks
mutual
theorem H3 {Q R:FExp->Prop} (h : ∀ x,Q x->R x) : ∀ e,AllX Q e->AllX R e
 | .mk o n t k,he=>by rw [AllX] at he ⊢; exact ⟨h _ he.1,KC h k he.2⟩
theorem KC {Q R:FExp->Prop} (h : ∀ x,Q x->R x) : ∀ l,FU Q l->FU R l
 | [],_=>by rw [FU];trivial
 | x::r,he=>by rw [FU] at he ⊢; exact ⟨H3 h x he.1,KC h r he.2⟩
end
mutual
theorem Rf : ∀ (e:FExp) (s:GenT),(s.1.map (·.1)).Nodup->((genE e s).1.map (·.1)).Nodup/\(∀ x ∈ s.1.map (·.1),x ∈ (genE e s).1.map (·.1))/\AllX (CallsIn ((genE e s).1.map (·.1))) e
 | .mk o n t k,s,h=>by
  rw [genE,AllX]
  by_cases h5:o=5
  ·rw [if_pos h5]
   obtain ⟨a1,a2,a3⟩:=LR t k.length s h
   obtain ⟨b1,b2,b3⟩:=FI k _ a1
   exact ⟨b1,fun x hx=>b2 x (a3 x hx),fun _=>b2 _ a2,b3⟩
  ·rw [if_neg h5]
   obtain ⟨b1,b2,b3⟩:=FI k _ h
   exact ⟨b1,b2,fun h=>absurd h h5,b3⟩
theorem FI : ∀ (l:List FExp) (s:GenT),(s.1.map (·.1)).Nodup->((ED l s).1.map (·.1)).Nodup/\(∀ x ∈ s.1.map (·.1),x ∈ (ED l s).1.map (·.1))/\FU (CallsIn ((ED l s).1.map (·.1))) l
 | [],s,h=>by rw [ED,FU];exact ⟨h,fun _ h=>h,trivial⟩
 | x::r,s,h=>by
  rw [ED,FU]
  obtain ⟨a1,a2,a3⟩:=Rf x s h
  obtain ⟨b1,b2,b3⟩:=FI r _ a1
  exact ⟨b1,fun y hy=>b2 y (a2 y hy),H3 (fun y hq h5=>b2 _ (hq h5)) x a3,b3⟩
end
theorem M2 : ∀ (l:List FMeth) (s:GenT),(s.1.map (·.1)).Nodup->((metG l s).1.map (·.1)).Nodup/\(∀ x ∈ s.1.map (·.1),x ∈ (metG l s).1.map (·.1)) /\ ∀ m ∈ l,m.name ∈ (metG l s).1.map (·.1)
 | [],s,h=>⟨h,fun _ h=>h,by simp⟩
 | m::r,s,h=>by
  obtain ⟨a1,a2,a3⟩:=LR m.name m.params.length s h
  obtain ⟨b1,b2,b3⟩:=M2 r _ a1
  rw [metG]
  refine ⟨b1,fun x hx=>b2 x (a3 x hx),fun y hy => ?_⟩
  rcases List.mem_cons.1 hy with rfl | hy
  ·exact b2 _ a2
  ·exact b3 y hy
theorem Nj {Q:FExp->Prop} : ∀ (l:List FExp),FU Q l -> ∀ x ∈ l,AllX Q x
 | [],_,x,hx=>by simp at hx
 | y::r,h,x,hx=>by
  rw [FU] at h
  rcases List.mem_cons.1 hx with rfl | hx
  ·exact h.1
  ·exact Nj r h.2 x hx
theorem K0 (f:FProg):(gensN f).Nodup/\(∀ m ∈ f.methods,m.name ∈ gensN f/\AllX (CallsIn (gensN f)) m.body)/\AllX (CallsIn (gensN f)) f.main:=by
 obtain ⟨a1,a2,a3⟩:=M2 f.methods ([],true) (by simp)
 obtain ⟨b1,b2,b3⟩:=FI (Db f) _ a1
 have hm:=Nj _ b3
 exact ⟨b1,fun m hmm=>⟨b2 _ (a3 m hmm),hm _ (by unfold Db;exact List.mem_append_left _ (List.mem_map_of_mem hmm))⟩,hm _ (by unfold Db;simp)⟩
theorem OB (f:FProg):(AZ f).length=(gensN f).length:=by
 unfold AZ
 rw [Oi _ _ _ (K0 f).1 (fun _ _=>rfl)];simp
theorem args_ok (f:FProg):(∀ m ∈ f.methods,(0<=getM 0 m.name (AZ f)/\getM 0 m.name (AZ f) < (AZ f).length)/\AllX (QA (AZ f) (AZ f).length) m.body)/\AllX (QA (AZ f) (AZ f).length) f.main:=by
 obtain ⟨h1,h2,h3⟩:=K0 f
 have key : ∀ s ∈ gensN f,0<=getM 0 s (AZ f)/\getM 0 s (AZ f) < (AZ f).length:=fun s hs=>by
  have:=(Oj (gensN f) 0 [] s).1 hs
  rw [OB];unfold AZ;omega
 have hq : ∀ x,CallsIn (gensN f) x->QA (AZ f) (AZ f).length x:=fun x hx h5=>key _ (hx h5)
 exact ⟨fun m hm=>⟨key _ (h2 m hm).1,H3 hq _ (h2 m hm).2⟩,H3 hq _ h3⟩
theorem BS.envS {ib ia is ig:Nat} {a b c d f:D} {cm sm gm:List (Str × Int)} {st:MR} {ns:List BNode} {σ:Sig} (h:BS ib ia is ig a b c d f cm sm gm st ns σ):EnvS ib ia is ig [a,b,c,d,mD st ns.length,f] cm sm gm σ:=⟨⟨_,_,_,_,_,_,rfl,h.env⟩,h.oa,h.os,h.og⟩
section
variable {ops:Array Oper} {n N:Nat} {ro:Option Nat} {σ0:Sig} {Q:DX->St->Prop} {df:List DDf} {γ γr:List (Nat × D)} {σ:Sig} {ty:TypeId} {pos:String} {after:Array Edge} {d:D}
theorem moSt {op:Op} {l:List (Bool × Oper)} {σ' σ'':Sig} (h:MO prog ro n ops N σ0 Q df l γ σ'') (he:eopD tab γr σ op=some (d,σ')) (hw : ∀ γ,Wk prog n ⟨γ,σ',df⟩ ⟨γ,σ'',df⟩) (hC:Sub σ0 σ'') (hl:A4 γ (A6 op.operands.toList)=some γr:=by with_unfolding_all rfl) :
  MO prog ro n ops N σ0 Q df ((true,⟨none,op,ty,pos,after,none⟩)::l) γ σ :=
 UD (o:=⟨none,op,ty,pos,after,none⟩) rfl rfl rfl (GY Ad rfl (by rw [Cf (γ':=γ) fun x hx=>CX (o:=⟨none,op,ty,pos,after,none⟩) hx];exact (Cf (CC hl)) ▸ he) rfl (BM (hw _) (Be ⟨rfl,hC,h⟩)))
end
theorem U5 (f:FProg) (σ:Sig) (hw:f.wt<=10000000) (hs:(BE f).isSome=true):DCall prog 48 [.agg (Da f)] σ fun x σ'=>x = .ret (.agg (Af (AU f)))/\σ'=σ:=by
 obtain ⟨p1,p2,p3,p4,p5⟩:=f.wt_le
 have hsl:=JF f
 have hgl:(gensN f).length<=f.wt:=by have:=Mc f;unfold gensN;rw [List.length_map];exact this
 have hcl:(f.classes.map (·.name)).length<=1073741824:=by rw [List.length_map];omega
 have hgn:(EW f).1.map (·.1)=gensN f:=rfl
 refine en func48 ntmps48 ?_
 try refine gz ?_ o48 [2]
 refine newV (fun i2 hi2 => ?_)
 repeat ((fail_if_success (first | (refine callWP (MD f.classes (·.name) 103 [] .no _ (by omega) (fun x hx σ' _=>MC x σ')) (fun x σ1 hr => ?_) (fun x σ1 hr=>by cases hr.1)) | fail));(refine goX1 (gi hgn hs) ?_))
 refine callWP (MD f.classes (·.name) 103 [] .no _ (by omega) (fun x hx σ' _=>MC x σ')) (fun x σ1 hr => ?_) (fun x σ1 hr=>by cases hr.1)
 obtain ⟨e1,e2⟩:=hr
 cases e1
 rw [e2]
 clear e2 σ1
 repeat ((fail_if_success (first | (refine Ab (Dp (f.classes.map (·.name)) 3 .no _ hcl ⟨by omega,by omega⟩) (fun x σ1 hr => ?_) (fun x σ1 hr=>by obtain ⟨_,_,h,_⟩:=hr;cases h)) | fail));(refine goX1 trivial ?_))
 refine Ab (Dp (f.classes.map (·.name)) 3 .no _ hcl ⟨by omega,by omega⟩) (fun x σ1 hr => ?_) (fun x σ1 hr=>by obtain ⟨_,_,h,_⟩:=hr;cases h)
 obtain ⟨ia,hia,e1,e2⟩:=hr
 cases e1
 rw [e2]
 clear e2 σ1
 repeat ((fail_if_success (first | (refine Ab (Dp (AD f) 0 .no _ (by omega) ⟨by omega,by omega⟩) (fun x σ1 hr => ?_) (fun x σ1 hr=>by obtain ⟨_,_,h,_⟩:=hr;cases h)) | fail));(refine goX1 trivial ?_))
 refine Ab (Dp (AD f) 0 .no _ (by omega) ⟨by omega,by omega⟩) (fun x σ1 hr => ?_) (fun x σ1 hr=>by obtain ⟨_,_,h,_⟩:=hr;cases h)
 obtain ⟨is,his,e1,e2⟩:=hr
 cases e1
 rw [e2]
 clear e2 σ1
 repeat ((fail_if_success (first | (refine Ab (Dp (gensN f) 0 .no _ (by omega) ⟨by omega,by omega⟩) (fun x σ1 hr => ?_) (fun x σ1 hr=>by obtain ⟨_,_,h,_⟩:=hr;cases h)) | fail));(refine goX1 trivial ?_))
 refine Ab (Dp (gensN f) 0 .no _ (by omega) ⟨by omega,by omega⟩) (fun x σ1 hr => ?_) (fun x σ1 hr=>by obtain ⟨_,_,h,_⟩:=hr;cases h)
 obtain ⟨ig,hig,e1,e2⟩:=hr
 cases e1
 rw [e2]
 clear e2 σ1
 repeat ((fail_if_success (first | (refine boxV (T:=163) (fun ib hib => ?_)) | fail));(refine goX1 trivial ?_))
 refine boxV (T:=163) (fun ib hib => ?_)
 try refine gz ?_ (delO 4 o48) [2]
 obtain ⟨a1,b1⟩:=A8 hia
 obtain ⟨a2,b2⟩:=A8 his
 obtain ⟨a3,b3⟩:=A8 b2
 obtain ⟨a4,b4⟩:=A8 hig
 obtain ⟨a5,b5⟩:=A8 b4
 obtain ⟨a6,b6⟩:=A8 b5
 obtain ⟨a7,b7⟩:=A8 hib
 obtain ⟨a8,b8⟩:=A8 b7
 obtain ⟨a9,b9⟩:=A8 b8
 obtain ⟨a10,b10⟩:=A8 b9
 generalize hσ4:Sig.set _ ib _=σ4
 have o1:σ4 ib=some (.cells [.nils,dI 0, .nils, .nils, .nils,dI 0, .map ia, .map is, .map ig]):=by rw [<- hσ4];exact w7 ..
 have o2:σ4 ia=some (.map (eSN (numM (f.classes.map (·.name)) 3 []))):=by rw [<- hσ4,w8 _ _ (Ne.symm a9),w8 _ _ (Ne.symm a5),w8 _ _ (Ne.symm a2)];exact w7 ..
 have o3:σ4 is=some (.map (eSN (C3 f))):=by rw [<- hσ4,w8 _ _ (Ne.symm a8),w8 _ _ (Ne.symm a4)];exact w7 ..
 have o4:σ4 ig=some (.map (eSN (AZ f))):=by rw [<- hσ4,w8 _ _ (Ne.symm a7)];exact w7 ..
 have o5:σ4 i2=some (.cells [.nils,dI 0, .nils, .nils, .nils,dI 0]):=by rw [<- hσ4,w8 _ _ (Ne.symm a10),w8 _ _ (Ne.symm a6),w8 _ _ (Ne.symm a3),w8 _ _ (Ne.symm a1)];exact w7 ..
 have hS:Sub σ σ4:=fun j x hj=>by rw [<- hσ4,w8 _ _ (A3 hj b10),w8 _ _ (A3 hj b6),w8 _ _ (A3 hj b3),w8 _ _ (A3 hj b1),w8 _ _ (A3 hj hi2)];exact hj
 clear hσ4
 refine mixT 12 [0,1,2,3,4,5,6,7,8,9,10,11] [] ?_
 try refine gf o1 ?_ o48 [2]
 refine ent3 ?_ o2
 refine ent3 ?_ (w7 ..)
 refine ent3 ?_ (w7 ..)
 rw [w9,w9]
 generalize hσ5:Sig.set _ ia _=σ5
 have q1:σ5 ib=some (.cells [.nils,dI 0, .nils, .nils, .nils,dI 0, .map ia, .map is, .map ig]):=by rw [<- hσ5,w8 _ _ a9];exact o1
 have q2:σ5 ia=some (.map (eSN (Ch f))):=by rw [<- hσ5];exact w7 ..
 have q3:σ5 is=some (.map (eSN (C3 f))):=by rw [<- hσ5,w8 _ _ a2];exact o3
 have q4:σ5 ig=some (.map (eSN (AZ f))):=by rw [<- hσ5,w8 _ _ a5];exact o4
 have q5:σ5 i2=some (.cells [.nils,dI 0, .nils, .nils, .nils,dI 0]):=by rw [<- hσ5,w8 _ _ (Ne.symm a1)];exact o5
 have hS5:Sub σ σ5:=fun j x hj=>by rw [<- hσ5,w8 _ _ (A3 hj b1)];exact hS _ _ hj
 clear hσ5 hS o1 o2 o3 o4 o5 hia his hig hib b2 b4 b5 b7 b8 b9
 try refine gz ?_ (delO 5 o48) [2]
 have hgm:=OB f
 obtain ⟨hM,hA⟩:=args_ok f
 have h104:=fun σ' (h:σ' ig=some (.map (eSN (AZ f))))=>Q1 f (AZ f) ig σ' (by omega) (by omega) h hM hA
 refine HC [0,1,2,3,4,5,6,7,8,9,10,11,12,13,14,15,16] [8,9,13] (σ5.out (· = ib)) (CR _ _) ?_
 try refine gz ?_ o48 [2]
 refine moRd (d := .map ig) ?_ ?hd (CR _ _)
 case hd=>simp [q1]
 refine Cd (h104 σ5 q4) (fun x σ6 hr => ?_) (fun x σ6 hr=>by obtain ⟨_,_,h,_⟩:=hr;cases h)
 obtain ⟨r,hr0,e1,e2⟩:=hr
 cases e1
 rw [e2]
 have nr:ib ≠ r:=A3 q1 hr0
 have hout : ∀ X,Sub (σ5.out (· = ib)) ((σ5.set r X).set ib (.cells [.nils,dI (AD f).length, .nils, .nils, .nils,dI 0, .map ia, .map is, .map ig])):=fun X j x hj=>by
  obtain ⟨h1,h2⟩:=Fd hj
  rw [w8 _ _ h2,w8 _ _ (A3 h1 hr0)];exact h1
 refine ⟨(CR _ _).trans ((Sub.refl _).set hr0), ?_⟩
 have w1:(σ5.set r (.cells ((Nb (AZ f) f).map dI))) ib=some (.cells [.nils,dI 0, .nils, .nils, .nils,dI 0, .map ia, .map is, .map ig]):=by rw [w8 _ _ nr];exact q1
 have hout1:=hout (.cells ((Nb (AZ f) f).map dI))
 try refine gf q1 ?_ (delO 6 o48) [2]
 generalize hgs:Nb (AZ f) f=gs at *
 have hgsl:gs.length=(AZ f).length:=by rw [<- hgs];unfold Nb;rw [FQ,Pa,List.length_replicate]
 have hfr : ∀ C,(σ5.set r (.cells (gs.map dI))).set ib C=mS (σ5.set ib C) (some (r,(AZ f).length,[])) (cI gs):=fun C=>by
  rw [set_comm _ (Ne.symm nr)]
  show _=(σ5.set ib C).set r (.cells ((cI gs).flatten++[]))
  rw [List.append_nil,Dt]
 rw [hfr]
 have hmok : ∀ C,mOK (σ5.set ib C) 1 (some (r,(AZ f).length,[])) (cI gs):=fun C=>by
  refine ⟨by rw [w8 _ _ (Ne.symm nr)];exact hr0, ?_,by simp [hgsl],BR _⟩
  rw [List.append_nil,Dt,List.length_map,hgsl];omega
 refine dwp_wk (G1 (az:=[.nils,dI (AD f).length]) (bs:=[.nils, .nils,dI 0, .map ia, .map is, .map ig]) (hmok _) (by rw [w7,HK,hgsl];rfl)) ?_
 rw [w9]
 have z1:(σ5.set ib (.cells [.nils,dI (AD f).length,sl (cI gs), .nils, .nils,dI 0, .map ia, .map is, .map ig])) ib=some (.cells [.nils,dI (AD f).length,sl (cI gs), .nils, .nils,dI 0, .map ia, .map is, .map ig]):=w7 ..
 have z2:(σ5.set ib (.cells [.nils,dI (AD f).length,sl (cI gs), .nils, .nils,dI 0, .map ia, .map is, .map ig])) ia=some (.map (eSN (Ch f))):=by rw [w8 _ _ (Ne.symm a9)];exact q2
 have z3:(σ5.set ib (.cells [.nils,dI (AD f).length,sl (cI gs), .nils, .nils,dI 0, .map ia, .map is, .map ig])) is=some (.map (eSN (C3 f))):=by rw [w8 _ _ (Ne.symm a8)];exact q3
 have z4:(σ5.set ib (.cells [.nils,dI (AD f).length,sl (cI gs), .nils, .nils,dI 0, .map ia, .map is, .map ig])) ig=some (.map (eSN (AZ f))):=by rw [w8 _ _ (Ne.symm a7)];exact q4
 have z5:(σ5.set ib (.cells [.nils,dI (AD f).length,sl (cI gs), .nils, .nils,dI 0, .map ia, .map is, .map ig])) i2=some (.cells [.nils,dI 0, .nils, .nils, .nils,dI 0]):=by rw [w8 _ _ (Ne.symm a10)];exact q5
 have zS:Sub σ (σ5.set ib (.cells [.nils,dI (AD f).length,sl (cI gs), .nils, .nils,dI 0, .map ia, .map is, .map ig])):=hS5.set b10
 generalize hσ6:σ5.set ib (.cells ([D.nils,dI (AD f).length]++sl (cI gs)::[D.nils, .nils,dI 0, .map ia, .map is, .map ig]))=σ6
 have hσ6:σ5.set ib (.cells [.nils,dI (AD f).length,sl (cI gs), .nils, .nils,dI 0, .map ia, .map is, .map ig])=σ6:=hσ6
 rw [hσ6] at z1 z2 z3 z4 z5 zS
 clear hσ6 hfr hmok hout hout1 w1
 have hwc : ∀ c ∈ f.classes,c.parents.length<=1073741824/\c.slots.length<=1073741824/\c.inits.length<=1073741824:=fun c hc=>by
  obtain ⟨k,hk,rfl⟩:=List.getElem_of_mem hc
  have:=p4 k hk
  obtain ⟨_,y2,y3,y4,_⟩:=(f.classes[k]).wt_le
  have:=CL (f.classes[k]).parents
  have:=CL (f.classes[k]).slots
  omega
 have hE6:EnvS ib ia is ig [.nils,dI (AD f).length,sl (cI gs), .nils, .nils,dI 0] (Ch f) (C3 f) (AZ f) σ6:=⟨⟨_,_,_,_,_,_,rfl,z1⟩,z2,z3,z4⟩
 have h105:=SD f.classes (NX (Ch f) (C3 f)) 106 [.cptr [.ptr ib 0] 0] .no σ6 (by omega) (fun x hx σ' hs=>Q0 x (hwc x hx) (hE6.sub hs))
 generalize hbc:f.classes.map (NX (Ch f) (C3 f))=bcs at *
 repeat' first | refine gf z1 ?_ [] [2] | refine moR (h105) ?_ | refine moP (h105) ?_ | refine gf z1 ?_ o48 [2] | apply gy<;>intro hh
 generalize hσ7:Sig.set σ6 ib _=σ7
 have y1:σ7 ib=some (.cells [sl (bcs.map Ae),dI (AD f).length,sl (cI gs), .nils, .nils,dI 0, .map ia, .map is, .map ig]):=by rw [<- hσ7];exact w7 ..
 have y2:σ7 ia=some (.map (eSN (Ch f))):=by rw [<- hσ7,w8 _ _ (Ne.symm a9)];exact z2
 have y3:σ7 is=some (.map (eSN (C3 f))):=by rw [<- hσ7,w8 _ _ (Ne.symm a8)];exact z3
 have y4:σ7 ig=some (.map (eSN (AZ f))):=by rw [<- hσ7,w8 _ _ (Ne.symm a7)];exact z4
 have y5:σ7 i2=some (.cells [.nils,dI 0, .nils, .nils, .nils,dI 0]):=by rw [<- hσ7,w8 _ _ (Ne.symm a10)];exact z5
 have yS:Sub σ σ7:=by rw [<- hσ7];exact zS.set b10
 clear hσ7 z1 z2 z3 z4 z5 zS h105 hE6 h104 q1 q2 q3 q4 q5 hS5 hr0 nr
 refine Cr ib 3 9 (ds:=[sl (bcs.map Ae),dI (AD f).length,sl (cI gs), .nils, .nils,dI 0, .map ia, .map is, .map ig]) y1 rfl (fun im him => ?_)
 have m1:ib ≠ im:=A3 y1 him
 have m2:ia ≠ im:=A3 y2 him
 have m3:is ≠ im:=A3 y3 him
 have m4:ig ≠ im:=A3 y4 him
 have m5:i2 ≠ im:=A3 y5 him
 generalize hσ8:Sig.set (Sig.set σ7 im _) ib _=σ8
 have hB8:BS ib ia is ig (sl (bcs.map Ae)) (dI (AD f).length) (sl (cI gs)) (.slice (([]:List BMeth).map As) (.tag im)) (dI 0) (Ch f) (C3 f) (AZ f) none [] σ8:=by
  rw [<- hσ8]
  refine ⟨w7 .., ?_, ?_, ?_,rfl,id⟩
  ·rw [w8 _ _ (Ne.symm a9),w8 _ _ m2];exact y2
  ·rw [w8 _ _ (Ne.symm a8),w8 _ _ m3];exact y3
  ·rw [w8 _ _ (Ne.symm a7),w8 _ _ m4];exact y4
 have x1:σ8 im=some (.tail 9 ([]:List BMeth).length):=by rw [<- hσ8,w8 _ _ (Ne.symm m1)];exact w7 ..
 have x5:σ8 i2=some (.cells [.nils,dI 0, .nils, .nils, .nils,dI 0]):=by rw [<- hσ8,w8 _ _ (Ne.symm a10),w8 _ _ m5];exact y5
 have xS:Sub σ σ8:=by rw [<- hσ8];exact (yS.set (yS.none him)).set b10
 have him0:σ im=none:=yS.none him
 clear hσ8 y1 y2 y3 y4 y5 yS him
 have hcm : ∀ m ∈ f.methods,m.body.cnt<=FMeth.wt m:=fun m _=>by have:=FExp.cnt_le m.body;unfold FMeth.wt;omega
 have hwl:wtL FMeth.wt f.methods<=f.wt:=by unfold FProg.wt;omega
 refine Tz [1,2,7,12,76,77,121,122,123,124,125,126,127,128,129,130,131,132,133,134,135,136,137,138,139,140,141,142,143,144,145,146,147,148,149,150,151,152,153,154] (fun (k:Nat) (ms:List BMeth) (st:MR) (ns:List BNode) (σ1:Sig)=>k<=f.methods.length/\ms.length=k/\ns++N3 (Ch f) (C3 f) (AZ f) (f.methods.drop k) ns.length=N3 (Ch f) (C3 f) (AZ f) f.methods 0/\ms++bndMM (Ch f) (C3 f) (AZ f) (f.methods.drop k) ns.length=bndMM (Ch f) (C3 f) (AZ f) f.methods 0/\ns.length+wtL FMeth.wt (f.methods.drop k)<=f.wt/\BS ib ia is ig (sl (bcs.map Ae)) (dI (AD f).length) (sl (cI gs)) (.slice (ms.map As) (.tag im)) (dI 0) (Ch f) (C3 f) (AZ f) st ns σ1/\σ1 im=some (.tail 9 ms.length)/\σ1 i2=some (.cells [.nils,dI 0, .nils, .nils, .nils,dI 0]) /\ ¬ C4 st i2/\Sub σ σ1/\(∀ j x,σ j=some x -> ¬ C4 st j)) (fun k _ _ _ _=>[(78,dI k)]) (fun _ _ _ _ σ1=>σ1) (fun k _ _ _ _=>f.methods.length-k) (0) ([]) (none) ([]) (σ8) (by exact ⟨by omega,rfl,rfl,rfl,by simpa using hwl,hB8,x1,x5,id,xS,fun _ _ _=>id⟩) (fun k ms st ns σ1 hI => ?_)
 obtain ⟨hk,hml,hRn,hRm,hbud,hB,o1,o5,o6,oS,oR⟩:=hI
 by_cases hkl:k < f.methods.length
 ·rw [A2 hkl] at hRn hRm hbud
  rw [N3] at hRn
  rw [bndMM] at hRm
  rw [wtL] at hbud
  have hwm:=p5 k hkl
  generalize hmm:f.methods[k]=m at *
  have hpl:m.params.length<=f.wt/\m.body.wt<=f.wt/\m.fact.wt<=f.wt:=by have:=hwm;unfold FMeth.wt at this;have:=CL m.params;omega
  obtain ⟨g1,g2,g3⟩:=hpl
  try refine gf (gi hB.env hmm) ?_ (delO 10 o48) [2]
  refine mix (id:=10) [0,1,2,4,5,6,3,7,8,9] [8,9] ?_
  try refine gf hmm ?_ o48 [2]
  refine moQR ?_
  obtain ⟨ks,vs,hcn⟩ : ∃ ks vs,cNum (numM m.params 0 []) = .cmap ks vs:=⟨_,_,rfl⟩
  rw [hcn]
  try refine gf hmm ?_ o48 [2]
  refine Oq (fun i10 hi10 => ?_)
  try refine gf hmm ?_ o48 [2]
  have hnm:NmD (.cmap ks vs) (numM m.params 0 []):=⟨.inl hcn.symm,FZ _ _ _ (by simp)⟩
  have hBn:=hB.fresh (o := .cells [.ptr ib 0, .cmap ks vs,dI m.params.length]) hi10
  have hi10':i10 ≠ im:=fun e=>by rw [e,o1] at hi10;cases hi10
  have hlm0:m.body.wt<=FMeth.wt m:=by unfold FMeth.wt;omega
  have hlm:ns.length+m.body.wt<=100000000:=by omega
  have hrow : ∀ {j x},(∀ c,x ≠ .cells c)->σ1 j=some x -> ¬ C4 st j:=fun hx hj hr=>by obtain ⟨cs,hc⟩:=hB.row.cells hr;rw [hj] at hc;cases hc;exact hx _ rfl
  refine Ab (MA m.body.wt m.body (.cmap ks vs) (numM m.params 0 []) m.params.length st ns _ (Nat.le_refl _) hlm (by omega) (by omega) hnm hBn) (fun x σ2 hr => ?_) (fun x σ2 hr=>by cases hr.1)
  obtain ⟨e1,st2,hB2,hK2⟩:=hr
  cases e1
  have kp : ∀ {j x},σ1 j=some x->j ≠ ib -> ¬ C4 st j->σ2 j=some x /\ ¬ C4 st2 j:=fun hj hb hr=>hK2 _ _ (by rw [w8 _ _ (A3 hj hi10)];exact hj) hb hr
  obtain ⟨t1,t1r⟩:=kp o1 (Ne.symm m1) (hrow (by simp) o1)
  obtain ⟨t5,t5r⟩:=kp o5 (Ne.symm a10) o6
  have tS : ∀ j x,σ j=some x->σ2 j=some x /\ ¬ C4 st2 j:=fun j x hj=>kp (oS _ _ hj) (A3 hj b10) (oR _ _ hj)
  obtain ⟨t10,_⟩:=hK2 i10 _ (w7 ..) (fun e=>by rw [e,hB.env] at hi10;cases hi10) (hB.notrow hi10)
  have hE2:=hB2.envS
  have h113:=SC (.cmap ks vs) (numM m.params 0 []) m.params.length hnm m.fact.wt m.fact σ2 (Nat.le_refl _) (by omega) hE2
  have u1:(σ2.out (· = im)) ib=_:=HA hB2.env m1
  have u4:(σ2.out (· = im)) ig=_:=HA hB2.og m4
  have u10:(σ2.out (· = im)) i10=_:=HA t10 hi10'
  have hsub:Sub (σ2.out (· = im)) (σ2.set im (.tail 9 (ms.length+1))):=fun j x hj=>by
   obtain ⟨h1,h2⟩:=Fd hj
   rw [w8 _ _ h2];exact h1
  have hout0:Sub (σ2.out (· = im)) σ2:=CR _ _
  try refine gf hmm ?_ (delO 12 o48) [2]
  refine HC [0,1,2,3,4,5,6,7,8,9,10,11,12,13,14,15,16,17,19,18,20,21,22,23,24,25] [18,22] (σ2.out (· = im)) (CR _ _) ?_
  repeat' first | refine gf (gi u1 (gi u4 (gi u10 (gi hmm (gi t1 hB2.env))))) ?_ [] [2] | refine moR (h113) ?_ | refine moP (h113) ?_ | refine gf (gi u1 (gi u4 (gi u10 (gi hmm (gi t1 hB2.env))))) ?_ o48 [2] | apply gy<;>intro hh
  generalize hqq:Sig.set _ ib _=qq
  have hbe:bndE (Ch f) (C3 f) (AZ f) m.body (fun y=>getM 0 y (numM m.params 0 [])) m.params.length ns.length=bndE (Ch f) (C3 f) (AZ f) m.body (HN m) m.params.length ns.length:=rfl
  have hbl:=FP (cm:=Ch f) (sm:=C3 f) (gm:=AZ f) m.body (HN m) m.params.length ns.length
  rw [hbe] at hB2 hqq
  have c1:qq ib=some (.cells [sl (bcs.map Ae),dI (AD f).length,sl (cI gs), .slice ((ms++[(⟨m.kind,getM 0 m.name (AZ f),bndF (Ch f) (C3 f) (HN m) m.fact,ns.length⟩:BMeth)]).map As) (.tag im),mD st2 (ns++bndE (Ch f) (C3 f) (AZ f) m.body (HN m) m.params.length ns.length).length,dI 0, .map ia, .map is, .map ig]):=by
   rw [<- hqq,w7,List.length_append]
   simp only [List.map_append,List.map_cons,List.map_nil,As,Dn,List.cons_append,List.nil_append]
   rfl
  have kq : ∀ {j x},σ2 j=some x->j ≠ ib->j ≠ im->qq j=some x:=fun hj h1 h2=>by rw [<- hqq,w8 _ _ h1,w8 _ _ h2];exact hj
  have hBq:BS ib ia is ig (sl (bcs.map Ae)) (dI (AD f).length) (sl (cI gs)) (.slice ((ms++[(⟨m.kind,getM 0 m.name (AZ f),bndF (Ch f) (C3 f) (HN m) m.fact,ns.length⟩:BMeth)]).map As) (.tag im)) (dI 0) (Ch f) (C3 f) (AZ f) st2 (ns++bndE (Ch f) (C3 f) (AZ f) m.body (HN m) m.params.length ns.length) qq :=
   ⟨c1,kq hB2.oa (Ne.symm a9) m2,kq hB2.os (Ne.symm a8) m3,kq hB2.og (Ne.symm a7) m4,hB2.row.keep fun j x hj hr=>kq hj (fun e=>hB2.nr (by rw [<- e];exact hr)) (fun e=>t1r (by rw [<- e];exact hr)),hB2.nr⟩
  have cim:qq im=some (.tail 9 (ms++[(⟨m.kind,getM 0 m.name (AZ f),bndF (Ch f) (C3 f) (HN m) m.fact,ns.length⟩:BMeth)]).length):=by rw [<- hqq,w8 _ _ (Ne.symm m1),w7,List.length_append];rfl
  have c5:=kq t5 (Ne.symm a10) m5
  have cS:Sub σ qq:=fun j x hj=>kq (tS j x hj).1 (A3 hj b10) (A3 hj him0)
  clear hqq
  exact ⟨k+1,ms++[⟨m.kind,getM 0 m.name (AZ f),bndF (Ch f) (C3 f) (HN m) m.fact,ns.length⟩],st2,ns++bndE (Ch f) (C3 f) (AZ f) m.body (HN m) m.params.length ns.length,qq,⟨by omega,by rw [List.length_append,hml];rfl,by rw [List.append_assoc,List.length_append,hbl];exact hRn,by rw [List.append_assoc,List.length_append,hbl];exact hRm,by rw [List.length_append,hbl];have:=FExp.cnt_le m.body;omega,hBq,cim,c5,t5r,cS,fun j x hj=>(tS j x hj).2⟩,td1,wkR⟩
 ·rw [A1 hkl,N3,List.append_nil] at hRn
  rw [A1 hkl,bndMM,List.append_nil] at hRm
  have hmw:=FExp.cnt_le f.main
  try refine gf hB.env ?_ o48 [2]
  refine Ab (MA f.main.wt f.main .nilmap [] 0 st ns _ (Nat.le_refl _) (by omega) (by omega) (by omega) ⟨.inr ⟨rfl,rfl⟩,by simp⟩ hB) (fun x σ2 hr => ?_) (fun x σ2 hr=>by cases hr.1)
  obtain ⟨e1,st2,hB2,hK2⟩:=hr
  cases e1
  have hbe:bndE (Ch f) (C3 f) (AZ f) f.main (fun y=>getM 0 y []) 0 ns.length=bndE (Ch f) (C3 f) (AZ f) f.main (fun _=>0) 0 ns.length:=rfl
  rw [hbe] at hB2
  obtain ⟨t5,t5r⟩:=hK2 _ _ o5 (Ne.symm a10) o6
  have tS : ∀ j x,σ j=some x->σ2 j=some x /\ ¬ C4 st2 j:=fun j x hj=>hK2 _ _ (oS _ _ hj) (A3 hj b10) (oR _ _ hj)
  have hbo:AU f=⟨bcs,(AD f).length,gs,ms,ns++bndE (Ch f) (C3 f) (AZ f) f.main (fun _=>0) 0 ns.length,ns.length⟩:=by unfold AU;rw [hbc,hgs, <- hRn, <- hRm]
  generalize hnn:ns++bndE (Ch f) (C3 f) (AZ f) f.main (fun _=>0) 0 ns.length=nn at *
  try refine gf hB2.env ?_ (delO 16 o48) [2]
  generalize hσ3:Sig.set σ2 ib _=σ3
  have c1:σ3 ib=some (.cells [sl (bcs.map Ae),dI (AD f).length,sl (cI gs), .slice (ms.map As) (.tag im),mD st2 nn.length,dI ns.length, .map ia, .map is, .map ig]):=by rw [<- hσ3];exact w7 ..
  have c5:σ3 i2=some (.cells [.nils,dI 0, .nils, .nils, .nils,dI 0]):=by rw [<- hσ3,w8 _ _ (Ne.symm a10)];exact t5
  have cS : ∀ j x,σ j=some x->σ3 j=some x /\ ¬ C4 st2 j:=fun j x hj=>⟨by rw [<- hσ3,w8 _ _ (A3 hj b10)];exact (tS j x hj).1,(tS j x hj).2⟩
  have cR:RowAt σ3 3 st2 (nn.map Ai):=hB2.row.keep fun j x hj hr=>by rw [<- hσ3,w8 _ _ fun e=>hB2.nr (by rw [<- e];exact hr)];exact hj
  clear hσ3
  obtain ⟨σ4,rfl,hm4,hk4,_⟩:=cR.mS
  have d1:=hk4 _ _ c1 hB2.nr
  have d5:=hk4 _ _ c5 t5r
  have dS:Sub σ σ4:=fun j x hj=>hk4 _ _ (cS j x hj).1 (cS j x hj).2
  refine dwp_wk (G1 (az:=[sl (bcs.map Ae),dI (AD f).length,sl (cI gs), .slice (ms.map As) (.tag im)]) (bs:=[dI ns.length, .map ia, .map is, .map ig]) hm4 (by rw [List.length_map];exact d1)) ?_
  refine dwp_wk (EZ (az:=[sl (bcs.map Ae),dI (AD f).length,sl (cI gs)]) (d := .slice (ms.map As) (.tag im)) (d':=sl (ms.map As)) (bs:=[sl (nn.map Ai),dI ns.length, .map ia, .map is, .map ig]) (w7 ..) (B4 _ _)) ?_
  rw [w9]
  have e1:(σ4.set ib (.cells [sl (bcs.map Ae),dI (AD f).length,sl (cI gs),sl (ms.map As),sl (nn.map Ai),dI ns.length, .map ia, .map is, .map ig])) ib=some (.cells [sl (bcs.map Ae),dI (AD f).length,sl (cI gs),sl (ms.map As),sl (nn.map Ai),dI ns.length, .map ia, .map is, .map ig]):=w7 ..
  have e5:(σ4.set ib (.cells [sl (bcs.map Ae),dI (AD f).length,sl (cI gs),sl (ms.map As),sl (nn.map Ai),dI ns.length, .map ia, .map is, .map ig])) i2=some (.cells [.nils,dI 0, .nils, .nils, .nils,dI 0]):=by rw [w8 _ _ (Ne.symm a10)];exact d5
  have eS:Sub σ (σ4.set ib (.cells [sl (bcs.map Ae),dI (AD f).length,sl (cI gs),sl (ms.map As),sl (nn.map Ai),dI ns.length, .map ia, .map is, .map ig])):=dS.set b10
  generalize hσ5:σ4.set ib (.cells ([sl (bcs.map Ae),dI (AD f).length,sl (cI gs)]++sl (ms.map As)::[sl (nn.map Ai),dI ns.length, .map ia, .map is, .map ig]))=σ5
  have hσ5:σ4.set ib (.cells [sl (bcs.map Ae),dI (AD f).length,sl (cI gs),sl (ms.map As),sl (nn.map Ai),dI ns.length, .map ia, .map is, .map ig])=σ5:=hσ5
  rw [hσ5] at e1 e5 eS
  clear hσ5
  refine mixL [0,1,2,3,4,5,6,8,9,10,11,12,7,13,14,15,16,17,18,19,20] [17] ?_
  try refine gf e1 ?_ o48 [2]
  refine moQR ?_
  try refine gf e1 ?_ o48 [2]
  refine moQR ?_
  try refine gf e1 ?_ o48 [2]
  refine moSt (d := .any) (σ':=σ5.set ib (.cells [sl (bcs.map Ae),dI (AD f).length,sl (cI gs), .slice (ms.map As) .clip,sl (nn.map Ai),dI ns.length, .map ia, .map is, .map ig])) (σ'':=σ5) ?_ ?he (fun γ => ?hw) (Sub.refl _)
  case he=>simp [e1]
  case hw =>
   have:=EZ (P:=prog) (n:=155) (γ:=γ) (df:=[]) (az:=[sl (bcs.map Ae),dI (AD f).length,sl (cI gs)]) (d := .slice (ms.map As) .clip) (d':=sl (ms.map As)) (bs:=[sl (nn.map Ai),dI ns.length, .map ia, .map is, .map ig]) (σ:=σ5.set ib (.cells [sl (bcs.map Ae),dI (AD f).length,sl (cI gs), .slice (ms.map As) .clip,sl (nn.map Ai),dI ns.length, .map ia, .map is, .map ig])) (w7 ..) (B4 _ _)
   rw [w9] at this
   have h2:=Sig.set_self _ e1
   rw [show σ5.set ib (.cells ([sl (bcs.map Ae),dI (AD f).length,sl (cI gs)]++sl (ms.map As)::[sl (nn.map Ai),dI ns.length, .map ia, .map is, .map ig]))=σ5 from h2] at this
   exact this
  try refine gf (gi e1 e5) ?_ o48 [2]
  rw [hbo]
  have hwk:WkD (.agg [sl (bcs.map Ae),dI (AD f).length,sl (cI gs),sl (ms.map As), .slice (nn.map Ai) .clip,dI ns.length]) (.agg [sl (bcs.map Ae),dI (AD f).length,sl (cI gs),sl (ms.map As),sl (nn.map Ai),dI ns.length]):=F1 (show WkL _ _ from ⟨A9 _,A9 _,A9 _,A9 _,B4 _ _,A9 _,trivial⟩)
  refine finC (σ':=σ) (d := .agg [sl (bcs.map Ae),dI (AD f).length,sl (cI gs),sl (ms.map As),sl (nn.map Ai),dI ns.length]) ⟨rfl,rfl⟩ (hσ:=(eS.set b10).set hi2) (hw := ?_)
  exact hwk
@[reducible,instance] def a48:=fun f σ=>ah2 (@U5 f σ)
end Go.DL
