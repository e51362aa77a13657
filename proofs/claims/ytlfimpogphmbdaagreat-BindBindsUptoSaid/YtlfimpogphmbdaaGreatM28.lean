/- Part of the proof that the last text ends. -/
import Derived.Test.YtlfimpogphmbdaaGreatM27
import Derived.Test.YtlfimpogphmbdaaGreatM22
import Derived.Test.YtlfimpogphmbdaaGreatM24
import Derived.Test.YtlfimpogphmbdaaGreatM20
set_option linter.all false
namespace Go.DL
open Go.Proofs.Tryz
open Go Go.Proofs
set_option maxHeartbeats 8000000
theorem RowAt.sref {V:Sig} {sz:Nat} {st:MR} {es:List (List D)} (h:RowAt V sz st es) (hne:es ≠ []) : ∃ r c, ∀ n,mD st n = .sref r 0 n c:=by
 rcases st with _ | ⟨i,cap,rest⟩
 ·exact absurd h hne
 ·exact ⟨i,cap,fun _=>rfl⟩
def FExp.cnt (e:FExp):Nat:=(allE e).length
def bndN (cm sm gm:List (Str × Int)) (o n:Int) (t:Str) (env:Str->Int):Int :=
 if o=3 then env t else if o=4\/o=7 then getM 0 t sm else if o=5 then getM 0 t gm else if o=6\/o=8 then getM 0 t cm else n
def Cz:List FExp->Nat->List Int
 | [],_=>[]
 | x::r,k=>(k:Int)::Cz r (k+x.cnt)
mutual
def bndE (cm sm gm:List (Str × Int)):FExp->(Str->Int)->Int->Nat->List BNode
 | .mk o n t l,env,size,k=>⟨o,bndN cm sm gm o n t env,Cz l (k+1)⟩::Ga cm sm gm o t l 0 env size (k+1)
def Ga (cm sm gm:List (Str × Int)) (o:Int) (t:Str):List FExp->Nat->(Str->Int)->Int->Nat->List BNode
 | [],_,_,_,_=>[]
 | x::r,i,env,size,k=>(if o=9/\i=1 then bndE cm sm gm x (updE env t size) (size+1) k else bndE cm sm gm x env size k)++Ga cm sm gm o t r (i+1) env size (k+x.cnt)
end
section
variable {cm sm gm:List (Str × Int)}
theorem bndE_eq (e:FExp) (env:Str->Int) (size:Int) (k:Nat):bndE cm sm gm e env size k=⟨e.op,bndN cm sm gm e.op e.n e.text env,Cz e.kids (k+1)⟩::Ga cm sm gm e.op e.text e.kids 0 env size (k+1):=by cases e;rw [bndE];rfl
mutual
theorem G5 : ∀ (e:FExp) (env:Str->Int) (size:Int) (k:Nat),(bndE cm sm gm e env size k).length=e.cnt
 | .mk o n t l,env,size,k=>by
  rw [bndE,List.length_cons,NW o t l,FExp.cnt,allE];simp
theorem NW (o:Int) (t:Str) : ∀ (l:List FExp) (i:Nat) (env:Str->Int) (size:Int) (k:Nat),(Ga cm sm gm o t l i env size k).length=(B9 l).length
 | [],_,_,_,_=>by rw [Ga,B9];rfl
 | x::r,i,env,size,k=>by
  rw [Ga,B9,List.length_append,List.length_append,NW o t r]
  split
  ·rw [G5 x];rfl
  ·rw [G5 x];rfl
end
end
theorem FExp.cnt_le (e:FExp):e.cnt<=e.wt:=E0 e
structure BS (ib ia is ig:Nat) (a b c d f:D) (cm sm gm:List (Str × Int)) (st:MR) (ns:List BNode) (V:Sig):Prop where
 env:V ib=some (.cells [a,b,c,d,mD st ns.length,f, .map ia, .map is, .map ig])
 oa:V ia=some (.map (eSN cm))
 os:V is=some (.map (eSN sm))
 og:V ig=some (.map (eSN gm))
 row:RowAt V 3 st (ns.map Ad)
 nr : ¬ Bl st ib
def BK (ib:Nat) (V:Sig) (st:MR) (S':Sig) (st':MR):Prop := ∀ j o,V j=some o->j ≠ ib -> ¬ Bl st j->S' j=some o /\ ¬ Bl st' j
theorem BK.trans {ib:Nat} {V S1 S2:Sig} {st st1 st2:MR} (h:BK ib V st S1 st1) (k:BK ib S1 st1 S2 st2):BK ib V st S2 st2:=fun j o hj hi hn=>k j o (h j o hj hi hn).1 hi (h j o hj hi hn).2
theorem BK.refl (ib:Nat) (V:Sig) (st:MR):BK ib V st V st:=fun j o h _ hn=>⟨h,hn⟩
theorem BK.fresh {ib:Nat} {V S1:Sig} {st st1:MR} {k:Nat} {o:DObj} (h:BK ib V st S1 st1) (hk:S1 k=none):BK ib V st (S1.set k o) st1:=fun j x hj hi hn=>by
 obtain ⟨h1,h2⟩:=h j x hj hi hn
 exact ⟨by rw [w8 _ _ (A1 h1 hk)];exact h1,h2⟩
section
variable {ib ia is ig:Nat} {a b c d f:D} {cm sm gm:List (Str × Int)} {st:MR} {ns:List BNode} {V:Sig}
theorem BS.set (h:BS ib ia is ig a b c d f cm sm gm st ns V) {k:Nat} {o:DObj} (h1:ib ≠ k) (h2:ia ≠ k) (h3:is ≠ k) (h4:ig ≠ k) (h5 : ¬ Bl st k):BS ib ia is ig a b c d f cm sm gm st ns (V.set k o) :=
 ⟨by rw [w8 _ _ h1];exact h.env,by rw [w8 _ _ h2];exact h.oa,by rw [w8 _ _ h3];exact h.os,by rw [w8 _ _ h4];exact h.og,h.row.keep fun j x hj hr=>by rw [w8 _ _ fun e=>h5 (by rw [<- e];exact hr)];exact hj,h.nr⟩
theorem BS.notrow (h:BS ib ia is ig a b c d f cm sm gm st ns V) {k:Nat} (hk:V k=none) : ¬ Bl st k:=fun hr=>by
 obtain ⟨cs,hc⟩:=h.row.cells hr;rw [hk] at hc;cases hc
theorem BS.fresh (h:BS ib ia is ig a b c d f cm sm gm st ns V) {k:Nat} {o:DObj} (hk:V k=none):BS ib ia is ig a b c d f cm sm gm st ns (V.set k o) :=
 h.set (A1 h.env hk) (A1 h.oa hk) (A1 h.os hk) (A1 h.og hk) (h.notrow hk)
theorem BS.tail (h:BS ib ia is ig a b c d f cm sm gm st ns V) {k s n:Nat} {o:DObj} (hk:V k=some (.tail s n)) : ¬ Bl st k/\k ≠ ib/\BS ib ia is ig a b c d f cm sm gm st ns (V.set k o) :=
 have hr : ¬ Bl st k:=fun hr=>by obtain ⟨cs,hc⟩:=h.row.cells hr;rw [hk] at hc;cases hc
 ⟨hr,Ac hk h.env (by simp),h.set (Ac h.env hk (by simp)) (Ac h.oa hk (by simp)) (Ac h.os hk (by simp)) (Ac h.og hk (by simp)) hr⟩
theorem BS.zero (h:BS ib ia is ig a b c d f cm sm gm st ns V):st=none->ns.length=0:=fun e=>by
 subst e;have:ns.map Ad=[]:=h.row;simpa using this
theorem Nu : ∀ (n:Nat) (e:FExp) (nm:D) (m:List (Str × Int)) (size:Int) (st:MR) (ns:List BNode) (V:Sig),e.wt<=n->ns.length+e.wt<=100000000->0<=size->size+n<=1000000000->NmD nm m ->
  BS ib ia is ig a b c d f cm sm gm st ns V->DCall prog 112 [.agg [.ptr ib 0,nm,dI size], .agg (Am e)] V fun x S'=>x = .ret (dI ns.length) /\
   ∃ st',BS ib ia is ig a b c d f cm sm gm st' (ns++bndE cm sm gm e (fun y=>getM 0 y m) size ns.length) S'/\BK ib V st S' st':=by
 intro n
 induction n with
 | zero =>
  intro e nm m size st ns V hx
  have:=e.wt_pos
  omega
 | succ n ih =>
  intro e nm m size st ns V hx hn hs0 hs1 hm hB
  obtain ⟨w1,w2,hw3⟩:=e.wt_le
  have hfl:nm.flat=true:=by rcases hm.cases with ⟨_,_,rfl,_⟩ | ⟨rfl,_⟩<;>rfl
  simp only [D.flat] at hfl
  have hz:=hB.zero
  have hB0:=hB
  have hnl:ns.length<=100000000:=by omega
  obtain ⟨q1,q2,q3,q4,q5,q6⟩:=hB
  refine en func112 ntmps112 ?_
  try refine gf q1 ?_ o112 [6]
  refine newV (fun i hi => ?_)
  have n1:ib ≠ i:=A1 q1 hi
  have n2:ia ≠ i:=A1 q2 hi
  have n3:is ≠ i:=A1 q3 hi
  have n4:ig ≠ i:=A1 q4 hi
  have hnr : ¬ Bl st i:=hB0.notrow hi
  generalize hnum:bndN cm sm gm e.op e.n e.text (fun y=>getM 0 y m)=num
  repeat ((fail_if_success (first | (refine dwp_cut1 (x1 := .seq _ (.block 0 _)) [] (V.set i (.cells [dI e.op,dI num, .nils])) ?_ (fun _ hK => ?_)) | fail));(refine goX1 trivial ?_))
  refine dwp_cut1 (x1 := .seq _ (.block 0 _)) [] (V.set i (.cells [dI e.op,dI num, .nils])) ?_ (fun _ hK => ?_)
  ·refine dwp_wk (Cx (az:=[dI e.op,dI num]) (bs:=[]) (d':=sl (cI [])) (w7 ..) (Al _ (.inl rfl))) ?_
   rw [w9]
   have hB1:=hB0.fresh (o := .cells [dI e.op,dI num,sl (cI [])]) hi
   have hK1:=(BK.refl ib V st).fresh (o := .cells [dI e.op,dI num,sl (cI [])]) hi
   have o6:(V.set i (.cells [dI e.op,dI num,sl (cI [])])) i=some (.cells [dI e.op,dI num,sl (cI [])]):=w7 ..
   generalize hU1:V.set i (.cells ([dI e.op,dI num]++sl (cI [])::[]))=S1
   have hU1:V.set i (.cells [dI e.op,dI num,sl (cI [])])=S1:=hU1
   rw [hU1] at hB1 hK1 o6
   clear hU1
   have r1:=hB1.env
   have r5:=hB1.row
   have u1:(S1.out (Bl st)) ib=some (.cells [a,b,c,d,mD st ns.length,f, .map ia, .map is, .map ig]):=C8 r1 hB1.nr
   have u6:(S1.out (Bl st)) i=some (.cells [dI e.op,dI num,sl (cI [])]):=C8 o6 hnr
   try refine gf (gi r1 o6) ?_ (delO 14 o112) [6]
   refine DC [0,1,2,3,4,5,6,7,8,9,10,11,12,13] [10] (S1.out (Bl st)) (By _ _) ?_
   try refine gf (gi u1 u6) ?_ o112 [6]
   refine Wg (es:=ns.map Ad) (fun st2 S2 hr2 hk2 => ?_) (fun j o h=>C9 h) (hm:=r5)
   obtain ⟨v1,v2⟩:=hk2 _ _ r1 hB1.nr
   obtain ⟨rr,rc,hmd⟩:=hr2.sref (by simp)
   have hmd1:=hmd (ns.length+1)
   try refine gf (gi v1 hmd1) ?_ o112 [6]
   refine Bo 7 1 (fun it hit => ?_)
   obtain ⟨i1,i2⟩:=A4 hit
   have hnd:(ns++[(⟨e.op,num,[]⟩:BNode)]).map Ad=ns.map Ad++[[dI e.op,dI num,sl []]]:=by simp
   have hB2:BS ib ia is ig a b c d f cm sm gm st2 (ns++[⟨e.op,num,[]⟩]) (S2.set ib (.cells [a,b,c,d, .sref rr 0 (ns.length+1) rc,f, .map ia, .map is, .map ig])):=by
    have hx : ∀ j o,S1 j=some o->j ≠ ib -> ¬ Bl st j->(S2.set ib (.cells [a,b,c,d, .sref rr 0 (ns.length+1) rc,f, .map ia, .map is, .map ig])) j=some o:=fun j o hj hjb hr=>by
     rw [w8 _ _ hjb];exact (hk2 j o hj hr).1
    have hnm : ∀ {k l},S1 k=some (.map l)->k ≠ ib /\ ¬ Bl st k:=fun {k l} hk=>⟨Ac hk r1 (by simp),fun hr=>by obtain ⟨cs,hc⟩:=r5.cells hr;rw [hk] at hc;cases hc⟩
    refine ⟨by rw [w7,hmd];simp,hx _ _ hB1.oa (hnm hB1.oa).1 (hnm hB1.oa).2,hx _ _ hB1.os (hnm hB1.os).1 (hnm hB1.os).2,hx _ _ hB1.og (hnm hB1.og).1 (hnm hB1.og).2, ?_,v2⟩
    rw [hnd]
    exact hr2.keep fun j x hj hr=>by rw [w8 _ _ fun e=>v2 (by rw [<- e];exact hr)];exact hj
   have hK2:BK ib V st (S2.set ib (.cells [a,b,c,d, .sref rr 0 (ns.length+1) rc,f, .map ia, .map is, .map ig])) st2:=fun j o hj hjb hr=>by
    obtain ⟨h1,h2⟩:=hK1 j o hj hjb hr
    obtain ⟨h3,h4⟩:=hk2 j o h1 h2
    exact ⟨by rw [w8 _ _ hjb];exact h3,h4⟩
   have hB3:=hB2.fresh (o := .tail 1 0) hit
   have hK3:=hK2.fresh (o := .tail 1 0) hit
   have ho3:((S2.set ib (.cells [a,b,c,d, .sref rr 0 (ns.length+1) rc,f, .map ia, .map is, .map ig])).set it (.tail 1 0)) it=some (.tail 1 0):=w7 ..
   have hi0 : ∀ o,V it=some o->Bl st it:=fun o h=>Classical.byContradiction fun hr=>by rw [(hK2 it o h i1 hr).1] at hit;cases hit
   refine Qd [2,3,4,5,84,85,111,112,113,114,115,116,117,118,119,120,121,122] (fun (k:Nat) (l:List Int) (ms:List BNode) (st1:MR) (S1:Sig)=>k<=e.kids.length/\l.length=k/\l++Cz (e.kids.drop k) (ns.length+1+ms.length)=Cz e.kids (ns.length+1)/\ms++Ga cm sm gm e.op e.text (e.kids.drop k) k (fun y=>getM 0 y m) size (ns.length+1+ms.length)=Ga cm sm gm e.op e.text e.kids 0 (fun y=>getM 0 y m) size (ns.length+1)/\ns.length+1+ms.length+wtL FExp.wt (e.kids.drop k)<=100000000/\BS ib ia is ig a b c d f cm sm gm st1 (ns++⟨e.op,num,[]⟩::ms) S1/\BK ib V st S1 st1/\S1 it=some (.tail 1 l.length)) (fun k l _ _ _=>[(86,dI k),(7, .slice (cI l) (.tag it))]) (fun _ _ _ _ S1=>S1) (fun k _ _ _ _=>e.kids.length-k) (0) ([]) ([]) (st2) (_) (by exact ⟨by omega,rfl,rfl,rfl,by have:=FExp.wt_eq e;simp only [List.length_nil,List.drop_zero];omega,hB3,hK3,ho3⟩) (fun k l ms st1 S1 hI => ?_)
   obtain ⟨hk,hll,hRl,hRm,hbud,hB4,hK4,o4⟩:=hI
   by_cases hkl:k < e.kids.length
   ·rw [A3 hkl] at hRl hRm hbud
    rw [Cz] at hRl
    rw [Ga] at hRm
    rw [wtL] at hbud
    have hwk:=hw3 k hkl
    have hck:=FExp.cnt_le e.kids[k]
    try refine gz ?_ o112 [6]
    refine newV (fun i10 hi10 => ?_)
    have hni:=hB4.tail (o := .defs) o4
    by_cases hlet:e.op=9/\k=1
    ·rw [if_pos hlet] at hRm
     obtain ⟨hl1,hl2⟩:=hlet
     try refine gf (gi hl1 hfl) ?_ o112 [6]
     refine Ab (TE ib nm m size e.text _ hm ⟨hs0,by omega⟩) (fun x S2 hr => ?_) (fun x S2 hr=>by obtain ⟨_,h,_⟩:=hr;cases h)
     obtain ⟨m',e1,hm',henv,e2⟩:=hr
     cases e1
     rw [e2]
     clear e2 S2
     have henv:(fun y=>getM 0 y m')=updE (fun y=>getM 0 y m) e.text size:=funext henv
     have hB5:=hB4.fresh (o := .cells [.ptr ib 0,cNum m',dI (size+1)]) hi10
     have hK5:=hK4.fresh (o := .cells [.ptr ib 0,cNum m',dI (size+1)]) hi10
     have o5:(S1.set i10 (.cells [.ptr ib 0,cNum m',dI (size+1)])) it=some (.tail 1 l.length):=by rw [w8 _ _ (A1 o4 hi10)];exact o4
     try refine gz ?_ o112 [6]
     refine Ab (ih e.kids[k] (cNum m') m' (size+1) st1 (ns++⟨e.op,num,[]⟩::ms) _ (by omega) (by simp only [List.length_append,List.length_cons];omega) (by omega) (by omega) hm' hB5) (fun x S3 hr => ?_) (fun x S3 hr=>by cases hr.1)
     obtain ⟨e1,st3,hB6,hK6⟩:=hr
     cases e1
     obtain ⟨o6,_⟩:=hK6 _ _ o5 hni.2.1 hni.1
     have hK7:=hK5.trans hK6
     rw [henv] at hB6
     have hpos:(((ns++(⟨e.op,num,[]⟩:BNode)::ms).length:Nat):Int)=((ns.length+1+ms.length:Nat):Int):=by simp only [List.length_append,List.length_cons];omega
     have hlen3:(ns++(⟨e.op,num,[]⟩:BNode)::ms).length=ns.length+1+ms.length:=by simp only [List.length_append,List.length_cons];omega
     rw [hlen3] at hB6
     have hB7:=(hB6.tail (o := .tail 1 (l++[((ns.length+1+ms.length:Nat):Int)]).length) o6).2.2
     have hK8:BK ib V st (S3.set it (.tail 1 (l++[((ns.length+1+ms.length:Nat):Int)]).length)) st3:=fun j x hj hjb hr=>by
      obtain ⟨h1,h2⟩:=hK7 j x hj hjb hr
      exact ⟨by rw [w8 _ _ fun e=>hr (by have:=hi0 x (by rw [<- e];exact hj);rw [e];exact this)];exact h1,h2⟩
     have hbl:=G5 (cm:=cm) (sm:=sm) (gm:=gm) e.kids[k] (updE (fun y=>getM 0 y m) e.text size) (size+1) (ns.length+1+ms.length)
     have hsub:Sub (S3.set it (.tail 1 (l++[((ns.length+1+ms.length:Nat):Int)]).length)) (S3.set it (.tail 1 (l.length+1))):=by rw [List.length_append];exact Sub.refl _
     rw [List.append_assoc,List.cons_append] at hB7
     have hw7:WkD (.slice (cI l++[[dI ((ns.length:Int)+((ms.length:Int)+1))]]) (.tag it)) (.slice (cI (l++[((ns.length+1+ms.length:Nat):Int)])) (.tag it)):=B0 (by simp [cI];omega)
     try refine gf (gi o6 hpos) ?_ o112 [6]
     exact ⟨k+1,l++[((ns.length+1+ms.length:Nat):Int)],ms++bndE cm sm gm e.kids[k] (updE (fun y=>getM 0 y m) e.text size) (size+1) (ns.length+1+ms.length),st3,S3.set it (.tail 1 (l++[((ns.length+1+ms.length:Nat):Int)]).length),⟨by omega,by rw [List.length_append,hll];rfl,by rw [List.append_assoc,List.length_append,hbl, <- Nat.add_assoc];exact hRl,by rw [List.append_assoc,List.length_append,hbl, <- Nat.add_assoc];exact hRm,by rw [List.length_append,hbl];omega,hB7,hK8,w7 ..⟩,td1,wkR⟩
    ·rw [if_neg hlet] at hRm
     have hB5:=hB4.fresh (o := .cells [.ptr ib 0,nm,dI size]) hi10
     have hK5:=hK4.fresh (o := .cells [.ptr ib 0,nm,dI size]) hi10
     have o5:(S1.set i10 (.cells [.ptr ib 0,nm,dI size])) it=some (.tail 1 l.length):=by rw [w8 _ _ (A1 o4 hi10)];exact o4
     by_cases h9:e.op=9
     ·have hk1:k ≠ 1:=fun h=>hlet ⟨h9,h⟩
      try refine gf (gi h9 hfl) ?_ o112 [6]
      refine Ab (ih e.kids[k] nm m size st1 (ns++⟨e.op,num,[]⟩::ms) _ (by omega) (by simp only [List.length_append,List.length_cons];omega) (by omega) (by omega) hm hB5) (fun x S3 hr => ?_) (fun x S3 hr=>by cases hr.1)
      obtain ⟨e1,st3,hB6,hK6⟩:=hr
      cases e1
      obtain ⟨o6,_⟩:=hK6 _ _ o5 hni.2.1 hni.1
      have hK7:=hK5.trans hK6
      have hpos:(((ns++(⟨e.op,num,[]⟩:BNode)::ms).length:Nat):Int)=((ns.length+1+ms.length:Nat):Int):=by simp only [List.length_append,List.length_cons];omega
      have hlen3:(ns++(⟨e.op,num,[]⟩:BNode)::ms).length=ns.length+1+ms.length:=by simp only [List.length_append,List.length_cons];omega
      rw [hlen3] at hB6
      have hB7:=(hB6.tail (o := .tail 1 (l++[((ns.length+1+ms.length:Nat):Int)]).length) o6).2.2
      have hK8:BK ib V st (S3.set it (.tail 1 (l++[((ns.length+1+ms.length:Nat):Int)]).length)) st3:=fun j x hj hjb hr=>by
       obtain ⟨h1,h2⟩:=hK7 j x hj hjb hr
       exact ⟨by rw [w8 _ _ fun e=>hr (by have:=hi0 x (by rw [<- e];exact hj);rw [e];exact this)];exact h1,h2⟩
      have hbl:=G5 (cm:=cm) (sm:=sm) (gm:=gm) e.kids[k] (fun y=>getM 0 y m) size (ns.length+1+ms.length)
      have hsub:Sub (S3.set it (.tail 1 (l++[((ns.length+1+ms.length:Nat):Int)]).length)) (S3.set it (.tail 1 (l.length+1))):=by rw [List.length_append];exact Sub.refl _
      rw [List.append_assoc,List.cons_append] at hB7
      have hw7:WkD (.slice (cI l++[[dI ((ns.length:Int)+((ms.length:Int)+1))]]) (.tag it)) (.slice (cI (l++[((ns.length+1+ms.length:Nat):Int)])) (.tag it)):=B0 (by simp [cI];omega)
      try refine gf (gi o6 hpos) ?_ o112 [6]
      exact ⟨k+1,l++[((ns.length+1+ms.length:Nat):Int)],ms++bndE cm sm gm e.kids[k] (fun y=>getM 0 y m) size (ns.length+1+ms.length),st3,S3.set it (.tail 1 (l++[((ns.length+1+ms.length:Nat):Int)]).length),⟨by omega,by rw [List.length_append,hll];rfl,by rw [List.append_assoc,List.length_append,hbl, <- Nat.add_assoc];exact hRl,by rw [List.append_assoc,List.length_append,hbl, <- Nat.add_assoc];exact hRm,by rw [List.length_append,hbl];omega,hB7,hK8,w7 ..⟩,td1,wkR⟩
     ·try refine gf hfl ?_ o112 [6]
      refine Ab (ih e.kids[k] nm m size st1 (ns++⟨e.op,num,[]⟩::ms) _ (by omega) (by simp only [List.length_append,List.length_cons];omega) (by omega) (by omega) hm hB5) (fun x S3 hr => ?_) (fun x S3 hr=>by cases hr.1)
      obtain ⟨e1,st3,hB6,hK6⟩:=hr
      cases e1
      obtain ⟨o6,_⟩:=hK6 _ _ o5 hni.2.1 hni.1
      have hK7:=hK5.trans hK6
      have hpos:(((ns++(⟨e.op,num,[]⟩:BNode)::ms).length:Nat):Int)=((ns.length+1+ms.length:Nat):Int):=by simp only [List.length_append,List.length_cons];omega
      have hlen3:(ns++(⟨e.op,num,[]⟩:BNode)::ms).length=ns.length+1+ms.length:=by simp only [List.length_append,List.length_cons];omega
      rw [hlen3] at hB6
      have hB7:=(hB6.tail (o := .tail 1 (l++[((ns.length+1+ms.length:Nat):Int)]).length) o6).2.2
      have hK8:BK ib V st (S3.set it (.tail 1 (l++[((ns.length+1+ms.length:Nat):Int)]).length)) st3:=fun j x hj hjb hr=>by
       obtain ⟨h1,h2⟩:=hK7 j x hj hjb hr
       exact ⟨by rw [w8 _ _ fun e=>hr (by have:=hi0 x (by rw [<- e];exact hj);rw [e];exact this)];exact h1,h2⟩
      have hbl:=G5 (cm:=cm) (sm:=sm) (gm:=gm) e.kids[k] (fun y=>getM 0 y m) size (ns.length+1+ms.length)
      have hsub:Sub (S3.set it (.tail 1 (l++[((ns.length+1+ms.length:Nat):Int)]).length)) (S3.set it (.tail 1 (l.length+1))):=by rw [List.length_append];exact Sub.refl _
      rw [List.append_assoc,List.cons_append] at hB7
      have hw7:WkD (.slice (cI l++[[dI ((ns.length:Int)+((ms.length:Int)+1))]]) (.tag it)) (.slice (cI (l++[((ns.length+1+ms.length:Nat):Int)])) (.tag it)):=B0 (by simp [cI];omega)
      try refine gf (gi o6 hpos) ?_ o112 [6]
      exact ⟨k+1,l++[((ns.length+1+ms.length:Nat):Int)],ms++bndE cm sm gm e.kids[k] (fun y=>getM 0 y m) size (ns.length+1+ms.length),st3,S3.set it (.tail 1 (l++[((ns.length+1+ms.length:Nat):Int)]).length),⟨by omega,by rw [List.length_append,hll];rfl,by rw [List.append_assoc,List.length_append,hbl, <- Nat.add_assoc];exact hRl,by rw [List.append_assoc,List.length_append,hbl, <- Nat.add_assoc];exact hRm,by rw [List.length_append,hbl];omega,hB7,hK8,w7 ..⟩,td1,wkR⟩
   ·rw [A2 hkl,Cz,List.append_nil] at hRl
    rw [A2 hkl,Ga,List.append_nil] at hRm
    obtain ⟨t1,t2,t3,t4,t5,t6⟩:=hB4
    rcases st1 with _ | ⟨r,rc,rest⟩
    ·have:(ns++(⟨e.op,num,[]⟩:BNode)::ms).map Ad=[]:=t5
     simp at this
    ·have hrow:S1 r=some (.cells (((ns++(⟨e.op,num,[]⟩:BNode)::ms).map Ad).flatten++rest))/\(((ns++(⟨e.op,num,[]⟩:BNode)::ms).map Ad).flatten++rest).length=rc*3/\((ns++(⟨e.op,num,[]⟩:BNode)::ms).map Ad).length<=rc/\_:=t5
     have henv:S1 ib=some (.cells [a,b,c,d, .sref r 0 (ns.length+1+ms.length) rc,f, .map ia, .map is, .map ig]):=by
      rw [t1];show some (DObj.cells [a,b,c,d, .sref r 0 (ns++(⟨e.op,num,[]⟩:BNode)::ms).length rc,f, .map ia, .map is, .map ig])=_
      rw [show (ns++(⟨e.op,num,[]⟩:BNode)::ms).length=ns.length+1+ms.length by simp only [List.length_append,List.length_cons];omega]
     obtain ⟨w1,w2,w3,w4⟩:=hrow
     have hAl:(ns.map Ad).flatten.length=ns.length*3:=by rw [CM (sz:=3) (by simp)];simp
     have hcs : ∀ q:List Int,((ns++(⟨e.op,num,q⟩:BNode)::ms).map Ad).flatten++rest=(ns.map Ad).flatten++[dI e.op,dI num]++sl (cI q)::((ms.map Ad).flatten++rest):=fun q=>by simp
     have hcs':((ns++(⟨e.op,num,[]⟩:BNode)::ms).map Ad).flatten++rest=(ns.map Ad).flatten++dI e.op::dI num::sl (cI [])::((ms.map Ad).flatten++rest):=by simp
     rw [hcs'] at w1 w2
     clear hcs'
     generalize hA:(ns.map Ad).flatten=A at *
     generalize hM:(ms.map Ad).flatten=M at *
     have hcl:A.length+(3+(M.length+rest.length))=rc*3:=by simp only [List.length_append,List.length_cons] at w2;omega
     have w3':=w3
     rw [List.length_map,List.length_append,List.length_cons] at w3
     have htd:List.take (ns.length*3+2) (A++dI e.op::dI num::sl []::(M++rest))=A++[dI e.op,dI num]:=by rw [<- hAl,List.take_length_add_append];rfl
     have hdd:List.drop (ns.length*3+2+1) (A++dI e.op::dI num::sl []::(M++rest))=M++rest:=by rw [<- hAl,Nat.add_assoc,List.drop_length_add_append];rfl
     try refine gf (gi henv w1) ?_ (delO 25 o112) [6]
     refine mixL (id:=25) [0,1,2,3,4,5,6,7,8,9,10] [8] ?_
     repeat ((fail_if_success (first | (refine celW (List.take (ns.length*3+2) (A++dI e.op::dI num::sl []::(M++rest))) (List.drop (ns.length*3+2+1) (A++dI e.op::dI num::sl []::(M++rest))) (.slice (cI l) .clip) (sl (cI l)) ?_ (w7 ..) (Az _ _)) | fail));(refine goX1 (gi henv w1) ?_))
     refine celW (List.take (ns.length*3+2) (A++dI e.op::dI num::sl []::(M++rest))) (List.drop (ns.length*3+2+1) (A++dI e.op::dI num::sl []::(M++rest))) (.slice (cI l) .clip) (sl (cI l)) ?_ (w7 ..) (Az _ _)
     rw [htd,hdd,w9]
     have hbe:bndE cm sm gm e (fun y=>getM 0 y m) size ns.length=⟨e.op,num,l⟩::ms:=by rw [bndE_eq,hnum, <- hRl, <- hRm]
     have hln:(ns++(⟨e.op,num,l⟩:BNode)::ms).length=ns.length+1+ms.length:=by simp only [List.length_append,List.length_cons];omega
     have hnb : ∀ {j x},S1 j=some (.map x)->j ≠ r:=fun hj=>Ac hj w1 (by simp)
     have hbr:ib ≠ r:=fun h=>t6 h
     have hBf:BS ib ia is ig a b c d f cm sm gm (some (r,rc,rest)) (ns++⟨e.op,num,l⟩::ms) (S1.set r (.cells (A++[dI e.op,dI num]++sl (cI l)::(M++rest)))):=by
      refine ⟨?_,by rw [w8 _ _ (hnb t2)];exact t2,by rw [w8 _ _ (hnb t3)];exact t3,by rw [w8 _ _ (hnb t4)];exact t4,⟨?_, ?_, ?_, ?_⟩,t6⟩
      ·rw [w8 _ _ hbr,henv, <- hln];rfl
      ·rw [w7,hcs l]
      ·rw [hcs l];simp only [List.length_append,List.length_cons,List.length_nil];omega
      ·rw [List.length_map,hln];omega
      ·intro z hz;obtain ⟨x,_,rfl⟩:=List.mem_map.1 hz;rfl
     have hKf:BK ib V st (S1.set r (.cells (A++[dI e.op,dI num]++sl (cI l)::(M++rest)))) (some (r,rc,rest)):=fun j x hj hjb hr=>by
      obtain ⟨h1,h2⟩:=hK4 j x hj hjb hr
      exact ⟨by rw [w8 _ _ fun e=>h2 e];exact h1,h2⟩
     rw [<- hbe] at hBf
     try refine gz ?_ o112 [6]
     exact fin1 (S':=_) ⟨rfl,_,hBf,hKf⟩
  ·rcases hm.cases with ⟨ks,vs,rfl,hzp⟩ | ⟨rfl,hzp⟩
   ·repeat' first | refine gf (gi hzp (gi q1 (gi q2 (gi q3 q4)))) ?_ o112 [6] | apply gy<;>intro hh
    all_goals (refine dwp_wk ?_ hK;clear hK ih;refine Aj (by simp) (Be ?_);rw [<- hnum];unfold bndN;simp [*];done)
   ·repeat' first | refine gf (gi q1 (gi q2 (gi q3 q4))) ?_ o112 [6] | apply gy<;>intro hh
    all_goals (refine dwp_wk ?_ hK;clear hK ih;refine Aj (by simp) (Be ?_);rw [<- hnum];unfold bndN;simp [*];done)
end
def EL (t:Str):List Str->Nat->Int->Int
 | [],_,n=>n
 | x::r,k,n=>EL t r (k+1) (if x=t then k else n)
def OC (names slots gens:List Str) (o n:Int) (t:Str) (own:List Str):Int :=
 if o=3 then EL t own 0 n else if o=4\/o=7 then idxG t slots 0 else if o=5 then idxG t gens 0 else if o=6\/o=8 then clsN names t else n
mutual
def Ey (names slots gens:List Str):FExp->List Str->Nat->List BNode
 | .mk o n t l,own,k=>⟨o,OC names slots gens o n t own,Cz l (k+1)⟩::Ew names slots gens o t l 0 own (k+1)
def Ew (names slots gens:List Str) (o:Int) (t:Str):List FExp->Nat->List Str->Nat->List BNode
 | [],_,_,_=>[]
 | x::r,i,own,k=>(if o=9/\i=1 then Ey names slots gens x (own++[t]) k else Ey names slots gens x own k)++Ew names slots gens o t r (i+1) own (k+x.cnt)
end
section
variable {names slots gens:List Str}
theorem W4 (e:FExp) (own:List Str) (k:Nat):Ey names slots gens e own k=⟨e.op,OC names slots gens e.op e.n e.text own,Cz e.kids (k+1)⟩::Ew names slots gens e.op e.text e.kids 0 own (k+1):=by cases e;rw [Ey];rfl
mutual
theorem Ex : ∀ (e:FExp) (own:List Str) (k:Nat),(Ey names slots gens e own k).length=e.cnt
 | .mk o n t l,own,k=>by
  rw [Ey,List.length_cons,Lk o t l,FExp.cnt,allE];simp
theorem Lk (o:Int) (t:Str) : ∀ (l:List FExp) (i:Nat) (own:List Str) (k:Nat),(Ew names slots gens o t l i own k).length=(B9 l).length
 | [],_,_,_=>by rw [Ew,B9];rfl
 | x::r,i,own,k=>by
  rw [Ew,B9,List.length_append,List.length_append,Lk o t r]
  split
  ·rw [Ex x];rfl
  ·rw [Ex x];rfl
end
end
structure NdS (ib:Nat) (a b c d f:D) (names slots gens:List Str) (st:MR) (ns:List BNode) (V:Sig):Prop where
 env:V ib=some (.cells [a,b,c,d,mD st ns.length,f,sl (cS names),sl (cS slots),sl (cS gens)])
 row:RowAt V 3 st (ns.map Ad)
 nr : ¬ Bl st ib
section
variable {ib:Nat} {a b c d f:D} {names slots gens:List Str} {st:MR} {ns:List BNode} {V:Sig}
theorem NdS.set (h:NdS ib a b c d f names slots gens st ns V) {k:Nat} {o:DObj} (h1:ib ≠ k) (h5 : ¬ Bl st k):NdS ib a b c d f names slots gens st ns (V.set k o) :=
 ⟨by rw [w8 _ _ h1];exact h.env,h.row.keep fun j x hj hr=>by rw [w8 _ _ fun e=>h5 (by rw [<- e];exact hr)];exact hj,h.nr⟩
theorem NdS.notrow (h:NdS ib a b c d f names slots gens st ns V) {k:Nat} (hk:V k=none) : ¬ Bl st k:=fun hr=>by
 obtain ⟨cs,hc⟩:=h.row.cells hr;rw [hk] at hc;cases hc
theorem NdS.fresh (h:NdS ib a b c d f names slots gens st ns V) {k:Nat} {o:DObj} (hk:V k=none):NdS ib a b c d f names slots gens st ns (V.set k o) :=
 h.set (A1 h.env hk) (h.notrow hk)
theorem NdS.tail (h:NdS ib a b c d f names slots gens st ns V) {k s n:Nat} {o:DObj} (hk:V k=some (.tail s n)) : ¬ Bl st k/\k ≠ ib/\NdS ib a b c d f names slots gens st ns (V.set k o) :=
 have hr : ¬ Bl st k:=fun hr=>by obtain ⟨cs,hc⟩:=h.row.cells hr;rw [hk] at hc;cases hc
 ⟨hr,Ac hk h.env (by simp),h.set (Ac h.env hk (by simp)) hr⟩
theorem NdS.zero (h:NdS ib a b c d f names slots gens st ns V):st=none->ns.length=0:=fun e=>by
 subst e;have:ns.map Ad=[]:=h.row;simpa using this
theorem NdS.bds (h:NdS ib a b c d f names slots gens st ns V):BdS ib a b c d (mD st ns.length) f names slots gens V:=h.env
theorem KZ (hnm:names.length<=1000000000) (hsl:slots.length<=1073741824) (hgn:gens.length<=1073741824) : ∀ (n:Nat) (e:FExp) (own:List Str) (o:Own) (st:MR) (ns:List BNode) (V:Sig),e.wt<=n->ns.length+e.wt<=100000000->own.length+n<=1000000000 ->
  NdS ib a b c d f names slots gens st ns V->DCall prog 131 [.ptr ib 0, .agg (Am e), .slice (cS own) o] V fun x S'=>x = .ret (dI ns.length) /\
   ∃ st',NdS ib a b c d f names slots gens st' (ns++Ey names slots gens e own ns.length) S'/\BK ib V st S' st':=by
 intro n
 induction n with
 | zero =>
  intro e own o st ns V hx
  have:=e.wt_pos
  omega
 | succ n ih =>
  intro e own o st ns V hx hn hs0 hB
  obtain ⟨w1,w2,hw3⟩:=e.wt_le
  have hz:=hB.zero
  have hB0:=hB
  have hnl:ns.length<=100000000:=by omega
  obtain ⟨q1,q5,q6⟩:=hB
  refine en func131 ntmps131 ?_
  refine gf q1 ?_ o131 [8]
  refine newV (fun i hi => ?_)
  have n1:ib ≠ i:=A1 q1 hi
  have hnr : ¬ Bl st i:=hB0.notrow hi
  generalize hnum:OC names slots gens e.op e.n e.text own=num
  repeat ((fail_if_success (first | (refine dwp_cut1 (x1 := .seq _ (.block 0 _)) [(1, .any),(13, .any),(14, .any),(15, .any),(16, .any),(17, .any),(18, .any),(19, .any),(20, .any),(21, .any),(22, .any),(23, .any)] (V.set i (.cells [dI e.op,dI num, .nils])) ?_ (fun _ hK => ?_)) | fail));(refine goX1 trivial ?_))
  refine dwp_cut1 (x1 := .seq _ (.block 0 _)) [(1, .any),(13, .any),(14, .any),(15, .any),(16, .any),(17, .any),(18, .any),(19, .any),(20, .any),(21, .any),(22, .any),(23, .any)] (V.set i (.cells [dI e.op,dI num, .nils])) ?_ (fun _ hK => ?_)
  ·refine dwp_wk (Cx (az:=[dI e.op,dI num]) (bs:=[]) (d':=sl (cI [])) (w7 ..) (Al _ (.inl rfl))) ?_
   rw [w9]
   have hB1:=hB0.fresh (o := .cells [dI e.op,dI num,sl (cI [])]) hi
   have hK1:=(BK.refl ib V st).fresh (o := .cells [dI e.op,dI num,sl (cI [])]) hi
   have o6:(V.set i (.cells [dI e.op,dI num,sl (cI [])])) i=some (.cells [dI e.op,dI num,sl (cI [])]):=w7 ..
   generalize hU1:V.set i (.cells ([dI e.op,dI num]++sl (cI [])::[]))=S1
   have hU1:V.set i (.cells [dI e.op,dI num,sl (cI [])])=S1:=hU1
   rw [hU1] at hB1 hK1 o6
   clear hU1
   have r1:=hB1.env
   have r5:=hB1.row
   have u1:(S1.out (Bl st)) ib=some (.cells [a,b,c,d,mD st ns.length,f,sl (cS names),sl (cS slots),sl (cS gens)]):=C8 r1 hB1.nr
   have u6:(S1.out (Bl st)) i=some (.cells [dI e.op,dI num,sl (cI [])]):=C8 o6 hnr
   refine gf (gi r1 o6) ?_ (delO 18 o131) [8]
   refine DC (id:=18) [0,1,2,3,4,5,6,7,8,9,10,11] [8] (S1.out (Bl st)) (By _ _) ?_
   refine gf (gi u1 u6) ?_ o131 [8]
   refine Wg (es:=ns.map Ad) (fun st2 S2 hr2 hk2 => ?_) (fun j o h=>C9 h) (hm:=r5)
   obtain ⟨v1,v2⟩:=hk2 _ _ r1 hB1.nr
   obtain ⟨rr,rc,hmd⟩:=hr2.sref (by simp)
   have hmd1:=hmd (ns.length+1)
   refine gf (gi v1 hmd1) ?_ o131 [8]
   refine Bo 10 1 (fun it hit => ?_)
   obtain ⟨i1,i2⟩:=A4 hit
   have hnd:(ns++[(⟨e.op,num,[]⟩:BNode)]).map Ad=ns.map Ad++[[dI e.op,dI num,sl []]]:=by simp
   have hB2:NdS ib a b c d f names slots gens st2 (ns++[⟨e.op,num,[]⟩]) (S2.set ib (.cells [a,b,c,d, .sref rr 0 (ns.length+1) rc,f,sl (cS names),sl (cS slots),sl (cS gens)])):=by
    refine ⟨by rw [w7,hmd];simp, ?_,v2⟩
    rw [hnd]
    exact hr2.keep fun j x hj hr=>by rw [w8 _ _ fun e=>v2 (by rw [<- e];exact hr)];exact hj
   have hK2:BK ib V st (S2.set ib (.cells [a,b,c,d, .sref rr 0 (ns.length+1) rc,f,sl (cS names),sl (cS slots),sl (cS gens)])) st2:=fun j o hj hjb hr=>by
    obtain ⟨h1,h2⟩:=hK1 j o hj hjb hr
    obtain ⟨h3,h4⟩:=hk2 j o h1 h2
    exact ⟨by rw [w8 _ _ hjb];exact h3,h4⟩
   have hB3:=hB2.fresh (o := .tail 1 0) hit
   have hK3:=hK2.fresh (o := .tail 1 0) hit
   have ho3:((S2.set ib (.cells [a,b,c,d, .sref rr 0 (ns.length+1) rc,f,sl (cS names),sl (cS slots),sl (cS gens)])).set it (.tail 1 0)) it=some (.tail 1 0):=w7 ..
   have hi0 : ∀ o,V it=some o->Bl st it:=fun o h=>Classical.byContradiction fun hr=>by rw [(hK2 it o h i1 hr).1] at hit;cases hit
   refine Qd [0,2,4,6,7,116,117,118,119,120,121,122,123,124,125] (fun (k:Nat) (l:List Int) (ms:List BNode) (st1:MR) (S1:Sig)=>k<=e.kids.length/\l.length=k/\l++Cz (e.kids.drop k) (ns.length+1+ms.length)=Cz e.kids (ns.length+1)/\ms++Ew names slots gens e.op e.text (e.kids.drop k) k own (ns.length+1+ms.length)=Ew names slots gens e.op e.text e.kids 0 own (ns.length+1)/\ns.length+1+ms.length+wtL FExp.wt (e.kids.drop k)<=100000000/\NdS ib a b c d f names slots gens st1 (ns++⟨e.op,num,[]⟩::ms) S1/\BK ib V st S1 st1/\S1 it=some (.tail 1 l.length)) (fun k l _ _ _=>[(11,dI k),(10, .slice (cI l) (.tag it))]) (fun _ _ _ _ S1=>S1) (fun k _ _ _ _=>e.kids.length-k) (0) ([]) ([]) (st2) (_) (by exact ⟨by omega,rfl,rfl,rfl,by have:=FExp.wt_eq e;simp only [List.length_nil,List.drop_zero];omega,hB3,hK3,ho3⟩) (fun k l ms st1 S1 hI => ?_)
   obtain ⟨hk,hll,hRl,hRm,hbud,hB4,hK4,o4⟩:=hI
   by_cases hkl:k < e.kids.length
   ·rw [A3 hkl] at hRl hRm hbud
    rw [Cz] at hRl
    rw [Ew] at hRm
    rw [wtL] at hbud
    have hwk:=hw3 k hkl
    have hck:=FExp.cnt_le e.kids[k]
    have hni:=hB4.tail (o := .defs) o4
    by_cases hlet:e.op=9/\k=1
    ·rw [if_pos hlet] at hRm
     obtain ⟨hl1,hl2⟩:=hlet
     refine gf hl1 ?_ (delO 25 o131) [8]
     refine mixL (id:=25) [0,2,3,4,1,5] [1,5] ?_
     refine gz ?_ o131 [8]
     refine RX (fun j hj => ?_)
     refine gz ?_ o131 [8]
     have hB5:=hB4.fresh (o := .tail 1 (own.length+1)) hj
     have hK5:=hK4.fresh (o := .tail 1 (own.length+1)) hj
     have o5:(S1.set j (.tail 1 (own.length+1))) it=some (.tail 1 l.length):=by rw [w8 _ _ (A1 o4 hj)];exact o4
     refine rtl 112 (.slice (cS (own++[e.text])) .no) ?_ (hw:=C6 _ (by simp [cS]))
     refine Ab (ih e.kids[k] (own++[e.text]) .no st1 (ns++⟨e.op,num,[]⟩::ms) _ (by omega) (by simp only [List.length_append,List.length_cons];omega) (by rw [List.length_append];simp only [List.length_cons,List.length_nil];omega) hB5) (fun x S3 hr => ?_) (fun x S3 hr=>by cases hr.1)
     obtain ⟨e1,st3,hB6,hK6⟩:=hr
     cases e1
     obtain ⟨o6,_⟩:=hK6 _ _ o5 hni.2.1 hni.1
     have hK7:=hK5.trans hK6
     have hpos:(((ns++(⟨e.op,num,[]⟩:BNode)::ms).length:Nat):Int)=((ns.length+1+ms.length:Nat):Int):=by simp only [List.length_append,List.length_cons];omega
     have hlen3:(ns++(⟨e.op,num,[]⟩:BNode)::ms).length=ns.length+1+ms.length:=by simp only [List.length_append,List.length_cons];omega
     rw [hlen3] at hB6
     have hB7:=(hB6.tail (o := .tail 1 (l++[((ns.length+1+ms.length:Nat):Int)]).length) o6).2.2
     have hK8:BK ib V st (S3.set it (.tail 1 (l++[((ns.length+1+ms.length:Nat):Int)]).length)) st3:=fun j x hj hjb hr=>by
      obtain ⟨h1,h2⟩:=hK7 j x hj hjb hr
      exact ⟨by rw [w8 _ _ fun e=>hr (by have:=hi0 x (by rw [<- e];exact hj);rw [e];exact this)];exact h1,h2⟩
     have hbl:=Ex (names:=names) (slots:=slots) (gens:=gens) e.kids[k] (own++[e.text]) (ns.length+1+ms.length)
     have hsub:Sub (S3.set it (.tail 1 (l++[((ns.length+1+ms.length:Nat):Int)]).length)) (S3.set it (.tail 1 (l.length+1))):=by rw [List.length_append];exact Sub.refl _
     rw [List.append_assoc,List.cons_append] at hB7
     have hw7:WkD (.slice (cI l++[[dI ((ns.length:Int)+((ms.length:Int)+1))]]) (.tag it)) (.slice (cI (l++[((ns.length+1+ms.length:Nat):Int)])) (.tag it)):=B0 (by simp [cI];omega)
     refine gf (gi o6 hpos) ?_ o131 [8]
     exact ⟨k+1,l++[((ns.length+1+ms.length:Nat):Int)],ms++Ey names slots gens e.kids[k] (own++[e.text]) (ns.length+1+ms.length),st3,S3.set it (.tail 1 (l++[((ns.length+1+ms.length:Nat):Int)]).length),⟨by omega,by rw [List.length_append,hll];rfl,by rw [List.append_assoc,List.length_append,hbl, <- Nat.add_assoc];exact hRl,by rw [List.append_assoc,List.length_append,hbl, <- Nat.add_assoc];exact hRm,by rw [List.length_append,hbl];omega,hB7,hK8,w7 ..⟩,td1,wkR⟩
    ·rw [if_neg hlet] at hRm
     have hB5:=hB4
     have hK5:=hK4
     have o5:=o4
     by_cases h9:e.op=9
     ·have hk1:k ≠ 1:=fun h=>hlet ⟨h9,h⟩
      refine gf h9 ?_ o131 [8]
      refine Ab (ih e.kids[k] own _ st1 (ns++⟨e.op,num,[]⟩::ms) _ (by omega) (by simp only [List.length_append,List.length_cons];omega) (by first | omega | (rw [List.length_append];simp only [List.length_cons,List.length_nil];omega)) hB5) (fun x S3 hr => ?_) (fun x S3 hr=>by cases hr.1)
      obtain ⟨e1,st3,hB6,hK6⟩:=hr
      cases e1
      obtain ⟨o6,_⟩:=hK6 _ _ o5 hni.2.1 hni.1
      have hK7:=hK5.trans hK6
      have hpos:(((ns++(⟨e.op,num,[]⟩:BNode)::ms).length:Nat):Int)=((ns.length+1+ms.length:Nat):Int):=by simp only [List.length_append,List.length_cons];omega
      have hlen3:(ns++(⟨e.op,num,[]⟩:BNode)::ms).length=ns.length+1+ms.length:=by simp only [List.length_append,List.length_cons];omega
      rw [hlen3] at hB6
      have hB7:=(hB6.tail (o := .tail 1 (l++[((ns.length+1+ms.length:Nat):Int)]).length) o6).2.2
      have hK8:BK ib V st (S3.set it (.tail 1 (l++[((ns.length+1+ms.length:Nat):Int)]).length)) st3:=fun j x hj hjb hr=>by
       obtain ⟨h1,h2⟩:=hK7 j x hj hjb hr
       exact ⟨by rw [w8 _ _ fun e=>hr (by have:=hi0 x (by rw [<- e];exact hj);rw [e];exact this)];exact h1,h2⟩
      have hbl:=Ex (names:=names) (slots:=slots) (gens:=gens) e.kids[k] own (ns.length+1+ms.length)
      have hsub:Sub (S3.set it (.tail 1 (l++[((ns.length+1+ms.length:Nat):Int)]).length)) (S3.set it (.tail 1 (l.length+1))):=by rw [List.length_append];exact Sub.refl _
      rw [List.append_assoc,List.cons_append] at hB7
      have hw7:WkD (.slice (cI l++[[dI ((ns.length:Int)+((ms.length:Int)+1))]]) (.tag it)) (.slice (cI (l++[((ns.length+1+ms.length:Nat):Int)])) (.tag it)):=B0 (by simp [cI];omega)
      refine gf (gi o6 hpos) ?_ o131 [8]
      exact ⟨k+1,l++[((ns.length+1+ms.length:Nat):Int)],ms++Ey names slots gens e.kids[k] own (ns.length+1+ms.length),st3,S3.set it (.tail 1 (l++[((ns.length+1+ms.length:Nat):Int)]).length),⟨by omega,by rw [List.length_append,hll];rfl,by rw [List.append_assoc,List.length_append,hbl, <- Nat.add_assoc];exact hRl,by rw [List.append_assoc,List.length_append,hbl, <- Nat.add_assoc];exact hRm,by rw [List.length_append,hbl];omega,hB7,hK8,w7 ..⟩,td1,wkR⟩
     ·refine gz ?_ o131 [8]
      refine Ab (ih e.kids[k] own _ st1 (ns++⟨e.op,num,[]⟩::ms) _ (by omega) (by simp only [List.length_append,List.length_cons];omega) (by first | omega | (rw [List.length_append];simp only [List.length_cons,List.length_nil];omega)) hB5) (fun x S3 hr => ?_) (fun x S3 hr=>by cases hr.1)
      obtain ⟨e1,st3,hB6,hK6⟩:=hr
      cases e1
      obtain ⟨o6,_⟩:=hK6 _ _ o5 hni.2.1 hni.1
      have hK7:=hK5.trans hK6
      have hpos:(((ns++(⟨e.op,num,[]⟩:BNode)::ms).length:Nat):Int)=((ns.length+1+ms.length:Nat):Int):=by simp only [List.length_append,List.length_cons];omega
      have hlen3:(ns++(⟨e.op,num,[]⟩:BNode)::ms).length=ns.length+1+ms.length:=by simp only [List.length_append,List.length_cons];omega
      rw [hlen3] at hB6
      have hB7:=(hB6.tail (o := .tail 1 (l++[((ns.length+1+ms.length:Nat):Int)]).length) o6).2.2
      have hK8:BK ib V st (S3.set it (.tail 1 (l++[((ns.length+1+ms.length:Nat):Int)]).length)) st3:=fun j x hj hjb hr=>by
       obtain ⟨h1,h2⟩:=hK7 j x hj hjb hr
       exact ⟨by rw [w8 _ _ fun e=>hr (by have:=hi0 x (by rw [<- e];exact hj);rw [e];exact this)];exact h1,h2⟩
      have hbl:=Ex (names:=names) (slots:=slots) (gens:=gens) e.kids[k] own (ns.length+1+ms.length)
      have hsub:Sub (S3.set it (.tail 1 (l++[((ns.length+1+ms.length:Nat):Int)]).length)) (S3.set it (.tail 1 (l.length+1))):=by rw [List.length_append];exact Sub.refl _
      rw [List.append_assoc,List.cons_append] at hB7
      have hw7:WkD (.slice (cI l++[[dI ((ns.length:Int)+((ms.length:Int)+1))]]) (.tag it)) (.slice (cI (l++[((ns.length+1+ms.length:Nat):Int)])) (.tag it)):=B0 (by simp [cI];omega)
      refine gf (gi o6 hpos) ?_ o131 [8]
      exact ⟨k+1,l++[((ns.length+1+ms.length:Nat):Int)],ms++Ey names slots gens e.kids[k] own (ns.length+1+ms.length),st3,S3.set it (.tail 1 (l++[((ns.length+1+ms.length:Nat):Int)]).length),⟨by omega,by rw [List.length_append,hll];rfl,by rw [List.append_assoc,List.length_append,hbl, <- Nat.add_assoc];exact hRl,by rw [List.append_assoc,List.length_append,hbl, <- Nat.add_assoc];exact hRm,by rw [List.length_append,hbl];omega,hB7,hK8,w7 ..⟩,td1,wkR⟩
   ·rw [A2 hkl,Cz,List.append_nil] at hRl
    rw [A2 hkl,Ew,List.append_nil] at hRm
    obtain ⟨t1,t5,t6⟩:=hB4
    rcases st1 with _ | ⟨r,rc,rest⟩
    ·have:(ns++(⟨e.op,num,[]⟩:BNode)::ms).map Ad=[]:=t5
     simp at this
    ·have hrow:S1 r=some (.cells (((ns++(⟨e.op,num,[]⟩:BNode)::ms).map Ad).flatten++rest))/\(((ns++(⟨e.op,num,[]⟩:BNode)::ms).map Ad).flatten++rest).length=rc*3/\((ns++(⟨e.op,num,[]⟩:BNode)::ms).map Ad).length<=rc/\_:=t5
     have henv:S1 ib=some (.cells [a,b,c,d, .sref r 0 (ns.length+1+ms.length) rc,f,sl (cS names),sl (cS slots),sl (cS gens)]):=by
      rw [t1];show some (DObj.cells [a,b,c,d, .sref r 0 (ns++(⟨e.op,num,[]⟩:BNode)::ms).length rc,f,sl (cS names),sl (cS slots),sl (cS gens)])=_
      rw [show (ns++(⟨e.op,num,[]⟩:BNode)::ms).length=ns.length+1+ms.length by simp only [List.length_append,List.length_cons];omega]
     obtain ⟨w1,w2,w3,w4⟩:=hrow
     have hAl:(ns.map Ad).flatten.length=ns.length*3:=by rw [CM (sz:=3) (by simp)];simp
     have hcs : ∀ q:List Int,((ns++(⟨e.op,num,q⟩:BNode)::ms).map Ad).flatten++rest=(ns.map Ad).flatten++[dI e.op,dI num]++sl (cI q)::((ms.map Ad).flatten++rest):=fun q=>by simp
     have hcs':((ns++(⟨e.op,num,[]⟩:BNode)::ms).map Ad).flatten++rest=(ns.map Ad).flatten++dI e.op::dI num::sl (cI [])::((ms.map Ad).flatten++rest):=by simp
     rw [hcs'] at w1 w2
     clear hcs'
     generalize hA:(ns.map Ad).flatten=A at *
     generalize hM:(ms.map Ad).flatten=M at *
     have hcl:A.length+(3+(M.length+rest.length))=rc*3:=by simp only [List.length_append,List.length_cons] at w2;omega
     have w3':=w3
     rw [List.length_map,List.length_append,List.length_cons] at w3
     have htd:List.take (ns.length*3+2) (A++dI e.op::dI num::sl []::(M++rest))=A++[dI e.op,dI num]:=by rw [<- hAl,List.take_length_add_append];rfl
     have hdd:List.drop (ns.length*3+2+1) (A++dI e.op::dI num::sl []::(M++rest))=M++rest:=by rw [<- hAl,Nat.add_assoc,List.drop_length_add_append];rfl
     repeat ((fail_if_success (first | (refine celW (List.take (ns.length*3+2) (A++dI e.op::dI num::sl []::(M++rest))) (List.drop (ns.length*3+2+1) (A++dI e.op::dI num::sl []::(M++rest))) (.slice (cI l) (.tag it)) (sl (cI l)) ?_ (w7 ..) (Az _ _)) | fail));(refine goX1 (gi henv w1) ?_))
     refine celW (List.take (ns.length*3+2) (A++dI e.op::dI num::sl []::(M++rest))) (List.drop (ns.length*3+2+1) (A++dI e.op::dI num::sl []::(M++rest))) (.slice (cI l) (.tag it)) (sl (cI l)) ?_ (w7 ..) (Az _ _)
     rw [htd,hdd,w9]
     have hbe:Ey names slots gens e own ns.length=⟨e.op,num,l⟩::ms:=by rw [W4,hnum, <- hRl, <- hRm]
     have hln:(ns++(⟨e.op,num,l⟩:BNode)::ms).length=ns.length+1+ms.length:=by simp only [List.length_append,List.length_cons];omega
     have hbr:ib ≠ r:=fun h=>t6 h
     have hBf:NdS ib a b c d f names slots gens (some (r,rc,rest)) (ns++⟨e.op,num,l⟩::ms) (S1.set r (.cells (A++[dI e.op,dI num]++sl (cI l)::(M++rest)))):=by
      refine ⟨?_,⟨?_, ?_, ?_, ?_⟩,t6⟩
      ·rw [w8 _ _ hbr,henv, <- hln];rfl
      ·rw [w7,hcs l]
      ·rw [hcs l];simp only [List.length_append,List.length_cons,List.length_nil];omega
      ·rw [List.length_map,hln];omega
      ·intro z hz;obtain ⟨x,_,rfl⟩:=List.mem_map.1 hz;rfl
     have hKf:BK ib V st (S1.set r (.cells (A++[dI e.op,dI num]++sl (cI l)::(M++rest)))) (some (r,rc,rest)):=fun j x hj hjb hr=>by
      obtain ⟨h1,h2⟩:=hK4 j x hj hjb hr
      exact ⟨by rw [w8 _ _ fun e=>h2 e];exact h1,h2⟩
     rw [<- hbe] at hBf
     refine gz ?_ o131 [8]
     exact fin1 (S':=_) ⟨rfl,_,hBf,hKf⟩
  ·by_cases c3:e.op=3
   ·have hb:OC names slots gens e.op e.n e.text own=EL e.text own 0 e.n:=by unfold OC;rw [if_pos c3]
    rw [hb] at hnum
    refine gf c3 ?_ o131 [8]
    refine AQ [0,2,4,6,7,8,10,11,12,25,43,44,45,46,47,48,49,50,51,52,53,54,55,56,57,58,59,60,61,62,63,64,65,66,67,68,69,70,71,72,73,74,75,76,77,78,79,80,81,82,83,84,85,86,87,88,89,90,91,92,93,94,95,96,97,98,99,100,101,102,103,104,105,106,107,108,109,110,111,112,113,114,115,116,117,118,119,120,121,122,123,124,125] (fun (k:Nat) (v:Int)=>k<=own.length/\EL e.text own 0 e.n=EL e.text (own.drop k) k v) (fun k _=>[(9,dI k)]) (fun _ v=>V.set i (.cells [dI e.op,dI v, .nils])) (fun k _=>own.length-k) (0) (e.n) (by exact ⟨by omega,rfl⟩) (fun k v hI => ?_)
    obtain ⟨hk,hR⟩:=hI
    by_cases hkl:k < own.length
    ·rw [A3 hkl,EL] at hR
     by_cases hx:own[k]=e.text
     ·rw [if_pos hx] at hR
      refine gf hx ?_ o131 [8]
      exact ⟨k+1,(k:Int),⟨by omega,hR⟩,td1,wkR⟩
     ·rw [if_neg hx] at hR
      refine gf hx ?_ o131 [8]
      exact ⟨k+1,v,⟨by omega,hR⟩,td1,wkR⟩
    ·rw [A2 hkl,EL] at hR
     refine gz ?_ o131 [8]
     refine dwp_wk ?_ hK
     clear hK ih
     refine Aj (by simp) (Be ?_)
     rw [<- hnum,hR]
   ·repeat' first | refine gf (gi c3 q1) ?_ [] [8] | refine AE (FY ib a b c d (mD st ns.length) f names slots gens e.text _ ((hB0.fresh hi).bds) (by omega)) ?_ | refine callP (FY ib a b c d (mD st ns.length) f names slots gens e.text _ ((hB0.fresh hi).bds) (by omega)) ?_ | refine gf (gi c3 q1) ?_ o131 [8] | apply gy<;>intro hh
    all_goals (refine dwp_wk ?_ hK;clear hK ih;refine Aj (by simp) (Be ?_);rw [<- hnum];unfold OC;simp [*];done)
end
mutual
def AllX (Q:FExp->Prop):FExp->Prop
 | .mk o n t k=>Q (.mk o n t k)/\DP Q k
def DP (Q:FExp->Prop):List FExp->Prop
 | []=>True
 | x::r=>AllX Q x/\DP Q r
end
mutual
def argE (gm:List (Str × Int)):FExp->List Int->List Int
 | .mk o _ t k,a=>Ez gm k (if o=5 then a.set (getM 0 t gm).toNat k.length else a)
def Ez (gm:List (Str × Int)):List FExp->List Int->List Int
 | [],a=>a
 | x::r,a=>Ez gm r (argE gm x a)
end
theorem UO (gm:List (Str × Int)) (e:FExp) (a:List Int):argE gm e a=Ez gm e.kids (if e.op=5 then a.set (getM 0 e.text gm).toNat e.kids.length else a):=by cases e;rw [argE];rfl
theorem AllX_eq (Q:FExp->Prop) (e:FExp):AllX Q e ↔ Q e/\DP Q e.kids:=by cases e;rw [AllX];rfl
mutual
theorem D2 (gm:List (Str × Int)) : ∀ (e:FExp) (a:List Int),(argE gm e a).length=a.length
 | .mk o n t k,a=>by rw [argE,NZ gm k];split<;>simp
theorem NZ (gm:List (Str × Int)) : ∀ (l:List FExp) (a:List Int),(Ez gm l a).length=a.length
 | [],a=>by rw [Ez]
 | x::r,a=>by rw [Ez,NZ gm r,D2 gm x]
end
def QA (gm:List (Str × Int)) (N:Nat) (x:FExp):Prop:=x.op=5->0<=getM 0 x.text gm/\getM 0 x.text gm < N
theorem KV (gm:List (Str × Int)) (N ia r ig i6:Nat) : ∀ (n:Nat) (e:FExp) (a:List Int) (V:Sig),e.wt<=n->n<=1073741824->AllX (QA gm N) e->a.length=N->N<=1073741824 ->
  V ia=some (.cells [.sref r 0 N N])->V r=some (.cells (a.map dI))->V ig=some (.map (eSN gm))->V i6=some (.cells [.func (.func 193) [] [.ptr ia 0, .cptr [.map ig] 0, .ptr i6 0]])->ia ≠ r->i6 ≠ r ->
  DCall prog 193 [.agg (Am e), .ptr ia 0, .cptr [.map ig] 0, .ptr i6 0] V fun x S'=>x = .ret (.tup [])/\S'=V.set r (.cells ((argE gm e a).map dI)):=by
 intro n
 induction n with
 | zero =>
  intro e a V hx
  have:=e.wt_pos
  omega
 | succ n ih =>
  intro e a V hx hn hQ hal hN o1 o2 o3 o4 d1 d2
  obtain ⟨w1,w2,hw3⟩:=e.wt_le
  obtain ⟨q1,q2⟩:=(AllX_eq _ _).1 hQ
  have d3:ig ≠ r:=Ac o3 o2 (by simp)
  refine en func193 ntmps193 ?_
  by_cases h5:e.op=5
  ·obtain ⟨p1,p2⟩:=q1 h5
   obtain ⟨p,hp⟩ : ∃ p:Nat,getM 0 e.text gm=p:=⟨(getM 0 e.text gm).toNat,by omega⟩
   have hpN:p < N:=by omega
   obtain ⟨A,hA⟩ : ∃ A,A=a.set p e.kids.length:=⟨_,rfl⟩
   have hAl:A.length=N:=by rw [hA,List.length_set];exact hal
   have hfr:argE gm e a=Ez gm e.kids A:=by rw [UO,if_pos h5,hA,hp];rfl
   have hsub:Sub (V.set r (.cells (A.map dI))) (V.set r (.cells (List.take p (List.map dI a)++D.int IntKind.i64 e.kids.length::List.drop (p+1) (List.map dI a)))):=by
    rw [hA,List.map_set,List.set_eq_take_append_cons_drop,if_pos (by rw [List.length_map];omega)];exact Sub.refl _
   refine gf (gi o1 (gi o2 (gi o3 (gi o4 (gi h5 hp))))) ?_
   refine AQ [3,20,21] (fun (k:Nat) (b:List Int)=>k<=e.kids.length/\b.length=N/\Ez gm e.kids A=Ez gm (e.kids.drop k) b/\DP (QA gm N) (e.kids.drop k)) (fun k _=>[(22,dI k)]) (fun _ b=>V.set r (.cells (b.map dI))) (fun k _=>e.kids.length-k) (0) (A) (by exact ⟨by omega,hAl,rfl,q2⟩) (fun k b hI => ?_)
   obtain ⟨hk,hb,hR,hQs⟩:=hI
   by_cases hkl:k < e.kids.length
   ·rw [A3 hkl,Ez] at hR
    rw [A3 hkl,DP] at hQs
    have u1:(V.set r (.cells (b.map dI))) ia=some (.cells [.sref r 0 N N]):=by rw [w8 _ _ d1];exact o1
    have u3:(V.set r (.cells (b.map dI))) ig=some (.map (eSN gm)):=by rw [w8 _ _ d3];exact o3
    have u4:(V.set r (.cells (b.map dI))) i6=some (.cells [.func (.func 193) [] [.ptr ia 0, .cptr [.map ig] 0, .ptr i6 0]]):=by rw [w8 _ _ d2];exact o4
    refine gf o4 ?_
    refine Ab (ih e.kids[k] b _ (by have:=hw3 k hkl;omega) (by omega) hQs.1 hb hN u1 (w7 ..) u3 u4 d1 d2) (fun d S' hr => ?_) (fun d S' hr=>by cases hr.1)
    obtain ⟨g1,rfl⟩:=hr
    cases g1
    refine gz ?_
    exact ⟨k+1,argE gm e.kids[k] b,⟨by omega,by rw [D2];exact hb,hR,hQs.2⟩,td1,wkR⟩
   ·rw [A2 hkl,Ez] at hR
    refine gz ?_
    exact DM (S':=V.set r (.cells ((argE gm e a).map dI))) ⟨rfl,rfl⟩ (by rw [hfr,hR];exact Sub.refl _)
  ·obtain ⟨A,hA⟩ : ∃ A,A=a:=⟨_,rfl⟩
   have hfr:argE gm e a=Ez gm e.kids A:=by rw [UO,if_neg h5,hA]
   have hAl:A.length=N:=by rw [hA];exact hal
   have hsub:Sub (V.set r (.cells (A.map dI))) V:=by rw [hA,Sig.set_self _ o2];exact Sub.refl _
   refine gf (gi o1 (gi o2 (gi o3 (gi o4 h5)))) ?_
   refine AQ [3,20,21] (fun (k:Nat) (b:List Int)=>k<=e.kids.length/\b.length=N/\Ez gm e.kids A=Ez gm (e.kids.drop k) b/\DP (QA gm N) (e.kids.drop k)) (fun k _=>[(22,dI k)]) (fun _ b=>V.set r (.cells (b.map dI))) (fun k _=>e.kids.length-k) (0) (A) (by exact ⟨by omega,hAl,rfl,q2⟩) (fun k b hI => ?_)
   obtain ⟨hk,hb,hR,hQs⟩:=hI
   by_cases hkl:k < e.kids.length
   ·rw [A3 hkl,Ez] at hR
    rw [A3 hkl,DP] at hQs
    have u1:(V.set r (.cells (b.map dI))) ia=some (.cells [.sref r 0 N N]):=by rw [w8 _ _ d1];exact o1
    have u3:(V.set r (.cells (b.map dI))) ig=some (.map (eSN gm)):=by rw [w8 _ _ d3];exact o3
    have u4:(V.set r (.cells (b.map dI))) i6=some (.cells [.func (.func 193) [] [.ptr ia 0, .cptr [.map ig] 0, .ptr i6 0]]):=by rw [w8 _ _ d2];exact o4
    refine gf o4 ?_
    refine Ab (ih e.kids[k] b _ (by have:=hw3 k hkl;omega) (by omega) hQs.1 hb hN u1 (w7 ..) u3 u4 d1 d2) (fun d S' hr => ?_) (fun d S' hr=>by cases hr.1)
    obtain ⟨g1,rfl⟩:=hr
    cases g1
    refine gz ?_
    exact ⟨k+1,argE gm e.kids[k] b,⟨by omega,by rw [D2];exact hb,hR,hQs.2⟩,td1,wkR⟩
   ·rw [A2 hkl,Ez] at hR
    refine gz ?_
    exact DM (S':=V.set r (.cells ((argE gm e a).map dI))) ⟨rfl,rfl⟩ (by rw [hfr,hR];exact Sub.refl _)
end Go.DL
