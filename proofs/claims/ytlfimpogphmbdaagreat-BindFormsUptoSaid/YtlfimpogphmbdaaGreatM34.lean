/- Part of the proof that the last text ends. -/
import Derived.Test.YtlfimpogphmbdaaGreatM30
import Derived.Test.YtlfimpogphmbdaaGreatM23
import Derived.Test.YtlfimpogphmbdaaGreatM26
import Derived.Test.YtlfimpogphmbdaaGreatM31
import Derived.Test.YtlfimpogphmbdaaGreatM33
set_option linter.all false
namespace Go.DL
open Go.Proofs.Tryz
open Go Go.Proofs
set_option maxHeartbeats 8000000
theorem RowAt.sref{V:Sig}{sz:Nat}{st:MR}{es:List (List D)}(h:RowAt V sz st es)(hne:es≠[]): ∃r c, ∀n,mD st n=.sref r 0 n c:=by
 rcases st with _|⟨i,cap,rest⟩
 ·exact absurd h hne
 ·exact⟨i,cap,fun _=>rfl⟩
def FExp.cnt(e:FExp):Nat:=(allE e).length
def bndN(cm sm gm:List (Str×Int))(o n:Int)(t:Str)(env:Str->Int):Int:=
 if o=3 then env t else if o=4\/o=7 then getM 0 t sm else if o=5 then getM 0 t gm else if o=6\/o=8 then getM 0 t cm else n
def Gx:List FExp->Nat->List Int
 |[],_=>[]
 |x::r,k=>(k:Int)::Gx r (k+x.cnt)
mutual
def bndE(cm sm gm:List (Str×Int)):FExp->(Str->Int)->Int->Nat->List BNode
 |.mk o n t l,env,size,k=>⟨o,bndN cm sm gm o n t env,Gx l (k+1)⟩::Kc cm sm gm o t l 0 env size (k+1)
def Kc(cm sm gm:List (Str×Int))(o:Int)(t:Str):List FExp->Nat->(Str->Int)->Int->Nat->List BNode
 |[],_,_,_,_=>[]
 |x::r,i,env,size,k=>(if o=9/\i=1 then bndE cm sm gm x (updE env t size) (size+1) k else bndE cm sm gm x env size k)++Kc cm sm gm o t r (i+1) env size (k+x.cnt)
end
section
variable {cm sm gm:List (Str×Int)}
theorem bndE_eq(e:FExp)(env:Str->Int)(size:Int)(k:Nat):bndE cm sm gm e env size k=⟨e.op,bndN cm sm gm e.op e.n e.text env,Gx e.kids (k+1)⟩::Kc cm sm gm e.op e.text e.kids 0 env size (k+1):=by cases e;rw[bndE];rfl
mutual
theorem Ge: ∀(e:FExp) (env:Str->Int) (size:Int) (k:Nat),(bndE cm sm gm e env size k).length=e.cnt
 |.mk o n t l,env,size,k=>by
  rw[bndE,List.length_cons,O7 o t l,FExp.cnt,allE];simp
theorem O7(o:Int)(t:Str): ∀(l:List FExp) (i:Nat) (env:Str->Int) (size:Int) (k:Nat),(Kc cm sm gm o t l i env size k).length=(Dz l).length
 |[],_,_,_,_=>by rw[Kc,Dz];rfl
 |x::r,i,env,size,k=>by
  rw[Kc,Dz,List.length_append,List.length_append,O7 o t r]
  split
  ·rw[Ge x];rfl
  ·rw[Ge x];rfl
end
end
theorem FExp.cnt_le(e:FExp):e.cnt<=e.wt:=El e
structure BS(ib ia is ig:Nat)(a b c d f:D)(cm sm gm:List (Str×Int))(st:MR)(ns:List BNode)(V:Sig):Prop where
 env:V ib=some (.cells [a,b,c,d,mD st ns.length,f,.map ia,.map is,.map ig])
 oa:V ia=some (.map (eSN cm))
 os:V is=some (.map (eSN sm))
 og:V ig=some (.map (eSN gm))
 row:RowAt V 3 st (ns.map Ai)
 nr:¬Cm st ib
def BK(ib:Nat)(V:Sig)(st:MR)(S':Sig)(st':MR):Prop:= ∀j o,V j=some o->j≠ib->¬Cm st j->S' j=some o /\ ¬Cm st' j
theorem BK.trans{ib:Nat}{V S1 S2:Sig}{st st1 st2:MR}(h:BK ib V st S1 st1)(k:BK ib S1 st1 S2 st2):BK ib V st S2 st2:=fun j o hj hi hn=>k j o (h j o hj hi hn).1 hi (h j o hj hi hn).2
theorem BK.refl(ib:Nat)(V:Sig)(st:MR):BK ib V st V st:=fun j o h _ hn=>⟨h,hn⟩
theorem BK.fresh{ib:Nat}{V S1:Sig}{st st1:MR}{k:Nat}{o:DObj}(h:BK ib V st S1 st1)(hk:S1 k=none):BK ib V st (S1.set k o) st1:=fun j x hj hi hn=>by
 obtain⟨h1,h2⟩:=h j x hj hi hn
 exact⟨by rw[w8 _ _ (A3 h1 hk)];exact h1,h2⟩
section
variable {ib ia is ig:Nat}{a b c d f:D}{cm sm gm:List (Str×Int)}{st:MR}{ns:List BNode}{V:Sig}
theorem BS.set(h:BS ib ia is ig a b c d f cm sm gm st ns V){k:Nat}{o:DObj}(h1:ib≠k)(h2:ia≠k)(h3:is≠k)(h4:ig≠k)(h5:¬Cm st k):BS ib ia is ig a b c d f cm sm gm st ns (V.set k o):=
 ⟨by rw[w8 _ _ h1];exact h.env,by rw[w8 _ _ h2];exact h.oa,by rw[w8 _ _ h3];exact h.os,by rw[w8 _ _ h4];exact h.og,h.row.keep fun j x hj hr=>by rw[w8 _ _ fun e=>h5 (by rw[<-e];exact hr)];exact hj,h.nr⟩
theorem BS.notrow(h:BS ib ia is ig a b c d f cm sm gm st ns V){k:Nat}(hk:V k=none): ¬Cm st k:=fun hr=>by
 obtain⟨cs,hc⟩:=h.row.cells hr;rw[hk]at hc;cases hc
theorem BS.fresh(h:BS ib ia is ig a b c d f cm sm gm st ns V){k:Nat}{o:DObj}(hk:V k=none):BS ib ia is ig a b c d f cm sm gm st ns (V.set k o):=
 h.set (A3 h.env hk) (A3 h.oa hk) (A3 h.os hk) (A3 h.og hk) (h.notrow hk)
theorem BS.tail(h:BS ib ia is ig a b c d f cm sm gm st ns V){k s n:Nat}{o:DObj}(hk:V k=some (.tail s n)): ¬Cm st k/\k≠ib/\BS ib ia is ig a b c d f cm sm gm st ns (V.set k o):=
 have hr:¬Cm st k:=fun hr=>by obtain⟨cs,hc⟩:=h.row.cells hr;rw[hk]at hc;cases hc
 ⟨hr,Ac hk h.env (by simp),h.set (Ac h.env hk (by simp)) (Ac h.oa hk (by simp)) (Ac h.os hk (by simp)) (Ac h.og hk (by simp)) hr⟩
theorem BS.zero(h:BS ib ia is ig a b c d f cm sm gm st ns V):st=none->ns.length=0:=fun e=>by
 subst e;have:ns.map Ai=[]:=h.row;simpa using this
theorem NC: ∀(n:Nat) (e:FExp) (nm:D) (m:List (Str×Int)) (size:Int) (st:MR) (ns:List BNode) (V:Sig),e.wt<=n->ns.length+e.wt<=100000000->0<=size->size+n<=1000000000->NmD nm m->
  BS ib ia is ig a b c d f cm sm gm st ns V->DCall prog 112 [.agg [.ptr ib 0,nm,dI size],.agg (Ah e)] V fun x S'=>x=.ret (dI ns.length) /\
   ∃st',BS ib ia is ig a b c d f cm sm gm st' (ns++bndE cm sm gm e (fun y=>getM 0 y m) size ns.length) S'/\BK ib V st S' st':=by
 intro n
 induction n with
 |zero =>
  intro e nm m size st ns V hx
  have:=e.wt_pos
  omega
 | succ n ih =>
  intro e nm m size st ns V hx hn ca cH hm hB
  obtain⟨w1,w2,bY⟩:=e.wt_le
  have bd:nm.flat=true:=by rcases hm.cases with⟨_,_,rfl,_⟩|⟨rfl,_⟩<;>rfl
  simp only[D.flat]at bd
  have hz:=hB.zero
  have bT:=hB
  have cK:ns.length<=100000000:=by omega
  obtain⟨q1,q2,q3,q4,q5,q6⟩:=hB
  refine en func112 ntmps112 ?_
  try refine gf q1 ?_ o112 [6]
  refine newV (fun i hi=>?_)
  have n1:ib≠i:=A3 q1 hi
  have n2:ia≠i:=A3 q2 hi
  have n3:is≠i:=A3 q3 hi
  have n4:ig≠i:=A3 q4 hi
  have ce:¬Cm st i:=bT.notrow hi
  generalize aG:bndN cm sm gm e.op e.n e.text (fun y=>getM 0 y m)=num
  repeat ((fail_if_success (first|(refine dwp_cut1 (x1:=.seq _ (.block 0 _)) [] (V.set i (.cells [dI e.op,dI num,.nils])) ?_ (fun _ hK=>?_))|fail));(refine goX1 trivial ?_))
  refine dwp_cut1 (x1:=.seq _ (.block 0 _)) [] (V.set i (.cells [dI e.op,dI num,.nils])) ?_ (fun _ hK=>?_)
  ·refine dwp_wk (CV (az:=[dI e.op,dI num]) (bs:=[]) (d':=sl (cI [])) (w7 ..) (Al _ (.inl rfl))) ?_
   rw[w9]
   have ak:=bT.fresh (o:=.cells [dI e.op,dI num,sl (cI [])]) hi
   have bP:=(BK.refl ib V st).fresh (o:=.cells [dI e.op,dI num,sl (cI [])]) hi
   have o6:(V.set i (.cells [dI e.op,dI num,sl (cI [])])) i=some (.cells [dI e.op,dI num,sl (cI [])]):=w7 ..
   generalize bf:V.set i (.cells ([dI e.op,dI num]++sl (cI [])::[]))=S1
   have bf:V.set i (.cells [dI e.op,dI num,sl (cI [])])=S1:=bf
   rw[bf]at ak bP o6
   clear bf
   have r1:=ak.env
   have r5:=ak.row
   have u1:(S1.out (Cm st)) ib=some (.cells [a,b,c,d,mD st ns.length,f,.map ia,.map is,.map ig]):=DG r1 ak.nr
   have u6:(S1.out (Cm st)) i=some (.cells [dI e.op,dI num,sl (cI [])]):=DG o6 ce
   try refine gf (gi r1 o6) ?_ (delO 14 o112) [6]
   refine Do [0,1,2,3,4,5,6,7,8,9,10,11,12,13] [10] (S1.out (Cm st)) (Bv _ _) ?_
   try refine gf (gi u1 u6) ?_ o112 [6]
   refine moRapp (es:=ns.map Ai) (fun st2 S2 bC bn=>?_) (fun j o h=>C1 h) (hm:=r5)
   obtain⟨v1,v2⟩:=bn _ _ r1 ak.nr
   obtain⟨rr,rc,bE⟩:=bC.sref (by simp)
   have bk:=bE (ns.length+1)
   try refine gf (gi v1 bk) ?_ o112 [6]
   refine Bz 7 1 (fun it aS=>?_)
   obtain⟨i1,i2⟩:=A4 aS
   have cf:(ns++[(⟨e.op,num,[]⟩:BNode)]).map Ai=ns.map Ai++[[dI e.op,dI num,sl []]]:=by simp
   have ae:BS ib ia is ig a b c d f cm sm gm st2 (ns++[⟨e.op,num,[]⟩]) (S2.set ib (.cells [a,b,c,d,.sref rr 0 (ns.length+1) rc,f,.map ia,.map is,.map ig])):=by
    have hx:∀j o,S1 j=some o->j≠ib->¬Cm st j->(S2.set ib (.cells [a,b,c,d,.sref rr 0 (ns.length+1) rc,f,.map ia,.map is,.map ig])) j=some o:=fun j o hj am hr=>by
     rw[w8 _ _ am];exact(bn j o hj hr).1
    have av:∀{k l},S1 k=some (.map l)->k≠ib /\ ¬Cm st k:=fun {k l} hk=>⟨Ac hk r1 (by simp),fun hr=>by obtain⟨cs,hc⟩:=r5.cells hr;rw[hk]at hc;cases hc⟩
    refine⟨by rw[w7,bE];simp,hx _ _ ak.oa (av ak.oa).1 (av ak.oa).2,hx _ _ ak.os (av ak.os).1 (av ak.os).2,hx _ _ ak.og (av ak.og).1 (av ak.og).2,?_,v2⟩
    rw[cf]
    exact bC.keep fun j x hj hr=>by rw[w8 _ _ fun e=>v2 (by rw[<-e];exact hr)];exact hj
   have aC:BK ib V st (S2.set ib (.cells [a,b,c,d,.sref rr 0 (ns.length+1) rc,f,.map ia,.map is,.map ig])) st2:=fun j o hj am hr=>by
    obtain⟨h1,h2⟩:=bP j o hj am hr
    obtain⟨h3,h4⟩:=bn j o h1 h2
    exact⟨by rw[w8 _ _ am];exact h3,h4⟩
   have cF:=ae.fresh (o:=.tail 1 0) aS
   have cy:=aC.fresh (o:=.tail 1 0) aS
   have cc:((S2.set ib (.cells [a,b,c,d,.sref rr 0 (ns.length+1) rc,f,.map ia,.map is,.map ig])).set it (.tail 1 0)) it=some (.tail 1 0):=w7 ..
   have br:∀o,V it=some o->Cm st it:=fun o h=>Classical.byContradiction fun hr=>by rw[(aC it o h i1 hr).1]at aS;cases aS
   refine VD [2,3,4,5,84,85,111,112,113,114,115,116,117,118,119,120,121,122] (fun (k:Nat) (l:List Int) (ms:List BNode) (st1:MR) (S1:Sig)=>k<=e.kids.length/\l.length=k/\l++Gx (e.kids.drop k) (ns.length+1+ms.length)=Gx e.kids (ns.length+1)/\ms++Kc cm sm gm e.op e.text (e.kids.drop k) k (fun y=>getM 0 y m) size (ns.length+1+ms.length)=Kc cm sm gm e.op e.text e.kids 0 (fun y=>getM 0 y m) size (ns.length+1)/\ns.length+1+ms.length+wtL FExp.wt (e.kids.drop k)<=100000000/\BS ib ia is ig a b c d f cm sm gm st1 (ns++⟨e.op,num,[]⟩::ms) S1/\BK ib V st S1 st1/\S1 it=some (.tail 1 l.length)) (fun k l _ _ _=>[(86,dI k),(7,.slice (cI l) (.tag it))]) (fun _ _ _ _ S1=>S1) (fun k _ _ _ _=>e.kids.length-k) (0) ([]) ([]) (st2) (_) (by exact⟨by omega,rfl,rfl,rfl,by have:=FExp.wt_eq e;simp only[List.length_nil,List.drop_zero];omega,cF,cy,cc⟩) (fun k l ms st1 S1 hI=>?_)
   obtain⟨hk,bl,aK,aj,ar,bi,bw,o4⟩:=hI
   by_cases ax:k<e.kids.length
   ·rw [A0 ax] at aK aj ar
    rw[Gx]at aK
    rw[Kc]at aj
    rw[wtL]at ar
    have bz:=bY k ax
    have cV:=FExp.cnt_le e.kids[k]
    try refine gz ?_ o112 [6]
    refine newV (fun i10 aa=>?_)
    have aM:=bi.tail (o:=.defs) o4
    by_cases aw:e.op=9/\k=1
    ·rw[if_pos aw]at aj
     obtain⟨co,cN⟩:=aw
     try refine gf (gi co bd) ?_ o112 [6]
     refine Ab (TY ib nm m size e.text _ hm ⟨ca,by omega⟩) (fun x S2 hr=>?_) (fun x S2 hr=>by obtain⟨_,h,_⟩:=hr;cases h)
     obtain⟨m',e1,cj,ah,e2⟩:=hr
     cases e1
     rw[e2]
     clear e2 S2
     have ah:(fun y=>getM 0 y m')=updE (fun y=>getM 0 y m) e.text size:=funext ah
     have bh:=bi.fresh (o:=.cells [.ptr ib 0,cNum m',dI (size+1)]) aa
     have bg:=bw.fresh (o:=.cells [.ptr ib 0,cNum m',dI (size+1)]) aa
     have o5:(S1.set i10 (.cells [.ptr ib 0,cNum m',dI (size+1)])) it=some (.tail 1 l.length):=by rw[w8 _ _ (A3 o4 aa)];exact o4
     try refine gz ?_ o112 [6]
     refine Ab (ih e.kids[k] (cNum m') m' (size+1) st1 (ns++⟨e.op,num,[]⟩::ms) _ (by omega) (by simp only[List.length_append,List.length_cons];omega) (by omega) (by omega) cj bh) (fun x S3 hr=>?_) (fun x S3 hr=>by cases hr.1)
     obtain⟨e1,st3,ay,aB⟩:=hr
     cases e1
     obtain⟨o6,_⟩:=aB _ _ o5 aM.2.1 aM.1
     have ba:=bg.trans aB
     rw[ah]at ay
     have aq:(((ns++(⟨e.op,num,[]⟩:BNode)::ms).length:Nat):Int)=((ns.length+1+ms.length:Nat):Int):=by simp only[List.length_append,List.length_cons];omega
     have ag:(ns++(⟨e.op,num,[]⟩:BNode)::ms).length=ns.length+1+ms.length:=by simp only[List.length_append,List.length_cons];omega
     rw[ag]at ay
     have aD:=(ay.tail (o:=.tail 1 (l++[((ns.length+1+ms.length:Nat):Int)]).length) o6).2.2
     have aZ:BK ib V st (S3.set it (.tail 1 (l++[((ns.length+1+ms.length:Nat):Int)]).length)) st3:=fun j x hj am hr=>by
      obtain⟨h1,h2⟩:=ba j x hj am hr
      exact⟨by rw[w8 _ _ fun e=>hr (by have:=br x (by rw[<-e];exact hj);rw[e];exact this)];exact h1,h2⟩
     have ai:=Ge (cm:=cm) (sm:=sm) (gm:=gm) e.kids[k] (updE (fun y=>getM 0 y m) e.text size) (size+1) (ns.length+1+ms.length)
     have aE:Sub (S3.set it (.tail 1 (l++[((ns.length+1+ms.length:Nat):Int)]).length)) (S3.set it (.tail 1 (l.length+1))):=by rw[List.length_append];exact Sub.refl _
     rw[List.append_assoc,List.cons_append]at aD
     have bA:WkD (.slice (cI l++[[dI ((ns.length:Int)+((ms.length:Int)+1))]]) (.tag it)) (.slice (cI (l++[((ns.length+1+ms.length:Nat):Int)])) (.tag it)):=AS (by simp[cI];omega)
     try refine gf (gi o6 aq) ?_ o112 [6]
     exact⟨k+1,l++[((ns.length+1+ms.length:Nat):Int)],ms++bndE cm sm gm e.kids[k] (updE (fun y=>getM 0 y m) e.text size) (size+1) (ns.length+1+ms.length),st3,S3.set it (.tail 1 (l++[((ns.length+1+ms.length:Nat):Int)]).length),⟨by omega,by rw[List.length_append,bl];rfl,by rw[List.append_assoc,List.length_append,ai,<-Nat.add_assoc];exact aK,by rw[List.append_assoc,List.length_append,ai,<-Nat.add_assoc];exact aj,by rw[List.length_append,ai];omega,aD,aZ,w7 ..⟩,td1,wkR⟩
    ·rw[if_neg aw]at aj
     have bh:=bi.fresh (o:=.cells [.ptr ib 0,nm,dI size]) aa
     have bg:=bw.fresh (o:=.cells [.ptr ib 0,nm,dI size]) aa
     have o5:(S1.set i10 (.cells [.ptr ib 0,nm,dI size])) it=some (.tail 1 l.length):=by rw[w8 _ _ (A3 o4 aa)];exact o4
     by_cases h9:e.op=9
     ·have cO:k≠1:=fun h=>aw ⟨h9,h⟩
      try refine gf (gi h9 bd) ?_ o112 [6]
      refine Ab (ih e.kids[k] nm m size st1 (ns++⟨e.op,num,[]⟩::ms) _ (by omega) (by simp only[List.length_append,List.length_cons];omega) (by omega) (by omega) hm bh) (fun x S3 hr=>?_) (fun x S3 hr=>by cases hr.1)
      obtain⟨e1,st3,ay,aB⟩:=hr
      cases e1
      obtain⟨o6,_⟩:=aB _ _ o5 aM.2.1 aM.1
      have ba:=bg.trans aB
      have aq:(((ns++(⟨e.op,num,[]⟩:BNode)::ms).length:Nat):Int)=((ns.length+1+ms.length:Nat):Int):=by simp only[List.length_append,List.length_cons];omega
      have ag:(ns++(⟨e.op,num,[]⟩:BNode)::ms).length=ns.length+1+ms.length:=by simp only[List.length_append,List.length_cons];omega
      rw[ag]at ay
      have aD:=(ay.tail (o:=.tail 1 (l++[((ns.length+1+ms.length:Nat):Int)]).length) o6).2.2
      have aZ:BK ib V st (S3.set it (.tail 1 (l++[((ns.length+1+ms.length:Nat):Int)]).length)) st3:=fun j x hj am hr=>by
       obtain⟨h1,h2⟩:=ba j x hj am hr
       exact⟨by rw[w8 _ _ fun e=>hr (by have:=br x (by rw[<-e];exact hj);rw[e];exact this)];exact h1,h2⟩
      have ai:=Ge (cm:=cm) (sm:=sm) (gm:=gm) e.kids[k] (fun y=>getM 0 y m) size (ns.length+1+ms.length)
      have aE:Sub (S3.set it (.tail 1 (l++[((ns.length+1+ms.length:Nat):Int)]).length)) (S3.set it (.tail 1 (l.length+1))):=by rw[List.length_append];exact Sub.refl _
      rw[List.append_assoc,List.cons_append]at aD
      have bA:WkD (.slice (cI l++[[dI ((ns.length:Int)+((ms.length:Int)+1))]]) (.tag it)) (.slice (cI (l++[((ns.length+1+ms.length:Nat):Int)])) (.tag it)):=AS (by simp[cI];omega)
      try refine gf (gi o6 aq) ?_ o112 [6]
      exact⟨k+1,l++[((ns.length+1+ms.length:Nat):Int)],ms++bndE cm sm gm e.kids[k] (fun y=>getM 0 y m) size (ns.length+1+ms.length),st3,S3.set it (.tail 1 (l++[((ns.length+1+ms.length:Nat):Int)]).length),⟨by omega,by rw[List.length_append,bl];rfl,by rw[List.append_assoc,List.length_append,ai,<-Nat.add_assoc];exact aK,by rw[List.append_assoc,List.length_append,ai,<-Nat.add_assoc];exact aj,by rw[List.length_append,ai];omega,aD,aZ,w7 ..⟩,td1,wkR⟩
     ·try refine gf bd ?_ o112 [6]
      refine Ab (ih e.kids[k] nm m size st1 (ns++⟨e.op,num,[]⟩::ms) _ (by omega) (by simp only[List.length_append,List.length_cons];omega) (by omega) (by omega) hm bh) (fun x S3 hr=>?_) (fun x S3 hr=>by cases hr.1)
      obtain⟨e1,st3,ay,aB⟩:=hr
      cases e1
      obtain⟨o6,_⟩:=aB _ _ o5 aM.2.1 aM.1
      have ba:=bg.trans aB
      have aq:(((ns++(⟨e.op,num,[]⟩:BNode)::ms).length:Nat):Int)=((ns.length+1+ms.length:Nat):Int):=by simp only[List.length_append,List.length_cons];omega
      have ag:(ns++(⟨e.op,num,[]⟩:BNode)::ms).length=ns.length+1+ms.length:=by simp only[List.length_append,List.length_cons];omega
      rw[ag]at ay
      have aD:=(ay.tail (o:=.tail 1 (l++[((ns.length+1+ms.length:Nat):Int)]).length) o6).2.2
      have aZ:BK ib V st (S3.set it (.tail 1 (l++[((ns.length+1+ms.length:Nat):Int)]).length)) st3:=fun j x hj am hr=>by
       obtain⟨h1,h2⟩:=ba j x hj am hr
       exact⟨by rw[w8 _ _ fun e=>hr (by have:=br x (by rw[<-e];exact hj);rw[e];exact this)];exact h1,h2⟩
      have ai:=Ge (cm:=cm) (sm:=sm) (gm:=gm) e.kids[k] (fun y=>getM 0 y m) size (ns.length+1+ms.length)
      have aE:Sub (S3.set it (.tail 1 (l++[((ns.length+1+ms.length:Nat):Int)]).length)) (S3.set it (.tail 1 (l.length+1))):=by rw[List.length_append];exact Sub.refl _
      rw[List.append_assoc,List.cons_append]at aD
      have bA:WkD (.slice (cI l++[[dI ((ns.length:Int)+((ms.length:Int)+1))]]) (.tag it)) (.slice (cI (l++[((ns.length+1+ms.length:Nat):Int)])) (.tag it)):=AS (by simp[cI];omega)
      try refine gf (gi o6 aq) ?_ o112 [6]
      exact⟨k+1,l++[((ns.length+1+ms.length:Nat):Int)],ms++bndE cm sm gm e.kids[k] (fun y=>getM 0 y m) size (ns.length+1+ms.length),st3,S3.set it (.tail 1 (l++[((ns.length+1+ms.length:Nat):Int)]).length),⟨by omega,by rw[List.length_append,bl];rfl,by rw[List.append_assoc,List.length_append,ai,<-Nat.add_assoc];exact aK,by rw[List.append_assoc,List.length_append,ai,<-Nat.add_assoc];exact aj,by rw[List.length_append,ai];omega,aD,aZ,w7 ..⟩,td1,wkR⟩
   ·rw[A1 ax,Gx,List.append_nil]at aK
    rw[A1 ax,Kc,List.append_nil]at aj
    obtain⟨t1,t2,t3,t4,t5,t6⟩:=bi
    rcases st1 with _|⟨r,rc,rest⟩
    ·have:(ns++(⟨e.op,num,[]⟩:BNode)::ms).map Ai=[]:=t5
     simp at this
    ·have aF:S1 r=some (.cells (((ns++(⟨e.op,num,[]⟩:BNode)::ms).map Ai).flatten++rest))/\(((ns++(⟨e.op,num,[]⟩:BNode)::ms).map Ai).flatten++rest).length=rc*3/\((ns++(⟨e.op,num,[]⟩:BNode)::ms).map Ai).length<=rc/\_:=t5
     have ah:S1 ib=some (.cells [a,b,c,d,.sref r 0 (ns.length+1+ms.length) rc,f,.map ia,.map is,.map ig]):=by
      rw[t1];show some (DObj.cells [a,b,c,d,.sref r 0 (ns++(⟨e.op,num,[]⟩:BNode)::ms).length rc,f,.map ia,.map is,.map ig])=_
      rw[show(ns++(⟨e.op,num,[]⟩:BNode)::ms).length=ns.length+1+ms.length by simp only[List.length_append,List.length_cons];omega]
     obtain⟨w1,w2,w3,w4⟩:=aF
     have bU:(ns.map Ai).flatten.length=ns.length*3:=by rw[Du (sz:=3) (by simp)];simp
     have bM:∀q:List Int,((ns++(⟨e.op,num,q⟩:BNode)::ms).map Ai).flatten++rest=(ns.map Ai).flatten++[dI e.op,dI num]++sl (cI q)::((ms.map Ai).flatten++rest):=fun q=>by simp
     have aU:((ns++(⟨e.op,num,[]⟩:BNode)::ms).map Ai).flatten++rest=(ns.map Ai).flatten++dI e.op::dI num::sl (cI [])::((ms.map Ai).flatten++rest):=by simp
     rw[aU]at w1 w2
     clear aU
     generalize hA:(ns.map Ai).flatten=A at*
     generalize hM:(ms.map Ai).flatten=M at*
     have bu:A.length+(3+(M.length+rest.length))=rc*3:=by simp only[List.length_append,List.length_cons]at w2;omega
     have w3':=w3
     rw[List.length_map,List.length_append,List.length_cons]at w3
     have bZ:List.take (ns.length*3+2) (A++dI e.op::dI num::sl []::(M++rest))=A++[dI e.op,dI num]:=by rw[<-bU,List.take_length_add_append];rfl
     have cq:List.drop (ns.length*3+2+1) (A++dI e.op::dI num::sl []::(M++rest))=M++rest:=by rw[<-bU,Nat.add_assoc,List.drop_length_add_append];rfl
     try refine gf (gi ah w1) ?_ (delO 25 o112) [6]
     refine mixL (id:=25) [0,1,2,3,4,5,6,7,8,9,10] [8] ?_
     repeat ((fail_if_success (first|(refine celW (List.take (ns.length*3+2) (A++dI e.op::dI num::sl []::(M++rest))) (List.drop (ns.length*3+2+1) (A++dI e.op::dI num::sl []::(M++rest))) (.slice (cI l) .clip) (sl (cI l)) ?_ (w7 ..) (AE _ _))|fail));(refine goX1 (gi ah w1) ?_))
     refine celW (List.take (ns.length*3+2) (A++dI e.op::dI num::sl []::(M++rest))) (List.drop (ns.length*3+2+1) (A++dI e.op::dI num::sl []::(M++rest))) (.slice (cI l) .clip) (sl (cI l)) ?_ (w7 ..) (AE _ _)
     rw[bZ,cq,w9]
     have aV:bndE cm sm gm e (fun y=>getM 0 y m) size ns.length=⟨e.op,num,l⟩::ms:=by rw[bndE_eq,aG,<-aK,<-aj]
     have bF:(ns++(⟨e.op,num,l⟩:BNode)::ms).length=ns.length+1+ms.length:=by simp only[List.length_append,List.length_cons];omega
     have bj:∀{j x},S1 j=some (.map x)->j≠r:=fun hj=>Ac hj w1 (by simp)
     have cr:ib≠r:=fun h=>t6 h
     have bR:BS ib ia is ig a b c d f cm sm gm (some (r,rc,rest)) (ns++⟨e.op,num,l⟩::ms) (S1.set r (.cells (A++[dI e.op,dI num]++sl (cI l)::(M++rest)))):=by
      refine⟨?_,by rw[w8 _ _ (bj t2)];exact t2,by rw[w8 _ _ (bj t3)];exact t3,by rw[w8 _ _ (bj t4)];exact t4,⟨?_,?_,?_,?_⟩,t6⟩
      ·rw[w8 _ _ cr,ah,<-bF];rfl
      ·rw[w7,bM l]
      ·rw[bM l];simp only[List.length_append,List.length_cons,List.length_nil];omega
      ·rw[List.length_map,bF];omega
      ·intro z hz;obtain⟨x,_,rfl⟩:=List.mem_map.1 hz;rfl
     have cx:BK ib V st (S1.set r (.cells (A++[dI e.op,dI num]++sl (cI l)::(M++rest)))) (some (r,rc,rest)):=fun j x hj am hr=>by
      obtain⟨h1,h2⟩:=bw j x hj am hr
      exact⟨by rw[w8 _ _ fun e=>h2 e];exact h1,h2⟩
     rw[<-aV]at bR
     try refine gz ?_ o112 [6]
     exact fin1 (S':=_) ⟨rfl,_,bR,cx⟩
  ·rcases hm.cases with⟨ks,vs,rfl,bx⟩|⟨rfl,bx⟩
   ·repeat' first|refine gf (gi bx (gi q1 (gi q2 (gi q3 q4)))) ?_ o112 [6]|apply gy<;>intro hh
    all_goals (refine dwp_wk ?_ hK;clear hK ih;refine Ag (by simp) (B3 ?_);rw[<-aG];unfold bndN;simp[*];done)
   ·repeat' first|refine gf (gi q1 (gi q2 (gi q3 q4))) ?_ o112 [6]|apply gy<;>intro hh
    all_goals (refine dwp_wk ?_ hK;clear hK ih;refine Ag (by simp) (B3 ?_);rw[<-aG];unfold bndN;simp[*];done)
end
section
variable {ops:Array Oper}{n N:Nat}{ro:Option Nat}{S0:Sig}{Q:DX->St->Prop}{df:List DDf}{O Sr:List (Nat×D)}{V:Sig}{t:Nat}{ty:TypeId}{pos:String}{after:Array Edge}{d:D}
theorem moRd{op:Op}{l:List (Bool×Oper)}(h:MO prog ro n ops N S0 Q df l ((t,d)::O) V)(hd:dopX tab Sr V op=some d)(hC:Sub S0 V)(hr:E4 op=true:=by rfl)(hl:A5 O (A9 op.operands.toList)=some Sr:=by exact tdR)(bB:decide (t<n)=true:=by exact tdR):
  MO prog ro n ops N S0 Q df ((true,⟨some t,op,ty,pos,after,none⟩)::l) O V:=
 mo1 (fun U2 hx=>FQ Ad hr rfl (by rw[Be hx];exact(Be (C3 hl)) ▸ hd) bB (AL ⟨rfl,by simp only[putD,Aa,if_true];exact⟨hC,h⟩⟩)) bB
end
def Cy(f:FProg):List (Str×Int):=putM IF 2 (putM wInt 1 (putM wAny 0 (numM (f.classes.map (·.name)) 3 [])))
def Cl(f:FProg):List (Str×Int):=numM (AK f) 0 []
def gensN(f:FProg):List Str:=(CK f).1.map (·.1)
def Bd(f:FProg):List (Str×Int):=numM (gensN f) 0 []
def Ig(m:FMeth):Str->Int:=fun y=>getM 0 y (numM m.params 0 [])
def O2(cm sm gm:List (Str×Int)):List FMeth->Nat->List BNode
 |[],_=>[]
 |m::r,k=>bndE cm sm gm m.body (Ig m) m.params.length k++O2 cm sm gm r (k+m.body.cnt)
def bndMM(cm sm gm:List (Str×Int)):List FMeth->Nat->List BMeth
 |[],_=>[]
 |m::r,k=>⟨m.kind,getM 0 m.name gm,bndF cm sm (Ig m) m.fact,k⟩::bndMM cm sm gm r (k+m.body.cnt)
def B4(f:FProg):BProg:=
 ⟨f.classes.map (OO (Cy f) (Cl f)),(AK f).length,O8 (Bd f) f,bndMM (Cy f) (Cl f) (Bd f) f.methods 0,
  O2 (Cy f) (Cl f) (Bd f) f.methods 0++bndE (Cy f) (Cl f) (Bd f) f.main (fun _=>0) 0 (O2 (Cy f) (Cl f) (Bd f) f.methods 0).length,(O2 (Cy f) (Cl f) (Bd f) f.methods 0).length⟩
theorem Pc: ∀(l:List Str) (b:Int) (m:List (Str×Int)) (s:Str),(s∈l->b<=getM 0 s (numM l b m)/\getM 0 s (numM l b m)<b+l.length)/\(s∉l->getM 0 s (numM l b m)=getM 0 s m)
 |[],b,m,s=>by simp[numM]
 | x::r,b,m,s=>by
  obtain⟨h1,h2⟩:=Pc r (b+1) (putM x b m) s
  rw[numM]
  refine⟨fun h=>?_,fun h=>?_⟩
  ·by_cases hr:s∈r
   ·have:=h1 hr;simp only[List.length_cons];omega
   ·rw[h2 hr,F0]
    have:s=x:=(List.mem_cons.1 h).resolve_right hr
    rw[if_pos this];simp only[List.length_cons];omega
  ·rw[List.mem_cons,not_or]at h
   rw[h2 h.2,F0,if_neg h.1]
theorem Pb: ∀(l:List Str) (b:Int) (m:List (Str×Int)),l.Nodup->(∀s∈l,hasM s m=false)->(numM l b m).length=m.length+l.length
 |[],b,m,_,_=>by simp[numM]
 | x::r,b,m,hn,hm=>by
  rw[List.nodup_cons]at hn
  rw[numM,Pb r _ _ hn.2 fun s hs=>?_,LD x b m (hm x (by simp))]
  ·simp only[List.length_append,List.length_cons,List.length_nil];omega
  ·rw[Pr,hm s (by simp[hs])]
   have:s≠x:=fun e=>hn.1 (e ▸ hs)
   simp[this]
theorem Gp: ∀(l:List Str) (b:Int) (m:List (Str×Int)),(m.map (·.1)).Nodup->((numM l b m).map (·.1)).Nodup
 |[],_,m,h=>h
 |x::r,b,m,h=>Gp r _ _ (J2 x b h)
theorem MA(name:Str)(n:Int)(s:GenT)(h:(s.1.map (·.1)).Nodup):((seeG name n s).1.map (·.1)).Nodup/\name∈(seeG name n s).1.map (·.1) /\ ∀x∈s.1.map (·.1),x∈(seeG name n s).1.map (·.1):=by
 unfold seeG
 split
 ·rename_i hh
  exact⟨h,(Hk _ _).1 hh,fun x hx=>hx⟩
 ·rename_i hh
  simp only[List.map_append,List.map_cons,List.map_nil]
  refine⟨List.nodup_append.2 ⟨h,by simp,fun a ha b hb e=>?_⟩,by simp,fun x hx=>by simp[hx]⟩
  simp only[List.mem_singleton]at hb
  exact hh ((Hk _ _).2 (by rw[<-hb,<-e];exact ha))
def CallsIn(ks:List Str)(x:FExp):Prop:=x.op=5->x.text∈ks
mutual
theorem Hx{Q R:FExp->Prop}(h:∀x,Q x->R x): ∀e,AllX Q e->AllX R e
 |.mk o n t k,he=>by rw[AllX]at he⊢; exact⟨h _ he.1,Lm h k he.2⟩
theorem Lm{Q R:FExp->Prop}(h:∀x,Q x->R x): ∀l,Gl Q l->Gl R l
 |[],_=>by rw[Gl];trivial
 |x::r,he=>by rw[Gl]at he⊢; exact⟨Hx h x he.1,Lm h r he.2⟩
end
mutual
theorem SS: ∀(e:FExp) (s:GenT),(s.1.map (·.1)).Nodup->((genE e s).1.map (·.1)).Nodup/\(∀x∈s.1.map (·.1),x∈(genE e s).1.map (·.1))/\AllX (CallsIn ((genE e s).1.map (·.1))) e
 | .mk o n t k,s,h=>by
  rw[genE,AllX]
  by_cases h5:o=5
  ·rw[if_pos h5]
   obtain⟨a1,a2,a3⟩:=MA t k.length s h
   obtain⟨b1,b2,b3⟩:=G7 k _ a1
   exact⟨b1,fun x hx=>b2 x (a3 x hx),fun _=>b2 _ a2,b3⟩
  ·rw[if_neg h5]
   obtain⟨b1,b2,b3⟩:=G7 k _ h
   exact⟨b1,b2,fun h=>absurd h h5,b3⟩
theorem G7: ∀(l:List FExp) (s:GenT),(s.1.map (·.1)).Nodup->((Dr l s).1.map (·.1)).Nodup/\(∀x∈s.1.map (·.1),x∈(Dr l s).1.map (·.1))/\Gl (CallsIn ((Dr l s).1.map (·.1))) l
 |[],s,h=>by rw[Dr,Gl];exact⟨h,fun _ h=>h,trivial⟩
 |x::r,s,h=>by
  rw[Dr,Gl]
  obtain⟨a1,a2,a3⟩:=SS x s h
  obtain⟨b1,b2,b3⟩:=G7 r _ a1
  exact⟨b1,fun y hy=>b2 y (a2 y hy),Hx (fun y hq h5=>b2 _ (hq h5)) x a3,b3⟩
end
theorem MT: ∀(l:List FMeth) (s:GenT),(s.1.map (·.1)).Nodup->((metG l s).1.map (·.1)).Nodup/\(∀x∈s.1.map (·.1),x∈(metG l s).1.map (·.1)) /\ ∀m∈l,m.name∈(metG l s).1.map (·.1)
 |[],s,h=>⟨h,fun _ h=>h,by simp⟩
 |m::r,s,h=>by
  obtain⟨a1,a2,a3⟩:=MA m.name m.params.length s h
  obtain⟨b1,b2,b3⟩:=MT r _ a1
  rw[metG]
  refine⟨b1,fun x hx=>b2 x (a3 x hx),fun y hy=>?_⟩
  rcases List.mem_cons.1 hy with rfl|hy
  ·exact b2 _ a2
  ·exact b3 y hy
theorem Of{Q:FExp->Prop}: ∀(l:List FExp),Gl Q l->∀x∈l,AllX Q x
 |[],_,x,hx=>by simp at hx
 |y::r,h,x,hx=>by
  rw[Gl]at h
  rcases List.mem_cons.1 hx with rfl|hx
  ·exact h.1
  ·exact Of r h.2 x hx
theorem KE(f:FProg):(gensN f).Nodup/\(∀m∈f.methods,m.name∈gensN f/\AllX (CallsIn (gensN f)) m.body)/\AllX (CallsIn (gensN f)) f.main:=by
 obtain⟨a1,a2,a3⟩:=MT f.methods ([],true) (by simp)
 obtain⟨b1,b2,b3⟩:=G7 (BY f) _ a1
 have hm:=Of _ b3
 exact⟨b1,fun m au=>⟨b2 _ (a3 m au),hm _ (by unfold BY;exact List.mem_append_left _ (List.mem_map_of_mem au))⟩,hm _ (by unfold BY;simp)⟩
theorem Pt(f:FProg):(Bd f).length=(gensN f).length:=by
 unfold Bd
 rw[Pb _ _ _ (KE f).1 (fun _ _=>rfl)];simp
theorem args_ok(f:FProg):(∀m∈f.methods,(0<=getM 0 m.name (Bd f)/\getM 0 m.name (Bd f)<(Bd f).length)/\AllX (QA (Bd f) (Bd f).length) m.body)/\AllX (QA (Bd f) (Bd f).length) f.main:=by
 obtain⟨h1,h2,h3⟩:=KE f
 have key:∀s∈gensN f,0<=getM 0 s (Bd f)/\getM 0 s (Bd f)<(Bd f).length:=fun s hs=>by
  have:=(Pc (gensN f) 0 [] s).1 hs
  rw[Pt];unfold Bd;omega
 have hq:∀x,CallsIn (gensN f) x->QA (Bd f) (Bd f).length x:=fun x hx h5=>key _ (hx h5)
 exact⟨fun m hm=>⟨key _ (h2 m hm).1,Hx hq _ (h2 m hm).2⟩,Hx hq _ h3⟩
theorem BS.envS{ib ia is ig:Nat}{a b c d f:D}{cm sm gm:List (Str×Int)}{st:MR}{ns:List BNode}{V:Sig}(h:BS ib ia is ig a b c d f cm sm gm st ns V):EnvS ib ia is ig [a,b,c,d,mD st ns.length,f] cm sm gm V:=⟨⟨_,_,_,_,_,_,rfl,h.env⟩,h.oa,h.os,h.og⟩
section
variable {ops:Array Oper}{n N:Nat}{ro:Option Nat}{S0:Sig}{Q:DX->St->Prop}{df:List DDf}{O Sr:List (Nat×D)}{V:Sig}{ty:TypeId}{pos:String}{after:Array Edge}{d:D}
theorem moSt{op:Op}{l:List (Bool×Oper)}{S' S'':Sig}(h:MO prog ro n ops N S0 Q df l O S'')(he:eopD tab Sr V op=some (d,S'))(hw:∀O,Wk prog n ⟨O,S',df⟩ ⟨O,S'',df⟩)(hC:Sub S0 S'')(hl:A5 O (A9 op.operands.toList)=some Sr:=by exact tdR):
  MO prog ro n ops N S0 Q df ((true,⟨none,op,ty,pos,after,none⟩)::l) O V:=
 WM (o:=⟨none,op,ty,pos,after,none⟩) rfl rfl rfl (F6 Ad rfl (by rw[Bt (U':=O) fun x hx=>Cd (o:=⟨none,op,ty,pos,after,none⟩) hx];exact(Bt (C3 hl)) ▸ he) rfl (BE (hw _) (AL ⟨rfl,hC,h⟩)))
end
theorem Wb(f:FProg)(V:Sig)(hw:f.wt<=10000000)(hs:(BG f).isSome=true):DCall prog 48 [.agg (B7 f)] V (rS (.agg (Am (B4 f))) V):=by
 obtain⟨p1,p2,p3,p4,p5⟩:=f.wt_le
 have cG:=Kn f
 have cQ:(gensN f).length<=f.wt:=by have:=N9 f;unfold gensN;rw[List.length_map];exact this
 have bu:(f.classes.map (·.name)).length<=1073741824:=by rw[List.length_map];omega
 have cp:(CK f).1.map (·.1)=gensN f:=rfl
 refine en func48 ntmps48 ?_
 try refine gz ?_ o48 [2]
 refine newV (fun i2 bJ=>?_)
 repeat ((fail_if_success (first|(refine callWP (NF f.classes (·.name) 103 [] .no _ (by omega) (fun x hx S' _=>NE x S')) (fun x S1 hr=>?_) (fun x S1 hr=>by cases hr.1))|fail));(refine goX1 (gi cp hs) ?_))
 refine callWP (NF f.classes (·.name) 103 [] .no _ (by omega) (fun x hx S' _=>NE x S')) (fun x S1 hr=>?_) (fun x S1 hr=>by cases hr.1)
 obtain⟨e1,e2⟩:=hr
 cases e1
 rw[e2]
 clear e2 S1
 repeat ((fail_if_success (first|(refine Ab (DT (f.classes.map (·.name)) 3 .no _ bu ⟨by omega,by omega⟩) (fun x S1 hr=>?_) (fun x S1 hr=>by obtain⟨_,_,h,_⟩:=hr;cases h))|fail));(refine goX1 trivial ?_))
 refine Ab (DT (f.classes.map (·.name)) 3 .no _ bu ⟨by omega,by omega⟩) (fun x S1 hr=>?_) (fun x S1 hr=>by obtain⟨_,_,h,_⟩:=hr;cases h)
 obtain⟨ia,bI,e1,e2⟩:=hr
 cases e1
 rw[e2]
 clear e2 S1
 repeat ((fail_if_success (first|(refine Ab (DT (AK f) 0 .no _ (by omega) ⟨by omega,by omega⟩) (fun x S1 hr=>?_) (fun x S1 hr=>by obtain⟨_,_,h,_⟩:=hr;cases h))|fail));(refine goX1 trivial ?_))
 refine Ab (DT (AK f) 0 .no _ (by omega) ⟨by omega,by omega⟩) (fun x S1 hr=>?_) (fun x S1 hr=>by obtain⟨_,_,h,_⟩:=hr;cases h)
 obtain⟨is,bG,e1,e2⟩:=hr
 cases e1
 rw[e2]
 clear e2 S1
 repeat ((fail_if_success (first|(refine Ab (DT (gensN f) 0 .no _ (by omega) ⟨by omega,by omega⟩) (fun x S1 hr=>?_) (fun x S1 hr=>by obtain⟨_,_,h,_⟩:=hr;cases h))|fail));(refine goX1 trivial ?_))
 refine Ab (DT (gensN f) 0 .no _ (by omega) ⟨by omega,by omega⟩) (fun x S1 hr=>?_) (fun x S1 hr=>by obtain⟨_,_,h,_⟩:=hr;cases h)
 obtain⟨ig,bH,e1,e2⟩:=hr
 cases e1
 rw[e2]
 clear e2 S1
 repeat ((fail_if_success (first|(refine boxV (T:=163) (fun ib bq=>?_))|fail));(refine goX1 trivial ?_))
 refine boxV (T:=163) (fun ib bq=>?_)
 try refine gz ?_ (delO 4 o48) [2]
 obtain⟨a1,b1⟩:=A4 bI
 obtain⟨a2,b2⟩:=A4 bG
 obtain⟨a3,b3⟩:=A4 b2
 obtain⟨a4,b4⟩:=A4 bH
 obtain⟨a5,b5⟩:=A4 b4
 obtain⟨a6,b6⟩:=A4 b5
 obtain⟨a7,b7⟩:=A4 bq
 obtain⟨a8,b8⟩:=A4 b7
 obtain⟨a9,b9⟩:=A4 b8
 obtain⟨a10,b10⟩:=A4 b9
 generalize aJ:Sig.set _ ib _=S4
 have o1:S4 ib=some (.cells [.nils,dI 0,.nils,.nils,.nils,dI 0,.map ia,.map is,.map ig]):=by rw[<-aJ];exact w7 ..
 have o2:S4 ia=some (.map (eSN (numM (f.classes.map (·.name)) 3 []))):=by rw[<-aJ,w8 _ _ (Ne.symm a9),w8 _ _ (Ne.symm a5),w8 _ _ (Ne.symm a2)];exact w7 ..
 have o3:S4 is=some (.map (eSN (Cl f))):=by rw[<-aJ,w8 _ _ (Ne.symm a8),w8 _ _ (Ne.symm a4)];exact w7 ..
 have o4:S4 ig=some (.map (eSN (Bd f))):=by rw[<-aJ,w8 _ _ (Ne.symm a7)];exact w7 ..
 have o5:S4 i2=some (.cells [.nils,dI 0,.nils,.nils,.nils,dI 0]):=by rw[<-aJ,w8 _ _ (Ne.symm a10),w8 _ _ (Ne.symm a6),w8 _ _ (Ne.symm a3),w8 _ _ (Ne.symm a1)];exact w7 ..
 have hS:Sub V S4:=fun j x hj=>by rw[<-aJ,w8 _ _ (A3 hj b10),w8 _ _ (A3 hj b6),w8 _ _ (A3 hj b3),w8 _ _ (A3 hj b1),w8 _ _ (A3 hj bJ)];exact hj
 clear aJ
 refine mixT 12 [0,1,2,3,4,5,6,7,8,9,10,11] [] ?_
 try refine gf o1 ?_ o48 [2]
 refine ent3 ?_ o2
 refine ent3 ?_ (w7 ..)
 refine ent3 ?_ (w7 ..)
 rw[w9,w9]
 generalize ap:Sig.set _ ia _=S5
 have q1:S5 ib=some (.cells [.nils,dI 0,.nils,.nils,.nils,dI 0,.map ia,.map is,.map ig]):=by rw[<-ap,w8 _ _ a9];exact o1
 have q2:S5 ia=some (.map (eSN (Cy f))):=by rw[<-ap];exact w7 ..
 have q3:S5 is=some (.map (eSN (Cl f))):=by rw[<-ap,w8 _ _ a2];exact o3
 have q4:S5 ig=some (.map (eSN (Bd f))):=by rw[<-ap,w8 _ _ a5];exact o4
 have q5:S5 i2=some (.cells [.nils,dI 0,.nils,.nils,.nils,dI 0]):=by rw[<-ap,w8 _ _ (Ne.symm a1)];exact o5
 have bO:Sub V S5:=fun j x hj=>by rw[<-ap,w8 _ _ (A3 hj b1)];exact hS _ _ hj
 clear ap hS o1 o2 o3 o4 o5 bI bG bH bq b2 b4 b5 b7 b8 b9
 try refine gz ?_ (delO 5 o48) [2]
 have cP:=Pt f
 obtain⟨hM,hA⟩:=args_ok f
 have bc:=fun S' (h:S' ig=some (.map (eSN (Bd f))))=>Rb f (Bd f) ig S' (by omega) (by omega) h hM hA
 refine Do [0,1,2,3,4,5,6,7,8,9,10,11,12,13,14,15,16] [8,9,13] (S5.out (· = ib)) (Bv _ _) ?_
 try refine gz ?_ o48 [2]
 refine moRd (d:=.map ig) ?_ ?hd (Bv _ _)
 case hd=>simp[q1]
 refine BF (bc S5 q4) (fun x S6 hr=>?_) (fun x S6 hr=>by obtain⟨_,_,h,_⟩:=hr;cases h)
 obtain⟨r,aN,e1,e2⟩:=hr
 cases e1
 rw[e2]
 have nr:ib≠r:=A3 q1 aN
 have aQ:∀X,Sub (S5.out (· = ib)) ((S5.set r X).set ib (.cells [.nils,dI (AK f).length,.nils,.nils,.nils,dI 0,.map ia,.map is,.map ig])):=fun X j x hj=>by
  obtain⟨h1,h2⟩:=C1 hj
  rw[w8 _ _ h2,w8 _ _ (A3 h1 aN)];exact h1
 refine⟨(Bv _ _).trans ((Sub.refl _).set aN),?_⟩
 have w1:(S5.set r (.cells ((O8 (Bd f) f).map dI))) ib=some (.cells [.nils,dI 0,.nils,.nils,.nils,dI 0,.map ia,.map is,.map ig]):=by rw[w8 _ _ nr];exact q1
 have aP:=aQ (.cells ((O8 (Bd f) f).map dI))
 try refine gf q1 ?_ (delO 6 o48) [2]
 generalize bK:O8 (Bd f) f=gs at*
 have aH:gs.length=(Bd f).length:=by rw[<-bK];unfold O8;rw[Gf,Qa,List.length_replicate]
 have bL:∀C,(S5.set r (.cells (gs.map dI))).set ib C=mS (S5.set ib C) (some (r,(Bd f).length,[])) (cI gs):=fun C=>by
  rw[set_comm _ (Ne.symm nr)]
  show _=(S5.set ib C).set r (.cells ((cI gs).flatten++[]))
  rw[List.append_nil,DY]
 rw[bL]
 have aR:∀C,mOK (S5.set ib C) 1 (some (r,(Bd f).length,[])) (cI gs):=fun C=>by
  refine⟨by rw[w8 _ _ (Ne.symm nr)];exact aN,?_,by simp[aH],BQ _⟩
  rw[List.append_nil,DY,List.length_map,aH];omega
 refine dwp_wk (Gr (az:=[.nils,dI (AK f).length]) (bs:=[.nils,.nils,dI 0,.map ia,.map is,.map ig]) (aR _) (by rw[w7,Ia,aH];rfl)) ?_
 rw[w9]
 have z1:(S5.set ib (.cells [.nils,dI (AK f).length,sl (cI gs),.nils,.nils,dI 0,.map ia,.map is,.map ig])) ib=some (.cells [.nils,dI (AK f).length,sl (cI gs),.nils,.nils,dI 0,.map ia,.map is,.map ig]):=w7 ..
 have z2:(S5.set ib (.cells [.nils,dI (AK f).length,sl (cI gs),.nils,.nils,dI 0,.map ia,.map is,.map ig])) ia=some (.map (eSN (Cy f))):=by rw[w8 _ _ (Ne.symm a9)];exact q2
 have z3:(S5.set ib (.cells [.nils,dI (AK f).length,sl (cI gs),.nils,.nils,dI 0,.map ia,.map is,.map ig])) is=some (.map (eSN (Cl f))):=by rw[w8 _ _ (Ne.symm a8)];exact q3
 have z4:(S5.set ib (.cells [.nils,dI (AK f).length,sl (cI gs),.nils,.nils,dI 0,.map ia,.map is,.map ig])) ig=some (.map (eSN (Bd f))):=by rw[w8 _ _ (Ne.symm a7)];exact q4
 have z5:(S5.set ib (.cells [.nils,dI (AK f).length,sl (cI gs),.nils,.nils,dI 0,.map ia,.map is,.map ig])) i2=some (.cells [.nils,dI 0,.nils,.nils,.nils,dI 0]):=by rw[w8 _ _ (Ne.symm a10)];exact q5
 have zS:Sub V (S5.set ib (.cells [.nils,dI (AK f).length,sl (cI gs),.nils,.nils,dI 0,.map ia,.map is,.map ig])):=bO.set b10
 generalize be:S5.set ib (.cells ([D.nils,dI (AK f).length]++sl (cI gs)::[D.nils,.nils,dI 0,.map ia,.map is,.map ig]))=S6
 have be:S5.set ib (.cells [.nils,dI (AK f).length,sl (cI gs),.nils,.nils,dI 0,.map ia,.map is,.map ig])=S6:=be
 rw[be]at z1 z2 z3 z4 z5 zS
 clear be bL aR aQ aP w1
 have bX:∀c∈f.classes,c.parents.length<=1073741824/\c.slots.length<=1073741824/\c.inits.length<=1073741824:=fun c hc=>by
  obtain⟨k,hk,rfl⟩:=List.getElem_of_mem hc
  have:=p4 k hk
  obtain⟨_,y2,y3,y4,_⟩:=(f.classes[k]).wt_le
  have:=Bu (f.classes[k]).parents
  have:=Bu (f.classes[k]).slots
  omega
 have bQ:EnvS ib ia is ig [.nils,dI (AK f).length,sl (cI gs),.nils,.nils,dI 0] (Cy f) (Cl f) (Bd f) S6:=⟨⟨_,_,_,_,_,_,rfl,z1⟩,z2,z3,z4⟩
 have aL:=UE f.classes (OO (Cy f) (Cl f)) 106 [.cptr [.ptr ib 0] 0] .no S6 (by omega) (fun x hx S' hs=>Ra x (bX x hx) (bQ.sub hs))
 generalize cw:f.classes.map (OO (Cy f) (Cl f))=bcs at*
 repeat' first|refine gf z1 ?_ [] [2]|refine moR (aL) ?_|refine moP (aL) ?_|refine gf z1 ?_ o48 [2]|apply gy<;>intro hh
 generalize aI:Sig.set S6 ib _=S7
 have y1:S7 ib=some (.cells [sl (bcs.map Ae),dI (AK f).length,sl (cI gs),.nils,.nils,dI 0,.map ia,.map is,.map ig]):=by rw[<-aI];exact w7 ..
 have y2:S7 ia=some (.map (eSN (Cy f))):=by rw[<-aI,w8 _ _ (Ne.symm a9)];exact z2
 have y3:S7 is=some (.map (eSN (Cl f))):=by rw[<-aI,w8 _ _ (Ne.symm a8)];exact z3
 have y4:S7 ig=some (.map (eSN (Bd f))):=by rw[<-aI,w8 _ _ (Ne.symm a7)];exact z4
 have y5:S7 i2=some (.cells [.nils,dI 0,.nils,.nils,.nils,dI 0]):=by rw[<-aI,w8 _ _ (Ne.symm a10)];exact z5
 have yS:Sub V S7:=by rw[<-aI];exact zS.set b10
 clear aI z1 z2 z3 z4 z5 zS aL bQ bc q1 q2 q3 q4 q5 bO aN nr
 refine AD ib 3 9 (ds:=[sl (bcs.map Ae),dI (AK f).length,sl (cI gs),.nils,.nils,dI 0,.map ia,.map is,.map ig]) y1 rfl (fun im aA=>?_)
 have m1:ib≠im:=A3 y1 aA
 have m2:ia≠im:=A3 y2 aA
 have m3:is≠im:=A3 y3 aA
 have m4:ig≠im:=A3 y4 aA
 have m5:i2≠im:=A3 y5 aA
 generalize aX:Sig.set (Sig.set S7 im _) ib _=S8
 have cE:BS ib ia is ig (sl (bcs.map Ae)) (dI (AK f).length) (sl (cI gs)) (.slice (([]:List BMeth).map Aq) (.tag im)) (dI 0) (Cy f) (Cl f) (Bd f) none [] S8:=by
  rw[<-aX]
  refine⟨w7 ..,?_,?_,?_,rfl,id⟩
  ·rw[w8 _ _ (Ne.symm a9),w8 _ _ m2];exact y2
  ·rw[w8 _ _ (Ne.symm a8),w8 _ _ m3];exact y3
  ·rw[w8 _ _ (Ne.symm a7),w8 _ _ m4];exact y4
 have x1:S8 im=some (.tail 9 ([]:List BMeth).length):=by rw[<-aX,w8 _ _ (Ne.symm m1)];exact w7 ..
 have x5:S8 i2=some (.cells [.nils,dI 0,.nils,.nils,.nils,dI 0]):=by rw[<-aX,w8 _ _ (Ne.symm a10),w8 _ _ m5];exact y5
 have xS:Sub V S8:=by rw[<-aX];exact(yS.set (yS.none aA)).set b10
 have bp:V im=none:=yS.none aA
 clear aX y1 y2 y3 y4 y5 yS aA
 have cT:∀m∈f.methods,m.body.cnt<=FMeth.wt m:=fun m _=>by have:=FExp.cnt_le m.body;unfold FMeth.wt;omega
 have bW:wtL FMeth.wt f.methods<=f.wt:=by unfold FProg.wt;omega
 refine VD [1,2,7,12,76,77,121,122,123,124,125,126,127,128,129,130,131,132,133,134,135,136,137,138,139,140,141,142,143,144,145,146,147,148,149,150,151,152,153,154] (fun (k:Nat) (ms:List BMeth) (st:MR) (ns:List BNode) (S1:Sig)=>k<=f.methods.length/\ms.length=k/\ns++O2 (Cy f) (Cl f) (Bd f) (f.methods.drop k) ns.length=O2 (Cy f) (Cl f) (Bd f) f.methods 0/\ms++bndMM (Cy f) (Cl f) (Bd f) (f.methods.drop k) ns.length=bndMM (Cy f) (Cl f) (Bd f) f.methods 0/\ns.length+wtL FMeth.wt (f.methods.drop k)<=f.wt/\BS ib ia is ig (sl (bcs.map Ae)) (dI (AK f).length) (sl (cI gs)) (.slice (ms.map Aq) (.tag im)) (dI 0) (Cy f) (Cl f) (Bd f) st ns S1/\S1 im=some (.tail 9 ms.length)/\S1 i2=some (.cells [.nils,dI 0,.nils,.nils,.nils,dI 0]) /\ ¬Cm st i2/\Sub V S1/\(∀j x,V j=some x->¬Cm st j)) (fun k _ _ _ _=>[(78,dI k)]) (fun _ _ _ _ S1=>S1) (fun k _ _ _ _=>f.methods.length-k) (0) ([]) (none) ([]) (S8) (by exact⟨by omega,rfl,rfl,rfl,by simpa using bW,cE,x1,x5,id,xS,fun _ _ _=>id⟩) (fun k ms st ns S1 hI=>?_)
 obtain⟨hk,cg,aY,aj,ar,hB,o1,o5,o6,oS,oR⟩:=hI
 by_cases ax:k<f.methods.length
 ·rw[A0 ax]at aY aj ar
  rw[O2]at aY
  rw[bndMM]at aj
  rw[wtL]at ar
  have bV:=p5 k ax
  generalize au:f.methods[k]=m at*
  have cb:m.params.length<=f.wt/\m.body.wt<=f.wt/\m.fact.wt<=f.wt:=by have:=bV;unfold FMeth.wt at this;have:=Bu m.params;omega
  obtain⟨g1,g2,g3⟩:=cb
  try refine gf (gi hB.env au) ?_ (delO 10 o48) [2]
  refine mix (id:=10) [0,1,2,4,5,6,3,7,8,9] [8,9] ?_
  try refine gf au ?_ o48 [2]
  refine moQR ?_
  obtain⟨ks,vs,bN⟩:∃ks vs,cNum (numM m.params 0 [])=.cmap ks vs:=⟨_,_,rfl⟩
  rw[bN]
  try refine gf au ?_ o48 [2]
  refine MN (fun i10 aa=>?_)
  try refine gf au ?_ o48 [2]
  have av:NmD (.cmap ks vs) (numM m.params 0 []):=⟨.inl bN.symm,Gp _ _ _ (by simp)⟩
  have cD:=hB.fresh (o:=.cells [.ptr ib 0,.cmap ks vs,dI m.params.length]) aa
  have aT:i10≠im:=fun e=>by rw[e,o1]at aa;cases aa
  have ck:m.body.wt<=FMeth.wt m:=by unfold FMeth.wt;omega
  have cn:ns.length+m.body.wt<=100000000:=by omega
  have aF:∀{j x},(∀c,x≠.cells c)->S1 j=some x->¬Cm st j:=fun hx hj hr=>by obtain⟨cs,hc⟩:=hB.row.cells hr;rw[hj]at hc;cases hc;exact hx _ rfl
  refine Ab (NC m.body.wt m.body (.cmap ks vs) (numM m.params 0 []) m.params.length st ns _ (Nat.le_refl _) cn (by omega) (by omega) av cD) (fun x S2 hr=>?_) (fun x S2 hr=>by cases hr.1)
  obtain⟨e1,st2,ae,aC⟩:=hr
  cases e1
  have kp:∀{j x},S1 j=some x->j≠ib->¬Cm st j->S2 j=some x /\ ¬Cm st2 j:=fun hj hb hr=>aC _ _ (by rw[w8 _ _ (A3 hj aa)];exact hj) hb hr
  obtain⟨t1,t1r⟩:=kp o1 (Ne.symm m1) (aF (by simp) o1)
  obtain⟨t5,t5r⟩:=kp o5 (Ne.symm a10) o6
  have tS:∀j x,V j=some x->S2 j=some x /\ ¬Cm st2 j:=fun j x hj=>kp (oS _ _ hj) (A3 hj b10) (oR _ _ hj)
  obtain⟨t10,_⟩:=aC i10 _ (w7 ..) (fun e=>by rw[e,hB.env]at aa;cases aa) (hB.notrow aa)
  have cz:=ae.envS
  have bb:=UD (.cmap ks vs) (numM m.params 0 []) m.params.length av m.fact.wt m.fact S2 (Nat.le_refl _) (by omega) cz
  have u1:(S2.out (· = im)) ib=_:=DG ae.env m1
  have u4:(S2.out (· = im)) ig=_:=DG ae.og m4
  have u10:(S2.out (· = im)) i10=_:=DG t10 aT
  have aE:Sub (S2.out (· = im)) (S2.set im (.tail 9 (ms.length+1))):=fun j x hj=>by
   obtain⟨h1,h2⟩:=C1 hj
   rw[w8 _ _ h2];exact h1
  have bD:Sub (S2.out (· = im)) S2:=Bv _ _
  try refine gf au ?_ (delO 12 o48) [2]
  refine Do [0,1,2,3,4,5,6,7,8,9,10,11,12,13,14,15,16,17,19,18,20,21,22,23,24,25] [18,22] (S2.out (· = im)) (Bv _ _) ?_
  repeat' first|refine gf (gi u1 (gi u4 (gi u10 (gi au (gi t1 ae.env))))) ?_ [] [2]|refine moR (bb) ?_|refine moP (bb) ?_|refine gf (gi u1 (gi u4 (gi u10 (gi au (gi t1 ae.env))))) ?_ o48 [2]|apply gy<;>intro hh
  generalize aO:Sig.set _ ib _=qq
  have aV:bndE (Cy f) (Cl f) (Bd f) m.body (fun y=>getM 0 y (numM m.params 0 [])) m.params.length ns.length=bndE (Cy f) (Cl f) (Bd f) m.body (Ig m) m.params.length ns.length:=rfl
  have ai:=Ge (cm:=Cy f) (sm:=Cl f) (gm:=Bd f) m.body (Ig m) m.params.length ns.length
  rw[aV]at ae aO
  have c1:qq ib=some (.cells [sl (bcs.map Ae),dI (AK f).length,sl (cI gs),.slice ((ms++[(⟨m.kind,getM 0 m.name (Bd f),bndF (Cy f) (Cl f) (Ig m) m.fact,ns.length⟩:BMeth)]).map Aq) (.tag im),mD st2 (ns++bndE (Cy f) (Cl f) (Bd f) m.body (Ig m) m.params.length ns.length).length,dI 0,.map ia,.map is,.map ig]):=by
   rw[<-aO,w7,List.length_append]
   simp only[List.map_append,List.map_cons,List.map_nil,Aq,DR,List.cons_append,List.nil_append]
   rfl
  have kq:∀{j x},S2 j=some x->j≠ib->j≠im->qq j=some x:=fun hj h1 h2=>by rw[<-aO,w8 _ _ h1,w8 _ _ h2];exact hj
  have cC:BS ib ia is ig (sl (bcs.map Ae)) (dI (AK f).length) (sl (cI gs)) (.slice ((ms++[(⟨m.kind,getM 0 m.name (Bd f),bndF (Cy f) (Cl f) (Ig m) m.fact,ns.length⟩:BMeth)]).map Aq) (.tag im)) (dI 0) (Cy f) (Cl f) (Bd f) st2 (ns++bndE (Cy f) (Cl f) (Bd f) m.body (Ig m) m.params.length ns.length) qq:=
   ⟨c1,kq ae.oa (Ne.symm a9) m2,kq ae.os (Ne.symm a8) m3,kq ae.og (Ne.symm a7) m4,ae.row.keep fun j x hj hr=>kq hj (fun e=>ae.nr (by rw[<-e];exact hr)) (fun e=>t1r (by rw[<-e];exact hr)),ae.nr⟩
  have cim:qq im=some (.tail 9 (ms++[(⟨m.kind,getM 0 m.name (Bd f),bndF (Cy f) (Cl f) (Ig m) m.fact,ns.length⟩:BMeth)]).length):=by rw[<-aO,w8 _ _ (Ne.symm m1),w7,List.length_append];rfl
  have c5:=kq t5 (Ne.symm a10) m5
  have cS:Sub V qq:=fun j x hj=>kq (tS j x hj).1 (A3 hj b10) (A3 hj bp)
  clear aO
  exact⟨k+1,ms++[⟨m.kind,getM 0 m.name (Bd f),bndF (Cy f) (Cl f) (Ig m) m.fact,ns.length⟩],st2,ns++bndE (Cy f) (Cl f) (Bd f) m.body (Ig m) m.params.length ns.length,qq,⟨by omega,by rw[List.length_append,cg];rfl,by rw[List.append_assoc,List.length_append,ai];exact aY,by rw[List.append_assoc,List.length_append,ai];exact aj,by rw[List.length_append,ai];have:=FExp.cnt_le m.body;omega,cC,cim,c5,t5r,cS,fun j x hj=>(tS j x hj).2⟩,td1,wkR⟩
 ·rw[A1 ax,O2,List.append_nil]at aY
  rw[A1 ax,bndMM,List.append_nil]at aj
  have cL:=FExp.cnt_le f.main
  try refine gf hB.env ?_ o48 [2]
  refine Ab (NC f.main.wt f.main .nilmap [] 0 st ns _ (Nat.le_refl _) (by omega) (by omega) (by omega) ⟨.inr ⟨rfl,rfl⟩,by simp⟩ hB) (fun x S2 hr=>?_) (fun x S2 hr=>by cases hr.1)
  obtain⟨e1,st2,ae,aC⟩:=hr
  cases e1
  have aV:bndE (Cy f) (Cl f) (Bd f) f.main (fun y=>getM 0 y []) 0 ns.length=bndE (Cy f) (Cl f) (Bd f) f.main (fun _=>0) 0 ns.length:=rfl
  rw[aV]at ae
  obtain⟨t5,t5r⟩:=aC _ _ o5 (Ne.symm a10) o6
  have tS:∀j x,V j=some x->S2 j=some x /\ ¬Cm st2 j:=fun j x hj=>aC _ _ (oS _ _ hj) (A3 hj b10) (oR _ _ hj)
  have cu:B4 f=⟨bcs,(AK f).length,gs,ms,ns++bndE (Cy f) (Cl f) (Bd f) f.main (fun _=>0) 0 ns.length,ns.length⟩:=by unfold B4;rw[cw,bK,<-aY,<-aj]
  generalize cJ:ns++bndE (Cy f) (Cl f) (Bd f) f.main (fun _=>0) 0 ns.length=nn at*
  try refine gf ae.env ?_ (delO 16 o48) [2]
  generalize aW:Sig.set S2 ib _=S3
  have c1:S3 ib=some (.cells [sl (bcs.map Ae),dI (AK f).length,sl (cI gs),.slice (ms.map Aq) (.tag im),mD st2 nn.length,dI ns.length,.map ia,.map is,.map ig]):=by rw[<-aW];exact w7 ..
  have c5:S3 i2=some (.cells [.nils,dI 0,.nils,.nils,.nils,dI 0]):=by rw[<-aW,w8 _ _ (Ne.symm a10)];exact t5
  have cS:∀j x,V j=some x->S3 j=some x /\ ¬Cm st2 j:=fun j x hj=>⟨by rw[<-aW,w8 _ _ (A3 hj b10)];exact(tS j x hj).1,(tS j x hj).2⟩
  have cR:RowAt S3 3 st2 (nn.map Ai):=ae.row.keep fun j x hj hr=>by rw[<-aW,w8 _ _ fun e=>ae.nr (by rw[<-e];exact hr)];exact hj
  clear aW
  obtain⟨S4,rfl,ci,bm,_⟩:=cR.mS
  have d1:=bm _ _ c1 ae.nr
  have d5:=bm _ _ c5 t5r
  have dS:Sub V S4:=fun j x hj=>bm _ _ (cS j x hj).1 (cS j x hj).2
  refine dwp_wk (Gr (az:=[sl (bcs.map Ae),dI (AK f).length,sl (cI gs),.slice (ms.map Aq) (.tag im)]) (bs:=[dI ns.length,.map ia,.map is,.map ig]) ci (by rw[List.length_map];exact d1)) ?_
  refine dwp_wk (CV (az:=[sl (bcs.map Ae),dI (AK f).length,sl (cI gs)]) (d:=.slice (ms.map Aq) (.tag im)) (d':=sl (ms.map Aq)) (bs:=[sl (nn.map Ai),dI ns.length,.map ia,.map is,.map ig]) (w7 ..) (AE _ _)) ?_
  rw[w9]
  have e1:(S4.set ib (.cells [sl (bcs.map Ae),dI (AK f).length,sl (cI gs),sl (ms.map Aq),sl (nn.map Ai),dI ns.length,.map ia,.map is,.map ig])) ib=some (.cells [sl (bcs.map Ae),dI (AK f).length,sl (cI gs),sl (ms.map Aq),sl (nn.map Ai),dI ns.length,.map ia,.map is,.map ig]):=w7 ..
  have e5:(S4.set ib (.cells [sl (bcs.map Ae),dI (AK f).length,sl (cI gs),sl (ms.map Aq),sl (nn.map Ai),dI ns.length,.map ia,.map is,.map ig])) i2=some (.cells [.nils,dI 0,.nils,.nils,.nils,dI 0]):=by rw[w8 _ _ (Ne.symm a10)];exact d5
  have eS:Sub V (S4.set ib (.cells [sl (bcs.map Ae),dI (AK f).length,sl (cI gs),sl (ms.map Aq),sl (nn.map Ai),dI ns.length,.map ia,.map is,.map ig])):=dS.set b10
  generalize ap:S4.set ib (.cells ([sl (bcs.map Ae),dI (AK f).length,sl (cI gs)]++sl (ms.map Aq)::[sl (nn.map Ai),dI ns.length,.map ia,.map is,.map ig]))=S5
  have ap:S4.set ib (.cells [sl (bcs.map Ae),dI (AK f).length,sl (cI gs),sl (ms.map Aq),sl (nn.map Ai),dI ns.length,.map ia,.map is,.map ig])=S5:=ap
  rw[ap]at e1 e5 eS
  clear ap
  refine mixL [0,1,2,3,4,5,6,8,9,10,11,12,7,13,14,15,16,17,18,19,20] [17] ?_
  try refine gf e1 ?_ o48 [2]
  refine moQR ?_
  try refine gf e1 ?_ o48 [2]
  refine moQR ?_
  try refine gf e1 ?_ o48 [2]
  refine moSt (d:=.any) (S':=S5.set ib (.cells [sl (bcs.map Ae),dI (AK f).length,sl (cI gs),.slice (ms.map Aq) .clip,sl (nn.map Ai),dI ns.length,.map ia,.map is,.map ig])) (S'':=S5) ?_ ?he (fun O=>?hw) (Sub.refl _)
  case he=>simp[e1]
  case hw=>
   have:=CV (P:=prog) (n:=155) (O:=O) (df:=[]) (az:=[sl (bcs.map Ae),dI (AK f).length,sl (cI gs)]) (d:=.slice (ms.map Aq) .clip) (d':=sl (ms.map Aq)) (bs:=[sl (nn.map Ai),dI ns.length,.map ia,.map is,.map ig]) (V:=S5.set ib (.cells [sl (bcs.map Ae),dI (AK f).length,sl (cI gs),.slice (ms.map Aq) .clip,sl (nn.map Ai),dI ns.length,.map ia,.map is,.map ig])) (w7 ..) (AE _ _)
   rw[w9]at this
   have h2:=Sig.set_self _ e1
   rw[show S5.set ib (.cells ([sl (bcs.map Ae),dI (AK f).length,sl (cI gs)]++sl (ms.map Aq)::[sl (nn.map Ai),dI ns.length,.map ia,.map is,.map ig]))=S5 from h2]at this
   exact this
  try refine gf (gi e1 e5) ?_ o48 [2]
  rw[cu]
  have bz:WkD (.agg [sl (bcs.map Ae),dI (AK f).length,sl (cI gs),sl (ms.map Aq),.slice (nn.map Ai) .clip,dI ns.length]) (.agg [sl (bcs.map Ae),dI (AK f).length,sl (cI gs),sl (ms.map Aq),sl (nn.map Ai),dI ns.length]):=E3 (show WkL _ _ from⟨A8 _,A8 _,A8 _,A8 _,AE _ _,A8 _,trivial⟩)
  refine finC (S':=V) (d:=.agg [sl (bcs.map Ae),dI (AK f).length,sl (cI gs),sl (ms.map Aq),sl (nn.map Ai),dI ns.length]) ⟨rfl,rfl⟩ (hZ:=(eS.set b10).set bJ) (hw:=?_)
  exact bz
@[reducible,instance] def a48:=fun f V=>ah2 (@Wb f V)
end Go.DL
