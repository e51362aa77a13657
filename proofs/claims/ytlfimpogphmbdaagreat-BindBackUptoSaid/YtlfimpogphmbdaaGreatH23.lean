/- A part of the proof. -/
import Derived.Test.YtlfimpogphmbdaaGreatH22
set_option linter.all false
namespace Go.DL
open Go.Proofs.Tryz
open Go Go.Proofs
set_option maxHeartbeats 8000000
def lS.ax{V:Sig}{sz:Nat}{st:MR}{es:fV}(h:lS V sz st es)(hne:es≠[]): ∃r c, ∀n,mD st n=.ax r 0 n c:=by
 rcases st with _|⟨i,cap,rest⟩
 ·exact absurd h hne
 ·exact⟨i,cap,fun _=>rfl⟩
def aH.cnt(e:aH):Nat:=(allE e).length
def bndN(cm sm gm:List (Str×Int))(o n:Int)(t:Str)(env:Str->Int):Int:=
 if o=3 then env t else if o=4\/o=7 then getM 0 t sm else if o=5 then getM 0 t gm else if o=6\/o=8 then getM 0 t cm else n
def AW:List aH->Nat->fR
 |[],_=>[]
 |x::r,k=>(k:Int)::AW r (k+x.cnt)
mutual
def lX(cm sm gm:List (Str×Int)):aH->(Str->Int)->Int->Nat->List aG
 |.mk o n t l,env,size,k=>⟨o,bndN cm sm gm o n t env,AW l (k+1)⟩::Ha cm sm gm o t l 0 env size (k+1)
def Ha(cm sm gm:List (Str×Int))(o:Int)(t:Str):List aH->Nat->(Str->Int)->Int->Nat->List aG
 |[],_,_,_,_=>[]
 |x::r,i,env,size,k=>(if o=9/\i=1 then lX cm sm gm x (updE env t size) (size+1) k else lX cm sm gm x env size k)++Ha cm sm gm o t r (i+1) env size (k+x.cnt)
end
section
variable {cm sm gm:List (Str×Int)}
theorem bndE_eq(e:aH)(env:Str->Int)(size:Int)(k:Nat):lX cm sm gm e env size k=⟨e.op,bndN cm sm gm e.op e.n e.text env,AW e.aq (k+1)⟩::Ha cm sm gm e.op e.text e.aq 0 env size (k+1):=by cases e;rw[lX];rfl
mutual
theorem H4: ∀(e:aH) (env:Str->Int) (size:Int) (k:Nat),(lX cm sm gm e env size k).length=e.cnt
 |.mk o n t l,env,size,k=>by
  rw[lX,aV,PY o t l,aH.cnt,allE];simp
theorem PY(o:Int)(t:Str): ∀(l:List aH) (i:Nat) (env:Str->Int) (size:Int) (k:Nat),(Ha cm sm gm o t l i env size k).length=(As l).length
 |[],_,_,_,_=>by rw[Ha,As];rfl
 |x::r,i,env,size,k=>by
  rw[Ha,As,aO,aO,PY o t r];split
  ·rw[H4 x];rfl
  ·rw[H4 x];rfl
end
end
def aH.cnt_le(e:aH):e.cnt<=e.wt:=Eg e
structure BS(ib ia is ig:Nat)(a b c d f:D)(cm sm gm:List (Str×Int))(st:MR)(ns:List aG)(V:Sig):Prop where
 env:V ib=some (.cells [a,b,c,d,mD st ns.length,f,.map ia,.map is,.map ig])
 oa:V ia=some (.map (eSN cm))
 os:V is=some (.map (eSN sm))
 og:V ig=some (.map (eSN gm))
 row:lS V 3 st (ns.map Ai)
 nr:¬Cf st ib
def BK(ib:Nat)(V:Sig)(st:MR)(U':Sig)(st':MR):Prop:= ∀j o,V j=some o->j≠ib->¬Cf st j->U' j=some o /\ ¬Cf st' j
def BK.trans{ib:Nat}{V S1 S2:Sig}{st st1 st2:MR}(h:BK ib V st S1 st1)(k:BK ib S1 st1 S2 st2):BK ib V st S2 st2:=fun j o hj hi hn=>k j o (h j o hj hi hn).1 hi (h j o hj hi hn).2
def BK.refl(ib:Nat)(V:Sig)(st:MR):BK ib V st V st:=fun j o h _ hn=>⟨h,hn⟩
def BK.fresh{ib:Nat}{V S1:Sig}{st st1:MR}{k:Nat}{o:kM}(h:BK ib V st S1 st1)(hk:S1 k=none):BK ib V st (S1.set k o) st1:=fun j x hj hi hn=>by
 obtain⟨h1,h2⟩:=h j x hj hi hn;exact⟨k8 (A3 h1 hk) h1,h2⟩
section
variable {ib ia is ig:Nat}{a b c d f:D}{cm sm gm:List (Str×Int)}{st:MR}{ns:List aG}{V:Sig}
theorem BS.set(h:BS ib ia is ig a b c d f cm sm gm st ns V){k:Nat}{o:kM}(h1:ib≠k)(h2:ia≠k)(h3:is≠k)(h4:ig≠k)(h5:¬Cf st k):BS ib ia is ig a b c d f cm sm gm st ns (V.set k o):=
 ⟨k8 h1 h.env,k8 h2 h.oa,k8 h3 h.os,k8 h4 h.og,h.row.keep fun j x hj hr=>by rw[w8 _ _ fun e=>h5 (by rw[<-e];exact hr)];exact hj,h.nr⟩
theorem BS.notrow(h:BS ib ia is ig a b c d f cm sm gm st ns V){k:Nat}(hk:V k=none): ¬Cf st k:=fun hr=>by
 obtain⟨cs,hc⟩:=h.row.cells hr;rw[hk]at hc;cases hc
theorem BS.fresh(h:BS ib ia is ig a b c d f cm sm gm st ns V){k:Nat}{o:kM}(hk:V k=none):BS ib ia is ig a b c d f cm sm gm st ns (V.set k o):=
 h.set (A3 h.env hk) (A3 h.oa hk) (A3 h.os hk) (A3 h.og hk) (h.notrow hk)
theorem BS.tail(h:BS ib ia is ig a b c d f cm sm gm st ns V){k s n:Nat}{o:kM}(hk:V k=some (.tail s n)): ¬Cf st k/\k≠ib/\BS ib ia is ig a b c d f cm sm gm st ns (V.set k o):=
 have hr:¬Cf st k:=fun hr=>by obtain⟨cs,hc⟩:=h.row.cells hr;rw[hk]at hc;cases hc
 ⟨hr,Ab hk h.env k7,h.set (Ab h.env hk k7) (Ab h.oa hk k7) (Ab h.os hk k7) (Ab h.og hk k7) hr⟩
theorem BS.zero(h:BS ib ia is ig a b c d f cm sm gm st ns V):st=none->ns.length=0:=fun e=>by
 subst e;have:ns.map Ai=[]:=h.row;simpa using this
theorem Pt: ∀(n:Nat) (e:aH) (nm:D) (m:List (Str×Int)) (size:Int) (st:MR) (ns:List aG) (V:Sig),e.wt<=n->ns.length+e.wt<=100000000->0<=size->size+n<=1000000000->NmD nm m->
  BS ib ia is ig a b c d f cm sm gm st ns V->aB prog 112 [.agg [.ptr ib 0,nm,dI size],.agg (Af e)] V fun x U'=>x=.ret (dI ns.length) /\
   ∃st',BS ib ia is ig a b c d f cm sm gm st' (ns++lX cm sm gm e (fun y=>getM 0 y m) size ns.length) U'/\BK ib V st U' st':=by
 intro n
 induction n with
 |zero=>
  intro e nm m size st ns V hx;have:=e.wt_pos;omega
 | succ n ih =>
  intro e nm m size st ns V hx hn iD iX hm hB;obtain⟨w1,w2,gE⟩:=e.wt_le;have gF:nm.flat=true:=by rcases hm.cases with⟨_,_,rfl,_⟩|⟨rfl,_⟩<;>rfl
  simp only[D.flat]at gF;have hz:=hB.zero;have iy:=hB;have iY:ns.length<=100000000:=by omega
  obtain⟨q1,q2,q3,q4,q5,q6⟩:=hB;refine en func112 ntmps112 ?_
  try refine gf q1 ?_ o112 [6]
  refine kR (fun i hi=>?_);have n1:ib≠i:=A3 q1 hi;have n2:ia≠i:=A3 q2 hi;have n3:is≠i:=A3 q3 hi;have n4:ig≠i:=A3 q4 hi;have iG:¬Cf st i:=iy.notrow hi;generalize gj:bndN cm sm gm e.op e.n e.text (fun y=>getM 0 y m)=num
  repeat ((fail_if_success (first|(refine ky (x1:=.seq _ (.block 0 _)) [] (V.set i (.cells [dI e.op,dI num,.av])) ?_ (fun _ hK=>?_))|fail));(refine goX1 trivial ?_))
  refine ky (x1:=.seq _ (.block 0 _)) [] (V.set i (.cells [dI e.op,dI num,.av])) ?_ (fun _ hK=>?_)
  ·refine kO (Ep (az:=[dI e.op,dI num]) (bs:=[]) (d':=sl (cI [])) (w7 ..) (An _ (.inl rfl))) ?_;rw[w9];have d9:=iy.fresh (o:=.cells [dI e.op,dI num,sl (cI [])]) hi;have iq:=(BK.refl ib V st).fresh (o:=.cells [dI e.op,dI num,sl (cI [])]) hi;have o6:(V.set i (.cells [dI e.op,dI num,sl (cI [])])) i=some (.cells [dI e.op,dI num,sl (cI [])]):=w7 ..;generalize fZ:V.set i (.cells ([dI e.op,dI num]++sl (cI [])::[]))=S1;have fZ:V.set i (.cells [dI e.op,dI num,sl (cI [])])=S1:=fZ;rw[fZ]at d9 iq o6;clear fZ;have r1:=d9.env;have r5:=d9.row;have u1:(S1.out (Cf st)) ib=some (.cells [a,b,c,d,mD st ns.length,f,.map ia,.map is,.map ig]):=EH r1 d9.nr;have u6:(S1.out (Cf st)) i=some (.cells [dI e.op,dI num,sl (cI [])]):=EH o6 iG
   try refine gf (gi r1 o6) ?_ (kX 14 o112) [6]
   refine G0 [0,1,2,3,4,5,6,7,8,9,10,11,12,13] [10] (S1.out (Cf st)) (C3 _ _) ?_
   try refine gf (gi u1 u6) ?_ o112 [6]
   refine moRapp (es:=ns.map Ai) (fun st2 S2 gX gO=>?_) (fun j o h=>Ct h) (hm:=r5);obtain⟨v1,v2⟩:=gO _ _ r1 d9.nr;obtain⟨rr,rc,gZ⟩:=gX.ax k7;have gM:=gZ (ns.length+1)
   try refine gf (gi v1 gM) ?_ o112 [6]
   refine BL 7 1 (fun it gx=>?_);obtain⟨i1,i2⟩:=A8 gx;have iH:(ns++[(⟨e.op,num,[]⟩:aG)]).map Ai=ns.map Ai++[[dI e.op,dI num,sl []]]:=by simp
   have iV:BS ib ia is ig a b c d f cm sm gm st2 (ns++[⟨e.op,num,[]⟩]) (S2.set ib (.cells [a,b,c,d,.ax rr 0 (ns.length+1) rc,f,.map ia,.map is,.map ig])):=by
    have hx:∀j o,S1 j=some o->j≠ib->¬Cf st j->(S2.set ib (.cells [a,b,c,d,.ax rr 0 (ns.length+1) rc,f,.map ia,.map is,.map ig])) j=some o:=fun j o hj e8 hr=>by
     rw[w8 _ _ e8];exact(gO j o hj hr).1
    have gr:∀{k l},S1 k=some (.map l)->k≠ib /\ ¬Cf st k:=fun {k l} hk=>⟨Ab hk r1 k7,fun hr=>by obtain⟨cs,hc⟩:=r5.cells hr;rw[hk]at hc;cases hc⟩
    refine⟨by rw[w7,gZ];simp,hx _ _ d9.oa (gr d9.oa).1 (gr d9.oa).2,hx _ _ d9.os (gr d9.os).1 (gr d9.os).2,hx _ _ d9.og (gr d9.og).1 (gr d9.og).2,?_,v2⟩;rw[iH];exact gX.keep fun j x hj hr=>by rw[w8 _ _ fun e=>v2 (by rw[<-e];exact hr)];exact hj
   have ij:BK ib V st (S2.set ib (.cells [a,b,c,d,.ax rr 0 (ns.length+1) rc,f,.map ia,.map is,.map ig])) st2:=fun j o hj e8 hr=>by
    obtain⟨h1,h2⟩:=iq j o hj e8 hr;obtain⟨h3,h4⟩:=gO j o h1 h2;exact⟨k8 e8 h3,h4⟩
   have iU:=iV.fresh (o:=.tail 1 0) gx;have iS:=ij.fresh (o:=.tail 1 0) gx;have iF:((S2.set ib (.cells [a,b,c,d,.ax rr 0 (ns.length+1) rc,f,.map ia,.map is,.map ig])).set it (.tail 1 0)) it=some (.tail 1 0):=w7 ..;have gP:∀o,V it=some o->Cf st it:=fun o h=>cY fun hr=>by rw[(ij it o h i1 hr).1]at gx;cases gx
   refine Yy [2,3,4,5,84,85,111,112,113,114,115,116,117,118,119,120,121,122] (fun (k:Nat) (l:fR) (ms:List aG) (st1:MR) (S1:Sig)=>k<=e.aq.length/\l.length=k/\l++AW (e.aq.drop k) (ns.length+1+ms.length)=AW e.aq (ns.length+1)/\ms++Ha cm sm gm e.op e.text (e.aq.drop k) k (fun y=>getM 0 y m) size (ns.length+1+ms.length)=Ha cm sm gm e.op e.text e.aq 0 (fun y=>getM 0 y m) size (ns.length+1)/\ns.length+1+ms.length+wtL aH.wt (e.aq.drop k)<=100000000/\BS ib ia is ig a b c d f cm sm gm st1 (ns++⟨e.op,num,[]⟩::ms) S1/\BK ib V st S1 st1/\S1 it=some (.tail 1 l.length)) (fun k l _ _ _=>[(86,dI k),(7,.slice (cI l) (.tag it))]) (fun _ _ _ _ S1=>S1) (fun k _ _ _ _=>e.aq.length-k) (0) ([]) ([]) (st2) (_) (by exact⟨k0,rfl,rfl,rfl,by have:=aH.wt_eq e;simp only[cG,dE];omega,iU,iS,iF⟩) (fun k l ms st1 S1 hI=>?_);obtain⟨hk,gN,gk,ga,gB,gJ,gS,o4⟩:=hI
   by_cases d6:k<e.aq.length
   ·rw [A0 d6] at gk ga gB;rw[AW]at gk;rw[Ha]at ga;rw[wtL]at gB;have iW:=gE k d6;have jb:=aH.cnt_le e.aq[k]
    try refine gz ?_ o112 [6]
    refine kR (fun i10 e7=>?_);have gu:=gJ.tail (o:=.defs) o4
    by_cases f8:e.op=9/\k=1
    ·rw[aS f8]at ga;obtain⟨iK,iZ⟩:=f8
     try refine gf (gi iK gF) ?_ o112 [6]
     refine Ad (Wp ib nm m size e.text _ hm ⟨iD,k0⟩) (fun x S2 hr=>?_) (fun x S2 hr=>by obtain⟨_,h,_⟩:=hr;cases h);obtain⟨m',e1,iJ,d8,e2⟩:=hr;cases e1;rw[e2];clear e2 S2;have d8:(fun y=>getM 0 y m')=updE (fun y=>getM 0 y m) e.text size:=funext d8;have gI:=gJ.fresh (o:=.cells [.ptr ib 0,cNum m',dI (size+1)]) e7;have gH:=gS.fresh (o:=.cells [.ptr ib 0,cNum m',dI (size+1)]) e7;have o5:(S1.set i10 (.cells [.ptr ib 0,cNum m',dI (size+1)])) it=some (.tail 1 l.length):=by rw[w8 _ _ (A3 o4 e7)];exact o4
     try refine gz ?_ o112 [6]
     refine Ad (ih e.aq[k] (cNum m') m' (size+1) st1 (ns++⟨e.op,num,[]⟩::ms) _ k0 (by simp only[aO,aV];omega) k0 k0 iJ gI) (fun x S3 hr=>?_);obtain⟨e1,st3,gb,gg⟩:=hr;cases e1;obtain⟨o6,_⟩:=gg _ _ o5 gu.2.1 gu.1;have gD:=gH.trans gg;rw[d8]at gb;have fX:(((ns++(⟨e.op,num,[]⟩:aG)::ms).length:Nat):Int)=((ns.length+1+ms.length:Nat):Int):=by simp only[aO,aV];omega
     have d7:(ns++(⟨e.op,num,[]⟩:aG)::ms).length=ns.length+1+ms.length:=by simp only[aO,aV];omega
     rw[d7]at gb;have gh:=(gb.tail (o:=.tail 1 (l++[((ns.length+1+ms.length:Nat):Int)]).length) o6).2.2
     have gC:BK ib V st (S3.set it (.tail 1 (l++[((ns.length+1+ms.length:Nat):Int)]).length)) st3:=fun j x hj e8 hr=>by
      obtain⟨h1,h2⟩:=gD j x hj e8 hr;exact⟨by rw[w8 _ _ fun e=>hr (by have:=gP x (by rw[<-e];exact hj);rw[e];exact this)];exact h1,h2⟩
     have fY:=H4 (cm:=cm) (sm:=sm) (gm:=gm) e.aq[k] (updE (fun y=>getM 0 y m) e.text size) (size+1) (ns.length+1+ms.length);have f0:Sub (S3.set it (.tail 1 (l++[((ns.length+1+ms.length:Nat):Int)]).length)) (S3.set it (.tail 1 (l.length+1))):=by rw[aO];exact Sub.refl _
     rw[bc,bE]at gh;have gU:WkD (.slice (cI l++[[dI ((ns.length:Int)+((ms.length:Int)+1))]]) (.tag it)) (.slice (cI (l++[((ns.length+1+ms.length:Nat):Int)])) (.tag it)):=B9 (by simp[cI];omega)
     try refine gf (gi o6 fX) ?_ o112 [6]
     exact⟨k+1,l++[((ns.length+1+ms.length:Nat):Int)],ms++lX cm sm gm e.aq[k] (updE (fun y=>getM 0 y m) e.text size) (size+1) (ns.length+1+ms.length),st3,S3.set it (.tail 1 (l++[((ns.length+1+ms.length:Nat):Int)]).length),⟨k0,by rw[aO,gN];rfl,by rw[bc,aO,fY,<-cZ];exact gk,by rw[bc,aO,fY,<-cZ];exact ga,by rw[aO,fY];omega,gh,gC,w7 ..⟩,td1,wkR⟩
    ·rw[aQ f8]at ga;have gI:=gJ.fresh (o:=.cells [.ptr ib 0,nm,dI size]) e7;have gH:=gS.fresh (o:=.cells [.ptr ib 0,nm,dI size]) e7;have o5:(S1.set i10 (.cells [.ptr ib 0,nm,dI size])) it=some (.tail 1 l.length):=by rw[w8 _ _ (A3 o4 e7)];exact o4
     by_cases h9:e.op=9
     ·have i0:k≠1:=fun h=>f8 ⟨h9,h⟩
      try refine gf (gi h9 gF) ?_ o112 [6]
      refine Ad (ih e.aq[k] nm m size st1 (ns++⟨e.op,num,[]⟩::ms) _ k0 (by simp only[aO,aV];omega) k0 k0 hm gI) (fun x S3 hr=>?_);obtain⟨e1,st3,gb,gg⟩:=hr;cases e1;obtain⟨o6,_⟩:=gg _ _ o5 gu.2.1 gu.1;have gD:=gH.trans gg;have fX:(((ns++(⟨e.op,num,[]⟩:aG)::ms).length:Nat):Int)=((ns.length+1+ms.length:Nat):Int):=by simp only[aO,aV];omega
      have d7:(ns++(⟨e.op,num,[]⟩:aG)::ms).length=ns.length+1+ms.length:=by simp only[aO,aV];omega
      rw[d7]at gb;have gh:=(gb.tail (o:=.tail 1 (l++[((ns.length+1+ms.length:Nat):Int)]).length) o6).2.2
      have gC:BK ib V st (S3.set it (.tail 1 (l++[((ns.length+1+ms.length:Nat):Int)]).length)) st3:=fun j x hj e8 hr=>by
       obtain⟨h1,h2⟩:=gD j x hj e8 hr;exact⟨by rw[w8 _ _ fun e=>hr (by have:=gP x (by rw[<-e];exact hj);rw[e];exact this)];exact h1,h2⟩
      have fY:=H4 (cm:=cm) (sm:=sm) (gm:=gm) e.aq[k] (fun y=>getM 0 y m) size (ns.length+1+ms.length);have f0:Sub (S3.set it (.tail 1 (l++[((ns.length+1+ms.length:Nat):Int)]).length)) (S3.set it (.tail 1 (l.length+1))):=by rw[aO];exact Sub.refl _
      rw[bc,bE]at gh;have gU:WkD (.slice (cI l++[[dI ((ns.length:Int)+((ms.length:Int)+1))]]) (.tag it)) (.slice (cI (l++[((ns.length+1+ms.length:Nat):Int)])) (.tag it)):=B9 (by simp[cI];omega)
      try refine gf (gi o6 fX) ?_ o112 [6]
      exact⟨k+1,l++[((ns.length+1+ms.length:Nat):Int)],ms++lX cm sm gm e.aq[k] (fun y=>getM 0 y m) size (ns.length+1+ms.length),st3,S3.set it (.tail 1 (l++[((ns.length+1+ms.length:Nat):Int)]).length),⟨k0,by rw[aO,gN];rfl,by rw[bc,aO,fY,<-cZ];exact gk,by rw[bc,aO,fY,<-cZ];exact ga,by rw[aO,fY];omega,gh,gC,w7 ..⟩,td1,wkR⟩
     ·try refine gf gF ?_ o112 [6]
      refine Ad (ih e.aq[k] nm m size st1 (ns++⟨e.op,num,[]⟩::ms) _ k0 (by simp only[aO,aV];omega) k0 k0 hm gI) (fun x S3 hr=>?_);obtain⟨e1,st3,gb,gg⟩:=hr;cases e1;obtain⟨o6,_⟩:=gg _ _ o5 gu.2.1 gu.1;have gD:=gH.trans gg;have fX:(((ns++(⟨e.op,num,[]⟩:aG)::ms).length:Nat):Int)=((ns.length+1+ms.length:Nat):Int):=by simp only[aO,aV];omega
      have d7:(ns++(⟨e.op,num,[]⟩:aG)::ms).length=ns.length+1+ms.length:=by simp only[aO,aV];omega
      rw[d7]at gb;have gh:=(gb.tail (o:=.tail 1 (l++[((ns.length+1+ms.length:Nat):Int)]).length) o6).2.2
      have gC:BK ib V st (S3.set it (.tail 1 (l++[((ns.length+1+ms.length:Nat):Int)]).length)) st3:=fun j x hj e8 hr=>by
       obtain⟨h1,h2⟩:=gD j x hj e8 hr;exact⟨by rw[w8 _ _ fun e=>hr (by have:=gP x (by rw[<-e];exact hj);rw[e];exact this)];exact h1,h2⟩
      have fY:=H4 (cm:=cm) (sm:=sm) (gm:=gm) e.aq[k] (fun y=>getM 0 y m) size (ns.length+1+ms.length);have f0:Sub (S3.set it (.tail 1 (l++[((ns.length+1+ms.length:Nat):Int)]).length)) (S3.set it (.tail 1 (l.length+1))):=by rw[aO];exact Sub.refl _
      rw[bc,bE]at gh;have gU:WkD (.slice (cI l++[[dI ((ns.length:Int)+((ms.length:Int)+1))]]) (.tag it)) (.slice (cI (l++[((ns.length+1+ms.length:Nat):Int)])) (.tag it)):=B9 (by simp[cI];omega)
      try refine gf (gi o6 fX) ?_ o112 [6]
      exact⟨k+1,l++[((ns.length+1+ms.length:Nat):Int)],ms++lX cm sm gm e.aq[k] (fun y=>getM 0 y m) size (ns.length+1+ms.length),st3,S3.set it (.tail 1 (l++[((ns.length+1+ms.length:Nat):Int)]).length),⟨k0,by rw[aO,gN];rfl,by rw[bc,aO,fY,<-cZ];exact gk,by rw[bc,aO,fY,<-cZ];exact ga,by rw[aO,fY];omega,gh,gC,w7 ..⟩,td1,wkR⟩
   ·rw[A1 d6,AW,br]at gk;rw[A1 d6,Ha,br]at ga;obtain⟨t1,t2,t3,t4,t5,t6⟩:=gJ;rcases st1 with _|⟨r,rc,rest⟩
    ·have:(ns++(⟨e.op,num,[]⟩:aG)::ms).map Ai=[]:=t5;simp at this
    ·have gK:S1 r=some (.cells (((ns++(⟨e.op,num,[]⟩:aG)::ms).map Ai).flatten++rest))/\(((ns++(⟨e.op,num,[]⟩:aG)::ms).map Ai).flatten++rest).length=rc*3/\((ns++(⟨e.op,num,[]⟩:aG)::ms).map Ai).length<=rc/\_:=t5
     have d8:S1 ib=some (.cells [a,b,c,d,.ax r 0 (ns.length+1+ms.length) rc,f,.map ia,.map is,.map ig]):=by
      rw[t1];show some (kM.cells [a,b,c,d,.ax r 0 (ns++(⟨e.op,num,[]⟩:aG)::ms).length rc,f,.map ia,.map is,.map ig])=_;rw[show(ns++(⟨e.op,num,[]⟩:aG)::ms).length=ns.length+1+ms.length by simp only[aO,aV];omega]
     obtain⟨w1,w2,w3,w4⟩:=gK;have gw:(ns.map Ai).flatten.length=ns.length*3:=by rw[DT (sz:=3) k7];simp
     have g8:∀q:fR,((ns++(⟨e.op,num,q⟩:aG)::ms).map Ai).flatten++rest=(ns.map Ai).flatten++[dI e.op,dI num]++sl (cI q)::((ms.map Ai).flatten++rest):=fun q=>by simp
     have gA:((ns++(⟨e.op,num,[]⟩:aG)::ms).map Ai).flatten++rest=(ns.map Ai).flatten++dI e.op::dI num::sl (cI [])::((ms.map Ai).flatten++rest):=by simp
     rw[gA]at w1 w2;clear gA;generalize hA:(ns.map Ai).flatten=A at*;generalize hM:(ms.map Ai).flatten=M at*;have ja:A.length+(3+(M.length+rest.length))=rc*3:=by simp only[aO,aV]at w2;omega
     have w3':=w3;rw[aY,aO,aV]at w3;have iC:List.take (ns.length*3+2) (A++dI e.op::dI num::sl []::(M++rest))=A++[dI e.op,dI num]:=by rw[<-gw,List.take_length_add_append];rfl
     have iM:List.drop (ns.length*3+2+1) (A++dI e.op::dI num::sl []::(M++rest))=M++rest:=by rw[<-gw,cZ,fI];rfl
     try refine gf (gi d8 w1) ?_ (kX 25 o112) [6]
     refine mixL (id:=25) [0,1,2,3,4,5,6,7,8,9,10] [8] ?_
     repeat ((fail_if_success (first|(refine celW (List.take (ns.length*3+2) (A++dI e.op::dI num::sl []::(M++rest))) (List.drop (ns.length*3+2+1) (A++dI e.op::dI num::sl []::(M++rest))) (.slice (cI l) .clip) (sl (cI l)) ?_ (w7 ..) (AO _ _))|fail));(refine goX1 (gi d8 w1) ?_))
     refine celW (List.take (ns.length*3+2) (A++dI e.op::dI num::sl []::(M++rest))) (List.drop (ns.length*3+2+1) (A++dI e.op::dI num::sl []::(M++rest))) (.slice (cI l) .clip) (sl (cI l)) ?_ (w7 ..) (AO _ _);rw[iC,iM,w9];have iQ:lX cm sm gm e (fun y=>getM 0 y m) size ns.length=⟨e.op,num,l⟩::ms:=by rw[bndE_eq,gj,<-gk,<-ga]
     have g7:(ns++(⟨e.op,num,l⟩:aG)::ms).length=ns.length+1+ms.length:=by simp only[aO,aV];omega
     have gL:∀{j x},S1 j=some (.map x)->j≠r:=fun hj=>Ab hj w1 k7;have iP:ib≠r:=fun h=>t6 h
     have iv:BS ib ia is ig a b c d f cm sm gm (some (r,rc,rest)) (ns++⟨e.op,num,l⟩::ms) (S1.set r (.cells (A++[dI e.op,dI num]++sl (cI l)::(M++rest)))):=by
      refine⟨?_,k8 (gL t2) t2,k8 (gL t3) t3,k8 (gL t4) t4,⟨?_,?_,?_,?_⟩,t6⟩
      ·rw[w8 _ _ iP,d8,<-g7];rfl
      ·rw[w7,g8 l]
      ·rw[g8 l];simp only[aO,aV,cG];omega
      ·rw[aY,g7];omega
      ·intro z hz;obtain⟨x,_,rfl⟩:=bD.1 hz;rfl
     have iR:BK ib V st (S1.set r (.cells (A++[dI e.op,dI num]++sl (cI l)::(M++rest)))) (some (r,rc,rest)):=fun j x hj e8 hr=>by
      obtain⟨h1,h2⟩:=gS j x hj e8 hr;exact⟨by rw[w8 _ _ fun e=>h2 e];exact h1,h2⟩
     rw[<-iQ]at iv
     try refine gz ?_ o112 [6]
     exact kE (U':=_) ⟨rfl,_,iv,iR⟩
  ·rcases hm.cases with⟨ks,vs,rfl,gT⟩|⟨rfl,gT⟩
   ·repeat' first|refine gf (gi gT (gi q1 (gi q2 (gi q3 q4)))) ?_ o112 [6]|apply gy<;>intro hh
    all_goals (refine kO ?_ hK;clear hK ih;refine Aw k7 (BG ?_);rw[<-gj];unfold bndN;simp[*];done)
   ·repeat' first|refine gf (gi q1 (gi q2 (gi q3 q4))) ?_ o112 [6]|apply gy<;>intro hh
    all_goals (refine kO ?_ hK;clear hK ih;refine Aw k7 (BG ?_);rw[<-gj];unfold bndN;simp[*];done)
end
def D6(t:Str):fP->Nat->Int->Int
 |[],_,n=>n
 |x::r,k,n=>D6 t r (k+1) (if x=t then k else n)
def Dt(names am au:fP)(o n:Int)(t:Str)(own:fP):Int:=
 if o=3 then D6 t own 0 n else if o=4\/o=7 then idxG t am 0 else if o=5 then idxG t au 0 else if o=6\/o=8 then lD names t else n
mutual
def CB(names am au:fP):aH->fP->Nat->List aG
 |.mk o n t l,own,k=>⟨o,Dt names am au o n t own,AW l (k+1)⟩::Ce names am au o t l 0 own (k+1)
def Ce(names am au:fP)(o:Int)(t:Str):List aH->Nat->fP->Nat->List aG
 |[],_,_,_=>[]
 |x::r,i,own,k=>(if o=9/\i=1 then CB names am au x (own++[t]) k else CB names am au x own k)++Ce names am au o t r (i+1) own (k+x.cnt)
end
section
variable {names am au:fP}
mutual
theorem BR: ∀(e:aH) (own:fP) (k:Nat),(CB names am au e own k).length=e.cnt
 |.mk o n t l,own,k=>by
  rw[CB,aV,ML o t l,aH.cnt,allE];simp
theorem ML(o:Int)(t:Str): ∀(l:List aH) (i:Nat) (own:fP) (k:Nat),(Ce names am au o t l i own k).length=(As l).length
 |[],_,_,_=>by rw[Ce,As];rfl
 |x::r,i,own,k=>by
  rw[Ce,As,aO,aO,ML o t r];split
  ·rw[BR x];rfl
  ·rw[BR x];rfl
end
end
structure NdS(ib:Nat)(a b c d f:D)(names am au:fP)(st:MR)(ns:List aG)(V:Sig):Prop where
 env:V ib=some (.cells [a,b,c,d,mD st ns.length,f,sl (cS names),sl (cS am),sl (cS au)])
 row:lS V 3 st (ns.map Ai)
 nr:¬Cf st ib
section
variable {ib:Nat}{a b c d f:D}{names am au:fP}{st:MR}{ns:List aG}{V:Sig}
theorem NdS.set(h:NdS ib a b c d f names am au st ns V){k:Nat}{o:kM}(h1:ib≠k)(h5:¬Cf st k):NdS ib a b c d f names am au st ns (V.set k o):=
 ⟨k8 h1 h.env,h.row.keep fun j x hj hr=>by rw[w8 _ _ fun e=>h5 (by rw[<-e];exact hr)];exact hj,h.nr⟩
theorem NdS.notrow(h:NdS ib a b c d f names am au st ns V){k:Nat}(hk:V k=none): ¬Cf st k:=fun hr=>by
 obtain⟨cs,hc⟩:=h.row.cells hr;rw[hk]at hc;cases hc
theorem NdS.fresh(h:NdS ib a b c d f names am au st ns V){k:Nat}{o:kM}(hk:V k=none):NdS ib a b c d f names am au st ns (V.set k o):=
 h.set (A3 h.env hk) (h.notrow hk)
theorem NdS.tail(h:NdS ib a b c d f names am au st ns V){k s n:Nat}{o:kM}(hk:V k=some (.tail s n)): ¬Cf st k/\k≠ib/\NdS ib a b c d f names am au st ns (V.set k o):=
 have hr:¬Cf st k:=fun hr=>by obtain⟨cs,hc⟩:=h.row.cells hr;rw[hk]at hc;cases hc
 ⟨hr,Ab hk h.env k7,h.set (Ab h.env hk k7) hr⟩
theorem NdS.zero(h:NdS ib a b c d f names am au st ns V):st=none->ns.length=0:=fun e=>by
 subst e;have:ns.map Ai=[]:=h.row;simpa using this
end
mutual
def l9(Q:aH->Prop):aH->Prop
 |.mk o n t k=>Q (.mk o n t k)/\Dd Q k
def Dd(Q:aH->Prop):List aH->Prop
 |[]=>True
 |x::r=>l9 Q x/\Dd Q r
end
mutual
def argE(gm:List (Str×Int)):aH->fR->fR
 |.mk o _ t k,a=>Fo gm k (if o=5 then a.set (getM 0 t gm).toNat k.length else a)
def Fo(gm:List (Str×Int)):List aH->fR->fR
 |[],a=>a
 |x::r,a=>Fo gm r (argE gm x a)
end
def XO(gm:List (Str×Int))(e:aH)(a:fR):argE gm e a=Fo gm e.aq (if e.op=5 then a.set (getM 0 e.text gm).toNat e.aq.length else a):=by cases e;rw[argE];rfl
def AllX_eq(Q:aH->Prop)(e:aH):l9 Q e ↔ Q e/\Dd Q e.aq:=by cases e;rw[l9];rfl
mutual
def DO(gm:List (Str×Int)): ∀(e:aH) (a:fR),(argE gm e a).length=a.length
 |.mk o n t k,a=>by rw[argE,Q1 gm k];split<;>simp
def Q1(gm:List (Str×Int)): ∀(l:List aH) (a:fR),(Fo gm l a).length=a.length
 |[],a=>by rw[Fo]
 |x::r,a=>by rw[Fo,Q1 gm r,DO gm x]
end
def QA(gm:List (Str×Int))(N:Nat)(x:aH):Prop:=x.op=5->0<=getM 0 x.text gm/\getM 0 x.text gm<N
def Mk(gm:List (Str×Int))(N ia r ig i6:Nat): ∀(n:Nat) (e:aH) (a:fR) (V:Sig),e.wt<=n->n<=1073741824->l9 (QA gm N) e->a.length=N->N<=1073741824->
  V ia=some (.cells [.ax r 0 N N])->V r=some (.cells (a.map dI))->V ig=some (.map (eSN gm))->V i6=some (.cells [.func (.func 193) [] [.ptr ia 0,.aw [.map ig] 0,.ptr i6 0]])->ia≠r->i6≠r->
  aB prog 193 [.agg (Af e),.ptr ia 0,.aw [.map ig] 0,.ptr i6 0] V fun x U'=>x=.ret (.tup [])/\U'=V.set r (.cells ((argE gm e a).map dI)):=by
 intro n
 induction n with
 |zero=>
  intro e a V hx;have:=e.wt_pos;omega
 | succ n ih =>
  intro e a V hx hn hQ gG hN o1 o2 o3 o4 d1 d2;obtain⟨w1,w2,gE⟩:=e.wt_le;obtain⟨q1,q2⟩:=(AllX_eq _ _).1 hQ;have d3:ig≠r:=Ab o3 o2 k7;refine en func193 ntmps193 ?_
  by_cases h5:e.op=5
  ·obtain⟨p1,p2⟩:=q1 h5;obtain⟨p,hp⟩:∃p:Nat,getM 0 e.text gm=p:=⟨(getM 0 e.text gm).toNat,k0⟩;have iE:p<N:=by omega
   obtain⟨A,hA⟩:∃A,A=a.set p e.aq.length:=⟨_,rfl⟩;have gw:A.length=N:=by rw[hA,cg];exact gG
   have gQ:argE gm e a=Fo gm e.aq A:=by rw[XO,aS h5,hA,hp];rfl
   have f0:Sub (V.set r (.cells (A.map dI))) (V.set r (.cells (List.take p (List.map dI a)++D.int IntKind.i64 e.aq.length::List.drop (p+1) (List.map dI a)))):=by
    rw[hA,eZ,cO,aS (by rw[aY];omega)];exact Sub.refl _
   refine gf (gi o1 (gi o2 (gi o3 (gi o4 (gi h5 hp))))) ?_;refine AG [3,20,21] (fun (k:Nat) (b:fR)=>k<=e.aq.length/\b.length=N/\Fo gm e.aq A=Fo gm (e.aq.drop k) b/\Dd (QA gm N) (e.aq.drop k)) (fun k _=>[(22,dI k)]) (fun _ b=>V.set r (.cells (b.map dI))) (fun k _=>e.aq.length-k) (0) (A) (by exact⟨k0,gw,rfl,q2⟩) (fun k b hI=>?_);obtain⟨hk,hb,hR,go⟩:=hI
   by_cases d6:k<e.aq.length
   ·rw[A0 d6,Fo]at hR;rw[A0 d6,Dd]at go;have u1:(V.set r (.cells (b.map dI))) ia=some (.cells [.ax r 0 N N]):=by rw[w8 _ _ d1];exact o1
    have u3:(V.set r (.cells (b.map dI))) ig=some (.map (eSN gm)):=by rw[w8 _ _ d3];exact o3
    have u4:(V.set r (.cells (b.map dI))) i6=some (.cells [.func (.func 193) [] [.ptr ia 0,.aw [.map ig] 0,.ptr i6 0]]):=by rw[w8 _ _ d2];exact o4
    refine gf o4 ?_;refine Ad (ih e.aq[k] b _ (by have:=gE k d6;omega) k0 go.1 hb hN u1 (w7 ..) u3 u4 d1 d2) (fun d U' hr=>?_);obtain⟨g1,rfl⟩:=hr;cases g1;refine gz ?_;exact⟨k+1,argE gm e.aq[k] b,⟨k0,by rw[DO];exact hb,hR,go.2⟩,td1,wkR⟩
   ·rw[A1 d6,Fo]at hR;refine gz ?_;exact EA (U':=V.set r (.cells ((argE gm e a).map dI))) ⟨rfl,rfl⟩ (by rw[gQ,hR];exact Sub.refl _)
  ·obtain⟨A,hA⟩:∃A,A=a:=⟨_,rfl⟩;have gQ:argE gm e a=Fo gm e.aq A:=by rw[XO,aQ h5,hA]
   have gw:A.length=N:=by rw[hA];exact gG
   have f0:Sub (V.set r (.cells (A.map dI))) V:=by rw[hA,Sig.set_self _ o2];exact Sub.refl _
   refine gf (gi o1 (gi o2 (gi o3 (gi o4 h5)))) ?_;refine AG [3,20,21] (fun (k:Nat) (b:fR)=>k<=e.aq.length/\b.length=N/\Fo gm e.aq A=Fo gm (e.aq.drop k) b/\Dd (QA gm N) (e.aq.drop k)) (fun k _=>[(22,dI k)]) (fun _ b=>V.set r (.cells (b.map dI))) (fun k _=>e.aq.length-k) (0) (A) (by exact⟨k0,gw,rfl,q2⟩) (fun k b hI=>?_);obtain⟨hk,hb,hR,go⟩:=hI
   by_cases d6:k<e.aq.length
   ·rw[A0 d6,Fo]at hR;rw[A0 d6,Dd]at go;have u1:(V.set r (.cells (b.map dI))) ia=some (.cells [.ax r 0 N N]):=by rw[w8 _ _ d1];exact o1
    have u3:(V.set r (.cells (b.map dI))) ig=some (.map (eSN gm)):=by rw[w8 _ _ d3];exact o3
    have u4:(V.set r (.cells (b.map dI))) i6=some (.cells [.func (.func 193) [] [.ptr ia 0,.aw [.map ig] 0,.ptr i6 0]]):=by rw[w8 _ _ d2];exact o4
    refine gf o4 ?_;refine Ad (ih e.aq[k] b _ (by have:=gE k d6;omega) k0 go.1 hb hN u1 (w7 ..) u3 u4 d1 d2) (fun d U' hr=>?_);obtain⟨g1,rfl⟩:=hr;cases g1;refine gz ?_;exact⟨k+1,argE gm e.aq[k] b,⟨k0,by rw[DO];exact hb,hR,go.2⟩,td1,wkR⟩
   ·rw[A1 d6,Fo]at hR;refine gz ?_;exact EA (U':=V.set r (.cells ((argE gm e a).map dI))) ⟨rfl,rfl⟩ (by rw[gQ,hR];exact Sub.refl _)
def argM(gm:List (Str×Int)):List aK->fR->fR
 |[],a=>a
 |m::r,a=>argM gm r (argE gm m.body (a.set (getM 0 m.name gm).toNat m.params.length))
def HA(gm:List (Str×Int))(f:aL):fR:=argE gm f.kH (argM gm f.k9 (List.replicate gm.length 0))
def JJ(gm:List (Str×Int)): ∀(l:List aK) (a:fR),(argM gm l a).length=a.length
 |[],a=>rfl
 |m::r,a=>by rw[argM,JJ gm r,DO,cg]
def TN(f:aL)(gm:List (Str×Int))(ig:Nat)(V:Sig)(hw:f.wt<=1073741824)(hg:gm.length<=1073741824)(o3:V ig=some (.map (eSN gm)))
  (hM:∀m∈f.k9,(0<=getM 0 m.name gm/\getM 0 m.name gm<gm.length)/\l9 (QA gm gm.length) m.body) (hA:l9 (QA gm gm.length) f.kH) :
  aB prog 104 [.agg (AS f),.map ig] V fun x U'=> ∃r,V r=none/\x=.ret (.ax r 0 gm.length gm.length)/\U'=V.set r (.cells ((HA gm f).map dI)):=by
 obtain⟨p1,p2,p3,p4,p5⟩:=f.wt_le;have iL:(eSN gm).length=gm.length:=by simp[eSN,eM]
 refine en func104 ntmps104 ?_;refine gf (gi o3 iL) ?_ [] [5,6];refine V2 (k:=gm.length) (c:=gm.length) (z:=[dI 0]) (sz:=1) (fun r hr hm=>?_)
 have iI:mS V (some (r,gm.length,(List.replicate (gm.length-gm.length) [dI 0]).flatten)) (List.replicate gm.length [dI 0])=V.set r (.cells ((List.replicate gm.length (0:Int)).map dI)):=by
  have h1:(List.replicate gm.length [dI 0]).flatten=(List.replicate gm.length (0:Int)).map dI:=by
   rw[List.map_replicate]
   induction gm.length with
   |zero=>rfl
   |succ n ih=>rw[dn,cT,ih,dn];rfl
  simp only[mS,eh,fm,eU,br,h1]
 rw[iI];generalize iz:List.replicate gm.length (0:Int)=a0;have gG:a0.length=gm.length:=by rw[<-iz];simp
 refine kR (fun ia gv=>?_);refine gz ?_ [] [5,6];refine kR (fun i6 gc=>?_);refine gz ?_ [] [5,6];have n1:ia≠r:=fun e=>by rw[e,w7]at gv;cases gv
 have n2:i6≠ia:=fun e=>by rw[e,w7]at gc;cases gc
 have n3:i6≠r:=fun e=>by rw[e,w8 _ _ (aZ n1),w7]at gc;cases gc
 have n4:ig≠r:=fun e=>by rw[e,hr]at o3;cases o3
 have n5:ig≠ia:=fun e=>by rw[<-e,w8 _ _ n4,o3]at gv;cases gv
 have n6:ig≠i6:=fun e=>by rw[<-e,w8 _ _ n5,w8 _ _ n4,o3]at gc;cases gc
 generalize fZ:((V.set r _).set ia _).set i6 _=S1;have q1:S1 ia=some (.cells [.ax r 0 gm.length gm.length]):=by rw[<-fZ,w8 _ _ (aZ n2),w7]
 have q2:S1 r=some (.cells (a0.map dI)):=by rw[<-fZ,w8 _ _ (aZ n3),w8 _ _ (aZ n1),w7]
 have q3:S1 ig=some (.map (eSN gm)):=by rw[<-fZ,w8 _ _ n6,w8 _ _ n5,w8 _ _ n4];exact o3
 have q4:S1 i6=some (.cells [.func (.func 193) [] [.ptr ia 0,.aw [.map ig] 0,.ptr i6 0]]):=by rw[<-fZ,w7]
 have gR:∀b:fR,Sub (V.set r (.cells (b.map dI))) (S1.set r (.cells (b.map dI))):=fun b j x hj=>by
  by_cases e:j=r
  ·rw[e,w7]at hj⊢; exact hj
  ·rw[w8 _ _ e]at hj⊢;have z1:j≠ia:=fun e2=>by rw[<-e2,w8 _ _ e,hj]at gv;cases gv
   have z2:j≠i6:=fun e2=>by rw[<-e2,w8 _ _ z1,w8 _ _ e,hj]at gc;cases gc
   rw[<-fZ,w8 _ _ z2,w8 _ _ z1,w8 _ _ e];exact hj
 have gW:Sub (S1.set r (.cells (a0.map dI))) S1:=by rw[Sig.set_self _ q2];exact Sub.refl _
 have u1:∀X,(S1.set r X) ia=some (.cells [.ax r 0 gm.length gm.length]):=fun X=>by rw[w8 _ _ n1];exact q1
 have u3:∀X,(S1.set r X) ig=some (.map (eSN gm)):=fun X=>by rw[w8 _ _ n4];exact q3
 have u4:∀X,(S1.set r X) i6=some (.cells [.func (.func 193) [] [.ptr ia 0,.aw [.map ig] 0,.ptr i6 0]]):=fun X=>by rw[w8 _ _ n3];exact q4
 refine AG [2,3,4,5,6,14,15,34,35,36,37,38] (fun (k:Nat) (b:fR)=>k<=f.k9.length/\b.length=gm.length/\argM gm f.k9 a0=argM gm (f.k9.drop k) b) (fun k _=>[(16,dI k)]) (fun _ b=>S1.set r (.cells (b.map dI))) (fun k _=>f.k9.length-k) (0) (a0) (by exact⟨k0,gG,rfl⟩) (fun k b hI=>?_);obtain⟨hk,hb,hR⟩:=hI
 by_cases d6:k<f.k9.length
 ·rw[A0 d6,argM]at hR;obtain⟨⟨g1,g2⟩,g3⟩:=hM _ (aR d6);obtain⟨p,hp⟩:∃p:Nat,getM 0 f.k9[k].name gm=p:=⟨(getM 0 f.k9[k].name gm).toNat,k0⟩;have iE:p<gm.length:=by omega
  have iA:=p5 k d6;have iB:f.k9[k].body.wt<=1073741824/\f.k9[k].params.length<=1073741824:=by have:=iA;unfold aK.wt at this;have:=Bc f.k9[k].params;omega
  have iO:(List.take p (List.map dI b)++D.int IntKind.i64 f.k9[k].params.length::List.drop (p+1) (List.map dI b))=(b.set p f.k9[k].params.length).map dI:=by
   rw[eZ,cO,aS (by rw[aY];omega)]
  rw[hp]at hR;refine gf (gi q1 (gi q3 (gi q4 (gi hp iO)))) ?_ [] [5,6];refine Ad (Mk gm gm.length ia r ig i6 _ f.k9[k].body (b.set p f.k9[k].params.length) _ (bn _) iB.1 g3 (by rw[cg];exact hb) hg (u1 _) (by rw[w7,eZ]) (u3 _) (u4 _) n1 n3) (fun d U' hr=>?_) (fun d U' hr=>by cases hr.1);obtain⟨e1,rfl⟩:=hr;cases e1;refine gz ?_ [] [5,6];exact⟨k+1,argE gm f.k9[k].body (b.set p f.k9[k].params.length),⟨k0,by rw[DO,cg];exact hb,hR⟩,td1,wkR⟩
 ·rw[A1 d6,argM]at hR;refine gf (gi q1 q4) ?_ [] [5,6];refine Ad (Mk gm gm.length ia r ig i6 _ f.kH b _ (bn _) k0 hA hb hg (u1 _) (w7 ..) (u3 _) (u4 _) n1 n3) (fun d U' hr=>?_);obtain⟨e1,rfl⟩:=hr;cases e1;refine gf q1 ?_ [] [5,6];refine kE (U':=V.set r (.cells ((HA gm f).map dI))) ⟨r,hr,rfl,rfl⟩ ?_;rw[w9];unfold HA;rw[iz,hR];exact gR _
section
variable {ops:Array Oper}{n N:Nat}{ro:Option Nat}{S0:Sig}{Q:DX->St->Prop}{df:List DDf}{γ Sr:List (Nat×D)}{V:Sig}{t:Nat}{ty:TypeId}{pos:String}{after:Array Edge}{d:D}
theorem moRd{op:Op}{l:List (Bool×Oper)}(h:MO prog ro n ops N S0 Q df l ((t,d)::γ) V)(hd:kT tab Sr V op=some d)(hC:Sub S0 V)(hr:F2 op=true:=by rfl)(hl:A7 γ (Ac op.operands.toList)=some Sr:=by exact tdR)(gV:decide (t<n)=true:=by exact tdR):
  MO prog ro n ops N S0 Q df ((true,⟨some t,op,ty,pos,after,none⟩)::l) γ V:=
 mo1 (fun U2 hx=>Im Ag hr rfl (by rw[BO hx];exact(BO (CK hl)) ▸ hd) gV (AU ⟨rfl,by simp only[putD,Aa,bI];exact⟨hC,h⟩⟩)) gV
end
def AZ(f:aL):List (Str×Int):=putM Gc 2 (putM wInt 1 (putM wAny 0 (l8 (f.ak.map (·.name)) 3 [])))
def Bd(f:aL):List (Str×Int):=l8 (AT f) 0 []
def kG(f:aL):fP:=(Bj f).1.map (·.1)
def AI(f:aL):List (Str×Int):=l8 (kG f) 0 []
def EB(m:aK):Str->Int:=fun y=>getM 0 y (l8 m.params 0 [])
def Is(cm sm gm:List (Str×Int)):List aK->Nat->List aG
 |[],_=>[]
 |m::r,k=>lX cm sm gm m.body (EB m) m.params.length k++Is cm sm gm r (k+m.body.cnt)
def bndMM(cm sm gm:List (Str×Int)):List aK->Nat->List aF
 |[],_=>[]
 |m::r,k=>⟨m.kind,getM 0 m.name gm,bndF cm sm (EB m) m.kJ,k⟩::bndMM cm sm gm r (k+m.body.cnt)
def Ae(f:aL):aD:=
 ⟨f.ak.map (FT (AZ f) (Bd f)),(AT f).length,HA (AI f) f,bndMM (AZ f) (Bd f) (AI f) f.k9 0,
  Is (AZ f) (Bd f) (AI f) f.k9 0++lX (AZ f) (Bd f) (AI f) f.kH (fun _=>0) 0 (Is (AZ f) (Bd f) (AI f) f.k9 0).length,(Is (AZ f) (Bd f) (AI f) f.k9 0).length⟩
def Js: ∀(l:fP) (b:Int) (m:List (Str×Int)) (s:Str),(s∈l->b<=getM 0 s (l8 l b m)/\getM 0 s (l8 l b m)<b+l.length)/\(s∉l->getM 0 s (l8 l b m)=getM 0 s m)
 |[],b,m,s=>by simp[l8]
 | x::r,b,m,s=>by
  obtain⟨h1,h2⟩:=Js r (b+1) (putM x b m) s;rw[l8];refine⟨fun h=>?_,fun h=>?_⟩
  ·by_cases hr:s∈r
   ·have:=h1 hr;simp only[aV];omega
   ·rw[h2 hr,Ck];have:s=x:=(be.1 h).resolve_right hr;rw[aS this];simp only[aV];omega
  ·rw[be,dX]at h;rw[h2 h.2,Ck,aQ h.1]
def Rh: ∀(l:fP) (b:Int) (m:List (Str×Int)),l.Nodup->(∀s∈l,hasM s m=false)->(l8 l b m).length=m.length+l.length
 |[],b,m,_,_=>by simp[l8]
 | x::r,b,m,hn,hm=>by
  rw[cE]at hn;rw[l8,Rh r _ _ hn.2 fun s hs=>?_,Nb x b m (hm x k7)]
  ·simp only[aO,aV,cG];omega
  ·rw[Ry,hm s (by simp[hs])];have:s≠x:=fun e=>hn.1 (e ▸ hs);simp[this]
def Hd: ∀(l:fP) (b:Int) (m:List (Str×Int)),(m.map (·.1)).Nodup->((l8 l b m).map (·.1)).Nodup
 |[],_,m,h=>h
 |x::r,b,m,h=>Hd r _ _ (Ke x b h)
def Oh(name:Str)(n:Int)(s:kZ)(h:(s.1.map (·.1)).Nodup):((l5 name n s).1.map (·.1)).Nodup/\name∈(l5 name n s).1.map (·.1) /\ ∀x∈s.1.map (·.1),x∈(l5 name n s).1.map (·.1):=by
 unfold l5;split
 ·rename_i hh;exact⟨h,(FE _ _).1 hh,fun x hx=>hx⟩
 ·rename_i hh;simp only[bL,bg,cq];refine⟨dk.2 ⟨h,k7,fun a ha b hb e=>?_⟩,k7,fun x hx=>by simp[hx]⟩;simp only[bq]at hb;exact hh ((FE _ _).2 (by rw[<-hb,<-e];exact ha))
def CallsIn(ks:fP)(x:aH):Prop:=x.op=5->x.text∈ks
mutual
def Fq{Q R:aH->Prop}(h:∀x,Q x->R x): ∀e,l9 Q e->l9 R e
 |.mk o n t k,he=>by rw[l9]at he⊢; exact⟨h _ he.1,MS h k he.2⟩
def MS{Q R:aH->Prop}(h:∀x,Q x->R x): ∀l,Dd Q l->Dd R l
 |[],_=>by rw[Dd];trivial
 |x::r,he=>by rw[Dd]at he⊢; exact⟨Fq h x he.1,MS h r he.2⟩
end
mutual
def Vn: ∀(e:aH) (s:kZ),(s.1.map (·.1)).Nodup->((genE e s).1.map (·.1)).Nodup/\(∀x∈s.1.map (·.1),x∈(genE e s).1.map (·.1))/\l9 (CallsIn ((genE e s).1.map (·.1))) e
 | .mk o n t k,s,h=>by
  rw[genE,l9]
  by_cases h5:o=5
  ·rw[aS h5];obtain⟨a1,a2,a3⟩:=Oh t k.length s h;obtain⟨b1,b2,b3⟩:=GT k _ a1;exact⟨b1,fun x hx=>b2 x (a3 x hx),fun _=>b2 _ a2,b3⟩
  ·rw[aQ h5];obtain⟨b1,b2,b3⟩:=GT k _ h;exact⟨b1,b2,fun h=>absurd h h5,b3⟩
def GT: ∀(l:List aH) (s:kZ),(s.1.map (·.1)).Nodup->((AV l s).1.map (·.1)).Nodup/\(∀x∈s.1.map (·.1),x∈(AV l s).1.map (·.1))/\Dd (CallsIn ((AV l s).1.map (·.1))) l
 |[],s,h=>by rw[AV,Dd];exact⟨h,fun _ h=>h,trivial⟩
 |x::r,s,h=>by
  rw[AV,Dd];obtain⟨a1,a2,a3⟩:=Vn x s h;obtain⟨b1,b2,b3⟩:=GT r _ a1;exact⟨b1,fun y hy=>b2 y (a2 y hy),Fq (fun y hq h5=>b2 _ (hq h5)) x a3,b3⟩
end
def Oz: ∀(l:List aK) (s:kZ),(s.1.map (·.1)).Nodup->((metG l s).1.map (·.1)).Nodup/\(∀x∈s.1.map (·.1),x∈(metG l s).1.map (·.1)) /\ ∀m∈l,m.name∈(metG l s).1.map (·.1)
 |[],s,h=>⟨h,fun _ h=>h,k7⟩
 |m::r,s,h=>by
  obtain⟨a1,a2,a3⟩:=Oh m.name m.params.length s h;obtain⟨b1,b2,b3⟩:=Oz r _ a1;rw[metG];refine⟨b1,fun x hx=>b2 x (a3 x hx),fun y hy=>?_⟩;rcases be.1 hy with rfl|hy
  ·exact b2 _ a2
  ·exact b3 y hy
def Iv{Q:aH->Prop}: ∀(l:List aH),Dd Q l->∀x∈l,l9 Q x
 |[],_,x,hx=>by simp at hx
 |y::r,h,x,hx=>by
  rw[Dd]at h;rcases be.1 hx with rfl|hx
  ·exact h.1
  ·exact Iv r h.2 x hx
def BY(f:aL):(kG f).Nodup/\(∀m∈f.k9,m.name∈kG f/\l9 (CallsIn (kG f)) m.body)/\l9 (CallsIn (kG f)) f.kH:=by
 obtain⟨a1,a2,a3⟩:=Oz f.k9 ([],true) k7;obtain⟨b1,b2,b3⟩:=GT (Br f) _ a1;have hm:=Iv _ b3;exact⟨b1,fun m gY=>⟨b2 _ (a3 m gY),hm _ (by unfold Br;exact bu _ (cp gY))⟩,hm _ (by unfold Br;simp)⟩
def JC(f:aL):(AI f).length=(kG f).length:=by
 unfold AI;rw[Rh _ _ _ (BY f).1 (fun _ _=>rfl)];simp
def args_ok(f:aL):(∀m∈f.k9,(0<=getM 0 m.name (AI f)/\getM 0 m.name (AI f)<(AI f).length)/\l9 (QA (AI f) (AI f).length) m.body)/\l9 (QA (AI f) (AI f).length) f.kH:=by
 obtain⟨h1,h2,h3⟩:=BY f
 have key:∀s∈kG f,0<=getM 0 s (AI f)/\getM 0 s (AI f)<(AI f).length:=fun s hs=>by
  have:=(Js (kG f) 0 [] s).1 hs;rw[JC];unfold AI;omega
 have hq:∀x,CallsIn (kG f) x->QA (AI f) (AI f).length x:=fun x hx h5=>key _ (hx h5);exact⟨fun m hm=>⟨key _ (h2 m hm).1,Fq hq _ (h2 m hm).2⟩,Fq hq _ h3⟩
end Go.DL
