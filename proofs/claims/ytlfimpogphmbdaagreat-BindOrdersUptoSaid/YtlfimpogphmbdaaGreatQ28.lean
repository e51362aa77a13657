/- A part of the proof. -/
import Derived.Test.YtlfimpogphmbdaaGreatQ27
set_option linter.all false
namespace Go.DL
open Go.Proofs.Tryz
open Go Go.Proofs
set_option maxHeartbeats 8000000
def F9(t:Str):fD->Nat->Int->Int
 |[],_,n=>n
 |x::r,k,n=>F9 t r (k+1) (if x=t then k else n)
def PB(names ae aj:fD)(o n:Int)(t:Str)(own:fD):Int:=
 if o=3 then F9 t own 0 n else if o=4\/o=7 then idxG t ae 0 else if o=5 then idxG t aj 0 else if o=6\/o=8 then clsN names t else n
mutual
def Fp(names ae aj:fD):aB->fD->Nat->List aA
 |.mk o n t l,own,k=>⟨o,PB names ae aj o n t own,CW l (k+1)⟩::EV names ae aj o t l 0 own (k+1)
def EV(names ae aj:fD)(o:Int)(t:Str):List aB->Nat->fD->Nat->List aA
 |[],_,_,_=>[]
 |x::r,i,own,k=>(if o=9/\i=1 then Fp names ae aj x (own++[t]) k else Fp names ae aj x own k)++EV names ae aj o t r (i+1) own (k+x.cnt)
end
section
variable {names ae aj:fD}
theorem XM(e:aB)(own:fD)(k:Nat):Fp names ae aj e own k=⟨e.op,PB names ae aj e.op e.n e.text own,CW e.ah (k+1)⟩::EV names ae aj e.op e.text e.ah 0 own (k+1):=by cases e;rw[Fp];rfl
mutual
theorem G7: ∀(e:aB) (own:fD) (k:Nat),(Fp names ae aj e own k).length=e.cnt
 |.mk o n t l,own,k=>by
  rw[Fp,aP,LX o t l,aB.cnt,allE];simp
theorem LX(o:Int)(t:Str): ∀(l:List aB) (i:Nat) (own:fD) (k:Nat),(EV names ae aj o t l i own k).length=(Bg l).length
 |[],_,_,_=>by rw[EV,Bg];rfl
 |x::r,i,own,k=>by
  rw[EV,Bg,aH,aH,LX o t r]
  split
  ·rw[G7 x];rfl
  ·rw[G7 x];rfl
end
end
structure NdS(ib:Nat)(a b c d f:D)(names ae aj:fD)(st:MR)(ns:List aA)(V:Sig):Prop where
 env:V ib=some (.cells [a,b,c,d,mD st ns.length,f,sl (cS names),sl (cS ae),sl (cS aj)])
 row:RowAt V 3 st (ns.map Ab)
 nr:¬Bt st ib
section
variable {ib:Nat}{a b c d f:D}{names ae aj:fD}{st:MR}{ns:List aA}{V:Sig}
theorem NdS.set(h:NdS ib a b c d f names ae aj st ns V){k:Nat}{o:DObj}(h1:ib≠k)(h5:¬Bt st k):NdS ib a b c d f names ae aj st ns (V.set k o):=
 ⟨by rw[w8 _ _ h1];exact h.env,h.row.keep fun j x hj hr=>by rw[w8 _ _ fun e=>h5 (by rw[<-e];exact hr)];exact hj,h.nr⟩
theorem NdS.notrow(h:NdS ib a b c d f names ae aj st ns V){k:Nat}(hk:V k=none): ¬Bt st k:=fun hr=>by
 obtain⟨cs,hc⟩:=h.row.cells hr;rw[hk]at hc;cases hc
theorem NdS.fresh(h:NdS ib a b c d f names ae aj st ns V){k:Nat}{o:DObj}(hk:V k=none):NdS ib a b c d f names ae aj st ns (V.set k o):=
 h.set (A0 h.env hk) (h.notrow hk)
theorem NdS.tail(h:NdS ib a b c d f names ae aj st ns V){k s n:Nat}{o:DObj}(hk:V k=some (.tail s n)): ¬Bt st k/\k≠ib/\NdS ib a b c d f names ae aj st ns (V.set k o):=
 have hr:¬Bt st k:=fun hr=>by obtain⟨cs,hc⟩:=h.row.cells hr;rw[hk]at hc;cases hc
 ⟨hr,A7 hk h.env (by simp),h.set (A7 h.env hk (by simp)) hr⟩
theorem NdS.zero(h:NdS ib a b c d f names ae aj st ns V):st=none->ns.length=0:=fun e=>by
 subst e;have:ns.map Ab=[]:=h.row;simpa using this
theorem NdS.bds(h:NdS ib a b c d f names ae aj st ns V):BdS ib a b c d (mD st ns.length) f names ae aj V:=h.env
theorem LA(jx:names.length<=1000000000)(gU:ae.length<=1073741824)(iz:aj.length<=1073741824): ∀(n:Nat) (e:aB) (own:fD) (o:Own) (st:MR) (ns:List aA) (V:Sig),e.wt<=n->ns.length+e.wt<=100000000->own.length+n<=1000000000->
  NdS ib a b c d f names ae aj st ns V->au prog 131 [.ptr ib 0,.agg (Al e),.slice (cS own) o] V fun x S'=>x=.ret (dI ns.length) /\
   ∃st',NdS ib a b c d f names ae aj st' (ns++Fp names ae aj e own ns.length) S'/\BK ib V st S' st':=by
 intro n
 induction n with
 |zero=>
  intro e own o st ns V hx
  have:=e.wt_pos
  omega
 | succ n ih =>
  intro e own o st ns V hx hn jw hB
  obtain⟨w1,w2,iJ⟩:=e.wt_le
  have hz:=hB.zero
  have gC:=hB
  have jy:ns.length<=100000000:=by omega
  obtain⟨q1,q5,q6⟩:=hB
  refine en func131 ntmps131 ?_
  refine gf q1 ?_ o131 [8]
  refine newV (fun i hi=>?_)
  have n1:ib≠i:=A0 q1 hi
  have iP:¬Bt st i:=gC.notrow hi
  generalize fM:PB names ae aj e.op e.n e.text own=num
  repeat ((fail_if_success (first|(refine dwp_cut1 (x1:=.seq _ (.block 0 _)) [(1,.any),(13,.any),(14,.any),(15,.any),(16,.any),(17,.any),(18,.any),(19,.any),(20,.any),(21,.any),(22,.any),(23,.any)] (V.set i (.cells [dI e.op,dI num,.ak])) ?_ (fun _ hK=>?_))|fail));(refine goX1 trivial ?_))
  refine dwp_cut1 (x1:=.seq _ (.block 0 _)) [(1,.any),(13,.any),(14,.any),(15,.any),(16,.any),(17,.any),(18,.any),(19,.any),(20,.any),(21,.any),(22,.any),(23,.any)] (V.set i (.cells [dI e.op,dI num,.ak])) ?_ (fun _ hK=>?_)
  ·refine dwp_wk (BW (az:=[dI e.op,dI num]) (bs:=[]) (d':=sl (cI [])) (w7 ..) (Am _ (.inl rfl))) ?_
   rw[w9]
   have gk:=gC.fresh (o:=.cells [dI e.op,dI num,sl (cI [])]) hi
   have iC:=(BK.refl ib V st).fresh (o:=.cells [dI e.op,dI num,sl (cI [])]) hi
   have o6:(V.set i (.cells [dI e.op,dI num,sl (cI [])])) i=some (.cells [dI e.op,dI num,sl (cI [])]):=w7 ..
   generalize gx:V.set i (.cells ([dI e.op,dI num]++sl (cI [])::[]))=S1
   have gx:V.set i (.cells [dI e.op,dI num,sl (cI [])])=S1:=gx
   rw[gx]at gk iC o6
   clear gx
   have r1:=gk.env
   have r5:=gk.row
   have u1:(S1.out (Bt st)) ib=some (.cells [a,b,c,d,mD st ns.length,f,sl (cS names),sl (cS ae),sl (cS aj)]):=BO r1 gk.nr
   have u6:(S1.out (Bt st)) i=some (.cells [dI e.op,dI num,sl (cI [])]):=BO o6 iP
   refine gf (gi r1 o6) ?_ (delO 18 o131) [8]
   refine CI (id:=18) [0,1,2,3,4,5,6,7,8,9,10,11] [8] (S1.out (Bt st)) (AU _ _) ?_
   refine gf (gi u1 u6) ?_ o131 [8]
   refine Y0 (es:=ns.map Ab) (fun st2 S2 gV ij=>?_) (fun j o h=>Bm h) (hm:=r5)
   obtain⟨v1,v2⟩:=ij _ _ r1 gk.nr
   obtain⟨rr,rc,g6⟩:=gV.ap (by simp)
   have gF:=g6 (ns.length+1)
   refine gf (gi v1 gF) ?_ o131 [8]
   refine Bv 10 1 (fun it f6=>?_)
   obtain⟨i1,i2⟩:=A4 f6
   have iQ:(ns++[(⟨e.op,num,[]⟩:aA)]).map Ab=ns.map Ab++[[dI e.op,dI num,sl []]]:=by simp
   have e7:NdS ib a b c d f names ae aj st2 (ns++[⟨e.op,num,[]⟩]) (S2.set ib (.cells [a,b,c,d,.ap rr 0 (ns.length+1) rc,f,sl (cS names),sl (cS ae),sl (cS aj)])):=by
    refine⟨by rw[w7,g6];simp,?_,v2⟩
    rw[iQ]
    exact gV.keep fun j x hj hr=>by rw[w8 _ _ fun e=>v2 (by rw[<-e];exact hr)];exact hj
   have fR:BK ib V st (S2.set ib (.cells [a,b,c,d,.ap rr 0 (ns.length+1) rc,f,sl (cS names),sl (cS ae),sl (cS aj)])) st2:=fun j o hj fP hr=>by
    obtain⟨h1,h2⟩:=iC j o hj fP hr
    obtain⟨h3,h4⟩:=ij j o h1 h2
    exact⟨by rw[w8 _ _ fP];exact h3,h4⟩
   have ju:=e7.fresh (o:=.tail 1 0) f6
   have jn:=fR.fresh (o:=.tail 1 0) f6
   have iO:((S2.set ib (.cells [a,b,c,d,.ap rr 0 (ns.length+1) rc,f,sl (cS names),sl (cS ae),sl (cS aj)])).set it (.tail 1 0)) it=some (.tail 1 0):=w7 ..
   have iy:∀o,V it=some o->Bt st it:=fun o h=>cG fun hr=>by rw[(fR it o h i1 hr).1]at f6;cases f6
   refine Ro [0,2,4,6,7,116,117,118,119,120,121,122,123,124,125] (fun (k:Nat) (l:fF) (ms:List aA) (st1:MR) (S1:Sig)=>k<=e.ah.length/\l.length=k/\l++CW (e.ah.drop k) (ns.length+1+ms.length)=CW e.ah (ns.length+1)/\ms++EV names ae aj e.op e.text (e.ah.drop k) k own (ns.length+1+ms.length)=EV names ae aj e.op e.text e.ah 0 own (ns.length+1)/\ns.length+1+ms.length+wtL aB.wt (e.ah.drop k)<=100000000/\NdS ib a b c d f names ae aj st1 (ns++⟨e.op,num,[]⟩::ms) S1/\BK ib V st S1 st1/\S1 it=some (.tail 1 l.length)) (fun k l _ _ _=>[(11,dI k),(10,.slice (cI l) (.tag it))]) (fun _ _ _ _ S1=>S1) (fun k _ _ _ _=>e.ah.length-k) (0) ([]) ([]) (st2) (_) (by exact⟨by omega,rfl,rfl,rfl,by have:=aB.wt_eq e;simp only[cf,dO];omega,ju,jn,iO⟩) (fun k l ms st1 S1 hI=>?_)
   obtain⟨hk,g8,fY,d9,e9,gB,gO,o4⟩:=hI
   by_cases d7:k<e.ah.length
   ·rw [A2 d7] at fY d9 e9
    rw[CW]at fY
    rw[EV]at d9
    rw[wtL]at e9
    have jv:=iJ k d7
    have jF:=aB.cnt_le e.ah[k]
    have gv:=gB.tail (o:=.defs) o4
    by_cases fN:e.op=9/\k=1
    ·rw[aS fN]at d9
     obtain⟨iX,jA⟩:=fN
     refine gf iX ?_ (delO 25 o131) [8]
     refine mixL (id:=25) [0,2,3,4,1,5] [1,5] ?_
     refine gz ?_ o131 [8]
     refine Qd (fun j hj=>?_)
     refine gz ?_ o131 [8]
     have gP:=gB.fresh (o:=.tail 1 (own.length+1)) hj
     have gN:=gO.fresh (o:=.tail 1 (own.length+1)) hj
     have o5:(S1.set j (.tail 1 (own.length+1))) it=some (.tail 1 l.length):=by rw[w8 _ _ (A0 o4 hj)];exact o4
     refine rtl 112 (.slice (cS (own++[e.text])) .no) ?_ (hw:=C3 _ (by simp[cS]))
     refine Ac (ih e.ah[k] (own++[e.text]) .no st1 (ns++⟨e.op,num,[]⟩::ms) _ (by omega) (by simp only[aH,aP];omega) (by rw[aH];simp only[aP,cf];omega) gP) (fun x S3 hr=>?_) (fun x S3 hr=>by cases hr.1)
     obtain⟨e1,st3,gj,gh⟩:=hr
     cases e1
     obtain⟨o6,_⟩:=gh _ _ o5 gv.2.1 gv.1
     have gM:=gN.trans gh
     have fV:(((ns++(⟨e.op,num,[]⟩:aA)::ms).length:Nat):Int)=((ns.length+1+ms.length:Nat):Int):=by simp only[aH,aP];omega
     have e8:(ns++(⟨e.op,num,[]⟩:aA)::ms).length=ns.length+1+ms.length:=by simp only[aH,aP];omega
     rw[e8]at gj
     have fX:=(gj.tail (o:=.tail 1 (l++[((ns.length+1+ms.length:Nat):Int)]).length) o6).2.2
     have gL:BK ib V st (S3.set it (.tail 1 (l++[((ns.length+1+ms.length:Nat):Int)]).length)) st3:=fun j x hj fP hr=>by
      obtain⟨h1,h2⟩:=gM j x hj fP hr
      exact⟨by rw[w8 _ _ fun e=>hr (by have:=iy x (by rw[<-e];exact hj);rw[e];exact this)];exact h1,h2⟩
     have fJ:=G7 (names:=names) (ae:=ae) (aj:=aj) e.ah[k] (own++[e.text]) (ns.length+1+ms.length)
     have f0:Sub (S3.set it (.tail 1 (l++[((ns.length+1+ms.length:Nat):Int)]).length)) (S3.set it (.tail 1 (l.length+1))):=by rw[aH];exact Sub.refl _
     rw[aT,bl]at fX
     have iI:WkD (.slice (cI l++[[dI ((ns.length:Int)+((ms.length:Int)+1))]]) (.tag it)) (.slice (cI (l++[((ns.length+1+ms.length:Nat):Int)])) (.tag it)):=AM (by simp[cI];omega)
     refine gf (gi o6 fV) ?_ o131 [8]
     exact⟨k+1,l++[((ns.length+1+ms.length:Nat):Int)],ms++Fp names ae aj e.ah[k] (own++[e.text]) (ns.length+1+ms.length),st3,S3.set it (.tail 1 (l++[((ns.length+1+ms.length:Nat):Int)]).length),⟨by omega,by rw[aH,g8];rfl,by rw[aT,aH,fJ,<-ci];exact fY,by rw[aT,aH,fJ,<-ci];exact d9,by rw[aH,fJ];omega,fX,gL,w7 ..⟩,td1,wkR⟩
    ·rw[aN fN]at d9
     have gP:=gB
     have gN:=gO
     have o5:=o4
     by_cases h9:e.op=9
     case' pos=>
      have jB:k≠1:=fun h=>fN ⟨h9,h⟩
      repeat' first|refine gf h9 ?_ o131 [8]|apply gy<;>intro hh
     case' neg=>
      repeat' first|refine gz ?_ o131 [8]|apply gy<;>intro hh
     all_goals
      refine Ac (ih e.ah[k] own _ st1 (ns++⟨e.op,num,[]⟩::ms) _ (by omega) (by simp only[aH,aP];omega) (by first|omega|(rw[aH];simp only[aP,cf];omega)) gP) (fun x S3 hr=>?_) (fun x S3 hr=>by cases hr.1)
      obtain⟨e1,st3,gj,gh⟩:=hr
      cases e1
      obtain⟨o6,_⟩:=gh _ _ o5 gv.2.1 gv.1
      have gM:=gN.trans gh
      have fV:(((ns++(⟨e.op,num,[]⟩:aA)::ms).length:Nat):Int)=((ns.length+1+ms.length:Nat):Int):=by simp only[aH,aP];omega
      have e8:(ns++(⟨e.op,num,[]⟩:aA)::ms).length=ns.length+1+ms.length:=by simp only[aH,aP];omega
      rw[e8]at gj
      have fX:=(gj.tail (o:=.tail 1 (l++[((ns.length+1+ms.length:Nat):Int)]).length) o6).2.2
      have gL:BK ib V st (S3.set it (.tail 1 (l++[((ns.length+1+ms.length:Nat):Int)]).length)) st3:=fun j x hj fP hr=>by
       obtain⟨h1,h2⟩:=gM j x hj fP hr
       exact⟨by rw[w8 _ _ fun e=>hr (by have:=iy x (by rw[<-e];exact hj);rw[e];exact this)];exact h1,h2⟩
      have fJ:=G7 (names:=names) (ae:=ae) (aj:=aj) e.ah[k] own (ns.length+1+ms.length)
      have f0:Sub (S3.set it (.tail 1 (l++[((ns.length+1+ms.length:Nat):Int)]).length)) (S3.set it (.tail 1 (l.length+1))):=by rw[aH];exact Sub.refl _
      rw[aT,bl]at fX
      have iI:WkD (.slice (cI l++[[dI ((ns.length:Int)+((ms.length:Int)+1))]]) (.tag it)) (.slice (cI (l++[((ns.length+1+ms.length:Nat):Int)])) (.tag it)):=AM (by simp[cI];omega)
      refine gf (gi o6 fV) ?_ o131 [8]
      exact⟨k+1,l++[((ns.length+1+ms.length:Nat):Int)],ms++Fp names ae aj e.ah[k] own (ns.length+1+ms.length),st3,S3.set it (.tail 1 (l++[((ns.length+1+ms.length:Nat):Int)]).length),⟨by omega,by rw[aH,g8];rfl,by rw[aT,aH,fJ,<-ci];exact fY,by rw[aT,aH,fJ,<-ci];exact d9,by rw[aH,fJ];omega,fX,gL,w7 ..⟩,td1,wkR⟩
   ·rw[A1 d7,CW,bb]at fY
    rw[A1 d7,EV,bb]at d9
    obtain⟨t1,t5,t6⟩:=gB
    rcases st1 with _|⟨r,rc,rest⟩
    ·have:(ns++(⟨e.op,num,[]⟩:aA)::ms).map Ab=[]:=t5
     simp at this
    ·have fU:S1 r=some (.cells (((ns++(⟨e.op,num,[]⟩:aA)::ms).map Ab).flatten++rest))/\(((ns++(⟨e.op,num,[]⟩:aA)::ms).map Ab).flatten++rest).length=rc*3/\((ns++(⟨e.op,num,[]⟩:aA)::ms).map Ab).length<=rc/\_:=t5
     have f9:S1 ib=some (.cells [a,b,c,d,.ap r 0 (ns.length+1+ms.length) rc,f,sl (cS names),sl (cS ae),sl (cS aj)]):=by
      rw[t1];show some (DObj.cells [a,b,c,d,.ap r 0 (ns++(⟨e.op,num,[]⟩:aA)::ms).length rc,f,sl (cS names),sl (cS ae),sl (cS aj)])=_
      rw[show(ns++(⟨e.op,num,[]⟩:aA)::ms).length=ns.length+1+ms.length by simp only[aH,aP];omega]
     obtain⟨w1,w2,w3,w4⟩:=fU
     have iE:(ns.map Ab).flatten.length=ns.length*3:=by rw[Dc (sz:=3) (by simp)];simp
     have gJ:∀q:fF,((ns++(⟨e.op,num,q⟩:aA)::ms).map Ab).flatten++rest=(ns.map Ab).flatten++[dI e.op,dI num]++sl (cI q)::((ms.map Ab).flatten++rest):=fun q=>by simp
     have ga:((ns++(⟨e.op,num,[]⟩:aA)::ms).map Ab).flatten++rest=(ns.map Ab).flatten++dI e.op::dI num::sl (cI [])::((ms.map Ab).flatten++rest):=by simp
     rw[ga]at w1 w2
     clear ga
     generalize hA:(ns.map Ab).flatten=A at*
     generalize hM:(ms.map Ab).flatten=M at*
     have iB:A.length+(3+(M.length+rest.length))=rc*3:=by simp only[aH,aP]at w2;omega
     have w3':=w3
     rw[aZ,aH,aP]at w3
     have iK:List.take (ns.length*3+2) (A++dI e.op::dI num::sl []::(M++rest))=A++[dI e.op,dI num]:=by rw[<-iE,fu];rfl
     have jg:List.drop (ns.length*3+2+1) (A++dI e.op::dI num::sl []::(M++rest))=M++rest:=by rw[<-iE,ci,eh];rfl
     repeat ((fail_if_success (first|(refine celW (List.take (ns.length*3+2) (A++dI e.op::dI num::sl []::(M++rest))) (List.drop (ns.length*3+2+1) (A++dI e.op::dI num::sl []::(M++rest))) (.slice (cI l) (.tag it)) (sl (cI l)) ?_ (w7 ..) (Ao _ _))|fail));(refine goX1 (gi f9 w1) ?_))
     refine celW (List.take (ns.length*3+2) (A++dI e.op::dI num::sl []::(M++rest))) (List.drop (ns.length*3+2+1) (A++dI e.op::dI num::sl []::(M++rest))) (.slice (cI l) (.tag it)) (sl (cI l)) ?_ (w7 ..) (Ao _ _)
     rw[iK,jg,w9]
     have jk:Fp names ae aj e own ns.length=⟨e.op,num,l⟩::ms:=by rw[XM,fM,<-fY,<-d9]
     have g7:(ns++(⟨e.op,num,l⟩:aA)::ms).length=ns.length+1+ms.length:=by simp only[aH,aP];omega
     have jh:ib≠r:=fun h=>t6 h
     have iD:NdS ib a b c d f names ae aj (some (r,rc,rest)) (ns++⟨e.op,num,l⟩::ms) (S1.set r (.cells (A++[dI e.op,dI num]++sl (cI l)::(M++rest)))):=by
      refine⟨?_,⟨?_,?_,?_,?_⟩,t6⟩
      ·rw[w8 _ _ jh,f9,<-g7];rfl
      ·rw[w7,gJ l]
      ·rw[gJ l];simp only[aH,aP,cf];omega
      ·rw[aZ,g7];omega
      ·intro z hz;obtain⟨x,_,rfl⟩:=bO.1 hz;rfl
     have jm:BK ib V st (S1.set r (.cells (A++[dI e.op,dI num]++sl (cI l)::(M++rest)))) (some (r,rc,rest)):=fun j x hj fP hr=>by
      obtain⟨h1,h2⟩:=gO j x hj fP hr
      exact⟨by rw[w8 _ _ fun e=>h2 e];exact h1,h2⟩
     rw[<-jk]at iD
     refine gz ?_ o131 [8]
     exact fin1 (S':=_) ⟨rfl,_,iD,jm⟩
  ·by_cases c3:e.op=3
   ·have hb:PB names ae aj e.op e.n e.text own=F9 e.text own 0 e.n:=by unfold PB;rw[aS c3]
    rw[hb]at fM
    refine gf c3 ?_ o131 [8]
    refine AB [0,2,4,6,7,8,10,11,12,25,43,44,45,46,47,48,49,50,51,52,53,54,55,56,57,58,59,60,61,62,63,64,65,66,67,68,69,70,71,72,73,74,75,76,77,78,79,80,81,82,83,84,85,86,87,88,89,90,91,92,93,94,95,96,97,98,99,100,101,102,103,104,105,106,107,108,109,110,111,112,113,114,115,116,117,118,119,120,121,122,123,124,125] (fun (k:Nat) (v:Int)=>k<=own.length/\F9 e.text own 0 e.n=F9 e.text (own.drop k) k v) (fun k _=>[(9,dI k)]) (fun _ v=>V.set i (.cells [dI e.op,dI v,.ak])) (fun k _=>own.length-k) (0) (e.n) (by exact⟨by omega,rfl⟩) (fun k v hI=>?_)
    obtain⟨hk,hR⟩:=hI
    by_cases d7:k<own.length
    ·rw[A2 d7,F9]at hR
     by_cases hx:own[k]=e.text
     ·rw[aS hx]at hR
      refine gf hx ?_ o131 [8]
      exact⟨k+1,(k:Int),⟨by omega,hR⟩,td1,wkR⟩
     ·rw[aN hx]at hR
      refine gf hx ?_ o131 [8]
      exact⟨k+1,v,⟨by omega,hR⟩,td1,wkR⟩
    ·rw[A1 d7,F9]at hR
     refine gz ?_ o131 [8]
     refine dwp_wk ?_ hK
     clear hK ih
     refine Ae (by simp) (AQ ?_)
     rw[<-fM,hR]
   ·repeat' first|refine gf (gi c3 q1) ?_ [] [8]|refine Aq (Gp ib a b c d (mD st ns.length) f names ae aj e.text _ ((gC.fresh hi).bds) (by omega)) ?_|refine callP (Gp ib a b c d (mD st ns.length) f names ae aj e.text _ ((gC.fresh hi).bds) (by omega)) ?_|refine gf (gi c3 q1) ?_ o131 [8]|apply gy<;>intro hh
    all_goals (refine dwp_wk ?_ hK;clear hK ih;refine Ae (by simp) (AQ ?_);rw[<-fM];unfold PB;simp[*];done)
end
def seqI(k:Nat):Nat->fF
 |0=>[]
 |n+1=>(k:Int)::seqI (k+1) n
def XN(f:aF)(c:aD)(k:Nat):ax:=⟨c.ag.map (clsN (ownR f)),seqI k c.ae.length,c.ai.map fun x=>⟨idxG x.slot (slotsR f) 0,x.n⟩⟩
def GH(f:aF):List aD->Nat->List ax
 |[],_=>[]
 |c::r,k=>XN f c k::GH f r (k+c.ae.length)
structure F1S(ib ic im i2:Nat)(m:Int)(gs:fF)(own ae aj:fD)(cl:List ax)(V S1:Sig):Prop where
 env:S1 ib=some (.cells [.slice (cl.map cBClass) (.tag ic),dI m,sl (cI gs),.slice [] (.tag im),.ak,dI 0,sl (cS own),sl (cS ae),sl (cS aj)])
 oc:S1 ic=some (.tail 3 cl.length)
 om:S1 im=some (.tail 9 0)
 o2:S1 i2=some (.cells [.ak,dI 0,.ak,.ak,.ak,dI 0])
 hS:Sub V S1
structure C1S(i8 i9 j1 j2 j3:Nat)(c:aD)(ps ss:fF)(is:List Init)(V S1:Sig):Prop where
 o8:S1 i8=some (.cells (cFClass c))
 o9:S1 i9=some (.cells [.slice (cI ps) (.tag j1),.slice (cI ss) (.tag j2),.slice (is.map Dg) (.tag j3)])
 o1:S1 j1=some (.tail 1 ps.length)
 o2:S1 j2=some (.tail 1 ss.length)
 o3:S1 j3=some (.tail 2 is.length)
 hS:Sub V S1
section
variable {i8 i9 j1 j2 j3:Nat}{c:aD}{ps ss:fF}{is:List Init}{V S1:Sig}
theorem C1S.par(h:C1S i8 i9 j1 j2 j3 c ps ss is V S1)(v:Int)(gS:j1≠j2)(gR:j1≠j3)(gn:i8≠i9)(h9:V i9=none)(h1:V j1=none):
  C1S i8 i9 j1 j2 j3 c (ps++[v]) ss is V ((S1.set j1 (.tail 1 (ps.length+1))).set i9 (.cells [.slice (cI ps++[[dI v]]) (.tag j1),.slice (cI ss) (.tag j2),.slice (is.map Dg) (.tag j3)])):=by
 have n1:j1≠i9:=A7 h.o1 h.o9 (by simp)
 have n2:j2≠i9:=A7 h.o2 h.o9 (by simp)
 have n3:j3≠i9:=A7 h.o3 h.o9 (by simp)
 have n4:i8≠j1:=A7 h.o8 h.o1 (by simp)
 refine⟨by rw[w8 _ _ gn,w8 _ _ n4];exact h.o8,by rw[w7];simp[cI],by rw[w8 _ _ n1,w7,aH];rfl,by rw[w8 _ _ n2,w8 _ _ (aQ gS)];exact h.o2,by rw[w8 _ _ n3,w8 _ _ (aQ gR)];exact h.o3,fun j o hj=>?_⟩
 rw[w8 _ _ (A0 hj h9),w8 _ _ (A0 hj h1)];exact h.hS j o hj
theorem C1S.slo(h:C1S i8 i9 j1 j2 j3 c ps ss is V S1)(v:Int)(gS:j1≠j2)(gQ:j2≠j3)(gn:i8≠i9)(h9:V i9=none)(h1:V j2=none):
  C1S i8 i9 j1 j2 j3 c ps (ss++[v]) is V ((S1.set j2 (.tail 1 (ss.length+1))).set i9 (.cells [.slice (cI ps) (.tag j1),.slice (cI ss++[[dI v]]) (.tag j2),.slice (is.map Dg) (.tag j3)])):=by
 have n1:j1≠i9:=A7 h.o1 h.o9 (by simp)
 have n2:j2≠i9:=A7 h.o2 h.o9 (by simp)
 have n3:j3≠i9:=A7 h.o3 h.o9 (by simp)
 have n4:i8≠j2:=A7 h.o8 h.o2 (by simp)
 refine⟨by rw[w8 _ _ gn,w8 _ _ n4];exact h.o8,by rw[w7];simp[cI],by rw[w8 _ _ n1,w8 _ _ gS];exact h.o1,by rw[w8 _ _ n2,w7,aH];rfl,by rw[w8 _ _ n3,w8 _ _ (aQ gQ)];exact h.o3,fun j o hj=>?_⟩
 rw[w8 _ _ (A0 hj h9),w8 _ _ (A0 hj h1)];exact h.hS j o hj
theorem C1S.ini(h:C1S i8 i9 j1 j2 j3 c ps ss is V S1)(v:Init)(gR:j1≠j3)(gQ:j2≠j3)(gn:i8≠i9)(h9:V i9=none)(h1:V j3=none):
  C1S i8 i9 j1 j2 j3 c ps ss (is++[v]) V ((S1.set j3 (.tail 2 (is.length+1))).set i9 (.cells [.slice (cI ps) (.tag j1),.slice (cI ss) (.tag j2),.slice (is.map Dg++[Dg v]) (.tag j3)])):=by
 have n1:j1≠i9:=A7 h.o1 h.o9 (by simp)
 have n2:j2≠i9:=A7 h.o2 h.o9 (by simp)
 have n3:j3≠i9:=A7 h.o3 h.o9 (by simp)
 have n4:i8≠j3:=A7 h.o8 h.o3 (by simp)
 refine⟨by rw[w8 _ _ gn,w8 _ _ n4];exact h.o8,by rw[w7];simp,by rw[w8 _ _ n1,w8 _ _ gR];exact h.o1,by rw[w8 _ _ n2,w8 _ _ gQ];exact h.o2,by rw[w8 _ _ n3,w7,aH];rfl,fun j o hj=>?_⟩
 rw[w8 _ _ (A0 hj h9),w8 _ _ (A0 hj h1)];exact h.hS j o hj
end
theorem F1S.cls{ib ic im i2:Nat}{m:Int}{gs:fF}{own ae aj:fD}{cl:List ax}{V S6 S11:Sig}(h:F1S ib ic im i2 m gs own ae aj cl V S6)(hS:Sub S6 S11)(hb:V ib=none)(hc:V ic=none)(x:ax):
  F1S ib ic im i2 m gs own ae aj (cl++[x]) V ((S11.set ic (.tail 3 (cl.length+1))).set ib (.cells [.slice (cl.map cBClass++[cBClass x]) (.tag ic),dI m,sl (cI gs),.slice [] (.tag im),.ak,dI 0,sl (cS own),sl (cS ae),sl (cS aj)])):=by
 have n1:ic≠ib:=A7 h.oc h.env (by simp)
 have n2:im≠ib:=A7 h.om h.env (by simp)
 have n3:i2≠ib:=A7 h.o2 h.env (by simp)
 have n4:im≠ic:=A7 h.om h.oc (by simp)
 have n5:i2≠ic:=A7 h.o2 h.oc (by simp)
 refine⟨by rw[w7];simp,by rw[w8 _ _ n1,w7,aH];rfl,by rw[w8 _ _ n2,w8 _ _ n4];exact hS _ _ h.om,by rw[w8 _ _ n3,w8 _ _ n5];exact hS _ _ h.o2,fun j o hj=>?_⟩
 rw[w8 _ _ (A0 hj hb),w8 _ _ (A0 hj hc)];exact hS _ _ (h.hS j o hj)
def GG(names ae aj:fD):List aE->Nat->List aA
 |[],_=>[]
 |m::r,k=>Fp names ae aj m.body m.params k++GG names ae aj r (k+m.body.cnt)
def Iv(names ae aj:fD):List aE->Nat->List ay
 |[],_=>[]
 |m::r,k=>⟨m.kind,idxG m.name aj 0,G6 names ae m.params m.fact,k⟩::Iv names ae aj r (k+m.body.cnt)
def OU(f:aF):aw:=
 ⟨GH f f.aa 0,(slotsR f).length,(BM f).1.map (·.2),Iv (ownR f) (slotsR f) (gensN f) f.methods 0,
  GG (ownR f) (slotsR f) (gensN f) f.methods 0++Fp (ownR f) (slotsR f) (gensN f) f.main [] (GG (ownR f) (slotsR f) (gensN f) f.methods 0).length,(GG (ownR f) (slotsR f) (gensN f) f.methods 0).length⟩
theorem Ua(f:aF)(V:Sig)(hw:f.wt<=10000000):au prog 53 [.agg (Bd f)] V (rS (.agg (Ai (OU f))) V):=by
 obtain⟨p1,p2,p3,p4,p5⟩:=f.wt_le
 have gU:=Jk f
 have i127:∀V:Sig,Ans 127 [.agg (Bd f)] V True (.tup [sl (cS ((BM f).1.map (·.1))),sl (cI ((BM f).1.map (·.2)))]):=fun V=>ah0 (Sg f V (by omega))
 refine en func53 ntmps53 ?_
 refine gz ?_ o53 [2,8,9,14]
 refine newV (fun i2 iv=>?_)
 refine gz ?_ (delO 2 o53) [2,8,9,14]
 refine mixT 6 [0,2,4,1,3,5] [1,3] ?_
 refine gz ?_ o53 [2,8,9,14]
 refine boxV (T:=196) (fun ib jc=>?_)
 refine gz ?_ o53 [2,8,9,14]
 have jC:(gensN f).length<=f.wt:=by have:=FU f;unfold gensN;rw[aZ];exact this
 have iz:(BM f).1.map (·.1)=gensN f:=rfl
 have iL:f.aa.flatMap (·.ae)=slotsR f:=rfl
 have jf:((BM f).1.map (·.2)).length<=f.wt:=by have:=FU f;rw[aZ];exact this
 generalize jo:(BM f).1.map (·.2)=gs at*
 have gY:(f.aa.map (·.name))=ownR f:=rfl
 have iM:(slotsR f).length<=f.wt:=gU
 simp only[iz,iL,gY]
 refine appN (fun ig iq=>?_)
 obtain⟨a1,b1⟩:=A4 iq
 obtain⟨a2,b2⟩:=A4 b1
 obtain⟨a3,b3⟩:=A4 jc
 generalize gw:Sig.set _ ig _=S4
 have o1:S4 ib=some (.cells [.ak,dI 0,.ak,.ak,.ak,dI 0,sl (cS (ownR f)),sl (cS (slotsR f)),sl (cS (gensN f))]):=by rw[<-gw,w8 _ _ (aQ a1)];exact w7 ..
 have o2:S4 i2=some (.cells [.ak,dI 0,.ak,.ak,.ak,dI 0]):=by rw[<-gw,w8 _ _ (aQ a2),w8 _ _ (aQ a3)];exact w7 ..
 have hS:Sub V S4:=fun j x hj=>by rw[<-gw,w8 _ _ (A0 hj b2),w8 _ _ (A0 hj b3),w8 _ _ (A0 hj iv)];exact hj
 clear gw iq
 refine gf o1 ?_ o53 [2,8,9,14]
 refine dwp_wk (BW (az:=[.ak,dI (slotsR f).length]) (bs:=[.ak,.ak,dI 0,sl (cS (ownR f)),sl (cS (slotsR f)),sl (cS (gensN f))]) (d':=sl (cI gs)) (w7 ..) (Ao _ _)) ?_
 rw[w9]
 refine Ak ib 0 3 (w7 ..) rfl (fun ic jb=>?_)
 obtain⟨c1,d1⟩:=A4 jb
 refine Ak ib 3 9 (w7 ..) rfl (fun im ja=>?_)
 obtain⟨c2,d2⟩:=A4 ja
 obtain⟨c3,d3⟩:=A4 d2
 obtain⟨c4,d4⟩:=A4 d3
 generalize fW:Sig.set (Sig.set _ im _) ib _=S5
 have hz:∀j,S4 j=none->V j=none:=fun j hj=>by
  cases h:V j with
  |none=>rfl
  |some o=>rw[hS _ _ h]at hj;cases hj
 have jp:F1S ib ic im i2 (slotsR f).length gs (ownR f) (slotsR f) (gensN f) [] V S5:=by
  rw[<-fW]
  refine⟨by rw[w7];rfl,by rw[w8 _ _ c1,w8 _ _ (aQ c3),w8 _ _ c1];exact w7 .., by rw[w8 _ _ c2];exact w7 ..,?_,fun j x hj=>?_⟩
  ·rw[w8 _ _ (aQ a3),w8 _ _ (A0 o2 d4),w8 _ _ (aQ a3),w8 _ _ (A0 o2 d1),w8 _ _ (aQ a3)];exact o2
  ·rw[w8 _ _ (A0 hj b3),w8 _ _ (A0 hj (hz _ d4)),w8 _ _ (A0 hj b3),w8 _ _ (A0 hj (hz _ d1)),w8 _ _ (A0 hj b3)];exact hS _ _ hj
 clear fW
 have gI:V ic=none:=hz _ d1
 have gH:V im=none:=hz _ d4
 refine Po [1,2,3,5,13,14,15,16,132,133,134,135,136,137,138,139,140,141,142,143,144,145,146,147,148,149,150,151,152,153,154,155,156,157,158,159,160,161,162,163,164,165,166,167,168,169,170,171,172,173,174,175,176,177,178,179,180,181,182,183,184,185,186,187] (fun (k:Nat) (q:Nat) (cl:List ax) (S6:Sig)=>k<=f.aa.length/\cl.length=k/\cl++GH f (f.aa.drop k) q=GH f f.aa 0/\q+((f.aa.drop k).flatMap (·.ae)).length=(slotsR f).length/\F1S ib ic im i2 (slotsR f).length gs (ownR f) (slotsR f) (gensN f) cl V S6) (fun k q _ _=>[(7,dI k),(6,dI q)]) (fun _ _ _ S6=>S6) (fun k _ _ _=>f.aa.length-k) (0) (0) ([]) (_) (by exact⟨by omega,rfl,rfl,by simp[slotsR],jp⟩) (fun k q cl S6 hI=>?_)
 obtain⟨hk,g9,hR,hq,hF⟩:=hI
 by_cases d7:k<f.aa.length
 ·rw [A2 d7] at hR hq
  have jD:=p4 k d7
  generalize iB:f.aa[k]=c at*
  obtain⟨w1,w2,w3,w4,w5⟩:=c.wt_le
  have jE:=Bb c.ag
  have gJ:=Bb c.ae
  refine gf iB ?_ o53 [2,8,9,14]
  refine newV (fun i8 je=>?_)
  refine gz ?_ o53 [2,8,9,14]
  refine newV (fun i9 jd=>?_)
  refine gz ?_ o53 [2,8,9,14]
  obtain⟨e1,e2⟩:=A4 jd
  refine Ak i9 0 1 (w7 ..) rfl (fun j1 i0=>?_)
  obtain⟨g1,g2⟩:=A4 i0
  obtain⟨g3,g4⟩:=A4 g2
  refine Ak i9 1 1 (w7 ..) rfl (fun j2 iZ=>?_)
  obtain⟨k1,k2⟩:=A4 iZ
  obtain⟨k3,k4⟩:=A4 k2
  obtain⟨k5,k6⟩:=A4 k4
  obtain⟨k7,k8⟩:=A4 k6
  refine Ak i9 2 2 (w7 ..) rfl (fun j3 iY=>?_)
  obtain⟨l1,l2⟩:=A4 iY
  obtain⟨l3,l4⟩:=A4 l2
  obtain⟨l5,l6⟩:=A4 l4
  obtain⟨l7,l8⟩:=A4 l6
  obtain⟨l9,l10⟩:=A4 l8
  obtain⟨l11,l12⟩:=A4 l10
  generalize fQ:Sig.set (Sig.set _ j3 _) i9 _=S7
  have jq:C1S i8 i9 j1 j2 j3 c [] [] [] S6 S7:=by
   have e1':=aQ e1
   have g3':=aQ g3
   have k3':=aQ k3
   have k7':=aQ k7
   have l3':=aQ l3
   have l7':=aQ l7
   have l11':=aQ l11
   rw[<-fQ]
   refine⟨?_,by rw[w7];rfl,?_,?_,?_,fun j x hj=>?_⟩
   ·simp[w8 _ _ e1',w8 _ _ g3',w8 _ _ k7',w8 _ _ l11']
   ·simp[w8 _ _ g1,w8 _ _ k3',w8 _ _ l7']
   ·simp[w8 _ _ k1,w8 _ _ l3']
   ·simp[w8 _ _ l1]
   ·have m1:j≠i8:=A0 hj je
    have m2:j≠i9:=A0 hj e2
    have m3:j≠j1:=A0 hj g4
    have m4:j≠j2:=A0 hj k8
    have m5:j≠j3:=A0 hj l12
    simp only[w8 _ _ m1,w8 _ _ m2,w8 _ _ m3,w8 _ _ m4,w8 _ _ m5]
    exact hj
  clear fQ
  have env:=hF.env
  refine CK [1,2,3,5,6,7,8,9,11,12,13,14,15,16,44,45,46,47,48,49,50,51,52,53,54,55,75,76,77,78,79,80,81,82,83,84,85,86,87,88,89,90,91,92,93,94,95,96,97,98,99,100,101,102,103,104,105,106,107,108,109,110,111,112,113,114,115,116,117,118,119,120,121,122,123,124,125,126,127,128,129,130,131,132,133,134,135,136,137,138,139,140,141,142,143,144,145,146,147,148,149,150,151,152,153,154,155,156,157,158,159,160,161,162,163,164,165,166,167,168,169,170,171,172,173,174,175,176,177,178,179,180,181,182,183,184,185,186,187] (fun (p:Nat) (ps:fF) (S8:Sig)=>p<=c.ag.length/\ps++(c.ag.drop p).map (clsN (ownR f))=c.ag.map (clsN (ownR f))/\C1S i8 i9 j1 j2 j3 c ps [] [] S6 S8) (fun p _ _=>[(10,dI p)]) (fun _ _ S8=>S8) (fun p _ _=>c.ag.length-p) (0) ([]) (_) (by exact⟨by omega,rfl,jq⟩) (fun p ps S8 hI=>?_)
  obtain⟨hp,gb,hC⟩:=hI
  by_cases fL:p<c.ag.length
  ·rw[A2 fL,ba]at gb
   have hlen:=bF List.length gb
   simp at hlen
   have envB:=hC.hS _ _ env
   have u1:i9≠j1:=A7 hC.o9 hC.o1 (by simp)
   have u2:ib≠j1:=A0 env g4
   have u3:i8≠j1:=A7 hC.o8 hC.o1 (by simp)
   have b9:(S8.out fun j=>j=j1) i9=_:=BO hC.o9 u1
   have b8:(S8.out fun j=>j=j1) i8=_:=BO hC.o8 u3
   have d6:Sub (S8.out fun j=>j=j1) S8:=AU _ _
   have fO:Sub (S8.out fun j=>j=j1) (S8.set j1 (.tail 1 (ps.length+1))):=fun j o hj=>by
    obtain⟨h1,h2⟩:=Bm hj
    rw[w8 _ _ h2];exact h1
   have o1:=hC.o1
   have o9:=hC.o9
   have o8:=hC.o8
   have gr:=Gp ib _ _ _ _ _ _ (ownR f) (slotsR f) (gensN f) c.ag[p] S8 envB (by unfold ownR;rw[aZ];omega)
   refine gf o8 ?_ (delO 14 o53) [2,8,9,14]
   refine CI (id:=14) [0,1,2,3,4,5,6,7,8,9,10,11] [8,10] (S8.out fun j=>j=j1) d6 ?_
   repeat' first|refine gf (gi b8 (gi b9 (gi o1 o9))) ?_ [] [2,8,9,14]|refine moR (gr) ?_|refine moP (gr) ?_|refine gf (gi b8 (gi b9 (gi o1 o9))) ?_ o53 [2,8,9,14]|apply gy<;>intro hh
   exact⟨p+1,ps++[clsN (ownR f) c.ag[p]],_,⟨by omega,by rw[aT];exact gb,hC.par _ (aQ k3) (aQ l7) (aQ e1) e2 g4⟩,td1,wkR⟩
  ·rw [A1 fL,bJ,bb] at gb
   subst gb
   have o8:=hC.o8
   refine gf o8 ?_ o53 [2,8,9,14]
   simp only[cz,aH]at hq
   clear hp fL
   refine CK [1,2,3,5,7,8,9,10,12,13,14,15,16,44,45,46,47,48,49,50,51,52,53,54,55,56,57,58,59,60,61,62,63,64,65,66,67,68,69,70,71,72,73,74,90,91,92,93,94,95,96,97,98,99,100,101,102,103,104,105,106,107,108,109,110,111,112,113,114,115,116,117,118,119,120,121,122,123,124,125,126,127,128,129,130,131,132,133,134,135,136,137,138,139,140,141,142,143,144,145,146,147,148,149,150,151,152,153,154,155,156,157,158,159,160,161,162,163,164,165,166,167,168,169,170,171,172,173,174,175,176,177,178,179,180,181,182,183,184,185,186,187] (fun (p:Nat) (ss:fF) (S9:Sig)=>p<=c.ae.length/\ss.length=p/\ss++seqI (q+p) (c.ae.length-p)=seqI q c.ae.length/\C1S i8 i9 j1 j2 j3 c (c.ag.map (clsN (ownR f))) ss [] S6 S9) (fun p _ _=>[(11,dI p),(6,dI (q+p:Nat))]) (fun _ _ S9=>S9) (fun p _ _=>c.ae.length-p) (0) ([]) (_) (by exact⟨by omega,rfl,rfl,hC⟩) (fun p ss S9 hI=>?_)
   obtain⟨hp,gT,gA,fZ⟩:=hI
   by_cases fL:p<c.ae.length
   ·rw[show c.ae.length-p=c.ae.length-(p+1)+1 by omega,seqI]at gA
    have o2':=fZ.o2
    have o9:=fZ.o9
    have o8:=fZ.o8
    refine gf (gi o8 (gi o9 o2')) ?_ o53 [2,8,9,14]
    exact⟨p+1,ss++[((q+p:Nat):Int)],_,⟨by omega,by rw[aH,gT];rfl,by rw[aT];exact gA,fZ.slo _ (aQ k3) (aQ l3) (aQ e1) e2 k8⟩,td1,wkR⟩
   ·have gD:p=c.ae.length:=by omega
    rw[gD,eg,seqI,bb]at gA
    have gW:q+p=q+c.ae.length:=by rw[gD]
    have o8:=fZ.o8
    refine gf o8 ?_ o53 [2,8,9,14]
    subst gA
    rw[gW]
    clear hp fL gT gD gW o8 hC
    refine CK [1,2,3,5,6,7,8,9,10,11,13,14,15,16,44,45,46,47,48,49,50,51,52,53,54,55,56,57,58,59,60,61,62,63,64,65,66,67,68,69,70,71,72,73,74,75,76,77,78,79,80,81,82,83,84,85,86,87,88,89,120,121,122,123,124,125,126,127,128,129,130,131,132,133,134,135,136,137,138,139,140,141,142,143,144,145,146,147,148,149,150,151,152,153,154,155,156,157,158,159,160,161,162,163,164,165,166,167,168,169,170,171,172,173,174,175,176,177,178,179,180,181,182,183,184,185,186,187] (fun (p:Nat) (is:List Init) (S10:Sig)=>p<=c.ai.length/\is++((c.ai.drop p).map fun x=>(⟨idxG x.slot (slotsR f) 0,x.n⟩:Init))=(c.ai.map fun x=>(⟨idxG x.slot (slotsR f) 0,x.n⟩:Init))/\C1S i8 i9 j1 j2 j3 c (c.ag.map (clsN (ownR f))) (seqI q c.ae.length) is S6 S10) (fun p _ _=>[(12,dI p)]) (fun _ _ S10=>S10) (fun p _ _=>c.ai.length-p) (0) ([]) (_) (by exact⟨by omega,rfl,fZ⟩) (fun p is S10 hI=>?_)
    obtain⟨hp,gg,hC⟩:=hI
    by_cases fL:p<c.ai.length
    ·rw[A2 fL,ba]at gg
     have hlen:=bF List.length gg
     simp at hlen
     have envB:=hC.hS _ _ env
     have u1:i9≠j3:=A7 hC.o9 hC.o3 (by simp)
     have u2:ib≠j3:=A0 env l12
     have u3:i8≠j3:=A7 hC.o8 hC.o3 (by simp)
     have b9:(S10.out fun j=>j=j3) i9=_:=BO hC.o9 u1
     have b8:(S10.out fun j=>j=j3) i8=_:=BO hC.o8 u3
     have bB:(S10.out fun j=>j=j3) ib=_:=BO envB u2
     have d6:Sub (S10.out fun j=>j=j3) S10:=AU _ _
     have fO:Sub (S10.out fun j=>j=j3) (S10.set j3 (.tail 2 (is.length+1))):=fun j o hj=>by
      obtain⟨h1,h2⟩:=Bm hj
      rw[w8 _ _ h2];exact h1
     have o3:=hC.o3
     have o9:=hC.o9
     have o8:=hC.o8
     refine gf o8 ?_ (delO 23 o53) [2,8,9,14]
     refine CI (id:=23) [0,1,2,3,4,5,6,7,8,9,10,11,13,14,15,16,17,18,12,19,20,21,22] [12,21] (S10.out fun j=>j=j3) d6 ?_
     refine gf (gi b8 (gi b9 (gi bB (gi o3 o9)))) ?_ o53 [2,8,9,14]
     exact⟨p+1,is++[⟨idxG c.ai[p].slot (slotsR f) 0,c.ai[p].n⟩],_,⟨by omega,by rw[aT];exact gg,hC.ini _ (aQ l7) (aQ l3) (aQ e1) e2 l12⟩,td1,wkR⟩
    ·rw[A1 fL,bJ,bb]at gg
     subst gg
     have o8:=hC.o8
     have o9:=hC.o9
     have envB:=hC.hS _ _ env
     have oc:=hC.hS _ _ hF.oc
     refine gf o8 ?_ (delO 24 o53) [2,8,9,14]
     refine dwp_wk (BW (az:=[]) (bs:=[.slice (cI (seqI q c.ae.length)) (.tag j2),.slice ((c.ai.map fun x=>(⟨idxG x.slot (slotsR f) 0,x.n⟩:Init)).map Dg) (.tag j3)]) (d':=sl (cI (c.ag.map (clsN (ownR f))))) o9 (Ao _ _)) ?_
     refine dwp_wk (BW (az:=[sl (cI (c.ag.map (clsN (ownR f))))]) (bs:=[.slice ((c.ai.map fun x=>(⟨idxG x.slot (slotsR f) 0,x.n⟩:Init)).map Dg) (.tag j3)]) (d':=sl (cI (seqI q c.ae.length))) (w7 ..) (Ao _ _)) ?_
     refine dwp_wk (BW (az:=[sl (cI (c.ag.map (clsN (ownR f)))),sl (cI (seqI q c.ae.length))]) (bs:=[]) (d':=sl ((c.ai.map fun x=>(⟨idxG x.slot (slotsR f) 0,x.n⟩:Init)).map Dg)) (w7 ..) (Ao _ _)) ?_
     simp only[w9,br,bl,dR]
     have n9b:i9≠ib:=aQ (A0 env e2)
     have n9c:i9≠ic:=aQ (A0 hF.oc e2)
     generalize fK:Sig.set S10 i9 _=S11
     have q9:S11 i9=some (.cells (cBClass (XN f c q))):=by rw[<-fK];exact w7 ..
     have qb:S11 ib=S10 ib:=by rw[<-fK,w8 _ _ (aQ n9b)]
     rw[envB]at qb
     have qc:S11 ic=S10 ic:=by rw[<-fK,w8 _ _ (aQ n9c)]
     rw[oc]at qc
     have nbc:ib≠ic:=A7 env hF.oc (by simp)
     have gK:Sub S6 S11:=by rw[<-fK];exact hC.hS.set e2
     have u9:(S11.out fun j=>j=ic) i9=_:=BO q9 n9c
     have uB:(S11.out fun j=>j=ic) ib=_:=BO qb nbc
     have d6:Sub (S11.out fun j=>j=ic) S11:=AU _ _
     have fO:Sub (S11.out fun j=>j=ic) (S11.set ic (.tail 3 (cl.length+1))):=fun j o hj=>by
      obtain⟨h1,h2⟩:=Bm hj
      rw[w8 _ _ h2];exact h1
     clear fK
     refine CI (id:=24) [0,1,2,3,4,5,6,7,8,9,10,11] [8] (S11.out fun j=>j=ic) d6 ?_
     refine gf (gi u9 (gi uB (gi q9 (gi qb qc)))) ?_ o53 [2,8,9,14]
     exact⟨k+1,q+c.ae.length,cl++[XN f c q],_,⟨by omega,by rw[aH,g9];rfl,by rw[aT];exact hR,by omega,hF.cls gK b3 gI _⟩,td1,wkR⟩
 ·rw[A1 d7,GH,bb]at hR
  subst hR
  have env:=hF.env
  refine gz ?_ o53 [2,8,9,14]
  clear hq g9 hk d7
  refine dwp_wk (BW (az:=[]) (bs:=[dI (slotsR f).length,sl (cI gs),.slice [] (.tag im),.ak,dI 0,sl (cS (ownR f)),sl (cS (slotsR f)),sl (cS (gensN f))]) (d':=sl ((GH f f.aa 0).map cBClass)) env (Ao _ _)) ?_
  simp only[br,dR]
  generalize jl:GH f f.aa 0=bcs at*
  have n1:im≠ib:=A7 hF.om hF.env (by simp)
  have n2:i2≠ib:=A7 hF.o2 hF.env (by simp)
  have n3:i2≠im:=A7 hF.o2 hF.om (by simp)
  generalize fQ:Sig.set S6 ib _=S7
  have fX:NdS ib (sl (bcs.map cBClass)) (dI (slotsR f).length) (sl (cI gs)) (.slice (([]:List ay).map Ag) (.tag im)) (dI 0) (ownR f) (slotsR f) (gensN f) none [] S7:=⟨by rw[<-fQ];exact w7 .., rfl,id⟩
  have x1:S7 im=some (.tail 9 ([]:List ay).length):=by rw[<-fQ,w8 _ _ n1];exact hF.om
  have x5:S7 i2=some (.cells [.ak,dI 0,.ak,.ak,.ak,dI 0]):=by rw[<-fQ,w8 _ _ n2];exact hF.o2
  have xS:Sub V S7:=by rw[<-fQ];exact hF.hS.set b3
  clear fQ hF env
  have iH:wtL aE.wt f.methods<=f.wt:=by unfold aF.wt;omega
  refine Ro [1,2,3,5,16,175,176,177,178,179,180,181,182,183,184,185,186,187] (fun (k:Nat) (ms:List ay) (st:MR) (ns:List aA) (S1:Sig)=>k<=f.methods.length/\ms.length=k/\ns++GG (ownR f) (slotsR f) (gensN f) (f.methods.drop k) ns.length=GG (ownR f) (slotsR f) (gensN f) f.methods 0/\ms++Iv (ownR f) (slotsR f) (gensN f) (f.methods.drop k) ns.length=Iv (ownR f) (slotsR f) (gensN f) f.methods 0/\ns.length+wtL aE.wt (f.methods.drop k)<=f.wt/\NdS ib (sl (bcs.map cBClass)) (dI (slotsR f).length) (sl (cI gs)) (.slice (ms.map Ag) (.tag im)) (dI 0) (ownR f) (slotsR f) (gensN f) st ns S1/\S1 im=some (.tail 9 ms.length)/\S1 i2=some (.cells [.ak,dI 0,.ak,.ak,.ak,dI 0]) /\ ¬Bt st i2/\Sub V S1/\(∀j x,V j=some x->¬Bt st j)) (fun k _ _ _ _=>[(13,dI k)]) (fun _ _ _ _ S1=>S1) (fun k _ _ _ _=>f.methods.length-k) (0) ([]) (none) ([]) (S7) (by exact⟨by omega,rfl,rfl,rfl,by simpa using iH,fX,x1,x5,id,xS,fun _ _ _=>id⟩) (fun k ms st ns S1 hI=>?_)
  obtain⟨hk,iR,gc,d9,e9,hB,o1,o5,o6,oS,oR⟩:=hI
  have gE:(ownR f).length<=1000000000:=by unfold ownR;rw[aZ];omega
  by_cases d7:k<f.methods.length
  ·rw[A2 d7]at gc d9 e9
   rw[GG]at gc
   rw[Iv]at d9
   rw[wtL]at e9
   have iF:=p5 k d7
   generalize gZ:f.methods[k]=m at*
   have fL:m.params.length<=f.wt/\m.body.wt<=f.wt/\m.fact.wt<=f.wt:=by have:=iF;unfold aE.wt at this;have:=Bb m.params;omega
   obtain⟨g1,g2,g3⟩:=fL
   have iV:m.body.wt<=aE.wt m:=by unfold aE.wt;omega
   have iW:ns.length+m.body.wt<=100000000:=by omega
   refine gf gZ ?_ o53 [2,8,9,14]
   refine newV (fun i14 d8=>?_)
   refine gf gZ ?_ o53 [2,8,9,14]
   have jt:=hB.fresh (o:=.cells [dI m.kind,.str m.name,sl (cS m.params),dI m.fact.op,.str m.fact.name,sl (cS m.fact.path),.str m.fact.cls,dI m.fact.n,sl (m.fact.ah.map B6),dI m.body.op,dI m.body.n,.str m.body.text,sl (m.body.ah.map Al)]) d8
   have f7:i14≠im:=fun e=>by rw[e,o1]at d8;cases d8
   have fU:∀{j x},(∀c,x≠.cells c)->S1 j=some x->¬Bt st j:=fun hx hj hr=>by obtain⟨cs,hc⟩:=hB.row.cells hr;rw[hj]at hc;cases hc;exact hx _ rfl
   have i131:=LA (ib:=ib) (a:=sl (bcs.map cBClass)) (b:=dI (slotsR f).length) (c:=sl (cI gs)) (d:=.slice (ms.map Ag) (.tag im)) (f:=dI 0) (names:=ownR f) (ae:=slotsR f) (aj:=gensN f) gE (by omega) (by omega) m.body.wt m.body m.params .no st ns _ (bm _) iW (by omega) jt
   refine Ac i131 (fun x S2 hr=>?_) (fun x S2 hr=>by cases hr.1)
   clear i131
   obtain⟨e1,st2,e7,fR⟩:=hr
   cases e1
   have kp:∀{j x},S1 j=some x->j≠ib->¬Bt st j->S2 j=some x /\ ¬Bt st2 j:=fun hj hb hr=>fR _ _ (by rw[w8 _ _ (A0 hj d8)];exact hj) hb hr
   obtain⟨t1,t1r⟩:=kp o1 n1 (fU (by simp) o1)
   obtain⟨t5,t5r⟩:=kp o5 n2 o6
   have tS:∀j x,V j=some x->S2 j=some x /\ ¬Bt st2 j:=fun j x hj=>kp (oS _ _ hj) (A0 hj b3) (oR _ _ hj)
   obtain⟨t14,_⟩:=fR i14 _ (w7 ..) (fun e=>by rw[e,hB.env]at d8;cases d8) (hB.notrow d8)
   have go:=Sf (ib:=ib) (a:=sl (bcs.map cBClass)) (b:=dI (slotsR f).length) (c:=sl (cI gs)) (d:=.slice (ms.map Ag) (.tag im)) (f:=dI 0) (names:=ownR f) (ae:=slotsR f) (aj:=gensN f) gE (by omega) m.params .no (by omega) m.fact.wt m.fact S2 (bm _) (by omega) e7.bds
   have m1:ib≠im:=aQ n1
   have u1:(S2.out (· = im)) ib=_:=BO e7.env m1
   have u14:(S2.out (· = im)) i14=_:=BO t14 f7
   have f0:Sub (S2.out (· = im)) (S2.set im (.tail 9 (ms.length+1))):=fun j x hj=>by
    obtain⟨h1,h2⟩:=Bm hj
    rw[w8 _ _ h2];exact h1
   have gX:Sub (S2.out (· = im)) S2:=AU _ _
   refine gz ?_ (delO 30 o53) [2,8,9,14]
   refine CI (id:=30) [0,1,2,3,4,5,6,7,8,9,10,12,13,14,15,16,18,11,17,19,20,21,22,23,24] [11,17,21] (S2.out (· = im)) (AU _ _) ?_
   repeat' first|refine gf (gi u1 (gi u14 (gi t14 (gi t1 e7.env)))) ?_ [] [2,8,9,14]|refine moR (go) ?_|refine moP (go) ?_|refine gf (gi u1 (gi u14 (gi t14 (gi t1 e7.env)))) ?_ o53 [2,8,9,14]|apply gy<;>intro hh
   generalize gu:Sig.set _ ib _=qq
   have fJ:=G7 (names:=ownR f) (ae:=slotsR f) (aj:=gensN f) m.body m.params ns.length
   have c1:qq ib=some (.cells [sl (bcs.map cBClass),dI (slotsR f).length,sl (cI gs),.slice ((ms++[(⟨m.kind,idxG m.name (gensN f) 0,G6 (ownR f) (slotsR f) m.params m.fact,ns.length⟩:ay)]).map Ag) (.tag im),mD st2 (ns++Fp (ownR f) (slotsR f) (gensN f) m.body m.params ns.length).length,dI 0,sl (cS (ownR f)),sl (cS (slotsR f)),sl (cS (gensN f))]):=by
    rw[<-gu,w7,aH]
    simp only[bI,ba,bJ,Ag,Ds,bl,br]
   have kq:∀{j x},S2 j=some x->j≠ib->j≠im->qq j=some x:=fun hj h1 h2=>by rw[<-gu,w8 _ _ h1,w8 _ _ h2];exact hj
   have jr:NdS ib (sl (bcs.map cBClass)) (dI (slotsR f).length) (sl (cI gs)) (.slice ((ms++[(⟨m.kind,idxG m.name (gensN f) 0,G6 (ownR f) (slotsR f) m.params m.fact,ns.length⟩:ay)]).map Ag) (.tag im)) (dI 0) (ownR f) (slotsR f) (gensN f) st2 (ns++Fp (ownR f) (slotsR f) (gensN f) m.body m.params ns.length) qq:=
    ⟨c1,e7.row.keep fun j x hj hr=>kq hj (fun e=>e7.nr (by rw[<-e];exact hr)) (fun e=>t1r (by rw[<-e];exact hr)),e7.nr⟩
   have cim:qq im=some (.tail 9 (ms++[(⟨m.kind,idxG m.name (gensN f) 0,G6 (ownR f) (slotsR f) m.params m.fact,ns.length⟩:ay)]).length):=by rw[<-gu,w8 _ _ (aQ m1),w7,aH];rfl
   have c5:=kq t5 n2 n3
   have cS:Sub V qq:=fun j x hj=>kq (tS j x hj).1 (A0 hj b3) (A0 hj gH)
   clear gu
   exact⟨k+1,ms++[⟨m.kind,idxG m.name (gensN f) 0,G6 (ownR f) (slotsR f) m.params m.fact,ns.length⟩],st2,ns++Fp (ownR f) (slotsR f) (gensN f) m.body m.params ns.length,qq,⟨by omega,by rw[aH,iR];rfl,by rw[aT,aH,fJ];exact gc,by rw[aT,aH,fJ];exact d9,by rw[aH,fJ];have:=aB.cnt_le m.body;omega,jr,cim,c5,t5r,cS,fun j x hj=>(tS j x hj).2⟩,td1,wkR⟩
  ·rw[A1 d7,GG,bb]at gc
   rw[A1 d7,Iv,bb]at d9
   have jz:=aB.cnt_le f.main
   refine gz ?_ o53 [2,8,9,14]
   refine Ac (au.wk (args:=[.ptr ib 0,.agg (Al f.main),.ak]) (LA (ib:=ib) (a:=sl (bcs.map cBClass)) (b:=dI (slotsR f).length) (c:=sl (cI gs)) (d:=.slice (ms.map Ag) (.tag im)) (f:=dI 0) (names:=ownR f) (ae:=slotsR f) (aj:=gensN f) gE (by omega) (by omega) f.main.wt f.main [] .no st ns _ (bm _) (by omega) (by simp only[cf];omega) hB) (AL (A9 _) (AL (A9 _) (AL (Am _ (.inl rfl)) GJ)))) (fun x S2 hr=>?_) (fun x S2 hr=>by cases hr.1)
   obtain⟨e1,st2,e7,fR⟩:=hr
   cases e1
   obtain⟨t5,t5r⟩:=fR _ _ o5 n2 o6
   have tS:∀j x,V j=some x->S2 j=some x /\ ¬Bt st2 j:=fun j x hj=>fR _ _ (oS _ _ hj) (A0 hj b3) (oR _ _ hj)
   have ji:OU f=⟨bcs,(slotsR f).length,gs,ms,ns++Fp (ownR f) (slotsR f) (gensN f) f.main [] ns.length,ns.length⟩:=by unfold OU;rw[jl,jo,<-gc,<-d9]
   generalize gY:ns++Fp (ownR f) (slotsR f) (gensN f) f.main [] ns.length=nn at*
   obtain⟨S4,rfl,iU,gG,_⟩:=e7.row.mS
   have d1:=gG _ _ e7.env e7.nr
   have d5:=gG _ _ t5 t5r
   have dS:Sub V S4:=fun j x hj=>gG _ _ (tS j x hj).1 (tS j x hj).2
   refine BA (EZ (az:=[sl (bcs.map cBClass),dI (slotsR f).length,sl (cI gs),.slice (ms.map Ag) (.tag im)]) (bs:=[dI 0,sl (cS (ownR f)),sl (cS (slotsR f)),sl (cS (gensN f))]) iU (by rw[aZ];exact d1)) ?_
   refine BA (BW (az:=[sl (bcs.map cBClass),dI (slotsR f).length,sl (cI gs)]) (d:=.slice (ms.map Ag) (.tag im)) (d':=sl (ms.map Ag)) (bs:=[sl (nn.map Ab),dI 0,sl (cS (ownR f)),sl (cS (slotsR f)),sl (cS (gensN f))]) (w7 ..) (Ao _ _)) ?_
   rw[w9]
   have e1:(S4.set ib (.cells [sl (bcs.map cBClass),dI (slotsR f).length,sl (cI gs),sl (ms.map Ag),sl (nn.map Ab),dI 0,sl (cS (ownR f)),sl (cS (slotsR f)),sl (cS (gensN f))])) ib=some (.cells [sl (bcs.map cBClass),dI (slotsR f).length,sl (cI gs),sl (ms.map Ag),sl (nn.map Ab),dI 0,sl (cS (ownR f)),sl (cS (slotsR f)),sl (cS (gensN f))]):=w7 ..
   have e5:(S4.set ib (.cells [sl (bcs.map cBClass),dI (slotsR f).length,sl (cI gs),sl (ms.map Ag),sl (nn.map Ab),dI 0,sl (cS (ownR f)),sl (cS (slotsR f)),sl (cS (gensN f))])) i2=some (.cells [.ak,dI 0,.ak,.ak,.ak,dI 0]):=by rw[w8 _ _ n2];exact d5
   have eS:Sub V (S4.set ib (.cells [sl (bcs.map cBClass),dI (slotsR f).length,sl (cI gs),sl (ms.map Ag),sl (nn.map Ab),dI 0,sl (cS (ownR f)),sl (cS (slotsR f)),sl (cS (gensN f))])):=dS.set b3
   generalize fW:S4.set ib (.cells ([sl (bcs.map cBClass),dI (slotsR f).length,sl (cI gs)]++sl (ms.map Ag)::[sl (nn.map Ab),dI 0,sl (cS (ownR f)),sl (cS (slotsR f)),sl (cS (gensN f))]))=S5
   have fW:S4.set ib (.cells [sl (bcs.map cBClass),dI (slotsR f).length,sl (cI gs),sl (ms.map Ag),sl (nn.map Ab),dI 0,sl (cS (ownR f)),sl (cS (slotsR f)),sl (cS (gensN f))])=S5:=fW
   rw[fW]at e1 e5 eS
   clear fW
   have n2':ib≠i2:=aQ n2
   refine gf (gi e1 e5) ?_ o53 [2,8,9,14]
   rw[ji]
   refine finC (S':=V) ⟨rfl,rfl⟩ (hZ:=(eS.set b3).set iv)
end Go.DL
