/- A part of the proof. -/
import Derived.Test.YtlfimpogphmbdaaGreatH19
set_option linter.all false
namespace Go.DL
open Go.Proofs.Tryz
open Go Go.Proofs
set_option maxHeartbeats 8000000
def stepG(x:aH)(s:kZ):Option kZ:=some (if x.op=5 then l5 x.text x.aq.length s else s)
mutual
def genE:aH->kZ->kZ
 |.mk o _ t k,s=>AV k (if o=5 then l5 t k.length s else s)
def AV:List aH->kZ->kZ
 |[],s=>s
 |x::r,s=>AV r (genE x s)
end
mutual
def Jo: ∀(e:aH) (d:Int) (s:kZ),li (fun _ x s=>stepG x s) e d s=some (genE e s)
 |.mk o n t k,d,s=>by rw[li,genE];exact O6 k _ _
def O6: ∀(l:List aH) (d:Int) (s:kZ),DP (fun _ x s=>stepG x s) l d s=some (AV l s)
 |[],d,s=>by rw[DP,AV]
 |x::r,d,s=>by rw[DP,Jo x,AV];exact O6 r _ _
end
def HT(name:Str)(n:Int)(s:kZ):(l5 name n s).1.length<=s.1.length+1:=by
 unfold l5;split<;>simp
def Ob(x:aH)(s s':kZ)(h:stepG x s=some s'):s'.1.length<=s.1.length+1:=by
 unfold stepG at h;cases h;split
 ·exact HT ..
 ·omega
def RA(e:aH)(s:kZ):(genE e s).1.length<=s.1.length+e.wt:=
 MV (fun _ x s=>stepG x s) (fun s=>s.1.length) (fun _ x s s' h=>Ob x s s' h) e 1 s _ (Jo e 1 s)
def metG:List aK->kZ->kZ
 |[],s=>s
 |m::r,s=>metG r (l5 m.name m.params.length s)
def Br(f:aL):List aH:=f.k9.map (·.body)++[f.kH]
def Bj(f:aL):kZ:=AV (Br f) (metG f.k9 ([],true))
def L4(f:aL):f.k9.length+wtL aH.wt (Br f)<=f.wt:=by
 have h:∀l:List aK,l.length+wtL aH.wt (l.map (·.body))<=wtL aK.wt l:=by
  intro l
  induction l with
  |nil=>simp[wtL]
  |cons m l ih=>simp only[aV,bg,wtL,aK.wt];omega
 have:=h f.k9;unfold Br aL.wt;rw[EN];simp only[wtL];omega
def finMC{n:Nat}{fn:Func}{R:DE->Sig->Prop}{γ:Fr}{V U':Sig}{ds:fQ}{d':D}(js:fU)(hR:R (.ret d') U')(hZ:Sub U' (dels js V))(hn:js.Nodup)(hd:∀j∈js,V j=some .defs)(h:resL tab (dels js V) γ fn.results.toList=some ds)(hw:WkD (LF ds) d'): ∃s',Wk prog n ⟨γ,V,js.map .coll⟩ s'/\Ub prog n fn (Weak R) .ret s':=
 ⟨_,Wk.refl _ _ _,js,rfl,hn,hd,LF ds,DG Ag h,.ret d',U',hw,hZ,hR⟩
def Ml(f:aL)(V:Sig)(hw:f.wt<=100000000):aB prog 191 [.agg (AS f)] V (rS (.tup [sl (cS ((Bj f).1.map (·.1))),.any,.bool (Bj f).2]) V):=by
 obtain⟨p1,p2,p3,p4,p5⟩:=f.wt_le;have ka:=L4 f;refine Bw func191 rfl (by decide) ntmps191 k7 ?_
 try refine gz ?_ o191 [2,3,4]
 refine kR (fun il gR=>?_)
 try refine gz ?_ o191 [2,3,4]
 refine kR (fun im gH=>?_)
 try refine gz ?_ o191 [2,3,4]
 refine kR (fun ib iM=>?_)
 try refine gz ?_ o191 [2,3,4]
 refine UN (fun mp jA=>?_);obtain⟨a1,b1⟩:=A8 gH;obtain⟨a2,b2⟩:=A8 iM;obtain⟨a3,b3⟩:=A8 b2;obtain⟨a4,b4⟩:=A8 jA;obtain⟨a5,b5⟩:=A8 b4;obtain⟨a6,b6⟩:=A8 b5;have c1:=a1.symm;have c2:=a2.symm;have c3:=a3.symm;have c4:=a4.symm;have c5:=a5.symm;have c6:=a6.symm
 try refine gz ?_ o191 [2,3,4]
 generalize gJ:Sig.set (Sig.set _ im _) ib _=S6;have o1:S6 il=some (.cells [.av]):=by rw[<-gJ];simp[w8 _ _ c1,w8 _ _ c3,w8 _ _ c6]
 have o2:S6 im=some (.cells [.map mp]):=by rw[<-gJ];simp[w8 _ _ c2]
 have o3:S6 ib=some (.cells [.bool true]):=by rw[<-gJ];simp
 have o4:S6 mp=some (.map (eSN [])):=by rw[<-gJ];simp[w8 _ _ a4,w8 _ _ a5]
 have jo:Sub V S6:=fun j x hj=>by
  have e1:j≠il:=A3 hj gR;have e2:j≠im:=A3 hj b1;have e3:j≠ib:=A3 hj b3;have e4:j≠mp:=A3 hj b6;rw[<-gJ];simp only[w8 _ _ e1,w8 _ _ e2,w8 _ _ e3,w8 _ _ e4];exact hj
 clear gJ;refine Bt il 0 1 (ds:=[.av]) o1 rfl (fun it e8=>?_);have t1:il≠it:=A3 o1 e8;have t2:im≠it:=A3 o2 e8;have t3:ib≠it:=A3 o3 e8;have t4:mp≠it:=A3 o4 e8;generalize g7:Sig.set (Sig.set _ it _) il _=S7
 have jR:GenS mp ib il it S7 ([],true):=by
  rw[<-g7];exact⟨by simp[w8 _ _ a6,w8 _ _ t4];exact o4,by simp[w8 _ _ a3,w8 _ _ t3];exact o3,by simp[cS],by simp[w8 _ _ (aZ t1)]⟩
 have jC:S7 im=some (.cells [.map mp]):=by rw[<-g7];simp[w8 _ _ a1,w8 _ _ t2];exact o2
 have hz:∀j,S6 j=none->V j=none:=fun j hj=>by
  cases h:V j with
  |none=>rfl
  |some o=>rw[jo _ _ h]at hj;cases hj
 have jN:Sub V S7:=fun j x hj=>by
  have e1:j≠il:=A3 hj gR;have e2:j≠it:=fun e=>by rw[e,hz _ e8]at hj;cases hj
  rw[<-g7,w8 _ _ e1,w8 _ _ e2];exact jo _ _ hj
 clear g7
 have iW:∀j,tG mp ib il it j->V j=none:=fun j hj=>by
  rcases hj with rfl|rfl|rfl|rfl
  ·exact b6
  ·exact b3
  ·exact gR
  ·exact hz _ e8
 have gQ:¬tG mp ib il it im:=fun h=>by
  rcases h with h|h|h|h
  ·exact c5 h
  ·exact c2 h
  ·exact a1 h
  ·exact t2 h
 refine Yy [1,2,3,4,5,10,11,16,17,35,36,37,38,39,40,41,42,43,44,45,46,47,48,49,50,51,52,53,54,55,56,57,58,59,60,61] (fun (k:Nat) (out:List aH) (o:Own) (s:kZ) (S1:Sig)=>k<=f.k9.length/\out=(f.k9.take k).map (·.body)/\(o=.clip \/ ∃i,o=.tag i/\S1 i=some (.tail 4 out.length)/\V i=none /\ ¬tG mp ib il it i)/\s.1.length<=k/\metG f.k9 ([],true)=metG (f.k9.drop k) s/\GenS mp ib il it S1 s/\S1 im=some (.cells [.map mp])/\Sub V S1) (fun k out o _ _=>[(18,dI k),(6,.slice (out.map Af) o)]) (fun _ _ _ _ S1=>S1) (fun k _ _ _ _=>f.k9.length-k) (0) ([]) (.clip) (_) (S7) (by exact⟨k0,rfl,.inl rfl,bn _,rfl,jR,jC,jN⟩) (fun k out o s S1 hI=>?_);obtain⟨hk,f0,ho,gL,hR,hG,hm,hS⟩:=hI;have gB:out.length=k:=by rw[f0];simp;omega
 by_cases d6:k<f.k9.length
 ·rw[A0 d6,metG]at hR;have iE:=p5 k d6;have iU:f.k9[k].params.length<=1073741824/\f.k9[k].name.length<=1073741824:=by have:=iE;unfold aK.wt at this;have:=Bc f.k9[k].params;omega
  have jn:out++[(f.k9[k]).body]=(f.k9.take (k+1)).map (·.body):=by rw[f0,AQ d6,bL];rfl
  try refine gz ?_ o191 [2,3,4]
  refine Ad (Me f.k9[k].name f.k9[k].params.length im mp ib il it s S1 k0 hm hG c3.symm) (fun x S2 hr=>?_);obtain⟨e1,e7,hK⟩:=hr;cases e1;have gb:S2 im=some (.cells [.map mp]):=hK _ _ hm gQ;have gD:Sub V S2:=fun j x hj=>hK _ _ (hS _ _ hj) fun ht=>by rw[iW j ht]at hj;cases hj
  have jv:=HT f.k9[k].name f.k9[k].params.length s;rcases ho with rfl|⟨i,rfl,gc,gg,e8⟩
  ·try refine gz ?_ o191 [2,3,4]
   refine appC (fun j hj=>?_)
   try refine gz ?_ o191 [2,3,4]
   have jH:V j=none:=gD.none hj
   have gP:¬tG mp ib il it j:=fun ht=>by
    rcases ht with rfl|rfl|rfl|rfl
    ·rw[e7.om]at hj;cases hj
    ·rw[e7.ob]at hj;cases hj
    ·rw[e7.ol]at hj;cases hj
    ·rw[e7.ot]at hj;cases hj
   have gh:GenS mp ib il it (S2.set j (.tail 4 (out++[(f.k9[k]).body]).length)) (l5 f.k9[k].name f.k9[k].params.length s):=
    ⟨by rw[w8 _ _ fun e=>gP (.inl e.symm)];exact e7.om,by rw[w8 _ _ fun e=>gP (.inr (.inl e.symm))];exact e7.ob,by rw[w8 _ _ fun e=>gP (.inr (.inr (.inl e.symm)))];exact e7.ol,by rw[w8 _ _ fun e=>gP (.inr (.inr (.inr e.symm)))];exact e7.ot⟩
   have iJ:(S2.set j (.tail 4 (out++[(f.k9[k]).body]).length)) im=some (.cells [.map mp]):=by rw[w8 _ _ (A3 gb hj)];exact gb
   have gA:Sub (S2.set j (.tail 4 (out++[(f.k9[k]).body]).length)) (S2.set j (.tail (tab 40).size ((out.map Af).length+[Af (f.k9[k]).body].length))):=by simp;exact Sub.refl _
   exact⟨k+1,out++[(f.k9[k]).body],.tag j,_,S2.set j (.tail 4 (out++[(f.k9[k]).body]).length),⟨k0,jn,.inr ⟨j,rfl,w7 .., jH,gP⟩,k0,hR,gh,iJ,gD.trans ((Sub.refl _).set hj)⟩,td1,wkR⟩
  ·have ji:=hK _ _ gc e8
   try refine gf ji ?_ o191 [2,3,4]
   have gh:GenS mp ib il it (S2.set i (.tail 4 (out++[(f.k9[k]).body]).length)) (l5 f.k9[k].name f.k9[k].params.length s):=
    ⟨by rw[w8 _ _ fun e=>e8 (.inl e.symm)];exact e7.om,by rw[w8 _ _ fun e=>e8 (.inr (.inl e.symm))];exact e7.ob,by rw[w8 _ _ fun e=>e8 (.inr (.inr (.inl e.symm)))];exact e7.ol,by rw[w8 _ _ fun e=>e8 (.inr (.inr (.inr e.symm)))];exact e7.ot⟩
   have iJ:(S2.set i (.tail 4 (out++[(f.k9[k]).body]).length)) im=some (.cells [.map mp]):=by rw[w8 _ _ (Ab gb ji k7)];exact gb
   have gA:Sub (S2.set i (.tail 4 (out++[(f.k9[k]).body]).length)) (S2.set i (.tail 4 (out.length+1))):=by simp;exact Sub.refl _
   exact⟨k+1,out++[(f.k9[k]).body],.tag i,_,S2.set i (.tail 4 (out++[(f.k9[k]).body]).length),⟨k0,jn,.inr ⟨i,rfl,w7 .., gg,e8⟩,k0,hR,gh,iJ,gD.set gg⟩,td1,wkR⟩
 ·have jD:k=f.k9.length:=by omega
  subst jD;rw[A1 d6,metG]at hR;rw[dN]at f0;have iO:Bj f=AV (out++[f.kH]) s:=by unfold Bj Br;rw[hR,f0]
  have gI:out++[f.kH]=Br f:=by unfold Br;rw[f0]
  have jf:(Br f).length<=f.wt:=by rw[<-gI,aO,gB];simp;omega
  rw[gI]at iO;clear hR
  obtain⟨Sc,jQ,jB,jM,gT⟩:∃Sc,GenS mp ib il it Sc s/\Sc im=some (.cells [.map mp])/\Sub V Sc/\(o=.clip/\Sub Sc S1 \/ ∃i,o=.tag i/\S1 i=some (.tail 4 out.length) /\ ∀x,Sub Sc (S1.set i x)):=by
   rcases ho with rfl|⟨i,rfl,gc,gg,e8⟩
   ·exact⟨S1,hG,hm,hS,.inl ⟨rfl,Sub.refl _⟩⟩
   ·have e:∀j,j≠i->(S1.del i) j=S1 j:=fun j hj=>by simp only[Sig.del,hj,bl]
    refine⟨S1.del i,⟨?_,?_,?_,?_⟩,?_,fun j x hj=>?_,.inr ⟨i,rfl,gc,fun x j y hj=>?_⟩⟩
    ·rw[e _ fun e=>e8 (.inl e.symm)];exact hG.om
    ·rw[e _ fun e=>e8 (.inr (.inl e.symm))];exact hG.ob
    ·rw[e _ fun e=>e8 (.inr (.inr (.inl e.symm)))];exact hG.ol
    ·rw[e _ fun e=>e8 (.inr (.inr (.inr e.symm)))];exact hG.ot
    ·rw[e _ (Ab hm gc k7)];exact hm
    ·rw[e _ fun e=>by rw[e,gg]at hj;cases hj];exact hS _ _ hj
    ·by_cases h:j=i
     ·simp only[Sig.del,h,bI]at hj;cases hj
     ·rw[e _ h]at hj;rw[w8 _ _ h];exact hj
  clear ho
  repeat ((fail_if_success (first|(refine ky (b:=.block 2 _) [(39,sl ((Br f).map Af)),(40,dI (Br f).length),(41,dI 0)] Sc ?_ (fun _ hK=>?_))|fail));(refine goX1 trivial ?_))
  refine ky (b:=.block 2 _) [(39,sl ((Br f).map Af)),(40,dI (Br f).length),(41,dI 0)] Sc ?_ (fun _ hK=>?_)
  ·have jw:0<=(Br f).length:=fi _;generalize j5:Br f=es at*
   try refine gz ?_ o191 [2,3,4]
   refine loopD4 [2,3,4,5,39,40,47,59,60,61] (fun (q:Nat) (s1:kZ) (S2:Sig) (js:fU)=>q<=es.length/\s1.1.length+wtL aH.wt (es.drop q)<=100000000/\AV es s=AV (es.drop q) s1/\GenS mp ib il it S2 s1/\S2 im=some (.cells [.map mp])/\Sub V S2/\js.Nodup/\(∀j∈js,V j=none/\S2 j=some .defs)) (fun q _ _ _=>[(41,dI q)]) (fun _ _ S2 _=>S2) (fun _ _ _ js=>js.map .coll) (fun q _ _ _=>es.length-q) (0) (s) (Sc) ([]) (by exact⟨k0,by rw[dE];omega,rfl,jQ,jB,jM,k7,k7⟩) (fun q s1 S2 js hI=>?_);obtain⟨hq,hB,hR,e7,gb,gD,ja,gu⟩:=hI
   by_cases iX:q<es.length
   ·rw [A0 iX] at hB hR;rw[wtL]at hB;rw[AV]at hR;have jt:es[q].wt<=100000000:=by omega
    have gE:MonoG (fun (V:Sig) (s:kZ)=>GenS mp ib il it V s/\V im=some (.cells [.map mp])):=fun V U' s ⟨⟨g1,g2,g3,g4⟩,g5⟩ hj=>⟨⟨hj _ _ g1 rfl,hj _ _ g2 rfl,hj _ _ g3 rfl,hj _ _ g4 rfl⟩,hj _ _ g5 rfl⟩
    have gV:∀j,tG mp ib il it j->S2 j≠none/\S2 j≠some .defs:=fun j hj=>by
     rcases hj with rfl|rfl|rfl|rfl
     ·rw[e7.om];simp
     ·rw[e7.ob];simp
     ·rw[e7.ol];simp
     ·rw[e7.ot];simp
    have jZ:=RA es[q] s1
    repeat' first|refine gz ?_ [] [2,3,4]|refine Au (KO es[q] S2) ?_|refine callP (KO es[q] S2) ?_|refine gz ?_ o191 [2,3,4]|apply gy<;>intro hh
    refine K9 l7 (fun (V:Sig) (s:kZ)=>GenS mp ib il it V s/\V im=some (.cells [.map mp])) (tG mp ib il it) (tG mp ib il it) (some (genE es[q] s1)) s1 (gE.indep _) gE.fresh ⟨e7,gb⟩ (fun j hj=>(gV j hj).1) (fun j hj=>(gV j hj).1) rfl (fun l did LO SL g8 hd hl iV ki iQ jz=>?_) (fun did s' U' ho iP jl jq hk=>?_) (fun did U' ho iP jl hk=>by cases ho)
    ·rw[<-Jo es[q] 1 s1];refine(Tl l _ (tG mp ib il it) (fun j=>tG mp ib il it j\/j=l) stepG es[q] SL s1 (fun s=>s.1.length) 100000000 Ob k0 k0 (fun x S3 s hx jV gh=>?_) (iQ.indep (gE.indep _)) (fun V s a o h ha=>h.new gE.fresh ha) iQ (fun j h=>.inl h) (fun j hj h=>?_)).mono (fun x U' hx=>by rw[Jo]at hx⊢; exact hx)
     ·have ij:=gh.busy g8 (gE.indep _) hl;obtain⟨ij,iI⟩:=ij;refine EW g8 gh.1 ?_
      try refine gz ?_ o191 [2,3,4]
      refine⟨gh.1,?_⟩
      by_cases h5:x.op=5
      ·have iG:stepG x s=some (l5 x.text x.aq.length s):=by unfold stepG;rw[aS h5]
       have gx:x.aq.length<=1073741824:=by have:=x.wt_le;omega
       try refine gf h5 ?_ o191 [2,3,4]
       refine Ad (Me x.text x.aq.length im mp ib il it s _ k0 iI ij c3.symm) (fun x S4 hr=>?_);obtain⟨e1,jS,jp⟩:=hr;cases e1
       try refine gz ?_ o191 [2,3,4]
       exact IW iG g8 (gE.indep _) gh iV hl ⟨jS,jp _ _ iI gQ⟩ jp
      ·have iG:stepG x s=some s:=by unfold stepG;rw[aQ h5]
       try refine gf h5 ?_ o191 [2,3,4]
       exact IW iG g8 (gE.indep _) gh iV hl ⟨ij,iI⟩ (kQ.refl _ _)
     ·rcases h with h|h
      ·exact jz j hj h
      ·rw[h,iQ.1]at hj;cases hj
    ·cases ho
     try refine gz ?_ o191 [2,3,4]
     have jG:Sub V U':=fun j x hj=>(hk j x (gD _ _ hj) fun ht=>by rw[iW j ht]at hj;cases hj).1
     have jF:(did::js).Nodup:=cE.2 ⟨fun hm=>(hk did _ (gu did hm).2 fun ht=>(gV did ht).2 (gu did hm).2).2 rfl,ja⟩
     have gZ:∀j∈did::js,V j=none/\U' j=some .defs:=fun j hj=>by
      rcases be.1 hj with rfl|hj
      ·exact⟨gD.none iP,jl⟩
      ·exact⟨(gu j hj).1,(hk j _ (gu j hj).2 fun ht=>(gV j ht).2 (gu j hj).2).1⟩
     exact⟨q+1,genE es[q] s1,U',did::js,⟨k0,k0,hR,jq.1,jq.2,jG,jF,gZ⟩,td1,wkR⟩
   ·rw[A1 iX,AV]at hR;obtain⟨z1,z2,z3,z4⟩:=e7;have y1:S2.set il (.cells [.slice (cS (s1.1.map (·.1))) (.tag it)])=S2:=Sig.set_self _ z3;have y2:S2.set im (.cells [.map mp])=S2:=Sig.set_self _ gb;have y3:S2.set ib (.cells [.bool s1.2])=S2:=Sig.set_self _ z2;have s3:Sub S2 (S2.set il (.cells [.slice (cS (s1.1.map (·.1))) (.tag it)])):=by rw[y1];exact Sub.refl _
    have s4:Sub S2 ((S2.set il (.cells [.slice (cS (s1.1.map (·.1))) (.tag it)])).set im (.cells [.map mp])):=by rw[y1,y2];exact Sub.refl _
    have s5:Sub S2 (((S2.set il (.cells [.slice (cS (s1.1.map (·.1))) (.tag it)])).set im (.cells [.map mp])).set ib (.cells [.bool s1.2])):=by rw[y1,y2,y3];exact Sub.refl _
    try refine gf (gi z1 (gi z2 (gi z3 gb))) ?_ o191 [2,3,4]
    rw[y1,y2,y3]
    have u1:∀j o,S2 j=some o->o≠.defs->(dels js S2) j=some o:=fun j o hj ho=>by
     rw[KZ js S2 j fun hm=>ho (by have:=(gu j hm).2;rw[hj]at this;cases this;rfl)];exact hj
    have v1:=u1 _ _ z3 k7;have v2:=u1 _ _ gb k7;have v3:=u1 _ _ z2 k7;rw[hR]at iO;subst iO;refine finMC js (U':=V) (ds:=[.slice (cS ((Bj f).1.map (·.1))) (.tag it),.map mp,.bool (Bj f).2]) ⟨rfl,rfl⟩ (Yb gD fun j hj=>(gu j hj).1) ja (fun j hj=>(gu j hj).2) (by simp[resL,v1,v2,v3]) ?_;exact Iw ⟨AO _ _,EO _,A9 _,trivial⟩
  ·rcases gT with⟨rfl,gT⟩|⟨i,rfl,gc,gT⟩
   ·try refine gz ?_ o191 [2,3,4]
    refine appC (fun j hj=>?_)
    try refine gz ?_ o191 [2,3,4]
    exact kO (Aw (by first|(simp[<-gI];done)|(simp_all [<-gI];done)) (gT.trans ((Sub.refl _).set hj))) hK
   ·try refine gf gc ?_ o191 [2,3,4]
    exact kO (Aw (by first|(simp[<-gI];done)|(simp_all [<-gI];done)) (gT _)) hK
def GO(m:aK):Bool:=(decide (1<=m.kind)&&decide (m.kind<=4))&&(Ak m.name&&(decide (1<=m.params.length)&&decide (m.params.length<=3)))
def Kn(names am:fP)(m:aK)(n:Int):Option Int:=
 if GO m&&sloE [] m.params then match CV names am m.params m.kJ n with
  |none=>none
  |some k=>Cc names am m.params (decide (m.kind=1\/m.kind=4)) m.body k
 else none
def E5(names am:fP):List aK->Int->Option Int
 |[],n=>some n
 |m::r,n=>match Kn names am m n with
  |none=>none
  |some k=>E5 names am r k
def Bn(f:aL):Option Int:=
 if clsB f&&decide (f.k9.length<=16) then match Cc (f.ak.map (·.name)) (f.ak.flatMap (·.am)) [] false f.kH f.ak.length with
  |none=>none
  |some n=>match E5 (f.ak.map (·.name)) (f.ak.flatMap (·.am)) f.k9 n with
   |none=>none
   |some k=>if(Bj f).2&&decide ((Bj f).1.length<=8) then some k else none
 else none
def CntR(f:aL)(ip ic is:Nat)(V:Sig)(x:DE)(U':Sig):Prop:=
 x=(match Bn f with|some _=>.ret (.tup [])|none=>.panic l7)/\(∃d n,U' ip=some (lC f ic is d n))/\kQ (fun j=>j=ip\/j=ic\/j=is) V U'
def I7{names am args:fP}{lits:Bool}{e:aH}{n m:Int}(h:Cc names am args lits e n=some m)(hn:0<=n):0<=m/\m<=120:=by
 unfold Cc at h;split at h
 ·cases h
 ·rename_i k hk;split at h
  ·rename_i h2;have:=Rr k0 hk;cases h;omega
  ·cases h
def T7{names am args:fP}{e:aI}{n m:Int}(h:CV names am args e n=some m)(hn:0<=n):0<=m/\m<=120:=by
 unfold CV at h;split at h
 ·cases h
 ·rename_i k hk;split at h
  ·rename_i h2;have:=OD k0 hk;cases h;omega
  ·cases h
def OY: ∀(l:List aH) (s:kZ),(AV l s).1.length<=s.1.length+wtL aH.wt l
 |[],s=>by rw[AV];omega
 |x::r,s=>by
  have h1:=RA x s;have h2:=OY r (genE x s);rw[AV,wtL];omega
def Rq: ∀(l:List aK) (s:kZ),(metG l s).1.length<=s.1.length+l.length
 |[],s=>by rw[metG];omega
 |m::r,s=>by
  have h1:=HT m.name m.params.length s;have h2:=Rq r (l5 m.name m.params.length s);rw[metG,aV];omega
def KF(f:aL):(Bj f).1.length<=f.wt:=by
 have h1:=L4 f;have h2:=OY (Br f) (metG f.k9 ([],true));have h3:=Rq f.k9 ([],true);unfold Bj;simp only[cG]at h3;omega
def TG (f:aL) (ip ic is:Nat) (V:Sig) (hw:f.wt<=100000000) (h0:PS f ip ic is V V [] [] [] .av 0) (jm:ic ≠ is) :
  aB prog 184 [.aw [.ptr ip 0] 0,.aw (AS f) 0] V (CntR f ip ic is V):=by
 obtain⟨p1,p2,p3,p4,p5⟩:=f.wt_le;have iL:=h0.prg
 have d9:Bn f=none->∀U',(∃d n,U' ip=some (lC f ic is d n))->kQ (fun j=>j=ip\/j=ic\/j=is) V U'->CntR f ip ic is V (.panic l7) U':=fun h U' h1 h2=>by
  unfold CntR;rw[h];exact⟨rfl,h1,h2⟩
 have j8:f.ak.length<=100000000:=by omega
 refine en func184 ntmps184 ?_;cases hC:clsB f with
 | false =>
  have hN:Bn f=none:=by unfold Bn;rw[hC];rfl
  try refine gz ?_ o184
  refine Ad (Mn f ip ic is V k0 h0 jm) (fun x U' hr=>?_) (fun x U' hr=>?_)
  ·unfold ClsR at hr;rw[hC,aQ k7]at hr;cases hr.1
  ·unfold ClsR at hr;rw[hC,aQ k7]at hr;obtain⟨e1,names,am,hs,d,n,hP⟩:=hr;cases e1;exact kV (U':=U') (d9 hN U' ⟨d,n,hP.prg⟩ hP.keep)
 | true =>
  try refine gz ?_ o184
  refine Ad (Mn f ip ic is V k0 h0 jm) (fun x S1 hr=>?_) (fun x S1 hr=>?_)
  ·unfold ClsR at hr;rw [hC,aS rfl] at hr;obtain⟨e1,hs,d,hP⟩:=hr;cases e1;obtain⟨q1,q2,q3,_,q5⟩:=hP;have iZ:ip≠ic:=Ab q1 q2 k7;have iY:ip≠is:=Ab q1 q3 k7;have go:∀U',kQ (· = ip) S1 U'->kQ (fun j=>j=ip\/j=ic\/j=is) V U':=fun U' h j o h1 h2=>h j o (q5 j o h1 h2) fun e=>h2 (.inl e);have gM:∀(x:kM),kQ (· = ip) S1 (S1.set ip x):=fun x j o h1 h2=>by rw[w8 _ _ h2];exact h1
   have fX:Bn f=if f.k9.length<=16 then match Cc (f.ak.map (·.name)) (f.ak.flatMap (·.am)) [] false f.kH f.ak.length with
     |none=>none
     |some n=>match E5 (f.ak.map (·.name)) (f.ak.flatMap (·.am)) f.k9 n with
      |none=>none
      |some k=>if(Bj f).2&&decide ((Bj f).1.length<=8) then some k else none
    else none:=by unfold Bn;rw[hC];simp
   have j7:f.ak.length<=10:=by unfold clsB at hC;simp only[aN,aP]at hC;exact hC.1
   generalize jW:f.ak.map (·.name)=names at*;generalize gL:f.ak.flatMap (·.am)=am at*
   by_cases gG:f.k9.length<=16
   ·rw [aS gG] at fX;have d8:=Mm f ip ic is d f.ak.length names am f.kH [] false S1 k0 k7 ⟨k0,k0⟩ q1 q2 q3
    repeat' first|refine gf q1 ?_ o184|apply gy<;>intro hh
    cases hk:Cc names am [] false f.kH f.ak.length with
    |none=>
     rw[hk]at fX d8;refine callWP d8 (fun x S2 hr=>by cases hr.1) (fun x S2 hr=>?_);obtain⟨e1,m,rfl⟩:=hr;cases e1;exact kV (U':=_) (d9 fX _ ⟨d,m,w7 ..⟩ (go _ (gM _)))
    | some n1 =>
     rw[hk]at fX d8;have jb:=I7 hk k0;refine callWP d8 (fun x S2 hr=>?_) (fun x S2 hr=>by cases hr.1);obtain⟨e1,rfl⟩:=hr;cases e1;have r1:(S1.set ip (lC f ic is d n1)) ip=some (lC f ic is d n1):=w7 ..
     try refine gf r1 ?_ o184
     refine E2 [0,1,7,8,9,31,32,96,97,98,99,100,101,102,103,104,105,106,107,108] (fun (k:Nat) (m:Int) (S2:Sig)=>k<=f.k9.length/\0<=m/\m<=120/\E5 names am f.k9 n1=E5 names am (f.k9.drop k) m/\S2 ip=some (lC f ic is d m)/\kQ (· = ip) S1 S2) (fun k _ _=>[(33,dI k)]) (fun _ _ S2=>S2) (fun k _ _=>f.k9.length-k) (0) (n1) (_) (by exact⟨k0,jb.1,jb.2,rfl,r1,gM _⟩) (fun k m S2 hI=>?_);obtain⟨hk,je,jY,hR,o1,hK⟩:=hI;have o2:S2 ic=some (.map (eSN (Ca names 0))):=hK _ _ q2 (aZ iZ);have o3:S2 is=some (.map (eSS am)):=hK _ _ q3 (aZ iY)
     by_cases d6:k<f.k9.length
     ·rw [A0 d6,E5] at hR;have iE:=p5 k d6;have iU:f.k9[k].body.wt<=100000000/\f.k9[k].kJ.wt<=100000000/\f.k9[k].params.length<=100000000/\wtS f.k9[k].params<=100000000/\f.k9[k].name.length<=100000000:=by have:=iE;unfold aK.wt at this;have:=Bc f.k9[k].params;omega
      generalize jd:f.k9[k]=mt at*;obtain⟨v1,v2,v3,v4,v5⟩:=iU;cases gv:GO mt with
      |false=>
       have hN:Bn f=none:=by rw[fX];simp only[hR,Kn,gv,bw,bz,bl]
       unfold GO at gv
       repeat' first|(exact kV (U':=S2) (d9 hN _ ⟨d,m,o1⟩ (go _ hK)))|refine gf jd ?_ o184|apply gy<;>intro hh
       exfalso
       rw[ep]at gv;apply gv;simp only[aN,aP];exact⟨⟨k0,k0⟩,by assumption,k0,k0⟩
      | true =>
       have f8:=gv;unfold GO at gv;simp only[aN,aP]at gv;obtain⟨⟨g1,g2⟩,g3,g4,g5⟩:=gv
       try refine gf (gi jd g3) ?_ o184
       refine Ng (fun im gH=>?_);have ne1:ip≠im:=A3 o1 gH;have ne2:ic≠im:=A3 o2 gH;have ne3:is≠im:=A3 o3 gH
       have jg:∀U',(∀j x,j≠im->S2 j=some x->U' j=some x)->kQ (· = ip) S1 U':=fun U' h j x h1 h2=>by
        have h3:=hK j x h1 h2;exact h j x (A3 h3 gH) h3
       try refine gz ?_ o184
       refine Bb [0,1,3,4,7,8,9,31,32,33,34,35,36,37,38,39,40,41,42,43,44,45,46,47,48,49,50,51,52,53,54,55,56,57,58,59,60,61,62,63,64,65,66,75,76,77,78,79,80,81,82,83,84,85,86,87,88,89,90,91,92,93,94,95,96,97,98,99,100,101,102,103,104,105,106,107,108] (fun (j:Nat)=>j<=mt.params.length/\sloE [] mt.params=sloE (mt.params.take j) (mt.params.drop j)) (fun j=>[(67,dI j)]) (fun j=>S2.set im (.map (eSS (mt.params.take j)))) (fun j=>mt.params.length-j) (0) k7 (fun j hI=>?_);obtain⟨hj,hE⟩:=hI
       by_cases gY:j<mt.params.length
       ·rw[A0 gY,sloE]at hE;have jx:(mt.params[j]).length<=1073741824:=by have:=JN mt.params j gY;omega
        try refine gz ?_ o184
        refine Ad (Fh mt.params[j] im (mt.params.take j) _ (w7 ..) jx) (fun x S3 hr=>?_) (fun x S3 hr=>?_)
        ·rcases hr with⟨hc,e1,rfl⟩|⟨_,e1,_⟩
         ·cases e1;rw[hc,bd,<-AQ gY]at hE
          try refine gz ?_ o184
          exact⟨j+1,⟨k0,hE⟩,td1,wkR⟩
         ·cases e1
        ·rcases hr with⟨_,e1,_⟩|⟨hc,e1,rfl⟩
         ·cases e1
         ·cases e1;rw[hc,bw]at hE;have hN:Bn f=none:=by rw[fX];simp only[hR,Kn,hE,Bool.and_false,bz,bl]
          exact kV (U':=S2.set im (.map (eSS (mt.params.take j)))) (d9 hN _ ⟨d,m,k8 ne1 o1⟩ (go _ (jg _ fun j x hj hx=>by rw[w8 _ _ hj];exact hx)))
       ·have jE:j=mt.params.length:=by omega
        subst jE;rw[A1 gY,sloE]at hE;generalize gw:S2.set im _=S3;have gN:∀j x,j≠im->S2 j=some x->S3 j=some x:=fun j x hj hx=>by rw[<-gw,w8 _ _ hj];exact hx
        have q1:=gN _ _ ne1 o1;have q2:=gN _ _ ne2 o2;have q3:=gN _ _ ne3 o3;have jP:=jg _ gN;clear gN gw;have fY:∀(x:kM),kQ (· = ip) S1 (S3.set ip x):=fun x j o h1 h2=>by rw[w8 _ _ h2];exact jP j o h1 h2
        have gj:=TF f ip ic is d m names am mt.kJ mt.params S3 k0 k0 ⟨je,k0⟩ q1 q2 q3
        repeat' first|refine gz ?_ o184|apply gy<;>intro hh
        cases gr:CV names am mt.params mt.kJ m with
        |none=>
         rw[gr]at gj;have hN:Bn f=none:=by rw[fX];simp only[hR,Kn,f8,hE,gr,ez,bI]
         refine Ad gj (fun x S4 hr=>by cases hr.1) (fun x S4 hr=>?_);obtain⟨e1,m',rfl⟩:=hr;cases e1;exact kV (U':=_) (d9 hN _ ⟨d,m',w7 ..⟩ (go _ (fY _)))
        | some n2 =>
         rw[gr]at gj;have gW:=T7 gr je;refine Ad gj (fun x S4 hr=>?_);obtain⟨e1,rfl⟩:=hr;cases e1;have r1:(S3.set ip (lC f ic is d n2)) ip=some (lC f ic is d n2):=w7 ..;have r2:(S3.set ip (lC f ic is d n2)) ic=some (.map (eSN (Ca names 0))):=by rw[w8 _ _ (aZ iZ)];exact q2
         have r3:(S3.set ip (lC f ic is d n2)) is=some (.map (eSS am)):=by rw[w8 _ _ (aZ iY)];exact q3
         have d8:=Mm f ip ic is d n2 names am mt.body mt.params (decide (mt.kind=1\/mt.kind=4)) _ k0 k0 ⟨gW.1,k0⟩ r1 r2 r3
         have ga:∀x U',Cc names am mt.params (decide (mt.kind=1\/mt.kind=4)) mt.body n2=none->KnR f ip ic is d none (S3.set ip (lC f ic is d n2)) (.panic x) U'->CntR f ip ic is V (.panic x) U':=fun x U' d7 hr=>by
          have hN:Bn f=none:=by rw[fX];simp only[hR,Kn,f8,hE,gr,d7,ez,bI]
          obtain⟨e1,m',rfl⟩:=hr;cases e1;rw[w9];exact d9 hN _ ⟨d,m',w7 ..⟩ (go _ (fY _))
         by_cases k1:mt.kind=1
         ·try refine gf k1 ?_ o184
          have hb:decide (mt.kind=1\/mt.kind=4)=true:=bf (.inl k1);rw[hb]at d8;refine Ad d8 (fun x S4 hr=>?_) (fun x S4 hr=>?_)
          ·cases d7:Cc names am mt.params true mt.body n2 with
           |none=>rw[d7]at hr;cases hr.1
           |some n3=>
            rw[d7]at hr;obtain⟨e1,rfl⟩:=hr;cases e1;have gk:=I7 d7 gW.1;have gU:E5 names am f.k9 n1=E5 names am (f.k9.drop (k+1)) n3:=by rw[hR];simp only[Kn,f8,hE,gr,hb,d7,ez,bI]
            try refine gz ?_ o184
            exact⟨k+1,n3,S3.set ip (lC f ic is d n3),⟨k0,gk.1,gk.2,gU,w7 .., fY _⟩,td1,wkR⟩
          ·cases d7:Cc names am mt.params true mt.body n2 with
           |none=>rw[d7]at hr;exact kV (U':=S4) (ga _ _ (by rw[hb];exact d7) hr)
           |some n3=>rw[d7]at hr;cases hr.1
         ·by_cases k4:mt.kind=4
          ·try refine gf k4 ?_ o184
           have hb:decide (mt.kind=1\/mt.kind=4)=true:=bf (.inr k4);rw[hb]at d8;refine Ad d8 (fun x S4 hr=>?_) (fun x S4 hr=>?_)
           ·cases d7:Cc names am mt.params true mt.body n2 with
            |none=>rw[d7]at hr;cases hr.1
            |some n3=>
             rw[d7]at hr;obtain⟨e1,rfl⟩:=hr;cases e1;have gk:=I7 d7 gW.1;have gU:E5 names am f.k9 n1=E5 names am (f.k9.drop (k+1)) n3:=by rw[hR];simp only[Kn,f8,hE,gr,hb,d7,ez,bI]
             try refine gz ?_ o184
             exact⟨k+1,n3,S3.set ip (lC f ic is d n3),⟨k0,gk.1,gk.2,gU,w7 .., fY _⟩,td1,wkR⟩
           ·cases d7:Cc names am mt.params true mt.body n2 with
            |none=>rw[d7]at hr;exact kV (U':=S4) (ga _ _ (by rw[hb];exact d7) hr)
            |some n3=>rw[d7]at hr;cases hr.1
          ·try refine gz ?_ o184
           have hb:decide (mt.kind=1\/mt.kind=4)=false:=ba fun h=>h.elim k1 k4;rw[hb]at d8;refine Ad d8 (fun x S4 hr=>?_) (fun x S4 hr=>?_)
           ·cases d7:Cc names am mt.params false mt.body n2 with
            |none=>rw[d7]at hr;cases hr.1
            |some n3=>
             rw[d7]at hr;obtain⟨e1,rfl⟩:=hr;cases e1;have gk:=I7 d7 gW.1;have gU:E5 names am f.k9 n1=E5 names am (f.k9.drop (k+1)) n3:=by rw[hR];simp only[Kn,f8,hE,gr,hb,d7,ez,bI]
             try refine gz ?_ o184
             exact⟨k+1,n3,S3.set ip (lC f ic is d n3),⟨k0,gk.1,gk.2,gU,w7 .., fY _⟩,td1,wkR⟩
           ·cases d7:Cc names am mt.params false mt.body n2 with
            |none=>rw[d7]at hr;exact kV (U':=S4) (ga _ _ (by rw[hb];exact d7) hr)
            |some n3=>rw[d7]at hr;cases hr.1
     ·rw[A1 d6,E5]at hR;simp only at fX;rw[hR]at fX;simp only at fX;have iS:=Ml f S2 hw
      try refine gz ?_ o184
      refine Ad iS (fun x S3 hr=>?_);obtain⟨e1,rfl⟩:=hr;cases e1;have j4:(Bj f).1.length<=100000000:=by have:=KF f;omega
      cases gS:(Bj f).2 with
      |false=>
       have hN:Bn f=none:=by rw[fX,gS];rfl
       repeat' first|(exact kV (U':=S3) (d9 hN _ ⟨d,m,o1⟩ (go _ hK)))|refine gf gS ?_ o184|apply gy<;>intro hh
      | true =>
       rw[gS,bd]at fX
       by_cases jk:(Bj f).1.length<=8
       ·rw[aS (bf jk)]at fX
        try refine gf gS ?_ o184
        refine EA (U':=S3) ⟨by rw[fX],⟨d,m,o1⟩,go _ hK⟩
       ·have hN:Bn f=none:=by rw[fX,aQ (by simpa using jk)]
        repeat' first|(exact kV (U':=S3) (d9 hN _ ⟨d,m,o1⟩ (go _ hK)))|refine gf gS ?_ o184|apply gy<;>intro hh
   ·rw[aQ gG]at fX
    repeat' first|(exact kV (U':=S1) (d9 fX S1 ⟨d,_,q1⟩ q5))|refine gf q1 ?_ o184|apply gy<;>intro hh
  ·unfold ClsR at hr;rw[hC,aS rfl]at hr;cases hr.1
def Vy(f:aL)(V:Sig)(hw:f.wt<=100000000):aB prog 98 [.agg (AS f)] V fun x U'=> ∃n,x=.ret (.tup [dI n,.bool (Bn f).isSome])/\U'=V:=by
 refine en func98 ntmps98 ?_
 try refine gz ?_
 refine UN (fun ic jh=>?_)
 try refine gz ?_
 refine Ng (fun is jI=>?_)
 repeat ((fail_if_success (first|(refine boxV (T:=256) (fun ip iL=>?_))|fail));(refine goX1 trivial ?_))
 refine boxV (T:=256) (fun ip iL=>?_);obtain⟨n1,h1⟩:=A8 jI;obtain⟨n2,h2⟩:=A8 iL;obtain⟨n3,h3⟩:=A8 h2;generalize gw:Sig.set _ ip _=S3;have o1:S3 ip=some (lC f ic is .av 0):=by rw[<-gw];exact w7 ..
 have o2:S3 ic=some (.map (eSN [])):=by rw[<-gw,w8 _ _ (aZ n3),w8 _ _ (aZ n1)];exact w7 ..
 have o3:S3 is=some (.map (eSS [])):=by rw[<-gw,w8 _ _ (aZ n2)];exact w7 ..
 have hS:Sub V S3:=fun j x hj=>by rw[<-gw,w8 _ _ (A3 hj h3),w8 _ _ (A3 hj h1),w8 _ _ (A3 hj jh)];exact hj
 clear gw
 try refine gz ?_
 refine Ad (Wu 184 [.aw [.ptr ip 0] 0,.aw (AS f) 0] S3 (CntR f ip ic is) (fun i hi=>?_) (fun U' d S'' h=>?_) (fun i S'' x hi h=>?_)) (fun x U' hr=>?_) (fun x U' hr=>?_)
 ·have e:∀{j o},S3 j=some o->(S3.set i (.cells [.bool false])) j=some o:=fun hj=>by rw[w8 _ _ (A3 hj hi)];exact hj
  exact TG f ip ic is _ hw ⟨e o1,e o2,e o3,.inl ⟨rfl,rfl⟩,kQ.refl _ _⟩ (aZ n1)
 ·have:=h.1;split at this
  ·cases this
  ·cases this;rfl
 ·refine h.2.2 i _ (w7 ..) fun ht=>?_;rcases ht with rfl|rfl|rfl
  ·rw[o1]at hi;cases hi
  ·rw[o2]at hi;cases hi
  ·rw[o3]at hi;cases hi
 ·obtain⟨i,S'',hi,rfl,hr⟩:=hr
  have key:∀y,CntR f ip ic is (S3.set i (.cells [.bool false])) y S''->(∃d n,(S''.del i) ip=some (lC f ic is d n))/\Sub V (S''.del i):=fun y hy=>by
   obtain⟨_,⟨d,n,h5⟩,hK⟩:=hy;have ni:ip≠i:=A3 o1 hi;refine⟨⟨d,n,by simp only[Sig.del,ni,bl];exact h5⟩,fun j x hj=>?_⟩;have gZ:=hS _ _ hj;have ni:j≠i:=A3 gZ hi;simp only[Sig.del,ni,bl];refine hK j x (k8 ni gZ) fun ht=>?_;rcases ht with rfl|rfl|rfl
   ·rw[h3]at hj;cases hj
   ·rw[jh]at hj;cases hj
   ·rw[h1]at hj;cases hj
  rcases hr with⟨d,hr,e1⟩|⟨hr,e1⟩
  ·cases e1;obtain⟨⟨d',n,o5⟩,jO⟩:=key _ hr
   have hs:(Bn f).isSome=true:=by
    have:=hr.1;cases h:Bn f with
    |none=>rw[h]at this;cases this
    |some k=>rfl
   try refine gf o5 ?_
   exact fin2 (U':=V) ⟨n,by rw[hs],rfl⟩
  ·cases e1;obtain⟨⟨d',n,o5⟩,jO⟩:=key _ hr
   have hs:(Bn f).isSome=false:=by
    have:=hr.1;cases h:Bn f with
    |none=>rfl
    |some k=>rw[h]at this;cases this
   try refine gf o5 ?_
   exact fin2 (U':=V) ⟨n,by rw[hs],rfl⟩
 ·obtain⟨i,S'',hi,_,hr⟩:=hr;rcases hr with⟨d,_,e1⟩|⟨_,e1⟩<;>cases e1
def RL(f:aL)(V:Sig)(hw:f.wt<=100000000):aB prog 47 [.agg (AS f)] V (rS (dI (if(Bn f).isSome then 0 else 2)) V):=by
 refine en func47 ntmps47 ?_
 try refine gz ?_
 refine Ad (Vy f V hw) (fun x U' hr=>?_) (fun x U' hr=>by obtain⟨_,h,_⟩:=hr;cases h);obtain⟨n,e1,rfl⟩:=hr;cases e1;cases hs:(Bn f).isSome with
 |false=>
  try refine gf hs ?_
  exact fe1 trivial
 |true=>
  try refine gf hs ?_
  exact fe1 trivial
@[reducible,instance] def a47:=fun f V=>ah1 (@RL f V)
def AT(f:aL):fP:=f.ak.flatMap (·.am)
def LC(f:aL):(AT f).length<=f.wt:=by
 have h:∀l:List aJ,(l.flatMap (·.am)).length<=wtL aJ.wt l:=by
  intro l
  induction l with
  |nil=>simp[wtL]
  |cons c l ih=>simp only[cx,aO,wtL];have:=Bc c.am;have:=c.wt_le;omega
 have:=h f.ak;unfold AT aL.wt;omega
def YJ(f:aL)(V:Sig)(hw:f.wt<=100000000)(hs:(Bn f).isSome=true):aB prog 99 [.agg (AS f)] V (rS (.tup [sl (cS (AT f)),dI 0]) V):=by
 obtain⟨p1,p2,p3,p4,p5⟩:=f.wt_le;have gL:=LC f;refine en func99 ntmps99 ?_
 try refine gf hs ?_
 refine BL 4 1 (fun i hi=>?_);refine AG [2,3,11,12,22,23] (fun (k:Nat) (out:fP)=>k<=f.ak.length/\AT f=out++(f.ak.drop k).flatMap (·.am)) (fun k out=>[(13,dI k),(4,.slice (cS out) (.tag i))]) (fun _ out=>V.set i (.tail 1 out.length)) (fun k _=>f.ak.length-k) (0) ([]) (by simp[AT]) (fun k out hI=>?_);obtain⟨hk,hR⟩:=hI
 by_cases d6:k<f.ak.length
 ·rw[A0 d6,cx,<-bc]at hR;have gB:out.length+(f.ak[k]).am.length<=100000000:=by rw[hR]at gL;simp only[aO]at gL;omega
  try refine gz ?_
  exact⟨k+1,out++(f.ak[k]).am,⟨k0,hR⟩,td1,wkR⟩
 ·rw[A1 d6,eV,br]at hR;have gB:out.length<=100000000:=by rw[hR]at gL;omega
  try refine gz ?_
  rw[hR];exact fin2 (U':=V) ⟨rfl,rfl⟩
@[reducible,instance] def a99:=fun f V=>ah2 (@YJ f V)
def Xa(f:aL)(V:Sig)(hw:f.wt<=100000000)(hs:(Bn f).isSome=true):aB prog 100 [.agg (AS f)] V (rS (.tup [sl (cS ((Bj f).1.map (·.1))),dI 0]) V):=by
 refine en func100 ntmps100 ?_
 try refine gf hs ?_
 refine Ad (Ml f V hw) (fun x S3 hr=>?_);obtain⟨e1,rfl⟩:=hr;cases e1
 try refine gz ?_
 exact fin2 (U':=S3) ⟨rfl,rfl⟩
@[reducible,instance] def a100:=fun f V=>ah2 (@Xa f V)
mutual
def allE:aH->List aH
 |.mk o n t k=>.mk o n t k::As k
def As:List aH->List aH
 |[]=>[]
 |x::r=>allE x++As r
end
def L9(e:aH):allE e=e::As e.aq:=by cases e;rw[allE];rfl
mutual
def Eg: ∀e:aH,(allE e).length<=e.wt
 |.mk o n t k=>by
  have:=Q4 k;rw[allE,aH.wt_eq];simp only[aV]
  show _<=1+t.length+wtL aH.wt k;omega
def Q4: ∀l:List aH,(As l).length<=wtL aH.wt l
 |[]=>by rw[As];simp
 |x::r=>by
  have h1:=Eg x;have h2:=Q4 r;rw[As,aO,wtL];omega
end
def If: ∀(n:Nat) (e:aH) (V:Sig),e.wt<=n->n<=1073741824->aB prog 76 [.agg (Af e)] V (rS (sl ((allE e).map Af)) V):=by
 intro n
 induction n with
 |zero=>
  intro e V hx;have:=e.wt_pos;omega
 | succ n ih =>
  intro e V hx hn;obtain⟨w1,w2,fZ⟩:=e.wt_le;have hlen:=Eg e;rw[L9]at hlen⊢;refine en func76 ntmps76 ?_;refine gz ?_;refine T5 [1,2,22] (fun (k:Nat) (out:List aH) (o:Own) (S1:Sig)=>k<=e.aq.length/\e::As e.aq=out++As (e.aq.drop k)/\(o=.clip \/ ∃i,o=.tag i/\V i=none/\S1 i=some (.tail 4 out.length))/\Sub V S1) (fun k out o _=>[(4,dI k),(3,.slice (out.map Af) o)]) (fun _ _ _ S1=>S1) (fun k _ _ _=>e.aq.length-k) (0) ([e]) (.clip) (V) (by exact⟨k0,rfl,.inl rfl,Sub.refl _⟩) (fun k out o S1 hI=>?_);obtain⟨hk,hR,ho,hS⟩:=hI;have gB:out.length<=e.wt:=by rw[hR,aO]at hlen;omega
  by_cases d6:k<e.aq.length
  ·rw[A0 d6,As,<-bc]at hR;have jU:=fZ k d6;have jX:=Eg e.aq[k];have jy:out.length+(allE e.aq[k]).length<=e.wt:=by rw[hR]at hlen;simp only[aO]at hlen;omega
   have hne:(allE e.aq[k]).map Af≠[]:=by rw[L9];simp
   rcases ho with rfl|⟨i,rfl,gg,gc⟩
   ·repeat' first|refine gz ?_|refine Au (ih e.aq[k] S1 k0 k0) ?_|refine callP (ih e.aq[k] S1 k0 k0) ?_|refine gz ?_|apply gy<;>intro hh
    refine appC (fun j hj=>?_) (hne:=hne);refine gz ?_;have jL:V j=none:=hS.none hj;have ju:kM.tail (tab 40).size ((out.map Af).length+((allE e.aq[k]).map Af).length)=.tail 4 (out++allE e.aq[k]).length:=by simp
    have gA:Sub (S1.set j (.tail 4 (out++allE e.aq[k]).length)) (S1.set j (.tail (tab 40).size ((out.map Af).length+((allE e.aq[k]).map Af).length))):=by rw[ju];exact Sub.refl _
    exact⟨k+1,out++allE e.aq[k],.tag j,S1.set j (.tail 4 (out++allE e.aq[k]).length),⟨k0,hR,.inr ⟨j,rfl,jL,w7 ..⟩,hS.trans ((Sub.refl _).set hj)⟩,td1,wkR⟩
   ·repeat' first|refine gf gc ?_|refine Au (ih e.aq[k] S1 k0 k0) ?_|refine callP (ih e.aq[k] S1 k0 k0) ?_|refine gf gc ?_|apply gy<;>intro hh
    have gA:Sub (S1.set i (.tail 4 (out++allE e.aq[k]).length)) (S1.set i (.tail 4 (out.length+(allE e.aq[k]).length))):=by rw[aO];exact Sub.refl _
    exact⟨k+1,out++allE e.aq[k],.tag i,S1.set i (.tail 4 (out++allE e.aq[k]).length),⟨k0,hR,.inr ⟨i,rfl,gg,w7 ..⟩,hS.set gg⟩,td1,wkR⟩
  ·rw[A1 d6,As,br]at hR;refine gz ?_;rw[hR];exact kE (U':=V) ⟨rfl,rfl⟩
def Nz(op:Int)(s:Str)(l:fV)(o:Own)(V:Sig):aB prog 95 [dI op,.str s,.slice l o] V (rS (.agg [dI op,dI 0,.str s,.slice l o]) V):=by
 refine en func95 ntmps95 ?_;refine gz ?_ [] [6];refine kR (fun i hi=>?_);refine gz ?_ [] [6];exact lI (U':=V) ⟨rfl,rfl⟩
@[reducible,instance] def a95:=fun op s l o V=>ah0 (@Nz op s l o V)
def kj(e:aH):Bool:=BV (hasM e.op kP) (getM ⟨false,0,0⟩ e.op kP) e
def VX(e:aH)(V:Sig)(hw:e.wt<=1073741824):aB prog 249 [.agg (Af e)] V (rS (.bool (kj e)) V):=by
 obtain⟨w1,w2,fZ⟩:=e.wt_le;have gg:inB 0=true:=by decide
 have gO:((e.aq.length:Int)=0)=(e.aq=[]):=by rw[<-bH];exact propext ⟨fun h=>by omega,fun h=>by omega⟩
 refine en func249 ntmps249 ?_;rcases bX (e.op=1)with h1|h1
 ·have hB:kj e=BV true ⟨false,0,0⟩ e:=by unfold kj;rw[h1];rfl
  rw[hB];unfold BV;have jJ:(decide (e.n=0)||(decide (e.op=1)&&inB e.n))=inB e.n:=by rw[h1];by_cases hn:e.n=0<;>simp[hn,gg]
  rw[jJ]
  repeat' first|refine gf h1 ?_|apply gy<;>intro hh
  all_goals refine kE (U':=V) ⟨?_,rfl⟩
  all_goals first|(simp_all;done)|(rw[A4,aW];simp_all<;>omega)
 rcases bX (e.op=2)with h2|h2
 ·have hB:kj e=BV true ⟨false,0,0⟩ e:=by unfold kj;rw[h2];rfl
  rw[hB];unfold BV
  repeat' first|refine gf h2 ?_|apply gy<;>intro hh
  all_goals refine kE (U':=V) ⟨?_,rfl⟩
  all_goals first|(simp_all;done)|(rw[A4,aW];simp_all<;>omega)
 rcases bX (e.op=18)with iq|iq
 ·have hB:kj e=BV true ⟨false,0,0⟩ e:=by unfold kj;rw[iq];rfl
  rw[hB];unfold BV
  repeat' first|refine gf iq ?_|apply gy<;>intro hh
  all_goals refine kE (U':=V) ⟨?_,rfl⟩
  all_goals first|(simp_all;done)|(rw[A4,aW];simp_all<;>omega)
 rcases bX (e.op=3)with h3|h3
 ·have hB:kj e=BV true ⟨true,0,0⟩ e:=by unfold kj;rw[h3];rfl
  rw[hB];unfold BV
  repeat' first|refine gf h3 ?_|apply gy<;>intro hh
  all_goals refine kE (U':=V) ⟨?_,rfl⟩
  all_goals first|(simp_all;done)|(rw[A4,aW];simp_all<;>omega)
 rcases bX (e.op=6)with h6|h6
 ·have hB:kj e=BV true ⟨true,0,0⟩ e:=by unfold kj;rw[h6];rfl
  rw[hB];unfold BV
  repeat' first|refine gf h6 ?_|apply gy<;>intro hh
  all_goals refine kE (U':=V) ⟨?_,rfl⟩
  all_goals first|(simp_all;done)|(rw[A4,aW];simp_all<;>omega)
 rcases bX (e.op=4)with h4|h4
 ·have hB:kj e=BV true ⟨true,1,1⟩ e:=by unfold kj;rw[h4];rfl
  rw[hB];unfold BV
  repeat' first|refine gf h4 ?_|apply gy<;>intro hh
  all_goals refine kE (U':=V) ⟨?_,rfl⟩
  all_goals first|(simp_all;done)|(rw[A4,aW];simp_all<;>omega)
 rcases bX (e.op=8)with h8|h8
 ·have hB:kj e=BV true ⟨true,1,1⟩ e:=by unfold kj;rw[h8];rfl
  rw[hB];unfold BV
  repeat' first|refine gf h8 ?_|apply gy<;>intro hh
  all_goals refine kE (U':=V) ⟨?_,rfl⟩
  all_goals first|(simp_all;done)|(rw[A4,aW];simp_all<;>omega)
 rcases bX (e.op=7)with h7|h7
 ·have hB:kj e=BV true ⟨true,2,2⟩ e:=by unfold kj;rw[h7];rfl
  rw[hB];unfold BV
  repeat' first|refine gf h7 ?_|apply gy<;>intro hh
  all_goals refine kE (U':=V) ⟨?_,rfl⟩
  all_goals first|(simp_all;done)|(rw[A4,aW];simp_all<;>omega)
 rcases bX (e.op=9)with h9|h9
 ·have hB:kj e=BV true ⟨true,2,2⟩ e:=by unfold kj;rw[h9];rfl
  rw[hB];unfold BV
  repeat' first|refine gf h9 ?_|apply gy<;>intro hh
  all_goals refine kE (U':=V) ⟨?_,rfl⟩
  all_goals first|(simp_all;done)|(rw[A4,aW];simp_all<;>omega)
 rcases bX (e.op=5)with h5|h5
 ·have hB:kj e=BV true ⟨true,1,3⟩ e:=by unfold kj;rw[h5];rfl
  rw[hB];unfold BV;have iP:decide (e.op=1)=false:=by rw[h5];rfl
  obtain hq|hq|hq|hq|hq:e.aq.length=0\/e.aq.length=1\/e.aq.length=2\/e.aq.length=3\/4<=e.aq.length:=by omega
  ·repeat' first|refine gf (gi h5 hq) ?_|apply gy<;>intro hh
   all_goals refine kE (U':=V) ⟨?_,rfl⟩
   all_goals (clear fZ gO;first|(simp_all;done)|(rw[A4,aW];simp[h5,hq];omega)|skip)
  ·repeat' first|refine gf (gi h5 hq) ?_|apply gy<;>intro hh
   all_goals refine kE (U':=V) ⟨?_,rfl⟩
   all_goals (clear fZ gO;first|(simp_all;done)|(rw[A4,aW];simp[h5,hq];omega)|skip)
  ·repeat' first|refine gf (gi h5 hq) ?_|apply gy<;>intro hh
   all_goals refine kE (U':=V) ⟨?_,rfl⟩
   all_goals (clear fZ gO;first|(simp_all;done)|(rw[A4,aW];simp[h5,hq];omega)|skip)
  ·repeat' first|refine gf (gi h5 hq) ?_|apply gy<;>intro hh
   all_goals refine kE (U':=V) ⟨?_,rfl⟩
   all_goals (clear fZ gO;first|(simp_all;done)|(rw[A4,aW];simp[h5,hq];omega)|skip)
  ·repeat' first|refine gf h5 ?_|apply gy<;>intro hh
   all_goals refine kE (U':=V) ⟨?_,rfl⟩
   all_goals (clear fZ gO;first|(simp_all;done)|(rw[A4,aW];simp[h5,hq];omega)|skip)
 rcases bX (e.op=10)with iD|iD
 ·have hB:kj e=BV true ⟨false,3,3⟩ e:=by unfold kj;rw[iD];rfl
  rw[hB];unfold BV
  repeat' first|refine gf iD ?_|apply gy<;>intro hh
  all_goals refine kE (U':=V) ⟨?_,rfl⟩
  all_goals first|(simp_all;done)|(rw[A4,aW];simp_all<;>omega)
 rcases bX (e.op=17)with iv|iv
 ·have hB:kj e=BV true ⟨false,1,1⟩ e:=by unfold kj;rw[iv];rfl
  rw[hB];unfold BV
  repeat' first|refine gf iv ?_|apply gy<;>intro hh
  all_goals refine kE (U':=V) ⟨?_,rfl⟩
  all_goals first|(simp_all;done)|(rw[A4,aW];simp_all<;>omega)
 rcases bX (e.op=11)with iC|iC
 ·have hB:kj e=BV true ⟨false,2,2⟩ e:=by unfold kj;rw[iC];rfl
  rw[hB];unfold BV
  repeat' first|refine gf iC ?_|apply gy<;>intro hh
  all_goals refine kE (U':=V) ⟨?_,rfl⟩
  all_goals first|(simp_all;done)|(rw[A4,aW];simp_all<;>omega)
 rcases bX (e.op=12)with iB|iB
 ·have hB:kj e=BV true ⟨false,2,2⟩ e:=by unfold kj;rw[iB];rfl
  rw[hB];unfold BV
  repeat' first|refine gf iB ?_|apply gy<;>intro hh
  all_goals refine kE (U':=V) ⟨?_,rfl⟩
  all_goals first|(simp_all;done)|(rw[A4,aW];simp_all<;>omega)
 rcases bX (e.op=13)with iA|iA
 ·have hB:kj e=BV true ⟨false,2,2⟩ e:=by unfold kj;rw[iA];rfl
  rw[hB];unfold BV
  repeat' first|refine gf iA ?_|apply gy<;>intro hh
  all_goals refine kE (U':=V) ⟨?_,rfl⟩
  all_goals first|(simp_all;done)|(rw[A4,aW];simp_all<;>omega)
 rcases bX (e.op=14)with iz|iz
 ·have hB:kj e=BV true ⟨false,2,2⟩ e:=by unfold kj;rw[iz];rfl
  rw[hB];unfold BV
  repeat' first|refine gf iz ?_|apply gy<;>intro hh
  all_goals refine kE (U':=V) ⟨?_,rfl⟩
  all_goals first|(simp_all;done)|(rw[A4,aW];simp_all<;>omega)
 rcases bX (e.op=15)with iy|iy
 ·have hB:kj e=BV true ⟨false,2,2⟩ e:=by unfold kj;rw[iy];rfl
  rw[hB];unfold BV
  repeat' first|refine gf iy ?_|apply gy<;>intro hh
  all_goals refine kE (U':=V) ⟨?_,rfl⟩
  all_goals first|(simp_all;done)|(rw[A4,aW];simp_all<;>omega)
 rcases bX (e.op=16)with gG|gG
 ·have hB:kj e=BV true ⟨false,2,2⟩ e:=by unfold kj;rw[gG];rfl
  rw[hB];unfold BV
  repeat' first|refine gf gG ?_|apply gy<;>intro hh
  all_goals refine kE (U':=V) ⟨?_,rfl⟩
  all_goals first|(simp_all;done)|(rw[A4,aW];simp_all<;>omega)
 have hB:kj e=false:=by
  have hh:hasM e.op kP=false:=by
   show(decide (e.op=1)||(decide (e.op=2)||(decide (e.op=18)||(decide (e.op=3)||(decide (e.op=6)||(decide (e.op=4)||(decide (e.op=8)||(decide (e.op=7)||(decide (e.op=9)||(decide (e.op=5)||(decide (e.op=10)||(decide (e.op=17)||(decide (e.op=11)||(decide (e.op=12)||(decide (e.op=13)||(decide (e.op=14)||(decide (e.op=15)||(decide (e.op=16)||false))))))))))))))))))=false;rw[ba h1,ba h2,ba iq,ba h3,ba h6,ba h4,ba h8,ba h7,ba h9,ba h5,ba iD,ba iv,ba iC,ba iB,ba iA,ba iz,ba iy,ba gG];rfl
  unfold kj BV;rw[hh];rfl
 rw[hB]
 repeat' first|refine gz ?_|apply gy<;>intro hh
 any_goals (first|exact fe1 trivial|fail)
@[reducible,instance] def a249:=fun e V=>ah1 (@VX e V)
mutual
def lK:aH->Int->Int->Bool×Int
 |.mk o n t k,d,b=>if b-1<0\/12<d\/kj (.mk o n t k)=false then(false,b-1) else FN k (d+1) (b-1)
def FN:List aH->Int->Int->Bool×Int
 |[],_,b=>(true,b)
 |x::r,d,b=>if(lK x d b).1=true then FN r d (lK x d b).2 else(false,(lK x d b).2)
end
def Xz(e:aH)(d b:Int):lK e d b=if b-1<0\/12<d\/kj e=false then(false,b-1) else FN e.aq (d+1) (b-1):=by cases e;rw[lK];rfl
mutual
def Xy: ∀(e:aH) (d b:Int),(lK e d b).2<=b/\(0<=b-> -1<=(lK e d b).2)/\((lK e d b).1=true->0<=(lK e d b).2)
 | .mk o n t k,d,b=>by
  rw[lK];split
  ·refine⟨?_,?_,?_⟩<;>simp<;>omega
  ·have:=Su k (d+1) (b-1);exact⟨k0,fun h=>this.2.1 k0,fun h=>this.2.2 k0 h⟩
def Su: ∀(l:List aH) (d b:Int),(FN l d b).2<=b/\(0<=b-> -1<=(FN l d b).2)/\(0<=b->(FN l d b).1=true->0<=(FN l d b).2)
 |[],d,b=>by rw[FN];exact⟨dY _,fun h=>by simp;omega,fun h _=>h⟩
 | x::r,d,b=>by
  have h1:=Xy x d b;rw[FN];split
  ·rename_i h;have h2:=Su r d (lK x d b).2;have:=h1.2.2 h;exact⟨k0,fun _=>h2.2.1 this,fun _ h3=>h2.2.2 this h3⟩
  ·exact⟨h1.1,h1.2.1,fun _ h3=>by cases h3⟩
end
def TB(ib:Nat): ∀(n:Nat) (e:aH) (d b:Int) (V:Sig),e.wt<=n->n<=1073741824->0<=d->d+n<=2000000000->0<=b->b<=1000->V ib=some (.cells [dI b])->
  aB prog 208 [.agg (Af e),dI d,.ptr ib 0] V fun x U'=>x=.ret (.bool (lK e d b).1)/\U'=V.set ib (.cells [dI (lK e d b).2]):=by
 intro n
 induction n with
 |zero=>
  intro e d b V hx;have:=e.wt_pos;omega
 | succ n ih =>
  intro e d b V hx hn hd j6 kh kg o1;obtain⟨w1,w2,fZ⟩:=e.wt_le;have jt:e.wt<=1073741824:=by omega
  refine en func208 ntmps208 ?_
  by_cases gC:b-1<0\/12<d\/kj e=false
  ·have hc:lK e d b=(false,b-1):=by rw[Xz,aS gC]
   rw[hc]
   by_cases h1:b-1<0
   ·refine gf o1 ?_;exact kE (U':=V.set ib (.cells [dI (b-1)])) ⟨rfl,rfl⟩
   ·by_cases h2:12<d
    ·refine gf o1 ?_;exact kE (U':=V.set ib (.cells [dI (b-1)])) ⟨rfl,rfl⟩
    ·have h3:kj e=false:=by grind
     refine gf (gi o1 h3) ?_;exact kE (U':=V.set ib (.cells [dI (b-1)])) ⟨rfl,rfl⟩
  ·have hc:lK e d b=FN e.aq (d+1) (b-1):=by rw[Xz,aQ gC]
   have h1:0<=b-1:=by omega
   have h2:d<=12:=by omega
   have h3:kj e=true:=by cases h:kj e;exact absurd (.inr (.inr h)) gC;rfl
   rw[hc];refine gf (gi o1 h3) ?_;refine AG [1,2,3] (fun (k:Nat) (c:Int)=>k<=e.aq.length/\0<=c/\c<=b/\FN e.aq (d+1) (b-1)=FN (e.aq.drop k) (d+1) c) (fun k _=>[(7,dI k)]) (fun _ c=>V.set ib (.cells [dI c])) (fun k _=>e.aq.length-k) (0) (b-1) (by exact⟨k0,k0,k0,rfl⟩) (fun k c hI=>?_);obtain⟨hk,jK,j9,hR⟩:=hI
   by_cases d6:k<e.aq.length
   ·rw[A0 d6,FN]at hR;have jf:=Xy e.aq[k] (d+1) c;refine gz ?_;refine Ad (ih e.aq[k] (d+1) c _ (by have:=fZ k d6;omega) k0 k0 k0 jK k0 (w7 ..)) (fun x U' hr=>?_);obtain⟨e1,rfl⟩:=hr;cases e1;cases hq:(lK e.aq[k] (d+1) c).1
    ·rw[aQ (by rw[hq];simp)]at hR;rw[hR];refine gz ?_;exact kE (U':=V.set ib (.cells [dI (lK e.aq[k] (d+1) c).2])) ⟨rfl,rfl⟩ (by rw[w9];exact Sub.refl _)
    ·rw[aS hq]at hR;refine gz ?_;exact⟨k+1,(lK e.aq[k] (d+1) c).2,⟨k0,jf.2.2 hq,k0,hR⟩,td1,wkR⟩
   ·rw[A1 d6,FN]at hR;rw[hR];refine gz ?_;exact kE (U':=V.set ib (.cells [dI c])) ⟨rfl,rfl⟩
def X0(e:aH)(V:Sig)(hw:e.wt<=1073741824):aB prog 122 [.agg (Af e)] V (rS (.bool (lK e 1 120).1) V):=by
 refine en func122 ntmps122 ?_;refine gz ?_ [] [3];refine kR (fun ib iM=>?_);refine gz ?_ [] [3];refine Ad (TB ib _ e 1 120 _ (bn _) hw k0 k0 k0 k0 (w7 ..)) (fun x U' hr=>?_);obtain⟨e1,rfl⟩:=hr;cases e1;refine gz ?_ [] [3];exact kE (U':=V) ⟨rfl,rfl⟩ (by rw[w9];exact(Sub.refl _).set iM)
@[reducible,instance] def a122:=fun e V=>ah1 (@X0 e V)
def VP(l:fP)(s:Str)(o:Own)(V:Sig)(hl:l.length<=1073741824):aB prog 285 [.slice (cS l) o,.str s] V (rS (sl (cS (ins s l))) V):=by
 refine en func285 ntmps285 ?_
 by_cases hs:s∈l
 ·have hi:ins s l=l:=by unfold ins;rw[aS hs]
  rw[hi];refine gf hs ?_;exact kE (U':=V) ⟨rfl,rfl⟩
 ·have hi:ins s l=l++[s]:=by unfold ins;rw[aQ hs]
  rw[hi];refine gf hs ?_;refine appN (fun i hi=>?_);refine gz ?_;refine kE (U':=V) ⟨rfl,rfl⟩ ?_ (hw:=?_)
  ·exact(Sub.refl _).set hi
  ·refine CY _ ?_;simp[cS]
@[reducible,instance] def a285:=fun l s o V=>ah1 (@VP l s o V)
@[simp] theorem binD_lssS(a b:Str):binD .lss (.str a) (.str b)=some (.bool (Op.bytesLess a b)):=rfl
def Tq(l:fP)(o:Own)(V:Sig)(hl:l.length<=1073741824):aB prog 250 [.slice (cS l) o] V fun x U'=>(∃l':fP,x=.ret (sl (cS l'))/\(∀x,x∈l' ↔ x∈l)/\l'.length<=l.length)/\U'=V:=by
 refine en func250 ntmps250 ?_;refine gz ?_ o250;refine AG [0,2,58] (fun (k:Nat) (out:fP)=>k<=l.length/\out.length<=k/\(∀x,x∈out ↔ x∈l.take k)) (fun k out=>[(4,dI k),(3,sl (cS out))]) (fun _ _=>V) (fun k _=>l.length-k) (0) ([]) k7 (fun k out hI=>?_);obtain⟨hk,gB,hR⟩:=hI
 by_cases d6:k<l.length
 ·have iF:=bQ d6;generalize gX:l[k]=s at*;refine gz ?_ o250;refine Bb [0,2,3,4,6,7,8,9,10,11,29,30,31,32,33,34,35,36,37,38,39,40,41,42,43,44,45,46,47,48,49,50,51,52,53,54,55,56,57,58] (fun (j:Nat)=>j<=out.length) (fun j=>[(5,dI j)]) (fun _=>V) (fun j=>out.length-j) (0) k0 (fun j hI=>?_)
  have jc:∀x:Str,x∈out.take j++s::out.drop j ↔ x=s\/x∈out:=fun x=>by
   rw[bi,be]
   conv=>rhs;rw[<-dt j out,bi]
   exact⟨fun h=>by rcases h with h|h|h<;>simp[h],fun h=>by rcases h with h|h|h<;>simp[h]⟩
  by_cases hj:j<out.length
  ·generalize i0:out[j]=y at*
   repeat' first|refine gf (gi gX i0) ?_ o250|apply gy<;>intro hh
   ·exact⟨j+1,k0,td1,wkR⟩
   ·refine Kk (fun i hi=>?_);refine gf gX ?_ o250;exact⟨k+1,out.take j++s::out.drop j,⟨k0,by simp;omega,fun x=>by rw[jc,iF,bi,<-hR];simp only[bq];exact or_comm⟩,td1,wkR⟩
   ·have iH:y∈out:=by rw[<-i0];exact aR hj
    exact⟨k+1,out,⟨k0,k0,fun x=>by rw[iF,bi,<-hR];simp only[bq];exact⟨.inl,fun h=>h.elim id fun e=>by rw[e,<-hh];exact iH⟩⟩,td1,wkR⟩
  ·refine gf gX ?_ o250;refine Kk (fun i hi=>?_);refine gf gX ?_ o250;exact⟨k+1,out.take j++s::out.drop j,⟨k0,by simp;omega,fun x=>by rw[jc,iF,bi,<-hR];simp only[bq];exact or_comm⟩,td1,wkR⟩
 ·refine gz ?_ o250;have e:l.take k=l:=bM k0;rw[e]at hR;refine kE (U':=V) (d':=sl (cS out)) ⟨⟨out,rfl,hR,k0⟩,rfl⟩
mutual
def kY:aH->fP->fP
 |.mk o n t k,b=>if o=3/\t∉b then [t] else looseEs o t k 0 b
def looseEs(o:Int)(t:Str):List aH->Nat->fP->fP
 |[],_,_=>[]
 |x::r,i,b=>kY x (if o=9/\i=1 then ins t b else b)++looseEs o t r (i+1) b
end
def OC(e:aH)(b:fP):kY e b=if e.op=3/\e.text∉b then [e.text] else looseEs e.op e.text e.aq 0 b:=by cases e;rw[kY];rfl
mutual
def Fc: ∀(e:aH) (b:fP),(kY e b).length<=e.wt
 |.mk o n t k,b=>by
  have hw:(aH.mk o n t k).wt=1+t.length+wtL aH.wt k:=aH.wt_eq _;rw[kY];split
  ·simp;omega
  ·have:=Kq o t k 0 b;omega
def Kq(o:Int)(t:Str): ∀(l:List aH) (i:Nat) (b:fP),(looseEs o t l i b).length<=wtL aH.wt l
 |[],_,_=>by rw[looseEs];simp
 |x::r,i,b=>by
  have h1:=Fc x (if o=9/\i=1 then ins t b else b);have h2:=Kq o t r (i+1) b;rw[looseEs,aO,wtL];omega
end
def Vf{α:Type}[DecidableEq α](k:α)(s:List α):(ins k s).length<=s.length+1:=by unfold ins;split<;>simp
def VW: ∀(n:Nat) (e:aH) (b:fP) (o:Own) (V:Sig),e.wt<=n->b.length+n<=1073741824->aB prog 251 [.agg (Af e),.slice (cS b) o] V (rS (sl (cS (kY e b))) V):=by
 intro n
 induction n with
 |zero=>
  intro e b o V hx;have:=e.wt_pos;omega
 | succ n ih =>
  intro e b o V hx hn;obtain⟨w1,w2,fZ⟩:=e.wt_le;have hlen:=Fc e b;have ke:b.length<=1073741824:=by omega
  rw[OC]at hlen⊢;refine en func251 ntmps251 ?_
  by_cases h3:e.op=3/\e.text∉b
  ·rw[aS h3];obtain⟨h3,h4⟩:=h3;refine gf (gi h3 h4) ?_;exact kE (U':=V) ⟨rfl,rfl⟩
  ·rw [aQ h3] at hlen ⊢;have hq:e.op=3->e.text∈b:=fun h=>Decidable.byContradiction fun h4=>h3 ⟨h,h4⟩
   by_cases iR:e.op=3
   ·have h4:=hq iR;refine gf (gi iR h4) ?_;refine BL 5 1 (fun i hi=>?_);refine AG [1,2,4,49] (fun (k:Nat) (out:fP)=>k<=e.aq.length/\looseEs e.op e.text e.aq 0 b=out++looseEs e.op e.text (e.aq.drop k) k b) (fun k out=>[(6,dI k),(5,.slice (cS out) (.tag i))]) (fun _ out=>V.set i (.tail 1 out.length)) (fun k _=>e.aq.length-k) (0) ([]) k7 (fun k out hI=>?_);obtain⟨hk,hR⟩:=hI;have gB:out.length<=(looseEs e.op e.text e.aq 0 b).length:=by rw[hR,aO];omega
    by_cases d6:k<e.aq.length
    ·rw[A0 d6,looseEs]at hR;have jr:=fZ k d6;have gK:=Fc (e.aq[k]) (if e.op=9/\k=1 then ins e.text b else b);generalize gx:e.aq[k]=x at*;have i251:∀(b':fP) (o:Own) (V:Sig),Ans 251 [.agg (Af x),.slice (cS b') o] V (b'.length<=b.length+1) (sl (cS (kY x b'))):=fun b' o V=>ah1 fun h=>ih x b' o V k0 k0
     by_cases h9:e.op=9/\k=1
     ·have gR:=Vf e.text b;rw[aS h9]at hR gK;exact absurd h9.1 k0
     ·rw[aQ h9]at hR gK
      by_cases gF:e.op=9
      ·have iK:¬k=1:=fun h=>h9 ⟨gF,h⟩;refine gf (gi gF (gi iK gx)) ?_;exact⟨k+1,out++kY x b,⟨k0,by rw[hR,bc]⟩,td1,wkR⟩
      ·refine gf (gi gF gx) ?_;exact⟨k+1,out++kY x b,⟨k0,by rw[hR,bc]⟩,td1,wkR⟩
    ·rw[A1 d6,looseEs,br]at hR;refine gz ?_;exact finS (U':=V) (es:=cS out) ⟨by rw[hR],rfl⟩
   ·refine gf iR ?_;refine BL 5 1 (fun i hi=>?_);refine AG [1,2,4,49] (fun (k:Nat) (out:fP)=>k<=e.aq.length/\looseEs e.op e.text e.aq 0 b=out++looseEs e.op e.text (e.aq.drop k) k b) (fun k out=>[(6,dI k),(5,.slice (cS out) (.tag i))]) (fun _ out=>V.set i (.tail 1 out.length)) (fun k _=>e.aq.length-k) (0) ([]) k7 (fun k out hI=>?_);obtain⟨hk,hR⟩:=hI;have gB:out.length<=(looseEs e.op e.text e.aq 0 b).length:=by rw[hR,aO];omega
    by_cases d6:k<e.aq.length
    ·rw[A0 d6,looseEs]at hR;have jr:=fZ k d6;have gK:=Fc (e.aq[k]) (if e.op=9/\k=1 then ins e.text b else b);generalize gx:e.aq[k]=x at*;have i251:∀(b':fP) (o:Own) (V:Sig),Ans 251 [.agg (Af x),.slice (cS b') o] V (b'.length<=b.length+1) (sl (cS (kY x b'))):=fun b' o V=>ah1 fun h=>ih x b' o V k0 k0
     by_cases h9:e.op=9/\k=1
     ·have gR:=Vf e.text b;rw[aS h9]at hR gK;obtain⟨jT,rfl⟩:=h9;refine gf (gi jT gx) ?_;exact⟨1+1,out++kY x (ins e.text b),⟨k0,by rw[hR,bc]⟩,td1,wkR⟩
     ·rw[aQ h9]at hR gK
      by_cases gF:e.op=9
      ·have iK:¬k=1:=fun h=>h9 ⟨gF,h⟩;refine gf (gi gF (gi iK gx)) ?_;exact⟨k+1,out++kY x b,⟨k0,by rw[hR,bc]⟩,td1,wkR⟩
      ·refine gf (gi gF gx) ?_;exact⟨k+1,out++kY x b,⟨k0,by rw[hR,bc]⟩,td1,wkR⟩
    ·rw[A1 d6,looseEs,br]at hR;refine gz ?_;exact finS (U':=V) (es:=cS out) ⟨by rw[hR],rfl⟩
def TA(e:aH)(V:Sig)(hw:e.wt<=1073741824):aB prog 209 [.agg (Af e)] V fun x U'=>(∃l':fP,x=.ret (sl (cS l'))/\(∀x,x∈l' ↔ x∈kY e [])/\l'.length<=e.wt)/\U'=V:=by
 have hl:=Fc e [];have i251:∀V:Sig,Ans 251 [.agg (Af e),.slice [] .no] V True (sl (cS (kY e []))):=fun V=>ah0 (VW e.wt e [] .no V (bn _) (by simpa using hw))
 refine en func209 ntmps209 ?_;refine gz ?_;refine Ad (Tq (kY e []) .no _ k0) (fun d U' hr=>?_) (fun d U' hr=>by obtain⟨⟨_,h,_⟩,_⟩:=hr;cases h);obtain⟨⟨l',h1,h2,h3⟩,rfl⟩:=hr;cases h1;refine gz ?_;refine kE (U':=U') (d':=sl (cS l')) ⟨⟨l',rfl,h2,k0⟩,rfl⟩
end Go.DL
