/- A part of the proof. -/
import Derived.Test.YtlfimpogphmbdaaGreatM20
import Derived.Test.YtlfimpogphmbdaaGreatM22
import Derived.Test.YtlfimpogphmbdaaGreatM15
import Derived.Test.YtlfimpogphmbdaaGreatM16
set_option linter.all false
namespace Go.DL
open Go.Proofs.Tryz
open Go Go.Proofs
set_option maxHeartbeats 8000000
def stepG(x:FExp)(s:GenT):Option GenT:=some (if x.op=5 then seeG x.text x.kids.length s else s)
mutual
def genE:FExp->GenT->GenT
 |.mk o _ t k,s=>CI k (if o=5 then seeG t k.length s else s)
def CI:List FExp->GenT->GenT
 |[],s=>s
 |x::r,s=>CI r (genE x s)
end
mutual
theorem Hs: ∀(e:FExp) (d:Int) (s:GenT),visE (fun _ x s=>stepG x s) e d s=some (genE e s)
 |.mk o n t k,d,s=>by rw[visE,genE];exact Lv k _ _
theorem Lv: ∀(l:List FExp) (d:Int) (s:GenT),CF (fun _ x s=>stepG x s) l d s=some (CI l s)
 |[],d,s=>by rw[CF,CI]
 |x::r,d,s=>by rw[CF,Hs x,CI];exact Lv r _ _
end
theorem KJ(name:Str)(n:Int)(s:GenT):(seeG name n s).1.length<=s.1.length+1:=by
 unfold seeG;split<;>simp
theorem Lz(x:FExp)(s s':GenT)(h:stepG x s=some s'):s'.1.length<=s.1.length+1:=by
 unfold stepG at h;cases h;split
 ·exact KJ ..
 ·omega
theorem ON(e:FExp)(s:GenT):(genE e s).1.length<=s.1.length+e.wt:=
 Kz (fun _ x s=>stepG x s) (fun s=>s.1.length) (fun _ x s s' h=>Lz x s s' h) e 1 s _ (Hs e 1 s)
def metG:List FMeth->GenT->GenT
 |[],s=>s
 |m::r,s=>metG r (seeG m.name m.params.length s)
def Cu(f:FProg):List FExp:=f.methods.map (·.body)++[f.main]
def Dh(f:FProg):GenT:=CI (Cu f) (metG f.methods ([],true))
theorem N4(f:FProg):f.methods.length+wtL FExp.wt (Cu f)<=f.wt:=by
 have h:∀l:List FMeth,l.length+wtL FExp.wt (l.map (·.body))<=wtL FMeth.wt l:=by
  intro l
  induction l with
  |nil=>simp[wtL]
  |cons m l ih=>simp only[List.length_cons,List.map_cons,wtL,FMeth.wt];omega
 have:=h f.methods;unfold Cu FProg.wt;rw[Fy];simp only[wtL];omega
theorem finMC{n:Nat}{fn:Func}{R:DE->Sig->Prop}{γ:Fr}{V S':Sig}{ds:List D}{d':D}(js:List Nat)(hR:R (.ret d') S')(hU:Sub S' (dels js V))(hn:js.Nodup)(hd:∀j∈js,V j=some .defs)(h:resL tab (dels js V) γ fn.results.toList=some ds)(hw:WkD (Jv ds) d'): ∃s',Wk prog n ⟨γ,V,js.map .coll⟩ s'/\QG prog n fn (Weak R) .ret s':=
 ⟨_,Wk.refl _ _ _,js,rfl,hn,hd,Jv ds,Cy Ad h,.ret d',S',hw,hU,hR⟩
theorem K4(f:FProg)(V:Sig)(hw:f.wt<=100000000):DCall prog 191 [.agg (BA f)] V (rS (.tup [sl (cS ((Dh f).1.map (·.1))),.any,.bool (Dh f).2]) V):=by
 obtain⟨p1,p2,p3,p4,p5⟩:=f.wt_le;have hbw:=N4 f;refine AX func191 rfl (by decide) ntmps191 (by simp) ?_
 try refine gz ?_ o191 [2,3,4]
 refine newV (fun il hil=>?_)
 try refine gz ?_ o191 [2,3,4]
 refine newV (fun im him=>?_)
 try refine gz ?_ o191 [2,3,4]
 refine newV (fun ib hib=>?_)
 try refine gz ?_ o191 [2,3,4]
 refine Rb (fun mp hmp=>?_);obtain⟨a1,b1⟩:=Aa him;obtain⟨a2,b2⟩:=Aa hib;obtain⟨a3,b3⟩:=Aa b2;obtain⟨a4,b4⟩:=Aa hmp;obtain⟨a5,b5⟩:=Aa b4;obtain⟨a6,b6⟩:=Aa b5;have c1:=a1.symm;have c2:=a2.symm;have c3:=a3.symm;have c4:=a4.symm;have c5:=a5.symm;have c6:=a6.symm
 try refine gz ?_ o191 [2,3,4]
 generalize hU6:Sig.set (Sig.set _ im _) ib _=S6;have o1:S6 il=some (.cells [.nils]):=by rw[<-hU6];simp[w8 _ _ c1,w8 _ _ c3,w8 _ _ c6]
 have o2:S6 im=some (.cells [.map mp]):=by rw[<-hU6];simp[w8 _ _ c2]
 have o3:S6 ib=some (.cells [.bool true]):=by rw[<-hU6];simp
 have o4:S6 mp=some (.map (eSN [])):=by rw[<-hU6];simp[w8 _ _ a4,w8 _ _ a5]
 have hS6:Sub V S6:=fun j x hj=>by
  have e1:j≠il:=A1 hj hil;have e2:j≠im:=A1 hj b1;have e3:j≠ib:=A1 hj b3;have e4:j≠mp:=A1 hj b6;rw[<-hU6];simp only[w8 _ _ e1,w8 _ _ e2,w8 _ _ e3,w8 _ _ e4];exact hj
 clear hU6;refine CB il 0 1 (ds:=[.nils]) o1 rfl (fun it hit=>?_);have t1:il≠it:=A1 o1 hit;have t2:im≠it:=A1 o2 hit;have t3:ib≠it:=A1 o3 hit;have t4:mp≠it:=A1 o4 hit;generalize hU7:Sig.set (Sig.set _ it _) il _=S7
 have hG7:GenS mp ib il it S7 ([],true):=by
  rw[<-hU7];exact⟨by simp[w8 _ _ a6,w8 _ _ t4];exact o4,by simp[w8 _ _ a3,w8 _ _ t3];exact o3,by simp[cS],by simp[w8 _ _ (Ne.symm t1)]⟩
 have hm7:S7 im=some (.cells [.map mp]):=by rw[<-hU7];simp[w8 _ _ a1,w8 _ _ t2];exact o2
 have hz:∀j,S6 j=none->V j=none:=fun j hj=>by
  cases h:V j with
  |none=>rfl
  |some o=>rw[hS6 _ _ h]at hj;cases hj
 have hS7:Sub V S7:=fun j x hj=>by
  have e1:j≠il:=A1 hj hil;have e2:j≠it:=fun e=>by rw[e,hz _ hit]at hj;cases hj
  rw[<-hU7,w8 _ _ e1,w8 _ _ e2];exact hS6 _ _ hj
 clear hU7
 have ht0:∀j,tG mp ib il it j->V j=none:=fun j hj=>by
  rcases hj with rfl|rfl|rfl|rfl
  ·exact b6
  ·exact b3
  ·exact hil
  ·exact hz _ hit
 have him':¬tG mp ib il it im:=fun h=>by
  rcases h with h|h|h|h
  ·exact c5 h
  ·exact c2 h
  ·exact a1 h
  ·exact t2 h
 refine U9 [1,2,3,4,5,10,11,16,17,35,36,37,38,39,40,41,42,43,44,45,46,47,48,49,50,51,52,53,54,55,56,57,58,59,60,61] (fun (k:Nat) (out:List FExp) (o:Own) (s:GenT) (S1:Sig)=>k<=f.methods.length/\out=(f.methods.take k).map (·.body)/\(o=.clip \/ ∃i,o=.tag i/\S1 i=some (.tail 4 out.length)/\V i=none /\ ¬tG mp ib il it i)/\s.1.length<=k/\metG f.methods ([],true)=metG (f.methods.drop k) s/\GenS mp ib il it S1 s/\S1 im=some (.cells [.map mp])/\Sub V S1) (fun k out o _ _=>[(18,dI k),(6,.slice (out.map AO) o)]) (fun _ _ _ _ S1=>S1) (fun k _ _ _ _=>f.methods.length-k) (0) ([]) (.clip) (_) (S7) (by exact⟨by omega,rfl,.inl rfl,Nat.le_refl _,rfl,hG7,hm7,hS7⟩) (fun k out o s S1 hI=>?_);obtain⟨hk,hout,ho,hsl,hR,hG,hm,hS⟩:=hI;have hol:out.length=k:=by rw[hout];simp;omega
 by_cases hkl:k<f.methods.length
 ·rw[A3 hkl,metG]at hR;have hwm:=p5 k hkl;have hwb:f.methods[k].params.length<=1073741824/\f.methods[k].name.length<=1073741824:=by have:=hwm;unfold FMeth.wt at this;have:=Bk f.methods[k].params;omega
  have hbd:out++[(f.methods[k]).body]=(f.methods.take (k+1)).map (·.body):=by rw[hout,AR hkl,List.map_append];rfl
  try refine gz ?_ o191 [2,3,4]
  refine Ab (JY f.methods[k].name f.methods[k].params.length im mp ib il it s S1 (by omega) hm hG c3.symm) (fun x S2 hr=>?_) (fun x S2 hr=>by cases hr.1);obtain⟨e1,hG2,hK⟩:=hr;cases e1;have hm2:S2 im=some (.cells [.map mp]):=hK _ _ hm him';have hS2:Sub V S2:=fun j x hj=>hK _ _ (hS _ _ hj) fun ht=>by rw[ht0 j ht]at hj;cases hj
  have hsl2:=KJ f.methods[k].name f.methods[k].params.length s;rcases ho with rfl|⟨i,rfl,hi1,hi0,hit⟩
  ·try refine gz ?_ o191 [2,3,4]
   refine appC (fun j hj=>?_)
   try refine gz ?_ o191 [2,3,4]
   have hj0:V j=none:=hS2.none hj
   have hjt:¬tG mp ib il it j:=fun ht=>by
    rcases ht with rfl|rfl|rfl|rfl
    ·rw[hG2.om]at hj;cases hj
    ·rw[hG2.ob]at hj;cases hj
    ·rw[hG2.ol]at hj;cases hj
    ·rw[hG2.ot]at hj;cases hj
   have hG3:GenS mp ib il it (S2.set j (.tail 4 (out++[(f.methods[k]).body]).length)) (seeG f.methods[k].name f.methods[k].params.length s):=
    ⟨by rw[w8 _ _ fun e=>hjt (.inl e.symm)];exact hG2.om,by rw[w8 _ _ fun e=>hjt (.inr (.inl e.symm))];exact hG2.ob,by rw[w8 _ _ fun e=>hjt (.inr (.inr (.inl e.symm)))];exact hG2.ol,by rw[w8 _ _ fun e=>hjt (.inr (.inr (.inr e.symm)))];exact hG2.ot⟩
   have hm3:(S2.set j (.tail 4 (out++[(f.methods[k]).body]).length)) im=some (.cells [.map mp]):=by rw[w8 _ _ (A1 hm2 hj)];exact hm2
   have hsub:Sub (S2.set j (.tail 4 (out++[(f.methods[k]).body]).length)) (S2.set j (.tail (tab 40).size ((out.map AO).length+[AO (f.methods[k]).body].length))):=by simp;exact Sub.refl _
   exact⟨k+1,out++[(f.methods[k]).body],.tag j,_,S2.set j (.tail 4 (out++[(f.methods[k]).body]).length),⟨by omega,hbd,.inr ⟨j,rfl,w7 .., hj0,hjt⟩,by omega,hR,hG3,hm3,hS2.trans ((Sub.refl _).set hj)⟩,td1,wkR⟩
  ·have hi2:=hK _ _ hi1 hit
   try refine gf hi2 ?_ o191 [2,3,4]
   have hG3:GenS mp ib il it (S2.set i (.tail 4 (out++[(f.methods[k]).body]).length)) (seeG f.methods[k].name f.methods[k].params.length s):=
    ⟨by rw[w8 _ _ fun e=>hit (.inl e.symm)];exact hG2.om,by rw[w8 _ _ fun e=>hit (.inr (.inl e.symm))];exact hG2.ob,by rw[w8 _ _ fun e=>hit (.inr (.inr (.inl e.symm)))];exact hG2.ol,by rw[w8 _ _ fun e=>hit (.inr (.inr (.inr e.symm)))];exact hG2.ot⟩
   have hm3:(S2.set i (.tail 4 (out++[(f.methods[k]).body]).length)) im=some (.cells [.map mp]):=by rw[w8 _ _ (A9 hm2 hi2 (by simp))];exact hm2
   have hsub:Sub (S2.set i (.tail 4 (out++[(f.methods[k]).body]).length)) (S2.set i (.tail 4 (out.length+1))):=by simp;exact Sub.refl _
   exact⟨k+1,out++[(f.methods[k]).body],.tag i,_,S2.set i (.tail 4 (out++[(f.methods[k]).body]).length),⟨by omega,hbd,.inr ⟨i,rfl,w7 .., hi0,hit⟩,by omega,hR,hG3,hm3,hS2.set hi0⟩,td1,wkR⟩
 ·have hke:k=f.methods.length:=by omega
  subst hke;rw[A2 hkl,metG]at hR;rw[List.take_length]at hout;have hgp:Dh f=CI (out++[f.main]) s:=by unfold Dh Cu;rw[hR,hout]
  have hbe:out++[f.main]=Cu f:=by unfold Cu;rw[hout]
  have hle:(Cu f).length<=f.wt:=by rw[<-hbe,List.length_append,hol];simp;omega
  rw[hbe]at hgp;clear hR
  obtain⟨Sc,hGc,hmc,hSc,hcc⟩:∃Sc,GenS mp ib il it Sc s/\Sc im=some (.cells [.map mp])/\Sub V Sc/\(o=.clip/\Sub Sc S1 \/ ∃i,o=.tag i/\S1 i=some (.tail 4 out.length) /\ ∀x,Sub Sc (S1.set i x)):=by
   rcases ho with rfl|⟨i,rfl,hi1,hi0,hit⟩
   ·exact⟨S1,hG,hm,hS,.inl ⟨rfl,Sub.refl _⟩⟩
   ·have e:∀j,j≠i->(S1.del i) j=S1 j:=fun j hj=>by simp only[Sig.del,hj,if_false]
    refine⟨S1.del i,⟨?_,?_,?_,?_⟩,?_,fun j x hj=>?_,.inr ⟨i,rfl,hi1,fun x j y hj=>?_⟩⟩
    ·rw[e _ fun e=>hit (.inl e.symm)];exact hG.om
    ·rw[e _ fun e=>hit (.inr (.inl e.symm))];exact hG.ob
    ·rw[e _ fun e=>hit (.inr (.inr (.inl e.symm)))];exact hG.ol
    ·rw[e _ fun e=>hit (.inr (.inr (.inr e.symm)))];exact hG.ot
    ·rw[e _ (A9 hm hi1 (by simp))];exact hm
    ·rw[e _ fun e=>by rw[e,hi0]at hj;cases hj];exact hS _ _ hj
    ·by_cases h:j=i
     ·simp only[Sig.del,h,if_true]at hj;cases hj
     ·rw[e _ h]at hj;rw[w8 _ _ h];exact hj
  clear ho
  repeat ((fail_if_success (first|(refine dwp_cut1 (b:=.block 2 _) [(39,sl ((Cu f).map AO)),(40,dI (Cu f).length),(41,dI 0)] Sc ?_ (fun _ hK=>?_))|fail));(refine goX1 trivial ?_))
  refine dwp_cut1 (b:=.block 2 _) [(39,sl ((Cu f).map AO)),(40,dI (Cu f).length),(41,dI 0)] Sc ?_ (fun _ hK=>?_)
  ·have hpos:0<=(Cu f).length:=Nat.zero_le _;generalize hes:Cu f=es at*
   try refine gz ?_ o191 [2,3,4]
   refine loopD4 [2,3,4,5,39,40,47,59,60,61] (fun (q:Nat) (s1:GenT) (S2:Sig) (js:List Nat)=>q<=es.length/\s1.1.length+wtL FExp.wt (es.drop q)<=100000000/\CI es s=CI (es.drop q) s1/\GenS mp ib il it S2 s1/\S2 im=some (.cells [.map mp])/\Sub V S2/\js.Nodup/\(∀j∈js,V j=none/\S2 j=some .defs)) (fun q _ _ _=>[(41,dI q)]) (fun _ _ S2 _=>S2) (fun _ _ _ js=>js.map .coll) (fun q _ _ _=>es.length-q) (0) (s) (Sc) ([]) (by exact⟨by omega,by rw[List.drop_zero];omega,rfl,hGc,hmc,hSc,by simp,by simp⟩) (fun q s1 S2 js hI=>?_);obtain⟨hq,hB,hR,hG2,hm2,hS2,hnd,hjs⟩:=hI
   by_cases hql:q<es.length
   ·rw [A3 hql] at hB hR;rw[wtL]at hB;rw[CI]at hR;have hwe:es[q].wt<=100000000:=by omega
    have hMo:MonoG (fun (V:Sig) (s:GenT)=>GenS mp ib il it V s/\V im=some (.cells [.map mp])):=fun V S' s ⟨⟨g1,g2,g3,g4⟩,g5⟩ hj=>⟨⟨hj _ _ g1 rfl,hj _ _ g2 rfl,hj _ _ g3 rfl,hj _ _ g4 rfl⟩,hj _ _ g5 rfl⟩
    have htn:∀j,tG mp ib il it j->S2 j≠none/\S2 j≠some .defs:=fun j hj=>by
     rcases hj with rfl|rfl|rfl|rfl
     ·rw[hG2.om];simp
     ·rw[hG2.ob];simp
     ·rw[hG2.ol];simp
     ·rw[hG2.ot];simp
    have hlq:=ON es[q] s1
    repeat' first|refine gz ?_ [] [2,3,4]|refine AE (IN es[q] S2) ?_|refine callP (IN es[q] S2) ?_|refine gz ?_ o191 [2,3,4]|apply gy<;>intro hh
    refine I8 unf2 (fun (V:Sig) (s:GenT)=>GenS mp ib il it V s/\V im=some (.cells [.map mp])) (tG mp ib il it) (tG mp ib il it) (some (genE es[q] s1)) s1 (hMo.indep _) hMo.fresh ⟨hG2,hm2⟩ (fun j hj=>(htn j hj).1) (fun j hj=>(htn j hj).1) rfl (fun l did LO SL hLO hd hl htl hSL hGd hnt=>?_) (fun did s' S' ho hdn hdd hG' hk=>?_) (fun did S' ho hdn hdd hk=>by cases ho)
    ·rw[<-Hs es[q] 1 s1];refine(Q2 l _ (tG mp ib il it) (fun j=>tG mp ib il it j\/j=l) stepG es[q] SL s1 (fun s=>s.1.length) 100000000 Lz (by omega) (by omega) (fun x S3 s hx hpb hG3=>?_) (hGd.indep (hMo.indep _)) (fun V s a o h ha=>h.new hMo.fresh ha) hGd (fun j h=>.inl h) (fun j hj h=>?_)).mono (fun x S' hx=>by rw[Hs]at hx⊢; exact hx)
     ·have hGb:=hG3.busy hLO (hMo.indep _) hl;obtain⟨hGb,hmb⟩:=hGb;refine DD hLO hG3.1 ?_
      try refine gz ?_ o191 [2,3,4]
      refine⟨hG3.1,?_⟩
      by_cases h5:x.op=5
      ·have hst:stepG x s=some (seeG x.text x.kids.length s):=by unfold stepG;rw[if_pos h5]
       have hxk:x.kids.length<=1073741824:=by have:=x.wt_le;omega
       try refine gf h5 ?_ o191 [2,3,4]
       refine Ab (JY x.text x.kids.length im mp ib il it s _ (by omega) hmb hGb c3.symm) (fun x S4 hr=>?_) (fun x S4 hr=>by cases hr.1);obtain⟨e1,hG4,hK4⟩:=hr;cases e1
       try refine gz ?_ o191 [2,3,4]
       exact GZ hst hLO (hMo.indep _) hG3 htl hl ⟨hG4,hK4 _ _ hmb him'⟩ hK4
      ·have hst:stepG x s=some s:=by unfold stepG;rw[if_neg h5]
       try refine gf h5 ?_ o191 [2,3,4]
       exact GZ hst hLO (hMo.indep _) hG3 htl hl ⟨hGb,hmb⟩ (Keep.refl _ _)
     ·rcases h with h|h
      ·exact hnt j hj h
      ·rw[h,hGd.1]at hj;cases hj
    ·cases ho
     try refine gz ?_ o191 [2,3,4]
     have hj1:Sub V S':=fun j x hj=>(hk j x (hS2 _ _ hj) fun ht=>by rw[ht0 j ht]at hj;cases hj).1
     have hj2:(did::js).Nodup:=List.nodup_cons.2 ⟨fun hm=>(hk did _ (hjs did hm).2 fun ht=>(htn did ht).2 (hjs did hm).2).2 rfl,hnd⟩
     have hj3:∀j∈did::js,V j=none/\S' j=some .defs:=fun j hj=>by
      rcases List.mem_cons.1 hj with rfl|hj
      ·exact⟨hS2.none hdn,hdd⟩
      ·exact⟨(hjs j hj).1,(hk j _ (hjs j hj).2 fun ht=>(htn j ht).2 (hjs j hj).2).1⟩
     exact⟨q+1,genE es[q] s1,S',did::js,⟨by omega,by omega,hR,hG'.1,hG'.2,hj1,hj2,hj3⟩,td1,wkR⟩
   ·rw[A2 hql,CI]at hR;obtain⟨z1,z2,z3,z4⟩:=hG2;have y1:S2.set il (.cells [.slice (cS (s1.1.map (·.1))) (.tag it)])=S2:=Sig.set_self _ z3;have y2:S2.set im (.cells [.map mp])=S2:=Sig.set_self _ hm2;have y3:S2.set ib (.cells [.bool s1.2])=S2:=Sig.set_self _ z2;have s3:Sub S2 (S2.set il (.cells [.slice (cS (s1.1.map (·.1))) (.tag it)])):=by rw[y1];exact Sub.refl _
    have s4:Sub S2 ((S2.set il (.cells [.slice (cS (s1.1.map (·.1))) (.tag it)])).set im (.cells [.map mp])):=by rw[y1,y2];exact Sub.refl _
    have s5:Sub S2 (((S2.set il (.cells [.slice (cS (s1.1.map (·.1))) (.tag it)])).set im (.cells [.map mp])).set ib (.cells [.bool s1.2])):=by rw[y1,y2,y3];exact Sub.refl _
    try refine gf (gi z1 (gi z2 (gi z3 hm2))) ?_ o191 [2,3,4]
    rw[y1,y2,y3]
    have u1:∀j o,S2 j=some o->o≠.defs->(dels js S2) j=some o:=fun j o hj ho=>by
     rw[IZ js S2 j fun hm=>ho (by have:=(hjs j hm).2;rw[hj]at this;cases this;rfl)];exact hj
    have v1:=u1 _ _ z3 (by simp);have v2:=u1 _ _ hm2 (by simp);have v3:=u1 _ _ z2 (by simp);rw[hR]at hgp;subst hgp;refine finMC js (S':=V) (ds:=[.slice (cS ((Dh f).1.map (·.1))) (.tag it),.map mp,.bool (Dh f).2]) ⟨rfl,rfl⟩ (TP hS2 fun j hj=>(hjs j hj).1) hnd (fun j hj=>(hjs j hj).2) (by simp[resL,v1,v2,v3]) ?_;exact GB ⟨Bc _ _,Dv _,A7 _,trivial⟩
  ·rcases hcc with⟨rfl,hcc⟩|⟨i,rfl,hi1,hcc⟩
   ·try refine gz ?_ o191 [2,3,4]
    refine appC (fun j hj=>?_)
    try refine gz ?_ o191 [2,3,4]
    exact dwp_wk (Bt (by first|(simp[<-hbe];done)|(simp_all [<-hbe];done)) (hcc.trans ((Sub.refl _).set hj))) hK
   ·try refine gf hi1 ?_ o191 [2,3,4]
    exact dwp_wk (Bt (by first|(simp[<-hbe];done)|(simp_all [<-hbe];done)) (hcc _)) hK
def G2(o:Option Str)(l i2:Nat)(LO:DObj)(V:Sig)(x:DE)(S':Sig):Prop:=x=.ret (.tup [])/\match o with
 |none=>Sub V S'
 |some w=>DoneY l i2 LO w V S'
theorem S9(tk:List Str)(l i2:Nat)(LO:DObj)(V:Sig)(hl:V l=some LO)(hLO:isLD LO=true)(h2:V i2=some (.cells [.str []]))(hy:∀(w:Str) S',Sub V S'->w.length<=8->DYield prog l [.str w] S' (YR tk l i2 LO w S')):
  DCall prog 286 [.yld l] V (G2 (IF tk) l i2 LO V):=by
 refine en func286 ntmps286 ?_
 try refine gz ?_ [] [3,4]
 refine Ab (K0 V) (fun d S' hr=>?_) (fun d S' hr=>by obtain⟨_,_,h,_⟩:=hr;cases h);obtain⟨ik,hik,e1,e2⟩:=hr;cases e1;rw[e2];clear e2 S';have o2:(V.set ik (.map (eSS kwds))) ik=some (.map (eSS kwds)):=w7 ..;have hS:Sub V (V.set ik (.map (eSS kwds))):=(Sub.refl _).set hik;generalize V.set ik (.map (eSS kwds))=S1 at*
 try refine gz ?_ [] [3,4]
 refine newV (fun i3 hi3=>?_)
 try refine gz ?_ [] [3,4]
 refine FG [1,2] (fun (k:Nat) (j3:Nat) (S2:Sig)=>1<=k/\k<=9/\Sub V S2/\S2 j3=some (.cells [dI (k:Int)])/\S2 ik=some (.map (eSS kwds))/\IF tk=Dr (fun k=>D6 tk k []) (9-k) k) (fun _ j3 _=>[(3,.ptr j3 0)]) (fun _ _ S2=>S2) (fun k _ _=>9-k) (1) (i3) (S1.set i3 (.cells [dI 1])) (by exact⟨by omega,by omega,hS.trans ((Sub.refl _).set hi3),w7 .., by rw[w8 _ _ (A1 o2 hi3)];exact o2,rfl⟩) (fun k j3 S2 hI=>?_);obtain⟨hk1,hk9,hS2,q3,q2,hR⟩:=hI
 by_cases hk:k<=8
 ·rw[show 9-k=(9-(k+1))+1 by omega,Dj _ (9-(k+1))]at hR
  try refine gf q3 ?_ [] [3,4]
  refine newV (fun i4 hi4=>?_)
  try refine gz ?_ [] [3,4]
  have n1:=A1 q3 hi4;have n2:=A1 q2 hi4;generalize hU3:S2.set i4 (.cells [.func (.func 306) [] [.ptr j3 0,.cptr [.map ik] 0,.cptr [.yld l] 0,.ptr i4 0]])=S3;have r4:S3 i4=some (.cells [.func (.func 306) [] [.ptr j3 0,.cptr [.map ik] 0,.cptr [.yld l] 0,.ptr i4 0]]):=by rw[<-hU3];exact w7 ..
  have r3:S3 j3=some (.cells [dI (k:Int)]):=by rw[<-hU3,w8 _ _ n1];exact q3
  have r2:S3 ik=some (.map (eSS kwds)):=by rw[<-hU3,w8 _ _ n2];exact q2
  have hS3:Sub V S3:=by rw[<-hU3];exact hS2.trans ((Sub.refl _).set hi4)
  clear hU3;have h306:=RT tk l i2 LO V hl hLO h2 hy j3 ik i4 k [] .no S3 (by simp;omega) hS3 (by simpa using r3) r2 r4;refine callWP h306 (fun d S' hr=>?_) (fun d S' hr=>by unfold GR at hr;split at hr<;>cases hr.1);cases hg:D6 tk k []with
  |none=>
   rw[hg]at hr hR;obtain⟨e1,hr⟩:=hr;cases e1;have s3:=hr _ _ r3
   try refine gf s3 ?_ [] [3,4]
   refine newV (fun i5 hi5=>?_);have n5:=A1 (hr _ _ r2) hi5
   try refine gz ?_ [] [3,4]
   have hkk:((k:Int)+1)=((k+1:Nat):Int):=by omega
   exact⟨k+1,i5,S'.set i5 (.cells [dI ((k+1:Nat):Int)]),⟨by omega,by omega,(hS3.trans hr).trans ((Sub.refl _).set hi5),w7 .., by rw[w8 _ _ n5];exact hr _ _ r2,hR⟩,td1,wkR⟩
  |some w=>
   rw[hg]at hr hR;obtain⟨e1,hr⟩:=hr;cases e1
   try refine gz ?_ [] [3,4]
   refine fin0 (S':=S') ⟨rfl,?_⟩;rw[hR];exact hr.sub hS3
 ·have h0:∀f:Nat->Option Str,Dr f 0 k=none:=fun _=>rfl;rw[show 9-k=0 by omega,h0]at hR
  try refine gf q3 ?_ [] [3,4]
  refine Dl (S':=S2) ⟨rfl,?_⟩;rw[hR];exact hS2
theorem rangeY{P:Program}{n:Nat}{Q:DX->St->Prop}{γ:Fr}{V:Sig}{df:List DDf}{gop:Operand}{ps:Array Tmp}{asg body:Code}{f:Nat}{first cap:List D}(i2:Nat)(o:Option Str){x2:DObj}(hi2:V i2=some x2)
  (hf:ev γ gop=.func (.func f) first cap)
  (hcall:∀l did LO,LO=DObj.loop .ready none ps asg body n γ did->V did=none->(V.set did .defs) l=none->DCall P f (first++[.yld l]++cap) ((V.set did .defs).set l LO) (G2 o l i2 LO ((V.set did .defs).set l LO)))
  (hnone:o=none->∀did S',V did=none->S' did=some .defs->(∀j x,V j=some x->S' j=some x/\j≠did)->Q .normal ⟨γ,S',.coll did::df⟩)
  (hsome:∀w,o=some w->∀did S',V did=none->S' did=some .defs->S' i2=some (.cells [.str w])->(∀j x,V j=some x->j≠i2->S' j=some x/\j≠did)->DWp P none n .ret Q ⟨γ,S',.coll did::df⟩) :
  DWp P none n (.rangeFunc gop ps asg body) Q ⟨γ,V,df⟩:=by
 refine Ed (R:=fun l did x S'=>G2 o l i2 (DObj.loop .ready none ps asg body n γ did) ((V.set did .defs).set l (DObj.loop .ready none ps asg body n γ did)) x S') hf (fun l did hd hl hld=>?_) (fun l did d S' hd hl hld hr=>?_) (fun l did d S' hd hl hld hr=>by cases hr.1)
 ·have hl':(V.set did .defs) l=none:=by first|exact hl|(rw[w8 _ _ hld];exact hl)
  exact hcall l did _ rfl hd hl'
 ·have hl':(V.set did .defs) l=none:=by first|exact hl|(rw[w8 _ _ hld];exact hl)
  have hl0:V l=none:=by rw[w8 _ _ hld]at hl';exact hl'
  have dl:∀j,j≠l->(S'.del l) j=S' j:=fun j h=>by simp only[Sig.del,h,if_false]
  have b1:∀j x,V j=some x->((V.set did .defs).set l (DObj.loop .ready none ps asg body n γ did)) j=some x/\j≠l/\j≠did:=fun j x hj=>by
   have e1:j≠l:=A1 hj hl0;have e2:j≠did:=A1 hj hd;exact⟨by rw[w8 _ _ e1,w8 _ _ e2];exact hj,e1,e2⟩
  have b2:((V.set did .defs).set l (DObj.loop .ready none ps asg body n γ did)) did=some .defs:=by rw[w8 _ _ (Ne.symm hld)];exact w7 ..
  obtain⟨e1,hr⟩:=hr;cases o with
  |none=>
   have hr:Sub _ S':=hr;refine⟨.ready,none,hr _ _ (w7 ..),by simp,hnone rfl did _ hd (by rw[dl _ (Ne.symm hld)];exact hr _ _ b2) fun j x hj=>?_⟩;obtain⟨c1,c2,c3⟩:=b1 j x hj;exact⟨by rw[dl _ c2];exact hr _ _ c1,c3⟩
  |some w=>
   obtain⟨d1,d2,d3⟩:DoneY l i2 _ w _ S':=hr;obtain⟨c1,c2,c3⟩:=b1 _ _ hi2;refine⟨.done,some .ret,d1,by simp,hsome w rfl did _ hd (by rw[dl _ (Ne.symm hld)];exact d3 _ _ b2 (Ne.symm hld) (Ne.symm c3)) (by rw[dl _ c2];exact d2) fun j x hj hn=>?_⟩;obtain⟨c1,c2,c3⟩:=b1 j x hj;exact⟨by rw[dl _ c2];exact d3 _ _ c1 c2 hn,c3⟩
def DP(tk:List Str):Str:=(IF tk).getD []
theorem Mr(tk:List Str)(im:Nat)(V:Sig)(hm:V im=some (.map (eSS tk))):DCall prog 253 [.map im] V (rS (.str (DP tk)) V):=by
 refine AX func253 rfl (by decide) ntmps253 (by simp) ?_
 try refine gz ?_ [] [2]
 refine newV (fun i2 hi2=>?_);have n1:im≠i2:=A1 hm hi2;have hm2:(V.set i2 (.cells [.str []])) im=some (.map (eSS tk)):=by rw[w8 _ _ n1];exact hm
 try refine gz ?_ [] [2]
 refine rangeY i2 (IF tk) (w7 ..) rfl (fun l did LO hLO hd hl=>?_) (fun ho did S' hdn hdd hk=>?_) (fun w ho did S' hdn hdd hw2 hk=>?_)
 ·have e1:i2≠did:=fun e=>by rw[<-e,w7]at hd;cases hd
  have e2:im≠did:=fun e=>by rw[<-e,hm2]at hd;cases hd
  have e3:i2≠l:=fun e=>by rw[<-e,w8 _ _ e1,w7]at hl;cases hl
  have e4:im≠l:=fun e=>by rw[<-e,w8 _ _ e2,hm2]at hl;cases hl
  refine S9 tk l i2 LO _ (w7 ..) (Iu hLO).1 (by rw[w8 _ _ e3,w8 _ _ e1];exact w7 ..) fun w S1 hS hwl=>?_
  have g1:S1 l=some LO:=hS _ _ (w7 ..);have g2:S1 im=some (.map (eSS tk)):=hS _ _ (by rw[w8 _ _ e4,w8 _ _ e2];exact hm2);have g3:S1 i2=some (.cells [.str []]):=hS _ _ (by rw[w8 _ _ e3,w8 _ _ e1];exact w7 ..);refine DD hLO g1 ?_
  try refine gz ?_ [] [2]
  refine⟨g1,?_⟩;have g2b:(S1.set l (BG LO)) im=some (.map (eSS tk)):=by rw[w8 _ _ e4];exact g2
  by_cases hw:w∈tk
  ·try refine gf (gi g2 hw) ?_ [] [2]
   exact⟨w7 .., by unfold YR;rw[if_pos hw];exact⟨rfl,by rw[Sig.set_set,Sig.set_self _ g1];exact Sub.refl _⟩⟩
  ·try refine gf (gi g2 (gi g3 hw)) ?_ [] [2]
   refine⟨(w8 _ _ (Ne.symm e3)).trans (w7 ..),?_⟩;unfold YR;rw[if_neg hw];refine⟨rfl,w7 .., (w8 _ _ e3).trans (w7 ..),fun j o hj h1 h2=>?_⟩;show(((S1.set l (BG LO)).set i2 (.cells [.str w])).set l (UR .ret LO)) j=some o;rw[w8 _ _ h1,w8 _ _ h2,w8 _ _ h1];exact hj
 ·have hf:DP tk=[]:=by unfold DP;rw[ho];rfl
  have h2:=(hk i2 _ (w7 ..)).1;have hdi:i2≠did:=(hk i2 _ (w7 ..)).2;have hdm:did≠i2:=Ne.symm hdi
  try refine gf h2 ?_ [] [2]
  refine finMC [did] (S':=V) (ds:=[.str []]) ⟨by rw[hf];rfl,rfl⟩ (fun j x hj=>?_) (by simp) (by simp[w8 _ _ hdm,hdd]) (by simp[resL,dels,Sig.del,hdi]) (A7 _);have ne2:j≠i2:=A1 hj hi2;obtain⟨c1,c2⟩:=hk j x (by rw[w8 _ _ ne2];exact hj);rw[IZ _ _ _ (by simpa using c2),w8 _ _ ne2];exact c1
 ·have hf:DP tk=w:=by unfold DP;rw[ho];rfl
  have hdi:i2≠did:=fun e=>by rw[<-e,hw2]at hdd;cases hdd
  try refine gz ?_ [] [2]
  refine finMC [did] (S':=V) (ds:=[.str w]) ⟨by rw[hf];rfl,rfl⟩ (fun j x hj=>?_) (by simp) (by simp[hdd]) (by simp[resL,dels,Sig.del,hdi,hw2]) (A7 _);have ne2:j≠i2:=A1 hj hi2;obtain⟨c1,c2⟩:=hk j x (by rw[w8 _ _ ne2];exact hj) ne2;rw[IZ _ _ _ (by simpa using c2)];exact c1
theorem Ok(x:Str): ∀(l m:List Str),x∈setL l m ↔ x∈l\/x∈m
 |[],m=>by simp[setL]
 |y::r,m=>by rw[setL,Ok x r,Ir,List.mem_cons];grind
theorem EO{f g:Nat->Option Str}(h:∀j,f j=g j): ∀k j,Dr f k j=Dr g k j
 |0,_=>rfl
 |k+1,j=>by rw[Dj,Dj,h j,EO h k]
theorem IB{a b:List Str}(h:∀x,x∈a ↔ x∈b): ∀(n:Nat) (s:Str),D6 a n s=D6 b n s
 |0,s=>by rw[D6,D6];simp only[h s]
 |n+1,s=>by rw[D6,D6];exact EO (fun j=>IB h n _) _ _
theorem Md{a b:List Str}(h:∀x,x∈a ↔ x∈b):DP a=DP b:=by
 unfold DP IF;rw[EO fun k=>IB h k []]
theorem Sx(l:List Str)(o:Own)(V:Sig)(hl:l.length<=1073741824):DCall prog 213 [.slice (cS l) o] V (rS (.str (DP l)) V):=by
 refine en func213 ntmps213 ?_
 try refine gz ?_
 refine Ab (Q6 l o V hl) (fun x S1 hr=>?_) (fun x S1 hr=>by obtain⟨_,_,h,_⟩:=hr;cases h);obtain⟨im,him,e1,e2⟩:=hr;cases e1;rw[e2]
 repeat' first|refine gz ?_|refine AE (Mr (setL l []) im _ (w7 ..)) ?_|refine callP (Mr (setL l []) im _ (w7 ..)) ?_|refine gz ?_|apply gy<;>intro hh
 refine fin1 (S':=V) ⟨rfl,rfl⟩ ((Sub.refl _).set him) (hw:=?_);refine Bd ?_;rw[Md (a:=setL l []) (b:=l) fun x=>by rw[Ok];simp]
@[reducible,instance] def a213:=fun l o V=>ah1 (@Sx l o V)
def Gl:Nat->List Str->List Str
 |0,out=>out
 |n+1,out=>Gl n (out++[DP out])
def Bo(n:Nat):List Str:=Gl n []
theorem JM: ∀(n:Nat) (l:List Str),(Gl n l).length=l.length+n
 |0,l=>rfl
 |n+1,l=>by rw[Gl,JM n,List.length_append];simp;omega
theorem ES(n:Nat)(V:Sig)(hn:n<=1073741824):DCall prog 134 [dI n] V (rS (sl (cS (Bo n))) V):=by
 refine en func134 ntmps134 ?_
 try refine gz ?_
 refine Cj 3 1 (fun i hi=>?_);refine Br [2,5,15] (fun (k:Nat) (out:List Str)=>k<=n/\out.length=k/\Bo n=Gl (n-k) out) (fun k out=>[(6,dI k),(3,.slice (cS out) (.tag i))]) (fun _ out=>V.set i (.tail 1 out.length)) (fun k _=>n-k) (0) ([]) (by simp[Bo]) (fun k out hI=>?_);obtain⟨hk,hol,hR⟩:=hI
 by_cases hkl:k<n
 ·rw[show n-k=(n-(k+1))+1 by omega,Gl]at hR
  try refine gz ?_
  exact⟨k+1,out++[DP out],⟨by omega,by rw[List.length_append,hol];rfl,hR⟩,td1,wkR⟩
 ·rw[show n-k=0 by omega,Gl]at hR
  try refine gz ?_
  rw[hR];exact fin1 (S':=V) ⟨rfl,rfl⟩
@[reducible,instance] def a134:=fun n V=>ah1 (@ES n V)
def cSp(p:BProg)(a b c:List Str):D:=.cptr [.cptr [sl (p.classes.map cBClass),dI p.slots,sl (cI p.gens),sl (p.methods.map Ak),sl (p.nodes.map Af),dI p.main,sl (cS a),sl (cS b),sl (cS c)] 0] 0
theorem T5(p:BProg)(a b c:List Str)(n:Nat)(V:Sig)(hn:n<a.length)(ha:a.length<=1073741824):DCall prog 138 [dI n,cSp p a b c] V (rS (.str ((a[n]?).getD [])) V):=by
 have hc:cSp p a b c=.cptr [.cptr [sl (p.classes.map cBClass),dI p.slots,sl (cI p.gens),sl (p.methods.map Ak),sl (p.nodes.map Af),dI p.main,sl (cS a),sl (cS b),sl (cS c)] 0] 0:=rfl;have hg:(a[n]?).getD []=a[n]:=by rw[List.getElem?_eq_getElem hn];rfl
 rw[hc,hg];refine en func138 ntmps138 ?_;refine gz ?_;exact fe1 trivial
theorem T4(p:BProg)(a b c:List Str)(n:Nat)(V:Sig)(hn:n<b.length)(ha:b.length<=1073741824):DCall prog 139 [dI n,cSp p a b c] V (rS (.str ((b[n]?).getD [])) V):=by
 have hc:cSp p a b c=.cptr [.cptr [sl (p.classes.map cBClass),dI p.slots,sl (cI p.gens),sl (p.methods.map Ak),sl (p.nodes.map Af),dI p.main,sl (cS a),sl (cS b),sl (cS c)] 0] 0:=rfl;have hg:(b[n]?).getD []=b[n]:=by rw[List.getElem?_eq_getElem hn];rfl
 rw[hc,hg];refine en func139 ntmps139 ?_;refine gz ?_;exact fe1 trivial
theorem Sv(p:BProg)(a b c:List Str)(n:Nat)(V:Sig)(hn:n<b.length)(ha:b.length<=1073741824):DCall prog 216 [dI n,cSp p a b c] V (rS (.str ((b[n]?).getD [])) V):=by
 have hc:cSp p a b c=.cptr [.cptr [sl (p.classes.map cBClass),dI p.slots,sl (cI p.gens),sl (p.methods.map Ak),sl (p.nodes.map Af),dI p.main,sl (cS a),sl (cS b),sl (cS c)] 0] 0:=rfl;have hg:(b[n]?).getD []=b[n]:=by rw[List.getElem?_eq_getElem hn];rfl
 rw[hc,hg];refine en func216 ntmps216 ?_;refine gz ?_;exact fe1 trivial
theorem T1(p:BProg)(a b c:List Str)(n:Nat)(v:Int)(V:Sig)(hn:n<b.length)(ha:b.length<=1073741824):DCall prog 141 [.agg [dI n,dI v],cSp p a b c] V (rS (.agg (D1 ⟨(b[n]?).getD [],v⟩)) V):=by
 have hc:cSp p a b c=.cptr [.cptr [sl (p.classes.map cBClass),dI p.slots,sl (cI p.gens),sl (p.methods.map Ak),sl (p.nodes.map Af),dI p.main,sl (cS a),sl (cS b),sl (cS c)] 0] 0:=rfl;have hg:(b[n]?).getD []=b[n]:=by rw[List.getElem?_eq_getElem hn];rfl
 rw[hc,hg];refine en func141 ntmps141 ?_;refine gz ?_ o141;refine newV (fun i hi=>?_);refine gz ?_ o141;exact finC (S':=V) ⟨rfl,rfl⟩
def ixS(l:List Str)(n:Int):Str:=(l[n.toNat]?).getD []
def InR(n:Int)(k:Nat):Prop:=0<=n/\n<k
def spC(a b:List Str)(c:BClass):FClass:=⟨[],c.parents.map (ixS a),c.slots.map (ixS b),c.inits.map fun x=>⟨ixS b x.slot,x.n⟩⟩
def ClsIx(A S:Nat)(c:BClass):Prop:=(∀x∈c.parents,InR x A)/\(∀x∈c.slots,InR x S) /\ ∀x∈c.inits,InR x.slot S
theorem T6(p:BProg)(a b g:List Str)(c:BClass)(V:Sig)(hc:ClsIx a.length b.length c)(ha:a.length<=1073741824)(hb:b.length<=1073741824)(hw:c.wt<=1073741824):
  DCall prog 136 [.agg (cBClass c),cSp p a b g] V (rS (.agg (cFClass (spC a b c))) V):=by
 have hwc:c.parents.length<=1073741824/\c.slots.length<=1073741824/\c.inits.length<=1073741824:=by unfold BClass.wt at hw;omega
 obtain⟨c1,c2,c3⟩:=hwc;obtain⟨x1,x2,x3⟩:=hc
 have h1:=fun (V:Sig)=>IP c.parents (ixS a) 138 [cSp p a b g] .no V c1 (fun x hx S' _=>by
  obtain⟨h0,h1⟩:=x1 x hx
  obtain⟨n,rfl⟩:∃n:Nat,x=n:=⟨x.toNat,by omega⟩
  exact T5 p a b g n S' (by omega) ha)
 have h2:=fun (V:Sig)=>IP c.slots (ixS b) 139 [cSp p a b g] .no V c2 (fun x hx S' _=>by
  obtain⟨h0,h1⟩:=x2 x hx
  obtain⟨n,rfl⟩:∃n:Nat,x=n:=⟨x.toNat,by omega⟩
  exact T4 p a b g n S' (by omega) hb)
 have h3:=fun (V:Sig)=>T3 c.inits (fun x=>⟨ixS b x.slot,x.n⟩) 141 [cSp p a b g] .no V c3 (fun x hx S' _=>by
  obtain⟨s,v⟩:=x
  obtain⟨h0,h1⟩:=x3 _ hx
  obtain⟨n,rfl⟩:∃n:Nat,s=n:=⟨s.toNat,by simp only at h0;omega⟩
  exact T1 p a b g n v S' (by simp only at h1;omega) hb)
 refine en func136 ntmps136 ?_;refine gz ?_ o136;refine newV (fun i hi=>?_)
 repeat' first|refine gz ?_|refine moR (h1 _) ?_|refine moP (h1 _) ?_|refine moR (h3 _) ?_|refine moP (h3 _) ?_|refine gz ?_ o136|apply gy<;>intro hh
 repeat' first|refine gz ?_|refine moR (h2 _) ?_|refine moP (h2 _) ?_|refine moR (h3 _) ?_|refine moP (h3 _) ?_|refine gz ?_ o136|apply gy<;>intro hh
 exact finC (S':=V) ⟨rfl,rfl⟩ (hw:=by refine Bd ?_;simp[spC])
mutual
def FIx(A S P:Nat):Fact->Prop
 |.mk o g p c _ k=>(∀x∈p,InR x S)/\(o=2->InR c A)/\(o=2\/o=3\/o=4->InR g P)/\FIxs A S P k
def FIxs(A S P:Nat):List Fact->Prop
 |[]=>True
 |x::r=>FIx A S P x/\FIxs A S P r
end
theorem HJ{A S P:Nat}: ∀{l:List Fact},FIxs A S P l->∀x∈l,FIx A S P x
 |[],_,x,hx=>by simp at hx
 |y::r,h,x,hx=>by
  rw[FIxs]at h;rcases List.mem_cons.1 hx with rfl|hx
  ·exact h.1
  ·exact HJ h.2 x hx
mutual
def spF(a b P:List Str):Fact->FFact
 |.mk o g p c n k=>.mk o (if o=2\/o=3\/o=4 then ixS P g else []) (p.map (ixS b)) (if o=2 then ixS a c else []) n (spFs a b P k)
def spFs(a b P:List Str):List Fact->List FFact
 |[]=>[]
 |x::r=>spF a b P x::spFs a b P r
end
theorem Oh(a b P:List Str): ∀l,spFs a b P l=l.map (spF a b P)
 |[]=>by rw[spFs];rfl
 |x::r=>by rw[spFs,Oh a b P r];rfl
theorem spF_eq(a b P:List Str)(f:Fact):spF a b P f=.mk f.op (if f.op=2\/f.op=3\/f.op=4 then ixS P f.arg else []) (f.path.map (ixS b)) (if f.op=2 then ixS a f.cls else []) f.n (f.kids.map (spF a b P)):=by
 cases f;rw[spF,Oh];rfl
theorem CU{l:List Str}{n:Int}(h:InR n l.length): ∃k:Nat,n=k /\ ∃hk:k<l.length,ixS l n=l[k]:=by
 obtain⟨h0,h1⟩:=h;refine⟨n.toNat,by omega,by omega,?_⟩;unfold ixS;rw[List.getElem?_eq_getElem (by omega)];rfl
theorem SZ(p:BProg)(a b g P:List Str)(ha:a.length<=1073741824)(hb:b.length<=1073741824)(hP:P.length<=1073741824): ∀(n:Nat) (f:Fact) (o:Own) (V:Sig),f.wt<=n->n<=1073741824->FIx a.length b.length P.length f->
  DCall prog 143 [.cptr [sl (p.classes.map cBClass),dI p.slots,sl (cI p.gens),sl (p.methods.map Ak),sl (p.nodes.map Af),dI p.main,sl (cS a),sl (cS b),sl (cS g)] 0,.agg (Ba f),.slice (cS P) o] V (rS (.agg (AV (spF a b P f))) V):=by
 intro n
 induction n with
 |zero=>
  intro f o V hx;have:=f.wt_pos;omega
 | succ n ih =>
  intro f o V hx hn hI;obtain⟨w1,w2,hw3⟩:=f.wt_le;have hpl:f.path.length<=1073741824:=by omega
  obtain⟨i1,i2,i3,i4⟩:(∀x∈f.path,InR x b.length)/\(f.op=2->InR f.cls a.length)/\(f.op=2\/f.op=3\/f.op=4->InR f.arg P.length)/\FIxs a.length b.length P.length f.kids:=by cases f;rw[FIx]at hI;exact hI
  have hsp:=spF_eq a b P f;have hcs:D.cptr [.cptr [sl (p.classes.map cBClass),dI p.slots,sl (cI p.gens),sl (p.methods.map Ak),sl (p.nodes.map Af),dI p.main,sl (cS a),sl (cS b),sl (cS g)] 0] 0=cSp p a b g:=rfl
  have h137:=fun (V:Sig)=>IP f.path (ixS b) 216 [cSp p a b g] .no V hpl (fun x hx S' _=>by
   obtain⟨k,rfl,hk,_⟩:=CU (i1 x hx)
   exact Sv p a b g k S' hk hb)
  have h218:∀x∈f.kids, ∀S',DCall prog 218 ([]++[.agg (Ba x)]++[cSp p a b g,.cptr [.slice (cS P) o] 0]) S' fun r S''=>r=.ret (.agg (AV (spF a b P x)))/\S''=S':=fun x hx S'=>by
   have h143:=ih x o S' (by obtain⟨k,hk,rfl⟩:=List.getElem_of_mem hx;have:=hw3 k hk;omega) (by omega) (HJ i4 x hx);have hc2:cSp p a b g=.cptr [.cptr [sl (p.classes.map cBClass),dI p.slots,sl (cI p.gens),sl (p.methods.map Ak),sl (p.nodes.map Af),dI p.main,sl (cS a),sl (cS b),sl (cS g)] 0] 0:=rfl;rw[hc2];refine en func218 ntmps218 ?_;refine gz ?_;refine newV (fun i hi=>?_)
   repeat' first|refine gz ?_|refine AE (ih x o _ (by obtain⟨k,hk,rfl⟩:=List.getElem_of_mem hx;have:=hw3 k hk;omega) (by omega) (HJ i4 x hx)) ?_|refine callP (ih x o _ (by obtain⟨k,hk,rfl⟩:=List.getElem_of_mem hx;have:=hw3 k hk;omega) (by omega) (HJ i4 x hx)) ?_|refine gz ?_|apply gy<;>intro hh
   exact finC (S':=S') ⟨rfl,rfl⟩
  have h217:=fun (V:Sig)=>Su f.kids (spF a b P) 218 [cSp p a b g,.cptr [.slice (cS P) o] 0] .no V (by omega) (fun x hx S' _=>h218 x hx S')
  refine en func143 ntmps143 ?_;refine gz ?_ o143;refine newV (fun i6 hi6=>?_);refine gz ?_ (delO 1 o143);refine mixL (id:=1) [0,1,2,3,4,5,6,7,8,9] [9] ?_;refine gz ?_ o143;refine U3 (fun S' _=>(h137 S').mono fun x S'' hx=>⟨hx.1,hx.2 ▸ Sub.refl _⟩) ?_;refine gz ?_ o143;refine OA (fun i7 hi7=>?_);have n67:i6≠i7:=fun e=>by rw[<-e,w7]at hi7;cases hi7
  by_cases h2:f.op=2
  ·obtain⟨k,hk,hkl,hgk⟩:=CU (i3 (.inl h2));obtain⟨k',hk',hkl',hgk'⟩:=CU (i2 h2)
   repeat' first|refine gf (gi h2 (gi hk hk')) ?_|refine AE (h217 _) ?_|refine callP (h217 _) ?_|refine gf (gi h2 (gi hk hk')) ?_ o143|apply gy<;>intro hh
   exact finC (S':=V) ⟨rfl,rfl⟩ (hU:=(((Sub.refl _).set hi6).set (Aa hi7).2).set hi6) (hw:=by rw[hsp];refine Bd ?_;simp[C5,FFact.op,FFact.name,FFact.path,FFact.cls,FFact.n,FFact.kids,h2,hgk,hgk'])
  by_cases h3:f.op=3
  ·obtain⟨k,hk,hkl,hgk⟩:=CU (i3 (.inr (.inl h3)))
   repeat' first|refine gf (gi h3 hk) ?_|refine AE (h217 _) ?_|refine callP (h217 _) ?_|refine gf (gi h3 hk) ?_ o143|apply gy<;>intro hh
   exact finC (S':=V) ⟨rfl,rfl⟩ (hU:=(((Sub.refl _).set hi6).set (Aa hi7).2).set hi6) (hw:=by rw[hsp];refine Bd ?_;simp[C5,FFact.op,FFact.name,FFact.path,FFact.cls,FFact.n,FFact.kids,h3,hgk])
  by_cases h4:f.op=4
  ·obtain⟨k,hk,hkl,hgk⟩:=CU (i3 (.inr (.inr h4)))
   repeat' first|refine gf (gi h4 hk) ?_|refine AE (h217 _) ?_|refine callP (h217 _) ?_|refine gf (gi h4 hk) ?_ o143|apply gy<;>intro hh
   exact finC (S':=V) ⟨rfl,rfl⟩ (hU:=(((Sub.refl _).set hi6).set (Aa hi7).2).set hi6) (hw:=by rw[hsp];refine Bd ?_;simp[C5,FFact.op,FFact.name,FFact.path,FFact.cls,FFact.n,FFact.kids,h4,hgk])
  repeat' first|refine gf (gi h2 (gi h3 h4)) ?_|refine AE (h217 _) ?_|refine callP (h217 _) ?_|refine gf (gi h2 (gi h3 h4)) ?_ o143|apply gy<;>intro hh
  exact finC (S':=V) ⟨rfl,rfl⟩ (hU:=(((Sub.refl _).set hi6).set (Aa hi7).2).set hi6) (hw:=by rw[hsp];refine Bd ?_;simp[C5,FFact.op,FFact.name,FFact.path,FFact.cls,FFact.n,FFact.kids,h2,h3,h4])
end Go.DL
