/- Part of the proof that the last text ends. -/
import Derived.Test.YtlfimpogphmbdaaGreatM22
import Derived.Test.YtlfimpogphmbdaaGreatM23
import Derived.Test.YtlfimpogphmbdaaGreatM15
set_option linter.all false
namespace Go.DL
open Go.Proofs.Tryz
open Go Go.Proofs
set_option maxHeartbeats 8000000
def stepG (x:FExp) (s:GenT):Option GenT:=some (if x.op=5 then seeG x.text x.kids.length s else s)
mutual
def genE:FExp->GenT->GenT
 | .mk o _ t k,s=>Cp k (if o=5 then seeG t k.length s else s)
def Cp:List FExp->GenT->GenT
 | [],s=>s
 | x::r,s=>Cp r (genE x s)
end
mutual
theorem Ia : ∀ (e:FExp) (d:Int) (s:GenT),visE (fun _ x s=>stepG x s) e d s=some (genE e s)
 | .mk o n t k,d,s=>by rw [visE,genE];exact Mn k _ _
theorem Mn : ∀ (l:List FExp) (d:Int) (s:GenT),D3 (fun _ x s=>stepG x s) l d s=some (Cp l s)
 | [],d,s=>by rw [D3,Cp]
 | x::r,d,s=>by rw [D3,Ia x,Cp];exact Mn r _ _
end
theorem GT (name:Str) (n:Int) (s:GenT):(seeG name n s).1.length<=s.1.length+1:=by
 unfold seeG;split<;>simp
theorem Ms (x:FExp) (s s':GenT) (h:stepG x s=some s'):s'.1.length<=s.1.length+1:=by
 unfold stepG at h
 cases h
 split
 ·exact GT ..
 ·omega
theorem Pj (e:FExp) (s:GenT):(genE e s).1.length<=s.1.length+e.wt :=
 Lr (fun _ x s=>stepG x s) (fun s=>s.1.length) (fun _ x s s' h=>Ms x s s' h) e 1 s _ (Ia e 1 s)
def metG:List FMeth->GenT->GenT
 | [],s=>s
 | m::r,s=>metG r (seeG m.name m.params.length s)
def Bv (f:FProg):List FExp:=f.methods.map (·.body)++[f.main]
def Bu (f:FProg):GenT:=Cp (Bv f) (metG f.methods ([],true))
theorem JS (f:FProg):f.methods.length+wtL FExp.wt (Bv f)<=f.wt:=by
 have h : ∀ l:List FMeth,l.length+wtL FExp.wt (l.map (·.body))<=wtL FMeth.wt l:=by
  intro l
  induction l with
  | nil=>simp [wtL]
  | cons m l ih=>simp only [List.length_cons,List.map_cons,wtL,FMeth.wt];omega
 have:=h f.methods
 unfold Bv FProg.wt
 rw [Gk];simp only [wtL];omega
theorem finMC {n:Nat} {fn:Func} {R:DE->Sig->Prop} {γ:Fr} {V S':Sig} {ds:List D} {d':D} (js:List Nat) (hR:R (.ret d') S') (hZ:Sub S' (dels js V)) (hn:js.Nodup) (hd : ∀ j ∈ js,V j=some .defs) (h:resL tab (dels js V) γ fn.results.toList=some ds) (hw:WkD (Km ds) d') : ∃ s',Wk prog n ⟨γ,V,js.map .coll⟩ s'/\Rh prog n fn (Weak R) .ret s' :=
 ⟨_,Wk.refl _ _ _,js,rfl,hn,hd,Km ds,CY Ae h, .ret d',S',hw,hZ,hR⟩
theorem KW (f:FProg) (V:Sig) (hw:f.wt<=100000000):DCall prog 191 [.agg (B3 f)] V (rS (.tup [sl (cS ((Bu f).1.map (·.1))), .any, .bool (Bu f).2]) V):=by
 obtain ⟨p1,p2,p3,p4,p5⟩:=f.wt_le
 have hbw:=JS f
 refine Bc func191 rfl (by decide) ntmps191 (by simp) ?_
 try refine gz ?_ o191 [2,3,4]
 refine newV (fun il hil => ?_)
 try refine gz ?_ o191 [2,3,4]
 refine newV (fun im him => ?_)
 try refine gz ?_ o191 [2,3,4]
 refine newV (fun ib hib => ?_)
 try refine gz ?_ o191 [2,3,4]
 refine RO (fun mp hmp => ?_)
 obtain ⟨a1,b1⟩:=A4 him
 obtain ⟨a2,b2⟩:=A4 hib
 obtain ⟨a3,b3⟩:=A4 b2
 obtain ⟨a4,b4⟩:=A4 hmp
 obtain ⟨a5,b5⟩:=A4 b4
 obtain ⟨a6,b6⟩:=A4 b5
 have c1:=a1.symm
 have c2:=a2.symm
 have c3:=a3.symm
 have c4:=a4.symm
 have c5:=a5.symm
 have c6:=a6.symm
 try refine gz ?_ o191 [2,3,4]
 generalize hU6:Sig.set (Sig.set _ im _) ib _=S6
 have o1:S6 il=some (.cells [.nils]):=by rw [<- hU6];simp [w8 _ _ c1,w8 _ _ c3,w8 _ _ c6]
 have o2:S6 im=some (.cells [.map mp]):=by rw [<- hU6];simp [w8 _ _ c2]
 have o3:S6 ib=some (.cells [.bool true]):=by rw [<- hU6];simp
 have o4:S6 mp=some (.map (eSN [])):=by rw [<- hU6];simp [w8 _ _ a4,w8 _ _ a5]
 have hS6:Sub V S6:=fun j x hj=>by
  have e1:j ≠ il:=A1 hj hil
  have e2:j ≠ im:=A1 hj b1
  have e3:j ≠ ib:=A1 hj b3
  have e4:j ≠ mp:=A1 hj b6
  rw [<- hU6]
  simp only [w8 _ _ e1,w8 _ _ e2,w8 _ _ e3,w8 _ _ e4]
  exact hj
 clear hU6
 refine AO il 0 1 (ds:=[.nils]) o1 rfl (fun it hit => ?_)
 have t1:il ≠ it:=A1 o1 hit
 have t2:im ≠ it:=A1 o2 hit
 have t3:ib ≠ it:=A1 o3 hit
 have t4:mp ≠ it:=A1 o4 hit
 generalize hU7:Sig.set (Sig.set _ it _) il _=S7
 have hG7:GenS mp ib il it S7 ([],true):=by
  rw [<- hU7]
  exact ⟨by simp [w8 _ _ a6,w8 _ _ t4];exact o4,by simp [w8 _ _ a3,w8 _ _ t3];exact o3,by simp [cS],by simp [w8 _ _ (Ne.symm t1)]⟩
 have hm7:S7 im=some (.cells [.map mp]):=by rw [<- hU7];simp [w8 _ _ a1,w8 _ _ t2];exact o2
 have hz : ∀ j,S6 j=none->V j=none:=fun j hj=>by
  cases h:V j with
  | none=>rfl
  | some o=>rw [hS6 _ _ h] at hj;cases hj
 have hS7:Sub V S7:=fun j x hj=>by
  have e1:j ≠ il:=A1 hj hil
  have e2:j ≠ it:=fun e=>by rw [e,hz _ hit] at hj;cases hj
  rw [<- hU7,w8 _ _ e1,w8 _ _ e2]
  exact hS6 _ _ hj
 clear hU7
 have ht0 : ∀ j,tG mp ib il it j->V j=none:=fun j hj=>by
  rcases hj with rfl | rfl | rfl | rfl
  ·exact b6
  ·exact b3
  ·exact hil
  ·exact hz _ hit
 have him' : ¬ tG mp ib il it im:=fun h=>by
  rcases h with h | h | h | h
  ·exact c5 h
  ·exact c2 h
  ·exact a1 h
  ·exact t2 h
 refine Qd [1,2,3,4,5,10,11,16,17,35,36,37,38,39,40,41,42,43,44,45,46,47,48,49,50,51,52,53,54,55,56,57,58,59,60,61] (fun (k:Nat) (out:List FExp) (o:Own) (s:GenT) (S1:Sig)=>k<=f.methods.length/\out=(f.methods.take k).map (·.body)/\(o = .clip \/ ∃ i,o = .tag i/\S1 i=some (.tail 4 out.length)/\V i=none /\ ¬ tG mp ib il it i)/\s.1.length<=k/\metG f.methods ([],true)=metG (f.methods.drop k) s/\GenS mp ib il it S1 s/\S1 im=some (.cells [.map mp])/\Sub V S1) (fun k out o _ _=>[(18,dI k),(6, .slice (out.map Am) o)]) (fun _ _ _ _ S1=>S1) (fun k _ _ _ _=>f.methods.length-k) (0) ([]) (.clip) (_) (S7) (by exact ⟨by omega,rfl, .inl rfl,Nat.le_refl _,rfl,hG7,hm7,hS7⟩) (fun k out o s S1 hI => ?_)
 obtain ⟨hk,hout,ho,hsl,hR,hG,hm,hS⟩:=hI
 have hol:out.length=k:=by rw [hout];simp;omega
 by_cases hkl:k < f.methods.length
 ·rw [A3 hkl,metG] at hR
  have hwm:=p5 k hkl
  have hwb:f.methods[k].params.length<=1073741824/\f.methods[k].name.length<=1073741824:=by have:=hwm;unfold FMeth.wt at this;have:=AZ f.methods[k].params;omega
  have hbd:out++[(f.methods[k]).body]=(f.methods.take (k+1)).map (·.body):=by rw [hout,AP hkl,List.map_append];rfl
  try refine gz ?_ o191 [2,3,4]
  refine Ab (KP f.methods[k].name f.methods[k].params.length im mp ib il it s S1 (by omega) hm hG c3.symm) (fun x S2 hr => ?_) (fun x S2 hr=>by cases hr.1)
  obtain ⟨e1,hG2,hK⟩:=hr
  cases e1
  have hm2:S2 im=some (.cells [.map mp]):=hK _ _ hm him'
  have hS2:Sub V S2:=fun j x hj=>hK _ _ (hS _ _ hj) fun ht=>by rw [ht0 j ht] at hj;cases hj
  have hsl2:=GT f.methods[k].name f.methods[k].params.length s
  rcases ho with rfl | ⟨i,rfl,hi1,hi0,hit⟩
  ·try refine gz ?_ o191 [2,3,4]
   refine appC (fun j hj => ?_)
   try refine gz ?_ o191 [2,3,4]
   have hj0:V j=none:=hS2.none hj
   have hjt : ¬ tG mp ib il it j:=fun ht=>by
    rcases ht with rfl | rfl | rfl | rfl
    ·rw [hG2.om] at hj;cases hj
    ·rw [hG2.ob] at hj;cases hj
    ·rw [hG2.ol] at hj;cases hj
    ·rw [hG2.ot] at hj;cases hj
   have hG3:GenS mp ib il it (S2.set j (.tail 4 (out++[(f.methods[k]).body]).length)) (seeG f.methods[k].name f.methods[k].params.length s) :=
    ⟨by rw [w8 _ _ fun e=>hjt (.inl e.symm)];exact hG2.om,by rw [w8 _ _ fun e=>hjt (.inr (.inl e.symm))];exact hG2.ob,by rw [w8 _ _ fun e=>hjt (.inr (.inr (.inl e.symm)))];exact hG2.ol,by rw [w8 _ _ fun e=>hjt (.inr (.inr (.inr e.symm)))];exact hG2.ot⟩
   have hm3:(S2.set j (.tail 4 (out++[(f.methods[k]).body]).length)) im=some (.cells [.map mp]):=by rw [w8 _ _ (A1 hm2 hj)];exact hm2
   have hsub:Sub (S2.set j (.tail 4 (out++[(f.methods[k]).body]).length)) (S2.set j (.tail (tab 40).size ((out.map Am).length+[Am (f.methods[k]).body].length))):=by simp;exact Sub.refl _
   exact ⟨k+1,out++[(f.methods[k]).body], .tag j,_,S2.set j (.tail 4 (out++[(f.methods[k]).body]).length),⟨by omega,hbd, .inr ⟨j,rfl,w7 .., hj0,hjt⟩,by omega,hR,hG3,hm3,hS2.trans ((Sub.refl _).set hj)⟩,td1,wkR⟩
  ·have hi2:=hK _ _ hi1 hit
   try refine gf hi2 ?_ o191 [2,3,4]
   have hG3:GenS mp ib il it (S2.set i (.tail 4 (out++[(f.methods[k]).body]).length)) (seeG f.methods[k].name f.methods[k].params.length s) :=
    ⟨by rw [w8 _ _ fun e=>hit (.inl e.symm)];exact hG2.om,by rw [w8 _ _ fun e=>hit (.inr (.inl e.symm))];exact hG2.ob,by rw [w8 _ _ fun e=>hit (.inr (.inr (.inl e.symm)))];exact hG2.ol,by rw [w8 _ _ fun e=>hit (.inr (.inr (.inr e.symm)))];exact hG2.ot⟩
   have hm3:(S2.set i (.tail 4 (out++[(f.methods[k]).body]).length)) im=some (.cells [.map mp]):=by rw [w8 _ _ (Ac hm2 hi2 (by simp))];exact hm2
   have hsub:Sub (S2.set i (.tail 4 (out++[(f.methods[k]).body]).length)) (S2.set i (.tail 4 (out.length+1))):=by simp;exact Sub.refl _
   exact ⟨k+1,out++[(f.methods[k]).body], .tag i,_,S2.set i (.tail 4 (out++[(f.methods[k]).body]).length),⟨by omega,hbd, .inr ⟨i,rfl,w7 .., hi0,hit⟩,by omega,hR,hG3,hm3,hS2.set hi0⟩,td1,wkR⟩
 ·have hke:k=f.methods.length:=by omega
  subst hke
  rw [A2 hkl,metG] at hR
  rw [List.take_length] at hout
  have hgp:Bu f=Cp (out++[f.main]) s:=by unfold Bu Bv;rw [hR,hout]
  have hbe:out++[f.main]=Bv f:=by unfold Bv;rw [hout]
  have hle:(Bv f).length<=f.wt:=by rw [<- hbe,List.length_append,hol];simp;omega
  rw [hbe] at hgp
  clear hR
  obtain ⟨Sc,hGc,hmc,hSc,hcc⟩ : ∃ Sc,GenS mp ib il it Sc s/\Sc im=some (.cells [.map mp])/\Sub V Sc/\(o = .clip/\Sub Sc S1 \/ ∃ i,o = .tag i/\S1 i=some (.tail 4 out.length) /\ ∀ x,Sub Sc (S1.set i x)):=by
   rcases ho with rfl | ⟨i,rfl,hi1,hi0,hit⟩
   ·exact ⟨S1,hG,hm,hS, .inl ⟨rfl,Sub.refl _⟩⟩
   ·have e : ∀ j,j ≠ i->(S1.del i) j=S1 j:=fun j hj=>by simp only [Sig.del,hj,if_false]
    refine ⟨S1.del i,⟨?_, ?_, ?_, ?_⟩, ?_,fun j x hj => ?_, .inr ⟨i,rfl,hi1,fun x j y hj => ?_⟩⟩
    ·rw [e _ fun e=>hit (.inl e.symm)];exact hG.om
    ·rw [e _ fun e=>hit (.inr (.inl e.symm))];exact hG.ob
    ·rw [e _ fun e=>hit (.inr (.inr (.inl e.symm)))];exact hG.ol
    ·rw [e _ fun e=>hit (.inr (.inr (.inr e.symm)))];exact hG.ot
    ·rw [e _ (Ac hm hi1 (by simp))];exact hm
    ·rw [e _ fun e=>by rw [e,hi0] at hj;cases hj];exact hS _ _ hj
    ·by_cases h:j=i
     ·simp only [Sig.del,h,if_true] at hj;cases hj
     ·rw [e _ h] at hj;rw [w8 _ _ h];exact hj
  clear ho
  repeat ((fail_if_success (first | (refine dwp_cut1 (b := .block 2 _) [(39,sl ((Bv f).map Am)),(40,dI (Bv f).length),(41,dI 0)] Sc ?_ (fun _ hK => ?_)) | fail));(refine goX1 trivial ?_))
  refine dwp_cut1 (b := .block 2 _) [(39,sl ((Bv f).map Am)),(40,dI (Bv f).length),(41,dI 0)] Sc ?_ (fun _ hK => ?_)
  ·have hpos:0<=(Bv f).length:=Nat.zero_le _
   generalize hes:Bv f=es at *
   try refine gz ?_ o191 [2,3,4]
   refine loopD4 [2,3,4,5,39,40,47,59,60,61] (fun (q:Nat) (s1:GenT) (S2:Sig) (js:List Nat)=>q<=es.length/\s1.1.length+wtL FExp.wt (es.drop q)<=100000000/\Cp es s=Cp (es.drop q) s1/\GenS mp ib il it S2 s1/\S2 im=some (.cells [.map mp])/\Sub V S2/\js.Nodup/\(∀ j ∈ js,V j=none/\S2 j=some .defs)) (fun q _ _ _=>[(41,dI q)]) (fun _ _ S2 _=>S2) (fun _ _ _ js=>js.map .coll) (fun q _ _ _=>es.length-q) (0) (s) (Sc) ([]) (by exact ⟨by omega,by rw [List.drop_zero];omega,rfl,hGc,hmc,hSc,by simp,by simp⟩) (fun q s1 S2 js hI => ?_)
   obtain ⟨hq,hB,hR,hG2,hm2,hS2,hnd,hjs⟩:=hI
   by_cases hql:q < es.length
   ·rw [A3 hql] at hB hR
    rw [wtL] at hB
    rw [Cp] at hR
    have hwe:es[q].wt<=100000000:=by omega
    have hMo:MonoG (fun (V:Sig) (s:GenT)=>GenS mp ib il it V s/\V im=some (.cells [.map mp])):=fun V S' s ⟨⟨g1,g2,g3,g4⟩,g5⟩ hj=>⟨⟨hj _ _ g1 rfl,hj _ _ g2 rfl,hj _ _ g3 rfl,hj _ _ g4 rfl⟩,hj _ _ g5 rfl⟩
    have htn : ∀ j,tG mp ib il it j->S2 j ≠ none/\S2 j ≠ some .defs:=fun j hj=>by
     rcases hj with rfl | rfl | rfl | rfl
     ·rw [hG2.om];simp
     ·rw [hG2.ob];simp
     ·rw [hG2.ol];simp
     ·rw [hG2.ot];simp
    have hlq:=Pj es[q] s1
    repeat' first | refine gz ?_ [] [2,3,4] | refine AE (JC es[q] S2) ?_ | refine callP (JC es[q] S2) ?_ | refine gz ?_ o191 [2,3,4] | apply gy<;>intro hh
    refine IU unf2 (fun (V:Sig) (s:GenT)=>GenS mp ib il it V s/\V im=some (.cells [.map mp])) (tG mp ib il it) (tG mp ib il it) (some (genE es[q] s1)) s1 (hMo.indep _) hMo.fresh ⟨hG2,hm2⟩ (fun j hj=>(htn j hj).1) (fun j hj=>(htn j hj).1) rfl (fun l did LO SL hLO hd hl htl hSL hGd hnt => ?_) (fun did s' S' ho hdn hdd hG' hk => ?_) (fun did S' ho hdn hdd hk=>by cases ho)
    ·rw [<- Ia es[q] 1 s1]
     refine (Qs l _ (tG mp ib il it) (fun j=>tG mp ib il it j\/j=l) stepG es[q] SL s1 (fun s=>s.1.length) 100000000 Ms (by omega) (by omega) (fun x S3 s hx hpb hG3 => ?_) (hGd.indep (hMo.indep _)) (fun V s a o h ha=>h.new hMo.fresh ha) hGd (fun j h => .inl h) (fun j hj h => ?_)).mono (fun x S' hx=>by rw [Ia] at hx ⊢; exact hx)
     ·have hGb:=hG3.busy hLO (hMo.indep _) hl
      obtain ⟨hGb,hmb⟩:=hGb
      refine Ea hLO hG3.1 ?_
      try refine gz ?_ o191 [2,3,4]
      refine ⟨hG3.1, ?_⟩
      by_cases h5:x.op=5
      ·have hst:stepG x s=some (seeG x.text x.kids.length s):=by unfold stepG;rw [if_pos h5]
       have hxk:x.kids.length<=1073741824:=by have:=x.wt_le;omega
       try refine gf h5 ?_ o191 [2,3,4]
       refine Ab (KP x.text x.kids.length im mp ib il it s _ (by omega) hmb hGb c3.symm) (fun x S4 hr => ?_) (fun x S4 hr=>by cases hr.1)
       obtain ⟨e1,hG4,hK4⟩:=hr
       cases e1
       try refine gz ?_ o191 [2,3,4]
       exact HJ hst hLO (hMo.indep _) hG3 htl hl ⟨hG4,hK4 _ _ hmb him'⟩ hK4
      ·have hst:stepG x s=some s:=by unfold stepG;rw [if_neg h5]
       try refine gf h5 ?_ o191 [2,3,4]
       exact HJ hst hLO (hMo.indep _) hG3 htl hl ⟨hGb,hmb⟩ (Keep.refl _ _)
     ·rcases h with h | h
      ·exact hnt j hj h
      ·rw [h,hGd.1] at hj;cases hj
    ·cases ho
     try refine gz ?_ o191 [2,3,4]
     have hj1:Sub V S':=fun j x hj=>(hk j x (hS2 _ _ hj) fun ht=>by rw [ht0 j ht] at hj;cases hj).1
     have hj2:(did::js).Nodup:=List.nodup_cons.2 ⟨fun hm=>(hk did _ (hjs did hm).2 fun ht=>(htn did ht).2 (hjs did hm).2).2 rfl,hnd⟩
     have hj3 : ∀ j ∈ did::js,V j=none/\S' j=some .defs:=fun j hj=>by
      rcases List.mem_cons.1 hj with rfl | hj
      ·exact ⟨hS2.none hdn,hdd⟩
      ·exact ⟨(hjs j hj).1,(hk j _ (hjs j hj).2 fun ht=>(htn j ht).2 (hjs j hj).2).1⟩
     exact ⟨q+1,genE es[q] s1,S',did::js,⟨by omega,by omega,hR,hG'.1,hG'.2,hj1,hj2,hj3⟩,td1,wkR⟩
   ·rw [A2 hql,Cp] at hR
    obtain ⟨z1,z2,z3,z4⟩:=hG2
    have y1:S2.set il (.cells [.slice (cS (s1.1.map (·.1))) (.tag it)])=S2:=Sig.set_self _ z3
    have y2:S2.set im (.cells [.map mp])=S2:=Sig.set_self _ hm2
    have y3:S2.set ib (.cells [.bool s1.2])=S2:=Sig.set_self _ z2
    have s3:Sub S2 (S2.set il (.cells [.slice (cS (s1.1.map (·.1))) (.tag it)])):=by rw [y1];exact Sub.refl _
    have s4:Sub S2 ((S2.set il (.cells [.slice (cS (s1.1.map (·.1))) (.tag it)])).set im (.cells [.map mp])):=by rw [y1,y2];exact Sub.refl _
    have s5:Sub S2 (((S2.set il (.cells [.slice (cS (s1.1.map (·.1))) (.tag it)])).set im (.cells [.map mp])).set ib (.cells [.bool s1.2])):=by rw [y1,y2,y3];exact Sub.refl _
    try refine gf (gi z1 (gi z2 (gi z3 hm2))) ?_ o191 [2,3,4]
    rw [y1,y2,y3]
    have u1 : ∀ j o,S2 j=some o->o ≠ .defs->(dels js S2) j=some o:=fun j o hj ho=>by
     rw [JM js S2 j fun hm=>ho (by have:=(hjs j hm).2;rw [hj] at this;cases this;rfl)];exact hj
    have v1:=u1 _ _ z3 (by simp)
    have v2:=u1 _ _ hm2 (by simp)
    have v3:=u1 _ _ z2 (by simp)
    rw [hR] at hgp
    subst hgp
    refine finMC js (S':=V) (ds:=[.slice (cS ((Bu f).1.map (·.1))) (.tag it), .map mp, .bool (Bu f).2]) ⟨rfl,rfl⟩ (UW hS2 fun j hj=>(hjs j hj).1) hnd (fun j hj=>(hjs j hj).2) (by simp [resL,v1,v2,v3]) ?_
    exact Gl ⟨Az _ _,E1 _,A9 _,trivial⟩
  ·rcases hcc with ⟨rfl,hcc⟩ | ⟨i,rfl,hi1,hcc⟩
   ·try refine gz ?_ o191 [2,3,4]
    refine appC (fun j hj => ?_)
    try refine gz ?_ o191 [2,3,4]
    exact dwp_wk (Aj (by first | (simp [<- hbe];done) | (simp_all [<- hbe];done)) (hcc.trans ((Sub.refl _).set hj))) hK
   ·try refine gf hi1 ?_ o191 [2,3,4]
    exact dwp_wk (Aj (by first | (simp [<- hbe];done) | (simp_all [<- hbe];done)) (hcc _)) hK
def FP (m:FMeth):Bool:=(decide (1<=m.kind) && decide (m.kind<=4)) && (AM m.name && (decide (1<=m.params.length) && decide (m.params.length<=3)))
def Jc (names slots:List Str) (m:FMeth) (n:Int):Option Int :=
 if FP m && sloE [] m.params then match Co names slots m.params m.fact n with
  | none=>none
  | some k=>BM names slots m.params (decide (m.kind=1\/m.kind=4)) m.body k
 else none
def Dh (names slots:List Str):List FMeth->Int->Option Int
 | [],n=>some n
 | m::r,n=>match Jc names slots m n with
  | none=>none
  | some k=>Dh names slots r k
def Bw (f:FProg):Option Int :=
 if clsB f && decide (f.methods.length<=16) then match BM (f.classes.map (·.name)) (f.classes.flatMap (·.slots)) [] false f.main f.classes.length with
  | none=>none
  | some n=>match Dh (f.classes.map (·.name)) (f.classes.flatMap (·.slots)) f.methods n with
   | none=>none
   | some k=>if (Bu f).2 && decide ((Bu f).1.length<=8) then some k else none
 else none
def CntR (f:FProg) (ip ic is:Nat) (V:Sig) (x:DE) (S':Sig):Prop :=
 x=(match Bw f with | some _ => .ret (.tup []) | none => .panic unf2)/\(∃ d n,S' ip=some (pObj f ic is d n))/\Keep (fun j=>j=ip\/j=ic\/j=is) V S'
theorem H8 {names slots args:List Str} {lits:Bool} {e:FExp} {n m:Int} (h:BM names slots args lits e n=some m) (hn:0<=n):0<=m/\m<=120:=by
 unfold BM at h
 split at h
 ·cases h
 ·rename_i k hk
  split at h
  ·rename_i h2
   have:=Pb (by omega) hk
   cases h;omega
  ·cases h
theorem Qg {names slots args:List Str} {e:FFact} {n m:Int} (h:Co names slots args e n=some m) (hn:0<=n):0<=m/\m<=120:=by
 unfold Co at h
 split at h
 ·cases h
 ·rename_i k hk
  split at h
  ·rename_i h2
   have:=MP (by omega) hk
   cases h;omega
  ·cases h
theorem N6 : ∀ (l:List FExp) (s:GenT),(Cp l s).1.length<=s.1.length+wtL FExp.wt l
 | [],s=>by rw [Cp];omega
 | x::r,s=>by
  have h1:=Pj x s
  have h2:=N6 r (genE x s)
  rw [Cp,wtL];omega
theorem Pa : ∀ (l:List FMeth) (s:GenT),(metG l s).1.length<=s.1.length+l.length
 | [],s=>by rw [metG];omega
 | m::r,s=>by
  have h1:=GT m.name m.params.length s
  have h2:=Pa r (seeG m.name m.params.length s)
  rw [metG,List.length_cons];omega
theorem Fs (f:FProg):(Bu f).1.length<=f.wt:=by
 have h1:=JS f
 have h2:=N6 (Bv f) (metG f.methods ([],true))
 have h3:=Pa f.methods ([],true)
 unfold Bu
 simp only [List.length_nil] at h3
 omega
theorem QN (f:FProg) (ip ic is:Nat) (V:Sig) (hw:f.wt<=100000000) (h0:PS f ip ic is V V [] [] [] .nils 0) (hcs:ic ≠ is) :
  DCall prog 184 [.cptr [.ptr ip 0] 0, .cptr (B3 f) 0] V (CntR f ip ic is V):=by
 obtain ⟨p1,p2,p3,p4,p5⟩:=f.wt_le
 have hip:=h0.prg
 have hpan:Bw f=none -> ∀ S',(∃ d n,S' ip=some (pObj f ic is d n))->Keep (fun j=>j=ip\/j=ic\/j=is) V S'->CntR f ip ic is V (.panic unf2) S':=fun h S' h1 h2=>by
  unfold CntR;rw [h];exact ⟨rfl,h1,h2⟩
 have hcl:f.classes.length<=100000000:=by omega
 refine en func184 ntmps184 ?_
 cases hC:clsB f with
 | false =>
  have hN:Bw f=none:=by unfold Bw;rw [hC];rfl
  try refine gz ?_ o184
  refine Ab (KY f ip ic is V (by omega) h0 hcs) (fun x S' hr => ?_) (fun x S' hr => ?_)
  ·unfold ClsR at hr;rw [hC,if_neg (by simp)] at hr;cases hr.1
  ·unfold ClsR at hr;rw [hC,if_neg (by simp)] at hr
   obtain ⟨e1,names,slots,hs,d,n,hP⟩:=hr
   cases e1
   exact finP (S':=S') (hpan hN S' ⟨d,n,hP.prg⟩ hP.keep)
 | true =>
  try refine gz ?_ o184
  refine Ab (KY f ip ic is V (by omega) h0 hcs) (fun x S1 hr => ?_) (fun x S1 hr => ?_)
  ·unfold ClsR at hr;rw [hC,if_pos rfl] at hr
   obtain ⟨e1,hs,d,hP⟩:=hr
   cases e1
   obtain ⟨q1,q2,q3,_,q5⟩:=hP
   have hpi:ip ≠ ic:=Ac q1 q2 (by simp)
   have hps:ip ≠ is:=Ac q1 q3 (by simp)
   have hkp : ∀ S',Keep (· = ip) S1 S'->Keep (fun j=>j=ip\/j=ic\/j=is) V S':=fun S' h j o h1 h2=>h j o (q5 j o h1 h2) fun e=>h2 (.inl e)
   have hset : ∀ (x:DObj),Keep (· = ip) S1 (S1.set ip x):=fun x j o h1 h2=>by rw [w8 _ _ h2];exact h1
   have hSh:Bw f=if f.methods.length<=16 then match BM (f.classes.map (·.name)) (f.classes.flatMap (·.slots)) [] false f.main f.classes.length with
     | none=>none
     | some n=>match Dh (f.classes.map (·.name)) (f.classes.flatMap (·.slots)) f.methods n with
      | none=>none
      | some k=>if (Bu f).2 && decide ((Bu f).1.length<=8) then some k else none
    else none:=by unfold Bw;rw [hC];simp
   have hcn:f.classes.length<=10:=by unfold clsB at hC;simp only [Bool.and_eq_true,decide_eq_true_eq] at hC;exact hC.1
   generalize hnm:f.classes.map (·.name)=names at *
   generalize hsl:f.classes.flatMap (·.slots)=slots at *
   by_cases h16:f.methods.length<=16
   ·rw [if_pos h16] at hSh
    have h187:=KX f ip ic is d f.classes.length names slots f.main [] false S1 (by omega) (by simp) ⟨by omega,by omega⟩ q1 q2 q3
    repeat' first | refine gf q1 ?_ o184 | apply gy<;>intro hh
    cases hk:BM names slots [] false f.main f.classes.length with
    | none =>
     rw [hk] at hSh h187
     refine callWP h187 (fun x S2 hr=>by cases hr.1) (fun x S2 hr => ?_)
     obtain ⟨e1,m,rfl⟩:=hr
     cases e1
     exact finP (S':=_) (hpan hSh _ ⟨d,m,w7 ..⟩ (hkp _ (hset _)))
    | some n1 =>
     rw [hk] at hSh h187
     have hn1:=H8 hk (by omega)
     refine callWP h187 (fun x S2 hr => ?_) (fun x S2 hr=>by cases hr.1)
     obtain ⟨e1,rfl⟩:=hr
     cases e1
     have r1:(S1.set ip (pObj f ic is d n1)) ip=some (pObj f ic is d n1):=w7 ..
     try refine gf r1 ?_ o184
     refine De [0,1,7,8,9,31,32,96,97,98,99,100,101,102,103,104,105,106,107,108] (fun (k:Nat) (m:Int) (S2:Sig)=>k<=f.methods.length/\0<=m/\m<=120/\Dh names slots f.methods n1=Dh names slots (f.methods.drop k) m/\S2 ip=some (pObj f ic is d m)/\Keep (· = ip) S1 S2) (fun k _ _=>[(33,dI k)]) (fun _ _ S2=>S2) (fun k _ _=>f.methods.length-k) (0) (n1) (_) (by exact ⟨by omega,hn1.1,hn1.2,rfl,r1,hset _⟩) (fun k m S2 hI => ?_)
     obtain ⟨hk,hm0,hm1,hR,o1,hK⟩:=hI
     have o2:S2 ic=some (.map (eSN (BI names 0))):=hK _ _ q2 (Ne.symm hpi)
     have o3:S2 is=some (.map (eSS slots)):=hK _ _ q3 (Ne.symm hps)
     by_cases hkl:k < f.methods.length
     ·rw [A3 hkl,Dh] at hR
      have hwm:=p5 k hkl
      have hwb:f.methods[k].body.wt<=100000000/\f.methods[k].fact.wt<=100000000/\f.methods[k].params.length<=100000000/\wtS f.methods[k].params<=100000000/\f.methods[k].name.length<=100000000:=by have:=hwm;unfold FMeth.wt at this;have:=AZ f.methods[k].params;omega
      generalize hmm:f.methods[k]=mt at *
      obtain ⟨v1,v2,v3,v4,v5⟩:=hwb
      cases hhd:FP mt with
      | false =>
       have hN:Bw f=none:=by rw [hSh];simp only [hR,Jc,hhd,Bool.false_and,Bool.false_eq_true,if_false]
       unfold FP at hhd
       repeat' first | (exact finP (S':=S2) (hpan hN _ ⟨d,m,o1⟩ (hkp _ hK))) | refine gf hmm ?_ o184 | apply gy<;>intro hh
       exfalso
       rw [Bool.eq_false_iff] at hhd
       apply hhd
       simp only [Bool.and_eq_true,decide_eq_true_eq]
       exact ⟨⟨by omega,by omega⟩,by assumption,by omega,by omega⟩
      | true =>
       have hhd':=hhd
       unfold FP at hhd
       simp only [Bool.and_eq_true,decide_eq_true_eq] at hhd
       obtain ⟨⟨g1,g2⟩,g3,g4,g5⟩:=hhd
       try refine gf (gi hmm g3) ?_ o184
       refine LE (fun im him => ?_)
       have ne1:ip ≠ im:=A1 o1 him
       have ne2:ic ≠ im:=A1 o2 him
       have ne3:is ≠ im:=A1 o3 him
       have hkm : ∀ S',(∀ j x,j ≠ im->S2 j=some x->S' j=some x)->Keep (· = ip) S1 S':=fun S' h j x h1 h2=>by
        have h3:=hK j x h1 h2
        exact h j x (A1 h3 him) h3
       try refine gz ?_ o184
       refine Bz [0,1,3,4,7,8,9,31,32,33,34,35,36,37,38,39,40,41,42,43,44,45,46,47,48,49,50,51,52,53,54,55,56,57,58,59,60,61,62,63,64,65,66,75,76,77,78,79,80,81,82,83,84,85,86,87,88,89,90,91,92,93,94,95,96,97,98,99,100,101,102,103,104,105,106,107,108] (fun (j:Nat)=>j<=mt.params.length/\sloE [] mt.params=sloE (mt.params.take j) (mt.params.drop j)) (fun j=>[(67,dI j)]) (fun j=>S2.set im (.map (eSS (mt.params.take j)))) (fun j=>mt.params.length-j) (0) (by simp) (fun j hI => ?_)
       obtain ⟨hj,hE⟩:=hI
       by_cases hjl:j < mt.params.length
       ·rw [A3 hjl,sloE] at hE
        have hpl:(mt.params[j]).length<=1073741824:=by have:=Iv mt.params j hjl;omega
        try refine gz ?_ o184
        refine Ab (Et mt.params[j] im (mt.params.take j) _ (w7 ..) hpl) (fun x S3 hr => ?_) (fun x S3 hr => ?_)
        ·rcases hr with ⟨hc,e1,rfl⟩ | ⟨_,e1,_⟩
         ·cases e1
          rw [hc,Bool.true_and, <- AP hjl] at hE
          try refine gz ?_ o184
          exact ⟨j+1,⟨by omega,hE⟩,td1,wkR⟩
         ·cases e1
        ·rcases hr with ⟨_,e1,_⟩ | ⟨hc,e1,rfl⟩
         ·cases e1
         ·cases e1
          rw [hc,Bool.false_and] at hE
          have hN:Bw f=none:=by rw [hSh];simp only [hR,Jc,hE,Bool.and_false,Bool.false_eq_true,if_false]
          exact finP (S':=S2.set im (.map (eSS (mt.params.take j)))) (hpan hN _ ⟨d,m,by rw [w8 _ _ ne1];exact o1⟩ (hkp _ (hkm _ fun j x hj hx=>by rw [w8 _ _ hj];exact hx)))
       ·have hje:j=mt.params.length:=by omega
        subst hje
        rw [A2 hjl,sloE] at hE
        generalize hU3:S2.set im _=S3
        have hk3 : ∀ j x,j ≠ im->S2 j=some x->S3 j=some x:=fun j x hj hx=>by rw [<- hU3,w8 _ _ hj];exact hx
        have q1:=hk3 _ _ ne1 o1
        have q2:=hk3 _ _ ne2 o2
        have q3:=hk3 _ _ ne3 o3
        have hK3:=hkm _ hk3
        clear hk3 hU3
        have hset3 : ∀ (x:DObj),Keep (· = ip) S1 (S3.set ip x):=fun x j o h1 h2=>by rw [w8 _ _ h2];exact hK3 j o h1 h2
        have h190:=QM f ip ic is d m names slots mt.fact mt.params S3 (by omega) (by omega) ⟨hm0,by omega⟩ q1 q2 q3
        repeat' first | refine gz ?_ o184 | apply gy<;>intro hh
        cases hkf:Co names slots mt.params mt.fact m with
        | none =>
         rw [hkf] at h190
         have hN:Bw f=none:=by rw [hSh];simp only [hR,Jc,hhd',hE,hkf,Bool.and_self,if_true]
         refine Ab h190 (fun x S4 hr=>by cases hr.1) (fun x S4 hr => ?_)
         obtain ⟨e1,m',rfl⟩:=hr
         cases e1
         exact finP (S':=_) (hpan hN _ ⟨d,m',w7 ..⟩ (hkp _ (hset3 _)))
        | some n2 =>
         rw [hkf] at h190
         have hn2:=Qg hkf hm0
         refine Ab h190 (fun x S4 hr => ?_) (fun x S4 hr=>by cases hr.1)
         obtain ⟨e1,rfl⟩:=hr
         cases e1
         have r1:(S3.set ip (pObj f ic is d n2)) ip=some (pObj f ic is d n2):=w7 ..
         have r2:(S3.set ip (pObj f ic is d n2)) ic=some (.map (eSN (BI names 0))):=by rw [w8 _ _ (Ne.symm hpi)];exact q2
         have r3:(S3.set ip (pObj f ic is d n2)) is=some (.map (eSS slots)):=by rw [w8 _ _ (Ne.symm hps)];exact q3
         have h187:=KX f ip ic is d n2 names slots mt.body mt.params (decide (mt.kind=1\/mt.kind=4)) _ (by omega) (by omega) ⟨hn2.1,by omega⟩ r1 r2 r3
         have hfinN : ∀ x S',BM names slots mt.params (decide (mt.kind=1\/mt.kind=4)) mt.body n2=none->KnR f ip ic is d none (S3.set ip (pObj f ic is d n2)) (.panic x) S'->CntR f ip ic is V (.panic x) S':=fun x S' hkb hr=>by
          have hN:Bw f=none:=by rw [hSh];simp only [hR,Jc,hhd',hE,hkf,hkb,Bool.and_self,if_true]
          obtain ⟨e1,m',rfl⟩:=hr
          cases e1
          rw [w9]
          exact hpan hN _ ⟨d,m',w7 ..⟩ (hkp _ (hset3 _))
         by_cases k1:mt.kind=1
         ·try refine gf k1 ?_ o184
          have hb:decide (mt.kind=1\/mt.kind=4)=true:=decide_eq_true (.inl k1)
          rw [hb] at h187
          refine Ab h187 (fun x S4 hr => ?_) (fun x S4 hr => ?_)
          ·cases hkb:BM names slots mt.params true mt.body n2 with
           | none=>rw [hkb] at hr;cases hr.1
           | some n3 =>
            rw [hkb] at hr
            obtain ⟨e1,rfl⟩:=hr
            cases e1
            have hn3:=H8 hkb hn2.1
            have hR2:Dh names slots f.methods n1=Dh names slots (f.methods.drop (k+1)) n3:=by rw [hR];simp only [Jc,hhd',hE,hkf,hb,hkb,Bool.and_self,if_true]
            try refine gz ?_ o184
            exact ⟨k+1,n3,S3.set ip (pObj f ic is d n3),⟨by omega,hn3.1,hn3.2,hR2,w7 .., hset3 _⟩,td1,wkR⟩
          ·cases hkb:BM names slots mt.params true mt.body n2 with
           | none=>rw [hkb] at hr;exact finP (S':=S4) (hfinN _ _ (by rw [hb];exact hkb) hr)
           | some n3=>rw [hkb] at hr;cases hr.1
         ·by_cases k4:mt.kind=4
          ·try refine gf k4 ?_ o184
           have hb:decide (mt.kind=1\/mt.kind=4)=true:=decide_eq_true (.inr k4)
           rw [hb] at h187
           refine Ab h187 (fun x S4 hr => ?_) (fun x S4 hr => ?_)
           ·cases hkb:BM names slots mt.params true mt.body n2 with
            | none=>rw [hkb] at hr;cases hr.1
            | some n3 =>
             rw [hkb] at hr
             obtain ⟨e1,rfl⟩:=hr
             cases e1
             have hn3:=H8 hkb hn2.1
             have hR2:Dh names slots f.methods n1=Dh names slots (f.methods.drop (k+1)) n3:=by rw [hR];simp only [Jc,hhd',hE,hkf,hb,hkb,Bool.and_self,if_true]
             try refine gz ?_ o184
             exact ⟨k+1,n3,S3.set ip (pObj f ic is d n3),⟨by omega,hn3.1,hn3.2,hR2,w7 .., hset3 _⟩,td1,wkR⟩
           ·cases hkb:BM names slots mt.params true mt.body n2 with
            | none=>rw [hkb] at hr;exact finP (S':=S4) (hfinN _ _ (by rw [hb];exact hkb) hr)
            | some n3=>rw [hkb] at hr;cases hr.1
          ·try refine gz ?_ o184
           have hb:decide (mt.kind=1\/mt.kind=4)=false:=decide_eq_false fun h=>h.elim k1 k4
           rw [hb] at h187
           refine Ab h187 (fun x S4 hr => ?_) (fun x S4 hr => ?_)
           ·cases hkb:BM names slots mt.params false mt.body n2 with
            | none=>rw [hkb] at hr;cases hr.1
            | some n3 =>
             rw [hkb] at hr
             obtain ⟨e1,rfl⟩:=hr
             cases e1
             have hn3:=H8 hkb hn2.1
             have hR2:Dh names slots f.methods n1=Dh names slots (f.methods.drop (k+1)) n3:=by rw [hR];simp only [Jc,hhd',hE,hkf,hb,hkb,Bool.and_self,if_true]
             try refine gz ?_ o184
             exact ⟨k+1,n3,S3.set ip (pObj f ic is d n3),⟨by omega,hn3.1,hn3.2,hR2,w7 .., hset3 _⟩,td1,wkR⟩
           ·cases hkb:BM names slots mt.params false mt.body n2 with
            | none=>rw [hkb] at hr;exact finP (S':=S4) (hfinN _ _ (by rw [hb];exact hkb) hr)
            | some n3=>rw [hkb] at hr;cases hr.1
     ·rw [A2 hkl,Dh] at hR
      simp only at hSh
      rw [hR] at hSh
      simp only at hSh
      have h191:=KW f S2 hw
      try refine gz ?_ o184
      refine Ab h191 (fun x S3 hr => ?_) (fun x S3 hr=>by cases hr.1)
      obtain ⟨e1,rfl⟩:=hr
      cases e1
      have hgl:(Bu f).1.length<=100000000:=by have:=Fs f;omega
      cases hg2:(Bu f).2 with
      | false =>
       have hN:Bw f=none:=by rw [hSh,hg2];rfl
       repeat' first | (exact finP (S':=S3) (hpan hN _ ⟨d,m,o1⟩ (hkp _ hK))) | refine gf hg2 ?_ o184 | apply gy<;>intro hh
      | true =>
       rw [hg2,Bool.true_and] at hSh
       by_cases hg8:(Bu f).1.length<=8
       ·rw [if_pos (decide_eq_true hg8)] at hSh
        try refine gf hg2 ?_ o184
        refine DM (S':=S3) ⟨by rw [hSh],⟨d,m,o1⟩,hkp _ hK⟩
       ·have hN:Bw f=none:=by rw [hSh,if_neg (by simpa using hg8)]
        repeat' first | (exact finP (S':=S3) (hpan hN _ ⟨d,m,o1⟩ (hkp _ hK))) | refine gf hg2 ?_ o184 | apply gy<;>intro hh
   ·rw [if_neg h16] at hSh
    repeat' first | (exact finP (S':=S1) (hpan hSh S1 ⟨d,_,q1⟩ q5)) | refine gf q1 ?_ o184 | apply gy<;>intro hh
  ·unfold ClsR at hr;rw [hC,if_pos rfl] at hr;cases hr.1
theorem SN (f:FProg) (V:Sig) (hw:f.wt<=100000000):DCall prog 98 [.agg (B3 f)] V fun x S' => ∃ n,x = .ret (.tup [dI n, .bool (Bw f).isSome])/\S'=V:=by
 refine en func98 ntmps98 ?_
 try refine gz ?_
 refine RO (fun ic hic => ?_)
 try refine gz ?_
 refine LE (fun is his => ?_)
 repeat ((fail_if_success (first | (refine boxV (T:=256) (fun ip hip => ?_)) | fail));(refine goX1 trivial ?_))
 refine boxV (T:=256) (fun ip hip => ?_)
 obtain ⟨n1,h1⟩:=A4 his
 obtain ⟨n2,h2⟩:=A4 hip
 obtain ⟨n3,h3⟩:=A4 h2
 generalize hU3:Sig.set _ ip _=S3
 have o1:S3 ip=some (pObj f ic is .nils 0):=by rw [<- hU3];exact w7 ..
 have o2:S3 ic=some (.map (eSN [])):=by rw [<- hU3,w8 _ _ (Ne.symm n3),w8 _ _ (Ne.symm n1)];exact w7 ..
 have o3:S3 is=some (.map (eSS [])):=by rw [<- hU3,w8 _ _ (Ne.symm n2)];exact w7 ..
 have hS:Sub V S3:=fun j x hj=>by rw [<- hU3,w8 _ _ (A1 hj h3),w8 _ _ (A1 hj h1),w8 _ _ (A1 hj hic)];exact hj
 clear hU3
 try refine gz ?_
 refine Ab (TJ 184 [.cptr [.ptr ip 0] 0, .cptr (B3 f) 0] S3 (CntR f ip ic is) (fun i hi => ?_) (fun S' d S'' h => ?_) (fun i S'' x hi h => ?_)) (fun x S' hr => ?_) (fun x S' hr => ?_)
 ·have e : ∀ {j o},S3 j=some o->(S3.set i (.cells [.bool false])) j=some o:=fun hj=>by rw [w8 _ _ (A1 hj hi)];exact hj
  exact QN f ip ic is _ hw ⟨e o1,e o2,e o3, .inl ⟨rfl,rfl⟩,Keep.refl _ _⟩ (Ne.symm n1)
 ·have:=h.1
  split at this
  ·cases this
  ·cases this;rfl
 ·refine h.2.2 i _ (w7 ..) fun ht => ?_
  rcases ht with rfl | rfl | rfl
  ·rw [o1] at hi;cases hi
  ·rw [o2] at hi;cases hi
  ·rw [o3] at hi;cases hi
 ·obtain ⟨i,S'',hi,rfl,hr⟩:=hr
  have key : ∀ y,CntR f ip ic is (S3.set i (.cells [.bool false])) y S''->(∃ d n,(S''.del i) ip=some (pObj f ic is d n))/\Sub V (S''.del i):=fun y hy=>by
   obtain ⟨_,⟨d,n,h5⟩,hK⟩:=hy
   have ni:ip ≠ i:=A1 o1 hi
   refine ⟨⟨d,n,by simp only [Sig.del,ni,if_false];exact h5⟩,fun j x hj => ?_⟩
   have hj3:=hS _ _ hj
   have ni:j ≠ i:=A1 hj3 hi
   simp only [Sig.del,ni,if_false]
   refine hK j x (by rw [w8 _ _ ni];exact hj3) fun ht => ?_
   rcases ht with rfl | rfl | rfl
   ·rw [h3] at hj;cases hj
   ·rw [hic] at hj;cases hj
   ·rw [h1] at hj;cases hj
  rcases hr with ⟨d,hr,e1⟩ | ⟨hr,e1⟩
  ·cases e1
   obtain ⟨⟨d',n,o5⟩,hS5⟩:=key _ hr
   have hs:(Bw f).isSome=true:=by
    have:=hr.1
    cases h:Bw f with
    | none=>rw [h] at this;cases this
    | some k=>rfl
   try refine gf o5 ?_
   exact fin2 (S':=V) ⟨n,by rw [hs],rfl⟩
  ·cases e1
   obtain ⟨⟨d',n,o5⟩,hS5⟩:=key _ hr
   have hs:(Bw f).isSome=false:=by
    have:=hr.1
    cases h:Bw f with
    | none=>rfl
    | some k=>rw [h] at this;cases this
   try refine gf o5 ?_
   exact fin2 (S':=V) ⟨n,by rw [hs],rfl⟩
 ·obtain ⟨i,S'',hi,_,hr⟩:=hr
  rcases hr with ⟨d,_,e1⟩ | ⟨_,e1⟩<;>cases e1
theorem Pq (f:FProg) (V:Sig) (hw:f.wt<=100000000):DCall prog 47 [.agg (B3 f)] V (rS (dI (if (Bw f).isSome then 0 else 2)) V):=by
 refine en func47 ntmps47 ?_
 try refine gz ?_
 refine Ab (SN f V hw) (fun x S' hr => ?_) (fun x S' hr=>by obtain ⟨_,h,_⟩:=hr;cases h)
 obtain ⟨n,e1,rfl⟩:=hr
 cases e1
 cases hs:(Bw f).isSome with
 | false =>
  try refine gf hs ?_
  exact fe1 trivial
 | true =>
  try refine gf hs ?_
  exact fe1 trivial
@[reducible,instance] def a47:=fun f V=>ah1 (@Pq f V)
def AH (f:FProg):List Str:=f.classes.flatMap (·.slots)
theorem Kl (f:FProg):(AH f).length<=f.wt:=by
 have h : ∀ l:List FClass,(l.flatMap (·.slots)).length<=wtL FClass.wt l:=by
  intro l
  induction l with
  | nil=>simp [wtL]
  | cons c l ih=>simp only [List.flatMap_cons,List.length_append,wtL];have:=AZ c.slots;have:=c.wt_le;omega
 have:=h f.classes
 unfold AH FProg.wt;omega
theorem Vm (f:FProg) (V:Sig) (hw:f.wt<=100000000) (hs:(Bw f).isSome=true):DCall prog 99 [.agg (B3 f)] V (rS (.tup [sl (cS (AH f)),dI 0]) V):=by
 obtain ⟨p1,p2,p3,p4,p5⟩:=f.wt_le
 have hsl:=Kl f
 refine en func99 ntmps99 ?_
 try refine gf hs ?_
 refine Bo 4 1 (fun i hi => ?_)
 refine AQ [2,3,11,12,22,23] (fun (k:Nat) (out:List Str)=>k<=f.classes.length/\AH f=out++(f.classes.drop k).flatMap (·.slots)) (fun k out=>[(13,dI k),(4, .slice (cS out) (.tag i))]) (fun _ out=>V.set i (.tail 1 out.length)) (fun k _=>f.classes.length-k) (0) ([]) (by simp [AH]) (fun k out hI => ?_)
 obtain ⟨hk,hR⟩:=hI
 by_cases hkl:k < f.classes.length
 ·rw [A3 hkl,List.flatMap_cons, <- List.append_assoc] at hR
  have hol:out.length+(f.classes[k]).slots.length<=100000000:=by rw [hR] at hsl;simp only [List.length_append] at hsl;omega
  try refine gz ?_
  exact ⟨k+1,out++(f.classes[k]).slots,⟨by omega,hR⟩,td1,wkR⟩
 ·rw [A2 hkl,List.flatMap_nil,List.append_nil] at hR
  have hol:out.length<=100000000:=by rw [hR] at hsl;omega
  try refine gz ?_
  rw [hR]
  exact fin2 (S':=V) ⟨rfl,rfl⟩
@[reducible,instance] def a99:=fun f V=>ah2 (@Vm f V)
theorem Ue (f:FProg) (V:Sig) (hw:f.wt<=100000000) (hs:(Bw f).isSome=true):DCall prog 100 [.agg (B3 f)] V (rS (.tup [sl (cS ((Bu f).1.map (·.1))),dI 0]) V):=by
 refine en func100 ntmps100 ?_
 try refine gf hs ?_
 refine Ab (KW f V hw) (fun x S3 hr => ?_) (fun x S3 hr=>by cases hr.1)
 obtain ⟨e1,rfl⟩:=hr
 cases e1
 try refine gz ?_
 exact fin2 (S':=S3) ⟨rfl,rfl⟩
@[reducible,instance] def a100:=fun f V=>ah2 (@Ue f V)
mutual
def allE:FExp->List FExp
 | .mk o n t k => .mk o n t k::B9 k
def B9:List FExp->List FExp
 | []=>[]
 | x::r=>allE x++B9 r
end
theorem UP (e:FExp):allE e=e::B9 e.kids:=by cases e;rw [allE];rfl
mutual
theorem E0 : ∀ e:FExp,(allE e).length<=e.wt
 | .mk o n t k=>by
  have:=O2 k
  rw [allE,FExp.wt_eq];simp only [List.length_cons]
  show _<=1+t.length+wtL FExp.wt k
  omega
theorem O2 : ∀ l:List FExp,(B9 l).length<=wtL FExp.wt l
 | []=>by rw [B9];simp
 | x::r=>by
  have h1:=E0 x
  have h2:=O2 r
  rw [B9,List.length_append,wtL];omega
end
theorem Il : ∀ (n:Nat) (e:FExp) (V:Sig),e.wt<=n->n<=1073741824->DCall prog 76 [.agg (Am e)] V (rS (sl ((allE e).map Am)) V):=by
 intro n
 induction n with
 | zero =>
  intro e V hx
  have:=e.wt_pos
  omega
 | succ n ih =>
  intro e V hx hn
  obtain ⟨w1,w2,hw3⟩:=e.wt_le
  have hlen:=E0 e
  rw [UP] at hlen ⊢
  refine en func76 ntmps76 ?_
  refine gz ?_
  refine Qe [1,2,22] (fun (k:Nat) (out:List FExp) (o:Own) (S1:Sig)=>k<=e.kids.length/\e::B9 e.kids=out++B9 (e.kids.drop k)/\(o = .clip \/ ∃ i,o = .tag i/\V i=none/\S1 i=some (.tail 4 out.length))/\Sub V S1) (fun k out o _=>[(4,dI k),(3, .slice (out.map Am) o)]) (fun _ _ _ S1=>S1) (fun k _ _ _=>e.kids.length-k) (0) ([e]) (.clip) (V) (by exact ⟨by omega,rfl, .inl rfl,Sub.refl _⟩) (fun k out o S1 hI => ?_)
  obtain ⟨hk,hR,ho,hS⟩:=hI
  have hol:out.length<=e.wt:=by rw [hR,List.length_append] at hlen;omega
  by_cases hkl:k < e.kids.length
  ·rw [A3 hkl,B9, <- List.append_assoc] at hR
   have hwk:=hw3 k hkl
   have hnl:=E0 e.kids[k]
   have hol2:out.length+(allE e.kids[k]).length<=e.wt:=by rw [hR] at hlen;simp only [List.length_append] at hlen;omega
   have hne:(allE e.kids[k]).map Am ≠ []:=by rw [UP];simp
   rcases ho with rfl | ⟨i,rfl,hi0,hi1⟩
   ·repeat' first | refine gz ?_ | refine AE (ih e.kids[k] S1 (by omega) (by omega)) ?_ | refine callP (ih e.kids[k] S1 (by omega) (by omega)) ?_ | refine gz ?_ | apply gy<;>intro hh
    refine appC (fun j hj => ?_) (hne:=hne)
    refine gz ?_
    have hSj:V j=none:=hS.none hj
    have hsz:DObj.tail (tab 40).size ((out.map Am).length+((allE e.kids[k]).map Am).length) = .tail 4 (out++allE e.kids[k]).length:=by simp
    have hsub:Sub (S1.set j (.tail 4 (out++allE e.kids[k]).length)) (S1.set j (.tail (tab 40).size ((out.map Am).length+((allE e.kids[k]).map Am).length))):=by rw [hsz];exact Sub.refl _
    exact ⟨k+1,out++allE e.kids[k], .tag j,S1.set j (.tail 4 (out++allE e.kids[k]).length),⟨by omega,hR, .inr ⟨j,rfl,hSj,w7 ..⟩,hS.trans ((Sub.refl _).set hj)⟩,td1,wkR⟩
   ·repeat' first | refine gf hi1 ?_ | refine AE (ih e.kids[k] S1 (by omega) (by omega)) ?_ | refine callP (ih e.kids[k] S1 (by omega) (by omega)) ?_ | refine gf hi1 ?_ | apply gy<;>intro hh
    have hsub:Sub (S1.set i (.tail 4 (out++allE e.kids[k]).length)) (S1.set i (.tail 4 (out.length+(allE e.kids[k]).length))):=by rw [List.length_append];exact Sub.refl _
    exact ⟨k+1,out++allE e.kids[k], .tag i,S1.set i (.tail 4 (out++allE e.kids[k]).length),⟨by omega,hR, .inr ⟨i,rfl,hi0,w7 ..⟩,hS.set hi0⟩,td1,wkR⟩
  ·rw [A2 hkl,B9,List.append_nil] at hR
   refine gz ?_
   rw [hR]
   exact fin1 (S':=V) ⟨rfl,rfl⟩
theorem LX (op:Int) (s:Str) (l:List (List D)) (o:Own) (V:Sig):DCall prog 95 [dI op, .str s, .slice l o] V (rS (.agg [dI op,dI 0, .str s, .slice l o]) V):=by
 refine en func95 ntmps95 ?_
 refine gz ?_ [] [6]
 refine newV (fun i hi => ?_)
 refine gz ?_ [] [6]
 exact finC (S':=V) ⟨rfl,rfl⟩
@[reducible,instance] def a95:=fun op s l o V=>ah0 (@LX op s l o V)
def shpB (e:FExp):Bool:=BC (hasM e.op shapesL) (getM ⟨false,0,0⟩ e.op shapesL) e
theorem Tf (e:FExp) (V:Sig) (hw:e.wt<=1073741824):DCall prog 249 [.agg (Am e)] V (rS (.bool (shpB e)) V):=by
 obtain ⟨w1,w2,hw3⟩:=e.wt_le
 have hi0:inB 0=true:=by decide
 have hk0:((e.kids.length:Int)=0)=(e.kids=[]):=by rw [<- List.length_eq_zero_iff];exact propext ⟨fun h=>by omega,fun h=>by omega⟩
 refine en func249 ntmps249 ?_
 rcases Decidable.em (e.op=1) with h1 | h1
 ·have hB:shpB e=BC true ⟨false,0,0⟩ e:=by unfold shpB;rw [h1];rfl
  rw [hB]
  unfold BC
  have hdj:(decide (e.n=0) || (decide (e.op=1) && inB e.n))=inB e.n:=by rw [h1];by_cases hn:e.n=0<;>simp [hn,hi0]
  rw [hdj]
  repeat' first | refine gf h1 ?_ | apply gy<;>intro hh
  all_goals refine fin1 (S':=V) ⟨?_,rfl⟩
  all_goals first | (simp_all;done) | (rw [Aa,Bool.eq_iff_iff];simp_all<;>omega)
 rcases Decidable.em (e.op=2) with h2 | h2
 ·have hB:shpB e=BC true ⟨false,0,0⟩ e:=by unfold shpB;rw [h2];rfl
  rw [hB]
  unfold BC
  repeat' first | refine gf h2 ?_ | apply gy<;>intro hh
  all_goals refine fin1 (S':=V) ⟨?_,rfl⟩
  all_goals first | (simp_all;done) | (rw [Aa,Bool.eq_iff_iff];simp_all<;>omega)
 rcases Decidable.em (e.op=18) with h18 | h18
 ·have hB:shpB e=BC true ⟨false,0,0⟩ e:=by unfold shpB;rw [h18];rfl
  rw [hB]
  unfold BC
  repeat' first | refine gf h18 ?_ | apply gy<;>intro hh
  all_goals refine fin1 (S':=V) ⟨?_,rfl⟩
  all_goals first | (simp_all;done) | (rw [Aa,Bool.eq_iff_iff];simp_all<;>omega)
 rcases Decidable.em (e.op=3) with h3 | h3
 ·have hB:shpB e=BC true ⟨true,0,0⟩ e:=by unfold shpB;rw [h3];rfl
  rw [hB]
  unfold BC
  repeat' first | refine gf h3 ?_ | apply gy<;>intro hh
  all_goals refine fin1 (S':=V) ⟨?_,rfl⟩
  all_goals first | (simp_all;done) | (rw [Aa,Bool.eq_iff_iff];simp_all<;>omega)
 rcases Decidable.em (e.op=6) with h6 | h6
 ·have hB:shpB e=BC true ⟨true,0,0⟩ e:=by unfold shpB;rw [h6];rfl
  rw [hB]
  unfold BC
  repeat' first | refine gf h6 ?_ | apply gy<;>intro hh
  all_goals refine fin1 (S':=V) ⟨?_,rfl⟩
  all_goals first | (simp_all;done) | (rw [Aa,Bool.eq_iff_iff];simp_all<;>omega)
 rcases Decidable.em (e.op=4) with h4 | h4
 ·have hB:shpB e=BC true ⟨true,1,1⟩ e:=by unfold shpB;rw [h4];rfl
  rw [hB]
  unfold BC
  repeat' first | refine gf h4 ?_ | apply gy<;>intro hh
  all_goals refine fin1 (S':=V) ⟨?_,rfl⟩
  all_goals first | (simp_all;done) | (rw [Aa,Bool.eq_iff_iff];simp_all<;>omega)
 rcases Decidable.em (e.op=8) with h8 | h8
 ·have hB:shpB e=BC true ⟨true,1,1⟩ e:=by unfold shpB;rw [h8];rfl
  rw [hB]
  unfold BC
  repeat' first | refine gf h8 ?_ | apply gy<;>intro hh
  all_goals refine fin1 (S':=V) ⟨?_,rfl⟩
  all_goals first | (simp_all;done) | (rw [Aa,Bool.eq_iff_iff];simp_all<;>omega)
 rcases Decidable.em (e.op=7) with h7 | h7
 ·have hB:shpB e=BC true ⟨true,2,2⟩ e:=by unfold shpB;rw [h7];rfl
  rw [hB]
  unfold BC
  repeat' first | refine gf h7 ?_ | apply gy<;>intro hh
  all_goals refine fin1 (S':=V) ⟨?_,rfl⟩
  all_goals first | (simp_all;done) | (rw [Aa,Bool.eq_iff_iff];simp_all<;>omega)
 rcases Decidable.em (e.op=9) with h9 | h9
 ·have hB:shpB e=BC true ⟨true,2,2⟩ e:=by unfold shpB;rw [h9];rfl
  rw [hB]
  unfold BC
  repeat' first | refine gf h9 ?_ | apply gy<;>intro hh
  all_goals refine fin1 (S':=V) ⟨?_,rfl⟩
  all_goals first | (simp_all;done) | (rw [Aa,Bool.eq_iff_iff];simp_all<;>omega)
 rcases Decidable.em (e.op=5) with h5 | h5
 ·have hB:shpB e=BC true ⟨true,1,3⟩ e:=by unfold shpB;rw [h5];rfl
  rw [hB]
  unfold BC
  have hdn:decide (e.op=1)=false:=by rw [h5];rfl
  obtain hq | hq | hq | hq | hq:e.kids.length=0\/e.kids.length=1\/e.kids.length=2\/e.kids.length=3\/4<=e.kids.length:=by omega
  ·repeat' first | refine gf (gi h5 hq) ?_ | apply gy<;>intro hh
   all_goals refine fin1 (S':=V) ⟨?_,rfl⟩
   all_goals (clear hw3 hk0;first | (simp_all;done) | (rw [Aa,Bool.eq_iff_iff];simp [h5,hq];omega) | skip)
  ·repeat' first | refine gf (gi h5 hq) ?_ | apply gy<;>intro hh
   all_goals refine fin1 (S':=V) ⟨?_,rfl⟩
   all_goals (clear hw3 hk0;first | (simp_all;done) | (rw [Aa,Bool.eq_iff_iff];simp [h5,hq];omega) | skip)
  ·repeat' first | refine gf (gi h5 hq) ?_ | apply gy<;>intro hh
   all_goals refine fin1 (S':=V) ⟨?_,rfl⟩
   all_goals (clear hw3 hk0;first | (simp_all;done) | (rw [Aa,Bool.eq_iff_iff];simp [h5,hq];omega) | skip)
  ·repeat' first | refine gf (gi h5 hq) ?_ | apply gy<;>intro hh
   all_goals refine fin1 (S':=V) ⟨?_,rfl⟩
   all_goals (clear hw3 hk0;first | (simp_all;done) | (rw [Aa,Bool.eq_iff_iff];simp [h5,hq];omega) | skip)
  ·repeat' first | refine gf h5 ?_ | apply gy<;>intro hh
   all_goals refine fin1 (S':=V) ⟨?_,rfl⟩
   all_goals (clear hw3 hk0;first | (simp_all;done) | (rw [Aa,Bool.eq_iff_iff];simp [h5,hq];omega) | skip)
 rcases Decidable.em (e.op=10) with h10 | h10
 ·have hB:shpB e=BC true ⟨false,3,3⟩ e:=by unfold shpB;rw [h10];rfl
  rw [hB]
  unfold BC
  repeat' first | refine gf h10 ?_ | apply gy<;>intro hh
  all_goals refine fin1 (S':=V) ⟨?_,rfl⟩
  all_goals first | (simp_all;done) | (rw [Aa,Bool.eq_iff_iff];simp_all<;>omega)
 rcases Decidable.em (e.op=17) with h17 | h17
 ·have hB:shpB e=BC true ⟨false,1,1⟩ e:=by unfold shpB;rw [h17];rfl
  rw [hB]
  unfold BC
  repeat' first | refine gf h17 ?_ | apply gy<;>intro hh
  all_goals refine fin1 (S':=V) ⟨?_,rfl⟩
  all_goals first | (simp_all;done) | (rw [Aa,Bool.eq_iff_iff];simp_all<;>omega)
 rcases Decidable.em (e.op=11) with h11 | h11
 ·have hB:shpB e=BC true ⟨false,2,2⟩ e:=by unfold shpB;rw [h11];rfl
  rw [hB]
  unfold BC
  repeat' first | refine gf h11 ?_ | apply gy<;>intro hh
  all_goals refine fin1 (S':=V) ⟨?_,rfl⟩
  all_goals first | (simp_all;done) | (rw [Aa,Bool.eq_iff_iff];simp_all<;>omega)
 rcases Decidable.em (e.op=12) with h12 | h12
 ·have hB:shpB e=BC true ⟨false,2,2⟩ e:=by unfold shpB;rw [h12];rfl
  rw [hB]
  unfold BC
  repeat' first | refine gf h12 ?_ | apply gy<;>intro hh
  all_goals refine fin1 (S':=V) ⟨?_,rfl⟩
  all_goals first | (simp_all;done) | (rw [Aa,Bool.eq_iff_iff];simp_all<;>omega)
 rcases Decidable.em (e.op=13) with h13 | h13
 ·have hB:shpB e=BC true ⟨false,2,2⟩ e:=by unfold shpB;rw [h13];rfl
  rw [hB]
  unfold BC
  repeat' first | refine gf h13 ?_ | apply gy<;>intro hh
  all_goals refine fin1 (S':=V) ⟨?_,rfl⟩
  all_goals first | (simp_all;done) | (rw [Aa,Bool.eq_iff_iff];simp_all<;>omega)
 rcases Decidable.em (e.op=14) with h14 | h14
 ·have hB:shpB e=BC true ⟨false,2,2⟩ e:=by unfold shpB;rw [h14];rfl
  rw [hB]
  unfold BC
  repeat' first | refine gf h14 ?_ | apply gy<;>intro hh
  all_goals refine fin1 (S':=V) ⟨?_,rfl⟩
  all_goals first | (simp_all;done) | (rw [Aa,Bool.eq_iff_iff];simp_all<;>omega)
 rcases Decidable.em (e.op=15) with h15 | h15
 ·have hB:shpB e=BC true ⟨false,2,2⟩ e:=by unfold shpB;rw [h15];rfl
  rw [hB]
  unfold BC
  repeat' first | refine gf h15 ?_ | apply gy<;>intro hh
  all_goals refine fin1 (S':=V) ⟨?_,rfl⟩
  all_goals first | (simp_all;done) | (rw [Aa,Bool.eq_iff_iff];simp_all<;>omega)
 rcases Decidable.em (e.op=16) with h16 | h16
 ·have hB:shpB e=BC true ⟨false,2,2⟩ e:=by unfold shpB;rw [h16];rfl
  rw [hB]
  unfold BC
  repeat' first | refine gf h16 ?_ | apply gy<;>intro hh
  all_goals refine fin1 (S':=V) ⟨?_,rfl⟩
  all_goals first | (simp_all;done) | (rw [Aa,Bool.eq_iff_iff];simp_all<;>omega)
 have hB:shpB e=false:=by
  have hh:hasM e.op shapesL=false:=by
   show (decide (e.op=1) || (decide (e.op=2) || (decide (e.op=18) || (decide (e.op=3) || (decide (e.op=6) || (decide (e.op=4) || (decide (e.op=8) || (decide (e.op=7) || (decide (e.op=9) || (decide (e.op=5) || (decide (e.op=10) || (decide (e.op=17) || (decide (e.op=11) || (decide (e.op=12) || (decide (e.op=13) || (decide (e.op=14) || (decide (e.op=15) || (decide (e.op=16) || false))))))))))))))))))=false
   rw [decide_eq_false h1,decide_eq_false h2,decide_eq_false h18,decide_eq_false h3,decide_eq_false h6,decide_eq_false h4,decide_eq_false h8,decide_eq_false h7,decide_eq_false h9,decide_eq_false h5,decide_eq_false h10,decide_eq_false h17,decide_eq_false h11,decide_eq_false h12,decide_eq_false h13,decide_eq_false h14,decide_eq_false h15,decide_eq_false h16]
   rfl
  unfold shpB BC;rw [hh];rfl
 rw [hB]
 repeat' first | refine gz ?_ | apply gy<;>intro hh
 any_goals (first | exact fe1 trivial | fail)
@[reducible,instance] def a249:=fun e V=>ah1 (@Tf e V)
mutual
def cntE:FExp->Int->Int->Bool × Int
 | .mk o n t k,d,b=>if b-1 < 0\/12 < d\/shpB (.mk o n t k)=false then (false,b-1) else EV k (d+1) (b-1)
def EV:List FExp->Int->Int->Bool × Int
 | [],_,b=>(true,b)
 | x::r,d,b=>if (cntE x d b).1=true then EV r d (cntE x d b).2 else (false,(cntE x d b).2)
end
theorem UC (e:FExp) (d b:Int):cntE e d b=if b-1 < 0\/12 < d\/shpB e=false then (false,b-1) else EV e.kids (d+1) (b-1):=by cases e;rw [cntE];rfl
mutual
theorem UB : ∀ (e:FExp) (d b:Int),(cntE e d b).2<=b/\(0<=b -> -1<=(cntE e d b).2)/\((cntE e d b).1=true->0<=(cntE e d b).2)
 | .mk o n t k,d,b=>by
  rw [cntE]
  split
  ·refine ⟨?_, ?_, ?_⟩<;>simp<;>omega
  ·have:=PP k (d+1) (b-1)
   exact ⟨by omega,fun h=>this.2.1 (by omega),fun h=>this.2.2 (by omega) h⟩
theorem PP : ∀ (l:List FExp) (d b:Int),(EV l d b).2<=b/\(0<=b -> -1<=(EV l d b).2)/\(0<=b->(EV l d b).1=true->0<=(EV l d b).2)
 | [],d,b=>by rw [EV];exact ⟨Int.le_refl _,fun h=>by simp;omega,fun h _=>h⟩
 | x::r,d,b=>by
  have h1:=UB x d b
  rw [EV]
  split
  ·rename_i h
   have h2:=PP r d (cntE x d b).2
   have:=h1.2.2 h
   exact ⟨by omega,fun _=>h2.2.1 this,fun _ h3=>h2.2.2 this h3⟩
  ·exact ⟨h1.1,h1.2.1,fun _ h3=>by cases h3⟩
end
theorem QI (ib:Nat) : ∀ (n:Nat) (e:FExp) (d b:Int) (V:Sig),e.wt<=n->n<=1073741824->0<=d->d+n<=2000000000->0<=b->b<=1000->V ib=some (.cells [dI b]) ->
  DCall prog 208 [.agg (Am e),dI d, .ptr ib 0] V fun x S'=>x = .ret (.bool (cntE e d b).1)/\S'=V.set ib (.cells [dI (cntE e d b).2]):=by
 intro n
 induction n with
 | zero =>
  intro e d b V hx
  have:=e.wt_pos
  omega
 | succ n ih =>
  intro e d b V hx hn hd hd2 hb0 hb1 o1
  obtain ⟨w1,w2,hw3⟩:=e.wt_le
  have hwe:e.wt<=1073741824:=by omega
  refine en func208 ntmps208 ?_
  by_cases hbad:b-1 < 0\/12 < d\/shpB e=false
  ·have hc:cntE e d b=(false,b-1):=by rw [UC,if_pos hbad]
   rw [hc]
   by_cases h1:b-1 < 0
   ·refine gf o1 ?_
    exact fin1 (S':=V.set ib (.cells [dI (b-1)])) ⟨rfl,rfl⟩
   ·by_cases h2:12 < d
    ·refine gf o1 ?_
     exact fin1 (S':=V.set ib (.cells [dI (b-1)])) ⟨rfl,rfl⟩
    ·have h3:shpB e=false:=by grind
     refine gf (gi o1 h3) ?_
     exact fin1 (S':=V.set ib (.cells [dI (b-1)])) ⟨rfl,rfl⟩
  ·have hc:cntE e d b=EV e.kids (d+1) (b-1):=by rw [UC,if_neg hbad]
   have h1:0<=b-1:=by omega
   have h2:d<=12:=by omega
   have h3:shpB e=true:=by cases h:shpB e;exact absurd (.inr (.inr h)) hbad;rfl
   rw [hc]
   refine gf (gi o1 h3) ?_
   refine AQ [1,2,3] (fun (k:Nat) (c:Int)=>k<=e.kids.length/\0<=c/\c<=b/\EV e.kids (d+1) (b-1)=EV (e.kids.drop k) (d+1) c) (fun k _=>[(7,dI k)]) (fun _ c=>V.set ib (.cells [dI c])) (fun k _=>e.kids.length-k) (0) (b-1) (by exact ⟨by omega,by omega,by omega,rfl⟩) (fun k c hI => ?_)
   obtain ⟨hk,hc0,hc1,hR⟩:=hI
   by_cases hkl:k < e.kids.length
   ·rw [A3 hkl,EV] at hR
    have hle:=UB e.kids[k] (d+1) c
    refine gz ?_
    refine Ab (ih e.kids[k] (d+1) c _ (by have:=hw3 k hkl;omega) (by omega) (by omega) (by omega) hc0 (by omega) (w7 ..)) (fun x S' hr => ?_) (fun x S' hr=>by cases hr.1)
    obtain ⟨e1,rfl⟩:=hr
    cases e1
    cases hq:(cntE e.kids[k] (d+1) c).1
    ·rw [if_neg (by rw [hq];simp)] at hR
     rw [hR]
     refine gz ?_
     exact fin1 (S':=V.set ib (.cells [dI (cntE e.kids[k] (d+1) c).2])) ⟨rfl,rfl⟩ (by rw [w9];exact Sub.refl _)
    ·rw [if_pos hq] at hR
     refine gz ?_
     exact ⟨k+1,(cntE e.kids[k] (d+1) c).2,⟨by omega,hle.2.2 hq,by omega,hR⟩,td1,wkR⟩
   ·rw [A2 hkl,EV] at hR
    rw [hR]
    refine gz ?_
    exact fin1 (S':=V.set ib (.cells [dI c])) ⟨rfl,rfl⟩
end Go.DL
