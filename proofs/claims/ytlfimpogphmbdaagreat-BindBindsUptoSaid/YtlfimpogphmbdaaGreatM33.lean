/- Part of the proof that the last text ends. -/
import Derived.Test.YtlfimpogphmbdaaGreatM22
import Derived.Test.YtlfimpogphmbdaaGreatM23
import Derived.Test.YtlfimpogphmbdaaGreatM32
import Derived.Test.YtlfimpogphmbdaaGreatM24
import Derived.Test.YtlfimpogphmbdaaGreatM17
set_option linter.all false
namespace Go.DL
open Go.Proofs.Tryz
open Go Go.Proofs
set_option maxHeartbeats 8000000
theorem Cl (n:Nat):(CF n).length=n:=by unfold CF;rw [KD];simp
def spA (p:BProg):List Str:=[wAny,wInt,G6]++CF p.classes.length
def spS (p:BProg):List Str:=CF p.slots.toNat
def spG (p:BProg):List Str:=CF p.gens.length
def spL (p:BProg):List Str:=CF (p.nodes.length+3)
def CQ (p:BProg) (m:BMeth):Nat:=(p.gens.getD m.gen.toNat 0).toNat
def spM (p:BProg) (m:BMeth):FMeth:=⟨m.kind,ixS (spG p) m.gen,(spL p).take (CQ p m),spF (spA p) (spS p) ((spL p).take (CQ p m)) m.fact,(spE p (spA p) (spS p) (spG p) (spL p) 12 m.node ((spL p).take (CQ p m)) (CQ p m)).1⟩
def spCs (p:BProg):List FClass:=(p.classes.zip (CF p.classes.length)).map fun x=>{ spC (spA p) (spS p) x.1 with name:=x.2 }
def GP (p:BProg):FProg:=⟨spCs p,p.methods.map (spM p),(spE p (spA p) (spS p) (spG p) (spL p) 12 p.main [] 0).1⟩
structure MetOK (p:BProg) (m:BMeth):Prop where
 gen:InR m.gen p.gens.length
 par:0<=p.gens.getD m.gen.toNat 0/\CQ p m<=p.nodes.length+3
 fact:FIx (3+p.classes.length) p.slots.toNat (CQ p m) m.fact
 body:okE p 12 m.node (CQ p m)
 left:(spE p (spA p) (spS p) (spG p) (spL p) 12 m.node ((spL p).take (CQ p m)) (CQ p m)).2<=p.nodes.length+3
structure SpOK (p:BProg):Prop where
 wt:p.wt<=100000000
 slots:0<=p.slots/\p.slots<=100000000
 cls : ∀ c ∈ p.classes,ClsIx (3+p.classes.length) p.slots.toNat c
 met : ∀ m ∈ p.methods,MetOK p m
 main:okE p 12 p.main 0
 left:(spE p (spA p) (spS p) (spG p) (spL p) 12 p.main [] 0).2<=p.nodes.length+3
theorem Pp (p:BProg) (V:Sig) (hp:SpOK p):DCall prog 56 [.agg (AC p)] V (rS (.agg (B3 (GP p))) V):=by
 obtain ⟨p1,p2,p3,p4,p5,p6,p7⟩:=p.wt_le
 have hwt:=hp.wt
 obtain ⟨s0,s1⟩:=hp.slots
 obtain ⟨sn,hsn⟩ : ∃ n:Nat,p.slots=n:=⟨p.slots.toNat,by omega⟩
 have hsn':p.slots.toNat=sn:=by omega
 have hlA:(spA p).length=3+p.classes.length:=by unfold spA;rw [List.length_append,Cl];rfl
 have hlS:(spS p).length=sn:=by unfold spS;rw [Cl,hsn']
 have hlG:(spG p).length=p.gens.length:=Cl _
 have hlL:(spL p).length=p.nodes.length+3:=Cl _
 have hcsp:cSp p (spA p) (spS p) (spG p) = .cptr [.cptr [sl (p.classes.map cBClass),dI p.slots,sl (cI p.gens),sl (p.methods.map Ai),sl (p.nodes.map Ad),dI p.main,sl (cS (spA p)),sl (cS (spS p)),sl (cS (spG p))] 0] 0:=rfl
 have k1:=fun (V:Sig)=>Fy p.classes.length V (by omega)
 have k2:=fun (V:Sig)=>Fy sn V (by omega)
 have k3:=fun (V:Sig)=>Fy p.gens.length V (by omega)
 refine en func56 ntmps56 ?_
 try refine gz ?_ o56 [2,4,6,77,109]
 refine newV (fun i2 hi2 => ?_)
 repeat' first | refine gz ?_ [] [2,4,6,77,109] | refine AE (k1 _) ?_ | refine callP (k1 _) ?_ | refine moR (k1 _) ?_ | refine moP (k1 _) ?_ | refine gz ?_ (delO 2 o56) [2,4,6,77,109] | apply gy<;>intro hh
 refine mixL (id:=2) [0,1,2,4,5,7,8,9,3,6,10,11,12,13] [13] ?_
 try refine gz ?_ (delO 2 o56) [2,4,6,77,109]
 refine moQAppC (es:=cS [wAny,wInt,G6]) (new:=cS (CF p.classes.length)) ?_ (hm:=by simp [Cl];omega) (hb:=by simp [Cl];omega)
 have hcA:cS [wAny,wInt,G6]++cS (CF p.classes.length)=cS (spA p):=by unfold spA;simp [cS]
 rw [hcA,hsn]
 refine V7 (fun S' _=>(k2 S').mono fun x S'' hx=>⟨hx.1,hx.2 ▸ Sub.refl _⟩) ?_
 refine V7 (fun S' _=>(k3 S').mono fun x S'' hx=>⟨hx.1,hx.2 ▸ Sub.refl _⟩) ?_
 try refine gz ?_ (delO 2 o56) [2,4,6,77,109]
 refine MJ (fun i4 hi4 => ?_)
 have n24:i2 ≠ i4:=fun e=>by rw [<- e,w7] at hi4;cases hi4
 repeat ((fail_if_success (first | (refine dwp_wk (GF (i:=i4) (t:=4) (w7 ..) (by rfl)) ?_) | fail));(refine goX1 trivial ?_))
 refine dwp_wk (GF (i:=i4) (t:=4) (w7 ..) (by rfl)) ?_
 have eS:CF sn=spS p:=by unfold spS;rw [hsn']
 have eG:CF p.gens.length=spG p:=rfl
 have hdel : ∀ (τ:Sig) (o:DObj),τ i4=none->(τ.set i4 o).del i4=τ:=fun τ o h=>by
  funext j;simp only [Sig.set,Sig.del];split
  ·rename_i e;rw [e,h]
  ·rfl
 rw [hdel _ _ hi4,eS,eG]
 clear k1 k2 k3
 have k4 : ∀ (V:Sig),DCall prog 134 [dI (p.nodes.length+3:Nat)] V (rS (sl (cS (spL p))) V):=fun V=>Fy (p.nodes.length+3) V (by omega)
 have k5 : ∀ (V:Sig),DCall prog 135 _ V _:=fun V=>QQ p.classes (spC (spA p) (spS p)) 136 [cSp p (spA p) (spS p) (spG p)] .no V (by omega) (fun x hx S' _=>U0 p (spA p) (spS p) (spG p) x S' (by rw [hlA,hlS, <- hsn'];exact hp.cls x hx) (by omega) (by omega) (by obtain ⟨k,hk,rfl⟩:=List.getElem_of_mem hx;have:=p5 k hk;omega))
 rw [hcsp] at k5
 have hn3:((p.nodes.length:Int)+3)=((p.nodes.length+3:Nat):Int):=by omega
 repeat ((fail_if_success (first | (refine dwp_cutE3 (x3 := .seq _ (.block 0 _)) (fun i=>(V.set i2 (.cells [.nils, .nils,dI 0,dI 0, .str [], .nils])) i=none) (fun i=>[(6, .ptr i 0),(5,sl (cS (spL p))),(4,cSp p (spA p) (spS p) (spG p)),(2, .ptr i2 0),(1, .cptr (AC p) 0)]) (fun i=>(V.set i2 (.cells [.nils, .nils,dI 0,dI 0, .str [], .nils])).set i (.cells [sl ((spCs p).map An), .nils,dI 0,dI 0, .str [], .nils])) (fun i6 hi6 => ?_) (fun _ hK => ?_)) | fail));(refine goX1 trivial ?_))
 refine dwp_cutE3 (x3 := .seq _ (.block 0 _)) (fun i=>(V.set i2 (.cells [.nils, .nils,dI 0,dI 0, .str [], .nils])) i=none) (fun i=>[(6, .ptr i 0),(5,sl (cS (spL p))),(4,cSp p (spA p) (spS p) (spG p)),(2, .ptr i2 0),(1, .cptr (AC p) 0)]) (fun i=>(V.set i2 (.cells [.nils, .nils,dI 0,dI 0, .str [], .nils])).set i (.cells [sl ((spCs p).map An), .nils,dI 0,dI 0, .str [], .nils])) (fun i6 hi6 => ?_) (fun _ hK => ?_)
 ·refine AO i6 1 13 (ds:=[sl ((spCs p).map An), .nils,dI 0,dI 0, .str [], .nils]) (w7 ..) rfl fun it hit => ?_
  have n26:i2 ≠ i6:=fun e=>by rw [<- e,w7] at hi6;cases hi6
  have h60:V i6=none:=(A4 hi6).2
  have n6t:i6 ≠ it:=fun e=>by rw [<- e,w7] at hit;cases hit
  have hit2:=(A4 hit).2
  have n2t:i2 ≠ it:=fun e=>by rw [<- e,w7] at hit2;cases hit2
  have ht0:V it=none:=(A4 hit2).2
  generalize hSa:Sig.set (Sig.set _ it _) i6 _=Sa
  have q6:Sa i6=some (.cells [sl ((spCs p).map An), .slice (([]:List FMeth).map Di) (.tag it),dI 0,dI 0, .str [], .nils]):=by rw [<- hSa];exact w7 ..
  have qt:Sa it=some (.tail 13 ([]:List FMeth).length):=by rw [<- hSa,w8 _ _ (Ne.symm n6t)];exact w7 ..
  have q2:Sa i2=some (.cells [.nils, .nils,dI 0,dI 0, .str [], .nils]):=by rw [<- hSa,w8 _ _ n26,w8 _ _ n2t,w8 _ _ n26];exact w7 ..
  have qS:Sub V Sa:=by rw [<- hSa];exact ((((Sub.refl _).set hi2).set h60).set ht0).set h60
  clear hSa hit hit2
  have hcsp0:cSp0 p (spA p) (spS p) (spG p) = .cptr [sl (p.classes.map cBClass),dI p.slots,sl (cI p.gens),sl (p.methods.map Ai),sl (p.nodes.map Ad),dI p.main,sl (cS (spA p)),sl (cS (spS p)),sl (cS (spG p))] 0:=rfl
  try refine gf hcsp ?_ o56 [2,4,6,77,109]
  refine De [1,2,4,5,6,12,57,58,106,107,108,109,110,111,112,113,114,115] (fun (k:Nat) (ms:List FMeth) (S3:Sig)=>k<=p.methods.length/\ms=(p.methods.take k).map (spM p)/\S3 i6=some (.cells [sl ((spCs p).map An), .slice (ms.map Di) (.tag it),dI 0,dI 0, .str [], .nils])/\S3 it=some (.tail 13 ms.length)/\S3 i2=some (.cells [.nils, .nils,dI 0,dI 0, .str [], .nils])/\Sub V S3) (fun k _ _=>[(59,dI k)]) (fun _ _ S3=>S3) (fun k _ _=>p.methods.length-k) (0) ([]) (Sa) (by exact ⟨by omega,rfl,q6,qt,q2,qS⟩) (fun k ms S3 hI => ?_)
  obtain ⟨hk,hms,o6,ot,o2,oS⟩:=hI
  by_cases hkl:k < p.methods.length
  ·have hM:=hp.met _ (List.getElem_mem hkl)
   have hwm:=p6 k hkl
   generalize hm:p.methods[k]=m at *
   obtain ⟨gq,hgq,hgl⟩ : ∃ gq:Nat,m.gen=gq/\gq < p.gens.length:=⟨m.gen.toNat,by have:=hM.gen;unfold InR at this;omega,by have:=hM.gen;unfold InR at this;omega⟩
   have hpn:p.gens[gq]=((CQ p m:Nat):Int):=by
    have h1:=hM.par.1
    unfold CQ
    rw [hgq,show ((gq:Int)).toNat=gq by omega,List.getD_eq_getElem?_getD,List.getElem?_eq_getElem hgl] at *
    simp only [Option.getD_some] at *
    omega
   have hpl:=hM.par.2
   generalize hpnn:CQ p m=pn at *
   have htk:List.take pn (cS (spL p))=cS ((spL p).take pn):=by simp [cS,List.map_take]
   have htl:((spL p).take pn).length=pn:=by rw [List.length_take];omega
   rw [hcsp]
   repeat ((fail_if_success (first | (refine boxV (T:=214) (fun i11 hi11 => ?_)) | fail));(refine goX1 (gi hm (gi hgq (gi hpn htk))) ?_))
   refine boxV (T:=214) (fun i11 hi11 => ?_)
   have n611:i6 ≠ i11:=A1 o6 hi11
   have nt11:it ≠ i11:=A1 ot hi11
   have n211:i2 ≠ i11:=A1 o2 hi11
   try refine gz ?_ (delO 15 o56) [2,4,6,77,109]
   generalize hU4:S3.set i11 _=S4
   have b11:S4 i11=some (.cells [cSp0 p (spA p) (spS p) (spG p),sl (cS (spL p)),dI pn]):=by rw [<- hU4];exact w7 ..
   have b6:S4 i6=some (.cells [sl ((spCs p).map An), .slice (ms.map Di) (.tag it),dI 0,dI 0, .str [], .nils]):=by rw [<- hU4,w8 _ _ n611];exact o6
   have bt:S4 it=some (.tail 13 ms.length):=by rw [<- hU4,w8 _ _ nt11];exact ot
   have b2:S4 i2=some (.cells [.nils, .nils,dI 0,dI 0, .str [], .nils]):=by rw [<- hU4,w8 _ _ n211];exact o2
   have s11:V i11=none:=oS.none hi11
   have bS:Sub V S4:=by rw [<- hU4];exact oS.set s11
   clear hU4
   have hgl':gq < (spG p).length:=by omega
   have hnm:ixS (spG p) m.gen=(spG p)[gq]:=by rw [hgq];unfold ixS;rw [show ((gq:Int)).toNat=gq by omega,List.getElem?_eq_getElem hgl'];rfl
   have hfw:m.fact.wt<=1073741824:=by unfold BMeth.wt at hwm;omega
   have h143:=fun (S':Sig)=>TU p (spA p) (spS p) (spG p) ((spL p).take pn) (by omega) (by omega) (by omega) 1073741824 m.fact .no S' hfw (Nat.le_refl _) (by rw [hlA,hlS,htl, <- hsn', <- hpnn];exact hM.fact)
   have h144:=Nr p (spA p) (spS p) (spG p) (spL p) (by omega) hlA (by omega) (by omega) (by omega) hlG (by omega) 12 m.node ((spL p).take pn) .no pn i11 S4 (by rw [htl, <- hpnn];exact hM.body) (by omega) (by rw [hlL];have:=hM.left;rw [hpnn] at this;exact this) b11
   have u6:(S4.out fun j=>j=i11\/j=it) i6=_:=C8 b6 (by rintro (h | h);exact n611 h;exact n6t h)
   refine DC (id:=15) [0,1,2,3,4,5,6,7,8,9,10,11,12,13,14,15,16,18,19,20,21,17,22,23,24,25,26] [22,25] (S4.out fun j=>j=i11\/j=it) (By _ _) ?_
   try refine gf (gi u6 (gi hm hgq)) ?_ o56 [2,4,6,77,109]
   refine V7 (fun S' _=>(h143 S').mono fun x S'' hx=>⟨hx.1,hx.2 ▸ Sub.refl _⟩) ?_
   try refine gz ?_ o56 [2,4,6,77,109]
   refine Dn h144 (fun d S5 hx => ?_) (fun d S5 hx=>by cases hx.1)
   obtain ⟨hx',rfl⟩:=hx
   cases hx'
   have hsb : ∀ {c:DObj},Sub (S4.out fun j=>j=i11\/j=it) (S4.set i11 c):=fun j z hz=>by
    obtain ⟨h1,h2⟩:=C9 hz
    rw [w8 _ _ fun e=>h2 (.inl e)];exact h1
   have hsb2 : ∀ {c:DObj},Sub (S4.out fun j=>j=i11\/j=it) ((S4.set i11 c).set it (.tail 13 (ms.length+1))):=fun j z hz=>by
    obtain ⟨h1,h2⟩:=C9 hz
    rw [w8 _ _ fun e=>h2 (.inr e)];exact hsb _ _ hz
   refine ⟨hsb, ?_⟩
   simp only [putD]
   have hsub2:=hsb2 (c := .cells [cSp0 p (spA p) (spS p) (spG p),sl (cS (spL p)),dI (spE p (spA p) (spS p) (spG p) (spL p) 12 m.node (List.take pn (spL p)) pn).2])
   have hmsl:ms.length=k:=by rw [hms];simp;omega
   try refine gf (gi bt b6) ?_ o56 [2,4,6,77,109]
   generalize hqq:Sig.set _ i6 _=qq
   have c6:qq i6=some (.cells [sl ((spCs p).map An), .slice ((ms++[spM p m]).map Di) (.tag it),dI 0,dI 0, .str [], .nils]):=by
    rw [<- hqq,w7]
    simp [spM,hnm,hpnn]
   have ct:qq it=some (.tail 13 (ms++[spM p m]).length):=by rw [<- hqq,w8 _ _ (Ne.symm n6t),w7,List.length_append];rfl
   have c2:qq i2=some (.cells [.nils, .nils,dI 0,dI 0, .str [], .nils]):=by rw [<- hqq,w8 _ _ n26,w8 _ _ n2t,w8 _ _ n211];exact b2
   have cS:Sub V qq:=by rw [<- hqq];exact ((bS.set s11).set ht0).set h60
   have hms':ms++[spM p m]=(p.methods.take (k+1)).map (spM p):=by rw [hms, <- List.take_append_getElem hkl,List.map_append,hm];rfl
   clear hqq
   exact ⟨k+1,ms++[spM p m],qq,⟨by omega,hms',c6,ct,c2,cS⟩,td1,wkR⟩
  ·rw [hcsp]
   refine dwp_wk (Cx (az:=[sl ((spCs p).map An)]) (bs:=[dI 0,dI 0, .str [], .nils]) (d':=sl (ms.map Di)) o6 (Az _ _)) ?_
   generalize hU5:S3.set i6 _=S5
   have o6:S5 i6=some (.cells [sl ((spCs p).map An),sl (ms.map Di),dI 0,dI 0, .str [], .nils]):=by rw [<- hU5];exact w7 ..
   have o2:S5 i2=some (.cells [.nils, .nils,dI 0,dI 0, .str [], .nils]):=by rw [<- hU5,w8 _ _ n26];exact o2
   have oS:Sub V S5:=by rw [<- hU5];exact oS.set h60
   clear hU5 ot
   repeat ((fail_if_success (first | (refine boxV (T:=214) (fun i12 hi12 => ?_)) | fail));(refine goX1 trivial ?_))
   refine boxV (T:=214) (fun i12 hi12 => ?_)
   have n612:i6 ≠ i12:=A1 o6 hi12
   have n212:i2 ≠ i12:=A1 o2 hi12
   try refine gz ?_ o56 [2,4,6,77,109]
   generalize hU4:S5.set i12 _=S4
   have b12:S4 i12=some (.cells [cSp0 p (spA p) (spS p) (spG p),sl (cS (spL p)),dI (0:Nat)]):=by rw [<- hU4];exact w7 ..
   have b6:S4 i6=some (.cells [sl ((spCs p).map An),sl (ms.map Di),dI 0,dI 0, .str [], .nils]):=by rw [<- hU4,w8 _ _ n612];exact o6
   have b2:S4 i2=some (.cells [.nils, .nils,dI 0,dI 0, .str [], .nils]):=by rw [<- hU4,w8 _ _ n212];exact o2
   have s12:V i12=none:=oS.none hi12
   have bS:Sub V S4:=by rw [<- hU4];exact oS.set s12
   clear hU4
   have h144:=Nr p (spA p) (spS p) (spG p) (spL p) (by omega) hlA (by omega) (by omega) (by omega) hlG (by omega) 12 p.main [] .no 0 i12 S4 hp.main (by simp) (by rw [hlL];exact hp.left) b12
   have hke:k=p.methods.length:=by omega
   rw [hke,List.take_length] at hms
   subst hms
   refine Ab (h144.wk (args:=[.ptr i12 0,dI p.main, .nils]) ⟨A9 _,A9 _,Al _ (.inl rfl),trivial⟩) (fun d S6 hx => ?_) (fun d S6 hx=>by cases hx.1)
   obtain ⟨hx',rfl⟩:=hx
   cases hx'
   simp only [putD]
   try refine gf (gi b6 b2) ?_ o56 [2,4,6,77,109]
   exact finC (S':=V) ⟨rfl,rfl⟩ (hw:=by refine B0 ?_;simp [GP]) (hZ:=((bS.set s12).set h60).set hi2)
 ·repeat' first | refine gf hn3 ?_ [] [2,4,6,77,109] | refine AE (k4 _) ?_ | refine callP (k4 _) ?_ | refine moR (k4 _) ?_ | refine moP (k4 _) ?_ | refine gf hn3 ?_ o56 [2,4,6,77,109] | apply gy<;>intro hh
  refine Ab (k5 _) (fun d S1 hr => ?_) (fun d S1 hr=>by obtain ⟨_,_,h,_⟩:=hr;cases h)
  obtain ⟨E,st,e1,hW,hS1,hN1⟩:=hr
  cases e1
  have o2:S1 i2=some (.cells [.nils, .nils,dI 0,dI 0, .str [], .nils]):=hS1 _ _ (w7 ..)
  have r2 : ¬ Bl st i2:=hN1 _ _ (w7 ..)
  have hS01:Sub V S1:=((Sub.refl _).set hi2).trans hS1
  have hN01 : ∀ j x,V j=some x -> ¬ Bl st j:=fun j x hj=>hN1 _ _ (by rw [w8 _ _ (A1 hj hi2)];exact hj)
  simp only [putD]
  cases st with
  | none =>
   obtain ⟨rfl,hnil⟩:=hW
   have hcl:p.classes=[]:=by simpa using hnil
   try refine gz ?_ o56 [2,4,6,77,109]
   refine newV (fun i6 hi6 => ?_)
   have n26:i2 ≠ i6:=A1 o2 hi6
   have hi61:=hS1.none hi6
   try refine gz ?_ o56 [2,4,6,77,109]
   refine Bz [1,2,3,4,5,6,9,10,11,12,42,56,57,58,59,60,61,62,63,64,65,66,67,68,69,70,71,72,73,74,75,76,77,78,79,80,81,82,83,84,85,86,87,88,89,90,91,92,93,94,95,96,97,98,99,100,101,102,103,104,105,106,107,108,109,110,111,112,113,114,115] (fun (k:Nat)=>k=0) (fun k=>[(43,dI k)]) (fun _=>S1.set i6 (.cells [.slice [] .clip, .nils,dI 0,dI 0, .str [], .nils])) (fun _=>0) (0) (by rfl) (fun k hI => ?_)
   subst hI
   try refine gz ?_ o56 [2,4,6,77,109]
   refine dwp_wk (Cx (az:=[]) (bs:=[.nils,dI 0,dI 0, .str [], .nils]) (d':=sl ((spCs p).map An)) (w7 ..) (by unfold spCs;rw [hcl];exact Az _ _)) ?_
   refine dwp_wk (Aj (by rw [hcsp];simp) ?_) (hK i6 hi61)
   rw [w9]
   exact Sub.both hS1
  | some x =>
   obtain ⟨r,cap,rest⟩:=x
   obtain ⟨rfl,hrow⟩:=hW
   have hr2:i2 ≠ r:=r2
   try refine gz ?_ o56 [2,4,6,77,109]
   refine newV (fun i6 hi6 => ?_)
   have n26:i2 ≠ i6:=A1 o2 hi6
   have hi61:=hS1.none hi6
   have hri:r ≠ i6:=A1 hrow hi6
   have hr0:V r=none:=by
    cases h:V r with
    | none=>rfl
    | some x=>exact absurd rfl (hN01 r x h)
   try refine gz ?_ o56 [2,4,6,77,109]
   refine AQ [1,2,3,4,5,6,9,10,11,12,42,56,57,58,59,60,61,62,63,64,65,66,67,68,69,70,71,72,73,74,75,76,77,78,79,80,81,82,83,84,85,86,87,88,89,90,91,92,93,94,95,96,97,98,99,100,101,102,103,104,105,106,107,108,109,110,111,112,113,114,115] (fun (k:Nat) (S3:Sig)=>k<=p.classes.length/\S3 r=some (.cells ((((spCs p).take k++(p.classes.map (spC (spA p) (spS p))).drop k).map An).flatten++rest))/\S3 i6=some (.cells [.sref r 0 p.classes.length p.classes.length, .nils,dI 0,dI 0, .str [], .nils])/\S3 i2=some (.cells [.nils, .nils,dI 0,dI 0, .str [], .nils])/\Sub V S3) (fun k _=>[(43,dI k)]) (fun _ S3=>S3) (fun k _=>p.classes.length-k) (0) (S1.set i6 (.cells [.sref r 0 p.classes.length p.classes.length, .nils,dI 0,dI 0, .str [], .nils])) (by exact ⟨by omega,by rw [w8 _ _ hri,hrow];simp,by simp,by rw [w8 _ _ n26];exact o2,hS01.set (hS01.none hi6)⟩) (fun k S3 hI => ?_)
   obtain ⟨hk,q1,q6,q2,qS⟩:=hI
   by_cases hkl:k < p.classes.length
   ·have hkn:k < (CF p.classes.length).length:=by rw [Cl];exact hkl
    have hlc:(spCs p).length=p.classes.length:=by unfold spCs;simp [Cl]
    have hspk:(spCs p)[k]'(by omega)={ spC (spA p) (spS p) p.classes[k] with name:=(CF p.classes.length)[k] }:=by simp [spCs]
    have hX:(((spCs p).take k++(p.classes.map (spC (spA p) (spS p))).drop k).map An).flatten++rest=(((spCs p).take k).map An).flatten ++ .str (spC (spA p) (spS p) p.classes[k]).name::((An (spC (spA p) (spS p) p.classes[k])).tail++((((p.classes.map (spC (spA p) (spS p))).drop (k+1)).map An).flatten++rest)):=by
     rw [List.drop_eq_getElem_cons (by simpa using hkl)];simp
    have hA:((((spCs p).take k).map An).flatten).length=k*4:=by
     rw [List.length_flatten,List.map_map]
     have:(List.map (List.length ∘ An) ((spCs p).take k))=List.replicate k 4:=by
      rw [List.eq_replicate_iff];exact ⟨by simp;omega,fun b hb=>by obtain ⟨x,_,rfl⟩:=List.mem_map.1 hb;rfl⟩
     rw [this];simp
    have hY:(((spCs p).take (k+1)++(p.classes.map (spC (spA p) (spS p))).drop (k+1)).map An).flatten++rest=(((spCs p).take k).map An).flatten ++ .str (CF p.classes.length)[k]::((An (spC (spA p) (spS p) p.classes[k])).tail++((((p.classes.map (spC (spA p) (spS p))).drop (k+1)).map An).flatten++rest)):=by
     rw [<- List.take_append_getElem (by omega),hspk];simp
    rw [hX] at q1
    generalize (((spCs p).take k).map An).flatten=A at *
    generalize (An (spC (spA p) (spS p) p.classes[k])).tail++((((p.classes.map (spC (spA p) (spS p))).drop (k+1)).map An).flatten++rest)=R at *
    have t1:List.take (k*4) (A ++ .str (spC (spA p) (spS p) p.classes[k]).name::R)=A:=by rw [<- hA];exact List.take_left' rfl
    have t2:List.drop (k*4+1) (A ++ .str (spC (spA p) (spS p) p.classes[k]).name::R)=R:=by rw [<- hA,List.drop_length_add_append];rfl
    try refine gf (gi q6 (gi q1 (gi t1 t2))) ?_ o56 [2,4,6,77,109]
    exact ⟨k+1,S3.set r (.cells (A ++ .str (CF p.classes.length)[k]::R)),⟨by omega,by rw [w7,hY],by rw [w8 _ _ (Ne.symm hri)];exact q6,by rw [w8 _ _ hr2];exact q2,qS.set hr0⟩,td1,wkR⟩
   ·have hke:k=p.classes.length:=by omega
    subst hke
    have hlc:(spCs p).length=p.classes.length:=by unfold spCs;simp [Cl]
    have hfin:(spCs p).take p.classes.length++(p.classes.map (spC (spA p) (spS p))).drop p.classes.length=spCs p:=by
     rw [List.take_of_length_le (by omega),List.drop_of_length_le (by simp),List.append_nil]
    rw [hfin] at q1
    have hl2:p.classes.length=((spCs p).map An).length:=by rw [List.length_map,hlc]
    rw [hl2] at q6
    refine dwp_wk (Mi (az:=[]) (bs:=[.nils,dI 0,dI 0, .str [], .nils]) (sz:=4) q1 q6 (Ne.symm hri) (Nat.le_refl _) (fun e he=>by obtain ⟨x,_,rfl⟩:=List.mem_map.1 he;rfl)) ?_
    try refine gz ?_ o56 [2,4,6,77,109]
    refine dwp_wk (Aj (by rw [hcsp];simp) ?_) (hK i6 hi61)
    refine Sub.both fun j x hj => ?_
    have hjr:j ≠ r:=fun e=>by rw [e,w8 _ _ (Ne.symm hr2),hr0] at hj;cases hj
    simp only [Sig.del,hjr,if_false]
    by_cases hj2:j=i2
    ·subst hj2;rw [w7] at hj;rw [<- hj];exact q2
    ·rw [w8 _ _ hj2] at hj;exact qS _ _ hj
@[reducible,instance] def a56:=fun p V=>ah1 (@Pp p V)
def cntB (p:BProg):Nat->Int->Nat
 | 0,_=>1
 | k+1,node=>1+wtL (cntB p k) (Au p node).kids
def negS (s:List Int):Nat:=s.countP (· < 0)
theorem P8 : ∀ (s:List Int) (n:Nat) (v:Int),n < s.length->s.getD n 0 < 0->0<=v->negS (s.set n v)+1=negS s
 | [],n,v,h,_,_=>by simp at h
 | x::r,0,v,_,h,hv=>by
  have hx:x < 0:=h
  simp only [List.set_cons_zero,negS,List.countP_cons,hx,decide_true,if_true]
  rw [if_neg (by simpa using hv)]
 | x::r,n+1,v,hl,h,hv=>by
  have:=P8 r n v (by simpa using hl) (by simpa using h) hv
  simp only [negS] at this
  simp only [List.set_cons_succ,negS,List.countP_cons]
  omega
theorem IA {p:BProg} {k:Nat} {f:Int->Int->List Int->Bool × List Int} {x:BNode} {size:Int}
  (hf : ∀ c z s s',f c z s=(true,s')->s.length=p.nodes.length->0<=z->okE p k c z.toNat/\s'.length=s.length/\cntB p k c+negS s'<=negS s) (hz:0<=size) :
  ∀ (l:List Int) (j:Nat) (s s':List Int),EE f x size j l s=(true,s')->s.length=p.nodes.length ->
   (∀ (i:Nat) (h:i < l.length),okE p k l[i] (if x.op=9/\j+i=1 then size.toNat+1 else size.toNat))/\s'.length=s.length/\wtL (cntB p k) l+negS s'<=negS s
 | [],j,s,s',h,hs=>by
  rw [EE] at h;cases h
  exact ⟨fun i h=>by simp at h,rfl,by rw [wtL];omega⟩
 | c::r,j,s,s',h,hs=>by
  rw [EE] at h
  cases hc:f c (if x.op=9/\j=1 then size+1 else size) s with
  | mk b s1 =>
   rw [hc] at h
   cases b with
   | false=>simp at h
   | true =>
    obtain ⟨h1,h2,h3⟩:=hf _ _ _ _ hc hs (by split<;>omega)
    obtain ⟨h4,h5,h6⟩:=IA hf hz r (j+1) s1 s' h (by omega)
    refine ⟨fun i hi => ?_,by omega,by rw [wtL];omega⟩
    cases i with
    | zero =>
     simp only [List.getElem_cons_zero,Nat.add_zero]
     rw [show (if x.op=9/\j=1 then size.toNat+1 else size.toNat)=(if x.op=9/\j=1 then size+1 else size).toNat by split<;>omega]
     exact h1
    | succ i =>
     have:=h4 i (by simpa using hi)
     rw [show j+1+i=j+(i+1) by omega] at this
     exact this
theorem I9 (p:BProg) (inM:Bool) : ∀ (k:Nat) (node size:Int) (s s':List Int),GH p inM k node size s=(true,s')->s.length=p.nodes.length->0<=size->okE p k node size.toNat/\s'.length=s.length/\cntB p k node+negS s'<=negS s
 | 0,_,_,_,_,h,_,_=>by simp [GH] at h
 | k+1,node,size,s,s',h,hs,hz=>by
  rw [GH] at h
  split at h
  ·simp at h
  ·rename_i h1
   split at h
   ·simp at h
   ·rename_i h2
    obtain ⟨h4,h5,h6⟩:=IA (I9 p inM k) hz (Au p node).kids 0 _ s' h (by simpa using hs)
    have hn:node.toNat < s.length:=by omega
    have h7:=P8 s node.toNat size hn (by omega) hz
    refine ⟨?_,by rw [h5,List.length_set],by rw [cntB];omega⟩
    rw [okE]
    refine ⟨⟨by omega,by omega⟩, ?_,fun j hj => ?_⟩
    ·rw [show ((size.toNat:Nat):Int)=size by omega]
     cases hb:Ca p (Au p node) size
     ·exact absurd (.inr (.inl hb)) h2
     ·rfl
    ·have:=h4 j hj
     rw [Nat.zero_add] at this
     exact this
theorem Kk {p:BProg} {k:Nat} {f:Int->List Str->Nat->FExp × Nat} {op:Int} {txt:Str} {env:List Str} (hf : ∀ c e t,(f c e t).2<=t+cntB p k c) : ∀ (l:List Int) (j t:Nat),(D4 f op txt env j l t).2<=t+wtL (cntB p k) l
 | [],_,t=>by rw [D4,wtL];simp
 | c::r,j,t=>by
  rw [D4,wtL]
  have h1:=hf c (if op=9/\j=1 then env++[txt] else env) t
  have h2:=Kk (op:=op) (txt:=txt) (env:=env) hf r (j+1) (f c (if op=9/\j=1 then env++[txt] else env) t).2
  simp only
  omega
theorem Oa (p:BProg) (a b g P:List Str) : ∀ (k:Nat) (node:Int) (env:List Str) (t:Nat),(spE p a b g P k node env t).2<=t+cntB p k node
 | 0,_,_,t=>by rw [spE,cntB];simp
 | k+1,node,env,t=>by
  rw [spE,cntB]
  have:=Kk (op:=(Au p node).op) (txt:=E3 a b g P (Au p node) env t) (env:=env) (Oa p a b g P k) (Au p node).kids 0 (if (Au p node).op=9 then t+1 else t)
  have h2:(if (Au p node).op=9 then t+1 else t)<=t+1:=by split<;>omega
  generalize (if (Au p node).op=9 then t+1 else t)=t0 at *
  simp only
  omega
theorem Jb (p:BProg) : ∀ (l:List BMeth) (s s':List Int),F3 p l s=some s'->s.length=p.nodes.length->(∀ g ∈ p.gens,1<=g) ->
  (∀ m ∈ l,Fk p m=true/\okE p 12 m.node (CQ p m)/\cntB p 12 m.node<=p.nodes.length)/\s'.length=s.length/\negS s'<=negS s
 | [],s,s',h,hs,_=>by rw [F3] at h;cases h;exact ⟨by simp,rfl,Nat.le_refl _⟩
 | m::r,s,s',h,hs,hg=>by
  rw [F3] at h
  split at h
  ·rename_i hm
   cases hw:GH p (decide (m.kind=1) || decide (m.kind=4)) 12 m.node (p.gens.getD m.gen.toNat 0) s with
   | mk b s1 =>
    rw [hw] at h
    cases b with
    | false=>simp [optW] at h
    | true =>
     simp only [optW] at h
     have hgen:0<=m.gen/\m.gen < p.gens.length:=by
      unfold Fk at hm
      simp only [Bool.and_eq_true,decide_eq_true_eq] at hm
      exact hm.1.1.2
     have h0:0<=p.gens.getD m.gen.toNat 0:=by
      have hl:m.gen.toNat < p.gens.length:=by omega
      rw [List.getD_eq_getElem?_getD,List.getElem?_eq_getElem hl]
      have:=hg _ (List.getElem_mem hl)
      simp only [Option.getD_some];omega
     obtain ⟨h1,h2,h3⟩:=I9 p _ 12 _ _ _ _ hw hs h0
     obtain ⟨h4,h5,h6⟩:=Jb p r s1 s' h (by omega) hg
     have hns:negS s<=s.length:=List.countP_le_length
     refine ⟨fun x hx => ?_,by omega,by omega⟩
     rcases List.mem_cons.1 hx with rfl | hx
     ·exact ⟨hm,h1,by omega⟩
     ·exact h4 x hx
  ·cases h
theorem MA : ∀ (l:List Int) (n m:Int),GV n l=some m->m=n+l.length /\ ∀ x ∈ l,n<=x/\x < m
 | [],n,m,h=>by rw [GV] at h;cases h;simp
 | s::r,n,m,h=>by
  rw [GV] at h
  split at h
  ·rename_i hs
   obtain ⟨h1,h2⟩:=MA r _ _ h
   refine ⟨by rw [h1,List.length_cons];omega,fun x hx => ?_⟩
   rcases List.mem_cons.1 hx with rfl | hx
   ·omega
   ·have:=h2 x hx;omega
  ·cases h
theorem La : ∀ (cs:List BClass) (n m:Int),CP n cs=some m->m=n+wtL (fun c:BClass=>c.slots.length) cs/\(∀ c ∈ cs, ∀ x ∈ c.slots,n<=x/\x < m)/\wtL (fun c:BClass=>c.slots.length) cs<=4*cs.length
 | [],n,m,h=>by rw [CP] at h;cases h;simp [wtL]
 | c::r,n,m,h=>by
  rw [CP] at h
  split at h
  ·cases h
  ·rename_i h4
   split at h
   ·cases h
   ·rename_i m1 hm
    obtain ⟨h1,h2⟩:=MA _ _ _ hm
    obtain ⟨h5,h6,h7⟩:=La r _ _ h
    refine ⟨by rw [wtL];omega,fun x hx y hy => ?_,by rw [wtL,List.length_cons];omega⟩
    rcases List.mem_cons.1 hx with rfl | hx
    ·have:=h2 y hy;omega
    ·have:=h6 x hx y hy;omega
theorem IX : ∀ (cs:List BClass) (i:Nat),(ownersF cs i).length=wtL (fun c:BClass=>c.slots.length) cs
 | [],_=>by rw [ownersF,wtL];rfl
 | c::r,i=>by rw [ownersF,wtL,List.length_append,List.length_replicate,IX r]
theorem Ii (cs:List BClass) (Q:Int->Prop) (hQ : ∀ c ∈ cs, ∀ x ∈ c.slots,Q x) : ∀ (n:Nat) (up out:List Int),(∀ x ∈ out,Q x) -> ∀ x ∈ hasG cs n up out,Q x
 | 0,_,out,ho,x,hx=>by rw [hasG] at hx;exact ho x hx
 | n+1,up,out,ho,x,hx=>by
  rw [hasG] at hx
  split at hx
  ·rename_i c hc
   split at hx
   ·refine Ii cs Q hQ n _ _ (fun y hy => ?_) x hx
    rcases List.mem_append.1 hy with hy | hy
    ·exact ho y hy
    ·exact hQ c (List.mem_of_getElem? hc) y hy
   ·exact Ii cs Q hQ n _ _ ho x hx
  ·exact Ii cs Q hQ n _ _ ho x hx
theorem MW (has:List Int) : ∀ (l:List Init) (seen:List Int),DV has seen l=true -> ∀ x ∈ l,x.slot ∈ has
 | [],_,_,x,hx=>by simp at hx
 | y::r,seen,h,x,hx=>by
  rw [DV] at h
  simp only [Bool.and_eq_true,decide_eq_true_eq] at h
  rcases List.mem_cons.1 hx with rfl | hx
  ·exact h.1.1.1
  ·exact MW has r _ h.2 x hx
theorem HU (p:BProg) : ∀ (l:List BClass) (i:Nat),Bt p i l=true -> ∀ c ∈ l, ∃ j:Int,DV (hasP p j) [] c.inits=true
 | [],_,_,c,hc=>by simp at hc
 | y::r,i,h,c,hc=>by
  rw [Bt] at h
  simp only [Bool.and_eq_true,decide_eq_true_eq] at h
  rcases List.mem_cons.1 hc with rfl | hc
  ·exact ⟨_,h.1.2⟩
  ·exact HU p r _ h.2 c hc
structure ClassesOK (p:BProg):Prop where
 len:p.classes.length<=10
 slots:0<=p.slots/\p.slots<=40
 own:((DQ p).owner.length:Int)=p.slots
 cls : ∀ c ∈ p.classes,ClsIx (3+p.classes.length) p.slots.toNat c
theorem Rb {p:BProg} (h:AK p=true):ClassesOK p:=by
 unfold AK at h
 simp only [Bool.and_eq_true,decide_eq_true_eq] at h
 obtain ⟨h10,h⟩:=h
 split at h
 ·cases h
 ·rename_i n hn
  simp only [Bool.and_eq_true,decide_eq_true_eq] at h
  obtain ⟨⟨hns,hg⟩,hi⟩:=h
  obtain ⟨k1,k2,k3⟩:=La _ _ _ hn
  refine ⟨h10,by omega,by show ((ownersF p.classes 0).length:Int)=p.slots;rw [IX];omega,fun c hc=>⟨fun x hx => ?_,fun x hx => ?_,fun x hx => ?_⟩⟩
  ·obtain ⟨k,hk,rfl⟩:=List.getElem_of_mem hc
   have:=(CE hg (k+3)).2 x (by
    unfold parentsF
    rw [if_neg (by omega)]
    rw [show (((k+3:Nat):Int)-3).toNat=k by omega,List.getElem?_eq_getElem (by simpa using hk)]
    simpa using hx)
   exact ⟨by omega,by omega⟩
  ·have:=k2 c hc x hx
   exact ⟨by omega,by omega⟩
  ·obtain ⟨j,hj⟩:=HU p _ _ hi c hc
   have h1:=MW _ _ _ hj x hx
   unfold hasP at h1
   unfold Fb at h1
   have h2:=Ii p.classes (fun x=>0<=x/\x < n) k2 _ _ [] (by simp) _ (List.mem_mergeSort.1 h1)
   exact ⟨by omega,by omega⟩
theorem mx_le (x y:Int):x<=mx x y/\y<=mx x y:=by unfold mx;split<;>omega
theorem Kj : ∀ (l:List Fact) (n:Int),n<=Fact.speakss l n /\ ∀ x ∈ l,x.speaks<=Fact.speakss l n
 | [],n=>by rw [Fact.speakss];simp
 | f::l,n=>by
  rw [Fact.speakss]
  obtain ⟨h1,h2⟩:=Kj l (mx n f.speaks)
  obtain ⟨h3,h4⟩:=mx_le n f.speaks
  refine ⟨by omega,fun x hx => ?_⟩
  rcases List.mem_cons.1 hx with rfl | hx
  ·omega
  ·exact h2 x hx
theorem PY {α S:Type} (f:α->S->Bool × S) : ∀ (l:List α) (s s':S),allS f l s=(true,s') -> ∀ x ∈ l, ∃ t t',f x t=(true,t')
 | [],_,_,_,x,hx=>by simp at hx
 | y::r,s,s',h,x,hx=>by
  rw [allS] at h
  cases hy:f y s with
  | mk b s1 =>
   rw [hy] at h
   cases b with
   | false=>simp at h
   | true =>
    rcases List.mem_cons.1 hx with rfl | hx
    ·exact ⟨_,_,hy⟩
    ·exact PY f r _ _ h x hx
theorem SG {A S P:Nat} : ∀ (l:List Fact),(∀ x ∈ l,FIx A S P x)->FIxs A S P l
 | [],_=>by rw [FIxs];trivial
 | x::r,h=>by rw [FIxs];exact ⟨h x (by simp),SG r fun y hy=>h y (by simp [hy])⟩
theorem P7 (w:World) (P:Nat) : ∀ (d:Nat) (f:Fact) (s s':Int),Ei w d f s=(true,s')->f.speaks<=P->FIx (3+w.parents.length) w.owner.length P f
 | 0,_,_,_,h,_=>by simp [Ei] at h
 | d+1,f,s,s',h,hP=>by
  have hse:=Fact.speaks_eq f
  rw [hse] at hP
  obtain ⟨g1,g2⟩:=Kj f.kids (if DG f.op then IntKind.i64.wrap (f.arg+1) else 0)
  rw [Ei] at h
  split at h
  ·simp at h
  ·rename_i hop
   split at h
   ·rename_i hl
    rw [if_pos hl] at g1 g2 hP
    simp only [Prod.mk.injEq] at h
    have hlf:=h.1
    unfold Ji at hlf
    simp only [Bool.and_eq_true,decide_eq_true_eq] at hlf
    obtain ⟨⟨⟨a1,a2⟩,hpb⟩,hr⟩:=hlf
    unfold Og at hpb
    simp only [Bool.and_eq_true,List.all_eq_true,decide_eq_true_eq] at hpb
    have hk:f.kids=[]:=by
     have hk0:f.kids.length=BQ f.op:=Classical.byContradiction fun e=>hop (.inr (.inr (.inr e)))
     have:BQ f.op=0:=by
      unfold DG at hl
      simp only [Bool.or_eq_true,decide_eq_true_eq] at hl
      unfold BQ
      rw [if_neg (by omega),if_neg (by omega)]
     exact List.eq_nil_of_length_eq_zero (by omega)
    have hw:IntKind.i64.wrap (f.arg+1)=f.arg+1:=Ap (by omega) (by omega)
    rw [hw] at g1 hP
    have hap:f.arg < (P:Int):=by omega
    have hr2:f.op=2->0<=f.cls/\f.cls < 3+w.parents.length:=fun ho=>by
     rw [if_pos ho] at hr
     simp only [Bool.and_eq_true,decide_eq_true_eq] at hr
     exact hr.2
    clear hr
    cases f with
    | mk o a pth c n k =>
     simp only [Fact.kids,Fact.op,Fact.arg,Fact.path,Fact.cls,Fact.n] at *
     rw [FIx]
     refine ⟨fun x hx => ?_,fun ho => ?_,fun _=>⟨a1,hap⟩,by rw [hk,FIxs];trivial⟩
     ·have:=hpb.2 x hx;exact ⟨this.1,this.2⟩
     ·have:=hr2 ho;exact ⟨this.1,by omega⟩
   ·rename_i hl
    split at h
    ·rename_i h0
     obtain ⟨b1,b2,b3,b4⟩:=h0
     have hkids : ∀ x ∈ f.kids,FIx (3+w.parents.length) w.owner.length P x:=fun x hx=>by
      obtain ⟨t,t',ht⟩:=PY _ _ _ _ h x hx
      exact P7 w P d x t t' ht (by have:=g2 x hx;omega)
     cases f with
     | mk o a pth c n k =>
      simp only [Fact.kids,Fact.op,Fact.arg,Fact.path,Fact.cls,Fact.n] at *
      have hp0:pth=[]:=List.eq_nil_of_length_eq_zero b2
      unfold DG at hl
      simp only [Bool.or_eq_true,decide_eq_true_eq] at hl
      rw [FIx]
      exact ⟨fun x hx=>by rw [hp0] at hx;simp at hx,fun ho=>absurd (.inl (.inl ho)) hl,fun ho=>absurd (by omega) hl,SG _ hkids⟩
    ·simp at h
theorem sp_ok {p:BProg} (hwt:p.wt<=100000000) (h:okP p=true):SpOK p:=by
 unfold okP Do at h
 split at h
 ·rename_i hc
  simp only [Bool.and_eq_true,decide_eq_true_eq,List.all_eq_true] at hc
  obtain ⟨⟨hcl,⟨⟨h8,h16⟩,hn1⟩,h120⟩,hg⟩:=hc
  have hC:=Rb hcl
  cases hm:F3 p p.methods (List.replicate p.nodes.length (-1)) with
  | none=>rw [hm] at h;simp at h
  | some s =>
   rw [hm] at h
   obtain ⟨k1,k2,k3⟩:=Jb p p.methods _ s hm (by simp) (fun g hx=>(hg g hx).1)
   rw [List.length_replicate] at k2
   cases hw:GH p false 12 p.main 0 s with
   | mk b s2 =>
    simp only [hw] at h
    cases b with
    | false=>simp [optW] at h
    | true =>
     obtain ⟨m1,m2,m3⟩:=I9 p false 12 _ _ _ _ hw k2 (Int.le_refl _)
     have hns:negS s<=s.length:=List.countP_le_length
     have hmain:=Oa p (spA p) (spS p) (spG p) (spL p) 12 p.main [] 0
     refine ⟨hwt,⟨hC.slots.1,by have:=hC.slots.2;omega⟩,hC.cls,fun m hmm => ?_,m1,by omega⟩
     obtain ⟨q1,q2,q3⟩:=k1 m hmm
     unfold Fk at q1
     simp only [Bool.and_eq_true,decide_eq_true_eq] at q1
     obtain ⟨⟨⟨_,hgen⟩,hform⟩,hsp⟩:=q1
     have hgb:1<=p.gens.getD m.gen.toNat 0/\p.gens.getD m.gen.toNat 0<=3:=by
      have hl:m.gen.toNat < p.gens.length:=by omega
      rw [List.getD_eq_getElem?_getD,List.getElem?_eq_getElem hl]
      exact hg _ (List.getElem_mem hl)
     have hpar:((CQ p m:Nat):Int)=p.gens.getD m.gen.toNat 0:=by unfold CQ;omega
     have hbody:=Oa p (spA p) (spS p) (spG p) (spL p) 12 m.node ((spL p).take (CQ p m)) (CQ p m)
     refine ⟨⟨hgen.1,hgen.2⟩,⟨by omega,by omega⟩, ?_,q2,by omega⟩
     unfold Fu at hform
     cases hf:Ei (DQ p) 12 m.fact 24 with
     | mk b t =>
      rw [hf] at hform
      cases b with
      | false=>simp at hform
      | true =>
       have:=P7 (DQ p) (CQ p m) 12 m.fact 24 t hf (by omega)
       have ho:(DQ p).owner.length=p.slots.toNat:=by have:=hC.own;have:=hC.slots.1;omega
       rw [ho] at this
       have hpl:(DQ p).parents.length=p.classes.length:=by show (p.classes.map (·.parents)).length=_;rw [List.length_map]
       rw [hpl] at this
       exact this
 ·simp at h
def Ba (l:List Str):Prop := ∀ s ∈ l,s.length<=8
theorem Gy {f:Nat->Option Str} : ∀ (k j:Nat) (w:Str),DY f k j=some w -> ∃ i,j<=i/\i < j+k/\f i=some w
 | 0,_,_,h=>by simp [DY] at h
 | k+1,j,w,h=>by
  rw [DJ] at h
  split at h
  ·rename_i x hx;cases h;exact ⟨j,by omega,by omega,hx⟩
  ·obtain ⟨i,h1,h2,h3⟩:=Gy k (j+1) w h
   exact ⟨i,by omega,by omega,h3⟩
theorem N2 (tk:List Str) : ∀ (n:Nat) (s w:Str),Dp tk n s=some w->w.length=s.length+n
 | 0,s,w,h=>by
  rw [Dp] at h
  split at h
  ·cases h
  ·cases h;rfl
 | n+1,s,w,h=>by
  rw [Dp] at h
  obtain ⟨i,_,_,h1⟩:=Gy _ _ _ h
  have:=N2 tk n _ _ h1
  simp at this;omega
theorem Qk (tk:List Str):(Ep tk).length<=8:=by
 unfold Ep
 cases h:Ju tk with
 | none=>simp
 | some w =>
  unfold Ju at h
  obtain ⟨i,h1,h2,h3⟩:=Gy _ _ _ h
  have:=N2 tk i _ _ h3
  simp at this ⊢; omega
theorem HW : ∀ (n:Nat) (l:List Str),Ba l->Ba (Hb n l)
 | 0,l,h=>h
 | n+1,l,h=>by
  rw [Hb]
  refine HW n _ fun s hs => ?_
  rcases List.mem_append.1 hs with hs | hs
  ·exact h s hs
  ·rw [List.mem_singleton.1 hs];exact Qk l
theorem D7 (n:Nat):Ba (CF n):=HW n [] fun s hs=>by simp at hs
theorem Ry (p:BProg):Ba (spA p):=fun s hs=>by
 unfold spA at hs
 rcases List.mem_append.1 hs with hs | hs
 ·simp at hs
  rcases hs with rfl | rfl | rfl<;>decide
 ·exact D7 _ s hs
theorem E9 {l:List Str} (h:Ba l) (n:Int):(ixS l n).length<=8:=by
 unfold ixS
 cases hn:l[n.toNat]? with
 | none=>simp
 | some s=>exact h s (List.mem_of_getElem? hn)
theorem F8 : ∀ {l:List Str},Ba l->wtS l<=9*l.length
 | [],_=>by simp [wtS,wtL]
 | x::l,h=>by
  have h1:=h x (by simp)
  have h2:=F8 (l:=l) fun s hs=>h s (by simp [hs])
  unfold wtS at h2 ⊢
  rw [wtL,List.length_cons];omega
theorem EK {l:List Str} (h:Ba l) (k:List Int):Ba (k.map (ixS l)):=fun s hs=>by
 obtain ⟨x,_,rfl⟩:=List.mem_map.1 hs
 exact E9 h x
theorem spC_wt {a b:List Str} (ha:Ba a) (hb:Ba b) (c:BClass) (n:Str) (hn:n.length<=8):FClass.wt { spC a b c with name:=n }<=9*c.wt:=by
 have h1:=F8 (EK ha c.parents)
 have h2:=F8 (EK hb c.slots)
 have h3 : ∀ l:List Init,wtL FInit.wt (l.map fun x=>⟨ixS b x.slot,x.n⟩)<=9*l.length:=fun l=>by
  induction l with
  | nil=>simp [wtL]
  | cons x l ih =>
   have:=E9 hb x.slot
   simp only [List.map_cons,wtL,List.length_cons,FInit.wt];omega
 have h4:=h3 c.inits
 rw [List.length_map] at h1 h2
 show 1+n.length+wtS (c.parents.map (ixS a))+wtS (c.slots.map (ixS b))+wtL FInit.wt (c.inits.map fun x=>⟨ixS b x.slot,x.n⟩)<=9*(1+c.parents.length+c.slots.length+c.inits.length)
 omega
mutual
theorem Wc {a b P:List Str} (ha:Ba a) (hb:Ba b) (hP:Ba P) : ∀ f:Fact,(spF a b P f).wt<=17*f.wt
 | .mk o g p c n k=>by
  have h1:=F8 (EK hb p)
  rw [List.length_map] at h1
  have h2:=Rw ha hb hP k
  have h3:(if o=2\/o=3\/o=4 then ixS P g else ([]:Str)).length<=8:=by split;exact E9 hP g;simp
  have h4:(if o=2 then ixS a c else ([]:Str)).length<=8:=by split;exact E9 ha c;simp
  rw [spF,FFact.wt,Fact.wt]
  omega
theorem Rw {a b P:List Str} (ha:Ba a) (hb:Ba b) (hP:Ba P) : ∀ l:List Fact,FFact.wts (spFs a b P l)<=17*Fact.wts l
 | []=>by rw [spFs,FFact.wts,Fact.wts];omega
 | x::r=>by
  have h1:=Wc ha hb hP x
  have h2:=Rw ha hb hP r
  rw [spFs,FFact.wts,Fact.wts];omega
end
theorem Rv {a b g P env:List Str} (ha:Ba a) (hb:Ba b) (hg:Ba g) (hP:Ba P) (he:Ba env) (x:BNode) (t:Nat):(E3 a b g P x env t).length<=8:=by
 unfold E3
 repeat' split
 ·exact E9 he _
 ·exact E9 hb _
 ·exact E9 hg _
 ·exact E9 ha _
 ·exact E9 hP _
 ·simp
theorem Mt {p:BProg} {k:Nat} {f:Int->List Str->Nat->FExp × Nat} {op:Int} {txt:Str} {env:List Str} (hf : ∀ c e t,Ba e->(f c e t).1.wt<=9*cntB p k c) (he:Ba env) (ht:txt.length<=8) : ∀ (l:List Int) (j t:Nat),FExp.wts (D4 f op txt env j l t).1<=9*wtL (cntB p k) l
 | [],_,_=>by rw [D4,wtL,FExp.wts];omega
 | c::r,j,t=>by
  have hs:Ba (if op=9/\j=1 then env++[txt] else env):=by
   split
   ·intro s hs
    rcases List.mem_append.1 hs with hs | hs
    ·exact he s hs
    ·rw [List.mem_singleton.1 hs];exact ht
   ·exact he
  have h1:=hf c _ t hs
  have h2:=Mt (op:=op) hf he ht r (j+1) (f c (if op=9/\j=1 then env++[txt] else env) t).2
  rw [D4,wtL,FExp.wts]
  omega
theorem Rx (p:BProg) {a b g P:List Str} (ha:Ba a) (hb:Ba b) (hg:Ba g) (hP:Ba P) : ∀ (k:Nat) (node:Int) (env:List Str) (t:Nat),Ba env->(spE p a b g P k node env t).1.wt<=9*cntB p k node
 | 0,_,_,_,_=>by simp [spE,cntB,FExp.wt,FExp.wts]
 | k+1,node,env,t,he=>by
  have ht:=Rv ha hb hg hP he (Au p node) t
  have:=Mt (op:=(Au p node).op) (fun c e t hs=>Rx p ha hb hg hP k c e t hs) he ht (Au p node).kids 0 (if (Au p node).op=9 then t+1 else t)
  rw [spE,cntB,FExp.wt]
  omega
theorem P6 (w:World) : ∀ (d:Nat) (f:Fact) (s s':Int),Ei w d f s=(true,s')->0<=s/\s<=1000->0<=s'/\(f.wt:Int)<=3*(s-s')
 | 0,_,_,_,h,_=>by simp [Ei] at h
 | d+1,f,s,s',h,hs=>by
  have hw:IntKind.i64.wrap (s-1)=s-1:=Ap (by omega) (by omega)
  rw [Ei,hw] at h
  split at h
  ·simp at h
  ·rename_i hop
   have hkl:f.kids.length=BQ f.op:=Classical.byContradiction fun e=>hop (.inr (.inr (.inr e)))
   have hs1:0<=s-1:=by omega
   have hfe:f.wt=1+f.path.length+Fact.wts f.kids:=by cases f;rw [Fact.wt];rfl
   split at h
   ·rename_i hl
    simp only [Prod.mk.injEq] at h
    obtain ⟨hlf,rfl⟩:=h
    unfold Ji at hlf
    simp only [Bool.and_eq_true,decide_eq_true_eq] at hlf
    obtain ⟨⟨_,hpb⟩,_⟩:=hlf
    unfold Og at hpb
    simp only [Bool.and_eq_true,decide_eq_true_eq] at hpb
    have hk:f.kids=[]:=by
     have:BQ f.op=0:=by
      unfold DG at hl
      simp only [Bool.or_eq_true,decide_eq_true_eq] at hl
      unfold BQ
      rw [if_neg (by omega),if_neg (by omega)]
     exact List.eq_nil_of_length_eq_zero (by omega)
    rw [hk,Fact.wts] at hfe
    exact ⟨hs1,by have:=hpb.1;omega⟩
   ·split at h
    ·rename_i h0
     have hkw : ∀ (l:List Fact) (t t':Int),allS (Ei w d) l t=(true,t')->0<=t/\t<=1000->0<=t'/\(Fact.wts l:Int)<=3*(t-t'):=fun l=>by
      induction l with
      | nil=>intro t t' h ht;rw [allS] at h;cases h;exact ⟨ht.1,by rw [Fact.wts];omega⟩
      | cons x r ih =>
       intro t t' h ht
       rw [allS] at h
       cases hy:Ei w d x t with
       | mk b t1 =>
        rw [hy] at h
        cases b with
        | false=>simp at h
        | true =>
         obtain ⟨g1,g2⟩:=P6 w d x t t1 hy ht
         obtain ⟨g3,g4⟩:=ih t1 t' h ⟨g1,by have:=x.wt_pos;omega⟩
         exact ⟨g3,by rw [Fact.wts];omega⟩
     obtain ⟨g1,g2⟩:=hkw _ _ _ h ⟨hs1,by omega⟩
     exact ⟨g1,by have:=h0.2.1;omega⟩
    ·simp at h
theorem Mh {α β:Type} {g:β->Nat} {h:α->β} {k:Nat} : ∀ l:List α,(∀ x ∈ l,g (h x)<=k)->wtL g (l.map h)<=k*l.length
 | [],_=>by simp [wtL]
 | x::r,hx=>by
  have h1:=hx x (by simp)
  have h2:=Mh (g:=g) (h:=h) (k:=k) r fun y hy=>hx y (by simp [hy])
  rw [List.map_cons,wtL,List.length_cons,Nat.mul_add];omega
theorem Wa {a b:List Str} (ha:Ba a) (hb:Ba b) : ∀ (l:List BClass) (n:List Str),Ba n->wtL FClass.wt ((l.zip n).map fun x=>{ spC a b x.1 with name:=x.2 })<=9*wtL BClass.wt l
 | [],_,_=>by simp [wtL]
 | _::_,[],_=>by simp [wtL]
 | c::r,x::n,hn=>by
  have h1:=spC_wt ha hb c x (hn x (by simp))
  have h2:=Wa ha hb r n fun s hs=>hn s (by simp [hs])
  rw [List.zip_cons_cons,List.map_cons,wtL,wtL,Nat.mul_add]
  exact Nat.add_le_add h1 h2
theorem UZ {p:BProg} (h:okP p=true):(GP p).wt<=9*p.wt+60000:=by
 have hsA:=Ry p
 have hsS:Ba (spS p):=D7 _
 have hsG:Ba (spG p):=D7 _
 have hsL:Ba (spL p):=D7 _
 unfold okP Do at h
 split at h
 ·rename_i hc
  simp only [Bool.and_eq_true,decide_eq_true_eq,List.all_eq_true] at hc
  obtain ⟨⟨hcl,⟨⟨h8,h16⟩,hn1⟩,h120⟩,hg⟩:=hc
  cases hm:F3 p p.methods (List.replicate p.nodes.length (-1)) with
  | none=>rw [hm] at h;simp at h
  | some s =>
   rw [hm] at h
   obtain ⟨k1,k2,k3⟩:=Jb p p.methods _ s hm (by simp) (fun g hx=>(hg g hx).1)
   rw [List.length_replicate] at k2
   cases hw:GH p false 12 p.main 0 s with
   | mk b s2 =>
    simp only [hw] at h
    cases b with
    | false=>simp [optW] at h
    | true =>
     obtain ⟨m1,m2,m3⟩:=I9 p false 12 _ _ _ _ hw k2 (Int.le_refl _)
     have hns:negS s<=s.length:=List.countP_le_length
     have h1:=Wa hsA hsS p.classes (CF p.classes.length) (D7 _)
     have h2:=Rx p hsA hsS hsG hsL 12 p.main [] 0 (fun s hs=>by simp at hs)
     have h3:wtL FMeth.wt (p.methods.map (spM p))<=3000*p.methods.length:=by
      refine Mh p.methods fun m hmm => ?_
      obtain ⟨q1,q2,q3⟩:=k1 m hmm
      unfold Fk at q1
      simp only [Bool.and_eq_true,decide_eq_true_eq] at q1
      obtain ⟨⟨⟨_,hgen⟩,hform⟩,hsp⟩:=q1
      have hgb:1<=p.gens.getD m.gen.toNat 0/\p.gens.getD m.gen.toNat 0<=3:=by
       have hl:m.gen.toNat < p.gens.length:=by omega
       rw [List.getD_eq_getElem?_getD,List.getElem?_eq_getElem hl]
       exact hg _ (List.getElem_mem hl)
      have hpar:CQ p m<=3:=by unfold CQ;omega
      have hst:Ba ((spL p).take (CQ p m)):=fun s hs=>hsL s (List.mem_of_mem_take hs)
      have r1:=E9 hsG m.gen
      have r2:=F8 hst
      have r3:=Wc hsA hsS hst m.fact
      have r4:=Rx p hsA hsS hsG hsL 12 m.node ((spL p).take (CQ p m)) (CQ p m) hst
      have r5:m.fact.wt<=72:=by
       unfold Fu at hform
       cases hf:Ei (DQ p) 12 m.fact 24 with
       | mk b t =>
        rw [hf] at hform
        cases b with
        | false=>simp at hform
        | true =>
         obtain ⟨u1,u2⟩:=P6 (DQ p) 12 m.fact 24 t hf (by omega)
         omega
      have r6:((spL p).take (CQ p m)).length<=3:=by rw [List.length_take];omega
      show 1+(ixS (spG p) m.gen).length+wtS ((spL p).take (CQ p m))+(spF (spA p) (spS p) ((spL p).take (CQ p m)) m.fact).wt+(spE p (spA p) (spS p) (spG p) (spL p) 12 m.node ((spL p).take (CQ p m)) (CQ p m)).1.wt<=3000
      omega
     have h4:wtL BClass.wt p.classes < p.wt:=by unfold BProg.wt;omega
     show 1+wtL FClass.wt (spCs p)+wtL FMeth.wt (p.methods.map (spM p))+(spE p (spA p) (spS p) (spG p) (spL p) 12 p.main [] 0).1.wt<=9*p.wt+60000
     unfold spCs
     omega
 ·simp at h
def Kp:FProg:=⟨[],[], .mk 0 0 [] []⟩
def I7 (p:BProg):Int:=if okP p then (if (Bw (GP p)).isSome then 0 else 3) else 2
def K9 (p:BProg):FProg:=if I7 p=0 then GP p else Kp
theorem Pv (p:BProg) (V:Sig) (hw:p.wt<=10000000):DCall prog 20 [.agg (AC p)] V (rS (.tup [.agg (B3 (K9 p)),dI (I7 p)]) V):=by
 have hzero:WkD (.tup [.agg [.nils, .nils,dI 0,dI 0, .str [], .nils],dI (I7 p)]) (.tup [.agg (B3 Kp),dI (I7 p)]):=by
  have e:B3 Kp=[sl [],sl [],dI 0,dI 0, .str [],sl []]:=by simp [Kp,FExp.op,FExp.n,FExp.text,FExp.kids]
  rw [e]
  exact Gl (show WkL _ _ from ⟨E2 (show WkL _ _ from ⟨Al _ (.inl rfl),Al _ (.inl rfl),A9 _,A9 _,A9 _,Al _ (.inl rfl),trivial⟩),A9 _,trivial⟩)
 have h13:=fun (V:Sig)=>M5 p V (by omega)
 cases hok:okP p with
 | false =>
  have hE:I7 p=2:=by unfold I7;rw [hok];rfl
  have hP:K9 p=Kp:=by unfold K9;rw [hE];rfl
  rw [hP]
  rw [hE] at hzero ⊢
  refine en func20 ntmps20 ?_
  try refine gz ?_ [] [2]
  refine newV (fun i2 hi2 => ?_)
  repeat' first | refine gf hok ?_ [] [2] | refine AE (h13 _) ?_ | refine callP (h13 _) ?_ | refine gf hok ?_ [] [2] | apply gy<;>intro hh
  refine finC (S':=V) ⟨rfl,rfl⟩ (hw := ?_)
  exact hzero
 | true =>
  have hsp:=sp_ok (p:=p) (by omega) hok
  have hsw:=UZ hok
  have h56:=fun (V:Sig)=>Pp p V hsp
  have h47:=fun (V:Sig)=>Pq (GP p) V (by omega)
  cases hs:(Bw (GP p)).isSome with
  | false =>
   have hE:I7 p=3:=by unfold I7;rw [hok,hs];rfl
   have hP:K9 p=Kp:=by unfold K9;rw [hE];rfl
   rw [hP]
   rw [hE] at hzero ⊢
   refine en func20 ntmps20 ?_
   try refine gz ?_ [] [2]
   refine newV (fun i2 hi2 => ?_)
   repeat' first | refine gf (gi hok hs) ?_ [] [2] | refine AE (h13 _) ?_ | refine callP (h13 _) ?_ | refine AE (h56 _) ?_ | refine callP (h56 _) ?_ | refine AE (h47 _) ?_ | refine callP (h47 _) ?_ | refine gf (gi hok hs) ?_ [] [2] | apply gy<;>intro hh
   refine finC (S':=V) ⟨rfl,rfl⟩ (hw := ?_)
   exact hzero
  | true =>
   have hE:I7 p=0:=by unfold I7;rw [hok,hs];rfl
   have hP:K9 p=GP p:=by unfold K9;rw [hE];rfl
   rw [hP,hE]
   refine en func20 ntmps20 ?_
   try refine gz ?_ [] [2]
   refine newV (fun i2 hi2 => ?_)
   repeat' first | refine gf (gi hok hs) ?_ [] [2] | refine AE (h13 _) ?_ | refine callP (h13 _) ?_ | refine AE (h56 _) ?_ | refine callP (h56 _) ?_ | refine AE (h47 _) ?_ | refine callP (h47 _) ?_ | refine gf (gi hok hs) ?_ [] [2] | apply gy<;>intro hh
   exact finC (S':=V) ⟨rfl,rfl⟩
@[reducible,instance] def a20:=fun p V=>ah1 (@Pv p V)
theorem Vn (s:Str) (V:Sig):DCall prog 96 [.str s] V (rS (.agg (Am (.mk 3 0 s []))) V):=by
 refine en func96 ntmps96 ?_
 refine gz ?_ [] [2]
 refine newV (fun i hi => ?_)
 refine gz ?_ [] [2]
 refine finC (S':=V) ⟨rfl,rfl⟩ (hw := ?_)
 exact E2 ⟨A9 _,A9 _,A9 _,Al _ (.inl rfl),trivial⟩
@[reducible,instance] def a96:=fun s V=>ah0 (@Vn s V)
theorem JA (op n:Int) (l:List (List D)) (o:Own) (V:Sig):DCall prog 97 [dI op,dI n, .slice l o] V (rS (.agg [dI op,dI n, .slice l o]) V):=by
 refine en func97 ntmps97 ?_
 refine gz ?_ [] [6]
 refine newV (fun i hi => ?_)
 refine gz ?_ [] [6]
 exact finC (S':=V) ⟨rfl,rfl⟩
@[reducible,instance] def a97a:=fun op n l o V=>ah0 (@JA op n l o V)
theorem Jz (op n:Int) (V:Sig):DCall prog 97 [dI op,dI n, .nils] V (rS (.agg [dI op,dI n, .nils]) V):=by
 refine en func97 ntmps97 ?_
 refine gz ?_ [] [6]
 refine newV (fun i hi => ?_)
 refine gz ?_ [] [6]
 exact finC (S':=V) ⟨rfl,rfl⟩
@[reducible,instance] def a97n:=fun op n V=>ah0 (@Jz op n V)
theorem JB (op:Int) (s:Str) (V:Sig):DCall prog 95 [dI op, .str s, .nils] V (rS (.agg [dI op,dI 0, .str s, .nils]) V):=by
 refine en func95 ntmps95 ?_
 refine gz ?_ [] [6]
 refine newV (fun i hi => ?_)
 refine gz ?_ [] [6]
 exact finC (S':=V) ⟨rfl,rfl⟩
@[reducible,instance] def a95n:=fun op s V=>ah0 (@JB op s V)
def exB:BProg:=⟨[⟨[],[0],[⟨0,7⟩]⟩,⟨[3],[1],[]⟩,⟨[4,3],[],[⟨0,1⟩]⟩],2,[1],[⟨1,0, .mk 2 0 [] 3 0 [],0⟩,⟨2,0, .mk 3 0 [0] 0 5 [],3⟩],
 [⟨17,0,[1]⟩,⟨4,0,[2]⟩,⟨3,0,[]⟩,⟨9,0,[4,5]⟩,⟨3,0,[]⟩,⟨3,1,[]⟩,⟨5,0,[7]⟩,⟨6,5,[]⟩],6⟩
def exA (l:List Str):FProg:=⟨[⟨[97],[],[[102]],[⟨[102],7⟩]⟩,⟨[98],[[97]],[[103]],[]⟩,⟨[99],l,[],[⟨[102],1⟩]⟩],
 [⟨1,[115,104,111,119],[[120]], .mk 2 [120] [] [97] 0 [], .mk 17 0 [] [.mk 4 0 [102] [.mk 3 0 [120] []]]⟩,⟨2,[115,104,111,119],[[121]], .mk 3 [121] [[102]] [] 5 [], .mk 9 0 [122] [.mk 3 0 [121] [], .mk 3 0 [122] []]⟩],
 .mk 5 0 [115,104,111,119] [.mk 6 0 [99] []]⟩
theorem VG (V:Sig):DCall prog 46 [] V (rS (.agg (AC exB)) V):=by
 refine en func46 ntmps46 ?_
 refine gz ?_ [] [0]
 refine newV (fun i hi => ?_)
 repeat' first | refine gz ?_ [] [0] | refine AE (JA _ _ _ _ _) ?_ | refine callP (JA _ _ _ _ _) ?_ | refine AE (Jz _ _ _) ?_ | refine callP (Jz _ _ _) ?_ | refine gz ?_ [] [0] | apply gy<;>intro hh
 have e:AC exB=[sl [[sl [],sl [[dI 0]],sl [[dI 0,dI 7]]],[sl [[dI 3]],sl [[dI 1]],sl []],[sl [[dI 4],[dI 3]],sl [],sl [[dI 0,dI 1]]]],dI 2,sl [[dI 1]],sl [[dI 1,dI 0,dI 2,dI 0,sl [],dI 3,dI 0,sl [],dI 0],[dI 2,dI 0,dI 3,dI 0,sl [[dI 0]],dI 0,dI 5,sl [],dI 3]],sl [[dI 17,dI 0,sl [[dI 1]]],[dI 4,dI 0,sl [[dI 2]]],[dI 3,dI 0,sl []],[dI 9,dI 0,sl [[dI 4],[dI 5]]],[dI 3,dI 0,sl []],[dI 3,dI 1,sl []],[dI 5,dI 0,sl [[dI 7]]],[dI 6,dI 5,sl []]],dI 6]:=by
  simp [exB,cI,Dr,Fact.op,Fact.arg,Fact.path,Fact.cls,Fact.n,Fact.kids]
 refine finC (S':=V) ⟨rfl,rfl⟩ (hw := ?_)
 rw [e]
 refine E2 ?_
 repeat' (first | exact A9 _ | exact Al _ (.inl rfl) | exact trivial | refine Ho _ ?_ | refine ⟨?_, ?_⟩)
@[reducible,instance] def a46:=fun V=>ah0 (@VG V)
theorem Pr (l:List Str) (o:Own) (V:Sig):DCall prog 45 [.slice (cS l) o] V (rS (.agg (B3 (exA l))) V):=by
 refine en func45 ntmps45 ?_
 refine gz ?_ [] [2]
 refine newV (fun i hi => ?_)
 repeat' first | refine gz ?_ [] [2] | refine AE (LX _ _ _ _ _) ?_ | refine callP (LX _ _ _ _ _) ?_ | refine AE (JB _ _ _) ?_ | refine callP (JB _ _ _) ?_ | refine gz ?_ [] [2] | apply gy<;>intro hh
 have e:B3 (exA l)=[sl [[.str [97],sl [],sl [[.str [102]]],sl [[.str [102],dI 7]]],[.str [98],sl [[.str [97]]],sl [[.str [103]]],sl []],[.str [99],sl (cS l),sl [],sl [[.str [102],dI 1]]]],
   sl [[dI 1, .str [115,104,111,119],sl [[.str [120]]],dI 2, .str [120],sl [], .str [97],dI 0,sl [],dI 17,dI 0, .str [],sl [[dI 4,dI 0, .str [102],sl [Am (.mk 3 0 [120] [])]]]],
    [dI 2, .str [115,104,111,119],sl [[.str [121]]],dI 3, .str [121],sl [[.str [102]]], .str [],dI 5,sl [],dI 9,dI 0, .str [122],sl [Am (.mk 3 0 [121] []),Am (.mk 3 0 [122] [])]]],
   dI 5,dI 0, .str [115,104,111,119],sl [[dI 6,dI 0, .str [99],sl []]]]:=by
  simp [exA,cS,Ci,D1,FFact.op,FFact.name,FFact.path,FFact.cls,FFact.n,FFact.kids,FExp.op,FExp.n,FExp.text,FExp.kids]
 refine finC (S':=V) ⟨rfl,rfl⟩ (hw := ?_)
 rw [e]
 refine E2 ?_
 repeat' (first | exact A9 _ | exact Al _ (.inl rfl) | exact Az _ _ | exact DR _ | exact trivial | refine Ho _ ?_ | refine ⟨?_, ?_⟩)
end Go.DL
