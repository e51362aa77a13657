/- A part of the proof. -/
import Derived.Test.YtlfimpogphmbdaaGreatQ23
set_option linter.all false
namespace Go.DL
open Go.Proofs.Tryz
open Go Go.Proofs
set_option maxHeartbeats 8000000
structure D1S(i7 j1 j2 j3:Nat)(nm:Str)(ps ss:fD)(is:List aG)(V S1:Sig):Prop where
 o7:S1 i7=some (.cells [.str nm,.slice (cS ps) (.tag j1),.slice (cS ss) (.tag j2),.slice (is.map Dh) (.tag j3)])
 o1:S1 j1=some (.tail 1 ps.length)
 o2:S1 j2=some (.tail 1 ss.length)
 o3:S1 j3=some (.tail 2 is.length)
 hS:Sub V S1
section
variable {i7 j1 j2 j3:Nat}{nm:Str}{ps ss:fD}{is:List aG}{V S1:Sig}
theorem D1S.par(h:D1S i7 j1 j2 j3 nm ps ss is V S1)(v:Str)(gZ:j1≠j2)(gY:j1≠j3)(h7:V i7=none)(h1:V j1=none):
  D1S i7 j1 j2 j3 nm (ps++[v]) ss is V ((S1.set j1 (.tail 1 (ps.length+1))).set i7 (.cells [.str nm,.slice (cS ps++[[.str v]]) (.tag j1),.slice (cS ss) (.tag j2),.slice (is.map Dh) (.tag j3)])):=by
 have n1:j1≠i7:=A7 h.o1 h.o7 (by simp)
 have n2:j2≠i7:=A7 h.o2 h.o7 (by simp)
 have n3:j3≠i7:=A7 h.o3 h.o7 (by simp)
 refine⟨by rw[w7];simp[cS],by rw[w8 _ _ n1,w7,aH];rfl,by rw[w8 _ _ n2,w8 _ _ (aQ gZ)];exact h.o2,by rw[w8 _ _ n3,w8 _ _ (aQ gY)];exact h.o3,fun j o hj=>?_⟩
 rw[w8 _ _ (A0 hj h7),w8 _ _ (A0 hj h1)];exact h.hS j o hj
theorem D1S.slo(h:D1S i7 j1 j2 j3 nm ps ss is V S1)(v:Str)(gZ:j1≠j2)(gW:j2≠j3)(h7:V i7=none)(h1:V j2=none):
  D1S i7 j1 j2 j3 nm ps (ss++[v]) is V ((S1.set j2 (.tail 1 (ss.length+1))).set i7 (.cells [.str nm,.slice (cS ps) (.tag j1),.slice (cS ss++[[.str v]]) (.tag j2),.slice (is.map Dh) (.tag j3)])):=by
 have n1:j1≠i7:=A7 h.o1 h.o7 (by simp)
 have n2:j2≠i7:=A7 h.o2 h.o7 (by simp)
 have n3:j3≠i7:=A7 h.o3 h.o7 (by simp)
 refine⟨by rw[w7];simp[cS],by rw[w8 _ _ n1,w8 _ _ gZ];exact h.o1,by rw[w8 _ _ n2,w7,aH];rfl,by rw[w8 _ _ n3,w8 _ _ (aQ gW)];exact h.o3,fun j o hj=>?_⟩
 rw[w8 _ _ (A0 hj h7),w8 _ _ (A0 hj h1)];exact h.hS j o hj
theorem D1S.ini(h:D1S i7 j1 j2 j3 nm ps ss is V S1)(v:aG)(gY:j1≠j3)(gW:j2≠j3)(h7:V i7=none)(h1:V j3=none):
  D1S i7 j1 j2 j3 nm ps ss (is++[v]) V ((S1.set j3 (.tail 2 (is.length+1))).set i7 (.cells [.str nm,.slice (cS ps) (.tag j1),.slice (cS ss) (.tag j2),.slice (is.map Dh++[Dh v]) (.tag j3)])):=by
 have n1:j1≠i7:=A7 h.o1 h.o7 (by simp)
 have n2:j2≠i7:=A7 h.o2 h.o7 (by simp)
 have n3:j3≠i7:=A7 h.o3 h.o7 (by simp)
 refine⟨by rw[w7];simp,by rw[w8 _ _ n1,w8 _ _ gY];exact h.o1,by rw[w8 _ _ n2,w8 _ _ gW];exact h.o2,by rw[w8 _ _ n3,w7,aH];rfl,fun j o hj=>?_⟩
 rw[w8 _ _ (A0 hj h7),w8 _ _ (A0 hj h1)];exact h.hS j o hj
end
structure E1S(i2 i4 ic im:Nat)(cl:List aD)(ms:List aE)(V S1:Sig):Prop where
 o4:S1 i4=some (.cells [.slice (cl.map cFClass) (.tag ic),.slice (ms.map BZ) (.tag im),dI 0,dI 0,.str [],.ak])
 oc:S1 ic=some (.tail 4 cl.length)
 om:S1 im=some (.tail 13 ms.length)
 o2:S1 i2=some (.cells [.ak,.ak,dI 0,dI 0,.str [],.ak])
 hS:Sub V S1
theorem E1S.cls{i2 i4 ic im:Nat}{cl:List aD}{V S6 S11:Sig}(h:E1S i2 i4 ic im cl [] V S6)(hS:Sub S6 S11)(hb:V i4=none)(hc:V ic=none)(x:aD):
  E1S i2 i4 ic im (cl++[x]) [] V ((S11.set ic (.tail 4 (cl.length+1))).set i4 (.cells [.slice (cl.map cFClass++[cFClass x]) (.tag ic),.slice [] (.tag im),dI 0,dI 0,.str [],.ak])):=by
 have n1:ic≠i4:=A7 h.oc h.o4 (by simp)
 have n2:im≠i4:=A7 h.om h.o4 (by simp)
 have n3:i2≠i4:=A7 h.o2 h.o4 (by simp)
 have n4:im≠ic:=A7 h.om h.oc (by simp)
 have n5:i2≠ic:=A7 h.o2 h.oc (by simp)
 refine⟨by rw[w7];simp,by rw[w8 _ _ n1,w7,aH];rfl,by rw[w8 _ _ n2,w8 _ _ n4];exact hS _ _ h.om,by rw[w8 _ _ n3,w8 _ _ n5];exact hS _ _ h.o2,fun j o hj=>?_⟩
 rw[w8 _ _ (A0 hj hb),w8 _ _ (A0 hj hc)];exact hS _ _ (h.hS j o hj)
structure G1S(i2 i4 im:Nat)(cd:D)(ms:List aE)(V S1:Sig):Prop where
 o4:S1 i4=some (.cells [cd,.slice (ms.map BZ) (.tag im),dI 0,dI 0,.str [],.ak])
 om:S1 im=some (.tail 13 ms.length)
 o2:S1 i2=some (.cells [.ak,.ak,dI 0,dI 0,.str [],.ak])
 hS:Sub V S1
theorem Xe(p:aw)(V:Sig)(hp:SpOK p)(gu:p.ae<=128)(jr:p.nodes.length<=120)(jg:p.aa.length<=100)(je:p.aj.length<=100):au prog 57 [.agg (Ai p)] V (rS (.agg (Bd (Ba p))) V):=by
 obtain⟨p1,p2,p3,p4,p5,p6,p7⟩:=p.wt_le
 have jq:=hp.wt
 obtain⟨s0,s1⟩:=hp.ae
 obtain⟨sn,gr⟩:∃n:Nat,p.ae=n:=⟨p.ae.toNat,by omega⟩
 have fK:p.ae.toNat=sn:=by omega
 have gA:(AW p.aa.length).length=p.aa.length:=Bx _
 have gx:(spS p).length=sn:=by unfold spS;rw[Bx,fK]
 have gQ:(spG p).length=p.aj.length:=Bx _
 have iB:(spL p).length=p.nodes.length+3:=Bx _
 have eS:AW sn=spS p:=by unfold spS;rw[fK]
 have hA:spA p=lits3++AW p.aa.length:=rfl
 have k73:∀(n:Nat),n<=128->∀V:Sig,au prog 73 [.ak,dI (n:Int)] V (rS (sl (cS (AW n))) V):=fun n hn V=>
  au.wk (Qv n [] (AW n) .no V (by simp;omega) (Nr hn)) (AL (Am _ (.inl rfl)) (AL (A9 _) GJ))
 have iA:∀V:Sig,Ans 73 [.ak,dI p.aa.length] V True (sl (cS (AW p.aa.length))):=fun V=>ah0 (k73 _ (by omega) V)
 have iS:∀V:Sig,Ans 73 [.ak,dI sn] V True (sl (cS (spS p))):=fun V=>ah0 (by rw[<-eS];exact k73 sn (by omega) V)
 have iG:∀V:Sig,Ans 73 [.ak,dI p.aj.length] V True (sl (cS (spG p))):=fun V=>ah0 (k73 _ (by omega) V)
 have fV:cSp0 p (AW p.aa.length) (spS p) (spG p)=.am [sl (p.aa.map cBClass),dI p.ae,sl (cI p.aj),sl (p.methods.map Ag),sl (p.nodes.map Ab),dI p.main,sl (cS (AW p.aa.length)),sl (cS (spS p)),sl (cS (spG p))] 0:=rfl
 have iI:∀t,t<(spL p).length->refM (t+1) [] []=some ((spL p).take (t+1)):=fun t ht=>by
  rw[Nr (by omega)];unfold spL;rw[Ld (by omega)]
 refine en func57 ntmps57 ?_
 refine gz ?_ o57 [2,4,7,13,15]
 refine newV (fun i2 iD=>?_)
 refine gf gr ?_ (delO 1 o57) [2,4,7,13,15]
 refine mixL (id:=1) [0,1,2,3,5,6,8,9,10,4,7,11,12,13] [4,7,11] ?_
 refine gf gr ?_ o57 [2,4,7,13,15]
 refine rtl 3 (cSp0 p (AW p.aa.length) (spS p) (spG p)) ?_ (hw:=AM (by rw[fV,gr];rfl))
 have gj:(spCs p).length=p.aa.length:=by unfold spCs;rw[aZ,List.length_zip,Bx];omega
 have gk:∀(k:Nat) (h:k<p.aa.length) (h2:k<(AW p.aa.length).length),(spCs p).take (k+1)=(spCs p).take k++[⟨(AW p.aa.length)[k]'h2,(p.aa[k]).ag.map (ixS (spA p)),(p.aa[k]).ae.map (ixS (spS p)),(p.aa[k]).ai.map fun x=>⟨ixS (spS p) x.slot,x.n⟩⟩]:=fun k h h2=>by
  rw[bE (by omega)]
  congr 2
  unfold spCs
  rw[List.getElem_map,List.getElem_zip];rfl
 have gc:spA p=lits3++AW p.aa.length:=rfl
 have go:Ba p=⟨spCs p,p.methods.map (spM p),(spE p (spA p) (spS p) (spG p) (spL p) 12 p.main [] 0).1⟩:=rfl
 rw[go]
 generalize spCs p=CS at*
 have jB:(spA p).length=3+p.aa.length:=by rw[gc,aH,gA];rfl
 generalize jz:AW p.aa.length=NM at*
 refine newV (fun i4 jd=>?_)
 refine gz ?_ o57 [2,4,7,13,15]
 obtain⟨a1,a2⟩:=A4 jd
 refine Ak i4 0 4 (w7 ..) rfl (fun ic gM=>?_)
 obtain⟨b1,b2⟩:=A4 gM
 obtain⟨b3,b4⟩:=A4 b2
 refine Ak i4 1 13 (w7 ..) rfl (fun im gh=>?_)
 obtain⟨c1,c2⟩:=A4 gh
 obtain⟨c3,c4⟩:=A4 c2
 obtain⟨c5,c6⟩:=A4 c4
 obtain⟨c7,c8⟩:=A4 c6
 generalize iH:Sig.set (Sig.set _ im _) i4 _=S5
 have iJ:E1S i2 i4 ic im (CS.take 0) [] V S5:=by
  have a1':=aQ a1
  have b1':=aQ b1
  have b3':=aQ b3
  have c1':=aQ c1
  have c3':=aQ c3
  have c7':=aQ c7
  rw[<-iH]
  refine⟨by rw[w7];rfl,?_,?_,?_,fun j x hj=>?_⟩
  ·rw[w8 _ _ b1,w8 _ _ c3',w8 _ _ b1];exact w7 ..
  ·rw[w8 _ _ c1];exact w7 ..
  ·rw[w8 _ _ a1',w8 _ _ c7',w8 _ _ a1',w8 _ _ b3',w8 _ _ a1'];exact w7 ..
  ·rw[w8 _ _ (A0 hj a2),w8 _ _ (A0 hj c8),w8 _ _ (A0 hj a2),w8 _ _ (A0 hj b4),w8 _ _ (A0 hj a2),w8 _ _ (A0 hj iD)];exact hj
 clear iH go
 have fL:V i4=none:=a2
 have gT:V ic=none:=b4
 have gS:V im=none:=c8
 refine AB [1,2,3,4,11,12,13,14,15,129,130,131,132,133,134,135,136,137,138,139,140,141,142,143,144,145,146,147,148,149,150,151,152,153,154,155,156,157,158,159,160,161,162,163,164,165,166,167,168,169,170,171,172,173,174,175,176,177,178,179,180,181] (fun (k:Nat) (S6:Sig)=>k<=p.aa.length/\E1S i2 i4 ic im (CS.take k) [] V S6) (fun k _=>[(5,dI k)]) (fun _ S6=>S6) (fun k _=>p.aa.length-k) (0) (S5) (by exact⟨by omega,iJ⟩) (fun k S6 hI=>?_)
 obtain⟨hk,hE⟩:=hI
 by_cases e9:k<p.aa.length
 ·have jw:=p5 k e9
  have iY:k<NM.length:=by omega
  have gn:=gk k e9 iY
  have gU:(CS.take k).length=k:=by rw[cj];omega
  generalize CS.take k=CT at hE gn gU
  obtain⟨x1,x2,x3⟩:=hp.cls _ (aJ e9)
  generalize ji:p.aa[k]=c at*
  have jx:c.wt=1+c.ag.length+c.ae.length+c.ai.length:=rfl
  generalize iq:NM[k]=nm at*
  refine gf (gi ji (gi fV iq)) ?_ o57 [2,4,7,13,15]
  refine newV (fun i7 f9=>?_)
  refine gz ?_ o57 [2,4,7,13,15]
  refine Ak i7 1 1 (w7 ..) rfl (fun j1 jb=>?_)
  obtain⟨g1,g2⟩:=A4 jb
  refine Ak i7 2 1 (w7 ..) rfl (fun j2 ja=>?_)
  obtain⟨k1,k2⟩:=A4 ja
  obtain⟨k3,k4⟩:=A4 k2
  obtain⟨k5,k6⟩:=A4 k4
  refine Ak i7 3 2 (w7 ..) rfl (fun j3 gL=>?_)
  obtain⟨l1,l2⟩:=A4 gL
  obtain⟨l3,l4⟩:=A4 l2
  obtain⟨l5,l6⟩:=A4 l4
  obtain⟨l7,l8⟩:=A4 l6
  obtain⟨l9,l10⟩:=A4 l8
  generalize gE:Sig.set (Sig.set _ j3 _) i7 _=S7
  have jp:D1S i7 j1 j2 j3 nm [] [] [] S6 S7:=by
   have k3':=aQ k3
   have l3':=aQ l3
   have l7':=aQ l7
   rw[<-gE]
   refine⟨by rw[w7];rfl,?_,?_,?_,fun j x hj=>?_⟩
   ·simp[w8 _ _ g1,w8 _ _ k3',w8 _ _ l7']
   ·simp[w8 _ _ k1,w8 _ _ l3']
   ·simp[w8 _ _ l1]
   ·have m2:j≠i7:=A0 hj f9
    have m3:j≠j1:=A0 hj g2
    have m4:j≠j2:=A0 hj k6
    have m5:j≠j3:=A0 hj l10
    simp only[w8 _ _ m2,w8 _ _ m3,w8 _ _ m4,w8 _ _ m5]
    exact hj
  clear gE
  have fU:∀x∈c.ag,InR x (3+NM.length):=fun x hx=>by rw[gA];exact x1 x hx
  have iX:∀x∈c.ae,InR x (spS p).length:=fun x hx=>by rw[gx,<-fK];exact x2 x hx
  have iZ:∀x∈c.ai,InR x.slot (spS p).length:=fun x hx=>by rw[gx,<-fK];exact x3 x hx
  clear x1 x2 x3
  refine CK [1,2,3,4,5,6,7,9,10,11,12,13,14,15,30,31,32,33,34,35,36,37,38,39,40,41,42,43,44,45,46,47,48,49,69,70,71,72,73,74,75,76,77,78,79,80,81,82,83,84,85,86,87,88,89,90,91,92,93,94,95,96,97,98,99,100,101,102,103,104,105,106,107,108,109,110,111,112,113,114,115,116,117,118,119,120,121,122,123,124,125,126,127,128,129,130,131,132,133,134,135,136,137,138,139,140,141,142,143,144,145,146,147,148,149,150,151,152,153,154,155,156,157,158,159,160,161,162,163,164,165,166,167,168,169,170,171,172,173,174,175,176,177,178,179,180,181] (fun (q:Nat) (ps:fD) (S8:Sig)=>q<=c.ag.length/\ps++(c.ag.drop q).map (ixS (spA p))=c.ag.map (ixS (spA p))/\D1S i7 j1 j2 j3 nm ps [] [] S6 S8) (fun q _ _=>[(8,dI q)]) (fun _ _ S8=>S8) (fun q _ _=>c.ag.length-q) (0) ([]) (_) (by exact⟨by omega,rfl,jp⟩) (fun q ps S8 hI=>?_)
  obtain⟨hq,gG,hD⟩:=hI
  by_cases fJ:q<c.ag.length
  ·rw[A2 fJ,ba]at gG
   have hlen:=bF List.length gG
   simp at hlen
   have u1:i7≠j1:=A7 hD.o7 hD.o1 (by simp)
   have b7:(S8.out fun j=>j=j1) i7=_:=BO hD.o7 u1
   have e7:Sub (S8.out fun j=>j=j1) S8:=AU _ _
   have fX:Sub (S8.out fun j=>j=j1) (S8.set j1 (.tail 1 (ps.length+1))):=fun j o hj=>by
    obtain⟨h1,h2⟩:=Bm hj
    rw[w8 _ _ h2];exact h1
   have o1:=hD.o1
   have o7:=hD.o7
   have i145:∀V:Sig,Ans 145 [cSp0 p NM (spS p) (spG p),dI c.ag[q]] V True (.str (ixS (spA p) c.ag[q])):=fun V=>ah0 (by rw[gc];exact HC p NM (spS p) (spG p) _ V (fU _ (aJ fJ)) (by omega))
   refine gz ?_ (delO 11 o57) [2,4,7,13,15]
   refine CI (id:=11) [0,1,2,3,4,5,6,7,8,9,10,11] [8,10] (S8.out fun j=>j=j1) e7 ?_
   refine gf (gi b7 (gi o1 o7)) ?_ o57 [2,4,7,13,15]
   exact⟨q+1,ps++[ixS (spA p) c.ag[q]],_,⟨by omega,by rw[aT];exact gG,hD.par _ (aQ k3) (aQ l7) f9 g2⟩,td1,wkR⟩
  ·rw [A1 fJ,bJ,bb] at gG
   subst gG
   refine gz ?_ o57 [2,4,7,13,15]
   clear hq fJ
   refine CK [1,2,3,4,5,6,7,8,10,11,12,13,14,15,30,31,32,33,34,35,36,37,38,39,40,41,42,43,44,45,46,47,48,49,50,51,52,53,54,55,56,57,58,59,60,61,62,63,64,65,66,67,68,92,93,94,95,96,97,98,99,100,101,102,103,104,105,106,107,108,109,110,111,112,113,114,115,116,117,118,119,120,121,122,123,124,125,126,127,128,129,130,131,132,133,134,135,136,137,138,139,140,141,142,143,144,145,146,147,148,149,150,151,152,153,154,155,156,157,158,159,160,161,162,163,164,165,166,167,168,169,170,171,172,173,174,175,176,177,178,179,180,181] (fun (q:Nat) (ss:fD) (S9:Sig)=>q<=c.ae.length/\ss++(c.ae.drop q).map (ixS (spS p))=c.ae.map (ixS (spS p))/\D1S i7 j1 j2 j3 nm (c.ag.map (ixS (spA p))) ss [] S6 S9) (fun q _ _=>[(9,dI q)]) (fun _ _ S9=>S9) (fun q _ _=>c.ae.length-q) (0) ([]) (_) (by exact⟨by omega,rfl,hD⟩) (fun q ss S9 hI=>?_)
   obtain⟨hq,gF,gb⟩:=hI
   by_cases fJ:q<c.ae.length
   ·rw[A2 fJ,ba]at gF
    have hlen:=bF List.length gF
    simp at hlen
    obtain⟨r,e1,hr,e2⟩:=BX (iX _ (aJ fJ))
    have u1:i7≠j2:=A7 gb.o7 gb.o2 (by simp)
    have b7:(S9.out fun j=>j=j2) i7=_:=BO gb.o7 u1
    have e7:Sub (S9.out fun j=>j=j2) S9:=AU _ _
    have fX:Sub (S9.out fun j=>j=j2) (S9.set j2 (.tail 1 (ss.length+1))):=fun j o hj=>by
     obtain⟨h1,h2⟩:=Bm hj
     rw[w8 _ _ h2];exact h1
    have o2:=gb.o2
    have o7:=gb.o7
    refine gz ?_ (delO 15 o57) [2,4,7,13,15]
    refine CI (id:=15) [0,1,2,3,4,5,6,7,8,9,10,11,12,13,14,15] [14] (S9.out fun j=>j=j2) e7 ?_
    refine gf (gi b7 (gi o2 (gi o7 (gi fV (gi e1 e2))))) ?_ o57 [2,4,7,13,15]
    rw[<-e2]
    exact⟨q+1,ss++[ixS (spS p) c.ae[q]],_,⟨by omega,by rw[aT];exact gF,gb.slo _ (aQ k3) (aQ l3) f9 k6⟩,td1,wkR⟩
   ·rw[A1 fJ,bJ,bb]at gF
    subst gF
    refine gz ?_ o57 [2,4,7,13,15]
    clear hq fJ hD
    refine CK [1,2,3,4,5,6,7,8,9,11,12,13,14,15,30,31,32,33,34,35,36,37,38,39,40,41,42,43,44,45,46,47,48,49,50,51,52,53,54,55,56,57,58,59,60,61,62,63,64,65,66,67,68,69,70,71,72,73,74,75,76,77,78,79,80,81,82,83,84,85,86,87,88,89,90,91,123,124,125,126,127,128,129,130,131,132,133,134,135,136,137,138,139,140,141,142,143,144,145,146,147,148,149,150,151,152,153,154,155,156,157,158,159,160,161,162,163,164,165,166,167,168,169,170,171,172,173,174,175,176,177,178,179,180,181] (fun (q:Nat) (is:List aG) (S10:Sig)=>q<=c.ai.length/\is++((c.ai.drop q).map fun x=>(⟨ixS (spS p) x.slot,x.n⟩:aG))=(c.ai.map fun x=>(⟨ixS (spS p) x.slot,x.n⟩:aG))/\D1S i7 j1 j2 j3 nm (c.ag.map (ixS (spA p))) (c.ae.map (ixS (spS p))) is S6 S10) (fun q _ _=>[(10,dI q)]) (fun _ _ S10=>S10) (fun q _ _=>c.ai.length-q) (0) ([]) (_) (by exact⟨by omega,rfl,gb⟩) (fun q is S10 hI=>?_)
    obtain⟨hq,gH,hD⟩:=hI
    by_cases fJ:q<c.ai.length
    ·rw[A2 fJ,ba]at gH
     have hlen:=bF List.length gH
     simp at hlen
     obtain⟨r,e1,hr,e2⟩:=BX (iZ _ (aJ fJ))
     have u1:i7≠j3:=A7 hD.o7 hD.o3 (by simp)
     have b7:(S10.out fun j=>j=j3) i7=_:=BO hD.o7 u1
     have e7:Sub (S10.out fun j=>j=j3) S10:=AU _ _
     have fX:Sub (S10.out fun j=>j=j3) (S10.set j3 (.tail 2 (is.length+1))):=fun j o hj=>by
      obtain⟨h1,h2⟩:=Bm hj
      rw[w8 _ _ h2];exact h1
     have o3:=hD.o3
     have o7:=hD.o7
     refine gz ?_ (delO 19 o57) [2,4,7,13,15]
     refine CI (id:=19) [0,1,2,3,4,5,6,7,8,9,10,11,12,13,14,15,16,17,18,19,20,21,22,23] [22] (S10.out fun j=>j=j3) e7 ?_
     refine gf (gi b7 (gi o3 (gi o7 (gi fV (gi e1 e2))))) ?_ o57 [2,4,7,13,15]
     rw[<-e2]
     exact⟨q+1,is++[⟨ixS (spS p) c.ai[q].slot,c.ai[q].n⟩],_,⟨by omega,by rw[aT];exact gH,hD.ini _ (aQ l7) (aQ l3) f9 l10⟩,td1,wkR⟩
    ·rw[A1 fJ,bJ,bb]at gH
     subst gH
     have o7:=hD.o7
     have o4:=hD.hS _ _ hE.o4
     have oc:=hD.hS _ _ hE.oc
     refine gz ?_ o57 [2,4,7,13,15]
     refine BA (BW (az:=[.str nm]) (bs:=[.slice (cS (c.ae.map (ixS (spS p)))) (.tag j2),.slice ((c.ai.map fun x=>(⟨ixS (spS p) x.slot,x.n⟩:aG)).map Dh) (.tag j3)]) (d':=sl (cS (c.ag.map (ixS (spA p))))) o7 (Ao _ _)) ?_
     refine BA (BW (az:=[.str nm,sl (cS (c.ag.map (ixS (spA p))))]) (bs:=[.slice ((c.ai.map fun x=>(⟨ixS (spS p) x.slot,x.n⟩:aG)).map Dh) (.tag j3)]) (d':=sl (cS (c.ae.map (ixS (spS p))))) (w7 ..) (Ao _ _)) ?_
     refine BA (BW (az:=[.str nm,sl (cS (c.ag.map (ixS (spA p)))),sl (cS (c.ae.map (ixS (spS p))))]) (bs:=[]) (d':=sl ((c.ai.map fun x=>(⟨ixS (spS p) x.slot,x.n⟩:aG)).map Dh)) (w7 ..) (Ao _ _)) ?_
     simp only[w9,br,bl,dR]
     have n74:i7≠i4:=aQ (A0 hE.o4 f9)
     have n7c:i7≠ic:=aQ (A0 hE.oc f9)
     have n4c:i4≠ic:=A7 hE.o4 hE.oc (by simp)
     generalize fQ:Sig.set S10 i7 _=S11
     have q7:S11 i7=some (.cells (cFClass ⟨nm,c.ag.map (ixS (spA p)),c.ae.map (ixS (spS p)),c.ai.map fun x=>⟨ixS (spS p) x.slot,x.n⟩⟩)):=by rw[<-fQ];exact w7 ..
     have q4:S11 i4=S10 i4:=by rw[<-fQ,w8 _ _ (aQ n74)]
     rw[o4]at q4
     have qc:S11 ic=S10 ic:=by rw[<-fQ,w8 _ _ (aQ n7c)]
     rw[oc]at qc
     have gV:Sub S6 S11:=by rw[<-fQ];exact hD.hS.set f9
     clear fQ
     generalize jA:(⟨nm,c.ag.map (ixS (spA p)),c.ae.map (ixS (spS p)),c.ai.map fun x=>⟨ixS (spS p) x.slot,x.n⟩⟩:aD)=fc at*
     refine gf (gi q7 (gi q4 qc)) ?_ o57 [2,4,7,13,15]
     exact⟨k+1,_,⟨by omega,by rw[gn];exact hE.cls gV fL gT _⟩,td1,wkR⟩
 ·obtain rfl:k=p.aa.length:=by omega
  have gD:CS.take p.aa.length=CS:=by rw[<-gj,dr]
  rw[gD]at hE
  have o4:=hE.o4
  refine gz ?_ o57 [2,4,7,13,15]
  refine dwp_wk (BW (az:=[]) (bs:=[.slice [] (.tag im),dI 0,dI 0,.str [],.ak]) (d':=sl (CS.map cFClass)) o4 (Ao _ _)) ?_
  simp only[br,dR]
  have n1:im≠i4:=A7 hE.om hE.o4 (by simp)
  have n2:i2≠i4:=A7 hE.o2 hE.o4 (by simp)
  have n3:i2≠im:=A7 hE.o2 hE.om (by simp)
  generalize jh:sl (CS.map cFClass)=cd at*
  generalize gE:Sig.set S6 i4 _=S7
  have jo:G1S i2 i4 im cd [] V S7:=by
   rw[<-gE]
   refine⟨w7 .., by rw[w8 _ _ n1];exact hE.om,by rw[w8 _ _ n2];exact hE.o2,hE.hS.set fL⟩
  clear gE hE o4 e9 hk iJ gk gj
  refine CK [1,2,3,4,15,176,177,178,179,180,181] (fun (k:Nat) (ms:List aE) (S8:Sig)=>k<=p.methods.length/\ms.length=k/\ms++(p.methods.drop k).map (spM p)=p.methods.map (spM p)/\G1S i2 i4 im cd ms V S8) (fun k _ _=>[(11,dI k)]) (fun _ _ S8=>S8) (fun k _ _=>p.methods.length-k) (0) ([]) (S7) (by exact⟨by omega,rfl,rfl,jo⟩) (fun k ms S8 hI=>?_)
  obtain⟨hk,iW,hR,hG⟩:=hI
  by_cases e9:k<p.methods.length
  ·rw[A2 e9,ba]at hR
   obtain⟨y1,y2,y3,y4,y5⟩:=hp.met _ (aJ e9)
   have jt:=p6 k e9
   generalize f7:p.methods[k]=m at*
   obtain⟨r,e1,hr,e2⟩:=BX (l:=spG p) (by rw[gQ];exact y1)
   have iQ:r<p.aj.length:=by omega
   have iE:p.aj.getD m.gen.toNat 0=p.aj[r]:=by rw[e1,show((r:Int)).toNat=r by omega,bg,aM iQ];rfl
   obtain⟨nx,ij⟩:∃nx:Nat,p.aj[r]=nx:=⟨(p.aj[r]).toNat,by rw[iE]at y2;omega⟩
   have g7:D5 p m=nx:=by unfold D5;rw[iE,ij];omega
   rw[g7]at y2 y3 y4 y5
   obtain⟨_,y2⟩:=y2
   have iR:(spL p).take nx=AW nx:=by unfold spL;rw[Ld y2]
   have iz:((spL p).take nx).length=nx:=by rw[cj];omega
   have iN:∀V:Sig,Ans 73 [.ak,dI nx] V True (sl (cS ((spL p).take nx))):=fun V=>ah0 (by rw[iR];exact k73 nx (by omega) V)
   generalize jl:(spL p).take nx=PP at*
   have jf:m.fact.wt<=1073741824:=by
    have ju:m.wt=1+m.fact.wt:=rfl
    omega
   refine gf (gi f7 (gi e1 ij)) ?_ o57 [2,4,7,13,15]
   refine newV (fun i13 fM=>?_)
   refine gf f7 ?_ (delO 27 o57) [2,4,7,13,15]
   have n13a:i13≠i4:=aQ (A0 hG.o4 fM)
   have n13b:i13≠im:=aQ (A0 hG.om fM)
   have n4m:i4≠im:=A7 hG.o4 hG.om (by simp)
   have s13:V i13=none:=by
    cases hh:V i13 with
    |none=>rfl
    |some o=>have:=hG.hS _ _ hh;rw[fM]at this;cases this
   generalize fP:S8.set i13 (.cells [dI nx])=S9
   have r13:S9 i13=some (.cells [dI nx]):=by rw[<-fP];exact w7 ..
   have r4:S9 i4=S8 i4:=by rw[<-fP,w8 _ _ (aQ n13a)]
   rw[hG.o4]at r4
   have rm:S9 im=S8 im:=by rw[<-fP,w8 _ _ (aQ n13b)]
   rw[hG.om]at rm
   have gN:Sub S8 S9:=by rw[<-fP];exact(Sub.refl _).set fM
   clear fP
   have fR:=Oo p NM (spS p) (spG p) (spL p) (by omega) gA (by omega) (by rw[gx,gr]) (by omega) gQ (by omega) iI 12 m.node PP .no nx i13 S9 (by rw[iz];exact y4) (by omega) (by rw[<-gc,iB];exact y5) r13
   rw[<-gc]at fR
   have u4:(S9.out fun j=>j=im\/j=i13) i4=_:=BO r4 (by rintro(h|h);exact n4m h;exact n13a h.symm)
   refine CI (id:=27) [0,1,2,3,4,5,6,7,8,9,10,11,12,13,14,15,16,18,19,20,21,17,22,23,24,25,26] [17,22,25] (S9.out fun j=>j=im\/j=i13) (AU _ _) ?_
   have gg:=Vq (p:=p) (a:=NM) (b:=spS p) (g:=spG p) (P:=PP) (by omega) (by omega) (by omega) .no _ m.fact S9 (bm _) jf (by rw[gA,gx,iz,<-fK];exact y3)
   rw[<-gc]at gg
   have g9:Sub (S9.out fun j=>j=im\/j=i13) S9:=AU _ _
   repeat' first|refine gf (gi u4 (gi fV (gi e1 f7))) ?_ [] [2,4,7,13,15]|refine moR (gg) ?_|refine moP (gg) ?_|refine gf (gi u4 (gi fV (gi e1 f7))) ?_ o57 [2,4,7,13,15]|apply gy<;>intro hh
   refine C1 fR (fun d S5 hx=>?_) (fun d S5 hx=>by cases hx.1)
   obtain⟨gO,rfl⟩:=hx
   cases gO
   have iP:Sub (S9.out fun j=>j=im\/j=i13) (S9.set i13 (.cells [dI (spE p (spA p) (spS p) (spG p) (spL p) 12 m.node PP nx).2])):=fun j z hz=>by
    obtain⟨h1,h2⟩:=Bm hz
    rw[w8 _ _ fun e=>h2 (.inr e)];exact h1
   have iO:Sub (S9.out fun j=>j=im\/j=i13) ((S9.set i13 (.cells [dI (spE p (spA p) (spS p) (spG p) (spL p) 12 m.node PP nx).2])).set im (.tail 13 (ms.length+1))):=fun j z hz=>by
    obtain⟨h1,h2⟩:=Bm hz
    rw[w8 _ _ fun e=>h2 (.inl e),w8 _ _ fun e=>h2 (.inr e)];exact h1
   refine⟨iP,?_⟩
   simp only[putD]
   refine gf (gi rm r4) ?_ o57 [2,4,7,13,15]
   generalize gw:Sig.set _ i4 _=qq
   have gP:spM p m=⟨m.kind,(spG p)[r],PP,spF (spA p) (spS p) PP m.fact,(spE p (spA p) (spS p) (spG p) (spL p) 12 m.node PP nx).1⟩:=by unfold spM;rw[g7,jl,e2]
   have c1:qq i4=some (.cells [cd,.slice ((ms++[spM p m]).map BZ) (.tag im),dI 0,dI 0,.str [],.ak]):=by
    rw[<-gw,w7,gP]
    simp only[bI,ba,bJ,BZ,CB,CF,bl,br]
   have n4:i2≠i13:=A0 hG.o2 fM
   have jn:G1S i2 i4 im cd (ms++[spM p m]) V qq:=by
    refine⟨c1,by rw[<-gw,w8 _ _ n1,w7,aH];rfl,by rw[<-gw,w8 _ _ n2,w8 _ _ n3,w8 _ _ n4];exact gN _ _ hG.o2,fun x y hx=>?_⟩
    rw[<-gw,w8 _ _ (A0 hx fL),w8 _ _ (A0 hx gS),w8 _ _ (A0 hx s13)]
    exact gN _ _ (hG.hS _ _ hx)
   clear gw
   exact⟨k+1,ms++[spM p m],qq,⟨by omega,by rw[aH,iW];rfl,by rw[aT];exact hR,jn⟩,td1,wkR⟩
  ·rw[A1 e9,bJ,bb]at hR
   rw[<-hR]
   refine gz ?_ o57 [2,4,7,13,15]
   refine newV (fun i15 ga=>?_)
   have n15a:i15≠i4:=aQ (A0 hG.o4 ga)
   have n15b:i2≠i15:=A0 hG.o2 ga
   have s15:V i15=none:=by
    cases hh:V i15 with
    |none=>rfl
    |some o=>have:=hG.hS _ _ hh;rw[ga]at this;cases this
   refine gz ?_ o57 [2,4,7,13,15]
   generalize fP:S8.set i15 (.cells [dI 0])=S9
   have r15:S9 i15=some (.cells [dI (0:Nat)]):=by rw[<-fP];exact w7 ..
   have r4:S9 i4=S8 i4:=by rw[<-fP,w8 _ _ (aQ n15a)]
   rw[hG.o4]at r4
   have r2:S9 i2=S8 i2:=by rw[<-fP,w8 _ _ n15b]
   rw[hG.o2]at r2
   have gN:Sub V S9:=by rw[<-fP];exact hG.hS.set s15
   clear fP
   have fR:=Oo p NM (spS p) (spG p) (spL p) (by omega) gA (by omega) (by rw[gx,gr]) (by omega) gQ (by omega) iI 12 p.main [] .no 0 i15 S9 hp.main (by simp) (by rw[<-gc,iB];exact hp.left) r15
   rw[<-gc]at fR
   refine Ac (au.wk (args:=[cSp0 p NM (spS p) (spG p),dI p.main,.ak,.ptr i15 0]) fR (AL (A9 _) (AL (A9 _) (AL (Am _ (.inl rfl)) (AL (A9 _) GJ))))) (fun d S' hr=>?_) (fun d S' hr=>by cases hr.1)
   obtain⟨gO,rfl⟩:=hr
   cases gO
   have t4:(S9.set i15 (.cells [dI (spE p (spA p) (spS p) (spG p) (spL p) 12 p.main [] 0).2])) i4=some (.cells [cd,.slice (ms.map BZ) (.tag im),dI 0,dI 0,.str [],.ak]):=by rw[w8 _ _ (aQ n15a)];exact r4
   have t2:(S9.set i15 (.cells [dI (spE p (spA p) (spS p) (spG p) (spL p) 12 p.main [] 0).2])) i2=some (.cells [.ak,.ak,dI 0,dI 0,.str [],.ak]):=by rw[w8 _ _ n15b];exact r2
   have tS:Sub V (S9.set i15 (.cells [dI (spE p (spA p) (spS p) (spG p) (spL p) 12 p.main [] 0).2])):=gN.set s15
   generalize S9.set i15 (.cells [dI (spE p (spA p) (spS p) (spG p) (spL p) 12 p.main [] 0).2])=S10 at*
   refine BA (BW (az:=[cd]) (bs:=[dI 0,dI 0,.str [],.ak]) (d':=sl (ms.map BZ)) t4 (Ao _ _)) ?_
   simp only[bl,br]
   have e4:(S10.set i4 (.cells [cd,sl (ms.map BZ),dI 0,dI 0,.str [],.ak])) i4=some (.cells [cd,sl (ms.map BZ),dI 0,dI 0,.str [],.ak]):=w7 ..
   have e2:(S10.set i4 (.cells [cd,sl (ms.map BZ),dI 0,dI 0,.str [],.ak])) i2=some (.cells [.ak,.ak,dI 0,dI 0,.str [],.ak]):=by rw[w8 _ _ n2];exact t2
   have eS:Sub V (S10.set i4 (.cells [cd,sl (ms.map BZ),dI 0,dI 0,.str [],.ak])):=tS.set fL
   generalize S10.set i4 (.cells [cd,sl (ms.map BZ),dI 0,dI 0,.str [],.ak])=S11 at*
   refine gf (gi e4 e2) ?_ o57 [2,4,7,13,15]
   generalize (spE p (spA p) (spS p) (spG p) (spL p) 12 p.main [] 0).1=me at*
   refine rtl 181 (.agg [cd,sl (ms.map BZ),dI me.op,dI me.n,.str me.text,sl (me.ah.map Al)]) ?_ (hw:=AM (by rw[<-CF me];rfl))
   have f2:(S11.set i4 (.cells [cd,sl (ms.map BZ),dI me.op,dI me.n,.str me.text,sl (me.ah.map Al)])) i2=some (.cells [.ak,.ak,dI 0,dI 0,.str [],.ak]):=by rw[w8 _ _ n2];exact e2
   have fS:Sub V (S11.set i4 (.cells [cd,sl (ms.map BZ),dI me.op,dI me.n,.str me.text,sl (me.ah.map Al)])):=eS.set fL
   generalize S11.set i4 (.cells [cd,sl (ms.map BZ),dI me.op,dI me.n,.str me.text,sl (me.ah.map Al)])=S12 at*
   subst jh
   refine gf f2 ?_ o57 [2,4,7,13,15]
   exact finC (S':=V) ⟨rfl,rfl⟩ (hZ:=fS.set iD) (hw:=AM (by simp[CF me]))
def Gh(m:aE):Bool:=(decide (1<=m.kind)&&decide (m.kind<=4))&&(AJ m.name&&(decide (1<=m.params.length)&&decide (m.params.length<=3)))
def JG(names ae:fD)(m:aE)(n:Int):Option Int:=
 if Gh m&&sloE [] m.params then match CL names ae m.params m.fact n with
  |none=>none
  |some k=>C7 names ae m.params (decide (m.kind=1\/m.kind=4)) m.body k
 else none
def DK(names ae:fD):List aE->Int->Option Int
 |[],n=>some n
 |m::r,n=>match JG names ae m n with
  |none=>none
  |some k=>DK names ae r k
def BG(f:aF):Option Int:=
 if clsB f&&decide (f.methods.length<=16) then match C7 (f.aa.map (·.name)) (f.aa.flatMap (·.ae)) [] false f.main f.aa.length with
  |none=>none
  |some n=>match DK (f.aa.map (·.name)) (f.aa.flatMap (·.ae)) f.methods n with
   |none=>none
   |some k=>if(BM f).2&&decide ((BM f).1.length<=8) then some k else none
 else none
def CntR(f:aF)(ip ic is:Nat)(V:Sig)(x:DE)(S':Sig):Prop:=
 x=(match BG f with|some _=>.ret (.tup [])|none=>.panic unf2)/\(∃d n,S' ip=some (pObj f ic is d n))/\Keep (fun j=>j=ip\/j=ic\/j=is) V S'
theorem Hy{names ae args:fD}{lits:Bool}{e:aB}{n m:Int}(h:C7 names ae args lits e n=some m)(hn:0<=n):0<=m/\m<=120:=by
 unfold C7 at h
 split at h
 ·cases h
 ·rename_i k hk
  split at h
  ·rename_i h2
   have:=Qg (by omega) hk
   cases h;omega
  ·cases h
theorem Rr{names ae args:fD}{e:aC}{n m:Int}(h:CL names ae args e n=some m)(hn:0<=n):0<=m/\m<=120:=by
 unfold CL at h
 split at h
 ·cases h
 ·rename_i k hk
  split at h
  ·rename_i h2
   have:=NG (by omega) hk
   cases h;omega
  ·cases h
theorem NX: ∀(l:List aB) (s:GenT),(CM l s).1.length<=s.1.length+wtL aB.wt l
 |[],s=>by rw[CM];omega
 |x::r,s=>by
  have h1:=Qp x s
  have h2:=NX r (genE x s)
  rw[CM,wtL];omega
theorem Qe: ∀(l:List aE) (s:GenT),(metG l s).1.length<=s.1.length+l.length
 |[],s=>by rw[metG];omega
 |m::r,s=>by
  have h1:=Hk m.name m.params.length s
  have h2:=Qe r (seeG m.name m.params.length s)
  rw[metG,aP];omega
theorem FU(f:aF):(BM f).1.length<=f.wt:=by
 have h1:=Kn f
 have h2:=NX (BN f) (metG f.methods ([],true))
 have h3:=Qe f.methods ([],true)
 unfold BM
 simp only[cf]at h3
 omega
theorem RW (f:aF) (ip ic is:Nat) (V:Sig) (hw:f.wt<=100000000) (h0:PS f ip ic is V V [] [] [] .ak 0) (fV:ic ≠ is) :
  au prog 184 [.am [.ptr ip 0] 0,.am (Bd f) 0] V (CntR f ip ic is V):=by
 obtain⟨p1,p2,p3,p4,p5⟩:=f.wt_le
 have gR:=h0.prg
 have d8:BG f=none->∀S',(∃d n,S' ip=some (pObj f ic is d n))->Keep (fun j=>j=ip\/j=ic\/j=is) V S'->CntR f ip ic is V (.panic unf2) S':=fun h S' h1 h2=>by
  unfold CntR;rw[h];exact⟨rfl,h1,h2⟩
 have jg:f.aa.length<=100000000:=by omega
 refine en func184 ntmps184 ?_
 cases hC:clsB f with
 | false =>
  have hN:BG f=none:=by unfold BG;rw[hC];rfl
  try refine gz ?_ o184
  refine Ac (Lz f ip ic is V (by omega) h0 fV) (fun x S' hr=>?_) (fun x S' hr=>?_)
  ·unfold ClsR at hr;rw[hC,aN (by simp)]at hr;cases hr.1
  ·unfold ClsR at hr;rw[hC,aN (by simp)]at hr
   obtain⟨e1,names,ae,hs,d,n,hP⟩:=hr
   cases e1
   exact finP (S':=S') (d8 hN S' ⟨d,n,hP.prg⟩ hP.keep)
 | true =>
  try refine gz ?_ o184
  refine Ac (Lz f ip ic is V (by omega) h0 fV) (fun x S1 hr=>?_) (fun x S1 hr=>?_)
  ·unfold ClsR at hr;rw [hC,aS rfl] at hr
   obtain⟨e1,hs,d,hP⟩:=hr
   cases e1
   obtain⟨q1,q2,q3,_,q5⟩:=hP
   have g8:ip≠ic:=A7 q1 q2 (by simp)
   have g6:ip≠is:=A7 q1 q3 (by simp)
   have fU:∀S',Keep (· = ip) S1 S'->Keep (fun j=>j=ip\/j=ic\/j=is) V S':=fun S' h j o h1 h2=>h j o (q5 j o h1 h2) fun e=>h2 (.inl e)
   have gv:∀(x:DObj),Keep (· = ip) S1 (S1.set ip x):=fun x j o h1 h2=>by rw[w8 _ _ h2];exact h1
   have d9:BG f=if f.methods.length<=16 then match C7 (f.aa.map (·.name)) (f.aa.flatMap (·.ae)) [] false f.main f.aa.length with
     |none=>none
     |some n=>match DK (f.aa.map (·.name)) (f.aa.flatMap (·.ae)) f.methods n with
      |none=>none
      |some k=>if(BM f).2&&decide ((BM f).1.length<=8) then some k else none
    else none:=by unfold BG;rw[hC];simp
   have jy:f.aa.length<=10:=by unfold clsB at hC;simp only[aI,aL]at hC;exact hC.1
   generalize iq:f.aa.map (·.name)=names at*
   generalize gu:f.aa.flatMap (·.ae)=ae at*
   by_cases iK:f.methods.length<=16
   ·rw [aS iK] at d9
    have d7:=Ly f ip ic is d f.aa.length names ae f.main [] false S1 (by omega) (by simp) ⟨by omega,by omega⟩ q1 q2 q3
    repeat' first|refine gf q1 ?_ o184|apply gy<;>intro hh
    cases hk:C7 names ae [] false f.main f.aa.length with
    |none=>
     rw[hk]at d9 d7
     refine callWP d7 (fun x S2 hr=>by cases hr.1) (fun x S2 hr=>?_)
     obtain⟨e1,m,rfl⟩:=hr
     cases e1
     exact finP (S':=_) (d8 d9 _ ⟨d,m,w7 ..⟩ (fU _ (gv _)))
    | some n1 =>
     rw[hk]at d9 d7
     have iv:=Hy hk (by omega)
     refine callWP d7 (fun x S2 hr=>?_) (fun x S2 hr=>by cases hr.1)
     obtain⟨e1,rfl⟩:=hr
     cases e1
     have r1:(S1.set ip (pObj f ic is d n1)) ip=some (pObj f ic is d n1):=w7 ..
     try refine gf r1 ?_ o184
     refine CK [0,1,7,8,9,31,32,96,97,98,99,100,101,102,103,104,105,106,107,108] (fun (k:Nat) (m:Int) (S2:Sig)=>k<=f.methods.length/\0<=m/\m<=120/\DK names ae f.methods n1=DK names ae (f.methods.drop k) m/\S2 ip=some (pObj f ic is d m)/\Keep (· = ip) S1 S2) (fun k _ _=>[(33,dI k)]) (fun _ _ S2=>S2) (fun k _ _=>f.methods.length-k) (0) (n1) (_) (by exact⟨by omega,iv.1,iv.2,rfl,r1,gv _⟩) (fun k m S2 hI=>?_)
     obtain⟨hk,iy,jv,hR,o1,hK⟩:=hI
     have o2:S2 ic=some (.map (eSN (C4 names 0))):=hK _ _ q2 (aQ g8)
     have o3:S2 is=some (.map (eSS ae)):=hK _ _ q3 (aQ g6)
     by_cases e9:k<f.methods.length
     ·rw [A2 e9,DK] at hR
      have iL:=p5 k e9
      have iM:f.methods[k].body.wt<=100000000/\f.methods[k].fact.wt<=100000000/\f.methods[k].params.length<=100000000/\wtS f.methods[k].params<=100000000/\f.methods[k].name.length<=100000000:=by have:=iL;unfold aE.wt at this;have:=Bb f.methods[k].params;omega
      generalize f7:f.methods[k]=mt at*
      obtain⟨v1,v2,v3,v4,v5⟩:=iM
      cases f0:Gh mt with
      |false=>
       have hN:BG f=none:=by rw[d9];simp only[hR,JG,f0,bi,bj,bd]
       unfold Gh at f0
       repeat' first|(exact finP (S':=S2) (d8 hN _ ⟨d,m,o1⟩ (fU _ hK)))|refine gf f7 ?_ o184|apply gy<;>intro hh
       exfalso
       rw[dQ]at f0
       apply f0
       simp only[aI,aL]
       exact⟨⟨by omega,by omega⟩,by assumption,by omega,by omega⟩
      | true =>
       have fN:=f0
       unfold Gh at f0
       simp only[aI,aL]at f0
       obtain⟨⟨g1,g2⟩,g3,g4,g5⟩:=f0
       try refine gf (gi f7 g3) ?_ o184
       refine Mj (fun im gh=>?_)
       have ne1:ip≠im:=A0 o1 gh
       have ne2:ic≠im:=A0 o2 gh
       have ne3:is≠im:=A0 o3 gh
       have iC:∀S',(∀j x,j≠im->S2 j=some x->S' j=some x)->Keep (· = ip) S1 S':=fun S' h j x h1 h2=>by
        have h3:=hK j x h1 h2
        exact h j x (A0 h3 gh) h3
       try refine gz ?_ o184
       refine B5 [0,1,3,4,7,8,9,31,32,33,34,35,36,37,38,39,40,41,42,43,44,45,46,47,48,49,50,51,52,53,54,55,56,57,58,59,60,61,62,63,64,65,66,75,76,77,78,79,80,81,82,83,84,85,86,87,88,89,90,91,92,93,94,95,96,97,98,99,100,101,102,103,104,105,106,107,108] (fun (j:Nat)=>j<=mt.params.length/\sloE [] mt.params=sloE (mt.params.take j) (mt.params.drop j)) (fun j=>[(67,dI j)]) (fun j=>S2.set im (.map (eSS (mt.params.take j)))) (fun j=>mt.params.length-j) (0) (by simp) (fun j hI=>?_)
       obtain⟨hj,hE⟩:=hI
       by_cases gK:j<mt.params.length
       ·rw[A2 gK,sloE]at hE
        have iU:(mt.params[j]).length<=1073741824:=by have:=J2 mt.params j gK;omega
        try refine gz ?_ o184
        refine Ac (ER mt.params[j] im (mt.params.take j) _ (w7 ..) iU) (fun x S3 hr=>?_) (fun x S3 hr=>?_)
        ·rcases hr with⟨hc,e1,rfl⟩|⟨_,e1,_⟩
         ·cases e1
          rw[hc,aW,<-AH gK]at hE
          try refine gz ?_ o184
          exact⟨j+1,⟨by omega,hE⟩,td1,wkR⟩
         ·cases e1
        ·rcases hr with⟨_,e1,_⟩|⟨hc,e1,rfl⟩
         ·cases e1
         ·cases e1
          rw[hc,bi]at hE
          have hN:BG f=none:=by rw[d9];simp only[hR,JG,hE,Bool.and_false,bj,bd]
          exact finP (S':=S2.set im (.map (eSS (mt.params.take j)))) (d8 hN _ ⟨d,m,by rw[w8 _ _ ne1];exact o1⟩ (fU _ (iC _ fun j x hj hx=>by rw[w8 _ _ hj];exact hx)))
       ·have i0:j=mt.params.length:=by omega
        subst i0
        rw[A1 gK,sloE]at hE
        generalize f6:S2.set im _=S3
        have gB:∀j x,j≠im->S2 j=some x->S3 j=some x:=fun j x hj hx=>by rw[<-f6,w8 _ _ hj];exact hx
        have q1:=gB _ _ ne1 o1
        have q2:=gB _ _ ne2 o2
        have q3:=gB _ _ ne3 o3
        have jm:=iC _ gB
        clear gB f6
        have e8:∀(x:DObj),Keep (· = ip) S1 (S3.set ip x):=fun x j o h1 h2=>by rw[w8 _ _ h2];exact jm j o h1 h2
        have fW:=RV f ip ic is d m names ae mt.fact mt.params S3 (by omega) (by omega) ⟨iy,by omega⟩ q1 q2 q3
        repeat' first|refine gz ?_ o184|apply gy<;>intro hh
        cases fZ:CL names ae mt.params mt.fact m with
        |none=>
         rw[fZ]at fW
         have hN:BG f=none:=by rw[d9];simp only[hR,JG,fN,hE,fZ,dZ,bp]
         refine Ac fW (fun x S4 hr=>by cases hr.1) (fun x S4 hr=>?_)
         obtain⟨e1,m',rfl⟩:=hr
         cases e1
         exact finP (S':=_) (d8 hN _ ⟨d,m',w7 ..⟩ (fU _ (e8 _)))
        | some n2 =>
         rw[fZ]at fW
         have gJ:=Rr fZ iy
         refine Ac fW (fun x S4 hr=>?_) (fun x S4 hr=>by cases hr.1)
         obtain⟨e1,rfl⟩:=hr
         cases e1
         have r1:(S3.set ip (pObj f ic is d n2)) ip=some (pObj f ic is d n2):=w7 ..
         have r2:(S3.set ip (pObj f ic is d n2)) ic=some (.map (eSN (C4 names 0))):=by rw[w8 _ _ (aQ g8)];exact q2
         have r3:(S3.set ip (pObj f ic is d n2)) is=some (.map (eSS ae)):=by rw[w8 _ _ (aQ g6)];exact q3
         have d7:=Ly f ip ic is d n2 names ae mt.body mt.params (decide (mt.kind=1\/mt.kind=4)) _ (by omega) (by omega) ⟨gJ.1,by omega⟩ r1 r2 r3
         have fO:∀x S',C7 names ae mt.params (decide (mt.kind=1\/mt.kind=4)) mt.body n2=none->KnR f ip ic is d none (S3.set ip (pObj f ic is d n2)) (.panic x) S'->CntR f ip ic is V (.panic x) S':=fun x S' d6 hr=>by
          have hN:BG f=none:=by rw[d9];simp only[hR,JG,fN,hE,fZ,d6,dZ,bp]
          obtain⟨e1,m',rfl⟩:=hr
          cases e1
          rw[w9]
          exact d8 hN _ ⟨d,m',w7 ..⟩ (fU _ (e8 _))
         by_cases k1:mt.kind=1
         ·try refine gf k1 ?_ o184
          have hb:decide (mt.kind=1\/mt.kind=4)=true:=aX (.inl k1)
          rw[hb]at d7
          refine Ac d7 (fun x S4 hr=>?_) (fun x S4 hr=>?_)
          ·cases d6:C7 names ae mt.params true mt.body n2 with
           |none=>rw[d6]at hr;cases hr.1
           |some n3=>
            rw[d6]at hr
            obtain⟨e1,rfl⟩:=hr
            cases e1
            have fY:=Hy d6 gJ.1
            have gI:DK names ae f.methods n1=DK names ae (f.methods.drop (k+1)) n3:=by rw[hR];simp only[JG,fN,hE,fZ,hb,d6,dZ,bp]
            try refine gz ?_ o184
            exact⟨k+1,n3,S3.set ip (pObj f ic is d n3),⟨by omega,fY.1,fY.2,gI,w7 .., e8 _⟩,td1,wkR⟩
          ·cases d6:C7 names ae mt.params true mt.body n2 with
           |none=>rw[d6]at hr;exact finP (S':=S4) (fO _ _ (by rw[hb];exact d6) hr)
           |some n3=>rw[d6]at hr;cases hr.1
         ·by_cases k4:mt.kind=4
          ·try refine gf k4 ?_ o184
           have hb:decide (mt.kind=1\/mt.kind=4)=true:=aX (.inr k4)
           rw[hb]at d7
           refine Ac d7 (fun x S4 hr=>?_) (fun x S4 hr=>?_)
           ·cases d6:C7 names ae mt.params true mt.body n2 with
            |none=>rw[d6]at hr;cases hr.1
            |some n3=>
             rw[d6]at hr
             obtain⟨e1,rfl⟩:=hr
             cases e1
             have fY:=Hy d6 gJ.1
             have gI:DK names ae f.methods n1=DK names ae (f.methods.drop (k+1)) n3:=by rw[hR];simp only[JG,fN,hE,fZ,hb,d6,dZ,bp]
             try refine gz ?_ o184
             exact⟨k+1,n3,S3.set ip (pObj f ic is d n3),⟨by omega,fY.1,fY.2,gI,w7 .., e8 _⟩,td1,wkR⟩
           ·cases d6:C7 names ae mt.params true mt.body n2 with
            |none=>rw[d6]at hr;exact finP (S':=S4) (fO _ _ (by rw[hb];exact d6) hr)
            |some n3=>rw[d6]at hr;cases hr.1
          ·try refine gz ?_ o184
           have hb:decide (mt.kind=1\/mt.kind=4)=false:=aV fun h=>h.elim k1 k4
           rw[hb]at d7
           refine Ac d7 (fun x S4 hr=>?_) (fun x S4 hr=>?_)
           ·cases d6:C7 names ae mt.params false mt.body n2 with
            |none=>rw[d6]at hr;cases hr.1
            |some n3=>
             rw[d6]at hr
             obtain⟨e1,rfl⟩:=hr
             cases e1
             have fY:=Hy d6 gJ.1
             have gI:DK names ae f.methods n1=DK names ae (f.methods.drop (k+1)) n3:=by rw[hR];simp only[JG,fN,hE,fZ,hb,d6,dZ,bp]
             try refine gz ?_ o184
             exact⟨k+1,n3,S3.set ip (pObj f ic is d n3),⟨by omega,fY.1,fY.2,gI,w7 .., e8 _⟩,td1,wkR⟩
           ·cases d6:C7 names ae mt.params false mt.body n2 with
            |none=>rw[d6]at hr;exact finP (S':=S4) (fO _ _ (by rw[hb];exact d6) hr)
            |some n3=>rw[d6]at hr;cases hr.1
     ·rw[A1 e9,DK]at hR
      simp only at d9
      rw[hR]at d9
      simp only at d9
      have gX:=Lx f S2 hw
      try refine gz ?_ o184
      refine Ac gX (fun x S3 hr=>?_) (fun x S3 hr=>by cases hr.1)
      obtain⟨e1,rfl⟩:=hr
      cases e1
      have je:(BM f).1.length<=100000000:=by have:=FU f;omega
      cases gC:(BM f).2 with
      |false=>
       have hN:BG f=none:=by rw[d9,gC];rfl
       repeat' first|(exact finP (S':=S3) (d8 hN _ ⟨d,m,o1⟩ (fU _ hK)))|refine gf gC ?_ o184|apply gy<;>intro hh
      | true =>
       rw[gC,aW]at d9
       by_cases iF:(BM f).1.length<=8
       ·rw[aS (aX iF)]at d9
        try refine gf gC ?_ o184
        refine Ef (S':=S3) ⟨by rw[d9],⟨d,m,o1⟩,fU _ hK⟩
       ·have hN:BG f=none:=by rw[d9,aN (by simpa using iF)]
        repeat' first|(exact finP (S':=S3) (d8 hN _ ⟨d,m,o1⟩ (fU _ hK)))|refine gf gC ?_ o184|apply gy<;>intro hh
   ·rw[aN iK]at d9
    repeat' first|(exact finP (S':=S1) (d8 d9 S1 ⟨d,_,q1⟩ q5))|refine gf q1 ?_ o184|apply gy<;>intro hh
  ·unfold ClsR at hr;rw[hC,aS rfl]at hr;cases hr.1
theorem U7(f:aF)(V:Sig)(hw:f.wt<=100000000):au prog 98 [.agg (Bd f)] V fun x S'=> ∃n,x=.ret (.tup [dI n,.bool (BG f).isSome])/\S'=V:=by
 refine en func98 ntmps98 ?_
 try refine gz ?_
 refine Tn (fun ic gM=>?_)
 try refine gz ?_
 refine Mj (fun is jc=>?_)
 repeat ((fail_if_success (first|(refine boxV (T:=256) (fun ip gR=>?_))|fail));(refine goX1 trivial ?_))
 refine boxV (T:=256) (fun ip gR=>?_)
 obtain⟨n1,h1⟩:=A4 jc
 obtain⟨n2,h2⟩:=A4 gR
 obtain⟨n3,h3⟩:=A4 h2
 generalize f6:Sig.set _ ip _=S3
 have o1:S3 ip=some (pObj f ic is .ak 0):=by rw[<-f6];exact w7 ..
 have o2:S3 ic=some (.map (eSN [])):=by rw[<-f6,w8 _ _ (aQ n3),w8 _ _ (aQ n1)];exact w7 ..
 have o3:S3 is=some (.map (eSS [])):=by rw[<-f6,w8 _ _ (aQ n2)];exact w7 ..
 have hS:Sub V S3:=fun j x hj=>by rw[<-f6,w8 _ _ (A0 hj h3),w8 _ _ (A0 hj h1),w8 _ _ (A0 hj gM)];exact hj
 clear f6
 try refine gz ?_
 refine Ac (V4 184 [.am [.ptr ip 0] 0,.am (Bd f) 0] S3 (CntR f ip ic is) (fun i hi=>?_) (fun S' d S'' h=>?_) (fun i S'' x hi h=>?_)) (fun x S' hr=>?_) (fun x S' hr=>?_)
 ·have e:∀{j o},S3 j=some o->(S3.set i (.cells [.bool false])) j=some o:=fun hj=>by rw[w8 _ _ (A0 hj hi)];exact hj
  exact RW f ip ic is _ hw ⟨e o1,e o2,e o3,.inl ⟨rfl,rfl⟩,Keep.refl _ _⟩ (aQ n1)
 ·have:=h.1
  split at this
  ·cases this
  ·cases this;rfl
 ·refine h.2.2 i _ (w7 ..) fun ht=>?_
  rcases ht with rfl|rfl|rfl
  ·rw[o1]at hi;cases hi
  ·rw[o2]at hi;cases hi
  ·rw[o3]at hi;cases hi
 ·obtain⟨i,S'',hi,rfl,hr⟩:=hr
  have key:∀y,CntR f ip ic is (S3.set i (.cells [.bool false])) y S''->(∃d n,(S''.del i) ip=some (pObj f ic is d n))/\Sub V (S''.del i):=fun y hy=>by
   obtain⟨_,⟨d,n,h5⟩,hK⟩:=hy
   have ni:ip≠i:=A0 o1 hi
   refine⟨⟨d,n,by simp only[Sig.del,ni,bd];exact h5⟩,fun j x hj=>?_⟩
   have gL:=hS _ _ hj
   have ni:j≠i:=A0 gL hi
   simp only[Sig.del,ni,bd]
   refine hK j x (by rw[w8 _ _ ni];exact gL) fun ht=>?_
   rcases ht with rfl|rfl|rfl
   ·rw[h3]at hj;cases hj
   ·rw[gM]at hj;cases hj
   ·rw[h1]at hj;cases hj
  rcases hr with⟨d,hr,e1⟩|⟨hr,e1⟩
  ·cases e1
   obtain⟨⟨d',n,o5⟩,jk⟩:=key _ hr
   have hs:(BG f).isSome=true:=by
    have:=hr.1
    cases h:BG f with
    |none=>rw[h]at this;cases this
    |some k=>rfl
   try refine gf o5 ?_
   exact fin2 (S':=V) ⟨n,by rw[hs],rfl⟩
  ·cases e1
   obtain⟨⟨d',n,o5⟩,jk⟩:=key _ hr
   have hs:(BG f).isSome=false:=by
    have:=hr.1
    cases h:BG f with
    |none=>rfl
    |some k=>rw[h]at this;cases this
   try refine gf o5 ?_
   exact fin2 (S':=V) ⟨n,by rw[hs],rfl⟩
 ·obtain⟨i,S'',hi,_,hr⟩:=hr
  rcases hr with⟨d,_,e1⟩|⟨_,e1⟩<;>cases e1
theorem Qy(f:aF)(V:Sig)(hw:f.wt<=100000000):au prog 47 [.agg (Bd f)] V (rS (dI (if(BG f).isSome then 0 else 2)) V):=by
 refine en func47 ntmps47 ?_
 try refine gz ?_
 refine Ac (U7 f V hw) (fun x S' hr=>?_) (fun x S' hr=>by obtain⟨_,h,_⟩:=hr;cases h)
 obtain⟨n,e1,rfl⟩:=hr
 cases e1
 cases hs:(BG f).isSome with
 |false=>
  try refine gf hs ?_
  exact fe1 trivial
 |true=>
  try refine gf hs ?_
  exact fe1 trivial
@[reducible,instance] def a47:=fun f V=>ah1 (@Qy f V)
def AN(f:aF):fD:=f.aa.flatMap (·.ae)
theorem KS(f:aF):(AN f).length<=f.wt:=by
 have h:∀l:List aD,(l.flatMap (·.ae)).length<=wtL aD.wt l:=by
  intro l
  induction l with
  |nil=>simp[wtL]
  |cons c l ih=>simp only[cz,aH,wtL];have:=Bb c.ae;have:=c.wt_le;omega
 have:=h f.aa
 unfold AN aF.wt;omega
theorem WT(f:aF)(V:Sig)(hw:f.wt<=100000000)(hs:(BG f).isSome=true):au prog 99 [.agg (Bd f)] V (rS (.tup [sl (cS (AN f)),dI 0]) V):=by
 obtain⟨p1,p2,p3,p4,p5⟩:=f.wt_le
 have gu:=KS f
 refine en func99 ntmps99 ?_
 try refine gf hs ?_
 refine Bv 4 1 (fun i hi=>?_)
 refine AB [2,3,11,12,22,23] (fun (k:Nat) (out:fD)=>k<=f.aa.length/\AN f=out++(f.aa.drop k).flatMap (·.ae)) (fun k out=>[(13,dI k),(4,.slice (cS out) (.tag i))]) (fun _ out=>V.set i (.tail 1 out.length)) (fun k _=>f.aa.length-k) (0) ([]) (by simp[AN]) (fun k out hI=>?_)
 obtain⟨hk,hR⟩:=hI
 by_cases e9:k<f.aa.length
 ·rw[A2 e9,cz,<-aT]at hR
  have iV:out.length+(f.aa[k]).ae.length<=100000000:=by rw[hR]at gu;simp only[aH]at gu;omega
  try refine gz ?_
  exact⟨k+1,out++(f.aa[k]).ae,⟨by omega,hR⟩,td1,wkR⟩
 ·rw[A1 e9,eC,bb]at hR
  have iV:out.length<=100000000:=by rw[hR]at gu;omega
  try refine gz ?_
  rw[hR]
  exact fin2 (S':=V) ⟨rfl,rfl⟩
@[reducible,instance] def a99:=fun f V=>ah2 (@WT f V)
theorem VK(f:aF)(V:Sig)(hw:f.wt<=100000000)(hs:(BG f).isSome=true):au prog 100 [.agg (Bd f)] V (rS (.tup [sl (cS ((BM f).1.map (·.1))),dI 0]) V):=by
 refine en func100 ntmps100 ?_
 try refine gf hs ?_
 refine Ac (Lx f V hw) (fun x S3 hr=>?_) (fun x S3 hr=>by cases hr.1)
 obtain⟨e1,rfl⟩:=hr
 cases e1
 try refine gz ?_
 exact fin2 (S':=S3) ⟨rfl,rfl⟩
@[reducible,instance] def a100:=fun f V=>ah2 (@VK f V)
end Go.DL
