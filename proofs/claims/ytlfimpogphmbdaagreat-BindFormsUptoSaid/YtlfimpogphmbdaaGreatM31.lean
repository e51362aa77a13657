/- Part of the proof that the last text ends. -/
import Derived.Test.YtlfimpogphmbdaaGreatM30
import Derived.Test.YtlfimpogphmbdaaGreatM29
import Derived.Test.YtlfimpogphmbdaaGreatM26
import Derived.Test.YtlfimpogphmbdaaGreatM25
set_option linter.all false
namespace Go.DL
open Go.Proofs.Tryz
open Go Go.Proofs
set_option maxHeartbeats 8000000
structure D1S(i7 j1 j2 j3:Nat)(nm:Str)(ps ss:List Str)(is:List FInit)(V S1:Sig):Prop where
 o7:S1 i7=some (.cells [.str nm,.slice (cS ps) (.tag j1),.slice (cS ss) (.tag j2),.slice (is.map D5) (.tag j3)])
 o1:S1 j1=some (.tail 1 ps.length)
 o2:S1 j2=some (.tail 1 ss.length)
 o3:S1 j3=some (.tail 2 is.length)
 hS:Sub V S1
section
variable {i7 j1 j2 j3:Nat}{nm:Str}{ps ss:List Str}{is:List FInit}{V S1:Sig}
theorem D1S.par(h:D1S i7 j1 j2 j3 nm ps ss is V S1)(v:Str)(bC:j1≠j2)(bB:j1≠j3)(h7:V i7=none)(h1:V j1=none):
  D1S i7 j1 j2 j3 nm (ps++[v]) ss is V ((S1.set j1 (.tail 1 (ps.length+1))).set i7 (.cells [.str nm,.slice (cS ps++[[.str v]]) (.tag j1),.slice (cS ss) (.tag j2),.slice (is.map D5) (.tag j3)])):=by
 have n1:j1≠i7:=Ac h.o1 h.o7 (by simp)
 have n2:j2≠i7:=Ac h.o2 h.o7 (by simp)
 have n3:j3≠i7:=Ac h.o3 h.o7 (by simp)
 refine⟨by rw[w7];simp[cS],by rw[w8 _ _ n1,w7,List.length_append];rfl,by rw[w8 _ _ n2,w8 _ _ (Ne.symm bC)];exact h.o2,by rw[w8 _ _ n3,w8 _ _ (Ne.symm bB)];exact h.o3,fun j o hj=>?_⟩
 rw[w8 _ _ (A3 hj h7),w8 _ _ (A3 hj h1)];exact h.hS j o hj
theorem D1S.slo(h:D1S i7 j1 j2 j3 nm ps ss is V S1)(v:Str)(bC:j1≠j2)(bz:j2≠j3)(h7:V i7=none)(h1:V j2=none):
  D1S i7 j1 j2 j3 nm ps (ss++[v]) is V ((S1.set j2 (.tail 1 (ss.length+1))).set i7 (.cells [.str nm,.slice (cS ps) (.tag j1),.slice (cS ss++[[.str v]]) (.tag j2),.slice (is.map D5) (.tag j3)])):=by
 have n1:j1≠i7:=Ac h.o1 h.o7 (by simp)
 have n2:j2≠i7:=Ac h.o2 h.o7 (by simp)
 have n3:j3≠i7:=Ac h.o3 h.o7 (by simp)
 refine⟨by rw[w7];simp[cS],by rw[w8 _ _ n1,w8 _ _ bC];exact h.o1,by rw[w8 _ _ n2,w7,List.length_append];rfl,by rw[w8 _ _ n3,w8 _ _ (Ne.symm bz)];exact h.o3,fun j o hj=>?_⟩
 rw[w8 _ _ (A3 hj h7),w8 _ _ (A3 hj h1)];exact h.hS j o hj
theorem D1S.ini(h:D1S i7 j1 j2 j3 nm ps ss is V S1)(v:FInit)(bB:j1≠j3)(bz:j2≠j3)(h7:V i7=none)(h1:V j3=none):
  D1S i7 j1 j2 j3 nm ps ss (is++[v]) V ((S1.set j3 (.tail 2 (is.length+1))).set i7 (.cells [.str nm,.slice (cS ps) (.tag j1),.slice (cS ss) (.tag j2),.slice (is.map D5++[D5 v]) (.tag j3)])):=by
 have n1:j1≠i7:=Ac h.o1 h.o7 (by simp)
 have n2:j2≠i7:=Ac h.o2 h.o7 (by simp)
 have n3:j3≠i7:=Ac h.o3 h.o7 (by simp)
 refine⟨by rw[w7];simp,by rw[w8 _ _ n1,w8 _ _ bB];exact h.o1,by rw[w8 _ _ n2,w8 _ _ bz];exact h.o2,by rw[w8 _ _ n3,w7,List.length_append];rfl,fun j o hj=>?_⟩
 rw[w8 _ _ (A3 hj h7),w8 _ _ (A3 hj h1)];exact h.hS j o hj
end
structure E1S(i2 i4 ic im:Nat)(cl:List FClass)(ms:List FMeth)(V S1:Sig):Prop where
 o4:S1 i4=some (.cells [.slice (cl.map cFClass) (.tag ic),.slice (ms.map BC) (.tag im),dI 0,dI 0,.str [],.nils])
 oc:S1 ic=some (.tail 4 cl.length)
 om:S1 im=some (.tail 13 ms.length)
 o2:S1 i2=some (.cells [.nils,.nils,dI 0,dI 0,.str [],.nils])
 hS:Sub V S1
theorem E1S.cls{i2 i4 ic im:Nat}{cl:List FClass}{V S6 S11:Sig}(h:E1S i2 i4 ic im cl [] V S6)(hS:Sub S6 S11)(hb:V i4=none)(hc:V ic=none)(x:FClass):
  E1S i2 i4 ic im (cl++[x]) [] V ((S11.set ic (.tail 4 (cl.length+1))).set i4 (.cells [.slice (cl.map cFClass++[cFClass x]) (.tag ic),.slice [] (.tag im),dI 0,dI 0,.str [],.nils])):=by
 have n1:ic≠i4:=Ac h.oc h.o4 (by simp)
 have n2:im≠i4:=Ac h.om h.o4 (by simp)
 have n3:i2≠i4:=Ac h.o2 h.o4 (by simp)
 have n4:im≠ic:=Ac h.om h.oc (by simp)
 have n5:i2≠ic:=Ac h.o2 h.oc (by simp)
 refine⟨by rw[w7];simp,by rw[w8 _ _ n1,w7,List.length_append];rfl,by rw[w8 _ _ n2,w8 _ _ n4];exact hS _ _ h.om,by rw[w8 _ _ n3,w8 _ _ n5];exact hS _ _ h.o2,fun j o hj=>?_⟩
 rw[w8 _ _ (A3 hj hb),w8 _ _ (A3 hj hc)];exact hS _ _ (h.hS j o hj)
structure G1S(i2 i4 im:Nat)(cd:D)(ms:List FMeth)(V S1:Sig):Prop where
 o4:S1 i4=some (.cells [cd,.slice (ms.map BC) (.tag im),dI 0,dI 0,.str [],.nils])
 om:S1 im=some (.tail 13 ms.length)
 o2:S1 i2=some (.cells [.nils,.nils,dI 0,dI 0,.str [],.nils])
 hS:Sub V S1
theorem W7(p:BProg)(V:Sig)(hp:SpOK p)(aU:p.slots<=128)(cJ:p.nodes.length<=120)(cw:p.classes.length<=100)(cr:p.gens.length<=100):DCall prog 57 [.agg (Am p)] V (rS (.agg (B7 (Dm p))) V):=by
 obtain⟨p1,p2,p3,p4,p5,p6,p7⟩:=p.wt_le
 have cH:=hp.wt
 obtain⟨s0,s1⟩:=hp.slots
 obtain⟨sn,aT⟩:∃n:Nat,p.slots=n:=⟨p.slots.toNat,by omega⟩
 have ap:p.slots.toNat=sn:=by omega
 have aY:(B1 p.classes.length).length=p.classes.length:=Br _
 have aX:(spS p).length=sn:=by unfold spS;rw[Br,ap]
 have bp:(spG p).length=p.gens.length:=Br _
 have bM:(spL p).length=p.nodes.length+3:=Br _
 have eS:B1 sn=spS p:=by unfold spS;rw[ap]
 have hA:spA p=lits3++B1 p.classes.length:=rfl
 have k73:∀(n:Nat),n<=128->∀V:Sig,DCall prog 73 [.nils,dI (n:Int)] V (rS (sl (cS (B1 n))) V):=fun n hn V=>
  DCall.wk (PB n [] (B1 n) .no V (by simp;omega) (MG hn)) (BL (Al _ (.inl rfl)) (BL (A8 _) IA))
 have iA:∀V:Sig,Ans 73 [.nils,dI p.classes.length] V True (sl (cS (B1 p.classes.length))):=fun V=>ah0 (k73 _ (by omega) V)
 have iS:∀V:Sig,Ans 73 [.nils,dI sn] V True (sl (cS (spS p))):=fun V=>ah0 (by rw[<-eS];exact k73 sn (by omega) V)
 have iG:∀V:Sig,Ans 73 [.nils,dI p.gens.length] V True (sl (cS (spG p))):=fun V=>ah0 (k73 _ (by omega) V)
 have aB:cSp0 p (B1 p.classes.length) (spS p) (spG p)=.cptr [sl (p.classes.map Ae),dI p.slots,sl (cI p.gens),sl (p.methods.map Aq),sl (p.nodes.map Ai),dI p.main,sl (cS (B1 p.classes.length)),sl (cS (spS p)),sl (cS (spG p))] 0:=rfl
 have bT:∀t,t<(spL p).length->refM (t+1) [] []=some ((spL p).take (t+1)):=fun t ht=>by
  rw[MG (by omega)];unfold spL;rw[KF (by omega)]
 refine en func57 ntmps57 ?_
 refine gz ?_ o57 [2,4,7,13,15]
 refine newV (fun i2 bO=>?_)
 refine gf aT ?_ (delO 1 o57) [2,4,7,13,15]
 refine mixL (id:=1) [0,1,2,3,5,6,8,9,10,4,7,11,12,13] [4,7,11] ?_
 refine gf aT ?_ o57 [2,4,7,13,15]
 refine rtl 3 (cSp0 p (B1 p.classes.length) (spS p) (spG p)) ?_ (hw:=AS (by rw[aB,aT];rfl))
 have aP:(spCs p).length=p.classes.length:=by unfold spCs;rw[List.length_map,List.length_zip,Br];omega
 have aQ:∀(k:Nat) (h:k<p.classes.length) (h2:k<(B1 p.classes.length).length),(spCs p).take (k+1)=(spCs p).take k++[⟨(B1 p.classes.length)[k]'h2,(p.classes[k]).parents.map (ixS (spA p)),(p.classes[k]).slots.map (ixS (spS p)),(p.classes[k]).inits.map fun x=>⟨ixS (spS p) x.slot,x.n⟩⟩]:=fun k h h2=>by
  rw[List.take_succ_eq_append_getElem (by omega)]
  congr 2
  unfold spCs
  rw[List.getElem_map,List.getElem_zip];rfl
 have aM:spA p=lits3++B1 p.classes.length:=rfl
 have aS:Dm p=⟨spCs p,p.methods.map (spM p),(spE p (spA p) (spS p) (spG p) (spL p) 12 p.main [] 0).1⟩:=rfl
 rw[aS]
 generalize spCs p=CS at*
 have cW:(spA p).length=3+p.classes.length:=by rw[aM,List.length_append,aY];rfl
 generalize cT:B1 p.classes.length=NM at*
 refine newV (fun i4 cq=>?_)
 refine gz ?_ o57 [2,4,7,13,15]
 obtain⟨a1,a2⟩:=A4 cq
 refine AD i4 0 4 (w7 ..) rfl (fun ic bk=>?_)
 obtain⟨b1,b2⟩:=A4 bk
 obtain⟨b3,b4⟩:=A4 b2
 refine AD i4 1 13 (w7 ..) rfl (fun im aO=>?_)
 obtain⟨c1,c2⟩:=A4 aO
 obtain⟨c3,c4⟩:=A4 c2
 obtain⟨c5,c6⟩:=A4 c4
 obtain⟨c7,c8⟩:=A4 c6
 generalize bR:Sig.set (Sig.set _ im _) i4 _=S5
 have bU:E1S i2 i4 ic im (CS.take 0) [] V S5:=by
  have a1':=Ne.symm a1
  have b1':=Ne.symm b1
  have b3':=Ne.symm b3
  have c1':=Ne.symm c1
  have c3':=Ne.symm c3
  have c7':=Ne.symm c7
  rw[<-bR]
  refine⟨by rw[w7];rfl,?_,?_,?_,fun j x hj=>?_⟩
  ·rw[w8 _ _ b1,w8 _ _ c3',w8 _ _ b1];exact w7 ..
  ·rw[w8 _ _ c1];exact w7 ..
  ·rw[w8 _ _ a1',w8 _ _ c7',w8 _ _ a1',w8 _ _ b3',w8 _ _ a1'];exact w7 ..
  ·rw[w8 _ _ (A3 hj a2),w8 _ _ (A3 hj c8),w8 _ _ (A3 hj a2),w8 _ _ (A3 hj b4),w8 _ _ (A3 hj a2),w8 _ _ (A3 hj bO)];exact hj
 clear bR aS
 have aq:V i4=none:=a2
 have bu:V ic=none:=b4
 have br:V im=none:=c8
 refine AA [1,2,3,4,11,12,13,14,15,129,130,131,132,133,134,135,136,137,138,139,140,141,142,143,144,145,146,147,148,149,150,151,152,153,154,155,156,157,158,159,160,161,162,163,164,165,166,167,168,169,170,171,172,173,174,175,176,177,178,179,180,181] (fun (k:Nat) (S6:Sig)=>k<=p.classes.length/\E1S i2 i4 ic im (CS.take k) [] V S6) (fun k _=>[(5,dI k)]) (fun _ S6=>S6) (fun k _=>p.classes.length-k) (0) (S5) (by exact⟨by omega,bU⟩) (fun k S6 hI=>?_)
 obtain⟨hk,hE⟩:=hI
 by_cases ak:k<p.classes.length
 ·have cO:=p5 k ak
  have ci:k<NM.length:=by omega
  have aR:=aQ k ak ci
  have bw:(CS.take k).length=k:=by rw[List.length_take];omega
  generalize CS.take k=CT at hE aR bw
  obtain⟨x1,x2,x3⟩:=hp.cls _ (List.getElem_mem ak)
  generalize cy:p.classes[k]=c at*
  have cP:c.wt=1+c.parents.length+c.slots.length+c.inits.length:=rfl
  generalize bI:NM[k]=nm at*
  refine gf (gi cy (gi aB bI)) ?_ o57 [2,4,7,13,15]
  refine newV (fun i7 aJ=>?_)
  refine gz ?_ o57 [2,4,7,13,15]
  refine AD i7 1 1 (w7 ..) rfl (fun j1 co=>?_)
  obtain⟨g1,g2⟩:=A4 co
  refine AD i7 2 1 (w7 ..) rfl (fun j2 cn=>?_)
  obtain⟨k1,k2⟩:=A4 cn
  obtain⟨k3,k4⟩:=A4 k2
  obtain⟨k5,k6⟩:=A4 k4
  refine AD i7 3 2 (w7 ..) rfl (fun j3 bj=>?_)
  obtain⟨l1,l2⟩:=A4 bj
  obtain⟨l3,l4⟩:=A4 l2
  obtain⟨l5,l6⟩:=A4 l4
  obtain⟨l7,l8⟩:=A4 l6
  obtain⟨l9,l10⟩:=A4 l8
  generalize bc:Sig.set (Sig.set _ j3 _) i7 _=S7
  have cG:D1S i7 j1 j2 j3 nm [] [] [] S6 S7:=by
   have k3':=Ne.symm k3
   have l3':=Ne.symm l3
   have l7':=Ne.symm l7
   rw[<-bc]
   refine⟨by rw[w7];rfl,?_,?_,?_,fun j x hj=>?_⟩
   ·simp[w8 _ _ g1,w8 _ _ k3',w8 _ _ l7']
   ·simp[w8 _ _ k1,w8 _ _ l3']
   ·simp[w8 _ _ l1]
   ·have m2:j≠i7:=A3 hj aJ
    have m3:j≠j1:=A3 hj g2
    have m4:j≠j2:=A3 hj k6
    have m5:j≠j3:=A3 hj l10
    simp only[w8 _ _ m2,w8 _ _ m3,w8 _ _ m4,w8 _ _ m5]
    exact hj
  clear bc
  have aA:∀x∈c.parents,InR x (3+NM.length):=fun x hx=>by rw[aY];exact x1 x hx
  have cg:∀x∈c.slots,InR x (spS p).length:=fun x hx=>by rw[aX,<-ap];exact x2 x hx
  have cj:∀x∈c.inits,InR x.slot (spS p).length:=fun x hx=>by rw[aX,<-ap];exact x3 x hx
  clear x1 x2 x3
  refine D6 [1,2,3,4,5,6,7,9,10,11,12,13,14,15,30,31,32,33,34,35,36,37,38,39,40,41,42,43,44,45,46,47,48,49,69,70,71,72,73,74,75,76,77,78,79,80,81,82,83,84,85,86,87,88,89,90,91,92,93,94,95,96,97,98,99,100,101,102,103,104,105,106,107,108,109,110,111,112,113,114,115,116,117,118,119,120,121,122,123,124,125,126,127,128,129,130,131,132,133,134,135,136,137,138,139,140,141,142,143,144,145,146,147,148,149,150,151,152,153,154,155,156,157,158,159,160,161,162,163,164,165,166,167,168,169,170,171,172,173,174,175,176,177,178,179,180,181] (fun (q:Nat) (ps:List Str) (S8:Sig)=>q<=c.parents.length/\ps++(c.parents.drop q).map (ixS (spA p))=c.parents.map (ixS (spA p))/\D1S i7 j1 j2 j3 nm ps [] [] S6 S8) (fun q _ _=>[(8,dI q)]) (fun _ _ S8=>S8) (fun q _ _=>c.parents.length-q) (0) ([]) (_) (by exact⟨by omega,rfl,cG⟩) (fun q ps S8 hI=>?_)
  obtain⟨hq,be,hD⟩:=hI
  by_cases am:q<c.parents.length
  ·rw[A0 am,List.map_cons]at be
   have hlen:=congrArg List.length be
   simp at hlen
   have u1:i7≠j1:=Ac hD.o7 hD.o1 (by simp)
   have b7:(S8.out fun j=>j=j1) i7=_:=DG hD.o7 u1
   have ai:Sub (S8.out fun j=>j=j1) S8:=Bv _ _
   have aD:Sub (S8.out fun j=>j=j1) (S8.set j1 (.tail 1 (ps.length+1))):=fun j o hj=>by
    obtain⟨h1,h2⟩:=C1 hj
    rw[w8 _ _ h2];exact h1
   have o1:=hD.o1
   have o7:=hD.o7
   have i145:∀V:Sig,Ans 145 [cSp0 p NM (spS p) (spG p),dI c.parents[q]] V True (.str (ixS (spA p) c.parents[q])):=fun V=>ah0 (by rw[aM];exact Hn p NM (spS p) (spG p) _ V (aA _ (List.getElem_mem am)) (by omega))
   refine gz ?_ (delO 11 o57) [2,4,7,13,15]
   refine Do (id:=11) [0,1,2,3,4,5,6,7,8,9,10,11] [8,10] (S8.out fun j=>j=j1) ai ?_
   refine gf (gi b7 (gi o1 o7)) ?_ o57 [2,4,7,13,15]
   exact⟨q+1,ps++[ixS (spA p) c.parents[q]],_,⟨by omega,by rw[List.append_assoc];exact be,hD.par _ (Ne.symm k3) (Ne.symm l7) aJ g2⟩,td1,wkR⟩
  ·rw [A1 am,List.map_nil,List.append_nil] at be
   subst be
   refine gz ?_ o57 [2,4,7,13,15]
   clear hq am
   refine D6 [1,2,3,4,5,6,7,8,10,11,12,13,14,15,30,31,32,33,34,35,36,37,38,39,40,41,42,43,44,45,46,47,48,49,50,51,52,53,54,55,56,57,58,59,60,61,62,63,64,65,66,67,68,92,93,94,95,96,97,98,99,100,101,102,103,104,105,106,107,108,109,110,111,112,113,114,115,116,117,118,119,120,121,122,123,124,125,126,127,128,129,130,131,132,133,134,135,136,137,138,139,140,141,142,143,144,145,146,147,148,149,150,151,152,153,154,155,156,157,158,159,160,161,162,163,164,165,166,167,168,169,170,171,172,173,174,175,176,177,178,179,180,181] (fun (q:Nat) (ss:List Str) (S9:Sig)=>q<=c.slots.length/\ss++(c.slots.drop q).map (ixS (spS p))=c.slots.map (ixS (spS p))/\D1S i7 j1 j2 j3 nm (c.parents.map (ixS (spA p))) ss [] S6 S9) (fun q _ _=>[(9,dI q)]) (fun _ _ S9=>S9) (fun q _ _=>c.slots.length-q) (0) ([]) (_) (by exact⟨by omega,rfl,hD⟩) (fun q ss S9 hI=>?_)
   obtain⟨hq,bd,aL⟩:=hI
   by_cases am:q<c.slots.length
   ·rw[A0 am,List.map_cons]at bd
    have hlen:=congrArg List.length bd
    simp at hlen
    obtain⟨r,e1,hr,e2⟩:=BP (cg _ (List.getElem_mem am))
    have u1:i7≠j2:=Ac aL.o7 aL.o2 (by simp)
    have b7:(S9.out fun j=>j=j2) i7=_:=DG aL.o7 u1
    have ai:Sub (S9.out fun j=>j=j2) S9:=Bv _ _
    have aD:Sub (S9.out fun j=>j=j2) (S9.set j2 (.tail 1 (ss.length+1))):=fun j o hj=>by
     obtain⟨h1,h2⟩:=C1 hj
     rw[w8 _ _ h2];exact h1
    have o2:=aL.o2
    have o7:=aL.o7
    refine gz ?_ (delO 15 o57) [2,4,7,13,15]
    refine Do (id:=15) [0,1,2,3,4,5,6,7,8,9,10,11,12,13,14,15] [14] (S9.out fun j=>j=j2) ai ?_
    refine gf (gi b7 (gi o2 (gi o7 (gi aB (gi e1 e2))))) ?_ o57 [2,4,7,13,15]
    rw[<-e2]
    exact⟨q+1,ss++[ixS (spS p) c.slots[q]],_,⟨by omega,by rw[List.append_assoc];exact bd,aL.slo _ (Ne.symm k3) (Ne.symm l3) aJ k6⟩,td1,wkR⟩
   ·rw[A1 am,List.map_nil,List.append_nil]at bd
    subst bd
    refine gz ?_ o57 [2,4,7,13,15]
    clear hq am hD
    refine D6 [1,2,3,4,5,6,7,8,9,11,12,13,14,15,30,31,32,33,34,35,36,37,38,39,40,41,42,43,44,45,46,47,48,49,50,51,52,53,54,55,56,57,58,59,60,61,62,63,64,65,66,67,68,69,70,71,72,73,74,75,76,77,78,79,80,81,82,83,84,85,86,87,88,89,90,91,123,124,125,126,127,128,129,130,131,132,133,134,135,136,137,138,139,140,141,142,143,144,145,146,147,148,149,150,151,152,153,154,155,156,157,158,159,160,161,162,163,164,165,166,167,168,169,170,171,172,173,174,175,176,177,178,179,180,181] (fun (q:Nat) (is:List FInit) (S10:Sig)=>q<=c.inits.length/\is++((c.inits.drop q).map fun x=>(⟨ixS (spS p) x.slot,x.n⟩:FInit))=(c.inits.map fun x=>(⟨ixS (spS p) x.slot,x.n⟩:FInit))/\D1S i7 j1 j2 j3 nm (c.parents.map (ixS (spA p))) (c.slots.map (ixS (spS p))) is S6 S10) (fun q _ _=>[(10,dI q)]) (fun _ _ S10=>S10) (fun q _ _=>c.inits.length-q) (0) ([]) (_) (by exact⟨by omega,rfl,aL⟩) (fun q is S10 hI=>?_)
    obtain⟨hq,bf,hD⟩:=hI
    by_cases am:q<c.inits.length
    ·rw[A0 am,List.map_cons]at bf
     have hlen:=congrArg List.length bf
     simp at hlen
     obtain⟨r,e1,hr,e2⟩:=BP (cj _ (List.getElem_mem am))
     have u1:i7≠j3:=Ac hD.o7 hD.o3 (by simp)
     have b7:(S10.out fun j=>j=j3) i7=_:=DG hD.o7 u1
     have ai:Sub (S10.out fun j=>j=j3) S10:=Bv _ _
     have aD:Sub (S10.out fun j=>j=j3) (S10.set j3 (.tail 2 (is.length+1))):=fun j o hj=>by
      obtain⟨h1,h2⟩:=C1 hj
      rw[w8 _ _ h2];exact h1
     have o3:=hD.o3
     have o7:=hD.o7
     refine gz ?_ (delO 19 o57) [2,4,7,13,15]
     refine Do (id:=19) [0,1,2,3,4,5,6,7,8,9,10,11,12,13,14,15,16,17,18,19,20,21,22,23] [22] (S10.out fun j=>j=j3) ai ?_
     refine gf (gi b7 (gi o3 (gi o7 (gi aB (gi e1 e2))))) ?_ o57 [2,4,7,13,15]
     rw[<-e2]
     exact⟨q+1,is++[⟨ixS (spS p) c.inits[q].slot,c.inits[q].n⟩],_,⟨by omega,by rw[List.append_assoc];exact bf,hD.ini _ (Ne.symm l7) (Ne.symm l3) aJ l10⟩,td1,wkR⟩
    ·rw[A1 am,List.map_nil,List.append_nil]at bf
     subst bf
     have o7:=hD.o7
     have o4:=hD.hS _ _ hE.o4
     have oc:=hD.hS _ _ hE.oc
     refine gz ?_ o57 [2,4,7,13,15]
     refine BE (CV (az:=[.str nm]) (bs:=[.slice (cS (c.slots.map (ixS (spS p)))) (.tag j2),.slice ((c.inits.map fun x=>(⟨ixS (spS p) x.slot,x.n⟩:FInit)).map D5) (.tag j3)]) (d':=sl (cS (c.parents.map (ixS (spA p))))) o7 (AE _ _)) ?_
     refine BE (CV (az:=[.str nm,sl (cS (c.parents.map (ixS (spA p))))]) (bs:=[.slice ((c.inits.map fun x=>(⟨ixS (spS p) x.slot,x.n⟩:FInit)).map D5) (.tag j3)]) (d':=sl (cS (c.slots.map (ixS (spS p))))) (w7 ..) (AE _ _)) ?_
     refine BE (CV (az:=[.str nm,sl (cS (c.parents.map (ixS (spA p)))),sl (cS (c.slots.map (ixS (spS p))))]) (bs:=[]) (d':=sl ((c.inits.map fun x=>(⟨ixS (spS p) x.slot,x.n⟩:FInit)).map D5)) (w7 ..) (AE _ _)) ?_
     simp only[w9,List.nil_append,List.cons_append,List.singleton_append]
     have n74:i7≠i4:=Ne.symm (A3 hE.o4 aJ)
     have n7c:i7≠ic:=Ne.symm (A3 hE.oc aJ)
     have n4c:i4≠ic:=Ac hE.o4 hE.oc (by simp)
     generalize ax:Sig.set S10 i7 _=S11
     have q7:S11 i7=some (.cells (cFClass ⟨nm,c.parents.map (ixS (spA p)),c.slots.map (ixS (spS p)),c.inits.map fun x=>⟨ixS (spS p) x.slot,x.n⟩⟩)):=by rw[<-ax];exact w7 ..
     have q4:S11 i4=S10 i4:=by rw[<-ax,w8 _ _ (Ne.symm n74)]
     rw[o4]at q4
     have qc:S11 ic=S10 ic:=by rw[<-ax,w8 _ _ (Ne.symm n7c)]
     rw[oc]at qc
     have bx:Sub S6 S11:=by rw[<-ax];exact hD.hS.set aJ
     clear ax
     generalize cV:(⟨nm,c.parents.map (ixS (spA p)),c.slots.map (ixS (spS p)),c.inits.map fun x=>⟨ixS (spS p) x.slot,x.n⟩⟩:FClass)=fc at*
     refine gf (gi q7 (gi q4 qc)) ?_ o57 [2,4,7,13,15]
     exact⟨k+1,_,⟨by omega,by rw[aR];exact hE.cls bx aq bu _⟩,td1,wkR⟩
 ·obtain rfl:k=p.classes.length:=by omega
  have bb:CS.take p.classes.length=CS:=by rw[<-aP,List.take_length]
  rw[bb]at hE
  have o4:=hE.o4
  refine gz ?_ o57 [2,4,7,13,15]
  refine dwp_wk (CV (az:=[]) (bs:=[.slice [] (.tag im),dI 0,dI 0,.str [],.nils]) (d':=sl (CS.map cFClass)) o4 (AE _ _)) ?_
  simp only[List.nil_append,List.singleton_append]
  have n1:im≠i4:=Ac hE.om hE.o4 (by simp)
  have n2:i2≠i4:=Ac hE.o2 hE.o4 (by simp)
  have n3:i2≠im:=Ac hE.o2 hE.om (by simp)
  generalize cx:sl (CS.map cFClass)=cd at*
  generalize bc:Sig.set S6 i4 _=S7
  have cF:G1S i2 i4 im cd [] V S7:=by
   rw[<-bc]
   refine⟨w7 .., by rw[w8 _ _ n1];exact hE.om,by rw[w8 _ _ n2];exact hE.o2,hE.hS.set aq⟩
  clear bc hE o4 ak hk bU aQ aP
  refine D6 [1,2,3,4,15,176,177,178,179,180,181] (fun (k:Nat) (ms:List FMeth) (S8:Sig)=>k<=p.methods.length/\ms.length=k/\ms++(p.methods.drop k).map (spM p)=p.methods.map (spM p)/\G1S i2 i4 im cd ms V S8) (fun k _ _=>[(11,dI k)]) (fun _ _ S8=>S8) (fun k _ _=>p.methods.length-k) (0) ([]) (S7) (by exact⟨by omega,rfl,rfl,cF⟩) (fun k ms S8 hI=>?_)
  obtain⟨hk,cf,hR,hG⟩:=hI
  by_cases ak:k<p.methods.length
  ·rw[A0 ak,List.map_cons]at hR
   obtain⟨y1,y2,y3,y4,y5⟩:=hp.met _ (List.getElem_mem ak)
   have cK:=p6 k ak
   generalize aI:p.methods[k]=m at*
   obtain⟨r,e1,hr,e2⟩:=BP (l:=spG p) (by rw[bp];exact y1)
   have ca:r<p.gens.length:=by omega
   have bP:p.gens.getD m.gen.toNat 0=p.gens[r]:=by rw[e1,show((r:Int)).toNat=r by omega,List.getD_eq_getElem?_getD,List.getElem?_eq_getElem ca];rfl
   obtain⟨nx,bH⟩:∃nx:Nat,p.gens[r]=nx:=⟨(p.gens[r]).toNat,by rw[bP]at y2;omega⟩
   have bE:CU p m=nx:=by unfold CU;rw[bP,bH];omega
   rw[bE]at y2 y3 y4 y5
   obtain⟨_,y2⟩:=y2
   have cb:(spL p).take nx=B1 nx:=by unfold spL;rw[KF y2]
   have bL:((spL p).take nx).length=nx:=by rw[List.length_take];omega
   have iN:∀V:Sig,Ans 73 [.nils,dI nx] V True (sl (cS ((spL p).take nx))):=fun V=>ah0 (by rw[cb];exact k73 nx (by omega) V)
   generalize cC:(spL p).take nx=PP at*
   have cu:m.fact.wt<=1073741824:=by
    have cL:m.wt=1+m.fact.wt:=rfl
    omega
   refine gf (gi aI (gi e1 bH)) ?_ o57 [2,4,7,13,15]
   refine newV (fun i13 ar=>?_)
   refine gf aI ?_ (delO 27 o57) [2,4,7,13,15]
   have n13a:i13≠i4:=Ne.symm (A3 hG.o4 ar)
   have n13b:i13≠im:=Ne.symm (A3 hG.om ar)
   have n4m:i4≠im:=Ac hG.o4 hG.om (by simp)
   have s13:V i13=none:=by
    cases hh:V i13 with
    |none=>rfl
    |some o=>have:=hG.hS _ _ hh;rw[ar]at this;cases this
   generalize aw:S8.set i13 (.cells [dI nx])=S9
   have r13:S9 i13=some (.cells [dI nx]):=by rw[<-aw];exact w7 ..
   have r4:S9 i4=S8 i4:=by rw[<-aw,w8 _ _ (Ne.symm n13a)]
   rw[hG.o4]at r4
   have rm:S9 im=S8 im:=by rw[<-aw,w8 _ _ (Ne.symm n13b)]
   rw[hG.om]at rm
   have bl:Sub S8 S9:=by rw[<-aw];exact(Sub.refl _).set ar
   clear aw
   have ay:=Nz p NM (spS p) (spG p) (spL p) (by omega) aY (by omega) (by rw[aX,aT]) (by omega) bp (by omega) bT 12 m.node PP .no nx i13 S9 (by rw[bL];exact y4) (by omega) (by rw[<-aM,bM];exact y5) r13
   rw[<-aM]at ay
   have u4:(S9.out fun j=>j=im\/j=i13) i4=_:=DG r4 (by rintro(h|h);exact n4m h;exact n13a h.symm)
   refine Do (id:=27) [0,1,2,3,4,5,6,7,8,9,10,11,12,13,14,15,16,18,19,20,21,17,22,23,24,25,26] [17,22,25] (S9.out fun j=>j=im\/j=i13) (Bv _ _) ?_
   have aN:=Um (p:=p) (a:=NM) (b:=spS p) (g:=spG p) (P:=PP) (by omega) (by omega) (by omega) .no _ m.fact S9 (Nat.le_refl _) cu (by rw[aY,aX,bL,<-ap];exact y3)
   rw[<-aM]at aN
   have bG:Sub (S9.out fun j=>j=im\/j=i13) S9:=Bv _ _
   repeat' first|refine gf (gi u4 (gi aB (gi e1 aI))) ?_ [] [2,4,7,13,15]|refine moR (aN) ?_|refine moP (aN) ?_|refine gf (gi u4 (gi aB (gi e1 aI))) ?_ o57 [2,4,7,13,15]|apply gy<;>intro hh
   refine BF ay (fun d S5 hx=>?_) (fun d S5 hx=>by cases hx.1)
   obtain⟨bm,rfl⟩:=hx
   cases bm
   have bZ:Sub (S9.out fun j=>j=im\/j=i13) (S9.set i13 (.cells [dI (spE p (spA p) (spS p) (spG p) (spL p) 12 m.node PP nx).2])):=fun j z hz=>by
    obtain⟨h1,h2⟩:=C1 hz
    rw[w8 _ _ fun e=>h2 (.inr e)];exact h1
   have bY:Sub (S9.out fun j=>j=im\/j=i13) ((S9.set i13 (.cells [dI (spE p (spA p) (spS p) (spG p) (spL p) 12 m.node PP nx).2])).set im (.tail 13 (ms.length+1))):=fun j z hz=>by
    obtain⟨h1,h2⟩:=C1 hz
    rw[w8 _ _ fun e=>h2 (.inl e),w8 _ _ fun e=>h2 (.inr e)];exact h1
   refine⟨bZ,?_⟩
   simp only[putD]
   refine gf (gi rm r4) ?_ o57 [2,4,7,13,15]
   generalize aW:Sig.set _ i4 _=qq
   have bn:spM p m=⟨m.kind,(spG p)[r],PP,spF (spA p) (spS p) PP m.fact,(spE p (spA p) (spS p) (spG p) (spL p) 12 m.node PP nx).1⟩:=by unfold spM;rw[bE,cC,e2]
   have c1:qq i4=some (.cells [cd,.slice ((ms++[spM p m]).map BC) (.tag im),dI 0,dI 0,.str [],.nils]):=by
    rw[<-aW,w7,bn]
    simp only[List.map_append,List.map_cons,List.map_nil,BC,Cv,Cz,List.cons_append,List.nil_append]
   have n4:i2≠i13:=A3 hG.o2 ar
   have cE:G1S i2 i4 im cd (ms++[spM p m]) V qq:=by
    refine⟨c1,by rw[<-aW,w8 _ _ n1,w7,List.length_append];rfl,by rw[<-aW,w8 _ _ n2,w8 _ _ n3,w8 _ _ n4];exact bl _ _ hG.o2,fun x y hx=>?_⟩
    rw[<-aW,w8 _ _ (A3 hx aq),w8 _ _ (A3 hx br),w8 _ _ (A3 hx s13)]
    exact bl _ _ (hG.hS _ _ hx)
   clear aW
   exact⟨k+1,ms++[spM p m],qq,⟨by omega,by rw[List.length_append,cf];rfl,by rw[List.append_assoc];exact hR,cE⟩,td1,wkR⟩
  ·rw[A1 ak,List.map_nil,List.append_nil]at hR
   rw[<-hR]
   refine gz ?_ o57 [2,4,7,13,15]
   refine newV (fun i15 aK=>?_)
   have n15a:i15≠i4:=Ne.symm (A3 hG.o4 aK)
   have n15b:i2≠i15:=A3 hG.o2 aK
   have s15:V i15=none:=by
    cases hh:V i15 with
    |none=>rfl
    |some o=>have:=hG.hS _ _ hh;rw[aK]at this;cases this
   refine gz ?_ o57 [2,4,7,13,15]
   generalize aw:S8.set i15 (.cells [dI 0])=S9
   have r15:S9 i15=some (.cells [dI (0:Nat)]):=by rw[<-aw];exact w7 ..
   have r4:S9 i4=S8 i4:=by rw[<-aw,w8 _ _ (Ne.symm n15a)]
   rw[hG.o4]at r4
   have r2:S9 i2=S8 i2:=by rw[<-aw,w8 _ _ n15b]
   rw[hG.o2]at r2
   have bl:Sub V S9:=by rw[<-aw];exact hG.hS.set s15
   clear aw
   have ay:=Nz p NM (spS p) (spG p) (spL p) (by omega) aY (by omega) (by rw[aX,aT]) (by omega) bp (by omega) bT 12 p.main [] .no 0 i15 S9 hp.main (by simp) (by rw[<-aM,bM];exact hp.left) r15
   rw[<-aM]at ay
   refine Ab (DCall.wk (args:=[cSp0 p NM (spS p) (spG p),dI p.main,.nils,.ptr i15 0]) ay (BL (A8 _) (BL (A8 _) (BL (Al _ (.inl rfl)) (BL (A8 _) IA))))) (fun d S' hr=>?_) (fun d S' hr=>by cases hr.1)
   obtain⟨bm,rfl⟩:=hr
   cases bm
   have t4:(S9.set i15 (.cells [dI (spE p (spA p) (spS p) (spG p) (spL p) 12 p.main [] 0).2])) i4=some (.cells [cd,.slice (ms.map BC) (.tag im),dI 0,dI 0,.str [],.nils]):=by rw[w8 _ _ (Ne.symm n15a)];exact r4
   have t2:(S9.set i15 (.cells [dI (spE p (spA p) (spS p) (spG p) (spL p) 12 p.main [] 0).2])) i2=some (.cells [.nils,.nils,dI 0,dI 0,.str [],.nils]):=by rw[w8 _ _ n15b];exact r2
   have tS:Sub V (S9.set i15 (.cells [dI (spE p (spA p) (spS p) (spG p) (spL p) 12 p.main [] 0).2])):=bl.set s15
   generalize S9.set i15 (.cells [dI (spE p (spA p) (spS p) (spG p) (spL p) 12 p.main [] 0).2])=S10 at*
   refine BE (CV (az:=[cd]) (bs:=[dI 0,dI 0,.str [],.nils]) (d':=sl (ms.map BC)) t4 (AE _ _)) ?_
   simp only[List.cons_append,List.nil_append]
   have e4:(S10.set i4 (.cells [cd,sl (ms.map BC),dI 0,dI 0,.str [],.nils])) i4=some (.cells [cd,sl (ms.map BC),dI 0,dI 0,.str [],.nils]):=w7 ..
   have e2:(S10.set i4 (.cells [cd,sl (ms.map BC),dI 0,dI 0,.str [],.nils])) i2=some (.cells [.nils,.nils,dI 0,dI 0,.str [],.nils]):=by rw[w8 _ _ n2];exact t2
   have eS:Sub V (S10.set i4 (.cells [cd,sl (ms.map BC),dI 0,dI 0,.str [],.nils])):=tS.set aq
   generalize S10.set i4 (.cells [cd,sl (ms.map BC),dI 0,dI 0,.str [],.nils])=S11 at*
   refine gf (gi e4 e2) ?_ o57 [2,4,7,13,15]
   generalize (spE p (spA p) (spS p) (spG p) (spL p) 12 p.main [] 0).1=me at*
   refine rtl 181 (.agg [cd,sl (ms.map BC),dI me.op,dI me.n,.str me.text,sl (me.kids.map Ah)]) ?_ (hw:=AS (by rw[<-Cz me];rfl))
   have f2:(S11.set i4 (.cells [cd,sl (ms.map BC),dI me.op,dI me.n,.str me.text,sl (me.kids.map Ah)])) i2=some (.cells [.nils,.nils,dI 0,dI 0,.str [],.nils]):=by rw[w8 _ _ n2];exact e2
   have fS:Sub V (S11.set i4 (.cells [cd,sl (ms.map BC),dI me.op,dI me.n,.str me.text,sl (me.kids.map Ah)])):=eS.set aq
   generalize S11.set i4 (.cells [cd,sl (ms.map BC),dI me.op,dI me.n,.str me.text,sl (me.kids.map Ah)])=S12 at*
   subst cx
   refine gf f2 ?_ o57 [2,4,7,13,15]
   exact finC (S':=V) ⟨rfl,rfl⟩ (hZ:=fS.set bO) (hw:=AS (by simp[Cz me]))
def G4(m:FMeth):Bool:=(decide (1<=m.kind)&&decide (m.kind<=4))&&(AP m.name&&(decide (1<=m.params.length)&&decide (m.params.length<=3)))
def Jc(names slots:List Str)(m:FMeth)(n:Int):Option Int:=
 if G4 m&&sloE [] m.params then match CC names slots m.params m.fact n with
  |none=>none
  |some k=>BX names slots m.params (decide (m.kind=1\/m.kind=4)) m.body k
 else none
def DH(names slots:List Str):List FMeth->Int->Option Int
 |[],n=>some n
 |m::r,n=>match Jc names slots m n with
  |none=>none
  |some k=>DH names slots r k
def BG(f:FProg):Option Int:=
 if clsB f&&decide (f.methods.length<=16) then match BX (f.classes.map (·.name)) (f.classes.flatMap (·.slots)) [] false f.main f.classes.length with
  |none=>none
  |some n=>match DH (f.classes.map (·.name)) (f.classes.flatMap (·.slots)) f.methods n with
   |none=>none
   |some k=>if(CK f).2&&decide ((CK f).1.length<=8) then some k else none
 else none
def CntR(f:FProg)(ip ic is:Nat)(V:Sig)(x:DE)(S':Sig):Prop:=
 x=(match BG f with|some _=>.ret (.tup [])|none=>.panic unf2)/\(∃d n,S' ip=some (pObj f ic is d n))/\Keep (fun j=>j=ip\/j=ic\/j=is) V S'
theorem Hi{names slots args:List Str}{lits:Bool}{e:FExp}{n m:Int}(h:BX names slots args lits e n=some m)(hn:0<=n):0<=m/\m<=120:=by
 unfold BX at h
 split at h
 ·cases h
 ·rename_i k hk
  split at h
  ·rename_i h2
   have:=Pk (by omega) hk
   cases h;omega
  ·cases h
theorem Qw{names slots args:List Str}{e:FFact}{n m:Int}(h:CC names slots args e n=some m)(hn:0<=n):0<=m/\m<=120:=by
 unfold CC at h
 split at h
 ·cases h
 ·rename_i k hk
  split at h
  ·rename_i h2
   have:=MV (by omega) hk
   cases h;omega
  ·cases h
theorem Na: ∀(l:List FExp) (s:GenT),(Dr l s).1.length<=s.1.length+wtL FExp.wt l
 |[],s=>by rw[Dr];omega
 |x::r,s=>by
  have h1:=Pu x s
  have h2:=Na r (genE x s)
  rw[Dr,wtL];omega
theorem Pj: ∀(l:List FMeth) (s:GenT),(metG l s).1.length<=s.1.length+l.length
 |[],s=>by rw[metG];omega
 |m::r,s=>by
  have h1:=H3 m.name m.params.length s
  have h2:=Pj r (seeG m.name m.params.length s)
  rw[metG,List.length_cons];omega
theorem N9(f:FProg):(CK f).1.length<=f.wt:=by
 have h1:=JS f
 have h2:=Na (BY f) (metG f.methods ([],true))
 have h3:=Pj f.methods ([],true)
 unfold CK
 simp only[List.length_nil]at h3
 omega
theorem R3 (f:FProg) (ip ic is:Nat) (V:Sig) (hw:f.wt<=100000000) (h0:PS f ip ic is V V [] [] [] .nils 0) (aB:ic ≠ is) :
  DCall prog 184 [.cptr [.ptr ip 0] 0,.cptr (B7 f) 0] V (CntR f ip ic is V):=by
 obtain⟨p1,p2,p3,p4,p5⟩:=f.wt_le
 have bq:=h0.prg
 have ag:BG f=none->∀S',(∃d n,S' ip=some (pObj f ic is d n))->Keep (fun j=>j=ip\/j=ic\/j=is) V S'->CntR f ip ic is V (.panic unf2) S':=fun h S' h1 h2=>by
  unfold CntR;rw[h];exact⟨rfl,h1,h2⟩
 have cw:f.classes.length<=100000000:=by omega
 refine en func184 ntmps184 ?_
 cases hC:clsB f with
 | false =>
  have hN:BG f=none:=by unfold BG;rw[hC];rfl
  try refine gz ?_ o184
  refine Ab (L1 f ip ic is V (by omega) h0 aB) (fun x S' hr=>?_) (fun x S' hr=>?_)
  ·unfold ClsR at hr;rw[hC,if_neg (by simp)]at hr;cases hr.1
  ·unfold ClsR at hr;rw[hC,if_neg (by simp)]at hr
   obtain⟨e1,names,slots,hs,d,n,hP⟩:=hr
   cases e1
   exact finP (S':=S') (ag hN S' ⟨d,n,hP.prg⟩ hP.keep)
 | true =>
  try refine gz ?_ o184
  refine Ab (L1 f ip ic is V (by omega) h0 aB) (fun x S1 hr=>?_) (fun x S1 hr=>?_)
  ·unfold ClsR at hr;rw [hC,if_pos rfl] at hr
   obtain⟨e1,hs,d,hP⟩:=hr
   cases e1
   obtain⟨q1,q2,q3,_,q5⟩:=hP
   have bF:ip≠ic:=Ac q1 q2 (by simp)
   have bD:ip≠is:=Ac q1 q3 (by simp)
   have aA:∀S',Keep (· = ip) S1 S'->Keep (fun j=>j=ip\/j=ic\/j=is) V S':=fun S' h j o h1 h2=>h j o (q5 j o h1 h2) fun e=>h2 (.inl e)
   have aV:∀(x:DObj),Keep (· = ip) S1 (S1.set ip x):=fun x j o h1 h2=>by rw[w8 _ _ h2];exact h1
   have ah:BG f=if f.methods.length<=16 then match BX (f.classes.map (·.name)) (f.classes.flatMap (·.slots)) [] false f.main f.classes.length with
     |none=>none
     |some n=>match DH (f.classes.map (·.name)) (f.classes.flatMap (·.slots)) f.methods n with
      |none=>none
      |some k=>if(CK f).2&&decide ((CK f).1.length<=8) then some k else none
    else none:=by unfold BG;rw[hC];simp
   have cQ:f.classes.length<=10:=by unfold clsB at hC;simp only[Bool.and_eq_true,decide_eq_true_eq]at hC;exact hC.1
   generalize bI:f.classes.map (·.name)=names at*
   generalize aU:f.classes.flatMap (·.slots)=slots at*
   by_cases bV:f.methods.length<=16
   ·rw [if_pos bV] at ah
    have ae:=L0 f ip ic is d f.classes.length names slots f.main [] false S1 (by omega) (by simp) ⟨by omega,by omega⟩ q1 q2 q3
    repeat' first|refine gf q1 ?_ o184|apply gy<;>intro hh
    cases hk:BX names slots [] false f.main f.classes.length with
    |none =>
     rw[hk]at ah ae
     refine callWP ae (fun x S2 hr=>by cases hr.1) (fun x S2 hr=>?_)
     obtain⟨e1,m,rfl⟩:=hr
     cases e1
     exact finP (S':=_) (ag ah _ ⟨d,m,w7 ..⟩ (aA _ (aV _)))
    | some n1 =>
     rw[hk]at ah ae
     have bJ:=Hi hk (by omega)
     refine callWP ae (fun x S2 hr=>?_) (fun x S2 hr=>by cases hr.1)
     obtain⟨e1,rfl⟩:=hr
     cases e1
     have r1:(S1.set ip (pObj f ic is d n1)) ip=some (pObj f ic is d n1):=w7 ..
     try refine gf r1 ?_ o184
     refine D6 [0,1,7,8,9,31,32,96,97,98,99,100,101,102,103,104,105,106,107,108] (fun (k:Nat) (m:Int) (S2:Sig)=>k<=f.methods.length/\0<=m/\m<=120/\DH names slots f.methods n1=DH names slots (f.methods.drop k) m/\S2 ip=some (pObj f ic is d m)/\Keep (· = ip) S1 S2) (fun k _ _=>[(33,dI k)]) (fun _ _ S2=>S2) (fun k _ _=>f.methods.length-k) (0) (n1) (_) (by exact⟨by omega,bJ.1,bJ.2,rfl,r1,aV _⟩) (fun k m S2 hI=>?_)
     obtain⟨hk,bK,cN,hR,o1,hK⟩:=hI
     have o2:S2 ic=some (.map (eSN (BU names 0))):=hK _ _ q2 (Ne.symm bF)
     have o3:S2 is=some (.map (eSS slots)):=hK _ _ q3 (Ne.symm bD)
     by_cases ak:k<f.methods.length
     ·rw [A0 ak,DH] at hR
      have bW:=p5 k ak
      have bX:f.methods[k].body.wt<=100000000/\f.methods[k].fact.wt<=100000000/\f.methods[k].params.length<=100000000/\wtS f.methods[k].params<=100000000/\f.methods[k].name.length<=100000000:=by have:=bW;unfold FMeth.wt at this;have:=Bu f.methods[k].params;omega
      generalize aI:f.methods[k]=mt at*
      obtain⟨v1,v2,v3,v4,v5⟩:=bX
      cases aG:G4 mt with
      |false =>
       have hN:BG f=none:=by rw[ah];simp only[hR,Jc,aG,Bool.false_and,Bool.false_eq_true,if_false]
       unfold G4 at aG
       repeat' first|(exact finP (S':=S2) (ag hN _ ⟨d,m,o1⟩ (aA _ hK)))|refine gf aI ?_ o184|apply gy<;>intro hh
       exfalso
       rw[Bool.eq_false_iff]at aG
       apply aG
       simp only[Bool.and_eq_true,decide_eq_true_eq]
       exact⟨⟨by omega,by omega⟩,by assumption,by omega,by omega⟩
      | true =>
       have au:=aG
       unfold G4 at aG
       simp only[Bool.and_eq_true,decide_eq_true_eq]at aG
       obtain⟨⟨g1,g2⟩,g3,g4,g5⟩:=aG
       try refine gf (gi aI g3) ?_ o184
       refine LF (fun im aO=>?_)
       have ne1:ip≠im:=A3 o1 aO
       have ne2:ic≠im:=A3 o2 aO
       have ne3:is≠im:=A3 o3 aO
       have bN:∀S',(∀j x,j≠im->S2 j=some x->S' j=some x)->Keep (· = ip) S1 S':=fun S' h j x h1 h2=>by
        have h3:=hK j x h1 h2
        exact h j x (A3 h3 aO) h3
       try refine gz ?_ o184
       refine B2 [0,1,3,4,7,8,9,31,32,33,34,35,36,37,38,39,40,41,42,43,44,45,46,47,48,49,50,51,52,53,54,55,56,57,58,59,60,61,62,63,64,65,66,75,76,77,78,79,80,81,82,83,84,85,86,87,88,89,90,91,92,93,94,95,96,97,98,99,100,101,102,103,104,105,106,107,108] (fun (j:Nat)=>j<=mt.params.length/\sloE [] mt.params=sloE (mt.params.take j) (mt.params.drop j)) (fun j=>[(67,dI j)]) (fun j=>S2.set im (.map (eSS (mt.params.take j)))) (fun j=>mt.params.length-j) (0) (by simp) (fun j hI=>?_)
       obtain⟨hj,hE⟩:=hI
       by_cases bi:j<mt.params.length
       ·rw[A0 bi,sloE]at hE
        have cc:(mt.params[j]).length<=1073741824:=by have:=Ix mt.params j bi;omega
        try refine gz ?_ o184
        refine Ab (EH mt.params[j] im (mt.params.take j) _ (w7 ..) cc) (fun x S3 hr=>?_) (fun x S3 hr=>?_)
        ·rcases hr with⟨hc,e1,rfl⟩|⟨_,e1,_⟩
         ·cases e1
          rw[hc,Bool.true_and,<-AH bi]at hE
          try refine gz ?_ o184
          exact⟨j+1,⟨by omega,hE⟩,td1,wkR⟩
         ·cases e1
        ·rcases hr with⟨_,e1,_⟩|⟨hc,e1,rfl⟩
         ·cases e1
         ·cases e1
          rw[hc,Bool.false_and]at hE
          have hN:BG f=none:=by rw[ah];simp only[hR,Jc,hE,Bool.and_false,Bool.false_eq_true,if_false]
          exact finP (S':=S2.set im (.map (eSS (mt.params.take j)))) (ag hN _ ⟨d,m,by rw[w8 _ _ ne1];exact o1⟩ (aA _ (bN _ fun j x hj hx=>by rw[w8 _ _ hj];exact hx)))
       ·have ck:j=mt.params.length:=by omega
        subst ck
        rw[A1 bi,sloE]at hE
        generalize aH:S2.set im _=S3
        have aZ:∀j x,j≠im->S2 j=some x->S3 j=some x:=fun j x hj hx=>by rw[<-aH,w8 _ _ hj];exact hx
        have q1:=aZ _ _ ne1 o1
        have q2:=aZ _ _ ne2 o2
        have q3:=aZ _ _ ne3 o3
        have cD:=bN _ aZ
        clear aZ aH
        have aj:∀(x:DObj),Keep (· = ip) S1 (S3.set ip x):=fun x j o h1 h2=>by rw[w8 _ _ h2];exact cD j o h1 h2
        have aC:=R2 f ip ic is d m names slots mt.fact mt.params S3 (by omega) (by omega) ⟨bK,by omega⟩ q1 q2 q3
        repeat' first|refine gz ?_ o184|apply gy<;>intro hh
        cases aF:CC names slots mt.params mt.fact m with
        |none =>
         rw[aF]at aC
         have hN:BG f=none:=by rw[ah];simp only[hR,Jc,au,hE,aF,Bool.and_self,if_true]
         refine Ab aC (fun x S4 hr=>by cases hr.1) (fun x S4 hr=>?_)
         obtain⟨e1,m',rfl⟩:=hr
         cases e1
         exact finP (S':=_) (ag hN _ ⟨d,m',w7 ..⟩ (aA _ (aj _)))
        | some n2 =>
         rw[aF]at aC
         have bh:=Qw aF bK
         refine Ab aC (fun x S4 hr=>?_) (fun x S4 hr=>by cases hr.1)
         obtain⟨e1,rfl⟩:=hr
         cases e1
         have r1:(S3.set ip (pObj f ic is d n2)) ip=some (pObj f ic is d n2):=w7 ..
         have r2:(S3.set ip (pObj f ic is d n2)) ic=some (.map (eSN (BU names 0))):=by rw[w8 _ _ (Ne.symm bF)];exact q2
         have r3:(S3.set ip (pObj f ic is d n2)) is=some (.map (eSS slots)):=by rw[w8 _ _ (Ne.symm bD)];exact q3
         have ae:=L0 f ip ic is d n2 names slots mt.body mt.params (decide (mt.kind=1\/mt.kind=4)) _ (by omega) (by omega) ⟨bh.1,by omega⟩ r1 r2 r3
         have av:∀x S',BX names slots mt.params (decide (mt.kind=1\/mt.kind=4)) mt.body n2=none->KnR f ip ic is d none (S3.set ip (pObj f ic is d n2)) (.panic x) S'->CntR f ip ic is V (.panic x) S':=fun x S' aa hr=>by
          have hN:BG f=none:=by rw[ah];simp only[hR,Jc,au,hE,aF,aa,Bool.and_self,if_true]
          obtain⟨e1,m',rfl⟩:=hr
          cases e1
          rw[w9]
          exact ag hN _ ⟨d,m',w7 ..⟩ (aA _ (aj _))
         by_cases k1:mt.kind=1
         ·try refine gf k1 ?_ o184
          have hb:decide (mt.kind=1\/mt.kind=4)=true:=decide_eq_true (.inl k1)
          rw[hb]at ae
          refine Ab ae (fun x S4 hr=>?_) (fun x S4 hr=>?_)
          ·cases aa:BX names slots mt.params true mt.body n2 with
           |none=>rw[aa]at hr;cases hr.1
           |some n3 =>
            rw[aa]at hr
            obtain⟨e1,rfl⟩:=hr
            cases e1
            have aE:=Hi aa bh.1
            have bg:DH names slots f.methods n1=DH names slots (f.methods.drop (k+1)) n3:=by rw[hR];simp only[Jc,au,hE,aF,hb,aa,Bool.and_self,if_true]
            try refine gz ?_ o184
            exact⟨k+1,n3,S3.set ip (pObj f ic is d n3),⟨by omega,aE.1,aE.2,bg,w7 .., aj _⟩,td1,wkR⟩
          ·cases aa:BX names slots mt.params true mt.body n2 with
           |none=>rw[aa]at hr;exact finP (S':=S4) (av _ _ (by rw[hb];exact aa) hr)
           |some n3=>rw[aa]at hr;cases hr.1
         ·by_cases k4:mt.kind=4
          ·try refine gf k4 ?_ o184
           have hb:decide (mt.kind=1\/mt.kind=4)=true:=decide_eq_true (.inr k4)
           rw[hb]at ae
           refine Ab ae (fun x S4 hr=>?_) (fun x S4 hr=>?_)
           ·cases aa:BX names slots mt.params true mt.body n2 with
            |none=>rw[aa]at hr;cases hr.1
            |some n3 =>
             rw[aa]at hr
             obtain⟨e1,rfl⟩:=hr
             cases e1
             have aE:=Hi aa bh.1
             have bg:DH names slots f.methods n1=DH names slots (f.methods.drop (k+1)) n3:=by rw[hR];simp only[Jc,au,hE,aF,hb,aa,Bool.and_self,if_true]
             try refine gz ?_ o184
             exact⟨k+1,n3,S3.set ip (pObj f ic is d n3),⟨by omega,aE.1,aE.2,bg,w7 .., aj _⟩,td1,wkR⟩
           ·cases aa:BX names slots mt.params true mt.body n2 with
            |none=>rw[aa]at hr;exact finP (S':=S4) (av _ _ (by rw[hb];exact aa) hr)
            |some n3=>rw[aa]at hr;cases hr.1
          ·try refine gz ?_ o184
           have hb:decide (mt.kind=1\/mt.kind=4)=false:=decide_eq_false fun h=>h.elim k1 k4
           rw[hb]at ae
           refine Ab ae (fun x S4 hr=>?_) (fun x S4 hr=>?_)
           ·cases aa:BX names slots mt.params false mt.body n2 with
            |none=>rw[aa]at hr;cases hr.1
            |some n3 =>
             rw[aa]at hr
             obtain⟨e1,rfl⟩:=hr
             cases e1
             have aE:=Hi aa bh.1
             have bg:DH names slots f.methods n1=DH names slots (f.methods.drop (k+1)) n3:=by rw[hR];simp only[Jc,au,hE,aF,hb,aa,Bool.and_self,if_true]
             try refine gz ?_ o184
             exact⟨k+1,n3,S3.set ip (pObj f ic is d n3),⟨by omega,aE.1,aE.2,bg,w7 .., aj _⟩,td1,wkR⟩
           ·cases aa:BX names slots mt.params false mt.body n2 with
            |none=>rw[aa]at hr;exact finP (S':=S4) (av _ _ (by rw[hb];exact aa) hr)
            |some n3=>rw[aa]at hr;cases hr.1
     ·rw[A1 ak,DH]at hR
      simp only at ah
      rw[hR]at ah
      simp only at ah
      have bA:=KZ f S2 hw
      try refine gz ?_ o184
      refine Ab bA (fun x S3 hr=>?_) (fun x S3 hr=>by cases hr.1)
      obtain⟨e1,rfl⟩:=hr
      cases e1
      have cr:(CK f).1.length<=100000000:=by have:=N9 f;omega
      cases ba:(CK f).2 with
      |false =>
       have hN:BG f=none:=by rw[ah,ba];rfl
       repeat' first|(exact finP (S':=S3) (ag hN _ ⟨d,m,o1⟩ (aA _ hK)))|refine gf ba ?_ o184|apply gy<;>intro hh
      | true =>
       rw[ba,Bool.true_and]at ah
       by_cases bQ:(CK f).1.length<=8
       ·rw[if_pos (decide_eq_true bQ)]at ah
        try refine gf ba ?_ o184
        refine Eb (S':=S3) ⟨by rw[ah],⟨d,m,o1⟩,aA _ hK⟩
       ·have hN:BG f=none:=by rw[ah,if_neg (by simpa using bQ)]
        repeat' first|(exact finP (S':=S3) (ag hN _ ⟨d,m,o1⟩ (aA _ hK)))|refine gf ba ?_ o184|apply gy<;>intro hh
   ·rw[if_neg bV]at ah
    repeat' first|(exact finP (S':=S1) (ag ah S1 ⟨d,_,q1⟩ q5))|refine gf q1 ?_ o184|apply gy<;>intro hh
  ·unfold ClsR at hr;rw[hC,if_pos rfl]at hr;cases hr.1
theorem T1(f:FProg)(V:Sig)(hw:f.wt<=100000000):DCall prog 98 [.agg (B7 f)] V fun x S'=> ∃n,x=.ret (.tup [dI n,.bool (BG f).isSome])/\S'=V:=by
 refine en func98 ntmps98 ?_
 try refine gz ?_
 refine Sf (fun ic bk=>?_)
 try refine gz ?_
 refine LF (fun is cp=>?_)
 repeat ((fail_if_success (first|(refine boxV (T:=256) (fun ip bq=>?_))|fail));(refine goX1 trivial ?_))
 refine boxV (T:=256) (fun ip bq=>?_)
 obtain⟨n1,h1⟩:=A4 cp
 obtain⟨n2,h2⟩:=A4 bq
 obtain⟨n3,h3⟩:=A4 h2
 generalize aH:Sig.set _ ip _=S3
 have o1:S3 ip=some (pObj f ic is .nils 0):=by rw[<-aH];exact w7 ..
 have o2:S3 ic=some (.map (eSN [])):=by rw[<-aH,w8 _ _ (Ne.symm n3),w8 _ _ (Ne.symm n1)];exact w7 ..
 have o3:S3 is=some (.map (eSS [])):=by rw[<-aH,w8 _ _ (Ne.symm n2)];exact w7 ..
 have hS:Sub V S3:=fun j x hj=>by rw[<-aH,w8 _ _ (A3 hj h3),w8 _ _ (A3 hj h1),w8 _ _ (A3 hj bk)];exact hj
 clear aH
 try refine gz ?_
 refine Ab (U4 184 [.cptr [.ptr ip 0] 0,.cptr (B7 f) 0] S3 (CntR f ip ic is) (fun i hi=>?_) (fun S' d S'' h=>?_) (fun i S'' x hi h=>?_)) (fun x S' hr=>?_) (fun x S' hr=>?_)
 ·have e:∀{j o},S3 j=some o->(S3.set i (.cells [.bool false])) j=some o:=fun hj=>by rw[w8 _ _ (A3 hj hi)];exact hj
  exact R3 f ip ic is _ hw ⟨e o1,e o2,e o3,.inl ⟨rfl,rfl⟩,Keep.refl _ _⟩ (Ne.symm n1)
 ·have:=h.1
  split at this
  ·cases this
  ·cases this;rfl
 ·refine h.2.2 i _ (w7 ..) fun ht=>?_
  rcases ht with rfl|rfl|rfl
  ·rw[o1]at hi;cases hi
  ·rw[o2]at hi;cases hi
  ·rw[o3]at hi;cases hi
 ·obtain⟨i,S'',hi,rfl,hr⟩:=hr
  have key:∀y,CntR f ip ic is (S3.set i (.cells [.bool false])) y S''->(∃d n,(S''.del i) ip=some (pObj f ic is d n))/\Sub V (S''.del i):=fun y hy=>by
   obtain⟨_,⟨d,n,h5⟩,hK⟩:=hy
   have ni:ip≠i:=A3 o1 hi
   refine⟨⟨d,n,by simp only[Sig.del,ni,if_false];exact h5⟩,fun j x hj=>?_⟩
   have bj:=hS _ _ hj
   have ni:j≠i:=A3 bj hi
   simp only[Sig.del,ni,if_false]
   refine hK j x (by rw[w8 _ _ ni];exact bj) fun ht=>?_
   rcases ht with rfl|rfl|rfl
   ·rw[h3]at hj;cases hj
   ·rw[bk]at hj;cases hj
   ·rw[h1]at hj;cases hj
  rcases hr with⟨d,hr,e1⟩|⟨hr,e1⟩
  ·cases e1
   obtain⟨⟨d',n,o5⟩,cz⟩:=key _ hr
   have hs:(BG f).isSome=true:=by
    have:=hr.1
    cases h:BG f with
    |none=>rw[h]at this;cases this
    |some k=>rfl
   try refine gf o5 ?_
   exact fin2 (S':=V) ⟨n,by rw[hs],rfl⟩
  ·cases e1
   obtain⟨⟨d',n,o5⟩,cz⟩:=key _ hr
   have hs:(BG f).isSome=false:=by
    have:=hr.1
    cases h:BG f with
    |none=>rfl
    |some k=>rw[h]at this;cases this
   try refine gf o5 ?_
   exact fin2 (S':=V) ⟨n,by rw[hs],rfl⟩
 ·obtain⟨i,S'',hi,_,hr⟩:=hr
  rcases hr with⟨d,_,e1⟩|⟨_,e1⟩<;>cases e1
theorem PD(f:FProg)(V:Sig)(hw:f.wt<=100000000):DCall prog 47 [.agg (B7 f)] V (rS (dI (if(BG f).isSome then 0 else 2)) V):=by
 refine en func47 ntmps47 ?_
 try refine gz ?_
 refine Ab (T1 f V hw) (fun x S' hr=>?_) (fun x S' hr=>by obtain⟨_,h,_⟩:=hr;cases h)
 obtain⟨n,e1,rfl⟩:=hr
 cases e1
 cases hs:(BG f).isSome with
 |false =>
  try refine gf hs ?_
  exact fe1 trivial
 |true =>
  try refine gf hs ?_
  exact fe1 trivial
@[reducible,instance] def a47:=fun f V=>ah1 (@PD f V)
def AK(f:FProg):List Str:=f.classes.flatMap (·.slots)
theorem Kn(f:FProg):(AK f).length<=f.wt:=by
 have h:∀l:List FClass,(l.flatMap (·.slots)).length<=wtL FClass.wt l:=by
  intro l
  induction l with
  |nil=>simp[wtL]
  |cons c l ih=>simp only[List.flatMap_cons,List.length_append,wtL];have:=Bu c.slots;have:=c.wt_le;omega
 have:=h f.classes
 unfold AK FProg.wt;omega
theorem VO(f:FProg)(V:Sig)(hw:f.wt<=100000000)(hs:(BG f).isSome=true):DCall prog 99 [.agg (B7 f)] V (rS (.tup [sl (cS (AK f)),dI 0]) V):=by
 obtain⟨p1,p2,p3,p4,p5⟩:=f.wt_le
 have aU:=Kn f
 refine en func99 ntmps99 ?_
 try refine gf hs ?_
 refine Bz 4 1 (fun i hi=>?_)
 refine AA [2,3,11,12,22,23] (fun (k:Nat) (out:List Str)=>k<=f.classes.length/\AK f=out++(f.classes.drop k).flatMap (·.slots)) (fun k out=>[(13,dI k),(4,.slice (cS out) (.tag i))]) (fun _ out=>V.set i (.tail 1 out.length)) (fun k _=>f.classes.length-k) (0) ([]) (by simp[AK]) (fun k out hI=>?_)
 obtain⟨hk,hR⟩:=hI
 by_cases ak:k<f.classes.length
 ·rw[A0 ak,List.flatMap_cons,<-List.append_assoc]at hR
  have ce:out.length+(f.classes[k]).slots.length<=100000000:=by rw[hR]at aU;simp only[List.length_append]at aU;omega
  try refine gz ?_
  exact⟨k+1,out++(f.classes[k]).slots,⟨by omega,hR⟩,td1,wkR⟩
 ·rw[A1 ak,List.flatMap_nil,List.append_nil]at hR
  have ce:out.length<=100000000:=by rw[hR]at aU;omega
  try refine gz ?_
  rw[hR]
  exact fin2 (S':=V) ⟨rfl,rfl⟩
@[reducible,instance] def a99:=fun f V=>ah2 (@VO f V)
theorem UG(f:FProg)(V:Sig)(hw:f.wt<=100000000)(hs:(BG f).isSome=true):DCall prog 100 [.agg (B7 f)] V (rS (.tup [sl (cS ((CK f).1.map (·.1))),dI 0]) V):=by
 refine en func100 ntmps100 ?_
 try refine gf hs ?_
 refine Ab (KZ f V hw) (fun x S3 hr=>?_) (fun x S3 hr=>by cases hr.1)
 obtain⟨e1,rfl⟩:=hr
 cases e1
 try refine gz ?_
 exact fin2 (S':=S3) ⟨rfl,rfl⟩
@[reducible,instance] def a100:=fun f V=>ah2 (@UG f V)
end Go.DL
