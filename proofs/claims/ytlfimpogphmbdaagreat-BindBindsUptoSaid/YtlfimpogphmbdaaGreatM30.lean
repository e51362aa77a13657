/- Part of the proof that the last text ends. -/
import Derived.Test.YtlfimpogphmbdaaGreatM28
import Derived.Test.YtlfimpogphmbdaaGreatM29
set_option linter.all false
namespace Go.DL
open Go.Proofs.Tryz
open Go Go.Proofs
set_option maxHeartbeats 8000000
def seqI (k:Nat):Nat->List Int
 | 0=>[]
 | n+1=>(k:Int)::seqI (k+1) n
def W5 (f:FProg) (c:FClass) (k:Nat):BClass:=⟨c.parents.map (clsN (ownR f)),seqI k c.slots.length,c.inits.map fun x=>⟨idxG x.slot (slotsR f) 0,x.n⟩⟩
def Gi (f:FProg):List FClass->Nat->List BClass
 | [],_=>[]
 | c::r,k=>W5 f c k::Gi f r (k+c.slots.length)
structure F1S (ib ic im i2:Nat) (m:Int) (gs:List Int) (own slots gens:List Str) (cl:List BClass) (V S1:Sig):Prop where
 env:S1 ib=some (.cells [.slice (cl.map cBClass) (.tag ic),dI m,sl (cI gs), .slice [] (.tag im), .nils,dI 0,sl (cS own),sl (cS slots),sl (cS gens)])
 oc:S1 ic=some (.tail 3 cl.length)
 om:S1 im=some (.tail 9 0)
 o2:S1 i2=some (.cells [.nils,dI 0, .nils, .nils, .nils,dI 0])
 hS:Sub V S1
structure C1S (i8 i9 j1 j2 j3:Nat) (c:FClass) (ps ss:List Int) (is:List Init) (V S1:Sig):Prop where
 o8:S1 i8=some (.cells (An c))
 o9:S1 i9=some (.cells [.slice (cI ps) (.tag j1), .slice (cI ss) (.tag j2), .slice (is.map Dg) (.tag j3)])
 o1:S1 j1=some (.tail 1 ps.length)
 o2:S1 j2=some (.tail 1 ss.length)
 o3:S1 j3=some (.tail 2 is.length)
 hS:Sub V S1
section
variable {i8 i9 j1 j2 j3:Nat} {c:FClass} {ps ss:List Int} {is:List Init} {V S1:Sig}
theorem C1S.par (h:C1S i8 i9 j1 j2 j3 c ps ss is V S1) (v:Int) (h12:j1 ≠ j2) (h13:j1 ≠ j3) (h89:i8 ≠ i9) (h9:V i9=none) (h1:V j1=none) :
  C1S i8 i9 j1 j2 j3 c (ps++[v]) ss is V ((S1.set j1 (.tail 1 (ps.length+1))).set i9 (.cells [.slice (cI ps++[[dI v]]) (.tag j1), .slice (cI ss) (.tag j2), .slice (is.map Dg) (.tag j3)])):=by
 have n1:j1 ≠ i9:=Ac h.o1 h.o9 (by simp)
 have n2:j2 ≠ i9:=Ac h.o2 h.o9 (by simp)
 have n3:j3 ≠ i9:=Ac h.o3 h.o9 (by simp)
 have n4:i8 ≠ j1:=Ac h.o8 h.o1 (by simp)
 refine ⟨by rw [w8 _ _ h89,w8 _ _ n4];exact h.o8,by rw [w7];simp [cI],by rw [w8 _ _ n1,w7,List.length_append];rfl,by rw [w8 _ _ n2,w8 _ _ (Ne.symm h12)];exact h.o2,by rw [w8 _ _ n3,w8 _ _ (Ne.symm h13)];exact h.o3,fun j o hj => ?_⟩
 rw [w8 _ _ (A1 hj h9),w8 _ _ (A1 hj h1)];exact h.hS j o hj
theorem C1S.slo (h:C1S i8 i9 j1 j2 j3 c ps ss is V S1) (v:Int) (h12:j1 ≠ j2) (h23:j2 ≠ j3) (h89:i8 ≠ i9) (h9:V i9=none) (h1:V j2=none) :
  C1S i8 i9 j1 j2 j3 c ps (ss++[v]) is V ((S1.set j2 (.tail 1 (ss.length+1))).set i9 (.cells [.slice (cI ps) (.tag j1), .slice (cI ss++[[dI v]]) (.tag j2), .slice (is.map Dg) (.tag j3)])):=by
 have n1:j1 ≠ i9:=Ac h.o1 h.o9 (by simp)
 have n2:j2 ≠ i9:=Ac h.o2 h.o9 (by simp)
 have n3:j3 ≠ i9:=Ac h.o3 h.o9 (by simp)
 have n4:i8 ≠ j2:=Ac h.o8 h.o2 (by simp)
 refine ⟨by rw [w8 _ _ h89,w8 _ _ n4];exact h.o8,by rw [w7];simp [cI],by rw [w8 _ _ n1,w8 _ _ h12];exact h.o1,by rw [w8 _ _ n2,w7,List.length_append];rfl,by rw [w8 _ _ n3,w8 _ _ (Ne.symm h23)];exact h.o3,fun j o hj => ?_⟩
 rw [w8 _ _ (A1 hj h9),w8 _ _ (A1 hj h1)];exact h.hS j o hj
theorem C1S.ini (h:C1S i8 i9 j1 j2 j3 c ps ss is V S1) (v:Init) (h13:j1 ≠ j3) (h23:j2 ≠ j3) (h89:i8 ≠ i9) (h9:V i9=none) (h1:V j3=none) :
  C1S i8 i9 j1 j2 j3 c ps ss (is++[v]) V ((S1.set j3 (.tail 2 (is.length+1))).set i9 (.cells [.slice (cI ps) (.tag j1), .slice (cI ss) (.tag j2), .slice (is.map Dg++[Dg v]) (.tag j3)])):=by
 have n1:j1 ≠ i9:=Ac h.o1 h.o9 (by simp)
 have n2:j2 ≠ i9:=Ac h.o2 h.o9 (by simp)
 have n3:j3 ≠ i9:=Ac h.o3 h.o9 (by simp)
 have n4:i8 ≠ j3:=Ac h.o8 h.o3 (by simp)
 refine ⟨by rw [w8 _ _ h89,w8 _ _ n4];exact h.o8,by rw [w7];simp,by rw [w8 _ _ n1,w8 _ _ h13];exact h.o1,by rw [w8 _ _ n2,w8 _ _ h23];exact h.o2,by rw [w8 _ _ n3,w7,List.length_append];rfl,fun j o hj => ?_⟩
 rw [w8 _ _ (A1 hj h9),w8 _ _ (A1 hj h1)];exact h.hS j o hj
end
theorem F1S.cls {ib ic im i2:Nat} {m:Int} {gs:List Int} {own slots gens:List Str} {cl:List BClass} {V S6 S11:Sig} (h:F1S ib ic im i2 m gs own slots gens cl V S6) (hS:Sub S6 S11) (hb:V ib=none) (hc:V ic=none) (x:BClass) :
  F1S ib ic im i2 m gs own slots gens (cl++[x]) V ((S11.set ic (.tail 3 (cl.length+1))).set ib (.cells [.slice (cl.map cBClass++[cBClass x]) (.tag ic),dI m,sl (cI gs), .slice [] (.tag im), .nils,dI 0,sl (cS own),sl (cS slots),sl (cS gens)])):=by
 have n1:ic ≠ ib:=Ac h.oc h.env (by simp)
 have n2:im ≠ ib:=Ac h.om h.env (by simp)
 have n3:i2 ≠ ib:=Ac h.o2 h.env (by simp)
 have n4:im ≠ ic:=Ac h.om h.oc (by simp)
 have n5:i2 ≠ ic:=Ac h.o2 h.oc (by simp)
 refine ⟨by rw [w7];simp,by rw [w8 _ _ n1,w7,List.length_append];rfl,by rw [w8 _ _ n2,w8 _ _ n4];exact hS _ _ h.om,by rw [w8 _ _ n3,w8 _ _ n5];exact hS _ _ h.o2,fun j o hj => ?_⟩
 rw [w8 _ _ (A1 hj hb),w8 _ _ (A1 hj hc)];exact hS _ _ (h.hS j o hj)
def Gh (names slots gens:List Str):List FMeth->Nat->List BNode
 | [],_=>[]
 | m::r,k=>Ey names slots gens m.body m.params k++Gh names slots gens r (k+m.body.cnt)
def I0 (names slots gens:List Str):List FMeth->Nat->List BMeth
 | [],_=>[]
 | m::r,k=>⟨m.kind,idxG m.name gens 0,FE names slots m.params m.fact,k⟩::I0 names slots gens r (k+m.body.cnt)
def NT (f:FProg):BProg :=
 ⟨Gi f f.classes 0,(slotsR f).length,(Bu f).1.map (·.2),I0 (ownR f) (slotsR f) (gensN f) f.methods 0,
  Gh (ownR f) (slotsR f) (gensN f) f.methods 0++Ey (ownR f) (slotsR f) (gensN f) f.main [] (Gh (ownR f) (slotsR f) (gensN f) f.methods 0).length,(Gh (ownR f) (slotsR f) (gensN f) f.methods 0).length⟩
theorem SQ (f:FProg) (V:Sig) (hw:f.wt<=10000000):DCall prog 53 [.agg (B3 f)] V (rS (.agg (AC (NT f))) V):=by
 obtain ⟨p1,p2,p3,p4,p5⟩:=f.wt_le
 have hsl:=IM f
 have i127 : ∀ V:Sig,Ans 127 [.agg (B3 f)] V True (.tup [sl (cS ((Bu f).1.map (·.1))),sl (cI ((Bu f).1.map (·.2)))]):=fun V=>ah0 (QS f V (by omega))
 refine en func53 ntmps53 ?_
 refine gz ?_ o53 [2,8,9,14]
 refine newV (fun i2 hi2 => ?_)
 refine gz ?_ (delO 2 o53) [2,8,9,14]
 refine mixT 6 [0,2,4,1,3,5] [1,3] ?_
 refine gz ?_ o53 [2,8,9,14]
 refine boxV (T:=196) (fun ib hib => ?_)
 refine gz ?_ o53 [2,8,9,14]
 have hgl:(gensN f).length<=f.wt:=by have:=Fs f;unfold gensN;rw [List.length_map];exact this
 have hgn:(Bu f).1.map (·.1)=gensN f:=rfl
 have hsr:f.classes.flatMap (·.slots)=slotsR f:=rfl
 have hgl2:((Bu f).1.map (·.2)).length<=f.wt:=by have:=Fs f;rw [List.length_map];exact this
 generalize hG2:(Bu f).1.map (·.2)=gs at *
 have hnn:(f.classes.map (·.name))=ownR f:=rfl
 have hsl':(slotsR f).length<=f.wt:=hsl
 simp only [hgn,hsr,hnn]
 refine appN (fun ig hig => ?_)
 obtain ⟨a1,b1⟩:=A4 hig
 obtain ⟨a2,b2⟩:=A4 b1
 obtain ⟨a3,b3⟩:=A4 hib
 generalize hU4:Sig.set _ ig _=S4
 have o1:S4 ib=some (.cells [.nils,dI 0, .nils, .nils, .nils,dI 0,sl (cS (ownR f)),sl (cS (slotsR f)),sl (cS (gensN f))]):=by rw [<- hU4,w8 _ _ (Ne.symm a1)];exact w7 ..
 have o2:S4 i2=some (.cells [.nils,dI 0, .nils, .nils, .nils,dI 0]):=by rw [<- hU4,w8 _ _ (Ne.symm a2),w8 _ _ (Ne.symm a3)];exact w7 ..
 have hS:Sub V S4:=fun j x hj=>by rw [<- hU4,w8 _ _ (A1 hj b2),w8 _ _ (A1 hj b3),w8 _ _ (A1 hj hi2)];exact hj
 clear hU4 hig
 refine gf o1 ?_ o53 [2,8,9,14]
 refine dwp_wk (Cx (az:=[.nils,dI (slotsR f).length]) (bs:=[.nils, .nils,dI 0,sl (cS (ownR f)),sl (cS (slotsR f)),sl (cS (gensN f))]) (d':=sl (cI gs)) (w7 ..) (Az _ _)) ?_
 rw [w9]
 refine AO ib 0 3 (w7 ..) rfl (fun ic hic => ?_)
 obtain ⟨c1,d1⟩:=A4 hic
 refine AO ib 3 9 (w7 ..) rfl (fun im him => ?_)
 obtain ⟨c2,d2⟩:=A4 him
 obtain ⟨c3,d3⟩:=A4 d2
 obtain ⟨c4,d4⟩:=A4 d3
 generalize hU5:Sig.set (Sig.set _ im _) ib _=S5
 have hz : ∀ j,S4 j=none->V j=none:=fun j hj=>by
  cases h:V j with
  | none=>rfl
  | some o=>rw [hS _ _ h] at hj;cases hj
 have hF5:F1S ib ic im i2 (slotsR f).length gs (ownR f) (slotsR f) (gensN f) [] V S5:=by
  rw [<- hU5]
  refine ⟨by rw [w7];rfl,by rw [w8 _ _ c1,w8 _ _ (Ne.symm c3),w8 _ _ c1];exact w7 .., by rw [w8 _ _ c2];exact w7 .., ?_,fun j x hj => ?_⟩
  ·rw [w8 _ _ (Ne.symm a3),w8 _ _ (A1 o2 d4),w8 _ _ (Ne.symm a3),w8 _ _ (A1 o2 d1),w8 _ _ (Ne.symm a3)];exact o2
  ·rw [w8 _ _ (A1 hj b3),w8 _ _ (A1 hj (hz _ d4)),w8 _ _ (A1 hj b3),w8 _ _ (A1 hj (hz _ d1)),w8 _ _ (A1 hj b3)];exact hS _ _ hj
 clear hU5
 have hic0:V ic=none:=hz _ d1
 have him0:V im=none:=hz _ d4
 refine Qe [1,2,3,5,13,14,15,16,132,133,134,135,136,137,138,139,140,141,142,143,144,145,146,147,148,149,150,151,152,153,154,155,156,157,158,159,160,161,162,163,164,165,166,167,168,169,170,171,172,173,174,175,176,177,178,179,180,181,182,183,184,185,186,187] (fun (k:Nat) (q:Nat) (cl:List BClass) (S6:Sig)=>k<=f.classes.length/\cl.length=k/\cl++Gi f (f.classes.drop k) q=Gi f f.classes 0/\q+((f.classes.drop k).flatMap (·.slots)).length=(slotsR f).length/\F1S ib ic im i2 (slotsR f).length gs (ownR f) (slotsR f) (gensN f) cl V S6) (fun k q _ _=>[(7,dI k),(6,dI q)]) (fun _ _ _ S6=>S6) (fun k _ _ _=>f.classes.length-k) (0) (0) ([]) (_) (by exact ⟨by omega,rfl,rfl,by simp [slotsR],hF5⟩) (fun k q cl S6 hI => ?_)
 obtain ⟨hk,hkc,hR,hq,hF⟩:=hI
 by_cases hkl:k < f.classes.length
 ·rw [A3 hkl] at hR hq
  have hcw:=p4 k hkl
  generalize hcl:f.classes[k]=c at *
  obtain ⟨w1,w2,w3,w4,w5⟩:=c.wt_le
  have hcp:=AZ c.parents
  have hcs:=AZ c.slots
  refine gf hcl ?_ o53 [2,8,9,14]
  refine newV (fun i8 hi8 => ?_)
  refine gz ?_ o53 [2,8,9,14]
  refine newV (fun i9 hi9 => ?_)
  refine gz ?_ o53 [2,8,9,14]
  obtain ⟨e1,e2⟩:=A4 hi9
  refine AO i9 0 1 (w7 ..) rfl (fun j1 hj1 => ?_)
  obtain ⟨g1,g2⟩:=A4 hj1
  obtain ⟨g3,g4⟩:=A4 g2
  refine AO i9 1 1 (w7 ..) rfl (fun j2 hj2 => ?_)
  obtain ⟨k1,k2⟩:=A4 hj2
  obtain ⟨k3,k4⟩:=A4 k2
  obtain ⟨k5,k6⟩:=A4 k4
  obtain ⟨k7,k8⟩:=A4 k6
  refine AO i9 2 2 (w7 ..) rfl (fun j3 hj3 => ?_)
  obtain ⟨l1,l2⟩:=A4 hj3
  obtain ⟨l3,l4⟩:=A4 l2
  obtain ⟨l5,l6⟩:=A4 l4
  obtain ⟨l7,l8⟩:=A4 l6
  obtain ⟨l9,l10⟩:=A4 l8
  obtain ⟨l11,l12⟩:=A4 l10
  generalize hU7:Sig.set (Sig.set _ j3 _) i9 _=S7
  have hC7:C1S i8 i9 j1 j2 j3 c [] [] [] S6 S7:=by
   have e1':=Ne.symm e1
   have g3':=Ne.symm g3
   have k3':=Ne.symm k3
   have k7':=Ne.symm k7
   have l3':=Ne.symm l3
   have l7':=Ne.symm l7
   have l11':=Ne.symm l11
   rw [<- hU7]
   refine ⟨?_,by rw [w7];rfl, ?_, ?_, ?_,fun j x hj => ?_⟩
   ·simp [w8 _ _ e1',w8 _ _ g3',w8 _ _ k7',w8 _ _ l11']
   ·simp [w8 _ _ g1,w8 _ _ k3',w8 _ _ l7']
   ·simp [w8 _ _ k1,w8 _ _ l3']
   ·simp [w8 _ _ l1]
   ·have m1:j ≠ i8:=A1 hj hi8
    have m2:j ≠ i9:=A1 hj e2
    have m3:j ≠ j1:=A1 hj g4
    have m4:j ≠ j2:=A1 hj k8
    have m5:j ≠ j3:=A1 hj l12
    simp only [w8 _ _ m1,w8 _ _ m2,w8 _ _ m3,w8 _ _ m4,w8 _ _ m5]
    exact hj
  clear hU7
  have env:=hF.env
  refine De [1,2,3,5,6,7,8,9,11,12,13,14,15,16,44,45,46,47,48,49,50,51,52,53,54,55,75,76,77,78,79,80,81,82,83,84,85,86,87,88,89,90,91,92,93,94,95,96,97,98,99,100,101,102,103,104,105,106,107,108,109,110,111,112,113,114,115,116,117,118,119,120,121,122,123,124,125,126,127,128,129,130,131,132,133,134,135,136,137,138,139,140,141,142,143,144,145,146,147,148,149,150,151,152,153,154,155,156,157,158,159,160,161,162,163,164,165,166,167,168,169,170,171,172,173,174,175,176,177,178,179,180,181,182,183,184,185,186,187] (fun (p:Nat) (ps:List Int) (S8:Sig)=>p<=c.parents.length/\ps++(c.parents.drop p).map (clsN (ownR f))=c.parents.map (clsN (ownR f))/\C1S i8 i9 j1 j2 j3 c ps [] [] S6 S8) (fun p _ _=>[(10,dI p)]) (fun _ _ S8=>S8) (fun p _ _=>c.parents.length-p) (0) ([]) (_) (by exact ⟨by omega,rfl,hC7⟩) (fun p ps S8 hI => ?_)
  obtain ⟨hp,hRp,hC⟩:=hI
  by_cases hpl:p < c.parents.length
  ·rw [A3 hpl,List.map_cons] at hRp
   have hlen:=congrArg List.length hRp
   simp at hlen
   have envB:=hC.hS _ _ env
   have u1:i9 ≠ j1:=Ac hC.o9 hC.o1 (by simp)
   have u2:ib ≠ j1:=A1 env g4
   have u3:i8 ≠ j1:=Ac hC.o8 hC.o1 (by simp)
   have b9:(S8.out fun j=>j=j1) i9=_:=C8 hC.o9 u1
   have b8:(S8.out fun j=>j=j1) i8=_:=C8 hC.o8 u3
   have hsub0:Sub (S8.out fun j=>j=j1) S8:=By _ _
   have hsub1:Sub (S8.out fun j=>j=j1) (S8.set j1 (.tail 1 (ps.length+1))):=fun j o hj=>by
    obtain ⟨h1,h2⟩:=C9 hj
    rw [w8 _ _ h2];exact h1
   have o1:=hC.o1
   have o9:=hC.o9
   have o8:=hC.o8
   have h129:=FY ib _ _ _ _ _ _ (ownR f) (slotsR f) (gensN f) c.parents[p] S8 envB (by unfold ownR;rw [List.length_map];omega)
   refine gf o8 ?_ (delO 14 o53) [2,8,9,14]
   refine DC (id:=14) [0,1,2,3,4,5,6,7,8,9,10,11] [8,10] (S8.out fun j=>j=j1) hsub0 ?_
   repeat' first | refine gf (gi b8 (gi b9 (gi o1 o9))) ?_ [] [2,8,9,14] | refine moR (h129) ?_ | refine moP (h129) ?_ | refine gf (gi b8 (gi b9 (gi o1 o9))) ?_ o53 [2,8,9,14] | apply gy<;>intro hh
   exact ⟨p+1,ps++[clsN (ownR f) c.parents[p]],_,⟨by omega,by rw [List.append_assoc];exact hRp,hC.par _ (Ne.symm k3) (Ne.symm l7) (Ne.symm e1) e2 g4⟩,td1,wkR⟩
  ·rw [A2 hpl,List.map_nil,List.append_nil] at hRp
   subst hRp
   have o8:=hC.o8
   refine gf o8 ?_ o53 [2,8,9,14]
   simp only [List.flatMap_cons,List.length_append] at hq
   clear hp hpl
   refine De [1,2,3,5,7,8,9,10,12,13,14,15,16,44,45,46,47,48,49,50,51,52,53,54,55,56,57,58,59,60,61,62,63,64,65,66,67,68,69,70,71,72,73,74,90,91,92,93,94,95,96,97,98,99,100,101,102,103,104,105,106,107,108,109,110,111,112,113,114,115,116,117,118,119,120,121,122,123,124,125,126,127,128,129,130,131,132,133,134,135,136,137,138,139,140,141,142,143,144,145,146,147,148,149,150,151,152,153,154,155,156,157,158,159,160,161,162,163,164,165,166,167,168,169,170,171,172,173,174,175,176,177,178,179,180,181,182,183,184,185,186,187] (fun (p:Nat) (ss:List Int) (S9:Sig)=>p<=c.slots.length/\ss.length=p/\ss++seqI (q+p) (c.slots.length-p)=seqI q c.slots.length/\C1S i8 i9 j1 j2 j3 c (c.parents.map (clsN (ownR f))) ss [] S6 S9) (fun p _ _=>[(11,dI p),(6,dI (q+p:Nat))]) (fun _ _ S9=>S9) (fun p _ _=>c.slots.length-p) (0) ([]) (_) (by exact ⟨by omega,rfl,rfl,hC⟩) (fun p ss S9 hI => ?_)
   obtain ⟨hp,hsp,hRs,hC9⟩:=hI
   by_cases hpl:p < c.slots.length
   ·rw [show c.slots.length-p=c.slots.length-(p+1)+1 by omega,seqI] at hRs
    have o2':=hC9.o2
    have o9:=hC9.o9
    have o8:=hC9.o8
    refine gf (gi o8 (gi o9 o2')) ?_ o53 [2,8,9,14]
    exact ⟨p+1,ss++[((q+p:Nat):Int)],_,⟨by omega,by rw [List.length_append,hsp];rfl,by rw [List.append_assoc];exact hRs,hC9.slo _ (Ne.symm k3) (Ne.symm l3) (Ne.symm e1) e2 k8⟩,td1,wkR⟩
   ·have hpe:p=c.slots.length:=by omega
    rw [hpe,Nat.sub_self,seqI,List.append_nil] at hRs
    have hq2:q+p=q+c.slots.length:=by rw [hpe]
    have o8:=hC9.o8
    refine gf o8 ?_ o53 [2,8,9,14]
    subst hRs
    rw [hq2]
    clear hp hpl hsp hpe hq2 o8 hC
    refine De [1,2,3,5,6,7,8,9,10,11,13,14,15,16,44,45,46,47,48,49,50,51,52,53,54,55,56,57,58,59,60,61,62,63,64,65,66,67,68,69,70,71,72,73,74,75,76,77,78,79,80,81,82,83,84,85,86,87,88,89,120,121,122,123,124,125,126,127,128,129,130,131,132,133,134,135,136,137,138,139,140,141,142,143,144,145,146,147,148,149,150,151,152,153,154,155,156,157,158,159,160,161,162,163,164,165,166,167,168,169,170,171,172,173,174,175,176,177,178,179,180,181,182,183,184,185,186,187] (fun (p:Nat) (is:List Init) (S10:Sig)=>p<=c.inits.length/\is++((c.inits.drop p).map fun x=>(⟨idxG x.slot (slotsR f) 0,x.n⟩:Init))=(c.inits.map fun x=>(⟨idxG x.slot (slotsR f) 0,x.n⟩:Init))/\C1S i8 i9 j1 j2 j3 c (c.parents.map (clsN (ownR f))) (seqI q c.slots.length) is S6 S10) (fun p _ _=>[(12,dI p)]) (fun _ _ S10=>S10) (fun p _ _=>c.inits.length-p) (0) ([]) (_) (by exact ⟨by omega,rfl,hC9⟩) (fun p is S10 hI => ?_)
    obtain ⟨hp,hRi,hC⟩:=hI
    by_cases hpl:p < c.inits.length
    ·rw [A3 hpl,List.map_cons] at hRi
     have hlen:=congrArg List.length hRi
     simp at hlen
     have envB:=hC.hS _ _ env
     have u1:i9 ≠ j3:=Ac hC.o9 hC.o3 (by simp)
     have u2:ib ≠ j3:=A1 env l12
     have u3:i8 ≠ j3:=Ac hC.o8 hC.o3 (by simp)
     have b9:(S10.out fun j=>j=j3) i9=_:=C8 hC.o9 u1
     have b8:(S10.out fun j=>j=j3) i8=_:=C8 hC.o8 u3
     have bB:(S10.out fun j=>j=j3) ib=_:=C8 envB u2
     have hsub0:Sub (S10.out fun j=>j=j3) S10:=By _ _
     have hsub1:Sub (S10.out fun j=>j=j3) (S10.set j3 (.tail 2 (is.length+1))):=fun j o hj=>by
      obtain ⟨h1,h2⟩:=C9 hj
      rw [w8 _ _ h2];exact h1
     have o3:=hC.o3
     have o9:=hC.o9
     have o8:=hC.o8
     refine gf o8 ?_ (delO 23 o53) [2,8,9,14]
     refine DC (id:=23) [0,1,2,3,4,5,6,7,8,9,10,11,13,14,15,16,17,18,12,19,20,21,22] [12,21] (S10.out fun j=>j=j3) hsub0 ?_
     refine gf (gi b8 (gi b9 (gi bB (gi o3 o9)))) ?_ o53 [2,8,9,14]
     exact ⟨p+1,is++[⟨idxG c.inits[p].slot (slotsR f) 0,c.inits[p].n⟩],_,⟨by omega,by rw [List.append_assoc];exact hRi,hC.ini _ (Ne.symm l7) (Ne.symm l3) (Ne.symm e1) e2 l12⟩,td1,wkR⟩
    ·rw [A2 hpl,List.map_nil,List.append_nil] at hRi
     subst hRi
     have o8:=hC.o8
     have o9:=hC.o9
     have envB:=hC.hS _ _ env
     have oc:=hC.hS _ _ hF.oc
     refine gf o8 ?_ (delO 24 o53) [2,8,9,14]
     refine dwp_wk (Cx (az:=[]) (bs:=[.slice (cI (seqI q c.slots.length)) (.tag j2), .slice ((c.inits.map fun x=>(⟨idxG x.slot (slotsR f) 0,x.n⟩:Init)).map Dg) (.tag j3)]) (d':=sl (cI (c.parents.map (clsN (ownR f))))) o9 (Az _ _)) ?_
     refine dwp_wk (Cx (az:=[sl (cI (c.parents.map (clsN (ownR f))))]) (bs:=[.slice ((c.inits.map fun x=>(⟨idxG x.slot (slotsR f) 0,x.n⟩:Init)).map Dg) (.tag j3)]) (d':=sl (cI (seqI q c.slots.length))) (w7 ..) (Az _ _)) ?_
     refine dwp_wk (Cx (az:=[sl (cI (c.parents.map (clsN (ownR f)))),sl (cI (seqI q c.slots.length))]) (bs:=[]) (d':=sl ((c.inits.map fun x=>(⟨idxG x.slot (slotsR f) 0,x.n⟩:Init)).map Dg)) (w7 ..) (Az _ _)) ?_
     simp only [w9,List.nil_append,List.cons_append,List.singleton_append]
     have n9b:i9 ≠ ib:=Ne.symm (A1 env e2)
     have n9c:i9 ≠ ic:=Ne.symm (A1 hF.oc e2)
     generalize hU11:Sig.set S10 i9 _=S11
     have q9:S11 i9=some (.cells (cBClass (W5 f c q))):=by rw [<- hU11];exact w7 ..
     have qb:S11 ib=S10 ib:=by rw [<- hU11,w8 _ _ (Ne.symm n9b)]
     rw [envB] at qb
     have qc:S11 ic=S10 ic:=by rw [<- hU11,w8 _ _ (Ne.symm n9c)]
     rw [oc] at qc
     have nbc:ib ≠ ic:=Ac env hF.oc (by simp)
     have hS11:Sub S6 S11:=by rw [<- hU11];exact hC.hS.set e2
     have u9:(S11.out fun j=>j=ic) i9=_:=C8 q9 n9c
     have uB:(S11.out fun j=>j=ic) ib=_:=C8 qb nbc
     have hsub0:Sub (S11.out fun j=>j=ic) S11:=By _ _
     have hsub1:Sub (S11.out fun j=>j=ic) (S11.set ic (.tail 3 (cl.length+1))):=fun j o hj=>by
      obtain ⟨h1,h2⟩:=C9 hj
      rw [w8 _ _ h2];exact h1
     clear hU11
     refine DC (id:=24) [0,1,2,3,4,5,6,7,8,9,10,11] [8] (S11.out fun j=>j=ic) hsub0 ?_
     refine gf (gi u9 (gi uB (gi q9 (gi qb qc)))) ?_ o53 [2,8,9,14]
     exact ⟨k+1,q+c.slots.length,cl++[W5 f c q],_,⟨by omega,by rw [List.length_append,hkc];rfl,by rw [List.append_assoc];exact hR,by omega,hF.cls hS11 b3 hic0 _⟩,td1,wkR⟩
 ·rw [A2 hkl,Gi,List.append_nil] at hR
  subst hR
  have env:=hF.env
  refine gz ?_ o53 [2,8,9,14]
  clear hq hkc hk hkl
  refine dwp_wk (Cx (az:=[]) (bs:=[dI (slotsR f).length,sl (cI gs), .slice [] (.tag im), .nils,dI 0,sl (cS (ownR f)),sl (cS (slotsR f)),sl (cS (gensN f))]) (d':=sl ((Gi f f.classes 0).map cBClass)) env (Az _ _)) ?_
  simp only [List.nil_append,List.singleton_append]
  generalize hbc:Gi f f.classes 0=bcs at *
  have n1:im ≠ ib:=Ac hF.om hF.env (by simp)
  have n2:i2 ≠ ib:=Ac hF.o2 hF.env (by simp)
  have n3:i2 ≠ im:=Ac hF.o2 hF.om (by simp)
  generalize hU7:Sig.set S6 ib _=S7
  have hB7:NdS ib (sl (bcs.map cBClass)) (dI (slotsR f).length) (sl (cI gs)) (.slice (([]:List BMeth).map Ai) (.tag im)) (dI 0) (ownR f) (slotsR f) (gensN f) none [] S7:=⟨by rw [<- hU7];exact w7 .., rfl,id⟩
  have x1:S7 im=some (.tail 9 ([]:List BMeth).length):=by rw [<- hU7,w8 _ _ n1];exact hF.om
  have x5:S7 i2=some (.cells [.nils,dI 0, .nils, .nils, .nils,dI 0]):=by rw [<- hU7,w8 _ _ n2];exact hF.o2
  have xS:Sub V S7:=by rw [<- hU7];exact hF.hS.set b3
  clear hU7 hF env
  have hwl:wtL FMeth.wt f.methods<=f.wt:=by unfold FProg.wt;omega
  refine Qd [1,2,3,5,16,175,176,177,178,179,180,181,182,183,184,185,186,187] (fun (k:Nat) (ms:List BMeth) (st:MR) (ns:List BNode) (S1:Sig)=>k<=f.methods.length/\ms.length=k/\ns++Gh (ownR f) (slotsR f) (gensN f) (f.methods.drop k) ns.length=Gh (ownR f) (slotsR f) (gensN f) f.methods 0/\ms++I0 (ownR f) (slotsR f) (gensN f) (f.methods.drop k) ns.length=I0 (ownR f) (slotsR f) (gensN f) f.methods 0/\ns.length+wtL FMeth.wt (f.methods.drop k)<=f.wt/\NdS ib (sl (bcs.map cBClass)) (dI (slotsR f).length) (sl (cI gs)) (.slice (ms.map Ai) (.tag im)) (dI 0) (ownR f) (slotsR f) (gensN f) st ns S1/\S1 im=some (.tail 9 ms.length)/\S1 i2=some (.cells [.nils,dI 0, .nils, .nils, .nils,dI 0]) /\ ¬ Bl st i2/\Sub V S1/\(∀ j x,V j=some x -> ¬ Bl st j)) (fun k _ _ _ _=>[(13,dI k)]) (fun _ _ _ _ S1=>S1) (fun k _ _ _ _=>f.methods.length-k) (0) ([]) (none) ([]) (S7) (by exact ⟨by omega,rfl,rfl,rfl,by simpa using hwl,hB7,x1,x5,id,xS,fun _ _ _=>id⟩) (fun k ms st ns S1 hI => ?_)
  obtain ⟨hk,hml,hRn,hRm,hbud,hB,o1,o5,o6,oS,oR⟩:=hI
  have hol:(ownR f).length<=1000000000:=by unfold ownR;rw [List.length_map];omega
  by_cases hkl:k < f.methods.length
  ·rw [A3 hkl] at hRn hRm hbud
   rw [Gh] at hRn
   rw [I0] at hRm
   rw [wtL] at hbud
   have hwm:=p5 k hkl
   generalize hmm:f.methods[k]=m at *
   have hpl:m.params.length<=f.wt/\m.body.wt<=f.wt/\m.fact.wt<=f.wt:=by have:=hwm;unfold FMeth.wt at this;have:=AZ m.params;omega
   obtain ⟨g1,g2,g3⟩:=hpl
   have hlm0:m.body.wt<=FMeth.wt m:=by unfold FMeth.wt;omega
   have hlm:ns.length+m.body.wt<=100000000:=by omega
   refine gf hmm ?_ o53 [2,8,9,14]
   refine newV (fun i14 hi14 => ?_)
   refine gf hmm ?_ o53 [2,8,9,14]
   have hBn:=hB.fresh (o := .cells [dI m.kind, .str m.name,sl (cS m.params),dI m.fact.op, .str m.fact.name,sl (cS m.fact.path), .str m.fact.cls,dI m.fact.n,sl (m.fact.kids.map Bk),dI m.body.op,dI m.body.n, .str m.body.text,sl (m.body.kids.map Am)]) hi14
   have hi14':i14 ≠ im:=fun e=>by rw [e,o1] at hi14;cases hi14
   have hrow : ∀ {j x},(∀ c,x ≠ .cells c)->S1 j=some x -> ¬ Bl st j:=fun hx hj hr=>by obtain ⟨cs,hc⟩:=hB.row.cells hr;rw [hj] at hc;cases hc;exact hx _ rfl
   have i131:=KZ (ib:=ib) (a:=sl (bcs.map cBClass)) (b:=dI (slotsR f).length) (c:=sl (cI gs)) (d := .slice (ms.map Ai) (.tag im)) (f:=dI 0) (names:=ownR f) (slots:=slotsR f) (gens:=gensN f) hol (by omega) (by omega) m.body.wt m.body m.params .no st ns _ (Nat.le_refl _) hlm (by omega) hBn
   refine Ab i131 (fun x S2 hr => ?_) (fun x S2 hr=>by cases hr.1)
   clear i131
   obtain ⟨e1,st2,hB2,hK2⟩:=hr
   cases e1
   have kp : ∀ {j x},S1 j=some x->j ≠ ib -> ¬ Bl st j->S2 j=some x /\ ¬ Bl st2 j:=fun hj hb hr=>hK2 _ _ (by rw [w8 _ _ (A1 hj hi14)];exact hj) hb hr
   obtain ⟨t1,t1r⟩:=kp o1 n1 (hrow (by simp) o1)
   obtain ⟨t5,t5r⟩:=kp o5 n2 o6
   have tS : ∀ j x,V j=some x->S2 j=some x /\ ¬ Bl st2 j:=fun j x hj=>kp (oS _ _ hj) (A1 hj b3) (oR _ _ hj)
   obtain ⟨t14,_⟩:=hK2 i14 _ (w7 ..) (fun e=>by rw [e,hB.env] at hi14;cases hi14) (hB.notrow hi14)
   have h132:=QR (ib:=ib) (a:=sl (bcs.map cBClass)) (b:=dI (slotsR f).length) (c:=sl (cI gs)) (d := .slice (ms.map Ai) (.tag im)) (f:=dI 0) (names:=ownR f) (slots:=slotsR f) (gens:=gensN f) hol (by omega) m.params .no (by omega) m.fact.wt m.fact S2 (Nat.le_refl _) (by omega) hB2.bds
   have m1:ib ≠ im:=Ne.symm n1
   have u1:(S2.out (· = im)) ib=_:=C8 hB2.env m1
   have u14:(S2.out (· = im)) i14=_:=C8 t14 hi14'
   have hsub:Sub (S2.out (· = im)) (S2.set im (.tail 9 (ms.length+1))):=fun j x hj=>by
    obtain ⟨h1,h2⟩:=C9 hj
    rw [w8 _ _ h2];exact h1
   have hout0:Sub (S2.out (· = im)) S2:=By _ _
   refine gz ?_ (delO 30 o53) [2,8,9,14]
   refine DC (id:=30) [0,1,2,3,4,5,6,7,8,9,10,12,13,14,15,16,18,11,17,19,20,21,22,23,24] [11,17,21] (S2.out (· = im)) (By _ _) ?_
   repeat' first | refine gf (gi u1 (gi u14 (gi t14 (gi t1 hB2.env)))) ?_ [] [2,8,9,14] | refine moR (h132) ?_ | refine moP (h132) ?_ | refine gf (gi u1 (gi u14 (gi t14 (gi t1 hB2.env)))) ?_ o53 [2,8,9,14] | apply gy<;>intro hh
   generalize hqq:Sig.set _ ib _=qq
   have hbl:=Ex (names:=ownR f) (slots:=slotsR f) (gens:=gensN f) m.body m.params ns.length
   have c1:qq ib=some (.cells [sl (bcs.map cBClass),dI (slotsR f).length,sl (cI gs), .slice ((ms++[(⟨m.kind,idxG m.name (gensN f) 0,FE (ownR f) (slotsR f) m.params m.fact,ns.length⟩:BMeth)]).map Ai) (.tag im),mD st2 (ns++Ey (ownR f) (slotsR f) (gensN f) m.body m.params ns.length).length,dI 0,sl (cS (ownR f)),sl (cS (slotsR f)),sl (cS (gensN f))]):=by
    rw [<- hqq,w7,List.length_append]
    simp only [List.map_append,List.map_cons,List.map_nil,Ai,Dr,List.cons_append,List.nil_append]
   have kq : ∀ {j x},S2 j=some x->j ≠ ib->j ≠ im->qq j=some x:=fun hj h1 h2=>by rw [<- hqq,w8 _ _ h1,w8 _ _ h2];exact hj
   have hBq:NdS ib (sl (bcs.map cBClass)) (dI (slotsR f).length) (sl (cI gs)) (.slice ((ms++[(⟨m.kind,idxG m.name (gensN f) 0,FE (ownR f) (slotsR f) m.params m.fact,ns.length⟩:BMeth)]).map Ai) (.tag im)) (dI 0) (ownR f) (slotsR f) (gensN f) st2 (ns++Ey (ownR f) (slotsR f) (gensN f) m.body m.params ns.length) qq :=
    ⟨c1,hB2.row.keep fun j x hj hr=>kq hj (fun e=>hB2.nr (by rw [<- e];exact hr)) (fun e=>t1r (by rw [<- e];exact hr)),hB2.nr⟩
   have cim:qq im=some (.tail 9 (ms++[(⟨m.kind,idxG m.name (gensN f) 0,FE (ownR f) (slotsR f) m.params m.fact,ns.length⟩:BMeth)]).length):=by rw [<- hqq,w8 _ _ (Ne.symm m1),w7,List.length_append];rfl
   have c5:=kq t5 n2 n3
   have cS:Sub V qq:=fun j x hj=>kq (tS j x hj).1 (A1 hj b3) (A1 hj him0)
   clear hqq
   exact ⟨k+1,ms++[⟨m.kind,idxG m.name (gensN f) 0,FE (ownR f) (slotsR f) m.params m.fact,ns.length⟩],st2,ns++Ey (ownR f) (slotsR f) (gensN f) m.body m.params ns.length,qq,⟨by omega,by rw [List.length_append,hml];rfl,by rw [List.append_assoc,List.length_append,hbl];exact hRn,by rw [List.append_assoc,List.length_append,hbl];exact hRm,by rw [List.length_append,hbl];have:=FExp.cnt_le m.body;omega,hBq,cim,c5,t5r,cS,fun j x hj=>(tS j x hj).2⟩,td1,wkR⟩
  ·rw [A2 hkl,Gh,List.append_nil] at hRn
   rw [A2 hkl,I0,List.append_nil] at hRm
   have hmw:=FExp.cnt_le f.main
   refine gz ?_ o53 [2,8,9,14]
   refine Ab (DCall.wk (args:=[.ptr ib 0, .agg (Am f.main), .nils]) (KZ (ib:=ib) (a:=sl (bcs.map cBClass)) (b:=dI (slotsR f).length) (c:=sl (cI gs)) (d := .slice (ms.map Ai) (.tag im)) (f:=dI 0) (names:=ownR f) (slots:=slotsR f) (gens:=gensN f) hol (by omega) (by omega) f.main.wt f.main [] .no st ns _ (Nat.le_refl _) (by omega) (by simp only [List.length_nil];omega) hB) (Cv (A9 _) (Cv (A9 _) (Cv (Al _ (.inl rfl)) O6)))) (fun x S2 hr => ?_) (fun x S2 hr=>by cases hr.1)
   obtain ⟨e1,st2,hB2,hK2⟩:=hr
   cases e1
   obtain ⟨t5,t5r⟩:=hK2 _ _ o5 n2 o6
   have tS : ∀ j x,V j=some x->S2 j=some x /\ ¬ Bl st2 j:=fun j x hj=>hK2 _ _ (oS _ _ hj) (A1 hj b3) (oR _ _ hj)
   have hbo:NT f=⟨bcs,(slotsR f).length,gs,ms,ns++Ey (ownR f) (slotsR f) (gensN f) f.main [] ns.length,ns.length⟩:=by unfold NT;rw [hbc,hG2, <- hRn, <- hRm]
   generalize hnn:ns++Ey (ownR f) (slotsR f) (gensN f) f.main [] ns.length=nn at *
   obtain ⟨S4,rfl,hm4,hk4,_⟩:=hB2.row.mS
   have d1:=hk4 _ _ hB2.env hB2.nr
   have d5:=hk4 _ _ t5 t5r
   have dS:Sub V S4:=fun j x hj=>hk4 _ _ (tS j x hj).1 (tS j x hj).2
   refine BF (EC (az:=[sl (bcs.map cBClass),dI (slotsR f).length,sl (cI gs), .slice (ms.map Ai) (.tag im)]) (bs:=[dI 0,sl (cS (ownR f)),sl (cS (slotsR f)),sl (cS (gensN f))]) hm4 (by rw [List.length_map];exact d1)) ?_
   refine BF (Cx (az:=[sl (bcs.map cBClass),dI (slotsR f).length,sl (cI gs)]) (d := .slice (ms.map Ai) (.tag im)) (d':=sl (ms.map Ai)) (bs:=[sl (nn.map Ad),dI 0,sl (cS (ownR f)),sl (cS (slotsR f)),sl (cS (gensN f))]) (w7 ..) (Az _ _)) ?_
   rw [w9]
   have e1:(S4.set ib (.cells [sl (bcs.map cBClass),dI (slotsR f).length,sl (cI gs),sl (ms.map Ai),sl (nn.map Ad),dI 0,sl (cS (ownR f)),sl (cS (slotsR f)),sl (cS (gensN f))])) ib=some (.cells [sl (bcs.map cBClass),dI (slotsR f).length,sl (cI gs),sl (ms.map Ai),sl (nn.map Ad),dI 0,sl (cS (ownR f)),sl (cS (slotsR f)),sl (cS (gensN f))]):=w7 ..
   have e5:(S4.set ib (.cells [sl (bcs.map cBClass),dI (slotsR f).length,sl (cI gs),sl (ms.map Ai),sl (nn.map Ad),dI 0,sl (cS (ownR f)),sl (cS (slotsR f)),sl (cS (gensN f))])) i2=some (.cells [.nils,dI 0, .nils, .nils, .nils,dI 0]):=by rw [w8 _ _ n2];exact d5
   have eS:Sub V (S4.set ib (.cells [sl (bcs.map cBClass),dI (slotsR f).length,sl (cI gs),sl (ms.map Ai),sl (nn.map Ad),dI 0,sl (cS (ownR f)),sl (cS (slotsR f)),sl (cS (gensN f))])):=dS.set b3
   generalize hU5:S4.set ib (.cells ([sl (bcs.map cBClass),dI (slotsR f).length,sl (cI gs)]++sl (ms.map Ai)::[sl (nn.map Ad),dI 0,sl (cS (ownR f)),sl (cS (slotsR f)),sl (cS (gensN f))]))=S5
   have hU5:S4.set ib (.cells [sl (bcs.map cBClass),dI (slotsR f).length,sl (cI gs),sl (ms.map Ai),sl (nn.map Ad),dI 0,sl (cS (ownR f)),sl (cS (slotsR f)),sl (cS (gensN f))])=S5:=hU5
   rw [hU5] at e1 e5 eS
   clear hU5
   have n2':ib ≠ i2:=Ne.symm n2
   refine gf (gi e1 e5) ?_ o53 [2,8,9,14]
   rw [hbo]
   refine finC (S':=V) ⟨rfl,rfl⟩ (hZ:=(eS.set b3).set hi2)
end Go.DL
