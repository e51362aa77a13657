/- Part of the proof that the last text ends. -/
import Derived.Test.YtlfimpogphmbdaaGreatM16
import Derived.Test.YtlfimpogphmbdaaGreatM23
import Derived.Test.YtlfimpogphmbdaaGreatM25
import Derived.Test.YtlfimpogphmbdaaGreatM24
set_option linter.all false
namespace Go.DL
open Go.Proofs.Tryz
open Go Go.Proofs
set_option maxHeartbeats 8000000
structure NotS (io i1 i2:Nat) (V:Sig) (s:GenT):Prop where
 oo:V io=some (.cells [.slice (cS (s.1.map (·.1))) (.tag i1), .slice (cI (s.1.map (·.2))) (.tag i2), .bool (!s.2)])
 o1:V i1=some (.tail 1 s.1.length)
 o2:V i2=some (.tail 1 s.1.length)
def tN (io i1 i2:Nat):Nat->Prop:=fun j=>j=io\/j=i1\/j=i2
theorem Sy (x:Str) : ∀ (l:List (Str × Int)) (k:Nat),hasM x l=false->idxG x (l.map (·.1)) k = -1
 | [],_,_=>rfl
 | (a,b)::r,k,h=>by
  simp only [hasM,Bool.or_eq_false_iff,decide_eq_false_iff_not] at h
  simp only [List.map_cons,idxG]
  rw [if_neg fun e=>h.1 e.symm,Sy x r _ h.2]
theorem LR (x:Str) : ∀ (l:List (Str × Int)) (k:Nat),hasM x l=true -> ∃ j, ∃ hj:j < l.length,idxG x (l.map (·.1)) k=(k:Int)+j/\(l[j]'hj).2=getM 0 x l
 | [],_,h=>by cases h
 | (a,b)::r,k,h=>by
  simp only [List.map_cons,idxG,getM]
  by_cases e:a=x
  ·exact ⟨0,by simp,by rw [if_pos e];simp,by rw [if_pos e.symm];rfl⟩
  ·have h2:hasM x r=true:=by
    simp only [hasM,Bool.or_eq_true,decide_eq_true_eq] at h
    exact h.resolve_left fun h=>e h.symm
   obtain ⟨j,hj,h3,h4⟩:=LR x r (k+1) h2
   exact ⟨j+1,by simp;omega,by rw [if_neg e,h3];omega,by rw [if_neg fun h=>e h.symm];exact h4⟩
theorem KU (name:Str) (n:Int) (io i1 i2:Nat) (s:GenT) (V:Sig) (hl:s.1.length<=100000000) (hG:NotS io i1 i2 V s) (h12:i1 ≠ i2) :
  DCall prog 212 [.ptr io 0, .str name,dI n] V fun x S'=>x = .ret (.tup [])/\NotS io i1 i2 S' (seeG name n s)/\Keep (tN io i1 i2) V S':=by
 obtain ⟨acc,ok⟩:=s
 obtain ⟨oo,o1,o2⟩:=hG
 simp only at oo o1 o2 hl
 have e1:i1 ≠ io:=Ac o1 oo (by simp)
 have e2:i2 ≠ io:=Ac o2 oo (by simp)
 refine en func212 ntmps212 ?_
 cases hh:hasM name acc
 ·have hix:=Sy name acc 0 hh
  have hs:seeG name n (acc,ok)=(acc++[(name,n)],ok):=by unfold seeG;rw [if_neg (by rw [hh];simp)]
  have hc:cS (acc.map (·.1))++[[D.str name]]=cS ((acc++[(name,n)]).map (·.1)):=by simp [cS]
  have hc2:cI (acc.map (·.2))++[[dI n]]=cI ((acc++[(name,n)]).map (·.2)):=by simp [cI]
  rw [hs]
  refine gf (gi oo hix) ?_ [] [6]
  generalize hA:cS (acc.map (·.1))=A at *
  generalize hB:cI (acc.map (·.2))=B at *
  have lA:A.length=acc.length:=by rw [<- hA];simp
  have lB:B.length=acc.length:=by rw [<- hB];simp
  have mA : ∀ c ∈ A,c.length=1:=by rw [<- hA];exact CT _
  have mB : ∀ c ∈ B,c.length=1:=by rw [<- hB];exact BN _
  have hb0:(V.out fun j=>j=i1\/j=i2) io=some (.cells [.slice A (.tag i1), .slice B (.tag i2), .bool (!ok)]):=C8 oo fun h=>h.elim (fun h=>e1 h.symm) fun h=>e2 h.symm
  have hs1:Sub (V.out fun j=>j=i1\/j=i2) (V.set i1 (.tail 1 (acc.length+1))):=fun j o hj=>by
   obtain ⟨h1,h2⟩:=C9 hj
   rw [w8 _ _ fun h=>h2 (.inl h)];exact h1
  have hs2:Sub (V.out fun j=>j=i1\/j=i2) ((V.set i1 (.tail 1 (acc.length+1))).set i2 (.tail 1 (acc.length+1))):=fun j o hj=>by
   obtain ⟨h1,h2⟩:=C9 hj
   rw [w8 _ _ fun h=>h2 (.inr h),w8 _ _ fun h=>h2 (.inl h)];exact h1
  refine mixK (id:=2) [0,1,2,3,4,5,6,7,9,10,11,12,13,14,8,15,16,17,18,19,20,21] [8,15,18,21] [5,12] [18,21] (V.out fun j=>j=i1\/j=i2) (By _ _) ?_
  refine k4R (.ptr io 0) ?_
  refine k4R (.ptr io 0) ?_
  refine k4R (.ptr io 0) ?_
  refine k4R (.ptr io 0) ?_
  refine k4R (.ptr io 0) ?_
  refine k4R (.slice A (.tag i1)) ?_ (hd:=by simp [hb0])
  refine k4R (.str name) ?_
  refine k4R (.slice [[.str name]] .clip) ?_
  refine k4R (.ptr io 0) ?_
  refine k4R (.ptr io 0) ?_
  refine k4R (.ptr io 1) ?_
  refine k4R (.slice B (.tag i2)) ?_ (hd:=by simp [hb0])
  refine k4R (dI n) ?_
  refine k4R (.slice [[dI n]] .clip) ?_
  refine k4E (d := .slice (A++[[.str name]]) (.tag i1)) _ hs1 ?_ (he:=by simp [o1,lA];exact ⟨⟨mA,by omega⟩,by omega⟩)
  refine k4E (d := .slice (B++[[dI n]]) (.tag i2)) _ hs2 ?_ (he:=by simp [o2,lB,w8,Ne.symm h12];exact ⟨⟨mB,by omega⟩,by omega⟩)
  refine k4R (.ptr io 0) ?_
  refine k4R (.ptr io 0) ?_
  refine k4S (d := .any) (S':=((V.set i1 (.tail 1 (acc.length+1))).set i2 (.tail 1 (acc.length+1))).set io (.cells [.slice (A++[[.str name]]) (.tag i1), .slice B (.tag i2), .bool (!ok)])) (fun _=>none) (fun _ _ h=>by cases h) ?_ (he:=by simp [oo,w8,Ne.symm e1,Ne.symm e2])
  refine k4R (.ptr io 0) ?_
  refine k4R (.ptr io 1) ?_
  refine k4S (d := .any) (S':=((((V.set i1 (.tail 1 (acc.length+1))).set i2 (.tail 1 (acc.length+1))).set io (.cells [.slice (A++[[.str name]]) (.tag i1), .slice B (.tag i2), .bool (!ok)])).set io (.cells [.slice (A++[[.str name]]) (.tag i1), .slice (B++[[dI n]]) (.tag i2), .bool (!ok)]))) (fun _=>none) (fun _ _ h=>by cases h) ?_ (he:=by simp [oo,w8,Ne.symm e1,Ne.symm e2])
  refine k4N ?_
  subst hA hB
  have n1:=Ne.symm e1
  have n2:=Ne.symm e2
  refine fin0 (S':=((V.set i1 (.tail 1 (acc.length+1))).set i2 (.tail 1 (acc.length+1))).set io (.cells [.slice (cS ((acc++[(name,n)]).map (·.1))) (.tag i1), .slice (cI ((acc++[(name,n)]).map (·.2))) (.tag i2), .bool (!ok)])) ⟨rfl,⟨by rw [w7], ?_, ?_⟩,fun j o hj hn => ?_⟩ (hZ:=by rw [w9,hc,hc2];exact Sub.refl _)
  ·rw [w8 _ _ e1,w8 _ _ h12,w7,List.length_append];rfl
  ·rw [w8 _ _ e2,w7,List.length_append];rfl
  ·rw [w8 _ _ fun e=>hn (.inl e),w8 _ _ fun e=>hn (.inr (.inr e)),w8 _ _ fun e=>hn (.inr (.inl e))];exact hj
 ·obtain ⟨j,hj,hix,hgm⟩:=LR name acc 0 hh
  have hs:seeG name n (acc,ok)=(acc,ok && decide (getM 0 name acc=n)):=by unfold seeG;rw [if_pos hh]
  rw [hs, <- hgm]
  repeat' first | refine gf (gi oo hix) ?_ [] [6] | apply gy<;>intro hh
  ·exact fin0 (S':=V.set io (.cells [.slice (cS (acc.map (·.1))) (.tag i1), .slice (cI (acc.map (·.2))) (.tag i2), .bool true])) ⟨rfl,⟨by rw [w7];simp [hh],by rw [w8 _ _ e1];exact o1,by rw [w8 _ _ e2];exact o2⟩,fun j o hj hn=>by rw [w8 _ _ fun e=>hn (.inl e)];exact hj⟩
  ·exact fin0 (S':=V) ⟨rfl,⟨by simp [hh,oo],o1,o2⟩,fun j o hj hn=>hj⟩
def K1 (s:GenT) (x:FExp):GenT:=if x.op=5 then seeG x.text x.kids.length s else s
mutual
theorem Pk : ∀ (e:FExp) (s:GenT),genE e s=(allE e).foldl K1 s
 | .mk o n t k,s=>by rw [genE,allE,List.foldl_cons,N7 k];rfl
theorem N7 : ∀ (l:List FExp) (s:GenT),Cp l s=(B9 l).foldl K1 s
 | [],s=>by rw [Cp,B9];rfl
 | x::r,s=>by rw [Cp,B9,List.foldl_append,N7 r,Pk x]
end
theorem Rt (s:GenT) (x:FExp):(K1 s x).1.length<=s.1.length+1:=by
 unfold K1
 split
 ·exact GT ..
 ·omega
section
variable {P:Program} {n:Nat} {γ:List (Nat × D)} {V:Sig}
theorem fin3 {fn:Func} {R:DE->Sig->Prop} {S':Sig} {t u v:Nat} {d d' e e' f f':D} (hR:R (.ret (.tup [d',e',f'])) S') (hZ:Sub S' V:=by exact tdU) (hr:fn.results = #[.tmp t, .tmp u, .tmp v]:=by exact tdR) (hl:γ.lookup t=some d:=by exact tdR) (hl2:γ.lookup u=some e:=by exact tdR) (hl3:γ.lookup v=some f:=by exact tdR) (htu:decide (u=t)=false:=by exact tdR) (htv:decide (v=t)=false:=by exact tdR) (huv:decide (v=u)=false:=by exact tdR) (hw:WkD d d':=by exact tdW) (hw2:WkD e e':=by exact tdW) (hw3:WkD f f':=by exact tdW):EB P n fn R .ret ⟨γ,V,[]⟩ :=
 ⟨⟨[(t,d'),(u,e'),(v,f')],S',[]⟩,UR (show Tells γ [(t,d'),(u,e'),(v,f')] from ⟨by rw [Ao hl];exact hw,by rw [Ao hl2];exact hw2,by rw [Ao hl3];exact hw3,trivial⟩) hZ,rfl, .tup [d',e',f'],DS (by
  have h1:u ≠ t:=by simpa using htu
  have h2:v ≠ t:=by simpa using htv
  have h3:v ≠ u:=by simpa using huv
  simp [resD,hr,h1,h2,h3]),ED hR⟩
end
theorem NotS.fresh {io i1 i2 k:Nat} {V:Sig} {s:GenT} {o:DObj} (h:NotS io i1 i2 V s) (hk:V k=none):NotS io i1 i2 (V.set k o) s :=
 ⟨by rw [w8 _ _ (A1 h.oo hk)];exact h.oo,by rw [w8 _ _ (A1 h.o1 hk)];exact h.o1,by rw [w8 _ _ (A1 h.o2 hk)];exact h.o2⟩
theorem L0 (f:FProg) (V:Sig) (hw:f.wt<=100000000):DCall prog 126 [.agg (B3 f)] V (rS (.tup [sl (cS ((Bu f).1.map (·.1))),sl (cI ((Bu f).1.map (·.2))), .bool (Bu f).2]) V):=by
 obtain ⟨p1,p2,p3,p4,p5⟩:=f.wt_le
 have hbw:=JS f
 refine en func126 ntmps126 ?_
 repeat ((fail_if_success (first | (refine boxV (T:=284) (fun io hio => ?_)) | fail));(refine goX1 trivial ?_))
 refine boxV (T:=284) (fun io hio => ?_)
 refine gz ?_ o126 [8]
 refine AO io 0 1 (ds:=[.nils, .nils, .bool false]) (w7 ..) rfl (fun i1 hi1 => ?_)
 obtain ⟨a1,b1⟩:=A4 hi1
 refine AO io 1 1 (ds:=[.slice [] (.tag i1), .nils, .bool false]) (w7 ..) rfl (fun i2 hi2 => ?_)
 obtain ⟨a2,b2⟩:=A4 hi2
 obtain ⟨a3,b3⟩:=A4 b2
 obtain ⟨a4,b4⟩:=A4 b3
 generalize hU1:Sig.set (Sig.set _ i2 _) io _=S1
 have hG1:NotS io i1 i2 S1 ([],true):=by
  rw [<- hU1]
  exact ⟨by simp [cS,cI],by rw [w8 _ _ a1,w8 _ _ (Ne.symm a3),w8 _ _ a1];simp,by rw [w8 _ _ a2];simp⟩
 have ht0 : ∀ j,tN io i1 i2 j->V j=none:=fun j hj=>by
  rcases hj with rfl | rfl | rfl
  ·exact hio
  ·exact b1
  ·exact b4
 have hS1:Sub V S1:=fun j x hj=>by
  have e1:j ≠ io:=A1 hj hio
  have e2:j ≠ i1:=A1 hj b1
  have e3:j ≠ i2:=A1 hj b4
  rw [<- hU1]
  simp only [w8 _ _ e1,w8 _ _ e2,w8 _ _ e3]
  exact hj
 have hKS : ∀ {τ V':Sig},Sub V τ->Keep (tN io i1 i2) τ V'->Sub V V':=fun hs hk j x hj=>hk j x (hs j x hj) fun ht=>by rw [ht0 j ht] at hj;cases hj
 have h12:i1 ≠ i2:=Ne.symm a3
 clear hU1
 refine De [1,2,3,4,5,7,8,9,10,35,36,37,38,39,40,41,42,43,44,45,46,47,48,49,50,51,52,53,54,55,56,57,58,59,60,61,62,63,64,65,66,67,68,69,70,71,72,73,74,75,76,77,78,79,80,81,82,83,84,85,86,87,88,89,90,91,92,93,94] (fun (k:Nat) (s:GenT) (S1:Sig)=>k<=f.methods.length/\s.1.length<=k/\metG f.methods ([],true)=metG (f.methods.drop k) s/\NotS io i1 i2 S1 s/\Sub V S1) (fun k _ _=>[(6,dI k)]) (fun _ _ S1=>S1) (fun k _ _=>f.methods.length-k) (0) (([],true)) (_) (by exact ⟨by omega,Nat.le_refl _,rfl,hG1,hS1⟩) (fun k s S1 hI => ?_)
 obtain ⟨hk,hsl,hR,hG,hS⟩:=hI
 by_cases hkl:k < f.methods.length
 ·rw [A3 hkl,metG] at hR
  have hwm:=p5 k hkl
  have hwb:f.methods[k].params.length<=1073741824/\f.methods[k].name.length<=1073741824:=by have:=hwm;unfold FMeth.wt at this;have:=AZ f.methods[k].params;omega
  refine gz ?_ o126 [8]
  refine Ab (KU f.methods[k].name f.methods[k].params.length io i1 i2 s S1 (by omega) hG h12) (fun x S2 hr => ?_) (fun x S2 hr=>by cases hr.1)
  obtain ⟨e1,hG2,hK2⟩:=hr
  cases e1
  refine gz ?_ o126 [8]
  exact ⟨k+1,seeG f.methods[k].name f.methods[k].params.length s,S2,⟨by omega,by have:=GT f.methods[k].name f.methods[k].params.length s;omega,hR,hG2,hKS hS hK2⟩,td1,wkR⟩
 ·rw [A2 hkl,metG] at hR
  refine gz ?_ o126 [8]
  have hbl:(Bv f).length=f.methods.length+1:=by simp [Bv]
  have hgp:Bu f=Cp (Bv f) s:=by unfold Bu;rw [hR]
  have hs0:s.1.length<=f.methods.length:=by omega
  clear hR hk hkl hsl
  refine De [1,2,3,4,5,82,83,84,85,86,87,88,89,90,91,92,93,94] (fun (k:Nat) (s1:GenT) (S2:Sig)=>k<=f.methods.length+1/\s1.1.length+wtL FExp.wt ((Bv f).drop k)<=f.wt/\Bu f=Cp ((Bv f).drop k) s1/\NotS io i1 i2 S2 s1/\Sub V S2) (fun k _ _=>[(7,dI k)]) (fun _ _ S2=>S2) (fun k _ _=>f.methods.length+1-k) (0) (s) (_) (by exact ⟨by omega,by simp only [List.drop_zero];omega,hgp,hG,hS⟩) (fun k s1 S2 hI => ?_)
  obtain ⟨hk,hbud,hR,hG3,hS3⟩:=hI
  by_cases hkl:k < (Bv f).length
  ·rw [A3 hkl,Cp] at hR
   rw [A3 hkl,wtL] at hbud
   refine gz ?_ o126 [8]
   refine newV (fun ie hie => ?_)
   have hwe:((Bv f)[k]).wt<=f.wt:=by omega
   generalize he:(Bv f)[k]=e at *
   repeat ((fail_if_success (first | (refine dwp_cut1 (x1 := .seq _ _) [(8, .ptr ie 0)] (S2.set ie (.cells (Am e))) ?_ (fun _ hK => ?_)) | fail));(refine goX1 trivial ?_))
   refine dwp_cut1 (x1 := .seq _ _) [(8, .ptr ie 0)] (S2.set ie (.cells (Am e))) ?_ (fun _ hK => ?_)
   ·have i76 : ∀ V:Sig,Ans 76 [.agg (Am e)] V True (sl ((allE e).map Am)):=fun V=>ah0 (Il e.wt e V (Nat.le_refl _) (by omega))
    refine gz ?_ o126 [8]
    have hlen:=E0 e
    have hf0:Sub V (S2.set ie (.cells (Am e))):=fun j x hj=>(Sub.refl _).set hie j x (hS3 j x hj)
    have hG4:=hG3.fresh (o := .cells (Am e)) hie
    rw [Pk] at hR
    refine De [1,2,3,4,5,7,8,9,35,36,37,38,39,40,41,42,43,44,45,46,47,48,49,50,51,52,53,54,55,56,82,83,84,85,86,87,88,89,90,91,92,93,94] (fun (j:Nat) (s2:GenT) (S3:Sig)=>j<=(allE e).length/\s2.1.length+((allE e).length-j)<=s1.1.length+e.wt/\(allE e).foldl K1 s1=((allE e).drop j).foldl K1 s2/\NotS io i1 i2 S3 s2/\Sub V S3) (fun j _ _=>[(10,dI j)]) (fun _ _ S3=>S3) (fun j _ _=>(allE e).length-j) (0) (s1) (_) (by exact ⟨by omega,by omega,rfl,hG4,hf0⟩) (fun j s2 S3 hI => ?_)
    obtain ⟨hj,hbd,hR2,hG5,hS5⟩:=hI
    by_cases hjl:j < (allE e).length
    ·rw [A3 hjl,List.foldl_cons] at hR2
     have hl2:=Rt s2 (allE e)[j]
     by_cases h5:(allE e)[j].op=5
     ·have hst:K1 s2 (allE e)[j]=seeG (allE e)[j].text (allE e)[j].kids.length s2:=by unfold K1;rw [if_pos h5]
      rw [hst] at hR2 hl2
      refine gf h5 ?_ o126 [8]
      refine Ab (KU (allE e)[j].text (allE e)[j].kids.length io i1 i2 s2 S3 (by omega) hG5 h12) (fun x S4 hr => ?_) (fun x S4 hr=>by cases hr.1)
      obtain ⟨e1,hG6,hK6⟩:=hr
      cases e1
      refine gz ?_ o126 [8]
      exact ⟨j+1,seeG (allE e)[j].text (allE e)[j].kids.length s2,S4,⟨by omega,by omega,hR2,hG6,hKS hS5 hK6⟩,td1,wkR⟩
     ·have hst:K1 s2 (allE e)[j]=s2:=by unfold K1;rw [if_neg h5]
      rw [hst] at hR2 hl2
      refine gf h5 ?_ o126 [8]
      exact ⟨j+1,s2,S3,⟨by omega,by omega,hR2,hG5,hS5⟩,td1,wkR⟩
    ·rw [A2 hjl,List.foldl_nil] at hR2
     refine gz ?_ o126 [8]
     exact ⟨k+1,s2,S3,⟨by omega,by omega,by rw [<- hR2];exact hR,hG5,hS5⟩,td1,wkR⟩
   ·by_cases hkm:k < f.methods.length
    ·have hbk:f.methods[k].body=e:=by rw [<- he];simp [Bv,List.getElem_append_left,hkm]
     refine gf hbk ?_ o126 [8]
     exact dwp_wk (Aj (by first | (simp;done) | (simp_all;done)) (by rw [D1 e];exact Sub.refl _)) hK
    ·have hbk:f.main=e:=by rw [<- he];simp only [Bv];rw [List.getElem_append_right (by simp;omega)];simp
     refine gf hbk ?_ o126 [8]
     exact dwp_wk (Aj (by first | (simp;done) | (simp_all;done)) (by rw [<- hbk,D1 f.main];exact Sub.refl _)) hK
  ·rw [A2 hkl,Cp] at hR
   have oo:=hG3.oo
   refine gf oo ?_ o126 [8]
   rw [hR]
   exact fin3 (S':=V) ⟨rfl,rfl⟩ (hZ:=hS3)
theorem QS (f:FProg) (V:Sig) (hw:f.wt<=100000000):DCall prog 127 [.agg (B3 f)] V (rS (.tup [sl (cS ((Bu f).1.map (·.1))),sl (cI ((Bu f).1.map (·.2)))]) V):=by
 have i126 : ∀ V:Sig,Ans 126 [.agg (B3 f)] V True (.tup [sl (cS ((Bu f).1.map (·.1))),sl (cI ((Bu f).1.map (·.2))), .bool (Bu f).2]):=fun V=>ah0 (L0 f V hw)
 refine en func127 ntmps127 ?_
 refine gz ?_
 exact fe2 trivial
def slotsR (f:FProg):List Str:=f.classes.flatMap (·.slots)
def ownR (f:FProg):List Str:=f.classes.map (·.name)
def budR (f:FProg):Int:=120-f.classes.length-(allE f.main).length
def Gc (slots own:List Str):List FMeth->Int->Bool
 | [],_=>true
 | m::r,b=>(CH slots own m b).1 && Gc slots own r (CH slots own m b).2
def K8 (f:FProg):Bool:=decide (f.methods.length<=16) && (DN f && (inisR f 0 f.classes && (cntE f.main 1 120).1))
def F7 (f:FProg):Bool:=K8 f && ((decide (0<=budR f) && Ed [] (slotsR f) (ownR f) false f.main) && (Gc (slotsR f) (ownR f) f.methods (budR f) && ((Bu f).2 && decide ((Bu f).1.length<=8))))
theorem LM (slots own:List Str) (m:FMeth) (b:Int) (hb:0<=b) (h:(CH slots own m b).1=true):0<=(CH slots own m b).2/\(CH slots own m b).2<=b:=by
 have h1:=Jy (P:=m.params) (S:=slots) (C:=own++lits3) m.fact 1 b
 unfold CH at h ⊢
 split at h
 ·rename_i h2
  rw [if_pos h2]
  split at h
  ·rename_i h3
   rw [if_pos h3]
   simp only [Bool.and_eq_true,decide_eq_true_eq] at h ⊢
   omega
  ·cases h
 ·cases h
theorem EW : ∀ (l:List FClass) (own:List Str),Ch own l=true -> ∀ c ∈ l,c.slots.length<=4 /\ ∀ s ∈ c.parents,s ∈ own++l.map (·.name)
 | [],_,_,c,hc=>by cases hc
 | x::r,own,h,c,hc=>by
  simp only [Ch,Bool.and_eq_true,Bool.not_eq_true',decide_eq_false_iff_not,List.all_eq_true,decide_eq_true_eq] at h
  obtain ⟨⟨⟨_,h2⟩,_⟩,h3,h4⟩:=h
  rcases List.mem_cons.1 hc with rfl | hc
  ·exact ⟨by omega,fun s hs=>List.mem_append_left _ (h3 s hs)⟩
  ·obtain ⟨h5,h6⟩:=EW r _ h4 c hc
   exact ⟨h5,fun s hs=>by have:=h6 s hs;simp only [List.append_assoc,List.map_cons] at this ⊢; exact this⟩
theorem V3 (f:FProg) (h:Ch [] f.classes=true):ParOK f:=fun c hc s hs=>by
 have h1:=(EW _ _ h c hc).2 s hs
 rw [List.nil_append,List.mem_map] at h1
 obtain ⟨d,hd,rfl⟩:=h1
 have h2:=DW (fun c:FClass=>decide (c.name=d.name)) f.classes 0
 have h3:f.classes.any (fun c:FClass=>decide (c.name=d.name))=true:=List.any_eq_true.2 ⟨d,hd,by simp⟩
 rw [h3] at h2
 simpa using h2
theorem SR (f:FProg) (V:Sig) (hw:f.wt<=100000000):DCall prog 52 [.agg (B3 f)] V (rS (.bool (F7 f)) V):=by
 obtain ⟨p1,p2,p3,p4,p5⟩:=f.wt_le
 have hsl:=IM f
 have hal:=E0 f.main
 have i126 : ∀ V:Sig,Ans 126 [.agg (B3 f)] V True (.tup [sl (cS ((Bu f).1.map (·.1))),sl (cI ((Bu f).1.map (·.2))), .bool (Bu f).2]):=fun V=>ah0 (L0 f V hw)
 have i76 : ∀ V:Sig,Ans 76 [.agg (Am f.main)] V True (sl ((allE f.main).map Am)):=fun V=>ah0 (Il f.main.wt f.main V (Nat.le_refl _) (by omega))
 refine en func52 ntmps52 ?_
 by_cases k1:f.methods.length<=16
 ·cases k2:DN f with
  | false =>
   refine gf k2 ?_ [] [3]
   refine fin1 (S':=V) ?_
   exact ⟨by simp [F7,K8,k2],rfl⟩
  | true =>
   have k20:=k2
   simp only [DN,Bool.and_eq_true,Bool.not_eq_true',decide_eq_false_iff_not] at k20
   obtain ⟨k21,k22,k23,k24⟩:=k20
   have i121 : ∀ V:Sig,Ans 121 [.agg (B3 f)] V True (.bool (inisR f 0 f.classes)):=fun V=>ah0 (U5 f V (by omega) (V3 f k22) (by omega) fun c hc=>(EW _ _ k22 c hc).1)
   cases k3:inisR f 0 f.classes with
   | false =>
    refine gf (gi k2 k3) ?_ [] [3]
    refine fin1 (S':=V) ?_
    exact ⟨by simp [F7,K8,k2,k3],rfl⟩
   | true =>
    cases k4:(cntE f.main 1 120).1 with
    | false =>
     refine gf (gi k2 (gi k3 k4)) ?_ [] [3]
     refine fin1 (S':=V) ?_
     exact ⟨by simp [F7,K8,k2,k3,k4],rfl⟩
    | true =>
     have hH:K8 f=true:=by simp [K8,k1,k2,k3,k4]
     refine gf (gi k2 (gi k3 k4)) ?_ [] [3]
     refine mix [0,1,2,3,4,5,6,7,8,9,10] [9,10] ?_
     refine gz ?_ o52 [3]
     refine moQR ?_
     refine gz ?_ o52 [3]
     refine MJ (fun ib hib => ?_)
     have hs1:Sub V ((V.set ib (.cells [dI 0])).set ib (.cells [dI (budR f)])):=fun j o hj=>by rw [w9,w8 _ _ (A1 hj hib)];exact hj
     refine gz ?_ o52 [3]
     have hB0:(120:Int)-f.classes.length-(allE f.main).length=budR f:=rfl
     rw [hB0]
     have hBl:budR f<=120:=by unfold budR;omega
     generalize hBR:budR f=B at *
     refine Bo 5 1 (fun i hi => ?_)
     obtain ⟨n1,n2⟩:=A4 hi
     have hsub : ∀ l:List Str,Sub (V.set ib (.cells [dI B])) ((V.set ib (.cells [dI B])).set i (.tail 1 l.length)):=fun l=>(Sub.refl _).set hi
     refine AQ [1,2,3,4,7,8,9,10,58,59,60,61,62,63,64,65,66,67,68,69,70,71,72,73,74,75,76,77,78,79,80,81,82,83,84,85,86,87,88,89,90,91,92,93,94,95] (fun (k:Nat) (out:List Str)=>k<=f.classes.length/\out++(f.classes.drop k).map (·.name)=ownR f) (fun k out=>[(6,dI k),(5, .slice (cS out) (.tag i))]) (fun _ out=>(V.set ib (.cells [dI B])).set i (.tail 1 out.length)) (fun k _=>f.classes.length-k) (0) ([]) (by exact ⟨by omega,rfl⟩) (fun k out hI => ?_)
     obtain ⟨hk,hR⟩:=hI
     have hlen:=congrArg List.length hR
     simp [ownR] at hlen
     by_cases hkl:k < f.classes.length
     ·rw [A3 hkl,List.map_cons] at hR
      refine gz ?_ o52 [3]
      exact ⟨k+1,out++[f.classes[k].name],⟨by omega,by rw [List.append_assoc];exact hR⟩,td1,wkR⟩
     ·rw [A2 hkl,List.map_nil,List.append_nil] at hR
      subst hR
      have hlo:(ownR f).length<=10:=by unfold ownR;rw [List.length_map];omega
      have i124 : ∀ V:Sig,Ans 124 [.agg (Am f.main), .slice [] .no,sl (cS (slotsR f)),sl (cS (ownR f)), .bool false] V True (.bool (Ed [] (slotsR f) (ownR f) false f.main)):=fun V=>ah0 (Nt f.main [] (slotsR f) (ownR f) false .no .no .no V (by omega) (by simp) (by unfold slotsR;omega) (by omega))
      have hsr:f.classes.flatMap (·.slots)=slotsR f:=rfl
      have hs2:=hsub (ownR f)
      have hs0:Sub V (V.set ib (.cells [dI B])):=(Sub.refl _).set hib
      have hs3:Sub V ((V.set ib (.cells [dI B])).set i (.tail 1 (ownR f).length)):=hs0.trans hs2
      by_cases kb:0<=B
      ·cases k5:Ed [] (slotsR f) (ownR f) false f.main with
       | false =>
        refine gf (gi hsr k5) ?_ o52 [3]
        refine fin1 (S':=V) ?_
        exact ⟨by simp [F7,k5],rfl⟩
       | true =>
        refine gf (gi hsr k5) ?_ o52 [3]
        clear hlen hlo hk hkl
        refine AQ [1,3,4,5,8,9,10,84,85,86,87,88,89,90,91,92,93,94,95] (fun (k:Nat) (b:Int)=>k<=f.methods.length/\0<=b/\b<=B/\Gc (slotsR f) (ownR f) f.methods B=Gc (slotsR f) (ownR f) (f.methods.drop k) b) (fun k _=>[(7,dI k)]) (fun _ b=>V.set ib (.cells [dI b])) (fun k _=>f.methods.length-k) (0) (B) (by exact ⟨by omega,by omega,by omega,rfl⟩) (fun k b hI => ?_)
        obtain ⟨hk,hb0,hb1,hR⟩:=hI
        by_cases hkl:k < f.methods.length
        ·rw [A3 hkl,Gc] at hR
         have hwm:=p5 k hkl
         refine gf hsr ?_ o52 [3]
         refine Ab (QT f.methods[k] (slotsR f) (ownR f) _ _ ib b _ (by omega) (by unfold slotsR;omega) (by unfold ownR;rw [List.length_map];omega) hb0 (by omega) (w7 ..)) (fun d S' hr => ?_) (fun d S' hr=>by obtain ⟨h,_⟩:=hr;cases h)
         obtain ⟨hd,hS'⟩:=hr
         cases hd
         rw [w9] at hS'
         subst hS'
         have hsb:Sub V (V.set ib (.cells [dI (CH (slotsR f) (ownR f) f.methods[k] b).2])):=(Sub.refl _).set hib
         cases hm:(CH (slotsR f) (ownR f) f.methods[k] b).1 with
         | false =>
          rw [hm,Bool.false_and] at hR
          refine gf hm ?_ o52 [3]
          refine fin1 (S':=V) ?_
          exact ⟨by simp [F7,hBR,hR],rfl⟩
         | true =>
          obtain ⟨q1,q2⟩:=LM _ _ _ b hb0 hm
          rw [hm,Bool.true_and] at hR
          refine gf hm ?_ o52 [3]
          exact ⟨k+1,(CH (slotsR f) (ownR f) f.methods[k] b).2,⟨by omega,q1,by omega,hR⟩,td1,wkR⟩
        ·rw [A2 hkl,Gc] at hR
         have hsb:Sub V (V.set ib (.cells [dI b])):=(Sub.refl _).set hib
         repeat' first | refine gf hsr ?_ o52 [3] | apply gy<;>intro hh
         ·refine fin1 (S':=V) ?_
          exact ⟨by simp [F7,hBR,hR,hH,kb,k5,hh];omega,rfl⟩
         ·refine fin1 (S':=V) ?_
          exact ⟨by simp [F7,hBR,hR,hH,kb,k5,hh],rfl⟩
      ·refine gz ?_ o52 [3]
       refine fin1 (S':=V) ?_
       exact ⟨by simp [F7,hBR,kb],rfl⟩
 ·refine gz ?_ [] [3]
  refine fin1 (S':=V) ?_
  exact ⟨by simp [F7,K8,k1],rfl⟩
mutual
def allD (q:Int->FExp->Bool):FExp->Int->Bool
 | .mk o n t k,d=>q d (.mk o n t k) && I8 q k (d+1)
def I8 (q:Int->FExp->Bool):List FExp->Int->Bool
 | [],_=>true
 | x::r,d=>allD q x d && I8 q r d
end
mutual
theorem W7 : ∀ e:FExp,1<=(allE e).length
 | .mk o n t k=>by rw [allE,List.length_cons];omega
end
mutual
theorem GJ (q:Int->FExp->Bool) (most:Int) : ∀ (e:FExp) (d n m:Int),n<=most->(visE (G8 q most) e d n=some m ↔ allD q e d=true/\m=n+(allE e).length/\m<=most)
 | .mk o nn t k,d,n,m,hn=>by
  rw [visE,allD,allE,List.length_cons]
  by_cases h:n+1<=most/\q d (.mk o nn t k)=true
  ·rw [FQ h.1 h.2,h.2,Bool.true_and]
   simp only
   rw [Ki q most k (d+1) (n+1) m h.1]
   constructor
   ·rintro ⟨a,b,c⟩;exact ⟨a,by omega,c⟩
   ·rintro ⟨a,b,c⟩;exact ⟨a,by omega,c⟩
  ·rw [FR (by cases hq:q d (.mk o nn t k)<;>simp_all)]
   simp only [reduceCtorEq,Bool.and_eq_true,false_iff]
   rintro ⟨⟨a,_⟩,b,c⟩
   exact h ⟨by omega,a⟩
theorem Ki (q:Int->FExp->Bool) (most:Int) : ∀ (l:List FExp) (d n m:Int),n<=most->(D3 (G8 q most) l d n=some m ↔ I8 q l d=true/\m=n+(B9 l).length/\m<=most)
 | [],d,n,m,hn=>by
  rw [D3,I8,B9]
  simp only [Option.some.injEq,true_and,List.length_nil]
  omega
 | x::r,d,n,m,hn=>by
  rw [D3,I8,B9,List.length_append]
  cases hv:visE (G8 q most) x d n with
  | none =>
   simp only [reduceCtorEq,Bool.and_eq_true,false_iff]
   rintro ⟨⟨a,_⟩,b,c⟩
   have:=(GJ q most x d n (n+(allE x).length) hn).2 ⟨a,rfl,by omega⟩
   rw [this] at hv;cases hv
  | some y =>
   obtain ⟨a,b,c⟩:=(GJ q most x d n y hn).1 hv
   simp only
   rw [Ki q most r d y m c,a,Bool.true_and]
   constructor
   ·rintro ⟨a,b,c⟩;exact ⟨a,by omega,c⟩
   ·rintro ⟨a,b,c⟩;exact ⟨a,by omega,c⟩
end
mutual
theorem Iq : ∀ (e:FExp) (d b:Int),0<=b->((cntE e d b).1=true ↔ allD EJ e d=true/\((allE e).length:Int)<=b)/\((cntE e d b).1=true->(cntE e d b).2=b-(allE e).length)
 | .mk o n t k,d,b,hb=>by
  rw [cntE,allD,allE,List.length_cons]
  have hnE:EJ d (.mk o n t k)=(decide (d<=12) && shpB (.mk o n t k)):=rfl
  by_cases h:b-1 < 0\/12 < d\/shpB (.mk o n t k)=false
  ·rw [if_pos h]
   refine ⟨⟨fun h=>(by cases h),fun ⟨h1,h2⟩ => ?_⟩,fun h=>(by cases h)⟩
   rw [hnE] at h1
   simp only [Bool.and_eq_true,decide_eq_true_eq] at h1
   obtain ⟨⟨a1,a2⟩,_⟩:=h1
   rcases h with h | h | h
   ·omega
   ·omega
   ·rw [a2] at h;cases h
  ·rw [if_neg h]
   rw [not_or,not_or] at h
   obtain ⟨h1,h2,h3⟩:=h
   have h4:EJ d (.mk o n t k)=true:=by rw [hnE];simp only [Bool.and_eq_true,decide_eq_true_eq];exact ⟨by omega,by simpa using h3⟩
   obtain ⟨i1,i2⟩:=NM k (d+1) (b-1) (by omega)
   rw [h4,Bool.true_and,i1]
   refine ⟨⟨fun ⟨a,b⟩=>⟨a,by omega⟩,fun ⟨a,b⟩=>⟨a,by omega⟩⟩,fun h => ?_⟩
   rw [i2 (i1.2 h)];omega
theorem NM : ∀ (l:List FExp) (d b:Int),0<=b->((EV l d b).1=true ↔ I8 EJ l d=true/\((B9 l).length:Int)<=b)/\((EV l d b).1=true->(EV l d b).2=b-(B9 l).length)
 | [],d,b,hb=>by
  rw [EV,I8,B9]
  exact ⟨⟨fun _=>⟨rfl,by simpa using hb⟩,fun _=>rfl⟩,fun _=>by simp⟩
 | x::r,d,b,hb=>by
  obtain ⟨i1,i2⟩:=Iq x d b hb
  rw [EV,I8,B9,List.length_append]
  by_cases h:(cntE x d b).1=true
  ·obtain ⟨j0,j1⟩:=i1.1 h
   have j2:=i2 h
   obtain ⟨k1,k2⟩:=NM r d (cntE x d b).2 (by omega)
   rw [if_pos h,k1,j0,Bool.true_and,j2]
   refine ⟨⟨fun ⟨a,b⟩=>⟨a,by omega⟩,fun ⟨a,b⟩=>⟨a,by omega⟩⟩,fun hh => ?_⟩
   rw [j2] at k1 k2
   rw [k2 (k1.2 hh)];omega
  ·rw [if_neg h]
   refine ⟨⟨fun h=>(by cases h),fun ⟨h1,h2⟩=>absurd (i1.2 ⟨?_,by omega⟩) h⟩,fun h=>(by cases h)⟩
   simp only [Bool.and_eq_true] at h1;exact h1.1
end
mutual
theorem IC (q:FExp->Bool) : ∀ (e:FExp) (d:Int),(visE (fun _ x (_:Unit)=>if q x=true then some () else none) e d ()=some () ↔ (allE e).all q=true)
 | .mk o n t k,d=>by
  rw [visE,allE,List.all_cons]
  by_cases h:q (.mk o n t k)=true
  ·rw [h,Bool.true_and];simp only [if_pos];exact Kh q k (d+1)
  ·simp [h]
theorem Kh (q:FExp->Bool) : ∀ (l:List FExp) (d:Int),(D3 (fun _ x (_:Unit)=>if q x=true then some () else none) l d ()=some () ↔ (B9 l).all q=true)
 | [],d=>by rw [D3,B9];simp
 | x::r,d=>by
  rw [D3,B9,List.all_append]
  cases hv:visE (fun _ x (_:Unit)=>if q x=true then some () else none) x d () with
  | none =>
   have : ¬ (allE x).all q=true:=fun h=>by rw [(IC q x d).2 h] at hv;cases hv
   simp [this]
  | some u =>
   have:(allE x).all q=true:=(IC q x d).1 hv
   simp only
   rw [this,Bool.true_and];exact Kh q r d
end
theorem Ks {d:Int} {e:FExp} (h:EJ d e=true) (h3:e.op=3):e.kids=[]/\e.n=0:=by
 unfold EJ BC at h
 rw [h3] at h
 have hg:getM ⟨false,0,0⟩ (3:Int) shapesL=⟨true,0,0⟩:=rfl
 rw [hg] at h
 simp only [Bool.and_eq_true,decide_eq_true_eq] at h
 obtain ⟨_,⟨⟨_,hk⟩,_⟩,_,hn⟩:=h
 refine ⟨List.length_eq_zero_iff.1 (by omega), ?_⟩
 simpa using hn
mutual
theorem KE : ∀ (e:FExp) (d:Int),allD EJ e d=true -> ∀ (b b' a:List Str),(∀ x,x ∈ b ↔ x ∈ b') -> ∀ x,x ∈ freeE e b a ↔ x ∈ a\/x ∈ CK e b'
 | .mk o n t k,d,h,b,b',a,hb,x=>by
  rw [allD,Bool.and_eq_true] at h
  rw [freeE,CK]
  by_cases h3:o=3
  ·obtain ⟨hk,_⟩:=Ks h.1 h3
   have hk:k=[]:=hk
   subst hk
   rw [Ct]
   by_cases ht:t ∈ b
   ·rw [if_neg (fun h=>h.2 ht),if_neg (fun h=>h.2 ((hb t).1 ht)),BL];simp
   ·rw [if_pos ⟨h3,ht⟩,if_pos ⟨h3,fun h=>ht ((hb t).2 h)⟩,Jd]
    simp [or_comm]
  ·rw [if_neg (fun h=>h3 h.1),if_neg (fun h=>h3 h.1)]
   exact Jv k (d+1) h.2 o t 0 b b' a hb x
theorem Jv : ∀ (l:List FExp) (d:Int),I8 EJ l d=true -> ∀ (o:Int) (t:Str) (i:Nat) (b b' a:List Str),(∀ x,x ∈ b ↔ x ∈ b') -> ∀ x,x ∈ Ct o t b i l a ↔ x ∈ a\/x ∈ BL o t l i b'
 | [],d,h,o,t,i,b,b',a,hb,x=>by rw [Ct,BL];simp
 | y::r,d,h,o,t,i,b,b',a,hb,x=>by
  rw [I8,Bool.and_eq_true] at h
  rw [Ct,BL,Jv r d h.2 o t (i+1) b b' _ hb x,List.mem_append]
  have hb2 : ∀ x,x ∈ (if o=9/\i=1 then t::b else b) ↔ x ∈ (if o=9/\i=1 then ins t b' else b'):=fun x=>by
   split
   ·rw [Jd,List.mem_cons,hb x]
   ·exact hb x
  rw [KE y d h.1 _ _ a hb2 x,or_assoc]
end
theorem MV {names slots args:List Str} {lits:Bool} {e:FExp} {n:Int} (hn:0<=n) (m:Int) :
  BM names slots args lits e n=some m ↔ (cntE e 1 120).1=true/\m=n+(allE e).length/\m<=120/\Ed args slots names lits e=true:=by
 obtain ⟨c1,_⟩:=Iq e 1 120 (by omega)
 have hp:=W7 e
 unfold BM
 cases hl:I6 120 e with
 | none =>
  simp only [reduceCtorEq,false_iff]
  rintro ⟨h1,h2,h3,_⟩
  rw [c1] at h1
  have:=(GJ EJ 120 e 1 0 (0+(allE e).length) (by omega)).2 ⟨h1.1,rfl,by omega⟩
  unfold I6 at hl
  rw [this] at hl;cases hl
 | some k =>
  obtain ⟨a1,a2,a3⟩:=(GJ EJ 120 e 1 0 k (by omega)).1 hl
  have hsay:(allK names slots lits e=some () /\ ∀ s ∈ freeE e [] [],s ∈ args) ↔ Ed args slots names lits e=true:=by
   unfold Ed
   rw [Bool.and_eq_true]
   refine and_congr (IC (nodK names slots lits) e 1) ?_
   rw [List.all_eq_true]
   simp only [decide_eq_true_eq]
   refine forall_congr' fun s=>imp_congr ?_ Iff.rfl
   rw [KE e 1 a1 [] [] [] (fun _=>Iff.rfl) s];simp
  simp only
  constructor
  ·intro h
   split at h
   ·rename_i hh
    cases h
    exact ⟨c1.2 ⟨a1,by omega⟩,by omega,hh.1,hsay.1 hh.2⟩
   ·cases h
  ·rintro ⟨h1,h2,h3,h4⟩
   rw [if_pos ⟨by omega,hsay.2 h4⟩]
   congr 1;omega
mutual
def fCnt:FFact->Nat
 | .mk _ _ _ _ _ k=>LW k+1
def LW:List FFact->Nat
 | []=>0
 | x::r=>fCnt x+LW r
end
mutual
def FF (q:Int->FFact->Bool):FFact->Int->Bool
 | .mk o a b c n k,d=>q d (.mk o a b c n k) && Cn q k (d+1)
def Cn (q:Int->FFact->Bool):List FFact->Int->Bool
 | [],_=>true
 | x::r,d=>FF q x d && Cn q r d
end
theorem Vl : ∀ e:FFact,1<=fCnt e
 | .mk _ _ _ _ _ k=>by rw [fCnt];omega
mutual
theorem O1 (p q:Int->FFact->Bool) : ∀ (e:FFact) (d:Int),(FF p e d=true/\FF q e d=true) ↔ FF (fun d x=>p d x && q d x) e d=true
 | .mk o a b c n k,d=>by
  rw [FF,FF,FF]
  have:=Ll p q k (d+1)
  simp only [Bool.and_eq_true] at this ⊢
  rw [<- this];grind
theorem Ll (p q:Int->FFact->Bool) : ∀ (l:List FFact) (d:Int),(Cn p l d=true/\Cn q l d=true) ↔ Cn (fun d x=>p d x && q d x) l d=true
 | [],d=>by rw [Cn,Cn,Cn];simp
 | x::r,d=>by
  rw [Cn,Cn,Cn]
  have h1:=O1 p q x d
  have h2:=Ll p q r d
  simp only [Bool.and_eq_true] at h1 h2 ⊢
  rw [<- h1, <- h2];grind
end
mutual
theorem GI (q:Int->FFact->Bool) (most:Int) : ∀ (e:FFact) (d n m:Int),n<=most->(visF (G8 q most) e d n=some m ↔ FF q e d=true/\m=n+fCnt e/\m<=most)
 | .mk o a b c nn k,d,n,m,hn=>by
  rw [visF,FF,fCnt]
  by_cases h:n+1<=most/\q d (.mk o a b c nn k)=true
  ·rw [FQ h.1 h.2,h.2,Bool.true_and]
   simp only
   rw [Kg q most k (d+1) (n+1) m h.1]
   constructor
   ·rintro ⟨a,b,c⟩;exact ⟨a,by omega,c⟩
   ·rintro ⟨a,b,c⟩;exact ⟨a,by omega,c⟩
  ·rw [FR (by cases hq:q d (.mk o a b c nn k)<;>simp_all)]
   simp only [reduceCtorEq,Bool.and_eq_true,false_iff]
   rintro ⟨⟨a,_⟩,b,c⟩
   exact h ⟨by omega,a⟩
theorem Kg (q:Int->FFact->Bool) (most:Int) : ∀ (l:List FFact) (d n m:Int),n<=most->(G7 (G8 q most) l d n=some m ↔ Cn q l d=true/\m=n+LW l/\m<=most)
 | [],d,n,m,hn=>by
  rw [G7,Cn,LW]
  simp only [Option.some.injEq,true_and]
  omega
 | x::r,d,n,m,hn=>by
  rw [G7,Cn,LW]
  cases hv:visF (G8 q most) x d n with
  | none =>
   simp only [reduceCtorEq,Bool.and_eq_true,false_iff]
   rintro ⟨⟨a,_⟩,b,c⟩
   have:=(GI q most x d n (n+fCnt x) hn).2 ⟨a,rfl,by omega⟩
   rw [this] at hv;cases hv
  | some y =>
   obtain ⟨a,b,c⟩:=(GI q most x d n y hn).1 hv
   simp only
   rw [Kg q most r d y m c,a,Bool.true_and]
   constructor
   ·rintro ⟨a,b,c⟩;exact ⟨a,by omega,c⟩
   ·rintro ⟨a,b,c⟩;exact ⟨a,by omega,c⟩
end
section
variable {P S C:List Str}
def fctQ (P S C:List Str) (d:Int) (x:FFact):Bool:=decide (d<=12) && fctB P S C x
mutual
theorem LV : ∀ (e:FFact) (d b:Int),0<=b->((fctE P S C e d b).1=true ↔ FF (fctQ P S C) e d=true/\(fCnt e:Int)<=b)/\((fctE P S C e d b).1=true->(fctE P S C e d b).2=b-fCnt e)
 | .mk o s p c n k,d,b,hb=>by
  rw [fctE,FF,fCnt]
  have hnE:fctQ P S C d (.mk o s p c n k)=(decide (d<=12) && fctB P S C (.mk o s p c n k)):=rfl
  by_cases h:b-1 < 0\/12 < d\/fctB P S C (.mk o s p c n k)=false
  ·rw [if_pos h]
   refine ⟨⟨fun h=>(by cases h),fun ⟨h1,h2⟩ => ?_⟩,fun h=>(by cases h)⟩
   rw [hnE] at h1
   simp only [Bool.and_eq_true,decide_eq_true_eq] at h1
   obtain ⟨⟨a1,a2⟩,_⟩:=h1
   rcases h with h | h | h
   ·omega
   ·omega
   ·rw [a2] at h;cases h
  ·rw [if_neg h]
   rw [not_or,not_or] at h
   obtain ⟨h1,h2,h3⟩:=h
   have h4:fctQ P S C d (.mk o s p c n k)=true:=by rw [hnE];simp only [Bool.and_eq_true,decide_eq_true_eq];exact ⟨by omega,by simpa using h3⟩
   obtain ⟨i1,i2⟩:=Nc k (d+1) (b-1) (by omega)
   rw [h4,Bool.true_and,i1]
   refine ⟨⟨fun ⟨a,b⟩=>⟨a,by omega⟩,fun ⟨a,b⟩=>⟨a,by omega⟩⟩,fun h => ?_⟩
   rw [i2 (i1.2 h)];omega
theorem Nc : ∀ (l:List FFact) (d b:Int),0<=b->((ER P S C l d b).1=true ↔ Cn (fctQ P S C) l d=true/\(LW l:Int)<=b)/\((ER P S C l d b).1=true->(ER P S C l d b).2=b-LW l)
 | [],d,b,hb=>by
  rw [ER,Cn,LW]
  exact ⟨⟨fun _=>⟨rfl,by simpa using hb⟩,fun _=>rfl⟩,fun _=>by simp⟩
 | x::r,d,b,hb=>by
  obtain ⟨i1,i2⟩:=LV x d b hb
  rw [ER,Cn,LW]
  by_cases h:(fctE P S C x d b).1=true
  ·obtain ⟨j0,j1⟩:=i1.1 h
   have j2:=i2 h
   obtain ⟨k1,k2⟩:=Nc r d (fctE P S C x d b).2 (by omega)
   rw [if_pos h,k1,j0,Bool.true_and,j2]
   refine ⟨⟨fun ⟨a,b⟩=>⟨a,by omega⟩,fun ⟨a,b⟩=>⟨a,by omega⟩⟩,fun hh => ?_⟩
   rw [j2] at k1 k2
   rw [k2 (k1.2 hh)];omega
  ·rw [if_neg h]
   refine ⟨⟨fun h=>(by cases h),fun ⟨h1,h2⟩=>absurd (i1.2 ⟨?_,by omega⟩) h⟩,fun h=>(by cases h)⟩
   simp only [Bool.and_eq_true] at h1;exact h1.1
end
end
mutual
theorem IB (q:FFact->Bool) : ∀ (e:FFact) (d:Int),(visF (fun _ x (_:Unit)=>if q x=true then some () else none) e d ()=some () ↔ FF (fun _ x=>q x) e d=true)
 | .mk o a b c n k,d=>by
  rw [visF,FF]
  by_cases h:q (.mk o a b c n k)=true
  ·rw [h,Bool.true_and];simp only [if_pos];exact Kf q k (d+1)
  ·simp [h]
theorem Kf (q:FFact->Bool) : ∀ (l:List FFact) (d:Int),(G7 (fun _ x (_:Unit)=>if q x=true then some () else none) l d ()=some () ↔ Cn (fun _ x=>q x) l d=true)
 | [],d=>by rw [G7,Cn];simp
 | x::r,d=>by
  rw [G7,Cn]
  cases hv:visF (fun _ x (_:Unit)=>if q x=true then some () else none) x d () with
  | none =>
   have : ¬ FF (fun _ x=>q x) x d=true:=fun h=>by rw [(IB q x d).2 h] at hv;cases hv
   simp [this]
  | some u =>
   have:FF (fun _ x=>q x) x d=true:=(IB q x d).1 hv
   simp only
   rw [this,Bool.true_and];exact Kf q r d
end
theorem V4 {P S own:List Str} (hP:[] ∉ P) (d:Int) (x:FFact):(F1 d x && J2 own S P x)=fctQ P S (own++lits3) d x:=by
 have hi:inB 0=true:=by decide
 unfold F1 CJ J2 fctQ fctB fctC
 have h1:decide (x.name=[])=true->decide (x.name ∈ P)=false:=fun e=>by
  rw [decide_eq_true_eq] at e
  rw [decide_eq_false_iff_not,e];exact hP
 have h2:decide (x.cls ∈ own++lits3)=(decide (x.cls ∈ own) || (decide (x.cls=wAny) || (decide (x.cls=wInt) || decide (x.cls=G6)))):=by
  rw [<- Bool.decide_or, <- Bool.decide_or, <- Bool.decide_or]
  refine decide_eq_decide.2 ?_
  simp [lits3]
 rw [h2]
 have h3:decide ((x.path.length:Int)=0)=decide (x.path=[]):=decide_eq_decide.2 (by rw [<- List.length_eq_zero_iff];omega)
 have h4:decide ((x.path.length:Int)<=2)=decide (x.path.length<=2):=decide_eq_decide.2 (by omega)
 have h5:decide (arF x.op=(x.kids.length:Int))=decide ((x.kids.length:Int)=arF x.op):=decide_eq_decide.2 eq_comm
 rw [h3,h4,h5,Bool.decide_and]
 have h6:decide (x.n=0)=true->inB x.n=true:=fun e=>by
  rw [decide_eq_true_eq] at e
  rw [e];exact hi
 have h7:decide (x.op=2)=true->AI x.op=true:=fun e=>by
  rw [decide_eq_true_eq] at e
  rw [e];rfl
 clear h2 h3 h4 h5 hi hP
 generalize decide (d<=12)=b0
 generalize decide (1<=x.op)=b1
 generalize decide (x.op<=7)=b2
 generalize AI x.op=b3 at h7 ⊢
 generalize decide (x.op=3\/x.op=4)=b4
 generalize decide ((x.kids.length:Int)=arF x.op)=b5
 generalize decide (x.path=[])=b6
 generalize decide (x.path.length<=2)=b7
 generalize (x.path.all fun s=>decide (s ∈ S))=b8
 generalize inB x.n=b9 at h6 ⊢
 generalize decide (x.n=0)=z at h6 ⊢
 generalize decide (x.op=2)=o2 at h7 ⊢
 generalize decide (x.name=[])=n0 at h1 ⊢
 generalize decide (x.name ∈ P)=nP at h1 ⊢
 generalize decide (x.cls=[])=c0
 generalize decide (x.cls ∈ own)=c1
 generalize decide (x.cls=wAny)=c2
 generalize decide (x.cls=wInt)=c3
 generalize decide (x.cls=G6)=c4
 cases b3<;>cases n0<;>cases o2<;>cases c0<;>cases z<;>simp at h1 h6 h7 ⊢
 all_goals try subst h1
 all_goals try subst h6
 all_goals try subst h7
 all_goals try simp
 all_goals (cases b0<;>cases b1<;>cases b2<;>cases b4<;>cases b5<;>simp)
 all_goals (cases b6<;>cases b7<;>cases b8<;>simp)
 all_goals (try (cases b9<;>simp))
 all_goals (try (cases nP<;>simp))
 all_goals (simp only [Bool.or_assoc])
theorem Qh {names slots P:List Str} (hP:[] ∉ P) {e:FFact} {n:Int} (hn:0<=n) (hn2:n<=120) (m:Int) :
  Co names slots P e n=some m ↔ (fctE P slots (names++lits3) e 1 (120-n)).1=true/\m=120-(fctE P slots (names++lits3) e 1 (120-n)).2:=by
 obtain ⟨c1,c2⟩:=LV (P:=P) (S:=slots) (C:=names++lits3) e 1 (120-n) (by omega)
 have hp:=Vl e
 have hq:fctQ P slots (names++lits3)=fun d x=>F1 d x && J2 names slots P x:=funext fun d=>funext fun x=>(V4 hP d x).symm
 rw [hq, <- O1] at c1
 unfold Co
 cases hl:F4 120 e with
 | none =>
  simp only [reduceCtorEq,false_iff]
  rintro ⟨h1,h2⟩
  rw [c1] at h1
  have:=(GI F1 120 e 1 0 (0+fCnt e) (by omega)).2 ⟨h1.1.1,rfl,by omega⟩
  unfold F4 at hl
  rw [this] at hl;cases hl
 | some k =>
  obtain ⟨a1,a2,a3⟩:=(GI F1 120 e 1 0 k (by omega)).1 hl
  have hu:=IB (J2 names slots P) e 1
  have hst:(fun (_:Int) (x:FFact) (s:Unit)=>HQ names slots P x s)=fun _ x (_:Unit)=>if J2 names slots P x=true then some () else none:=rfl
  simp only
  rw [hst]
  constructor
  ·intro h
   split at h
   ·rename_i hh
    cases h
    have h1:=c1.2 ⟨⟨a1,hu.1 hh.2⟩,by omega⟩
    exact ⟨h1,by rw [c2 h1];omega⟩
   ·cases h
  ·rintro ⟨h1,h2⟩
   obtain ⟨⟨b1,b2⟩,b3⟩:=c1.1 h1
   rw [if_pos ⟨by omega,hu.2 b2⟩,h2,c2 h1]
   congr 1;omega
theorem Ob : ∀ (l seen:List Str),sloE seen l=(l.all AM && difE seen l)
 | [],_=>rfl
 | x::r,seen=>by rw [sloE,difE,List.all_cons,Ob r];cases AM x<;>cases decide (x ∈ seen)<;>cases r.all AM<;>simp
theorem J3:AM []=false:=rfl
theorem Ve {names slots:List Str} {m:FMeth} {n:Int} (hn:0<=n) (hn2:n<=120) (k:Int) :
  Jc names slots m n=some k ↔ (CH slots names m (120-n)).1=true/\k=120-(CH slots names m (120-n)).2:=by
 have hd:(FP m && sloE [] m.params)=Cs m:=by
  rw [Ob];unfold FP Cs D5
  cases decide (1<=m.kind)<;>cases decide (m.kind<=4)<;>cases AM m.name<;>cases decide (1<=m.params.length)<;>simp
 unfold Jc CH
 rw [hd]
 by_cases h:Cs m=true
 ·rw [if_pos h,if_pos h]
  have hP:[] ∉ m.params:=fun hx=>by
   unfold Cs D5 at h
   simp only [Bool.and_eq_true] at h
   have:=List.all_eq_true.1 h.2.2.2.2.1 _ hx
   rw [J3] at this;cases this
  have hF:=Qh (names:=names) (slots:=slots) hP (e:=m.fact) hn hn2
  have hle:=(Jy (P:=m.params) (S:=slots) (C:=names++lits3) m.fact 1 (120-n))
  cases hk:Co names slots m.params m.fact n with
  | none =>
   have : ¬ (fctE m.params slots (names++lits3) m.fact 1 (120-n)).1=true:=fun h1=>by
    rw [(hF _).2 ⟨h1,rfl⟩] at hk;cases hk
   rw [if_neg (fun h=>this h.1)]
   simp
  | some j =>
   obtain ⟨j1,j2⟩:=(hF j).1 hk
   have hj0:=hle.2.2 j1
   have hj1:=hle.1
   simp only
   rw [MV (by omega)]
   generalize (fctE m.params slots (names++lits3) m.fact 1 (120-n)).2=q at *
   by_cases hc:(cntE m.body 1 120).1=true
   ·rw [if_pos ⟨j1,hc⟩]
    simp only [Bool.and_eq_true,decide_eq_true_eq]
    constructor
    ·rintro ⟨_,a,b,c⟩;exact ⟨⟨by omega,c⟩,by omega⟩
    ·rintro ⟨⟨a,c⟩,b⟩;exact ⟨hc,by omega,by omega,c⟩
   ·rw [if_neg (fun h=>hc h.2)]
    simp [hc]
 ·rw [if_neg h,if_neg h];simp
theorem MK {names slots:List Str} : ∀ (l:List FMeth) (n:Int),0<=n->n<=120->(Dh names slots l n).isSome=Gc slots names l (120-n)
 | [],n,_,_=>rfl
 | m::r,n,hn,hn2=>by
  have h:=Ve (names:=names) (slots:=slots) (m:=m) hn hn2
  rw [Dh,Gc]
  cases hk:Jc names slots m n with
  | none =>
   have:(CH slots names m (120-n)).1=false:=Bool.eq_false_iff.2 fun h1=>by rw [(h _).2 ⟨h1,rfl⟩] at hk;cases hk
   rw [this];rfl
  | some k =>
   obtain ⟨h1,h2⟩:=(h k).1 hk
   have hb:=LM slots names m (120-n) (by omega) h1
   simp only
   rw [h1,Bool.true_and,MK r k (by omega) (by omega),h2]
   congr 1;omega
end Go.DL
