/- A part of the proof. -/
import Derived.Test.YtlfimpogphmbdaaGreatQ20
set_option linter.all false
namespace Go.DL
open Go.Proofs.Tryz
open Go Go.Proofs
set_option maxHeartbeats 8000000
structure NotS(io i1 i2:Nat)(V:Sig)(s:GenT):Prop where
 oo:V io=some (.cells [.slice (cS (s.1.map (·.1))) (.tag i1),.slice (cI (s.1.map (·.2))) (.tag i2),.bool (!s.2)])
 o1:V i1=some (.tail 1 s.1.length)
 o2:V i2=some (.tail 1 s.1.length)
def tN(io i1 i2:Nat):Nat->Prop:=fun j=>j=io\/j=i1\/j=i2
theorem TT(x:Str): ∀(l:List (Str×Int)) (k:Nat),hasM x l=false->idxG x (l.map (·.1)) k = -1
 |[],_,_=>rfl
 |(a,b)::r,k,h=>by
  simp only[hasM,dD,be]at h
  simp only[ba,idxG]
  rw[aN fun e=>h.1 e.symm,TT x r _ h.2]
theorem Ms(x:Str): ∀(l:List (Str×Int)) (k:Nat),hasM x l=true->∃j, ∃hj:j<l.length,idxG x (l.map (·.1)) k=(k:Int)+j/\(l[j]'hj).2=getM 0 x l
 |[],_,h=>by cases h
 | (a,b)::r,k,h=>by
  simp only[ba,idxG,getM]
  by_cases e:a=x
  ·exact⟨0,by simp,by rw[aS e];simp,by rw[aS e.symm];rfl⟩
  ·have h2:hasM x r=true:=by
    simp only[hasM,bL,aL]at h
    exact h.resolve_left fun h=>e h.symm
   obtain⟨j,hj,h3,h4⟩:=Ms x r (k+1) h2
   exact⟨j+1,by simp;omega,by rw[aN e,h3];omega,by rw[aN fun h=>e h.symm];exact h4⟩
theorem Lv(name:Str)(n:Int)(io i1 i2:Nat)(s:GenT)(V:Sig)(hl:s.1.length<=100000000)(hG:NotS io i1 i2 V s)(fZ:i1≠i2):
  au prog 212 [.ptr io 0,.str name,dI n] V fun x S'=>x=.ret (.tup [])/\NotS io i1 i2 S' (seeG name n s)/\Keep (tN io i1 i2) V S':=by
 obtain⟨acc,ok⟩:=s
 obtain⟨oo,o1,o2⟩:=hG
 simp only at oo o1 o2 hl
 have e1:i1≠io:=A7 o1 oo (by simp)
 have e2:i2≠io:=A7 o2 oo (by simp)
 refine en func212 ntmps212 ?_
 cases hh:hasM name acc
 ·have gx:=TT name acc 0 hh
  have hs:seeG name n (acc,ok)=(acc++[(name,n)],ok):=by unfold seeG;rw[aN (by rw[hh];simp)]
  have hc:cS (acc.map (·.1))++[[D.str name]]=cS ((acc++[(name,n)]).map (·.1)):=by simp[cS]
  have gE:cI (acc.map (·.2))++[[dI n]]=cI ((acc++[(name,n)]).map (·.2)):=by simp[cI]
  rw[hs]
  refine gf (gi oo gx) ?_ [] [6]
  generalize hA:cS (acc.map (·.1))=A at*
  generalize hB:cI (acc.map (·.2))=B at*
  have lA:A.length=acc.length:=by rw[<-hA];simp
  have lB:B.length=acc.length:=by rw[<-hB];simp
  have mA:∀c∈A,c.length=1:=by rw[<-hA];exact Dj _
  have mB:∀c∈B,c.length=1:=by rw[<-hB];exact BY _
  have fX:(V.out fun j=>j=i1\/j=i2) io=some (.cells [.slice A (.tag i1),.slice B (.tag i2),.bool (!ok)]):=BO oo fun h=>h.elim (fun h=>e1 h.symm) fun h=>e2 h.symm
  have gO:Sub (V.out fun j=>j=i1\/j=i2) (V.set i1 (.tail 1 (acc.length+1))):=fun j o hj=>by
   obtain⟨h1,h2⟩:=Bm hj
   rw[w8 _ _ fun h=>h2 (.inl h)];exact h1
  have gr:Sub (V.out fun j=>j=i1\/j=i2) ((V.set i1 (.tail 1 (acc.length+1))).set i2 (.tail 1 (acc.length+1))):=fun j o hj=>by
   obtain⟨h1,h2⟩:=Bm hj
   rw[w8 _ _ fun h=>h2 (.inr h),w8 _ _ fun h=>h2 (.inl h)];exact h1
  refine mixK (id:=2) [0,1,2,3,4,5,6,7,9,10,11,12,13,14,8,15,16,17,18,19,20,21] [8,15,18,21] [5,12] [18,21] (V.out fun j=>j=i1\/j=i2) (AU _ _) ?_
  refine k4R (.ptr io 0) ?_
  refine k4R (.ptr io 0) ?_
  refine k4R (.ptr io 0) ?_
  refine k4R (.ptr io 0) ?_
  refine k4R (.ptr io 0) ?_
  refine k4R (.slice A (.tag i1)) ?_ (hd:=by simp[fX])
  refine k4R (.str name) ?_
  refine k4R (.slice [[.str name]] .clip) ?_
  refine k4R (.ptr io 0) ?_
  refine k4R (.ptr io 0) ?_
  refine k4R (.ptr io 1) ?_
  refine k4R (.slice B (.tag i2)) ?_ (hd:=by simp[fX])
  refine k4R (dI n) ?_
  refine k4R (.slice [[dI n]] .clip) ?_
  refine k4E (d:=.slice (A++[[.str name]]) (.tag i1)) _ gO ?_ (he:=by simp[o1,lA];exact⟨⟨mA,by omega⟩,by omega⟩)
  refine k4E (d:=.slice (B++[[dI n]]) (.tag i2)) _ gr ?_ (he:=by simp[o2,lB,w8,aQ fZ];exact⟨⟨mB,by omega⟩,by omega⟩)
  refine k4R (.ptr io 0) ?_
  refine k4R (.ptr io 0) ?_
  refine k4S (d:=.any) (S':=((V.set i1 (.tail 1 (acc.length+1))).set i2 (.tail 1 (acc.length+1))).set io (.cells [.slice (A++[[.str name]]) (.tag i1),.slice B (.tag i2),.bool (!ok)])) (fun _=>none) (fun _ _ h=>by cases h) ?_ (he:=by simp[oo,w8,aQ e1,aQ e2])
  refine k4R (.ptr io 0) ?_
  refine k4R (.ptr io 1) ?_
  refine k4S (d:=.any) (S':=((((V.set i1 (.tail 1 (acc.length+1))).set i2 (.tail 1 (acc.length+1))).set io (.cells [.slice (A++[[.str name]]) (.tag i1),.slice B (.tag i2),.bool (!ok)])).set io (.cells [.slice (A++[[.str name]]) (.tag i1),.slice (B++[[dI n]]) (.tag i2),.bool (!ok)]))) (fun _=>none) (fun _ _ h=>by cases h) ?_ (he:=by simp[oo,w8,aQ e1,aQ e2])
  refine k4N ?_
  subst hA hB
  have n1:=aQ e1
  have n2:=aQ e2
  refine fin0 (S':=((V.set i1 (.tail 1 (acc.length+1))).set i2 (.tail 1 (acc.length+1))).set io (.cells [.slice (cS ((acc++[(name,n)]).map (·.1))) (.tag i1),.slice (cI ((acc++[(name,n)]).map (·.2))) (.tag i2),.bool (!ok)])) ⟨rfl,⟨by rw[w7],?_,?_⟩,fun j o hj hn=>?_⟩ (hZ:=by rw[w9,hc,gE];exact Sub.refl _)
  ·rw[w8 _ _ e1,w8 _ _ fZ,w7,aH];rfl
  ·rw[w8 _ _ e2,w7,aH];rfl
  ·rw[w8 _ _ fun e=>hn (.inl e),w8 _ _ fun e=>hn (.inr (.inr e)),w8 _ _ fun e=>hn (.inr (.inl e))];exact hj
 ·obtain⟨j,hj,gx,iH⟩:=Ms name acc 0 hh
  have hs:seeG name n (acc,ok)=(acc,ok&&decide (getM 0 name acc=n)):=by unfold seeG;rw[aS hh]
  rw[hs,<-iH]
  repeat' first|refine gf (gi oo gx) ?_ [] [6]|apply gy<;>intro hh
  ·exact fin0 (S':=V.set io (.cells [.slice (cS (acc.map (·.1))) (.tag i1),.slice (cI (acc.map (·.2))) (.tag i2),.bool true])) ⟨rfl,⟨by rw[w7];simp[hh],by rw[w8 _ _ e1];exact o1,by rw[w8 _ _ e2];exact o2⟩,fun j o hj hn=>by rw[w8 _ _ fun e=>hn (.inl e)];exact hj⟩
  ·exact fin0 (S':=V) ⟨rfl,⟨by simp[hh,oo],o1,o2⟩,fun j o hj hn=>hj⟩
def Kx(s:GenT)(x:aB):GenT:=if x.op=5 then seeG x.text x.ah.length s else s
mutual
theorem Qq: ∀(e:aB) (s:GenT),genE e s=(allE e).foldl Kx s
 |.mk o n t k,s=>by rw[genE,allE,dz,NY k];rfl
theorem NY: ∀(l:List aB) (s:GenT),CM l s=(Bg l).foldl Kx s
 |[],s=>by rw[CM,Bg];rfl
 |x::r,s=>by rw[CM,Bg,List.foldl_append,NY r,Qq x]
end
theorem SV(s:GenT)(x:aB):(Kx s x).1.length<=s.1.length+1:=by
 unfold Kx
 split
 ·exact Hk ..
 ·omega
section
variable {P:Program}{n:Nat}{γ:List (Nat×D)}{V:Sig}
theorem fin3{fn:Func}{R:DE->Sig->Prop}{S':Sig}{t u v:Nat}{d d' e e' f f':D}(hR:R (.ret (.tup [d',e',f'])) S')(hZ:Sub S' V:=by exact tdU)(hr:fn.results=#[.tmp t,.tmp u,.tmp v]:=by exact tdR)(hl:γ.lookup t=some d:=by exact tdR)(ga:γ.lookup u=some e:=by exact tdR)(iy:γ.lookup v=some f:=by exact tdR)(g8:decide (u=t)=false:=by exact tdR)(g7:decide (v=t)=false:=by exact tdR)(g6:decide (v=u)=false:=by exact tdR)(hw:WkD d d':=by exact tdW)(f0:WkD e e':=by exact tdW)(fO:WkD f f':=by exact tdW):EX P n fn R .ret ⟨γ,V,[]⟩:=
 ⟨⟨[(t,d'),(u,e'),(v,f')],S',[]⟩,Wp (show Tells γ [(t,d'),(u,e'),(v,f')] from ⟨by rw [Ap hl];exact hw,by rw [Ap ga];exact f0,by rw [Ap iy];exact fO,trivial⟩) hZ,rfl, .tup [d',e',f'],Ej (by
  have h1:u≠t:=by simpa using g8
  have h2:v≠t:=by simpa using g7
  have h3:v≠u:=by simpa using g6
  simp[resD,hr,h1,h2,h3]),F0 hR⟩
end
theorem NotS.fresh{io i1 i2 k:Nat}{V:Sig}{s:GenT}{o:DObj}(h:NotS io i1 i2 V s)(hk:V k=none):NotS io i1 i2 (V.set k o) s:=
 ⟨by rw[w8 _ _ (A0 h.oo hk)];exact h.oo,by rw[w8 _ _ (A0 h.o1 hk)];exact h.o1,by rw[w8 _ _ (A0 h.o2 hk)];exact h.o2⟩
theorem LB(f:aF)(V:Sig)(hw:f.wt<=100000000):au prog 126 [.agg (Bd f)] V (rS (.tup [sl (cS ((BM f).1.map (·.1))),sl (cI ((BM f).1.map (·.2))),.bool (BM f).2]) V):=by
 obtain⟨p1,p2,p3,p4,p5⟩:=f.wt_le
 have jf:=Kn f
 refine en func126 ntmps126 ?_
 repeat ((fail_if_success (first|(refine boxV (T:=284) (fun io gA=>?_))|fail));(refine goX1 trivial ?_))
 refine boxV (T:=284) (fun io gA=>?_)
 refine gz ?_ o126 [8]
 refine Ak io 0 1 (ds:=[.ak,.ak,.bool false]) (w7 ..) rfl (fun i1 iE=>?_)
 obtain⟨a1,b1⟩:=A4 iE
 refine Ak io 1 1 (ds:=[.slice [] (.tag i1),.ak,.bool false]) (w7 ..) rfl (fun i2 fJ=>?_)
 obtain⟨a2,b2⟩:=A4 fJ
 obtain⟨a3,b3⟩:=A4 b2
 obtain⟨a4,b4⟩:=A4 b3
 generalize e8:Sig.set (Sig.set _ i2 _) io _=S1
 have iV:NotS io i1 i2 S1 ([],true):=by
  rw[<-e8]
  exact⟨by simp[cS,cI],by rw[w8 _ _ a1,w8 _ _ (aQ a3),w8 _ _ a1];simp,by rw[w8 _ _ a2];simp⟩
 have g9:∀j,tN io i1 i2 j->V j=none:=fun j hj=>by
  rcases hj with rfl|rfl|rfl
  ·exact gA
  ·exact b1
  ·exact b4
 have e9:Sub V S1:=fun j x hj=>by
  have e1:j≠io:=A0 hj gA
  have e2:j≠i1:=A0 hj b1
  have e3:j≠i2:=A0 hj b4
  rw[<-e8]
  simp only[w8 _ _ e1,w8 _ _ e2,w8 _ _ e3]
  exact hj
 have gW:∀{τ V':Sig},Sub V τ->Keep (tN io i1 i2) τ V'->Sub V V':=fun hs hk j x hj=>hk j x (hs j x hj) fun ht=>by rw[g9 j ht]at hj;cases hj
 have fZ:i1≠i2:=aQ a3
 clear e8
 refine CK [1,2,3,4,5,7,8,9,10,35,36,37,38,39,40,41,42,43,44,45,46,47,48,49,50,51,52,53,54,55,56,57,58,59,60,61,62,63,64,65,66,67,68,69,70,71,72,73,74,75,76,77,78,79,80,81,82,83,84,85,86,87,88,89,90,91,92,93,94] (fun (k:Nat) (s:GenT) (S1:Sig)=>k<=f.methods.length/\s.1.length<=k/\metG f.methods ([],true)=metG (f.methods.drop k) s/\NotS io i1 i2 S1 s/\Sub V S1) (fun k _ _=>[(6,dI k)]) (fun _ _ S1=>S1) (fun k _ _=>f.methods.length-k) (0) (([],true)) (_) (by exact⟨by omega,bm _,rfl,iV,e9⟩) (fun k s S1 hI=>?_)
 obtain⟨hk,gN,hR,hG,hS⟩:=hI
 by_cases d6:k<f.methods.length
 ·rw[A2 d6,metG]at hR
  have gM:=p5 k d6
  have iZ:f.methods[k].params.length<=1073741824/\f.methods[k].name.length<=1073741824:=by have:=gM;unfold aE.wt at this;have:=Bb f.methods[k].params;omega
  refine gz ?_ o126 [8]
  refine Ac (Lv f.methods[k].name f.methods[k].params.length io i1 i2 s S1 (by omega) hG fZ) (fun x S2 hr=>?_) (fun x S2 hr=>by cases hr.1)
  obtain⟨e1,iU,iP⟩:=hr
  cases e1
  refine gz ?_ o126 [8]
  exact⟨k+1,seeG f.methods[k].name f.methods[k].params.length s,S2,⟨by omega,by have:=Hk f.methods[k].name f.methods[k].params.length s;omega,hR,iU,gW hS iP⟩,td1,wkR⟩
 ·rw [A1 d6,metG] at hR
  refine gz ?_ o126 [8]
  have jg:(BN f).length=f.methods.length+1:=by simp[BN]
  have iF:BM f=CM (BN f) s:=by unfold BM;rw[hR]
  have fQ:s.1.length<=f.methods.length:=by omega
  clear hR hk d6 gN
  refine CK [1,2,3,4,5,82,83,84,85,86,87,88,89,90,91,92,93,94] (fun (k:Nat) (s1:GenT) (S2:Sig)=>k<=f.methods.length+1/\s1.1.length+wtL aB.wt ((BN f).drop k)<=f.wt/\BM f=CM ((BN f).drop k) s1/\NotS io i1 i2 S2 s1/\Sub V S2) (fun k _ _=>[(7,dI k)]) (fun _ _ S2=>S2) (fun k _ _=>f.methods.length+1-k) (0) (s) (_) (by exact⟨by omega,by simp only[dO];omega,iF,hG,hS⟩) (fun k s1 S2 hI=>?_)
  obtain⟨hk,gF,hR,gX,fM⟩:=hI
  by_cases d6:k<(BN f).length
  ·rw [A2 d6,CM] at hR
   rw[A2 d6,wtL]at gF
   refine gz ?_ o126 [8]
   refine newV (fun ie gS=>?_)
   have iY:((BN f)[k]).wt<=f.wt:=by omega
   generalize he:(BN f)[k]=e at*
   repeat ((fail_if_success (first|(refine dwp_cut1 (x1:=.seq _ _) [(8,.ptr ie 0)] (S2.set ie (.cells (Al e))) ?_ (fun _ hK=>?_))|fail));(refine goX1 trivial ?_))
   refine dwp_cut1 (x1:=.seq _ _) [(8,.ptr ie 0)] (S2.set ie (.cells (Al e))) ?_ (fun _ hK=>?_)
   ·have i76:∀V:Sig,Ans 76 [.agg (Al e)] V True (sl ((allE e).map Al)):=fun V=>ah0 (IU e.wt e V (bm _) (by omega))
    refine gz ?_ o126 [8]
    have hlen:=Er e
    have iI:Sub V (S2.set ie (.cells (Al e))):=fun j x hj=>(Sub.refl _).set gS j x (fM j x hj)
    have iR:=gX.fresh (o:=.cells (Al e)) gS
    rw[Qq]at hR
    refine CK [1,2,3,4,5,7,8,9,35,36,37,38,39,40,41,42,43,44,45,46,47,48,49,50,51,52,53,54,55,56,82,83,84,85,86,87,88,89,90,91,92,93,94] (fun (j:Nat) (s2:GenT) (S3:Sig)=>j<=(allE e).length/\s2.1.length+((allE e).length-j)<=s1.1.length+e.wt/\(allE e).foldl Kx s1=((allE e).drop j).foldl Kx s2/\NotS io i1 i2 S3 s2/\Sub V S3) (fun j _ _=>[(10,dI j)]) (fun _ _ S3=>S3) (fun j _ _=>(allE e).length-j) (0) (s1) (_) (by exact⟨by omega,by omega,rfl,iR,iI⟩) (fun j s2 S3 hI=>?_)
    obtain⟨hj,jh,fK,gI,gH⟩:=hI
    by_cases gw:j<(allE e).length
    ·rw[A2 gw,dz]at fK
     have ga:=SV s2 (allE e)[j]
     by_cases h5:(allE e)[j].op=5
     ·have go:Kx s2 (allE e)[j]=seeG (allE e)[j].text (allE e)[j].ah.length s2:=by unfold Kx;rw[aS h5]
      rw[go]at fK ga
      refine gf h5 ?_ o126 [8]
      refine Ac (Lv (allE e)[j].text (allE e)[j].ah.length io i1 i2 s2 S3 (by omega) gI fZ) (fun x S4 hr=>?_) (fun x S4 hr=>by cases hr.1)
      obtain⟨e1,iQ,iO⟩:=hr
      cases e1
      refine gz ?_ o126 [8]
      exact⟨j+1,seeG (allE e)[j].text (allE e)[j].ah.length s2,S4,⟨by omega,by omega,fK,iQ,gW gH iO⟩,td1,wkR⟩
     ·have go:Kx s2 (allE e)[j]=s2:=by unfold Kx;rw[aN h5]
      rw[go]at fK ga
      refine gf h5 ?_ o126 [8]
      exact⟨j+1,s2,S3,⟨by omega,by omega,fK,gI,gH⟩,td1,wkR⟩
    ·rw[A1 gw,fA]at fK
     refine gz ?_ o126 [8]
     exact⟨k+1,s2,S3,⟨by omega,by omega,by rw[<-fK];exact hR,gI,gH⟩,td1,wkR⟩
   ·by_cases iB:k<f.methods.length
    ·have gh:f.methods[k].body=e:=by rw[<-he];simp[BN,List.getElem_append_left,iB]
     refine gf gh ?_ o126 [8]
     exact dwp_wk (Ae (by first|(simp;done)|(simp_all;done)) (by rw[CF e];exact Sub.refl _)) hK
    ·have gh:f.main=e:=by rw[<-he];simp only[BN];rw[List.getElem_append_right (by simp;omega)];simp
     refine gf gh ?_ o126 [8]
     exact dwp_wk (Ae (by first|(simp;done)|(simp_all;done)) (by rw[<-gh,CF f.main];exact Sub.refl _)) hK
  ·rw[A1 d6,CM]at hR
   have oo:=gX.oo
   refine gf oo ?_ o126 [8]
   rw[hR]
   exact fin3 (S':=V) ⟨rfl,rfl⟩ (hZ:=fM)
theorem Sg(f:aF)(V:Sig)(hw:f.wt<=100000000):au prog 127 [.agg (Bd f)] V (rS (.tup [sl (cS ((BM f).1.map (·.1))),sl (cI ((BM f).1.map (·.2)))]) V):=by
 have i126:∀V:Sig,Ans 126 [.agg (Bd f)] V True (.tup [sl (cS ((BM f).1.map (·.1))),sl (cI ((BM f).1.map (·.2))),.bool (BM f).2]):=fun V=>ah0 (LB f V hw)
 refine en func127 ntmps127 ?_
 refine gz ?_
 exact fe2 trivial
def slotsR(f:aF):fD:=f.aa.flatMap (·.ae)
def ownR(f:aF):fD:=f.aa.map (·.name)
def budR(f:aF):Int:=120-f.aa.length-(allE f.main).length
def GC(ae own:fD):List aE->Int->Bool
 |[],_=>true
 |m::r,b=>(D6 ae own m b).1&&GC ae own r (D6 ae own m b).2
def Mv(f:aF):Bool:=decide (f.methods.length<=16)&&(Ep f&&(inisR f 0 f.aa&&(cntE f.main 1 120).1))
def Gy(f:aF):Bool:=Mv f&&((decide (0<=budR f)&&EC [] (slotsR f) (ownR f) false f.main)&&(GC (slotsR f) (ownR f) f.methods (budR f)&&((BM f).2&&decide ((BM f).1.length<=8))))
theorem Mo(ae own:fD)(m:aE)(b:Int)(hb:0<=b)(h:(D6 ae own m b).1=true):0<=(D6 ae own m b).2/\(D6 ae own m b).2<=b:=by
 have h1:=K0 (P:=m.params) (S:=ae) (C:=own++lits3) m.fact 1 b
 unfold D6 at h⊢
 split at h
 ·rename_i h2
  rw[aS h2]
  split at h
  ·rename_i h3
   rw[aS h3]
   simp only[aI,aL]at h⊢
   omega
  ·cases h
 ·cases h
theorem Fo: ∀(l:List aD) (own:fD),D4 own l=true->∀c∈l,c.ae.length<=4 /\ ∀s∈c.ag,s∈own++l.map (·.name)
 |[],_,_,c,hc=>by cases hc
 | x::r,own,h,c,hc=>by
  simp only[D4,aI,bw,be,bc,aL]at h
  obtain⟨⟨⟨_,h2⟩,_⟩,h3,h4⟩:=h
  rcases aY.1 hc with rfl|hc
  ·exact⟨by omega,fun s hs=>cY _ (h3 s hs)⟩
  ·obtain⟨h5,h6⟩:=Fo r _ h4 c hc
   exact⟨h5,fun s hs=>by have:=h6 s hs;simp only[aT,ba]at this⊢; exact this⟩
theorem WA(f:aF)(h:D4 [] f.aa=true):ParOK f:=fun c hc s hs=>by
 have h1:=(Fo _ _ h c hc).2 s hs
 rw[br,bO]at h1
 obtain⟨d,hd,rfl⟩:=h1
 have h2:=Em (fun c:aD=>decide (c.name=d.name)) f.aa 0
 have h3:f.aa.any (fun c:aD=>decide (c.name=d.name))=true:=List.any_eq_true.2 ⟨d,hd,by simp⟩
 rw[h3]at h2
 simpa using h2
theorem Ub (f:aF) (V:Sig) (hw:f.wt<=100000000):au prog 52 [.agg (Bd f)] V (rS (.bool (Gy f)) V):=by
 obtain⟨p1,p2,p3,p4,p5⟩:=f.wt_le
 have gN:=Jk f
 have jk:=Er f.main
 have i126:∀V:Sig,Ans 126 [.agg (Bd f)] V True (.tup [sl (cS ((BM f).1.map (·.1))),sl (cI ((BM f).1.map (·.2))),.bool (BM f).2]):=fun V=>ah0 (LB f V hw)
 have i76:∀V:Sig,Ans 76 [.agg (Al f.main)] V True (sl ((allE f.main).map Al)):=fun V=>ah0 (IU f.main.wt f.main V (bm _) (by omega))
 refine en func52 ntmps52 ?_
 by_cases k1:f.methods.length<=16
 ·cases k2:Ep f with
  |false=>
   refine gf k2 ?_ [] [3]
   refine fin1 (S':=V) ?_
   exact⟨by simp[Gy,Mv,k2],rfl⟩
  | true =>
   have k20:=k2
   simp only[Ep,aI,bw,be]at k20
   obtain⟨k21,k22,k23,k24⟩:=k20
   have i121:∀V:Sig,Ans 121 [.agg (Bd f)] V True (.bool (inisR f 0 f.aa)):=fun V=>ah0 (VB f V (by omega) (WA f k22) (by omega) fun c hc=>(Fo _ _ k22 c hc).1)
   cases k3:inisR f 0 f.aa with
   |false=>
    refine gf (gi k2 k3) ?_ [] [3]
    refine fin1 (S':=V) ?_
    exact⟨by simp[Gy,Mv,k2,k3],rfl⟩
   | true =>
    cases k4:(cntE f.main 1 120).1 with
    |false=>
     refine gf (gi k2 (gi k3 k4)) ?_ [] [3]
     refine fin1 (S':=V) ?_
     exact⟨by simp[Gy,Mv,k2,k3,k4],rfl⟩
    | true =>
     have hH:Mv f=true:=by simp[Mv,k1,k2,k3,k4]
     refine gf (gi k2 (gi k3 k4)) ?_ [] [3]
     refine mix [0,1,2,3,4,5,6,7,8,9,10] [9,10] ?_
     refine gz ?_ o52 [3]
     refine moQR ?_
     refine gz ?_ o52 [3]
     refine NA (fun ib gc=>?_)
     have gO:Sub V ((V.set ib (.cells [dI 0])).set ib (.cells [dI (budR f)])):=fun j o hj=>by rw[w9,w8 _ _ (A0 hj gc)];exact hj
     refine gz ?_ o52 [3]
     have iW:(120:Int)-f.aa.length-(allE f.main).length=budR f:=rfl
     rw[iW]
     have jl:budR f<=120:=by unfold budR;omega
     generalize gj:budR f=B at*
     refine Bv 5 1 (fun i hi=>?_)
     obtain⟨n1,n2⟩:=A4 hi
     have gn:∀l:fD,Sub (V.set ib (.cells [dI B])) ((V.set ib (.cells [dI B])).set i (.tail 1 l.length)):=fun l=>(Sub.refl _).set hi
     refine AB [1,2,3,4,7,8,9,10,58,59,60,61,62,63,64,65,66,67,68,69,70,71,72,73,74,75,76,77,78,79,80,81,82,83,84,85,86,87,88,89,90,91,92,93,94,95] (fun (k:Nat) (out:fD)=>k<=f.aa.length/\out++(f.aa.drop k).map (·.name)=ownR f) (fun k out=>[(6,dI k),(5,.slice (cS out) (.tag i))]) (fun _ out=>(V.set ib (.cells [dI B])).set i (.tail 1 out.length)) (fun k _=>f.aa.length-k) (0) ([]) (by exact⟨by omega,rfl⟩) (fun k out hI=>?_)
     obtain⟨hk,hR⟩:=hI
     have hlen:=bF List.length hR
     simp[ownR]at hlen
     by_cases d6:k<f.aa.length
     ·rw[A2 d6,ba]at hR
      refine gz ?_ o52 [3]
      exact⟨k+1,out++[f.aa[k].name],⟨by omega,by rw[aT];exact hR⟩,td1,wkR⟩
     ·rw [A1 d6,bJ,bb] at hR
      subst hR
      have iv:(ownR f).length<=10:=by unfold ownR;rw[aZ];omega
      have i124:∀V:Sig,Ans 124 [.agg (Al f.main),.slice [] .no,sl (cS (slotsR f)),sl (cS (ownR f)),.bool false] V True (.bool (EC [] (slotsR f) (ownR f) false f.main)):=fun V=>ah0 (Ou f.main [] (slotsR f) (ownR f) false .no .no .no V (by omega) (by simp) (by unfold slotsR;omega) (by omega))
      have f6:f.aa.flatMap (·.ae)=slotsR f:=rfl
      have gr:=gn (ownR f)
      have fQ:Sub V (V.set ib (.cells [dI B])):=(Sub.refl _).set gc
      have i0:Sub V ((V.set ib (.cells [dI B])).set i (.tail 1 (ownR f).length)):=fQ.trans gr
      by_cases kb:0<=B
      ·cases k5:EC [] (slotsR f) (ownR f) false f.main with
       |false=>
        refine gf (gi f6 k5) ?_ o52 [3]
        refine fin1 (S':=V) ?_
        exact⟨by simp[Gy,k5],rfl⟩
       | true =>
        refine gf (gi f6 k5) ?_ o52 [3]
        clear hlen iv hk d6
        refine AB [1,3,4,5,8,9,10,84,85,86,87,88,89,90,91,92,93,94,95] (fun (k:Nat) (b:Int)=>k<=f.methods.length/\0<=b/\b<=B/\GC (slotsR f) (ownR f) f.methods B=GC (slotsR f) (ownR f) (f.methods.drop k) b) (fun k _=>[(7,dI k)]) (fun _ b=>V.set ib (.cells [dI b])) (fun k _=>f.methods.length-k) (0) (B) (by exact⟨by omega,by omega,by omega,rfl⟩) (fun k b hI=>?_)
        obtain⟨hk,fX,ji,hR⟩:=hI
        by_cases d6:k<f.methods.length
        ·rw[A2 d6,GC]at hR
         have gM:=p5 k d6
         refine gf f6 ?_ o52 [3]
         refine Ac (Si f.methods[k] (slotsR f) (ownR f) _ _ ib b _ (by omega) (by unfold slotsR;omega) (by unfold ownR;rw[aZ];omega) fX (by omega) (w7 ..)) (fun d S' hr=>?_) (fun d S' hr=>by obtain⟨h,_⟩:=hr;cases h)
         obtain⟨hd,gV⟩:=hr
         cases hd
         rw[w9]at gV
         subst gV
         have ij:Sub V (V.set ib (.cells [dI (D6 (slotsR f) (ownR f) f.methods[k] b).2])):=(Sub.refl _).set gc
         cases hm:(D6 (slotsR f) (ownR f) f.methods[k] b).1 with
         |false=>
          rw[hm,bi]at hR
          refine gf hm ?_ o52 [3]
          refine fin1 (S':=V) ?_
          exact⟨by simp[Gy,gj,hR],rfl⟩
         |true=>
          obtain⟨q1,q2⟩:=Mo _ _ _ b fX hm
          rw[hm,aW]at hR
          refine gf hm ?_ o52 [3]
          exact⟨k+1,(D6 (slotsR f) (ownR f) f.methods[k] b).2,⟨by omega,q1,by omega,hR⟩,td1,wkR⟩
        ·rw[A1 d6,GC]at hR
         have ij:Sub V (V.set ib (.cells [dI b])):=(Sub.refl _).set gc
         repeat' first|refine gf f6 ?_ o52 [3]|apply gy<;>intro hh
         ·refine fin1 (S':=V) ?_
          exact⟨by simp[Gy,gj,hR,hH,kb,k5,hh];omega,rfl⟩
         ·refine fin1 (S':=V) ?_
          exact⟨by simp[Gy,gj,hR,hH,kb,k5,hh],rfl⟩
      ·refine gz ?_ o52 [3]
       refine fin1 (S':=V) ?_
       exact⟨by simp[Gy,gj,kb],rfl⟩
 ·refine gz ?_ [] [3]
  refine fin1 (S':=V) ?_
  exact⟨by simp[Gy,Mv,k1],rfl⟩
def setL:fD->fD->fD
 |[],a=>a
 |s::r,a=>setL r (ins s a)
theorem RG(l:fD)(o:Own)(V:Sig)(hl:l.length<=1073741824):au prog 254 [.slice (cS l) o] V fun x S'=> ∃im,V im=none/\x=.ret (.map im)/\S'=V.set im (.map (eSS (setL l []))):=by
 refine en func254 ntmps254 ?_
 refine gz ?_
 refine Mj (fun im gB=>?_)
 refine gz ?_
 refine AB [2,3,7,8,16] (fun (k:Nat) (m:fD)=>k<=l.length/\setL l []=setL (l.drop k) m) (fun k _=>[(9,dI k)]) (fun _ m=>V.set im (.map (eSS m))) (fun k _=>l.length-k) (0) ([]) (by simp) (fun k m hI=>?_)
 obtain⟨hk,hR⟩:=hI
 by_cases d6:k<l.length
 ·rw[A2 d6,setL]at hR
  refine gz ?_
  exact⟨k+1,ins l[k] m,⟨by omega,hR⟩,td1,wkR⟩
 ·rw[A1 d6,setL]at hR
  refine gz ?_
  exact fin1 (S':=V.set im (.map (eSS m))) ⟨im,gB,rfl,by rw[hR]⟩
def En(f:Nat->Option Str):Nat->Nat->Option Str
 |0,_=>none
 |k+1,j=>match f j with
  |some w=>some w
  |none=>En f k (j+1)
theorem Ed(f:Nat->Option Str)(k j:Nat):En f (k+1) j=match f j with
 |some w=>some w
 |none=>En f k (j+1):=rfl
def DT(tk:fD):Nat->Str->Option Str
 |0,s=>if s∈kwds\/s∈tk then none else some s
 |n+1,s=>En (fun c=>DT tk n (s++[UInt8.ofNat c])) 26 97
def JW(tk:fD):Option Str:=En (fun k=>DT tk k []) 8 1
def DoneY(l i2:Nat)(LO:DObj)(w:Str)(V S':Sig):Prop:=S' l=some (XD .ret LO)/\S' i2=some (.cells [.str w]) /\ ∀j o,V j=some o->j≠l->j≠i2->S' j=some o
def YR(tk:fD)(l i2:Nat)(LO:DObj)(w:Str)(V:Sig)(x:DE)(S':Sig):Prop:=
 if w∈tk then x=.ret (.bool true)/\Sub V S' else x=.ret (.bool false)/\DoneY l i2 LO w V S'
def GR(o:Option Str)(l i2:Nat)(LO:DObj)(V:Sig)(x:DE)(S':Sig):Prop:=match o with
 |none=>x=.ret (.bool true)/\Sub V S'
 |some w=>x=.ret (.bool false)/\DoneY l i2 LO w V S'
theorem DoneY.sub{l i2:Nat}{LO:DObj}{w:Str}{V S1 S2:Sig}(h:Sub V S1)(k:DoneY l i2 LO w S1 S2):DoneY l i2 LO w V S2:=⟨k.1,k.2.1,fun j o hj h1 h2=>k.2.2 j o (h j o hj) h1 h2⟩
theorem Ui(tk:fD)(l i2:Nat)(LO:DObj)(Sb:Sig)(hl:Sb l=some LO)(fN:isLD LO=true)(h2:Sb i2=some (.cells [.str []]))(hy:∀(w:Str) V,Sub Sb V->w.length<=8->DYield prog l [.str w] V (YR tk l i2 LO w V))(is ik i4:Nat):
  ∀(n:Nat) (s:Str) (o:Own) (V:Sig),s.length+n<=8->Sub Sb V->V is=some (.cells [dI ((s.length+n:Nat):Int)])->V ik=some (.map (eSS kwds))->V i4=some (.cells [.func (.func 306) [] [.ptr is 0,.am [.map ik] 0,.am [.yld l] 0,.ptr i4 0]])->
   au prog 306 [.slice (cB8 s) o,.ptr is 0,.am [.map ik] 0,.am [.yld l] 0,.ptr i4 0] V (GR (DT tk n s) l i2 LO V):=by
 intro n
 induction n with
 | zero =>
  intro s o V hn hS o1 o2 o3
  have e0:((s.length+0:Nat):Int)=s.length:=by omega
  rw[e0]at o1
  refine en func306 ntmps306 ?_
  try refine gf (gi o1 o2) ?_ o306
  refine strR s ?_
  by_cases hk:s∈kwds
  ·have hg:DT tk 0 s=none:=by rw[DT,aS (.inl hk)]
   rw[hg]
   try refine gf (gi o2 hk) ?_ o306
   refine skpV ?_
   try refine gz ?_ o306
   exact fin1 (S':=V) ⟨rfl,Sub.refl _⟩
  ·try refine gf (gi o2 hk) ?_ o306
   refine strR s ?_
   try refine gz ?_ o306
   refine yldWG (hy s V hS (by omega)) (fun e S' hr=>?_) (fun e S' hr=>?_)
   ·by_cases ht:s∈tk
    ·have hg:DT tk 0 s=none:=by rw[DT,aS (.inr ht)]
     unfold YR at hr
     rw[aS ht]at hr
     obtain⟨e1,hr⟩:=hr
     cases e1
     rw[hg]
     try refine gz ?_ o306
     exact fin1 (S':=S') ⟨rfl,hr⟩
    ·have hg:DT tk 0 s=some s:=by rw[DT,aN fun h=>h.elim hk ht]
     unfold YR at hr
     rw[aN ht]at hr
     obtain⟨e1,hr⟩:=hr
     cases e1
     rw[hg]
     try refine gz ?_ o306
     exact fin1 (S':=S') ⟨rfl,hr⟩
   ·unfold YR at hr
    split at hr<;>cases hr.1
 | succ n ih =>
  intro s o V hn hS o1 o2 o3
  rw[DT]
  have nl:∀{j x},Sb j=some x->Sb j=some x:=fun h=>h
  have iL:∀{j f c1 c2 V},V j=some (.cells [.func f c1 c2])->Sub Sb V->j≠l/\j≠i2:=fun {j f c1 c2 V} h hS=>⟨fun e=>(by rw[e,hS _ _ hl]at h;cases h;cases fN),fun e=>(by rw[e,hS _ _ h2]at h;cases h)⟩
  refine en func306 ntmps306 ?_
  try refine gf o1 ?_ o306
  refine AB [0,4] (fun (j:Nat) (S1:Sig)=>j<=26/\Sub V S1/\En (fun c=>DT tk n (s++[UInt8.ofNat c])) 26 97=En (fun c=>DT tk n (s++[UInt8.ofNat c])) (26-j) (97+j)) (fun j _=>[(7,.int .u8 ((97+j:Nat):Int))]) (fun _ S1=>S1) (fun j _=>26-j) (0) (V) (by exact⟨by omega,Sub.refl _,rfl⟩) (fun j S1 hI=>?_)
  obtain⟨hj,e9,hR⟩:=hI
  have q1:=e9 _ _ o1
  have q2:=e9 _ _ o2
  have q3:=e9 _ _ o3
  obtain⟨r1,r2⟩:=iL q3 (hS.trans e9)
  by_cases gw:j<26
  ·rw[show 26-j=(26-(j+1))+1 by omega,Ed _ (26-(j+1))]at hR
   have u3:(S1.out (fun x=>x=l\/x=i2)) i4=_:=BO q3 (fun h=>h.elim r1 r2)
   have gu:Sub (S1.out (fun x=>x=l\/x=i2)) S1:=AU _ _
   try refine gf q3 ?_
   refine NB (id:=6) [0,1,3,4,2,5,6,7] [2,5,6] (S1.out (fun x=>x=l\/x=i2)) (AU _ _) ?_
   try refine gf u3 ?_ o306
   refine Y2 (fun a ha=>?_) (hlen:=cB8_mem _)
   try refine gf u3 ?_ o306
   have hb:(UInt8.ofNat (97+j)).toNat=97+j:=by rw[UInt8.toNat_ofNat'];omega
   have iM:cB8 (s++[UInt8.ofNat (97+j)])=cB8 s++[[D.int .u8 (97+(j:Int))]]:=by unfold cB8;rw[bI,ba,bJ,hb];simp
   have d9:Sub V (S1.set a (.tail (tab 5).size ((cB8 s).length+[[D.int IntKind.u8 (97+(j:Int))]].length))):=e9.trans ((Sub.refl _).set ha)
   have hlen:((s++[UInt8.ofNat (97+j)]).length+n:Nat)=s.length+(n+1):=by simp;omega
   have gR:=ih (s++[UInt8.ofNat (97+j)]) (.tag a) _ (by omega) (hS.trans d9) (by rw[hlen];exact d9 _ _ o1) (d9 _ _ o2) (d9 _ _ o3)
   rw[iM]at gR
   have fQ:Sub (S1.out (fun x=>x=l\/x=i2)) (S1.set a (.tail (tab 5).size ((cB8 s).length+[[D.int IntKind.u8 (97+(j:Int))]].length))):=gu.trans ((Sub.refl _).set ha)
   have gY:IntKind.wrap .u8 (97+(j:Int)+1)=97+(j:Int)+1:=by rw[IntKind.wrap_u8];omega
   refine C1 gR (fun d S' hr=>?_) (fun d S' hr=>by unfold GR at hr;split at hr<;>cases hr.1)
   cases hg:DT tk n (s++[UInt8.ofNat (97+j)])with
   |none=>
    rw[hg]at hr
    obtain⟨e1,hr⟩:=hr
    cases e1
    rw[hg]at hR
    refine⟨fQ.trans hr,?_⟩
    try refine gf gY ?_ o306
    exact⟨j+1,S',⟨by omega,d9.trans hr,hR⟩,td1,wkR⟩
   | some w =>
    rw[hg]at hr
    obtain⟨e1,hr⟩:=hr
    cases e1
    rw[hg]at hR
    refine⟨fun q x hq=>?_,?_⟩
    ·obtain⟨h1,h2⟩:=Bm hq
     exact hr.2.2 _ _ (fQ _ _ hq) (fun e=>h2 (.inl e)) (fun e=>h2 (.inr e))
    ·rw[hR]
     try refine gz ?_ o306
     exact fin1 (S':=S') ⟨rfl,hr.sub d9⟩
  ·have h0:∀f:Nat->Option Str,En f 0 (97+j)=none:=fun _=>rfl
   rw[show 26-j=0 by omega,h0]at hR
   rw[hR]
   try refine gz ?_ o306
   exact fin1 (S':=S1) ⟨rfl,e9⟩
def G2(o:Option Str)(l i2:Nat)(LO:DObj)(V:Sig)(x:DE)(S':Sig):Prop:=x=.ret (.tup [])/\match o with
 |none=>Sub V S'
 |some w=>DoneY l i2 LO w V S'
theorem Up(tk:fD)(l i2:Nat)(LO:DObj)(V:Sig)(hl:V l=some LO)(fN:isLD LO=true)(h2:V i2=some (.cells [.str []]))(hy:∀(w:Str) S',Sub V S'->w.length<=8->DYield prog l [.str w] S' (YR tk l i2 LO w S')):
  au prog 286 [.yld l] V (G2 (JW tk) l i2 LO V):=by
 refine en func286 ntmps286 ?_
 try refine gz ?_ [] [3,4]
 refine Ac (Ls V) (fun d S' hr=>?_) (fun d S' hr=>by obtain⟨_,_,h,_⟩:=hr;cases h)
 obtain⟨ik,iD,e1,e2⟩:=hr
 cases e1
 rw[e2]
 clear e2 S'
 have o2:(V.set ik (.map (eSS kwds))) ik=some (.map (eSS kwds)):=w7 ..
 have hS:Sub V (V.set ik (.map (eSS kwds))):=(Sub.refl _).set iD
 generalize V.set ik (.map (eSS kwds))=S1 at*
 try refine gz ?_ [] [3,4]
 refine newV (fun i3 gU=>?_)
 try refine gz ?_ [] [3,4]
 refine CK [1,2] (fun (k:Nat) (j3:Nat) (S2:Sig)=>1<=k/\k<=9/\Sub V S2/\S2 j3=some (.cells [dI (k:Int)])/\S2 ik=some (.map (eSS kwds))/\JW tk=En (fun k=>DT tk k []) (9-k) k) (fun _ j3 _=>[(3,.ptr j3 0)]) (fun _ _ S2=>S2) (fun k _ _=>9-k) (1) (i3) (S1.set i3 (.cells [dI 1])) (by exact⟨by omega,by omega,hS.trans ((Sub.refl _).set gU),w7 .., by rw[w8 _ _ (A0 o2 gU)];exact o2,rfl⟩) (fun k j3 S2 hI=>?_)
 obtain⟨jd,jc,d9,q3,q2,hR⟩:=hI
 by_cases hk:k<=8
 ·rw[show 9-k=(9-(k+1))+1 by omega,Ed _ (9-(k+1))]at hR
  try refine gf q3 ?_ [] [3,4]
  refine newV (fun i4 gC=>?_)
  try refine gz ?_ [] [3,4]
  have n1:=A0 q3 gC
  have n2:=A0 q2 gC
  generalize fY:S2.set i4 (.cells [.func (.func 306) [] [.ptr j3 0,.am [.map ik] 0,.am [.yld l] 0,.ptr i4 0]])=S3
  have r4:S3 i4=some (.cells [.func (.func 306) [] [.ptr j3 0,.am [.map ik] 0,.am [.yld l] 0,.ptr i4 0]]):=by rw[<-fY];exact w7 ..
  have r3:S3 j3=some (.cells [dI (k:Int)]):=by rw[<-fY,w8 _ _ n1];exact q3
  have r2:S3 ik=some (.map (eSS kwds)):=by rw[<-fY,w8 _ _ n2];exact q2
  have fM:Sub V S3:=by rw[<-fY];exact d9.trans ((Sub.refl _).set gC)
  clear fY
  have gJ:=Ui tk l i2 LO V hl fN h2 hy j3 ik i4 k [] .no S3 (by simp;omega) fM (by simpa using r3) r2 r4
  refine callWP gJ (fun d S' hr=>?_) (fun d S' hr=>by unfold GR at hr;split at hr<;>cases hr.1)
  cases hg:DT tk k []with
  |none=>
   rw[hg]at hr hR
   obtain⟨e1,hr⟩:=hr
   cases e1
   have s3:=hr _ _ r3
   try refine gf s3 ?_ [] [3,4]
   refine newV (fun i5 gT=>?_)
   have n5:=A0 (hr _ _ r2) gT
   try refine gz ?_ [] [3,4]
   have jb:((k:Int)+1)=((k+1:Nat):Int):=by omega
   exact⟨k+1,i5,S'.set i5 (.cells [dI ((k+1:Nat):Int)]),⟨by omega,by omega,(fM.trans hr).trans ((Sub.refl _).set gT),w7 .., by rw[w8 _ _ n5];exact hr _ _ r2,hR⟩,td1,wkR⟩
  |some w=>
   rw[hg]at hr hR
   obtain⟨e1,hr⟩:=hr
   cases e1
   try refine gz ?_ [] [3,4]
   refine fin0 (S':=S') ⟨rfl,?_⟩
   rw[hR]
   exact hr.sub fM
 ·have h0:∀f:Nat->Option Str,En f 0 k=none:=fun _=>rfl
  rw[show 9-k=0 by omega,h0]at hR
  try refine gf q3 ?_ [] [3,4]
  refine Ef (S':=S2) ⟨rfl,?_⟩
  rw[hR];exact d9
theorem rangeY{P:Program}{n:Nat}{Q:DX->St->Prop}{γ:Fr}{V:Sig}{df:List DDf}{gop:Operand}{ps:Array Tmp}{asg body:Code}{f:Nat}{first cap:fE}(i2:Nat)(o:Option Str){x2:DObj}(fJ:V i2=some x2)
  (hf:ev γ gop=.func (.func f) first cap)
  (fW:∀l did LO,LO=DObj.loop .ready none ps asg body n γ did->V did=none->(V.set did .defs) l=none->au P f (first++[.yld l]++cap) ((V.set did .defs).set l LO) (G2 o l i2 LO ((V.set did .defs).set l LO)))
  (fR:o=none->∀did S',V did=none->S' did=some .defs->(∀j x,V j=some x->S' j=some x/\j≠did)->Q .normal ⟨γ,S',.coll did::df⟩)
  (fP:∀w,o=some w->∀did S',V did=none->S' did=some .defs->S' i2=some (.cells [.str w])->(∀j x,V j=some x->j≠i2->S' j=some x/\j≠did)->DWp P none n .ret Q ⟨γ,S',.coll did::df⟩) :
  DWp P none n (.rangeFunc gop ps asg body) Q ⟨γ,V,df⟩:=by
 refine Fj (R:=fun l did x S'=>G2 o l i2 (DObj.loop .ready none ps asg body n γ did) ((V.set did .defs).set l (DObj.loop .ready none ps asg body n γ did)) x S') hf (fun l did hd hl d8=>?_) (fun l did d S' hd hl d8 hr=>?_) (fun l did d S' hd hl d8 hr=>by cases hr.1)
 ·have gb:(V.set did .defs) l=none:=by first|exact hl|(rw[w8 _ _ d8];exact hl)
  exact fW l did _ rfl hd gb
 ·have gb:(V.set did .defs) l=none:=by first|exact hl|(rw[w8 _ _ d8];exact hl)
  have iz:V l=none:=by rw[w8 _ _ d8]at gb;exact gb
  have dl:∀j,j≠l->(S'.del l) j=S' j:=fun j h=>by simp only[Sig.del,h,bd]
  have b1:∀j x,V j=some x->((V.set did .defs).set l (DObj.loop .ready none ps asg body n γ did)) j=some x/\j≠l/\j≠did:=fun j x hj=>by
   have e1:j≠l:=A0 hj iz
   have e2:j≠did:=A0 hj hd
   exact⟨by rw[w8 _ _ e1,w8 _ _ e2];exact hj,e1,e2⟩
  have b2:((V.set did .defs).set l (DObj.loop .ready none ps asg body n γ did)) did=some .defs:=by rw[w8 _ _ (aQ d8)];exact w7 ..
  obtain⟨e1,hr⟩:=hr
  cases o with
  |none=>
   have hr:Sub _ S':=hr
   refine⟨.ready,none,hr _ _ (w7 ..),by simp,fR rfl did _ hd (by rw[dl _ (aQ d8)];exact hr _ _ b2) fun j x hj=>?_⟩
   obtain⟨c1,c2,c3⟩:=b1 j x hj
   exact⟨by rw[dl _ c2];exact hr _ _ c1,c3⟩
  |some w=>
   obtain⟨d1,d2,d3⟩:DoneY l i2 _ w _ S':=hr
   obtain⟨c1,c2,c3⟩:=b1 _ _ fJ
   refine⟨.done,some .ret,d1,by simp,fP w rfl did _ hd (by rw[dl _ (aQ d8)];exact d3 _ _ b2 (aQ d8) (aQ c3)) (by rw[dl _ c2];exact d2) fun j x hj hn=>?_⟩
   obtain⟨c1,c2,c3⟩:=b1 j x hj
   exact⟨by rw[dl _ c2];exact d3 _ _ c1 c2 hn,c3⟩
def DN(tk:fD):Str:=(JW tk).getD []
theorem Oc(tk:fD)(im:Nat)(V:Sig)(hm:V im=some (.map (eSS tk))):au prog 253 [.map im] V (rS (.str (DN tk)) V):=by
 refine Bj func253 rfl (by decide) ntmps253 (by simp) ?_
 try refine gz ?_ [] [2]
 refine newV (fun i2 fJ=>?_)
 have n1:im≠i2:=A0 hm fJ
 have gv:(V.set i2 (.cells [.str []])) im=some (.map (eSS tk)):=by rw[w8 _ _ n1];exact hm
 try refine gz ?_ [] [2]
 refine rangeY i2 (JW tk) (w7 ..) rfl (fun l did LO fN hd hl=>?_) (fun ho did S' iJ fV hk=>?_) (fun w ho did S' iJ fV f0 hk=>?_)
 ·have e1:i2≠did:=fun e=>by rw[<-e,w7]at hd;cases hd
  have e2:im≠did:=fun e=>by rw[<-e,gv]at hd;cases hd
  have e3:i2≠l:=fun e=>by rw[<-e,w8 _ _ e1,w7]at hl;cases hl
  have e4:im≠l:=fun e=>by rw[<-e,w8 _ _ e2,gv]at hl;cases hl
  refine Up tk l i2 LO _ (w7 ..) (JM fN).1 (by rw[w8 _ _ e3,w8 _ _ e1];exact w7 ..) fun w S1 hS gk=>?_
  have g1:S1 l=some LO:=hS _ _ (w7 ..)
  have g2:S1 im=some (.map (eSS tk)):=hS _ _ (by rw[w8 _ _ e4,w8 _ _ e2];exact gv)
  have g3:S1 i2=some (.cells [.str []]):=hS _ _ (by rw[w8 _ _ e3,w8 _ _ e1];exact w7 ..)
  refine Ez fN g1 ?_
  try refine gz ?_ [] [2]
  refine⟨g1,?_⟩
  have g2b:(S1.set l (Ck LO)) im=some (.map (eSS tk)):=by rw[w8 _ _ e4];exact g2
  by_cases hw:w∈tk
  ·try refine gf (gi g2 hw) ?_ [] [2]
   exact⟨w7 .., by unfold YR;rw[aS hw];exact⟨rfl,by rw[w9,Sig.set_self _ g1];exact Sub.refl _⟩⟩
  ·try refine gf (gi g2 (gi g3 hw)) ?_ [] [2]
   refine⟨(w8 _ _ (aQ e3)).trans (w7 ..),?_⟩
   unfold YR;rw[aN hw]
   refine⟨rfl,w7 .., (w8 _ _ e3).trans (w7 ..),fun j o hj h1 h2=>?_⟩
   show(((S1.set l (Ck LO)).set i2 (.cells [.str w])).set l (XD .ret LO)) j=some o
   rw[w8 _ _ h1,w8 _ _ h2,w8 _ _ h1];exact hj
 ·have hf:DN tk=[]:=by unfold DN;rw[ho];rfl
  have h2:=(hk i2 _ (w7 ..)).1
  have gg:i2≠did:=(hk i2 _ (w7 ..)).2
  have iK:did≠i2:=aQ gg
  try refine gf h2 ?_ [] [2]
  refine finMC [did] (S':=V) (ds:=[.str []]) ⟨by rw[hf];rfl,rfl⟩ (fun j x hj=>?_) (by simp) (by simp[w8 _ _ iK,fV]) (by simp[resL,dels,Sig.del,gg]) (A9 _)
  have ne2:j≠i2:=A0 hj fJ
  obtain⟨c1,c2⟩:=hk j x (by rw[w8 _ _ ne2];exact hj)
  rw[Kg _ _ _ (by simpa using c2),w8 _ _ ne2];exact c1
 ·have hf:DN tk=w:=by unfold DN;rw[ho];rfl
  have gg:i2≠did:=fun e=>by rw[<-e,f0]at fV;cases fV
  try refine gz ?_ [] [2]
  refine finMC [did] (S':=V) (ds:=[.str w]) ⟨by rw[hf];rfl,rfl⟩ (fun j x hj=>?_) (by simp) (by simp[fV]) (by simp[resL,dels,Sig.del,gg,f0]) (A9 _)
  have ne2:j≠i2:=A0 hj fJ
  obtain⟨c1,c2⟩:=hk j x (by rw[w8 _ _ ne2];exact hj) ne2
  rw[Kg _ _ _ (by simpa using c2)];exact c1
theorem PW(x:Str): ∀(l m:fD),x∈setL l m ↔ x∈l\/x∈m
 |[],m=>by simp[setL]
 |y::r,m=>by rw[setL,PW x r,I6,aY];grind
theorem FW{f g:Nat->Option Str}(h:∀j,f j=g j): ∀k j,En f k j=En g k j
 |0,_=>rfl
 |k+1,j=>by rw[Ed,Ed,h j,FW h k]
theorem JT{a b:fD}(h:∀x,x∈a ↔ x∈b): ∀(n:Nat) (s:Str),DT a n s=DT b n s
 |0,s=>by rw[DT,DT];simp only[h s]
 |n+1,s=>by rw[DT,DT];exact FW (fun j=>JT h n _) _ _
theorem NZ{a b:fD}(h:∀x,x∈a ↔ x∈b):DN a=DN b:=by
 unfold DN JW
 rw[FW fun k=>JT h k []]
theorem UN(l:fD)(o:Own)(V:Sig)(hl:l.length<=1073741824):au prog 213 [.slice (cS l) o] V (rS (.str (DN l)) V):=by
 refine en func213 ntmps213 ?_
 try refine gz ?_
 refine Ac (RG l o V hl) (fun x S1 hr=>?_) (fun x S1 hr=>by obtain⟨_,_,h,_⟩:=hr;cases h)
 obtain⟨im,gB,e1,e2⟩:=hr
 cases e1
 rw[e2]
 repeat' first|refine gz ?_|refine Aq (Oc (setL l []) im _ (w7 ..)) ?_|refine callP (Oc (setL l []) im _ (w7 ..)) ?_|refine gz ?_|apply gy<;>intro hh
 refine fin1 (S':=V) ⟨rfl,rfl⟩ ((Sub.refl _).set gB) (hw:=?_)
 refine AM ?_
 rw[NZ (a:=setL l []) (b:=l) fun x=>by rw[PW];simp]
@[reducible,instance] def a213:=fun l o V=>ah1 (@UN l o V)
def D2:Nat->fD->fD
 |0,out=>out
 |n+1,out=>D2 n (out++[DN out])
def AW(n:Nat):fD:=D2 n []
theorem Le: ∀(n:Nat) (l:fD),(D2 n l).length=l.length+n
 |0,l=>rfl
 |n+1,l=>by rw[D2,Le n,aH];simp;omega
theorem G0(n:Nat)(V:Sig)(hn:n<=1073741824):au prog 134 [dI n] V (rS (sl (cS (AW n))) V):=by
 refine en func134 ntmps134 ?_
 try refine gz ?_
 refine Bv 3 1 (fun i hi=>?_)
 refine AB [2,5,15] (fun (k:Nat) (out:fD)=>k<=n/\out.length=k/\AW n=D2 (n-k) out) (fun k out=>[(6,dI k),(3,.slice (cS out) (.tag i))]) (fun _ out=>V.set i (.tail 1 out.length)) (fun k _=>n-k) (0) ([]) (by simp[AW]) (fun k out hI=>?_)
 obtain⟨hk,f9,hR⟩:=hI
 by_cases d6:k<n
 ·rw[show n-k=(n-(k+1))+1 by omega,D2]at hR
  try refine gz ?_
  exact⟨k+1,out++[DN out],⟨by omega,by rw[aH,f9];rfl,hR⟩,td1,wkR⟩
 ·rw[show n-k=0 by omega,D2]at hR
  try refine gz ?_
  rw[hR]
  exact fin1 (S':=V) ⟨rfl,rfl⟩
@[reducible,instance] def a134:=fun n V=>ah1 (@G0 n V)
def M2:Nat->Nat->Str->Str
 |0,_,s=>s
 |f+1,n,s=>if n=0 then s else M2 f ((n-1) / 26) (UInt8.ofNat (97+(n-1) % 26)::s)
def Kw(n:Nat):Str:=M2 n n []
theorem N4: ∀(f n:Nat) (s:Str),(M2 f n s).length<=f+s.length
 |0,_,s=>by rw[M2];omega
 | f+1,n,s=>by
  rw[M2]
  split
  ·omega
  ·have:=N4 f ((n-1) / 26) (UInt8.ofNat (97+(n-1) % 26)::s)
   rw[aP]at this
   omega
theorem R9(f:Nat)(s:Str):M2 f 0 s=s:=by cases f<;>simp[M2]
theorem UH(n:Nat)(V:Sig)(hn:n<=100000):au prog 225 [dI n] V (rS (.str (Kw n)) V):=by
 refine en func225 ntmps225 ?_
 refine gz ?_
 refine CK [2,18] (fun (m:Nat) (f:Nat) (s:Str)=>m<=f/\f<=n/\s.length+f<=n/\M2 f m s=Kw n) (fun m _ s=>[(0,dI m),(3,.str s)]) (fun _ _ _=>V) (fun m _ _=>m) (n) (n) ([]) (by exact⟨by omega,by omega,by simp,rfl⟩) (fun m f s hI=>?_)
 obtain⟨hm,hf,hs,hR⟩:=hI
 by_cases h0:m=0
 ·subst h0
  rw[R9]at hR
  refine gz ?_
  refine fin1 (S':=V) ?_
  exact⟨by rw[hR],rfl⟩
 ·obtain⟨k,rfl⟩:∃k,m=k+1:=⟨m-1,by omega⟩
  obtain⟨g,rfl⟩:∃g,f=g+1:=⟨f-1,by omega⟩
  rw[M2,aN h0,Nat.add_sub_cancel]at hR
  have e1:(k:Int).tmod 26=((k % 26:Nat):Int):=rfl
  have e2:(k:Int).tdiv 26=((k / 26:Nat):Int):=rfl
  have hr:k % 26<26:=Nat.mod_lt _ (by omega)
  have hq:k / 26<=k:=Nat.div_le_self _ _
  generalize k % 26=r at*
  generalize k / 26=q at*
  have e3:IntKind.wrap .u8 (97+(r:Int))=97+(r:Int):=by rw[IntKind.wrap_u8];omega
  have e4:(UInt8.ofNat (97+r)).toNat=97+r:=by rw[UInt8.toNat_ofNat'];omega
  have e5:cB8 [UInt8.ofNat (97+r)]=[[.int .u8 (97+(r:Int))]]:=by unfold cB8;rw[ba,e4];rfl
  clear e4
  generalize UInt8.ofNat (97+r)=ch at*
  refine gf (gi e1 (gi e2 e3)) ?_
  refine strR [ch] ?_ (hx:=by rw[e5];with_unfolding_all rfl)
  refine gf (gi e1 e2) ?_
  exact⟨q,g,ch::s,⟨by omega,by omega,by simp only[aP];omega,hR⟩,td1,wkR⟩
@[reducible,instance] def a225:=fun n V=>ah1 (@UH n V)
def okW(l:fD)(n:Nat):Bool:=AJ (Kw n)&&!decide (Kw n∈l)
def frO(l:fD):Nat->Nat->Option Str
 |0,_=>none
 |f+1,n=>if okW l n=true then some (Kw n) else frO l f (n+1)
theorem Vh(l:fD)(w:Str)(o:Own)(V:Sig)(hl:l.length<=1073741824)(hw:frO l 10000 1=some w):au prog 164 [.slice (cS l) o] V (rS (.str w) V):=by
 refine en func164 ntmps164 ?_
 refine gz ?_
 refine AB [0,2,16,17] (fun (m:Nat) (f:Nat)=>m+f=10001/\1<=m/\frO l f m=some w) (fun m _=>[(3,dI m)]) (fun _ _=>V) (fun _ f=>f) (1) (10000) (by exact⟨by omega,by omega,hw⟩) (fun m f hI=>?_)
 obtain⟨hm,h1,hR⟩:=hI
 cases f with
 |zero=>cases hR
 | succ g =>
  rw[frO]at hR
  have gk:=N4 m m []
  have gk:(Kw m).length<=1073741824:=by unfold Kw;simp only[cf]at gk;omega
  unfold okW at hR
  cases hn:AJ (Kw m)with
  |false=>
   rw[hn,bi,aN (by simp)]at hR
   refine gf hn ?_
   exact⟨m+1,g,⟨by omega,by omega,hR⟩,td1,wkR⟩
  | true =>
   by_cases hi:Kw m∈l
   ·rw[hn,aX hi,aN (by simp)]at hR
    refine gf (gi hn hi) ?_
    exact⟨m+1,g,⟨by omega,by omega,hR⟩,td1,wkR⟩
   ·rw[hn,aV hi,aS (by simp)]at hR
    cases hR
    refine gf (gi hn hi) ?_
    exact fin1 (S':=V) ⟨rfl,rfl⟩
def refM:Nat->fD->fD->Option fD
 |0,_,out=>some out
 |k+1,l,out=>match frO l 10000 1 with
  |none=>none
  |some w=>refM k (l++[w]) (out++[w])
theorem Qv(n:Nat)(l ws:fD)(o:Own)(V:Sig)(hl:l.length+n<=1000000000)(hw:refM n l []=some ws):au prog 73 [.slice (cS l) o,dI n] V (rS (sl (cS ws)) V):=by
 refine en func73 ntmps73 ?_
 refine gz ?_
 refine appN (fun i hi=>?_)
 refine gz ?_
 refine Bv 5 1 (fun j hj=>?_)
 obtain⟨n1,gQ⟩:=A4 hj
 generalize e8:Sig.set (Sig.set V i _) j _=S0
 have q1:S0 i=some (.tail 1 (l++([]:fD)).length):=by rw[<-e8,w8 _ _ (aQ n1),w7];simp
 have q2:S0 j=some (.tail 1 ([]:fD).length):=by rw[<-e8,w7];rfl
 have hS:Sub V S0:=fun x y hx=>by rw[<-e8,w8 _ _ (A0 hx gQ),w8 _ _ (A0 hx hi)];exact hx
 clear e8
 refine CK [1,4,25] (fun (k:Nat) (out:fD) (S1:Sig)=>k<=n/\refM (n-k) (l++out) out=some ws/\out.length=k/\S1 i=some (.tail 1 (l++out).length)/\S1 j=some (.tail 1 out.length)/\Sub V S1) (fun k out _=>[(6,dI k),(0,.slice (cS (l++out)) (.tag i)),(5,.slice (cS out) (.tag j))]) (fun _ _ S1=>S1) (fun k _ _=>n-k) (0) ([]) (S0) (by exact⟨by omega,by simpa using hw,rfl,q1,q2,hS⟩) (fun k out S1 hI=>?_)
 obtain⟨hk,hR,f9,o1,o2,oS⟩:=hI
 by_cases d6:k<n
 ·rw[show n-k=n-(k+1)+1 by omega,refM]at hR
  cases hf:frO (l++out) 10000 1 with
  |none=>rw[hf]at hR;cases hR
  |some w=>
   rw[hf]at hR
   have ja:(l++out).length=l.length+k:=by rw[aH,f9]
   have i164:∀V:Sig,Ans 164 [.slice (cS (l++out)) (.tag i)] V True (.str w):=fun V=>ah0 (Vh _ w _ V (by omega) hf)
   have hne:i≠j:=aQ n1
   have ecs:cS (l++out)++[[D.str w]]=cS (l++(out++[w])):=by simp[cS]
   have ecs2:cS out++[[D.str w]]=cS (out++[w]):=by simp[cS]
   refine gf (gi o1 o2) ?_
   simp only[ecs,ecs2]
   generalize gG:Sig.set (Sig.set S1 i _) j _=S2
   have z1:S2 i=some (.tail 1 (l++(out++[w])).length):=by rw[<-gG,w8 _ _ hne,w7];simp;omega
   have z2:S2 j=some (.tail 1 (out++[w]).length):=by rw[<-gG,w7];simp
   have zS:Sub V S2:=fun x y hx=>by rw[<-gG,w8 _ _ (A0 hx gQ),w8 _ _ (A0 hx hi)];exact oS x y hx
   exact⟨k+1,out++[w],S2,⟨by omega,by rw[<-aT];exact hR,by rw[aH,f9];rfl,z1,z2,zS⟩,td1,wkR⟩
 ·rw[show n-k=0 by omega,refM]at hR
  cases hR
  refine gz ?_
  exact finS (S':=V) ⟨rfl,rfl⟩
def cSp(p:aw)(a b c:fD):D:=.am [.am [sl (p.aa.map cBClass),dI p.ae,sl (cI p.aj),sl (p.methods.map Ag),sl (p.nodes.map Ab),dI p.main,sl (cS a),sl (cS b),sl (cS c)] 0] 0
theorem Vw(p:aw)(a b c:fD)(n:Nat)(V:Sig)(hn:n<a.length)(ha:a.length<=1073741824):au prog 138 [dI n,cSp p a b c] V (rS (.str ((a[n]?).getD [])) V):=by
 have hc:cSp p a b c=.am [.am [sl (p.aa.map cBClass),dI p.ae,sl (cI p.aj),sl (p.methods.map Ag),sl (p.nodes.map Ab),dI p.main,sl (cS a),sl (cS b),sl (cS c)] 0] 0:=rfl
 have hg:(a[n]?).getD []=a[n]:=by rw[aM hn];rfl
 rw[hc,hg]
 refine en func138 ntmps138 ?_
 refine gz ?_
 exact fe1 trivial
theorem Vv(p:aw)(a b c:fD)(n:Nat)(V:Sig)(hn:n<b.length)(ha:b.length<=1073741824):au prog 139 [dI n,cSp p a b c] V (rS (.str ((b[n]?).getD [])) V):=by
 have hc:cSp p a b c=.am [.am [sl (p.aa.map cBClass),dI p.ae,sl (cI p.aj),sl (p.methods.map Ag),sl (p.nodes.map Ab),dI p.main,sl (cS a),sl (cS b),sl (cS c)] 0] 0:=rfl
 have hg:(b[n]?).getD []=b[n]:=by rw[aM hn];rfl
 rw[hc,hg]
 refine en func139 ntmps139 ?_
 refine gz ?_
 exact fe1 trivial
theorem UL(p:aw)(a b c:fD)(n:Nat)(V:Sig)(hn:n<b.length)(ha:b.length<=1073741824):au prog 216 [dI n,cSp p a b c] V (rS (.str ((b[n]?).getD [])) V):=by
 have hc:cSp p a b c=.am [.am [sl (p.aa.map cBClass),dI p.ae,sl (cI p.aj),sl (p.methods.map Ag),sl (p.nodes.map Ab),dI p.main,sl (cS a),sl (cS b),sl (cS c)] 0] 0:=rfl
 have hg:(b[n]?).getD []=b[n]:=by rw[aM hn];rfl
 rw[hc,hg]
 refine en func216 ntmps216 ?_
 refine gz ?_
 exact fe1 trivial
theorem Vt(p:aw)(a b c:fD)(n:Nat)(v:Int)(V:Sig)(hn:n<b.length)(ha:b.length<=1073741824):au prog 141 [.agg [dI n,dI v],cSp p a b c] V (rS (.agg (Dh ⟨(b[n]?).getD [],v⟩)) V):=by
 have hc:cSp p a b c=.am [.am [sl (p.aa.map cBClass),dI p.ae,sl (cI p.aj),sl (p.methods.map Ag),sl (p.nodes.map Ab),dI p.main,sl (cS a),sl (cS b),sl (cS c)] 0] 0:=rfl
 have hg:(b[n]?).getD []=b[n]:=by rw[aM hn];rfl
 rw[hc,hg]
 refine en func141 ntmps141 ?_
 refine gz ?_ o141
 refine newV (fun i hi=>?_)
 refine gz ?_ o141
 exact finC (S':=V) ⟨rfl,rfl⟩
def ixS(l:fD)(n:Int):Str:=(l[n.toNat]?).getD []
def InR(n:Int)(k:Nat):Prop:=0<=n/\n<k
def spC(a b:fD)(c:ax):aD:=⟨[],c.ag.map (ixS a),c.ae.map (ixS b),c.ai.map fun x=>⟨ixS b x.slot,x.n⟩⟩
def ClsIx(A S:Nat)(c:ax):Prop:=(∀x∈c.ag,InR x A)/\(∀x∈c.ae,InR x S) /\ ∀x∈c.ai,InR x.slot S
theorem Vx(p:aw)(a b g:fD)(c:ax)(V:Sig)(hc:ClsIx a.length b.length c)(ha:a.length<=1073741824)(hb:b.length<=1073741824)(hw:c.wt<=1073741824):
  au prog 136 [.agg (cBClass c),cSp p a b g] V (rS (.agg (cFClass (spC a b c))) V):=by
 have gZ:c.ag.length<=1073741824/\c.ae.length<=1073741824/\c.ai.length<=1073741824:=by unfold ax.wt at hw;omega
 obtain⟨c1,c2,c3⟩:=gZ
 obtain⟨x1,x2,x3⟩:=hc
 have h1:=fun (V:Sig)=>K9 c.ag (ixS a) 138 [cSp p a b g] .no V c1 (fun x hx S' _=>by
  obtain⟨h0,h1⟩:=x1 x hx
  obtain⟨n,rfl⟩:∃n:Nat,x=n:=⟨x.toNat,by omega⟩
  exact Vw p a b g n S' (by omega) ha)
 have h2:=fun (V:Sig)=>K9 c.ae (ixS b) 139 [cSp p a b g] .no V c2 (fun x hx S' _=>by
  obtain⟨h0,h1⟩:=x2 x hx
  obtain⟨n,rfl⟩:∃n:Nat,x=n:=⟨x.toNat,by omega⟩
  exact Vv p a b g n S' (by omega) hb)
 have h3:=fun (V:Sig)=>Vu c.ai (fun x=>⟨ixS b x.slot,x.n⟩) 141 [cSp p a b g] .no V c3 (fun x hx S' _=>by
  obtain⟨s,v⟩:=x
  obtain⟨h0,h1⟩:=x3 _ hx
  obtain⟨n,rfl⟩:∃n:Nat,s=n:=⟨s.toNat,by simp only at h0;omega⟩
  exact Vt p a b g n v S' (by simp only at h1;omega) hb)
 refine en func136 ntmps136 ?_
 refine gz ?_ o136
 refine newV (fun i hi=>?_)
 repeat' first|refine gz ?_|refine moR (h1 _) ?_|refine moP (h1 _) ?_|refine moR (h3 _) ?_|refine moP (h3 _) ?_|refine gz ?_ o136|apply gy<;>intro hh
 repeat' first|refine gz ?_|refine moR (h2 _) ?_|refine moP (h2 _) ?_|refine moR (h3 _) ?_|refine moP (h3 _) ?_|refine gz ?_ o136|apply gy<;>intro hh
 exact finC (S':=V) ⟨rfl,rfl⟩ (hw:=by refine AM ?_;simp[spC])
mutual
def FIx(A S P:Nat):Fact->Prop
 |.mk o g p c _ k=>(∀x∈p,InR x S)/\(o=2->InR c A)/\(o=2\/o=3\/o=4->InR g P)/\FIxs A S P k
def FIxs(A S P:Nat):List Fact->Prop
 |[]=>True
 |x::r=>FIx A S P x/\FIxs A S P r
end
theorem Gv{A S P:Nat}: ∀{l:List Fact},FIxs A S P l->∀x∈l,FIx A S P x
 |[],_,x,hx=>by simp at hx
 |y::r,h,x,hx=>by
  rw[FIxs]at h
  rcases aY.1 hx with rfl|hx
  ·exact h.1
  ·exact Gv h.2 x hx
mutual
def spF(a b P:fD):Fact->aC
 |.mk o g p c n k=>.mk o (if o=2\/o=3\/o=4 then ixS P g else []) (p.map (ixS b)) (if o=2 then ixS a c else []) n (spFs a b P k)
def spFs(a b P:fD):List Fact->List aC
 |[]=>[]
 |x::r=>spF a b P x::spFs a b P r
end
theorem PV(a b P:fD): ∀l,spFs a b P l=l.map (spF a b P)
 |[]=>by rw[spFs];rfl
 |x::r=>by rw[spFs,PV a b P r];rfl
theorem XW(a b P:fD)(f:Fact):spF a b P f=.mk f.op (if f.op=2\/f.op=3\/f.op=4 then ixS P f.arg else []) (f.path.map (ixS b)) (if f.op=2 then ixS a f.cls else []) f.n (f.ah.map (spF a b P)):=by
 cases f;rw[spF,PV];rfl
theorem BX{l:fD}{n:Int}(h:InR n l.length): ∃k:Nat,n=k /\ ∃hk:k<l.length,ixS l n=l[k]:=by
 obtain⟨h0,h1⟩:=h
 refine⟨n.toNat,by omega,by omega,?_⟩
 unfold ixS;rw[aM (by omega)];rfl
theorem Vr(p:aw)(a b g P:fD)(ha:a.length<=1073741824)(hb:b.length<=1073741824)(hP:P.length<=1073741824): ∀(n:Nat) (f:Fact) (o:Own) (V:Sig),f.wt<=n->n<=1073741824->FIx a.length b.length P.length f->
  au prog 143 [.am [sl (p.aa.map cBClass),dI p.ae,sl (cI p.aj),sl (p.methods.map Ag),sl (p.nodes.map Ab),dI p.main,sl (cS a),sl (cS b),sl (cS g)] 0,.agg (AS f),.slice (cS P) o] V (rS (.agg (B6 (spF a b P f))) V):=by
 intro n
 induction n with
 |zero=>
  intro f o V hx
  have:=f.wt_pos
  omega
 | succ n ih =>
  intro f o V hx hn hI
  obtain⟨w1,w2,fO⟩:=f.wt_le
  have iq:f.path.length<=1073741824:=by omega
  obtain⟨i1,i2,i3,i4⟩:(∀x∈f.path,InR x b.length)/\(f.op=2->InR f.cls a.length)/\(f.op=2\/f.op=3\/f.op=4->InR f.arg P.length)/\FIxs a.length b.length P.length f.ah:=by cases f;rw[FIx]at hI;exact hI
  have f7:=XW a b P f
  have je:D.am [.am [sl (p.aa.map cBClass),dI p.ae,sl (cI p.aj),sl (p.methods.map Ag),sl (p.nodes.map Ab),dI p.main,sl (cS a),sl (cS b),sl (cS g)] 0] 0=cSp p a b g:=rfl
  have gL:=fun (V:Sig)=>K9 f.path (ixS b) 216 [cSp p a b g] .no V iq (fun x hx S' _=>by
   obtain⟨k,rfl,hk,_⟩:=BX (i1 x hx)
   exact UL p a b g k S' hk hb)
  have gK:∀x∈f.ah, ∀S',au prog 218 ([]++[.agg (AS x)]++[cSp p a b g,.am [.slice (cS P) o] 0]) S' fun r S''=>r=.ret (.agg (B6 (spF a b P x)))/\S''=S':=fun x hx S'=>by
   have iX:=ih x o S' (by obtain⟨k,hk,rfl⟩:=bh hx;have:=fO k hk;omega) (by omega) (Gv i4 x hx)
   have gE:cSp p a b g=.am [.am [sl (p.aa.map cBClass),dI p.ae,sl (cI p.aj),sl (p.methods.map Ag),sl (p.nodes.map Ab),dI p.main,sl (cS a),sl (cS b),sl (cS g)] 0] 0:=rfl
   rw[gE]
   refine en func218 ntmps218 ?_
   refine gz ?_
   refine newV (fun i hi=>?_)
   repeat' first|refine gz ?_|refine Aq (ih x o _ (by obtain⟨k,hk,rfl⟩:=bh hx;have:=fO k hk;omega) (by omega) (Gv i4 x hx)) ?_|refine callP (ih x o _ (by obtain⟨k,hk,rfl⟩:=bh hx;have:=fO k hk;omega) (by omega) (Gv i4 x hx)) ?_|refine gz ?_|apply gy<;>intro hh
   exact finC (S':=S') ⟨rfl,rfl⟩
  have d7:=fun (V:Sig)=>UK f.ah (spF a b P) 218 [cSp p a b g,.am [.slice (cS P) o] 0] .no V (by omega) (fun x hx S' _=>gK x hx S')
  refine en func143 ntmps143 ?_
  refine gz ?_ o143
  refine newV (fun i6 e7=>?_)
  refine gz ?_ (delO 1 o143)
  refine mixL (id:=1) [0,1,2,3,4,5,6,7,8,9] [9] ?_
  refine gz ?_ o143
  refine WE (fun S' _=>(gL S').mono fun x S'' hx=>⟨hx.1,hx.2 ▸ Sub.refl _⟩) ?_
  refine gz ?_ o143
  refine NA (fun i7 fL=>?_)
  have n67:i6≠i7:=fun e=>by rw[<-e,w7]at fL;cases fL
  by_cases h2:f.op=2
  ·obtain⟨k,hk,d6,fU⟩:=BX (i3 (.inl h2))
   obtain⟨k',gP,iC,gD⟩:=BX (i2 h2)
   repeat' first|refine gf (gi h2 (gi hk gP)) ?_|refine Aq (d7 _) ?_|refine callP (d7 _) ?_|refine gf (gi h2 (gi hk gP)) ?_ o143|apply gy<;>intro hh
   exact finC (S':=V) ⟨rfl,rfl⟩ (hZ:=(((Sub.refl _).set e7).set (A4 fL).2).set e7) (hw:=by rw[f7];refine AM ?_;simp[CB,aC.op,aC.name,aC.path,aC.cls,aC.n,aC.ah,h2,fU,gD])
  by_cases h3:f.op=3
  ·obtain⟨k,hk,d6,fU⟩:=BX (i3 (.inr (.inl h3)))
   repeat' first|refine gf (gi h3 hk) ?_|refine Aq (d7 _) ?_|refine callP (d7 _) ?_|refine gf (gi h3 hk) ?_ o143|apply gy<;>intro hh
   exact finC (S':=V) ⟨rfl,rfl⟩ (hZ:=(((Sub.refl _).set e7).set (A4 fL).2).set e7) (hw:=by rw[f7];refine AM ?_;simp[CB,aC.op,aC.name,aC.path,aC.cls,aC.n,aC.ah,h3,fU])
  by_cases h4:f.op=4
  ·obtain⟨k,hk,d6,fU⟩:=BX (i3 (.inr (.inr h4)))
   repeat' first|refine gf (gi h4 hk) ?_|refine Aq (d7 _) ?_|refine callP (d7 _) ?_|refine gf (gi h4 hk) ?_ o143|apply gy<;>intro hh
   exact finC (S':=V) ⟨rfl,rfl⟩ (hZ:=(((Sub.refl _).set e7).set (A4 fL).2).set e7) (hw:=by rw[f7];refine AM ?_;simp[CB,aC.op,aC.name,aC.path,aC.cls,aC.n,aC.ah,h4,fU])
  repeat' first|refine gf (gi h2 (gi h3 h4)) ?_|refine Aq (d7 _) ?_|refine callP (d7 _) ?_|refine gf (gi h2 (gi h3 h4)) ?_ o143|apply gy<;>intro hh
  exact finC (S':=V) ⟨rfl,rfl⟩ (hZ:=(((Sub.refl _).set e7).set (A4 fL).2).set e7) (hw:=by rw[f7];refine AM ?_;simp[CB,aC.op,aC.name,aC.path,aC.cls,aC.n,aC.ah,h2,h3,h4])
end Go.DL
