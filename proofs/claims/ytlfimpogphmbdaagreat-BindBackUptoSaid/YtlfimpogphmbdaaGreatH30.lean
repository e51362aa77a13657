/- A part of the proof. -/
import Derived.Test.YtlfimpogphmbdaaGreatH29
import Derived.Test.YtlfimpogphmbdaaGreatRows
import Derived.WideKeyArgs
import Derived.ChangeSame
set_option linter.all false
namespace Go.DL
open Go.Proofs.Tryz
open Go Go.Proofs
set_option maxHeartbeats 8000000
structure D1S(i7 j1 j2 j3:Nat)(nm:Str)(ps ss:fP)(is:List aM)(V S1:Sig):Prop where
 o7:S1 i7=some (.cells [.str nm,.slice (cS ps) (.tag j1),.slice (cS ss) (.tag j2),.slice (is.map Dz) (.tag j3)])
 o1:S1 j1=some (.tail 1 ps.length)
 o2:S1 j2=some (.tail 1 ss.length)
 o3:S1 j3=some (.tail 2 is.length)
 hS:Sub V S1
section
variable {i7 j1 j2 j3:Nat}{nm:Str}{ps ss:fP}{is:List aM}{V S1:Sig}
theorem D1S.par(h:D1S i7 j1 j2 j3 nm ps ss is V S1)(v:Str)(gR:j1≠j2)(gQ:j1≠j3)(h7:V i7=none)(h1:V j1=none):
  D1S i7 j1 j2 j3 nm (ps++[v]) ss is V ((S1.set j1 (.tail 1 (ps.length+1))).set i7 (.cells [.str nm,.slice (cS ps++[[.str v]]) (.tag j1),.slice (cS ss) (.tag j2),.slice (is.map Dz) (.tag j3)])):=by
 have n1:j1≠i7:=Ab h.o1 h.o7 k7;have n2:j2≠i7:=Ab h.o2 h.o7 k7;have n3:j3≠i7:=Ab h.o3 h.o7 k7;refine⟨by rw[w7];simp[cS],by rw[w8 _ _ n1,w7,aO];rfl,k8 n2 (k8 (aZ gR) h.o2),k8 n3 (k8 (aZ gQ) h.o3),fun j o hj=>?_⟩;rw[w8 _ _ (A3 hj h7),w8 _ _ (A3 hj h1)];exact h.hS j o hj
theorem D1S.slo(h:D1S i7 j1 j2 j3 nm ps ss is V S1)(v:Str)(gR:j1≠j2)(gP:j2≠j3)(h7:V i7=none)(h1:V j2=none):
  D1S i7 j1 j2 j3 nm ps (ss++[v]) is V ((S1.set j2 (.tail 1 (ss.length+1))).set i7 (.cells [.str nm,.slice (cS ps) (.tag j1),.slice (cS ss++[[.str v]]) (.tag j2),.slice (is.map Dz) (.tag j3)])):=by
 have n1:j1≠i7:=Ab h.o1 h.o7 k7;have n2:j2≠i7:=Ab h.o2 h.o7 k7;have n3:j3≠i7:=Ab h.o3 h.o7 k7;refine⟨by rw[w7];simp[cS],k8 n1 (k8 gR h.o1),by rw[w8 _ _ n2,w7,aO];rfl,k8 n3 (k8 (aZ gP) h.o3),fun j o hj=>?_⟩;rw[w8 _ _ (A3 hj h7),w8 _ _ (A3 hj h1)];exact h.hS j o hj
theorem D1S.ini(h:D1S i7 j1 j2 j3 nm ps ss is V S1)(v:aM)(gQ:j1≠j3)(gP:j2≠j3)(h7:V i7=none)(h1:V j3=none):
  D1S i7 j1 j2 j3 nm ps ss (is++[v]) V ((S1.set j3 (.tail 2 (is.length+1))).set i7 (.cells [.str nm,.slice (cS ps) (.tag j1),.slice (cS ss) (.tag j2),.slice (is.map Dz++[Dz v]) (.tag j3)])):=by
 have n1:j1≠i7:=Ab h.o1 h.o7 k7;have n2:j2≠i7:=Ab h.o2 h.o7 k7;have n3:j3≠i7:=Ab h.o3 h.o7 k7;refine⟨by rw[w7];simp,k8 n1 (k8 gQ h.o1),k8 n2 (k8 gP h.o2),by rw[w8 _ _ n3,w7,aO];rfl,fun j o hj=>?_⟩;rw[w8 _ _ (A3 hj h7),w8 _ _ (A3 hj h1)];exact h.hS j o hj
end
structure E1S(i2 i4 ic im:Nat)(cl:List aJ)(ms:List aK)(V S1:Sig):Prop where
 o4:S1 i4=some (.cells [.slice (cl.map kL) (.tag ic),.slice (ms.map BQ) (.tag im),dI 0,dI 0,.str [],.av])
 oc:S1 ic=some (.tail 4 cl.length)
 om:S1 im=some (.tail 13 ms.length)
 o2:S1 i2=some (.cells [.av,.av,dI 0,dI 0,.str [],.av])
 hS:Sub V S1
theorem E1S.cls{i2 i4 ic im:Nat}{cl:List aJ}{V S6 S11:Sig}(h:E1S i2 i4 ic im cl [] V S6)(hS:Sub S6 S11)(hb:V i4=none)(hc:V ic=none)(x:aJ):
  E1S i2 i4 ic im (cl++[x]) [] V ((S11.set ic (.tail 4 (cl.length+1))).set i4 (.cells [.slice (cl.map kL++[kL x]) (.tag ic),.slice [] (.tag im),dI 0,dI 0,.str [],.av])):=by
 have n1:ic≠i4:=Ab h.oc h.o4 k7;have n2:im≠i4:=Ab h.om h.o4 k7;have n3:i2≠i4:=Ab h.o2 h.o4 k7;have n4:im≠ic:=Ab h.om h.oc k7;have n5:i2≠ic:=Ab h.o2 h.oc k7;refine⟨by rw[w7];simp,by rw[w8 _ _ n1,w7,aO];rfl,k8 n2 (k8 n4 (hS _ _ h.om)),k8 n3 (k8 n5 (hS _ _ h.o2)),fun j o hj=>?_⟩;rw[w8 _ _ (A3 hj hb),w8 _ _ (A3 hj hc)];exact hS _ _ (h.hS j o hj)
structure G1S(i2 i4 im:Nat)(cd:D)(ms:List aK)(V S1:Sig):Prop where
 o4:S1 i4=some (.cells [cd,.slice (ms.map BQ) (.tag im),dI 0,dI 0,.str [],.av])
 om:S1 im=some (.tail 13 ms.length)
 o2:S1 i2=some (.cells [.av,.av,dI 0,dI 0,.str [],.av])
 hS:Sub V S1
def cnM(m:aK):aK:=⟨m.kind,m.name,freshN m.params.length,cpF m.params (freshN m.params.length) m.kJ,(anE (freshN 128) m.body m.params (freshN m.params.length) m.params.length).1⟩
def canP(f:aL):aL:=⟨f.ak,f.k9.map cnM,(anE (freshN 128) f.kH [] [] 0).1⟩
theorem Zd(f:aL)(V:Sig)(hw:f.wt<=1000000000)(hp:∀m∈f.k9,m.params.length<=128/\(anE (freshN 128) m.body m.params (freshN m.params.length) m.params.length).2<=128)(hm:(anE (freshN 128) f.kH [] [] 0).2<=128):
  aB prog 40 [.agg (AS f)] V (rS (.agg (AS (canP f))) V):=by
 obtain⟨p1,p2,p3,p4,p5⟩:=f.wt_le;have hL:(freshN 128).length=128:=Ax _
 have iC:∀t,t<(freshN 128).length->refM (t+1) [] []=some ((freshN 128).take (t+1)):=fun t ht=>by
  rw[Om k0,IU k0]
 have k73:∀(n:Nat),n<=128->∀V:Sig,aB prog 73 [.av,dI (n:Int)] V (rS (sl (cS (freshN n))) V):=fun n hn V=>
  aB.wk (RI n [] (freshN n) .no V (by simp;omega) (Om hn)) (AN (An _ (.inl rfl)) (AN (A9 _) Ga))
 have gb:canP f=⟨f.ak,f.k9.map cnM,(anE (freshN 128) f.kH [] [] 0).1⟩:=rfl;rw[gb];refine en func40 ntmps40 ?_;refine gz ?_ o40 [2,3,7,9];refine kR (fun i2 iv=>?_);refine gz ?_ o40 [2,3,7,9];refine kR (fun i4 iX=>?_);refine gz ?_ o40 [2,3,7,9];obtain⟨a1,a2⟩:=A8 iX;refine Bt i4 0 4 (w7 ..) rfl (fun ic iW=>?_);obtain⟨b1,b2⟩:=A8 iW;obtain⟨b3,b4⟩:=A8 b2;refine Bt i4 1 13 (w7 ..) rfl (fun im iV=>?_);obtain⟨c1,c2⟩:=A8 iV;obtain⟨c3,c4⟩:=A8 c2;obtain⟨c5,c6⟩:=A8 c4;obtain⟨c7,c8⟩:=A8 c6;generalize iB:Sig.set (Sig.set _ im _) i4 _=S5
 have iE:E1S i2 i4 ic im (f.ak.take 0) [] V S5:=by
  have a1':=aZ a1;have b1':=aZ b1;have b3':=aZ b3;have c1':=aZ c1;have c3':=aZ c3;have c7':=aZ c7;rw[<-iB];refine⟨by rw[w7];rfl,?_,?_,?_,fun j x hj=>?_⟩
  ·rw[w8 _ _ b1,w8 _ _ c3',w8 _ _ b1];exact w7 ..
  ·rw[w8 _ _ c1];exact w7 ..
  ·rw[w8 _ _ a1',w8 _ _ c7',w8 _ _ a1',w8 _ _ b3',w8 _ _ a1'];exact w7 ..
  ·rw[w8 _ _ (A3 hj a2),w8 _ _ (A3 hj c8),w8 _ _ (A3 hj a2),w8 _ _ (A3 hj b4),w8 _ _ (A3 hj a2),w8 _ _ (A3 hj iv)];exact hj
 clear iB gb;have d8:V i4=none:=a2;have gJ:V ic=none:=b4;have gI:V im=none:=c8;refine AG [1,2,3,5,6,7,8,9,28,29,30,31,32,33,34,35,36,37,38,39,40,41,42,43,44,45,46,47,48,49,50,51,52,53,54,55,56,57,58,59,60,61,62,63,64,65,66,67,68,69,70,71,72] (fun (k:Nat) (S6:Sig)=>k<=f.ak.length/\E1S i2 i4 ic im (f.ak.take k) [] V S6) (fun k _=>[(4,dI k)]) (fun _ S6=>S6) (fun k _=>f.ak.length-k) (0) (S5) (by exact⟨k0,iE⟩) (fun k S6 hI=>?_);obtain⟨hk,hE⟩:=hI
 by_cases d6:k<f.ak.length
 ·have f0:=p4 k d6;have iG:f.ak.take (k+1)=f.ak.take k++[f.ak[k]]:=by rw[bQ d6]
  have iH:(f.ak.take k).length=k:=by rw[ck];omega
  generalize f.ak.take k=CT at*;generalize iY:f.ak[k]=fc at*;have i0:CT.length<=1000000000:=by omega
  clear iH;have o4:=hE.o4;have oc:=hE.oc;have n4c:i4≠ic:=Ab hE.o4 hE.oc k7;have u4:(S6.out fun j=>j=ic) i4=_:=EH o4 n4c;have ga:Sub (S6.out fun j=>j=ic) S6:=C3 _ _
  have gU:Sub (S6.out fun j=>j=ic) (S6.set ic (.tail 4 (CT.length+1))):=fun j o hj=>by
   obtain⟨h1,h2⟩:=Ct hj;rw[w8 _ _ h2];exact h1
  have i72:∀V:Sig,Ans 72 [.agg (kL fc)] V True (.agg (kL fc)):=fun V=>ah0 (Z0 fc V k0);refine gz ?_ (kX 5 o40) [2,3,7,9];refine G0 (id:=5) [0,1,2,3,4,5,6,7,8,9,10] [7,9] (S6.out fun j=>j=ic) ga ?_;refine gf (gi u4 (gi oc (gi o4 iY))) ?_ o40 [2,3,7,9];exact⟨k+1,(S6.set ic (.tail 4 (CT.length+1))).set i4 (.cells [.slice (CT.map kL++[kL fc]) (.tag ic),.slice [] (.tag im),dI 0,dI 0,.str [],.av]),⟨k0,by rw[iG];exact hE.cls (Sub.refl _) d8 gJ _⟩,td1,wkR⟩
 ·obtain rfl:k=f.ak.length:=by omega
  rw[dN]at hE;have o4:=hE.o4;refine gz ?_ o40 [2,3,7,9];refine kO (Ep (az:=[]) (bs:=[.slice [] (.tag im),dI 0,dI 0,.str [],.av]) (d':=sl (f.ak.map kL)) o4 (AO _ _)) ?_;simp only[bG,List.singleton_append];have n1:im≠i4:=Ab hE.om hE.o4 k7;have n2:i2≠i4:=Ab hE.o2 hE.o4 k7;have n3:i2≠im:=Ab hE.o2 hE.om k7;generalize jc:sl (f.ak.map kL)=cd at*;generalize iA:Sig.set S6 i4 _=S7
  have jg:G1S i2 i4 im cd [] V S7:=by
   rw[<-iA];refine⟨w7 .., by rw[w8 _ _ n1];exact hE.om,k8 n2 hE.o2,hE.hS.set d8⟩
  clear iA hE o4 d6 hk iE;refine E2 [1,2,3,9,68,69,70,71,72] (fun (k:Nat) (ms:List aK) (S8:Sig)=>k<=f.k9.length/\ms.length=k/\ms++(f.k9.drop k).map cnM=f.k9.map cnM/\G1S i2 i4 im cd ms V S8) (fun k _ _=>[(5,dI k)]) (fun _ _ S8=>S8) (fun k _ _=>f.k9.length-k) (0) ([]) (S7) (by exact⟨k0,rfl,rfl,jg⟩) (fun k ms S8 hI=>?_);obtain⟨hk,g7,hR,hG⟩:=hI
  by_cases d6:k<f.k9.length
  ·rw[A0 d6,bg]at hR;obtain⟨y1,y2⟩:=hp _ (aR d6);have iO:=p5 k d6;generalize e7:f.k9[k]=m at*;have iP:m.wt=1+m.name.length+wtS m.params+m.kJ.wt+m.body.wt:=rfl;have jn:=Bc m.params;have g8:(freshN m.params.length).length=m.params.length:=Ax _;have iN:∀V:Sig,Ans 73 [.av,dI m.params.length] V True (sl (cS (freshN m.params.length))):=fun V=>ah0 (k73 _ y1 V);have jb:cnM m=⟨m.kind,m.name,freshN m.params.length,cpF m.params (freshN m.params.length) m.kJ,(anE (freshN 128) m.body m.params (freshN m.params.length) m.params.length).1⟩:=rfl;generalize freshN m.params.length=PP at*;refine gf e7 ?_ o40 [2,3,7,9];refine kR (fun i7 go=>?_);refine gf e7 ?_ (kX 12 o40) [2,3,7,9];have n13a:i7≠i4:=aZ (A3 hG.o4 go);have n13b:i7≠im:=aZ (A3 hG.om go);have n4m:i4≠im:=Ab hG.o4 hG.om k7;have s13:V i7=none:=hG.hS.none go;generalize d9:S8.set i7 _=S9;have r13:S9 i7=some (.cells [dI m.params.length]):=by rw[<-d9];exact w7 ..
   have r4:S9 i4=S8 i4:=by rw[<-d9,w8 _ _ (aZ n13a)]
   rw[hG.o4]at r4;have rm:S9 im=S8 im:=by rw[<-d9,w8 _ _ (aZ n13b)]
   rw[hG.om]at rm;have gv:Sub S8 S9:=by rw[<-d9];exact(Sub.refl _).set go
   clear d9;have gO:=RH (P:=freshN 128) k0 iC m.body.wt m.body m.params PP .no .no m.params.length i7 S9 (bn _) k0 g8 (by rw[hL];exact y2) r13;have u4:(S9.out fun j=>j=im\/j=i7) i4=_:=EH r4 (by rintro(h|h);exact n4m h;exact n13a h.symm);refine G0 (id:=12) [0,1,2,3,4,5,6,7,8,9,10,11,13,14,15,16,17,12,18,19,20,21,22] [12,18,21] (S9.out fun j=>j=im\/j=i7) (C3 _ _) ?_;have iF:=YZ m.params PP g8 k0 m.kJ.wt m.kJ .no .no S9 (bn _) k0;have gY:Sub (S9.out fun j=>j=im\/j=i7) S9:=C3 _ _
   repeat' first|refine gf (gi u4 e7) ?_ [] [2,3,7,9]|refine moR (iF) ?_|refine moP (iF) ?_|refine gf (gi u4 e7) ?_ o40 [2,3,7,9]|apply gy<;>intro hh
   refine C6 gO (fun d S5 hx=>?_);obtain⟨gB,rfl⟩:=hx;cases gB;generalize hy:(anE (freshN 128) m.body m.params PP m.params.length).1=y at*;generalize hq:(anE (freshN 128) m.body m.params PP m.params.length).2=q at*
   have iK:Sub (S9.out fun j=>j=im\/j=i7) (S9.set i7 (.cells [dI q])):=fun j z hz=>by
    obtain⟨h1,h2⟩:=Ct hz;rw[w8 _ _ fun e=>h2 (.inr e)];exact h1
   have iJ:Sub (S9.out fun j=>j=im\/j=i7) ((S9.set i7 (.cells [dI q])).set im (.tail 13 (ms.length+1))):=fun j z hz=>by
    obtain⟨h1,h2⟩:=Ct hz;rw[w8 _ _ fun e=>h2 (.inl e),w8 _ _ fun e=>h2 (.inr e)];exact h1
   refine⟨iK,?_⟩;simp only[putD];refine gf (gi rm r4) ?_ o40 [2,3,7,9];generalize gc:Sig.set _ i4 _=qq
   have c1:qq i4=some (.cells [cd,.slice ((ms++[cnM m]).map BQ) (.tag im),dI 0,dI 0,.str [],.av]):=by
    rw[<-gc,w7,jb];simp only[bL,bg,cq,BQ,Cp,Cl,bE,bG]
   have n4:i2≠i7:=A3 hG.o2 go
   have jf:G1S i2 i4 im cd (ms++[cnM m]) V qq:=by
    refine⟨c1,by rw[<-gc,w8 _ _ n1,w7,aO];rfl,by rw[<-gc,w8 _ _ n2,w8 _ _ n3,w8 _ _ n4];exact gv _ _ hG.o2,fun x y hx=>?_⟩;rw[<-gc,w8 _ _ (A3 hx d8),w8 _ _ (A3 hx gI),w8 _ _ (A3 hx s13)];exact gv _ _ (hG.hS _ _ hx)
   clear gc;exact⟨k+1,ms++[cnM m],qq,⟨k0,by rw[aO,g7];rfl,by rw[bc];exact hR,jf⟩,td1,wkR⟩
  ·rw[A1 d6,cq,br]at hR;rw[<-hR];refine gz ?_ o40 [2,3,7,9];refine kR (fun i15 fY=>?_);have n15a:i15≠i4:=aZ (A3 hG.o4 fY);have n15b:i2≠i15:=A3 hG.o2 fY;have s15:V i15=none:=hG.hS.none fY;refine gz ?_ o40 [2,3,7,9];generalize d9:S8.set i15 (.cells [dI 0])=S9;have r15:S9 i15=some (.cells [dI (0:Nat)]):=by rw[<-d9];exact w7 ..
   have r4:S9 i4=S8 i4:=by rw[<-d9,w8 _ _ (aZ n15a)]
   rw[hG.o4]at r4;have r2:S9 i2=S8 i2:=by rw[<-d9,w8 _ _ n15b]
   rw[hG.o2]at r2;have gv:Sub V S9:=by rw[<-d9];exact hG.hS.set s15
   clear d9;have gO:=RH (P:=freshN 128) k0 iC f.kH.wt f.kH [] [] .no .no 0 i15 S9 (bn _) (by simp;omega) rfl (by rw[hL];exact hm) r15;refine Ad (aB.wk (args:=[.agg (Af f.kH),.av,.av,.ptr i15 0]) gO (AN (A9 _) (AN (An _ (.inl rfl)) (AN (An _ (.inl rfl)) (AN (A9 _) Ga))))) (fun d U' hr=>?_);obtain⟨gB,rfl⟩:=hr;cases gB;generalize (anE (freshN 128) f.kH [] [] 0).2=q at*;have t4:(S9.set i15 (.cells [dI q])) i4=some (.cells [cd,.slice (ms.map BQ) (.tag im),dI 0,dI 0,.str [],.av]):=by rw[w8 _ _ (aZ n15a)];exact r4
   have t2:(S9.set i15 (.cells [dI q])) i2=some (.cells [.av,.av,dI 0,dI 0,.str [],.av]):=by rw[w8 _ _ n15b];exact r2
   have tS:Sub V (S9.set i15 (.cells [dI q])):=gv.set s15;generalize S9.set i15 (.cells [dI q])=S10 at*;refine Cd (Ep (az:=[cd]) (bs:=[dI 0,dI 0,.str [],.av]) (d':=sl (ms.map BQ)) t4 (AO _ _)) ?_;simp only[bE,bG];have e4:(S10.set i4 (.cells [cd,sl (ms.map BQ),dI 0,dI 0,.str [],.av])) i4=some (.cells [cd,sl (ms.map BQ),dI 0,dI 0,.str [],.av]):=w7 ..;have e2:(S10.set i4 (.cells [cd,sl (ms.map BQ),dI 0,dI 0,.str [],.av])) i2=some (.cells [.av,.av,dI 0,dI 0,.str [],.av]):=by rw[w8 _ _ n2];exact t2
   have eS:Sub V (S10.set i4 (.cells [cd,sl (ms.map BQ),dI 0,dI 0,.str [],.av])):=tS.set d8;generalize S10.set i4 (.cells [cd,sl (ms.map BQ),dI 0,dI 0,.str [],.av])=S11 at*;generalize (anE (freshN 128) f.kH [] [] 0).1=me at*;refine gf (gi e4 e2) ?_ o40 [2,3,7,9];refine rtl 72 (.agg [cd,sl (ms.map BQ),dI me.op,dI me.n,.str me.text,sl (me.aq.map Af)]) ?_ (hw:=B9 (by rw[<-Cl me];rfl));have f2:(S11.set i4 (.cells [cd,sl (ms.map BQ),dI me.op,dI me.n,.str me.text,sl (me.aq.map Af)])) i2=some (.cells [.av,.av,dI 0,dI 0,.str [],.av]):=by rw[w8 _ _ n2];exact e2
   have fS:Sub V (S11.set i4 (.cells [cd,sl (ms.map BQ),dI me.op,dI me.n,.str me.text,sl (me.aq.map Af)])):=eS.set d8;generalize S11.set i4 (.cells [cd,sl (ms.map BQ),dI me.op,dI me.n,.str me.text,sl (me.aq.map Af)])=S12 at*;subst jc;refine gf f2 ?_ o40 [2,3,7,9];exact lI (U':=V) ⟨rfl,rfl⟩ (hZ:=fS.set iv) (hw:=B9 (by simp[Cl me]))
def renI:Ren:=⟨fun s=>s,fun s=>s,fun s=>s⟩
theorem Qb(t:Str): ∀(old now:fP) (d:Str),t∉old->subN t old now d=d
 |[],[],_,_=>rfl
 |[],_::_,_,_=>rfl
 |_::_,[],_,_=>rfl
 |o::os,n::ns,d,h=>by
  rw[be,dX]at h;rw[subN,aQ fun e=>h.1 e.symm,Qb t os ns d h.2]
theorem Qc(t:Str): ∀(old now:fP) (k:Nat) (n:Int) (d:Str),now.length=old.length->t∈old->∃j:Nat, ∃h:j<now.length,D6 t old k n=((k+j:Nat):Int)/\subN t old now d=now[j]
 |[],_,_,_,_,_,h=>by cases h
 |_::_,[],_,_,_,hl,_=>by simp at hl
 | o::os,x::ns,k,n,d,hl,h=>by
  have iU:ns.length=os.length:=by simpa using hl
  rw[D6,subN]
  by_cases hr:t∈os
  ·obtain⟨j,h1,h2,h3⟩:=Qc t os ns (k+1) (if o=t then k else n) (if o=t then x else d) iU hr;exact⟨j+1,by rw[aV];omega,by rw[h2];omega,by rw[dB];exact h3⟩
  ·have ho:o=t:=((be.1 h).resolve_right hr).symm;exact⟨0,k7,by rw[Nk t os _ _ hr,aS ho];omega,by rw[Qb t os ns _ hr,aS ho];rfl⟩
theorem Yo{d o n:Int}{t:Str}{l:List aH}(h:CO d (.mk o n t l)=true):t≠[]->Ak t=true:=fun ht=>by
 have h:(decide (d<=12)&&((hasM o kP&&decide ((getM (⟨false,0,0⟩:Sh) o kP).lo<=l.length)&&decide (l.length<=(getM (⟨false,0,0⟩:Sh) o kP).hi)&&((getM (⟨false,0,0⟩:Sh) o kP).named == !decide (t=[]))) &&
  ((!(getM (⟨false,0,0⟩:Sh) o kP).named||Ak t)&&(decide (n=0)||(decide (o=1)&&inB n)))))=true:=h
 simp only[aN]at h;obtain⟨_,⟨_,h5⟩,h6,_⟩:=h;cases hm:(getM (⟨false,0,0⟩:Sh) o kP).named with
 |true=>rw[hm]at h6;simpa using h6
 |false=>rw[hm]at h5;simp[ht]at h5
section
variable {P:fP}(hP:P.Nodup)(gN:∀s∈P,Ak s=true)
include hP gN
mutual
theorem ZB: ∀(e:aH) (d:Int) (b c now:fP) (x:Nat),allD CO e d=true->(∀y∈kY e c,y∈b)->(∀y∈c,y∈b)->now.Nodup->now.length=b.length->(∀y∈now,y∈P.take x)->x+e.cnt<=P.length->
  AlE renI e (anE P e b now x).1 b now/\(anE P e b now x).2<=x+e.cnt
 | .mk o n t l,d,b,c,now,x,h1,h4,h5,h7,h8,h9,gx=>by
  rw[allD,aN]at h1;have hN:=Rl h1.1;have gg:=Yo h1.1;have fZ:(aH.mk o n t l).cnt=(As l).length+1:=by unfold aH.cnt;rw[allE,aV]
  rw[fZ]at gx⊢;rw[anE]
  by_cases c3:o=3
  ·have hb:=Qt h4 h5 c3
   have hl:l=[]:=by
    rcases hN.aq with h|h
    ·omega
    ·rw[c3]at h;simp[H9]at h;exact bH.1 k0
   obtain⟨j,j1,j2,j3⟩:=Qc t b now 0 n t h8 hb;have gh:subN t b now t∈now:=by rw[j3];exact aR _
   have hv:Ak (subN t b now t)=true:=gN _ (List.mem_of_mem_take (h9 _ gh));rw[aS c3];refine⟨?_,by simp only;omega⟩;rw[AlE];refine⟨⟨rfl,rfl,?_,fun _=>hv⟩,⟨fun _=>⟨hb,gh,?_⟩,fun h=>by omega,fun h=>by omega,fun h=>by omega⟩,?_⟩
   ·rw[hN.text];exact⟨fun e=>absurd e (Eb hv),fun h=>absurd k0 h⟩
   ·show D6 (subN t b now t) now 0 n=_;rw[j3,Nm now j 0 n j1 h7,j2]
   ·rw[hl,AlEs];rfl
  ·rw [aQ c3];have iS:=Qu hN h4
   have ij:o=9->0<l.length:=fun h=>by
    rcases hN.aq with k|k
    ·omega
    ·rw[h]at k;simp[H9]at k;omega
   obtain⟨tx,f8⟩:∃tx:Str,tx=if o=9/\0<l.length then ixS P x else t:=⟨_,rfl⟩
   rw[<-f8]
   have g9:o=9->tx∉now/\tx∈P.take (x+1)/\Ak tx=true:=fun e9=>by
    have hl:x<P.length:=by omega
    rw[aS ⟨e9,ij e9⟩,I8 hl]at f8;obtain⟨q1,q2⟩:=R0 hP hl;rw[f8];exact⟨fun hm=>q1 (h9 _ hm),q2,gN _ (aR hl)⟩
   have gn:o≠9->tx=t:=fun e9=>by rw[aQ fun h=>e9 h.1]at f8;exact f8
   obtain⟨r1,r2⟩:=XP o t tx l 0 (d+1) b c now (if o=9/\0<l.length then x+1 else x) h1.2 iS h5 h7 h8 (fun y hy=>CZ (by split<;>omega) (h9 y hy)) (by split<;>omega) (fun e9=>by rw[aS ⟨e9,ij e9⟩];exact⟨(g9 e9).1,(g9 e9).2.1⟩);refine⟨?_,?_⟩
   ·rw[AlE];refine⟨⟨rfl,rfl,?_,fun hne=>?_⟩,⟨fun h=>absurd h c3,fun h=>gn k0,fun h=>gn k0,fun h=>gn k0⟩,r1⟩
    ·show tx=[] ↔ t=[]
     by_cases e9:o=9
     ·rw[hN.text];exact⟨fun e=>absurd e (Eb (g9 e9).2.2),fun h=>absurd k0 h⟩
     ·rw[gn e9]
    ·show Ak tx=true
     by_cases e9:o=9
     ·exact(g9 e9).2.2
     ·rw[gn e9];exact gg (by rw[<-gn e9];exact hne)
   ·simp only;have:(if o=9/\0<l.length then x+1 else x)<=x+1:=by split<;>omega
    omega
theorem XP(o:Int)(t tx:Str): ∀(l:List aH) (i:Nat) (d:Int) (b c now:fP) (x:Nat),Eh CO l d=true->(∀y∈looseEs o t l i c,y∈b)->(∀y∈c,y∈b)->now.Nodup->now.length=b.length->(∀y∈now,y∈P.take x)->x+(As l).length<=P.length->(o=9->tx∉now/\tx∈P.take x)->
  AlEs renI o t tx l (anEs P o t tx b now l i x).1 i b now/\(anEs P o t tx b now l i x).2<=x+(As l).length
 |[],i,d,b,c,now,x,h1,h4,h5,h7,h8,h9,gx,gw=>by rw[anEs,AlEs,As];exact⟨rfl,bn _⟩
 | y::r,i,d,b,c,now,x,h1,h4,h5,h7,h8,h9,gx,gw=>by
  rw[Eh,aN]at h1;rw[looseEs]at h4;rw[As,aO]at gx⊢;have ji:y.cnt=(allE y).length:=rfl;rw[anEs]
  by_cases cc:o=9/\i=1
  ·rw[aS cc]at h4⊢;obtain⟨w1,w2⟩:=gw cc.1
   obtain⟨r1,r2⟩:=ZB y d (b++[t]) (ins t c) (now++[tx]) x h1.1 (fun z hz=>bu _ (h4 z (bu _ hz)))
    (fun z hz=>by
     rcases Et.1 hz with rfl|hz
     ·simp
     ·exact bu _ (h5 z hz))
    (by rw[dk];exact⟨h7,k7,fun z hz w hw=>by rw[bq]at hw;rw[hw];exact fun e=>w1 (e ▸ hz)⟩)
    (by simp [h8]) (fun z hz=>by
     rcases bi.1 hz with hz|hz
     ·exact h9 z hz
     ·rw[bq]at hz;rw[hz];exact w2) k0
   have gk:=SI P y (b++[t]) (now++[tx]) x;obtain⟨r3,r4⟩:=XP o t tx r (i+1) d b c now (anE P y (b++[t]) (now++[tx]) x).2 h1.2 (fun z hz=>h4 z (cC _ hz)) h5 h7 h8 (fun z hz=>CZ gk (h9 z hz)) k0 (fun e9=>⟨w1,CZ gk w2⟩);rw[AlEs];refine⟨⟨_,_,rfl,?_,r3⟩,by simp only;omega⟩;rw[aS cc];exact r1
  ·rw[aQ cc]at h4⊢;obtain⟨r1,r2⟩:=ZB y d b c now x h1.1 (fun z hz=>h4 z (bu _ hz)) h5 h7 h8 h9 k0;have gk:=SI P y b now x;obtain⟨r3,r4⟩:=XP o t tx r (i+1) d b c now (anE P y b now x).2 h1.2 (fun z hz=>h4 z (cC _ hz)) h5 h7 h8 (fun z hz=>CZ gk (h9 z hz)) k0 (fun e9=>⟨(gw e9).1,CZ gk (gw e9).2⟩);rw[AlEs];refine⟨⟨_,_,rfl,?_,r3⟩,by simp only;omega⟩;rw[aQ cc];exact r1
end
end
theorem cp_re {p S C now:fP} (h0:[] ∉ p) : ∀ (n:Nat) (x:aI) (d:Int),x.wt<=n->CX (lN p S C) x d=true->cpF p now x=reF renI.c renI.s (fun s=>ixS now (idxG s p 0)) x
 |0,x,_,hx,_=>by have:=x.wt_pos;omega
 | n+1, .mk o s q c n' k,d,hw,hx=>by
  have gC:(aI.mk o s q c n' k).wt=1+s.length+wtS q+c.length+wtL aI.wt k:=aI.wt_eq _;rw[CX,aN]at hx;obtain⟨h1,h2⟩:=hx;unfold lN fctB fctC at h1;simp only[aN]at h1;obtain⟨_,_,⟨⟨⟨_,q1⟩,_⟩,⟨q2,q3⟩,_⟩,q4⟩:=h1;have q1:(if Al o=true then decide (s∈p) else(decide (s=[])&&decide (q=[])))=true:=q1;have q2:(decide (o=2) == !decide (c=[]))=true:=q2
  have hk:∀(l:List aI),wtL aI.wt l<=n->Bi (lN p S C) l (d+1)=true->cpFs p now l=reFs renI.c renI.s (fun s=>ixS now (idxG s p 0)) l:=fun l=>by
   induction l with
   |nil=>intro _ _;rw[cpFs,reFs]
   |cons y r ih2=>
    intro hl hy;rw[wtL]at hl;rw[Bi,aN]at hy;rw[cpFs,reFs,cp_re h0 n y (d+1) k0 hy.1,ih2 k0 hy.2]
  rw[cpF,reF,hk k k0 h2]
  congr 1
  ·by_cases hn:Al o=true
   ·rw[aS hn]at q1⊢;obtain⟨j,_,_,j3⟩:=DJ p 0 (bx q1);rw[aS k0]
   ·rw [aQ hn] at q1 ⊢;simp only[aN,aP]at q1
    have:idxG s p 0 = -1:=by
     rcases idxG_lt s p 0 with h|h
     ·exact h
     ·exfalso
      have hm:∀(l:fP) (k:Nat),s∉l->idxG s l k = -1:=fun l=>by
       induction l with
       |nil=>intro k _;rfl
       |cons z r ih=>
        intro k hz;rw[be,dX]at hz;rw[idxG,aQ fun e=>hz.1 e.symm,ih _ hz.2]
      have:=hm p 0 (by rw[q1.1];exact h0);omega
    rw[aQ k0,q1.1]
  ·exact(List.map_id _).symm
  ·by_cases h2:o=2
   ·rw[aS h2];rfl
   ·rw[aQ h2];simpa[h2] using q2
theorem an_left{f:aL}(hf:Cg f=true):(∀m∈f.k9,m.params.length<=128/\(anE (freshN 128) m.body m.params (freshN m.params.length) m.params.length).2<=128)/\(anE (freshN 128) f.kH [] [] 0).2<=128/\AlP renI f (canP f):=by
 have hF:=Fe hf;have hB:=MG hf;obtain⟨g1,g2,g3⟩:=BY f;have hL:(freshN 128).length=128:=Ax _;obtain⟨f1,f2⟩:=FG (n:=128) (bn _);have hN:(A6 f).kC.length=(Bf (kD f) (kB f) (kG f) f.k9 0).length+f.kH.cnt:=by show(_++_:List aG).length=_;rw[aO,BR]
 have jr:=H3 (kD f) (kB f) (kG f) f.k9 0;have iM:=hB.kC;have gj:=ZB f1 f2 f.kH 1 [] [] [] 0 ((C8 f.kH 1 120 k0).1.1 hF.mainC).1 (F0 hF.mainS) k7 List.nodup_nil rfl k7 k0
 have fX:∀m∈f.k9,m.params.length<=3/\AlM renI m (cnM m)/\(anE (freshN 128) m.body m.params (freshN m.params.length) m.params.length).2<=128:=fun m e7=>by
  obtain⟨m1,⟨b,hb,m2⟩,m3,t0,m4⟩:=hF.met m e7
  have e8:m.params.length<=3/\CR m.params=true/\Ak m.name=true:=by
   unfold C4 at m1;simp only[aN,aP]at m1;exact⟨m1.2.2.2.1,m1.2.2.2.2,m1.2.1⟩
  obtain⟨p1,p2⟩:=(BD _).1 e8.2.1;have je:[]∉m.params:=fun hx=>by have:=p1 _ hx;rw[DR]at this;cases this
  obtain⟨n1,n2⟩:=FG (n:=m.params.length) k0;have gZ:(freshN m.params.length).length=m.params.length:=Ax _;have iR:m.body.cnt<=wtL (fun m:aK=>m.body.cnt) f.k9:=wtL_mem (fun m:aK=>m.body.cnt) e7;have iI:∀y∈freshN m.params.length,y∈(freshN 128).take m.params.length:=fun y hy=>by rw[IU k0];exact hy
  have hE:=ZB f1 f2 m.body 1 m.params [] (freshN m.params.length) m.params.length ((C8 m.body 1 120 k0).1.1 m3).1 (F0 m4) k7 n1 gZ iI k0;have jd:=((DN m.kJ 1 b hb).1.1 m2).1;refine⟨e8.1,⟨rfl,rfl,e8.2.2,gZ,(BD _).2 ⟨n2,n1⟩,⟨_,cp_re je _ m.kJ 1 (bn _) jd,fun s hs=>?_⟩,hE.1⟩,k0⟩;obtain⟨i,i1,_,i3⟩:=DJ m.params 0 hs
  show ixS (freshN m.params.length) _∈freshN m.params.length/\idxG (ixS (freshN m.params.length) _) (freshN m.params.length) 0=_;rw[i3,bZ,I8 k0];exact⟨aR _,IT n1 k0⟩
 refine⟨fun m hm=>⟨by have:=(fX m hm).1;omega,(fX m hm).2.2⟩,k0,⟨?_,fun _ _ _ _ h=>h,fun x hx=>hF.ownB x hx,fun _ _=>rfl,fun _ _ _ _ h=>h,fun x hx=>hF.sloB x hx,fun _ _ _ _ h=>h,?_,gj.1⟩⟩
 ·show f.ak=f.ak.map (reC renI)
  have:(fun c=>reC renI c)=fun c:aJ=>c:=funext fun c=>by
   unfold reC renI;simp
  exact((bF fun c _=>congrFun this c).trans (List.map_id _)).symm
 ·have:∀l:List aK,(∀m∈l,m∈f.k9)->ld renI l (l.map cnM):=fun l=>by
   induction l with
   |nil=>intro _;rw[ld];rfl
   |cons m r ih=>
    intro h;rw[ld];exact⟨_,_,rfl,(fX m (h m k7)).2.1,ih fun x hx=>h x (by simp[hx])⟩
  exact this f.k9 fun m hm=>hm
mutual
theorem Ny: ∀x:aI,fCnt x<=x.wt
 |.mk o s p c n k=>by
  have hw:(aI.mk o s p c n k).wt=1+s.length+wtS p+c.length+wtL aI.wt k:=aI.wt_eq _;have:=RG k;rw[fCnt];omega
theorem RG: ∀l:List aI,EV l<=wtL aI.wt l
 |[]=>by rw[EV,wtL];omega
 |x::r=>by
  have h1:=Ny x;have h2:=RG r;rw[EV,wtL];omega
end
theorem fCnt_eq(x:aI):fCnt x=EV x.aq+1:=by cases x;rw[fCnt];rfl
theorem YY: ∀(n:Nat) (x:aI) (V:Sig),x.wt<=n->n<=1073741824->aB prog 77 [.agg (AE x)] V (rS (dI (fCnt x)) V):=by
 intro n
 induction n with
 |zero=>
  intro x V hx;have:=x.wt_pos;omega
 | succ n ih =>
  intro x V hx hw;obtain⟨w1,w2,w3,w4,w5⟩:=x.wt_le;have hc:=Ny x;rw[fCnt_eq]at hc⊢;refine en func77 ntmps77 ?_;refine gz ?_;refine AG [1,2,20] (fun (k:Nat) (m:Nat)=>k<=x.aq.length/\m+EV (x.aq.drop k)=EV x.aq+1) (fun k m=>[(4,dI k),(3,dI m)]) (fun _ _=>V) (fun k _=>x.aq.length-k) (0) (1) (by exact⟨k0,by rw[dE];omega⟩) (fun k m hI=>?_);obtain⟨hk,hR⟩:=hI
  by_cases d6:k<x.aq.length
  ·rw[A0 d6,EV]at hR;have jm:=w5 k d6
   repeat' first|refine gz ?_|refine Au (ih x.aq[k] V k0 k0) ?_|refine callP (ih x.aq[k] V k0 k0) ?_|refine gz ?_|apply gy<;>intro hh
   exact⟨k+1,m+fCnt x.aq[k],⟨k0,k0⟩,td1,wkR⟩
  ·rw[A1 d6,EV]at hR;refine gz ?_;exact kE (U':=V) ⟨by rw[<-hR],rfl⟩
def ndP(f:aL):Nat:=f.ak.length+f.kH.cnt+wtL (fun m:aK=>fCnt m.kJ+m.body.cnt) f.k9
theorem RN(f:aL)(V:Sig)(hw:f.wt<=100000000):aB prog 41 [.agg (AS f)] V (rS (.tup [dI (if Cg f=true then(ndP f:Int) else 0),dI (if Cg f=true then 0 else 2)]) V):=by
 obtain⟨p1,p2,p3,p4,p5⟩:=f.wt_le;have f0:∀e:aH,e.cnt<=e.wt:=fun e=>Eg e;have i76:∀(e:aH),e.wt<=1073741824->∀V:Sig,aB prog 76 [.agg (Af e)] V (rS (sl ((allE e).map Af)) V):=fun e he V=>If e.wt e V (bn _) he
 have gE:∀l:List aK,wtL (fun m:aK=>fCnt m.kJ+m.body.cnt) l<=wtL aK.wt l:=fun l=>by
  induction l with
  |nil=>rw[wtL,wtL];omega
  |cons m r ih=>
   have h1:=Ny m.kJ;have h2:=f0 m.body;have iP:m.wt=1+m.name.length+wtS m.params+m.kJ.wt+m.body.wt:=rfl;rw[wtL,wtL];omega
 have hs:=gE f.k9;have jp:f.wt=1+wtL aJ.wt f.ak+wtL aK.wt f.k9+f.kH.wt:=rfl;have iR:=f0 f.kH;have g7:((allE f.kH).map Af).length=f.kH.cnt:=by rw[aY];rfl
 cases hh:Cg f with
 |false=>
  refine en func41 ntmps41 ?_;have i52:∀V:Sig,Ans 52 [.agg (AS f)] V True (.bool (Cg f)):=fun V=>ah0 (P6 f V hw);refine gf hh ?_ o41;exact fin2 (U':=V) ⟨rfl,rfl⟩
 | true =>
  refine en func41 ntmps41 ?_;have i52:∀V:Sig,Ans 52 [.agg (AS f)] V True (.bool (Cg f)):=fun V=>ah0 (P6 f V hw);have j76:∀V:Sig,Ans 76 [.agg (Af f.kH)] V True (sl ((allE f.kH).map Af)):=fun V=>ah0 (i76 f.kH k0 V);have iQ:(allE f.kH).length<=100000000:=by show f.kH.cnt<=_;omega
  rw[aS rfl,aS rfl];have gF:ndP f=f.ak.length+(allE f.kH).length+wtL (fun m:aK=>fCnt m.kJ+m.body.cnt) f.k9:=rfl;generalize ndP f=nd at*;refine gf hh ?_ o41;refine AG [1,2,3,42] (fun (k:Nat) (m:Nat)=>k<=f.k9.length/\m+wtL (fun m:aK=>fCnt m.kJ+m.body.cnt) (f.k9.drop k)=nd) (fun k m=>[(4,dI m),(5,dI k)]) (fun _ _=>V) (fun k _=>f.k9.length-k) (0) (f.ak.length+(allE f.kH).length) (by exact⟨k0,by rw[dE];omega⟩) (fun k m hI=>?_);obtain⟨hk,hR⟩:=hI
  by_cases d6:k<f.k9.length
  ·rw[A0 d6,wtL]at hR;have iO:=p5 k d6;generalize e7:f.k9[k]=x at*;have jh:x.wt=1+x.name.length+wtS x.params+x.kJ.wt+x.body.wt:=rfl;have jl:=Ny x.kJ;have jk:(allE x.body).length<=x.body.wt:=f0 x.body;have hR:m+(fCnt x.kJ+(allE x.body).length+wtL (fun m:aK=>fCnt m.kJ+m.body.cnt) (f.k9.drop (k+1)))=nd:=hR;have k76:∀V:Sig,Ans 76 [.agg (Af x.body)] V True (sl ((allE x.body).map Af)):=fun V=>ah0 (i76 x.body k0 V);have k77:∀V:Sig,Ans 77 [.agg (AE x.kJ)] V True (dI (fCnt x.kJ)):=fun V=>ah0 (YY x.kJ.wt x.kJ V (bn _) k0);refine gf e7 ?_ o41;exact⟨k+1,m+fCnt x.kJ+(allE x.body).length,⟨k0,k0⟩,td1,wkR⟩
  ·rw[A1 d6,wtL]at hR;refine gz ?_ o41;exact fin2 (U':=V) ⟨by rw[<-hR],rfl⟩
mutual
theorem MH(cm sm:List (Str×Int))(env:Str->Int)(a b P:fP): ∀f:kA,(bndF cm sm env (spF a b P f)).size=f.size
 |.mk o g p c n k=>by rw[spF,bndF,kA.size,kA.size,L5 cm sm env a b P k]
theorem L5(cm sm:List (Str×Int))(env:Str->Int)(a b P:fP): ∀l:List kA,kA.sizes (GE cm sm env (spFs a b P l))=kA.sizes l
 |[]=>by rw[spFs,GE]
 |x::r=>by rw[spFs,GE,kA.sizes,kA.sizes,MH cm sm env a b P x,L5 cm sm env a b P r]
end
theorem Yl{p:aD}(h:okP p=true): ∀m∈p.k9,Do p m=true/\okE p 12 m.node (Ci p m):=by
 unfold okP Dk at h;split at h
 ·rename_i hc;simp only[aN,aP,bh]at hc;cases hm:D5 p p.k9 (List.replicate p.kC.length (-1))with
  |none=>rw[hm]at h;simp at h
  |some s=>
   obtain⟨k1,_⟩:=I5 p p.k9 _ s hm k7 (fun g hx=>(hc.2 g hx).1);exact fun m hx=>⟨(k1 m hx).1,(k1 m hx).2.1⟩
 ·simp at h
theorem Ym{p:aD}(h:okP p=true){m:aF}(hm:m∈p.k9):IK (AH p) m.kJ=true/\m.kJ.size<=24:=by
 have h1:=(Yl h m hm).1;unfold Do at h1;simp only[aN]at h1;have h2:=h1.1.2;unfold CW at h2;cases hf:DH (AH p) 12 m.kJ 24 with
 | mk b t =>
  rw[hf]at h2;cases b with
  |false=>cases h2
  |true=>
   obtain⟨_,b2,_,b4⟩:=(F5 (AH p) 12 m.kJ 24 t k0 k0).1 hf;exact⟨b4,k0⟩
theorem PU(cm sm gm:List (Str×Int)): ∀(l:List aK) (k:Nat), ∀x∈bndMM cm sm gm l k, ∃m∈l,x.kJ=bndF cm sm (EB m) m.kJ
 |[],_,x,hx=>by simp[bndMM]at hx
 | m::r,k,x,hx=>by
  rw[bndMM]at hx;rcases be.1 hx with rfl|hx
  ·exact⟨m,k7,rfl⟩
  ·obtain⟨y,h1,h2⟩:=PU cm sm gm r _ x hx;exact⟨y,by simp[h1],h2⟩
theorem J9(p:aD): ∀(l:List aE) (i:Nat),AK p i l=true->∀k,i<=k->k<i+l.length->linE (p.ak.map (·.ap)) ((k:Int)+3)=0
 |[],i,_,k,h1,h2=>by simp at h2;omega
 |c::r,i,h,k,h1,h2=>by
  rw[AK]at h;simp only[aN,aP]at h
  by_cases e:k=i
  ·rw[e];exact h.1.1
  ·exact J9 p r (i+1) h.2 k k0 (by simp at h2;omega)
theorem Ta{p:aD}(h:okP p=true)(hs:(Bn (Ay p)).isSome=true):DZ (Ay p)=0:=by
 obtain⟨N,_,_,_,hi⟩:=Hf (FA h);unfold DZ;rw[aS hs,T9 h hs,aS,aS]
 ·rw[bh];intro x hx;rw[aP];obtain⟨m',h1,h2⟩:=PU _ _ _ _ _ x hx;obtain⟨m,h3,rfl⟩:=bD.1 h1;rw[h2];have:=(Ym h h3).2;have e:(bndF (AZ (Ay p)) (Bd (Ay p)) (EB (spM p m)) (spM p m).kJ).size=m.kJ.size:=MH _ _ _ _ _ _ _;omega
 ·refine OG _ 0 fun k h1 h2=>J9 p p.ak 0 hi k h1 ?_;rw[aY]at h2;omega
mutual
theorem NS(A S G:fP): ∀(e:aH) (b:fP) (k:Nat),wtL aG.wt (CB A S G e b k)+1=2*e.cnt
 |.mk o n t l,b,k=>by
  have h:=PZ A S G o t l 0 b (k+1);have fZ:(aH.mk o n t l).cnt=(As l).length+1:=by unfold aH.cnt;rw[allE,aV]
  rw[CB,wtL,fZ];simp only[aG.wt,Fv];omega
theorem PZ(A S G:fP)(o:Int)(t:Str): ∀(l:List aH) (i:Nat) (b:fP) (k:Nat),wtL aG.wt (Ce A S G o t l i b k)+l.length=2*(As l).length
 |[],_,_,_=>by rw[Ce,wtL,As];rfl
 |x::r,i,b,k=>by
  have h2:=PZ A S G o t r (i+1) b (k+x.cnt);have hx:x.cnt=(allE x).length:=rfl;have h1:wtL aG.wt (if o=9/\i=1 then CB A S G x (b++[t]) k else CB A S G x b k)+1=2*x.cnt:=by split<;>exact NS A S G x _ k
  rw[Ce,EN,As,aO,aV];omega
end
theorem Sw(A S G:fP): ∀(l:List aK) (k:Nat),wtL aG.wt (Bf A S G l k)<=2*(Bf A S G l k).length
 |[],_=>by rw[Bf,wtL];omega
 |m::r,k=>by
  have h1:=NS A S G m.body m.params k;have h2:=Sw A S G r (k+m.body.cnt);have h3:=BR (names:=A) (am:=S) (au:=G) m.body m.params k;rw[Bf,EN,aO];omega
theorem Sy{P S C A D':fP}: ∀(n:Nat) (x:aI) (d:Int),x.wt<=n->CX (lN P S C) x d=true->(E4 A D' P x).wt<=3*(E4 A D' P x).size
 |0,x,_,hx,_=>by have:=x.wt_pos;omega
 | n+1, .mk o s q c n' k,d,hw,hx=>by
  have gC:(aI.mk o s q c n' k).wt=1+s.length+wtS q+c.length+wtL aI.wt k:=aI.wt_eq _;rw[CX,aN]at hx;obtain⟨h1,h2⟩:=hx;unfold lN fctB fctC at h1;simp only[aN,aP]at h1;have q0:q.length<=2:=h1.2.2.1.1.2
  have hk:∀(l:List aI),wtL aI.wt l<=n->Bi (lN P S C) l (d+1)=true->wtL kA.wt (C2 A D' P l)<=3*kA.sizes (C2 A D' P l):=fun l=>by
   induction l with
   |nil=>intro _ _;rw[C2,wtL,kA.sizes];omega
   |cons y r ih2=>
    intro hl hy;rw[wtL]at hl;rw[Bi,aN]at hy;have h3:=Sy (A:=A) (D':=D') n y (d+1) k0 hy.1;have h4:=ih2 k0 hy.2;rw[C2,wtL,kA.sizes];omega
  have:=hk k k0 h2;rw[E4,kA.wt_eq,kA.size];simp only[kA.path,kA.aq,aY];omega
theorem LX{mine:fP}: ∀(l:List aM) (seen:fP),iniR mine seen l=true->(l.map (·.slot)).Nodup /\ ∀x∈l.map (·.slot),x∉seen/\x∈mine
 |[],_,_=>⟨List.nodup_nil,fun x hx=>by cases hx⟩
 |y::r,seen,h=>by
  rw[iniR]at h;simp only[aN,aP,bA,bk]at h;obtain⟨⟨h1,h2,_⟩,h4⟩:=h;obtain⟨i1,i2⟩:=LX r _ h4;rw[bg,cE];refine⟨⟨fun hm=>(i2 _ hm).1 k7,i1⟩,fun x hx=>?_⟩;rcases be.1 hx with rfl|hx
  ·exact⟨h2,h1⟩
  ·exact⟨fun hm=>(i2 x hx).1 (bu _ hm),(i2 x hx).2⟩
theorem OO{f:aL}: ∀(l:List aJ) (i:Nat),inisR f i l=true->∀c∈l,c.ar.length<=(kB f).length
 |[],_,_,c,hc=>by cases hc
 | y::r,i,h,c,hc=>by
  rw[inisR,aN]at h;rcases be.1 hc with rfl|hc
  ·obtain⟨h1,h2⟩:=LX _ _ h.1
   have:=Ri _ (kB f) h1 fun x hx=>by
    obtain⟨j,hj,_,g⟩:=(Fa _ _).1 (h2 x hx).2;exact dw.2 ⟨_,aR hj,g⟩
   rw[aY]at this;exact this
  ·exact OO r (i+1) h.2 c hc
theorem XF{f:aL}(hf:Cg f=true)(gD:(A6 f).k9.all (fun m=>decide (m.kJ.size<=24))=true):(A6 f).wt<=10000:=by
 have hF:=Fe hf;have hB:=MG hf
 have hr:BH [] f.ak=true/\inisR f 0 f.ak=true:=by
  have gu:=hf;unfold Cg Ib D9 at gu;simp only[aN]at gu;exact⟨gu.1.2.1.2.1,gu.1.2.2.1⟩
 have hc : ∀ (l:List aJ) (k:Nat),(∀ c ∈ l,c ∈ f.ak)->wtL aE.wt (CS f l k)<=84*l.length:=fun l=>by
  induction l with
  |nil=>intro k _;rw[CS,wtL];omega
  | cons c r ih =>
   intro k hl;have gL:=hl c k7;have h1:=(Hz _ _ hr.1 c gL).1;have h2:=OO _ _ hr.2 c gL
   have h3:c.am.length<=(kB f).length:=by
    have:∀l:List aJ,c∈l->c.am.length<=(l.flatMap (·.am)).length:=fun l=>by
     induction l with
     |nil=>intro h;cases h
     |cons y s ih=>
      intro h;rw[cx,aO];rcases be.1 h with rfl|h
      ·omega
      ·have:=ih h;omega
    exact this _ gL
   have h4:=ih (k+c.am.length) fun x hx=>hl x (by simp[hx])
   have h5:=hB.slo;have hw:(QI f c k).wt=1+c.ap.length+c.am.length+c.ar.length:=by unfold aE.wt QI;simp only[aY,N8]
   rw[CS,wtL,hw,aV];omega
 have h1:=hc f.ak 0 fun c h=>h;have h2:(A6 f).au.length<=8:=by show((Bj f).1.map (·.2)).length<=8;rw[aY];have:=hB.gen;unfold kG at this;rw[aY]at this;exact this
 have hm:∀(l:List aK) (k:Nat),(∀m∈l,m∈f.k9)->(∀x∈bndMRm (kD f) (kB f) (kG f) l k,x.kJ.size<=24)->wtL aF.wt (bndMRm (kD f) (kB f) (kG f) l k)<=73*l.length:=fun l=>by
  induction l with
  |nil=>intro k _ _;rw[bndMRm,wtL];omega
  |cons m r ih=>
   intro k hl hz;obtain⟨_,⟨b,hb,m2⟩,_⟩:=hF.met m (hl m k7);have h3:=Sy (A:=kD f) (D':=kB f) m.kJ.wt m.kJ 1 (bn _) ((DN m.kJ 1 b hb).1.1 m2).1;rw[bndMRm]at hz⊢;have h4:(E4 (kD f) (kB f) m.params m.kJ).size<=24:=hz _ List.mem_cons_self;have h5:=ih (k+m.body.cnt) (fun x hx=>hl x (by simp[hx])) fun x hx=>hz x (dH _ hx)
   rw[wtL,aV];unfold aF.wt at h5⊢;simp only;omega
 have h3:=hm f.k9 0 (fun m h=>h) fun x hx=>bx (bh.1 gD x hx)
 have h4:wtL aG.wt (A6 f).kC<=2*(A6 f).kC.length:=by
  have e:(A6 f).kC=Bf (kD f) (kB f) (kG f) f.k9 0++CB (kD f) (kB f) (kG f) f.kH [] (Bf (kD f) (kB f) (kG f) f.k9 0).length:=rfl;have a1:=Sw (kD f) (kB f) (kG f) f.k9 0;have a2:=NS (kD f) (kB f) (kG f) f.kH [] (Bf (kD f) (kB f) (kG f) f.k9 0).length;rw[e,EN,aO,BR];omega
 have h5:=hB.kC;have h6:=hB.cls;have h7:=hB.met;have e:(A6 f).wt=1+wtL aE.wt (CS f f.ak 0)+(A6 f).au.length+wtL aF.wt (bndMRm (kD f) (kB f) (kG f) f.k9 0)+wtL aG.wt (A6 f).kC:=rfl;omega
theorem al_nd{R:Ren}{f f':aL}(h:AlP R f f'):ndP f'=ndP f:=by
 have hm:∀(l l':List aK),ld R l l'->wtL (fun m:aK=>fCnt m.kJ+m.body.cnt) l'=wtL (fun m:aK=>fCnt m.kJ+m.body.cnt) l:=fun l=>by
  induction l with
  |nil=>intro l' hl;rw[ld]at hl;rw[hl]
  |cons m r ih=>
   intro l' hl;rw[ld]at hl;obtain⟨m',r',rfl,h1,h2⟩:=hl;obtain⟨ν,e,_⟩:=h1.kJ;rw[wtL,wtL,ih r' h2,e,Qj,La _ _ _ _ h1.body]
 unfold ndP;rw[hm _ _ h.met,La _ _ _ _ h.kH,h.cls,aY]
section
variable {P:fP}(hP:Ba P)
include hP
mutual
theorem SH: ∀(e:aH) (old now:fP) (x:Nat),Ba now->now.length=old.length->(anE P e old now x).1.wt<=9*e.wt
 | .mk o n t k,old,now,x,hn,hl=>by
  have hw:(aH.mk o n t k).wt=1+t.length+wtL aH.wt k:=aH.wt_eq _;rw[anE];split
  ·have:(subN t old now t).length<=t.length+8:=by
    by_cases h:t∈old
    ·obtain⟨j,hj,_,e⟩:=Qc t old now 0 0 t hl h;have:=hn _ (aR hj);rw[e];omega
    ·rw[Qb t old now t h];omega
   rw[hw,aH.wt_eq];simp only[aH.text,aH.aq,wtL];omega
  ·have ht:(if o=9/\0<k.length then ixS P x else t).length<=t.length+8:=by
    split
    ·have:=DI hP (x:Int);omega
    ·omega
   have:=XQ o t (if o=9/\0<k.length then ixS P x else t) k old now 0 (if o=9/\0<k.length then x+1 else x) (fun h9 hk=>by rw[aS ⟨h9,hk⟩];exact DI hP _) hn hl;rw[hw,aH.wt_eq];simp only[aH.text,aH.aq];omega
theorem XQ(o:Int)(t tx:Str): ∀(l:List aH) (old now:fP) (i x:Nat),(o=9->0<l.length->tx.length<=8)->Ba now->now.length=old.length->wtL aH.wt (anEs P o t tx old now l i x).1<=9*wtL aH.wt l
 |[],old,now,i,x,_,_,_=>by rw[anEs];simp[wtL]
 | y::r,old,now,i,x,ht,hn,hl=>by
  have gS:o=9->tx.length<=8:=fun h=>ht h k7
  have h1:(if o=9/\i=1 then anE P y (old++[t]) (now++[tx]) x else anE P y old now x).1.wt<=9*y.wt:=by
   split
   ·rename_i h9;refine SH y _ _ x (fun s hs=>?_) (by simp[hl]);rcases bi.1 hs with hs|hs
    ·exact hn s hs
    ·rw[bq]at hs;rw[hs];exact gS h9.1
   ·exact SH y old now x hn hl
  have h2:=XQ o t tx r old now (i+1) (if o=9/\i=1 then anE P y (old++[t]) (now++[tx]) x else anE P y old now x).2 (fun h _=>gS h) hn hl;rw[anEs];simp only[wtL];omega
end
end
theorem ZW(old:fP){now:fP}(hn:Ba now): ∀(n:Nat) (x:aI),x.wt<=n->(cpF old now x).wt<=9*x.wt
 |0,x,hx=>by have:=x.wt_pos;omega
 | n+1, .mk o s q c n' k,hw=>by
  have gC:(aI.mk o s q c n' k).wt=1+s.length+wtS q+c.length+wtL aI.wt k:=aI.wt_eq _
  have hk:∀(l:List aI),wtL aI.wt l<=n->wtL aI.wt (cpFs old now l)<=9*wtL aI.wt l:=fun l=>by
   induction l with
   |nil=>intro _;rw[cpFs];simp[wtL]
   |cons y r ih2=>
    intro hl;rw[wtL]at hl;have h3:=ZW old hn n y k0;have h4:=ih2 k0;rw[cpFs];simp only[wtL];omega
  have:=hk k k0
  have hs:(if 0<=idxG s old 0 then ixS now (idxG s old 0) else s).length<=s.length+8:=by
   split
   ·have:=DI hn (idxG s old 0);omega
   ·omega
  rw[cpF,gC,aI.wt_eq];simp only[aI.name,aI.path,aI.cls,aI.aq];omega
theorem canP_wt(f:aL):(canP f).wt<=9*f.wt:=by
 have hS:=CJ 128;have h1:=SH hS f.kH [] [] 0 (fun s hs=>by cases hs) rfl
 have h2:∀l:List aK,wtL aK.wt (l.map cnM)<=9*wtL aK.wt l:=fun l=>by
  induction l with
  |nil=>simp[wtL]
  |cons m r ih=>
   have hm:=CJ m.params.length;have hl:(freshN m.params.length).length=m.params.length:=Ax _;have a1:=EY hm;have a2:=ZW m.params hm m.kJ.wt m.kJ (bn _);have a3:=SH hS m.body m.params (freshN m.params.length) m.params.length hm hl;have a4:=Bc m.params;rw[bg];simp only[wtL];have e:(cnM m).wt=1+m.name.length+wtS (freshN m.params.length)+(cpF m.params (freshN m.params.length) m.kJ).wt+(anE (freshN 128) m.body m.params (freshN m.params.length) m.params.length).1.wt:=rfl;have e2:m.wt=1+m.name.length+wtS m.params+m.kJ.wt+m.body.wt:=rfl;rw[e,e2];omega
 have h3:=h2 f.k9;have e:(canP f).wt=1+wtL aJ.wt f.ak+wtL aK.wt (f.k9.map cnM)+(anE (freshN 128) f.kH [] [] 0).1.wt:=rfl;have e2:f.wt=1+wtL aJ.wt f.ak+wtL aK.wt f.k9+f.kH.wt:=rfl;omega
structure BackOK(f:aL):Prop where
 ok:okP (Ae f)=true
 wt:(Ae f).wt<=10000
 shp:(Bn (Ay (Ae f))).isSome=true
 back:Ae (Ay (Ae f))=Ae f
 err:DZ (Ay (Ae f))=0
 can:Ae (canP f)=Ae f
 canE:DZ (canP f)=0
 left:(∀m∈f.k9,m.params.length<=128/\(anE (freshN 128) m.body m.params (freshN m.params.length) m.params.length).2<=128)/\(anE (freshN 128) f.kH [] [] 0).2<=128
 nd:ndP (Ay (Ae f))=ndP f
theorem back_ok{f:aL}(hs:(Bn f).isSome=true)(hE:DZ f=0):BackOK f:=by
 have hf:Cg f=true:=by rw[II];exact hs
 have hb:=FR hf;have d7:=P1 hf hE;obtain⟨g1,g2⟩:=U9 hf;have g3:(Bn (Ay (A6 f))).isSome=true:=by rw[<-II];exact g1
 obtain⟨l1,l2,l3⟩:=an_left hf;have c1:=XS l3 hf;have c2:=SM l3 hf;have c3:=FR c1
 have gD:(A6 f).k9.all (fun m=>decide (m.kJ.size<=24))=true:=by
  rw[hb];unfold DZ at hE;rw[aS hs]at hE;split at hE
  ·split at hE
   ·assumption
   ·cases hE
  ·cases hE
 have hw:=XF hf gD;have gF:=al_nd (N5 hf);have hk:=Ta d7 g3;have iz:Ae (Ay (A6 f))=A6 f:=by rw[<-FR g1];exact g2
 rw[hb]at d7 g3 hw gF hk iz;rw[hb,c3]at c2;refine⟨d7,hw,g3,iz,hk,c2,?_,⟨l1,l2⟩,gF⟩;have ja:(Bn (canP f)).isSome=true:=by rw[<-II];exact c1
 unfold DZ at hE⊢;rw[aS hs]at hE;rw[aS ja,c2];exact hE
mutual
theorem kA.beq_iff: ∀(f g:kA),f.beq g=true ↔ f=g
 | .mk o a p c n k, .mk o' a' p' c' n' k'=>by
  rw[kA.beq_eq]
  have e:((decide (o=o')&&decide (a=a')&&decide (c=c')&&decide (n=n')&&(p==p')&&decide (k.length=k'.length)&&kA.beqs k k')=true) ↔ kA.mk o a p c n k=.mk o' a' p' c' n' k':=by
   simp only[aN,aP,cL,kA.mk.injEq];constructor
   ·rintro⟨⟨⟨⟨⟨⟨h1,h2⟩,h3⟩,h4⟩,h5⟩,hl⟩,hk⟩
    exact⟨h1,h2,h5,h3,h4,(kA.beqs_iff k k' hl).1 hk⟩
   ·rintro⟨h1,h2,h5,h3,h4,hk⟩
    exact⟨⟨⟨⟨⟨⟨h1,h2⟩,h3⟩,h4⟩,h5⟩,by rw[hk]⟩,(kA.beqs_iff k k' (by rw[hk])).2 hk⟩
  exact e
theorem kA.beqs_iff: ∀(l m:List kA),l.length=m.length->(kA.beqs l m=true ↔ l=m)
 |[],[],_=>by simp[kA.beqs]
 |[],_::_,h=>by simp at h
 |_::_,[],h=>by simp at h
 |x::r,y::s,h=>by
  rw[kA.beqs,aN,kA.beq_iff x y,kA.beqs_iff r s (by simpa using h),da]
end
theorem JG{α:Type}{eq:α->α->Bool}(h:∀x y,eq x y=true ↔ x=y): ∀a b:List α,eqFn eq a b=true ↔ a=b
 |[],[]=>by simp[eqFn]
 |[],_::_=>by simp[eqFn]
 |_::_,[]=>by simp[eqFn]
 |x::r,y::s=>by rw[eqFn,aN,h,JG h r s,da]
theorem JL{α:Type}{eq:α->α->Bool}(h:∀x y,eq x y=true ↔ x=y): ∀a b:List α,a.length=b.length->(lf eq a b=true ↔ a=b)
 |[],[],_=>by simp[lf]
 |[],_::_,hl=>by simp at hl
 |_::_,[],hl=>by simp at hl
 |x::r,y::s,hl=>by rw[lf,aN,h,JL h r s (by simpa using hl),da]
theorem SG(x y:aF):x.beq y=true ↔ x=y:=by
 obtain⟨a,b,c,d⟩:=x;obtain⟨a',b',c',d'⟩:=y;unfold aF.beq;simp only[aN,aP,kA.beq_iff,aF.mk.injEq];constructor
 ·rintro⟨⟨⟨h1,h2⟩,h3⟩,h4⟩;exact⟨h1,h2,h4,h3⟩
 ·rintro⟨h1,h2,h4,h3⟩;exact⟨⟨⟨h1,h2⟩,h3⟩,h4⟩
theorem aD.beq_iff(p q:aD):p.beq q=true ↔ p=q:=by
 obtain⟨a,b,c,d,e,f⟩:=p;obtain⟨a',b',c',d',e',f'⟩:=q;unfold aD.beq;simp only[aN,aP,aD.mk.injEq];rw[JG (fun x y=>by unfold aE.beq;exact decide_eq_true_iff),JG SG,JG (fun x y=>by unfold aG.beq;exact decide_eq_true_iff)];constructor
 ·rintro⟨⟨⟨⟨⟨h1,h2⟩,h3⟩,h4⟩,h5⟩,h6⟩;exact⟨h1,h4,h5,h2,h3,h6⟩
 ·rintro⟨h1,h4,h5,h2,h3,h6⟩;exact⟨⟨⟨⟨⟨h1,h2⟩,h3⟩,h4⟩,h5⟩,h6⟩
theorem Uy(p q:aD):Jj p q=true ↔ p=q:=by
 constructor
 ·intro h;obtain⟨a,b,c,d,e,f⟩:=p;obtain⟨a',b',c',d',e',f'⟩:=q;unfold Jj Tb at h;simp only[aN,aP,cL]at h;obtain⟨⟨⟨⟨⟨⟨⟨⟨h1,h2⟩,h3⟩,h4⟩,h5⟩,h6⟩,h7⟩,h8⟩,h9⟩:=h
  have k1:=(JL (eq:=eqC) (fun x y=>by
   obtain⟨u,v,w⟩:=x
   obtain⟨u',v',w'⟩:=y
   unfold eqC;simp only[aN,aP,cL,aE.mk.injEq,and_assoc]) a a' h4).1 h7
  have k2:=(JL (eq:=eqM) (fun x y=>by
   rw[<-SG];rfl) d d' h5).1 h8
  have k3:=(JL (eq:=eqN) (fun x y=>by
   obtain⟨u,v,w⟩:=x
   obtain⟨u',v',w'⟩:=y
   unfold eqN;simp only[aN,aP,cL,aG.mk.injEq,and_assoc]) e e' h6).1 h9
  rw[k1,k2,k3,h1,h2,h3]
 ·rintro rfl;exact ly p
theorem ZA(p q:aD):p.beq q=Jj p q:=by rw[aW,aD.beq_iff,Uy]
def No(p:aD):Bool:=okP p&&((Bn (Ay p)).isSome&&Jj (Ae (Ay p)) p)
theorem Zy{f:aL}:(Ae f).wt<=4*f.wt+10:=by
 have h1:=SE (AZ f) (Bd f) f.ak;obtain⟨h2,h3⟩:=XG (AZ f) (Bd f) (AI f) f.k9 0;have h4:=QH (AZ f) (Bd f) (AI f) f.kH (fun _=>0) 0 (Is (AZ f) (Bd f) (AI f) f.k9 0).length
 have h5:(HA (AI f) f).length<=f.wt:=by
  unfold HA;rw[DO,JJ,bB,JC];have:=KF f;unfold kG;rw[aY];exact this
 unfold aD.wt Ae;simp only[EN];unfold aL.wt at*;omega
theorem Ze(p:aD)(V:Sig)(hw:p.wt<=1048576):aB prog 35 [.agg (Am p)] V (rS (.tup [.bool (No p),dI (if okP p then 0 else 2)]) V):=by
 have i20:∀V:Sig,Ans 20 [.agg (Am p)] V True (.tup [.agg (AS (Hw p)),dI (EU p)]):=fun V=>ah0 (JE p V k0);cases d7:okP p with
 |false=>
  have hE:EU p=2:=by unfold EU;rw[d7];rfl
  have hi:No p=false:=by unfold No;rw[d7];rfl
  rw[hi];refine en func35 ntmps35 ?_;refine gf hE ?_ o35;exact fin2 (U':=V) ⟨rfl,rfl⟩
 | true =>
  have gT:=N4 d7;cases hs:(Bn (Ay p)).isSome with
  |false=>
   have hE:EU p=3:=by unfold EU;rw[d7,hs];rfl
   have hi:No p=false:=by unfold No;rw[d7,hs];rfl
   rw[hi];refine en func35 ntmps35 ?_;refine gf hE ?_ o35;exact fin2 (U':=V) ⟨rfl,rfl⟩
  |true=>
   have hE:EU p=0:=by unfold EU;rw[d7,hs];rfl
   have hP:Hw p=Ay p:=by unfold Hw;rw[hE];rfl
   have jq:=Zy (f:=Ay p);have hi:No p=(Ae (Ay p)).beq p:=by unfold No;rw[d7,hs,ZA];rfl
   rw[hi];have i48:∀V:Sig,Ans 48 [.agg (AS (Ay p))] V True (.agg (Am (Ae (Ay p)))):=fun V=>ah0 (RK (Ay p) V k0 hs);have i68:∀V:Sig,Ans 68 [.agg (Am (Ae (Ay p))),.agg (Am p)] V True (.bool ((Ae (Ay p)).beq p)):=fun V=>ah0 (Z2 _ p V k0 k0);generalize Ay p=q at*;refine en func35 ntmps35 ?_;refine gf (gi hE hP) ?_;refine mixL (id:=6) [0,2,1,3,4] [1,3] ?_;refine gz ?_ o35;exact fin2 (U':=V) ⟨rfl,rfl⟩
theorem f9_spec(f:aL)(V:Sig)(hw:f.wt<=1048576):aB prog 9 [.agg (AS f)] V (rS (.bool true) V):=by
 have i17:∀V:Sig,Ans 17 [.agg (AS f)] V True (.tup [.agg (Am (Fm f)),dI (DZ f)]):=fun V=>ah0 (GW f V k0);have jt:=fun (V:Sig)=>RS V
 by_cases hE:DZ f=0
 ·have hs:(Bn f).isSome=true:=by
   unfold DZ at hE;split at hE
   ·assumption
   ·cases hE
  obtain⟨b1,b2,b3,b4,b5,b6,b7,b8,b9⟩:=back_ok hs hE;have gX:Cg f=true:=by rw[II];exact hs
  have gW:Cg (Ay (Ae f))=true:=by rw[II];exact b3
  have eP:Fm f=Ae f:=by unfold Fm;rw[aS hE]
  have eQ:Fm (Ay (Ae f))=Ae f:=by unfold Fm;rw[aS b5,b4]
  have eC:Fm (canP f)=Ae f:=by unfold Fm;rw[aS b7,b6]
  have gT:=N4 b1;have f0:=canP_wt f;have iq:No (Ae f)=true:=by unfold No;rw[b1,b3,b4,ly];rfl
  have gK:EU (Ae f)=0:=by unfold EU;rw[b1,b3];rfl
  have iy:Hw (Ae f)=Ay (Ae f):=by unfold Hw;rw[gK];rfl
  have iD:(G7 (Ae f)).isSome=true:=by rw[<-Yz (Ae f)];exact b1
  have gr:=ly (Ae f);have i35:∀V:Sig,Ans 35 [.agg (Am (Ae f))] V True (.tup [.bool true,dI 0]):=fun V=>ah0 (by have:=Ze (Ae f) V k0;rw[iq,b1]at this;exact this)
  have i20:∀V:Sig,Ans 20 [.agg (Am (Ae f))] V True (.tup [.agg (AS (Ay (Ae f))),dI 0]):=fun V=>ah0 (by have:=JE (Ae f) V k0;rw[iy,gK]at this;exact this)
  have j17:∀V:Sig,Ans 17 [.agg (AS (Ay (Ae f)))] V True (.tup [.agg (Am (Ae f)),dI 0]):=fun V=>ah0 (by have:=GW (Ay (Ae f)) V k0;rw[eQ,b5]at this;exact this)
  have k17:∀V:Sig,Ans 17 [.agg (AS (canP f))] V True (.tup [.agg (Am (Ae f)),dI 0]):=fun V=>ah0 (by have:=GW (canP f) V k0;rw[eC,b7]at this;exact this)
  have i40:∀V:Sig,Ans 40 [.agg (AS f)] V True (.agg (AS (canP f))):=fun V=>ah0 (Zd f V k0 b8.1 b8.2);have i28:∀V:Sig,Ans 28 [.agg (Am (Ae f))] V True (.bool true):=fun V=>ah0 (by have:=Zh (Ae f) V k0;rw[iD]at this;exact this)
  have i19:∀V:Sig,Ans 19 [.agg (Am (Ae f)),.agg (Am (Ae f))] V True (.bool true):=fun V=>ah0 (by have:=JF (Ae f) (Ae f) V k0 k0;rw[gr]at this;exact this)
  have i41:∀V:Sig,Ans 41 [.agg (AS f)] V True (.tup [dI (ndP f),dI 0]):=fun V=>ah0 (by have:=RN f V k0;rw[gX]at this;exact this)
  have j41:∀V:Sig,Ans 41 [.agg (AS (Ay (Ae f)))] V True (.tup [dI (ndP f),dI 0]):=fun V=>ah0 (by have:=RN (Ay (Ae f)) V k0;rw[gW,b9]at this;exact this)
  rw[eP,hE]at i17;clear b1 b2 b3 b4 b5 b6 b7 b8 b9 gX gW eP eQ eC gT f0 iq gK iy iD gr hs hE;generalize ndP f=nd at*;generalize hq:Ay (Ae f)=q at*;generalize Ae f=a at*;generalize canP f=c at*;refine en func9 ntmps9 ?_;refine gz ?_;exact kE (U':=V) ⟨rfl,rfl⟩
 ·have eP:Fm f=IJ:=by unfold Fm;rw[aQ hE]
  rw[eP]at i17;have gr:=ly IJ
  have i19:∀V:Sig,Ans 19 [.agg (Am IJ),.agg [.av,dI 0,.av,.av,.av,dI 0]] V True (.bool true):=fun V=>ah0 (by
   have:=JF IJ IJ V (by decide) (by decide)
   rw[gr]at this
   exact aB.wk this (AN (A9 _) (AN (DA (show WkL _ (Am IJ) from⟨An _ (.inl rfl),A9 _,An _ (.inl rfl),An _ (.inl rfl),An _ (.inl rfl),A9 _,trivial⟩)) Ga)))
  generalize DZ f=e at*;generalize IJ=z at*;refine en func9 ntmps9 ?_;refine gz ?_;exact kE (U':=V) ⟨rfl,rfl⟩
end Go.DL
namespace Go.DL
open Go.Proofs.Tryz
open Go Go.Proofs
open Go.Proofs.YtlfimpogphmbdaaGreat.Rows (uptoBulk uptoBulkAll)
def g0(W:Go.World):G:={ imm:=fun b o=>W.cell? ⟨b,o,none⟩,rho:=fun _=>none,hist:=fun _ _=>none,keep:=fun k=>W.heap[k]?, io:=(W.os,W.output) }
theorem sim0(P:Program)(W:Go.World):Sim P (g0 W) (fun _=>none) W where
 imm:=fun _ _ _ h=>h
 keep:=fun _ _ h=>h
 obj:=fun _ _ h=>by cases h
 inj:=fun _ _ _ h=>by cases h
 free:=fun _ _ h=>by cases h
 htop:=fun _ _ _ _ h=>by cases h
 hdom:=fun _ _ _ h=>by cases h
 fin:=⟨0,fun _ _=>rfl⟩
 io:=rfl
theorem L0{α:Type}{p:Nat->α->Prop}: ∀n,(∀i,i<n->∃a,p i a)->∃l:List α,l.length=n /\ ∀i a,l[i]? = some a->p i a
 |0,_=>⟨[],rfl,fun i a h=>by simp at h⟩
 | n+1,h=>by
  obtain⟨l,hl,hp⟩:=L0 n fun i hi=>h i k0;obtain⟨a,ha⟩:=h n k0;refine⟨l++[a],by simp[hl],fun i b hb=>?_⟩
  by_cases hi:i<n
  ·rw[bK k0]at hb;exact hp i b hb
  ·rw[bP k0]at hb
   have h0:i-l.length=0:=by
    rcases Nat.eq_zero_or_pos (i-l.length)with h|h
    ·exact h
    ·rw[bW (by simp;omega)]at hb;cases hb
   rw[h0]at hb;simp at hb;rw[show i=n by omega,<-hb];exact ha
theorem UC{g:G}{b:Nat}: ∀{ds:fQ}{vs:List Value}{o:Nat},kI g ds vs->(∀j v,vs[j]? = some v->g.imm b (o+j)=some v)->kx g b o ds
 |[],_,_,_,_=>trivial
 |d::ds,_,o,⟨v,r,e,h1,h2⟩,hi=>by
  subst e;exact⟨⟨v,hi 0 v rfl,h1⟩,UC h2 fun j x hx=>by rw[cZ,fB 1 j];exact hi (j+1) x hx⟩
theorem UD{g:G}{b sz:Nat}: ∀{l:fV}{o:Nat},(∀i e,l[i]? = some e->e.length=sz/\kx g b (o+i*sz) e)->kl g b sz o l
 |[],_,_=>trivial
 |e::l,o,h=>⟨by simpa using h 0 e rfl,UD fun i x hx=>by
  have:=h (i+1) x hx
  rw[cK,eK,fB (i*sz),<-cZ]at this;exact this⟩
theorem ZE{α H:Type}{wt:α->Nat}: ∀{l:List α}{xs:List (DataW H)},l.length=xs.length->(∀(i:Nat) a x,l[i]? = some a->xs[i]? = some x->wt a<=uptoBulk x)->wtL wt l<=uptoBulkAll xs
 |[],[],_,_=>fi _
 |a::l,x::xs,h,hp=>by
  have h1:=hp 0 a x rfl rfl;have h2:=ZE (l:=l) (xs:=xs) (by simpa using h) fun i b y hb hy=>hp (i+1) b y hb hy
  simp only[wtL,uptoBulkAll];omega
section
variable {H:Type}{enc:TypeId×Value->H}{W:Go.World}
noncomputable abbrev rd(enc:TypeId×Value->H)(W:Go.World)(n t:Nat)(cs:List Value):Option (DataW H×List MemPlace):=DataW.trod enc prog W 0 (fun _=>true) true n t cs
def Dec(enc:TypeId×Value->H)(W:Go.World){α:Type}(n t:Nat)(c:α->fQ)(wt:α->Nat):Prop:= ∀cs x,rd enc W n t cs=some x->∃a,kI (g0 W) (c a) cs/\wt a<=uptoBulk x.1
theorem IX{t n:Nat}(ht:prog.underlying t=some (.int .i64)):Dec enc W n t (fun k:Int=>[dI k]) (fun _=>1):=fun cs x h=>by
 obtain⟨k,rfl,rfl,_⟩:=DataW.trod_int ht h;exact⟨k,⟨_,[],rfl,rfl,rfl⟩,by simp[uptoBulk]⟩
theorem Hy{t n:Nat}(ht:prog.underlying t=some .string):Dec enc W n t (fun s:Str=>[.str s]) (fun s=>1+s.length):=fun cs x h=>by
 obtain⟨s,rfl,rfl,_⟩:=DataW.trod_string ht h;exact⟨s.data.toList,⟨_,[],rfl,by simp[Rep],rfl⟩,by simp only[uptoBulk];omega⟩
theorem Fj{α:Type}{t e sz n:Nat}{c:α->fQ}{wt:α->Nat}(ht:prog.underlying t=some (.slice e))(hz:prog.cellsOf e=sz)(iL:0<sz)(hc:∀a,(c a).length=sz)(hd:∀m,m<n->Dec enc W m e c wt):
  Dec enc W n t (fun l:List α=>[sl (l.map c)]) (fun l=>1+wtL wt l):=fun cs x h=>by
 rcases DataW.trod_slice ht h with⟨rfl,rfl⟩|⟨a,len,cap,elems,rest,m,rfl,rfl,rfl,hb,hl,hm,hlen,iZ, -, -⟩
 ·exact⟨[],⟨_,[],rfl,⟨Option.none,0,rfl,k7,.inl rfl,trivial⟩,rfl⟩,by simp[uptoBulk,wtL]⟩
 ·have key:∀i,i<len->∃b:α, ∃y vs,elems[i]? = some y/\W.cells? 0 (a.add (i*sz)) sz=some vs/\kI (g0 W) (c b) vs/\wt b<=uptoBulk y.1:=fun i hi=>by
   have h1:=iZ i hi;rw[hz,aT k0]at h1;obtain⟨vs,h2,h3⟩:=Option.bind_eq_some_iff.1 h1;obtain⟨b,h4,h5⟩:=hd m k0 vs _ h3;exact⟨b,_,vs,aT k0,h2,h4,h5⟩
  obtain⟨l,gH,hp⟩:=L0 len key;refine⟨l,⟨_,[],rfl,⟨some a,cap,by simp[gH],by simpa[gH] using hl,?_,trivial⟩,rfl⟩,?_⟩
  ·cases gG:l with
   |nil=>exact .inl rfl
   | cons b0 l' =>
    rw[<-gG];have jo:0<len:=by rw[<-gH,gG];simp
    obtain⟨y,vs,k1,k2,k3,k4⟩:=hp 0 b0 (by rw[gG];rfl);obtain⟨_,k5,k6⟩:=World.cells?_some k2
    have gV:a.spot=none:=by
     have:=k6 0 k0;cases hs:a.spot with
     |none=>rfl
     |some q=>simp[World.cell?, Addr.add,hs]at this;split at this<;>simp_all
    obtain⟨ab,ao,asp⟩:=a;simp only at gV;subst gV;refine .inr ⟨sz,ab,ao,rfl,UD fun i e he=>?_⟩;rw[bN]at he;obtain⟨b,gM,rfl⟩:=cN.1 he;obtain⟨y,vs,k1,k2,k3,k4⟩:=hp i b gM;obtain⟨_,k5,k6⟩:=World.cells?_some k2;refine⟨hc b,UC k3 fun j v hv=>?_⟩;have hj:j<sz:=by rw[<-k5];exact(bC.1 hv).1
    have:=k6 j hj;rw[hv,Cm,Cm]at this;exact this
  ·have:=ZE (wt:=wt) (l:=l) (xs:=elems.map (·.1)) (by simp;omega) fun i b z gM gA=>by
    obtain⟨y,vs,k1,k2,k3,k4⟩:=hp i b gM;rw[bN,k1]at gA;simp at gA;subst gA;exact k4
   simp only[uptoBulk];omega
set_option maxRecDepth 100000
theorem F4{t n:Nat}{fs:Array Field}(ht:prog.underlying t=some (.struct fs)){cs:List Value}{x:DataW H×List MemPlace}(h:rd enc W n t cs=some x):
  ∃(xs:List (DataW H×List MemPlace)) (m:Nat),m<n/\uptoBulk x.1=uptoBulkAll (xs.map (·.1))+1/\cs.length=prog.cellsOf t/\xs.length=fs.size /\
   ∀(i:Nat) (f:Field),fs[i]? = some f->rd enc W m f.type ((cs.drop f.offset).take (prog.cellsOf f.type))=xs[i]? :=by
 obtain⟨xs,m,rfl,rfl,h1,h2,h3⟩:=DataW.trod_struct ht h;exact⟨xs,m,k0,by simp[uptoBulk],h1,h2,h3⟩
theorem cellsI:prog.cellsOf 3=1:=by kernel_rfl
theorem cellsS:prog.cellsOf 9=1:=by kernel_rfl
theorem JH(n:Nat):Dec enc W n 80 (fun l:fP=>[sl (cS l)]) (fun l=>1+wtS l):=Fj underlying80 cellsS k0 (fun _=>rfl) fun _ _=>Hy underlying9
theorem Ea{m t off k:Nat}{cs cs':List Value}{o:Option (DataW H×List MemPlace)}(h:rd enc W m t ((cs.drop off).take (prog.cellsOf t))=o)(hk:prog.cellsOf t=k)(hc:(cs.drop off).take k=cs'):rd enc W m t cs'=o:=by rw[<-hc,<-hk];exact h
end
end Go.DL
