/- A part of the proof. -/
import Derived.Test.YtlfimpogphmbdaaGreatH23
set_option linter.all false
namespace Go.DL
open Go.Proofs.Tryz
open Go Go.Proofs
set_option maxHeartbeats 8000000
def BS.envS{ib ia is ig:Nat}{a b c d f:D}{cm sm gm:List (Str×Int)}{st:MR}{ns:List aG}{V:Sig}(h:BS ib ia is ig a b c d f cm sm gm st ns V):EnvS ib ia is ig [a,b,c,d,mD st ns.length,f] cm sm gm V:=⟨⟨_,_,_,_,_,_,rfl,h.env⟩,h.oa,h.os,h.og⟩
section
variable {ops:Array Oper}{n N:Nat}{ro:Option Nat}{S0:Sig}{Q:DX->St->Prop}{df:List DDf}{γ Sr:List (Nat×D)}{V:Sig}{ty:TypeId}{pos:String}{after:Array Edge}{d:D}
theorem moSt{op:Op}{l:List (Bool×Oper)}{U' S'':Sig}(h:MO prog ro n ops N S0 Q df l γ S'')(he:eopD tab Sr V op=some (d,U'))(hw:∀γ,Wk prog n ⟨γ,U',df⟩ ⟨γ,S'',df⟩)(hC:Sub S0 S'')(hl:A7 γ (Ac op.operands.toList)=some Sr:=by exact tdR):
  MO prog ro n ops N S0 Q df ((true,⟨none,op,ty,pos,after,none⟩)::l) γ V:=
 ZM (o:=⟨none,op,ty,pos,after,none⟩) rfl rfl rfl (FM Ag rfl (by rw[BF (V':=γ) fun x hx=>Cw (o:=⟨none,op,ty,pos,after,none⟩) hx];exact(BF (CK hl)) ▸ he) rfl (Cd (hw _) (AU ⟨rfl,hC,h⟩)))
end
def RK(f:aL)(V:Sig)(hw:f.wt<=10000000)(hs:(Bn f).isSome=true):aB prog 48 [.agg (AS f)] V (rS (.agg (Am (Ae f))) V):=by
 obtain⟨p1,p2,p3,p4,p5⟩:=f.wt_le;have iU:=LC f;have iY:(kG f).length<=f.wt:=by have:=KF f;unfold kG;rw[aY];exact this
 have gZ:(f.ak.map (·.name)).length<=1073741824:=by rw[aY];omega
 have iH:(Bj f).1.map (·.1)=kG f:=rfl;refine en func48 ntmps48 ?_
 try refine gz ?_ o48 [2]
 refine kR (fun i2 gV=>?_)
 repeat ((fail_if_success (first|(refine callWP (Pw f.ak (·.name) 103 [] .no _ k0 (fun x hx U' _=>Pv x U')) (fun x S1 hr=>?_) (fun x S1 hr=>by cases hr.1))|fail));(refine goX1 (gi iH hs) ?_))
 refine callWP (Pw f.ak (·.name) 103 [] .no _ k0 (fun x hx U' _=>Pv x U')) (fun x S1 hr=>?_) (fun x S1 hr=>by cases hr.1);obtain⟨e1,e2⟩:=hr;cases e1;rw[e2];clear e2 S1
 repeat ((fail_if_success (first|(refine Ad (Ej (f.ak.map (·.name)) 3 .no _ gZ ⟨k0,k0⟩) (fun x S1 hr=>?_) (fun x S1 hr=>by obtain⟨_,_,h,_⟩:=hr;cases h))|fail));(refine goX1 trivial ?_))
 refine Ad (Ej (f.ak.map (·.name)) 3 .no _ gZ ⟨k0,k0⟩) (fun x S1 hr=>?_) (fun x S1 hr=>by obtain⟨_,_,h,_⟩:=hr;cases h);obtain⟨ia,gU,e1,e2⟩:=hr;cases e1;rw[e2];clear e2 S1
 repeat ((fail_if_success (first|(refine Ad (Ej (AT f) 0 .no _ k0 ⟨k0,k0⟩) (fun x S1 hr=>?_) (fun x S1 hr=>by obtain⟨_,_,h,_⟩:=hr;cases h))|fail));(refine goX1 trivial ?_))
 refine Ad (Ej (AT f) 0 .no _ k0 ⟨k0,k0⟩) (fun x S1 hr=>?_) (fun x S1 hr=>by obtain⟨_,_,h,_⟩:=hr;cases h);obtain⟨is,gS,e1,e2⟩:=hr;cases e1;rw[e2];clear e2 S1
 repeat ((fail_if_success (first|(refine Ad (Ej (kG f) 0 .no _ k0 ⟨k0,k0⟩) (fun x S1 hr=>?_) (fun x S1 hr=>by obtain⟨_,_,h,_⟩:=hr;cases h))|fail));(refine goX1 trivial ?_))
 refine Ad (Ej (kG f) 0 .no _ k0 ⟨k0,k0⟩) (fun x S1 hr=>?_) (fun x S1 hr=>by obtain⟨_,_,h,_⟩:=hr;cases h);obtain⟨ig,gT,e1,e2⟩:=hr;cases e1;rw[e2];clear e2 S1
 repeat ((fail_if_success (first|(refine boxV (T:=163) (fun ib gJ=>?_))|fail));(refine goX1 trivial ?_))
 refine boxV (T:=163) (fun ib gJ=>?_)
 try refine gz ?_ (kX 4 o48) [2]
 obtain⟨a1,b1⟩:=A8 gU;obtain⟨a2,b2⟩:=A8 gS;obtain⟨a3,b3⟩:=A8 b2;obtain⟨a4,b4⟩:=A8 gT;obtain⟨a5,b5⟩:=A8 b4;obtain⟨a6,b6⟩:=A8 b5;obtain⟨a7,b7⟩:=A8 gJ;obtain⟨a8,b8⟩:=A8 b7;obtain⟨a9,b9⟩:=A8 b8;obtain⟨a10,b10⟩:=A8 b9;generalize fY:Sig.set _ ib _=S4;have o1:S4 ib=some (.cells [.av,dI 0,.av,.av,.av,dI 0,.map ia,.map is,.map ig]):=by rw[<-fY];exact w7 ..
 have o2:S4 ia=some (.map (eSN (l8 (f.ak.map (·.name)) 3 []))):=by rw[<-fY,w8 _ _ (aZ a9),w8 _ _ (aZ a5),w8 _ _ (aZ a2)];exact w7 ..
 have o3:S4 is=some (.map (eSN (Bd f))):=by rw[<-fY,w8 _ _ (aZ a8),w8 _ _ (aZ a4)];exact w7 ..
 have o4:S4 ig=some (.map (eSN (AI f))):=by rw[<-fY,w8 _ _ (aZ a7)];exact w7 ..
 have o5:S4 i2=some (.cells [.av,dI 0,.av,.av,.av,dI 0]):=by rw[<-fY,w8 _ _ (aZ a10),w8 _ _ (aZ a6),w8 _ _ (aZ a3),w8 _ _ (aZ a1)];exact w7 ..
 have hS:Sub V S4:=fun j x hj=>by rw[<-fY,w8 _ _ (A3 hj b10),w8 _ _ (A3 hj b6),w8 _ _ (A3 hj b3),w8 _ _ (A3 hj b1),w8 _ _ (A3 hj gV)];exact hj
 clear fY;refine mixT 12 [0,1,2,3,4,5,6,7,8,9,10,11] [] ?_
 try refine gf o1 ?_ o48 [2]
 refine ent3 ?_ o2;refine ent3 ?_ (w7 ..);refine ent3 ?_ (w7 ..);rw[w9,w9];generalize d8:Sig.set _ ia _=S5;have q1:S5 ib=some (.cells [.av,dI 0,.av,.av,.av,dI 0,.map ia,.map is,.map ig]):=by rw[<-d8,w8 _ _ a9];exact o1
 have q2:S5 ia=some (.map (eSN (AZ f))):=by rw[<-d8];exact w7 ..
 have q3:S5 is=some (.map (eSN (Bd f))):=by rw[<-d8,w8 _ _ a2];exact o3
 have q4:S5 ig=some (.map (eSN (AI f))):=by rw[<-d8,w8 _ _ a5];exact o4
 have q5:S5 i2=some (.cells [.av,dI 0,.av,.av,.av,dI 0]):=by rw[<-d8,w8 _ _ (aZ a1)];exact o5
 have g7:Sub V S5:=fun j x hj=>by rw[<-d8,w8 _ _ (A3 hj b1)];exact hS _ _ hj
 clear d8 hS o1 o2 o3 o4 o5 gU gS gT gJ b2 b4 b5 b7 b8 b9
 try refine gz ?_ (kX 5 o48) [2]
 have iX:=JC f;obtain⟨hM,hA⟩:=args_ok f;have gB:=fun U' (h:U' ig=some (.map (eSN (AI f))))=>TN f (AI f) ig U' k0 k0 h hM hA;refine G0 [0,1,2,3,4,5,6,7,8,9,10,11,12,13,14,15,16] [8,9,13] (S5.out (· = ib)) (C3 _ _) ?_
 try refine gz ?_ o48 [2]
 refine moRd (d:=.map ig) ?_ ?hd (C3 _ _)
 case hd=>simp[q1]
 refine C6 (gB S5 q4) (fun x S6 hr=>?_) (fun x S6 hr=>by obtain⟨_,_,h,_⟩:=hr;cases h);obtain⟨r,f8,e1,e2⟩:=hr;cases e1;rw[e2];have nr:ib≠r:=A3 q1 f8
 have gc:∀X,Sub (S5.out (· = ib)) ((S5.set r X).set ib (.cells [.av,dI (AT f).length,.av,.av,.av,dI 0,.map ia,.map is,.map ig])):=fun X j x hj=>by
  obtain⟨h1,h2⟩:=Ct hj;rw[w8 _ _ h2,w8 _ _ (A3 h1 f8)];exact h1
 refine⟨(C3 _ _).trans ((Sub.refl _).set f8),?_⟩;have w1:(S5.set r (.cells ((HA (AI f) f).map dI))) ib=some (.cells [.av,dI 0,.av,.av,.av,dI 0,.map ia,.map is,.map ig]):=by rw[w8 _ _ nr];exact q1
 have gb:=gc (.cells ((HA (AI f) f).map dI))
 try refine gf q1 ?_ (kX 6 o48) [2]
 generalize gW:HA (AI f) f=gs at*;have e8:gs.length=(AI f).length:=by rw[<-gW];unfold HA;rw[DO,JJ,bB]
 have gX:∀C,(S5.set r (.cells (gs.map dI))).set ib C=mS (S5.set ib C) (some (r,(AI f).length,[])) (cI gs):=fun C=>by
  rw[set_comm _ (aZ nr)]
  show _=(S5.set ib C).set r (.cells ((cI gs).flatten++[]));rw[br,En]
 rw[gX]
 have gg:∀C,mOK (S5.set ib C) 1 (some (r,(AI f).length,[])) (cI gs):=fun C=>by
  refine⟨k8 (aZ nr) f8,?_,by simp[e8],C5 _⟩;rw[br,En,aY,e8];omega
 refine kO (Hg (az:=[.av,dI (AT f).length]) (bs:=[.av,.av,dI 0,.map ia,.map is,.map ig]) (gg _) (by rw[w7,Jf,e8];rfl)) ?_;rw[w9];have z1:(S5.set ib (.cells [.av,dI (AT f).length,sl (cI gs),.av,.av,dI 0,.map ia,.map is,.map ig])) ib=some (.cells [.av,dI (AT f).length,sl (cI gs),.av,.av,dI 0,.map ia,.map is,.map ig]):=w7 ..;have z2:(S5.set ib (.cells [.av,dI (AT f).length,sl (cI gs),.av,.av,dI 0,.map ia,.map is,.map ig])) ia=some (.map (eSN (AZ f))):=by rw[w8 _ _ (aZ a9)];exact q2
 have z3:(S5.set ib (.cells [.av,dI (AT f).length,sl (cI gs),.av,.av,dI 0,.map ia,.map is,.map ig])) is=some (.map (eSN (Bd f))):=by rw[w8 _ _ (aZ a8)];exact q3
 have z4:(S5.set ib (.cells [.av,dI (AT f).length,sl (cI gs),.av,.av,dI 0,.map ia,.map is,.map ig])) ig=some (.map (eSN (AI f))):=by rw[w8 _ _ (aZ a7)];exact q4
 have z5:(S5.set ib (.cells [.av,dI (AT f).length,sl (cI gs),.av,.av,dI 0,.map ia,.map is,.map ig])) i2=some (.cells [.av,dI 0,.av,.av,.av,dI 0]):=by rw[w8 _ _ (aZ a10)];exact q5
 have zS:Sub V (S5.set ib (.cells [.av,dI (AT f).length,sl (cI gs),.av,.av,dI 0,.map ia,.map is,.map ig])):=g7.set b10;generalize gD:S5.set ib (.cells ([D.av,dI (AT f).length]++sl (cI gs)::[D.av,.av,dI 0,.map ia,.map is,.map ig]))=S6;have gD:S5.set ib (.cells [.av,dI (AT f).length,sl (cI gs),.av,.av,dI 0,.map ia,.map is,.map ig])=S6:=gD;rw[gD]at z1 z2 z3 z4 z5 zS;clear gD gX gg gc gb w1
 have iz:∀c∈f.ak,c.ap.length<=1073741824/\c.am.length<=1073741824/\c.ar.length<=1073741824:=fun c hc=>by
  obtain⟨k,hk,rfl⟩:=bm hc;have:=p4 k hk;obtain⟨_,y2,y3,y4,_⟩:=(f.ak[k]).wt_le;have:=Bc (f.ak[k]).ap;have:=Bc (f.ak[k]).am;omega
 have g8:EnvS ib ia is ig [.av,dI (AT f).length,sl (cI gs),.av,.av,dI 0] (AZ f) (Bd f) (AI f) S6:=⟨⟨_,_,_,_,_,_,rfl,z1⟩,z2,z3,z4⟩;have f0:=X8 f.ak (FT (AZ f) (Bd f)) 106 [.aw [.ptr ib 0] 0] .no S6 k0 (fun x hx U' hs=>TM x (iz x hx) (g8.sub hs));generalize iJ:f.ak.map (FT (AZ f) (Bd f))=bcs at*
 repeat' first|refine gf z1 ?_ [] [2]|refine moR (f0) ?_|refine moP (f0) ?_|refine gf z1 ?_ o48 [2]|apply gy<;>intro hh
 generalize fX:Sig.set S6 ib _=S7;have y1:S7 ib=some (.cells [sl (bcs.map kF),dI (AT f).length,sl (cI gs),.av,.av,dI 0,.map ia,.map is,.map ig]):=by rw[<-fX];exact w7 ..
 have y2:S7 ia=some (.map (eSN (AZ f))):=by rw[<-fX,w8 _ _ (aZ a9)];exact z2
 have y3:S7 is=some (.map (eSN (Bd f))):=by rw[<-fX,w8 _ _ (aZ a8)];exact z3
 have y4:S7 ig=some (.map (eSN (AI f))):=by rw[<-fX,w8 _ _ (aZ a7)];exact z4
 have y5:S7 i2=some (.cells [.av,dI 0,.av,.av,.av,dI 0]):=by rw[<-fX,w8 _ _ (aZ a10)];exact z5
 have yS:Sub V S7:=by rw[<-fX];exact zS.set b10
 clear fX z1 z2 z3 z4 z5 zS f0 g8 gB q1 q2 q3 q4 q5 g7 f8 nr;refine Bt ib 3 9 (ds:=[sl (bcs.map kF),dI (AT f).length,sl (cI gs),.av,.av,dI 0,.map ia,.map is,.map ig]) y1 rfl (fun im d9=>?_);have m1:ib≠im:=A3 y1 d9;have m2:ia≠im:=A3 y2 d9;have m3:is≠im:=A3 y3 d9;have m4:ig≠im:=A3 y4 d9;have m5:i2≠im:=A3 y5 d9;generalize gr:Sig.set (Sig.set S7 im _) ib _=S8
 have iQ:BS ib ia is ig (sl (bcs.map kF)) (dI (AT f).length) (sl (cI gs)) (.slice (([]:List aF).map Av) (.tag im)) (dI 0) (AZ f) (Bd f) (AI f) none [] S8:=by
  rw[<-gr];refine⟨w7 ..,?_,?_,?_,rfl,id⟩
  ·rw[w8 _ _ (aZ a9),w8 _ _ m2];exact y2
  ·rw[w8 _ _ (aZ a8),w8 _ _ m3];exact y3
  ·rw[w8 _ _ (aZ a7),w8 _ _ m4];exact y4
 have x1:S8 im=some (.tail 9 ([]:List aF).length):=by rw[<-gr,w8 _ _ (aZ m1)];exact w7 ..
 have x5:S8 i2=some (.cells [.av,dI 0,.av,.av,.av,dI 0]):=by rw[<-gr,w8 _ _ (aZ a10),w8 _ _ m5];exact y5
 have xS:Sub V S8:=by rw[<-gr];exact(yS.set (yS.none d9)).set b10
 have gI:V im=none:=yS.none d9;clear gr y1 y2 y3 y4 y5 yS d9;have iZ:∀m∈f.k9,m.body.cnt<=aK.wt m:=fun m _=>by have:=aH.cnt_le m.body;unfold aK.wt;omega
 have iv:wtL aK.wt f.k9<=f.wt:=by unfold aL.wt;omega
 refine Yy [1,2,7,12,76,77,121,122,123,124,125,126,127,128,129,130,131,132,133,134,135,136,137,138,139,140,141,142,143,144,145,146,147,148,149,150,151,152,153,154] (fun (k:Nat) (ms:List aF) (st:MR) (ns:List aG) (S1:Sig)=>k<=f.k9.length/\ms.length=k/\ns++Is (AZ f) (Bd f) (AI f) (f.k9.drop k) ns.length=Is (AZ f) (Bd f) (AI f) f.k9 0/\ms++bndMM (AZ f) (Bd f) (AI f) (f.k9.drop k) ns.length=bndMM (AZ f) (Bd f) (AI f) f.k9 0/\ns.length+wtL aK.wt (f.k9.drop k)<=f.wt/\BS ib ia is ig (sl (bcs.map kF)) (dI (AT f).length) (sl (cI gs)) (.slice (ms.map Av) (.tag im)) (dI 0) (AZ f) (Bd f) (AI f) st ns S1/\S1 im=some (.tail 9 ms.length)/\S1 i2=some (.cells [.av,dI 0,.av,.av,.av,dI 0]) /\ ¬Cf st i2/\Sub V S1/\(∀j x,V j=some x->¬Cf st j)) (fun k _ _ _ _=>[(78,dI k)]) (fun _ _ _ _ S1=>S1) (fun k _ _ _ _=>f.k9.length-k) (0) ([]) (none) ([]) (S8) (by exact⟨k0,rfl,rfl,rfl,by simpa using iv,iQ,x1,x5,id,xS,fun _ _ _=>id⟩) (fun k ms st ns S1 hI=>?_);obtain⟨hk,iC,gu,gv,gk,hB,o1,o5,o6,oS,oR⟩:=hI
 by_cases gC:k<f.k9.length
 ·rw[A0 gC]at gu gv gk;rw[Is]at gu;rw[bndMM]at gv;rw[wtL]at gk;have iq:=p5 k gC;generalize e7:f.k9[k]=m at*;have iB:m.params.length<=f.wt/\m.body.wt<=f.wt/\m.kJ.wt<=f.wt:=by have:=iq;unfold aK.wt at this;have:=Bc m.params;omega
  obtain⟨g1,g2,g3⟩:=iB
  try refine gf (gi hB.env e7) ?_ (kX 10 o48) [2]
  refine mix (id:=10) [0,1,2,4,5,6,3,7,8,9] [8,9] ?_
  try refine gf e7 ?_ o48 [2]
  refine moQR ?_;obtain⟨ks,vs,gY⟩:∃ks vs,cNum (l8 m.params 0 [])=.cmap ks vs:=⟨_,_,rfl⟩;rw[gY]
  try refine gf e7 ?_ o48 [2]
  refine Ow (fun i10 d7=>?_)
  try refine gf e7 ?_ o48 [2]
  have gR:NmD (.cmap ks vs) (l8 m.params 0 []):=⟨.inl gY.symm,Hd _ _ _ k7⟩;have iP:=hB.fresh (o:=.cells [.ptr ib 0,.cmap ks vs,dI m.params.length]) d7;have gj:i10≠im:=fun e=>by rw[e,o1]at d7;cases d7
  have iE:m.body.wt<=aK.wt m:=by unfold aK.wt;omega
  have iF:ns.length+m.body.wt<=100000000:=by omega
  have gF:∀{j x},(∀c,x≠.cells c)->S1 j=some x->¬Cf st j:=fun hx hj hr=>by obtain⟨cs,hc⟩:=hB.row.cells hr;rw[hj]at hc;cases hc;exact hx _ rfl
  refine Ad (Pt m.body.wt m.body (.cmap ks vs) (l8 m.params 0 []) m.params.length st ns _ (bn _) iF k0 k0 gR iP) (fun x S2 hr=>?_);obtain⟨e1,st2,d6,gw⟩:=hr;cases e1;have kp:∀{j x},S1 j=some x->j≠ib->¬Cf st j->S2 j=some x /\ ¬Cf st2 j:=fun hj hb hr=>gw _ _ (k8 (A3 hj d7) hj) hb hr;obtain⟨t1,t1r⟩:=kp o1 (aZ m1) (gF k7 o1);obtain⟨t5,t5r⟩:=kp o5 (aZ a10) o6;have tS:∀j x,V j=some x->S2 j=some x /\ ¬Cf st2 j:=fun j x hj=>kp (oS _ _ hj) (A3 hj b10) (oR _ _ hj);obtain⟨t10,_⟩:=gw i10 _ (w7 ..) (fun e=>by rw[e,hB.env]at d7;cases d7) (hB.notrow d7);have iM:=d6.envS;have gA:=X7 (.cmap ks vs) (l8 m.params 0 []) m.params.length gR m.kJ.wt m.kJ S2 (bn _) k0 iM;have u1:(S2.out (· = im)) ib=_:=EH d6.env m1;have u4:(S2.out (· = im)) ig=_:=EH d6.og m4;have u10:(S2.out (· = im)) i10=_:=EH t10 gj
  have iA:Sub (S2.out (· = im)) (S2.set im (.tail 9 (ms.length+1))):=fun j x hj=>by
   obtain⟨h1,h2⟩:=Ct hj;rw[w8 _ _ h2];exact h1
  have gP:Sub (S2.out (· = im)) S2:=C3 _ _
  try refine gf e7 ?_ (kX 12 o48) [2]
  refine G0 [0,1,2,3,4,5,6,7,8,9,10,11,12,13,14,15,16,17,19,18,20,21,22,23,24,25] [18,22] (S2.out (· = im)) (C3 _ _) ?_
  repeat' first|refine gf (gi u1 (gi u4 (gi u10 (gi e7 (gi t1 d6.env))))) ?_ [] [2]|refine moR (gA) ?_|refine moP (gA) ?_|refine gf (gi u1 (gi u4 (gi u10 (gi e7 (gi t1 d6.env))))) ?_ o48 [2]|apply gy<;>intro hh
  generalize ga:Sig.set _ ib _=qq;have gL:lX (AZ f) (Bd f) (AI f) m.body (fun y=>getM 0 y (l8 m.params 0 [])) m.params.length ns.length=lX (AZ f) (Bd f) (AI f) m.body (EB m) m.params.length ns.length:=rfl;have gK:=H4 (cm:=AZ f) (sm:=Bd f) (gm:=AI f) m.body (EB m) m.params.length ns.length;rw[gL]at d6 ga
  have c1:qq ib=some (.cells [sl (bcs.map kF),dI (AT f).length,sl (cI gs),.slice ((ms++[(⟨m.kind,getM 0 m.name (AI f),bndF (AZ f) (Bd f) (EB m) m.kJ,ns.length⟩:aF)]).map Av) (.tag im),mD st2 (ns++lX (AZ f) (Bd f) (AI f) m.body (EB m) m.params.length ns.length).length,dI 0,.map ia,.map is,.map ig]):=by
   rw[<-ga,w7,aO];simp only[bL,bg,cq,Av,EM,bE,bG];rfl
  have kq:∀{j x},S2 j=some x->j≠ib->j≠im->qq j=some x:=fun hj h1 h2=>by rw[<-ga,w8 _ _ h1,w8 _ _ h2];exact hj
  have iO:BS ib ia is ig (sl (bcs.map kF)) (dI (AT f).length) (sl (cI gs)) (.slice ((ms++[(⟨m.kind,getM 0 m.name (AI f),bndF (AZ f) (Bd f) (EB m) m.kJ,ns.length⟩:aF)]).map Av) (.tag im)) (dI 0) (AZ f) (Bd f) (AI f) st2 (ns++lX (AZ f) (Bd f) (AI f) m.body (EB m) m.params.length ns.length) qq:=
   ⟨c1,kq d6.oa (aZ a9) m2,kq d6.os (aZ a8) m3,kq d6.og (aZ a7) m4,d6.row.keep fun j x hj hr=>kq hj (fun e=>d6.nr (by rw[<-e];exact hr)) (fun e=>t1r (by rw[<-e];exact hr)),d6.nr⟩
  have cim:qq im=some (.tail 9 (ms++[(⟨m.kind,getM 0 m.name (AI f),bndF (AZ f) (Bd f) (EB m) m.kJ,ns.length⟩:aF)]).length):=by rw[<-ga,w8 _ _ (aZ m1),w7,aO];rfl
  have c5:=kq t5 (aZ a10) m5;have cS:Sub V qq:=fun j x hj=>kq (tS j x hj).1 (A3 hj b10) (A3 hj gI);clear ga;exact⟨k+1,ms++[⟨m.kind,getM 0 m.name (AI f),bndF (AZ f) (Bd f) (EB m) m.kJ,ns.length⟩],st2,ns++lX (AZ f) (Bd f) (AI f) m.body (EB m) m.params.length ns.length,qq,⟨k0,by rw[aO,iC];rfl,by rw[bc,aO,gK];exact gu,by rw[bc,aO,gK];exact gv,by rw[aO,gK];have:=aH.cnt_le m.body;omega,iO,cim,c5,t5r,cS,fun j x hj=>(tS j x hj).2⟩,td1,wkR⟩
 ·rw[A1 gC,Is,br]at gu;rw[A1 gC,bndMM,br]at gv;have iW:=aH.cnt_le f.kH
  try refine gf hB.env ?_ o48 [2]
  refine Ad (Pt f.kH.wt f.kH .ay [] 0 st ns _ (bn _) k0 k0 k0 ⟨.inr ⟨rfl,rfl⟩,k7⟩ hB) (fun x S2 hr=>?_);obtain⟨e1,st2,d6,gw⟩:=hr;cases e1;have gL:lX (AZ f) (Bd f) (AI f) f.kH (fun y=>getM 0 y []) 0 ns.length=lX (AZ f) (Bd f) (AI f) f.kH (fun _=>0) 0 ns.length:=rfl;rw[gL]at d6;obtain⟨t5,t5r⟩:=gw _ _ o5 (aZ a10) o6;have tS:∀j x,V j=some x->S2 j=some x /\ ¬Cf st2 j:=fun j x hj=>gw _ _ (oS _ _ hj) (A3 hj b10) (oR _ _ hj);have iI:Ae f=⟨bcs,(AT f).length,gs,ms,ns++lX (AZ f) (Bd f) (AI f) f.kH (fun _=>0) 0 ns.length,ns.length⟩:=by unfold Ae;rw[iJ,gW,<-gu,<-gv]
  generalize iV:ns++lX (AZ f) (Bd f) (AI f) f.kH (fun _=>0) 0 ns.length=nn at*
  try refine gf d6.env ?_ (kX 16 o48) [2]
  generalize go:Sig.set S2 ib _=S3;have c1:S3 ib=some (.cells [sl (bcs.map kF),dI (AT f).length,sl (cI gs),.slice (ms.map Av) (.tag im),mD st2 nn.length,dI ns.length,.map ia,.map is,.map ig]):=by rw[<-go];exact w7 ..
  have c5:S3 i2=some (.cells [.av,dI 0,.av,.av,.av,dI 0]):=by rw[<-go,w8 _ _ (aZ a10)];exact t5
  have cS:∀j x,V j=some x->S3 j=some x /\ ¬Cf st2 j:=fun j x hj=>⟨by rw[<-go,w8 _ _ (A3 hj b10)];exact(tS j x hj).1,(tS j x hj).2⟩
  have cR:lS S3 3 st2 (nn.map Ai):=d6.row.keep fun j x hj hr=>by rw[<-go,w8 _ _ fun e=>d6.nr (by rw[<-e];exact hr)];exact hj
  clear go;obtain⟨S4,rfl,iD,gH,_⟩:=cR.mS;have d1:=gH _ _ c1 d6.nr;have d5:=gH _ _ c5 t5r;have dS:Sub V S4:=fun j x hj=>gH _ _ (cS j x hj).1 (cS j x hj).2;refine kO (Hg (az:=[sl (bcs.map kF),dI (AT f).length,sl (cI gs),.slice (ms.map Av) (.tag im)]) (bs:=[dI ns.length,.map ia,.map is,.map ig]) iD (by rw[aY];exact d1)) ?_;refine kO (Ep (az:=[sl (bcs.map kF),dI (AT f).length,sl (cI gs)]) (d:=.slice (ms.map Av) (.tag im)) (d':=sl (ms.map Av)) (bs:=[sl (nn.map Ai),dI ns.length,.map ia,.map is,.map ig]) (w7 ..) (AO _ _)) ?_;rw[w9];have e1:(S4.set ib (.cells [sl (bcs.map kF),dI (AT f).length,sl (cI gs),sl (ms.map Av),sl (nn.map Ai),dI ns.length,.map ia,.map is,.map ig])) ib=some (.cells [sl (bcs.map kF),dI (AT f).length,sl (cI gs),sl (ms.map Av),sl (nn.map Ai),dI ns.length,.map ia,.map is,.map ig]):=w7 ..;have e5:(S4.set ib (.cells [sl (bcs.map kF),dI (AT f).length,sl (cI gs),sl (ms.map Av),sl (nn.map Ai),dI ns.length,.map ia,.map is,.map ig])) i2=some (.cells [.av,dI 0,.av,.av,.av,dI 0]):=by rw[w8 _ _ (aZ a10)];exact d5
  have eS:Sub V (S4.set ib (.cells [sl (bcs.map kF),dI (AT f).length,sl (cI gs),sl (ms.map Av),sl (nn.map Ai),dI ns.length,.map ia,.map is,.map ig])):=dS.set b10;generalize d8:S4.set ib (.cells ([sl (bcs.map kF),dI (AT f).length,sl (cI gs)]++sl (ms.map Av)::[sl (nn.map Ai),dI ns.length,.map ia,.map is,.map ig]))=S5;have d8:S4.set ib (.cells [sl (bcs.map kF),dI (AT f).length,sl (cI gs),sl (ms.map Av),sl (nn.map Ai),dI ns.length,.map ia,.map is,.map ig])=S5:=d8;rw[d8]at e1 e5 eS;clear d8;refine mixL [0,1,2,3,4,5,6,8,9,10,11,12,7,13,14,15,16,17,18,19,20] [17] ?_
  try refine gf e1 ?_ o48 [2]
  refine moQR ?_
  try refine gf e1 ?_ o48 [2]
  refine moQR ?_
  try refine gf e1 ?_ o48 [2]
  refine moSt (d:=.any) (U':=S5.set ib (.cells [sl (bcs.map kF),dI (AT f).length,sl (cI gs),.slice (ms.map Av) .clip,sl (nn.map Ai),dI ns.length,.map ia,.map is,.map ig])) (S'':=S5) ?_ ?he (fun γ=>?hw) (Sub.refl _)
  case he=>simp[e1]
  case hw=>
   have:=Ep (P:=prog) (n:=155) (γ:=γ) (df:=[]) (az:=[sl (bcs.map kF),dI (AT f).length,sl (cI gs)]) (d:=.slice (ms.map Av) .clip) (d':=sl (ms.map Av)) (bs:=[sl (nn.map Ai),dI ns.length,.map ia,.map is,.map ig]) (V:=S5.set ib (.cells [sl (bcs.map kF),dI (AT f).length,sl (cI gs),.slice (ms.map Av) .clip,sl (nn.map Ai),dI ns.length,.map ia,.map is,.map ig])) (w7 ..) (AO _ _);rw[w9]at this;have h2:=Sig.set_self _ e1;rw[show S5.set ib (.cells ([sl (bcs.map kF),dI (AT f).length,sl (cI gs)]++sl (ms.map Av)::[sl (nn.map Ai),dI ns.length,.map ia,.map is,.map ig]))=S5 from h2]at this;exact this
  try refine gf (gi e1 e5) ?_ o48 [2]
  rw[iI];have iy:WkD (.agg [sl (bcs.map kF),dI (AT f).length,sl (cI gs),sl (ms.map Av),.slice (nn.map Ai) .clip,dI ns.length]) (.agg [sl (bcs.map kF),dI (AT f).length,sl (cI gs),sl (ms.map Av),sl (nn.map Ai),dI ns.length]):=DA (show WkL _ _ from⟨A9 _,A9 _,A9 _,A9 _,AO _ _,A9 _,trivial⟩);refine lI (U':=V) (d:=.agg [sl (bcs.map kF),dI (AT f).length,sl (cI gs),sl (ms.map Av),sl (nn.map Ai),dI ns.length]) ⟨rfl,rfl⟩ (hZ:=(eS.set b10).set gV) (hw:=?_);exact iy
@[reducible,instance] def a48:=fun f V=>ah2 (@RK f V)
def seqI(k:Nat):Nat->fR
 |0=>[]
 |n+1=>(k:Int)::seqI (k+1) n
def QI(f:aL)(c:aJ)(k:Nat):aE:=⟨c.ap.map (lD (kD f)),seqI k c.am.length,c.ar.map fun x=>⟨idxG x.slot (kB f) 0,x.n⟩⟩
def CS(f:aL):List aJ->Nat->List aE
 |[],_=>[]
 |c::r,k=>QI f c k::CS f r (k+c.am.length)
structure F1S(ib ic im i2:Nat)(m:Int)(gs:fR)(own am au:fP)(cl:List aE)(V S1:Sig):Prop where
 env:S1 ib=some (.cells [.slice (cl.map kF) (.tag ic),dI m,sl (cI gs),.slice [] (.tag im),.av,dI 0,sl (cS own),sl (cS am),sl (cS au)])
 oc:S1 ic=some (.tail 3 cl.length)
 om:S1 im=some (.tail 9 0)
 o2:S1 i2=some (.cells [.av,dI 0,.av,.av,.av,dI 0])
 hS:Sub V S1
structure C1S(i8 i9 j1 j2 j3:Nat)(c:aJ)(ps ss:fR)(is:List lR)(V S1:Sig):Prop where
 o8:S1 i8=some (.cells (kL c))
 o9:S1 i9=some (.cells [.slice (cI ps) (.tag j1),.slice (cI ss) (.tag j2),.slice (is.map Ef) (.tag j3)])
 o1:S1 j1=some (.tail 1 ps.length)
 o2:S1 j2=some (.tail 1 ss.length)
 o3:S1 j3=some (.tail 2 is.length)
 hS:Sub V S1
section
variable {i8 i9 j1 j2 j3:Nat}{c:aJ}{ps ss:fR}{is:List lR}{V S1:Sig}
theorem C1S.par(h:C1S i8 i9 j1 j2 j3 c ps ss is V S1)(v:Int)(gE:j1≠j2)(gN:j1≠j3)(gx:i8≠i9)(h9:V i9=none)(h1:V j1=none):
  C1S i8 i9 j1 j2 j3 c (ps++[v]) ss is V ((S1.set j1 (.tail 1 (ps.length+1))).set i9 (.cells [.slice (cI ps++[[dI v]]) (.tag j1),.slice (cI ss) (.tag j2),.slice (is.map Ef) (.tag j3)])):=by
 have n1:j1≠i9:=Ab h.o1 h.o9 k7;have n2:j2≠i9:=Ab h.o2 h.o9 k7;have n3:j3≠i9:=Ab h.o3 h.o9 k7;have n4:i8≠j1:=Ab h.o8 h.o1 k7;refine⟨k8 gx (k8 n4 h.o8),by rw[w7];simp[cI],by rw[w8 _ _ n1,w7,aO];rfl,k8 n2 (k8 (aZ gE) h.o2),k8 n3 (k8 (aZ gN) h.o3),fun j o hj=>?_⟩;rw[w8 _ _ (A3 hj h9),w8 _ _ (A3 hj h1)];exact h.hS j o hj
theorem C1S.slo(h:C1S i8 i9 j1 j2 j3 c ps ss is V S1)(v:Int)(gE:j1≠j2)(gM:j2≠j3)(gx:i8≠i9)(h9:V i9=none)(h1:V j2=none):
  C1S i8 i9 j1 j2 j3 c ps (ss++[v]) is V ((S1.set j2 (.tail 1 (ss.length+1))).set i9 (.cells [.slice (cI ps) (.tag j1),.slice (cI ss++[[dI v]]) (.tag j2),.slice (is.map Ef) (.tag j3)])):=by
 have n1:j1≠i9:=Ab h.o1 h.o9 k7;have n2:j2≠i9:=Ab h.o2 h.o9 k7;have n3:j3≠i9:=Ab h.o3 h.o9 k7;have n4:i8≠j2:=Ab h.o8 h.o2 k7;refine⟨k8 gx (k8 n4 h.o8),by rw[w7];simp[cI],k8 n1 (k8 gE h.o1),by rw[w8 _ _ n2,w7,aO];rfl,k8 n3 (k8 (aZ gM) h.o3),fun j o hj=>?_⟩;rw[w8 _ _ (A3 hj h9),w8 _ _ (A3 hj h1)];exact h.hS j o hj
theorem C1S.ini(h:C1S i8 i9 j1 j2 j3 c ps ss is V S1)(v:lR)(gN:j1≠j3)(gM:j2≠j3)(gx:i8≠i9)(h9:V i9=none)(h1:V j3=none):
  C1S i8 i9 j1 j2 j3 c ps ss (is++[v]) V ((S1.set j3 (.tail 2 (is.length+1))).set i9 (.cells [.slice (cI ps) (.tag j1),.slice (cI ss) (.tag j2),.slice (is.map Ef++[Ef v]) (.tag j3)])):=by
 have n1:j1≠i9:=Ab h.o1 h.o9 k7;have n2:j2≠i9:=Ab h.o2 h.o9 k7;have n3:j3≠i9:=Ab h.o3 h.o9 k7;have n4:i8≠j3:=Ab h.o8 h.o3 k7;refine⟨k8 gx (k8 n4 h.o8),by rw[w7];simp,k8 n1 (k8 gN h.o1),k8 n2 (k8 gM h.o2),by rw[w8 _ _ n3,w7,aO];rfl,fun j o hj=>?_⟩;rw[w8 _ _ (A3 hj h9),w8 _ _ (A3 hj h1)];exact h.hS j o hj
end
def F1S.cls{ib ic im i2:Nat}{m:Int}{gs:fR}{own am au:fP}{cl:List aE}{V S6 S11:Sig}(h:F1S ib ic im i2 m gs own am au cl V S6)(hS:Sub S6 S11)(hb:V ib=none)(hc:V ic=none)(x:aE):
  F1S ib ic im i2 m gs own am au (cl++[x]) V ((S11.set ic (.tail 3 (cl.length+1))).set ib (.cells [.slice (cl.map kF++[kF x]) (.tag ic),dI m,sl (cI gs),.slice [] (.tag im),.av,dI 0,sl (cS own),sl (cS am),sl (cS au)])):=by
 have n1:ic≠ib:=Ab h.oc h.env k7;have n2:im≠ib:=Ab h.om h.env k7;have n3:i2≠ib:=Ab h.o2 h.env k7;have n4:im≠ic:=Ab h.om h.oc k7;have n5:i2≠ic:=Ab h.o2 h.oc k7;refine⟨by rw[w7];simp,by rw[w8 _ _ n1,w7,aO];rfl,k8 n2 (k8 n4 (hS _ _ h.om)),k8 n3 (k8 n5 (hS _ _ h.o2)),fun j o hj=>?_⟩;rw[w8 _ _ (A3 hj hb),w8 _ _ (A3 hj hc)];exact hS _ _ (h.hS j o hj)
def Bf(names am au:fP):List aK->Nat->List aG
 |[],_=>[]
 |m::r,k=>CB names am au m.body m.params k++Bf names am au r (k+m.body.cnt)
def bndMRm(names am au:fP):List aK->Nat->List aF
 |[],_=>[]
 |m::r,k=>⟨m.kind,idxG m.name au 0,E4 names am m.params m.kJ,k⟩::bndMRm names am au r (k+m.body.cnt)
def A6(f:aL):aD:=
 ⟨CS f f.ak 0,(kB f).length,(Bj f).1.map (·.2),bndMRm (kD f) (kB f) (kG f) f.k9 0,
  Bf (kD f) (kB f) (kG f) f.k9 0++CB (kD f) (kB f) (kG f) f.kH [] (Bf (kD f) (kB f) (kG f) f.k9 0).length,(Bf (kD f) (kB f) (kG f) f.k9 0).length⟩
def Fi: ∀(l seen:fP),difE seen l=true ↔ l.Nodup /\ ∀x∈l,x∉seen
 |[],seen=>by simp[difE]
 |x::r,seen=>by
  rw[difE,aN,Fi r,cE];simp only[bA,bk,bi,be,eR,or_false]
  grind
def BD(l:fP):CR l=true ↔ (∀s∈l,Ak s=true)/\l.Nodup:=by
 unfold CR;rw[aN,bh,Fi];simp
def Jx(x:Str): ∀(pre t:fP) (k:Nat),x∉pre->idxG x (pre++x::t) k=(k:Int)+pre.length
 |[],t,k,_=>by rw[bG,idxG,aS rfl];simp
 |y::r,t,k,h=>by
  rw[be,dX]at h;rw[bE,idxG,aQ (fun e=>h.1 e.symm),Jx x r t (k+1) h.2,aV];omega
def LY(s:Str)(j:Nat): ∀(l:fP) (k:Nat),s∈l->idxG s l (k+j)=idxG s l k+j
 |[],_,h=>by cases h
 |x::r,k,h=>by
  rw[idxG,idxG]
  by_cases e:x=s
  ·rw[aS e,aS e];omega
  ·rw[aQ e,aQ e,show k+j+1=k+1+j by omega,LY s j r (k+1) ((be.1 h).resolve_left fun h=>e h.symm)]
def Da(s:Str): ∀(l:fP) (k:Nat) (m:List (Str×Int)),l.Nodup->s∈l->getM 0 s (l8 l k m)=idxG s l k
 |[],_,_,_,h=>by cases h
 | x::r,k,m,hn,h=>by
  rw[cE]at hn;rw[l8,idxG]
  by_cases e:x=s
  ·subst e;rw[aS rfl,(Js r _ _ x).2 hn.1,Ck,aS rfl]
  ·rw[aQ e];exact Da s r (k+1) _ hn.2 ((be.1 h).resolve_left fun h=>e h.symm)
def KE(s:Str)(l:fP)(k:Int)(h:s∉l):getM 0 s (l8 l k [])=0:=(Js l k [] s).2 h
def FO(f:aL)(hn:(kD f).Nodup)(s:Str)(hs:s∈kD f++kK):getM 0 s (AZ f)=lD (kD f) s:=by
 unfold AZ lD;rw[Ck,Ck,Ck];have e1:idxG s kK 0=if wAny=s then 0 else if wInt=s then 1 else if Gc=s then 2 else -1:=rfl
 rw[e1]
 by_cases h1:s=Gc
 ·subst h1;rw[aS rfl];rfl
 ·by_cases h2:s=wInt
  ·subst h2;rw[aQ (by decide),aS rfl];rfl
  ·by_cases h3:s=wAny
   ·subst h3;rw[aQ (by decide),aQ (by decide),aS rfl];rfl
   ·rw[aQ h1,aQ h2,aQ h3,aQ (fun e:wAny=s=>h3 e.symm),aQ (fun e:wInt=s=>h2 e.symm),aQ (fun e:Gc=s=>h1 e.symm),aQ k0]
    have hm:s∈kD f:=by
     rcases bi.1 hs with h|h
     ·exact h
     ·simp[kK,h1,h2,h3]at h
    have:=Da s (kD f) 3 [] hn hm;have h4:=LY s 3 (kD f) 0 hm;rw[bZ]at h4;rw[show f.ak.map (·.name)=kD f from rfl,show(3:Int)=((3:Nat):Int) from rfl,this,h4]
def Zv(f:aL)(h:[]∉kD f):getM 0 [] (AZ f)=0:=by
 unfold AZ;rw[Ck,Ck,Ck,aQ (by decide),aQ (by decide),aQ (by decide)];exact KE [] _ 3 h
def Ux: ∀(xs pre post:fP),(pre++xs++post).Nodup->xs.map (fun s=>idxG s (pre++xs++post) 0)=seqI pre.length xs.length
 |[],pre,post,_=>rfl
 | x::r,pre,post,h=>by
  have h1:x∉pre:=fun hx=>by
   rw[bc,dk]at h;exact h.2.2 x hx x k7 rfl
  have h2:=Jx x pre (r++post) 0 h1;have ih:=Ux r (pre++[x]) post (by simpa[bc] using h);rw[bg,aV,seqI];have e:pre++x::r++post=pre++[x]++r++post:=by simp
  have e2:pre++x::r++post=pre++x::(r++post):=by simp
  congr 1
  ·rw[e2,h2];simp
  ·rw[e,ih];simp
structure FOK(f:aL):Prop where
 own:(kD f).Nodup
 ownB:∀s∈kD f,Ak s=true
 slo:(kB f).Nodup
 sloB:∀s∈kB f,Ak s=true
 par:∀c∈f.ak, ∀s∈c.ap,s∈kD f
 ini:∀c∈f.ak, ∀x∈c.ar,x.slot∈kB f
 mainC:(lK f.kH 1 120).1=true
 mainS:DD [] (kB f) (kD f) false f.kH=true
 met:∀m∈f.k9,C4 m=true/\(∃b,0<=b/\(l6 m.params (kB f) (kD f++kK) m.kJ 1 b).1=true)/\(lK m.body 1 120).1=true /\ ∃t,DD m.params (kB f) (kD f) t m.body=true
 gen:(Bj f).2=true
def Rx{mine:fP}: ∀{l:List aM}{seen:fP},iniR mine seen l=true->∀x∈l,x.slot∈mine
 |[],_,_,x,hx=>by cases hx
 |y::r,seen,h,x,hx=>by
  rw[iniR]at h;simp only[aN,aP]at h;rcases be.1 hx with rfl|hx
  ·exact h.1.1
  ·exact Rx h.2 x hx
def ON{f:aL}: ∀{l:List aJ}{i:Nat},inisR f i l=true->∀c∈l, ∀x∈c.ar,x.slot∈kB f
 |[],_,_,c,hc=>by cases hc
 | y::r,i,h,c,hc=>by
  rw[inisR,aN]at h;rcases be.1 hc with rfl|hc
  ·intro x hx;obtain⟨j,hj,_,h2⟩:=(Fa _ _).1 (Rx h.1 x hx);exact dw.2 ⟨_,aR hj,h2⟩
  ·exact ON h.2 c hc
def LP{S O:fP}: ∀{l:List aK}{b:Int},0<=b->Dn S O l b=true->∀m∈l,C4 m=true/\(∃b,0<=b/\(l6 m.params S (O++kK) m.kJ 1 b).1=true)/\(lK m.body 1 120).1=true /\ ∃t,DD m.params S O t m.body=true
 |[],_,_,_,m,hm=>by cases hm
 | y::r,b,hb,h,m,hm=>by
  rw[Dn,aN]at h;rcases be.1 hm with rfl|hm
  ·have h1:=h.1;unfold Cv at h1;split at h1
   ·rename_i q1;split at h1
    ·rename_i q2;simp only[aN]at h1;exact⟨q1,⟨b,hb,q2.1⟩,q2.2,_,h1.2⟩
    ·cases h1
   ·cases h1
  ·exact LP (GN S O y b hb h.1).1 h.2 m hm
def Fe{f:aL}(h:Cg f=true):FOK f:=by
 unfold Cg Ib D9 at h;simp only[aN,aP]at h;obtain⟨⟨h1,⟨h2,h3,h4,h5⟩,h6,h7⟩,⟨h8,h9⟩,iS,iR,gE⟩:=h;obtain⟨a1,a2⟩:=(BD _).1 h4;obtain⟨b1,b2⟩:=(BD _).1 h5;refine⟨a2,a1,b2,b1,fun c hc s hs=>?_,ON h6,h7,h9,LP h8 iS,iR⟩;have:=(FQ _ _ h3 c hc).2 s hs;rw[bG]at this;exact this
def Q0{f:aL}(h:FOK f): ∀(l pre:List aJ),f.ak=pre++l->CS f l (pre.flatMap (·.am)).length=l.map (FT (AZ f) (Bd f))
 |[],_,_=>rfl
 | c::r,pre,hf=>by
  have hc:c∈f.ak:=by rw[hf];simp
  have hs:kB f=pre.flatMap (·.am)++c.am++r.flatMap (·.am):=by unfold kB;rw[hf];simp
  have gO:∀s∈kB f,getM 0 s (Bd f)=idxG s (kB f) 0:=fun s hs=>Da s (kB f) 0 [] h.slo hs;have ih:=Q0 h r (pre++[c]) (by rw[hf];simp);rw[fo,aO]at ih;simp only[cx,eV,br]at ih;rw[CS,ih,bg]
  congr 1
  unfold QI FT;have e1:c.ap.map (lD (kD f))=c.ap.map fun s=>getM 0 s (AZ f):=bF fun s hs=>(FO f h.own s (bu _ (h.par c hc s hs))).symm
  have e2:(c.am.map fun s=>getM 0 s (Bd f))=seqI (pre.flatMap (·.am)).length c.am.length:=by
   rw[<-Ux c.am (pre.flatMap (·.am)) (r.flatMap (·.am)) (by rw[<-hs];exact h.slo),<-hs];exact bF fun s hx=>gO s (by rw[hs];simp[hx])
  have e3:(c.ar.map fun x=>(⟨idxG x.slot (kB f) 0,x.n⟩:lR))=c.ar.map fun x=>⟨getM 0 x.slot (Bd f),x.n⟩:=bF fun x hx=>by rw[gO _ (h.ini c hc x hx)]
  rw[e1,e2,e3]
def Vj{P:fP}(hP:P.Nodup){y:Str}(hy:y∈P):getM 0 y (l8 P 0 [])=idxG y P 0:=Da y P 0 [] hP hy
mutual
def ae{f:aL}(h:FOK f){m:aK}(hP:m.params.Nodup)(fZ:[]∉m.params): ∀(x:aI) (d:Int),CX (lN m.params (kB f) (kD f++kK)) x d=true->bndF (AZ f) (Bd f) (EB m) x=E4 (kD f) (kB f) m.params x
 | .mk o s p c n k,d,hx=>by
  rw[CX,aN]at hx;obtain⟨h1,h2⟩:=hx;have iK:[]∉kD f:=fun hm=>by have:=h.ownB _ hm;rw[DR]at this;cases this
  unfold lN fctB fctC at h1;simp only[aN,aP]at h1;obtain⟨_,_,⟨⟨⟨⟨_,q1⟩,_⟩,⟨q2,q3⟩,_⟩,q4⟩⟩:=h1;have q1:(if Al o=true then decide (s∈m.params) else(decide (s=[])&&decide (p=[])))=true:=q1;have q2:(decide (o=2) == !decide (c=[]))=true:=q2;have q3:(!decide (o=2)||decide (c∈kD f++kK))=true:=q3;rw[bndF,E4,XH h hP fZ k (d+1) h2]
  congr 1
  ·by_cases hs:s=[]
   ·rw[aS hs,hs];exact KE [] _ 0 fZ
   ·rw[aQ hs];refine Vj hP ?_
    by_cases hn:Al o=true
    ·rw[aS hn]at q1;exact bx q1
    ·rw[aQ hn]at q1;simp[hs]at q1
  ·refine bF fun x hx=>Da x (kB f) 0 [] h.slo ?_;exact bx (bh.1 q4 x hx)
  ·by_cases hc:c=[]
   ·rw[aS hc,hc];exact Zv f iK
   ·rw[aQ hc];refine FO f h.own c ?_;simp[hc]at q2;simpa[q2] using q3
def XH{f:aL}(h:FOK f){m:aK}(hP:m.params.Nodup)(fZ:[]∉m.params): ∀(l:List aI) (d:Int),Bi (lN m.params (kB f) (kD f++kK)) l d=true->GE (AZ f) (Bd f) (EB m) l=C2 (kD f) (kB f) m.params l
 |[],_,_=>by rw[GE,C2]
 |x::r,d,hx=>by
  rw[Bi,aN]at hx;rw[GE,C2,ae h hP fZ x d hx.1,XH h hP fZ r d hx.2]
end
def OJ(y t:Str): ∀(l:fP) (k:Nat) (n:Int),D6 y (l++[t]) k n=if t=y then((k+l.length:Nat):Int) else D6 y l k n
 |[],k,n=>by rw[bG,D6,D6,D6];simp
 |x::r,k,n=>by
  rw[bE,D6,D6,OJ y t r,aV,show k+1+r.length=k+(r.length+1) by omega]
def OI(y:Str): ∀(l:fP) (k:Nat) (m:List (Str×Int)),getM 0 y (l8 l k m)=D6 y l k (getM 0 y m)
 |[],_,_=>by rw[l8,D6]
 |x::r,k,m=>by
  rw[l8,D6];have:=OI y r (k+1) (putM x k m);rw[show((k:Int)+1)=((k+1:Nat):Int) by omega,this,Ck]
  congr 1
  by_cases e:y=x
  ·rw[aS e,aS e.symm]
  ·rw[aQ e,aQ fun h=>e h.symm]
mutual
def SB{f:aL}(h:FOK f){t0:Bool}: ∀(e:aH) (d:Int) (env:Str->Int) (own:fP) (k:Nat),allD CO e d=true->(allE e).all (ko (kD f) (kB f) t0)=true->l9 (CallsIn (kG f)) e->(∀y,env y=D6 y own 0 0)->
  lX (AZ f) (Bd f) (AI f) e env own.length k=CB (kD f) (kB f) (kG f) e own k
 | .mk o n t l,d,env,own,k,h1,h2,h3,he=>by
  rw[allD,aN]at h1;rw[allE,bU,aN]at h2;rw[l9]at h3;rw[lX,CB,XJ h o t l 0 (d+1) env own (k+1) h1.2 h2.2 h3.2 he]
  congr 1
  congr 1
  unfold bndN Dt;have q2:(if o=4\/o=7 then decide (t∈kB f) else if o=6\/o=8 then decide (t∈kD f) else if o=18 then t0 else true)=true:=h2.1
  by_cases c3:o=3
  ·rw[aS c3,aS c3,he t];have:n=0:=(LM h1.1 c3).2;rw[this]
  ·rw [aQ c3,aQ c3]
   by_cases c4:o=4\/o=7
   ·rw[aS c4,aS c4];rw[aS c4]at q2;exact Da t (kB f) 0 [] h.slo (bx q2)
   ·rw[aQ c4,aQ c4];rw[aQ c4]at q2
    by_cases c5:o=5
    ·rw[aS c5,aS c5];exact Da t (kG f) 0 [] (BY f).1 (h3.1 c5)
    ·rw[aQ c5,aQ c5]
     by_cases c6:o=6\/o=8
     ·rw[aS c6,aS c6];rw[aS c6]at q2;exact FO f h.own t (bu _ (bx q2))
     ·rw[aQ c6,aQ c6]
def XJ{f:aL}(h:FOK f){t0:Bool}(o:Int)(t:Str): ∀(l:List aH) (i:Nat) (d:Int) (env:Str->Int) (own:fP) (k:Nat),Eh CO l d=true->(As l).all (ko (kD f) (kB f) t0)=true->Dd (CallsIn (kG f)) l->(∀y,env y=D6 y own 0 0)->
  Ha (AZ f) (Bd f) (AI f) o t l i env own.length k=Ce (kD f) (kB f) (kG f) o t l i own k
 |[],_,_,_,_,_,_,_,_,_=>by rw[Ha,Ce]
 | x::r,i,d,env,own,k,h1,h2,h3,he=>by
  rw[Eh,aN]at h1;rw[As,dp,aN]at h2;rw[Dd]at h3;rw[Ha,Ce,XJ h o t r (i+1) d env own (k+x.cnt) h1.2 h2.2 h3.2 he]
  congr 1
  by_cases c:o=9/\i=1
  ·rw[aS c,aS c]
   have:=SB h x d (updE env t own.length) (own++[t]) k h1.1 h2.1 h3.1 (fun y=>by
    rw[OJ,bZ];unfold updE
    by_cases e:y=t
    ·rw[aS e,aS e.symm]
    ·rw[aQ e,aQ fun h=>e h.symm];exact he y)
   rw[aO]at this;exact this
  ·rw[aQ c,aQ c];exact SB h x d env own k h1.1 h2.1 h3.1 he
end
def EE{free am own:fP}{t:Bool}{e:aH}(h:DD free am own t e=true):(allE e).all (ko own am t)=true:=by
 unfold DD at h;rw[aN]at h;exact h.1
def aa{f:aL}(h:FOK f): ∀(l:List aK) (k:Nat),(∀m∈l,m∈f.k9)->
  bndMM (AZ f) (Bd f) (AI f) l k=bndMRm (kD f) (kB f) (kG f) l k/\Is (AZ f) (Bd f) (AI f) l k=Bf (kD f) (kB f) (kG f) l k
 |[],_,_=>⟨rfl,rfl⟩
 |m::r,k,hl=>by
  obtain⟨i1,i2⟩:=aa h r (k+m.body.cnt) fun m hm=>hl m (by simp[hm])
  have hm:=hl m k7;obtain⟨m1,⟨b,hb,m2⟩,m3,t,m4⟩:=h.met m hm;obtain⟨g1,g2,g3⟩:=BY f;have hp:CR m.params=true:=by unfold C4 at m1;simp only[aN]at m1;exact m1.2.2.2.2
  obtain⟨p1,p2⟩:=(BD _).1 hp;have fZ:[]∉m.params:=fun hx=>by have:=p1 _ hx;rw[DR]at this;cases this
  have hF:=ae h p2 fZ m.kJ 1 ((DN m.kJ 1 b hb).1.1 m2).1;have hE:=SB h m.body 1 (EB m) m.params k ((C8 m.body 1 120 k0).1.1 m3).1 (EE m4) (g2 m hm).2 (fun y=>by unfold EB;exact OI y m.params 0 []);have hG:getM 0 m.name (AI f)=idxG m.name (kG f) 0:=Da m.name (kG f) 0 [] g1 (g2 m hm).1;exact⟨by rw[bndMM,bndMRm,i1,hF,hG],by rw[Is,Bf,i2,hE]⟩
def Told(G:List (Str×Int))(s:Str)(n:Int):Prop:=hasM s G=true/\getM 0 s G=n
def HL{G H:List (Str×Int)}{s:Str}{n:Int}(h:Told G s n):Told (G++H) s n:=by
 obtain⟨h1,h2⟩:=h
 induction G with
 |nil=>cases h1
 |cons a r ih=>
  obtain⟨x,v⟩:=a;rw[hasM]at h1;rw[getM]at h2;unfold Told;rw[bE,hasM,getM]
  by_cases e:s=x
  ·simp[e]at h2⊢; exact h2
  ·simp[e]at h1 h2⊢; exact ih h1 h2
def QY(s:Str)(n:Int): ∀G:List (Str×Int),hasM s G=false->Told (G++[(s,n)]) s n
 |[],_=>by unfold Told;rw[bG,hasM,getM];simp
 |(x,v)::r,h=>by
  rw[hasM]at h;obtain⟨i1,i2⟩:=QY s n r (by simp at h;exact h.2);unfold Told;rw[bE,hasM,getM]
  by_cases e:s=x
  ·simp[e]at h
  ·simp[e,i1,i2]
def Og(s:Str)(n:Int)(g:kZ):(∃H,(l5 s n g).1=g.1++H)/\(∀x∈(l5 s n g).1.map (·.1),x∈g.1.map (·.1)\/x=s)/\((l5 s n g).2=true->g.2=true/\Told (l5 s n g).1 s n):=by
 unfold l5
 by_cases h:hasM s g.1=true
 ·rw[aS h];refine⟨⟨[],k7⟩,fun x hx=>.inl hx,fun hh=>?_⟩;simp only[aN,aP]at hh;exact⟨hh.1,h,hh.2⟩
 ·rw[aQ h];exact⟨⟨_,rfl⟩,fun x hx=>by simpa using hx,fun hh=>⟨hh,QY s n _ (by simpa using h)⟩⟩
def Lf(G:List (Str×Int))(x:aH):Prop:=x.op=5->Told G x.text x.aq.length
def Ul{G:List (Str×Int)}(H:List (Str×Int))(e:aH)(h:l9 (Lf G) e):l9 (Lf (G++H)) e:=Fq (fun x hx h5=>HL (hx h5)) e h
def kS(l:List aH):fP:=(l.filter fun x=>decide (x.op=5)).map (·.text)
mutual
def Vm: ∀(e:aH) (g:kZ),(∃H,(genE e g).1=g.1++H)/\(∀x∈(genE e g).1.map (·.1),x∈g.1.map (·.1)\/x∈kS (allE e))/\((genE e g).2=true->g.2=true/\l9 (Lf (genE e g).1) e)
 | .mk o n t k,g=>by
  rw[genE,allE,l9]
  by_cases h5:o=5
  ·rw[aS h5];obtain⟨⟨H1,a1⟩,a2,a3⟩:=Og t k.length g;obtain⟨⟨H2,b1⟩,b2,b3⟩:=Fd k (l5 t k.length g);have hc:kS (aH.mk o n t k::As k)=t::kS (As k):=by unfold kS;rw[cP,aS (show decide ((aH.mk o n t k).op=5)=true from bf h5)];rfl
   refine⟨⟨H1++H2,by rw[b1,a1,bc]⟩,fun x hx=>?_,fun hh=>?_⟩
   ·rw[hc];rcases b2 x hx with h|h
    ·rcases a2 x h with h|h
     ·exact .inl h
     ·exact .inr (by simp[h])
    ·exact .inr (by simp[h])
   ·obtain⟨c1,c2⟩:=b3 hh;obtain⟨d1,d2⟩:=a3 c1;exact⟨d1,fun _=>by rw[b1];exact HL d2,c2⟩
  ·rw[aQ h5];obtain⟨b1,b2,b3⟩:=Fd k g;have hc:kS (aH.mk o n t k::As k)=kS (As k):=by unfold kS;rw[cP,aQ (show ¬decide ((aH.mk o n t k).op=5)=true from fun h=>h5 (bx h))]
   rw[hc];exact⟨b1,b2,fun hh=>⟨(b3 hh).1,fun h=>absurd h h5,(b3 hh).2⟩⟩
def Fd: ∀(l:List aH) (g:kZ),(∃H,(AV l g).1=g.1++H)/\(∀x∈(AV l g).1.map (·.1),x∈g.1.map (·.1)\/x∈kS (As l))/\((AV l g).2=true->g.2=true/\Dd (Lf (AV l g).1) l)
 |[],g=>by rw[AV,As,Dd];exact⟨⟨[],k7⟩,fun x hx=>.inl hx,fun h=>⟨h,trivial⟩⟩
 | y::r,g=>by
  obtain⟨⟨H1,a1⟩,a2,a3⟩:=Vm y g;obtain⟨⟨H2,b1⟩,b2,b3⟩:=Fd r (genE y g);have hc:kS (allE y++As r)=kS (allE y)++kS (As r):=by unfold kS;rw[cn,bL]
  rw[AV,As,Dd,hc];refine⟨⟨H1++H2,by rw[b1,a1,bc]⟩,fun x hx=>?_,fun hh=>?_⟩
  ·rcases b2 x hx with h|h
   ·rcases a2 x h with h|h
    ·exact .inl h
    ·exact .inr (bu _ h)
   ·exact .inr (cC _ h)
  ·obtain⟨c1,c2⟩:=b3 hh;obtain⟨d1,d2⟩:=a3 c1;exact⟨d1,by rw[b1];exact Ul H2 y d2,c2⟩
end
def Ko: ∀(l:List aK) (g:kZ),(∃H,(metG l g).1=g.1++H)/\(∀x∈(metG l g).1.map (·.1),x∈g.1.map (·.1)\/x∈l.map (·.name))/\((metG l g).2=true->g.2=true /\ ∀m∈l,Told (metG l g).1 m.name m.params.length)
 |[],g=>⟨⟨[],by simp[metG]⟩,fun x hx=>.inl hx,fun h=>⟨h,fun m hm=>by cases hm⟩⟩
 | y::r,g=>by
  obtain⟨⟨H1,a1⟩,a2,a3⟩:=Og y.name y.params.length g;obtain⟨⟨H2,b1⟩,b2,b3⟩:=Ko r (l5 y.name y.params.length g);rw[metG];refine⟨⟨H1++H2,by rw[b1,a1,bc]⟩,fun x hx=>?_,fun hh=>?_⟩
  ·rcases b2 x hx with h|h
   ·rcases a2 x h with h|h
    ·exact .inl h
    ·exact .inr (by simp[h])
   ·exact .inr (by rw[bg];exact dH _ h)
  ·obtain⟨c1,c2⟩:=b3 hh;obtain⟨d1,d2⟩:=a3 c1;refine⟨d1,fun m hm=>?_⟩;rcases be.1 hm with rfl|hm
   ·rw[b1];exact HL d2
   ·exact c2 m hm
def OkA(G:List (Str×Int))(a:fR)(i:Nat):Prop:= ∃h:i<G.length,a[i]? = some (G[i].2)
def UL{G:List (Str×Int)}{gm:List (Str×Int)}(hg:∀s,hasM s G=true->getM 0 s gm=idxG s (G.map (·.1)) 0){a:fR}{s:Str}{n:Int}(hl:a.length=G.length)(ht:Told G s n):
  OkA G (a.set (getM 0 s gm).toNat n) (getM 0 s gm).toNat /\ ∀i,OkA G a i->OkA G (a.set (getM 0 s gm).toNat n) i:=by
 obtain⟨h1,h2⟩:=ht;obtain⟨j,hj,e1,e2⟩:=Jw s G 0 h1;have e3:(getM 0 s gm).toNat=j:=by rw[hg s h1,e1];omega
 rw[e3];have key:OkA G (a.set j n) j:=⟨hj,by rw[dJ];simp[hl,hj,e2,h2]⟩;refine⟨key,fun i ⟨hi,hh⟩=>?_⟩
 by_cases e:j=i
 ·rw[<-e];exact key
 ·exact⟨hi,by rw[dJ,aQ e];exact hh⟩
section
variable {G gm:List (Str×Int)}(hg:∀s,hasM s G=true->getM 0 s gm=idxG s (G.map (·.1)) 0)
include hg
mutual
theorem QM: ∀(e:aH) (a:fR),a.length=G.length->l9 (Lf G) e->(∀i,OkA G a i->OkA G (argE gm e a) i) /\ ∀s∈kS (allE e),OkA G (argE gm e a) (getM 0 s gm).toNat
 | .mk o n t k,a,hl,h=>by
  rw[l9]at h;rw[argE,allE]
  by_cases h5:o=5
  ·rw[aS h5];obtain⟨s1,s2⟩:=UL hg hl (h.1 h5);obtain⟨b1,b2⟩:=NT k (a.set (getM 0 t gm).toNat k.length) (by rw[cg];exact hl) h.2;have hc:kS (aH.mk o n t k::As k)=t::kS (As k):=by unfold kS;rw[cP,aS (show decide ((aH.mk o n t k).op=5)=true from bf h5)];rfl
   rw[hc];refine⟨fun i hi=>b1 i (s2 i hi),fun s hs=>?_⟩;rcases be.1 hs with rfl|hs
   ·exact b1 _ s1
   ·exact b2 s hs
  ·rw[aQ h5];have hc:kS (aH.mk o n t k::As k)=kS (As k):=by unfold kS;rw[cP,aQ (show ¬decide ((aH.mk o n t k).op=5)=true from fun h=>h5 (bx h))]
   rw[hc];exact NT k a hl h.2
theorem NT: ∀(l:List aH) (a:fR),a.length=G.length->Dd (Lf G) l->(∀i,OkA G a i->OkA G (Fo gm l a) i) /\ ∀s∈kS (As l),OkA G (Fo gm l a) (getM 0 s gm).toNat
 |[],a,hl,h=>by rw[Fo,As];exact⟨fun _ h=>h,fun s hs=>by cases hs⟩
 |x::r,a,hl,h=>by
  rw[Dd]at h;obtain⟨a1,a2⟩:=QM x a hl h.1;obtain⟨b1,b2⟩:=NT r (argE gm x a) (by rw[DO];exact hl) h.2;have hc:kS (allE x++As r)=kS (allE x)++kS (As r):=by unfold kS;rw[cn,bL]
  rw[Fo,As,hc];refine⟨fun i hi=>b1 i (a1 i hi),fun s hs=>?_⟩;rcases bi.1 hs with hs|hs
  ·exact b1 _ (a2 s hs)
  ·exact b2 s hs
end
theorem XN: ∀(l:List aK) (a:fR),a.length=G.length->(∀m∈l,Told G m.name m.params.length/\l9 (Lf G) m.body)->(∀i,OkA G a i->OkA G (argM gm l a) i) /\ ∀m∈l,OkA G (argM gm l a) (getM 0 m.name gm).toNat /\ ∀s∈kS (allE m.body),OkA G (argM gm l a) (getM 0 s gm).toNat
 |[],a,hl,h=>by rw[argM];exact⟨fun _ h=>h,fun m hm=>by cases hm⟩
 |x::r,a,hl,h=>by
  obtain⟨t1,t2⟩:=h x k7;obtain⟨s1,s2⟩:=UL hg hl t1;obtain⟨a1,a2⟩:=QM hg x.body (a.set (getM 0 x.name gm).toNat x.params.length) (by rw[cg];exact hl) t2;obtain⟨b1,b2⟩:=XN r (argE gm x.body (a.set (getM 0 x.name gm).toNat x.params.length)) (by rw[DO,cg];exact hl) fun m hm=>h m (by simp[hm])
  rw[argM];refine⟨fun i hi=>b1 i (a1 i (s2 i hi)),fun m hm=>?_⟩;rcases be.1 hm with rfl|hm
  ·exact⟨b1 _ (a1 _ s1),fun s hs=>b1 _ (a2 s hs)⟩
  ·exact b2 m hm
end
def Ir: ∀(l:List aK) (e:aH) (s:Str),s∈kS (As (l.map (·.body)++[e]))->(∃m∈l,s∈kS (allE m.body))\/s∈kS (allE e)
 |[],e,s,h=>by
  rw[cq,bG,As,As,br]at h;exact .inr h
 | m::r,e,s,h=>by
  rw[bg,bE,As]at h;have hc:kS (allE m.body++As (r.map (·.body)++[e]))=kS (allE m.body)++kS (As (r.map (·.body)++[e])):=by unfold kS;rw[cn,bL]
  rw[hc]at h;rcases bi.1 h with h|h
  ·exact .inl ⟨m,k7,h⟩
  ·rcases Ir r e s h with⟨m',h1,h2⟩|h
   ·exact .inl ⟨m',by simp[h1],h2⟩
   ·exact .inr h
def args_R{f:aL}(hG:(Bj f).2=true):HA (AI f) f=(Bj f).1.map (·.2):=by
 obtain⟨g1,g2,g3⟩:=BY f;obtain⟨⟨H1,a1⟩,a2,a3⟩:=Ko f.k9 ([],true);obtain⟨⟨H2,b1⟩,b2,b3⟩:=Fd (Br f) (metG f.k9 ([],true));have eG:AV (Br f) (metG f.k9 ([],true))=Bj f:=rfl;rw[eG]at b1 b2 b3;obtain⟨c1,c2⟩:=b3 hG;obtain⟨_,c3⟩:=a3 c1;have gh:=Iv _ c2;generalize iL:(Bj f).1=G at*;have hk:G.map (·.1)=kG f:=by rw[<-iL];rfl
 have hg:∀s,hasM s G=true->getM 0 s (AI f)=idxG s (G.map (·.1)) 0:=fun s hs=>by
  rw[hk];exact Da s (kG f) 0 [] g1 (by rw[<-hk];exact(FE _ _).1 hs)
 have hlen:(AI f).length=G.length:=by rw[JC,<-hk,aY]
 have hM:∀m∈f.k9,Told G m.name m.params.length/\l9 (Lf G) m.body:=fun m hm=>⟨by rw[b1];exact HL (c3 m hm),gh _ (by unfold Br;exact bu _ (cp hm))⟩
 obtain⟨d1,d2⟩:=XN hg f.k9 (List.replicate (AI f).length 0) (by rw[bB,hlen]) hM;have ij:(argM (AI f) f.k9 (List.replicate (AI f).length 0)).length=G.length:=by rw[JJ,bB,hlen]
 obtain⟨e1,e2⟩:=QM hg f.kH _ ij (gh f.kH (by unfold Br;simp));have hl:(HA (AI f) f).length=G.length:=by unfold HA;rw[DO];exact ij
 refine ek fun i=>?_
 by_cases hi:i<G.length
 ·have hx:(G[i]).1∈G.map (·.1):=cp (aR hi)
  have gQ:OkA G (HA (AI f) f) (getM 0 (G[i]).1 (AI f)).toNat:=by
   unfold HA;rcases b2 _ hx with h|h
   ·rcases a2 _ h with h|h
    ·cases h
    ·obtain⟨m,h1,h2⟩:=bD.1 h;rw[<-h2];exact e1 _ (d2 m h1).1
   ·rcases Ir f.k9 f.kH _ h with⟨m,h1,h2⟩|h
    ·exact e1 _ ((d2 m h1).2 _ h2)
    ·exact e2 _ h
  have gG:(G.map (·.1)).Nodup:=by rw[hk];exact g1
  have iG:(getM 0 (G[i]).1 (AI f)).toNat=i:=by
   rw[hg _ ((FE _ _).2 hx)]
   have hs:G.map (·.1)=(G.take i).map (·.1)++(G[i]).1::(G.drop (i+1)).map (·.1):=by
    rw[<-bg,<-bL];simp
   rw[hs]at gG⊢
   rw[Jx _ _ _ 0 (fun hm=>by
    rw[dk]at gG
    exact gG.2.2 _ hm _ k7 rfl)]
   rw[aY,ck];omega
  rw[iG]at gQ;obtain⟨_,h⟩:=gQ;rw[h,bN,aT hi];rfl
 ·rw[bW k0,bW (by rw[aY];omega)]
def FR{f:aL}(hf:Cg f=true):A6 f=Ae f:=by
 have h:=Fe hf;obtain⟨m1,m2⟩:=aa h f.k9 0 fun m hm=>hm;have hC:=Q0 h f.ak [] rfl;have hA:=args_R h.gen;obtain⟨g1,g2,g3⟩:=BY f;have hE:=fun k=>SB h f.kH 1 (fun _=>0) [] k ((C8 f.kH 1 120 k0).1.1 h.mainC).1 (EE h.mainS) g3 (fun y=>rfl);unfold A6 Ae;rw[<-m1,<-m2,<-hA,<-hE];have hC:CS f f.ak 0=f.ak.map (FT (AZ f) (Bd f)):=hC;rw[hC];rfl
end Go.DL
