/- A part of the proof. -/
import Derived.Test.YtlfimpogphmbdaaGreatQ26
set_option linter.all false
namespace Go.DL
open Go.Proofs.Tryz
open Go Go.Proofs
set_option maxHeartbeats 8000000
theorem BS.envS{ib ia is ig:Nat}{a b c d f:D}{cm sm gm:List (Str×Int)}{st:MR}{ns:List aA}{V:Sig}(h:BS ib ia is ig a b c d f cm sm gm st ns V):EnvS ib ia is ig [a,b,c,d,mD st ns.length,f] cm sm gm V:=⟨⟨_,_,_,_,_,_,rfl,h.env⟩,h.oa,h.os,h.og⟩
section
variable {ops:Array Oper}{n N:Nat}{ro:Option Nat}{S0:Sig}{Q:DX->St->Prop}{df:List DDf}{γ Sr:List (Nat×D)}{V:Sig}{ty:TypeId}{pos:String}{after:Array Edge}{d:D}
theorem moSt{op:Op}{l:List (Bool×Oper)}{S' S'':Sig}(h:MO prog ro n ops N S0 Q df l γ S'')(he:eopD tab Sr V op=some (d,S'))(hw:∀γ,Wk prog n ⟨γ,S',df⟩ ⟨γ,S'',df⟩)(hC:Sub S0 S'')(hl:A8 γ (Ad op.operands.toList)=some Sr:=by exact tdR):
  MO prog ro n ops N S0 Q df ((true,⟨none,op,ty,pos,after,none⟩)::l) γ V:=
 XZ (o:=⟨none,op,ty,pos,after,none⟩) rfl rfl rfl (Fl Af rfl (by rw[Bz (U':=γ) fun x hx=>Cj (o:=⟨none,op,ty,pos,after,none⟩) hx];exact(Bz (Cy hl)) ▸ he) rfl (BA (hw _) (AP ⟨rfl,hC,h⟩)))
end
theorem Qx(f:aF)(V:Sig)(hw:f.wt<=10000000)(hs:(BG f).isSome=true):au prog 48 [.agg (Bd f)] V (rS (.agg (Ai (Av f))) V):=by
 obtain⟨p1,p2,p3,p4,p5⟩:=f.wt_le
 have gD:=KS f
 have fO:(gensN f).length<=f.wt:=by have:=FU f;unfold gensN;rw[aZ];exact this
 have gx:(f.aa.map (·.name)).length<=1073741824:=by rw[aZ];omega
 have iV:(BM f).1.map (·.1)=gensN f:=rfl
 refine en func48 ntmps48 ?_
 try refine gz ?_ o48 [2]
 refine newV (fun i2 gN=>?_)
 repeat ((fail_if_success (first|(refine callWP (Oy f.aa (·.name) 103 [] .no _ (by omega) (fun x hx S' _=>Ox x S')) (fun x S1 hr=>?_) (fun x S1 hr=>by cases hr.1))|fail));(refine goX1 (gi iV hs) ?_))
 refine callWP (Oy f.aa (·.name) 103 [] .no _ (by omega) (fun x hx S' _=>Ox x S')) (fun x S1 hr=>?_) (fun x S1 hr=>by cases hr.1)
 obtain⟨e1,e2⟩:=hr
 cases e1
 rw[e2]
 clear e2 S1
 repeat ((fail_if_success (first|(refine Ac (DZ (f.aa.map (·.name)) 3 .no _ gx ⟨by omega,by omega⟩) (fun x S1 hr=>?_) (fun x S1 hr=>by obtain⟨_,_,h,_⟩:=hr;cases h))|fail));(refine goX1 trivial ?_))
 refine Ac (DZ (f.aa.map (·.name)) 3 .no _ gx ⟨by omega,by omega⟩) (fun x S1 hr=>?_) (fun x S1 hr=>by obtain⟨_,_,h,_⟩:=hr;cases h)
 obtain⟨ia,gZ,e1,e2⟩:=hr
 cases e1
 rw[e2]
 clear e2 S1
 repeat ((fail_if_success (first|(refine Ac (DZ (AN f) 0 .no _ (by omega) ⟨by omega,by omega⟩) (fun x S1 hr=>?_) (fun x S1 hr=>by obtain⟨_,_,h,_⟩:=hr;cases h))|fail));(refine goX1 trivial ?_))
 refine Ac (DZ (AN f) 0 .no _ (by omega) ⟨by omega,by omega⟩) (fun x S1 hr=>?_) (fun x S1 hr=>by obtain⟨_,_,h,_⟩:=hr;cases h)
 obtain⟨is,gX,e1,e2⟩:=hr
 cases e1
 rw[e2]
 clear e2 S1
 repeat ((fail_if_success (first|(refine Ac (DZ (gensN f) 0 .no _ (by omega) ⟨by omega,by omega⟩) (fun x S1 hr=>?_) (fun x S1 hr=>by obtain⟨_,_,h,_⟩:=hr;cases h))|fail));(refine goX1 trivial ?_))
 refine Ac (DZ (gensN f) 0 .no _ (by omega) ⟨by omega,by omega⟩) (fun x S1 hr=>?_) (fun x S1 hr=>by obtain⟨_,_,h,_⟩:=hr;cases h)
 obtain⟨ig,gY,e1,e2⟩:=hr
 cases e1
 rw[e2]
 clear e2 S1
 repeat ((fail_if_success (first|(refine boxV (T:=163) (fun ib gM=>?_))|fail));(refine goX1 trivial ?_))
 refine boxV (T:=163) (fun ib gM=>?_)
 try refine gz ?_ (delO 4 o48) [2]
 obtain⟨a1,b1⟩:=A4 gZ
 obtain⟨a2,b2⟩:=A4 gX
 obtain⟨a3,b3⟩:=A4 b2
 obtain⟨a4,b4⟩:=A4 gY
 obtain⟨a5,b5⟩:=A4 b4
 obtain⟨a6,b6⟩:=A4 b5
 obtain⟨a7,b7⟩:=A4 gM
 obtain⟨a8,b8⟩:=A4 b7
 obtain⟨a9,b9⟩:=A4 b8
 obtain⟨a10,b10⟩:=A4 b9
 generalize fV:Sig.set _ ib _=S4
 have o1:S4 ib=some (.cells [.ak,dI 0,.ak,.ak,.ak,dI 0,.map ia,.map is,.map ig]):=by rw[<-fV];exact w7 ..
 have o2:S4 ia=some (.map (eSN (numM (f.aa.map (·.name)) 3 []))):=by rw[<-fV,w8 _ _ (aQ a9),w8 _ _ (aQ a5),w8 _ _ (aQ a2)];exact w7 ..
 have o3:S4 is=some (.map (eSN (BD f))):=by rw[<-fV,w8 _ _ (aQ a8),w8 _ _ (aQ a4)];exact w7 ..
 have o4:S4 ig=some (.map (eSN (AC f))):=by rw[<-fV,w8 _ _ (aQ a7)];exact w7 ..
 have o5:S4 i2=some (.cells [.ak,dI 0,.ak,.ak,.ak,dI 0]):=by rw[<-fV,w8 _ _ (aQ a10),w8 _ _ (aQ a6),w8 _ _ (aQ a3),w8 _ _ (aQ a1)];exact w7 ..
 have hS:Sub V S4:=fun j x hj=>by rw[<-fV,w8 _ _ (A0 hj b10),w8 _ _ (A0 hj b6),w8 _ _ (A0 hj b3),w8 _ _ (A0 hj b1),w8 _ _ (A0 hj gN)];exact hj
 clear fV
 refine mixT 12 [0,1,2,3,4,5,6,7,8,9,10,11] [] ?_
 try refine gf o1 ?_ o48 [2]
 refine ent3 ?_ o2
 refine ent3 ?_ (w7 ..)
 refine ent3 ?_ (w7 ..)
 rw[w9,w9]
 generalize e7:Sig.set _ ia _=S5
 have q1:S5 ib=some (.cells [.ak,dI 0,.ak,.ak,.ak,dI 0,.map ia,.map is,.map ig]):=by rw[<-e7,w8 _ _ a9];exact o1
 have q2:S5 ia=some (.map (eSN (BB f))):=by rw[<-e7];exact w7 ..
 have q3:S5 is=some (.map (eSN (BD f))):=by rw[<-e7,w8 _ _ a2];exact o3
 have q4:S5 ig=some (.map (eSN (AC f))):=by rw[<-e7,w8 _ _ a5];exact o4
 have q5:S5 i2=some (.cells [.ak,dI 0,.ak,.ak,.ak,dI 0]):=by rw[<-e7,w8 _ _ (aQ a1)];exact o5
 have g9:Sub V S5:=fun j x hj=>by rw[<-e7,w8 _ _ (A0 hj b1)];exact hS _ _ hj
 clear e7 hS o1 o2 o3 o4 o5 gZ gX gY gM b2 b4 b5 b7 b8 b9
 try refine gz ?_ (delO 5 o48) [2]
 have jo:=IR f
 obtain⟨hM,hA⟩:=args_ok f
 have gv:=fun S' (h:S' ig=some (.map (eSN (AC f))))=>Sm f (AC f) ig S' (by omega) (by omega) h hM hA
 refine CI [0,1,2,3,4,5,6,7,8,9,10,11,12,13,14,15,16] [8,9,13] (S5.out (· = ib)) (AU _ _) ?_
 try refine gz ?_ o48 [2]
 refine moRd (d:=.map ig) ?_ ?hd (AU _ _)
 case hd=>simp[q1]
 refine C1 (gv S5 q4) (fun x S6 hr=>?_) (fun x S6 hr=>by obtain⟨_,_,h,_⟩:=hr;cases h)
 obtain⟨r,fX,e1,e2⟩:=hr
 cases e1
 rw[e2]
 have nr:ib≠r:=A0 q1 fX
 have f6:∀X,Sub (S5.out (· = ib)) ((S5.set r X).set ib (.cells [.ak,dI (AN f).length,.ak,.ak,.ak,dI 0,.map ia,.map is,.map ig])):=fun X j x hj=>by
  obtain⟨h1,h2⟩:=Bm hj
  rw[w8 _ _ h2,w8 _ _ (A0 h1 fX)];exact h1
 refine⟨(AU _ _).trans ((Sub.refl _).set fX),?_⟩
 have w1:(S5.set r (.cells ((H3 (AC f) f).map dI))) ib=some (.cells [.ak,dI 0,.ak,.ak,.ak,dI 0,.map ia,.map is,.map ig]):=by rw[w8 _ _ nr];exact q1
 have f0:=f6 (.cells ((H3 (AC f) f).map dI))
 try refine gf q1 ?_ (delO 6 o48) [2]
 generalize g6:H3 (AC f) f=gs at*
 have fN:gs.length=(AC f).length:=by rw[<-g6];unfold H3;rw[Dt,IZ,bu]
 have g7:∀C,(S5.set r (.cells (gs.map dI))).set ib C=mS (S5.set ib C) (some (r,(AC f).length,[])) (cI gs):=fun C=>by
  rw[set_comm _ (aQ nr)]
  show _=(S5.set ib C).set r (.cells ((cI gs).flatten++[]))
  rw[bb,E3]
 rw[g7]
 have f7:∀C,mOK (S5.set ib C) 1 (some (r,(AC f).length,[])) (cI gs):=fun C=>by
  refine⟨by rw[w8 _ _ (aQ nr)];exact fX,?_,by simp[fN],BY _⟩
  rw[bb,E3,aZ,fN];omega
 refine dwp_wk (EZ (az:=[.ak,dI (AN f).length]) (bs:=[.ak,.ak,dI 0,.map ia,.map is,.map ig]) (f7 _) (by rw[w7,Iu,fN];rfl)) ?_
 rw[w9]
 have z1:(S5.set ib (.cells [.ak,dI (AN f).length,sl (cI gs),.ak,.ak,dI 0,.map ia,.map is,.map ig])) ib=some (.cells [.ak,dI (AN f).length,sl (cI gs),.ak,.ak,dI 0,.map ia,.map is,.map ig]):=w7 ..
 have z2:(S5.set ib (.cells [.ak,dI (AN f).length,sl (cI gs),.ak,.ak,dI 0,.map ia,.map is,.map ig])) ia=some (.map (eSN (BB f))):=by rw[w8 _ _ (aQ a9)];exact q2
 have z3:(S5.set ib (.cells [.ak,dI (AN f).length,sl (cI gs),.ak,.ak,dI 0,.map ia,.map is,.map ig])) is=some (.map (eSN (BD f))):=by rw[w8 _ _ (aQ a8)];exact q3
 have z4:(S5.set ib (.cells [.ak,dI (AN f).length,sl (cI gs),.ak,.ak,dI 0,.map ia,.map is,.map ig])) ig=some (.map (eSN (AC f))):=by rw[w8 _ _ (aQ a7)];exact q4
 have z5:(S5.set ib (.cells [.ak,dI (AN f).length,sl (cI gs),.ak,.ak,dI 0,.map ia,.map is,.map ig])) i2=some (.cells [.ak,dI 0,.ak,.ak,.ak,dI 0]):=by rw[w8 _ _ (aQ a10)];exact q5
 have zS:Sub V (S5.set ib (.cells [.ak,dI (AN f).length,sl (cI gs),.ak,.ak,dI 0,.map ia,.map is,.map ig])):=g9.set b10
 generalize gA:S5.set ib (.cells ([D.ak,dI (AN f).length]++sl (cI gs)::[D.ak,.ak,dI 0,.map ia,.map is,.map ig]))=S6
 have gA:S5.set ib (.cells [.ak,dI (AN f).length,sl (cI gs),.ak,.ak,dI 0,.map ia,.map is,.map ig])=S6:=gA
 rw[gA]at z1 z2 z3 z4 z5 zS
 clear gA g7 f7 f6 f0 w1
 have iD:∀c∈f.aa,c.ag.length<=1073741824/\c.ae.length<=1073741824/\c.ai.length<=1073741824:=fun c hc=>by
  obtain⟨k,hk,rfl⟩:=bh hc
  have:=p4 k hk
  obtain⟨_,y2,y3,y4,_⟩:=(f.aa[k]).wt_le
  have:=Bb (f.aa[k]).ag
  have:=Bb (f.aa[k]).ae
  omega
 have ij:EnvS ib ia is ig [.ak,dI (AN f).length,sl (cI gs),.ak,.ak,dI 0] (BB f) (BD f) (AC f) S6:=⟨⟨_,_,_,_,_,_,rfl,z1⟩,z2,z3,z4⟩
 have fW:=VI f.aa (Ih (BB f) (BD f)) 106 [.am [.ptr ib 0] 0] .no S6 (by omega) (fun x hx S' hs=>Sj x (iD x hx) (ij.sub hs))
 generalize i0:f.aa.map (Ih (BB f) (BD f))=bcs at*
 repeat' first|refine gf z1 ?_ [] [2]|refine moR (fW) ?_|refine moP (fW) ?_|refine gf z1 ?_ o48 [2]|apply gy<;>intro hh
 generalize fU:Sig.set S6 ib _=S7
 have y1:S7 ib=some (.cells [sl (bcs.map cBClass),dI (AN f).length,sl (cI gs),.ak,.ak,dI 0,.map ia,.map is,.map ig]):=by rw[<-fU];exact w7 ..
 have y2:S7 ia=some (.map (eSN (BB f))):=by rw[<-fU,w8 _ _ (aQ a9)];exact z2
 have y3:S7 is=some (.map (eSN (BD f))):=by rw[<-fU,w8 _ _ (aQ a8)];exact z3
 have y4:S7 ig=some (.map (eSN (AC f))):=by rw[<-fU,w8 _ _ (aQ a7)];exact z4
 have y5:S7 i2=some (.cells [.ak,dI 0,.ak,.ak,.ak,dI 0]):=by rw[<-fU,w8 _ _ (aQ a10)];exact z5
 have yS:Sub V S7:=by rw[<-fU];exact zS.set b10
 clear fU z1 z2 z3 z4 z5 zS fW ij gv q1 q2 q3 q4 q5 g9 fX nr
 refine Ak ib 3 9 (ds:=[sl (bcs.map cBClass),dI (AN f).length,sl (cI gs),.ak,.ak,dI 0,.map ia,.map is,.map ig]) y1 rfl (fun im fK=>?_)
 have m1:ib≠im:=A0 y1 fK
 have m2:ia≠im:=A0 y2 fK
 have m3:is≠im:=A0 y3 fK
 have m4:ig≠im:=A0 y4 fK
 have m5:i2≠im:=A0 y5 fK
 generalize gh:Sig.set (Sig.set S7 im _) ib _=S8
 have jd:BS ib ia is ig (sl (bcs.map cBClass)) (dI (AN f).length) (sl (cI gs)) (.slice (([]:List ay).map Ag) (.tag im)) (dI 0) (BB f) (BD f) (AC f) none [] S8:=by
  rw[<-gh]
  refine⟨w7 ..,?_,?_,?_,rfl,id⟩
  ·rw[w8 _ _ (aQ a9),w8 _ _ m2];exact y2
  ·rw[w8 _ _ (aQ a8),w8 _ _ m3];exact y3
  ·rw[w8 _ _ (aQ a7),w8 _ _ m4];exact y4
 have x1:S8 im=some (.tail 9 ([]:List ay).length):=by rw[<-gh,w8 _ _ (aQ m1)];exact w7 ..
 have x5:S8 i2=some (.cells [.ak,dI 0,.ak,.ak,.ak,dI 0]):=by rw[<-gh,w8 _ _ (aQ a10),w8 _ _ m5];exact y5
 have xS:Sub V S8:=by rw[<-gh];exact(yS.set (yS.none fK)).set b10
 have gL:V im=none:=yS.none fK
 clear gh y1 y2 y3 y4 y5 yS fK
 have jp:∀m∈f.methods,m.body.cnt<=aE.wt m:=fun m _=>by have:=aB.cnt_le m.body;unfold aE.wt;omega
 have iB:wtL aE.wt f.methods<=f.wt:=by unfold aF.wt;omega
 refine Ro [1,2,7,12,76,77,121,122,123,124,125,126,127,128,129,130,131,132,133,134,135,136,137,138,139,140,141,142,143,144,145,146,147,148,149,150,151,152,153,154] (fun (k:Nat) (ms:List ay) (st:MR) (ns:List aA) (S1:Sig)=>k<=f.methods.length/\ms.length=k/\ns++HO (BB f) (BD f) (AC f) (f.methods.drop k) ns.length=HO (BB f) (BD f) (AC f) f.methods 0/\ms++bndMM (BB f) (BD f) (AC f) (f.methods.drop k) ns.length=bndMM (BB f) (BD f) (AC f) f.methods 0/\ns.length+wtL aE.wt (f.methods.drop k)<=f.wt/\BS ib ia is ig (sl (bcs.map cBClass)) (dI (AN f).length) (sl (cI gs)) (.slice (ms.map Ag) (.tag im)) (dI 0) (BB f) (BD f) (AC f) st ns S1/\S1 im=some (.tail 9 ms.length)/\S1 i2=some (.cells [.ak,dI 0,.ak,.ak,.ak,dI 0]) /\ ¬Bt st i2/\Sub V S1/\(∀j x,V j=some x->¬Bt st j)) (fun k _ _ _ _=>[(78,dI k)]) (fun _ _ _ _ S1=>S1) (fun k _ _ _ _=>f.methods.length-k) (0) ([]) (none) ([]) (S8) (by exact⟨by omega,rfl,rfl,rfl,by simpa using iB,jd,x1,x5,id,xS,fun _ _ _=>id⟩) (fun k ms st ns S1 hI=>?_)
 obtain⟨hk,gW,gj,gk,gc,hB,o1,o5,o6,oS,oR⟩:=hI
 by_cases fJ:k<f.methods.length
 ·rw[A2 fJ]at gj gk gc
  rw[HO]at gj
  rw[bndMM]at gk
  rw[wtL]at gc
  have iz:=p5 k fJ
  generalize fM:f.methods[k]=m at*
  have iI:m.params.length<=f.wt/\m.body.wt<=f.wt/\m.fact.wt<=f.wt:=by have:=iz;unfold aE.wt at this;have:=Bb m.params;omega
  obtain⟨g1,g2,g3⟩:=iI
  try refine gf (gi hB.env fM) ?_ (delO 10 o48) [2]
  refine mix (id:=10) [0,1,2,4,5,6,3,7,8,9] [8,9] ?_
  try refine gf fM ?_ o48 [2]
  refine moQR ?_
  obtain⟨ks,vs,g8⟩:∃ks vs,cNum (numM m.params 0 [])=.cmap ks vs:=⟨_,_,rfl⟩
  rw[g8]
  try refine gf fM ?_ o48 [2]
  refine NA (fun i10 d9=>?_)
  try refine gf fM ?_ o48 [2]
  have gU:NmD (.cmap ks vs) (numM m.params 0 []):=⟨.inl g8.symm,GE _ _ _ (by simp)⟩
  have jc:=hB.fresh (o:=.cells [.ptr ib 0,.cmap ks vs,dI m.params.length]) d9
  have f9:i10≠im:=fun e=>by rw[e,o1]at d9;cases d9
  have iO:m.body.wt<=aE.wt m:=by unfold aE.wt;omega
  have iP:ns.length+m.body.wt<=100000000:=by omega
  have e9:∀{j x},(∀c,x≠.cells c)->S1 j=some x->¬Bt st j:=fun hx hj hr=>by obtain⟨cs,hc⟩:=hB.row.cells hr;rw[hj]at hc;cases hc;exact hx _ rfl
  refine Ac (Ov m.body.wt m.body (.cmap ks vs) (numM m.params 0 []) m.params.length st ns _ (bm _) iP (by omega) (by omega) gU jc) (fun x S2 hr=>?_) (fun x S2 hr=>by cases hr.1)
  obtain⟨e1,st2,d7,gn⟩:=hr
  cases e1
  have kp:∀{j x},S1 j=some x->j≠ib->¬Bt st j->S2 j=some x /\ ¬Bt st2 j:=fun hj hb hr=>gn _ _ (by rw[w8 _ _ (A0 hj d9)];exact hj) hb hr
  obtain⟨t1,t1r⟩:=kp o1 (aQ m1) (e9 (by simp) o1)
  obtain⟨t5,t5r⟩:=kp o5 (aQ a10) o6
  have tS:∀j x,V j=some x->S2 j=some x /\ ¬Bt st2 j:=fun j x hj=>kp (oS _ _ hj) (A0 hj b10) (oR _ _ hj)
  obtain⟨t10,_⟩:=gn i10 _ (w7 ..) (fun e=>by rw[e,hB.env]at d9;cases d9) (hB.notrow d9)
  have ja:=d7.envS
  have gu:=VH (.cmap ks vs) (numM m.params 0 []) m.params.length gU m.fact.wt m.fact S2 (bm _) (by omega) ja
  have u1:(S2.out (· = im)) ib=_:=BO d7.env m1
  have u4:(S2.out (· = im)) ig=_:=BO d7.og m4
  have u10:(S2.out (· = im)) i10=_:=BO t10 f9
  have iH:Sub (S2.out (· = im)) (S2.set im (.tail 9 (ms.length+1))):=fun j x hj=>by
   obtain⟨h1,h2⟩:=Bm hj
   rw[w8 _ _ h2];exact h1
  have gS:Sub (S2.out (· = im)) S2:=AU _ _
  try refine gf fM ?_ (delO 12 o48) [2]
  refine CI [0,1,2,3,4,5,6,7,8,9,10,11,12,13,14,15,16,17,19,18,20,21,22,23,24,25] [18,22] (S2.out (· = im)) (AU _ _) ?_
  repeat' first|refine gf (gi u1 (gi u4 (gi u10 (gi fM (gi t1 d7.env))))) ?_ [] [2]|refine moR (gu) ?_|refine moP (gu) ?_|refine gf (gi u1 (gi u4 (gi u10 (gi fM (gi t1 d7.env))))) ?_ o48 [2]|apply gy<;>intro hh
  generalize fY:Sig.set _ ib _=qq
  have gO:bndE (BB f) (BD f) (AC f) m.body (fun y=>getM 0 y (numM m.params 0 [])) m.params.length ns.length=bndE (BB f) (BD f) (AC f) m.body (EH m) m.params.length ns.length:=rfl
  have fR:=Gu (cm:=BB f) (sm:=BD f) (gm:=AC f) m.body (EH m) m.params.length ns.length
  rw[gO]at d7 fY
  have c1:qq ib=some (.cells [sl (bcs.map cBClass),dI (AN f).length,sl (cI gs),.slice ((ms++[(⟨m.kind,getM 0 m.name (AC f),bndF (BB f) (BD f) (EH m) m.fact,ns.length⟩:ay)]).map Ag) (.tag im),mD st2 (ns++bndE (BB f) (BD f) (AC f) m.body (EH m) m.params.length ns.length).length,dI 0,.map ia,.map is,.map ig]):=by
   rw[<-fY,w7,aH]
   simp only[bI,ba,bJ,Ag,Ds,bl,br]
   rfl
  have kq:∀{j x},S2 j=some x->j≠ib->j≠im->qq j=some x:=fun hj h1 h2=>by rw[<-fY,w8 _ _ h1,w8 _ _ h2];exact hj
  have jb:BS ib ia is ig (sl (bcs.map cBClass)) (dI (AN f).length) (sl (cI gs)) (.slice ((ms++[(⟨m.kind,getM 0 m.name (AC f),bndF (BB f) (BD f) (EH m) m.fact,ns.length⟩:ay)]).map Ag) (.tag im)) (dI 0) (BB f) (BD f) (AC f) st2 (ns++bndE (BB f) (BD f) (AC f) m.body (EH m) m.params.length ns.length) qq:=
   ⟨c1,kq d7.oa (aQ a9) m2,kq d7.os (aQ a8) m3,kq d7.og (aQ a7) m4,d7.row.keep fun j x hj hr=>kq hj (fun e=>d7.nr (by rw[<-e];exact hr)) (fun e=>t1r (by rw[<-e];exact hr)),d7.nr⟩
  have cim:qq im=some (.tail 9 (ms++[(⟨m.kind,getM 0 m.name (AC f),bndF (BB f) (BD f) (EH m) m.fact,ns.length⟩:ay)]).length):=by rw[<-fY,w8 _ _ (aQ m1),w7,aH];rfl
  have c5:=kq t5 (aQ a10) m5
  have cS:Sub V qq:=fun j x hj=>kq (tS j x hj).1 (A0 hj b10) (A0 hj gL)
  clear fY
  exact⟨k+1,ms++[⟨m.kind,getM 0 m.name (AC f),bndF (BB f) (BD f) (EH m) m.fact,ns.length⟩],st2,ns++bndE (BB f) (BD f) (AC f) m.body (EH m) m.params.length ns.length,qq,⟨by omega,by rw[aH,gW];rfl,by rw[aT,aH,fR];exact gj,by rw[aT,aH,fR];exact gk,by rw[aH,fR];have:=aB.cnt_le m.body;omega,jb,cim,c5,t5r,cS,fun j x hj=>(tS j x hj).2⟩,td1,wkR⟩
 ·rw[A1 fJ,HO,bb]at gj
  rw[A1 fJ,bndMM,bb]at gk
  have gV:=aB.cnt_le f.main
  try refine gf hB.env ?_ o48 [2]
  refine Ac (Ov f.main.wt f.main .aq [] 0 st ns _ (bm _) (by omega) (by omega) (by omega) ⟨.inr ⟨rfl,rfl⟩,by simp⟩ hB) (fun x S2 hr=>?_) (fun x S2 hr=>by cases hr.1)
  obtain⟨e1,st2,d7,gn⟩:=hr
  cases e1
  have gO:bndE (BB f) (BD f) (AC f) f.main (fun y=>getM 0 y []) 0 ns.length=bndE (BB f) (BD f) (AC f) f.main (fun _=>0) 0 ns.length:=rfl
  rw[gO]at d7
  obtain⟨t5,t5r⟩:=gn _ _ o5 (aQ a10) o6
  have tS:∀j x,V j=some x->S2 j=some x /\ ¬Bt st2 j:=fun j x hj=>gn _ _ (oS _ _ hj) (A0 hj b10) (oR _ _ hj)
  have iZ:Av f=⟨bcs,(AN f).length,gs,ms,ns++bndE (BB f) (BD f) (AC f) f.main (fun _=>0) 0 ns.length,ns.length⟩:=by unfold Av;rw[i0,g6,<-gj,<-gk]
  generalize jl:ns++bndE (BB f) (BD f) (AC f) f.main (fun _=>0) 0 ns.length=nn at*
  try refine gf d7.env ?_ (delO 16 o48) [2]
  generalize gg:Sig.set S2 ib _=S3
  have c1:S3 ib=some (.cells [sl (bcs.map cBClass),dI (AN f).length,sl (cI gs),.slice (ms.map Ag) (.tag im),mD st2 nn.length,dI ns.length,.map ia,.map is,.map ig]):=by rw[<-gg];exact w7 ..
  have c5:S3 i2=some (.cells [.ak,dI 0,.ak,.ak,.ak,dI 0]):=by rw[<-gg,w8 _ _ (aQ a10)];exact t5
  have cS:∀j x,V j=some x->S3 j=some x /\ ¬Bt st2 j:=fun j x hj=>⟨by rw[<-gg,w8 _ _ (A0 hj b10)];exact(tS j x hj).1,(tS j x hj).2⟩
  have cR:RowAt S3 3 st2 (nn.map Ab):=d7.row.keep fun j x hj hr=>by rw[<-gg,w8 _ _ fun e=>d7.nr (by rw[<-e];exact hr)];exact hj
  clear gg
  obtain⟨S4,rfl,iM,gI,_⟩:=cR.mS
  have d1:=gI _ _ c1 d7.nr
  have d5:=gI _ _ c5 t5r
  have dS:Sub V S4:=fun j x hj=>gI _ _ (cS j x hj).1 (cS j x hj).2
  refine dwp_wk (EZ (az:=[sl (bcs.map cBClass),dI (AN f).length,sl (cI gs),.slice (ms.map Ag) (.tag im)]) (bs:=[dI ns.length,.map ia,.map is,.map ig]) iM (by rw[aZ];exact d1)) ?_
  refine dwp_wk (BW (az:=[sl (bcs.map cBClass),dI (AN f).length,sl (cI gs)]) (d:=.slice (ms.map Ag) (.tag im)) (d':=sl (ms.map Ag)) (bs:=[sl (nn.map Ab),dI ns.length,.map ia,.map is,.map ig]) (w7 ..) (Ao _ _)) ?_
  rw[w9]
  have e1:(S4.set ib (.cells [sl (bcs.map cBClass),dI (AN f).length,sl (cI gs),sl (ms.map Ag),sl (nn.map Ab),dI ns.length,.map ia,.map is,.map ig])) ib=some (.cells [sl (bcs.map cBClass),dI (AN f).length,sl (cI gs),sl (ms.map Ag),sl (nn.map Ab),dI ns.length,.map ia,.map is,.map ig]):=w7 ..
  have e5:(S4.set ib (.cells [sl (bcs.map cBClass),dI (AN f).length,sl (cI gs),sl (ms.map Ag),sl (nn.map Ab),dI ns.length,.map ia,.map is,.map ig])) i2=some (.cells [.ak,dI 0,.ak,.ak,.ak,dI 0]):=by rw[w8 _ _ (aQ a10)];exact d5
  have eS:Sub V (S4.set ib (.cells [sl (bcs.map cBClass),dI (AN f).length,sl (cI gs),sl (ms.map Ag),sl (nn.map Ab),dI ns.length,.map ia,.map is,.map ig])):=dS.set b10
  generalize e7:S4.set ib (.cells ([sl (bcs.map cBClass),dI (AN f).length,sl (cI gs)]++sl (ms.map Ag)::[sl (nn.map Ab),dI ns.length,.map ia,.map is,.map ig]))=S5
  have e7:S4.set ib (.cells [sl (bcs.map cBClass),dI (AN f).length,sl (cI gs),sl (ms.map Ag),sl (nn.map Ab),dI ns.length,.map ia,.map is,.map ig])=S5:=e7
  rw[e7]at e1 e5 eS
  clear e7
  refine mixL [0,1,2,3,4,5,6,8,9,10,11,12,7,13,14,15,16,17,18,19,20] [17] ?_
  try refine gf e1 ?_ o48 [2]
  refine moQR ?_
  try refine gf e1 ?_ o48 [2]
  refine moQR ?_
  try refine gf e1 ?_ o48 [2]
  refine moSt (d:=.any) (S':=S5.set ib (.cells [sl (bcs.map cBClass),dI (AN f).length,sl (cI gs),.slice (ms.map Ag) .clip,sl (nn.map Ab),dI ns.length,.map ia,.map is,.map ig])) (S'':=S5) ?_ ?he (fun γ=>?hw) (Sub.refl _)
  case he=>simp[e1]
  case hw=>
   have:=BW (P:=prog) (n:=155) (γ:=γ) (df:=[]) (az:=[sl (bcs.map cBClass),dI (AN f).length,sl (cI gs)]) (d:=.slice (ms.map Ag) .clip) (d':=sl (ms.map Ag)) (bs:=[sl (nn.map Ab),dI ns.length,.map ia,.map is,.map ig]) (V:=S5.set ib (.cells [sl (bcs.map cBClass),dI (AN f).length,sl (cI gs),.slice (ms.map Ag) .clip,sl (nn.map Ab),dI ns.length,.map ia,.map is,.map ig])) (w7 ..) (Ao _ _)
   rw[w9]at this
   have h2:=Sig.set_self _ e1
   rw[show S5.set ib (.cells ([sl (bcs.map cBClass),dI (AN f).length,sl (cI gs)]++sl (ms.map Ag)::[sl (nn.map Ab),dI ns.length,.map ia,.map is,.map ig]))=S5 from h2]at this
   exact this
  try refine gf (gi e1 e5) ?_ o48 [2]
  rw[iZ]
  have iC:WkD (.agg [sl (bcs.map cBClass),dI (AN f).length,sl (cI gs),sl (ms.map Ag),.slice (nn.map Ab) .clip,dI ns.length]) (.agg [sl (bcs.map cBClass),dI (AN f).length,sl (cI gs),sl (ms.map Ag),sl (nn.map Ab),dI ns.length]):=E7 (show WkL _ _ from⟨A9 _,A9 _,A9 _,A9 _,Ao _ _,A9 _,trivial⟩)
  refine finC (S':=V) (d:=.agg [sl (bcs.map cBClass),dI (AN f).length,sl (cI gs),sl (ms.map Ag),sl (nn.map Ab),dI ns.length]) ⟨rfl,rfl⟩ (hZ:=(eS.set b10).set gN) (hw:=?_)
  exact iC
@[reducible,instance] def a48:=fun f V=>ah2 (@Qx f V)
def JL(g:fI):Nat->Nat->Bool
 |_,0=>true
 |i,n+1=>decide (linE g ((i:Int)+3)=0)&&JL g (i+1) n
def graphB(p:aw):fI:=p.aa.map (·.ag)
def Ig(f:aF):Int:=
 if(BG f).isSome=true then(if JL (graphB (Av f)) 0 (graphB (Av f)).length=true then(if(Av f).methods.all (fun m=>decide (m.fact.size<=24))=true then 0 else 3) else 7) else 2
def Rj:aw:=⟨[],0,[],[],[],0⟩
def Ko(f:aF):aw:=if Ig f=0 then Av f else Rj
mutual
theorem OX(cm sm:List (Str×Int))(env:Str->Int): ∀x:aC,(bndF cm sm env x).size<=x.wt
 |.mk o s p c n k=>by
  have hw:(aC.mk o s p c n k).wt=1+s.length+wtS p+c.length+wtL aC.wt k:=aC.wt_eq _
  have:=LV cm sm env k
  rw[bndF,Fact.size];omega
theorem LV(cm sm:List (Str×Int))(env:Str->Int): ∀l:List aC,Fact.sizes (HP cm sm env l)<=wtL aC.wt l
 |[]=>by rw[HP,Fact.sizes,wtL];omega
 |x::r=>by
  have h1:=OX cm sm env x
  have h2:=LV cm sm env r
  rw[HP,Fact.sizes,wtL];omega
end
theorem OV(cm sm gm:List (Str×Int)): ∀(l:List aE) (k:Nat),(bndMM cm sm gm l k).length=l.length
 |[],_=>rfl
 |m::r,k=>by rw[bndMM,aP,OV cm sm gm r,aP]
theorem LU(cm sm gm:List (Str×Int)): ∀(l:List aE) (k:Nat), ∀x∈bndMM cm sm gm l k,x.fact.size<=wtL aE.wt l
 |[],_,x,hx=>by simp[bndMM]at hx
 | m::r,k,x,hx=>by
  rw[bndMM]at hx
  rw[wtL]
  rcases aY.1 hx with rfl|hx
  ·have:=OX cm sm (EH m) m.fact
   unfold aE.wt;simp only;omega
  ·have:=LU cm sm gm r _ x hx;omega
theorem ML(f:aF)(V:Sig)(hw:f.wt<=10000000):au prog 17 [.agg (Bd f)] V (rS (.tup [.agg (Ai (Ko f)),dI (Ig f)]) V):=by
 obtain⟨p1,p2,p3,p4,p5⟩:=f.wt_le
 have d6:WkD (.tup [.agg [.ak,dI 0,.ak,.ak,.ak,dI 0],dI (Ig f)]) (.tup [.agg (Ai Rj),dI (Ig f)]):=
  GK (show WkL _ _ from⟨E7 (show WkL _ (Ai Rj) from⟨Am _ (.inl rfl),A9 _,Am _ (.inl rfl),Am _ (.inl rfl),Am _ (.inl rfl),A9 _,trivial⟩),A9 _,trivial⟩)
 refine en func17 ntmps17 ?_
 try refine gz ?_ [] [2]
 refine newV (fun i2 gN=>?_)
 cases hs:(BG f).isSome with
 |false=>
  have hE:Ig f=2:=by unfold Ig;rw[hs];rfl
  have hP:Ko f=Rj:=by unfold Ko;rw[hE];rfl
  rw[hP]
  rw[hE]at d6⊢
  try refine gf hs ?_ [] [2]
  refine finC (S':=V) ⟨rfl,rfl⟩ (hw:=?_)
  exact d6
 | true =>
  have gB:Ig f=if JL (graphB (Av f)) 0 (graphB (Av f)).length=true then(if(Av f).methods.all (fun m=>decide (m.fact.size<=24))=true then 0 else 3) else 7:=by unfold Ig;rw[hs];rfl
  have ga:(Av f).aa=f.aa.map (Ih (BB f) (BD f)):=rfl
  have gx:(Av f).aa.length<=10000000:=by rw[ga,aZ];omega
  have iY:∀c∈(Av f).aa,c.ag.length<=1073741824:=fun c hc=>by
   rw[ga]at hc
   obtain⟨d,hd,rfl⟩:=bO.1 hc
   obtain⟨k,hk,rfl⟩:=bh hd
   have:=p4 k hk
   obtain⟨_,y2,_⟩:=(f.aa[k]).wt_le
   have:=Bb (f.aa[k]).ag
   unfold Ih;simp only[aZ];omega
  have gW:(Av f).methods.length<=10000000:=by show(bndMM _ _ _ _ _).length<=_;rw[OV];omega
  have iL:∀x∈(Av f).methods,x.fact.size<=1073741824:=fun x hx=>by have:=LU _ _ _ _ _ x hx;unfold aF.wt at hw;omega
  have fO:(graphB (Av f)).length<=10000000:=by unfold graphB;rw[aZ];exact gx
  have jn:∀x∈graphB (Av f),x.length<=1073741824:=fun x hx=>by obtain⟨c,hc,rfl⟩:=bO.1 hx;exact iY c hc
  have iU:(Av f).aa.map (·.ag)=graphB (Av f):=rfl
  have iX:(Av f).aa.length=(graphB (Av f)).length:=by unfold graphB;rw[aZ]
  try refine gf (gi hs (gi iU iX)) ?_ [] [2]
  refine B5 [2,4,5,10,20,35,36,37,38,39,40,41,42,43,44,45,46,47,48] (fun (k:Nat)=>k<=(graphB (Av f)).length/\JL (graphB (Av f)) 0 (graphB (Av f)).length=JL (graphB (Av f)) k ((graphB (Av f)).length-k)) (fun k=>[(21,dI k)]) (fun _=>V.set i2 (.cells [.ak,dI 0,.ak,.ak,.ak,dI 0])) (fun k=>(graphB (Av f)).length-k) (0) (by simp) (fun k hI=>?_)
  obtain⟨hk,hL⟩:=hI
  by_cases fJ:k<(graphB (Av f)).length
  ·rw[show(graphB (Av f)).length-k=((graphB (Av f)).length-(k+1))+1 by omega,JL]at hL
   by_cases h0:linE (graphB (Av f)) ((k:Int)+3)=0
   ·rw[aX h0,aW]at hL
    try refine gf h0 ?_ [] [2]
    exact⟨k+1,⟨by omega,hL⟩,td1,wkR⟩
   ·rw[aV h0,bi]at hL
    have hE:Ig f=7:=by rw[gB,hL];rfl
    have hP:Ko f=Rj:=by unfold Ko;rw[hE];rfl
    rw[hP]
    rw[hE]at d6⊢
    try refine gf h0 ?_ [] [2]
    refine finC (S':=V) ⟨rfl,rfl⟩ (hw:=?_)
    exact d6
  ·have iQ:k=(graphB (Av f)).length:=by omega
   rw[iQ,eg,JL]at hL
   rw[aS hL]at gB
   try refine gz ?_ [] [2]
   refine B5 [2,4,36,37,48] (fun (j:Nat)=>j<=(Av f).methods.length/\(Av f).methods.all (fun m=>decide (m.fact.size<=24))=((Av f).methods.drop j).all (fun m=>decide (m.fact.size<=24))) (fun j=>[(38,dI j)]) (fun _=>V.set i2 (.cells [.ak,dI 0,.ak,.ak,.ak,dI 0])) (fun j=>(Av f).methods.length-j) (0) (by simp) (fun j hI=>?_)
   obtain⟨hj,hA⟩:=hI
   by_cases gK:j<(Av f).methods.length
   ·rw[A2 gK,bV]at hA
    have jm:=iL _ (aJ gK)
    by_cases iv:((Av f).methods[j]).fact.size<=24
    ·rw[aX iv,aW]at hA
     try refine gz ?_ [] [2]
     exact⟨j+1,⟨by omega,hA⟩,td1,wkR⟩
    ·rw[aV iv,bi]at hA
     have hE:Ig f=3:=by rw[gB,aN (by rw[hA];simp)]
     have hP:Ko f=Rj:=by unfold Ko;rw[hE];rfl
     rw[hP]
     rw[hE]at d6⊢
     try refine gz ?_ [] [2]
     refine finC (S':=V) ⟨rfl,rfl⟩ (hw:=?_)
     exact d6
   ·rw[A1 gK]at hA
    have hE:Ig f=0:=by rw[gB,aS (by rw[hA];rfl)]
    have hP:Ko f=Av f:=by unfold Ko;rw[hE];rfl
    rw[hP,hE]
    try refine gz ?_ [] [2]
    exact finC (S':=V) ⟨rfl,rfl⟩
@[reducible,instance] def a17:=fun f V=>ah1 (@ML f V)
theorem L9{l m:fF}(h:∀x,x∈l ↔ x∈m): ∀(a:List Init) (seen:fF),DM l seen a=DM m seen a
 |[],_=>rfl
 |x::r,seen=>by rw[DM,DM,L9 h r,cJ.2 (h x.slot)]
def JO(p:aw):Nat->List ax->Bool
 |_,[]=>true
 |i,c::r=>decide (linE (p.aa.map (·.ag)) ((i:Int)+3)=0)&&DM (hasG p.aa (((i:Int)+3)-2).toNat [((i:Int)+3)] []) [] c.ai&&JO p (i+1) r
theorem Iq(p:aw): ∀(l:List ax) (i:Nat),Bo p i l=JO p i l
 |[],_=>rfl
 |c::r,i=>by
  rw[Bo,JO,Iq p r]
  congr 2
  exact L9 (fun x=>by unfold hasP F2;exact fa) _ _
theorem Xr:Bo exB 0 exB.aa=true:=by rw[Iq];decide +kernel
theorem Sn:At exB=true:=by
 unfold At
 have h1:BC 0 exB.aa=some 2:=by decide +kernel
 have h2:Bu (exB.aa.map (·.ag))=true:=by decide +kernel
 have h3:decide (exB.aa.length<=10)=true:=by decide +kernel
 have h4:decide ((2:Int)=exB.ae)=true:=by decide +kernel
 rw[h1,h3]
 simp only[h2,h4,Xr,dZ,Bool.and_true]
theorem Pt:Da exB=some [1,1,1,1,1,2,0,0]:=by
 unfold Da
 rw[Sn]
 decide +kernel
theorem ex_ok:okP exB=true:=by unfold okP;rw[Pt];rfl
theorem MN:Ff exB=0:=by
 unfold Ff
 rw[ex_ok]
 decide +kernel
theorem QM:Ig (exA [[98],[97]])=0:=by decide +kernel
theorem QL:Ig (exA [[97],[98]])=7:=by decide +kernel
theorem VL:Hl (Ko (exA [[98],[97]])) exB=true:=by decide +kernel
theorem XX:F2 [1,0]=[0,1]:=by simp[F2,List.mergeSort,List.MergeSort.Internal.splitInTwo,List.merge]
theorem Pu:hasP exB 5=[0,1]:=by
 unfold hasP
 rw[show hasG exB.aa ((5:Int)-2).toNat [5] []=[1,0] by decide +kernel,XX]
theorem ex_has4:hasP exB 4=[0,1]:=by
 unfold hasP
 rw[show hasG exB.aa ((4:Int)-2).toNat [4] []=[1,0] by decide +kernel,XX]
theorem Oz:Kp exB 5=[⟨0,1⟩]:=by unfold Kp;rw[Pu];decide +kernel
theorem OA:Kp exB 4=[⟨0,7⟩]:=by unfold Kp;rw[ex_has4];decide +kernel
theorem VM:ownF exB 5=true:=by decide +kernel
theorem VN:ownF exB 4=true:=by decide +kernel
theorem QK:(AK exB).owner=[3,4]:=by decide +kernel
theorem ex_form:Ic exB=⟨(spCs exB),exB.methods.map (spM exB),(Ba exB).main⟩:=by unfold Ic;rw[MN];rfl
theorem Xs: ∃c0 c1 c2 m0 m1 mn,Ic exB=⟨[c0,c1,c2],[m0,m1],mn⟩/\c2.name=[99]/\m0.name=[97]:=by
 have hc:(spCs exB).map (·.name)=[[97],[98],[99]]:=by decide +kernel
 have hm:(spM exB ⟨1,0,.mk 2 0 [] 3 0 [],0⟩).name=[97]:=by decide +kernel
 rw[ex_form]
 rcases hs:spCs exB with _|⟨c0,_|⟨c1,_|⟨c2,_|⟨c3,r⟩⟩⟩⟩<;>rw[hs]at hc<;>simp at hc
 exact⟨c0,c1,c2,_,_,_,rfl,hc.2.2,hm⟩
theorem QF(V:Sig):au prog 16 [] V (rS (.bool true) V):=by
 have w1:(exA [[98],[97]]).wt<=10000000:=by decide +kernel
 have w2:(exA [[97],[98]]).wt<=10000000:=by decide +kernel
 have w3:exB.wt<=10000000:=by decide +kernel
 have w4:(Ko (exA [[98],[97]])).wt<=1073741824:=by decide +kernel
 have gr:=fun (o:Own) (V:Sig)=>Qz [[98],[97]] o V
 have go:=fun (o:Own) (V:Sig)=>Qz [[97],[98]] o V
 have jh:=fun (V:Sig)=>ML _ V w1
 have jg:=fun (V:Sig)=>ML _ V w2
 have ju:=fun (V:Sig)=>MK _ exB V w4 (by omega)
 have jt:=fun (V:Sig)=>MJ exB V w3
 have jv:=fun (V:Sig)=>MM exB V (by omega)
 have jw:=fun (V:Sig)=>QH exB V (by omega)
 have jr:=fun (V:Sig)=>QE exB 5 V (by omega)
 have jf:=fun (V:Sig)=>MI exB 5 V (by omega)
 have je:=fun (V:Sig)=>MI exB 4 V (by omega)
 have jq:=fun (V:Sig)=>MH exB V (by omega)
 obtain⟨c0,c1,c2,m0,m1,mn,e1,e2,e3⟩:=Xs
 have gQ:∀(l:fF) (V:Sig),l.length<=1073741824->au prog 15 [.slice (cI l) .no,.slice (cI l) .clip] V (rS (.bool true) V):=fun l V hl=>by
  have:=QG l l .no .clip V hl
  simpa using this
 have iq:∀(l:List Init) (V:Sig),l.length<=1073741824->au prog 27 [.slice (l.map Dg) .no,.slice (l.map Dg) .clip] V (rS (.bool true) V):=fun l V hl=>by
  have:=QD l l .no .clip V hl hl
  simpa using this
 have g1:=fun (V:Sig)=>gQ [1,1,1,1,1,2,0,0] V (by simp)
 have g2:=fun (V:Sig)=>gQ [0,1] V (by simp)
 have g3:=fun (V:Sig)=>gQ [3,4] V (by simp)
 have g4:=fun (V:Sig)=>iq [⟨0,1⟩] V (by simp)
 have g5:=fun (V:Sig)=>iq [⟨0,7⟩] V (by simp)
 have he:OC (some [1,1,1,1,1,2,0,0])=0:=rfl
 refine en func16 ntmps16 ?_
 repeat' first|refine gf (gi QM (gi QL (gi MN (gi VL (gi ex_ok (gi Pt (gi VM (gi VN (gi Pu (gi Oz (gi OA (gi e1 (gi e2 (gi e3 (gi QK he))))))))))))))) ?_|refine Aq (gr _ _) ?_|refine callP (gr _ _) ?_|refine Aq (go _ _) ?_|refine callP (go _ _) ?_|refine EU (g1 _) ?_|refine callPG (g1 _) ?_|refine EU (g2 _) ?_|refine callPG (g2 _) ?_|refine EU (g3 _) ?_|refine callPG (g3 _) ?_|refine EU (g4 _) ?_|refine callPG (g4 _) ?_|refine EU (g5 _) ?_|refine callPG (g5 _) ?_|refine gf (gi QM (gi QL (gi MN (gi VL (gi ex_ok (gi Pt (gi VM (gi VN (gi Pu (gi Oz (gi OA (gi e1 (gi e2 (gi e3 (gi QK he))))))))))))))) ?_ o16|apply gy<;>intro hh
 exact fin1 (S':=V) ⟨rfl,rfl⟩
@[reducible,instance] def a16:=fun V=>ah0 (@QF V)
def EntOK(s:fF):Prop:= ∀x∈s,x = -1\/0<=x
theorem EntOK.set{s:fF}(h:EntOK s)(n:Nat){v:Int}(hv:0<=v):EntOK (s.set n v):=fun x hx=>by
 rcases List.mem_or_eq_of_mem_set hx with hx|rfl
 ·exact h x hx
 ·exact .inr hv
theorem walkKids_ent{f:Int->Int->fF->Bool×fF}{x:aA}{size:Int}(hf:∀c z s,0<=z->EntOK s->EntOK (f c z s).2)(hz:0<=size): ∀(l:fF) (j:Nat) (s:fF),EntOK s->EntOK (BE f x size j l s).2
 |[],_,_,h=>h
 |c::r,j,s,h=>by
  rw[BE]
  have h1:=hf c (if x.op=9/\j=1 then size+1 else size) s (by split<;>omega) h
  split
  ·rename_i s' e;rw[e]at h1;exact h1
  ·rename_i s' e;rw[e]at h1;exact walkKids_ent hf hz r _ _ h1
theorem J8(p:aw)(inM:Bool): ∀(k:Nat) (node size:Int) (s:fF),0<=size->EntOK s->EntOK (C0 p inM k node size s).2
 |0,_,_,_,_,h=>h
 | k+1,node,size,s,hz,h=>by
  rw[C0]
  split
  ·exact h
  ·split
   ·exact h.set _ hz
   ·exact walkKids_ent (fun c z s hz hs=>J8 p inM k c z s hz hs) hz _ _ _ (h.set _ hz)
theorem Io(p:aw)(hF:∀f,Dp (AK p) f=Eb (AK p) f): ∀(l:List ay) (s:fF),Dz p l s=optW (CP p l s)
 |[],s=>rfl
 | m::r,s=>by
  have hm:Ev p m=Fw p m:=by unfold Ev Fw;rw[hF]
  rw[Dz,CP,hm]
  split
  ·cases hw:C0 p (decide (m.kind=1)||decide (m.kind=4)) 12 m.node (p.aj.getD m.gen.toNat 0) s with
   |mk b s'=>cases b with
    |false=>rfl
    |true=>simp only[optW];exact Io p hF r s'
  ·rfl
theorem methsP_ent(p:aw)(hg:∀g∈p.aj,1<=g): ∀(l:List ay) (s s':fF),Dz p l s=some s'->EntOK s->EntOK s'
 |[],s,s',h,hs=>by rw[Dz]at h;cases h;exact hs
 | m::r,s,s',h,hs=>by
  rw[Dz]at h
  split at h
  ·rename_i hm
   have h0:0<=p.aj.getD m.gen.toNat 0:=by
    rw[bg]
    cases iW:p.aj[m.gen.toNat]? with
    |none=>simp
    |some g=>have:=hg g (cK iW);simp only[bP];omega
   have he:=J8 p (decide (m.kind=1)||decide (m.kind=4)) 12 m.node (p.aj.getD m.gen.toNat 0) s h0 hs
   cases hw:C0 p (decide (m.kind=1)||decide (m.kind=4)) 12 m.node (p.aj.getD m.gen.toNat 0) s with
   |mk b s1=>
    rw[hw]at h he
    cases b with
    |false=>simp[optW]at h
    |true=>simp only[optW]at h;exact methsP_ent p hg r s1 s' h he
  ·cases h
theorem look_eq(p:aw)(hC:At p=AG p)(hF:∀f,Dp (AK p) f=Eb (AK p) f):Da p=F8 p:=by
 have hh:(At p&&(decide (p.aj.length<=8)&&decide (p.methods.length<=16)&&decide (1<=p.nodes.length)&&decide (p.nodes.length<=120)))=Lb p:=by unfold Lb;rw[hC];simp only[ep]
 unfold Da F8
 rw[hh]
 split
 ·rename_i hc
  simp only[aI,bc,aL]at hc
  have fQ:=methsP_ent p (fun g hg=>(hc.2 g hg).1) p.methods (List.replicate p.nodes.length (-1))
  have gV:=Io p hF p.methods (List.replicate p.nodes.length (-1))
  rw[gV]at fQ⊢
  cases hm:CP p p.methods (List.replicate p.nodes.length (-1))with
  | mk b s =>
   rw[hm]at fQ
   cases b with
   |false=>rfl
   | true =>
    simp only[optW]
    have h1:=fQ s rfl fun x hx=>.inl (dm hx)
    have h2:=J8 p false 12 p.main 0 s (dC _) h1
    cases hw:C0 p false 12 p.main 0 s with
    | mk b s2 =>
     rw[hw]at h2
     cases b with
     |false=>rfl
     | true =>
      simp only
      have e:(-1∈s2) = ¬(s2.all (fun n=>decide (0<=n))=true):=by
       simp only[bc,aL]
       refine propext ⟨fun h k=>by have:=k _ h;omega,fun h=>cG fun k=>h fun x hx=>?_⟩
       rcases h2 x hx with rfl|h
       ·exact absurd hx k
       ·exact h
      by_cases hs:s2.all (fun n=>decide (0<=n))=true
      ·rw[aS hs,aN (by rw[e];exact fun k=>k hs)]
      ·rw[aN hs,aS (by rw[e];exact hs)]
 ·rfl
theorem LM: ∀(l:List Fact) (n d:Int),Fact.depths l n<=d ↔ n<=d /\ ∀x∈l,x.depth<=d
 |[],n,d=>by rw[Fact.depths];simp
 |f::l,n,d=>by
  rw[Fact.depths,LM l]
  have:mx n f.depth<=d ↔ n<=d/\f.depth<=d:=by unfold mx;split<;>omega
  rw[this]
  simp only[aY,fj]
  exact and_assoc
def locP(w:World)(f:Fact):Prop:=1<=f.op/\f.op<=7/\f.ah.length=By f.op/\(if C9 f.op then I8 w f=true else f.arg=0/\f.path.length=0/\f.cls=0/\f.n=0)
theorem loc_iff(w:World)(f:Fact):(K1 w f&&Fh w f)=true ↔ locP w f:=by
 unfold locP K1 Fh I8 Wz Nt C9 inB GM By
 rcases bK (f.op=2)with h2|h2
 ·simp[h2];grind
 ·rcases bK (f.op=3)with h3|h3
  ·simp[h3];grind
  ·rcases bK (f.op=4)with h4|h4
   ·simp[h4];grind
   ·simp[h2,h3,h4]
    grind
theorem Ht(w:World): ∀(d:Nat) (f:Fact) (s s':Int),0<=s->s<=1000->(Dx w d f s=(true,s') ↔ (s'=s-f.size/\(f.size:Int)<=s/\f.depth<=d/\Jw w f=true))
 |0,f,s,s',_,_=>by
  have:=(Fact.depth_le f).1
  simp[Dx];omega
 | d+1,f,s,s',h0,h1=>by
  have hw:IntKind.i64.wrap (s-1)=s-1:=Ar (by omega) (by omega)
  have gP:∀(l:List Fact) (t t':Int),0<=t->t<=1000->(allS (Dx w d) l t=(true,t') ↔ (t'=t-Fact.sizes l/\(Fact.sizes l:Int)<=t/\(∀x∈l,x.depth<=d)/\E9 w l=true)):=fun l=>by
   induction l with
   |nil=>intro t t' h0 h1;rw[allS,Fact.sizes,E9];simp;omega
   | cons x r ih =>
    intro t t' h0 h1
    rw[allS,Fact.sizes,E9]
    cases hy:Dx w d x t with
    | mk b t1 =>
     cases b with
     |false=>
      have hx:=Ht w d x t (t-x.size) h0 h1
      rw[hy]at hx
      simp only[da,bj,dF,dV,aY,fj,aI]at hx⊢
      rintro⟨a1,a2,⟨a3,a4⟩,a5,a6⟩
      exact hx ⟨trivial,by omega,a3,a5⟩
     |true=>
      obtain⟨b1,b2,b3,b4⟩:=(Ht w d x t t1 h0 h1).1 hy
      simp only[aY,fj,aI]
      rw[ih t1 t' (by omega) (by omega)]
      constructor
      ·rintro⟨a1,a2,a3,a4⟩;exact⟨by omega,by omega,⟨b3,a3⟩,b4,a4⟩
      ·rintro⟨a1,a2,⟨_,a3⟩,_,a4⟩;exact⟨by omega,by omega,a3,a4⟩
  have gG:=loc_iff w f
  rw[Dx,hw,Fact.depth_eq,Fact.size_eq,Q9,aI,gG]
  have hd:Fact.depths f.ah 0+1<=((d+1:Nat):Int) ↔ ∀x∈f.ah,x.depth<=d:=by
   have:=LM f.ah 0 d
   constructor
   ·intro h;exact(this.1 (by omega)).2
   ·intro h;have:=this.2 ⟨by omega,h⟩;omega
  rw[hd]
  unfold locP
  split
  ·rename_i hc
   simp only[da,bj,dF,dV]
   rintro⟨a1,a2,a3,⟨a4,a5,a6,a7⟩,a8⟩
   rcases hc with hc|hc|hc|hc<;>omega
  ·rename_i hc
   have c1:¬s-1<0:=fun h=>hc (.inl h)
   have c2:¬f.op<1:=fun h=>hc (.inr (.inl h))
   have c3:¬7<f.op:=fun h=>hc (.inr (.inr (.inl h)))
   have c4:f.ah.length=By f.op:=cG fun h=>hc (.inr (.inr (.inr h)))
   split
   ·rename_i hl
    have hk:f.ah=[]:=by
     have:By f.op=0:=by
      unfold C9 at hl
      simp only[bL,aL]at hl
      unfold By
      rw[aN (by omega),aN (by omega)]
     exact dt (by omega)
    rw[hk]at c4⊢
    rw[Fact.sizes,E9]
    simp only[da]
    constructor
    ·rintro⟨a1,a2⟩;exact⟨by omega,by omega,by simp,⟨by omega,by omega,c4,a1⟩,trivial⟩
    ·rintro⟨a1,a2,a3,⟨a4,a5,a6,a7⟩,a8⟩;exact⟨a7,by omega⟩
   ·rename_i hl
    split
    ·rename_i hz
     rw[gP _ _ _ (by omega) (by omega)]
     constructor
     ·rintro⟨a1,a2,a3,a4⟩;exact⟨by omega,by omega,a3,⟨by omega,by omega,c4,hz⟩,a4⟩
     ·rintro⟨a1,a2,a3,_,a4⟩;exact⟨by omega,by omega,a3,a4⟩
    ·rename_i hz
     simp only[da,bj,dF,dV]
     rintro⟨a1,a2,a3,⟨a4,a5,a6,a7⟩,a8⟩
     exact hz a7
mutual
theorem W7: ∀(f:Fact) (most:Int),((f.size:Int)<=most->f.cnt most=f.size)/\(most<f.size->most<f.cnt most)
 |.mk o a p c n k,most=>by
  have:=QU k most 1
  rw[Fact.cnt,Fact.size]
  omega
theorem QU: ∀(l:List Fact) (most n:Int),(n+(Fact.sizes l:Int)<=most->Fact.cnts l most n=n+Fact.sizes l)/\(most<n+Fact.sizes l->most<Fact.cnts l most n)
 |[],most,n=>by rw[Fact.cnts,Fact.sizes];omega
 | f::l,most,n=>by
  rw[Fact.cnts,Fact.sizes]
  have h1:=W7 f (most-n)
  have h2:=Fact.cnts_le l most (n+f.cnt (most-n))
  have h3:=QU l most (n+f.cnt (most-n))
  split
  ·by_cases hs:(f.size:Int)<=most-n
   ·rw[h1.1 hs]at h2 h3⊢
    omega
   ·have:=h1.2 (by omega)
    omega
  ·omega
end
theorem TY(w:World)(f:Fact):Dp w f=Eb w f:=by
 have h:=Ht w 12 f 24 (24-f.size) (by omega) (by omega)
 have hc:=W7 f 24
 have e1:Dp w f=true ↔ ((f.size:Int)<=24/\f.depth<=12/\Jw w f=true):=by
  unfold Dp
  constructor
  ·intro hb
   cases hn:Dx w 12 f 24 with
   |mk b s'=>
    rw[hn]at hb
    cases b with
    |false=>simp at hb
    |true=>exact((Ht w 12 f 24 s' (by omega) (by omega)).1 hn).2
  ·intro hb
   rw[h.2 ⟨rfl,hb⟩]
 have e2:Eb w f=true ↔ ((f.size:Int)<=24/\f.depth<=12/\Jw w f=true):=by
  unfold Eb
  simp only[aI,aL]
  constructor
  ·rintro⟨⟨a,b⟩,c⟩;exact⟨by omega,b,c⟩
  ·rintro⟨a,b,c⟩;exact⟨⟨by omega,b⟩,c⟩
 rw[aO,e1,e2]
theorem WL(p:aw)(hC:At p=AG p):Da p=F8 p:=look_eq p hC fun f=>TY _ f
theorem Qo{p:aw}(hg:Bu (p.aa.map (·.ag))=true){k:Nat}(hk:k<p.aa.length):(p.aa[k]).ag.length<=3 /\ ∀x∈(p.aa[k]).ag,3<=x/\x<(k:Int)+3:=by
 have h:=BI hg (k+3)
 have e:parentsF (p.aa.map (·.ag)) ((k+3:Nat):Int)=(p.aa[k]).ag:=by
  unfold parentsF
  rw[aN (by omega),show(((k+3:Nat):Int)-3).toNat=k by omega,aM (by simpa using hk)]
  simp
 rw[e]at h
 exact⟨h.1,fun x hx=>by have:=h.2 x hx;omega⟩
theorem QW: ∀(cs:List ax) (n:Int),(∀c∈cs,c.ag.length<=3)->Fz n cs=BC n cs
 |[],_,_=>rfl
 | c::r,n,h=>by
  have h3:=h c (by simp)
  rw[Fz,BC]
  by_cases h4:4<c.ae.length
  ·rw[aS (.inl h4),aS h4]
  ·rw[aN (by omega),aN h4]
   cases CH n c.ae with
   |none=>rfl
   |some m=>exact QW r m fun x hx=>h x (by simp[hx])
theorem WM{g:fI}(hg:Bu g=true){c:Int}(hc:0<=c/\c<3+g.length):decide (linE g c=0)=decide (0<(FO g c).length):=by
 unfold linE
 rw[aS ⟨hg,hc⟩]
 by_cases h:FO g c=[]
 ·rw[aS h,h];rfl
 ·rw[aN h]
  have:=ee.2 h
  simp[this]
theorem Mx(bs:List Bool)(i j:Nat)(v:Bool):(bs.set i v).getD j false=if i=j/\i<bs.length then v else bs.getD j false:=by
 rw[bg,bg,dB]
 by_cases h:i=j
 ·subst h
  by_cases hl:i<bs.length
  ·simp[hl]
  ·simp[hl]
 ·simp[h]
theorem Hc(k:Nat): ∀(ps:fF) (bs:List Bool) (j:Nat),(∀x∈ps,0<=x/\x<k/\x<bs.length)->(Gx k ps bs).getD j false=(bs.getD j false||(bs.getD k false&&decide ((j:Int)∈ps)))
 |[],bs,j,_=>by rw[Gx];simp
 | p::r,bs,j,h=>by
  obtain⟨h0,h1,h2⟩:=h p (by simp)
  rw[Gx,Hc k r _ j (fun x hx=>by rw[ce];exact h x (by simp[hx]))]
  rw[Mx,Mx]
  have hk:¬(p.toNat=k/\p.toNat<bs.length):=by omega
  rw[aN hk]
  by_cases hj:p.toNat=j
  ·have gJ:(j:Int)=p:=by omega
   rw[aS ⟨hj,by omega⟩,hj]
   simp[gJ]
   cases bs.getD j false<;>cases bs.getD k false<;>simp_all
  ·have gJ:¬(j:Int)=p:=by omega
   rw[aN (by rintro⟨a,_⟩;exact hj a)]
   simp[gJ]
theorem IH(g:fI)(hg:Bu g=true): ∀(j:Nat) (bs:List Bool) (k:Nat),j+2<k->bs.length=3+g.length->j<=g.length->(upD g j bs).getD k false=bs.getD k false
 |0,_,_,_,_,_=>rfl
 | j+1,bs,k,h,hl,hj=>by
  have hp:=(BI hg (j+3)).2
  rw[upD,IH g hg j _ k (by omega) (by rw[Dv];exact hl) (by omega),Hc _ _ _ _ (fun x hx=>by have:=hp x hx;omega)]
  have:decide ((k:Int)∈parentsF g ((j+3:Nat):Int))=false:=by
   rw[be];intro hx
   have:=hp k hx;omega
  rw[this];simp
theorem L4{α:Type}[DecidableEq α]{x:α}: ∀(l s:List α),x∈GF l s ↔ x∈l\/x∈s
 |[],s=>by unfold GF;simp
 |y::r,s=>by
  have:=L4 (x:=x) r (ins y s)
  unfold GF at this⊢
  rw[dz,this,I6,aY]
  grind
theorem Mw{p:aw}(hg:Bu (p.aa.map (·.ag))=true){s:Int}: ∀(n:Nat) (up out:fF) (bs:List Bool),n<=p.aa.length->bs.length=3+p.aa.length->(∀k:Nat,3<=k->k<n+3->((k:Int)∈up ↔ bs.getD k false=true))->
  (s∈hasG p.aa n up out ↔ s∈out \/ ∃k, ∃h:k<p.aa.length,k<n/\(upD (p.aa.map (·.ag)) n bs).getD (k+3) false=true/\s∈(p.aa[k]).ae)
 |0,up,out,bs,_,_,_=>by rw[hasG];simp
 | n+1,up,out,bs,hn,hl,hR=>by
  have gw:n<p.aa.length:=by omega
  have e9:=(Qo hg gw).2
  have gE:parentsF (p.aa.map (·.ag)) ((n+3:Nat):Int)=(p.aa[n]).ag:=by
   unfold parentsF
   rw[aN (by omega),show(((n+3:Nat):Int)-3).toNat=n by omega,aM (by simpa using gw)]
   simp
  have fP:=fun (j:Nat)=>Hc (n+3) (p.aa[n]).ag bs j (fun x hx=>by have:=e9 x hx;omega)
  have hlen:(Gx (n+3) (p.aa[n]).ag bs).length=3+p.aa.length:=by rw[Dv];exact hl
  have fL:=IH _ hg n (Gx (n+3) (p.aa[n]).ag bs) (n+3) (by omega) (by rw[hlen,aZ]) (by rw[aZ];omega)
  have d8:(Gx (n+3) (p.aa[n]).ag bs).getD (n+3) false=bs.getD (n+3) false:=by
   rw[fP]
   have:decide (((n+3:Nat):Int)∈(p.aa[n]).ag)=false:=by rw[be];intro hx;have:=e9 _ hx;omega
   rw[this];simp
  have e8:=hR (n+3) (by omega) (by omega)
  rw[hasG,aM gw,upD,gE]
  simp only
  have gb:((n+3:Nat):Int)=(n:Int)+3:=by omega
  rw[gb]at e8
  by_cases hu:(n:Int)+3∈up
  ·have hb:=e8.1 hu
   rw[aS hu,Mw hg n _ _ (Gx (n+3) (p.aa[n]).ag bs) (by omega) hlen (fun k h3 hk=>by
    rw[L4,hR k h3 (by omega),fP k,hb]
    simp;grind),bk]
   constructor
   ·rintro((h|h)|⟨k,hk,h1,h2,h3⟩)
    ·exact .inl h
    ·exact .inr ⟨n,gw,by omega,by rw[fL,d8];exact hb,h⟩
    ·exact .inr ⟨k,hk,by omega,h2,h3⟩
   ·rintro(h|⟨k,hk,h1,h2,h3⟩)
    ·exact .inl (.inl h)
    ·by_cases gH:k=n
     ·subst gH;exact .inl (.inr h3)
     ·exact .inr ⟨k,hk,by omega,h2,h3⟩
  ·have hb:bs.getD (n+3) false=false:=by
    cases h:bs.getD (n+3) false
    ·rfl
    ·exact absurd (e8.2 h) hu
   rw[aN hu,Mw hg n _ _ (Gx (n+3) (p.aa[n]).ag bs) (by omega) hlen (fun k h3 hk=>by
    rw[hR k h3 (by omega),fP k,hb]
    simp)]
   constructor
   ·rintro(h|⟨k,hk,h1,h2,h3⟩)
    ·exact .inl h
    ·exact .inr ⟨k,hk,by omega,h2,h3⟩
   ·rintro(h|⟨k,hk,h1,h2,h3⟩)
    ·exact .inl h
    ·by_cases gH:k=n
     ·subst gH;rw[fL,d8,hb]at h2;cases h2
     ·exact .inr ⟨k,hk,by omega,h2,h3⟩
theorem KT: ∀(l:fF) (n m:Int),CH n l=some m->∀s,s∈l ↔ n<=s/\s<m
 |[],n,m,h,s=>by rw[CH]at h;cases h;simp
 | x::r,n,m,h,s=>by
  rw[CH]at h
  split at h
  ·rename_i hx
   have h1:=KT r _ _ h s
   have h2:=(Hn r _ _ h).1
   rw[aY,h1]
   omega
  ·cases h
theorem KZ: ∀(cs:List ax) (i:Nat), ∀x∈ownersF cs i,(i:Int)+3<=x
 |[],_,x,hx=>by simp[ownersF]at hx
 |c::r,i,x,hx=>by
  rw[ownersF]at hx
  rcases bk.1 hx with hx|hx
  ·have:=dm hx;omega
  ·have:=KZ r (i+1) x hx;omega
theorem Nu: ∀(cs:List ax) (i:Nat) (n m:Int),BC n cs=some m->∀(s:Int) (k:Nat) (h:k<cs.length),s∈(cs[k]).ae ↔ n<=s/\s<m/\((ownersF cs i)[(s-n).toNat]?).getD 0=(i:Int)+k+3
 |[],_,_,_,_,_,k,h=>by simp at h
 | c::r,i,n,m,hc,s,k,h=>by
  rw[BC]at hc
  split at hc
  ·cases hc
  ·split at hc
   ·cases hc
   ·rename_i m1 hm
    have h1:=KT _ _ _ hm s
    have h2:=(Hn _ _ _ hm).1
    obtain⟨h3,_,_⟩:=Gs r _ _ hc
    have hlen:=F5 r (i+1)
    rw[ownersF]
    have gT:n<=s->s<m1->((List.replicate c.ae.length ((i:Int)+3)++ownersF r (i+1))[(s-n).toNat]?).getD 0=(i:Int)+3:=fun a b=>by
     rw[bx (by rw[bu];omega),ez,aS (by omega)];rfl
    have gF:m1<=s->((List.replicate c.ae.length ((i:Int)+3)++ownersF r (i+1))[(s-n).toNat]?).getD 0=((ownersF r (i+1))[(s-m1).toNat]?).getD 0:=fun a=>by
     rw[bR (by rw[bu];omega),bu,show(s-n).toNat-c.ae.length=(s-m1).toNat by omega]
    cases k with
    | zero =>
     simp only[dM]
     rw[h1]
     constructor
     ·rintro⟨a,b⟩;exact⟨a,by omega,by rw[gT a b];simp⟩
     ·rintro⟨a,b,d⟩
      refine⟨a,cG fun hn=>?_⟩
      rw[gF (by omega)]at d
      have hl:(s-m1).toNat<(ownersF r (i+1)).length:=by omega
      rw[aM hl]at d
      have:=KZ r (i+1) _ (aJ hl)
      simp at d;omega
    | succ k =>
     simp only[eI]
     rw[Nu r (i+1) m1 m hc s k (by simpa using h)]
     constructor
     ·rintro⟨a,b,d⟩;exact⟨by omega,b,by rw[gF a,d];omega⟩
     ·rintro⟨a,b,d⟩
      by_cases hs:s<m1
      ·rw[gT a hs]at d;omega
      ·rw[gF (by omega)]at d;exact⟨by omega,b,by rw[d];omega⟩
theorem TH{x:Int}{l:fF}:x∈F2 l ↔ x∈l:=by unfold F2;exact fa
theorem Wq(g:fI)(hg:Bu g=true)(i:Nat)(bs:List Bool)(hl:bs.length=3+g.length)(hi:i<g.length):(upD g (i+1) bs).getD (i+3) false=bs.getD (i+3) false:=by
 have hp:=(BI hg (i+3)).2
 rw[upD,IH g hg i _ (i+3) (by omega) (by rw[Dv];exact hl) (by omega),Hc _ _ _ _ (fun x hx=>by have:=hp x hx;omega)]
 have:decide (((i+3:Nat):Int)∈parentsF g ((i+3:Nat):Int))=false:=by
  rw[be];intro hx
  have:=hp _ hx;omega
 rw[this];simp
theorem WQ{p:aw}{N:Int}(hg:Bu (p.aa.map (·.ag))=true)(hc:BC 0 p.aa=some N){i:Nat}(hi:i<p.aa.length)(s:Int):s∈hasP p ((i:Int)+3) ↔ (0<=s/\s<N)/\hasW (AK p) ((i:Int)+3) s=true:=by
 have fO:(p.aa.map (·.ag)).length=p.aa.length:=aZ _
 have iF:((i:Int)+3-2).toNat=i+1:=by omega
 have gC:((i:Int)+3).toNat=i+3:=by omega
 have fR:((List.replicate (3+p.aa.length) false).set (i+3) true).length=3+p.aa.length:=by rw[ce,bu]
 have hb:∀k:Nat,((List.replicate (3+p.aa.length) false).set (i+3) true).getD k false=decide (i+3=k):=fun k=>by
  rw[Mx]
  by_cases h:i+3=k
  ·rw[aS ⟨h,by rw[bu];omega⟩,aX h]
  ·rw[aN (fun hh=>h hh.1),aV h,bg,ez]
   split<;>rfl
 unfold hasP
 rw[TH,iF,Mw hg (i+1) [(i:Int)+3] [] _ (by omega) fR (fun k _ _=>by
  rw[hb];simp only[bM,aL];omega)]
 have iE:upF (AK p).ag ((i:Int)+3)=upD (p.aa.map (·.ag)) (i+1) ((List.replicate (3+p.aa.length) false).set (i+3) true):=by
  unfold upF AK
  simp only[fO,gC]
  rfl
 obtain⟨hN,_,_⟩:=Gs _ _ _ hc
 have ji:=F5 p.aa 0
 have fZ:=fun k (h:k<p.aa.length)=>Nu p.aa 0 0 N hc s k h
 simp only[Int.sub_zero]at fZ
 have d8:=Wq _ hg i _ (by rw[fR,fO]) (by rw[fO];exact hi)
 rw[hb]at d8
 have iR:∀k:Nat,i<k->(upD (p.aa.map (·.ag)) (i+1) ((List.replicate (3+p.aa.length) false).set (i+3) true)).getD (k+3) false=false:=fun k hk=>by
  rw[IH _ hg (i+1) _ (k+3) (by omega) (by rw[fR,fO]) (by rw[fO];omega),hb]
  exact aV (by omega)
 unfold hasW Ix
 rw[iE]
 simp only[fm,false_or,aI,bL,aL]
 have iy:(AK p).owner=ownersF p.aa 0:=rfl
 rw[iy]
 constructor
 ·rintro⟨k,hk,h1,h2,h3⟩
  obtain⟨a,b,d⟩:=(fZ k hk).1 h3
  refine⟨⟨a,b⟩,by omega,.inr ⟨by omega,?_⟩⟩
  rw[d,show(((0:Nat):Int)+k+3).toNat=k+3 by omega]
  exact h2
 ·rintro⟨⟨a,b⟩, -, h⟩
  have gD:s.toNat<(ownersF p.aa 0).length:=by omega
  have iJ:=GU (aJ gD)
  rw[aM gD]at h fZ
  simp only[bP]at h fZ
  obtain⟨o1,o2⟩:=iJ
  generalize (ownersF p.aa 0)[s.toNat]=o at*
  have jk:o=((o-3).toNat:Int)+3:=by omega
  have fJ:(o-3).toNat<p.aa.length:=by omega
  refine⟨(o-3).toNat,fJ,?_⟩
  have gR:=(fZ _ fJ).2 ⟨a,b,by omega⟩
  have iK:o.toNat=(o-3).toNat+3:=by omega
  rcases h with(h|h)|⟨-, h⟩
  ·have hk:(o-3).toNat=i:=by omega
   exact⟨by omega,by rw[hk,d8];simp,gR⟩
  ·omega
  ·rw[iK]at h
   refine⟨Nat.lt_of_not_le fun hh=>?_,h,gR⟩
   rw[iR _ (by omega)]at h
   cases h
theorem Qk{w:World}{N c:Int}{has:fF}(hh:∀s,s∈has ↔ (0<=s/\s<N)/\hasW w c s=true): ∀(l:List Init) (seen:List Init),DM has (seen.map (·.slot)) l=FR w N c seen l
 |[],_=>rfl
 | x::r,seen=>by
  rw[DM,FR,<-Qk hh r (seen++[x]),bI,List.map_singleton]
  have h1:decide (x.slot∈has)=(decide (0<=x.slot/\x.slot<N)&&hasW w c x.slot):=by
   rw[aO,aL,aI,aL,hh]
  have h2:(!decide (x.slot∈seen.map (·.slot)))=seen.all fun y=> !decide (y.slot=x.slot):=by
   rw[aO,bc]
   simp only[bw,be,bO,not_exists,not_and]
  rw[h1,h2]
  unfold Fy
  generalize (decide (0<=x.slot/\x.slot<N)&&hasW w c x.slot)=a
  generalize (seen.all fun y=> !decide (y.slot=x.slot))=b
  cases a<;>cases b<;>cases inB x.n<;>rfl
theorem JN{p:aw}{N:Int}(hg:Bu (p.aa.map (·.ag))=true)(hc:BC 0 p.aa=some N): ∀(l:List ax) (i:Nat),i+l.length=p.aa.length->Bo p i l=DS (AK p) N i l
 |[],_,_=>rfl
 |c::r,i,hl=>by
  rw[aP]at hl
  rw[Bo,DS,JN hg hc r (i+1) (by omega)]
  have h1:=WM hg (c:=(i:Int)+3) ⟨by omega,by rw[aZ];omega⟩
  have h2:=Qk (WQ hg hc (i:=i) (by omega)) c.ai []
  rw[bJ]at h2
  rw[h1,h2]
  rfl
theorem SG(p:aw):At p=AG p:=by
 unfold At AG
 cases hg:Bu (p.aa.map (·.ag))with
 | true =>
  have h3:∀c∈p.aa,c.ag.length<=3:=fun c hc=>by
   obtain⟨k,hk,rfl⟩:=bh hc
   exact(Qo hg hk).1
  rw[QW p.aa 0 h3]
  cases hc:BC 0 p.aa with
  |none=>rfl
  |some n=>simp only[JN hg hc p.aa 0 (by omega)]
 |false=>
  congr 1
  cases BC 0 p.aa<;>cases Fz 0 p.aa<;>simp
theorem Qf(p:aw):Da p=F8 p:=WL p (SG p)
theorem Nm: ∀(l:fF) (n m:Int),CH n l=some m->m=n+l.length
 |[],n,m,h=>by rw[CH]at h;cases h;simp
 | x::r,n,m,h=>by
  rw[CH]at h
  split at h
  ·have:=Nm r (n+1) m h
   rw[aP];omega
  ·cases h
theorem Kh: ∀(cs:List ax) (n m:Int),BC n cs=some m->m<=n+4*cs.length
 |[],n,m,h=>by rw[BC]at h;cases h;simp
 | c::r,n,m,h=>by
  rw[BC]at h
  split at h
  ·cases h
  ·rename_i h4
   cases hr:CH n c.ae with
   |none=>rw[hr]at h;cases h
   |some k=>
    rw[hr]at h
    have h1:=Nm _ _ _ hr
    have h2:=Kh r k m h
    rw[aP];omega
theorem Rl{p:aw}(h:okP p=true):p.ae<=128/\p.nodes.length<=120/\p.aa.length<=10/\p.aj.length<=8:=by
 have hc:=E8 h
 unfold okP Da at h
 split at h
 ·rename_i hh
  simp only[aI,aL]at hh
  obtain⟨⟨_,⟨⟨h1,_⟩,_⟩,h2⟩,_⟩:=hh
  unfold At at hc
  rw[aI,aL]at hc
  obtain⟨c1,c2⟩:=hc
  split at c2
  ·cases c2
  ·rename_i N hN
   simp only[aI,aL]at c2
   have:=Kh _ _ _ hN
   exact⟨by omega,h2,c1,h1⟩
 ·cases h
end Go.DL
