/- A part of the proof. -/
import Derived.Test.YtlfimpogphmbdaaGreatM26
import Derived.Test.YtlfimpogphmbdaaGreatM25
import Derived.Test.YtlfimpogphmbdaaGreatM21
import Derived.Test.YtlfimpogphmbdaaGreatM22
import Derived.Test.YtlfimpogphmbdaaGreatM17
import Derived.Test.YtlfimpogphmbdaaGreatM20
import Derived.Test.YtlfimpogphmbdaaGreatM15
import Derived.Test.YtlfimpogphmbdaaGreatM23
set_option linter.all false
namespace Go.DL
open Go.Proofs.Tryz
open Go Go.Proofs
set_option maxHeartbeats 8000000
theorem BS.envS{ib ia is ig:Nat}{a b c d f:D}{cm sm gm:List (Str×Int)}{st:MR}{ns:List BNode}{V:Sig}(h:BS ib ia is ig a b c d f cm sm gm st ns V):EnvS ib ia is ig [a,b,c,d,mD st ns.length,f] cm sm gm V:=⟨⟨_,_,_,_,_,_,rfl,h.env⟩,h.oa,h.os,h.og⟩
section
variable {ops:Array Oper}{n N:Nat}{ro:Option Nat}{S0:Sig}{Q:DX->St->Prop}{df:List DDf}{γ Sr:List (Nat×D)}{V:Sig}{ty:TypeId}{pos:String}{after:Array Edge}{d:D}
theorem moSt{op:Op}{l:List (Bool×Oper)}{S' S'':Sig}(h:MO prog ro n ops N S0 Q df l γ S'')(he:eopD tab Sr V op=some (d,S'))(hw:∀γ,Wk prog n ⟨γ,S',df⟩ ⟨γ,S'',df⟩)(hC:Sub S0 S'')(hl:A4 γ (A6 op.operands.toList)=some Sr:=by exact tdR):
  MO prog ro n ops N S0 Q df ((true,⟨none,op,ty,pos,after,none⟩)::l) γ V:=
 V7 (o:=⟨none,op,ty,pos,after,none⟩) rfl rfl rfl (Gu Ad rfl (by rw[BU (U':=γ) fun x hx=>CA (o:=⟨none,op,ty,pos,after,none⟩) hx];exact(BU (Cq hl)) ▸ he) rfl (BX (hw _) (B6 ⟨rfl,hC,h⟩)))
end
theorem OV(f:FProg)(V:Sig)(hw:f.wt<=10000000)(hs:(B9 f).isSome=true):DCall prog 48 [.agg (BA f)] V (rS (.agg (Am (Ah f))) V):=by
 obtain⟨p1,p2,p3,p4,p5⟩:=f.wt_le;have hsl:=Ju f;have hgl:(gensN f).length<=f.wt:=by have:=IE f;unfold gensN;rw[List.length_map];exact this
 have hcl:(f.classes.map (·.name)).length<=1073741824:=by rw[List.length_map];omega
 have hgn:(Dh f).1.map (·.1)=gensN f:=rfl;refine en func48 ntmps48 ?_
 try refine gz ?_ o48 [2]
 refine newV (fun i2 hi2=>?_)
 repeat ((fail_if_success (first|(refine callWP (MF f.classes (·.name) 103 [] .no _ (by omega) (fun x hx S' _=>ME x S')) (fun x S1 hr=>?_) (fun x S1 hr=>by cases hr.1))|fail));(refine goX1 (gi hgn hs) ?_))
 refine callWP (MF f.classes (·.name) 103 [] .no _ (by omega) (fun x hx S' _=>ME x S')) (fun x S1 hr=>?_) (fun x S1 hr=>by cases hr.1);obtain⟨e1,e2⟩:=hr;cases e1;rw[e2];clear e2 S1
 repeat ((fail_if_success (first|(refine Ab (Da (f.classes.map (·.name)) 3 .no _ hcl ⟨by omega,by omega⟩) (fun x S1 hr=>?_) (fun x S1 hr=>by obtain⟨_,_,h,_⟩:=hr;cases h))|fail));(refine goX1 trivial ?_))
 refine Ab (Da (f.classes.map (·.name)) 3 .no _ hcl ⟨by omega,by omega⟩) (fun x S1 hr=>?_) (fun x S1 hr=>by obtain⟨_,_,h,_⟩:=hr;cases h);obtain⟨ia,hia,e1,e2⟩:=hr;cases e1;rw[e2];clear e2 S1
 repeat ((fail_if_success (first|(refine Ab (Da (Aw f) 0 .no _ (by omega) ⟨by omega,by omega⟩) (fun x S1 hr=>?_) (fun x S1 hr=>by obtain⟨_,_,h,_⟩:=hr;cases h))|fail));(refine goX1 trivial ?_))
 refine Ab (Da (Aw f) 0 .no _ (by omega) ⟨by omega,by omega⟩) (fun x S1 hr=>?_) (fun x S1 hr=>by obtain⟨_,_,h,_⟩:=hr;cases h);obtain⟨is,his,e1,e2⟩:=hr;cases e1;rw[e2];clear e2 S1
 repeat ((fail_if_success (first|(refine Ab (Da (gensN f) 0 .no _ (by omega) ⟨by omega,by omega⟩) (fun x S1 hr=>?_) (fun x S1 hr=>by obtain⟨_,_,h,_⟩:=hr;cases h))|fail));(refine goX1 trivial ?_))
 refine Ab (Da (gensN f) 0 .no _ (by omega) ⟨by omega,by omega⟩) (fun x S1 hr=>?_) (fun x S1 hr=>by obtain⟨_,_,h,_⟩:=hr;cases h);obtain⟨ig,hig,e1,e2⟩:=hr;cases e1;rw[e2];clear e2 S1
 repeat ((fail_if_success (first|(refine boxV (T:=163) (fun ib hib=>?_))|fail));(refine goX1 trivial ?_))
 refine boxV (T:=163) (fun ib hib=>?_)
 try refine gz ?_ (delO 4 o48) [2]
 obtain⟨a1,b1⟩:=Aa hia;obtain⟨a2,b2⟩:=Aa his;obtain⟨a3,b3⟩:=Aa b2;obtain⟨a4,b4⟩:=Aa hig;obtain⟨a5,b5⟩:=Aa b4;obtain⟨a6,b6⟩:=Aa b5;obtain⟨a7,b7⟩:=Aa hib;obtain⟨a8,b8⟩:=Aa b7;obtain⟨a9,b9⟩:=Aa b8;obtain⟨a10,b10⟩:=Aa b9;generalize hU4:Sig.set _ ib _=S4;have o1:S4 ib=some (.cells [.nils,dI 0,.nils,.nils,.nils,dI 0,.map ia,.map is,.map ig]):=by rw[<-hU4];exact w7 ..
 have o2:S4 ia=some (.map (eSN (numM (f.classes.map (·.name)) 3 []))):=by rw[<-hU4,w8 _ _ (Ne.symm a9),w8 _ _ (Ne.symm a5),w8 _ _ (Ne.symm a2)];exact w7 ..
 have o3:S4 is=some (.map (eSN (Bl f))):=by rw[<-hU4,w8 _ _ (Ne.symm a8),w8 _ _ (Ne.symm a4)];exact w7 ..
 have o4:S4 ig=some (.map (eSN (AN f))):=by rw[<-hU4,w8 _ _ (Ne.symm a7)];exact w7 ..
 have o5:S4 i2=some (.cells [.nils,dI 0,.nils,.nils,.nils,dI 0]):=by rw[<-hU4,w8 _ _ (Ne.symm a10),w8 _ _ (Ne.symm a6),w8 _ _ (Ne.symm a3),w8 _ _ (Ne.symm a1)];exact w7 ..
 have hS:Sub V S4:=fun j x hj=>by rw[<-hU4,w8 _ _ (A1 hj b10),w8 _ _ (A1 hj b6),w8 _ _ (A1 hj b3),w8 _ _ (A1 hj b1),w8 _ _ (A1 hj hi2)];exact hj
 clear hU4;refine mixT 12 [0,1,2,3,4,5,6,7,8,9,10,11] [] ?_
 try refine gf o1 ?_ o48 [2]
 refine ent3 ?_ o2;refine ent3 ?_ (w7 ..);refine ent3 ?_ (w7 ..);rw[Sig.set_set,Sig.set_set];generalize hU5:Sig.set _ ia _=S5;have q1:S5 ib=some (.cells [.nils,dI 0,.nils,.nils,.nils,dI 0,.map ia,.map is,.map ig]):=by rw[<-hU5,w8 _ _ a9];exact o1
 have q2:S5 ia=some (.map (eSN (Bi f))):=by rw[<-hU5];exact w7 ..
 have q3:S5 is=some (.map (eSN (Bl f))):=by rw[<-hU5,w8 _ _ a2];exact o3
 have q4:S5 ig=some (.map (eSN (AN f))):=by rw[<-hU5,w8 _ _ a5];exact o4
 have q5:S5 i2=some (.cells [.nils,dI 0,.nils,.nils,.nils,dI 0]):=by rw[<-hU5,w8 _ _ (Ne.symm a1)];exact o5
 have hS5:Sub V S5:=fun j x hj=>by rw[<-hU5,w8 _ _ (A1 hj b1)];exact hS _ _ hj
 clear hU5 hS o1 o2 o3 o4 o5 hia his hig hib b2 b4 b5 b7 b8 b9
 try refine gz ?_ (delO 5 o48) [2]
 have hgm:=Hz f;obtain⟨hM,hA⟩:=args_ok f;have h104:=fun S' (h:S' ig=some (.map (eSN (AN f))))=>Qn f (AN f) ig S' (by omega) (by omega) h hM hA
 refine Im [0,1,2,3,4,5,6,7,8,9,10,11,12,13,14,15,16] [8,9,13] (S5.out (· = ib)) (CS _ _) ?_
 try refine gz ?_ o48 [2]
 refine moRd (d:=.map ig) ?_ ?hd (CS _ _)
 case hd=>simp[q1]
 refine E4 (h104 S5 q4) (fun x S6 hr=>?_) (fun x S6 hr=>by obtain⟨_,_,h,_⟩:=hr;cases h);obtain⟨r,hr0,e1,e2⟩:=hr;cases e1;rw[e2];have nr:ib≠r:=A1 q1 hr0
 have hout:∀X,Sub (S5.out (· = ib)) ((S5.set r X).set ib (.cells [.nils,dI (Aw f).length,.nils,.nils,.nils,dI 0,.map ia,.map is,.map ig])):=fun X j x hj=>by
  obtain⟨h1,h2⟩:=EF hj;rw[w8 _ _ h2,w8 _ _ (A1 h1 hr0)];exact h1
 refine⟨(CS _ _).trans ((Sub.refl _).set hr0),?_⟩;have w1:(S5.set r (.cells ((Hq (AN f) f).map dI))) ib=some (.cells [.nils,dI 0,.nils,.nils,.nils,dI 0,.map ia,.map is,.map ig]):=by rw[w8 _ _ nr];exact q1
 have hout1:=hout (.cells ((Hq (AN f) f).map dI))
 try refine gf q1 ?_ (delO 6 o48) [2]
 generalize hgs:Hq (AN f) f=gs at*;have hgsl:gs.length=(AN f).length:=by rw[<-hgs];unfold Hq;rw[Du,HG,List.length_replicate]
 have hfr:∀C,(S5.set r (.cells (gs.map dI))).set ib C=mS (S5.set ib C) (some (r,(AN f).length,[])) (cI gs):=fun C=>by
  rw[set_comm _ (Ne.symm nr)]
  show _=(S5.set ib C).set r (.cells ((cI gs).flatten++[]));rw[List.append_nil,Fi]
 rw[hfr]
 have hmok:∀C,mOK (S5.set ib C) 1 (some (r,(AN f).length,[])) (cI gs):=fun C=>by
  refine⟨by rw[w8 _ _ (Ne.symm nr)];exact hr0,?_,by simp[hgsl],C4 _⟩;rw[List.append_nil,Fi,List.length_map,hgsl];omega
 refine dwp_wk (Fz (az:=[.nils,dI (Aw f).length]) (bs:=[.nils,.nils,dI 0,.map ia,.map is,.map ig]) (hmok _) (by rw[w7,Kn,hgsl];rfl)) ?_;rw[Sig.set_set];have z1:(S5.set ib (.cells [.nils,dI (Aw f).length,sl (cI gs),.nils,.nils,dI 0,.map ia,.map is,.map ig])) ib=some (.cells [.nils,dI (Aw f).length,sl (cI gs),.nils,.nils,dI 0,.map ia,.map is,.map ig]):=w7 ..;have z2:(S5.set ib (.cells [.nils,dI (Aw f).length,sl (cI gs),.nils,.nils,dI 0,.map ia,.map is,.map ig])) ia=some (.map (eSN (Bi f))):=by rw[w8 _ _ (Ne.symm a9)];exact q2
 have z3:(S5.set ib (.cells [.nils,dI (Aw f).length,sl (cI gs),.nils,.nils,dI 0,.map ia,.map is,.map ig])) is=some (.map (eSN (Bl f))):=by rw[w8 _ _ (Ne.symm a8)];exact q3
 have z4:(S5.set ib (.cells [.nils,dI (Aw f).length,sl (cI gs),.nils,.nils,dI 0,.map ia,.map is,.map ig])) ig=some (.map (eSN (AN f))):=by rw[w8 _ _ (Ne.symm a7)];exact q4
 have z5:(S5.set ib (.cells [.nils,dI (Aw f).length,sl (cI gs),.nils,.nils,dI 0,.map ia,.map is,.map ig])) i2=some (.cells [.nils,dI 0,.nils,.nils,.nils,dI 0]):=by rw[w8 _ _ (Ne.symm a10)];exact q5
 have zS:Sub V (S5.set ib (.cells [.nils,dI (Aw f).length,sl (cI gs),.nils,.nils,dI 0,.map ia,.map is,.map ig])):=hS5.set b10;generalize hU6:S5.set ib (.cells ([D.nils,dI (Aw f).length]++sl (cI gs)::[D.nils,.nils,dI 0,.map ia,.map is,.map ig]))=S6;have hU6:S5.set ib (.cells [.nils,dI (Aw f).length,sl (cI gs),.nils,.nils,dI 0,.map ia,.map is,.map ig])=S6:=hU6;rw[hU6]at z1 z2 z3 z4 z5 zS;clear hU6 hfr hmok hout hout1 w1
 have hwc:∀c∈f.classes,c.parents.length<=1073741824/\c.slots.length<=1073741824/\c.inits.length<=1073741824:=fun c hc=>by
  obtain⟨k,hk,rfl⟩:=List.getElem_of_mem hc;have:=p4 k hk;obtain⟨_,y2,y3,y4,_⟩:=(f.classes[k]).wt_le;have:=Bk (f.classes[k]).parents;have:=Bk (f.classes[k]).slots;omega
 have hE6:EnvS ib ia is ig [.nils,dI (Aw f).length,sl (cI gs),.nils,.nils,dI 0] (Bi f) (Bl f) (AN f) S6:=⟨⟨_,_,_,_,_,_,rfl,z1⟩,z2,z3,z4⟩;have h105:=Tc f.classes (J8 (Bi f) (Bl f)) 106 [.cptr [.ptr ib 0] 0] .no S6 (by omega) (fun x hx S' hs=>Qm x (hwc x hx) (hE6.sub hs));generalize hbc:f.classes.map (J8 (Bi f) (Bl f))=bcs at*
 repeat' first|refine gf z1 ?_ [] [2]|refine moR (h105) ?_|refine moP (h105) ?_|refine gf z1 ?_ o48 [2]|apply gy<;>intro hh
 generalize hU7:Sig.set S6 ib _=S7;have y1:S7 ib=some (.cells [sl (bcs.map cBClass),dI (Aw f).length,sl (cI gs),.nils,.nils,dI 0,.map ia,.map is,.map ig]):=by rw[<-hU7];exact w7 ..
 have y2:S7 ia=some (.map (eSN (Bi f))):=by rw[<-hU7,w8 _ _ (Ne.symm a9)];exact z2
 have y3:S7 is=some (.map (eSN (Bl f))):=by rw[<-hU7,w8 _ _ (Ne.symm a8)];exact z3
 have y4:S7 ig=some (.map (eSN (AN f))):=by rw[<-hU7,w8 _ _ (Ne.symm a7)];exact z4
 have y5:S7 i2=some (.cells [.nils,dI 0,.nils,.nils,.nils,dI 0]):=by rw[<-hU7,w8 _ _ (Ne.symm a10)];exact z5
 have yS:Sub V S7:=by rw[<-hU7];exact zS.set b10
 clear hU7 z1 z2 z3 z4 z5 zS h105 hE6 h104 q1 q2 q3 q4 q5 hS5 hr0 nr;refine CB ib 3 9 (ds:=[sl (bcs.map cBClass),dI (Aw f).length,sl (cI gs),.nils,.nils,dI 0,.map ia,.map is,.map ig]) y1 rfl (fun im him=>?_);have m1:ib≠im:=A1 y1 him;have m2:ia≠im:=A1 y2 him;have m3:is≠im:=A1 y3 him;have m4:ig≠im:=A1 y4 him;have m5:i2≠im:=A1 y5 him;generalize hS8:Sig.set (Sig.set S7 im _) ib _=S8
 have hB8:BS ib ia is ig (sl (bcs.map cBClass)) (dI (Aw f).length) (sl (cI gs)) (.slice (([]:List BMeth).map Ak) (.tag im)) (dI 0) (Bi f) (Bl f) (AN f) none [] S8:=by
  rw[<-hS8];refine⟨w7 ..,?_,?_,?_,rfl,id⟩
  ·rw[w8 _ _ (Ne.symm a9),w8 _ _ m2];exact y2
  ·rw[w8 _ _ (Ne.symm a8),w8 _ _ m3];exact y3
  ·rw[w8 _ _ (Ne.symm a7),w8 _ _ m4];exact y4
 have x1:S8 im=some (.tail 9 ([]:List BMeth).length):=by rw[<-hS8,w8 _ _ (Ne.symm m1)];exact w7 ..
 have x5:S8 i2=some (.cells [.nils,dI 0,.nils,.nils,.nils,dI 0]):=by rw[<-hS8,w8 _ _ (Ne.symm a10),w8 _ _ m5];exact y5
 have xS:Sub V S8:=by rw[<-hS8];exact(yS.set (yS.none him)).set b10
 have him0:V im=none:=yS.none him;clear hS8 y1 y2 y3 y4 y5 yS him;have hcm:∀m∈f.methods,m.body.cnt<=FMeth.wt m:=fun m _=>by have:=FExp.cnt_le m.body;unfold FMeth.wt;omega
 have hwl:wtL FMeth.wt f.methods<=f.wt:=by unfold FProg.wt;omega
 refine U9 [1,2,7,12,76,77,121,122,123,124,125,126,127,128,129,130,131,132,133,134,135,136,137,138,139,140,141,142,143,144,145,146,147,148,149,150,151,152,153,154] (fun (k:Nat) (ms:List BMeth) (st:MR) (ns:List BNode) (S1:Sig)=>k<=f.methods.length/\ms.length=k/\ns++FK (Bi f) (Bl f) (AN f) (f.methods.drop k) ns.length=FK (Bi f) (Bl f) (AN f) f.methods 0/\ms++bndMM (Bi f) (Bl f) (AN f) (f.methods.drop k) ns.length=bndMM (Bi f) (Bl f) (AN f) f.methods 0/\ns.length+wtL FMeth.wt (f.methods.drop k)<=f.wt/\BS ib ia is ig (sl (bcs.map cBClass)) (dI (Aw f).length) (sl (cI gs)) (.slice (ms.map Ak) (.tag im)) (dI 0) (Bi f) (Bl f) (AN f) st ns S1/\S1 im=some (.tail 9 ms.length)/\S1 i2=some (.cells [.nils,dI 0,.nils,.nils,.nils,dI 0]) /\ ¬Bq st i2/\Sub V S1/\(∀j x,V j=some x->¬Bq st j)) (fun k _ _ _ _=>[(78,dI k)]) (fun _ _ _ _ S1=>S1) (fun k _ _ _ _=>f.methods.length-k) (0) ([]) (none) ([]) (S8) (by exact⟨by omega,rfl,rfl,rfl,by simpa using hwl,hB8,x1,x5,id,xS,fun _ _ _=>id⟩) (fun k ms st ns S1 hI=>?_);obtain⟨hk,hml,hRn,hRm,hbud,hB,o1,o5,o6,oS,oR⟩:=hI
 by_cases hkl:k<f.methods.length
 ·rw[A3 hkl]at hRn hRm hbud;rw[FK]at hRn;rw[bndMM]at hRm;rw[wtL]at hbud;have hwm:=p5 k hkl;generalize hmm:f.methods[k]=m at*;have hpl:m.params.length<=f.wt/\m.body.wt<=f.wt/\m.fact.wt<=f.wt:=by have:=hwm;unfold FMeth.wt at this;have:=Bk m.params;omega
  obtain⟨g1,g2,g3⟩:=hpl
  try refine gf (gi hB.env hmm) ?_ (delO 10 o48) [2]
  refine mix (id:=10) [0,1,2,4,5,6,3,7,8,9] [8,9] ?_
  try refine gf hmm ?_ o48 [2]
  refine moQR ?_;obtain⟨ks,vs,hcn⟩:∃ks vs,cNum (numM m.params 0 [])=.cmap ks vs:=⟨_,_,rfl⟩;rw[hcn]
  try refine gf hmm ?_ o48 [2]
  refine OA (fun i10 hi10=>?_)
  try refine gf hmm ?_ o48 [2]
  have hnm:NmD (.cmap ks vs) (numM m.params 0 []):=⟨.inl hcn.symm,Fu _ _ _ (by simp)⟩;have hBn:=hB.fresh (o:=.cells [.ptr ib 0,.cmap ks vs,dI m.params.length]) hi10;have hi10':i10≠im:=fun e=>by rw[e,o1]at hi10;cases hi10
  have hlm0:m.body.wt<=FMeth.wt m:=by unfold FMeth.wt;omega
  have hlm:ns.length+m.body.wt<=100000000:=by omega
  have hrow:∀{j x},(∀c,x≠.cells c)->S1 j=some x->¬Bq st j:=fun hx hj hr=>by obtain⟨cs,hc⟩:=hB.row.cells hr;rw[hj]at hc;cases hc;exact hx _ rfl
  refine Ab (MC m.body.wt m.body (.cmap ks vs) (numM m.params 0 []) m.params.length st ns _ (Nat.le_refl _) hlm (by omega) (by omega) hnm hBn) (fun x S2 hr=>?_) (fun x S2 hr=>by cases hr.1);obtain⟨e1,st2,hB2,hK2⟩:=hr;cases e1;have kp:∀{j x},S1 j=some x->j≠ib->¬Bq st j->S2 j=some x /\ ¬Bq st2 j:=fun hj hb hr=>hK2 _ _ (by rw[w8 _ _ (A1 hj hi10)];exact hj) hb hr
  obtain⟨t1,t1r⟩:=kp o1 (Ne.symm m1) (hrow (by simp) o1);obtain⟨t5,t5r⟩:=kp o5 (Ne.symm a10) o6;have tS:∀j x,V j=some x->S2 j=some x /\ ¬Bq st2 j:=fun j x hj=>kp (oS _ _ hj) (A1 hj b10) (oR _ _ hj);obtain⟨t10,_⟩:=hK2 i10 _ (w7 ..) (fun e=>by rw[e,hB.env]at hi10;cases hi10) (hB.notrow hi10);have hE2:=hB2.envS;have h113:=Tb (.cmap ks vs) (numM m.params 0 []) m.params.length hnm m.fact.wt m.fact S2 (Nat.le_refl _) (by omega) hE2;have u1:(S2.out (· = im)) ib=_:=Hb hB2.env m1;have u4:(S2.out (· = im)) ig=_:=Hb hB2.og m4;have u10:(S2.out (· = im)) i10=_:=Hb t10 hi10'
  have hsub:Sub (S2.out (· = im)) (S2.set im (.tail 9 (ms.length+1))):=fun j x hj=>by
   obtain⟨h1,h2⟩:=EF hj;rw[w8 _ _ h2];exact h1
  have hout0:Sub (S2.out (· = im)) S2:=CS _ _
  try refine gf hmm ?_ (delO 12 o48) [2]
  refine Im [0,1,2,3,4,5,6,7,8,9,10,11,12,13,14,15,16,17,19,18,20,21,22,23,24,25] [18,22] (S2.out (· = im)) (CS _ _) ?_
  repeat' first|refine gf (gi u1 (gi u4 (gi u10 (gi hmm (gi t1 hB2.env))))) ?_ [] [2]|refine moR (h113) ?_|refine moP (h113) ?_|refine gf (gi u1 (gi u4 (gi u10 (gi hmm (gi t1 hB2.env))))) ?_ o48 [2]|apply gy<;>intro hh
  generalize hqq:Sig.set _ ib _=qq;have hbe:bndE (Bi f) (Bl f) (AN f) m.body (fun y=>getM 0 y (numM m.params 0 [])) m.params.length ns.length=bndE (Bi f) (Bl f) (AN f) m.body (Ep m) m.params.length ns.length:=rfl;have hbl:=Dt (cm:=Bi f) (sm:=Bl f) (gm:=AN f) m.body (Ep m) m.params.length ns.length;rw[hbe]at hB2 hqq
  have c1:qq ib=some (.cells [sl (bcs.map cBClass),dI (Aw f).length,sl (cI gs),.slice ((ms++[(⟨m.kind,getM 0 m.name (AN f),bndF (Bi f) (Bl f) (Ep m) m.fact,ns.length⟩:BMeth)]).map Ak) (.tag im),mD st2 (ns++bndE (Bi f) (Bl f) (AN f) m.body (Ep m) m.params.length ns.length).length,dI 0,.map ia,.map is,.map ig]):=by
   rw[<-hqq,w7,List.length_append];simp only[List.map_append,List.map_cons,List.map_nil,Ak,D8,List.cons_append,List.nil_append];rfl
  have kq:∀{j x},S2 j=some x->j≠ib->j≠im->qq j=some x:=fun hj h1 h2=>by rw[<-hqq,w8 _ _ h1,w8 _ _ h2];exact hj
  have hBq:BS ib ia is ig (sl (bcs.map cBClass)) (dI (Aw f).length) (sl (cI gs)) (.slice ((ms++[(⟨m.kind,getM 0 m.name (AN f),bndF (Bi f) (Bl f) (Ep m) m.fact,ns.length⟩:BMeth)]).map Ak) (.tag im)) (dI 0) (Bi f) (Bl f) (AN f) st2 (ns++bndE (Bi f) (Bl f) (AN f) m.body (Ep m) m.params.length ns.length) qq:=
   ⟨c1,kq hB2.oa (Ne.symm a9) m2,kq hB2.os (Ne.symm a8) m3,kq hB2.og (Ne.symm a7) m4,hB2.row.keep fun j x hj hr=>kq hj (fun e=>hB2.nr (by rw[<-e];exact hr)) (fun e=>t1r (by rw[<-e];exact hr)),hB2.nr⟩
  have cim:qq im=some (.tail 9 (ms++[(⟨m.kind,getM 0 m.name (AN f),bndF (Bi f) (Bl f) (Ep m) m.fact,ns.length⟩:BMeth)]).length):=by rw[<-hqq,w8 _ _ (Ne.symm m1),w7,List.length_append];rfl
  have c5:=kq t5 (Ne.symm a10) m5;have cS:Sub V qq:=fun j x hj=>kq (tS j x hj).1 (A1 hj b10) (A1 hj him0);clear hqq;exact⟨k+1,ms++[⟨m.kind,getM 0 m.name (AN f),bndF (Bi f) (Bl f) (Ep m) m.fact,ns.length⟩],st2,ns++bndE (Bi f) (Bl f) (AN f) m.body (Ep m) m.params.length ns.length,qq,⟨by omega,by rw[List.length_append,hml];rfl,by rw[List.append_assoc,List.length_append,hbl];exact hRn,by rw[List.append_assoc,List.length_append,hbl];exact hRm,by rw[List.length_append,hbl];have:=FExp.cnt_le m.body;omega,hBq,cim,c5,t5r,cS,fun j x hj=>(tS j x hj).2⟩,td1,wkR⟩
 ·rw[A2 hkl,FK,List.append_nil]at hRn;rw[A2 hkl,bndMM,List.append_nil]at hRm;have hmw:=FExp.cnt_le f.main
  try refine gf hB.env ?_ o48 [2]
  refine Ab (MC f.main.wt f.main .nilmap [] 0 st ns _ (Nat.le_refl _) (by omega) (by omega) (by omega) ⟨.inr ⟨rfl,rfl⟩,by simp⟩ hB) (fun x S2 hr=>?_) (fun x S2 hr=>by cases hr.1);obtain⟨e1,st2,hB2,hK2⟩:=hr;cases e1;have hbe:bndE (Bi f) (Bl f) (AN f) f.main (fun y=>getM 0 y []) 0 ns.length=bndE (Bi f) (Bl f) (AN f) f.main (fun _=>0) 0 ns.length:=rfl;rw[hbe]at hB2;obtain⟨t5,t5r⟩:=hK2 _ _ o5 (Ne.symm a10) o6;have tS:∀j x,V j=some x->S2 j=some x /\ ¬Bq st2 j:=fun j x hj=>hK2 _ _ (oS _ _ hj) (A1 hj b10) (oR _ _ hj);have hbo:Ah f=⟨bcs,(Aw f).length,gs,ms,ns++bndE (Bi f) (Bl f) (AN f) f.main (fun _=>0) 0 ns.length,ns.length⟩:=by unfold Ah;rw[hbc,hgs,<-hRn,<-hRm]
  generalize hnn:ns++bndE (Bi f) (Bl f) (AN f) f.main (fun _=>0) 0 ns.length=nn at*
  try refine gf hB2.env ?_ (delO 16 o48) [2]
  generalize hU3:Sig.set S2 ib _=S3;have c1:S3 ib=some (.cells [sl (bcs.map cBClass),dI (Aw f).length,sl (cI gs),.slice (ms.map Ak) (.tag im),mD st2 nn.length,dI ns.length,.map ia,.map is,.map ig]):=by rw[<-hU3];exact w7 ..
  have c5:S3 i2=some (.cells [.nils,dI 0,.nils,.nils,.nils,dI 0]):=by rw[<-hU3,w8 _ _ (Ne.symm a10)];exact t5
  have cS:∀j x,V j=some x->S3 j=some x /\ ¬Bq st2 j:=fun j x hj=>⟨by rw[<-hU3,w8 _ _ (A1 hj b10)];exact(tS j x hj).1,(tS j x hj).2⟩
  have cR:RowAt S3 3 st2 (nn.map Af):=hB2.row.keep fun j x hj hr=>by rw[<-hU3,w8 _ _ fun e=>hB2.nr (by rw[<-e];exact hr)];exact hj
  clear hU3;obtain⟨S4,rfl,hm4,hk4,_⟩:=cR.mS;have d1:=hk4 _ _ c1 hB2.nr;have d5:=hk4 _ _ c5 t5r;have dS:Sub V S4:=fun j x hj=>hk4 _ _ (cS j x hj).1 (cS j x hj).2;refine dwp_wk (Fz (az:=[sl (bcs.map cBClass),dI (Aw f).length,sl (cI gs),.slice (ms.map Ak) (.tag im)]) (bs:=[dI ns.length,.map ia,.map is,.map ig]) hm4 (by rw[List.length_map];exact d1)) ?_;refine dwp_wk (Et (az:=[sl (bcs.map cBClass),dI (Aw f).length,sl (cI gs)]) (d:=.slice (ms.map Ak) (.tag im)) (d':=sl (ms.map Ak)) (bs:=[sl (nn.map Af),dI ns.length,.map ia,.map is,.map ig]) (w7 ..) (Bc _ _)) ?_;rw[Sig.set_set];have e1:(S4.set ib (.cells [sl (bcs.map cBClass),dI (Aw f).length,sl (cI gs),sl (ms.map Ak),sl (nn.map Af),dI ns.length,.map ia,.map is,.map ig])) ib=some (.cells [sl (bcs.map cBClass),dI (Aw f).length,sl (cI gs),sl (ms.map Ak),sl (nn.map Af),dI ns.length,.map ia,.map is,.map ig]):=w7 ..;have e5:(S4.set ib (.cells [sl (bcs.map cBClass),dI (Aw f).length,sl (cI gs),sl (ms.map Ak),sl (nn.map Af),dI ns.length,.map ia,.map is,.map ig])) i2=some (.cells [.nils,dI 0,.nils,.nils,.nils,dI 0]):=by rw[w8 _ _ (Ne.symm a10)];exact d5
  have eS:Sub V (S4.set ib (.cells [sl (bcs.map cBClass),dI (Aw f).length,sl (cI gs),sl (ms.map Ak),sl (nn.map Af),dI ns.length,.map ia,.map is,.map ig])):=dS.set b10;generalize hU5:S4.set ib (.cells ([sl (bcs.map cBClass),dI (Aw f).length,sl (cI gs)]++sl (ms.map Ak)::[sl (nn.map Af),dI ns.length,.map ia,.map is,.map ig]))=S5;have hU5:S4.set ib (.cells [sl (bcs.map cBClass),dI (Aw f).length,sl (cI gs),sl (ms.map Ak),sl (nn.map Af),dI ns.length,.map ia,.map is,.map ig])=S5:=hU5;rw[hU5]at e1 e5 eS;clear hU5;refine mixL [0,1,2,3,4,5,6,8,9,10,11,12,7,13,14,15,16,17,18,19,20] [17] ?_
  try refine gf e1 ?_ o48 [2]
  refine moQR ?_
  try refine gf e1 ?_ o48 [2]
  refine moQR ?_
  try refine gf e1 ?_ o48 [2]
  refine moSt (d:=.any) (S':=S5.set ib (.cells [sl (bcs.map cBClass),dI (Aw f).length,sl (cI gs),.slice (ms.map Ak) .clip,sl (nn.map Af),dI ns.length,.map ia,.map is,.map ig])) (S'':=S5) ?_ ?he (fun γ=>?hw) (Sub.refl _)
  case he=>simp[e1]
  case hw=>
   have:=Et (P:=prog) (n:=155) (γ:=γ) (df:=[]) (az:=[sl (bcs.map cBClass),dI (Aw f).length,sl (cI gs)]) (d:=.slice (ms.map Ak) .clip) (d':=sl (ms.map Ak)) (bs:=[sl (nn.map Af),dI ns.length,.map ia,.map is,.map ig]) (V:=S5.set ib (.cells [sl (bcs.map cBClass),dI (Aw f).length,sl (cI gs),.slice (ms.map Ak) .clip,sl (nn.map Af),dI ns.length,.map ia,.map is,.map ig])) (w7 ..) (Bc _ _);rw[Sig.set_set]at this;have h2:=Sig.set_self _ e1;rw[show S5.set ib (.cells ([sl (bcs.map cBClass),dI (Aw f).length,sl (cI gs)]++sl (ms.map Ak)::[sl (nn.map Af),dI ns.length,.map ia,.map is,.map ig]))=S5 from h2]at this;exact this
  try refine gf (gi e1 e5) ?_ o48 [2]
  rw[hbo];have hwk:WkD (.agg [sl (bcs.map cBClass),dI (Aw f).length,sl (cI gs),sl (ms.map Ak),.slice (nn.map Af) .clip,dI ns.length]) (.agg [sl (bcs.map cBClass),dI (Aw f).length,sl (cI gs),sl (ms.map Ak),sl (nn.map Af),dI ns.length]):=Ev (show WkL _ _ from⟨A7 _,A7 _,A7 _,A7 _,Bc _ _,A7 _,trivial⟩);refine finC (S':=V) (d:=.agg [sl (bcs.map cBClass),dI (Aw f).length,sl (cI gs),sl (ms.map Ak),sl (nn.map Af),dI ns.length]) ⟨rfl,rfl⟩ (hU:=(eS.set b10).set hi2) (hw:=?_);exact hwk
@[reducible,instance] def a48:=fun f V=>ah2 (@OV f V)
theorem H7{p:BProg}{k:Nat}{f:Int->Int->List Int->Bool×List Int}{x:BNode}{size:Int}
  (hf:∀c z s s',f c z s=(true,s')->s.length=p.nodes.length->0<=z->s'.length=s.length/\cntB p k c+negS s'=negS s) (hz:0<=size) :
  ∀(l:List Int) (j:Nat) (s s':List Int),C6 f x size j l s=(true,s')->s.length=p.nodes.length->s'.length=s.length/\wtL (cntB p k) l+negS s'=negS s
 |[],j,s,s',h,hs=>by
  rw[C6]at h;cases h;exact⟨rfl,by rw[wtL];omega⟩
 | c::r,j,s,s',h,hs=>by
  rw[C6]at h;cases hc:f c (if x.op=9/\j=1 then size+1 else size) s with
  | mk b s1 =>
   rw[hc]at h;cases b with
   |false=>simp at h
   |true=>
    obtain⟨h2,h3⟩:=hf _ _ _ _ hc hs (by split<;>omega);obtain⟨h5,h6⟩:=H7 hf hz r (j+1) s1 s' h (by omega);exact⟨by omega,by rw[wtL];omega⟩
theorem HP(p:BProg)(inM:Bool): ∀(k:Nat) (node size:Int) (s s':List Int),Dm p inM k node size s=(true,s')->s.length=p.nodes.length->0<=size->s'.length=s.length/\cntB p k node+negS s'=negS s
 |0,_,_,_,_,h,_,_=>by simp[Dm]at h
 | k+1,node,size,s,s',h,hs,hz=>by
  rw[Dm]at h;split at h
  ·simp at h
  ·rename_i h1;split at h
   ·simp at h
   ·rename_i h2;obtain⟨h5,h6⟩:=H7 (HP p inM k) hz (Aj p node).kids 0 _ s' h (by simpa using hs);have hn:node.toNat<s.length:=by omega
    have h7:=KQ s node.toNat size hn (by omega) hz;exact⟨by rw[h5,List.length_set],by rw[cntB];omega⟩
theorem JD(p:BProg): ∀(l:List BMeth) (s s':List Int),Ce p l s=some s'->s.length=p.nodes.length->(∀m∈l,0<=p.gens.getD m.gen.toNat 0)->
  s'.length=s.length/\wtL (fun m:BMeth=>cntB p 12 m.node) l+negS s'=negS s
 |[],s,s',h,hs,_=>by rw[Ce]at h;cases h;exact⟨rfl,by rw[wtL];omega⟩
 | m::r,s,s',h,hs,hg=>by
  rw[Ce]at h;split at h
  ·cases hw:Dm p (decide (m.kind=1)||decide (m.kind=4)) 12 m.node (p.gens.getD m.gen.toNat 0) s with
   | mk b s1 =>
    rw[hw]at h;cases b with
    |false=>simp[optW]at h
    |true=>
     simp only[optW]at h;obtain⟨h1,h2⟩:=HP p _ _ _ _ _ _ hw hs (hg m (by simp));obtain⟨h3,h4⟩:=JD p r s1 s' h (by omega) fun x hx=>hg x (by simp[hx])
     exact⟨by omega,by rw[wtL];omega⟩
  ·cases h
theorem TZ(n:Nat):negS (List.replicate n (-1))=n:=by
 unfold negS;rw[List.countP_replicate];simp
theorem Rc: ∀s:List Int,EntOK s-> -1∉s->negS s=0:=fun s h hn=>by
 unfold negS;rw[List.countP_eq_zero];intro x hx;have h1:=h x hx;have h2:x ≠ -1:=fun e=>hn (e ▸ hx);simp only[decide_eq_true_eq];omega
theorem Ub{p:BProg}(h:okP p=true):wtL (fun m:BMeth=>cntB p 12 m.node) p.methods+cntB p 12 p.main=p.nodes.length:=by
 unfold okP CH at h;split at h
 ·rename_i hc;simp only[Bool.and_eq_true,decide_eq_true_eq,List.all_eq_true]at hc;obtain⟨_,hg⟩:=hc
  have hg0:∀n:Nat,0<=p.gens.getD n 0:=fun n=>by
   rw[List.getD_eq_getElem?_getD]
   by_cases hl:n<p.gens.length
   ·rw[List.getElem?_eq_getElem hl];have:=(hg _ (List.getElem_mem hl)).1;simp only[Option.getD_some];omega
   ·rw[List.getElem?_eq_none (by omega)];simp
  cases hm:Ce p p.methods (List.replicate p.nodes.length (-1))with
  |none=>rw[hm]at h;simp at h
  | some s =>
   rw[hm]at h;obtain⟨k1,k2⟩:=JD p p.methods _ s hm (by simp) fun m _=>hg0 _
   rw[List.length_replicate]at k1;rw[TZ]at k2;cases hw:Dm p false 12 p.main 0 s with
   | mk b s2 =>
    simp only[hw]at h;cases b with
    |false=>simp[optW]at h
    | true =>
     obtain⟨m1,m2⟩:=HP p false 12 _ _ _ _ hw k1 (Int.le_refl _);have e1:=methsP_ent p (fun g hx=>(hg g hx).1) p.methods _ s hm (fun x hx=>by rw[List.eq_of_mem_replicate hx];simp[EntOK]<;>omega);have e2:=HQ p false 12 p.main 0 s (Int.le_refl _) e1;rw[hw]at e2;simp only[optW]at h;split at h
     ·simp at h
     ·rename_i hno;have:=Rc s2 e2 hno;omega
 ·cases h
theorem Nd: ∀l:List FExp,(Bw l).length=wtL FExp.cnt l
 |[]=>by rw[Bw,wtL];rfl
 |x::r=>by rw[Bw,wtL,List.length_append,Nd r];rfl
theorem Js{p:BProg}{k:Nat}{f:Int->List Str->Nat->FExp×Nat}{op:Int}{txt:Str}{env:List Str}(hf:∀c e t,(f c e t).1.cnt=cntB p k c): ∀(l:List Int) (j t:Nat),wtL FExp.cnt (BJ f op txt env j l t).1=wtL (cntB p k) l
 |[],j,t=>by rw[BJ,wtL,wtL]
 |c::r,j,t=>by
  rw[BJ,wtL,wtL,hf,Js hf r]
theorem Np(p:BProg)(a b g P:List Str): ∀(k:Nat) (node:Int) (env:List Str) (t:Nat),(spE p a b g P k node env t).1.cnt=cntB p k node
 |0,_,_,_=>by rw[spE,cntB];rfl
 |k+1,node,env,t=>by
  rw[spE,cntB];unfold FExp.cnt;rw[allE,List.length_cons,Nd,Js (Np p a b g P k)];omega
theorem L5(op:Int)(s:Str)(l:List (List D))(o:Own)(V:Sig):DCall prog 95 [dI op,.str s,.slice l o] V (rS (.agg [dI op,dI 0,.str s,.slice l o]) V):=by
 refine en func95 ntmps95 ?_;refine gz ?_ [] [6];refine newV (fun i hi=>?_);refine gz ?_ [] [6];exact finC (S':=V) ⟨rfl,rfl⟩
@[reducible,instance] def a95:=fun op s l o V=>ah0 (@L5 op s l o V)
def shpB(e:FExp):Bool:=Nx (hasM e.op shapesL) (getM ⟨false,0,0⟩ e.op shapesL) e
mutual
def cntE:FExp->Int->Int->Bool×Int
 |.mk o n t k,d,b=>if b-1<0\/12<d\/shpB (.mk o n t k)=false then(false,b-1) else NX k (d+1) (b-1)
def NX:List FExp->Int->Int->Bool×Int
 |[],_,b=>(true,b)
 |x::r,d,b=>if(cntE x d b).1=true then NX r d (cntE x d b).2 else(false,(cntE x d b).2)
end
@[simp] theorem binD_lssS(a b:Str):binD .lss (.str a) (.str b)=some (.bool (Op.bytesLess a b)):=rfl
mutual
def OD:FExp->List Str->List Str
 |.mk o n t k,b=>if o=3/\t∉b then [t] else GQ o t k 0 b
def GQ(o:Int)(t:Str):List FExp->Nat->List Str->List Str
 |[],_,_=>[]
 |x::r,i,b=>OD x (if o=9/\i=1 then ins t b else b)++GQ o t r (i+1) b
end
def LF(free slots own:List Str)(next:Bool)(e:FExp):Bool:=(allE e).all (nodK own slots next)&&(OD e []).all fun x=>decide (x∈free)
def Fv:List Str->List FClass->Bool
 |_,[]=>true
 |own,c::r=>(!decide (3<c.parents.length)&&!decide (4<c.slots.length)&&difE [] c.parents)&&(c.parents.all (fun s=>decide (s∈own))&&Fv (own++[c.name]) r)
def Kj(f:FProg):Bool:= !decide (10<f.classes.length)&&(Fv [] f.classes&&(Hc (f.classes.map (·.name))&&Hc (f.classes.flatMap (·.slots))))
def Fw(f:FProg):List Str->List Bool->List Bool
 |[],b=>b
 |s::r,b=>Fw f r (b.set (idxF (fun c:FClass=>decide (c.name=s)) f.classes 0).toNat true)
def abvD(f:FProg)(n:Nat):Nat->List Bool->List Bool
 |0,b=>b
 |i+1,b=>abvD f n i (if i≠n/\b.getD i false=false then b else Fw f (((f.classes[i]?).map (·.parents)).getD []) b)
def abvF(f:FProg)(n:Nat):List Bool:=abvD f n (n+1) (List.replicate f.classes.length false)
def NG:List FClass->List Bool->List Str
 |c::cs,b::bs=>(if b=true then c.slots else [])++NG cs bs
 |_,_=>[]
def iniR(mine:List Str):List Str->List FInit->Bool
 |_,[]=>true
 |seen,x::r=>(decide (x.slot∈mine)&&(!decide (x.slot∈seen)&&inB x.n))&&iniR mine (seen++[x.slot]) r
def inisR(f:FProg):Nat->List FClass->Bool
 |_,[]=>true
 |i,c::r=>iniR (NG f.classes ((abvF f i).set i true)) [] c.inits&&inisR f (i+1) r
theorem Ef(f:FProg): ∀(ps:List Str) (b:List Bool),(Fw f ps b).length=b.length
 |[],_=>rfl
 |s::r,b=>by rw[Fw,Ef f r,List.length_set]
theorem Jb(f:FProg)(n:Nat): ∀(i:Nat) (b:List Bool),(abvD f n i b).length=b.length
 |0,_=>rfl
 |i+1,b=>by
  rw[abvD,Jb f n i];split
  ·rfl
  ·rw[Ef]
theorem O4(f:FProg)(n:Nat):(abvF f n).length=f.classes.length:=by rw[abvF,Jb,List.length_replicate]
def fctC(P C:List Str)(x:FFact):Bool:=
 (decide ((x.kids.length:Int)=arF x.op)&&(if C1 x.op=true then decide (x.name∈P) else(decide (x.name=[])&&decide (x.path=[])))&&decide (x.path.length<=2)) &&
 (((decide (x.op=2) == !decide (x.cls=[]))&&(!decide (x.op=2)||decide (x.cls∈C)))&&((decide (x.op=3\/x.op=4)||decide (x.n=0))&&inB x.n))
def fctB(P S C:List Str)(x:FFact):Bool:=decide (1<=x.op/\x.op<=7)&&(fctC P C x&&x.path.all (fun s=>decide (s∈S)))
mutual
def fctE(P S C:List Str):FFact->Int->Int->Bool×Int
 |.mk o s p c n k,d,b=>if b-1<0\/12<d\/fctB P S C (.mk o s p c n k)=false then(false,b-1) else GX P S C k (d+1) (b-1)
def GX(P S C:List Str):List FFact->Int->Int->Bool×Int
 |[],_,b=>(true,b)
 |x::r,d,b=>if(fctE P S C x d b).1=true then GX P S C r d (fctE P S C x d b).2 else(false,(fctE P S C x d b).2)
end
section
variable {P S C:List Str}
mutual
theorem NO: ∀(e:FFact) (d b:Int),(fctE P S C e d b).2<=b/\(0<=b-> -1<=(fctE P S C e d b).2)/\((fctE P S C e d b).1=true->0<=(fctE P S C e d b).2)
 | .mk o s p c n k,d,b=>by
  rw[fctE];split
  ·refine⟨?_,?_,?_⟩<;>simp<;>omega
  ·have:=OQ k (d+1) (b-1);exact⟨by omega,fun h=>this.2.1 (by omega),fun h=>this.2.2 (by omega) h⟩
theorem OQ: ∀(l:List FFact) (d b:Int),(GX P S C l d b).2<=b/\(0<=b-> -1<=(GX P S C l d b).2)/\(0<=b->(GX P S C l d b).1=true->0<=(GX P S C l d b).2)
 |[],d,b=>by rw[GX];exact⟨Int.le_refl _,fun h=>by simp;omega,fun h _=>h⟩
 | x::r,d,b=>by
  have h1:=NO x d b;rw[GX];split
  ·rename_i h;have h2:=OQ r d (fctE P S C x d b).2;have:=h1.2.2 h;exact⟨by omega,fun _=>h2.2.1 this,fun _ h3=>h2.2.2 this h3⟩
  ·exact⟨h1.1,h1.2.1,fun _ h3=>by cases h3⟩
end
end
def lits3:List Str:=[wAny,wInt,Fk]
def Iq(m:FMeth):Bool:=(decide (1<=m.kind)&&decide (m.kind<=4))&&(B7 m.name&&(decide (1<=m.params.length)&&(decide (m.params.length<=3)&&Hc m.params)))
def Io(slots own:List Str)(m:FMeth)(b:Int):Bool×Int:=
 if Iq m=true then
  if(fctE m.params slots (own++lits3) m.fact 1 b).1=true/\(cntE m.body 1 120).1=true then
   (decide (0<=(fctE m.params slots (own++lits3) m.fact 1 b).2-(allE m.body).length)&&LF m.params slots own (decide (m.kind=1\/m.kind=4)) m.body,(fctE m.params slots (own++lits3) m.fact 1 b).2-(allE m.body).length)
  else(false,(fctE m.params slots (own++lits3) m.fact 1 b).2)
 else(false,b)
structure NotS(io i1 i2:Nat)(V:Sig)(s:GenT):Prop where
 oo:V io=some (.cells [.slice (cS (s.1.map (·.1))) (.tag i1),.slice (cI (s.1.map (·.2))) (.tag i2),.bool (!s.2)])
 o1:V i1=some (.tail 1 s.1.length)
 o2:V i2=some (.tail 1 s.1.length)
theorem NotS.fresh{io i1 i2 k:Nat}{V:Sig}{s:GenT}{o:DObj}(h:NotS io i1 i2 V s)(hk:V k=none):NotS io i1 i2 (V.set k o) s:=
 ⟨by rw[w8 _ _ (A1 h.oo hk)];exact h.oo,by rw[w8 _ _ (A1 h.o1 hk)];exact h.o1,by rw[w8 _ _ (A1 h.o2 hk)];exact h.o2⟩
def slotsR(f:FProg):List Str:=f.classes.flatMap (·.slots)
def ownR(f:FProg):List Str:=f.classes.map (·.name)
def budR(f:FProg):Int:=120-f.classes.length-(allE f.main).length
def JC(slots own:List Str):List FMeth->Int->Bool
 |[],_=>true
 |m::r,b=>(Io slots own m b).1&&JC slots own r (Io slots own m b).2
def headR(f:FProg):Bool:=decide (f.methods.length<=16)&&(Kj f&&(inisR f 0 f.classes&&(cntE f.main 1 120).1))
def R6(f:FProg):Bool:=headR f&&((decide (0<=budR f)&&LF [] (slotsR f) (ownR f) false f.main)&&(JC (slotsR f) (ownR f) f.methods (budR f)&&((Dh f).2&&decide ((Dh f).1.length<=8))))
theorem OB(slots own:List Str)(m:FMeth)(b:Int)(hb:0<=b)(h:(Io slots own m b).1=true):0<=(Io slots own m b).2/\(Io slots own m b).2<=b:=by
 have h1:=NO (P:=m.params) (S:=slots) (C:=own++lits3) m.fact 1 b;unfold Io at h⊢;split at h
 ·rename_i h2;rw[if_pos h2];split at h
  ·rename_i h3;rw[if_pos h3];simp only[Bool.and_eq_true,decide_eq_true_eq]at h⊢;omega
  ·cases h
 ·cases h
theorem J1: ∀(l:List FClass) (own:List Str),Fv own l=true->∀c∈l,c.slots.length<=4 /\ ∀s∈c.parents,s∈own++l.map (·.name)
 |[],_,_,c,hc=>by cases hc
 | x::r,own,h,c,hc=>by
  simp only[Fv,Bool.and_eq_true,Bool.not_eq_true',decide_eq_false_iff_not,List.all_eq_true,decide_eq_true_eq]at h;obtain⟨⟨⟨_,h2⟩,_⟩,h3,h4⟩:=h;rcases List.mem_cons.1 hc with rfl|hc
  ·exact⟨by omega,fun s hs=>List.mem_append_left _ (h3 s hs)⟩
  ·obtain⟨h5,h6⟩:=J1 r _ h4 c hc;exact⟨h5,fun s hs=>by have:=h6 s hs;simp only[List.append_assoc,List.map_cons]at this⊢; exact this⟩
end Go.DL
