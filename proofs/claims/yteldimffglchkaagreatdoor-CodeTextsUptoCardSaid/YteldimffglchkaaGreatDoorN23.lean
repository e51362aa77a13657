/- A part of the proof. -/
import Derived.Test.YteldimffglchkaaGreatDoorN22
import Derived.Test.YteldimffglchkaaGreatDoorN20
import Derived.Test.YteldimffglchkaaGreatDoorN19
import Derived.Test.YteldimffglchkaaGreatDoorN18
import Derived.Test.YteldimffglchkaaGreatDoorN11
import Derived.Test.YteldimffglchkaaGreatDoorN09
import Derived.Test.YteldimffglchkaaGreatDoorN17
import Derived.Test.YteldimffglchkaaGreatDoorN16
import Derived.Shelf.LaysC
import Derived.Shelf.Strconv.AtoiAll
import Derived.Test.YteldimffglchkaaGreatDoorProg
set_option linter.all false
namespace Go.DL
open Go.Proofs.Tryz
open Go Go.Proofs
set_option maxHeartbeats 8000000
theorem fits_rg{p:BProg}{N q:Nat}{x:CIns}(ah:fitsC p N q x=true):1<=x.op/\x.op<=21:=by
 unfold fitsC at ah
 refine Classical.byContradiction fun h=>?_
 rw[if_neg (by omega),if_neg (by omega),if_neg (by omega),if_neg (by omega),if_neg (by omega),if_neg (by omega)]at ah
 simp at ah
 omega
theorem Qz{p:BProg}{w:CWorld}{c:CProg}{m:Met}{nx:Bool}(hg:∀n:Nat,0<=p.gens.getD n 0)(hw:WldOK p w)(hL:LevOK p c m nx){s:GoS}(hs:GInv w m s):mRun p w c c.ins.length s=match Im p w (AB c s.pos.toNat) { s with pos:=s.pos+1 } with
  |.inl t=>mRun p w c c.ins.length t
  |.inr h=>h:=by
 rw[LB hg hw hL c.ins.length (c.ins.length+1) s hs (by omega) (by omega),mRun]
 rfl
@[simp] theorem cActs_len:cActs.length=22:=rfl
@[simp] theorem cActs_all:cActs.all D.flat=true:=rfl
@[simp] theorem cActs_tk:List.take 22 cActs=cActs:=rfl
theorem RunS.newO{ir:Nat}{p:BProg}{R:Nat->RW}{s:GoS}{O:Sig}(h:RunS ir p R s O){i:Nat}(hi:O i=none)(o:DObj):RunS ir p R s (O.set i o):=by
 have hn:∀j x,O j=some x->j≠i:=fun j x hj e=>by rw[e,hi]at hj;cases hj
 exact⟨by rw[w7 _ _ (hn _ _ h.obj)];exact h.obj,h.rows.keep fun j x hj _=>by rw[w7 _ _ (hn j x hj)];exact hj,h.ni,h.nf⟩
theorem II (p:BProg) (c:CProg) (objs:List MThing) (pos:Int) (stk env:List MVal) (o1:Own) (O:Sig) (hp:p.wt<=1073741824) (bW:c.ins.length<=1073741824) (bV:c.starts.length<=1073741824) (bL:objs.length<=1000000) (aO : ∀ x ∈ objs,x.slots.length<=1000000) (cd:stk.length<=900000) (aP:env.length<=900000) :
  DCall prog 13 [.agg (Ai p),.agg (cCPg c),.slice (objs.map cTh) o1,.agg (cFr pos stk env)] O (rS (.tup [.agg (Et ((goC p (A2 p) c objs pos stk env).getD Jg)),dI (if(goC p (A2 p) c objs pos stk env).isSome then 0 else 2)]) O):=by
 have bm:=In p c
 have ai:=fun O:Sig=>KS p objs o1 O hp (by omega) (fun x hx=>by have:=aO x hx;omega)
 obtain⟨H,hH⟩:∃H,H=goC p (A2 p) c objs pos stk env:=⟨_,rfl⟩
 rw[<-hH]
 refine en func13 ntmps13 ?_
 refine gz ?_ o13 [8]
 refine newV (fun i8 aG=>?_)
 have o8:(O.set i8 (.cells [dI 0,dI 0,dI 0,dI 0,.nils,dI 0,dI 0,.nils,.nils,.nils,.nils])) i8=_:=w6 ..
 have aR:Sub O (O.set i8 (.cells [dI 0,dI 0,dI 0,dI 0,.nils,dI 0,dI 0,.nils,.nils,.nils,.nils])):=(Sub.refl _).set aG
 generalize O.set i8 (.cells [dI 0,dI 0,dI 0,dI 0,.nils,dI 0,dI 0,.nils,.nils,.nils,.nils])=Sa at*
 refine gz ?_ o13 [8]
 refine A7 (LY p c Sa hp bW bV) (fun d U' hr=>?_) (fun d U' hr=>?_)
 rotate_left
 ·unfold LokR at hr
  split at hr
  ·cases hr.1
  ·obtain⟨_,_,h,_⟩:=hr;cases h
 unfold LokR at hr
 cases hL:C5 p c with
 |none=>
  rw[hL]at hr
  obtain⟨e,rfl⟩:=hr
  cases e
  have hn:H=none:=by rw[hH];unfold goC;rw[bm,hL];rfl
  refine gf o8 ?_ o13 [8]
  refine finC (U':=O) (d:=.tup [.agg (Et Jg),dI 2]) ⟨by rw[hn];rfl,rfl⟩ (hw:=?_) (hU:=?_)
  ·exact CE ⟨Du,A8 _,trivial⟩
  ·exact fun j o hj=>by rw[w7 _ _ (As hj aG)];exact aR j o hj
 | some W =>
  rw[hL]at hr
  obtain⟨im,aZ,e,rfl⟩:=hr
  cases e
  have n8m:i8≠im:=As o8 aZ
  have om:(Sa.set im (.map (eIL W))) im=some (.map (eIL W)):=w6 ..
  have o8':=(w7 Sa (.map (eIL W)) n8m).trans o8
  have aH:Sub O (Sa.set im (.map (eIL W))):=aR.set (aR.none aZ)
  generalize Sa.set im (.map (eIL W))=S0 at*
  clear o8 aR aZ
  have bl:Ei p c=some (DW c W):=by rw[bm,hL];rfl
  obtain⟨aE,hlen,ar⟩:=QX bl
  have b9:c.ins.length<=300:=by
   unfold C5 at hL
   split at hL
   ·rename_i h;simp only[Bool.and_eq_true,decide_eq_true_eq]at h;exact h.2.1
   ·cases hL
  have bb:H=if Bc (A2 p) objs&&FP (DW c W) objs.length pos stk env then some (mRun p (A2 p) c c.ins.length ⟨objs,[],pos,stk,env⟩) else none:=by rw[hH];unfold goC;rw[bl]
  by_cases hg:(Bc (A2 p) objs&&FP (DW c W) objs.length pos stk env)=true
  rotate_left
  ·have hn:H=none:=by rw [bb,if_neg hg]
   have fin0:∀z,Sub O (S0.set i8 z):=fun z j o hj=>by rw[w7 _ _ (As hj aG)];exact aH j o hj
   have fin1:∀i z1 z2,S0 i=none->Sub O ((S0.set i z1).set i8 z2):=fun i z1 z2 hi j o hj=>by rw[w7 _ _ (As hj aG),w7 _ _ (As (aH j o hj) hi)];exact aH j o hj
   have bc:Bc (A2 p) objs=false\/(Bc (A2 p) objs=true/\(pos < 0\/(c.ins.length:Int)<=pos))\/(Bc (A2 p) objs=true /\ ∃ k:Nat,pos=k/\k < c.ins.length/\((stk.length:Int) ≠ (getM ⟨0,0⟩ (k:Int) W).st\/((stk.length:Int)=(getM ⟨0,0⟩ (k:Int) W).st/\(env.length:Int) ≠ (getM ⟨0,0⟩ (k:Int) W).env)\/((stk.length:Int)=(getM ⟨0,0⟩ (k:Int) W).st/\(env.length:Int)=(getM ⟨0,0⟩ (k:Int) W).env/\(okVs objs.length stk=false\/(okVs objs.length stk=true/\okVs objs.length env=false))))):=by
    cases hO:Bc (A2 p) objs with
    |false=>exact .inl rfl
    | true =>
     refine .inr ?_
     rw[hO,Bool.true_and]at hg
     by_cases h0:pos<0\/(c.ins.length:Int)<=pos
     ·exact .inl ⟨rfl,h0⟩
     obtain⟨k,hk⟩:∃k:Nat,pos=k:=⟨pos.toNat,by omega⟩
     have aj:k<c.ins.length:=by omega
     refine .inr ⟨rfl,k,hk,aj,?_⟩
     subst hk
     unfold FP at hg
     rw[O4,Int.toNat_natCast,O5 c W aj,Option.getD_some]at hg
     by_cases a1:(stk.length:Int)=(getM ⟨0,0⟩ (k:Int) W).st
     ·refine .inr ?_
      by_cases a2:(env.length:Int)=(getM ⟨0,0⟩ (k:Int) W).env
      ·refine .inr ⟨a1,a2,?_⟩
       cases a3:okVs objs.length stk with
       |false=>exact .inl rfl
       |true=>
        cases a4:okVs objs.length env with
        |false=>exact .inr ⟨rfl,rfl⟩
        |true=>exact absurd (by rw[a3,a4,decide_eq_true (by omega)];rfl) hg
      ·exact .inl ⟨a1,a2⟩
     ·exact .inl a1
   rcases bc with hO|⟨hO,h0|h0⟩|⟨hO,k,rfl,aj,a|⟨a1,a2⟩|⟨a1,a2,a3|⟨a3,a4⟩⟩⟩
   ·have ag:(okP p&&Bc (A2 p) objs)=false:=by rw[hO];simp
    repeat' first|refine gf (gi ag o8') ?_ [] [8]|refine D2 (ai _) ?_|refine callPG (ai _) ?_|refine gf (gi ag o8') ?_ o13 [8]|apply gy<;>intro hh
    refine finC (U':=O) (d:=.tup [.agg (Et Jg),dI 2]) ⟨by rw[hn];rfl,rfl⟩ (hw:=?_) (hU:=fin0 _)
    exact CE ⟨Du,A8 _,trivial⟩
   all_goals have ag:(okP p&&Bc (A2 p) objs)=true:=by rw[hO,aE];rfl
   ·repeat' first|refine gf (gi ag o8') ?_ [] [8]|refine D2 (ai _) ?_|refine callPG (ai _) ?_|refine gf (gi ag o8') ?_ o13 [8]|apply gy<;>intro hh
    refine finC (U':=O) (d:=.tup [.agg (Et Jg),dI 2]) ⟨by rw[hn];rfl,rfl⟩ (hw:=?_) (hU:=fin0 _)
    exact CE ⟨Du,A8 _,trivial⟩
   ·repeat' first|refine gf (gi ag o8') ?_ [] [8]|refine D2 (ai _) ?_|refine callPG (ai _) ?_|refine gf (gi ag o8') ?_ o13 [8]|apply gy<;>intro hh
    refine finC (U':=O) (d:=.tup [.agg (Et Jg),dI 2]) ⟨by rw[hn];rfl,rfl⟩ (hw:=?_) (hU:=fin0 _)
    exact CE ⟨Du,A8 _,trivial⟩
   ·repeat' first|refine gf (gi ag (gi o8' om)) ?_ [] [8]|refine D2 (ai _) ?_|refine callPG (ai _) ?_|refine gf (gi ag (gi o8' om)) ?_ o13 [8]|apply gy<;>intro hh
    refine Ig (fun i11 aa=>?_)
    have n11:=As o8' aa
    refine gf (gi o8' (gi n11 a)) ?_ o13 [8]
    refine finC (U':=O) (d:=.tup [.agg (Et Jg),dI 2]) ⟨by rw[hn];rfl,rfl⟩ (hw:=?_) (hU:=fin1 i11 _ _ aa)
    exact CE ⟨Du,A8 _,trivial⟩
   ·repeat' first|refine gf (gi ag (gi o8' om)) ?_ [] [8]|refine D2 (ai _) ?_|refine callPG (ai _) ?_|refine gf (gi ag (gi o8' om)) ?_ o13 [8]|apply gy<;>intro hh
    refine Ig (fun i11 aa=>?_)
    have n11:=As o8' aa
    refine gf (gi o8' (gi n11 (gi a1 a2))) ?_ o13 [8]
    refine finC (U':=O) (d:=.tup [.agg (Et Jg),dI 2]) ⟨by rw[hn];rfl,rfl⟩ (hw:=?_) (hU:=fin1 i11 _ _ aa)
    exact CE ⟨Du,A8 _,trivial⟩
   ·repeat' first|refine gf (gi ag (gi o8' om)) ?_ [] [8]|refine D2 (ai _) ?_|refine callPG (ai _) ?_|refine gf (gi ag (gi o8' om)) ?_ o13 [8]|apply gy<;>intro hh
    refine Ig (fun i11 aa=>?_)
    have n11:=As o8' aa
    refine gf (gi o8' (gi n11 (gi a1 (gi a2 a3)))) ?_ o13 [8]
    refine finC (U':=O) (d:=.tup [.agg (Et Jg),dI 2]) ⟨by rw[hn];rfl,rfl⟩ (hw:=?_) (hU:=fin1 i11 _ _ aa)
    exact CE ⟨Du,A8 _,trivial⟩
   ·repeat' first|refine gf (gi ag (gi o8' om)) ?_ [] [8]|refine D2 (ai _) ?_|refine callPG (ai _) ?_|refine gf (gi ag (gi o8' om)) ?_ o13 [8]|apply gy<;>intro hh
    refine Ig (fun i11 aa=>?_)
    have n11:=As o8' aa
    refine gf (gi o8' (gi n11 (gi a1 (gi a2 (gi a3 a4))))) ?_ o13 [8]
    refine finC (U':=O) (d:=.tup [.agg (Et Jg),dI 2]) ⟨by rw[hn];rfl,rfl⟩ (hw:=?_) (hU:=fin1 i11 _ _ aa)
    exact CE ⟨Du,A8 _,trivial⟩
  rw[if_pos hg]at bb
  simp only[Bool.and_eq_true]at hg
  obtain⟨hO,hF⟩:=hg
  have b6:=(Ri (evs:=[]) hO).1 hF
  have ag:(okP p&&Bc (A2 p) objs)=true:=by rw[hO,aE];rfl
  unfold FP at hF
  simp only[Bool.and_eq_true,decide_eq_true_eq]at hF
  obtain⟨⟨f1,f2,f3,f4⟩,f5,f6⟩:=hF
  rw[O4]at f2
  obtain⟨k,rfl⟩:∃k:Nat,pos=k:=⟨pos.toNat,by omega⟩
  have aj:k<c.ins.length:=by omega
  rw[Int.toNat_natCast,O5 c W aj,Option.getD_some]at f3 f4
  repeat' first|refine gf (gi ag (gi o8' om)) ?_ [] [8]|refine D2 (ai _) ?_|refine callPG (ai _) ?_|refine gf (gi ag (gi o8' om)) ?_ o13 [8]|apply gy<;>intro hh
  refine Ig (fun i11 aa=>?_)
  have n11:=As o8' aa
  refine gf (gi f3 (gi f4 (gi f5 f6))) ?_ (delO 7 o13) [8]
  have o8:=(w7 S0 (.cells [D.int .i64 (getM ⟨0,0⟩ (k:Int) W).st,D.int .i64 (getM ⟨0,0⟩ (k:Int) W).env]) n11).trans o8'
  have hS:Sub O (S0.set i11 (.cells [D.int .i64 (getM ⟨0,0⟩ (k:Int) W).st,D.int .i64 (getM ⟨0,0⟩ (k:Int) W).env])):=fun j o hj=>by
   rw[w7 _ _ (As (aH j o hj) aa)];exact aH j o hj
  generalize S0.set i11 (.cells [D.int .i64 (getM ⟨0,0⟩ (k:Int) W).st,D.int .i64 (getM ⟨0,0⟩ (k:Int) W).env])=Sb at*
  refine Ij (id:=7) [0,1,2,3,4,6,7,5,8,9,10,11,12] [5,8,11] (fun _=>none) (fun _ _ h=>by cases h) ?_
  refine gz ?_ o13 [8]
  refine BG (IC stk .no Sb (by omega)) (fun d U1 hr=>?_) (fun d U1 hr=>by obtain⟨_,h,_⟩:=hr;cases h)
  obtain⟨r0,hd,aK⟩:=hr
  replace aK:FrV Sb r0 stk U1:=aK
  cases hd
  refine⟨(fun _ _ h=>by cases h),?_⟩
  refine BG (IC env .no U1 (by omega)) (fun d U2 hr=>?_) (fun d U2 hr=>by obtain⟨_,h,_⟩:=hr;cases h)
  obtain⟨r1,hd,aB⟩:=hr
  replace aB:FrV U1 r1 env U2:=aB
  cases hd
  refine⟨(fun _ _ h=>by cases h),?_⟩
  refine moRr (.agg [dI k,r0.d stk.length,r1.d env.length]) ?_ (hd:=by cases r0<;>cases r1<;>simp)
  refine moRr (.agg ([dI 0,dI 0,dI 0,dI 0,.nils,dI 0,dI 0,.nils,.nils,.nils,.nils]++Ai p++[dI k,r0.d stk.length,r1.d env.length])) ?_ (hd:=by cases r0<;>cases r1<;>simp)
  refine moBox (AO p (R01 r0 r1) ⟨[],[],k,stk,env⟩) (fun ir bp=>?_) (hC:=fun _ _ h=>by cases h)
  have ak:=RunS.init (p:=p) (pos:=(k:Int)) aK aB bp
  have bt:∀j o,Sb j=some o->(U2.set ir (.cells (AO p (R01 r0 r1) ⟨[],[],k,stk,env⟩))) j=some o/\j≠ir /\ ∀a, ¬(R01 r0 r1 a).is j:=fun j o hj=>by
   have a1:=aK.2.1 j o hj id
   have a2:=aB.2.1 j o a1.1 id
   have bn:=As a2.1 bp
   refine⟨by rw[w7 _ _ bn];exact a2.1,bn,fun a ha=>?_⟩
   unfold R01 at ha
   by_cases e1:a=1
   ·subst e1;rw[Ak]at ha;exact a2.2 ha
   ·rw[A6 _ _ e1]at ha
    by_cases e0:a=0
    ·subst e0;rw[Ak]at ha;exact(aB.2.1 j o a1.1 id).2 (absurd ha a1.2)
    ·rw[A6 _ _ e0]at ha;exact ha
  generalize U2.set ir (.cells (AO p (R01 r0 r1) ⟨[],[],k,stk,env⟩))=S3 at*
  refine gz ?_ o13 [8]
  refine A7 (US objs o1 S3 bL aO) (fun d S4 hr=>?_) (fun d S4 hr=>by obtain⟨_,h,_⟩:=hr;cases h)
  obtain⟨R',hd,hT⟩:=hr
  cases hd
  have o4:=(hT.keep ir _ ak.obj).1
  refine gz ?_ o13 [8]
  refine storeRw (r:=R' 3) (k:=9) o4 ?_
  obtain⟨p1,p2⟩:=ak.swap (R':=R') (l:=objs) (fun j o h _ _=>h) ak.obj hT rfl
  have bf:∀j o,Sb j=some o->(S4.set ir (.cells (AO p (Ez (R01 r0 r1) R') ⟨objs,[],k,stk,env⟩))) j=some o/\j≠ir /\ ∀a, ¬(Ez (R01 r0 r1) R' a).is j:=fun j o hj=>by
   obtain⟨a1,a2,a3⟩:=bt j o hj
   exact⟨(p2 j o a1 a2 a3).1,a2,(p2 j o a1 a2 a3).2⟩
  refine drp (S4.set ir (.cells (AO p (Ez (R01 r0 r1) R') ⟨objs,[],k,stk,env⟩))) ?_ (by exact Sub.refl _)
  generalize S4.set ir (.cells (AO p (Ez (R01 r0 r1) R') ⟨objs,[],k,stk,env⟩))=S5 at p1 bf⊢
  generalize Ez (R01 r0 r1) R'=R5 at p1 bf
  clear p2 bt ak aK aB hT o4
  have hW:=TK aE
  have bq:∀n:Nat,0<=p.gens.getD n 0:=fun n=>(H6 aE n).1
  refine gz ?_ o13 [8]
  refine Ft [5,8,9,12,13,122,123,124,125] (fun (s:GoS) (R:Nat->RW) (U1:Sig)=>GInv (A2 p) (fun j=>(DW c W)[j]?) s/\RunS ir p R s U1/\(∀j o,Sb j=some o->U1 j=some o/\j≠ir /\ ∀a, ¬(R a).is j)/\H=some (mRun p (A2 p) c c.ins.length s)/\(s.stk.length:Int)<=900000+s.pos/\(s.env.length:Int)<=900000+s.pos/\(s.evs.length:Int)<=s.pos) (fun _ _ _=>[]) (fun _ _ U1=>U1) (fun s _ _=>c.ins.length-s.pos.toNat) (⟨objs,[],k,stk,env⟩) (R5) (S5) (by exact⟨b6,p1,bf,bb,by simp only;omega,by simp only;omega,by simp only[List.length_nil];omega⟩) (fun s R U1 hI=>?_)
  obtain⟨hG,hR,hK,aD,b1,b2,b3⟩:=hI
  obtain⟨h0,⟨l,hl,bI,bS⟩,aU,ce,bK⟩:=id hG
  have aX:=ar.dom _ _ hl
  obtain⟨env',next,aS,g1,g2,g3,g4⟩:=ar.ok _ _ hl
  have aF:=JF bq hW ar hG
  have aw:=Qz bq hW ar hG
  obtain⟨q,hq⟩:∃q:Nat,s.pos=q:=⟨s.pos.toNat,by omega⟩
  have hx:AB c s.pos.toNat=c.ins[s.pos.toNat]:=by unfold AB;rw[List.getElem?_eq_getElem aX];rfl
  rw[hx]at aS aF aw
  have ah:=ar.fits _ _ (List.getElem?_eq_getElem aX)
  simp only[hq,Int.toNat_natCast]at aX aS aF aw ah b1 b2 b3
  obtain⟨x,aT⟩:∃x,x=c.ins[q]:=⟨_,rfl⟩
  rw[<-aT]at aS aF aw ah
  obtain⟨u1,u2⟩:=fits_rg ah
  obtain⟨j,hj⟩:∃j:Nat,x.op=j:=⟨x.op.toNat,by omega⟩
  have bd:=actAt (j:=j) (by omega) (by omega)
  have q1:=hR.obj
  refine gf (gi q1 (gi hq aT.symm)) ?_ o13 [8]
  refine Ig (fun i14 aq=>?_)
  have n14:=As q1 aq
  refine gf (gi q1 (gi hq aT.symm)) ?_ (delO 12 o13) [8]
  have aI:=hR.newO aq (.cells (cIns x))
  obtain⟨p3,p4⟩:=aI.at ((q:Int)+1) rfl
  have o14:((U1.set i14 (.cells (cIns x))).set ir (.cells (AO p R { s with pos:=(q:Int)+1 }))) i14=some (.cells (cIns x)):=by rw[w7 _ _ n14.symm,w6]
  refine Co (Vt (U':=(U1.set i14 (.cells (cIns x))).set ir (.cells (AO p R { s with pos:=(q:Int)+1 }))) (by exact Sub.refl _)) ?_
  have br:∀j o,Sb j=some o->((U1.set i14 (.cells (cIns x))).set ir (.cells (AO p R { s with pos:=(q:Int)+1 }))) j=some o/\j≠ir /\ ∀a, ¬(R a).is j:=fun j o hj=>by
   obtain⟨a1,a2,a3⟩:=hK j o hj
   exact⟨by rw[w7 _ _ a2,w7 _ _ (As a1 aq)];exact a1,a2,a3⟩
  have nr14:∀a, ¬(R a).is i14:=fun a ha=>by
   obtain⟨z,hz⟩:=(hR.rows.ok a).cells ha
   rw[aq]at hz;cases hz
  have n14':i14≠ir:=n14.symm
  generalize (U1.set i14 (.cells (cIns x))).set ir (.cells (AO p R { s with pos:=(q:Int)+1 }))=S6 at p3 o14 br⊢
  clear p4 aI q1 n14 aq
  refine Ij (id:=12) [0,1,2,3,4,5,6] [6] (S6.out fun j=>j≠i14) (BS _ _) ?_
  have u14:=D8 (touch:=fun j=>j≠i14) o14 (by simp)
  have bj:=Vq (t:={ s with pos:=(q:Int)+1 }) hp aE aS ah g3 bI bS aU bK (by simp only;omega) (by simp only;omega) (by simp only;omega) p3
  refine gf (gi hj (gi bd u14)) ?_ o13 [8]
  rw[hj]at bj
  refine BG bj (fun d S7 hr=>?_) (fun d S7 hr=>?_)
  rotate_left
  ·obtain⟨_,_,h⟩:=hr
   split at h<;>cases h.1
  obtain⟨R2,be,h⟩:=hr
  refine⟨fun y o hy=>?_,?_⟩
  ·obtain⟨y1,y2⟩:=D4 hy
   obtain rfl:y=i14:=Classical.byContradiction y2
   exact(be _ _ y1 n14' nr14).1
  have aJ:∀j o,Sb j=some o->S7 j=some o/\j≠ir /\ ∀a, ¬(R2 a).is j:=fun j o hj=>by
   obtain⟨a1,a2,a3⟩:=br j o hj
   exact⟨(be j o a1 a2 a3).1,a2,(be j o a1 a2 a3).2⟩
  cases aV:Im p (A2 p) x { s with pos:=(q:Int)+1 } with
  |inl t'=>
   have bN:=Qy aV
   rw[aV]at h aF aw
   obtain⟨hd,bZ⟩:=h
   obtain⟨k1,k2⟩:=aF
   have k3:=k1.lo
   cases hd
   simp only at bN aw
   refine gz ?_ o13 [8]
   exact⟨t',R2,S7,⟨k1,bZ,aJ,by rw[aD,aw],by omega,by omega,by omega⟩,td1,wkR⟩
  | inr h' =>
   rw[aV]at h aw
   obtain⟨hd,s',av,b,bu⟩:=h
   cases hd
   simp only at aw
   repeat ((fail_if_success (first|(refine haltD bu (fun S8 tl o9 k9=>?_))|fail));(refine goX1 trivial ?_))
   refine haltD bu (fun S8 tl o9 k9=>?_)
   have o8b:S8 i8=_:=k9 i8 _ (aJ i8 _ o8).1 (aJ i8 _ o8).2.1 (aJ i8 _ o8).2.2
   have bX:Sub O S8:=fun j o hj=>by
    obtain⟨a1,a2,a3⟩:=aJ j o (hS j o hj)
    exact k9 j o a1 a2 a3
   simp only[Et,List.cons_append,List.nil_append]at o9
   refine gf (gi o9 o8b) ?_ o13 [8]
   refine finC (U':=O) (d:=.tup [.agg (Et h'),dI 0]) ⟨by rw[aD,aw];rfl,rfl⟩ (hw:=?_) (hU:=fun j o hj=>by rw[w7 _ _ (As hj aG)];exact bX j o hj)
   exact A8 _
def exB:BProg:=⟨[⟨[],[0],[⟨0,7⟩]⟩,⟨[3],[1],[]⟩,⟨[4,3],[],[⟨0,1⟩]⟩],2,[1],[⟨1,0,.mk 2 0 [] 3 0 [],0⟩,⟨2,0,.mk 3 0 [0] 0 5 [],3⟩],
 [⟨17,0,[1]⟩,⟨4,0,[2]⟩,⟨3,0,[]⟩,⟨9,0,[4,5]⟩,⟨3,0,[]⟩,⟨3,1,[]⟩,⟨5,0,[7]⟩,⟨6,5,[]⟩],6⟩
def exC:CProg:=⟨[⟨3,0⟩,⟨5,0⟩,⟨7,0⟩,⟨21,0⟩,⟨3,0⟩,⟨14,0⟩,⟨3,1⟩,⟨15,0⟩,⟨21,0⟩,⟨4,5⟩,⟨19,0⟩,⟨21,0⟩],[0,4],9⟩
def exL:List CLev:=[⟨0,1⟩,⟨1,1⟩,⟨1,1⟩,⟨1,1⟩,⟨0,1⟩,⟨1,1⟩,⟨0,2⟩,⟨1,2⟩,⟨1,1⟩,⟨0,0⟩,⟨1,0⟩,⟨1,0⟩]
theorem JO{l m:List Int}(h:∀x,x∈l ↔ x∈m): ∀(a:List Init) (seen:List Int),DY l seen a=DY m seen a
 |[],_=>rfl
 |x::r,seen=>by rw[DY,DY,JO h r,decide_eq_decide.2 (h x.slot)]
def It(p:BProg):Nat->List BClass->Bool
 |_,[]=>true
 |i,c::r=>decide (linE (p.classes.map (·.parents)) ((i:Int)+3)=0)&&DY (hasG p.classes (((i:Int)+3)-2).toNat [((i:Int)+3)] []) [] c.inits&&It p (i+1) r
theorem Ho(p:BProg): ∀(l:List BClass) (i:Nat),Bg p i l=It p i l
 |[],_=>rfl
 |c::r,i=>by
  rw[Bg,It,Ho p r]
  congr 2
  exact JO (fun x=>by unfold hasP EB;exact List.mem_mergeSort) _ _
theorem V7:Bg exB 0 exB.classes=true:=by rw[Ho];decide +kernel
theorem Pz:AA exB=true:=by
 unfold AA
 have h1:C6 0 exB.classes=some 2:=by decide +kernel
 have h2:Cw (exB.classes.map (·.parents))=true:=by decide +kernel
 have h3:decide (exB.classes.length<=10)=true:=by decide +kernel
 have h4:decide ((2:Int)=exB.slots)=true:=by decide +kernel
 rw[h1,h3]
 simp only[h2,h4,V7,Bool.and_self,Bool.and_true]
theorem V6:okP exB=true:=by
 unfold okP Dr
 rw[Pz]
 decide +kernel
theorem Vw:EB [1,0]=[0,1]:=by simp[EB,List.mergeSort,List.MergeSort.Internal.splitInTwo,List.merge]
theorem ex_has5:hasP exB 5=[0,1]:=by
 unfold hasP
 rw[show hasG exB.classes ((5:Int)-2).toNat [5] []=[1,0] by decide +kernel,Vw]
theorem ex_has4:hasP exB 4=[0,1]:=by
 unfold hasP
 rw[show hasG exB.classes ((4:Int)-2).toNat [4] []=[1,0] by decide +kernel,Vw]
theorem ex_has3:hasP exB 3=[0]:=by
 unfold hasP
 rw[show hasG exB.classes ((3:Int)-2).toNat [3] []=[0] by decide +kernel]
 simp[EB]
theorem Ta:E5 exB 5=[⟨0,1⟩]:=by unfold E5;rw[ex_has5];decide +kernel
theorem Tb:E5 exB 4=[⟨0,7⟩]:=by unfold E5;rw[ex_has4];decide +kernel
theorem Tc:E5 exB 3=[⟨0,7⟩]:=by unfold E5;rw[ex_has3];decide +kernel
def exW:CWorld:=⟨fun c=>decide (3<=c)&&decide (c<6),fun c=>if c=3 then [0] else if c=4 then [0,1] else if c=5 then [0,1] else hasP exB c,
 fun c=>if c=3 then [vInt 7] else if c=4 then [vInt 7,E9] else if c=5 then [vInt 1,E9] else(hasP exB c).map (frV (E5 exB c))⟩
theorem KT:A2 exB=exW:=by
 unfold A2 exW
 rw[V6]
 congr 1
 ·funext c
  unfold ownF
  simp[exB]
 ·funext c
  split
  ·rename_i e;subst e;exact ex_has3
  split
  ·rename_i e;subst e;exact ex_has4
  split
  ·rename_i e;subst e;exact ex_has5
  rfl
 ·funext c
  split
  ·rename_i e;subst e;rw[ex_has3,Tc];rfl
  split
  ·rename_i e;subst e;rw[ex_has4,Tb];rfl
  split
  ·rename_i e;subst e;rw[ex_has5,Ta];rfl
  rfl
theorem ex_code:Nz exB=exC:=by unfold Nz;rw[if_pos V6];kernel_rfl
theorem Gy:Ei exB exC=some exL:=by
 unfold Ei
 rw[V6]
 kernel_rfl
theorem T9:(C5 exB exC).map (DW exC)=some exL:=by rw[<-In,Gy]
def exH1:GoH:=⟨2,vZ,0,[vObj 0],0,11,[],[],[⟨5,[vInt 1,E9]⟩],[]⟩
def exH2:GoH:=⟨1,vInt 1,0,[],0,0,[],[],[⟨5,[vInt 1,E9]⟩],[⟨2,0,[vInt 1]⟩]⟩
def exH3:GoH:=⟨4,vZ,0,[],5,0,[],[],[],[]⟩
theorem ex_go1:goC exB (A2 exB) exC [] 9 [] []=some exH1:=by
 unfold goC
 rw[Gy,KT]
 kernel_rfl
theorem ex_go2:goC exB (A2 exB) exC [⟨5,[vInt 1,E9]⟩] 0 [] [vObj 0]=some exH2:=by
 unfold goC
 rw[Gy,KT]
 kernel_rfl
theorem ex_go3:goC exB (A2 exB) exC [] 0 [] [vInt 3]=some exH3:=by
 unfold goC
 rw[Gy,KT]
 kernel_rfl
theorem V5:AG exC=true:=by decide +kernel
theorem T8:Cz exC=[48,32,52,32,58,32,57,10,110,97,109,101,32,48,10,115,108,111,116,32,48,10,111,117,116,10,101,110,100,10,110,97,109,101,32,48,10,108,101,116,10,110,97,109,101,32,49,10,100,114,111,112,10,101,110,100,10,110,101,119,32,53,10,99,97,108,108,32,48,10,101,110,100,10]:=by decide +kernel
theorem VH:exL.length=12:=rfl
theorem Oq:(J4 exC).length=25:=by decide +kernel
theorem Om(n:Int)(O:Sig):DCall prog 19 [dI n] O (rS (.agg (cVal (vInt n))) O):=by
 refine en func19 ntmps19 ?_
 refine gz ?_ [] [2]
 refine newV (fun i hi=>?_)
 refine gz ?_ [] [2]
 exact finC (U':=O) ⟨rfl,rfl⟩
@[reducible,instance] def a19:=fun n O=>ah0 (@Om n O)
theorem UQ(a b:List MVal)(o o':Own)(O:Sig)(h1:a.length<=1073741824:=by exact sd)(h2:b.length<=1073741824:=by exact sd):DCall prog 53 [.slice (a.map cVal) o,.slice (b.map cVal) o'] O (rS (.bool (decide (a=b))) O):=by
 refine en func53 ntmps53 ?_
 by_cases hc:a.length=b.length
 ·refine gf hc ?_ o53
  refine Cg [0,1] (fun (k:Nat)=>k<=a.length /\ ∀j (h1:j<a.length) (h2:j<b.length),j<k->a[j]=b[j]) (fun k=>[(5,dI k)]) (fun _=>O) (fun k=>a.length-k) (0) (by exact⟨by omega,fun j _ _ h=>by omega⟩) (fun k hI=>?_)
  obtain⟨hk,hE⟩:=hI
  by_cases aj:k<a.length
  ·have cn:k<b.length:=by omega
   refine gf hc ?_ o53
   refine If (r:=decide (a[k]=b[k])) (xs:=cVal a[k]) (ys:=cVal b[k]) Ad Ot rfl rfl rfl rfl O6 (V8 _ _) ?_
   by_cases hx:a[k]=b[k]
   ·refine gf hx ?_ o53
    exact⟨k+1,⟨by omega,fun j h1 h2 h3=>by by_cases e:j=k;(subst e;exact hx);exact hE j h1 h2 (by omega)⟩,td1,wkR⟩
   ·have hne:¬a=b:=fun e=>hx (by simp[e])
    refine gf hx ?_ o53
    exact fe1 hne
  ·have bT:a=b:=List.ext_getElem hc fun j h1 h2=>hE j h1 h2 (by omega)
   refine gz ?_ o53
   exact fin1 (U':=O) ⟨by rw[decide_eq_true bT],rfl⟩
 ·have hne:¬a=b:=fun e=>hc (by rw[e])
  refine gz ?_ o53
  exact fe1 hne
section
variable {P:Program}{ro:Ro}{n:Nat}{ops:Array Oper}{N:Nat}{S0:Sig}{Q:DX->St->Prop}{df:List DDf}{γ Sr:List (Nat×D)}{O:Sig}{t:Nat}{ty:TypeId}{pos:String}{after:Array Edge}{l:List (Bool×Oper)}{e:Bool}
theorem mo_eqlG{tab:Nat->Ty}(ht:AZ P tab){T u:Nat}{x y:Operand}{xs ys:List D}{gd:Option (Nat×Bool)}(fs:List (Nat×Nat))(r:Bool)(hE:EqTy P T)(hk:(tab T).k=.struct fs)(hd:eqFs tab xs ys fs=some r)
  (h:MO P ro n ops N S0 Q df l ((t,.bool r)::γ) O) (hw:Ay ops γ ⟨some t,.binOp .eql T x y u,ty,pos,after,gd⟩=some true) (am:decide (t<n)=true) (hl:A0 γ (A5 [x,y])=some Sr) (hx:ev Sr x=.agg xs) (hy:ev Sr y=.agg ys):MO P ro n ops N S0 Q df ((e,⟨some t,.binOp .eql T x y u,ty,pos,after,gd⟩)::l) γ O:=by
 have hc:∀z∈[x,y],ev Sr z=ev γ z:=fun z hz=>B2 fun t ht=>Aq hl t (Ax (by rw[<-ht];exact hz))
 have ax:∀z∈[x,y],ev (only (Oper.looksAt ops ⟨some t,.binOp .eql T x y u,ty,pos,after,gd⟩) γ) z=ev γ z:=fun z hz=>Bl (o:=⟨some t,.binOp .eql T x y u,ty,pos,after,gd⟩) (by simp at hz;rcases hz with rfl|rfl<;>simp[Op.operands])
 refine .inl ⟨.bool r,⟨am,.inl ⟨by rw[Af];exact hw,(fun c e=>by cases e),Aa (fun c e=>by cases e),fun U' hU g w a hs hT=>?_⟩⟩,h⟩
 have:=HC (dst:=some t) (ty:=ty) (pos:=pos) (after:=after) (guard:=gd) (u:=u) ht hs hT hE hk (by rw[ax x (by simp),<-hc x (by simp)];exact hx) (by rw[ax y (by simp),<-hc y (by simp)];exact hy) hd false
 simpa using this
end
theorem UP(O:Sig):DCall prog 56 [] O (rS (.agg (Ai exB)) O):=by
 refine en func56 ntmps56 ?_
 refine gz ?_ [] [0]
 refine newV (fun i hi=>?_)
 refine gz ?_ [] [0]
 have e:Ai exB=[sl [[sl [],sl [[dI 0]],sl [[dI 0,dI 7]]],[sl [[dI 3]],sl [[dI 1]],sl []],[sl [[dI 4],[dI 3]],sl [],sl [[dI 0,dI 1]]]],dI 2,sl [[dI 1]],sl [[dI 1,dI 0,dI 2,dI 0,sl [],dI 3,dI 0,sl [],dI 0],[dI 2,dI 0,dI 3,dI 0,sl [[dI 0]],dI 0,dI 5,sl [],dI 3]],sl [[dI 17,dI 0,sl [[dI 1]]],[dI 4,dI 0,sl [[dI 2]]],[dI 3,dI 0,sl []],[dI 9,dI 0,sl [[dI 4],[dI 5]]],[dI 3,dI 0,sl []],[dI 3,dI 1,sl []],[dI 5,dI 0,sl [[dI 7]]],[dI 6,dI 5,sl []]],dI 6]:=by
  simp[exB,cI,Fm,Fact.op,Fact.arg,Fact.path,Fact.cls,Fact.n,Fact.kids]
 refine finC (U':=O) ⟨rfl,rfl⟩ (hw:=?_)
 rw[e]
 refine PV ?_
 repeat' (first|exact A8 _|exact Am _ (.inl rfl)|exact trivial|refine Jt _ ?_|refine⟨?_,?_⟩)
@[reducible,instance] def a56:=fun O=>ah0 (@UP O)
theorem V3(O:Sig):BL prog 16 [] O (rS (.bool true) O):=by
 have w3:exB.wt<=1073741824:=by decide +kernel
 have bJ:(C5 exB exC).isSome=true:=by
  have h:=T9
  cases e:C5 exB exC with
  |none=>rw[e]at h;cases h
  |some W=>rfl
 have bB:=fun O:Sig=>V0 exB O w3
 have bA:=fun O:Sig=>UZ exB exC O w3 (by decide) (by decide)
 have bz:=fun O:Sig=>UX exC O (by decide) (by decide)
 have bx:=fun O:Sig=>Ol exC O (by decide) (by decide)
 rw[ex_code,V6]at bB
 rw[T9,bJ]at bA
 rw[V5]at bz bx
 have i18:∀O,Ans 18 [.agg (Ai exB)] O True (.tup [.agg (cCPg exC),dI 0]):=fun O=>ah0 (bB O)
 have i25:∀O,Ans 25 [.agg (Ai exB),.agg (cCPg exC)] O True (.tup [sl (exL.map cLev),dI 0]):=fun O=>ah0 (bA O)
 have i36:∀O,Ans 36 [.agg (cCPg exC)] O True (.tup [.str (J4 exC),dI 0]):=fun O=>ah0 (bz O)
 refine enW func16 ntmps16 ?_
 refine gz ?_ o16
 refine Bn (bx O) (fun d U1 hr=>?_) (fun d U1 hr=>by cases hr.1)
 obtain⟨hd,rfl⟩:=hr
 cases hd
 refine gf (gi T8 (gi Oq VH)) ?_ o16
 refine neqS _ (decide ((⟨0,2⟩:CLev)=⟨0,2⟩)) Te R9 (eqLev ⟨0,2⟩ ⟨0,2⟩) ?_
 refine gf (gi T8 (gi Oq VH)) ?_ o16
 have g1:=fun O:Sig=>II exB exC [] 9 [] [] .no O w3 (by decide) (by decide) (by decide) (by simp) (by decide) (by decide)
 have g2:=fun (o:Own) (O:Sig)=>II exB exC [⟨5,[vInt 1,E9]⟩] 0 [] [vObj 0] o O w3 (by decide) (by decide) (by decide) (by simp) (by decide) (by decide)
 have g3:=fun O:Sig=>II exB exC [] 0 [] [vInt 3] .no O w3 (by decide) (by decide) (by decide) (by simp) (by decide) (by decide)
 rw[ex_go1]at g1
 rw[ex_go2]at g2
 rw[ex_go3]at g3
 have e1:Et exH1=[dI 2,dI 0,dI 0,dI 0,sl [[dI 3,dI 0]],dI 0,dI 11,sl [],sl [],sl [[dI 5,sl [[dI 1,dI 1],[dI 2,dI 0]]]],sl []]:=rfl
 have e2:Et exH2=[dI 1,dI 1,dI 1,dI 0,sl [],dI 0,dI 0,sl [],sl [],sl [[dI 5,sl [[dI 1,dI 1],[dI 2,dI 0]]]],sl [[dI 2,dI 0,.slice [[dI 1,dI 1]] .clip]]]:=rfl
 have e3:Et exH3=[dI 4,dI 0,dI 0,dI 0,sl [],dI 5,dI 0,sl [],sl [],sl [],sl []]:=rfl
 simp only[Option.getD_some,Option.isSome_some,if_true,e1]at g1
 simp only[Option.getD_some,Option.isSome_some,if_true,e2]at g2
 simp only[Option.getD_some,Option.isSome_some,if_true,e3]at g3
 have b8:=fun (O:Sig)=>UQ [vObj 0] [vObj 0] .no .clip O (by decide) (by decide)
 have aM:∀O,DCall prog 53 [sl [[dI 3,dI 0]],.slice [[dI 3,dI 0]] .clip] O (rS (.bool true) O):=fun O=>(b8 O).mono fun x U' ⟨h1,h2⟩=>⟨by rw[h1];simp,h2⟩
 refine rtl 73 (.agg (cFr 9 [] [])) ?_ (hw:=E8 ⟨A8 _,Am _ (.inl rfl),Am _ (.inl rfl),trivial⟩)
 refine Tx (g1 U1) (fun d U2 hr=>?_) (fun d U2 hr=>by cases hr.1)
 obtain⟨hd,rfl⟩:=hr
 cases hd
 repeat' first|refine gz ?_|refine D2 (aM _) ?_|refine callPG (aM _) ?_|refine gz ?_ o16|apply gy<;>intro hh
 refine rtl 111 (.agg (cFr 0 [] [vObj 0])) ?_ (hw:=E8 ⟨A8 _,Am _ (.inl rfl),A8 _,trivial⟩)
 refine Tx (g2 .no U2) (fun d S3 hr=>?_) (fun d S3 hr=>by cases hr.1)
 obtain⟨hd,rfl⟩:=hr
 cases hd
 have g3':∀O,DCall prog 13 [.agg (Ai exB),.agg (cCPg exC),.nils,.agg [dI 0,.nils,.slice [[dI 1,dI 3]] .clip]] O (rS (.tup [.agg [dI 4,dI 0,dI 0,dI 0,sl [],dI 5,dI 0,sl [],sl [],sl [],sl []],dI 0]) O):=fun O=>(g3 O).wk ⟨A8 _,A8 _,Am _ (.inl rfl),E8 ⟨A8 _,Am _ (.inl rfl),BF _ _,trivial⟩,trivial⟩
 refine gz ?_ (delO 12 o16)
 refine mix (id:=12) [0,1,2,3,4,5,6,7,8,9,10,11] [9,10] ?_
 refine gz ?_ o16
 refine moQWR (fun U' _=>(Om 3 U').mono fun x S'' hx=>⟨hx.1,hx.2 ▸ Sub.refl _⟩) ?_
 refine gz ?_ o16
 refine moQWR (fun U' _=>(g3' U').mono fun x S'' hx=>⟨hx.1,hx.2 ▸ Sub.refl _⟩) ?_
 refine gz ?_ o16
 refine Ig (fun i12 ba=>?_)
 have aU:Sub S3 ((S3.set i12 (.cells [.int .i64 0,.int .i64 0,.int .i64 0,.int .i64 0,.nils,.int .i64 0,.int .i64 0,.nils,.nils,.nils,.nils])).set i12 (.cells [dI 4,dI 0,dI 0,dI 0,sl [],dI 5,dI 0,sl [],sl [],sl [],sl []])):=fun j o hj=>by
  have:=As hj ba
  rw[w7 _ _ this,w7 _ _ this];exact hj
 refine FK Ad tdR (by simp;rfl) aU ?_
 simp only[Sig.set_set]
 refine gz ?_ o16
 refine mo_eqlG Ad _ (decide (vInt 1=vInt 1)) Ot O6 (V8 (vInt 1) (vInt 1)) ?_ tdR tdR tdR tdR tdR
 refine gz ?_ o16
 exact fin1 (U':=S3) ⟨rfl,rfl⟩
def zC:CProg:=⟨[],[],0⟩
theorem PS(e:D):WkD (.tup [.agg [.nils,.nils,dI 0],e]) (.tup [.agg (cCPg zC),e]):=
 CE ⟨E8 ⟨Am _ (.inl rfl),Am _ (.inl rfl),A8 _,trivial⟩,A8 _,trivial⟩
theorem N9(l:Str)(b:Nat):(⟨l.toArray⟩:ByteArray).extract b (ByteArray.size ⟨l.toArray⟩)=⟨(l.drop b).toArray⟩:=by
 apply ByteArray.ext
 simp[ByteArray.data_extract,ByteArray.size,List.take_of_length_le]
section
variable {P:Program}{tab:Nat->Ty}(ht:AZ P tab){ro:Ro}{n:Nat}{ops:Array Oper}{Q:DX->St->Prop}{df:List DDf}{rest:List Oper}{γ:List (Nat×D)}{O:Sig}
include ht
theorem K4{t T ty:Nat}{k:IntKind}{x y:Operand}{s:Str}{lo:Nat}{pos:String}{after:Array Edge}{gd:Option (Nat×Bool)}(hw:Ay ops γ ⟨some t,.slice T x (some y) none none,ty,pos,after,gd⟩=some true)
  (h:DOps P ro n ops Q rest ⟨(t,.str (s.drop lo))::γ,O,df⟩) (am:t<n) (hk:(tab T).k=.str) (h1:ev γ x=.str s) (h2:ev γ y=.int k lo) (aA:lo<=s.length) :
  DOps P ro n ops Q (⟨some t,.slice T x (some y) none none,ty,pos,after,gd⟩::rest) ⟨γ,O,df⟩:=by
 refine Bx (fun d U'=>d=.str (s.drop lo)/\U'=O) hw (fun c e=>by cases e) (Aa fun c e=>by cases e) (by simp[Ar,am]) ?_
  (fun d U' ⟨a2,a3⟩=>by subst a2 a3;exact h)
 intro g w a hs hT
 have hx:=Ah hT x
 have hy:=Ah hT y
 rw[h1]at hx
 rw[h2]at hy
 have hv:a.eval x=.string ⟨s.toArray⟩:=hx
 have hu:=AQ hy
 have hsz:ByteArray.size ⟨s.toArray⟩=s.length:=by simp[ByteArray.size]
 have c1:(0:Int)<=(lo:Int):=by omega
 have c2:(lo:Int)<=((ByteArray.size ⟨s.toArray⟩:Nat):Int):=by omega
 have c3:(0:Int)<=((ByteArray.size ⟨s.toArray⟩:Nat):Int):=by omega
 have hr:(Instr.sliceAt T (a.eval x) (some (a.eval y)) none none).run P w=.ok (.string ⟨(s.drop lo).toArray⟩) w:=by
  rw[hv,hu]
  simp only[Instr.sliceAt,Instr.slice,Instr.sliceBounds,Instr.sliceBound,asIntOf,Sem.run_bind,Sem.run_pure,Result.andThen_ok,run_underlying (FF ht hk),c1,c2,c3,and_self,if_true,Int.toNat_natCast,Option.isSome_none,Bool.false_eq_true,if_false,N9,Int.le_refl]
 exact⟨g,w,.string ⟨(s.drop lo).toArray⟩,.str (s.drop lo),O,by simp only[execOp,Option.map_some,Option.map_none,Sem.run_bind,hr,Result.andThen_ok,Sem.run_pure],.refl g,hs,rfl,rfl,rfl⟩
end
section
variable {ro:Ro}{n N:Nat}{ops:Array Oper}{Q:DX->St->Prop}{df:List DDf}{rest:List Oper}{γ Sr:List (Nat×D)}{O S0:Sig}{t:Nat}{ty:TypeId}{pos:String}{after:Array Edge}{T:Nat}{x y:Operand}{k:IntKind}{s:Str}{lo:Nat}
theorem cutSL(s':Str)(h:DOps prog ro n ops Q rest ⟨(t,.str s')::γ,O,df⟩)(hs:s.drop lo=s')(aA:lo<=s.length)(hl:A0 γ (A5 [x,y])=some Sr:=by exact tdR)(hx:ev Sr x=.str s:=by exact tdR)(hy:ev Sr y=.int k lo:=by exact tdR)(am:decide (t<n)=true:=by exact tdR)
  (hk:(tab T).k=.str:=by(simp<;>rfl)) :
  DOps prog ro n ops Q (⟨some t,.slice T x (some y) none none,ty,pos,after,none⟩::rest) ⟨γ,O,df⟩:=by
 subst hs
 obtain⟨e1,e2⟩:=evs hl
 exact K4 Ad rfl h (by simpa using am) hk (by rw[<-e1];exact hx) (by rw[<-e2];exact hy) aA
theorem Uf{ef:Bool}{l:List (Bool×Oper)}(s':Str)(h:MO prog ro n ops N S0 Q df l ((t,.str s')::γ) O)(hs:s.drop lo=s')(aA:lo<=s.length)(hl:A0 γ (A5 [x,y])=some Sr:=by exact tdR)(hx:ev Sr x=.str s:=by exact tdR)(hy:ev Sr y=.int k lo:=by exact tdR)(am:decide (t<n)=true:=by exact tdR)
  (hk:(tab T).k=.str:=by(simp<;>rfl)) :
  MO prog ro n ops N S0 Q df ((ef,⟨some t,.slice T x (some y) none none,ty,pos,after,none⟩)::l) γ O:=by
 subst hs
 have ax:∀z∈(Op.slice T x (some y) none none).operands,ev (only (Oper.looksAt ops ⟨some t,.slice T x (some y) none none,ty,pos,after,none⟩) γ) z=ev γ z:=fun z hz=>Bl (o:=⟨some t,.slice T x (some y) none none,ty,pos,after,none⟩) hz
 have aC:∀z∈[x,y],ev Sr z=ev γ z:=fun z hz=>B2 fun t ht=>Aq hl t (Ax (by rw[<-ht];exact hz))
 refine Hx (.str (s.drop lo)) am rfl (by rw[Af];rfl) (fun U' bY ro' df'=>?_) h
 refine K4 Ad (by rw[Af];rfl) (Au ⟨rfl,?_⟩) (by simpa using am) hk (by rw[ax x (by simp[Op.operands]),<-aC x (by simp)];exact hx) (by rw[ax y (by simp[Op.operands]),<-aC y (by simp)];exact hy) aA
 simp only[A4,if_true]
 exact⟨trivial,Sub.refl _⟩
end
theorem UE(O:Sig):DCall prog 97 [] O (rS (.slice (cS wordsC) .clip) O):=by
 refine en func97 ntmps97 ?_
 refine gz ?_
 exact fe1 trivial
@[reducible,instance] def a97:=fun O=>ah0 (@UE O)
theorem f163u: ∀(u:Nat) (O:Sig),u<=10000000000->DCall prog 163 [dI u] O (rS (.str (Lib.decDigits u)) O):=by
 intro u
 induction u using Nat.strongRecOn with
 | ind u ih =>
  intro O hu
  obtain⟨y,hy⟩:∃y,UInt8.ofNat (48+u % 10)=y:=⟨_,rfl⟩
  have hv:IntKind.u8.wrap (IntKind.i64.wrap (48+(u:Int).tmod 10))=(y.toNat:Int):=by
   have e:(u:Int).tmod 10=((u % 10:Nat):Int):=rfl
   rw[e,<-hy,F9 (by omega),At (by omega) (by omega),FC];omega
  by_cases hs:u<10
  ·have hr:Lib.decDigits u=[y]:=by rw[Lib.decDigits,dif_pos hs,<-hy,Nat.mod_eq_of_lt hs]
   refine en func163 ntmps163 ?_
   refine gf hv ?_
   refine strY [y] ?_
   refine gf hs ?_
   refine fin1 (U':=O) ⟨by rw[hr]<;>rfl,rfl⟩
  ·have hl:=BH 10 (u / 10) (by omega)
   have hr:Lib.decDigits u=Lib.decDigits (u / 10)++[y]:=by rw[Lib.decDigits,dif_neg hs,hy]
   have i163:∀O,Ans 163 [dI ((u:Int) / 10)] O True (.str (Lib.decDigits (u / 10))):=fun O=>ah0 (ih (u / 10) (by omega) O (by omega))
   refine en func163 ntmps163 ?_
   refine gf hv ?_
   refine strY [y] ?_
   refine gf hs ?_
   refine fin1 (U':=O) ⟨by rw[hr]<;>rfl,rfl⟩
theorem IH(n:Int)(O:Sig)(h1 : -1000000000<=n)(h2:n<=1000000000):DCall prog 163 [dI n] O (rS (.str (Lib.itoa n)) O):=by
 by_cases hn:n<0
 ·obtain⟨u,hu⟩:∃u:Nat,n = -(u:Int):=⟨n.natAbs,by omega⟩
  have hr:Lib.itoa n=45::Lib.decDigits u:=by unfold Lib.itoa;rw[if_pos hn];congr 2;omega
  have i163:∀O,Ans 163 [dI (u:Int)] O True (.str (Lib.decDigits u)):=fun O=>ah0 (f163u u O (by omega))
  have hl:=BH 10 u (by omega)
  subst hu
  refine en func163 ntmps163 ?_
  refine gf hn ?_
  refine fin1 (U':=O) ⟨by rw[hr]<;>rfl,rfl⟩
 ·obtain⟨u,hu⟩:∃u:Nat,n=(u:Int):=⟨n.toNat,by omega⟩
  have hr:Lib.itoa n=Lib.decDigits u:=by unfold Lib.itoa;rw[if_neg hn];congr 1;omega
  rw[hr,hu]
  exact f163u u O (by omega)
section
variable {P:Program}{tab:Nat->Ty}(ht:AZ P tab){ro:Ro}{n:Nat}{ops:Array Oper}{Q:DX->St->Prop}{df:List DDf}{rest:List Oper}{γ:List (Nat×D)}{O:Sig}
include ht
theorem PJ{t T ty:Nat}{k:IntKind}{x y:Operand}{s:Str}{hi:Nat}{pos:String}{after:Array Edge}{gd:Option (Nat×Bool)}(hw:Ay ops γ ⟨some t,.slice T x none (some y) none,ty,pos,after,gd⟩=some true)
  (h:DOps P ro n ops Q rest ⟨(t,.str (s.take hi))::γ,O,df⟩) (am:t<n) (hk:(tab T).k=.str) (h1:ev γ x=.str s) (h2:ev γ y=.int k hi) (co:hi<=s.length) :
  DOps P ro n ops Q (⟨some t,.slice T x none (some y) none,ty,pos,after,gd⟩::rest) ⟨γ,O,df⟩:=by
 refine Bx (fun d U'=>d=.str (s.take hi)/\U'=O) hw (fun c e=>by cases e) (Aa fun c e=>by cases e) (by simp[Ar,am]) ?_
  (fun d U' ⟨a2,a3⟩=>by subst a2 a3;exact h)
 intro g w a hs hT
 have hx:=Ah hT x
 have hy:=Ah hT y
 rw[h1]at hx
 rw[h2]at hy
 have hv:a.eval x=.string ⟨s.toArray⟩:=hx
 have hu:=AQ hy
 have c1:(0:Int)<=(hi:Int):=by omega
 have c2:(hi:Int)<=((ByteArray.size ⟨s.toArray⟩:Nat):Int):=by
  have:ByteArray.size ⟨s.toArray⟩=s.length:=by simp[ByteArray.size]
  omega
 have hr:(Instr.sliceAt T (a.eval x) none (some (a.eval y)) none).run P w=.ok (.string ⟨(s.take hi).toArray⟩) w:=by
  rw[hv,hu]
  simp only[Instr.sliceAt,Instr.slice,Instr.sliceBounds,Instr.sliceBound,asIntOf,Sem.run_bind,Sem.run_pure,Result.andThen_ok,run_underlying (FF ht hk),c1,c2,and_self,if_true,Int.toNat_natCast,Option.isSome_none,Bool.false_eq_true,if_false,P9]
 exact⟨g,w,.string ⟨(s.take hi).toArray⟩,.str (s.take hi),O,by simp only[execOp,Option.map_some,Option.map_none,Sem.run_bind,hr,Result.andThen_ok,Sem.run_pure],.refl g,hs,rfl,rfl,rfl⟩
end
section
variable {ro:Ro}{n N:Nat}{ops:Array Oper}{Q:DX->St->Prop}{df:List DDf}{γ Sr:List (Nat×D)}{O S0:Sig}{t:Nat}{ty:TypeId}{pos:String}{after:Array Edge}{T:Nat}{x y:Operand}{k:IntKind}{s:Str}{hi:Nat}
theorem moQCutS{ef:Bool}{l:List (Bool×Oper)}(s':Str)(h:MO prog ro n ops N S0 Q df l ((t,.str s')::γ) O)(hs:s.take hi=s')(aA:hi<=s.length)(hl:A0 γ (A5 [x,y])=some Sr:=by exact tdR)(hx:ev Sr x=.str s:=by exact tdR)(hy:ev Sr y=.int k hi:=by exact tdR)(am:decide (t<n)=true:=by exact tdR)
  (hk:(tab T).k=.str:=by(simp<;>rfl)) :
  MO prog ro n ops N S0 Q df ((ef,⟨some t,.slice T x none (some y) none,ty,pos,after,none⟩)::l) γ O:=by
 subst hs
 have ax:∀z∈(Op.slice T x none (some y) none).operands,ev (only (Oper.looksAt ops ⟨some t,.slice T x none (some y) none,ty,pos,after,none⟩) γ) z=ev γ z:=fun z hz=>Bl (o:=⟨some t,.slice T x none (some y) none,ty,pos,after,none⟩) hz
 have aC:∀z∈[x,y],ev Sr z=ev γ z:=fun z hz=>B2 fun t ht=>Aq hl t (Ax (by rw[<-ht];exact hz))
 refine Hx (.str (s.take hi)) am rfl (by rw[Af];rfl) (fun U' bY ro' df'=>?_) h
 refine PJ Ad (by rw[Af];rfl) (Au ⟨rfl,?_⟩) (by simpa using am) hk (by rw[ax x (by simp[Op.operands]),<-aC x (by simp)];exact hx) (by rw[ax y (by simp[Op.operands]),<-aC y (by simp)];exact hy) aA
 simp only[A4,if_true]
 exact⟨trivial,Sub.refl _⟩
end
section
variable {P:Program}{n:Nat}{γ:List (Nat×D)}{O:Sig}
theorem fin3{fn:Func}{R:DE->Sig->Prop}{U':Sig}{t u v:Nat}{d d' e e' f f':D}(hR:R (.ret (.tup [d',e',f'])) U')(hU:Sub U' O:=by exact tdU)(hr:fn.results=#[.tmp t,.tmp u,.tmp v]:=by exact tdR)(hl:γ.lookup t=some d:=by exact tdR)(bQ:γ.lookup u=some e:=by exact tdR)(bP:γ.lookup v=some f:=by exact tdR)(bG:decide (u=t)=false:=by exact tdR)(bF:decide (v=t)=false:=by exact tdR)(bE:decide (v=u)=false:=by exact tdR)(hw:WkD d d':=by exact tdW)(aN:WkD e e':=by exact tdW)(bC:WkD f f':=by exact tdW):Dp P n fn R .ret ⟨γ,O,[]⟩:=
 ⟨⟨[(t,d'),(u,e'),(v,f')],U',[]⟩,PT (show Tells γ [(t,d'),(u,e'),(v,f')] from ⟨by rw [An hl];exact hw,by rw [An bQ];exact aN,by rw [An bP];exact bC,trivial⟩) hU,rfl, .tup [d',e',f'],CQ (by
  have h1:u≠t:=by simpa using bG
  have h2:v≠t:=by simpa using bF
  have h3:v≠u:=by simpa using bE
  simp[resD,hr,h1,h2,h3]),DI hR⟩
end
def cutD(b:UInt8)(s:Str):D:=.tup [.str (cutP b s).1,.str (cutP b s).2.1,.bool (cutP b s).2.2]
theorem Tr(b:UInt8): ∀(k:Nat) (s:Str),k<=s.length->(∀c∈s.take k,c≠b)->cutP b s=(s.take k++(cutP b (s.drop k)).1,(cutP b (s.drop k)).2.1,(cutP b (s.drop k)).2.2)
 |0,s,_,_=>by simp
 |k+1,[],h,_=>by simp at h
 |k+1,c::s,h,hn=>by
  rw[List.take_succ_cons]at hn
  rw[cutP,if_neg (hn c (by simp)),List.take_succ_cons,List.drop_succ_cons,Tr b k s (by simpa using h) (fun x hx=>hn x (by simp[hx]))]
  rfl
theorem HA(s:Str)(b:UInt8)(O:Sig)(hs:s.length<=1000000):DCall prog 95 [.str s,.int .u8 (b.toNat:Int)] O (rS (cutD b s) O):=by
 refine en func95 ntmps95 ?_
 refine gz ?_ o95
 refine Cg [0,1,26] (fun (k:Nat)=>k<=s.length /\ ∀c∈s.take k,c≠b) (fun k=>[(7,dI k)]) (fun _=>O) (fun k=>s.length-k) (0) (by exact⟨by omega,by simp⟩) (fun k hI=>?_)
 obtain⟨hk,hn⟩:=hI
 have hC:=Tr b k s hk hn
 unfold cutD
 rw[hC]
 by_cases c1:k<s.length
 ·have au:s[k]? = some s[k]:=List.getElem?_eq_getElem c1
  rw[Ab c1,cutP]
  by_cases c2:s[k]=b
  ·have c3:((s[k].toNat:Nat):Int)=(b.toNat:Int):=by rw[c2]
   rw[if_pos c2]
   refine gf (gi au c3) ?_ o95
   refine moQCutS (s.take k) ?_ rfl (by omega)
   refine gz ?_ o95
   refine Uf (s.drop (k+1)) ?_ rfl (by omega)
   refine gz ?_ o95
   refine fin3 (U':=O) ⟨?_,rfl⟩
   simp
  ·have c3:¬((s[k].toNat:Nat):Int)=(b.toNat:Int):=fun e=>c2 (UInt8.toNat_inj.1 (by omega))
   refine gf (gi au c3) ?_ o95
   have bM:∀c∈s.take (k+1),c≠b:=fun c hc=>by
    rw[List.take_succ,List.mem_append,au]at hc
    rcases hc with hc|hc
    ·exact hn c hc
    ·simp at hc;rw[hc];exact c2
   exact⟨k+1,⟨by omega,bM⟩,td1,wkR⟩
 ·rw[List.drop_eq_nil_of_le (by omega),List.take_of_length_le (by omega),cutP]
  refine gz ?_ o95
  refine fin3 (U':=O) ⟨?_,rfl⟩
  simp
theorem To: ∀(k:Nat) (q acc:Nat) (s:Str),k<=s.length->k<=q->decF q acc s=decF (q-k) (decF k acc s) (s.drop k)
 |0,q,acc,s,_,_=>by simp[decF]
 |k+1,q,acc,[],h,_=>by simp at h
 |k+1,q,acc,c::s,h,hq=>by
  obtain⟨j,rfl⟩:∃j,q=j+1:=⟨q-1,by omega⟩
  rw[decF,decF,List.drop_succ_cons,show j+1-(k+1)=j-k by omega]
  exact To k j _ s (by simpa using h) (by omega)
theorem OA: ∀(k:Nat) (acc:Nat) (s:Str) (h:k<s.length),decF (k+1) acc s=10*decF k acc s+s[k].toNat % 16
 |0,acc,c::s,_=>by rw[decF,decF,decF];rfl
 |k+1,acc,c::s,h=>by
  rw[decF,OA k _ s (by simpa using h),decF];rfl
theorem KQ(s:Str)(O:Sig)(hs:s.length<=1000000):DCall prog 96 [.str s] O (rS (dI (intX s)) O):=by
 refine en func96 ntmps96 ?_
 obtain⟨neg,ae⟩:∃b,b=decide (s.head? = some 45):=⟨_,rfl⟩
 obtain⟨r,hr⟩:∃r,r=if neg then s.drop 1 else s:=⟨_,rfl⟩
 have au:intX s=if neg then -(decF 11 0 r:Int) else(decF 11 0 r:Int):=by
  unfold intX
  rw[hr,ae]
  by_cases h:s.head? = some 45<;>simp[h]
 have cf:r.length<=1000000:=by
  rw[hr];split
  ·rw[List.length_drop];omega
  ·exact hs
 repeat ((fail_if_success (first|(refine dwp_cut1 (x1:=.region 1 _ _) ((3,.bool neg)::[13,12,11,10,9,8,7,6].map fun k=>(k,D.any)) O ?_ (fun _ hK=>?_))|fail));(refine goX1 trivial ?_))
 refine dwp_cut1 (x1:=.region 1 _ _) ((3,.bool neg)::[13,12,11,10,9,8,7,6].map fun k=>(k,D.any)) O ?_ (fun _ hK=>?_)
 rotate_left
 ·cases s with
  |nil=>
   simp only[List.head?_nil,reduceCtorEq,decide_false]at ae
   subst ae
   refine gz ?_
   exact Co (CN (by first|(simp;done)|(simp_all;done)) (Sub.refl _)) hK
  | cons c s =>
   have hb:=c.toNat_lt
   by_cases hc:c=45
   ·subst hc
    simp only[List.head?_cons,decide_true]at ae
    subst ae
    refine gz ?_
    exact Co (CN (by first|(simp;done)|(simp_all;done)) (Sub.refl _)) hK
   ·have bU:¬((c.toNat:Nat):Int)=45:=fun e=>hc (UInt8.toNat_inj.1 (by rw[show(45:UInt8).toNat=45 from rfl];omega))
    simp only[List.head?_cons,Option.some.injEq,hc,decide_false]at ae
    subst ae
    refine gf bU ?_
    exact Co (CN (by first|(simp;done)|(simp_all;done)) (Sub.refl _)) hK
 ·refine dwp_cut1 (x1:=.seq _ (.cond _ _ _)) ((0,.str r)::[16,15,14].map fun k=>(k,D.any)) O ?_ (fun _ hK=>?_)
  rotate_left
  ·cases hn:neg with
   |false=>
    rw[hn]at hr ae
    simp only[Bool.false_eq_true,if_false]at hr
    subst hr
    refine gz ?_
    exact Co (CN (by first|(simp;done)|(simp_all;done)) (Sub.refl _)) hK
   | true =>
    rw[hn]at hr ae
    simp only[if_true]at hr
    subst hr
    have aO:1<=s.length:=by
     cases s with
     |nil=>simp at ae
     |cons c s=>simp
    refine gz ?_
    refine cutSL (s.drop 1) ?_ rfl aO
    refine gz ?_
    exact Co (CN (by first|(simp;done)|(simp_all;done)) (Sub.refl _)) hK
  clear hr ae
  refine gz ?_
  refine Cg [0,2,3,35,36,37,38] (fun (k:Nat)=>k<=11/\k<=r.length) (fun k=>[(4,dI (decF k 0 r)),(5,dI k)]) (fun _=>O) (fun k=>11-k) (0) (by exact⟨by omega,by omega⟩) (fun k hI=>?_)
  obtain⟨hk,bR⟩:=hI
  have hD:=To k 11 0 r bR hk
  have ci:=Ny k 0 r
  have cg:(10:Nat) ^ k<=10 ^ 11:=Nat.pow_le_pow_right (by omega) hk
  by_cases c1:k<r.length
  rotate_left
  ·rw[List.drop_eq_nil_of_le (by omega)]at hD
   have b7:decF 11 0 r=decF k 0 r:=by rw[hD];cases (11-k)<;>rfl
   rw[b7]at au
   generalize decF k 0 r=z at*
   cases neg with
   |true=>
    refine gz ?_
    refine fin1 (U':=O) ⟨by rw[au,if_pos rfl],rfl⟩
   |false=>
    refine gz ?_
    refine fin1 (U':=O) ⟨by rw[au,if_neg (by simp)],rfl⟩
  by_cases c2:k<11
  rotate_left
  ·rw[show 11-k=0 by omega,decF]at hD
   rw[hD]at au
   generalize decF k 0 r=z at*
   cases neg with
   |true=>
    refine gz ?_
    refine fin1 (U':=O) ⟨by rw[au,if_pos rfl],rfl⟩
   |false=>
    refine gz ?_
    refine fin1 (U':=O) ⟨by rw[au,if_neg (by simp)],rfl⟩
  have hx:r[k]? = some r[k]:=List.getElem?_eq_getElem c1
  have ho:=OA k 0 r c1
  have bO:=Ny (k+1) 0 r
  have hb:=r[k].toNat_lt
  have bD:(r[k].toNat % 2 ^ IntKind.u8.bits &&& 15 % 2 ^ IntKind.u8.bits:Nat)=r[k].toNat % 16:=by
   rw[show(2:Nat) ^ IntKind.u8.bits=256 from rfl,show 15 % 256=2 ^ 4-1 from rfl,Nat.and_two_pow_sub_one_eq_mod];omega
  have hv:IntKind.i64.wrap (10*(decF k 0 r:Int)+IntKind.i64.wrap (IntKind.u8.wrap ((r[k].toNat % 2 ^ IntKind.u8.bits &&& 15 % 2 ^ IntKind.u8.bits:Nat):Int)))=(decF (k+1) 0 r:Int):=by
   have e:IntKind.u8.wrap ((r[k].toNat % 16:Nat):Int)=((r[k].toNat % 16:Nat):Int):=by rw[FC];omega
   rw[bD,e,At (x:=((r[k].toNat % 16:Nat):Int)) (by omega) (by omega),ho,At (by omega) (by omega)];omega
  refine gf (gi hx hv) ?_
  exact⟨k+1,⟨by omega,by omega⟩,td1,wkR⟩
theorem Oi(c:CProg)(O:Sig)(hp:AG c=true):DCall prog 87 [.agg (cCPg c)] O (rS (.str (Cz c)) O):=by
 obtain⟨c1,c2,c3,c4,c5⟩:=(B6 c).1 hp
 have aY:∀n:Int,inB n=true-> -1000000000<=n/\n<=1000000000:=fun n h=>by unfold inB at h;simpa using h
 have hT:=Kq hp
 have hm:=aY _ c3.1
 have bi:Cz c=Ej c++10::listB (fun l=>l++[10]) (c.ins.map Bw):=by unfold Cz;rw[listB,List.append_assoc];rfl
 have cm:(Ej c).length=(listB (fun n=>Lib.itoa n++[32]) c.starts).length+2+(Lib.itoa c.main).length:=by unfold Ej;simp;omega
 have bH:=congrArg List.length bi
 rw[List.length_append,List.length_cons]at bH
 refine en func87 ntmps87 ?_
 refine gz ?_ o87
 refine D7 [1,2,5,22,23,24,25,26,27,28,29,30,31,32,33,34,35,36,37,38,39,40,41,42,43,44,45,46,47,48,49,50,51,52,53,54,55,56,57,58,59,60,61,62,63,64,65,66,67] (fun (k:Nat) (bs:Str)=>k<=c.starts.length/\bs++listB (fun n=>Lib.itoa n++[32]) (c.starts.drop k)=listB (fun n=>Lib.itoa n++[32]) c.starts) (fun k bs=>[(4,dI k),(3,.str bs)]) (fun _ _=>O) (fun k _=>c.starts.length-k) (0) ([]) (by exact⟨by omega,rfl⟩) (fun k bs hI=>?_)
 obtain⟨hk,hE⟩:=hI
 have aQ:=congrArg List.length hE
 rw[List.length_append]at aQ
 by_cases aj:k<c.starts.length
 ·rw[Ab aj,listB]at hE
  obtain⟨n1,n2⟩:=aY _ (c4 _ (List.getElem_mem aj)).1
  have a8:=Ip (n:=c.starts[k]) ⟨by omega,by omega⟩
  have i163:∀O,Ans 163 [dI c.starts[k]] O True (.str (Lib.itoa c.starts[k])):=fun O=>ah0 (IH c.starts[k] O n1 n2)
  refine gz ?_ o87
  exact⟨k+1,bs++(Lib.itoa c.starts[k]++[32]),⟨by omega,by rw[List.append_assoc];exact hE⟩,td1,wkR⟩
 ·rw[Aj aj,listB,List.append_nil]at hE
  have a8:=Ip (n:=c.main) hm
  have i163:∀O,Ans 163 [dI c.main] O True (.str (Lib.itoa c.main)):=fun O=>ah0 (IH c.main O hm.1 hm.2)
  refine gz ?_ o87
  have bw:bs++[58,32]++Lib.itoa c.main++[10]++listB (fun l=>l++[10]) (c.ins.map Bw)=Cz c:=by rw[bi];unfold Ej;simp[hE]
  refine D7 [1,2,34,35,67] (fun (k:Nat) (bs:Str)=>k<=c.ins.length/\bs++listB (fun l=>l++[10]) ((c.ins.drop k).map Bw)=Cz c) (fun k bs=>[(5,dI k),(3,.str bs)]) (fun _ _=>O) (fun k _=>c.ins.length-k) (0) (bs++[58,32]++Lib.itoa c.main++[10]) (by exact⟨by omega,bw⟩) (fun k bs hI=>?_)
  clear hE aQ bw i163 a8
  obtain⟨hk,hE⟩:=hI
  have aQ:=congrArg List.length hE
  rw[List.length_append]at aQ
  by_cases aj:k<c.ins.length
  ·have hI:=c5 _ (List.getElem_mem aj)
   have ck:=KJ hI
   obtain⟨⟨p1,p2⟩,p3,p4,p5⟩:=(JB _).1 hI
   have p6:=aY _ p3
   have cb:wordsC.length=21:=rfl
   obtain⟨w,hw⟩:∃w:Nat,c.ins[k].op=(w:Int)+1:=⟨c.ins[k].op.toNat-1,by omega⟩
   have aN:w<wordsC.length:=by omega
   have bh:FR c.ins[k].op=wordsC[w]:=by unfold FR;rw[hw,show((w:Int)+1-1).toNat=w by omega,List.getElem?_eq_getElem aN];rfl
   have ca:(cS wordsC)[w]? = some [.str wordsC[w]]:=by unfold cS;rw[List.getElem?_map,List.getElem?_eq_getElem aN];rfl
   have cp:(listB (fun l=>l++[10]) (List.map Bw (List.drop k c.ins))).length=(Bw c.ins[k]).length+1+(listB (fun l=>l++[10]) (List.map Bw (List.drop (k+1) c.ins))).length:=by
    rw[Ab aj,List.map_cons,listB];simp;omega
   rw[Ab aj,List.map_cons,listB]at hE
   cases hA:hasA c.ins[k].op with
   |true=>
    have a8:=Ip (n:=c.ins[k].a) p6
    have i163:∀O,Ans 163 [dI c.ins[k].a] O True (.str (Lib.itoa c.ins[k].a)):=fun O=>ah0 (IH c.ins[k].a O p6.1 p6.2)
    have ap:Bw c.ins[k]=wordsC[w]++([32]++Lib.itoa c.ins[k].a):=by unfold Bw;rw[bh,if_pos hA];rfl
    have bk:=congrArg List.length ap
    simp only[List.length_append,List.length_singleton]at bk
    rw[ap]at hE
    have aL:=hA
    rw[hw]at aL
    refine gf (gi hA (gi aL hw)) ?_ o87
    exact⟨k+1,bs++(wordsC[w]++32::(Lib.itoa c.ins[k].a++[10])),⟨by omega,by simpa[List.append_assoc] using hE⟩,td1,wkR⟩
   |false=>
    have ap:Bw c.ins[k]=wordsC[w]:=by unfold Bw;rw[bh,hA];simp
    have bk:=congrArg List.length ap
    rw[ap]at hE
    have aL:=hA
    rw[hw]at aL
    refine gf (gi hA (gi aL hw)) ?_ o87
    exact⟨k+1,bs++(wordsC[w]++[10]),⟨by omega,by simpa[List.append_assoc] using hE⟩,td1,wkR⟩
  ·rw[Aj aj,List.map_nil,listB,List.append_nil]at hE
   subst hE
   refine gz ?_ o87
   refine fin1 (U':=O) ⟨rfl,rfl⟩
theorem UW(c:CProg)(O:Sig)(h1:c.ins.length<=1073741824)(h2:c.starts.length<=1073741824):DCall prog 41 [.agg (cCPg c)] O (rS (if AG c then .tup [.str (Cz c),dI 0] else .tup [.str [],dI 2]) O):=by
 refine en func41 ntmps41 ?_
 cases hp:AG c with
 |false=>
  refine gf hp ?_
  refine fin2 (U':=O) ⟨rfl,rfl⟩
 |true=>
  have hl:=Kq hp
  have i87:∀O,Ans 87 [.agg (cCPg c)] O True (.str (Cz c)):=fun O=>ah0 (Oi c O hp)
  refine gf hp ?_
  refine fin2 (U':=O) ⟨rfl,rfl⟩
end Go.DL
namespace Go.Proofs
open Go.Proofs.Tryz
open Go.Shelf
def laysC172_ren:Go.Shelf.Ren:=⟨fun|172=>168|244=>238|245=>239|247=>283|279=>284|280=>285|281=>286|282=>287|287=>323|316=>324|171=>84|205=>325|321=>358|322=>359|243=>162|246=>233|283=>272|284=>273|285=>274|286=>275|129=>316|317=>315|318=>317|319=>318|320=>319|337=>356|338=>357|n=>n,fun|9=>9|3=>3|75=>161|76=>162|4=>4|5=>5|167=>346|37=>96|0=>0|85=>347|2=>2|168=>349|53=>338|175=>392|46=>320|210=>396|127=>246|145=>439|143=>437|21=>21|171=>337|173=>341|212=>389|51=>373|20=>20|213=>390|232=>452|233=>453|80=>167|n=>n,fun|15=>2|16=>3|17=>1|18=>6|19=>7|n=>n⟩
theorem laysC172:Go.Proofs.LaysC.n172 prog laysC172_ren:={
 mixed:=by kernel_rfl
 f129:=func316.trans (congrArg some (by kernel_rfl))
 f171:=func84.trans (congrArg some (by kernel_rfl))
 f172:=func168.trans (congrArg some (by kernel_rfl))
 f205:=func325.trans (congrArg some (by kernel_rfl))
 f243:=func162.trans (congrArg some (by kernel_rfl))
 f244:=func238.trans (congrArg some (by kernel_rfl))
 f245:=func239.trans (congrArg some (by kernel_rfl))
 f246:=func233.trans (congrArg some (by kernel_rfl))
 f247:=func283.trans (congrArg some (by kernel_rfl))
 f279:=func284.trans (congrArg some (by kernel_rfl))
 f280:=func285.trans (congrArg some (by kernel_rfl))
 f281:=func286.trans (congrArg some (by kernel_rfl))
 f282:=func287.trans (congrArg some (by kernel_rfl))
 f283:=func272.trans (congrArg some (by kernel_rfl))
 f284:=func273.trans (congrArg some (by kernel_rfl))
 f285:=func274.trans (congrArg some (by kernel_rfl))
 f286:=func275.trans (congrArg some (by kernel_rfl))
 f287:=func323.trans (congrArg some (by kernel_rfl))
 f316:=func324.trans (congrArg some (by kernel_rfl))
 f317:=func315.trans (congrArg some (by kernel_rfl))
 f318:=func317.trans (congrArg some (by kernel_rfl))
 f319:=func318.trans (congrArg some (by kernel_rfl))
 f320:=func319.trans (congrArg some (by kernel_rfl))
 f321:=func358.trans (congrArg some (by kernel_rfl))
 f322:=func359.trans (congrArg some (by kernel_rfl))
 f337:=func356.trans (congrArg some (by kernel_rfl))
 f338:=func357.trans (congrArg some (by kernel_rfl))
 t0:=underlying0
 a0:=isAgg0
 z0:=sizeOf0
 v0:=zeroValue0
 t2:=underlying2
 a2:=isAgg2
 z2:=sizeOf2
 v2:=zeroValue2
 t3:=underlying3
 a3:=isAgg3
 z3:=sizeOf3
 v3:=zeroValue3
 t4:=underlying4
 a4:=isAgg4
 z4:=sizeOf4
 v4:=zeroValue4
 t5:=underlying5
 a5:=isAgg5
 z5:=sizeOf5
 v5:=zeroValue5
 t9:=underlying9
 a9:=isAgg9
 z9:=sizeOf9
 v9:=zeroValue9
 t20:=underlying20
 a20:=isAgg20
 z20:=sizeOf20
 v20:=zeroValue20
 t21:=underlying21
 a21:=isAgg21
 z21:=sizeOf21
 v21:=zeroValue21
 t37:=underlying96
 a37:=isAgg96
 z37:=sizeOf96
 v37:=zeroValue96
 t46:=underlying320
 a46:=isAgg320
 z46:=sizeOf320
 v46:=zeroValue320
 t51:=underlying373
 a51:=isAgg373
 z51:=sizeOf373
 v51:=zeroValue373
 t53:=underlying338
 a53:=isAgg338
 z53:=sizeOf338
 v53:=zeroValue338
 t75:=underlying161
 a75:=isAgg161
 z75:=sizeOf161
 v75:=zeroValue161
 t76:=underlying162
 a76:=isAgg162
 z76:=sizeOf162
 v76:=zeroValue162
 t85:=underlying347
 a85:=isAgg347
 z85:=sizeOf347
 v85:=zeroValue347
 t127:=underlying246
 a127:=isAgg246
 z127:=sizeOf246
 v127:=zeroValue246
 t143:=underlying437
 a143:=isAgg437
 z143:=sizeOf437
 v143:=zeroValue437
 t145:=underlying439
 a145:=isAgg439
 z145:=sizeOf439
 v145:=zeroValue439
 t167:=underlying346
 a167:=isAgg346
 z167:=sizeOf346
 v167:=zeroValue346
 t168:=underlying349
 a168:=isAgg349
 z168:=sizeOf349
 v168:=zeroValue349
 t171:=underlying337
 a171:=isAgg337
 z171:=sizeOf337
 v171:=zeroValue337
 t173:=underlying341
 a173:=isAgg341
 z173:=sizeOf341
 v173:=zeroValue341
 t175:=underlying392
 a175:=isAgg392
 z175:=sizeOf392
 v175:=zeroValue392
 t210:=underlying396
 a210:=isAgg396
 z210:=sizeOf396
 v210:=zeroValue396
 t212:=underlying389
 a212:=isAgg389
 z212:=sizeOf389
 v212:=zeroValue389
 t213:=underlying390
 a213:=isAgg390
 z213:=sizeOf390
 t232:=underlying452
 a232:=isAgg452
 z232:=sizeOf452
 v232:=zeroValue452
 t233:=underlying453
 a233:=isAgg453
 z233:=sizeOf453
 v233:=zeroValue453
 g15:=by kernel_rfl
 g16:=by kernel_rfl
 g17:=by kernel_rfl
 g18:=by kernel_rfl
 g19:=by kernel_rfl
 t80:=underlying167
 a80:=isAgg167
 z80:=sizeOf167
 v80:=zeroValue167
 i0:=by kernel_rfl
 i2:=by kernel_rfl
 i3:=by kernel_rfl
 i4:=by kernel_rfl
 i5:=by kernel_rfl
 i9:=by kernel_rfl
 i20:=by kernel_rfl
 i21:=by kernel_rfl
 i37:=by kernel_rfl
 i46:=by kernel_rfl
 i51:=by kernel_rfl
 i53:=by kernel_rfl
 i75:=by kernel_rfl
 i76:=by kernel_rfl
 i80:=by kernel_rfl
 i85:=by kernel_rfl
 i127:=by kernel_rfl
 i143:=by kernel_rfl
 i145:=by kernel_rfl
 i167:=by kernel_rfl
 i168:=by kernel_rfl
 i171:=by kernel_rfl
 i173:=by kernel_rfl
 i175:=by kernel_rfl
 i210:=by kernel_rfl
 i212:=by kernel_rfl
 i232:=by kernel_rfl
 i233:=by kernel_rfl
 m15:=by kernel_rfl
 m16:=by kernel_rfl
 m17:=by kernel_rfl
 m18:=by kernel_rfl
 m19:=by kernel_rfl
 c0:=by kernel_rfl
 c2:=by kernel_rfl
 c3:=by kernel_rfl
 c4:=by kernel_rfl
 c5:=by kernel_rfl
 c9:=by kernel_rfl
 c20:=by kernel_rfl
 c21:=by kernel_rfl
 c37:=by kernel_rfl
 c46:=by kernel_rfl
 c51:=by kernel_rfl
 c53:=by kernel_rfl
 c75:=by kernel_rfl
 c76:=by kernel_rfl
 c80:=by kernel_rfl
 c85:=by kernel_rfl
 c127:=by kernel_rfl
 c143:=by kernel_rfl
 c145:=by kernel_rfl
 c167:=by kernel_rfl
 c168:=by kernel_rfl
 c171:=by kernel_rfl
 c173:=by kernel_rfl
 c175:=by kernel_rfl
 c210:=by kernel_rfl
 c212:=by kernel_rfl
 c213:=by kernel_rfl
 c232:=by kernel_rfl
 c233:=by kernel_rfl }
open Go.RowKit in
theorem strconv_Atoi_ok(s:ByteArray)(aW:s.size<=9223372036854775806)(v:Int)(h:Lib.atoiAll s.data.toList=.ok v)(w:World):
  Calls prog 168 #[.string s] w fun e w'=>e=.returned (.tuple #[.int .i64 v,.nilIface])/\(w'=w \/ ∃t,w'=Lib.bytesWorld w 5 t):=Any.strconv_Atoi_ok laysC172 s aW v h w
open Go.RowKit in
theorem strconv_Atoi_syntax(s:ByteArray)(ay:s.size<=281474976710656)(h:Lib.atoiAll s.data.toList=Lib.atoiAll [])(ev:Value)(w:World)(hv:w.cell? ⟨2,0,none⟩=some ev)(aP:ev=.nilIface \/ ∃te pe,ev=.iface te pe):
  Calls prog 168 #[.string s] w fun e w'=> ∃N,e=.returned (.tuple #[.int .i64 (0),.iface 349 (.pointer (some ⟨N,0,none⟩))])/\w.heap.size<=N/\w'.heap[N]? = some (.cells #[.string ⟨#[65,116,111,105]⟩,.string s,ev] 396 (0,0))/\Below w.heap.size w w':=Any.strconv_Atoi_syntax laysC172 s ay h ev w hv aP
open Go.RowKit in
theorem strconv_Atoi_range(s:ByteArray)(ay:s.size<=281474976710656)(h:Lib.atoiAll s.data.toList=.range)(ev:Value)(w:World)(hv:w.cell? ⟨3,0,none⟩=some ev)(aP:ev=.nilIface \/ ∃te pe,ev=.iface te pe):
  Calls prog 168 #[.string s] w fun e w'=> ∃N,e=.returned (.tuple #[.int .i64 (Lib.atoiSat s.data.toList),.iface 349 (.pointer (some ⟨N,0,none⟩))])/\w.heap.size<=N/\w'.heap[N]? = some (.cells #[.string ⟨#[65,116,111,105]⟩,.string s,ev] 396 (0,0))/\Below w.heap.size w w':=Any.strconv_Atoi_range laysC172 s ay h ev w hv aP
end Go.Proofs
