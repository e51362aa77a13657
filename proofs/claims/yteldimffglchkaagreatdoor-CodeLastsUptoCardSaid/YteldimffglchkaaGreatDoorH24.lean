/- A part of the proof. -/
import Derived.Test.YteldimffglchkaaGreatDoorH23
import Derived.Test.YteldimffglchkaaGreatDoorH20
import Derived.Shelf.Strings.Builder1
import Derived.Test.YteldimffglchkaaGreatDoorProg
import Derived.Shelf.LaysM
import Derived.Shelf.Strconv.Itoa3
import Derived.Test.YteldimffglchkaaGreatDoorH11
import Derived.Test.YteldimffglchkaaGreatDoorH09
import Derived.Test.YteldimffglchkaaGreatDoorH18
import Derived.Test.YteldimffglchkaaGreatDoorH19
import Derived.Test.YteldimffglchkaaGreatDoorH17
set_option linter.all false
namespace Go.DL
open Go.Proofs.Tryz
open Go Go.Proofs
set_option maxHeartbeats 8000000
theorem fits_rg{p:BProg}{N q:Nat}{x:CIns}(ag:fitsC p N q x=true):1<=x.op/\x.op<=21:=by
 unfold fitsC at ag
 refine Classical.byContradiction fun h=>?_
 rw[if_neg (by omega),if_neg (by omega),if_neg (by omega),if_neg (by omega),if_neg (by omega),if_neg (by omega)]at ag
 simp at ag
 omega
theorem Qu{p:BProg}{w:CWorld}{c:CProg}{m:Met}{nx:Bool}(hg:∀n:Nat,0<=p.gens.getD n 0)(hw:WldOK p w)(hL:LevOK p c m nx){s:GoS}(hs:GInv w m s):mRun p w c c.ins.length s=match IX p w (AC c s.pos.toNat) { s with pos:=s.pos+1 } with
  |.inl t=>mRun p w c c.ins.length t
  |.inr h=>h:=by
 rw[M5 hg hw hL c.ins.length (c.ins.length+1) s hs (by omega) (by omega),mRun]
 rfl
@[simp] theorem cActs_len:cActs.length=22:=rfl
@[simp] theorem cActs_all:cActs.all D.flat=true:=rfl
@[simp] theorem cActs_tk:List.take 22 cActs=cActs:=rfl
theorem RunS.newO{ir:Nat}{p:BProg}{R:Nat->RW}{s:GoS}{O:Sig}(h:RunS ir p R s O){i:Nat}(hi:O i=none)(o:DObj):RunS ir p R s (O.set i o):=by
 have hn:∀j x,O j=some x->j≠i:=fun j x hj e=>by rw[e,hi]at hj;cases hj
 exact⟨by rw[w7 _ _ (hn _ _ h.obj)];exact h.obj,h.rows.keep fun j x hj _=>by rw[w7 _ _ (hn j x hj)];exact hj,h.ni,h.nf⟩
theorem Jp (p:BProg) (c:CProg) (objs:List MThing) (pos:Int) (stk env:List MVal) (o1:Own) (O:Sig) (hp:p.wt<=1073741824) (cw:c.ins.length<=1073741824) (cu:c.starts.length<=1073741824) (b9:objs.length<=1000000) (bJ : ∀ x ∈ objs,x.slots.length<=1000000) (cJ:stk.length<=900000) (cW:env.length<=900000) :
  DCall prog 13 [.agg (Ae p),.agg (cCPg c),.slice (objs.map cTh) o1,.agg (cFr pos stk env)] O (rS (.tup [.agg (EX ((goC p (A3 p) c objs pos stk env).getD JM)),dI (if(goC p (A3 p) c objs pos stk env).isSome then 0 else 2)]) O):=by
 have bO:=EH p c
 have ah:=fun O:Sig=>Lt p objs o1 O hp (by omega) (fun x hx=>by have:=bJ x hx;omega)
 obtain⟨H,hH⟩:∃H,H=goC p (A3 p) c objs pos stk env:=⟨_,rfl⟩
 rw[<-hH]
 refine en func13 ntmps13 ?_
 refine gz ?_ o13 [8]
 refine newV (fun i8 aU=>?_)
 have o8:(O.set i8 (.cells [dI 0,dI 0,dI 0,dI 0,.nils,dI 0,dI 0,.nils,.nils,.nils,.nils])) i8=_:=w6 ..
 have bj:Sub O (O.set i8 (.cells [dI 0,dI 0,dI 0,dI 0,.nils,dI 0,dI 0,.nils,.nils,.nils,.nils])):=(Sub.refl _).set aU
 generalize O.set i8 (.cells [dI 0,dI 0,dI 0,dI 0,.nils,dI 0,dI 0,.nils,.nils,.nils,.nils])=Sa at*
 refine gz ?_ o13 [8]
 refine A7 (Mk p c Sa hp cw cu) (fun d U' hr=>?_) (fun d U' hr=>?_)
 rotate_left
 ·unfold LokR at hr
  split at hr
  ·cases hr.1
  ·obtain⟨_,_,h,_⟩:=hr;cases h
 unfold LokR at hr
 cases hL:C0 p c with
 |none=>
  rw[hL]at hr
  obtain⟨e,rfl⟩:=hr
  cases e
  have hn:H=none:=by rw[hH];unfold goC;rw[bO,hL];rfl
  refine gf o8 ?_ o13 [8]
  refine finC (U':=O) (d:=.tup [.agg (EX JM),dI 2]) ⟨by rw[hn];rfl,rfl⟩ (hw:=?_) (hZ:=?_)
  ·exact Dd ⟨DV,Ab _,trivial⟩
  ·exact fun j o hj=>by rw[w7 _ _ (B2 hj aU)];exact bj j o hj
 | some W =>
  rw[hL]at hr
  obtain⟨im,bx,e,rfl⟩:=hr
  cases e
  have n8m:i8≠im:=B2 o8 bx
  have om:(Sa.set im (.map (eIL W))) im=some (.map (eIL W)):=w6 ..
  have o8':=(w7 Sa (.map (eIL W)) n8m).trans o8
  have aX:Sub O (Sa.set im (.map (eIL W))):=bj.set (bj.none bx)
  generalize Sa.set im (.map (eIL W))=S0 at*
  clear o8 bj bx
  have bN:DJ p c=some (Eo c W):=by rw[bO,hL];rfl
  obtain⟨aQ,hlen,au⟩:=M9 bN
  have cG:c.ins.length<=300:=by
   unfold C0 at hL
   split at hL
   ·rename_i h;simp only[Bool.and_eq_true,decide_eq_true_eq]at h;exact h.2.1
   ·cases hL
  have bz:H=if Bh (A3 p) objs&&GB (Eo c W) objs.length pos stk env then some (mRun p (A3 p) c c.ins.length ⟨objs,[],pos,stk,env⟩) else none:=by rw[hH];unfold goC;rw[bN]
  by_cases hg:(Bh (A3 p) objs&&GB (Eo c W) objs.length pos stk env)=true
  rotate_left
  ·have hn:H=none:=by rw [bz,if_neg hg]
   have fin0:∀z,Sub O (S0.set i8 z):=fun z j o hj=>by rw[w7 _ _ (B2 hj aU)];exact aX j o hj
   have fin1:∀i z1 z2,S0 i=none->Sub O ((S0.set i z1).set i8 z2):=fun i z1 z2 hi j o hj=>by rw[w7 _ _ (B2 hj aU),w7 _ _ (B2 (aX j o hj) hi)];exact aX j o hj
   have bD:Bh (A3 p) objs=false\/(Bh (A3 p) objs=true/\(pos < 0\/(c.ins.length:Int)<=pos))\/(Bh (A3 p) objs=true /\ ∃ k:Nat,pos=k/\k < c.ins.length/\((stk.length:Int) ≠ (getM ⟨0,0⟩ (k:Int) W).st\/((stk.length:Int)=(getM ⟨0,0⟩ (k:Int) W).st/\(env.length:Int) ≠ (getM ⟨0,0⟩ (k:Int) W).env)\/((stk.length:Int)=(getM ⟨0,0⟩ (k:Int) W).st/\(env.length:Int)=(getM ⟨0,0⟩ (k:Int) W).env/\(okVs objs.length stk=false\/(okVs objs.length stk=true/\okVs objs.length env=false))))):=by
    cases hO:Bh (A3 p) objs with
    |false=>exact .inl rfl
    | true =>
     refine .inr ?_
     rw[hO,Bool.true_and]at hg
     by_cases h0:pos<0\/(c.ins.length:Int)<=pos
     ·exact .inl ⟨rfl,h0⟩
     obtain⟨k,hk⟩:∃k:Nat,pos=k:=⟨pos.toNat,by omega⟩
     have ai:k<c.ins.length:=by omega
     refine .inr ⟨rfl,k,hk,ai,?_⟩
     subst hk
     unfold GB at hg
     rw[Oe,Int.toNat_natCast,Of c W ai,Option.getD_some]at hg
     by_cases a1:(stk.length:Int)=(getM ⟨0,0⟩ (k:Int) W).st
     ·refine .inr ?_
      by_cases a2:(env.length:Int)=(getM ⟨0,0⟩ (k:Int) W).env
      ·refine .inr ⟨a1,a2,?_⟩
       cases a3:okVs objs.length stk with
       |false=>exact .inl rfl
       |true=>
        cases a4:okVs objs.length env with
        |false=>exact .inr ⟨rfl,rfl⟩
        |true=>exact absurd (by rw[a3,a4,decide_eq_true (by omega)];rfl) hg
      ·exact .inl ⟨a1,a2⟩
     ·exact .inl a1
   rcases bD with hO|⟨hO,h0|h0⟩|⟨hO,k,rfl,ai,a|⟨a1,a2⟩|⟨a1,a2,a3|⟨a3,a4⟩⟩⟩
   ·have ae:(okP p&&Bh (A3 p) objs)=false:=by rw[hO];simp
    repeat' first|refine gf (gi ae o8') ?_ [] [8]|refine CO (ah _) ?_|refine callPG (ah _) ?_|refine gf (gi ae o8') ?_ o13 [8]|apply gy<;>intro hh
    refine finC (U':=O) (d:=.tup [.agg (EX JM),dI 2]) ⟨by rw[hn];rfl,rfl⟩ (hw:=?_) (hZ:=fin0 _)
    exact Dd ⟨DV,Ab _,trivial⟩
   all_goals have ae:(okP p&&Bh (A3 p) objs)=true:=by rw[hO,aQ];rfl
   ·repeat' first|refine gf (gi ae o8') ?_ [] [8]|refine CO (ah _) ?_|refine callPG (ah _) ?_|refine gf (gi ae o8') ?_ o13 [8]|apply gy<;>intro hh
    refine finC (U':=O) (d:=.tup [.agg (EX JM),dI 2]) ⟨by rw[hn];rfl,rfl⟩ (hw:=?_) (hZ:=fin0 _)
    exact Dd ⟨DV,Ab _,trivial⟩
   ·repeat' first|refine gf (gi ae o8') ?_ [] [8]|refine CO (ah _) ?_|refine callPG (ah _) ?_|refine gf (gi ae o8') ?_ o13 [8]|apply gy<;>intro hh
    refine finC (U':=O) (d:=.tup [.agg (EX JM),dI 2]) ⟨by rw[hn];rfl,rfl⟩ (hw:=?_) (hZ:=fin0 _)
    exact Dd ⟨DV,Ab _,trivial⟩
   ·repeat' first|refine gf (gi ae (gi o8' om)) ?_ [] [8]|refine CO (ah _) ?_|refine callPG (ah _) ?_|refine gf (gi ae (gi o8' om)) ?_ o13 [8]|apply gy<;>intro hh
    refine IU (fun i11 ac=>?_)
    have n11:=B2 o8' ac
    refine gf (gi o8' (gi n11 a)) ?_ o13 [8]
    refine finC (U':=O) (d:=.tup [.agg (EX JM),dI 2]) ⟨by rw[hn];rfl,rfl⟩ (hw:=?_) (hZ:=fin1 i11 _ _ ac)
    exact Dd ⟨DV,Ab _,trivial⟩
   ·repeat' first|refine gf (gi ae (gi o8' om)) ?_ [] [8]|refine CO (ah _) ?_|refine callPG (ah _) ?_|refine gf (gi ae (gi o8' om)) ?_ o13 [8]|apply gy<;>intro hh
    refine IU (fun i11 ac=>?_)
    have n11:=B2 o8' ac
    refine gf (gi o8' (gi n11 (gi a1 a2))) ?_ o13 [8]
    refine finC (U':=O) (d:=.tup [.agg (EX JM),dI 2]) ⟨by rw[hn];rfl,rfl⟩ (hw:=?_) (hZ:=fin1 i11 _ _ ac)
    exact Dd ⟨DV,Ab _,trivial⟩
   ·repeat' first|refine gf (gi ae (gi o8' om)) ?_ [] [8]|refine CO (ah _) ?_|refine callPG (ah _) ?_|refine gf (gi ae (gi o8' om)) ?_ o13 [8]|apply gy<;>intro hh
    refine IU (fun i11 ac=>?_)
    have n11:=B2 o8' ac
    refine gf (gi o8' (gi n11 (gi a1 (gi a2 a3)))) ?_ o13 [8]
    refine finC (U':=O) (d:=.tup [.agg (EX JM),dI 2]) ⟨by rw[hn];rfl,rfl⟩ (hw:=?_) (hZ:=fin1 i11 _ _ ac)
    exact Dd ⟨DV,Ab _,trivial⟩
   ·repeat' first|refine gf (gi ae (gi o8' om)) ?_ [] [8]|refine CO (ah _) ?_|refine callPG (ah _) ?_|refine gf (gi ae (gi o8' om)) ?_ o13 [8]|apply gy<;>intro hh
    refine IU (fun i11 ac=>?_)
    have n11:=B2 o8' ac
    refine gf (gi o8' (gi n11 (gi a1 (gi a2 (gi a3 a4))))) ?_ o13 [8]
    refine finC (U':=O) (d:=.tup [.agg (EX JM),dI 2]) ⟨by rw[hn];rfl,rfl⟩ (hw:=?_) (hZ:=fin1 i11 _ _ ac)
    exact Dd ⟨DV,Ab _,trivial⟩
  rw[if_pos hg]at bz
  simp only[Bool.and_eq_true]at hg
  obtain⟨hO,hF⟩:=hg
  have cC:=(Re (evs:=[]) hO).1 hF
  have ae:(okP p&&Bh (A3 p) objs)=true:=by rw[hO,aQ];rfl
  unfold GB at hF
  simp only[Bool.and_eq_true,decide_eq_true_eq]at hF
  obtain⟨⟨f1,f2,f3,f4⟩,f5,f6⟩:=hF
  rw[Oe]at f2
  obtain⟨k,rfl⟩:∃k:Nat,pos=k:=⟨pos.toNat,by omega⟩
  have ai:k<c.ins.length:=by omega
  rw[Int.toNat_natCast,Of c W ai,Option.getD_some]at f3 f4
  repeat' first|refine gf (gi ae (gi o8' om)) ?_ [] [8]|refine CO (ah _) ?_|refine callPG (ah _) ?_|refine gf (gi ae (gi o8' om)) ?_ o13 [8]|apply gy<;>intro hh
  refine IU (fun i11 ac=>?_)
  have n11:=B2 o8' ac
  refine gf (gi f3 (gi f4 (gi f5 f6))) ?_ (delO 7 o13) [8]
  have o8:=(w7 S0 (.cells [D.int .i64 (getM ⟨0,0⟩ (k:Int) W).st,D.int .i64 (getM ⟨0,0⟩ (k:Int) W).env]) n11).trans o8'
  have hS:Sub O (S0.set i11 (.cells [D.int .i64 (getM ⟨0,0⟩ (k:Int) W).st,D.int .i64 (getM ⟨0,0⟩ (k:Int) W).env])):=fun j o hj=>by
   rw[w7 _ _ (B2 (aX j o hj) ac)];exact aX j o hj
  generalize S0.set i11 (.cells [D.int .i64 (getM ⟨0,0⟩ (k:Int) W).st,D.int .i64 (getM ⟨0,0⟩ (k:Int) W).env])=Sb at*
  refine G3 (id:=7) [0,1,2,3,4,6,7,5,8,9,10,11,12] [5,8,11] (fun _=>none) (fun _ _ h=>by cases h) ?_
  refine gz ?_ o13 [8]
  refine Bc (Je stk .no Sb (by omega)) (fun d S1 hr=>?_) (fun d S1 hr=>by obtain⟨_,h,_⟩:=hr;cases h)
  obtain⟨r0,hd,bb⟩:=hr
  replace bb:FrV Sb r0 stk S1:=bb
  cases hd
  refine⟨(fun _ _ h=>by cases h),?_⟩
  refine Bc (Je env .no S1 (by omega)) (fun d S2 hr=>?_) (fun d S2 hr=>by obtain⟨_,h,_⟩:=hr;cases h)
  obtain⟨r1,hd,aM⟩:=hr
  replace aM:FrV S1 r1 env S2:=aM
  cases hd
  refine⟨(fun _ _ h=>by cases h),?_⟩
  refine moRr (.agg [dI k,r0.d stk.length,r1.d env.length]) ?_ (hd:=by cases r0<;>cases r1<;>simp)
  refine moRr (.agg ([dI 0,dI 0,dI 0,dI 0,.nils,dI 0,dI 0,.nils,.nils,.nils,.nils]++Ae p++[dI k,r0.d stk.length,r1.d env.length])) ?_ (hd:=by cases r0<;>cases r1<;>simp)
  refine moBox (AN p (R01 r0 r1) ⟨[],[],k,stk,env⟩) (fun ir bR=>?_) (hC:=fun _ _ h=>by cases h)
  have am:=RunS.init (p:=p) (pos:=(k:Int)) bb aM bR
  have bW:∀j o,Sb j=some o->(S2.set ir (.cells (AN p (R01 r0 r1) ⟨[],[],k,stk,env⟩))) j=some o/\j≠ir /\ ∀a, ¬(R01 r0 r1 a).is j:=fun j o hj=>by
   have a1:=bb.2.1 j o hj id
   have a2:=aM.2.1 j o a1.1 id
   have ax:=B2 a2.1 bR
   refine⟨by rw[w7 _ _ ax];exact a2.1,ax,fun a ha=>?_⟩
   unfold R01 at ha
   by_cases e1:a=1
   ·subst e1;rw[Aj]at ha;exact a2.2 ha
   ·rw[A8 _ _ e1]at ha
    by_cases e0:a=0
    ·subst e0;rw[Aj]at ha;exact(aM.2.1 j o a1.1 id).2 (absurd ha a1.2)
    ·rw[A8 _ _ e0]at ha;exact ha
  generalize S2.set ir (.cells (AN p (R01 r0 r1) ⟨[],[],k,stk,env⟩))=S3 at*
  refine gz ?_ o13 [8]
  refine A7 (V0 objs o1 S3 b9 bJ) (fun d S4 hr=>?_) (fun d S4 hr=>by obtain⟨_,h,_⟩:=hr;cases h)
  obtain⟨R',hd,hT⟩:=hr
  cases hd
  have o4:=(hT.keep ir _ am.obj).1
  refine gz ?_ o13 [8]
  refine storeRw (r:=R' 3) (k:=9) o4 ?_
  obtain⟨p1,p2⟩:=am.swap (R':=R') (l:=objs) (fun j o h _ _=>h) am.obj hT rfl
  have bG:∀j o,Sb j=some o->(S4.set ir (.cells (AN p (F7 (R01 r0 r1) R') ⟨objs,[],k,stk,env⟩))) j=some o/\j≠ir /\ ∀a, ¬(F7 (R01 r0 r1) R' a).is j:=fun j o hj=>by
   obtain⟨a1,a2,a3⟩:=bW j o hj
   exact⟨(p2 j o a1 a2 a3).1,a2,(p2 j o a1 a2 a3).2⟩
  refine drp (S4.set ir (.cells (AN p (F7 (R01 r0 r1) R') ⟨objs,[],k,stk,env⟩))) ?_ (by exact Sub.refl _)
  generalize S4.set ir (.cells (AN p (F7 (R01 r0 r1) R') ⟨objs,[],k,stk,env⟩))=S5 at p1 bG⊢
  generalize F7 (R01 r0 r1) R'=R5 at p1 bG
  clear p2 bW am bb aM hT o4
  have hW:=TQ aQ
  have bS:∀n:Nat,0<=p.gens.getD n 0:=fun n=>(GA aQ n).1
  refine gz ?_ o13 [8]
  refine G4 [5,8,9,12,13,122,123,124,125] (fun (s:GoS) (R:Nat->RW) (S1:Sig)=>GInv (A3 p) (fun j=>(Eo c W)[j]?) s/\RunS ir p R s S1/\(∀j o,Sb j=some o->S1 j=some o/\j≠ir /\ ∀a, ¬(R a).is j)/\H=some (mRun p (A3 p) c c.ins.length s)/\(s.stk.length:Int)<=900000+s.pos/\(s.env.length:Int)<=900000+s.pos/\(s.evs.length:Int)<=s.pos) (fun _ _ _=>[]) (fun _ _ S1=>S1) (fun s _ _=>c.ins.length-s.pos.toNat) (⟨objs,[],k,stk,env⟩) (R5) (S5) (by exact⟨cC,p1,bG,bz,by simp only;omega,by simp only;omega,by simp only[List.length_nil];omega⟩) (fun s R S1 hI=>?_)
  obtain⟨hG,hR,hK,aP,b1,b2,b3⟩:=hI
  obtain⟨h0,⟨l,hl,b7,cp⟩,bc,br,ay⟩:=id hG
  have bw:=au.dom _ _ hl
  obtain⟨env',next,bl,g1,g2,g3,g4⟩:=au.ok _ _ hl
  have aS:=Kb bS hW au hG
  have aw:=Qu bS hW au hG
  obtain⟨q,hq⟩:∃q:Nat,s.pos=q:=⟨s.pos.toNat,by omega⟩
  have hx:AC c s.pos.toNat=c.ins[s.pos.toNat]:=by unfold AC;rw[List.getElem?_eq_getElem bw];rfl
  rw[hx]at bl aS aw
  have ag:=au.fits _ _ (List.getElem?_eq_getElem bw)
  simp only[hq,Int.toNat_natCast]at bw bl aS aw ag b1 b2 b3
  obtain⟨x,bm⟩:∃x,x=c.ins[q]:=⟨_,rfl⟩
  rw[<-bm]at bl aS aw ag
  obtain⟨u1,u2⟩:=fits_rg ag
  obtain⟨j,hj⟩:∃j:Nat,x.op=j:=⟨x.op.toNat,by omega⟩
  have bE:=actAt (j:=j) (by omega) (by omega)
  have q1:=hR.obj
  refine gf (gi q1 (gi hq bm.symm)) ?_ o13 [8]
  refine IU (fun i14 ar=>?_)
  have n14:=B2 q1 ar
  refine gf (gi q1 (gi hq bm.symm)) ?_ (delO 12 o13) [8]
  have aZ:=hR.newO ar (.cells (cIns x))
  obtain⟨p3,p4⟩:=aZ.at ((q:Int)+1) rfl
  have o14:((S1.set i14 (.cells (cIns x))).set ir (.cells (AN p R { s with pos:=(q:Int)+1 }))) i14=some (.cells (cIns x)):=by rw[w7 _ _ n14.symm,w6]
  refine Hh (Vs (U':=(S1.set i14 (.cells (cIns x))).set ir (.cells (AN p R { s with pos:=(q:Int)+1 }))) (by exact Sub.refl _)) ?_
  have bk:∀j o,Sb j=some o->((S1.set i14 (.cells (cIns x))).set ir (.cells (AN p R { s with pos:=(q:Int)+1 }))) j=some o/\j≠ir /\ ∀a, ¬(R a).is j:=fun j o hj=>by
   obtain⟨a1,a2,a3⟩:=hK j o hj
   exact⟨by rw[w7 _ _ a2,w7 _ _ (B2 a1 ar)];exact a1,a2,a3⟩
  have nr14:∀a, ¬(R a).is i14:=fun a ha=>by
   obtain⟨z,hz⟩:=(hR.rows.ok a).cells ha
   rw[ar]at hz;cases hz
  have n14':i14≠ir:=n14.symm
  generalize (S1.set i14 (.cells (cIns x))).set ir (.cells (AN p R { s with pos:=(q:Int)+1 }))=S6 at p3 o14 bk⊢
  clear p4 aZ q1 n14 ar
  refine G3 (id:=12) [0,1,2,3,4,5,6] [6] (S6.out fun j=>j≠i14) (CW _ _) ?_
  have u14:=E3 (touch:=fun j=>j≠i14) o14 (by simp)
  have bI:=Vq (t:={ s with pos:=(q:Int)+1 }) hp aQ bl ag g3 b7 cp bc ay (by simp only;omega) (by simp only;omega) (by simp only;omega) p3
  refine gf (gi hj (gi bE u14)) ?_ o13 [8]
  rw[hj]at bI
  refine Bc bI (fun d S7 hr=>?_) (fun d S7 hr=>?_)
  rotate_left
  ·obtain⟨_,_,h⟩:=hr
   split at h<;>cases h.1
  obtain⟨R2,bF,h⟩:=hr
  refine⟨fun y o hy=>?_,?_⟩
  ·obtain⟨y1,y2⟩:=E8 hy
   obtain rfl:y=i14:=Classical.byContradiction y2
   exact(bF _ _ y1 n14' nr14).1
  have ba:∀j o,Sb j=some o->S7 j=some o/\j≠ir /\ ∀a, ¬(R2 a).is j:=fun j o hj=>by
   obtain⟨a1,a2,a3⟩:=bk j o hj
   exact⟨(bF j o a1 a2 a3).1,a2,(bF j o a1 a2 a3).2⟩
  cases bu:IX p (A3 p) x { s with pos:=(q:Int)+1 } with
  |inl t'=>
   have ca:=Qt bu
   rw[bu]at h aS aw
   obtain⟨hd,cB⟩:=h
   obtain⟨k1,k2⟩:=aS
   have k3:=k1.lo
   cases hd
   simp only at ca aw
   refine gz ?_ o13 [8]
   exact⟨t',R2,S7,⟨k1,cB,ba,by rw[aP,aw],by omega,by omega,by omega⟩,td1,wkR⟩
  | inr h' =>
   rw[bu]at h aw
   obtain⟨hd,s',av,b,bX⟩:=h
   cases hd
   simp only at aw
   repeat ((fail_if_success (first|(refine haltD bX (fun S8 tl o9 k9=>?_))|fail));(refine goX1 trivial ?_))
   refine haltD bX (fun S8 tl o9 k9=>?_)
   have o8b:S8 i8=_:=k9 i8 _ (ba i8 _ o8).1 (ba i8 _ o8).2.1 (ba i8 _ o8).2.2
   have cz:Sub O S8:=fun j o hj=>by
    obtain⟨a1,a2,a3⟩:=ba j o (hS j o hj)
    exact k9 j o a1 a2 a3
   simp only[EX,List.cons_append,List.nil_append]at o9
   refine gf (gi o9 o8b) ?_ o13 [8]
   refine finC (U':=O) (d:=.tup [.agg (EX h'),dI 0]) ⟨by rw[aP,aw];rfl,rfl⟩ (hw:=?_) (hZ:=fun j o hj=>by rw[w7 _ _ (B2 hj aU)];exact cz j o hj)
   exact Ab _
def exB:BProg:=⟨[⟨[],[0],[⟨0,7⟩]⟩,⟨[3],[1],[]⟩,⟨[4,3],[],[⟨0,1⟩]⟩],2,[1],[⟨1,0,.mk 2 0 [] 3 0 [],0⟩,⟨2,0,.mk 3 0 [0] 0 5 [],3⟩],
 [⟨17,0,[1]⟩,⟨4,0,[2]⟩,⟨3,0,[]⟩,⟨9,0,[4,5]⟩,⟨3,0,[]⟩,⟨3,1,[]⟩,⟨5,0,[7]⟩,⟨6,5,[]⟩],6⟩
def exC:CProg:=⟨[⟨3,0⟩,⟨5,0⟩,⟨7,0⟩,⟨21,0⟩,⟨3,0⟩,⟨14,0⟩,⟨3,1⟩,⟨15,0⟩,⟨21,0⟩,⟨4,5⟩,⟨19,0⟩,⟨21,0⟩],[0,4],9⟩
def exL:List CLev:=[⟨0,1⟩,⟨1,1⟩,⟨1,1⟩,⟨1,1⟩,⟨0,1⟩,⟨1,1⟩,⟨0,2⟩,⟨1,2⟩,⟨1,1⟩,⟨0,0⟩,⟨1,0⟩,⟨1,0⟩]
theorem Km{l m:List Int}(h:∀x,x∈l ↔ x∈m): ∀(a:List Init) (seen:List Int),DM l seen a=DM m seen a
 |[],_=>rfl
 |x::r,seen=>by rw[DM,DM,Km h r,decide_eq_decide.2 (h x.slot)]
def J6(p:BProg):Nat->List BClass->Bool
 |_,[]=>true
 |i,c::r=>decide (linE (p.classes.map (·.parents)) ((i:Int)+3)=0)&&DM (hasG p.classes (((i:Int)+3)-2).toNat [((i:Int)+3)] []) [] c.inits&&J6 p (i+1) r
theorem I6(p:BProg): ∀(l:List BClass) (i:Nat),B4 p i l=J6 p i l
 |[],_=>rfl
 |c::r,i=>by
  rw[B4,J6,I6 p r]
  congr 2
  exact Km (fun x=>by unfold hasP ED;exact List.mem_mergeSort) _ _
theorem V9:B4 exB 0 exB.classes=true:=by rw[I6];decide +kernel
theorem PE:Ap exB=true:=by
 unfold Ap
 have h1:AW 0 exB.classes=some 2:=by decide +kernel
 have h2:B5 (exB.classes.map (·.parents))=true:=by decide +kernel
 have h3:decide (exB.classes.length<=10)=true:=by decide +kernel
 have h4:decide ((2:Int)=exB.slots)=true:=by decide +kernel
 rw[h1,h3]
 simp only[h2,h4,V9,Bool.and_self,Bool.and_true]
theorem V8:okP exB=true:=by
 unfold okP D6
 rw[PE]
 decide +kernel
theorem Vv:ED [1,0]=[0,1]:=by simp[ED,List.mergeSort,List.MergeSort.Internal.splitInTwo,List.merge]
theorem ex_has5:hasP exB 5=[0,1]:=by
 unfold hasP
 rw[show hasG exB.classes ((5:Int)-2).toNat [5] []=[1,0] by decide +kernel,Vv]
theorem ex_has4:hasP exB 4=[0,1]:=by
 unfold hasP
 rw[show hasG exB.classes ((4:Int)-2).toNat [4] []=[1,0] by decide +kernel,Vv]
theorem ex_has3:hasP exB 3=[0]:=by
 unfold hasP
 rw[show hasG exB.classes ((3:Int)-2).toNat [3] []=[0] by decide +kernel]
 simp[ED]
theorem Tj:Ev exB 5=[⟨0,1⟩]:=by unfold Ev;rw[ex_has5];decide +kernel
theorem Tk:Ev exB 4=[⟨0,7⟩]:=by unfold Ev;rw[ex_has4];decide +kernel
theorem Tl:Ev exB 3=[⟨0,7⟩]:=by unfold Ev;rw[ex_has3];decide +kernel
def exW:CWorld:=⟨fun c=>decide (3<=c)&&decide (c<6),fun c=>if c=3 then [0] else if c=4 then [0,1] else if c=5 then [0,1] else hasP exB c,
 fun c=>if c=3 then [vInt 7] else if c=4 then [vInt 7,EB] else if c=5 then [vInt 1,EB] else(hasP exB c).map (frV (Ev exB c))⟩
theorem Lv:A3 exB=exW:=by
 unfold A3 exW
 rw[V8]
 congr 1
 ·funext c
  unfold ownF
  simp[exB]
 ·funext c
  split
  ·rename_i e;subst e;exact ex_has3
  split
  ·rename_i e;subst e;exact ex_has4
  split
  ·rename_i e;subst e;exact ex_has5
  rfl
 ·funext c
  split
  ·rename_i e;subst e;rw[ex_has3,Tl];rfl
  split
  ·rename_i e;subst e;rw[ex_has4,Tk];rfl
  split
  ·rename_i e;subst e;rw[ex_has5,Tj];rfl
  rfl
theorem ex_code:G6 exB=exC:=by unfold G6;rw[if_pos V8];kernel_rfl
theorem He:DJ exB exC=some exL:=by
 unfold DJ
 rw[V8]
 kernel_rfl
theorem Ti:(C0 exB exC).map (Eo exC)=some exL:=by rw[<-EH,He]
def exH1:GoH:=⟨2,vZ,0,[vObj 0],0,11,[],[],[⟨5,[vInt 1,EB]⟩],[]⟩
def exH2:GoH:=⟨1,vInt 1,0,[],0,0,[],[],[⟨5,[vInt 1,EB]⟩],[⟨2,0,[vInt 1]⟩]⟩
def exH3:GoH:=⟨4,vZ,0,[],5,0,[],[],[],[]⟩
theorem ex_go1:goC exB (A3 exB) exC [] 9 [] []=some exH1:=by
 unfold goC
 rw[He,Lv]
 kernel_rfl
theorem ex_go2:goC exB (A3 exB) exC [⟨5,[vInt 1,EB]⟩] 0 [] [vObj 0]=some exH2:=by
 unfold goC
 rw[He,Lv]
 kernel_rfl
theorem ex_go3:goC exB (A3 exB) exC [] 0 [] [vInt 3]=some exH3:=by
 unfold goC
 rw[He,Lv]
 kernel_rfl
theorem V7:Ek exC=true:=by decide +kernel
theorem Th:LP exC=[48,32,52,32,58,32,57,10,110,97,109,101,32,48,10,115,108,111,116,32,48,10,111,117,116,10,101,110,100,10,110,97,109,101,32,48,10,108,101,116,10,110,97,109,101,32,49,10,100,114,111,112,10,101,110,100,10,110,101,119,32,53,10,99,97,108,108,32,48,10,101,110,100,10]:=by decide +kernel
theorem VF:exL.length=12:=rfl
theorem OB:(JB exC).length=25:=by decide +kernel
theorem Ox(n:Int)(O:Sig):DCall prog 19 [dI n] O (rS (.agg (cVal (vInt n))) O):=by
 refine en func19 ntmps19 ?_
 refine gz ?_ [] [2]
 refine newV (fun i hi=>?_)
 refine gz ?_ [] [2]
 exact finC (U':=O) ⟨rfl,rfl⟩
@[reducible,instance] def a19:=fun n O=>ah0 (@Ox n O)
theorem UY(a b:List MVal)(o o':Own)(O:Sig)(h1:a.length<=1073741824:=by exact sd)(h2:b.length<=1073741824:=by exact sd):DCall prog 53 [.slice (a.map cVal) o,.slice (b.map cVal) o'] O (rS (.bool (decide (a=b))) O):=by
 refine en func53 ntmps53 ?_
 by_cases hc:a.length=b.length
 ·refine gf hc ?_ o53
  refine BV [0,1] (fun (k:Nat)=>k<=a.length /\ ∀j (h1:j<a.length) (h2:j<b.length),j<k->a[j]=b[j]) (fun k=>[(5,dI k)]) (fun _=>O) (fun k=>a.length-k) (0) (by exact⟨by omega,fun j _ _ h=>by omega⟩) (fun k hI=>?_)
  obtain⟨hk,hE⟩:=hI
  by_cases ai:k<a.length
  ·have cP:k<b.length:=by omega
   refine gf hc ?_ o53
   refine Li (r:=decide (a[k]=b[k])) (xs:=cVal a[k]) (ys:=cVal b[k]) Af OC rfl rfl rfl rfl Og (Va _ _) ?_
   by_cases hx:a[k]=b[k]
   ·refine gf hx ?_ o53
    exact⟨k+1,⟨by omega,fun j h1 h2 h3=>by by_cases e:j=k;(subst e;exact hx);exact hE j h1 h2 (by omega)⟩,td1,wkR⟩
   ·have hne:¬a=b:=fun e=>hx (by simp[e])
    refine gf hx ?_ o53
    exact fe1 hne
  ·have cq:a=b:=List.ext_getElem hc fun j h1 h2=>hE j h1 h2 (by omega)
   refine gz ?_ o53
   exact fin1 (U':=O) ⟨by rw[decide_eq_true cq],rfl⟩
 ·have hne:¬a=b:=fun e=>hc (by rw[e])
  refine gz ?_ o53
  exact fe1 hne
end Go.DL
set_option linter.unusedVariables false
namespace Go.Proofs
open Go.Proofs.Tryz
open Go.RowKit Go.Shelf
theorem sizeB:(prog.info? 159).map (·.size)=some 2:=by kernel_rfl
set_option maxHeartbeats 1000000 in
set_option maxRecDepth 100000 in
theorem JR(b:Nat)(w:World)(h0:w.cell? ⟨b,0,none⟩=some (.pointer (some ⟨b,0,none⟩))):
  Calls prog 161 #[.pointer (some ⟨b,0,none⟩)] w fun e w'=>e=.returned (.tuple #[])/\w'=w:=by
 obtain⟨j,hj,_⟩:=Option.map_eq_some_iff.1 sizeB
 have mixed:prog.follows .mixedOrders=true:=by kernel_rfl
 have t72:=underlying159;have a72:=isAgg159;have z72:=sizeOf159;have v72:=zeroValue159;have u72:=run_underlying underlying159
 have t70:=underlying157;have a70:=isAgg157;have z70:=sizeOf157;have v70:=zeroValue157;have u70:=run_underlying underlying157
 have t4:=underlying4;have a4:=isAgg4;have z4:=sizeOf4;have v4:=zeroValue4;have u4:=run_underlying underlying4
 go_enter func161,ntmps161
 go_wp2
 rw[Lib.run_neq_ptr_same w _ underlying157 hj]
 go_wp2
 go_end0
 exact⟨rfl,rfl⟩
set_option maxHeartbeats 1000000 in
set_option maxRecDepth 100000 in
theorem Ju(b:Nat)(w:World)(h0:w.cell? ⟨b,0,none⟩=some (.pointer none))(bK:w.shape? b=some (159,2))(cV:w.frozen? ⟨b,0,none⟩=false):
  Calls prog 161 #[.pointer (some ⟨b,0,none⟩)] w fun e w'=>e=.returned (.tuple #[])/\w'=w.setCell ⟨b,0,none⟩ (.pointer (some ⟨b,0,none⟩)):=by
 obtain⟨j,hj,cg⟩:=Option.map_eq_some_iff.1 sizeB
 have mixed:prog.follows .mixedOrders=true:=by kernel_rfl
 have t72:=underlying159;have a72:=isAgg159;have z72:=sizeOf159;have v72:=zeroValue159;have u72:=run_underlying underlying159
 have t70:=underlying157;have a70:=isAgg157;have z70:=sizeOf157;have v70:=zeroValue157;have u70:=run_underlying underlying157
 have t4:=underlying4;have a4:=isAgg4;have z4:=sizeOf4;have v4:=zeroValue4;have u4:=run_underlying underlying4
 have t301:=underlying301;have a301:=isAgg301;have z301:=sizeOf301;have v301:=zeroValue301;have u301:=run_underlying underlying301
 have aR:liesAt prog prog.depth 159 (2 / prog.cellsOf 159) 0 159 1=true:=by kernel_rfl
 go_enter func161,ntmps161
 go_wp2
 rw[Lib.run_to_unsafe w ⟨b,0,none⟩ underlying157 underlying301 hj (by rw[cg];decide) bK (Nat.zero_lt_succ 1)]
 simp only[Result.andThen]
 rw[Oper.upon_value]
 go_wp2
 rw[run_callFunc_extern func232 (by kernel_rfl) (by kernel_rfl) (by kernel_rfl) (e:=Extern.AbiNoEscape.same) (by kernel_rfl)]
 rw[Lib.run_noEscape]
 simp only[Result.andThen]
 rw[Oper.upon_value]
 go_wp2
 rw[Lib.run_from_unsafe w ⟨b,0,none⟩ underlying301 underlying157 hj bK aR]
 simp only[Result.andThen]
 rw[Oper.upon_value]
 go_wp2
 go_end0
 exact⟨rfl,rfl⟩
set_option maxHeartbeats 1000000 in
set_option maxRecDepth 100000 in
theorem JS(b g cap:Nat)(p:Value)(ty:TypeId)(l:List UInt8)(cur:Array Value)(w:World)(h0:l≠[])(cy:w.heap[b]? = some (.cells #[p,.slice (some ⟨g,0,none⟩) l.length cap] ty (0,0)))(hg:w.heap[g]? = some (.cells cur 5 (0,0)))(cK:l.length<=cap)(cr:l.length<=cur.size)(cF:l.length<=9223372036854775807)(bB:∀j x,l[j]? = some x->w.cell? ⟨g,j,none⟩=some (.int .u8 x.toNat)):
  Calls prog 86 #[.pointer (some ⟨b,0,none⟩)] w fun e w'=>e=.returned (.string ⟨l.toArray⟩)/\w'=w.drew.freeze ⟨g,0,none⟩ l.length:=by
 have cd:l.length≠0:=by simpa using h0
 have c1:w.drew.cell? ⟨b,1,none⟩=some (.slice (some ⟨g,0,none⟩) l.length cap):=by
  have:w.drew.heap[b]? = some (.cells #[p,.slice (some ⟨g,0,none⟩) l.length cap] ty (0,0)):=cy
  rw[Lib.cell_of_heap this];rfl
 have da:(Builtin.unsafeSliceData_ #[96] 246 #[.slice (some ⟨g,0,none⟩) l.length cap]).run prog w.drew=.ok (.pointer (some ⟨g,0,none⟩)) w.drew:=
  Lib.run_unsafeSliceData_row _ _ _ _ _ _ (by omega)
 have c9:(Builtin.unsafeString_ #[246,3] 9 #[.pointer (some ⟨g,0,none⟩),.int .i64 l.length]).run prog w.drew=.ok (.string ⟨l.toArray⟩) (w.drew.freeze ⟨g,0,none⟩ l.length):=by
  refine Lib.run_unsafeString_row w.drew 246 3 9 5 underlying246 (by kernel_rfl) g cur.size (by have ck:w.drew.heap[g]? = some (.cells cur 5 (0,0)):=hg;simp[World.shape?, ck]) l h0 cr cF ?_
  intro j x hj
  have e:((⟨g,0,none⟩:Addr).add j)=⟨g,j,none⟩:=by unfold Addr.add;split<;>simp_all
  rw[e];exact bB j x hj
 have mixed:prog.follows .mixedOrders=true:=by kernel_rfl
 have t72:=underlying159;have a72:=isAgg159;have z72:=sizeOf159;have v72:=zeroValue159;have u72:=run_underlying underlying159
 have t70:=underlying157;have a70:=isAgg157;have z70:=sizeOf157;have v70:=zeroValue157;have u70:=run_underlying underlying157
 have t37:=underlying96;have a37:=isAgg96;have z37:=sizeOf96;have v37:=zeroValue96;have u37:=run_underlying underlying96
 have t127:=underlying246;have a127:=isAgg246;have z127:=sizeOf246;have v127:=zeroValue246;have u127:=run_underlying underlying246
 have t3:=underlying3;have a3:=isAgg3;have z3:=sizeOf3;have v3:=zeroValue3;have u3:=run_underlying underlying3
 have t9:=underlying9;have a9:=isAgg9;have z9:=sizeOf9;have v9:=zeroValue9;have u9:=run_underlying underlying9
 have t5:=underlying5;have a5:=isAgg5;have z5:=sizeOf5;have v5:=zeroValue5;have u5:=run_underlying underlying5
 go_enter func86,ntmps86
 go_wp2
 go_region_o
 all_goals (go_wp2;go_ret;exact⟨rfl,rfl⟩)
end Go.Proofs
namespace Go.Proofs
open Go.Proofs.Tryz
open Go.Shelf
def laysM171_ren:Go.Shelf.Ren:=⟨fun|171=>84|243=>162|246=>233|283=>272|284=>273|285=>274|286=>275|129=>316|317=>315|318=>317|319=>318|320=>319|337=>356|338=>357|n=>n,fun|3=>3|9=>9|2=>2|4=>4|171=>337|0=>0|53=>338|37=>96|5=>5|173=>341|212=>389|51=>373|20=>20|213=>390|46=>320|232=>452|233=>453|n=>n,fun|17=>1|18=>6|19=>7|n=>n⟩
theorem laysM171:Go.Proofs.LaysM.n171 prog laysM171_ren:={
 mixed:=by kernel_rfl
 f129:=func316.trans (congrArg some (by kernel_rfl))
 f171:=func84.trans (congrArg some (by kernel_rfl))
 f243:=func162.trans (congrArg some (by kernel_rfl))
 f246:=func233.trans (congrArg some (by kernel_rfl))
 f283:=func272.trans (congrArg some (by kernel_rfl))
 f284:=func273.trans (congrArg some (by kernel_rfl))
 f285:=func274.trans (congrArg some (by kernel_rfl))
 f286:=func275.trans (congrArg some (by kernel_rfl))
 f317:=func315.trans (congrArg some (by kernel_rfl))
 f318:=func317.trans (congrArg some (by kernel_rfl))
 f319:=func318.trans (congrArg some (by kernel_rfl))
 f320:=func319.trans (congrArg some (by kernel_rfl))
 f337:=func356.trans (congrArg some (by kernel_rfl))
 f338:=func357.trans (congrArg some (by kernel_rfl))
 t0:=underlying0
 a0:=isAgg0
 z0:=sizeOf0
 v0:=zeroValue0
 t2:=underlying2
 a2:=isAgg2
 z2:=sizeOf2
 v2:=zeroValue2
 t3:=underlying3
 a3:=isAgg3
 z3:=sizeOf3
 v3:=zeroValue3
 t4:=underlying4
 a4:=isAgg4
 z4:=sizeOf4
 v4:=zeroValue4
 t5:=underlying5
 a5:=isAgg5
 z5:=sizeOf5
 v5:=zeroValue5
 t9:=underlying9
 a9:=isAgg9
 z9:=sizeOf9
 v9:=zeroValue9
 t20:=underlying20
 a20:=isAgg20
 z20:=sizeOf20
 v20:=zeroValue20
 t37:=underlying96
 a37:=isAgg96
 z37:=sizeOf96
 v37:=zeroValue96
 t46:=underlying320
 a46:=isAgg320
 z46:=sizeOf320
 v46:=zeroValue320
 t51:=underlying373
 a51:=isAgg373
 z51:=sizeOf373
 v51:=zeroValue373
 t53:=underlying338
 a53:=isAgg338
 z53:=sizeOf338
 v53:=zeroValue338
 t171:=underlying337
 a171:=isAgg337
 z171:=sizeOf337
 v171:=zeroValue337
 t173:=underlying341
 a173:=isAgg341
 z173:=sizeOf341
 v173:=zeroValue341
 t212:=underlying389
 a212:=isAgg389
 z212:=sizeOf389
 v212:=zeroValue389
 t213:=underlying390
 a213:=isAgg390
 z213:=sizeOf390
 t232:=underlying452
 a232:=isAgg452
 z232:=sizeOf452
 v232:=zeroValue452
 t233:=underlying453
 a233:=isAgg453
 z233:=sizeOf453
 v233:=zeroValue453
 g17:=by kernel_rfl
 g18:=by kernel_rfl
 g19:=by kernel_rfl
 i0:=by kernel_rfl
 i2:=by kernel_rfl
 i3:=by kernel_rfl
 i4:=by kernel_rfl
 i5:=by kernel_rfl
 i9:=by kernel_rfl
 i20:=by kernel_rfl
 i37:=by kernel_rfl
 i46:=by kernel_rfl
 i51:=by kernel_rfl
 i53:=by kernel_rfl
 i171:=by kernel_rfl
 i173:=by kernel_rfl
 i212:=by kernel_rfl
 i232:=by kernel_rfl
 i233:=by kernel_rfl
 m17:=by kernel_rfl
 m18:=by kernel_rfl
 m19:=by kernel_rfl }
open Go.RowKit Go.Sort Go.Lib in
theorem strconv_Itoa (n : Int) (h0 : -9223372036854775808 <= n) (h1 : n <= 9223372036854775807) (w : World) (aD : Lib.TabIs prog w "internal/strconv.uint64pow10" .u64 Lib.pow10Tab) :
  Calls prog 84 #[.int .i64 n] w fun e w'=>e=.returned (.string ⟨(Lib.itoa n).toArray⟩) /\ ∃k os,w'=grow (w.drewN k) os:=Any.strconv_Itoa laysM171 n h0 h1 w aD
end Go.Proofs
namespace Go.DL
open Go.Proofs.Tryz
open Go Go.Proofs
set_option maxHeartbeats 8000000
theorem nn2{O:Sig}{a b:Nat}{o:DObj}(h:O a=some o)(k:O b=none):a≠b:=fun e=>by rw[e,k]at h;cases h
theorem Ny:prog.globals.size≠0:=by
 have h:prog.globals.size=8:=by kernel_rfl
 omega
theorem Lr(n:Int)(O:Sig)(h0 : -9223372036854775808<=n)(h1:n<=9223372036854775807):Ex prog 84 [dI n] O (rS (.str (Lib.itoa n)) O):=by
 refine⟨by rw[Ai];decide,BP func84 (by rfl) (by rfl),fun g w vs r hr hs ha=>?_⟩
 obtain rfl:r=_:=hr
 obtain⟨v,r,rfl,hv,rfl⟩:=ha
 obtain rfl:v=.int .i64 n:=hv
 have aD : Lib.TabIs prog w "internal/strconv.uint64pow10" .u64 Lib.pow10Tab := by
  rcases hs.tab w hs.keep with h|⟨h,_⟩
  ·exact absurd h Ny
  ·exact h
 refine(Du (strconv_Itoa n h0 h1 w aD)).mono ?_
 rintro e w' ⟨rfl,k,os,rfl⟩
 refine⟨g,.ret (.str (Lib.itoa n)),O,.refl g,?_,⟨_,rfl,rfl⟩,rfl,rfl⟩
 refine hs.later (fun k x hx=>?_) rfl
 have hk:k<w.heap.size:=(Array.getElem?_eq_some_iff.1 hx).1
 show(w.heap++os)[k]? = some x
 rw[Array.getElem?_append_left hk];exact hx
theorem Nj{w:Go.World}{b:Nat}{vs:Array Value}{ty:TypeId}{x:Value}(h:w.heap[b]? = some (.cells vs ty (0,0))):w.setCell ⟨b,0,none⟩ x=setB w b (.cells (vs.setIfInBounds 0 x) ty (0,0)):=by
 have e:w.heap.setIfInBounds b (.cells (vs.setIfInBounds 0 x) ty (0,0))=(w.setCell ⟨b,0,none⟩ x).heap:=by
  unfold World.setCell
  apply Array.ext_getElem?
  intro k
  by_cases hk:b=k
  ·subst hk
   have hb:b<w.heap.size:=(Array.getElem?_eq_some_iff.1 h).1
   rw[Array.getElem?_setIfInBounds_self_of_lt hb,Array.getElem?_modify,if_pos rfl,h];rfl
  ·simp[Array.getElem?_modify,hk]
 unfold setB
 rw[e];rfl
theorem PB(ib:Nat)(v:D)(O:Sig)(h:O ib=some (.tcells 159 [.nilp,v])):Ex prog 161 [.ptr ib 0] O fun x U'=>x=.ret (.tup [])/\U'=O.set ib (.cells [.ptr ib 0,v]):=by
 refine⟨by rw[Ai];decide,BP func161 (by rfl) (by rfl),fun g w vs r hr hs ha=>?_⟩
 obtain rfl:r=_:=hr
 obtain⟨pv,r,rfl,⟨b,hb,rfl⟩,rfl⟩:=ha
 obtain⟨b',vs,aA,aa,ap⟩:=hs.obj ib _ h
 obtain rfl:b'=b:=by rw[hb]at aA;cases aA;rfl
 obtain⟨v0,r0,aN,h0,v1,r1,rfl,h1,rfl⟩:=ap
 obtain rfl:v0=.pointer none:=h0
 obtain rfl:vs=#[.pointer none,v1]:=by apply Array.ext';simpa using aN
 refine(Du (Ju b' w (by simp[World.cell?, aa]) (by simp[World.shape?, aa]) (by simp[World.frozen?, aa]))).mono ?_
 rintro e w' ⟨rfl,rfl⟩
 refine⟨g,.ret (.tup []),_,.refl g,?_,⟨_,rfl,[],rfl,rfl⟩,rfl,rfl⟩
 rw[Nj aa]
 refine hs.setAny h rfl rfl hb aa ⟨b',_,159,hb,EF aa,?_⟩
 exact⟨_,_,rfl,⟨b',hb,rfl⟩,_,_,rfl,h1,rfl⟩
theorem PA(ib:Nat)(v:D)(O:Sig)(h:O ib=some (.cells [.ptr ib 0,v])):Ex prog 161 [.ptr ib 0] O (rS (.tup []) O):=by
 refine⟨by rw[Ai];decide,BP func161 (by rfl) (by rfl),fun g w vs r hr hs ha=>?_⟩
 obtain rfl:r=_:=hr
 obtain⟨pv,r,rfl,⟨b,hb,rfl⟩,rfl⟩:=ha
 obtain⟨b',vs,ty,aA,aa,ap⟩:=hs.obj ib _ h
 obtain rfl:b'=b:=by rw[hb]at aA;cases aA;rfl
 obtain⟨v0,r0,aN,⟨b2,bV,rfl⟩,v1,r1,rfl,h1,rfl⟩:=ap
 obtain rfl:b2=b':=by rw[hb]at bV;cases bV;rfl
 obtain rfl:vs=#[.pointer (some ⟨b2,0,none⟩),v1]:=by apply Array.ext';simpa using aN
 refine(Du (JR b2 w (by simp[World.cell?, aa]))).mono ?_
 rintro e w' ⟨rfl,rfl⟩
 exact⟨g,.ret (.tup []),_,.refl g,hs,⟨_,rfl,[],rfl,rfl⟩,rfl,rfl⟩
def BldS(ib:Nat)(S0:Sig)(bs:List UInt8)(O:Sig):Prop:=
 Sub S0 O/\S0 ib=none/\((bs=[]/\O ib=some (.tcells 159 [.nilp,.nils])) \/ ∃r:BR,O ib=some (.cells [.ptr ib 0,r.d bs.length])/\BRAt 5 O r bs /\ ¬r.is ib /\ ∀j,r.is j->S0 j=none)
theorem BRAt.set{e:Nat}{O:Sig}{r:BR}{bs:List UInt8}(h:BRAt e O r bs){i:Nat}{o:DObj}(hi:¬r.is i):BRAt e (O.set i o) r bs:=by
 rcases r with _|⟨k,c,cs⟩
 ·exact h
 ·exact⟨by rw[w7 _ _ fun e=>hi e.symm];exact h.1,h.2⟩
theorem bapp{ro:Ro}{n:Nat}{ops:Array Oper}{Q:DX->St->Prop}{df:List DDf}{rest:List Oper}{γ Sr:Fr}{O:Sig}{t:Nat}{ty:TypeId}{pos:String}{after:Array Edge}{s x:Operand}{bs str:List UInt8}{r:BR}
  (h:∀r' U',BRAt 5 U' r' (bs++str)->(∀j o,O j=some o->¬r.is j->U' j=some o /\ ¬r'.is j)->DOps prog ro n ops Q rest ⟨(t,r'.d (bs++str).length)::γ,U',df⟩) (hm:BRAt 5 O r bs) (hb:bs.length+str.length<=140737488355328)
  (hl:A2 γ (A9 [s,x])=some Sr:=by exact tdR) (h1:ev Sr s=r.d bs.length:=by exact tdR) (h2:ev Sr x=.str str:=by exact tdR) (aO:decide (t<n)=true:=by exact tdR) :
  DOps prog ro n ops Q (⟨some t,.call { callee:=.builtin .append,args:= #[s,x],argTypes:= #[96,9] },ty,pos,after,none⟩::rest) ⟨γ,O,df⟩:=by
 obtain⟨e1,e2⟩:=evs hl
 exact Tt Af (by simpa using aO) (by simp<;>rfl) (by simp<;>rfl) (by simp) (by simp) (by simp) (by rw[<-e1];exact h1) hm (by rw[<-e2];exact h2) hb h
theorem ER(ib:Nat)(S0:Sig)(bs s:List UInt8)(O:Sig)(hB:BldS ib S0 bs O)(hb:bs.length+s.length<=1000000000):Ex prog 83 [.ptr ib 0,.str s] O fun x U'=>x=.ret (.tup [dI s.length,.niliface])/\BldS ib S0 (bs++s) U':=by
 obtain⟨hS,h0,hB⟩:=hB
 refine enW func83 ntmps83 ?_
 rcases hB with⟨rfl,h1⟩|⟨r,h1,h2,h3,h4⟩
 ·refine gz ?_
  refine E7 (PB ib _ O h1) (fun d S1 hr=>?_) (fun d S1 hr=>by cases hr.1)
  obtain⟨hd,rfl⟩:=hr
  cases hd
  have u1:(O.set ib (.cells [.ptr ib 0,.nils])) ib=some (.cells [.ptr ib 0,.nils]):=w6 ..
  refine gf u1 ?_
  refine bapp (bs:=[]) (str:=s) (r:=none) (fun r' S2 k1 k2=>?_) rfl (by simp at hb⊢; omega)
  obtain⟨u2,u3⟩:=k2 _ _ u1 id
  have ak:BldS ib S0 ([]++s) (S2.set ib (.cells [.ptr ib 0,r'.d ([]++s).length])):=by
   refine⟨fun j o hj=>?_,h0,.inr ⟨r',w6 ..,?_,u3,fun j hj=>?_⟩⟩
   ·have ax:j≠ib:=nn2 hj h0
    rw[w7 _ _ ax]
    exact(k2 j o (by rw[w7 _ _ ax];exact hS j o hj) id).1
   ·exact k1.set u3
   ·cases aL:S0 j with
    |none=>rfl
    |some o=>exact absurd hj (k2 j o (by rw[w7 _ _ (nn2 aL h0)];exact hS j o aL) id).2
  rcases r' with _|⟨i,c,cs⟩<;>simp only[BR.d]at ak⊢
  ·refine gf u2 ?_
   exact UL (U':=_) ⟨rfl,ak⟩
  ·refine gf u2 ?_
   exact UL (U':=_) ⟨rfl,ak⟩
 ·refine gz ?_
  refine E7 (PA ib _ O h1) (fun d S1 hr=>?_) (fun d S1 hr=>by cases hr.1)
  obtain⟨hd,rfl⟩:=hr
  cases hd
  refine gf h1 ?_
  refine bapp (bs:=bs) (str:=s) (r:=r) (fun r' S2 k1 k2=>?_) h2 (by omega)
  obtain⟨u2,u3⟩:=k2 _ _ h1 h3
  have ak:BldS ib S0 (bs++s) (S2.set ib (.cells [.ptr ib 0,r'.d (bs++s).length])):=by
   refine⟨fun j o hj=>?_,h0,.inr ⟨r',w6 ..,?_,u3,fun j hj=>?_⟩⟩
   ·have ax:j≠ib:=nn2 hj h0
    rw[w7 _ _ ax]
    exact(k2 j o (hS j o hj) fun h=>by rw[h4 j h]at hj;cases hj).1
   ·exact k1.set u3
   ·cases aL:S0 j with
    |none=>rfl
    |some o=>exact absurd hj (k2 j o (hS j o aL) fun h=>by rw[h4 j h]at aL;cases aL).2
  rcases r' with _|⟨i,c,cs⟩<;>simp only[BR.d]at ak⊢
  ·refine gf u2 ?_
   exact UL (U':=_) ⟨rfl,ak⟩
  ·refine gf u2 ?_
   exact UL (U':=_) ⟨rfl,ak⟩
theorem Pm{w:Go.World}{b n:Nat}{vs:Array Value}{ty:TypeId}(h:w.heap[b]? = some (.cells vs ty (0,0)))(hn:n≠0):w.freeze ⟨b,0,none⟩ n=setB w b (.cells vs ty (0,0+n)):=by
 have e:w.heap.setIfInBounds b (.cells vs ty (0,0+n))=(w.freeze ⟨b,0,none⟩ n).heap:=by
  unfold World.freeze
  rw[if_neg hn]
  apply Array.ext_getElem?
  intro k
  by_cases hk:b=k
  ·subst hk
   have hb:b<w.heap.size:=(Array.getElem?_eq_some_iff.1 h).1
   rw[Array.getElem?_setIfInBounds_self_of_lt hb,Array.getElem?_modify,if_pos rfl,h];rfl
  ·simp[Array.getElem?_modify,hk]
 unfold setB
 rw[e]
 unfold World.freeze
 rw[if_neg hn]
theorem UO(ib:Nat)(S0:Sig)(bs:List UInt8)(O:Sig)(hB:BldS ib S0 bs O)(hne:bs≠[])(hb:bs.length<=1000000000):Ex prog 86 [.ptr ib 0] O (rS (.str bs) S0):=by
 obtain⟨hS,h0,hB⟩:=hB
 rcases hB with⟨rfl,_⟩|⟨r,h1,h2,h3,h4⟩
 ·exact absurd rfl hne
 rcases r with _|⟨i,c,cs⟩
 ·exact absurd h2 hne
 obtain⟨h5,h6⟩:=h2
 refine⟨by rw[Ai];decide,BP func86 (by rfl) (by rfl),fun g w vs r hr hs ha=>?_⟩
 obtain rfl:r=_:=hr
 obtain⟨pv,r,rfl,⟨b,b8,rfl⟩,rfl⟩:=ha
 obtain⟨b',vs,ty,aA,aa,ap⟩:=hs.obj ib _ h1
 obtain rfl:b'=b:=by rw[b8]at aA;cases aA;rfl
 obtain⟨v0,r0,aN,_,v1,r1,rfl,⟨bg,bU,rfl⟩,rfl⟩:=ap
 obtain rfl:vs=#[v0,.slice (some ⟨bg,0,none⟩) bs.length c]:=by apply Array.ext';simpa using aN
 obtain⟨bg',vg,aW,bh,bT⟩:=hs.obj i _ h5
 obtain rfl:bg'=bg:=by rw[bU]at aW;cases aW;rfl
 have cb:=RepL.length bT
 simp only[Array.length_toList,List.length_append,List.length_map]at cb
 refine(Du (JS b' bg' c v0 ty bs vg w hne aa bh (by omega) (by omega) (by omega) fun j x hj=>?_)).mono ?_
 ·have hg:=RepL.get bT j
  have ci:=(List.getElem?_eq_some_iff.1 hj).1
  rw[List.getElem?_append_left (by simpa using ci),List.getElem?_map,hj]at hg
  simp only[Option.map_some,Array.getElem?_toList]at hg
  have bQ:j<vg.size:=by omega
  rw[Array.getElem?_eq_getElem bQ]at hg
  simp only[World.cell?, bh]
  rw[Array.getElem?_eq_getElem bQ]
  exact congrArg some hg
 ·rintro e w' ⟨rfl,rfl⟩
  have hl:bs.length≠0:=by simpa using hne
  refine⟨g,.ret (.str bs),S0,.refl g,?_,⟨_,rfl,rfl⟩,rfl,rfl⟩
  rw[Pm (w:=w.drew) bh hl]
  refine(hs.drew.kill h5 rfl bU (x:=.cells vg 5 (0,0)) bh).sub fun j o hj=>?_
  have ax:j≠i:=fun e=>by rw[e,h4 i rfl]at hj;cases hj
  simp only[Sig.del,ax,if_false]
  exact hS j o hj
theorem newT{ro:Ro}{n:Nat}{ops:Array Oper}{Q:DX->St->Prop}{df:List DDf}{rest:List Oper}{γ:Fr}{O:Sig}{t T:Nat}{ty:TypeId}{pos:String}{after:Array Edge}(h:∀i,O i=none->DOps prog ro n ops Q rest ⟨(t,.ptr i 0)::γ,O.set i (.tcells T (tab T).zero),df⟩)(hk:A1 (tab T).k=false:=by simp)(aO:decide (t<n)=true:=by exact tdR):
  DOps prog ro n ops Q (⟨some t,.alloc T,ty,pos,after,none⟩::rest) ⟨γ,O,df⟩:=NL Af hk (by simpa using aO) h
@[simp] theorem cIns_tk(x:CIns):List.take 2 (cIns x)=cIns x:=rfl
@[simp] theorem cIns_mem(x:CIns)(d:D):(d∈cIns x)=(d=dI x.op\/d=dI x.a):=by simp[cIns]
theorem V4(c:CProg)(O:Sig)(h1:c.ins.length<=1073741824)(h2:c.starts.length<=1073741824):Ex prog 40 [.agg (cCPg c)] O (rS (if Ek c then .tup [.str (LP c),dI 0] else .tup [.str [],dI 2]) O):=by
 have aV:∀l:List Int,l.all farN=true->∀n∈l,0<=n/\n<=1000000000:=fun l h n hn=>by have:=List.all_eq_true.1 h n hn;unfold farN at this;simpa using this
 refine enW func40 ntmps40 ?_
 repeat' first|refine gz ?_ o40|apply gy<;>intro hh
 ·refine fin2 (U':=O) ⟨by rw[hh];rfl,rfl⟩
 ·have hp:=hh
  unfold Ek at hp
  simp only[Bool.and_eq_true,decide_eq_true_eq]at hp
  obtain⟨c1,c2,c3,c4,c5⟩:=hp
  have hT:=TY hh
  have hm:0<=c.main/\c.main<=1000000000:=by unfold farN at c3;simpa using c3
  have bp:LP c=Pg c++10::listB (fun l=>l++[10]) (c.ins.map G5):=by unfold LP;rw[listB,List.append_assoc];rfl
  have cd:(Pg c).length=(listB (fun n=>Lib.itoa n++[32]) c.starts).length+2+(Lib.itoa c.main).length:=by unfold Pg;simp;omega
  have b6:=congrArg List.length bp
  rw[List.length_append,List.length_cons]at b6
  refine newT (fun ib aT=>?_)
  have bZ:BldS ib O [] (O.set ib (.tcells 159 (tab 159).zero)):=⟨(Sub.refl _).set aT,aT,.inl ⟨rfl,w6 ..⟩⟩
  generalize O.set ib (.tcells 159 (tab 159).zero)=S1 at bZ
  refine gz ?_ o40
  refine G4 [1,2,3,4,8,13,14,24,25,26,27,28,29,30,31,32,33,34,35,36,37,38,39,40,41,42,43,44,45,46,47,48,49,50,51,52,53,54] (fun (k:Nat) (bs:List UInt8) (S2:Sig)=>k<=c.starts.length/\BldS ib O bs S2/\bs++listB (fun n=>Lib.itoa n++[32]) (c.starts.drop k)=listB (fun n=>Lib.itoa n++[32]) c.starts) (fun k _ _=>[(15,dI k)]) (fun _ _ S2=>S2) (fun k _ _=>c.starts.length-k) (0) ([]) (S1) (by exact⟨by omega,bZ,rfl⟩) (fun k bs S2 hI=>?_)
  obtain⟨hk,hB,hE⟩:=hI
  have bC:=congrArg List.length hE
  rw[List.length_append]at bC
  by_cases ai:k<c.starts.length
  ·rw[A4 ai,listB]at hE
   obtain⟨n1,n2⟩:=aV _ c4 _ (List.getElem_mem ai)
   have cR:=R8 (n:=c.starts[k]) ⟨by omega,by omega⟩
   refine gz ?_ o40
   refine E7 (Lr c.starts[k] S2 (by omega) (by omega)) (fun d S3 hr=>?_) (fun d S3 hr=>by cases hr.1)
   obtain⟨hd,rfl⟩:=hr
   cases hd
   refine gz ?_ o40
   refine E7 (ER ib O bs (Lib.itoa c.starts[k]++[32]) _ hB (by simp;omega)) (fun d S3 hr=>?_) (fun d S3 hr=>by cases hr.1)
   obtain⟨hd,aB⟩:=hr
   cases hd
   refine gz ?_ o40
   exact⟨k+1,bs++(Lib.itoa c.starts[k]++[32]),S3,⟨by omega,aB,by rw[List.append_assoc];exact hE⟩,td1,wkR⟩
  ·rw [Aa ai,listB,List.append_nil] at hE
   refine gz ?_ o40
   refine E7 (Lr c.main S2 (by omega) (by omega)) (fun d S3 hr=>?_) (fun d S3 hr=>by cases hr.1)
   obtain⟨hd,rfl⟩:=hr
   cases hd
   refine gz ?_ o40
   refine E7 (ER ib O bs ([58,32]++Lib.itoa c.main++[10]) _ hB (by simp;omega)) (fun d S3 hr=>?_) (fun d S3 hr=>by cases hr.1)
   obtain⟨hd,aB⟩:=hr
   cases hd
   have bY:bs++([58,32]++Lib.itoa c.main++[10])++listB (fun l=>l++[10]) (c.ins.map G5)=LP c:=by rw[bp];unfold Pg;simp[hE]
   generalize bs++([58,32]++Lib.itoa c.main++[10])=bs3 at aB bY
   refine gz ?_ o40
   refine G4 [2,3,4,31,32,53,54] (fun (k:Nat) (bs:List UInt8) (S2:Sig)=>k<=c.ins.length/\BldS ib O bs S2/\bs++listB (fun l=>l++[10]) ((c.ins.drop k).map G5)=LP c) (fun k _ _=>[(33,dI k)]) (fun _ _ S2=>S2) (fun k _ _=>c.ins.length-k) (0) (bs3) (S3) (by exact⟨by omega,aB,bY⟩) (fun k bs S2 hI=>?_)
   obtain⟨hk,hB,hE⟩:=hI
   have bC:=congrArg List.length hE
   rw[List.length_append]at bC
   by_cases ai:k<c.ins.length
   ·rw[A4 ai,List.map_cons,listB]at hE
    have hI:=List.all_eq_true.1 c5 _ (List.getElem_mem ai)
    have cO:=Od hI
    unfold F0 at hI
    simp only[Bool.and_eq_true,decide_eq_true_eq]at hI
    obtain⟨⟨cT,aI⟩,aH⟩:=hI
    have cH:wordsC.length=21:=rfl
    have bn:TR c.ins[k].op=wordsC[c.ins[k].op.toNat-1]'(by omega):=by unfold TR;rw[show(c.ins[k].op-1).toNat=c.ins[k].op.toNat-1 by omega,List.getElem?_eq_getElem (by omega)];rfl
    have bf:(G5 c.ins[k]).length=(wordsC[c.ins[k].op.toNat-1]'(by omega)).length+(if hasA c.ins[k].op then 1+(Lib.itoa c.ins[k].a).length else 0):=by
     unfold G5;rw[bn,List.length_append];split<;>simp<;>omega
    have cX:(listB (fun l=>l++[10]) (List.map G5 (List.drop k c.ins))).length=(G5 c.ins[k]).length+1+(listB (fun l=>l++[10]) (List.map G5 (List.drop (k+1) c.ins))).length:=by
     rw[A4 ai,List.map_cons,listB];simp;omega
    by_cases hA:hasA c.ins[k].op=true
    ·rw[if_pos hA]at bf aH
     have cZ : -1000000000<=c.ins[k].a/\c.ins[k].a<=1000000000:=by
      split at aH
      ·unfold inB at aH;simp at aH;omega
      ·unfold farN at aH;simp at aH;omega
     have aE:G5 c.ins[k]=wordsC[c.ins[k].op.toNat-1]'(by omega)++([32]++Lib.itoa c.ins[k].a):=by unfold G5;rw[bn,if_pos hA];rfl
     refine gz ?_ o40
     refine E7 (ER ib O bs (wordsC[c.ins[k].op.toNat-1]'(by omega)) _ hB (by omega)) (fun d S3 hr=>?_) (fun d S3 hr=>by cases hr.1)
     obtain⟨hd,aB⟩:=hr
     cases hd
     refine gf hA ?_ o40
     refine E7 (Lr c.ins[k].a S3 (by omega) (by omega)) (fun d S4 hr=>?_) (fun d S4 hr=>by cases hr.1)
     obtain⟨hd,rfl⟩:=hr
     cases hd
     refine gz ?_ o40
     refine E7 (ER ib O _ ([32]++Lib.itoa c.ins[k].a) _ aB (by simp;omega)) (fun d S3 hr=>?_) (fun d S3 hr=>by cases hr.1)
     obtain⟨hd,cD⟩:=hr
     cases hd
     refine gz ?_ o40
     refine E7 (ER ib O _ [10] _ cD (by simp;omega)) (fun d S3 hr=>?_) (fun d S3 hr=>by cases hr.1)
     obtain⟨hd,bH⟩:=hr
     cases hd
     rw[aE]at hE
     refine gz ?_ o40
     exact⟨k+1,_,_,⟨by omega,bH,by simpa[List.append_assoc] using hE⟩,td1,wkR⟩
    ·rw[if_neg hA]at bf aH
     have cE:hasA c.ins[k].op=false:=by simpa using hA
     have aE:G5 c.ins[k]=wordsC[c.ins[k].op.toNat-1]'(by omega):=by unfold G5;rw[bn,if_neg hA,List.append_nil]
     refine gz ?_ o40
     refine E7 (ER ib O bs (wordsC[c.ins[k].op.toNat-1]'(by omega)) _ hB (by omega)) (fun d S3 hr=>?_) (fun d S3 hr=>by cases hr.1)
     obtain⟨hd,aB⟩:=hr
     cases hd
     refine gf cE ?_ o40
     refine E7 (ER ib O _ [10] _ aB (by simp;omega)) (fun d S3 hr=>?_) (fun d S3 hr=>by cases hr.1)
     obtain⟨hd,bH⟩:=hr
     cases hd
     rw[aE]at hE
     refine gz ?_ o40
     exact⟨k+1,_,_,⟨by omega,bH,by simpa[List.append_assoc] using hE⟩,td1,wkR⟩
   ·rw[Aa ai,List.map_nil,listB,List.append_nil]at hE
    subst hE
    refine gz ?_ o40
    refine E7 (UO ib O _ _ hB (by rw[bp];simp) (by omega)) (fun d S3 hr=>?_) (fun d S3 hr=>by cases hr.1)
    obtain⟨hd,rfl⟩:=hr
    cases hd
    refine gz ?_ o40
    refine fin2 (U':=S3) ⟨by rw[hh];rfl,rfl⟩
def rvk(l:List UInt8)(k:Nat):List UInt8:=(List.range l.length).map fun j=>if j<k\/l.length<=j+k then l.getD (l.length-1-j) 0 else l.getD j 0
@[simp] theorem rvk_len(l:List UInt8)(k:Nat):(rvk l k).length=l.length:=by simp[rvk]
theorem HB(l:List UInt8)(k j:Nat)(h:j<l.length):(rvk l k)[j]? = some (if j<k\/l.length<=j+k then l.getD (l.length-1-j) 0 else l.getD j 0):=by
 unfold rvk;rw[List.getElem?_map,List.getElem?_range h];rfl
theorem getD_some{l:List UInt8}{j:Nat}(h:j<l.length):l[j]? = some (l.getD j 0):=by rw[List.getD_eq_getElem?_getD,List.getElem?_eq_getElem h];rfl
theorem rvk_0(l:List UInt8):rvk l 0=l:=by
 refine List.ext_getElem? fun j=>?_
 by_cases h:j<l.length
 ·rw[HB l 0 j h,if_neg (by omega),getD_some h]
 ·rw[List.getElem?_eq_none (by simp;omega),List.getElem?_eq_none (by omega)]
theorem rvk_end(l:List UInt8)(k:Nat)(h:l.length<=2*k+1):rvk l k=l.reverse:=by
 refine List.ext_getElem? fun j=>?_
 by_cases hj:j<l.length
 ·rw[HB l k j hj,List.getElem?_reverse hj,getD_some (by omega)]
  by_cases h2:j<k\/l.length<=j+k
  ·rw[if_pos h2]
  ·rw[if_neg h2,show l.length-1-j=j by omega]
 ·rw[List.getElem?_eq_none (by simp;omega),List.getElem?_eq_none (by simp;omega)]
theorem rvk_set(l:List UInt8)(k:Nat)(h:2*k+1<l.length):((rvk l k).set k (l.getD (l.length-1-k) 0)).set (l.length-1-k) (l.getD k 0)=rvk l (k+1):=by
 refine List.ext_getElem? fun j=>?_
 by_cases hj:j<l.length
 ·rw[HB l _ j hj]
  by_cases h1:j=l.length-1-k
  ·subst h1
   rw[List.getElem?_set_self (by simp;omega),if_pos (by omega)]
   congr 2;omega
  ·rw[List.getElem?_set_ne (fun e=>h1 e.symm)]
   by_cases h2:j=k
   ·subst h2
    rw[List.getElem?_set_self (by simp;omega),if_pos (by omega)]
   ·rw[List.getElem?_set_ne (fun e=>h2 e.symm),HB l k j hj]
    congr 1
    by_cases h3:j<k\/l.length<=j+k
    ·rw[if_pos h3,if_pos (by omega)]
    ·rw[if_neg h3,if_neg (by omega)]
 ·rw[List.getElem?_eq_none (by simp;omega),List.getElem?_eq_none (by simp;omega)]
def byD(b:UInt8):D:=.int .u8 (b.toNat:Int)
theorem NW{α:Type}(l:List α)(k:Nat)(x:α)(h:k<l.length):l.take k++[x]++l.drop (k+1)=l.set k x:=by
 rw[List.set_eq_take_append_cons_drop,if_pos h,List.append_assoc];rfl
theorem PC(b:D)(O:Sig):DCall prog 155 [.slice [[b]] .clip] O (rS (.tup []) O):=by
 refine en func155 ntmps155 ?_
 refine gz ?_ o155
 refine BV [0] (fun (k:Nat)=>True) (fun _=>[(2,dI 0),(3,dI 0)]) (fun _=>O) (fun _=>1) (0) (by trivial) (fun k hI=>?_)
 refine gz ?_ o155
 refine EO (U':=O) ⟨rfl,rfl⟩
theorem SS(bs:List UInt8)(rest:List D)(i cap:Nat)(O:Sig)(hn:bs.length<=1000000)(hc:bs.length<=cap)(hi:O i=some (.cells (bs.map byD++rest))):DCall prog 155 [.sref i 0 bs.length cap] O fun x U'=>x=.ret (.tup [])/\U'=O.set i (.cells (bs.reverse.map byD++rest)):=by
 refine en func155 ntmps155 ?_
 refine gz ?_ o155
 refine BT [0] (fun (k:Nat) (S2:Sig)=>k<=bs.length/\(∀j,j≠i->S2 j=O j)/\S2 i=some (.cells ((rvk bs k).map byD++rest))) (fun k _=>[(2,dI k),(3,dI ((bs.length:Int)-1-k))]) (fun _ S2=>S2) (fun k _=>bs.length-k) (0) (O) (by exact⟨Nat.zero_le _,fun _ _=>rfl,by rw[rvk_0];exact hi⟩) (fun k S2 hI=>?_)
 obtain⟨ce,hs,aI⟩:=hI
 by_cases hk:2*k+1<bs.length
 ·obtain⟨L,hL⟩:∃L,L=(rvk bs k).map byD++rest:=⟨_,rfl⟩
  rw[<-hL]at aI
  have bf:bs.length<=L.length:=by rw[hL];simp
  have hx:L[k]? = some (byD (bs.getD k 0)):=by rw[hL,List.getElem?_append_left (by simp;omega),List.getElem?_map,HB bs k k (by omega),if_neg (by omega)];rfl
  have hy:L[bs.length-1-k]? = some (byD (bs.getD (bs.length-1-k) 0)):=by rw[hL,List.getElem?_append_left (by simp;omega),List.getElem?_map,HB bs k _ (by omega),if_neg (by omega)];rfl
  have hE:(L.set k (byD (bs.getD (bs.length-1-k) 0))).set (bs.length-1-k) (byD (bs.getD k 0))=(rvk bs (k+1)).map byD++rest:=by
   rw[hL,List.set_append_left _ _ (by simp;omega),List.set_append_left _ _ (by simp;omega),<-List.map_set,<-List.map_set,rvk_set bs k hk]
  unfold byD at hx hy hE
  generalize (bs.getD k 0).toNat=x at*
  generalize (bs.getD (bs.length-1-k) 0).toNat=y at*
  have hX:L[k]'(by omega)=.int .u8 x:=by have:=hx;rw[List.getElem?_eq_getElem (by omega)]at this;exact Option.some.inj this
  have hY:L[bs.length-1-k]'(by omega)=.int .u8 y:=by have:=hy;rw[List.getElem?_eq_getElem (by omega)]at this;exact Option.some.inj this
  have bc:=NW L k (.int .u8 y) (by omega)
  have br:=NW (L.set k (.int .u8 y)) (bs.length-1-k) (.int .u8 x) (by simp;omega)
  simp only[List.append_assoc,List.singleton_append]at bc br
  have co:¬L.length<k+1:=by omega
  have cn:¬L.length<bs.length-1-k+1:=by omega
  refine gz ?_
  refine mixK (id:=3) [0,1,2,3,4,5,6,7,8,9,10,11,12,13,14,15] [13,15] [7,11] [13,15] S2 (Sub.refl _) ?_
  refine k4R (.sref i 0 bs.length cap) ?_
  refine k4R (dI k) ?_
  refine k4R (.sref i 0 bs.length cap) ?_
  refine k4R (dI ((bs.length:Int)-1-k)) ?_
  refine k4R (.sref i 0 bs.length cap) ?_
  refine k4R (dI ((bs.length:Int)-1-k)) ?_
  refine k4R (.ptr i (bs.length-1-k)) ?_ (hd:=by simp(disch:=omega);omega)
  refine k4R (.int .u8 y) ?_ (hd:=by simp[aI,hy])
  refine k4R (.sref i 0 bs.length cap) ?_
  refine k4R (dI k) ?_
  refine k4R (.ptr i k) ?_ (hd:=by simp(disch:=omega);omega)
  refine k4R (.int .u8 x) ?_ (hd:=by simp[aI,hx])
  refine k4R (.ptr i k) ?_ (hd:=by simp(disch:=omega);omega)
  refine k4S (d:=.any) (U':=S2.set i (.cells (L.set k (.int .u8 y)))) (fun _=>none) (fun _ _ h=>by cases h) ?_ (he:=by simp[aI,bc,co])
  refine k4R (.ptr i (bs.length-1-k)) ?_ (hd:=by simp(disch:=omega);omega)
  refine k4S (d:=.any) (U':=(S2.set i (.cells (L.set k (.int .u8 y)))).set i (.cells ((L.set k (.int .u8 y)).set (bs.length-1-k) (.int .u8 x)))) (fun _=>none) (fun _ _ h=>by cases h) ?_ (he:=by simp[br,cn])
  refine k4N ?_
  rw[hE]
  refine gz ?_ o155
  exact⟨k+1,(S2.set i (.cells (L.set k (.int .u8 y)))).set i (.cells ((rvk bs (k+1)).map byD++rest)),⟨by omega,fun j hj=>by rw[w7 _ _ hj,w7 _ _ hj];exact hs j hj,w6 ..⟩,td1,wkR⟩
 ·refine gz ?_ o155
  refine EO (U':=S2) ⟨rfl,?_⟩
  rw[rvk_end bs k (by omega)]at aI
  funext j
  by_cases hj:j=i
  ·subst hj;rw[w6,aI]
  ·rw[w7 _ _ hj,hs j hj]
theorem Ip(x:Int):IntKind.u8.wrap x=x % 256:=by
 simp[IntKind.wrap,IntKind.bits,IntKind.signed]
theorem u8_step(z c:UInt8):IntKind.u8.wrap (IntKind.u8.wrap (IntKind.u8.wrap (3*(z.toNat:Int))+(c.toNat:Int))+1)=((3*z+c+1).toNat:Int):=by
 rw[Ip,Ip,Ip,UInt8.toNat_add,UInt8.toNat_add,UInt8.toNat_mul]
 simp only[UInt8.reduceToNat]
 omega
theorem US(bs:List UInt8)(i cap:Nat)(rest:List D)(O:Sig)(hn:bs.length<=1000000)(hc:bs.length<=cap)(hi:O i=some (.cells (bs.map byD++rest))):DCall prog 73 [.sref i 0 bs.length cap] O (rS (.int .u8 ((sumB bs 0).toNat:Int)) O):=by
 refine en func73 ntmps73 ?_
 refine gz ?_
 refine BT [2,6,7,18] (fun (k:Nat) (z:UInt8)=>k<=bs.length/\sumB (bs.drop k) z=sumB bs 0) (fun k z=>[(8,dI k),(3,.int .u8 (z.toNat:Int))]) (fun _ _=>O) (fun k _=>bs.length-k) (0) (0) (by exact⟨Nat.zero_le _,rfl⟩) (fun k z hI=>?_)
 obtain⟨ce,hs⟩:=hI
 by_cases hk:k<bs.length
 ·obtain⟨L,hL⟩:∃L,L=bs.map byD++rest:=⟨_,rfl⟩
  rw[<-hL]at hi
  have bf:bs.length<=L.length:=by rw[hL];simp
  have hX:L[k]'(by omega)=.int .u8 (bs[k].toNat:Int):=by subst hL;rw[List.getElem_append_left (by simpa using hk),List.getElem_map];rfl
  rw[A4 hk,sumB]at hs
  refine gf (gi hi hX) ?_
  simp only[u8_step]
  exact⟨k+1,3*z+bs[k]+1,⟨by omega,hs⟩,td1,wkR⟩
 ·rw[Aa hk,sumB]at hs
  refine gz ?_
  refine fin1 (U':=O) ⟨by rw[<-hs],rfl⟩
@[simp] theorem RW.d_row(i c n:Nat)(cs:List D):(RW.row i c cs).d n=.sref i 0 n c:=rfl
@[simp] theorem RW.d_full(es:List (List D))(n:Nat):(RW.full es).d n=.slice es .clip:=rfl
def DT(b:UInt8):List D:=[.int .u8 (b.toNat:Int)]
@[simp] theorem byteL_len(b:UInt8):(DT b).length=1:=rfl
theorem FY: ∀l:List UInt8,(l.map DT).flatten=l.map byD
 |[]=>rfl
 |b::l=>by rw[List.map_cons,List.flatten_cons,FY l];rfl
def PkS(ib:Nat)(S0:Sig)(bs:List UInt8)(O:Sig):Prop:=
 Sub S0 O/\S0 ib=none /\ ∃r:RW,O ib=some (.cells [r.d (bs.map DT).length])/\RWAt O 1 r (bs.map DT) /\ ¬r.is ib/\(∀j,r.is j->S0 j=none)/\(bs.length<=1 \/ ∃i c cs,r=.row i c cs)
section
variable {ro:Ro}{n:Nat}{ops:Array Oper}{N:Nat}{S0:Sig}{Q:DX->St->Prop}{df:List DDf}{rest:List Oper}{γ Sr:List (Nat×D)}{O:Sig}{t:Nat}{ty:TypeId}{pos:String}{after:Array Edge}{d:D}
theorem xappN{T T' e e' sz:Nat}{s x:Operand}{es new:List (List D)}{r:RW}(h:∀i c cs U',RWAt U' sz (.row i c cs) (es++new)->RWK O r U' (.row i c cs)->DOps prog ro n ops Q rest ⟨(t,.sref i 0 (es.length+new.length) c)::γ,U',df⟩)(hm:RWAt O sz r es){dx:D}(h2:JT prog O sz dx new)(hne:new≠[])(cm:∀c∈new,BN c=true)
  (hlen':∀c∈new,c.length=sz)
  (hl:A2 γ (A9 [s,x])=some Sr:=by exact tdR) (hx:ev Sr x=dx:=by exact tdR) (hk:(tab T).k=.slice e:=by(simp<;>rfl)) (cf:(tab T').k=.slice e':=by(simp<;>rfl)) (he:A1 (tab e).k=false:=by simp) (hsz:(tab e).size=sz:=by simp)
  (h1:ev Sr s=r.d es.length:=by first|with_unfolding_all rfl|(simp[ev,getD,List.lookup];done))
  (hb:(es.length+new.length)*(tab e).bytes<=140737488355328:=by first|(simp;done)|(simp;omega)) (hm2:es.length+new.length<=9223372036854775807:=by first|(simp;done)|(simp;omega)) (aO:decide (t<n)=true:=by exact tdR) :
  DOps prog ro n ops Q (⟨some t,(cA s x T T'),ty,pos,after,none⟩::rest) ⟨γ,O,df⟩:=by
 obtain⟨e1,e2⟩:=evs hl
 subst hx
 exact Es Af (by simpa using aO) hk cf he hsz (by rw[<-e1];exact h1) hm (by rw[<-e2];exact h2) hlen' cm hb hm2 fun r' U' h1 h2 h3=>by
  rcases h3 with⟨h3,_⟩|⟨i,c,cs,rfl⟩
  ·exact absurd h3 hne
  ·exact h i c cs U' h1 h2
end
theorem FT(ib:Nat)(S0:Sig)(bs:List UInt8)(n:Nat)(O:Sig)(hB:PkS ib S0 bs O)(hn:n<=10000000000)(hb:bs.length<=1000000):DCall prog 71 [.ptr ib 0,dI n] O fun x U'=>x=.ret (.tup [])/\PkS ib S0 (bs++digB n) U':=by
 obtain⟨hS,h0,r0,bt,bM,bL,bd,_⟩:=hB
 refine en func71 ntmps71 ?_
 refine gz ?_
 refine QR [0,22,23,24,25,26,27,28,29,30] (fun (m:Nat) (ds:List UInt8) (r:RW) (S2:Sig)=>((∃k,m<128 ^ k/\hiB k m++ds.reverse=digB n/\k+ds.length=11)/\m<=10000000000)/\RWAt S2 1 r (ds.map DT)/\RWK O .nil S2 r/\((∃b,ds=[b]/\r=.full [DT b]) \/ ∃i c cs,r=.row i c cs)) (fun m ds r _=>[(1,dI m),(4,r.d (ds.map DT).length)]) (fun _ _ _ S2=>S2) (fun m _ _ _=>m) (n / 128) ([UInt8.ofNat (n % 128)]) (.full [DT (UInt8.ofNat (n % 128))]) (O) (by exact⟨⟨⟨10,by omega,rfl,rfl⟩,by omega⟩,⟨rfl,by simp⟩,RWK.refl _ _,.inl ⟨_,rfl,rfl⟩⟩) (fun m ds r S2 hI=>?_)
 obtain⟨⟨⟨k,bP,aF,cQ⟩,cM⟩,hR,hK,hF⟩:=hI
 by_cases hm:0<m
 ·have hw:IntKind.u8.wrap (IntKind.i64.wrap ((m:Int).tmod 128+128))=((UInt8.ofNat (128+m % 128)).toNat:Int):=by
   have e:(m:Int).tmod 128=((m % 128:Nat):Int):=by rw[Int.tmod_eq_emod_of_nonneg (by omega)];rfl
   rw[e,NU (by omega),Ip,As (by omega) (by omega)];omega
  obtain⟨k,rfl⟩:∃k',k=k'+1:=by
   cases k with
   |zero=>simp at bP;omega
   |succ k=>exact⟨k,rfl⟩
  rw[hiB,if_neg (by omega)]at aF
  obtain⟨y,hy⟩:∃y,UInt8.ofNat (128+m % 128)=y:=⟨_,rfl⟩
  rw[hy]at hw aF
  refine gz ?_
  simp only[hw]
  refine xapp (new:=[[.int .u8 (y.toNat:Int)]]) (fun i c cs S3 aY bk=>?_) hR (h1:=by simp)
  have aJ:RWAt S3 1 (.row i c cs) ((ds++[y]).map DT):=by rw[List.map_append];exact aY
  refine gz ?_
  exact⟨m / 128,ds++[y],.row i c cs,S3,⟨⟨⟨k,by rw[Nat.pow_succ]at bP;omega,by rw[List.reverse_append];simpa[List.append_assoc] using aF,by simp;omega⟩,by omega⟩,aJ,hK.trans bk,.inr ⟨_,_,_,rfl⟩⟩,td1,wkR⟩
 ·obtain rfl:m=0:=by omega
  have bi:ds.reverse=digB n:=by rw[<-aF];cases k<;>simp[hiB]
  have cY:(digB n).length<=11:=by rw[<-bi];simp;omega
  rcases hF with⟨b,rfl,rfl⟩|⟨i,c,cs,rfl⟩
  ·have hd:[b]=digB n:=bi
   refine gz ?_
   refine A7 (PC (.int .u8 (b.toNat:Int)) S2) (fun d S3 hr=>?_) (fun d S3 hr=>by cases hr.1)
   obtain⟨bA,rfl⟩:=hr
   cases bA
   have aq:S3 ib=some (.cells [r0.d (bs.map DT).length]):=(hK ib _ bt id).1
   have aY:RWAt S3 1 r0 (bs.map DT):=bM.keep fun j o hj _=>(hK j o hj id).1
   refine gf aq ?_
   refine xappN (new:=(digB n).map DT) (fun j c' cs' S4 aJ aK=>?_) aY (HY (d:=.slice [DT b] .clip) (by rw[<-hd];rfl) (by simp)) (by simp[digB]) (fun x hx=>by obtain⟨b,_,rfl⟩:=List.mem_map.1 hx;rfl) (fun x hx=>by obtain⟨b,_,rfl⟩:=List.mem_map.1 hx;rfl) (h1:=by simp) (hb:=by simp;omega) (hm2:=by simp;omega)
   have aj:=aK ib _ aq bL
   rw[<-List.map_append]at aJ
   have aG:S4 ib=some (.cells [r0.d bs.length]):=by rw[aj.1];simp
   refine gf aG ?_
   refine EO (U':=S4.set ib (.cells [.sref j 0 (bs++digB n).length c'])) ⟨rfl,?_,h0,.row j c' cs',?_,?_,?_,?_,.inr ⟨_,_,_,rfl⟩⟩ (hZ:=by simp;exact Sub.refl _)
   ·exact fun x o hx=>by rw[w7 _ _ (fun e=>by rw[e,h0]at hx;cases hx)];exact(aK x o (hK x o (hS x o hx) id).1 (fun aC=>by rw[bd x aC]at hx;cases hx)).1
   ·rw[w6];simp
   ·exact aJ.keep fun x o hx hj=>by rw[w7 _ _ (fun e=>by subst e;exact aj.2 hj)];exact hx
   ·exact aj.2
   ·exact fun x hx=>by cases h:S0 x with|none=>rfl|some o=>exact absurd hx (aK x o (hK x o (hS x o h) id).1 (fun aC=>by rw[bd x aC]at h;cases h)).2
  ·obtain⟨q1,q2,q3,q4⟩:=hR
   rw[FY]at q1
   rw[List.length_map]at q3
   have be:∀j o,O j=some o->j≠i:=fun j o hj e=>(hK j o hj id).2 e
   have hne:=be ib _ bt
   refine gz ?_
   refine A7 (SS ds cs i c S2 (by omega) q3 q1) (fun d S3 hr=>?_) (fun d S3 hr=>by cases hr.1)
   obtain⟨bA,ay⟩:=hr
   cases bA
   rw[bi]at ay
   have bq:JT prog S3 1 (.sref i 0 ds.length c) ((digB n).map DT):=by
    have e:ds.length=((digB n).map DT).length:=by rw[<-bi];simp
    rw[e]
    refine L5 (pre:=[]) (rest:=cs) (by rw[ay,w6,FY];rfl) rfl (fun x hx=>by obtain⟨b,_,rfl⟩:=List.mem_map.1 hx;rfl) (by rw[<-e];exact q3)
   have aq:S3 ib=some (.cells [r0.d (bs.map DT).length]):=by rw[ay,w7 _ _ hne];exact(hK ib _ bt id).1
   have aY:RWAt S3 1 r0 (bs.map DT):=bM.keep fun j o hj _=>by rw[ay,w7 _ _ (be j _ hj)];exact(hK j o hj id).1
   refine gf aq ?_
   refine xappN (new:=(digB n).map DT) (fun j c' cs' S4 aJ aK=>?_) aY (bq) (by simp[digB]) (fun x hx=>by obtain⟨b,_,rfl⟩:=List.mem_map.1 hx;rfl) (fun x hx=>by obtain⟨b,_,rfl⟩:=List.mem_map.1 hx;rfl) (h1:=by simp) (hb:=by simp;omega) (hm2:=by simp;omega)
   have aj:=aK ib _ aq bL
   rw[<-List.map_append]at aJ
   have aG:S4 ib=some (.cells [r0.d bs.length]):=by rw[aj.1];simp
   refine gf aG ?_
   refine EO (U':=S4.set ib (.cells [.sref j 0 (bs++digB n).length c'])) ⟨rfl,?_,h0,.row j c' cs',?_,?_,?_,?_,.inr ⟨_,_,_,rfl⟩⟩ (hZ:=by simp;exact Sub.refl _)
   ·exact fun x o hx=>by rw[w7 _ _ (fun e=>by rw[e,h0]at hx;cases hx)];exact(aK x o (by rw[ay,w7 _ _ (be x _ (hS x o hx))];exact(hK x o (hS x o hx) id).1) (fun aC=>by rw[bd x aC]at hx;cases hx)).1
   ·rw[w6];simp
   ·exact aJ.keep fun x o hx hj=>by rw[w7 _ _ (fun e=>by subst e;exact aj.2 hj)];exact hx
   ·exact aj.2
   ·exact fun x hx=>by cases h:S0 x with|none=>rfl|some o=>exact absurd hx (aK x o (by rw[ay,w7 _ _ (be x _ (hS x o h))];exact(hK x o (hS x o h) id).1) (fun aC=>by rw[bd x aC]at h;cases h)).2
theorem PkS.put{ib:Nat}{S0 O S4:Sig}{bs new:List UInt8}{r:RW}{j c:Nat}{cs:List D}(hS:Sub S0 O)(h0:S0 ib=none)(h1:O ib=some (.cells [r.d (bs.map DT).length]))(h3:¬r.is ib)(h4:∀j,r.is j->S0 j=none)(hR:RWAt S4 1 (.row j c cs) ((bs++new).map DT))(hK:RWK O r S4 (.row j c cs)):PkS ib S0 (bs++new) (S4.set ib (.cells [.sref j 0 (bs++new).length c])):=by
 have aT:=hK ib _ h1 h3
 have aF:∀x o,S0 x=some o->S4 x=some o /\ ¬(RW.row j c cs).is x:=fun x o hx=>hK x o (hS x o hx) fun h=>by rw[h4 x h]at hx;cases hx
 refine⟨fun x o hx=>?_,h0,.row j c cs,?_,?_,aT.2,fun x hx=>?_,.inr ⟨_,_,_,rfl⟩⟩
 ·rw[w7 _ _ (fun e=>by rw[e,h0]at hx;cases hx)];exact(aF x o hx).1
 ·rw[w6];simp
 ·exact hR.keep fun x o hx hj=>by rw[w7 _ _ (fun e=>by subst e;exact aT.2 hj)];exact hx
 ·cases h:S0 x with
  |none=>rfl
  |some o=>exact absurd hx (aF x o h).2
end Go.DL
