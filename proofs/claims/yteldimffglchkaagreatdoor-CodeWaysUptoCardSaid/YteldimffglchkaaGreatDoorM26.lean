/- A part of the proof. -/
import Derived.Test.YteldimffglchkaaGreatDoorM25
import Derived.Test.YteldimffglchkaaGreatDoorM21
import Derived.Test.YteldimffglchkaaGreatDoorM20
set_option linter.all false
namespace Go.DL
open Go.Proofs.Tryz
open Go Go.Proofs
set_option maxHeartbeats 8000000
section
variable {ir:Nat}{p:BProg}{R:Nat->RW}{s:GoS}{O:Sig}
theorem SV(x:CIns)(r:List MVal)(v:MVal)(hR:RunS ir p R s O)(hs:s.stk=r++[v])(hn:s.stk.length<=1000000):DCall prog 117 [.ptr ir 0,.agg (cIns x)] O fun y U'=>y=.ret (.bool false) /\ ∃R',RunS ir p R' { s with stk:=r,pos:=if AK v=0 then x.a else s.pos } U'/\RunK ir R O R' U':=by
 refine en func117 ntmps117 ?_
 refine gz ?_
 refine A3 (BS r v hR hs hn) (fun d S1 hr=>?_) (fun d S1 hr=>by cases hr.1)
 obtain⟨hd,R1,aa,ae⟩:=hr
 cases hd
 have q1:=aa.obj
 by_cases h:AK v=0
 ·rw[if_pos h]
  refine gf (gi q1 h) ?_
  obtain⟨p1,p2⟩:=aa.at x.a rfl
  exact fin1 (U':=_) ⟨rfl,_,p1,ae.trans p2⟩
 ·rw[if_neg h]
  refine gf (gi q1 h) ?_
  exact fin1 (U':=S1) ⟨rfl,_,aa,ae⟩
theorem SR(x:CIns)(r:List MVal)(v:MVal)(hR:RunS ir p R s O)(hs:s.stk=r++[v])(hn:s.stk.length<=1000000):DCall prog 121 [.ptr ir 0,.agg (cIns x)] O fun y U'=>y=.ret (.bool true) /\ ∃R',HaltS ir p R' { s with stk:=r } .nils false ⟨1,v,0,[],0,0,[],[],s.objs,s.evs⟩ U'/\RunK ir R O R' U':=by
 refine en func121 ntmps121 ?_
 refine gz ?_
 refine A3 (BS r v hR hs hn) (fun d S1 hr=>?_) (fun d S1 hr=>by cases hr.1)
 obtain⟨hd,R1,aa,ae⟩:=hr
 cases hd
 have q1:=aa.obj
 obtain⟨p1,p2⟩:=aa.halt (av:=.nils) (b:=false) (k:=⟨1,v,0,[],0,0,[],[],s.objs,s.evs⟩) rfl (An _ (.inl rfl)) rfl rfl ⟨rfl,rfl,rfl⟩
 refine gf q1 ?_
 exact fin1 (U':=_) ⟨rfl,_,p1,ae.trans p2⟩
theorem SY(x:CIns)(r:List MVal)(v:MVal)(hR:RunS ir p R s O)(hs:s.stk=r++[v])(hn:s.stk.length<=1000000)(he:s.env.length<=1000000):DCall prog 114 [.ptr ir 0,.agg (cIns x)] O fun y U'=>y=.ret (.bool false) /\ ∃R',RunS ir p R' { s with stk:=r,env:=s.env++[v] } U'/\RunK ir R O R' U':=by
 refine en func114 ntmps114 ?_
 refine gz ?_ o114
 refine A3 (BS r v hR hs hn) (fun d S1 hr=>?_) (fun d S1 hr=>by cases hr.1)
 obtain⟨hd,R1,aa,ae⟩:=hr
 cases hd
 have q1:=aa.obj
 have q0:RWAt S1 2 (R1 1) (s.env.map cVal):=aa.rows.ok 1
 have u1:=D2 q1 (aa.ni 1)
 refine gz ?_
 refine EP (id:=2) [0,1,2,3,4,5,6,7,8,9,10,11] [8] (S1.out (R1 1).is) (C1 _ _) ?_
 refine gf u1 ?_ o114
 refine Gb (es:=s.env.map cVal) (fun i c cs S2 aw ay=>?_) (fun j o h=>Cf h) (hm:=q0)
 obtain⟨v1,v2⟩:=ay _ _ q1 (aa.ni 1)
 refine gf v1 ?_ o114
 rw[show s.env.map cVal++[cVal v]=(s.env++[v]).map cVal by simp]at aw
 obtain⟨p1,p2⟩:=aa.put (a:=1) (s':={ s with stk:=r,env:=s.env++[v] }) aw ay (rCt_1 R1 _ { s with stk:=r } _) rfl
 refine fin1 (U':=_) ⟨rfl,_,p1,ae.trans p2⟩ (hU:=?_)
 simp[AO,Ag]
 exact Sub.refl _
theorem SX(x:CIns)(r:List MVal)(v:MVal)(hR:RunS ir p R s O)(hs:s.env=r++[v])(hn:s.env.length<=1000000):DCall prog 115 [.ptr ir 0,.agg (cIns x)] O fun y U'=>y=.ret (.bool false) /\ ∃R',RunS ir p R' { s with env:=r } U'/\RunK ir R O R' U':=by
 have q1:=hR.obj
 obtain⟨i,c,cs,h0⟩:=hR.row 1 (by rw[rCt,hs];simp)
 have q0:RWAt O 2 (R 1) (s.env.map cVal):=hR.rows.ok 1
 rw[h0,hs]at q0
 have hl:s.env.length=r.length+1:=by rw[hs];simp
 unfold AO at q1
 rw[h0,hl]at q1
 simp only[EE]at q1
 obtain⟨z1,z2,z3,z4⟩:=q0
 have hr:RWAt O 2 (.row i c (cVal v++cs)) (r.map cVal):=⟨by rw[z1];simp,by rw[<-List.append_assoc];simpa using z2,by simp only[List.length_map,List.length_append,List.length_singleton]at z3⊢; omega,Bm⟩
 simp only[List.length_map,List.length_append,List.length_singleton]at z3
 refine en func115 ntmps115 ?_
 refine gz ?_
 refine EP (id:=1) [0,1,2,3,4,5,6,7,8,9,10,11,12,13,14,15,16] [] O (Sub.refl _) ?_
 refine gf q1 ?_ o115
 refine QO Ac (i:=i) (off:=0) (len:=r.length+1) (cap:=c) (hi:=r.length) (e:=40) (k:=.i64) ?_ (by decide) (by simp<;>rfl) (by simp) tdR tdR (by omega)
 refine gf q1 ?_ o115
 obtain⟨p1,p2⟩:=hR.re (a:=1) (s':={ s with env:=r }) hr (by rw[h0];exact fun j h=>h) (rCt_1 R _ s _) rfl
 exact fin1 (U':=_) ⟨rfl,_,p1,p2⟩
theorem VF(n:Int):(if 1000000000<(if n < -1000000000 then -1000000000 else n) then(1000000000:Int) else if n < -1000000000 then -1000000000 else n)=DD n:=by
 unfold DD;rw[Int.min_def,Int.max_def];split<;>split<;>(repeat' split)<;>omega
theorem VE(b:Bool):DD (Dt b)=Dt b:=by cases b<;>rfl
theorem mul_bnd{a b:Int}(ha : -1000000000<=a/\a<=1000000000)(hb : -1000000000<=b/\b<=1000000000): -1000000000000000000<=a*b/\a*b<=1000000000000000000:=by
 have h:=Int.natAbs_mul a b
 have h2:a.natAbs*b.natAbs<=1000000000*1000000000:=Nat.mul_le_mul (by omega) (by omega)
 omega
theorem SZ(x:CIns)(r:List MVal)(v w:MVal)(hx:9<=x.op/\x.op<=13)(hR:RunS ir p R s O)(hs:s.stk=r++[v,w])(hn:s.stk.length<=1000000)(hv : -1000000000<=AK v/\AK v<=1000000000)(hw : -1000000000<=AK w/\AK w<=1000000000):DCall prog 113 [.ptr ir 0,.agg (cIns x)] O fun y U'=>y=.ret (.bool false) /\ ∃R',RunS ir p R' { s with stk:=r++[GI x.op v w] } U'/\RunK ir R O R' U':=by
 refine en func113 ntmps113 ?_
 refine gz ?_ o113
 refine A3 (BS (r++[v]) w hR (by rw[hs];simp) hn) (fun d S1 hr=>?_) (fun d S1 hr=>by cases hr.1)
 obtain⟨hd,R1,aa,ae⟩:=hr
 cases hd
 have hl:s.stk.length=r.length+2:=by rw[hs];simp
 refine gz ?_ o113
 refine A3 (BS r v aa rfl (by simp;omega)) (fun d S2 hr=>?_) (fun d S2 hr=>by cases hr.1)
 obtain⟨hd,R2,aC,aD⟩:=hr
 cases hd
 have a8:=mul_bnd hv hw
 have aS:IntKind.i64.wrap (AK v*AK w)=AK v*AK w:=As (by omega) (by omega)
 repeat' first|refine gz ?_ o113|apply gy<;>intro hh
 rotate_left 4
 ·refine eqlS _ (decide (v=w)) Ox Oc (UY v w) ?_
  refine gz ?_ o113
  simp only[VF,VE]
  have e:GI x.op v w=vInt (Dt (decide (v=w))):=by unfold GI;rw[if_neg (by assumption),if_neg (by assumption),if_neg (by assumption),if_neg (by assumption)]
  rw[e]
  refine A3 (Bl (vInt (Dt (decide (v=w)))) aC (by simp;omega)) (fun d S3 hr=>?_) (fun d S3 hr=>by cases hr.1)
  obtain⟨hd,R3,ah,ai⟩:=hr
  cases hd
  refine gz ?_ o113
  exact fin1 (U':=S3) ⟨rfl,R3,ah,(ae.trans aD).trans ai⟩
 all_goals
  simp only[aS,VF,VE]
 ·have e:GI x.op v w=vInt (DD (AK v+AK w)):=by unfold GI;rw[if_pos (by assumption)]
  rw[e]
  refine A3 (Bl (vInt (DD (AK v+AK w))) aC (by simp;omega)) (fun d S3 hr=>?_) (fun d S3 hr=>by cases hr.1)
  obtain⟨hd,R3,ah,ai⟩:=hr
  cases hd
  refine gz ?_ o113
  exact fin1 (U':=S3) ⟨rfl,R3,ah,(ae.trans aD).trans ai⟩
 ·have e:GI x.op v w=vInt (DD (AK v-AK w)):=by unfold GI;rw[if_neg (by assumption),if_pos (by assumption)]
  rw[e]
  refine A3 (Bl (vInt (DD (AK v-AK w))) aC (by simp;omega)) (fun d S3 hr=>?_) (fun d S3 hr=>by cases hr.1)
  obtain⟨hd,R3,ah,ai⟩:=hr
  cases hd
  refine gz ?_ o113
  exact fin1 (U':=S3) ⟨rfl,R3,ah,(ae.trans aD).trans ai⟩
 ·have e:GI x.op v w=vInt (DD (AK v*AK w)):=by unfold GI;rw[if_neg (by assumption),if_neg (by assumption),if_pos (by assumption)]
  rw[e]
  refine A3 (Bl (vInt (DD (AK v*AK w))) aC (by simp;omega)) (fun d S3 hr=>?_) (fun d S3 hr=>by cases hr.1)
  obtain⟨hd,R3,ah,ai⟩:=hr
  cases hd
  refine gz ?_ o113
  exact fin1 (U':=S3) ⟨rfl,R3,ah,(ae.trans aD).trans ai⟩
 ·have e:GI x.op v w=vInt (Dt (decide (AK v<AK w))):=by unfold GI;rw[if_neg (by assumption),if_neg (by assumption),if_neg (by assumption),if_pos (by assumption)]
  rw[e]
  refine A3 (Bl (vInt (Dt (decide (AK v<AK w)))) aC (by simp;omega)) (fun d S3 hr=>?_) (fun d S3 hr=>by cases hr.1)
  obtain⟨hd,R3,ah,ai⟩:=hr
  cases hd
  refine gz ?_ o113
  exact fin1 (U':=S3) ⟨rfl,R3,ah,(ae.trans aD).trans ai⟩
end
def frV(l:List Init)(s:Int):MVal:=match l.find? (fun i=>decide (i.slot=s))with
 |some i=>vInt i.n
 |none=>E8
def A2(p:BProg):CWorld:=⟨fun c=>ownF p c&&okP p,hasP p,fun c=>(hasP p c).map (frV (E3 p c))⟩
theorem A4(S:Nat->RW)(l:List MThing):(tCells S l).length=l.length:=by unfold tCells;simp
theorem BA(S:Nat->RW)(l:List MThing)(k:Nat)(h:k<l.length):(tCells S l)[k]? = some [dI (l[k]).cls,(S k).d (l[k]).slots.length]:=by
 unfold tCells;rw[List.getElem?_mapIdx,List.getElem?_eq_getElem h];rfl
theorem CM{S:Nat->RW}{l:List MThing}: ∀c∈tCells S l,c.length=2:=fun c h=>by
 obtain⟨k,hk⟩:=List.getElem?_of_mem h
 have hl:=(List.getElem?_eq_some_iff.1 hk).1
 rw[A4]at hl
 rw[BA S l k hl]at hk
 cases hk;rfl
theorem Oi{es:List (List D)}(h2:∀c∈es,c.length=2){k:Nat}{a b:D}(hk:es[k]? = some [a,b])(cs:List D):(es.flatten++cs)[k*2]? = some a/\(es.flatten++cs)[k*2+1]? = some b:=by
 have hl:=(List.getElem?_eq_some_iff.1 hk).1
 have e:es=es.take k++[a,b]::es.drop (k+1):=by
  have:=(List.getElem?_eq_some_iff.1 hk).2
  rw[<-this,<-Ad hl,List.take_append_drop]
 have hf:(es.take k).flatten.length=k*2:=by rw[Av fun c hc=>h2 c (List.mem_of_mem_take hc),List.length_take_of_le (by omega)]
 rw[e,List.flatten_append,List.flatten_cons]
 simp only[List.append_assoc]
 constructor
 ·rw[List.getElem?_append_right (by omega),hf,Nat.sub_self];rfl
 ·rw[List.getElem?_append_right (by omega),hf,show k*2+1-k*2=1 by omega];rfl
section
variable {ir:Nat}{p:BProg}{R:Nat->RW}{s:GoS}{O:Sig}{v:MVal}
theorem Mh(v:MVal)(x:Int)(hp:p.wt<=1073741824)(hR:RunS ir p R s O)(hv:okV s.objs.length v=true)(ho:Bc (A2 p) s.objs=true):
  DCall prog 180 [.ptr ir 0,.agg (cVal v),dI x] O fun y U'=>U'=O/\((Bf (A2 p) s.objs v x<0/\y=.ret .nilp)\/(0<=Bf (A2 p) s.objs v x/\v.kind=3 /\ ∃i c cs,R (v.n.toNat+4)=.row i c cs/\y=.ret (.ptr i ((Bf (A2 p) s.objs v x).toNat*2)))):=by
 have q1:=hR.obj
 by_cases h3:v.kind=3
 rotate_left
 ·have hn:Bf (A2 p) s.objs v x<0:=by unfold Bf;rw[if_neg h3];omega
  refine en func180 ntmps180 ?_
  refine gf h3 ?_ o180
  exact fin1 (U':=O) ⟨rfl,.inl ⟨hn,rfl⟩⟩
 obtain⟨w1,w2,w3⟩:=Fh ho hv h3
 obtain⟨u1,u2,u3⟩:=(BB.1 ho).2 _ w1
 obtain⟨n,hn⟩:∃n:Nat,v.n=n:=⟨v.n.toNat,by omega⟩
 have ag:n<s.objs.length:=by omega
 have au:CQ s.objs v.n=s.objs[n]:=by unfold CQ;rw[hn,Int.toNat_natCast,List.getElem?_eq_getElem ag];rfl
 rw[au]at u1 u2 u3
 have aE:Bf (A2 p) s.objs v x=idxG x (hasP p (s.objs[n]).cls) 0:=by unfold Bf;rw[if_pos h3,au];rfl
 rw[aE]
 obtain⟨i,c,cs,h0⟩:=hR.row 3 (fun e=>by rw[rCt]at e;have:=congrArg List.length e;rw[A4]at this;simp at this;rw[this]at ag;simp at ag)
 have q0:=hR.rows.ok 3
 rw[h0]at q0
 obtain⟨z1,z2,z3,z4⟩:=q0
 obtain⟨y1,y2⟩:=Oi (CM (S:=fun k=>R (k+4)) (l:=s.objs)) (BA _ _ n ag) cs
 rw[show rCt R s 3=tCells (fun k=>R (k+4)) s.objs from rfl]at z1
 generalize (tCells (fun k=>R (k+4)) s.objs).flatten++cs=L at*
 unfold AO at q1
 rw[h0]at q1
 simp only[EE]at q1
 have ax:(ownF p (s.objs[n]).cls&&okP p)=true:=u1
 have bc:(hasP p (s.objs[n]).cls).length<=1073741824:=by have a:=Ch p (s.objs[n]).cls;have b:=E4 p;omega
 have aH:(s.objs[n]).slots.length=(hasP p (s.objs[n]).cls).length:=u2
 by_cases aI:idxG x (hasP p (s.objs[n]).cls) 0<0
 ·refine en func180 ntmps180 ?_
  refine gf (gi q1 (gi z1 (gi hn (gi y1 (gi y2 ax))))) ?_ o180
  exact fin1 (U':=O) ⟨rfl,.inl ⟨aI,rfl⟩⟩
 ·obtain⟨m1,m2⟩:=H6 (s:=x) (hasP p (s.objs[n]).cls) 0 (by omega)
  obtain⟨k,hk⟩:∃k:Nat,idxG x (hasP p (s.objs[n]).cls) 0=k:=⟨(idxG x (hasP p (s.objs[n]).cls) 0).toNat,by omega⟩
  have aB:rCt R s (n+4)=(s.objs[n]).slots.map cVal:=by show(((s.objs[n]?).getD ⟨0,[]⟩).slots.map cVal)=_;rw[List.getElem?_eq_getElem ag];rfl
  obtain⟨j,cj,csj,hj⟩:=hR.row (n+4) (fun e=>by rw[aB]at e;have:=congrArg List.length e;simp at this;rw[this]at aH;simp at aH;omega)
  rw[hj]at y2
  simp only[EE]at y2
  rw[hk]at m2
  refine en func180 ntmps180 ?_
  refine gf (gi q1 (gi z1 (gi hn (gi y1 (gi y2 (gi ax hk)))))) ?_ o180
  refine fin1 (U':=O) ⟨rfl,.inr ⟨by omega,h3,j,cj,csj,by rw[hn];exact hj,?_⟩⟩
  rw[hk];rfl
theorem Qg(hR:RunS ir p R s O)(hv:okV s.objs.length v=true)(ho:Bc (A2 p) s.objs=true){x:Int}(h0:0<=Bf (A2 p) s.objs v x)(h3:v.kind=3){i c:Nat}{cs:List D}(hi:R (v.n.toNat+4)=.row i c cs):
  ∃n k:Nat,v.n=n/\Bf (A2 p) s.objs v x=k /\ ∃(hn:n<s.objs.length) (hk:k<(s.objs[n]).slots.length),CQ s.objs v.n=s.objs[n] /\ ∃L,L=((s.objs[n]).slots.map cVal).flatten++cs/\O i=some (.cells L)/\k*2+2<=L.length/\List.take 2 (List.drop (k*2) L)=cVal ((s.objs[n]).slots[k]):=by
 obtain⟨w1,w2,w3⟩:=Fh ho hv h3
 obtain⟨u1,u2,u3⟩:=(BB.1 ho).2 _ w1
 obtain⟨n,hn⟩:∃n:Nat,v.n=n:=⟨v.n.toNat,by omega⟩
 have ag:n<s.objs.length:=by omega
 have au:CQ s.objs v.n=s.objs[n]:=by unfold CQ;rw[hn,Int.toNat_natCast,List.getElem?_eq_getElem ag];rfl
 rw[au]at u1 u2 u3
 have aE:Bf (A2 p) s.objs v x=idxG x (hasP p (s.objs[n]).cls) 0:=by unfold Bf;rw[if_pos h3,au];rfl
 have aH:(s.objs[n]).slots.length=(hasP p (s.objs[n]).cls).length:=u2
 obtain⟨m1,m2⟩:=H6 (s:=x) (hasP p (s.objs[n]).cls) 0 (by omega)
 obtain⟨k,hk⟩:∃k:Nat,idxG x (hasP p (s.objs[n]).cls) 0=k:=⟨(idxG x (hasP p (s.objs[n]).cls) 0).toNat,by omega⟩
 rw[hk]at m2 aE
 have ak:k<(s.objs[n]).slots.length:=by omega
 have aB:rCt R s (n+4)=(s.objs[n]).slots.map cVal:=by show(((s.objs[n]?).getD ⟨0,[]⟩).slots.map cVal)=_;rw[List.getElem?_eq_getElem ag];rfl
 have q:=hR.rows.ok (n+4)
 rw[show n=v.n.toNat by omega,hi]at q
 have z:=q.1
 rw[show v.n.toNat=n by omega,aB]at z
 refine⟨n,k,hn,aE,ag,ak,au,_,rfl,z,by rw[FF];omega,?_⟩
 have e:(s.objs[n]).slots=(s.objs[n]).slots.take k++(s.objs[n]).slots[k]::(s.objs[n]).slots.drop (k+1):=by rw[<-Ad ak,List.take_append_drop]
 have hv:=Kr ((s.objs[n]).slots.take k) (s.objs[n]).slots[k] ((s.objs[n]).slots.drop (k+1)) cs
 rw[<-e,List.length_take_of_le (by omega)]at hv
 exact hv
theorem T4(x:CIns)(r:List MVal)(v:MVal)(hp:p.wt<=1073741824)(hR:RunS ir p R s O)(hs:s.stk=r++[v])(hn:s.stk.length<=1000000)(hv:okV s.objs.length v=true)(ho:Bc (A2 p) s.objs=true):DCall prog 109 [.ptr ir 0,.agg (cIns x)] O fun y U'=> ∃R',RunK ir R O R' U' /\
  if Bf (A2 p) s.objs v x.a<0 then y=.ret (.bool true)/\HaltS ir p R' { s with stk:=r } .nils false (FO s 5 r) U' else y=.ret (.bool false)/\RunS ir p R' { s with stk:=r++[((CQ s.objs v.n).slots[(Bf (A2 p) s.objs v x.a).toNat]?).getD vZ] } U':=by
 have hl:s.stk.length=r.length+1:=by rw[hs];simp
 refine en func109 ntmps109 ?_
 refine gz ?_
 refine Hy (id:=1) [0,1,3,4,2,5,6] [2,5] (fun _=>none) (fun _ _ h=>by cases h) ?_
 refine gz ?_ o109
 refine Bx (BS r v hR hs hn) (fun d S1 hr=>?_) (fun d S1 hr=>by cases hr.1)
 obtain⟨hd,R1,aa,ae⟩:=hr
 cases hd
 refine⟨(fun _ _ h=>by cases h),?_⟩
 refine Bx (Mh v x.a hp aa hv ho) (fun d S2 hr=>?_) (fun d S2 hr=>by rcases hr.2 with⟨_,h⟩|⟨_,_,_,_,_,_,h⟩<;>cases h)
 obtain⟨rfl,hr⟩:=hr
 refine⟨(fun _ _ h=>by cases h),?_⟩
 rcases hr with⟨h0,hd⟩|⟨h0,h3,i,c,cs,hi,hd⟩
 ·cases hd
  refine gz ?_ o109
  refine A3 (Gw 5 r aa) (fun d S3 hr=>?_) (fun d S3 hr=>by cases hr.1)
  obtain⟨hd,h1,h2⟩:=hr
  cases hd
  refine gz ?_ o109
  exact fin1 (U':=S3) ⟨R1,ae.trans h2,by rw[if_pos h0];exact⟨rfl,h1⟩⟩
 ·obtain⟨n,k,e1,e2,ag,ak,e3,L,hL,z1,z2,z3⟩:=Qg aa hv ho h0 h3 hi
  have e4:Bf (A2 p) s.objs v x.a=k:=e2
  obtain rfl:d=.ptr i (k*2):=by cases hd;show D.ptr i ((Bf (A2 p) s.objs v x.a).toNat*2)=_;rw[e4];rfl
  have e5:((CQ s.objs v.n).slots[(Bf (A2 p) s.objs v x.a).toNat]?).getD vZ=(s.objs[n]'ag).slots[k]'ak:=by
   rw[e4,show CQ s.objs v.n=s.objs[n]'ag from e3,Int.toNat_natCast,List.getElem?_eq_getElem ak];rfl
  refine gf (gi z1 (gi z2 z3)) ?_ o109
  refine A3 (Bl ((s.objs[n]'ag).slots[k]'ak) aa (by simp;omega)) (fun d S3 hr=>?_) (fun d S3 hr=>by cases hr.1)
  obtain⟨hd,R3,ah,ai⟩:=hr
  cases hd
  refine gz ?_ o109
  exact fin1 (U':=S3) ⟨R3,ae.trans ai,by rw[if_neg (by omega),e5];exact⟨rfl,ah⟩⟩
end
theorem Q4(l:List MVal)(k:Nat)(hk:k<l.length)(v:MVal)(cs:List D):List.take (k*2) ((l.map cVal).flatten++cs)++cVal v++List.drop (k*2+2) ((l.map cVal).flatten++cs)=((l.set k v).map cVal).flatten++cs:=by
 have e:l=l.take k++l[k]::l.drop (k+1):=by rw[<-Ad hk,List.take_append_drop]
 have h:((l.take k).map cVal).flatten.length=k*2:=by rw[Av Bm];simp;omega
 have hs:l.set k v=l.take k++v::l.drop (k+1):=by rw[List.set_eq_take_append_cons_drop,if_pos hk]
 have e2:(l.map cVal).flatten++cs=((l.take k).map cVal).flatten++(cVal l[k]++(((l.drop (k+1)).map cVal).flatten++cs)):=by
  calc _=((l.take k++l[k]::l.drop (k+1)).map cVal).flatten++cs:=by rw[<-e]
   _=_:=by rw[List.map_append,List.map_cons,List.flatten_append,List.flatten_cons];simp only[List.append_assoc]
 have e3:((l.set k v).map cVal).flatten++cs=((l.take k).map cVal).flatten++(cVal v++(((l.drop (k+1)).map cVal).flatten++cs)):=by
  rw[hs,List.map_append,List.map_cons,List.flatten_append,List.flatten_cons];simp only[List.append_assoc]
 rw[e2,e3,<-h,List.take_left,<-List.drop_drop,List.drop_left,List.append_assoc]
 rfl
section
variable {ir:Nat}{p:BProg}{R:Nat->RW}{s:GoS}{O:Sig}
theorem OX(S:Nat->RW)(l:List MThing)(n:Nat)(hn:n<l.length)(x:MThing)(hc:x.cls=(l[n]).cls)(hl:x.slots.length=(l[n]).slots.length):tCells S (l.set n x)=tCells S l:=by
 refine List.ext_getElem? fun k=>?_
 by_cases hk:k<l.length
 ·rw[BA S (l.set n x) k (by simpa using hk),BA S l k hk]
  by_cases e:k=n
  ·subst e;rw[List.getElem_set_self,hc,hl]
  ·rw[List.getElem_set_ne (fun h=>e h.symm)]
 ·rw[List.getElem?_eq_none (by rw[A4];simp;omega),List.getElem?_eq_none (by rw[A4];omega)]
theorem RunS.slot(h:RunS ir p R s O){n k:Nat}(hn:n<s.objs.length)(hk:k<(s.objs[n]).slots.length){i c:Nat}{cs:List D}(hi:R (n+4)=.row i c cs)(v:MVal){L:List D}(hL:L=((s.objs[n]).slots.map cVal).flatten++cs):
  RunS ir p R { s with objs:=s.objs.set n ⟨(s.objs[n]).cls,(s.objs[n]).slots.set k v⟩ } (O.set i (.cells (L.take (k*2)++cVal v++L.drop (k*2+2))))/\RunK ir R O R (O.set i (.cells (L.take (k*2)++cVal v++L.drop (k*2+2)))):=by
 subst hL
 rw[Q4 _ k hk v cs]
 have aK:(R (n+4)).is i:=by rw[hi];rfl
 have aR:ir≠i:=fun e=>h.ni (n+4) (e ▸ aK)
 have aB:rCt R s (n+4)=(s.objs[n]).slots.map cVal:=by show(((s.objs[n]?).getD ⟨0,[]⟩).slots.map cVal)=_;rw[List.getElem?_eq_getElem hn];rfl
 have q:=h.rows.ok (n+4)
 rw[hi,aB]at q
 obtain⟨z1,z2,z3,z4⟩:=q
 refine⟨⟨?_,⟨fun a=>?_,h.rows.dj⟩,h.ni,h.nf⟩,fun j o hj _ aO=>⟨by rw[w7 _ _ fun e=>aO (n+4) (by rw[e];exact aK)];exact hj,aO⟩⟩
 ·rw[w7 _ _ aR,h.obj]
  simp[AO]
 ·by_cases ea:a=n+4
  ·subst ea
   have e:rCt R { s with objs:=s.objs.set n ⟨(s.objs[n]).cls,(s.objs[n]).slots.set k v⟩ } (n+4)=((s.objs[n]).slots.set k v).map cVal:=by
    show((((s.objs.set n _)[n]?).getD ⟨0,[]⟩).slots.map cVal)=_
    rw[List.getElem?_set_self hn];rfl
   rw[hi,e]
   refine⟨by rw[w6],?_,by simpa using z3,Bm⟩
   have a1:=FF (s.objs[n]).slots cs
   have a2:=FF ((s.objs[n]).slots.set k v) cs
   rw[List.length_set]at a2
   exact le_of_le_of_eq z2 (a1.trans a2.symm)
  ·have e:rCt R { s with objs:=s.objs.set n ⟨(s.objs[n]).cls,(s.objs[n]).slots.set k v⟩ } a=rCt R s a:=by
    match a with
    |0=>rfl
    |1=>rfl
    |2=>rfl
    |3=>exact OX _ _ n hn _ rfl (by simp)
    |m+4=>
     show((((s.objs.set n _)[m]?).getD ⟨0,[]⟩).slots.map cVal)=((((s.objs)[m]?).getD ⟨0,[]⟩).slots.map cVal)
     rw[List.getElem?_set_ne (by omega)]
   rw[e]
   exact(h.rows.ok a).keep fun j o hj aV=>by rw[w7 _ _ fun e2=>ea (h.rows.dj a (n+4) j aV (by rw[e2];exact aK))];exact hj
theorem T0(x:CIns)(r:List MVal)(w v:MVal)(hp:p.wt<=1073741824)(hR:RunS ir p R s O)(hs:s.stk=r++[w,v])(hn:s.stk.length<=1000000)(hv:okV s.objs.length w=true)(ho:Bc (A2 p) s.objs=true):DCall prog 112 [.ptr ir 0,.agg (cIns x)] O fun y U'=> ∃R',RunK ir R O R' U' /\
  if Bf (A2 p) s.objs w x.a<0 then y=.ret (.bool true)/\HaltS ir p R' { s with stk:=r } .nils false (FO s 5 (r++[w])) U' else
   y=.ret (.bool false)/\RunS ir p R' { s with objs:=setObj s.objs w.n ⟨(CQ s.objs w.n).cls,(CQ s.objs w.n).slots.set (Bf (A2 p) s.objs w x.a).toNat v⟩,stk:=r++[v] } U':=by
 have hl:s.stk.length=r.length+2:=by rw[hs];simp
 refine en func112 ntmps112 ?_
 refine gz ?_ o112
 refine A3 (BS (r++[w]) v hR (by rw[hs];simp) hn) (fun d S0 hr=>?_) (fun d S0 hr=>by cases hr.1)
 obtain⟨hd,R0,aZ,aP⟩:=hr
 cases hd
 refine gz ?_
 refine Hy (id:=2) [0,1,3,4,2,5,6] [2,5] (fun _=>none) (fun _ _ h=>by cases h) ?_
 refine gz ?_ o112
 refine Bx (BS r w aZ rfl (by simp;omega)) (fun d S1 hr=>?_) (fun d S1 hr=>by cases hr.1)
 obtain⟨hd,R1,aa,ae⟩:=hr
 cases hd
 refine⟨(fun _ _ h=>by cases h),?_⟩
 refine Bx (Mh w x.a hp aa hv ho) (fun d S2 hr=>?_) (fun d S2 hr=>by rcases hr.2 with⟨_,h⟩|⟨_,_,_,_,_,_,h⟩<;>cases h)
 obtain⟨rfl,hr⟩:=hr
 refine⟨(fun _ _ h=>by cases h),?_⟩
 rcases hr with⟨h0,hd⟩|⟨h0,h3,i,c,cs,hi,hd⟩
 ·cases hd
  refine gz ?_ o112
  refine A3 (Gw 5 (r++[w]) aa) (fun d S3 hr=>?_) (fun d S3 hr=>by cases hr.1)
  obtain⟨hd,h1,h2⟩:=hr
  cases hd
  refine gz ?_ o112
  exact fin1 (U':=S3) ⟨R1,(aP.trans ae).trans h2,by rw[if_pos h0];exact⟨rfl,h1⟩⟩
 ·obtain⟨n,k,e1,e2,ag,ak,e3,L,hL,z1,z2,z3⟩:=Qg aa hv ho h0 h3 hi
  have e4:Bf (A2 p) s.objs w x.a=k:=e2
  obtain rfl:d=.ptr i (k*2):=by cases hd;show D.ptr i ((Bf (A2 p) s.objs w x.a).toNat*2)=_;rw[e4];rfl
  have aX:R1 (n+4)=.row i c cs:=by rw[<-hi,e1];rfl
  obtain⟨p1,p2⟩:=aa.slot ag ak aX v hL
  have hf:¬L.length<k*2+2:=by omega
  rw[List.append_assoc]at p1 p2
  have e5:setObj s.objs w.n ⟨(CQ s.objs w.n).cls,(CQ s.objs w.n).slots.set (Bf (A2 p) s.objs w x.a).toNat v⟩=s.objs.set n ⟨(s.objs[n]'ag).cls,(s.objs[n]'ag).slots.set k v⟩:=by
   unfold setObj
   rw[e4,show CQ s.objs w.n=s.objs[n]'ag from e3,e1];rfl
  refine gf (gi z1 hf) ?_ o112
  refine A3 (Bl v p1 (by simp;omega)) (fun d S3 hr=>?_) (fun d S3 hr=>by cases hr.1)
  obtain⟨hd,R3,ah,ai⟩:=hr
  cases hd
  refine gz ?_ o112
  exact fin1 (U':=S3) ⟨R3,((aP.trans ae).trans p2).trans ai,by rw[if_neg (by omega),e5];exact⟨rfl,ah⟩⟩
theorem T1(x:CIns)(r:List MVal)(v:MVal)(hR:RunS ir p R s O)(hs:s.stk=r++[v])(hn:s.stk.length<=1000000)(he:s.evs.length<=1000000):DCall prog 111 [.ptr ir 0,.agg (cIns x)] O fun y U'=>y=.ret (.bool false) /\ ∃R',RunS ir p R' { s with evs:=s.evs++[⟨2,0,[v]⟩],stk:=r++[v] } U'/\RunK ir R O R' U':=by
 have hl:s.stk.length=r.length+1:=by rw[hs];simp
 refine en func111 ntmps111 ?_
 refine gz ?_ o111
 refine A3 (BS r v hR hs hn) (fun d S1 hr=>?_) (fun d S1 hr=>by cases hr.1)
 obtain⟨hd,R1,aa,ae⟩:=hr
 cases hd
 have q1:=aa.obj
 have q0:RWAt S1 3 (R1 2) (s.evs.map cEv):=aa.rows.ok 2
 have u1:=D2 q1 (aa.ni 2)
 refine gz ?_
 refine EP (id:=2) [0,1,2,3,4,5,6,7,8,9,10,11,12,13] [10] (S1.out (R1 2).is) (C1 _ _) ?_
 refine gf u1 ?_ o111
 refine Gb (es:=s.evs.map cEv) (fun i c cs S2 aw ay=>?_) (fun j o h=>Cf h) (hm:=q0)
 obtain⟨v1,v2⟩:=ay _ _ q1 (aa.ni 2)
 refine gf v1 ?_ o111
 rw[show s.evs.map cEv++[[D.int .i64 2,D.int .i64 0,.slice [cVal v] .clip]]=(s.evs++[(⟨2,0,[v]⟩:MEv)]).map cEv by simp[cEv]]at aw
 obtain⟨p1,p2⟩:=aa.put (a:=2) (s':={ s with stk:=r,evs:=s.evs++[⟨2,0,[v]⟩] }) aw ay (rCt_2 R1 _ { s with stk:=r } _) rfl
 refine drp (S2.set ir (.cells (AO p (updF R1 2 (.row i c cs)) { s with stk:=r,evs:=s.evs++[⟨2,0,[v]⟩] }))) ?_ (by simp[AO,Ag];exact Sub.refl _)
 refine A3 (Bl v p1 (by simp;omega)) (fun d S3 hr=>?_) (fun d S3 hr=>by cases hr.1)
 obtain⟨hd,R3,ah,ai⟩:=hr
 cases hd
 refine gz ?_ o111
 exact fin1 (U':=S3) ⟨rfl,R3,ah,(ae.trans p2).trans ai⟩
end
section
variable {ro:Ro}{n:Nat}{ops:Array Oper}{N:Nat}{B:Sig->Prop}{Q:DX->St->Prop}{df:List DDf}{rest:List Oper}{γ Sr:List (Nat×D)}{O:Sig}{t:Nat}{ty:TypeId}{pos:String}{after:Array Edge}{e1 c1 k1:Bool}{l:List (Bool×Bool×Bool×Oper)}
theorem Qk{g:G}{w:Go.World}{T e i off len cap:Nat}{k:IntKind}{v u:Value}(hk:(tab T).k=.slice e)(he:A1 (tab e).k=false)(hv:Rep g (.sref i off len cap) v)(hu:Rep g (.int k cap) u)(aJ:cap<=len):
  ∃r,(Instr.sliceAt T v (some u) none none).run prog w=.ok r w/\Rep g (.sref i off (len-cap) 0) r:=by
 obtain⟨b,hb,rfl⟩:=hv
 obtain rfl:=B4 hu
 refine⟨_,?_,KE (len:=len-cap) (cap:=0) (off:=off) hb⟩
 have hu:=AB Ac hk
 have c1:(0:Int)<=(cap:Int):=by omega
 have c2:(cap:Int)<=(len:Int):=by omega
 simp only[Option.map_some,Instr.sliceAt,Instr.slice,Instr.sliceBounds,Instr.sliceBound,asIntOf,Sem.run_bind,Sem.run_pure,Result.andThen_ok,run_underlying hu,c1,c2,and_self,if_true,Ay (Ac e) (Ae he),Int.toNat_natCast,Nat.sub_self]
theorem iCutL{T e i off len cap lo:Nat}{k:IntKind}{x y:Operand}(h:∀off',(cap=lo/\off'=off\/lo<cap/\off'=off+lo*(tab e).size)->MOI prog ro n ops N Q df l B ((t,.sref i off' (len-lo) (cap-lo))::γ) O)(hB:B O)(aJ:lo<=len)(ba:len<=cap)
  (hl:A0 γ (A5 [x,y])=some Sr:=by exact tdR) (h1:ev Sr x=.sref i off len cap:=by exact tdR) (h2:ev Sr y=.int k lo:=by exact tdR) (hk:(tab T).k=.slice e:=by(simp<;>rfl)) (he:A1 (tab e).k=false:=by simp) (aj:decide (t<n)=true:=by exact tdR) :
  MOI prog ro n ops N Q df ((true,c1,k1,⟨some t,.slice T x (some y) none none,ty,pos,after,none⟩)::l) B γ O:=by
 refine moI_1 B (fun _=>rfl) (fun U2 hx=>?_) aj (by rw[Ak];rfl)
 obtain⟨e1,e2⟩:=evs hl
 have g1:ev U2 x=.sref i off len cap:=by rw[hx x (by simp[Op.operands]),<-e1,h1]
 have g2:ev U2 y=.int k lo:=by rw[hx y (by simp[Op.operands]),<-e2,h2]
 refine By (fun d U'=>(∃off',(cap=lo/\off'=off\/lo<cap/\off'=off+lo*(tab e).size)/\d=.sref i off' (len-lo) (cap-lo))/\U'=O) rfl (fun c e=>by cases e) (Aa fun c e=>by cases e) (by simp only[Ap];exact aj) ?_
  (fun d U' ⟨⟨o,a1,a2⟩,a3⟩=>by
   subst a2 a3
   refine Aw ⟨rfl,?_⟩
   exact⟨hB,by simp only[putD,A6,if_true];exact h o a1⟩)
 intro g w a hs hT
 have hx:=Ai hT x
 have hy:=Ai hT y
 rw[g1]at hx
 rw[g2]at hy
 by_cases hc:lo<cap
 ·obtain⟨r,h4,h5⟩:=NV (w:=w) Ac hk he hx hy aJ hc
  exact⟨g,w,r,_,O,by simp only[execOp,Option.map_some,Option.map_none,Sem.run_bind,h4,Result.andThen_ok,Sem.run_pure],.refl g,hs,h5,⟨_,.inr ⟨hc,rfl⟩,rfl⟩,rfl⟩
 ·obtain rfl:lo=cap:=by omega
  obtain⟨r,h4,h5⟩:=Qk (w:=w) hk he hx hy aJ
  exact⟨g,w,r,_,O,by simp only[execOp,Option.map_some,Option.map_none,Sem.run_bind,h4,Result.andThen_ok,Sem.run_pure],.refl g,hs,h5,⟨_,.inl ⟨rfl,rfl⟩,by rw[Nat.sub_self]⟩,rfl⟩
theorem frzT{ops':List Oper}{sz:Nat}{r:RW}{es:List (List D)}(tt:Nat)(hm:RWAt O sz r es)(h:∀U',(∀j o,O j=some o->¬r.is j->U' j=some o)->DOps prog ro n ops Q ops' ⟨(tt,.slice es .no)::γ,U',df⟩)(hg:getD γ tt=r.d es.length:=by simp[getD,List.lookup]):DOps prog ro n ops Q ops' ⟨γ,O,df⟩:=by
 obtain⟨S2,h3,h4⟩:=HL (P:=prog) (n:=n) (γ:=γ) (df:=df) (t:=tt) hm hg
 exact C4 h3 (h S2 h4)
theorem cutN{T e:Nat}{k:IntKind}{x y:Operand}(h:DOps prog ro n ops Q rest ⟨(t,.nils)::γ,O,df⟩)
  (hl:A0 γ (A5 [x,y])=some Sr:=by exact tdR) (h1:ev Sr x=.nils:=by exact tdR) (h2:ev Sr y=.int k 0:=by exact tdR) (hk:(tab T).k=.slice e:=by(simp<;>rfl)) (he:A1 (tab e).k=false:=by simp) (aj:decide (t<n)=true:=by exact tdR) :
  DOps prog ro n ops Q (⟨some t,.slice T x none (some y) none,ty,pos,after,none⟩::rest) ⟨γ,O,df⟩:=by
 obtain⟨e1,e2⟩:=evs hl
 refine By (fun d U'=>d=.nils/\U'=O) rfl (fun c e=>by cases e) (Aa fun c e=>by cases e) (by simp only[Ap];exact aj) ?_
  (fun d U' ⟨a2,a3⟩=>by subst a2 a3;exact h)
 intro g w a hs hT
 have hx:=Ai hT x
 have hy:=Ai hT y
 rw[<-e1,h1]at hx
 rw[<-e2,h2]at hy
 have aF:=B4 hy
 have hu:=AB Ac hk
 have aG:a.eval x=.slice none 0 0:=hx
 refine⟨g,w,.slice none 0 0,.nils,O,?_,.refl g,hs,rfl,rfl,rfl⟩
 simp only[execOp,Option.map_some,Option.map_none,aG,aF,Instr.sliceAt,Instr.slice,Instr.sliceBounds,Instr.sliceBound,asIntOf,Sem.run_bind,Sem.run_pure,Result.andThen_ok,run_underlying hu,Ay (Ac e) (Ae he)]
 rfl
theorem cutF{T e:Nat}{k:IntKind}{x y:Operand}(h:DOps prog ro n ops Q rest ⟨(t,.slice [] .clip)::γ,O,df⟩)
  (hl:A0 γ (A5 [x,y])=some Sr:=by exact tdR) (h1:ev Sr x=.slice [] .clip:=by exact tdR) (h2:ev Sr y=.int k 0:=by exact tdR) (hk:(tab T).k=.slice e:=by(simp<;>rfl)) (he:A1 (tab e).k=false:=by simp) (aj:decide (t<n)=true:=by exact tdR) :
  DOps prog ro n ops Q (⟨some t,.slice T x none (some y) none,ty,pos,after,none⟩::rest) ⟨γ,O,df⟩:=by
 obtain⟨e1,e2⟩:=evs hl
 refine By (fun d U'=>d=.slice [] .clip/\U'=O) rfl (fun c e=>by cases e) (Aa fun c e=>by cases e) (by simp only[Ap];exact aj) ?_
  (fun d U' ⟨a2,a3⟩=>by subst a2 a3;exact h)
 intro g w a hs hT
 have hx:=Ai hT x
 have hy:=Ai hT y
 rw[<-e1,h1]at hx
 rw[<-e2,h2]at hy
 have aF:=B4 hy
 have hu:=AB Ac hk
 have aQ:=hx
 obtain⟨b,cap,h1,h2,h3,h4⟩:=hx
 obtain rfl:cap=0:=h4
 have aG:a.eval x=.slice b 0 0:=h1
 refine⟨g,w,a.eval x,.slice [] .clip,O,?_,.refl g,hs,aQ,rfl,rfl⟩
 simp only[execOp,Option.map_some,Option.map_none,aG,aF,Instr.sliceAt,Instr.slice,Instr.sliceBounds,Instr.sliceBound,asIntOf,Sem.run_bind,Sem.run_pure,Result.andThen_ok,run_underlying hu,Ay (Ac e) (Ae he)]
 rfl
theorem xappB{T T' e e' sz:Nat}{s x:Operand}{es new:List (List D)}{r:RW}(h:∀r' U',RWAt U' sz r' (es++new)->RWK O r U' r'->(new=[] \/ ∃i c cs,r'=.row i c cs)->DOps prog ro n ops Q rest ⟨(t,r'.d (es.length+new.length))::γ,U',df⟩)(hm:RWAt O sz r es)(h2:Jt prog O sz (ev Sr x) new)(aY:∀c∈new,BC c=true)
  (hlen':∀c∈new,c.length=sz)
  (hl:A0 γ (A5 [s,x])=some Sr:=by exact tdR) (hk:(tab T).k=.slice e:=by(simp<;>rfl)) (aT:(tab T').k=.slice e':=by(simp<;>rfl)) (he:A1 (tab e).k=false:=by simp) (hsz:(tab e).size=sz:=by simp)
  (h1:ev Sr s=r.d es.length:=by first|with_unfolding_all rfl|(simp[ev,getD,List.lookup];done))
  (hb:(es.length+new.length)*(tab e).bytes<=140737488355328:=by first|(simp;done)|(simp;omega)) (hm2:es.length+new.length<=9223372036854775807:=by first|(simp;done)|(simp;omega)) (aj:decide (t<n)=true:=by exact tdR) :
  DOps prog ro n ops Q (⟨some t,(cA s x T T'),ty,pos,after,none⟩::rest) ⟨γ,O,df⟩:=by
 obtain⟨e1,e2⟩:=evs hl
 exact DZ Ac (by simpa using aj) hk aT he hsz (by rw[<-e1];exact h1) hm (by rw[<-e2];exact h2) hlen' aY hb hm2 fun r' U' h1 h2 h3=>h r' U' h1 h2 (h3.imp (·.1) id)
theorem isR{x:Operand}{i off len cap T T' e:Nat}(h:DOps prog ro n ops Q rest ⟨(t,.bool false)::γ,O,df⟩)(hl:A0 γ (A5 [x])=some Sr:=by exact tdR)(hx:ev Sr x=.sref i off len cap:=by exact tdR)(hk:(tab T).k=.slice e:=by(simp<;>rfl))(aj:decide (t<n)=true:=by exact tdR):
  DOps prog ro n ops Q (⟨some t,.binOp .eql T x (.const (.slice none 0 0)) T',ty,pos,after,none⟩::rest) ⟨γ,O,df⟩:=by
 refine By (fun d U'=>d=.bool false/\U'=O) rfl (fun c e=>by cases e) (Aa fun c e=>by cases e) (by simp only[Ap];exact aj) ?_
  (fun d U' ⟨a2,a3⟩=>by subst a2 a3;exact h)
 intro g w a hs hT
 have hv:=Ai hT x
 rw[<-BY hl,hx]at hv
 obtain⟨b,hb,h1⟩:=hv
 have:=run_equal_slice_nil (P:=prog) w T e (some ⟨b,off,none⟩) len cap (AB Ac hk)
 refine⟨g,w,.bool false,.bool false,O,?_,.refl g,hs,rfl,rfl,rfl⟩
 have hg:(eqGuard .eql T x (.const (.slice none 0 0)) (a.eval x) (.slice none 0 0)).run prog w=.ok () w:=by rw[h1];rfl
 simp only[execOp,Sem.run_bind,show a.eval (.const (.slice none 0 0))=.slice none 0 0 from rfl,hg,Result.andThen_ok]
 simp only[binOp,Sem.run_bind,h1,this,Result.andThen_ok]
 rfl
end
section
variable {ir:Nat}{p:BProg}{R:Nat->RW}{s:GoS}{O:Sig}
theorem RA(i off cap:Nat)(new:List MVal)(O:Sig)(hn:new.length<=1000000)(am:Jt prog O 2 (.sref i off new.length cap) (new.map cVal)):DCall prog 47 [.sref i off new.length cap] O (rS (.slice (new.map cVal) .no) O):=by
 refine en func47 ntmps47 ?_
 refine gz ?_
 refine isR ?_
 refine gz ?_
 refine xappR (r:=.full []) (es:=[]) (new:=new.map cVal) (fun r' S1 h1 h2=>?_) ⟨rfl,by simp⟩ am (fun c hc=>by obtain⟨v,_,rfl⟩:=List.mem_map.1 hc;rfl) Bm
 refine frzT 7 h1 (fun S2 h4=>?_)
 have hS:Sub O S2:=fun j o hj=>by
  obtain⟨k1,k2⟩:=h2 j o hj id
  exact h4 j o k1 k2
 refine gz ?_
 exact fin1 (U':=O) ⟨rfl,rfl⟩
theorem IH(new:List MVal)(o:Own)(O:Sig)(hn:new.length<=1000000):DCall prog 47 [.slice (new.map cVal) o] O fun x U'=> ∃r':RW,x=.ret (r'.d new.length)/\RWAt U' 2 r' (new.map cVal)/\RWK O .nil U' r' /\ ∀es,r'=.full es->es=[]:=by
 refine en func47 ntmps47 ?_
 refine gz ?_
 refine isN (fun b hb=>?_)
 cases b with
 |true=>
  have aq:new=[]:=by simpa using hb rfl
  subst aq
  refine gz ?_
  exact fin1 (U':=O) ⟨.nil,rfl,rfl,RWK.refl _ _,fun es h=>by cases h⟩
 | false =>
  refine gz ?_
  refine xappB (r:=.full []) (es:=[]) (new:=new.map cVal) (fun r' S1 h1 h2 h3=>?_) ⟨rfl,by simp⟩ (Hl rfl Bm) (fun c hc=>by obtain⟨v,_,rfl⟩:=List.mem_map.1 hc;rfl) Bm
  rw[show([]:List (List D)).length+(new.map cVal).length=new.length by simp]
  refine gz ?_
  refine fin1 (U':=S1) ⟨r',rfl,h1,fun j o hj _=>h2 j o hj id,fun es h=>?_⟩
  rcases h3 with h3|⟨i,c,cs,h3⟩
  ·subst h
   have:=h1.1
   rw[h3]at this
   exact this.symm
  ·rw[h3]at h;cases h
theorem M4(O:Sig):DCall prog 47 [.slice [] .no] O (rS (.slice [] .no) O):=by
 refine en func47 ntmps47 ?_
 refine gz ?_
 refine isN (fun b hb=>?_)
 cases b with
 |true=>
  refine gz ?_
  exact fin1 (U':=O) ⟨rfl,rfl⟩
 | false =>
  refine gz ?_
  refine xappR (sz:=2) (r:=.full []) (es:=[]) (new:=[]) (fun r' S1 h1 h2=>?_) ⟨rfl,by simp⟩ (Hl rfl (by simp)) (by simp) (by simp)
  refine frzT 7 h1 (fun S2 h4=>?_)
  have hS:Sub O S2:=fun j o hj=>by
   obtain⟨k1,k2⟩:=h2 j o hj id
   exact h4 j o k1 k2
  refine gz ?_
  exact fin1 (U':=O) ⟨rfl,rfl⟩
abbrev J0(p:BProg)(R:Nat->RW)(s:GoS)(d0:D)(k g:Int)(a:D):List D:=[dI k,dI 0,dI 0,dI g,a,dI 0,dI 0,.nils,.nils,(R 3).d s.objs.length,(R 2).d s.evs.length]++Ag p++[dI s.pos,d0,(R 1).d s.env.length]
theorem ST(x:CIns)(r args:List MVal)(k:Nat)(hp:p.wt<=1073741824)(hx:x.a=k)(hk:k<p.gens.length)(hg:p.gens[k]=args.length)(hR:RunS ir p R s O)(hs:s.stk=r++args)(hn:s.stk.length<=1000000):DCall prog 119 [.ptr ir 0,.agg (cIns x)] O fun y U'=>y=.ret (.bool true) /\ ∃R' av,HaltS ir p R' { s with stk:=r } av true ⟨2,vZ,x.a,args,0,s.pos,r,s.env,s.objs,s.evs⟩ U'/\RunK ir R O R' U':=by
 have q1:=hR.obj
 have hl:s.stk.length=r.length+args.length:=by rw[hs];simp
 have q0:RWAt O 2 (R 0) (s.stk.map cVal):=hR.rows.ok 0
 have bd:p.gens.length<=1073741824:=by obtain⟨a1,a2,a3,a4,a5,a6,a7⟩:=p.wt_le;omega
 cases h0:R 0 with
 |nil=>
  rw[h0,hs]at q0
  have q00:(r++args).map cVal=[]:=q0
  simp at q00
  obtain⟨rfl,rfl⟩:=q00
  unfold AO at q1
  rw[h0,hl]at q1
  rw[show RW.nil.d (([]:List MVal).length+([]:List MVal).length)=.nils from rfl]at q1
  refine en func119 ntmps119 ?_
  refine gf (gi q1 (gi hx hg)) ?_ (delO 2 o119)
  have q2:O ir=some (.cells (J0 p R s .nils 0 0 .nils)):=q1
  refine mixI (id:=2) [0,1,2,3,4,5,6,7,8,9,10,11,12,13,14,15,16,17,18,19,20,21,22,23,24] [12,16,20,24] [9] [16,20,24] (fun s=>s=O) rfl ?_
  refine iP _ ?_
  refine iP _ ?_
  refine iP _ ?_
  refine iP _ ?_
  refine iP (dI x.a) ?_
  refine iP _ ?_
  refine iP _ ?_
  refine iP _ ?_
  refine iP _ ?_
  refine iR .nils (fun s hs=>?_) ?_
  ·rw[hs];simp[q1]
  refine iP (dI 0) ?_
  refine iP (.slice [] .no) ?_
  refine iW (fun s=>s=O) (M4 O) (fun d S1 hr=>?_) (fun d S1 hr=>by cases hr.1)
  obtain⟨hd,rfl⟩:=hr
  cases hd
  refine⟨rfl,?_⟩
  refine iP _ ?_
  refine iP _ ?_
  refine iP (.ptr ir 0) ?_
  refine iS (d:=.any) (U':=S1.set ir (.cells (J0 p R s .nils 2 0 .nils))) (fun _=>True) trivial ?_ (he:=by simp[q2])
  refine iP _ ?_
  refine iP _ ?_
  refine iP (.ptr ir 3) ?_
  refine iS (d:=.any) (U':=S1.set ir (.cells (J0 p R s .nils 2 x.a .nils))) (fun _=>True) trivial ?_ (he:=by simp)
  refine iP _ ?_
  refine iP _ ?_
  refine iP (.ptr ir 4) ?_
  refine iS (d:=.any) (U':=S1.set ir (.cells (J0 p R s .nils 2 x.a (.slice [] .no)))) (fun _=>True) trivial ?_ (he:=by simp)
  refine iN ?_
  repeat ((fail_if_success refine cutN ?_);(refine go1 trivial ?_))
  refine cutN ?_
  refine gz ?_ o119
  refine Kw (r0:=.nil) (r1:=R 1) (m:=0) (m':=s.env.length) (w6 ..) ?_
  refine gz ?_ o119
  have ap:s.stk=[]:=hs
  obtain⟨p3,p4⟩:=hR.halt (av:=.slice [] .no) (b:=true) (k:=⟨2,vZ,x.a,[],0,s.pos,[],s.env,s.objs,s.evs⟩) rfl (A8 _) rfl rfl ⟨rfl,ap.symm,rfl⟩
  have es:s={ s with stk:=[] }:=by rw[<-ap]
  rw[<-es]
  refine fin1 (U':=_) ⟨rfl,_,_,p3,p4⟩ (hU:=?_)
  simp only[w8]
  unfold Og
  rw[h0,ap]
  exact Sub.refl _
 |full es=>
  obtain rfl:=hR.nf 0 es h0
  rw[h0,hs]at q0
  have q00:(r++args).map cVal=[]:=q0.1
  simp at q00
  obtain⟨rfl,rfl⟩:=q00
  unfold AO at q1
  rw[h0,hl]at q1
  rw[show(RW.full []).d (([]:List MVal).length+([]:List MVal).length)=.slice [] .clip from rfl]at q1
  refine en func119 ntmps119 ?_
  refine gf (gi q1 (gi hx hg)) ?_ (delO 2 o119)
  have q2:O ir=some (.cells (J0 p R s (.slice [] .clip) 0 0 .nils)):=q1
  refine mixI (id:=2) [0,1,2,3,4,5,6,7,8,9,10,11,12,13,14,15,16,17,18,19,20,21,22,23,24] [12,16,20,24] [9] [16,20,24] (fun s=>s=O) rfl ?_
  refine iP _ ?_
  refine iP _ ?_
  refine iP _ ?_
  refine iP _ ?_
  refine iP (dI x.a) ?_
  refine iP _ ?_
  refine iP _ ?_
  refine iP _ ?_
  refine iP _ ?_
  refine iR (.slice [] .clip) (fun s hs=>?_) ?_
  ·rw[hs];simp[q1]
  refine iP (dI 0) ?_
  refine iP (.slice [] .no) ?_
  refine iW (fun s=>s=O) (M4 O) (fun d S1 hr=>?_) (fun d S1 hr=>by cases hr.1)
  obtain⟨hd,rfl⟩:=hr
  cases hd
  refine⟨rfl,?_⟩
  refine iP _ ?_
  refine iP _ ?_
  refine iP (.ptr ir 0) ?_
  refine iS (d:=.any) (U':=S1.set ir (.cells (J0 p R s (.slice [] .clip) 2 0 .nils))) (fun _=>True) trivial ?_ (he:=by simp[q2])
  refine iP _ ?_
  refine iP _ ?_
  refine iP (.ptr ir 3) ?_
  refine iS (d:=.any) (U':=S1.set ir (.cells (J0 p R s (.slice [] .clip) 2 x.a .nils))) (fun _=>True) trivial ?_ (he:=by simp)
  refine iP _ ?_
  refine iP _ ?_
  refine iP (.ptr ir 4) ?_
  refine iS (d:=.any) (U':=S1.set ir (.cells (J0 p R s (.slice [] .clip) 2 x.a (.slice [] .no)))) (fun _=>True) trivial ?_ (he:=by simp)
  refine iN ?_
  repeat ((fail_if_success refine cutF ?_);(refine go1 trivial ?_))
  refine cutF ?_
  refine gz ?_ o119
  refine Kw (r0:=.full []) (r1:=R 1) (m:=0) (m':=s.env.length) (w6 ..) ?_
  refine gz ?_ o119
  have ap:s.stk=[]:=hs
  obtain⟨p3,p4⟩:=hR.halt (av:=.slice [] .no) (b:=true) (k:=⟨2,vZ,x.a,[],0,s.pos,[],s.env,s.objs,s.evs⟩) rfl (A8 _) rfl rfl ⟨rfl,ap.symm,rfl⟩
  have es:s={ s with stk:=[] }:=by rw[<-ap]
  rw[<-es]
  refine fin1 (U':=_) ⟨rfl,_,_,p3,p4⟩ (hU:=?_)
  simp only[w8]
  unfold Og
  rw[h0,ap]
  exact Sub.refl _
 | row i c cs =>
  rw[h0,hs]at q0
  unfold AO at q1
  rw[h0,hl]at q1
  simp only[EE]at q1
  obtain⟨z1,z2,z3,z4⟩:=q0
  simp only[List.length_map,List.length_append]at z3
  refine en func119 ntmps119 ?_
  refine gf (gi q1 (gi hx hg)) ?_ (delO 2 o119)
  refine mixI (id:=2) [0,1,2,3,4,5,6,7,8,9,10,11,12,13,14,15,16,17,18,19,20,21,22,23,24] [11,12,16,20,24] [9] [16,20,24] (fun s=>s=O) rfl ?_
  refine iP _ ?_
  refine iP _ ?_
  refine iP _ ?_
  refine iP _ ?_
  refine iP (dI x.a) ?_
  refine iP _ ?_
  refine iP _ ?_
  refine iP _ ?_
  refine iP _ ?_
  refine iR (.sref i 0 (r.length+args.length) c) (fun s hs=>?_) ?_
  ·rw[hs];simp[q1]
  refine iP (dI r.length) ?_
  refine iCutL (lo:=r.length) (len:=r.length+args.length) (cap:=c) (i:=i) (off:=0) (fun off' ho=>?_) rfl (by omega) z3
  rw[Nat.add_sub_cancel_left]
  have am:Jt prog O 2 (.sref i off' args.length (c-r.length)) (args.map cVal):=by
   have e:args.length=(args.map cVal).length:=by simp
   rcases ho with⟨rfl,rfl⟩|⟨h1,h2⟩
   ·obtain rfl:args=[]:=List.length_eq_zero_iff.1 (by omega)
    exact KA (pre:=[]) (es:=[]) (rest:=((List.map cVal (r++[])).flatten++cs)) (by simpa using z1) rfl (by simp) (by simp)
   ·rw[e]
    refine KA (pre:=(r.map cVal).flatten) (rest:=cs) (by rw[z1];simp) (by rw[Av Bm,List.length_map,h2];simp) Bm (by simp;omega)
  refine iW (fun s=>s=O) (RA i off' (c-r.length) args O (by omega) am) (fun d S1 hr=>?_) (fun d S1 hr=>by cases hr.1)
  obtain⟨hd,rfl⟩:=hr
  cases hd
  refine⟨rfl,?_⟩
  refine iP _ ?_
  refine iP _ ?_
  refine iP (.ptr ir 0) ?_
  refine iS (d:=.any) (U':=S1.set ir (.cells (J0 p R s (.sref i 0 (r.length+args.length) c) 2 0 .nils))) (fun _=>True) trivial ?_ (he:=by simp[q1])
  refine iP _ ?_
  refine iP _ ?_
  refine iP (.ptr ir 3) ?_
  refine iS (d:=.any) (U':=S1.set ir (.cells (J0 p R s (.sref i 0 (r.length+args.length) c) 2 x.a .nils))) (fun _=>True) trivial ?_ (he:=by simp)
  refine iP _ ?_
  refine iP _ ?_
  refine iP (.ptr ir 4) ?_
  refine iS (d:=.any) (U':=S1.set ir (.cells (J0 p R s (.sref i 0 (r.length+args.length) c) 2 x.a (.slice (args.map cVal) .no)))) (fun _=>True) trivial ?_ (he:=by simp)
  refine iN ?_
  refine gz ?_ o119
  refine cutH (i:=i) (off:=0) (len:=r.length+args.length) (cap:=c) (hi:=r.length) ?_ (by omega)
  refine gz ?_ o119
  refine Kw (r0:=.row i c []) (r1:=R 1) (w6 ..) ?_
  refine gz ?_ o119
  have hr:RWAt S1 2 (.row i c ((args.map cVal).flatten++cs)) (r.map cVal):=⟨by rw[z1];simp,by rw[<-List.append_assoc];simpa using z2,by simp;omega,Bm⟩
  obtain⟨p1,p2⟩:=hR.re (a:=0) (s':={ s with stk:=r }) hr (by rw[h0];exact fun j h=>h) (rCt_0 R _ s _) rfl
  obtain⟨p3,p4⟩:=p1.halt (av:=.slice (args.map cVal) .no) (b:=true) (k:=⟨2,vZ,x.a,args,0,s.pos,r,s.env,s.objs,s.evs⟩) rfl (A8 _) rfl rfl ⟨rfl,rfl,rfl⟩
  refine fin1 (U':=_) ⟨rfl,_,_,p3,p2.trans p4⟩ (hU:=?_)
  simp only[w8]
  exact Sub.refl _
end
def cTh(x:MThing):List D:=[dI x.cls,sl (x.slots.map cVal)]
@[simp] theorem cTh_mem(x:MThing)(d:D):(d∈cTh x)=(d=dI x.cls\/d=sl (x.slots.map cVal)):=by simp[cTh]
@[simp] theorem cTh_len(x:MThing):(cTh x).length=2:=rfl
@[simp] theorem cTh_tk(x:MThing):List.take 2 (cTh x)=cTh x:=rfl
@[simp] theorem rwd_nil(n:Nat):RW.nil.d n=.nils:=rfl
@[simp] theorem U5(es:List (List D))(n:Nat):(RW.full es).d n=.slice es .clip:=rfl
def FrV(O:Sig)(r:RW)(l:List MVal)(U':Sig):Prop:=RWAt U' 2 r (l.map cVal)/\RWK O .nil U' r /\ ∀es,r=.full es->es=[]
theorem RP(v:MVal)(O:Sig):DCall prog 339 [.agg (cVal v)] O (rS (.agg (cVal v)) O):=by
 refine en func339 ntmps339 ?_
 refine gz ?_ [] [2]
 refine newV (fun i2 aA=>?_)
 refine gz ?_ [] [2]
 exact finC (U':=O) ⟨rfl,rfl⟩
@[reducible,instance] def a339:=fun v O=>ah0 (@RP v O)
theorem RJ(i n c:Nat)(O:Sig)(hn:n<=c)(hb:n<=1000000):DCall prog 367 [.sref i 0 n c] O (rS (.sref i 0 n n) O):=by
 refine en func367 ntmps367 ?_
 refine gz ?_
 refine Ka Ac (off:=0) (m:=n) (cap:=c) ?_ (by decide) (by simp<;>rfl) (by simp) rfl rfl rfl (Nat.le_refl _) hn
 refine gz ?_
 exact fin1 (U':=O) ⟨rfl,rfl⟩
@[reducible,instance] def a367:=fun i n c O=>ah2 (@RJ i n c O)
theorem Pq(O:Sig):DCall prog 367 [.nils] O (rS (.slice [] .clip) O):=by
 refine en func367 ntmps367 ?_
 refine gz ?_
 exact fin1 (U':=O) ⟨rfl,rfl⟩
@[reducible,instance] def a367n:=fun O=>ah0 (@Pq O)
theorem RQ(l:List MVal)(o:Own)(O:Sig)(hl:l.length<=1000000):DCall prog 338 [.slice (l.map cVal) o,.func (.func 339) [] []] O fun x U'=> ∃r,x=.ret (r.d l.length)/\FrV O r l U':=by
 refine en func338 ntmps338 ?_
 refine gz ?_
 refine ET [1,4,8,9,21,22] (fun (k:Nat) (r:RW) (S2:Sig)=>k<=l.length/\RWAt S2 2 r ((l.take k).map cVal)/\RWK O .nil S2 r/\(k=0/\r=.nil \/ ∃i c cs,r=.row i c cs)) (fun k r _=>[(10,dI k),(5,r.d k)]) (fun _ _ S2=>S2) (fun k _ _=>l.length-k) (0) (.nil) (O) (by exact⟨Nat.zero_le _,rfl,RWK.refl _ _,.inl ⟨rfl,rfl⟩⟩) (fun k r S2 hI=>?_)
 obtain⟨bb,hR,hK,hF⟩:=hI
 by_cases hk:k<l.length
 ·have ar:((l.take k).map cVal).length=k:=by simp;omega
  refine gz ?_
  refine xapp (new:=[cVal l[k]]) (fun i c cs S3 ah ai=>?_) hR (h1:=by rw[ar];with_unfolding_all rfl) (hb:=by rw[ar];simp;omega) (hm2:=by rw[ar];simp;omega)
  rw[show(l.take k).map cVal++[cVal l[k]]=(l.take (k+1)).map cVal by rw[List.take_succ_eq_append_getElem hk,List.map_append];rfl]at ah
  rw[show((l.take k).map cVal).length+[cVal l[k]].length=k+1 by simp;omega]
  refine gz ?_
  exact⟨k+1,.row i c cs,S3,⟨by omega,ah,hK.trans ai,.inr ⟨_,_,_,rfl⟩⟩,td1,wkR⟩
 ·obtain rfl:k=l.length:=by omega
  rw[List.take_length]at hR
  rcases hF with⟨h0,rfl⟩|⟨i,c,cs,rfl⟩
  ·have aq:l=[]:=List.length_eq_zero_iff.1 h0
   subst aq
   refine gz ?_
   exact fin1 (U':=S2) ⟨.full [],rfl,⟨rfl,by simp⟩,hK,fun es h=>by cases h;rfl⟩
  ·have hc:=hR.2.2.1
   rw[List.length_map]at hc
   refine gz ?_
   refine fin1 (U':=S2) ⟨.row i l.length cs,rfl,⟨hR.1,?_,by simp,Bm⟩,hK,fun es h=>by cases h⟩
   rw[List.length_append,Av Bm,List.length_map];omega
theorem Ma(l:List MVal)(o:Own)(O:Sig)(hl:l.length<=1000000):DCall prog 293 [.slice (l.map cVal) o] O fun x U'=> ∃r,x=.ret (r.d l.length)/\FrV O r l U':=by
 refine en func293 ntmps293 ?_
 refine gz ?_
 refine A3 (RQ l o O hl) (fun d S1 hr=>?_) (fun d S1 hr=>by obtain⟨_,h,_⟩:=hr;cases h)
 obtain⟨r,hd,hF⟩:=hr
 cases hd
 refine gz ?_
 exact fin1 (U':=S1) ⟨r,rfl,hF⟩
theorem TW{ir:Nat}{O:Sig}{ds:List D}{r1:RW}{a:Int}{m k:Nat}(h:O ir=some (.cells ds))(hl:k+2<=ds.length):DN tab O 131 (.ptr ir k) (.agg [dI a,r1.d m])=some (.any,O.set ir (.cells (ds.take k++[dI a,r1.d m]++ds.drop (k+2)))):=by
 have hf:¬ds.length<k+2:=by omega
 cases r1<;>simp[DN,h,RW.d,hf]
theorem RY(x:MThing)(O:Sig)(hl:x.slots.length<=1000000):DCall prog 295 [.agg (cTh x)] O fun y U'=> ∃r,y=.ret (.agg [dI x.cls,r.d x.slots.length])/\FrV O r x.slots U':=by
 refine en func295 ntmps295 ?_
 refine gz ?_ o295 [2]
 refine newV (fun i2 aA=>?_)
 refine gz ?_ [] [2]
 refine Hy (id:=1) [0,1,2,3,4,5,6] [4,6] O ((Sub.refl _).set aA) ?_
 refine gz ?_ o295 [2]
 refine Bx (Ma x.slots .no _ hl) (fun d S1 hr=>?_) (fun d S1 hr=>by obtain⟨_,h,_⟩:=hr;cases h)
 obtain⟨r,hd,h1,h2,h3⟩:=hr
 have aL:=(h2 i2 _ (w6 ..) id).1
 have aW:=(h2 i2 _ (w6 ..) id).2
 have hS:Sub O S1:=fun j o hj=>(h2 j o (by rw[w7 _ _ fun e=>by rw[e,aA]at hj;cases hj];exact hj) id).1
 have hF:∀ds,FrV O r x.slots (S1.set i2 (.cells ds)):=fun ds=>⟨h1.keep fun j o hj aU=>by rw[w7 _ _ fun e=>aW (by rw[<-e];exact aU)];exact hj,fun j o hj _=>by
  have hne:j≠i2:=fun e=>by rw[e,aA]at hj;cases hj
  have:=h2 j o (by rw[w7 _ _ hne];exact hj) id
  exact⟨by rw[w7 _ _ hne];exact this.1,this.2⟩,h3⟩
 have aM:∀ds,Sub O (S1.set i2 (.cells ds)):=fun ds j o hj=>by rw[w7 _ _ fun e=>by rw[e,aA]at hj;cases hj];exact hS j o hj
 cases hd
 refine⟨hS,?_⟩
 rcases r with _|es|⟨i,c,cs⟩
 ·have aN:Sub O (S1.set i2 (.cells [dI x.cls,.nils])):=aM _
  refine gf aL ?_ o295 [2]
  exact finC (U':=S1.set i2 (.cells [dI x.cls,.nils])) ⟨.nil,rfl,hF _⟩
 ·have aN:Sub O (S1.set i2 (.cells [dI x.cls,.slice es .clip])):=aM _
  refine gf aL ?_ o295 [2]
  exact finC (U':=S1.set i2 (.cells [dI x.cls,.slice es .clip])) ⟨.full es,rfl,hF _⟩
 ·have aN:Sub O (S1.set i2 (.cells [dI x.cls,.sref i 0 x.slots.length c])):=aM _
  refine gf aL ?_ o295 [2]
  exact finC (U':=S1.set i2 (.cells [dI x.cls,.sref i 0 x.slots.length c])) ⟨.row i c cs,rfl,hF _⟩
end Go.DL
