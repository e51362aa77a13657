/- Part of the proof that the last text ends. -/
import Derived.Test.YtlfimpogphmbdaaGreatM31
import Derived.Test.YtlfimpogphmbdaaGreatM24
import Derived.Test.YtlfimpogphmbdaaGreatM15
import Derived.Test.YtlfimpogphmbdaaGreatM16
import Derived.Test.YtlfimpogphmbdaaGreatM22
import Derived.Test.YtlfimpogphmbdaaGreatM20
import Derived.Test.YtlfimpogphmbdaaGreatM11
set_option linter.all false
namespace Go.DL
open Go.Proofs.Tryz
open Go Go.Proofs
set_option maxHeartbeats 8000000
def G2 (o:Option Str) (l i2:Nat) (LO:DObj) (V:Sig) (x:DE) (S':Sig):Prop:=x = .ret (.tup [])/\match o with
 | none=>Sub V S'
 | some w=>DoneY l i2 LO w V S'
theorem T7 (tk:List Str) (l i2:Nat) (LO:DObj) (V:Sig) (hl:V l=some LO) (hLO:isLD LO=true) (h2:V i2=some (.cells [.str []])) (hy : ∀ (w:Str) S',Sub V S'->w.length<=8->DYield prog l [.str w] S' (YR tk l i2 LO w S')) :
  DCall prog 286 [.yld l] V (G2 (Ju tk) l i2 LO V):=by
 refine en func286 ntmps286 ?_
 try refine gz ?_ [] [3,4]
 refine Ab (KR V) (fun d S' hr => ?_) (fun d S' hr=>by obtain ⟨_,_,h,_⟩:=hr;cases h)
 obtain ⟨ik,hik,e1,e2⟩:=hr
 cases e1
 rw [e2]
 clear e2 S'
 have o2:(V.set ik (.map (eSS kwds))) ik=some (.map (eSS kwds)):=w7 ..
 have hS:Sub V (V.set ik (.map (eSS kwds))):=(Sub.refl _).set hik
 generalize V.set ik (.map (eSS kwds))=S1 at *
 try refine gz ?_ [] [3,4]
 refine newV (fun i3 hi3 => ?_)
 try refine gz ?_ [] [3,4]
 refine De [1,2] (fun (k:Nat) (j3:Nat) (S2:Sig)=>1<=k/\k<=9/\Sub V S2/\S2 j3=some (.cells [dI (k:Int)])/\S2 ik=some (.map (eSS kwds))/\Ju tk=DY (fun k=>Dp tk k []) (9-k) k) (fun _ j3 _=>[(3, .ptr j3 0)]) (fun _ _ S2=>S2) (fun k _ _=>9-k) (1) (i3) (S1.set i3 (.cells [dI 1])) (by exact ⟨by omega,by omega,hS.trans ((Sub.refl _).set hi3),w7 .., by rw [w8 _ _ (A1 o2 hi3)];exact o2,rfl⟩) (fun k j3 S2 hI => ?_)
 obtain ⟨hk1,hk9,hS2,q3,q2,hR⟩:=hI
 by_cases hk:k<=8
 ·rw [show 9-k=(9-(k+1))+1 by omega,DJ _ (9-(k+1))] at hR
  try refine gf q3 ?_ [] [3,4]
  refine newV (fun i4 hi4 => ?_)
  try refine gz ?_ [] [3,4]
  have n1:=A1 q3 hi4
  have n2:=A1 q2 hi4
  generalize hU3:S2.set i4 (.cells [.func (.func 306) [] [.ptr j3 0, .cptr [.map ik] 0, .cptr [.yld l] 0, .ptr i4 0]])=S3
  have r4:S3 i4=some (.cells [.func (.func 306) [] [.ptr j3 0, .cptr [.map ik] 0, .cptr [.yld l] 0, .ptr i4 0]]):=by rw [<- hU3];exact w7 ..
  have r3:S3 j3=some (.cells [dI (k:Int)]):=by rw [<- hU3,w8 _ _ n1];exact q3
  have r2:S3 ik=some (.map (eSS kwds)):=by rw [<- hU3,w8 _ _ n2];exact q2
  have hS3:Sub V S3:=by rw [<- hU3];exact hS2.trans ((Sub.refl _).set hi4)
  clear hU3
  have h306:=SZ tk l i2 LO V hl hLO h2 hy j3 ik i4 k [] .no S3 (by simp;omega) hS3 (by simpa using r3) r2 r4
  refine callWP h306 (fun d S' hr => ?_) (fun d S' hr=>by unfold GR at hr;split at hr<;>cases hr.1)
  cases hg:Dp tk k [] with
  | none =>
   rw [hg] at hr hR
   obtain ⟨e1,hr⟩:=hr
   cases e1
   have s3:=hr _ _ r3
   try refine gf s3 ?_ [] [3,4]
   refine newV (fun i5 hi5 => ?_)
   have n5:=A1 (hr _ _ r2) hi5
   try refine gz ?_ [] [3,4]
   have hkk:((k:Int)+1)=((k+1:Nat):Int):=by omega
   exact ⟨k+1,i5,S'.set i5 (.cells [dI ((k+1:Nat):Int)]),⟨by omega,by omega,(hS3.trans hr).trans ((Sub.refl _).set hi5),w7 .., by rw [w8 _ _ n5];exact hr _ _ r2,hR⟩,td1,wkR⟩
  | some w =>
   rw [hg] at hr hR
   obtain ⟨e1,hr⟩:=hr
   cases e1
   try refine gz ?_ [] [3,4]
   refine fin0 (S':=S') ⟨rfl, ?_⟩
   rw [hR]
   exact hr.sub hS3
 ·have h0 : ∀ f:Nat->Option Str,DY f 0 k=none:=fun _=>rfl
  rw [show 9-k=0 by omega,h0] at hR
  try refine gf q3 ?_ [] [3,4]
  refine DM (S':=S2) ⟨rfl, ?_⟩
  rw [hR];exact hS2
theorem rangeY {P:Program} {n:Nat} {Q:DX->St->Prop} {γ:Fr} {V:Sig} {df:List DDf} {gop:Operand} {ps:Array Tmp} {asg body:Code} {f:Nat} {first cap:List D} (i2:Nat) (o:Option Str) {x2:DObj} (hi2:V i2=some x2)
  (hf:ev γ gop = .func (.func f) first cap)
  (hcall : ∀ l did LO,LO=DObj.loop .ready none ps asg body n γ did->V did=none->(V.set did .defs) l=none->DCall P f (first++[.yld l]++cap) ((V.set did .defs).set l LO) (G2 o l i2 LO ((V.set did .defs).set l LO)))
  (hnone:o=none -> ∀ did S',V did=none->S' did=some .defs->(∀ j x,V j=some x->S' j=some x/\j ≠ did)->Q .normal ⟨γ,S', .coll did::df⟩)
  (hsome : ∀ w,o=some w -> ∀ did S',V did=none->S' did=some .defs->S' i2=some (.cells [.str w])->(∀ j x,V j=some x->j ≠ i2->S' j=some x/\j ≠ did)->DWp P none n .ret Q ⟨γ,S', .coll did::df⟩) :
  DWp P none n (.rangeFunc gop ps asg body) Q ⟨γ,V,df⟩:=by
 refine ET (R:=fun l did x S'=>G2 o l i2 (DObj.loop .ready none ps asg body n γ did) ((V.set did .defs).set l (DObj.loop .ready none ps asg body n γ did)) x S') hf (fun l did hd hl hld => ?_) (fun l did d S' hd hl hld hr => ?_) (fun l did d S' hd hl hld hr=>by cases hr.1)
 ·have hl':(V.set did .defs) l=none:=by first | exact hl | (rw [w8 _ _ hld];exact hl)
  exact hcall l did _ rfl hd hl'
 ·have hl':(V.set did .defs) l=none:=by first | exact hl | (rw [w8 _ _ hld];exact hl)
  have hl0:V l=none:=by rw [w8 _ _ hld] at hl';exact hl'
  have dl : ∀ j,j ≠ l->(S'.del l) j=S' j:=fun j h=>by simp only [Sig.del,h,if_false]
  have b1 : ∀ j x,V j=some x->((V.set did .defs).set l (DObj.loop .ready none ps asg body n γ did)) j=some x/\j ≠ l/\j ≠ did:=fun j x hj=>by
   have e1:j ≠ l:=A1 hj hl0
   have e2:j ≠ did:=A1 hj hd
   exact ⟨by rw [w8 _ _ e1,w8 _ _ e2];exact hj,e1,e2⟩
  have b2:((V.set did .defs).set l (DObj.loop .ready none ps asg body n γ did)) did=some .defs:=by rw [w8 _ _ (Ne.symm hld)];exact w7 ..
  obtain ⟨e1,hr⟩:=hr
  cases o with
  | none =>
   have hr:Sub _ S':=hr
   refine ⟨.ready,none,hr _ _ (w7 ..),by simp,hnone rfl did _ hd (by rw [dl _ (Ne.symm hld)];exact hr _ _ b2) fun j x hj => ?_⟩
   obtain ⟨c1,c2,c3⟩:=b1 j x hj
   exact ⟨by rw [dl _ c2];exact hr _ _ c1,c3⟩
  | some w =>
   obtain ⟨d1,d2,d3⟩:DoneY l i2 _ w _ S':=hr
   obtain ⟨c1,c2,c3⟩:=b1 _ _ hi2
   refine ⟨.done,some .ret,d1,by simp,hsome w rfl did _ hd (by rw [dl _ (Ne.symm hld)];exact d3 _ _ b2 (Ne.symm hld) (Ne.symm c3)) (by rw [dl _ c2];exact d2) fun j x hj hn => ?_⟩
   obtain ⟨c1,c2,c3⟩:=b1 j x hj
   exact ⟨by rw [dl _ c2];exact d3 _ _ c1 c2 hn,c3⟩
def Ep (tk:List Str):Str:=(Ju tk).getD []
theorem Nm (tk:List Str) (im:Nat) (V:Sig) (hm:V im=some (.map (eSS tk))):DCall prog 253 [.map im] V (rS (.str (Ep tk)) V):=by
 refine Bc func253 rfl (by decide) ntmps253 (by simp) ?_
 try refine gz ?_ [] [2]
 refine newV (fun i2 hi2 => ?_)
 have n1:im ≠ i2:=A1 hm hi2
 have hm2:(V.set i2 (.cells [.str []])) im=some (.map (eSS tk)):=by rw [w8 _ _ n1];exact hm
 try refine gz ?_ [] [2]
 refine rangeY i2 (Ju tk) (w7 ..) rfl (fun l did LO hLO hd hl => ?_) (fun ho did S' hdn hdd hk => ?_) (fun w ho did S' hdn hdd hw2 hk => ?_)
 ·have e1:i2 ≠ did:=fun e=>by rw [<- e,w7] at hd;cases hd
  have e2:im ≠ did:=fun e=>by rw [<- e,hm2] at hd;cases hd
  have e3:i2 ≠ l:=fun e=>by rw [<- e,w8 _ _ e1,w7] at hl;cases hl
  have e4:im ≠ l:=fun e=>by rw [<- e,w8 _ _ e2,hm2] at hl;cases hl
  refine T7 tk l i2 LO _ (w7 ..) (Jj hLO).1 (by rw [w8 _ _ e3,w8 _ _ e1];exact w7 ..) fun w S1 hS hwl => ?_
  have g1:S1 l=some LO:=hS _ _ (w7 ..)
  have g2:S1 im=some (.map (eSS tk)):=hS _ _ (by rw [w8 _ _ e4,w8 _ _ e2];exact hm2)
  have g3:S1 i2=some (.cells [.str []]):=hS _ _ (by rw [w8 _ _ e3,w8 _ _ e1];exact w7 ..)
  refine Ea hLO g1 ?_
  try refine gz ?_ [] [2]
  refine ⟨g1, ?_⟩
  have g2b:(S1.set l (C3 LO)) im=some (.map (eSS tk)):=by rw [w8 _ _ e4];exact g2
  by_cases hw:w ∈ tk
  ·try refine gf (gi g2 hw) ?_ [] [2]
   exact ⟨w7 .., by unfold YR;rw [if_pos hw];exact ⟨rfl,by rw [w9,Sig.set_self _ g1];exact Sub.refl _⟩⟩
  ·try refine gf (gi g2 (gi g3 hw)) ?_ [] [2]
   refine ⟨(w8 _ _ (Ne.symm e3)).trans (w7 ..), ?_⟩
   unfold YR;rw [if_neg hw]
   refine ⟨rfl,w7 .., (w8 _ _ e3).trans (w7 ..),fun j o hj h1 h2 => ?_⟩
   show (((S1.set l (C3 LO)).set i2 (.cells [.str w])).set l (VW .ret LO)) j=some o
   rw [w8 _ _ h1,w8 _ _ h2,w8 _ _ h1];exact hj
 ·have hf:Ep tk=[]:=by unfold Ep;rw [ho];rfl
  have h2:=(hk i2 _ (w7 ..)).1
  have hdi:i2 ≠ did:=(hk i2 _ (w7 ..)).2
  have hdm:did ≠ i2:=Ne.symm hdi
  try refine gf h2 ?_ [] [2]
  refine finMC [did] (S':=V) (ds:=[.str []]) ⟨by rw [hf];rfl,rfl⟩ (fun j x hj => ?_) (by simp) (by simp [w8 _ _ hdm,hdd]) (by simp [resL,dels,Sig.del,hdi]) (A9 _)
  have ne2:j ≠ i2:=A1 hj hi2
  obtain ⟨c1,c2⟩:=hk j x (by rw [w8 _ _ ne2];exact hj)
  rw [JM _ _ _ (by simpa using c2),w8 _ _ ne2];exact c1
 ·have hf:Ep tk=w:=by unfold Ep;rw [ho];rfl
  have hdi:i2 ≠ did:=fun e=>by rw [<- e,hw2] at hdd;cases hdd
  try refine gz ?_ [] [2]
  refine finMC [did] (S':=V) (ds:=[.str w]) ⟨by rw [hf];rfl,rfl⟩ (fun j x hj => ?_) (by simp) (by simp [hdd]) (by simp [resL,dels,Sig.del,hdi,hw2]) (A9 _)
  have ne2:j ≠ i2:=A1 hj hi2
  obtain ⟨c1,c2⟩:=hk j x (by rw [w8 _ _ ne2];exact hj) ne2
  rw [JM _ _ _ (by simpa using c2)];exact c1
theorem OW (x:Str) : ∀ (l m:List Str),x ∈ setL l m ↔ x ∈ l\/x ∈ m
 | [],m=>by simp [setL]
 | y::r,m=>by rw [setL,OW x r,Jd,List.mem_cons];grind
theorem Fv {f g:Nat->Option Str} (h : ∀ j,f j=g j) : ∀ k j,DY f k j=DY g k j
 | 0,_=>rfl
 | k+1,j=>by rw [DJ,DJ,h j,Fv h k]
theorem Jq {a b:List Str} (h : ∀ x,x ∈ a ↔ x ∈ b) : ∀ (n:Nat) (s:Str),Dp a n s=Dp b n s
 | 0,s=>by rw [Dp,Dp];simp only [h s]
 | n+1,s=>by rw [Dp,Dp];exact Fv (fun j=>Jq h n _) _ _
theorem N8 {a b:List Str} (h : ∀ x,x ∈ a ↔ x ∈ b):Ep a=Ep b:=by
 unfold Ep Ju
 rw [Fv fun k=>Jq h k []]
theorem Tr (l:List Str) (o:Own) (V:Sig) (hl:l.length<=1073741824):DCall prog 213 [.slice (cS l) o] V (rS (.str (Ep l)) V):=by
 refine en func213 ntmps213 ?_
 try refine gz ?_
 refine Ab (Qw l o V hl) (fun x S1 hr => ?_) (fun x S1 hr=>by obtain ⟨_,_,h,_⟩:=hr;cases h)
 obtain ⟨im,him,e1,e2⟩:=hr
 cases e1
 rw [e2]
 repeat' first | refine gz ?_ | refine AE (Nm (setL l []) im _ (w7 ..)) ?_ | refine callP (Nm (setL l []) im _ (w7 ..)) ?_ | refine gz ?_ | apply gy<;>intro hh
 refine fin1 (S':=V) ⟨rfl,rfl⟩ ((Sub.refl _).set him) (hw := ?_)
 refine B0 ?_
 rw [N8 (a:=setL l []) (b:=l) fun x=>by rw [OW];simp]
@[reducible,instance] def a213:=fun l o V=>ah1 (@Tr l o V)
def Hb:Nat->List Str->List Str
 | 0,out=>out
 | n+1,out=>Hb n (out++[Ep out])
def CF (n:Nat):List Str:=Hb n []
theorem KD : ∀ (n:Nat) (l:List Str),(Hb n l).length=l.length+n
 | 0,l=>rfl
 | n+1,l=>by rw [Hb,KD n,List.length_append];simp;omega
theorem Fy (n:Nat) (V:Sig) (hn:n<=1073741824):DCall prog 134 [dI n] V (rS (sl (cS (CF n))) V):=by
 refine en func134 ntmps134 ?_
 try refine gz ?_
 refine Bo 3 1 (fun i hi => ?_)
 refine AQ [2,5,15] (fun (k:Nat) (out:List Str)=>k<=n/\out.length=k/\CF n=Hb (n-k) out) (fun k out=>[(6,dI k),(3, .slice (cS out) (.tag i))]) (fun _ out=>V.set i (.tail 1 out.length)) (fun k _=>n-k) (0) ([]) (by simp [CF]) (fun k out hI => ?_)
 obtain ⟨hk,hol,hR⟩:=hI
 by_cases hkl:k < n
 ·rw [show n-k=(n-(k+1))+1 by omega,Hb] at hR
  try refine gz ?_
  exact ⟨k+1,out++[Ep out],⟨by omega,by rw [List.length_append,hol];rfl,hR⟩,td1,wkR⟩
 ·rw [show n-k=0 by omega,Hb] at hR
  try refine gz ?_
  rw [hR]
  exact fin1 (S':=V) ⟨rfl,rfl⟩
@[reducible,instance] def a134:=fun n V=>ah1 (@Fy n V)
def cSp (p:BProg) (a b c:List Str):D := .cptr [.cptr [sl (p.classes.map cBClass),dI p.slots,sl (cI p.gens),sl (p.methods.map Ai),sl (p.nodes.map Ad),dI p.main,sl (cS a),sl (cS b),sl (cS c)] 0] 0
theorem TZ (p:BProg) (a b c:List Str) (n:Nat) (V:Sig) (hn:n < a.length) (ha:a.length<=1073741824):DCall prog 138 [dI n,cSp p a b c] V (rS (.str ((a[n]?).getD [])) V):=by
 have hc:cSp p a b c = .cptr [.cptr [sl (p.classes.map cBClass),dI p.slots,sl (cI p.gens),sl (p.methods.map Ai),sl (p.nodes.map Ad),dI p.main,sl (cS a),sl (cS b),sl (cS c)] 0] 0:=rfl
 have hg:(a[n]?).getD []=a[n]:=by rw [List.getElem?_eq_getElem hn];rfl
 rw [hc,hg]
 refine en func138 ntmps138 ?_
 refine gz ?_
 exact fe1 trivial
theorem TY (p:BProg) (a b c:List Str) (n:Nat) (V:Sig) (hn:n < b.length) (ha:b.length<=1073741824):DCall prog 139 [dI n,cSp p a b c] V (rS (.str ((b[n]?).getD [])) V):=by
 have hc:cSp p a b c = .cptr [.cptr [sl (p.classes.map cBClass),dI p.slots,sl (cI p.gens),sl (p.methods.map Ai),sl (p.nodes.map Ad),dI p.main,sl (cS a),sl (cS b),sl (cS c)] 0] 0:=rfl
 have hg:(b[n]?).getD []=b[n]:=by rw [List.getElem?_eq_getElem hn];rfl
 rw [hc,hg]
 refine en func139 ntmps139 ?_
 refine gz ?_
 exact fe1 trivial
theorem Tp (p:BProg) (a b c:List Str) (n:Nat) (V:Sig) (hn:n < b.length) (ha:b.length<=1073741824):DCall prog 216 [dI n,cSp p a b c] V (rS (.str ((b[n]?).getD [])) V):=by
 have hc:cSp p a b c = .cptr [.cptr [sl (p.classes.map cBClass),dI p.slots,sl (cI p.gens),sl (p.methods.map Ai),sl (p.nodes.map Ad),dI p.main,sl (cS a),sl (cS b),sl (cS c)] 0] 0:=rfl
 have hg:(b[n]?).getD []=b[n]:=by rw [List.getElem?_eq_getElem hn];rfl
 rw [hc,hg]
 refine en func216 ntmps216 ?_
 refine gz ?_
 exact fe1 trivial
theorem TW (p:BProg) (a b c:List Str) (n:Nat) (v:Int) (V:Sig) (hn:n < b.length) (ha:b.length<=1073741824):DCall prog 141 [.agg [dI n,dI v],cSp p a b c] V (rS (.agg (F6 ⟨(b[n]?).getD [],v⟩)) V):=by
 have hc:cSp p a b c = .cptr [.cptr [sl (p.classes.map cBClass),dI p.slots,sl (cI p.gens),sl (p.methods.map Ai),sl (p.nodes.map Ad),dI p.main,sl (cS a),sl (cS b),sl (cS c)] 0] 0:=rfl
 have hg:(b[n]?).getD []=b[n]:=by rw [List.getElem?_eq_getElem hn];rfl
 rw [hc,hg]
 refine en func141 ntmps141 ?_
 refine gz ?_ o141
 refine newV (fun i hi => ?_)
 refine gz ?_ o141
 exact finC (S':=V) ⟨rfl,rfl⟩
def ixS (l:List Str) (n:Int):Str:=(l[n.toNat]?).getD []
def InR (n:Int) (k:Nat):Prop:=0<=n/\n < k
def spC (a b:List Str) (c:BClass):FClass:=⟨[],c.parents.map (ixS a),c.slots.map (ixS b),c.inits.map fun x=>⟨ixS b x.slot,x.n⟩⟩
def ClsIx (A S:Nat) (c:BClass):Prop:=(∀ x ∈ c.parents,InR x A)/\(∀ x ∈ c.slots,InR x S) /\ ∀ x ∈ c.inits,InR x.slot S
theorem U0 (p:BProg) (a b g:List Str) (c:BClass) (V:Sig) (hc:ClsIx a.length b.length c) (ha:a.length<=1073741824) (hb:b.length<=1073741824) (hw:c.wt<=1073741824) :
  DCall prog 136 [.agg (cBClass c),cSp p a b g] V (rS (.agg (An (spC a b c))) V):=by
 have hwc:c.parents.length<=1073741824/\c.slots.length<=1073741824/\c.inits.length<=1073741824:=by unfold BClass.wt at hw;omega
 obtain ⟨c1,c2,c3⟩:=hwc
 obtain ⟨x1,x2,x3⟩:=hc
 have h1:=fun (V:Sig)=>JE c.parents (ixS a) 138 [cSp p a b g] .no V c1 (fun x hx S' _=>by
  obtain ⟨h0,h1⟩:=x1 x hx
  obtain ⟨n,rfl⟩ : ∃ n:Nat,x=n:=⟨x.toNat,by omega⟩
  exact TZ p a b g n S' (by omega) ha)
 have h2:=fun (V:Sig)=>JE c.slots (ixS b) 139 [cSp p a b g] .no V c2 (fun x hx S' _=>by
  obtain ⟨h0,h1⟩:=x2 x hx
  obtain ⟨n,rfl⟩ : ∃ n:Nat,x=n:=⟨x.toNat,by omega⟩
  exact TY p a b g n S' (by omega) hb)
 have h3:=fun (V:Sig)=>TX c.inits (fun x=>⟨ixS b x.slot,x.n⟩) 141 [cSp p a b g] .no V c3 (fun x hx S' _=>by
  obtain ⟨s,v⟩:=x
  obtain ⟨h0,h1⟩:=x3 _ hx
  obtain ⟨n,rfl⟩ : ∃ n:Nat,s=n:=⟨s.toNat,by simp only at h0;omega⟩
  exact TW p a b g n v S' (by simp only at h1;omega) hb)
 refine en func136 ntmps136 ?_
 refine gz ?_ o136
 refine newV (fun i hi => ?_)
 repeat' first | refine gz ?_ | refine moR (h1 _) ?_ | refine moP (h1 _) ?_ | refine moR (h3 _) ?_ | refine moP (h3 _) ?_ | refine gz ?_ o136 | apply gy<;>intro hh
 repeat' first | refine gz ?_ | refine moR (h2 _) ?_ | refine moP (h2 _) ?_ | refine moR (h3 _) ?_ | refine moP (h3 _) ?_ | refine gz ?_ o136 | apply gy<;>intro hh
 exact finC (S':=V) ⟨rfl,rfl⟩ (hw:=by refine B0 ?_;simp [spC])
mutual
def FIx (A S P:Nat):Fact->Prop
 | .mk o g p c _ k=>(∀ x ∈ p,InR x S)/\(o=2->InR c A)/\(o=2\/o=3\/o=4->InR g P)/\FIxs A S P k
def FIxs (A S P:Nat):List Fact->Prop
 | []=>True
 | x::r=>FIx A S P x/\FIxs A S P r
end
theorem Iu {A S P:Nat} : ∀ {l:List Fact},FIxs A S P l -> ∀ x ∈ l,FIx A S P x
 | [],_,x,hx=>by simp at hx
 | y::r,h,x,hx=>by
  rw [FIxs] at h
  rcases List.mem_cons.1 hx with rfl | hx
  ·exact h.1
  ·exact Iu h.2 x hx
mutual
def spF (a b P:List Str):Fact->FFact
 | .mk o g p c n k => .mk o (if o=2\/o=3\/o=4 then ixS P g else []) (p.map (ixS b)) (if o=2 then ixS a c else []) n (spFs a b P k)
def spFs (a b P:List Str):List Fact->List FFact
 | []=>[]
 | x::r=>spF a b P x::spFs a b P r
end
theorem OV (a b P:List Str) : ∀ l,spFs a b P l=l.map (spF a b P)
 | []=>by rw [spFs];rfl
 | x::r=>by rw [spFs,OV a b P r];rfl
theorem spF_eq (a b P:List Str) (f:Fact):spF a b P f = .mk f.op (if f.op=2\/f.op=3\/f.op=4 then ixS P f.arg else []) (f.path.map (ixS b)) (if f.op=2 then ixS a f.cls else []) f.n (f.kids.map (spF a b P)):=by
 cases f;rw [spF,OV];rfl
theorem DF {l:List Str} {n:Int} (h:InR n l.length) : ∃ k:Nat,n=k /\ ∃ hk:k < l.length,ixS l n=l[k]:=by
 obtain ⟨h0,h1⟩:=h
 refine ⟨n.toNat,by omega,by omega, ?_⟩
 unfold ixS;rw [List.getElem?_eq_getElem (by omega)];rfl
theorem TU (p:BProg) (a b g P:List Str) (ha:a.length<=1073741824) (hb:b.length<=1073741824) (hP:P.length<=1073741824) : ∀ (n:Nat) (f:Fact) (o:Own) (V:Sig),f.wt<=n->n<=1073741824->FIx a.length b.length P.length f ->
  DCall prog 143 [.cptr [sl (p.classes.map cBClass),dI p.slots,sl (cI p.gens),sl (p.methods.map Ai),sl (p.nodes.map Ad),dI p.main,sl (cS a),sl (cS b),sl (cS g)] 0, .agg (Br f), .slice (cS P) o] V (rS (.agg (Bk (spF a b P f))) V):=by
 intro n
 induction n with
 | zero =>
  intro f o V hx
  have:=f.wt_pos
  omega
 | succ n ih =>
  intro f o V hx hn hI
  obtain ⟨w1,w2,hw3⟩:=f.wt_le
  have hpl:f.path.length<=1073741824:=by omega
  obtain ⟨i1,i2,i3,i4⟩:(∀ x ∈ f.path,InR x b.length)/\(f.op=2->InR f.cls a.length)/\(f.op=2\/f.op=3\/f.op=4->InR f.arg P.length)/\FIxs a.length b.length P.length f.kids:=by cases f;rw [FIx] at hI;exact hI
  have hsp:=spF_eq a b P f
  have hcs:D.cptr [.cptr [sl (p.classes.map cBClass),dI p.slots,sl (cI p.gens),sl (p.methods.map Ai),sl (p.nodes.map Ad),dI p.main,sl (cS a),sl (cS b),sl (cS g)] 0] 0=cSp p a b g:=rfl
  have h137:=fun (V:Sig)=>JE f.path (ixS b) 216 [cSp p a b g] .no V hpl (fun x hx S' _=>by
   obtain ⟨k,rfl,hk,_⟩:=DF (i1 x hx)
   exact Tp p a b g k S' hk hb)
  have h218 : ∀ x ∈ f.kids, ∀ S',DCall prog 218 ([]++[.agg (Br x)]++[cSp p a b g, .cptr [.slice (cS P) o] 0]) S' fun r S''=>r = .ret (.agg (Bk (spF a b P x)))/\S''=S':=fun x hx S'=>by
   have h143:=ih x o S' (by obtain ⟨k,hk,rfl⟩:=List.getElem_of_mem hx;have:=hw3 k hk;omega) (by omega) (Iu i4 x hx)
   have hc2:cSp p a b g = .cptr [.cptr [sl (p.classes.map cBClass),dI p.slots,sl (cI p.gens),sl (p.methods.map Ai),sl (p.nodes.map Ad),dI p.main,sl (cS a),sl (cS b),sl (cS g)] 0] 0:=rfl
   rw [hc2]
   refine en func218 ntmps218 ?_
   refine gz ?_
   refine newV (fun i hi => ?_)
   repeat' first | refine gz ?_ | refine AE (ih x o _ (by obtain ⟨k,hk,rfl⟩:=List.getElem_of_mem hx;have:=hw3 k hk;omega) (by omega) (Iu i4 x hx)) ?_ | refine callP (ih x o _ (by obtain ⟨k,hk,rfl⟩:=List.getElem_of_mem hx;have:=hw3 k hk;omega) (by omega) (Iu i4 x hx)) ?_ | refine gz ?_ | apply gy<;>intro hh
   exact finC (S':=S') ⟨rfl,rfl⟩
  have h217:=fun (V:Sig)=>To f.kids (spF a b P) 218 [cSp p a b g, .cptr [.slice (cS P) o] 0] .no V (by omega) (fun x hx S' _=>h218 x hx S')
  refine en func143 ntmps143 ?_
  refine gz ?_ o143
  refine newV (fun i6 hi6 => ?_)
  refine gz ?_ (delO 1 o143)
  refine mixL (id:=1) [0,1,2,3,4,5,6,7,8,9] [9] ?_
  refine gz ?_ o143
  refine V7 (fun S' _=>(h137 S').mono fun x S'' hx=>⟨hx.1,hx.2 ▸ Sub.refl _⟩) ?_
  refine gz ?_ o143
  refine MJ (fun i7 hi7 => ?_)
  have n67:i6 ≠ i7:=fun e=>by rw [<- e,w7] at hi7;cases hi7
  by_cases h2:f.op=2
  ·obtain ⟨k,hk,hkl,hgk⟩:=DF (i3 (.inl h2))
   obtain ⟨k',hk',hkl',hgk'⟩:=DF (i2 h2)
   repeat' first | refine gf (gi h2 (gi hk hk')) ?_ | refine AE (h217 _) ?_ | refine callP (h217 _) ?_ | refine gf (gi h2 (gi hk hk')) ?_ o143 | apply gy<;>intro hh
   exact finC (S':=V) ⟨rfl,rfl⟩ (hZ:=(((Sub.refl _).set hi6).set (A4 hi7).2).set hi6) (hw:=by rw [hsp];refine B0 ?_;simp [Ci,FFact.op,FFact.name,FFact.path,FFact.cls,FFact.n,FFact.kids,h2,hgk,hgk'])
  by_cases h3:f.op=3
  ·obtain ⟨k,hk,hkl,hgk⟩:=DF (i3 (.inr (.inl h3)))
   repeat' first | refine gf (gi h3 hk) ?_ | refine AE (h217 _) ?_ | refine callP (h217 _) ?_ | refine gf (gi h3 hk) ?_ o143 | apply gy<;>intro hh
   exact finC (S':=V) ⟨rfl,rfl⟩ (hZ:=(((Sub.refl _).set hi6).set (A4 hi7).2).set hi6) (hw:=by rw [hsp];refine B0 ?_;simp [Ci,FFact.op,FFact.name,FFact.path,FFact.cls,FFact.n,FFact.kids,h3,hgk])
  by_cases h4:f.op=4
  ·obtain ⟨k,hk,hkl,hgk⟩:=DF (i3 (.inr (.inr h4)))
   repeat' first | refine gf (gi h4 hk) ?_ | refine AE (h217 _) ?_ | refine callP (h217 _) ?_ | refine gf (gi h4 hk) ?_ o143 | apply gy<;>intro hh
   exact finC (S':=V) ⟨rfl,rfl⟩ (hZ:=(((Sub.refl _).set hi6).set (A4 hi7).2).set hi6) (hw:=by rw [hsp];refine B0 ?_;simp [Ci,FFact.op,FFact.name,FFact.path,FFact.cls,FFact.n,FFact.kids,h4,hgk])
  repeat' first | refine gf (gi h2 (gi h3 h4)) ?_ | refine AE (h217 _) ?_ | refine callP (h217 _) ?_ | refine gf (gi h2 (gi h3 h4)) ?_ o143 | apply gy<;>intro hh
  exact finC (S':=V) ⟨rfl,rfl⟩ (hZ:=(((Sub.refl _).set hi6).set (A4 hi7).2).set hi6) (hw:=by rw [hsp];refine B0 ?_;simp [Ci,FFact.op,FFact.name,FFact.path,FFact.cls,FFact.n,FFact.kids,h2,h3,h4])
def D4 (f:Int->List Str->Nat->FExp × Nat) (op:Int) (txt:Str) (env:List Str):Nat->List Int->Nat->List FExp × Nat
 | _,[],t=>([],t)
 | j,c::r,t=>((f c (if op=9/\j=1 then env++[txt] else env) t).1::(D4 f op txt env (j+1) r (f c (if op=9/\j=1 then env++[txt] else env) t).2).1,(D4 f op txt env (j+1) r (f c (if op=9/\j=1 then env++[txt] else env) t).2).2)
def E3 (a b g P:List Str) (x:BNode) (env:List Str) (t:Nat):Str :=
 if x.op=3 then ixS env x.n else if x.op=4\/x.op=7 then ixS b x.n else if x.op=5 then ixS g x.n else if x.op=6\/x.op=8 then ixS a x.n else if x.op=9 then ixS P t else []
def spE (p:BProg) (a b g P:List Str):Nat->Int->List Str->Nat->FExp × Nat
 | 0,_,_,t=>(.mk 0 0 [] [],t)
 | k+1,node,env,t=>(.mk (Au p node).op (if (Au p node).op=1 then (Au p node).n else 0) (E3 a b g P (Au p node) env t)
   (D4 (spE p a b g P k) (Au p node).op (E3 a b g P (Au p node) env t) env 0 (Au p node).kids (if (Au p node).op=9 then t+1 else t)).1,
   (D4 (spE p a b g P k) (Au p node).op (E3 a b g P (Au p node) env t) env 0 (Au p node).kids (if (Au p node).op=9 then t+1 else t)).2)
theorem Ec {f:Int->List Str->Nat->FExp × Nat} {op:Int} {txt:Str} {env:List Str} (hf : ∀ c e t,t<=(f c e t).2) : ∀ (j:Nat) (l:List Int) (t:Nat),t<=(D4 f op txt env j l t).2
 | _,[],_=>Nat.le_refl _
 | j,c::r,t=>by rw [D4];exact Nat.le_trans (hf _ _ _) (Ec hf (j+1) r _)
theorem Mu (p:BProg) (a b g P:List Str) : ∀ (k:Nat) (node:Int) (env:List Str) (t:Nat),t<=(spE p a b g P k node env t).2
 | 0,_,_,_=>Nat.le_refl _
 | k+1,node,env,t=>by
  rw [spE]
  refine Nat.le_trans ?_ (Ec (Mu p a b g P k) _ _ _)
  split<;>omega
def okE (p:BProg):Nat->Int->Nat->Prop
 | 0,_,_=>False
 | k+1,node,size=>InR node p.nodes.length/\Ca p (Au p node) size=true /\ ∀ (j:Nat) (h:j < (Au p node).kids.length),okE p k ((Au p node).kids[j]) (if (Au p node).op=9/\j=1 then size+1 else size)
def cSp0 (p:BProg) (a b c:List Str):D := .cptr [sl (p.classes.map cBClass),dI p.slots,sl (cI p.gens),sl (p.methods.map Ai),sl (p.nodes.map Ad),dI p.main,sl (cS a),sl (cS b),sl (cS c)] 0
theorem Rr {a b:Sig} {i:Nat} {c c':DObj} (h:Sub (a.set i c) b):Sub (a.set i c') (b.set i c'):=fun k z hk=>by
 by_cases hki:k=i
 ·subst hki;rw [w7] at hk ⊢; exact hk
 ·rw [w8 _ _ hki] at hk ⊢; exact h k z (by rw [w8 _ _ hki];exact hk)
theorem Nr (p:BProg) (a b g P:List Str) (hp:p.wt<=1073741824) (ha:a.length=3+p.classes.length) (ha':a.length<=1073741824) (hb:(b.length:Int)=p.slots) (hb':b.length<=1073741824) (hg:g.length=p.gens.length) (hP:P.length<=1073741824) : ∀ (k:Nat) (node:Int) (env:List Str) (o:Own) (t ib:Nat) (V:Sig),okE p k node env.length->env.length+k<=1073741824->(spE p a b g P k node env t).2<=P.length->V ib=some (.cells [cSp0 p a b g,sl (cS P),dI t]) ->
  DCall prog 144 [.ptr ib 0,dI node, .slice (cS env) o] V fun x S'=>x = .ret (.agg (Am (spE p a b g P k node env t).1))/\S'=V.set ib (.cells [cSp0 p a b g,sl (cS P),dI (spE p a b g P k node env t).2]):=by
 obtain ⟨p1,p2,p3,p4,p5,p6,p7⟩:=p.wt_le
 intro k
 induction k with
 | zero=>intro node env o t ib V h;exact h.elim
 | succ k ih =>
  intro node env o t ib V hok hsz hT hib
  rw [okE] at hok
  obtain ⟨⟨h0,hq⟩,hnb,hkids⟩:=hok
  obtain ⟨q,rfl⟩ : ∃ q:Nat,node=(q:Int):=⟨node.toNat,by omega⟩
  have hq:q < p.nodes.length:=by omega
  have hna:Au p q=p.nodes[q]:=by unfold Au;rw [show ((q:Int)).toNat=q by omega,List.getElem?_eq_getElem hq];rfl
  rw [spE] at hT ⊢
  rw [hna] at hT hnb hkids ⊢
  generalize hx:p.nodes[q]=x at *
  have hwx:x.kids.length<=1073741824:=by
   have:=p7 q hq
   rw [hx] at this
   have hwu:x.wt=1+x.kids.length:=rfl
   omega
  generalize hL:D4 (spE p a b g P k) x.op (E3 a b g P x env t) env 0 x.kids (if x.op=9 then t+1 else t)=L at *
  have ht9:(if x.op=9 then t+1 else t)<=L.2:=by rw [<- hL];exact Ec (Mu p a b g P k) _ _ _
  have hcs:cSp0 p a b g = .cptr [sl (p.classes.map cBClass),dI p.slots,sl (cI p.gens),sl (p.methods.map Ai),sl (p.nodes.map Ad),dI p.main,sl (cS a),sl (cS b),sl (cS g)] 0:=rfl
  have r3:x.op=3->InR x.n env.length:=fun h=>by simpa [Ca,h,InR] using hnb
  have r47:x.op=4\/x.op=7->InR x.n b.length:=fun h=>by rcases h with h | h<;>simpa [Ca,h,InR,hb] using hnb
  have r5:x.op=5->InR x.n g.length:=fun h=>by simpa [Ca,h,InR,hg] using hnb
  have r68:x.op=6\/x.op=8->InR x.n a.length:=fun h=>by
   have:3<=x.n/\x.n < 3+p.classes.length:=by rcases h with h | h<;>simpa [Ca,h] using hnb
   exact ⟨by omega,by omega⟩
  have r9:x.op=9->t < P.length:=fun h=>by rw [if_pos h] at ht9;omega
  refine en func144 ntmps144 ?_
  try refine gz ?_ o144 [6,8]
  refine newV (fun i6 hi6 => ?_)
  have n6:ib ≠ i6:=A1 hib hi6
  try refine gf (gi hib (gi hx hcs)) ?_ o144 [6,8]
  refine newV (fun i8 hi8 => ?_)
  have n68:i6 ≠ i8:=fun e=>by rw [<- e,w7] at hi8;cases hi8
  have n8:ib ≠ i8:=A1 hib (A4 hi8).2
  generalize hU1:V.set i6 (.cells [dI 0,dI 0, .str [], .nils])=S1
  have hib1:S1 ib=some (.cells [cSp0 p a b g,sl (cS P),dI t]):=by rw [<- hU1,w8 _ _ n6];exact hib
  have hsub : ∀ (tx:Str) (m:Int),m=(if x.op=1 then x.n else 0)->tx=E3 a b g P x env t -> ¬ x.op=9->Sub ((S1.set i8 (.cells [dI x.op,dI (if x.op=1 then x.n else 0), .str (E3 a b g P x env t), .nils])).set ib (.cells [cSp0 p a b g,sl (cS P),dI (if x.op=9 then t+1 else t:Nat)])) (S1.set i8 (.cells [dI x.op,dI m, .str tx, .nils])):=fun tx m h1 h2 h3=>by
   rw [h1,h2,if_neg h3,Sig.set_self _ (by rw [w8 _ _ n8];exact hib1)]
   exact Sub.refl _
  repeat ((fail_if_success (first | (refine dwp_cut1 (x1 := .seq _ (.block 0 _)) [] ((S1.set i8 (.cells [dI x.op,dI (if x.op=1 then x.n else 0), .str (E3 a b g P x env t), .nils])).set ib (.cells [cSp0 p a b g,sl (cS P),dI (if x.op=9 then t+1 else t:Nat)])) ?_ (fun _ hK => ?_)) | fail));(refine goX1 trivial ?_))
  refine dwp_cut1 (x1 := .seq _ (.block 0 _)) [] ((S1.set i8 (.cells [dI x.op,dI (if x.op=1 then x.n else 0), .str (E3 a b g P x env t), .nils])).set ib (.cells [cSp0 p a b g,sl (cS P),dI (if x.op=9 then t+1 else t:Nat)])) ?_ (fun _ hK => ?_)
  ·generalize (if x.op=1 then x.n else 0)=num at *
   generalize htx:E3 a b g P x env t=txt at *
   generalize (if x.op=9 then t+1 else t)=t0 at *
   refine AO i8 3 4 (ds:=[dI x.op,dI num, .str txt, .nils]) (by rw [w8 _ _ (Ne.symm n8)];exact w7 ..) rfl fun it hit => ?_
   have hit1:S1 it=none:=(A4 (A4 hit).2).2
   have nbt:ib ≠ it:=A1 hib1 hit1
   have n8t:i8 ≠ it:=fun e=>by have:=(A4 hit).2;rw [<- e,w7] at this;cases this
   generalize hU2:Sig.set (Sig.set (Sig.set _ ib _) it _) i8 _=S2
   have q8:S2 i8=some (.cells [dI x.op,dI num, .str txt, .slice (([]:List FExp).map Am) (.tag it)]):=by rw [<- hU2];exact w7 ..
   have qt:S2 it=some (.tail 4 ([]:List FExp).length):=by rw [<- hU2,w8 _ _ (Ne.symm n8t)];exact w7 ..
   have qS:Sub (V.set ib (.cells [cSp0 p a b g,sl (cS P),dI t0])) S2:=by
    rw [<- hU2, <- hU1]
    refine Sub.set (Sub.set ?_ ?_) ?_
    ·refine Sub.both ((((Sub.refl _).set hi6)).set (A4 hi8).2)
    ·rw [w8 _ _ (Ne.symm nbt)];rw [<- hU1] at hit1;exact (A4 hit1).2
    ·rw [w8 _ _ (Ne.symm n8)];exact (A4 hi8).2
   have s8:V i8=none:=(A4 hi8).2
   have st:V it=none:=by rw [<- hU1] at hit1;exact (A4 hit1).2
   have hi61:S1 i6=some (.cells [dI 0,dI 0, .str [], .nils]):=by rw [<- hU1];exact w7 ..
   have n6t:i6 ≠ it:=A1 hi61 hit1
   have s6:V i6=none:=hi6
   have q6:S2 i6=some (.cells [dI 0,dI 0, .str [], .nils]):=by rw [<- hU2,w8 _ _ n68,w8 _ _ n6t,w8 _ _ (Ne.symm n6),w8 _ _ n68];exact hi61
   clear hU2 hsub hit
   try refine gf q8 ?_ o144 [6,8]
   refine Qe [0,2,6,7,8,106,107,137] (fun (j:Nat) (out:List FExp) (t':Nat) (S3:Sig)=>j<=x.kids.length/\out.length=j/\out++(D4 (spE p a b g P k) x.op txt env j (x.kids.drop j) t').1=L.1/\(D4 (spE p a b g P k) x.op txt env j (x.kids.drop j) t').2=L.2/\S3 i8=some (.cells [dI x.op,dI num, .str txt, .slice (out.map Am) (.tag it)])/\S3 it=some (.tail 4 out.length)/\S3 i6=some (.cells [dI 0,dI 0, .str [], .nils])/\Sub (V.set ib (.cells [cSp0 p a b g,sl (cS P),dI t'])) S3) (fun j _ _ _=>[(108,dI j)]) (fun _ _ _ S3=>S3) (fun j _ _ _=>x.kids.length-j) (0) ([]) (t0) (S2) (by exact ⟨by omega,rfl,by rw [<- hL];rfl,by rw [<- hL];rfl,q8,qt,q6,qS⟩) (fun j out t' S3 hI => ?_)
   obtain ⟨hj,hol,hR,hR2,o8,ot,o6,oS⟩:=hI
   by_cases hjl:j < x.kids.length
   ·rw [A3 hjl,D4] at hR hR2
    have hki:=hkids j hjl
    have hnxt:out.length+1=j+1:=by omega
    have hib3:S3 ib=some (.cells [cSp0 p a b g,sl (cS P),dI t']):=oS _ _ (w7 ..)
    have u8:(S3.out fun j=>j=ib\/j=it) i8=_:=C8 o8 (by rintro (h | h);exact n8 h.symm;exact n8t h)
    have nt':it ≠ ib:=Ne.symm nbt
    have nt8:it ≠ i8:=Ne.symm n8t
    have n8':i8 ≠ ib:=Ne.symm n8
    have hT':=hT
    rw [<- hR2] at hT'
    have hsb : ∀ {c:DObj} (τ:Sig),Sub S3 τ->Sub (S3.out fun j=>j=ib\/j=it) (τ.set ib c):=fun τ hO j z hz=>by
     obtain ⟨h1,h2⟩:=C9 hz
     rw [w8 _ _ fun e=>h2 (.inl e)];exact hO _ _ h1
    have hsb2 : ∀ {c:DObj} (τ:Sig),Sub S3 τ->Sub (S3.out fun j=>j=ib\/j=it) ((τ.set ib c).set it (.tail 4 (out.length+1))):=fun τ hO j z hz=>by
     obtain ⟨h1,h2⟩:=C9 hz
     rw [w8 _ _ fun e=>h2 (.inr e)];exact hsb τ hO _ _ hz
    have hsb3 : ∀ (e:FExp) (c:DObj) (τ:Sig),Sub S3 τ->(((τ.set ib c).set it (.tail 4 (out.length+1))).set i8 (.cells [dI x.op,dI num, .str txt, .slice ((out++[e]).map Am) (.tag it)])) it=some (.tail 4 (out++[e]).length)/\(((τ.set ib c).set it (.tail 4 (out.length+1))).set i8 (.cells [dI x.op,dI num, .str txt, .slice ((out++[e]).map Am) (.tag it)])) i6=some (.cells [dI 0,dI 0, .str [], .nils])/\Sub (V.set ib c) (((τ.set ib c).set it (.tail 4 (out.length+1))).set i8 (.cells [dI x.op,dI num, .str txt, .slice ((out++[e]).map Am) (.tag it)])):=fun e c τ hO =>
     ⟨by rw [w8 _ _ nt8,w7,List.length_append];rfl,by rw [w8 _ _ n68,w8 _ _ n6t,w8 _ _ (Ne.symm n6)];exact hO _ _ o6,((Rr (oS.trans hO)).set (by rw [w8 _ _ nt'];exact st)).set (by rw [w8 _ _ n8'];exact s8)⟩
    by_cases c91:x.op=9/\j=1
    ·rw [if_pos c91] at hR hR2 hki hT'
     obtain ⟨c9,rfl⟩:=c91
     have hcS:cS (env++[txt])=cS env++[[.str txt]]:=by simp [cS]
     try refine gf o8 ?_ (delO 25 o144) [6,8]
     refine RY (fun i4 hi4 => ?_)
     have nib4:ib ≠ i4:=A1 hib3 hi4
     have nt4:it ≠ i4:=A1 ot hi4
     have n84:i8 ≠ i4:=A1 o8 hi4
     have hS4:Sub S3 (S3.set i4 (.tail (tab 9).size ((cS env).length+[[D.str txt]].length))):=(Sub.refl _).set hi4
     have hib4:(S3.set i4 (.tail (tab 9).size ((cS env).length+[[D.str txt]].length))) ib=some (.cells [cSp0 p a b g,sl (cS P),dI t']):=by rw [w8 _ _ nib4];exact hib3
     have ht4:(S3.set i4 (.tail (tab 9).size ((cS env).length+[[D.str txt]].length))) it=some (.tail 4 out.length):=by rw [w8 _ _ nt4];exact ot
     have h84:(S3.set i4 (.tail (tab 9).size ((cS env).length+[[D.str txt]].length))) i8=_:=(w8 _ _ n84).trans o8
     generalize S3.set i4 (.tail (tab 9).size ((cS env).length+[[D.str txt]].length))=S4 at *
     try refine gz ?_ (delO 25 o144) [6,8]
     refine DC (id:=25) [0,1,2,3,4,5,6,7,8] [5,7] (S3.out fun j=>j=ib\/j=it) ((By _ _).trans hS4) ?_
     have hsub0:=(By S3 fun j=>j=ib\/j=it).trans hS4
     try refine gf u8 ?_ o144 [6,8]
     have hih:=ih (x.kids[1]) (env++[txt]) .no t' ib S4 (by simpa using hki) (by simp;omega) (Nat.le_trans (Ec (Mu p a b g P k) _ _ _) hT') hib4
     rw [hcS] at hih
     refine Dn hih (fun d S5 hx => ?_) (fun d S5 hx=>by cases hx.1)
     obtain ⟨hx',rfl⟩:=hx
     cases hx'
     refine ⟨hsb _ hS4, ?_⟩
     simp only [putD]
     have hsub2:=hsb2 (c := .cells [cSp0 p a b g,sl (cS P),dI (spE p a b g P k x.kids[1] (env++[txt]) t').2]) _ hS4
     try refine gf (gi ht4 h84) ?_ o144 [6,8]
     have hfin:=hsb3 (spE p a b g P k x.kids[1] (env++[txt]) t').1 (.cells [cSp0 p a b g,sl (cS P),dI (spE p a b g P k x.kids[1] (env++[txt]) t').2]) S4 hS4
     exact ⟨2,out++[(spE p a b g P k x.kids[1] (env++[txt]) t').1],(spE p a b g P k x.kids[1] (env++[txt]) t').2,((S4.set ib (.cells [cSp0 p a b g,sl (cS P),dI (spE p a b g P k x.kids[1] (env++[txt]) t').2])).set it (.tail 4 (out.length+1))).set i8 (.cells [dI x.op,dI num, .str txt, .slice ((out++[(spE p a b g P k x.kids[1] (env++[txt]) t').1]).map Am) (.tag it)]),⟨by omega,by simp;omega,by rw [List.append_assoc];exact hR,hR2,w7 .., hfin.1,hfin.2.1,hfin.2.2⟩,td1,wkR⟩
    ·rw [if_neg c91] at hR hR2 hki hT'
     repeat' first | refine gf o8 ?_ (delO 25 o144) [6,8] | apply gy<;>intro hh
     ·refine DC (id:=25) [0,1,2,3,4,5,6,7,8] [5,7] (S3.out fun j=>j=ib\/j=it) (By _ _) ?_
      try refine gf u8 ?_ o144 [6,8]
      refine Dn (ih (x.kids[j]) env o t' ib S3 hki (by omega) (Nat.le_trans (Ec (Mu p a b g P k) _ _ _) hT') hib3) (fun d S5 hx => ?_) (fun d S5 hx=>by cases hx.1)
      obtain ⟨hx',rfl⟩:=hx
      cases hx'
      refine ⟨hsb _ (Sub.refl _), ?_⟩
      simp only [putD]
      have hsub2:=hsb2 (c := .cells [cSp0 p a b g,sl (cS P),dI (spE p a b g P k x.kids[j] env t').2]) _ (Sub.refl S3)
      try refine gf (gi ot o8) ?_ o144 [6,8]
      have hfin:=hsb3 (spE p a b g P k x.kids[j] env t').1 (.cells [cSp0 p a b g,sl (cS P),dI (spE p a b g P k x.kids[j] env t').2]) S3 (Sub.refl _)
      exact ⟨j+1,out++[(spE p a b g P k x.kids[j] env t').1],(spE p a b g P k x.kids[j] env t').2,((S3.set ib (.cells [cSp0 p a b g,sl (cS P),dI (spE p a b g P k x.kids[j] env t').2])).set it (.tail 4 (out.length+1))).set i8 (.cells [dI x.op,dI num, .str txt, .slice ((out++[(spE p a b g P k x.kids[j] env t').1]).map Am) (.tag it)]),⟨by omega,by simp;omega,by rw [List.append_assoc];exact hR,hR2,w7 .., hfin.1,hfin.2.1,hfin.2.2⟩,td1,wkR⟩
     ·refine DC (id:=25) [0,1,2,3,4,5,6,7,8] [5,7] (S3.out fun j=>j=ib\/j=it) (By _ _) ?_
      try refine gf u8 ?_ o144 [6,8]
      refine Dn (ih (x.kids[j]) env o t' ib S3 hki (by omega) (Nat.le_trans (Ec (Mu p a b g P k) _ _ _) hT') hib3) (fun d S5 hx => ?_) (fun d S5 hx=>by cases hx.1)
      obtain ⟨hx',rfl⟩:=hx
      cases hx'
      refine ⟨hsb _ (Sub.refl _), ?_⟩
      simp only [putD]
      have hsub2:=hsb2 (c := .cells [cSp0 p a b g,sl (cS P),dI (spE p a b g P k x.kids[j] env t').2]) _ (Sub.refl S3)
      try refine gf (gi ot o8) ?_ o144 [6,8]
      have hfin:=hsb3 (spE p a b g P k x.kids[j] env t').1 (.cells [cSp0 p a b g,sl (cS P),dI (spE p a b g P k x.kids[j] env t').2]) S3 (Sub.refl _)
      exact ⟨j+1,out++[(spE p a b g P k x.kids[j] env t').1],(spE p a b g P k x.kids[j] env t').2,((S3.set ib (.cells [cSp0 p a b g,sl (cS P),dI (spE p a b g P k x.kids[j] env t').2])).set it (.tail 4 (out.length+1))).set i8 (.cells [dI x.op,dI num, .str txt, .slice ((out++[(spE p a b g P k x.kids[j] env t').1]).map Am) (.tag it)]),⟨by omega,by simp;omega,by rw [List.append_assoc];exact hR,hR2,w7 .., hfin.1,hfin.2.1,hfin.2.2⟩,td1,wkR⟩
   ·have hjk:j=x.kids.length:=by omega
    rw [A2 hjl,D4] at hR hR2
    rw [List.append_nil] at hR
    rw [<- hR, <- hR2]
    refine dwp_wk (Cx (az:=[dI x.op,dI num, .str txt]) (bs:=[]) (d':=sl (out.map Am)) o8 (Az _ _)) ?_
    try refine gf o6 ?_ o144 [6,8]
    exact finC (S':=V.set ib (.cells [cSp0 p a b g,sl (cS P),dI t'])) ⟨rfl,rfl⟩ (hw:=by refine B0 ?_;simp [D1,FExp.op,FExp.n,FExp.text,FExp.kids]) (hZ:=(oS.set (by rw [w8 _ _ (Ne.symm n8)];exact s8)).set (by rw [w8 _ _ (Ne.symm n6)];exact s6))
  ·repeat' first | refine gz ?_ o144 [6,8] | apply gy<;>intro hh
   ·have c:x.op=1:=by assumption
    exact dwp_wk (Aj (by first | (simp;done) | (simp_all;done)) (hsub _ _ (by simp [c]) (by simp [E3,c]) (by omega))) hK
   ·have c:x.op=3:=by assumption
    obtain ⟨m,hm,hml,hmk⟩:=DF (r3 c)
    try refine gf hm ?_ o144 [6,8]
    exact dwp_wk (Aj (by first | (simp;done) | (simp_all;done)) (hsub _ _ (by simp [c]) (by simp [E3,c,hmk]) (by omega))) hK
   ·have c:x.op=4:=by assumption
    obtain ⟨m,hm,hml,hmk⟩:=DF (r47 (.inl c))
    try refine gf (gi hm (gi hib1 hcs)) ?_ o144 [6,8]
    exact dwp_wk (Aj (by first | (simp;done) | (simp_all;done)) (hsub _ _ (by simp [c]) (by simp [E3,c,hmk]) (by omega))) hK
   ·have c:x.op=7:=by assumption
    obtain ⟨m,hm,hml,hmk⟩:=DF (r47 (.inr c))
    try refine gf (gi hm (gi hib1 hcs)) ?_ o144 [6,8]
    exact dwp_wk (Aj (by first | (simp;done) | (simp_all;done)) (hsub _ _ (by simp [c]) (by simp [E3,c,hmk]) (by omega))) hK
   ·have c:x.op=5:=by assumption
    obtain ⟨m,hm,hml,hmk⟩:=DF (r5 c)
    try refine gf (gi hm (gi hib1 hcs)) ?_ o144 [6,8]
    exact dwp_wk (Aj (by first | (simp;done) | (simp_all;done)) (hsub _ _ (by simp [c]) (by simp [E3,c,hmk]) (by omega))) hK
   ·have c:x.op=6:=by assumption
    obtain ⟨m,hm,hml,hmk⟩:=DF (r68 (.inl c))
    try refine gf (gi hm (gi hib1 hcs)) ?_ o144 [6,8]
    exact dwp_wk (Aj (by first | (simp;done) | (simp_all;done)) (hsub _ _ (by simp [c]) (by simp [E3,c,hmk]) (by omega))) hK
   ·have c:x.op=8:=by assumption
    obtain ⟨m,hm,hml,hmk⟩:=DF (r68 (.inr c))
    try refine gf (gi hm (gi hib1 hcs)) ?_ o144 [6,8]
    exact dwp_wk (Aj (by first | (simp;done) | (simp_all;done)) (hsub _ _ (by simp [c]) (by simp [E3,c,hmk]) (by omega))) hK
   ·have c:x.op=9:=by assumption
    have ht:=r9 c
    have hmk:ixS P t=P[t]:=by unfold ixS;rw [show ((t:Int)).toNat=t by omega,List.getElem?_eq_getElem ht];rfl
    try refine gf hib1 ?_ o144 [6,8]
    refine dwp_wk (Aj (by simp) (Be ?_)) hK
    simp [E3,c,hmk]
   ·exact dwp_wk (Aj (by first | (simp;done) | (simp_all;done)) (hsub _ _ (by simp [*]) (by simp [E3, *]) (by assumption))) hK
def RowW (S':Sig) (es:List (List D)) (E:D):MR->Prop
 | none=>E = .slice [] .clip/\es=[]
 | some (r,_,rest)=>E = .sref r 0 es.length es.length/\S' r=some (.cells (es.flatten++rest))
theorem QF (st:MR) (es:List (List D)) (V:Sig) (hr:RowAt V 4 st es) (hn:es.length<=1073741824):DCall prog 214 [mD st es.length] V fun x S'=>(∃ E,x = .ret E/\RowW V es E st)/\S'=V:=by
 cases st with
 | none =>
  have he:es=[]:=hr
  subst he
  show DCall prog 214 [.nils] V _
  refine en func214 ntmps214 ?_
  try refine gz ?_
  exact fin1 (S':=V) ⟨⟨_,rfl,rfl,rfl⟩,rfl⟩
 | some x =>
  obtain ⟨r,cap,rest⟩:=x
  obtain ⟨h1,h2,h3,h4⟩:=hr
  show DCall prog 214 [.sref r 0 es.length cap] V _
  refine en func214 ntmps214 ?_
  try refine gz ?_
  refine R6 Ae (off:=0) (m:=es.length) (cap:=cap) ?_ (by decide) (by simp<;>rfl) (by simp) rfl rfl rfl (Nat.le_refl _) h3
  try refine gz ?_
  exact fin1 (S':=V) ⟨⟨_,rfl,rfl,h1⟩,rfl⟩
theorem QQ (l:List BClass) (h:BClass->FClass) (g:Nat) (cap:List D) (o:Own) (V:Sig) (hl:l.length<=1073741824)
  (hg : ∀ x ∈ l, ∀ S',Sub V S'->DCall prog g ([]++[.agg (cBClass x)]++cap) S' fun r S''=>r = .ret (.agg (An (h x)))/\S''=S') :
  DCall prog 135 [.slice (l.map cBClass) o, .func (.func g) [] cap] V fun x S' => ∃ E st,x = .ret E/\RowW S' ((l.map h).map An) E st/\Sub V S' /\ ∀ j x,V j=some x -> ¬ Bl st j:=by
 refine en func135 ntmps135 ?_
 try refine gz ?_
 refine Qd [1,4,8,9,21,22] (fun (k:Nat) (out:List FClass) (E:D) (st:MR) (S1:Sig)=>k<=l.length/\out++(l.drop k).map h=l.map h/\E=mD st out.length/\RowAt S1 4 st (out.map An)/\Sub V S1 /\ ∀ j x,V j=some x -> ¬ Bl st j) (fun k _ E _ _=>[(10,dI k),(5,E)]) (fun _ _ _ _ S1=>S1) (fun k _ _ _ _=>l.length-k) (0) ([]) (.nils) (none) (V) (by exact ⟨by omega,rfl,rfl,rfl,Sub.refl _,fun _ _ _=>id⟩) (fun k out E st S1 hI => ?_)
 obtain ⟨hk,hR,rfl,hrow,hS,hN⟩:=hI
 have hlen:=congrArg List.length hR
 simp at hlen
 by_cases hh:k < l.length
 ·rw [A3 hh] at hR
  repeat' first | refine AE (hg (l[k]) (List.getElem_mem hh) _ hS) ?_ | refine callP (hg (l[k]) (List.getElem_mem hh) _ hS) ?_ | refine gf hh ?_ | apply gy<;>intro hh
  refine rapp (es:=out.map An) (fun st2 S2 hr2 hk2 => ?_) (hm:=hrow)
  try refine gz ?_
  exact ⟨k+1,out++[h l[k]],mD st2 (out++[h l[k]]).length,st2,S2,⟨by omega,by rw [List.append_assoc];exact hR,rfl,by rw [List.map_append];exact hr2,fun j x hj=>(hk2 _ _ (hS _ _ hj) (hN _ _ hj)).1,fun j x hj=>(hk2 _ _ (hS _ _ hj) (hN _ _ hj)).2⟩,td1,wkR⟩
 ·try refine gf hh ?_
  rw [A2 hh] at hR
  simp at hR
  have h214:=QF st (out.map An) S1 hrow (by rw [List.length_map];omega)
  rw [List.length_map] at h214
  refine Ab h214 (fun d S2 hr => ?_) (fun d S2 hr=>by obtain ⟨⟨_,h,_⟩,_⟩:=hr;cases h)
  obtain ⟨⟨E,e1,hW⟩,rfl⟩:=hr
  cases e1
  try refine gz ?_
  exact fin1 (S':=S2) ⟨d,st,rfl,by rw [<- hR];exact hW,hS,hN⟩
end Go.DL
