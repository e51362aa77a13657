/- A part of the proof. -/
import Derived.Test.YteldimffglchkaaGreatDoorQ22
set_option linter.all false
namespace Go.DL
open Go.Proofs.Tryz
open Go Go.Proofs
set_option maxHeartbeats 8000000
def L4(gF:eP): ∀(l:List jv) (seen:eP),Dm gF seen l=true->∀x∈l,inB x.n=true
 |[],_,_,_,h=>by cases h
 |y::r,seen,h,x,hx=>by
  rw[Dm]at h;simp only[aF]at h;rcases aY.1 hx with rfl|hx
  ·exact h.1.2
  ·exact L4 gF r _ h.2 x hx
def MX(p:aw): ∀(l:List ax) (i:Nat),AS p i l=true->∀c∈l, ∀x∈c.ah,inB x.n=true
 |[],_,_,_,h=>by cases h
 |y::r,i,h,c,hc=>by
  rw[AS]at h;simp only[aF]at h;rcases aY.1 hc with rfl|hc
  ·exact L4 _ _ _ h.1.2
  ·exact MX p r _ h.2 c hc
def Q7(m:List (Int×Int)):Prop:= ∀k,hasM k m=true->inB (getM 0 k m)=true
def Ry{m:List (Int×Int)}(h:Q7 m)(s n:Int)(hn:inB n=true):Q7 (jS s n m):=fun k hk=>by
 rw[DA]
 by_cases e:k=s
 ·rw[aG e];exact hn
 ·rw[aE e];rw[Ft]at hk;simp only[e,decide_false,cO]at hk;exact h k hk
def Kx: ∀(l:List jv) (m:List (Int×Int)),Q7 m->(∀x∈l,inB x.n=true)->Q7 (BE l m)
 |[],_,h,_=>h
 |x::r,_,h,hl=>Kx r _ (Ry h x.slot x.n (hl x j1)) fun y hy=>hl y (by simp[hy])
def O5{p:aw}(hk:okP p=true)(order:eP):Q7 (DK p order):=by
 have hc:∀c∈p.aa, ∀x∈c.ah,inB x.n=true:=by
  have h2:=BT hk;unfold Am at h2;simp only[aF]at h2;obtain⟨_,h4⟩:=h2;split at h4
  ·cases h4
  ·simp only[aF]at h4;exact MX p _ _ h4.2
 unfold DK
 induction order with
 |nil=>intro k hk;simp[hasM]at hk
 | cons c r ih =>
  rw[List.foldr_cons,Df];split
  ·refine Kx _ _ ih fun x hx=>?_;cases hg:p.aa[(c-3).toNat]? with
   |none=>rw[hg]at hx;simp at hx
   |some cl=>rw[hg]at hx;exact hc cl (cJ hg) x hx
  ·exact ih
def Im{m:List (Int×Int)}(h:Q7 m): ∀l:eP, ∀x∈beginL m l,inB x.n=true
 |[],_,hx=>by cases hx
 | s::r,x,hx=>by
  rw[beginL]at hx;split at hx
  ·rename_i hs;rcases aY.1 hx with rfl|hx
   ·exact h s hs
   ·exact Im h r x hx
  ·exact Im h r x hx
def DI{p:aw}(hk:okP p=true)(c:Int):(hasP p c).length<=40:=by
 have h1:=Ce p c;have h2:=BT hk;unfold Am at h2;simp only[aF,aH]at h2;obtain⟨h3,h4⟩:=h2
 have key:∀(l:List ax) (n m:Int),AT n l=some m->wtL (fun c:ax=>c.ac.length) l<=4*l.length:=fun l=>by
  induction l with
  |nil=>intro n m _;exact bU _
  | cons c r ih =>
   intro n m h;rw[AT]at h;split at h
   ·cases h
   ·split at h
    ·cases h
    ·have:=ih _ _ h;simp only[wtL,aS];omega
 split at h4
 ·cases h4
 ·rename_i n hn;have:=key _ _ _ hn;omega
def LD{p:aw}(hk:okP p=true):WldOK p (A0 p):=by
 refine⟨fun c h1 h2=>?_,fun c _=>M3 p c,fun c _=>Bp.2 fun v hv=>?_⟩
 ·show(jT p c&&okP p)=true;unfold jT;rw[hk];simp;omega
 ·unfold A0 at hv;obtain⟨s,_,rfl⟩:=aZ.1 hv;unfold frV;split
  ·rename_i i hi;have:=Im (O5 hk _) _ i (List.mem_of_find?_eq_some hi);unfold inB at this;unfold okV jZ;simp only[aF,aH]at this;simp[this]
  ·simp[okV,DS]
def stk1{l:List jH}(h:1<=l.length): ∃r v,l=r++[v]/\EB l=v/\l.dropLast=r:=by
 have hne:l≠[]:=fun e=>by rw[e]at h;simp at h
 refine⟨l.dropLast,l.getLast hne,(List.dropLast_concat_getLast hne).symm,?_,rfl⟩;unfold EB;rw[List.getLast?_eq_some_getLast hne];rfl
def stk2{l:List jH}(h:2<=l.length): ∃r w v,l=r++[w,v]/\EB l=v/\EB l.dropLast=w/\l.dropLast.dropLast=r/\l.dropLast=r++[w]:=by
 obtain⟨r,v,h1,h2,h3⟩:=stk1 (l:=l) j0;obtain⟨q,w,g1,g2,g3⟩:=stk1 (l:=l.dropLast) (by rw[List.length_dropLast];omega);refine⟨q,w,v,?_,h2,g2,g3,g1⟩;rw[h1,<-h3,g1];simp
def IY{N:Int}{v:jH}(h:okV N v=true): -1000000000<=Ah v/\Ah v<=1000000000:=by
 unfold Ah;split
 ·rename_i h1;unfold okV at h;rw[aG h1]at h;simpa using h
 ·omega
def actF(op:Int):Nat:=if op<=8 then 104+op.toNat else if op<=13 then 113 else 100+op.toNat
def ActR(ir:Nat)(p:aw)(R:Nat->RW)(O:Sig)(r:GoS ⊕ GoH)(y:DE)(U':Sig):Prop:= ∃R',jV ir R O R' U'/\match r with
 |.inl t=>y=.ret (.bool false)/\jU ir p R' t U'
 |.inr h=>y=.ret (.bool true) /\ ∃s' av b,l8 ir p R' s' av b h U'
def XJ{ir:Nat}{p:aw}{R:Nat->RW}{t:GoS}{O:Sig}{N k q:Nat}{x:jI}{l:jO}{m:Met}{j7:Int}{next:Bool}(hp:p.wt<=1073741824)(hk:okP p=true)(hI:InsOK p N k x l m j7 next)(c9:kH p N q x=true)(ij:0<=j7)
  (fI:(t.jA.length:Int)=l.st) (iO:(t.j7.length:Int)=l.j7) (fJ:jg t.j3.length t.jA=true) (fX:AI (A0 p) t.j3=true) (eZ:t.jA.length<=1000000) (gj:t.j7.length<=1000000) (iy:t.jW.length<=1000000) (hR:jU ir p R t O) :
  ar prog (actF x.op) [.ptr ir 0,.agg (cIns x)] O (ActR ir p R O (FL p (A0 p) x t)):=by
 have ht:=hI.take;have iV:=(AE.1 fX).1;unfold kH at c9;have f3:x.op=3->0<=x.a:=fun h=>by rw[aE j0,aG h]at c9;simpa using c9
 have f46:x.op=4\/x.op=6->jT p x.a=true:=fun h=>by
  rw[aE j0,aE j0,aG h]at c9;unfold jT;simp at c9⊢; omega
 have f19:x.op=19->0<=x.a/\x.a<p.ai.length:=fun h=>by
  rw[aE j0,aE j0,aE j0,aE j0,aE j0,aG h]at c9;simpa using c9
 have frg:1<=x.op/\x.op<=21:=by
  refine bN fun h=>?_;rw[aE j0,aE j0,aE j0,aE j0,aE j0,aE j0]at c9;simp at c9;omega
 clear c9;rw[FL]
 by_cases e1:x.op=1
 ·rw[aG e1,show actF x.op=105 by rw[e1];rfl];exact(UW x hR eZ).mono fun y U' ⟨h1,R',h2,h3⟩=>⟨R',h3,h1,h2⟩
 rw[aE e1]
 by_cases e2:x.op=2
 ·rw[aG e2,show actF x.op=106 by rw[e2];rfl];exact(UV x hR eZ).mono fun y U' ⟨h1,R',h2,h3⟩=>⟨R',h3,h1,h2⟩
 rw[aE e2]
 by_cases e3:x.op=3
 ·have hn:=hI.name e3;have h0:=f3 e3;have gA:x.a.toNat<t.j7.length:=by omega
  rw[aG e3,show actF x.op=107 by rw[e3];rfl,aD gA,ba];exact(UU x x.a.toNat j0 gA hR eZ gj).mono fun y U' ⟨h1,R',h2,h3⟩=>⟨R',h3,h1,h2⟩
 rw[aE e3]
 by_cases e4:x.op=4
 ·rw[aG e4,show actF x.op=108 by rw[e4];rfl];refine(UT x hp hk (f46 (.inl e4)) (by have:=DI hk x.a;omega) hR eZ j0).mono fun y U' ⟨R',h1,h2⟩=>⟨R',h1,?_⟩
  by_cases hn:40<=t.j3.length
  ·rw[aG hn]at h2⊢; exact⟨h2.1,_,_,_,h2.2⟩
  ·rw[aE hn]at h2⊢; exact h2
 rw[aE e4]
 by_cases e5:x.op=5
 ·have u:Af p x=(1,1):=by unfold Af;rw[aE j0,aG j0]
  rw[u]at ht;simp only at ht;obtain⟨r,v,hs,hv,hr⟩:=stk1 (l:=t.jA) j0;have fG:okV t.j3.length v=true:=hv ▸ D1 fJ j0;rw[aG e5,show actF x.op=109 by rw[e5];rfl,hv,hr];refine(US x r v hp hR hs eZ fG fX).mono fun y U' ⟨R',h1,h2⟩=>⟨R',h1,?_⟩
  by_cases hn:Ap (A0 p) t.j3 v x.a<0
  ·rw[aG hn]at h2⊢; exact⟨h2.1,_,_,_,h2.2⟩
  ·rw[aE hn]at h2⊢; exact h2
 rw[aE e5]
 by_cases e6:x.op=6
 ·have u:Af p x=(1,1):=by unfold Af;rw[aE j0,aG j0]
  rw[u]at ht;simp only at ht;obtain⟨r,v,hs,hv,hr⟩:=stk1 (l:=t.jA) j0;have fG:okV t.j3.length v=true:=hv ▸ D1 fJ j0;rw[aG e6,show actF x.op=110 by rw[e6];rfl,hv,hr];refine(UR x r v hp hk (fun c=>by have:=DI hk c;omega) (f46 (.inr e6)) hR hs eZ fG fX).mono fun y U' ⟨R',h1,h2⟩=>⟨R',h1,?_⟩
  by_cases hn:v.kind=3
  ·rw[aG hn]at h2⊢; exact h2
  ·rw[aE hn]at h2⊢; exact⟨h2.1,_,_,_,h2.2⟩
 rw[aE e6]
 by_cases e7:x.op=7
 ·have u:Af p x=(1,1):=by unfold Af;rw[aE j0,aG j0]
  rw[u]at ht;simp only at ht;obtain⟨r,v,hs,hv,hr⟩:=stk1 (l:=t.jA) j0;rw[aG e7,show actF x.op=111 by rw[e7];rfl,hv,hr];exact(UQ x r v hR hs eZ iy).mono fun y U' ⟨h1,R',h2,h3⟩=>⟨R',h3,h1,h2⟩
 rw[aE e7]
 by_cases e8:x.op=8
 ·have u:Af p x=(2,1):=by unfold Af;rw[aE j0,aE j0,aE j0,aE j0,aE j0,aE j0]
  rw[u]at ht;simp only at ht;obtain⟨r,w,v,hs,hv,hw,hr,gw⟩:=stk2 (l:=t.jA) j0;have f0:okV t.j3.length w=true:=hw ▸ D1 (Cd fJ) (by rw[List.length_dropLast];omega);rw[aG e8,show actF x.op=112 by rw[e8];rfl,hw,hv,hr];refine(UP x r w v hp hR hs eZ f0 fX).mono fun y U' ⟨R',h1,h2⟩=>⟨R',h1,?_⟩
  by_cases hn:Ap (A0 p) t.j3 w x.a<0
  ·rw[aG hn]at h2⊢; exact⟨h2.1,_,_,_,h2.2⟩
  ·rw[aE hn]at h2⊢; exact h2
 rw[aE e8]
 by_cases e14:x.op=14
 ·have u:Af p x=(1,0):=by unfold Af;rw[aE j0,aE j0,aG j0]
  rw[u]at ht;simp only at ht;obtain⟨r,v,hs,hv,hr⟩:=stk1 (l:=t.jA) j0;rw[aG e14,show actF x.op=114 by rw[e14];rfl,hv,hr];exact(UN x r v hR hs eZ gj).mono fun y U' ⟨h1,R',h2,h3⟩=>⟨R',h3,h1,h2⟩
 rw[aE e14]
 by_cases e15:x.op=15
 ·have hd:=hI.drop e15;obtain⟨r,v,hs,hv,hr⟩:=stk1 (l:=t.j7) j0;rw[aG e15,show actF x.op=115 by rw[e15];rfl,hr];exact(UM x r v hR hs gj).mono fun y U' ⟨h1,R',h2,h3⟩=>⟨R',h3,h1,h2⟩
 rw[aE e15]
 by_cases e16:x.op=16
 ·have u:Af p x=(1,0):=by unfold Af;rw[aE j0,aE j0,aG j0]
  rw[u]at ht;simp only at ht;obtain⟨r,v,hs,hv,hr⟩:=stk1 (l:=t.jA) j0;rw[aG e16,show actF x.op=116 by rw[e16];rfl,hr];exact(UL x r v hR hs eZ).mono fun y U' ⟨h1,R',h2,h3⟩=>⟨R',h3,h1,h2⟩
 rw[aE e16]
 by_cases e17:x.op=17
 ·have u:Af p x=(1,0):=by unfold Af;rw[aE j0,aE j0,aG j0]
  rw[u]at ht;simp only at ht;obtain⟨r,v,hs,hv,hr⟩:=stk1 (l:=t.jA) j0;rw[aG e17,show actF x.op=117 by rw[e17];rfl,hv,hr];exact(UK x r v hR hs eZ).mono fun y U' ⟨h1,R',h2,h3⟩=>⟨R',h3,h1,h2⟩
 rw[aE e17]
 by_cases e18:x.op=18
 ·rw[aG e18,show actF x.op=118 by rw[e18];rfl];exact(UJ x hR).mono fun y U' ⟨h1,R',h2,h3⟩=>⟨R',h3,h1,h2⟩
 rw[aE e18]
 by_cases e19:x.op=19
 ·obtain⟨a1,a2⟩:=f19 e19;have u:Af p x=(p.ai.getD x.a.toNat 0,1):=by unfold Af;rw[aE j0,aE j0,aE j0,aG e19]
  rw[u]at ht;simp only at ht;have iM:=(DY hk x.a.toNat).1;have fA:x.a.toNat<p.ai.length:=by omega
  have ie:p.ai.getD x.a.toNat 0=p.ai[x.a.toNat]:=by rw[aQ,aD fA];rfl
  rw[aG e19,show actF x.op=119 by rw[e19];rfl];refine(UI x (t.jA.take (t.jA.length-(p.ai.getD x.a.toNat 0).toNat)) (t.jA.drop (t.jA.length-(p.ai.getD x.a.toNat 0).toNat)) x.a.toNat hp j0 fA ?_ hR (cf _ _).symm eZ).mono fun y U' ⟨h1,R',av,h2,h3⟩=>⟨R',h3,h1,_,_,_,h2⟩;rw[<-ie,cn];omega
 rw[aE e19]
 by_cases e20:x.op=20
 ·rw[aG e20,show actF x.op=120 by rw[e20];rfl];exact(UH x hR).mono fun y U' ⟨h1,h2,h3⟩=>⟨R,h3,h1,_,_,_,h2⟩
 rw[aE e20]
 by_cases e21:x.op=21
 ·have hf:=hI.fin e21;obtain⟨r,v,hs,hv,hr⟩:=stk1 (l:=t.jA) j0;rw[aG e21,show actF x.op=121 by rw[e21];rfl,hv];exact(UG x r v hR hs eZ).mono fun y U' ⟨h1,R',h2,h3⟩=>⟨R',h3,h1,_,_,_,h2⟩
 rw[aE e21];have u:Af p x=(2,1):=by unfold Af;rw[aE j0,aE j0,aE j0,aE j0,aE j0,aE j0]
 rw[u]at ht;simp only at ht;obtain⟨r,w,v,hs,hv,hw,hr,gw⟩:=stk2 (l:=t.jA) j0;have fG:okV t.j3.length v=true:=hv ▸ D1 fJ j0;have f0:okV t.j3.length w=true:=hw ▸ D1 (Cd fJ) (by rw[List.length_dropLast];omega);rw[show actF x.op=113 by unfold actF;rw[aE j0,aG j0],hw,hv,hr];exact(UO x r w v j0 hR hs eZ (IY f0) (IY fG)).mono fun y U' ⟨h1,R',h2,h3⟩=>⟨R',h3,h1,h2⟩
end Go.DL
namespace Go.DL
open Go.Proofs.Tryz
open Go Go.Proofs
set_option maxHeartbeats 80000000
@[simp] theorem cIns_take(x:jI):List.take 2 (cIns x)=cIns x:=rfl
@[simp] theorem mem_cIns(y:D)(x:jI):y∈cIns x ↔ y=dI x.op\/y=dI x.a:=by simp[cIns]
def eIL(m:kG):List (D×D):=eM dI (fun l=>.agg (jm l)) m
@[simp] theorem hitILok(k:Int)(m:kG):hitD tab 79 true (D3 (.int .i64) (.int .i64 k) (eIL m) 0)=some (.tup [.agg [.int .i64 (getM ⟨0,0⟩ k m).st,.int .i64 (getM ⟨0,0⟩ k m).j7],.bool (hasM k m)]):=Pr keyI (fun l=>.agg (jm l)) rfl k m
@[simp] theorem hitIL(k:Int)(m:kG):hitD tab 79 false (D3 (.int .i64) (.int .i64 k) (eIL m) 0)=some (.agg [.int .i64 (getM ⟨0,0⟩ k m).st,.int .i64 (getM ⟨0,0⟩ k m).j7]):=SU keyI (fun l=>.agg (jm l)) rfl k m
@[simp] theorem putIL(k a b:Int)(m:kG):Dt (.int .i64) (.int .i64 k) (.agg [.int .i64 a,.int .i64 b]) (eIL m)=some (eIL (jS k ⟨a,b⟩ m)):=P5 keyI (fun l=>.agg (jm l)) k ⟨a,b⟩ m
def ReR(p:aw)(c:jD)(im2:Nat)(m:kG)(n:Int)(l:jO)(O:Sig)(x:DE)(U':Sig):Prop:=
 if n<0\/(c.j6.length:Int)<=n\/(hasM n m=true/\getM ⟨0,0⟩ n m≠l) then x=.panic unfC/\U'=O else x=.ret (.tup [])/\U'=O.set im2 (.map (eIL (jS n l m)))
def Ew(p:aw)(c:jD)(im im2:Nat)(m:kG)(n:Int)(l:jO)(O:Sig)(hc:c.j6.length<=300)(hm:O im2=some (.map (eIL m))):ar prog 170 [dI n,.agg (jm l),.ak [.map im2] 0,.ak [cChk p c im] 0] O (ReR p c im2 m n l O):=by
 obtain⟨st,j7⟩:=l;refine en func170 ntmps170 ?_
 by_cases h1:n<0
 ·refine gf hm ?_;exact jo (U':=O) (by unfold ReR;rw[aG (.inl h1)];exact⟨rfl,rfl⟩)
 by_cases h2:(c.j6.length:Int)<=n
 ·refine gf hm ?_;exact jo (U':=O) (by unfold ReR;rw[aG (.inr (.inl h2))];exact⟨rfl,rfl⟩)
 cases hh:hasM n m with
 |false=>
  refine gf (gi hm hh) ?_;exact F3 (U':=O.set im2 (.map (eIL (jS n ⟨st,j7⟩ m)))) (by unfold ReR;rw[aE (by rintro(h|h|h);exact h1 h;exact h2 h;rw[hh]at h;cases h.1)];exact⟨rfl,rfl⟩)
 | true =>
  refine gf (gi hm hh) ?_;refine eqlS _ (decide (getM ⟨0,0⟩ n m=(⟨st,j7⟩:jO))) PD Pl (Xn _ _) ?_
  by_cases he:getM ⟨0,0⟩ n m=(⟨st,j7⟩:jO)
  ·refine gf (gi he hm) ?_;exact F3 (U':=O.set im2 (.map (eIL (jS n ⟨st,j7⟩ m)))) (by unfold ReR;rw[aE (by rintro(h|h|h);exact h1 h;exact h2 h;exact h.2 he)];exact⟨rfl,rfl⟩)
  ·refine gf he ?_;exact jo (U':=O) (by unfold ReR;rw[aG (.inr (.inr ⟨hh,he⟩))];exact⟨rfl,rfl⟩)
def ReR.met{p:aw}{c:jD}{im2:Nat}{m:kG}{n:Int}{l:jO}{O:Sig}{x:DE}{U':Sig}(h:ReR p c im2 m n l O x U'):(AQ c.j6.length (jb m) n l=none/\x=.panic unfC/\U'=O)\/(AQ c.j6.length (jb m) n l=some (jb (jS n l m))/\x=.ret (.tup [])/\U'=O.set im2 (.map (eIL (jS n l m)))/\0<=n/\n<c.j6.length):=by
 unfold ReR at h;unfold AQ
 have e:(n<0\/(c.j6.length:Int)<=n\/(hasM n m=true/\getM ⟨0,0⟩ n m≠l)) ↔ (n<0\/(c.j6.length:Int)<=n\/(jb m n.toNat≠none/\jb m n.toNat≠some l)):=by
  by_cases h1:n<0
  ·simp[h1]
  ·have hn:((n.toNat:Nat):Int)=n:=by omega
   unfold jb;rw[hn];cases hh:hasM n m<;>simp
 split at h
 ·rename_i hc;rw[aG (e.1 hc)];exact .inl ⟨rfl,h⟩
 ·rename_i hc;rw[aE fun k=>hc (e.2 k)]
  have hn:n=((n.toNat:Nat):Int):=by
   have:¬n<0:=fun k=>hc (.inl k);omega
  refine .inr ⟨?_,h.1,h.2,j0,?_⟩
  ·have h3:=DG m n.toNat l;rw[<-hn]at h3;rw[h3]
  ·have:¬(c.j6.length:Int)<=n:=fun k=>hc (.inr (.inl k));omega
def newIL{ro:Ro}{n:Nat}{ops:Array Oper}{Q:DX->St->Prop}{df:List DDf}{rest:List Oper}{γ:Fr}{O:Sig}{t:Nat}{ty:TypeId}{pos:String}{after:Array Edge}{T:Nat}(h:∀i,O i=none->au prog ro n ops Q rest ⟨(t,.map i)::γ,O.set i (.map (eIL [])),df⟩)(gL:decide (t<n)=true:=by exact tdR):au prog ro n ops Q (⟨some t,.makeMap T none,ty,pos,after,none⟩::rest) ⟨γ,O,df⟩:=newM h gL
def cSt(s:CSt):eO:=[dI s.pos,dI s.j7,.bool s.next]
def M0{c:jD}{q:Nat}(h:q<c.j6.length):An c q=c.j6[q]:=by unfold An;rw[aD h];rfl
def Q0{m:kG}{n:Nat}{lv:jO}{j7:Int}{q:Nat}(hb:∀j l,jb m j=some l->0<=l.st/\l.st<=q/\j7<=l.j7/\l.j7<=j7+q)(h:0<=lv.st/\lv.st<=q+1/\j7<=lv.j7/\lv.j7<=j7+q+1){z:Int}(hz:z=(n:Int)): ∀j l,jb (jS z lv m) j=some l->0<=l.st/\l.st<=((q+1:Nat):Int)/\j7<=l.j7/\l.j7<=j7+((q+1:Nat):Int):=fun j l hj=>by
 rw[hz,DG]at hj;unfold kQ at hj;split at hj
 ·cases hj;omega
 ·have:=hb j l hj;omega
def bd_put2{m:kG}{n k:Nat}{lv:jO}{j7:Int}{q:Nat}(hb:∀j l,jb m j=some l->0<=l.st/\l.st<=q/\j7<=l.j7/\l.j7<=j7+q)(h:0<=lv.st/\lv.st<=q+1/\j7<=lv.j7/\lv.j7<=j7+q+1){z y:Int}(hz:z=(n:Int))(hy:y=(k:Int)): ∀j l,jb (jS z lv (jS y lv m)) j=some l->0<=l.st/\l.st<=((q+1:Nat):Int)/\j7<=l.j7/\l.j7<=j7+((q+1:Nat):Int):=fun j l hj=>by
 rw[hz,DG,hy,DG]at hj;unfold kQ at hj;split at hj
 ·cases hj;omega
 ·split at hj
  ·cases hj;omega
  ·have:=hb j l hj;omega
def Up {S:Type} (p:aw) (c:jD) (im:Nat) (s:CSt) (lb:Nat) (Good:Sig->S->Prop) (Bad:Sig->Prop) (touch:Nat->Prop) (step:Nat->jO->S->Option S) (hp:p.wt<=1073741824) (hc:c.j6.length<=300) (c9:CO p c.j6.length c.j6 0=true) (ii : ∀ n:Nat,0<=p.ai.getD n 0/\p.ai.getD n 0<=3) (he:0<=s.j7/\s.j7<=1000)
  (hy:∀k l O s,k<c.j6.length->Good O s->kn prog lb [dI k,.agg (jm l)] O (OutO unfC (.bool true) Good Bad touch O (step k l s))) (O:Sig) (s0:S) (hG:Good O s0)
  (hI:∀a,O a=none->∀S1 s o,Good S1 s->Good (S1.set a o) s) (ht:∀a,O a=none->¬touch a) (hB:∀S1 s,Good S1 s->Bad S1) :
  ar prog 169 [.yld lb,.ak [cChk p c im] 0,.ak (cSt s) 0] O (OutO unfC (.tup []) Good Bad touch O (Bm p c s step s0)):=by
 obtain⟨p1,p2,p3,p4,p5,p6,p7⟩:=p.wt_le;obtain⟨ip,ik⟩:=he;obtain⟨pos,j7,next⟩:=s;simp only at ip ik;refine en func169 ntmps169 ?_;refine gz ?_ [] [12];refine newIL (fun im2 eX=>?_);refine gz ?_ [] [12];refine A3 (Ew p c im im2 [] pos ⟨0,j7⟩ _ hc (w6 ..)) (fun d U' hr=>?_) (fun d U' hr=>?_)
 ·rcases hr.met with ⟨_,h,_⟩ | ⟨gw,fZ,fL,iG,iF⟩
  ·cases h
  cases fZ;subst fL;obtain⟨q0,rfl⟩:∃q0:Nat,pos=(q0:Int):=⟨pos.toNat,j0⟩;refine gz ?_ [] [12];have nim:∀j o,O j=some o->j≠im2:=fun j o h e=>by rw[e,eX]at h;cases h
  refine Qt [0,1,2,4,5] (fun (q:Nat) (m:kG) (s1:S) (S1:Sig)=>q0<=q/\q<=c.j6.length/\Good S1 s1/\S1 im2=some (.map (eIL m))/\(∀j o,O j=some o->¬touch j->S1 j=some o)/\Bm p c ⟨(q0:Int),j7,next⟩ step s0=Dq p c j7 next step (c.j6.length-q) q (jb m) s1 /\ ∀j l,jb m j=some l->0<=l.st/\l.st<=q/\j7<=l.j7/\l.j7<=j7+q) (fun q _ _ _=>[(6,dI q)]) (fun _ _ _ S1=>S1) (fun q _ _ _=>c.j6.length-q) (q0) (jS (q0:Int) ⟨0,j7⟩ []) (s0) ((O.set im2 (.map (eIL []))).set im2 (.map (eIL (jS (q0:Int) ⟨0,j7⟩ [])))) (by exact⟨bU _,j0,hI im2 eX _ _ _ (hI im2 eX _ _ _ hG),w6 .., fun j o h _=>by rw[w7 _ _ (nim j o h),w7 _ _ (nim j o h)];exact h,by unfold Bm;rw[aE (by simp only;omega),DG];rfl,fun j l h=>by rw[DG]at h;unfold kQ at h;split at h;(cases h;simp only;omega);cases h⟩) (fun q m s1 S1 hI=>?_);obtain⟨iI,iH,fb,d9,d8,hR,fq⟩:=hI
  by_cases hq:q<c.j6.length
  ·have fH:c.j6.length-q=(c.j6.length-(q+1))+1:=by omega
   rw[fH,Dq,M0 hq]at hR;have fi:=Io _ _ c9 q _ (aD hq);rw[co]at fi;cases fj:jb m q with
   | none =>
    have hh:hasM (q:Int) m=false:=by
     unfold jb at fj;split at fj
     ·cases fj
     ·rename_i h;simpa using h
    rw[fj]at hR;simp only at hR;refine gf (gi d9 hh) ?_ [] [12];exact⟨q+1,m,s1,S1,⟨j0,j0,fb,d9,d8,hR,fun j l h=>by have:=fq j l h;omega⟩,td1,wkR⟩
   | some l =>
    have hh:hasM (q:Int) m=true/\getM ⟨0,0⟩ (q:Int) m=l:=by
     unfold jb at fj;split at fj
     ·rename_i h;exact⟨h,by simpa using fj⟩
     ·cases fj
    obtain⟨fh,fg⟩:=hh;obtain⟨b1,b2,b3,b4⟩:=fq q l fj;rw[fj]at hR;simp only at hR;have hu:=fun iD:(c.j6[q]).op=19=>(show 0<=(c.j6[q]).a/\(c.j6[q]).a<p.ai.length by unfold kZ at fi;rw[iD]at fi;simpa using fi)
    have gu:0<=(Af p c.j6[q]).1/\(Af p c.j6[q]).1<=3/\0<=(Af p c.j6[q]).2/\(Af p c.j6[q]).2<=1:=by
     have:=ii (c.j6[q]).a.toNat
     unfold Af
     repeat' split
     all_goals simp only;omega
    obtain⟨x,hx⟩:∃x,x=c.j6[q]:=⟨_,rfl⟩;rw[<-hx]at hR fi hu gu;have b8:=hx.symm;have i171:∀O,Ans 171 [cChk p c im,.agg (cIns x)] O True (.tup [dI (Af p x).1,dI (Af p x).2]):=fun O=>ah0 (Uo p c im x O hp hu);generalize gq:Af p x=us at*;obtain⟨take,give⟩:=us;obtain⟨st,en⟩:=l;simp only at gu b1 b2 b3 b4
    by_cases ff:¬(take<=st/\(x.op=3->x.a<en)/\(x.op=20->next=true))
    ·have eU:Bm p c ⟨(q0:Int),j7,next⟩ step s0=none:=by
      rw[hR]
      have:Di p c j7 next q x ⟨st,en⟩ (jb m)=none:=by
       unfold Di;rw[gq];refine aG ?_
       by_cases k1:take<=st
       ·by_cases k2:x.op=3->x.a<en
        ·by_cases k3:x.op=20->next=true
         ·exact absurd ⟨k1,k2,k3⟩ ff
         ·rw[Classical.not_imp]at k3;exact .inr (.inr (.inr ⟨k3.1,by simpa using k3.2⟩))
        ·rw[Classical.not_imp]at k2;exact .inr (.inl ⟨k2.1,by have:=k2.2;show en<=x.a;omega⟩)
       ·exact .inl (by show st<take;omega)
      rw[this]
     have fQ:st<take\/(x.op=3/\en<=x.a)\/(x.op=20/\next=false):=by
      by_cases k1:take<=st
      ·by_cases k2:x.op=3->x.a<en
       ·by_cases k3:x.op=20->next=true
        ·exact absurd ⟨k1,k2,k3⟩ ff
        ·rw[Classical.not_imp]at k3;exact .inr (.inr ⟨k3.1,by simpa using k3.2⟩)
       ·rw[Classical.not_imp]at k2;exact .inr (.inl ⟨k2.1,by have:=k2.2;omega⟩)
      ·exact .inl j0
     clear ff hR;rcases fQ with k1|⟨k1,k2⟩|⟨k1,k2⟩
     ·repeat' first|refine gf (gi d9 (gi fh (gi fg b8))) ?_ [] [12]|apply gy<;>intro hh
      all_goals exact jo (U':=S1) (by rw[eU];exact⟨rfl,hB _ _ fb⟩)
     ·repeat' first|refine gf (gi d9 (gi fh (gi fg (gi b8 k1)))) ?_ [] [12]|apply gy<;>intro hh
      all_goals exact jo (U':=S1) (by rw[eU];exact⟨rfl,hB _ _ fb⟩)
     ·repeat' first|refine gf (gi d9 (gi fh (gi fg (gi b8 (gi k1 k2))))) ?_ [] [12]|apply gy<;>intro hh
      all_goals exact jo (U':=S1) (by rw[eU];exact⟨rfl,hB _ _ fb⟩)
    ·rw [Classical.not_not] at ff;obtain⟨e1,e2,e3⟩:=ff
     have fY:¬(st<take\/(x.op=3/\en<=x.a)\/(x.op=15/\en<=j7)\/(x.op=20/\next=false)) ↔ ¬(x.op=15/\en<=j7):=by
      constructor
      ·intro h k;exact h (.inr (.inr (.inl k)))
      ·rintro h (k|⟨k,k2⟩|k|⟨k,k2⟩)
       ·omega
       ·have:=e2 k;omega
       ·exact h k
       ·rw[e3 k]at k2;cases k2
     have fe:∀l:jO,Di p c j7 next q x ⟨st,en⟩ (jb m)=if(st<take\/(x.op=3/\en<=x.a)\/(x.op=15/\en<=j7)\/(x.op=20/\next=false)) then none
      else if x.op=21 then(if st=1/\en=j7 then some (jb m) else none)
      else if x.op=14 then AQ c.j6.length (jb m) ((q:Int)+1) ⟨st-take+give,en+1⟩
      else if x.op=15 then AQ c.j6.length (jb m) ((q:Int)+1) ⟨st-take+give,en-1⟩
      else if x.op=18 then AQ c.j6.length (jb m) x.a ⟨st-take+give,en⟩
      else if x.op=17 then(match AQ c.j6.length (jb m) x.a ⟨st-take+give,en⟩with
       |none=>none
       |some m=>AQ c.j6.length m ((q:Int)+1) ⟨st-take+give,en⟩)
      else AQ c.j6.length (jb m) ((q:Int)+1) ⟨st-take+give,en⟩:=fun _=>by unfold Di;rw[gq];rfl
     rw[fe ⟨0,0⟩]at hR;clear fe
     by_cases fk:x.op=21
     ·rw[aE (fY.2 j0),aG fk]at hR
      by_cases fy:st=1/\en=j7
      ·rw[aG fy]at hR;obtain⟨g1,g2⟩:=fy;simp only at hR;refine gf (gi d9 (gi fh (gi fg (gi b8 fk)))) ?_ [] [12];refine yldW (hy q ⟨st,en⟩ S1 s1 hq fb) (fun d S2 hr=>?_) (fun d S2 hr=>?_)
       rotate_left
       ·obtain⟨hn,rfl,hb⟩:=hr.pan;rw[hn]at hR;have eU:Bm p c ⟨(q0:Int),j7,next⟩ step s0=none:=by first|exact hR|(rw[hR];split<;>rfl)
        exact jo (U':=S2) (by rw[eU];exact⟨rfl,hb⟩)
       obtain⟨s2,fa,rfl,eV,b7⟩:=hr.ret;rw[fa]at hR;have hm2:=b7 im2 _ d9 (ht im2 eX);have eY:∀j o,O j=some o->¬touch j->S2 j=some o:=fun j o h1 h2=>b7 j o (d8 j o h1 h2) h2;refine gf (gi b8 fk) ?_ [] [12];refine je (fun i12 b6=>?_);have n12:im2≠i12:=fun e=>by rw[<-e,hm2]at b6;cases b6
       refine gf (gi b8 fk) ?_ [] [12];exact⟨q+1,m,s2,S2,⟨j0,j0,eV,hm2,eY,hR,fun j l h=>by have:=fq j l h;omega⟩,td1,wkR⟩
      ·rw[aE fy]at hR;simp only at hR;refine gf (gi d9 (gi fh (gi fg (gi b8 fk)))) ?_ [] [12];refine yldW (hy q ⟨st,en⟩ S1 s1 hq fb) (fun d S2 hr=>?_) (fun d S2 hr=>?_)
       rotate_left
       ·obtain⟨hn,rfl,hb⟩:=hr.pan;have eU:Bm p c ⟨(q0:Int),j7,next⟩ step s0=none:=hR;exact jo (U':=S2) (by rw[eU];exact⟨rfl,hb⟩)
       obtain⟨s2,fa,rfl,eV,b7⟩:=hr.ret;have hm2:=b7 im2 _ d9 (ht im2 eX);have eY:∀j o,O j=some o->¬touch j->S2 j=some o:=fun j o h1 h2=>b7 j o (d8 j o h1 h2) h2;refine gf (gi b8 fk) ?_ [] [12];refine je (fun i12 b6=>?_);have n12:im2≠i12:=fun e=>by rw[<-e,hm2]at b6;cases b6
       repeat' first|refine gf (gi b8 fk) ?_ [] [12]|apply gy<;>intro hh
       all_goals exact jo (U':=S2) (by rw[hR];exact⟨rfl,hB _ _ eV⟩)
     have eW:∀(i12:Nat) (o o':jP),im2≠i12->S1=S1->∀S2:Sig,S2 i12=none->Sub (S2.set im2 o) ((S2.set i12 o').set im2 o):=fun i12 o o' hn _ S2 b6 k y hk=>by
      by_cases gB:k=im2
      ·subst gB;rw[w6]at hk⊢; exact hk
      ·rw[w7 _ _ gB]at hk⊢;rw[w7 _ _ (fun e=>by rw[e,b6]at hk;cases hk)];exact hk
     ·by_cases fC:x.op=14
      ·rw[aE (fY.2 j0),aE fk,aG fC]at hR;refine gf (gi d9 (gi fh (gi fg (gi b8 fC)))) ?_ [] [12];refine yldW (hy q ⟨st,en⟩ S1 s1 hq fb) (fun d S2 hr=>?_) (fun d S2 hr=>?_)
       rotate_left
       ·obtain⟨hn,rfl,hb⟩:=hr.pan;rw[hn]at hR;have eU:Bm p c ⟨(q0:Int),j7,next⟩ step s0=none:=by first|exact hR|(rw[hR];split<;>rfl)
        exact jo (U':=S2) (by rw[eU];exact⟨rfl,hb⟩)
       obtain⟨s2,fa,rfl,eV,b7⟩:=hr.ret;rw[fa]at hR;have hm2:=b7 im2 _ d9 (ht im2 eX);have eY:∀j o,O j=some o->¬touch j->S2 j=some o:=fun j o h1 h2=>b7 j o (d8 j o h1 h2) h2;refine gf (gi b8 fC) ?_ [] [12];refine je (fun i12 b6=>?_);have n12:im2≠i12:=fun e=>by rw[<-e,hm2]at b6;cases b6
       refine gf (gi b8 fC) ?_ [] [12];refine A3 (Ew p c im im2 (m) ((q:Int)+1) ⟨st-take+give,en+1⟩ _ hc (j2 n12 hm2)) (fun d S3 hr=>?_) (fun d S3 hr=>?_)
       rotate_left
       ·rcases hr.met with⟨hn,d5,b9⟩|⟨_,h5,_⟩
        ·cases d5;subst b9;rw[hn]at hR;exact jo (U':=S2) (by rw[hR];exact⟨rfl,hB _ _ eV⟩)
        ·cases h5
       rcases hr.met with⟨_,h5,_⟩|⟨hn,d5,b9,fN,fM⟩
       ·cases h5
       cases d5;subst b9;rw[hn]at hR;simp only at hR;have fo:=eW i12 (.map (eIL (jS ((q:Int)+1) ⟨st-take+give,en+1⟩ m))) (.cells [dI (st-take+give),dI (en+1)]) n12 rfl S2 b6;refine gf fC ?_ [] [12];exact⟨q+1,jS ((q:Int)+1) ⟨st-take+give,en+1⟩ m,s2,S2.set im2 (.map (eIL (jS ((q:Int)+1) ⟨st-take+give,en+1⟩ m))),⟨j0,j0,hI im2 eX _ _ _ eV,w6 .., fun j o h1 h2=>by rw[w7 _ _ (nim j o h1)];exact eY j o h1 h2,hR,Q0 (n:=q+1) fq (by simp only;omega) j0⟩,td1,wkR⟩
      ·by_cases fm:x.op=15
       ·by_cases go:en<=j7
        ·rw[aG (.inr (.inr (.inl ⟨fm,go⟩)))]at hR;simp only at hR;refine gf (gi d9 (gi fh (gi fg (gi b8 fm)))) ?_ [] [12];refine yldW (hy q ⟨st,en⟩ S1 s1 hq fb) (fun d S2 hr=>?_) (fun d S2 hr=>?_)
         rotate_left
         ·obtain⟨hn,rfl,hb⟩:=hr.pan;have eU:Bm p c ⟨(q0:Int),j7,next⟩ step s0=none:=hR;exact jo (U':=S2) (by rw[eU];exact⟨rfl,hb⟩)
         obtain⟨s2,fa,rfl,eV,b7⟩:=hr.ret;have hm2:=b7 im2 _ d9 (ht im2 eX);have eY:∀j o,O j=some o->¬touch j->S2 j=some o:=fun j o h1 h2=>b7 j o (d8 j o h1 h2) h2;refine gf (gi b8 fm) ?_ [] [12];refine je (fun i12 b6=>?_);have n12:im2≠i12:=fun e=>by rw[<-e,hm2]at b6;cases b6
         repeat' first|refine gf (gi b8 fm) ?_ [] [12]|apply gy<;>intro hh
         all_goals exact jo (U':=S2) (by rw[hR];exact⟨rfl,hB _ _ eV⟩)
        ·rw[aE (fY.2 j0),aE fk,aE fC,aG fm]at hR;refine gf (gi d9 (gi fh (gi fg (gi b8 fm)))) ?_ [] [12];refine yldW (hy q ⟨st,en⟩ S1 s1 hq fb) (fun d S2 hr=>?_) (fun d S2 hr=>?_)
         rotate_left
         ·obtain⟨hn,rfl,hb⟩:=hr.pan;rw[hn]at hR;have eU:Bm p c ⟨(q0:Int),j7,next⟩ step s0=none:=by first|exact hR|(rw[hR];split<;>rfl)
          exact jo (U':=S2) (by rw[eU];exact⟨rfl,hb⟩)
         obtain⟨s2,fa,rfl,eV,b7⟩:=hr.ret;rw[fa]at hR;have hm2:=b7 im2 _ d9 (ht im2 eX);have eY:∀j o,O j=some o->¬touch j->S2 j=some o:=fun j o h1 h2=>b7 j o (d8 j o h1 h2) h2;refine gf (gi b8 fm) ?_ [] [12];refine je (fun i12 b6=>?_);have n12:im2≠i12:=fun e=>by rw[<-e,hm2]at b6;cases b6
         refine gf (gi b8 fm) ?_ [] [12];refine A3 (Ew p c im im2 (m) ((q:Int)+1) ⟨st-take+give,en-1⟩ _ hc (j2 n12 hm2)) (fun d S3 hr=>?_) (fun d S3 hr=>?_)
         rotate_left
         ·rcases hr.met with⟨hn,d5,b9⟩|⟨_,h5,_⟩
          ·cases d5;subst b9;rw[hn]at hR;exact jo (U':=S2) (by rw[hR];exact⟨rfl,hB _ _ eV⟩)
          ·cases h5
         rcases hr.met with⟨_,h5,_⟩|⟨hn,d5,b9,fN,fM⟩
         ·cases h5
         cases d5;subst b9;rw[hn]at hR;simp only at hR;have fo:=eW i12 (.map (eIL (jS ((q:Int)+1) ⟨st-take+give,en-1⟩ m))) (.cells [dI (st-take+give),dI (en-1)]) n12 rfl S2 b6;refine gf fm ?_ [] [12];exact⟨q+1,jS ((q:Int)+1) ⟨st-take+give,en-1⟩ m,s2,S2.set im2 (.map (eIL (jS ((q:Int)+1) ⟨st-take+give,en-1⟩ m))),⟨j0,j0,hI im2 eX _ _ _ eV,w6 .., fun j o h1 h2=>by rw[w7 _ _ (nim j o h1)];exact eY j o h1 h2,hR,Q0 (n:=q+1) fq (by simp only;omega) j0⟩,td1,wkR⟩
       ·rw [aE (fY.2 j0),aE fk,aE fC,aE fm] at hR
        by_cases fB:x.op=18
        ·rw[aG fB]at hR;have gJ:(q:Int)<x.a/\x.a<c.j6.length:=by unfold kZ at fi;rw[fB]at fi;simpa using fi
         obtain⟨xa,fw⟩:∃xa:Nat,x.a=(xa:Int):=⟨x.a.toNat,j0⟩;refine gf (gi d9 (gi fh (gi fg (gi b8 fB)))) ?_ [] [12];refine yldW (hy q ⟨st,en⟩ S1 s1 hq fb) (fun d S2 hr=>?_) (fun d S2 hr=>?_)
         rotate_left
         ·obtain⟨hn,rfl,hb⟩:=hr.pan;rw[hn]at hR;have eU:Bm p c ⟨(q0:Int),j7,next⟩ step s0=none:=by first|exact hR|(rw[hR];split<;>rfl)
          exact jo (U':=S2) (by rw[eU];exact⟨rfl,hb⟩)
         obtain⟨s2,fa,rfl,eV,b7⟩:=hr.ret;rw[fa]at hR;have hm2:=b7 im2 _ d9 (ht im2 eX);have eY:∀j o,O j=some o->¬touch j->S2 j=some o:=fun j o h1 h2=>b7 j o (d8 j o h1 h2) h2;refine gf (gi b8 fB) ?_ [] [12];refine je (fun i12 b6=>?_);have n12:im2≠i12:=fun e=>by rw[<-e,hm2]at b6;cases b6
         refine gf (gi b8 fB) ?_ [] [12];refine A3 (Ew p c im im2 (m) (x.a) ⟨st-take+give,en⟩ _ hc (j2 n12 hm2)) (fun d S3 hr=>?_) (fun d S3 hr=>?_)
         rotate_left
         ·rcases hr.met with⟨hn,d5,b9⟩|⟨_,h5,_⟩
          ·cases d5;subst b9;rw[hn]at hR;exact jo (U':=S2) (by rw[hR];exact⟨rfl,hB _ _ eV⟩)
          ·cases h5
         rcases hr.met with⟨_,h5,_⟩|⟨hn,d5,b9,fN,fM⟩
         ·cases h5
         cases d5;subst b9;rw[hn]at hR;simp only at hR;have fo:=eW i12 (.map (eIL (jS x.a ⟨st-take+give,en⟩ m))) (.cells [dI (st-take+give),dI en]) n12 rfl S2 b6;refine gf fB ?_ [] [12];exact⟨q+1,jS x.a ⟨st-take+give,en⟩ m,s2,S2.set im2 (.map (eIL (jS x.a ⟨st-take+give,en⟩ m))),⟨j0,j0,hI im2 eX _ _ _ eV,w6 .., fun j o h1 h2=>by rw[w7 _ _ (nim j o h1)];exact eY j o h1 h2,hR,Q0 (n:=xa) fq (by simp only;omega) fw⟩,td1,wkR⟩
        ·rw [aE fB] at hR
         by_cases fv:x.op=17
         ·rw[aG fv]at hR;have gJ:(q:Int)<x.a/\x.a<c.j6.length:=by unfold kZ at fi;rw[fv]at fi;simpa using fi
          obtain⟨xa,fw⟩:∃xa:Nat,x.a=(xa:Int):=⟨x.a.toNat,j0⟩;refine gf (gi d9 (gi fh (gi fg (gi b8 fv)))) ?_ [] [12];refine yldW (hy q ⟨st,en⟩ S1 s1 hq fb) (fun d S2 hr=>?_) (fun d S2 hr=>?_)
          rotate_left
          ·obtain⟨hn,rfl,hb⟩:=hr.pan;rw[hn]at hR;have eU:Bm p c ⟨(q0:Int),j7,next⟩ step s0=none:=by first|exact hR|(rw[hR];split<;>rfl)
           exact jo (U':=S2) (by rw[eU];exact⟨rfl,hb⟩)
          obtain⟨s2,fa,rfl,eV,b7⟩:=hr.ret;rw[fa]at hR;have hm2:=b7 im2 _ d9 (ht im2 eX);have eY:∀j o,O j=some o->¬touch j->S2 j=some o:=fun j o h1 h2=>b7 j o (d8 j o h1 h2) h2;refine gf (gi b8 fv) ?_ [] [12];refine je (fun i12 b6=>?_);have n12:im2≠i12:=fun e=>by rw[<-e,hm2]at b6;cases b6
          refine gf (gi b8 fv) ?_ [] [12];refine A3 (Ew p c im im2 (m) (x.a) ⟨st-take+give,en⟩ _ hc (j2 n12 hm2)) (fun d S3 hr=>?_) (fun d S3 hr=>?_)
          rotate_left
          ·rcases hr.met with⟨hn,d5,b9⟩|⟨_,h5,_⟩
           ·cases d5;subst b9;rw[hn]at hR;exact jo (U':=S2) (by rw[hR];exact⟨rfl,hB _ _ eV⟩)
           ·cases h5
          rcases hr.met with⟨_,h5,_⟩|⟨hn,d5,b9,fN,fM⟩
          ·cases h5
          cases d5;subst b9;rw[hn]at hR;simp only at hR;have gv:=eW i12 (.map (eIL (jS x.a ⟨st-take+give,en⟩ m))) (.cells [dI (st-take+give),dI en]) n12 rfl S2 b6;have iC:=hI im2 eX S2 s2 (.map (eIL (jS x.a ⟨st-take+give,en⟩ m))) eV;refine gf fv ?_ [] [12];refine A3 (Ew p c im im2 (jS x.a ⟨st-take+give,en⟩ m) ((q:Int)+1) ⟨st-take+give,en⟩ _ hc (w6 ..)) (fun d S3 hr=>?_) (fun d S3 hr=>?_)
          rotate_left
          ·rcases hr.met with⟨hn,d5,b9⟩|⟨_,h5,_⟩
           ·cases d5;subst b9;rw[hn]at hR;exact jo (U':=S2.set im2 (.map (eIL (jS x.a ⟨st-take+give,en⟩ m)))) (by rw[hR];exact⟨rfl,hB _ _ iC⟩)
           ·cases h5
          rcases hr.met with⟨_,h5,_⟩|⟨hn,d5,b9,fN,fM⟩
          ·cases h5
          cases d5;subst b9;rw[hn]at hR;simp only at hR;rw[w8];have fo:=eW i12 (.map (eIL (jS ((q:Int)+1) ⟨st-take+give,en⟩ (jS x.a ⟨st-take+give,en⟩ m)))) (.cells [dI (st-take+give),dI en]) n12 rfl S2 b6;refine gf fv ?_ [] [12];exact⟨q+1,jS ((q:Int)+1) ⟨st-take+give,en⟩ (jS x.a ⟨st-take+give,en⟩ m),s2,S2.set im2 (.map (eIL (jS ((q:Int)+1) ⟨st-take+give,en⟩ (jS x.a ⟨st-take+give,en⟩ m)))),⟨j0,j0,hI im2 eX _ _ _ eV,w6 .., fun j o h1 h2=>by rw[w7 _ _ (nim j o h1)];exact eY j o h1 h2,hR,bd_put2 (n:=q+1) (k:=xa) fq (by simp only;omega) j0 fw⟩,td1,wkR⟩
         ·rw [aE fv] at hR
          have iq:(x.op=3/\x.a<en)\/(x.op=20/\next=true)\/(¬x.op=3 /\ ¬x.op=20):=by
           by_cases h3:x.op=3
           ·exact .inl ⟨h3,e2 h3⟩
           ·by_cases gn:x.op=20
            ·exact .inr (.inl ⟨gn,e3 gn⟩)
            ·exact .inr (.inr ⟨h3,gn⟩)
          rcases iq with⟨f1,f2⟩|⟨f1,f2⟩|⟨f1,f2⟩
          all_goals
           refine gf (gi d9 (gi fh (gi fg (gi b8 (gi f1 f2))))) ?_ [] [12];refine yldW (hy q ⟨st,en⟩ S1 s1 hq fb) (fun d S2 hr=>?_) (fun d S2 hr=>?_)
           rotate_left
           ·obtain⟨hn,rfl,hb⟩:=hr.pan;rw[hn]at hR;have eU:Bm p c ⟨(q0:Int),j7,next⟩ step s0=none:=by first|exact hR|(rw[hR];split<;>rfl)
            exact jo (U':=S2) (by rw[eU];exact⟨rfl,hb⟩)
           obtain⟨s2,fa,rfl,eV,b7⟩:=hr.ret;rw[fa]at hR;have hm2:=b7 im2 _ d9 (ht im2 eX);have eY:∀j o,O j=some o->¬touch j->S2 j=some o:=fun j o h1 h2=>b7 j o (d8 j o h1 h2) h2;refine gf (gi b8 (gi f1 f2)) ?_ [] [12];refine je (fun i12 b6=>?_);have n12:im2≠i12:=fun e=>by rw[<-e,hm2]at b6;cases b6
           refine gf (gi b8 (gi f1 f2)) ?_ [] [12];refine A3 (Ew p c im im2 (m) ((q:Int)+1) ⟨st-take+give,en⟩ _ hc (j2 n12 hm2)) (fun d S3 hr=>?_) (fun d S3 hr=>?_)
           rotate_left
           ·rcases hr.met with⟨hn,d5,b9⟩|⟨_,h5,_⟩
            ·cases d5;subst b9;rw[hn]at hR;exact jo (U':=S2) (by rw[hR];exact⟨rfl,hB _ _ eV⟩)
            ·cases h5
           rcases hr.met with⟨_,h5,_⟩|⟨hn,d5,b9,fN,fM⟩
           ·cases h5
           cases d5;subst b9;rw[hn]at hR;simp only at hR;have fo:=eW i12 (.map (eIL (jS ((q:Int)+1) ⟨st-take+give,en⟩ m))) (.cells [dI (st-take+give),dI (en)]) n12 rfl S2 b6;refine gf (gi f1 f2) ?_ [] [12];exact⟨q+1,jS ((q:Int)+1) ⟨st-take+give,en⟩ m,s2,S2.set im2 (.map (eIL (jS ((q:Int)+1) ⟨st-take+give,en⟩ m))),⟨j0,j0,hI im2 eX _ _ _ eV,w6 .., fun j o h1 h2=>by rw[w7 _ _ (nim j o h1)];exact eY j o h1 h2,hR,Q0 (n:=q+1) fq (by simp only;omega) j0⟩,td1,wkR⟩
  ·
   have e0:c.j6.length-q=0:=by omega
   rw[e0,Dq]at hR;refine gz ?_ [] [12];exact F3 (U':=S1) (by rw[hR];exact⟨rfl,fb,d8⟩)
 ·rcases hr.met with⟨hn,d5,b9⟩|⟨_,h5,_⟩
  ·cases d5;subst b9
   have eU:Bm p c ⟨pos,j7,next⟩ step s0=none:=by
    unfold Bm;refine aG ?_;unfold AQ at hn;split at hn
    ·rename_i h;rcases h with h|h|h
     ·exact .inl h
     ·exact .inr h
     ·exact absurd rfl h.1
    ·cases hn
   exact jo (U':=O) (by rw[eU];exact⟨rfl,hB _ _ hG⟩) ((Sub.refl _).set eX)
  ·cases h5
end Go.DL
namespace Go.DL
open Go.Proofs.Tryz
open Go Go.Proofs
set_option maxHeartbeats 8000000
def Iv:List (Int×Int):=[(1,1),(2,2),(3,3),(4,5),(5,19),(6,4),(7,8),(8,6),(12,9),(13,10),(14,11),(15,12),(16,13),(17,7),(18,20)]
def pK:eO:=(eIN Iv).map (·.1)
def pV:eO:=(eIN Iv).map (·.2)
theorem pKV:pK.zip pV=eIN Iv:=rfl
@[simp] theorem hitIN85(k:Int)(m:List (Int×Int)):hitD tab 85 false (D3 (.int .i64) (.int .i64 k) (eIN m) 0)=some (.int .i64 (getM 0 k m)):=SU keyI dI rfl k m
def Qn{o:Int}(h:1<=o/\o<=18)(h9:o≠9)(fF:o≠10)(fE:o≠11):getM 0 o Iv=Vr o:=by
 have:o=1\/o=2\/o=3\/o=4\/o=5\/o=6\/o=7\/o=8\/o=12\/o=13\/o=14\/o=15\/o=16\/o=17\/o=18:=by omega
 rcases this with e|e|e|e|e|e|e|e|e|e|e|e|e|e|e<;>rw[e]<;>rfl
def U3(O:Sig):ar prog 208 [] O (rS (.cmap pK pV) O):=by
 refine en func208 ntmps208 ?_;refine gz ?_;refine newIN (fun im eX=>?_)
 repeat ((fail_if_success (first|(refine cfr 1 (i:=im) (m:=eIN Iv) (w6 ..) ?_)|fail));(first|refine go1 trivial ?_|with_reducible refine HU ?_))
 refine cfr 1 (i:=im) (m:=eIN Iv) (w6 ..) ?_;rw[show(eIN Iv).map (·.1)=pK from rfl,show(eIN Iv).map (·.2)=pV from rfl];rw[Sig.set_del _ _ eX];refine gz ?_;exact fe1 trivial
@[reducible,instance] def a208:=fun O=>ah0 (@U3 O)
def OX(l r:List jI)(op a b:Int):setA (l++⟨op,a⟩::r) l.length b=l++⟨op,b⟩::r:=by
 unfold setA;rw[List.take_left,bK (bU _),dB,List.drop_append];simp
def Li(p:aw)(inM:Bool)(hp:p.wt<=1073741824): ∀(k:Nat) (n:Int) (size:Nat),trE p inM k n size->∀(ib:Nat) (s m:D) (st:MR) (j6:List jI) (O:Sig),j6.length+cL p k n<=1000000->kl ib s m st j6 O->
  ar prog 131 [.ptr ib 0,.agg (A7 p),dI n] O fun x U'=>x=.ret (.tup []) /\ ∃st',kl ib s m st' (j6++cN p k n j6.length) U'/\BK ib O st U' st':=by
 obtain⟨p1,p2,p3,p4,p5,p6,p7⟩:=p.wt_le;intro k
 induction k with
 |zero=>intro n size h;exact h.elim
 | succ k ih =>
  intro n size h ib s m st j6 O hq hB;have gx:=tr_op h;have fA:=fun m hm=>LH h (m:=m) hm;obtain⟨⟨h0,h1⟩,gY,gU,gT,hk⟩:=h;obtain⟨i,rfl⟩:∃i:Nat,n=(i:Int):=⟨n.toNat,j0⟩;have hi:i<p.jJ.length:=by omega
  have f7:Ad p i=p.jJ[i]:=by unfold Ad;rw[show((i:Int)).toNat=i by omega,aD hi];rfl
  have gK:=p7 i hi;have hN:=PS p k;rw[cL,f7]at hq;rw[cN,f7];rw[f7]at gx fA gY gU gT hk;generalize hx:p.jJ[i]=x at*;have iK:x.ag.length<=1073741824:=by unfold ay.wt at gK;omega
  have gZ:∀c∈x.ag, ∃z:Nat,trE p inM k c z:=fun c hc=>by
   obtain⟨j,hj,rfl⟩:=bT hc;have:=hk j hj;split at this
   ·exact⟨size+1,this⟩
   ·exact⟨size,this⟩
  have hS:∀c∈x.ag, ∀(st:MR) (l:List jI) (O:Sig),l.length+cL p k c<=1000000->kl ib s m st l O->ar prog 131 [.ptr ib 0,.agg (A7 p),dI c] O fun x U'=>x=.ret (.tup []) /\ ∃st',kl ib s m st' (l++cN p k c l.length) U'/\BK ib O st U' st':=fun c hc st l O hl hB=>by
   obtain⟨z,hz⟩:=gZ c hc;exact ih c z hz ib s m st l O hl hB
  by_cases h9:x.op=9
  ·rw[aG h9]at hq⊢
   obtain⟨a,b,d7⟩:∃a b,x.ag=[a,b]:=by
    have hl:x.ag.length=2:=fA 2 (by rw[h9];rfl)
    match hx:x.ag,hl with
    |[a,b],_=>exact⟨a,b,rfl⟩
   have fS:jh x 0=a:=by unfold jh;rw[d7];rfl
   have fR:jh x 1=b:=by unfold jh;rw[d7];rfl
   rw[fS,fR]at hq⊢;have e1:(j6++cN p k a j6.length).length=j6.length+cL p k a:=by rw[aC,hN]
   have e2:(j6++cN p k a j6.length++[(⟨14,0⟩:jI)]).length=j6.length+cL p k a+1:=by rw[aC,e1];rfl
   refine en func131 ntmps131 ?_;refine gf (gi hx (gi h9 d7)) ?_ o131;refine A3 (hS a (by rw[d7];simp) st j6 O j0 hB) (fun d S1 hr=>?_);obtain⟨q1,st1,fc,d8⟩:=hr;cases q1;refine gz ?_ o131;refine A3 (DM 14 0 j0 fc) (fun d S2 hr=>?_);obtain⟨q2,st2,d6,b7⟩:=hr;cases q2;refine gf d7 ?_ o131;refine A3 (hS b (by rw[d7];simp) st2 _ S2 j0 d6) (fun d S3 hr=>?_);obtain⟨q3,st3,fu,eY⟩:=hr;cases q3;rw[e2]at fu;have e3:(j6++cN p k a j6.length++[(⟨14,0⟩:jI)]++cN p k b (j6.length+cL p k a+1)).length=j6.length+cL p k a+1+cL p k b:=by rw[aC,e2,hN]
   refine gz ?_ o131;refine A3 (DM 15 0 j0 fu) (fun d S4 hr=>?_);obtain⟨q4,st4,gm,gk⟩:=hr;cases q4;refine gz ?_ o131;refine F3 (U':=S4) ⟨rfl,st4,?_,((d8.trans b7).trans eY).trans gk⟩;simpa[aO] using gm
  ·rw [aE h9] at hq ⊢
   by_cases fE:x.op=11
   ·rw[aG fE]at hq⊢
    obtain⟨a,b,d7⟩:∃a b,x.ag=[a,b]:=by
     have hl:x.ag.length=2:=fA 2 (by rw[fE];rfl)
     match hx:x.ag,hl with
     |[a,b],_=>exact⟨a,b,rfl⟩
    have fS:jh x 0=a:=by unfold jh;rw[d7];rfl
    have fR:jh x 1=b:=by unfold jh;rw[d7];rfl
    rw[fS,fR]at hq⊢;have e1:(j6++cN p k a j6.length).length=j6.length+cL p k a:=by rw[aC,hN]
    have e2:(j6++cN p k a j6.length++[(⟨16,0⟩:jI)]).length=j6.length+cL p k a+1:=by rw[aC,e1];rfl
    refine en func131 ntmps131 ?_;refine gf (gi hx (gi fE d7)) ?_ o131;refine A3 (hS a (by rw[d7];simp) st j6 O j0 hB) (fun d S1 hr=>?_);obtain⟨q1,st1,fc,d8⟩:=hr;cases q1;refine gz ?_ o131;refine A3 (DM 16 0 j0 fc) (fun d S2 hr=>?_);obtain⟨q2,st2,d6,b7⟩:=hr;cases q2;refine gf d7 ?_ o131;refine A3 (hS b (by rw[d7];simp) st2 _ S2 j0 d6) (fun d S3 hr=>?_);obtain⟨q3,st3,fu,eY⟩:=hr;cases q3;rw[e2]at fu;refine gz ?_ o131;refine F3 (U':=S3) ⟨rfl,st3,?_,(d8.trans b7).trans eY⟩;simpa[aO] using fu
   ·rw [aE fE] at hq ⊢
    by_cases fF:x.op=10
    ·rw[aG fF]at hq⊢
     obtain⟨a,b,c,d7⟩:∃a b c,x.ag=[a,b,c]:=by
      have hl:x.ag.length=3:=fA 3 (by rw[fF];rfl)
      match hx:x.ag,hl with
      |[a,b,c],_=>exact⟨a,b,c,rfl⟩
     have fS:jh x 0=a:=by unfold jh;rw[d7];rfl
     have fR:jh x 1=b:=by unfold jh;rw[d7];rfl
     have iv:jh x 2=c:=by unfold jh;rw[d7];rfl
     rw[fS,fR,iv]at hq⊢;have e1:(j6++cN p k a j6.length).length=j6.length+cL p k a:=by rw[aC,hN]
     have e2:(j6++cN p k a j6.length++[(⟨17,0⟩:jI)]).length=j6.length+cL p k a+1:=by rw[aC,e1];rfl
     refine en func131 ntmps131 ?_;refine gf (gi hx (gi fF d7)) ?_ o131;refine A3 (hS a (by rw[d7];simp) st j6 O j0 hB) (fun d S1 hr=>?_);obtain⟨q1,st1,fc,d8⟩:=hr;cases q1;refine gz ?_ o131;refine A3 (Nk 17 j0 fc) (fun d S2 hr=>?_);obtain⟨q2,st2,d6,b7⟩:=hr;obtain⟨k1,fD⟩:∃k1,k1=(j6++cN p k a j6.length).length:=⟨_,rfl⟩;rw[<-fD]at q2;cases q2;refine gf d7 ?_ o131;refine A3 (hS b (by rw[d7];simp) st2 _ S2 j0 d6) (fun d S3 hr=>?_);obtain⟨q3,st3,fu,eY⟩:=hr;cases q3;rw[e2]at fu;have e3:(j6++cN p k a j6.length++[(⟨17,0⟩:jI)]++cN p k b (j6.length+cL p k a+1)).length=j6.length+cL p k a+1+cL p k b:=by rw[aC,e2,hN]
     refine gz ?_ o131;refine A3 (Nk 18 j0 fu) (fun d S4 hr=>?_);obtain⟨q4,st4,gm,gk⟩:=hr;obtain⟨k2,ga⟩:∃k2,k2=(j6++cN p k a j6.length++[(⟨17,0⟩:jI)]++cN p k b (j6.length+cL p k a+1)).length:=⟨_,rfl⟩;rw[<-ga]at q4;cases q4;have e4:(j6++cN p k a j6.length++[(⟨17,0⟩:jI)]++cN p k b (j6.length+cL p k a+1)++[(⟨18,0⟩:jI)]).length=j6.length+cL p k a+1+cL p k b+1:=by rw[aC,e3];rfl
     refine gz ?_ o131;refine A3 (Nc k1 j0 j0 gm) (fun d S5 hr=>?_);obtain⟨q5,st5,gI,iB⟩:=hr;cases q5;have b9:j6++cN p k a j6.length++[(⟨17,0⟩:jI)]++cN p k b (j6.length+cL p k a+1)++[(⟨18,0⟩:jI)]=(j6++cN p k a j6.length)++⟨17,0⟩::(cN p k b (j6.length+cL p k a+1)++[(⟨18,0⟩:jI)]):=by simp
     rw[e4,b9,fD,OX]at gI;have e5:(j6++cN p k a j6.length++(⟨17,((j6.length+cL p k a+1+cL p k b+1:Nat):Int)⟩:jI)::(cN p k b (j6.length+cL p k a+1)++[(⟨18,0⟩:jI)])).length=j6.length+cL p k a+1+cL p k b+1:=by rw[aC,e1,aS,aC,hN];simp only[aS,cu];omega
     refine gf d7 ?_ o131;refine A3 (hS c (by rw[d7];simp) st5 _ S5 j0 gI) (fun d S6 hr=>?_);obtain⟨q6,st6,gH,iA⟩:=hr;cases q6;rw[e5]at gH;have e6:(j6++cN p k a j6.length++(⟨17,((j6.length+cL p k a+1+cL p k b+1:Nat):Int)⟩:jI)::(cN p k b (j6.length+cL p k a+1)++[(⟨18,0⟩:jI)])++cN p k c (j6.length+cL p k a+1+cL p k b+1)).length=j6.length+cL p k a+1+cL p k b+1+cL p k c:=by rw[aC,e5,hN]
     refine gz ?_ o131;refine A3 (Nc k2 j0 j0 gH) (fun d S7 hr=>?_);obtain⟨q7,st7,gG,iz⟩:=hr;cases q7
     have gQ:(j6++cN p k a j6.length++(⟨17,((j6.length+cL p k a+1+cL p k b+1:Nat):Int)⟩:jI)::(cN p k b (j6.length+cL p k a+1)++[(⟨18,0⟩:jI)])++cN p k c (j6.length+cL p k a+1+cL p k b+1)) =
       (j6++cN p k a j6.length++(⟨17,((j6.length+cL p k a+1+cL p k b+1:Nat):Int)⟩:jI)::cN p k b (j6.length+cL p k a+1))++⟨18,0⟩::cN p k c (j6.length+cL p k a+1+cL p k b+1):=by simp
     have f9:k2=(j6++cN p k a j6.length++(⟨17,((j6.length+cL p k a+1+cL p k b+1:Nat):Int)⟩:jI)::cN p k b (j6.length+cL p k a+1)).length:=by rw[ga];simp
     rw[e6,gQ,f9,OX]at gG;refine gz ?_ o131;refine F3 (U':=S7) ⟨rfl,st7,?_,(((((d8.trans b7).trans eY).trans gk).trans iB).trans iA).trans iz⟩;simpa[aO] using gG
    ·rw[aE fF]at hq⊢;have gS:=Qn gx h9 fF fE;have iU:(Kr (cN p k) x.ag j6.length).length=wtL (cL p k) x.ag:=K6 hN _ _;refine en func131 ntmps131 ?_;refine gf hx ?_ o131;refine Qt ([0,4,6,19,20]++List.range' 30 8) (fun (j:Nat) (out:List jI) (st1:MR) (S1:Sig)=>j<=x.ag.length/\out++Kr (cN p k) (x.ag.drop j) (j6.length+out.length)=Kr (cN p k) x.ag j6.length/\kl ib s m st1 (j6++out) S1/\BK ib O st S1 st1) (fun j _ _ _=>[(21,dI j)]) (fun _ _ _ S1=>S1) (fun j _ _ _=>x.ag.length-j) (0) ([]) (st) (O) (by exact⟨j0,rfl,by rw[bl];exact hB,BK.refl _ _ _⟩) (fun j out st1 S1 hI=>?_);obtain⟨hj,hR,fc,d8⟩:=hI
     by_cases fO:j<x.ag.length
     ·rw[A6 fO,Kr]at hR;have f8:=bn List.length hR;simp only[aC,hN]at f8;refine gf hx ?_ o131;refine A3 (hS x.ag[j] (aK fO) st1 _ S1 (by rw[aC];omega) fc) (fun d S2 hr=>?_);obtain⟨q2,st2,d6,b7⟩:=hr;cases q2;rw[aO,aC]at d6;refine gz ?_ o131;exact⟨j+1,out++cN p k x.ag[j] (j6.length+out.length),st2,S2,⟨j0,by rw[aO,aC,<-cT];exact hR,d6,d8.trans b7⟩,td1,wkR⟩
     ·rw[A9 fO,Kr,bl]at hR;subst hR;refine gf (gi hx (gi pKV gS)) ?_ o131;refine A3 (DM (Vr x.op) x.n (by rw[aC];omega) fc) (fun d S2 hr=>?_);obtain⟨q2,st2,d6,b7⟩:=hr;cases q2;refine gz ?_ o131;refine F3 (U':=S2) ⟨rfl,st2,?_,d8.trans b7⟩;simpa[aO] using d6
def N3(p:aw)(inM:Bool)(hp:p.wt<=1073741824)(k:Nat)(n:Int)(size:Nat)(h:trE p inM k n size)(ib:Nat)(s m:D)(st:MR)(j6:List jI)(O:Sig)(hq:j6.length+cL p k n<=1000000)(hB:kl ib s m st j6 O):
  ar prog 60 [.ptr ib 0,.agg (A7 p),dI n] O fun x U'=>x=.ret (dI j6.length) /\ ∃st',kl ib s m st' (j6++kr p k n j6.length) U'/\BK ib O st U' st':=by
 have hN:=PS p k;obtain⟨q1,q2,q3⟩:=hB;have hB:kl ib s m st j6 O:=⟨q1,q2,q3⟩;have fin:∀(S2:Sig) (st2:MR),kl ib s m st2 (j6++cN p k n j6.length++[(⟨21,0⟩:jI)]) S2->kl ib s m st2 (j6++kr p k n j6.length) S2:=fun S2 st2 h=>by unfold kr;simpa[aO] using h
 refine en func60 ntmps60 ?_;cases fI:st with
 |none=>
  subst fI;have h0:j6=[]:=by have:j6.map cIns=[]:=q2;simpa using this
  subst h0;simp only[mD]at q1;refine gf q1 ?_;refine A3 (Li p inM hp k n size h ib s m none [] O hq hB) (fun d S1 hr=>?_);obtain⟨e1,st1,fc,d8⟩:=hr;cases e1;refine gz ?_;refine A3 (DM 21 0 (by rw[aC,hN];omega) fc) (fun d S2 hr=>?_);obtain⟨e2,st2,d6,b7⟩:=hr;cases e2;refine gz ?_;exact fin1 (U':=S2) ⟨rfl,st2,fin _ _ d6,d8.trans b7⟩
 |some x=>
  obtain⟨rr,rc,rest⟩:=x;subst fI;simp only[mD]at q1;refine gf q1 ?_;refine A3 (Li p inM hp k n size h ib s m _ j6 O hq hB) (fun d S1 hr=>?_);obtain⟨e1,st1,fc,d8⟩:=hr;cases e1;refine gz ?_;refine A3 (DM 21 0 (by rw[aC,hN];omega) fc) (fun d S2 hr=>?_);obtain⟨e2,st2,d6,b7⟩:=hr;cases e2;refine gz ?_;exact fin1 (U':=S2) ⟨rfl,st2,fin _ _ d6,d8.trans b7⟩
def OE(p:aw):jD:=if okP p then Ij p else⟨[],[],0⟩
def Xc(p:aw)(O:Sig)(hp:p.wt<=1073741824):ar prog 18 [.agg (A7 p)] O (rS (.tup [.agg (cCPg (OE p)),dI (if okP p then 0 else 2)]) O):=by
 obtain⟨p1,p2,p3,p4,p5,p6,p7⟩:=p.wt_le;refine en func18 ntmps18 ?_;cases hk:okP p with
 |false=>
  have hc:OE p=⟨[],[],0⟩:=by unfold OE;rw[hk];rfl
  rw[hc];refine gz ?_ o18 [2,15];refine je (fun i hi=>?_);refine gf hk ?_ o18 [2,15];refine jp (U':=O) (d:=.tup [.agg (cCPg ⟨[],[],0⟩),dI 2]) ⟨rfl,rfl⟩ (hw:=?_);exact Ff ⟨Gl ⟨Ak _ (.inl rfl),Ak _ (.inl rfl),Ac _,trivial⟩,Ac _,trivial⟩
 | true =>
  have hc:OE p=Ij p:=by unfold OE;rw[hk];rfl
  rw[hc];have gr:=VC hk;have iQ:=XA hk;have iL:=Gw hk;refine gz ?_ o18 [2,15];refine je (fun i2 gD=>?_)
  repeat ((fail_if_success (first|(refine boxV (T:=127) (fun ib gC=>?_))|fail));(first|refine go1 hk ?_|with_reducible refine HU ?_))
  refine boxV (T:=127) (fun ib gC=>?_);obtain⟨n2b,fp⟩:=B2 gC;refine gz ?_ o18 [2,15];refine Fy ib 1 1 (ds:=[.aj,.aj,dI 0]) (w6 ..) rfl (fun it ic=>?_);obtain⟨nbt,gb⟩:=B2 ic;obtain⟨n2t,fP⟩:=B2 gb;simp only[dE,dN];generalize fV:Sig.set (Sig.set (Sig.set (Sig.set O i2 _) ib _) it _) ib _=S0;have o0:S0 ib=some (.cells [mD none ([]:List jI).length,.slice (cI []) (.tag it),dI 0]):=by rw[<-fV,w6];rfl
  have t0:S0 it=some (.tail 1 ([]:eP).length):=by rw[<-fV,w7 _ _ nbt,w6];rfl
  have c0:S0 i2=some (.cells [.aj,.aj,dI 0]):=by rw[<-fV,w7 _ _ n2b.symm,w7 _ _ n2t.symm,w7 _ _ n2b.symm,w6]
  have s0:Sub O S0:=fun j x hj=>by
   have k1:=AF hj gD;have k2:=AF hj fp;have k3:=AF hj fP;rw[<-fV,w7 _ _ k2,w7 _ _ k3,w7 _ _ k2,w7 _ _ k1];exact hj
  have B0:kl ib (.slice (cI []) (.tag it)) (dI 0) none [] S0:=⟨o0,rfl,id⟩;clear fV;have iJ:(BN p).length=p.j9.length:=by unfold BN;simp
  refine loop5 ([1,2,3,5,17,18]++List.range' 40 13) (fun (j:Nat) (out:List jI) (l:eP) (st:MR) (S1:Sig)=>j<=p.j9.length/\l.length=j/\out++Ca p 12 ((BN p).drop j) out.length=Ca p 12 (BN p) 0/\l++(I2 p 12 ((BN p).drop j) out.length).map (·.pos)=(I2 p 12 (BN p) 0).map (·.pos)/\kl ib (.slice (cI l) (.tag it)) (dI 0) st out S1/\S1 it=some (.tail 1 l.length) /\ ¬GH st it/\S1 i2=some (.cells [.aj,.aj,dI 0]) /\ ¬GH st i2/\(∀k x,O k=some x->S1 k=some x /\ ¬GH st k)) (fun j _ _ _ _=>[(19,dI j)]) (fun _ _ _ _ S1=>S1) (fun j _ _ _ _=>p.j9.length-j) (0) ([]) ([]) (none) (S0) (by exact⟨j0,rfl,rfl,rfl,B0,t0,id,c0,id,fun k x hk=>⟨s0 _ _ hk,id⟩⟩) (fun j out l st S1 hI=>?_);obtain⟨hj,gX,hR,fW,hB,gP,gR,gE,fZ,hS⟩:=hI
  by_cases fO:j<p.j9.length
  ·have gW:(BN p).drop j=⟨(p.j9[j]).node,(p.ai.getD (p.j9[j]).gen.toNat 0).toNat,Kf p.j9[j]⟩::(BN p).drop (j+1):=by
    rw[dC j0];unfold BN;simp
   have gN:=gr ⟨(p.j9[j]).node,(p.ai.getD (p.j9[j]).gen.toNat 0).toNat,Kf p.j9[j]⟩ (by unfold bodsP;rw[bJ];left;exact aZ.2 ⟨p.j9[j],aK fO,rfl⟩);rw[gW]at hR fW;have q1:=hB.j7;refine gz ?_ [] [2,15];refine mixI (id:=8) (List.range 17) [10,12,16] [5] [16] (fun s=> ∃a,s ib=some (.cells [a,.slice (cI l) (.tag it),dI 0])) ⟨_,q1⟩ ?_;refine iP (.ptr ib 0) ?_;refine iP (.ptr ib 0) ?_;refine iP (.ptr ib 0) ?_;refine iP (.ptr ib 0) ?_;refine iP (.ptr ib 1) ?_;refine iR (.slice (cI l) (.tag it)) (fun s ⟨a,hs⟩=>?_) ?_
   ·simp[hs]
   refine iP (.ptr ib 0) ?_;refine iP (.agg (A7 p)) ?_;refine iP _ ?_;refine iP (dI (p.j9[j]).node) ?_;have f8:=bn List.length hR;simp only[Ca,aC,Fb]at f8;refine iW (fun s=> ∃a,s ib=some (.cells [a,.slice (cI l) (.tag it),dI 0])) (N3 p _ hp 12 _ _ gN ib _ _ st out S1 ?_ hB) (fun d S2 hr=>?_) (fun d S2 hr=>by cases hr.1)
   ·have gc:(Ij p).j6.length=(Ca p 12 (BN p) 0).length+(kr p 12 p.jf (MN p)).length:=by unfold Ij;rw[aC]
    show out.length+cL p 12 (p.j9[j]).node<=1000000;omega
   obtain⟨e2,st2,d6,b7⟩:=hr;cases e2;have nbt':ib≠it:=fun e=>nbt e.symm;obtain⟨gO,fK⟩:=b7 _ _ gP (fun e=>nbt e) gR;obtain⟨gh,fL⟩:=b7 _ _ gE (fun e=>n2b e.symm) fZ;refine⟨⟨_,d6.j7⟩,?_⟩;refine iP (.slice [[dI out.length]] .clip) ?_;refine iE (d:=.slice (cI l++[[dI out.length]]) (.tag it)) (U':=S2.set it (.tail 1 (l.length+1))) (fun s=> ∃a,s ib=some (.cells [a,.slice (cI l) (.tag it),dI 0])) ⟨_,j2 nbt' d6.j7⟩ ?_ (he:=?_)
   rotate_left
   ·simp[gO];omega
   refine iP (.ptr ib 0) ?_;refine iP (.ptr ib 0) ?_;refine iP (.ptr ib 1) ?_;refine iS (d:=.any) (U':=(S2.set it (.tail 1 (l.length+1))).set ib (.cells [mD st2 (out++kr p 12 (p.j9[j]).node out.length).length,.slice (cI l++[[dI out.length]]) (.tag it),dI 0])) (fun _=>True) trivial ?_ (he:=?_)
   rotate_left
   ·simp[d6.j7,w7 _ _ nbt']
   refine iN ?_;refine gz ?_ o18 [2,15];rw[Ca]at hR;rw[I2]at fW;generalize fU:Sig.set (Sig.set S2 it _) ib _=S3;have o3:S3 ib=some (.cells [mD st2 (out++kr p 12 (p.j9[j]).node out.length).length,.slice (cI (l++[(out.length:Int)])) (.tag it),dI 0]):=by rw[<-fU,w6];simp[cI]
   have t3:S3 it=some (.tail 1 (l++[(out.length:Int)]).length):=by rw[<-fU,w7 _ _ nbt,w6,aC];rfl
   have c3:S3 i2=some (.cells [.aj,.aj,dI 0]):=by rw[<-fU,w7 _ _ n2b.symm,w7 _ _ n2t.symm];exact gh
   have B3:kl ib (.slice (cI (l++[(out.length:Int)])) (.tag it)) (dI 0) st2 (out++kr p 12 (p.j9[j]).node out.length) S3:=⟨o3,d6.row.keep fun k x hk hr=>by
    rw[<-fU,w7 _ _ fun e=>d6.nr (by rw[<-e];exact hr),w7 _ _ fun e=>fK (by rw[<-e];exact hr)];exact hk,d6.nr⟩
   have s3:∀k x,O k=some x->S3 k=some x /\ ¬GH st2 k:=fun k x hk=>by
    have k2:=AF hk fp;have k3:=AF hk fP;obtain⟨h1,h2⟩:=hS _ _ hk;obtain⟨h3,h4⟩:=b7 k x h1 k2 h2;exact⟨by rw[<-fU,w7 _ _ k2,w7 _ _ k3];exact h3,h4⟩
   exact⟨j+1,out++kr p 12 (p.j9[j]).node out.length,l++[(out.length:Int)],st2,S3,⟨j0,by rw[aC,gX];rfl,by rw[aO,aC,Fb];exact hR,by rw[aO,aC,Fb];exact fW,B3,t3,fK,c3,fL,s3⟩,td1,wkR⟩
  ·rw[List.drop_eq_nil_of_le j0,Ca,bl]at hR;rw[List.drop_eq_nil_of_le j0,I2,bX,bl]at fW;have gM:=gr ⟨p.jf,0,false⟩ (by unfold bodsP;simp);have gc:(Ij p).j6=out++kr p 12 p.jf out.length:=by unfold Ij MN;rw[<-hR]
   have gg:=bn List.length gc;rw[aC,Fb]at gg;have q1:=hB.j7;refine gz ?_ o18 [2,15];refine A3 (N3 p _ hp 12 _ _ gM ib _ _ st out S1 (show out.length+cL p 12 p.jf<=1000000 by omega) hB) (fun d S2 hr=>?_);obtain⟨e2,st2,d6,b7⟩:=hr;cases e2;obtain⟨τ,hτ,hm,fD,ga⟩:=d6.row.mS;obtain⟨gh,fL⟩:=b7 _ _ gE (fun e=>n2b e.symm) fZ;have k2:τ i2=some (.cells [.aj,.aj,dI 0]):=fD _ _ gh fL;have kb:τ ib=some (.cells [mD st2 (out++kr p 12 p.jf out.length).length,.slice (cI l) (.tag it),dI 0]):=fD _ _ d6.j7 d6.nr
   have kS:Sub O τ:=fun k x hk=>by
    have e1:=AF hk fp;obtain⟨h1,h2⟩:=hS _ _ hk;obtain⟨h3,h4⟩:=b7 k x h1 e1 h2;exact fD _ _ h3 h4
   rw[hτ];refine mfrC (i:=ib) [] [.slice (cI l) (.tag it),dI 0] ?_ (by rw[kb,aN];rfl) hm;simp only[bG];rw[<-gc];have n2b':=n2b.symm;refine gf k2 ?_ o18 [2,15];have fI:(Ij p).jG=l:=fW.symm;have gV:(Ij p).jf=out.length:=by unfold Ij MN;rw[<-hR]
   refine jp (U':=O) (d:=.tup [.agg (cCPg (Ij p)),dI 0]) ⟨rfl,rfl⟩ (hZ:=(kS.set fp).set gD) (hw:=?_);unfold cCPg;rw[fI,gV];exact Ff ⟨Gl ⟨Ac _,Cc _ _,Ac _,trivial⟩,Ac _,trivial⟩
end Go.DL
