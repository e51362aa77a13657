/- A part of the proof. -/
import Derived.Test.YtlfimpogphmbdaaGreatH18
set_option linter.all false
namespace Go.DL
open Go.Proofs.Tryz
open Go Go.Proofs
set_option maxHeartbeats 8000000
def pE(x:aH):D:=.iface 308 (.agg (Af x))
def pEs(l:List aH):fV:=l.map fun x=>[pE x]
@[simp] theorem pEs_len(l:List aH):(pEs l).length=l.length:=by simp[pEs]
@[simp] theorem pEs_get(l:List aH)(k:Nat):(pEs l)[k]? = (l[k]?).map fun x=>[pE x]:=by simp[pEs]
@[simp] theorem pEs_all(l:List aH):(pEs l).all (fun c=>c.length==1)=true:=by simp[pEs]
def pEs_app(l:List aH)(x:aH):pEs l++[[.iface 308 (.agg (Af x))]]=pEs (l++[x]):=by simp[pEs,pE]
def P8(x:aH)(V:Sig)(hw:x.wt<=1073741824):aB prog 330 [.agg (Af x)] V (rS (sl (pEs x.aq)) V):=by
 have fY:x.aq.length<=1073741824:=by have:=x.wt_le;omega
 refine en func330 ntmps330 ?_;refine gz ?_;refine BL 3 1 (fun i hi=>?_);refine Bb [2,8,9,21] (fun (k:Nat)=>k<=x.aq.length) (fun k=>[(10,dI k),(3,.slice (pEs (x.aq.take k)) (.tag i))]) (fun k=>V.set i (.tail 1 k)) (fun k=>x.aq.length-k) (0) k7 (fun k hI=>?_)
 by_cases h:k<x.aq.length
 ·have e:=pEs_app (x.aq.take k) x.aq[k];rw[<-AQ h]at e;refine gf (gi h e) ?_;exact⟨k+1,k0,td1,wkR⟩
 ·rw[show x.aq.take k=x.aq from bM k0];refine gf h ?_;exact finS (U':=V) (es:=pEs x.aq) ⟨by rfl,rfl⟩
def V5 : Lg prog 308 "consort/shape.parts" 330 := by
 intro v w;kernel_rfl
mutual
def li{S:Type}(step:Int->aH->S->Option S):aH->Int->S->Option S
 |.mk o n t k,d,s=>match step d (.mk o n t k) s with
  |none=>none
  |some s'=>DP step k (d+1) s'
def DP{S:Type}(step:Int->aH->S->Option S):List aH->Int->S->Option S
 |[],_,s=>some s
 |x::r,d,s=>match li step x d s with
  |none=>none
  |some s'=>DP step r d s'
end
def MW{S:Type}(step:Int->aH->S->Option S)(x:aH)(d:Int)(s:S):li step x d s=match step d x s with
  |none=>none
  |some s'=>DP step x.aq (d+1) s':=by cases x;rw[li];rfl
def Tg{S:Type}(l i:Nat)(Good:Sig->S->Prop)(Bad:Sig->Prop)(touch:Nat->Prop)(step:Int->aH->S->Option S)(gx:¬touch i)
  (hy:∀(d:Int) (x:aH) V s,1<=d->d<=2147483648->x.wt<=1073741824->Good V s->ku prog l [dI d,pE x] V (lJ l7 (.bool true) Good Bad touch V (step d x s))) :
  ∀(n:Nat) (x:aH) (d:Int) V s,x.wt<=n->n<=1073741824->1<=d->d+n<=2147483648->Good V s->V i=some (.cells [.func (.func 279) [] [.aw [.yld l] 0,.ptr i 0]])->
   aB prog 279 [pE x,dI d,.aw [.yld l] 0,.ptr i 0] V (lJ l7 (.bool true) Good Bad touch V (li step x d s)):=by
 intro n
 induction n with
 |zero=>
  intro x d V s hx;have:=x.wt_pos;omega
 | succ n ih =>
  intro x d V s hx hn hd gC hG hi;have e7:pE x=.iface 308 (.agg (Af x)):=rfl;refine en func279 ntmps279 ?_;refine gz ?_;refine yldW (hy d x V s hd k0 k0 hG) (fun e U' hr=>?_) (fun e U' hr=>?_)
  ·obtain⟨s',d7,rfl,go,hK⟩:=hr.ret;have ij:=hK i _ hi gx;rw[MW,d7];simp only;have ga:∀(k:Nat) (h:k<x.aq.length),(x.aq[k]).wt<x.wt:=by have:=x.wt_le;grind
   have fY:x.aq.length<=1073741824:=by have:=x.wt_le;omega
   refine gz ?_;refine invW V5 (P8 x U' k0) (fun e S2 hr=>?_) (fun e S2 hr=>by cases hr.1) (hx:=by exact e7);obtain⟨h1,h2⟩:=hr;simp only[DE.ret.injEq]at h1;subst h1;rw[h2];clear h2 S2;refine gz ?_;refine E2 [1,3,15,16] (fun (j:Nat) (s1:S) (S1:Sig)=>j<=x.aq.length/\Good S1 s1/\DP step x.aq (d+1) s'=DP step (x.aq.drop j) (d+1) s1/\(∀j o,V j=some o->¬touch j->S1 j=some o)) (fun j _ _=>[(17,dI j)]) (fun _ _ S1=>S1) (fun j _ _=>x.aq.length-j) (0) (s') (U') (by exact⟨k0,go,rfl,hK⟩) (fun j s1 S1 hI=>?_);obtain⟨hj,d6,hR,gk⟩:=hI;have gA:=gk i _ hi gx
   by_cases gc:j<x.aq.length
   ·rw[A0 gc,DP]at hR;refine gf gA ?_;refine Ad (ih x.aq[j] (d+1) S1 s1 (by have:=ga j gc;omega) k0 k0 k0 d6 gA) (fun e S2 hr=>?_) (fun e S2 hr=>?_)
    ·obtain⟨s2,gu,rfl,gw,gK⟩:=hr.ret;rw[gu]at hR;refine gz ?_;exact⟨j+1,s2,S2,⟨k0,gw,hR,fun j o h1 h2=>gK _ _ (gk _ _ h1 h2) h2⟩,td1,wkR⟩
    ·obtain⟨hn,rfl,hb⟩:=hr.pan;rw[hn]at hR;rw[hR];exact kV (U':=S2) ⟨rfl,hb⟩
   ·rw[A1 gc,DP]at hR;rw[hR];refine gz ?_;refine kE (U':=S1) ?_;exact⟨rfl,d6,gk⟩
  ·obtain⟨d7,rfl,hb⟩:=hr.pan;rw[MW,d7];exact kV (U':=U') ⟨rfl,hb⟩
def Mb{S:Type}(l:Nat)(Good:Sig->S->Prop)(Bad:Sig->Prop)(touch:Nat->Prop)(step:Int->aH->S->Option S)
  (hy:∀(d:Int) (x:aH) V s,1<=d->d<=2147483648->x.wt<=1073741824->Good V s->ku prog l [dI d,pE x] V (lJ l7 (.bool true) Good Bad touch V (step d x s)))
  (hm : ∀ V s a o,Good V s->V a=none->Good (V.set a o) s) (x:aH) (V:Sig) (s:S) (ht : ∀ a,V a=none -> ¬ touch a) (hx:x.wt<=1073741824) (hG:Good V s) :
   aB prog 278 [.yld l,.aw [pE x] 0] V (lJ l7 (.tup []) Good Bad touch V (li step x 1 s)):=by
 refine en func278 ntmps278 ?_;refine gz ?_ [] [3];refine kR (fun a ha=>?_);refine gz ?_ [] [3];refine Ad (Tg l a Good Bad touch step (ht a ha) hy x.wt x 1 (V.set a _) s (bn _) hx k0 k0 (hm _ _ _ _ hG ha) (w7 ..)) (fun e U' hr=>?_) (fun e U' hr=>?_)
 ·obtain⟨s',hs',rfl,go,hK⟩:=hr.ret;rw[hs'];refine gz ?_ [] [3];refine EA (U':=U') ?_;exact⟨rfl,go,fun j o h1 h2=>hK j o (by rw[w8 _ _ fun e=>by rw[e,ha]at h1;cases h1];exact h1) h2⟩
 ·obtain⟨hn,rfl,hb⟩:=hr.pan;rw[hn];exact kV (U':=U') ⟨rfl,hb⟩
def Ts(x:aH)(V:Sig):aB prog 241 [pE x] V (rS (.func (.func 278) [] [.aw [pE x] 0]) V):=by
 have e7:pE x=.iface 308 (.agg (Af x)):=rfl;rw[e7];refine en func241 ntmps241 ?_;refine gz ?_;exact fe1 trivial
@[reducible,instance] def a241e:=fun x V=>ah0 (@Ts x V)
def pF(x:aI):D:=.iface 316 (.agg (AE x))
def pFs(l:List aI):fV:=l.map fun x=>[pF x]
@[simp] theorem pFs_len(l:List aI):(pFs l).length=l.length:=by simp[pFs]
@[simp] theorem pFs_get(l:List aI)(k:Nat):(pFs l)[k]? = (l[k]?).map fun x=>[pF x]:=by simp[pFs]
@[simp] theorem pFs_all(l:List aI):(pFs l).all (fun c=>c.length==1)=true:=by simp[pFs]
def pFs_app(l:List aI)(x:aI):pFs l++[[.iface 316 (.agg (AE x))]]=pFs (l++[x]):=by simp[pFs,pF]
def VB(x:aI)(V:Sig)(hw:x.wt<=1073741824):aB prog 331 [.agg (AE x)] V (rS (sl (pFs x.aq)) V):=by
 have fY:x.aq.length<=1073741824:=by have:=x.wt_le;omega
 refine en func331 ntmps331 ?_;refine gz ?_;refine BL 3 1 (fun i hi=>?_);refine Bb [2,8,9,21] (fun (k:Nat)=>k<=x.aq.length) (fun k=>[(10,dI k),(3,.slice (pFs (x.aq.take k)) (.tag i))]) (fun k=>V.set i (.tail 1 k)) (fun k=>x.aq.length-k) (0) k7 (fun k hI=>?_)
 by_cases h:k<x.aq.length
 ·have e:=pFs_app (x.aq.take k) x.aq[k];rw[<-AQ h]at e;refine gf (gi h e) ?_;exact⟨k+1,k0,td1,wkR⟩
 ·rw[show x.aq.take k=x.aq from bM k0];refine gf h ?_;exact finS (U':=V) (es:=pFs x.aq) ⟨by rfl,rfl⟩
def meth331 : Lg prog 316 "consort/shape.parts" 331 := by
 intro v w;kernel_rfl
mutual
def visF{S:Type}(step:Int->aI->S->Option S):aI->Int->S->Option S
 |.mk o nm pa cl n k,d,s=>match step d (.mk o nm pa cl n k) s with
  |none=>none
  |some s'=>H5 step k (d+1) s'
def H5{S:Type}(step:Int->aI->S->Option S):List aI->Int->S->Option S
 |[],_,s=>some s
 |x::r,d,s=>match visF step x d s with
  |none=>none
  |some s'=>H5 step r d s'
end
def Uj{S:Type}(step:Int->aI->S->Option S)(x:aI)(d:Int)(s:S):visF step x d s=match step d x s with
  |none=>none
  |some s'=>H5 step x.aq (d+1) s':=by cases x;rw[visF];rfl
def Tf{S:Type}(l i:Nat)(Good:Sig->S->Prop)(Bad:Sig->Prop)(touch:Nat->Prop)(step:Int->aI->S->Option S)(gx:¬touch i)
  (hy:∀(d:Int) (x:aI) V s,1<=d->d<=2147483648->x.wt<=1073741824->Good V s->ku prog l [dI d,pF x] V (lJ l7 (.bool true) Good Bad touch V (step d x s))) :
  ∀(n:Nat) (x:aI) (d:Int) V s,x.wt<=n->n<=1073741824->1<=d->d+n<=2147483648->Good V s->V i=some (.cells [.func (.func 279) [] [.aw [.yld l] 0,.ptr i 0]])->
   aB prog 279 [pF x,dI d,.aw [.yld l] 0,.ptr i 0] V (lJ l7 (.bool true) Good Bad touch V (visF step x d s)):=by
 intro n
 induction n with
 |zero=>
  intro x d V s hx;have:=x.wt_pos;omega
 | succ n ih =>
  intro x d V s hx hn hd gC hG hi;have e7:pF x=.iface 316 (.agg (AE x)):=rfl;refine en func279 ntmps279 ?_;refine gz ?_;refine yldW (hy d x V s hd k0 k0 hG) (fun e U' hr=>?_) (fun e U' hr=>?_)
  ·obtain⟨s',d7,rfl,go,hK⟩:=hr.ret;have ij:=hK i _ hi gx;rw[Uj,d7];simp only;have ga:∀(k:Nat) (h:k<x.aq.length),(x.aq[k]).wt<x.wt:=by have:=x.wt_le;grind
   have fY:x.aq.length<=1073741824:=by have:=x.wt_le;omega
   refine gz ?_;refine invW meth331 (VB x U' k0) (fun e S2 hr=>?_) (fun e S2 hr=>by cases hr.1) (hx:=by exact e7);obtain⟨h1,h2⟩:=hr;simp only[DE.ret.injEq]at h1;subst h1;rw[h2];clear h2 S2;refine gz ?_;refine E2 [1,3,15,16] (fun (j:Nat) (s1:S) (S1:Sig)=>j<=x.aq.length/\Good S1 s1/\H5 step x.aq (d+1) s'=H5 step (x.aq.drop j) (d+1) s1/\(∀j o,V j=some o->¬touch j->S1 j=some o)) (fun j _ _=>[(17,dI j)]) (fun _ _ S1=>S1) (fun j _ _=>x.aq.length-j) (0) (s') (U') (by exact⟨k0,go,rfl,hK⟩) (fun j s1 S1 hI=>?_);obtain⟨hj,d6,hR,gk⟩:=hI;have gA:=gk i _ hi gx
   by_cases gc:j<x.aq.length
   ·rw[A0 gc,H5]at hR;refine gf gA ?_;refine Ad (ih x.aq[j] (d+1) S1 s1 (by have:=ga j gc;omega) k0 k0 k0 d6 gA) (fun e S2 hr=>?_) (fun e S2 hr=>?_)
    ·obtain⟨s2,gu,rfl,gw,gK⟩:=hr.ret;rw[gu]at hR;refine gz ?_;exact⟨j+1,s2,S2,⟨k0,gw,hR,fun j o h1 h2=>gK _ _ (gk _ _ h1 h2) h2⟩,td1,wkR⟩
    ·obtain⟨hn,rfl,hb⟩:=hr.pan;rw[hn]at hR;rw[hR];exact kV (U':=S2) ⟨rfl,hb⟩
   ·rw[A1 gc,H5]at hR;rw[hR];refine gz ?_;refine kE (U':=S1) ?_;exact⟨rfl,d6,gk⟩
  ·obtain⟨d7,rfl,hb⟩:=hr.pan;rw[Uj,d7];exact kV (U':=U') ⟨rfl,hb⟩
def Ma{S:Type}(l:Nat)(Good:Sig->S->Prop)(Bad:Sig->Prop)(touch:Nat->Prop)(step:Int->aI->S->Option S)
  (hy:∀(d:Int) (x:aI) V s,1<=d->d<=2147483648->x.wt<=1073741824->Good V s->ku prog l [dI d,pF x] V (lJ l7 (.bool true) Good Bad touch V (step d x s)))
  (hm : ∀ V s a o,Good V s->V a=none->Good (V.set a o) s) (x:aI) (V:Sig) (s:S) (ht : ∀ a,V a=none -> ¬ touch a) (hx:x.wt<=1073741824) (hG:Good V s) :
   aB prog 278 [.yld l,.aw [pF x] 0] V (lJ l7 (.tup []) Good Bad touch V (visF step x 1 s)):=by
 refine en func278 ntmps278 ?_;refine gz ?_ [] [3];refine kR (fun a ha=>?_);refine gz ?_ [] [3];refine Ad (Tf l a Good Bad touch step (ht a ha) hy x.wt x 1 (V.set a _) s (bn _) hx k0 k0 (hm _ _ _ _ hG ha) (w7 ..)) (fun e U' hr=>?_) (fun e U' hr=>?_)
 ·obtain⟨s',hs',rfl,go,hK⟩:=hr.ret;rw[hs'];refine gz ?_ [] [3];refine EA (U':=U') ?_;exact⟨rfl,go,fun j o h1 h2=>hK j o (by rw[w8 _ _ fun e=>by rw[e,ha]at h1;cases h1];exact h1) h2⟩
 ·obtain⟨hn,rfl,hb⟩:=hr.pan;rw[hn];exact kV (U':=U') ⟨rfl,hb⟩
def Tr(x:aI)(V:Sig):aB prog 241 [pF x] V (rS (.func (.func 278) [] [.aw [pF x] 0]) V):=by
 have e7:pF x=.iface 316 (.agg (AE x)):=rfl;rw[e7];refine en func241 ntmps241 ?_;refine gz ?_;exact fe1 trivial
@[reducible,instance] def a241f:=fun x V=>ah0 (@Tr x V)
structure Sh where
 named:Bool
 lo:Int
 hi:Int
def cSh(s:Sh):D:=.agg [.bool s.named,dI s.lo,dI s.hi]
def eSh(m:List (Int×Sh)):List (D×D):=eM dI cSh m
def putSh(k:Int)(b:Bool)(x y:Int)(m:List (Int×Sh)):CE (.int .i64) (.int .i64 k) (.agg [.bool b,.int .i64 x,.int .i64 y]) (eSh m)=some (eSh (putM k ⟨b,x,y⟩ m)):=Rf keyI cSh k ⟨b,x,y⟩ m
def hitSh(k:Int)(m:List (Int×Sh)):hitD tab 369 true (Du (.int .i64) (.int .i64 k) (eSh m) 0)=some (.tup [cSh (getM ⟨false,0,0⟩ k m),.bool (hasM k m)]):=Nt keyI cSh rfl k m
def kP:List (Int×Sh):=[(1,⟨false,0,0⟩),(2,⟨false,0,0⟩),(18,⟨false,0,0⟩),(3,⟨true,0,0⟩),(6,⟨true,0,0⟩),(4,⟨true,1,1⟩),(8,⟨true,1,1⟩),(7,⟨true,2,2⟩),(9,⟨true,2,2⟩),(5,⟨true,1,3⟩),(10,⟨false,3,3⟩),(17,⟨false,1,1⟩),(11,⟨false,2,2⟩),
 (12,⟨false,2,2⟩),(13,⟨false,2,2⟩),(14,⟨false,2,2⟩),(15,⟨false,2,2⟩),(16,⟨false,2,2⟩)]
def shKs:fQ:=(eSh kP).map (·.1)
def shVs:fQ:=(eSh kP).map (·.2)
theorem sh_zip:shKs.zip shVs=eSh kP:=rfl
def VJ(V:Sig):aB prog 302 [] V (rS (.cmap shKs shVs) V):=by
 refine en func302 ntmps302 ?_;refine gz ?_;refine newM (fun im gX=>?_);rw[show kM.map []=.map (eSh []) from rfl];refine gf putSh ?_
 have gD:∀k:Nat,k<=5->k<5->putM (12+(k:Int)) ⟨false,2,2⟩ (kP.take (13+k))=kP.take (13+(k+1)):=by
  intro k h1 h2;obtain rfl|rfl|rfl|rfl|rfl:k=0\/k=1\/k=2\/k=3\/k=4:=by omega
  all_goals rfl
 refine Bb [0,1,25] (fun (k:Nat)=>k<=5) (fun k=>[(2,dI (12+k))]) (fun k=>V.set im (.map (eSh (kP.take (13+k))))) (fun k=>5-k) (0) k0 (fun k hI=>?_)
 by_cases hk:k<5
 ·refine gf (gi putSh (gD k hI hk)) ?_;exact⟨k+1,k0,td1,wkR⟩
 ·obtain rfl:k=5:=by omega
  repeat ((fail_if_success (first|(refine cfr 25 (i:=im) (m:=eSh kP) (w7 ..) ?_)|fail));(refine goX1 trivial ?_))
  refine cfr 25 (i:=im) (m:=eSh kP) (w7 ..) ?_;rw[Sig.set_del _ _ gX];refine gz ?_;exact fe1 trivial
@[reducible,instance] def a302:=fun V=>ah0 (@VJ V)
def BV(has:Bool)(sh:Sh)(e:aH):Bool:=
 (has&&decide (sh.lo<=e.aq.length)&&decide (e.aq.length<=sh.hi)&&(sh.named == !decide (e.text=[])))&&((!sh.named||Ak e.text)&&(decide (e.n=0)||(decide (e.op=1)&&inB e.n)))
def CO(d:Int)(e:aH):Bool:=decide (d<=12)&&BV (hasM e.op kP) (getM ⟨false,0,0⟩ e.op kP) e
def Tn(e:aH)(d:Int)(V:Sig)(hw:e.wt<=1073741824):aB prog 274 [pE e,dI d] V fun x U'=>x=(if CO d e then .ret (.tup []) else .panic l7)/\U'=V:=by
 have e7:pE e=.iface 308 (.agg (Af e)):=rfl;obtain⟨w1,w2,w3⟩:=e.wt_le;refine en func274 ntmps274 ?_
 by_cases hd:d<=12
 ·refine gf e7 ?_;refine mix [1,2,3,0,4,5,6,7,8,9,10] [8,9] ?_;refine gz ?_ o274;refine moQR ?_;refine gf (gi sh_zip hitSh) ?_ o274;refine Ow (fun ic iS=>?_);generalize iA:getM ⟨false,0,0⟩ e.op kP=sh;have iH:cSh sh=.agg [.bool sh.named,dI sh.lo,dI sh.hi]:=rfl;rw[show CO d e=BV (hasM e.op kP) sh e by unfold CO;rw[bf hd,iA];rfl]
  repeat' first|(exact kV (U':=V) ⟨by rw[aQ];first|(simp_all [BV];done)|(simp[BV];intros;omega),rfl⟩)|refine gf iH ?_ o274|apply gy<;>intro hh
  all_goals refine EA (U':=V) ⟨?_,rfl⟩
  all_goals (rw[aS];simp_all [BV])
 ·have hF:CO d e=false:=by unfold CO;rw[ba hd];rfl
  repeat' first|((with_reducible refine kV (U':=V) ?_);exact⟨by first|(simp[hF];done)|(simp_all [hF];done),rfl⟩)|refine gz ?_ o274|apply gy<;>intro hh
@[reducible,instance] def a274e:=fun e d V=>gh1 (@Tn e d V)
def Al(op:Int):Bool:=decide (op=2\/op=3\/op=4)
def arF(op:Int):Int:=if op=5 then 1 else if op=6\/op=7 then 2 else 0
def Dm(x:aI):Bool:=
 (decide (1<=x.op)&&decide (x.op<=7)&&(Al x.op == !decide (x.name=[]))&&(Al x.op||decide ((x.path.length:Int)=0))&&decide ((x.path.length:Int)<=2)&&(decide (x.op=2) == !decide (x.cls=[]))) &&
 ((decide (x.op=3\/x.op=4)&&inB x.n)||decide (x.n=0))&&decide (arF x.op=x.aq.length)
def FY(d:Int)(x:aI):Bool:=decide (d<=12)&&Dm x
def Tm(x:aI)(d:Int)(V:Sig)(hw:x.wt<=1073741824):aB prog 274 [pF x,dI d] V fun r U'=>r=(if FY d x then .ret (.tup []) else .panic l7)/\U'=V:=by
 have e7:pF x=.iface 316 (.agg (AE x)):=rfl;obtain⟨w1,w2,w3,w4,w5⟩:=x.wt_le;have w6:x.path.length<=1073741824:=by have:=Bc x.path;omega
 have iR:((0:Int)=(x.aq.length:Int))=(x.aq=[]):=by rw[<-bH];exact propext ⟨fun h=>by omega,fun h=>by omega⟩
 refine en func274 ntmps274 ?_
 by_cases hd:d<=12
 ·rw[show FY d x=Dm x by unfold FY;rw[bf hd];rfl];rcases bX (x.op=2)with h2|h2
  ·repeat' first|(exact kV (U':=V) ⟨by rw[aQ];first|(simp_all [Dm,Al,arF];done)|(simp_all [Dm,Al,arF];omega),rfl⟩)|refine gf (gi e7 h2) ?_ o274|apply gy<;>intro hh
   all_goals refine EA (U':=V) ⟨?_,rfl⟩
   all_goals (rw[aS];first|(simp_all [Dm,Al,arF];done)|(simp_all [Dm,Al,arF];omega))
  rcases bX (x.op=3)with h3|h3
  ·repeat' first|(exact kV (U':=V) ⟨by rw[aQ];first|(simp_all [Dm,Al,arF];done)|(simp_all [Dm,Al,arF];omega),rfl⟩)|refine gf (gi e7 h3) ?_ o274|apply gy<;>intro hh
   all_goals refine EA (U':=V) ⟨?_,rfl⟩
   all_goals (rw[aS];first|(simp_all [Dm,Al,arF];done)|(simp_all [Dm,Al,arF];omega))
  rcases bX (x.op=4)with h4|h4
  ·repeat' first|(exact kV (U':=V) ⟨by rw[aQ];first|(simp_all [Dm,Al,arF];done)|(simp_all [Dm,Al,arF];omega),rfl⟩)|refine gf (gi e7 h4) ?_ o274|apply gy<;>intro hh
   all_goals refine EA (U':=V) ⟨?_,rfl⟩
   all_goals (rw[aS];first|(simp_all [Dm,Al,arF];done)|(simp_all [Dm,Al,arF];omega))
  ·repeat' first|(exact kV (U':=V) ⟨by rw[aQ];first|(simp_all [Dm,Al,arF];done)|(simp_all [Dm,Al,arF];omega),rfl⟩)|refine gf e7 ?_ o274|apply gy<;>intro hh
   all_goals refine EA (U':=V) ⟨?_,rfl⟩
   all_goals (rw[aS];first|(simp_all [Dm,Al,arF];done)|(simp_all [Dm,Al,arF];omega))
 ·have hF:FY d x=false:=by unfold FY;rw[ba hd];rfl
  repeat' first|((with_reducible refine kV (U':=V) ?_);exact⟨by first|(simp[hF];done)|(simp_all [hF];done),rfl⟩)|refine gz ?_ o274|apply gy<;>intro hh
@[reducible,instance] def a274f:=fun x d V=>gh1 (@Tm x d V)
def H8{T:Type}(node:Int->T->Bool)(most:Int)(d:Int)(x:T)(n:Int):Option Int:=if n+1<=most/\node d x=true then some (n+1) else none
def Jl(most:Int)(x:aH):Option Int:=li (H8 CO most) x 1 0
def G3(most:Int)(x:aI):Option Int:=visF (H8 FY most) x 1 0
def GS{T:Type}{node:Int->T->Bool}{most d:Int}{x:T}{n:Int}(h:¬(n+1<=most)\/node d x=false):H8 node most d x n=none:=by
 unfold H8;rw[aQ];rintro⟨h1,h2⟩;rcases h with h|h
 ·exact h h1
 ·rw[h]at h2;cases h2
def GQ{T:Type}{node:Int->T->Bool}{most d:Int}{x:T}{n:Int}(h:n+1<=most)(h2:node d x=true):H8 node most d x n=some (n+1):=by
 unfold H8;rw[aS ⟨h,h2⟩]
def GL(ip:Nat)(most:Int):Sig->Int->Prop:=fun V n=>V ip=some (.cells [dI n])/\0<=n/\n<=most
def GL.mono{ip:Nat}{most:Int}:MonoG (GL ip most):=fun V U' s h hk=>⟨hk _ _ h.1 rfl,h.2⟩
def Tv(e:aH)(most:Int)(V:Sig)(hw:e.wt<=1073741824)(hm:0<=most/\most<=1000000):aB prog 235 [pE e,dI most] V fun x U'=>x=(if(Jl most e).isSome then .ret (dI ((Jl most e).getD 0)) else .panic l7)/\U'=V:=by
 obtain⟨gU,iD⟩:=hm;refine Bw func235 rfl (by decide) ntmps235 k7 ?_
 try refine gz ?_ [] [5]
 refine kR (fun ip gW=>?_)
 try refine gz ?_ [] [5]
 have d7:∀{S:Type} (a:Option S),a=a:=fun _=>rfl;have ht:∀j,(j=ip)->(V.set ip (.cells [dI 0])) j≠none:=fun j e=>by rw[e,w7];simp
 have fZ:∀(did:Nat) (U':Sig),(∀j x,(V.set ip (.cells [dI 0])) j=some x->¬(j=ip)->U' j=some x/\j≠did)->Sub V (dels [did] U'):=fun did U' h=>GG fun j x hj=>by
  have e:j≠ip:=fun e=>by rw[e,gW]at hj;cases hj
  exact h j x (k8 e hj) e
 refine K9 l7 (GL ip most) (· = ip) (· = ip) (Jl most e) 0 (GL.mono.indep _) GL.mono.fresh ⟨w7 .., by omega,gU⟩ ht ht rfl (fun l did LO SL d8 hd hl f8 gE hG gg=>?_) (fun did n U' ho gb d9 hG hk=>?_) (fun did U' ho gb d9 hk=>?_)
 ·refine Mb l _ _ (· = ip) (H8 CO most) (fun d x S1 n gO gC hx d6=>?_) (fun V s a o h ha=>h.new GL.mono.fresh ha) e SL 0 gg hw hG;refine EW d8 d6.1 ?_
  try refine gz ?_ [] [5]
  refine⟨d6.1,?_⟩;obtain⟨hc,gT,gS⟩:=d6.busy d8 (GL.mono.indep _) hl;obtain⟨Sb,gh⟩:∃Sb,Sb=S1.set l (Cx LO):=⟨_,rfl⟩;rw[<-gh]at hc⊢;have hK:∀m:Int,kQ (· = ip) (S1.set l (Cx LO)) (Sb.set ip (.cells [dI m])):=fun m j x hj hne=>by rw[w8 _ _ hne,gh];exact hj
  rw[<-Sig.set_self _ hc]
  repeat' first|(exact Ls (GS (by first|exact .inl (by assumption)|exact .inr (by assumption))) (d6.bad hl (fun _ h=>h) (hK _)))|refine gz ?_ [] [5]|apply gy<;>intro hh
  exact IW (GQ k0 (by assumption)) d8 (GL.mono.indep _) d6 f8 hl ⟨w7 .., by omega,k0⟩ (hK _)
 ·try refine gf hG.1 ?_ [] [5]
  rw[ho];exact P3 [did] (U':=V) (d':=dI n) ⟨rfl,rfl⟩ (fZ did U' hk) (hd:=by simp[d9]) (hw:=A9 _)
 ·rw[ho];exact KJ [did] (U':=V) ⟨rfl,rfl⟩ (fZ did U' hk) (hd:=by simp[d9])
@[reducible,instance] def a235e:=fun e most V=>gh2 (@Tv e most V)
def Tu(e:aI)(most:Int)(V:Sig)(hw:e.wt<=1073741824)(hm:0<=most/\most<=1000000):aB prog 235 [pF e,dI most] V fun x U'=>x=(if(G3 most e).isSome then .ret (dI ((G3 most e).getD 0)) else .panic l7)/\U'=V:=by
 obtain⟨gU,iD⟩:=hm;refine Bw func235 rfl (by decide) ntmps235 k7 ?_
 try refine gz ?_ [] [5]
 refine kR (fun ip gW=>?_)
 try refine gz ?_ [] [5]
 have d7:∀{S:Type} (a:Option S),a=a:=fun _=>rfl;have ht:∀j,(j=ip)->(V.set ip (.cells [dI 0])) j≠none:=fun j e=>by rw[e,w7];simp
 have fZ:∀(did:Nat) (U':Sig),(∀j x,(V.set ip (.cells [dI 0])) j=some x->¬(j=ip)->U' j=some x/\j≠did)->Sub V (dels [did] U'):=fun did U' h=>GG fun j x hj=>by
  have e:j≠ip:=fun e=>by rw[e,gW]at hj;cases hj
  exact h j x (k8 e hj) e
 refine K9 l7 (GL ip most) (· = ip) (· = ip) (G3 most e) 0 (GL.mono.indep _) GL.mono.fresh ⟨w7 .., by omega,gU⟩ ht ht rfl (fun l did LO SL d8 hd hl f8 gE hG gg=>?_) (fun did n U' ho gb d9 hG hk=>?_) (fun did U' ho gb d9 hk=>?_)
 ·refine Ma l _ _ (· = ip) (H8 FY most) (fun d x S1 n gO gC hx d6=>?_) (fun V s a o h ha=>h.new GL.mono.fresh ha) e SL 0 gg hw hG;refine EW d8 d6.1 ?_
  try refine gz ?_ [] [5]
  refine⟨d6.1,?_⟩;obtain⟨hc,gT,gS⟩:=d6.busy d8 (GL.mono.indep _) hl;obtain⟨Sb,gh⟩:∃Sb,Sb=S1.set l (Cx LO):=⟨_,rfl⟩;rw[<-gh]at hc⊢;have hK:∀m:Int,kQ (· = ip) (S1.set l (Cx LO)) (Sb.set ip (.cells [dI m])):=fun m j x hj hne=>by rw[w8 _ _ hne,gh];exact hj
  rw[<-Sig.set_self _ hc]
  repeat' first|(exact Ls (GS (by first|exact .inl (by assumption)|exact .inr (by assumption))) (d6.bad hl (fun _ h=>h) (hK _)))|refine gz ?_ [] [5]|apply gy<;>intro hh
  exact IW (GQ k0 (by assumption)) d8 (GL.mono.indep _) d6 f8 hl ⟨w7 .., by omega,k0⟩ (hK _)
 ·try refine gf hG.1 ?_ [] [5]
  rw[ho];exact P3 [did] (U':=V) (d':=dI n) ⟨rfl,rfl⟩ (fZ did U' hk) (hd:=by simp[d9]) (hw:=A9 _)
 ·rw[ho];exact KJ [did] (U':=V) ⟨rfl,rfl⟩ (fZ did U' hk) (hd:=by simp[d9])
@[reducible,instance] def a235f:=fun e most V=>gh2 (@Tu e most V)
def cB:fP->D
 |[]=>.aA
 |s::r=>.aw [cB r,.str s] 0
def VI(b:fP)(s:Str)(V:Sig):aB prog 303 [cB b,.str s] V (rS (.bool (decide (s∈b))) V):=by
 induction b with
 |nil=>
  have hb:cB []=.aA:=rfl;refine en func303 ntmps303 ?_;refine gf hb ?_;exact fe1 trivial
 | cons x r ih =>
  have hb:cB (x::r)=.aw [cB r,.str x] 0:=rfl;refine en func303 ntmps303 ?_
  by_cases hx:x=s
  ·refine gf (gi hb hx) ?_;exact fe1 trivial
  ·have iz:¬s=x:=fun h=>hx h.symm;rw[show decide (s∈x::r)=decide (s∈r) by simp[iz]]
   repeat' first|refine gf (gi hb hx) ?_|refine Fl (ih) ?_|refine callPG (ih) ?_|refine gf (gi hb hx) ?_|apply gy<;>intro hh
   any_goals (first|exact fe1 trivial|fail)
@[reducible,instance] def a303:=fun b s V=>ah0 (@VI b s V)
mutual
def kn:aH->fP->fP->fP
 |.mk o _ t k,b,a=>D7 o t b 0 k (if o=3 /\ ¬t∈b then ins t a else a)
def D7(o:Int)(t:Str)(b:fP):Nat->List aH->fP->fP
 |_,[],a=>a
 |i,x::r,a=>D7 o t b (i+1) r (kn x (if o=9/\i=1 then t::b else b) a)
end
def RC(e:aH)(b a:fP):kn e b a=D7 e.op e.text b 0 e.aq (if e.op=3 /\ ¬e.text∈b then ins e.text a else a):=by cases e;rw[kn];rfl
def Tj: ∀(n:Nat) (e:aH) (b acc:fP) (im:Nat) (V:Sig),e.wt<=n->n<=1073741824->V im=some (.map (eSS acc))->
  aB prog 276 [.agg (Af e),cB b,.map im] V fun x U'=>x=.ret (.tup [])/\U'=V.set im (.map (eSS (kn e b acc))):=by
 intro n
 induction n with
 |zero=>
  intro e b acc im V hx;have:=e.wt_pos;omega
 | succ n ih =>
  intro e b acc im V hx hn hm;obtain⟨w1,w2,ga⟩:=e.wt_le;have iU : .aw [cB b,.str e.text] 0=cB (e.text::b):=rfl;refine en func276 ntmps276 ?_
  by_cases hc:e.op=3 /\ ¬e.text∈b
  ·obtain⟨A,hA⟩:∃A,A=ins e.text acc:=⟨_,rfl⟩;have gN:kn e b acc=D7 e.op e.text b 0 e.aq A:=by rw[RC,aS hc,hA]
   obtain⟨gJ,gY⟩:=hc;refine gf (gi hm (gi gJ (gi gY hA.symm))) ?_;refine AG [1,2,3,23,24] (fun (k:Nat) (a:fP)=>k<=e.aq.length/\D7 e.op e.text b 0 e.aq A=D7 e.op e.text b k (e.aq.drop k) a) (fun k _=>[(25,dI k)]) (fun _ a=>V.set im (.map (eSS a))) (fun k _=>e.aq.length-k) (0) (A) k7 (fun k a hI=>?_);obtain⟨hk,hR⟩:=hI
   by_cases fY:k<e.aq.length
   ·rw[A0 fY,D7]at hR;have hi:(V.set im (.map (eSS a))) im=some (.map (eSS a)):=w7 ..
    by_cases h9:e.op=9/\k=1
    ·omega
    ·rw[aQ h9]at hR
     by_cases gr:e.op=9
     ·have iy:¬k=1:=fun h=>h9 ⟨gr,h⟩;refine gf gr ?_;refine Ad (ih e.aq[k] b a im _ (by have:=ga k fY;omega) k0 hi) (fun d U' hr=>?_);obtain⟨h1,rfl⟩:=hr;cases h1;refine gz ?_;exact⟨k+1,kn e.aq[k] b a,⟨k0,hR⟩,td1,wkR⟩
     ·refine gf gr ?_;refine Ad (ih e.aq[k] b a im _ (by have:=ga k fY;omega) k0 hi) (fun d U' hr=>?_);obtain⟨h1,rfl⟩:=hr;cases h1;refine gz ?_;exact⟨k+1,kn e.aq[k] b a,⟨k0,hR⟩,td1,wkR⟩
   ·rw[A1 fY,D7]at hR;refine gz ?_;refine EA (U':=V.set im (.map (eSS (kn e b acc)))) ⟨rfl,rfl⟩ (hZ:=by rw[gN,hR];exact Sub.refl _)
  ·obtain⟨A,hA⟩:∃A,A=acc:=⟨_,rfl⟩;have gN:kn e b acc=D7 e.op e.text b 0 e.aq A:=by rw[RC,aQ hc,hA]
   subst hA;have fZ:Sub (V.set im (.map (eSS A))) V:=by rw[Sig.set_self _ hm];exact Sub.refl _
   by_cases gJ:e.op=3
   ·have gY:e.text∈b:=by by_cases h:e.text∈b;exact h;exact absurd ⟨gJ,h⟩ hc
    refine gf (gi gJ gY) ?_;refine AG [1,2,3,23,24] (fun (k:Nat) (a:fP)=>k<=e.aq.length/\D7 e.op e.text b 0 e.aq A=D7 e.op e.text b k (e.aq.drop k) a) (fun k _=>[(25,dI k)]) (fun _ a=>V.set im (.map (eSS a))) (fun k _=>e.aq.length-k) (0) (A) k7 (fun k a hI=>?_);obtain⟨hk,hR⟩:=hI
    by_cases fY:k<e.aq.length
    ·rw[A0 fY,D7]at hR;have hi:(V.set im (.map (eSS a))) im=some (.map (eSS a)):=w7 ..
     by_cases h9:e.op=9/\k=1
     ·omega
     ·rw[aQ h9]at hR
      by_cases gr:e.op=9
      ·have iy:¬k=1:=fun h=>h9 ⟨gr,h⟩;refine gf gr ?_;refine Ad (ih e.aq[k] b a im _ (by have:=ga k fY;omega) k0 hi) (fun d U' hr=>?_);obtain⟨h1,rfl⟩:=hr;cases h1;refine gz ?_;exact⟨k+1,kn e.aq[k] b a,⟨k0,hR⟩,td1,wkR⟩
      ·refine gf gr ?_;refine Ad (ih e.aq[k] b a im _ (by have:=ga k fY;omega) k0 hi) (fun d U' hr=>?_);obtain⟨h1,rfl⟩:=hr;cases h1;refine gz ?_;exact⟨k+1,kn e.aq[k] b a,⟨k0,hR⟩,td1,wkR⟩
    ·rw[A1 fY,D7]at hR;refine gz ?_;refine EA (U':=V.set im (.map (eSS (kn e b A)))) ⟨rfl,rfl⟩ (hZ:=by rw[gN,hR];exact Sub.refl _)
   ·refine gf gJ ?_;refine AG [1,2,3,23,24] (fun (k:Nat) (a:fP)=>k<=e.aq.length/\D7 e.op e.text b 0 e.aq A=D7 e.op e.text b k (e.aq.drop k) a) (fun k _=>[(25,dI k)]) (fun _ a=>V.set im (.map (eSS a))) (fun k _=>e.aq.length-k) (0) (A) k7 (fun k a hI=>?_);obtain⟨hk,hR⟩:=hI
    by_cases fY:k<e.aq.length
    ·rw[A0 fY,D7]at hR;have hi:(V.set im (.map (eSS a))) im=some (.map (eSS a)):=w7 ..
     by_cases h9:e.op=9/\k=1
     ·rw[aS h9]at hR;obtain⟨h9,rfl⟩:=h9;have iJ:cB []=.aA:=rfl;rcases b with _|⟨x0,b0⟩
      ·refine gf (gi h9 iJ) ?_;refine Ad (ih e.aq[1] [e.text] a im _ (by have:=ga 1 fY;omega) k0 hi) (fun d U' hr=>?_);obtain⟨h1,rfl⟩:=hr;cases h1;refine gz ?_;exact⟨2,kn e.aq[1] [e.text] a,⟨k0,hR⟩,td1,wkR⟩
      ·have iI:cB (x0::b0)=.aw [cB b0,.str x0] 0:=rfl;refine gf (gi h9 iI) ?_;refine Ad (ih e.aq[1] (e.text::x0::b0) a im _ (by have:=ga 1 fY;omega) k0 hi) (fun d U' hr=>?_);obtain⟨h1,rfl⟩:=hr;cases h1;refine gz ?_;exact⟨2,kn e.aq[1] (e.text::x0::b0) a,⟨k0,hR⟩,td1,wkR⟩
     ·rw[aQ h9]at hR
      by_cases gr:e.op=9
      ·have iy:¬k=1:=fun h=>h9 ⟨gr,h⟩;refine gf gr ?_;refine Ad (ih e.aq[k] b a im _ (by have:=ga k fY;omega) k0 hi) (fun d U' hr=>?_);obtain⟨h1,rfl⟩:=hr;cases h1;refine gz ?_;exact⟨k+1,kn e.aq[k] b a,⟨k0,hR⟩,td1,wkR⟩
      ·refine gf gr ?_;refine Ad (ih e.aq[k] b a im _ (by have:=ga k fY;omega) k0 hi) (fun d U' hr=>?_);obtain⟨h1,rfl⟩:=hr;cases h1;refine gz ?_;exact⟨k+1,kn e.aq[k] b a,⟨k0,hR⟩,td1,wkR⟩
    ·rw[A1 fY,D7]at hR;refine gz ?_;refine EA (U':=V.set im (.map (eSS (kn e b A)))) ⟨rfl,rfl⟩ (hZ:=by rw[gN,hR];exact Sub.refl _)
def cSet(s:fP):D:=.cmap (s.map .str) (s.map fun _=>.bool true)
instance a241e'(x:aH)(V:Sig):Ans 241 [.iface 308 (.agg (Af x))] V True (.func (.func 278) [] [.aw [pE x] 0]):=a241e x V
instance a241f'(x:aI)(V:Sig):Ans 241 [.iface 316 (.agg (AE x))] V True (.func (.func 278) [] [.aw [pF x] 0]):=a241f x V
instance a235e'(e:aH)(most:Int)(V:Sig):Giv 235 [.iface 308 (.agg (Af e)),dI most] V (e.wt<=1073741824/\(0<=most/\most<=1000000)) (Jl most e).isSome (dI ((Jl most e).getD 0)) l7:=a235e e most V
instance a235f'(e:aI)(most:Int)(V:Sig):Giv 235 [.iface 316 (.agg (AE e)),dI most] V (e.wt<=1073741824/\(0<=most/\most<=1000000)) (G3 most e).isSome (dI ((G3 most e).getD 0)) l7:=a235f e most V
def W1(e:aH)(V:Sig)(hw:e.wt<=1073741824):aB prog 237 [.agg (Af e)] V (rS (cSet (kn e [] [])) V):=by
 refine en func237 ntmps237 ?_
 try refine gz ?_
 refine Ng (fun im gX=>?_)
 try refine gz ?_
 refine Ad (Tj _ e [] [] im _ (bn _) hw (w7 ..)) (fun d U' hr=>?_);obtain⟨h1,rfl⟩:=hr;cases h1
 repeat ((fail_if_success (first|(refine cfr 8 (i:=im) (m:=eSS (kn e [] [])) (w7 ..) ?_)|fail));(refine goX1 trivial ?_))
 refine cfr 8 (i:=im) (m:=eSS (kn e [] [])) (w7 ..) ?_;rw[Xj,Xh,w9,Sig.set_del _ _ gX]
 try refine gz ?_
 exact fe1 trivial
@[reducible,instance] def a237:=fun e V=>ah1 (@W1 e V)
def KO(e:aH)(V:Sig):aB prog 236 [.agg (Af e)] V (rS (.func (.func 275) [] [.aw (Af e) 0]) V):=by
 refine en func236 ntmps236 ?_
 try refine gz ?_
 exact fe1 trivial
@[reducible,instance] def a236:=fun e V=>ah0 (@KO e V)
def Tk{S:Type}(l:Nat)(Good:Sig->S->Prop)(touch tp:Nat->Prop)(step:aH->S->Option S)(e:aH)(V:Sig)(s0:S)(hw:e.wt<=1073741824)
  (hy:∀(x:aH) V s,x.wt<=1073741824->Good V s->ku prog l [.agg (Af x)] V (lJ l7 (.bool true) Good (kQ tp V) touch V (step x s)))
  (hi:lc Good V) (hf:QR Good) (h0:Good V s0) (ht:∀j,touch j->tp j) (gF:∀j,V j=none->¬tp j) :
  aB prog 275 [.yld l,.aw (Af e) 0] V (lJ l7 (.tup []) Good (kQ tp V) touch V (li (fun _ x s=>step x s) e 1 s0)):=by
 refine Bw func275 rfl (by decide) ntmps275 k7 ?_
 try refine gz ?_
 refine K9 l7 Good touch tp (li (fun _ x s=>step x s) e 1 s0) s0 hi hf h0 (fun j hj hn=>gF j hn (ht j hj)) (fun j hj hn=>gF j hn hj) rfl (fun l2 did LO SL d8 hd hl f8 gE hG gg=>?_) (fun did s' U' ho gb d9 hG hk=>?_) (fun did U' ho gb d9 hk=>?_)
 ·have gI:lc Good (V.set did .defs):=hi.older fun j hj=>by
   by_cases e:j=did
   ·rw[e];exact hd
   ·rw[w8 _ _ e]at hj;exact hj
  refine Mb l2 _ _ touch (fun _ x s=>step x s) (fun d x S1 s gO gC hx d6=>?_) (fun V s a o h ha=>h.new hf ha) e SL s0 gg hw hG;refine EW d8 d6.1 ?_
  try refine gz ?_
  refine⟨d6.1,?_⟩;have g7:=d6.busy d8 gI hl;have e7:pE x=.iface 308 (.agg (Af x)):=rfl
  try refine gf e7 ?_
  refine yldWG (hy x _ s hx g7) (fun e S2 hr=>?_) (fun e S2 hr=>?_)
  ·obtain⟨s2,gu,rfl,gw,hK⟩:=hr.ret
   try refine gz ?_
   exact IW gu d8 gI d6 f8 hl gw hK
  ·obtain⟨hn,rfl,gZ⟩:=hr.pan
   try refine gz ?_
   exact Ls hn (d6.bad hl ht gZ)
 ·rw[ho]
  try refine gz ?_
  refine P3 [did] (U':=U'.del did) (d':=.tup []) ⟨rfl,hi did gb _ _ _ hG ⟨_,d9,rfl⟩ (fun j hj=>by simp only[Sig.del,hj,bl]),fun j x hj hn=>?_⟩ (Sub.refl _) (hd:=by simp[d9]) (hw:=A9 _);obtain⟨h1,h2⟩:=hk j x hj hn;simp only[Sig.del,h2,bl];exact h1
 ·rw[ho]
  try refine gz ?_
  refine KJ [did] (U':=U'.del did) ⟨rfl,fun j x hj hn=>?_⟩ (Sub.refl _) (hd:=by simp[d9]);obtain⟨h1,h2⟩:=hk j x hj hn;simp only[Sig.del,h2,bl];exact h1
mutual
def QX{S:Type}{step:Int->aH->S->Option S}(Q:S->Prop)(h:∀d x s s',step d x s=some s'->Q s->Q s'): ∀(x:aH) (d:Int) (s s':S),Q s->li step x d s=some s'->Q s'
 | .mk o n t k,d,s,s',hp,he=>by
  rw[li]at he;split at he
  ·cases he
  ·rename_i s1 h1;exact O5 Q h k _ _ _ (h _ _ _ _ h1 hp) he
def O5{S:Type}{step:Int->aH->S->Option S}(Q:S->Prop)(h:∀d x s s',step d x s=some s'->Q s->Q s'): ∀(l:List aH) (d:Int) (s s':S),Q s->DP step l d s=some s'->Q s'
 |[],d,s,s',hp,he=>by rw[DP]at he;cases he;exact hp
 | x::r,d,s,s',hp,he=>by
  rw[DP]at he;split at he
  ·cases he
  ·rename_i s1 h1;exact O5 Q h r _ _ _ (QX Q h x _ _ _ hp h1) he
end
def Rr{most:Int}{e:aH}{k:Int}(hm:0<=most)(h:Jl most e=some k):0<=k/\k<=most:=
 QX (fun n=>0<=n/\n<=most) (fun d x s s' hs hq=>by unfold H8 at hs;split at hs<;>cases hs;omega) e 1 0 k ⟨dY _,hm⟩ h
def ko(names am:fP)(lits:Bool)(x:aH):Bool:=
 if x.op=4\/x.op=7 then decide (x.text∈am) else if x.op=6\/x.op=8 then decide (x.text∈names) else if x.op=18 then lits else true
def E7(names am:fP)(lits:Bool)(x:aH)(_:Unit):Option Unit:=if ko names am lits x then some () else none
def allK(names am:fP)(lits:Bool)(e:aH):Option Unit:=li (fun _ x s=>E7 names am lits x s) e 1 ()
def Cc(names am args:fP)(lits:Bool)(e:aH)(n:Int):Option Int:=match Jl 120 e with
 |none=>none
 |some k=>if n+k<=120/\allK names am lits e=some ()/\(∀s∈kn e [] [],s∈args) then some (n+k) else none
def KnR(f:aL)(ip ic is:Nat)(d:D)(o:Option Int)(V:Sig)(x:DE)(U':Sig):Prop:=match o with
 |some m=>x=.ret (.tup [])/\U'=V.set ip (lC f ic is d m)
 |none=>x=.panic l7 /\ ∃m,U'=V.set ip (lC f ic is d m)
def Mm(f:aL)(ip ic is:Nat)(d:D)(n:Int)(names am:fP)(e:aH)(args:fP)(lits:Bool)(V:Sig)(hw:e.wt<=1073741824)(ha:args.length<=1073741824)(hn:0<=n/\n<=1000000)
  (h1:V ip=some (lC f ic is d n)) (h2:V ic=some (.map (eSN (Ca names 0)))) (h3:V is=some (.map (eSS am))) :
  aB prog 187 [.ptr ip 0,.agg (Af e),sl (cS args),.bool lits] V (KnR f ip ic is d (Cc names am args lits e n) V):=by
 have gR:ip≠ic:=Ab h1 h2 k7;have gQ:ip≠is:=Ab h1 h3 k7;obtain⟨gT,gS⟩:=hn;refine Bw func187 rfl (by decide) ntmps187 k7 ?_;cases e8:Jl 120 e with
 |none=>
  have hB:Cc names am args lits e n=none:=by unfold Cc;rw[e8]
  have gP:(Jl 120 e).isSome=false:=by rw[e8];rfl
  rw[hB]
  repeat' first|(exact fun _=>KJ [] (U':=V.set ip (lC f ic is d n)) ⟨rfl,n,rfl⟩ (by rw[Sig.set_self _ h1];exact Sub.refl _))|refine gf (gi h1 e8) ?_ o187|apply gy<;>intro hh
 | some k =>
  have hk:=Rr k0 e8;have gP:(Jl 120 e).isSome=true:=by rw[e8];rfl
  by_cases gG:n+k<=120
  ·try refine gf (gi h1 e8) ?_ o187
   generalize gv:V.set ip _=SA;have o1:SA ip=some (lC f ic is d (n+k)):=by rw[<-gv,w7]
   have o2:SA ic=some (.map (eSN (Ca names 0))):=by rw[<-gv,w8 _ _ (aZ gR)];exact h2
   have o3:SA is=some (.map (eSS am)):=by rw[<-gv,w8 _ _ (aZ gQ)];exact h3
   have gj:SA=V.set ip (lC f ic is d (n+k)):=gv.symm;have hI:∀S0,lc (fun (_:Sig) (_:Unit)=>True) S0:=fun S0 l _ S1 S2 s _ _ _=>trivial;have hF:QR (fun (_:Sig) (_:Unit)=>True):=fun V s a o _ _=>trivial;refine K9 l7 (fun _ (_:Unit)=>True) (fun _=>False) (fun _=>False) (allK names am lits e) () (hI _) hF trivial (fun j h=>h.elim) (fun j h=>h.elim) rfl (fun l did LO SL d8 hd hl f8 gE hG gg=>?_) (fun did s' U' ho gb d9 hG hk=>?_) (fun did U' ho gb d9 hk=>?_)
   ·have iq:SL l=some LO:=hG.1;have gB:lc (fun (_:Sig) (_:Unit)=>True) (SA.set did .defs):=hI _;refine(Tk l _ (fun _=>False) (fun j=>False\/j=l) (E7 names am lits) e SL () hw (fun x S1 u hx d6=>?_) (hG.indep (hI _)) (fun V s a o h ha=>h.new hF ha) hG (fun j h=>h.elim) (fun j hj h=>?_)).mono (fun x U' hx=>hx.bad fun hK j y hj hn=>?_)
    ·have bne:∀{q o},SA q=some o->(SA.set did .defs) q=some o/\q≠l:=fun {q o} hq=>by
      have e1:q≠did:=fun e=>by rw[e,hd]at hq;cases hq
      have e2:(SA.set did .defs) q=some o:=by rw[w8 _ _ e1];exact hq
      exact⟨e2,fun e=>by rw[e,hl]at e2;cases e2⟩
     have qb:∀{q o},SA q=some o->(S1.set l (Cx LO)) q=some o:=fun {q o} hq=>by
      rw[w8 _ _ (bne hq).2];exact d6.2.2 q o (bne hq).1 id
     have r1:=qb o1;have r2:=qb o2;have r3:=qb o3;have fX:=kQ.refl (fun _=>False) (S1.set l (Cx LO));refine EW d8 d6.1 ?_
     try refine gz ?_ o187
     refine⟨d6.1,?_⟩;generalize gh:S1.set l (Cx LO)=Sb at r1 r2 r3⊢;rw[gh]at fX;have fX:kQ (fun _=>False) (S1.set l (Cx LO)) Sb:=by rw[gh];exact fX
     rcases bX (x.op=4)with h4|h4
     ·have f0:ko names am lits x=decide (x.text∈am):=by unfold ko;rw[h4];simp
      by_cases hm:x.text∈am
      ·have d7:E7 names am lits x u=some ():=by unfold E7;rw[f0,bf hm];rfl
       try refine gf (gi r1 (gi r3 (gi h4 hm))) ?_ o187
       exact IW d7 d8 gB d6 f8 hl trivial fX
      ·have d7:E7 names am lits x u=none:=by unfold E7;rw[f0,ba hm];rfl
       repeat' first|(exact Ls d7 (Vd fX))|refine gf (gi r1 (gi r3 (gi h4 hm))) ?_ o187|apply gy<;>intro hh
     rcases bX (x.op=7)with h7|h7
     ·have f0:ko names am lits x=decide (x.text∈am):=by unfold ko;rw[h7];simp
      by_cases hm:x.text∈am
      ·have d7:E7 names am lits x u=some ():=by unfold E7;rw[f0,bf hm];rfl
       try refine gf (gi r1 (gi r3 (gi h7 hm))) ?_ o187
       exact IW d7 d8 gB d6 f8 hl trivial fX
      ·have d7:E7 names am lits x u=none:=by unfold E7;rw[f0,ba hm];rfl
       repeat' first|(exact Ls d7 (Vd fX))|refine gf (gi r1 (gi r3 (gi h7 hm))) ?_ o187|apply gy<;>intro hh
     rcases bX (x.op=6)with h6|h6
     ·have f0:ko names am lits x=decide (x.text∈names):=by unfold ko;rw[h6];simp
      by_cases hm:x.text∈names
      ·have d7:E7 names am lits x u=some ():=by unfold E7;rw[f0,bf hm];rfl
       try refine gf (gi r1 (gi r2 (gi FD (gi h6 hm)))) ?_ o187
       exact IW d7 d8 gB d6 f8 hl trivial fX
      ·have d7:E7 names am lits x u=none:=by unfold E7;rw[f0,ba hm];rfl
       repeat' first|(exact Ls d7 (Vd fX))|refine gf (gi r1 (gi r2 (gi FD (gi h6 hm)))) ?_ o187|apply gy<;>intro hh
     rcases bX (x.op=8)with h8|h8
     ·have f0:ko names am lits x=decide (x.text∈names):=by unfold ko;rw[h8];simp
      by_cases hm:x.text∈names
      ·have d7:E7 names am lits x u=some ():=by unfold E7;rw[f0,bf hm];rfl
       try refine gf (gi r1 (gi r2 (gi FD (gi h8 hm)))) ?_ o187
       exact IW d7 d8 gB d6 f8 hl trivial fX
      ·have d7:E7 names am lits x u=none:=by unfold E7;rw[f0,ba hm];rfl
       repeat' first|(exact Ls d7 (Vd fX))|refine gf (gi r1 (gi r2 (gi FD (gi h8 hm)))) ?_ o187|apply gy<;>intro hh
     rcases bX (x.op=18)with gD|gD
     ·have f0:ko names am lits x=lits:=by unfold ko;rw[gD];simp
      cases gL:lits
      ·have d7:E7 names am false x u=none:=by unfold E7;rw[gL]at f0;rw[f0];rfl
       repeat' first|(exact Ls d7 (Vd fX))|refine gf (gi r1 (gi gD gL)) ?_ o187|apply gy<;>intro hh
      ·have d7:E7 names am true x u=some ():=by unfold E7;rw[gL]at f0;rw[f0];rfl
       try refine gf (gi r1 (gi gD gL)) ?_ o187
       exact IW d7 d8 gB d6 f8 hl trivial fX
     ·have f0:ko names am lits x=true:=by unfold ko;rw[aQ k0,aQ k0,aQ gD]
      have d7:E7 names am lits x u=some ():=by unfold E7;rw[f0];rfl
      try refine gf r1 ?_ o187
      exact IW d7 d8 gB d6 f8 hl trivial fX
    ·rcases h with h|h
     ·exact h
     ·rw[h,iq]at hj;cases hj
    ·have e2:j≠l:=fun e=>by rw[e,hl]at hj;cases hj
     exact hK j y (by rw[gE,w8 _ _ e2];exact hj) (by rintro(h|h);exact hn h;exact e2 h)
   ·have iM:(kn e [] []).length<=(kn e [] []).length:=bn _
    try refine gz ?_ o187
    refine rng (kt:=9) (et:=4) (l:=eSS (kn e [] [])) (fun it gH=>?_) (hx:=by rw[<-Uc];with_unfolding_all rfl)
    try refine gz ?_ o187
    have fZ:∀{S5:Sig},(∀j x,U' j=some x->S5 j=some x)->Sub (V.set ip (lC f ic is d (n+k))) (dels [did] S5):=fun {S5} h5=>GG fun j x hj=>by
     rw[<-gj]at hj;obtain⟨g1,g2⟩:=hk j x hj id;exact⟨h5 j x g1,g2⟩
    have iG:it≠did:=fun e=>by rw[e,d9]at gH;cases gH
    refine E2 [2,66] (fun (L:fP) (S5:Sig) (la:Option (D×D))=>((∀x∈kn e [] [],x∈args) ↔ (∀x∈L,x∈args))/\(∀j x,U' j=some x->S5 j=some x)/\S5 it=some (.iter (eSS L) la)) (fun _ _ _=>[]) (fun _ S5 _=>S5) (fun L _ _=>L.length) (kn e [] []) (_) (none) (by exact⟨Iff.rfl,fun j x hj=>by rw[w8 _ _ fun e=>by rw[e,gH]at hj;cases hj];exact hj,w7 ..⟩) (fun L S5 la hI=>?_);obtain⟨hL,h5,gV⟩:=hI
    try refine gz ?_ o187
    refine nxt (fun iv=>?_) (fun jj k v iF=>?_) (hi:=gV)
    ·have iK:L=[]:=by unfold eSS eS at iv;simpa using iv
     subst iK;have hB:Cc names am args lits e n=some (n+k):=by unfold Cc;rw[e8];exact aS ⟨gG,ho,hL.2 k7⟩
     rw[hB]
     try refine gz ?_ o187
     exact P3 [did] (U':=V.set ip (lC f ic is d (n+k))) (d':=.tup []) ⟨rfl,rfl⟩ (fZ h5) (hd:=by simp[h5 _ _ d9]) (hw:=A9 _)
    ·obtain⟨gM,rfl,rfl⟩:=Xi iF;rw[PD]
     try refine gz ?_ o187
     refine ent ?_
     by_cases hm:L[jj]∈args
     ·have iE:=bf hm
      try refine gf hm ?_ o187
      have iQ:(L.eraseIdx jj).length<L.length:=by rw[fj,aS gM];omega
      exact⟨L.eraseIdx jj,_,_,⟨by rw[hL];exact⟨fun h x hx=>h x ((Kp gM x).2 (.inr hx)),fun h x hx=>Or.elim ((Kp gM x).1 hx) (fun e=>e ▸ hm) (h x)⟩,fun j x hj=>by rw[w8 _ _ fun e=>by rw[e,gH]at hj;cases hj];exact h5 j x hj,w7 ..⟩,td1,wkR⟩
     ·have hB:Cc names am args lits e n=none:=by unfold Cc;rw[e8];exact aQ fun h=>hm (hL.1 h.2.2 _ (aR gM))
      rw[hB];have iE:=ba hm
      repeat' first|(exact KJ [did] (U':=V.set ip (lC f ic is d (n+k))) ⟨rfl,_,rfl⟩ (fZ fun j x hj=>by rw[w8 _ _ fun e=>by rw[e,gH]at hj;cases hj];exact h5 j x hj) (hd:=by simp[w8 _ _ (aZ iG),h5 _ _ d9]))|refine gf hm ?_ o187|apply gy<;>intro hh
   ·have hB:Cc names am args lits e n=none:=by unfold Cc;rw[e8];exact aQ fun h=>by rw[ho]at h;cases h.2.1
    rw[hB]
    try refine gz ?_ o187
    exact KJ [did] (U':=V.set ip (lC f ic is d (n+k))) ⟨rfl,_,rfl⟩ (GG fun j x hj=>hk j x (by rw[gj];exact hj) id) (hd:=by simp[d9])
  ·have hB:Cc names am args lits e n=none:=by unfold Cc;rw[e8];exact aQ fun h=>gG h.1
   rw[hB]
   repeat' first|(exact KJ [] (U':=V.set ip (lC f ic is d (n+k))) ⟨rfl,_,rfl⟩ (Sub.refl _))|refine gf (gi h1 e8) ?_ o187|apply gy<;>intro hh
mutual
def QW{S:Type}{step:Int->aI->S->Option S}(Q:S->Prop)(h:∀d x s s',step d x s=some s'->Q s->Q s'): ∀(x:aI) (d:Int) (s s':S),Q s->visF step x d s=some s'->Q s'
 | .mk o a b c n k,d,s,s',hp,he=>by
  rw[visF]at he;split at he
  ·cases he
  ·rename_i s1 h1;exact O3 Q h k _ _ _ (h _ _ _ _ h1 hp) he
def O3{S:Type}{step:Int->aI->S->Option S}(Q:S->Prop)(h:∀d x s s',step d x s=some s'->Q s->Q s'): ∀(l:List aI) (d:Int) (s s':S),Q s->H5 step l d s=some s'->Q s'
 |[],d,s,s',hp,he=>by rw[H5]at he;cases he;exact hp
 | x::r,d,s,s',hp,he=>by
  rw[H5]at he;split at he
  ·cases he
  ·rename_i s1 h1;exact O3 Q h r _ _ _ (QW Q h x _ _ _ hp h1) he
end
def OD{most:Int}{e:aI}{k:Int}(hm:0<=most)(h:G3 most e=some k):0<=k/\k<=most:=
 QW (fun n=>0<=n/\n<=most) (fun d x s s' hs hq=>by unfold H8 at hs;split at hs<;>cases hs;omega) e 1 0 k ⟨dY _,hm⟩ h
def wAny:Str:=[97,110,121]
def wInt:Str:=[105,110,116]
def Gc:Str:=[110,111,110,101]
def Kf(names am args:fP)(x:aI):Bool:=
 (decide (x.name=[])||decide (x.name∈args))&&(x.path.all (fun s=>decide (s∈am))&&(decide (x.cls∈names)||decide (x.cls=[])||decide (x.cls=wAny)||decide (x.cls=wInt)||decide (x.cls=Gc)))
def J2(names am args:fP)(x:aI)(_:Unit):Option Unit:=if Kf names am args x then some () else none
def Qe{names am args:fP}{x:aI}{u:Unit}(h:Kf names am args x=false):J2 names am args x u=none:=by unfold J2;rw[h];rfl
def Qd{names am args:fP}{x:aI}{u:Unit}(h:Kf names am args x=true):J2 names am args x u=some ():=by unfold J2;rw[h];rfl
def CV(names am args:fP)(e:aI)(n:Int):Option Int:=match G3 120 e with
 |none=>none
 |some k=>if n+k<=120/\visF (fun _ x s=>J2 names am args x s) e 1 ()=some () then some (n+k) else none
def Mf(f:aL)(ip ic is:Nat)(d:D)(n:Int)(am:fP)(s:Str)(V:Sig)(h1:V ip=some (lC f ic is d n))(h3:V is=some (.map (eSS am))):
  aB prog 243 [.str s,.aw [.ptr ip 0] 0] V (rS (.bool (decide (s∈am))) V):=by
 refine en func243 ntmps243 ?_
 try refine gf (gi h1 h3) ?_
 exact fe1 trivial
def TF(f:aL)(ip ic is:Nat)(d:D)(n:Int)(names am:fP)(e:aI)(args:fP)(V:Sig)(hw:e.wt<=1073741824)(ha:args.length<=1073741824)(hn:0<=n/\n<=1000000)
  (h1:V ip=some (lC f ic is d n)) (h2:V ic=some (.map (eSN (Ca names 0)))) (h3:V is=some (.map (eSS am))) :
  aB prog 190 [.ptr ip 0,.agg (AE e),sl (cS args)] V (KnR f ip ic is d (CV names am args e n) V):=by
 have gR:ip≠ic:=Ab h1 h2 k7;have gQ:ip≠is:=Ab h1 h3 k7;obtain⟨gT,gS⟩:=hn;refine Bw func190 rfl (by decide) ntmps190 k7 ?_;cases e8:G3 120 e with
 |none=>
  have hB:CV names am args e n=none:=by unfold CV;rw[e8]
  have gP:(G3 120 e).isSome=false:=by rw[e8];rfl
  rw[hB]
  repeat' first|(exact fun _=>KJ [] (U':=V.set ip (lC f ic is d n)) ⟨rfl,n,rfl⟩ (by rw[Sig.set_self _ h1];exact Sub.refl _))|refine gf (gi h1 e8) ?_ o190|apply gy<;>intro hh
 | some k =>
  have hk:=OD k0 e8;have gP:(G3 120 e).isSome=true:=by rw[e8];rfl
  by_cases gG:n+k<=120
  ·try refine gf (gi h1 e8) ?_ o190
   generalize gv:V.set ip _=SA;have o1:SA ip=some (lC f ic is d (n+k)):=by rw[<-gv,w7]
   have o2:SA ic=some (.map (eSN (Ca names 0))):=by rw[<-gv,w8 _ _ (aZ gR)];exact h2
   have o3:SA is=some (.map (eSS am)):=by rw[<-gv,w8 _ _ (aZ gQ)];exact h3
   have gj:SA=V.set ip (lC f ic is d (n+k)):=gv.symm;have hI:∀S0,lc (fun (_:Sig) (_:Unit)=>True) S0:=fun S0 l _ S1 S2 s _ _ _=>trivial;have hF:QR (fun (_:Sig) (_:Unit)=>True):=fun V s a o _ _=>trivial;refine K9 l7 (fun _ (_:Unit)=>True) (fun _=>False) (fun _=>False) (visF (fun _ x s=>J2 names am args x s) e 1 ()) () (hI _) hF trivial (fun j h=>h.elim) (fun j h=>h.elim) rfl (fun l did LO SL d8 hd hl f8 gE hG gg=>?_) (fun did s' U' ho gb d9 hG hk=>?_) (fun did U' ho gb d9 hk=>?_)
   ·have iq:SL l=some LO:=hG.1;have gB:lc (fun (_:Sig) (_:Unit)=>True) (SA.set did .defs):=hI _;refine(Ma l _ _ (fun _=>False) (fun _ x s=>J2 names am args x s) (fun d x S1 u gO gC hx d6=>?_) (fun V s a o h ha=>h.new hF ha) e SL () (fun _ _ h=>h) hw hG)
    ·have bne:∀{q o},SA q=some o->(SA.set did .defs) q=some o/\q≠l:=fun {q o} hq=>by
      have e1:q≠did:=fun e=>by rw[e,hd]at hq;cases hq
      have e2:(SA.set did .defs) q=some o:=by rw[w8 _ _ e1];exact hq
      exact⟨e2,fun e=>by rw[e,hl]at e2;cases e2⟩
     have qb:∀{q o},SA q=some o->(S1.set l (Cx LO)) q=some o:=fun {q o} hq=>by
      rw[w8 _ _ (bne hq).2];exact d6.2.2 q o (bne hq).1 id
     have r1:=qb o1;have r2:=qb o2;have r3:=qb o3;have fX:=kQ.refl (fun _=>False) (S1.set l (Cx LO));refine EW d8 d6.1 ?_
     try refine gz ?_ o190
     refine⟨d6.1,?_⟩;generalize gh:S1.set l (Cx LO)=Sb at r1 r2 r3⊢;rw[gh]at fX;have fX:kQ (fun _=>False) (S1.set l (Cx LO)) Sb:=by rw[gh];exact fX
     have e7:pF x=.iface 316 (.agg (AE x)):=rfl;have g8:x.path.length<=1073741824:=by have:=Bc x.path;have:=x.wt_le;omega
     repeat' first|(exact Ls (Qe (by clear fX r1 r2 r3 d6 hG gg d8;first|(simp_all [Kf,wAny,wInt,Gc];done)|(simp_all [Kf,wAny,wInt,Gc];grind))) (d6.bad hl (fun _ h=>h) fX))|refine gf (gi r1 (gi r2 (gi r3 (gi e7 FD)))) ?_|refine Au (Pg x.path (fun s=>decide (s∈am)) 243 [.aw [.ptr ip 0] 0] _ Sb g8 (fun y hy=>Mf f ip ic is _ _ am y Sb r1 r3)) ?_|refine callP (Pg x.path (fun s=>decide (s∈am)) 243 [.aw [.ptr ip 0] 0] _ Sb g8 (fun y hy=>Mf f ip ic is _ _ am y Sb r1 r3)) ?_|refine gf (gi r1 (gi r2 (gi r3 (gi e7 FD)))) ?_ o190|apply gy<;>intro hh
     all_goals exact IW (Qd (by clear fX r1 r2 r3 d6 hG gg d8;simp_all [Kf,wAny,wInt,Gc])) d8 gB d6 f8 hl trivial fX
   ·have hB:CV names am args e n=some (n+k):=by unfold CV;rw[e8];exact aS ⟨gG,ho⟩
    rw[hB]
    try refine gz ?_ o190
    exact P3 [did] (U':=V.set ip (lC f ic is d (n+k))) (d':=.tup []) ⟨rfl,rfl⟩ (GG fun j x hj=>hk j x (by rw[gj];exact hj) id) (hd:=by simp[d9]) (hw:=A9 _)
   ·have hB:CV names am args e n=none:=by unfold CV;rw[e8];exact aQ fun h=>by rw[ho]at h;cases h.2
    rw[hB]
    try refine gz ?_ o190
    exact KJ [did] (U':=V.set ip (lC f ic is d (n+k))) ⟨rfl,_,rfl⟩ (GG fun j x hj=>hk j x (by rw[gj];exact hj) id) (hd:=by simp[d9])
  ·have hB:CV names am args e n=none:=by unfold CV;rw[e8];exact aQ fun h=>gG h.1
   rw[hB]
   repeat' first|(exact KJ [] (U':=V.set ip (lC f ic is d (n+k))) ⟨rfl,_,rfl⟩ (Sub.refl _))|refine gf (gi h1 e8) ?_ o190|apply gy<;>intro hh
abbrev kZ:=List (Str×Int)×Bool
def l5(name:Str)(n:Int)(s:kZ):kZ:=if hasM name s.1=true then(s.1,s.2&&decide (getM 0 name s.1=n)) else(s.1++[(name,n)],s.2)
def Nb{α β:Type}[DecidableEq α](k:α)(v:β): ∀m:List (α×β),hasM k m=false->putM k v m=m++[(k,v)]
 |[],_=>rfl
 | p::r,h=>by
  obtain⟨a,b⟩:=p
  by_cases e:k=a
  ·simp[hasM,e]at h
  ·have h2:hasM k r=false:=by simpa[hasM,e] using h
   rw[putM,aQ e,Nb k v r h2];rfl
structure GenS(mp ib il it:Nat)(V:Sig)(s:kZ):Prop where
 om:V mp=some (.map (eSN s.1))
 ob:V ib=some (.cells [.bool s.2])
 ol:V il=some (.cells [.slice (cS (s.1.map (·.1))) (.tag it)])
 ot:V it=some (.tail 1 s.1.length)
def tG(mp ib il it:Nat):Nat->Prop:=fun j=>j=mp\/j=ib\/j=il\/j=it
def Me(name:Str)(n:Int)(im mp ib il it:Nat)(s:kZ)(V:Sig)(hl:s.1.length<=100000000)(h0:V im=some (.cells [.map mp]))(hG:GenS mp ib il it V s)(hb:ib≠il):
  aB prog 244 [.str name,dI n,.ptr im 0,.ptr ib 0,.ptr il 0] V fun x U'=>x=.ret (.tup [])/\GenS mp ib il it U' (l5 name n s)/\kQ (tG mp ib il it) V U':=by
 obtain⟨acc,ok⟩:=s;obtain⟨om,ob,ol,ot⟩:=hG;simp only at om ob ol ot hl;have e1:il≠mp:=Ab ol om k7;have e2:it≠mp:=Ab ot om k7;have e3:it≠il:=Ab ot ol k7;have e4:it≠ib:=Ab ot ob k7;have e5:ib≠mp:=Ab ob om k7;refine en func244 ntmps244 ?_;cases hh:hasM name acc
 ·have hp:=Nb name n acc hh;have hs:l5 name n (acc,ok)=(acc++[(name,n)],ok):=by unfold l5;rw[aQ (by rw[hh];simp)]
  have hc:cS (acc.map (·.1))++[[D.str name]]=cS ((acc++[(name,n)]).map (·.1)):=by simp[cS]
  rw[hs];refine gf (gi h0 (gi om (gi ob (gi ol (gi ot (gi hh hp)))))) ?_;refine EA (U':=_) ⟨rfl,⟨?_,?_,?_,?_⟩,fun j o hj hn=>?_⟩
  ·rw[w8 _ _ (aZ e1),w8 _ _ (aZ e2),w7]
  ·rw[w8 _ _ hb,w8 _ _ (aZ e4),w8 _ _ e5];exact ob
  ·rw[w7,hc]
  ·rw[w8 _ _ e3,w7,aO];rfl
  ·have n1:j≠mp:=fun e=>hn (.inl e);have n2:j≠il:=fun e=>hn (.inr (.inr (.inl e)));have n3:j≠it:=fun e=>hn (.inr (.inr (.inr e)));rw[w8 _ _ n2,w8 _ _ n3,w8 _ _ n1];exact hj
 ·have hs:l5 name n (acc,ok)=(acc,ok&&decide (getM 0 name acc=n)):=by unfold l5;rw[aS hh]
  have hK:∀b,kQ (tG mp ib il it) V (V.set ib (.cells [.bool b])):=fun b j o hj hn=>by rw[w8 _ _ fun e=>hn (.inr (.inl e))];exact hj
  have hg:GenS mp ib il it (V.set ib (.cells [.bool (ok&&decide (getM 0 name acc=n))])) (acc,ok&&decide (getM 0 name acc=n)):=
   ⟨k8 (aZ e5) om,w7 .., by rw[w8 _ _ (aZ hb)];exact ol,k8 e4 ot⟩
  rw[hs];cases ok
  ·refine gf (gi h0 (gi om (gi ob (gi ol (gi ot hh))))) ?_;exact fin0 (U':=_) ⟨rfl,hg,hK _⟩
  ·refine gf (gi h0 (gi om (gi ob (gi ol (gi ot hh))))) ?_;exact fin0 (U':=_) ⟨rfl,hg,hK _⟩
section
variable {S:Type}(step:Int->aH->S->Option S)(pot:S->Nat)(hP:∀d x s s',step d x s=some s'->pot s'<=pot s+1)
include hP
mutual
theorem MV: ∀(x:aH) (d:Int) (s s':S),li step x d s=some s'->pot s'<=pot s+x.wt
 | .mk o n t k,d,s,s',he=>by
  have hw:(aH.mk o n t k).wt=1+t.length+wtL aH.wt k:=aH.wt_eq _;rw[li]at he;split at he
  ·cases he
  ·rename_i s1 h1;have:=hP _ _ _ _ h1;have:=O4 k _ _ _ he;omega
theorem O4: ∀(l:List aH) (d:Int) (s s':S),DP step l d s=some s'->pot s'<=pot s+wtL aH.wt l
 |[],d,s,s',he=>by rw[DP]at he;cases he;omega
 | x::r,d,s,s',he=>by
  rw[DP]at he;rw[wtL];split at he
  ·cases he
  ·rename_i s1 h1;have:=MV x _ _ _ h1;have:=O4 r _ _ _ he;omega
end
end
def Th{S:Type}(l i:Nat)(Good:Sig->S->Prop)(Bad:Sig->Prop)(touch:Nat->Prop)(step:Int->aH->S->Option S)(pot:S->Nat)(B:Nat)(hP:∀d x s s',step d x s=some s'->pot s'<=pot s+1)(gx:¬touch i)
  (hy:∀(d:Int) (x:aH) V s,1<=d->d<=2147483648->x.wt<=1073741824->pot s<B->Good V s->ku prog l [dI d,pE x] V (lJ l7 (.bool true) Good Bad touch V (step d x s))) :
  ∀(n:Nat) (x:aH) (d:Int) V s,x.wt<=n->n<=1073741824->1<=d->d+n<=2147483648->pot s+x.wt<=B->Good V s->V i=some (.cells [.func (.func 279) [] [.aw [.yld l] 0,.ptr i 0]])->
   aB prog 279 [pE x,dI d,.aw [.yld l] 0,.ptr i 0] V (lJ l7 (.bool true) Good Bad touch V (li step x d s)):=by
 intro n
 induction n with
 |zero=>
  intro x d V s hx;have:=x.wt_pos;omega
 | succ n ih =>
  intro x d V s hx hn hd gC hB hG hi;have iL:=aH.wt_eq x;have e7:pE x=.iface 308 (.agg (Af x)):=rfl;refine en func279 ntmps279 ?_;refine gz ?_;refine yldW (hy d x V s hd k0 k0 k0 hG) (fun e U' hr=>?_) (fun e U' hr=>?_)
  ·obtain⟨s',d7,rfl,go,hK⟩:=hr.ret;have ij:=hK i _ hi gx;have iP:=hP _ _ _ _ d7;rw[MW,d7];simp only;have ga:∀(k:Nat) (h:k<x.aq.length),(x.aq[k]).wt<x.wt:=by have:=x.wt_le;grind
   have fY:x.aq.length<=1073741824:=by have:=x.wt_le;omega
   refine gz ?_;refine invW V5 (P8 x U' k0) (fun e S2 hr=>?_) (fun e S2 hr=>by cases hr.1) (hx:=by exact e7);obtain⟨h1,h2⟩:=hr;simp only[DE.ret.injEq]at h1;subst h1;rw[h2];clear h2 S2;refine gz ?_;refine E2 [1,3,15,16] (fun (j:Nat) (s1:S) (S1:Sig)=>j<=x.aq.length/\pot s1+wtL aH.wt (x.aq.drop j)<=B/\Good S1 s1/\DP step x.aq (d+1) s'=DP step (x.aq.drop j) (d+1) s1/\(∀j o,V j=some o->¬touch j->S1 j=some o)) (fun j _ _=>[(17,dI j)]) (fun _ _ S1=>S1) (fun j _ _=>x.aq.length-j) (0) (s') (U') (by exact⟨k0,by rw[dE];omega,go,rfl,hK⟩) (fun j s1 S1 hI=>?_);obtain⟨hj,iC,d6,hR,gk⟩:=hI;have gA:=gk i _ hi gx
   by_cases gc:j<x.aq.length
   ·rw[A0 gc,DP]at hR;rw[A0 gc,wtL]at iC;refine gf gA ?_;refine Ad (ih x.aq[j] (d+1) S1 s1 (by have:=ga j gc;omega) k0 k0 k0 k0 d6 gA) (fun e S2 hr=>?_) (fun e S2 hr=>?_)
    ·obtain⟨s2,gu,rfl,gw,gK⟩:=hr.ret;have iO:=MV step pot hP _ _ _ _ gu;rw[gu]at hR;refine gz ?_;exact⟨j+1,s2,S2,⟨k0,k0,gw,hR,fun j o h1 h2=>gK _ _ (gk _ _ h1 h2) h2⟩,td1,wkR⟩
    ·obtain⟨hn,rfl,hb⟩:=hr.pan;rw[hn]at hR;rw[hR];exact kV (U':=S2) ⟨rfl,hb⟩
   ·rw[A1 gc,DP]at hR;rw[hR];refine gz ?_;refine kE (U':=S1) ?_;exact⟨rfl,d6,gk⟩
  ·obtain⟨d7,rfl,hb⟩:=hr.pan;rw[MW,d7];exact kV (U':=U') ⟨rfl,hb⟩
def Ti{S:Type}(l:Nat)(Good:Sig->S->Prop)(Bad:Sig->Prop)(touch:Nat->Prop)(step:Int->aH->S->Option S)(pot:S->Nat)(B:Nat)(hP:∀d x s s',step d x s=some s'->pot s'<=pot s+1)
  (hy:∀(d:Int) (x:aH) V s,1<=d->d<=2147483648->x.wt<=1073741824->pot s<B->Good V s->ku prog l [dI d,pE x] V (lJ l7 (.bool true) Good Bad touch V (step d x s)))
  (hm : ∀ V s a o,Good V s->V a=none->Good (V.set a o) s) (x:aH) (V:Sig) (s:S) (ht : ∀ a,V a=none -> ¬ touch a) (hx:x.wt<=1073741824) (hB:pot s+x.wt<=B) (hG:Good V s) :
   aB prog 278 [.yld l,.aw [pE x] 0] V (lJ l7 (.tup []) Good Bad touch V (li step x 1 s)):=by
 refine en func278 ntmps278 ?_;refine gz ?_ [] [3];refine kR (fun a ha=>?_);refine gz ?_ [] [3];refine Ad (Th l a Good Bad touch step pot B hP (ht a ha) hy x.wt x 1 (V.set a _) s (bn _) hx k0 k0 hB (hm _ _ _ _ hG ha) (w7 ..)) (fun e U' hr=>?_) (fun e U' hr=>?_)
 ·obtain⟨s',hs',rfl,go,hK⟩:=hr.ret;rw[hs'];refine gz ?_ [] [3];refine EA (U':=U') ?_;exact⟨rfl,go,fun j o h1 h2=>hK j o (by rw[w8 _ _ fun e=>by rw[e,ha]at h1;cases h1];exact h1) h2⟩
 ·obtain⟨hn,rfl,hb⟩:=hr.pan;rw[hn];exact kV (U':=U') ⟨rfl,hb⟩
def Tl{S:Type}(l:Nat)(Good:Sig->S->Prop)(touch tp:Nat->Prop)(step:aH->S->Option S)(e:aH)(V:Sig)(s0:S)(pot:S->Nat)(B:Nat)(hP:∀x s s',step x s=some s'->pot s'<=pot s+1)(hB:pot s0+e.wt<=B)(hw:e.wt<=1073741824)
  (hy:∀(x:aH) V s,x.wt<=1073741824->pot s<B->Good V s->ku prog l [.agg (Af x)] V (lJ l7 (.bool true) Good (kQ tp V) touch V (step x s)))
  (hi:lc Good V) (hf:QR Good) (h0:Good V s0) (ht:∀j,touch j->tp j) (gF:∀j,V j=none->¬tp j) :
  aB prog 275 [.yld l,.aw (Af e) 0] V (lJ l7 (.tup []) Good (kQ tp V) touch V (li (fun _ x s=>step x s) e 1 s0)):=by
 refine Bw func275 rfl (by decide) ntmps275 k7 ?_
 try refine gz ?_
 refine K9 l7 Good touch tp (li (fun _ x s=>step x s) e 1 s0) s0 hi hf h0 (fun j hj hn=>gF j hn (ht j hj)) (fun j hj hn=>gF j hn hj) rfl (fun l2 did LO SL d8 hd hl f8 gE hG gg=>?_) (fun did s' U' ho gb d9 hG hk=>?_) (fun did U' ho gb d9 hk=>?_)
 ·have gI:lc Good (V.set did .defs):=hi.older fun j hj=>by
   by_cases e:j=did
   ·rw[e];exact hd
   ·rw[w8 _ _ e]at hj;exact hj
  refine Ti l2 _ _ touch (fun _ x s=>step x s) pot B (fun d x s s' h=>hP x s s' h) (fun d x S1 s gO gC hx iB d6=>?_) (fun V s a o h ha=>h.new hf ha) e SL s0 gg hw hB hG;refine EW d8 d6.1 ?_
  try refine gz ?_
  refine⟨d6.1,?_⟩;have g7:=d6.busy d8 gI hl;have e7:pE x=.iface 308 (.agg (Af x)):=rfl
  try refine gf e7 ?_
  refine yldWG (hy x _ s hx iB g7) (fun e S2 hr=>?_) (fun e S2 hr=>?_)
  ·obtain⟨s2,gu,rfl,gw,hK⟩:=hr.ret
   try refine gz ?_
   exact IW gu d8 gI d6 f8 hl gw hK
  ·obtain⟨hn,rfl,gZ⟩:=hr.pan
   try refine gz ?_
   exact Ls hn (d6.bad hl ht gZ)
 ·rw[ho]
  try refine gz ?_
  refine P3 [did] (U':=U'.del did) (d':=.tup []) ⟨rfl,hi did gb _ _ _ hG ⟨_,d9,rfl⟩ (fun j hj=>by simp only[Sig.del,hj,bl]),fun j x hj hn=>?_⟩ (Sub.refl _) (hd:=by simp[d9]) (hw:=A9 _);obtain⟨h1,h2⟩:=hk j x hj hn;simp only[Sig.del,h2,bl];exact h1
 ·rw[ho]
  try refine gz ?_
  refine KJ [did] (U':=U'.del did) ⟨rfl,fun j x hj hn=>?_⟩ (Sub.refl _) (hd:=by simp[d9]);obtain⟨h1,h2⟩:=hk j x hj hn;simp only[Sig.del,h2,bl];exact h1
end Go.DL
