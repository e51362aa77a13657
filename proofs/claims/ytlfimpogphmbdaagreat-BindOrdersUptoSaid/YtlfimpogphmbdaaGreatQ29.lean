/- A part of the proof. -/
import Derived.Test.YtlfimpogphmbdaaGreatQ28
import Derived.Test.YtlfimpogphmbdaaGreatRows
import Derived.WideKeyArgs
import Derived.ChangeSame
import Derived.OpenShut
import Derived.JoinedCond
import Derived.WalkKit
import Derived.ProofKit
set_option linter.all false
namespace Go.DL
open Go.Proofs.Tryz
open Go Go.Proofs
theorem LL: ∀(l seen:fD),difE seen l=true ↔ l.Nodup /\ ∀x∈l,x∉seen
 |[],seen=>by simp[difE]
 |x::r,seen=>by
  rw[difE,aI,LL r,cP]
  simp only[bw,be,bk,aY,fm,or_false]
  grind
theorem I2(l:fD):Dy l=true ↔ (∀s∈l,AJ s=true)/\l.Nodup:=by
 unfold Dy
 rw[aI,bc,LL];simp
theorem Mt(x:Str): ∀(pre t:fD) (k:Nat),x∉pre->idxG x (pre++x::t) k=(k:Int)+pre.length
 |[],t,k,_=>by rw[br,idxG,aS rfl];simp
 |y::r,t,k,h=>by
  rw[aY,dU]at h
  rw[bl,idxG,aN (fun e=>h.1 e.symm),Mt x r t (k+1) h.2,aP];omega
theorem La(s:Str)(j:Nat): ∀(l:fD) (k:Nat),s∈l->idxG s l (k+j)=idxG s l k+j
 |[],_,h=>by cases h
 |x::r,k,h=>by
  rw[idxG,idxG]
  by_cases e:x=s
  ·rw[aS e,aS e];omega
  ·rw[aN e,aN e,show k+j+1=k+1+j by omega,La s j r (k+1) ((aY.1 h).resolve_left fun h=>e h.symm)]
theorem DV(s:Str): ∀(l:fD) (k:Nat) (m:List (Str×Int)),l.Nodup->s∈l->getM 0 s (numM l k m)=idxG s l k
 |[],_,_,_,h=>by cases h
 | x::r,k,m,hn,h=>by
  rw[cP]at hn
  rw[numM,idxG]
  by_cases e:x=s
  ·subst e
   rw[aS rfl,(IL r _ _ x).2 hn.1,Cb,aS rfl]
  ·rw[aN e]
   exact DV s r (k+1) _ hn.2 ((aY.1 h).resolve_left fun h=>e h.symm)
theorem JV(s:Str)(l:fD)(k:Int)(h:s∉l):getM 0 s (numM l k [])=0:=(IL l k [] s).2 h
theorem MX(f:aF)(hn:(ownR f).Nodup)(s:Str)(hs:s∈ownR f++lits3):getM 0 s (BB f)=clsN (ownR f) s:=by
 unfold BB clsN
 rw[Cb,Cb,Cb]
 have e1:idxG s lits3 0=if wAny=s then 0 else if wInt=s then 1 else if H9=s then 2 else -1:=rfl
 rw[e1]
 by_cases h1:s=H9
 ·subst h1;rw[aS rfl];rfl
 ·by_cases h2:s=wInt
  ·subst h2;rw[aN (by decide),aS rfl];rfl
  ·by_cases h3:s=wAny
   ·subst h3;rw[aN (by decide),aN (by decide),aS rfl];rfl
   ·rw[aN h1,aN h2,aN h3,aN (fun e:wAny=s=>h3 e.symm),aN (fun e:wInt=s=>h2 e.symm),aN (fun e:H9=s=>h1 e.symm),aN (by omega)]
    have hm:s∈ownR f:=by
     rcases bk.1 hs with h|h
     ·exact h
     ·simp[lits3,h1,h2,h3]at h
    have:=DV s (ownR f) 3 [] hn hm
    have h4:=La s 3 (ownR f) 0 hm
    rw[ck]at h4
    rw[show f.aa.map (·.name)=ownR f from rfl,show(3:Int)=((3:Nat):Int) from rfl,this,h4]
theorem XG(f:aF)(h:[]∉ownR f):getM 0 [] (BB f)=0:=by
 unfold BB
 rw[Cb,Cb,Cb,aN (by decide),aN (by decide),aN (by decide)]
 exact JV [] _ 3 h
theorem T3: ∀(xs pre post:fD),(pre++xs++post).Nodup->xs.map (fun s=>idxG s (pre++xs++post) 0)=seqI pre.length xs.length
 |[],pre,post,_=>rfl
 | x::r,pre,post,h=>by
  have h1:x∉pre:=fun hx=>by
   rw[aT,dL]at h
   exact h.2.2 x hx x (by simp) rfl
  have h2:=Mt x pre (r++post) 0 h1
  have ih:=T3 r (pre++[x]) post (by simpa[aT] using h)
  rw[ba,aP,seqI]
  have e:pre++x::r++post=pre++[x]++r++post:=by simp
  have e2:pre++x::r++post=pre++x::(r++post):=by simp
  congr 1
  ·rw[e2,h2];simp
  ·rw[e,ih];simp
structure FOK(f:aF):Prop where
 own:(ownR f).Nodup
 ownB:∀s∈ownR f,AJ s=true
 slo:(slotsR f).Nodup
 sloB:∀s∈slotsR f,AJ s=true
 par:∀c∈f.aa, ∀s∈c.ag,s∈ownR f
 ini:∀c∈f.aa, ∀x∈c.ai,x.slot∈slotsR f
 mainC:(cntE f.main 1 120).1=true
 mainS:EC [] (slotsR f) (ownR f) false f.main=true
 met:∀m∈f.methods,CQ m=true/\(∃b,0<=b/\(fctE m.params (slotsR f) (ownR f++lits3) m.fact 1 b).1=true)/\(cntE m.body 1 120).1=true /\ ∃t,EC m.params (slotsR f) (ownR f) t m.body=true
 gen:(BM f).2=true
theorem Ql{mine:fD}: ∀{l:List aG}{seen:fD},iniR mine seen l=true->∀x∈l,x.slot∈mine
 |[],_,_,x,hx=>by cases hx
 |y::r,seen,h,x,hx=>by
  rw[iniR]at h
  simp only[aI,aL]at h
  rcases aY.1 hx with rfl|hx
  ·exact h.1.1
  ·exact Ql h.2 x hx
theorem NO{f:aF}: ∀{l:List aD}{i:Nat},inisR f i l=true->∀c∈l, ∀x∈c.ai,x.slot∈slotsR f
 |[],_,_,c,hc=>by cases hc
 | y::r,i,h,c,hc=>by
  rw[inisR,aI]at h
  rcases aY.1 hc with rfl|hc
  ·intro x hx
   obtain⟨j,hj,_,h2⟩:=(JE _ _).1 (Ql h.1 x hx)
   exact dX.2 ⟨_,aJ hj,h2⟩
  ·exact NO h.2 c hc
theorem L2{S O:fD}: ∀{l:List aE}{b:Int},0<=b->GC S O l b=true->∀m∈l,CQ m=true/\(∃b,0<=b/\(fctE m.params S (O++lits3) m.fact 1 b).1=true)/\(cntE m.body 1 120).1=true /\ ∃t,EC m.params S O t m.body=true
 |[],_,_,_,m,hm=>by cases hm
 | y::r,b,hb,h,m,hm=>by
  rw[GC,aI]at h
  rcases aY.1 hm with rfl|hm
  ·have h1:=h.1
   unfold D6 at h1
   split at h1
   ·rename_i q1
    split at h1
    ·rename_i q2
     simp only[aI]at h1
     exact⟨q1,⟨b,hb,q2.1⟩,q2.2,_,h1.2⟩
    ·cases h1
   ·cases h1
  ·exact L2 (Mo S O y b hb h.1).1 h.2 m hm
theorem fok_of{f:aF}(h:Gy f=true):FOK f:=by
 unfold Gy Mv Ep at h
 simp only[aI,aL]at h
 obtain⟨⟨h1,⟨h2,h3,h4,h5⟩,h6,h7⟩,⟨h8,h9⟩,gv,gu,gD⟩:=h
 obtain⟨a1,a2⟩:=(I2 _).1 h4
 obtain⟨b1,b2⟩:=(I2 _).1 h5
 refine⟨a2,a1,b2,b1,fun c hc s hs=>?_,NO h6,h7,h9,L2 h8 gv,gu⟩
 have:=(Fo _ _ h3 c hc).2 s hs
 rw[br]at this
 exact this
theorem OZ{f:aF}(h:FOK f): ∀(l pre:List aD),f.aa=pre++l->GH f l (pre.flatMap (·.ae)).length=l.map (Ih (BB f) (BD f))
 |[],_,_=>rfl
 | c::r,pre,hf=>by
  have hc:c∈f.aa:=by rw[hf];simp
  have hs:slotsR f=pre.flatMap (·.ae)++c.ae++r.flatMap (·.ae):=by unfold slotsR;rw[hf];simp
  have fY:∀s∈slotsR f,getM 0 s (BD f)=idxG s (slotsR f) 0:=fun s hs=>DV s (slotsR f) 0 [] h.slo hs
  have ih:=OZ h r (pre++[c]) (by rw[hf];simp)
  rw[eW,aH]at ih
  simp only[cz,eC,bb]at ih
  rw[GH,ih,ba]
  congr 1
  unfold XN Ih
  have e1:c.ag.map (clsN (ownR f))=c.ag.map fun s=>getM 0 s (BB f):=bT fun s hs=>(MX f h.own s (cY _ (h.par c hc s hs))).symm
  have e2:(c.ae.map fun s=>getM 0 s (BD f))=seqI (pre.flatMap (·.ae)).length c.ae.length:=by
   rw[<-T3 c.ae (pre.flatMap (·.ae)) (r.flatMap (·.ae)) (by rw[<-hs];exact h.slo),<-hs]
   exact bT fun s hx=>fY s (by rw[hs];simp[hx])
  have e3:(c.ai.map fun x=>(⟨idxG x.slot (slotsR f) 0,x.n⟩:Init))=c.ai.map fun x=>⟨getM 0 x.slot (BD f),x.n⟩:=bT fun x hx=>by rw[fY _ (h.ini c hc x hx)]
  rw[e1,e2,e3]
theorem TU{P:fD}(hP:P.Nodup){y:Str}(hy:y∈P):getM 0 y (numM P 0 [])=idxG y P 0:=DV y P 0 [] hP hy
mutual
theorem Ye{f:aF}(h:FOK f){m:aE}(hP:m.params.Nodup)(e7:[]∉m.params): ∀(x:aC) (d:Int),G8 (fctQ m.params (slotsR f) (ownR f++lits3)) x d=true->bndF (BB f) (BD f) (EH m) x=G6 (ownR f) (slotsR f) m.params x
 | .mk o s p c n k,d,hx=>by
  rw[G8,aI]at hx
  obtain⟨h1,h2⟩:=hx
  have gn:[]∉ownR f:=fun hm=>by have:=h.ownB _ hm;rw[Jy]at this;cases this
  unfold fctQ fctB fctC at h1
  simp only[aI,aL]at h1
  obtain⟨_,_,⟨⟨⟨⟨_,q1⟩,_⟩,⟨q2,q3⟩,_⟩,q4⟩⟩:=h1
  have q1:(if AO o=true then decide (s∈m.params) else(decide (s=[])&&decide (p=[])))=true:=q1
  have q2:(decide (o=2) == !decide (c=[]))=true:=q2
  have q3:(!decide (o=2)||decide (c∈ownR f++lits3))=true:=q3
  rw[bndF,G6,Wg h hP e7 k (d+1) h2]
  congr 1
  ·by_cases hs:s=[]
   ·rw[aS hs,hs];exact JV [] _ 0 e7
   ·rw[aN hs]
    refine TU hP ?_
    by_cases hn:AO o=true
    ·rw[aS hn]at q1;exact cx q1
    ·rw[aN hn]at q1;simp[hs]at q1
  ·refine bT fun x hx=>DV x (slotsR f) 0 [] h.slo ?_
   exact cx (bc.1 q4 x hx)
  ·by_cases hc:c=[]
   ·rw[aS hc,hc];exact XG f gn
   ·rw[aN hc]
    refine MX f h.own c ?_
    simp[hc]at q2
    simpa[q2] using q3
theorem Wg{f:aF}(h:FOK f){m:aE}(hP:m.params.Nodup)(e7:[]∉m.params): ∀(l:List aC) (d:Int),CJ (fctQ m.params (slotsR f) (ownR f++lits3)) l d=true->HP (BB f) (BD f) (EH m) l=Iw (ownR f) (slotsR f) m.params l
 |[],_,_=>by rw[HP,Iw]
 |x::r,d,hx=>by
  rw[CJ,aI]at hx
  rw[HP,Iw,Ye h hP e7 x d hx.1,Wg h hP e7 r d hx.2]
end
theorem NJ(y t:Str): ∀(l:fD) (k:Nat) (n:Int),F9 y (l++[t]) k n=if t=y then((k+l.length:Nat):Int) else F9 y l k n
 |[],k,n=>by rw[br,F9,F9,F9];simp
 |x::r,k,n=>by
  rw[bl,F9,F9,NJ y t r,aP,show k+1+r.length=k+(r.length+1) by omega]
theorem NI(y:Str): ∀(l:fD) (k:Nat) (m:List (Str×Int)),getM 0 y (numM l k m)=F9 y l k (getM 0 y m)
 |[],_,_=>by rw[numM,F9]
 |x::r,k,m=>by
  rw[numM,F9]
  have:=NI y r (k+1) (putM x k m)
  rw[show((k:Int)+1)=((k+1:Nat):Int) by omega,this,Cb]
  congr 1
  by_cases e:y=x
  ·rw[aS e,aS e.symm]
  ·rw[aN e,aN fun h=>e h.symm]
mutual
theorem R0{f:aF}(h:FOK f){t0:Bool}: ∀(e:aB) (d:Int) (env:Str->Int) (own:fD) (k:Nat),allD F6 e d=true->(allE e).all (nodK (ownR f) (slotsR f) t0)=true->AllX (CallsIn (gensN f)) e->(∀y,env y=F9 y own 0 0)->
  bndE (BB f) (BD f) (AC f) e env own.length k=Fp (ownR f) (slotsR f) (gensN f) e own k
 | .mk o n t l,d,env,own,k,h1,h2,h3,he=>by
  rw[allD,aI]at h1
  rw[allE,bV,aI]at h2
  rw[AllX]at h3
  rw[bndE,Fp,Wi h o t l 0 (d+1) env own (k+1) h1.2 h2.2 h3.2 he]
  congr 1
  congr 1
  unfold bndN PB
  have q2:(if o=4\/o=7 then decide (t∈slotsR f) else if o=6\/o=8 then decide (t∈ownR f) else if o=18 then t0 else true)=true:=h2.1
  by_cases c3:o=3
  ·rw[aS c3,aS c3,he t]
   have:n=0:=(L1 h1.1 c3).2
   rw[this]
  ·rw [aN c3,aN c3]
   by_cases c4:o=4\/o=7
   ·rw[aS c4,aS c4]
    rw[aS c4]at q2
    exact DV t (slotsR f) 0 [] h.slo (cx q2)
   ·rw[aN c4,aN c4]
    rw[aN c4]at q2
    by_cases c5:o=5
    ·rw[aS c5,aS c5]
     exact DV t (gensN f) 0 [] (DW f).1 (h3.1 c5)
    ·rw[aN c5,aN c5]
     by_cases c6:o=6\/o=8
     ·rw[aS c6,aS c6]
      rw[aS c6]at q2
      exact MX f h.own t (cY _ (cx q2))
     ·rw[aN c6,aN c6]
theorem Wi{f:aF}(h:FOK f){t0:Bool}(o:Int)(t:Str): ∀(l:List aB) (i:Nat) (d:Int) (env:Str->Int) (own:fD) (k:Nat),ID F6 l d=true->(Bg l).all (nodK (ownR f) (slotsR f) t0)=true->Eg (CallsIn (gensN f)) l->(∀y,env y=F9 y own 0 0)->
  GA (BB f) (BD f) (AC f) o t l i env own.length k=EV (ownR f) (slotsR f) (gensN f) o t l i own k
 |[],_,_,_,_,_,_,_,_,_=>by rw[GA,EV]
 | x::r,i,d,env,own,k,h1,h2,h3,he=>by
  rw[ID,aI]at h1
  rw[Bg,ed,aI]at h2
  rw[Eg]at h3
  rw[GA,EV,Wi h o t r (i+1) d env own (k+x.cnt) h1.2 h2.2 h3.2 he]
  congr 1
  by_cases c:o=9/\i=1
  ·rw[aS c,aS c]
   have:=R0 h x d (updE env t own.length) (own++[t]) k h1.1 h2.1 h3.1 (fun y=>by
    rw[NJ,ck];unfold updE
    by_cases e:y=t
    ·rw[aS e,aS e.symm]
    ·rw[aN e,aN fun h=>e h.symm];exact he y)
   rw[aH]at this
   exact this
  ·rw[aN c,aN c]
   exact R0 h x d env own k h1.1 h2.1 h3.1 he
end
theorem PX{free ae own:fD}{t:Bool}{e:aB}(h:EC free ae own t e=true):(allE e).all (nodK own ae t)=true:=by
 unfold EC at h;rw[aI]at h;exact h.1
theorem Yd{f:aF}(h:FOK f): ∀(l:List aE) (k:Nat),(∀m∈l,m∈f.methods)->
  bndMM (BB f) (BD f) (AC f) l k=Iv (ownR f) (slotsR f) (gensN f) l k/\HO (BB f) (BD f) (AC f) l k=GG (ownR f) (slotsR f) (gensN f) l k
 |[],_,_=>⟨rfl,rfl⟩
 |m::r,k,hl=>by
  obtain⟨i1,i2⟩:=Yd h r (k+m.body.cnt) fun m hm=>hl m (by simp[hm])
  have hm:=hl m (by simp)
  obtain⟨m1,⟨b,hb,m2⟩,m3,t,m4⟩:=h.met m hm
  obtain⟨g1,g2,g3⟩:=DW f
  have hp:Dy m.params=true:=by unfold CQ at m1;simp only[aI]at m1;exact m1.2.2.2.2
  obtain⟨p1,p2⟩:=(I2 _).1 hp
  have e7:[]∉m.params:=fun hx=>by have:=p1 _ hx;rw[Jy]at this;cases this
  have hF:=Ye h p2 e7 m.fact 1 ((My m.fact 1 b hb).1.1 m2).1
  have hE:=R0 h m.body 1 (EH m) m.params k ((IY m.body 1 120 (by omega)).1.1 m3).1 (PX m4) (g2 m hm).2 (fun y=>by unfold EH;exact NI y m.params 0 [])
  have hG:getM 0 m.name (AC f)=idxG m.name (gensN f) 0:=DV m.name (gensN f) 0 [] g1 (g2 m hm).1
  exact⟨by rw[bndMM,Iv,i1,hF,hG],by rw[HO,GG,i2,hE]⟩
def Told(G:List (Str×Int))(s:Str)(n:Int):Prop:=hasM s G=true/\getM 0 s G=n
theorem II{G H:List (Str×Int)}{s:Str}{n:Int}(h:Told G s n):Told (G++H) s n:=by
 obtain⟨h1,h2⟩:=h
 induction G with
 |nil=>cases h1
 |cons a r ih=>
  obtain⟨x,v⟩:=a
  rw[hasM]at h1
  rw[getM]at h2
  unfold Told
  rw[bl,hasM,getM]
  by_cases e:s=x
  ·simp[e]at h2⊢; exact h2
  ·simp[e]at h1 h2⊢; exact ih h1 h2
theorem PR(s:Str)(n:Int): ∀G:List (Str×Int),hasM s G=false->Told (G++[(s,n)]) s n
 |[],_=>by unfold Told;rw[br,hasM,getM];simp
 |(x,v)::r,h=>by
  rw[hasM]at h
  obtain⟨i1,i2⟩:=PR s n r (by simp at h;exact h.2)
  unfold Told
  rw[bl,hasM,getM]
  by_cases e:s=x
  ·simp[e]at h
  ·simp[e,i1,i2]
theorem Nk(s:Str)(n:Int)(g:GenT):(∃H,(seeG s n g).1=g.1++H)/\(∀x∈(seeG s n g).1.map (·.1),x∈g.1.map (·.1)\/x=s)/\((seeG s n g).2=true->g.2=true/\Told (seeG s n g).1 s n):=by
 unfold seeG
 by_cases h:hasM s g.1=true
 ·rw[aS h]
  refine⟨⟨[],by simp⟩,fun x hx=>.inl hx,fun hh=>?_⟩
  simp only[aI,aL]at hh
  exact⟨hh.1,h,hh.2⟩
 ·rw[aN h]
  exact⟨⟨_,rfl⟩,fun x hx=>by simpa using hx,fun hh=>⟨hh,PR s n _ (by simpa using h)⟩⟩
def P4(G:List (Str×Int))(x:aB):Prop:=x.op=5->Told G x.text x.ah.length
theorem ST{G:List (Str×Int)}(H:List (Str×Int))(e:aB)(h:AllX (P4 G) e):AllX (P4 (G++H)) e:=G9 (fun x hx h5=>II (hx h5)) e h
def callsL(l:List aB):fD:=(l.filter fun x=>decide (x.op=5)).map (·.text)
mutual
theorem TW: ∀(e:aB) (g:GenT),(∃H,(genE e g).1=g.1++H)/\(∀x∈(genE e g).1.map (·.1),x∈g.1.map (·.1)\/x∈callsL (allE e))/\((genE e g).2=true->g.2=true/\AllX (P4 (genE e g).1) e)
 | .mk o n t k,g=>by
  rw[genE,allE,AllX]
  by_cases h5:o=5
  ·rw[aS h5]
   obtain⟨⟨H1,a1⟩,a2,a3⟩:=Nk t k.length g
   obtain⟨⟨H2,b1⟩,b2,b3⟩:=Gk k (seeG t k.length g)
   have hc:callsL (aB.mk o n t k::Bg k)=t::callsL (Bg k):=by unfold callsL;rw[cu,aS (show decide ((aB.mk o n t k).op=5)=true from aX h5)];rfl
   refine⟨⟨H1++H2,by rw[b1,a1,aT]⟩,fun x hx=>?_,fun hh=>?_⟩
   ·rw[hc]
    rcases b2 x hx with h|h
    ·rcases a2 x h with h|h
     ·exact .inl h
     ·exact .inr (by simp[h])
    ·exact .inr (by simp[h])
   ·obtain⟨c1,c2⟩:=b3 hh
    obtain⟨d1,d2⟩:=a3 c1
    exact⟨d1,fun _=>by rw[b1];exact II d2,c2⟩
  ·rw[aN h5]
   obtain⟨b1,b2,b3⟩:=Gk k g
   have hc:callsL (aB.mk o n t k::Bg k)=callsL (Bg k):=by unfold callsL;rw[cu,aN (show ¬decide ((aB.mk o n t k).op=5)=true from fun h=>h5 (cx h))]
   rw[hc]
   exact⟨b1,b2,fun hh=>⟨(b3 hh).1,fun h=>absurd h h5,(b3 hh).2⟩⟩
theorem Gk: ∀(l:List aB) (g:GenT),(∃H,(CM l g).1=g.1++H)/\(∀x∈(CM l g).1.map (·.1),x∈g.1.map (·.1)\/x∈callsL (Bg l))/\((CM l g).2=true->g.2=true/\Eg (P4 (CM l g).1) l)
 |[],g=>by rw[CM,Bg,Eg];exact⟨⟨[],by simp⟩,fun x hx=>.inl hx,fun h=>⟨h,trivial⟩⟩
 | y::r,g=>by
  obtain⟨⟨H1,a1⟩,a2,a3⟩:=TW y g
  obtain⟨⟨H2,b1⟩,b2,b3⟩:=Gk r (genE y g)
  have hc:callsL (allE y++Bg r)=callsL (allE y)++callsL (Bg r):=by unfold callsL;rw[bW,bI]
  rw[CM,Bg,Eg,hc]
  refine⟨⟨H1++H2,by rw[b1,a1,aT]⟩,fun x hx=>?_,fun hh=>?_⟩
  ·rcases b2 x hx with h|h
   ·rcases a2 x h with h|h
    ·exact .inl h
    ·exact .inr (cY _ h)
   ·exact .inr (eL _ h)
  ·obtain⟨c1,c2⟩:=b3 hh
   obtain⟨d1,d2⟩:=a3 c1
   exact⟨d1,by rw[b1];exact ST H2 y d2,c2⟩
end
theorem ND: ∀(l:List aE) (g:GenT),(∃H,(metG l g).1=g.1++H)/\(∀x∈(metG l g).1.map (·.1),x∈g.1.map (·.1)\/x∈l.map (·.name))/\((metG l g).2=true->g.2=true /\ ∀m∈l,Told (metG l g).1 m.name m.params.length)
 |[],g=>⟨⟨[],by simp[metG]⟩,fun x hx=>.inl hx,fun h=>⟨h,fun m hm=>by cases hm⟩⟩
 | y::r,g=>by
  obtain⟨⟨H1,a1⟩,a2,a3⟩:=Nk y.name y.params.length g
  obtain⟨⟨H2,b1⟩,b2,b3⟩:=ND r (seeG y.name y.params.length g)
  rw[metG]
  refine⟨⟨H1++H2,by rw[b1,a1,aT]⟩,fun x hx=>?_,fun hh=>?_⟩
  ·rcases b2 x hx with h|h
   ·rcases a2 x h with h|h
    ·exact .inl h
    ·exact .inr (by simp[h])
   ·exact .inr (by rw[ba];exact ec _ h)
  ·obtain⟨c1,c2⟩:=b3 hh
   obtain⟨d1,d2⟩:=a3 c1
   refine⟨d1,fun m hm=>?_⟩
   rcases aY.1 hm with rfl|hm
   ·rw[b1];exact II d2
   ·exact c2 m hm
def OkA(G:List (Str×Int))(a:fF)(i:Nat):Prop:= ∃h:i<G.length,a[i]? = some (G[i].2)
theorem Tl{G:List (Str×Int)}{gm:List (Str×Int)}(hg:∀s,hasM s G=true->getM 0 s gm=idxG s (G.map (·.1)) 0){a:fF}{s:Str}{n:Int}(hl:a.length=G.length)(ht:Told G s n):
  OkA G (a.set (getM 0 s gm).toNat n) (getM 0 s gm).toNat /\ ∀i,OkA G a i->OkA G (a.set (getM 0 s gm).toNat n) i:=by
 obtain⟨h1,h2⟩:=ht
 obtain⟨j,hj,e1,e2⟩:=Ms s G 0 h1
 have e3:(getM 0 s gm).toNat=j:=by rw[hg s h1,e1];omega
 rw[e3]
 have key:OkA G (a.set j n) j:=⟨hj,by rw[dB];simp[hl,hj,e2,h2]⟩
 refine⟨key,fun i ⟨hi,hh⟩=>?_⟩
 by_cases e:j=i
 ·rw[<-e];exact key
 ·exact⟨hi,by rw[dB,aN e];exact hh⟩
section
variable {G gm:List (Str×Int)}(hg:∀s,hasM s G=true->getM 0 s gm=idxG s (G.map (·.1)) 0)
include hg
mutual
theorem PF: ∀(e:aB) (a:fF),a.length=G.length->AllX (P4 G) e->(∀i,OkA G a i->OkA G (argE gm e a) i) /\ ∀s∈callsL (allE e),OkA G (argE gm e a) (getM 0 s gm).toNat
 | .mk o n t k,a,hl,h=>by
  rw[AllX]at h
  rw[argE,allE]
  by_cases h5:o=5
  ·rw[aS h5]
   obtain⟨s1,s2⟩:=Tl hg hl (h.1 h5)
   obtain⟨b1,b2⟩:=MZ k (a.set (getM 0 t gm).toNat k.length) (by rw[ce];exact hl) h.2
   have hc:callsL (aB.mk o n t k::Bg k)=t::callsL (Bg k):=by unfold callsL;rw[cu,aS (show decide ((aB.mk o n t k).op=5)=true from aX h5)];rfl
   rw[hc]
   refine⟨fun i hi=>b1 i (s2 i hi),fun s hs=>?_⟩
   rcases aY.1 hs with rfl|hs
   ·exact b1 _ s1
   ·exact b2 s hs
  ·rw[aN h5]
   have hc:callsL (aB.mk o n t k::Bg k)=callsL (Bg k):=by unfold callsL;rw[cu,aN (show ¬decide ((aB.mk o n t k).op=5)=true from fun h=>h5 (cx h))]
   rw[hc]
   exact MZ k a hl h.2
theorem MZ: ∀(l:List aB) (a:fF),a.length=G.length->Eg (P4 G) l->(∀i,OkA G a i->OkA G (EW gm l a) i) /\ ∀s∈callsL (Bg l),OkA G (EW gm l a) (getM 0 s gm).toNat
 |[],a,hl,h=>by rw[EW,Bg];exact⟨fun _ h=>h,fun s hs=>by cases hs⟩
 |x::r,a,hl,h=>by
  rw[Eg]at h
  obtain⟨a1,a2⟩:=PF x a hl h.1
  obtain⟨b1,b2⟩:=MZ r (argE gm x a) (by rw[Dt];exact hl) h.2
  have hc:callsL (allE x++Bg r)=callsL (allE x)++callsL (Bg r):=by unfold callsL;rw[bW,bI]
  rw[EW,Bg,hc]
  refine⟨fun i hi=>b1 i (a1 i hi),fun s hs=>?_⟩
  rcases bk.1 hs with hs|hs
  ·exact b1 _ (a2 s hs)
  ·exact b2 s hs
end
theorem Wl: ∀(l:List aE) (a:fF),a.length=G.length->(∀m∈l,Told G m.name m.params.length/\AllX (P4 G) m.body)->(∀i,OkA G a i->OkA G (argM gm l a) i) /\ ∀m∈l,OkA G (argM gm l a) (getM 0 m.name gm).toNat /\ ∀s∈callsL (allE m.body),OkA G (argM gm l a) (getM 0 s gm).toNat
 |[],a,hl,h=>by rw[argM];exact⟨fun _ h=>h,fun m hm=>by cases hm⟩
 |x::r,a,hl,h=>by
  obtain⟨t1,t2⟩:=h x (by simp)
  obtain⟨s1,s2⟩:=Tl hg hl t1
  obtain⟨a1,a2⟩:=PF hg x.body (a.set (getM 0 x.name gm).toNat x.params.length) (by rw[ce];exact hl) t2
  obtain⟨b1,b2⟩:=Wl r (argE gm x.body (a.set (getM 0 x.name gm).toNat x.params.length)) (by rw[Dt,ce];exact hl) fun m hm=>h m (by simp[hm])
  rw[argM]
  refine⟨fun i hi=>b1 i (a1 i (s2 i hi)),fun m hm=>?_⟩
  rcases aY.1 hm with rfl|hm
  ·exact⟨b1 _ (a1 _ s1),fun s hs=>b1 _ (a2 s hs)⟩
  ·exact b2 m hm
end
theorem HN: ∀(l:List aE) (e:aB) (s:Str),s∈callsL (Bg (l.map (·.body)++[e]))->(∃m∈l,s∈callsL (allE m.body))\/s∈callsL (allE e)
 |[],e,s,h=>by
  rw[bJ,br,Bg,Bg,bb]at h
  exact .inr h
 | m::r,e,s,h=>by
  rw[ba,bl,Bg]at h
  have hc:callsL (allE m.body++Bg (r.map (·.body)++[e]))=callsL (allE m.body)++callsL (Bg (r.map (·.body)++[e])):=by unfold callsL;rw[bW,bI]
  rw[hc]at h
  rcases bk.1 h with h|h
  ·exact .inl ⟨m,by simp,h⟩
  ·rcases HN r e s h with⟨m',h1,h2⟩|h
   ·exact .inl ⟨m',by simp[h1],h2⟩
   ·exact .inr h
theorem args_R{f:aF}(hG:(BM f).2=true):H3 (AC f) f=(BM f).1.map (·.2):=by
 obtain⟨g1,g2,g3⟩:=DW f
 obtain⟨⟨H1,a1⟩,a2,a3⟩:=ND f.methods ([],true)
 obtain⟨⟨H2,b1⟩,b2,b3⟩:=Gk (BN f) (metG f.methods ([],true))
 have eG:CM (BN f) (metG f.methods ([],true))=BM f:=rfl
 rw[eG]at b1 b2 b3
 obtain⟨c1,c2⟩:=b3 hG
 obtain⟨_,c3⟩:=a3 c1
 have fK:=Kv _ c2
 generalize go:(BM f).1=G at*
 have hk:G.map (·.1)=gensN f:=by rw[<-go];rfl
 have hg:∀s,hasM s G=true->getM 0 s (AC f)=idxG s (G.map (·.1)) 0:=fun s hs=>by
  rw[hk]
  exact DV s (gensN f) 0 [] g1 (by rw[<-hk];exact(Fd _ _).1 hs)
 have hlen:(AC f).length=G.length:=by rw[IR,<-hk,aZ]
 have hM:∀m∈f.methods,Told G m.name m.params.length/\AllX (P4 G) m.body:=fun m hm=>⟨by rw[b1];exact II (c3 m hm),fK _ (by unfold BN;exact cY _ (dq hm))⟩
 obtain⟨d1,d2⟩:=Wl hg f.methods (List.replicate (AC f).length 0) (by rw[bu,hlen]) hM
 have f7:(argM (AC f) f.methods (List.replicate (AC f).length 0)).length=G.length:=by rw[IZ,bu,hlen]
 obtain⟨e1,e2⟩:=PF hg f.main _ f7 (fK f.main (by unfold BN;simp))
 have hl:(H3 (AC f) f).length=G.length:=by unfold H3;rw[Dt];exact f7
 refine dN fun i=>?_
 by_cases hi:i<G.length
 ·have hx:(G[i]).1∈G.map (·.1):=dq (aJ hi)
  have d6:OkA G (H3 (AC f) f) (getM 0 (G[i]).1 (AC f)).toNat:=by
   unfold H3
   rcases b2 _ hx with h|h
   ·rcases a2 _ h with h|h
    ·cases h
    ·obtain⟨m,h1,h2⟩:=bO.1 h
     rw[<-h2]
     exact e1 _ (d2 m h1).1
   ·rcases HN f.methods f.main _ h with⟨m,h1,h2⟩|h
    ·exact e1 _ ((d2 m h1).2 _ h2)
    ·exact e2 _ h
  have fJ:(G.map (·.1)).Nodup:=by rw[hk];exact g1
  have gg:(getM 0 (G[i]).1 (AC f)).toNat=i:=by
   rw[hg _ ((Fd _ _).2 hx)]
   have hs:G.map (·.1)=(G.take i).map (·.1)++(G[i]).1::(G.drop (i+1)).map (·.1):=by
    rw[<-ba,<-bI];simp
   rw[hs]at fJ⊢
   rw[Mt _ _ _ 0 (fun hm=>by
    rw[dL]at fJ
    exact fJ.2.2 _ hm _ (by simp) rfl)]
   rw[aZ,cj];omega
  rw[gg]at d6
  obtain⟨_,h⟩:=d6
  rw[h,bD,aM hi];rfl
 ·rw[bQ (by omega),bQ (by rw[aZ];omega)]
theorem XJ{f:aF}(hf:Gy f=true):OU f=Av f:=by
 have h:=fok_of hf
 obtain⟨m1,m2⟩:=Yd h f.methods 0 fun m hm=>hm
 have hC:=OZ h f.aa [] rfl
 have hA:=args_R h.gen
 obtain⟨g1,g2,g3⟩:=DW f
 have hE:=fun k=>R0 h f.main 1 (fun _=>0) [] k ((IY f.main 1 120 (by omega)).1.1 h.mainC).1 (PX h.mainS) g3 (fun y=>rfl)
 unfold OU Av
 rw[<-m1,<-m2,<-hA,<-hE]
 have hC:GH f f.aa 0=f.aa.map (Ih (BB f) (BD f)):=hC
 rw[hC];rfl
end Go.DL
namespace Go.DL
open Go.Proofs.Tryz
open Go Go.Proofs
set_option maxHeartbeats 8000000
mutual
theorem Fact.beq_self: ∀f:Fact,f.beq f=true
 |.mk o a p c n k=>by rw[Fact.beq_eq];simp only[Fact.ah];rw[Fact.beqs_self k];simp
theorem Fact.beqs_self: ∀l:List Fact,Fact.beqs l l=true
 |[]=>rfl
 |x::r=>by rw[Fact.beqs,Fact.beq_self x,Fact.beqs_self r];rfl
end
theorem HQ{α:Type}{f:α->α->Bool}(h:∀x,f x x=true): ∀l:List α,all2 f l l=true
 |[]=>by rw[J0]
 |x::r=>by rw[all2,h,HQ h r];rfl
theorem sameB_self(p:aw):Hl p p=true:=by
 unfold Hl Rt
 rw[HQ (fun x=>by simp[eqC]),HQ (fun x=>by simp[eqM,Fact.beq_self]),HQ (fun x=>by simp[eqN])]
 simp
mutual
theorem Wh(cm sm:List (Str×Int))(env:Str->Int): ∀x:aC,(bndF cm sm env x).wt<=x.wt
 |.mk o s p c n k=>by
  rw[bndF,Fact.wt_eq,aC.wt_eq]
  have:=QY cm sm env k
  have h2:=Bb p
  simp only[Fact.path,Fact.ah,aC.name,aC.path,aC.cls,aC.ah,aZ]
  omega
theorem QY(cm sm:List (Str×Int))(env:Str->Int): ∀l:List aC,wtL Fact.wt (HP cm sm env l)<=wtL aC.wt l
 |[]=>by rw[HP,wtL,wtL];omega
 |x::r=>by
  have h1:=Wh cm sm env x
  have h2:=QY cm sm env r
  rw[HP,wtL,wtL];omega
end
theorem Ji: ∀(l:List aB) (k:Nat),(CW l k).length=l.length
 |[],_=>rfl
 |x::r,k=>by rw[CW,aP,Ji r,aP]
mutual
theorem PC(cm sm gm:List (Str×Int)): ∀(e:aB) (env:Str->Int) (size:Int) (k:Nat),wtL aA.wt (bndE cm sm gm e env size k)+1<=2*e.wt
 |.mk o n t l,env,size,k=>by
  rw[bndE,wtL,aB.wt_eq]
  have:=QZ cm sm gm o t l 0 env size (k+1)
  simp only[aA.wt,Ji,aB.text,aB.ah]
  omega
theorem QZ(cm sm gm:List (Str×Int))(o:Int)(t:Str): ∀(l:List aB) (i:Nat) (env:Str->Int) (size:Int) (k:Nat),wtL aA.wt (GA cm sm gm o t l i env size k)+l.length<=2*wtL aB.wt l
 |[],_,_,_,_=>by rw[GA,wtL,wtL];simp
 |x::r,i,env,size,k=>by
  have h2:=QZ cm sm gm o t r (i+1) env size (k+x.cnt)
  have h1:wtL aA.wt (if o=9/\i=1 then bndE cm sm gm x (updE env t size) (size+1) k else bndE cm sm gm x env size k)+1<=2*x.wt:=by split<;>exact PC cm sm gm x _ _ _
  rw[GA,GI,wtL,aP];omega
end
theorem Wf(cm sm gm:List (Str×Int)): ∀(l:List aE) (k:Nat),wtL ay.wt (bndMM cm sm gm l k)<=wtL aE.wt l/\wtL aA.wt (HO cm sm gm l k)<=2*wtL aE.wt l
 |[],_=>by rw[bndMM,HO];simp[wtL]
 |m::r,k=>by
  obtain⟨h1,h2⟩:=Wf cm sm gm r (k+m.body.cnt)
  have h3:=Wh cm sm (EH m) m.fact
  have h4:=PC cm sm gm m.body (EH m) m.params.length k
  have e1:aE.wt m=1+m.name.length+wtS m.params+m.fact.wt+m.body.wt:=rfl
  have e2:ay.wt ⟨m.kind,getM 0 m.name gm,bndF cm sm (EH m) m.fact,(k:Int)⟩=1+(bndF cm sm (EH m) m.fact).wt:=rfl
  rw[bndMM,HO,wtL,wtL,GI,e1,e2]
  omega
theorem R3(cm sm:List (Str×Int)): ∀l:List aD,wtL ax.wt (l.map (Ih cm sm))<=wtL aD.wt l
 |[]=>by simp[wtL]
 |c::r=>by
  have:=R3 cm sm r
  have h1:=Bb c.ag
  have h2:=Bb c.ae
  have h3:=DH aG.wt (fun x=>by unfold aG.wt;omega) c.ai
  have e1:aD.wt c=1+c.name.length+wtS c.ag+wtS c.ae+wtL aG.wt c.ai:=rfl
  have e2:ax.wt (Ih cm sm c)=1+c.ag.length+c.ae.length+c.ai.length:=by unfold ax.wt Ih;simp only[aZ]
  rw[ba,wtL,wtL,e1,e2]
  omega
mutual
theorem Fact.beq_iff: ∀(f g:Fact),f.beq g=true ↔ f=g
 | .mk o a p c n k, .mk o' a' p' c' n' k'=>by
  rw[Fact.beq_eq]
  have e:((decide (o=o')&&decide (a=a')&&decide (c=c')&&decide (n=n')&&(p==p')&&decide (k.length=k'.length)&&Fact.beqs k k')=true) ↔ Fact.mk o a p c n k=.mk o' a' p' c' n' k':=by
   simp only[aI,aL,cp,Fact.mk.injEq]
   constructor
   ·rintro⟨⟨⟨⟨⟨⟨h1,h2⟩,h3⟩,h4⟩,h5⟩,hl⟩,hk⟩
    exact⟨h1,h2,h5,h3,h4,(Fact.beqs_iff k k' hl).1 hk⟩
   ·rintro⟨h1,h2,h5,h3,h4,hk⟩
    exact⟨⟨⟨⟨⟨⟨h1,h2⟩,h3⟩,h4⟩,h5⟩,by rw[hk]⟩,(Fact.beqs_iff k k' (by rw[hk])).2 hk⟩
  exact e
theorem Fact.beqs_iff: ∀(l m:List Fact),l.length=m.length->(Fact.beqs l m=true ↔ l=m)
 |[],[],_=>by simp[Fact.beqs]
 |[],_::_,h=>by simp at h
 |_::_,[],h=>by simp at h
 |x::r,y::s,h=>by
  rw[Fact.beqs,aI,Fact.beq_iff x y,Fact.beqs_iff r s (by simpa using h),cD]
end
theorem IW{α:Type}{eq:α->α->Bool}(h:∀x y,eq x y=true ↔ x=y): ∀a b:List α,eqFn eq a b=true ↔ a=b
 |[],[]=>by simp[eqFn]
 |[],_::_=>by simp[eqFn]
 |_::_,[]=>by simp[eqFn]
 |x::r,y::s=>by rw[eqFn,aI,h,IW h r s,cD]
theorem J1{α:Type}{eq:α->α->Bool}(h:∀x y,eq x y=true ↔ x=y): ∀a b:List α,a.length=b.length->(all2 eq a b=true ↔ a=b)
 |[],[],_=>by simp[all2]
 |[],_::_,hl=>by simp at hl
 |_::_,[],hl=>by simp at hl
 |x::r,y::s,hl=>by rw[all2,aI,h,J1 h r s (by simpa using hl),cD]
theorem R5(x y:ay):x.beq y=true ↔ x=y:=by
 obtain⟨a,b,c,d⟩:=x
 obtain⟨a',b',c',d'⟩:=y
 unfold ay.beq
 simp only[aI,aL,Fact.beq_iff,ay.mk.injEq]
 constructor
 ·rintro⟨⟨⟨h1,h2⟩,h3⟩,h4⟩;exact⟨h1,h2,h4,h3⟩
 ·rintro⟨h1,h2,h4,h3⟩;exact⟨⟨⟨h1,h2⟩,h3⟩,h4⟩
theorem aw.beq_iff(p q:aw):p.beq q=true ↔ p=q:=by
 obtain⟨a,b,c,d,e,f⟩:=p
 obtain⟨a',b',c',d',e',f'⟩:=q
 unfold aw.beq
 simp only[aI,aL,aw.mk.injEq]
 rw[IW (fun x y=>by unfold ax.beq;exact decide_eq_true_iff),IW R5,IW (fun x y=>by unfold aA.beq;exact decide_eq_true_iff)]
 constructor
 ·rintro⟨⟨⟨⟨⟨h1,h2⟩,h3⟩,h4⟩,h5⟩,h6⟩;exact⟨h1,h4,h5,h2,h3,h6⟩
 ·rintro⟨h1,h4,h5,h2,h3,h6⟩;exact⟨⟨⟨⟨⟨h1,h2⟩,h3⟩,h4⟩,h5⟩,h6⟩
theorem T4(p q:aw):Hl p q=true ↔ p=q:=by
 constructor
 ·intro h
  obtain⟨a,b,c,d,e,f⟩:=p
  obtain⟨a',b',c',d',e',f'⟩:=q
  unfold Hl Rt at h
  simp only[aI,aL,cp]at h
  obtain⟨⟨⟨⟨⟨⟨⟨⟨h1,h2⟩,h3⟩,h4⟩,h5⟩,h6⟩,h7⟩,h8⟩,h9⟩:=h
  have k1:=(J1 (eq:=eqC) (fun x y=>by
   obtain⟨u,v,w⟩:=x
   obtain⟨u',v',w'⟩:=y
   unfold eqC;simp only[aI,aL,cp,ax.mk.injEq,and_assoc]) a a' h4).1 h7
  have k2:=(J1 (eq:=eqM) (fun x y=>by
   rw[<-R5];rfl) d d' h5).1 h8
  have k3:=(J1 (eq:=eqN) (fun x y=>by
   obtain⟨u,v,w⟩:=x
   obtain⟨u',v',w'⟩:=y
   unfold eqN;simp only[aI,aL,cp,aA.mk.injEq,and_assoc]) e e' h6).1 h9
  rw[k1,k2,k3,h1,h2,h3]
 ·rintro rfl;exact sameB_self p
theorem XO(p q:aw):p.beq q=Hl p q:=by rw[aO,aw.beq_iff,T4]
def Fb(p:aw):Bool:=okP p&&((BG (Ba p)).isSome&&Hl (Av (Ba p)) p)
theorem QX{f:aF}:(Av f).wt<=4*f.wt+10:=by
 have h1:=R3 (BB f) (BD f) f.aa
 obtain⟨h2,h3⟩:=Wf (BB f) (BD f) (AC f) f.methods 0
 have h4:=PC (BB f) (BD f) (AC f) f.main (fun _=>0) 0 (HO (BB f) (BD f) (AC f) f.methods 0).length
 have h5:(H3 (AC f) f).length<=f.wt:=by
  unfold H3
  rw[Dt,IZ,bu,IR]
  have:=FU f
  unfold gensN;rw[aZ];exact this
 unfold aw.wt Av
 simp only[GI]
 unfold aF.wt at*
 omega
theorem Xo(p:aw)(V:Sig)(hw:p.wt<=1048576):au prog 35 [.agg (Ai p)] V (rS (.tup [.bool (Fb p),dI (if okP p then 0 else 2)]) V):=by
 have i20:∀V:Sig,Ans 20 [.agg (Ai p)] V True (.tup [.agg (Bd (Ic p)),dI (Ff p)]):=fun V=>ah0 (MJ p V (by omega))
 cases d6:okP p with
 |false=>
  have hE:Ff p=2:=by unfold Ff;rw[d6];rfl
  have hi:Fb p=false:=by unfold Fb;rw[d6];rfl
  rw[hi]
  refine en func35 ntmps35 ?_
  refine gf hE ?_ o35
  exact fin2 (S':=V) ⟨rfl,rfl⟩
 | true =>
  have ga:=Md d6
  cases hs:(BG (Ba p)).isSome with
  |false=>
   have hE:Ff p=3:=by unfold Ff;rw[d6,hs];rfl
   have hi:Fb p=false:=by unfold Fb;rw[d6,hs];rfl
   rw[hi]
   refine en func35 ntmps35 ?_
   refine gf hE ?_ o35
   exact fin2 (S':=V) ⟨rfl,rfl⟩
  |true=>
   have hE:Ff p=0:=by unfold Ff;rw[d6,hs];rfl
   have hP:Ic p=Ba p:=by unfold Ic;rw[hE];rfl
   have gk:=QX (f:=Ba p)
   have hi:Fb p=(Av (Ba p)).beq p:=by unfold Fb;rw[d6,hs,XO];rfl
   rw[hi]
   have i48:∀V:Sig,Ans 48 [.agg (Bd (Ba p))] V True (.agg (Ai (Av (Ba p)))):=fun V=>ah0 (Qx (Ba p) V (by omega) hs)
   have i68:∀V:Sig,Ans 68 [.agg (Ai (Av (Ba p))),.agg (Ai p)] V True (.bool ((Av (Ba p)).beq p)):=fun V=>ah0 (X9 _ p V (by omega) (by omega))
   generalize Ba p=q at*
   refine en func35 ntmps35 ?_
   refine gf (gi hE hP) ?_
   refine mixL (id:=6) [0,2,1,3,4] [1,3] ?_
   refine gz ?_ o35
   exact fin2 (S':=V) ⟨rfl,rfl⟩
theorem X8(p:aw)(V:Sig)(hw:p.wt<=1048576)(d6:okP p=true):au prog 69 [.agg (Ai p)] V (rS (.bool (Fb p)) V):=by
 have fM:=sp_ok (p:=p) (by omega) d6
 have ga:=Md d6
 obtain⟨b1,b2,b3,b4⟩:=Rl d6
 have i57:∀V:Sig,Ans 57 [.agg (Ai p)] V True (.agg (Bd (Ba p))):=fun V=>ah0 (Xe p V fM b1 b2 (by omega) (by omega))
 have i52:∀V:Sig,Ans 52 [.agg (Bd (Ba p))] V True (.bool (BG (Ba p)).isSome):=fun V=>ah0 (by rw[<-Tc];exact Ub (Ba p) V (by omega))
 cases hs:(BG (Ba p)).isSome with
 |false=>
  have hi:Fb p=false:=by unfold Fb;rw[d6,hs];rfl
  rw[hi]
  generalize Ba p=q at*
  refine en func69 ntmps69 ?_
  refine gz ?_
  refine mixL (id:=2) [0,1,2,3,5,4,6,7] [1,4,6] ?_
  refine gf hs ?_ o69
  exact fin1 (S':=V) ⟨rfl,rfl⟩
 |true=>
  have gb:Gy (Ba p)=true:=by rw[Tc];exact hs
  have gk:=QX (f:=Ba p)
  have i53:∀V:Sig,Ans 53 [.agg (Bd (Ba p))] V True (.agg (Ai (Av (Ba p)))):=fun V=>ah0 (by rw[<-XJ gb];exact Ua (Ba p) V (by omega))
  have i19:∀V:Sig,Ans 19 [.agg (Ai (Av (Ba p))),.agg (Ai p)] V True (.bool (Hl (Av (Ba p)) p)):=fun V=>ah0 (MK _ p V (by omega) (by omega))
  have hi:Fb p=Hl (Av (Ba p)) p:=by unfold Fb;rw[d6,hs];rfl
  rw[hi]
  generalize Ba p=q at*
  refine en func69 ntmps69 ?_
  refine gz ?_
  refine mixL (id:=2) [0,1,2,3,5,4,6,7] [1,4,6] ?_
  refine gf hs ?_ o69
  exact fin1 (S':=V) ⟨rfl,rfl⟩
theorem Xn(p:aw)(V:Sig)(hw:p.wt<=1048576):au prog 36 [.agg (Ai p)] V (rS (.tup [.bool (Fb p),dI (if okP p then 0 else 2)]) V):=by
 have fW:(F8 p).isSome=okP p:=by rw[<-Qf p];rfl
 have gr:∀V:Sig,Ans 28 [.agg (Ai p)] V True (.bool (okP p)):=fun V=>ah0 (by rw[<-fW];exact QC p V (by omega))
 cases d6:okP p with
 |false=>
  have hi:Fb p=false:=by unfold Fb;rw[d6];rfl
  rw[hi]
  refine en func36 ntmps36 ?_
  refine gf d6 ?_
  exact fin2 (S':=V) ⟨rfl,rfl⟩
 |true=>
  have i69:∀V:Sig,Ans 69 [.agg (Ai p)] V True (.bool (Fb p)):=fun V=>ah0 (X8 p V hw d6)
  refine en func36 ntmps36 ?_
  refine gf d6 ?_
  exact fin2 (S':=V) ⟨rfl,rfl⟩
def worP(p:aw):World:=if okP p then AK p else⟨[],[]⟩
theorem Xm(p:aw)(V:Sig)(hp:p.wt<=1048576):au prog 38 [.agg (Ai p)] V (rS (.tup [.agg (C8 (worP p)),dI (if okP p then 0 else 2)]) V):=by
 obtain⟨p1,p2,p3,p4,p5,p6,p7⟩:=p.wt_le
 have fW:(F8 p).isSome=okP p:=by rw[<-Qf p];rfl
 have gr:∀V:Sig,Ans 28 [.agg (Ai p)] V True (.bool (okP p)):=fun V=>ah0 (by rw[<-fW];exact QC p V (by omega))
 unfold worP
 refine en func38 ntmps38 ?_
 refine gz ?_ [] [2]
 refine newV (fun i hi=>?_)
 cases hh:okP p with
 |false=>
  refine gf hh ?_ [] [2]
  refine finC (S':=V) (d:=.tup [.agg (C8 ⟨[],[]⟩),dI 2]) ⟨rfl,rfl⟩ (hw:=?_)
  exact GK ⟨PM ⟨Am _ (.inl rfl),Am _ (.inl rfl),trivial⟩,A9 _,trivial⟩
 | true =>
  have hW:=M1 (by omega:p.wt<=1073741824) (E8 hh)
  have gA:(ownersF p.aa 0).length<=40:=hW.few
  have fX:∀c∈p.aa,c.ag.length<=1073741824/\c.ae.length<=1073741824:=fun c hc=>by
   obtain⟨k,hk,rfl⟩:=bh hc
   have:=p5 k hk
   unfold ax.wt at this;omega
  have gx:∀c∈p.aa,c.ag.length<=1073741824:=fun c hc=>(fX c hc).1
  have gw:∀c∈p.aa,c.ae.length<=1073741824:=fun c hc=>(fX c hc).2
  refine gf hh ?_ [] [2]
  refine finC (S':=V) (d:=.tup [.agg (C8 (AK p)),dI 0]) ⟨rfl,rfl⟩
theorem f8_spec(p:aw)(V:Sig)(hp:p.wt<=1048576):au prog 8 [.agg (Ai p)] V (rS (.bool true) V):=by
 have hw:(worP p).ag.length<=1073741824/\(∀l∈(worP p).ag,l.length<=1073741824)/\(worP p).owner.length<=1073741824:=by
  unfold worP
  cases hh:okP p with
  |false=>simp
  |true=>
   have hW:=M1 (by omega:p.wt<=1073741824) (E8 hh)
   have hf:=hW.few
   have hl:=hW.len
   obtain⟨p1,_⟩:=p.wt_le
   rw[aS rfl]
   exact⟨by unfold AK;simp only[aZ];omega,hl,by omega⟩
 obtain⟨w1,w2,w3⟩:=hw
 have i35:∀V:Sig,Ans 35 [.agg (Ai p)] V True (.tup [.bool (Fb p),dI (if okP p then 0 else 2)]):=fun V=>ah0 (Xo p V hp)
 have i36:∀V:Sig,Ans 36 [.agg (Ai p)] V True (.tup [.bool (Fb p),dI (if okP p then 0 else 2)]):=fun V=>ah0 (Xn p V hp)
 have i37:∀V:Sig,Ans 37 [.agg (Ai p)] V True (.tup [.agg (C8 (worP p)),dI (if okP p then 0 else 2)]):=fun V=>ah0 (MH p V (by omega))
 have i38:∀V:Sig,Ans 38 [.agg (Ai p)] V True (.tup [.agg (C8 (worP p)),dI (if okP p then 0 else 2)]):=fun V=>ah0 (Xm p V hp)
 have i39:∀V:Sig,Ans 39 [.agg (C8 (worP p)),.agg (C8 (worP p))] V True (.bool true):=fun V=>ah0 (by
  have:=Xl (worP p) (worP p) V w1 w2 w3
  simpa using this)
 have gC:=fun (V:Sig)=>QF V
 generalize Fb p=b at*
 generalize worP p=w at*
 generalize (if okP p=true then(0:Int) else 2)=e at*
 refine en func8 ntmps8 ?_
 refine gz ?_
 exact fin1 (S':=V) ⟨rfl,rfl⟩
end Go.DL
namespace Go.DL
open Go.Proofs.Tryz
open Go Go.Proofs
open Go.Proofs.YtlfimpogphmbdaaGreat.Rows (uptoBulk uptoBulkAll)
def g0(W:Go.World):G:={ imm:=fun b o=>W.cell? ⟨b,o,none⟩,rho:=fun _=>none,hist:=fun _ _=>none,keep:=fun k=>W.heap[k]?, io:=(W.os,W.output) }
theorem sim0(P:Program)(W:Go.World):Sim P (g0 W) (fun _=>none) W where
 imm:=fun _ _ _ h=>h
 keep:=fun _ _ h=>h
 obj:=fun _ _ h=>by cases h
 inj:=fun _ _ _ h=>by cases h
 free:=fun _ _ h=>by cases h
 htop:=fun _ _ _ _ h=>by cases h
 hdom:=fun _ _ _ h=>by cases h
 fin:=⟨0,fun _ _=>rfl⟩
 io:=rfl
theorem Kj{α:Type}{p:Nat->α->Prop}: ∀n,(∀i,i<n->∃a,p i a)->∃l:List α,l.length=n /\ ∀i a,l[i]? = some a->p i a
 |0,_=>⟨[],rfl,fun i a h=>by simp at h⟩
 | n+1,h=>by
  obtain⟨l,hl,hp⟩:=Kj n fun i hi=>h i (by omega)
  obtain⟨a,ha⟩:=h n (by omega)
  refine⟨l++[a],by simp[hl],fun i b hb=>?_⟩
  by_cases hi:i<n
  ·rw[bx (by omega)]at hb;exact hp i b hb
  ·rw[bR (by omega)]at hb
   have h0:i-l.length=0:=by
    rcases Nat.eq_zero_or_pos (i-l.length)with h|h
    ·exact h
    ·rw[bQ (by simp;omega)]at hb;cases hb
   rw[h0]at hb
   simp at hb
   rw[show i=n by omega,<-hb];exact ha
theorem T8{g:G}{b:Nat}: ∀{ds:fE}{vs:List Value}{o:Nat},RepL g ds vs->(∀j v,vs[j]? = some v->g.imm b (o+j)=some v)->RepI g b o ds
 |[],_,_,_,_=>trivial
 |d::ds,_,o,⟨v,r,e,h1,h2⟩,hi=>by
  subst e
  exact⟨⟨v,hi 0 v rfl,h1⟩,T8 h2 fun j x hx=>by rw[ci,fg 1 j];exact hi (j+1) x hx⟩
theorem T9{g:G}{b sz:Nat}: ∀{l:fH}{o:Nat},(∀i e,l[i]? = some e->e.length=sz/\RepI g b (o+i*sz) e)->RepE g b sz o l
 |[],_,_=>trivial
 |e::l,o,h=>⟨by simpa using h 0 e rfl,T9 fun i x hx=>by
  have:=h (i+1) x hx
  rw[co,ew,fg (i*sz),<-ci]at this;exact this⟩
theorem XS{α H:Type}{wt:α->Nat}: ∀{l:List α}{xs:List (DataW H)},l.length=xs.length->(∀(i:Nat) a x,l[i]? = some a->xs[i]? = some x->wt a<=uptoBulk x)->wtL wt l<=uptoBulkAll xs
 |[],[],_,_=>eR _
 |a::l,x::xs,h,hp=>by
  have h1:=hp 0 a x rfl rfl
  have h2:=XS (l:=l) (xs:=xs) (by simpa using h) fun i b y hb hy=>hp (i+1) b y hb hy
  simp only[wtL,uptoBulkAll];omega
section
variable {H:Type}{enc:TypeId×Value->H}{W:Go.World}
noncomputable abbrev rd(enc:TypeId×Value->H)(W:Go.World)(n t:Nat)(cs:List Value):Option (DataW H×List MemPlace):=DataW.trod enc prog W 0 (fun _=>true) true n t cs
def Dec(enc:TypeId×Value->H)(W:Go.World){α:Type}(n t:Nat)(c:α->fE)(wt:α->Nat):Prop:= ∀cs x,rd enc W n t cs=some x->∃a,RepL (g0 W) (c a) cs/\wt a<=uptoBulk x.1
theorem Df{t n:Nat}(ht:prog.underlying t=some (.int .i64)):Dec enc W n t (fun k:Int=>[dI k]) (fun _=>1):=fun cs x h=>by
 obtain⟨k,rfl,rfl,_⟩:=DataW.trod_int ht h
 exact⟨k,⟨_,[],rfl,rfl,rfl⟩,by simp[uptoBulk]⟩
theorem ES{α:Type}{t e sz n:Nat}{c:α->fE}{wt:α->Nat}(ht:prog.underlying t=some (.slice e))(hz:prog.cellsOf e=sz)(gc:0<sz)(hc:∀a,(c a).length=sz)(hd:∀m,m<n->Dec enc W m e c wt):
  Dec enc W n t (fun l:List α=>[sl (l.map c)]) (fun l=>1+wtL wt l):=fun cs x h=>by
 rcases DataW.trod_slice ht h with⟨rfl,rfl⟩|⟨a,len,cap,elems,rest,m,rfl,rfl,rfl,hb,hl,hm,hlen,gj, -, -⟩
 ·exact⟨[],⟨_,[],rfl,⟨Option.none,0,rfl,by simp,.inl rfl,trivial⟩,rfl⟩,by simp[uptoBulk,wtL]⟩
 ·have key:∀i,i<len->∃b:α, ∃y vs,elems[i]? = some y/\W.cells? 0 (a.add (i*sz)) sz=some vs/\RepL (g0 W) (c b) vs/\wt b<=uptoBulk y.1:=fun i hi=>by
   have h1:=gj i hi
   rw[hz,aM (by omega)]at h1
   obtain⟨vs,h2,h3⟩:=Option.bind_eq_some_iff.1 h1
   obtain⟨b,h4,h5⟩:=hd m (by omega) vs _ h3
   exact⟨b,_,vs,aM (by omega),h2,h4,h5⟩
  obtain⟨l,fQ,hp⟩:=Kj len key
  refine⟨l,⟨_,[],rfl,⟨some a,cap,by simp[fQ],by simpa[fQ] using hl,?_,trivial⟩,rfl⟩,?_⟩
  ·cases fP:l with
   |nil=>exact .inl rfl
   | cons b0 l' =>
    rw[<-fP]
    have gB:0<len:=by rw[<-fQ,fP];simp
    obtain⟨y,vs,k1,k2,k3,k4⟩:=hp 0 b0 (by rw[fP];rfl)
    obtain⟨_,k5,k6⟩:=World.cells?_some k2
    have fM:a.spot=none:=by
     have:=k6 0 (by omega)
     cases hs:a.spot with
     |none=>rfl
     |some q=>simp[World.cell?, Addr.add,hs]at this;split at this<;>simp_all
    obtain⟨ab,ao,asp⟩:=a
    simp only at fM
    subst fM
    refine .inr ⟨sz,ab,ao,rfl,T9 fun i e he=>?_⟩
    rw[bD]at he
    obtain⟨b,fU,rfl⟩:=cq.1 he
    obtain⟨y,vs,k1,k2,k3,k4⟩:=hp i b fU
    obtain⟨_,k5,k6⟩:=World.cells?_some k2
    refine⟨hc b,T8 k3 fun j v hv=>?_⟩
    have hj:j<sz:=by rw[<-k5];exact(bn.1 hv).1
    have:=k6 j hj
    rw[hv,Cc,Cc]at this
    exact this
  ·have:=XS (wt:=wt) (l:=l) (xs:=elems.map (·.1)) (by simp;omega) fun i b z fU fN=>by
    obtain⟨y,vs,k1,k2,k3,k4⟩:=hp i b fU
    rw[bD,k1]at fN
    simp at fN;subst fN;exact k4
   simp only[uptoBulk];omega
set_option maxRecDepth 100000
theorem EG{t n:Nat}{fs:Array Field}(ht:prog.underlying t=some (.struct fs)){cs:List Value}{x:DataW H×List MemPlace}(h:rd enc W n t cs=some x):
  ∃(xs:List (DataW H×List MemPlace)) (m:Nat),m<n/\uptoBulk x.1=uptoBulkAll (xs.map (·.1))+1/\cs.length=prog.cellsOf t/\xs.length=fs.size /\
   ∀(i:Nat) (f:Field),fs[i]? = some f->rd enc W m f.type ((cs.drop f.offset).take (prog.cellsOf f.type))=xs[i]? :=by
 obtain⟨xs,m,rfl,rfl,h1,h2,h3⟩:=DataW.trod_struct ht h
 exact⟨xs,m,by omega,by simp[uptoBulk],h1,h2,h3⟩
theorem cellsI:prog.cellsOf 3=1:=by kernel_rfl
theorem HL(n:Nat):Dec enc W n 23 (fun l:fF=>[sl (cI l)]) (fun l=>1+wtL (fun _=>1) l):=ES underlying23 cellsI (by omega) (fun _=>rfl) fun _ _=>Df underlying3
theorem N2{α:Type}: ∀l:List α,wtL (fun _=>1) l=l.length
 |[]=>rfl
 |x::l=>by rw[wtL,N2 l,aP];omega
theorem DR{m t off k:Nat}{cs cs':List Value}{o:Option (DataW H×List MemPlace)}(h:rd enc W m t ((cs.drop off).take (prog.cellsOf t))=o)(hk:prog.cellsOf t=k)(hc:(cs.drop off).take k=cs'):rd enc W m t cs'=o:=by rw[<-hc,<-hk];exact h
theorem XE(n:Nat):Dec enc W n 63 Dg (fun _=>1):=fun cs x h=>by
 obtain⟨xs,m,hm,hb,hl,hx,hf⟩:=EG underlying63 h
 rw[show prog.cellsOf 63=2 by kernel_rfl]at hl
 match cs,hl with
 | [v0,v1],_ =>
  match xs,hx with
  |[x0,x1],_=>
   obtain⟨a0,r0,w0⟩:=Df underlying3 [v0] x0 (DR (hf 0 _ rfl) cellsI rfl)
   obtain⟨a1,r1,w1⟩:=Df underlying3 [v1] x1 (DR (hf 1 _ rfl) cellsI rfl)
   refine⟨⟨a0,a1⟩,r0.append r1,?_⟩
   rw[hb];simp only[uptoBulkAll,ba,bJ];omega
theorem W1(n:Nat):Dec enc W n 51 (fun l:List Init=>[sl (l.map Dg)]) (fun l=>1+wtL (fun _=>1) l):=ES underlying51 (by kernel_rfl:prog.cellsOf 63=2) (by omega) (fun _=>rfl) fun _ _=>XE _
theorem SE(n:Nat):Dec enc W n 101 cBClass ax.wt:=fun cs x h=>by
 obtain⟨xs,m,hm,hb,hl,hx,hf⟩:=EG underlying101 h
 rw[show prog.cellsOf 101=3 by kernel_rfl]at hl
 match cs,hl with
 | [v0,v1,v2],_ =>
  match xs,hx with
  |[x0,x1,x2],_=>
   obtain⟨a0,r0,w0⟩:=HL _ [v0] x0 (DR (hf 0 _ rfl) (show prog.cellsOf 23=1 by kernel_rfl) rfl)
   obtain⟨a1,r1,w1⟩:=HL _ [v1] x1 (DR (hf 1 _ rfl) (show prog.cellsOf 23=1 by kernel_rfl) rfl)
   obtain⟨a2,r2,w2⟩:=W1 _ [v2] x2 (DR (hf 2 _ rfl) (show prog.cellsOf 51=1 by kernel_rfl) rfl)
   refine⟨⟨a0,a1,a2⟩,r0.append (r1.append r2),?_⟩
   rw[hb];clear hf hx hl;simp only[N2]at*; simp only[ax.wt,uptoBulkAll,ba,bJ];omega
theorem W3(n:Nat):Dec enc W n 104 Ab aA.wt:=fun cs x h=>by
 obtain⟨xs,m,hm,hb,hl,hx,hf⟩:=EG underlying104 h
 rw[show prog.cellsOf 104=3 by kernel_rfl]at hl
 match cs,hl with
 | [v0,v1,v2],_ =>
  match xs,hx with
  |[x0,x1,x2],_=>
   obtain⟨a0,r0,w0⟩:=Df underlying37 [v0] x0 (DR (hf 0 _ rfl) (show prog.cellsOf 37=1 by kernel_rfl) rfl)
   obtain⟨a1,r1,w1⟩:=Df underlying3 [v1] x1 (DR (hf 1 _ rfl) cellsI rfl)
   obtain⟨a2,r2,w2⟩:=HL _ [v2] x2 (DR (hf 2 _ rfl) (show prog.cellsOf 23=1 by kernel_rfl) rfl)
   refine⟨⟨a0,a1,a2⟩,r0.append (r1.append r2),?_⟩
   rw[hb];clear hf hx hl;simp only[N2]at*; simp only[aA.wt,uptoBulkAll,ba,bJ];omega
theorem XF: ∀n:Nat,Dec enc W n 96 AS Fact.wt:=fun n=>by
 induction n using Nat.strongRecOn with
 |ind n ih=>
 intro cs x h
 obtain⟨xs,m,hm,hb,hl,hx,hf⟩:=EG underlying96 h
 rw[show prog.cellsOf 96=6 by kernel_rfl]at hl
 match cs,hl with
 | [v0,v1,v2,v3,v4,v5],_ =>
  match xs,hx with
  |[x0,x1,x2,x3,x4,x5],_=>
   obtain⟨a0,r0,w0⟩:=Df underlying85 [v0] x0 (DR (hf 0 _ rfl) (show prog.cellsOf 85=1 by kernel_rfl) rfl)
   obtain⟨a1,r1,w1⟩:=Df underlying3 [v1] x1 (DR (hf 1 _ rfl) cellsI rfl)
   obtain⟨a2,r2,w2⟩:=HL _ [v2] x2 (DR (hf 2 _ rfl) (show prog.cellsOf 23=1 by kernel_rfl) rfl)
   obtain⟨a3,r3,w3⟩:=Df underlying3 [v3] x3 (DR (hf 3 _ rfl) cellsI rfl)
   obtain⟨a4,r4,w4⟩:=Df underlying3 [v4] x4 (DR (hf 4 _ rfl) cellsI rfl)
   obtain⟨a5,r5,w5⟩:=(ES (c:=AS) (wt:=Fact.wt) (t:=94) (e:=96) (n:=m) underlying94 (by kernel_rfl:prog.cellsOf 96=6) (by omega) (fun f=>by cases f;rfl) fun k hk=>ih k (by omega)) [v5] x5 (DR (hf 5 _ rfl) (show prog.cellsOf 94=1 by kernel_rfl) rfl)
   refine⟨.mk a0 a1 a2 a3 a4 a5,by rw[Ds];exact r0.append (r1.append (r2.append (r3.append (r4.append r5)))),?_⟩
   rw[hb];clear hf hx hl;simp only[N2]at*; rw[Fact.wt_eq];simp only[Fact.path,Fact.ah,uptoBulkAll,ba,bJ];omega
theorem W4(n:Nat):Dec enc W n 98 Ag ay.wt:=fun cs x h=>by
 obtain⟨xs,m,hm,hb,hl,hx,hf⟩:=EG underlying98 h
 rw[show prog.cellsOf 98=9 by kernel_rfl]at hl
 match cs,hl with
 | [v0,v1,v2,v3,v4,v5,v6,v7,v8],_ =>
  match xs,hx with
  |[x0,x1,x2,x3],_=>
   obtain⟨a0,r0,w0⟩:=Df underlying84 [v0] x0 (DR (hf 0 _ rfl) (show prog.cellsOf 84=1 by kernel_rfl) rfl)
   obtain⟨a1,r1,w1⟩:=Df underlying3 [v1] x1 (DR (hf 1 _ rfl) cellsI rfl)
   obtain⟨a2,r2,w2⟩:=XF _ [v2,v3,v4,v5,v6,v7] x2 (DR (hf 2 _ rfl) (show prog.cellsOf 96=6 by kernel_rfl) rfl)
   obtain⟨a3,r3,w3⟩:=Df underlying3 [v8] x3 (DR (hf 3 _ rfl) cellsI rfl)
   refine⟨⟨a0,a1,a2,a3⟩,(r0.append r1).append r2 |>.append r3,?_⟩
   rw[hb];simp only[ay.wt,uptoBulkAll,ba,bJ];omega
theorem TN(m:ay):(Ag m).length=9:=by simp[Ag]
theorem W2(n:Nat):Dec enc W n 27 Ai aw.wt:=fun cs x h=>by
 obtain⟨xs,m,hm,hb,hl,hx,hf⟩:=EG underlying27 h
 rw[show prog.cellsOf 27=6 by kernel_rfl]at hl
 match cs,hl with
 | [v0,v1,v2,v3,v4,v5],_ =>
  match xs,hx with
  |[x0,x1,x2,x3,x4,x5],_=>
   obtain⟨a0,r0,w0⟩:=ES underlying22 (by kernel_rfl:prog.cellsOf 101=3) (by omega) (fun _=>rfl) (fun _ _=>SE _) [v0] x0 (DR (hf 0 _ rfl) (show prog.cellsOf 22=1 by kernel_rfl) rfl)
   obtain⟨a1,r1,w1⟩:=Df underlying3 [v1] x1 (DR (hf 1 _ rfl) cellsI rfl)
   obtain⟨a2,r2,w2⟩:=HL _ [v2] x2 (DR (hf 2 _ rfl) (show prog.cellsOf 23=1 by kernel_rfl) rfl)
   obtain⟨a3,r3,w3⟩:=ES underlying24 (by kernel_rfl:prog.cellsOf 98=9) (by omega) TN (fun _ _=>W4 _) [v3] x3 (DR (hf 3 _ rfl) (show prog.cellsOf 24=1 by kernel_rfl) rfl)
   obtain⟨a4,r4,w4⟩:=ES underlying25 (by kernel_rfl:prog.cellsOf 104=3) (by omega) (fun _=>rfl) (fun _ _=>W3 _) [v4] x4 (DR (hf 4 _ rfl) (show prog.cellsOf 25=1 by kernel_rfl) rfl)
   obtain⟨a5,r5,w5⟩:=Df underlying3 [v5] x5 (DR (hf 5 _ rfl) cellsI rfl)
   refine⟨⟨a0,a1,a2,a3,a4,a5⟩,r0.append (r1.append (r2.append (r3.append (r4.append r5)))),?_⟩
   rw[hb];clear hf hx hl;simp only[N2]at*; simp only[aw.wt,uptoBulkAll,ba,bJ];omega
end
end Go.DL
namespace Go.DL
open Go.Proofs.Tryz
open Go Go.Proofs Go.ChangeShapes Go.WideShapes Go.ChangeAt Go.RowKit
open Go.Proofs.YtlfimpogphmbdaaGreat.Rows (uptoBulk uptoBulkAll)
set_option maxRecDepth 100000
theorem TO{N:Nat}{us:fE}(h:au prog N us (fun _=>none) fun x _=>x=.ret (.bool true))(W:Go.World){vs:List Value}(hr:RepL (g0 W) us vs):
  Calls prog N vs.toArray W fun e W'=>e=.returned (.bool true)/\(∀(k:Nat) (o:Obj),W.heap[k]? = some o->W'.heap[k]? = some o)/\W'.os=W.os/\W'.output=W.output:=by
 refine CallsIn.calls (F:=FX prog none) (n:=0) ((h.run (g0 W) W vs (sim0 _ W) hr).mono ?_) fun k d hd=>by cases hd
 rintro e W' ⟨g',x,S',f0,hs,hE,rfl⟩
 obtain⟨v,rfl,rfl⟩:=hE
 have fR:=hs.io.trans f0.io
 simp only[g0,da]at fR
 exact⟨rfl,fun k o hk=>hs.keep k o (f0.keep k o hk),fR.1,fR.2⟩
theorem laidOut:laidOutB prog=true:=by kernel_rfl
section
variable {H:Type}{enc:TypeId×Value->H}{W W':Go.World}
theorem Hd{sp:Nat->Bool}: ∀{ts:List TypeId}{vs:List Value}{ds:List (DataW H)}{ps:List MemPlace},(∀t∈ts,prog.readableRec t=true/\t<prog.types.size)->DataW.TrodAll enc prog W 0 (fun _=>true) true ts vs ds ps->(∀p∈ps,W.sameAt W' p)->(∀p∈ps,sp p.block=true)->DataW.TrodAll enc prog W' 0 sp true ts vs ds ps
 |[],vs,ds,ps,_,h,_,_=>by
  obtain⟨rfl,rfl,rfl⟩:=trodAll_nil h
  exact h
 | t::ts,vs,ds,ps,ht,h,h1,h2=>by
  obtain⟨v,vs1,d,ds1,a,b,rfl,rfl,rfl,k1,k2⟩:=trodAll_cons h
  exact⟨a,b,WideElems.Trod_stays laidOut (ht t (by simp)).1 (ht t (by simp)).2 k1 (fun p hp=>h1 p (by simp[hp])) (fun p hp=>h2 p (by simp[hp])),
   Hd (fun t hx=>ht t (by simp[hx])) k2 (fun p hp=>h1 p (by simp[hp])) (fun p hp=>h2 p (by simp[hp])),rfl⟩
theorem same_of{p:MemPlace}(d7:∀(k:Nat) (o:Obj),W.heap[k]? = some o->W'.heap[k]? = some o)(hp:p.block<W.heap.size):W.sameAt W' p:=by
 have hk:∀b,b<W.heap.size->W'.heap[b]? = W.heap[b]? :=fun b hb=>by
  rw[bz hb];exact d7 b _ (bz hb)
 cases p with
 |cell b off=>
  show W'.cell? ⟨b,off,none⟩=W.cell? ⟨b,off,none⟩
  unfold World.cell?
  rw[hk b hp]
 |map b=>exact hk b hp
theorem kept_of{may:MemPlace->Prop}(d7:∀(k:Nat) (o:Obj),W.heap[k]? = some o->W'.heap[k]? = some o)(e9:W'.os=W.os)(d8:W'.output=W.output):W.keptBut W' may:=by
 refine⟨e9,d8,fun i hi=>?_⟩
 have h:=bz hi
 rw[h,d7 i _ h]
 cases W.heap[i]<;>simp
theorem WN{f:Func}{s:ChangeSpec}{args:Array Value}{ds gs:List (DataW H)}{before:List MemPlace}(hv:s.vars=[])(fO:f.resultTypes=#[4])(f9:∀t∈f.params.toList,prog.readableRec t=true/\t<prog.types.size)
  (hW:DataW.Whole enc prog f.params.toList s.vars false W args.toList ds gs before) (fL:s.fn H (ds++gs)={ results:=[.lit (.bool true)],args:=ds })
  (d7:∀(k:Nat) (o:Obj),W.heap[k]? = some o->W'.heap[k]? = some o) (e9:W'.os=W.os) (d8:W'.output=W.output):s.post enc prog f false true false false W args (.bool true) W':=by
 have fZ:=hW.lt
 have fV:=hW
 obtain⟨p,q,hA,hV,rfl,gh,fJ⟩:=hW
 rw[hv]at hV
 obtain⟨rfl,rfl⟩:=trodVars_none hV
 have e8:∀x∈p,W.sameAt W' x:=fun x hx=>same_of d7 (by simpa using fZ x (by simp[hx]))
 refine⟨ds,[],p++[],[],p,[],fV,?_,?_,?_,kept_of d7 e9 d8,fun h=>by cases h⟩
 ·rw[fO,fL]
  exact trodAll_cons_mk (shut_bool underlying4 _) trodAll_mk0
 ·rw[fL]
  exact Hd f9 hA e8 fun x hx=>by simpa using fZ x (by simp[hx])
 ·rw[fL,hv]
  rfl
end
end Go.DL
namespace Go.DL
open Go.Proofs.Tryz
open Go Go.Proofs Go.ChangeShapes Go.WideShapes Go.ChangeAt Go.RowKit
open Go.Proofs.YtlfimpogphmbdaaGreat
set_option maxRecDepth 100000
theorem own:ownKnob prog.godebug=none:=by kernel_rfl
section
variable {H:Type}{enc:TypeId×Value->H}{W:Go.World}{base:Nat}
theorem Tk{v:Value}{d:DataW H}{ps:List MemPlace}(d9:Value.okWide prog W .any base 27 v)(h:DataW.Trod enc prog W 0 (fun _=>true) true 27 v d ps): ∃p:aw,Rep (g0 W) (.agg (Ai p)) v/\p.wt<=Rows.uptoBulk d:=by
 obtain⟨cs,rfl,_⟩:=okWide_struct underlying27 d9
 obtain⟨n,hn⟩:=h
 obtain⟨p,h1,h2⟩:=W2 n _ _ hn
 exact⟨p,⟨cs.toList,by simp,h1⟩,h2⟩
theorem Ri:prog.readableRec 27=true:=by kernel_rfl
theorem Rb:27<prog.types.size:=cx (by kernel_rfl)
theorem law1{N:Nat}{f:Func}(hf:f.params=#[27])(fO:f.resultTypes=#[4])(hN:∀p:aw,p.wt<=1048576->au prog N [.agg (Ai p)] (fun _=>none) fun x _=>x=.ret (.bool true))
  {s:ChangeSpec} (hv:s.vars=[]) (fL:∀d,s.fn H [d]={ results:=[.lit (.bool true)],args:=[d] }) {args:Array Value}{ds gs:List (DataW H)}{before:List MemPlace}
  (d9:∀(j:Nat) t v,f.params[j]? = some t->args[j]? = some v->Value.okWide prog W .any base t v)
  (hW:DataW.Whole enc prog f.params.toList s.vars false W args.toList ds gs before) (hk:Rows.uptoSmall H (ds++gs)=true) :
  Calls prog N args W fun e W'=> ∃v,e=.returned v/\s.post enc prog f false true false false W args v W':=by
 have fV:=hW
 obtain⟨p,q,hA,hV,rfl,gh,fJ⟩:=hW
 rw[hv]at hV
 obtain⟨rfl,rfl⟩:=trodVars_none hV
 rw[hf]at hA d9
 obtain⟨v0,vs0,d0,ds0,p0,q0,f6,rfl,rfl,h0,r0⟩:=trodAll_cons hA
 obtain⟨rfl,rfl,rfl⟩:=trodAll_nil r0
 obtain rfl:args=#[v0]:=by cases args;simp_all
 have hb:Rows.uptoBulk d0+0<=1048576:=cx hk
 obtain⟨pr,hr,hw⟩:=Tk (d9 0 27 v0 rfl rfl) h0
 refine(TO (hN pr (by omega)) W (vs:=[v0]) ⟨v0,[],rfl,hr,rfl⟩).mono fun e W' ⟨he,d7,e9,d8⟩=>?_
 refine⟨_,he,WN hv fO (fun t ht=>?_) fV (fL d0) d7 e9 d8⟩
 rw[hf]at ht
 obtain rfl:t=27:=by simpa using ht
 exact⟨Ri,Rb⟩
end
end Go.DL
