/- A part of the proof. -/
import Derived.Test.YtlfimpogphmbdaaGreatH24
set_option linter.all false
namespace Go.DL
open Go.Proofs.Tryz
open Go Go.Proofs
structure Ren where
 c:Str->Str
 s:Str->Str
 g:Str->Str
mutual
def AlE(R:Ren):aH->aH->fP->fP->Prop
 |.mk o n t l,e',b,b'=>(e'.op=o/\e'.n=n/\(e'.text=[] ↔ t=[])/\(e'.text≠[]->Ak e'.text=true)) /\
  ((o=3->t∈b/\e'.text∈b'/\D6 e'.text b' 0 n=D6 t b 0 n)/\(o=4\/o=7->e'.text=R.s t)/\(o=5->e'.text=R.g t)/\(o=6\/o=8->e'.text=R.c t)) /\
  AlEs R o t e'.text l e'.aq 0 b b'
def AlEs(R:Ren)(o:Int)(t t':Str):List aH->List aH->Nat->fP->fP->Prop
 |[],l',_,_,_=>l'=[]
 |x::r,l',i,b,b'=> ∃x' r',l'=x'::r'/\(if o=9/\i=1 then AlE R x x' (b++[t]) (b'++[t']) else AlE R x x' b b')/\AlEs R o t t' r r' (i+1) b b'
end
section
variable {R:Ren}
theorem NX{o:Int}{t t':Str}: ∀{l l':List aH}{i:Nat}{b b':fP},AlEs R o t t' l l' i b b'->l'.length=l.length
 |[],_,_,_,_,h=>by rw[AlEs]at h;rw[h]
 |_::r,_,_,_,_,h=>by
  rw[AlEs]at h;obtain⟨x',r',rfl,_,h⟩:=h;rw[aV,aV,NX h]
theorem Lb{o:Int}{i:Nat}{x x':aH}{t t':Str}{b b':fP}(h:if o=9/\i=1 then AlE R x x' (b++[t]) (b'++[t']) else AlE R x x' b b'): ∃c c',AlE R x x' c c':=by
 split at h
 ·exact⟨_,_,h⟩
 ·exact⟨_,_,h⟩
theorem shp_al{e e':aH}(h:kj e=true)(ho:e'.op=e.op)(hn:e'.n=e.n)(hk:e'.aq.length=e.aq.length)(ht:e'.text=[] ↔ e.text=[])(hv:e'.text≠[]->Ak e'.text=true):kj e'=true:=by
 unfold kj BV at*;rw[ho,hn,hk];simp only[aN]at h⊢;obtain⟨⟨⟨⟨h1,h2⟩,h3⟩,h4⟩,h5,h6⟩:=h;refine⟨⟨⟨⟨h1,h2⟩,h3⟩,by rwa [cJ.2 ht]⟩,?_,h6⟩;cases hm:(getM (⟨false,0,0⟩:Sh) e.op kP).named with
 |false=>rfl
 |true=>
  rw[hm]at h4;have h7:e.text≠[]:=by simpa using h4
  simpa using hv fun hh=>h7 (ht.1 hh)
mutual
theorem NV: ∀(e e':aH) (b b':fP) (d:Int),AlE R e e' b b'->allD CO e d=true->allD CO e' d=true
 | .mk o n t l,e',b,b',d,h,hc=>by
  rw[AlE]at h;obtain⟨⟨h1,h2,h4,h5⟩,_,h6⟩:=h;rw[allD,aN]at hc;obtain⟨k1,k2⟩:=hc;have hE:∀e:aH,CO d e=(decide (d<=12)&&kj e):=fun e=>rfl;rw[hE,aN]at k1;have h7:=Q5 o t e'.text l e'.aq 0 b b' (d+1) h6 k2;have h8:=shp_al k1.2 h1 h2 (NX h6) h4 h5;cases e' with
  |mk o' n' t' l'=>
   rw[allD,hE,h8,k1.1];exact h7
theorem Q5(o:Int)(t t':Str): ∀(l l':List aH) (i:Nat) (b b':fP) (d:Int),AlEs R o t t' l l' i b b'->Eh CO l d=true->Eh CO l' d=true
 |[],_,_,_,_,_,h,hc=>by rw[AlEs]at h;rw[h];exact hc
 |x::r,_,i,b,b',d,h,hc=>by
  rw[AlEs]at h;obtain⟨x',r',rfl,h1,h2⟩:=h;obtain⟨c,c',h1⟩:=Lb h1;rw[Eh,aN]at hc;rw[Eh,NV x x' c c' d h1 hc.1,Q5 o t t' r r' (i+1) b b' d h2 hc.2];rfl
end
mutual
theorem La: ∀(e e':aH) (b b':fP),AlE R e e' b b'->e'.cnt=e.cnt
 |.mk o n t l,e',b,b',h=>by
  rw[AlE]at h;have:=Y1 o t e'.text l e'.aq 0 b b' h.2.2;unfold aH.cnt;rw[L9 e',allE,aV,aV,this]
theorem Y1(o:Int)(t t':Str): ∀(l l':List aH) (i:Nat) (b b':fP),AlEs R o t t' l l' i b b'->(As l').length=(As l).length
 |[],_,_,_,_,h=>by rw[AlEs]at h;rw[h]
 |x::r,_,i,b,b',h=>by
  rw[AlEs]at h;obtain⟨x',r',rfl,h1,h2⟩:=h;obtain⟨c,c',h1⟩:=Lb h1;have h3:=La x x' c c' h1;unfold aH.cnt at h3;rw[As,As,aO,aO,h3,Y1 o t t' r r' (i+1) b b' h2]
end
section
variable {own own' am slots':fP}{t0:Bool}(hs:∀s∈am,R.s s∈slots')(hc:∀s∈own,R.c s∈own')
include hs hc
mutual
theorem XU: ∀(e e':aH) (b b':fP),AlE R e e' b b'->(allE e).all (ko own am t0)=true->(allE e').all (ko own' slots' t0)=true
 | .mk o n t l,e',b,b',h,hh=>by
  rw[AlE]at h;obtain⟨⟨h1,_⟩,⟨_,h4,h5,h6⟩,h7⟩:=h;rw[allE,bU,aN]at hh;rw[L9 e',bU,SK o t e'.text l e'.aq 0 b b' h7 hh.2,Bool.and_true];have h8:(if o=4\/o=7 then decide (t∈am) else if o=6\/o=8 then decide (t∈own) else if o=18 then t0 else true)=true:=hh.1;unfold ko;rw[h1]
  by_cases c4:o=4\/o=7
  ·rw[aS c4]at h8⊢;rw[h4 c4];exact bf (hs _ (bx h8))
  ·rw[aQ c4]at h8⊢
   by_cases c6:o=6\/o=8
   ·rw[aS c6]at h8⊢;rw[h6 c6];exact bf (hc _ (bx h8))
   ·rw[aQ c6]at h8⊢; exact h8
theorem SK(o:Int)(t t':Str): ∀(l l':List aH) (i:Nat) (b b':fP),AlEs R o t t' l l' i b b'->(As l).all (ko own am t0)=true->(As l').all (ko own' slots' t0)=true
 |[],_,_,_,_,h,hh=>by rw[AlEs]at h;rw[h];exact hh
 |x::r,_,i,b,b',h,hh=>by
  rw[AlEs]at h;obtain⟨x',r',rfl,h1,h2⟩:=h;obtain⟨c,c',h1⟩:=Lb h1;rw[As,dp,aN]at hh;rw[As,dp,XU x x' c c' h1 hh.1,SK o t t' r r' (i+1) b b' h2 hh.2];rfl
end
end
mutual
theorem NW(Q:fP): ∀(e e':aH) (b b' c':fP),AlE R e e' b b'->(∀x∈b',x∈Q\/x∈c')->∀x∈kY e' c',x∈Q
 | .mk o n t l,e',b,b',c',h,hb,x,hx=>by
  rw[AlE]at h;obtain⟨⟨h1,_⟩,⟨h3,_⟩,h7⟩:=h;rw[OC,h1]at hx;split at hx
  ·rename_i hq;rw[bq]at hx;rw[hx];exact(hb _ (h3 hq.1).2.1).resolve_right hq.2
  ·exact Q6 Q o t e'.text l e'.aq 0 b b' c' h7 hb x hx
theorem Q6(Q:fP)(o:Int)(t t':Str): ∀(l l':List aH) (i:Nat) (b b' c':fP),AlEs R o t t' l l' i b b'->(∀x∈b',x∈Q\/x∈c')->∀x∈looseEs o t' l' i c',x∈Q
 |[],_,_,_,_,_,h,_,x,hx=>by rw[AlEs]at h;rw[h,looseEs]at hx;cases hx
 | y::r,_,i,b,b',c',h,hb,x,hx=>by
  rw[AlEs]at h;obtain⟨x',r',rfl,h1,h2⟩:=h;rw[looseEs]at hx;rcases bi.1 hx with hx|hx
  ·by_cases c:o=9/\i=1
   ·rw[aS c]at h1 hx;refine NW Q y x' _ _ _ h1 (fun z hz=>?_) x hx;rcases bi.1 hz with hz|hz
    ·exact(hb z hz).imp id fun h=>Et.2 (.inr h)
    ·rw[bq]at hz;exact .inr (Et.2 (.inl hz))
   ·rw[aQ c]at h1 hx;exact NW Q y x' _ _ _ h1 hb x hx
  ·exact Q6 Q o t t' r r' (i+1) b b' c' h2 hb x hx
end
theorem XR{own own' am slots' P P':fP}{t0:Bool}(hs:∀s∈am,R.s s∈slots')(hc:∀s∈own,R.c s∈own'){e e':aH}(h:AlE R e e' P P')(hh:DD P am own t0 e=true):DD P' slots' own' t0 e'=true:=by
 unfold DD at hh⊢;rw[aN]at hh;rw[XU hs hc e e' P P' h hh.1,bd,bh];intro x hx;exact bf (NW P' e e' P P' [] h (fun x hx=>.inl hx) x hx)
def mapG(R:Ren)(s:kZ):kZ:=(s.1.map fun p=>(R.g p.1,p.2),s.2)
section
variable {L:fP}(hi:∀x∈L, ∀y∈L,R.g x=R.g y->x=y)
include hi
theorem Rz(s:Str)(hs:s∈L): ∀G:List (Str×Int),(∀p∈G,p.1∈L)->hasM (R.g s) (G.map fun p=>(R.g p.1,p.2))=hasM s G/\getM 0 (R.g s) (G.map fun p=>(R.g p.1,p.2))=getM 0 s G
 |[],_=>⟨rfl,rfl⟩
 |(a,v)::r,h=>by
  obtain⟨i1,i2⟩:=Rz s hs r fun p hp=>h p (by simp[hp])
  rw[bg,hasM,hasM,getM,getM,i1,i2];have e:R.g s=R.g a ↔ s=a:=⟨fun hh=>hi _ hs _ (h (a,v) k7) hh,fun hh=>by rw[hh]⟩;exact⟨by rw[cJ.2 e],by simp only[e]⟩
theorem R5(s:Str)(n:Int)(g:kZ)(hs:s∈L)(hg:∀p∈g.1,p.1∈L):l5 (R.g s) n (mapG R g)=mapG R (l5 s n g) /\ ∀p∈(l5 s n g).1,p.1∈L:=by
 obtain⟨h1,h2⟩:=Rz hi s hs g.1 hg;unfold l5 mapG;simp only;rw[h1,h2]
 by_cases h:hasM s g.1=true
 ·rw[aS h,aS h];exact⟨rfl,hg⟩
 ·rw[aQ h,aQ h];refine⟨k7,fun p hp=>?_⟩;rcases bi.1 hp with hp|hp
  ·exact hg p hp
  ·rw[bq]at hp;rw[hp];exact hs
mutual
theorem Y0: ∀(e e':aH) (b b':fP) (g:kZ),AlE R e e' b b'->l9 (CallsIn L) e->(∀p∈g.1,p.1∈L)->genE e' (mapG R g)=mapG R (genE e g) /\ ∀p∈(genE e g).1,p.1∈L
 | .mk o n t l,e',b,b',g,h,hL,hg=>by
  rw[AlE]at h;obtain⟨⟨h1,_⟩,⟨_,_,h5,_⟩,h7⟩:=h;rw[l9]at hL;have hk:=NX h7;cases e' with
  | mk o' n' t' l' =>
   have h1:o'=o:=h1;have h5:o=5->t'=R.g t:=h5;have hk:l'.length=l.length:=hk;have h7:AlEs R o t t' l l' 0 b b':=h7;rw[genE,genE,h1]
   by_cases c5:o=5
   ·obtain⟨k1,k2⟩:=R5 hi t l.length g (hL.1 c5) hg;rw[aS c5,aS c5,h5 c5,hk,k1];exact QP o t t' l l' 0 b b' _ h7 hL.2 k2
   ·rw[aQ c5,aQ c5];exact QP o t t' l l' 0 b b' g h7 hL.2 hg
theorem QP(o:Int)(t t':Str): ∀(l l':List aH) (i:Nat) (b b':fP) (g:kZ),AlEs R o t t' l l' i b b'->Dd (CallsIn L) l->(∀p∈g.1,p.1∈L)->AV l' (mapG R g)=mapG R (AV l g) /\ ∀p∈(AV l g).1,p.1∈L
 |[],_,_,_,_,g,h,_,hg=>by rw[AlEs]at h;rw[h,AV,AV];exact⟨rfl,hg⟩
 |x::r,_,i,b,b',g,h,hL,hg=>by
  rw[AlEs]at h;obtain⟨x',r',rfl,h1,h2⟩:=h;obtain⟨c,c',h1⟩:=Lb h1;rw[Dd]at hL;obtain⟨k1,k2⟩:=Y0 x x' c c' g h1 hL.1 hg;rw[AV,AV,k1];exact QP o t t' r r' (i+1) b b' _ h2 hL.2 k2
end
end
section
variable {own own' am slots' au gens':fP}{t0:Bool}(hs:∀s∈am,idxG (R.s s) slots' 0=idxG s am 0)(hc:∀s∈own,lD own' (R.c s)=lD own s)(d8:∀s∈au,idxG (R.g s) gens' 0=idxG s au 0)
include hs hc d8
theorem al_num{o n:Int}{t t':Str}{b b':fP}(h3:o=3->D6 t' b' 0 n=D6 t b 0 n)(h4:o=4\/o=7->t'=R.s t)(h5:o=5->t'=R.g t)(h6:o=6\/o=8->t'=R.c t)
  (hn:(if o=4\/o=7 then decide (t∈am) else if o=6\/o=8 then decide (t∈own) else if o=18 then t0 else true)=true) (hg:o=5->t∈au):Dt own' slots' gens' o n t' b'=Dt own am au o n t b:=by
 unfold Dt
 by_cases c3:o=3
 ·rw[aS c3,aS c3,h3 c3]
 ·rw [aQ c3,aQ c3]
  by_cases c4:o=4\/o=7
  ·rw[aS c4]at hn⊢;rw[aS c4,h4 c4,hs _ (bx hn)]
  ·rw[aQ c4]at hn⊢;rw[aQ c4]
   by_cases c5:o=5
   ·rw[aS c5,aS c5,h5 c5,d8 _ (hg c5)]
   ·rw[aQ c5,aQ c5]
    by_cases c6:o=6\/o=8
    ·rw[aS c6]at hn⊢;rw[aS c6,h6 c6,hc _ (bx hn)]
    ·rw[aQ c6,aQ c6]
mutual
theorem SN: ∀(e e':aH) (b b':fP) (k:Nat),AlE R e e' b b'->(allE e).all (ko own am t0)=true->l9 (CallsIn au) e->CB own' slots' gens' e' b' k=CB own am au e b k
 | .mk o n t l,e',b,b',k,h,hh,hL=>by
  rw[AlE]at h;obtain⟨⟨h1,h2,_⟩,⟨h3,h4,h5,h6⟩,h7⟩:=h;rw[allE,bU,aN]at hh;rw[l9]at hL;obtain⟨k1,k2⟩:=Y2 o t e'.text l e'.aq 0 b b' (k+1) h7 hh.2 hL.2;have hN:=al_num (n:=n) hs hc d8 (fun c=>(h3 c).2.2) h4 h5 h6 hh.1 hL.1;cases e' with
  |mk o' n' t' l'=>
   have h1:o'=o:=h1;have h2:n'=n:=h2;have k1:Ce own' slots' gens' o t' l' 0 b' (k+1)=Ce own am au o t l 0 b (k+1):=k1;have k2:AW l' (k+1)=AW l (k+1):=k2;have hN:Dt own' slots' gens' o n t' b'=Dt own am au o n t b:=hN;rw[CB,CB,h1,h2,k1,k2,hN]
theorem Y2(o:Int)(t t':Str): ∀(l l':List aH) (i:Nat) (b b':fP) (k:Nat),AlEs R o t t' l l' i b b'->(As l).all (ko own am t0)=true->Dd (CallsIn au) l->Ce own' slots' gens' o t' l' i b' k=Ce own am au o t l i b k/\AW l' k=AW l k
 |[],_,_,_,_,_,h,_,_=>by rw[AlEs]at h;rw[h,Ce,Ce];exact⟨rfl,rfl⟩
 | x::r,_,i,b,b',k,h,hh,hL=>by
  rw[AlEs]at h;obtain⟨x',r',rfl,h1,h2⟩:=h;rw[As,dp,aN]at hh;rw[Dd]at hL;obtain⟨c,c',gW⟩:=Lb h1;have hl:=La x x' c c' gW;obtain⟨k1,k2⟩:=Y2 o t t' r r' (i+1) b b' (k+x.cnt) h2 hh.2 hL.2;rw[Ce,Ce,AW,AW,hl,k1,k2];refine⟨?_,rfl⟩
  by_cases cc:o=9/\i=1
  ·rw[aS cc]at h1⊢;rw[aS cc,SN x x' _ _ k h1 hh.1 hL.1]
  ·rw[aQ cc]at h1⊢;rw[aQ cc,SN x x' _ _ k h1 hh.1 hL.1]
end
end
end
mutual
def reF(κ μ ν:Str->Str):aI->aI
 |.mk o s p c n k=>.mk o (if Al o=true then ν s else []) (p.map μ) (if o=2 then κ c else []) n (reFs κ μ ν k)
def reFs(κ μ ν:Str->Str):List aI->List aI
 |[]=>[]
 |x::r=>reF κ μ ν x::reFs κ μ ν r
end
section
variable {κ μ ν:Str->Str}
theorem Rb: ∀l:List aI,(reFs κ μ ν l).length=l.length
 |[]=>by rw[reFs]
 |x::r=>by rw[reFs,aV,aV,Rb r]
mutual
theorem Qj: ∀x:aI,fCnt (reF κ μ ν x)=fCnt x
 |.mk o s p c n k=>by rw[reF,fCnt,fCnt,Rc k]
theorem Rc: ∀l:List aI,EV (reFs κ μ ν l)=EV l
 |[]=>by rw[reFs]
 |x::r=>by rw[reFs,EV,EV,Qj x,Rc r]
end
section
variable {P P' S S' C C':fP}(hP:∀s∈P,ν s∈P')(hS:∀s∈S,μ s∈S')(hC:∀s∈C,κ s∈C'/\κ s≠[])
include hP hS hC
theorem fctB_re{o:Int}{s:Str}{p:fP}{c:Str}{n:Int}{k:List aI}(h:fctB P S C (.mk o s p c n k)=true):fctB P' S' C' (.mk o (if Al o=true then ν s else []) (p.map μ) (if o=2 then κ c else []) n (reFs κ μ ν k))=true:=by
 have h:(decide (1<=o/\o<=7)&&(((decide ((k.length:Int)=arF o)&&(if Al o=true then decide (s∈P) else(decide (s=[])&&decide (p=[])))&&decide (p.length<=2)) &&
  (((decide (o=2) == !decide (c=[]))&&(!decide (o=2)||decide (c∈C)))&&((decide (o=3\/o=4)||decide (n=0))&&inB n)))&&p.all (fun s=>decide (s∈S))))=true:=h
 show(decide (1<=o/\o<=7)&&(((decide (((reFs κ μ ν k).length:Int)=arF o)&&(if Al o=true then decide ((if Al o=true then ν s else [])∈P') else(decide ((if Al o=true then ν s else [])=[])&&decide (p.map μ=[])))&&decide ((p.map μ).length<=2)) &&
  (((decide (o=2) == !decide ((if o=2 then κ c else [])=[]))&&(!decide (o=2)||decide ((if o=2 then κ c else [])∈C')))&&((decide (o=3\/o=4)||decide (n=0))&&inB n)))&&(p.map μ).all (fun s=>decide (s∈S'))))=true
 rw[Rb,aY];simp only[aN]at h⊢;obtain⟨h1,⟨⟨⟨h2,h3⟩,h4⟩,⟨h5,h6⟩,h7⟩,h8⟩:=h;refine⟨h1,⟨⟨⟨h2,?_⟩,h4⟩,⟨?_,?_⟩,h7⟩,?_⟩
 ·by_cases hn:Al o=true
  ·rw[aS hn]at h3⊢;rw[aS hn];exact bf (hP _ (bx h3))
  ·rw[aQ hn]at h3⊢;rw[aQ hn];simp only[aN,aP]at h3⊢;rw[h3.2];simp
 ·by_cases h2:o=2
  ·rw[aS h2];have:c∈C:=by simpa[h2] using h6
   have:=(hC c this).2;simp[h2,this]
  ·rw[aQ h2];simp[h2]
 ·by_cases h2:o=2
  ·rw[aS h2];have:c∈C:=by simpa[h2] using h6
   have:=(hC c this).1;simp[this]
  ·simp[h2]
 ·rw[bh]at h8⊢;intro x hx;obtain⟨y,hy,rfl⟩:=bD.1 hx;exact bf (hS _ (bx (h8 y hy)))
mutual
theorem ZK: ∀(x:aI) (d:Int),CX (lN P S C) x d=true->CX (lN P' S' C') (reF κ μ ν x) d=true
 |.mk o s p c n k,d,h=>by
  rw[CX,aN]at h;obtain⟨h1,h2⟩:=h;unfold lN at h1;rw[aN]at h1;rw[reF,CX,UF k (d+1) h2];unfold lN;rw[h1.1,fctB_re hP hS hC h1.2];rfl
theorem UF: ∀(l:List aI) (d:Int),Bi (lN P S C) l d=true->Bi (lN P' S' C') (reFs κ μ ν l) d=true
 |[],_,h=>by rw[reFs];exact h
 |x::r,d,h=>by
  rw[Bi,aN]at h;rw[reFs,Bi,ZK x d h.1,UF r d h.2];rfl
end
end
section
variable {P P' S S' C own own':fP}(hP:∀s∈P,ν s≠[]/\s≠[]/\idxG (ν s) P' 0=idxG s P 0)(hS:∀s∈S,idxG (μ s) S' 0=idxG s S 0)(hC:∀s∈C,κ s≠[]/\s≠[]/\lD own' (κ s)=lD own s)
include hP hS hC
mutual
theorem UG: ∀(x:aI) (d:Int),CX (lN P S C) x d=true->E4 own' S' P' (reF κ μ ν x)=E4 own S P x
 | .mk o s p c n k,d,h=>by
  rw[CX,aN]at h;obtain⟨h1,h2⟩:=h;unfold lN fctB fctC at h1;simp only[aN]at h1;obtain⟨_,_,⟨⟨⟨_,q1⟩,_⟩,⟨q2,q3⟩,_⟩,q4⟩:=h1;have q1:(if Al o=true then decide (s∈P) else(decide (s=[])&&decide (p=[])))=true:=q1;have q2:(decide (o=2) == !decide (c=[]))=true:=q2;have q3:(!decide (o=2)||decide (c∈C))=true:=q3;have q4:p.all (fun s=>decide (s∈S))=true:=q4;rw[reF,E4,E4,Rd k (d+1) h2]
  congr 1
  ·by_cases hn:Al o=true
   ·rw[aS hn]at q1⊢;obtain⟨r1,r2,r3⟩:=hP s (bx q1);rw[aQ r1,aQ r2,r3]
   ·rw[aQ hn]at q1⊢;simp only[aN,aP]at q1;rw[aS rfl,aS q1.1]
  ·rw[cr];exact bF fun x hx=>hS x (bx (bh.1 q4 x hx))
  ·by_cases h2:o=2
   ·rw[aS h2];have:c∈C:=by simpa[h2] using q3
    obtain⟨r1,r2,r3⟩:=hC c this;rw[aQ r1,aQ r2,r3]
   ·rw[aQ h2];have:c=[]:=by simpa[h2] using q2
    rw[aS rfl,aS this]
theorem Rd: ∀(l:List aI) (d:Int),Bi (lN P S C) l d=true->C2 own' S' P' (reFs κ μ ν l)=C2 own S P l
 |[],_,_=>by rw[reFs,C2,C2]
 |x::r,d,h=>by
  rw[Bi,aN]at h;rw[reFs,C2,C2,UG x d h.1,Rd r d h.2]
end
end
end
structure AlM(R:Ren)(m m':aK):Prop where
 kind:m'.kind=m.kind
 name:m'.name=R.g m.name
 nmB:Ak m'.name=true
 len:m'.params.length=m.params.length
 par:CR m'.params=true
 kJ:∃ν:Str->Str,m'.kJ=reF R.c R.s ν m.kJ /\ ∀s∈m.params,ν s∈m'.params/\idxG (ν s) m'.params 0=idxG s m.params 0
 body:AlE R m.body m'.body m.params m'.params
def ld(R:Ren):List aK->List aK->Prop
 |[],l=>l=[]
 |m::r,l=> ∃m' r',l=m'::r'/\AlM R m m'/\ld R r r'
def reC(R:Ren)(c:aJ):aJ:=⟨R.c c.name,c.ap.map R.c,c.am.map R.s,c.ar.map fun x=>⟨R.s x.slot,x.n⟩⟩
structure AlP(R:Ren)(f f':aL):Prop where
 cls:f'.ak=f.ak.map (reC R)
 ci:∀x∈kD f, ∀y∈kD f,R.c x=R.c y->x=y
 cb:∀x∈kD f,Ak (R.c x)=true
 lit:∀x∈kK,R.c x=x
 si:∀x∈kB f, ∀y∈kB f,R.s x=R.s y->x=y
 sb:∀x∈kB f,Ak (R.s x)=true
 gi:∀x∈kG f, ∀y∈kG f,R.g x=R.g y->x=y
 met:ld R f.k9 f'.k9
 kH:AlE R f.kH f'.kH [] []
def Ia{g:Str->Str}: ∀(l:fP) (s:Str) (k:Nat),(∀x∈l,g x=g s->x=s)->idxG (g s) (l.map g) k=idxG s l k
 |[],_,_,_=>rfl
 |x::r,s,k,h=>by
  rw[bg,idxG,idxG,Ia r s (k+1) fun y hy=>h y (by simp[hy])];have:g x=g s ↔ x=s:=⟨h x k7,fun e=>by rw[e]⟩;simp only[this]
def I1{g:Str->Str}: ∀l:fP,l.Nodup->(∀x∈l, ∀y∈l,g x=g y->x=y)->(l.map g).Nodup
 |[],_,_=>List.nodup_nil
 |x::r,h,hi=>by
  rw[cE]at h;rw[bg,cE];refine⟨fun hm=>?_,I1 r h.2 fun y hy z hz=>hi y (by simp[hy]) z (by simp[hz])⟩;obtain⟨y,hy,e⟩:=bD.1 hm;have:=hi y (by simp[hy]) x k7 e;exact h.1 (this ▸ hy)
def Ot{s:Str}(h:Ak s=true):s∉kK:=fun hm=>by
 have:∀x∈kK,Ak x=false:=by decide
 rw[this s hm]at h;cases h
def OF{s:Str}(h:s∈kK):s≠[]:=fun e=>by rw[e]at h;revert h;decide
def Eb{s:Str}(h:Ak s=true):s≠[]:=fun e=>by rw[e,DR]at h;cases h
def Nr{s:Str}(h:s∉kK):idxG s kK 0 = -1:=by
 rcases idxG_lt s kK 0 with h1|h1
 ·exact h1
 ·exfalso
  have e:idxG s kK 0=if wAny=s then 0 else if wInt=s then 1 else if Gc=s then 2 else -1:=rfl
  rw[e]at h1;split at h1
  ·rename_i q;exact h (by rw[<-q];simp[kK])
  ·split at h1
   ·rename_i q;exact h (by rw[<-q];simp[kK])
   ·split at h1
    ·rename_i q;exact h (by rw[<-q];simp[kK])
    ·omega
def Ie: ∀(a b:List aH) (g:kZ),AV (a++b) g=AV b (AV a g)
 |[],b,g=>by rw[bG,AV]
 |x::r,b,g=>by rw[bE,AV,AV,Ie r b]
section
variable {R:Ren}{f f':aL}(h:AlP R f f')
include h
theorem XT:kD f'=(kD f).map R.c:=by
 unfold kD;rw[h.cls,cr,cr];rfl
theorem Iu:kB f'=(kB f).map R.s:=by
 unfold kB;rw[h.cls]
 have:∀l:List aJ,(l.map (reC R)).flatMap (·.am)=(l.flatMap (·.am)).map R.s:=fun l=>by
  induction l with
  |nil=>rfl
  |cons c r ih=>rw[bg,cx,cx,bL,ih];rfl
 exact this _
theorem QQ(s:Str)(hs:s∈kD f++kK)(hb:∀s∈kD f,Ak s=true):lD (kD f') (R.c s)=lD (kD f) s:=by
 rw[XT h];unfold lD
 by_cases hl:s∈kK
 ·rw[h.lit s hl]
  have:0<=idxG s kK 0:=by
   have hh:∀x∈kK,0<=idxG x kK 0:=by decide
   exact hh s hl
  rw[aS this,aS this]
 ·have hm:=(bi.1 hs).resolve_right hl;rw[Nr hl,Nr (Ot (h.cb s hm)),Ia _ _ _ fun x hx e=>h.ci x hx s hm e]
theorem al_idxF{s:Str}(hs:s∈kD f):idxF (fun c:aJ=>decide (c.name=R.c s)) f'.ak 0=idxF (fun c:aJ=>decide (c.name=s)) f.ak 0:=by
 rw[h.cls]
 have:∀(l:List aJ) (k:Nat),(∀c∈l,c.name∈kD f)->idxF (fun c:aJ=>decide (c.name=R.c s)) (l.map (reC R)) k=idxF (fun c:aJ=>decide (c.name=s)) l k:=fun l=>by
  induction l with
  |nil=>intro k _;rfl
  |cons c r ih=>
   intro k hl;have e:decide ((reC R c).name=R.c s)=decide (c.name=s):=cJ.2 ⟨fun e=>h.ci _ (hl c k7) s hs e,fun e=>by show R.c c.name=_;rw[e]⟩;rw[bg,idxF,idxF,ih (k+1) fun x hx=>hl x (by simp[hx]),e]
 exact this _ 0 fun c hc=>cp hc
theorem al_abv(hp:∀c∈f.ak, ∀s∈c.ap,s∈kD f)(n:Nat):abvF f' n=abvF f n:=by
 have gu:∀(ps:fP) (b:List Bool),(∀s∈ps,s∈kD f)->CU f' (ps.map R.c) b=CU f ps b:=fun ps=>by
  induction ps with
  |nil=>intro b _;rfl
  |cons s r ih=>
   intro b hs;rw[bg,CU,CU,al_idxF h (hs s k7),ih _ fun x hx=>hs x (by simp[hx])]
 have hd:∀(i:Nat) (b:List Bool),abvD f' n i b=abvD f n i b:=fun i=>by
  induction i with
  |zero=>intro b;rfl
  | succ i ih =>
   intro b;rw[abvD,abvD,ih]
   congr 1
   by_cases c:i≠n/\b.getD i false=false
   ·rw[aS c,aS c]
   ·rw[aQ c,aQ c,h.cls,bN]
    by_cases hi:i<f.ak.length
    ·rw[aT hi];exact gu _ b (hp _ (aR hi))
    ·rw[bW k0];rfl
 unfold abvF;rw[hd,h.cls,aY]
theorem al_cls(hf:D9 f=true):D9 f'=true:=by
 unfold D9 at hf⊢;simp only[aN]at hf⊢;obtain⟨h1,h2,h3,h4⟩:=hf;obtain⟨a1,a2⟩:=(BD _).1 h3;obtain⟨b1,b2⟩:=(BD _).1 h4;refine⟨by rw[h.cls,aY];exact h1,?_,?_,?_⟩
 ·rw [h.cls]
  have:∀(l:List aJ) (own:fP),(∀s∈own,s∈kD f)->(∀c∈l,c.name∈kD f)->BH own l=true->BH (own.map R.c) (l.map (reC R))=true:=fun l=>by
   induction l with
   |nil=>intro own _ _ _;rfl
   | cons c r ih =>
    intro own ho hl hc;rw[BH]at hc;simp only[aN]at hc;obtain⟨⟨⟨q1,q2⟩,q3⟩,q4,q5⟩:=hc;rw[bh]at q4;have q4:∀s∈c.ap,s∈own:=fun s hs=>bx (q4 s hs);have hn:=((Fi _ _).1 q3).1
    have hm:=ih (own++[c.name]) (fun s hs=>by
     rcases bi.1 hs with hs|hs
     ·exact ho s hs
     ·rw[bq]at hs;rw[hs];exact hl c k7) (fun x hx=>hl x (by simp[hx])) q5
    rw[bL,List.map_singleton]at hm;rw[bg,BH];simp only[aN];refine⟨⟨⟨by simpa[reC] using q1,by simpa[reC] using q2⟩,(Fi _ _).2 ⟨I1 _ hn fun x hx y hy=>h.ci x (ho x (q4 x hx)) y (ho y (q4 y hy)),k7⟩⟩,?_,hm⟩;rw[bh];intro s hs;obtain⟨x,hx,rfl⟩:=bD.1 hs;exact bf (cp (q4 x hx))
  exact this _ [] k7 (fun c hc=>cp hc) h2
 ·have e:f'.ak.map (·.name)=(kD f).map R.c:=XT h;rw[e];refine(BD _).2 ⟨fun s hs=>?_,I1 _ a2 h.ci⟩;obtain⟨x,hx,rfl⟩:=bD.1 hs;exact h.cb x hx
 ·have e:f'.ak.flatMap (·.am)=(kB f).map R.s:=Iu h;rw[e];refine(BD _).2 ⟨fun s hs=>?_,I1 _ b2 h.si⟩;obtain⟨x,hx,rfl⟩:=bD.1 hs;exact h.sb x hx
theorem XV: ∀(l:List aJ) (bs:List Bool),H7 (l.map (reC R)) bs=(H7 l bs).map R.s
 |[],_=>by rw[cq];rfl
 |c::r,[]=>rfl
 |c::r,b::bs=>by
  rw[bg,H7,H7,bL,XV r bs];cases b<;>rfl
theorem XZ{mine:fP}(hm:∀s∈mine,s∈kB f): ∀(l:List aM) (seen:fP),(∀s∈seen,s∈kB f)->iniR mine seen l=true->iniR (mine.map R.s) (seen.map R.s) (l.map fun x=>⟨R.s x.slot,x.n⟩)=true
 |[],_,_,_=>rfl
 | x::r,seen,hs,hi=>by
  rw[iniR]at hi;simp only[aN,aP]at hi;obtain⟨⟨h1,h2,h3⟩,h4⟩:=hi;have hx:=hm _ h1
  have ih:=XZ hm r (seen++[x.slot]) (fun s hh=>by
   rcases bi.1 hh with hh|hh
   ·exact hs s hh
   ·rw[bq]at hh;rw[hh];exact hx) h4
  rw[bL,List.map_singleton]at ih;rw[bg,iniR,ih,Bool.and_true];simp only[aN,aP];refine⟨cp h1,?_,h3⟩;have h2:x.slot∉seen:=by simpa using h2
  have:R.s x.slot∉seen.map R.s:=fun hh=>by
   obtain⟨y,hy,e⟩:=bD.1 hh;exact h2 (h.si y (hs y hy) _ hx e ▸ hy)
  simpa using this
theorem XY(hp:∀c∈f.ak, ∀s∈c.ap,s∈kD f): ∀(l:List aJ) (i:Nat),inisR f i l=true->inisR f' i (l.map (reC R))=true
 |[],_,_=>rfl
 |c::r,i,hi=>by
  rw[inisR,aN]at hi;rw[bg,inisR,XY hp r (i+1) hi.2,Bool.and_true,al_abv h hp,h.cls,XV h];refine XZ h (fun s hs=>?_) c.ar [] k7 hi.1;obtain⟨j,hj,_,h2⟩:=(Fa _ _).1 hs;exact dw.2 ⟨_,aR hj,h2⟩
theorem al_in:(∀s∈kB f,R.s s∈kB f') /\ ∀s∈kD f,R.c s∈kD f':=
 ⟨fun s hs=>by rw[Iu h];exact cp hs,fun s hs=>by rw[XT h];exact cp hs⟩
theorem XW(hf:FOK f){m m':aK}(hm:AlM R m m')(b:Int)(hb:0<=b)(hh:(Cv (kB f) (kD f) m b).1=true):Cv (kB f') (kD f') m' b=Cv (kB f) (kD f) m b:=by
 obtain⟨hS,hO⟩:=al_in h
 have hC:∀s∈kD f++kK,R.c s∈kD f'++kK/\R.c s≠[]:=fun s hs=>by
  rcases bi.1 hs with hs|hs
  ·exact⟨bu _ (hO s hs),Eb (h.cb s hs)⟩
  ·rw[h.lit s hs];exact⟨cC _ hs,OF hs⟩
 unfold Cv at hh⊢;obtain⟨ν,e1,e2⟩:=hm.kJ;split at hh
 ·rename_i q1;split at hh
  ·rename_i q2
   have gS:C4 m'=true:=by
    unfold C4 at q1⊢;simp only[aN]at q1⊢;rw[hm.kind,hm.len];exact⟨q1.1,hm.nmB,q1.2.2.1,q1.2.2.2.1,hm.par⟩
   have f1:=DN (P:=m.params) (S:=kB f) (C:=kD f++kK) m.kJ 1 b hb;have f2:=DN (P:=m'.params) (S:=kB f') (C:=kD f'++kK) m'.kJ 1 b hb;obtain⟨f3,f4⟩:=f1.1.1 q2.1;have f5:=f1.2 q2.1;have f0:fCnt m'.kJ=fCnt m.kJ:=by rw[e1,Qj]
   have f6:(l6 m'.params (kB f') (kD f'++kK) m'.kJ 1 b).1=true:=f2.1.2 ⟨by rw[e1];exact ZK (fun s hs=>(e2 s hs).1) hS hC m.kJ 1 f3,by rw[f0];exact f4⟩;have f7:=f2.2 f6;have g1:=C8 m.body 1 120 k0;have g2:=C8 m'.body 1 120 k0;obtain⟨g3,g4⟩:=g1.1.1 q2.2;have hl:(allE m'.body).length=(allE m.body).length:=La m.body m'.body _ _ hm.body;have g5:(lK m'.body 1 120).1=true:=g2.1.2 ⟨NV m.body m'.body _ _ 1 hm.body g3,by rw[hl];exact g4⟩;rw[aS gS,aS ⟨f6,g5⟩,aS q1,aS q2,f7,f5,f0,hl,hm.kind];simp only[aN]at hh;rw[hh.2,XR hS hO hm.body hh.2]
  ·cases hh
 ·cases hh
theorem MN(hf:FOK f): ∀(l l':List aK) (b:Int),ld R l l'->0<=b->Dn (kB f) (kD f) l b=true->Dn (kB f') (kD f') l' b=true
 |[],l',b,hl,_,_=>by rw[ld]at hl;rw[hl];rfl
 |m::r,_,b,hl,hb,hh=>by
  rw[ld]at hl;obtain⟨m',r',rfl,h1,h2⟩:=hl;rw[Dn,aN]at hh;have e:=XW h hf h1 b hb hh.1;rw[Dn,e,hh.1,bd];exact MN hf r r' _ h2 (GN _ _ m b hb hh.1).1 hh.2
theorem XX: ∀(l l':List aK) (g:kZ),ld R l l'->(∀m∈l,m.name∈kG f)->(∀p∈g.1,p.1∈kG f)->metG l' (mapG R g)=mapG R (metG l g) /\ ∀p∈(metG l g).1,p.1∈kG f
 |[],l',g,hl,_,hg=>by rw[ld]at hl;rw[hl];exact⟨rfl,hg⟩
 |m::r,_,g,hl,hm,hg=>by
  rw[ld]at hl;obtain⟨m',r',rfl,h1,h2⟩:=hl;obtain⟨k1,k2⟩:=R5 h.gi m.name m.params.length g (hm m k7) hg;rw[metG,metG,h1.name,h1.len,k1];exact XX r r' _ h2 (fun x hx=>hm x (by simp[hx])) k2
theorem Q7: ∀(l l':List aK) (g:kZ),ld R l l'->(∀m∈l,l9 (CallsIn (kG f)) m.body)->(∀p∈g.1,p.1∈kG f)->
  AV (l'.map (·.body)) (mapG R g)=mapG R (AV (l.map (·.body)) g) /\ ∀p∈(AV (l.map (·.body)) g).1,p.1∈kG f
 |[],l',g,hl,_,hg=>by rw[ld]at hl;rw[hl];simp only[cq];rw[AV,AV];exact⟨rfl,hg⟩
 |m::r,_,g,hl,hm,hg=>by
  rw[ld]at hl;obtain⟨m',r',rfl,h1,h2⟩:=hl;obtain⟨k1,k2⟩:=Y0 h.gi m.body m'.body _ _ g h1.body (hm m k7) hg;rw[bg,bg,AV,AV,k1];exact Q7 r r' _ h2 (fun x hx=>hm x (by simp[hx])) k2
theorem HC:Bj f'=mapG R (Bj f):=by
 obtain⟨_,g2,g3⟩:=BY f;obtain⟨k1,k2⟩:=XX h f.k9 f'.k9 ([],true) h.met (fun m hm=>(g2 m hm).1) k7;obtain⟨k3,k4⟩:=Q7 h f.k9 f'.k9 _ h.met (fun m hm=>(g2 m hm).2) k2;obtain⟨k5,_⟩:=Y0 h.gi f.kH f'.kH [] [] _ h.kH g3 k4;have e:(mapG R ([],true):kZ)=([],true):=rfl;rw[e]at k1;unfold Bj Br;rw[Ie,Ie,k1,k3,AV,AV,AV,AV,k5]
theorem MP: ∀(l l':List aK),ld R l l'->l'.length=l.length
 |[],l',hl=>by rw[ld]at hl;rw[hl]
 |m::r,_,hl=>by
  rw[ld]at hl;obtain⟨m',r',rfl,_,h2⟩:=hl;rw[aV,aV,MP r r' h2]
theorem XS(hf:Cg f=true):Cg f'=true:=by
 have hF:=Fe hf;have hG:=HC h;obtain⟨hS,hO⟩:=al_in h;have hl:(allE f'.kH).length=(allE f.kH).length:=La f.kH f'.kH _ _ h.kH;have gE:budR f'=budR f:=by unfold budR;rw[hl,h.cls,aY]
 unfold Cg Ib at hf⊢;simp only[aN]at hf⊢;obtain⟨⟨h1,h2,h3,h4⟩,⟨h5,h6⟩,h7,h8,h9⟩:=hf;rw[MP h f.k9 f'.k9 h.met,gE,hG];have g1:=C8 f.kH 1 120 k0;have g2:=C8 f'.kH 1 120 k0;obtain⟨g3,g4⟩:=g1.1.1 h4;refine⟨⟨h1,al_cls h h2,?_,g2.1.2 ⟨NV f.kH f'.kH _ _ 1 h.kH g3,by rw[hl];exact g4⟩⟩,⟨h5,XR hS hO h.kH h6⟩,MN h hF f.k9 f'.k9 _ h.met (bx h5) h7,h8,?_⟩
 ·rw[h.cls];exact XY h hF.par f.ak 0 h3
 ·unfold mapG;simpa using h9
theorem ai(hF:FOK f): ∀(l:List aJ) (k:Nat),(∀c∈l,c∈f.ak)->CS f' (l.map (reC R)) k=CS f l k
 |[],_,_=>rfl
 | c::r,k,hl=>by
  have hc:=hl c k7;rw[bg,CS,CS];have e1:(reC R c).am.length=c.am.length:=aY ..;rw[e1,ai hF r _ fun x hx=>hl x (by simp[hx])]
  congr 1
  unfold QI;rw[e1]
  have e2:(reC R c).ap.map (lD (kD f'))=c.ap.map (lD (kD f)):=by
   show(c.ap.map R.c).map _=_;rw[cr];exact bF fun s hs=>QQ h s (bu _ (hF.par c hc s hs)) hF.ownB
  have e3:((reC R c).ar.map fun x=>(⟨idxG x.slot (kB f') 0,x.n⟩:lR))=c.ar.map fun x=>⟨idxG x.slot (kB f) 0,x.n⟩:=by
   show((c.ar.map fun x=>(⟨R.s x.slot,x.n⟩:aM)).map _)=_;rw[cr];refine bF fun x hx=>?_;have hs:=hF.ini c hc x hx;show(⟨idxG (R.s x.slot) (kB f') 0,x.n⟩:lR)=_;rw[Iu h,Ia _ _ _ fun y hy e=>h.si y hy _ hs e]
  rw[e2,e3]
theorem al_ix(hF:FOK f):(∀s∈kB f,idxG (R.s s) (kB f') 0=idxG s (kB f) 0)/\(∀s∈kG f,idxG (R.g s) (kG f') 0=idxG s (kG f) 0) /\ ∀s∈kD f,lD (kD f') (R.c s)=lD (kD f) s:=by
 have gT:kG f'=(kG f).map R.g:=by
  unfold kG;rw[HC h];unfold mapG;rw[cr,cr];rfl
 exact⟨fun s hs=>by rw[Iu h,Ia _ _ _ fun y hy e=>h.si y hy _ hs e],fun s hs=>by rw[gT,Ia _ _ _ fun y hy e=>h.gi y hy _ hs e],fun s hs=>QQ h s (bu _ hs) hF.ownB⟩
theorem ah(hF:FOK f): ∀(l l':List aK) (k:Nat),ld R l l'->(∀m∈l,m∈f.k9)->
  bndMRm (kD f') (kB f') (kG f') l' k=bndMRm (kD f) (kB f) (kG f) l k/\Bf (kD f') (kB f') (kG f') l' k=Bf (kD f) (kB f) (kG f) l k
 |[],l',_,hl,_=>by rw[ld]at hl;rw[hl];exact⟨rfl,rfl⟩
 | m::r,_,k,hl,hm=>by
  rw[ld]at hl;obtain⟨m',r',rfl,h1,h2⟩:=hl;have gx:=hm m k7;obtain⟨m1,⟨b,hb,m2⟩,_,t0,m4⟩:=hF.met m gx;obtain⟨_,g2,_⟩:=BY f;obtain⟨gc,d8,f8⟩:=al_ix h hF
  have gD:∀s∈kD f++kK,R.c s≠[]/\s≠[]/\lD (kD f') (R.c s)=lD (kD f) s:=fun s hs=>by
   refine⟨?_,?_,QQ h s hs hF.ownB⟩
   ·rcases bi.1 hs with hs|hs
    ·exact Eb (h.cb s hs)
    ·rw[h.lit s hs];exact OF hs
   ·rcases bi.1 hs with hs|hs
    ·exact Eb (hF.ownB s hs)
    ·exact OF hs
  obtain⟨i1,i2⟩:=ah hF r r' (k+m.body.cnt) h2 fun x hx=>hm x (by simp[hx])
  obtain⟨ν,e1,e2⟩:=h1.kJ;have hp:CR m.params=true:=by unfold C4 at m1;simp only[aN]at m1;exact m1.2.2.2.2
  have gP:=((BD _).1 hp).1;have gv:=((BD _).1 h1.par).1;have gY:=UG (P:=m.params) (P':=m'.params) (fun s hs=>⟨Eb (gv _ (e2 s hs).1),Eb (gP s hs),(e2 s hs).2⟩) gc gD m.kJ 1 ((DN m.kJ 1 b hb).1.1 m2).1;have hE:=SN gc f8 d8 m.body m'.body _ _ k h1.body (EE m4) (g2 m gx).2;have f0:=La m.body m'.body _ _ h1.body;exact⟨by rw[bndMRm,bndMRm,h1.kind,h1.name,d8 _ (g2 m gx).1,e1,gY,f0,i1],by rw[Bf,Bf,hE,f0,i2]⟩
theorem SM(hf:Cg f=true):A6 f'=A6 f:=by
 have hF:=Fe hf;obtain⟨k1,k2⟩:=ah h hF f.k9 f'.k9 0 h.met fun m hm=>hm;obtain⟨_,_,g3⟩:=BY f;obtain⟨gc,d8,f8⟩:=al_ix h hF;have hE:=fun k=>SN gc f8 d8 f.kH f'.kH _ _ k h.kH (EE hF.mainS) g3;have e1:CS f' f'.ak 0=CS f f.ak 0:=by rw[h.cls];exact ai h hF f.ak 0 fun c hc=>hc
 have e2:(Bj f').1.map (·.2)=(Bj f).1.map (·.2):=by rw[HC h];unfold mapG;rw[cr];rfl
 have e3:(kB f').length=(kB f).length:=by rw[Iu h,aY]
 unfold A6;rw[e1,e2,e3,k1,k2,hE]
end
end Go.DL
namespace Go.DL
open Go.Proofs.Tryz
open Go Go.Proofs
set_option maxHeartbeats 8000000
def setL:fP->fP->fP
 |[],a=>a
 |s::r,a=>setL r (ins s a)
def Tp(l:fP)(o:Own)(V:Sig)(hl:l.length<=1073741824):aB prog 254 [.slice (cS l) o] V fun x U'=> ∃im,V im=none/\x=.ret (.map im)/\U'=V.set im (.map (eSS (setL l []))):=by
 refine en func254 ntmps254 ?_;refine gz ?_;refine Ng (fun im gB=>?_);refine gz ?_;refine AG [2,3,7,8,16] (fun (k:Nat) (m:fP)=>k<=l.length/\setL l []=setL (l.drop k) m) (fun k _=>[(9,dI k)]) (fun _ m=>V.set im (.map (eSS m))) (fun k _=>l.length-k) (0) ([]) k7 (fun k m hI=>?_);obtain⟨hk,hR⟩:=hI
 by_cases gj:k<l.length
 ·rw[A0 gj,setL]at hR;refine gz ?_;exact⟨k+1,ins l[k] m,⟨k0,hR⟩,td1,wkR⟩
 ·rw[A1 gj,setL]at hR;refine gz ?_;exact kE (U':=V.set im (.map (eSS m))) ⟨im,gB,rfl,by rw[hR]⟩
def EK(f:Nat->Option Str):Nat->Nat->Option Str
 |0,_=>none
 |k+1,j=>match f j with
  |some w=>some w
  |none=>EK f k (j+1)
def Ey(f:Nat->Option Str)(k j:Nat):EK f (k+1) j=match f j with
 |some w=>some w
 |none=>EK f k (j+1):=rfl
def Ed(tk:fP):Nat->Str->Option Str
 |0,s=>if s∈lV\/s∈tk then none else some s
 |n+1,s=>EK (fun c=>Ed tk n (s++[UInt8.ofNat c])) 26 97
def KG(tk:fP):Option Str:=EK (fun k=>Ed tk k []) 8 1
def DoneY(l i2:Nat)(LO:kM)(w:Str)(V U':Sig):Prop:=U' l=some (Zu .ret LO)/\U' i2=some (.cells [.str w]) /\ ∀j o,V j=some o->j≠l->j≠i2->U' j=some o
def YR(tk:fP)(l i2:Nat)(LO:kM)(w:Str)(V:Sig)(x:DE)(U':Sig):Prop:=
 if w∈tk then x=.ret (.bool true)/\Sub V U' else x=.ret (.bool false)/\DoneY l i2 LO w V U'
def GR(o:Option Str)(l i2:Nat)(LO:kM)(V:Sig)(x:DE)(U':Sig):Prop:=match o with
 |none=>x=.ret (.bool true)/\Sub V U'
 |some w=>x=.ret (.bool false)/\DoneY l i2 LO w V U'
def DoneY.sub{l i2:Nat}{LO:kM}{w:Str}{V S1 S2:Sig}(h:Sub V S1)(k:DoneY l i2 LO w S1 S2):DoneY l i2 LO w V S2:=⟨k.1,k.2.1,fun j o hj h1 h2=>k.2.2 j o (h j o hj) h1 h2⟩
def VH(tk:fP)(l i2:Nat)(LO:kM)(Sb:Sig)(hl:Sb l=some LO)(e7:isLD LO=true)(h2:Sb i2=some (.cells [.str []]))(hy:∀(w:Str) V,Sub Sb V->w.length<=8->ku prog l [.str w] V (YR tk l i2 LO w V))(is ik i4:Nat):
  ∀(n:Nat) (s:Str) (o:Own) (V:Sig),s.length+n<=8->Sub Sb V->V is=some (.cells [dI ((s.length+n:Nat):Int)])->V ik=some (.map (eSS lV))->V i4=some (.cells [.func (.func 306) [] [.ptr is 0,.aw [.map ik] 0,.aw [.yld l] 0,.ptr i4 0]])->
   aB prog 306 [.slice (cB8 s) o,.ptr is 0,.aw [.map ik] 0,.aw [.yld l] 0,.ptr i4 0] V (GR (Ed tk n s) l i2 LO V):=by
 intro n
 induction n with
 | zero =>
  intro s o V hn hS o1 o2 o3;have e0:((s.length+0:Nat):Int)=s.length:=by omega
  rw[e0]at o1;refine en func306 ntmps306 ?_
  try refine gf (gi o1 o2) ?_ o306
  refine strR s ?_
  by_cases hk:s∈lV
  ·have hg:Ed tk 0 s=none:=by rw[Ed,aS (.inl hk)]
   rw[hg]
   try refine gf (gi o2 hk) ?_ o306
   refine skpV ?_
   try refine gz ?_ o306
   exact kE (U':=V) ⟨rfl,Sub.refl _⟩
  ·try refine gf (gi o2 hk) ?_ o306
   refine strR s ?_
   try refine gz ?_ o306
   refine yldWG (hy s V hS k0) (fun e U' hr=>?_) (fun e U' hr=>?_)
   ·by_cases ht:s∈tk
    ·have hg:Ed tk 0 s=none:=by rw[Ed,aS (.inr ht)]
     unfold YR at hr;rw[aS ht]at hr;obtain⟨e1,hr⟩:=hr;cases e1;rw[hg]
     try refine gz ?_ o306
     exact kE (U':=U') ⟨rfl,hr⟩
    ·have hg:Ed tk 0 s=some s:=by rw[Ed,aQ fun h=>h.elim hk ht]
     unfold YR at hr;rw[aQ ht]at hr;obtain⟨e1,hr⟩:=hr;cases e1;rw[hg]
     try refine gz ?_ o306
     exact kE (U':=U') ⟨rfl,hr⟩
   ·unfold YR at hr;split at hr<;>cases hr.1
 | succ n ih =>
  intro s o V hn hS o1 o2 o3;rw[Ed];have nl:∀{j x},Sb j=some x->Sb j=some x:=fun h=>h;have f8:∀{j f c1 c2 V},V j=some (.cells [.func f c1 c2])->Sub Sb V->j≠l/\j≠i2:=fun {j f c1 c2 V} h hS=>⟨fun e=>(by rw[e,hS _ _ hl]at h;cases h;cases e7),fun e=>(by rw[e,hS _ _ h2]at h;cases h)⟩
  refine en func306 ntmps306 ?_
  try refine gf o1 ?_ o306
  refine AG [0,4] (fun (j:Nat) (S1:Sig)=>j<=26/\Sub V S1/\EK (fun c=>Ed tk n (s++[UInt8.ofNat c])) 26 97=EK (fun c=>Ed tk n (s++[UInt8.ofNat c])) (26-j) (97+j)) (fun j _=>[(7,.int .u8 ((97+j:Nat):Int))]) (fun _ S1=>S1) (fun j _=>26-j) (0) (V) (by exact⟨k0,Sub.refl _,rfl⟩) (fun j S1 hI=>?_);obtain⟨hj,d9,hR⟩:=hI;have q1:=d9 _ _ o1;have q2:=d9 _ _ o2;have q3:=d9 _ _ o3;obtain⟨r1,r2⟩:=f8 q3 (hS.trans d9)
  by_cases iq:j<26
  ·rw[show 26-j=(26-(j+1))+1 by omega,Ey _ (26-(j+1))]at hR;have u3:(S1.out (fun x=>x=l\/x=i2)) i4=_:=EH q3 (fun h=>h.elim r1 r2);have gw:Sub (S1.out (fun x=>x=l\/x=i2)) S1:=C3 _ _
   try refine gf q3 ?_
   refine Ox (id:=6) [0,1,3,4,2,5,6,7] [2,5,6] (S1.out (fun x=>x=l\/x=i2)) (C3 _ _) ?_
   try refine gf u3 ?_ o306
   refine ZO (fun a ha=>?_) (hlen:=cB8_mem _)
   try refine gf u3 ?_ o306
   have hb:(UInt8.ofNat (97+j)).toNat=97+j:=by rw[UInt8.toNat_ofNat'];omega
   have gX:cB8 (s++[UInt8.ofNat (97+j)])=cB8 s++[[D.int .u8 (97+(j:Int))]]:=by unfold cB8;rw[bL,bg,cq,hb];simp
   have d7:Sub V (S1.set a (.tail (tab 5).size ((cB8 s).length+[[D.int IntKind.u8 (97+(j:Int))]].length))):=d9.trans ((Sub.refl _).set ha);have hlen:((s++[UInt8.ofNat (97+j)]).length+n:Nat)=s.length+(n+1):=by simp;omega
   have gL:=ih (s++[UInt8.ofNat (97+j)]) (.tag a) _ k0 (hS.trans d7) (by rw[hlen];exact d7 _ _ o1) (d7 _ _ o2) (d7 _ _ o3);rw[gX]at gL;have gJ:Sub (S1.out (fun x=>x=l\/x=i2)) (S1.set a (.tail (tab 5).size ((cB8 s).length+[[D.int IntKind.u8 (97+(j:Int))]].length))):=gw.trans ((Sub.refl _).set ha);have gO:IntKind.wrap .u8 (97+(j:Int)+1)=97+(j:Int)+1:=by rw[IntKind.wrap_u8];omega
   refine C6 gL (fun d U' hr=>?_) (fun d U' hr=>by unfold GR at hr;split at hr<;>cases hr.1);cases hg:Ed tk n (s++[UInt8.ofNat (97+j)])with
   |none=>
    rw[hg]at hr;obtain⟨e1,hr⟩:=hr;cases e1;rw[hg]at hR;refine⟨gJ.trans hr,?_⟩
    try refine gf gO ?_ o306
    exact⟨j+1,U',⟨k0,d7.trans hr,hR⟩,td1,wkR⟩
   | some w =>
    rw[hg]at hr;obtain⟨e1,hr⟩:=hr;cases e1;rw[hg]at hR;refine⟨fun q x hq=>?_,?_⟩
    ·obtain⟨h1,h2⟩:=Ct hq;exact hr.2.2 _ _ (gJ _ _ hq) (fun e=>h2 (.inl e)) (fun e=>h2 (.inr e))
    ·rw[hR]
     try refine gz ?_ o306
     exact kE (U':=U') ⟨rfl,hr.sub d7⟩
  ·have h0:∀f:Nat->Option Str,EK f 0 (97+j)=none:=fun _=>rfl;rw[show 26-j=0 by omega,h0]at hR;rw[hR]
   try refine gz ?_ o306
   exact kE (U':=S1) ⟨rfl,d9⟩
def G2(o:Option Str)(l i2:Nat)(LO:kM)(V:Sig)(x:DE)(U':Sig):Prop:=x=.ret (.tup [])/\match o with
 |none=>Sub V U'
 |some w=>DoneY l i2 LO w V U'
def VO(tk:fP)(l i2:Nat)(LO:kM)(V:Sig)(hl:V l=some LO)(e7:isLD LO=true)(h2:V i2=some (.cells [.str []]))(hy:∀(w:Str) U',Sub V U'->w.length<=8->ku prog l [.str w] U' (YR tk l i2 LO w U')):
  aB prog 286 [.yld l] V (G2 (KG tk) l i2 LO V):=by
 refine en func286 ntmps286 ?_
 try refine gz ?_ [] [3,4]
 refine Ad (Mg V) (fun d U' hr=>?_) (fun d U' hr=>by obtain⟨_,_,h,_⟩:=hr;cases h);obtain⟨ik,gR,e1,e2⟩:=hr;cases e1;rw[e2];clear e2 U';have o2:(V.set ik (.map (eSS lV))) ik=some (.map (eSS lV)):=w7 ..;have hS:Sub V (V.set ik (.map (eSS lV))):=(Sub.refl _).set gR;generalize V.set ik (.map (eSS lV))=S1 at*
 try refine gz ?_ [] [3,4]
 refine kR (fun i3 gN=>?_)
 try refine gz ?_ [] [3,4]
 refine E2 [1,2] (fun (k:Nat) (j3:Nat) (S2:Sig)=>1<=k/\k<=9/\Sub V S2/\S2 j3=some (.cells [dI (k:Int)])/\S2 ik=some (.map (eSS lV))/\KG tk=EK (fun k=>Ed tk k []) (9-k) k) (fun _ j3 _=>[(3,.ptr j3 0)]) (fun _ _ S2=>S2) (fun k _ _=>9-k) (1) (i3) (S1.set i3 (.cells [dI 1])) (by exact⟨k0,k0,hS.trans ((Sub.refl _).set gN),w7 .., by rw[w8 _ _ (A3 o2 gN)];exact o2,rfl⟩) (fun k j3 S2 hI=>?_);obtain⟨ij,g8,d7,q3,q2,hR⟩:=hI
 by_cases hk:k<=8
 ·rw[show 9-k=(9-(k+1))+1 by omega,Ey _ (9-(k+1))]at hR
  try refine gf q3 ?_ [] [3,4]
  refine kR (fun i4 gC=>?_)
  try refine gz ?_ [] [3,4]
  have n1:=A3 q3 gC;have n2:=A3 q2 gC;generalize gb:S2.set i4 (.cells [.func (.func 306) [] [.ptr j3 0,.aw [.map ik] 0,.aw [.yld l] 0,.ptr i4 0]])=S3;have r4:S3 i4=some (.cells [.func (.func 306) [] [.ptr j3 0,.aw [.map ik] 0,.aw [.yld l] 0,.ptr i4 0]]):=by rw[<-gb];exact w7 ..
  have r3:S3 j3=some (.cells [dI (k:Int)]):=by rw[<-gb,w8 _ _ n1];exact q3
  have r2:S3 ik=some (.map (eSS lV)):=by rw[<-gb,w8 _ _ n2];exact q2
  have gG:Sub V S3:=by rw[<-gb];exact d7.trans ((Sub.refl _).set gC)
  clear gb;have gH:=VH tk l i2 LO V hl e7 h2 hy j3 ik i4 k [] .no S3 (by simp;omega) gG (by simpa using r3) r2 r4;refine callWP gH (fun d U' hr=>?_) (fun d U' hr=>by unfold GR at hr;split at hr<;>cases hr.1);cases hg:Ed tk k []with
  |none=>
   rw[hg]at hr hR;obtain⟨e1,hr⟩:=hr;cases e1;have s3:=hr _ _ r3
   try refine gf s3 ?_ [] [3,4]
   refine kR (fun i5 gM=>?_);have n5:=A3 (hr _ _ r2) gM
   try refine gz ?_ [] [3,4]
   have g7:((k:Int)+1)=((k+1:Nat):Int):=by omega
   exact⟨k+1,i5,U'.set i5 (.cells [dI ((k+1:Nat):Int)]),⟨k0,k0,(gG.trans hr).trans ((Sub.refl _).set gM),w7 .., by rw[w8 _ _ n5];exact hr _ _ r2,hR⟩,td1,wkR⟩
  |some w=>
   rw[hg]at hr hR;obtain⟨e1,hr⟩:=hr;cases e1
   try refine gz ?_ [] [3,4]
   refine fin0 (U':=U') ⟨rfl,?_⟩;rw[hR];exact hr.sub gG
 ·have h0:∀f:Nat->Option Str,EK f 0 k=none:=fun _=>rfl;rw[show 9-k=0 by omega,h0]at hR
  try refine gf q3 ?_ [] [3,4]
  refine EA (U':=S2) ⟨rfl,?_⟩;rw[hR];exact d7
def rangeY{P:Program}{n:Nat}{Q:DX->St->Prop}{γ:Fr}{V:Sig}{df:List DDf}{gop:Operand}{ps:Array Tmp}{asg body:Code}{f:Nat}{first cap:fQ}(i2:Nat)(o:Option Str){x2:kM}(fY:V i2=some x2)
  (hf:ev γ gop=.func (.func f) first cap)
  (ga:∀l did LO,LO=kM.loop .ready none ps asg body n γ did->V did=none->(V.set did .defs) l=none->aB P f (first++[.yld l]++cap) ((V.set did .defs).set l LO) (G2 o l i2 LO ((V.set did .defs).set l LO)))
  (fX:o=none->∀did U',V did=none->U' did=some .defs->(∀j x,V j=some x->U' j=some x/\j≠did)->Q .normal ⟨γ,U',.coll did::df⟩)
  (e8:∀w,o=some w->∀did U',V did=none->U' did=some .defs->U' i2=some (.cells [.str w])->(∀j x,V j=some x->j≠i2->U' j=some x/\j≠did)->DWp P none n .ret Q ⟨γ,U',.coll did::df⟩) :
  DWp P none n (.rangeFunc gop ps asg body) Q ⟨γ,V,df⟩:=by
 refine FK (R:=fun l did x U'=>G2 o l i2 (kM.loop .ready none ps asg body n γ did) ((V.set did .defs).set l (kM.loop .ready none ps asg body n γ did)) x U') hf (fun l did hd hl d6=>?_) (fun l did d U' hd hl d6 hr=>?_) (fun l did d U' hd hl d6 hr=>by cases hr.1)
 ·have gh:(V.set did .defs) l=none:=by first|exact hl|(rw[w8 _ _ d6];exact hl)
  exact ga l did _ rfl hd gh
 ·have gh:(V.set did .defs) l=none:=by first|exact hl|(rw[w8 _ _ d6];exact hl)
  have gQ:V l=none:=by rw[w8 _ _ d6]at gh;exact gh
  have dl:∀j,j≠l->(U'.del l) j=U' j:=fun j h=>by simp only[Sig.del,h,bl]
  have b1:∀j x,V j=some x->((V.set did .defs).set l (kM.loop .ready none ps asg body n γ did)) j=some x/\j≠l/\j≠did:=fun j x hj=>by
   have e1:j≠l:=A3 hj gQ;have e2:j≠did:=A3 hj hd;exact⟨k8 e1 (k8 e2 hj),e1,e2⟩
  have b2:((V.set did .defs).set l (kM.loop .ready none ps asg body n γ did)) did=some .defs:=by rw[w8 _ _ (aZ d6)];exact w7 ..
  obtain⟨e1,hr⟩:=hr;cases o with
  |none=>
   have hr:Sub _ U':=hr;refine⟨.ready,none,hr _ _ (w7 ..),k7,fX rfl did _ hd (by rw[dl _ (aZ d6)];exact hr _ _ b2) fun j x hj=>?_⟩;obtain⟨c1,c2,c3⟩:=b1 j x hj;exact⟨by rw[dl _ c2];exact hr _ _ c1,c3⟩
  |some w=>
   obtain⟨d1,d2,d3⟩:DoneY l i2 _ w _ U':=hr;obtain⟨c1,c2,c3⟩:=b1 _ _ fY;refine⟨.done,some .ret,d1,k7,e8 w rfl did _ hd (by rw[dl _ (aZ d6)];exact d3 _ _ b2 (aZ d6) (aZ c3)) (by rw[dl _ c2];exact d2) fun j x hj hn=>?_⟩;obtain⟨c1,c2,c3⟩:=b1 j x hj;exact⟨by rw[dl _ c2];exact d3 _ _ c1 c2 hn,c3⟩
def E6(tk:fP):Str:=(KG tk).getD []
def Pf(tk:fP)(im:Nat)(V:Sig)(hm:V im=some (.map (eSS tk))):aB prog 253 [.map im] V (rS (.str (E6 tk)) V):=by
 refine Bw func253 rfl (by decide) ntmps253 k7 ?_
 try refine gz ?_ [] [2]
 refine kR (fun i2 fY=>?_);have n1:im≠i2:=A3 hm fY;have gA:(V.set i2 (.cells [.str []])) im=some (.map (eSS tk)):=by rw[w8 _ _ n1];exact hm
 try refine gz ?_ [] [2]
 refine rangeY i2 (KG tk) (w7 ..) rfl (fun l did LO e7 hd hl=>?_) (fun ho did U' gU fZ hk=>?_) (fun w ho did U' gU fZ gI hk=>?_)
 ·have e1:i2≠did:=fun e=>by rw[<-e,w7]at hd;cases hd
  have e2:im≠did:=fun e=>by rw[<-e,gA]at hd;cases hd
  have e3:i2≠l:=fun e=>by rw[<-e,w8 _ _ e1,w7]at hl;cases hl
  have e4:im≠l:=fun e=>by rw[<-e,w8 _ _ e2,gA]at hl;cases hl
  refine VO tk l i2 LO _ (w7 ..) (Kt e7).1 (k8 e3 (k8 e1 (w7 ..))) fun w S1 hS gr=>?_;have g1:S1 l=some LO:=hS _ _ (w7 ..);have g2:S1 im=some (.map (eSS tk)):=hS _ _ (k8 e4 (k8 e2 gA));have g3:S1 i2=some (.cells [.str []]):=hS _ _ (k8 e3 (k8 e1 (w7 ..)));refine EW e7 g1 ?_
  try refine gz ?_ [] [2]
  refine⟨g1,?_⟩;have g2b:(S1.set l (Cx LO)) im=some (.map (eSS tk)):=by rw[w8 _ _ e4];exact g2
  by_cases hw:w∈tk
  ·try refine gf (gi g2 hw) ?_ [] [2]
   exact⟨w7 .., by unfold YR;rw[aS hw];exact⟨rfl,by rw[w9,Sig.set_self _ g1];exact Sub.refl _⟩⟩
  ·try refine gf (gi g2 (gi g3 hw)) ?_ [] [2]
   refine⟨(w8 _ _ (aZ e3)).trans (w7 ..),?_⟩;unfold YR;rw[aQ hw];refine⟨rfl,w7 .., (w8 _ _ e3).trans (w7 ..),fun j o hj h1 h2=>?_⟩;show(((S1.set l (Cx LO)).set i2 (.cells [.str w])).set l (Zu .ret LO)) j=some o;rw[w8 _ _ h1,w8 _ _ h2,w8 _ _ h1];exact hj
 ·have hf:E6 tk=[]:=by unfold E6;rw[ho];rfl
  have h2:=(hk i2 _ (w7 ..)).1;have gk:i2≠did:=(hk i2 _ (w7 ..)).2;have gV:did≠i2:=aZ gk
  try refine gf h2 ?_ [] [2]
  refine finMC [did] (U':=V) (ds:=[.str []]) ⟨by rw[hf];rfl,rfl⟩ (fun j x hj=>?_) k7 (by simp[w8 _ _ gV,fZ]) (by simp[resL,dels,Sig.del,gk]) (A9 _);have ne2:j≠i2:=A3 hj fY;obtain⟨c1,c2⟩:=hk j x (k8 ne2 hj);rw[KZ _ _ _ (by simpa using c2),w8 _ _ ne2];exact c1
 ·have hf:E6 tk=w:=by unfold E6;rw[ho];rfl
  have gk:i2≠did:=fun e=>by rw[<-e,gI]at fZ;cases fZ
  try refine gz ?_ [] [2]
  refine finMC [did] (U':=V) (ds:=[.str w]) ⟨by rw[hf];rfl,rfl⟩ (fun j x hj=>?_) k7 (by simp[fZ]) (by simp[resL,dels,Sig.del,gk,gI]) (A9 _);have ne2:j≠i2:=A3 hj fY;obtain⟨c1,c2⟩:=hk j x (k8 ne2 hj) ne2;rw[KZ _ _ _ (by simpa using c2)];exact c1
def R4(x:Str): ∀(l m:fP),x∈setL l m ↔ x∈l\/x∈m
 |[],m=>by simp[setL]
 |y::r,m=>by rw[setL,R4 x r,Et,be];grind
def Gw{f g:Nat->Option Str}(h:∀j,f j=g j): ∀k j,EK f k j=EK g k j
 |0,_=>rfl
 |k+1,j=>by rw[Ey,Ey,h j,Gw h k]
def KB{a b:fP}(h:∀x,x∈a ↔ x∈b): ∀(n:Nat) (s:Str),Ed a n s=Ed b n s
 |0,s=>by rw[Ed,Ed];simp only[h s]
 |n+1,s=>by rw[Ed,Ed];exact Gw (fun j=>KB h n _) _ _
def P0{a b:fP}(h:∀x,x∈a ↔ x∈b):E6 a=E6 b:=by
 unfold E6 KG;rw[Gw fun k=>KB h k []]
def Wc(l:fP)(o:Own)(V:Sig)(hl:l.length<=1073741824):aB prog 213 [.slice (cS l) o] V (rS (.str (E6 l)) V):=by
 refine en func213 ntmps213 ?_
 try refine gz ?_
 refine Ad (Tp l o V hl) (fun x S1 hr=>?_) (fun x S1 hr=>by obtain⟨_,_,h,_⟩:=hr;cases h);obtain⟨im,gB,e1,e2⟩:=hr;cases e1;rw[e2]
 repeat' first|refine gz ?_|refine Au (Pf (setL l []) im _ (w7 ..)) ?_|refine callP (Pf (setL l []) im _ (w7 ..)) ?_|refine gz ?_|apply gy<;>intro hh
 refine kE (U':=V) ⟨rfl,rfl⟩ ((Sub.refl _).set gB) (hw:=?_);refine B9 ?_;rw[P0 (a:=setL l []) (b:=l) fun x=>by rw[R4];simp]
@[reducible,instance] def a213:=fun l o V=>ah1 (@Wc l o V)
def Di:Nat->fP->fP
 |0,out=>out
 |n+1,out=>Di n (out++[E6 out])
def freshN(n:Nat):fP:=Di n []
def M2: ∀(n:Nat) (l:fP),(Di n l).length=l.length+n
 |0,l=>rfl
 |n+1,l=>by rw[Di,M2 n,aO];simp;omega
def Gz(n:Nat)(V:Sig)(hn:n<=1073741824):aB prog 134 [dI n] V (rS (sl (cS (freshN n))) V):=by
 refine en func134 ntmps134 ?_
 try refine gz ?_
 refine BL 3 1 (fun i hi=>?_);refine AG [2,5,15] (fun (k:Nat) (out:fP)=>k<=n/\out.length=k/\freshN n=Di (n-k) out) (fun k out=>[(6,dI k),(3,.slice (cS out) (.tag i))]) (fun _ out=>V.set i (.tail 1 out.length)) (fun k _=>n-k) (0) ([]) (by simp[freshN]) (fun k out hI=>?_);obtain⟨hk,gg,hR⟩:=hI
 by_cases gj:k<n
 ·rw[show n-k=(n-(k+1))+1 by omega,Di]at hR
  try refine gz ?_
  exact⟨k+1,out++[E6 out],⟨k0,by rw[aO,gg];rfl,hR⟩,td1,wkR⟩
 ·rw[show n-k=0 by omega,Di]at hR
  try refine gz ?_
  rw[hR];exact kE (U':=V) ⟨rfl,rfl⟩
@[reducible,instance] def a134:=fun n V=>ah1 (@Gz n V)
def MT:Nat->Nat->Str->Str
 |0,_,s=>s
 |f+1,n,s=>if n=0 then s else MT f ((n-1) / 26) (UInt8.ofNat (97+(n-1) % 26)::s)
def Lh(n:Nat):Str:=MT n n []
def O0: ∀(f n:Nat) (s:Str),(MT f n s).length<=f+s.length
 |0,_,s=>by rw[MT];omega
 | f+1,n,s=>by
  rw[MT];split
  ·omega
  ·have:=O0 f ((n-1) / 26) (UInt8.ofNat (97+(n-1) % 26)::s);rw[aV]at this;omega
def SR(f:Nat)(s:Str):MT f 0 s=s:=by cases f<;>simp[MT]
def W6(n:Nat)(V:Sig)(hn:n<=100000):aB prog 225 [dI n] V (rS (.str (Lh n)) V):=by
 refine en func225 ntmps225 ?_;refine gz ?_;refine E2 [2,18] (fun (m:Nat) (f:Nat) (s:Str)=>m<=f/\f<=n/\s.length+f<=n/\MT f m s=Lh n) (fun m _ s=>[(0,dI m),(3,.str s)]) (fun _ _ _=>V) (fun m _ _=>m) (n) (n) ([]) (by exact⟨k0,k0,k7,rfl⟩) (fun m f s hI=>?_);obtain⟨hm,hf,hs,hR⟩:=hI
 by_cases h0:m=0
 ·subst h0;rw[SR]at hR;refine gz ?_;refine kE (U':=V) ?_;exact⟨by rw[hR],rfl⟩
 ·obtain⟨k,rfl⟩:∃k,m=k+1:=⟨m-1,k0⟩;obtain⟨g,rfl⟩:∃g,f=g+1:=⟨f-1,k0⟩;rw[MT,aQ h0,Nat.add_sub_cancel]at hR;have e1:(k:Int).tmod 26=((k % 26:Nat):Int):=rfl;have e2:(k:Int).tdiv 26=((k / 26:Nat):Int):=rfl;have hr:k % 26<26:=Nat.mod_lt _ k0;have hq:k / 26<=k:=Nat.div_le_self _ _;generalize k % 26=r at*;generalize k / 26=q at*;have e3:IntKind.wrap .u8 (97+(r:Int))=97+(r:Int):=by rw[IntKind.wrap_u8];omega
  have e4:(UInt8.ofNat (97+r)).toNat=97+r:=by rw[UInt8.toNat_ofNat'];omega
  have e5:cB8 [UInt8.ofNat (97+r)]=[[.int .u8 (97+(r:Int))]]:=by unfold cB8;rw[bg,e4];rfl
  clear e4;generalize UInt8.ofNat (97+r)=ch at*;refine gf (gi e1 (gi e2 e3)) ?_;refine strR [ch] ?_ (hx:=by rw[e5];with_unfolding_all rfl);refine gf (gi e1 e2) ?_;exact⟨q,g,ch::s,⟨k0,k0,by simp only[aV];omega,hR⟩,td1,wkR⟩
@[reducible,instance] def a225:=fun n V=>ah1 (@W6 n V)
def okW(l:fP)(n:Nat):Bool:=Ak (Lh n)&&!decide (Lh n∈l)
def frO(l:fP):Nat->Nat->Option Str
 |0,_=>none
 |f+1,n=>if okW l n=true then some (Lh n) else frO l f (n+1)
def WI(l:fP)(w:Str)(o:Own)(V:Sig)(hl:l.length<=1073741824)(hw:frO l 10000 1=some w):aB prog 164 [.slice (cS l) o] V (rS (.str w) V):=by
 refine en func164 ntmps164 ?_;refine gz ?_;refine AG [0,2,16,17] (fun (m:Nat) (f:Nat)=>m+f=10001/\1<=m/\frO l f m=some w) (fun m _=>[(3,dI m)]) (fun _ _=>V) (fun _ f=>f) (1) (10000) (by exact⟨k0,k0,hw⟩) (fun m f hI=>?_);obtain⟨hm,h1,hR⟩:=hI;cases f with
 |zero=>cases hR
 | succ g =>
  rw[frO]at hR;have gr:=O0 m m [];have gr:(Lh m).length<=1073741824:=by unfold Lh;simp only[cG]at gr;omega
  unfold okW at hR;cases hn:Ak (Lh m)with
  |false=>
   rw[hn,bw,aQ k7]at hR;refine gf hn ?_;exact⟨m+1,g,⟨k0,k0,hR⟩,td1,wkR⟩
  | true =>
   by_cases hi:Lh m∈l
   ·rw[hn,bf hi,aQ k7]at hR;refine gf (gi hn hi) ?_;exact⟨m+1,g,⟨k0,k0,hR⟩,td1,wkR⟩
   ·rw[hn,ba hi,aS k7]at hR;cases hR;refine gf (gi hn hi) ?_;exact kE (U':=V) ⟨rfl,rfl⟩
def refM:Nat->fP->fP->Option fP
 |0,_,out=>some out
 |k+1,l,out=>match frO l 10000 1 with
  |none=>none
  |some w=>refM k (l++[w]) (out++[w])
def RI(n:Nat)(l ws:fP)(o:Own)(V:Sig)(hl:l.length+n<=1000000000)(hw:refM n l []=some ws):aB prog 73 [.slice (cS l) o,dI n] V (rS (sl (cS ws)) V):=by
 refine en func73 ntmps73 ?_;refine gz ?_;refine appN (fun i hi=>?_);refine gz ?_;refine BL 5 1 (fun j hj=>?_);obtain⟨n1,gK⟩:=A8 hj;generalize go:Sig.set (Sig.set V i _) j _=S0;have q1:S0 i=some (.tail 1 (l++([]:fP)).length):=by rw[<-go,w8 _ _ (aZ n1),w7];simp
 have q2:S0 j=some (.tail 1 ([]:fP).length):=by rw[<-go,w7];rfl
 have hS:Sub V S0:=fun x y hx=>by rw[<-go,w8 _ _ (A3 hx gK),w8 _ _ (A3 hx hi)];exact hx
 clear go;refine E2 [1,4,25] (fun (k:Nat) (out:fP) (S1:Sig)=>k<=n/\refM (n-k) (l++out) out=some ws/\out.length=k/\S1 i=some (.tail 1 (l++out).length)/\S1 j=some (.tail 1 out.length)/\Sub V S1) (fun k out _=>[(6,dI k),(0,.slice (cS (l++out)) (.tag i)),(5,.slice (cS out) (.tag j))]) (fun _ _ S1=>S1) (fun k _ _=>n-k) (0) ([]) (S0) (by exact⟨k0,by simpa using hw,rfl,q1,q2,hS⟩) (fun k out S1 hI=>?_);obtain⟨hk,hR,gg,o1,o2,oS⟩:=hI
 by_cases gj:k<n
 ·rw[show n-k=n-(k+1)+1 by omega,refM]at hR;cases hf:frO (l++out) 10000 1 with
  |none=>rw[hf]at hR;cases hR
  |some w=>
   rw[hf]at hR;have gZ:(l++out).length=l.length+k:=by rw[aO,gg]
   have i164:∀V:Sig,Ans 164 [.slice (cS (l++out)) (.tag i)] V True (.str w):=fun V=>ah0 (WI _ w _ V k0 hf);have hne:i≠j:=aZ n1;have ecs:cS (l++out)++[[D.str w]]=cS (l++(out++[w])):=by simp[cS]
   have ecs2:cS out++[[D.str w]]=cS (out++[w]):=by simp[cS]
   refine gf (gi o1 o2) ?_;simp only[ecs,ecs2];generalize gF:Sig.set (Sig.set S1 i _) j _=S2;have z1:S2 i=some (.tail 1 (l++(out++[w])).length):=by rw[<-gF,w8 _ _ hne,w7];simp;omega
   have z2:S2 j=some (.tail 1 (out++[w]).length):=by rw[<-gF,w7];simp
   have zS:Sub V S2:=fun x y hx=>by rw[<-gF,w8 _ _ (A3 hx gK),w8 _ _ (A3 hx hi)];exact oS x y hx
   exact⟨k+1,out++[w],S2,⟨k0,by rw[<-bc];exact hR,by rw[aO,gg];rfl,z1,z2,zS⟩,td1,wkR⟩
 ·rw[show n-k=0 by omega,refM]at hR;cases hR;refine gz ?_;exact finS (U':=V) ⟨rfl,rfl⟩
def cSp(p:aD)(a b c:fP):D:=.aw [.aw [sl (p.ak.map kF),dI p.am,sl (cI p.au),sl (p.k9.map Av),sl (p.kC.map Ai),dI p.kH,sl (cS a),sl (cS b),sl (cS c)] 0] 0
def WW(p:aD)(a b c:fP)(n:Nat)(V:Sig)(hn:n<a.length)(ha:a.length<=1073741824):aB prog 138 [dI n,cSp p a b c] V (rS (.str ((a[n]?).getD [])) V):=by
 have hc:cSp p a b c=.aw [.aw [sl (p.ak.map kF),dI p.am,sl (cI p.au),sl (p.k9.map Av),sl (p.kC.map Ai),dI p.kH,sl (cS a),sl (cS b),sl (cS c)] 0] 0:=rfl;have hg:(a[n]?).getD []=a[n]:=by rw[aT hn];rfl
 rw[hc,hg];refine en func138 ntmps138 ?_;refine gz ?_;exact fe1 trivial
def WV(p:aD)(a b c:fP)(n:Nat)(V:Sig)(hn:n<b.length)(ha:b.length<=1073741824):aB prog 139 [dI n,cSp p a b c] V (rS (.str ((b[n]?).getD [])) V):=by
 have hc:cSp p a b c=.aw [.aw [sl (p.ak.map kF),dI p.am,sl (cI p.au),sl (p.k9.map Av),sl (p.kC.map Ai),dI p.kH,sl (cS a),sl (cS b),sl (cS c)] 0] 0:=rfl;have hg:(b[n]?).getD []=b[n]:=by rw[aT hn];rfl
 rw[hc,hg];refine en func139 ntmps139 ?_;refine gz ?_;exact fe1 trivial
def Wa(p:aD)(a b c:fP)(n:Nat)(V:Sig)(hn:n<b.length)(ha:b.length<=1073741824):aB prog 216 [dI n,cSp p a b c] V (rS (.str ((b[n]?).getD [])) V):=by
 have hc:cSp p a b c=.aw [.aw [sl (p.ak.map kF),dI p.am,sl (cI p.au),sl (p.k9.map Av),sl (p.kC.map Ai),dI p.kH,sl (cS a),sl (cS b),sl (cS c)] 0] 0:=rfl;have hg:(b[n]?).getD []=b[n]:=by rw[aT hn];rfl
 rw[hc,hg];refine en func216 ntmps216 ?_;refine gz ?_;exact fe1 trivial
def WT(p:aD)(a b c:fP)(n:Nat)(v:Int)(V:Sig)(hn:n<b.length)(ha:b.length<=1073741824):aB prog 141 [.agg [dI n,dI v],cSp p a b c] V (rS (.agg (Dz ⟨(b[n]?).getD [],v⟩)) V):=by
 have hc:cSp p a b c=.aw [.aw [sl (p.ak.map kF),dI p.am,sl (cI p.au),sl (p.k9.map Av),sl (p.kC.map Ai),dI p.kH,sl (cS a),sl (cS b),sl (cS c)] 0] 0:=rfl;have hg:(b[n]?).getD []=b[n]:=by rw[aT hn];rfl
 rw[hc,hg];refine en func141 ntmps141 ?_;refine gz ?_ o141;refine kR (fun i hi=>?_);refine gz ?_ o141;exact lI (U':=V) ⟨rfl,rfl⟩
end Go.DL
