/- A part of the proof. -/
import Derived.Test.YtlfimpogphmbdaaGreatH27
set_option linter.all false
namespace Go.DL
open Go.Proofs.Tryz
open Go Go.Proofs
def F0{free am own:fP}{t:Bool}{e:aH}(h:DD free am own t e=true): ∀x∈kY e [],x∈free:=by
 unfold DD at h;rw[aN]at h;exact fun x hx=>bx (bh.1 h.2 x hx)
def renS(f:aL):Ren where
 c:=fun s=>ixS (kK++freshN f.ak.length) (lD (kD f) s)
 s:=fun s=>ixS (freshN (kB f).length) (idxG s (kB f) 0)
 g:=fun s=>ixS (freshN (kG f).length) (idxG s (kG f) 0)
def DJ{x:Str}: ∀(l:fP) (k:Nat),x∈l->∃j:Nat, ∃h:j<l.length,l[j]=x/\idxG x l k=((k+j:Nat):Int)
 |[],_,h=>by cases h
 | y::r,k,h=>by
  rw[idxG]
  by_cases e:y=x
  ·exact⟨0,k7,e,by rw[aS e];rfl⟩
  ·obtain⟨j,h1,h2,h3⟩:=DJ r (k+1) ((be.1 h).resolve_left fun h=>e h.symm);exact⟨j+1,by rw[aV];omega,by rw[dB];exact h2,by rw[aQ e,h3];omega⟩
def Vo{n i j:Nat}(h:n<=128)(hi:i<n)(hj:j<n)(e:ixS (freshN n) (i:Int)=ixS (freshN n) (j:Int)):i=j:=by
 have hl:=Ax n;rw[I8 k0,I8 k0]at e;have h1:=IT (FG h).1 (j:=i) k0;have h2:=IT (FG h).1 (j:=j) k0;rw[e,h2]at h1;omega
def Qw{l:fP}{n:Nat}(hn:n=l.length)(h:n<=128){x y:Str}(hx:x∈l)(hy:y∈l)(e:ixS (freshN n) (idxG x l 0)=ixS (freshN n) (idxG y l 0)):x=y:=by
 obtain⟨i,i1,i2,i3⟩:=DJ l 0 hx;obtain⟨j,j1,j2,j3⟩:=DJ l 0 hy;rw[i3,j3,bZ,bZ]at e;have:=Vo h k0 k0 e;subst this;rw[<-i2,<-j2]
def Nq{l:fP}{n:Nat}(hn:n=l.length)(h:n<=128){x:Str}(hx:x∈l):Ak (ixS (freshN n) (idxG x l 0))=true:=by
 obtain⟨i,i1,i2,i3⟩:=DJ l 0 hx;have hl:=Ax n;rw[i3,bZ,I8 k0];exact(FG h).2 _ (aR _)
def Ve{l:fP}{i:Int}(h:0<=i):ixS (kK++l) (i+3)=ixS l i:=by
 unfold ixS;rw[show(i+3).toNat=3+i.toNat by omega,bP (by show 3<=_;omega),show 3+i.toNat-kK.length=i.toNat by show 3+i.toNat-3=_;omega]
def Yi{f:aL}{x:Str}(hF:FOK f)(hx:x∈kD f):(renS f).c x=ixS (freshN f.ak.length) (idxG x (kD f) 0):=by
 obtain⟨i,_,_,i3⟩:=DJ (kD f) 0 hx
 show ixS (kK++_) (lD (kD f) x)=_;rw[Iq hF hx,Ve k0]
def LN(S O:fP): ∀(l:List aK) (b:Int),0<=b->Dn S O l b=true->((wtL (fun m:aK=>m.body.cnt) l:Nat):Int)<=b
 |[],b,hb,_=>by rw[wtL];exact hb
 | m::r,b,hb,h=>by
  rw[Dn,aN]at h;have h1:=GN S O m b hb h.1;have h2:=LN S O r _ h1.1 h.2;have h3:=h.1;rw[wtL]
  have:(Cv S O m b).2+m.body.cnt<=b:=by
   unfold Cv at h3⊢;split at h3
   ·rename_i q1;split at h3
    ·rename_i q2;rw[aS q1,aS q2];have:=(IV (P:=m.params) (S:=S) (C:=O++kK) m.kJ 1 b).1;unfold aH.cnt;simp only;omega
    ·cases h3
   ·cases h3
  omega
def H3(A S G:fP): ∀(l:List aK) (k:Nat),(Bf A S G l k).length=wtL (fun m:aK=>m.body.cnt) l
 |[],_=>by rw[Bf,wtL];rfl
 |m::r,k=>by rw[Bf,wtL,aO,BR,H3 A S G r]
structure BndOK(f:aL):Prop where
 kC:(A6 f).kC.length<=120
 cls:f.ak.length<=10
 slo:(kB f).length<=40
 gen:(kG f).length<=8
 met:f.k9.length<=16
def MG{f:aL}(h:Cg f=true):BndOK f:=by
 have hF:=Fe h;unfold Cg Ib D9 at h;simp only[aN,aP]at h;obtain⟨⟨h1,⟨h2,h3,h4,h5⟩,h6,h7⟩,⟨h8,h9⟩,iC,iB,iA⟩:=h;have h2:f.ak.length<=10:=by simpa using h2
 refine⟨?_,h2,?_,by unfold kG;rw[aY];exact iA,h1⟩
 ·show(Bf _ _ _ f.k9 0++CB _ _ _ f.kH [] _).length<=120;rw[aO,H3,BR];have:=LN (kB f) (kD f) f.k9 _ h8 iC;unfold budR at this;unfold aH.cnt at this⊢;omega
 ·have:∀(l:List aJ) (own:fP),BH own l=true->(l.flatMap (·.am)).length<=4*l.length:=fun l=>by
   induction l with
   |nil=>intro _ _;simp
   |cons c r ih=>
    intro own hc;simp only[BH,aN,bA,bk]at hc;have:=ih _ hc.2.2;rw[cx,aO,aV];omega
  have:=this f.ak [] h3;unfold kB;omega
def QZ{f:aL}(hG:(Bj f).2=true):(∀m∈f.k9,Told (Bj f).1 m.name m.params.length/\l9 (Lf (Bj f).1) m.body)/\l9 (Lf (Bj f).1) f.kH:=by
 obtain⟨_,_,a3⟩:=Ko f.k9 ([],true);obtain⟨⟨H2,b1⟩,_,b3⟩:=Fd (Br f) (metG f.k9 ([],true));have eG:AV (Br f) (metG f.k9 ([],true))=Bj f:=rfl;rw[eG]at b1 b3;obtain⟨c1,c2⟩:=b3 hG;have hm:=Iv _ c2;obtain⟨_,d2⟩:=a3 c1;refine⟨fun m ga=>⟨by rw[b1];exact HL (d2 m ga),hm _ (by unfold Br;exact bu _ (cp ga))⟩,hm _ (by unfold Br;simp)⟩
def JZ{f:aL}{s:Str}{n:Int}(h:Told (Bj f).1 s n): ∃j:Nat,j<(kG f).length/\idxG s (kG f) 0=j/\(A6 f).au[j]? = some n:=by
 obtain⟨h1,h2⟩:=h;obtain⟨j,hj,e1,e2⟩:=Jw s _ 0 h1;refine⟨j,by unfold kG;rw[aY];exact hj,by unfold kG;rw[e1];omega,?_⟩;show((Bj f).1.map (·.2))[j]? = _;rw[bN,aT hj,<-h2,<-e2];rfl
section
variable {f:aL}(hf:Cg f=true)
include hf
theorem sp_fact{m:aK}(gK:[]∉m.params)(P':fP): ∀(x:aI) (d:Int),CX (lN m.params (kB f) (kD f++kK)) x d=true->
  spF (kK++freshN f.ak.length) (freshN (kB f).length) P' (E4 (kD f) (kB f) m.params x)=reF (renS f).c (renS f).s (fun s=>ixS P' (idxG s m.params 0)) x:=by
 have hF:=Fe hf
 have g7:∀c∈kD f++kK,c≠[]:=fun c hc=>by
  rcases bi.1 hc with h|h
  ·exact Eb (hF.ownB c h)
  ·exact OF h
 have kH : ∀ (n:Nat) (x:aI) (d:Int),x.wt<=n->CX (lN m.params (kB f) (kD f++kK)) x d=true->spF (kK++freshN f.ak.length) (freshN (kB f).length) P' (E4 (kD f) (kB f) m.params x)=reF (renS f).c (renS f).s (fun s=>ixS P' (idxG s m.params 0)) x:=fun n=>by
  induction n with
  |zero=>intro x d hx;have:=x.wt_pos;omega
  | succ n ih =>
   intro x d hw hx;cases x with
   | mk o s p c n' k =>
    have iD:(aI.mk o s p c n' k).wt=1+s.length+wtS p+c.length+wtL aI.wt k:=aI.wt_eq _;rw[CX,aN]at hx;obtain⟨h1,h2⟩:=hx;unfold lN fctB fctC at h1;simp only[aN]at h1;obtain⟨_,_,⟨⟨⟨_,q1⟩,_⟩,⟨q2,q3⟩,_⟩,q4⟩:=h1;have q1:(if Al o=true then decide (s∈m.params) else(decide (s=[])&&decide (p=[])))=true:=q1;have q2:(decide (o=2) == !decide (c=[]))=true:=q2;have q3:(!decide (o=2)||decide (c∈kD f++kK))=true:=q3
    have hk:∀(l:List aI),wtL aI.wt l<=n->Bi (lN m.params (kB f) (kD f++kK)) l (d+1)=true->spFs (kK++freshN f.ak.length) (freshN (kB f).length) P' (C2 (kD f) (kB f) m.params l)=reFs (renS f).c (renS f).s (fun s=>ixS P' (idxG s m.params 0)) l:=fun l=>by
     induction l with
     |nil=>intro _ _;rw[C2,spFs,reFs]
     |cons y r ih2=>
      intro hl hy;rw[wtL]at hl;rw[Bi,aN]at hy;rw[C2,spFs,reFs,ih y (d+1) k0 hy.1,ih2 k0 hy.2]
    rw[E4,spF,reF,hk k k0 h2,cr]
    congr 1
    ·by_cases hn:Al o=true
     ·have ho:o=2\/o=3\/o=4:=by simpa[Al] using hn
      rw[aS hn]at q1;have hs:s∈m.params:=bx q1;rw[aS ho,aS hn,aQ fun e:s=[]=>gK (by rw[<-e];exact hs)]
     ·have ho:¬(o=2\/o=3\/o=4):=by simpa[Al] using hn
      rw[aQ ho,aQ hn]
    ·by_cases h2:o=2
     ·have:c∈kD f++kK:=by simpa[h2] using q3
      rw[aS h2,aS h2,aQ (g7 c this)];rfl
     ·rw[aQ h2,aQ h2]
 exact fun x d=>kH _ x d (bn _)
theorem ZJ:(∀s∈kB f,ixS (freshN (kB f).length) (idxG s (kB f) 0)=(renS f).s s/\Ak ((renS f).s s)=true)/\(∀s∈kG f,ixS (freshN (kG f).length) (idxG s (kG f) 0)=(renS f).g s/\Ak ((renS f).g s)=true) /\
  ∀s∈kD f,ixS (kK++freshN f.ak.length) (lD (kD f) s)=(renS f).c s/\Ak ((renS f).c s)=true:=by
 have hB:=MG hf;have h1:=hB.slo;have h2:=hB.gen;have h3:=hB.cls;exact⟨fun s hs=>⟨rfl,Nq rfl k0 hs⟩,fun s hs=>⟨rfl,Nq rfl k0 hs⟩,fun s hs=>⟨rfl,by rw[Yi (Fe hf) hs];exact Nq (by unfold kD;rw[aY]) k0 hs⟩⟩
theorem R2: ∀(l:List aK) (pre post:List aG),(A6 f).kC=pre++(Bf (kD f) (kB f) (kG f) l pre.length++post)->(∀m∈l,m∈f.k9)->
  ld (renS f) l ((bndMRm (kD f) (kB f) (kG f) l pre.length).map (spM (A6 f)))
 |[],_,_,_,_=>by rw[bndMRm,ld];rfl
 | m::r,pre,post,hn,hm=>by
  have hF:=Fe hf;have hB:=MG hf;have ga:=hm m k7;obtain⟨m1,⟨b,hb,m2⟩,m3,t0,m4⟩:=hF.met m ga;obtain⟨_,g2,_⟩:=BY f;obtain⟨told1,told2⟩:=(QZ hF.gen).1 m ga;obtain⟨j,j1,j2,j3⟩:=JZ told1;have gj:(A6 f).ak.length=f.ak.length:=by rw[FR hf];exact aY ..
  have gI:(A6 f).au.length=(kG f).length:=by show((Bj f).1.map (·.2)).length=_;unfold kG;rw[aY,aY]
  have eA:spA (A6 f)=kK++freshN f.ak.length:=by unfold spA;rw[gj];rfl
  have eS:spS (A6 f)=freshN (kB f).length:=rfl;have eG:spG (A6 f)=freshN (kG f).length:=by unfold spG;rw[gI]
  have gg:m.params.length<=3/\CR m.params=true:=by
   unfold C4 at m1;simp only[aN,aP]at m1;exact⟨m1.2.2.2.1,m1.2.2.2.2⟩
  obtain⟨p1,p2⟩:=(BD _).1 gg.2;have gK:[]∉m.params:=fun hx=>by have:=p1 _ hx;rw[DR]at this;cases this
  rw[Bf]at hn;rw[bndMRm,bg,ld];have hlen:(CB (kD f) (kB f) (kG f) m.body m.params pre.length).length=m.body.cnt:=BR _ _ _;have ih:=R2 r (pre++CB (kD f) (kB f) (kG f) m.body m.params pre.length) post (by rw[hn,aO,hlen];simp[bc]) fun x hx=>hm x (by simp[hx])
  rw[aO,hlen]at ih;refine⟨_,_,rfl,?_,ih⟩;have hN:(A6 f).kC.length=pre.length+(m.body.cnt+(Bf (kD f) (kB f) (kG f) r (pre.length+m.body.cnt)).length)+post.length:=by rw[hn];simp only[aO,hlen];omega
  have gT:=hB.kC;have g8:(spL (A6 f)).length=(A6 f).kC.length+3:=Ax _;obtain⟨f1,f2⟩:=FG (n:=(A6 f).kC.length+3) k0
  have fX:Ci (A6 f) ⟨m.kind,idxG m.name (kG f) 0,E4 (kD f) (kB f) m.params m.kJ,pre.length⟩=m.params.length:=by
   unfold Ci;show((A6 f).au.getD (idxG m.name (kG f) 0).toNat 0).toNat=_;rw[j2,bj,show((j:Int)).toNat=j by omega,j3];simp
  have gP:((spL (A6 f)).take m.params.length).length=m.params.length:=by rw[ck];omega
  have gJ:((spL (A6 f)).take m.params.length).Nodup:=List.Nodup.sublist (List.take_sublist _ _) f1;have gZ:∀s∈(spL (A6 f)).take m.params.length,Ak s=true:=fun s hs=>f2 s (List.mem_of_mem_take hs);have gY:=((DN m.kJ 1 b hb).1.1 m2).1;have gh:=sp_fact hf gK ((spL (A6 f)).take m.params.length) m.kJ 1 gY;obtain⟨gw,gx,gA⟩:=ZJ hf
  have gk:=(Ye (a:=A6 f) (A:=kK++freshN f.ak.length) gw gx gA (P:=spL (A6 f)) f1 f2 m.body 1 12 m.params [] ((spL (A6 f)).take m.params.length) m.params.length pre (Bf (kD f) (kB f) (kG f) r (pre.length+m.body.cnt)++post) k0
   ((C8 m.body 1 120 k0).1.1 m3).1 (EE m4) (g2 m ga).2 (F0 m4) k7
   (by rw[hn];simp[bc]) gJ gP (fun x hx=>hx) k0).1
  refine⟨rfl,?_,?_,?_,?_,⟨fun s=>ixS ((spL (A6 f)).take m.params.length) (idxG s m.params 0),?_,?_⟩,?_⟩
  ·show ixS (spG (A6 f)) _=_;rw[eG];rfl
  ·show Ak (ixS (spG (A6 f)) _)=true;rw[eG];exact(gx _ (g2 m ga).1).2
  ·show((spL (A6 f)).take (Ci _ _)).length=_;rw[fX];exact gP
  ·show CR ((spL (A6 f)).take (Ci _ _))=true;rw[fX];exact(BD _).2 ⟨gZ,gJ⟩
  ·show spF (spA (A6 f)) (spS (A6 f)) ((spL (A6 f)).take (Ci _ _)) _=_;rw[fX,eA,eS];exact gh
  ·intro s hs
   show ixS ((spL (A6 f)).take m.params.length) _∈(spL (A6 f)).take (Ci _ _)/\idxG (ixS ((spL (A6 f)).take m.params.length) _) ((spL (A6 f)).take (Ci _ _)) 0=_;rw[fX];obtain⟨i,i1,_,i3⟩:=DJ m.params 0 hs;rw[i3,bZ,I8 k0];exact⟨aR _,IT gJ k0⟩
  ·show AlE _ m.body (spE (A6 f) (spA (A6 f)) (spS (A6 f)) (spG (A6 f)) (spL (A6 f)) 12 _ ((spL (A6 f)).take (Ci _ _)) (Ci _ _)).1 m.params ((spL (A6 f)).take (Ci _ _));rw[fX,eA,eS,eG];exact gk
theorem N5:AlP (renS f) f (Ay (A6 f)):=by
 have hF:=Fe hf;have hB:=MG hf;have gj:(A6 f).ak.length=f.ak.length:=by rw[FR hf];exact aY ..
 have gI:(A6 f).au.length=(kG f).length:=by show((Bj f).1.map (·.2)).length=_;unfold kG;rw[aY,aY]
 have eA:spA (A6 f)=kK++freshN f.ak.length:=by unfold spA;rw[gj];rfl
 have eS:spS (A6 f)=freshN (kB f).length:=rfl;have eG:spG (A6 f)=freshN (kG f).length:=by unfold spG;rw[gI]
 have gS:f.ak.length=(kD f).length:=by unfold kD;rw[aY]
 obtain⟨gw,gx,gA⟩:=ZJ hf;obtain⟨_,_,g3⟩:=BY f;have g8:(spL (A6 f)).length=(A6 f).kC.length+3:=Ax _;obtain⟨f1,f2⟩:=FG (n:=(A6 f).kC.length+3) (by have:=hB.kC;omega);have hN:(A6 f).kC=Bf (kD f) (kB f) (kG f) f.k9 0++CB (kD f) (kB f) (kG f) f.kH [] (Bf (kD f) (kB f) (kG f) f.k9 0).length:=rfl;have iI:(A6 f).kC.length=(Bf (kD f) (kB f) (kG f) f.k9 0).length+f.kH.cnt:=by rw[hN,aO,BR]
 refine⟨?_,fun x hx y hy e=>?_,fun x hx=>(gA x hx).2,fun x hx=>?_,fun x hx y hy e=>Qw rfl (by have:=hB.slo;omega) hx hy e,fun x hx=>(gw x hx).2,fun x hx y hy e=>Qw rfl (by have:=hB.gen;omega) hx hy e,?_,?_⟩
 ·show kw (A6 f)=_;have hl:=N6 (A6 f);refine List.ext_getElem (by rw[hl,gj,aY]) fun k h1 h2=>?_
  have hk:k<f.ak.length:=by rw[aY]at h2;exact h2
  have gV:k<(freshN (A6 f).ak.length).length:=by rw[Ax];omega
  have hc:=aR hk
  have gO:(A6 f).ak[k]'(by omega)=FT (AZ f) (Bd f) f.ak[k]:=by
   have e:(A6 f).ak=f.ak.map (FT (AZ f) (Bd f)):=by rw[FR hf];rfl
   simp only[e,dh]
  rw[N7 (A6 f) k k0 h1 gV,dh,gO,eA,eS];unfold reC FT;simp only[cr]
  have e1:(freshN (A6 f).ak.length)[k]=(renS f).c f.ak[k].name:=by
   have hm:f.ak[k].name∈kD f:=cp hc;rw[Yi hF hm]
   have:idxG f.ak[k].name (kD f) 0=k:=by
    have:=IT hF.own (j:=k) k0;have e:(kD f)[k]'(by omega)=f.ak[k].name:=by simp only[kD,dh]
    rw[e]at this;exact this
   rw[this,I8 (by rw[Ax];exact hk)];simp only[gj]
  have e2:(f.ak[k].ap.map (ixS (kK++freshN f.ak.length) ∘ fun s=>getM 0 s (AZ f)))=f.ak[k].ap.map (renS f).c:=bF fun s hs=>by
   show ixS _ (getM 0 s (AZ f))=_;rw[FO f hF.own s (bu _ (hF.par _ hc s hs))];rfl
  have e3:(f.ak[k].am.map (ixS (freshN (kB f).length) ∘ fun s=>getM 0 s (Bd f)))=f.ak[k].am.map (renS f).s:=bF fun s hs=>by
   show ixS _ (getM 0 s (l8 (kB f) (0:Nat) []))=_;rw[Da s (kB f) 0 [] hF.slo (dw.2 ⟨_,hc,hs⟩)];rfl
  have e4:(f.ak[k].ar.map ((fun x:lR=>(⟨ixS (freshN (kB f).length) x.slot,x.n⟩:aM)) ∘ fun x=>⟨getM 0 x.slot (Bd f),x.n⟩))=f.ak[k].ar.map fun x=>⟨(renS f).s x.slot,x.n⟩:=bF fun x hx=>by
   show(⟨ixS _ (getM 0 x.slot (l8 (kB f) (0:Nat) [])),x.n⟩:aM)=_;rw[Da x.slot (kB f) 0 [] hF.slo (hF.ini _ hc x hx)];rfl
  rw[e1,e2,e3,e4]
 ·rw[Yi hF hx,Yi hF hy]at e;exact Qw gS (by have:=hB.cls;omega) hx hy e
 ·have:∀x∈kK, ∃j:Nat,j<3/\idxG x kK 0=j/\kK[j]? = some x:=by
   intro x hx;simp only[kK,be,eR,or_false]at hx;rcases hx with rfl|rfl|rfl
   ·exact⟨0,k0,rfl,rfl⟩
   ·exact⟨1,k0,rfl,rfl⟩
   ·exact⟨2,k0,rfl,rfl⟩
  obtain⟨j,j1,j2,j3⟩:=this x hx
  show ixS (kK++_) (lD (kD f) x)=x;unfold lD ixS;rw[j2,aS k0,show((j:Int)).toNat=j by omega,bK (by show j<3;exact j1),j3];rfl
 ·exact R2 hf f.k9 [] _ (by rw[bG];exact hN) fun m hm=>hm
 ·show AlE _ f.kH (spE (A6 f) (spA (A6 f)) (spS (A6 f)) (spG (A6 f)) (spL (A6 f)) 12 _ [] 0).1 [] [];rw[eA,eS,eG]
  exact(Ye (a:=A6 f) (A:=kK++freshN f.ak.length) gw gx gA (P:=spL (A6 f)) f1 f2 f.kH 1 12 [] [] [] 0 (Bf (kD f) (kB f) (kG f) f.k9 0) [] k0
   ((C8 f.kH 1 120 k0).1.1 hF.mainC).1 (EE hF.mainS) g3 (F0 hF.mainS) k7
   (by rw[hN,br]) List.nodup_nil rfl k7 k0).1
theorem U9:Cg (Ay (A6 f))=true/\A6 (Ay (A6 f))=A6 f:=⟨XS (N5 hf) hf,SM (N5 hf) hf⟩
end
def Ba(l:fP):Prop:= ∀s∈l,s.length<=8
def Hx{f:Nat->Option Str}: ∀(k j:Nat) (w:Str),EK f k j=some w->∃i,j<=i/\i<j+k/\f i=some w
 |0,_,_,h=>by simp[EK]at h
 | k+1,j,w,h=>by
  rw[Ey]at h;split at h
  ·rename_i x hx;cases h;exact⟨j,k0,k0,hx⟩
  ·obtain⟨i,h1,h2,h3⟩:=Hx k (j+1) w h;exact⟨i,k0,k0,h3⟩
def OS(tk:fP): ∀(n:Nat) (s w:Str),Ed tk n s=some w->w.length=s.length+n
 |0,s,w,h=>by
  rw[Ed]at h;split at h
  ·cases h
  ·cases h;rfl
 |n+1,s,w,h=>by
  rw[Ed]at h;obtain⟨i,_,_,h1⟩:=Hx _ _ _ h;have:=OS tk n _ _ h1;simp at this;omega
def Td(tk:fP):(E6 tk).length<=8:=by
 unfold E6;cases h:KG tk with
 |none=>simp
 |some w=>
  unfold KG at h;obtain⟨i,h1,h2,h3⟩:=Hx _ _ _ h;have:=OS tk i _ _ h3;simp at this⊢; omega
def Jc: ∀(n:Nat) (l:fP),Ba l->Ba (Di n l)
 |0,l,h=>h
 |n+1,l,h=>by
  rw[Di];refine Jc n _ fun s hs=>?_;rcases bi.1 hs with hs|hs
  ·exact h s hs
  ·rw[bq.1 hs];exact Td l
def CJ(n:Nat):Ba (freshN n):=Jc n [] fun s hs=>by simp at hs
def Uu(p:aD):Ba (spA p):=fun s hs=>by
 unfold spA at hs;rcases bi.1 hs with hs|hs
 ·simp at hs;rcases hs with rfl|rfl|rfl<;>decide
 ·exact CJ _ s hs
def DI{l:fP}(h:Ba l)(n:Int):(ixS l n).length<=8:=by
 unfold ixS;cases hn:l[n.toNat]? with
 |none=>simp
 |some s=>exact h s (de hn)
def EY: ∀{l:fP},Ba l->wtS l<=9*l.length
 |[],_=>by simp[wtS,wtL]
 |x::l,h=>by
  have h1:=h x k7;have h2:=EY (l:=l) fun s hs=>h s (by simp[hs])
  unfold wtS at h2⊢;rw[wtL,aV];omega
def FB{l:fP}(h:Ba l)(k:fR):Ba (k.map (ixS l)):=fun s hs=>by
 obtain⟨x,_,rfl⟩:=bD.1 hs;exact DI h x
def spC_wt{a b:fP}(ha:Ba a)(hb:Ba b)(c:aE)(n:Str)(hn:n.length<=8):aJ.wt { spC a b c with name:=n }<=9*c.wt:=by
 have h1:=EY (FB ha c.ap);have h2:=EY (FB hb c.am)
 have h3:∀l:List lR,wtL aM.wt (l.map fun x=>⟨ixS b x.slot,x.n⟩)<=9*l.length:=fun l=>by
  induction l with
  |nil=>simp[wtL]
  |cons x l ih=>
   have:=DI hb x.slot;simp only[bg,wtL,aV,aM.wt];omega
 have h4:=h3 c.ar;rw[aY]at h1 h2
 show 1+n.length+wtS (c.ap.map (ixS a))+wtS (c.am.map (ixS b))+wtL aM.wt (c.ar.map fun x=>⟨ixS b x.slot,x.n⟩)<=9*(1+c.ap.length+c.am.length+c.ar.length);omega
mutual
def ZH{a b P:fP}(ha:Ba a)(hb:Ba b)(hP:Ba P): ∀f:kA,(spF a b P f).wt<=17*f.wt
 |.mk o g p c n k=>by
  have h1:=EY (FB hb p);rw[aY]at h1;have h2:=Us ha hb hP k;have h3:(if o=2\/o=3\/o=4 then ixS P g else([]:Str)).length<=8:=by split;exact DI hP g;simp
  have h4:(if o=2 then ixS a c else([]:Str)).length<=8:=by split;exact DI ha c;simp
  rw[spF,aI.wt,kA.wt];omega
def Us{a b P:fP}(ha:Ba a)(hb:Ba b)(hP:Ba P): ∀l:List kA,aI.wts (spFs a b P l)<=17*kA.wts l
 |[]=>by rw[spFs,aI.wts,kA.wts];omega
 |x::r=>by
  have h1:=ZH ha hb hP x;have h2:=Us ha hb hP r;rw[spFs,aI.wts,kA.wts];omega
end
def Ur{a b g P env:fP}(ha:Ba a)(hb:Ba b)(hg:Ba g)(hP:Ba P)(he:Ba env)(x:aG)(t:Nat):(Es a b g P x env t).length<=8:=by
 unfold Es
 repeat' split
 ·exact DI he _
 ·exact DI hb _
 ·exact DI hg _
 ·exact DI ha _
 ·exact DI hP _
 ·simp
def Oc{p:aD}{k:Nat}{f:Int->fP->Nat->aH×Nat}{op:Int}{txt:Str}{env:fP}(hf:∀c e t,Ba e->(f c e t).1.wt<=9*cntB p k c)(he:Ba env)(ht:txt.length<=8): ∀(l:fR) (j t:Nat),aH.wts (D0 f op txt env j l t).1<=9*wtL (cntB p k) l
 |[],_,_=>by rw[D0,wtL,aH.wts];omega
 | c::r,j,t=>by
  have hs:Ba (if op=9/\j=1 then env++[txt] else env):=by
   split
   ·intro s hs;rcases bi.1 hs with hs|hs
    ·exact he s hs
    ·rw[bq.1 hs];exact ht
   ·exact he
  have h1:=hf c _ t hs;have h2:=Oc (op:=op) hf he ht r (j+1) (f c (if op=9/\j=1 then env++[txt] else env) t).2;rw[D0,wtL,aH.wts];omega
def Ut(p:aD){a b g P:fP}(ha:Ba a)(hb:Ba b)(hg:Ba g)(hP:Ba P): ∀(k:Nat) (node:Int) (env:fP) (t:Nat),Ba env->(spE p a b g P k node env t).1.wt<=9*cntB p k node
 |0,_,_,_,_=>by simp[spE,cntB,aH.wt,aH.wts]
 |k+1,node,env,t,he=>by
  have ht:=Ur ha hb hg hP he (Ao p node) t;have:=Oc (op:=(Ao p node).op) (fun c e t hs=>Ut p ha hb hg hP k c e t hs) he ht (Ao p node).aq 0 (if(Ao p node).op=9 then t+1 else t);rw[spE,cntB,aH.wt];omega
def Rj (w:World) : ∀ (d:Nat) (f:kA) (s s':Int),DH w d f s=(true,s')->0<=s/\s<=1000->0<=s'/\(f.wt:Int)<=3*(s-s')
 |0,_,_,_,h,_=>by simp[DH]at h
 | d+1,f,s,s',h,hs=>by
  have hw:IntKind.i64.wrap (s-1)=s-1:=Aq k0 k0;rw[DH,hw]at h;split at h
  ·simp at h
  ·rename_i gR;have e8:f.aq.length=Bl f.op:=cY fun e=>gR (.inr (.inr (.inr e)));have d8:0<=s-1:=by omega
   have gX:f.wt=1+f.path.length+kA.wts f.aq:=by cases f;rw[kA.wt];rfl
   split at h
   ·rename_i hl;simp only[dC]at h;obtain⟨gH,rfl⟩:=h;unfold Hs at gH;simp only[aN,aP]at gH;obtain⟨⟨_,gG⟩,_⟩:=gH;unfold Nc at gG;simp only[aN,aP]at gG
    have hk:f.aq=[]:=by
     have:Bl f.op=0:=by
      unfold C1 at hl;simp only[bV,aP]at hl;unfold Bl;rw[aQ k0,aQ k0]
     exact dP k0
    rw[hk,kA.wts]at gX;exact⟨d8,by have:=gG.1;omega⟩
   ·split at h
    ·rename_i h0
     have gU:∀(l:List kA) (t t':Int),allS (DH w d) l t=(true,t')->0<=t/\t<=1000->0<=t'/\(kA.wts l:Int)<=3*(t-t'):=fun l=>by
      induction l with
      |nil=>intro t t' h ht;rw[allS]at h;cases h;exact⟨ht.1,by rw[kA.wts];omega⟩
      | cons x r ih =>
       intro t t' h ht;rw[allS]at h;cases hy:DH w d x t with
       | mk b t1 =>
        rw[hy]at h;cases b with
        |false=>simp at h
        |true=>
         obtain⟨g1,g2⟩:=Rj w d x t t1 hy ht;obtain⟨g3,g4⟩:=ih t1 t' h ⟨g1,by have:=x.wt_pos;omega⟩;exact⟨g3,by rw[kA.wts];omega⟩
     obtain⟨g1,g2⟩:=gU _ _ _ h ⟨d8,k0⟩;exact⟨g1,by have:=h0.2.1;omega⟩
    ·simp at h
def NZ{α β:Type}{g:β->Nat}{h:α->β}{k:Nat}: ∀l:List α,(∀x∈l,g (h x)<=k)->wtL g (l.map h)<=k*l.length
 |[],_=>by simp[wtL]
 |x::r,hx=>by
  have h1:=hx x k7;have h2:=NZ (g:=g) (h:=h) (k:=k) r fun y hy=>hx y (by simp[hy])
  rw[bg,wtL,aV,Nat.mul_add];omega
def ZD{a b:fP}(ha:Ba a)(hb:Ba b): ∀(l:List aE) (n:fP),Ba n->wtL aJ.wt ((l.zip n).map fun x=>{ spC a b x.1 with name:=x.2 })<=9*wtL aE.wt l
 |[],_,_=>by simp[wtL]
 |_::_,[],_=>by simp[wtL]
 |c::r,x::n,hn=>by
  have h1:=spC_wt ha hb c x (hn x k7);have h2:=ZD ha hb r n fun s hs=>hn s (by simp[hs])
  rw[fq,bg,wtL,wtL,Nat.mul_add];exact Nat.add_le_add h1 h2
def N4 {p:aD} (h:okP p=true):(Ay p).wt<=9*p.wt+60000:=by
 have gv:=Uu p;have gu:Ba (spS p):=CJ _;have gF:Ba (spG p):=CJ _;have gE:Ba (spL p):=CJ _;unfold okP Dk at h;split at h
 ·rename_i hc;simp only[aN,aP,bh]at hc;obtain⟨⟨gO,⟨⟨h8,iO⟩,iG⟩,iz⟩,hg⟩:=hc;cases hm:D5 p p.k9 (List.replicate p.kC.length (-1))with
  |none=>rw[hm]at h;simp at h
  | some s =>
   rw[hm]at h;obtain⟨k1,k2,k3⟩:=I5 p p.k9 _ s hm k7 (fun g hx=>(hg g hx).1);rw[bB]at k2;cases hw:BT p false 12 p.kH 0 s with
   | mk b s2 =>
    simp only[hw]at h;cases b with
    |false=>simp[optW]at h
    | true =>
     obtain⟨m1,m2,m3⟩:=Jn p false 12 _ _ _ _ hw k2 (dY _);have iF:negS s<=s.length:=fe;have h1:=ZD gv gu p.ak (freshN p.ak.length) (CJ _);have h2:=Ut p gv gu gF gE 12 p.kH [] 0 (fun s hs=>by simp at hs)
     have h3:wtL aK.wt (p.k9.map (spM p))<=3000*p.k9.length:=by
      refine NZ p.k9 fun m ga=>?_;obtain⟨q1,q2,q3⟩:=k1 m ga;unfold Do at q1;simp only[aN,aP]at q1;obtain⟨⟨⟨_,gW⟩,f8⟩,gM⟩:=q1
      have iH:1<=p.au.getD m.gen.toNat 0/\p.au.getD m.gen.toNat 0<=3:=by
       have hl:m.gen.toNat<p.au.length:=by omega
       rw[bj,aT hl];exact hg _ (aR hl)
      have gg:Ci p m<=3:=by unfold Ci;omega
      have gD:Ba ((spL p).take (Ci p m)):=fun s hs=>gE s (List.mem_of_mem_take hs);have r1:=DI gF m.gen;have r2:=EY gD;have r3:=ZH gv gu gD m.kJ;have r4:=Ut p gv gu gF gE 12 m.node ((spL p).take (Ci p m)) (Ci p m) gD
      have r5:m.kJ.wt<=72:=by
       unfold CW at f8;cases hf:DH (AH p) 12 m.kJ 24 with
       | mk b t =>
        rw[hf]at f8;cases b with
        |false=>simp at f8
        |true=>
         obtain⟨u1,u2⟩:=Rj (AH p) 12 m.kJ 24 t hf k0;omega
      have r6:((spL p).take (Ci p m)).length<=3:=by rw[ck];omega
      show 1+(ixS (spG p) m.gen).length+wtS ((spL p).take (Ci p m))+(spF (spA p) (spS p) ((spL p).take (Ci p m)) m.kJ).wt+(spE p (spA p) (spS p) (spG p) (spL p) 12 m.node ((spL p).take (Ci p m)) (Ci p m)).1.wt<=3000;omega
     have h4:wtL aE.wt p.ak<p.wt:=by unfold aD.wt;omega
     show 1+wtL aJ.wt (kw p)+wtL aK.wt (p.k9.map (spM p))+(spE p (spA p) (spS p) (spG p) (spL p) 12 p.kH [] 0).1.wt<=9*p.wt+60000;unfold kw;omega
 ·simp at h
end Go.DL
namespace Go.DL
open Go.Proofs.Tryz
open Go Go.Proofs
set_option maxHeartbeats 8000000
def LI:aL:=⟨[],[],.mk 0 0 [] []⟩
def EU(p:aD):Int:=if okP p then(if(Bn (Ay p)).isSome then 0 else 3) else 2
def Hw(p:aD):aL:=if EU p=0 then Ay p else LI
def JE(p:aD)(V:Sig)(hw:p.wt<=10000000):aB prog 20 [.agg (Am p)] V (rS (.tup [.agg (AS (Hw p)),dI (EU p)]) V):=by
 have fY:WkD (.tup [.agg [.av,.av,dI 0,dI 0,.str [],.av],dI (EU p)]) (.tup [.agg (AS LI),dI (EU p)]):=by
  have e:AS LI=[sl [],sl [],dI 0,dI 0,.str [],sl []]:=by simp[LI,aH.op,aH.n,aH.text,aH.aq]
  rw[e];exact Iw (show WkL _ _ from⟨DA (show WkL _ _ from⟨An _ (.inl rfl),An _ (.inl rfl),A9 _,A9 _,A9 _,An _ (.inl rfl),trivial⟩),A9 _,trivial⟩)
 have gb:=fun (V:Sig)=>NI p V k0;cases f0:okP p with
 |false=>
  have hE:EU p=2:=by unfold EU;rw[f0];rfl
  have hP:Hw p=LI:=by unfold Hw;rw[hE];rfl
  rw[hP];rw[hE]at fY⊢;refine en func20 ntmps20 ?_
  try refine gz ?_ [] [2]
  refine kR (fun i2 gN=>?_)
  repeat' first|refine gf f0 ?_ [] [2]|refine Au (gb _) ?_|refine callP (gb _) ?_|refine gf f0 ?_ [] [2]|apply gy<;>intro hh
  refine lI (U':=V) ⟨rfl,rfl⟩ (hw:=?_);exact fY
 | true =>
  have gM:=sp_ok (p:=p) k0 f0;have iE:=N4 f0;have gB:=fun (V:Sig)=>RJ p V gM;have gC:=fun (V:Sig)=>RL (Ay p) V k0;cases hs:(Bn (Ay p)).isSome with
  |false=>
   have hE:EU p=3:=by unfold EU;rw[f0,hs];rfl
   have hP:Hw p=LI:=by unfold Hw;rw[hE];rfl
   rw[hP];rw[hE]at fY⊢;refine en func20 ntmps20 ?_
   try refine gz ?_ [] [2]
   refine kR (fun i2 gN=>?_)
   repeat' first|refine gf (gi f0 hs) ?_ [] [2]|refine Au (gb _) ?_|refine callP (gb _) ?_|refine Au (gB _) ?_|refine callP (gB _) ?_|refine Au (gC _) ?_|refine callP (gC _) ?_|refine gf (gi f0 hs) ?_ [] [2]|apply gy<;>intro hh
   refine lI (U':=V) ⟨rfl,rfl⟩ (hw:=?_);exact fY
  |true=>
   have hE:EU p=0:=by unfold EU;rw[f0,hs];rfl
   have hP:Hw p=Ay p:=by unfold Hw;rw[hE];rfl
   rw[hP,hE];refine en func20 ntmps20 ?_
   try refine gz ?_ [] [2]
   refine kR (fun i2 gN=>?_)
   repeat' first|refine gf (gi f0 hs) ?_ [] [2]|refine Au (gb _) ?_|refine callP (gb _) ?_|refine Au (gB _) ?_|refine callP (gB _) ?_|refine Au (gC _) ?_|refine callP (gC _) ?_|refine gf (gi f0 hs) ?_ [] [2]|apply gy<;>intro hh
   exact lI (U':=V) ⟨rfl,rfl⟩
@[reducible,instance] def a20:=fun p V=>ah1 (@JE p V)
def YK(s:Str)(V:Sig):aB prog 96 [.str s] V (rS (.agg (Af (.mk 3 0 s []))) V):=by
 refine en func96 ntmps96 ?_;refine gz ?_ [] [2];refine kR (fun i hi=>?_);refine gz ?_ [] [2];refine lI (U':=V) ⟨rfl,rfl⟩ (hw:=?_);exact DA ⟨A9 _,A9 _,A9 _,An _ (.inl rfl),trivial⟩
@[reducible,instance] def a96:=fun s V=>ah0 (@YK s V)
def KM(op n:Int)(l:fV)(o:Own)(V:Sig):aB prog 97 [dI op,dI n,.slice l o] V (rS (.agg [dI op,dI n,.slice l o]) V):=by
 refine en func97 ntmps97 ?_;refine gz ?_ [] [6];refine kR (fun i hi=>?_);refine gz ?_ [] [6];exact lI (U':=V) ⟨rfl,rfl⟩
@[reducible,instance] def a97a:=fun op n l o V=>ah0 (@KM op n l o V)
def KL(op n:Int)(V:Sig):aB prog 97 [dI op,dI n,.av] V (rS (.agg [dI op,dI n,.av]) V):=by
 refine en func97 ntmps97 ?_;refine gz ?_ [] [6];refine kR (fun i hi=>?_);refine gz ?_ [] [6];exact lI (U':=V) ⟨rfl,rfl⟩
@[reducible,instance] def a97n:=fun op n V=>ah0 (@KL op n V)
def KN(op:Int)(s:Str)(V:Sig):aB prog 95 [dI op,.str s,.av] V (rS (.agg [dI op,dI 0,.str s,.av]) V):=by
 refine en func95 ntmps95 ?_;refine gz ?_ [] [6];refine kR (fun i hi=>?_);refine gz ?_ [] [6];exact lI (U':=V) ⟨rfl,rfl⟩
@[reducible,instance] def a95n:=fun op s V=>ah0 (@KN op s V)
def exB:aD:=⟨[⟨[],[0],[⟨0,7⟩]⟩,⟨[3],[1],[]⟩,⟨[4,3],[],[⟨0,1⟩]⟩],2,[1],[⟨1,0,.mk 2 0 [] 3 0 [],0⟩,⟨2,0,.mk 3 0 [0] 0 5 [],3⟩],
 [⟨17,0,[1]⟩,⟨4,0,[2]⟩,⟨3,0,[]⟩,⟨9,0,[4,5]⟩,⟨3,0,[]⟩,⟨3,1,[]⟩,⟨5,0,[7]⟩,⟨6,5,[]⟩],6⟩
def exA(l:fP):aL:=⟨[⟨[97],[],[[102]],[⟨[102],7⟩]⟩,⟨[98],[[97]],[[103]],[]⟩,⟨[99],l,[],[⟨[102],1⟩]⟩],
 [⟨1,[115,104,111,119],[[120]],.mk 2 [120] [] [97] 0 [],.mk 17 0 [] [.mk 4 0 [102] [.mk 3 0 [120] []]]⟩,⟨2,[115,104,111,119],[[121]],.mk 3 [121] [[102]] [] 5 [],.mk 9 0 [122] [.mk 3 0 [121] [],.mk 3 0 [122] []]⟩],
 .mk 5 0 [115,104,111,119] [.mk 6 0 [99] []]⟩
def Za(V:Sig):aB prog 46 [] V (rS (.agg (Am exB)) V):=by
 refine en func46 ntmps46 ?_;refine gz ?_ [] [0];refine kR (fun i hi=>?_)
 repeat' first|refine gz ?_ [] [0]|refine Au (KM _ _ _ _ _) ?_|refine callP (KM _ _ _ _ _) ?_|refine Au (KL _ _ _) ?_|refine callP (KL _ _ _) ?_|refine gz ?_ [] [0]|apply gy<;>intro hh
 have e:Am exB=[sl [[sl [],sl [[dI 0]],sl [[dI 0,dI 7]]],[sl [[dI 3]],sl [[dI 1]],sl []],[sl [[dI 4],[dI 3]],sl [],sl [[dI 0,dI 1]]]],dI 2,sl [[dI 1]],sl [[dI 1,dI 0,dI 2,dI 0,sl [],dI 3,dI 0,sl [],dI 0],[dI 2,dI 0,dI 3,dI 0,sl [[dI 0]],dI 0,dI 5,sl [],dI 3]],sl [[dI 17,dI 0,sl [[dI 1]]],[dI 4,dI 0,sl [[dI 2]]],[dI 3,dI 0,sl []],[dI 9,dI 0,sl [[dI 4],[dI 5]]],[dI 3,dI 0,sl []],[dI 3,dI 1,sl []],[dI 5,dI 0,sl [[dI 7]]],[dI 6,dI 5,sl []]],dI 6]:=by
  simp[exB,cI,EM,kA.op,kA.arg,kA.path,kA.cls,kA.n,kA.aq]
 refine lI (U':=V) ⟨rfl,rfl⟩ (hw:=?_);rw[e];refine DA ?_
 repeat' (first|exact A9 _|exact An _ (.inl rfl)|exact trivial|refine Ix _ ?_|refine⟨?_,?_⟩)
@[reducible,instance] def a46:=fun V=>ah0 (@Za V)
def RM(l:fP)(o:Own)(V:Sig):aB prog 45 [.slice (cS l) o] V (rS (.agg (AS (exA l))) V):=by
 refine en func45 ntmps45 ?_;refine gz ?_ [] [2];refine kR (fun i hi=>?_)
 repeat' first|refine gz ?_ [] [2]|refine Au (Nz _ _ _ _ _) ?_|refine callP (Nz _ _ _ _ _) ?_|refine Au (KN _ _ _) ?_|refine callP (KN _ _ _) ?_|refine gz ?_ [] [2]|apply gy<;>intro hh
 have e:AS (exA l)=[sl [[.str [97],sl [],sl [[.str [102]]],sl [[.str [102],dI 7]]],[.str [98],sl [[.str [97]]],sl [[.str [103]]],sl []],[.str [99],sl (cS l),sl [],sl [[.str [102],dI 1]]]],
   sl [[dI 1,.str [115,104,111,119],sl [[.str [120]]],dI 2,.str [120],sl [],.str [97],dI 0,sl [],dI 17,dI 0,.str [],sl [[dI 4,dI 0,.str [102],sl [Af (.mk 3 0 [120] [])]]]],
    [dI 2,.str [115,104,111,119],sl [[.str [121]]],dI 3,.str [121],sl [[.str [102]]],.str [],dI 5,sl [],dI 9,dI 0,.str [122],sl [Af (.mk 3 0 [121] []),Af (.mk 3 0 [122] [])]]],
   dI 5,dI 0,.str [115,104,111,119],sl [[dI 6,dI 0,.str [99],sl []]]]:=by
  simp[exA,cS,Cp,Cl,aI.op,aI.name,aI.path,aI.cls,aI.n,aI.aq,aH.op,aH.n,aH.text,aH.aq]
 refine lI (U':=V) ⟨rfl,rfl⟩ (hw:=?_);rw[e];refine DA ?_
 repeat' (first|exact A9 _|exact An _ (.inl rfl)|exact AO _ _|exact EC _|exact trivial|refine Ix _ ?_|refine⟨?_,?_⟩)
def lf{α:Type}(f:α->α->Bool):List α->List α->Bool
 |x::l,y::m=>f x y&&lf f l m
 |_,_=>true
def JK{α:Type}(f:α->α->Bool)(m:List α):lf f [] m=true:=by rw[lf];intros;contradiction
def eqC(x y:aE):Bool:=x.ap==y.ap&&x.am==y.am&&decide (x.ar=y.ar)
def eqM(x y:aF):Bool:=decide (x.kind=y.kind)&&decide (x.gen=y.gen)&&decide (x.node=y.node)&&x.kJ.beq y.kJ
def eqN(x y:aG):Bool:=decide (x.op=y.op)&&decide (x.n=y.n)&&x.aq==y.aq
def Tb(p q:aD):Bool:=decide (p.am=q.am)&&decide (p.kH=q.kH)&&p.au==q.au&&decide (p.ak.length=q.ak.length)&&decide (p.k9.length=q.k9.length)&&decide (p.kC.length=q.kC.length)
def Jj(p q:aD):Bool:=Tb p q&&lf eqC p.ak q.ak&&lf eqM p.k9 q.k9&&lf eqN p.kC q.kC
def JF(p q:aD)(V:Sig)(hp:p.wt<=1073741824)(hq:q.wt<=1073741824):aB prog 19 [.agg (Am p),.agg (Am q)] V (rS (.bool (Jj p q)) V):=by
 obtain⟨p1,p2,p3,p4,p5,p6,p7⟩:=p.wt_le;obtain⟨q1,q2,q3,q4,q5,q6,q7⟩:=q.wt_le;cases hd:Tb p q with
 |false=>
  have hS:Jj p q=false:=by unfold Jj;rw[hd];rfl
  rw[hS];refine en func19 ntmps19 ?_
  repeat' first|refine gz ?_ o19|apply gy<;>intro hh
  all_goals first|exact kE (U':=V) ⟨rfl,rfl⟩|(exfalso;unfold Tb at hd;simp_all;done)
 | true =>
  have hS:Jj p q=(lf eqC p.ak q.ak&&lf eqM p.k9 q.k9&&lf eqN p.kC q.kC):=by unfold Jj;rw[hd,bd]
  unfold Tb at hd;simp only[aN,aP,cL]at hd;obtain⟨⟨⟨⟨⟨e1,e2⟩,e3⟩,e4⟩,e5⟩,e6⟩:=hd;rw[hS];refine en func19 ntmps19 ?_
  repeat' first|refine gz ?_ o19 [6,7,9,10,12,13]|apply gy<;>intro hh
  ·rw[e3]at hh;simp at hh
  generalize d9:(lf eqC p.ak q.ak&&lf eqM p.k9 q.k9&&lf eqN p.kC q.kC)=sameR;have d9:=d9.symm;refine Bb [2,3,8,9,10,11,12,13,100,101,102,103,104,105,106,107,108,109,110,111,112,113,114,115,116,117,118,119,120,121,122,123,124,125,126,127,128,129,130,131,132,133,134,135,136,137,138,139,140,141,142,143,144,145,146,147,148,149,150,151,152,153,154,155,156,157,158,159,160,161,162,163,164,165,166,167,168,169,170,171,172,173,174,175,176,177,178,179,180] (fun (k:Nat)=>k<=p.ak.length/\sameR=(lf eqC (p.ak.drop k) (q.ak.drop k)&&lf eqM p.k9 q.k9&&lf eqN p.kC q.kC)) (fun k=>[(5,dI k)]) (fun _=>V) (fun k=>p.ak.length-k) (0) (by simp[d9]) (fun k hI=>?_);obtain⟨hk,hR⟩:=hI
  by_cases e8:k<p.ak.length
  ·have fZ:k<q.ak.length:=by omega
   have w1:=p5 k e8;have w2:=q5 k fZ;rw[A0 e8,A0 fZ,lf]at hR;refine gz ?_ (kX 6 o19) [6,7,9,10,12,13];refine mixA (id:=6) [0,1,2,3,4,5,6,7,8,9,10,11,12,13] [12,13] ?_;refine AD (d:=.aw (Am p) 0) Ag rfl tdR tdR (by first|with_unfolding_all rfl|(simp;done)|(simp;rfl)) ?_;refine AD (d:=sl (p.ak.map kF)) Ag rfl tdR tdR (by first|with_unfolding_all rfl|(simp;done)|(simp;rfl)) ?_;refine AD (d:=dI k) Ag rfl tdR tdR (by first|with_unfolding_all rfl|(simp;done)|(simp;rfl)) ?_;refine AD (d:=.aw (kF p.ak[k]) 0) Ag rfl tdR tdR (by first|with_unfolding_all rfl|(simp[e8];done)|(simp[e8];rfl)) ?_;refine AD (d:=.agg (kF p.ak[k])) Ag rfl tdR tdR (by first|with_unfolding_all rfl|(simp;done)|(simp;rfl)) ?_;refine AD (d:=.aw (Am q) 0) Ag rfl tdR tdR (by first|with_unfolding_all rfl|(simp;done)|(simp;rfl)) ?_;refine AD (d:=sl (q.ak.map kF)) Ag rfl tdR tdR (by first|with_unfolding_all rfl|(simp;done)|(simp;rfl)) ?_;refine AD (d:=dI k) Ag rfl tdR tdR (by first|with_unfolding_all rfl|(simp;done)|(simp;rfl)) ?_;refine AD (d:=.aw (kF q.ak[k]) 0) Ag rfl tdR tdR (by first|with_unfolding_all rfl|(simp[fZ];done)|(simp[fZ];rfl)) ?_
   refine AD (d:=.agg (kF q.ak[k])) Ag rfl tdR tdR (by first|with_unfolding_all rfl|(simp;done)|(simp;rfl)) ?_;refine F9 (fun i6 e7=>?_);refine F9 (fun i7 d7=>?_);refine Gl (by rfl) ?_;have hz:(tab 101).zero=[.av,.av,.av]:=by(simp<;>rfl)
   rw[hz]at d7⊢;have n67:i6≠i7:=fun e=>by rw[<-e,w7]at d7;cases d7
   have i70:=(A8 d7).2;have d8:Sub V (((V.set i6 (.cells [.av,.av,.av])).set i7 (.cells [.av,.av,.av])).set i6 (.cells (kF p.ak[k]))):=(((Sub.refl _).set e7).set i70).set e7;have d6:Sub V ((((V.set i6 (.cells [.av,.av,.av])).set i7 (.cells [.av,.av,.av])).set i6 (.cells (kF p.ak[k]))).set i7 (.cells (kF q.ak[k]))):=d8.set i70;simp only[kF]at d8 d6;unfold aE.wt at w1 w2
   repeat' first|refine gz ?_ o19 [6,7,9,10,12,13]|apply gy<;>intro hh
   ·have hE:eqC p.ak[k] q.ak[k]=false:=by unfold eqC;clear d8 d6 hR e7 d7 hz i70 w1 w2 p5 p6 p7 q5 q6 q7 d9 hS e1 e2 e3 e4 e5 e6;simp_all
    rw[hE]at hR;simp only[bw]at hR;rw[hR];exact kE (U':=V) ⟨rfl,rfl⟩ (hZ:=d6)
   ·have hE:eqC p.ak[k] q.ak[k]=false:=by unfold eqC;clear d8 d6 hR e7 d7 hz i70 w1 w2 p5 p6 p7 q5 q6 q7 d9 hS e1 e2 e3 e4 e5 e6;simp_all
    rw[hE]at hR;simp only[bw]at hR;rw[hR];exact kE (U':=V) ⟨rfl,rfl⟩ (hZ:=d6)
   ·have hE:eqC p.ak[k] q.ak[k]=false:=by unfold eqC;clear d8 d6 hR e7 d7 hz i70 w1 w2 p5 p6 p7 q5 q6 q7 d9 hS e1 e2 e3 e4 e5 e6;simp_all
    rw[hE]at hR;simp only[bw]at hR;rw[hR];exact kE (U':=V) ⟨rfl,rfl⟩ (hZ:=d6)
   ·have hE:eqC p.ak[k] q.ak[k]=true:=by unfold eqC;clear d8 d6 hR e7 d7 hz i70 w1 w2 p5 p6 p7 q5 q6 q7 d9 hS e1 e2 e3 e4 e5 e6;simp_all
    rw[hE,bd]at hR;have gc:=d6;exact⟨k+1,⟨k0,hR⟩,td1,wkR⟩
  ·rw [A1 e8,JK] at hR
   try simp only[bd]at hR
   have d9:=hR;clear hR;refine gz ?_ o19 [6,7,9,10,12,13];refine Bb [2,3,11,12,13,144,145,146,147,148,149,150,151,152,153,154,155,156,157,158,159,160,161,162,163,164,165,166,167,168,169,170,171,172,173,174,175,176,177,178,179,180] (fun (k:Nat)=>k<=p.k9.length/\sameR=(lf eqM (p.k9.drop k) (q.k9.drop k)&&lf eqN p.kC q.kC)) (fun k=>[(8,dI k)]) (fun _=>V) (fun k=>p.k9.length-k) (0) (by simp[d9]) (fun k hI=>?_);obtain⟨hk,hR⟩:=hI
   by_cases e8:k<p.k9.length
   ·have fZ:k<q.k9.length:=by omega
    have w1:=p6 k e8;have w2:=q6 k fZ;rw[A0 e8,A0 fZ,lf]at hR;refine gz ?_ (kX 12 o19) [6,7,9,10,12,13];refine mixA (id:=12) [0,1,2,3,4,5,6,7,8,9,10,11,12,13] [12,13] ?_;refine AD (d:=.aw (Am p) 3) Ag rfl tdR tdR (by first|with_unfolding_all rfl|(simp;done)|(simp;rfl)) ?_;refine AD (d:=sl (p.k9.map Av)) Ag rfl tdR tdR (by first|with_unfolding_all rfl|(simp;done)|(simp;rfl)) ?_;refine AD (d:=dI k) Ag rfl tdR tdR (by first|with_unfolding_all rfl|(simp;done)|(simp;rfl)) ?_;refine AD (d:=.aw (Av p.k9[k]) 0) Ag rfl tdR tdR (by first|with_unfolding_all rfl|(simp[e8];done)|(simp[e8];rfl)) ?_;refine AD (d:=.agg (Av p.k9[k])) Ag rfl tdR tdR (by first|with_unfolding_all rfl|(simp;done)|(simp;rfl)) ?_;refine AD (d:=.aw (Am q) 3) Ag rfl tdR tdR (by first|with_unfolding_all rfl|(simp;done)|(simp;rfl)) ?_;refine AD (d:=sl (q.k9.map Av)) Ag rfl tdR tdR (by first|with_unfolding_all rfl|(simp;done)|(simp;rfl)) ?_;refine AD (d:=dI k) Ag rfl tdR tdR (by first|with_unfolding_all rfl|(simp;done)|(simp;rfl)) ?_;refine AD (d:=.aw (Av q.k9[k]) 0) Ag rfl tdR tdR (by first|with_unfolding_all rfl|(simp[fZ];done)|(simp[fZ];rfl)) ?_
    refine AD (d:=.agg (Av q.k9[k])) Ag rfl tdR tdR (by first|with_unfolding_all rfl|(simp;done)|(simp;rfl)) ?_;refine F9 (fun i6 e7=>?_);refine F9 (fun i7 d7=>?_);refine Gl (by rfl) ?_;have hz:(tab 98).zero=[dI 0,dI 0,dI 0,dI 0,.av,dI 0,dI 0,.av,dI 0]:=by(simp<;>rfl)
    rw[hz]at d7⊢;have n67:i6≠i7:=fun e=>by rw[<-e,w7]at d7;cases d7
    have i70:=(A8 d7).2;have d8:Sub V (((V.set i6 (.cells [dI 0,dI 0,dI 0,dI 0,.av,dI 0,dI 0,.av,dI 0])).set i7 (.cells [dI 0,dI 0,dI 0,dI 0,.av,dI 0,dI 0,.av,dI 0])).set i6 (.cells (Av p.k9[k]))):=(((Sub.refl _).set e7).set i70).set e7;have d6:Sub V ((((V.set i6 (.cells [dI 0,dI 0,dI 0,dI 0,.av,dI 0,dI 0,.av,dI 0])).set i7 (.cells [dI 0,dI 0,dI 0,dI 0,.av,dI 0,dI 0,.av,dI 0])).set i6 (.cells (Av p.k9[k]))).set i7 (.cells (Av q.k9[k]))):=d8.set i70;simp only[Av,EM,bE,bG]at d8 d6;unfold aF.wt at w1 w2
    repeat' first|refine gz ?_ o19 [6,7,9,10,12,13]|apply gy<;>intro hh
    ·have hE:eqM p.k9[k] q.k9[k]=false:=by unfold eqM;clear d8 d6 hR e7 d7 hz i70 w1 w2 p5 p6 p7 q5 q6 q7 d9 hS e1 e2 e3 e4 e5 e6;simp_all
     rw[hE]at hR;simp only[bw]at hR;rw[hR];exact kE (U':=V) ⟨rfl,rfl⟩ (hZ:=d6)
    ·have hE:eqM p.k9[k] q.k9[k]=false:=by unfold eqM;clear d8 d6 hR e7 d7 hz i70 w1 w2 p5 p6 p7 q5 q6 q7 d9 hS e1 e2 e3 e4 e5 e6;simp_all
     rw[hE]at hR;simp only[bw]at hR;rw[hR];exact kE (U':=V) ⟨rfl,rfl⟩ (hZ:=d6)
    ·have hE:eqM p.k9[k] q.k9[k]=false:=by unfold eqM;clear d8 d6 hR e7 d7 hz i70 w1 w2 p5 p6 p7 q5 q6 q7 d9 hS e1 e2 e3 e4 e5 e6;simp_all
     rw[hE]at hR;simp only[bw]at hR;rw[hR];exact kE (U':=V) ⟨rfl,rfl⟩ (hZ:=d6)
    ·have hE:eqM p.k9[k] q.k9[k]=false:=by unfold eqM;clear d8 d6 hR e7 d7 hz i70 w1 w2 p5 p6 p7 q5 q6 q7 d9 hS e1 e2 e3 e4 e5 e6;simp_all
     rw[hE]at hR;simp only[bw]at hR;rw[hR];exact kE (U':=V) ⟨rfl,rfl⟩ (hZ:=d6)
    ·have hE:eqM p.k9[k] q.k9[k]=true:=by unfold eqM;clear d8 d6 hR e7 d7 hz i70 w1 w2 p5 p6 p7 q5 q6 q7 d9 hS e1 e2 e3 e4 e5 e6;simp_all
     rw[hE,bd]at hR;have gc:=d6;exact⟨k+1,⟨k0,hR⟩,td1,wkR⟩
   ·rw[A1 e8,JK]at hR
    try simp only[bd]at hR
    have d9:=hR;clear hR;refine gz ?_ o19 [6,7,9,10,12,13];refine Bb [2,3] (fun (k:Nat)=>k<=p.kC.length/\sameR=(lf eqN (p.kC.drop k) (q.kC.drop k))) (fun k=>[(11,dI k)]) (fun _=>V) (fun k=>p.kC.length-k) (0) (by simp[d9]) (fun k hI=>?_);obtain⟨hk,hR⟩:=hI
    by_cases e8:k<p.kC.length
    ·have fZ:k<q.kC.length:=by omega
     have w1:=p7 k e8;have w2:=q7 k fZ;rw[A0 e8,A0 fZ,lf]at hR;refine gz ?_ (kX 18 o19) [6,7,9,10,12,13];refine mixA (id:=18) [0,1,2,3,4,5,6,7,8,9,10,11,12,13] [12,13] ?_;refine AD (d:=.aw (Am p) 4) Ag rfl tdR tdR (by first|with_unfolding_all rfl|(simp;done)|(simp;rfl)) ?_;refine AD (d:=sl (p.kC.map Ai)) Ag rfl tdR tdR (by first|with_unfolding_all rfl|(simp;done)|(simp;rfl)) ?_;refine AD (d:=dI k) Ag rfl tdR tdR (by first|with_unfolding_all rfl|(simp;done)|(simp;rfl)) ?_;refine AD (d:=.aw (Ai p.kC[k]) 0) Ag rfl tdR tdR (by first|with_unfolding_all rfl|(simp[e8];done)|(simp[e8];rfl)) ?_;refine AD (d:=.agg (Ai p.kC[k])) Ag rfl tdR tdR (by first|with_unfolding_all rfl|(simp;done)|(simp;rfl)) ?_;refine AD (d:=.aw (Am q) 4) Ag rfl tdR tdR (by first|with_unfolding_all rfl|(simp;done)|(simp;rfl)) ?_;refine AD (d:=sl (q.kC.map Ai)) Ag rfl tdR tdR (by first|with_unfolding_all rfl|(simp;done)|(simp;rfl)) ?_;refine AD (d:=dI k) Ag rfl tdR tdR (by first|with_unfolding_all rfl|(simp;done)|(simp;rfl)) ?_;refine AD (d:=.aw (Ai q.kC[k]) 0) Ag rfl tdR tdR (by first|with_unfolding_all rfl|(simp[fZ];done)|(simp[fZ];rfl)) ?_
     refine AD (d:=.agg (Ai q.kC[k])) Ag rfl tdR tdR (by first|with_unfolding_all rfl|(simp;done)|(simp;rfl)) ?_;refine F9 (fun i6 e7=>?_);refine F9 (fun i7 d7=>?_);refine Gl (by rfl) ?_;have hz:(tab 104).zero=[dI 0,dI 0,.av]:=by(simp<;>rfl)
     rw[hz]at d7⊢;have n67:i6≠i7:=fun e=>by rw[<-e,w7]at d7;cases d7
     have i70:=(A8 d7).2;have d8:Sub V (((V.set i6 (.cells [dI 0,dI 0,.av])).set i7 (.cells [dI 0,dI 0,.av])).set i6 (.cells (Ai p.kC[k]))):=(((Sub.refl _).set e7).set i70).set e7;have d6:Sub V ((((V.set i6 (.cells [dI 0,dI 0,.av])).set i7 (.cells [dI 0,dI 0,.av])).set i6 (.cells (Ai p.kC[k]))).set i7 (.cells (Ai q.kC[k]))):=d8.set i70;simp only[Ai]at d8 d6;unfold aG.wt at w1 w2
     repeat' first|refine gz ?_ o19 [6,7,9,10,12,13]|apply gy<;>intro hh
     ·have hE:eqN p.kC[k] q.kC[k]=false:=by unfold eqN;clear d8 d6 hR e7 d7 hz i70 w1 w2 p5 p6 p7 q5 q6 q7 d9 hS e1 e2 e3 e4 e5 e6;simp_all
      rw[hE]at hR;simp only[bw]at hR;rw[hR];exact kE (U':=V) ⟨rfl,rfl⟩ (hZ:=d6)
     ·have hE:eqN p.kC[k] q.kC[k]=false:=by unfold eqN;clear d8 d6 hR e7 d7 hz i70 w1 w2 p5 p6 p7 q5 q6 q7 d9 hS e1 e2 e3 e4 e5 e6;simp_all
      rw[hE]at hR;simp only[bw]at hR;rw[hR];exact kE (U':=V) ⟨rfl,rfl⟩ (hZ:=d6)
     ·have hE:eqN p.kC[k] q.kC[k]=false:=by unfold eqN;clear d8 d6 hR e7 d7 hz i70 w1 w2 p5 p6 p7 q5 q6 q7 d9 hS e1 e2 e3 e4 e5 e6;simp_all
      rw[hE]at hR;simp only[bw]at hR;rw[hR];exact kE (U':=V) ⟨rfl,rfl⟩ (hZ:=d6)
     ·have hE:eqN p.kC[k] q.kC[k]=true:=by unfold eqN;clear d8 d6 hR e7 d7 hz i70 w1 w2 p5 p6 p7 q5 q6 q7 d9 hS e1 e2 e3 e4 e5 e6;simp_all
      rw[hE,bd]at hR;have gc:=d6;exact⟨k+1,⟨k0,hR⟩,td1,wkR⟩
    ·rw[A1 e8,JK]at hR
     try simp only[bd]at hR
     have d9:=hR;clear hR;refine gz ?_ o19 [6,7,9,10,12,13];rw[d9];exact kE (U':=V) ⟨rfl,rfl⟩
@[reducible,instance] def a19:=fun p q V=>ah2 (@JF p q V)
def LW{l m:fR}(h:∀x,x∈l ↔ x∈m): ∀(a:List lR) (seen:fR),Dw l seen a=Dw m seen a
 |[],_=>rfl
 |x::r,seen=>by rw[Dw,Dw,LW h r,cJ.2 (h x.slot)]
def Kv(p:aD):Nat->List aE->Bool
 |_,[]=>true
 |i,c::r=>decide (linE (p.ak.map (·.ap)) ((i:Int)+3)=0)&&Dw (lh p.ak (((i:Int)+3)-2).toNat [((i:Int)+3)] []) [] c.ar&&Kv p (i+1) r
def Jb(p:aD): ∀(l:List aE) (i:Nat),AK p i l=Kv p i l
 |[],_=>rfl
 |c::r,i=>by
  rw[AK,Kv,Jb p r]
  congr 2
  exact LW (fun x=>by unfold hasP Fw;exact fv) _ _
def Zi:AK exB 0 exB.ak=true:=by rw[Jb];decide +kernel
def TO:Ar exB=true:=by
 unfold Ar;have h1:Bu 0 exB.ak=some 2:=by decide +kernel
 have h2:Bo (exB.ak.map (·.ap))=true:=by decide +kernel
 have h3:decide (exB.ak.length<=10)=true:=by decide +kernel
 have h4:decide ((2:Int)=exB.am)=true:=by decide +kernel
 rw[h1,h3];simp only[h2,h4,Zi,ez,Bool.and_true]
def Qy:Dk exB=some [1,1,1,1,1,2,0,0]:=by
 unfold Dk;rw[TO]
 decide +kernel
def ex_ok:okP exB=true:=by unfold okP;rw[Qy];rfl
def NJ:EU exB=0:=by
 unfold EU;rw[ex_ok]
 decide +kernel
def RZ:DZ (exA [[98],[97]])=0:=by decide +kernel
def RY:DZ (exA [[97],[98]])=7:=by decide +kernel
def Xb:Jj (Fm (exA [[98],[97]])) exB=true:=by decide +kernel
def ZI:Fw [1,0]=[0,1]:=by simp[Fw,List.mergeSort,List.MergeSort.Internal.splitInTwo,List.merge]
def Qz:hasP exB 5=[0,1]:=by
 unfold hasP;rw[show lh exB.ak ((5:Int)-2).toNat [5] []=[1,0] by decide +kernel,ZI]
def ex_has4:hasP exB 4=[0,1]:=by
 unfold hasP;rw[show lh exB.ak ((4:Int)-2).toNat [4] []=[1,0] by decide +kernel,ZI]
def Px:L6 exB 5=[⟨0,1⟩]:=by unfold L6;rw[Qz];decide +kernel
def Py:L6 exB 4=[⟨0,7⟩]:=by unfold L6;rw[ex_has4];decide +kernel
def Xc:ownF exB 5=true:=by decide +kernel
def Xd:ownF exB 4=true:=by decide +kernel
def RX:(AH exB).owner=[3,4]:=by decide +kernel
def ex_form:Hw exB=⟨(kw exB),exB.k9.map (spM exB),(Ay exB).kH⟩:=by unfold Hw;rw[NJ];rfl
def Zj: ∃c0 c1 c2 m0 m1 mn,Hw exB=⟨[c0,c1,c2],[m0,m1],mn⟩/\c2.name=[99]/\m0.name=[97]:=by
 have hc:(kw exB).map (·.name)=[[97],[98],[99]]:=by decide +kernel
 have hm:(spM exB ⟨1,0,.mk 2 0 [] 3 0 [],0⟩).name=[97]:=by decide +kernel
 rw[ex_form];rcases hs:kw exB with _|⟨c0,_|⟨c1,_|⟨c2,_|⟨c3,r⟩⟩⟩⟩<;>rw[hs]at hc<;>simp at hc;exact⟨c0,c1,c2,_,_,_,rfl,hc.2.2,hm⟩
def RS(V:Sig):aB prog 16 [] V (rS (.bool true) V):=by
 have w1:(exA [[98],[97]]).wt<=10000000:=by decide +kernel
 have w2:(exA [[97],[98]]).wt<=10000000:=by decide +kernel
 have w3:exB.wt<=10000000:=by decide +kernel
 have w4:(Fm (exA [[98],[97]])).wt<=1073741824:=by decide +kernel
 have gr:=fun (o:Own) (V:Sig)=>RM [[98],[97]] o V;have go:=fun (o:Own) (V:Sig)=>RM [[97],[98]] o V;have iy:=fun (V:Sig)=>GW _ V w1;have iv:=fun (V:Sig)=>GW _ V w2;have iM:=fun (V:Sig)=>JF _ exB V w4 k0;have iL:=fun (V:Sig)=>JE exB V w3;have gb:=fun (V:Sig)=>NI exB V k0;have iB:=fun (V:Sig)=>RU exB V k0;have iK:=fun (V:Sig)=>RR exB 5 V k0;have iq:=fun (V:Sig)=>NH exB 5 V k0;have ij:=fun (V:Sig)=>NH exB 4 V k0;have iJ:=fun (V:Sig)=>RO exB V k0;obtain⟨c0,c1,c2,m0,m1,mn,e1,e2,e3⟩:=Zj
 have gL:∀(l:fR) (V:Sig),l.length<=1073741824->aB prog 15 [.slice (cI l) .no,.slice (cI l) .clip] V (rS (.bool true) V):=fun l V hl=>by
  have:=RT l l .no .clip V hl;simpa using this
 have gQ:∀(l:List lR) (V:Sig),l.length<=1073741824->aB prog 27 [.slice (l.map Ef) .no,.slice (l.map Ef) .clip] V (rS (.bool true) V):=fun l V hl=>by
  have:=RQ l l .no .clip V hl hl;simpa using this
 have g1:=fun (V:Sig)=>gL [1,1,1,1,1,2,0,0] V k7;have g2:=fun (V:Sig)=>gL [0,1] V k7;have g3:=fun (V:Sig)=>gL [3,4] V k7;have g4:=fun (V:Sig)=>gQ [⟨0,1⟩] V k7;have g5:=fun (V:Sig)=>gQ [⟨0,7⟩] V k7;have he:PA (some [1,1,1,1,1,2,0,0])=0:=rfl;refine en func16 ntmps16 ?_
 repeat' first|refine gf (gi RZ (gi RY (gi NJ (gi Xb (gi ex_ok (gi Qy (gi Xc (gi Xd (gi Qz (gi Px (gi Py (gi e1 (gi e2 (gi e3 (gi RX he))))))))))))))) ?_|refine Au (gr _ _) ?_|refine callP (gr _ _) ?_|refine Au (go _ _) ?_|refine callP (go _ _) ?_|refine Fl (g1 _) ?_|refine callPG (g1 _) ?_|refine Fl (g2 _) ?_|refine callPG (g2 _) ?_|refine Fl (g3 _) ?_|refine callPG (g3 _) ?_|refine Fl (g4 _) ?_|refine callPG (g4 _) ?_|refine Fl (g5 _) ?_|refine callPG (g5 _) ?_|refine gf (gi RZ (gi RY (gi NJ (gi Xb (gi ex_ok (gi Qy (gi Xc (gi Xd (gi Qz (gi Px (gi Py (gi e1 (gi e2 (gi e3 (gi RX he))))))))))))))) ?_ o16|apply gy<;>intro hh
 exact kE (U':=V) ⟨rfl,rfl⟩
@[reducible,instance] def a16:=fun V=>ah0 (@RS V)
mutual
def kA.beq_self: ∀f:kA,f.beq f=true
 |.mk o a p c n k=>by rw[kA.beq_eq];simp only[kA.aq];rw[kA.beqs_self k];simp
def kA.beqs_self: ∀l:List kA,kA.beqs l l=true
 |[]=>rfl
 |x::r=>by rw[kA.beqs,kA.beq_self x,kA.beqs_self r];rfl
end
def It{α:Type}{f:α->α->Bool}(h:∀x,f x x=true): ∀l:List α,lf f l l=true
 |[]=>by rw[JK]
 |x::r=>by rw[lf,h,It h r];rfl
def ly(p:aD):Jj p p=true:=by
 unfold Jj Tb;rw[It (fun x=>by simp[eqC]),It (fun x=>by simp[eqM,kA.beq_self]),It (fun x=>by simp[eqN])];simp
mutual
def XI(cm sm:List (Str×Int))(env:Str->Int): ∀x:aI,(bndF cm sm env x).wt<=x.wt
 |.mk o s p c n k=>by
  rw[bndF,kA.wt_eq,aI.wt_eq];have:=Sx cm sm env k;have h2:=Bc p;simp only[kA.path,kA.aq,aI.name,aI.path,aI.cls,aI.aq,aY];omega
def Sx(cm sm:List (Str×Int))(env:Str->Int): ∀l:List aI,wtL kA.wt (GE cm sm env l)<=wtL aI.wt l
 |[]=>by rw[GE,wtL,wtL];omega
 |x::r=>by
  have h1:=XI cm sm env x;have h2:=Sx cm sm env r;rw[GE,wtL,wtL];omega
end
def Fv: ∀(l:List aH) (k:Nat),(AW l k).length=l.length
 |[],_=>rfl
 |x::r,k=>by rw[AW,aV,Fv r,aV]
mutual
def QH(cm sm gm:List (Str×Int)): ∀(e:aH) (env:Str->Int) (size:Int) (k:Nat),wtL aG.wt (lX cm sm gm e env size k)+1<=2*e.wt
 |.mk o n t l,env,size,k=>by
  rw[lX,wtL,aH.wt_eq];have:=Sz cm sm gm o t l 0 env size (k+1);simp only[aG.wt,Fv,aH.text,aH.aq];omega
def Sz(cm sm gm:List (Str×Int))(o:Int)(t:Str): ∀(l:List aH) (i:Nat) (env:Str->Int) (size:Int) (k:Nat),wtL aG.wt (Ha cm sm gm o t l i env size k)+l.length<=2*wtL aH.wt l
 |[],_,_,_,_=>by rw[Ha,wtL,wtL];simp
 |x::r,i,env,size,k=>by
  have h2:=Sz cm sm gm o t r (i+1) env size (k+x.cnt);have h1:wtL aG.wt (if o=9/\i=1 then lX cm sm gm x (updE env t size) (size+1) k else lX cm sm gm x env size k)+1<=2*x.wt:=by split<;>exact QH cm sm gm x _ _ _
  rw[Ha,EN,wtL,aV];omega
end
def XG(cm sm gm:List (Str×Int)): ∀(l:List aK) (k:Nat),wtL aF.wt (bndMM cm sm gm l k)<=wtL aK.wt l/\wtL aG.wt (Is cm sm gm l k)<=2*wtL aK.wt l
 |[],_=>by rw[bndMM,Is];simp[wtL]
 |m::r,k=>by
  obtain⟨h1,h2⟩:=XG cm sm gm r (k+m.body.cnt);have h3:=XI cm sm (EB m) m.kJ;have h4:=QH cm sm gm m.body (EB m) m.params.length k;have e1:aK.wt m=1+m.name.length+wtS m.params+m.kJ.wt+m.body.wt:=rfl;have e2:aF.wt ⟨m.kind,getM 0 m.name gm,bndF cm sm (EB m) m.kJ,(k:Int)⟩=1+(bndF cm sm (EB m) m.kJ).wt:=rfl;rw[bndMM,Is,wtL,wtL,EN,e1,e2];omega
def SE(cm sm:List (Str×Int)): ∀l:List aJ,wtL aE.wt (l.map (FT cm sm))<=wtL aJ.wt l
 |[]=>by simp[wtL]
 |c::r=>by
  have:=SE cm sm r;have h1:=Bc c.ap;have h2:=Bc c.am;have h3:=E0 aM.wt (fun x=>by unfold aM.wt;omega) c.ar;have e1:aJ.wt c=1+c.name.length+wtS c.ap+wtS c.am+wtL aM.wt c.ar:=rfl;have e2:aE.wt (FT cm sm c)=1+c.ap.length+c.am.length+c.ar.length:=by unfold aE.wt FT;simp only[aY]
  rw[bg,wtL,wtL,e1,e2];omega
end Go.DL
