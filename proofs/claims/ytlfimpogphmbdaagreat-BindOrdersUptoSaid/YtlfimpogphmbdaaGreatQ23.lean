/- A part of the proof. -/
import Derived.Test.YtlfimpogphmbdaaGreatQ22
set_option linter.all false
namespace Go.DL
open Go.Proofs.Tryz
open Go Go.Proofs
set_option maxHeartbeats 8000000
def clsN(names:fD)(s:Str):Int:=if 0<=idxG s lits3 0 then idxG s lits3 0 else idxG s names 0+3
theorem idxG_lt(s:Str): ∀(l:fD) (k:Nat),idxG s l k = -1\/((k:Int)<=idxG s l k/\idxG s l k<k+l.length)
 |[],_=>.inl rfl
 | x::r,k=>by
  rw[idxG]
  split
  ·right;simp only[aP];omega
  ·rcases idxG_lt s r (k+1)with h|h
   ·exact .inl h
   ·right;simp only[aP];omega
def BdS(ib:Nat)(a b c d e f:D)(names ae aj:fD)(V:Sig):Prop:=V ib=some (.cells [a,b,c,d,e,f,sl (cS names),sl (cS ae),sl (cS aj)])
theorem Gp(ib:Nat)(a b c d e f:D)(names ae aj:fD)(s:Str)(V:Sig)(hB:BdS ib a b c d e f names ae aj V)(hn:names.length<=1073741824):
  au prog 129 [.ptr ib 0,.str s] V (rS (dI (clsN names s)) V):=by
 have i1:∀V:Sig,Ans 130 [.slice [[.str [97,110,121]],[.str [105,110,116]],[.str [110,111,110,101]]] .clip,.str s] V True (dI (idxG s lits3 0)):=fun V=>ah0 (Ot lits3 s .clip V (by simp[lits3]))
 have hl:=idxG_lt s names 0
 unfold BdS at hB
 refine en func129 ntmps129 ?_
 by_cases h0:0<=idxG s lits3 0
 ·have hc:clsN names s=idxG s lits3 0:=by unfold clsN;rw[aS h0]
  refine gf (gi hB h0) ?_
  refine fin1 (S':=V) ?_
  exact⟨by rw[hc],rfl⟩
 ·have hc:clsN names s=idxG s names 0+3:=by unfold clsN;rw[aN h0]
  refine gf (gi hB h0) ?_
  refine fin1 (S':=V) ?_
  exact⟨by rw[hc],rfl⟩
mutual
def G6(names ae own:fD):aC->Fact
 |.mk o s p c n k=>.mk o (if s=[] then 0 else idxG s own 0) (p.map fun x=>idxG x ae 0) (if c=[] then 0 else clsN names c) n (Iw names ae own k)
def Iw(names ae own:fD):List aC->List Fact
 |[]=>[]
 |x::r=>G6 names ae own x::Iw names ae own r
end
theorem LW(names ae own:fD): ∀l,Iw names ae own l=l.map (G6 names ae own)
 |[]=>by rw[Iw];rfl
 |x::r=>by rw[Iw,LW names ae own r];rfl
theorem XL(names ae own:fD)(f:aC):G6 names ae own f=.mk f.op (if f.name=[] then 0 else idxG f.name own 0) (f.path.map fun x=>idxG x ae 0) (if f.cls=[] then 0 else clsN names f.cls) f.n (f.ah.map (G6 names ae own)):=by
 cases f;rw[G6,LW];rfl
structure FcS(i7 i1 i2:Nat)(op A C n:Int)(l:fF)(ks:List Fact)(V S1:Sig):Prop where
 o7:S1 i7=some (.cells [dI op,dI A,.slice (cI l) (.tag i1),dI C,dI n,.slice (ks.map AS) (.tag i2)])
 o1:S1 i1=some (.tail 1 l.length)
 o2:S1 i2=some (.tail 6 ks.length)
 hS:Sub V S1
theorem FcS.path{i7 i1 i2:Nat}{op A C n:Int}{l:fF}{ks:List Fact}{V S1:Sig}(h:FcS i7 i1 i2 op A C n l ks V S1)(v:Int)(fW:i1≠i2)(h7:V i7=none)(h1:V i1=none):
  FcS i7 i1 i2 op A C n (l++[v]) ks V ((S1.set i1 (.tail 1 (l.length+1))).set i7 (.cells [dI op,dI A,.slice (cI l++[[dI v]]) (.tag i1),dI C,dI n,.slice (ks.map AS) (.tag i2)])):=by
 have n1:i1≠i7:=A7 h.o1 h.o7 (by simp)
 have n2:i2≠i7:=A7 h.o2 h.o7 (by simp)
 refine⟨by rw[w7];simp[cI],by rw[w8 _ _ n1,w7,aH];rfl,by rw[w8 _ _ n2,w8 _ _ (aQ fW)];exact h.o2,fun j o hj=>?_⟩
 rw[w8 _ _ (A0 hj h7),w8 _ _ (A0 hj h1)];exact h.hS j o hj
theorem FcS.kid{i7 i1 i2:Nat}{op A C n:Int}{l:fF}{ks:List Fact}{V S1:Sig}(h:FcS i7 i1 i2 op A C n l ks V S1)(v:Fact)(fW:i1≠i2)(h7:V i7=none)(h2:V i2=none):
  FcS i7 i1 i2 op A C n l (ks++[v]) V ((S1.set i2 (.tail 6 (ks.length+1))).set i7 (.cells [dI op,dI A,.slice (cI l) (.tag i1),dI C,dI n,.slice (ks.map AS++[AS v]) (.tag i2)])):=by
 have n1:i1≠i7:=A7 h.o1 h.o7 (by simp)
 have n2:i2≠i7:=A7 h.o2 h.o7 (by simp)
 refine⟨by rw[w7];simp,by rw[w8 _ _ n1,w8 _ _ fW];exact h.o1,by rw[w8 _ _ n2,w7,aH];rfl,fun j o hj=>?_⟩
 rw[w8 _ _ (A0 hj h7),w8 _ _ (A0 hj h2)];exact h.hS j o hj
section
variable {ib:Nat}{a b c d e f:D}{names ae aj:fD}
theorem BdS.fresh{V:Sig}{k:Nat}{o:DObj}(h:BdS ib a b c d e f names ae aj V)(hk:V k=none):BdS ib a b c d e f names ae aj (V.set k o):=by
 unfold BdS at*
 rw[w8 _ _ (A0 h hk)];exact h
theorem BdS.sub{V S':Sig}(h:BdS ib a b c d e f names ae aj V)(hs:Sub V S'):BdS ib a b c d e f names ae aj S':=hs _ _ h
theorem Sf(hn:names.length<=1000000000)(gV:ae.length<=1073741824)(own:fD)(o:Own)(ho:own.length<=1073741824): ∀(n:Nat) (x:aC) (V:Sig),x.wt<=n->n<=1073741824->BdS ib a b c d e f names ae aj V->
  au prog 132 [.ptr ib 0,.agg (B6 x),.slice (cS own) o] V (rS (.agg (AS (G6 names ae own x))) V):=by
 intro n
 induction n with
 |zero=>
  intro x V hx
  have:=x.wt_pos
  omega
 | succ n ih =>
  intro x V hx hw hB
  obtain⟨w1,w2,w3,w4,w5⟩:=x.wt_le
  have gW:x.path.length<=1073741824:=by have:=Bb x.path;omega
  have g9:=hB
  unfold BdS at hB
  have i129:∀s (V:Sig),BdS ib a b c d e f names ae aj V->au prog 129 [.ptr ib 0,.str s] V (rS (dI (clsN names s)) V):=fun s V h=>Gp ib a b c d e f names ae aj s V h (by omega)
  obtain⟨A,hA⟩:∃A:Int,A=if x.name=[] then 0 else idxG x.name own 0:=⟨_,rfl⟩
  obtain⟨C,hC⟩:∃C:Int,C=if x.cls=[] then 0 else clsN names x.cls:=⟨_,rfl⟩
  refine en func132 ntmps132 ?_
  refine gz ?_ o132 [6,7]
  refine newV (fun i6 e9=>?_)
  refine gz ?_ o132 [6,7]
  refine newV (fun i7 e8=>?_)
  obtain⟨m1,m2⟩:=A4 e8
  repeat ((fail_if_success (first|(refine dwp_cut2 (x1:=.seq _ _) (x2:=.seq _ _) [] ((V.set i6 (.cells [dI 0,dI 0,.ak,dI 0,dI 0,.ak])).set i7 (.cells [dI x.op,dI A,.ak,dI C,dI x.n,.ak])) ?_ (fun _ hK=>?_))|fail));(refine goX1 trivial ?_))
  refine dwp_cut2 (x1:=.seq _ _) (x2:=.seq _ _) [] ((V.set i6 (.cells [dI 0,dI 0,.ak,dI 0,dI 0,.ak])).set i7 (.cells [dI x.op,dI A,.ak,dI C,dI x.n,.ak])) ?_ (fun _ hK=>?_)
  ·refine gz ?_ o132 [6,7]
   refine Ak i7 2 1 (ds:=[dI x.op,dI A,.ak,dI C,dI x.n,.ak]) (w7 ..) rfl (fun i1 gC=>?_)
   obtain⟨a1,a2⟩:=A4 gC
   obtain⟨a3,a4⟩:=A4 a2
   refine Ak i7 5 6 (ds:=[dI x.op,dI A,.slice [] (.tag i1),dI C,dI x.n,.ak]) (w7 ..) rfl (fun i2 gB=>?_)
   obtain⟨b1,b2⟩:=A4 gB
   obtain⟨b3,b4⟩:=A4 b2
   obtain⟨b5,b6⟩:=A4 b4
   obtain⟨b7,b8⟩:=A4 b6
   generalize fL:Sig.set (Sig.set _ i2 _) i7 _=S1
   have gg:FcS i7 i1 i2 x.op A C x.n [] [] (V.set i6 (.cells [dI 0,dI 0,.ak,dI 0,dI 0,.ak])) S1:=by
    rw[<-fL]
    refine⟨by rw[w7];simp[cI],by rw[w8 _ _ a1,w8 _ _ (aQ b3),w8 _ _ a1];simp,by rw[w8 _ _ b1];simp,fun j o hj=>?_⟩
    rw[w8 _ _ (A0 hj e8),w8 _ _ (A0 hj b6),w8 _ _ (A0 hj e8),w8 _ _ (A0 hj a2),w8 _ _ (A0 hj e8)];exact hj
   refine CK [0,2,4,6,7,9,53,54,55,56,57,58,59,60,61,62,63,64,65,66,67,68,69,70,71,72,73] (fun (k:Nat) (l:fF) (S2:Sig)=>k<=x.path.length/\l++((x.path.drop k).map fun x=>idxG x ae 0)=(x.path.map fun x=>idxG x ae 0)/\FcS i7 i1 i2 x.op A C x.n l [] (V.set i6 (.cells [dI 0,dI 0,.ak,dI 0,dI 0,.ak])) S2) (fun k _ _=>[(8,dI k)]) (fun _ _ S2=>S2) (fun k _ _=>x.path.length-k) (0) ([]) (_) (by exact⟨by omega,rfl,gg⟩) (fun k l S2 hI=>?_)
   obtain⟨hk,hR,o7,o1,o2,fV⟩:=hI
   have hlen:=bF List.length hR
   simp at hlen
   by_cases d8:k<x.path.length
   ·rw[A2 d8,ba]at hR
    have n71:i7≠i1:=A7 o7 o1 (by simp)
    have n72:i7≠i2:=A7 o7 o2 (by simp)
    have n12:i1≠i2:=aQ b3
    have nb1:ib≠i1:=A0 hB a4
    have gc:Sub V S2:=fun j o hj=>fV j o ((Sub.refl _).set e9 j o hj)
    have oB:=gc _ _ hB
    have u7:(S2.out fun j=>j=i1) i7=some (.cells [dI x.op,dI A,.slice (cI l) (.tag i1),dI C,dI x.n,.slice (([]:List Fact).map AS) (.tag i2)]):=BO o7 n71
    have uB:(S2.out fun j=>j=i1) ib=some (.cells [a,b,c,d,e,f,sl (cS names),sl (cS ae),sl (cS aj)]):=BO oB nb1
    have d6:Sub (S2.out fun j=>j=i1) S2:=AU _ _
    have fJ:Sub (S2.out fun j=>j=i1) (S2.set i1 (.tail 1 (l.length+1))):=fun j o hj=>by
     obtain⟨h1,h2⟩:=Bm hj
     rw[w8 _ _ h2];exact h1
    refine gz ?_ (delO 9 o132) [6,7]
    refine CI (id:=9) [0,1,2,3,4,5,6,7,8,9,10,11,12,13,14] [11,13] (S2.out fun j=>j=i1) d6 ?_
    refine gf (gi u7 (gi uB (gi o7 o1))) ?_ o132 [6,7]
    exact⟨k+1,l++[idxG x.path[k] ae 0],_,⟨by omega,by rw[aT];exact hR,FcS.path (ks:=[]) ⟨o7,o1,o2,fV⟩ _ n12 e8 a2⟩,td1,wkR⟩
   ·rw[A1 d8,bJ,bb]at hR
    subst hR
    have n71:i7≠i1:=A7 o7 o1 (by simp)
    have n12:i1≠i2:=aQ b3
    refine gz ?_ o132 [6,7]
    clear hlen hk d8 gg fL
    refine CK [0,2,4,6,7,73] (fun (k:Nat) (ks:List Fact) (S3:Sig)=>k<=x.ah.length/\ks++(x.ah.drop k).map (G6 names ae own)=x.ah.map (G6 names ae own)/\FcS i7 i1 i2 x.op A C x.n (x.path.map fun x=>idxG x ae 0) ks (V.set i6 (.cells [dI 0,dI 0,.ak,dI 0,dI 0,.ak])) S3) (fun k _ _=>[(9,dI k)]) (fun _ _ S3=>S3) (fun k _ _=>x.ah.length-k) (0) ([]) (_) (by exact⟨by omega,rfl,o7,o1,o2,fV⟩) (fun k ks S3 hI=>?_)
    obtain⟨hk,hR,p7,p1',p2',fU⟩:=hI
    have hlen:=bF List.length hR
    simp at hlen
    have n72:i7≠i2:=A7 p7 p2' (by simp)
    have nb2:ib≠i2:=A0 hB b8
    have fN:Sub V S3:=fun j o hj=>fU j o ((Sub.refl _).set e9 j o hj)
    have oB:=fN _ _ hB
    by_cases d8:k<x.ah.length
    ·rw[A2 d8,ba]at hR
     have gG:=w5 k d8
     have u7:(S3.out fun j=>j=i2) i7=some (.cells [dI x.op,dI A,.slice (cI (x.path.map fun x=>idxG x ae 0)) (.tag i1),dI C,dI x.n,.slice (ks.map AS) (.tag i2)]):=BO p7 n72
     have d6:Sub (S3.out fun j=>j=i2) S3:=AU _ _
     have fJ:Sub (S3.out fun j=>j=i2) (S3.set i2 (.tail 6 (ks.length+1))):=fun j o hj=>by
      obtain⟨h1,h2⟩:=Bm hj
      rw[w8 _ _ h2];exact h1
     refine gz ?_ (delO 13 o132) [6,7]
     refine CI (id:=13) [0,1,2,3,4,5,6,7,8,9,10,11,12] [9,11] (S3.out fun j=>j=i2) d6 ?_
     repeat' first|refine gf (gi u7 (gi p7 p2')) ?_ [] [6,7]|refine moR (ih x.ah[k] S3 (by omega) (by omega) oB) ?_|refine moP (ih x.ah[k] S3 (by omega) (by omega) oB) ?_|refine gf (gi u7 (gi p7 p2')) ?_ o132 [6,7]|apply gy<;>intro hh
     exact⟨k+1,ks++[G6 names ae own x.ah[k]],_,⟨by omega,by rw[aT];exact hR,FcS.kid ⟨p7,p1',p2',fU⟩ _ n12 e8 b6⟩,td1,wkR⟩
    ·rw[A1 d8,bJ,bb]at hR
     subst hR
     have o6:S3 i6=some (.cells [dI 0,dI 0,.ak,dI 0,dI 0,.ak]):=fU _ _ (w7 ..)
     have gD:∀y,Sub V (S3.set i6 y):=fun y j o hj=>by rw[w8 _ _ (A0 hj e9)];exact fN j o hj
     refine gf p7 ?_ o132 [6,7]
     refine rtl 73 (.agg [dI x.op,dI A,sl (cI (x.path.map fun x=>idxG x ae 0)),dI C,dI x.n,sl ((x.ah.map (G6 names ae own)).map AS)]) ?_ (hw:=E7 (AL (A9 _) (AL (A9 _) (AL (Ao _ _) (AL (A9 _) (AL (A9 _) (AL (C3 _ (by simp)) GJ)))))))
     refine gf o6 ?_ o132 [6,7]
     have hb:=XL names ae own x
     rw[<-hA,<-hC]at hb
     refine finC (S':=V) ⟨rfl,rfl⟩ (hZ:=gD _) (hw:=?_)
     rw[hb]
     refine AM ?_
     simp[Fact.op,Fact.arg,Fact.path,Fact.cls,Fact.n,Fact.ah]
  ·have go:∀z y,BdS ib a b c d e f names ae aj ((V.set i6 z).set i7 y):=fun z y=>by
    unfold BdS
    rw[w8 _ _ (A0 hB m2),w8 _ _ (A0 hB e9)];exact hB
   by_cases hs:x.name=[]
   ·rw[aS hs]at hA
    subst hA
    by_cases hc:x.cls=[]
    ·rw[aS hc]at hC
     subst hC
     refine gf (gi hs hc) ?_ o132 [6,7]
     exact dwp_wk (Ae (by first|(simp;done)|(simp_all;done)) (Sub.refl _)) hK
    ·rw[aN hc]at hC
     repeat' first|refine gf (gi hs hc) ?_ [] [6,7]|refine Aq (i129 x.cls _ (go _ _)) ?_|refine callP (i129 x.cls _ (go _ _)) ?_|refine gf (gi hs hc) ?_ o132 [6,7]|apply gy<;>intro hh
     rw[<-hC]
     exact dwp_wk (Ae (by first|(simp;done)|(simp_all;done)) (Sub.refl _)) hK
   ·rw[aN hs]at hA
    by_cases hc:x.cls=[]
    ·rw[aS hc]at hC
     subst hC
     refine gf (gi hs hc) ?_ o132 [6,7]
     rw[<-hA]
     exact dwp_wk (Ae (by first|(simp;done)|(simp_all;done)) (Sub.refl _)) hK
    ·rw[aN hc]at hC
     repeat' first|refine gf (gi hs hc) ?_ [] [6,7]|refine Aq (i129 x.cls _ (go _ _)) ?_|refine callP (i129 x.cls _ (go _ _)) ?_|refine gf (gi hs hc) ?_ o132 [6,7]|apply gy<;>intro hh
     rw[<-hA,<-hC]
     exact dwp_wk (Ae (by first|(simp;done)|(simp_all;done)) (Sub.refl _)) hK
end
theorem HC(p:aw)(a b g:fD)(n:Int)(V:Sig)(hn:InR n (3+a.length))(ha:a.length<=1073741824):au prog 145 [cSp0 p a b g,dI n] V (rS (.str (ixS (lits3++a) n)) V):=by
 have fK:cSp0 p a b g=.am [sl (p.aa.map cBClass),dI p.ae,sl (cI p.aj),sl (p.methods.map Ag),sl (p.nodes.map Ab),dI p.main,sl (cS a),sl (cS b),sl (cS g)] 0:=rfl
 obtain⟨h0,h1⟩:=hn
 refine en func145 ntmps145 ?_
 by_cases h3:n<3
 ·have h:n=0\/n=1\/n=2:=by omega
  rcases h with rfl|rfl|rfl
  ·refine gf fK ?_
   exact fin1 (S':=V) ⟨rfl,rfl⟩
  ·refine gf fK ?_
   exact fin1 (S':=V) ⟨rfl,rfl⟩
  ·refine gf fK ?_
   exact fin1 (S':=V) ⟨rfl,rfl⟩
 ·obtain⟨k,rfl⟩:∃k:Nat,n=(k:Int)+3:=⟨(n-3).toNat,by omega⟩
  have hk:k<a.length:=by omega
  have e:ixS (lits3++a) ((k:Int)+3)=a[k]:=by
   unfold ixS
   rw[show((k:Int)+3).toNat=3+k by omega,bR (by show 3<=3+k;omega),show 3+k-lits3.length=k by show 3+k-3=k;omega,aM hk];rfl
  refine gf fK ?_
  refine fin1 (S':=V) ?_
  exact⟨by rw[e],rfl⟩
structure FcT(i7 i1 i2:Nat)(op n:Int)(A C:Str)(l:fD)(ks:List aC)(V S1:Sig):Prop where
 o7:S1 i7=some (.cells [dI op,(.str A),.slice (cS l) (.tag i1),(.str C),dI n,.slice (ks.map B6) (.tag i2)])
 o1:S1 i1=some (.tail 1 l.length)
 o2:S1 i2=some (.tail 6 ks.length)
 hS:Sub V S1
theorem FcT.path{i7 i1 i2:Nat}{op n:Int}{A C:Str}{l:fD}{ks:List aC}{V S1:Sig}(h:FcT i7 i1 i2 op n A C l ks V S1)(v:Str)(fW:i1≠i2)(h7:V i7=none)(h1:V i1=none):
  FcT i7 i1 i2 op n A C (l++[v]) ks V ((S1.set i1 (.tail 1 (l.length+1))).set i7 (.cells [dI op,(.str A),.slice (cS l++[[.str v]]) (.tag i1),(.str C),dI n,.slice (ks.map B6) (.tag i2)])):=by
 have n1:i1≠i7:=A7 h.o1 h.o7 (by simp)
 have n2:i2≠i7:=A7 h.o2 h.o7 (by simp)
 refine⟨by rw[w7];simp[cS],by rw[w8 _ _ n1,w7,aH];rfl,by rw[w8 _ _ n2,w8 _ _ (aQ fW)];exact h.o2,fun j o hj=>?_⟩
 rw[w8 _ _ (A0 hj h7),w8 _ _ (A0 hj h1)];exact h.hS j o hj
theorem FcT.kid{i7 i1 i2:Nat}{op n:Int}{A C:Str}{l:fD}{ks:List aC}{V S1:Sig}(h:FcT i7 i1 i2 op n A C l ks V S1)(v:aC)(fW:i1≠i2)(h7:V i7=none)(h2:V i2=none):
  FcT i7 i1 i2 op n A C l (ks++[v]) V ((S1.set i2 (.tail 6 (ks.length+1))).set i7 (.cells [dI op,(.str A),.slice (cS l) (.tag i1),(.str C),dI n,.slice (ks.map B6++[B6 v]) (.tag i2)])):=by
 have n1:i1≠i7:=A7 h.o1 h.o7 (by simp)
 have n2:i2≠i7:=A7 h.o2 h.o7 (by simp)
 refine⟨by rw[w7];simp,by rw[w8 _ _ n1,w8 _ _ fW];exact h.o1,by rw[w8 _ _ n2,w7,aH];rfl,fun j o hj=>?_⟩
 rw[w8 _ _ (A0 hj h7),w8 _ _ (A0 hj h2)];exact h.hS j o hj
section
variable {p:aw}{a b g P:fD}
theorem Vq(ha:a.length<=1000000000)(hb:b.length<=1073741824)(hP:P.length<=1073741824)(o:Own): ∀(n:Nat) (x:Fact) (V:Sig),x.wt<=n->n<=1073741824->FIx (3+a.length) b.length P.length x->
  au prog 146 [cSp0 p a b g,.agg (AS x),.slice (cS P) o] V (rS (.agg (B6 (spF (lits3++a) b P x))) V):=by
 intro n
 induction n with
 |zero=>
  intro x V hx
  have:=x.wt_pos
  omega
 | succ n ih =>
  intro x V hx hw gF
  obtain⟨w1,w2,w5⟩:=x.wt_le
  have fK:cSp0 p a b g=.am [sl (p.aa.map cBClass),dI p.ae,sl (cI p.aj),sl (p.methods.map Ag),sl (p.nodes.map Ab),dI p.main,sl (cS a),sl (cS b),sl (cS g)] 0:=rfl
  obtain⟨k1,k2,k3,k4⟩:(∀y∈x.path,InR y b.length)/\(x.op=2->InR x.cls (3+a.length))/\(x.op=2\/x.op=3\/x.op=4->InR x.arg P.length)/\FIxs (3+a.length) b.length P.length x.ah:=by
   cases x;rw[FIx]at gF;exact gF
  obtain⟨A,hA⟩:∃A:Str,A=if x.op=2\/x.op=3\/x.op=4 then ixS P x.arg else []:=⟨_,rfl⟩
  obtain⟨C,hC⟩:∃C:Str,C=if x.op=2 then ixS (lits3++a) x.cls else []:=⟨_,rfl⟩
  refine en func146 ntmps146 ?_
  refine gz ?_ o146 [6,7]
  refine newV (fun i6 e9=>?_)
  refine gz ?_ o146 [6,7]
  refine newV (fun i7 e8=>?_)
  obtain⟨m1,m2⟩:=A4 e8
  repeat ((fail_if_success (first|(refine dwp_cut3 (x1:=.region _ _ _) (x2:=.seq _ _) (x3:=.seq _ _) [] ((V.set i6 (.cells [dI 0,.str [],.ak,.str [],dI 0,.ak])).set i7 (.cells [dI x.op,.str A,.ak,.str C,dI x.n,.ak])) ?_ (fun _ hK=>?_))|fail));(refine goX1 trivial ?_))
  refine dwp_cut3 (x1:=.region _ _ _) (x2:=.seq _ _) (x3:=.seq _ _) [] ((V.set i6 (.cells [dI 0,.str [],.ak,.str [],dI 0,.ak])).set i7 (.cells [dI x.op,.str A,.ak,.str C,dI x.n,.ak])) ?_ (fun _ hK=>?_)
  ·refine gz ?_ o146 [6,7]
   refine Ak i7 2 1 (ds:=[dI x.op,.str A,.ak,.str C,dI x.n,.ak]) (w7 ..) rfl (fun i1 gC=>?_)
   obtain⟨a1,a2⟩:=A4 gC
   obtain⟨a3,a4⟩:=A4 a2
   refine Ak i7 5 6 (ds:=[dI x.op,.str A,.slice [] (.tag i1),.str C,dI x.n,.ak]) (w7 ..) rfl (fun i2 gB=>?_)
   obtain⟨b1,b2⟩:=A4 gB
   obtain⟨b3,b4⟩:=A4 b2
   obtain⟨b5,b6⟩:=A4 b4
   obtain⟨b7,b8⟩:=A4 b6
   generalize fL:Sig.set (Sig.set _ i2 _) i7 _=S1
   have gg:FcT i7 i1 i2 x.op x.n A C [] [] (V.set i6 (.cells [dI 0,.str [],.ak,.str [],dI 0,.ak])) S1:=by
    rw[<-fL]
    refine⟨by rw[w7];simp[cS],by rw[w8 _ _ a1,w8 _ _ (aQ b3),w8 _ _ a1];simp,by rw[w8 _ _ b1];simp,fun j o hj=>?_⟩
    rw[w8 _ _ (A0 hj e8),w8 _ _ (A0 hj b6),w8 _ _ (A0 hj e8),w8 _ _ (A0 hj a2),w8 _ _ (A0 hj e8)];exact hj
   refine CK [0,2,4,6,7,10,67,68,69,70,71,72,73,74,75,76,77,78,79,80,81,82,83,84,85,86,87] (fun (k:Nat) (l:fD) (S2:Sig)=>k<=x.path.length/\l++(x.path.drop k).map (ixS b)=x.path.map (ixS b)/\FcT i7 i1 i2 x.op x.n A C l [] (V.set i6 (.cells [dI 0,.str [],.ak,.str [],dI 0,.ak])) S2) (fun k _ _=>[(9,dI k)]) (fun _ _ S2=>S2) (fun k _ _=>x.path.length-k) (0) ([]) (_) (by exact⟨by omega,rfl,gg⟩) (fun k l S2 hI=>?_)
   obtain⟨hk,hR,o7,o1,o2,fV⟩:=hI
   have hlen:=bF List.length hR
   simp at hlen
   by_cases d8:k<x.path.length
   ·rw[A2 d8,ba]at hR
    obtain⟨q,e1,hq,e2⟩:=BX (k1 _ (aJ d8))
    have n71:i7≠i1:=A7 o7 o1 (by simp)
    have n72:i7≠i2:=A7 o7 o2 (by simp)
    have n12:i1≠i2:=aQ b3
    have gc:Sub V S2:=fun j o hj=>fV j o ((Sub.refl _).set e9 j o hj)
    have u7:(S2.out fun j=>j=i1) i7=some (.cells [dI x.op,.str A,.slice (cS l) (.tag i1),.str C,dI x.n,.slice (([]:List aC).map B6) (.tag i2)]):=BO o7 n71
    have d6:Sub (S2.out fun j=>j=i1) S2:=AU _ _
    have fJ:Sub (S2.out fun j=>j=i1) (S2.set i1 (.tail 1 (l.length+1))):=fun j o hj=>by
     obtain⟨h1,h2⟩:=Bm hj
     rw[w8 _ _ h2];exact h1
    refine gz ?_ (delO 10 o146) [6,7]
    refine CI (id:=10) [0,1,2,3,4,5,6,7,8,9,10,11,12,13,14,15] [14] (S2.out fun j=>j=i1) d6 ?_
    refine gf (gi u7 (gi fK (gi o7 (gi o1 (gi e1 e2))))) ?_ o146 [6,7]
    rw[<-e2]
    exact⟨k+1,l++[ixS b x.path[k]],_,⟨by omega,by rw[aT];exact hR,FcT.path (ks:=[]) ⟨o7,o1,o2,fV⟩ _ n12 e8 a2⟩,td1,wkR⟩
   ·rw[A1 d8,bJ,bb]at hR
    subst hR
    have n71:i7≠i1:=A7 o7 o1 (by simp)
    have n12:i1≠i2:=aQ b3
    refine gz ?_ o146 [6,7]
    clear hlen hk d8 gg fL
    refine CK [0,2,4,6,7,87] (fun (k:Nat) (ks:List aC) (S3:Sig)=>k<=x.ah.length/\ks++(x.ah.drop k).map (spF (lits3++a) b P)=x.ah.map (spF (lits3++a) b P)/\FcT i7 i1 i2 x.op x.n A C (x.path.map (ixS b)) ks (V.set i6 (.cells [dI 0,.str [],.ak,.str [],dI 0,.ak])) S3) (fun k _ _=>[(10,dI k)]) (fun _ _ S3=>S3) (fun k _ _=>x.ah.length-k) (0) ([]) (_) (by exact⟨by omega,rfl,o7,o1,o2,fV⟩) (fun k ks S3 hI=>?_)
    obtain⟨hk,hR,p7,p1',p2',fU⟩:=hI
    have hlen:=bF List.length hR
    simp at hlen
    have n72:i7≠i2:=A7 p7 p2' (by simp)
    have fN:Sub V S3:=fun j o hj=>fU j o ((Sub.refl _).set e9 j o hj)
    by_cases d8:k<x.ah.length
    ·rw[A2 d8,ba]at hR
     have gG:=w5 k d8
     have u7:(S3.out fun j=>j=i2) i7=some (.cells [dI x.op,.str A,.slice (cS (x.path.map (ixS b))) (.tag i1),.str C,dI x.n,.slice (ks.map B6) (.tag i2)]):=BO p7 n72
     have d6:Sub (S3.out fun j=>j=i2) S3:=AU _ _
     have fJ:Sub (S3.out fun j=>j=i2) (S3.set i2 (.tail 6 (ks.length+1))):=fun j o hj=>by
      obtain⟨h1,h2⟩:=Bm hj
      rw[w8 _ _ h2];exact h1
     refine gz ?_ (delO 14 o146) [6,7]
     refine CI (id:=14) [0,1,2,3,4,5,6,7,8,9,10,11,12] [9,11] (S3.out fun j=>j=i2) d6 ?_
     repeat' first|refine gf (gi u7 (gi p7 p2')) ?_ [] [6,7]|refine moR (ih x.ah[k] S3 (by omega) (by omega) (Gv k4 _ (aJ d8))) ?_|refine moP (ih x.ah[k] S3 (by omega) (by omega) (Gv k4 _ (aJ d8))) ?_|refine gf (gi u7 (gi p7 p2')) ?_ o146 [6,7]|apply gy<;>intro hh
     exact⟨k+1,ks++[spF (lits3++a) b P x.ah[k]],_,⟨by omega,by rw[aT];exact hR,FcT.kid ⟨p7,p1',p2',fU⟩ _ n12 e8 b6⟩,td1,wkR⟩
    ·rw[A1 d8,bJ,bb]at hR
     subst hR
     have o6:S3 i6=some (.cells [dI 0,.str [],.ak,.str [],dI 0,.ak]):=fU _ _ (w7 ..)
     have gD:∀y,Sub V (S3.set i6 y):=fun y j o hj=>by rw[w8 _ _ (A0 hj e9)];exact fN j o hj
     refine gf p7 ?_ o146 [6,7]
     refine rtl 87 (.agg [dI x.op,.str A,sl (cS (x.path.map (ixS b))),.str C,dI x.n,sl ((x.ah.map (spF (lits3++a) b P)).map B6)]) ?_ (hw:=E7 (AL (A9 _) (AL (A9 _) (AL (Ao _ _) (AL (A9 _) (AL (A9 _) (AL (C3 _ (by simp)) GJ)))))))
     refine gf o6 ?_ o146 [6,7]
     have hb:=XW (lits3++a) b P x
     rw[<-hA,<-hC]at hb
     refine finC (S':=V) ⟨rfl,rfl⟩ (hZ:=gD _) (hw:=?_)
     rw[hb]
     refine AM ?_
     simp[aC.op,aC.name,aC.path,aC.cls,aC.n,aC.ah]
  ·by_cases c2:x.op=2
   ·rw[aS c2]at hC
    rw[aS (.inl c2)]at hA
    obtain⟨q,e1,hq,e2⟩:=BX (k3 (.inl c2))
    rw[e2]at hA
    have i145:∀V:Sig,Ans 145 [cSp0 p a b g,dI x.cls] V True (.str (ixS (lits3++a) x.cls)):=fun V=>ah0 (HC p a b g x.cls V (k2 c2) (by omega))
    refine gf (gi c2 e1) ?_ o146 [6,7]
    rw[<-hA,<-hC]
    exact dwp_wk (Ae (by first|(simp;done)|(simp_all;done)) (AQ (by rw[c2]))) hK
   ·rw[aN c2]at hC
    subst hC
    by_cases c3:x.op=3\/x.op=4
    ·rw[aS (by omega)]at hA
     obtain⟨q,e1,hq,e2⟩:=BX (k3 (by omega))
     rw[e2]at hA
     rcases c3 with c3|c3
     ·refine gf (gi c3 e1) ?_ o146 [6,7]
      rw[<-hA]
      exact dwp_wk (Ae (by first|(simp;done)|(simp_all;done)) (AQ (by rw[c3]))) hK
     ·refine gf (gi c3 e1) ?_ o146 [6,7]
      rw[<-hA]
      exact dwp_wk (Ae (by first|(simp;done)|(simp_all;done)) (AQ (by rw[c3]))) hK
    ·rw[aN (by omega)]at hA
     subst hA
     have c4:x.op≠3:=by omega
     have c5:x.op≠4:=by omega
     refine gf (gi c2 (gi c4 c5)) ?_ o146 [6,7]
     exact dwp_wk (Ae (by first|(simp;done)|(simp_all;done)) (Sub.refl _)) hK
end
theorem Oo(p:aw)(a b g P:fD)(hp:p.wt<=1073741824)(ha:a.length=p.aa.length)(g7:a.length<=1000000000)(hb:(b.length:Int)=p.ae)(g6:b.length<=1073741824)(hg:g.length=p.aj.length)(hP:P.length<=1000)(gN:∀t,t<P.length->refM (t+1) [] []=some (P.take (t+1))): ∀(k:Nat) (node:Int) (env:fD) (o:Own) (t ib:Nat) (V:Sig),okE p k node env.length->env.length+k<=1000000000->
  (spE p (lits3++a) b g P k node env t).2<=P.length->V ib=some (.cells [dI t])->
  au prog 147 [cSp0 p a b g,dI node,.slice (cS env) o,.ptr ib 0] V fun x S'=>x=.ret (.agg (Al (spE p (lits3++a) b g P k node env t).1))/\S'=V.set ib (.cells [dI (spE p (lits3++a) b g P k node env t).2]):=by
 obtain⟨p1,p2,p3,p4,p5,p6,p7⟩:=p.wt_le
 intro k
 induction k with
 |zero=>intro node env o t ib V h;exact h.elim
 | succ k ih =>
  intro node env o t ib V gE gU hT gj
  rw[okE]at gE
  obtain⟨⟨h0,hq⟩,f6,fO⟩:=gE
  obtain⟨q,rfl⟩:∃q:Nat,node=(q:Int):=⟨node.toNat,by omega⟩
  have hq:q<p.nodes.length:=by omega
  have gL:As p q=p.nodes[q]:=by unfold As;rw[show((q:Int)).toNat=q by omega,aM hq];rfl
  rw[spE]at hT⊢
  rw[gL]at hT f6 fO⊢
  generalize hx:p.nodes[q]=x at*
  have gP:x.ah.length<=1073741824:=by
   have:=p7 q hq
   rw[hx]at this
   have gQ:x.wt=1+x.ah.length:=rfl
   omega
  generalize hL:CG (spE p (lits3++a) b g P k) x.op (Cp (lits3++a) b g P x env t) env 0 x.ah (if x.op=9 then t+1 else t)=L at*
  have gI:(if x.op=9 then t+1 else t)<=L.2:=by rw[<-hL];exact Dw (Jj p (lits3++a) b g P k) _ _ _
  have fK:cSp0 p a b g=.am [sl (p.aa.map cBClass),dI p.ae,sl (cI p.aj),sl (p.methods.map Ag),sl (p.nodes.map Ab),dI p.main,sl (cS a),sl (cS b),sl (cS g)] 0:=rfl
  have g8:P.length<=1000:=hP
  have r3:x.op=3->InR x.n env.length:=fun h=>by simpa[Bn,h,InR] using f6
  have r47:x.op=4\/x.op=7->InR x.n b.length:=fun h=>by rcases h with h|h<;>simpa[Bn,h,InR,hb] using f6
  have r5:x.op=5->InR x.n g.length:=fun h=>by simpa[Bn,h,InR,hg] using f6
  have r68:x.op=6\/x.op=8->InR x.n (3+a.length):=fun h=>by
   have:3<=x.n/\x.n<3+p.aa.length:=by rcases h with h|h<;>simpa[Bn,h] using f6
   exact⟨by omega,by omega⟩
  have r9:x.op=9->t<P.length:=fun h=>by rw[aS h]at gI;omega
  refine en func147 ntmps147 ?_
  refine gz ?_ o147 [8,10]
  refine newV (fun i6 e9=>?_)
  have n6:ib≠i6:=A0 gj e9
  refine gf (gi gj (gi hx fK)) ?_ o147 [8,10]
  refine newV (fun i8 fX=>?_)
  have n68:i6≠i8:=fun e=>by rw[<-e,w7]at fX;cases fX
  have n8:ib≠i8:=A0 gj (A4 fX).2
  generalize fL:V.set i6 (.cells [dI 0,dI 0,.str [],.ak])=S1
  have fR:S1 ib=some (.cells [dI t]):=by rw[<-fL,w8 _ _ n6];exact gj
  have d7:∀(tx:Str) (m:Int),m=(if x.op=1 then x.n else 0)->tx=Cp (lits3++a) b g P x env t->¬x.op=9->Sub ((S1.set i8 (.cells [dI x.op,dI (if x.op=1 then x.n else 0),.str (Cp (lits3++a) b g P x env t),.ak])).set ib (.cells [dI (if x.op=9 then t+1 else t:Nat)])) (S1.set i8 (.cells [dI x.op,dI m,.str tx,.ak])):=fun tx m h1 h2 h3=>by
   rw[h1,h2,aN h3,Sig.set_self _ (by rw[w8 _ _ n8];exact fR)]
   exact Sub.refl _
  repeat ((fail_if_success (first|(refine dwp_cut1 (x1:=.seq _ (.block 0 _)) [] ((S1.set i8 (.cells [dI x.op,dI (if x.op=1 then x.n else 0),.str (Cp (lits3++a) b g P x env t),.ak])).set ib (.cells [dI (if x.op=9 then t+1 else t:Nat)])) ?_ (fun _ hK=>?_))|fail));(refine goX1 trivial ?_))
  refine dwp_cut1 (x1:=.seq _ (.block 0 _)) [] ((S1.set i8 (.cells [dI x.op,dI (if x.op=1 then x.n else 0),.str (Cp (lits3++a) b g P x env t),.ak])).set ib (.cells [dI (if x.op=9 then t+1 else t:Nat)])) ?_ (fun _ hK=>?_)
  ·generalize (if x.op=1 then x.n else 0)=num at*
   generalize gR:Cp (lits3++a) b g P x env t=txt at*
   generalize (if x.op=9 then t+1 else t)=t0 at*
   refine Ak i8 3 4 (ds:=[dI x.op,dI num,.str txt,.ak]) (by rw[w8 _ _ (aQ n8)];exact w7 ..) rfl fun it gx=>?_
   have e7:S1 it=none:=(A4 (A4 gx).2).2
   have nbt:ib≠it:=A0 fR e7
   have n8t:i8≠it:=fun e=>by have:=(A4 gx).2;rw[<-e,w7]at this;cases this
   generalize f9:Sig.set (Sig.set (Sig.set _ ib _) it _) i8 _=S2
   have q8:S2 i8=some (.cells [dI x.op,dI num,.str txt,.slice (([]:List aB).map Al) (.tag it)]):=by rw[<-f9];exact w7 ..
   have qt:S2 it=some (.tail 4 ([]:List aB).length):=by rw[<-f9,w8 _ _ (aQ n8t)];exact w7 ..
   have qS:Sub (V.set ib (.cells [dI t0])) S2:=by
    rw[<-f9,<-fL]
    refine Sub.set (Sub.set ?_ ?_) ?_
    ·refine Sub.both ((((Sub.refl _).set e9)).set (A4 fX).2)
    ·rw[w8 _ _ (aQ nbt)];rw[<-fL]at e7;exact(A4 e7).2
    ·rw[w8 _ _ (aQ n8)];exact(A4 fX).2
   have s8:V i8=none:=(A4 fX).2
   have st:V it=none:=by rw[<-fL]at e7;exact(A4 e7).2
   have f7:S1 i6=some (.cells [dI 0,dI 0,.str [],.ak]):=by rw[<-fL];exact w7 ..
   have n6t:i6≠it:=A0 f7 e7
   have s6:V i6=none:=e9
   have q6:S2 i6=some (.cells [dI 0,dI 0,.str [],.ak]):=by rw[<-f9,w8 _ _ n68,w8 _ _ n6t,w8 _ _ (aQ n6),w8 _ _ n68];exact f7
   clear f9 d7 gx
   refine gf q8 ?_ o147 [8,10]
   refine Po [0,2,3,8,9,10,126] (fun (j:Nat) (out:List aB) (t':Nat) (S3:Sig)=>j<=x.ah.length/\out.length=j/\out++(CG (spE p (lits3++a) b g P k) x.op txt env j (x.ah.drop j) t').1=L.1/\(CG (spE p (lits3++a) b g P k) x.op txt env j (x.ah.drop j) t').2=L.2/\S3 i8=some (.cells [dI x.op,dI num,.str txt,.slice (out.map Al) (.tag it)])/\S3 it=some (.tail 4 out.length)/\S3 i6=some (.cells [dI 0,dI 0,.str [],.ak])/\Sub (V.set ib (.cells [dI t'])) S3) (fun j _ _ _=>[(12,dI j)]) (fun _ _ _ S3=>S3) (fun j _ _ _=>x.ah.length-j) (0) ([]) (t0) (S2) (by exact⟨by omega,rfl,by rw[<-hL];rfl,by rw[<-hL];rfl,q8,qt,q6,qS⟩) (fun j out t' S3 hI=>?_)
   obtain⟨hj,gX,hR,fP,o8,ot,o6,oS⟩:=hI
   by_cases gw:j<x.ah.length
   ·rw[A2 gw,CG]at hR fP
    have gh:=fO j gw
    have gK:out.length+1=j+1:=by omega
    have fQ:S3 ib=some (.cells [dI t']):=oS _ _ (w7 ..)
    have u8:(S3.out fun j=>j=ib\/j=it) i8=_:=BO o8 (by rintro(h|h);exact n8 h.symm;exact n8t h)
    have nt':it≠ib:=aQ nbt
    have nt8:it≠i8:=aQ n8t
    have n8':i8≠ib:=aQ n8
    have ga:=hT
    rw[<-fP]at ga
    have gu:∀{c:DObj} (τ:Sig),Sub S3 τ->Sub (S3.out fun j=>j=ib\/j=it) (τ.set ib c):=fun τ hO j z hz=>by
     obtain⟨h1,h2⟩:=Bm hz
     rw[w8 _ _ fun e=>h2 (.inl e)];exact hO _ _ h1
    have f0:∀{c:DObj} (τ:Sig),Sub S3 τ->Sub (S3.out fun j=>j=ib\/j=it) ((τ.set ib c).set it (.tail 4 (out.length+1))):=fun τ hO j z hz=>by
     obtain⟨h1,h2⟩:=Bm hz
     rw[w8 _ _ fun e=>h2 (.inr e)];exact gu τ hO _ _ hz
    have fZ:∀(e:aB) (c:DObj) (τ:Sig),Sub S3 τ->(((τ.set ib c).set it (.tail 4 (out.length+1))).set i8 (.cells [dI x.op,dI num,.str txt,.slice ((out++[e]).map Al) (.tag it)])) it=some (.tail 4 (out++[e]).length)/\(((τ.set ib c).set it (.tail 4 (out.length+1))).set i8 (.cells [dI x.op,dI num,.str txt,.slice ((out++[e]).map Al) (.tag it)])) i6=some (.cells [dI 0,dI 0,.str [],.ak])/\Sub (V.set ib c) (((τ.set ib c).set it (.tail 4 (out.length+1))).set i8 (.cells [dI x.op,dI num,.str txt,.slice ((out++[e]).map Al) (.tag it)])):=fun e c τ hO=>
     ⟨by rw[w8 _ _ nt8,w7,aH];rfl,by rw[w8 _ _ n68,w8 _ _ n6t,w8 _ _ (aQ n6)];exact hO _ _ o6,((Nc (oS.trans hO)).set (by rw[w8 _ _ nt'];exact st)).set (by rw[w8 _ _ n8'];exact s8)⟩
    by_cases c91:x.op=9/\j=1
    ·rw[aS c91]at hR fP gh ga
     obtain⟨c9,rfl⟩:=c91
     have gZ:cS (env++[txt])=cS env++[[.str txt]]:=by simp[cS]
     refine gf (gi o8 c9) ?_ (delO 25 o147) [8,10]
     refine mixL (id:=25) [0,2,3,4,1,5] [1,5] ?_
     refine gf o8 ?_ o147 [8,10]
     refine Qd (fun i4 gk=>?_)
     have nib4:ib≠i4:=A0 fQ gk
     have nt4:it≠i4:=A0 ot gk
     have n84:i8≠i4:=A0 o8 gk
     refine gf o8 ?_ (delO 26 o147) [8,10]
     have gb:Sub S3 (S3.set i4 (.tail 1 (env.length+1))):=(Sub.refl _).set gk
     have gA:(S3.set i4 (.tail 1 (env.length+1))) ib=some (.cells [dI t']):=by rw[w8 _ _ nib4];exact fQ
     have gJ:(S3.set i4 (.tail 1 (env.length+1))) it=some (.tail 4 out.length):=by rw[w8 _ _ nt4];exact ot
     have gO:(S3.set i4 (.tail 1 (env.length+1))) i8=_:=(w8 _ _ n84).trans o8
     generalize S3.set i4 (.tail 1 (env.length+1))=S4 at*
     refine rtw 13 (.slice (cS (env++[txt])) .no) ?_ (hw:=C3 _ (by simp[cS]))
     clear c9
     refine CI (id:=26) [0,1,2,3,4,5,6,7,8,9,10,11,12,13] [10,12] (S3.out fun j=>j=ib\/j=it) ((AU _ _).trans gb) ?_
     have d6:=(AU S3 fun j=>j=ib\/j=it).trans gb
     refine gf u8 ?_ o147 [8,10]
     have gM:=ih (x.ah[1]) (env++[txt]) .no t' ib S4 (by simpa using gh) (by simp;omega) (dG (Dw (Jj p (lits3++a) b g P k) _ _ _) ga) gA
     refine C1 gM (fun d S5 hx=>?_) (fun d S5 hx=>by cases hx.1)
     obtain⟨gr,rfl⟩:=hx
     cases gr
     refine⟨gu _ gb,?_⟩
     simp only[putD]
     have fY:=f0 (c:=.cells [dI (spE p (lits3++a) b g P k x.ah[1] (env++[txt]) t').2]) _ gb
     refine gf (gi gJ gO) ?_ o147 [8,10]
     have d9:=fZ (spE p (lits3++a) b g P k x.ah[1] (env++[txt]) t').1 (.cells [dI (spE p (lits3++a) b g P k x.ah[1] (env++[txt]) t').2]) S4 gb
     exact⟨2,out++[(spE p (lits3++a) b g P k x.ah[1] (env++[txt]) t').1],(spE p (lits3++a) b g P k x.ah[1] (env++[txt]) t').2,((S4.set ib (.cells [dI (spE p (lits3++a) b g P k x.ah[1] (env++[txt]) t').2])).set it (.tail 4 (out.length+1))).set i8 (.cells [dI x.op,dI num,.str txt,.slice ((out++[(spE p (lits3++a) b g P k x.ah[1] (env++[txt]) t').1]).map Al) (.tag it)]),⟨by omega,by simp;omega,by rw[aT];exact hR,fP,w7 .., d9.1,d9.2.1,d9.2.2⟩,td1,wkR⟩
    ·rw[aN c91]at hR fP gh ga
     by_cases c9:x.op=9
     case' pos=>
      have c1:j≠1:=fun h=>c91 ⟨c9,h⟩
      refine gf (gi o8 c9) ?_ (delO 26 o147) [8,10]
      clear c1
     case' neg=>
      repeat' first|refine gf o8 ?_ (delO 26 o147) [8,10]|apply gy<;>intro hh
     all_goals
      clear c9
      refine CI (id:=26) [0,1,2,3,4,5,6,7,8,9,10,11,12,13] [10,12] (S3.out fun j=>j=ib\/j=it) (AU _ _) ?_
      refine gf u8 ?_ o147 [8,10]
      refine C1 (ih (x.ah[j]) env o t' ib S3 gh (by omega) (dG (Dw (Jj p (lits3++a) b g P k) _ _ _) ga) fQ) (fun d S5 hx=>?_) (fun d S5 hx=>by cases hx.1)
      obtain⟨gr,rfl⟩:=hx
      cases gr
      refine⟨gu _ (Sub.refl _),?_⟩
      simp only[putD]
      have fY:=f0 (c:=.cells [dI (spE p (lits3++a) b g P k x.ah[j] env t').2]) _ (Sub.refl S3)
      refine gf (gi ot o8) ?_ o147 [8,10]
      have d9:=fZ (spE p (lits3++a) b g P k x.ah[j] env t').1 (.cells [dI (spE p (lits3++a) b g P k x.ah[j] env t').2]) S3 (Sub.refl _)
      exact⟨j+1,out++[(spE p (lits3++a) b g P k x.ah[j] env t').1],(spE p (lits3++a) b g P k x.ah[j] env t').2,((S3.set ib (.cells [dI (spE p (lits3++a) b g P k x.ah[j] env t').2])).set it (.tail 4 (out.length+1))).set i8 (.cells [dI x.op,dI num,.str txt,.slice ((out++[(spE p (lits3++a) b g P k x.ah[j] env t').1]).map Al) (.tag it)]),⟨by omega,by simp;omega,by rw[aT];exact hR,fP,w7 .., d9.1,d9.2.1,d9.2.2⟩,td1,wkR⟩
   ·have gY:j=x.ah.length:=by omega
    rw[A1 gw,CG]at hR fP
    rw[bb]at hR
    rw[<-hR,<-fP]
    refine dwp_wk (BW (az:=[dI x.op,dI num,.str txt]) (bs:=[]) (d':=sl (out.map Al)) o8 (Ao _ _)) ?_
    refine gf o6 ?_ o147 [8,10]
    exact finC (S':=V.set ib (.cells [dI t'])) ⟨rfl,rfl⟩ (hw:=by refine AM ?_;simp[CF,aB.op,aB.n,aB.text,aB.ah]) (hZ:=(oS.set (by rw[w8 _ _ (aQ n8)];exact s8)).set (by rw[w8 _ _ (aQ n6)];exact s6))
  ·repeat' first|refine gz ?_ o147 [8,10]|apply gy<;>intro hh
   ·have c:x.op=1:=by assumption
    exact dwp_wk (Ae (by first|(simp;done)|(simp_all;done)) (d7 _ _ (by simp[c]) (by simp[Cp,c]) (by omega))) hK
   ·have c:x.op=3:=by assumption
    obtain⟨m,hm,gv,fM⟩:=BX (r3 c)
    refine gf hm ?_ o147 [8,10]
    exact dwp_wk (Ae (by first|(simp;done)|(simp_all;done)) (d7 _ _ (by simp[c]) (by simp[Cp,c,fM]) (by omega))) hK
   ·have c:x.op=4:=by assumption
    obtain⟨m,hm,gv,fM⟩:=BX (r47 (.inl c))
    refine gf (gi hm fK) ?_ o147 [8,10]
    exact dwp_wk (Ae (by first|(simp;done)|(simp_all;done)) (d7 _ _ (by simp[c]) (by simp[Cp,c,fM]) (by omega))) hK
   ·have c:x.op=7:=by assumption
    obtain⟨m,hm,gv,fM⟩:=BX (r47 (.inr c))
    refine gf (gi hm fK) ?_ o147 [8,10]
    exact dwp_wk (Ae (by first|(simp;done)|(simp_all;done)) (d7 _ _ (by simp[c]) (by simp[Cp,c,fM]) (by omega))) hK
   ·have c:x.op=5:=by assumption
    obtain⟨m,hm,gv,fM⟩:=BX (r5 c)
    refine gf (gi hm fK) ?_ o147 [8,10]
    exact dwp_wk (Ae (by first|(simp;done)|(simp_all;done)) (d7 _ _ (by simp[c]) (by simp[Cp,c,fM]) (by omega))) hK
   ·have c:x.op=6:=by assumption
    have i145:∀V:Sig,Ans 145 [cSp0 p a b g,dI x.n] V True (.str (ixS (lits3++a) x.n)):=fun V=>ah0 (HC p a b g x.n V (r68 (.inl c)) (by omega))
    refine gz ?_ o147 [8,10]
    exact dwp_wk (Ae (by first|(simp;done)|(simp_all;done)) (d7 _ _ (by simp[c]) (by simp[Cp,c]) (by omega))) hK
   ·have c:x.op=8:=by assumption
    have i145:∀V:Sig,Ans 145 [cSp0 p a b g,dI x.n] V True (.str (ixS (lits3++a) x.n)):=fun V=>ah0 (HC p a b g x.n V (r68 (.inr c)) (by omega))
    refine gz ?_ o147 [8,10]
    exact dwp_wk (Ae (by first|(simp;done)|(simp_all;done)) (d7 _ _ (by simp[c]) (by simp[Cp,c]) (by omega))) hK
   ·have c:x.op=9:=by assumption
    have ht:=r9 c
    have fM:ixS P t=P[t]:=by unfold ixS;rw[show((t:Int)).toNat=t by omega,aM ht];rfl
    obtain⟨PT,gn⟩:∃PT,PT=P.take (t+1):=⟨_,rfl⟩
    have i73:∀V:Sig,Ans 73 [.ak,dI ((t:Int)+1)] V True (sl (cS PT)):=fun V=>ah0 (au.wk (Qv (t+1) [] PT .no V (by simp;omega) (by rw[gn];exact gN t ht)) (AL (Am _ (.inl rfl)) (AL (AM (by simp)) GJ)))
    have gT:PT.length=t+1:=by rw[gn,cj];omega
    have gS:t<PT.length:=by omega
    have gH:PT[t]=P[t]:=by simp only[gn];rw[List.getElem_take]
    clear gn
    refine gf fR ?_ o147 [8,10]
    refine dwp_wk (Ae (by simp) (AQ ?_)) hK
    rw[gH]
    simp[Cp,c,fM]
   ·exact dwp_wk (Ae (by first|(simp;done)|(simp_all;done)) (d7 _ _ (by simp[*]) (by simp[Cp, *]) (by assumption))) hK
end Go.DL
