/- A part of the proof. -/
import Derived.Test.YtlfimpogphmbdaaGreatH16
set_option linter.all false
namespace Go.DL
open Go.Proofs.Tryz
open Go Go.Proofs
set_option maxHeartbeats 8000000
def Ca:fP->Int->List (Str×Int)
 |[],_=>[]
 |s::r,k=>(s,k)::Ca r (k+1)
def FD(s:Str): ∀(l:fP) (k:Int),hasM s (Ca l k)=decide (s∈l)
 |[],_=>by simp[Ca,hasM]
 |x::r,k=>by rw[Ca,hasM,FD s r];by_cases h:s=x<;>simp[h]
def Hu(s:Str): ∀(l:fP) (k:Nat),s∈l->getM 0 s (Ca l k)=idxG s l k/\(k:Int)<=idxG s l k/\idxG s l k<k+l.length
 |[],_,h=>by simp at h
 | x::r,k,h=>by
  by_cases e:s=x
  ·subst e;simp[Ca,getM,idxG];omega
  ·have:=Hu s r (k+1) ((be.1 h).resolve_left e);rw[Ca,getM,aQ e,idxG,aQ (fun h=>e h.symm)];rw[show((k:Int)+1)=((k+1:Nat):Int) by omega];simp only[aV];refine⟨this.1,?_,?_⟩<;>omega
def YG{s:Str}{l:fP}(h:s∈l):getM 0 s (Ca l 0)=idxG s l 0/\0<=idxG s l 0/\idxG s l 0<l.length:=by
 have:=Hu s l 0 h;simpa using this
def UH(s:Str): ∀(l:fP) (k:Int), ¬s∈l->putM s (k+l.length) (Ca l k)=Ca (l++[s]) k
 |[],k,_=>by simp[Ca,putM]
 |x::r,k,h=>by
  have h1:¬s=x:=fun e=>h (by simp[e])
  have:=UH s r (k+1) fun e=>h (by simp[e])
  rw[Ca,putM,aQ h1,bE,Ca,<-this]
  congr 2;simp only[aV];omega
def cM(s:fP):fQ:=[.cmap (s.map .str) (s.map fun _=>.bool true)]
def cMs(hs:List fP):fV:=hs.map cM
@[simp] theorem cMs_len(hs:List fP):(cMs hs).length=hs.length:=by simp[cMs]
@[simp] theorem cMs_get(hs:List fP)(k:Nat):(cMs hs)[k]? = (hs[k]?).map cM:=by simp[cMs]
@[simp] theorem cMs_all(hs:List fP):(cMs hs).all (fun c=>c.length==1)=true:=by simp[cMs,cM]
def cMs_app(hs:List fP)(u:fP):cMs hs++[cM u]=cMs (hs++[u]):=by simp[cMs]
abbrev lC(f:aL)(ic is:Nat)(d:D)(n:Int):kM:=.cells [sl (f.ak.map kL),sl (f.k9.map BQ),dI f.kH.op,dI f.kH.n,.str f.kH.text,sl (f.kH.aq.map Af),.map ic,d,.map is,dI n]
def HasD(S0 V:Sig)(d:D)(hs:List fP):Prop:=(hs=[]/\d=.av) \/ ∃ih,d=.slice (cMs hs) (.tag ih)/\V ih=some (.tail 1 hs.length)/\S0 ih=none
def HasD.set{S0 V:Sig}{d:D}{hs:List fP}(h:HasD S0 V d hs){k:Nat}{o:kM}(hk:∀n,V k≠some (.tail 1 n)):HasD S0 (V.set k o) d hs:=by
 rcases h with h|⟨ih,h1,h2,h3⟩
 ·exact .inl h
 ·refine .inr ⟨ih,h1,?_,h3⟩;rw[w8 _ _ fun e=>hk _ (e ▸ h2)];exact h2
def Uc(s:fP):(s.map D.str).zip (s.map fun _=>D.bool true)=eSS s:=by
 unfold eSS eS
 induction s with
 |nil=>rfl
 |cons x s ih=>simp only[bg,fq,ih]
def PD(s:fP)(j:Nat):(eSS s).eraseIdx j=eSS (s.eraseIdx j):=by
 unfold eSS eS
 induction s generalizing j with
 |nil=>simp
 |cons x s ih=>cases j with
  |zero=>simp
  |succ j=>simp[ih]
def Xi{s:fP}{j:Nat}{k v:D}(h:(eSS s)[j]? = some (k,v)): ∃hj:j<s.length,k=.str s[j]/\v=.bool true:=by
 unfold eSS eS at h;rw[bN]at h
 by_cases hj:j<s.length
 ·rw[aT hj]at h;simp only[bT,bJ,dC]at h;exact⟨hj,h.1.symm,h.2.symm⟩
 ·rw[bW k0]at h;cases h
def Kp{s:fP}{j:Nat}(hj:j<s.length)(x:Str):x∈s ↔ x=s[j]\/x∈s.eraseIdx j:=by
 have e:s=s.take j++s[j]::s.drop (j+1):=by rw[<-ed hj,dt]
 rw[List.eraseIdx_eq_take_drop_succ];constructor
 ·intro h;rw[e]at h;simp only[bi,be]at h⊢; grind
 ·rintro(rfl|h)
  ·exact aR hj
  ·rw[e];simp only[bi,be]at h⊢; grind
structure PS(f:aL)(ip ic is:Nat)(S0 V:Sig)(names am:fP)(hs:List fP)(d:D)(n:Int):Prop where
 prg:V ip=some (lC f ic is d n)
 cls:V ic=some (.map (eSN (Ca names 0)))
 slo:V is=some (.map (eSS am))
 has:HasD S0 V d hs
 keep:kQ (fun j=>j=ip\/j=ic\/j=is) S0 V
def PS.non{f:aL}{ip ic is:Nat}{S0 V:Sig}{names am:fP}{hs:List fP}{d:D}{n:Int}(h:PS f ip ic is S0 V names am hs d n)(k:Nat)(hk:V k=none):S0 k=none:=by
 cases hc:S0 k with
 |none=>rfl
 | some o =>
  by_cases ht:k=ip\/k=ic\/k=is
  ·rcases ht with rfl|rfl|rfl
   ·rw[h.prg]at hk;cases hk
   ·rw[h.cls]at hk;cases hk
   ·rw[h.slo]at hk;cases hk
  ·rw[h.keep k o hc ht]at hk;cases hk
def PS.fresh{f:aL}{ip ic is:Nat}{S0 V:Sig}{names am:fP}{hs:List fP}{d:D}{n:Int}(h:PS f ip ic is S0 V names am hs d n){k:Nat}{o:kM}(hk:V k=none):PS f ip ic is S0 (V.set k o) names am hs d n:=by
 have e:∀j x,V j=some x->j≠k:=fun j x h e=>by rw[e,hk]at h;cases h
 refine⟨k8 (e _ _ h.prg) h.prg,k8 (e _ _ h.cls) h.cls,k8 (e _ _ h.slo) h.slo,h.has.set (by rw[hk];simp),fun j x h1 h2=>?_⟩;have:=h.keep j x h1 h2;rw[w8 _ _ (e _ _ this)];exact this
def PS.other{f:aL}{ip ic is:Nat}{S0 V:Sig}{names am:fP}{hs:List fP}{d:D}{n:Int}(h:PS f ip ic is S0 V names am hs d n){k:Nat}{o:kM}(h0:S0 k=none)(hk:∀n,V k≠some (.tail 1 n))(h1:ip≠k)(h2:ic≠k)(h3:is≠k):PS f ip ic is S0 (V.set k o) names am hs d n:=
 ⟨by rw [w8 _ _ h1];exact h.prg,by rw [w8 _ _ h2];exact h.cls,by rw [w8 _ _ h3];exact h.slo,h.has.set hk,fun j x h4 h5=>by
  rw[w8 _ _ fun e=>by rw[e,h0]at h4;cases h4];exact h.keep j x h4 h5⟩
def parE(names:fP):fP->fP->Bool
 |_,[]=>true
 |seen,s::r=>decide (s∈names)&&((Ak s&&!decide (s∈seen))&&parE names (seen++[s]) r)
def sloE:fP->fP->Bool
 |_,[]=>true
 |seen,s::r=>(Ak s&&!decide (s∈seen))&&sloE (seen++[s]) r
def iniE(mine:fP):fP->List aM->Bool
 |_,[]=>true
 |seen,x::r=>(decide (x.slot∈mine)&&inB x.n)&&((Ak x.slot&&!decide (x.slot∈seen))&&iniE mine (seen++[x.slot]) r)
def OR(names:fP)(hs:List fP)(s:Str):fP:=(hs[(idxG s names 0).toNat]?).getD []
def ER(names:fP)(hs:List fP)(c:aJ):fP:=c.ap.flatMap (OR names hs)++c.am
def clsE:fP->fP->List fP->List aJ->Bool
 |_,_,_,[]=>true
 | names,am,hs,c::r=>decide (c.ap.length<=3/\c.am.length<=4) && (parE names [] c.ap && (sloE am c.am && (iniE (ER names hs c) [] c.ar && ((Ak c.name && !decide (c.name ∈ names)) &&
   clsE (names++[c.name]) (am++c.am) (hs++[ER names hs c]) r))))
def SameE(a b:List fP):Prop:=a.length=b.length /\ ∀(k:Nat) (x:Str),(x∈(a[k]?).getD [] ↔ x∈(b[k]?).getD [])
def IQ{m m':fP}(h:∀x,x∈m ↔ x∈m'): ∀(l:List aM) (seen:fP),iniE m seen l=iniE m' seen l
 |[],_=>rfl
 |x::r,seen=>by rw[iniE,iniE,IQ h r,cJ.2 (h x.slot)]
def MB: ∀(cs:List aJ) (names am:fP) (a b:List fP),SameE a b->clsE names am a cs=clsE names am b cs
 |[],_,_,_,_,_=>rfl
 | c::r,names,am,a,b,h=>by
  have hm:∀x,x∈ER names a c ↔ x∈ER names b c:=fun x=>by
   simp only[ER,bi,dw,OR];exact or_congr (exists_congr fun s=>and_congr_right fun _=>h.2 _ x) Iff.rfl
  rw[clsE,clsE,IQ hm,MB r _ _ (a++[ER names a c]) (b++[ER names b c])];refine⟨by simp[h.1],fun k x=>?_⟩
  by_cases h1:k<a.length
  ·rw[bK h1,bK (by rw[<-h.1];exact h1)];exact h.2 k x
  ·rw[bP k0,bP (by rw[<-h.1];omega),h.1]
   by_cases h2:k-b.length=0
   ·rw[h2];simpa using hm x
   ·rw[bW (by simp;omega),bW (by simp;omega)]
def clsB(f:aL):Bool:=decide (f.ak.length<=10)&&clsE [] [] [] f.ak
def A3{V:Sig}{a b:Nat}{o:kM}(h:V a=some o)(k:V b=none):a≠b:=fun e=>by rw[e,k]at h;cases h
def Ab{V:Sig}{a b:Nat}{o x:kM}(h:V a=some o)(k:V b=some x)(hx:o≠x):a≠b:=fun e=>by rw[e,k]at h;cases h;exact hx rfl
structure Dst(ip ic is isn im ia ii:Nat):Prop where
 a1:ip≠ic
 a2:ip≠is
 a3:ip≠isn
 a4:ip≠im
 a5:ip≠ia
 a6:ip≠ii
 b1:ic≠is
 b2:ic≠isn
 b3:ic≠im
 b4:ic≠ia
 b5:ic≠ii
 c1:is≠isn
 c2:is≠im
 c3:is≠ia
 c4:is≠ii
 d1:isn≠im
 d2:isn≠ia
 d3:isn≠ii
 e1:im≠ia
 e2:im≠ii
 e3:ia≠ii
structure IS(f:aL)(ip ic is isn im ia ii:Nat)(S0 V:Sig)(names am:fP)(hs:List fP)(d:D)(sn t a b:fP):Prop where
 ps:PS f ip ic is S0 V names am hs d 0
 osn:V isn=some (.map (eSS sn))
 om:V im=some (.map (eSS t))
 oa:V ia=some (.map (eSS a))
 oi:V ii=some (.map (eSS b))
section
variable {f:aL}{ip ic is isn im ia ii:Nat}{S0 V:Sig}{names am:fP}{hs:List fP}{d:D}{sn t a b:fP}
theorem GK{k:Nat}{m:List (D×D)}(h:V k=some (.map m)): ∀n,V k≠some (.tail 1 n):=fun n e=>by rw[h]at e;cases e
theorem UM{k:Nat}{l:List (D×D)}{la:Option (D×D)}(h:V k=some (.iter l la)): ∀n,V k≠some (.tail 1 n):=fun n e=>by rw[h]at e;cases e
theorem IS.setm(h:IS f ip ic is isn im ia ii S0 V names am hs d sn t a b)(D:Dst ip ic is isn im ia ii)(h0:S0 im=none)(t':fP):IS f ip ic is isn im ia ii S0 (V.set im (.map (eSS t'))) names am hs d sn t' a b:=
 ⟨h.ps.other h0 (GK h.om) D.a4 D.b3 D.c2,k8 D.d1 h.osn,w7 .., by rw[w8 _ _ (aZ D.e1)];exact h.oa,k8 (aZ D.e2) h.oi⟩
theorem IS.seta(h:IS f ip ic is isn im ia ii S0 V names am hs d sn t a b)(D:Dst ip ic is isn im ia ii)(h0:S0 ia=none)(a':fP):IS f ip ic is isn im ia ii S0 (V.set ia (.map (eSS a'))) names am hs d sn t a' b:=
 ⟨h.ps.other h0 (GK h.oa) D.a5 D.b4 D.c3,k8 D.d2 h.osn,k8 D.e1 h.om,w7 .., by rw[w8 _ _ (aZ D.e3)];exact h.oi⟩
theorem IS.seti(h:IS f ip ic is isn im ia ii S0 V names am hs d sn t a b)(D:Dst ip ic is isn im ia ii)(h0:S0 ii=none)(b':fP):IS f ip ic is isn im ia ii S0 (V.set ii (.map (eSS b'))) names am hs d sn t a b':=
 ⟨h.ps.other h0 (GK h.oi) D.a6 D.b5 D.c4,k8 D.d3 h.osn,k8 D.e2 h.om,k8 D.e3 h.oa,w7 ..⟩
theorem IS.setn(h:IS f ip ic is isn im ia ii S0 V names am hs d sn t a b)(D:Dst ip ic is isn im ia ii)(h0:S0 isn=none)(n':fP):IS f ip ic is isn im ia ii S0 (V.set isn (.map (eSS n'))) names am hs d n' t a b:=
 ⟨h.ps.other h0 (GK h.osn) D.a3 D.b2 D.c1,w7 .., by rw[w8 _ _ (aZ D.d1)];exact h.om,k8 (aZ D.d2) h.oa,k8 (aZ D.d3) h.oi⟩
theorem IS.sets(h:IS f ip ic is isn im ia ii S0 V names am hs d sn t a b)(D:Dst ip ic is isn im ia ii)(s':fP):IS f ip ic is isn im ia ii S0 (V.set is (.map (eSS s'))) names s' hs d sn t a b:=
 ⟨⟨by rw [w8 _ _ D.a2];exact h.ps.prg,by rw [w8 _ _ D.b1];exact h.ps.cls,w7 .., h.ps.has.set (GK h.ps.slo),fun j x h1 h2=>by rw [w8 _ _ fun e=>h2 (.inr (.inr e))];exact h.ps.keep j x h1 h2⟩,
  by rw[w8 _ _ (aZ D.c1)];exact h.osn,k8 (aZ D.c2) h.om,k8 (aZ D.c3) h.oa,k8 (aZ D.c4) h.oi⟩
theorem IS.fresh(h:IS f ip ic is isn im ia ii S0 V names am hs d sn t a b){k:Nat}{o:kM}(hk:V k=none):IS f ip ic is isn im ia ii S0 (V.set k o) names am hs d sn t a b:=
 ⟨h.ps.fresh hk,k8 (A3 h.osn hk) h.osn,k8 (A3 h.om hk) h.om,k8 (A3 h.oa hk) h.oa,k8 (A3 h.oi hk) h.oi⟩
theorem IS.iter(h:IS f ip ic is isn im ia ii S0 V names am hs d sn t a b){k:Nat}{o:kM}{l:List (D×D)}{la:Option (D×D)}(h0:S0 k=none)(hk:V k=some (.iter l la)):IS f ip ic is isn im ia ii S0 (V.set k o) names am hs d sn t a b:=
 have e:∀j m,V j=some (.map m)->j≠k:=fun j m hj=>Ab hj hk k7
 ⟨h.ps.other h0 (UM hk) (Ab h.ps.prg hk k7) (e _ _ h.ps.cls) (e _ _ h.ps.slo),k8 (e _ _ h.osn) h.osn,k8 (e _ _ h.om) h.om,k8 (e _ _ h.oa) h.oa,k8 (e _ _ h.oi) h.oi⟩
theorem IS.delm(h:IS f ip ic is isn im ia ii S0 V names am hs d sn t a b)(D:Dst ip ic is isn im ia ii)(h0:S0 im=none):PS f ip ic is S0 (V.del im) names am hs d 0:=by
 have e:∀j,j≠im->(V.del im) j=V j:=fun j hj=>by simp[Sig.del,hj]
 refine⟨by rw[e _ D.a4];exact h.ps.prg,by rw[e _ D.b3];exact h.ps.cls,by rw[e _ D.c2];exact h.ps.slo,?_,fun j x h1 h2=>?_⟩
 ·rcases h.ps.has with h1|⟨ih,h1,h2,h3⟩
  ·exact .inl h1
  ·exact .inr ⟨ih,h1,by rw[e _ (Ab h2 h.om k7)];exact h2,h3⟩
 ·rw[e _ fun e=>by rw[e,h0]at h1;cases h1];exact h.ps.keep j x h1 h2
theorem PS.setc{n:Int}(h:PS f ip ic is S0 V names am hs d n)(a1:ip≠ic)(b1:ic≠is){s:Str}(_:¬s∈names):PS f ip ic is S0 (V.set ic (.map (eSN (Ca (names++[s]) 0)))) (names++[s]) am hs d n:=
 ⟨k8 a1 h.prg,w7 .., by rw[w8 _ _ (aZ b1)];exact h.slo,h.has.set (GK h.cls),fun j x h1 h2=>by rw[w8 _ _ fun e=>h2 (.inr (.inl e))];exact h.keep j x h1 h2⟩
theorem PS.setp{n n':Int}{d':D}{hs':List fP}(h:PS f ip ic is S0 V names am hs d n)(a1:ip≠ic)(a2:ip≠is)(hd:HasD S0 (V.set ip (lC f ic is d' n')) d' hs'):PS f ip ic is S0 (V.set ip (lC f ic is d' n')) names am hs' d' n':=
 ⟨w7 .., by rw[w8 _ _ (aZ a1)];exact h.cls,k8 (aZ a2) h.slo,hd,fun j x h1 h2=>by rw[w8 _ _ fun e=>h2 (.inl e)];exact h.keep j x h1 h2⟩
end
def Xj(u:fP):(eSS u).map (·.1)=u.map D.str:=by simp[eSS,eS]
def Xh(u:fP):(eSS u).map (·.2)=u.map fun _=>D.bool true:=by simp[eSS,eS]
def ClsR(f:aL)(ip ic is:Nat)(V:Sig)(x:DE)(U':Sig):Prop:=
 if clsB f then x=.ret (.tup []) /\ ∃hs d,PS f ip ic is V U' (f.ak.map (·.name)) (f.ak.flatMap (·.am)) hs d f.ak.length
 else x=.panic l7 /\ ∃names am hs d n,PS f ip ic is V U' names am hs d n
def Mn (f:aL) (ip ic is:Nat) (V:Sig) (hp:f.wt<=1073741824) (h0:PS f ip ic is V V [] [] [] .av 0) (iX:ic ≠ is):aB prog 185 [.ptr ip 0] V (ClsR f ip ic is V):=by
 obtain⟨p1,p2,p3,p4,p5⟩:=f.wt_le
 have d6:clsB f=false->∀U' names am hs d n,PS f ip ic is V U' names am hs d n->ClsR f ip ic is V (.panic l7) U':=fun h U' names am hs d n hP=>by
  unfold ClsR;rw[h,aQ k7];exact⟨rfl,_,_,_,_,_,hP⟩
 have gW:=h0.prg;refine en func185 ntmps185 ?_
 by_cases gI:f.ak.length<=10
 ·refine gf gW ?_ lZ;refine Ng (fun isn ga=>?_);have iy:=h0.keep isn;have iG:=h0.fresh (o:=.map (eSS [])) ga;have gV:=iG.prg;refine gf gV ?_ lZ;have d1:isn≠ip:=fun e=>by rw[e,gW]at ga;cases ga
  have d2:isn≠ic:=fun e=>by rw[e,h0.cls]at ga;cases ga
  have d3:isn≠is:=fun e=>by rw[e,h0.slo]at ga;cases ga
  have iR:=A3 h0.prg ga;have jc:clsB f=clsE [] [] [] f.ak:=by unfold clsB;rw[bf gI,bd]
  refine T5 [0,2,30,31,147,148,149,150,151,152,153,154,155] (fun (i:Nat) (S1:Sig) (hs:List fP) (d:D)=>i<=f.ak.length/\hs.length=i/\S1 isn=some (.map (eSS ((f.ak.take i).map (·.name))))/\PS f ip ic is V S1 ((f.ak.take i).map (·.name)) ((f.ak.take i).flatMap (·.am)) hs d 0/\clsB f=clsE ((f.ak.take i).map (·.name)) ((f.ak.take i).flatMap (·.am)) hs (f.ak.drop i)) (fun i _ _ _=>[(32,dI i)]) (fun _ S1 _ _=>S1) (fun i _ _ _=>f.ak.length-i) (0) (_) ([]) (.av) (by exact⟨k0,rfl,w7 .., iG,jc⟩) (fun i S1 hs d hI=>?_);obtain⟨hi,gE,e7,hP,hB⟩:=hI;have gA:=hP.prg
  by_cases fZ:i<f.ak.length
  ·rw [A0 fZ,clsE] at hB;have jp:=p4 i fZ;have iP:((f.ak.take i).map (·.name)).length=i:=by simp;omega
   generalize d7:f.ak[i]=c at*;obtain⟨c1,c2,c3,c4,c5⟩:=c.wt_le;have c2':=Bc c.ap;have c3':=Bc c.am;generalize iO:(f.ak.take i).map (·.name)=names at*;generalize gS:(f.ak.take i).flatMap (·.am)=am at*
   by_cases hlen:c.ap.length<=3/\c.am.length<=4
   ·rw [bf hlen,bd] at hB;refine gf d7 ?_ lZ;refine Ng (fun im gh=>?_);refine Ng (fun ia iE=>?_);refine Ng (fun ii iD=>?_);have gD:∀{U':Sig} {names am hs d n},PS f ip ic is V U' names am hs d n->∀k,U' k=none->V k=none:=fun h=>h.non;have gY:=gD hP;obtain⟨ea,gF⟩:=A8 iE;obtain⟨ei,iW⟩:=A8 iD;obtain⟨ei2,gC⟩:=A8 iW
    have hD:Dst ip ic is isn im ia ii:=⟨Ab hP.prg hP.cls k7,Ab hP.prg hP.slo k7,Ab hP.prg e7 k7,A3 hP.prg gh,A3 hP.prg gF,A3 hP.prg gC,
     iX,aZ d2,A3 hP.cls gh,A3 hP.cls gF,A3 hP.cls gC,aZ d3,A3 hP.slo gh,A3 hP.slo gF,A3 hP.slo gC,A3 e7 gh,A3 e7 gF,A3 e7 gC,aZ ea,aZ ei2,aZ ei⟩
    have ja:IS f ip ic is isn im ia ii V (((S1.set im (.map (eSS []))).set ia (.map (eSS []))).set ii (.map (eSS []))) names am hs d names [] [] []:=
     ⟨((hP.fresh gh).fresh iE).fresh iD,k8 hD.d3 (k8 hD.d2 (k8 hD.d1 e7)),by rw[w8 _ _ hD.e2,w8 _ _ hD.e1,w7],by rw[w8 _ _ hD.e3,w7],w7 ..⟩
    have z1:=gY im gh;have z2:=gY ia gF;have z3:=gY ii gC;have z4:V isn=none:=ga;clear iy;generalize (((S1.set im (.map (eSS []))).set ia (.map (eSS []))).set ii (.map (eSS [])))=S2 at*;refine gf d7 ?_ lZ;refine E2 [0,2,3,4,5,6,7,14,16,30,31,32,33,34,35,36,37,38,39,40,41,42,43,44,45,46,47,48,49,50,51,52,53,87,88,89,90,91,92,93,94,95,96,97,98,99,100,101,102,103,104,105,106,107,108,109,110,111,112,113,114,115,116,117,118,119,120,121,122,123,124,125,126,127,128,129,130,131,132,133,134,135,136,137,138,139,140,141,142,143,144,145,146,147,148,149,150,151,152,153,154,155] (fun (j:Nat) (S3:Sig) (t:fP)=>j<=c.ap.length/\IS f ip ic is isn im ia ii V S3 names am hs d names t (c.ap.take j) []/\(∀x,x∈t ↔ x∈(c.ap.take j).flatMap (OR names hs))/\clsB f=(parE names (c.ap.take j) (c.ap.drop j)&&(sloE am c.am&&(iniE (ER names hs c) [] c.ar&&((Ak c.name&&!decide (c.name∈names))&&clsE (names++[c.name]) (am++c.am) (hs++[ER names hs c]) (f.ak.drop (i+1))))))) (fun j _ _=>[(54,dI j)]) (fun _ S3 _=>S3) (fun j _ _=>c.ap.length-j) (0) (S2) ([]) (by exact⟨k0,ja,k7,hB⟩) (fun j S3 t hI=>?_);clear hB;obtain⟨hj,hS,ht,hB⟩:=hI
    by_cases gw:j<c.ap.length
    ·rw [A0 gw,parE] at hB;have o1:=hS.ps.prg;have o2:=hS.ps.cls;have gx:(c.ap[j]).length<=1073741824:=by have:=JN c.ap j gw;omega
     by_cases e8:c.ap[j]∈names
     ·rw [bf e8,bd] at hB;obtain⟨g1,g2,g3⟩:=YG e8;refine gf (gi d7 (gi o1 (gi o2 (gi FD e8)))) ?_ lZ;refine Ad (Fh c.ap[j] ia (c.ap.take j) S3 hS.oa gx) (fun e S4 hr=>?_) (fun e S4 hr=>?_)
      ·rcases hr with⟨q1,q2,gQ⟩|⟨_,q2,_⟩
       ·simp only[DE.ret.injEq]at q2;subst q2;rw[q1,bd]at hB;have gH:=hS.seta hD z2 (c.ap.take j++[c.ap[j]]);rw[<-gQ,<-AQ gw]at gH;rw[<-AQ gw]at hB;clear gQ;have o3:=gH.ps.prg;rcases gH.ps.has with⟨gZ,_⟩|⟨ih,hd,fX,_⟩
        ·rw[gZ]at gE;simp at gE;omega
        ·obtain⟨q,hq⟩:∃q:Nat,getM 0 c.ap[j] (Ca names 0)=(q:Int):=⟨(getM 0 c.ap[j] (Ca names 0)).toNat,k0⟩;have iM:q<hs.length:=by omega
         have i0:OR names hs c.ap[j]=hs[q]:=by unfold OR;rw[show(idxG c.ap[j] names 0).toNat=q by omega,aT iM];rfl
         have iY:cM hs[q]=[.cmap (hs[q].map .str) (hs[q].map fun _=>.bool true)]:=rfl;rw[hd]at o3;refine gf (gi o3 (gi hq iY)) ?_ lZ;refine rng (kt:=9) (et:=4) (l:=eSS hs[q]) (fun it iB=>?_) (hx:=by rw[<-Uc];with_unfolding_all rfl);have gG:=gH.fresh (o:=.iter (eSS hs[q]) none) iB;have z5:=gD gH.ps it iB;refine gz ?_ lZ;refine T5 [0,2,3,4,5,6,7,9,10,11,14,16,30,31,32,33,34,35,36,37,38,39,40,41,42,43,44,45,46,47,48,49,50,51,52,53,54,55,56,57,58,59,60,61,62,63,64,65,66,67,68,69,70,71,72,73,74,75,76,77,78,79,86,87,88,89,90,91,92,93,94,95,96,97,98,99,100,101,102,103,104,105,106,107,108,109,110,111,112,113,114,115,116,117,118,119,120,121,122,123,124,125,126,127,128,129,130,131,132,133,134,135,136,137,138,139,140,141,142,143,144,145,146,147,148,149,150,151,152,153,154,155] (fun (L:fP) (u:fP) (S5:Sig) (la:Option (D×D))=>(∀x,(x∈u\/x∈L) ↔ (x∈t\/x∈hs[q]))/\IS f ip ic is isn im ia ii V S5 names am hs d names u (c.ap.take (j+1)) []/\S5 it=some (.iter (eSS L) la)) (fun _ _ _ _=>[]) (fun _ _ S5 _=>S5) (fun L _ _ _=>L.length) (hs[q]) (t) (_) (none) (by exact⟨fun x=>Iff.rfl,gG,w7 ..⟩) (fun L u S5 la hI=>?_);obtain⟨hL,d9,gb⟩:=hI;refine gz ?_ lZ
         refine nxt (fun iI=>?_) (fun jj k v iV=>?_) (hi:=gb)
         ·have jb:L=[]:=by unfold eSS eS at iI;simpa using iI
          subst jb;refine gz ?_ lZ;exact⟨j+1,S5,u,by refine⟨k0,d9,fun x=>?_,hB⟩;rw[AQ gw,fo,bi,<-ht x,cx,eV,br,i0,<-hL x];simp,td1,wkR⟩
         ·obtain⟨iA,rfl,rfl⟩:=Xi iV;rw[PD];have iF:=d9.iter (o:=.iter (eSS (L.eraseIdx jj)) (some (D.str L[jj],D.bool true))) z5 gb;have o7:=iF.om;refine gz ?_ lZ;refine ent ?_;refine gf o7 ?_ lZ;have jk:(L.eraseIdx jj).length<L.length:=by rw[fj,aS iA];omega
          have iK:it≠im:=fun e=>by rw[e,d9.om]at gb;cases gb
          exact⟨L.eraseIdx jj,ins L[jj] u,_,_,by refine⟨fun x=>?_,iF.setm hD z1 _,k8 iK (w7 ..)⟩;rw[Et,<-hL x,Kp iA x];grind,td1,wkR⟩
       ·cases q2
      ·rcases hr with⟨_,q2,_⟩|⟨q1,q2,gQ⟩
       ·cases q2
       ·have hF:clsB f=false:=by rw[hB,q1];rfl
        simp only[DE.panic.injEq]at q2;subst q2 gQ;exact kV (U':=_) (d6 hF _ _ _ _ _ _ hS.ps)
     ·have hF:clsB f=false:=by rw[hB,ba e8];rfl
      repeat' first|(exact kV (U':=S3) (d6 hF _ _ _ _ _ _ hS.ps))|refine gf (gi d7 (gi o1 (gi o2 (gi FD e8)))) ?_ lZ|apply gy<;>intro hh
    ·rw [A1 gw,parE,bd] at hB;rw[bM k0]at hS ht;refine gf d7 ?_ lZ;refine E2 [0,2,3,4,5,6,7,9,10,11,12,16,30,31,32,33,34,35,36,37,38,39,40,41,42,43,44,45,46,47,48,49,50,51,52,53,54,55,56,57,58,59,60,61,62,63,64,65,66,67,68,69,70,71,72,73,74,75,76,77,78,79,80,81,82,83,84,85,86,87,88,89,103,104,105,106,107,108,109,110,111,112,113,114,115,116,117,118,119,120,121,122,123,124,125,126,127,128,129,130,131,132,133,134,135,136,137,138,139,140,141,142,143,144,145,146,147,148,149,150,151,152,153,154,155] (fun (k:Nat) (S4:Sig) (u:fP)=>k<=c.am.length/\IS f ip ic is isn im ia ii V S4 names (am++c.am.take k) hs d names u c.ap []/\(∀x,x∈u ↔ (x∈c.ap.flatMap (OR names hs)\/x∈c.am.take k))/\clsB f=(sloE (am++c.am.take k) (c.am.drop k)&&(iniE (ER names hs c) [] c.ar&&((Ak c.name&&!decide (c.name∈names))&&clsE (names++[c.name]) (am++c.am) (hs++[ER names hs c]) (f.ak.drop (i+1)))))) (fun k _ _=>[(90,dI k)]) (fun _ S4 _=>S4) (fun k _ _=>c.am.length-k) (0) (S3) (t) (by exact⟨k0,by simpa using hS,by simpa using ht,by simpa using hB⟩) (fun k S4 u hI=>?_);clear hB hS ht;obtain⟨hk,hS,ht,hB⟩:=hI
     by_cases gv:k<c.am.length
     ·rw[A0 gv,sloE]at hB;have o1:=hS.ps.prg;have gx:(c.am[k]).length<=1073741824:=by have:=JN c.am k gv;omega
      refine gf (gi d7 o1) ?_ lZ;refine Ad (Fh c.am[k] is (am++c.am.take k) S4 hS.ps.slo gx) (fun e S5 hr=>?_) (fun e S5 hr=>?_)
      ·rcases hr with⟨q1,q2,gP⟩|⟨_,q2,_⟩
       ·simp only[DE.ret.injEq]at q2;subst q2;have gG:=hS.sets hD (am++c.am.take k++[c.am[k]]);rw[<-gP,bc,<-AQ gv]at gG;rw[q1,bd,bc,<-AQ gv]at hB;clear gP;have o3:=gG.om;refine gf o3 ?_ lZ;exact⟨k+1,_,ins c.am[k] u,by refine⟨k0,gG.setm hD z1 _,fun x=>?_,hB⟩;rw[Et,ht x,AQ gv,bi,bq];grind,td1,wkR⟩
       ·cases q2
      ·rcases hr with⟨_,q2,_⟩|⟨q1,q2,gP⟩
       ·cases q2
       ·have hF:clsB f=false:=by rw[hB,q1];rfl
        simp only[DE.panic.injEq]at q2;subst q2 gP;exact kV (U':=_) (d6 hF _ _ _ _ _ _ hS.ps)
     ·rw [A1 gv,sloE,bd] at hB;rw[bM k0]at hS ht;have g8:∀x,x∈u ↔ x∈ER names hs c:=fun x=>by rw[ht x,ER,bi]
      rw[<-IQ g8]at hB;refine gf d7 ?_ lZ;refine AG [0,2,3,4,5,6,7,9,10,11,12,14,30,31,32,33,34,35,36,37,38,39,40,41,42,43,44,45,46,47,48,49,50,51,52,53,54,55,56,57,58,59,60,61,62,63,64,65,66,67,68,69,70,71,72,73,74,75,76,77,78,79,80,81,82,83,84,85,86,87,88,89,90,91,92,93,94,95,96,97,98,99,100,101,102,103,104,105,125,126,127,128,129,130,131,132,133,134,135,136,137,138,139,140,141,142,143,144,145,146,147,148,149,150,151,152,153,154,155] (fun (q:Nat) (S5:Sig)=>q<=c.ar.length/\IS f ip ic is isn im ia ii V S5 names (am++c.am) hs d names u c.ap ((c.ar.take q).map (·.slot))/\clsB f=(iniE u ((c.ar.take q).map (·.slot)) (c.ar.drop q)&&((Ak c.name&&!decide (c.name∈names))&&clsE (names++[c.name]) (am++c.am) (hs++[ER names hs c]) (f.ak.drop (i+1))))) (fun q _=>[(106,dI q)]) (fun _ S5=>S5) (fun q _=>c.ar.length-q) (0) (S4) (by exact⟨k0,by simpa using hS,by simpa using hB⟩) (fun q S5 hI=>?_);clear hB hS;obtain⟨hq,hS,hB⟩:=hI
      by_cases gM:q<c.ar.length
      ·rw [A0 gM,iniE] at hB;have o1:=hS.om;have gx:(c.ar[q]).slot.length<=1073741824:=by have:=c5 q gM;omega
       generalize hx:c.ar[q]=x at*;cases gj:decide (x.slot∈u)&&inB x.n with
       |false=>
        have hF:clsB f=false:=by rw[hB,gj];rfl
        repeat' first|(exact kV (U':=_) (d6 hF _ _ _ _ _ _ hS.ps))|refine gf (gi d7 (gi o1 hx)) ?_ lZ|apply gy<;>intro hh
        rename_i k1;rw[bf k1,hh]at gj;cases gj
       | true =>
        rw[gj,bd]at hB;simp only[aN,aP]at gj;refine gf (gi d7 (gi o1 (gi hx (gi gj.1 gj.2)))) ?_ lZ;refine Ad (Fh x.slot ii ((c.ar.take q).map (·.slot)) S5 hS.oi gx) (fun e S6 hr=>?_) (fun e S6 hr=>?_)
        ·rcases hr with⟨q1,q2,gc⟩|⟨_,q2,_⟩
         ·simp only[DE.ret.injEq]at q2;subst q2;have e3:(c.ar.take (q+1)).map (·.slot)=(c.ar.take q).map (·.slot)++[x.slot]:=by rw[AQ gM,bL,hx];rfl
          have d9:=hS.seti hD z3 ((c.ar.take q).map (·.slot)++[x.slot]);rw[<-gc,<-e3]at d9;rw[q1,bd,<-e3]at hB;clear gc;refine gz ?_ lZ;exact⟨q+1,_,⟨k0,d9,hB⟩,td1,wkR⟩
         ·cases q2
        ·rcases hr with⟨_,q2,_⟩|⟨q1,q2,gc⟩
         ·cases q2
         ·have hF:clsB f=false:=by rw[hB,q1];rfl
          simp only[DE.panic.injEq]at q2;subst q2 gc;exact kV (U':=_) (d6 hF _ _ _ _ _ _ hS.ps)
      ·rw [A1 gM,iniE,bd] at hB;refine gz ?_ lZ;refine Ad (Fh c.name isn names S5 hS.osn k0) (fun e S6 hr=>?_) (fun e S6 hr=>?_)
       ·rcases hr with⟨q1,q2,gc⟩|⟨_,q2,_⟩
        ·simp only[DE.ret.injEq]at q2;subst q2;have d9:=hS.setn hD z4 (names++[c.name]);rw[<-gc]at d9;rw[q1,bd]at hB;have iv:¬c.name∈names:=by simp only[aN,bA,bk]at q1;exact q1.2
         clear gc;refine gz ?_;have gO:=d9.delm hD z1;refine kO (JP (t:=5) d9.om (by exact At tdR)) ?_;rw[Xj,Xh];have gR:(S6.del im) isn=some (.map (eSS (names++[c.name]))):=by simp only[Sig.del,hD.d1,bl];exact d9.osn
         clear hS d9;generalize S6.del im=S7 at*;have o1:=gO.prg;have o2:=gO.cls;have d8:=gO.setc hD.a1 hD.b1 iv;have iq:putM c.name (i:Int) (Ca names 0)=Ca (names++[c.name]) 0:=by have:=UH c.name names 0 iv;rw[iP]at this;simpa using this
         have f8:(S7.set ic (.map (eSN (Ca (names++[c.name]) 0)))) isn=some (.map (eSS (names++[c.name]))):=by rw[w8 _ _ (aZ hD.b2)];exact gR
         have o3:=d8.prg
         have iS:SameE (hs++[ER names hs c]) (hs++[u]):=by
          refine⟨k7,fun k x=>?_⟩
          by_cases h1:k<hs.length
          ·rw[bK h1,bK h1]
          ·rw[bP k0,bP k0]
           by_cases h2:k-hs.length=0
           ·rw[h2];simpa using(g8 x).symm
           ·rw[bW (by simp;omega),bW (by simp;omega)]
         rw[MB _ _ _ _ _ iS]at hB;have gk:(f.ak.take (i+1)).map (·.name)=names++[c.name]:=by rw[AQ fZ,bL,iO,d7];rfl
         have gL:(f.ak.take (i+1)).flatMap (·.am)=am++c.am:=by rw[AQ fZ,fo,gS,d7];simp
         rcases d8.has with⟨gZ,g7⟩|⟨ih,g7,fX,gB⟩
         ·subst gZ;rw[g7]at o1 o3 d8 gO;refine gf (gi o1 (gi o2 (gi o3 iq))) ?_ lZ;refine appN (fun ih fX=>?_);have gN:ip≠ih:=A3 d8.prg fX;have iH:=d8.fresh (o:=.tail 1 1) fX;have o4:=iH.prg;rw[show kM.tail (tab 253).size ([[D.cmap (u.map D.str) (u.map fun _=>D.bool true)]]:fV).length=.tail 1 1 by simp];refine gf (gi o4 o3) ?_ lZ;have gg:=iH.setp (d':=.slice (cMs ([]++[u])) (.tag ih)) (n':=0) (hs':=[]++[u]) hD.a1 hD.a2 (.inr ⟨ih,rfl,by rw[w8 _ _ (aZ gN),w7];rfl,d8.non ih fX⟩);exact⟨i+1,_,[]++[u],_,by refine⟨k0,by simp at gE⊢; omega,?_,by rw[gk,gL];exact gg,by rw[gk,gL];exact hB⟩;rw[gk,w8 _ _ (aZ hD.a3),w8 _ _ (A3 f8 fX)];exact f8,td1,wkR⟩
         ·have gN:ip≠ih:=Ab d8.prg fX k7;rw[g7]at o1 o3 d8;refine gf (gi o1 (gi o2 (gi o3 (gi iq (gi fX gN))))) ?_ lZ;have iZ:ic≠ih:=Ab d8.cls fX k7;have iL:is≠ih:=Ab d8.slo fX k7;have iQ:isn≠ih:=Ab f8 fX k7
          have gg:PS f ip ic is V (((S7.set ic (.map (eSN (Ca (names++[c.name]) 0)))).set ih (.tail 1 (hs.length+1))).set ip (lC f ic is (.slice (cMs (hs++[u])) (.tag ih)) 0)) (names++[c.name]) (am++c.am) (hs++[u]) (.slice (cMs (hs++[u])) (.tag ih)) 0:=
           ⟨w7 .., by rw [w8 _ _ (aZ hD.a1),w8 _ _ iZ];exact d8.cls,by rw [w8 _ _ (aZ hD.a2),w8 _ _ iL];exact d8.slo, .inr ⟨ih,rfl,by rw [w8 _ _ (aZ gN),w7,aO];rfl,gB⟩,fun j x h1 h2=>by
            rw[w8 _ _ fun e=>h2 (.inl e),w8 _ _ fun e=>by rw[e,gB]at h1;cases h1];exact d8.keep j x h1 h2⟩
          rw[<-cMs_app]at gg;exact⟨i+1,_,hs++[u],_,by refine⟨k0,by rw[aO,gE];rfl,?_,by rw[gk,gL];exact gg,by rw[gk,gL];exact hB⟩;rw[gk,w8 _ _ (aZ hD.a3),w8 _ _ iQ];exact f8,td1,wkR⟩
        ·cases q2
       ·rcases hr with⟨_,q2,_⟩|⟨q1,q2,gc⟩
        ·cases q2
        ·have hF:clsB f=false:=by rw[hB,q1];rfl
         simp only[DE.panic.injEq]at q2;subst q2 gc;exact kV (U':=_) (d6 hF _ _ _ _ _ _ hS.ps)
   ·have hF:clsB f=false:=by rw[hB,ba hlen];rfl
    repeat' first|(exact kV (U':=S1) (d6 hF _ _ _ _ _ _ hP))|refine gf d7 ?_ lZ|apply gy<;>intro hh
    all_goals (exfalso;omega)
  ·have gX:i=f.ak.length:=by omega
   subst gX;rw[A1 fZ,clsE]at hB;rw[dN]at hP;have jo:=hP.has;refine gf gA ?_ lZ;refine EA (U':=_) ?_;unfold ClsR;rw[hB,aS rfl];exact⟨rfl,hs,d,hP.setp (Ab hP.prg hP.cls k7) (Ab hP.prg hP.slo k7) (hP.has.set (by rw[gA];simp))⟩
 ·have hF:clsB f=false:=by unfold clsB;rw[ba gI];rfl
  repeat' first|(exact kV (U':=V) (d6 hF _ _ _ _ _ _ h0))|refine gf gW ?_ lZ|apply gy<;>intro hh
def WG(g:fW)(o:Own)(V:Sig)(hl:g.length<=1073741824:=by exact sd)(jl:∀x∈g,x.length<=1073741824:=by exact sd):
  aB prog 167 [.slice (cII g) o] V (rS (dI (if Bo g then 0 else 2)) V):=by
 refine en func167 ntmps167 ?_;cases h:Bo g with
 |false=>
  try refine gf h ?_
  exact fe1 trivial
 |true=>
  try refine gf h ?_
  exact fe1 trivial
@[reducible,instance] def a167:=fun g o V=>ah2 (@WG g o V)
def Bu:Int->List aE->Option Int
 |n,[]=>some n
 |n,c::r=>if 4<c.am.length then none else match D2 n c.am with
  |none=>none
  |some m=>Bu m r
def Dw(has:fR):fR->List lR->Bool
 |_,[]=>true
 |seen,x::r=>(decide (x.slot∈has)&&!decide (x.slot∈seen)&&inB x.n)&&Dw has (seen++[x.slot]) r
def AK(p:aD):Nat->List aE->Bool
 |_,[]=>true
 |i,c::r=>decide (linE (p.ak.map (·.ap)) ((i:Int)+3)=0)&&Dw (hasP p ((i:Int)+3)) [] c.ar&&AK p (i+1) r
def Ar(p:aD):Bool:=decide (p.ak.length<=10)&&match Bu 0 p.ak with
 |none=>false
 |some n=>decide (n=p.am)&&Bo (p.ak.map (·.ap))&&AK p 0 p.ak
def FF(cs:List aE): ∀(n:Nat) (up out:fR),(lh cs n up out).length<=out.length+wtL (fun c:aE=>c.am.length) (cs.take n)
 |0,_,out=>by rw[lh];omega
 | n+1,up,out=>by
  rw[lh]
  by_cases h:n<cs.length
  ·rw[aT h,Jm _ _ _ h];simp only;split
   ·have:=FF cs n (He (cs[n]).ap up) (out++(cs[n]).am);rw[aO]at this;omega
   ·have:=FF cs n up out;omega
  ·rw[bW k0];have:=FF cs n up out;rw[bM k0]at this⊢;exact this
def KA(p:aD)(c:Int):(hasP p c).length<=wtL (fun c:aE=>c.am.length) p.ak:=by
 unfold hasP;have h1:=HR (lh p.ak (c-2).toNat [c] []);have h2:=FF p.ak (c-2).toNat [c] [];have h3:=Fs (fun c:aE=>c.am.length) p.ak (c-2).toNat
 simp only[cG]at h2;omega
def ins_new{k:Int}{s:fR}(h:k∉s):ins k s=s++[k]:=by unfold ins;rw[aQ h]
def YW (p:aD) (V:Sig) (hp:p.wt<=1073741824:=by exact sd):aB prog 80 [.agg (Am p)] V fun x U'=>x=(if Ar p then .ret (.tup []) else .panic unf)/\U'=V:=by
 obtain⟨p1,p2,p3,p4,p5,p6,p7⟩:=p.wt_le;have ws:=HE p
 have gJ:∀c∈p.ak,c.ap.length<=1073741824/\c.am.length<=1073741824/\c.ar.length<=1073741824:=fun c hc=>by
  obtain⟨k,hk,rfl⟩:=bm hc;have:=p5 k hk;have jd:(p.ak[k]).wt=1+(p.ak[k]).ap.length+(p.ak[k]).am.length+(p.ak[k]).ar.length:=rfl;omega
 have je:∀c∈p.ak,c.ap.length<=1073741824:=fun c hc=>(gJ c hc).1;have jf:∀x∈p.ak.map (·.ap),x.length<=1073741824:=fun x hx=>by obtain⟨c,hc,rfl⟩:=bD.1 hx;exact(gJ c hc).1
 refine en func80 ntmps80 ?_
 by_cases gI:p.ak.length<=10
 ·repeat' first|refine gz ?_|apply gy<;>intro hh
  ·refine AG [1,7,8,9,10,11,12,13,15,22,23,48,49,50,51,52,53,54,55,56,57,58,59,60,61,62,63,64,65,66,67,68,69,70,71,72,73,74,75,76,77,78,79,80,81,82,83,84,85,86,87,88,89,90,91,92,93,94,95,96,97,98,99,100,101,102,103,104,105,106,107,108,109,110,111] (fun (i:Nat) (n:Int)=>i<=p.ak.length/\n=wtL (fun c:aE=>c.am.length) (p.ak.take i)/\Bu 0 p.ak=Bu n (p.ak.drop i)) (fun i n=>[(24,dI i),(2,dI n)]) (fun _ _=>V) (fun i _=>p.ak.length-i) (0) (0) (by simp[wtL]) (fun i n hI=>?_);obtain⟨hi,hn,hR⟩:=hI
   by_cases h:i<p.ak.length
   ·have hx:=gJ _ (aR h);have hT:=Jm (fun c:aE=>c.am.length) p.ak i h;have jt:=Fs (fun c:aE=>c.am.length) p.ak (i+1);rw[A0 h,Bu]at hR
    by_cases h4:4<(p.ak[i]).am.length
    ·have hc:Bu 0 p.ak=none:=by rw[hR,aS h4]
     have hF:Ar p=false:=by unfold Ar;rw[hc];simp
     repeat' first|((with_reducible refine kV (U':=V) ?_);exact⟨by first|(simp[hF];done)|(simp_all [hF];done),rfl⟩)|refine gz ?_|apply gy<;>intro hh
    ·rw[aQ h4]at hR;generalize gS:(p.ak[i]).am=sl' at*
     try refine gf gS ?_
     refine Bb [1,4,7,8,9,10,11,12,13,15,22,23,24,25,26,27,28,29,30,31,32,33,34,35,47,48,49,50,51,52,53,54,55,56,57,58,59,60,61,62,63,64,65,66,67,68,69,70,71,72,73,74,75,76,77,78,79,80,81,82,83,84,85,86,87,88,89,90,91,92,93,94,95,96,97,98,99,100,101,102,103,104,105,106,107,108,109,110,111] (fun (q:Nat)=>q<=sl'.length/\D2 n sl'=D2 (n+q) (sl'.drop q)) (fun q=>[(36,dI q),(2,dI (n+q))]) (fun _=>V) (fun q=>sl'.length-q) (0) k7 (fun q hI=>?_);obtain⟨hq,hQ⟩:=hI
     by_cases ij:q<sl'.length
     ·rw[A0 ij,D2]at hQ;have jg:=hx.2.1;have iy:0<=n:=by omega
      have ji:n<=1073741824:=by omega
      by_cases gT:sl'[q]=n+q
      ·rw[aS gT]at hQ
       try refine gf gT ?_
       exact⟨q+1,⟨k0,by rw[hQ,Int.add_assoc];rfl⟩,td1,wkR⟩
      ·rw[aQ gT]at hQ;have hc:Bu 0 p.ak=none:=by rw[hR,hQ]
       have hF:Ar p=false:=by unfold Ar;rw[hc];simp
       repeat' first|((with_reducible refine kV (U':=V) ?_);exact⟨by first|(simp[hF];done)|(simp_all [hF];done),rfl⟩)|refine gz ?_|apply gy<;>intro hh
     ·rw[A1 ij,D2]at hQ;rw[hQ]at hR;have jh:q=sl'.length:=by omega
      try refine gz ?_
      exact⟨i+1,n+q,⟨k0,by rw[hT];omega,hR⟩,td1,wkR⟩
   ·rw [A1 h,Bu] at hR
    by_cases hs:n=p.am
    ·cases hg:Bo (p.ak.map (·.ap))with
     |false=>
      have hF:Ar p=false:=by unfold Ar;rw[hR,hg];simp
      repeat' first|((with_reducible refine kV (U':=V) ?_);exact⟨by first|(simp[hF];done)|(simp_all [hF];done),rfl⟩)|refine gf hg ?_|apply gy<;>intro hh
     | true =>
      have d7:Ar p=AK p 0 p.ak:=by unfold Ar;rw[hR];simp[hs,hg,gI]
      try refine gf hg ?_
      refine Bb [1,7,61,62] (fun (j:Nat)=>j<=p.ak.length/\AK p 0 p.ak=AK p j (p.ak.drop j)) (fun j=>[(63,dI j)]) (fun _=>V) (fun j=>p.ak.length-j) (0) k7 (fun j hI=>?_);obtain⟨hj,hJ⟩:=hI
      by_cases h':j<p.ak.length
      ·have hx:=gJ _ (aR h');have gE:=KA p ((j:Int)+3);rw[A0 h',AK]at hJ
       by_cases hl:linE (p.ak.map (·.ap)) ((j:Int)+3)=0
       ·rw[bf hl,bd]at hJ;generalize iC:(p.ak[j]).ar=ins' at hJ hx
        try refine gf (gi iC hl) ?_
        refine newSI (fun im gh=>?_)
        try refine gf iC ?_
        refine Bb [1,7,8,9,10,11,12,13,61,62,63,64,65,66,67,68,69,70,71,72,73,74,75,76,77,78,79,80,81,82,83,84,85,111] (fun (k:Nat)=>k<=ins'.length/\Dw (hasP p ((j:Int)+3)) [] ins'=Dw (hasP p ((j:Int)+3)) ((ins'.take k).map (·.slot)) (ins'.drop k)) (fun k=>[(86,dI k)]) (fun k=>V.set im (.map (eSI ((ins'.take k).map (·.slot))))) (fun k=>ins'.length-k) (0) k7 (fun k hI=>?_);obtain⟨hk,hK⟩:=hI
        by_cases gU:k<ins'.length
        ·have fZ:=hx.2.2;rw[A0 gU,Dw]at hK
         repeat' first|((with_reducible refine kV (U':=V) ?_);exact⟨by first|(simp[d7,hJ,hK];done)|(simp_all [d7,hJ,hK];done),rfl⟩)|refine gz ?_|apply gy<;>intro hh
         rename_i q1 q2;have q3:¬ins'[k].slot∈(ins'.take k).map (·.slot):=by simpa using q2
         have q4:(ins'.take (k+1)).map (·.slot)=(ins'.take k).map (·.slot)++[ins'[k].slot]:=by rw[bQ gU,bL];rfl
         have q5:=ins_new q3;simp only[<-List.map_take,q5,<-q4];exact⟨k+1,by refine⟨k0,?_⟩;rw[hK,hh,bf q1,ba q3,q4];rfl,td1,wkR⟩
        ·rw[A1 gU,Dw]at hK;rw[hK,bd]at hJ
         try refine gz ?_
         exact⟨j+1,⟨k0,hJ⟩,td1,wkR⟩
       ·rw[ba hl,bw,bw]at hJ;have hF:Ar p=false:=by rw[d7,hJ]
        repeat' first|((with_reducible refine kV (U':=V) ?_);exact⟨by first|(simp[hF];done)|(simp_all [hF];done),rfl⟩)|refine gz ?_|apply gy<;>intro hh
      ·rw[A1 h',AK]at hJ;have hF:Ar p=true:=by rw[d7,hJ]
       try refine gz ?_
       exact fe0 hF
    ·have hF:Ar p=false:=by unfold Ar;rw[hR];simp[hs]
     repeat' first|((with_reducible refine kV (U':=V) ?_);exact⟨by first|(simp[hF];done)|(simp_all [hF];done),rfl⟩)|refine gz ?_|apply gy<;>intro hh
 ·have hF:Ar p=false:=by unfold Ar;rw[ba gI];rfl
  repeat' first|((with_reducible refine kV (U':=V) ?_);exact⟨by first|(simp[hF];done)|(simp_all [hF];done),rfl⟩)|refine gz ?_|apply gy<;>intro hh
@[reducible,instance] def a80:=fun p V=>gh1 (@YW p V)
def Ud{x:Int}(h0:0<=x)(h1:x<18446744073709551616):IntKind.u64.wrap x=x:=by
 have e1:(2:Int) ^ IntKind.u64.bits=18446744073709551616:=by decide
 have e3:IntKind.u64.signed=false:=rfl;simp only[IntKind.wrap,e1,e3,bw,bz,bl];omega
def andU(n:Nat)(h:n<=1073741824):binD .and (.int .u64 n) (.int .u64 4294967295)=some (.int .u64 n):=by
 simp only[binD,bI]
 have e:((BitVec.ofInt IntKind.u64.bits (n:Int) &&& BitVec.ofInt IntKind.u64.bits 4294967295).toNat)=n:=by
  rw[BitVec.toNat_and];show(BitVec.ofInt 64 (n:Int)).toNat &&& (BitVec.ofInt 64 4294967295).toNat=n;rw[show(4294967295:Int)=((2 ^ 32-1:Nat):Int) from rfl,BitVec.ofInt_natCast,BitVec.ofInt_natCast,BitVec.toNat_ofNat,BitVec.toNat_ofNat];rw[eO k0,eO k0,Nat.and_two_pow_sub_one_eq_mod,eO k0]
 rw[e,Ud k0 k0]
def shrU(k:IntKind)(n:Nat)(h:n<=1073741824):binD .shr (.int .u64 n) (.int k 32)=some (.int .u64 0):=by
 simp only[binD];rw[aS (by decide)]
 congr 2
 show(n:Int).fdiv (2 ^ 32)=0;rw[Int.fdiv_eq_ediv_of_nonneg _ (by decide)];omega
def W5(n:Nat)(V:Sig)(hn:n<=1073741824:=by exact sd):aB prog 227 [.int .u64 1,.int .u64 n] V (rS (.tup [.int .u64 0,.int .u64 n]) V):=by
 have a1:binD .and (.int .u64 1) (.int .u64 4294967295)=some (.int .u64 1):=andU 1 k0;have a0:binD .and (.int .u64 0) (.int .u64 4294967295)=some (.int .u64 0):=andU 0 k0;have an:=andU n hn;have s1:∀k,binD .shr (.int .u64 1) (.int k 32)=some (.int .u64 0):=fun k=>shrU k 1 k0;have s0:∀k,binD .shr (.int .u64 0) (.int k 32)=some (.int .u64 0):=fun k=>shrU k 0 k0;have sn:=fun k=>shrU k n hn;have wn:IntKind.u64.wrap (n:Int)=n:=Ud k0 k0;have w0:IntKind.u64.wrap 0=0:=Ud k0 k0;refine en func227 ntmps227 ?_;refine gf (gi a1 (gi a0 (gi an (gi s1 (gi s0 (gi sn (gi wn w0))))))) ?_;exact fe2 trivial
@[reducible,instance] def a227:=fun n V=>ah1 (@W5 n V)
def WE(n:Nat)(V:Sig)(hn:n<=1073741824:=by exact sd):aB prog 169 [.int .u64 1,.int .u64 n] V (rS (.tup [.int .u64 0,.int .u64 n]) V):=by
 refine en func169 ntmps169 ?_;refine gz ?_;exact fe2 trivial
@[reducible,instance] def a169:=fun n V=>ah1 (@WE n V)
def YU(n:Nat)(V:Sig)(h1:1<=n)(hn:n<=1048576):aB prog 82 [.slice [[dI (-1)]] .no,dI n] V fun x U'=> ∃r,V r=none/\x=.ret (.ax r 0 n n)/\U'=V.set r (.cells ((List.replicate n (-1:Int)).map dI)):=by
 have wn:IntKind.u64.wrap (n:Int)=n:=Ud k0 k0;have w1:IntKind.u64.wrap 1=1:=Ud k0 k0;refine en func82 ntmps82 ?_;refine gf (gi wn w1) ?_ o82;refine V2 (k:=n) (c:=n) (sz:=1) (z:=[dI 0]) (fun i hi hm=>?_);have e0:mS V (some (i,n,(List.replicate (n-n) [dI 0]).flatten)) (List.replicate n [dI 0])=V.set i (.cells (List.replicate n (dI 0))):=by simp[mS]
 rw[e0];refine gz ?_ o82;refine Mw Ag (m:=1) (cs:=[dI (-1)]) (e:=3) (i:=i) (off:=0) (len:=n) (cap:=n) (ds:=List.replicate n (dI 0)) (by decide) (by simp<;>rfl) k7 k7 tdR (w7 ..) k7 (Uo (es:=[[dI (-1)]]) tdR k7) (by rfl) ?_
 have e1:(V.set i (.cells (List.replicate n (dI 0)))).set i (.cells (List.take 0 (List.replicate n (dI 0))++(List.take (min 1 n) [dI (-1)]++List.drop (0+min 1 n) (List.replicate n (dI 0)))))=V.set i (.cells (List.replicate 1 (dI (-1))++List.replicate (n-1) (dI 0))):=by
  rw[w9,show min 1 n=1 by omega];simp
 rw[e1,show((min 1 n:Nat):Int)=1 by omega];refine gz ?_ o82;refine Bb [4,7,47] (fun (b:Nat)=>1<=b/\b<=n) (fun b=>[(8,dI b)]) (fun b=>V.set i (.cells (List.replicate b (dI (-1))++List.replicate (n-b) (dI 0)))) (fun b=>n-b) (1) k0 (fun b hI=>?_);obtain⟨jr,jq⟩:=hI
 by_cases h:b<n
 ·refine gz ?_;refine Ox (id:=9) [0,1,2,3,4,5,6,7,8,9] [7] V ((Sub.refl _).set hi) ?_;refine gz ?_ o82;refine mo_cutL Ag (i:=i) (off:=0) (len:=n) (cap:=n) (lo:=b) (e:=3) (k:=.i64) ?_ (by decide) (by simp<;>rfl) k7 tdR tdR k0 k0;rw[show 0+b*(tab 3).size=b by simp];refine gz ?_ o82;refine mo_cutH Ag (i:=i) (off:=0) (len:=n) (cap:=n) (hi:=b) (e:=3) (k:=.i64) ?_ (by decide) (by simp<;>rfl) k7 tdR tdR k0;refine mo1 (fun U2 hγ=>?_) rfl;have v1:=hγ (.tmp 41) (by simp[Op.operands,Call.operands]);have v2:=hγ (.tmp 44) (by simp[Op.operands,Call.operands]);have jn:(List.replicate b (dI (-1))++List.replicate (n-b) (dI 0)).length=n:=by simp;omega
  refine Mw Ag (m:=b) (cs:=((List.replicate b (dI (-1))++List.replicate (n-b) (dI 0)).drop 0).take b) (e:=3) (i:=i) (off:=b) (len:=n-b) (cap:=n-b) (ds:=List.replicate b (dI (-1))++List.replicate (n-b) (dI 0)) (by decide) (by simp<;>rfl) k7 k7 (by rw[v1];with_unfolding_all rfl) (w7 ..) k0 (by rw[v2];exact Yd (off:=0) (w7 ..) k0) (by simp[Dq,D.flat]) ?_
  have e2:List.take b (List.replicate b (dI (-1))++List.replicate (n-b) (dI 0))++(List.take (min b (n-b)) (List.take b (List.drop 0 (List.replicate b (dI (-1))++List.replicate (n-b) (dI 0))))++List.drop (b+min b (n-b)) (List.replicate b (dI (-1))++List.replicate (n-b) (dI 0)))=List.replicate (b+min b (n-b)) (dI (-1))++List.replicate (n-(b+min b (n-b))) (dI 0):=by
   have t1:List.take b (List.replicate b (dI (-1))++List.replicate (n-b) (dI 0))=List.replicate b (dI (-1)):=by rw[eB k7];simp
   have t2:List.drop (b+min b (n-b)) (List.replicate b (dI (-1))++List.replicate (n-b) (dI 0))=List.replicate (n-(b+min b (n-b))) (dI 0):=by
    rw[List.drop_append,dm k7,bG,List.drop_replicate];congr 1;simp;omega
   rw[dE,t1,t2,<-bc]
   congr 1
   rw[List.take_replicate,fD];congr 1;omega
  rw[w9,e2];refine AU ⟨rfl,?_⟩;refine⟨(Sub.refl _).set hi,?_⟩;refine gz ?_ o82;exact⟨b+min b (n-b),k0,td1,wkR⟩
 ·have hb:b=n:=by omega
  subst hb;refine gz ?_ o82;refine kE (U':=V.set i (.cells ((List.replicate b (-1)).map dI))) ?_ (hZ:=by simp;exact Sub.refl _);exact⟨i,hi,rfl,rfl⟩
def anyS{α S:Type}(f:α->S->Bool×S):List α->S->Bool×S
 |[],s=>(false,s)
 |x::r,s=>match f x s with
  |(true,s')=>(true,s')
  |(false,s')=>anyS f r s'
def allS{α S:Type}(f:α->S->Bool×S):List α->S->Bool×S
 |[],s=>(true,s)
 |x::r,s=>match f x s with
  |(false,s')=>(false,s')
  |(true,s')=>allS f r s'
def NU{α S:Type}(f:α->S->Bool×S): ∀(l:List α) (s:S),allS f l s=(!(anyS (fun x s=>(!(f x s).1,(f x s).2)) l s).1,(anyS (fun x s=>(!(f x s).1,(f x s).2)) l s).2)
 |[],s=>rfl
 |x::r,s=>by
  rw[allS,anyS];rcases h:f x s with⟨b,s'⟩;cases b
  ·simp
  ·simp only[cQ];exact NU f r s'
def M5(l:fR)(q:Int->Bool)(g:Nat)(first cap:fQ)(o:Own)(V:Sig)(hl:l.length<=1073741824)
  (hg:∀x∈l,aB prog g (first++dI x::cap) V fun r S''=>r=.ret (.bool (q x))/\S''=V) :
  aB prog 309 [.slice (cI l) o,.func (.func g) first cap] V (rS (dI (idxF q l 0)) V):=by
 refine en func309 ntmps309 ?_;refine gz ?_;refine Bb [0,1,7] (fun (k:Nat)=>k<=l.length/\idxF q l 0=idxF q (l.drop k) k) (fun k=>[(8,dI k)]) (fun _=>V) (fun k=>l.length-k) (0) td3 (fun k hI=>?_);obtain⟨hk,hR⟩:=hI
 by_cases h:k<l.length
 ·rw[A0 h,idxF]at hR
  repeat' first|refine Au (hg (l[k]) (aR h)) ?_|refine callP (hg (l[k]) (aR h)) ?_|refine gf h ?_|apply gy<;>intro hh
  ·exact fe1 hR
  ·exact⟨k+1,⟨k0,by rw[hR,hh];rfl⟩,td1,wkR⟩
 ·refine gf h ?_
  (refine kE (U':=V) ?_;exact⟨by first|rfl|(simp[hR,A1 h,idxF];done)|(simp_all [hR,A1 h,idxF];done)|(rw[A4,aW];simp_all [hR,A1 h,idxF]<;>omega),rfl⟩)
def M9(l:fR)(q:Int->Bool)(g:Nat)(first cap:fQ)(o:Own)(V:Sig)(hl:l.length<=1073741824)
  (hg:∀x∈l,aB prog g (first++dI x::cap) V fun r S''=>r=.ret (.bool (q x))/\S''=V) :
  aB prog 293 [.slice (cI l) o,.func (.func g) first cap] V (rS (.bool (l.any q)) V):=by
 refine en func293 ntmps293 ?_
 repeat' first|refine gz ?_|refine Au (M5 l q g first cap o V hl hg) ?_|refine callP (M5 l q g first cap o V hl hg) ?_|refine gz ?_|apply gy<;>intro hh
 (refine kE (U':=V) ?_;exact⟨by first|rfl|(simp[EJ];done)|(simp_all [EJ];done)|(rw[A4,aW];simp_all [EJ]<;>omega),rfl⟩)
def M8(q:Int->Bool)(g:Nat)(first cap:fQ)(x:Int)(V:Sig)
  (hg:aB prog g (first++dI x::cap) V fun r S''=>r=.ret (.bool (q x))/\S''=V) :
  aB prog 294 [dI x,.aw [.func (.func g) first cap] 0] V (rS (.bool (!q x)) V):=by
 refine en func294 ntmps294 ?_
 repeat' first|refine Au (hg) ?_|refine callP (hg) ?_|refine gz ?_|apply gy<;>intro hh
 exact fe1 trivial
def GV(l:fR)(q:Int->Bool)(g:Nat)(first cap:fQ)(o:Own)(V:Sig)(hl:l.length<=1073741824)
  (hg:∀x∈l,aB prog g (first++dI x::cap) V fun r S''=>r=.ret (.bool (q x))/\S''=V) :
  aB prog 268 [.slice (cI l) o,.func (.func g) first cap] V (rS (.bool (l.all q)) V):=by
 refine en func268 ntmps268 ?_
 repeat' first|refine gz ?_|refine Au (M9 l (fun x=> !q x) 294 [] [.aw [.func (.func g) first cap] 0] o V hl (fun x hx=>M8 q g first cap x V (hg x hx))) ?_|refine callP (M9 l (fun x=> !q x) 294 [] [.aw [.func (.func g) first cap] 0] o V hl (fun x hx=>M8 q g first cap x V (hg x hx))) ?_|refine gz ?_|apply gy<;>intro hh
 (refine kE (U':=V) ?_;exact⟨by first|rfl|(simp[dA];done)|(simp_all [dA];done)|(rw[A4,aW];simp_all [dA]<;>omega),rfl⟩)
def VF{S:Type}(l:List kA)(f:kA->S->Bool×S)(g:Nat)(first cap:fQ)(o:Own)(Good:Sig->S->Prop)(hl:l.length<=1073741824)
  (hg:∀x∈l, ∀V s,Good V s->aB prog g (first ++ .agg (Bp x)::cap) V fun r U'=>r=.ret (.bool (f x s).1)/\Good U' (f x s).2) (V:Sig) (s:S) (hG:Good V s) :
  aB prog 310 [.slice (l.map Bp) o,.func (.func g) first cap] V fun x U'=> ∃i:Int,x=.ret (dI i)/\decide (0<=i)=(anyS f l s).1/\Good U' (anyS f l s).2:=by
 refine en func310 ntmps310 ?_;refine gz ?_;refine E2 [0,1,7] (fun (k:Nat) (s1:S) (S1:Sig)=>k<=l.length/\Good S1 s1/\anyS f l s=anyS f (l.drop k) s1) (fun k _ _=>[(8,dI k)]) (fun _ _ S1=>S1) (fun k _ _=>l.length-k) (0) (s) (V) (by exact⟨k0,hG,rfl⟩) (fun k s1 S1 hI=>?_);obtain⟨hk,iJ,hR⟩:=hI
 by_cases h:k<l.length
 ·rw[A0 h,anyS]at hR;refine gf h ?_;refine Ad (hg (l[k]) (aR h) S1 s1 iJ) (fun e S2 hr=>?_) (fun e S2 hr=>?_)
  ·obtain⟨h1,h2⟩:=hr;simp only[DE.ret.injEq]at h1;subst h1;rcases hf:f l[k] s1 with⟨b,s2⟩;rw[hf]at hR h2;cases b
   ·refine gz ?_;exact⟨k+1,s2,S2,⟨k0,h2,hR⟩,td1,wkR⟩
   ·refine gz ?_;refine kE (U':=S2) ?_;exact⟨k,rfl,by rw[hR];simp,by rw[hR];exact h2⟩
  ·cases hr.1
 ·rw[A1 h,anyS]at hR;refine gf h ?_;refine kE (U':=S1) ?_;exact⟨-1,rfl,by rw[hR];rfl,by rw[hR];exact iJ⟩
def VN{S:Type}(l:List kA)(f:kA->S->Bool×S)(g:Nat)(first cap:fQ)(o:Own)(Good:Sig->S->Prop)(hl:l.length<=1073741824)
  (hg:∀x∈l, ∀V s,Good V s->aB prog g (first ++ .agg (Bp x)::cap) V fun r U'=>r=.ret (.bool (f x s).1)/\Good U' (f x s).2) (V:Sig) (s:S) (hG:Good V s) :
  aB prog 295 [.slice (l.map Bp) o,.func (.func g) first cap] V fun x U'=>x=.ret (.bool (anyS f l s).1)/\Good U' (anyS f l s).2:=by
 refine en func295 ntmps295 ?_;refine gz ?_;refine Ad (VF l f g first cap o Good hl hg V s hG) (fun e S2 hr=>?_) (fun e S2 hr=>?_)
 ·obtain⟨i,h1,h2,h3⟩:=hr;simp only[DE.ret.injEq]at h1;subst h1;refine gz ?_;refine kE (U':=S2) ?_;exact⟨by rw[<-h2],h3⟩
 ·obtain⟨i,h1,_⟩:=hr;cases h1
def VM{S:Type}(f:kA->S->Bool×S)(g:Nat)(first cap:fQ)(Good:Sig->S->Prop)(x:kA)(V:Sig)(s:S)(hg:aB prog g (first ++ .agg (Bp x)::cap) V fun r U'=>r=.ret (.bool (f x s).1)/\Good U' (f x s).2):
  aB prog 296 [.agg (Bp x),.aw [.func (.func g) first cap] 0] V fun r U'=>r=.ret (.bool (!(f x s).1))/\Good U' (f x s).2:=by
 refine en func296 ntmps296 ?_;refine gz ?_;refine Ad hg (fun e S2 hr=>?_) (fun e S2 hr=>?_)
 ·obtain⟨h1,h2⟩:=hr;simp only[DE.ret.injEq]at h1;subst h1;refine gz ?_;refine kE (U':=S2) ?_;exact⟨rfl,h2⟩
 ·cases hr.1
def Pe{S:Type}(l:List kA)(f:kA->S->Bool×S)(g:Nat)(first cap:fQ)(o:Own)(Good:Sig->S->Prop)(hl:l.length<=1073741824)
  (hg:∀x∈l, ∀V s,Good V s->aB prog g (first ++ .agg (Bp x)::cap) V fun r U'=>r=.ret (.bool (f x s).1)/\Good U' (f x s).2) (V:Sig) (s:S) (hG:Good V s) :
  aB prog 270 [.slice (l.map Bp) o,.func (.func g) first cap] V fun x U'=>x=.ret (.bool (allS f l s).1)/\Good U' (allS f l s).2:=by
 refine en func270 ntmps270 ?_;refine gz ?_;refine Ad (VN l (fun x s=>(!(f x s).1,(f x s).2)) 296 [] [.aw [.func (.func g) first cap] 0] o Good hl (fun x hx V s hG=>VM f g first cap Good x V s (hg x hx V s hG)) V s hG) (fun e S2 hr=>?_) (fun e S2 hr=>?_)
 ·obtain⟨h1,h2⟩:=hr;simp only[DE.ret.injEq]at h1;subst h1;refine gz ?_;refine kE (U':=S2) ?_;exact⟨by rw[NU],by rw[NU];exact h2⟩
 ·cases hr.1
def wObj(w:World)(us:fR):kM:=.cells (sl (cII w.ap)::sl (cI w.owner)::us.map (D.int .u64))
def Nc(w:World)(l:fR):Bool:=decide (l.length<=2)&&l.all (fun c=>decide (0<=c/\c<w.owner.length))
section
variable (w:World)(us:fR)(iw:Nat)(V:Sig)(hw:V iw=some (wObj w us))
include hw
theorem Mc(c:Int)(hl:w.ap.length<=1073741824):aB prog 269 [.ptr iw 0,dI c] V (rS (.bool (decide (3<=c/\c<3+w.ap.length))) V):=by
 unfold wObj at hw;refine en func269 ntmps269 ?_
 repeat' first|refine gf hw ?_|apply gy<;>intro hh
 any_goals (first|exact fe1 trivial|fail)
theorem M4(c:Int)(hl:w.owner.length<=1073741824):aB prog 311 [.ptr iw 0,dI c] V (rS (.bool (decide (0<=c/\c<w.owner.length))) V):=by
 unfold wObj at hw;refine en func311 ntmps311 ?_
 repeat' first|refine gf hw ?_|apply gy<;>intro hh
 any_goals (first|exact fe1 trivial|fail)
theorem M6(c:Int)(hl:w.ap.length<=1073741824):aB prog 300 [.ptr iw 0,dI c] V (rS (.bool (decide (0<=c/\c<3+w.ap.length))) V):=by
 unfold wObj at hw;refine en func300 ntmps300 ?_
 repeat' first|refine gf hw ?_|apply gy<;>intro hh
 any_goals (first|exact fe1 trivial|fail)
theorem M7(l:fR)(o:Own)(hl:w.owner.length<=1073741824)(iz:l.length<=1073741824):aB prog 299 [.ptr iw 0,.slice (cI l) o] V (rS (.bool (Nc w l)) V):=by
 refine en func299 ntmps299 ?_
 repeat' first|refine gz ?_|refine Fl (GV l (fun c=>decide (0<=c/\c<w.owner.length)) 311 [.ptr iw 0] [] _ _ iz (fun x _=>M4 w us iw _ hw x hl)) ?_|refine callPG (GV l (fun c=>decide (0<=c/\c<w.owner.length)) 311 [.ptr iw 0] [] _ _ iz (fun x _=>M4 w us iw _ hw x hl)) ?_|refine gz ?_|apply gy<;>intro hh
 any_goals (first|(refine kE (U':=V) ?_;exact⟨by first|rfl|(simp[Nc];done)|(simp_all [Nc];done)|(rw[A4,aW];simp_all [Nc]<;>omega),rfl⟩)|fail)
end
def Hs(w:World)(f:kA):Bool:=decide (0<=f.arg/\f.arg<3)&&Nc w f.path &&
 (if f.op=2 then decide (f.n=0)&&decide (0<=f.cls/\f.cls<3+w.ap.length) else decide (f.cls=0)&&inB f.n)
def DH(w:World):Nat->kA->Int->Bool×Int
 |0,_,s=>(false,IntKind.i64.wrap (s-1))
 |d+1,f,s=>
  if IntKind.i64.wrap (s-1)<0\/f.op<1\/7<f.op\/f.aq.length≠Bl f.op then(false,IntKind.i64.wrap (s-1)) else
  if C1 f.op then(Hs w f,IntKind.i64.wrap (s-1)) else
  if f.arg=0/\f.path.length=0/\f.cls=0/\f.n=0 then allS (DH w d) f.aq (IntKind.i64.wrap (s-1)) else(false,IntKind.i64.wrap (s-1))
def Te(iw il d:Nat)(x:kA)(b:Bool)(G:Sig->Prop)(V:Sig)(hd:d<=1000)(h:aB prog 272 [.ptr iw 0,.agg (Bp x),.ptr il 0,dI d] V fun r U'=>r=.ret (.bool b)/\G U'):
  aB prog 301 [.agg (Bp x),.aw [.ptr iw 0] 0,.aw [.ptr il 0] 0,.aw [dI ((d:Int)+1)] 0] V fun r U'=>r=.ret (.bool b)/\G U':=by
 refine en func301 ntmps301 ?_;refine gf (show((d:Int)+1-1)=d by omega) ?_;refine Ad h (fun e S2 hr=>?_);obtain⟨h1,h2⟩:=hr;simp only[DE.ret.injEq]at h1;subst h1;refine gz ?_;refine kE (U':=S2) ?_;exact⟨rfl,h2⟩
def VT(w:World)(us:fR)(iw il:Nat)(S0:Sig)(hw:S0 iw=some (wObj w us))(hne:iw≠il)(go:w.ap.length<=1073741824)(gr:w.owner.length<=1073741824):
  ∀(d:Nat) (f:kA) (s:Int) (V:Sig),d<=1000->f.wt<=1073741824->kQ (· = il) S0 V->V il=some (.cells [dI s])->
   aB prog 272 [.ptr iw 0,.agg (Bp f),.ptr il 0,dI d] V fun x U'=>x=.ret (.bool (DH w d f s).1)/\(kQ (· = il) S0 U'/\U' il=some (.cells [dI (DH w d f s).2])):=by
 intro d;have f0:∀(V:Sig) (o:kM),kQ (· = il) S0 V->kQ (· = il) S0 (V.set il o):=fun V o h j x h1 h2=>by rw[w8 _ _ h2];exact h j x h1 h2
 induction d with
 |zero=>
  intro f s V hd hf hK hs;have f0:=fun o=>f0 V o hK;refine en func272 ntmps272 ?_
  repeat' first|(refine kE (U':=V.set il (.cells [dI (IntKind.i64.wrap (s-1))])) ?_;exact⟨rfl,f0 _,w7 ..⟩)|refine gf hs ?_ o272|apply gy<;>intro hh
 | succ d ih =>
  intro f s V hd hf hK hs;have f0:=fun o=>f0 V o hK;obtain⟨w1,w2,w3⟩:=f.wt_le;have jm:(Bl f.op:Int)<=2:=by unfold Bl;split<;>(try split)<;>omega
  have gK:(V.set il (.cells [dI (IntKind.i64.wrap (s-1))])) iw=some (wObj w us):=f0 _ iw _ hw hne;refine en func272 ntmps272 ?_
  by_cases fY:IntKind.i64.wrap (s-1)<0\/f.op<1\/7<f.op\/f.aq.length≠Bl f.op
  ·have hN:DH w (d+1) f s=(false,IntKind.i64.wrap (s-1)):=by rw[DH,aS fY]
   rw[hN]
   repeat' first|(refine kE (U':=V.set il (.cells [dI (IntKind.i64.wrap (s-1))])) ?_;exact⟨rfl,f0 _,w7 ..⟩)|refine gf hs ?_ o272|apply gy<;>intro hh
   all_goals (exfalso;simp_all;omega)
  ·have hN:DH w (d+1) f s=if C1 f.op then(Hs w f,IntKind.i64.wrap (s-1)) else if f.arg=0/\f.path.length=0/\f.cls=0/\f.n=0 then allS (DH w d) f.aq (IntKind.i64.wrap (s-1)) else(false,IntKind.i64.wrap (s-1)):=by rw[DH,aQ fY]
   have b1:¬IntKind.i64.wrap (s-1)<0:=fun h=>fY (.inl h);have b2:¬f.op<1:=fun h=>fY (.inr (.inl h));have b3:¬7<f.op:=fun h=>fY (.inr (.inr (.inl h)));have b4:f.aq.length=Bl f.op:=by omega
   cases gu:C1 f.op with
   | true =>
    rw[gu,aS rfl]at hN;rw[hN]
    repeat' first|refine gf (gi hs (gi b1 (gi b4 gu))) ?_|refine Fl (M7 w us iw _ gK f.path .no gr k0) ?_|refine callPG (M7 w us iw _ gK f.path .no gr k0) ?_|refine Fl (M6 w us iw _ gK f.cls go) ?_|refine callPG (M6 w us iw _ gK f.cls go) ?_|refine gf (gi hs (gi b1 (gi b4 gu))) ?_ o272|apply gy<;>intro hh
    all_goals
     refine kE (U':=V.set il (.cells [dI (IntKind.i64.wrap (s-1))])) ?_;refine⟨?_,f0 _,w7 ..⟩
     first|(simp_all [Hs,inB];done)|(rw[show DE.ret (D.bool (Hs w f,IntKind.i64.wrap (s-1)).1)=DE.ret (D.bool (Hs w f)) from rfl,A4,aW];simp_all [Hs,inB];done)|(rw[show DE.ret (D.bool (Hs w f,IntKind.i64.wrap (s-1)).1)=DE.ret (D.bool (Hs w f)) from rfl,A4,aW];simp_all [Hs,inB];omega)
   | false =>
    rw[gu,aQ k7]at hN;rw[hN]
    by_cases h0:f.arg=0/\f.path.length=0/\f.cls=0/\f.n=0
    ·rw[aS h0]
     repeat' first|refine gf (gi hs (gi b1 (gi b4 gu))) ?_ o272|apply gy<;>intro hh
     all_goals try (exfalso;omega)
     have iU:∀x∈f.aq,x.wt<=1073741824:=fun x hx=>by obtain⟨k,hk,rfl⟩:=bm hx;have:=w3 k hk;omega
     refine Ad (Pe f.aq (DH w d) 301 [] [.aw [.ptr iw 0] 0,.aw [.ptr il 0] 0,.aw [dI ((d:Int)+1)] 0] .no (fun U' s'=>kQ (· = il) S0 U'/\U' il=some (.cells [dI s'])) k0 (fun x hx U' s' hG=>Te iw il d x _ _ U' k0 (ih x s' U' k0 (iU x hx) hG.1 hG.2)) _ (IntKind.i64.wrap (s-1)) ⟨f0 _,w7 ..⟩) (fun e S2 hr=>?_);obtain⟨h1,h2⟩:=hr;simp only[DE.ret.injEq]at h1;subst h1;refine gz ?_ o272;refine kE (U':=S2) ?_;exact⟨rfl,h2⟩
    ·rw[aQ h0]
     repeat' first|(refine kE (U':=V.set il (.cells [dI (IntKind.i64.wrap (s-1))])) ?_;exact⟨rfl,f0 _,w7 ..⟩)|refine gf (gi hs (gi b1 (gi b4 gu))) ?_ o272|apply gy<;>intro hh
     all_goals (exfalso;omega)
def CW(w:World)(f:kA):Bool:=(DH w 12 f 24).1
def To(w:World)(us:fR)(iw:Nat)(f:kA)(V:Sig)(hw:V iw=some (wObj w us))(go:w.ap.length<=1073741824)(gr:w.owner.length<=1073741824)(hf:f.wt<=1073741824):
  aB prog 271 [.agg (Bp f),.aw [.ptr iw 0] 0] V (rS (.bool (CW w f)) V):=by
 refine en func271 ntmps271 ?_;refine gz ?_ [] [4];refine kR (fun il fZ=>?_);have hne:iw≠il:=fun e=>by rw[e,fZ]at hw;cases hw
 refine gz ?_ [] [4];refine Ad (VT w us iw il V hw hne go gr 12 f 24 (V.set il (.cells [dI 24])) k0 hf ((kQ.refl _ V).fresh fZ) (w7 ..)) (fun e S2 hr=>?_);obtain⟨h1,h2,h3⟩:=hr;simp only[DE.ret.injEq]at h1;subst h1;refine gz ?_ [] [4];refine kE (U':=V) ?_ (hZ:=fun j o hj=>h2 j o hj (fun e=>by rw[e,fZ]at hj;cases hj));exact⟨rfl,rfl⟩
def Q2{α:Type}(q:α->Bool): ∀l:List α,allS (fun x (_:Unit)=>(q x,())) l ()=(l.all q,())
 |[]=>rfl
 |x::r=>by
  rw[allS,bU];cases h:q x
  ·simp
  ·simp only[bd];exact Q2 q r
def Mi(w:World)(us:fR)(iw:Nat)(l:List kA)(o:Own)(V:Sig)(hw:V iw=some (wObj w us))(go:w.ap.length<=1073741824)(gr:w.owner.length<=1073741824)(hl:l.length<=1073741824)(hf:∀f∈l,f.wt<=1073741824):
  aB prog 229 [.ptr iw 0,.slice (l.map Bp) o] V (rS (.bool (l.all (CW w))) V):=by
 refine en func229 ntmps229 ?_;refine gz ?_;refine Ad (Pe l (fun x (_:Unit)=>(CW w x,())) 271 [] [.aw [.ptr iw 0] 0] o (fun U' _=>U'=V) hl (fun x hx U' s' hG=>by rw[hG];exact To w us iw x V hw go gr (hf x hx)) _ () rfl) (fun e S2 hr=>?_) (fun e S2 hr=>by cases hr.1);obtain⟨h1,h2⟩:=hr;simp only[DE.ret.injEq]at h1;subst h1;rw[show S2=V from h2];refine gz ?_;rw[Q2];exact fe1 trivial
end Go.DL
