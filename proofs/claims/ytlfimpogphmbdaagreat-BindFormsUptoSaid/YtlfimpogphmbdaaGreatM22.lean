/- Part of the proof that the last text ends. -/
import Derived.Test.YtlfimpogphmbdaaGreatM20
import Derived.Test.YtlfimpogphmbdaaGreatM21
import Derived.Test.YtlfimpogphmbdaaGreatM19
set_option linter.all false
namespace Go.DL
open Go.Proofs.Tryz
open Go Go.Proofs
set_option maxHeartbeats 8000000
def anyS{α S:Type}(f:α->S->Bool×S):List α->S->Bool×S
 |[],s=>(false,s)
 |x::r,s=>match f x s with
  |(true,s')=>(true,s')
  |(false,s')=>anyS f r s'
def allS{α S:Type}(f:α->S->Bool×S):List α->S->Bool×S
 |[],s=>(true,s)
 |x::r,s=>match f x s with
  |(false,s')=>(false,s')
  |(true,s')=>allS f r s'
theorem Mf{α S:Type}(f:α->S->Bool×S): ∀(l:List α) (s:S),allS f l s=(!(anyS (fun x s=>(!(f x s).1,(f x s).2)) l s).1,(anyS (fun x s=>(!(f x s).1,(f x s).2)) l s).2)
 |[],s=>rfl
 |x::r,s=>by
  rw[allS,anyS]
  rcases h:f x s with⟨b,s'⟩
  cases b
  ·simp
  ·simp only[Bool.not_true];exact Mf f r s'
theorem KJ(l:List Int)(q:Int->Bool)(g:Nat)(first cap:List D)(o:Own)(V:Sig)(hl:l.length<=1073741824)
  (hg:∀x∈l,DCall prog g (first++dI x::cap) V fun r S''=>r=.ret (.bool (q x))/\S''=V) :
  DCall prog 309 [.slice (cI l) o,.func (.func g) first cap] V (rS (dI (idxF q l 0)) V):=by
 refine en func309 ntmps309 ?_
 refine gz ?_
 refine B2 [0,1,7] (fun (k:Nat)=>k<=l.length/\idxF q l 0=idxF q (l.drop k) k) (fun k=>[(8,dI k)]) (fun _=>V) (fun k=>l.length-k) (0) td3 (fun k hI =>?_)
 obtain⟨hk,hR⟩:=hI
 by_cases h:k<l.length
 ·rw[A0 h,idxF]at hR
  repeat' first|refine Ax (hg (l[k]) (List.getElem_mem h)) ?_|refine callP (hg (l[k]) (List.getElem_mem h)) ?_|refine gf h ?_|apply gy<;>intro hh
  ·exact fe1 hR
  ·exact⟨k+1,⟨by omega,by rw[hR,hh];rfl⟩,td1,wkR⟩
 ·refine gf h ?_
  (refine fin1 (S':=V) ?_;exact⟨by first|rfl|(simp[hR,A1 h,idxF];done)|(simp_all [hR,A1 h,idxF];done)|(rw[A7,Bool.eq_iff_iff];simp_all [hR,A1 h,idxF]<;>omega),rfl⟩)
theorem KN(l:List Int)(q:Int->Bool)(g:Nat)(first cap:List D)(o:Own)(V:Sig)(hl:l.length<=1073741824)
  (hg:∀x∈l,DCall prog g (first++dI x::cap) V fun r S''=>r=.ret (.bool (q x))/\S''=V) :
  DCall prog 293 [.slice (cI l) o,.func (.func g) first cap] V (rS (.bool (l.any q)) V):=by
 refine en func293 ntmps293 ?_
 repeat' first|refine gz ?_|refine Ax (KJ l q g first cap o V hl hg) ?_|refine callP (KJ l q g first cap o V hl hg) ?_|refine gz ?_|apply gy<;>intro hh
 (refine fin1 (S':=V) ?_;exact⟨by first|rfl|(simp[Eh];done)|(simp_all [Eh];done)|(rw[A7,Bool.eq_iff_iff];simp_all [Eh]<;>omega),rfl⟩)
theorem KM(q:Int->Bool)(g:Nat)(first cap:List D)(x:Int)(V:Sig)
  (hg:DCall prog g (first++dI x::cap) V fun r S''=>r=.ret (.bool (q x))/\S''=V) :
  DCall prog 294 [dI x,.cptr [.func (.func g) first cap] 0] V (rS (.bool (!q x)) V):=by
 refine en func294 ntmps294 ?_
 repeat' first|refine Ax (hg) ?_|refine callP (hg) ?_|refine gz ?_|apply gy<;>intro hh
 exact fe1 trivial
theorem G9(l:List Int)(q:Int->Bool)(g:Nat)(first cap:List D)(o:Own)(V:Sig)(hl:l.length<=1073741824)
  (hg:∀x∈l,DCall prog g (first++dI x::cap) V fun r S''=>r=.ret (.bool (q x))/\S''=V) :
  DCall prog 268 [.slice (cI l) o,.func (.func g) first cap] V (rS (.bool (l.all q)) V):=by
 refine en func268 ntmps268 ?_
 repeat' first|refine gz ?_|refine Ax (KN l (fun x => !q x) 294 [] [.cptr [.func (.func g) first cap] 0] o V hl (fun x hx=>KM q g first cap x V (hg x hx))) ?_|refine callP (KN l (fun x => !q x) 294 [] [.cptr [.func (.func g) first cap] 0] o V hl (fun x hx=>KM q g first cap x V (hg x hx))) ?_|refine gz ?_|apply gy<;>intro hh
 (refine fin1 (S':=V) ?_;exact⟨by first|rfl|(simp[List.not_all_eq_any_not];done)|(simp_all [List.not_all_eq_any_not];done)|(rw[A7,Bool.eq_iff_iff];simp_all [List.not_all_eq_any_not]<;>omega),rfl⟩)
theorem Td{S:Type}(l:List Fact)(f:Fact->S->Bool×S)(g:Nat)(first cap:List D)(o:Own)(Good:Sig->S->Prop)(hl:l.length<=1073741824)
  (hg:∀x∈l, ∀V s,Good V s->DCall prog g (first ++ .agg (Bp x)::cap) V fun r S'=>r=.ret (.bool (f x s).1)/\Good S' (f x s).2) (V:Sig) (s:S) (hG:Good V s) :
  DCall prog 310 [.slice (l.map Bp) o,.func (.func g) first cap] V fun x S' => ∃i:Int,x=.ret (dI i)/\decide (0<=i)=(anyS f l s).1/\Good S' (anyS f l s).2:=by
 refine en func310 ntmps310 ?_
 refine gz ?_
 refine D6 [0,1,7] (fun (k:Nat) (s1:S) (S1:Sig)=>k<=l.length/\Good S1 s1/\anyS f l s=anyS f (l.drop k) s1) (fun k _ _=>[(8,dI k)]) (fun _ _ S1=>S1) (fun k _ _=>l.length-k) (0) (s) (V) (by exact⟨by omega,hG,rfl⟩) (fun k s1 S1 hI =>?_)
 obtain⟨hk,hG1,hR⟩:=hI
 by_cases h:k<l.length
 ·rw[A0 h,anyS]at hR
  refine gf h ?_
  refine Ab (hg (l[k]) (List.getElem_mem h) S1 s1 hG1) (fun e S2 hr =>?_) (fun e S2 hr =>?_)
  ·obtain⟨h1,h2⟩:=hr
   simp only[DE.ret.injEq]at h1
   subst h1
   rcases hf:f l[k] s1 with⟨b,s2⟩
   rw[hf]at hR h2
   cases b
   ·refine gz ?_
    exact⟨k+1,s2,S2,⟨by omega,h2,hR⟩,td1,wkR⟩
   ·refine gz ?_
    refine fin1 (S':=S2) ?_
    exact⟨k,rfl,by rw[hR];simp,by rw[hR];exact h2⟩
  ·cases hr.1
 ·rw[A1 h,anyS]at hR
  refine gf h ?_
  refine fin1 (S':=S1) ?_
  exact⟨-1,rfl,by rw[hR];rfl,by rw[hR];exact hG1⟩
theorem Tl{S:Type}(l:List Fact)(f:Fact->S->Bool×S)(g:Nat)(first cap:List D)(o:Own)(Good:Sig->S->Prop)(hl:l.length<=1073741824)
  (hg:∀x∈l, ∀V s,Good V s->DCall prog g (first ++ .agg (Bp x)::cap) V fun r S'=>r=.ret (.bool (f x s).1)/\Good S' (f x s).2) (V:Sig) (s:S) (hG:Good V s) :
  DCall prog 295 [.slice (l.map Bp) o,.func (.func g) first cap] V fun x S'=>x=.ret (.bool (anyS f l s).1)/\Good S' (anyS f l s).2:=by
 refine en func295 ntmps295 ?_
 refine gz ?_
 refine Ab (Td l f g first cap o Good hl hg V s hG) (fun e S2 hr =>?_) (fun e S2 hr =>?_)
 ·obtain⟨i,h1,h2,h3⟩:=hr
  simp only[DE.ret.injEq]at h1
  subst h1
  refine gz ?_
  refine fin1 (S':=S2) ?_
  exact⟨by rw[<-h2],h3⟩
 ·obtain⟨i,h1,_⟩:=hr;cases h1
theorem Tk{S:Type}(f:Fact->S->Bool×S)(g:Nat)(first cap:List D)(Good:Sig->S->Prop)(x:Fact)(V:Sig)(s:S)(hg:DCall prog g (first ++ .agg (Bp x)::cap) V fun r S'=>r=.ret (.bool (f x s).1)/\Good S' (f x s).2):
  DCall prog 296 [.agg (Bp x),.cptr [.func (.func g) first cap] 0] V fun r S'=>r=.ret (.bool (!(f x s).1))/\Good S' (f x s).2:=by
 refine en func296 ntmps296 ?_
 refine gz ?_
 refine Ab hg (fun e S2 hr =>?_) (fun e S2 hr =>?_)
 ·obtain⟨h1,h2⟩:=hr
  simp only[DE.ret.injEq]at h1
  subst h1
  refine gz ?_
  refine fin1 (S':=S2) ?_
  exact⟨rfl,h2⟩
 ·cases hr.1
theorem Nr{S:Type}(l:List Fact)(f:Fact->S->Bool×S)(g:Nat)(first cap:List D)(o:Own)(Good:Sig->S->Prop)(hl:l.length<=1073741824)
  (hg:∀x∈l, ∀V s,Good V s->DCall prog g (first ++ .agg (Bp x)::cap) V fun r S'=>r=.ret (.bool (f x s).1)/\Good S' (f x s).2) (V:Sig) (s:S) (hG:Good V s) :
  DCall prog 270 [.slice (l.map Bp) o,.func (.func g) first cap] V fun x S'=>x=.ret (.bool (allS f l s).1)/\Good S' (allS f l s).2:=by
 refine en func270 ntmps270 ?_
 refine gz ?_
 refine Ab (Tl l (fun x s=>(!(f x s).1,(f x s).2)) 296 [] [.cptr [.func (.func g) first cap] 0] o Good hl (fun x hx V s hG=>Tk f g first cap Good x V s (hg x hx V s hG)) V s hG) (fun e S2 hr =>?_) (fun e S2 hr =>?_)
 ·obtain⟨h1,h2⟩:=hr
  simp only[DE.ret.injEq]at h1
  subst h1
  refine gz ?_
  refine fin1 (S':=S2) ?_
  exact⟨by rw[Mf],by rw[Mf];exact h2⟩
 ·cases hr.1
def wObj(w:World)(us:List Int):DObj := .cells (sl (cII w.parents)::sl (cI w.owner)::us.map (D.int .u64))
def MI(w:World)(l:List Int):Bool:=decide (l.length<=2)&&l.all (fun c=>decide (0<=c/\c<w.owner.length))
section
variable (w:World)(us:List Int)(iw:Nat)(V:Sig)(hw:V iw=some (wObj w us))
include hw
theorem KQ(c:Int)(hl:w.parents.length<=1073741824):DCall prog 269 [.ptr iw 0,dI c] V (rS (.bool (decide (3<=c/\c<3+w.parents.length))) V):=by
 unfold wObj at hw
 refine en func269 ntmps269 ?_
 repeat' first|refine gf hw ?_|apply gy<;>intro hh
 any_goals (first|exact fe1 trivial|fail)
theorem KI(c:Int)(hl:w.owner.length<=1073741824):DCall prog 311 [.ptr iw 0,dI c] V (rS (.bool (decide (0<=c/\c<w.owner.length))) V):=by
 unfold wObj at hw
 refine en func311 ntmps311 ?_
 repeat' first|refine gf hw ?_|apply gy<;>intro hh
 any_goals (first|exact fe1 trivial|fail)
theorem KK(c:Int)(hl:w.parents.length<=1073741824):DCall prog 300 [.ptr iw 0,dI c] V (rS (.bool (decide (0<=c/\c<3+w.parents.length))) V):=by
 unfold wObj at hw
 refine en func300 ntmps300 ?_
 repeat' first|refine gf hw ?_|apply gy<;>intro hh
 any_goals (first|exact fe1 trivial|fail)
theorem KL(l:List Int)(o:Own)(hl:w.owner.length<=1073741824)(hll:l.length<=1073741824):DCall prog 299 [.ptr iw 0,.slice (cI l) o] V (rS (.bool (MI w l)) V):=by
 refine en func299 ntmps299 ?_
 repeat' first|refine gz ?_|refine Fj (G9 l (fun c=>decide (0<=c/\c<w.owner.length)) 311 [.ptr iw 0] [] _ _ hll (fun x _=>KI w us iw _ hw x hl)) ?_|refine Fk (G9 l (fun c=>decide (0<=c/\c<w.owner.length)) 311 [.ptr iw 0] [] _ _ hll (fun x _=>KI w us iw _ hw x hl)) ?_|refine gz ?_|apply gy<;>intro hh
 any_goals (first|(refine fin1 (S':=V) ?_;exact⟨by first|rfl|(simp[MI];done)|(simp_all [MI];done)|(rw[A7,Bool.eq_iff_iff];simp_all [MI]<;>omega),rfl⟩)|fail)
end
def HP(w:World)(f:Fact):Bool:=decide (0<=f.arg/\f.arg<3)&&MI w f.path &&
 (if f.op=2 then decide (f.n=0)&&decide (0<=f.cls/\f.cls<3+w.parents.length) else decide (f.cls=0)&&inB f.n)
def Dn(w:World):Nat->Fact->Int->Bool×Int
 |0,_,s=>(false,IntKind.i64.wrap (s-1))
 |d+1,f,s =>
  if IntKind.i64.wrap (s-1)<0\/f.op<1\/7<f.op\/f.kids.length≠Bs f.op then(false,IntKind.i64.wrap (s-1)) else
  if BZ f.op then(HP w f,IntKind.i64.wrap (s-1)) else
  if f.arg=0/\f.path.length=0/\f.cls=0/\f.n=0 then allS (Dn w d) f.kids (IntKind.i64.wrap (s-1)) else(false,IntKind.i64.wrap (s-1))
theorem QC(iw il d:Nat)(x:Fact)(b:Bool)(G:Sig->Prop)(V:Sig)(hd:d<=1000)(h:DCall prog 272 [.ptr iw 0,.agg (Bp x),.ptr il 0,dI d] V fun r S'=>r=.ret (.bool b)/\G S'):
  DCall prog 301 [.agg (Bp x),.cptr [.ptr iw 0] 0,.cptr [.ptr il 0] 0,.cptr [dI ((d:Int)+1)] 0] V fun r S'=>r=.ret (.bool b)/\G S':=by
 refine en func301 ntmps301 ?_
 refine gf (show((d:Int)+1-1)=d by omega) ?_
 refine Ab h (fun e S2 hr =>?_) (fun e S2 hr=>by cases hr.1)
 obtain⟨h1,h2⟩:=hr
 simp only[DE.ret.injEq]at h1
 subst h1
 refine gz ?_
 refine fin1 (S':=S2) ?_
 exact⟨rfl,h2⟩
theorem Tr(w:World)(us:List Int)(iw il:Nat)(S0:Sig)(hw:S0 iw=some (wObj w us))(hne:iw≠il)(hlp:w.parents.length<=1073741824)(hlo:w.owner.length<=1073741824):
  ∀(d:Nat) (f:Fact) (s:Int) (V:Sig),d<=1000->f.wt<=1073741824->Keep (· = il) S0 V->V il=some (.cells [dI s])->
   DCall prog 272 [.ptr iw 0,.agg (Bp f),.ptr il 0,dI d] V fun x S'=>x=.ret (.bool (Dn w d f s).1)/\(Keep (· = il) S0 S'/\S' il=some (.cells [dI (Dn w d f s).2])):=by
 intro d
 have hKs:∀(V:Sig) (o:DObj),Keep (· = il) S0 V->Keep (· = il) S0 (V.set il o):=fun V o h j x h1 h2=>by rw[w8 _ _ h2];exact h j x h1 h2
 induction d with
 |zero =>
  intro f s V hd hf hK hs
  have hKs:=fun o=>hKs V o hK
  refine en func272 ntmps272 ?_
  repeat' first|(refine fin1 (S':=V.set il (.cells [dI (IntKind.i64.wrap (s-1))])) ?_;exact⟨rfl,hKs _,w7 ..⟩)|refine gf hs ?_ o272|apply gy<;>intro hh
 | succ d ih =>
  intro f s V hd hf hK hs
  have hKs:=fun o=>hKs V o hK
  obtain⟨w1,w2,w3⟩:=f.wt_le
  have hfk:(Bs f.op:Int)<=2:=by unfold Bs;split<;>(try split)<;>omega
  have hw':(V.set il (.cells [dI (IntKind.i64.wrap (s-1))])) iw=some (wObj w us):=hKs _ iw _ hw hne
  refine en func272 ntmps272 ?_
  by_cases hbad:IntKind.i64.wrap (s-1)<0\/f.op<1\/7<f.op\/f.kids.length≠Bs f.op
  ·have hN:Dn w (d+1) f s=(false,IntKind.i64.wrap (s-1)):=by rw[Dn,if_pos hbad]
   rw[hN]
   repeat' first|(refine fin1 (S':=V.set il (.cells [dI (IntKind.i64.wrap (s-1))])) ?_;exact⟨rfl,hKs _,w7 ..⟩)|refine gf hs ?_ o272|apply gy<;>intro hh
   all_goals (exfalso;simp_all;omega)
  ·have hN:Dn w (d+1) f s=if BZ f.op then(HP w f,IntKind.i64.wrap (s-1)) else if f.arg=0/\f.path.length=0/\f.cls=0/\f.n=0 then allS (Dn w d) f.kids (IntKind.i64.wrap (s-1)) else(false,IntKind.i64.wrap (s-1)):=by rw[Dn,if_neg hbad]
   have b1:¬IntKind.i64.wrap (s-1)<0:=fun h=>hbad (.inl h)
   have b2:¬f.op<1:=fun h=>hbad (.inr (.inl h))
   have b3:¬7<f.op:=fun h=>hbad (.inr (.inr (.inl h)))
   have b4:f.kids.length=Bs f.op:=by omega
   cases hlf:BZ f.op with
   | true =>
    rw[hlf,if_pos rfl]at hN
    rw[hN]
    repeat' first|refine gf (gi hs (gi b1 (gi b4 hlf))) ?_|refine Fj (KL w us iw _ hw' f.path .no hlo (by omega)) ?_|refine Fk (KL w us iw _ hw' f.path .no hlo (by omega)) ?_|refine Fj (KK w us iw _ hw' f.cls hlp) ?_|refine Fk (KK w us iw _ hw' f.cls hlp) ?_|refine gf (gi hs (gi b1 (gi b4 hlf))) ?_ o272|apply gy<;>intro hh
    all_goals
     refine fin1 (S':=V.set il (.cells [dI (IntKind.i64.wrap (s-1))])) ?_
     refine⟨?_,hKs _,w7 ..⟩
     first|(simp_all [HP,inB];done)|(rw[show DE.ret (D.bool (HP w f,IntKind.i64.wrap (s-1)).1)=DE.ret (D.bool (HP w f)) from rfl,A7,Bool.eq_iff_iff];simp_all [HP,inB];done)|(rw[show DE.ret (D.bool (HP w f,IntKind.i64.wrap (s-1)).1)=DE.ret (D.bool (HP w f)) from rfl,A7,Bool.eq_iff_iff];simp_all [HP,inB];omega)
   | false =>
    rw[hlf,if_neg (by simp)]at hN
    rw[hN]
    by_cases h0:f.arg=0/\f.path.length=0/\f.cls=0/\f.n=0
    ·rw[if_pos h0]
     repeat' first|refine gf (gi hs (gi b1 (gi b4 hlf))) ?_ o272|apply gy<;>intro hh
     all_goals try (exfalso;omega)
     have hkw:∀x∈f.kids,x.wt<=1073741824:=fun x hx=>by obtain⟨k,hk,rfl⟩:=List.getElem_of_mem hx;have:=w3 k hk;omega
     refine Ab (Nr f.kids (Dn w d) 301 [] [.cptr [.ptr iw 0] 0,.cptr [.ptr il 0] 0,.cptr [dI ((d:Int)+1)] 0] .no (fun S' s'=>Keep (· = il) S0 S'/\S' il=some (.cells [dI s'])) (by omega) (fun x hx S' s' hG=>QC iw il d x _ _ S' (by omega) (ih x s' S' (by omega) (hkw x hx) hG.1 hG.2)) _ (IntKind.i64.wrap (s-1)) ⟨hKs _,w7 ..⟩) (fun e S2 hr =>?_) (fun e S2 hr=>by cases hr.1)
     obtain⟨h1,h2⟩:=hr
     simp only[DE.ret.injEq]at h1
     subst h1
     refine gz ?_ o272
     refine fin1 (S':=S2) ?_
     exact⟨rfl,h2⟩
    ·rw[if_neg h0]
     repeat' first|(refine fin1 (S':=V.set il (.cells [dI (IntKind.i64.wrap (s-1))])) ?_;exact⟨rfl,hKs _,w7 ..⟩)|refine gf (gi hs (gi b1 (gi b4 hlf))) ?_ o272|apply gy<;>intro hh
     all_goals (exfalso;omega)
def Dh(w:World)(f:Fact):Bool:=(Dn w 12 f 24).1
theorem QM(w:World)(us:List Int)(iw:Nat)(f:Fact)(V:Sig)(hw:V iw=some (wObj w us))(hlp:w.parents.length<=1073741824)(hlo:w.owner.length<=1073741824)(hf:f.wt<=1073741824):
  DCall prog 271 [.agg (Bp f),.cptr [.ptr iw 0] 0] V (rS (.bool (Dh w f)) V):=by
 refine en func271 ntmps271 ?_
 refine gz ?_ [] [4]
 refine newV (fun il hil =>?_)
 have hne:iw≠il:=fun e=>by rw[e,hil]at hw;cases hw
 refine gz ?_ [] [4]
 refine Ab (Tr w us iw il V hw hne hlp hlo 12 f 24 (V.set il (.cells [dI 24])) (by omega) hf ((Keep.refl _ V).fresh hil) (w7 ..)) (fun e S2 hr =>?_) (fun e S2 hr=>by cases hr.1)
 obtain⟨h1,h2,h3⟩:=hr
 simp only[DE.ret.injEq]at h1
 subst h1
 refine gz ?_ [] [4]
 refine fin1 (S':=V) ?_ (hZ:=fun j o hj=>h2 j o hj (fun e=>by rw[e,hil]at hj;cases hj))
 exact⟨rfl,rfl⟩
theorem Oa{α:Type}(q:α->Bool): ∀l:List α,allS (fun x (_:Unit)=>(q x,())) l ()=(l.all q,())
 |[]=>rfl
 |x::r=>by
  rw[allS,List.all_cons]
  cases h:q x
  ·simp
  ·simp only[Bool.true_and];exact Oa q r
theorem KW(w:World)(us:List Int)(iw:Nat)(l:List Fact)(o:Own)(V:Sig)(hw:V iw=some (wObj w us))(hlp:w.parents.length<=1073741824)(hlo:w.owner.length<=1073741824)(hl:l.length<=1073741824)(hf:∀f∈l,f.wt<=1073741824):
  DCall prog 229 [.ptr iw 0,.slice (l.map Bp) o] V (rS (.bool (l.all (Dh w))) V):=by
 refine en func229 ntmps229 ?_
 refine gz ?_
 refine Ab (Nr l (fun x (_:Unit)=>(Dh w x,())) 271 [] [.cptr [.ptr iw 0] 0] o (fun S' _=>S'=V) hl (fun x hx S' s' hG=>by rw[hG];exact QM w us iw x V hw hlp hlo (hf x hx)) _ () rfl) (fun e S2 hr =>?_) (fun e S2 hr=>by cases hr.1)
 obtain⟨h1,h2⟩:=hr
 simp only[DE.ret.injEq]at h1
 subst h1
 rw[show S2=V from h2]
 refine gz ?_
 rw[Oa]
 exact fe1 trivial
theorem KR(s c:Int)(V:Sig)(hc:0<=c):DCall prog 267 [.int .u64 s,dI c] V fun x S'=>(∃n:Int,x=.ret (.int .u64 n))/\S'=V:=by
 refine en func267 ntmps267 ?_
 try refine gf (Q9 .u64 .i64 1 c hc) ?_
 refine fin1 (S':=V) ?_
 exact⟨⟨_,rfl⟩,rfl⟩
theorem OX(w:World)(us:List Int)(c:Nat)(n:Int)(h:c<us.length):DObj.cells (List.take (2+c) (sl (cII w.parents)::sl (cI w.owner)::List.map (D.int IntKind.u64) us)++D.int IntKind.u64 n::List.drop (2+c) (sl (cI w.owner)::List.map (D.int IntKind.u64) us))=wObj w (us.set c n):=by
 rw[show 2+c=c+1+1 by omega];simp only[List.take_succ_cons,List.drop_succ_cons,List.cons_append];unfold wObj;rw[List.map_set,List.set_eq_take_append_cons_drop,if_pos (by simpa using h)]
theorem QU(w:World)(V:Sig)(hg:Bq w.parents=true)(hl2:∀x∈w.parents,x.length<=1073741824)(ho:w.owner.length<=40)(hoo:∀c∈w.owner,3<=c/\c<3+w.parents.length):
  DCall prog 228 [.agg (Da w)] V fun x S' => ∃iw us,V iw=none/\x=.ret (.tup [.ptr iw 0,.bool true])/\S'=V.set iw (wObj w us):=by
 have hlen:=DQ hg
 refine en func228 ntmps228 ?_
 repeat ((fail_if_success (first|(refine boxV (T:=345) (fun iw hiw =>?_))|fail));(refine goX1 trivial ?_))
 refine boxV (T:=345) (fun iw hiw =>?_)
 have e0:wObj w (List.replicate 63 0)=.cells [sl (cII w.parents),sl (cI w.owner),.int .u64 0,.int .u64 0,.int .u64 0,.int .u64 0,.int .u64 0,.int .u64 0,.int .u64 0,.int .u64 0,.int .u64 0,.int .u64 0,.int .u64 0,.int .u64 0,.int .u64 0,.int .u64 0,.int .u64 0,.int .u64 0,.int .u64 0,.int .u64 0,.int .u64 0,.int .u64 0,.int .u64 0,.int .u64 0,.int .u64 0,.int .u64 0,.int .u64 0,.int .u64 0,.int .u64 0,.int .u64 0,.int .u64 0,.int .u64 0,.int .u64 0,.int .u64 0,.int .u64 0,.int .u64 0,.int .u64 0,.int .u64 0,.int .u64 0,.int .u64 0,.int .u64 0,.int .u64 0,.int .u64 0,.int .u64 0,.int .u64 0,.int .u64 0,.int .u64 0,.int .u64 0,.int .u64 0,.int .u64 0,.int .u64 0,.int .u64 0,.int .u64 0,.int .u64 0,.int .u64 0,.int .u64 0,.int .u64 0,.int .u64 0,.int .u64 0,.int .u64 0,.int .u64 0,.int .u64 0,.int .u64 0,.int .u64 0,.int .u64 0]:=rfl
 rw[<-e0]
 clear e0
 try refine gz ?_ o228
 refine AA [1,2,3,4,6,7,8,9,10,35,36,37,38,39,40,41,42,43,44,45,46,47,48,49,50,51,52,53,54,55,56,57,58,59,60,61,62,63,64,65,66,67,68,69,70,71,72,73,74,75,76,77,78,79,80,81,82,83,84,85,86,87,88,89,90] (fun (c:Nat) (us:List Int)=>c<=3/\us.length=63) (fun c _=>[(24,dI c)]) (fun _ us=>V.set iw (wObj w us)) (fun c _=>3-c) (0) (List.replicate 63 0) (by simp) (fun c us hI =>?_)
 obtain⟨hc,hus⟩:=hI
 have hwo:wObj w us=.cells (sl (cII w.parents)::sl (cI w.owner)::us.map (D.int .u64)):=rfl
 by_cases hc3:c<3
 ·try refine gz ?_ o228
  refine BF (KR 1 c _ (by omega)) (fun d S' h =>?_) (fun d S' h=>by obtain⟨⟨n,h⟩,_⟩:=h;cases h)
  obtain⟨⟨n,h⟩,rfl⟩:=h
  simp only[DE.ret.injEq]at h
  subst h
  refine⟨Sub.refl _,?_⟩
  try refine gf hwo ?_ o228
  rw[OX _ _ _ _ (by omega)]
  exact⟨c+1,us.set c n,by simp;omega,td1,wkR⟩
 ·try refine gz ?_ o228
  refine AA [1,4,36,37,85,86,87,88,89,90] (fun (i:Nat) (us:List Int)=>i<=w.parents.length/\us.length=63) (fun i _=>[(38,dI i)]) (fun _ us=>V.set iw (wObj w us)) (fun i _=>w.parents.length-i) (0) (us) (by exact⟨by omega,hus⟩) (fun i us hI =>?_)
  obtain⟨hi,hus⟩:=hI
  have hwo:wObj w us=.cells (sl (cII w.parents)::sl (cI w.owner)::us.map (D.int .u64)):=rfl
  by_cases hil:i<w.parents.length
  ·have hrow:=FI (by simpa[Bq] using hg:w.parents.length<=16/\Cg 0 w.parents=true).2 i hil
   generalize hr:w.parents[i]=row at *
   simp only[HS,Bool.and_eq_true,decide_eq_true_eq,Nat.zero_add]at hrow
   try refine gf hr ?_ o228
   refine Ab (KR 1 (3+i) _ (by omega)) (fun d S' h =>?_) (fun d S' h=>by obtain⟨⟨n,h⟩,_⟩:=h;cases h)
   obtain⟨⟨n,h⟩,rfl⟩:=h
   simp only[DE.ret.injEq]at h
   subst h
   try refine gf hr ?_ o228
   refine AA [1,4,6,7,36,37,38,39,40,41,42,43,44,45,46,47,77,78,79,80,81,82,83,84,85,86,87,88,89,90] (fun (k:Nat) (n:Int)=>k<=row.length/\DA i (row.take k) (row.drop k)=true) (fun k n=>[(48,dI k),(8,.int .u64 n)]) (fun _ _=>V.set iw (wObj w us)) (fun k _=>row.length-k) (0) (n) (by exact⟨by omega,by simpa using hrow.2⟩) (fun k n hI =>?_)
   obtain⟨hk,hE⟩:=hI
   by_cases hkl:k<row.length
   ·rw[A0 hkl,DA, <-AH hkl]at hE
    simp only[Bool.and_eq_true,decide_eq_true_eq,Bool.not_eq_true',decide_eq_false_iff_not]at hE
    obtain⟨q,hq⟩:∃q:Nat,row[k]=(q:Int):=⟨(row[k]).toNat,by omega⟩
    rw[hq]at hE
    have hget:(sl (cII w.parents)::sl (cI w.owner)::List.map (D.int IntKind.u64) us)[2+q]? = some (D.int IntKind.u64 (us[q]'(by omega))):=by
     rw[show 2+q=q+1+1 by omega,List.getElem?_cons_succ,List.getElem?_cons_succ,List.getElem?_map,List.getElem?_eq_getElem (by omega)];rfl
    try refine gf (gi hwo (gi hq (gi hE.1.2 hget))) ?_ o228
    exact⟨k+1,_,⟨by omega,hE.2⟩,td1,wkR⟩
   ·
    try refine gf (gi hr hwo) ?_ o228
    rw[show 2+(3+(i:Int)).toNat=2+(3+i) by omega,OX _ _ _ _ (by omega)]
    exact⟨i+1,us.set (3+i) n,by simp;omega,td1,wkR⟩
  ·repeat' first|refine gz ?_|refine Ax (G9 w.owner (fun c=>decide (3<=c/\c<3+w.parents.length)) 269 [.ptr iw 0] [] _ _ (by omega) (fun x _=>KQ w us iw _ (w7 ..) x (by omega))) ?_|refine callP (G9 w.owner (fun c=>decide (3<=c/\c<3+w.parents.length)) 269 [.ptr iw 0] [] _ _ (by omega) (fun x _=>KQ w us iw _ (w7 ..) x (by omega))) ?_|refine gz ?_ o228|apply gy<;>intro hh
   refine fin2 (S':=V.set iw (wObj w us)) ?_
   refine⟨iw,us,hiw,?_,rfl⟩
   rw[List.all_eq_true.2 fun c hc=>by have:=hoo c hc;simpa using this]
structure WorldOK(w:World):Prop where
 good:Bq w.parents=true
 len:∀x∈w.parents,x.length<=1073741824
 few:w.owner.length<=40
 own:∀c∈w.owner,3<=c/\c<3+w.parents.length
theorem R4(w:World)(l:List Fact)(o:Own)(V:Sig)(h:WorldOK w)(hl:l.length<=1073741824)(hf:∀f∈l,f.wt<=1073741824):
  DCall prog 172 [.agg (Da w),.slice (l.map Bp) o] V fun x S'=>(∃d,x=.ret (.tup [d,.bool (l.all (Dh w))]))/\S'=V:=by
 have hlen:=DQ h.good
 have hfew:=h.few
 refine en func172 ntmps172 ?_
 try refine gz ?_
 refine Ab (QU w V h.good h.len h.few h.own) (fun d S' hr =>?_) (fun d S' hr=>by obtain⟨_,_,_,h,_⟩:=hr;cases h)
 obtain⟨iw,us,hiw,h1,rfl⟩:=hr
 simp only[DE.ret.injEq]at h1
 subst h1
 repeat' first|refine gz ?_|refine Fj (KW w us iw l o _ (w7 ..) (by omega) (by omega) hl hf) ?_|refine Fk (KW w us iw l o _ (w7 ..) (by omega) (by omega) hl hf) ?_|refine gz ?_|apply gy<;>intro hh
 refine fin2 (S':=V) ?_
 exact⟨⟨_,rfl⟩,rfl⟩
theorem VU(w:World)(f:Fact)(V:Sig)(h:WorldOK w)(hf:f.wt<=1073741824):DCall prog 87 [.agg (Da w),.agg (Bp f)] V (rS (dI (if Dh w f then 0 else 2)) V):=by
 refine en func87 ntmps87 ?_
 try refine gz ?_
 refine Ab (R4 w [f] .clip V h (by simp) (by simpa using hf)) (fun d S' hr =>?_) (fun d S' hr=>by obtain⟨⟨_,h⟩,_⟩:=hr;cases h)
 obtain⟨⟨e,h1⟩,h2⟩:=hr
 simp only[DE.ret.injEq]at h1
 subst h1
 rw[h2]
 try refine gz ?_
 exact fe1 trivial
@[reducible,instance] def a87:=fun w f V=>ah2 (@VU w f V)
theorem Lc: ∀(cs:List BClass) (n m:Int),Bw n cs=some m->∀c∈cs,c.slots.length<=4
 |[],_,_,_,c,hc=>by simp at hc
 | x::r,n,m,h,c,hc=>by
  rw[Bw]at h
  split at h
  ·cases h
  ·rename_i h4
   split at h
   ·cases h
   ·rcases List.mem_cons.1 hc with rfl|hc
    ·omega
    ·exact Lc r _ _ h c hc
theorem Ks: ∀(cs:List BClass) (i:Nat),(∀c∈cs,c.slots.length<=4)->(ownersF cs i).length<=4*cs.length /\ ∀x∈ownersF cs i,3+(i:Int)<=x/\x<3+(i:Int)+cs.length
 |[],_,_=>by simp[ownersF]
 | c::r,i,h=>by
  obtain⟨h1,h2⟩:=Ks r (i+1) fun c hc=>h c (by simp[hc])
  have h3:=h c (by simp)
  rw[ownersF]
  refine⟨by simp only[List.length_append,List.length_replicate,List.length_cons];omega,fun x hx =>?_⟩
  rcases List.mem_append.1 hx with hx|hx
  ·have:=List.eq_of_mem_replicate hx
   simp only[List.length_cons];omega
  ·have:=h2 x hx
   simp only[List.length_cons];omega
theorem RA{p:BProg}(hp:p.wt<=1073741824)(h:Ar p=true):WorldOK (AR p):=by
 obtain⟨p1,p2,p3,p4,p5,p6,p7⟩:=p.wt_le
 unfold Ar at h
 simp only[Bool.and_eq_true,decide_eq_true_eq]at h
 obtain⟨h10,h⟩:=h
 split at h
 ·cases h
 ·rename_i n hn
  simp only[Bool.and_eq_true,decide_eq_true_eq]at h
  obtain⟨⟨_,hg⟩,_⟩:=h
  obtain⟨o1,o2⟩:=Ks p.classes 0 (Lc _ _ _ hn)
  refine⟨hg,fun x hx =>?_,by show(ownersF p.classes 0).length<=40;omega,fun c hc =>?_⟩
  ·obtain⟨c,hc,rfl⟩:=List.mem_map.1 (show x∈p.classes.map (·.parents) from hx)
   obtain⟨k,hk,rfl⟩:=List.getElem_of_mem hc
   have:=p5 k hk
   unfold BClass.wt at this;omega
  ·have:=o2 c hc
   show 3<=c/\c<3+((p.classes.map (·.parents)).length:Int)
   rw[List.length_map];omega
def Ep(p:BProg)(m:BMeth):Bool:=decide (1<=m.kind/\m.kind<=4)&&decide (0<=m.gen/\m.gen<p.gens.length)&&Dh (AR p) m.fact&&decide (m.fact.speaks<=p.gens.getD m.gen.toNat 0)
def Dp(p:BProg):List BMeth->List Int->Option (List Int)
 |[],s=>some s
 | m::r,s=>if Ep p m then (match optW (BR p (decide (m.kind=1) || decide (m.kind=4)) 12 m.node (p.gens.getD m.gen.toNat 0) s) with
   |none=>none
   |some s'=>Dp p r s') else none
def D0(p:BProg):Option (List Int) :=
 if Ar p&&(decide (p.gens.length<=8)&&decide (p.methods.length<=16)&&decide (1<=p.nodes.length)&&decide (p.nodes.length<=120))&&p.gens.all (fun g=>decide (1<=g/\g<=3)) then
  match Dp p p.methods (List.replicate p.nodes.length (-1))with
  |none=>none
  |some s=>match optW (BR p false 12 p.main 0 s)with
   |none=>none
   |some s2=>if -1∈s2 then none else some s2
 else none
def SzR(p:BProg)(io:Nat)(V:Sig)(x:DE)(S':Sig):Prop:=Keep (· = io) V S'/\(∃d,S' io=some (.cells [d])) /\
 match D0 p with
 |none=>x=.panic unf
 |some s=>x=.ret (.tup [])/\S' io=some (.cells [sl (cI s)])
theorem T4 (p:BProg) (io:Nat) (V:Sig) (hp:p.wt<=1073741824) (hio:V io=some (.cells [.nils])):DCall prog 79 [.cptr (Am p) 0, .ptr io 0] V (SzR p io V):=by
 obtain⟨p1,p2,p3,p4,p5,p6,p7⟩:=p.wt_le
 have hwc:∀c∈p.classes,c.parents.length<=1073741824/\c.slots.length<=1073741824/\c.inits.length<=1073741824:=fun c hc=>by
  obtain⟨k,hk,rfl⟩:=List.getElem_of_mem hc
  have:=p5 k hk
  have hwu:(p.classes[k]).wt=1+(p.classes[k]).parents.length+(p.classes[k]).slots.length+(p.classes[k]).inits.length:=rfl
  omega
 have hwp:∀c∈p.classes,c.parents.length<=1073741824:=fun c hc=>(hwc c hc).1
 have hws:∀c∈p.classes,c.slots.length<=1073741824:=fun c hc=>(hwc c hc).2.1
 have hpan:D0 p=none->∀S' d,Keep (· = io) V S'->S' io=some (.cells [d])->SzR p io V (.panic unf) S':=fun h S' d hK hd=>⟨hK,⟨d,hd⟩,by rw[h]⟩
 refine en func79 ntmps79 ?_
 cases hc:Ar p with
 |false =>
  have hL:D0 p=none:=by unfold D0;rw[hc];rfl
  repeat' first|(exact finP (S':=V) (hpan hL _ _ (Keep.refl _ _) hio))|refine gf hc ?_ o79|apply gy<;>intro hh
 | true =>
  have hW:=RA hp hc
  by_cases hh4:p.gens.length<=8/\p.methods.length<=16/\1<=p.nodes.length/\p.nodes.length<=120
  ·have hL0:D0 p=if p.gens.all (fun g=>decide (1<=g/\g<=3)) then
     match Dp p p.methods (List.replicate p.nodes.length (-1))with
     |none=>none
     |some s=>match optW (BR p false 12 p.main 0 s)with
      |none=>none
      |some s2=>if -1∈s2 then none else some s2
    else none:=by unfold D0;rw[hc];simp[hh4]
   try refine gf hc ?_ o79
   refine B2 [0,1,4,5,7,34,35,48,49,50,51,52,53,54,55,56,57,58,59,60,61,62,63,64,65,66,67,68,69,70,71,72,73,74,75,76,77,78,79,80,81,82,83,84,85,86,87,88,89,90,91,92,93,94,95,96,97,98,99,100,101,102,103,104,105,106,107,108,109,110,111,112,113,114,115,116,117,118,119,120,121,122,123,124,125,126,127,128,129] (fun (i:Nat)=>i<=p.gens.length/\p.gens.all (fun g=>decide (1<=g/\g<=3))=(p.gens.drop i).all (fun g=>decide (1<=g/\g<=3))) (fun i=>[(36,dI i)]) (fun _=>V) (fun i=>p.gens.length-i) (0) td3 (fun i hI =>?_)
   obtain⟨hi,hA⟩:=hI
   by_cases hil:i<p.gens.length
   ·rw[A0 hil,List.all_cons]at hA
    by_cases hq:1<=p.gens[i]/\p.gens[i]<=3
    ·rw[decide_eq_true hq,Bool.true_and]at hA
     try refine gz ?_ o79
     exact⟨i+1,⟨by omega,hA⟩,td1,wkR⟩
    ·rw[decide_eq_false hq,Bool.false_and]at hA
     have hL:D0 p=none:=by rw[hL0,hA];rfl
     repeat' first|(exact finP (S':=V) (hpan hL _ _ (Keep.refl _ _) hio))|refine gz ?_ o79|apply gy<;>intro hh
     all_goals (exfalso;omega)
   ·rw [A1 hil,List.all_nil] at hA
    rw[hA,if_pos rfl]at hL0
    have hall:=hA
    try refine gz ?_ o79
    refine callWP (VY p.nodes.length V (by omega) (by omega)) (fun d S' hr =>?_) (fun d S' hr=>by obtain⟨r,_,h,_⟩:=hr;cases h)
    obtain⟨r,hr0,h1,rfl⟩:=hr
    simp only[DE.ret.injEq]at h1
    subst h1
    have hior:io≠r:=fun e=>by rw[e,hr0]at hio;cases hio
    have hof:(ownersF p.classes 0).length<=40:=hW.few
    try refine gf (gi hio hior) ?_ o79
    refine D6 [0,1,4,5,57,58,122,123,124,125,126,127,128,129] (fun (i:Nat) (s:List Int) (S1:Sig)=>i<=p.methods.length/\s.length=p.nodes.length/\Keep (· = io) V S1/\S1 io=some (.cells [.sref r 0 p.nodes.length p.nodes.length])/\S1 r=some (.cells (s.map dI))/\Dp p p.methods (List.replicate p.nodes.length (-1))=Dp p (p.methods.drop i) s) (fun i _ _=>[(59,dI i)]) (fun _ _ S1=>S1) (fun i _ _=>p.methods.length-i) (0) (List.replicate p.nodes.length (-1)) (_) (by exact⟨by omega,by simp,((Keep.refl _ V).fresh hr0).trans (fun j o h1 h2=>by rw[w8 _ _ h2];exact h1),w7 .., by rw[w8 _ _ (Ne.symm hior),w7],rfl⟩) (fun i s S1 hI =>?_)
    clear hil
    obtain⟨hi,hsl,hK1,hio1,hr1,hM⟩:=hI
    by_cases hil:i<p.methods.length
    ·rw [A0 hil,Dp] at hM
     have hmw:=p6 i hil
     generalize hm:p.methods[i]=m at *
     have hfw:m.fact.wt<=1073741824:=by unfold BMeth.wt at hmw;omega
     have hsz:=Fact.size_le m.fact
     cases hok:Ep p m with
     | false =>
      rw[hok]at hM
      have hL:D0 p=none:=by rw[hL0,hM];rfl
      repeat' first|(exact finP (S':=S1) (hpan hL _ _ hK1 hio1))|refine gf hm ?_ o79|apply gy<;>intro hh
      all_goals
       exfalso
       rename_i k1 k2 k3 k4 k5 k6
       revert hok
       simp only[Ep]
       rw[decide_eq_true (by omega),decide_eq_true (by omega),k5,decide_eq_true (by rw[List.getD_eq_getElem?_getD,List.getElem?_eq_getElem (by omega)];exact k6)]
       simp
     | true =>
      rw[hok,if_pos rfl]at hM
      simp only[Ep,Bool.and_eq_true,decide_eq_true_eq]at hok
      obtain⟨⟨⟨hk,hgn⟩,hfp⟩,hsp⟩:=hok
      have hgg:p.gens.getD m.gen.toNat 0=p.gens[m.gen.toNat]'(by omega):=by rw[List.getD_eq_getElem?_getD,List.getElem?_eq_getElem (by omega)];rfl
      rw[hgg]at hsp hM
      have hg3:1<=p.gens[m.gen.toNat]'(by omega)/\p.gens[m.gen.toNat]'(by omega)<=3:=by
       have:=List.all_eq_true.1 hall _ (List.getElem_mem (show m.gen.toNat<p.gens.length by omega))
       simpa using this
      repeat' first|refine gf (gi hm hfp) ?_ o79|apply gy<;>intro hh
      ·have hb:(decide (m.kind=1)||decide (m.kind=4))=true:=by simp[hh]
       rw[hb]at hM
       refine Ab (LY p io r (true) m.node (p.gens[m.gen.toNat]'(by omega)) s S1 hp hio1 hr1 hsl hior (by omega) (by omega)) (fun d S' hr =>?_) (fun d S' hr =>?_)
       ·obtain⟨s',hs',rfl,⟨q1,q2,q3⟩,_⟩:=hr.ret
        rw[hs']at hM
        try refine gz ?_ o79
        exact⟨i+1,s',S',⟨by omega,q2,fun j o h1 h2=>q3 j o (hK1 j o h1 h2) (fun e=>by rw[e,hr0]at h1;cases h1),q3 io _ hio1 hior,q1,hM⟩,td1,wkR⟩
       ·obtain⟨hn,rfl,hb⟩:=hr.pan
        rw[hn]at hM
        exact finP (S':=S') (hpan (by rw[hL0,hM]) _ _ (fun j o h1 h2=>hb j o (hK1 j o h1 h2) (fun e=>by rw[e,hr0]at h1;cases h1)) (hb io _ hio1 hior))
      ·have hb:(decide (m.kind=1)||decide (m.kind=4))=decide (m.kind=4):=by simp[hh]
       rw[hb]at hM
       refine Ab (LY p io r (decide (m.kind=4)) m.node (p.gens[m.gen.toNat]'(by omega)) s S1 hp hio1 hr1 hsl hior (by omega) (by omega)) (fun d S' hr =>?_) (fun d S' hr =>?_)
       ·obtain⟨s',hs',rfl,⟨q1,q2,q3⟩,_⟩:=hr.ret
        rw[hs']at hM
        try refine gz ?_ o79
        exact⟨i+1,s',S',⟨by omega,q2,fun j o h1 h2=>q3 j o (hK1 j o h1 h2) (fun e=>by rw[e,hr0]at h1;cases h1),q3 io _ hio1 hior,q1,hM⟩,td1,wkR⟩
       ·obtain⟨hn,rfl,hb⟩:=hr.pan
        rw[hn]at hM
        exact finP (S':=S') (hpan (by rw[hL0,hM]) _ _ (fun j o h1 h2=>hb j o (hK1 j o h1 h2) (fun e=>by rw[e,hr0]at h1;cases h1)) (hb io _ hio1 hior))
    ·rw[A1 hil,Dp]at hM
     rw[hM]at hL0
     simp only at hL0
     try refine gz ?_ o79
     refine Ab (LY p io r false p.main 0 s S1 hp hio1 hr1 hsl hior (by omega) (by omega)) (fun d S' hr =>?_) (fun d S' hr =>?_)
     ·obtain⟨s2,hs2,rfl,⟨q1,q2,q3⟩,_⟩:=hr.ret
      rw[hs2]at hL0
      simp only at hL0
      have hK2:Keep (· = io) V S':=fun j o h1 h2=>q3 j o (hK1 j o h1 h2) (fun e=>by rw[e,hr0]at h1;cases h1)
      have hio2:=q3 io _ hio1 hior
      have hsig:S'=mS (S'.del r) (some (r,p.nodes.length,[])) (cI s2):=by
       funext j
       by_cases hj:j=r
       ·subst hj;rw[mS,w7,q1,DY,List.append_nil]
       ·rw[mS,w8 _ _ hj];simp[Sig.del,hj]
      rw[hsig]
      have hdio:(S'.del r) io=some (.cells ([]++mD (some (r,p.nodes.length,[])) (cI s2).length::[])):=by
       simp only[Sig.del,hior,if_false,mD,Ia,q2];exact hio2
      have hmo:mOK (S'.del r) 1 (some (r,p.nodes.length,[])) (cI s2):=⟨by simp[Sig.del],by rw[DY];simp[q2],by simp[q2],BQ _⟩
      have hK3:Keep (· = io) V ((S'.del r).set io (.cells [sl (cI s2)])):=fun j o h1 h2=>by
       have hjr:¬j=r:=fun e=>by rw[e,hr0]at h1;cases h1
       rw[w8 _ _ h2]
       simp only[Sig.del,hjr,if_false]
       exact hK2 j o h1 h2
      refine mfrC [] [] ?_ hdio hmo
      simp only[List.nil_append]
      by_cases hm1 : -1∈s2
      ·rw[if_pos hm1]at hL0
       repeat' first|(exact finP (S':=(S'.del r).set io (.cells [sl (cI s2)])) (hpan hL0 _ _ hK3 (w7 ..)))|refine gf hm1 ?_ o79|apply gy<;>intro hh
      ·rw[if_neg hm1]at hL0
       try refine gf hm1 ?_ o79
       refine Eb (S':=(S'.del r).set io (.cells [sl (cI s2)])) ?_
       exact⟨hK3,⟨_,w7 ..⟩,by rw[hL0];exact⟨rfl,w7 ..⟩⟩
     ·obtain⟨hn,rfl,hb⟩:=hr.pan
      rw[hn]at hL0
      exact finP (S':=S') (hpan hL0 _ _ (fun j o h1 h2=>hb j o (hK1 j o h1 h2) (fun e=>by rw[e,hr0]at h1;cases h1)) (hb io _ hio1 hior))
  ·have hL:D0 p=none:=by unfold D0;rw[if_neg];simp only[Bool.and_eq_true,decide_eq_true_eq];omega
   repeat' first|(exact finP (S':=V) (hpan hL _ _ (Keep.refl _ _) hio))|refine gf hc ?_ o79|apply gy<;>intro hh
   all_goals (exfalso;omega)
theorem Nk(p:BProg)(V:Sig)(hp:p.wt<=1073741824):DCall prog 42 [.agg (Am p)] V fun x S'=>(∃d,x=.ret (.tup [d,.bool (D0 p).isSome]) /\ ∀s,D0 p=some s->d=sl (cI s))/\S'=V:=by
 refine en func42 ntmps42 ?_
 try refine gz ?_ [] [4]
 refine newV (fun io hio =>?_)
 try refine gz ?_ [] [4]
 refine Ab (W1 79 [.cptr (Am p) 0,.ptr io 0] (V.set io (.cells [.nils])) (fun S1=>SzR p io S1) (fun i hi=>T4 p io _ hp (by rw[w8 _ _ fun e=>by rw[e]at hi;rw[w7 ..]at hi;cases hi];exact w7 ..)) (fun S1 d S2 h =>?_) (fun i S2 x hi h=>h.1 i _ (w7 ..) (fun e=>by rw[e,w7]at hi;cases hi))) (fun d S' hr =>?_) (fun d S' hr =>?_)
 ·obtain⟨_,_,h⟩:=h
  split at h
  ·simpa using h
  ·exact absurd h.1 (by simp)
 ·obtain⟨i,S2,hi,rfl,hr⟩:=hr
  rcases hr with⟨e,⟨hK,⟨d0,hd0⟩,h⟩,h2⟩|⟨⟨hK,⟨d0,hd0⟩,h⟩,h2⟩
  ·simp only[DE.ret.injEq]at h2
   subst h2
   cases hL:D0 p with
   |none=>rw[hL]at h;exact absurd h (by simp)
   | some s =>
    rw[hL]at h
    obtain⟨_,hio2⟩:=h
    have hii:io≠i:=fun e=>by rw[<-e,w7]at hi;cases hi
    have hio3:(S2.del i) io=some (.cells [sl (cI s)]):=by simp only[Sig.del,hii,if_false];exact hio2
    try refine gf hio3 ?_ [] [4]
    refine fin2 (S':=V) ?_ (hZ := ?_)
    ·exact⟨⟨_,rfl,fun s' h=>by cases h;rfl⟩,rfl⟩
    ·intro j o hj
     have e1:j≠io:=fun e=>by rw[e,hio]at hj;cases hj
     have e2:=hK j o (by rw[w8 _ _ (fun e=>by rw[e]at hj;rw[w8 _ _ (Ne.symm hii),hj]at hi;cases hi),w8 _ _ e1];exact hj) e1
     simp only[Sig.del]
     rw[if_neg (fun e=>by rw[e]at hj;rw[w8 _ _ (Ne.symm hii),hj]at hi;cases hi)]
     exact e2
  ·simp only[DE.ret.injEq]at h2
   subst h2
   have hii:io≠i:=fun e=>by rw[<-e,w7]at hi;cases hi
   have hio3:(S2.del i) io=some (.cells [d0]):=by simp only[Sig.del,hii,if_false];exact hd0
   have hL:D0 p=none:=by
    cases hL:D0 p with
    |none=>rfl
    |some s=>rw[hL]at h;exact absurd h.1 (by simp)
   rw[hL]
   try refine gf hio3 ?_ [] [4]
   refine fin2 (S':=V) ?_ (hZ := ?_)
   ·exact⟨⟨_,rfl,fun s' h=>by cases h⟩,rfl⟩
   ·intro j o hj
    have e1:j≠io:=fun e=>by rw[e,hio]at hj;cases hj
    have e2:=hK j o (by rw[w8 _ _ (fun e=>by rw[e]at hj;rw[w8 _ _ (Ne.symm hii),hj]at hi;cases hi),w8 _ _ e1];exact hj) e1
    simp only[Sig.del]
    rw[if_neg (fun e=>by rw[e]at hj;rw[w8 _ _ (Ne.symm hii),hj]at hi;cases hi)]
    exact e2
 ·obtain⟨i,S2,hi,rfl,hr⟩:=hr
  rcases hr with⟨e,_,h2⟩|⟨_,h2⟩<;>cases h2
theorem Vf{a b:List D}(h:WkL a b):WkD (.agg a) (.agg b):=fun _ _ ⟨vs,e,hr⟩=>⟨vs,e,h.rep hr⟩
theorem Gs{a b:List D}(h:WkL a b):WkD (.tup a) (.tup b):=fun _ _ ⟨vs,e,hr⟩=>⟨vs,e,h.rep hr⟩
def okP(p:BProg):Bool:=(D0 p).isSome
theorem GF{p:BProg}(h:okP p=true):Ar p=true:=by
 unfold okP D0 at h
 cases hc:Ar p
 ·rw[hc]at h;simp at h
 ·rfl
theorem M6(p:BProg)(V:Sig)(hp:p.wt<=1073741824:=by exact sd):DCall prog 13 [.agg (Am p)] V (rS (dI (if okP p then 0 else 2)) V):=by
 refine en func13 ntmps13 ?_
 try refine gz ?_
 refine Ab (Nk p V hp) (fun d S' hr =>?_) (fun d S' hr=>by obtain⟨⟨_,h,_⟩,_⟩:=hr;cases h)
 obtain⟨⟨d,h1,h2⟩,h3⟩:=hr
 simp only[DE.ret.injEq]at h1
 subst h1
 rw[h3]
 cases hk:okP p<;>unfold okP at hk<;>rw[hk]
 ·try refine gz ?_
  exact fe1 trivial
 ·try refine gz ?_
  exact fe1 trivial
@[reducible,instance] def a13:=fun p V=>ah1 (@M6 p V)
theorem PM(p:BProg)(V:Sig)(hp:p.wt<=1073741824:=by exact sd):DCall prog 11 [.agg (Am p)] V (rS (.tup [sl (cI ((D0 p).getD [])),dI (NJ (D0 p))]) V):=by
 refine en func11 ntmps11 ?_
 try refine gz ?_
 refine Ab (Nk p V hp) (fun d S' hr =>?_) (fun d S' hr=>by obtain⟨⟨_,h,_⟩,_⟩:=hr;cases h)
 obtain⟨⟨d,h1,h2⟩,h3⟩:=hr
 simp only[DE.ret.injEq]at h1
 subst h1
 rw[h3]
 cases hL:D0 p with
 |none =>
  try refine gz ?_
  (refine fin2 (S':=V) (d':=sl []) ?_;exact⟨by first|rfl|(simp[NJ];done)|(simp_all [NJ];done)|(rw[A7,Bool.eq_iff_iff];simp_all [NJ]<;>omega),rfl⟩)
 |some s =>
  obtain rfl:=h2 s hL
  try refine gz ?_
  (refine fin2 (S':=V) (d':=sl (cI s)) ?_;exact⟨by first|rfl|(simp[NJ];done)|(simp_all [NJ];done)|(rw[A7,Bool.eq_iff_iff];simp_all [NJ]<;>omega),rfl⟩)
@[reducible,instance] def a11:=fun p V=>ah1 (@PM p V)
theorem W6(p:BProg)(c:Int)(V:Sig)(hp:p.wt<=1073741824:=by exact sd):DCall prog 61 [.agg (Am p),dI c] V (rS (.bool (ownF p c&&okP p)) V):=by
 obtain⟨p1,p2,p3,p4,p5,p6,p7⟩:=p.wt_le
 refine en func61 ntmps61 ?_
 cases hk:okP p
 ·repeat' first|refine gf hk ?_|apply gy<;>intro hh
  any_goals (first|(refine fin1 (S':=V) ?_;exact⟨by first|rfl|(simp[ownF];done)|(simp_all [ownF];done)|(rw[A7,Bool.eq_iff_iff];simp_all [ownF]<;>omega),rfl⟩)|fail)
 ·repeat' first|refine gf hk ?_|apply gy<;>intro hh
  any_goals (first|(refine fin1 (S':=V) ?_;exact⟨by first|rfl|(simp[ownF];done)|(simp_all [ownF];done)|(rw[A7,Bool.eq_iff_iff];simp_all [ownF]<;>omega),rfl⟩)|fail)
@[reducible,instance] def a61:=fun p c V=>ah1 (@W6 p c V)
theorem PI(p:BProg)(c:Int)(V:Sig)(hp:p.wt<=1073741824:=by exact sd):DCall prog 23 [.agg (Am p),dI c] V (rS (.tup [sl (cI (if ownF p c&&okP p then hasP p c else [])),dI (if ownF p c&&okP p then 0 else 2)]) V):=by
 refine en func23 ntmps23 ?_
 cases hk:ownF p c&&okP p
 ·try refine gf hk ?_
  exact fe2 (d':=sl []) trivial
 ·have ho:3<=c/\c<3+p.classes.length:=by simp only[ownF,Bool.and_eq_true,decide_eq_true_eq]at hk;exact hk.1
  obtain⟨h1,h2⟩:=ho
  try refine gf hk ?_
  exact fe2 trivial
@[reducible,instance] def a23:=fun p c V=>ah1 (@PI p c V)
theorem PF(p:BProg)(V:Sig)(hp:p.wt<=1073741824:=by exact sd):DCall prog 37 [.agg (Am p)] V (rS (.tup [.agg (Da (if okP p then AR p else⟨[],[]⟩)),dI (if okP p then 0 else 2)]) V):=by
 obtain⟨p1,p2,p3,p4,p5,p6,p7⟩:=p.wt_le
 refine en func37 ntmps37 ?_
 try refine gz ?_ [] [2]
 refine newV (fun i hi =>?_)
 repeat' first|refine gz ?_ [] [2]|apply gy<;>intro hh
 ·rw[hh]
  refine finC (S':=V) (d := .tup [.agg (Da ⟨[],[]⟩),dI 2]) ⟨rfl,rfl⟩ (hw := ?_)
  exact Gs ⟨Vf ⟨Al _ (.inl rfl),Al _ (.inl rfl),trivial⟩,A8 _,trivial⟩
 ·have hW:=RA hp (GF hh)
  have hof:(ownersF p.classes 0).length<=40:=hW.few
  have hwc:∀c∈p.classes,c.parents.length<=1073741824/\c.slots.length<=1073741824:=fun c hc=>by
   obtain⟨k,hk,rfl⟩:=List.getElem_of_mem hc
   have:=p5 k hk
   unfold BClass.wt at this;omega
  have hwp:∀c∈p.classes,c.parents.length<=1073741824:=fun c hc=>(hwc c hc).1
  have hws:∀c∈p.classes,c.slots.length<=1073741824:=fun c hc=>(hwc c hc).2
  rw[hh]
  try refine gz ?_ [] [2]
  refine finC (S':=V) (d := .tup [.agg (Da (AR p)),dI 0]) ⟨rfl,rfl⟩
@[reducible,instance] def a37:=fun p V=>ah1 (@PF p V)
end Go.DL
