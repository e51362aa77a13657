/- A part of the proof. -/
import Derived.Test.YtlfimpogphmbdaaGreatQ16
set_option linter.all false
namespace Go.DL
open Go.Proofs.Tryz
open Go Go.Proofs
set_option maxHeartbeats 8000000
def wObj(w:World)(us:fF):DObj:=.cells (sl (cII w.ag)::sl (cI w.owner)::us.map (D.int .u64))
def Nt(w:World)(l:fF):Bool:=decide (l.length<=2)&&l.all (fun c=>decide (0<=c/\c<w.owner.length))
section
variable (w:World)(us:fF)(iw:Nat)(V:Sig)(hw:V iw=some (wObj w us))
include hw
theorem Lo(c:Int)(hl:w.ag.length<=1073741824):au prog 269 [.ptr iw 0,dI c] V (rS (.bool (decide (3<=c/\c<3+w.ag.length))) V):=by
 unfold wObj at hw
 refine en func269 ntmps269 ?_
 repeat' first|refine gf hw ?_|apply gy<;>intro hh
 any_goals (first|exact fe1 trivial|fail)
theorem Lg(c:Int)(hl:w.owner.length<=1073741824):au prog 311 [.ptr iw 0,dI c] V (rS (.bool (decide (0<=c/\c<w.owner.length))) V):=by
 unfold wObj at hw
 refine en func311 ntmps311 ?_
 repeat' first|refine gf hw ?_|apply gy<;>intro hh
 any_goals (first|exact fe1 trivial|fail)
theorem Li(c:Int)(hl:w.ag.length<=1073741824):au prog 300 [.ptr iw 0,dI c] V (rS (.bool (decide (0<=c/\c<3+w.ag.length))) V):=by
 unfold wObj at hw
 refine en func300 ntmps300 ?_
 repeat' first|refine gf hw ?_|apply gy<;>intro hh
 any_goals (first|exact fe1 trivial|fail)
theorem Lj(l:fF)(o:Own)(hl:w.owner.length<=1073741824)(gJ:l.length<=1073741824):au prog 299 [.ptr iw 0,.slice (cI l) o] V (rS (.bool (Nt w l)) V):=by
 refine en func299 ntmps299 ?_
 repeat' first|refine gz ?_|refine EU (Gn l (fun c=>decide (0<=c/\c<w.owner.length)) 311 [.ptr iw 0] [] _ _ gJ (fun x _=>Lg w us iw _ hw x hl)) ?_|refine callPG (Gn l (fun c=>decide (0<=c/\c<w.owner.length)) 311 [.ptr iw 0] [] _ _ gJ (fun x _=>Lg w us iw _ hw x hl)) ?_|refine gz ?_|apply gy<;>intro hh
 any_goals (first|(refine fin1 (S':=V) ?_;exact⟨by first|rfl|(simp[Nt];done)|(simp_all [Nt];done)|(rw[A5,aO];simp_all [Nt]<;>omega),rfl⟩)|fail)
end
def I8(w:World)(f:Fact):Bool:=decide (0<=f.arg/\f.arg<3)&&Nt w f.path &&
 (if f.op=2 then decide (f.n=0)&&decide (0<=f.cls/\f.cls<3+w.ag.length) else decide (f.cls=0)&&inB f.n)
def Dx(w:World):Nat->Fact->Int->Bool×Int
 |0,_,s=>(false,IntKind.i64.wrap (s-1))
 |d+1,f,s=>
  if IntKind.i64.wrap (s-1)<0\/f.op<1\/7<f.op\/f.ah.length≠By f.op then(false,IntKind.i64.wrap (s-1)) else
  if C9 f.op then(I8 w f,IntKind.i64.wrap (s-1)) else
  if f.arg=0/\f.path.length=0/\f.cls=0/\f.n=0 then allS (Dx w d) f.ah (IntKind.i64.wrap (s-1)) else(false,IntKind.i64.wrap (s-1))
theorem Rv(iw il d:Nat)(x:Fact)(b:Bool)(G:Sig->Prop)(V:Sig)(hd:d<=1000)(h:au prog 272 [.ptr iw 0,.agg (AS x),.ptr il 0,dI d] V fun r S'=>r=.ret (.bool b)/\G S'):
  au prog 301 [.agg (AS x),.am [.ptr iw 0] 0,.am [.ptr il 0] 0,.am [dI ((d:Int)+1)] 0] V fun r S'=>r=.ret (.bool b)/\G S':=by
 refine en func301 ntmps301 ?_
 refine gf (show((d:Int)+1-1)=d by omega) ?_
 refine Ac h (fun e S2 hr=>?_) (fun e S2 hr=>by cases hr.1)
 obtain⟨h1,h2⟩:=hr
 simp only[DE.ret.injEq]at h1
 subst h1
 refine gz ?_
 refine fin1 (S':=S2) ?_
 exact⟨rfl,h2⟩
theorem Uu(w:World)(us:fF)(iw il:Nat)(S0:Sig)(hw:S0 iw=some (wObj w us))(hne:iw≠il)(f7:w.ag.length<=1073741824)(f9:w.owner.length<=1073741824):
  ∀(d:Nat) (f:Fact) (s:Int) (V:Sig),d<=1000->f.wt<=1073741824->Keep (· = il) S0 V->V il=some (.cells [dI s])->
   au prog 272 [.ptr iw 0,.agg (AS f),.ptr il 0,dI d] V fun x S'=>x=.ret (.bool (Dx w d f s).1)/\(Keep (· = il) S0 S'/\S' il=some (.cells [dI (Dx w d f s).2])):=by
 intro d
 have fL:∀(V:Sig) (o:DObj),Keep (· = il) S0 V->Keep (· = il) S0 (V.set il o):=fun V o h j x h1 h2=>by rw[w8 _ _ h2];exact h j x h1 h2
 induction d with
 |zero=>
  intro f s V hd hf hK hs
  have fL:=fun o=>fL V o hK
  refine en func272 ntmps272 ?_
  repeat' first|(refine fin1 (S':=V.set il (.cells [dI (IntKind.i64.wrap (s-1))])) ?_;exact⟨rfl,fL _,w7 ..⟩)|refine gf hs ?_ o272|apply gy<;>intro hh
 | succ d ih =>
  intro f s V hd hf hK hs
  have fL:=fun o=>fL V o hK
  obtain⟨w1,w2,w3⟩:=f.wt_le
  have je:(By f.op:Int)<=2:=by unfold By;split<;>(try split)<;>omega
  have gu:(V.set il (.cells [dI (IntKind.i64.wrap (s-1))])) iw=some (wObj w us):=fL _ iw _ hw hne
  refine en func272 ntmps272 ?_
  by_cases fJ:IntKind.i64.wrap (s-1)<0\/f.op<1\/7<f.op\/f.ah.length≠By f.op
  ·have hN:Dx w (d+1) f s=(false,IntKind.i64.wrap (s-1)):=by rw[Dx,aS fJ]
   rw[hN]
   repeat' first|(refine fin1 (S':=V.set il (.cells [dI (IntKind.i64.wrap (s-1))])) ?_;exact⟨rfl,fL _,w7 ..⟩)|refine gf hs ?_ o272|apply gy<;>intro hh
   all_goals (exfalso;simp_all;omega)
  ·have hN:Dx w (d+1) f s=if C9 f.op then(I8 w f,IntKind.i64.wrap (s-1)) else if f.arg=0/\f.path.length=0/\f.cls=0/\f.n=0 then allS (Dx w d) f.ah (IntKind.i64.wrap (s-1)) else(false,IntKind.i64.wrap (s-1)):=by rw[Dx,aN fJ]
   have b1:¬IntKind.i64.wrap (s-1)<0:=fun h=>fJ (.inl h)
   have b2:¬f.op<1:=fun h=>fJ (.inr (.inl h))
   have b3:¬7<f.op:=fun h=>fJ (.inr (.inr (.inl h)))
   have b4:f.ah.length=By f.op:=by omega
   cases ga:C9 f.op with
   | true =>
    rw[ga,aS rfl]at hN
    rw[hN]
    repeat' first|refine gf (gi hs (gi b1 (gi b4 ga))) ?_|refine EU (Lj w us iw _ gu f.path .no f9 (by omega)) ?_|refine callPG (Lj w us iw _ gu f.path .no f9 (by omega)) ?_|refine EU (Li w us iw _ gu f.cls f7) ?_|refine callPG (Li w us iw _ gu f.cls f7) ?_|refine gf (gi hs (gi b1 (gi b4 ga))) ?_ o272|apply gy<;>intro hh
    all_goals
     refine fin1 (S':=V.set il (.cells [dI (IntKind.i64.wrap (s-1))])) ?_
     refine⟨?_,fL _,w7 ..⟩
     first|(simp_all [I8,inB];done)|(rw[show DE.ret (D.bool (I8 w f,IntKind.i64.wrap (s-1)).1)=DE.ret (D.bool (I8 w f)) from rfl,A5,aO];simp_all [I8,inB];done)|(rw[show DE.ret (D.bool (I8 w f,IntKind.i64.wrap (s-1)).1)=DE.ret (D.bool (I8 w f)) from rfl,A5,aO];simp_all [I8,inB];omega)
   | false =>
    rw[ga,aN (by simp)]at hN
    rw[hN]
    by_cases h0:f.arg=0/\f.path.length=0/\f.cls=0/\f.n=0
    ·rw[aS h0]
     repeat' first|refine gf (gi hs (gi b1 (gi b4 ga))) ?_ o272|apply gy<;>intro hh
     all_goals try (exfalso;omega)
     have iL:∀x∈f.ah,x.wt<=1073741824:=fun x hx=>by obtain⟨k,hk,rfl⟩:=bh hx;have:=w3 k hk;omega
     refine Ac (Ob f.ah (Dx w d) 301 [] [.am [.ptr iw 0] 0,.am [.ptr il 0] 0,.am [dI ((d:Int)+1)] 0] .no (fun S' s'=>Keep (· = il) S0 S'/\S' il=some (.cells [dI s'])) (by omega) (fun x hx S' s' hG=>Rv iw il d x _ _ S' (by omega) (ih x s' S' (by omega) (iL x hx) hG.1 hG.2)) _ (IntKind.i64.wrap (s-1)) ⟨fL _,w7 ..⟩) (fun e S2 hr=>?_) (fun e S2 hr=>by cases hr.1)
     obtain⟨h1,h2⟩:=hr
     simp only[DE.ret.injEq]at h1
     subst h1
     refine gz ?_ o272
     refine fin1 (S':=S2) ?_
     exact⟨rfl,h2⟩
    ·rw[aN h0]
     repeat' first|(refine fin1 (S':=V.set il (.cells [dI (IntKind.i64.wrap (s-1))])) ?_;exact⟨rfl,fL _,w7 ..⟩)|refine gf (gi hs (gi b1 (gi b4 ga))) ?_ o272|apply gy<;>intro hh
     all_goals (exfalso;omega)
def Dp(w:World)(f:Fact):Bool:=(Dx w 12 f 24).1
theorem RF(w:World)(us:fF)(iw:Nat)(f:Fact)(V:Sig)(hw:V iw=some (wObj w us))(f7:w.ag.length<=1073741824)(f9:w.owner.length<=1073741824)(hf:f.wt<=1073741824):
  au prog 271 [.agg (AS f),.am [.ptr iw 0] 0] V (rS (.bool (Dp w f)) V):=by
 refine en func271 ntmps271 ?_
 refine gz ?_ [] [4]
 refine newV (fun il e7=>?_)
 have hne:iw≠il:=fun e=>by rw[e,e7]at hw;cases hw
 refine gz ?_ [] [4]
 refine Ac (Uu w us iw il V hw hne f7 f9 12 f 24 (V.set il (.cells [dI 24])) (by omega) hf ((Keep.refl _ V).fresh e7) (w7 ..)) (fun e S2 hr=>?_) (fun e S2 hr=>by cases hr.1)
 obtain⟨h1,h2,h3⟩:=hr
 simp only[DE.ret.injEq]at h1
 subst h1
 refine gz ?_ [] [4]
 refine fin1 (S':=V) ?_ (hZ:=fun j o hj=>h2 j o hj (fun e=>by rw[e,e7]at hj;cases hj))
 exact⟨rfl,rfl⟩
theorem P1{α:Type}(q:α->Bool): ∀l:List α,allS (fun x (_:Unit)=>(q x,())) l ()=(l.all q,())
 |[]=>rfl
 |x::r=>by
  rw[allS,bV]
  cases h:q x
  ·simp
  ·simp only[aW];exact P1 q r
theorem Lu(w:World)(us:fF)(iw:Nat)(l:List Fact)(o:Own)(V:Sig)(hw:V iw=some (wObj w us))(f7:w.ag.length<=1073741824)(f9:w.owner.length<=1073741824)(hl:l.length<=1073741824)(hf:∀f∈l,f.wt<=1073741824):
  au prog 229 [.ptr iw 0,.slice (l.map AS) o] V (rS (.bool (l.all (Dp w))) V):=by
 refine en func229 ntmps229 ?_
 refine gz ?_
 refine Ac (Ob l (fun x (_:Unit)=>(Dp w x,())) 271 [] [.am [.ptr iw 0] 0] o (fun S' _=>S'=V) hl (fun x hx S' s' hG=>by rw[hG];exact RF w us iw x V hw f7 f9 (hf x hx)) _ () rfl) (fun e S2 hr=>?_) (fun e S2 hr=>by cases hr.1)
 obtain⟨h1,h2⟩:=hr
 simp only[DE.ret.injEq]at h1
 subst h1
 rw[show S2=V from h2]
 refine gz ?_
 rw[P1]
 exact fe1 trivial
theorem Lp(s c:Int)(V:Sig)(hc:0<=c):au prog 267 [.int .u64 s,dI c] V fun x S'=>(∃n:Int,x=.ret (.int .u64 n))/\S'=V:=by
 refine en func267 ntmps267 ?_
 try refine gf (R4 .u64 .i64 1 c hc) ?_
 refine fin1 (S':=V) ?_
 exact⟨⟨_,rfl⟩,rfl⟩
theorem PN(w:World)(us:fF)(c:Nat)(n:Int)(h:c<us.length):DObj.cells (List.take (2+c) (sl (cII w.ag)::sl (cI w.owner)::List.map (D.int IntKind.u64) us)++D.int IntKind.u64 n::List.drop (2+c) (sl (cI w.owner)::List.map (D.int IntKind.u64) us))=wObj w (us.set c n):=by
 rw[show 2+c=c+1+1 by omega];simp only[List.take_succ_cons,List.drop_succ_cons,bl];unfold wObj;rw[eH,cr,aS (by simpa using h)]
theorem RN(w:World)(V:Sig)(hg:Bu w.ag=true)(gK:∀x∈w.ag,x.length<=1073741824)(ho:w.owner.length<=40)(iE:∀c∈w.owner,3<=c/\c<3+w.ag.length):
  au prog 228 [.agg (C8 w)] V fun x S'=> ∃iw us,V iw=none/\x=.ret (.tup [.ptr iw 0,.bool true])/\S'=V.set iw (wObj w us):=by
 have hlen:=DU hg
 refine en func228 ntmps228 ?_
 repeat ((fail_if_success (first|(refine boxV (T:=345) (fun iw gO=>?_))|fail));(refine goX1 trivial ?_))
 refine boxV (T:=345) (fun iw gO=>?_)
 have e0:wObj w (List.replicate 63 0)=.cells [sl (cII w.ag),sl (cI w.owner),.int .u64 0,.int .u64 0,.int .u64 0,.int .u64 0,.int .u64 0,.int .u64 0,.int .u64 0,.int .u64 0,.int .u64 0,.int .u64 0,.int .u64 0,.int .u64 0,.int .u64 0,.int .u64 0,.int .u64 0,.int .u64 0,.int .u64 0,.int .u64 0,.int .u64 0,.int .u64 0,.int .u64 0,.int .u64 0,.int .u64 0,.int .u64 0,.int .u64 0,.int .u64 0,.int .u64 0,.int .u64 0,.int .u64 0,.int .u64 0,.int .u64 0,.int .u64 0,.int .u64 0,.int .u64 0,.int .u64 0,.int .u64 0,.int .u64 0,.int .u64 0,.int .u64 0,.int .u64 0,.int .u64 0,.int .u64 0,.int .u64 0,.int .u64 0,.int .u64 0,.int .u64 0,.int .u64 0,.int .u64 0,.int .u64 0,.int .u64 0,.int .u64 0,.int .u64 0,.int .u64 0,.int .u64 0,.int .u64 0,.int .u64 0,.int .u64 0,.int .u64 0,.int .u64 0,.int .u64 0,.int .u64 0,.int .u64 0,.int .u64 0]:=rfl
 rw[<-e0]
 clear e0
 try refine gz ?_ o228
 refine AB [1,2,3,4,6,7,8,9,10,35,36,37,38,39,40,41,42,43,44,45,46,47,48,49,50,51,52,53,54,55,56,57,58,59,60,61,62,63,64,65,66,67,68,69,70,71,72,73,74,75,76,77,78,79,80,81,82,83,84,85,86,87,88,89,90] (fun (c:Nat) (us:fF)=>c<=3/\us.length=63) (fun c _=>[(24,dI c)]) (fun _ us=>V.set iw (wObj w us)) (fun c _=>3-c) (0) (List.replicate 63 0) (by simp) (fun c us hI=>?_)
 obtain⟨hc,gZ⟩:=hI
 have gr:wObj w us=.cells (sl (cII w.ag)::sl (cI w.owner)::us.map (D.int .u64)):=rfl
 by_cases jf:c<3
 ·try refine gz ?_ o228
  refine C1 (Lp 1 c _ (by omega)) (fun d S' h=>?_) (fun d S' h=>by obtain⟨⟨n,h⟩,_⟩:=h;cases h)
  obtain⟨⟨n,h⟩,rfl⟩:=h
  simp only[DE.ret.injEq]at h
  subst h
  refine⟨Sub.refl _,?_⟩
  try refine gf gr ?_ o228
  rw[PN _ _ _ _ (by omega)]
  exact⟨c+1,us.set c n,by simp;omega,td1,wkR⟩
 ·try refine gz ?_ o228
  refine AB [1,4,36,37,85,86,87,88,89,90] (fun (i:Nat) (us:fF)=>i<=w.ag.length/\us.length=63) (fun i _=>[(38,dI i)]) (fun _ us=>V.set iw (wObj w us)) (fun i _=>w.ag.length-i) (0) (us) (by exact⟨by omega,gZ⟩) (fun i us hI=>?_)
  obtain⟨hi,gZ⟩:=hI
  have gr:wObj w us=.cells (sl (cII w.ag)::sl (cI w.owner)::us.map (D.int .u64)):=rfl
  by_cases e7:i<w.ag.length
  ·have gh:=FT (by simpa[Bu] using hg:w.ag.length<=16/\Cm 0 w.ag=true).2 i e7
   generalize hr:w.ag[i]=row at*
   simp only[Ib,aI,aL,ck]at gh
   try refine gf hr ?_ o228
   refine Ac (Lp 1 (3+i) _ (by omega)) (fun d S' h=>?_) (fun d S' h=>by obtain⟨⟨n,h⟩,_⟩:=h;cases h)
   obtain⟨⟨n,h⟩,rfl⟩:=h
   simp only[DE.ret.injEq]at h
   subst h
   try refine gf hr ?_ o228
   refine AB [1,4,6,7,36,37,38,39,40,41,42,43,44,45,46,47,77,78,79,80,81,82,83,84,85,86,87,88,89,90] (fun (k:Nat) (n:Int)=>k<=row.length/\DI i (row.take k) (row.drop k)=true) (fun k n=>[(48,dI k),(8,.int .u64 n)]) (fun _ _=>V.set iw (wObj w us)) (fun k _=>row.length-k) (0) (n) (by exact⟨by omega,by simpa using gh.2⟩) (fun k n hI=>?_)
   obtain⟨hk,hE⟩:=hI
   by_cases fV:k<row.length
   ·rw[A2 fV,DI,<-AH fV]at hE
    simp only[aI,aL,bw,be]at hE
    obtain⟨q,hq⟩:∃q:Nat,row[k]=(q:Int):=⟨(row[k]).toNat,by omega⟩
    rw[hq]at hE
    have gR:(sl (cII w.ag)::sl (cI w.owner)::List.map (D.int IntKind.u64) us)[2+q]? = some (D.int IntKind.u64 (us[q]'(by omega))):=by
     rw[show 2+q=q+1+1 by omega,dK,dK,bD,aM (by omega)];rfl
    try refine gf (gi gr (gi hq (gi hE.1.2 gR))) ?_ o228
    exact⟨k+1,_,⟨by omega,hE.2⟩,td1,wkR⟩
   ·
    try refine gf (gi hr gr) ?_ o228
    rw[show 2+(3+(i:Int)).toNat=2+(3+i) by omega,PN _ _ _ _ (by omega)]
    exact⟨i+1,us.set (3+i) n,by simp;omega,td1,wkR⟩
  ·repeat' first|refine gz ?_|refine Aq (Gn w.owner (fun c=>decide (3<=c/\c<3+w.ag.length)) 269 [.ptr iw 0] [] _ _ (by omega) (fun x _=>Lo w us iw _ (w7 ..) x (by omega))) ?_|refine callP (Gn w.owner (fun c=>decide (3<=c/\c<3+w.ag.length)) 269 [.ptr iw 0] [] _ _ (by omega) (fun x _=>Lo w us iw _ (w7 ..) x (by omega))) ?_|refine gz ?_ o228|apply gy<;>intro hh
   refine fin2 (S':=V.set iw (wObj w us)) ?_
   refine⟨iw,us,gO,?_,rfl⟩
   rw[bc.2 fun c hc=>by have:=iE c hc;simpa using this]
structure WorldOK(w:World):Prop where
 good:Bu w.ag=true
 len:∀x∈w.ag,x.length<=1073741824
 few:w.owner.length<=40
 own:∀c∈w.owner,3<=c/\c<3+w.ag.length
theorem RX(w:World)(l:List Fact)(o:Own)(V:Sig)(h:WorldOK w)(hl:l.length<=1073741824)(hf:∀f∈l,f.wt<=1073741824):
  au prog 172 [.agg (C8 w),.slice (l.map AS) o] V fun x S'=>(∃d,x=.ret (.tup [d,.bool (l.all (Dp w))]))/\S'=V:=by
 have hlen:=DU h.good
 have iX:=h.few
 refine en func172 ntmps172 ?_
 try refine gz ?_
 refine Ac (RN w V h.good h.len h.few h.own) (fun d S' hr=>?_) (fun d S' hr=>by obtain⟨_,_,_,h,_⟩:=hr;cases h)
 obtain⟨iw,us,gO,h1,rfl⟩:=hr
 simp only[DE.ret.injEq]at h1
 subst h1
 repeat' first|refine gz ?_|refine EU (Lu w us iw l o _ (w7 ..) (by omega) (by omega) hl hf) ?_|refine callPG (Lu w us iw l o _ (w7 ..) (by omega) (by omega) hl hf) ?_|refine gz ?_|apply gy<;>intro hh
 refine fin2 (S':=V) ?_
 exact⟨⟨_,rfl⟩,rfl⟩
theorem WZ(w:World)(f:Fact)(V:Sig)(h:WorldOK w)(hf:f.wt<=1073741824):au prog 87 [.agg (C8 w),.agg (AS f)] V (rS (dI (if Dp w f then 0 else 2)) V):=by
 refine en func87 ntmps87 ?_
 try refine gz ?_
 refine Ac (RX w [f] .clip V h (by simp) (by simpa using hf)) (fun d S' hr=>?_) (fun d S' hr=>by obtain⟨⟨_,h⟩,_⟩:=hr;cases h)
 obtain⟨⟨e,h1⟩,h2⟩:=hr
 simp only[DE.ret.injEq]at h1
 subst h1
 rw[h2]
 try refine gz ?_
 exact fe1 trivial
@[reducible,instance] def a87:=fun w f V=>ah2 (@WZ w f V)
theorem LN: ∀(cs:List ax) (n m:Int),BC n cs=some m->∀c∈cs,c.ae.length<=4
 |[],_,_,_,c,hc=>by simp at hc
 | x::r,n,m,h,c,hc=>by
  rw[BC]at h
  split at h
  ·cases h
  ·rename_i h4
   split at h
   ·cases h
   ·rcases aY.1 hc with rfl|hc
    ·omega
    ·exact LN r _ _ h c hc
theorem KY: ∀(cs:List ax) (i:Nat),(∀c∈cs,c.ae.length<=4)->(ownersF cs i).length<=4*cs.length /\ ∀x∈ownersF cs i,3+(i:Int)<=x/\x<3+(i:Int)+cs.length
 |[],_,_=>by simp[ownersF]
 | c::r,i,h=>by
  obtain⟨h1,h2⟩:=KY r (i+1) fun c hc=>h c (by simp[hc])
  have h3:=h c (by simp)
  rw[ownersF]
  refine⟨by simp only[aH,bu,aP];omega,fun x hx=>?_⟩
  rcases bk.1 hx with hx|hx
  ·have:=dm hx
   simp only[aP];omega
  ·have:=h2 x hx
   simp only[aP];omega
theorem M1{p:aw}(hp:p.wt<=1073741824)(h:At p=true):WorldOK (AK p):=by
 obtain⟨p1,p2,p3,p4,p5,p6,p7⟩:=p.wt_le
 unfold At at h
 simp only[aI,aL]at h
 obtain⟨jg,h⟩:=h
 split at h
 ·cases h
 ·rename_i n hn
  simp only[aI,aL]at h
  obtain⟨⟨_,hg⟩,_⟩:=h
  obtain⟨o1,o2⟩:=KY p.aa 0 (LN _ _ _ hn)
  refine⟨hg,fun x hx=>?_,by show(ownersF p.aa 0).length<=40;omega,fun c hc=>?_⟩
  ·obtain⟨c,hc,rfl⟩:=bO.1 (show x∈p.aa.map (·.ag) from hx)
   obtain⟨k,hk,rfl⟩:=bh hc
   have:=p5 k hk
   unfold ax.wt at this;omega
  ·have:=o2 c hc
   show 3<=c/\c<3+((p.aa.map (·.ag)).length:Int)
   rw[aZ];omega
def Ev(p:aw)(m:ay):Bool:=decide (1<=m.kind/\m.kind<=4)&&decide (0<=m.gen/\m.gen<p.aj.length)&&Dp (AK p) m.fact&&decide (m.fact.speaks<=p.aj.getD m.gen.toNat 0)
def Dz(p:aw):List ay->fF->Option fF
 |[],s=>some s
 | m::r,s=>if Ev p m then (match optW (C0 p (decide (m.kind=1) || decide (m.kind=4)) 12 m.node (p.aj.getD m.gen.toNat 0) s) with
   |none=>none
   |some s'=>Dz p r s') else none
def Da(p:aw):Option fF:=
 if At p&&(decide (p.aj.length<=8)&&decide (p.methods.length<=16)&&decide (1<=p.nodes.length)&&decide (p.nodes.length<=120))&&p.aj.all (fun g=>decide (1<=g/\g<=3)) then
  match Dz p p.methods (List.replicate p.nodes.length (-1))with
  |none=>none
  |some s=>match optW (C0 p false 12 p.main 0 s)with
   |none=>none
   |some s2=>if -1∈s2 then none else some s2
 else none
def SzR(p:aw)(io:Nat)(V:Sig)(x:DE)(S':Sig):Prop:=Keep (· = io) V S'/\(∃d,S' io=some (.cells [d])) /\
 match Da p with
 |none=>x=.panic unf
 |some s=>x=.ret (.tup [])/\S' io=some (.cells [sl (cI s)])
theorem U9 (p:aw) (io:Nat) (V:Sig) (hp:p.wt<=1073741824) (fO:V io=some (.cells [.ak])):au prog 79 [.am (Ai p) 0, .ptr io 0] V (SzR p io V):=by
 obtain⟨p1,p2,p3,p4,p5,p6,p7⟩:=p.wt_le
 have fM:∀c∈p.aa,c.ag.length<=1073741824/\c.ae.length<=1073741824/\c.ai.length<=1073741824:=fun c hc=>by
  obtain⟨k,hk,rfl⟩:=bh hc
  have:=p5 k hk
  have iZ:(p.aa[k]).wt=1+(p.aa[k]).ag.length+(p.aa[k]).ae.length+(p.aa[k]).ai.length:=rfl
  omega
 have gY:∀c∈p.aa,c.ag.length<=1073741824:=fun c hc=>(fM c hc).1
 have iz:∀c∈p.aa,c.ae.length<=1073741824:=fun c hc=>(fM c hc).2.1
 have d6:Da p=none->∀S' d,Keep (· = io) V S'->S' io=some (.cells [d])->SzR p io V (.panic unf) S':=fun h S' d hK hd=>⟨hK,⟨d,hd⟩,by rw[h]⟩
 refine en func79 ntmps79 ?_
 cases hc:At p with
 |false=>
  have hL:Da p=none:=by unfold Da;rw[hc];rfl
  repeat' first|(exact finP (S':=V) (d6 hL _ _ (Keep.refl _ _) fO))|refine gf hc ?_ o79|apply gy<;>intro hh
 | true =>
  have hW:=M1 hp hc
  by_cases iR:p.aj.length<=8/\p.methods.length<=16/\1<=p.nodes.length/\p.nodes.length<=120
  ·have d9:Da p=if p.aj.all (fun g=>decide (1<=g/\g<=3)) then
     match Dz p p.methods (List.replicate p.nodes.length (-1))with
     |none=>none
     |some s=>match optW (C0 p false 12 p.main 0 s)with
      |none=>none
      |some s2=>if -1∈s2 then none else some s2
    else none:=by unfold Da;rw[hc];simp[iR]
   try refine gf hc ?_ o79
   refine B5 [0,1,4,5,7,34,35,48,49,50,51,52,53,54,55,56,57,58,59,60,61,62,63,64,65,66,67,68,69,70,71,72,73,74,75,76,77,78,79,80,81,82,83,84,85,86,87,88,89,90,91,92,93,94,95,96,97,98,99,100,101,102,103,104,105,106,107,108,109,110,111,112,113,114,115,116,117,118,119,120,121,122,123,124,125,126,127,128,129] (fun (i:Nat)=>i<=p.aj.length/\p.aj.all (fun g=>decide (1<=g/\g<=3))=(p.aj.drop i).all (fun g=>decide (1<=g/\g<=3))) (fun i=>[(36,dI i)]) (fun _=>V) (fun i=>p.aj.length-i) (0) td3 (fun i hI=>?_)
   obtain⟨hi,hA⟩:=hI
   by_cases e7:i<p.aj.length
   ·rw[A2 e7,bV]at hA
    by_cases hq:1<=p.aj[i]/\p.aj[i]<=3
    ·rw[aX hq,aW]at hA
     try refine gz ?_ o79
     exact⟨i+1,⟨by omega,hA⟩,td1,wkR⟩
    ·rw[aV hq,bi]at hA
     have hL:Da p=none:=by rw[d9,hA];rfl
     repeat' first|(exact finP (S':=V) (d6 hL _ _ (Keep.refl _ _) fO))|refine gz ?_ o79|apply gy<;>intro hh
     all_goals (exfalso;omega)
   ·rw [A1 e7,ek] at hA
    rw[hA,aS rfl]at d9
    have gV:=hA
    try refine gz ?_ o79
    refine callWP (X3 p.nodes.length V (by omega) (by omega)) (fun d S' hr=>?_) (fun d S' hr=>by obtain⟨r,_,h,_⟩:=hr;cases h)
    obtain⟨r,fN,h1,rfl⟩:=hr
    simp only[DE.ret.injEq]at h1
    subst h1
    have d7:io≠r:=fun e=>by rw[e,fN]at fO;cases fO
    have iF:(ownersF p.aa 0).length<=40:=hW.few
    try refine gf (gi fO d7) ?_ o79
    refine CK [0,1,4,5,57,58,122,123,124,125,126,127,128,129] (fun (i:Nat) (s:fF) (S1:Sig)=>i<=p.methods.length/\s.length=p.nodes.length/\Keep (· = io) V S1/\S1 io=some (.cells [.ap r 0 p.nodes.length p.nodes.length])/\S1 r=some (.cells (s.map dI))/\Dz p p.methods (List.replicate p.nodes.length (-1))=Dz p (p.methods.drop i) s) (fun i _ _=>[(59,dI i)]) (fun _ _ S1=>S1) (fun i _ _=>p.methods.length-i) (0) (List.replicate p.nodes.length (-1)) (_) (by exact⟨by omega,by simp,((Keep.refl _ V).fresh fN).trans (fun j o h1 h2=>by rw[w8 _ _ h2];exact h1),w7 .., by rw[w8 _ _ (aQ d7),w7],rfl⟩) (fun i s S1 hI=>?_)
    clear e7
    obtain⟨hi,gC,fQ,d8,gF,hM⟩:=hI
    by_cases e7:i<p.methods.length
    ·rw [A2 e7,Dz] at hM
     have iH:=p6 i e7
     generalize hm:p.methods[i]=m at*
     have jd:m.fact.wt<=1073741824:=by unfold ay.wt at iH;omega
     have gw:=Fact.size_le m.fact
     cases fY:Ev p m with
     | false =>
      rw[fY]at hM
      have hL:Da p=none:=by rw[d9,hM];rfl
      repeat' first|(exact finP (S':=S1) (d6 hL _ _ fQ d8))|refine gf hm ?_ o79|apply gy<;>intro hh
      all_goals
       exfalso
       rename_i k1 k2 k3 k4 k5 k6
       revert fY
       simp only[Ev]
       rw[aX (by omega),aX (by omega),k5,aX (by rw[bg,aM (by omega)];exact k6)]
       simp
     | true =>
      rw[fY,aS rfl]at hM
      simp only[Ev,aI,aL]at fY
      obtain⟨⟨⟨hk,jb⟩,iW⟩,iC⟩:=fY
      have iU:p.aj.getD m.gen.toNat 0=p.aj[m.gen.toNat]'(by omega):=by rw[bg,aM (by omega)];rfl
      rw[iU]at iC hM
      have jc:1<=p.aj[m.gen.toNat]'(by omega)/\p.aj[m.gen.toNat]'(by omega)<=3:=by
       have:=bc.1 gV _ (aJ (show m.gen.toNat<p.aj.length by omega))
       simpa using this
      repeat' first|refine gf (gi hm iW) ?_ o79|apply gy<;>intro hh
      ·have hb:(decide (m.kind=1)||decide (m.kind=4))=true:=by simp[hh]
       rw[hb]at hM
       refine Ac (MD p io r (true) m.node (p.aj[m.gen.toNat]'(by omega)) s S1 hp d8 gF gC d7 (by omega) (by omega)) (fun d S' hr=>?_) (fun d S' hr=>?_)
       ·obtain⟨s',hs',rfl,⟨q1,q2,q3⟩,_⟩:=hr.ret
        rw[hs']at hM
        try refine gz ?_ o79
        exact⟨i+1,s',S',⟨by omega,q2,fun j o h1 h2=>q3 j o (fQ j o h1 h2) (fun e=>by rw[e,fN]at h1;cases h1),q3 io _ d8 d7,q1,hM⟩,td1,wkR⟩
       ·obtain⟨hn,rfl,hb⟩:=hr.pan
        rw[hn]at hM
        exact finP (S':=S') (d6 (by rw[d9,hM]) _ _ (fun j o h1 h2=>hb j o (fQ j o h1 h2) (fun e=>by rw[e,fN]at h1;cases h1)) (hb io _ d8 d7))
      ·have hb:(decide (m.kind=1)||decide (m.kind=4))=decide (m.kind=4):=by simp[hh]
       rw[hb]at hM
       refine Ac (MD p io r (decide (m.kind=4)) m.node (p.aj[m.gen.toNat]'(by omega)) s S1 hp d8 gF gC d7 (by omega) (by omega)) (fun d S' hr=>?_) (fun d S' hr=>?_)
       ·obtain⟨s',hs',rfl,⟨q1,q2,q3⟩,_⟩:=hr.ret
        rw[hs']at hM
        try refine gz ?_ o79
        exact⟨i+1,s',S',⟨by omega,q2,fun j o h1 h2=>q3 j o (fQ j o h1 h2) (fun e=>by rw[e,fN]at h1;cases h1),q3 io _ d8 d7,q1,hM⟩,td1,wkR⟩
       ·obtain⟨hn,rfl,hb⟩:=hr.pan
        rw[hn]at hM
        exact finP (S':=S') (d6 (by rw[d9,hM]) _ _ (fun j o h1 h2=>hb j o (fQ j o h1 h2) (fun e=>by rw[e,fN]at h1;cases h1)) (hb io _ d8 d7))
    ·rw[A1 e7,Dz]at hM
     rw[hM]at d9
     simp only at d9
     try refine gz ?_ o79
     refine Ac (MD p io r false p.main 0 s S1 hp d8 gF gC d7 (by omega) (by omega)) (fun d S' hr=>?_) (fun d S' hr=>?_)
     ·obtain⟨s2,gE,rfl,⟨q1,q2,q3⟩,_⟩:=hr.ret
      rw[gE]at d9
      simp only at d9
      have gg:Keep (· = io) V S':=fun j o h1 h2=>q3 j o (fQ j o h1 h2) (fun e=>by rw[e,fN]at h1;cases h1)
      have f0:=q3 io _ d8 d7
      have gD:S'=mS (S'.del r) (some (r,p.nodes.length,[])) (cI s2):=by
       funext j
       by_cases hj:j=r
       ·subst hj;rw[mS,w7,q1,E3,bb]
       ·rw[mS,w8 _ _ hj];simp[Sig.del,hj]
      rw[gD]
      have gT:(S'.del r) io=some (.cells ([]++mD (some (r,p.nodes.length,[])) (cI s2).length::[])):=by
       simp only[Sig.del,d7,bd,mD,Iu,q2];exact f0
      have iI:mOK (S'.del r) 1 (some (r,p.nodes.length,[])) (cI s2):=⟨by simp[Sig.del],by rw[E3];simp[q2],by simp[q2],BY _⟩
      have iq:Keep (· = io) V ((S'.del r).set io (.cells [sl (cI s2)])):=fun j o h1 h2=>by
       have iO:¬j=r:=fun e=>by rw[e,fN]at h1;cases h1
       rw[w8 _ _ h2]
       simp only[Sig.del,iO,bd]
       exact gg j o h1 h2
      refine mfrC [] [] ?_ gT iI
      simp only[br]
      by_cases fK : -1∈s2
      ·rw[aS fK]at d9
       repeat' first|(exact finP (S':=(S'.del r).set io (.cells [sl (cI s2)])) (d6 d9 _ _ iq (w7 ..)))|refine gf fK ?_ o79|apply gy<;>intro hh
      ·rw[aN fK]at d9
       try refine gf fK ?_ o79
       refine Ef (S':=(S'.del r).set io (.cells [sl (cI s2)])) ?_
       exact⟨iq,⟨_,w7 ..⟩,by rw[d9];exact⟨rfl,w7 ..⟩⟩
     ·obtain⟨hn,rfl,hb⟩:=hr.pan
      rw[hn]at d9
      exact finP (S':=S') (d6 d9 _ _ (fun j o h1 h2=>hb j o (fQ j o h1 h2) (fun e=>by rw[e,fN]at h1;cases h1)) (hb io _ d8 d7))
  ·have hL:Da p=none:=by unfold Da;rw[aN];simp only[aI,aL];omega
   repeat' first|(exact finP (S':=V) (d6 hL _ _ (Keep.refl _ _) fO))|refine gf hc ?_ o79|apply gy<;>intro hh
   all_goals (exfalso;omega)
theorem O4(p:aw)(V:Sig)(hp:p.wt<=1073741824):au prog 42 [.agg (Ai p)] V fun x S'=>(∃d,x=.ret (.tup [d,.bool (Da p).isSome]) /\ ∀s,Da p=some s->d=sl (cI s))/\S'=V:=by
 refine en func42 ntmps42 ?_
 try refine gz ?_ [] [4]
 refine newV (fun io fO=>?_)
 try refine gz ?_ [] [4]
 refine Ac (X6 79 [.am (Ai p) 0,.ptr io 0] (V.set io (.cells [.ak])) (fun S1=>SzR p io S1) (fun i hi=>U9 p io _ hp (by rw[w8 _ _ fun e=>by rw[e]at hi;rw[w7 ..]at hi;cases hi];exact w7 ..)) (fun S1 d S2 h=>?_) (fun i S2 x hi h=>h.1 i _ (w7 ..) (fun e=>by rw[e,w7]at hi;cases hi))) (fun d S' hr=>?_) (fun d S' hr=>?_)
 ·obtain⟨_,_,h⟩:=h
  split at h
  ·simpa using h
  ·exact absurd h.1 (by simp)
 ·obtain⟨i,S2,hi,rfl,hr⟩:=hr
  rcases hr with⟨e,⟨hK,⟨d0,ij⟩,h⟩,h2⟩|⟨⟨hK,⟨d0,ij⟩,h⟩,h2⟩
  ·simp only[DE.ret.injEq]at h2
   subst h2
   cases hL:Da p with
   |none=>rw[hL]at h;exact absurd h (by simp)
   | some s =>
    rw[hL]at h
    obtain⟨_,f0⟩:=h
    have f6:io≠i:=fun e=>by rw[<-e,w7]at hi;cases hi
    have fZ:(S2.del i) io=some (.cells [sl (cI s)]):=by simp only[Sig.del,f6,bd];exact f0
    try refine gf fZ ?_ [] [4]
    refine fin2 (S':=V) ?_ (hZ:=?_)
    ·exact⟨⟨_,rfl,fun s' h=>by cases h;rfl⟩,rfl⟩
    ·intro j o hj
     have e1:j≠io:=fun e=>by rw[e,fO]at hj;cases hj
     have e2:=hK j o (by rw[w8 _ _ (fun e=>by rw[e]at hj;rw[w8 _ _ (aQ f6),hj]at hi;cases hi),w8 _ _ e1];exact hj) e1
     simp only[Sig.del]
     rw[aN (fun e=>by rw[e]at hj;rw[w8 _ _ (aQ f6),hj]at hi;cases hi)]
     exact e2
  ·simp only[DE.ret.injEq]at h2
   subst h2
   have f6:io≠i:=fun e=>by rw[<-e,w7]at hi;cases hi
   have fZ:(S2.del i) io=some (.cells [d0]):=by simp only[Sig.del,f6,bd];exact ij
   have hL:Da p=none:=by
    cases hL:Da p with
    |none=>rfl
    |some s=>rw[hL]at h;exact absurd h.1 (by simp)
   rw[hL]
   try refine gf fZ ?_ [] [4]
   refine fin2 (S':=V) ?_ (hZ:=?_)
   ·exact⟨⟨_,rfl,fun s' h=>by cases h⟩,rfl⟩
   ·intro j o hj
    have e1:j≠io:=fun e=>by rw[e,fO]at hj;cases hj
    have e2:=hK j o (by rw[w8 _ _ (fun e=>by rw[e]at hj;rw[w8 _ _ (aQ f6),hj]at hi;cases hi),w8 _ _ e1];exact hj) e1
    simp only[Sig.del]
    rw[aN (fun e=>by rw[e]at hj;rw[w8 _ _ (aQ f6),hj]at hi;cases hi)]
    exact e2
 ·obtain⟨i,S2,hi,rfl,hr⟩:=hr
  rcases hr with⟨e,_,h2⟩|⟨_,h2⟩<;>cases h2
theorem PM{a b:fE}(h:WkL a b):WkD (.agg a) (.agg b):=fun _ _ ⟨vs,e,hr⟩=>⟨vs,e,h.rep hr⟩
theorem GK{a b:fE}(h:WkL a b):WkD (.tup a) (.tup b):=fun _ _ ⟨vs,e,hr⟩=>⟨vs,e,h.rep hr⟩
def okP(p:aw):Bool:=(Da p).isSome
theorem E8{p:aw}(h:okP p=true):At p=true:=by
 unfold okP Da at h
 cases hc:At p
 ·rw[hc]at h;simp at h
 ·rfl
theorem MM(p:aw)(V:Sig)(hp:p.wt<=1073741824:=by exact sd):au prog 13 [.agg (Ai p)] V (rS (dI (if okP p then 0 else 2)) V):=by
 refine en func13 ntmps13 ?_
 try refine gz ?_
 refine Ac (O4 p V hp) (fun d S' hr=>?_) (fun d S' hr=>by obtain⟨⟨_,h,_⟩,_⟩:=hr;cases h)
 obtain⟨⟨d,h1,h2⟩,h3⟩:=hr
 simp only[DE.ret.injEq]at h1
 subst h1
 rw[h3]
 cases hk:okP p<;>unfold okP at hk<;>rw[hk]
 ·try refine gz ?_
  exact fe1 trivial
 ·try refine gz ?_
  exact fe1 trivial
@[reducible,instance] def a13:=fun p V=>ah1 (@MM p V)
theorem QH(p:aw)(V:Sig)(hp:p.wt<=1073741824:=by exact sd):au prog 11 [.agg (Ai p)] V (rS (.tup [sl (cI ((Da p).getD [])),dI (OC (Da p))]) V):=by
 refine en func11 ntmps11 ?_
 try refine gz ?_
 refine Ac (O4 p V hp) (fun d S' hr=>?_) (fun d S' hr=>by obtain⟨⟨_,h,_⟩,_⟩:=hr;cases h)
 obtain⟨⟨d,h1,h2⟩,h3⟩:=hr
 simp only[DE.ret.injEq]at h1
 subst h1
 rw[h3]
 cases hL:Da p with
 |none=>
  try refine gz ?_
  (refine fin2 (S':=V) (d':=sl []) ?_;exact⟨by first|rfl|(simp[OC];done)|(simp_all [OC];done)|(rw[A5,aO];simp_all [OC]<;>omega),rfl⟩)
 |some s=>
  obtain rfl:=h2 s hL
  try refine gz ?_
  (refine fin2 (S':=V) (d':=sl (cI s)) ?_;exact⟨by first|rfl|(simp[OC];done)|(simp_all [OC];done)|(rw[A5,aO];simp_all [OC]<;>omega),rfl⟩)
@[reducible,instance] def a11:=fun p V=>ah1 (@QH p V)
theorem Xd(p:aw)(c:Int)(V:Sig)(hp:p.wt<=1073741824:=by exact sd):au prog 61 [.agg (Ai p),dI c] V (rS (.bool (ownF p c&&okP p)) V):=by
 obtain⟨p1,p2,p3,p4,p5,p6,p7⟩:=p.wt_le
 refine en func61 ntmps61 ?_
 cases hk:okP p
 ·repeat' first|refine gf hk ?_|apply gy<;>intro hh
  any_goals (first|(refine fin1 (S':=V) ?_;exact⟨by first|rfl|(simp[ownF];done)|(simp_all [ownF];done)|(rw[A5,aO];simp_all [ownF]<;>omega),rfl⟩)|fail)
 ·repeat' first|refine gf hk ?_|apply gy<;>intro hh
  any_goals (first|(refine fin1 (S':=V) ?_;exact⟨by first|rfl|(simp[ownF];done)|(simp_all [ownF];done)|(rw[A5,aO];simp_all [ownF]<;>omega),rfl⟩)|fail)
@[reducible,instance] def a61:=fun p c V=>ah1 (@Xd p c V)
theorem QE(p:aw)(c:Int)(V:Sig)(hp:p.wt<=1073741824:=by exact sd):au prog 23 [.agg (Ai p),dI c] V (rS (.tup [sl (cI (if ownF p c&&okP p then hasP p c else [])),dI (if ownF p c&&okP p then 0 else 2)]) V):=by
 refine en func23 ntmps23 ?_
 cases hk:ownF p c&&okP p
 ·try refine gf hk ?_
  exact fe2 (d':=sl []) trivial
 ·have ho:3<=c/\c<3+p.aa.length:=by simp only[ownF,aI,aL]at hk;exact hk.1
  obtain⟨h1,h2⟩:=ho
  try refine gf hk ?_
  exact fe2 trivial
@[reducible,instance] def a23:=fun p c V=>ah1 (@QE p c V)
theorem MH(p:aw)(V:Sig)(hp:p.wt<=1073741824:=by exact sd):au prog 37 [.agg (Ai p)] V (rS (.tup [.agg (C8 (if okP p then AK p else⟨[],[]⟩)),dI (if okP p then 0 else 2)]) V):=by
 obtain⟨p1,p2,p3,p4,p5,p6,p7⟩:=p.wt_le
 refine en func37 ntmps37 ?_
 try refine gz ?_ [] [2]
 refine newV (fun i hi=>?_)
 repeat' first|refine gz ?_ [] [2]|apply gy<;>intro hh
 ·rw[hh]
  refine finC (S':=V) (d:=.tup [.agg (C8 ⟨[],[]⟩),dI 2]) ⟨rfl,rfl⟩ (hw:=?_)
  exact GK ⟨PM ⟨Am _ (.inl rfl),Am _ (.inl rfl),trivial⟩,A9 _,trivial⟩
 ·have hW:=M1 hp (E8 hh)
  have iF:(ownersF p.aa 0).length<=40:=hW.few
  have fM:∀c∈p.aa,c.ag.length<=1073741824/\c.ae.length<=1073741824:=fun c hc=>by
   obtain⟨k,hk,rfl⟩:=bh hc
   have:=p5 k hk
   unfold ax.wt at this;omega
  have gY:∀c∈p.aa,c.ag.length<=1073741824:=fun c hc=>(fM c hc).1
  have iz:∀c∈p.aa,c.ae.length<=1073741824:=fun c hc=>(fM c hc).2
  rw[hh]
  try refine gz ?_ [] [2]
  refine finC (S':=V) (d:=.tup [.agg (C8 (AK p)),dI 0]) ⟨rfl,rfl⟩
@[reducible,instance] def a37:=fun p V=>ah1 (@MH p V)
theorem RY{S:Type}(l:fF)(lb:Nat)(u:D)(Good:Sig->S->Prop)(Bad:Sig->Prop)(touch:Nat->Prop)(step:Int->S->S)(hl:l.length<=1073741824)
  (hy:∀(k:Nat) (hk:k<l.length) V s,Good V s->DYield prog lb [dI k,dI l[k]] V (OutO u (.bool true) Good Bad touch V (some (step l[k] s)))) (V:Sig) (s:S) (hG:Good V s) :
  au prog 152 [.yld lb,.am [sl (cI l)] 0] V (OutO u (.tup []) Good Bad touch V (some (l.foldr step s))):=by
 refine en func152 ntmps152 ?_
 try refine gz ?_
 refine CK [0,1] (fun (k:Nat) (s1:S) (S1:Sig)=>k<=l.length/\Good S1 s1/\l.foldr step s=(l.take k).foldr step s1/\(∀j o,V j=some o->¬touch j->S1 j=some o)) (fun k _ _=>[(3,dI ((k:Int)-1))]) (fun _ _ S1=>S1) (fun k _ _=>k) (l.length) (s) (V) (by exact⟨by omega,hG,by simp,fun _ _ h _=>h⟩) (fun k s1 S1 hI=>?_)
 obtain⟨hk,gB,hR,hK⟩:=hI
 cases k with
 |zero=>
  try refine gz ?_
  refine Ef (S':=S1) ?_
  exact⟨rfl,by rw[hR];exact gB,hK⟩
 |succ k=>
  have fV:k<l.length:=by omega
  have e:((k+1:Nat):Int)-1=k:=by omega
  rw[bE fV,List.foldr_append]at hR
  try refine gf e ?_
  refine yldW (hy k fV S1 s1 gB) (fun d S' hr=>?_) (fun d S' hr=>by obtain⟨h,_⟩:=hr.pan;cases h)
  obtain⟨s2,gE,rfl,gW,gg⟩:=hr.ret
  cases gE
  try refine gf e ?_
  exact⟨k,_,S',⟨by omega,gW,hR,fun j o h1 h2=>gg j o (hK j o h1 h2) h2⟩,td1,wkR⟩
theorem Xb(l:fF)(V:Sig):au prog 64 [sl (cI l)] V (rS (.func (.func 152) [] [.am [sl (cI l)] 0]) V):=by
 refine en func64 ntmps64 ?_
 try refine gz ?_
 exact fe1 trivial
@[reducible,instance] def a64:=fun l V=>ah0 (@Xb l V)
def F4:List Init->List (Int×Int)->List (Int×Int)
 |[],m=>m
 |x::r,m=>F4 r (putM x.slot x.n m)
def EO(p:aw)(c:Int)(m:List (Int×Int)):List (Int×Int):=if 3<=c then F4 (((p.aa[(c-3).toNat]?).map (·.ai)).getD []) m else m
def O0(p:aw)(order:fF):List (Int×Int):=order.foldr (EO p) []
def Iy(m:List (Int×Int)):fF->List Init
 |[]=>[]
 |s::r=>if hasM s m then⟨s,getM 0 s m⟩::Iy m r else Iy m r
def Kp(p:aw)(c:Int):List Init:=Iy (O0 p (linF (p.aa.map (·.ag)) c)) (hasP p c)
theorem Hz{p:aw}: ∀{cs:List ax}{i:Nat},Bo p i cs=true->∀k,k<cs.length->linE (p.aa.map (·.ag)) (((i+k:Nat):Int)+3)=0
 |c::r,i,h,0,_=>by rw[Bo]at h;simp only[aI,aL]at h;exact h.1.1
 |c::r,i,h,k+1,hk=>by
  rw[Bo]at h;simp only[aI,aL]at h
  have:=Hz h.2 k (by simpa using hk)
  rw[show i+(k+1)=i+1+k by omega];exact this
theorem okP_lin{p:aw}(h:okP p=true){c:Int}(h1:3<=c)(h2:c<3+p.aa.length):linE (p.aa.map (·.ag)) c=0/\Bu (p.aa.map (·.ag))=true:=by
 have h:=E8 h
 unfold At at h
 simp only[aI,aL]at h
 obtain⟨_,h⟩:=h
 split at h
 ·cases h
 ·simp only[aI,aL]at h
  have:=Hz h.2 (c-3).toNat (by omega)
  rw[show(((0+(c-3).toNat:Nat):Int)+3)=c by omega]at this
  exact⟨this,h.1.2⟩
theorem O1{P:Program}{n:Nat}{fn:Func}{R:DE->Sig->Prop}{γ:Fr}{V S':Sig}{d d':D}(js:fG)(hR:R (.ret d') S')(hZ:Sub S' (dels js V))(hn:js.Nodup:=by simp)(hd:∀j∈js,V j=some .defs:=by simp)(h:resD fn γ=some d:=by exact tdR)(hw:WkD d d'): ∃s',Wk P n ⟨γ,V,js.map .coll⟩ s'/\SK P n fn (Weak R) .ret s':=
 ⟨_,Wk.refl _ _ _,js,rfl,hn,hd,d,Ej h,.ret d',S',hw,hZ,hR⟩
theorem MI(p:aw)(c:Int)(V:Sig)(hp:p.wt<=1073741824:=by exact sd):au prog 25 [.agg (Ai p),dI c] V (rS (.tup [sl ((if ownF p c&&okP p then Kp p c else []).map Dg),dI (if ownF p c&&okP p then 0 else 2)]) V):=by
 obtain⟨p1,p2,p3,p4,p5,p6,p7⟩:=p.wt_le
 have fM:∀c∈p.aa,c.ag.length<=1073741824/\c.ae.length<=1073741824/\c.ai.length<=1073741824:=fun c hc=>by
  obtain⟨k,hk,rfl⟩:=bh hc
  have:=p5 k hk
  unfold ax.wt at this;omega
 have gY:∀c∈p.aa,c.ag.length<=1073741824:=fun c hc=>(fM c hc).1
 have i0:∀x∈p.aa.map (·.ag),x.length<=1073741824:=fun x hx=>by obtain⟨c,hc,rfl⟩:=bO.1 hx;exact(fM c hc).1
 refine Bj func25 rfl (by decide) ntmps25 (by simp) ?_
 cases hk:ownF p c&&okP p
 ·try refine gf hk ?_
  refine O1 [] (S':=V) ⟨rfl,rfl⟩ (Sub.refl _) (hw:=?_)
  exact GK ⟨Am _ (.inl rfl),A9 _,trivial⟩
 ·have ho:3<=c/\c<3+p.aa.length:=by simp only[ownF,aI,aL]at hk;exact hk.1
  have fY:okP p=true:=by simp only[aI]at hk;exact hk.2
  obtain⟨h1,h2⟩:=ho
  obtain⟨gj,e9⟩:=okP_lin fY h1 h2
  have g6:linF (p.aa.map (·.ag)) c=FO (p.aa.map (·.ag)) c:=by
   unfold linF;rw[aS ⟨e9,by omega,by rw[aZ];omega⟩]
  have gG:∀y∈linF (p.aa.map (·.ag)) c,0<=y/\y<3+p.aa.length:=fun y hy=>by
   rw[g6]at hy
   obtain⟨x,hx,hy⟩:=GW hy
   have:=GV e9 _ x hx y hy
   rw[aZ]at this;omega
  have gJ:(linF (p.aa.map (·.ag)) c).length<=80000000:=by rw[g6];exact D7 e9 (bm _) (by omega)
  have ja:=JS p c
  have ws:=H6 p
  try refine gf (gi hk gj) ?_
  refine newIN (fun im iQ=>?_)
  try refine gf (gi hk gj) ?_
  refine LG (u:=unf) (fun did S' m=>S' im=some (.map (eIN m))/\Keep (· = im) ((V.set im (.map (eIN []))).set did .defs) S') (fun did S'=>False) (· = im) (some (O0 p (linF (p.aa.map (·.ag)) c))) rfl (fun l did hd hl e8 LO gc=>?_) (fun l did m S' ho hd hl e8 hG=>?_) (fun did S' ho hd hb=>hb.elim)
  ·refine RY (linF (p.aa.map (·.ag)) c) l unf _ _ _ (EO p) (by omega) (fun k hk S1 m1 hG=>?_) _ [] ?_
   ·obtain⟨gL,fK,fQ⟩:=hG
    refine Ez gc gL ?_
    clear gc
    try refine gz ?_
    refine⟨gL,?_⟩
    have hy:=gG _ (aJ hk)
    generalize (linF (p.aa.map (·.ag)) c)[k]=y at*
    have fR:l≠im:=fun e=>by rw[e,w7]at hl;cases hl
    have iJ:(S1.set l (Ck LO)) im=some (.map (eIN m1)):=by rw[w8 _ _ (aQ fR)];exact fK
    have fP:∀m,(((S1.set l (Ck LO)).set im (.map (eIN m))) l=some (Ck LO))/\((((S1.set l (Ck LO)).set im (.map (eIN m))).set l LO) l=some LO/\(((S1.set l (Ck LO)).set im (.map (eIN m))).set l LO) im=some (.map (eIN m))/\Keep (· = im) ((V.set im (.map (eIN []))).set did .defs) (((S1.set l (Ck LO)).set im (.map (eIN m))).set l LO))/\Keep (· = im) S1 (((S1.set l (Ck LO)).set im (.map (eIN m))).set l LO):=fun m=>by
     have gg:Keep (· = im) S1 (((S1.set l (Ck LO)).set im (.map (eIN m))).set l LO):=fun j o h1 h2=>by
      by_cases hj:j=l
      ·rw[hj]at h1⊢; rw[w7,<-h1,gL]
      ·rw[w8 _ _ hj,w8 _ _ h2,w8 _ _ hj];exact h1
     exact⟨by rw[w8 _ _ fR,w7],⟨w7 .., by rw[w8 _ _ (aQ fR),w7],fQ.trans gg⟩,gg⟩
    rw[<-Sig.set_self _ iJ]
    by_cases iv:3<=y
    ·obtain⟨q,rfl⟩:∃q:Nat,y=3+(q:Int):=⟨(y-3).toNat,by omega⟩
     have hq:q<p.aa.length:=by omega
     have fW:EO p (3+q) m1=F4 (p.aa[q]).ai m1:=by
      unfold EO;rw[aS (by omega),show(3+(q:Int)-3).toNat=q by omega,aM hq];rfl
     rw[fW]
     have iP:=(fM _ (aJ hq)).2.2
     generalize gP:(p.aa[q]).ai=ins' at*
     have iD:3+(q:Int)-3=q:=by omega
     try refine gf (gi iD gP) ?_
     refine AB [1,2,4,5,8,13,15,16,17,45,46,57,58,59,60,61,62,63,64,65,66,67,68,69,70,71,72,73,74,75,76,77,78,79,80] (fun (j:Nat) (m:List (Int×Int))=>j<=ins'.length/\F4 ins' m1=F4 (ins'.drop j) m) (fun j _=>[(47,dI j)]) (fun _ m=>(S1.set l (Ck LO)).set im (.map (eIN m))) (fun j _=>ins'.length-j) (0) (m1) (by simp) (fun j m hI=>?_)
     obtain⟨hj,hJ⟩:=hI
     by_cases g7:j<ins'.length
     ·rw[A2 g7,F4]at hJ
      try refine gf gP ?_
      exact⟨j+1,_,⟨by omega,hJ⟩,td1,wkR⟩
     ·rw[A1 g7,F4]at hJ
      try refine gf gP ?_
      rw[hJ]
      exact⟨(fP m).1,rfl,(fP m).2⟩
    ·have fW:EO p y m1=m1:=by unfold EO;rw[aN iv]
     rw[fW]
     try refine gz ?_
     exact⟨(fP m1).1,rfl,(fP m1).2⟩
   ·have fR:im≠l:=fun e=>by rw[<-e,w7]at hl;cases hl
    have gA:im≠did:=fun e=>by rw[<-e,w7]at hd;cases hd
    exact⟨w7 .., by rw[w8 _ _ fR,w8 _ _ gA,w7],(Keep.refl _ _).fresh (by rw[w8 _ _ e8];exact hl)⟩
  ·cases ho
   have fR:im≠l:=fun e=>by rw[<-e,w7]at hl;cases hl
   have gA:im≠did:=fun e=>by rw[<-e,w7]at hd;cases hd
   have gH:(S'.del l) im=some (.map (eIN (O0 p (linF (p.aa.map (·.ag)) c)))):=by simp only[Sig.del,fR,bd];exact hG.1
   have g9:(S'.del l) did=some .defs:=by simp only[Sig.del,aQ e8,bd];exact hG.2 did _ (w7 ..) (aQ gA)
   have gU:Kp p c=Iy (O0 p (linF (p.aa.map (·.ag)) c)) (hasP p c):=rfl
   have iV:∀j o,V j=some o->(S'.del l) j=some o/\j≠did:=fun j o h=>by
    have e1:j≠im:=fun e=>by rw[e,iQ]at h;cases h
    have e2:j≠did:=fun e=>by rw[e]at h;rw[w8 _ _ (aQ gA),h]at hd;cases hd
    have e3:j≠l:=fun e=>by rw[e]at h;rw[w8 _ _ (aQ fR),h]at hl;cases hl
    refine⟨?_,e2⟩
    simp only[Sig.del,e3,bd]
    exact hG.2 j o (by rw[w8 _ _ e2,w8 _ _ e1];exact h) e1
   generalize O0 p (linF (p.aa.map (·.ag)) c)=m at*
   generalize gQ:hasP p c=hs' at*
   try refine gf gQ ?_
   refine Bv 13 2 (fun ix gk=>?_)
   have gX:im≠ix:=fun e=>by rw[<-e,gH]at gk;cases gk
   have iy:did≠ix:=fun e=>by rw[<-e,g9]at gk;cases gk
   refine AB [4,5,8,59,60,79,80] (fun (k:Nat) (out:List Init)=>k<=hs'.length/\out.length<=k/\Iy m hs'=out++Iy m (hs'.drop k)) (fun k out=>[(61,dI k),(13,.slice (out.map Dg) (.tag ix))]) (fun _ out=>(S'.del l).set ix (.tail 2 out.length)) (fun k _=>hs'.length-k) (0) ([]) (by simp) (fun k out hI=>?_)
   obtain⟨hk,hlen,hR⟩:=hI
   by_cases fV:k<hs'.length
   ·rw[A2 fV,Iy]at hR
    repeat' first|refine gf (gi gH (gi gX gQ)) ?_|apply gy<;>intro hh
    ·rw[hh,aS rfl]at hR
     exact⟨k+1,out++[⟨hs'[k],getM 0 hs'[k] m⟩],⟨by omega,by simp;omega,by rw[hR];simp⟩,td1,wkR⟩
    ·rw[hh,aN (by simp)]at hR
     exact⟨k+1,out,⟨by omega,by omega,hR⟩,td1,wkR⟩
   ·rw[A1 fV,Iy,bb]at hR
    try refine gf (gi gH (gi gX gQ)) ?_
    refine O1 [did] (S':=V) (d':=.tup [sl ((Kp p c).map Dg),dI 0]) ⟨by rw[aS rfl,aS rfl],rfl⟩ (fun j o h=>?_) (hd:=?_) (hw:=?_)
    ·obtain⟨h1,h2⟩:=iV j o h
     simp only[dels,dz,fA,Sig.del,h2,bd]
     rw[w8 _ _ fun e=>by rw[e,gk]at h1;cases h1]
     exact h1
    ·simp only[bM,forall_eq]
     rw[w8 _ _ iy];exact g9
    ·rw[gU,hR]
     exact GK ⟨Ao _ _,A9 _,trivial⟩
@[reducible,instance] def a25:=fun p c V=>ah1 (@MI p c V)
def isLD:DObj->Bool
 |.loop .. |.defs=>true
 |_=>false
theorem JM{LO:DObj}{ps:Array Tmp}{asg body:Code}{n:Nat}{Sl:Fr}{did:Nat}(h:LO=.loop .ready none ps asg body n Sl did):isLD LO=true/\isLD (Ck LO)=true:=by subst h;exact⟨rfl,rfl⟩
def MonoG{S:Type}(G:Sig->S->Prop):Prop:= ∀V S' s,G V s->(∀j x,V j=some x->isLD x=false->S' j=some x)->G S' s
def Indep{S:Type}(G:Sig->S->Prop)(S0:Sig):Prop:= ∀l,S0 l=none->∀S1 S2 s,G S1 s->(∃x,S1 l=some x/\isLD x=true)->(∀j,j≠l->S2 j=S1 j)->G S2 s
def PI{S:Type}(G:Sig->S->Prop):Prop:= ∀V s a o,G V s->V a=none->G (V.set a o) s
theorem MonoG.indep{S:Type}{G:Sig->S->Prop}(h:MonoG G)(S0:Sig):Indep G S0:=fun l _ S1 S2 s hG ⟨x,hx,hl⟩ hj=>h _ _ _ hG fun j y hy hd=>by
 rw[hj j fun e=>by rw[e,hx]at hy;cases hy;rw[hl]at hd;cases hd];exact hy
theorem MonoG.fresh{S:Type}{G:Sig->S->Prop}(h:MonoG G):PI G:=fun V s a o hG ha=>h _ _ _ hG fun j y hy _=>by
 rw[w8 _ _ fun e=>by rw[e,ha]at hy;cases hy];exact hy
theorem Indep.older{S:Type}{G:Sig->S->Prop}{S0 S1:Sig}(h:Indep G S0)(hs:∀j,S1 j=none->S0 j=none):Indep G S1:=fun l hl=>h l (hs l hl)
def GoodG{S:Type}(l:Nat)(LO:DObj)(G:Sig->S->Prop)(touch:Nat->Prop)(base:Sig):Sig->S->Prop:=fun S' s=>S' l=some LO/\G S' s/\Keep touch base S'
theorem GoodG.new{S:Type}{l:Nat}{LO:DObj}{G:Sig->S->Prop}{touch:Nat->Prop}{base V:Sig}{s:S}{a:Nat}{o:DObj}(hm:PI G)(h:GoodG l LO G touch base V s)(ha:V a=none):GoodG l LO G touch base (V.set a o) s:=by
 have ne:∀j x,V j=some x->j≠a:=fun j x hj e=>by rw[e,ha]at hj;cases hj
 obtain⟨h1,h2,h3⟩:=h
 exact⟨by rw[w8 _ _ (ne _ _ h1)];exact h1,hm _ _ _ _ h2 ha,fun j x hj ht=>by
  have:=h3 j x hj ht
  rw[w8 _ _ (ne _ _ this)];exact this⟩
theorem GoodG.indep{S:Type}{l:Nat}{LO:DObj}{G:Sig->S->Prop}{touch:Nat->Prop}{base S0:Sig}{s0:S}(h0:GoodG l LO G touch base S0 s0)(hi:Indep G S0):Indep (GoodG l LO G touch base) S0:=fun k hk S1 S2 s hG hx hj=>by
 have iK:l≠k:=fun e=>by have:=h0.1;rw[e,hk]at this;cases this
 refine⟨by rw[hj l iK];exact hG.1,hi k hk _ _ _ hG.2.1 hx hj,fun j x hb hn=>?_⟩
 rw[hj j fun e=>by have:=h0.2.2 j x hb hn;rw[e,hk]at this;cases this]
 exact hG.2.2 j x hb hn
theorem Jq{P:Program}{n:Nat}{Q:DX->St->Prop}{γ:Fr}{V:Sig}{df:List DDf}{gop:Operand}{ps:Array Tmp}{asg body:Code}{f:Nat}{first cap:fE}{S:Type}(u:D)(G:Sig->S->Prop)(touch tp:Nat->Prop)(o:Option S)(s0:S)
  (hm:Indep G V) (g8:PI G) (h0:G V s0) (ht:∀j,touch j->V j≠none) (iB:∀j,tp j->V j≠none) (hf:ev γ gop=.func (.func f) first cap)
  (gn : ∀ l did LO SL,LO=DObj.loop .ready none ps asg body n γ did->V did=none->(V.set did .defs) l=none -> ¬ touch l->SL=(V.set did .defs).set l LO->GoodG l LO G touch (V.set did .defs) SL s0->(∀ a,SL a=none -> ¬ touch a) ->
   au P f (first++[.yld l]++cap) SL (OutO u (.tup []) (GoodG l LO G touch (V.set did .defs)) (Keep tp (V.set did .defs)) touch SL o))
  (fX:∀did s S',o=some s->V did=none->S' did=some .defs->G S' s->(∀j x,V j=some x->¬touch j->S' j=some x/\j≠did)->Q .normal ⟨γ,S',.coll did::df⟩)
  (d6:∀did S',o=none->V did=none->S' did=some .defs->(∀j x,V j=some x->¬tp j->S' j=some x/\j≠did)->Q (.panic u) ⟨γ,S',.coll did::df⟩) :
  DWp P none n (.rangeFunc gop ps asg body) Q ⟨γ,V,df⟩:=by
 have dne:∀{did:Nat},V did=none->∀j x,V j=some x->j≠did:=fun hd j x hj e=>by rw[e,hd]at hj;cases hj
 refine Fj (R:=fun l did=>OutO u (.tup []) (GoodG l (DObj.loop .ready none ps asg body n γ did) G touch (V.set did .defs)) (Keep tp (V.set did .defs)) touch ((V.set did .defs).set l (DObj.loop .ready none ps asg body n γ did)) o) hf (fun l did hd hl e8=>?_) (fun l did d S' hd hl e8 hr=>?_) (fun l did d S' hd hl e8 hr=>?_)
 ·have fU:(V.set did .defs) l=none:=by first|exact hl|(rw[w8 _ _ e8];exact hl)
  have gx:V l=none:=by rw[w8 _ _ e8]at fU;exact fU
  refine gn l did _ _ rfl hd fU (fun h=>ht _ h gx) rfl ⟨w7 .., g8 _ _ _ _ (g8 _ _ _ _ h0 hd) fU,fun j x hj hn=>?_⟩ fun a ha h=>ht a h ?_
  ·rw[w8 _ _ fun e=>by rw[e,fU]at hj;cases hj];exact hj
  ·by_cases e1:a=l
   ·rw[e1,w7]at ha;cases ha
   ·rw[w8 _ _ e1]at ha
    by_cases e2:a=did
    ·rw[e2,w7]at ha;cases ha
    ·rw[w8 _ _ e2]at ha;exact ha
 ·have fU:(V.set did .defs) l=none:=by first|exact hl|(rw[w8 _ _ e8];exact hl)
  have gx:V l=none:=by rw[w8 _ _ e8]at fU;exact fU
  obtain⟨s,hs,rfl,⟨gK,gB,hK⟩,_⟩:=hr.ret
  have iY:¬touch did:=fun h=>ht _ h hd
  have dl:∀j,j≠l->(S'.del l) j=S' j:=fun j h=>by simp only[Sig.del,h,bd]
  refine⟨_,_,gK,by simp,fX did s _ hs hd ?_ ?_ fun j x hj hn=>⟨?_,dne hd j x hj⟩⟩
  ·rw[dl _ (aQ e8)];exact hK did _ (w7 ..) iY
  ·exact hm l gx _ _ _ gB ⟨_,gK,rfl⟩ fun j hj=>dl j hj
  ·rw[dl _ (dne gx j x hj)];exact hK j x (by rw[w8 _ _ (dne hd j x hj)];exact hj) hn
 ·obtain⟨hn,rfl,hb⟩:=hr.pan
  exact d6 did S' hn hd (hb did _ (w7 ..) fun h=>iB _ h hd) fun j x hj hn=>⟨hb j x (by rw[w8 _ _ (dne hd j x hj)];exact hj) hn,dne hd j x hj⟩
section
variable {S:Type}{l:Nat}{LO:DObj}{G:Sig->S->Prop}{touch:Nat->Prop}{base S1 S2:Sig}{s s':S}{u:D}{step:Option S}{γ:List (Nat×D)}{df:List DDf}{ps:Array Tmp}{asg body:Code}{n:Nat}{Sl:List (Nat×D)}{did:Nat}{Good:Sig->S->Prop}{Bad:Sig->Prop}
theorem Id(fW:step=some s')(gc:LO=.loop .ready none ps asg body n Sl did)(hm:Indep G base)(hG:GoodG l LO G touch base S1 s)(hl:¬touch l)(go:base l=none)(gW:G S2 s')(hK:Keep touch (S1.set l (Ck LO)) S2):
  R7 l LO (OutO u (.bool true) (GoodG l LO G touch base) Bad touch S1 step) .normal ⟨γ,S2,df⟩:=by
 subst fW
 have h2:S2 l=some (Ck LO):=hK l _ (w7 ..) hl
 have gb:Keep touch S1 (S2.set l LO):=fun j x hj hn=>by
  by_cases e:j=l
  ·rw[e,hG.1]at hj;rw[e,w7];exact hj
  ·rw[w8 _ _ e];exact hK j x (by rw[w8 _ _ e];exact hj) hn
 exact⟨h2,rfl,⟨w7 .., hm l go _ _ _ gW ⟨_,h2,(JM gc).2⟩ fun j hj=>w8 _ _ hj,hG.2.2.trans gb⟩,gb⟩
theorem KI(fW:step=none)(hB:Bad S2):R7 l LO (OutO u (.bool true) Good Bad touch S1 step) (.panic u) ⟨γ,S2,[]⟩:=by
 subst fW
 exact⟨rfl,rfl,hB⟩
theorem GoodG.bad{tp:Nat->Prop}(hG:GoodG l LO G touch base S1 s)(go:base l=none)(ht:∀j,touch j->tp j)(hK:Keep tp (S1.set l (Ck LO)) S2):Keep tp base S2:=fun j x hj hn=>
 hK j x (by rw[w8 _ _ fun e=>by rw[e,go]at hj;cases hj];exact hG.2.2 j x hj fun h=>hn (ht j h)) hn
theorem TP{tp:Nat->Prop}{o:DObj}(hK:Keep tp (S1.set l o) S2):Keep (fun j=>tp j\/j=l) S1 S2:=fun j x hj hn=>
 hK j x (by rw[w8 _ _ fun e=>hn (.inr e)];exact hj) fun h=>hn (.inl h)
theorem OutO.bad{r:D}{Good:Sig->S->Prop}{Bad Bad':Sig->Prop}{V S':Sig}{o:Option S}{x:DE}(h:OutO u r Good Bad touch V o x S')(hb:Bad S'->Bad' S'):OutO u r Good Bad' touch V o x S':=by
 cases o with
 |none=>exact⟨h.1,hb h.2⟩
 |some s=>exact h
theorem GoodG.busy(gc:LO=.loop .ready none ps asg body n Sl did)(hm:Indep G base)(go:base l=none)(hG:GoodG l LO G touch base S1 s):G (S1.set l (Ck LO)) s:=
 hm l go _ _ _ hG.2.1 ⟨_,hG.1,(JM gc).1⟩ fun j hj=>w8 _ _ hj
end
section
variable {P:Program}{ro:Option Nat}{n:Nat}{ops:Array Oper}{N:Nat}{S0:Sig}{Q:DX->St->Prop}{df:List DDf}{rest:List Oper}{γ Sr:List (Nat×D)}{V:Sig}{t:Nat}{ty:TypeId}{pos:String}{after:Array Edge}{l:List (Bool×Oper)}{d:D}
theorem yldWG{j:Nat}{want:Bool}{k:Nat}{fop:Operand}{args:Array Operand}{ats:Array TypeId}{l:Nat}{us:fE}{R:DE->Sig->Prop}{dst:Option Tmp}(h:DYield P l us V R)(fX:∀d S',R (.ret d) S'->av P ro n ops Q rest ⟨putD dst d γ,S',df⟩)(d6:∀d S',R (.panic d) S'->Q (.panic d) ⟨γ,S',df⟩)
  (hk:(ops[j]?).bind (·.dst)=some k:=by exact tdR) (hb:γ.lookup k=some (.bool want):=by exact tdR) (hl:A8 γ (Ad (fop::args.toList))=some Sr:=by exact tdR) (hf:ev Sr fop=.yld l:=by exact tdR) (ha:args.toList.map (ev Sr)=us:=by(simp(disch:=first|omega|assumption) [Ar,big1,big2,w8]<;>(try simp only[Bq,Br,B1,Bp,AF,B4,B3,B2,B0,AE,AZ,AY,AX])<;>with_unfolding_all rfl))
  (ho:AD n ⟨dst,(cv fop args ats),ty,pos,after,some (j,want)⟩=true:=by exact tdR) :
  av P ro n ops Q (⟨dst,(cv fop args ats),ty,pos,after,some (j,want)⟩::rest) ⟨γ,V,df⟩:=by
 have hx:∀x∈fop::args.toList,ev Sr x=ev γ x:=fun x hx=>Co fun t ht=>B7 hl t (Bw (by rw[<-ht];exact hx))
 refine LH (by simp only[AT,CY hk hb];simp) (by rw[<-hx fop (by simp)];exact hf) ?_ ho fX d6
 rw[show args.toList.map (ev γ)=args.toList.map (ev Sr) from bT fun x h=>(hx x (by simp[h])).symm,ha]
 exact h
end
theorem JZ{P:Program}{n:Nat}{fn:Func}{R:DE->Sig->Prop}{γ:Fr}{V S':Sig}{d:D}(js:fG)(hR:R (.panic d) S')(hZ:Sub S' (dels js V))(hn:js.Nodup:=by simp)(hd:∀j∈js,V j=some .defs:=by simp): ∃s',Wk P n ⟨γ,V,js.map .coll⟩ s'/\SK P n fn (Weak R) (.panic d) s':=
 ⟨_,Wk.refl _ _ _,js,rfl,hn,hd,.panic d,S',A9 _,hZ,hR⟩
theorem Gb{V S':Sig}{did:Nat}(h:∀j x,V j=some x->S' j=some x/\j≠did):Sub V (dels [did] S'):=fun j x hj=>by
 obtain⟨h1,h2⟩:=h j x hj
 simp only[dels,dz,fA,Sig.del,h2,bd];exact h1
section
variable {P:Program}{ro:Option Nat}{n:Nat}{Q:DX->St->Prop}{df:List DDf}{γ:List (Nat×D)}{V:Sig}
theorem loopD4{Sk:Fr}{α β δ ε:Type}{c:Code}(keep:fG)(I:α->β->δ->ε->Prop)(ov:α->β->δ->ε->Fr)(sg:α->β->δ->ε->Sig)(dg:α->β->δ->ε->List DDf)(μ:α->β->δ->ε->Nat)(x0:α)(y0:β)(z0:δ)(u0:ε)(h0:I x0 y0 z0 u0)
  (round:∀x y z u,I x y z u->DWp P ro n c (Then (fun s'=> ∃x' y' z' u',I x' y' z' u'/\μ x' y' z' u'<μ x y z u/\Wk P n s' ⟨ov x' y' z' u'++Sk,sg x' y' z' u',dg x' y' z' u'⟩) Q) ⟨ov x y z u++Sk,sg x y z u,dg x y z u⟩) (hk:Ea γ keep=some Sk:=by exact tdR) (h1:TellsR γ (ov x0 y0 z0 u0++Sk):=by(first|refine Hf ?_ ?_|skip)<;>(repeat' first|exact He|refine Ga tdR ?_ ?_|(first|exact A9 _|exact Ao _ _|exact Am _ (.inl rfl)|exact Es _|(refine J5 _ ?_;first|omega|(simp;done)|(simp;omega))|(refine AM ?_;(simp;done))|(refine AM ?_;(simp[cI,cS,cII,Ds,CB,CF];done))|(refine C3 _ ?_;(simp[cI,cS,cII];done))|(refine AM ?_;(simp_all;done))|assumption))) (h2:Sub (sg x0 y0 z0 u0) V:=by first|exact Sub.refl _|(refine AQ ?_;simp;done)|assumption|exact(Sub.refl _).set (by assumption)) (h3:dg x0 y0 z0 u0=df:=by rfl):DWp P ro n (.loop c) Q ⟨γ,V,df⟩:=by
 subst h3
 refine QQ (fun x:{x:α×β×δ×ε // I x.1 x.2.1 x.2.2.1 x.2.2.2}=>⟨ov x.1.1 x.1.2.1 x.1.2.2.1 x.1.2.2.2++Sk,sg x.1.1 x.1.2.1 x.1.2.2.1 x.1.2.2.2,dg x.1.1 x.1.2.1 x.1.2.2.1 x.1.2.2.2⟩) (fun x=>μ x.1.1 x.1.2.1 x.1.2.2.1 x.1.2.2.2) ⟨(x0,y0,z0,u0),h0⟩ (M3 h1 h2) fun x=>Fk (round x.1.1 x.1.2.1 x.1.2.2.1 x.1.2.2.2 x.2) ?_
 intro e s h
 cases e with
 |normal=>obtain⟨x',y',z',u',h3,h4,h5⟩:=h;exact⟨⟨(x',y',z',u'),h3⟩,h4,h5⟩
 |_=>exact h
end
theorem Kg: ∀(js:fG) (V:Sig) (j:Nat),j∉js->dels js V j=V j
 |[],_,_,_=>rfl
 |i::r,V,j,h=>by
  simp only[aY,dU]at h
  simp only[dels,dz]
  rw[show List.foldl Sig.del (V.del i) r=dels r (V.del i) from rfl,Kg r _ j h.2]
  simp only[Sig.del,h.1,bd]
theorem Wt{V S':Sig}{js:fG}(h:Sub V S')(hj:∀j∈js,V j=none):Sub V (dels js S'):=fun j x hx=>by
 rw[Kg js S' j fun hm=>by rw[hj j hm]at hx;cases hx];exact h j x hx
def RowAt(V:Sig)(sz:Nat):MR->fH->Prop
 |none,es=>es=[]
 |some (i,cap,rest),es=>V i=some (.cells (es.flatten++rest))/\(es.flatten++rest).length=cap*sz/\es.length<=cap /\ ∀e∈es,e.length=sz
def Bt:MR->Nat->Prop
 |none,_=>False
 |some (i,_,_),j=>j=i
theorem RowAt.cells{V:Sig}{sz:Nat}{st:MR}{es:fH}(h:RowAt V sz st es){j:Nat}(hj:Bt st j): ∃cs,V j=some (.cells cs):=by
 cases st with
 |none=>exact hj.elim
 |some x=>cases hj;exact⟨_,h.1⟩
theorem RowAt.keep{V S':Sig}{sz:Nat}{st:MR}{es:fH}(h:RowAt V sz st es)(hk:∀j o,V j=some o->Bt st j->S' j=some o):RowAt S' sz st es:=by
 cases st with
 |none=>exact h
 |some x=>exact⟨hk _ _ h.1 rfl,h.2⟩
theorem RowAt.mS{V:Sig}{sz:Nat}{st:MR}{es:fH}(h:RowAt V sz st es): ∃S',V=mS S' st es/\mOK S' sz st es/\(∀j o,V j=some o->¬Bt st j->S' j=some o) /\ ∀j o,S' j=some o->V j=some o /\ ¬Bt st j:=by
 cases st with
 |none=>exact⟨V,rfl,h,fun j o h _=>h,fun j o h=>⟨h,id⟩⟩
 | some x =>
  obtain⟨i,cap,rest⟩:=x
  obtain⟨h1,h2,h3,h4⟩:=h
  refine⟨V.del i,?_,⟨by simp[Sig.del],h2,h3,h4⟩,fun j o hj hn=>?_,fun j o hj=>?_⟩
  ·funext j
   simp only[DL.mS,Sig.set,Sig.del]
   by_cases e:j=i
   ·subst e;simp[h1]
   ·simp[e]
  ·have:j≠i:=hn
   simp only[Sig.del,this,bd];exact hj
  ·by_cases e:j=i
   ·simp[Sig.del,e]at hj
   ·simp only[Sig.del,e,bd]at hj;exact⟨hj,e⟩
theorem PZ{V:Sig}{sz:Nat}{st:MR}{es:fH}(h:mOK V sz st es):RowAt (mS V st es) sz st es:=by
 cases st with
 |none=>exact h
 |some x=>obtain⟨i,cap,rest⟩:=x;exact⟨w7 .., h.2⟩
def RowK(V:Sig)(st:MR)(S':Sig)(st':MR):Prop:= ∀j o,V j=some o->¬Bt st j->S' j=some o /\ ¬Bt st' j
theorem RowK.refl(V:Sig)(st:MR):RowK V st V st:=fun j o h hn=>⟨h,hn⟩
theorem RowK.trans{V S1 S2:Sig}{st st1 st2:MR}(h:RowK V st S1 st1)(k:RowK S1 st1 S2 st2):RowK V st S2 st2:=fun j o hj hn=>k _ _ (h j o hj hn).1 (h j o hj hn).2
theorem T6{V:Sig}{sz:Nat}{st st':MR}{es es':fH}(h:RowAt V sz st es){S1:Sig}(h1:mOK S1 sz st' es')(hk:∀j o,V j=some o->¬Bt st j->S1 j=some o):RowK V st (mS S1 st' es') st':=fun j o hj hn=>by
 have gN:=hk j o hj hn
 have hr:¬Bt st' j:=by
  cases st' with
  |none=>exact id
  |some x=>
   obtain⟨i,cap,rest⟩:=x
   intro e
   have e:j=i:=e
   rw[e,h1.1]at gN;cases gN
 exact⟨TK h1 gN,hr⟩
section
variable {ro:Option Nat}{n:Nat}{ops:Array Oper}{N:Nat}{S0:Sig}{Q:DX->St->Prop}{df:List DDf}{rest:List Oper}{γ Sr:List (Nat×D)}{V:Sig}{t:Nat}{ty:TypeId}{pos:String}{after:Array Edge}{d:D}
theorem rapp{T T' e e' sz:Nat}{s x:Operand}{es new:fH}{st:MR}(h:∀st' S',RowAt S' sz st' (es++new)->RowK V st S' st'->av prog ro n ops Q rest ⟨(t,mD st' (es.length+new.length))::γ,S',df⟩)(hm:RowAt V sz st es:=by assumption)
  (hl:A8 γ (Ad [s,x])=some Sr:=by exact tdR) (hk:(tab T).k=.slice e:=by(simp<;>rfl)) (gM:(tab T').k=.slice e':=by(simp<;>rfl)) (he:A6 (tab e).k=false:=by simp) (gw:(tab e).size=sz:=by simp)
  (h1:ev Sr s=mD st es.length:=by first|with_unfolding_all rfl|(simp[ev,getD,List.lookup];done)) (h2:esOf (ev Sr x)=some new:=by(simp<;>with_unfolding_all rfl))
  (hlen':∀c∈new,c.length=sz:=by first|exact BY _|exact Dj _|exact BR _|simp) (gS:∀c∈new,Db c=true:=by simp[cI,cS,cII,Db,D.flat])
  (hb:(es.length+new.length)*(tab e).bytes<=140737488355328:=by first|(simp;done)|(simp;omega)) (gI:es.length+new.length<=9223372036854775807:=by first|(simp;done)|(simp;omega)) (gv:decide (t<n)=true:=by exact tdR) :
  av prog ro n ops Q (⟨some t,(cA s x T T'),ty,pos,after,none⟩::rest) ⟨γ,V,df⟩:=by
 obtain⟨e1,e2⟩:=evs hl
 obtain⟨S1,rfl,fK,gb,iM⟩:=hm.mS
 exact Ke Af (by simpa using gv) hk gM he gw (by rw[<-e1];exact h1) fK (by rw[<-e2];exact h2) hlen' gS hb gI (fun st' h'=>by rw[aH];exact h st' _ (PZ h') (T6 hm h' gb))
theorem Y0{T T' e e' sz:Nat}{s x:Operand}{es new:fH}{st:MR}{l:List (Bool×Oper)}(h:∀st' S',RowAt S' sz st' (es++new)->RowK V st S' st'->MO prog ro n ops N S0 Q df l ((t,mD st' (es.length+new.length))::γ) S')(hC:∀j o,S0 j=some o->V j=some o /\ ¬Bt st j)(hm:RowAt V sz st es:=by assumption)
  (hl:A8 γ (Ad [s,x])=some Sr:=by exact tdR) (hk:(tab T).k=.slice e:=by(simp<;>rfl)) (gM:(tab T').k=.slice e':=by(simp<;>rfl)) (he:A6 (tab e).k=false:=by simp) (gw:(tab e).size=sz:=by simp)
  (h1:ev Sr s=mD st es.length:=by first|with_unfolding_all rfl|(simp[ev,getD,List.lookup];done)) (h2:esOf (ev Sr x)=some new:=by(simp<;>with_unfolding_all rfl))
  (hlen':∀c∈new,c.length=sz:=by first|exact BY _|exact Dj _|exact BR _|simp) (gS:∀c∈new,Db c=true:=by simp[cI,cS,cII,Db,D.flat])
  (hb:(es.length+new.length)*(tab e).bytes<=140737488355328:=by first|(simp;done)|(simp;omega)) (gI:es.length+new.length<=9223372036854775807:=by first|(simp;done)|(simp;omega)) (gv:decide (t<n)=true:=by exact tdR) :
  MO prog ro n ops N S0 Q df ((true,⟨some t,(cA s x T T'),ty,pos,after,none⟩)::l) γ V:=
 mo1 (fun U2 hx=>by
  obtain⟨e1,e2⟩:=Ii hl hx
  obtain⟨S1,rfl,fK,gb,iM⟩:=hm.mS
  refine Ke Af (by simpa using gv) hk gM he gw (by rw[e1];exact h1) fK (by rw[e2];exact h2) hlen' gS hb gI (fun st' h'=>?_)
  have hK:=T6 hm h' gb
  refine AP ⟨rfl,?_⟩
  simp only[Aa,bp]
  exact⟨fun j o hj=>(hK j o (hC j o hj).1 (hC j o hj).2).1,by rw[aH];exact h st' _ (PZ h') hK⟩) gv
end
noncomputable def Sig.out(V:Sig)(touch:Nat->Prop):Sig:=open Classical in fun j=>if touch j then none else V j
theorem AU(V:Sig)(touch:Nat->Prop):Sub (V.out touch) V:=fun j o h=>by
 unfold Sig.out at h;split at h
 ·cases h
 ·exact h
theorem Bm{V:Sig}{touch:Nat->Prop}{j:Nat}{o:DObj}(h:(V.out touch) j=some o):V j=some o /\ ¬touch j:=by
 unfold Sig.out at h;split at h
 ·cases h
 ·exact⟨h,by assumption⟩
theorem BO{V:Sig}{touch:Nat->Prop}{j:Nat}{o:DObj}(h:V j=some o)(ht:¬touch j):(V.out touch) j=some o:=by
 unfold Sig.out;rw[aN ht];exact h
end Go.DL
