/- A part of the proof. -/
import Derived.Test.YtlfimpogphmbdaaGreatM18
import Derived.Test.YtlfimpogphmbdaaGreatM17
set_option linter.all false
namespace Go.DL
open Go.Proofs.Tryz
open Go Go.Proofs
set_option maxHeartbeats 8000000
def wObj(w:World)(us:List Int):DObj:=.cells (sl (cII w.parents)::sl (cI w.owner)::us.map (D.int .u64))
def LL(w:World)(l:List Int):Bool:=decide (l.length<=2)&&l.all (fun c=>decide (0<=c/\c<w.owner.length))
section
variable (w:World)(us:List Int)(iw:Nat)(V:Sig)(hw:V iw=some (wObj w us))
include hw
theorem JW(c:Int)(hl:w.parents.length<=1073741824):DCall prog 269 [.ptr iw 0,dI c] V (rS (.bool (decide (3<=c/\c<3+w.parents.length))) V):=by
 unfold wObj at hw;refine en func269 ntmps269 ?_
 repeat' first|refine gf hw ?_|apply gy<;>intro hh
 any_goals (first|exact fe1 trivial|fail)
theorem JO(c:Int)(hl:w.owner.length<=1073741824):DCall prog 311 [.ptr iw 0,dI c] V (rS (.bool (decide (0<=c/\c<w.owner.length))) V):=by
 unfold wObj at hw;refine en func311 ntmps311 ?_
 repeat' first|refine gf hw ?_|apply gy<;>intro hh
 any_goals (first|exact fe1 trivial|fail)
theorem JQ(c:Int)(hl:w.parents.length<=1073741824):DCall prog 300 [.ptr iw 0,dI c] V (rS (.bool (decide (0<=c/\c<3+w.parents.length))) V):=by
 unfold wObj at hw;refine en func300 ntmps300 ?_
 repeat' first|refine gf hw ?_|apply gy<;>intro hh
 any_goals (first|exact fe1 trivial|fail)
theorem JR(l:List Int)(o:Own)(hl:w.owner.length<=1073741824)(hll:l.length<=1073741824):DCall prog 299 [.ptr iw 0,.slice (cI l) o] V (rS (.bool (LL w l)) V):=by
 refine en func299 ntmps299 ?_
 repeat' first|refine gz ?_|refine EX (Fd l (fun c=>decide (0<=c/\c<w.owner.length)) 311 [.ptr iw 0] [] _ _ hll (fun x _=>JO w us iw _ hw x hl)) ?_|refine EY (Fd l (fun c=>decide (0<=c/\c<w.owner.length)) 311 [.ptr iw 0] [] _ _ hll (fun x _=>JO w us iw _ hw x hl)) ?_|refine gz ?_|apply gy<;>intro hh
 any_goals (first|(refine fin1 (S':=V) ?_;exact⟨by first|rfl|(simp[LL];done)|(simp_all [LL];done)|(rw[Ae,Bool.eq_iff_iff];simp_all [LL]<;>omega),rfl⟩)|fail)
end
def GT(w:World)(f:Fact):Bool:=decide (0<=f.arg/\f.arg<3)&&LL w f.path &&
 (if f.op=2 then decide (f.n=0)&&decide (0<=f.cls/\f.cls<3+w.parents.length) else decide (f.cls=0)&&inB f.n)
def CG(w:World):Nat->Fact->Int->Bool×Int
 |0,_,s=>(false,IntKind.i64.wrap (s-1))
 |d+1,f,s=>
  if IntKind.i64.wrap (s-1)<0\/f.op<1\/7<f.op\/f.kids.length≠B5 f.op then(false,IntKind.i64.wrap (s-1)) else
  if Cm f.op then(GT w f,IntKind.i64.wrap (s-1)) else
  if f.arg=0/\f.path.length=0/\f.cls=0/\f.n=0 then allS (CG w d) f.kids (IntKind.i64.wrap (s-1)) else(false,IntKind.i64.wrap (s-1))
theorem PV(iw il d:Nat)(x:Fact)(b:Bool)(G:Sig->Prop)(V:Sig)(hd:d<=1000)(h:DCall prog 272 [.ptr iw 0,.agg (Ba x),.ptr il 0,dI d] V fun r S'=>r=.ret (.bool b)/\G S'):
  DCall prog 301 [.agg (Ba x),.cptr [.ptr iw 0] 0,.cptr [.ptr il 0] 0,.cptr [dI ((d:Int)+1)] 0] V fun r S'=>r=.ret (.bool b)/\G S':=by
 refine en func301 ntmps301 ?_;refine gf (show((d:Int)+1-1)=d by omega) ?_;refine Ab h (fun e S2 hr=>?_) (fun e S2 hr=>by cases hr.1);obtain⟨h1,h2⟩:=hr;simp only[DE.ret.injEq]at h1;subst h1;refine gz ?_;refine fin1 (S':=S2) ?_;exact⟨rfl,h2⟩
theorem Si(w:World)(us:List Int)(iw il:Nat)(S0:Sig)(hw:S0 iw=some (wObj w us))(hne:iw≠il)(hlp:w.parents.length<=1073741824)(hlo:w.owner.length<=1073741824):
  ∀(d:Nat) (f:Fact) (s:Int) (V:Sig),d<=1000->f.wt<=1073741824->Keep (· = il) S0 V->V il=some (.cells [dI s])->
   DCall prog 272 [.ptr iw 0,.agg (Ba f),.ptr il 0,dI d] V fun x S'=>x=.ret (.bool (CG w d f s).1)/\(Keep (· = il) S0 S'/\S' il=some (.cells [dI (CG w d f s).2])):=by
 intro d;have hKs:∀(V:Sig) (o:DObj),Keep (· = il) S0 V->Keep (· = il) S0 (V.set il o):=fun V o h j x h1 h2=>by rw[w8 _ _ h2];exact h j x h1 h2
 induction d with
 |zero=>
  intro f s V hd hf hK hs;have hKs:=fun o=>hKs V o hK;refine en func272 ntmps272 ?_
  repeat' first|(refine fin1 (S':=V.set il (.cells [dI (IntKind.i64.wrap (s-1))])) ?_;exact⟨rfl,hKs _,w7 ..⟩)|refine gf hs ?_ o272|apply gy<;>intro hh
 | succ d ih =>
  intro f s V hd hf hK hs;have hKs:=fun o=>hKs V o hK;obtain⟨w1,w2,w3⟩:=f.wt_le;have hfk:(B5 f.op:Int)<=2:=by unfold B5;split<;>(try split)<;>omega
  have hw':(V.set il (.cells [dI (IntKind.i64.wrap (s-1))])) iw=some (wObj w us):=hKs _ iw _ hw hne;refine en func272 ntmps272 ?_
  by_cases hbad:IntKind.i64.wrap (s-1)<0\/f.op<1\/7<f.op\/f.kids.length≠B5 f.op
  ·have hN:CG w (d+1) f s=(false,IntKind.i64.wrap (s-1)):=by rw[CG,if_pos hbad]
   rw[hN]
   repeat' first|(refine fin1 (S':=V.set il (.cells [dI (IntKind.i64.wrap (s-1))])) ?_;exact⟨rfl,hKs _,w7 ..⟩)|refine gf hs ?_ o272|apply gy<;>intro hh
   all_goals (exfalso;simp_all;omega)
  ·have hN:CG w (d+1) f s=if Cm f.op then(GT w f,IntKind.i64.wrap (s-1)) else if f.arg=0/\f.path.length=0/\f.cls=0/\f.n=0 then allS (CG w d) f.kids (IntKind.i64.wrap (s-1)) else(false,IntKind.i64.wrap (s-1)):=by rw[CG,if_neg hbad]
   have b1:¬IntKind.i64.wrap (s-1)<0:=fun h=>hbad (.inl h);have b2:¬f.op<1:=fun h=>hbad (.inr (.inl h));have b3:¬7<f.op:=fun h=>hbad (.inr (.inr (.inl h)));have b4:f.kids.length=B5 f.op:=by omega
   cases hlf:Cm f.op with
   | true =>
    rw[hlf,if_pos rfl]at hN;rw[hN]
    repeat' first|refine gf (gi hs (gi b1 (gi b4 hlf))) ?_|refine EX (JR w us iw _ hw' f.path .no hlo (by omega)) ?_|refine EY (JR w us iw _ hw' f.path .no hlo (by omega)) ?_|refine EX (JQ w us iw _ hw' f.cls hlp) ?_|refine EY (JQ w us iw _ hw' f.cls hlp) ?_|refine gf (gi hs (gi b1 (gi b4 hlf))) ?_ o272|apply gy<;>intro hh
    all_goals
     refine fin1 (S':=V.set il (.cells [dI (IntKind.i64.wrap (s-1))])) ?_;refine⟨?_,hKs _,w7 ..⟩
     first|(simp_all [GT,inB];done)|(rw[show DE.ret (D.bool (GT w f,IntKind.i64.wrap (s-1)).1)=DE.ret (D.bool (GT w f)) from rfl,Ae,Bool.eq_iff_iff];simp_all [GT,inB];done)|(rw[show DE.ret (D.bool (GT w f,IntKind.i64.wrap (s-1)).1)=DE.ret (D.bool (GT w f)) from rfl,Ae,Bool.eq_iff_iff];simp_all [GT,inB];omega)
   | false =>
    rw[hlf,if_neg (by simp)]at hN;rw[hN]
    by_cases h0:f.arg=0/\f.path.length=0/\f.cls=0/\f.n=0
    ·rw[if_pos h0]
     repeat' first|refine gf (gi hs (gi b1 (gi b4 hlf))) ?_ o272|apply gy<;>intro hh
     all_goals try (exfalso;omega)
     have hkw:∀x∈f.kids,x.wt<=1073741824:=fun x hx=>by obtain⟨k,hk,rfl⟩:=List.getElem_of_mem hx;have:=w3 k hk;omega
     refine Ab (Mq f.kids (CG w d) 301 [] [.cptr [.ptr iw 0] 0,.cptr [.ptr il 0] 0,.cptr [dI ((d:Int)+1)] 0] .no (fun S' s'=>Keep (· = il) S0 S'/\S' il=some (.cells [dI s'])) (by omega) (fun x hx S' s' hG=>PV iw il d x _ _ S' (by omega) (ih x s' S' (by omega) (hkw x hx) hG.1 hG.2)) _ (IntKind.i64.wrap (s-1)) ⟨hKs _,w7 ..⟩) (fun e S2 hr=>?_) (fun e S2 hr=>by cases hr.1);obtain⟨h1,h2⟩:=hr;simp only[DE.ret.injEq]at h1;subst h1;refine gz ?_ o272;refine fin1 (S':=S2) ?_;exact⟨rfl,h2⟩
    ·rw[if_neg h0]
     repeat' first|(refine fin1 (S':=V.set il (.cells [dI (IntKind.i64.wrap (s-1))])) ?_;exact⟨rfl,hKs _,w7 ..⟩)|refine gf (gi hs (gi b1 (gi b4 hlf))) ?_ o272|apply gy<;>intro hh
     all_goals (exfalso;omega)
def Ea(w:World)(f:Fact):Bool:=(CG w 12 f 24).1
theorem Q5(w:World)(us:List Int)(iw:Nat)(f:Fact)(V:Sig)(hw:V iw=some (wObj w us))(hlp:w.parents.length<=1073741824)(hlo:w.owner.length<=1073741824)(hf:f.wt<=1073741824):
  DCall prog 271 [.agg (Ba f),.cptr [.ptr iw 0] 0] V (rS (.bool (Ea w f)) V):=by
 refine en func271 ntmps271 ?_;refine gz ?_ [] [4];refine newV (fun il hil=>?_);have hne:iw≠il:=fun e=>by rw[e,hil]at hw;cases hw
 refine gz ?_ [] [4];refine Ab (Si w us iw il V hw hne hlp hlo 12 f 24 (V.set il (.cells [dI 24])) (by omega) hf ((Keep.refl _ V).fresh hil) (w7 ..)) (fun e S2 hr=>?_) (fun e S2 hr=>by cases hr.1);obtain⟨h1,h2,h3⟩:=hr;simp only[DE.ret.injEq]at h1;subst h1;refine gz ?_ [] [4];refine fin1 (S':=V) ?_ (hU:=fun j o hj=>h2 j o hj (fun e=>by rw[e,hil]at hj;cases hj));exact⟨rfl,rfl⟩
theorem Nb{α:Type}(q:α->Bool): ∀l:List α,allS (fun x (_:Unit)=>(q x,())) l ()=(l.all q,())
 |[]=>rfl
 |x::r=>by
  rw[allS,List.all_cons];cases h:q x
  ·simp
  ·simp only[Bool.true_and];exact Nb q r
theorem K2(w:World)(us:List Int)(iw:Nat)(l:List Fact)(o:Own)(V:Sig)(hw:V iw=some (wObj w us))(hlp:w.parents.length<=1073741824)(hlo:w.owner.length<=1073741824)(hl:l.length<=1073741824)(hf:∀f∈l,f.wt<=1073741824):
  DCall prog 229 [.ptr iw 0,.slice (l.map Ba) o] V (rS (.bool (l.all (Ea w))) V):=by
 refine en func229 ntmps229 ?_;refine gz ?_;refine Ab (Mq l (fun x (_:Unit)=>(Ea w x,())) 271 [] [.cptr [.ptr iw 0] 0] o (fun S' _=>S'=V) hl (fun x hx S' s' hG=>by rw[hG];exact Q5 w us iw x V hw hlp hlo (hf x hx)) _ () rfl) (fun e S2 hr=>?_) (fun e S2 hr=>by cases hr.1);obtain⟨h1,h2⟩:=hr;simp only[DE.ret.injEq]at h1;subst h1;rw[show S2=V from h2];refine gz ?_;rw[Nb];exact fe1 trivial
theorem JX(s c:Int)(V:Sig)(hc:0<=c):DCall prog 267 [.int .u64 s,dI c] V fun x S'=>(∃n:Int,x=.ret (.int .u64 n))/\S'=V:=by
 refine en func267 ntmps267 ?_
 try refine gf (Po .u64 .i64 1 c hc) ?_
 refine fin1 (S':=V) ?_;exact⟨⟨_,rfl⟩,rfl⟩
theorem Ob(w:World)(us:List Int)(c:Nat)(n:Int)(h:c<us.length):DObj.cells (List.take (2+c) (sl (cII w.parents)::sl (cI w.owner)::List.map (D.int IntKind.u64) us)++D.int IntKind.u64 n::List.drop (2+c) (sl (cI w.owner)::List.map (D.int IntKind.u64) us))=wObj w (us.set c n):=by
 rw[show 2+c=c+1+1 by omega];simp only[List.take_succ_cons,List.drop_succ_cons,List.cons_append];unfold wObj;rw[List.map_set,List.set_eq_take_append_cons_drop,if_pos (by simpa using h)]
theorem Qc(w:World)(V:Sig)(hg:Ca w.parents=true)(hl2:∀x∈w.parents,x.length<=1073741824)(ho:w.owner.length<=40)(hoo:∀c∈w.owner,3<=c/\c<3+w.parents.length):
  DCall prog 228 [.agg (Hl w)] V fun x S'=> ∃iw us,V iw=none/\x=.ret (.tup [.ptr iw 0,.bool true])/\S'=V.set iw (wObj w us):=by
 have hlen:=Hy hg;refine en func228 ntmps228 ?_
 repeat ((fail_if_success (first|(refine boxV (T:=345) (fun iw hiw=>?_))|fail));(refine goX1 trivial ?_))
 refine boxV (T:=345) (fun iw hiw=>?_);have e0:wObj w (List.replicate 63 0)=.cells [sl (cII w.parents),sl (cI w.owner),.int .u64 0,.int .u64 0,.int .u64 0,.int .u64 0,.int .u64 0,.int .u64 0,.int .u64 0,.int .u64 0,.int .u64 0,.int .u64 0,.int .u64 0,.int .u64 0,.int .u64 0,.int .u64 0,.int .u64 0,.int .u64 0,.int .u64 0,.int .u64 0,.int .u64 0,.int .u64 0,.int .u64 0,.int .u64 0,.int .u64 0,.int .u64 0,.int .u64 0,.int .u64 0,.int .u64 0,.int .u64 0,.int .u64 0,.int .u64 0,.int .u64 0,.int .u64 0,.int .u64 0,.int .u64 0,.int .u64 0,.int .u64 0,.int .u64 0,.int .u64 0,.int .u64 0,.int .u64 0,.int .u64 0,.int .u64 0,.int .u64 0,.int .u64 0,.int .u64 0,.int .u64 0,.int .u64 0,.int .u64 0,.int .u64 0,.int .u64 0,.int .u64 0,.int .u64 0,.int .u64 0,.int .u64 0,.int .u64 0,.int .u64 0,.int .u64 0,.int .u64 0,.int .u64 0,.int .u64 0,.int .u64 0,.int .u64 0,.int .u64 0]:=rfl;rw[<-e0];clear e0
 try refine gz ?_ o228
 refine Br [1,2,3,4,6,7,8,9,10,35,36,37,38,39,40,41,42,43,44,45,46,47,48,49,50,51,52,53,54,55,56,57,58,59,60,61,62,63,64,65,66,67,68,69,70,71,72,73,74,75,76,77,78,79,80,81,82,83,84,85,86,87,88,89,90] (fun (c:Nat) (us:List Int)=>c<=3/\us.length=63) (fun c _=>[(24,dI c)]) (fun _ us=>V.set iw (wObj w us)) (fun c _=>3-c) (0) (List.replicate 63 0) (by simp) (fun c us hI=>?_);obtain⟨hc,hus⟩:=hI;have hwo:wObj w us=.cells (sl (cII w.parents)::sl (cI w.owner)::us.map (D.int .u64)):=rfl
 by_cases hc3:c<3
 ·try refine gz ?_ o228
  refine E4 (JX 1 c _ (by omega)) (fun d S' h=>?_) (fun d S' h=>by obtain⟨⟨n,h⟩,_⟩:=h;cases h);obtain⟨⟨n,h⟩,rfl⟩:=h;simp only[DE.ret.injEq]at h;subst h;refine⟨Sub.refl _,?_⟩
  try refine gf hwo ?_ o228
  rw[Ob _ _ _ _ (by omega)];exact⟨c+1,us.set c n,by simp;omega,td1,wkR⟩
 ·try refine gz ?_ o228
  refine Br [1,4,36,37,85,86,87,88,89,90] (fun (i:Nat) (us:List Int)=>i<=w.parents.length/\us.length=63) (fun i _=>[(38,dI i)]) (fun _ us=>V.set iw (wObj w us)) (fun i _=>w.parents.length-i) (0) (us) (by exact⟨by omega,hus⟩) (fun i us hI=>?_);obtain⟨hi,hus⟩:=hI;have hwo:wObj w us=.cells (sl (cII w.parents)::sl (cI w.owner)::us.map (D.int .u64)):=rfl
  by_cases hil:i<w.parents.length
  ·have hrow:=EN (by simpa[Ca] using hg:w.parents.length<=16/\CD 0 w.parents=true).2 i hil;generalize hr:w.parents[i]=row at*;simp only[IC,Bool.and_eq_true,decide_eq_true_eq,Nat.zero_add]at hrow
   try refine gf hr ?_ o228
   refine Ab (JX 1 (3+i) _ (by omega)) (fun d S' h=>?_) (fun d S' h=>by obtain⟨⟨n,h⟩,_⟩:=h;cases h);obtain⟨⟨n,h⟩,rfl⟩:=h;simp only[DE.ret.injEq]at h;subst h
   try refine gf hr ?_ o228
   refine Br [1,4,6,7,36,37,38,39,40,41,42,43,44,45,46,47,77,78,79,80,81,82,83,84,85,86,87,88,89,90] (fun (k:Nat) (n:Int)=>k<=row.length/\E9 i (row.take k) (row.drop k)=true) (fun k n=>[(48,dI k),(8,.int .u64 n)]) (fun _ _=>V.set iw (wObj w us)) (fun k _=>row.length-k) (0) (n) (by exact⟨by omega,by simpa using hrow.2⟩) (fun k n hI=>?_);obtain⟨hk,hE⟩:=hI
   by_cases hkl:k<row.length
   ·rw[A3 hkl,E9,<-AR hkl]at hE;simp only[Bool.and_eq_true,decide_eq_true_eq,Bool.not_eq_true',decide_eq_false_iff_not]at hE;obtain⟨q,hq⟩:∃q:Nat,row[k]=(q:Int):=⟨(row[k]).toNat,by omega⟩;rw[hq]at hE
    have hget:(sl (cII w.parents)::sl (cI w.owner)::List.map (D.int IntKind.u64) us)[2+q]? = some (D.int IntKind.u64 (us[q]'(by omega))):=by
     rw[show 2+q=q+1+1 by omega,List.getElem?_cons_succ,List.getElem?_cons_succ,List.getElem?_map,List.getElem?_eq_getElem (by omega)];rfl
    try refine gf (gi hwo (gi hq (gi hE.1.2 hget))) ?_ o228
    exact⟨k+1,_,⟨by omega,hE.2⟩,td1,wkR⟩
   ·
    try refine gf (gi hr hwo) ?_ o228
    rw[show 2+(3+(i:Int)).toNat=2+(3+i) by omega,Ob _ _ _ _ (by omega)];exact⟨i+1,us.set (3+i) n,by simp;omega,td1,wkR⟩
  ·repeat' first|refine gz ?_|refine AE (Fd w.owner (fun c=>decide (3<=c/\c<3+w.parents.length)) 269 [.ptr iw 0] [] _ _ (by omega) (fun x _=>JW w us iw _ (w7 ..) x (by omega))) ?_|refine callP (Fd w.owner (fun c=>decide (3<=c/\c<3+w.parents.length)) 269 [.ptr iw 0] [] _ _ (by omega) (fun x _=>JW w us iw _ (w7 ..) x (by omega))) ?_|refine gz ?_ o228|apply gy<;>intro hh
   refine fin2 (S':=V.set iw (wObj w us)) ?_;refine⟨iw,us,hiw,?_,rfl⟩;rw[List.all_eq_true.2 fun c hc=>by have:=hoo c hc;simpa using this]
structure WorldOK(w:World):Prop where
 good:Ca w.parents=true
 len:∀x∈w.parents,x.length<=1073741824
 few:w.owner.length<=40
 own:∀c∈w.owner,3<=c/\c<3+w.parents.length
theorem Qi(w:World)(l:List Fact)(o:Own)(V:Sig)(h:WorldOK w)(hl:l.length<=1073741824)(hf:∀f∈l,f.wt<=1073741824):
  DCall prog 172 [.agg (Hl w),.slice (l.map Ba) o] V fun x S'=>(∃d,x=.ret (.tup [d,.bool (l.all (Ea w))]))/\S'=V:=by
 have hlen:=Hy h.good;have hfew:=h.few;refine en func172 ntmps172 ?_
 try refine gz ?_
 refine Ab (Qc w V h.good h.len h.few h.own) (fun d S' hr=>?_) (fun d S' hr=>by obtain⟨_,_,_,h,_⟩:=hr;cases h);obtain⟨iw,us,hiw,h1,rfl⟩:=hr;simp only[DE.ret.injEq]at h1;subst h1
 repeat' first|refine gz ?_|refine EX (K2 w us iw l o _ (w7 ..) (by omega) (by omega) hl hf) ?_|refine EY (K2 w us iw l o _ (w7 ..) (by omega) (by omega) hl hf) ?_|refine gz ?_|apply gy<;>intro hh
 refine fin2 (S':=V) ?_;exact⟨⟨_,rfl⟩,rfl⟩
theorem Up(w:World)(f:Fact)(V:Sig)(h:WorldOK w)(hf:f.wt<=1073741824):DCall prog 87 [.agg (Hl w),.agg (Ba f)] V (rS (dI (if Ea w f then 0 else 2)) V):=by
 refine en func87 ntmps87 ?_
 try refine gz ?_
 refine Ab (Qi w [f] .clip V h (by simp) (by simpa using hf)) (fun d S' hr=>?_) (fun d S' hr=>by obtain⟨⟨_,h⟩,_⟩:=hr;cases h);obtain⟨⟨e,h1⟩,h2⟩:=hr;simp only[DE.ret.injEq]at h1;subst h1;rw[h2]
 try refine gz ?_
 exact fe1 trivial
@[reducible,instance] def a87:=fun w f V=>ah2 (@Up w f V)
theorem Ki: ∀(cs:List BClass) (n m:Int),Cc n cs=some m->∀c∈cs,c.slots.length<=4
 |[],_,_,_,c,hc=>by simp at hc
 | x::r,n,m,h,c,hc=>by
  rw[Cc]at h;split at h
  ·cases h
  ·rename_i h4;split at h
   ·cases h
   ·rcases List.mem_cons.1 hc with rfl|hc
    ·omega
    ·exact Ki r _ _ h c hc
theorem Jy: ∀(cs:List BClass) (i:Nat),(∀c∈cs,c.slots.length<=4)->(ownersF cs i).length<=4*cs.length /\ ∀x∈ownersF cs i,3+(i:Int)<=x/\x<3+(i:Int)+cs.length
 |[],_,_=>by simp[ownersF]
 | c::r,i,h=>by
  obtain⟨h1,h2⟩:=Jy r (i+1) fun c hc=>h c (by simp[hc])
  have h3:=h c (by simp);rw[ownersF];refine⟨by simp only[List.length_append,List.length_replicate,List.length_cons];omega,fun x hx=>?_⟩;rcases List.mem_append.1 hx with hx|hx
  ·have:=List.eq_of_mem_replicate hx;simp only[List.length_cons];omega
  ·have:=h2 x hx;simp only[List.length_cons];omega
theorem QK{p:BProg}(hp:p.wt<=1073741824)(h:Av p=true):WorldOK (CE p):=by
 obtain⟨p1,p2,p3,p4,p5,p6,p7⟩:=p.wt_le;unfold Av at h;simp only[Bool.and_eq_true,decide_eq_true_eq]at h;obtain⟨h10,h⟩:=h;split at h
 ·cases h
 ·rename_i n hn;simp only[Bool.and_eq_true,decide_eq_true_eq]at h;obtain⟨⟨_,hg⟩,_⟩:=h;obtain⟨o1,o2⟩:=Jy p.classes 0 (Ki _ _ _ hn);refine⟨hg,fun x hx=>?_,by show(ownersF p.classes 0).length<=40;omega,fun c hc=>?_⟩
  ·obtain⟨c,hc,rfl⟩:=List.mem_map.1 (show x∈p.classes.map (·.parents) from hx);obtain⟨k,hk,rfl⟩:=List.getElem_of_mem hc;have:=p5 k hk;unfold BClass.wt at this;omega
  ·have:=o2 c hc
   show 3<=c/\c<3+((p.classes.map (·.parents)).length:Int);rw[List.length_map];omega
def Dz(p:BProg)(m:BMeth):Bool:=decide (1<=m.kind/\m.kind<=4)&&decide (0<=m.gen/\m.gen<p.gens.length)&&Ea (CE p) m.fact&&decide (m.fact.speaks<=p.gens.getD m.gen.toNat 0)
def Ce(p:BProg):List BMeth->List Int->Option (List Int)
 |[],s=>some s
 | m::r,s=>if Dz p m then (match optW (Dm p (decide (m.kind=1) || decide (m.kind=4)) 12 m.node (p.gens.getD m.gen.toNat 0) s) with
   |none=>none
   |some s'=>Ce p r s') else none
def CH(p:BProg):Option (List Int):=
 if Av p&&(decide (p.gens.length<=8)&&decide (p.methods.length<=16)&&decide (1<=p.nodes.length)&&decide (p.nodes.length<=120))&&p.gens.all (fun g=>decide (1<=g/\g<=3)) then
  match Ce p p.methods (List.replicate p.nodes.length (-1))with
  |none=>none
  |some s=>match optW (Dm p false 12 p.main 0 s)with
   |none=>none
   |some s2=>if -1∈s2 then none else some s2
 else none
def SzR(p:BProg)(io:Nat)(V:Sig)(x:DE)(S':Sig):Prop:=Keep (· = io) V S'/\(∃d,S' io=some (.cells [d])) /\
 match CH p with
 |none=>x=.panic unf
 |some s=>x=.ret (.tup [])/\S' io=some (.cells [sl (cI s)])
theorem RL (p:BProg) (io:Nat) (V:Sig) (hp:p.wt<=1073741824) (hio:V io=some (.cells [.nils])):DCall prog 79 [.cptr (Am p) 0, .ptr io 0] V (SzR p io V):=by
 obtain⟨p1,p2,p3,p4,p5,p6,p7⟩:=p.wt_le
 have hwc:∀c∈p.classes,c.parents.length<=1073741824/\c.slots.length<=1073741824/\c.inits.length<=1073741824:=fun c hc=>by
  obtain⟨k,hk,rfl⟩:=List.getElem_of_mem hc;have:=p5 k hk;have hwu:(p.classes[k]).wt=1+(p.classes[k]).parents.length+(p.classes[k]).slots.length+(p.classes[k]).inits.length:=rfl;omega
 have hwp:∀c∈p.classes,c.parents.length<=1073741824:=fun c hc=>(hwc c hc).1;have hws:∀c∈p.classes,c.slots.length<=1073741824:=fun c hc=>(hwc c hc).2.1;have hpan:CH p=none->∀S' d,Keep (· = io) V S'->S' io=some (.cells [d])->SzR p io V (.panic unf) S':=fun h S' d hK hd=>⟨hK,⟨d,hd⟩,by rw[h]⟩
 refine en func79 ntmps79 ?_;cases hc:Av p with
 |false=>
  have hL:CH p=none:=by unfold CH;rw[hc];rfl
  repeat' first|(exact finP (S':=V) (hpan hL _ _ (Keep.refl _ _) hio))|refine gf hc ?_ o79|apply gy<;>intro hh
 | true =>
  have hW:=QK hp hc
  by_cases hh4:p.gens.length<=8/\p.methods.length<=16/\1<=p.nodes.length/\p.nodes.length<=120
  ·have hL0:CH p=if p.gens.all (fun g=>decide (1<=g/\g<=3)) then
     match Ce p p.methods (List.replicate p.nodes.length (-1))with
     |none=>none
     |some s=>match optW (Dm p false 12 p.main 0 s)with
      |none=>none
      |some s2=>if -1∈s2 then none else some s2
    else none:=by unfold CH;rw[hc];simp[hh4]
   try refine gf hc ?_ o79
   refine Bj [0,1,4,5,7,34,35,48,49,50,51,52,53,54,55,56,57,58,59,60,61,62,63,64,65,66,67,68,69,70,71,72,73,74,75,76,77,78,79,80,81,82,83,84,85,86,87,88,89,90,91,92,93,94,95,96,97,98,99,100,101,102,103,104,105,106,107,108,109,110,111,112,113,114,115,116,117,118,119,120,121,122,123,124,125,126,127,128,129] (fun (i:Nat)=>i<=p.gens.length/\p.gens.all (fun g=>decide (1<=g/\g<=3))=(p.gens.drop i).all (fun g=>decide (1<=g/\g<=3))) (fun i=>[(36,dI i)]) (fun _=>V) (fun i=>p.gens.length-i) (0) td3 (fun i hI=>?_);obtain⟨hi,hA⟩:=hI
   by_cases hil:i<p.gens.length
   ·rw[A3 hil,List.all_cons]at hA
    by_cases hq:1<=p.gens[i]/\p.gens[i]<=3
    ·rw[decide_eq_true hq,Bool.true_and]at hA
     try refine gz ?_ o79
     exact⟨i+1,⟨by omega,hA⟩,td1,wkR⟩
    ·rw[decide_eq_false hq,Bool.false_and]at hA;have hL:CH p=none:=by rw[hL0,hA];rfl
     repeat' first|(exact finP (S':=V) (hpan hL _ _ (Keep.refl _ _) hio))|refine gz ?_ o79|apply gy<;>intro hh
     all_goals (exfalso;omega)
   ·rw [A2 hil,List.all_nil] at hA;rw[hA,if_pos rfl]at hL0;have hall:=hA
    try refine gz ?_ o79
    refine callWP (Ut p.nodes.length V (by omega) (by omega)) (fun d S' hr=>?_) (fun d S' hr=>by obtain⟨r,_,h,_⟩:=hr;cases h);obtain⟨r,hr0,h1,rfl⟩:=hr;simp only[DE.ret.injEq]at h1;subst h1;have hior:io≠r:=fun e=>by rw[e,hr0]at hio;cases hio
    have hof:(ownersF p.classes 0).length<=40:=hW.few
    try refine gf (gi hio hior) ?_ o79
    refine FG [0,1,4,5,57,58,122,123,124,125,126,127,128,129] (fun (i:Nat) (s:List Int) (S1:Sig)=>i<=p.methods.length/\s.length=p.nodes.length/\Keep (· = io) V S1/\S1 io=some (.cells [.sref r 0 p.nodes.length p.nodes.length])/\S1 r=some (.cells (s.map dI))/\Ce p p.methods (List.replicate p.nodes.length (-1))=Ce p (p.methods.drop i) s) (fun i _ _=>[(59,dI i)]) (fun _ _ S1=>S1) (fun i _ _=>p.methods.length-i) (0) (List.replicate p.nodes.length (-1)) (_) (by exact⟨by omega,by simp,((Keep.refl _ V).fresh hr0).trans (fun j o h1 h2=>by rw[w8 _ _ h2];exact h1),w7 .., by rw[w8 _ _ (Ne.symm hior),w7],rfl⟩) (fun i s S1 hI=>?_);clear hil;obtain⟨hi,hsl,hK1,hio1,hr1,hM⟩:=hI
    by_cases hil:i<p.methods.length
    ·rw [A3 hil,Ce] at hM;have hmw:=p6 i hil;generalize hm:p.methods[i]=m at*;have hfw:m.fact.wt<=1073741824:=by unfold BMeth.wt at hmw;omega
     have hsz:=Fact.size_le m.fact;cases hok:Dz p m with
     | false =>
      rw[hok]at hM;have hL:CH p=none:=by rw[hL0,hM];rfl
      repeat' first|(exact finP (S':=S1) (hpan hL _ _ hK1 hio1))|refine gf hm ?_ o79|apply gy<;>intro hh
      all_goals
       exfalso
       rename_i k1 k2 k3 k4 k5 k6;revert hok;simp only[Dz];rw[decide_eq_true (by omega),decide_eq_true (by omega),k5,decide_eq_true (by rw[List.getD_eq_getElem?_getD,List.getElem?_eq_getElem (by omega)];exact k6)];simp
     | true =>
      rw[hok,if_pos rfl]at hM;simp only[Dz,Bool.and_eq_true,decide_eq_true_eq]at hok;obtain⟨⟨⟨hk,hgn⟩,hfp⟩,hsp⟩:=hok;have hgg:p.gens.getD m.gen.toNat 0=p.gens[m.gen.toNat]'(by omega):=by rw[List.getD_eq_getElem?_getD,List.getElem?_eq_getElem (by omega)];rfl
      rw[hgg]at hsp hM
      have hg3:1<=p.gens[m.gen.toNat]'(by omega)/\p.gens[m.gen.toNat]'(by omega)<=3:=by
       have:=List.all_eq_true.1 hall _ (List.getElem_mem (show m.gen.toNat<p.gens.length by omega));simpa using this
      repeat' first|refine gf (gi hm hfp) ?_ o79|apply gy<;>intro hh
      ·have hb:(decide (m.kind=1)||decide (m.kind=4))=true:=by simp[hh]
       rw[hb]at hM;refine Ab (L7 p io r (true) m.node (p.gens[m.gen.toNat]'(by omega)) s S1 hp hio1 hr1 hsl hior (by omega) (by omega)) (fun d S' hr=>?_) (fun d S' hr=>?_)
       ·obtain⟨s',hs',rfl,⟨q1,q2,q3⟩,_⟩:=hr.ret;rw[hs']at hM
        try refine gz ?_ o79
        exact⟨i+1,s',S',⟨by omega,q2,fun j o h1 h2=>q3 j o (hK1 j o h1 h2) (fun e=>by rw[e,hr0]at h1;cases h1),q3 io _ hio1 hior,q1,hM⟩,td1,wkR⟩
       ·obtain⟨hn,rfl,hb⟩:=hr.pan;rw[hn]at hM;exact finP (S':=S') (hpan (by rw[hL0,hM]) _ _ (fun j o h1 h2=>hb j o (hK1 j o h1 h2) (fun e=>by rw[e,hr0]at h1;cases h1)) (hb io _ hio1 hior))
      ·have hb:(decide (m.kind=1)||decide (m.kind=4))=decide (m.kind=4):=by simp[hh]
       rw[hb]at hM;refine Ab (L7 p io r (decide (m.kind=4)) m.node (p.gens[m.gen.toNat]'(by omega)) s S1 hp hio1 hr1 hsl hior (by omega) (by omega)) (fun d S' hr=>?_) (fun d S' hr=>?_)
       ·obtain⟨s',hs',rfl,⟨q1,q2,q3⟩,_⟩:=hr.ret;rw[hs']at hM
        try refine gz ?_ o79
        exact⟨i+1,s',S',⟨by omega,q2,fun j o h1 h2=>q3 j o (hK1 j o h1 h2) (fun e=>by rw[e,hr0]at h1;cases h1),q3 io _ hio1 hior,q1,hM⟩,td1,wkR⟩
       ·obtain⟨hn,rfl,hb⟩:=hr.pan;rw[hn]at hM;exact finP (S':=S') (hpan (by rw[hL0,hM]) _ _ (fun j o h1 h2=>hb j o (hK1 j o h1 h2) (fun e=>by rw[e,hr0]at h1;cases h1)) (hb io _ hio1 hior))
    ·rw[A2 hil,Ce]at hM;rw[hM]at hL0;simp only at hL0
     try refine gz ?_ o79
     refine Ab (L7 p io r false p.main 0 s S1 hp hio1 hr1 hsl hior (by omega) (by omega)) (fun d S' hr=>?_) (fun d S' hr=>?_)
     ·obtain⟨s2,hs2,rfl,⟨q1,q2,q3⟩,_⟩:=hr.ret;rw[hs2]at hL0;simp only at hL0;have hK2:Keep (· = io) V S':=fun j o h1 h2=>q3 j o (hK1 j o h1 h2) (fun e=>by rw[e,hr0]at h1;cases h1)
      have hio2:=q3 io _ hio1 hior
      have hsig:S'=mS (S'.del r) (some (r,p.nodes.length,[])) (cI s2):=by
       funext j
       by_cases hj:j=r
       ·subst hj;rw[mS,w7,q1,Fi,List.append_nil]
       ·rw[mS,w8 _ _ hj];simp[Sig.del,hj]
      rw[hsig]
      have hdio:(S'.del r) io=some (.cells ([]++mD (some (r,p.nodes.length,[])) (cI s2).length::[])):=by
       simp only[Sig.del,hior,if_false,mD,Kn,q2];exact hio2
      have hmo:mOK (S'.del r) 1 (some (r,p.nodes.length,[])) (cI s2):=⟨by simp[Sig.del],by rw[Fi];simp[q2],by simp[q2],C4 _⟩
      have hK3:Keep (· = io) V ((S'.del r).set io (.cells [sl (cI s2)])):=fun j o h1 h2=>by
       have hjr:¬j=r:=fun e=>by rw[e,hr0]at h1;cases h1
       rw[w8 _ _ h2];simp only[Sig.del,hjr,if_false];exact hK2 j o h1 h2
      refine mfrC [] [] ?_ hdio hmo;simp only[List.nil_append]
      by_cases hm1 : -1∈s2
      ·rw[if_pos hm1]at hL0
       repeat' first|(exact finP (S':=(S'.del r).set io (.cells [sl (cI s2)])) (hpan hL0 _ _ hK3 (w7 ..)))|refine gf hm1 ?_ o79|apply gy<;>intro hh
      ·rw[if_neg hm1]at hL0
       try refine gf hm1 ?_ o79
       refine Dl (S':=(S'.del r).set io (.cells [sl (cI s2)])) ?_;exact⟨hK3,⟨_,w7 ..⟩,by rw[hL0];exact⟨rfl,w7 ..⟩⟩
     ·obtain⟨hn,rfl,hb⟩:=hr.pan;rw[hn]at hL0;exact finP (S':=S') (hpan hL0 _ _ (fun j o h1 h2=>hb j o (hK1 j o h1 h2) (fun e=>by rw[e,hr0]at h1;cases h1)) (hb io _ hio1 hior))
  ·have hL:CH p=none:=by unfold CH;rw[if_neg];simp only[Bool.and_eq_true,decide_eq_true_eq];omega
   repeat' first|(exact finP (S':=V) (hpan hL _ _ (Keep.refl _ _) hio))|refine gf hc ?_ o79|apply gy<;>intro hh
   all_goals (exfalso;omega)
theorem Mj(p:BProg)(V:Sig)(hp:p.wt<=1073741824):DCall prog 42 [.agg (Am p)] V fun x S'=>(∃d,x=.ret (.tup [d,.bool (CH p).isSome]) /\ ∀s,CH p=some s->d=sl (cI s))/\S'=V:=by
 refine en func42 ntmps42 ?_
 try refine gz ?_ [] [4]
 refine newV (fun io hio=>?_)
 try refine gz ?_ [] [4]
 refine Ab (Uw 79 [.cptr (Am p) 0,.ptr io 0] (V.set io (.cells [.nils])) (fun S1=>SzR p io S1) (fun i hi=>RL p io _ hp (by rw[w8 _ _ fun e=>by rw[e]at hi;rw[w7 ..]at hi;cases hi];exact w7 ..)) (fun S1 d S2 h=>?_) (fun i S2 x hi h=>h.1 i _ (w7 ..) (fun e=>by rw[e,w7]at hi;cases hi))) (fun d S' hr=>?_) (fun d S' hr=>?_)
 ·obtain⟨_,_,h⟩:=h;split at h
  ·simpa using h
  ·exact absurd h.1 (by simp)
 ·obtain⟨i,S2,hi,rfl,hr⟩:=hr;rcases hr with⟨e,⟨hK,⟨d0,hd0⟩,h⟩,h2⟩|⟨⟨hK,⟨d0,hd0⟩,h⟩,h2⟩
  ·simp only[DE.ret.injEq]at h2;subst h2;cases hL:CH p with
   |none=>rw[hL]at h;exact absurd h (by simp)
   | some s =>
    rw[hL]at h;obtain⟨_,hio2⟩:=h;have hii:io≠i:=fun e=>by rw[<-e,w7]at hi;cases hi
    have hio3:(S2.del i) io=some (.cells [sl (cI s)]):=by simp only[Sig.del,hii,if_false];exact hio2
    try refine gf hio3 ?_ [] [4]
    refine fin2 (S':=V) ?_ (hU:=?_)
    ·exact⟨⟨_,rfl,fun s' h=>by cases h;rfl⟩,rfl⟩
    ·intro j o hj;have e1:j≠io:=fun e=>by rw[e,hio]at hj;cases hj
     have e2:=hK j o (by rw[w8 _ _ (fun e=>by rw[e]at hj;rw[w8 _ _ (Ne.symm hii),hj]at hi;cases hi),w8 _ _ e1];exact hj) e1;simp only[Sig.del];rw[if_neg (fun e=>by rw[e]at hj;rw[w8 _ _ (Ne.symm hii),hj]at hi;cases hi)];exact e2
  ·simp only[DE.ret.injEq]at h2;subst h2;have hii:io≠i:=fun e=>by rw[<-e,w7]at hi;cases hi
   have hio3:(S2.del i) io=some (.cells [d0]):=by simp only[Sig.del,hii,if_false];exact hd0
   have hL:CH p=none:=by
    cases hL:CH p with
    |none=>rfl
    |some s=>rw[hL]at h;exact absurd h.1 (by simp)
   rw[hL]
   try refine gf hio3 ?_ [] [4]
   refine fin2 (S':=V) ?_ (hU:=?_)
   ·exact⟨⟨_,rfl,fun s' h=>by cases h⟩,rfl⟩
   ·intro j o hj;have e1:j≠io:=fun e=>by rw[e,hio]at hj;cases hj
    have e2:=hK j o (by rw[w8 _ _ (fun e=>by rw[e]at hj;rw[w8 _ _ (Ne.symm hii),hj]at hi;cases hi),w8 _ _ e1];exact hj) e1;simp only[Sig.del];rw[if_neg (fun e=>by rw[e]at hj;rw[w8 _ _ (Ne.symm hii),hj]at hi;cases hi)];exact e2
 ·obtain⟨i,S2,hi,rfl,hr⟩:=hr;rcases hr with⟨e,_,h2⟩|⟨_,h2⟩<;>cases h2
theorem TL{a b:List D}(h:WkL a b):WkD (.agg a) (.agg b):=fun _ _ ⟨vs,e,hr⟩=>⟨vs,e,h.rep hr⟩
theorem GB{a b:List D}(h:WkL a b):WkD (.tup a) (.tup b):=fun _ _ ⟨vs,e,hr⟩=>⟨vs,e,h.rep hr⟩
def okP(p:BProg):Bool:=(CH p).isSome
theorem Df{p:BProg}(h:okP p=true):Av p=true:=by
 unfold okP CH at h;cases hc:Av p
 ·rw[hc]at h;simp at h
 ·rfl
theorem Lc(p:BProg)(V:Sig)(hp:p.wt<=1073741824:=by exact sd):DCall prog 13 [.agg (Am p)] V (rS (dI (if okP p then 0 else 2)) V):=by
 refine en func13 ntmps13 ?_
 try refine gz ?_
 refine Ab (Mj p V hp) (fun d S' hr=>?_) (fun d S' hr=>by obtain⟨⟨_,h,_⟩,_⟩:=hr;cases h);obtain⟨⟨d,h1,h2⟩,h3⟩:=hr;simp only[DE.ret.injEq]at h1;subst h1;rw[h3];cases hk:okP p<;>unfold okP at hk<;>rw[hk]
 ·try refine gz ?_
  exact fe1 trivial
 ·try refine gz ?_
  exact fe1 trivial
@[reducible,instance] def a13:=fun p V=>ah1 (@Lc p V)
theorem P3(p:BProg)(V:Sig)(hp:p.wt<=1073741824:=by exact sd):DCall prog 11 [.agg (Am p)] V (rS (.tup [sl (cI ((CH p).getD [])),dI (MJ (CH p))]) V):=by
 refine en func11 ntmps11 ?_
 try refine gz ?_
 refine Ab (Mj p V hp) (fun d S' hr=>?_) (fun d S' hr=>by obtain⟨⟨_,h,_⟩,_⟩:=hr;cases h);obtain⟨⟨d,h1,h2⟩,h3⟩:=hr;simp only[DE.ret.injEq]at h1;subst h1;rw[h3];cases hL:CH p with
 |none=>
  try refine gz ?_
  (refine fin2 (S':=V) (d':=sl []) ?_;exact⟨by first|rfl|(simp[MJ];done)|(simp_all [MJ];done)|(rw[Ae,Bool.eq_iff_iff];simp_all [MJ]<;>omega),rfl⟩)
 |some s=>
  obtain rfl:=h2 s hL
  try refine gz ?_
  (refine fin2 (S':=V) (d':=sl (cI s)) ?_;exact⟨by first|rfl|(simp[MJ];done)|(simp_all [MJ];done)|(rw[Ae,Bool.eq_iff_iff];simp_all [MJ]<;>omega),rfl⟩)
@[reducible,instance] def a11:=fun p V=>ah1 (@P3 p V)
theorem UC(p:BProg)(c:Int)(V:Sig)(hp:p.wt<=1073741824:=by exact sd):DCall prog 61 [.agg (Am p),dI c] V (rS (.bool (ownF p c&&okP p)) V):=by
 obtain⟨p1,p2,p3,p4,p5,p6,p7⟩:=p.wt_le;refine en func61 ntmps61 ?_;cases hk:okP p
 ·repeat' first|refine gf hk ?_|apply gy<;>intro hh
  any_goals (first|(refine fin1 (S':=V) ?_;exact⟨by first|rfl|(simp[ownF];done)|(simp_all [ownF];done)|(rw[Ae,Bool.eq_iff_iff];simp_all [ownF]<;>omega),rfl⟩)|fail)
 ·repeat' first|refine gf hk ?_|apply gy<;>intro hh
  any_goals (first|(refine fin1 (S':=V) ?_;exact⟨by first|rfl|(simp[ownF];done)|(simp_all [ownF];done)|(rw[Ae,Bool.eq_iff_iff];simp_all [ownF]<;>omega),rfl⟩)|fail)
@[reducible,instance] def a61:=fun p c V=>ah1 (@UC p c V)
theorem P0(p:BProg)(c:Int)(V:Sig)(hp:p.wt<=1073741824:=by exact sd):DCall prog 23 [.agg (Am p),dI c] V (rS (.tup [sl (cI (if ownF p c&&okP p then hasP p c else [])),dI (if ownF p c&&okP p then 0 else 2)]) V):=by
 refine en func23 ntmps23 ?_;cases hk:ownF p c&&okP p
 ·try refine gf hk ?_
  exact fe2 (d':=sl []) trivial
 ·have ho:3<=c/\c<3+p.classes.length:=by simp only[ownF,Bool.and_eq_true,decide_eq_true_eq]at hk;exact hk.1
  obtain⟨h1,h2⟩:=ho
  try refine gf hk ?_
  exact fe2 trivial
@[reducible,instance] def a23:=fun p c V=>ah1 (@P0 p c V)
theorem OY(p:BProg)(V:Sig)(hp:p.wt<=1073741824:=by exact sd):DCall prog 37 [.agg (Am p)] V (rS (.tup [.agg (Hl (if okP p then CE p else⟨[],[]⟩)),dI (if okP p then 0 else 2)]) V):=by
 obtain⟨p1,p2,p3,p4,p5,p6,p7⟩:=p.wt_le;refine en func37 ntmps37 ?_
 try refine gz ?_ [] [2]
 refine newV (fun i hi=>?_)
 repeat' first|refine gz ?_ [] [2]|apply gy<;>intro hh
 ·rw[hh];refine finC (S':=V) (d:=.tup [.agg (Hl ⟨[],[]⟩),dI 2]) ⟨rfl,rfl⟩ (hw:=?_);exact GB ⟨TL ⟨Aq _ (.inl rfl),Aq _ (.inl rfl),trivial⟩,A7 _,trivial⟩
 ·have hW:=QK hp (Df hh);have hof:(ownersF p.classes 0).length<=40:=hW.few
  have hwc:∀c∈p.classes,c.parents.length<=1073741824/\c.slots.length<=1073741824:=fun c hc=>by
   obtain⟨k,hk,rfl⟩:=List.getElem_of_mem hc;have:=p5 k hk;unfold BClass.wt at this;omega
  have hwp:∀c∈p.classes,c.parents.length<=1073741824:=fun c hc=>(hwc c hc).1;have hws:∀c∈p.classes,c.slots.length<=1073741824:=fun c hc=>(hwc c hc).2;rw[hh]
  try refine gz ?_ [] [2]
  refine finC (S':=V) (d:=.tup [.agg (Hl (CE p)),dI 0]) ⟨rfl,rfl⟩
@[reducible,instance] def a37:=fun p V=>ah1 (@OY p V)
theorem Qj{S:Type}(l:List Int)(lb:Nat)(u:D)(Good:Sig->S->Prop)(Bad:Sig->Prop)(touch:Nat->Prop)(step:Int->S->S)(hl:l.length<=1073741824)
  (hy:∀(k:Nat) (hk:k<l.length) V s,Good V s->DYield prog lb [dI k,dI l[k]] V (OutO u (.bool true) Good Bad touch V (some (step l[k] s)))) (V:Sig) (s:S) (hG:Good V s) :
  DCall prog 152 [.yld lb,.cptr [sl (cI l)] 0] V (OutO u (.tup []) Good Bad touch V (some (l.foldr step s))):=by
 refine en func152 ntmps152 ?_
 try refine gz ?_
 refine FG [0,1] (fun (k:Nat) (s1:S) (S1:Sig)=>k<=l.length/\Good S1 s1/\l.foldr step s=(l.take k).foldr step s1/\(∀j o,V j=some o->¬touch j->S1 j=some o)) (fun k _ _=>[(3,dI ((k:Int)-1))]) (fun _ _ S1=>S1) (fun k _ _=>k) (l.length) (s) (V) (by exact⟨by omega,hG,by simp,fun _ _ h _=>h⟩) (fun k s1 S1 hI=>?_);obtain⟨hk,hG1,hR,hK⟩:=hI;cases k with
 |zero=>
  try refine gz ?_
  refine Dl (S':=S1) ?_;exact⟨rfl,by rw[hR];exact hG1,hK⟩
 |succ k=>
  have hkl:k<l.length:=by omega
  have e:((k+1:Nat):Int)-1=k:=by omega
  rw[List.take_succ_eq_append_getElem hkl,List.foldr_append]at hR
  try refine gf e ?_
  refine yldW (hy k hkl S1 s1 hG1) (fun d S' hr=>?_) (fun d S' hr=>by obtain⟨h,_⟩:=hr.pan;cases h);obtain⟨s2,hs2,rfl,hG2,hK2⟩:=hr.ret;cases hs2
  try refine gf e ?_
  exact⟨k,_,S',⟨by omega,hG2,hR,fun j o h1 h2=>hK2 j o (hK j o h1 h2) h2⟩,td1,wkR⟩
theorem UA(l:List Int)(V:Sig):DCall prog 64 [sl (cI l)] V (rS (.func (.func 152) [] [.cptr [sl (cI l)] 0]) V):=by
 refine en func64 ntmps64 ?_
 try refine gz ?_
 exact fe1 trivial
@[reducible,instance] def a64:=fun l V=>ah0 (@UA l V)
def E2:List Init->List (Int×Int)->List (Int×Int)
 |[],m=>m
 |x::r,m=>E2 r (putM x.slot x.n m)
def DQ(p:BProg)(c:Int)(m:List (Int×Int)):List (Int×Int):=if 3<=c then E2 (((p.classes[(c-3).toNat]?).map (·.inits)).getD []) m else m
def Me(p:BProg)(order:List Int):List (Int×Int):=order.foldr (DQ p) []
def Hm(m:List (Int×Int)):List Int->List Init
 |[]=>[]
 |s::r=>if hasM s m then⟨s,getM 0 s m⟩::Hm m r else Hm m r
def J9(p:BProg)(c:Int):List Init:=Hm (Me p (linF (p.classes.map (·.parents)) c)) (hasP p c)
theorem Gi{p:BProg}: ∀{cs:List BClass}{i:Nat},AS p i cs=true->∀k,k<cs.length->linE (p.classes.map (·.parents)) (((i+k:Nat):Int)+3)=0
 |c::r,i,h,0,_=>by rw[AS]at h;simp only[Bool.and_eq_true,decide_eq_true_eq]at h;exact h.1.1
 |c::r,i,h,k+1,hk=>by
  rw[AS]at h;simp only[Bool.and_eq_true,decide_eq_true_eq]at h;have:=Gi h.2 k (by simpa using hk);rw[show i+(k+1)=i+1+k by omega];exact this
theorem okP_lin{p:BProg}(h:okP p=true){c:Int}(h1:3<=c)(h2:c<3+p.classes.length):linE (p.classes.map (·.parents)) c=0/\Ca (p.classes.map (·.parents))=true:=by
 have h:=Df h;unfold Av at h;simp only[Bool.and_eq_true,decide_eq_true_eq]at h;obtain⟨_,h⟩:=h;split at h
 ·cases h
 ·simp only[Bool.and_eq_true,decide_eq_true_eq]at h;have:=Gi h.2 (c-3).toNat (by omega);rw[show(((0+(c-3).toNat:Nat):Int)+3)=c by omega]at this;exact⟨this,h.1.2⟩
theorem Mf{P:Program}{n:Nat}{fn:Func}{R:DE->Sig->Prop}{γ:Fr}{V S':Sig}{d d':D}(js:List Nat)(hR:R (.ret d') S')(hU:Sub S' (dels js V))(hn:js.Nodup:=by simp)(hd:∀j∈js,V j=some .defs:=by simp)(h:resD fn γ=some d:=by exact tdR)(hw:WkD d d'): ∃s',Wk P n ⟨γ,V,js.map .coll⟩ s'/\QG P n fn (Weak R) .ret s':=
 ⟨_,Wk.refl _ _ _,js,rfl,hn,hd,d,E1 h,.ret d',S',hw,hU,hR⟩
theorem La(p:BProg)(c:Int)(V:Sig)(hp:p.wt<=1073741824:=by exact sd):DCall prog 25 [.agg (Am p),dI c] V (rS (.tup [sl ((if ownF p c&&okP p then J9 p c else []).map CP),dI (if ownF p c&&okP p then 0 else 2)]) V):=by
 obtain⟨p1,p2,p3,p4,p5,p6,p7⟩:=p.wt_le
 have hwc:∀c∈p.classes,c.parents.length<=1073741824/\c.slots.length<=1073741824/\c.inits.length<=1073741824:=fun c hc=>by
  obtain⟨k,hk,rfl⟩:=List.getElem_of_mem hc;have:=p5 k hk;unfold BClass.wt at this;omega
 have hwp:∀c∈p.classes,c.parents.length<=1073741824:=fun c hc=>(hwc c hc).1;have hwg:∀x∈p.classes.map (·.parents),x.length<=1073741824:=fun x hx=>by obtain⟨c,hc,rfl⟩:=List.mem_map.1 hx;exact(hwc c hc).1
 refine AX func25 rfl (by decide) ntmps25 (by simp) ?_;cases hk:ownF p c&&okP p
 ·try refine gf hk ?_
  refine Mf [] (S':=V) ⟨rfl,rfl⟩ (Sub.refl _) (hw:=?_);exact GB ⟨Aq _ (.inl rfl),A7 _,trivial⟩
 ·have ho:3<=c/\c<3+p.classes.length:=by simp only[ownF,Bool.and_eq_true,decide_eq_true_eq]at hk;exact hk.1
  have hok:okP p=true:=by simp only[Bool.and_eq_true]at hk;exact hk.2
  obtain⟨h1,h2⟩:=ho;obtain⟨hlin,hgood⟩:=okP_lin hok h1 h2
  have hlm:linF (p.classes.map (·.parents)) c=LX (p.classes.map (·.parents)) c:=by
   unfold linF;rw[if_pos ⟨hgood,by omega,by rw[List.length_map];omega⟩]
  have hmem:∀y∈linF (p.classes.map (·.parents)) c,0<=y/\y<3+p.classes.length:=fun y hy=>by
   rw[hlm]at hy;obtain⟨x,hx,hy⟩:=Id hy;have:=Ic hgood _ x hx y hy;rw[List.length_map]at this;omega
  have hll:(linF (p.classes.map (·.parents)) c).length<=80000000:=by rw[hlm];exact E3 hgood (Nat.le_refl _) (by omega)
  have hhl:=IA p c;have ws:=Kw p
  try refine gf (gi hk hlin) ?_
  refine newIN (fun im him=>?_)
  try refine gf (gi hk hlin) ?_
  refine Kb (u:=unf) (fun did S' m=>S' im=some (.map (eIN m))/\Keep (· = im) ((V.set im (.map (eIN []))).set did .defs) S') (fun did S'=>False) (· = im) (some (Me p (linF (p.classes.map (·.parents)) c))) rfl (fun l did hd hl hld LO hLO=>?_) (fun l did m S' ho hd hl hld hG=>?_) (fun did S' ho hd hb=>hb.elim)
  ·refine Qj (linF (p.classes.map (·.parents)) c) l unf _ _ _ (DQ p) (by omega) (fun k hk S1 m1 hG=>?_) _ [] ?_
   ·obtain⟨hl1,hm1,hK1⟩:=hG;refine DD hLO hl1 ?_;clear hLO
    try refine gz ?_
    refine⟨hl1,?_⟩;have hy:=hmem _ (List.getElem_mem hk);generalize (linF (p.classes.map (·.parents)) c)[k]=y at*;have hli:l≠im:=fun e=>by rw[e,w7]at hl;cases hl
    have hmi:(S1.set l (BG LO)) im=some (.map (eIN m1)):=by rw[w8 _ _ (Ne.symm hli)];exact hm1
    have hfin:∀m,(((S1.set l (BG LO)).set im (.map (eIN m))) l=some (BG LO))/\((((S1.set l (BG LO)).set im (.map (eIN m))).set l LO) l=some LO/\(((S1.set l (BG LO)).set im (.map (eIN m))).set l LO) im=some (.map (eIN m))/\Keep (· = im) ((V.set im (.map (eIN []))).set did .defs) (((S1.set l (BG LO)).set im (.map (eIN m))).set l LO))/\Keep (· = im) S1 (((S1.set l (BG LO)).set im (.map (eIN m))).set l LO):=fun m=>by
     have hK2:Keep (· = im) S1 (((S1.set l (BG LO)).set im (.map (eIN m))).set l LO):=fun j o h1 h2=>by
      by_cases hj:j=l
      ·rw[hj]at h1⊢; rw[w7,<-h1,hl1]
      ·rw[w8 _ _ hj,w8 _ _ h2,w8 _ _ hj];exact h1
     exact⟨by rw[w8 _ _ hli,w7],⟨w7 .., by rw[w8 _ _ (Ne.symm hli),w7],hK1.trans hK2⟩,hK2⟩
    rw[<-Sig.set_self _ hmi]
    by_cases hy3:3<=y
    ·obtain⟨q,rfl⟩:∃q:Nat,y=3+(q:Int):=⟨(y-3).toNat,by omega⟩;have hq:q<p.classes.length:=by omega
     have hst:DQ p (3+q) m1=E2 (p.classes[q]).inits m1:=by
      unfold DQ;rw[if_pos (by omega),show(3+(q:Int)-3).toNat=q by omega,List.getElem?_eq_getElem hq];rfl
     rw[hst];have hinl:=(hwc _ (List.getElem_mem hq)).2.2;generalize hin:(p.classes[q]).inits=ins' at*;have hq3:3+(q:Int)-3=q:=by omega
     try refine gf (gi hq3 hin) ?_
     refine Br [1,2,4,5,8,13,15,16,17,45,46,57,58,59,60,61,62,63,64,65,66,67,68,69,70,71,72,73,74,75,76,77,78,79,80] (fun (j:Nat) (m:List (Int×Int))=>j<=ins'.length/\E2 ins' m1=E2 (ins'.drop j) m) (fun j _=>[(47,dI j)]) (fun _ m=>(S1.set l (BG LO)).set im (.map (eIN m))) (fun j _=>ins'.length-j) (0) (m1) (by simp) (fun j m hI=>?_);obtain⟨hj,hJ⟩:=hI
     by_cases hjl:j<ins'.length
     ·rw[A3 hjl,E2]at hJ
      try refine gf hin ?_
      exact⟨j+1,_,⟨by omega,hJ⟩,td1,wkR⟩
     ·rw[A2 hjl,E2]at hJ
      try refine gf hin ?_
      rw[hJ];exact⟨(hfin m).1,rfl,(hfin m).2⟩
    ·have hst:DQ p y m1=m1:=by unfold DQ;rw[if_neg hy3]
     rw[hst]
     try refine gz ?_
     exact⟨(hfin m1).1,rfl,(hfin m1).2⟩
   ·have hli:im≠l:=fun e=>by rw[<-e,w7]at hl;cases hl
    have hdi:im≠did:=fun e=>by rw[<-e,w7]at hd;cases hd
    exact⟨w7 .., by rw[w8 _ _ hli,w8 _ _ hdi,w7],(Keep.refl _ _).fresh (by rw[w8 _ _ hld];exact hl)⟩
  ·cases ho;have hli:im≠l:=fun e=>by rw[<-e,w7]at hl;cases hl
   have hdi:im≠did:=fun e=>by rw[<-e,w7]at hd;cases hd
   have hmd:(S'.del l) im=some (.map (eIN (Me p (linF (p.classes.map (·.parents)) c)))):=by simp only[Sig.del,hli,if_false];exact hG.1
   have hdd:(S'.del l) did=some .defs:=by simp only[Sig.del,Ne.symm hld,if_false];exact hG.2 did _ (w7 ..) (Ne.symm hdi)
   have hbeg:J9 p c=Hm (Me p (linF (p.classes.map (·.parents)) c)) (hasP p c):=rfl
   have hfr:∀j o,V j=some o->(S'.del l) j=some o/\j≠did:=fun j o h=>by
    have e1:j≠im:=fun e=>by rw[e,him]at h;cases h
    have e2:j≠did:=fun e=>by rw[e]at h;rw[w8 _ _ (Ne.symm hdi),h]at hd;cases hd
    have e3:j≠l:=fun e=>by rw[e]at h;rw[w8 _ _ (Ne.symm hli),h]at hl;cases hl
    refine⟨?_,e2⟩;simp only[Sig.del,e3,if_false];exact hG.2 j o (by rw[w8 _ _ e2,w8 _ _ e1];exact h) e1
   generalize Me p (linF (p.classes.map (·.parents)) c)=m at*;generalize hhe:hasP p c=hs' at*
   try refine gf hhe ?_
   refine Cj 13 2 (fun ix hix=>?_);have hxi:im≠ix:=fun e=>by rw[<-e,hmd]at hix;cases hix
   have hxd:did≠ix:=fun e=>by rw[<-e,hdd]at hix;cases hix
   refine Br [4,5,8,59,60,79,80] (fun (k:Nat) (out:List Init)=>k<=hs'.length/\out.length<=k/\Hm m hs'=out++Hm m (hs'.drop k)) (fun k out=>[(61,dI k),(13,.slice (out.map CP) (.tag ix))]) (fun _ out=>(S'.del l).set ix (.tail 2 out.length)) (fun k _=>hs'.length-k) (0) ([]) (by simp) (fun k out hI=>?_);obtain⟨hk,hlen,hR⟩:=hI
   by_cases hkl:k<hs'.length
   ·rw[A3 hkl,Hm]at hR
    repeat' first|refine gf (gi hmd (gi hxi hhe)) ?_|apply gy<;>intro hh
    ·rw[hh,if_pos rfl]at hR;exact⟨k+1,out++[⟨hs'[k],getM 0 hs'[k] m⟩],⟨by omega,by simp;omega,by rw[hR];simp⟩,td1,wkR⟩
    ·rw[hh,if_neg (by simp)]at hR;exact⟨k+1,out,⟨by omega,by omega,hR⟩,td1,wkR⟩
   ·rw[A2 hkl,Hm,List.append_nil]at hR
    try refine gf (gi hmd (gi hxi hhe)) ?_
    refine Mf [did] (S':=V) (d':=.tup [sl ((J9 p c).map CP),dI 0]) ⟨by rw[if_pos rfl,if_pos rfl],rfl⟩ (fun j o h=>?_) (hd:=?_) (hw:=?_)
    ·obtain⟨h1,h2⟩:=hfr j o h;simp only[dels,List.foldl_cons,List.foldl_nil,Sig.del,h2,if_false];rw[w8 _ _ fun e=>by rw[e,hix]at h1;cases h1];exact h1
    ·simp only[List.mem_singleton,forall_eq];rw[w8 _ _ hxd];exact hdd
    ·rw[hbeg,hR];exact GB ⟨Bc _ _,A7 _,trivial⟩
@[reducible,instance] def a25:=fun p c V=>ah1 (@La p c V)
end Go.DL
