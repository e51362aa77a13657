/- Part of a proof in texts M01 on: a layer of pure values over the fenced walk, the walks of the functions, the plain laws. -/
import Derived.Test.YtlfimpogphmbdaaGreatM19
import Derived.Test.YtlfimpogphmbdaaGreatM17
import Derived.Test.YtlfimpogphmbdaaGreatM18
set_option linter.all false
namespace Go.DL
open Go.Proofs.Tryz
open Go Go.Proofs
set_option maxHeartbeats 8000000
def wObj (w:World) (us:List Int):DObj := .cells (sl (cII w.parents)::sl (cI w.owner)::us.map (D.int .u64))
def LX (w:World) (l:List Int):Bool:=decide (l.length<=2) && l.all (fun c=>decide (0<=c/\c < w.owner.length))
section
variable (w:World) (us:List Int) (iw:Nat) (σ:Sig) (hw:σ iw=some (wObj w us))
include hw
theorem Ka (c:Int) (hl:w.parents.length<=1073741824):DCall prog 269 [.ptr iw 0,dI c] σ fun x σ'=>x = .ret (.bool (decide (3<=c/\c < 3+w.parents.length)))/\σ'=σ:=by
 unfold wObj at hw
 refine en func269 ntmps269 ?_
 repeat' first | refine gf hw ?_ | apply gy<;>intro hh
 any_goals (first | exact fe1 trivial | fail)
theorem K2 (c:Int) (hl:w.owner.length<=1073741824):DCall prog 311 [.ptr iw 0,dI c] σ fun x σ'=>x = .ret (.bool (decide (0<=c/\c < w.owner.length)))/\σ'=σ:=by
 unfold wObj at hw
 refine en func311 ntmps311 ?_
 repeat' first | refine gf hw ?_ | apply gy<;>intro hh
 any_goals (first | exact fe1 trivial | fail)
theorem K4 (c:Int) (hl:w.parents.length<=1073741824):DCall prog 300 [.ptr iw 0,dI c] σ fun x σ'=>x = .ret (.bool (decide (0<=c/\c < 3+w.parents.length)))/\σ'=σ:=by
 unfold wObj at hw
 refine en func300 ntmps300 ?_
 repeat' first | refine gf hw ?_ | apply gy<;>intro hh
 any_goals (first | exact fe1 trivial | fail)
theorem K5 (l:List Int) (o:Own) (hl:w.owner.length<=1073741824) (hll:l.length<=1073741824):DCall prog 299 [.ptr iw 0, .slice (cI l) o] σ fun x σ'=>x = .ret (.bool (LX w l))/\σ'=σ:=by
 refine en func299 ntmps299 ?_
 repeat' first | refine gz ?_ | refine ET (FK l (fun c=>decide (0<=c/\c < w.owner.length)) 311 [.ptr iw 0] [] _ _ hll (fun x _=>K2 w us iw _ hw x hl)) ?_ | refine EU (FK l (fun c=>decide (0<=c/\c < w.owner.length)) 311 [.ptr iw 0] [] _ _ hll (fun x _=>K2 w us iw _ hw x hl)) ?_ | refine gz ?_ | apply gy<;>intro hh
 any_goals (first | (refine fin1 (σ':=σ) ?_;exact ⟨by first | rfl | (simp [LX];done) | (simp_all [LX];done) | (rw [Aa,Bool.eq_iff_iff];simp_all [LX]<;>omega),rfl⟩) | fail)
end
def Hn (w:World) (f:Fact):Bool:=decide (0<=f.arg/\f.arg < 3) && LX w f.path &&
 (if f.op=2 then decide (f.n=0) && decide (0<=f.cls/\f.cls < 3+w.parents.length) else decide (f.cls=0) && inB f.n)
def D1 (w:World):Nat->Fact->Int->Bool × Int
 | 0,_,s=>(false,IntKind.i64.wrap (s-1))
 | d+1,f,s =>
  if IntKind.i64.wrap (s-1) < 0\/f.op < 1\/7 < f.op\/f.kids.length ≠ Bd f.op then (false,IntKind.i64.wrap (s-1)) else
  if BF f.op then (Hn w f,IntKind.i64.wrap (s-1)) else
  if f.arg=0/\f.path.length=0/\f.cls=0/\f.n=0 then allS (D1 w d) f.kids (IntKind.i64.wrap (s-1)) else (false,IntKind.i64.wrap (s-1))
theorem Pz (iw il d:Nat) (x:Fact) (b:Bool) (G:Sig->Prop) (σ:Sig) (hd:d<=1000) (h:DCall prog 272 [.ptr iw 0, .agg (Bk x), .ptr il 0,dI d] σ fun r σ'=>r = .ret (.bool b)/\G σ') :
  DCall prog 301 [.agg (Bk x), .cptr [.ptr iw 0] 0, .cptr [.ptr il 0] 0, .cptr [dI ((d:Int)+1)] 0] σ fun r σ'=>r = .ret (.bool b)/\G σ':=by
 refine en func301 ntmps301 ?_
 refine gf (show ((d:Int)+1-1)=d by omega) ?_
 refine Ab h (fun e σ2 hr => ?_) (fun e σ2 hr=>by cases hr.1)
 obtain ⟨h1,h2⟩:=hr
 simp only [DE.ret.injEq] at h1
 subst h1
 refine gz ?_
 refine fin1 (σ':=σ2) ?_
 exact ⟨rfl,h2⟩
theorem RL (w:World) (us:List Int) (iw il:Nat) (σ0:Sig) (hw:σ0 iw=some (wObj w us)) (hne:iw ≠ il) (hlp:w.parents.length<=1073741824) (hlo:w.owner.length<=1073741824) :
  ∀ (d:Nat) (f:Fact) (s:Int) (σ:Sig),d<=1000->f.wt<=1073741824->Keep (· = il) σ0 σ->σ il=some (.cells [dI s]) ->
   DCall prog 272 [.ptr iw 0, .agg (Bk f), .ptr il 0,dI d] σ fun x σ'=>x = .ret (.bool (D1 w d f s).1)/\(Keep (· = il) σ0 σ'/\σ' il=some (.cells [dI (D1 w d f s).2])):=by
 intro d
 have hKs : ∀ (σ:Sig) (o:DObj),Keep (· = il) σ0 σ->Keep (· = il) σ0 (σ.set il o):=fun σ o h j x h1 h2=>by rw [w8 _ _ h2];exact h j x h1 h2
 induction d with
 | zero =>
  intro f s σ hd hf hK hs
  have hKs:=fun o=>hKs σ o hK
  refine en func272 ntmps272 ?_
  repeat' first | (refine fin1 (σ':=σ.set il (.cells [dI (IntKind.i64.wrap (s-1))])) ?_;exact ⟨rfl,hKs _,w7 ..⟩) | refine gf hs ?_ o272 | apply gy<;>intro hh
 | succ d ih =>
  intro f s σ hd hf hK hs
  have hKs:=fun o=>hKs σ o hK
  obtain ⟨w1,w2,w3⟩:=f.wt_le
  have hfk:(Bd f.op:Int)<=2:=by unfold Bd;split<;>(try split)<;>omega
  have hw':(σ.set il (.cells [dI (IntKind.i64.wrap (s-1))])) iw=some (wObj w us):=hKs _ iw _ hw hne
  refine en func272 ntmps272 ?_
  by_cases hbad:IntKind.i64.wrap (s-1) < 0\/f.op < 1\/7 < f.op\/f.kids.length ≠ Bd f.op
  ·have hN:D1 w (d+1) f s=(false,IntKind.i64.wrap (s-1)):=by rw [D1,if_pos hbad]
   rw [hN]
   repeat' first | (refine fin1 (σ':=σ.set il (.cells [dI (IntKind.i64.wrap (s-1))])) ?_;exact ⟨rfl,hKs _,w7 ..⟩) | refine gf hs ?_ o272 | apply gy<;>intro hh
   all_goals (exfalso;simp_all;omega)
  ·have hN:D1 w (d+1) f s=if BF f.op then (Hn w f,IntKind.i64.wrap (s-1)) else if f.arg=0/\f.path.length=0/\f.cls=0/\f.n=0 then allS (D1 w d) f.kids (IntKind.i64.wrap (s-1)) else (false,IntKind.i64.wrap (s-1)):=by rw [D1,if_neg hbad]
   have b1 : ¬ IntKind.i64.wrap (s-1) < 0:=fun h=>hbad (.inl h)
   have b2 : ¬ f.op < 1:=fun h=>hbad (.inr (.inl h))
   have b3 : ¬ 7 < f.op:=fun h=>hbad (.inr (.inr (.inl h)))
   have b4:f.kids.length=Bd f.op:=by omega
   cases hlf:BF f.op with
   | true =>
    rw [hlf,if_pos rfl] at hN
    rw [hN]
    repeat' first | refine gf (gi hs (gi b1 (gi b4 hlf))) ?_ | refine ET (K5 w us iw _ hw' f.path .no hlo (by omega)) ?_ | refine EU (K5 w us iw _ hw' f.path .no hlo (by omega)) ?_ | refine ET (K4 w us iw _ hw' f.cls hlp) ?_ | refine EU (K4 w us iw _ hw' f.cls hlp) ?_ | refine gf (gi hs (gi b1 (gi b4 hlf))) ?_ o272 | apply gy<;>intro hh
    all_goals
     refine fin1 (σ':=σ.set il (.cells [dI (IntKind.i64.wrap (s-1))])) ?_
     refine ⟨?_,hKs _,w7 ..⟩
     first | (simp_all [Hn,inB];done) | (rw [show DE.ret (D.bool (Hn w f,IntKind.i64.wrap (s-1)).1)=DE.ret (D.bool (Hn w f)) from rfl,Aa,Bool.eq_iff_iff];simp_all [Hn,inB];done) | (rw [show DE.ret (D.bool (Hn w f,IntKind.i64.wrap (s-1)).1)=DE.ret (D.bool (Hn w f)) from rfl,Aa,Bool.eq_iff_iff];simp_all [Hn,inB];omega)
   | false =>
    rw [hlf,if_neg (by simp)] at hN
    rw [hN]
    by_cases h0:f.arg=0/\f.path.length=0/\f.cls=0/\f.n=0
    ·rw [if_pos h0]
     repeat' first | refine gf (gi hs (gi b1 (gi b4 hlf))) ?_ o272 | apply gy<;>intro hh
     all_goals try (exfalso;omega)
     have hkw : ∀ x ∈ f.kids,x.wt<=1073741824:=fun x hx=>by obtain ⟨k,hk,rfl⟩:=List.getElem_of_mem hx;have:=w3 k hk;omega
     refine Ab (Mp f.kids (D1 w d) 301 [] [.cptr [.ptr iw 0] 0, .cptr [.ptr il 0] 0, .cptr [dI ((d:Int)+1)] 0] .no (fun σ' s'=>Keep (· = il) σ0 σ'/\σ' il=some (.cells [dI s'])) (by omega) (fun x hx σ' s' hG=>Pz iw il d x _ _ σ' (by omega) (ih x s' σ' (by omega) (hkw x hx) hG.1 hG.2)) _ (IntKind.i64.wrap (s-1)) ⟨hKs _,w7 ..⟩) (fun e σ2 hr => ?_) (fun e σ2 hr=>by cases hr.1)
     obtain ⟨h1,h2⟩:=hr
     simp only [DE.ret.injEq] at h1
     subst h1
     refine gz ?_ o272
     refine fin1 (σ':=σ2) ?_
     exact ⟨rfl,h2⟩
    ·rw [if_neg h0]
     repeat' first | (refine fin1 (σ':=σ.set il (.cells [dI (IntKind.i64.wrap (s-1))])) ?_;exact ⟨rfl,hKs _,w7 ..⟩) | refine gf (gi hs (gi b1 (gi b4 hlf))) ?_ o272 | apply gy<;>intro hh
     all_goals (exfalso;omega)
def CW (w:World) (f:Fact):Bool:=(D1 w 12 f 24).1
theorem PJ (w:World) (us:List Int) (iw:Nat) (f:Fact) (σ:Sig) (hw:σ iw=some (wObj w us)) (hlp:w.parents.length<=1073741824) (hlo:w.owner.length<=1073741824) (hf:f.wt<=1073741824) :
  DCall prog 271 [.agg (Bk f), .cptr [.ptr iw 0] 0] σ fun x σ'=>x = .ret (.bool (CW w f))/\σ'=σ:=by
 refine en func271 ntmps271 ?_
 refine gz ?_ [] [4]
 refine newV (fun il hil => ?_)
 have hne:iw ≠ il:=fun e=>by rw [e,hil] at hw;cases hw
 refine gz ?_ [] [4]
 refine Ab (RL w us iw il σ hw hne hlp hlo 12 f 24 (σ.set il (.cells [dI 24])) (by omega) hf ((Keep.refl _ σ).fresh hil) (w7 ..)) (fun e σ2 hr => ?_) (fun e σ2 hr=>by cases hr.1)
 obtain ⟨h1,h2,h3⟩:=hr
 simp only [DE.ret.injEq] at h1
 subst h1
 refine gz ?_ [] [4]
 refine fin1 (σ':=σ) ?_ (hσ:=fun j o hj=>h2 j o hj (fun e=>by rw [e,hil] at hj;cases hj))
 exact ⟨rfl,rfl⟩
theorem Nd {α:Type} (q:α->Bool) : ∀ l:List α,allS (fun x (_:Unit)=>(q x,())) l ()=(l.all q,())
 | []=>rfl
 | x::r=>by
  rw [allS,List.all_cons]
  cases h:q x
  ·simp
  ·simp only [Bool.true_and];exact Nd q r
theorem Kg (w:World) (us:List Int) (iw:Nat) (l:List Fact) (o:Own) (σ:Sig) (hw:σ iw=some (wObj w us)) (hlp:w.parents.length<=1073741824) (hlo:w.owner.length<=1073741824) (hl:l.length<=1073741824) (hf : ∀ f ∈ l,f.wt<=1073741824) :
  DCall prog 229 [.ptr iw 0, .slice (l.map Bk) o] σ fun x σ'=>x = .ret (.bool (l.all (CW w)))/\σ'=σ:=by
 refine en func229 ntmps229 ?_
 refine gz ?_
 refine Ab (Mp l (fun x (_:Unit)=>(CW w x,())) 271 [] [.cptr [.ptr iw 0] 0] o (fun σ' _=>σ'=σ) hl (fun x hx σ' s' hG=>by rw [hG];exact PJ w us iw x σ hw hlp hlo (hf x hx)) _ () rfl) (fun e σ2 hr => ?_) (fun e σ2 hr=>by cases hr.1)
 obtain ⟨h1,h2⟩:=hr
 simp only [DE.ret.injEq] at h1
 subst h1
 rw [show σ2=σ from h2]
 refine gz ?_
 rw [Nd]
 exact fe1 trivial
theorem Kb (s c:Int) (σ:Sig) (hc:0<=c):DCall prog 267 [.int .u64 s,dI c] σ fun x σ'=>(∃ n:Int,x = .ret (.int .u64 n))/\σ'=σ:=by
 refine en func267 ntmps267 ?_
 try refine gf (P8 .u64 .i64 1 c hc) ?_
 refine fin1 (σ':=σ) ?_
 exact ⟨⟨_,rfl⟩,rfl⟩
theorem O6 (w:World) (us:List Int) (c:Nat) (n:Int) (h:c < us.length):DObj.cells (List.take (2+c) (sl (cII w.parents)::sl (cI w.owner)::List.map (D.int IntKind.u64) us)++D.int IntKind.u64 n::List.drop (2+c) (sl (cI w.owner)::List.map (D.int IntKind.u64) us))=wObj w (us.set c n):=by
 rw [show 2+c=c+1+1 by omega];simp only [List.take_succ_cons,List.drop_succ_cons,List.cons_append];unfold wObj;rw [List.map_set,List.set_eq_take_append_cons_drop,if_pos (by simpa using h)]
theorem PQ (w:World) (σ:Sig) (hg:AT w.parents=true) (hl2 : ∀ x ∈ w.parents,x.length<=1073741824) (ho:w.owner.length<=40) (hoo : ∀ c ∈ w.owner,3<=c/\c < 3+w.parents.length) :
  DCall prog 228 [.agg (CE w)] σ fun x σ' => ∃ iw us,σ iw=none/\x = .ret (.tup [.ptr iw 0, .bool true])/\σ'=σ.set iw (wObj w us):=by
 have hlen:=Cz hg
 refine en func228 ntmps228 ?_
 repeat ((fail_if_success (first | (refine boxV (T:=345) (fun iw hiw => ?_)) | fail));(refine goX1 trivial ?_))
 refine boxV (T:=345) (fun iw hiw => ?_)
 have e0:wObj w (List.replicate 63 0) = .cells [sl (cII w.parents),sl (cI w.owner), .int .u64 0, .int .u64 0, .int .u64 0, .int .u64 0, .int .u64 0, .int .u64 0, .int .u64 0, .int .u64 0, .int .u64 0, .int .u64 0, .int .u64 0, .int .u64 0, .int .u64 0, .int .u64 0, .int .u64 0, .int .u64 0, .int .u64 0, .int .u64 0, .int .u64 0, .int .u64 0, .int .u64 0, .int .u64 0, .int .u64 0, .int .u64 0, .int .u64 0, .int .u64 0, .int .u64 0, .int .u64 0, .int .u64 0, .int .u64 0, .int .u64 0, .int .u64 0, .int .u64 0, .int .u64 0, .int .u64 0, .int .u64 0, .int .u64 0, .int .u64 0, .int .u64 0, .int .u64 0, .int .u64 0, .int .u64 0, .int .u64 0, .int .u64 0, .int .u64 0, .int .u64 0, .int .u64 0, .int .u64 0, .int .u64 0, .int .u64 0, .int .u64 0, .int .u64 0, .int .u64 0, .int .u64 0, .int .u64 0, .int .u64 0, .int .u64 0, .int .u64 0, .int .u64 0, .int .u64 0, .int .u64 0, .int .u64 0, .int .u64 0]:=rfl
 rw [<- e0]
 clear e0
 try refine gz ?_ o228
 refine AJ [1,2,3,4,6,7,8,9,10,35,36,37,38,39,40,41,42,43,44,45,46,47,48,49,50,51,52,53,54,55,56,57,58,59,60,61,62,63,64,65,66,67,68,69,70,71,72,73,74,75,76,77,78,79,80,81,82,83,84,85,86,87,88,89,90] (fun (c:Nat) (us:List Int)=>c<=3/\us.length=63) (fun c _=>[(24,dI c)]) (fun _ us=>σ.set iw (wObj w us)) (fun c _=>3-c) (0) (List.replicate 63 0) (by simp) (fun c us hI => ?_)
 obtain ⟨hc,hus⟩:=hI
 have hwo:wObj w us = .cells (sl (cII w.parents)::sl (cI w.owner)::us.map (D.int .u64)):=rfl
 by_cases hc3:c < 3
 ·try refine gz ?_ o228
  refine Cd (Kb 1 c _ (by omega)) (fun d σ' h => ?_) (fun d σ' h=>by obtain ⟨⟨n,h⟩,_⟩:=h;cases h)
  obtain ⟨⟨n,h⟩,rfl⟩:=h
  simp only [DE.ret.injEq] at h
  subst h
  refine ⟨Sub.refl _, ?_⟩
  try refine gf hwo ?_ o228
  rw [O6 _ _ _ _ (by omega)]
  exact ⟨c+1,us.set c n,by simp;omega,td1,wkR⟩
 ·try refine gz ?_ o228
  refine AJ [1,4,36,37,85,86,87,88,89,90] (fun (i:Nat) (us:List Int)=>i<=w.parents.length/\us.length=63) (fun i _=>[(38,dI i)]) (fun _ us=>σ.set iw (wObj w us)) (fun i _=>w.parents.length-i) (0) (us) (by exact ⟨by omega,hus⟩) (fun i us hI => ?_)
  obtain ⟨hi,hus⟩:=hI
  have hwo:wObj w us = .cells (sl (cII w.parents)::sl (cI w.owner)::us.map (D.int .u64)):=rfl
  by_cases hil:i < w.parents.length
  ·have hrow:=Fl (by simpa [AT] using hg:w.parents.length<=16/\C1 0 w.parents=true).2 i hil
   generalize hr:w.parents[i]=row at *
   simp only [Hr,Bool.and_eq_true,decide_eq_true_eq,Nat.zero_add] at hrow
   try refine gf hr ?_ o228
   refine Ab (Kb 1 (3+i) _ (by omega)) (fun d σ' h => ?_) (fun d σ' h=>by obtain ⟨⟨n,h⟩,_⟩:=h;cases h)
   obtain ⟨⟨n,h⟩,rfl⟩:=h
   simp only [DE.ret.injEq] at h
   subst h
   try refine gf hr ?_ o228
   refine AJ [1,4,6,7,36,37,38,39,40,41,42,43,44,45,46,47,77,78,79,80,81,82,83,84,85,86,87,88,89,90] (fun (k:Nat) (n:Int)=>k<=row.length/\Dc i (row.take k) (row.drop k)=true) (fun k n=>[(48,dI k),(8, .int .u64 n)]) (fun _ _=>σ.set iw (wObj w us)) (fun k _=>row.length-k) (0) (n) (by exact ⟨by omega,by simpa using hrow.2⟩) (fun k n hI => ?_)
   obtain ⟨hk,hE⟩:=hI
   by_cases hkl:k < row.length
   ·rw [A2 hkl,Dc, <- AF hkl] at hE
    simp only [Bool.and_eq_true,decide_eq_true_eq,Bool.not_eq_true',decide_eq_false_iff_not] at hE
    obtain ⟨q,hq⟩ : ∃ q:Nat,row[k]=(q:Int):=⟨(row[k]).toNat,by omega⟩
    rw [hq] at hE
    have hget:(sl (cII w.parents)::sl (cI w.owner)::List.map (D.int IntKind.u64) us)[2+q]? = some (D.int IntKind.u64 (us[q]'(by omega))):=by
     rw [show 2+q=q+1+1 by omega,List.getElem?_cons_succ,List.getElem?_cons_succ,List.getElem?_map,List.getElem?_eq_getElem (by omega)];rfl
    try refine gf (gi hwo (gi hq (gi hE.1.2 hget))) ?_ o228
    exact ⟨k+1,_,⟨by omega,hE.2⟩,td1,wkR⟩
   ·
    try refine gf (gi hr hwo) ?_ o228
    rw [show 2+(3+(i:Int)).toNat=2+(3+i) by omega,O6 _ _ _ _ (by omega)]
    exact ⟨i+1,us.set (3+i) n,by simp;omega,td1,wkR⟩
  ·repeat' first | refine gz ?_ | refine An (FK w.owner (fun c=>decide (3<=c/\c < 3+w.parents.length)) 269 [.ptr iw 0] [] _ _ (by omega) (fun x _=>Ka w us iw _ (w7 ..) x (by omega))) ?_ | refine callP (FK w.owner (fun c=>decide (3<=c/\c < 3+w.parents.length)) 269 [.ptr iw 0] [] _ _ (by omega) (fun x _=>Ka w us iw _ (w7 ..) x (by omega))) ?_ | refine gz ?_ o228 | apply gy<;>intro hh
   refine fin2 (σ':=σ.set iw (wObj w us)) ?_
   refine ⟨iw,us,hiw, ?_,rfl⟩
   rw [List.all_eq_true.2 fun c hc=>by have:=hoo c hc;simpa using this]
structure WorldOK (w:World):Prop where
 good:AT w.parents=true
 len : ∀ x ∈ w.parents,x.length<=1073741824
 few:w.owner.length<=40
 own : ∀ c ∈ w.owner,3<=c/\c < 3+w.parents.length
theorem PX (w:World) (l:List Fact) (o:Own) (σ:Sig) (h:WorldOK w) (hl:l.length<=1073741824) (hf : ∀ f ∈ l,f.wt<=1073741824) :
  DCall prog 172 [.agg (CE w), .slice (l.map Bk) o] σ fun x σ'=>(∃ d,x = .ret (.tup [d, .bool (l.all (CW w))]))/\σ'=σ:=by
 have hlen:=Cz h.good
 have hfew:=h.few
 refine en func172 ntmps172 ?_
 try refine gz ?_
 refine Ab (PQ w σ h.good h.len h.few h.own) (fun d σ' hr => ?_) (fun d σ' hr=>by obtain ⟨_,_,_,h,_⟩:=hr;cases h)
 obtain ⟨iw,us,hiw,h1,rfl⟩:=hr
 simp only [DE.ret.injEq] at h1
 subst h1
 repeat' first | refine gz ?_ | refine ET (Kg w us iw l o _ (w7 ..) (by omega) (by omega) hl hf) ?_ | refine EU (Kg w us iw l o _ (w7 ..) (by omega) (by omega) hl hf) ?_ | refine gz ?_ | apply gy<;>intro hh
 refine fin2 (σ':=σ) ?_
 exact ⟨⟨_,rfl⟩,rfl⟩
theorem TO (w:World) (f:Fact) (σ:Sig) (h:WorldOK w) (hf:f.wt<=1073741824):DCall prog 87 [.agg (CE w), .agg (Bk f)] σ fun x σ'=>x = .ret (dI (if CW w f then 0 else 2))/\σ'=σ:=by
 refine en func87 ntmps87 ?_
 try refine gz ?_
 refine Ab (PX w [f] .clip σ h (by simp) (by simpa using hf)) (fun d σ' hr => ?_) (fun d σ' hr=>by obtain ⟨⟨_,h⟩,_⟩:=hr;cases h)
 obtain ⟨⟨e,h1⟩,h2⟩:=hr
 simp only [DE.ret.injEq] at h1
 subst h1
 rw [h2]
 try refine gz ?_
 exact fe1 trivial
@[reducible,instance] def a87:=fun w f σ=>ah2 (@TO w f σ)
theorem Kv : ∀ (cs:List BClass) (n m:Int),B0 n cs=some m -> ∀ c ∈ cs,c.slots.length<=4
 | [],_,_,_,c,hc=>by simp at hc
 | x::r,n,m,h,c,hc=>by
  rw [B0] at h
  split at h
  ·cases h
  ·rename_i h4
   split at h
   ·cases h
   ·rcases List.mem_cons.1 hc with rfl | hc
    ·omega
    ·exact Kv r _ _ h c hc
theorem JM : ∀ (cs:List BClass) (i:Nat),(∀ c ∈ cs,c.slots.length<=4)->(ownersF cs i).length<=4*cs.length /\ ∀ x ∈ ownersF cs i,3+(i:Int)<=x/\x < 3+(i:Int)+cs.length
 | [],_,_=>by simp [ownersF]
 | c::r,i,h=>by
  obtain ⟨h1,h2⟩:=JM r (i+1) fun c hc=>h c (by simp [hc])
  have h3:=h c (by simp)
  rw [ownersF]
  refine ⟨by simp only [List.length_append,List.length_replicate,List.length_cons];omega,fun x hx => ?_⟩
  rcases List.mem_append.1 hx with hx | hx
  ·have:=List.eq_of_mem_replicate hx
   simp only [List.length_cons];omega
  ·have:=h2 x hx
   simp only [List.length_cons];omega
theorem KE {p:BProg} (hp:p.wt<=1073741824) (h:Ag p=true):WorldOK (Aj p):=by
 obtain ⟨p1,p2,p3,p4,p5,p6,p7⟩:=p.wt_le
 unfold Ag at h
 simp only [Bool.and_eq_true,decide_eq_true_eq] at h
 obtain ⟨h10,h⟩:=h
 split at h
 ·cases h
 ·rename_i n hn
  simp only [Bool.and_eq_true,decide_eq_true_eq] at h
  obtain ⟨⟨_,hg⟩,_⟩:=h
  obtain ⟨o1,o2⟩:=JM p.classes 0 (Kv _ _ _ hn)
  refine ⟨hg,fun x hx => ?_,by show (ownersF p.classes 0).length<=40;omega,fun c hc => ?_⟩
  ·obtain ⟨c,hc,rfl⟩:=List.mem_map.1 (show x ∈ p.classes.map (·.parents) from hx)
   obtain ⟨k,hk,rfl⟩:=List.getElem_of_mem hc
   have:=p5 k hk
   unfold BClass.wt at this;omega
  ·have:=o2 c hc
   show 3<=c/\c < 3+((p.classes.map (·.parents)).length:Int)
   rw [List.length_map];omega
def E0 (p:BProg) (m:BMeth):Bool:=decide (1<=m.kind/\m.kind<=4) && decide (0<=m.gen/\m.gen < p.gens.length) && CW (Aj p) m.fact && decide (m.fact.speaks<=p.gens.getD m.gen.toNat 0)
def CK (p:BProg):List BMeth->List Int->Option (List Int)
 | [],s=>some s
 | m::r,s=>if E0 p m then (match optW (Bt p (decide (m.kind=1) || decide (m.kind=4)) 12 m.node (p.gens.getD m.gen.toNat 0) s) with
   | none=>none
   | some s'=>CK p r s') else none
def BP (p:BProg):Option (List Int) :=
 if Ag p && (decide (p.gens.length<=8) && decide (p.methods.length<=16) && decide (1<=p.nodes.length) && decide (p.nodes.length<=120)) && p.gens.all (fun g=>decide (1<=g/\g<=3)) then
  match CK p p.methods (List.replicate p.nodes.length (-1)) with
  | none=>none
  | some s=>match optW (Bt p false 12 p.main 0 s) with
   | none=>none
   | some s2=>if -1 ∈ s2 then none else some s2
 else none
def SzR (p:BProg) (io:Nat) (σ:Sig) (x:DE) (σ':Sig):Prop:=Keep (· = io) σ σ'/\(∃ d,σ' io=some (.cells [d])) /\
 match BP p with
 | none=>x = .panic unf
 | some s=>x = .ret (.tup [])/\σ' io=some (.cells [sl (cI s)])
theorem Rr (p:BProg) (io:Nat) (σ:Sig) (hp:p.wt<=1073741824) (hio:σ io=some (.cells [.nils])):DCall prog 79 [.cptr (Af p) 0, .ptr io 0] σ (SzR p io σ):=by
 obtain ⟨p1,p2,p3,p4,p5,p6,p7⟩:=p.wt_le
 have hwc : ∀ c ∈ p.classes,c.parents.length<=1073741824/\c.slots.length<=1073741824/\c.inits.length<=1073741824:=fun c hc=>by
  obtain ⟨k,hk,rfl⟩:=List.getElem_of_mem hc
  have:=p5 k hk
  have hwu:(p.classes[k]).wt=1+(p.classes[k]).parents.length+(p.classes[k]).slots.length+(p.classes[k]).inits.length:=rfl
  omega
 have hwp : ∀ c ∈ p.classes,c.parents.length<=1073741824:=fun c hc=>(hwc c hc).1
 have hws : ∀ c ∈ p.classes,c.slots.length<=1073741824:=fun c hc=>(hwc c hc).2.1
 have hpan:BP p=none -> ∀ σ' d,Keep (· = io) σ σ'->σ' io=some (.cells [d])->SzR p io σ (.panic unf) σ':=fun h σ' d hK hd=>⟨hK,⟨d,hd⟩,by rw [h]⟩
 refine en func79 ntmps79 ?_
 cases hc:Ag p with
 | false =>
  have hL:BP p=none:=by unfold BP;rw [hc];rfl
  repeat' first | (exact finP (σ':=σ) (hpan hL _ _ (Keep.refl _ _) hio)) | refine gf hc ?_ o79 | apply gy<;>intro hh
 | true =>
  have hW:=KE hp hc
  by_cases hh4:p.gens.length<=8/\p.methods.length<=16/\1<=p.nodes.length/\p.nodes.length<=120
  ·have hL0:BP p=if p.gens.all (fun g=>decide (1<=g/\g<=3)) then
     match CK p p.methods (List.replicate p.nodes.length (-1)) with
     | none=>none
     | some s=>match optW (Bt p false 12 p.main 0 s) with
      | none=>none
      | some s2=>if -1 ∈ s2 then none else some s2
    else none:=by unfold BP;rw [hc];simp [hh4]
   try refine gf hc ?_ o79
   refine Bh [0,1,4,5,7,34,35,48,49,50,51,52,53,54,55,56,57,58,59,60,61,62,63,64,65,66,67,68,69,70,71,72,73,74,75,76,77,78,79,80,81,82,83,84,85,86,87,88,89,90,91,92,93,94,95,96,97,98,99,100,101,102,103,104,105,106,107,108,109,110,111,112,113,114,115,116,117,118,119,120,121,122,123,124,125,126,127,128,129] (fun (i:Nat)=>i<=p.gens.length/\p.gens.all (fun g=>decide (1<=g/\g<=3))=(p.gens.drop i).all (fun g=>decide (1<=g/\g<=3))) (fun i=>[(36,dI i)]) (fun _=>σ) (fun i=>p.gens.length-i) (0) td3 (fun i hI => ?_)
   obtain ⟨hi,hA⟩:=hI
   by_cases hil:i < p.gens.length
   ·rw [A2 hil,List.all_cons] at hA
    by_cases hq:1<=p.gens[i]/\p.gens[i]<=3
    ·rw [decide_eq_true hq,Bool.true_and] at hA
     try refine gz ?_ o79
     exact ⟨i+1,⟨by omega,hA⟩,td1,wkR⟩
    ·rw [decide_eq_false hq,Bool.false_and] at hA
     have hL:BP p=none:=by rw [hL0,hA];rfl
     repeat' first | (exact finP (σ':=σ) (hpan hL _ _ (Keep.refl _ _) hio)) | refine gz ?_ o79 | apply gy<;>intro hh
     all_goals (exfalso;omega)
   ·rw [A1 hil,List.all_nil] at hA
    rw [hA,if_pos rfl] at hL0
    have hall:=hA
    try refine gz ?_ o79
    refine callWP (TS p.nodes.length σ (by omega) (by omega)) (fun d σ' hr => ?_) (fun d σ' hr=>by obtain ⟨r,_,h,_⟩:=hr;cases h)
    obtain ⟨r,hr0,h1,rfl⟩:=hr
    simp only [DE.ret.injEq] at h1
    subst h1
    have hior:io ≠ r:=fun e=>by rw [e,hr0] at hio;cases hio
    have hof:(ownersF p.classes 0).length<=40:=hW.few
    try refine gf (gi hio hior) ?_ o79
    refine EV [0,1,4,5,57,58,122,123,124,125,126,127,128,129] (fun (i:Nat) (s:List Int) (σ1:Sig)=>i<=p.methods.length/\s.length=p.nodes.length/\Keep (· = io) σ σ1/\σ1 io=some (.cells [.sref r 0 p.nodes.length p.nodes.length])/\σ1 r=some (.cells (s.map dI))/\CK p p.methods (List.replicate p.nodes.length (-1))=CK p (p.methods.drop i) s) (fun i _ _=>[(59,dI i)]) (fun _ _ σ1=>σ1) (fun i _ _=>p.methods.length-i) (0) (List.replicate p.nodes.length (-1)) (_) (by exact ⟨by omega,by simp,((Keep.refl _ σ).fresh hr0).trans (fun j o h1 h2=>by rw [w8 _ _ h2];exact h1),w7 .., by rw [w8 _ _ (Ne.symm hior),w7],rfl⟩) (fun i s σ1 hI => ?_)
    clear hil
    obtain ⟨hi,hsl,hK1,hio1,hr1,hM⟩:=hI
    by_cases hil:i < p.methods.length
    ·rw [A2 hil,CK] at hM
     have hmw:=p6 i hil
     generalize hm:p.methods[i]=m at *
     have hfw:m.fact.wt<=1073741824:=by unfold BMeth.wt at hmw;omega
     have hsz:=Fact.size_le m.fact
     cases hok:E0 p m with
     | false =>
      rw [hok] at hM
      have hL:BP p=none:=by rw [hL0,hM];rfl
      repeat' first | (exact finP (σ':=σ1) (hpan hL _ _ hK1 hio1)) | refine gf hm ?_ o79 | apply gy<;>intro hh
      all_goals
       exfalso
       rename_i k1 k2 k3 k4 k5 k6
       revert hok
       simp only [E0]
       rw [decide_eq_true (by omega),decide_eq_true (by omega),k5,decide_eq_true (by rw [List.getD_eq_getElem?_getD,List.getElem?_eq_getElem (by omega)];exact k6)]
       simp
     | true =>
      rw [hok,if_pos rfl] at hM
      simp only [E0,Bool.and_eq_true,decide_eq_true_eq] at hok
      obtain ⟨⟨⟨hk,hgn⟩,hfp⟩,hsp⟩:=hok
      have hgg:p.gens.getD m.gen.toNat 0=p.gens[m.gen.toNat]'(by omega):=by rw [List.getD_eq_getElem?_getD,List.getElem?_eq_getElem (by omega)];rfl
      rw [hgg] at hsp hM
      have hg3:1<=p.gens[m.gen.toNat]'(by omega)/\p.gens[m.gen.toNat]'(by omega)<=3:=by
       have:=List.all_eq_true.1 hall _ (List.getElem_mem (show m.gen.toNat < p.gens.length by omega))
       simpa using this
      repeat' first | refine gf (gi hm hfp) ?_ o79 | apply gy<;>intro hh
      ·have hb:(decide (m.kind=1) || decide (m.kind=4))=true:=by simp [hh]
       rw [hb] at hM
       refine Ab (Ld p io r (true) m.node (p.gens[m.gen.toNat]'(by omega)) s σ1 hp hio1 hr1 hsl hior (by omega) (by omega)) (fun d σ' hr => ?_) (fun d σ' hr => ?_)
       ·obtain ⟨s',hs',rfl,⟨q1,q2,q3⟩,_⟩:=hr.ret
        rw [hs'] at hM
        try refine gz ?_ o79
        exact ⟨i+1,s',σ',⟨by omega,q2,fun j o h1 h2=>q3 j o (hK1 j o h1 h2) (fun e=>by rw [e,hr0] at h1;cases h1),q3 io _ hio1 hior,q1,hM⟩,td1,wkR⟩
       ·obtain ⟨hn,rfl,hb⟩:=hr.pan
        rw [hn] at hM
        exact finP (σ':=σ') (hpan (by rw [hL0,hM]) _ _ (fun j o h1 h2=>hb j o (hK1 j o h1 h2) (fun e=>by rw [e,hr0] at h1;cases h1)) (hb io _ hio1 hior))
      ·have hb:(decide (m.kind=1) || decide (m.kind=4))=decide (m.kind=4):=by simp [hh]
       rw [hb] at hM
       refine Ab (Ld p io r (decide (m.kind=4)) m.node (p.gens[m.gen.toNat]'(by omega)) s σ1 hp hio1 hr1 hsl hior (by omega) (by omega)) (fun d σ' hr => ?_) (fun d σ' hr => ?_)
       ·obtain ⟨s',hs',rfl,⟨q1,q2,q3⟩,_⟩:=hr.ret
        rw [hs'] at hM
        try refine gz ?_ o79
        exact ⟨i+1,s',σ',⟨by omega,q2,fun j o h1 h2=>q3 j o (hK1 j o h1 h2) (fun e=>by rw [e,hr0] at h1;cases h1),q3 io _ hio1 hior,q1,hM⟩,td1,wkR⟩
       ·obtain ⟨hn,rfl,hb⟩:=hr.pan
        rw [hn] at hM
        exact finP (σ':=σ') (hpan (by rw [hL0,hM]) _ _ (fun j o h1 h2=>hb j o (hK1 j o h1 h2) (fun e=>by rw [e,hr0] at h1;cases h1)) (hb io _ hio1 hior))
    ·rw [A1 hil,CK] at hM
     rw [hM] at hL0
     simp only at hL0
     try refine gz ?_ o79
     refine Ab (Ld p io r false p.main 0 s σ1 hp hio1 hr1 hsl hior (by omega) (by omega)) (fun d σ' hr => ?_) (fun d σ' hr => ?_)
     ·obtain ⟨s2,hs2,rfl,⟨q1,q2,q3⟩,_⟩:=hr.ret
      rw [hs2] at hL0
      simp only at hL0
      have hK2:Keep (· = io) σ σ':=fun j o h1 h2=>q3 j o (hK1 j o h1 h2) (fun e=>by rw [e,hr0] at h1;cases h1)
      have hio2:=q3 io _ hio1 hior
      have hsig:σ'=mS (σ'.del r) (some (r,p.nodes.length,[])) (cI s2):=by
       funext j
       by_cases hj:j=r
       ·subst hj;rw [mS,w7,q1,Dt,List.append_nil]
       ·rw [mS,w8 _ _ hj];simp [Sig.del,hj]
      rw [hsig]
      have hdio:(σ'.del r) io=some (.cells ([]++mD (some (r,p.nodes.length,[])) (cI s2).length::[])):=by
       simp only [Sig.del,hior,if_false,mD,HK,q2];exact hio2
      have hmo:mOK (σ'.del r) 1 (some (r,p.nodes.length,[])) (cI s2):=⟨by simp [Sig.del],by rw [Dt];simp [q2],by simp [q2],BR _⟩
      have hK3:Keep (· = io) σ ((σ'.del r).set io (.cells [sl (cI s2)])):=fun j o h1 h2=>by
       have hjr : ¬ j=r:=fun e=>by rw [e,hr0] at h1;cases h1
       rw [w8 _ _ h2]
       simp only [Sig.del,hjr,if_false]
       exact hK2 j o h1 h2
      refine mfrC [] [] ?_ hdio hmo
      simp only [List.nil_append]
      by_cases hm1 : -1 ∈ s2
      ·rw [if_pos hm1] at hL0
       repeat' first | (exact finP (σ':=(σ'.del r).set io (.cells [sl (cI s2)])) (hpan hL0 _ _ hK3 (w7 ..))) | refine gf hm1 ?_ o79 | apply gy<;>intro hh
      ·rw [if_neg hm1] at hL0
       try refine gf hm1 ?_ o79
       refine DM (σ':=(σ'.del r).set io (.cells [sl (cI s2)])) ?_
       exact ⟨hK3,⟨_,w7 ..⟩,by rw [hL0];exact ⟨rfl,w7 ..⟩⟩
     ·obtain ⟨hn,rfl,hb⟩:=hr.pan
      rw [hn] at hL0
      exact finP (σ':=σ') (hpan hL0 _ _ (fun j o h1 h2=>hb j o (hK1 j o h1 h2) (fun e=>by rw [e,hr0] at h1;cases h1)) (hb io _ hio1 hior))
  ·have hL:BP p=none:=by unfold BP;rw [if_neg];simp only [Bool.and_eq_true,decide_eq_true_eq];omega
   repeat' first | (exact finP (σ':=σ) (hpan hL _ _ (Keep.refl _ _) hio)) | refine gf hc ?_ o79 | apply gy<;>intro hh
   all_goals (exfalso;omega)
def EntOK (s:List Int):Prop := ∀ x ∈ s,x = -1\/0<=x
theorem EntOK.set {s:List Int} (h:EntOK s) (n:Nat) {v:Int} (hv:0<=v):EntOK (s.set n v):=fun x hx=>by
 rcases List.mem_or_eq_of_mem_set hx with hx | rfl
 ·exact h x hx
 ·exact .inr hv
theorem walkKids_ent {f:Int->Int->List Int->Bool × List Int} {x:BNode} {size:Int} (hf : ∀ c z s,0<=z->EntOK s->EntOK (f c z s).2) (hz:0<=size) : ∀ (l:List Int) (j:Nat) (s:List Int),EntOK s->EntOK (Bg f x size j l s).2
 | [],_,_,h=>h
 | c::r,j,s,h=>by
  rw [Bg]
  have h1:=hf c (if x.op=9/\j=1 then size+1 else size) s (by split<;>omega) h
  split
  ·rename_i s' e;rw [e] at h1;exact h1
  ·rename_i s' e;rw [e] at h1;exact walkKids_ent hf hz r _ _ h1
theorem Ie (p:BProg) (inM:Bool) : ∀ (k:Nat) (node size:Int) (s:List Int),0<=size->EntOK s->EntOK (Bt p inM k node size s).2
 | 0,_,_,_,_,h=>h
 | k+1,node,size,s,hz,h=>by
  rw [Bt]
  split
  ·exact h
  ·split
   ·exact h.set _ hz
   ·exact walkKids_ent (fun c z s hz hs=>Ie p inM k c z s hz hs) hz _ _ _ (h.set _ hz)
theorem HD (p:BProg) (hF : ∀ f,CW (Aj p) f=DH (Aj p) f) : ∀ (l:List BMeth) (s:List Int),CK p l s=optW (Ck p l s)
 | [],s=>rfl
 | m::r,s=>by
  have hm:E0 p m=EP p m:=by unfold E0 EP;rw [hF]
  rw [CK,Ck,hm]
  split
  ·cases hw:Bt p (decide (m.kind=1) || decide (m.kind=4)) 12 m.node (p.gens.getD m.gen.toNat 0) s with
   | mk b s'=>cases b with
    | false=>rfl
    | true=>simp only [optW];exact HD p hF r s'
  ·rfl
theorem methsP_ent (p:BProg) (hg : ∀ g ∈ p.gens,1<=g) : ∀ (l:List BMeth) (s s':List Int),CK p l s=some s'->EntOK s->EntOK s'
 | [],s,s',h,hs=>by rw [CK] at h;cases h;exact hs
 | m::r,s,s',h,hs=>by
  rw [CK] at h
  split at h
  ·rename_i hm
   have h0:0<=p.gens.getD m.gen.toNat 0:=by
    rw [List.getD_eq_getElem?_getD]
    cases hgg:p.gens[m.gen.toNat]? with
    | none=>simp
    | some g=>have:=hg g (List.mem_of_getElem? hgg);simp only [Option.getD_some];omega
   have he:=Ie p (decide (m.kind=1) || decide (m.kind=4)) 12 m.node (p.gens.getD m.gen.toNat 0) s h0 hs
   cases hw:Bt p (decide (m.kind=1) || decide (m.kind=4)) 12 m.node (p.gens.getD m.gen.toNat 0) s with
   | mk b s1 =>
    rw [hw] at h he
    cases b with
    | false=>simp [optW] at h
    | true=>simp only [optW] at h;exact methsP_ent p hg r s1 s' h he
  ·cases h
theorem look_eq (p:BProg) (hC:Ag p=AB p) (hF : ∀ f,CW (Aj p) f=DH (Aj p) f):BP p=CU p:=by
 have hh:(Ag p && (decide (p.gens.length<=8) && decide (p.methods.length<=16) && decide (1<=p.nodes.length) && decide (p.nodes.length<=120)))=JY p:=by unfold JY;rw [hC];simp only [Bool.and_assoc]
 unfold BP CU
 rw [hh]
 split
 ·rename_i hc
  simp only [Bool.and_eq_true,List.all_eq_true,decide_eq_true_eq] at hc
  have hent:=methsP_ent p (fun g hg=>(hc.2 g hg).1) p.methods (List.replicate p.nodes.length (-1))
  have hmw:=HD p hF p.methods (List.replicate p.nodes.length (-1))
  rw [hmw] at hent ⊢
  cases hm:Ck p p.methods (List.replicate p.nodes.length (-1)) with
  | mk b s =>
   rw [hm] at hent
   cases b with
   | false=>rfl
   | true =>
    simp only [optW]
    have h1:=hent s rfl fun x hx => .inl (List.eq_of_mem_replicate hx)
    have h2:=Ie p false 12 p.main 0 s (Int.le_refl _) h1
    cases hw:Bt p false 12 p.main 0 s with
    | mk b s2 =>
     rw [hw] at h2
     cases b with
     | false=>rfl
     | true =>
      simp only
      have e:(-1 ∈ s2) = ¬ (s2.all (fun n=>decide (0<=n))=true):=by
       simp only [List.all_eq_true,decide_eq_true_eq]
       refine propext ⟨fun h k=>by have:=k _ h;omega,fun h=>Classical.byContradiction fun k=>h fun x hx => ?_⟩
       rcases h2 x hx with rfl | h
       ·exact absurd hx k
       ·exact h
      by_cases hs:s2.all (fun n=>decide (0<=n))=true
      ·rw [if_pos hs,if_neg (by rw [e];exact fun k=>k hs)]
      ·rw [if_neg hs,if_pos (by rw [e];exact hs)]
 ·rfl
theorem Ku : ∀ (l:List Fact) (n d:Int),Fact.depths l n<=d ↔ n<=d /\ ∀ x ∈ l,x.depth<=d
 | [],n,d=>by rw [Fact.depths];simp
 | f::l,n,d=>by
  rw [Fact.depths,Ku l]
  have:mx n f.depth<=d ↔ n<=d/\f.depth<=d:=by unfold mx;split<;>omega
  rw [this]
  simp only [List.mem_cons,forall_eq_or_imp]
  exact and_assoc
def locP (w:World) (f:Fact):Prop:=1<=f.op/\f.op<=7/\f.kids.length=Bd f.op/\(if BF f.op then Hn w f=true else f.arg=0/\f.path.length=0/\f.cls=0/\f.n=0)
theorem loc_iff (w:World) (f:Fact):(IX w f && EF w f)=true ↔ locP w f:=by
 unfold locP IX EF Hn Tp LX BF inB G3 Bd
 rcases Decidable.em (f.op=2) with h2 | h2
 ·simp [h2];grind
 ·rcases Decidable.em (f.op=3) with h3 | h3
  ·simp [h3];grind
  ·rcases Decidable.em (f.op=4) with h4 | h4
   ·simp [h4];grind
   ·simp [h2,h3,h4]
    grind
theorem GC (w:World) : ∀ (d:Nat) (f:Fact) (s s':Int),0<=s->s<=1000->(D1 w d f s=(true,s') ↔ (s'=s-f.size/\(f.size:Int)<=s/\f.depth<=d/\IB w f=true))
 | 0,f,s,s',_,_=>by
  have:=(Fact.depth_le f).1
  simp [D1];omega
 | d+1,f,s,s',h0,h1=>by
  have hw:IntKind.i64.wrap (s-1)=s-1:=Am (by omega) (by omega)
  have hall : ∀ (l:List Fact) (t t':Int),0<=t->t<=1000->(allS (D1 w d) l t=(true,t') ↔ (t'=t-Fact.sizes l/\(Fact.sizes l:Int)<=t/\(∀ x ∈ l,x.depth<=d)/\DC w l=true)):=fun l=>by
   induction l with
   | nil=>intro t t' h0 h1;rw [allS,Fact.sizes,DC];simp;omega
   | cons x r ih =>
    intro t t' h0 h1
    rw [allS,Fact.sizes,DC]
    cases hy:D1 w d x t with
    | mk b t1 =>
     cases b with
     | false =>
      have hx:=GC w d x t (t-x.size) h0 h1
      rw [hy] at hx
      simp only [Prod.mk.injEq,Bool.false_eq_true,false_and,false_iff,List.mem_cons,forall_eq_or_imp,Bool.and_eq_true] at hx ⊢
      rintro ⟨a1,a2,⟨a3,a4⟩,a5,a6⟩
      exact hx ⟨trivial,by omega,a3,a5⟩
     | true =>
      obtain ⟨b1,b2,b3,b4⟩:=(GC w d x t t1 h0 h1).1 hy
      simp only [List.mem_cons,forall_eq_or_imp,Bool.and_eq_true]
      rw [ih t1 t' (by omega) (by omega)]
      constructor
      ·rintro ⟨a1,a2,a3,a4⟩;exact ⟨by omega,by omega,⟨b3,a3⟩,b4,a4⟩
      ·rintro ⟨a1,a2,⟨_,a3⟩,_,a4⟩;exact ⟨by omega,by omega,a3,a4⟩
  have hloc:=loc_iff w f
  rw [D1,hw,Fact.depth_eq,Fact.size_eq,Om,Bool.and_eq_true,hloc]
  have hd:Fact.depths f.kids 0+1<=((d+1:Nat):Int) ↔ ∀ x ∈ f.kids,x.depth<=d:=by
   have:=Ku f.kids 0 d
   constructor
   ·intro h;exact (this.1 (by omega)).2
   ·intro h;have:=this.2 ⟨by omega,h⟩;omega
  rw [hd]
  unfold locP
  split
  ·rename_i hc
   simp only [Prod.mk.injEq,Bool.false_eq_true,false_and,false_iff]
   rintro ⟨a1,a2,a3,⟨a4,a5,a6,a7⟩,a8⟩
   rcases hc with hc | hc | hc | hc<;>omega
  ·rename_i hc
   have c1 : ¬ s-1 < 0:=fun h=>hc (.inl h)
   have c2 : ¬ f.op < 1:=fun h=>hc (.inr (.inl h))
   have c3 : ¬ 7 < f.op:=fun h=>hc (.inr (.inr (.inl h)))
   have c4:f.kids.length=Bd f.op:=Classical.byContradiction fun h=>hc (.inr (.inr (.inr h)))
   split
   ·rename_i hl
    have hk:f.kids=[]:=by
     have:Bd f.op=0:=by
      unfold BF at hl
      simp only [Bool.or_eq_true,decide_eq_true_eq] at hl
      unfold Bd
      rw [if_neg (by omega),if_neg (by omega)]
     exact List.eq_nil_of_length_eq_zero (by omega)
    rw [hk] at c4 ⊢
    rw [Fact.sizes,DC]
    simp only [Prod.mk.injEq]
    constructor
    ·rintro ⟨a1,a2⟩;exact ⟨by omega,by omega,by simp,⟨by omega,by omega,c4,a1⟩,trivial⟩
    ·rintro ⟨a1,a2,a3,⟨a4,a5,a6,a7⟩,a8⟩;exact ⟨a7,by omega⟩
   ·rename_i hl
    split
    ·rename_i hz
     rw [hall _ _ _ (by omega) (by omega)]
     constructor
     ·rintro ⟨a1,a2,a3,a4⟩;exact ⟨by omega,by omega,a3,⟨by omega,by omega,c4,hz⟩,a4⟩
     ·rintro ⟨a1,a2,a3,_,a4⟩;exact ⟨by omega,by omega,a3,a4⟩
    ·rename_i hz
     simp only [Prod.mk.injEq,Bool.false_eq_true,false_and,false_iff]
     rintro ⟨a1,a2,a3,⟨a4,a5,a6,a7⟩,a8⟩
     exact hz a7
mutual
theorem T1 : ∀ (f:Fact) (most:Int),((f.size:Int)<=most->f.cnt most=f.size)/\(most < f.size->most < f.cnt most)
 | .mk o a p c n k,most=>by
  have:=P4 k most 1
  rw [Fact.cnt,Fact.size]
  omega
theorem P4 : ∀ (l:List Fact) (most n:Int),(n+(Fact.sizes l:Int)<=most->Fact.cnts l most n=n+Fact.sizes l)/\(most < n+Fact.sizes l->most < Fact.cnts l most n)
 | [],most,n=>by rw [Fact.cnts,Fact.sizes];omega
 | f::l,most,n=>by
  rw [Fact.cnts,Fact.sizes]
  have h1:=T1 f (most-n)
  have h2:=Fact.cnts_le l most (n+f.cnt (most-n))
  have h3:=P4 l most (n+f.cnt (most-n))
  split
  ·by_cases hs:(f.size:Int)<=most-n
   ·rw [h1.1 hs] at h2 h3 ⊢
    omega
   ·have:=h1.2 (by omega)
    omega
  ·omega
end
theorem Rg (w:World) (f:Fact):CW w f=DH w f:=by
 have h:=GC w 12 f 24 (24-f.size) (by omega) (by omega)
 have hc:=T1 f 24
 have e1:CW w f=true ↔ ((f.size:Int)<=24/\f.depth<=12/\IB w f=true):=by
  unfold CW
  constructor
  ·intro hb
   cases hn:D1 w 12 f 24 with
   | mk b s' =>
    rw [hn] at hb
    cases b with
    | false=>simp at hb
    | true=>exact ((GC w 12 f 24 s' (by omega) (by omega)).1 hn).2
  ·intro hb
   rw [h.2 ⟨rfl,hb⟩]
 have e2:DH w f=true ↔ ((f.size:Int)<=24/\f.depth<=12/\IB w f=true):=by
  unfold DH
  simp only [Bool.and_eq_true,decide_eq_true_eq]
  constructor
  ·rintro ⟨⟨a,b⟩,c⟩;exact ⟨by omega,b,c⟩
  ·rintro ⟨a,b,c⟩;exact ⟨⟨by omega,b⟩,c⟩
 rw [Bool.eq_iff_iff,e1,e2]
theorem TB (p:BProg) (hC:Ag p=AB p):BP p=CU p:=look_eq p hC fun f=>Rg _ f
theorem OA {p:BProg} (hg:AT (p.classes.map (·.parents))=true) {k:Nat} (hk:k < p.classes.length):(p.classes[k]).parents.length<=3 /\ ∀ x ∈ (p.classes[k]).parents,3<=x/\x < (k:Int)+3:=by
 have h:=AK hg (k+3)
 have e:parentsF (p.classes.map (·.parents)) ((k+3:Nat):Int)=(p.classes[k]).parents:=by
  unfold parentsF
  rw [if_neg (by omega),show (((k+3:Nat):Int)-3).toNat=k by omega,List.getElem?_eq_getElem (by simpa using hk)]
  simp
 rw [e] at h
 exact ⟨h.1,fun x hx=>by have:=h.2 x hx;omega⟩
theorem P5 : ∀ (cs:List BClass) (n:Int),(∀ c ∈ cs,c.parents.length<=3)->ES n cs=B0 n cs
 | [],_,_=>rfl
 | c::r,n,h=>by
  have h3:=h c (by simp)
  rw [ES,B0]
  by_cases h4:4 < c.slots.length
  ·rw [if_pos (.inl h4),if_pos h4]
  ·rw [if_neg (by omega),if_neg h4]
   cases Cu n c.slots with
   | none=>rfl
   | some m=>exact P5 r m fun x hx=>h x (by simp [hx])
theorem Ov {g:List (List Int)} (hg:AT g=true) {c:Int} (hc:0<=c/\c < 3+g.length):decide (linE g c=0)=decide (0 < (lineF g c).length):=by
 unfold linE
 rw [if_pos ⟨hg,hc⟩]
 by_cases h:lineF g c=[]
 ·rw [if_pos h,h];rfl
 ·rw [if_neg h]
  have:=List.length_pos_iff.2 h
  simp [this]
theorem FH (bs:List Bool) (i j:Nat) (v:Bool):(bs.set i v).getD j false=if i=j/\i < bs.length then v else bs.getD j false:=by
 rw [List.getD_eq_getElem?_getD,List.getD_eq_getElem?_getD,List.getElem?_set]
 by_cases h:i=j
 ·subst h
  by_cases hl:i < bs.length
  ·simp [hl]
  ·simp [hl]
 ·simp [h]
theorem F4 (k:Nat) : ∀ (ps:List Int) (bs:List Bool) (j:Nat),(∀ x ∈ ps,0<=x/\x < k/\x < bs.length)->(FR k ps bs).getD j false=(bs.getD j false || (bs.getD k false && decide ((j:Int) ∈ ps)))
 | [],bs,j,_=>by rw [FR];simp
 | p::r,bs,j,h=>by
  obtain ⟨h0,h1,h2⟩:=h p (by simp)
  rw [FR,F4 k r _ j (fun x hx=>by rw [List.length_set];exact h x (by simp [hx]))]
  rw [FH,FH]
  have hk : ¬ (p.toNat=k/\p.toNat < bs.length):=by omega
  rw [if_neg hk]
  by_cases hj:p.toNat=j
  ·have hjp:(j:Int)=p:=by omega
   rw [if_pos ⟨hj,by omega⟩,hj]
   simp [hjp]
   cases bs.getD j false<;>cases bs.getD k false<;>simp_all
  ·have hjp : ¬ (j:Int)=p:=by omega
   rw [if_neg (by rintro ⟨a,_⟩;exact hj a)]
   simp [hjp]
theorem HS (g:List (List Int)) (hg:AT g=true) : ∀ (j:Nat) (bs:List Bool) (k:Nat),j+2 < k->bs.length=3+g.length->j<=g.length->(upD g j bs).getD k false=bs.getD k false
 | 0,_,_,_,_,_=>rfl
 | j+1,bs,k,h,hl,hj=>by
  have hp:=(AK hg (j+3)).2
  rw [upD,HS g hg j _ k (by omega) (by rw [Cs];exact hl) (by omega),F4 _ _ _ _ (fun x hx=>by have:=hp x hx;omega)]
  have:decide ((k:Int) ∈ parentsF g ((j+3:Nat):Int))=false:=by
   rw [decide_eq_false_iff_not];intro hx
   have:=hp k hx;omega
  rw [this];simp
theorem JQ {α:Type} [DecidableEq α] {x:α} : ∀ (l s:List α),x ∈ G0 l s ↔ x ∈ l\/x ∈ s
 | [],s=>by unfold G0;simp
 | y::r,s=>by
  have:=JQ (x:=x) r (ins y s)
  unfold G0 at this ⊢
  rw [List.foldl_cons,this,L1,List.mem_cons]
  grind
theorem L9 {p:BProg} (hg:AT (p.classes.map (·.parents))=true) {s:Int} : ∀ (n:Nat) (up out:List Int) (bs:List Bool),n<=p.classes.length->bs.length=3+p.classes.length->(∀ k:Nat,3<=k->k < n+3->((k:Int) ∈ up ↔ bs.getD k false=true)) ->
  (s ∈ hasG p.classes n up out ↔ s ∈ out \/ ∃ k, ∃ h:k < p.classes.length,k < n/\(upD (p.classes.map (·.parents)) n bs).getD (k+3) false=true/\s ∈ (p.classes[k]).slots)
 | 0,up,out,bs,_,_,_=>by rw [hasG];simp
 | n+1,up,out,bs,hn,hl,hR=>by
  have hnl:n < p.classes.length:=by omega
  have hrow:=(OA hg hnl).2
  have hpar:parentsF (p.classes.map (·.parents)) ((n+3:Nat):Int)=(p.classes[n]).parents:=by
   unfold parentsF
   rw [if_neg (by omega),show (((n+3:Nat):Int)-3).toNat=n by omega,List.getElem?_eq_getElem (by simpa using hnl)]
   simp
  have hget:=fun (j:Nat)=>F4 (n+3) (p.classes[n]).parents bs j (fun x hx=>by have:=hrow x hx;omega)
  have hlen:(FR (n+3) (p.classes[n]).parents bs).length=3+p.classes.length:=by rw [Cs];exact hl
  have hhigh:=HS _ hg n (FR (n+3) (p.classes[n]).parents bs) (n+3) (by omega) (by rw [hlen,List.length_map]) (by rw [List.length_map];omega)
  have hself:(FR (n+3) (p.classes[n]).parents bs).getD (n+3) false=bs.getD (n+3) false:=by
   rw [hget]
   have:decide (((n+3:Nat):Int) ∈ (p.classes[n]).parents)=false:=by rw [decide_eq_false_iff_not];intro hx;have:=hrow _ hx;omega
   rw [this];simp
  have hmark:=hR (n+3) (by omega) (by omega)
  rw [hasG,List.getElem?_eq_getElem hnl,upD,hpar]
  simp only
  have hcast:((n+3:Nat):Int)=(n:Int)+3:=by omega
  rw [hcast] at hmark
  by_cases hu:(n:Int)+3 ∈ up
  ·have hb:=hmark.1 hu
   rw [if_pos hu,L9 hg n _ _ (FR (n+3) (p.classes[n]).parents bs) (by omega) hlen (fun k h3 hk=>by
    rw [JQ,hR k h3 (by omega),hget k,hb]
    simp;grind),List.mem_append]
   constructor
   ·rintro ((h | h) | ⟨k,hk,h1,h2,h3⟩)
    ·exact .inl h
    ·exact .inr ⟨n,hnl,by omega,by rw [hhigh,hself];exact hb,h⟩
    ·exact .inr ⟨k,hk,by omega,h2,h3⟩
   ·rintro (h | ⟨k,hk,h1,h2,h3⟩)
    ·exact .inl (.inl h)
    ·by_cases hkn:k=n
     ·subst hkn;exact .inl (.inr h3)
     ·exact .inr ⟨k,hk,by omega,h2,h3⟩
  ·have hb:bs.getD (n+3) false=false:=by
    cases h:bs.getD (n+3) false
    ·rfl
    ·exact absurd (hmark.2 h) hu
   rw [if_neg hu,L9 hg n _ _ (FR (n+3) (p.classes[n]).parents bs) (by omega) hlen (fun k h3 hk=>by
    rw [hR k h3 (by omega),hget k,hb]
    simp)]
   constructor
   ·rintro (h | ⟨k,hk,h1,h2,h3⟩)
    ·exact .inl h
    ·exact .inr ⟨k,hk,by omega,h2,h3⟩
   ·rintro (h | ⟨k,hk,h1,h2,h3⟩)
    ·exact .inl h
    ·by_cases hkn:k=n
     ·subst hkn;rw [hhigh,hself,hb] at h2;cases h2
     ·exact .inr ⟨k,hk,by omega,h2,h3⟩
theorem Mi (p:BProg) (σ:Sig) (hp:p.wt<=1073741824):DCall prog 42 [.agg (Af p)] σ fun x σ'=>(∃ d,x = .ret (.tup [d, .bool (BP p).isSome]) /\ ∀ s,BP p=some s->d=sl (cI s))/\σ'=σ:=by
 refine en func42 ntmps42 ?_
 try refine gz ?_ [] [4]
 refine newV (fun io hio => ?_)
 try refine gz ?_ [] [4]
 refine Ab (TV 79 [.cptr (Af p) 0, .ptr io 0] (σ.set io (.cells [.nils])) (fun σ1=>SzR p io σ1) (fun i hi=>Rr p io _ hp (by rw [w8 _ _ fun e=>by rw [e] at hi;rw [w7 ..] at hi;cases hi];exact w7 ..)) (fun σ1 d σ2 h => ?_) (fun i σ2 x hi h=>h.1 i _ (w7 ..) (fun e=>by rw [e,w7] at hi;cases hi))) (fun d σ' hr => ?_) (fun d σ' hr => ?_)
 ·obtain ⟨_,_,h⟩:=h
  split at h
  ·simpa using h
  ·exact absurd h.1 (by simp)
 ·obtain ⟨i,σ2,hi,rfl,hr⟩:=hr
  rcases hr with ⟨e,⟨hK,⟨d0,hd0⟩,h⟩,h2⟩ | ⟨⟨hK,⟨d0,hd0⟩,h⟩,h2⟩
  ·simp only [DE.ret.injEq] at h2
   subst h2
   cases hL:BP p with
   | none=>rw [hL] at h;exact absurd h (by simp)
   | some s =>
    rw [hL] at h
    obtain ⟨_,hio2⟩:=h
    have hii:io ≠ i:=fun e=>by rw [<- e,w7] at hi;cases hi
    have hio3:(σ2.del i) io=some (.cells [sl (cI s)]):=by simp only [Sig.del,hii,if_false];exact hio2
    try refine gf hio3 ?_ [] [4]
    refine fin2 (σ':=σ) ?_ (hσ := ?_)
    ·exact ⟨⟨_,rfl,fun s' h=>by cases h;rfl⟩,rfl⟩
    ·intro j o hj
     have e1:j ≠ io:=fun e=>by rw [e,hio] at hj;cases hj
     have e2:=hK j o (by rw [w8 _ _ (fun e=>by rw [e] at hj;rw [w8 _ _ (Ne.symm hii),hj] at hi;cases hi),w8 _ _ e1];exact hj) e1
     simp only [Sig.del]
     rw [if_neg (fun e=>by rw [e] at hj;rw [w8 _ _ (Ne.symm hii),hj] at hi;cases hi)]
     exact e2
  ·simp only [DE.ret.injEq] at h2
   subst h2
   have hii:io ≠ i:=fun e=>by rw [<- e,w7] at hi;cases hi
   have hio3:(σ2.del i) io=some (.cells [d0]):=by simp only [Sig.del,hii,if_false];exact hd0
   have hL:BP p=none:=by
    cases hL:BP p with
    | none=>rfl
    | some s=>rw [hL] at h;exact absurd h.1 (by simp)
   rw [hL]
   try refine gf hio3 ?_ [] [4]
   refine fin2 (σ':=σ) ?_ (hσ := ?_)
   ·exact ⟨⟨_,rfl,fun s' h=>by cases h⟩,rfl⟩
   ·intro j o hj
    have e1:j ≠ io:=fun e=>by rw [e,hio] at hj;cases hj
    have e2:=hK j o (by rw [w8 _ _ (fun e=>by rw [e] at hj;rw [w8 _ _ (Ne.symm hii),hj] at hi;cases hi),w8 _ _ e1];exact hj) e1
    simp only [Sig.del]
    rw [if_neg (fun e=>by rw [e] at hj;rw [w8 _ _ (Ne.symm hii),hj] at hi;cases hi)]
    exact e2
 ·obtain ⟨i,σ2,hi,rfl,hr⟩:=hr
  rcases hr with ⟨e,_,h2⟩ | ⟨_,h2⟩<;>cases h2
theorem Tb {a b:List D} (h:WkL a b):WkD (.agg a) (.agg b):=fun _ _ ⟨vs,e,hr⟩=>⟨vs,e,h.rep hr⟩
theorem H4 {a b:List D} (h:WkL a b):WkD (.tup a) (.tup b):=fun _ _ ⟨vs,e,hr⟩=>⟨vs,e,h.rep hr⟩
def okP (p:BProg):Bool:=(BP p).isSome
theorem Cp {p:BProg} (h:okP p=true):Ag p=true:=by
 unfold okP BP at h
 cases hc:Ag p
 ·rw [hc] at h;simp at h
 ·rfl
theorem I5 (p:BProg) (σ:Sig) (hp:p.wt<=1073741824:=by exact sd):DCall prog 13 [.agg (Af p)] σ fun x σ'=>x = .ret (dI (if okP p then 0 else 2))/\σ'=σ:=by
 refine en func13 ntmps13 ?_
 try refine gz ?_
 refine Ab (Mi p σ hp) (fun d σ' hr => ?_) (fun d σ' hr=>by obtain ⟨⟨_,h,_⟩,_⟩:=hr;cases h)
 obtain ⟨⟨d,h1,h2⟩,h3⟩:=hr
 simp only [DE.ret.injEq] at h1
 subst h1
 rw [h3]
 cases hk:okP p<;>unfold okP at hk<;>rw [hk]
 ·try refine gz ?_
  exact fe1 trivial
 ·try refine gz ?_
  exact fe1 trivial
@[reducible,instance] def a13:=fun p σ=>ah1 (@I5 p σ)
theorem Lk (p:BProg) (σ:Sig) (hp:p.wt<=1073741824:=by exact sd):DCall prog 11 [.agg (Af p)] σ fun x σ'=>x = .ret (.tup [sl (cI ((BP p).getD [])),dI (Dm (BP p))])/\σ'=σ:=by
 refine en func11 ntmps11 ?_
 try refine gz ?_
 refine Ab (Mi p σ hp) (fun d σ' hr => ?_) (fun d σ' hr=>by obtain ⟨⟨_,h,_⟩,_⟩:=hr;cases h)
 obtain ⟨⟨d,h1,h2⟩,h3⟩:=hr
 simp only [DE.ret.injEq] at h1
 subst h1
 rw [h3]
 cases hL:BP p with
 | none =>
  try refine gz ?_
  (refine fin2 (σ':=σ) (d':=sl []) ?_;exact ⟨by first | rfl | (simp [Dm];done) | (simp_all [Dm];done) | (rw [Aa,Bool.eq_iff_iff];simp_all [Dm]<;>omega),rfl⟩)
 | some s =>
  obtain rfl:=h2 s hL
  try refine gz ?_
  (refine fin2 (σ':=σ) (d':=sl (cI s)) ?_;exact ⟨by first | rfl | (simp [Dm];done) | (simp_all [Dm];done) | (rw [Aa,Bool.eq_iff_iff];simp_all [Dm]<;>omega),rfl⟩)
@[reducible,instance] def a11:=fun p σ=>ah1 (@Lk p σ)
theorem U1 (p:BProg) (c:Int) (σ:Sig) (hp:p.wt<=1073741824:=by exact sd):DCall prog 61 [.agg (Af p),dI c] σ fun x σ'=>x = .ret (.bool (ownF p c && okP p))/\σ'=σ:=by
 obtain ⟨p1,p2,p3,p4,p5,p6,p7⟩:=p.wt_le
 refine en func61 ntmps61 ?_
 cases hk:okP p
 ·repeat' first | refine gf hk ?_ | apply gy<;>intro hh
  any_goals (first | (refine fin1 (σ':=σ) ?_;exact ⟨by first | rfl | (simp [ownF];done) | (simp_all [ownF];done) | (rw [Aa,Bool.eq_iff_iff];simp_all [ownF]<;>omega),rfl⟩) | fail)
 ·repeat' first | refine gf hk ?_ | apply gy<;>intro hh
  any_goals (first | (refine fin1 (σ':=σ) ?_;exact ⟨by first | rfl | (simp [ownF];done) | (simp_all [ownF];done) | (rw [Aa,Bool.eq_iff_iff];simp_all [ownF]<;>omega),rfl⟩) | fail)
@[reducible,instance] def a61:=fun p c σ=>ah1 (@U1 p c σ)
theorem I3 (p:BProg) (c:Int) (σ:Sig) (hp:p.wt<=1073741824:=by exact sd):DCall prog 23 [.agg (Af p),dI c] σ fun x σ'=>x = .ret (.tup [sl (cI (if ownF p c && okP p then hasP p c else [])),dI (if ownF p c && okP p then 0 else 2)])/\σ'=σ:=by
 refine en func23 ntmps23 ?_
 cases hk:ownF p c && okP p
 ·try refine gf hk ?_
  exact fe2 (d':=sl []) trivial
 ·have ho:3<=c/\c < 3+p.classes.length:=by simp only [ownF,Bool.and_eq_true,decide_eq_true_eq] at hk;exact hk.1
  obtain ⟨h1,h2⟩:=ho
  try refine gf hk ?_
  exact fe2 trivial
@[reducible,instance] def a23:=fun p c σ=>ah1 (@I3 p c σ)
theorem OJ (p:BProg) (σ:Sig) (hp:p.wt<=1073741824:=by exact sd):DCall prog 37 [.agg (Af p)] σ fun x σ'=>x = .ret (.tup [.agg (CE (if okP p then Aj p else ⟨[],[]⟩)),dI (if okP p then 0 else 2)])/\σ'=σ:=by
 obtain ⟨p1,p2,p3,p4,p5,p6,p7⟩:=p.wt_le
 refine en func37 ntmps37 ?_
 try refine gz ?_ [] [2]
 refine newV (fun i hi => ?_)
 repeat' first | refine gz ?_ [] [2] | apply gy<;>intro hh
 ·rw [hh]
  refine finC (σ':=σ) (d := .tup [.agg (CE ⟨[],[]⟩),dI 2]) ⟨rfl,rfl⟩ (hw := ?_)
  exact H4 ⟨Tb ⟨At _ (.inl rfl),At _ (.inl rfl),trivial⟩,A9 _,trivial⟩
 ·have hW:=KE hp (Cp hh)
  have hof:(ownersF p.classes 0).length<=40:=hW.few
  have hwc : ∀ c ∈ p.classes,c.parents.length<=1073741824/\c.slots.length<=1073741824:=fun c hc=>by
   obtain ⟨k,hk,rfl⟩:=List.getElem_of_mem hc
   have:=p5 k hk
   unfold BClass.wt at this;omega
  have hwp : ∀ c ∈ p.classes,c.parents.length<=1073741824:=fun c hc=>(hwc c hc).1
  have hws : ∀ c ∈ p.classes,c.slots.length<=1073741824:=fun c hc=>(hwc c hc).2
  rw [hh]
  try refine gz ?_ [] [2]
  refine finC (σ':=σ) (d := .tup [.agg (CE (Aj p)),dI 0]) ⟨rfl,rfl⟩
@[reducible,instance] def a37:=fun p σ=>ah1 (@OJ p σ)
end Go.DL
