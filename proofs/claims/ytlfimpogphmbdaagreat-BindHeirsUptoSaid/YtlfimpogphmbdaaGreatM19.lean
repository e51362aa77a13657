/- Part of a proof in texts M01 on: a layer of pure values over the fenced walk, the walks of the functions, the plain laws. -/
import Derived.Test.YtlfimpogphmbdaaGreatM18
import Derived.Test.YtlfimpogphmbdaaGreatM16
import Derived.Test.YtlfimpogphmbdaaGreatM15
import Derived.Test.YtlfimpogphmbdaaGreatM10
set_option linter.all false
namespace Go.DL
open Go.Proofs.Tryz
open Go Go.Proofs
set_option maxHeartbeats 8000000
def Dm {α:Type}:Option α->Int
 | some _=>0
 | none=>2
theorem OQ (p:BProg) (σ:Sig) (hp:p.wt<=1073741824:=by exact sd) :
  DCall prog 12 [.agg (Af p)] σ fun x σ'=>x = .ret (.tup [sl (cI ((CU p).getD [])),dI (Dm (CU p))])/\σ'=σ:=by
 have h:=OI p σ hp
 refine en func12 ntmps12 ?_
 cases hL:CU p with
 | none =>
  rw [hL] at h
  have i1:=Ans.of h
  try refine gz ?_
  (refine fin2 (σ':=σ) (d':=sl []) ?_;exact ⟨by first | rfl | (simp [Dm];done) | (simp_all [Dm];done) | (rw [Aa,Bool.eq_iff_iff];simp_all [Dm]<;>omega),rfl⟩)
 | some s =>
  rw [hL] at h
  have i1:=Ans.of h
  try refine gz ?_
  (refine fin2 (σ':=σ) (d':=sl (cI s)) ?_;exact ⟨by first | rfl | (simp [Dm];done) | (simp_all [Dm];done) | (rw [Aa,Bool.eq_iff_iff];simp_all [Dm]<;>omega),rfl⟩)
@[reducible,instance] def a12:=fun p σ=>ah1 (@OQ p σ)
theorem OM (p:BProg) (σ:Sig) (hp:p.wt<=1073741824:=by exact sd) :
  DCall prog 28 [.agg (Af p)] σ fun x σ'=>x = .ret (.bool (CU p).isSome)/\σ'=σ:=by
 refine en func28 ntmps28 ?_
 try refine gz ?_
 exact fe1 trivial
@[reducible,instance] def a28:=fun p σ=>ah1 (@OM p σ)
theorem OP (p:BProg) (σ:Sig) (hp:p.wt<=1073741824:=by exact sd) :
  DCall prog 14 [.agg (Af p)] σ fun x σ'=>x = .ret (dI (Dm (CU p)))/\σ'=σ:=by
 have h:=OM p σ hp
 refine en func14 ntmps14 ?_
 cases hL:CU p with
 | none =>
  rw [hL] at h
  have i1:=Ans.of h
  try refine gz ?_
  (refine fin1 (σ':=σ) ?_;exact ⟨by first | rfl | (simp [Dm];done) | (simp_all [Dm];done) | (rw [Aa,Bool.eq_iff_iff];simp_all [Dm]<;>omega),rfl⟩)
 | some s =>
  rw [hL] at h
  have i1:=Ans.of h
  try refine gz ?_
  (refine fin1 (σ':=σ) ?_;exact ⟨by first | rfl | (simp [Dm];done) | (simp_all [Dm];done) | (rw [Aa,Bool.eq_iff_iff];simp_all [Dm]<;>omega),rfl⟩)
@[reducible,instance] def a14:=fun p σ=>ah1 (@OP p σ)
def kwds:List Str:=[[97,102,116,101,114],[97,110,100],[97,110,121],[97,114,111,117,110,100],[98,101,102,111,114,101],[99,108,97,115,115],[101,108,115,101],[105,102],[105,110],[105,110,116],[105,115],[108,101,116],[109,101,116,104,111,100],[110,101,119],[110,101,120,116],[110,111,110,101],[110,111,116],[111,114],[111,117,116],[115,101,116],[116,104,101,110],[116,114,117,101],[116,117,114,110],[119,104,101,114,101]]
def GI (b:UInt8):Bool:=decide (97<=b.toNat/\b.toNat<=122)
def Cj (s:Str):Bool:=s.all GI && (decide (1<=s.length/\s.length<=8) && !decide (s ∈ kwds))
end Go.DL
namespace Go.DL
open Go.Proofs.Tryz
open Go Go.Proofs
set_option maxHeartbeats 4000000
mutual
def Fact.beq:Fact->Fact->Bool
 | .mk o a p c n k,g=>decide (o=g.op) && decide (a=g.arg) && decide (c=g.cls) && decide (n=g.n) && (p==g.path) && decide (k.length=g.kids.length) && Fact.beqs k g.kids
def Fact.beqs:List Fact->List Fact->Bool
 | f::l,g::m=>f.beq g && Fact.beqs l m
 | _,_=>true
end
theorem Fact.beq_eq (f g:Fact):f.beq g=(decide (f.op=g.op) && decide (f.arg=g.arg) && decide (f.cls=g.cls) && decide (f.n=g.n) && (f.path==g.path) && decide (f.kids.length=g.kids.length) && Fact.beqs f.kids g.kids):=by cases f;rw [Fact.beq];rfl
theorem Lg (f g:Fact) (σ:Sig) (hf:f.wt<=1073741824:=by exact sd) :
  DCall prog 55 [.agg (Bk f), .agg (Bk g)] σ fun x σ'=>x = .ret (.bool (f.beq g))/\σ'=σ:=by
 obtain ⟨hw1,hw2,hw3⟩:=f.wt_le
 have hp1:f.path.length<=1073741824:=by omega
 refine en func55 ntmps55 ?_
 repeat' first | refine gz ?_ o55 | apply gy<;>intro hh
 any_goals (first | (refine fin1 (σ':=σ) ?_;exact ⟨by first | rfl | (simp [Fact.beq_eq];done) | (simp_all [Fact.beq_eq];done) | (rw [Aa,Bool.eq_iff_iff];simp_all [Fact.beq_eq]<;>omega),rfl⟩) | fail)
 refine Bh [2,3,51] (fun (k:Nat)=>k<=f.kids.length/\f.beq g=Fact.beqs (f.kids.drop k) (g.kids.drop k)) (fun k=>[(52,dI k)]) (fun _=>σ) (fun k=>f.kids.length-k) (0) (by simp_all [Fact.beq_eq]) (fun k hI => ?_)
 obtain ⟨hk,hR⟩:=hI
 have hgk:f.kids.length=g.kids.length:=by assumption
 by_cases h:k < f.kids.length
 ·rw [A2 h,A2 (l:=g.kids) (by omega),Fact.beqs] at hR
  have hks:=hw3 k h
  repeat' first | refine gf h ?_ | refine moR (Lg (f.kids[k]) (g.kids[k]) σ (by omega)) ?_ | refine moP (Lg (f.kids[k]) (g.kids[k]) σ (by omega)) ?_ | refine gf h ?_ o55 | apply gy<;>intro hh
  ·exact fe1 hR
  ·exact ⟨k+1,by simp_all;omega,td1,wkR⟩
 ·refine gf h ?_ o55
  (refine fin1 (σ':=σ) ?_;exact ⟨by first | rfl | (simp [hR,A1 h,Fact.beqs];done) | (simp_all [hR,A1 h,Fact.beqs];done) | (rw [Aa,Bool.eq_iff_iff];simp_all [hR,A1 h,Fact.beqs]<;>omega),rfl⟩)
termination_by SizeOf.sizeOf f
decreasing_by exact Fact.lt (List.getElem_mem _)
@[reducible,instance] def a55:=fun f g σ=>ah1 (@Lg f g σ)
end Go.DL
namespace Go.DL
open Go.Proofs.Tryz
open Go Go.Proofs
set_option maxHeartbeats 8000000
theorem Sl (g:List (List Int)) (o:Own) (σ:Sig) (hl:g.length<=1073741824:=by exact sd) (hl2 : ∀ x ∈ g,x.length<=1073741824:=by exact sd) :
  DCall prog 167 [.slice (cII g) o] σ fun x σ'=>x = .ret (dI (if AT g then 0 else 2))/\σ'=σ:=by
 refine en func167 ntmps167 ?_
 cases h:AT g with
 | false =>
  try refine gf h ?_
  exact fe1 trivial
 | true =>
  try refine gf h ?_
  exact fe1 trivial
@[reducible,instance] def a167:=fun g o σ=>ah2 (@Sl g o σ)
def B0:Int->List BClass->Option Int
 | n,[]=>some n
 | n,c::r=>if 4 < c.slots.length then none else match Cu n c.slots with
  | none=>none
  | some m=>B0 m r
def Cy (has:List Int):List Int->List Init->Bool
 | _,[]=>true
 | seen,x::r=>(decide (x.slot ∈ has) && !decide (x.slot ∈ seen) && inB x.n) && Cy has (seen++[x.slot]) r
def AH (p:BProg):Nat->List BClass->Bool
 | _,[]=>true
 | i,c::r=>decide (linE (p.classes.map (·.parents)) ((i:Int)+3)=0) && Cy (hasP p ((i:Int)+3)) [] c.inits && AH p (i+1) r
def Ag (p:BProg):Bool:=decide (p.classes.length<=10) && match B0 0 p.classes with
 | none=>false
 | some n=>decide (n=p.slots) && AT (p.classes.map (·.parents)) && AH p 0 p.classes
theorem EC (cs:List BClass) : ∀ (n:Nat) (up out:List Int),(hasG cs n up out).length<=out.length+wtL (fun c:BClass=>c.slots.length) (cs.take n)
 | 0,_,out=>by rw [hasG];omega
 | n+1,up,out=>by
  rw [hasG]
  by_cases h:n < cs.length
  ·rw [List.getElem?_eq_getElem h,HP _ _ _ h]
   simp only
   split
   ·have:=EC cs n (G0 (cs[n]).parents up) (out++(cs[n]).slots)
    rw [List.length_append] at this;omega
   ·have:=EC cs n up out;omega
  ·rw [List.getElem?_eq_none (by omega)]
   have:=EC cs n up out
   rw [List.take_of_length_le (by omega)] at this ⊢
   exact this
theorem DG (p:BProg) (c:Int):(hasP p c).length<=wtL (fun c:BClass=>c.slots.length) p.classes:=by
 unfold hasP
 have h1:=Gp (hasG p.classes (c-2).toNat [c] [])
 have h2:=EC p.classes (c-2).toNat [c] []
 have h3:=Er (fun c:BClass=>c.slots.length) p.classes (c-2).toNat
 simp only [List.length_nil] at h2
 omega
theorem ins_new {k:Int} {s:List Int} (h:k ∉ s):ins k s=s++[k]:=by unfold ins;rw [if_neg h]
theorem TU (p:BProg) (σ:Sig) (hp:p.wt<=1073741824:=by exact sd):DCall prog 80 [.agg (Af p)] σ fun x σ'=>x=(if Ag p then .ret (.tup []) else .panic unf)/\σ'=σ:=by
 obtain ⟨p1,p2,p3,p4,p5,p6,p7⟩:=p.wt_le
 have ws:=Ep p
 have hwc : ∀ c ∈ p.classes,c.parents.length<=1073741824/\c.slots.length<=1073741824/\c.inits.length<=1073741824:=fun c hc=>by
  obtain ⟨k,hk,rfl⟩:=List.getElem_of_mem hc
  have:=p5 k hk
  have hwu:(p.classes[k]).wt=1+(p.classes[k]).parents.length+(p.classes[k]).slots.length+(p.classes[k]).inits.length:=rfl
  omega
 have hwp : ∀ c ∈ p.classes,c.parents.length<=1073741824:=fun c hc=>(hwc c hc).1
 have hwg : ∀ x ∈ p.classes.map (·.parents),x.length<=1073741824:=fun x hx=>by obtain ⟨c,hc,rfl⟩:=List.mem_map.1 hx;exact (hwc c hc).1
 refine en func80 ntmps80 ?_
 by_cases h10:p.classes.length<=10
 ·repeat' first | refine gz ?_ | apply gy<;>intro hh
  ·refine AJ [1,7,8,9,10,11,12,13,15,22,23,48,49,50,51,52,53,54,55,56,57,58,59,60,61,62,63,64,65,66,67,68,69,70,71,72,73,74,75,76,77,78,79,80,81,82,83,84,85,86,87,88,89,90,91,92,93,94,95,96,97,98,99,100,101,102,103,104,105,106,107,108,109,110,111] (fun (i:Nat) (n:Int)=>i<=p.classes.length/\n=wtL (fun c:BClass=>c.slots.length) (p.classes.take i)/\B0 0 p.classes=B0 n (p.classes.drop i)) (fun i n=>[(24,dI i),(2,dI n)]) (fun _ _=>σ) (fun i _=>p.classes.length-i) (0) (0) (by simp [wtL]) (fun i n hI => ?_)
   obtain ⟨hi,hn,hR⟩:=hI
   by_cases h:i < p.classes.length
   ·have hx:=hwc _ (List.getElem_mem h)
    have hT:=HP (fun c:BClass=>c.slots.length) p.classes i h
    have hT2:=Er (fun c:BClass=>c.slots.length) p.classes (i+1)
    rw [A2 h,B0] at hR
    by_cases h4:4 < (p.classes[i]).slots.length
    ·have hc:B0 0 p.classes=none:=by rw [hR,if_pos h4]
     have hF:Ag p=false:=by unfold Ag;rw [hc];simp
     repeat' first | ((with_reducible refine finP (σ':=σ) ?_);exact ⟨by first | (simp [hF];done) | (simp_all [hF];done),rfl⟩) | refine gz ?_ | apply gy<;>intro hh
    ·rw [if_neg h4] at hR
     generalize hsl:(p.classes[i]).slots=sl' at *
     try refine gf hsl ?_
     refine Bh [1,4,7,8,9,10,11,12,13,15,22,23,24,25,26,27,28,29,30,31,32,33,34,35,47,48,49,50,51,52,53,54,55,56,57,58,59,60,61,62,63,64,65,66,67,68,69,70,71,72,73,74,75,76,77,78,79,80,81,82,83,84,85,86,87,88,89,90,91,92,93,94,95,96,97,98,99,100,101,102,103,104,105,106,107,108,109,110,111] (fun (q:Nat)=>q<=sl'.length/\Cu n sl'=Cu (n+q) (sl'.drop q)) (fun q=>[(36,dI q),(2,dI (n+q))]) (fun _=>σ) (fun q=>sl'.length-q) (0) (by simp) (fun q hI => ?_)
     obtain ⟨hq,hQ⟩:=hI
     by_cases hq':q < sl'.length
     ·rw [A2 hq',Cu] at hQ
      have hsm:=hx.2.1
      have hn0:0<=n:=by omega
      have hnb:n<=1073741824:=by omega
      by_cases hqn:sl'[q]=n+q
      ·rw [if_pos hqn] at hQ
       try refine gf hqn ?_
       exact ⟨q+1,⟨by omega,by rw [hQ,Int.add_assoc];rfl⟩,td1,wkR⟩
      ·rw [if_neg hqn] at hQ
       have hc:B0 0 p.classes=none:=by rw [hR,hQ]
       have hF:Ag p=false:=by unfold Ag;rw [hc];simp
       repeat' first | ((with_reducible refine finP (σ':=σ) ?_);exact ⟨by first | (simp [hF];done) | (simp_all [hF];done),rfl⟩) | refine gz ?_ | apply gy<;>intro hh
     ·rw [A1 hq',Cu] at hQ
      rw [hQ] at hR
      have hq2:q=sl'.length:=by omega
      try refine gz ?_
      exact ⟨i+1,n+q,⟨by omega,by rw [hT];omega,hR⟩,td1,wkR⟩
   ·rw [A1 h,B0] at hR
    by_cases hs:n=p.slots
    ·cases hg:AT (p.classes.map (·.parents)) with
     | false =>
      have hF:Ag p=false:=by unfold Ag;rw [hR,hg];simp
      repeat' first | ((with_reducible refine finP (σ':=σ) ?_);exact ⟨by first | (simp [hF];done) | (simp_all [hF];done),rfl⟩) | refine gf hg ?_ | apply gy<;>intro hh
     | true =>
      have hcl:Ag p=AH p 0 p.classes:=by unfold Ag;rw [hR];simp [hs,hg,h10]
      try refine gf hg ?_
      refine Bh [1,7,61,62] (fun (j:Nat)=>j<=p.classes.length/\AH p 0 p.classes=AH p j (p.classes.drop j)) (fun j=>[(63,dI j)]) (fun _=>σ) (fun j=>p.classes.length-j) (0) (by simp) (fun j hI => ?_)
      obtain ⟨hj,hJ⟩:=hI
      by_cases h':j < p.classes.length
      ·have hx:=hwc _ (List.getElem_mem h')
       have hhl:=DG p ((j:Int)+3)
       rw [A2 h',AH] at hJ
       by_cases hl:linE (p.classes.map (·.parents)) ((j:Int)+3)=0
       ·rw [decide_eq_true hl,Bool.true_and] at hJ
        generalize hin:(p.classes[j]).inits=ins' at hJ hx
        try refine gf (gi hin hl) ?_
        refine newSI (fun im him => ?_)
        try refine gf hin ?_
        refine Bh [1,7,8,9,10,11,12,13,61,62,63,64,65,66,67,68,69,70,71,72,73,74,75,76,77,78,79,80,81,82,83,84,85,111] (fun (k:Nat)=>k<=ins'.length/\Cy (hasP p ((j:Int)+3)) [] ins'=Cy (hasP p ((j:Int)+3)) ((ins'.take k).map (·.slot)) (ins'.drop k)) (fun k=>[(86,dI k)]) (fun k=>σ.set im (.map (eSI ((ins'.take k).map (·.slot))))) (fun k=>ins'.length-k) (0) (by simp) (fun k hI => ?_)
        obtain ⟨hk,hK⟩:=hI
        by_cases hk':k < ins'.length
        ·have hil:=hx.2.2
         rw [A2 hk',Cy] at hK
         repeat' first | ((with_reducible refine finP (σ':=σ) ?_);exact ⟨by first | (simp [hcl,hJ,hK];done) | (simp_all [hcl,hJ,hK];done),rfl⟩) | refine gz ?_ | apply gy<;>intro hh
         rename_i q1 q2
         have q3 : ¬ ins'[k].slot ∈ (ins'.take k).map (·.slot):=by simpa using q2
         have q4:(ins'.take (k+1)).map (·.slot)=(ins'.take k).map (·.slot)++[ins'[k].slot]:=by rw [List.take_succ_eq_append_getElem hk',List.map_append];rfl
         have q5:=ins_new q3
         simp only [<- List.map_take,q5, <- q4]
         exact ⟨k+1,by refine ⟨by omega, ?_⟩;rw [hK,hh,decide_eq_true q1,decide_eq_false q3,q4];rfl,td1,wkR⟩
        ·rw [A1 hk',Cy] at hK
         rw [hK,Bool.true_and] at hJ
         try refine gz ?_
         exact ⟨j+1,⟨by omega,hJ⟩,td1,wkR⟩
       ·rw [decide_eq_false hl,Bool.false_and,Bool.false_and] at hJ
        have hF:Ag p=false:=by rw [hcl,hJ]
        repeat' first | ((with_reducible refine finP (σ':=σ) ?_);exact ⟨by first | (simp [hF];done) | (simp_all [hF];done),rfl⟩) | refine gz ?_ | apply gy<;>intro hh
      ·rw [A1 h',AH] at hJ
       have hF:Ag p=true:=by rw [hcl,hJ]
       try refine gz ?_
       exact fe0 hF
    ·have hF:Ag p=false:=by unfold Ag;rw [hR];simp [hs]
     repeat' first | ((with_reducible refine finP (σ':=σ) ?_);exact ⟨by first | (simp [hF];done) | (simp_all [hF];done),rfl⟩) | refine gz ?_ | apply gy<;>intro hh
 ·have hF:Ag p=false:=by unfold Ag;rw [decide_eq_false h10];rfl
  repeat' first | ((with_reducible refine finP (σ':=σ) ?_);exact ⟨by first | (simp [hF];done) | (simp_all [hF];done),rfl⟩) | refine gz ?_ | apply gy<;>intro hh
@[reducible,instance] def a80:=fun p σ=>gh1 (@TU p σ)
theorem Qn {x:Int} (h0:0<=x) (h1:x < 18446744073709551616):IntKind.u64.wrap x=x:=by
 have e1:(2:Int) ^ IntKind.u64.bits=18446744073709551616:=by decide
 have e3:IntKind.u64.signed=false:=rfl
 simp only [IntKind.wrap,e1,e3,Bool.false_and,Bool.false_eq_true,if_false]
 omega
theorem andU (n:Nat) (h:n<=1073741824):binD .and (.int .u64 n) (.int .u64 4294967295)=some (.int .u64 n):=by
 simp only [binD,if_true]
 have e:((BitVec.ofInt IntKind.u64.bits (n:Int) &&& BitVec.ofInt IntKind.u64.bits 4294967295).toNat)=n:=by
  rw [BitVec.toNat_and]
  show (BitVec.ofInt 64 (n:Int)).toNat &&& (BitVec.ofInt 64 4294967295).toNat=n
  rw [show (4294967295:Int)=((2 ^ 32-1:Nat):Int) from rfl,BitVec.ofInt_natCast,BitVec.ofInt_natCast,BitVec.toNat_ofNat,BitVec.toNat_ofNat]
  rw [Nat.mod_eq_of_lt (by omega),Nat.mod_eq_of_lt (by omega),Nat.and_two_pow_sub_one_eq_mod,Nat.mod_eq_of_lt (by omega)]
 rw [e,Qn (by omega) (by omega)]
theorem shrU (k:IntKind) (n:Nat) (h:n<=1073741824):binD .shr (.int .u64 n) (.int k 32)=some (.int .u64 0):=by
 simp only [binD]
 rw [if_pos (by decide)]
 congr 2
 show (n:Int).fdiv (2 ^ 32)=0
 rw [Int.fdiv_eq_ediv_of_nonneg _ (by decide)]
 omega
theorem RT (n:Nat) (σ:Sig) (hn:n<=1073741824:=by exact sd):DCall prog 227 [.int .u64 1, .int .u64 n] σ fun x σ'=>x = .ret (.tup [.int .u64 0, .int .u64 n])/\σ'=σ:=by
 have a1:binD .and (.int .u64 1) (.int .u64 4294967295)=some (.int .u64 1):=andU 1 (by omega)
 have a0:binD .and (.int .u64 0) (.int .u64 4294967295)=some (.int .u64 0):=andU 0 (by omega)
 have an:=andU n hn
 have s1 : ∀ k,binD .shr (.int .u64 1) (.int k 32)=some (.int .u64 0):=fun k=>shrU k 1 (by omega)
 have s0 : ∀ k,binD .shr (.int .u64 0) (.int k 32)=some (.int .u64 0):=fun k=>shrU k 0 (by omega)
 have sn:=fun k=>shrU k n hn
 have wn:IntKind.u64.wrap (n:Int)=n:=Qn (by omega) (by omega)
 have w0:IntKind.u64.wrap 0=0:=Qn (by omega) (by omega)
 refine en func227 ntmps227 ?_
 refine gf (gi a1 (gi a0 (gi an (gi s1 (gi s0 (gi sn (gi wn w0))))))) ?_
 exact fe2 trivial
@[reducible,instance] def a227:=fun n σ=>ah1 (@RT n σ)
theorem Sj (n:Nat) (σ:Sig) (hn:n<=1073741824:=by exact sd):DCall prog 169 [.int .u64 1, .int .u64 n] σ fun x σ'=>x = .ret (.tup [.int .u64 0, .int .u64 n])/\σ'=σ:=by
 refine en func169 ntmps169 ?_
 refine gz ?_
 exact fe2 trivial
@[reducible,instance] def a169:=fun n σ=>ah1 (@Sj n σ)
theorem TS (n:Nat) (σ:Sig) (h1:1<=n) (hn:n<=1048576):DCall prog 82 [.slice [[dI (-1)]] .no,dI n] σ fun x σ' => ∃ r,σ r=none/\x = .ret (.sref r 0 n n)/\σ'=σ.set r (.cells ((List.replicate n (-1:Int)).map dI)):=by
 have wn:IntKind.u64.wrap (n:Int)=n:=Qn (by omega) (by omega)
 have w1:IntKind.u64.wrap 1=1:=Qn (by omega) (by omega)
 refine en func82 ntmps82 ?_
 refine gf (gi wn w1) ?_ o82
 refine Tw (k:=n) (c:=n) (sz:=1) (z:=[dI 0]) (fun i hi hm => ?_)
 have e0:mS σ (some (i,n,(List.replicate (n-n) [dI 0]).flatten)) (List.replicate n [dI 0])=σ.set i (.cells (List.replicate n (dI 0))):=by simp [mS]
 rw [e0]
 refine gz ?_ o82
 refine Kt Ad (m:=1) (cs:=[dI (-1)]) (e:=3) (i:=i) (off:=0) (len:=n) (cap:=n) (ds:=List.replicate n (dI 0)) (by decide) (by simp<;>rfl) (by simp) (by simp) (by with_unfolding_all rfl) (w7 ..) (by simp) (Qw (es:=[[dI (-1)]]) (by with_unfolding_all rfl) (by simp)) (by rfl) ?_
 have e1:(σ.set i (.cells (List.replicate n (dI 0)))).set i (.cells (List.take 0 (List.replicate n (dI 0))++(List.take (min 1 n) [dI (-1)]++List.drop (0+min 1 n) (List.replicate n (dI 0)))))=σ.set i (.cells (List.replicate 1 (dI (-1))++List.replicate (n-1) (dI 0))):=by
  rw [w9,show min 1 n=1 by omega];simp
 rw [e1,show ((min 1 n:Nat):Int)=1 by omega]
 refine gz ?_ o82
 refine Bh [4,7,47] (fun (b:Nat)=>1<=b/\b<=n) (fun b=>[(8,dI b)]) (fun b=>σ.set i (.cells (List.replicate b (dI (-1))++List.replicate (n-b) (dI 0)))) (fun b=>n-b) (1) (by omega) (fun b hI => ?_)
 obtain ⟨hb1,hbn⟩:=hI
 by_cases h:b < n
 ·refine gz ?_
  refine NE (id:=9) [0,1,2,3,4,5,6,7,8,9] [7] σ ((Sub.refl _).set hi) ?_
  refine gz ?_ o82
  refine mo_cutL Ad (i:=i) (off:=0) (len:=n) (cap:=n) (lo:=b) (e:=3) (k := .i64) ?_ (by decide) (by simp<;>rfl) (by simp) (by with_unfolding_all rfl) (by with_unfolding_all rfl) (by omega) (by omega)
  rw [show 0+b*(tab 3).size=b by simp]
  refine gz ?_ o82
  refine mo_cutH Ad (i:=i) (off:=0) (len:=n) (cap:=n) (hi:=b) (e:=3) (k := .i64) ?_ (by decide) (by simp<;>rfl) (by simp) (by with_unfolding_all rfl) (by with_unfolding_all rfl) (by omega)
  refine mo1 (fun γ2 hγ => ?_) rfl
  have v1:=hγ (.tmp 41) (by simp [Op.operands,Call.operands])
  have v2:=hγ (.tmp 44) (by simp [Op.operands,Call.operands])
  have hds:(List.replicate b (dI (-1))++List.replicate (n-b) (dI 0)).length=n:=by simp;omega
  refine Kt Ad (m:=b) (cs:=((List.replicate b (dI (-1))++List.replicate (n-b) (dI 0)).drop 0).take b) (e:=3) (i:=i) (off:=b) (len:=n-b) (cap:=n-b) (ds:=List.replicate b (dI (-1))++List.replicate (n-b) (dI 0)) (by decide) (by simp<;>rfl) (by simp) (by simp) (by rw [v1];with_unfolding_all rfl) (w7 ..) (by omega) (by rw [v2];exact Ti (off:=0) (w7 ..) (by omega)) (by simp [CB,D.flat]) ?_
  have e2:List.take b (List.replicate b (dI (-1))++List.replicate (n-b) (dI 0))++(List.take (min b (n-b)) (List.take b (List.drop 0 (List.replicate b (dI (-1))++List.replicate (n-b) (dI 0))))++List.drop (b+min b (n-b)) (List.replicate b (dI (-1))++List.replicate (n-b) (dI 0)))=List.replicate (b+min b (n-b)) (dI (-1))++List.replicate (n-(b+min b (n-b))) (dI 0):=by
   have t1:List.take b (List.replicate b (dI (-1))++List.replicate (n-b) (dI 0))=List.replicate b (dI (-1)):=by rw [List.take_append_of_le_length (by simp)];simp
   have t2:List.drop (b+min b (n-b)) (List.replicate b (dI (-1))++List.replicate (n-b) (dI 0))=List.replicate (n-(b+min b (n-b))) (dI 0):=by
    rw [List.drop_append,List.drop_of_length_le (by simp),List.nil_append,List.drop_replicate];congr 1;simp;omega
   rw [List.drop_zero,t1,t2, <- List.append_assoc]
   congr 1
   rw [List.take_replicate,List.replicate_append_replicate];congr 1;omega
  rw [w9,e2]
  refine Be ⟨rfl, ?_⟩
  refine ⟨(Sub.refl _).set hi, ?_⟩
  refine gz ?_ o82
  exact ⟨b+min b (n-b),by omega,td1,wkR⟩
 ·have hb:b=n:=by omega
  subst hb
  refine gz ?_ o82
  refine fin1 (σ':=σ.set i (.cells ((List.replicate b (-1)).map dI))) ?_ (hσ:=by simp;exact Sub.refl _)
  exact ⟨i,hi,rfl,rfl⟩
def OutO {S:Type} (u r:D) (Good:Sig->S->Prop) (Bad:Sig->Prop) (touch:Nat->Prop) (σ:Sig):Option S->DE->Sig->Prop
 | none,x,σ'=>x = .panic u/\Bad σ'
 | some s,x,σ'=>x = .ret r/\Good σ' s /\ ∀ j o,σ j=some o -> ¬ touch j->σ' j=some o
theorem OutO.ret {S:Type} {u r d:D} {Good:Sig->S->Prop} {Bad:Sig->Prop} {touch:Nat->Prop} {σ σ':Sig} {o:Option S} (h:OutO u r Good Bad touch σ o (.ret d) σ') : ∃ s,o=some s/\d=r/\Good σ' s /\ ∀ j o,σ j=some o -> ¬ touch j->σ' j=some o:=by
 cases o with
 | none=>exact absurd h.1 (by simp)
 | some s=>exact ⟨s,rfl,by simpa using h.1,h.2⟩
theorem OutO.pan {S:Type} {u r d:D} {Good:Sig->S->Prop} {Bad:Sig->Prop} {touch:Nat->Prop} {σ σ':Sig} {o:Option S} (h:OutO u r Good Bad touch σ o (.panic d) σ'):o=none/\d=u/\Bad σ':=by
 cases o with
 | none=>exact ⟨rfl,by simpa using h.1,h.2⟩
 | some s=>exact absurd h.1 (by simp)
section
variable {S:Type}
def L3 (f:Int->Int->S->Option S) (x:BNode) (size:Int):Nat->List Int->S->Option S
 | _,[],s=>some s
 | j,c::r,s=>match f c (if x.op=9/\j=1 then size+1 else size) s with
  | none=>none
  | some s'=>L3 f x size (j+1) r s'
def Gi (p:BProg) (step:Nat->Int->Int->S->Option S):Nat->Int->Int->S->Option S
 | 0,_,_,_=>none
 | k+1,node,size,s=>match step (k+1) node size s with
  | none=>none
  | some s'=>L3 (Gi p step k) (Ap p node) size 0 (Ap p node).kids s'
end
theorem Sg {S:Type} (p:BProg) (l i:Nat) (Good:Sig->S->Prop) (Bad:Sig->Prop) (touch:Nat->Prop) (step:Nat->Int->Int->S->Option S) (hp:p.wt<=1073741824) (hti : ¬ touch i)
  (hs0 : ∀ node size s,step 0 node size s=none) (hsn : ∀ k node size s s',step k node size s=some s'->0<=node/\node < p.nodes.length)
  (hy : ∀ (k:Nat) (d node size:Int) σ s,d=13-(k:Int)->0<=size->size+k<=1000->Good σ s->DYield prog l [dI node, .agg [dI size,dI d]] σ (OutO unf (.bool true) Good Bad touch σ (step k node size s))) :
  ∀ (k:Nat) (d node size:Int) σ s,d=13-(k:Int)->0<=size->size+k<=1000->k<=13->Good σ s->σ i=some (.cells [.func (.func 171) [] [.cptr [.yld l] 0, .cptr (Af p) 0, .ptr i 0]]) ->
   DCall prog 171 [dI node, .agg [dI size,dI d], .cptr [.yld l] 0, .cptr (Af p) 0, .ptr i 0] σ (OutO unf (.bool true) Good Bad touch σ (Gi p step k node size s)):=by
 obtain ⟨p1,p2,p3,p4,p5,p6,p7⟩:=p.wt_le
 intro k
 induction k with
 | zero =>
  intro d node size σ s hd h0 hsz hk hG hi
  refine en func171 ntmps171 ?_
  refine gz ?_
  refine yldW (hy 0 d node size σ s hd h0 hsz hG) (fun e σ' hr => ?_) (fun e σ' hr => ?_)
  ·rw [hs0] at hr;obtain ⟨_,h,_⟩:=hr.ret;cases h
  ·obtain ⟨_,rfl,hb⟩:=hr.pan
   exact finP (σ':=σ') ⟨rfl,hb⟩
 | succ k ih =>
  intro d node size σ s hd h0 hsz hk hG hi
  refine en func171 ntmps171 ?_
  refine gz ?_ [] [10]
  refine yldW (hy (k+1) d node size σ s hd h0 hsz hG) (fun e σ' hr => ?_) (fun e σ' hr => ?_)
  ·obtain ⟨s',hst,rfl,hG',hK⟩:=hr.ret
   obtain ⟨hn0,hn1⟩:=hsn _ _ _ _ _ hst
   obtain ⟨q,rfl⟩ : ∃ q:Nat,node=(q:Int):=⟨node.toNat,by omega⟩
   have hq:q < p.nodes.length:=by omega
   have hi':=hK i _ hi hti
   have hna:Ap p q=p.nodes[q]:=by unfold Ap;simp [List.getElem?_eq_getElem hq]
   have hW:Gi p step (k+1) q size s=L3 (Gi p step k) p.nodes[q] size 0 (p.nodes[q]).kids s':=by rw [Gi,hst];simp only;rw [hna]
   rw [hW]
   have hkl:(p.nodes[q]).kids.length<=1073741824:=by have:=p7 q hq;unfold BNode.wt at this;omega
   generalize hx:p.nodes[q]=x at *
   refine gf hx ?_ [] [10]
   refine EV [0,3,4,6,21,22] (fun (j:Nat) (s1:S) (σ1:Sig)=>j<=x.kids.length/\Good σ1 s1/\L3 (Gi p step k) x size 0 x.kids s'=L3 (Gi p step k) x size j (x.kids.drop j) s1/\(∀ j o,σ j=some o -> ¬ touch j->σ1 j=some o)) (fun j _ _=>[(23,dI j)]) (fun _ _ σ1=>σ1) (fun j _ _=>x.kids.length-j) (0) (s') (σ') (by exact ⟨by omega,hG',by simp,hK⟩) (fun j s1 σ1 hI => ?_)
   obtain ⟨hj,hG1,hR,hK1⟩:=hI
   have hi1:=hK1 i _ hi hti
   by_cases hj':j < x.kids.length
   ·rw [A2 hj',L3] at hR
    have hkb:(k:Int)<=12:=by omega
    refine gf (gi hx hi1) ?_ [] [10]
    refine newV (fun a ha => ?_)
    have hia:i ≠ a:=fun e=>by rw [e,ha] at hi1;cases hi1
    have hz:0<=(if x.op=9/\j=1 then size+1 else size)/\(if x.op=9/\j=1 then size+1 else size)+(k:Int)<=1000:=by split<;>omega
    have hc:=ih (d+1) x.kids[j] (if x.op=9/\j=1 then size+1 else size) σ1 s1 (by omega) hz.1 hz.2 (by omega) hG1 hi1
    by_cases hl:x.op=9/\j=1
    ·rw [if_pos hl] at hR hc
     obtain ⟨hl1,rfl⟩:=hl
     refine gf (gi hx (gi hi1 (gi hl1 hia))) ?_ [] [10]
     refine drp σ1 ?_
     refine Ab hc (fun e σ2 hr => ?_) (fun e σ2 hr => ?_)
     ·obtain ⟨s2,hs2,rfl,hG2,hK2⟩:=hr.ret
      rw [hs2] at hR
      refine gz ?_ [] [10]
      exact ⟨1+1,s2,σ2,⟨by omega,hG2,hR,fun j o h1 h2=>hK2 _ _ (hK1 _ _ h1 h2) h2⟩,td1,wkR⟩
     ·obtain ⟨hn,rfl,hb⟩:=hr.pan
      rw [hn] at hR;rw [hR]
      exact finP (σ':=σ2) ⟨rfl,hb⟩
    ·rw [if_neg hl] at hR hc
     have hl2 : ¬ (x.op=9/\(j:Int)=1):=by omega
     repeat' first | refine gf (gi hx (gi hi1 hia)) ?_ [] [10] | apply gy<;>intro hh
     all_goals
      refine drp σ1 ?_
      refine Ab hc (fun e σ2 hr => ?_) (fun e σ2 hr => ?_)
      ·obtain ⟨s2,hs2,rfl,hG2,hK2⟩:=hr.ret
       rw [hs2] at hR
       refine gz ?_ [] [10]
       exact ⟨j+1,s2,σ2,⟨by omega,hG2,hR,fun j o h1 h2=>hK2 _ _ (hK1 _ _ h1 h2) h2⟩,td1,wkR⟩
      ·obtain ⟨hn,rfl,hb⟩:=hr.pan
       rw [hn] at hR;rw [hR]
       exact finP (σ':=σ2) ⟨rfl,hb⟩
   ·rw [A1 hj',L3] at hR
    rw [hR]
    refine gf hx ?_ [] [10]
    refine fin1 (σ':=σ1) ?_
    exact ⟨rfl,hG1,hK1⟩
  ·obtain ⟨hst,rfl,hb⟩:=hr.pan
   have hW:Gi p step (k+1) node size s=none:=by rw [Gi,hst]
   rw [hW]
   exact finP (σ':=σ') ⟨rfl,hb⟩
def Keep (touch:Nat->Prop) (σ σ':Sig):Prop := ∀ j o,σ j=some o -> ¬ touch j->σ' j=some o
theorem Keep.refl (touch:Nat->Prop) (σ:Sig):Keep touch σ σ:=fun _ _ h _=>h
theorem Keep.trans {touch:Nat->Prop} {a b c:Sig} (h:Keep touch a b) (k:Keep touch b c):Keep touch a c:=fun j o h1 h2=>k _ _ (h _ _ h1 h2) h2
theorem Keep.fresh {touch:Nat->Prop} {a b:Sig} (h:Keep touch a b) {i:Nat} {o:DObj} (hi:a i=none):Keep touch a (b.set i o):=fun j x h1 h2=>by
 rw [w8 _ _ fun e=>by rw [e,hi] at h1;cases h1];exact h _ _ h1 h2
theorem Si {S:Type} (p:BProg) (l:Nat) (Good:Sig->S->Prop) (Bad:Sig->Prop) (touch:Nat->Prop) (step:Nat->Int->Int->S->Option S) (hp:p.wt<=1073741824)
  (hs0 : ∀ node size s,step 0 node size s=none) (hsn : ∀ k node size s s',step k node size s=some s'->0<=node/\node < p.nodes.length)
  (hy : ∀ (k:Nat) (d node size:Int) σ s,d=13-(k:Int)->0<=size->size+k<=1000->Good σ s->DYield prog l [dI node, .agg [dI size,dI d]] σ (OutO unf (.bool true) Good Bad touch σ (step k node size s)))
  (hm : ∀ σ s a o,Good σ s->σ a=none->Good (σ.set a o) s) (k:Nat) (d node size:Int) (σ:Sig) (s:S) (ht : ∀ a,σ a=none -> ¬ touch a) (hd:d=13-(k:Int)) (h0:0<=size) (hsz:size+k<=1000) (hk:k<=13) (hG:Good σ s) :
   DCall prog 170 [.yld l, .cptr (Af p) 0, .cptr [dI node] 0, .cptr [dI size,dI d] 0] σ (OutO unf (.tup []) Good Bad touch σ (Gi p step k node size s)):=by
 refine en func170 ntmps170 ?_
 refine gz ?_ [] [5]
 refine newV (fun a ha => ?_)
 refine gz ?_ [] [5]
 refine Ab (Sg p l a Good Bad touch step hp (ht a ha) hs0 hsn hy k d node size (σ.set a _) s hd h0 hsz hk (hm _ _ _ _ hG ha) (w7 ..)) (fun e σ' hr => ?_) (fun e σ' hr => ?_)
 ·obtain ⟨s',hs',rfl,hG',hK⟩:=hr.ret
  rw [hs']
  refine gz ?_ [] [5]
  refine DM (σ':=σ') ?_
  exact ⟨rfl,hG',fun j o h1 h2=>hK j o (by rw [w8 _ _ fun e=>by rw [e,ha] at h1;cases h1];exact h1) h2⟩
 ·obtain ⟨hn,rfl,hb⟩:=hr.pan
  rw [hn]
  exact finP (σ':=σ') ⟨rfl,hb⟩
theorem TR (p:BProg) (node size d:Int) (σ:Sig):DCall prog 84 [.agg (Af p),dI node, .agg [dI size,dI d]] σ fun x σ'=>x = .ret (.func (.func 170) [] [.cptr (Af p) 0, .cptr [dI node] 0, .cptr [dI size,dI d] 0])/\σ'=σ:=by
 refine en func84 ntmps84 ?_
 refine gz ?_
 exact fe1 trivial
@[reducible,instance] def a84:=fun p node size d σ=>ah0 (@TR p node size d σ)
theorem Rx (p:BProg) (x:BNode) (k:Int) (σ:Sig):DCall prog 327 [dI k, .agg (Af p), .agg (Ai x)] σ fun r σ'=>r = .ret (dI k)/\σ'=σ:=by
 refine en func327 ntmps327 ?_
 refine gz ?_
 exact fe1 trivial
theorem Rw (p:BProg) (x:BNode) (σ:Sig) (h0:0<=x.n:=by exact sd) (h1:x.n < p.gens.length:=by exact sd) (hl:p.gens.length<=1073741824:=by exact sd):DCall prog 328 [.agg [], .agg (Af p), .agg (Ai x)] σ fun r σ'=>r = .ret (dI (p.gens.getD x.n.toNat 0))/\σ'=σ:=by
 refine en func328 ntmps328 ?_
 obtain ⟨q,hq⟩ : ∃ q:Nat,x.n=(q:Int):=⟨x.n.toNat,by omega⟩
 have hq1:q < p.gens.length:=by omega
 have hg:p.gens.getD x.n.toNat 0=p.gens[q]:=by rw [hq,List.getD_eq_getElem?_getD];simp [hq1]
 rw [hg]
 refine gf hq ?_
 exact fe1 trivial
theorem meth327 : Jk prog 140 "consort/bind.many" 327 := by
 intro v w;kernel_rfl
theorem meth328 : Jk prog 142 "consort/bind.many" 328 := by
 intro v w;kernel_rfl
theorem UE {ro:Option Nat} {n:Nat} {ops:Array Oper} {N:Nat} {σ0 σ:Sig} {Q:DX->St->Prop} {df:List DDf} {γ γr:List (Nat × D)} {t:Nat} {ty:TypeId} {pos:String} {after:Array Edge} {l:List (Bool × Oper)} {d e:D} {rv:Operand} {name:String} {args:Array Operand} {ats:Array TypeId} {f T:Nat} {us:List D} (hM:Jk prog T name f) (h:DCall prog f (d::us) σ fun x σ'=>x = .ret e/\σ'=σ) (k:MO prog ro n ops N σ0 Q df l ((t,e)::γ) σ)
  (hl:A4 γ (A6 (rv::args.toList))=some γr:=by with_unfolding_all rfl) (hx:ev γr rv = .iface T d:=by with_unfolding_all rfl) (ha:args.toList.map (ev γr)=us:=by with_unfolding_all rfl) (htn:decide (t < n)=true:=by with_unfolding_all rfl) (hC:Sub σ0 σ:=by first | exact Sub.refl _ | assumption) :
  MO prog ro n ops N σ0 Q df ((true,⟨some t, .call { callee := .invoke rv name,args,argTypes:=ats },ty,pos,after,none⟩)::l) γ σ:=by
 refine mo1 (fun γ2 hγ => ?_) htn
 have he : ∀ x ∈ rv::args.toList,ev γ2 x=ev γr x:=fun x hx=>by
  rw [hγ x (by simpa [Op.operands,Call.operands] using hx)]
  exact (BL fun t ht=>AI hl t (AY (by rw [<- ht];exact hx))).symm
 refine Jb rfl (by rw [he rv (by simp)];exact hx) hM h ?_ (by simpa [Av] using htn) (fun d' σ' ⟨e1,e2⟩ => ?_) (fun d' σ' ⟨e1,e2⟩=>by cases e1)
 ·rw [show args.toList.map (ev γ2)=args.toList.map (ev γr) from List.map_congr_left fun x h=>he x (by simp [h]),ha]
  exact DO _
 ·cases e1;subst e2
  exact Be ⟨rfl,by simp only [putD,A7,if_true];exact ⟨hC,k⟩⟩
def HL (p:BProg) (inM:Bool):Nat->Int->Int->List Int->Option (List Int)
 | 0,_,_,_=>none
 | _+1,node,size,s =>
  if node < 0\/(p.nodes.length:Int)<=node\/0<=s.getD node.toNat 0 then none else
  if ((Ap p node).kids.length:Int) ≠ Ca p (Ap p node)\/Bn p (Ap p node) size=false\/((Ap p node).op=18/\inM=false) then none else some (s.set node.toNat size)
def optW:Bool × List Int->Option (List Int)
 | (true,s)=>some s
 | (false,_)=>none
theorem JV (f:Int->Int->List Int->Bool × List Int) (x:BNode) (size:Int) : ∀ (j:Nat) (l s:List Int),L3 (fun a b c=>optW (f a b c)) x size j l s=optW (Bg f x size j l s)
 | _,[],s=>rfl
 | j,c::r,s=>by
  rw [L3,Bg]
  cases h:f c (if x.op=9/\j=1 then size+1 else size) s with
  | mk b s'=>cases b with
   | false=>rfl
   | true=>simp only [optW];exact JV f x size (j+1) r s'
theorem JA (p:BProg) (inM:Bool) : ∀ (k:Nat) (node size:Int) (s:List Int),Gi p (HL p inM) k node size s=optW (Bt p inM k node size s)
 | 0,_,_,_=>rfl
 | k+1,node,size,s=>by
  rw [Gi,Bt,HL]
  by_cases h1:node < 0\/(p.nodes.length:Int)<=node\/0<=s.getD node.toNat 0
  ·rw [if_pos h1,if_pos h1];rfl
  ·rw [if_neg h1,if_neg h1]
   by_cases h2:((Ap p node).kids.length:Int) ≠ Ca p (Ap p node)\/Bn p (Ap p node) size=false\/((Ap p node).op=18/\inM=false)
   ·rw [if_pos h2,if_pos h2];rfl
   ·rw [if_neg h2,if_neg h2]
    have e:Gi p (HL p inM) k=fun a b c=>optW (Bt p inM k a b c):=by funext a b c;exact JA p inM k a b c
    simp only [e]
    exact JV _ _ _ _ _ _
theorem Kp {P:Program} {n:Nat} {Q:DX->St->Prop} {γ:List (Nat × D)} {σ:Sig} {df:List DDf} {gop:Operand} {ps:Array Tmp} {asg body:Code} {f:Nat} {first cap:List D} {S:Type} {u:D} (G:Nat->Sig->S->Prop) (Bad:Nat->Sig->Prop) (touch:Nat->Prop) (o:Option S)
  (hf:ev γ gop = .func (.func f) first cap)
  (hcall : ∀ l did,σ did=none->σ l=none->l ≠ did -> ∀ LO,LO=DObj.loop .ready none ps asg body n γ did->DCall P f (first++[.yld l]++cap) ((σ.set did .defs).set l LO) (OutO u (.tup []) (fun σ' s=>σ' l=some LO/\G did σ' s) (Bad did) touch ((σ.set did .defs).set l LO) o))
  (hret : ∀ l did s σ',o=some s->σ did=none->σ l=none->l ≠ did->G did σ' s->Q .normal ⟨γ,σ'.del l, .coll did::df⟩)
  (hpan : ∀ did σ',o=none->σ did=none->Bad did σ'->Q (.panic u) ⟨γ,σ', .coll did::df⟩) :
  DWp P none n (.rangeFunc gop ps asg body) Q ⟨γ,σ,df⟩:=by
 refine EH (R:=fun l did=>OutO u (.tup []) (fun σ' s=>σ' l=some (DObj.loop .ready none ps asg body n γ did)/\G did σ' s) (Bad did) touch ((σ.set did .defs).set l (DObj.loop .ready none ps asg body n γ did)) o) hf (fun l did h1 h2 h3=>hcall l did h1 h2 h3 _ rfl) (fun l did d σ' h1 h2 h3 hr => ?_) (fun l did d σ' h1 h2 h3 hr => ?_)
 ·obtain ⟨s,hs,rfl,⟨hl,hG⟩,hK⟩:=hr.ret
  exact ⟨_,_,hl,by simp,hret l did s σ' hs h1 h2 h3 hG⟩
 ·obtain ⟨hn,rfl,hb⟩:=hr.pan
  exact hpan did σ' hn h1 hb
theorem endM {P:Program} {n:Nat} {fn:Func} {R:DE->Sig->Prop} {γ:List (Nat × D)} {σ:Sig} {did:Nat} (h:R (.ret (.tup [])) (σ.del did)) (hd:σ did=some .defs) (hr:fn.results = #[]:=by rfl) : ∃ s',Wk P n ⟨γ,σ,[.coll did]⟩ s'/\Ql P n fn (Weak R) .normal s' :=
 ⟨_,Wk.refl _ _ _,[did],rfl,by simp,by simp [hd], .tup [],Ex (by simp [resD,hr]),F2 h⟩
theorem endMP {P:Program} {n:Nat} {fn:Func} {R:DE->Sig->Prop} {γ:List (Nat × D)} {σ:Sig} {did:Nat} {d:D} (h:R (.panic d) (σ.del did)) (hd:σ did=some .defs) : ∃ s',Wk P n ⟨γ,σ,[.coll did]⟩ s'/\Ql P n fn (Weak R) (.panic d) s' :=
 ⟨_,Wk.refl _ _ _,[did],rfl,by simp,by simp [hd],F2 h⟩
theorem Keep.del {touch:Nat->Prop} {a b:Sig} (h:Keep touch a b) {i:Nat} (hi:a i=none):Keep touch a (b.del i):=fun j x h1 h2=>by
 have e:j ≠ i:=fun e=>by rw [e,hi] at h1;cases h1
 simp only [Sig.del,e,if_false];exact h _ _ h1 h2
theorem Keep.base {touch:Nat->Prop} {a b:Sig} {i:Nat} {o:DObj} (h:Keep touch (a.set i o) b) (hi:a i=none):Keep touch a b:=fun j x h1 h2 =>
 h _ _ (by rw [w8 _ _ fun e=>by rw [e,hi] at h1;cases h1];exact h1) h2
def BY:DObj->DObj
 | .loop _ _ ps a b n γ d => .loop .busy none ps a b n γ d
 | o=>o
def Um (c:Code):DObj->DObj
 | .loop _ _ ps a b n γ d => .loop .done (some c) ps a b n γ d
 | o=>o
def Pd (l:Nat) (LO:DObj) (R:DE->Sig->Prop):DX->St->Prop
 | .normal,s=>s.σ l=some (BY LO)/\R (.ret (.bool true)) (s.σ.set l LO)
 | .ret,s=>s.σ l=some (BY LO)/\R (.ret (.bool false)) (s.σ.set l (Um .ret LO))
 | .panic d,s=>s.df=[]/\R (.panic d) s.σ
 | .exit id,s=>s.σ l=some (BY LO)/\R (.ret (.bool false)) (s.σ.set l (Um (.exit id) LO))
theorem E4 {P:Program} {l:Nat} {args:List D} {σ:Sig} {R:DE->Sig->Prop} {ps:Array Tmp} {asg body:Code} {n:Nat} {γl:List (Nat × D)} {did:Nat} {LO:DObj} (hLO:LO = .loop .ready none ps asg body n γl did) (hσ:σ l=some LO)
  (h:DWp P (some l) n asg (Then (fun s=>s.σ l=some LO/\DWp P (some l) n body (Pd l LO R) { s with σ:=s.σ.set l (BY LO) }) (fun _ _=>False)) ⟨P7 ps.toList args γl,σ,[]⟩) (hl:ps.toList.length=args.length:=by rfl) (hp : ∀ p ∈ ps.toList,p < n:=by decide):DYield P l args σ R:=by
 subst hLO
 refine Lm hσ hl hp ?_
 have e:Pd l (.loop .ready none ps asg body n γl did) R=UR l ps asg body n γl did R:=by funext x s;cases x<;>rfl
 rw [<- e]
 exact h
theorem Ld (p:BProg) (io r:Nat) (inM:Bool) (node size:Int) (s:List Int) (σ:Sig) (hp:p.wt<=1073741824) (hio:σ io=some (.cells [.sref r 0 p.nodes.length p.nodes.length])) (hr:σ r=some (.cells (s.map dI))) (hs:s.length=p.nodes.length) (hne:io ≠ r) (hz:0<=size) (hz2:size<=900) :
  DCall prog 83 [dI node,dI size, .bool inM, .cptr (Af p) 0, .ptr io 0] σ (OutO unf (.tup []) (fun σ' s'=>σ' r=some (.cells (s'.map dI))/\s'.length=p.nodes.length/\Keep (· = r) σ σ') (fun σ'=>Keep (· = r) σ σ') (· = r) σ (optW (Bt p inM 12 node size s))):=by
 obtain ⟨p1,p2,p3,p4,p5,p6,p7⟩:=p.wt_le
 rw [<- JA]
 refine B3 func83 rfl (by decide) ntmps83 (by simp) ?_
 refine gz ?_ o83
 refine Kp (u:=unf) (fun did σ' s'=>σ' r=some (.cells (s'.map dI))/\s'.length=p.nodes.length/\Keep (· = r) (σ.set did .defs) σ') (fun did σ'=>Keep (· = r) (σ.set did .defs) σ') (· = r) (Gi p (HL p inM) 12 node size s) rfl (fun l did hd hl hld LO hLO => ?_) (fun l did s' σ' ho hd hl hld hG => ?_) (fun did σ' ho hd hb => ?_)
 ·have hrd:r ≠ did:=fun e=>by rw [e,hd] at hr;cases hr
  have hod:io ≠ did:=fun e=>by rw [e,hd] at hio;cases hio
  rw [<- w8 σ DObj.defs hod] at hio
  rw [<- w8 σ DObj.defs hrd] at hr
  rw [<- w8 σ DObj.defs hld] at hl
  clear hd hrd hod
  generalize σ.set did .defs=σd at *
  refine Si p l _ _ _ (HL p inM) hp (fun _ _ _=>rfl) (fun k node size s s' h=>by
   cases k with
   | zero=>cases h
   | succ k =>
    rw [HL] at h
    split at h
    ·cases h
    ·omega) (fun k d node size σ1 s1 hd hz1 hz2 hG => ?_) (fun σ1 s1 a o hG ha => ?_) 12 1 node size _ s (fun a ha e => ?_) (by omega) hz (by omega) (by omega) ?_
  ·obtain ⟨hl1,hr1,hs1,hK1⟩:=hG
   refine E4 hLO hl1 ?_
   clear hLO
   refine gz ?_ o83
   refine ⟨hl1, ?_⟩
   have hio1:=hK1 io _ hio hne
   have hlio:l ≠ io:=fun e=>by rw [e,hio] at hl;cases hl
   have hlr:l ≠ r:=fun e=>by rw [e,hr] at hl;cases hl
   have hKb:=hK1.fresh (o:=BY LO) hl
   cases k with
   | zero =>
    repeat' first | (exact ⟨rfl,rfl,hKb⟩) | refine gf (gi hio1 (gi hr1 (gi hlio (gi hlr hne)))) ?_ o83 | apply gy<;>intro hh
   | succ k =>
    by_cases hn:node < 0\/(p.nodes.length:Int)<=node
    ·have hS:HL p inM (k+1) node size s1=none:=by rw [HL,if_pos (by omega)]
     rw [hS]
     repeat' first | (exact ⟨rfl,rfl,hKb⟩) | refine gf (gi hio1 (gi hr1 (gi hlio (gi hlr hne)))) ?_ o83 | apply gy<;>intro hh
    ·obtain ⟨q,rfl⟩ : ∃ q:Nat,node=(q:Int):=⟨node.toNat,by omega⟩
     have hq:q < p.nodes.length:=by omega
     have hqs:q < s1.length:=by omega
     have hget:s1.getD ((q:Int)).toNat 0=s1[q]:=by simp [List.getD_eq_getElem?_getD,hqs]
     by_cases h2:0<=s1[q]
     ·have hS:HL p inM (k+1) q size s1=none:=by rw [HL,if_pos (by rw [hget];omega)]
      rw [hS]
      repeat' first | (exact ⟨rfl,rfl,hKb⟩) | refine gf (gi hio1 (gi hr1 (gi hlio (gi hlr hne)))) ?_ o83 | apply gy<;>intro hh
     ·have hna:Ap p q=p.nodes[q]:=by unfold Ap;simp [hq]
      have hS:HL p inM (k+1) q size s1=if ((p.nodes[q]).kids.length:Int) ≠ Ca p p.nodes[q]\/Bn p p.nodes[q] size=false\/((p.nodes[q]).op=18/\inM=false) then none else some (s1.set q size):=by
       rw [HL,if_neg (by rw [hget];omega),hna];simp
      have hkl:(p.nodes[q]).kids.length<=1073741824:=by have:=p7 q hq;unfold BNode.wt at this;omega
      generalize hx:p.nodes[q]=x at *
      have hKd : ∀ o,Keep (· = r) σd ((σ1.set l (BY LO)).set r o):=fun o j x h1 h2=>by rw [w8 _ _ h2];exact hKb j x h1 h2
      cases hnb:Bn p x size with
      | false =>
       rw [if_pos (.inr (.inl hnb))] at hS
       rw [hS]
       repeat' first | (exact ⟨rfl,rfl,hKd _⟩) | refine gf (gi hio1 (gi hr1 (gi hlio (gi hlr (gi hne (gi hx hnb)))))) ?_ o83 | apply gy<;>intro hh
      | true =>
       by_cases h18:x.op=18/\inM=false
       ·rw [if_pos (.inr (.inr h18))] at hS
        rw [hS]
        repeat' first | (exact ⟨rfl,rfl,hKd _⟩) | refine gf (gi hio1 (gi hr1 (gi hlio (gi hlr (gi hne (gi hx (gi hnb h18.2))))))) ?_ o83 | apply gy<;>intro hh
        all_goals exact absurd h18.1 (by assumption)
       ·
        repeat' first | refine gf (gi hio1 (gi hr1 (gi hlio (gi hlr (gi hne (gi hx hnb)))))) ?_ o83 | apply gy<;>intro hh
        all_goals try (exfalso;grind)
        all_goals
         have h18':Bn p x size=false\/(x.op=18/\inM=false)->False:=fun h=>h.elim (by rw [hnb];simp) h18
         have hfin:(((σ1.set l (BY LO)).set r (.cells (List.take q (List.map dI s1)++dI size::List.drop (q+1) (List.map dI s1)))) l=some (BY LO)) /\
           (fun σ'=>(σ' l=some LO/\σ' r=some (.cells ((s1.set q size).map dI))/\(s1.set q size).length=p.nodes.length/\Keep (· = r) σd σ')/\Keep (· = r) σ1 σ') (((σ1.set l (BY LO)).set r (.cells (List.take q (List.map dI s1)++dI size::List.drop (q+1) (List.map dI s1)))).set l LO):=by
          refine ⟨by rw [w8 _ _ hlr,w7],⟨w7 .., ?_,by simpa using hs1,fun j o h1 h2 => ?_⟩,fun j o h1 h2 => ?_⟩
          ·rw [w8 _ _ (Ne.symm hlr),w7,List.map_set,List.set_eq_take_append_cons_drop,if_pos (by simpa using hqs)]
          ·rw [w8 _ _ fun e=>by rw [e,hl] at h1;cases h1];exact hKd _ j o h1 h2
          ·by_cases hj:j=l
           ·rw [hj] at h1 ⊢; rw [w7, <- h1,hl1]
           ·rw [w8 _ _ hj,w8 _ _ h2,w8 _ _ hj];exact h1
         cases hk:Jr x.op with
         | some kk =>
          have hkd:E2 x.op = .iface 140 (dI kk):=by unfold E2;rw [hk]
          have hkr:Ca p x=kk:=by unfold Ca;rw [hk]
          rw [hkr] at hS
          refine gf (gi hkd (gi hio1 (gi hr1 (gi hlio (gi hlr (gi hne hx)))))) ?_ o83
          refine UE meth327 (Rx p x kk _) ?_
          repeat' first | refine gz ?_ o83 | apply gy<;>intro hh
          ·have h6:=hh
           rw [hS,if_neg (fun h=>h.elim (fun h=>h h6) h18')]
           exact ⟨hfin.1,rfl,hfin.2⟩
          ·have h6:=hh
           rw [hS,if_pos (.inl h6)]
           exact ⟨rfl,rfl,hKd _⟩
         | none =>
          by_cases h5:x.op=5
          ·have hkd:E2 x.op = .iface 142 (.agg []):=by unfold E2;rw [hk];simp [h5]
           have hnn:0<=x.n/\x.n < p.gens.length:=by simpa [Bn,h5] using hnb
           have hkr:Ca p x=p.gens[x.n.toNat]'(by omega):=by unfold Ca;rw [hk];simp [h5,hnn,List.getD_eq_getElem?_getD,show x.n.toNat < p.gens.length by omega]
           rw [hkr] at hS
           refine gf (gi hkd (gi hio1 (gi hr1 (gi hlio (gi hlr (gi hne hx)))))) ?_ o83
           refine UE meth328 (Rw p x _ hnn.1 hnn.2) ?_
           repeat' first | refine gz ?_ o83 | apply gy<;>intro hh
           ·have h6:=hh
            rw [hS,if_neg (fun h=>h.elim (fun h=>h h6) h18')]
            exact ⟨hfin.1,rfl,hfin.2⟩
           ·have h6:=hh
            rw [hS,if_pos (.inl h6)]
            exact ⟨rfl,rfl,hKd _⟩
          ·have hkd:E2 x.op = .niliface:=by unfold E2;rw [hk];simp [h5]
           have hkr:Ca p x = -1:=by unfold Ca;rw [hk];simp [h5]
           rw [hS,if_pos (.inl (by rw [hkr];omega))]
           repeat' first | (exact ⟨rfl,rfl,hKd _⟩) | refine gf (gi hkd (gi hio1 (gi hr1 (gi hlio (gi hlr (gi hne hx)))))) ?_ o83 | apply gy<;>intro hh
  ·obtain ⟨g1,g2,g3,g4⟩:=hG
   refine ⟨by rw [w8 _ _ fun e=>by rw [e,ha] at g1;cases g1];exact g1,by rw [w8 _ _ fun e=>by rw [e,ha] at g2;cases g2];exact g2,g3,fun j x h1 h2 => ?_⟩
   have:=g4 j x h1 h2
   rw [w8 _ _ fun e=>by rw [e,ha] at this;cases this];exact this
  ·have hrl:r ≠ l:=fun e=>by rw [e,hl] at hr;cases hr
   subst e
   rw [w8 _ _ hrl,hr] at ha;cases ha
  ·have hrl:r ≠ l:=fun e=>by rw [e,hl] at hr;cases hr
   exact ⟨w7 .., by rw [w8 _ _ hrl];exact hr,hs,(Keep.refl _ σd).fresh hl⟩
 ·rw [ho]
  have hrl:r ≠ l:=fun e=>by rw [e,hl] at hr;cases hr
  have hrd:r ≠ did:=fun e=>by rw [e,hd] at hr;cases hr
  have hdr : ¬ did=r:=Ne.symm hrd
  refine gz ?_ o83
  have hk:=((hG.2.2.base hd).del hl).del hd
  refine endM ⟨rfl,⟨by simp [Sig.del,hrd,hrl];exact hG.1,hG.2.1,hk⟩,hk⟩ ?_
  simp only [Sig.del,Ne.symm hld,if_false]
  exact hG.2.2 did _ (w7 ..) hdr
 ·rw [ho]
  have hdr : ¬ did=r:=fun e=>by rw [<- e,hd] at hr;cases hr
  exact endMP ⟨rfl,(hb.base hd).del hd⟩ (hb did _ (w7 ..) hdr)
def anyS {α S:Type} (f:α->S->Bool × S):List α->S->Bool × S
 | [],s=>(false,s)
 | x::r,s=>match f x s with
  | (true,s')=>(true,s')
  | (false,s')=>anyS f r s'
def allS {α S:Type} (f:α->S->Bool × S):List α->S->Bool × S
 | [],s=>(true,s)
 | x::r,s=>match f x s with
  | (false,s')=>(false,s')
  | (true,s')=>allS f r s'
theorem Lw {α S:Type} (f:α->S->Bool × S) : ∀ (l:List α) (s:S),allS f l s=(!(anyS (fun x s=>(!(f x s).1,(f x s).2)) l s).1,(anyS (fun x s=>(!(f x s).1,(f x s).2)) l s).2)
 | [],s=>rfl
 | x::r,s=>by
  rw [allS,anyS]
  rcases h:f x s with ⟨b,s'⟩
  cases b
  ·simp
  ·simp only [Bool.not_true];exact Lw f r s'
theorem K3 (l:List Int) (q:Int->Bool) (g:Nat) (first cap:List D) (o:Own) (σ:Sig) (hl:l.length<=1073741824)
  (hg : ∀ x ∈ l,DCall prog g (first++dI x::cap) σ fun r σ''=>r = .ret (.bool (q x))/\σ''=σ) :
  DCall prog 309 [.slice (cI l) o, .func (.func g) first cap] σ fun x σ'=>x = .ret (dI (idxF q l 0))/\σ'=σ:=by
 refine en func309 ntmps309 ?_
 refine gz ?_
 refine Bh [0,1,7] (fun (k:Nat)=>k<=l.length/\idxF q l 0=idxF q (l.drop k) k) (fun k=>[(8,dI k)]) (fun _=>σ) (fun k=>l.length-k) (0) td3 (fun k hI => ?_)
 obtain ⟨hk,hR⟩:=hI
 by_cases h:k < l.length
 ·rw [A2 h,idxF] at hR
  repeat' first | refine An (hg (l[k]) (List.getElem_mem h)) ?_ | refine callP (hg (l[k]) (List.getElem_mem h)) ?_ | refine gf h ?_ | apply gy<;>intro hh
  ·exact fe1 hR
  ·exact ⟨k+1,⟨by omega,by rw [hR,hh];rfl⟩,td1,wkR⟩
 ·refine gf h ?_
  (refine fin1 (σ':=σ) ?_;exact ⟨by first | rfl | (simp [hR,A1 h,idxF];done) | (simp_all [hR,A1 h,idxF];done) | (rw [Aa,Bool.eq_iff_iff];simp_all [hR,A1 h,idxF]<;>omega),rfl⟩)
theorem K7 (l:List Int) (q:Int->Bool) (g:Nat) (first cap:List D) (o:Own) (σ:Sig) (hl:l.length<=1073741824)
  (hg : ∀ x ∈ l,DCall prog g (first++dI x::cap) σ fun r σ''=>r = .ret (.bool (q x))/\σ''=σ) :
  DCall prog 293 [.slice (cI l) o, .func (.func g) first cap] σ fun x σ'=>x = .ret (.bool (l.any q))/\σ'=σ:=by
 refine en func293 ntmps293 ?_
 repeat' first | refine gz ?_ | refine An (K3 l q g first cap o σ hl hg) ?_ | refine callP (K3 l q g first cap o σ hl hg) ?_ | refine gz ?_ | apply gy<;>intro hh
 (refine fin1 (σ':=σ) ?_;exact ⟨by first | rfl | (simp [EA];done) | (simp_all [EA];done) | (rw [Aa,Bool.eq_iff_iff];simp_all [EA]<;>omega),rfl⟩)
theorem K6 (q:Int->Bool) (g:Nat) (first cap:List D) (x:Int) (σ:Sig)
  (hg:DCall prog g (first++dI x::cap) σ fun r σ''=>r = .ret (.bool (q x))/\σ''=σ) :
  DCall prog 294 [dI x, .cptr [.func (.func g) first cap] 0] σ fun r σ'=>r = .ret (.bool (!q x))/\σ'=σ:=by
 refine en func294 ntmps294 ?_
 repeat' first | refine An (hg) ?_ | refine callP (hg) ?_ | refine gz ?_ | apply gy<;>intro hh
 exact fe1 trivial
theorem FK (l:List Int) (q:Int->Bool) (g:Nat) (first cap:List D) (o:Own) (σ:Sig) (hl:l.length<=1073741824)
  (hg : ∀ x ∈ l,DCall prog g (first++dI x::cap) σ fun r σ''=>r = .ret (.bool (q x))/\σ''=σ) :
  DCall prog 268 [.slice (cI l) o, .func (.func g) first cap] σ fun x σ'=>x = .ret (.bool (l.all q))/\σ'=σ:=by
 refine en func268 ntmps268 ?_
 repeat' first | refine gz ?_ | refine An (K7 l (fun x => !q x) 294 [] [.cptr [.func (.func g) first cap] 0] o σ hl (fun x hx=>K6 q g first cap x σ (hg x hx))) ?_ | refine callP (K7 l (fun x => !q x) 294 [] [.cptr [.func (.func g) first cap] 0] o σ hl (fun x hx=>K6 q g first cap x σ (hg x hx))) ?_ | refine gz ?_ | apply gy<;>intro hh
 (refine fin1 (σ':=σ) ?_;exact ⟨by first | rfl | (simp [List.not_all_eq_any_not];done) | (simp_all [List.not_all_eq_any_not];done) | (rw [Aa,Bool.eq_iff_iff];simp_all [List.not_all_eq_any_not]<;>omega),rfl⟩)
theorem Ry {S:Type} (l:List Fact) (f:Fact->S->Bool × S) (g:Nat) (first cap:List D) (o:Own) (Good:Sig->S->Prop) (hl:l.length<=1073741824)
  (hg : ∀ x ∈ l, ∀ σ s,Good σ s->DCall prog g (first ++ .agg (Bk x)::cap) σ fun r σ'=>r = .ret (.bool (f x s).1)/\Good σ' (f x s).2) (σ:Sig) (s:S) (hG:Good σ s) :
  DCall prog 310 [.slice (l.map Bk) o, .func (.func g) first cap] σ fun x σ' => ∃ i:Int,x = .ret (dI i)/\decide (0<=i)=(anyS f l s).1/\Good σ' (anyS f l s).2:=by
 refine en func310 ntmps310 ?_
 refine gz ?_
 refine EV [0,1,7] (fun (k:Nat) (s1:S) (σ1:Sig)=>k<=l.length/\Good σ1 s1/\anyS f l s=anyS f (l.drop k) s1) (fun k _ _=>[(8,dI k)]) (fun _ _ σ1=>σ1) (fun k _ _=>l.length-k) (0) (s) (σ) (by exact ⟨by omega,hG,rfl⟩) (fun k s1 σ1 hI => ?_)
 obtain ⟨hk,hG1,hR⟩:=hI
 by_cases h:k < l.length
 ·rw [A2 h,anyS] at hR
  refine gf h ?_
  refine Ab (hg (l[k]) (List.getElem_mem h) σ1 s1 hG1) (fun e σ2 hr => ?_) (fun e σ2 hr => ?_)
  ·obtain ⟨h1,h2⟩:=hr
   simp only [DE.ret.injEq] at h1
   subst h1
   rcases hf:f l[k] s1 with ⟨b,s2⟩
   rw [hf] at hR h2
   cases b
   ·refine gz ?_
    exact ⟨k+1,s2,σ2,⟨by omega,h2,hR⟩,td1,wkR⟩
   ·refine gz ?_
    refine fin1 (σ':=σ2) ?_
    exact ⟨k,rfl,by rw [hR];simp,by rw [hR];exact h2⟩
  ·cases hr.1
 ·rw [A1 h,anyS] at hR
  refine gf h ?_
  refine fin1 (σ':=σ1) ?_
  exact ⟨-1,rfl,by rw [hR];rfl,by rw [hR];exact hG1⟩
theorem RG {S:Type} (l:List Fact) (f:Fact->S->Bool × S) (g:Nat) (first cap:List D) (o:Own) (Good:Sig->S->Prop) (hl:l.length<=1073741824)
  (hg : ∀ x ∈ l, ∀ σ s,Good σ s->DCall prog g (first ++ .agg (Bk x)::cap) σ fun r σ'=>r = .ret (.bool (f x s).1)/\Good σ' (f x s).2) (σ:Sig) (s:S) (hG:Good σ s) :
  DCall prog 295 [.slice (l.map Bk) o, .func (.func g) first cap] σ fun x σ'=>x = .ret (.bool (anyS f l s).1)/\Good σ' (anyS f l s).2:=by
 refine en func295 ntmps295 ?_
 refine gz ?_
 refine Ab (Ry l f g first cap o Good hl hg σ s hG) (fun e σ2 hr => ?_) (fun e σ2 hr => ?_)
 ·obtain ⟨i,h1,h2,h3⟩:=hr
  simp only [DE.ret.injEq] at h1
  subst h1
  refine gz ?_
  refine fin1 (σ':=σ2) ?_
  exact ⟨by rw [<- h2],h3⟩
 ·obtain ⟨i,h1,_⟩:=hr;cases h1
theorem RF {S:Type} (f:Fact->S->Bool × S) (g:Nat) (first cap:List D) (Good:Sig->S->Prop) (x:Fact) (σ:Sig) (s:S) (hg:DCall prog g (first ++ .agg (Bk x)::cap) σ fun r σ'=>r = .ret (.bool (f x s).1)/\Good σ' (f x s).2) :
  DCall prog 296 [.agg (Bk x), .cptr [.func (.func g) first cap] 0] σ fun r σ'=>r = .ret (.bool (!(f x s).1))/\Good σ' (f x s).2:=by
 refine en func296 ntmps296 ?_
 refine gz ?_
 refine Ab hg (fun e σ2 hr => ?_) (fun e σ2 hr => ?_)
 ·obtain ⟨h1,h2⟩:=hr
  simp only [DE.ret.injEq] at h1
  subst h1
  refine gz ?_
  refine fin1 (σ':=σ2) ?_
  exact ⟨rfl,h2⟩
 ·cases hr.1
theorem Mp {S:Type} (l:List Fact) (f:Fact->S->Bool × S) (g:Nat) (first cap:List D) (o:Own) (Good:Sig->S->Prop) (hl:l.length<=1073741824)
  (hg : ∀ x ∈ l, ∀ σ s,Good σ s->DCall prog g (first ++ .agg (Bk x)::cap) σ fun r σ'=>r = .ret (.bool (f x s).1)/\Good σ' (f x s).2) (σ:Sig) (s:S) (hG:Good σ s) :
  DCall prog 270 [.slice (l.map Bk) o, .func (.func g) first cap] σ fun x σ'=>x = .ret (.bool (allS f l s).1)/\Good σ' (allS f l s).2:=by
 refine en func270 ntmps270 ?_
 refine gz ?_
 refine Ab (RG l (fun x s=>(!(f x s).1,(f x s).2)) 296 [] [.cptr [.func (.func g) first cap] 0] o Good hl (fun x hx σ s hG=>RF f g first cap Good x σ s (hg x hx σ s hG)) σ s hG) (fun e σ2 hr => ?_) (fun e σ2 hr => ?_)
 ·obtain ⟨h1,h2⟩:=hr
  simp only [DE.ret.injEq] at h1
  subst h1
  refine gz ?_
  refine fin1 (σ':=σ2) ?_
  exact ⟨by rw [Lw],by rw [Lw];exact h2⟩
 ·cases hr.1
end Go.DL
