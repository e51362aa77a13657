/- Part of the proof that the last text ends. -/
import Derived.Test.YtlfimpogphmbdaaGreatM18
import Derived.Test.YtlfimpogphmbdaaGreatM20
import Derived.Test.YtlfimpogphmbdaaGreatM17
import Derived.Test.YtlfimpogphmbdaaGreatM11
set_option linter.all false
namespace Go.DL
open Go.Proofs.Tryz
open Go Go.Proofs
set_option maxHeartbeats 8000000
def kwds:List Str:=[[97,102,116,101,114],[97,110,100],[97,110,121],[97,114,111,117,110,100],[98,101,102,111,114,101],[99,108,97,115,115],[101,108,115,101],[105,102],[105,110],[105,110,116],[105,115],[108,101,116],[109,101,116,104,111,100],[110,101,119],[110,101,120,116],[110,111,110,101],[110,111,116],[111,114],[111,117,116],[115,101,116],[116,104,101,110],[116,114,117,101],[116,117,114,110],[119,104,101,114,101]]
theorem Tt(V:Sig):DCall prog 252 [] V (rS (.slice (cS kwds) .clip) V):=by
 refine en func252 ntmps252 ?_
 refine gz ?_
 (refine fin1 (S':=V) ?_;exact⟨by first|rfl|(simp[kwds,cS];done)|(simp_all [kwds,cS];done)|(rw[A7,Bool.eq_iff_iff];simp_all [kwds,cS]<;>omega),rfl⟩)
@[reducible,instance] def a252:=fun V=>ah0 (@Tt V)
def Dq(b:UInt8):Bool:=decide (97<=b.toNat/\b.toNat<=122)
def AP(s:Str):Bool:=s.all Dq&&(decide (1<=s.length/\s.length<=8)&&!decide (s∈kwds))
theorem TN(s:Str)(V:Sig)(hl:s.length<=1073741824:=by exact sd):DCall prog 210 [.str s] V (rS (.bool (AP s)) V):=by
 have hkw:kwds.length=24:=rfl
 refine en func210 ntmps210 ?_
 refine gz ?_
 refine B2 [0,20,21,22,23,24,25,26,27,28,29,30,31,32,33] (fun (k:Nat)=>k<=s.length/\s.all Dq=(s.drop k).all Dq) (fun k=>[(3,dI k)]) (fun _=>V) (fun k=>s.length-k) (0) (by simp) (fun k hI =>?_)
 obtain⟨hk,hR⟩:=hI
 by_cases h:k<s.length
 ·rw[A0 h,List.all_cons]at hR
  repeat' first|refine gz ?_|apply gy<;>intro hh
  ·have hn:Dq s[k]=false:=by unfold Dq;simp;omega
   rw[hn]at hR
   (refine fin1 (S':=V) ?_;exact⟨by first|rfl|(simp[AP,hR];done)|(simp_all [AP,hR];done)|(rw[A7,Bool.eq_iff_iff];simp_all [AP,hR]<;>omega),rfl⟩)
  ·have hn:Dq s[k]=false:=by unfold Dq;simp;omega
   rw[hn]at hR
   (refine fin1 (S':=V) ?_;exact⟨by first|rfl|(simp[AP,hR];done)|(simp_all [AP,hR];done)|(rw[A7,Bool.eq_iff_iff];simp_all [AP,hR]<;>omega),rfl⟩)
  ·have hn:Dq s[k]=true:=by unfold Dq;simp;omega
   exact⟨k+1,⟨by omega,by rw[hR,hn];rfl⟩,td1,wkR⟩
 ·rw[A1 h]at hR
  repeat' first|refine gz ?_|apply gy<;>intro hh
  any_goals (first|(refine fin1 (S':=V) ?_;exact⟨by first|rfl|(simp[AP,hR];done)|(simp_all [AP,hR];done)|(rw[A7,Bool.eq_iff_iff];simp_all [AP,hR]<;>omega),rfl⟩)|fail)
@[reducible,instance] def a210:=fun s V=>ah1 (@TN s V)
theorem Px{α β:Type}(f:α->List β)(w:α->Nat)(h:∀x,(f x).length<=w x): ∀l:List α,(l.flatMap f).length<=wtL w l
 |[]=>by simp[wtL]
 |x::l=>by
  have:=Px f w h l
  have:=h x
  simp only[List.flatMap_cons,List.length_append,wtL];omega
theorem Mx(p:FProg):(p.classes.flatMap (·.slots)).length<=p.wt:=by
 have:=Px (·.slots) FClass.wt (fun c=>by have:=Bu c.slots;unfold FClass.wt;omega) p.classes
 unfold FProg.wt;omega
theorem Uv(p:FProg)(V:Sig)(hp:p.wt<=1073741824:=by exact sd):DCall prog 123 [.agg (B7 p)] V (rS (sl (cS (p.classes.flatMap (·.slots)))) V):=by
 obtain⟨p1,p2,p3,p4,p5⟩:=p.wt_le
 have hsl:=Mx p
 refine en func123 ntmps123 ?_
 refine gz ?_
 refine Bz 3 1 (fun i hi =>?_)
 refine AA [1,2,20] (fun (k:Nat) (out:List Str)=>k<=p.classes.length/\out++(p.classes.drop k).flatMap (·.slots)=p.classes.flatMap (·.slots)) (fun k out=>[(4,dI k),(3,.slice (cS out) (.tag i))]) (fun _ out=>V.set i (.tail 1 out.length)) (fun k _=>p.classes.length-k) (0) ([]) (by simp) (fun k out hI =>?_)
 obtain⟨hk,hR⟩:=hI
 have hlen:=congrArg List.length hR
 by_cases h:k<p.classes.length
 ·rw[A0 h,List.flatMap_cons]at hR hlen
  simp only[List.length_append]at hlen
  have hx:=p5
  refine gz ?_
  exact⟨k+1,out++(p.classes[k]).slots,⟨by omega,by rw[List.append_assoc];exact hR⟩,td1,wkR⟩
 ·rw[A1 h]at hR
  simp at hR
  refine gz ?_
  exact finS (S':=V) (es:=cS out) ⟨by rw[hR],rfl⟩
@[reducible,instance] def a123:=fun p V=>ah1 (@Uv p V)
theorem Tw(p:FProg)(s:Str)(V:Sig)(hp:p.wt<=1073741824:=by exact sd):DCall prog 248 [.agg (B7 p),.str s] V (rS (dI (idxF (fun c:FClass=>decide (c.name=s)) p.classes 0)) V):=by
 obtain⟨p1,p2,p3,p4,p5⟩:=p.wt_le
 refine en func248 ntmps248 ?_
 refine gz ?_
 refine B2 [1,2] (fun (k:Nat)=>k<=p.classes.length/\idxF (fun c:FClass=>decide (c.name=s)) p.classes 0=idxF (fun c:FClass=>decide (c.name=s)) (p.classes.drop k) k) (fun k=>[(5,dI k)]) (fun _=>V) (fun k=>p.classes.length-k) (0) td3 (fun k hI =>?_)
 obtain⟨hk,hR⟩:=hI
 by_cases h:k<p.classes.length
 ·rw[A0 h,idxF]at hR
  repeat' first|refine gz ?_|apply gy<;>intro hh
  ·exact fe1 hR
  ·exact⟨k+1,⟨by omega,by rw[hR];simp_all⟩,td1,wkR⟩
 ·rw[A1 h,idxF]at hR
  refine gz ?_
  exact fe1 hR
@[reducible,instance] def a248:=fun p s V=>ah1 (@Tw p s V)
def difE:List Str->List Str->Bool
 |_,[]=>true
 |seen,x::r => !decide (x∈seen)&&difE (seen++[x]) r
theorem TS(l:List Str)(o:Own)(V:Sig)(hl:l.length<=1073741824:=by exact sd):DCall prog 203 [.slice (cS l) o] V (rS (.bool (difE [] l)) V):=by
 refine en func203 ntmps203 ?_
 refine gz ?_ o203
 refine B2 [0] (fun (k:Nat)=>k<=l.length/\difE [] l=difE (l.take k) (l.drop k)) (fun k=>[(3,dI k)]) (fun _=>V) (fun k=>l.length-k) (0) (by simp) (fun k hI =>?_)
 obtain⟨hk,hR⟩:=hI
 by_cases h:k<l.length
 ·rw[A0 h,difE, <-AH h]at hR
  repeat' first|refine gz ?_ o203|apply gy<;>intro hh
  ·exact fe1 hR
  ·exact⟨k+1,⟨by omega,by rw[hR];simp_all⟩,td1,wkR⟩
 ·rw[A1 h,difE]at hR
  refine gz ?_ o203
  exact fe1 hR
@[reducible,instance] def a203:=fun l o V=>ah1 (@TS l o V)
def Ef(l:List Str):Bool:=l.all AP&&difE [] l
theorem TQ(l:List Str)(o:Own)(V:Sig)(hl:l.length<=1073741824:=by exact sd)(hx:∀x∈l,x.length<=1073741824):DCall prog 205 [.slice (cS l) o] V (rS (.bool (Ef l)) V):=by
 refine en func205 ntmps205 ?_
 refine gz ?_
 refine B2 [0,16,17] (fun (k:Nat)=>k<=l.length/\l.all AP=(l.drop k).all AP) (fun k=>[(3,dI k)]) (fun _=>V) (fun k=>l.length-k) (0) (by simp) (fun k hI =>?_)
 obtain⟨hk,hR⟩:=hI
 by_cases h:k<l.length
 ·have hxk:=hx _ (List.getElem_mem h)
  rw[A0 h,List.all_cons]at hR
  repeat' first|refine gz ?_|apply gy<;>intro hh
  ·rw[hh,Bool.false_and]at hR
   (refine fin1 (S':=V) ?_;exact⟨by unfold Ef;rw[hR];rfl,rfl⟩)
  ·exact⟨k+1,⟨by omega,by rw[hR];simp_all⟩,td1,wkR⟩
 ·rw[A1 h]at hR
  refine gz ?_
  (refine fin1 (S':=V) ?_;exact⟨by first|rfl|(simp[Ef,hR];done)|(simp_all [Ef,hR];done)|(rw[A7,Bool.eq_iff_iff];simp_all [Ef,hR]<;>omega),rfl⟩)
@[reducible,instance] def a205:=fun l o V=>ah2 (@TQ l o V)
end Go.DL
namespace Go.DL
open Go.Proofs.Tryz
open Go Go.Proofs
set_option maxHeartbeats 4000000
mutual
def Fact.beq:Fact->Fact->Bool
 |.mk o a p c n k,g=>decide (o=g.op)&&decide (a=g.arg)&&decide (c=g.cls)&&decide (n=g.n)&&(p==g.path)&&decide (k.length=g.kids.length)&&Fact.beqs k g.kids
def Fact.beqs:List Fact->List Fact->Bool
 |f::l,g::m=>f.beq g&&Fact.beqs l m
 |_,_=>true
end
theorem Fact.beq_eq(f g:Fact):f.beq g=(decide (f.op=g.op)&&decide (f.arg=g.arg)&&decide (f.cls=g.cls)&&decide (f.n=g.n)&&(f.path==g.path)&&decide (f.kids.length=g.kids.length)&&Fact.beqs f.kids g.kids):=by cases f;rw[Fact.beq];rfl
theorem M1(f g:Fact)(V:Sig)(hf:f.wt<=1073741824:=by exact sd):
  DCall prog 55 [.agg (Bp f),.agg (Bp g)] V (rS (.bool (f.beq g)) V):=by
 obtain⟨hw1,hw2,hw3⟩:=f.wt_le
 have hp1:f.path.length<=1073741824:=by omega
 refine en func55 ntmps55 ?_
 repeat' first|refine gz ?_ o55|apply gy<;>intro hh
 any_goals (first|(refine fin1 (S':=V) ?_;exact⟨by first|rfl|(simp[Fact.beq_eq];done)|(simp_all [Fact.beq_eq];done)|(rw[A7,Bool.eq_iff_iff];simp_all [Fact.beq_eq]<;>omega),rfl⟩)|fail)
 refine B2 [2,3,51] (fun (k:Nat)=>k<=f.kids.length/\f.beq g=Fact.beqs (f.kids.drop k) (g.kids.drop k)) (fun k=>[(52,dI k)]) (fun _=>V) (fun k=>f.kids.length-k) (0) (by simp_all [Fact.beq_eq]) (fun k hI =>?_)
 obtain⟨hk,hR⟩:=hI
 have hgk:f.kids.length=g.kids.length:=by assumption
 by_cases h:k<f.kids.length
 ·rw[A0 h,A0 (l:=g.kids) (by omega),Fact.beqs]at hR
  have hks:=hw3 k h
  repeat' first|refine gf h ?_|refine moR (M1 (f.kids[k]) (g.kids[k]) V (by omega)) ?_|refine moP (M1 (f.kids[k]) (g.kids[k]) V (by omega)) ?_|refine gf h ?_ o55|apply gy<;>intro hh
  ·exact fe1 hR
  ·exact⟨k+1,by simp_all;omega,td1,wkR⟩
 ·refine gf h ?_ o55
  (refine fin1 (S':=V) ?_;exact⟨by first|rfl|(simp[hR,A1 h,Fact.beqs];done)|(simp_all [hR,A1 h,Fact.beqs];done)|(rw[A7,Bool.eq_iff_iff];simp_all [hR,A1 h,Fact.beqs]<;>omega),rfl⟩)
termination_by SizeOf.sizeOf f
decreasing_by exact Fact.lt (List.getElem_mem _)
@[reducible,instance] def a55:=fun f g V=>ah1 (@M1 f g V)
end Go.DL
namespace Go.DL
open Go.Proofs.Tryz
open Go Go.Proofs
set_option maxHeartbeats 8000000
theorem Ug(g:List (List Int))(o:Own)(V:Sig)(hl:g.length<=1073741824:=by exact sd)(hl2:∀x∈g,x.length<=1073741824:=by exact sd):
  DCall prog 167 [.slice (cII g) o] V (rS (dI (if Bq g then 0 else 2)) V):=by
 refine en func167 ntmps167 ?_
 cases h:Bq g with
 |false =>
  try refine gf h ?_
  exact fe1 trivial
 |true =>
  try refine gf h ?_
  exact fe1 trivial
@[reducible,instance] def a167:=fun g o V=>ah2 (@Ug g o V)
def Bw:Int->List BClass->Option Int
 |n,[]=>some n
 |n,c::r=>if 4<c.slots.length then none else match CB n c.slots with
  |none=>none
  |some m=>Bw m r
def DI(has:List Int):List Int->List Init->Bool
 |_,[]=>true
 |seen,x::r=>(decide (x.slot∈has)&&!decide (x.slot∈seen)&&inB x.n)&&DI has (seen++[x.slot]) r
def Bl(p:BProg):Nat->List BClass->Bool
 |_,[]=>true
 |i,c::r=>decide (linE (p.classes.map (·.parents)) ((i:Int)+3)=0)&&DI (hasP p ((i:Int)+3)) [] c.inits&&Bl p (i+1) r
def Ar(p:BProg):Bool:=decide (p.classes.length<=10)&&match Bw 0 p.classes with
 |none=>false
 |some n=>decide (n=p.slots)&&Bq (p.classes.map (·.parents))&&Bl p 0 p.classes
theorem EZ(cs:List BClass): ∀(n:Nat) (up out:List Int),(hasG cs n up out).length<=out.length+wtL (fun c:BClass=>c.slots.length) (cs.take n)
 |0,_,out=>by rw[hasG];omega
 | n+1,up,out=>by
  rw[hasG]
  by_cases h:n<cs.length
  ·rw[List.getElem?_eq_getElem h,Ij _ _ _ h]
   simp only
   split
   ·have:=EZ cs n (Gq (cs[n]).parents up) (out++(cs[n]).slots)
    rw[List.length_append]at this;omega
   ·have:=EZ cs n up out;omega
  ·rw[List.getElem?_eq_none (by omega)]
   have:=EZ cs n up out
   rw[List.take_of_length_le (by omega)]at this⊢
   exact this
theorem Jo(p:BProg)(c:Int):(hasP p c).length<=wtL (fun c:BClass=>c.slots.length) p.classes:=by
 unfold hasP
 have h1:=H1 (hasG p.classes (c-2).toNat [c] [])
 have h2:=EZ p.classes (c-2).toNat [c] []
 have h3:=EN (fun c:BClass=>c.slots.length) p.classes (c-2).toNat
 simp only[List.length_nil]at h2
 omega
theorem ins_new{k:Int}{s:List Int}(h:k∉s):ins k s=s++[k]:=by unfold ins;rw[if_neg h]
theorem W0 (p:BProg) (V:Sig) (hp:p.wt<=1073741824:=by exact sd):DCall prog 80 [.agg (Am p)] V fun x S'=>x=(if Ar p then .ret (.tup []) else .panic unf)/\S'=V:=by
 obtain⟨p1,p2,p3,p4,p5,p6,p7⟩:=p.wt_le
 have ws:=GP p
 have hwc:∀c∈p.classes,c.parents.length<=1073741824/\c.slots.length<=1073741824/\c.inits.length<=1073741824:=fun c hc=>by
  obtain⟨k,hk,rfl⟩:=List.getElem_of_mem hc
  have:=p5 k hk
  have hwu:(p.classes[k]).wt=1+(p.classes[k]).parents.length+(p.classes[k]).slots.length+(p.classes[k]).inits.length:=rfl
  omega
 have hwp:∀c∈p.classes,c.parents.length<=1073741824:=fun c hc=>(hwc c hc).1
 have hwg:∀x∈p.classes.map (·.parents),x.length<=1073741824:=fun x hx=>by obtain⟨c,hc,rfl⟩:=List.mem_map.1 hx;exact(hwc c hc).1
 refine en func80 ntmps80 ?_
 by_cases h10:p.classes.length<=10
 ·repeat' first|refine gz ?_|apply gy<;>intro hh
  ·refine AA [1,7,8,9,10,11,12,13,15,22,23,48,49,50,51,52,53,54,55,56,57,58,59,60,61,62,63,64,65,66,67,68,69,70,71,72,73,74,75,76,77,78,79,80,81,82,83,84,85,86,87,88,89,90,91,92,93,94,95,96,97,98,99,100,101,102,103,104,105,106,107,108,109,110,111] (fun (i:Nat) (n:Int)=>i<=p.classes.length/\n=wtL (fun c:BClass=>c.slots.length) (p.classes.take i)/\Bw 0 p.classes=Bw n (p.classes.drop i)) (fun i n=>[(24,dI i),(2,dI n)]) (fun _ _=>V) (fun i _=>p.classes.length-i) (0) (0) (by simp[wtL]) (fun i n hI =>?_)
   obtain⟨hi,hn,hR⟩:=hI
   by_cases h:i<p.classes.length
   ·have hx:=hwc _ (List.getElem_mem h)
    have hT:=Ij (fun c:BClass=>c.slots.length) p.classes i h
    have hT2:=EN (fun c:BClass=>c.slots.length) p.classes (i+1)
    rw[A0 h,Bw]at hR
    by_cases h4:4<(p.classes[i]).slots.length
    ·have hc:Bw 0 p.classes=none:=by rw[hR,if_pos h4]
     have hF:Ar p=false:=by unfold Ar;rw[hc];simp
     repeat' first|((with_reducible refine finP (S':=V) ?_);exact⟨by first|(simp[hF];done)|(simp_all [hF];done),rfl⟩)|refine gz ?_|apply gy<;>intro hh
    ·rw[if_neg h4]at hR
     generalize hsl:(p.classes[i]).slots=sl' at *
     try refine gf hsl ?_
     refine B2 [1,4,7,8,9,10,11,12,13,15,22,23,24,25,26,27,28,29,30,31,32,33,34,35,47,48,49,50,51,52,53,54,55,56,57,58,59,60,61,62,63,64,65,66,67,68,69,70,71,72,73,74,75,76,77,78,79,80,81,82,83,84,85,86,87,88,89,90,91,92,93,94,95,96,97,98,99,100,101,102,103,104,105,106,107,108,109,110,111] (fun (q:Nat)=>q<=sl'.length/\CB n sl'=CB (n+q) (sl'.drop q)) (fun q=>[(36,dI q),(2,dI (n+q))]) (fun _=>V) (fun q=>sl'.length-q) (0) (by simp) (fun q hI =>?_)
     obtain⟨hq,hQ⟩:=hI
     by_cases hq':q<sl'.length
     ·rw[A0 hq',CB]at hQ
      have hsm:=hx.2.1
      have hn0:0<=n:=by omega
      have hnb:n<=1073741824:=by omega
      by_cases hqn:sl'[q]=n+q
      ·rw[if_pos hqn]at hQ
       try refine gf hqn ?_
       exact⟨q+1,⟨by omega,by rw[hQ,Int.add_assoc];rfl⟩,td1,wkR⟩
      ·rw[if_neg hqn]at hQ
       have hc:Bw 0 p.classes=none:=by rw[hR,hQ]
       have hF:Ar p=false:=by unfold Ar;rw[hc];simp
       repeat' first|((with_reducible refine finP (S':=V) ?_);exact⟨by first|(simp[hF];done)|(simp_all [hF];done),rfl⟩)|refine gz ?_|apply gy<;>intro hh
     ·rw[A1 hq',CB]at hQ
      rw[hQ]at hR
      have hq2:q=sl'.length:=by omega
      try refine gz ?_
      exact⟨i+1,n+q,⟨by omega,by rw[hT];omega,hR⟩,td1,wkR⟩
   ·rw [A1 h,Bw] at hR
    by_cases hs:n=p.slots
    ·cases hg:Bq (p.classes.map (·.parents))with
     |false =>
      have hF:Ar p=false:=by unfold Ar;rw[hR,hg];simp
      repeat' first|((with_reducible refine finP (S':=V) ?_);exact⟨by first|(simp[hF];done)|(simp_all [hF];done),rfl⟩)|refine gf hg ?_|apply gy<;>intro hh
     | true =>
      have hcl:Ar p=Bl p 0 p.classes:=by unfold Ar;rw[hR];simp[hs,hg,h10]
      try refine gf hg ?_
      refine B2 [1,7,61,62] (fun (j:Nat)=>j<=p.classes.length/\Bl p 0 p.classes=Bl p j (p.classes.drop j)) (fun j=>[(63,dI j)]) (fun _=>V) (fun j=>p.classes.length-j) (0) (by simp) (fun j hI =>?_)
      obtain⟨hj,hJ⟩:=hI
      by_cases h':j<p.classes.length
      ·have hx:=hwc _ (List.getElem_mem h')
       have hhl:=Jo p ((j:Int)+3)
       rw[A0 h',Bl]at hJ
       by_cases hl:linE (p.classes.map (·.parents)) ((j:Int)+3)=0
       ·rw[decide_eq_true hl,Bool.true_and]at hJ
        generalize hin:(p.classes[j]).inits=ins' at hJ hx
        try refine gf (gi hin hl) ?_
        refine newSI (fun im him =>?_)
        try refine gf hin ?_
        refine B2 [1,7,8,9,10,11,12,13,61,62,63,64,65,66,67,68,69,70,71,72,73,74,75,76,77,78,79,80,81,82,83,84,85,111] (fun (k:Nat)=>k<=ins'.length/\DI (hasP p ((j:Int)+3)) [] ins'=DI (hasP p ((j:Int)+3)) ((ins'.take k).map (·.slot)) (ins'.drop k)) (fun k=>[(86,dI k)]) (fun k=>V.set im (.map (eSI ((ins'.take k).map (·.slot))))) (fun k=>ins'.length-k) (0) (by simp) (fun k hI =>?_)
        obtain⟨hk,hK⟩:=hI
        by_cases hk':k<ins'.length
        ·have hil:=hx.2.2
         rw[A0 hk',DI]at hK
         repeat' first|((with_reducible refine finP (S':=V) ?_);exact⟨by first|(simp[hcl,hJ,hK];done)|(simp_all [hcl,hJ,hK];done),rfl⟩)|refine gz ?_|apply gy<;>intro hh
         rename_i q1 q2
         have q3:¬ins'[k].slot∈(ins'.take k).map (·.slot):=by simpa using q2
         have q4:(ins'.take (k+1)).map (·.slot)=(ins'.take k).map (·.slot)++[ins'[k].slot]:=by rw[List.take_succ_eq_append_getElem hk',List.map_append];rfl
         have q5:=ins_new q3
         simp only[<-List.map_take,q5, <-q4]
         exact⟨k+1,by refine⟨by omega,?_⟩;rw[hK,hh,decide_eq_true q1,decide_eq_false q3,q4];rfl,td1,wkR⟩
        ·rw[A1 hk',DI]at hK
         rw[hK,Bool.true_and]at hJ
         try refine gz ?_
         exact⟨j+1,⟨by omega,hJ⟩,td1,wkR⟩
       ·rw[decide_eq_false hl,Bool.false_and,Bool.false_and]at hJ
        have hF:Ar p=false:=by rw[hcl,hJ]
        repeat' first|((with_reducible refine finP (S':=V) ?_);exact⟨by first|(simp[hF];done)|(simp_all [hF];done),rfl⟩)|refine gz ?_|apply gy<;>intro hh
      ·rw[A1 h',Bl]at hJ
       have hF:Ar p=true:=by rw[hcl,hJ]
       try refine gz ?_
       exact fe0 hF
    ·have hF:Ar p=false:=by unfold Ar;rw[hR];simp[hs]
     repeat' first|((with_reducible refine finP (S':=V) ?_);exact⟨by first|(simp[hF];done)|(simp_all [hF];done),rfl⟩)|refine gz ?_|apply gy<;>intro hh
 ·have hF:Ar p=false:=by unfold Ar;rw[decide_eq_false h10];rfl
  repeat' first|((with_reducible refine finP (S':=V) ?_);exact⟨by first|(simp[hF];done)|(simp_all [hF];done),rfl⟩)|refine gz ?_|apply gy<;>intro hh
@[reducible,instance] def a80:=fun p V=>gh1 (@W0 p V)
theorem Rz{x:Int}(h0:0<=x)(h1:x<18446744073709551616):IntKind.u64.wrap x=x:=by
 have e1:(2:Int) ^ IntKind.u64.bits=18446744073709551616:=by decide
 have e3:IntKind.u64.signed=false:=rfl
 simp only[IntKind.wrap,e1,e3,Bool.false_and,Bool.false_eq_true,if_false]
 omega
theorem andU(n:Nat)(h:n<=1073741824):binD .and (.int .u64 n) (.int .u64 4294967295)=some (.int .u64 n):=by
 simp only[binD,if_true]
 have e:((BitVec.ofInt IntKind.u64.bits (n:Int) &&& BitVec.ofInt IntKind.u64.bits 4294967295).toNat)=n:=by
  rw[BitVec.toNat_and]
  show(BitVec.ofInt 64 (n:Int)).toNat &&& (BitVec.ofInt 64 4294967295).toNat=n
  rw[show(4294967295:Int)=((2 ^ 32-1:Nat):Int) from rfl,BitVec.ofInt_natCast,BitVec.ofInt_natCast,BitVec.toNat_ofNat,BitVec.toNat_ofNat]
  rw[Nat.mod_eq_of_lt (by omega),Nat.mod_eq_of_lt (by omega),Nat.and_two_pow_sub_one_eq_mod,Nat.mod_eq_of_lt (by omega)]
 rw[e,Rz (by omega) (by omega)]
theorem shrU(k:IntKind)(n:Nat)(h:n<=1073741824):binD .shr (.int .u64 n) (.int k 32)=some (.int .u64 0):=by
 simp only[binD]
 rw[if_pos (by decide)]
 congr 2
 show(n:Int).fdiv (2 ^ 32)=0
 rw[Int.fdiv_eq_ediv_of_nonneg _ (by decide)]
 omega
theorem TF(n:Nat)(V:Sig)(hn:n<=1073741824:=by exact sd):DCall prog 227 [.int .u64 1,.int .u64 n] V (rS (.tup [.int .u64 0,.int .u64 n]) V):=by
 have a1:binD .and (.int .u64 1) (.int .u64 4294967295)=some (.int .u64 1):=andU 1 (by omega)
 have a0:binD .and (.int .u64 0) (.int .u64 4294967295)=some (.int .u64 0):=andU 0 (by omega)
 have an:=andU n hn
 have s1:∀k,binD .shr (.int .u64 1) (.int k 32)=some (.int .u64 0):=fun k=>shrU k 1 (by omega)
 have s0:∀k,binD .shr (.int .u64 0) (.int k 32)=some (.int .u64 0):=fun k=>shrU k 0 (by omega)
 have sn:=fun k=>shrU k n hn
 have wn:IntKind.u64.wrap (n:Int)=n:=Rz (by omega) (by omega)
 have w0:IntKind.u64.wrap 0=0:=Rz (by omega) (by omega)
 refine en func227 ntmps227 ?_
 refine gf (gi a1 (gi a0 (gi an (gi s1 (gi s0 (gi sn (gi wn w0))))))) ?_
 exact fe2 trivial
@[reducible,instance] def a227:=fun n V=>ah1 (@TF n V)
theorem Ue(n:Nat)(V:Sig)(hn:n<=1073741824:=by exact sd):DCall prog 169 [.int .u64 1,.int .u64 n] V (rS (.tup [.int .u64 0,.int .u64 n]) V):=by
 refine en func169 ntmps169 ?_
 refine gz ?_
 exact fe2 trivial
@[reducible,instance] def a169:=fun n V=>ah1 (@Ue n V)
theorem VY(n:Nat)(V:Sig)(h1:1<=n)(hn:n<=1048576):DCall prog 82 [.slice [[dI (-1)]] .no,dI n] V fun x S' => ∃r,V r=none/\x=.ret (.sref r 0 n n)/\S'=V.set r (.cells ((List.replicate n (-1:Int)).map dI)):=by
 have wn:IntKind.u64.wrap (n:Int)=n:=Rz (by omega) (by omega)
 have w1:IntKind.u64.wrap 1=1:=Rz (by omega) (by omega)
 refine en func82 ntmps82 ?_
 refine gf (gi wn w1) ?_ o82
 refine Sy (k:=n) (c:=n) (sz:=1) (z:=[dI 0]) (fun i hi hm =>?_)
 have e0:mS V (some (i,n,(List.replicate (n-n) [dI 0]).flatten)) (List.replicate n [dI 0])=V.set i (.cells (List.replicate n (dI 0))):=by simp[mS]
 rw[e0]
 refine gz ?_ o82
 refine La Ad (m:=1) (cs:=[dI (-1)]) (e:=3) (i:=i) (off:=0) (len:=n) (cap:=n) (ds:=List.replicate n (dI 0)) (by decide) (by simp<;>rfl) (by simp) (by simp) tdR (w7 ..) (by simp) (RI (es:=[[dI (-1)]]) tdR (by simp)) (by rfl) ?_
 have e1:(V.set i (.cells (List.replicate n (dI 0)))).set i (.cells (List.take 0 (List.replicate n (dI 0))++(List.take (min 1 n) [dI (-1)]++List.drop (0+min 1 n) (List.replicate n (dI 0)))))=V.set i (.cells (List.replicate 1 (dI (-1))++List.replicate (n-1) (dI 0))):=by
  rw[w9,show min 1 n=1 by omega];simp
 rw[e1,show((min 1 n:Nat):Int)=1 by omega]
 refine gz ?_ o82
 refine B2 [4,7,47] (fun (b:Nat)=>1<=b/\b<=n) (fun b=>[(8,dI b)]) (fun b=>V.set i (.cells (List.replicate b (dI (-1))++List.replicate (n-b) (dI 0)))) (fun b=>n-b) (1) (by omega) (fun b hI =>?_)
 obtain⟨hb1,hbn⟩:=hI
 by_cases h:b<n
 ·refine gz ?_
  refine MP (id:=9) [0,1,2,3,4,5,6,7,8,9] [7] V ((Sub.refl _).set hi) ?_
  refine gz ?_ o82
  refine mo_cutL Ad (i:=i) (off:=0) (len:=n) (cap:=n) (lo:=b) (e:=3) (k := .i64) ?_ (by decide) (by simp<;>rfl) (by simp) tdR tdR (by omega) (by omega)
  rw[show 0+b*(tab 3).size=b by simp]
  refine gz ?_ o82
  refine mo_cutH Ad (i:=i) (off:=0) (len:=n) (cap:=n) (hi:=b) (e:=3) (k := .i64) ?_ (by decide) (by simp<;>rfl) (by simp) tdR tdR (by omega)
  refine mo1 (fun U2 hγ =>?_) rfl
  have v1:=hγ (.tmp 41) (by simp[Op.operands,Call.operands])
  have v2:=hγ (.tmp 44) (by simp[Op.operands,Call.operands])
  have hds:(List.replicate b (dI (-1))++List.replicate (n-b) (dI 0)).length=n:=by simp;omega
  refine La Ad (m:=b) (cs:=((List.replicate b (dI (-1))++List.replicate (n-b) (dI 0)).drop 0).take b) (e:=3) (i:=i) (off:=b) (len:=n-b) (cap:=n-b) (ds:=List.replicate b (dI (-1))++List.replicate (n-b) (dI 0)) (by decide) (by simp<;>rfl) (by simp) (by simp) (by rw[v1];with_unfolding_all rfl) (w7 ..) (by omega) (by rw[v2];exact Vm (off:=0) (w7 ..) (by omega)) (by simp[D1,D.flat]) ?_
  have e2:List.take b (List.replicate b (dI (-1))++List.replicate (n-b) (dI 0))++(List.take (min b (n-b)) (List.take b (List.drop 0 (List.replicate b (dI (-1))++List.replicate (n-b) (dI 0))))++List.drop (b+min b (n-b)) (List.replicate b (dI (-1))++List.replicate (n-b) (dI 0)))=List.replicate (b+min b (n-b)) (dI (-1))++List.replicate (n-(b+min b (n-b))) (dI 0):=by
   have t1:List.take b (List.replicate b (dI (-1))++List.replicate (n-b) (dI 0))=List.replicate b (dI (-1)):=by rw[List.take_append_of_le_length (by simp)];simp
   have t2:List.drop (b+min b (n-b)) (List.replicate b (dI (-1))++List.replicate (n-b) (dI 0))=List.replicate (n-(b+min b (n-b))) (dI 0):=by
    rw[List.drop_append,List.drop_of_length_le (by simp),List.nil_append,List.drop_replicate];congr 1;simp;omega
   rw[List.drop_zero,t1,t2, <-List.append_assoc]
   congr 1
   rw[List.take_replicate,List.replicate_append_replicate];congr 1;omega
  rw[w9,e2]
  refine AL ⟨rfl,?_⟩
  refine⟨(Sub.refl _).set hi,?_⟩
  refine gz ?_ o82
  exact⟨b+min b (n-b),by omega,td1,wkR⟩
 ·have hb:b=n:=by omega
  subst hb
  refine gz ?_ o82
  refine fin1 (S':=V.set i (.cells ((List.replicate b (-1)).map dI))) ?_ (hZ:=by simp;exact Sub.refl _)
  exact⟨i,hi,rfl,rfl⟩
def OutO{S:Type}(u r:D)(Good:Sig->S->Prop)(Bad:Sig->Prop)(touch:Nat->Prop)(V:Sig):Option S->DE->Sig->Prop
 |none,x,S'=>x=.panic u/\Bad S'
 |some s,x,S'=>x=.ret r/\Good S' s /\ ∀j o,V j=some o->¬touch j->S' j=some o
theorem OutO.ret{S:Type}{u r d:D}{Good:Sig->S->Prop}{Bad:Sig->Prop}{touch:Nat->Prop}{V S':Sig}{o:Option S}(h:OutO u r Good Bad touch V o (.ret d) S'): ∃s,o=some s/\d=r/\Good S' s /\ ∀j o,V j=some o->¬touch j->S' j=some o:=by
 cases o with
 |none=>exact absurd h.1 (by simp)
 |some s=>exact⟨s,rfl,by simpa using h.1,h.2⟩
theorem OutO.pan{S:Type}{u r d:D}{Good:Sig->S->Prop}{Bad:Sig->Prop}{touch:Nat->Prop}{V S':Sig}{o:Option S}(h:OutO u r Good Bad touch V o (.panic d) S'):o=none/\d=u/\Bad S':=by
 cases o with
 |none=>exact⟨rfl,by simpa using h.1,h.2⟩
 |some s=>exact absurd h.1 (by simp)
section
variable {S:Type}
def LP(f:Int->Int->S->Option S)(x:BNode)(size:Int):Nat->List Int->S->Option S
 |_,[],s=>some s
 |j,c::r,s=>match f c (if x.op=9/\j=1 then size+1 else size) s with
  |none=>none
  |some s'=>LP f x size (j+1) r s'
def GS(p:BProg)(step:Nat->Int->Int->S->Option S):Nat->Int->Int->S->Option S
 |0,_,_,_=>none
 |k+1,node,size,s=>match step (k+1) node size s with
  |none=>none
  |some s'=>LP (GS p step k) (Ap p node) size 0 (Ap p node).kids s'
end
theorem Uc{S:Type}(p:BProg)(l i:Nat)(Good:Sig->S->Prop)(Bad:Sig->Prop)(touch:Nat->Prop)(step:Nat->Int->Int->S->Option S)(hp:p.wt<=1073741824)(hti:¬touch i)
  (hs0:∀node size s,step 0 node size s=none) (hsn:∀k node size s s',step k node size s=some s'->0<=node/\node<p.nodes.length)
  (hy:∀(k:Nat) (d node size:Int) V s,d=13-(k:Int)->0<=size->size+k<=1000->Good V s->DYield prog l [dI node,.agg [dI size,dI d]] V (OutO unf (.bool true) Good Bad touch V (step k node size s))) :
  ∀(k:Nat) (d node size:Int) V s,d=13-(k:Int)->0<=size->size+k<=1000->k<=13->Good V s->V i=some (.cells [.func (.func 171) [] [.cptr [.yld l] 0,.cptr (Am p) 0,.ptr i 0]])->
   DCall prog 171 [dI node,.agg [dI size,dI d],.cptr [.yld l] 0,.cptr (Am p) 0,.ptr i 0] V (OutO unf (.bool true) Good Bad touch V (GS p step k node size s)):=by
 obtain⟨p1,p2,p3,p4,p5,p6,p7⟩:=p.wt_le
 intro k
 induction k with
 | zero =>
  intro d node size V s hd h0 hsz hk hG hi
  refine en func171 ntmps171 ?_
  refine gz ?_
  refine yldW (hy 0 d node size V s hd h0 hsz hG) (fun e S' hr =>?_) (fun e S' hr =>?_)
  ·rw[hs0]at hr;obtain⟨_,h,_⟩:=hr.ret;cases h
  ·obtain⟨_,rfl,hb⟩:=hr.pan
   exact finP (S':=S') ⟨rfl,hb⟩
 | succ k ih =>
  intro d node size V s hd h0 hsz hk hG hi
  refine en func171 ntmps171 ?_
  refine gz ?_ [] [10]
  refine yldW (hy (k+1) d node size V s hd h0 hsz hG) (fun e S' hr =>?_) (fun e S' hr =>?_)
  ·obtain⟨s',hst,rfl,hG',hK⟩:=hr.ret
   obtain⟨hn0,hn1⟩:=hsn _ _ _ _ _ hst
   obtain⟨q,rfl⟩:∃q:Nat,node=(q:Int):=⟨node.toNat,by omega⟩
   have hq:q<p.nodes.length:=by omega
   have hi':=hK i _ hi hti
   have hna:Ap p q=p.nodes[q]:=by unfold Ap;simp[List.getElem?_eq_getElem hq]
   have hW:GS p step (k+1) q size s=LP (GS p step k) p.nodes[q] size 0 (p.nodes[q]).kids s':=by rw[GS,hst];simp only;rw[hna]
   rw[hW]
   have hkl:(p.nodes[q]).kids.length<=1073741824:=by have:=p7 q hq;unfold BNode.wt at this;omega
   generalize hx:p.nodes[q]=x at *
   refine gf hx ?_ [] [10]
   refine D6 [0,3,4,6,21,22] (fun (j:Nat) (s1:S) (S1:Sig)=>j<=x.kids.length/\Good S1 s1/\LP (GS p step k) x size 0 x.kids s'=LP (GS p step k) x size j (x.kids.drop j) s1/\(∀j o,V j=some o->¬touch j->S1 j=some o)) (fun j _ _=>[(23,dI j)]) (fun _ _ S1=>S1) (fun j _ _=>x.kids.length-j) (0) (s') (S') (by exact⟨by omega,hG',by simp,hK⟩) (fun j s1 S1 hI =>?_)
   obtain⟨hj,hG1,hR,hK1⟩:=hI
   have hi1:=hK1 i _ hi hti
   by_cases hj':j<x.kids.length
   ·rw [A0 hj',LP] at hR
    have hkb:(k:Int)<=12:=by omega
    refine gf (gi hx hi1) ?_ [] [10]
    refine newV (fun a ha =>?_)
    have hia:i≠a:=fun e=>by rw[e,ha]at hi1;cases hi1
    have hz:0<=(if x.op=9/\j=1 then size+1 else size)/\(if x.op=9/\j=1 then size+1 else size)+(k:Int)<=1000:=by split<;>omega
    have hc:=ih (d+1) x.kids[j] (if x.op=9/\j=1 then size+1 else size) S1 s1 (by omega) hz.1 hz.2 (by omega) hG1 hi1
    by_cases hl:x.op=9/\j=1
    ·rw[if_pos hl]at hR hc
     obtain⟨hl1,rfl⟩:=hl
     refine gf (gi hx (gi hi1 (gi hl1 hia))) ?_ [] [10]
     refine drp S1 ?_
     refine Ab hc (fun e S2 hr =>?_) (fun e S2 hr =>?_)
     ·obtain⟨s2,hs2,rfl,hG2,hK2⟩:=hr.ret
      rw[hs2]at hR
      refine gz ?_ [] [10]
      exact⟨1+1,s2,S2,⟨by omega,hG2,hR,fun j o h1 h2=>hK2 _ _ (hK1 _ _ h1 h2) h2⟩,td1,wkR⟩
     ·obtain⟨hn,rfl,hb⟩:=hr.pan
      rw[hn]at hR;rw[hR]
      exact finP (S':=S2) ⟨rfl,hb⟩
    ·rw[if_neg hl]at hR hc
     have hl2:¬(x.op=9/\(j:Int)=1):=by omega
     repeat' first|refine gf (gi hx (gi hi1 hia)) ?_ [] [10]|apply gy<;>intro hh
     all_goals
      refine drp S1 ?_
      refine Ab hc (fun e S2 hr =>?_) (fun e S2 hr =>?_)
      ·obtain⟨s2,hs2,rfl,hG2,hK2⟩:=hr.ret
       rw[hs2]at hR
       refine gz ?_ [] [10]
       exact⟨j+1,s2,S2,⟨by omega,hG2,hR,fun j o h1 h2=>hK2 _ _ (hK1 _ _ h1 h2) h2⟩,td1,wkR⟩
      ·obtain⟨hn,rfl,hb⟩:=hr.pan
       rw[hn]at hR;rw[hR]
       exact finP (S':=S2) ⟨rfl,hb⟩
   ·rw[A1 hj',LP]at hR
    rw[hR]
    refine gf hx ?_ [] [10]
    refine fin1 (S':=S1) ?_
    exact⟨rfl,hG1,hK1⟩
  ·obtain⟨hst,rfl,hb⟩:=hr.pan
   have hW:GS p step (k+1) node size s=none:=by rw[GS,hst]
   rw[hW]
   exact finP (S':=S') ⟨rfl,hb⟩
def Keep(touch:Nat->Prop)(V S':Sig):Prop := ∀j o,V j=some o->¬touch j->S' j=some o
theorem Keep.refl(touch:Nat->Prop)(V:Sig):Keep touch V V:=fun _ _ h _=>h
theorem Keep.trans{touch:Nat->Prop}{a b c:Sig}(h:Keep touch a b)(k:Keep touch b c):Keep touch a c:=fun j o h1 h2=>k _ _ (h _ _ h1 h2) h2
theorem Keep.fresh{touch:Nat->Prop}{a b:Sig}(h:Keep touch a b){i:Nat}{o:DObj}(hi:a i=none):Keep touch a (b.set i o):=fun j x h1 h2=>by
 rw[w8 _ _ fun e=>by rw[e,hi]at h1;cases h1];exact h _ _ h1 h2
theorem Ud{S:Type}(p:BProg)(l:Nat)(Good:Sig->S->Prop)(Bad:Sig->Prop)(touch:Nat->Prop)(step:Nat->Int->Int->S->Option S)(hp:p.wt<=1073741824)
  (hs0:∀node size s,step 0 node size s=none) (hsn:∀k node size s s',step k node size s=some s'->0<=node/\node<p.nodes.length)
  (hy:∀(k:Nat) (d node size:Int) V s,d=13-(k:Int)->0<=size->size+k<=1000->Good V s->DYield prog l [dI node,.agg [dI size,dI d]] V (OutO unf (.bool true) Good Bad touch V (step k node size s)))
  (hm : ∀ V s a o,Good V s->V a=none->Good (V.set a o) s) (k:Nat) (d node size:Int) (V:Sig) (s:S) (ht : ∀ a,V a=none -> ¬ touch a) (hd:d=13-(k:Int)) (h0:0<=size) (hsz:size+k<=1000) (hk:k<=13) (hG:Good V s) :
   DCall prog 170 [.yld l,.cptr (Am p) 0,.cptr [dI node] 0,.cptr [dI size,dI d] 0] V (OutO unf (.tup []) Good Bad touch V (GS p step k node size s)):=by
 refine en func170 ntmps170 ?_
 refine gz ?_ [] [5]
 refine newV (fun a ha =>?_)
 refine gz ?_ [] [5]
 refine Ab (Uc p l a Good Bad touch step hp (ht a ha) hs0 hsn hy k d node size (V.set a _) s hd h0 hsz hk (hm _ _ _ _ hG ha) (w7 ..)) (fun e S' hr =>?_) (fun e S' hr =>?_)
 ·obtain⟨s',hs',rfl,hG',hK⟩:=hr.ret
  rw[hs']
  refine gz ?_ [] [5]
  refine Eb (S':=S') ?_
  exact⟨rfl,hG',fun j o h1 h2=>hK j o (by rw[w8 _ _ fun e=>by rw[e,ha]at h1;cases h1];exact h1) h2⟩
 ·obtain⟨hn,rfl,hb⟩:=hr.pan
  rw[hn]
  exact finP (S':=S') ⟨rfl,hb⟩
theorem VX(p:BProg)(node size d:Int)(V:Sig):DCall prog 84 [.agg (Am p),dI node,.agg [dI size,dI d]] V (rS (.func (.func 170) [] [.cptr (Am p) 0,.cptr [dI node] 0,.cptr [dI size,dI d] 0]) V):=by
 refine en func84 ntmps84 ?_
 refine gz ?_
 exact fe1 trivial
@[reducible,instance] def a84:=fun p node size d V=>ah0 (@VX p node size d V)
theorem Tc(p:BProg)(x:BNode)(k:Int)(V:Sig):DCall prog 327 [dI k,.agg (Am p),.agg (Ai x)] V (rS (dI k) V):=by
 refine en func327 ntmps327 ?_
 refine gz ?_
 exact fe1 trivial
theorem Tb(p:BProg)(x:BNode)(V:Sig)(h0:0<=x.n:=by exact sd)(h1:x.n<p.gens.length:=by exact sd)(hl:p.gens.length<=1073741824:=by exact sd):DCall prog 328 [.agg [],.agg (Am p),.agg (Ai x)] V (rS (dI (p.gens.getD x.n.toNat 0)) V):=by
 refine en func328 ntmps328 ?_
 obtain⟨q,hq⟩:∃q:Nat,x.n=(q:Int):=⟨x.n.toNat,by omega⟩
 have hq1:q<p.gens.length:=by omega
 have hg:p.gens.getD x.n.toNat 0=p.gens[q]:=by rw[hq,List.getD_eq_getElem?_getD];simp[hq1]
 rw[hg]
 refine gf hq ?_
 exact fe1 trivial
theorem meth327 : JZ prog 140 "consort/bind.many" 327 := by
 intro v w;kernel_rfl
theorem meth328 : JZ prog 142 "consort/bind.many" 328 := by
 intro v w;kernel_rfl
theorem WN{ro:Option Nat}{n:Nat}{ops:Array Oper}{N:Nat}{S0 V:Sig}{Q:DX->St->Prop}{df:List DDf}{O Sr:Fr}{t:Nat}{ty:TypeId}{pos:String}{after:Array Edge}{l:List (Bool×Oper)}{d e:D}{rv:Operand}{name:String}{args:Array Operand}{ats:Array TypeId}{f T:Nat}{us:List D}(hM:JZ prog T name f)(h:DCall prog f (d::us) V (rS e V))(k:MO prog ro n ops N S0 Q df l ((t,e)::O) V)
  (hl:A5 O (A9 (rv::args.toList))=some Sr:=by exact tdR) (hx:ev Sr rv=.iface T d:=by exact tdR) (ha:args.toList.map (ev Sr)=us:=by exact tdR) (htn:decide (t<n)=true:=by exact tdR) (hC:Sub S0 V:=by first|exact Sub.refl _|assumption) :
  MO prog ro n ops N S0 Q df ((true,⟨some t,.call { callee := .invoke rv name,args,argTypes:=ats },ty,pos,after,none⟩)::l) O V:=by
 refine mo1 (fun U2 hγ =>?_) htn
 have he:∀x∈rv::args.toList,ev U2 x=ev Sr x:=fun x hx=>by
  rw[hγ x (by simpa[Op.operands,Call.operands] using hx)]
  exact(C4 fun t ht=>AQ hl t (Bc (by rw[<-ht];exact hx))).symm
 refine JK rfl (by rw[he rv (by simp)];exact hx) hM h ?_ (by simpa[At] using htn) (fun d' S' ⟨e1,e2⟩ =>?_) (fun d' S' ⟨e1,e2⟩=>by cases e1)
 ·rw[show args.toList.map (ev U2)=args.toList.map (ev Sr) from List.map_congr_left fun x h=>he x (by simp[h]),ha]
  exact Ec _
 ·cases e1;subst e2
  exact AL ⟨rfl,by simp only[putD,Aa,if_true];exact⟨hC,k⟩⟩
def Id(p:BProg)(inM:Bool):Nat->Int->Int->List Int->Option (List Int)
 |0,_,_,_=>none
 |_+1,node,size,s =>
  if node<0\/(p.nodes.length:Int)<=node\/0<=s.getD node.toNat 0 then none else
  if((Ap p node).kids.length:Int)≠Cs p (Ap p node)\/Bk p (Ap p node) size=false\/((Ap p node).op=18/\inM=false) then none else some (s.set node.toNat size)
def optW:Bool×List Int->Option (List Int)
 |(true,s)=>some s
 |(false,_)=>none
theorem Kz(f:Int->Int->List Int->Bool×List Int)(x:BNode)(size:Int): ∀(j:Nat) (l s:List Int),LP (fun a b c=>optW (f a b c)) x size j l s=optW (Bx f x size j l s)
 |_,[],s=>rfl
 | j,c::r,s=>by
  rw[LP,Bx]
  cases h:f c (if x.op=9/\j=1 then size+1 else size) s with
  |mk b s'=>cases b with
   |false=>rfl
   |true=>simp only[optW];exact Kz f x size (j+1) r s'
theorem Kf(p:BProg)(inM:Bool): ∀(k:Nat) (node size:Int) (s:List Int),GS p (Id p inM) k node size s=optW (BR p inM k node size s)
 |0,_,_,_=>rfl
 | k+1,node,size,s=>by
  rw[GS,BR,Id]
  by_cases h1:node<0\/(p.nodes.length:Int)<=node\/0<=s.getD node.toNat 0
  ·rw[if_pos h1,if_pos h1];rfl
  ·rw[if_neg h1,if_neg h1]
   by_cases h2:((Ap p node).kids.length:Int)≠Cs p (Ap p node)\/Bk p (Ap p node) size=false\/((Ap p node).op=18/\inM=false)
   ·rw[if_pos h2,if_pos h2];rfl
   ·rw[if_neg h2,if_neg h2]
    have e:GS p (Id p inM) k=fun a b c=>optW (BR p inM k a b c):=by funext a b c;exact Kf p inM k a b c
    simp only[e]
    exact Kz _ _ _ _ _ _
theorem L6{P:Program}{n:Nat}{Q:DX->St->Prop}{O:Fr}{V:Sig}{df:List DDf}{gop:Operand}{ps:Array Tmp}{asg body:Code}{f:Nat}{first cap:List D}{S:Type}{u:D}(G:Nat->Sig->S->Prop)(Bad:Nat->Sig->Prop)(touch:Nat->Prop)(o:Option S)
  (hf:ev O gop=.func (.func f) first cap)
  (hcall:∀l did,V did=none->V l=none->l≠did->∀LO,LO=DObj.loop .ready none ps asg body n O did->DCall P f (first++[.yld l]++cap) ((V.set did .defs).set l LO) (OutO u (.tup []) (fun S' s=>S' l=some LO/\G did S' s) (Bad did) touch ((V.set did .defs).set l LO) o))
  (hret:∀l did s S',o=some s->V did=none->V l=none->l≠did->G did S' s->Q .normal ⟨O,S'.del l,.coll did::df⟩)
  (hpan:∀did S',o=none->V did=none->Bad did S'->Q (.panic u) ⟨O,S',.coll did::df⟩) :
  DWp P none n (.rangeFunc gop ps asg body) Q ⟨O,V,df⟩:=by
 refine F4 (R:=fun l did=>OutO u (.tup []) (fun S' s=>S' l=some (DObj.loop .ready none ps asg body n O did)/\G did S' s) (Bad did) touch ((V.set did .defs).set l (DObj.loop .ready none ps asg body n O did)) o) hf (fun l did h1 h2 h3=>hcall l did h1 h2 h3 _ rfl) (fun l did d S' h1 h2 h3 hr =>?_) (fun l did d S' h1 h2 h3 hr =>?_)
 ·obtain⟨s,hs,rfl,⟨hl,hG⟩,hK⟩:=hr.ret
  exact⟨_,_,hl,by simp,hret l did s S' hs h1 h2 h3 hG⟩
 ·obtain⟨hn,rfl,hb⟩:=hr.pan
  exact hpan did S' hn h1 hb
theorem endM{P:Program}{n:Nat}{fn:Func}{R:DE->Sig->Prop}{O:Fr}{V:Sig}{did:Nat}(h:R (.ret (.tup [])) (V.del did))(hd:V did=some .defs)(hr:fn.results=#[]:=by rfl): ∃s',Wk P n ⟨O,V,[.coll did]⟩ s'/\Rx P n fn (Weak R) .normal s' :=
 ⟨_,Wk.refl _ _ _,[did],rfl,by simp,by simp[hd],.tup [],Ed (by simp[resD,hr]),EO h⟩
theorem endMP{P:Program}{n:Nat}{fn:Func}{R:DE->Sig->Prop}{O:Fr}{V:Sig}{did:Nat}{d:D}(h:R (.panic d) (V.del did))(hd:V did=some .defs): ∃s',Wk P n ⟨O,V,[.coll did]⟩ s'/\Rx P n fn (Weak R) (.panic d) s' :=
 ⟨_,Wk.refl _ _ _,[did],rfl,by simp,by simp[hd],EO h⟩
theorem Keep.del{touch:Nat->Prop}{a b:Sig}(h:Keep touch a b){i:Nat}(hi:a i=none):Keep touch a (b.del i):=fun j x h1 h2=>by
 have e:j≠i:=fun e=>by rw[e,hi]at h1;cases h1
 simp only[Sig.del,e,if_false];exact h _ _ h1 h2
theorem Keep.base{touch:Nat->Prop}{a b:Sig}{i:Nat}{o:DObj}(h:Keep touch (a.set i o) b)(hi:a i=none):Keep touch a b:=fun j x h1 h2 =>
 h _ _ (by rw[w8 _ _ fun e=>by rw[e,hi]at h1;cases h1];exact h1) h2
def Ce:DObj->DObj
 |.loop _ _ ps a b n O d => .loop .busy none ps a b n O d
 |o=>o
def Wv(c:Code):DObj->DObj
 |.loop _ _ ps a b n O d => .loop .done (some c) ps a b n O d
 |o=>o
def Qc(l:Nat)(LO:DObj)(R:DE->Sig->Prop):DX->St->Prop
 |.normal,s=>s.V l=some (Ce LO)/\R (.ret (.bool true)) (s.V.set l LO)
 |.ret,s=>s.V l=some (Ce LO)/\R (.ret (.bool false)) (s.V.set l (Wv .ret LO))
 |.panic d,s=>s.df=[]/\R (.panic d) s.V
 |.exit id,s=>s.V l=some (Ce LO)/\R (.ret (.bool false)) (s.V.set l (Wv (.exit id) LO))
theorem Eu{P:Program}{l:Nat}{args:List D}{V:Sig}{R:DE->Sig->Prop}{ps:Array Tmp}{asg body:Code}{n:Nat}{Sl:Fr}{did:Nat}{LO:DObj}(hLO:LO=.loop .ready none ps asg body n Sl did)(hZ:V l=some LO)
  (h:DWp P (some l) n asg (Then (fun s=>s.V l=some LO/\DWp P (some l) n body (Qc l LO R) { s with V:=s.V.set l (Ce LO) }) (fun _ _=>False)) ⟨Q8 ps.toList args Sl,V,[]⟩) (hl:ps.toList.length=args.length:=by rfl) (hp:∀p∈ps.toList,p<n:=by decide):DYield P l args V R:=by
 subst hLO
 refine M8 hZ hl hp ?_
 have e:Qc l (.loop .ready none ps asg body n Sl did) R=X0 l ps asg body n Sl did R:=by funext x s;cases x<;>rfl
 rw[<-e]
 exact h
theorem LY (p:BProg) (io r:Nat) (inM:Bool) (node size:Int) (s:List Int) (V:Sig) (hp:p.wt<=1073741824) (hio:V io=some (.cells [.sref r 0 p.nodes.length p.nodes.length])) (hr:V r=some (.cells (s.map dI))) (hs:s.length=p.nodes.length) (hne:io ≠ r) (hz:0<=size) (hz2:size<=900) :
  DCall prog 83 [dI node,dI size,.bool inM,.cptr (Am p) 0,.ptr io 0] V (OutO unf (.tup []) (fun S' s'=>S' r=some (.cells (s'.map dI))/\s'.length=p.nodes.length/\Keep (· = r) V S') (fun S'=>Keep (· = r) V S') (· = r) V (optW (BR p inM 12 node size s))):=by
 obtain⟨p1,p2,p3,p4,p5,p6,p7⟩:=p.wt_le
 rw[<-Kf]
 refine Bh func83 rfl (by decide) ntmps83 (by simp) ?_
 refine gz ?_ o83
 refine L6 (u:=unf) (fun did S' s'=>S' r=some (.cells (s'.map dI))/\s'.length=p.nodes.length/\Keep (· = r) (V.set did .defs) S') (fun did S'=>Keep (· = r) (V.set did .defs) S') (· = r) (GS p (Id p inM) 12 node size s) rfl (fun l did hd hl hld LO hLO =>?_) (fun l did s' S' ho hd hl hld hG =>?_) (fun did S' ho hd hb =>?_)
 ·have hrd:r ≠ did:=fun e=>by rw [e,hd] at hr;cases hr
  have hod:io≠did:=fun e=>by rw[e,hd]at hio;cases hio
  rw[<-w8 V DObj.defs hod]at hio
  rw[<-w8 V DObj.defs hrd]at hr
  rw[<-w8 V DObj.defs hld]at hl
  clear hd hrd hod
  generalize V.set did .defs=Sd at *
  refine Ud p l _ _ _ (Id p inM) hp (fun _ _ _=>rfl) (fun k node size s s' h=>by
   cases k with
   |zero=>cases h
   |succ k =>
    rw[Id]at h
    split at h
    ·cases h
    ·omega) (fun k d node size S1 s1 hd hz1 hz2 hG =>?_) (fun S1 s1 a o hG ha =>?_) 12 1 node size _ s (fun a ha e =>?_) (by omega) hz (by omega) (by omega) ?_
  ·obtain ⟨hl1,hr1,hs1,hK1⟩:=hG
   refine Eu hLO hl1 ?_
   clear hLO
   refine gz ?_ o83
   refine⟨hl1,?_⟩
   have hio1:=hK1 io _ hio hne
   have hlio:l≠io:=fun e=>by rw[e,hio]at hl;cases hl
   have hlr:l≠r:=fun e=>by rw[e,hr]at hl;cases hl
   have hKb:=hK1.fresh (o:=Ce LO) hl
   cases k with
   |zero =>
    repeat' first|(exact⟨rfl,rfl,hKb⟩)|refine gf (gi hio1 (gi hr1 (gi hlio (gi hlr hne)))) ?_ o83|apply gy<;>intro hh
   | succ k =>
    by_cases hn:node<0\/(p.nodes.length:Int)<=node
    ·have hS:Id p inM (k+1) node size s1=none:=by rw[Id,if_pos (by omega)]
     rw[hS]
     repeat' first|(exact⟨rfl,rfl,hKb⟩)|refine gf (gi hio1 (gi hr1 (gi hlio (gi hlr hne)))) ?_ o83|apply gy<;>intro hh
    ·obtain ⟨q,rfl⟩ : ∃ q:Nat,node=(q:Int):=⟨node.toNat,by omega⟩
     have hq:q<p.nodes.length:=by omega
     have hqs:q<s1.length:=by omega
     have hget:s1.getD ((q:Int)).toNat 0=s1[q]:=by simp[List.getD_eq_getElem?_getD,hqs]
     by_cases h2:0<=s1[q]
     ·have hS:Id p inM (k+1) q size s1=none:=by rw[Id,if_pos (by rw[hget];omega)]
      rw[hS]
      repeat' first|(exact⟨rfl,rfl,hKb⟩)|refine gf (gi hio1 (gi hr1 (gi hlio (gi hlr hne)))) ?_ o83|apply gy<;>intro hh
     ·have hna:Ap p q=p.nodes[q]:=by unfold Ap;simp [hq]
      have hS:Id p inM (k+1) q size s1=if((p.nodes[q]).kids.length:Int)≠Cs p p.nodes[q]\/Bk p p.nodes[q] size=false\/((p.nodes[q]).op=18/\inM=false) then none else some (s1.set q size):=by
       rw[Id,if_neg (by rw[hget];omega),hna];simp
      have hkl:(p.nodes[q]).kids.length<=1073741824:=by have:=p7 q hq;unfold BNode.wt at this;omega
      generalize hx:p.nodes[q]=x at *
      have hKd:∀o,Keep (· = r) Sd ((S1.set l (Ce LO)).set r o):=fun o j x h1 h2=>by rw[w8 _ _ h2];exact hKb j x h1 h2
      cases hnb:Bk p x size with
      |false =>
       rw[if_pos (.inr (.inl hnb))]at hS
       rw[hS]
       repeat' first|(exact⟨rfl,rfl,hKd _⟩)|refine gf (gi hio1 (gi hr1 (gi hlio (gi hlr (gi hne (gi hx hnb)))))) ?_ o83|apply gy<;>intro hh
      | true =>
       by_cases h18:x.op=18/\inM=false
       ·rw[if_pos (.inr (.inr h18))]at hS
        rw[hS]
        repeat' first|(exact⟨rfl,rfl,hKd _⟩)|refine gf (gi hio1 (gi hr1 (gi hlio (gi hlr (gi hne (gi hx (gi hnb h18.2))))))) ?_ o83|apply gy<;>intro hh
        all_goals exact absurd h18.1 (by assumption)
       ·
        repeat' first|refine gf (gi hio1 (gi hr1 (gi hlio (gi hlr (gi hne (gi hx hnb)))))) ?_ o83|apply gy<;>intro hh
        all_goals try (exfalso;grind)
        all_goals
         have h18':Bk p x size=false\/(x.op=18/\inM=false)->False:=fun h=>h.elim (by rw[hnb];simp) h18
         have hfin:(((S1.set l (Ce LO)).set r (.cells (List.take q (List.map dI s1)++dI size::List.drop (q+1) (List.map dI s1)))) l=some (Ce LO)) /\
           (fun S'=>(S' l=some LO/\S' r=some (.cells ((s1.set q size).map dI))/\(s1.set q size).length=p.nodes.length/\Keep (· = r) Sd S')/\Keep (· = r) S1 S') (((S1.set l (Ce LO)).set r (.cells (List.take q (List.map dI s1)++dI size::List.drop (q+1) (List.map dI s1)))).set l LO):=by
          refine⟨by rw[w8 _ _ hlr,w7],⟨w7 ..,?_,by simpa using hs1,fun j o h1 h2 =>?_⟩,fun j o h1 h2 =>?_⟩
          ·rw[w8 _ _ (Ne.symm hlr),w7,List.map_set,List.set_eq_take_append_cons_drop,if_pos (by simpa using hqs)]
          ·rw[w8 _ _ fun e=>by rw[e,hl]at h1;cases h1];exact hKd _ j o h1 h2
          ·by_cases hj:j=l
           ·rw[hj]at h1⊢; rw[w7, <-h1,hl1]
           ·rw[w8 _ _ hj,w8 _ _ h2,w8 _ _ hj];exact h1
         cases hk:K6 x.op with
         | some kk =>
          have hkd:Es x.op=.iface 140 (dI kk):=by unfold Es;rw[hk]
          have hkr:Cs p x=kk:=by unfold Cs;rw[hk]
          rw[hkr]at hS
          refine gf (gi hkd (gi hio1 (gi hr1 (gi hlio (gi hlr (gi hne hx)))))) ?_ o83
          refine WN meth327 (Tc p x kk _) ?_
          repeat' first|refine gz ?_ o83|apply gy<;>intro hh
          ·have h6:=hh
           rw[hS,if_neg (fun h=>h.elim (fun h=>h h6) h18')]
           exact⟨hfin.1,rfl,hfin.2⟩
          ·have h6:=hh
           rw[hS,if_pos (.inl h6)]
           exact⟨rfl,rfl,hKd _⟩
         | none =>
          by_cases h5:x.op=5
          ·have hkd:Es x.op=.iface 142 (.agg []):=by unfold Es;rw[hk];simp[h5]
           have hnn:0<=x.n/\x.n<p.gens.length:=by simpa[Bk,h5] using hnb
           have hkr:Cs p x=p.gens[x.n.toNat]'(by omega):=by unfold Cs;rw[hk];simp[h5,hnn,List.getD_eq_getElem?_getD,show x.n.toNat<p.gens.length by omega]
           rw[hkr]at hS
           refine gf (gi hkd (gi hio1 (gi hr1 (gi hlio (gi hlr (gi hne hx)))))) ?_ o83
           refine WN meth328 (Tb p x _ hnn.1 hnn.2) ?_
           repeat' first|refine gz ?_ o83|apply gy<;>intro hh
           ·have h6:=hh
            rw[hS,if_neg (fun h=>h.elim (fun h=>h h6) h18')]
            exact⟨hfin.1,rfl,hfin.2⟩
           ·have h6:=hh
            rw[hS,if_pos (.inl h6)]
            exact⟨rfl,rfl,hKd _⟩
          ·have hkd:Es x.op=.niliface:=by unfold Es;rw[hk];simp[h5]
           have hkr:Cs p x = -1:=by unfold Cs;rw[hk];simp[h5]
           rw[hS,if_pos (.inl (by rw[hkr];omega))]
           repeat' first|(exact⟨rfl,rfl,hKd _⟩)|refine gf (gi hkd (gi hio1 (gi hr1 (gi hlio (gi hlr (gi hne hx)))))) ?_ o83|apply gy<;>intro hh
  ·obtain⟨g1,g2,g3,g4⟩:=hG
   refine⟨by rw[w8 _ _ fun e=>by rw[e,ha]at g1;cases g1];exact g1,by rw[w8 _ _ fun e=>by rw[e,ha]at g2;cases g2];exact g2,g3,fun j x h1 h2 =>?_⟩
   have:=g4 j x h1 h2
   rw[w8 _ _ fun e=>by rw[e,ha]at this;cases this];exact this
  ·have hrl:r≠l:=fun e=>by rw[e,hl]at hr;cases hr
   subst e
   rw[w8 _ _ hrl,hr]at ha;cases ha
  ·have hrl:r≠l:=fun e=>by rw[e,hl]at hr;cases hr
   exact⟨w7 .., by rw[w8 _ _ hrl];exact hr,hs,(Keep.refl _ Sd).fresh hl⟩
 ·rw[ho]
  have hrl:r≠l:=fun e=>by rw[e,hl]at hr;cases hr
  have hrd:r≠did:=fun e=>by rw[e,hd]at hr;cases hr
  have hdr:¬did=r:=Ne.symm hrd
  refine gz ?_ o83
  have hk:=((hG.2.2.base hd).del hl).del hd
  refine endM ⟨rfl,⟨by simp[Sig.del,hrd,hrl];exact hG.1,hG.2.1,hk⟩,hk⟩ ?_
  simp only[Sig.del,Ne.symm hld,if_false]
  exact hG.2.2 did _ (w7 ..) hdr
 ·rw[ho]
  have hdr:¬did=r:=fun e=>by rw[<-e,hd]at hr;cases hr
  exact endMP ⟨rfl,(hb.base hd).del hd⟩ (hb did _ (w7 ..) hdr)
end Go.DL
