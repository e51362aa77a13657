/- Part of the proof that the last text ends. -/
import Derived.Test.YtlfimpogphmbdaaGreatM16
import Derived.Test.YtlfimpogphmbdaaGreatM15
set_option linter.all false
namespace Go.DL
open Go.Proofs.Tryz
open Go Go.Proofs
set_option maxHeartbeats 8000000
theorem Vj {α:Type} [DecidableEq α] (s:α) (l:List α):decide (0<=idxG s l 0)=decide (s ∈ l):=by
 rw [Bool.eq_iff_iff];simp only [decide_eq_true_eq];exact Ih s l 0
theorem SO (l:List Int) (s:Int) (o:Own) (V:Sig) (hl:l.length<=1073741824:=by exact sd) :
  DCall prog 89 [.slice (cI l) o,dI s] V (rS (.bool (decide (s ∈ l))) V):=by
 rw [<- Vj];exact Vo l s o V hl
instance (priority:=high) a89m (l:List Int) (s:Int) (o:Own) (V:Sig):Ans 89 [.slice (cI l) o,dI s] V ((l.length<=1073741824)) (.bool (decide (s ∈ l))):=⟨fun hl=>SO l s o V (hl:=hl)⟩
theorem SU (l:List Int) (s:Int) (o:Own) (V:Sig) (hl:l.length<=1073741824:=by exact sd) :
  DCall prog 32 [.slice (cI l) o,dI s] V (rS (.bool (decide (s ∈ l))) V):=by
 rw [<- List.contains_eq_mem];exact VJ l s o V hl
instance (priority:=high) a32m (l:List Int) (s:Int) (o:Own) (V:Sig):Ans 32 [.slice (cI l) o,dI s] V ((l.length<=1073741824)) (.bool (decide (s ∈ l))):=⟨fun hl=>SU l s o V (hl:=hl)⟩
theorem QB (l:List Str) (s:Str) (o:Own) (V:Sig) (hl:l.length<=1073741824:=by exact sd) :
  DCall prog 238 [.slice (cS l) o, .str s] V (rS (.bool (decide (s ∈ l))) V):=by
 have e:decide (0<=idxG s l 0)=decide (s ∈ l):=by rw [Bool.eq_iff_iff];simp only [decide_eq_true_eq];exact Ih s l 0
 rw [<- e];exact Ti l s o V hl
instance (priority:=high) a238m (l:List Str) (s:Str) (o:Own) (V:Sig):Ans 238 [.slice (cS l) o, .str s] V ((l.length<=1073741824)) (.bool (decide (s ∈ l))):=⟨fun hl=>QB l s o V (hl:=hl)⟩
theorem QJ (l:List Str) (s:Str) (o:Own) (V:Sig) (hl:l.length<=1073741824:=by exact sd) :
  DCall prog 204 [.slice (cS l) o, .str s] V (rS (.bool (decide (s ∈ l))) V):=by
 have e:decide (0<=idxG s l 0)=decide (s ∈ l):=by rw [Bool.eq_iff_iff];simp only [decide_eq_true_eq];exact Ih s l 0
 rw [<- e];exact Tw l s o V hl
instance (priority:=high) a204m (l:List Str) (s:Str) (o:Own) (V:Sig):Ans 204 [.slice (cS l) o, .str s] V ((l.length<=1073741824)) (.bool (decide (s ∈ l))):=⟨fun hl=>QJ l s o V (hl:=hl)⟩
theorem Tn (l:List Int) (n:Int) (o:Own) (V:Sig) (hl:l.length<=1073741824:=by exact sd) :
  DCall prog 222 [.slice (cI l) o,dI n] V fun x S'=>x = .ret (sl (cI (l.filter fun x => !decide (x=n))))/\S'=V:=by
 refine en func222 ntmps222 ?_
 refine gz ?_
 refine Bo 5 1 (fun i hi => ?_)
 refine AQ [0,1,4,26] (fun (k:Nat) (out:List Int)=>k<=l.length/\out.length<=k/\out++(l.drop k).filter (fun x => !decide (x=n))=l.filter (fun x => !decide (x=n))) (fun k out=>[(6,dI k),(5, .slice (cI out) (.tag i))]) (fun _ out=>V.set i (.tail 1 out.length)) (fun k _=>l.length-k) (0) ([]) (by simp) (fun k out hI => ?_)
 obtain ⟨hk,hlen,hR⟩:=hI
 by_cases h:k < l.length
 ·rw [A3 h,List.filter_cons] at hR
  repeat' first | refine gz ?_ | apply gy<;>intro hh
  ·exact ⟨k+1,out++[l[k]],by refine ⟨by omega,by simp;omega, ?_⟩;rw [<- hR];simp [hh],td1,wkR⟩
  ·exact ⟨k+1,out,by refine ⟨by omega,by omega, ?_⟩;rw [<- hR];simp [hh],td1,wkR⟩
 ·rw [A2 h] at hR
  simp at hR
  refine gz ?_
  exact finS (S':=V) (es:=cI out) ⟨by rw [hR],rfl⟩
@[reducible,instance] def a222:=fun l n o V=>ah1 (@Tn l n o V)
theorem Tm (l:List (List Int)) (c:Int) (o:Own) (V:Sig) (hl:l.length<=1073741824:=by exact sd) (hl2 : ∀ x ∈ l,x.length<=1073741824:=by exact sd) :
  DCall prog 223 [.slice (cII l) o,dI c] V fun x S'=>x = .ret (.bool (l.all fun x => !decide (c ∈ x.tail)))/\S'=V:=by
 refine en func223 ntmps223 ?_
 refine gz ?_
 refine Bz [0,1] (fun (k:Nat)=>k<=l.length/\l.all (fun x => !decide (c ∈ x.tail))=(l.drop k).all (fun x => !decide (c ∈ x.tail))) (fun k=>[(5,dI k)]) (fun _=>V) (fun k=>l.length-k) (0) (by simp) (fun k hI => ?_)
 obtain ⟨hk,hR⟩:=hI
 by_cases h:k < l.length
 ·have hx:=hl2 _ (List.getElem_mem h)
  rw [A3 h,List.all_cons] at hR
  by_cases h0:l[k].length=0
  ·have he:l[k]=[]:=List.length_eq_zero_iff.1 h0
   refine gz ?_
   exact ⟨k+1,⟨by omega,by rw [hR,he];simp⟩,td1,wkR⟩
  ·repeat' first | refine gz ?_ | apply gy<;>intro hh
   ·exact fe1 hR
   ·exact ⟨k+1,⟨by omega,by rw [hR];simp_all⟩,td1,wkR⟩
 ·rw [A2 h] at hR
  refine gz ?_
  exact fe1 hR
@[reducible,instance] def a223:=fun l c o V=>ah2 (@Tm l c o V)
def DH (i:Nat):List Int->List Int->Bool
 | _,[]=>true
 | seen,p::r=>(decide (3<=p/\p < 3+i) && !decide (p ∈ seen)) && DH i (seen++[p]) r
def Gx (i:Nat) (l:List Int):Bool:=decide (l.length<=3) && DH i [] l
def Cw:Nat->List (List Int)->Bool
 | _,[]=>true
 | i,l::r=>Gx i l && Cw (i+1) r
def Ck (g:List (List Int)):Bool:=decide (g.length<=16) && Cw 0 g
theorem AP {α:Type} {l:List α} {k:Nat} (h:k < l.length):l.take (k+1)=l.take k++[l[k]]:=by rw [List.take_succ_eq_append_getElem h]
theorem TB (g:List (List Int)) (o:Own) (V:Sig) (hl:g.length<=1073741824:=by exact sd) (hl2 : ∀ x ∈ g,x.length<=1073741824:=by exact sd) :
  DCall prog 199 [.slice (cII g) o] V (rS (.bool (Ck g)) V):=by
 refine en func199 ntmps199 ?_
 by_cases h16:16 < g.length
 ·refine gz ?_
  (refine fin1 (S':=V) ?_;exact ⟨by first | rfl | (simp [Ck];done) | (simp_all [Ck];done) | (rw [Aa,Bool.eq_iff_iff];simp_all [Ck]<;>omega),rfl⟩)
 refine gz ?_
 refine Bz [10,11] (fun (k:Nat)=>k<=g.length/\Ck g=Cw k (g.drop k)) (fun k=>[(12,dI k)]) (fun _=>V) (fun k=>g.length-k) (0) (by exact ⟨by omega,by simp [Ck];omega⟩) (fun k hI => ?_)
 obtain ⟨hk,hR⟩:=hI
 by_cases h:k < g.length
 ·have hx:=hl2 _ (List.getElem_mem h)
  rw [A3 h,Cw,Gx] at hR
  by_cases h3:3 < g[k].length
  ·refine gz ?_
   exact fe1 hR
  ·have h3':decide (g[k].length<=3)=true:=by simp;omega
   rw [h3',Bool.true_and] at hR
   refine gz ?_
   refine Bz [3,4,10,11,12,13,14,15,16,17,18,19,20,21,43] (fun (q:Nat)=>q<=g[k].length/\Ck g=(DH k (g[k].take q) (g[k].drop q) && Cw (k+1) (g.drop (k+1)))) (fun q=>[(22,dI q)]) (fun _=>V) (fun q=>g[k].length-q) (0) (by exact ⟨by omega,by simpa using hR⟩) (fun q hI => ?_)
   obtain ⟨hq,hR2⟩:=hI
   by_cases h':q < g[k].length
   ·rw [A3 h',DH, <- AP h'] at hR2
    repeat' first | refine gz ?_ | apply gy<;>intro hh
    ·have hn : ¬(3<=g[k][q]/\g[k][q] < 3+(k:Int)):=by omega
     rw [decide_eq_false hn] at hR2
     exact fe1 hR2
    ·have hn : ¬(3<=g[k][q]/\g[k][q] < 3+(k:Int)):=by omega
     rw [decide_eq_false hn] at hR2
     exact fe1 hR2
    ·exact fe1 hR2
    ·exact ⟨q+1,⟨by omega,by rw [hR2];simp_all⟩,td1,wkR⟩
   ·rw [A2 h',DH] at hR2
    refine gz ?_
    exact ⟨k+1,⟨by omega,by simpa using hR2⟩,td1,wkR⟩
 ·rw [A2 h,Cw] at hR
  refine gz ?_
  exact fe1 hR
@[reducible,instance] def a199:=fun g o V=>ah2 (@TB g o V)
def kwds:List Str:=[[97,102,116,101,114],[97,110,100],[97,110,121],[97,114,111,117,110,100],[98,101,102,111,114,101],[99,108,97,115,115],[101,108,115,101],[105,102],[105,110],[105,110,116],[105,115],[108,101,116],[109,101,116,104,111,100],[110,101,119],[110,101,120,116],[110,111,110,101],[110,111,116],[111,114],[111,117,116],[115,101,116],[116,104,101,110],[116,114,117,101],[116,117,114,110],[119,104,101,114,101]]
theorem Td (V:Sig):DCall prog 252 [] V (rS (.slice (cS kwds) .clip) V):=by
 refine en func252 ntmps252 ?_
 refine gz ?_
 (refine fin1 (S':=V) ?_;exact ⟨by first | rfl | (simp [kwds,cS];done) | (simp_all [kwds,cS];done) | (rw [Aa,Bool.eq_iff_iff];simp_all [kwds,cS]<;>omega),rfl⟩)
@[reducible,instance] def a252:=fun V=>ah0 (@Td V)
def D6 (b:UInt8):Bool:=decide (97<=b.toNat/\b.toNat<=122)
def AM (s:Str):Bool:=s.all D6 && (decide (1<=s.length/\s.length<=8) && !decide (s ∈ kwds))
theorem Ts (s:Str) (V:Sig) (hl:s.length<=1073741824:=by exact sd):DCall prog 210 [.str s] V (rS (.bool (AM s)) V):=by
 have hkw:kwds.length=24:=rfl
 refine en func210 ntmps210 ?_
 refine gz ?_
 refine Bz [0,20,21,22,23,24,25,26,27,28,29,30,31,32,33] (fun (k:Nat)=>k<=s.length/\s.all D6=(s.drop k).all D6) (fun k=>[(3,dI k)]) (fun _=>V) (fun k=>s.length-k) (0) (by simp) (fun k hI => ?_)
 obtain ⟨hk,hR⟩:=hI
 by_cases h:k < s.length
 ·rw [A3 h,List.all_cons] at hR
  repeat' first | refine gz ?_ | apply gy<;>intro hh
  ·have hn:D6 s[k]=false:=by unfold D6;simp;omega
   rw [hn] at hR
   (refine fin1 (S':=V) ?_;exact ⟨by first | rfl | (simp [AM,hR];done) | (simp_all [AM,hR];done) | (rw [Aa,Bool.eq_iff_iff];simp_all [AM,hR]<;>omega),rfl⟩)
  ·have hn:D6 s[k]=false:=by unfold D6;simp;omega
   rw [hn] at hR
   (refine fin1 (S':=V) ?_;exact ⟨by first | rfl | (simp [AM,hR];done) | (simp_all [AM,hR];done) | (rw [Aa,Bool.eq_iff_iff];simp_all [AM,hR]<;>omega),rfl⟩)
  ·have hn:D6 s[k]=true:=by unfold D6;simp;omega
   exact ⟨k+1,⟨by omega,by rw [hR,hn];rfl⟩,td1,wkR⟩
 ·rw [A2 h] at hR
  repeat' first | refine gz ?_ | apply gy<;>intro hh
  any_goals (first | (refine fin1 (S':=V) ?_;exact ⟨by first | rfl | (simp [AM,hR];done) | (simp_all [AM,hR];done) | (rw [Aa,Bool.eq_iff_iff];simp_all [AM,hR]<;>omega),rfl⟩) | fail)
@[reducible,instance] def a210:=fun s V=>ah1 (@Ts s V)
theorem Pm {α β:Type} (f:α->List β) (w:α->Nat) (h : ∀ x,(f x).length<=w x) : ∀ l:List α,(l.flatMap f).length<=wtL w l
 | []=>by simp [wtL]
 | x::l=>by
  have:=Pm f w h l
  have:=h x
  simp only [List.flatMap_cons,List.length_append,wtL];omega
theorem IM (p:FProg):(p.classes.flatMap (·.slots)).length<=p.wt:=by
 have:=Pm (·.slots) FClass.wt (fun c=>by have:=AZ c.slots;unfold FClass.wt;omega) p.classes
 unfold FProg.wt;omega
theorem U3 (p:FProg) (V:Sig) (hp:p.wt<=1073741824:=by exact sd):DCall prog 123 [.agg (B3 p)] V (rS (sl (cS (p.classes.flatMap (·.slots)))) V):=by
 obtain ⟨p1,p2,p3,p4,p5⟩:=p.wt_le
 have hsl:=IM p
 refine en func123 ntmps123 ?_
 refine gz ?_
 refine Bo 3 1 (fun i hi => ?_)
 refine AQ [1,2,20] (fun (k:Nat) (out:List Str)=>k<=p.classes.length/\out++(p.classes.drop k).flatMap (·.slots)=p.classes.flatMap (·.slots)) (fun k out=>[(4,dI k),(3, .slice (cS out) (.tag i))]) (fun _ out=>V.set i (.tail 1 out.length)) (fun k _=>p.classes.length-k) (0) ([]) (by simp) (fun k out hI => ?_)
 obtain ⟨hk,hR⟩:=hI
 have hlen:=congrArg List.length hR
 by_cases h:k < p.classes.length
 ·rw [A3 h,List.flatMap_cons] at hR hlen
  simp only [List.length_append] at hlen
  have hx:=p5
  refine gz ?_
  exact ⟨k+1,out++(p.classes[k]).slots,⟨by omega,by rw [List.append_assoc];exact hR⟩,td1,wkR⟩
 ·rw [A2 h] at hR
  simp at hR
  refine gz ?_
  exact finS (S':=V) (es:=cS out) ⟨by rw [hR],rfl⟩
@[reducible,instance] def a123:=fun p V=>ah1 (@U3 p V)
theorem E2 {xs bs:List D} (h:WkL xs bs):WkD (.agg xs) (.agg bs):=by
 rintro g v ⟨vs,e,r⟩
 exact ⟨vs,e,h.rep r⟩
def ownersF:List BClass->Nat->List Int
 | [],_=>[]
 | c::r,i=>List.replicate c.slots.length ((i:Int)+3)++ownersF r (i+1)
def DQ (p:BProg):World:=⟨p.classes.map (·.parents),ownersF p.classes 0⟩
theorem TC (l:List (List D)) (o:Own) (V:Sig) :
  DCall prog 198 [.slice l o] V (rS (.slice l .clip) V):=by
 refine en func198 ntmps198 ?_
 refine gz ?_
 exact fe1 trivial
@[reducible,instance] def a198:=fun l o V=>ah0 (@TC l o V)
theorem JG (c:BClass) (V:Sig) (hl:c.parents.length<=1073741824:=by exact sd) :
  DCall prog 117 [.agg (cBClass c)] V (rS (sl (cI c.parents)) V):=by
 refine en func117 ntmps117 ?_
 repeat' first | refine gz ?_ | refine AE (Hd (cI c.parents) .no V (by simpa using hl) (BN _)) ?_ | refine callP (Hd (cI c.parents) .no V (by simpa using hl) (BN _)) ?_ | refine gz ?_ | apply gy<;>intro hh
 exact fe1 trivial
@[reducible,instance] def a117:=fun c V=>ah1 (@JG c V)
theorem U8 (l:List BClass) (V:Sig) (hl:l.length<=1073741824:=by exact sd) (hp : ∀ c ∈ l,c.parents.length<=1073741824:=by exact sd) :
  DCall prog 116 [sl (l.map cBClass), .func (.func 117) [] []] V (rS (sl (cII (l.map (·.parents)))) V):=by
 refine en func116 ntmps116 ?_
 refine gz ?_
 refine Bo 5 1 (fun i hi => ?_)
 refine AQ [1,4,8,9,21,22] (fun (k:Nat) (out:List (List Int))=>k<=l.length/\out.length=k/\out++(l.drop k).map (·.parents)=l.map (·.parents)) (fun k out=>[(10,dI k),(5, .slice (cII out) (.tag i))]) (fun _ out=>V.set i (.tail 1 out.length)) (fun k _=>l.length-k) (0) ([]) (by simp) (fun k out hI => ?_)
 obtain ⟨hk,ho,hR⟩:=hI
 by_cases h:k < l.length
 ·rw [A3 h] at hR
  have hpl:=hp _ (List.getElem_mem h)
  repeat' first | refine AE (JG (l[k]) _ hpl) ?_ | refine callP (JG (l[k]) _ hpl) ?_ | refine gz ?_ | apply gy<;>intro hh
  exact ⟨k+1,out++[(l[k]).parents],⟨by omega,by simp [ho],by rw [List.append_assoc];exact hR⟩,td1,wkR⟩
 ·rw [A2 h] at hR
  simp at hR
  refine gz ?_
  exact finS (S':=V) (es:=cII out) ⟨by rw [hR],rfl⟩ ((Sub.refl _).set hi)
@[reducible,instance] def a116:=fun l V=>ah2 (@U8 l V)
theorem VE (p:BProg) (V:Sig) (hl:p.classes.length<=1073741824:=by exact sd) (hp : ∀ c ∈ p.classes,c.parents.length<=1073741824:=by exact sd) :
  DCall prog 49 [.agg (AC p)] V (rS (sl (cII (p.classes.map (·.parents)))) V):=by
 refine en func49 ntmps49 ?_
 refine gz ?_
 exact fe1 trivial
@[reducible,instance] def a49:=fun p V=>ah2 (@VE p V)
def ownF (p:BProg) (c:Int):Bool:=decide (3<=c) && decide (c < 3+p.classes.length)
mutual
def Fact.cnt:Fact->Int->Int
 | .mk _ _ _ _ _ k,most=>Fact.cnts k most 1
def Fact.cnts:List Fact->Int->Int->Int
 | [],_,n=>n
 | f::l,most,n=>if n<=most then Fact.cnts l most (n+f.cnt (most-n)) else n
end
theorem Fact.cnt_eq (f:Fact) (most:Int):f.cnt most=Fact.cnts f.kids most 1:=by cases f;rw [Fact.cnt];rfl
mutual
theorem Fact.cnt_le : ∀ (f:Fact) (most:Int),1<=f.cnt most/\f.cnt most<=f.size
 | .mk _ _ _ _ _ k,most=>by
  have:=Fact.cnts_le k most 1
  rw [Fact.cnt,Fact.size]
  simp only [Int.natCast_add]
  omega
theorem Fact.cnts_le : ∀ (l:List Fact) (most n:Int),n<=Fact.cnts l most n/\Fact.cnts l most n<=n+Fact.sizes l
 | [],most,n=>by simp [Fact.cnts,Fact.sizes]
 | f::l,most,n=>by
  have h1:=Fact.cnt_le f (most-n)
  have h2:=Fact.cnts_le l most (n+f.cnt (most-n))
  rw [Fact.cnts,Fact.sizes]
  simp only [Int.natCast_add]
  split<;>omega
end
theorem JF (f:Fact) (most:Int) (V:Sig) (hf:f.size<=1073741824:=by exact sd) (h1 : -2147483648<=most:=by exact sd) (h2:most<=1073741824:=by exact sd) :
  DCall prog 133 [.agg (Br f),dI most] V (rS (dI (f.cnt most)) V):=by
 have hsz:=Fact.size_eq f
 have hkl:=Fact.sizes_len f.kids
 have hall:=Fact.cnt_le f most
 have hce:=(Fact.cnt_eq f most).symm
 refine en func133 ntmps133 ?_
 refine gz ?_
 refine AQ [1,2,4,30] (fun (k:Nat) (m:Int)=>k<=f.kids.length/\1<=m/\Fact.cnts (f.kids.drop k) most m=f.cnt most) (fun k m=>[(6,dI k),(5,dI m)]) (fun _ _=>V) (fun k _=>f.kids.length-k) (0) (1) (by exact ⟨by omega,by omega,hce⟩) (fun k m hI => ?_)
 obtain ⟨hk,hm,hR⟩:=hI
 have hmR:=Fact.cnts_le (f.kids.drop k) most m
 by_cases h:k < f.kids.length
 ·rw [A3 h,Fact.cnts] at hR
  have hks:=Fact.kid_size h
  have hkc:=Fact.cnt_le (f.kids[k]) (most-m)
  by_cases hmost:m<=most
  ·rw [if_pos hmost] at hR
   have hmR2:=Fact.cnts_le (f.kids.drop (k+1)) most (m+(f.kids[k]).cnt (most-m))
   repeat' first | refine gz ?_ | refine AE (JF (f.kids[k]) (most-m) V (by omega) (by omega) (by omega)) ?_ | refine callP (JF (f.kids[k]) (most-m) V (by omega) (by omega) (by omega)) ?_ | refine gz ?_ | apply gy<;>intro hh
   exact ⟨k+1,m+(f.kids[k]).cnt (most-m),⟨by omega,by omega,hR⟩,td1,wkR⟩
  ·rw [if_neg hmost] at hR
   refine gz ?_
   exact fe1 hR
 ·rw [A2 h,Fact.cnts] at hR
  refine gz ?_
  exact fe1 hR
termination_by SizeOf.sizeOf f
decreasing_by exact Fact.lt (List.getElem_mem _)
@[reducible,instance] def a133:=fun f most V=>ah3 (@JF f most V)
theorem VC (f:Fact) (V:Sig) (hf:f.size<=1073741824:=by exact sd):DCall prog 54 [.agg (Br f)] V (rS (dI (f.cnt 24)) V):=by
 refine en func54 ntmps54 ?_
 refine gz ?_
 exact fe1 trivial
@[reducible,instance] def a54:=fun f V=>ah1 (@VC f V)
section
variable {V:Sig} {r i j:Nat} {a:D}
def wS (V:Sig) (r i j:Nat) (a:D) (out:List Int):Sig:=((V.set r (.cells [.nils, .nils])).set i (.tail 1 out.length)).set j (.cells [a, .slice (cI out) (.tag i)])
theorem wS_j (out:List Int):wS V r i j a out j=some (.cells [a, .slice (cI out) (.tag i)]):=w7 ..
theorem wS_i (hij:i ≠ j) (out:List Int):wS V r i j a out i=some (.tail 1 out.length):=by unfold wS;rw [w8 _ _ hij,w7]
theorem wS_r (hjr:j ≠ r) (hir:i ≠ r) (out:List Int):wS V r i j a out r=some (.cells [.nils, .nils]):=by unfold wS;rw [w8 _ _ (Ne.symm hjr),w8 _ _ (Ne.symm hir),w7]
theorem wS_next (hij:i ≠ j) (out:List Int) (x:Int):((wS V r i j a out).set i (.tail 1 (out.length+1))).set j (.cells [a, .slice (cI out++[[dI x]]) (.tag i)])=wS V r i j a (out++[x]):=by
 unfold wS
 rw [Sig.set_comm _ _ _ (Ne.symm hij),w9,w9]
 simp [cI]
theorem wS_nil (hij:i ≠ j) {x:DObj}:(((V.set r (.cells [.nils, .nils])).set j x).set i (.tail 1 0)).set j (.cells [a, .slice [] (.tag i)])=wS V r i j a []:=by
 unfold wS
 rw [Sig.set_comm _ _ _ (Ne.symm hij),w9]
 simp [cI]
theorem wS_sub (hr:V r=none) (hi:V i=none) (hj:V j=none) (out:List Int):Sub V (wS V r i j a out):=by unfold wS;exact (((Sub.refl _).set hr).set hi).set hj
end
theorem Vx (p:BProg) (V:Sig) (hl:p.classes.length<=1073741824:=by exact sd) (hp : ∀ c ∈ p.classes,c.parents.length<=1073741824:=by exact sd) (hss : ∀ c ∈ p.classes,c.slots.length<=1073741824:=by exact sd) (ho:(ownersF p.classes 0).length<=1073741824:=by exact sd) :
  DCall prog 70 [.agg (AC p)] V (rS (.agg (HZ (DQ p))) V):=by
 refine en func70 ntmps70 ?_
 refine gz ?_ [] [2,3]
 refine newV (fun r hr => ?_)
 refine gz ?_ [] [2,3]
 refine newV (fun j hj => ?_)
 obtain ⟨hjr,hj⟩:=A4 hj
 refine gz ?_ [] [2,3]
 refine AO j 1 1 (w7 ..) rfl fun i hi => ?_
 obtain ⟨hij,hi⟩:=A4 hi
 obtain ⟨hir,hi⟩:=A4 hi
 simp only [w9,List.set_cons_succ,List.set_cons_zero]
 rw [wS_nil hij]
 have hS:=fun out=>wS_j (V:=V) (r:=r) (i:=i) (j:=j) (a:=sl (cII (p.classes.map (·.parents)))) out
 have hSi:=fun out=>wS_i (V:=V) (r:=r) (a:=sl (cII (p.classes.map (·.parents)))) hij out
 have hSr:=fun out=>wS_r (V:=V) (a:=sl (cII (p.classes.map (·.parents)))) hjr hir out
 have hnx:=fun out x=>wS_next (V:=V) (r:=r) (a:=sl (cII (p.classes.map (·.parents)))) hij out x
 have hne:=fun (s:Sig) (o:DObj)=>w8 s o (Ne.symm hij)
 refine AQ [2,3,10,11,31] (fun (k:Nat) (out:List Int)=>k<=p.classes.length/\out++ownersF (p.classes.drop k) k=ownersF p.classes 0) (fun k _=>[(12,dI k)]) (fun _ out=>wS V r i j (sl (cII (p.classes.map (·.parents)))) out) (fun k _=>p.classes.length-k) (0) ([]) (by simp) (fun k out hI => ?_)
 obtain ⟨hk,hR⟩:=hI
 by_cases h:k < p.classes.length
 ·rw [A3 h,ownersF] at hR
  have hsl:=hss _ (List.getElem_mem h)
  refine gf hS ?_ [] [2,3]
  refine AQ [2,3,4,5,10,11,12,13,14,15,16,17,18,19,30,31] (fun (q:Nat) (out:List Int)=>q<=(p.classes[k]).slots.length/\out++(List.replicate ((p.classes[k]).slots.length-q) ((k:Int)+3)++ownersF (p.classes.drop (k+1)) (k+1))=ownersF p.classes 0) (fun q _=>[(20,dI q)]) (fun _ out=>wS V r i j (sl (cII (p.classes.map (·.parents)))) out) (fun q _=>(p.classes[k]).slots.length-q) (0) (out) (by simpa using hR) (fun q out hI => ?_)
  obtain ⟨hq,hR⟩:=hI
  have hlen:out.length+((p.classes[k]).slots.length-q)<=1073741824:=by
   have:=congrArg List.length hR
   simp only [List.length_append,List.length_replicate] at this
   omega
  by_cases h':q < (p.classes[k]).slots.length
  ·refine gf (gi hS (gi hSi (gi hne hnx))) ?_ [] [2,3]
   exact ⟨q+1,out++[(k:Int)+3],by refine ⟨by omega, ?_⟩;rw [<- hR];obtain ⟨m,hm⟩ : ∃ m,(p.classes[k]).slots.length-q=m+1:=⟨(p.classes[k]).slots.length-q-1,by omega⟩;rw [hm,show (p.classes[k]).slots.length-(q+1)=m by omega,List.replicate_succ];simp,td1,wkR⟩
  ·rw [show (p.classes[k]).slots.length-q=0 by omega] at hR
   refine gf hS ?_ [] [2,3]
   exact ⟨k+1,out,⟨by omega,by simpa using hR⟩,td1,wkR⟩
 ·rw [A2 h,ownersF,List.append_nil] at hR
  refine gf (gi hS hSr) ?_ [] [2,3]
  refine JH Ae (ds:=[.agg [sl (cII (p.classes.map (·.parents))), .slice (cI out) (.tag i)]]) ?_ (E2 (by rw [hR];simp [DQ])) (S':=V) (.set (wS_sub hr hi hj out) hr) ⟨rfl,rfl⟩
  simp [f70]
@[reducible,instance] def a70:=fun p V=>ah4 (@Vx p V)
def Jk {α:Type} [DecidableEq α] (l:List α) (s:List α):List α:=l.foldl (fun s x=>ins x s) s
def hasG (cs:List BClass):Nat->List Int->List Int->List Int
 | 0,_,out=>out
 | n+1,up,out=>match cs[n]? with
  | some c=>if (n:Int)+3 ∈ up then hasG cs n (Jk c.parents up) (out++c.slots) else hasG cs n up out
  | none=>hasG cs n up out
def hasP (p:BProg) (c:Int):List Int:=Fb (hasG p.classes (c-2).toNat [c] [])
theorem Lo (p:BProg):wtL (fun c:BClass=>c.slots.length) p.classes < p.wt:=by
 have : ∀ l:List BClass,wtL (fun c:BClass=>c.slots.length) l<=wtL BClass.wt l:=fun l=>by
  induction l with
  | nil=>exact Nat.le_refl _
  | cons c l ih=>simp only [wtL,BClass.wt];omega
 have:=this p.classes
 unfold BProg.wt;omega
theorem Lp {α:Type} (f:α->Nat) (l:List α) (n:Nat) (h:n < l.length):wtL f (l.take (n+1))=wtL f (l.take n)+f l[n]:=by
 rw [List.take_succ_eq_append_getElem h,Gk];simp [wtL]
theorem Gj {α:Type} (f:α->Nat) (l:List α) (n:Nat):wtL f (l.take n)<=wtL f l:=by
 have:=Gk f (l.take n) (l.drop n)
 rw [List.take_append_drop] at this;omega
theorem Vf {V:Sig} {st:MR} {l:List Int} (h:mOK V 1 st (cI l)):mOK V 1 st (cI (Fb l)):=by
 cases st with
 | none =>
  have:cI l=[]:=h
  have:l=[]:=by simpa [cI] using this
  subst this;rw [show Fb []=[] by simp [Fb]];exact h
 | some x =>
  obtain ⟨h1,h2,h3,h4⟩:=h
  have e:=GQ l
  refine ⟨h1, ?_,by simpa [e] using h3,BN _⟩
  rw [List.length_append,CM (BN _),Lf] at h2 ⊢
  omega
theorem VA (p:BProg) (c:Int) (V:Sig) (hp:p.wt<=1073741824:=by exact sd) (hc:3<=c:=by exact sd) (hc2:c < 3+p.classes.length:=by exact sd):DCall prog 62 [.agg (AC p),dI c] V (rS (sl (cI (hasP p c))) V):=by
 obtain ⟨p1,p2,p3,p4,p5,p6,p7⟩:=p.wt_le
 have ws:=Lo p
 refine en func62 ntmps62 ?_
 refine gz ?_
 refine newSI (fun i hi => ?_)
 refine gz ?_
 refine Qe [2,4,5,45,46,47,48] (fun (n:Nat) (up:List Int) (out:List Int) (st:MR)=>n<=p.classes.length/\out.length+wtL (fun c:BClass=>c.slots.length) (p.classes.take n)<=1073741824/\mOK (V.set i (.map (eSI up))) 1 st (cI out)/\Fb (hasG p.classes n up out)=hasP p c) (fun n _ out st=>[(7,dI (n+2)),(6,mD st out.length)]) (fun _ up out st=>mS (V.set i (.map (eSI up))) st (cI out)) (fun n _ _ _=>n) ((c-2).toNat) ([c]) ([]) (none) (by (refine ⟨by omega, ?_,rfl,rfl⟩;have:=Gj (fun c:BClass=>c.slots.length) p.classes (c-2).toNat;simp;omega)) (fun n up out st hI => ?_)
 obtain ⟨hn,hlen,hm,hR⟩:=hI
 have hT:=fun k (h:k < p.classes.length)=>Lp (fun c:BClass=>c.slots.length) p.classes k h
 obtain ⟨hmY,hmi,hms⟩:=mS_at hm
 rcases n with _ | n
 ·rw [hasG] at hR
  refine gz ?_
  refine Ab (TT out st _ hm (by simp [wtL] at hlen;omega)) (fun d S' hr => ?_) (fun d S' hr=>by cases hr.1)
  obtain ⟨hr1,rfl⟩:=hr
  cases hr1
  have hm':=Vf hm
  rw [<- GQ out]
  rw [hR] at hm' ⊢
  refine mfr 6 ?_ (hm:=hm')
  refine gz ?_
  exact fe1 (d':=sl (cI (hasP p c))) trivial
 ·have h:n < p.classes.length:=by omega
  have hTn:=hT n h
  have hw:=p5 n h
  have hwu:(p.classes[n]).wt=1+(p.classes[n]).parents.length+(p.classes[n]).slots.length+(p.classes[n]).inits.length:=rfl
  rw [hasG,List.getElem?_eq_getElem h] at hR
  by_cases hup:(n:Int)+3 ∈ up
  ·simp only [hup,if_true] at hR
   have e3:(n:Int)+1+2=n+3:=by omega
   have hn3:((n:Int)+1+2-3).toNat=n:=by omega
   refine gf (gi hmi (gi hms (gi hup (gi e3 hn3)))) ?_
   refine mappI (fun st' hm' => ?_)
   obtain ⟨hmY',hmi',hms'⟩:=mS_at hm'
   refine gf (gi hmi' (gi hms' (gi hup (gi e3 hn3)))) ?_
   refine Bz [2,4,5,6,7,14,15,16,17,18,19,20,21,22,23,24,25,26,27,28,29,30,31,32,33,34,35,36,37,45,46,47,48] (fun (k:Nat)=>k<=(p.classes[n]).parents.length) (fun k=>[(38,dI k)]) (fun k=>mS (V.set i (.map (eSI (Jk ((p.classes[n]).parents.take k) up)))) st' (cI (out++(p.classes[n]).slots))) (fun k=>(p.classes[n]).parents.length-k) (0) td3 (fun k hI => ?_)
   by_cases hk:k < (p.classes[n]).parents.length
   ·have hs:Jk ((p.classes[n]).parents.take (k+1)) up=ins (p.classes[n]).parents[k] (Jk ((p.classes[n]).parents.take k) up):=by unfold Jk;rw [List.take_succ_eq_append_getElem hk,List.foldl_append];rfl
    refine gf (gi hmi' hms') ?_
    rw [<- hs]
    exact ⟨k+1,td2,td1,wkR⟩
   ·have hs:(p.classes[n]).parents.take k=(p.classes[n]).parents:=List.take_of_length_le (by omega)
    rw [hs]
    have e2:(n:Int)+3-1=n+2:=by omega
    refine gf (gi e3 e2) ?_
    exact ⟨n,Jk (p.classes[n]).parents up,out++(p.classes[n]).slots,st',⟨by omega,by rw [List.length_append];omega,hmY' _,hR⟩,td1,wkR⟩
  ·simp only [hup,if_false] at hR
   have e3:(n:Int)+1+2=n+3:=by omega
   have e2:(n:Int)+3-1=n+2:=by omega
   refine gf (gi hmi (gi hms (gi hup (gi e3 e2)))) ?_
   exact ⟨n,up,out,st,⟨by omega,by omega,hm,hR⟩,td1,wkR⟩
@[reducible,instance] def a62:=fun p c V=>ah3 (@VA p c V)
def Ft (all:List (List Int)) (c:Int):Bool:=all.all fun x => !decide (c ∈ x.tail)
def Ek (all:List (List Int)):Bool->List (List Int)->Option Int × Bool
 | s,[]=>(none,s)
 | s,[]::r=>Ek all s r
 | _,(x::_)::r=>if Ft all x then (some x,true) else Ek all true r
def En:Nat->List (List Int)->List Int->List Int × Bool
 | 0,_,out=>(out,false)
 | n+1,ls,out=>match Ek ls false ls with
  | (none,s)=>(out, !s)
  | (some c,_)=>En n (ls.map fun l=>l.filter fun x => !decide (x=c)) (out++[c])
def totL:List (List Int)->Nat
 | []=>0
 | l::r=>l.length+totL r
def BJ (ls:List (List Int)):List Int × Bool:=En (totL ls+1) ls []
theorem Lu {l:List Int} : ∀ {ls:List (List Int)},l ∈ ls->l.length<=totL ls
 | x::r,h=>by
  rcases List.mem_cons.1 h with rfl | h
  ·simp [totL]
  ·have:=Lu h;simp only [totL];omega
theorem Ej {all:List (List Int)} {c:Int} {b:Bool} : ∀ {s:Bool} {ls:List (List Int)},Ek all s ls=(some c,b) -> ∃ l ∈ ls,c ∈ l
 | s,[],h=>by simp [Ek] at h
 | s,[]::r,h=>by
  rw [Ek] at h
  obtain ⟨l,h1,h2⟩:=Ej h
  exact ⟨l,by simp [h1],h2⟩
 | s,(x::t)::r,h=>by
  rw [Ek] at h
  by_cases hf:Ft all x=true
  ·rw [if_pos hf] at h
   exact ⟨x::t,by simp,by simp only [Prod.mk.injEq,Option.some.injEq] at h;simp [h.1]⟩
  ·rw [if_neg hf] at h
   obtain ⟨l,h1,h2⟩:=Ej h
   exact ⟨l,by simp [h1],h2⟩
theorem Ro (c:Int) : ∀ ls:List (List Int),totL (ls.map fun l=>l.filter fun x => !decide (x=c))<=totL ls
 | []=>by simp [totL]
 | l::r=>by
  have:=Ro c r
  have:=List.length_filter_le (fun x => !decide (x=c)) l
  simp only [List.map_cons,totL];omega
theorem SH {c:Int} {l:List Int} (h:c ∈ l):(l.filter fun x => !decide (x=c)).length < l.length:=by
 induction l with
 | nil=>simp at h
 | cons x r ih =>
  have:=List.length_filter_le (fun x => !decide (x=c)) r
  by_cases hx:x=c
  ·simp [hx];omega
  ·have hr:c ∈ r:=by rcases List.mem_cons.1 h with rfl | h;exact absurd rfl hx;exact h
   have:=ih hr
   simp [hx];omega
theorem Lv {c:Int} {l:List Int} (hc:c ∈ l) : ∀ {ls:List (List Int)},l ∈ ls->totL (ls.map fun l=>l.filter fun x => !decide (x=c)) < totL ls
 | x::r,h=>by
  simp only [List.map_cons,totL]
  rcases List.mem_cons.1 h with rfl | h
  ·have:=Ro c r;have:=SH hc;omega
  ·have:=Lv hc h
   have:=List.length_filter_le (fun x => !decide (x=c)) x
   omega
theorem TR (l:List (List Int)) (o:Own) (V:Sig) (hn : ∀ x ∈ l, ∀ y ∈ x,0<=y) (hl:l.length<=1073741824:=by exact sd) (ht:totL l<=1073741824:=by exact sd) :
  DCall prog 154 [.slice (cII l) o] V (rS (.tup [sl (cI (BJ l).1), .bool (BJ l).2]) V):=by
 refine en func154 ntmps154 ?_
 refine gz ?_
 refine Bo 4 1 (fun i hi => ?_)
 refine De [] (fun (n:Nat) (ls:List (List Int)) (out:List Int)=>totL ls < n/\out.length+totL ls<=1073741824/\ls.length=l.length/\(∀ x ∈ ls, ∀ y ∈ x,0<=y)/\En n ls out=BJ l) (fun _ ls out=>[(0, .slice (cII ls) .no),(4, .slice (cI out) (.tag i))]) (fun _ _ out=>V.set i (.tail 1 out.length)) (fun n _ _=>n) (totL l+1) (l) ([]) (by exact ⟨by omega,by simpa using ht,rfl,hn,rfl⟩) (fun n ls out hI => ?_)
 obtain ⟨hn0,hlen,hls,hpos,hR⟩:=hI
 have hlx : ∀ x ∈ ls,x.length<=1073741824:=fun x hx=>by have:=Lu hx;omega
 refine gz ?_
 refine De [0,2,3,4,8,9,40,41,42,43,44,45,46,47,48,49,50,51,52,53,54,55,56,57,58,59,60,61,62,63,64] (fun (q:Nat) (cv:Int) (s:Bool)=>q<=ls.length /\ -1<=cv/\(cv < 0->Ek ls false ls=Ek ls s (ls.drop q))/\(0<=cv->Ek ls false ls=(some cv,true))) (fun q cv s=>[(5,dI cv),(6, .bool s),(7,dI q)]) (fun _ _ _=>V.set i (.tail 1 out.length)) (fun q _ _=>ls.length-q) (0) (-1) (false) (by simp) (fun q cv s hI => ?_)
 obtain ⟨hq,hcv,hA,hB⟩:=hI
 have hcc:cv = -1\/0<=cv:=by omega
 rcases hcc with hcv1 | hcv1
 ·subst hcv1
  replace hA:=hA (by omega)
  by_cases h:q < ls.length
  ·have hx:=hlx _ (List.getElem_mem h)
   have hxp:=hpos _ (List.getElem_mem h)
   rw [A3 h] at hA
   rcases hrow:ls[q] with _ | ⟨y,r⟩
   ·rw [hrow,Ek] at hA
    refine gf hrow ?_
    exact ⟨q+1, -1,s,⟨by omega,by omega,fun _=>hA,by omega⟩,td1,wkR⟩
   ·rw [hrow,Ek] at hA
    have hy:0<=y:=hxp y (by simp [hrow])
    repeat' first | refine gf hrow ?_ | apply gy<;>intro hh
    ·rw [if_pos (show Ft ls y=true from hh)] at hA
     exact ⟨q+1,y,true,⟨by omega,by omega,by omega,fun _=>hA⟩,td1,wkR⟩
    ·rw [show Ft ls y=false from hh] at hA
     exact ⟨q+1, -1,true,⟨by omega,by omega,fun _=>hA,by omega⟩,td1,wkR⟩
  ·rw [A2 h,Ek] at hA
   refine gz ?_
   obtain ⟨m,rfl⟩ : ∃ m,n=m+1:=⟨n-1,by omega⟩
   rw [En,hA] at hR
   replace hR:BJ l=(out, !s):=hR.symm
   exact fe2 (d':=sl (cI out)) hR
 ·replace hB:=hB hcv1
  obtain ⟨m,rfl⟩ : ∃ m,n=m+1:=⟨n-1,by omega⟩
  rw [En,hB] at hR
  replace hR:En m (ls.map fun l=>l.filter fun x => !decide (x=cv)) (out++[cv])=BJ l:=hR
  obtain ⟨e,he,hce⟩:=Ej hB
  have hlt:=Lv hce he
  have hpos' : ∀ x ∈ ls.map (fun l=>l.filter fun x => !decide (x=cv)), ∀ y ∈ x,0<=y:=by
   intro x hx y hy
   obtain ⟨z,hz,rfl⟩:=List.mem_map.1 hx
   exact hpos z hz y (List.mem_filter.1 hy).1
  by_cases h:q < ls.length
  all_goals
   refine gz ?_
   refine Bo 8 1 (fun j hj => ?_)
   refine AQ [0,2,3,4,5,6,7,10,11,12,13,14,15,16,17,18,19,20,21,22,23,24,25,26,27,28,29,30,31,32,33,34,35,36,37,38,39,40,41,42,43,44,45,46,47,48,64] (fun (k:Nat) (acc:List (List Int))=>k<=ls.length/\acc=(ls.take k).map fun l=>l.filter fun x => !decide (x=cv)) (fun k acc=>[(9,dI k),(8, .slice (cII acc) (.tag j))]) (fun _ acc=>(V.set i (.tail 1 (out.length+1))).set j (.tail 1 acc.length)) (fun k _=>ls.length-k) (0) ([]) (by simp) (fun k acc hI => ?_)
   obtain ⟨hk,hacc⟩:=hI
   have hal:acc.length=k:=by rw [hacc];simp;omega
   by_cases h':k < ls.length
   ·have hx:=hlx _ (List.getElem_mem h')
    refine gz ?_
    exact ⟨k+1,acc++[(ls[k]).filter fun x => !decide (x=cv)],⟨by omega,by rw [hacc,AP h',List.map_append];rfl⟩,td1,wkR⟩
   ·have hk':k=ls.length:=by omega
    rw [hk',List.take_length] at hacc
    subst hacc
    have hsub:Sub (V.set i (.tail 1 (out++[cv]).length)) ((V.set i (.tail 1 (out.length+1))).set j (.tail 1 (ls.map fun l=>l.filter fun x => !decide (x=cv)).length)):=by rw [List.length_append];exact (Sub.refl _).set (by assumption)
    refine gz ?_
    exact ⟨m,(ls.map fun l=>l.filter fun x => !decide (x=cv)),(out++[cv]),⟨by omega,by rw [List.length_append,List.length_singleton];omega,by simpa using hls,hpos',hR⟩,td1,wkR⟩
def parentsF (g:List (List Int)) (c:Int):List Int:=if c < 3 then [] else (g[(c-3).toNat]?).getD []
def At (orders:List (List Int)) (p:Int):List Int:=(orders[p.toNat]?).getD []
def CC (orders:List (List Int)):List Int->Option (List (List Int))
 | []=>some []
 | p::r=>if (At orders p).length=0 then none else (CC orders r).map ((At orders p).filter (fun x => !decide (x=0)) :: ·)
def BA (orders:List (List Int)) (ps:List Int):Option (List (List Int)):=(CC orders ps).map (· ++ [ps])
theorem TS (g orders:List (List Int)) (c:Int) (o o':Own) (V:Sig) (hl:g.length<=1073741824:=by exact sd) (hc:c < 3+g.length:=by exact sd) (hps:(parentsF g c).length<=1073741824:=by exact sd) (hp : ∀ p ∈ parentsF g c,0<=p/\p < orders.length) (ho:orders.length<=1073741824:=by exact sd) (ho2 : ∀ x ∈ orders,x.length<=1073741824:=by exact sd) :
  DCall prog 153 [.slice (cII g) o, .slice (cII orders) o',dI c] V (rS (.tup [sl (cII ((BA orders (parentsF g c)).getD [])), .bool (BA orders (parentsF g c)).isSome]) V):=by
 have hps':=hps
 refine en func153 ntmps153 ?_
 repeat' first | refine gz ?_ | refine AE (JD g c o V hl hc) ?_ | refine callP (JD g c o V hl hc) ?_ | refine gz ?_ | apply gy<;>intro hh
 have e0:(if c < 3 then [] else (g[(c-3).toNat]?).getD [])=parentsF g c:=rfl
 rw [e0]
 generalize parentsF g c=ps at *
 refine Bo 8 1 (fun i hi => ?_)
 refine AQ [1,9,40,41,42,43] (fun (k:Nat) (out:List (List Int))=>k<=ps.length/\out.length<=k/\CC orders ps=(CC orders (ps.drop k)).map (out ++ ·)) (fun k out=>[(10,dI k),(8, .slice (cII out) (.tag i))]) (fun _ out=>V.set i (.tail 1 out.length)) (fun k _=>ps.length-k) (0) ([]) (by simp) (fun k out hI => ?_)
 obtain ⟨hk,hlen,hR⟩:=hI
 by_cases h:k < ps.length
 ·obtain ⟨hp1,hp2⟩:=hp _ (List.getElem_mem h)
  have hpt:(ps[k]).toNat < orders.length:=by omega
  have hx:=ho2 _ (List.getElem_mem hpt)
  have hat:At orders ps[k]=orders[(ps[k]).toNat]:=by unfold At;simp [hpt]
  rw [A3 h,CC,hat] at hR
  repeat' first | refine gz ?_ | apply gy<;>intro hh
  ·have hn:BA orders ps=none:=by unfold BA;rw [hR];simp_all
   exact fe2 (d':=sl []) hn
  ·exact ⟨k+1,out++[(orders[(ps[k]).toNat]).filter fun x => !decide (x=0)],by refine ⟨by omega,by simp;omega, ?_⟩;rw [hR,if_neg (by simpa using hh),Option.map_map];congr 1;funext z;simp,td1,wkR⟩
 ·rw [A2 h,CC] at hR
  have hn:BA orders ps=some (out++[ps]):=by unfold BA;rw [hR];simp
  refine gz ?_
  exact fe2 (d':=sl (cII (out++[ps]))) hn
def Wx (x:DE):Prop := ∃ n:Int,x = .ret (.agg [.int .u64 n])
theorem Np (s c:Int) (V:Sig) (hc:0<=c:=by exact sd):DCall prog 200 [.agg [.int .u64 s],dI c] V fun x S'=>Wx x/\S'=V:=by
 refine en func200 ntmps200 ?_
 refine JI ?_
 refine Hg ?_
 refine boxV (fun i hi => ?_)
 refine newV (fun j hj => ?_)
 obtain ⟨hji,hj'⟩:=A4 hj
 have hij:i ≠ j:=fun e=>hji e.symm
 refine gf (gi hji (gi hij (PX .u64 .i64 1 c hc))) ?_ o200 [2,4]
 refine finCE (S':=V) (by simp [resL,hij,hji];with_unfolding_all rfl) ⟨⟨_,rfl⟩,rfl⟩ ?_
 exact ((((Sub.refl _).set hi).set hj').set hi).set hj'
theorem TA (s c:Int) (V:Sig):DCall prog 201 [.agg [.int .u64 s], .agg [.int .u64 c]] V fun x S'=>Wx x/\S'=V:=by
 refine en func201 ntmps201 ?_
 refine JI ?_
 refine Hg ?_
 refine boxV (fun i hi => ?_)
 refine gz ?_ [] [2,4]
 refine newV (fun j hj => ?_)
 obtain ⟨hji,hj'⟩:=A4 hj
 have hij:i ≠ j:=fun e=>hji e.symm
 refine gf (gi hji hij) ?_ [] [2,4]
 refine finCE (S':=V) (by simp [resL,hij,hji];with_unfolding_all rfl) ⟨⟨_,rfl⟩,rfl⟩ ?_
 exact ((((Sub.refl _).set hi).set hj').set hi).set hj'
theorem Es (ig im:Nat) (ps os:List (List Int)) (ups:D) (om:List (Int × List Int)) (c:Nat) (o:Own) (V:Sig) (hg:V ig=some (.cells [.slice (cII ps) o,ups, .map im])) (hm:V im=some (.map (eIO om))) (hc:c < ps.length)
  (hl:ps.length<=1073741824) (hpl:(ps[c]).length<=1073741824) (ho : ∀ p ∈ ps[c],getM [] p om=At os p) (hol : ∀ p ∈ ps[c],(At os p).length<=1073741824) :
  DCall prog 246 [.ptr ig 0,dI c] V (rS (.tup [sl (cII ((BA os ps[c]).getD [])), .bool (BA os ps[c]).isSome]) V):=by
 refine en func246 ntmps246 ?_
 refine gf (gi hg hm) ?_
 generalize hps:ps[c]=l at *
 refine Bo 6 1 (fun i hi => ?_)
 have hgi:ig ≠ i:=fun e=>by rw [e,hi] at hg;cases hg
 have hmi:im ≠ i:=fun e=>by rw [e,hi] at hm;cases hm
 refine AQ [0,1,15,16,40,41,42,43,44,45,46,47,48,49] (fun (k:Nat) (out:List (List Int))=>k<=l.length/\out.length<=k/\CC os l=(CC os (l.drop k)).map (out ++ ·)) (fun k out=>[(17,dI k),(6, .slice (cII out) (.tag i))]) (fun _ out=>V.set i (.tail 1 out.length)) (fun k _=>l.length-k) (0) ([]) (by simp) (fun k out hI => ?_)
 obtain ⟨hk,hlen,hR⟩:=hI
 by_cases h:k < l.length
 ·have hat:=ho _ (List.getElem_mem h)
  have hx:=hol _ (List.getElem_mem h)
  rw [A3 h,CC] at hR
  refine gf (gi hg (gi hm (gi hgi hmi))) ?_
  refine lkO ?_ (hi:=by rw [w8 _ _ hmi];exact hm)
  rw [hat]
  repeat' first | refine gf (gi hg (gi hm (gi hgi hmi))) ?_ | apply gy<;>intro hh
  ·have hn:BA os l=none:=by unfold BA;rw [hR];simp_all
   exact fe2 (d':=sl []) hn
  ·refine lkO ?_ (hi:=by rw [w8 _ _ hmi];exact hm)
   rw [hat]
   refine gf (gi hg (gi hm (gi hgi hmi))) ?_
   exact ⟨k+1,out++[(At os l[k]).filter fun x => !decide (x=0)],by refine ⟨by omega,by simp;omega, ?_⟩;rw [hR,if_neg (by simpa using hh),Option.map_map];congr 1;funext z;simp,td1,wkR⟩
 ·rw [A2 h,CC] at hR
  have hn:BA os l=some (out++[l]):=by unfold BA;rw [hR];simp
  refine gf (gi hg (gi hm (gi hgi (gi hmi hps)))) ?_
  exact fe2 (d':=sl (cII (out++[l]))) hn
theorem Fx (l:List (List Int)) (o:Own) (V:Sig) (hl:l.length<=1073741824:=by exact sd) (ht:totL l<=1073741824:=by exact sd) :
  DCall prog 247 [.slice (cII l) o] V (rS (.tup [sl (cI (BJ l).1), .bool (BJ l).2]) V):=by
 refine en func247 ntmps247 ?_
 refine gz ?_ o247
 refine Bo 4 1 (fun i hi => ?_)
 refine De [] (fun (n:Nat) (ls:List (List Int)) (out:List Int)=>totL ls < n/\out.length+totL ls<=1073741824/\ls.length=l.length/\En n ls out=BJ l) (fun _ ls out=>[(0, .slice (cII ls) .no),(4, .slice (cI out) (.tag i))]) (fun _ _ out=>V.set i (.tail 1 out.length)) (fun n _ _=>n) (totL l+1) (l) ([]) (by exact ⟨by omega,by simpa using ht,rfl,rfl⟩) (fun n ls out hI => ?_)
 obtain ⟨hn0,hlen,hls,hR⟩:=hI
 obtain ⟨n,rfl⟩ : ∃ m,n=m+1:=⟨n-1,by omega⟩
 have hlx : ∀ x ∈ ls,x.length<=1073741824:=fun x hx=>by have:=Lu hx;omega
 rw [En] at hR
 refine gz ?_ o247
 refine AQ [2,3,14,15,63,64,65] (fun (q:Nat) (s:Bool)=>q<=ls.length/\Ek ls false ls=Ek ls s (ls.drop q)) (fun q s=>[(5, .bool s),(16,dI q),(0, .slice (cII ls) .no),(4, .slice (cI out) (.tag i))]) (fun _ _=>V.set i (.tail 1 out.length)) (fun q _=>ls.length-q) (0) (false) (by simp) (fun q s hI => ?_)
 obtain ⟨hq,hA⟩:=hI
 by_cases h:q < ls.length
 ·have hx:=hlx _ (List.getElem_mem h)
  rw [A3 h] at hA
  rcases hrow:ls[q] with _ | ⟨y,r⟩
  ·rw [hrow,Ek] at hA
   refine gf hrow ?_ o247
   exact ⟨q+1,s,⟨by omega,hA⟩,td1,wkR⟩
  ·rw [hrow,Ek] at hA
   rw [hrow] at hx
   simp only [List.length_cons] at hx
   refine gf hrow ?_ o247
   refine Bz [0,2,3,4,5,7,10,11,13,14,15,16,17,18,19,20,21,22,23,24,41,42,43,44,45,46,47,48,49,50,51,52,53,54,55,56,57,58,59,60,61,62,63,64,65] (fun (k:Nat)=>k<=ls.length/\Ft (ls.take k) y=true) (fun k=>[(25,dI k)]) (fun _=>V.set i (.tail 1 out.length)) (fun k=>ls.length-k) (0) (by simp [Ft]) (fun k hI => ?_)
   obtain ⟨hk,hF⟩:=hI
   by_cases hk':k < ls.length
   ·have hxk:=hlx _ (List.getElem_mem hk')
    have hstep:Ft (ls.take (k+1)) y=(Ft (ls.take k) y && !decide (y ∈ ls[k].tail)):=by
     unfold Ft;rw [List.take_succ_eq_append_getElem hk',List.all_append];simp
    rcases hrk:ls[k] with _ | ⟨z,t⟩
    ·rw [hrk] at hstep
     refine gf (gi hrk hrow) ?_ o247
     exact ⟨k+1,⟨by omega,by rw [hstep,hF];simp⟩,td1,wkR⟩
    ·rw [hrk] at hstep hxk
     simp only [List.length_cons] at hxk
     repeat' first | refine gf (gi hrk hrow) ?_ o247 | apply gy<;>intro hh
     ·have hnf:Ft ls y=false:=by
       unfold Ft
       rw [List.all_eq_false]
       refine ⟨ls[k],List.getElem_mem hk', ?_⟩
       rw [hrk];simp [hh]
      rw [hnf] at hA
      exact ⟨q+1,true,⟨by omega,by simpa using hA⟩,td1,wkR⟩
     ·exact ⟨k+1,⟨by omega,by rw [hstep,hF];simp [hh]⟩,td1,wkR⟩
   ·have hk2:k=ls.length:=by omega
    rw [hk2,List.take_length] at hF
    rw [hF,if_pos rfl] at hA
    rw [hA] at hR
    replace hR:En n (ls.map fun l=>l.filter fun x => !decide (x=y)) (out++[y])=BJ l:=hR
    obtain ⟨e,he,hce⟩:=Ej hA
    have hlt:=Lv hce he
    refine gf hrow ?_ o247
    refine Bo 11 1 (fun j hj => ?_)
    refine AQ [0,2,3,4,5,7,9,10,14,15,16,17,18,19,20,21,22,23,24,25,26,27,28,29,30,31,32,33,34,35,36,37,38,39,40,41,42,43,44,45,46,47,48,49,61,62,63,64,65] (fun (m:Nat) (acc:List (List Int))=>m<=ls.length/\acc=(ls.take m).map fun l=>l.filter fun x => !decide (x=y)) (fun m acc=>[(50,dI m),(11, .slice (cII acc) (.tag j))]) (fun _ acc=>(V.set i (.tail 1 (out.length+1))).set j (.tail 1 acc.length)) (fun m _=>ls.length-m) (0) ([]) (by simp) (fun m acc hI => ?_)
    obtain ⟨hm,hacc⟩:=hI
    have hal:acc.length=m:=by rw [hacc];simp;omega
    by_cases h':m < ls.length
    ·have hx':=hlx _ (List.getElem_mem h')
     repeat' first | refine gz ?_ | refine AE (Hc (ls[m]) (fun c => !decide (c=y)) 284 [.cptr [dI y] 0] _ _ hx' (fun x _ S' _=>Ni x y S')) ?_ | refine callP (Hc (ls[m]) (fun c => !decide (c=y)) 284 [.cptr [dI y] 0] _ _ hx' (fun x _ S' _=>Ni x y S')) ?_ | refine gz ?_ o247 | apply gy<;>intro hh
     exact ⟨m+1,acc++[(ls[m]).filter fun x => !decide (x=y)],⟨by omega,by rw [hacc,AP h',List.map_append];rfl⟩,td1,wkR⟩
    ·have hm':m=ls.length:=by omega
     rw [hm',List.take_length] at hacc
     subst hacc
     have hsub:Sub (V.set i (.tail 1 (out++[y]).length)) ((V.set i (.tail 1 (out.length+1))).set j (.tail 1 (ls.map fun l=>l.filter fun x => !decide (x=y)).length)):=by rw [List.length_append];exact (Sub.refl _).set (by assumption)
     refine gz ?_ o247
     exact ⟨n,(ls.map fun l=>l.filter fun x => !decide (x=y)),(out++[y]),⟨by omega,by rw [List.length_append,List.length_singleton];omega,by simpa using hls,hR⟩,td1,wkR⟩
 ·rw [A2 h,Ek] at hA
  rw [hA] at hR
  replace hR:BJ l=(out, !s):=hR.symm
  refine gz ?_ o247
  exact fe2 (d':=sl (cI out)) hR
@[reducible,instance] def a247:=fun l o V=>ah2 (@Fx l o V)
theorem H7 : ∀ (n:Nat) (ls:List (List Int)) (out:List Int),(En n ls out).1.length<=out.length+totL ls
 | 0,_,_=>Nat.le_add_right _ _
 | n+1,ls,out=>by
  rw [En]
  cases h:Ek ls false ls with
  | mk a s =>
   cases a with
   | none=>exact Nat.le_add_right _ _
   | some c =>
    obtain ⟨e,he,hce⟩:=Ej h
    have h1:=Lv hce he
    have h2:=H7 n (ls.map fun l=>l.filter fun x => !decide (x=c)) (out++[c])
    rw [List.length_append,List.length_singleton] at h2
    simp only
    omega
theorem E6 (ls:List (List Int)):(BJ ls).1.length<=totL ls:=by
 exact Nat.le_trans (H7 (totL ls+1) ls []) (by simp)
def Bq (os:List (List Int)) (c:Int) (ps:List Int):List Int :=
 match BA os ps with
 | none=>[]
 | some ls=>if (BJ ls).2 then c::(BJ ls).1++[0] else []
theorem Tz (ig im:Nat) (ps os:List (List Int)) (ups:D) (om:List (Int × List Int)) (c:Nat) (o:Own) (V:Sig) (hne:ig ≠ im) (hg:V ig=some (.cells [.slice (cII ps) o,ups, .map im])) (hm:V im=some (.map (eIO om))) (hc:c < ps.length) (hc0:c ≠ 0)
  (hl:ps.length<=1073741824) (hpl:(ps[c]).length<=1073741824) (ho : ∀ p ∈ ps[c],getM [] p om=At os p) (hol : ∀ p ∈ ps[c],(At os p).length<=1073741824) (ht : ∀ ls,BA os ps[c]=some ls->ls.length<=1073741824/\totL ls<=1073741824) :
  DCall prog 202 [.ptr ig 0,dI c] V fun x S'=>x = .ret (.tup [])/\S'=if Bq os c ps[c]=[] then V else V.set im (.map (eIO (putM c (Bq os c ps[c]) om))):=by
 have hc0' : ¬ (c:Int)=0:=by omega
 refine en func202 ntmps202 ?_
 cases hls:BA os ps[c] with
 | none =>
  repeat' first | refine gf (gi hc0' (gi hg (gi hm hls))) ?_ | refine AE (Es ig im ps os ups om c o V hg hm hc hl hpl ho hol) ?_ | refine callP (Es ig im ps os ups om c o V hg hm hc hl hpl ho hol) ?_ | refine gf (gi hc0' (gi hg (gi hm hls))) ?_ o202 | apply gy<;>intro hh
  exact fin0 (S':=V) ⟨rfl,by simp [Bq,hls]⟩
 | some ls =>
  obtain ⟨h1,h2⟩:=ht ls hls
  have hml:(BJ ls).1.length<=totL ls:=E6 ls
  by_cases hm0:(BJ ls).1=[]
  ·repeat' first | refine gf (gi hc0' (gi hg (gi hm hls))) ?_ | refine AE (Es ig im ps os ups om c o V hg hm hc hl hpl ho hol) ?_ | refine callP (Es ig im ps os ups om c o V hg hm hc hl hpl ho hol) ?_ | refine AE (Fx ls .no V h1 h2) ?_ | refine callP (Fx ls .no V h1 h2) ?_ | refine gf (gi hc0' (gi hg (gi hm hls))) ?_ o202 | apply gy<;>intro hh
   refine moApp0 ?_
   repeat' first | refine gz ?_ o202 | apply gy<;>intro hh
   refine RY (fun i hi => ?_)
   have hmi:im ≠ i:=fun h=>by rw [h,hi] at hm;simp at hm
   refine rtl 39 (sl (cI [(c:Int),0])) ?_
   refine gf (gi hm hmi) ?_ o202
   exact fin0 (S':=V.set im (.map (eIO (putM c [(c:Int),0] om)))) ⟨rfl,by rw [Bq,hls];simp [hh,hm0]⟩ (Sub.both ((Sub.refl _).set hi))
   exact fin0 (S':=V) ⟨rfl,by rw [Bq,hls];simp [hh]⟩
  ·repeat' first | refine gf (gi hc0' (gi hg (gi hm hls))) ?_ | refine AE (Es ig im ps os ups om c o V hg hm hc hl hpl ho hol) ?_ | refine callP (Es ig im ps os ups om c o V hg hm hc hl hpl ho hol) ?_ | refine AE (Fx ls .no V h1 h2) ?_ | refine callP (Fx ls .no V h1 h2) ?_ | refine gf (gi hc0' (gi hg (gi hm hls))) ?_ o202 | apply gy<;>intro hh
   refine Wi (fun i hi => ?_)
   have hmi:im ≠ i:=fun h=>by rw [h,hi] at hm;simp at hm
   refine gz ?_ o202
   refine rtl 39 (sl (cI ((c:Int)::(BJ ls).1++[0]))) ?_ (C6 _ (by simp [cI]))
   refine gf (gi hm hmi) ?_ o202
   exact fin0 (S':=V.set im (.map (eIO (putM c ((c:Int)::(BJ ls).1++[0]) om)))) ⟨rfl,by rw [Bq,hls];simp [hh]⟩ (Sub.both ((Sub.refl _).set hi))
   exact fin0 (S':=V) ⟨rfl,by rw [Bq,hls];simp [hh]⟩
end Go.DL
