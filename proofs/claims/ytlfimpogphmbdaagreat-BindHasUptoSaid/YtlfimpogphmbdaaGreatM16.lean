/- Part of a proof in texts M01 on: a layer of pure values over the fenced walk, the walks of the functions, the plain laws. -/
import Derived.Test.YtlfimpogphmbdaaGreatM15
import Derived.Test.YtlfimpogphmbdaaGreatM14
set_option linter.all false
namespace Go.DL
open Go.Proofs.Tryz
open Go Go.Proofs
set_option maxHeartbeats 8000000
theorem TD {α:Type} [DecidableEq α] (s:α) (l:List α):decide (0<=idxG s l 0)=decide (s ∈ l):=by
 rw [Bool.eq_iff_iff];simp only [decide_eq_true_eq];exact L6 s l 0
theorem Ro (l:List Int) (s:Int) (o:Own) (σ:Sig) (hl:l.length<=1073741824:=by exact sd) :
  DCall prog 89 [.slice (cI l) o,dI s] σ fun x σ'=>x = .ret (.bool (decide (s ∈ l)))/\σ'=σ:=by
 rw [<- TD];exact TN l s o σ hl
instance (priority:=high) a89m (l:List Int) (s:Int) (o:Own) (σ:Sig):Ans 89 [.slice (cI l) o,dI s] σ ((l.length<=1073741824)) (.bool (decide (s ∈ l))):=⟨fun hl=>Ro l s o σ (hl:=hl)⟩
theorem Rv (l:List Int) (s:Int) (o:Own) (σ:Sig) (hl:l.length<=1073741824:=by exact sd) :
  DCall prog 32 [.slice (cI l) o,dI s] σ fun x σ'=>x = .ret (.bool (decide (s ∈ l)))/\σ'=σ:=by
 rw [<- List.contains_eq_mem];exact OK l s o σ hl
instance (priority:=high) a32m (l:List Int) (s:Int) (o:Own) (σ:Sig):Ans 32 [.slice (cI l) o,dI s] σ ((l.length<=1073741824)) (.bool (decide (s ∈ l))):=⟨fun hl=>Rv l s o σ (hl:=hl)⟩
theorem PN (l:List Str) (s:Str) (o:Own) (σ:Sig) (hl:l.length<=1073741824:=by exact sd) :
  DCall prog 238 [.slice (cS l) o, .str s] σ fun x σ'=>x = .ret (.bool (decide (s ∈ l)))/\σ'=σ:=by
 have e:decide (0<=idxG s l 0)=decide (s ∈ l):=by rw [Bool.eq_iff_iff];simp only [decide_eq_true_eq];exact L6 s l 0
 rw [<- e];exact RO l s o σ hl
instance (priority:=high) a238m (l:List Str) (s:Str) (o:Own) (σ:Sig):Ans 238 [.slice (cS l) o, .str s] σ ((l.length<=1073741824)) (.bool (decide (s ∈ l))):=⟨fun hl=>PN l s o σ (hl:=hl)⟩
theorem RV (l:List Int) (n:Int) (o:Own) (σ:Sig) (hl:l.length<=1073741824:=by exact sd) :
  DCall prog 222 [.slice (cI l) o,dI n] σ fun x σ'=>x = .ret (sl (cI (l.filter fun x => !decide (x=n))))/\σ'=σ:=by
 refine en func222 ntmps222 ?_
 refine gz ?_
 refine BD 5 1 (fun i hi => ?_)
 refine AJ [0,1,4,26] (fun (k:Nat) (out:List Int)=>k<=l.length/\out.length<=k/\out++(l.drop k).filter (fun x => !decide (x=n))=l.filter (fun x => !decide (x=n))) (fun k out=>[(6,dI k),(5, .slice (cI out) (.tag i))]) (fun _ out=>σ.set i (.tail 1 out.length)) (fun k _=>l.length-k) (0) ([]) (by simp) (fun k out hI => ?_)
 obtain ⟨hk,hlen,hR⟩:=hI
 by_cases h:k < l.length
 ·rw [A2 h,List.filter_cons] at hR
  repeat' first | refine gz ?_ | apply gy<;>intro hh
  ·exact ⟨k+1,out++[l[k]],by refine ⟨by omega,by simp;omega, ?_⟩;rw [<- hR];simp [hh],td1,wkR⟩
  ·exact ⟨k+1,out,by refine ⟨by omega,by omega, ?_⟩;rw [<- hR];simp [hh],td1,wkR⟩
 ·rw [A1 h] at hR
  simp at hR
  refine gz ?_
  exact finS (σ':=σ) (es:=cI out) ⟨by rw [hR],rfl⟩
@[reducible,instance] def a222:=fun l n o σ=>ah1 (@RV l n o σ)
theorem RU (l:List (List Int)) (c:Int) (o:Own) (σ:Sig) (hl:l.length<=1073741824:=by exact sd) (hl2 : ∀ x ∈ l,x.length<=1073741824:=by exact sd) :
  DCall prog 223 [.slice (cII l) o,dI c] σ fun x σ'=>x = .ret (.bool (l.all fun x => !decide (c ∈ x.tail)))/\σ'=σ:=by
 refine en func223 ntmps223 ?_
 refine gz ?_
 refine Bh [0,1] (fun (k:Nat)=>k<=l.length/\l.all (fun x => !decide (c ∈ x.tail))=(l.drop k).all (fun x => !decide (c ∈ x.tail))) (fun k=>[(5,dI k)]) (fun _=>σ) (fun k=>l.length-k) (0) (by simp) (fun k hI => ?_)
 obtain ⟨hk,hR⟩:=hI
 by_cases h:k < l.length
 ·have hx:=hl2 _ (List.getElem_mem h)
  rw [A2 h,List.all_cons] at hR
  by_cases h0:l[k].length=0
  ·have he:l[k]=[]:=List.length_eq_zero_iff.1 h0
   refine gz ?_
   exact ⟨k+1,⟨by omega,by rw [hR,he];simp⟩,td1,wkR⟩
  ·repeat' first | refine gz ?_ | apply gy<;>intro hh
   ·exact fe1 hR
   ·exact ⟨k+1,⟨by omega,by rw [hR];simp_all⟩,td1,wkR⟩
 ·rw [A1 h] at hR
  refine gz ?_
  exact fe1 hR
@[reducible,instance] def a223:=fun l c o σ=>ah2 (@RU l c o σ)
def Dc (i:Nat):List Int->List Int->Bool
 | _,[]=>true
 | seen,p::r=>(decide (3<=p/\p < 3+i) && !decide (p ∈ seen)) && Dc i (seen++[p]) r
def Hr (i:Nat) (l:List Int):Bool:=decide (l.length<=3) && Dc i [] l
def C1:Nat->List (List Int)->Bool
 | _,[]=>true
 | i,l::r=>Hr i l && C1 (i+1) r
def AT (g:List (List Int)):Bool:=decide (g.length<=16) && C1 0 g
theorem AF {α:Type} {l:List α} {k:Nat} (h:k < l.length):l.take (k+1)=l.take k++[l[k]]:=by rw [List.take_succ_eq_append_getElem h]
theorem S2 (g:List (List Int)) (o:Own) (σ:Sig) (hl:g.length<=1073741824:=by exact sd) (hl2 : ∀ x ∈ g,x.length<=1073741824:=by exact sd) :
  DCall prog 199 [.slice (cII g) o] σ fun x σ'=>x = .ret (.bool (AT g))/\σ'=σ:=by
 refine en func199 ntmps199 ?_
 by_cases h16:16 < g.length
 ·refine gz ?_
  (refine fin1 (σ':=σ) ?_;exact ⟨by first | rfl | (simp [AT];done) | (simp_all [AT];done) | (rw [Aa,Bool.eq_iff_iff];simp_all [AT]<;>omega),rfl⟩)
 refine gz ?_
 refine Bh [10,11] (fun (k:Nat)=>k<=g.length/\AT g=C1 k (g.drop k)) (fun k=>[(12,dI k)]) (fun _=>σ) (fun k=>g.length-k) (0) (by exact ⟨by omega,by simp [AT];omega⟩) (fun k hI => ?_)
 obtain ⟨hk,hR⟩:=hI
 by_cases h:k < g.length
 ·have hx:=hl2 _ (List.getElem_mem h)
  rw [A2 h,C1,Hr] at hR
  by_cases h3:3 < g[k].length
  ·refine gz ?_
   exact fe1 hR
  ·have h3':decide (g[k].length<=3)=true:=by simp;omega
   rw [h3',Bool.true_and] at hR
   refine gz ?_
   refine Bh [3,4,10,11,12,13,14,15,16,17,18,19,20,21,43] (fun (q:Nat)=>q<=g[k].length/\AT g=(Dc k (g[k].take q) (g[k].drop q) && C1 (k+1) (g.drop (k+1)))) (fun q=>[(22,dI q)]) (fun _=>σ) (fun q=>g[k].length-q) (0) (by exact ⟨by omega,by simpa using hR⟩) (fun q hI => ?_)
   obtain ⟨hq,hR2⟩:=hI
   by_cases h':q < g[k].length
   ·rw [A2 h',Dc, <- AF h'] at hR2
    repeat' first | refine gz ?_ | apply gy<;>intro hh
    ·have hn : ¬(3<=g[k][q]/\g[k][q] < 3+(k:Int)):=by omega
     rw [decide_eq_false hn] at hR2
     exact fe1 hR2
    ·have hn : ¬(3<=g[k][q]/\g[k][q] < 3+(k:Int)):=by omega
     rw [decide_eq_false hn] at hR2
     exact fe1 hR2
    ·exact fe1 hR2
    ·exact ⟨q+1,⟨by omega,by rw [hR2];simp_all⟩,td1,wkR⟩
   ·rw [A1 h',Dc] at hR2
    refine gz ?_
    exact ⟨k+1,⟨by omega,by simpa using hR2⟩,td1,wkR⟩
 ·rw [A1 h,C1] at hR
  refine gz ?_
  exact fe1 hR
@[reducible,instance] def a199:=fun g o σ=>ah2 (@S2 g o σ)
theorem Sd (g:List (List Int)) (o:Own) (σ:Sig) (hl:g.length<=1073741824:=by exact sd) (hl2 : ∀ x ∈ g,x.length<=1073741824:=by exact sd) :
  DCall prog 175 [.slice (cII g) o] σ fun x σ'=>x = .ret (.bool (AT g))/\σ'=σ:=by
 refine en func175 ntmps175 ?_
 by_cases h16:16 < g.length
 ·refine gz ?_ o175
  (refine fin1 (σ':=σ) ?_;exact ⟨by first | rfl | (simp [AT];done) | (simp_all [AT];done) | (rw [Aa,Bool.eq_iff_iff];simp_all [AT]<;>omega),rfl⟩)
 refine gz ?_ o175
 refine Bh [0] (fun (k:Nat)=>k<=g.length/\AT g=C1 k (g.drop k)) (fun k=>[(3,dI k)]) (fun _=>σ) (fun k=>g.length-k) (0) (by exact ⟨by omega,by simp [AT];omega⟩) (fun k hI => ?_)
 obtain ⟨hk,hR⟩:=hI
 by_cases h:k < g.length
 ·have hx:=hl2 _ (List.getElem_mem h)
  rw [A2 h,C1,Hr] at hR
  by_cases h3:3 < g[k].length
  ·refine gz ?_ o175
   exact fe1 hR
  ·have h3':decide (g[k].length<=3)=true:=by simp;omega
   rw [h3',Bool.true_and] at hR
   refine gz ?_ o175
   refine Bh [0,3,8,9,10,11,12,13,14,15,16,17,18,19] (fun (q:Nat)=>q<=g[k].length/\AT g=(Dc k (g[k].take q) (g[k].drop q) && C1 (k+1) (g.drop (k+1)))) (fun q=>[(4,dI q)]) (fun _=>σ) (fun q=>g[k].length-q) (0) (by exact ⟨by omega,by simpa using hR⟩) (fun q hI => ?_)
   obtain ⟨hq,hR2⟩:=hI
   by_cases h':q < g[k].length
   ·rw [A2 h',Dc, <- AF h'] at hR2
    repeat' first | refine gz ?_ o175 | apply gy<;>intro hh
    ·have hn : ¬(3<=g[k][q]/\g[k][q] < 3+(k:Int)):=by omega
     rw [decide_eq_false hn] at hR2
     exact fe1 hR2
    ·have hn : ¬(3<=g[k][q]/\g[k][q] < 3+(k:Int)):=by omega
     rw [decide_eq_false hn] at hR2
     exact fe1 hR2
    ·exact fe1 hR2
    ·exact ⟨q+1,⟨by omega,by rw [hR2];simp_all⟩,td1,wkR⟩
   ·rw [A1 h',Dc] at hR2
    refine gz ?_ o175
    exact ⟨k+1,⟨by omega,by simpa using hR2⟩,td1,wkR⟩
 ·rw [A1 h,C1] at hR
  refine gz ?_ o175
  exact fe1 hR
def Fm (all:List (List Int)) (c:Int):Bool:=all.all fun x => !decide (c ∈ x.tail)
def Ec (all:List (List Int)):Bool->List (List Int)->Option Int × Bool
 | s,[]=>(none,s)
 | s,[]::r=>Ec all s r
 | _,(x::_)::r=>if Fm all x then (some x,true) else Ec all true r
def Eg:Nat->List (List Int)->List Int->List Int × Bool
 | 0,_,out=>(out,false)
 | n+1,ls,out=>match Ec ls false ls with
  | (none,s)=>(out, !s)
  | (some c,_)=>Eg n (ls.map fun l=>l.filter fun x => !decide (x=c)) (out++[c])
def totL:List (List Int)->Nat
 | []=>0
 | l::r=>l.length+totL r
def By (ls:List (List Int)):List Int × Bool:=Eg (totL ls+1) ls []
theorem KJ {l:List Int} : ∀ {ls:List (List Int)},l ∈ ls->l.length<=totL ls
 | x::r,h=>by
  rcases List.mem_cons.1 h with rfl | h
  ·simp [totL]
  ·have:=KJ h;simp only [totL];omega
theorem Eb {all:List (List Int)} {c:Int} {b:Bool} : ∀ {s:Bool} {ls:List (List Int)},Ec all s ls=(some c,b) -> ∃ l ∈ ls,c ∈ l
 | s,[],h=>by simp [Ec] at h
 | s,[]::r,h=>by
  rw [Ec] at h
  obtain ⟨l,h1,h2⟩:=Eb h
  exact ⟨l,by simp [h1],h2⟩
 | s,(x::t)::r,h=>by
  rw [Ec] at h
  by_cases hf:Fm all x=true
  ·rw [if_pos hf] at h
   exact ⟨x::t,by simp,by simp only [Prod.mk.injEq,Option.some.injEq] at h;simp [h.1]⟩
  ·rw [if_neg hf] at h
   obtain ⟨l,h1,h2⟩:=Eb h
   exact ⟨l,by simp [h1],h2⟩
theorem Qt (c:Int) : ∀ ls:List (List Int),totL (ls.map fun l=>l.filter fun x => !decide (x=c))<=totL ls
 | []=>by simp [totL]
 | l::r=>by
  have:=Qt c r
  have:=List.length_filter_le (fun x => !decide (x=c)) l
  simp only [List.map_cons,totL];omega
theorem Rj {c:Int} {l:List Int} (h:c ∈ l):(l.filter fun x => !decide (x=c)).length < l.length:=by
 induction l with
 | nil=>simp at h
 | cons x r ih =>
  have:=List.length_filter_le (fun x => !decide (x=c)) r
  by_cases hx:x=c
  ·simp [hx];omega
  ·have hr:c ∈ r:=by rcases List.mem_cons.1 h with rfl | h;exact absurd rfl hx;exact h
   have:=ih hr
   simp [hx];omega
theorem KK {c:Int} {l:List Int} (hc:c ∈ l) : ∀ {ls:List (List Int)},l ∈ ls->totL (ls.map fun l=>l.filter fun x => !decide (x=c)) < totL ls
 | x::r,h=>by
  simp only [List.map_cons,totL]
  rcases List.mem_cons.1 h with rfl | h
  ·have:=Qt c r;have:=Rj hc;omega
  ·have:=KK hc h
   have:=List.length_filter_le (fun x => !decide (x=c)) x
   omega
theorem Sm (l:List (List Int)) (o:Own) (σ:Sig) (hn : ∀ x ∈ l, ∀ y ∈ x,0<=y) (hl:l.length<=1073741824:=by exact sd) (ht:totL l<=1073741824:=by exact sd) :
  DCall prog 154 [.slice (cII l) o] σ fun x σ'=>x = .ret (.tup [sl (cI (By l).1), .bool (By l).2])/\σ'=σ:=by
 refine en func154 ntmps154 ?_
 refine gz ?_
 refine BD 4 1 (fun i hi => ?_)
 refine EV [] (fun (n:Nat) (ls:List (List Int)) (out:List Int)=>totL ls < n/\out.length+totL ls<=1073741824/\ls.length=l.length/\(∀ x ∈ ls, ∀ y ∈ x,0<=y)/\Eg n ls out=By l) (fun _ ls out=>[(0, .slice (cII ls) .no),(4, .slice (cI out) (.tag i))]) (fun _ _ out=>σ.set i (.tail 1 out.length)) (fun n _ _=>n) (totL l+1) (l) ([]) (by exact ⟨by omega,by simpa using ht,rfl,hn,rfl⟩) (fun n ls out hI => ?_)
 obtain ⟨hn0,hlen,hls,hpos,hR⟩:=hI
 have hlx : ∀ x ∈ ls,x.length<=1073741824:=fun x hx=>by have:=KJ hx;omega
 refine gz ?_
 refine EV [0,2,3,4,8,9,40,41,42,43,44,45,46,47,48,49,50,51,52,53,54,55,56,57,58,59,60,61,62,63,64] (fun (q:Nat) (cv:Int) (s:Bool)=>q<=ls.length /\ -1<=cv/\(cv < 0->Ec ls false ls=Ec ls s (ls.drop q))/\(0<=cv->Ec ls false ls=(some cv,true))) (fun q cv s=>[(5,dI cv),(6, .bool s),(7,dI q)]) (fun _ _ _=>σ.set i (.tail 1 out.length)) (fun q _ _=>ls.length-q) (0) (-1) (false) (by simp) (fun q cv s hI => ?_)
 obtain ⟨hq,hcv,hA,hB⟩:=hI
 have hcc:cv = -1\/0<=cv:=by omega
 rcases hcc with hcv1 | hcv1
 ·subst hcv1
  replace hA:=hA (by omega)
  by_cases h:q < ls.length
  ·have hx:=hlx _ (List.getElem_mem h)
   have hxp:=hpos _ (List.getElem_mem h)
   rw [A2 h] at hA
   rcases hrow:ls[q] with _ | ⟨y,r⟩
   ·rw [hrow,Ec] at hA
    refine gf hrow ?_
    exact ⟨q+1, -1,s,⟨by omega,by omega,fun _=>hA,by omega⟩,td1,wkR⟩
   ·rw [hrow,Ec] at hA
    have hy:0<=y:=hxp y (by simp [hrow])
    repeat' first | refine gf hrow ?_ | apply gy<;>intro hh
    ·rw [if_pos (show Fm ls y=true from hh)] at hA
     exact ⟨q+1,y,true,⟨by omega,by omega,by omega,fun _=>hA⟩,td1,wkR⟩
    ·rw [show Fm ls y=false from hh] at hA
     exact ⟨q+1, -1,true,⟨by omega,by omega,fun _=>hA,by omega⟩,td1,wkR⟩
  ·rw [A1 h,Ec] at hA
   refine gz ?_
   obtain ⟨m,rfl⟩ : ∃ m,n=m+1:=⟨n-1,by omega⟩
   rw [Eg,hA] at hR
   replace hR:By l=(out, !s):=hR.symm
   exact fe2 (d':=sl (cI out)) hR
 ·replace hB:=hB hcv1
  obtain ⟨m,rfl⟩ : ∃ m,n=m+1:=⟨n-1,by omega⟩
  rw [Eg,hB] at hR
  replace hR:Eg m (ls.map fun l=>l.filter fun x => !decide (x=cv)) (out++[cv])=By l:=hR
  obtain ⟨e,he,hce⟩:=Eb hB
  have hlt:=KK hce he
  have hpos' : ∀ x ∈ ls.map (fun l=>l.filter fun x => !decide (x=cv)), ∀ y ∈ x,0<=y:=by
   intro x hx y hy
   obtain ⟨z,hz,rfl⟩:=List.mem_map.1 hx
   exact hpos z hz y (List.mem_filter.1 hy).1
  by_cases h:q < ls.length
  all_goals
   refine gz ?_
   refine BD 8 1 (fun j hj => ?_)
   refine AJ [0,2,3,4,5,6,7,10,11,12,13,14,15,16,17,18,19,20,21,22,23,24,25,26,27,28,29,30,31,32,33,34,35,36,37,38,39,40,41,42,43,44,45,46,47,48,64] (fun (k:Nat) (acc:List (List Int))=>k<=ls.length/\acc=(ls.take k).map fun l=>l.filter fun x => !decide (x=cv)) (fun k acc=>[(9,dI k),(8, .slice (cII acc) (.tag j))]) (fun _ acc=>(σ.set i (.tail 1 (out.length+1))).set j (.tail 1 acc.length)) (fun k _=>ls.length-k) (0) ([]) (by simp) (fun k acc hI => ?_)
   obtain ⟨hk,hacc⟩:=hI
   have hal:acc.length=k:=by rw [hacc];simp;omega
   by_cases h':k < ls.length
   ·have hx:=hlx _ (List.getElem_mem h')
    refine gz ?_
    exact ⟨k+1,acc++[(ls[k]).filter fun x => !decide (x=cv)],⟨by omega,by rw [hacc,AF h',List.map_append];rfl⟩,td1,wkR⟩
   ·have hk':k=ls.length:=by omega
    rw [hk',List.take_length] at hacc
    subst hacc
    have hsub:Sub (σ.set i (.tail 1 (out++[cv]).length)) ((σ.set i (.tail 1 (out.length+1))).set j (.tail 1 (ls.map fun l=>l.filter fun x => !decide (x=cv)).length)):=by rw [List.length_append];exact (Sub.refl _).set (by assumption)
    refine gz ?_
    exact ⟨m,(ls.map fun l=>l.filter fun x => !decide (x=cv)),(out++[cv]),⟨by omega,by rw [List.length_append,List.length_singleton];omega,by simpa using hls,hpos',hR⟩,td1,wkR⟩
def unf:D := .iface 236 (.agg [])
theorem TT (b:Bool) (σ:Sig):DCall prog 81 [.bool b] σ fun x σ'=>x=(if b then .ret (.tup []) else .panic unf)/\σ'=σ:=by
 refine en func81 ntmps81 ?_
 cases b
 ·refine gz ?_
  refine pan ?_
  exact finP (σ':=σ) ⟨rfl,rfl⟩
 ·refine gz ?_
  exact DM (σ':=σ) ⟨rfl,rfl⟩
@[reducible,instance] def a81:=fun b σ=>gh0 (@TT b σ)
theorem Sr (l:List Str) (o:Own) (σ:Sig) (hl:l.length<=1073741824:=by exact sd) :
  DCall prog 142 [.slice (cS l) o] σ fun x σ'=>x = .ret (sl (cS l))/\σ'=σ:=by
 refine en func142 ntmps142 ?_
 refine gz ?_
 refine isN (fun b hb => ?_)
 repeat' first | refine gz ?_ | apply gy<;>intro hh
 ·exact fe1 (d':=sl []) (hb hh)
 ·by_cases h:l=[]
  ·refine app0 ?_
   refine gz ?_
   exact fe1 (d':=sl []) h
  ·refine appC (fun i hi => ?_) (hne:=by simp [cS,h])
   refine gz ?_
   exact finS (σ':=σ) (es:=cS l) ⟨rfl,rfl⟩ ((Sub.refl _).set hi)
@[reducible,instance] def a142:=fun l o σ=>ah1 (@Sr l o σ)
theorem GP (l:List Int) (q:Int->Bool) (g:Nat) (cap:List D) (o:Own) (σ:Sig) (hl:l.length<=1073741824)
  (hg : ∀ x ∈ l, ∀ σ',Sub σ σ'->DCall prog g ([]++[dI x]++cap) σ' fun r σ''=>r = .ret (.bool (q x))/\σ''=σ') :
  DCall prog 283 [.slice (cI l) o, .func (.func g) [] cap] σ fun x σ'=>x = .ret (sl (cI (l.filter q)))/\σ'=σ:=by
 refine en func283 ntmps283 ?_
 refine gz ?_
 refine BD 5 1 (fun i hi => ?_)
 refine AJ [1,4,8,9,22] (fun (k:Nat) (out:List Int)=>k<=l.length/\out.length<=k/\out++(l.drop k).filter q=l.filter q) (fun k out=>[(10,dI k),(5, .slice (cI out) (.tag i))]) (fun _ out=>σ.set i (.tail 1 out.length)) (fun k _=>l.length-k) (0) ([]) (by simp) (fun k out hI => ?_)
 obtain ⟨hk,hlen,hR⟩:=hI
 by_cases h:k < l.length
 ·rw [A2 h,List.filter_cons] at hR
  repeat' first | refine An (hg (l[k]) (List.getElem_mem h) _ ((Sub.refl _).set hi)) ?_ | refine callP (hg (l[k]) (List.getElem_mem h) _ ((Sub.refl _).set hi)) ?_ | refine gz ?_ | apply gy<;>intro hh
  ·exact ⟨k+1,out++[l[k]],by refine ⟨by omega,by simp;omega, ?_⟩;rw [<- hR];simp [hh],td1,wkR⟩
  ·exact ⟨k+1,out,by refine ⟨by omega,by omega, ?_⟩;rw [<- hR];simp [hh],td1,wkR⟩
 ·rw [A1 h] at hR
  simp at hR
  refine gz ?_
  exact finS (σ':=σ) (es:=cI out) ⟨by rw [hR],rfl⟩
theorem Mk (c:Int) (σ:Sig):DCall prog 305 [dI c] σ fun x σ'=>x = .ret (.bool (!decide (c=0)))/\σ'=σ:=by
 refine en func305 ntmps305 ?_
 refine gz ?_
 exact fe1 trivial
theorem RI (l:List Int) (o:Own) (σ:Sig) (hl:l.length<=1073741824:=by exact sd):DCall prog 282 [.slice (cI l) o] σ fun x σ'=>x = .ret (sl (cI (l.filter fun c => !decide (c=0))))/\σ'=σ:=by
 refine en func282 ntmps282 ?_
 repeat' first | refine gz ?_ | refine An (GP l (fun c => !decide (c=0)) 305 [] o σ hl (fun x _ σ' _=>Mk x σ')) ?_ | refine callP (GP l (fun c => !decide (c=0)) 305 [] o σ hl (fun x _ σ' _=>Mk x σ')) ?_ | refine gz ?_ | apply gy<;>intro hh
 exact fe1 trivial
@[reducible,instance] def a282:=fun l o σ=>ah1 (@RI l o σ)
theorem Mm (c x:Int) (σ:Sig):DCall prog 284 [dI c, .cptr [dI x] 0] σ fun r σ'=>r = .ret (.bool (!decide (c=x)))/\σ'=σ:=by
 refine en func284 ntmps284 ?_
 refine gz ?_
 exact fe1 trivial
theorem RQ (n:Int) (σ:Sig):DCall prog 234 [dI n] σ fun x σ'=>x = .ret (.bool (inB n))/\σ'=σ:=by
 refine en func234 ntmps234 ?_
 repeat' first | refine gz ?_ | apply gy<;>intro hh
 any_goals (first | (refine fin1 (σ':=σ) ?_;exact ⟨by first | rfl | (simp [inB];done) | (simp_all [inB];done) | (rw [Aa,Bool.eq_iff_iff];simp_all [inB]<;>omega),rfl⟩) | fail)
@[reducible,instance] def a234:=fun n σ=>ah0 (@RQ n σ)
theorem RD (f:Fact) (σ:Sig):DCall prog 298 [.agg (Bk f)] σ fun x σ'=>x = .ret (.bool (BF f.op))/\σ'=σ:=by
 refine en func298 ntmps298 ?_
 repeat' first | refine gz ?_ | apply gy<;>intro hh
 any_goals (first | (refine fin1 (σ':=σ) ?_;exact ⟨by first | rfl | (simp [BF];done) | (simp_all [BF];done) | (rw [Aa,Bool.eq_iff_iff];simp_all [BF]<;>omega),rfl⟩) | fail)
@[reducible,instance] def a298:=fun f σ=>ah0 (@RD f σ)
def Bd (op:Int):Nat:=if op=5 then 1 else if op=6\/op=7 then 2 else 0
theorem RE (o:Int) (σ:Sig):DCall prog 297 [dI o] σ fun x σ'=>x = .ret (dI (Bd o))/\σ'=σ:=by
 refine en func297 ntmps297 ?_
 repeat' first | refine gz ?_ | apply gy<;>intro hh
 any_goals (first | (refine fin1 (σ':=σ) ?_;exact ⟨by first | rfl | (simp [Bd];done) | (simp_all [Bd];done) | (rw [Aa,Bool.eq_iff_iff];simp_all [Bd]<;>omega),rfl⟩) | fail)
@[reducible,instance] def a297:=fun o σ=>ah0 (@RE o σ)
theorem Sf (b:Bool) (σ:Sig):DCall prog 173 [.bool b] σ fun x σ'=>x = .ret (dI (if b then 0 else 2))/\σ'=σ:=by
 refine en func173 ntmps173 ?_
 repeat' first | refine gz ?_ | apply gy<;>intro hh
 any_goals (first | exact fe1 trivial | fail)
@[reducible,instance] def a173:=fun b σ=>ah0 (@Sf b σ)
theorem J3 (l:List (List Int)) (c:Int) (o:Own) (σ:Sig) (hl:l.length<=1073741824:=by exact sd) (hc:c < 3+l.length:=by exact sd) :
  DCall prog 221 [.slice (cII l) o,dI c] σ fun x σ'=>x = .ret (sl (cI (if c < 3 then [] else (l[(c-3).toNat]?).getD [])))/\σ'=σ:=by
 refine en func221 ntmps221 ?_
 by_cases h:c < 3
 ·repeat' first | refine gz ?_ | apply gy<;>intro hh
  all_goals first | omega | skip
  exact fe1 (d':=sl []) h
 ·have h2:(c-3).toNat < l.length:=by omega
  repeat' first | refine gz ?_ | apply gy<;>intro hh
  all_goals first | omega | skip
  exact fe1 (gi h h2)
@[reducible,instance] def a221:=fun l c o σ=>ah2 (@J3 l c o σ)
theorem RS (w:World) (c:Int) (σ:Sig) (hl:w.parents.length<=1073741824:=by exact sd) :
  DCall prog 231 [.agg (CE w),dI c] σ fun x σ'=>x = .ret (.bool (decide (0<=c/\c < 3+w.parents.length)))/\σ'=σ:=by
 refine en func231 ntmps231 ?_
 repeat' first | refine gz ?_ | apply gy<;>intro hh
 any_goals (first | exact fe1 trivial | fail)
@[reducible,instance] def a231:=fun w c σ=>ah1 (@RS w c σ)
theorem RR (w:World) (l:List Int) (o:Own) (σ:Sig) (hl:w.owner.length<=1073741824:=by exact sd) (hl2:l.length<=1073741824:=by exact sd) :
  DCall prog 232 [.agg (CE w), .slice (cI l) o] σ fun x σ'=>x = .ret (.bool (l.all (fun s=>decide (0<=s/\s < w.owner.length)) && decide (l.length<=2)))/\σ'=σ:=by
 refine en func232 ntmps232 ?_
 refine gz ?_
 refine Bh [1,2,7,8,23,24,25] (fun (k:Nat)=>k<=l.length/\l.all (fun s=>decide (0<=s/\s < w.owner.length))=(l.drop k).all (fun s=>decide (0<=s/\s < w.owner.length))) (fun k=>[(9,dI k)]) (fun _=>σ) (fun k=>l.length-k) (0) (by simp) (fun k hI => ?_)
 obtain ⟨hk,hR⟩:=hI
 by_cases h:k < l.length
 ·rw [A2 h,List.all_cons] at hR
  repeat' first | refine gz ?_ | apply gy<;>intro hh
  ·exact fe1 hR
  ·exact fe1 hR
  ·exact ⟨k+1,⟨by omega,by rw [hR];simp_all⟩,td1,wkR⟩
 ·rw [A1 h] at hR
  refine gz ?_
  exact fe1 hR
def Jr (op:Int):Option Int :=
 if op=1\/op=2\/op=3\/op=6\/op=18 then some 0 else if op=4\/op=8\/op=17 then some 1 else
 if op=7\/op=9\/op=11\/op=12\/op=13\/op=14\/op=15\/op=16 then some 2 else if op=10 then some 3 else none
def Ca (p:BProg) (x:BNode):Int:=match Jr x.op with
 | some k=>k
 | none=>if x.op=5/\0<=x.n/\x.n < p.gens.length then p.gens.getD x.n.toNat 0 else -1
theorem M6 {p:BProg} {x:BNode} (h:x.op=5):Ca p x=if 0<=x.n/\x.n < p.gens.length then p.gens.getD x.n.toNat 0 else -1:=by simp [Ca,Jr,h]
theorem Sb (p:BProg) (x:BNode) (σ:Sig) (hl:p.gens.length<=1073741824:=by exact sd) :
  DCall prog 181 [.agg (Af p), .agg (Ai x)] σ fun r σ'=>r = .ret (dI (Ca p x))/\σ'=σ:=by
 refine en func181 ntmps181 ?_
 repeat' first | refine gz ?_ | apply gy<;>intro hh
 any_goals (first | (refine fin1 (σ':=σ) ?_;exact ⟨by first | rfl | (simp [Ca,Jr];done) | (simp_all [Ca,Jr];done) | (rw [Aa,Bool.eq_iff_iff];simp_all [Ca,Jr]<;>omega),rfl⟩) | fail)
 all_goals (refine fin1 (σ':=σ) ?_;refine ⟨?_,rfl⟩;rw [M6 (by assumption)])
 all_goals first | (rw [if_neg (by omega)];done) | (rw [if_pos ⟨by assumption,by assumption⟩];simp)
@[reducible,instance] def a181:=fun p x σ=>ah1 (@Sb p x σ)
def Bn (p:BProg) (x:BNode) (size:Int):Bool :=
 if x.op=1 then inB x.n else if x.op=3 then decide (0<=x.n/\x.n < size) else if x.op=4\/x.op=7 then decide (0<=x.n/\x.n < p.slots) else
 if x.op=5 then decide (0<=x.n/\x.n < p.gens.length) else if x.op=6\/x.op=8 then decide (3<=x.n/\x.n < 3+p.classes.length) else decide (x.n=0)
theorem Mu (p:BProg) (x:BNode) (size:Int) (σ:Sig) (hl:p.gens.length<=1073741824:=by exact sd) (hc:p.classes.length<=1073741824:=by exact sd) :
  DCall prog 182 [.agg (Af p), .agg (Ai x),dI size] σ fun r σ'=>r = .ret (.bool (Bn p x size))/\σ'=σ:=by
 refine en func182 ntmps182 ?_
 repeat' first | refine gz ?_ | apply gy<;>intro hh
 any_goals (first | (refine fin1 (σ':=σ) ?_;exact ⟨by first | rfl | (simp [Bn];done) | (simp_all [Bn];done) | (rw [Aa,Bool.eq_iff_iff];simp_all [Bn]<;>omega),rfl⟩) | fail)
@[reducible,instance] def a182:=fun p x size σ=>ah2 (@Mu p x size σ)
theorem TQ (p:BProg) (x:BNode) (size:Int) (σ:Sig) (hl:p.gens.length<=1073741824:=by exact sd) (hc:p.classes.length<=1073741824:=by exact sd) :
  DCall prog 85 [.agg (Af p), .agg (Ai x),dI size] σ fun r σ'=>r = .ret (.bool (Bn p x size))/\σ'=σ:=by
 refine en func85 ntmps85 ?_
 repeat' first | refine gz ?_ | apply gy<;>intro hh
 any_goals (first | (refine fin1 (σ':=σ) ?_;exact ⟨by first | rfl | (simp [Bn];done) | (simp_all [Bn];done) | (rw [Aa,Bool.eq_iff_iff];simp_all [Bn]<;>omega),rfl⟩) | fail)
@[reducible,instance] def a85:=fun p x size σ=>ah2 (@TQ p x size σ)
def E2 (op:Int):D:=match Jr op with
 | some k => .iface 140 (dI k)
 | none=>if op=5 then .iface 142 (.agg []) else .niliface
theorem TP (op:Int) (σ:Sig):DCall prog 86 [dI op] σ fun r σ'=>r = .ret (E2 op)/\σ'=σ:=by
 refine en func86 ntmps86 ?_
 repeat' first | refine gz ?_ | apply gy<;>intro hh
 any_goals (first | (refine fin1 (σ':=σ) ?_;exact ⟨by first | rfl | (simp [E2,Jr];done) | (simp_all [E2,Jr];done) | (rw [Aa,Bool.eq_iff_iff];simp_all [E2,Jr]<;>omega),rfl⟩) | fail)
@[reducible,instance] def a86:=fun op σ=>ah0 (@TP op σ)
def parentsF (g:List (List Int)) (c:Int):List Int:=if c < 3 then [] else (g[(c-3).toNat]?).getD []
def Ar (orders:List (List Int)) (p:Int):List Int:=(orders[p.toNat]?).getD []
def Cv (orders:List (List Int)):List Int->Option (List (List Int))
 | []=>some []
 | p::r=>if (Ar orders p).length=0 then none else (Cv orders r).map ((Ar orders p).filter (fun x => !decide (x=0)) :: ·)
def Bo (orders:List (List Int)) (ps:List Int):Option (List (List Int)):=(Cv orders ps).map (· ++ [ps])
theorem Sn (g orders:List (List Int)) (c:Int) (o o':Own) (σ:Sig) (hl:g.length<=1073741824:=by exact sd) (hc:c < 3+g.length:=by exact sd) (hps:(parentsF g c).length<=1073741824:=by exact sd) (hp : ∀ p ∈ parentsF g c,0<=p/\p < orders.length) (ho:orders.length<=1073741824:=by exact sd) (ho2 : ∀ x ∈ orders,x.length<=1073741824:=by exact sd) :
  DCall prog 153 [.slice (cII g) o, .slice (cII orders) o',dI c] σ fun x σ'=>x = .ret (.tup [sl (cII ((Bo orders (parentsF g c)).getD [])), .bool (Bo orders (parentsF g c)).isSome])/\σ'=σ:=by
 have hps':=hps
 refine en func153 ntmps153 ?_
 repeat' first | refine gz ?_ | refine An (J3 g c o σ hl hc) ?_ | refine callP (J3 g c o σ hl hc) ?_ | refine gz ?_ | apply gy<;>intro hh
 have e0:(if c < 3 then [] else (g[(c-3).toNat]?).getD [])=parentsF g c:=rfl
 rw [e0]
 generalize parentsF g c=ps at *
 refine BD 8 1 (fun i hi => ?_)
 refine AJ [1,9,40,41,42,43] (fun (k:Nat) (out:List (List Int))=>k<=ps.length/\out.length<=k/\Cv orders ps=(Cv orders (ps.drop k)).map (out ++ ·)) (fun k out=>[(10,dI k),(8, .slice (cII out) (.tag i))]) (fun _ out=>σ.set i (.tail 1 out.length)) (fun k _=>ps.length-k) (0) ([]) (by simp) (fun k out hI => ?_)
 obtain ⟨hk,hlen,hR⟩:=hI
 by_cases h:k < ps.length
 ·obtain ⟨hp1,hp2⟩:=hp _ (List.getElem_mem h)
  have hpt:(ps[k]).toNat < orders.length:=by omega
  have hx:=ho2 _ (List.getElem_mem hpt)
  have hat:Ar orders ps[k]=orders[(ps[k]).toNat]:=by unfold Ar;simp [hpt]
  rw [A2 h,Cv,hat] at hR
  repeat' first | refine gz ?_ | apply gy<;>intro hh
  ·have hn:Bo orders ps=none:=by unfold Bo;rw [hR];simp_all
   exact fe2 (d':=sl []) hn
  ·exact ⟨k+1,out++[(orders[(ps[k]).toNat]).filter fun x => !decide (x=0)],by refine ⟨by omega,by simp;omega, ?_⟩;rw [hR,if_neg (by simpa using hh),Option.map_map];congr 1;funext z;simp,td1,wkR⟩
 ·rw [A1 h,Cv] at hR
  have hn:Bo orders ps=some (out++[ps]):=by unfold Bo;rw [hR];simp
  refine gz ?_
  exact fe2 (d':=sl (cII (out++[ps]))) hn
def UQ (x:DE):Prop := ∃ n:Int,x = .ret (.agg [.int .u64 n])
theorem Mt (s c:Int) (σ:Sig) (hc:0<=c:=by exact sd):DCall prog 200 [.agg [.int .u64 s],dI c] σ fun x σ'=>UQ x/\σ'=σ:=by
 refine en func200 ntmps200 ?_
 refine J8 ?_
 refine GW ?_
 refine boxV (fun i hi => ?_)
 refine newV (fun j hj => ?_)
 obtain ⟨hji,hj'⟩:=A8 hj
 have hij:i ≠ j:=fun e=>hji e.symm
 refine gf (gi hji (gi hij (P8 .u64 .i64 1 c hc))) ?_ o200 [2,4]
 refine finCE (σ':=σ) (by simp [resL,hij,hji];with_unfolding_all rfl) ⟨⟨_,rfl⟩,rfl⟩ ?_
 exact ((((Sub.refl _).set hi).set hj').set hi).set hj'
theorem S1 (s c:Int) (σ:Sig):DCall prog 201 [.agg [.int .u64 s], .agg [.int .u64 c]] σ fun x σ'=>UQ x/\σ'=σ:=by
 refine en func201 ntmps201 ?_
 refine J8 ?_
 refine GW ?_
 refine boxV (fun i hi => ?_)
 refine gz ?_ [] [2,4]
 refine newV (fun j hj => ?_)
 obtain ⟨hji,hj'⟩:=A8 hj
 have hij:i ≠ j:=fun e=>hji e.symm
 refine gf (gi hji hij) ?_ [] [2,4]
 refine finCE (σ':=σ) (by simp [resL,hij,hji];with_unfolding_all rfl) ⟨⟨_,rfl⟩,rfl⟩ ?_
 exact ((((Sub.refl _).set hi).set hj').set hi).set hj'
theorem Ei (ig im:Nat) (ps os:List (List Int)) (ups:D) (om:List (Int × List Int)) (c:Nat) (o:Own) (σ:Sig) (hg:σ ig=some (.cells [.slice (cII ps) o,ups, .map im])) (hm:σ im=some (.map (eIO om))) (hc:c < ps.length)
  (hl:ps.length<=1073741824) (hpl:(ps[c]).length<=1073741824) (ho : ∀ p ∈ ps[c],getM [] p om=Ar os p) (hol : ∀ p ∈ ps[c],(Ar os p).length<=1073741824) :
  DCall prog 246 [.ptr ig 0,dI c] σ fun x σ'=>x = .ret (.tup [sl (cII ((Bo os ps[c]).getD [])), .bool (Bo os ps[c]).isSome])/\σ'=σ:=by
 refine en func246 ntmps246 ?_
 refine gf (gi hg hm) ?_
 generalize hps:ps[c]=l at *
 refine BD 6 1 (fun i hi => ?_)
 have hgi:ig ≠ i:=fun e=>by rw [e,hi] at hg;cases hg
 have hmi:im ≠ i:=fun e=>by rw [e,hi] at hm;cases hm
 refine AJ [0,1,15,16,40,41,42,43,44,45,46,47,48,49] (fun (k:Nat) (out:List (List Int))=>k<=l.length/\out.length<=k/\Cv os l=(Cv os (l.drop k)).map (out ++ ·)) (fun k out=>[(17,dI k),(6, .slice (cII out) (.tag i))]) (fun _ out=>σ.set i (.tail 1 out.length)) (fun k _=>l.length-k) (0) ([]) (by simp) (fun k out hI => ?_)
 obtain ⟨hk,hlen,hR⟩:=hI
 by_cases h:k < l.length
 ·have hat:=ho _ (List.getElem_mem h)
  have hx:=hol _ (List.getElem_mem h)
  rw [A2 h,Cv] at hR
  refine gf (gi hg (gi hm (gi hgi hmi))) ?_
  refine lkO ?_ (hi:=by rw [w8 _ _ hmi];exact hm)
  rw [hat]
  repeat' first | refine gf (gi hg (gi hm (gi hgi hmi))) ?_ | apply gy<;>intro hh
  ·have hn:Bo os l=none:=by unfold Bo;rw [hR];simp_all
   exact fe2 (d':=sl []) hn
  ·refine lkO ?_ (hi:=by rw [w8 _ _ hmi];exact hm)
   rw [hat]
   refine gf (gi hg (gi hm (gi hgi hmi))) ?_
   exact ⟨k+1,out++[(Ar os l[k]).filter fun x => !decide (x=0)],by refine ⟨by omega,by simp;omega, ?_⟩;rw [hR,if_neg (by simpa using hh),Option.map_map];congr 1;funext z;simp,td1,wkR⟩
 ·rw [A1 h,Cv] at hR
  have hn:Bo os l=some (out++[l]):=by unfold Bo;rw [hR];simp
  refine gf (gi hg (gi hm (gi hgi (gi hmi hps)))) ?_
  exact fe2 (d':=sl (cII (out++[l]))) hn
theorem Fq (l:List (List Int)) (o:Own) (σ:Sig) (hl:l.length<=1073741824:=by exact sd) (ht:totL l<=1073741824:=by exact sd) :
  DCall prog 247 [.slice (cII l) o] σ fun x σ'=>x = .ret (.tup [sl (cI (By l).1), .bool (By l).2])/\σ'=σ:=by
 refine en func247 ntmps247 ?_
 refine gz ?_ o247
 refine BD 4 1 (fun i hi => ?_)
 refine EV [] (fun (n:Nat) (ls:List (List Int)) (out:List Int)=>totL ls < n/\out.length+totL ls<=1073741824/\ls.length=l.length/\Eg n ls out=By l) (fun _ ls out=>[(0, .slice (cII ls) .no),(4, .slice (cI out) (.tag i))]) (fun _ _ out=>σ.set i (.tail 1 out.length)) (fun n _ _=>n) (totL l+1) (l) ([]) (by exact ⟨by omega,by simpa using ht,rfl,rfl⟩) (fun n ls out hI => ?_)
 obtain ⟨hn0,hlen,hls,hR⟩:=hI
 obtain ⟨n,rfl⟩ : ∃ m,n=m+1:=⟨n-1,by omega⟩
 have hlx : ∀ x ∈ ls,x.length<=1073741824:=fun x hx=>by have:=KJ hx;omega
 rw [Eg] at hR
 refine gz ?_ o247
 refine AJ [2,3,14,15,63,64,65] (fun (q:Nat) (s:Bool)=>q<=ls.length/\Ec ls false ls=Ec ls s (ls.drop q)) (fun q s=>[(5, .bool s),(16,dI q),(0, .slice (cII ls) .no),(4, .slice (cI out) (.tag i))]) (fun _ _=>σ.set i (.tail 1 out.length)) (fun q _=>ls.length-q) (0) (false) (by simp) (fun q s hI => ?_)
 obtain ⟨hq,hA⟩:=hI
 by_cases h:q < ls.length
 ·have hx:=hlx _ (List.getElem_mem h)
  rw [A2 h] at hA
  rcases hrow:ls[q] with _ | ⟨y,r⟩
  ·rw [hrow,Ec] at hA
   refine gf hrow ?_ o247
   exact ⟨q+1,s,⟨by omega,hA⟩,td1,wkR⟩
  ·rw [hrow,Ec] at hA
   rw [hrow] at hx
   simp only [List.length_cons] at hx
   refine gf hrow ?_ o247
   refine Bh [0,2,3,4,5,7,10,11,13,14,15,16,17,18,19,20,21,22,23,24,41,42,43,44,45,46,47,48,49,50,51,52,53,54,55,56,57,58,59,60,61,62,63,64,65] (fun (k:Nat)=>k<=ls.length/\Fm (ls.take k) y=true) (fun k=>[(25,dI k)]) (fun _=>σ.set i (.tail 1 out.length)) (fun k=>ls.length-k) (0) (by simp [Fm]) (fun k hI => ?_)
   obtain ⟨hk,hF⟩:=hI
   by_cases hk':k < ls.length
   ·have hxk:=hlx _ (List.getElem_mem hk')
    have hstep:Fm (ls.take (k+1)) y=(Fm (ls.take k) y && !decide (y ∈ ls[k].tail)):=by
     unfold Fm;rw [List.take_succ_eq_append_getElem hk',List.all_append];simp
    rcases hrk:ls[k] with _ | ⟨z,t⟩
    ·rw [hrk] at hstep
     refine gf (gi hrk hrow) ?_ o247
     exact ⟨k+1,⟨by omega,by rw [hstep,hF];simp⟩,td1,wkR⟩
    ·rw [hrk] at hstep hxk
     simp only [List.length_cons] at hxk
     repeat' first | refine gf (gi hrk hrow) ?_ o247 | apply gy<;>intro hh
     ·have hnf:Fm ls y=false:=by
       unfold Fm
       rw [List.all_eq_false]
       refine ⟨ls[k],List.getElem_mem hk', ?_⟩
       rw [hrk];simp [hh]
      rw [hnf] at hA
      exact ⟨q+1,true,⟨by omega,by simpa using hA⟩,td1,wkR⟩
     ·exact ⟨k+1,⟨by omega,by rw [hstep,hF];simp [hh]⟩,td1,wkR⟩
   ·have hk2:k=ls.length:=by omega
    rw [hk2,List.take_length] at hF
    rw [hF,if_pos rfl] at hA
    rw [hA] at hR
    replace hR:Eg n (ls.map fun l=>l.filter fun x => !decide (x=y)) (out++[y])=By l:=hR
    obtain ⟨e,he,hce⟩:=Eb hA
    have hlt:=KK hce he
    refine gf hrow ?_ o247
    refine BD 11 1 (fun j hj => ?_)
    refine AJ [0,2,3,4,5,7,9,10,14,15,16,17,18,19,20,21,22,23,24,25,26,27,28,29,30,31,32,33,34,35,36,37,38,39,40,41,42,43,44,45,46,47,48,49,61,62,63,64,65] (fun (m:Nat) (acc:List (List Int))=>m<=ls.length/\acc=(ls.take m).map fun l=>l.filter fun x => !decide (x=y)) (fun m acc=>[(50,dI m),(11, .slice (cII acc) (.tag j))]) (fun _ acc=>(σ.set i (.tail 1 (out.length+1))).set j (.tail 1 acc.length)) (fun m _=>ls.length-m) (0) ([]) (by simp) (fun m acc hI => ?_)
    obtain ⟨hm,hacc⟩:=hI
    have hal:acc.length=m:=by rw [hacc];simp;omega
    by_cases h':m < ls.length
    ·have hx':=hlx _ (List.getElem_mem h')
     repeat' first | refine gz ?_ | refine An (GP (ls[m]) (fun c => !decide (c=y)) 284 [.cptr [dI y] 0] _ _ hx' (fun x _ σ' _=>Mm x y σ')) ?_ | refine callP (GP (ls[m]) (fun c => !decide (c=y)) 284 [.cptr [dI y] 0] _ _ hx' (fun x _ σ' _=>Mm x y σ')) ?_ | refine gz ?_ o247 | apply gy<;>intro hh
     exact ⟨m+1,acc++[(ls[m]).filter fun x => !decide (x=y)],⟨by omega,by rw [hacc,AF h',List.map_append];rfl⟩,td1,wkR⟩
    ·have hm':m=ls.length:=by omega
     rw [hm',List.take_length] at hacc
     subst hacc
     have hsub:Sub (σ.set i (.tail 1 (out++[y]).length)) ((σ.set i (.tail 1 (out.length+1))).set j (.tail 1 (ls.map fun l=>l.filter fun x => !decide (x=y)).length)):=by rw [List.length_append];exact (Sub.refl _).set (by assumption)
     refine gz ?_ o247
     exact ⟨n,(ls.map fun l=>l.filter fun x => !decide (x=y)),(out++[y]),⟨by omega,by rw [List.length_append,List.length_singleton];omega,by simpa using hls,hR⟩,td1,wkR⟩
 ·rw [A1 h,Ec] at hA
  rw [hA] at hR
  replace hR:By l=(out, !s):=hR.symm
  refine gz ?_ o247
  exact fe2 (d':=sl (cI out)) hR
@[reducible,instance] def a247:=fun l o σ=>ah2 (@Fq l o σ)
theorem GH : ∀ (n:Nat) (ls:List (List Int)) (out:List Int),(Eg n ls out).1.length<=out.length+totL ls
 | 0,_,_=>Nat.le_add_right _ _
 | n+1,ls,out=>by
  rw [Eg]
  cases h:Ec ls false ls with
  | mk a s =>
   cases a with
   | none=>exact Nat.le_add_right _ _
   | some c =>
    obtain ⟨e,he,hce⟩:=Eb h
    have h1:=KK hce he
    have h2:=GH n (ls.map fun l=>l.filter fun x => !decide (x=c)) (out++[c])
    rw [List.length_append,List.length_singleton] at h2
    simp only
    omega
theorem E1 (ls:List (List Int)):(By ls).1.length<=totL ls:=by
 exact Nat.le_trans (GH (totL ls+1) ls []) (by simp)
def Bj (os:List (List Int)) (c:Int) (ps:List Int):List Int :=
 match Bo os ps with
 | none=>[]
 | some ls=>if (By ls).2 then c::(By ls).1++[0] else []
theorem S0 (ig im:Nat) (ps os:List (List Int)) (ups:D) (om:List (Int × List Int)) (c:Nat) (o:Own) (σ:Sig) (hne:ig ≠ im) (hg:σ ig=some (.cells [.slice (cII ps) o,ups, .map im])) (hm:σ im=some (.map (eIO om))) (hc:c < ps.length) (hc0:c ≠ 0)
  (hl:ps.length<=1073741824) (hpl:(ps[c]).length<=1073741824) (ho : ∀ p ∈ ps[c],getM [] p om=Ar os p) (hol : ∀ p ∈ ps[c],(Ar os p).length<=1073741824) (ht : ∀ ls,Bo os ps[c]=some ls->ls.length<=1073741824/\totL ls<=1073741824) :
  DCall prog 202 [.ptr ig 0,dI c] σ fun x σ'=>x = .ret (.tup [])/\σ'=if Bj os c ps[c]=[] then σ else σ.set im (.map (eIO (putM c (Bj os c ps[c]) om))):=by
 have hc0' : ¬ (c:Int)=0:=by omega
 refine en func202 ntmps202 ?_
 cases hls:Bo os ps[c] with
 | none =>
  repeat' first | refine gf (gi hc0' (gi hg (gi hm hls))) ?_ | refine An (Ei ig im ps os ups om c o σ hg hm hc hl hpl ho hol) ?_ | refine callP (Ei ig im ps os ups om c o σ hg hm hc hl hpl ho hol) ?_ | refine gf (gi hc0' (gi hg (gi hm hls))) ?_ o202 | apply gy<;>intro hh
  exact fin0 (σ':=σ) ⟨rfl,by simp [Bj,hls]⟩
 | some ls =>
  obtain ⟨h1,h2⟩:=ht ls hls
  have hml:(By ls).1.length<=totL ls:=E1 ls
  by_cases hm0:(By ls).1=[]
  ·repeat' first | refine gf (gi hc0' (gi hg (gi hm hls))) ?_ | refine An (Ei ig im ps os ups om c o σ hg hm hc hl hpl ho hol) ?_ | refine callP (Ei ig im ps os ups om c o σ hg hm hc hl hpl ho hol) ?_ | refine An (Fq ls .no σ h1 h2) ?_ | refine callP (Fq ls .no σ h1 h2) ?_ | refine gf (gi hc0' (gi hg (gi hm hls))) ?_ o202 | apply gy<;>intro hh
   refine moApp0 ?_
   repeat' first | refine gz ?_ o202 | apply gy<;>intro hh
   refine QW (fun i hi => ?_)
   have hmi:im ≠ i:=fun h=>by rw [h,hi] at hm;simp at hm
   refine rtl 39 (sl (cI [(c:Int),0])) ?_
   refine gf (gi hm hmi) ?_ o202
   exact fin0 (σ':=σ.set im (.map (eIO (putM c [(c:Int),0] om)))) ⟨rfl,by rw [Bj,hls];simp [hh,hm0]⟩ (Sub.both ((Sub.refl _).set hi))
   exact fin0 (σ':=σ) ⟨rfl,by rw [Bj,hls];simp [hh]⟩
  ·repeat' first | refine gf (gi hc0' (gi hg (gi hm hls))) ?_ | refine An (Ei ig im ps os ups om c o σ hg hm hc hl hpl ho hol) ?_ | refine callP (Ei ig im ps os ups om c o σ hg hm hc hl hpl ho hol) ?_ | refine An (Fq ls .no σ h1 h2) ?_ | refine callP (Fq ls .no σ h1 h2) ?_ | refine gf (gi hc0' (gi hg (gi hm hls))) ?_ o202 | apply gy<;>intro hh
   refine UF (fun i hi => ?_)
   have hmi:im ≠ i:=fun h=>by rw [h,hi] at hm;simp at hm
   refine gz ?_ o202
   refine rtl 39 (sl (cI ((c:Int)::(By ls).1++[0]))) ?_ (Dy _ (by simp [cI]))
   refine gf (gi hm hmi) ?_ o202
   exact fin0 (σ':=σ.set im (.map (eIO (putM c ((c:Int)::(By ls).1++[0]) om)))) ⟨rfl,by rw [Bj,hls];simp [hh]⟩ (Sub.both ((Sub.refl _).set hi))
   exact fin0 (σ':=σ) ⟨rfl,by rw [Bj,hls];simp [hh]⟩
end Go.DL
