/- Part of the proof that the last text ends. -/
import Derived.Test.YtlfimpogphmbdaaGreatM17
import Derived.Test.YtlfimpogphmbdaaGreatM16
set_option linter.all false
namespace Go.DL
open Go.Proofs.Tryz
open Go Go.Proofs
set_option maxHeartbeats 4000000
theorem W3(l:List (List D))(o:Own)(V:Sig):
  DCall prog 65 [.slice l o] V (rS (.slice l .clip) V):=by
 refine en func65 ntmps65 ?_
 refine gz ?_
 exact fe1 trivial
@[reducible,instance] def a65:=fun l o V=>ah0 (@W3 l o V)
theorem UC(l:List (List D))(o:Own)(V:Sig):
  DCall prog 114 [.slice l o] V (rS (.slice l .clip) V):=by
 refine en func114 ntmps114 ?_
 refine gz ?_
 exact fe1 trivial
@[reducible,instance] def a114:=fun l o V=>ah0 (@UC l o V)
theorem UB(l:List (List D))(o:Own)(V:Sig):
  DCall prog 115 [.slice l o] V (rS (.slice l .clip) V):=by
 refine en func115 ntmps115 ?_
 refine gz ?_
 exact fe1 trivial
@[reducible,instance] def a115:=fun l o V=>ah0 (@UB l o V)
theorem U0(l:List (List D))(o:Own)(V:Sig):
  DCall prog 192 [.slice l o] V (rS (.slice l .clip) V):=by
 refine en func192 ntmps192 ?_
 refine gz ?_
 exact fe1 trivial
@[reducible,instance] def a192:=fun l o V=>ah0 (@U0 l o V)
theorem TZ(l:List (List D))(o:Own)(V:Sig):
  DCall prog 194 [.slice l o] V (rS (.slice l .clip) V):=by
 refine en func194 ntmps194 ?_
 refine gz ?_
 exact fe1 trivial
@[reducible,instance] def a194:=fun l o V=>ah0 (@TZ l o V)
theorem TL(l:List (List D))(o:Own)(V:Sig):
  DCall prog 215 [.slice l o] V (rS (.slice l .clip) V):=by
 refine en func215 ntmps215 ?_
 refine gz ?_
 exact fe1 trivial
@[reducible,instance] def a215:=fun l o V=>ah0 (@TL l o V)
theorem Tx(l:List (List D))(o:Own)(V:Sig):
  DCall prog 245 [.slice l o] V (rS (.slice l .clip) V):=by
 refine en func245 ntmps245 ?_
 refine gz ?_
 exact fe1 trivial
@[reducible,instance] def a245:=fun l o V=>ah0 (@Tx l o V)
theorem Ts(l:List (List D))(o:Own)(V:Sig):
  DCall prog 255 [.slice l o] V (rS (.slice l .clip) V):=by
 refine en func255 ntmps255 ?_
 refine gz ?_
 exact fe1 trivial
@[reducible,instance] def a255:=fun l o V=>ah0 (@Ts l o V)
theorem Te(l:List (List D))(o:Own)(V:Sig):
  DCall prog 307 [.slice l o] V (rS (.slice l .clip) V):=by
 refine en func307 ntmps307 ?_
 refine gz ?_
 exact fe1 trivial
@[reducible,instance] def a307:=fun l o V=>ah0 (@Te l o V)
theorem NF(l:List FClass)(h:FClass->Str)(g:Nat)(cap:List D)(o:Own)(V:Sig)(hl:l.length<=1073741824)
  (hg:∀x∈l, ∀S',Sub V S'->DCall prog g ([]++[.agg (cFClass x)]++cap) S' fun r S''=>r=.ret (.str (h x))/\S''=S') :
  DCall prog 102 [.slice (l.map cFClass) o,.func (.func g) [] cap] V (rS (sl (cS (l.map h))) V):=by
 refine en func102 ntmps102 ?_
 refine gz ?_
 refine Bz 5 1 (fun i hi =>?_)
 refine AA [1,4,8,9,21,22] (fun (k:Nat) (out:List Str)=>k<=l.length/\out++(l.drop k).map h=l.map h) (fun k out=>[(10,dI k),(5,.slice (cS out) (.tag i))]) (fun _ out=>V.set i (.tail 1 out.length)) (fun k _=>l.length-k) (0) ([]) (by simp) (fun k out hI =>?_)
 obtain⟨hk,hR⟩:=hI
 have hlen:=congrArg List.length hR
 simp at hlen
 by_cases hh:k<l.length
 ·rw[A0 hh]at hR
  repeat' first|refine Ax (hg (l[k]) (List.getElem_mem hh) _ ((Sub.refl _).set hi)) ?_|refine callP (hg (l[k]) (List.getElem_mem hh) _ ((Sub.refl _).set hi)) ?_|refine gf hh ?_|apply gy<;>intro hh
  exact⟨k+1,out++[h l[k]],⟨by omega,by rw[List.append_assoc];exact hR⟩,td1,wkR⟩
 ·refine gf hh ?_
  rw[A1 hh]at hR
  simp at hR
  exact finS (S':=V) (es:=cS out) ⟨by rw[hR],rfl⟩
theorem UE(l:List FClass)(h:FClass->BClass)(g:Nat)(cap:List D)(o:Own)(V:Sig)(hl:l.length<=1073741824)
  (hg:∀x∈l, ∀S',Sub V S'->DCall prog g ([]++[.agg (cFClass x)]++cap) S' fun r S''=>r=.ret (.agg (Ae (h x)))/\S''=S') :
  DCall prog 105 [.slice (l.map cFClass) o,.func (.func g) [] cap] V (rS (sl ((l.map h).map Ae)) V):=by
 refine en func105 ntmps105 ?_
 refine gz ?_
 refine Bz 5 3 (fun i hi =>?_)
 refine AA [1,4,8,9,21,22] (fun (k:Nat) (out:List BClass)=>k<=l.length/\out++(l.drop k).map h=l.map h) (fun k out=>[(10,dI k),(5,.slice (out.map Ae) (.tag i))]) (fun _ out=>V.set i (.tail 3 out.length)) (fun k _=>l.length-k) (0) ([]) (by simp) (fun k out hI =>?_)
 obtain⟨hk,hR⟩:=hI
 have hlen:=congrArg List.length hR
 simp at hlen
 by_cases hh:k<l.length
 ·rw[A0 hh]at hR
  repeat' first|refine Ax (hg (l[k]) (List.getElem_mem hh) _ ((Sub.refl _).set hi)) ?_|refine callP (hg (l[k]) (List.getElem_mem hh) _ ((Sub.refl _).set hi)) ?_|refine gf hh ?_|apply gy<;>intro hh
  exact⟨k+1,out++[h l[k]],⟨by omega,by rw[List.append_assoc];exact hR⟩,td1,wkR⟩
 ·refine gf hh ?_
  rw[A1 hh]at hR
  simp at hR
  exact finS (S':=V) (es:=out.map Ae) ⟨by rw[hR],rfl⟩
theorem FO(l:List Str)(h:Str->Int)(g:Nat)(cap:List D)(o:Own)(V:Sig)(hl:l.length<=1073741824)
  (hg:∀x∈l, ∀S',Sub V S'->DCall prog g ([]++[.str x]++cap) S' fun r S''=>r=.ret (dI (h x))/\S''=S') :
  DCall prog 107 [.slice (cS l) o,.func (.func g) [] cap] V (rS (sl (cI (l.map h))) V):=by
 refine en func107 ntmps107 ?_
 refine gz ?_
 refine Bz 5 1 (fun i hi =>?_)
 refine AA [1,4,8,9,21,22] (fun (k:Nat) (out:List Int)=>k<=l.length/\out++(l.drop k).map h=l.map h) (fun k out=>[(10,dI k),(5,.slice (cI out) (.tag i))]) (fun _ out=>V.set i (.tail 1 out.length)) (fun k _=>l.length-k) (0) ([]) (by simp) (fun k out hI =>?_)
 obtain⟨hk,hR⟩:=hI
 have hlen:=congrArg List.length hR
 simp at hlen
 by_cases hh:k<l.length
 ·rw[A0 hh]at hR
  repeat' first|refine Ax (hg (l[k]) (List.getElem_mem hh) _ ((Sub.refl _).set hi)) ?_|refine callP (hg (l[k]) (List.getElem_mem hh) _ ((Sub.refl _).set hi)) ?_|refine gf hh ?_|apply gy<;>intro hh
  exact⟨k+1,out++[h l[k]],⟨by omega,by rw[List.append_assoc];exact hR⟩,td1,wkR⟩
 ·refine gf hh ?_
  rw[A1 hh]at hR
  simp at hR
  exact finS (S':=V) (es:=cI out) ⟨by rw[hR],rfl⟩
theorem ND(l:List FInit)(h:FInit->Init)(g:Nat)(cap:List D)(o:Own)(V:Sig)(hl:l.length<=1073741824)
  (hg:∀x∈l, ∀S',Sub V S'->DCall prog g ([]++[.agg (D5 x)]++cap) S' fun r S''=>r=.ret (.agg (F8 (h x)))/\S''=S') :
  DCall prog 110 [.slice (l.map D5) o,.func (.func g) [] cap] V (rS (sl ((l.map h).map F8)) V):=by
 refine en func110 ntmps110 ?_
 refine gz ?_
 refine Bz 5 2 (fun i hi =>?_)
 refine AA [1,4,8,9,21,22] (fun (k:Nat) (out:List Init)=>k<=l.length/\out++(l.drop k).map h=l.map h) (fun k out=>[(10,dI k),(5,.slice (out.map F8) (.tag i))]) (fun _ out=>V.set i (.tail 2 out.length)) (fun k _=>l.length-k) (0) ([]) (by simp) (fun k out hI =>?_)
 obtain⟨hk,hR⟩:=hI
 have hlen:=congrArg List.length hR
 simp at hlen
 by_cases hh:k<l.length
 ·rw[A0 hh]at hR
  repeat' first|refine Ax (hg (l[k]) (List.getElem_mem hh) _ ((Sub.refl _).set hi)) ?_|refine callP (hg (l[k]) (List.getElem_mem hh) _ ((Sub.refl _).set hi)) ?_|refine gf hh ?_|apply gy<;>intro hh
  exact⟨k+1,out++[h l[k]],⟨by omega,by rw[List.append_assoc];exact hR⟩,td1,wkR⟩
 ·refine gf hh ?_
  rw[A1 hh]at hR
  simp at hR
  exact finS (S':=V) (es:=out.map F8) ⟨by rw[hR],rfl⟩
theorem JE(l:List Int)(h:Int->Str)(g:Nat)(cap:List D)(o:Own)(V:Sig)(hl:l.length<=1073741824)
  (hg:∀x∈l, ∀S',Sub V S'->DCall prog g ([]++[dI x]++cap) S' fun r S''=>r=.ret (.str (h x))/\S''=S') :
  DCall prog 137 [.slice (cI l) o,.func (.func g) [] cap] V (rS (sl (cS (l.map h))) V):=by
 refine en func137 ntmps137 ?_
 refine gz ?_
 refine Bz 5 1 (fun i hi =>?_)
 refine AA [1,4,8,9,21,22] (fun (k:Nat) (out:List Str)=>k<=l.length/\out++(l.drop k).map h=l.map h) (fun k out=>[(10,dI k),(5,.slice (cS out) (.tag i))]) (fun _ out=>V.set i (.tail 1 out.length)) (fun k _=>l.length-k) (0) ([]) (by simp) (fun k out hI =>?_)
 obtain⟨hk,hR⟩:=hI
 have hlen:=congrArg List.length hR
 simp at hlen
 by_cases hh:k<l.length
 ·rw[A0 hh]at hR
  repeat' first|refine Ax (hg (l[k]) (List.getElem_mem hh) _ ((Sub.refl _).set hi)) ?_|refine callP (hg (l[k]) (List.getElem_mem hh) _ ((Sub.refl _).set hi)) ?_|refine gf hh ?_|apply gy<;>intro hh
  exact⟨k+1,out++[h l[k]],⟨by omega,by rw[List.append_assoc];exact hR⟩,td1,wkR⟩
 ·refine gf hh ?_
  rw[A1 hh]at hR
  simp at hR
  exact finS (S':=V) (es:=cS out) ⟨by rw[hR],rfl⟩
theorem Uq(l:List Init)(h:Init->FInit)(g:Nat)(cap:List D)(o:Own)(V:Sig)(hl:l.length<=1073741824)
  (hg:∀x∈l, ∀S',Sub V S'->DCall prog g ([]++[.agg (F8 x)]++cap) S' fun r S''=>r=.ret (.agg (D5 (h x)))/\S''=S') :
  DCall prog 140 [.slice (l.map F8) o,.func (.func g) [] cap] V (rS (sl ((l.map h).map D5)) V):=by
 refine en func140 ntmps140 ?_
 refine gz ?_
 refine Bz 5 2 (fun i hi =>?_)
 refine AA [1,4,8,9,21,22] (fun (k:Nat) (out:List FInit)=>k<=l.length/\out++(l.drop k).map h=l.map h) (fun k out=>[(10,dI k),(5,.slice (out.map D5) (.tag i))]) (fun _ out=>V.set i (.tail 2 out.length)) (fun k _=>l.length-k) (0) ([]) (by simp) (fun k out hI =>?_)
 obtain⟨hk,hR⟩:=hI
 have hlen:=congrArg List.length hR
 simp at hlen
 by_cases hh:k<l.length
 ·rw[A0 hh]at hR
  repeat' first|refine Ax (hg (l[k]) (List.getElem_mem hh) _ ((Sub.refl _).set hi)) ?_|refine callP (hg (l[k]) (List.getElem_mem hh) _ ((Sub.refl _).set hi)) ?_|refine gf hh ?_|apply gy<;>intro hh
  exact⟨k+1,out++[h l[k]],⟨by omega,by rw[List.append_assoc];exact hR⟩,td1,wkR⟩
 ·refine gf hh ?_
  rw[A1 hh]at hR
  simp at hR
  exact finS (S':=V) (es:=out.map D5) ⟨by rw[hR],rfl⟩
theorem TJ(l:List Fact)(h:Fact->FFact)(g:Nat)(cap:List D)(o:Own)(V:Sig)(hl:l.length<=1073741824)
  (hg:∀x∈l, ∀S',Sub V S'->DCall prog g ([]++[.agg (Bp x)]++cap) S' fun r S''=>r=.ret (.agg (AM (h x)))/\S''=S') :
  DCall prog 217 [.slice (l.map Bp) o,.func (.func g) [] cap] V (rS (sl ((l.map h).map AM)) V):=by
 refine en func217 ntmps217 ?_
 refine gz ?_
 refine Bz 5 6 (fun i hi =>?_)
 refine AA [1,4,8,9,21,22] (fun (k:Nat) (out:List FFact)=>k<=l.length/\out++(l.drop k).map h=l.map h) (fun k out=>[(10,dI k),(5,.slice (out.map AM) (.tag i))]) (fun _ out=>V.set i (.tail 6 out.length)) (fun k _=>l.length-k) (0) ([]) (by simp) (fun k out hI =>?_)
 obtain⟨hk,hR⟩:=hI
 have hlen:=congrArg List.length hR
 simp at hlen
 by_cases hh:k<l.length
 ·rw[A0 hh]at hR
  repeat' first|refine Ax (hg (l[k]) (List.getElem_mem hh) _ ((Sub.refl _).set hi)) ?_|refine callP (hg (l[k]) (List.getElem_mem hh) _ ((Sub.refl _).set hi)) ?_|refine gf hh ?_|apply gy<;>intro hh
  exact⟨k+1,out++[h l[k]],⟨by omega,by rw[List.append_assoc];exact hR⟩,td1,wkR⟩
 ·refine gf hh ?_
  rw[A1 hh]at hR
  simp at hR
  exact finS (S':=V) (es:=out.map AM) ⟨by rw[hR],rfl⟩
theorem Tp(l:List Str)(s:Str)(o:Own)(V:Sig)(hl:l.length<=1073741824):
  DCall prog 277 [.slice (cS l) o,.str s] V (rS (dI (idxG s l 0)) V):=by
 refine en func277 ntmps277 ?_
 refine gz ?_
 refine B2 [0,1,7] (fun (k:Nat)=>k<=l.length/\idxG s l 0=idxG s (l.drop k) k) (fun k=>[(8,dI k)]) (fun _=>V) (fun k=>l.length-k) (0) td3 (fun k hI =>?_)
 obtain⟨hk,hR⟩:=hI
 by_cases hh:k<l.length
 ·rw[A0 hh,idxG]at hR
  repeat' first|refine gf hh ?_|apply gy<;>intro hh
  ·exact fe1 hR
  ·exact⟨k+1,⟨by omega,by rw[hR,if_neg (Ne.symm (by assumption))]⟩,td1,wkR⟩
 ·refine gf hh ?_
  (refine fin1 (S':=V) ?_;exact⟨by first|rfl|(simp[hR,A1 hh,idxG];done)|(simp_all [hR,A1 hh,idxG];done)|(rw[A7,Bool.eq_iff_iff];simp_all [hR,A1 hh,idxG]<;>omega),rfl⟩)
@[reducible,instance] def a277:=fun l s o V=>ah1 (@Tp l s o V)
theorem Tz(l:List Str)(s:Str)(o:Own)(V:Sig)(hl:l.length<=1073741824):
  DCall prog 238 [.slice (cS l) o,.str s] V (rS (.bool (decide (0<=idxG s l 0))) V):=by
 refine en func238 ntmps238 ?_
 refine gz ?_
 exact fe1 trivial
theorem TR(l:List Str)(s:Str)(o:Own)(V:Sig)(hl:l.length<=1073741824):
  DCall prog 204 [.slice (cS l) o,.str s] V (rS (.bool (decide (0<=idxG s l 0))) V):=by
 refine en func204 ntmps204 ?_
 refine gz ?_
 exact fe1 trivial
theorem Ir{α:Type}[DecidableEq α](s:α): ∀(l:List α) (k:Nat),(0<=idxG s l k) ↔ s∈l
 |[],_=>by simp[idxG]
 | x::r,k=>by
  rw[idxG]
  by_cases h:x=s
  ·simp[h]
  ·rw[if_neg h,Ir s r (k+1)]
   simp[Ne.symm h]
end Go.DL
namespace Go.DL
open Go.Proofs.Tryz
open Go Go.Proofs
set_option maxHeartbeats 8000000
theorem VJ{α:Type}[DecidableEq α](s:α)(l:List α):decide (0<=idxG s l 0)=decide (s∈l):=by
 rw[Bool.eq_iff_iff];simp only[decide_eq_true_eq];exact Ir s l 0
theorem T3(l:List Int)(s:Int)(o:Own)(V:Sig)(hl:l.length<=1073741824:=by exact sd):
  DCall prog 89 [.slice (cI l) o,dI s] V (rS (.bool (decide (s∈l))) V):=by
 rw[<-VJ];exact VT l s o V hl
instance (priority:=high) a89m (l:List Int) (s:Int) (o:Own) (V:Sig):Ans 89 [.slice (cI l) o,dI s] V ((l.length<=1073741824)) (.bool (decide (s∈l))):=⟨fun hl=>T3 l s o V (hl:=hl)⟩
theorem Ta(l:List Int)(s:Int)(o:Own)(V:Sig)(hl:l.length<=1073741824:=by exact sd):
  DCall prog 32 [.slice (cI l) o,dI s] V (rS (.bool (decide (s∈l))) V):=by
 rw[<-List.contains_eq_mem];exact Wg l s o V hl
instance (priority:=high) a32m (l:List Int) (s:Int) (o:Own) (V:Sig):Ans 32 [.slice (cI l) o,dI s] V ((l.length<=1073741824)) (.bool (decide (s∈l))):=⟨fun hl=>Ta l s o V (hl:=hl)⟩
theorem QR(l:List Str)(s:Str)(o:Own)(V:Sig)(hl:l.length<=1073741824:=by exact sd):
  DCall prog 238 [.slice (cS l) o,.str s] V (rS (.bool (decide (s∈l))) V):=by
 have e:decide (0<=idxG s l 0)=decide (s∈l):=by rw[Bool.eq_iff_iff];simp only[decide_eq_true_eq];exact Ir s l 0
 rw[<-e];exact Tz l s o V hl
instance (priority:=high) a238m (l:List Str) (s:Str) (o:Own) (V:Sig):Ans 238 [.slice (cS l) o,.str s] V ((l.length<=1073741824)) (.bool (decide (s∈l))):=⟨fun hl=>QR l s o V (hl:=hl)⟩
theorem QZ(l:List Str)(s:Str)(o:Own)(V:Sig)(hl:l.length<=1073741824:=by exact sd):
  DCall prog 204 [.slice (cS l) o,.str s] V (rS (.bool (decide (s∈l))) V):=by
 have e:decide (0<=idxG s l 0)=decide (s∈l):=by rw[Bool.eq_iff_iff];simp only[decide_eq_true_eq];exact Ir s l 0
 rw[<-e];exact TR l s o V hl
instance (priority:=high) a204m (l:List Str) (s:Str) (o:Own) (V:Sig):Ans 204 [.slice (cS l) o,.str s] V ((l.length<=1073741824)) (.bool (decide (s∈l))):=⟨fun hl=>QZ l s o V (hl:=hl)⟩
theorem TI(l:List Int)(n:Int)(o:Own)(V:Sig)(hl:l.length<=1073741824:=by exact sd):
  DCall prog 222 [.slice (cI l) o,dI n] V fun x S'=>x=.ret (sl (cI (l.filter fun x => !decide (x=n))))/\S'=V:=by
 refine en func222 ntmps222 ?_
 refine gz ?_
 refine Bz 5 1 (fun i hi =>?_)
 refine AA [0,1,4,26] (fun (k:Nat) (out:List Int)=>k<=l.length/\out.length<=k/\out++(l.drop k).filter (fun x => !decide (x=n))=l.filter (fun x => !decide (x=n))) (fun k out=>[(6,dI k),(5,.slice (cI out) (.tag i))]) (fun _ out=>V.set i (.tail 1 out.length)) (fun k _=>l.length-k) (0) ([]) (by simp) (fun k out hI =>?_)
 obtain⟨hk,hlen,hR⟩:=hI
 by_cases h:k<l.length
 ·rw[A0 h,List.filter_cons]at hR
  repeat' first|refine gz ?_|apply gy<;>intro hh
  ·exact⟨k+1,out++[l[k]],by refine⟨by omega,by simp;omega,?_⟩;rw[<-hR];simp[hh],td1,wkR⟩
  ·exact⟨k+1,out,by refine⟨by omega,by omega,?_⟩;rw[<-hR];simp[hh],td1,wkR⟩
 ·rw[A1 h]at hR
  simp at hR
  refine gz ?_
  exact finS (S':=V) (es:=cI out) ⟨by rw[hR],rfl⟩
@[reducible,instance] def a222:=fun l n o V=>ah1 (@TI l n o V)
theorem TH(l:List (List Int))(c:Int)(o:Own)(V:Sig)(hl:l.length<=1073741824:=by exact sd)(hl2:∀x∈l,x.length<=1073741824:=by exact sd):
  DCall prog 223 [.slice (cII l) o,dI c] V fun x S'=>x=.ret (.bool (l.all fun x => !decide (c∈x.tail)))/\S'=V:=by
 refine en func223 ntmps223 ?_
 refine gz ?_
 refine B2 [0,1] (fun (k:Nat)=>k<=l.length/\l.all (fun x => !decide (c∈x.tail))=(l.drop k).all (fun x => !decide (c∈x.tail))) (fun k=>[(5,dI k)]) (fun _=>V) (fun k=>l.length-k) (0) (by simp) (fun k hI =>?_)
 obtain⟨hk,hR⟩:=hI
 by_cases h:k<l.length
 ·have hx:=hl2 _ (List.getElem_mem h)
  rw[A0 h,List.all_cons]at hR
  by_cases h0:l[k].length=0
  ·have he:l[k]=[]:=List.length_eq_zero_iff.1 h0
   refine gz ?_
   exact⟨k+1,⟨by omega,by rw[hR,he];simp⟩,td1,wkR⟩
  ·repeat' first|refine gz ?_|apply gy<;>intro hh
   ·exact fe1 hR
   ·exact⟨k+1,⟨by omega,by rw[hR];simp_all⟩,td1,wkR⟩
 ·rw[A1 h]at hR
  refine gz ?_
  exact fe1 hR
@[reducible,instance] def a223:=fun l c o V=>ah2 (@TH l c o V)
def DA(i:Nat):List Int->List Int->Bool
 |_,[]=>true
 |seen,p::r=>(decide (3<=p/\p<3+i)&&!decide (p∈seen))&&DA i (seen++[p]) r
def HS(i:Nat)(l:List Int):Bool:=decide (l.length<=3)&&DA i [] l
def Cg:Nat->List (List Int)->Bool
 |_,[]=>true
 |i,l::r=>HS i l&&Cg (i+1) r
def Bq(g:List (List Int)):Bool:=decide (g.length<=16)&&Cg 0 g
theorem AH{α:Type}{l:List α}{k:Nat}(h:k<l.length):l.take (k+1)=l.take k++[l[k]]:=by rw[List.take_succ_eq_append_getElem h]
theorem TV(g:List (List Int))(o:Own)(V:Sig)(hl:g.length<=1073741824:=by exact sd)(hl2:∀x∈g,x.length<=1073741824:=by exact sd):
  DCall prog 199 [.slice (cII g) o] V (rS (.bool (Bq g)) V):=by
 refine en func199 ntmps199 ?_
 by_cases h16:16<g.length
 ·refine gz ?_
  (refine fin1 (S':=V) ?_;exact⟨by first|rfl|(simp[Bq];done)|(simp_all [Bq];done)|(rw[A7,Bool.eq_iff_iff];simp_all [Bq]<;>omega),rfl⟩)
 refine gz ?_
 refine B2 [10,11] (fun (k:Nat)=>k<=g.length/\Bq g=Cg k (g.drop k)) (fun k=>[(12,dI k)]) (fun _=>V) (fun k=>g.length-k) (0) (by exact⟨by omega,by simp[Bq];omega⟩) (fun k hI =>?_)
 obtain⟨hk,hR⟩:=hI
 by_cases h:k<g.length
 ·have hx:=hl2 _ (List.getElem_mem h)
  rw[A0 h,Cg,HS]at hR
  by_cases h3:3<g[k].length
  ·refine gz ?_
   exact fe1 hR
  ·have h3':decide (g[k].length<=3)=true:=by simp;omega
   rw[h3',Bool.true_and]at hR
   refine gz ?_
   refine B2 [3,4,10,11,12,13,14,15,16,17,18,19,20,21,43] (fun (q:Nat)=>q<=g[k].length/\Bq g=(DA k (g[k].take q) (g[k].drop q)&&Cg (k+1) (g.drop (k+1)))) (fun q=>[(22,dI q)]) (fun _=>V) (fun q=>g[k].length-q) (0) (by exact⟨by omega,by simpa using hR⟩) (fun q hI =>?_)
   obtain⟨hq,hR2⟩:=hI
   by_cases h':q<g[k].length
   ·rw[A0 h',DA, <-AH h']at hR2
    repeat' first|refine gz ?_|apply gy<;>intro hh
    ·have hn:¬(3<=g[k][q]/\g[k][q]<3+(k:Int)):=by omega
     rw[decide_eq_false hn]at hR2
     exact fe1 hR2
    ·have hn:¬(3<=g[k][q]/\g[k][q]<3+(k:Int)):=by omega
     rw[decide_eq_false hn]at hR2
     exact fe1 hR2
    ·exact fe1 hR2
    ·exact⟨q+1,⟨by omega,by rw[hR2];simp_all⟩,td1,wkR⟩
   ·rw[A1 h',DA]at hR2
    refine gz ?_
    exact⟨k+1,⟨by omega,by simpa using hR2⟩,td1,wkR⟩
 ·rw[A1 h,Cg]at hR
  refine gz ?_
  exact fe1 hR
@[reducible,instance] def a199:=fun g o V=>ah2 (@TV g o V)
theorem U9(g:List (List Int))(o:Own)(V:Sig)(hl:g.length<=1073741824:=by exact sd)(hl2:∀x∈g,x.length<=1073741824:=by exact sd):
  DCall prog 175 [.slice (cII g) o] V (rS (.bool (Bq g)) V):=by
 refine en func175 ntmps175 ?_
 by_cases h16:16<g.length
 ·refine gz ?_ o175
  (refine fin1 (S':=V) ?_;exact⟨by first|rfl|(simp[Bq];done)|(simp_all [Bq];done)|(rw[A7,Bool.eq_iff_iff];simp_all [Bq]<;>omega),rfl⟩)
 refine gz ?_ o175
 refine B2 [0] (fun (k:Nat)=>k<=g.length/\Bq g=Cg k (g.drop k)) (fun k=>[(3,dI k)]) (fun _=>V) (fun k=>g.length-k) (0) (by exact⟨by omega,by simp[Bq];omega⟩) (fun k hI =>?_)
 obtain⟨hk,hR⟩:=hI
 by_cases h:k<g.length
 ·have hx:=hl2 _ (List.getElem_mem h)
  rw[A0 h,Cg,HS]at hR
  by_cases h3:3<g[k].length
  ·refine gz ?_ o175
   exact fe1 hR
  ·have h3':decide (g[k].length<=3)=true:=by simp;omega
   rw[h3',Bool.true_and]at hR
   refine gz ?_ o175
   refine B2 [0,3,8,9,10,11,12,13,14,15,16,17,18,19] (fun (q:Nat)=>q<=g[k].length/\Bq g=(DA k (g[k].take q) (g[k].drop q)&&Cg (k+1) (g.drop (k+1)))) (fun q=>[(4,dI q)]) (fun _=>V) (fun q=>g[k].length-q) (0) (by exact⟨by omega,by simpa using hR⟩) (fun q hI =>?_)
   obtain⟨hq,hR2⟩:=hI
   by_cases h':q<g[k].length
   ·rw[A0 h',DA, <-AH h']at hR2
    repeat' first|refine gz ?_ o175|apply gy<;>intro hh
    ·have hn:¬(3<=g[k][q]/\g[k][q]<3+(k:Int)):=by omega
     rw[decide_eq_false hn]at hR2
     exact fe1 hR2
    ·have hn:¬(3<=g[k][q]/\g[k][q]<3+(k:Int)):=by omega
     rw[decide_eq_false hn]at hR2
     exact fe1 hR2
    ·exact fe1 hR2
    ·exact⟨q+1,⟨by omega,by rw[hR2];simp_all⟩,td1,wkR⟩
   ·rw[A1 h',DA]at hR2
    refine gz ?_ o175
    exact⟨k+1,⟨by omega,by simpa using hR2⟩,td1,wkR⟩
 ·rw[A1 h,Cg]at hR
  refine gz ?_ o175
  exact fe1 hR
def FJ(all:List (List Int))(c:Int):Bool:=all.all fun x => !decide (c∈x.tail)
def EA(all:List (List Int)):Bool->List (List Int)->Option Int×Bool
 |s,[]=>(none,s)
 |s,[]::r=>EA all s r
 |_,(x::_)::r=>if FJ all x then(some x,true) else EA all true r
def ED:Nat->List (List Int)->List Int->List Int×Bool
 |0,_,out=>(out,false)
 |n+1,ls,out=>match EA ls false ls with
  |(none,s)=>(out, !s)
  |(some c,_)=>ED n (ls.map fun l=>l.filter fun x => !decide (x=c)) (out++[c])
def totL:List (List Int)->Nat
 |[]=>0
 |l::r=>l.length+totL r
def BV(ls:List (List Int)):List Int×Bool:=ED (totL ls+1) ls []
theorem Lu{l:List Int}: ∀{ls:List (List Int)},l∈ls->l.length<=totL ls
 |x::r,h=>by
  rcases List.mem_cons.1 h with rfl|h
  ·simp[totL]
  ·have:=Lu h;simp only[totL];omega
theorem Ez{all:List (List Int)}{c:Int}{b:Bool}: ∀{s:Bool} {ls:List (List Int)},EA all s ls=(some c,b)->∃l∈ls,c∈l
 |s,[],h=>by simp[EA]at h
 |s,[]::r,h=>by
  rw[EA]at h
  obtain⟨l,h1,h2⟩:=Ez h
  exact⟨l,by simp[h1],h2⟩
 | s,(x::t)::r,h=>by
  rw[EA]at h
  by_cases hf:FJ all x=true
  ·rw[if_pos hf]at h
   exact⟨x::t,by simp,by simp only[Prod.mk.injEq,Option.some.injEq]at h;simp[h.1]⟩
  ·rw[if_neg hf]at h
   obtain⟨l,h1,h2⟩:=Ez h
   exact⟨l,by simp[h1],h2⟩
theorem RF(c:Int): ∀ls:List (List Int),totL (ls.map fun l=>l.filter fun x => !decide (x=c))<=totL ls
 |[]=>by simp[totL]
 |l::r=>by
  have:=RF c r
  have:=List.length_filter_le (fun x => !decide (x=c)) l
  simp only[List.map_cons,totL];omega
theorem SW{c:Int}{l:List Int}(h:c∈l):(l.filter fun x => !decide (x=c)).length<l.length:=by
 induction l with
 |nil=>simp at h
 | cons x r ih =>
  have:=List.length_filter_le (fun x => !decide (x=c)) r
  by_cases hx:x=c
  ·simp[hx];omega
  ·have hr:c∈r:=by rcases List.mem_cons.1 h with rfl|h;exact absurd rfl hx;exact h
   have:=ih hr
   simp[hx];omega
theorem Lv{c:Int}{l:List Int}(hc:c∈l): ∀{ls:List (List Int)},l∈ls->totL (ls.map fun l=>l.filter fun x => !decide (x=c))<totL ls
 | x::r,h=>by
  simp only[List.map_cons,totL]
  rcases List.mem_cons.1 h with rfl|h
  ·have:=RF c r;have:=SW hc;omega
  ·have:=Lv hc h
   have:=List.length_filter_le (fun x => !decide (x=c)) x
   omega
theorem Ui(l:List (List Int))(o:Own)(V:Sig)(hn:∀x∈l, ∀y∈x,0<=y)(hl:l.length<=1073741824:=by exact sd)(ht:totL l<=1073741824:=by exact sd):
  DCall prog 154 [.slice (cII l) o] V (rS (.tup [sl (cI (BV l).1),.bool (BV l).2]) V):=by
 refine en func154 ntmps154 ?_
 refine gz ?_
 refine Bz 4 1 (fun i hi =>?_)
 refine D6 [] (fun (n:Nat) (ls:List (List Int)) (out:List Int)=>totL ls<n/\out.length+totL ls<=1073741824/\ls.length=l.length/\(∀x∈ls, ∀y∈x,0<=y)/\ED n ls out=BV l) (fun _ ls out=>[(0,.slice (cII ls) .no),(4,.slice (cI out) (.tag i))]) (fun _ _ out=>V.set i (.tail 1 out.length)) (fun n _ _=>n) (totL l+1) (l) ([]) (by exact⟨by omega,by simpa using ht,rfl,hn,rfl⟩) (fun n ls out hI =>?_)
 obtain⟨hn0,hlen,hls,hpos,hR⟩:=hI
 have hlx:∀x∈ls,x.length<=1073741824:=fun x hx=>by have:=Lu hx;omega
 refine gz ?_
 refine D6 [0,2,3,4,8,9,40,41,42,43,44,45,46,47,48,49,50,51,52,53,54,55,56,57,58,59,60,61,62,63,64] (fun (q:Nat) (cv:Int) (s:Bool)=>q<=ls.length /\ -1<=cv/\(cv<0->EA ls false ls=EA ls s (ls.drop q))/\(0<=cv->EA ls false ls=(some cv,true))) (fun q cv s=>[(5,dI cv),(6,.bool s),(7,dI q)]) (fun _ _ _=>V.set i (.tail 1 out.length)) (fun q _ _=>ls.length-q) (0) (-1) (false) (by simp) (fun q cv s hI =>?_)
 obtain⟨hq,hcv,hA,hB⟩:=hI
 have hcc:cv = -1\/0<=cv:=by omega
 rcases hcc with hcv1|hcv1
 ·subst hcv1
  replace hA:=hA (by omega)
  by_cases h:q<ls.length
  ·have hx:=hlx _ (List.getElem_mem h)
   have hxp:=hpos _ (List.getElem_mem h)
   rw[A0 h]at hA
   rcases hrow:ls[q]with _|⟨y,r⟩
   ·rw[hrow,EA]at hA
    refine gf hrow ?_
    exact⟨q+1, -1,s,⟨by omega,by omega,fun _=>hA,by omega⟩,td1,wkR⟩
   ·rw[hrow,EA]at hA
    have hy:0<=y:=hxp y (by simp[hrow])
    repeat' first|refine gf hrow ?_|apply gy<;>intro hh
    ·rw[if_pos (show FJ ls y=true from hh)]at hA
     exact⟨q+1,y,true,⟨by omega,by omega,by omega,fun _=>hA⟩,td1,wkR⟩
    ·rw[show FJ ls y=false from hh]at hA
     exact⟨q+1, -1,true,⟨by omega,by omega,fun _=>hA,by omega⟩,td1,wkR⟩
  ·rw[A1 h,EA]at hA
   refine gz ?_
   obtain⟨m,rfl⟩:∃m,n=m+1:=⟨n-1,by omega⟩
   rw[ED,hA]at hR
   replace hR:BV l=(out, !s):=hR.symm
   exact fe2 (d':=sl (cI out)) hR
 ·replace hB:=hB hcv1
  obtain⟨m,rfl⟩:∃m,n=m+1:=⟨n-1,by omega⟩
  rw[ED,hB]at hR
  replace hR:ED m (ls.map fun l=>l.filter fun x => !decide (x=cv)) (out++[cv])=BV l:=hR
  obtain⟨e,he,hce⟩:=Ez hB
  have hlt:=Lv hce he
  have hpos':∀x∈ls.map (fun l=>l.filter fun x => !decide (x=cv)), ∀y∈x,0<=y:=by
   intro x hx y hy
   obtain⟨z,hz,rfl⟩:=List.mem_map.1 hx
   exact hpos z hz y (List.mem_filter.1 hy).1
  by_cases h:q<ls.length
  all_goals
   refine gz ?_
   refine Bz 8 1 (fun j hj =>?_)
   refine AA [0,2,3,4,5,6,7,10,11,12,13,14,15,16,17,18,19,20,21,22,23,24,25,26,27,28,29,30,31,32,33,34,35,36,37,38,39,40,41,42,43,44,45,46,47,48,64] (fun (k:Nat) (acc:List (List Int))=>k<=ls.length/\acc=(ls.take k).map fun l=>l.filter fun x => !decide (x=cv)) (fun k acc=>[(9,dI k),(8,.slice (cII acc) (.tag j))]) (fun _ acc=>(V.set i (.tail 1 (out.length+1))).set j (.tail 1 acc.length)) (fun k _=>ls.length-k) (0) ([]) (by simp) (fun k acc hI =>?_)
   obtain⟨hk,hacc⟩:=hI
   have hal:acc.length=k:=by rw[hacc];simp;omega
   by_cases h':k<ls.length
   ·have hx:=hlx _ (List.getElem_mem h')
    refine gz ?_
    exact⟨k+1,acc++[(ls[k]).filter fun x => !decide (x=cv)],⟨by omega,by rw[hacc,AH h',List.map_append];rfl⟩,td1,wkR⟩
   ·have hk':k=ls.length:=by omega
    rw[hk',List.take_length]at hacc
    subst hacc
    have hsub:Sub (V.set i (.tail 1 (out++[cv]).length)) ((V.set i (.tail 1 (out.length+1))).set j (.tail 1 (ls.map fun l=>l.filter fun x => !decide (x=cv)).length)):=by rw[List.length_append];exact(Sub.refl _).set (by assumption)
    refine gz ?_
    exact⟨m,(ls.map fun l=>l.filter fun x => !decide (x=cv)),(out++[cv]),⟨by omega,by rw[List.length_append,List.length_singleton];omega,by simpa using hls,hpos',hR⟩,td1,wkR⟩
def unf:D := .iface 236 (.agg [])
theorem VZ(b:Bool)(V:Sig):DCall prog 81 [.bool b] V fun x S'=>x=(if b then .ret (.tup []) else .panic unf)/\S'=V:=by
 refine en func81 ntmps81 ?_
 cases b
 ·refine gz ?_
  refine pan ?_
  exact finP (S':=V) ⟨rfl,rfl⟩
 ·refine gz ?_
  exact Eb (S':=V) ⟨rfl,rfl⟩
@[reducible,instance] def a81:=fun b V=>gh0 (@VZ b V)
theorem Uo(l:List Str)(o:Own)(V:Sig)(hl:l.length<=1073741824:=by exact sd):
  DCall prog 142 [.slice (cS l) o] V (rS (sl (cS l)) V):=by
 refine en func142 ntmps142 ?_
 refine gz ?_
 refine isN (fun b hb =>?_)
 repeat' first|refine gz ?_|apply gy<;>intro hh
 ·exact fe1 (d':=sl []) (hb hh)
 ·by_cases h:l=[]
  ·refine app0 ?_
   refine gz ?_
   exact fe1 (d':=sl []) h
  ·refine appC (fun i hi =>?_) (hne:=by simp[cS,h])
   refine gz ?_
   exact finS (S':=V) (es:=cS l) ⟨rfl,rfl⟩ ((Sub.refl _).set hi)
@[reducible,instance] def a142:=fun l o V=>ah1 (@Uo l o V)
theorem Hm(l:List Int)(q:Int->Bool)(g:Nat)(cap:List D)(o:Own)(V:Sig)(hl:l.length<=1073741824)
  (hg:∀x∈l, ∀S',Sub V S'->DCall prog g ([]++[dI x]++cap) S' fun r S''=>r=.ret (.bool (q x))/\S''=S') :
  DCall prog 283 [.slice (cI l) o,.func (.func g) [] cap] V (rS (sl (cI (l.filter q))) V):=by
 refine en func283 ntmps283 ?_
 refine gz ?_
 refine Bz 5 1 (fun i hi =>?_)
 refine AA [1,4,8,9,22] (fun (k:Nat) (out:List Int)=>k<=l.length/\out.length<=k/\out++(l.drop k).filter q=l.filter q) (fun k out=>[(10,dI k),(5,.slice (cI out) (.tag i))]) (fun _ out=>V.set i (.tail 1 out.length)) (fun k _=>l.length-k) (0) ([]) (by simp) (fun k out hI =>?_)
 obtain⟨hk,hlen,hR⟩:=hI
 by_cases h:k<l.length
 ·rw[A0 h,List.filter_cons]at hR
  repeat' first|refine Ax (hg (l[k]) (List.getElem_mem h) _ ((Sub.refl _).set hi)) ?_|refine callP (hg (l[k]) (List.getElem_mem h) _ ((Sub.refl _).set hi)) ?_|refine gz ?_|apply gy<;>intro hh
  ·exact⟨k+1,out++[l[k]],by refine⟨by omega,by simp;omega,?_⟩;rw[<-hR];simp[hh],td1,wkR⟩
  ·exact⟨k+1,out,by refine⟨by omega,by omega,?_⟩;rw[<-hR];simp[hh],td1,wkR⟩
 ·rw[A1 h]at hR
  simp at hR
  refine gz ?_
  exact finS (S':=V) (es:=cI out) ⟨by rw[hR],rfl⟩
theorem Nm(c:Int)(V:Sig):DCall prog 305 [dI c] V (rS (.bool (!decide (c=0))) V):=by
 refine en func305 ntmps305 ?_
 refine gz ?_
 exact fe1 trivial
theorem To(l:List Int)(o:Own)(V:Sig)(hl:l.length<=1073741824:=by exact sd):DCall prog 282 [.slice (cI l) o] V (rS (sl (cI (l.filter fun c => !decide (c=0)))) V):=by
 refine en func282 ntmps282 ?_
 repeat' first|refine gz ?_|refine Ax (Hm l (fun c => !decide (c=0)) 305 [] o V hl (fun x _ S' _=>Nm x S')) ?_|refine callP (Hm l (fun c => !decide (c=0)) 305 [] o V hl (fun x _ S' _=>Nm x S')) ?_|refine gz ?_|apply gy<;>intro hh
 exact fe1 trivial
@[reducible,instance] def a282:=fun l o V=>ah1 (@To l o V)
theorem No(c x:Int)(V:Sig):DCall prog 284 [dI c,.cptr [dI x] 0] V (rS (.bool (!decide (c=x))) V):=by
 refine en func284 ntmps284 ?_
 refine gz ?_
 exact fe1 trivial
theorem TB(n:Int)(V:Sig):DCall prog 234 [dI n] V (rS (.bool (inB n)) V):=by
 refine en func234 ntmps234 ?_
 repeat' first|refine gz ?_|apply gy<;>intro hh
 any_goals (first|(refine fin1 (S':=V) ?_;exact⟨by first|rfl|(simp[inB];done)|(simp_all [inB];done)|(rw[A7,Bool.eq_iff_iff];simp_all [inB]<;>omega),rfl⟩)|fail)
@[reducible,instance] def a234:=fun n V=>ah0 (@TB n V)
theorem TO(n:Int)(V:Sig):DCall prog 207 [dI n] V (rS (.bool (inB n)) V):=by
 refine en func207 ntmps207 ?_
 repeat' first|refine gz ?_|apply gy<;>intro hh
 any_goals (first|(refine fin1 (S':=V) ?_;exact⟨by first|rfl|(simp[inB];done)|(simp_all [inB];done)|(rw[A7,Bool.eq_iff_iff];simp_all [inB]<;>omega),rfl⟩)|fail)
@[reducible,instance] def a207:=fun n V=>ah0 (@TO n V)
theorem Ti(f:Fact)(V:Sig):DCall prog 298 [.agg (Bp f)] V (rS (.bool (BZ f.op)) V):=by
 refine en func298 ntmps298 ?_
 repeat' first|refine gz ?_|apply gy<;>intro hh
 any_goals (first|(refine fin1 (S':=V) ?_;exact⟨by first|rfl|(simp[BZ];done)|(simp_all [BZ];done)|(rw[A7,Bool.eq_iff_iff];simp_all [BZ]<;>omega),rfl⟩)|fail)
@[reducible,instance] def a298:=fun f V=>ah0 (@Ti f V)
def Bs(op:Int):Nat:=if op=5 then 1 else if op=6\/op=7 then 2 else 0
theorem Tj(o:Int)(V:Sig):DCall prog 297 [dI o] V (rS (dI (Bs o)) V):=by
 refine en func297 ntmps297 ?_
 repeat' first|refine gz ?_|apply gy<;>intro hh
 any_goals (first|(refine fin1 (S':=V) ?_;exact⟨by first|rfl|(simp[Bs];done)|(simp_all [Bs];done)|(rw[A7,Bool.eq_iff_iff];simp_all [Bs]<;>omega),rfl⟩)|fail)
@[reducible,instance] def a297:=fun o V=>ah0 (@Tj o V)
theorem Ub(b:Bool)(V:Sig):DCall prog 173 [.bool b] V (rS (dI (if b then 0 else 2)) V):=by
 refine en func173 ntmps173 ?_
 repeat' first|refine gz ?_|apply gy<;>intro hh
 any_goals (first|exact fe1 trivial|fail)
@[reducible,instance] def a173:=fun b V=>ah0 (@Ub b V)
theorem JC(l:List (List Int))(c:Int)(o:Own)(V:Sig)(hl:l.length<=1073741824:=by exact sd)(hc:c<3+l.length:=by exact sd):
  DCall prog 221 [.slice (cII l) o,dI c] V (rS (sl (cI (if c<3 then [] else(l[(c-3).toNat]?).getD []))) V):=by
 refine en func221 ntmps221 ?_
 by_cases h:c<3
 ·repeat' first|refine gz ?_|apply gy<;>intro hh
  all_goals first|omega|skip
  exact fe1 (d':=sl []) h
 ·have h2:(c-3).toNat<l.length:=by omega
  repeat' first|refine gz ?_|apply gy<;>intro hh
  all_goals first|omega|skip
  exact fe1 (gi h h2)
@[reducible,instance] def a221:=fun l c o V=>ah2 (@JC l c o V)
theorem TD(w:World)(c:Int)(V:Sig)(hl:w.parents.length<=1073741824:=by exact sd):
  DCall prog 231 [.agg (Da w),dI c] V (rS (.bool (decide (0<=c/\c<3+w.parents.length))) V):=by
 refine en func231 ntmps231 ?_
 repeat' first|refine gz ?_|apply gy<;>intro hh
 any_goals (first|exact fe1 trivial|fail)
@[reducible,instance] def a231:=fun w c V=>ah1 (@TD w c V)
theorem TC(w:World)(l:List Int)(o:Own)(V:Sig)(hl:w.owner.length<=1073741824:=by exact sd)(hl2:l.length<=1073741824:=by exact sd):
  DCall prog 232 [.agg (Da w),.slice (cI l) o] V (rS (.bool (l.all (fun s=>decide (0<=s/\s<w.owner.length))&&decide (l.length<=2))) V):=by
 refine en func232 ntmps232 ?_
 refine gz ?_
 refine B2 [1,2,7,8,23,24,25] (fun (k:Nat)=>k<=l.length/\l.all (fun s=>decide (0<=s/\s<w.owner.length))=(l.drop k).all (fun s=>decide (0<=s/\s<w.owner.length))) (fun k=>[(9,dI k)]) (fun _=>V) (fun k=>l.length-k) (0) (by simp) (fun k hI =>?_)
 obtain⟨hk,hR⟩:=hI
 by_cases h:k<l.length
 ·rw[A0 h,List.all_cons]at hR
  repeat' first|refine gz ?_|apply gy<;>intro hh
  ·exact fe1 hR
  ·exact fe1 hR
  ·exact⟨k+1,⟨by omega,by rw[hR];simp_all⟩,td1,wkR⟩
 ·rw[A1 h]at hR
  refine gz ?_
  exact fe1 hR
def K6(op:Int):Option Int :=
 if op=1\/op=2\/op=3\/op=6\/op=18 then some 0 else if op=4\/op=8\/op=17 then some 1 else
 if op=7\/op=9\/op=11\/op=12\/op=13\/op=14\/op=15\/op=16 then some 2 else if op=10 then some 3 else none
def Cs(p:BProg)(x:BNode):Int:=match K6 x.op with
 |some k=>k
 |none=>if x.op=5/\0<=x.n/\x.n<p.gens.length then p.gens.getD x.n.toNat 0 else -1
theorem MY{p:BProg}{x:BNode}(h:x.op=5):Cs p x=if 0<=x.n/\x.n<p.gens.length then p.gens.getD x.n.toNat 0 else -1:=by simp[Cs,K6,h]
theorem U6(p:BProg)(x:BNode)(V:Sig)(hl:p.gens.length<=1073741824:=by exact sd):
  DCall prog 181 [.agg (Am p),.agg (Ai x)] V (rS (dI (Cs p x)) V):=by
 refine en func181 ntmps181 ?_
 repeat' first|refine gz ?_|apply gy<;>intro hh
 any_goals (first|(refine fin1 (S':=V) ?_;exact⟨by first|rfl|(simp[Cs,K6];done)|(simp_all [Cs,K6];done)|(rw[A7,Bool.eq_iff_iff];simp_all [Cs,K6]<;>omega),rfl⟩)|fail)
 all_goals (refine fin1 (S':=V) ?_;refine⟨?_,rfl⟩;rw[MY (by assumption)])
 all_goals first|(rw[if_neg (by omega)];done)|(rw[if_pos ⟨by assumption,by assumption⟩];simp)
@[reducible,instance] def a181:=fun p x V=>ah1 (@U6 p x V)
def Bk(p:BProg)(x:BNode)(size:Int):Bool :=
 if x.op=1 then inB x.n else if x.op=3 then decide (0<=x.n/\x.n<size) else if x.op=4\/x.op=7 then decide (0<=x.n/\x.n<p.slots) else
 if x.op=5 then decide (0<=x.n/\x.n<p.gens.length) else if x.op=6\/x.op=8 then decide (3<=x.n/\x.n<3+p.classes.length) else decide (x.n=0)
theorem U5(p:BProg)(x:BNode)(size:Int)(V:Sig)(hl:p.gens.length<=1073741824:=by exact sd)(hc:p.classes.length<=1073741824:=by exact sd):
  DCall prog 182 [.agg (Am p),.agg (Ai x),dI size] V (rS (.bool (Bk p x size)) V):=by
 refine en func182 ntmps182 ?_
 repeat' first|refine gz ?_|apply gy<;>intro hh
 any_goals (first|(refine fin1 (S':=V) ?_;exact⟨by first|rfl|(simp[Bk];done)|(simp_all [Bk];done)|(rw[A7,Bool.eq_iff_iff];simp_all [Bk]<;>omega),rfl⟩)|fail)
theorem VW(p:BProg)(x:BNode)(size:Int)(V:Sig)(hl:p.gens.length<=1073741824:=by exact sd)(hc:p.classes.length<=1073741824:=by exact sd):
  DCall prog 85 [.agg (Am p),.agg (Ai x),dI size] V (rS (.bool (Bk p x size)) V):=by
 refine en func85 ntmps85 ?_
 repeat' first|refine gz ?_|apply gy<;>intro hh
 any_goals (first|(refine fin1 (S':=V) ?_;exact⟨by first|rfl|(simp[Bk];done)|(simp_all [Bk];done)|(rw[A7,Bool.eq_iff_iff];simp_all [Bk]<;>omega),rfl⟩)|fail)
@[reducible,instance] def a85:=fun p x size V=>ah2 (@VW p x size V)
def Es(op:Int):D:=match K6 op with
 |some k => .iface 140 (dI k)
 |none=>if op=5 then .iface 142 (.agg []) else .niliface
theorem VV(op:Int)(V:Sig):DCall prog 86 [dI op] V (rS (Es op) V):=by
 refine en func86 ntmps86 ?_
 repeat' first|refine gz ?_|apply gy<;>intro hh
 any_goals (first|(refine fin1 (S':=V) ?_;exact⟨by first|rfl|(simp[Es,K6];done)|(simp_all [Es,K6];done)|(rw[A7,Bool.eq_iff_iff];simp_all [Es,K6]<;>omega),rfl⟩)|fail)
@[reducible,instance] def a86:=fun op V=>ah0 (@VV op V)
def parentsF(g:List (List Int))(c:Int):List Int:=if c<3 then [] else(g[(c-3).toNat]?).getD []
def Av(orders:List (List Int))(p:Int):List Int:=(orders[p.toNat]?).getD []
def CN(orders:List (List Int)):List Int->Option (List (List Int))
 |[]=>some []
 |p::r=>if(Av orders p).length=0 then none else(CN orders r).map ((Av orders p).filter (fun x => !decide (x=0)) :: ·)
def BI(orders:List (List Int))(ps:List Int):Option (List (List Int)):=(CN orders ps).map (· ++ [ps])
theorem Uj(g orders:List (List Int))(c:Int)(o o':Own)(V:Sig)(hl:g.length<=1073741824:=by exact sd)(hc:c<3+g.length:=by exact sd)(hps:(parentsF g c).length<=1073741824:=by exact sd)(hp:∀p∈parentsF g c,0<=p/\p<orders.length)(ho:orders.length<=1073741824:=by exact sd)(ho2:∀x∈orders,x.length<=1073741824:=by exact sd):
  DCall prog 153 [.slice (cII g) o,.slice (cII orders) o',dI c] V (rS (.tup [sl (cII ((BI orders (parentsF g c)).getD [])),.bool (BI orders (parentsF g c)).isSome]) V):=by
 have hps':=hps
 refine en func153 ntmps153 ?_
 repeat' first|refine gz ?_|refine Ax (JC g c o V hl hc) ?_|refine callP (JC g c o V hl hc) ?_|refine gz ?_|apply gy<;>intro hh
 have e0:(if c<3 then [] else(g[(c-3).toNat]?).getD [])=parentsF g c:=rfl
 rw[e0]
 generalize parentsF g c=ps at *
 refine Bz 8 1 (fun i hi =>?_)
 refine AA [1,9,40,41,42,43] (fun (k:Nat) (out:List (List Int))=>k<=ps.length/\out.length<=k/\CN orders ps=(CN orders (ps.drop k)).map (out ++ ·)) (fun k out=>[(10,dI k),(8,.slice (cII out) (.tag i))]) (fun _ out=>V.set i (.tail 1 out.length)) (fun k _=>ps.length-k) (0) ([]) (by simp) (fun k out hI =>?_)
 obtain⟨hk,hlen,hR⟩:=hI
 by_cases h:k<ps.length
 ·obtain⟨hp1,hp2⟩:=hp _ (List.getElem_mem h)
  have hpt:(ps[k]).toNat<orders.length:=by omega
  have hx:=ho2 _ (List.getElem_mem hpt)
  have hat:Av orders ps[k]=orders[(ps[k]).toNat]:=by unfold Av;simp[hpt]
  rw[A0 h,CN,hat]at hR
  repeat' first|refine gz ?_|apply gy<;>intro hh
  ·have hn:BI orders ps=none:=by unfold BI;rw[hR];simp_all
   exact fe2 (d':=sl []) hn
  ·exact⟨k+1,out++[(orders[(ps[k]).toNat]).filter fun x => !decide (x=0)],by refine⟨by omega,by simp;omega,?_⟩;rw[hR,if_neg (by simpa using hh),Option.map_map];congr 1;funext z;simp,td1,wkR⟩
 ·rw[A1 h,CN]at hR
  have hn:BI orders ps=some (out++[ps]):=by unfold BI;rw[hR];simp
  refine gz ?_
  exact fe2 (d':=sl (cII (out++[ps]))) hn
def WZ(x:DE):Prop := ∃n:Int,x=.ret (.agg [.int .u64 n])
theorem Nv(s c:Int)(V:Sig)(hc:0<=c:=by exact sd):DCall prog 200 [.agg [.int .u64 s],dI c] V fun x S'=>WZ x/\S'=V:=by
 refine en func200 ntmps200 ?_
 refine JH ?_
 refine Hs ?_
 refine boxV (fun i hi =>?_)
 refine newV (fun j hj =>?_)
 obtain⟨hji,hj'⟩:=A4 hj
 have hij:i≠j:=fun e=>hji e.symm
 refine gf (gi hji (gi hij (Q9 .u64 .i64 1 c hc))) ?_ o200 [2,4]
 refine finCE (S':=V) (by simp[resL,hij,hji];with_unfolding_all rfl) ⟨⟨_,rfl⟩,rfl⟩ ?_
 exact((((Sub.refl _).set hi).set hj').set hi).set hj'
theorem TU(s c:Int)(V:Sig):DCall prog 201 [.agg [.int .u64 s],.agg [.int .u64 c]] V fun x S'=>WZ x/\S'=V:=by
 refine en func201 ntmps201 ?_
 refine JH ?_
 refine Hs ?_
 refine boxV (fun i hi =>?_)
 refine gz ?_ [] [2,4]
 refine newV (fun j hj =>?_)
 obtain⟨hji,hj'⟩:=A4 hj
 have hij:i≠j:=fun e=>hji e.symm
 refine gf (gi hji hij) ?_ [] [2,4]
 refine finCE (S':=V) (by simp[resL,hij,hji];with_unfolding_all rfl) ⟨⟨_,rfl⟩,rfl⟩ ?_
 exact((((Sub.refl _).set hi).set hj').set hi).set hj'
theorem EG(ig im:Nat)(ps os:List (List Int))(ups:D)(om:List (Int×List Int))(c:Nat)(o:Own)(V:Sig)(hg:V ig=some (.cells [.slice (cII ps) o,ups,.map im]))(hm:V im=some (.map (eIO om)))(hc:c<ps.length)
  (hl:ps.length<=1073741824) (hpl:(ps[c]).length<=1073741824) (ho:∀p∈ps[c],getM [] p om=Av os p) (hol:∀p∈ps[c],(Av os p).length<=1073741824) :
  DCall prog 246 [.ptr ig 0,dI c] V (rS (.tup [sl (cII ((BI os ps[c]).getD [])),.bool (BI os ps[c]).isSome]) V):=by
 refine en func246 ntmps246 ?_
 refine gf (gi hg hm) ?_
 generalize hps:ps[c]=l at *
 refine Bz 6 1 (fun i hi =>?_)
 have hgi:ig≠i:=fun e=>by rw[e,hi]at hg;cases hg
 have hmi:im≠i:=fun e=>by rw[e,hi]at hm;cases hm
 refine AA [0,1,15,16,40,41,42,43,44,45,46,47,48,49] (fun (k:Nat) (out:List (List Int))=>k<=l.length/\out.length<=k/\CN os l=(CN os (l.drop k)).map (out ++ ·)) (fun k out=>[(17,dI k),(6,.slice (cII out) (.tag i))]) (fun _ out=>V.set i (.tail 1 out.length)) (fun k _=>l.length-k) (0) ([]) (by simp) (fun k out hI =>?_)
 obtain⟨hk,hlen,hR⟩:=hI
 by_cases h:k<l.length
 ·have hat:=ho _ (List.getElem_mem h)
  have hx:=hol _ (List.getElem_mem h)
  rw[A0 h,CN]at hR
  refine gf (gi hg (gi hm (gi hgi hmi))) ?_
  refine lkO ?_ (hi:=by rw[w8 _ _ hmi];exact hm)
  rw[hat]
  repeat' first|refine gf (gi hg (gi hm (gi hgi hmi))) ?_|apply gy<;>intro hh
  ·have hn:BI os l=none:=by unfold BI;rw[hR];simp_all
   exact fe2 (d':=sl []) hn
  ·refine lkO ?_ (hi:=by rw[w8 _ _ hmi];exact hm)
   rw[hat]
   refine gf (gi hg (gi hm (gi hgi hmi))) ?_
   exact⟨k+1,out++[(Av os l[k]).filter fun x => !decide (x=0)],by refine⟨by omega,by simp;omega,?_⟩;rw[hR,if_neg (by simpa using hh),Option.map_map];congr 1;funext z;simp,td1,wkR⟩
 ·rw[A1 h,CN]at hR
  have hn:BI os l=some (out++[l]):=by unfold BI;rw[hR];simp
  refine gf (gi hg (gi hm (gi hgi (gi hmi hps)))) ?_
  exact fe2 (d':=sl (cII (out++[l]))) hn
theorem FM(l:List (List Int))(o:Own)(V:Sig)(hl:l.length<=1073741824:=by exact sd)(ht:totL l<=1073741824:=by exact sd):
  DCall prog 247 [.slice (cII l) o] V (rS (.tup [sl (cI (BV l).1),.bool (BV l).2]) V):=by
 refine en func247 ntmps247 ?_
 refine gz ?_ o247
 refine Bz 4 1 (fun i hi =>?_)
 refine D6 [] (fun (n:Nat) (ls:List (List Int)) (out:List Int)=>totL ls<n/\out.length+totL ls<=1073741824/\ls.length=l.length/\ED n ls out=BV l) (fun _ ls out=>[(0,.slice (cII ls) .no),(4,.slice (cI out) (.tag i))]) (fun _ _ out=>V.set i (.tail 1 out.length)) (fun n _ _=>n) (totL l+1) (l) ([]) (by exact⟨by omega,by simpa using ht,rfl,rfl⟩) (fun n ls out hI =>?_)
 obtain⟨hn0,hlen,hls,hR⟩:=hI
 obtain⟨n,rfl⟩:∃m,n=m+1:=⟨n-1,by omega⟩
 have hlx:∀x∈ls,x.length<=1073741824:=fun x hx=>by have:=Lu hx;omega
 rw[ED]at hR
 refine gz ?_ o247
 refine AA [2,3,14,15,63,64,65] (fun (q:Nat) (s:Bool)=>q<=ls.length/\EA ls false ls=EA ls s (ls.drop q)) (fun q s=>[(5,.bool s),(16,dI q),(0,.slice (cII ls) .no),(4,.slice (cI out) (.tag i))]) (fun _ _=>V.set i (.tail 1 out.length)) (fun q _=>ls.length-q) (0) (false) (by simp) (fun q s hI =>?_)
 obtain⟨hq,hA⟩:=hI
 by_cases h:q<ls.length
 ·have hx:=hlx _ (List.getElem_mem h)
  rw[A0 h]at hA
  rcases hrow:ls[q]with _|⟨y,r⟩
  ·rw[hrow,EA]at hA
   refine gf hrow ?_ o247
   exact⟨q+1,s,⟨by omega,hA⟩,td1,wkR⟩
  ·rw [hrow,EA] at hA
   rw[hrow]at hx
   simp only[List.length_cons]at hx
   refine gf hrow ?_ o247
   refine B2 [0,2,3,4,5,7,10,11,13,14,15,16,17,18,19,20,21,22,23,24,41,42,43,44,45,46,47,48,49,50,51,52,53,54,55,56,57,58,59,60,61,62,63,64,65] (fun (k:Nat)=>k<=ls.length/\FJ (ls.take k) y=true) (fun k=>[(25,dI k)]) (fun _=>V.set i (.tail 1 out.length)) (fun k=>ls.length-k) (0) (by simp[FJ]) (fun k hI =>?_)
   obtain⟨hk,hF⟩:=hI
   by_cases hk':k<ls.length
   ·have hxk:=hlx _ (List.getElem_mem hk')
    have hstep:FJ (ls.take (k+1)) y=(FJ (ls.take k) y&&!decide (y∈ls[k].tail)):=by
     unfold FJ;rw[List.take_succ_eq_append_getElem hk',List.all_append];simp
    rcases hrk:ls[k]with _|⟨z,t⟩
    ·rw[hrk]at hstep
     refine gf (gi hrk hrow) ?_ o247
     exact⟨k+1,⟨by omega,by rw[hstep,hF];simp⟩,td1,wkR⟩
    ·rw[hrk]at hstep hxk
     simp only[List.length_cons]at hxk
     repeat' first|refine gf (gi hrk hrow) ?_ o247|apply gy<;>intro hh
     ·have hnf:FJ ls y=false:=by
       unfold FJ
       rw[List.all_eq_false]
       refine⟨ls[k],List.getElem_mem hk',?_⟩
       rw[hrk];simp[hh]
      rw[hnf]at hA
      exact⟨q+1,true,⟨by omega,by simpa using hA⟩,td1,wkR⟩
     ·exact⟨k+1,⟨by omega,by rw[hstep,hF];simp[hh]⟩,td1,wkR⟩
   ·have hk2:k=ls.length:=by omega
    rw[hk2,List.take_length]at hF
    rw[hF,if_pos rfl]at hA
    rw[hA]at hR
    replace hR:ED n (ls.map fun l=>l.filter fun x => !decide (x=y)) (out++[y])=BV l:=hR
    obtain⟨e,he,hce⟩:=Ez hA
    have hlt:=Lv hce he
    refine gf hrow ?_ o247
    refine Bz 11 1 (fun j hj =>?_)
    refine AA [0,2,3,4,5,7,9,10,14,15,16,17,18,19,20,21,22,23,24,25,26,27,28,29,30,31,32,33,34,35,36,37,38,39,40,41,42,43,44,45,46,47,48,49,61,62,63,64,65] (fun (m:Nat) (acc:List (List Int))=>m<=ls.length/\acc=(ls.take m).map fun l=>l.filter fun x => !decide (x=y)) (fun m acc=>[(50,dI m),(11,.slice (cII acc) (.tag j))]) (fun _ acc=>(V.set i (.tail 1 (out.length+1))).set j (.tail 1 acc.length)) (fun m _=>ls.length-m) (0) ([]) (by simp) (fun m acc hI =>?_)
    obtain⟨hm,hacc⟩:=hI
    have hal:acc.length=m:=by rw[hacc];simp;omega
    by_cases h':m<ls.length
    ·have hx':=hlx _ (List.getElem_mem h')
     repeat' first|refine gz ?_|refine Ax (Hm (ls[m]) (fun c => !decide (c=y)) 284 [.cptr [dI y] 0] _ _ hx' (fun x _ S' _=>No x y S')) ?_|refine callP (Hm (ls[m]) (fun c => !decide (c=y)) 284 [.cptr [dI y] 0] _ _ hx' (fun x _ S' _=>No x y S')) ?_|refine gz ?_ o247|apply gy<;>intro hh
     exact⟨m+1,acc++[(ls[m]).filter fun x => !decide (x=y)],⟨by omega,by rw[hacc,AH h',List.map_append];rfl⟩,td1,wkR⟩
    ·have hm':m=ls.length:=by omega
     rw[hm',List.take_length]at hacc
     subst hacc
     have hsub:Sub (V.set i (.tail 1 (out++[y]).length)) ((V.set i (.tail 1 (out.length+1))).set j (.tail 1 (ls.map fun l=>l.filter fun x => !decide (x=y)).length)):=by rw[List.length_append];exact(Sub.refl _).set (by assumption)
     refine gz ?_ o247
     exact⟨n,(ls.map fun l=>l.filter fun x => !decide (x=y)),(out++[y]),⟨by omega,by rw[List.length_append,List.length_singleton];omega,by simpa using hls,hR⟩,td1,wkR⟩
 ·rw[A1 h,EA]at hA
  rw[hA]at hR
  replace hR:BV l=(out, !s):=hR.symm
  refine gz ?_ o247
  exact fe2 (d':=sl (cI out)) hR
@[reducible,instance] def a247:=fun l o V=>ah2 (@FM l o V)
theorem Hh: ∀(n:Nat) (ls:List (List Int)) (out:List Int),(ED n ls out).1.length<=out.length+totL ls
 |0,_,_=>Nat.le_add_right _ _
 | n+1,ls,out=>by
  rw[ED]
  cases h:EA ls false ls with
  | mk a s =>
   cases a with
   |none=>exact Nat.le_add_right _ _
   |some c =>
    obtain⟨e,he,hce⟩:=Ez h
    have h1:=Lv hce he
    have h2:=Hh n (ls.map fun l=>l.filter fun x => !decide (x=c)) (out++[c])
    rw[List.length_append,List.length_singleton]at h2
    simp only
    omega
theorem Er(ls:List (List Int)):(BV ls).1.length<=totL ls:=by
 exact Nat.le_trans (Hh (totL ls+1) ls []) (by simp)
def BA(os:List (List Int))(c:Int)(ps:List Int):List Int :=
 match BI os ps with
 |none=>[]
 |some ls=>if(BV ls).2 then c::(BV ls).1++[0] else []
theorem TT(ig im:Nat)(ps os:List (List Int))(ups:D)(om:List (Int×List Int))(c:Nat)(o:Own)(V:Sig)(hne:ig≠im)(hg:V ig=some (.cells [.slice (cII ps) o,ups,.map im]))(hm:V im=some (.map (eIO om)))(hc:c<ps.length)(hc0:c≠0)
  (hl:ps.length<=1073741824) (hpl:(ps[c]).length<=1073741824) (ho:∀p∈ps[c],getM [] p om=Av os p) (hol:∀p∈ps[c],(Av os p).length<=1073741824) (ht:∀ls,BI os ps[c]=some ls->ls.length<=1073741824/\totL ls<=1073741824) :
  DCall prog 202 [.ptr ig 0,dI c] V fun x S'=>x=.ret (.tup [])/\S'=if BA os c ps[c]=[] then V else V.set im (.map (eIO (putM c (BA os c ps[c]) om))):=by
 have hc0':¬(c:Int)=0:=by omega
 refine en func202 ntmps202 ?_
 cases hls:BI os ps[c]with
 |none =>
  repeat' first|refine gf (gi hc0' (gi hg (gi hm hls))) ?_|refine Ax (EG ig im ps os ups om c o V hg hm hc hl hpl ho hol) ?_|refine callP (EG ig im ps os ups om c o V hg hm hc hl hpl ho hol) ?_|refine gf (gi hc0' (gi hg (gi hm hls))) ?_ o202|apply gy<;>intro hh
  exact fin0 (S':=V) ⟨rfl,by simp[BA,hls]⟩
 | some ls =>
  obtain⟨h1,h2⟩:=ht ls hls
  have hml:(BV ls).1.length<=totL ls:=Er ls
  by_cases hm0:(BV ls).1=[]
  ·repeat' first|refine gf (gi hc0' (gi hg (gi hm hls))) ?_|refine Ax (EG ig im ps os ups om c o V hg hm hc hl hpl ho hol) ?_|refine callP (EG ig im ps os ups om c o V hg hm hc hl hpl ho hol) ?_|refine Ax (FM ls .no V h1 h2) ?_|refine callP (FM ls .no V h1 h2) ?_|refine gf (gi hc0' (gi hg (gi hm hls))) ?_ o202|apply gy<;>intro hh
   refine moApp0 ?_
   repeat' first|refine gz ?_ o202|apply gy<;>intro hh
   refine Sv (fun i hi =>?_)
   have hmi:im≠i:=fun h=>by rw[h,hi]at hm;simp at hm
   refine rtl 39 (sl (cI [(c:Int),0])) ?_
   refine gf (gi hm hmi) ?_ o202
   exact fin0 (S':=V.set im (.map (eIO (putM c [(c:Int),0] om)))) ⟨rfl,by rw[BA,hls];simp[hh,hm0]⟩ (Sub.both ((Sub.refl _).set hi))
   exact fin0 (S':=V) ⟨rfl,by rw[BA,hls];simp[hh]⟩
  ·repeat' first|refine gf (gi hc0' (gi hg (gi hm hls))) ?_|refine Ax (EG ig im ps os ups om c o V hg hm hc hl hpl ho hol) ?_|refine callP (EG ig im ps os ups om c o V hg hm hc hl hpl ho hol) ?_|refine Ax (FM ls .no V h1 h2) ?_|refine callP (FM ls .no V h1 h2) ?_|refine gf (gi hc0' (gi hg (gi hm hls))) ?_ o202|apply gy<;>intro hh
   refine WO (fun i hi =>?_)
   have hmi:im≠i:=fun h=>by rw[h,hi]at hm;simp at hm
   refine gz ?_ o202
   refine rtl 39 (sl (cI ((c:Int)::(BV ls).1++[0]))) ?_ (Cj _ (by simp[cI]))
   refine gf (gi hm hmi) ?_ o202
   exact fin0 (S':=V.set im (.map (eIO (putM c ((c:Int)::(BV ls).1++[0]) om)))) ⟨rfl,by rw[BA,hls];simp[hh]⟩ (Sub.both ((Sub.refl _).set hi))
   exact fin0 (S':=V) ⟨rfl,by rw[BA,hls];simp[hh]⟩
end Go.DL
