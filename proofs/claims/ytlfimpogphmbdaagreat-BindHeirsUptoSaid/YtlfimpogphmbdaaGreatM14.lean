/- Part of a proof in texts M01 on: a layer of pure values over the fenced walk, the walks of the functions, the plain laws. -/
import Derived.Test.YtlfimpogphmbdaaGreatM13
import Derived.Test.YtlfimpogphmbdaaGreatM11
set_option linter.all false
namespace Go.DL
open Go.Proofs.Tryz
open Go Go.Proofs
def hitD (tab:Nat->Ty) (e:Nat) (c:Bool):Option (Option (Nat × D))->Option D
 | some (some (_,d))=>some (if c then .tup [d, .bool true] else d)
 | some none=>match Gg (tab e) with
  | some z=>some (if c then .tup [z, .bool false] else z)
  | none=>none
 | none=>none
@[simp high] theorem lookupD_h {tab:Nat->Ty} {σ:Sig} {c:Bool} {T e:Nat} {x d:D}:Gc tab σ c (.map T e) x d=if A5 (tab e).k || !B6 (tab T).k d then none else match Cg σ x with
  | some l=>hitD tab e c (CG (tab T).k d l 0)
  | none=>none:=by
 rw [R4]
 by_cases hc:(A5 (tab e).k || !B6 (tab T).k d)=true
 ·rw [if_pos hc,if_pos hc]
 ·rw [if_neg hc,if_neg hc]
  cases Cg σ x with
  | none=>rfl
  | some l =>
   cases h:CG (tab T).k d l 0 with
   | none=>simp only [h];rfl
   | some r=>cases r with
    | none=>simp only [h];rfl
    | some p=>simp only [h];rfl
@[simp] theorem hitD_some (tab:Nat->Ty) (e i:Nat) (c:Bool) (d:D):hitD tab e c (some (some (i,d)))=some (if c then .tup [d, .bool true] else d):=rfl
def ins {α:Type} [DecidableEq α] (k:α) (s:List α):List α:=if k ∈ s then s else s++[k]
theorem L1 {α:Type} [DecidableEq α] {k x:α} {s:List α}:x ∈ ins k s ↔ x=k\/x ∈ s:=by
 unfold ins
 by_cases h:k ∈ s
 ·rw [if_pos h];exact ⟨.inr,fun h'=>h'.elim (fun e=>e ▸ h) id⟩
 ·rw [if_neg h];simp [or_comm]
def getM {α β:Type} [DecidableEq α] (z:β) (k:α):List (α × β)->β
 | []=>z
 | (k',v)::r=>if k=k' then v else getM z k r
def hasM {α β:Type} [DecidableEq α] (k:α):List (α × β)->Bool
 | []=>false
 | (k',_)::r=>decide (k=k') || hasM k r
def putM {α β:Type} [DecidableEq α] (k:α) (v:β):List (α × β)->List (α × β)
 | []=>[(k,v)]
 | (k',v')::r=>if k=k' then (k,v)::r else (k',v')::putM k v r
theorem CZ {α β:Type} [DecidableEq α] (z:β) (k x:α) (v:β) : ∀ m:List (α × β),getM z x (putM k v m)=if x=k then v else getM z x m
 | []=>by simp [putM,getM]
 | (k',v')::r=>by
  by_cases h:k=k'
  ·subst h;rw [putM,if_pos rfl,getM];by_cases hx:x=k<;>simp [hx,getM]
  ·rw [putM,if_neg h,getM,CZ z k x v r]
   by_cases hx:x=k'
   ·rw [if_pos hx,if_neg (fun e=>h (e.symm.trans hx)),getM,if_pos hx]
   ·rw [if_neg hx,getM,if_neg hx]
theorem HZ {α β:Type} [DecidableEq α] (k x:α) (v:β) : ∀ m:List (α × β),hasM x (putM k v m)=(decide (x=k) || hasM x m)
 | []=>by simp [putM,hasM]
 | (k',v')::r=>by
  by_cases h:k=k'
  ·subst h;rw [putM,if_pos rfl,hasM,hasM];cases decide (x=k)<;>simp
  ·rw [putM,if_neg h,hasM,HZ k x v r,hasM]
   cases decide (x=k')<;>cases decide (x=k)<;>simp
section
def eM {α β:Type} (kf:α->D) (f:β->D) (m:List (α × β)):List (D × D):=m.map fun p=>(kf p.1,f p.2)
def eS {α:Type} (kf:α->D) (s:List α):List (D × D):=s.map fun k=>(kf k, .bool true)
structure KeyOK {α:Type} [DecidableEq α] (kt:TyK) (kf:α->D):Prop where
 key : ∀ a b:α,keyB kt (kf a) (kf b)=some (decide (a=b))
theorem keyI:KeyOK (.int .i64) dI:=⟨fun a b=>by simp [keyB,EK]⟩
theorem keyS:KeyOK .str D.str:=⟨fun a b=>by simp [keyB,EK]⟩
variable {α β:Type} [DecidableEq α] {kt:TyK} {kf:α->D} (hk:KeyOK kt kf)
include hk
theorem NK (k:α) : ∀ (s:List α) (i:Nat),(k ∈ s -> ∃ j,CG kt (kf k) (eS kf s) i=some (some (i+j, .bool true))/\s[j]? = some k)/\(k ∉ s->CG kt (kf k) (eS kf s) i=some none)
 | [],i=>by simp [eS,CG]
 | x::s,i=>by
  obtain ⟨h1,h2⟩:=NK k s (i+1)
  simp only [eS] at h1 h2
  simp only [eS,List.map_cons,CG,hk.key]
  by_cases h:k=x
  ·subst h
   simp only [decide_true]
   exact ⟨fun _=>⟨0,rfl,rfl⟩,fun h=>absurd (by simp) h⟩
  ·have e:decide (k=x)=false:=by simp [h]
   simp only [e]
   refine ⟨fun hm => ?_,fun hm=>h2 fun hm'=>hm (by simp [hm'])⟩
   obtain ⟨j,a,b⟩:=h1 ((List.mem_cons.1 hm).resolve_left h)
   exact ⟨j+1,by rw [a];congr 3;omega,by simpa using b⟩
theorem UL {tab:Nat->Ty} {e:Nat} (hz:Gg (tab e)=some (.bool false)) (k:α) (s:List α):hitD tab e false (CG kt (kf k) (eS kf s) 0)=some (.bool (decide (k ∈ s))):=by
 obtain ⟨h1,h2⟩:=NK hk k s 0
 by_cases h:k ∈ s
 ·obtain ⟨j,a,_⟩:=h1 h;rw [a];simp [h]
 ·rw [h2 h];simp only [hitD,hz,Bool.false_eq_true,if_false,h,decide_false]
theorem UC (k:α) (s:List α):C5 kt (kf k) (.bool true) (eS kf s)=some (eS kf (ins k s)):=by
 obtain ⟨h1,h2⟩:=NK hk k s 0
 unfold C5 ins
 by_cases h:k ∈ s
 ·obtain ⟨j,a,b⟩:=h1 h
  rw [a,if_pos h]
  simp only [Nat.zero_add,Option.some.injEq]
  apply List.ext_getElem?
  intro i
  rw [List.getElem?_set]
  by_cases hi:j=i
  ·subst hi
   have hlt:j < s.length:=(List.getElem?_eq_some_iff.1 b).1
   have hb:s[j]=k:=by rw [List.getElem?_eq_getElem hlt] at b;exact Option.some.inj b
   simp [eS,hlt,hb]
  ·rw [if_neg hi]
 ·rw [h2 h,if_neg h];simp [eS]
theorem IV (f:β->D) (k:α) : ∀ (m:List (α × β)) (i:Nat),(hasM k m=true -> ∃ j v,CG kt (kf k) (eM kf f m) i=some (some (i+j,f v))/\(∀ z,getM z k m=v) /\ ∀ w,(eM kf f m).set j (kf k,f w)=eM kf f (putM k w m)) /\
  (hasM k m=false->CG kt (kf k) (eM kf f m) i=some none/\(∀ z,getM z k m=z) /\ ∀ w,eM kf f m++[(kf k,f w)]=eM kf f (putM k w m))
 | [],i=>by simp [eM,CG,hasM,getM,putM]
 | (x,y)::m,i=>by
  obtain ⟨h1,h2⟩:=IV f k m (i+1)
  simp only [eM] at h1 h2
  simp only [eM,List.map_cons,CG,hk.key,hasM]
  by_cases h:k=x
  ·subst h
   simp only [decide_true,Bool.true_or]
   refine ⟨fun _=>⟨0,y,rfl,fun z=>by simp [getM],fun w=>by simp [putM]⟩,fun h=>by cases h⟩
  ·have e:decide (k=x)=false:=by simp [h]
   simp only [e,Bool.false_or]
   refine ⟨fun hm => ?_,fun hm => ?_⟩
   ·obtain ⟨j,v,a,b,c⟩:=h1 hm
    refine ⟨j+1,v,by rw [a];congr 3;omega,fun z=>by rw [getM,if_neg h];exact b z,fun w => ?_⟩
    rw [putM,if_neg h,List.map_cons,List.set_cons_succ,c w]
   ·obtain ⟨a,b,c⟩:=h2 hm
    refine ⟨a,fun z=>by rw [getM,if_neg h];exact b z,fun w => ?_⟩
    rw [putM,if_neg h,List.map_cons,List.cons_append,c w]
theorem hit_eM {tab:Nat->Ty} {e:Nat} {z:β} {zd:D} (f:β->D) (hz:Gg (tab e)=some zd) (k:α) (m:List (α × β)):hitD tab e false (CG kt (kf k) (eM kf f m) 0)=some (if hasM k m then f (getM z k m) else zd):=by
 obtain ⟨h1,h2⟩:=IV hk f k m 0
 cases h:hasM k m with
 | true=>obtain ⟨j,v,a,b,_⟩:=h1 h;rw [a,b z];simp
 | false=>obtain ⟨a,b,_⟩:=h2 h;rw [a];simp only [hitD,hz,Bool.false_eq_true,if_false]
theorem hit_eM' {tab:Nat->Ty} {e:Nat} {z:β} (f:β->D) (hz:Gg (tab e)=some (f z)) (k:α) (m:List (α × β)):hitD tab e false (CG kt (kf k) (eM kf f m) 0)=some (f (getM z k m)):=by
 obtain ⟨h1,h2⟩:=IV hk f k m 0
 cases h:hasM k m with
 | true=>obtain ⟨j,v,a,b,_⟩:=h1 h;rw [a,b z];simp
 | false=>obtain ⟨a,b,_⟩:=h2 h;rw [a,b z];simp only [hitD,hz,Bool.false_eq_true,if_false,if_true]
theorem L7 {tab:Nat->Ty} {e:Nat} {z:β} (f:β->D) (hz:Gg (tab e)=some (f z)) (k:α) (m:List (α × β)):hitD tab e true (CG kt (kf k) (eM kf f m) 0)=some (.tup [f (getM z k m), .bool (hasM k m)]):=by
 obtain ⟨h1,h2⟩:=IV hk f k m 0
 cases h:hasM k m with
 | true=>obtain ⟨j,v,a,b,_⟩:=h1 h;rw [a,b z];simp
 | false=>obtain ⟨a,b,_⟩:=h2 h;rw [a,b z];simp only [hitD,hz,Bool.false_eq_true,if_false,if_true]
theorem Oh (f:β->D) (k:α) (v:β) (m:List (α × β)):C5 kt (kf k) (f v) (eM kf f m)=some (eM kf f (putM k v m)):=by
 obtain ⟨h1,h2⟩:=IV hk f k m 0
 unfold C5
 cases h:hasM k m with
 | true=>obtain ⟨j,w,a,_,c⟩:=h1 h;rw [a];simp only [Nat.zero_add];rw [c v]
 | false=>obtain ⟨a,_,c⟩:=h2 h;rw [a];simp only;rw [c v]
end
def eSI (s:List Int):List (D × D):=eS dI s
def eSS (s:List Str):List (D × D):=eS D.str s
def eSN (m:List (Str × Int)):List (D × D):=eM D.str dI m
def eIN (m:List (Int × Int)):List (D × D):=eM dI dI m
@[simp] theorem hitI4 (k:Int) (s:List Int):hitD tab 4 false (CG (.int .i64) (.int .i64 k) (eSI s) 0)=some (.bool (decide (k ∈ s))):=UL keyI rfl k s
@[simp] theorem hitS4 (k:Str) (s:List Str):hitD tab 4 false (CG .str (.str k) (eSS s) 0)=some (.bool (decide (k ∈ s))):=(UL (tab:=tab) (e:=4) keyS rfl k s).trans (congrArg (fun b=>some (D.bool b)) (decide_eq_decide.2 Iff.rfl))
@[simp] theorem putI4 (k:Int) (s:List Int):C5 (.int .i64) (.int .i64 k) (.bool true) (eSI s)=some (eSI (ins k s)):=UC keyI k s
@[simp] theorem putS4 (k:Str) (s:List Str):C5 .str (.str k) (.bool true) (eSS s)=some (eSS (ins k s)):=UC keyS k s
@[simp] theorem hitSN (k:Str) (m:List (Str × Int)):hitD tab 3 false (CG .str (.str k) (eSN m) 0)=some (.int .i64 (getM 0 k m)):=hit_eM' keyS dI rfl k m
@[simp] theorem hitSNok (k:Str) (m:List (Str × Int)):hitD tab 3 true (CG .str (.str k) (eSN m) 0)=some (.tup [.int .i64 (getM 0 k m), .bool (hasM k m)]):=L7 keyS dI rfl k m
@[simp] theorem putSN (k:Str) (v:Int) (m:List (Str × Int)):C5 .str (.str k) (.int .i64 v) (eSN m)=some (eSN (putM k v m)):=Oh keyS dI k v m
@[simp] theorem hitINok (k:Int) (m:List (Int × Int)):hitD tab 3 true (CG (.int .i64) (.int .i64 k) (eIN m) 0)=some (.tup [.int .i64 (getM 0 k m), .bool (hasM k m)]):=L7 keyI dI rfl k m
@[simp] theorem putIN (k v:Int) (m:List (Int × Int)):C5 (.int .i64) (.int .i64 k) (.int .i64 v) (eIN m)=some (eIN (putM k v m)):=Oh keyI dI k v m
def eIO (m:List (Int × List Int)):List (D × D):=eM dI (fun l=>sl (cI l)) m
@[simp] theorem putIO (k:Int) (v:List Int) (m:List (Int × List Int)):C5 (.int .i64) (.int .i64 k) (sl (cI v)) (eIO m)=some (eIO (putM k v m)):=Oh keyI (fun l=>sl (cI l)) k v m
theorem hitIO (k:Int) (m:List (Int × List Int)):hitD tab 23 false (CG (.int .i64) (.int .i64 k) (eIO m) 0)=some (if hasM k m then sl (cI (getM [] k m)) else .nils):=hit_eM keyI _ rfl k m
section
variable {P:Program} {ro:Option Nat} {n:Nat} {Q:DX->St->Prop} {df:List DDf} {γ:List (Nat × D)} {σ:Sig}
theorem TA {γk:List (Nat × D)} {α β δ ε:Type} {c:Code} (keep:List Nat) (I:α->β->δ->ε->Prop) (ov:α->β->δ->ε->List (Nat × D)) (sg:α->β->δ->ε->Sig) (μ:α->β->δ->ε->Nat) (x0:α) (y0:β) (z0:δ) (u0:ε) (h0:I x0 y0 z0 u0)
  (round : ∀ x y z u,I x y z u->DWp P ro n c (Then (fun s' => ∃ x' y' z' u',I x' y' z' u'/\μ x' y' z' u' < μ x y z u/\Wk P n s' ⟨ov x' y' z' u'++γk,sg x' y' z' u',df⟩) Q) ⟨ov x y z u++γk,sg x y z u,df⟩) (hk:DD γ keep=some γk:=by with_unfolding_all rfl) (h1:TellsR γ (ov x0 y0 z0 u0++γk):=by (first | refine Gl ?_ ?_ | skip)<;>(repeat' first | exact Gk | refine Fz (by with_unfolding_all rfl) ?_ ?_ | (first | exact A9 _ | exact B4 _ _ | exact At _ (.inl rfl) | exact DV _ | (refine Ib _ ?_;first | omega | (simp;done) | (simp;omega)) | (refine B5 ?_;(simp;done)) | (refine B5 ?_;(simp [cI,cS,cII,Dn,Cn,EJ];done)) | (refine Dy _ ?_;(simp [cI,cS,cII];done)) | (refine B5 ?_;(simp_all;done)) | assumption))) (h2:Sub (sg x0 y0 z0 u0) σ:=by first | exact Sub.refl _ | (refine Bl ?_;simp;done) | assumption | exact (Sub.refl _).set (by assumption)):DWp P ro n (.loop c) Q ⟨γ,σ,df⟩:=by
 refine Ft (α:=α × β × δ × ε) keep (fun x=>I x.1 x.2.1 x.2.2.1 x.2.2.2) (fun x=>ov x.1 x.2.1 x.2.2.1 x.2.2.2) (fun x=>sg x.1 x.2.1 x.2.2.1 x.2.2.2) (fun x=>μ x.1 x.2.1 x.2.2.1 x.2.2.2) (x0,y0,z0,u0) hk h0 h1 h2 fun x hx=>EI (round x.1 x.2.1 x.2.2.1 x.2.2.2 hx) ?_
 intro e s h
 cases e with
 | normal=>obtain ⟨x',y',z',u',h3,h4,h5⟩:=h;exact ⟨(x',y',z',u'),h3,h4,h5⟩
 | _=>exact h
theorem Tz {γk:List (Nat × D)} {α β δ ε ζ:Type} {c:Code} (keep:List Nat) (I:α->β->δ->ε->ζ->Prop) (ov:α->β->δ->ε->ζ->List (Nat × D)) (sg:α->β->δ->ε->ζ->Sig) (μ:α->β->δ->ε->ζ->Nat) (x0:α) (y0:β) (z0:δ) (u0:ε) (v0:ζ) (h0:I x0 y0 z0 u0 v0)
  (round : ∀ x y z u v,I x y z u v->DWp P ro n c (Then (fun s' => ∃ x' y' z' u' v',I x' y' z' u' v'/\μ x' y' z' u' v' < μ x y z u v/\Wk P n s' ⟨ov x' y' z' u' v'++γk,sg x' y' z' u' v',df⟩) Q) ⟨ov x y z u v++γk,sg x y z u v,df⟩) (hk:DD γ keep=some γk:=by with_unfolding_all rfl) (h1:TellsR γ (ov x0 y0 z0 u0 v0++γk):=by (first | refine Gl ?_ ?_ | skip)<;>(repeat' first | exact Gk | refine Fz (by with_unfolding_all rfl) ?_ ?_ | (first | exact A9 _ | exact B4 _ _ | exact At _ (.inl rfl) | exact DV _ | (refine Ib _ ?_;first | omega | (simp;done) | (simp;omega)) | (refine B5 ?_;(simp;done)) | (refine B5 ?_;(simp [cI,cS,cII,Dn,Cn,EJ];done)) | (refine Dy _ ?_;(simp [cI,cS,cII];done)) | (refine B5 ?_;(simp_all;done)) | assumption))) (h2:Sub (sg x0 y0 z0 u0 v0) σ:=by first | exact Sub.refl _ | (refine Bl ?_;simp;done) | assumption | exact (Sub.refl _).set (by assumption)):DWp P ro n (.loop c) Q ⟨γ,σ,df⟩:=by
 refine Ft (α:=α × β × δ × ε × ζ) keep (fun x=>I x.1 x.2.1 x.2.2.1 x.2.2.2.1 x.2.2.2.2) (fun x=>ov x.1 x.2.1 x.2.2.1 x.2.2.2.1 x.2.2.2.2) (fun x=>sg x.1 x.2.1 x.2.2.1 x.2.2.2.1 x.2.2.2.2) (fun x=>μ x.1 x.2.1 x.2.2.1 x.2.2.2.1 x.2.2.2.2) (x0,y0,z0,u0,v0) hk h0 h1 h2 fun x hx=>EI (round x.1 x.2.1 x.2.2.1 x.2.2.2.1 x.2.2.2.2 hx) ?_
 intro e s h
 cases e with
 | normal=>obtain ⟨x',y',z',u',v',h3,h4,h5⟩:=h;exact ⟨(x',y',z',u',v'),h3,h4,h5⟩
 | _=>exact h
variable {ops:Array Oper} {rest:List Oper} {γr:List (Nat × D)} {t:Nat} {ty:TypeId} {pos:String} {after:Array Edge}
theorem newSI {T:Nat} (h : ∀ i,σ i=none->DOps prog ro n ops Q rest ⟨(t, .map i)::γ,σ.set i (.map (eSI [])),df⟩) (htn:decide (t < n)=true:=by with_unfolding_all rfl):DOps prog ro n ops Q (⟨some t, .makeMap T none,ty,pos,after,none⟩::rest) ⟨γ,σ,df⟩:=newM h htn
theorem KU {T:Nat} (h : ∀ i,σ i=none->DOps prog ro n ops Q rest ⟨(t, .map i)::γ,σ.set i (.map (eSS [])),df⟩) (htn:decide (t < n)=true:=by with_unfolding_all rfl):DOps prog ro n ops Q (⟨some t, .makeMap T none,ty,pos,after,none⟩::rest) ⟨γ,σ,df⟩:=newM h htn
theorem QP {T:Nat} (h : ∀ i,σ i=none->DOps prog ro n ops Q rest ⟨(t, .map i)::γ,σ.set i (.map (eSN [])),df⟩) (htn:decide (t < n)=true:=by with_unfolding_all rfl):DOps prog ro n ops Q (⟨some t, .makeMap T none,ty,pos,after,none⟩::rest) ⟨γ,σ,df⟩:=newM h htn
theorem newIN {T:Nat} (h : ∀ i,σ i=none->DOps prog ro n ops Q rest ⟨(t, .map i)::γ,σ.set i (.map (eIN [])),df⟩) (htn:decide (t < n)=true:=by with_unfolding_all rfl):DOps prog ro n ops Q (⟨some t, .makeMap T none,ty,pos,after,none⟩::rest) ⟨γ,σ,df⟩:=newM h htn
theorem newIO {T:Nat} (h : ∀ i,σ i=none->DOps prog ro n ops Q rest ⟨(t, .map i)::γ,σ.set i (.map (eIO [])),df⟩) (htn:decide (t < n)=true:=by with_unfolding_all rfl):DOps prog ro n ops Q (⟨some t, .makeMap T none,ty,pos,after,none⟩::rest) ⟨γ,σ,df⟩:=newM h htn
theorem lkO {x y:Operand} {i:Nat} {k:Int} {m:List (Int × List Int)} (h:DOps prog ro n ops Q rest ⟨(t,sl (cI (getM [] k m)))::γ,σ,df⟩) (hi:σ i=some (.map (eIO m)):=by first | assumption | (simp;done))
  (hl:A4 γ (A6 [x,y])=some γr:=by with_unfolding_all rfl) (hx:ev γr x = .map i:=by with_unfolding_all rfl) (hy:ev γr y=dI k:=by with_unfolding_all rfl) (htn:decide (t < n)=true:=by with_unfolding_all rfl) :
  DOps prog ro n ops Q (⟨some t, .lookup 183 x y false,ty,pos,after,none⟩::rest) ⟨γ,σ,df⟩:=by
 refine Gm (d:=if hasM k m then sl (cI (getM [] k m)) else .nils) Ad rfl htn hl ?_ ?_
 ·simp only [dopX_lk,hx,hy]
  simp [hi,hitIO]
 ·refine BM (Bw (t:=t) (d:=sl (cI (getM [] k m))) ?_) (Dr (γ:=(t,sl (cI (getM [] k m)))::γ) (fun j => ?_) h)
  ·rw [A7,if_pos rfl]
   cases hh:hasM k m with
   | true=>exact A9 _
   | false =>
    have:getM [] k m=[]:=by
     have key : ∀ m:List (Int × List Int),hasM k m=false->getM [] k m=[]:=fun m=>by
      induction m with
      | nil=>intro _;rfl
      | cons p m ih =>
       intro h
       simp only [hasM,Bool.or_eq_false_iff,decide_eq_false_iff_not] at h
       rw [getM,if_neg h.1];exact ih h.2
     exact key m hh
    rw [this];exact At _ (.inl rfl)
  ·simp only [A7];split<;>rfl
end
theorem mS_at {σ:Sig} {i sz:Nat} {X:DObj} {st:MR} {es:List (List D)} (h:mOK (σ.set i X) sz st es):(∀ Y,mOK (σ.set i Y) sz st es)/\(∀ Y,mS (σ.set i Y) st es i=some Y) /\ ∀ Y Z,(mS (σ.set i Y) st es).set i Z=mS (σ.set i Z) st es:=by
 cases st with
 | none=>exact ⟨fun Y=>h,fun Y=>w7 .., fun Y Z=>w9 ..⟩
 | some x =>
  obtain ⟨k,cap,r⟩:=x
  obtain ⟨h1,h2,h3,h4⟩:=h
  have hki:k ≠ i:=fun e=>by rw [e,w7] at h1;cases h1
  rw [w8 _ _ hki] at h1
  refine ⟨fun Y=>⟨by rw [w8 _ _ hki];exact h1,h2,h3,h4⟩,fun Y => ?_,fun Y Z => ?_⟩
  ·simp only [mS];rw [w8 _ _ (Ne.symm hki),w7]
  ·simp only [mS];rw [Sig.set_comm _ _ _ (Ne.symm hki),w9];exact Sig.set_comm _ _ _ hki |>.symm ▸ rfl
theorem T6 (a b:List Int):cI a++cI b=cI (a++b):=by simp [cI]
section
variable {ro:Option Nat} {n:Nat} {Q:DX->St->Prop} {df:List DDf} {γ γr:List (Nat × D)} {σ:Sig} {ops:Array Oper} {rest:List Oper} {t:Nat} {ty:TypeId} {pos:String} {after:Array Edge}
theorem mappI {T T' e e':Nat} {s x:Operand} {l m:List Int} {st:MR} (h : ∀ st',mOK σ 1 st' (cI (l++m))->DOps prog ro n ops Q rest ⟨(t,mD st' (l++m).length)::γ,mS σ st' (cI (l++m)),df⟩) (hm:mOK σ 1 st (cI l):=by assumption)
  (hl:A4 γ (A6 [s,x])=some γr:=by with_unfolding_all rfl) (hk:(tab T).k = .slice e:=by (simp<;>rfl)) (hk':(tab T').k = .slice e':=by (simp<;>rfl)) (he:A5 (tab e).k=false:=by simp) (hsz:(tab e).size=1:=by simp)
  (h1:ev γr s=mD st l.length:=by with_unfolding_all rfl) (h2:esOf (ev γr x)=some (cI m):=by (simp<;>with_unfolding_all rfl))
  (hb:(l.length+m.length)*(tab e).bytes<=140737488355328:=by first | (simp;done) | (simp;omega)) (hm2:l.length+m.length<=9223372036854775807:=by omega) (htn:decide (t < n)=true:=by with_unfolding_all rfl) :
  DOps prog ro n ops Q (⟨some t, .call { callee := .builtin .append,args := #[s,x],argTypes := #[T,T'] },ty,pos,after,none⟩::rest) ⟨γ,mS σ st (cI l),df⟩:=by
 refine mapp (fun st' hm' => ?_) hm hl hk hk' he hsz (by rw [h1,HK]) h2 (BR _) (by simp [cI,CB,D.flat]) (by simpa using hb) ?_ htn
 ·rw [T6] at hm' ⊢
  rw [HK,HK, <- List.length_append]
  exact h st' hm'
 ·simpa using hm2
end
structure ShlOf (k:IntKind) (a b:Int) where
 val:Int
 is:val=k.wrap (a*2 ^ (min b.toNat k.bits))
def shlI (k:IntKind) (a b:Int):ShlOf k a b:=⟨_,rfl⟩
theorem P8 (k k':IntKind) (a b:Int) (h:0<=b):binD .shl (.int k a) (.int k' b)=some (.int k (shlI k a b).val):=by
 rw [(shlI k a b).is];simp only [binD,h,if_true]
class Ans (f:Nat) (us:List D) (σ:Sig) (H:outParam Prop) (d:outParam D):Prop where
 call:H->DCall prog f us σ fun x σ'=>x = .ret d/\σ'=σ
class Giv (f:Nat) (us:List D) (σ:Sig) (H:outParam Prop) (c:outParam Bool) (d u:outParam D):Prop where
 call:H->DCall prog f us σ fun x σ'=>x=(if c then .ret d else .panic u)/\σ'=σ
theorem ah0 {f:Nat} {us:List D} {σ:Sig} {d:D} (h:DCall prog f us σ fun x σ'=>x = .ret d/\σ'=σ):Ans f us σ (True) d:=⟨fun _=>h⟩
theorem ah1 {f:Nat} {us:List D} {σ:Sig} {d:D} {p:Prop} (h:p->DCall prog f us σ fun x σ'=>x = .ret d/\σ'=σ):Ans f us σ (p) d:=⟨fun p=>h p⟩
theorem ah2 {f:Nat} {us:List D} {σ:Sig} {d:D} {p q:Prop} (h:p->q->DCall prog f us σ fun x σ'=>x = .ret d/\σ'=σ):Ans f us σ (p/\q) d:=⟨fun ⟨p,q⟩=>h p q⟩
theorem ah3 {f:Nat} {us:List D} {σ:Sig} {d:D} {p q r:Prop} (h:p->q->r->DCall prog f us σ fun x σ'=>x = .ret d/\σ'=σ):Ans f us σ (p/\q/\r) d:=⟨fun ⟨p,q,r⟩=>h p q r⟩
theorem ah4 {f:Nat} {us:List D} {σ:Sig} {d:D} {p q r s:Prop} (h:p->q->r->s->DCall prog f us σ fun x σ'=>x = .ret d/\σ'=σ):Ans f us σ (p/\q/\r/\s) d:=⟨fun ⟨p,q,r,s⟩=>h p q r s⟩
theorem gh0 {f:Nat} {us:List D} {σ:Sig} {c:Bool} {d u:D} (h:DCall prog f us σ fun x σ'=>x=(if c then .ret d else .panic u)/\σ'=σ):Giv f us σ (True) c d u:=⟨fun _=>h⟩
theorem gh1 {f:Nat} {us:List D} {σ:Sig} {c:Bool} {d u:D} {p:Prop} (h:p->DCall prog f us σ fun x σ'=>x=(if c then .ret d else .panic u)/\σ'=σ):Giv f us σ (p) c d u:=⟨fun p=>h p⟩
theorem gh2 {f:Nat} {us:List D} {σ:Sig} {c:Bool} {d u:D} {p q:Prop} (h:p->q->DCall prog f us σ fun x σ'=>x=(if c then .ret d else .panic u)/\σ'=σ):Giv f us σ (p/\q) c d u:=⟨fun ⟨p,q⟩=>h p q⟩
class BoolIs (b:Bool) (p q:outParam Prop):Prop where
 yes:b=true->p
 no:b=false->q
instance (priority:=low) boolIs (b:Bool):BoolIs b (b=true) (b=false):=⟨id,id⟩
instance (priority:=high) boolIs_t:BoolIs true True False:=⟨fun _=>trivial,(fun h=>by cases h)⟩
instance (priority:=high) boolIs_f:BoolIs false False True:=⟨(fun h=>by cases h),fun _=>trivial⟩
instance boolIs_dec (p:Prop) [inst:Decidable p]:BoolIs (decide p) p (¬p):=⟨of_decide_eq_true,of_decide_eq_false⟩
instance boolIs_not (b:Bool) (p q:Prop) [h:BoolIs b p q]:BoolIs (!b) q p:=⟨fun e=>h.no (by cases b<;>simp_all),fun e=>h.yes (by cases b<;>simp_all)⟩
instance boolIs_and (a b:Bool) (p q p' q':Prop) [h:BoolIs a p q] [k:BoolIs b p' q']:BoolIs (a && b) (p/\p') (q\/q'):=⟨fun e=>by cases a<;>cases b<;>simp_all;exact ⟨h.yes rfl,k.yes rfl⟩,fun e=>by cases a with | false=>exact .inl (h.no rfl) | true=>exact .inr (k.no (by simpa using e))⟩
inductive NotLit (b:Bool):Prop
 | mk
structure Two (A B:Prop):Prop where
 a:A
 b:B
class T2 (p q A B:Prop) (C:outParam Prop):Prop where
 to:C->(p->A)/\(q->B)
instance (priority:=low) t2_two (p q A B:Prop):T2 p q A B (Two (p->A) (q->B)):=⟨fun h=>⟨h.a,h.b⟩⟩
instance (priority:=high) t2_a (A B:Prop):T2 True False A B A:=⟨fun h=>⟨fun _=>h,False.elim⟩⟩
instance (priority:=high) t2_b (A B:Prop):T2 False True A B B:=⟨fun h=>⟨False.elim,fun _=>h⟩⟩
theorem sd {p:Prop} (h:p:=by first | assumption | omega | simp):p:=h
theorem tdH {p:Prop} (h:p:=by (and_intros<;>first | trivial | assumption | omega | (simp;done) | (simp;omega))):p:=h
theorem tdP {p:Prop} (h:p:=by (try simp only [List.map_cons,List.map_nil,D.plain]);with_unfolding_all rfl):p:=h
theorem tdS {F p:Prop} (fx:Hold F) (h:Hold F->p:=by intro fx;simp (disch:=first | omega | assumption) [Am,big1,big2,w8,D8,Cc,D7,Cb,D9,D6,C8,Bs,C7,Br,C9,C6,Fj,fx.get]<;>(try simp only [B9,Ba,AP,B8,Az,AS,AR,AQ,AO,Ay,AN,AM,AL])<;>first | rfl | (and_intros<;>rfl)):p:=h fx
theorem tdE {F p:Prop} (fx:Hold F) (h:Hold F->p:=by intro fx;simp (disch:=first | omega | assumption) [Am,big1,big2,w8,D8,Cc,D7,Cb,D9,D6,C8,Bs,C7,Br,C9,C6,Fj,fx.get]<;>first | rfl | (and_intros<;>rfl)):p:=h fx
theorem tdC {F p:Prop} (fx:Hold F) (h:Hold F->p:=by intro fx;simp (disch:=first | omega | assumption) [Am,big1,big2,w8,D8,Cc,D7,Cb,D9,D6,C8,Bs,C7,Br,C9,C6,Fj,fx.get]<;>fail):p:=h fx
theorem tdF {p:Prop} (h:p:=by simp<;>(try simp only [B9,Ba,AP,B8,Az,AS,AR,AQ,AO,Ay,AN,AM,AL])<;>rfl):p:=h
theorem litT:NotLit true := .mk
theorem litF:NotLit false := .mk
section
variable {P:Program} {ro:Option Nat} {n:Nat} {ops:Array Oper} {N:Nat} {σ0:Sig} {Q:DX->St->Prop} {df:List DDf} {rest:List Oper} {γ γr:List (Nat × D)} {σ:Sig} {t:Nat} {ty:TypeId} {pos:String} {after:Array Edge} {l:List (Bool × Oper)} {d:D}
theorem UO {fop:Operand} {args:Array Operand} {ats:Array TypeId} {f:Nat} {first cap us:List D}  {H:Prop} (k1:DOps prog ro n ops Q rest ⟨(t,d)::γ,σ,df⟩)  (hl:A4 γ (A6 (fop::args.toList))=some γr:=by with_unfolding_all rfl) (hf:ev γr fop = .func (.func f) first cap:=by with_unfolding_all rfl) (ha:first++args.toList.map (ev γr)++cap=us:=by exact td0)  (hs:Ans f us σ H d:=by infer_instance) (hH:H:=by exact tdH) (htn:decide (t < n)=true:=by with_unfolding_all rfl):DOps prog ro n ops Q (⟨some t, .call { callee := .value fop,args,argTypes:=ats },ty,pos,after,none⟩::rest) ⟨γ,σ,df⟩:=FB hl hf ha (.inl rfl) (hs.call hH) htn k1
theorem T3 {fop:Operand} {args:Array Operand} {ats:Array TypeId} {f:Nat} {first cap us:List D} {j:Nat} {want:Bool} {k:Nat} {H:Prop} (k1:DOps prog ro n ops Q rest ⟨(t,d)::γ,σ,df⟩) (hk:(ops[j]?).bind (·.dst)=some k:=by with_unfolding_all rfl) (hb:γ.lookup k=some (.bool want):=by with_unfolding_all rfl) (hl:A4 γ (A6 (fop::args.toList))=some γr:=by with_unfolding_all rfl) (hf:ev γr fop = .func (.func f) first cap:=by with_unfolding_all rfl) (ha:first++args.toList.map (ev γr)++cap=us:=by exact td0)  (hs:Ans f us σ H d:=by infer_instance) (hH:H:=by exact tdH) (htn:decide (t < n)=true:=by with_unfolding_all rfl):DOps prog ro n ops Q (⟨some t, .call { callee := .value fop,args,argTypes:=ats },ty,pos,after,some (j,want)⟩::rest) ⟨γ,σ,df⟩:=Et hk hb hl hf ha (.inl rfl) (hs.call hH) htn k1
theorem moIR {fop:Operand} {args:Array Operand} {ats:Array TypeId} {f:Nat} {first cap us:List D}  {H:Prop} {l:List (Bool × Oper)} (k1:MO prog ro n ops N σ0 Q df l ((t,d)::γ) σ)  (hl:A4 γ (A6 (fop::args.toList))=some γr:=by with_unfolding_all rfl) (hf:ev γr fop = .func (.func f) first cap:=by with_unfolding_all rfl) (ha:first++args.toList.map (ev γr)++cap=us:=by exact td0)  (hs:Ans f us σ H d:=by infer_instance) (hH:H:=by exact tdH) (hC:Sub σ0 σ:=by first | exact Sub.refl _ | assumption) (htn:decide (t < n)=true:=by with_unfolding_all rfl):MO prog ro n ops N σ0 Q df ((true,⟨some t, .call { callee := .value fop,args,argTypes:=ats },ty,pos,after,none⟩)::l) γ σ:=HV hl hf ha (.inl rfl) (hs.call hH) htn hC k1
theorem moIRG {fop:Operand} {args:Array Operand} {ats:Array TypeId} {f:Nat} {first cap us:List D} {j:Nat} {want:Bool} {k:Nat} {H:Prop} {l:List (Bool × Oper)} (k1:MO prog ro n ops N σ0 Q df l ((t,d)::γ) σ) (hk:(ops[j]?).bind (·.dst)=some k:=by with_unfolding_all rfl) (hb:γ.lookup k=some (.bool want):=by with_unfolding_all rfl) (hl:A4 γ (A6 (fop::args.toList))=some γr:=by with_unfolding_all rfl) (hf:ev γr fop = .func (.func f) first cap:=by with_unfolding_all rfl) (ha:first++args.toList.map (ev γr)++cap=us:=by exact td0)  (hs:Ans f us σ H d:=by infer_instance) (hH:H:=by exact tdH) (hC:Sub σ0 σ:=by first | exact Sub.refl _ | assumption) (htn:decide (t < n)=true:=by with_unfolding_all rfl):MO prog ro n ops N σ0 Q df ((true,⟨some t, .call { callee := .value fop,args,argTypes:=ats },ty,pos,after,some (j,want)⟩)::l) γ σ:=GE hk hb hl hf ha (.inl rfl) (hs.call hH) htn hC k1
theorem needIR {fop:Operand} {args:Array Operand} {ats:Array TypeId} {f:Nat} {first cap us:List D} {H p q:Prop} {b b':Bool} {u d:D} {dst:Option Tmp} {C:Prop} (kc:C) (hl:A4 γ (A6 (fop::args.toList))=some γr:=by with_unfolding_all rfl) (hf:ev γr fop = .func (.func f) first cap:=by with_unfolding_all rfl) (ha:first++args.toList.map (ev γr)++cap=us:=by exact td0)  (hs:Giv f us σ H b d u:=by infer_instance) (he:b=b':=by first | assumption | exact rfl) (hbi:BoolIs b' p q:=by infer_instance) (hz:T2 p q (DOps prog ro n ops Q rest ⟨putD dst d γ,σ,df⟩) (Q (.panic u) ⟨γ,σ,df⟩) C:=by infer_instance) (hH:H:=by exact tdH) (ho:Av n ⟨dst, .call { callee := .value fop,args,argTypes:=ats },ty,pos,after,none⟩=true:=by with_unfolding_all rfl):DOps prog ro n ops Q (⟨dst, .call { callee := .value fop,args,argTypes:=ats },ty,pos,after,none⟩::rest) ⟨γ,σ,df⟩:=needR (hs.call hH) (fun h=>(hz.to kc).1 (hbi.yes (he.symm.trans h))) (fun h=>(hz.to kc).2 (hbi.no (he.symm.trans h))) (hl:=hl) (hf:=hf) (ha:=ha) (hp:=rfl) (ho:=ho)
theorem Tt {fop:Operand} {args:Array Operand} {ats:Array TypeId} {f:Nat} {first cap us:List D} {H p q:Prop} {b b':Bool} {u d:D} {dst:Option Tmp} {l:List (Bool × Oper)} {C:Prop} (kc:C) (hl:A4 γ (A6 (fop::args.toList))=some γr:=by with_unfolding_all rfl) (hf:ev γr fop = .func (.func f) first cap:=by with_unfolding_all rfl) (ha:first++args.toList.map (ev γr)++cap=us:=by exact td0)  (hs:Giv f us σ H b d u:=by infer_instance) (he:b=b':=by first | assumption | exact rfl) (hbi:BoolIs b' p q:=by infer_instance) (hz:T2 p q (MO prog ro n ops N σ0 Q df l (putD dst d γ) σ) (∀ γ',Q (.panic u) ⟨γ',σ,df⟩) C:=by infer_instance) (hH:H:=by exact tdH) (hC:Sub σ0 σ:=by first | exact Sub.refl _ | assumption) (ho:Av n ⟨dst, .call { callee := .value fop,args,argTypes:=ats },ty,pos,after,none⟩=true:=by with_unfolding_all rfl):MO prog ro n ops N σ0 Q df ((true,⟨dst, .call { callee := .value fop,args,argTypes:=ats },ty,pos,after,none⟩)::l) γ σ:=moNeedR (hs.call hH) (fun h=>(hz.to kc).1 (hbi.yes (he.symm.trans h))) (fun h=>(hz.to kc).2 (hbi.no (he.symm.trans h))) (hl:=hl) (hf:=hf) (ha:=ha) (hp:=rfl) (hC:=hC) (ho:=ho)
theorem UP {fop:Operand} {args:Array Operand} {ats:Array TypeId} {f:Nat} {first cap us bs:List D}  {H:Prop} (k1:DOps prog ro n ops Q rest ⟨(t,d)::γ,σ,df⟩)  (hl:A4 γ (A6 (fop::args.toList))=some γr:=by with_unfolding_all rfl) (hf:ev γr fop = .func (.func f) first cap:=by with_unfolding_all rfl) (ha:first++args.toList.map (ev γr)++cap=us:=by exact td0) (hp:us.map D.plain=bs:=by exact tdP) (hs:Ans f bs σ H d:=by infer_instance) (hH:H:=by exact tdH) (htn:decide (t < n)=true:=by with_unfolding_all rfl):DOps prog ro n ops Q (⟨some t, .call { callee := .value fop,args,argTypes:=ats },ty,pos,after,none⟩::rest) ⟨γ,σ,df⟩:=FB hl hf ha (.inr hp.symm) (hs.call hH) htn k1
theorem T4 {fop:Operand} {args:Array Operand} {ats:Array TypeId} {f:Nat} {first cap us bs:List D} {j:Nat} {want:Bool} {k:Nat} {H:Prop} (k1:DOps prog ro n ops Q rest ⟨(t,d)::γ,σ,df⟩) (hk:(ops[j]?).bind (·.dst)=some k:=by with_unfolding_all rfl) (hb:γ.lookup k=some (.bool want):=by with_unfolding_all rfl) (hl:A4 γ (A6 (fop::args.toList))=some γr:=by with_unfolding_all rfl) (hf:ev γr fop = .func (.func f) first cap:=by with_unfolding_all rfl) (ha:first++args.toList.map (ev γr)++cap=us:=by exact td0) (hp:us.map D.plain=bs:=by exact tdP) (hs:Ans f bs σ H d:=by infer_instance) (hH:H:=by exact tdH) (htn:decide (t < n)=true:=by with_unfolding_all rfl):DOps prog ro n ops Q (⟨some t, .call { callee := .value fop,args,argTypes:=ats },ty,pos,after,some (j,want)⟩::rest) ⟨γ,σ,df⟩:=Et hk hb hl hf ha (.inr hp.symm) (hs.call hH) htn k1
theorem moIP {fop:Operand} {args:Array Operand} {ats:Array TypeId} {f:Nat} {first cap us bs:List D}  {H:Prop} {l:List (Bool × Oper)} (k1:MO prog ro n ops N σ0 Q df l ((t,d)::γ) σ)  (hl:A4 γ (A6 (fop::args.toList))=some γr:=by with_unfolding_all rfl) (hf:ev γr fop = .func (.func f) first cap:=by with_unfolding_all rfl) (ha:first++args.toList.map (ev γr)++cap=us:=by exact td0) (hp:us.map D.plain=bs:=by exact tdP) (hs:Ans f bs σ H d:=by infer_instance) (hH:H:=by exact tdH) (hC:Sub σ0 σ:=by first | exact Sub.refl _ | assumption) (htn:decide (t < n)=true:=by with_unfolding_all rfl):MO prog ro n ops N σ0 Q df ((true,⟨some t, .call { callee := .value fop,args,argTypes:=ats },ty,pos,after,none⟩)::l) γ σ:=HV hl hf ha (.inr hp.symm) (hs.call hH) htn hC k1
theorem moIPG {fop:Operand} {args:Array Operand} {ats:Array TypeId} {f:Nat} {first cap us bs:List D} {j:Nat} {want:Bool} {k:Nat} {H:Prop} {l:List (Bool × Oper)} (k1:MO prog ro n ops N σ0 Q df l ((t,d)::γ) σ) (hk:(ops[j]?).bind (·.dst)=some k:=by with_unfolding_all rfl) (hb:γ.lookup k=some (.bool want):=by with_unfolding_all rfl) (hl:A4 γ (A6 (fop::args.toList))=some γr:=by with_unfolding_all rfl) (hf:ev γr fop = .func (.func f) first cap:=by with_unfolding_all rfl) (ha:first++args.toList.map (ev γr)++cap=us:=by exact td0) (hp:us.map D.plain=bs:=by exact tdP) (hs:Ans f bs σ H d:=by infer_instance) (hH:H:=by exact tdH) (hC:Sub σ0 σ:=by first | exact Sub.refl _ | assumption) (htn:decide (t < n)=true:=by with_unfolding_all rfl):MO prog ro n ops N σ0 Q df ((true,⟨some t, .call { callee := .value fop,args,argTypes:=ats },ty,pos,after,some (j,want)⟩)::l) γ σ:=GE hk hb hl hf ha (.inr hp.symm) (hs.call hH) htn hC k1
theorem needIP {fop:Operand} {args:Array Operand} {ats:Array TypeId} {f:Nat} {first cap us bs:List D} {H p q:Prop} {b b':Bool} {u d:D} {dst:Option Tmp} {C:Prop} (kc:C) (hl:A4 γ (A6 (fop::args.toList))=some γr:=by with_unfolding_all rfl) (hf:ev γr fop = .func (.func f) first cap:=by with_unfolding_all rfl) (ha:first++args.toList.map (ev γr)++cap=us:=by exact td0) (hp:us.map D.plain=bs:=by exact tdP) (hs:Giv f bs σ H b d u:=by infer_instance) (he:b=b':=by first | assumption | exact rfl) (hbi:BoolIs b' p q:=by infer_instance) (hz:T2 p q (DOps prog ro n ops Q rest ⟨putD dst d γ,σ,df⟩) (Q (.panic u) ⟨γ,σ,df⟩) C:=by infer_instance) (hH:H:=by exact tdH) (ho:Av n ⟨dst, .call { callee := .value fop,args,argTypes:=ats },ty,pos,after,none⟩=true:=by with_unfolding_all rfl):DOps prog ro n ops Q (⟨dst, .call { callee := .value fop,args,argTypes:=ats },ty,pos,after,none⟩::rest) ⟨γ,σ,df⟩:=needP (hs.call hH) (fun h=>(hz.to kc).1 (hbi.yes (he.symm.trans h))) (fun h=>(hz.to kc).2 (hbi.no (he.symm.trans h))) (hl:=hl) (hf:=hf) (ha:=ha) (hp:=by rw [hp]) (ho:=ho)
theorem Tu {fop:Operand} {args:Array Operand} {ats:Array TypeId} {f:Nat} {first cap us bs:List D} {H p q:Prop} {b b':Bool} {u d:D} {dst:Option Tmp} {l:List (Bool × Oper)} {C:Prop} (kc:C) (hl:A4 γ (A6 (fop::args.toList))=some γr:=by with_unfolding_all rfl) (hf:ev γr fop = .func (.func f) first cap:=by with_unfolding_all rfl) (ha:first++args.toList.map (ev γr)++cap=us:=by exact td0) (hp:us.map D.plain=bs:=by exact tdP) (hs:Giv f bs σ H b d u:=by infer_instance) (he:b=b':=by first | assumption | exact rfl) (hbi:BoolIs b' p q:=by infer_instance) (hz:T2 p q (MO prog ro n ops N σ0 Q df l (putD dst d γ) σ) (∀ γ',Q (.panic u) ⟨γ',σ,df⟩) C:=by infer_instance) (hH:H:=by exact tdH) (hC:Sub σ0 σ:=by first | exact Sub.refl _ | assumption) (ho:Av n ⟨dst, .call { callee := .value fop,args,argTypes:=ats },ty,pos,after,none⟩=true:=by with_unfolding_all rfl):MO prog ro n ops N σ0 Q df ((true,⟨dst, .call { callee := .value fop,args,argTypes:=ats },ty,pos,after,none⟩)::l) γ σ:=moNeedP (hs.call hH) (fun h=>(hz.to kc).1 (hbi.yes (he.symm.trans h))) (fun h=>(hz.to kc).2 (hbi.no (he.symm.trans h))) (hl:=hl) (hf:=hf) (ha:=ha) (hp:=by rw [hp]) (hC:=hC) (ho:=ho)
theorem cndX {c:Nat} {x y:Code} {b:Bool} {p q C:Prop} (kc:C) (hl:γ.lookup c=some (.bool b):=by with_unfolding_all rfl) (hnl:NotLit b:=by ((fail_if_success (with_reducible exact litT));(fail_if_success (with_reducible exact litF));exact NotLit.mk)) (hbi:BoolIs b p q:=by infer_instance) (hz:T2 p q (DWp P ro n x Q ⟨(c, .bool true)::γ,σ,df⟩) (DWp P ro n y Q ⟨(c, .bool false)::γ,σ,df⟩) C:=by infer_instance):DWp P ro n (.cond (.tmp c) x y) Q ⟨γ,σ,df⟩:=cndB (fun h=>(hz.to kc).1 (hbi.yes h)) (fun h=>(hz.to kc).2 (hbi.no h)) hl
theorem splX {dst:Option Tmp} {op:Op} {j:Nat} {want:Bool} {k:Nat} {b:Bool} {p q C:Prop} (kc:C) (hk:(ops[j]?).bind (·.dst)=some k:=by with_unfolding_all rfl) (hb:γ.lookup k=some (.bool b):=by with_unfolding_all rfl) (hnl:NotLit b:=by ((fail_if_success (with_reducible exact litT));(fail_if_success (with_reducible exact litF));exact NotLit.mk)) (hbi:BoolIs b p q:=by infer_instance) (hz:T2 p q (DOps P ro n ops Q (⟨dst,op,ty,pos,after,some (j,want)⟩::rest) ⟨(k, .bool true)::γ,σ,df⟩) (DOps P ro n ops Q (⟨dst,op,ty,pos,after,some (j,want)⟩::rest) ⟨(k, .bool false)::γ,σ,df⟩) C:=by infer_instance):DOps P ro n ops Q (⟨dst,op,ty,pos,after,some (j,want)⟩::rest) ⟨γ,σ,df⟩:=Pf hk hb (fun h=>(hz.to kc).1 (hbi.yes h)) (fun h=>(hz.to kc).2 (hbi.no h))
theorem moSX {e:Bool} {l:List (Bool × Oper)} {dst:Option Tmp} {op:Op} {j:Nat} {want:Bool} {k:Nat} {b:Bool} {p q C:Prop} (kc:C) (hk:(ops[j]?).bind (·.dst)=some k:=by with_unfolding_all rfl) (hb:γ.lookup k=some (.bool b):=by with_unfolding_all rfl) (hnl:NotLit b:=by ((fail_if_success (with_reducible exact litT));(fail_if_success (with_reducible exact litF));exact NotLit.mk)) (hbi:BoolIs b p q:=by infer_instance) (hz:T2 p q (MO P ro n ops N σ0 Q df ((e,⟨dst,op,ty,pos,after,some (j,want)⟩)::l) ((k, .bool true)::γ) σ) (MO P ro n ops N σ0 Q df ((e,⟨dst,op,ty,pos,after,some (j,want)⟩)::l) ((k, .bool false)::γ) σ) C:=by infer_instance):MO P ro n ops N σ0 Q df ((e,⟨dst,op,ty,pos,after,some (j,want)⟩)::l) γ σ:=Tr hk hb (fun h=>(hz.to kc).1 (hbi.yes h)) (fun h=>(hz.to kc).2 (hbi.no h))
end
abbrev OT:=List (Nat × Bool × List (Nat × Nat) × List Nat)
def runO:List (Nat × Nat)->List Nat
 | []=>[]
 | (a,k)::r=>List.range' a k++runO r
def lookO (i:Nat):OT->Option (List Nat × List Nat)
 | []=>none
 | (j,_,o,e)::r=>if i==j then some (runO o,e) else lookO i r
def UH (i:Nat):OT->Option (List Nat × List Nat)
 | []=>none
 | (j,b,o,e)::r=>if i==j && b then some ((runO o).dropLast,e.filter fun x=>x+1 != (runO o).length) else UH i r
structure Tab (t:OT):Prop
def delO (i:Nat) (t:OT):OT:=t.filter fun x=>x.1 != i
section
variable {P:Program} {ro:Option Nat} {n:Nat} {Q:DX->St->Prop} {df:List DDf} {γ:List (Nat × D)} {σ:Sig}
theorem mixX {lo:List Oper} {id:Nat} {tb:OT} (_:Tab tb) {ord E:List Nat} {lp:List (Bool × Oper)} (h:MO prog ro n lo.toArray 334 σ Q df lp γ σ) (hk:lookO id tb=some (ord,E):=by with_unfolding_all rfl) (hB:EO lo.toArray E ord=true:=by kernel_rfl) (hl:Ga lo E ord=some lp:=by with_unfolding_all rfl):DWp prog ro n (.region id lo.toArray true) Q ⟨γ,σ,df⟩:=mix ord E h hB hl
theorem mixY {lo:List Oper} {id:Nat} {tb:OT} (_:Tab tb) {ord E:List Nat} {lp:List (Bool × Oper)} {ol:Oper} (h:MO prog ro n lo.toArray 334 σ (Then (fun s=>DOps prog ro n lo.toArray Q [ol] s) Q) df lp γ σ) (hk:UH id tb=some (ord,E):=by with_unfolding_all rfl) (hB:IE lo.toArray E ord=true:=by kernel_rfl) (hol:nthO lo (lo.length-1)=some ol:=by with_unfolding_all rfl) (hl:Ga lo E ord=some lp:=by with_unfolding_all rfl):DWp prog ro n (.region id lo.toArray true) Q ⟨γ,σ,df⟩:=mixL ord E h hB hol hl
end
theorem walkQ {F G' G:Prop} {tb:OT} {vars:List Nat} (hs:VarsAre vars->Hold F->Tab tb->Hold G'->G:=by
 intro hv fx tb hG
 repeat1' (first
  | (with_reducible first | refine G5 ?_ | refine Ii ?_ | refine KL ?_ | refine H8 ?_ | refine Hp ?_ | refine L5 ?_ | refine R9 (by decide) ?_ | refine NG ?_ | refine IQ ?_ | refine J8 ?_ | refine J9 ?_ | refine Ln ?_ | refine Lo ?_ | refine NQ ?_ | refine Be ?_ | refine GW ?_ | refine QU ?_)
  | ((with_reducible refine Gm (d := ?_) (γr := ?_) Ad ?h1 ?h2 ?hl ?hd ?_);(case h1=>rfl);(case h2=>rfl);(case hl=>rfl);(case hd=>exact tdS fx))
  | ((with_reducible refine Hb (d := ?_) (k := ?_) (γr := ?_) Ad ?h1 ?h2 ?hk ?hb ?hl ?hd ?_);(case h1=>rfl);(case h2=>rfl);(case hk=>rfl);(case hb=>rfl);(case hl=>rfl);(case hd=>exact tdS fx))
  | ((with_reducible refine Hc (d := ?_) (γr := ?_) Ad ?h1 ?hl ?hd ?_);(case h1=>rfl);(case hl=>rfl);(case hd=>exact tdS fx))
  | ((with_reducible refine Ny (d := ?_) (γr := ?_) Ad ?h1 ?h2 ?hl ?hd ?_);(case h1=>rfl);(case h2=>rfl);(case hl=>rfl);(case hd=>exact tdS fx))
  | ((with_reducible refine KZ (d := ?_) (k := ?_) (γr := ?_) Ad ?h1 ?h2 ?hk ?hb ?hl ?hd ?_);(case h1=>rfl);(case h2=>rfl);(case hk=>rfl);(case hb=>rfl);(case hl=>rfl);(case hd=>exact tdS fx))
  | ((with_reducible refine L0 (d := ?_) (γr := ?_) Ad ?h1 ?hl ?hd ?_);(case h1=>rfl);(case hl=>rfl);(case hd=>exact tdS fx))
  | ((with_reducible refine Ij (k := ?_) Ak ?hk ?hb ?h1 ?h2 ?_);(case hk=>rfl);(case hb=>rfl);(case h1=>rfl);(case h2=>rfl))
  | ((with_reducible refine H9 (k := ?_) Ak ?hk ?hb ?h1 ?h2 ?_);(case hk=>rfl);(case hb=>rfl);(case h1=>rfl);(case h2=>rfl))
  | ((with_reducible refine Ha (k := ?_) Ak ?hk ?hb ?h1 ?_);(case hk=>rfl);(case hb=>rfl);(case h1=>rfl))
  | ((with_reducible refine G6 (k := ?_) Ak ?hk ?hb ?h1 ?_);(case hk=>rfl);(case hb=>rfl);(case h1=>rfl))
  | ((with_reducible refine KW (k := ?_) ?hk ?hb ?h1 ?h2 ?_);(case hk=>rfl);(case hb=>rfl);(case h1=>rfl);(case h2=>rfl))
  | ((with_reducible refine KV (k := ?_) ?hk ?hb ?h1 ?h2 ?_);(case hk=>rfl);(case hb=>rfl);(case h1=>rfl);(case h2=>rfl))
  | ((with_reducible refine KX (k := ?_) ?hk ?hb ?h1 ?_);(case hk=>rfl);(case hb=>rfl);(case h1=>rfl))
  | ((with_reducible refine ID (k := ?_) ?hk ?hb ?h1 ?_);(case hk=>rfl);(case hb=>rfl);(case h1=>rfl))
  | ((with_reducible refine KN (d := ?_) (σ' := ?_) (γr := ?_) Ad ?hl ?he ?h1 ?_);(case hl=>rfl);(case he=>exact tdE fx);(case h1=>rfl))
  | ((with_reducible refine Im (d := ?_) (σ' := ?_) (γr := ?_) Ad ?hl ?he ?_);(case hl=>rfl);(case he=>exact tdE fx))
  | ((with_reducible refine NA (d := ?_) (σ' := ?_) (γr := ?_) Ad ?hl ?he ?h1 ?hC ?_);(case hl=>rfl);(case he=>exact tdE fx);(case h1=>rfl);(case hC=>first | exact Sub.refl _ | assumption | exact (Sub.refl _).set (by assumption)))
  | ((with_reducible refine NB (d := ?_) (σ' := ?_) (γr := ?_) Ad ?hl ?he ?hC ?_);(case hl=>rfl);(case he=>exact tdE fx);(case hC=>first | exact Sub.refl _ | assumption | exact (Sub.refl _).set (by assumption)))
  | ((with_reducible refine Ik (r := ?_) (γr := ?_) (xs := ?_) (ys := ?_) (fs := ?_) Ad ?hE ?h1 ?hl ?hx ?hy ?hk ?hd ?_);(case hE=>with_reducible first | exact Ko | exact Hs);(case h1=>rfl);(case hl=>rfl);(case hx=>rfl);(case hy=>rfl);(case hk=>simp<;>rfl);(case hd=>exact tdE fx))
  | ((with_reducible refine Nz (r := ?_) (γr := ?_) (xs := ?_) (ys := ?_) (fs := ?_) Ad ?hE ?h1 ?hl ?hx ?hy ?hk ?hd ?_);(case hE=>with_reducible first | exact Ko | exact Hs);(case h1=>rfl);(case hl=>rfl);(case hx=>rfl);(case hy=>rfl);(case hk=>simp<;>rfl);(case hd=>exact tdE fx))
  | ((with_reducible refine He (γr := ?_) ?hl ?hc ?_);(case hl=>rfl);(case hc=>exact tdC fx))
  | ((with_reducible refine Hf (γr := ?_) ?hl ?hc ?_);(case hl=>rfl);(case hc=>exact tdC fx))
  | ((with_reducible refine Il (d := ?_) (cs := ?_) (γr := ?_) hv Ad ?h1 ?h2 ?h3 ?h4 ?h5 ?hl ?he ?h6 ?h7 ?h8 ?h9 ?_);(case h1=>rfl);(case h2=>rfl);(case h3=>rfl);(case h4=>rfl);(case h5=>simp);(case hl=>rfl);(case he=>exact tdF);(case h6=>rfl);(case h7=>exact tdF);(case h8=>simp);(case h9=>simp))
  | ((with_reducible refine Hd (d := ?_) (d2 := ?_) (cs := ?_) (γr := ?_) (γr2 := ?_) hv Ad ?h1 ?h2 ?h3 ?h4 ?h5 ?g1 ?g2 ?g3 ?g4 ?gl ?ge ?hl ?he ?h6 ?h7 ?h8 ?h9 ?_);(case h1=>rfl);(case h2=>rfl);(case h3=>rfl);(case h4=>rfl);(case h5=>rfl);(case g1=>rfl);(case g2=>rfl);(case g3=>rfl);(case g4=>simp);(case gl=>rfl);(case ge=>exact tdF);(case hl=>rfl);(case he=>exact tdF);(case h6=>rfl);(case h7=>exact tdF);(case h8=>simp);(case h9=>simp))
  | with_reducible refine UO ?_
  | with_reducible refine T3 ?_
  | with_reducible refine moIR ?_
  | with_reducible refine moIRG ?_
  | with_reducible refine UP ?_
  | with_reducible refine T4 ?_
  | with_reducible refine moIP ?_
  | with_reducible refine moIPG ?_
  | with_reducible refine nilE ?_
  | with_reducible refine nilN ?_
  | with_reducible refine boolE ?_
  | with_reducible refine boolN ?_
  | with_reducible refine MK ?_
  | with_reducible refine ML ?_
  | with_reducible refine mixY tb ?_
  | with_reducible refine mixX tb ?_
  | with_reducible refine needIR ?_
  | with_reducible refine needIP ?_
  | with_reducible refine Tt ?_
  | with_reducible refine Tu ?_
  | with_reducible refine cndX ?_
  | with_reducible refine splX ?_
  | with_reducible refine moSX ?_)
 exact hG.get):VarsAre vars->Hold F->Tab tb->Hold G'->G:=hs
theorem gf {F G' G:Prop} (fx:F) (h:G') (tb:OT:=[]) (vars:List Nat:=[]) (hs:VarsAre vars->Hold F->Tab tb->Hold G'->G:=by exact walkQ):G:=hs ⟨⟩ ⟨fx⟩ ⟨⟩ ⟨h⟩
theorem gz {G' G:Prop} (h:G') (tb:OT:=[]) (vars:List Nat:=[]) (hs:VarsAre vars->Hold True->Tab tb->Hold G'->G:=by exact walkQ):G:=hs ⟨⟩ ⟨trivial⟩ ⟨⟩ ⟨h⟩
theorem gi {a b:Prop} (x:a) (y:b):a/\b:=⟨x,y⟩
theorem en {f m : Nat} {fn : Func} {c : Code} {args : List D} {σ : Sig} {R : DE -> Sig -> Prop} (hf : prog.funcs[f]? = some fn) (hm : fn.ntmps = m) (h : DWp prog none m c (EL prog m fn R) { γ := Cq 0 args, σ }) (hb : fn.body = some c := by exact rfl) (hnm : (fn.name == "runtime.NumGoroutine") = false := by decide) (hn : args.length <= m := by simp) : DCall prog f args σ R := Lq hf hb hnm hm hn h
theorem gy {A B:Prop} (a:A) (b:B):Two A B:=⟨a,b⟩
theorem tdV {F p:Prop} (h:Hold F->p:=by
 intro fx
 have hF:=fx.get
 clear fx
 first | rfl | (simp [hF];done) | (simp_all;done) | (rw [Aa,Bool.eq_iff_iff];simp_all<;>omega)):Hold F->p:=h
section
variable {P:Program} {n:Nat} {γ:List (Nat × D)} {σ:Sig}
theorem fe1 {F:Prop} {fn:Func} {v:DE} {σ':Sig} {t:Nat} {d d':D} (fx:F) (hσ:Sub σ' σ:=by exact tdU) (hr:fn.results = #[.tmp t]:=by with_unfolding_all rfl) (hl:γ.lookup t=some d:=by with_unfolding_all rfl) (hw:WkD d d':=by exact tdW) (hq:Hold F->DE.ret d'=v:=by first | exact tdV | fail):EL P n fn (fun x τ=>x=v/\τ=σ') .ret ⟨γ,σ,[]⟩:=fin1 ⟨hq ⟨fx⟩,rfl⟩ hσ hr hl hw
theorem fe0 {F:Prop} {fn:Func} {v:DE} {σ':Sig} (fx:F) (hσ:Sub σ' σ:=by exact tdU) (hr:fn.results = #[]:=by with_unfolding_all rfl) (hq:Hold F->DE.ret (.tup [])=v:=by first | exact tdV | fail):EL P n fn (fun x τ=>x=v/\τ=σ') .ret ⟨γ,σ,[]⟩:=fin0 ⟨hq ⟨fx⟩,rfl⟩ hσ hr
theorem fe2 {F:Prop} {fn:Func} {v:DE} {σ':Sig} {t u:Nat} {d d' e e':D} (fx:F) (hσ:Sub σ' σ:=by exact tdU) (hr:fn.results = #[.tmp t, .tmp u]:=by with_unfolding_all rfl) (hl:γ.lookup t=some d:=by with_unfolding_all rfl) (hl2:γ.lookup u=some e:=by with_unfolding_all rfl) (htu:decide (u=t)=false:=by with_unfolding_all rfl) (hw:WkD d d':=by exact tdW) (hw2:WkD e e':=by exact tdW) (hq:Hold F->DE.ret (.tup [d',e'])=v:=by first | exact tdV | fail):EL P n fn (fun x τ=>x=v/\τ=σ') .ret ⟨γ,σ,[]⟩:=fin2 ⟨hq ⟨fx⟩,rfl⟩ hσ hr hl hl2 htu hw hw2
end
theorem td1 {p:Prop} (h:p:=by first | omega | (simp;omega)):p:=h
theorem td2 {p:Prop} (h:p:=by first | omega | (simp_all;done) | (simp_all;omega)):p:=h
theorem td3 {p:Prop} (h:p:=by first | omega | simp):p:=h
theorem goX1 {F G' G:Prop} (fx:F) (h:G') (hs:VarsAre []->Hold F->Hold G'->G:=by
 intro hv fx hG
 (first
  | (with_reducible first | refine G5 ?_ | refine Ii ?_ | refine KL ?_ | refine H8 ?_ | refine Hp ?_ | refine L5 ?_ | refine R9 (by decide) ?_ | refine NG ?_ | refine IQ ?_ | refine J8 ?_ | refine J9 ?_ | refine Ln ?_ | refine Lo ?_ | refine NQ ?_ | refine Be ?_ | refine GW ?_ | refine QU ?_)
  | ((with_reducible refine Gm (d := ?_) (γr := ?_) Ad ?h1 ?h2 ?hl ?hd ?_);(case h1=>rfl);(case h2=>rfl);(case hl=>rfl);(case hd=>exact tdS fx))
  | ((with_reducible refine Hb (d := ?_) (k := ?_) (γr := ?_) Ad ?h1 ?h2 ?hk ?hb ?hl ?hd ?_);(case h1=>rfl);(case h2=>rfl);(case hk=>rfl);(case hb=>rfl);(case hl=>rfl);(case hd=>exact tdS fx))
  | ((with_reducible refine Hc (d := ?_) (γr := ?_) Ad ?h1 ?hl ?hd ?_);(case h1=>rfl);(case hl=>rfl);(case hd=>exact tdS fx))
  | ((with_reducible refine Ny (d := ?_) (γr := ?_) Ad ?h1 ?h2 ?hl ?hd ?_);(case h1=>rfl);(case h2=>rfl);(case hl=>rfl);(case hd=>exact tdS fx))
  | ((with_reducible refine KZ (d := ?_) (k := ?_) (γr := ?_) Ad ?h1 ?h2 ?hk ?hb ?hl ?hd ?_);(case h1=>rfl);(case h2=>rfl);(case hk=>rfl);(case hb=>rfl);(case hl=>rfl);(case hd=>exact tdS fx))
  | ((with_reducible refine L0 (d := ?_) (γr := ?_) Ad ?h1 ?hl ?hd ?_);(case h1=>rfl);(case hl=>rfl);(case hd=>exact tdS fx))
  | ((with_reducible refine Ij (k := ?_) Ak ?hk ?hb ?h1 ?h2 ?_);(case hk=>rfl);(case hb=>rfl);(case h1=>rfl);(case h2=>rfl))
  | ((with_reducible refine H9 (k := ?_) Ak ?hk ?hb ?h1 ?h2 ?_);(case hk=>rfl);(case hb=>rfl);(case h1=>rfl);(case h2=>rfl))
  | ((with_reducible refine Ha (k := ?_) Ak ?hk ?hb ?h1 ?_);(case hk=>rfl);(case hb=>rfl);(case h1=>rfl))
  | ((with_reducible refine G6 (k := ?_) Ak ?hk ?hb ?h1 ?_);(case hk=>rfl);(case hb=>rfl);(case h1=>rfl))
  | ((with_reducible refine KW (k := ?_) ?hk ?hb ?h1 ?h2 ?_);(case hk=>rfl);(case hb=>rfl);(case h1=>rfl);(case h2=>rfl))
  | ((with_reducible refine KV (k := ?_) ?hk ?hb ?h1 ?h2 ?_);(case hk=>rfl);(case hb=>rfl);(case h1=>rfl);(case h2=>rfl))
  | ((with_reducible refine KX (k := ?_) ?hk ?hb ?h1 ?_);(case hk=>rfl);(case hb=>rfl);(case h1=>rfl))
  | ((with_reducible refine ID (k := ?_) ?hk ?hb ?h1 ?_);(case hk=>rfl);(case hb=>rfl);(case h1=>rfl))
  | ((with_reducible refine KN (d := ?_) (σ' := ?_) (γr := ?_) Ad ?hl ?he ?h1 ?_);(case hl=>rfl);(case he=>exact tdE fx);(case h1=>rfl))
  | ((with_reducible refine Im (d := ?_) (σ' := ?_) (γr := ?_) Ad ?hl ?he ?_);(case hl=>rfl);(case he=>exact tdE fx))
  | ((with_reducible refine NA (d := ?_) (σ' := ?_) (γr := ?_) Ad ?hl ?he ?h1 ?hC ?_);(case hl=>rfl);(case he=>exact tdE fx);(case h1=>rfl);(case hC=>first | exact Sub.refl _ | assumption | exact (Sub.refl _).set (by assumption)))
  | ((with_reducible refine NB (d := ?_) (σ' := ?_) (γr := ?_) Ad ?hl ?he ?hC ?_);(case hl=>rfl);(case he=>exact tdE fx);(case hC=>first | exact Sub.refl _ | assumption | exact (Sub.refl _).set (by assumption)))
  | ((with_reducible refine Ik (r := ?_) (γr := ?_) (xs := ?_) (ys := ?_) (fs := ?_) Ad ?hE ?h1 ?hl ?hx ?hy ?hk ?hd ?_);(case hE=>with_reducible first | exact Ko | exact Hs);(case h1=>rfl);(case hl=>rfl);(case hx=>rfl);(case hy=>rfl);(case hk=>simp<;>rfl);(case hd=>exact tdE fx))
  | ((with_reducible refine Nz (r := ?_) (γr := ?_) (xs := ?_) (ys := ?_) (fs := ?_) Ad ?hE ?h1 ?hl ?hx ?hy ?hk ?hd ?_);(case hE=>with_reducible first | exact Ko | exact Hs);(case h1=>rfl);(case hl=>rfl);(case hx=>rfl);(case hy=>rfl);(case hk=>simp<;>rfl);(case hd=>exact tdE fx))
  | ((with_reducible refine He (γr := ?_) ?hl ?hc ?_);(case hl=>rfl);(case hc=>exact tdC fx))
  | ((with_reducible refine Hf (γr := ?_) ?hl ?hc ?_);(case hl=>rfl);(case hc=>exact tdC fx))
  | ((with_reducible refine Il (d := ?_) (cs := ?_) (γr := ?_) hv Ad ?h1 ?h2 ?h3 ?h4 ?h5 ?hl ?he ?h6 ?h7 ?h8 ?h9 ?_);(case h1=>rfl);(case h2=>rfl);(case h3=>rfl);(case h4=>rfl);(case h5=>simp);(case hl=>rfl);(case he=>exact tdF);(case h6=>rfl);(case h7=>exact tdF);(case h8=>simp);(case h9=>simp))
  | ((with_reducible refine Hd (d := ?_) (d2 := ?_) (cs := ?_) (γr := ?_) (γr2 := ?_) hv Ad ?h1 ?h2 ?h3 ?h4 ?h5 ?g1 ?g2 ?g3 ?g4 ?gl ?ge ?hl ?he ?h6 ?h7 ?h8 ?h9 ?_);(case h1=>rfl);(case h2=>rfl);(case h3=>rfl);(case h4=>rfl);(case h5=>rfl);(case g1=>rfl);(case g2=>rfl);(case g3=>rfl);(case g4=>simp);(case gl=>rfl);(case ge=>exact tdF);(case hl=>rfl);(case he=>exact tdF);(case h6=>rfl);(case h7=>exact tdF);(case h8=>simp);(case h9=>simp))
  | with_reducible refine UO ?_
  | with_reducible refine T3 ?_
  | with_reducible refine moIR ?_
  | with_reducible refine moIRG ?_
  | with_reducible refine UP ?_
  | with_reducible refine T4 ?_
  | with_reducible refine moIP ?_
  | with_reducible refine moIPG ?_
  | with_reducible refine nilE ?_
  | with_reducible refine nilN ?_
  | with_reducible refine boolE ?_
  | with_reducible refine boolN ?_
  | with_reducible refine MK ?_
  | with_reducible refine ML ?_)
 exact hG.get):G:=hs ⟨⟩ ⟨fx⟩ ⟨h⟩
end Go.DL
