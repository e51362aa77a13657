/- Part of the proof that the last text ends. -/
import Derived.Test.YtlfimpogphmbdaaGreatM14
import Derived.Test.YtlfimpogphmbdaaGreatM12
set_option linter.all false
namespace Go.DL
open Go.Proofs.Tryz
open Go Go.Proofs
def hitD (tab:Nat->Ty) (e:Nat) (c:Bool):Option (Option (Nat × D))->Option D
 | some (some (_,d))=>some (if c then .tup [d, .bool true] else d)
 | some none=>match GE (tab e) with
  | some z=>some (if c then .tup [z, .bool false] else z)
  | none=>none
 | none=>none
@[simp high] theorem lookupD_h {tab:Nat->Ty} {V:Sig} {c:Bool} {T e:Nat} {x d:D}:Gv tab V c (.map T e) x d=if A6 (tab e).k || !Bf (tab T).k d then none else match Cm V x with
  | some l=>hitD tab e c (CR (tab T).k d l 0)
  | none=>none:=by
 rw [Sp]
 by_cases hc:(A6 (tab e).k || !Bf (tab T).k d)=true
 ·rw [if_pos hc,if_pos hc]
 ·rw [if_neg hc,if_neg hc]
  cases Cm V x with
  | none=>rfl
  | some l =>
   cases h:CR (tab T).k d l 0 with
   | none=>simp only [h];rfl
   | some r=>cases r with
    | none=>simp only [h];rfl
    | some p=>simp only [h];rfl
@[simp] theorem hitD_some (tab:Nat->Ty) (e i:Nat) (c:Bool) (d:D):hitD tab e c (some (some (i,d)))=some (if c then .tup [d, .bool true] else d):=rfl
def ins {α:Type} [DecidableEq α] (k:α) (s:List α):List α:=if k ∈ s then s else s++[k]
theorem Jd {α:Type} [DecidableEq α] {k x:α} {s:List α}:x ∈ ins k s ↔ x=k\/x ∈ s:=by
 unfold ins
 by_cases h:k ∈ s
 ·rw [if_pos h];exact ⟨.inr,fun h'=>h'.elim (fun e=>e ▸ h) id⟩
 ·rw [if_neg h];simp [or_comm]
def getM {α β:Type} [DecidableEq α] (z:β) (k:α):List (α × β)->β
 | []=>z
 | (k',v)::r=>if k=k' then v else getM z k r
def hasM {α β:Type} [DecidableEq α] (k:α):List (α × β)->Bool
 | []=>false
 | (k',_)::r=>decide (k=k') || hasM k r
def putM {α β:Type} [DecidableEq α] (k:α) (v:β):List (α × β)->List (α × β)
 | []=>[(k,v)]
 | (k',v')::r=>if k=k' then (k,v)::r else (k',v')::putM k v r
theorem BP {α β:Type} [DecidableEq α] (z:β) (k x:α) (v:β) : ∀ m:List (α × β),getM z x (putM k v m)=if x=k then v else getM z x m
 | []=>by simp [putM,getM]
 | (k',v')::r=>by
  by_cases h:k=k'
  ·subst h;rw [putM,if_pos rfl,getM];by_cases hx:x=k<;>simp [hx,getM]
  ·rw [putM,if_neg h,getM,BP z k x v r]
   by_cases hx:x=k'
   ·rw [if_pos hx,if_neg (fun e=>h (e.symm.trans hx)),getM,if_pos hx]
   ·rw [if_neg hx,getM,if_neg hx]
theorem Pi {α β:Type} [DecidableEq α] (k x:α) (v:β) : ∀ m:List (α × β),hasM x (putM k v m)=(decide (x=k) || hasM x m)
 | []=>by simp [putM,hasM]
 | (k',v')::r=>by
  by_cases h:k=k'
  ·subst h;rw [putM,if_pos rfl,hasM,hasM];cases decide (x=k)<;>simp
  ·rw [putM,if_neg h,hasM,Pi k x v r,hasM]
   cases decide (x=k')<;>cases decide (x=k)<;>simp
section
def eM {α β:Type} (kf:α->D) (f:β->D) (m:List (α × β)):List (D × D):=m.map fun p=>(kf p.1,f p.2)
def eS {α:Type} (kf:α->D) (s:List α):List (D × D):=s.map fun k=>(kf k, .bool true)
structure KeyOK {α:Type} [DecidableEq α] (kt:TyK) (kf:α->D):Prop where
 key : ∀ a b:α,keyB kt (kf a) (kf b)=some (decide (a=b))
theorem keyI:KeyOK (.int .i64) dI:=⟨fun a b=>by simp [keyB,EX]⟩
theorem keyS:KeyOK .str D.str:=⟨fun a b=>by simp [keyB,EX]⟩
variable {α β:Type} [DecidableEq α] {kt:TyK} {kf:α->D} (hk:KeyOK kt kf)
include hk
theorem Ot (k:α) : ∀ (s:List α) (i:Nat),(k ∈ s -> ∃ j,CR kt (kf k) (eS kf s) i=some (some (i+j, .bool true))/\s[j]? = some k)/\(k ∉ s->CR kt (kf k) (eS kf s) i=some none)
 | [],i=>by simp [eS,CR]
 | x::s,i=>by
  obtain ⟨h1,h2⟩:=Ot k s (i+1)
  simp only [eS] at h1 h2
  simp only [eS,List.map_cons,CR,hk.key]
  by_cases h:k=x
  ·subst h
   simp only [decide_true]
   exact ⟨fun _=>⟨0,rfl,rfl⟩,fun h=>absurd (by simp) h⟩
  ·have e:decide (k=x)=false:=by simp [h]
   simp only [e]
   refine ⟨fun hm => ?_,fun hm=>h2 fun hm'=>hm (by simp [hm'])⟩
   obtain ⟨j,a,b⟩:=h1 ((List.mem_cons.1 hm).resolve_left h)
   exact ⟨j+1,by rw [a];congr 3;omega,by simpa using b⟩
theorem Wp {tab:Nat->Ty} {e:Nat} (hz:GE (tab e)=some (.bool false)) (k:α) (s:List α):hitD tab e false (CR kt (kf k) (eS kf s) 0)=some (.bool (decide (k ∈ s))):=by
 obtain ⟨h1,h2⟩:=Ot hk k s 0
 by_cases h:k ∈ s
 ·obtain ⟨j,a,_⟩:=h1 h;rw [a];simp [h]
 ·rw [h2 h];simp only [hitD,hz,Bool.false_eq_true,if_false,h,decide_false]
theorem We (k:α) (s:List α):C7 kt (kf k) (.bool true) (eS kf s)=some (eS kf (ins k s)):=by
 obtain ⟨h1,h2⟩:=Ot hk k s 0
 unfold C7 ins
 by_cases h:k ∈ s
 ·obtain ⟨j,a,b⟩:=h1 h
  rw [a,if_pos h]
  simp only [Nat.zero_add,Option.some.injEq]
  apply List.ext_getElem?
  intro i
  rw [List.getElem?_set]
  by_cases hi:j=i
  ·subst hi
   have hlt:j < s.length:=(List.getElem?_eq_some_iff.1 b).1
   have hb:s[j]=k:=by rw [List.getElem?_eq_getElem hlt] at b;exact Option.some.inj b
   simp [eS,hlt,hb]
  ·rw [if_neg hi]
 ·rw [h2 h,if_neg h];simp [eS]
theorem Jw (f:β->D) (k:α) : ∀ (m:List (α × β)) (i:Nat),(hasM k m=true -> ∃ j v,CR kt (kf k) (eM kf f m) i=some (some (i+j,f v))/\(∀ z,getM z k m=v) /\ ∀ w,(eM kf f m).set j (kf k,f w)=eM kf f (putM k w m)) /\
  (hasM k m=false->CR kt (kf k) (eM kf f m) i=some none/\(∀ z,getM z k m=z) /\ ∀ w,eM kf f m++[(kf k,f w)]=eM kf f (putM k w m))
 | [],i=>by simp [eM,CR,hasM,getM,putM]
 | (x,y)::m,i=>by
  obtain ⟨h1,h2⟩:=Jw f k m (i+1)
  simp only [eM] at h1 h2
  simp only [eM,List.map_cons,CR,hk.key,hasM]
  by_cases h:k=x
  ·subst h
   simp only [decide_true,Bool.true_or]
   refine ⟨fun _=>⟨0,y,rfl,fun z=>by simp [getM],fun w=>by simp [putM]⟩,fun h=>by cases h⟩
  ·have e:decide (k=x)=false:=by simp [h]
   simp only [e,Bool.false_or]
   refine ⟨fun hm => ?_,fun hm => ?_⟩
   ·obtain ⟨j,v,a,b,c⟩:=h1 hm
    refine ⟨j+1,v,by rw [a];congr 3;omega,fun z=>by rw [getM,if_neg h];exact b z,fun w => ?_⟩
    rw [putM,if_neg h,List.map_cons,List.set_cons_succ,c w]
   ·obtain ⟨a,b,c⟩:=h2 hm
    refine ⟨a,fun z=>by rw [getM,if_neg h];exact b z,fun w => ?_⟩
    rw [putM,if_neg h,List.map_cons,List.cons_append,c w]
theorem hit_eM {tab:Nat->Ty} {e:Nat} {z:β} {zd:D} (f:β->D) (hz:GE (tab e)=some zd) (k:α) (m:List (α × β)):hitD tab e false (CR kt (kf k) (eM kf f m) 0)=some (if hasM k m then f (getM z k m) else zd):=by
 obtain ⟨h1,h2⟩:=Jw hk f k m 0
 cases h:hasM k m with
 | true=>obtain ⟨j,v,a,b,_⟩:=h1 h;rw [a,b z];simp
 | false=>obtain ⟨a,b,_⟩:=h2 h;rw [a];simp only [hitD,hz,Bool.false_eq_true,if_false]
theorem hit_eM' {tab:Nat->Ty} {e:Nat} {z:β} (f:β->D) (hz:GE (tab e)=some (f z)) (k:α) (m:List (α × β)):hitD tab e false (CR kt (kf k) (eM kf f m) 0)=some (f (getM z k m)):=by
 obtain ⟨h1,h2⟩:=Jw hk f k m 0
 cases h:hasM k m with
 | true=>obtain ⟨j,v,a,b,_⟩:=h1 h;rw [a,b z];simp
 | false=>obtain ⟨a,b,_⟩:=h2 h;rw [a,b z];simp only [hitD,hz,Bool.false_eq_true,if_false,if_true]
theorem LU {tab:Nat->Ty} {e:Nat} {z:β} (f:β->D) (hz:GE (tab e)=some (f z)) (k:α) (m:List (α × β)):hitD tab e true (CR kt (kf k) (eM kf f m) 0)=some (.tup [f (getM z k m), .bool (hasM k m)]):=by
 obtain ⟨h1,h2⟩:=Jw hk f k m 0
 cases h:hasM k m with
 | true=>obtain ⟨j,v,a,b,_⟩:=h1 h;rw [a,b z];simp
 | false=>obtain ⟨a,b,_⟩:=h2 h;rw [a,b z];simp only [hitD,hz,Bool.false_eq_true,if_false,if_true]
theorem P3 (f:β->D) (k:α) (v:β) (m:List (α × β)):C7 kt (kf k) (f v) (eM kf f m)=some (eM kf f (putM k v m)):=by
 obtain ⟨h1,h2⟩:=Jw hk f k m 0
 unfold C7
 cases h:hasM k m with
 | true=>obtain ⟨j,w,a,_,c⟩:=h1 h;rw [a];simp only [Nat.zero_add];rw [c v]
 | false=>obtain ⟨a,_,c⟩:=h2 h;rw [a];simp only;rw [c v]
end
def eSI (s:List Int):List (D × D):=eS dI s
def eSS (s:List Str):List (D × D):=eS D.str s
def eSN (m:List (Str × Int)):List (D × D):=eM D.str dI m
def eIN (m:List (Int × Int)):List (D × D):=eM dI dI m
@[simp] theorem hitI4 (k:Int) (s:List Int):hitD tab 4 false (CR (.int .i64) (.int .i64 k) (eSI s) 0)=some (.bool (decide (k ∈ s))):=Wp keyI rfl k s
@[simp] theorem hitS4 (k:Str) (s:List Str):hitD tab 4 false (CR .str (.str k) (eSS s) 0)=some (.bool (decide (k ∈ s))):=(Wp (tab:=tab) (e:=4) keyS rfl k s).trans (congrArg (fun b=>some (D.bool b)) (decide_eq_decide.2 Iff.rfl))
@[simp] theorem putI4 (k:Int) (s:List Int):C7 (.int .i64) (.int .i64 k) (.bool true) (eSI s)=some (eSI (ins k s)):=We keyI k s
@[simp] theorem putS4 (k:Str) (s:List Str):C7 .str (.str k) (.bool true) (eSS s)=some (eSS (ins k s)):=We keyS k s
@[simp] theorem hitSN (k:Str) (m:List (Str × Int)):hitD tab 3 false (CR .str (.str k) (eSN m) 0)=some (.int .i64 (getM 0 k m)):=hit_eM' keyS dI rfl k m
@[simp] theorem hitSNok (k:Str) (m:List (Str × Int)):hitD tab 3 true (CR .str (.str k) (eSN m) 0)=some (.tup [.int .i64 (getM 0 k m), .bool (hasM k m)]):=LU keyS dI rfl k m
@[simp] theorem putSN (k:Str) (v:Int) (m:List (Str × Int)):C7 .str (.str k) (.int .i64 v) (eSN m)=some (eSN (putM k v m)):=P3 keyS dI k v m
@[simp] theorem hitINok (k:Int) (m:List (Int × Int)):hitD tab 3 true (CR (.int .i64) (.int .i64 k) (eIN m) 0)=some (.tup [.int .i64 (getM 0 k m), .bool (hasM k m)]):=LU keyI dI rfl k m
@[simp] theorem putIN (k v:Int) (m:List (Int × Int)):C7 (.int .i64) (.int .i64 k) (.int .i64 v) (eIN m)=some (eIN (putM k v m)):=P3 keyI dI k v m
def eIO (m:List (Int × List Int)):List (D × D):=eM dI (fun l=>sl (cI l)) m
@[simp] theorem putIO (k:Int) (v:List Int) (m:List (Int × List Int)):C7 (.int .i64) (.int .i64 k) (sl (cI v)) (eIO m)=some (eIO (putM k v m)):=P3 keyI (fun l=>sl (cI l)) k v m
theorem hitIO (k:Int) (m:List (Int × List Int)):hitD tab 23 false (CR (.int .i64) (.int .i64 k) (eIO m) 0)=some (if hasM k m then sl (cI (getM [] k m)) else .nils):=hit_eM keyI _ rfl k m
section
variable {P:Program} {ro:Option Nat} {n:Nat} {Q:DX->St->Prop} {df:List DDf} {γ:List (Nat × D)} {V:Sig}
theorem Qe {Sk:Fr} {α β δ ε:Type} {c:Code} (keep:List Nat) (I:α->β->δ->ε->Prop) (ov:α->β->δ->ε->Fr) (sg:α->β->δ->ε->Sig) (μ:α->β->δ->ε->Nat) (x0:α) (y0:β) (z0:δ) (u0:ε) (h0:I x0 y0 z0 u0)
  (round : ∀ x y z u,I x y z u->DWp P ro n c (Then (fun s' => ∃ x' y' z' u',I x' y' z' u'/\μ x' y' z' u' < μ x y z u/\Wk P n s' ⟨ov x' y' z' u'++Sk,sg x' y' z' u',df⟩) Q) ⟨ov x y z u++Sk,sg x y z u,df⟩) (hk:DD γ keep=some Sk:=by exact tdR) (h1:TellsR γ (ov x0 y0 z0 u0++Sk):=by (first | refine GN ?_ ?_ | skip)<;>(repeat' first | exact GM | refine FH tdR ?_ ?_ | (first | exact A9 _ | exact Az _ _ | exact Al _ (.inl rfl) | exact E1 _ | (refine Iy _ ?_;first | omega | (simp;done) | (simp;omega)) | (refine B0 ?_;(simp;done)) | (refine B0 ?_;(simp [cI,cS,cII,Dr,Ci,D1];done)) | (refine C6 _ ?_;(simp [cI,cS,cII];done)) | (refine B0 ?_;(simp_all;done)) | assumption))) (h2:Sub (sg x0 y0 z0 u0) V:=by first | exact Sub.refl _ | (refine Be ?_;simp;done) | assumption | exact (Sub.refl _).set (by assumption)):DWp P ro n (.loop c) Q ⟨γ,V,df⟩:=by
 refine FA (α:=α × β × δ × ε) keep (fun x=>I x.1 x.2.1 x.2.2.1 x.2.2.2) (fun x=>ov x.1 x.2.1 x.2.2.1 x.2.2.2) (fun x=>sg x.1 x.2.1 x.2.2.1 x.2.2.2) (fun x=>μ x.1 x.2.1 x.2.2.1 x.2.2.2) (x0,y0,z0,u0) hk h0 h1 h2 fun x hx=>FZ (round x.1 x.2.1 x.2.2.1 x.2.2.2 hx) ?_
 intro e s h
 cases e with
 | normal=>obtain ⟨x',y',z',u',h3,h4,h5⟩:=h;exact ⟨(x',y',z',u'),h3,h4,h5⟩
 | _=>exact h
theorem Qd {Sk:Fr} {α β δ ε ζ:Type} {c:Code} (keep:List Nat) (I:α->β->δ->ε->ζ->Prop) (ov:α->β->δ->ε->ζ->Fr) (sg:α->β->δ->ε->ζ->Sig) (μ:α->β->δ->ε->ζ->Nat) (x0:α) (y0:β) (z0:δ) (u0:ε) (v0:ζ) (h0:I x0 y0 z0 u0 v0)
  (round : ∀ x y z u v,I x y z u v->DWp P ro n c (Then (fun s' => ∃ x' y' z' u' v',I x' y' z' u' v'/\μ x' y' z' u' v' < μ x y z u v/\Wk P n s' ⟨ov x' y' z' u' v'++Sk,sg x' y' z' u' v',df⟩) Q) ⟨ov x y z u v++Sk,sg x y z u v,df⟩) (hk:DD γ keep=some Sk:=by exact tdR) (h1:TellsR γ (ov x0 y0 z0 u0 v0++Sk):=by (first | refine GN ?_ ?_ | skip)<;>(repeat' first | exact GM | refine FH tdR ?_ ?_ | (first | exact A9 _ | exact Az _ _ | exact Al _ (.inl rfl) | exact E1 _ | (refine Iy _ ?_;first | omega | (simp;done) | (simp;omega)) | (refine B0 ?_;(simp;done)) | (refine B0 ?_;(simp [cI,cS,cII,Dr,Ci,D1];done)) | (refine C6 _ ?_;(simp [cI,cS,cII];done)) | (refine B0 ?_;(simp_all;done)) | assumption))) (h2:Sub (sg x0 y0 z0 u0 v0) V:=by first | exact Sub.refl _ | (refine Be ?_;simp;done) | assumption | exact (Sub.refl _).set (by assumption)):DWp P ro n (.loop c) Q ⟨γ,V,df⟩:=by
 refine FA (α:=α × β × δ × ε × ζ) keep (fun x=>I x.1 x.2.1 x.2.2.1 x.2.2.2.1 x.2.2.2.2) (fun x=>ov x.1 x.2.1 x.2.2.1 x.2.2.2.1 x.2.2.2.2) (fun x=>sg x.1 x.2.1 x.2.2.1 x.2.2.2.1 x.2.2.2.2) (fun x=>μ x.1 x.2.1 x.2.2.1 x.2.2.2.1 x.2.2.2.2) (x0,y0,z0,u0,v0) hk h0 h1 h2 fun x hx=>FZ (round x.1 x.2.1 x.2.2.1 x.2.2.2.1 x.2.2.2.2 hx) ?_
 intro e s h
 cases e with
 | normal=>obtain ⟨x',y',z',u',v',h3,h4,h5⟩:=h;exact ⟨(x',y',z',u',v'),h3,h4,h5⟩
 | _=>exact h
variable {ops:Array Oper} {rest:List Oper} {Sr:List (Nat × D)} {t:Nat} {ty:TypeId} {pos:String} {after:Array Edge}
theorem newSI {T:Nat} (h : ∀ i,V i=none->DOps prog ro n ops Q rest ⟨(t, .map i)::γ,V.set i (.map (eSI [])),df⟩) (htn:decide (t < n)=true:=by exact tdR):DOps prog ro n ops Q (⟨some t, .makeMap T none,ty,pos,after,none⟩::rest) ⟨γ,V,df⟩:=newM h htn
theorem LE {T:Nat} (h : ∀ i,V i=none->DOps prog ro n ops Q rest ⟨(t, .map i)::γ,V.set i (.map (eSS [])),df⟩) (htn:decide (t < n)=true:=by exact tdR):DOps prog ro n ops Q (⟨some t, .makeMap T none,ty,pos,after,none⟩::rest) ⟨γ,V,df⟩:=newM h htn
theorem RO {T:Nat} (h : ∀ i,V i=none->DOps prog ro n ops Q rest ⟨(t, .map i)::γ,V.set i (.map (eSN [])),df⟩) (htn:decide (t < n)=true:=by exact tdR):DOps prog ro n ops Q (⟨some t, .makeMap T none,ty,pos,after,none⟩::rest) ⟨γ,V,df⟩:=newM h htn
theorem newIN {T:Nat} (h : ∀ i,V i=none->DOps prog ro n ops Q rest ⟨(t, .map i)::γ,V.set i (.map (eIN [])),df⟩) (htn:decide (t < n)=true:=by exact tdR):DOps prog ro n ops Q (⟨some t, .makeMap T none,ty,pos,after,none⟩::rest) ⟨γ,V,df⟩:=newM h htn
theorem newIO {T:Nat} (h : ∀ i,V i=none->DOps prog ro n ops Q rest ⟨(t, .map i)::γ,V.set i (.map (eIO [])),df⟩) (htn:decide (t < n)=true:=by exact tdR):DOps prog ro n ops Q (⟨some t, .makeMap T none,ty,pos,after,none⟩::rest) ⟨γ,V,df⟩:=newM h htn
theorem lkO {x y:Operand} {i:Nat} {k:Int} {m:List (Int × List Int)} (h:DOps prog ro n ops Q rest ⟨(t,sl (cI (getM [] k m)))::γ,V,df⟩) (hi:V i=some (.map (eIO m)):=by first | assumption | (simp;done))
  (hl:A5 γ (A8 [x,y])=some Sr:=by exact tdR) (hx:ev Sr x = .map i:=by exact tdR) (hy:ev Sr y=dI k:=by exact tdR) (htn:decide (t < n)=true:=by exact tdR) :
  DOps prog ro n ops Q (⟨some t, .lookup 183 x y false,ty,pos,after,none⟩::rest) ⟨γ,V,df⟩:=by
 refine GO (d:=if hasM k m then sl (cI (getM [] k m)) else .nils) Ae rfl htn hl ?_ ?_
 ·simp only [dopX_lk,hx,hy]
  simp [hi,hitIO]
 ·refine BF (BH (t:=t) (d:=sl (cI (getM [] k m))) ?_) (CG (γ:=(t,sl (cI (getM [] k m)))::γ) (fun j => ?_) h)
  ·rw [A7,if_pos rfl]
   cases hh:hasM k m with
   | true=>exact A9 _
   | false =>
    have:getM [] k m=[]:=by
     have key : ∀ m:List (Int × List Int),hasM k m=false->getM [] k m=[]:=fun m=>by
      induction m with
      | nil=>intro _;rfl
      | cons p m ih =>
       intro h
       simp only [hasM,Bool.or_eq_false_iff,decide_eq_false_iff_not] at h
       rw [getM,if_neg h.1];exact ih h.2
     exact key m hh
    rw [this];exact Al _ (.inl rfl)
  ·simp only [A7];split<;>rfl
end
theorem mS_at {V:Sig} {i sz:Nat} {X:DObj} {st:MR} {es:List (List D)} (h:mOK (V.set i X) sz st es):(∀ Y,mOK (V.set i Y) sz st es)/\(∀ Y,mS (V.set i Y) st es i=some Y) /\ ∀ Y Z,(mS (V.set i Y) st es).set i Z=mS (V.set i Z) st es:=by
 cases st with
 | none=>exact ⟨fun Y=>h,fun Y=>w7 .., fun Y Z=>w9 ..⟩
 | some x =>
  obtain ⟨k,cap,r⟩:=x
  obtain ⟨h1,h2,h3,h4⟩:=h
  have hki:k ≠ i:=fun e=>by rw [e,w7] at h1;cases h1
  rw [w8 _ _ hki] at h1
  refine ⟨fun Y=>⟨by rw [w8 _ _ hki];exact h1,h2,h3,h4⟩,fun Y => ?_,fun Y Z => ?_⟩
  ·simp only [mS];rw [w8 _ _ (Ne.symm hki),w7]
  ·simp only [mS];rw [Sig.set_comm _ _ _ (Ne.symm hki),w9];exact Sig.set_comm _ _ _ hki |>.symm ▸ rfl
theorem UH (a b:List Int):cI a++cI b=cI (a++b):=by simp [cI]
section
variable {ro:Option Nat} {n:Nat} {Q:DX->St->Prop} {df:List DDf} {γ Sr:List (Nat × D)} {V:Sig} {ops:Array Oper} {rest:List Oper} {t:Nat} {ty:TypeId} {pos:String} {after:Array Edge}
theorem mappI {T T' e e':Nat} {s x:Operand} {l m:List Int} {st:MR} (h : ∀ st',mOK V 1 st' (cI (l++m))->DOps prog ro n ops Q rest ⟨(t,mD st' (l++m).length)::γ,mS V st' (cI (l++m)),df⟩) (hm:mOK V 1 st (cI l):=by assumption)
  (hl:A5 γ (A8 [s,x])=some Sr:=by exact tdR) (hk:(tab T).k = .slice e:=by (simp<;>rfl)) (hk':(tab T').k = .slice e':=by (simp<;>rfl)) (he:A6 (tab e).k=false:=by simp) (hsz:(tab e).size=1:=by simp)
  (h1:ev Sr s=mD st l.length:=by exact tdR) (h2:esOf (ev Sr x)=some (cI m):=by (simp<;>with_unfolding_all rfl))
  (hb:(l.length+m.length)*(tab e).bytes<=140737488355328:=by first | (simp;done) | (simp;omega)) (hm2:l.length+m.length<=9223372036854775807:=by omega) (htn:decide (t < n)=true:=by exact tdR) :
  DOps prog ro n ops Q (⟨some t, .call { callee := .builtin .append,args := #[s,x],argTypes := #[T,T'] },ty,pos,after,none⟩::rest) ⟨γ,mS V st (cI l),df⟩:=by
 refine mapp (fun st' hm' => ?_) hm hl hk hk' he hsz (by rw [h1,Lf]) h2 (BN _) (by simp [cI,CL,D.flat]) (by simpa using hb) ?_ htn
 ·rw [UH] at hm' ⊢
  rw [Lf,Lf, <- List.length_append]
  exact h st' hm'
 ·simpa using hm2
end
structure ShlOf (k:IntKind) (a b:Int) where
 val:Int
 is:val=k.wrap (a*2 ^ (min b.toNat k.bits))
def shlI (k:IntKind) (a b:Int):ShlOf k a b:=⟨_,rfl⟩
theorem PX (k k':IntKind) (a b:Int) (h:0<=b):binD .shl (.int k a) (.int k' b)=some (.int k (shlI k a b).val):=by
 rw [(shlI k a b).is];simp only [binD,h,if_true]
class Ans (f:Nat) (us:List D) (V:Sig) (H:outParam Prop) (d:outParam D):Prop where
 call:H->DCall prog f us V (rS d V)
class Giv (f:Nat) (us:List D) (V:Sig) (H:outParam Prop) (c:outParam Bool) (d u:outParam D):Prop where
 call:H->DCall prog f us V fun x S'=>x=(if c then .ret d else .panic u)/\S'=V
theorem ah0 {f:Nat} {us:List D} {V:Sig} {d:D} (h:DCall prog f us V (rS d V)):Ans f us V (True) d:=⟨fun _=>h⟩
theorem ah1 {f:Nat} {us:List D} {V:Sig} {d:D} {p:Prop} (h:p->DCall prog f us V (rS d V)):Ans f us V (p) d:=⟨fun p=>h p⟩
theorem ah2 {f:Nat} {us:List D} {V:Sig} {d:D} {p q:Prop} (h:p->q->DCall prog f us V (rS d V)):Ans f us V (p/\q) d:=⟨fun ⟨p,q⟩=>h p q⟩
theorem ah3 {f:Nat} {us:List D} {V:Sig} {d:D} {p q r:Prop} (h:p->q->r->DCall prog f us V (rS d V)):Ans f us V (p/\q/\r) d:=⟨fun ⟨p,q,r⟩=>h p q r⟩
theorem ah4 {f:Nat} {us:List D} {V:Sig} {d:D} {p q r s:Prop} (h:p->q->r->s->DCall prog f us V (rS d V)):Ans f us V (p/\q/\r/\s) d:=⟨fun ⟨p,q,r,s⟩=>h p q r s⟩
theorem gh0 {f:Nat} {us:List D} {V:Sig} {c:Bool} {d u:D} (h:DCall prog f us V fun x S'=>x=(if c then .ret d else .panic u)/\S'=V):Giv f us V (True) c d u:=⟨fun _=>h⟩
theorem gh1 {f:Nat} {us:List D} {V:Sig} {c:Bool} {d u:D} {p:Prop} (h:p->DCall prog f us V fun x S'=>x=(if c then .ret d else .panic u)/\S'=V):Giv f us V (p) c d u:=⟨fun p=>h p⟩
theorem gh2 {f:Nat} {us:List D} {V:Sig} {c:Bool} {d u:D} {p q:Prop} (h:p->q->DCall prog f us V fun x S'=>x=(if c then .ret d else .panic u)/\S'=V):Giv f us V (p/\q) c d u:=⟨fun ⟨p,q⟩=>h p q⟩
class BoolIs (b:Bool) (p q:outParam Prop):Prop where
 yes:b=true->p
 no:b=false->q
instance (priority:=low) boolIs (b:Bool):BoolIs b (b=true) (b=false):=⟨id,id⟩
instance (priority:=high) boolIs_t:BoolIs true True False:=⟨fun _=>trivial,(fun h=>by cases h)⟩
instance (priority:=high) boolIs_f:BoolIs false False True:=⟨(fun h=>by cases h),fun _=>trivial⟩
instance boolIs_dec (p:Prop) [inst:Decidable p]:BoolIs (decide p) p (¬p):=⟨of_decide_eq_true,of_decide_eq_false⟩
instance boolIs_not (b:Bool) (p q:Prop) [h:BoolIs b p q]:BoolIs (!b) q p:=⟨fun e=>h.no (by cases b<;>simp_all),fun e=>h.yes (by cases b<;>simp_all)⟩
instance boolIs_and (a b:Bool) (p q p' q':Prop) [h:BoolIs a p q] [k:BoolIs b p' q']:BoolIs (a && b) (p/\p') (q\/q'):=⟨fun e=>by cases a<;>cases b<;>simp_all;exact ⟨h.yes rfl,k.yes rfl⟩,fun e=>by cases a with | false=>exact .inl (h.no rfl) | true=>exact .inr (k.no (by simpa using e))⟩
inductive NotLit (b:Bool):Prop
 | mk
structure Two (A B:Prop):Prop where
 a:A
 b:B
class T2 (p q A B:Prop) (C:outParam Prop):Prop where
 to:C->(p->A)/\(q->B)
instance (priority:=low) t2_two (p q A B:Prop):T2 p q A B (Two (p->A) (q->B)):=⟨fun h=>⟨h.a,h.b⟩⟩
instance (priority:=high) t2_a (A B:Prop):T2 True False A B A:=⟨fun h=>⟨fun _=>h,False.elim⟩⟩
instance (priority:=high) t2_b (A B:Prop):T2 False True A B B:=⟨fun h=>⟨False.elim,fun _=>h⟩⟩
theorem sd {p:Prop} (h:p:=by first | assumption | omega | simp):p:=h
theorem tdH {p:Prop} (h:p:=by (and_intros<;>first | trivial | assumption | omega | (simp;done) | (simp;omega))):p:=h
theorem tdP {p:Prop} (h:p:=by (try simp only [List.map_cons,List.map_nil,D.plain]);with_unfolding_all rfl):p:=h
theorem tdS {F p:Prop} (fx:Hold F) (h:Hold F->p:=by intro fx;simp (disch:=first | omega | assumption) [Ap,big1,big2,w8,Da,Cg,D9,Cf,Db,D8,Cd,BE,Cc,BD,Ce,Cb,Fp,fx.get]<;>(try simp only [Bi,Bj,AV,Bh,AB,AY,AX,AW,AU,AA,AT,AS,AR])<;>first | rfl | (and_intros<;>rfl)):p:=h fx
theorem tdE {F p:Prop} (fx:Hold F) (h:Hold F->p:=by intro fx;simp (disch:=first | omega | assumption) [Ap,big1,big2,w8,Da,Cg,D9,Cf,Db,D8,Cd,BE,Cc,BD,Ce,Cb,Fp,fx.get]<;>first | rfl | (and_intros<;>rfl)):p:=h fx
theorem tdC {F p:Prop} (fx:Hold F) (h:Hold F->p:=by intro fx;simp (disch:=first | omega | assumption) [Ap,big1,big2,w8,Da,Cg,D9,Cf,Db,D8,Cd,BE,Cc,BD,Ce,Cb,Fp,fx.get]<;>fail):p:=h fx
theorem tdF {p:Prop} (h:p:=by simp<;>(try simp only [Bi,Bj,AV,Bh,AB,AY,AX,AW,AU,AA,AT,AS,AR])<;>rfl):p:=h
theorem litT:NotLit true := .mk
theorem litF:NotLit false := .mk
section
variable {P:Program} {ro:Option Nat} {n:Nat} {ops:Array Oper} {N:Nat} {S0:Sig} {Q:DX->St->Prop} {df:List DDf} {rest:List Oper} {γ Sr:List (Nat × D)} {V:Sig} {t:Nat} {ty:TypeId} {pos:String} {after:Array Edge} {l:List (Bool × Oper)} {d:D}
theorem Wt {fop:Operand} {args:Array Operand} {ats:Array TypeId} {f:Nat} {first cap us:List D}  {H:Prop} (k1:DOps prog ro n ops Q rest ⟨(t,d)::γ,V,df⟩)  (hl:A5 γ (A8 (fop::args.toList))=some Sr:=by exact tdR) (hf:ev Sr fop = .func (.func f) first cap:=by exact tdR) (ha:first++args.toList.map (ev Sr)++cap=us:=by exact td0)  (hs:Ans f us V H d:=by infer_instance) (hH:H:=by exact tdH) (htn:decide (t < n)=true:=by exact tdR):DOps prog ro n ops Q (⟨some t,(cv fop args ats),ty,pos,after,none⟩::rest) ⟨γ,V,df⟩:=FJ hl hf ha (.inl rfl) (hs.call hH) htn k1
theorem UE {fop:Operand} {args:Array Operand} {ats:Array TypeId} {f:Nat} {first cap us:List D} {j:Nat} {want:Bool} {k:Nat} {H:Prop} (k1:DOps prog ro n ops Q rest ⟨(t,d)::γ,V,df⟩) (hk:(ops[j]?).bind (·.dst)=some k:=by exact tdR) (hb:γ.lookup k=some (.bool want):=by exact tdR) (hl:A5 γ (A8 (fop::args.toList))=some Sr:=by exact tdR) (hf:ev Sr fop = .func (.func f) first cap:=by exact tdR) (ha:first++args.toList.map (ev Sr)++cap=us:=by exact td0)  (hs:Ans f us V H d:=by infer_instance) (hH:H:=by exact tdH) (htn:decide (t < n)=true:=by exact tdR):DOps prog ro n ops Q (⟨some t,(cv fop args ats),ty,pos,after,some (j,want)⟩::rest) ⟨γ,V,df⟩:=EG hk hb hl hf ha (.inl rfl) (hs.call hH) htn k1
theorem moIR {fop:Operand} {args:Array Operand} {ats:Array TypeId} {f:Nat} {first cap us:List D}  {H:Prop} {l:List (Bool × Oper)} (k1:MO prog ro n ops N S0 Q df l ((t,d)::γ) V)  (hl:A5 γ (A8 (fop::args.toList))=some Sr:=by exact tdR) (hf:ev Sr fop = .func (.func f) first cap:=by exact tdR) (ha:first++args.toList.map (ev Sr)++cap=us:=by exact td0)  (hs:Ans f us V H d:=by infer_instance) (hH:H:=by exact tdH) (hC:Sub S0 V:=by first | exact Sub.refl _ | assumption) (htn:decide (t < n)=true:=by exact tdR):MO prog ro n ops N S0 Q df ((true,⟨some t,(cv fop args ats),ty,pos,after,none⟩)::l) γ V:=If hl hf ha (.inl rfl) (hs.call hH) htn hC k1
theorem moIRG {fop:Operand} {args:Array Operand} {ats:Array TypeId} {f:Nat} {first cap us:List D} {j:Nat} {want:Bool} {k:Nat} {H:Prop} {l:List (Bool × Oper)} (k1:MO prog ro n ops N S0 Q df l ((t,d)::γ) V) (hk:(ops[j]?).bind (·.dst)=some k:=by exact tdR) (hb:γ.lookup k=some (.bool want):=by exact tdR) (hl:A5 γ (A8 (fop::args.toList))=some Sr:=by exact tdR) (hf:ev Sr fop = .func (.func f) first cap:=by exact tdR) (ha:first++args.toList.map (ev Sr)++cap=us:=by exact td0)  (hs:Ans f us V H d:=by infer_instance) (hH:H:=by exact tdH) (hC:Sub S0 V:=by first | exact Sub.refl _ | assumption) (htn:decide (t < n)=true:=by exact tdR):MO prog ro n ops N S0 Q df ((true,⟨some t,(cv fop args ats),ty,pos,after,some (j,want)⟩)::l) γ V:=MI hk hb hl hf ha (.inl rfl) (hs.call hH) htn hC k1
theorem needIR {fop:Operand} {args:Array Operand} {ats:Array TypeId} {f:Nat} {first cap us:List D} {H p q:Prop} {b b':Bool} {u d:D} {dst:Option Tmp} {C:Prop} (kc:C) (hl:A5 γ (A8 (fop::args.toList))=some Sr:=by exact tdR) (hf:ev Sr fop = .func (.func f) first cap:=by exact tdR) (ha:first++args.toList.map (ev Sr)++cap=us:=by exact td0)  (hs:Giv f us V H b d u:=by infer_instance) (he:b=b':=by first | assumption | exact rfl) (hbi:BoolIs b' p q:=by infer_instance) (hz:T2 p q (DOps prog ro n ops Q rest ⟨putD dst d γ,V,df⟩) (Q (.panic u) ⟨γ,V,df⟩) C:=by infer_instance) (hH:H:=by exact tdH) (ho:Ar n ⟨dst,(cv fop args ats),ty,pos,after,none⟩=true:=by exact tdR):DOps prog ro n ops Q (⟨dst,(cv fop args ats),ty,pos,after,none⟩::rest) ⟨γ,V,df⟩:=needR (hs.call hH) (fun h=>(hz.to kc).1 (hbi.yes (he.symm.trans h))) (fun h=>(hz.to kc).2 (hbi.no (he.symm.trans h))) (hl:=hl) (hf:=hf) (ha:=ha) (hp:=rfl) (ho:=ho)
theorem V8 {fop:Operand} {args:Array Operand} {ats:Array TypeId} {f:Nat} {first cap us:List D} {H p q:Prop} {b b':Bool} {u d:D} {dst:Option Tmp} {l:List (Bool × Oper)} {C:Prop} (kc:C) (hl:A5 γ (A8 (fop::args.toList))=some Sr:=by exact tdR) (hf:ev Sr fop = .func (.func f) first cap:=by exact tdR) (ha:first++args.toList.map (ev Sr)++cap=us:=by exact td0)  (hs:Giv f us V H b d u:=by infer_instance) (he:b=b':=by first | assumption | exact rfl) (hbi:BoolIs b' p q:=by infer_instance) (hz:T2 p q (MO prog ro n ops N S0 Q df l (putD dst d γ) V) (∀ U',Q (.panic u) ⟨U',V,df⟩) C:=by infer_instance) (hH:H:=by exact tdH) (hC:Sub S0 V:=by first | exact Sub.refl _ | assumption) (ho:Ar n ⟨dst,(cv fop args ats),ty,pos,after,none⟩=true:=by exact tdR):MO prog ro n ops N S0 Q df ((true,⟨dst,(cv fop args ats),ty,pos,after,none⟩)::l) γ V:=moNeedR (hs.call hH) (fun h=>(hz.to kc).1 (hbi.yes (he.symm.trans h))) (fun h=>(hz.to kc).2 (hbi.no (he.symm.trans h))) (hl:=hl) (hf:=hf) (ha:=ha) (hp:=rfl) (hC:=hC) (ho:=ho)
theorem Wu {fop:Operand} {args:Array Operand} {ats:Array TypeId} {f:Nat} {first cap us bs:List D}  {H:Prop} (k1:DOps prog ro n ops Q rest ⟨(t,d)::γ,V,df⟩)  (hl:A5 γ (A8 (fop::args.toList))=some Sr:=by exact tdR) (hf:ev Sr fop = .func (.func f) first cap:=by exact tdR) (ha:first++args.toList.map (ev Sr)++cap=us:=by exact td0) (hp:us.map D.plain=bs:=by exact tdP) (hs:Ans f bs V H d:=by infer_instance) (hH:H:=by exact tdH) (htn:decide (t < n)=true:=by exact tdR):DOps prog ro n ops Q (⟨some t,(cv fop args ats),ty,pos,after,none⟩::rest) ⟨γ,V,df⟩:=FJ hl hf ha (.inr hp.symm) (hs.call hH) htn k1
theorem UF {fop:Operand} {args:Array Operand} {ats:Array TypeId} {f:Nat} {first cap us bs:List D} {j:Nat} {want:Bool} {k:Nat} {H:Prop} (k1:DOps prog ro n ops Q rest ⟨(t,d)::γ,V,df⟩) (hk:(ops[j]?).bind (·.dst)=some k:=by exact tdR) (hb:γ.lookup k=some (.bool want):=by exact tdR) (hl:A5 γ (A8 (fop::args.toList))=some Sr:=by exact tdR) (hf:ev Sr fop = .func (.func f) first cap:=by exact tdR) (ha:first++args.toList.map (ev Sr)++cap=us:=by exact td0) (hp:us.map D.plain=bs:=by exact tdP) (hs:Ans f bs V H d:=by infer_instance) (hH:H:=by exact tdH) (htn:decide (t < n)=true:=by exact tdR):DOps prog ro n ops Q (⟨some t,(cv fop args ats),ty,pos,after,some (j,want)⟩::rest) ⟨γ,V,df⟩:=EG hk hb hl hf ha (.inr hp.symm) (hs.call hH) htn k1
theorem moIP {fop:Operand} {args:Array Operand} {ats:Array TypeId} {f:Nat} {first cap us bs:List D}  {H:Prop} {l:List (Bool × Oper)} (k1:MO prog ro n ops N S0 Q df l ((t,d)::γ) V)  (hl:A5 γ (A8 (fop::args.toList))=some Sr:=by exact tdR) (hf:ev Sr fop = .func (.func f) first cap:=by exact tdR) (ha:first++args.toList.map (ev Sr)++cap=us:=by exact td0) (hp:us.map D.plain=bs:=by exact tdP) (hs:Ans f bs V H d:=by infer_instance) (hH:H:=by exact tdH) (hC:Sub S0 V:=by first | exact Sub.refl _ | assumption) (htn:decide (t < n)=true:=by exact tdR):MO prog ro n ops N S0 Q df ((true,⟨some t,(cv fop args ats),ty,pos,after,none⟩)::l) γ V:=If hl hf ha (.inr hp.symm) (hs.call hH) htn hC k1
theorem moIPG {fop:Operand} {args:Array Operand} {ats:Array TypeId} {f:Nat} {first cap us bs:List D} {j:Nat} {want:Bool} {k:Nat} {H:Prop} {l:List (Bool × Oper)} (k1:MO prog ro n ops N S0 Q df l ((t,d)::γ) V) (hk:(ops[j]?).bind (·.dst)=some k:=by exact tdR) (hb:γ.lookup k=some (.bool want):=by exact tdR) (hl:A5 γ (A8 (fop::args.toList))=some Sr:=by exact tdR) (hf:ev Sr fop = .func (.func f) first cap:=by exact tdR) (ha:first++args.toList.map (ev Sr)++cap=us:=by exact td0) (hp:us.map D.plain=bs:=by exact tdP) (hs:Ans f bs V H d:=by infer_instance) (hH:H:=by exact tdH) (hC:Sub S0 V:=by first | exact Sub.refl _ | assumption) (htn:decide (t < n)=true:=by exact tdR):MO prog ro n ops N S0 Q df ((true,⟨some t,(cv fop args ats),ty,pos,after,some (j,want)⟩)::l) γ V:=MI hk hb hl hf ha (.inr hp.symm) (hs.call hH) htn hC k1
theorem needIP {fop:Operand} {args:Array Operand} {ats:Array TypeId} {f:Nat} {first cap us bs:List D} {H p q:Prop} {b b':Bool} {u d:D} {dst:Option Tmp} {C:Prop} (kc:C) (hl:A5 γ (A8 (fop::args.toList))=some Sr:=by exact tdR) (hf:ev Sr fop = .func (.func f) first cap:=by exact tdR) (ha:first++args.toList.map (ev Sr)++cap=us:=by exact td0) (hp:us.map D.plain=bs:=by exact tdP) (hs:Giv f bs V H b d u:=by infer_instance) (he:b=b':=by first | assumption | exact rfl) (hbi:BoolIs b' p q:=by infer_instance) (hz:T2 p q (DOps prog ro n ops Q rest ⟨putD dst d γ,V,df⟩) (Q (.panic u) ⟨γ,V,df⟩) C:=by infer_instance) (hH:H:=by exact tdH) (ho:Ar n ⟨dst,(cv fop args ats),ty,pos,after,none⟩=true:=by exact tdR):DOps prog ro n ops Q (⟨dst,(cv fop args ats),ty,pos,after,none⟩::rest) ⟨γ,V,df⟩:=needP (hs.call hH) (fun h=>(hz.to kc).1 (hbi.yes (he.symm.trans h))) (fun h=>(hz.to kc).2 (hbi.no (he.symm.trans h))) (hl:=hl) (hf:=hf) (ha:=ha) (hp:=by rw [hp]) (ho:=ho)
theorem V9 {fop:Operand} {args:Array Operand} {ats:Array TypeId} {f:Nat} {first cap us bs:List D} {H p q:Prop} {b b':Bool} {u d:D} {dst:Option Tmp} {l:List (Bool × Oper)} {C:Prop} (kc:C) (hl:A5 γ (A8 (fop::args.toList))=some Sr:=by exact tdR) (hf:ev Sr fop = .func (.func f) first cap:=by exact tdR) (ha:first++args.toList.map (ev Sr)++cap=us:=by exact td0) (hp:us.map D.plain=bs:=by exact tdP) (hs:Giv f bs V H b d u:=by infer_instance) (he:b=b':=by first | assumption | exact rfl) (hbi:BoolIs b' p q:=by infer_instance) (hz:T2 p q (MO prog ro n ops N S0 Q df l (putD dst d γ) V) (∀ U',Q (.panic u) ⟨U',V,df⟩) C:=by infer_instance) (hH:H:=by exact tdH) (hC:Sub S0 V:=by first | exact Sub.refl _ | assumption) (ho:Ar n ⟨dst,(cv fop args ats),ty,pos,after,none⟩=true:=by exact tdR):MO prog ro n ops N S0 Q df ((true,⟨dst,(cv fop args ats),ty,pos,after,none⟩)::l) γ V:=moNeedP (hs.call hH) (fun h=>(hz.to kc).1 (hbi.yes (he.symm.trans h))) (fun h=>(hz.to kc).2 (hbi.no (he.symm.trans h))) (hl:=hl) (hf:=hf) (ha:=ha) (hp:=by rw [hp]) (hC:=hC) (ho:=ho)
theorem cndX {c:Nat} {x y:Code} {b:Bool} {p q C:Prop} (kc:C) (hl:γ.lookup c=some (.bool b):=by exact tdR) (hnl:NotLit b:=by ((fail_if_success (with_reducible exact litT));(fail_if_success (with_reducible exact litF));exact NotLit.mk)) (hbi:BoolIs b p q:=by infer_instance) (hz:T2 p q (DWp P ro n x Q ⟨(c, .bool true)::γ,V,df⟩) (DWp P ro n y Q ⟨(c, .bool false)::γ,V,df⟩) C:=by infer_instance):DWp P ro n (.cond (.tmp c) x y) Q ⟨γ,V,df⟩:=cndB (fun h=>(hz.to kc).1 (hbi.yes h)) (fun h=>(hz.to kc).2 (hbi.no h)) hl
theorem splX {dst:Option Tmp} {op:Op} {j:Nat} {want:Bool} {k:Nat} {b:Bool} {p q C:Prop} (kc:C) (hk:(ops[j]?).bind (·.dst)=some k:=by exact tdR) (hb:γ.lookup k=some (.bool b):=by exact tdR) (hnl:NotLit b:=by ((fail_if_success (with_reducible exact litT));(fail_if_success (with_reducible exact litF));exact NotLit.mk)) (hbi:BoolIs b p q:=by infer_instance) (hz:T2 p q (DOps P ro n ops Q (⟨dst,op,ty,pos,after,some (j,want)⟩::rest) ⟨(k, .bool true)::γ,V,df⟩) (DOps P ro n ops Q (⟨dst,op,ty,pos,after,some (j,want)⟩::rest) ⟨(k, .bool false)::γ,V,df⟩) C:=by infer_instance):DOps P ro n ops Q (⟨dst,op,ty,pos,after,some (j,want)⟩::rest) ⟨γ,V,df⟩:=Q1 hk hb (fun h=>(hz.to kc).1 (hbi.yes h)) (fun h=>(hz.to kc).2 (hbi.no h))
theorem moSX {e:Bool} {l:List (Bool × Oper)} {dst:Option Tmp} {op:Op} {j:Nat} {want:Bool} {k:Nat} {b:Bool} {p q C:Prop} (kc:C) (hk:(ops[j]?).bind (·.dst)=some k:=by exact tdR) (hb:γ.lookup k=some (.bool b):=by exact tdR) (hnl:NotLit b:=by ((fail_if_success (with_reducible exact litT));(fail_if_success (with_reducible exact litF));exact NotLit.mk)) (hbi:BoolIs b p q:=by infer_instance) (hz:T2 p q (MO P ro n ops N S0 Q df ((e,⟨dst,op,ty,pos,after,some (j,want)⟩)::l) ((k, .bool true)::γ) V) (MO P ro n ops N S0 Q df ((e,⟨dst,op,ty,pos,after,some (j,want)⟩)::l) ((k, .bool false)::γ) V) C:=by infer_instance):MO P ro n ops N S0 Q df ((e,⟨dst,op,ty,pos,after,some (j,want)⟩)::l) γ V:=V6 hk hb (fun h=>(hz.to kc).1 (hbi.yes h)) (fun h=>(hz.to kc).2 (hbi.no h))
end
abbrev OT:=List (Nat × Bool × List (Nat × Nat) × List Nat)
def runO:List (Nat × Nat)->List Nat
 | []=>[]
 | (a,k)::r=>List.range' a k++runO r
def lookO (i:Nat):OT->Option (List Nat × List Nat)
 | []=>none
 | (j,_,o,e)::r=>if i==j then some (runO o,e) else lookO i r
def Wl (i:Nat):OT->Option (List Nat × List Nat)
 | []=>none
 | (j,b,o,e)::r=>if i==j && b then some ((runO o).dropLast,e.filter fun x=>x+1 != (runO o).length) else Wl i r
structure Tab (t:OT):Prop
def delO (i:Nat) (t:OT):OT:=t.filter fun x=>x.1 != i
section
variable {P:Program} {ro:Option Nat} {n:Nat} {Q:DX->St->Prop} {df:List DDf} {γ:List (Nat × D)} {V:Sig}
theorem mixX {lo:List Oper} {id:Nat} {tb:OT} (_:Tab tb) {ord E:List Nat} {lp:List (Bool × Oper)} (h:MO prog ro n lo.toArray 334 V Q df lp γ V) (hk:lookO id tb=some (ord,E):=by exact tdR) (hB:F2 lo.toArray E ord=true:=by kernel_rfl) (hl:Gs lo E ord=some lp:=by exact tdR):DWp prog ro n (.region id lo.toArray true) Q ⟨γ,V,df⟩:=mix ord E h hB hl
theorem mixY {lo:List Oper} {id:Nat} {tb:OT} (_:Tab tb) {ord E:List Nat} {lp:List (Bool × Oper)} {ol:Oper} (h:MO prog ro n lo.toArray 334 V (Then (fun s=>DOps prog ro n lo.toArray Q [ol] s) Q) df lp γ V) (hk:Wl id tb=some (ord,E):=by exact tdR) (hB:J9 lo.toArray E ord=true:=by kernel_rfl) (hol:nthO lo (lo.length-1)=some ol:=by exact tdR) (hl:Gs lo E ord=some lp:=by exact tdR):DWp prog ro n (.region id lo.toArray true) Q ⟨γ,V,df⟩:=mixL ord E h hB hol hl
end
theorem walkQ {F G' G:Prop} {tb:OT} {vars:List Nat} (hs:VarsAre vars->Hold F->Tab tb->Hold G'->G:=by
 intro hv fx tb hG
 repeat1' (first
  | (with_reducible first | refine Gn ?_ | refine IG ?_ | refine Lw ?_ | refine Hq ?_ | refine HG ?_ | refine LQ ?_ | refine Sx (by decide) ?_ | refine Oq ?_ | refine Jo ?_ | refine JI ?_ | refine JJ ?_ | refine M8 ?_ | refine M9 ?_ | refine Oy ?_ | refine AJ ?_ | refine Hg ?_ | refine RV ?_)
  | ((with_reducible refine GO (d := ?_) (Sr := ?_) Ae ?h1 ?h2 ?hl ?hd ?_);(case h1=>rfl);(case h2=>rfl);(case hl=>rfl);(case hd=>exact tdS fx))
  | ((with_reducible refine Ht (d := ?_) (k := ?_) (Sr := ?_) Ae ?h1 ?h2 ?hk ?hb ?hl ?hd ?_);(case h1=>rfl);(case h2=>rfl);(case hk=>rfl);(case hb=>rfl);(case hl=>rfl);(case hd=>exact tdS fx))
  | ((with_reducible refine Hu (d := ?_) (Sr := ?_) Ae ?h1 ?hl ?hd ?_);(case h1=>rfl);(case hl=>rfl);(case hd=>exact tdS fx))
  | ((with_reducible refine Oj (d := ?_) (Sr := ?_) Ae ?h1 ?h2 ?hl ?hd ?_);(case h1=>rfl);(case h2=>rfl);(case hl=>rfl);(case hd=>exact tdS fx))
  | ((with_reducible refine LJ (d := ?_) (k := ?_) (Sr := ?_) Ae ?h1 ?h2 ?hk ?hb ?hl ?hd ?_);(case h1=>rfl);(case h2=>rfl);(case hk=>rfl);(case hb=>rfl);(case hl=>rfl);(case hd=>exact tdS fx))
  | ((with_reducible refine LK (d := ?_) (Sr := ?_) Ae ?h1 ?hl ?hd ?_);(case h1=>rfl);(case hl=>rfl);(case hd=>exact tdS fx))
  | ((with_reducible refine IH (k := ?_) Ak ?hk ?hb ?h1 ?h2 ?_);(case hk=>rfl);(case hb=>rfl);(case h1=>rfl);(case h2=>rfl))
  | ((with_reducible refine Hr (k := ?_) Ak ?hk ?hb ?h1 ?h2 ?_);(case hk=>rfl);(case hb=>rfl);(case h1=>rfl);(case h2=>rfl))
  | ((with_reducible refine Hs (k := ?_) Ak ?hk ?hb ?h1 ?_);(case hk=>rfl);(case hb=>rfl);(case h1=>rfl))
  | ((with_reducible refine Gp (k := ?_) Ak ?hk ?hb ?h1 ?_);(case hk=>rfl);(case hb=>rfl);(case h1=>rfl))
  | ((with_reducible refine LG (k := ?_) ?hk ?hb ?h1 ?h2 ?_);(case hk=>rfl);(case hb=>rfl);(case h1=>rfl);(case h2=>rfl))
  | ((with_reducible refine LF (k := ?_) ?hk ?hb ?h1 ?h2 ?_);(case hk=>rfl);(case hb=>rfl);(case h1=>rfl);(case h2=>rfl))
  | ((with_reducible refine LH (k := ?_) ?hk ?hb ?h1 ?_);(case hk=>rfl);(case hb=>rfl);(case h1=>rfl))
  | ((with_reducible refine J7 (k := ?_) ?hk ?hb ?h1 ?_);(case hk=>rfl);(case hb=>rfl);(case h1=>rfl))
  | ((with_reducible refine Ly (d := ?_) (S' := ?_) (Sr := ?_) Ae ?hl ?he ?h1 ?_);(case hl=>rfl);(case he=>exact tdE fx);(case h1=>rfl))
  | ((with_reducible refine IK (d := ?_) (S' := ?_) (Sr := ?_) Ae ?hl ?he ?_);(case hl=>rfl);(case he=>exact tdE fx))
  | ((with_reducible refine Ol (d := ?_) (S' := ?_) (Sr := ?_) Ae ?hl ?he ?h1 ?hC ?_);(case hl=>rfl);(case he=>exact tdE fx);(case h1=>rfl);(case hC=>first | exact Sub.refl _ | assumption | exact (Sub.refl _).set (by assumption)))
  | ((with_reducible refine LL (d := ?_) (S' := ?_) (Sr := ?_) Ae ?hl ?he ?hC ?_);(case hl=>rfl);(case he=>exact tdE fx);(case hC=>first | exact Sub.refl _ | assumption | exact (Sub.refl _).set (by assumption)))
  | ((with_reducible refine II (r := ?_) (Sr := ?_) (xs := ?_) (ys := ?_) (fs := ?_) Ae ?hE ?h1 ?hl ?hx ?hy ?hk ?hd ?_);(case hE=>with_reducible first | exact L4 | exact HI);(case h1=>rfl);(case hl=>rfl);(case hx=>rfl);(case hy=>rfl);(case hk=>simp<;>rfl);(case hd=>exact tdE fx))
  | ((with_reducible refine Ok (r := ?_) (Sr := ?_) (xs := ?_) (ys := ?_) (fs := ?_) Ae ?hE ?h1 ?hl ?hx ?hy ?hk ?hd ?_);(case hE=>with_reducible first | exact L4 | exact HI);(case h1=>rfl);(case hl=>rfl);(case hx=>rfl);(case hy=>rfl);(case hk=>simp<;>rfl);(case hd=>exact tdE fx))
  | ((with_reducible refine Hw (Sr := ?_) ?hl ?hc ?_);(case hl=>rfl);(case hc=>exact tdC fx))
  | ((with_reducible refine Hx (Sr := ?_) ?hl ?hc ?_);(case hl=>rfl);(case hc=>exact tdC fx))
  | ((with_reducible refine IJ (d := ?_) (cs := ?_) (Sr := ?_) hv Ae ?h1 ?h2 ?h3 ?h4 ?h5 ?hl ?he ?h6 ?h7 ?h8 ?h9 ?_);(case h1=>rfl);(case h2=>rfl);(case h3=>rfl);(case h4=>rfl);(case h5=>simp);(case hl=>rfl);(case he=>exact tdF);(case h6=>rfl);(case h7=>exact tdF);(case h8=>simp);(case h9=>simp))
  | ((with_reducible refine Hv (d := ?_) (d2 := ?_) (cs := ?_) (Sr := ?_) (Sr2 := ?_) hv Ae ?h1 ?h2 ?h3 ?h4 ?h5 ?g1 ?g2 ?g3 ?g4 ?gl ?ge ?hl ?he ?h6 ?h7 ?h8 ?h9 ?_);(case h1=>rfl);(case h2=>rfl);(case h3=>rfl);(case h4=>rfl);(case h5=>rfl);(case g1=>rfl);(case g2=>rfl);(case g3=>rfl);(case g4=>simp);(case gl=>rfl);(case ge=>exact tdF);(case hl=>rfl);(case he=>exact tdF);(case h6=>rfl);(case h7=>exact tdF);(case h8=>simp);(case h9=>simp))
  | with_reducible refine Wt ?_
  | with_reducible refine UE ?_
  | with_reducible refine moIR ?_
  | with_reducible refine moIRG ?_
  | with_reducible refine Wu ?_
  | with_reducible refine UF ?_
  | with_reducible refine moIP ?_
  | with_reducible refine moIPG ?_
  | with_reducible refine nilE ?_
  | with_reducible refine nilN ?_
  | with_reducible refine boolE ?_
  | with_reducible refine boolN ?_
  | with_reducible refine NF ?_
  | with_reducible refine NG ?_
  | with_reducible refine mixY tb ?_
  | with_reducible refine mixX tb ?_
  | with_reducible refine needIR ?_
  | with_reducible refine needIP ?_
  | with_reducible refine V8 ?_
  | with_reducible refine V9 ?_
  | with_reducible refine cndX ?_
  | with_reducible refine splX ?_
  | with_reducible refine moSX ?_)
 exact hG.get):VarsAre vars->Hold F->Tab tb->Hold G'->G:=hs
theorem gf {F G' G:Prop} (fx:F) (h:G') (tb:OT:=[]) (vars:List Nat:=[]) (hs:VarsAre vars->Hold F->Tab tb->Hold G'->G:=by exact walkQ):G:=hs ⟨⟩ ⟨fx⟩ ⟨⟩ ⟨h⟩
theorem gz {G' G:Prop} (h:G') (tb:OT:=[]) (vars:List Nat:=[]) (hs:VarsAre vars->Hold True->Tab tb->Hold G'->G:=by exact walkQ):G:=hs ⟨⟩ ⟨trivial⟩ ⟨⟩ ⟨h⟩
theorem gi {a b:Prop} (x:a) (y:b):a/\b:=⟨x,y⟩
theorem en {f m : Nat} {fn : Func} {c : Code} {args : List D} {V : Sig} {R : DE -> Sig -> Prop} (hf : prog.funcs[f]? = some fn) (hm : fn.ntmps = m) (h : DWp prog none m c (EB prog m fn R) { γ := CA 0 args, V }) (hb : fn.body = some c := by exact rfl) (hnm : (fn.name == "runtime.NumGoroutine") = false := by decide) (hn : args.length <= m := by simp) : DCall prog f args V R := Mb hf hb hnm hm hn h
theorem gy {A B:Prop} (a:A) (b:B):Two A B:=⟨a,b⟩
theorem tdV {F p:Prop} (h:Hold F->p:=by
 intro fx
 have hF:=fx.get
 clear fx
 first | rfl | (simp [hF];done) | (simp_all;done) | (rw [Aa,Bool.eq_iff_iff];simp_all<;>omega)):Hold F->p:=h
section
variable {P:Program} {n:Nat} {γ:List (Nat × D)} {V:Sig}
theorem fe1 {F:Prop} {fn:Func} {v:DE} {S':Sig} {t:Nat} {d d':D} (fx:F) (hZ:Sub S' V:=by exact tdU) (hr:fn.results = #[.tmp t]:=by exact tdR) (hl:γ.lookup t=some d:=by exact tdR) (hw:WkD d d':=by exact tdW) (hq:Hold F->DE.ret d'=v:=by first | exact tdV | fail):EB P n fn (fun x τ=>x=v/\τ=S') .ret ⟨γ,V,[]⟩:=fin1 ⟨hq ⟨fx⟩,rfl⟩ hZ hr hl hw
theorem fe0 {F:Prop} {fn:Func} {v:DE} {S':Sig} (fx:F) (hZ:Sub S' V:=by exact tdU) (hr:fn.results = #[]:=by exact tdR) (hq:Hold F->DE.ret (.tup [])=v:=by first | exact tdV | fail):EB P n fn (fun x τ=>x=v/\τ=S') .ret ⟨γ,V,[]⟩:=fin0 ⟨hq ⟨fx⟩,rfl⟩ hZ hr
theorem fe2 {F:Prop} {fn:Func} {v:DE} {S':Sig} {t u:Nat} {d d' e e':D} (fx:F) (hZ:Sub S' V:=by exact tdU) (hr:fn.results = #[.tmp t, .tmp u]:=by exact tdR) (hl:γ.lookup t=some d:=by exact tdR) (hl2:γ.lookup u=some e:=by exact tdR) (htu:decide (u=t)=false:=by exact tdR) (hw:WkD d d':=by exact tdW) (hw2:WkD e e':=by exact tdW) (hq:Hold F->DE.ret (.tup [d',e'])=v:=by first | exact tdV | fail):EB P n fn (fun x τ=>x=v/\τ=S') .ret ⟨γ,V,[]⟩:=fin2 ⟨hq ⟨fx⟩,rfl⟩ hZ hr hl hl2 htu hw hw2
end
theorem td1 {p:Prop} (h:p:=by first | omega | (simp;omega)):p:=h
theorem td2 {p:Prop} (h:p:=by first | omega | (simp_all;done) | (simp_all;omega)):p:=h
theorem td3 {p:Prop} (h:p:=by first | omega | simp):p:=h
theorem goX1 {F G' G:Prop} (fx:F) (h:G') (hs:VarsAre []->Hold F->Hold G'->G:=by
 intro hv fx hG
 (first
  | (with_reducible first | refine Gn ?_ | refine IG ?_ | refine Lw ?_ | refine Hq ?_ | refine HG ?_ | refine LQ ?_ | refine Sx (by decide) ?_ | refine Oq ?_ | refine Jo ?_ | refine JI ?_ | refine JJ ?_ | refine M8 ?_ | refine M9 ?_ | refine Oy ?_ | refine AJ ?_ | refine Hg ?_ | refine RV ?_)
  | ((with_reducible refine GO (d := ?_) (Sr := ?_) Ae ?h1 ?h2 ?hl ?hd ?_);(case h1=>rfl);(case h2=>rfl);(case hl=>rfl);(case hd=>exact tdS fx))
  | ((with_reducible refine Ht (d := ?_) (k := ?_) (Sr := ?_) Ae ?h1 ?h2 ?hk ?hb ?hl ?hd ?_);(case h1=>rfl);(case h2=>rfl);(case hk=>rfl);(case hb=>rfl);(case hl=>rfl);(case hd=>exact tdS fx))
  | ((with_reducible refine Hu (d := ?_) (Sr := ?_) Ae ?h1 ?hl ?hd ?_);(case h1=>rfl);(case hl=>rfl);(case hd=>exact tdS fx))
  | ((with_reducible refine Oj (d := ?_) (Sr := ?_) Ae ?h1 ?h2 ?hl ?hd ?_);(case h1=>rfl);(case h2=>rfl);(case hl=>rfl);(case hd=>exact tdS fx))
  | ((with_reducible refine LJ (d := ?_) (k := ?_) (Sr := ?_) Ae ?h1 ?h2 ?hk ?hb ?hl ?hd ?_);(case h1=>rfl);(case h2=>rfl);(case hk=>rfl);(case hb=>rfl);(case hl=>rfl);(case hd=>exact tdS fx))
  | ((with_reducible refine LK (d := ?_) (Sr := ?_) Ae ?h1 ?hl ?hd ?_);(case h1=>rfl);(case hl=>rfl);(case hd=>exact tdS fx))
  | ((with_reducible refine IH (k := ?_) Ak ?hk ?hb ?h1 ?h2 ?_);(case hk=>rfl);(case hb=>rfl);(case h1=>rfl);(case h2=>rfl))
  | ((with_reducible refine Hr (k := ?_) Ak ?hk ?hb ?h1 ?h2 ?_);(case hk=>rfl);(case hb=>rfl);(case h1=>rfl);(case h2=>rfl))
  | ((with_reducible refine Hs (k := ?_) Ak ?hk ?hb ?h1 ?_);(case hk=>rfl);(case hb=>rfl);(case h1=>rfl))
  | ((with_reducible refine Gp (k := ?_) Ak ?hk ?hb ?h1 ?_);(case hk=>rfl);(case hb=>rfl);(case h1=>rfl))
  | ((with_reducible refine LG (k := ?_) ?hk ?hb ?h1 ?h2 ?_);(case hk=>rfl);(case hb=>rfl);(case h1=>rfl);(case h2=>rfl))
  | ((with_reducible refine LF (k := ?_) ?hk ?hb ?h1 ?h2 ?_);(case hk=>rfl);(case hb=>rfl);(case h1=>rfl);(case h2=>rfl))
  | ((with_reducible refine LH (k := ?_) ?hk ?hb ?h1 ?_);(case hk=>rfl);(case hb=>rfl);(case h1=>rfl))
  | ((with_reducible refine J7 (k := ?_) ?hk ?hb ?h1 ?_);(case hk=>rfl);(case hb=>rfl);(case h1=>rfl))
  | ((with_reducible refine Ly (d := ?_) (S' := ?_) (Sr := ?_) Ae ?hl ?he ?h1 ?_);(case hl=>rfl);(case he=>exact tdE fx);(case h1=>rfl))
  | ((with_reducible refine IK (d := ?_) (S' := ?_) (Sr := ?_) Ae ?hl ?he ?_);(case hl=>rfl);(case he=>exact tdE fx))
  | ((with_reducible refine Ol (d := ?_) (S' := ?_) (Sr := ?_) Ae ?hl ?he ?h1 ?hC ?_);(case hl=>rfl);(case he=>exact tdE fx);(case h1=>rfl);(case hC=>first | exact Sub.refl _ | assumption | exact (Sub.refl _).set (by assumption)))
  | ((with_reducible refine LL (d := ?_) (S' := ?_) (Sr := ?_) Ae ?hl ?he ?hC ?_);(case hl=>rfl);(case he=>exact tdE fx);(case hC=>first | exact Sub.refl _ | assumption | exact (Sub.refl _).set (by assumption)))
  | ((with_reducible refine II (r := ?_) (Sr := ?_) (xs := ?_) (ys := ?_) (fs := ?_) Ae ?hE ?h1 ?hl ?hx ?hy ?hk ?hd ?_);(case hE=>with_reducible first | exact L4 | exact HI);(case h1=>rfl);(case hl=>rfl);(case hx=>rfl);(case hy=>rfl);(case hk=>simp<;>rfl);(case hd=>exact tdE fx))
  | ((with_reducible refine Ok (r := ?_) (Sr := ?_) (xs := ?_) (ys := ?_) (fs := ?_) Ae ?hE ?h1 ?hl ?hx ?hy ?hk ?hd ?_);(case hE=>with_reducible first | exact L4 | exact HI);(case h1=>rfl);(case hl=>rfl);(case hx=>rfl);(case hy=>rfl);(case hk=>simp<;>rfl);(case hd=>exact tdE fx))
  | ((with_reducible refine Hw (Sr := ?_) ?hl ?hc ?_);(case hl=>rfl);(case hc=>exact tdC fx))
  | ((with_reducible refine Hx (Sr := ?_) ?hl ?hc ?_);(case hl=>rfl);(case hc=>exact tdC fx))
  | ((with_reducible refine IJ (d := ?_) (cs := ?_) (Sr := ?_) hv Ae ?h1 ?h2 ?h3 ?h4 ?h5 ?hl ?he ?h6 ?h7 ?h8 ?h9 ?_);(case h1=>rfl);(case h2=>rfl);(case h3=>rfl);(case h4=>rfl);(case h5=>simp);(case hl=>rfl);(case he=>exact tdF);(case h6=>rfl);(case h7=>exact tdF);(case h8=>simp);(case h9=>simp))
  | ((with_reducible refine Hv (d := ?_) (d2 := ?_) (cs := ?_) (Sr := ?_) (Sr2 := ?_) hv Ae ?h1 ?h2 ?h3 ?h4 ?h5 ?g1 ?g2 ?g3 ?g4 ?gl ?ge ?hl ?he ?h6 ?h7 ?h8 ?h9 ?_);(case h1=>rfl);(case h2=>rfl);(case h3=>rfl);(case h4=>rfl);(case h5=>rfl);(case g1=>rfl);(case g2=>rfl);(case g3=>rfl);(case g4=>simp);(case gl=>rfl);(case ge=>exact tdF);(case hl=>rfl);(case he=>exact tdF);(case h6=>rfl);(case h7=>exact tdF);(case h8=>simp);(case h9=>simp))
  | with_reducible refine Wt ?_
  | with_reducible refine UE ?_
  | with_reducible refine moIR ?_
  | with_reducible refine moIRG ?_
  | with_reducible refine Wu ?_
  | with_reducible refine UF ?_
  | with_reducible refine moIP ?_
  | with_reducible refine moIPG ?_
  | with_reducible refine nilE ?_
  | with_reducible refine nilN ?_
  | with_reducible refine boolE ?_
  | with_reducible refine boolN ?_
  | with_reducible refine NF ?_
  | with_reducible refine NG ?_)
 exact hG.get):G:=hs ⟨⟩ ⟨fx⟩ ⟨h⟩
def o3:OT:=[(3,false,[(0,1),(2,1),(1,1),(3,16)],[1,3,8,16])]
def o7:OT:=[(20,false,[(0,18)],[6,15])]
def o15:OT:=[(6,false,[(0,9)],[])]
def o16:OT:=[(4,false,[(0,49)],[12,13,17,18])]
def o19:OT:=[(6,true,[(0,14)],[10,11,12,13]),(12,true,[(0,14)],[10,11,12,13]),(18,true,[(0,14)],[10,11,12,13])]
def o27:OT:=[(6,false,[(0,9)],[])]
def o48:OT:=[(4,true,[(0,21)],[12,14,15,17,18,20]),(5,true,[(0,18)],[9,13,17]),(6,true,[(0,9)],[4,8]),(10,true,[(0,3),(4,3),(3,1),(7,3)],[3,8,9]),(12,true,[(0,18),(19,1),(18,1),(20,7)],[18,22,26]),(16,true,[(0,7),(8,5),(7,1),(13,9)],[7,13,17,21])]
def o52:OT:=[(3,true,[(0,11)],[6,9,10])]
def o53:OT:=[(2,false,[(0,1),(2,1),(4,1),(1,1),(3,1),(5,3)],[1,3]),(14,true,[(0,13)],[8,10,12]),(23,true,[(0,12),(13,6),(12,1),(19,5)],[12,21,23]),(24,true,[(0,13)],[8,12]),(30,true,[(0,11),(12,5),(18,1),(11,1),(17,1),(19,7)],[11,17,21,25])]
def o55:OT:=[(6,false,[(0,12)],[10])]
def o56:OT:=[(2,true,[(0,3),(4,2),(7,3),(3,1),(6,1),(10,5)],[3,6,10,13,14]),(8,true,[(0,10)],[9]),(15,true,[(0,17),(18,4),(17,1),(22,6)],[17,22,25,27])]
def o79:OT:=[(14,true,[(0,8),(9,6),(8,1),(15,3)],[3,8,17]),(15,true,[(0,18)],[17])]
def o82:OT:=[(9,false,[(0,10)],[7])]
def o83:OT:=[(13,true,[(0,9)],[6,8])]
def o106:OT:=[(1,true,[(0,3),(4,3),(8,3),(3,1),(7,1),(11,3)],[3,7,11,13])]
def o111:OT:=[(1,true,[(0,11)],[10])]
def o112:OT:=[(8,true,[(0,10)],[9]),(10,true,[(0,10)],[9]),(13,true,[(0,10)],[9]),(14,true,[(0,15)],[10,14]),(25,true,[(0,12)],[8,11])]
def o113:OT:=[(1,true,[(0,20),(21,4),(20,1),(25,3)],[20,25,27])]
def o119:OT:=[(18,true,[(0,10)],[8,9]),(20,true,[(0,11)],[7,10])]
def o120:OT:=[(14,false,[(0,10)],[8])]
def o125:OT:=[(3,true,[(0,4),(5,1),(4,1),(6,4)],[4,6,8,9]),(6,true,[(0,11)],[6,10])]
def o126:OT:=[(5,true,[(0,15)],[14]),(17,true,[(0,13)],[12]),(18,false,[(0,16)],[])]
def o131:OT:=[(8,false,[(0,7)],[]),(12,true,[(0,9)],[6,8]),(14,true,[(0,9)],[6,8]),(18,true,[(0,13)],[8,12]),(25,false,[(0,1),(2,3),(1,1),(5,2)],[1,5])]
def o132:OT:=[(9,true,[(0,16)],[11,13,15]),(13,true,[(0,14)],[9,11,13])]
def o136:OT:=[(1,true,[(0,3),(4,3),(8,3),(3,1),(7,1),(11,3)],[3,7,11,13])]
def o141:OT:=[(1,true,[(0,12)],[11])]
def o143:OT:=[(1,true,[(0,11)],[7,9,10]),(4,true,[(0,10)],[9])]
def o144:OT:=[(10,true,[(0,13)],[12]),(12,true,[(0,13)],[12]),(15,true,[(0,13)],[12]),(17,true,[(0,12)],[11]),(24,false,[(0,1),(2,3),(1,1),(5,2)],[1,5]),(25,true,[(0,10)],[5,7,9])]
def o184:OT:=[(2,true,[(0,7)],[6])]
def o185:OT:=[(31,true,[(0,8)],[7])]
def o187:OT:=[(1,true,[(0,12)],[7,11]),(8,true,[(0,8)],[7]),(11,false,[(0,12)],[])]
def o190:OT:=[(1,true,[(0,12)],[7,11]),(9,false,[(0,13)],[])]
def o191:OT:=[(19,true,[(0,6)],[3,4,5])]
def o200:OT:=[(1,true,[(0,7)],[6])]
def o202:OT:=[(6,true,[(0,8),(9,1),(8,1),(10,2)],[8,10,11])]
def o203:OT:=[(4,true,[(0,8)],[7])]
def o206:OT:=[(10,true,[(0,9)],[6,8])]
def o211:OT:=[(26,false,[(0,9)],[7]),(31,false,[(0,11)],[9])]
def o228:OT:=[(7,true,[(0,3),(4,2),(3,1),(6,2)],[3,7])]
def o247:OT:=[(11,false,[(0,11)],[9])]
def o250:OT:=[(6,false,[(0,15)],[]),(8,false,[(0,15)],[]),(9,false,[(0,3),(4,5),(10,3),(3,1),(9,1),(13,2)],[3,9,13])]
def o272:OT:=[(2,false,[(0,27)],[24])]
def o274:OT:=[(4,false,[(1,3),(0,1),(4,7)],[0,8,9])]
def o306:OT:=[(6,false,[(0,2),(3,2),(2,1),(5,3)],[2,5,6])]
end Go.DL
