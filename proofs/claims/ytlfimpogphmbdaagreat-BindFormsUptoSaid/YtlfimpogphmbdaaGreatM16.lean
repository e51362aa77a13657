/- Part of the proof that the last text ends. -/
import Derived.Test.YtlfimpogphmbdaaGreatM15
import Derived.Test.YtlfimpogphmbdaaGreatM13
set_option linter.all false
namespace Go.DL
open Go.Proofs.Tryz
open Go Go.Proofs
def hitD(tab:Nat->Ty)(e:Nat)(c:Bool):Option (Option (Nat×D))->Option D
 |some (some (_,d))=>some (if c then .tup [d,.bool true] else d)
 |some none=>match GO (tab e)with
  |some z=>some (if c then .tup [z,.bool false] else z)
  |none=>none
 |none=>none
@[simp high] theorem lookupD_h {tab:Nat->Ty} {V:Sig} {c:Bool} {T e:Nat} {x d:D}:GG tab V c (.map T e) x d=if A6 (tab e).k || !Bi (tab T).k d then none else match Cx V x with
  |some l=>hitD tab e c (D7 (tab T).k d l 0)
  |none=>none:=by
 rw[SI]
 by_cases hc:(A6 (tab e).k||!Bi (tab T).k d)=true
 ·rw[if_pos hc,if_pos hc]
 ·rw[if_neg hc,if_neg hc]
  cases Cx V x with
  |none=>rfl
  | some l =>
   cases h:D7 (tab T).k d l 0 with
   |none=>simp only[h];rfl
   |some r=>cases r with
    |none=>simp only[h];rfl
    |some p=>simp only[h];rfl
@[simp] theorem hitD_some(tab:Nat->Ty)(e i:Nat)(c:Bool)(d:D):hitD tab e c (some (some (i,d)))=some (if c then .tup [d,.bool true] else d):=rfl
def ins{α:Type}[DecidableEq α](k:α)(s:List α):List α:=if k∈s then s else s++[k]
theorem HN{α:Type}[DecidableEq α]{k x:α}{s:List α}:x∈ins k s ↔ x=k\/x∈s:=by
 unfold ins
 by_cases h:k∈s
 ·rw[if_pos h];exact⟨.inr,fun h'=>h'.elim (fun e=>e ▸ h) id⟩
 ·rw[if_neg h];simp[or_comm]
def getM{α β:Type}[DecidableEq α](z:β)(k:α):List (α×β)->β
 |[]=>z
 |(k',v)::r=>if k=k' then v else getM z k r
def hasM{α β:Type}[DecidableEq α](k:α):List (α×β)->Bool
 |[]=>false
 |(k',_)::r=>decide (k=k')||hasM k r
def putM{α β:Type}[DecidableEq α](k:α)(v:β):List (α×β)->List (α×β)
 |[]=>[(k,v)]
 |(k',v')::r=>if k=k' then(k,v)::r else(k',v')::putM k v r
theorem F0{α β:Type}[DecidableEq α](z:β)(k x:α)(v:β): ∀m:List (α×β),getM z x (putM k v m)=if x=k then v else getM z x m
 |[]=>by simp[putM,getM]
 | (k',v')::r=>by
  by_cases h:k=k'
  ·subst h;rw[putM,if_pos rfl,getM];by_cases hx:x=k<;>simp[hx,getM]
  ·rw[putM,if_neg h,getM,F0 z k x v r]
   by_cases hx:x=k'
   ·rw[if_pos hx,if_neg (fun e=>h (e.symm.trans hx)),getM,if_pos hx]
   ·rw[if_neg hx,getM,if_neg hx]
theorem Pr{α β:Type}[DecidableEq α](k x:α)(v:β): ∀m:List (α×β),hasM x (putM k v m)=(decide (x=k)||hasM x m)
 |[]=>by simp[putM,hasM]
 | (k',v')::r=>by
  by_cases h:k=k'
  ·subst h;rw[putM,if_pos rfl,hasM,hasM];cases decide (x=k)<;>simp
  ·rw[putM,if_neg h,hasM,Pr k x v r,hasM]
   cases decide (x=k')<;>cases decide (x=k)<;>simp
section
def eM{α β:Type}(kf:α->D)(f:β->D)(m:List (α×β)):List (D×D):=m.map fun p=>(kf p.1,f p.2)
def eS{α:Type}(kf:α->D)(s:List α):List (D×D):=s.map fun k=>(kf k,.bool true)
structure KeyOK{α:Type}[DecidableEq α](kt:TyK)(kf:α->D):Prop where
 key:∀a b:α,keyB kt (kf a) (kf b)=some (decide (a=b))
theorem keyI:KeyOK (.int .i64) dI:=⟨fun a b=>by simp[keyB,F9]⟩
theorem keyS:KeyOK .str D.str:=⟨fun a b=>by simp[keyB,F9]⟩
variable {α β:Type}[DecidableEq α]{kt:TyK}{kf:α->D}(hk:KeyOK kt kf)
include hk
theorem OE(k:α): ∀(s:List α) (i:Nat),(k∈s->∃j,D7 kt (kf k) (eS kf s) i=some (some (i+j,.bool true))/\s[j]? = some k)/\(k∉s->D7 kt (kf k) (eS kf s) i=some none)
 |[],i=>by simp[eS,D7]
 | x::s,i=>by
  obtain⟨h1,h2⟩:=OE k s (i+1)
  simp only[eS]at h1 h2
  simp only[eS,List.map_cons,D7,hk.key]
  by_cases h:k=x
  ·subst h
   simp only[decide_true]
   exact⟨fun _=>⟨0,rfl,rfl⟩,fun h=>absurd (by simp) h⟩
  ·have e:decide (k=x)=false:=by simp[h]
   simp only[e]
   refine⟨fun hm =>?_,fun hm=>h2 fun hm'=>hm (by simp[hm'])⟩
   obtain⟨j,a,b⟩:=h1 ((List.mem_cons.1 hm).resolve_left h)
   exact⟨j+1,by rw[a];congr 3;omega,by simpa using b⟩
theorem WU{tab:Nat->Ty}{e:Nat}(hz:GO (tab e)=some (.bool false))(k:α)(s:List α):hitD tab e false (D7 kt (kf k) (eS kf s) 0)=some (.bool (decide (k∈s))):=by
 obtain⟨h1,h2⟩:=OE hk k s 0
 by_cases h:k∈s
 ·obtain⟨j,a,_⟩:=h1 h;rw[a];simp[h]
 ·rw[h2 h];simp only[hitD,hz,Bool.false_eq_true,if_false,h,decide_false]
theorem WL(k:α)(s:List α):Cn kt (kf k) (.bool true) (eS kf s)=some (eS kf (ins k s)):=by
 obtain⟨h1,h2⟩:=OE hk k s 0
 unfold Cn ins
 by_cases h:k∈s
 ·obtain⟨j,a,b⟩:=h1 h
  rw[a,if_pos h]
  simp only[Nat.zero_add,Option.some.injEq]
  apply List.ext_getElem?
  intro i
  rw[List.getElem?_set]
  by_cases hi:j=i
  ·subst hi
   have hlt:j<s.length:=(List.getElem?_eq_some_iff.1 b).1
   have hb:s[j]=k:=by rw[List.getElem?_eq_getElem hlt]at b;exact Option.some.inj b
   simp[eS,hlt,hb]
  ·rw[if_neg hi]
 ·rw[h2 h,if_neg h];simp[eS]
theorem Jt(f:β->D)(k:α): ∀(m:List (α×β)) (i:Nat),(hasM k m=true->∃j v,D7 kt (kf k) (eM kf f m) i=some (some (i+j,f v))/\(∀z,getM z k m=v) /\ ∀w,(eM kf f m).set j (kf k,f w)=eM kf f (putM k w m)) /\
  (hasM k m=false->D7 kt (kf k) (eM kf f m) i=some none/\(∀z,getM z k m=z) /\ ∀w,eM kf f m++[(kf k,f w)]=eM kf f (putM k w m))
 |[],i=>by simp[eM,D7,hasM,getM,putM]
 | (x,y)::m,i=>by
  obtain⟨h1,h2⟩:=Jt f k m (i+1)
  simp only[eM]at h1 h2
  simp only[eM,List.map_cons,D7,hk.key,hasM]
  by_cases h:k=x
  ·subst h
   simp only[decide_true,Bool.true_or]
   refine⟨fun _=>⟨0,y,rfl,fun z=>by simp[getM],fun w=>by simp[putM]⟩,fun h=>by cases h⟩
  ·have e:decide (k=x)=false:=by simp[h]
   simp only[e,Bool.false_or]
   refine⟨fun hm =>?_,fun hm =>?_⟩
   ·obtain⟨j,v,a,b,c⟩:=h1 hm
    refine⟨j+1,v,by rw[a];congr 3;omega,fun z=>by rw[getM,if_neg h];exact b z,fun w =>?_⟩
    rw[putM,if_neg h,List.map_cons,List.set_cons_succ,c w]
   ·obtain⟨a,b,c⟩:=h2 hm
    refine⟨a,fun z=>by rw[getM,if_neg h];exact b z,fun w =>?_⟩
    rw[putM,if_neg h,List.map_cons,List.cons_append,c w]
theorem hit_eM{tab:Nat->Ty}{e:Nat}{z:β}{zd:D}(f:β->D)(hz:GO (tab e)=some zd)(k:α)(m:List (α×β)):hitD tab e false (D7 kt (kf k) (eM kf f m) 0)=some (if hasM k m then f (getM z k m) else zd):=by
 obtain⟨h1,h2⟩:=Jt hk f k m 0
 cases h:hasM k m with
 |true=>obtain⟨j,v,a,b,_⟩:=h1 h;rw[a,b z];simp
 |false=>obtain⟨a,b,_⟩:=h2 h;rw[a];simp only[hitD,hz,Bool.false_eq_true,if_false]
theorem hit_eM'{tab:Nat->Ty}{e:Nat}{z:β}(f:β->D)(hz:GO (tab e)=some (f z))(k:α)(m:List (α×β)):hitD tab e false (D7 kt (kf k) (eM kf f m) 0)=some (f (getM z k m)):=by
 obtain⟨h1,h2⟩:=Jt hk f k m 0
 cases h:hasM k m with
 |true=>obtain⟨j,v,a,b,_⟩:=h1 h;rw[a,b z];simp
 |false=>obtain⟨a,b,_⟩:=h2 h;rw[a,b z];simp only[hitD,hz,Bool.false_eq_true,if_false,if_true]
theorem LR{tab:Nat->Ty}{e:Nat}{z:β}(f:β->D)(hz:GO (tab e)=some (f z))(k:α)(m:List (α×β)):hitD tab e true (D7 kt (kf k) (eM kf f m) 0)=some (.tup [f (getM z k m),.bool (hasM k m)]):=by
 obtain⟨h1,h2⟩:=Jt hk f k m 0
 cases h:hasM k m with
 |true=>obtain⟨j,v,a,b,_⟩:=h1 h;rw[a,b z];simp
 |false=>obtain⟨a,b,_⟩:=h2 h;rw[a,b z];simp only[hitD,hz,Bool.false_eq_true,if_false,if_true]
theorem P9(f:β->D)(k:α)(v:β)(m:List (α×β)):Cn kt (kf k) (f v) (eM kf f m)=some (eM kf f (putM k v m)):=by
 obtain⟨h1,h2⟩:=Jt hk f k m 0
 unfold Cn
 cases h:hasM k m with
 |true=>obtain⟨j,w,a,_,c⟩:=h1 h;rw[a];simp only[Nat.zero_add];rw[c v]
 |false=>obtain⟨a,_,c⟩:=h2 h;rw[a];simp only;rw[c v]
end
def eSI(s:List Int):List (D×D):=eS dI s
def eSS(s:List Str):List (D×D):=eS D.str s
def eSN(m:List (Str×Int)):List (D×D):=eM D.str dI m
def eIN(m:List (Int×Int)):List (D×D):=eM dI dI m
@[simp] theorem hitI4(k:Int)(s:List Int):hitD tab 4 false (D7 (.int .i64) (.int .i64 k) (eSI s) 0)=some (.bool (decide (k∈s))):=WU keyI rfl k s
@[simp] theorem hitS4(k:Str)(s:List Str):hitD tab 4 false (D7 .str (.str k) (eSS s) 0)=some (.bool (decide (k∈s))):=(WU (tab:=tab) (e:=4) keyS rfl k s).trans (congrArg (fun b=>some (D.bool b)) (decide_eq_decide.2 Iff.rfl))
@[simp] theorem putI4(k:Int)(s:List Int):Cn (.int .i64) (.int .i64 k) (.bool true) (eSI s)=some (eSI (ins k s)):=WL keyI k s
@[simp] theorem putS4(k:Str)(s:List Str):Cn .str (.str k) (.bool true) (eSS s)=some (eSS (ins k s)):=WL keyS k s
@[simp] theorem hitSN(k:Str)(m:List (Str×Int)):hitD tab 3 false (D7 .str (.str k) (eSN m) 0)=some (.int .i64 (getM 0 k m)):=hit_eM' keyS dI rfl k m
@[simp] theorem hitSNok(k:Str)(m:List (Str×Int)):hitD tab 3 true (D7 .str (.str k) (eSN m) 0)=some (.tup [.int .i64 (getM 0 k m),.bool (hasM k m)]):=LR keyS dI rfl k m
@[simp] theorem putSN(k:Str)(v:Int)(m:List (Str×Int)):Cn .str (.str k) (.int .i64 v) (eSN m)=some (eSN (putM k v m)):=P9 keyS dI k v m
@[simp] theorem hitINok(k:Int)(m:List (Int×Int)):hitD tab 3 true (D7 (.int .i64) (.int .i64 k) (eIN m) 0)=some (.tup [.int .i64 (getM 0 k m),.bool (hasM k m)]):=LR keyI dI rfl k m
@[simp] theorem putIN(k v:Int)(m:List (Int×Int)):Cn (.int .i64) (.int .i64 k) (.int .i64 v) (eIN m)=some (eIN (putM k v m)):=P9 keyI dI k v m
def eIO(m:List (Int×List Int)):List (D×D):=eM dI (fun l=>sl (cI l)) m
@[simp] theorem putIO(k:Int)(v:List Int)(m:List (Int×List Int)):Cn (.int .i64) (.int .i64 k) (sl (cI v)) (eIO m)=some (eIO (putM k v m)):=P9 keyI (fun l=>sl (cI l)) k v m
theorem hitIO(k:Int)(m:List (Int×List Int)):hitD tab 23 false (D7 (.int .i64) (.int .i64 k) (eIO m) 0)=some (if hasM k m then sl (cI (getM [] k m)) else .nils):=hit_eM keyI _ rfl k m
section
variable {P:Program}{ro:Option Nat}{n:Nat}{Q:DX->St->Prop}{df:List DDf}{O:List (Nat×D)}{V:Sig}
theorem Qu{Sk:Fr}{α β δ ε:Type}{c:Code}(keep:List Nat)(I:α->β->δ->ε->Prop)(ov:α->β->δ->ε->Fr)(sg:α->β->δ->ε->Sig)(μ:α->β->δ->ε->Nat)(x0:α)(y0:β)(z0:δ)(u0:ε)(h0:I x0 y0 z0 u0)
  (round:∀x y z u,I x y z u->DWp P ro n c (Then (fun s' => ∃x' y' z' u',I x' y' z' u'/\μ x' y' z' u'<μ x y z u/\Wk P n s' ⟨ov x' y' z' u'++Sk,sg x' y' z' u',df⟩) Q) ⟨ov x y z u++Sk,sg x y z u,df⟩) (hk:E6 O keep=some Sk:=by exact tdR) (h1:TellsR O (ov x0 y0 z0 u0++Sk):=by(first|refine GY ?_ ?_|skip)<;>(repeat' first|exact GX|refine FU tdR ?_ ?_|(first|exact A8 _|exact AE _ _|exact Al _ (.inl rfl)|exact Em _|(refine IB _ ?_;first|omega|(simp;done)|(simp;omega))|(refine AS ?_;(simp;done))|(refine AS ?_;(simp[cI,cS,cII,DR,Cv,Cz];done))|(refine Cj _ ?_;(simp[cI,cS,cII];done))|(refine AS ?_;(simp_all;done))|assumption))) (h2:Sub (sg x0 y0 z0 u0) V:=by first|exact Sub.refl _|(refine B3 ?_;simp;done)|assumption|exact(Sub.refl _).set (by assumption)):DWp P ro n (.loop c) Q ⟨O,V,df⟩:=by
 refine FP (α:=α×β×δ×ε) keep (fun x=>I x.1 x.2.1 x.2.2.1 x.2.2.2) (fun x=>ov x.1 x.2.1 x.2.2.1 x.2.2.2) (fun x=>sg x.1 x.2.1 x.2.2.1 x.2.2.2) (fun x=>μ x.1 x.2.1 x.2.2.1 x.2.2.2) (x0,y0,z0,u0) hk h0 h1 h2 fun x hx=>F5 (round x.1 x.2.1 x.2.2.1 x.2.2.2 hx) ?_
 intro e s h
 cases e with
 |normal=>obtain⟨x',y',z',u',h3,h4,h5⟩:=h;exact⟨(x',y',z',u'),h3,h4,h5⟩
 |_=>exact h
theorem VD{Sk:Fr}{α β δ ε ζ:Type}{c:Code}(keep:List Nat)(I:α->β->δ->ε->ζ->Prop)(ov:α->β->δ->ε->ζ->Fr)(sg:α->β->δ->ε->ζ->Sig)(μ:α->β->δ->ε->ζ->Nat)(x0:α)(y0:β)(z0:δ)(u0:ε)(v0:ζ)(h0:I x0 y0 z0 u0 v0)
  (round:∀x y z u v,I x y z u v->DWp P ro n c (Then (fun s' => ∃x' y' z' u' v',I x' y' z' u' v'/\μ x' y' z' u' v'<μ x y z u v/\Wk P n s' ⟨ov x' y' z' u' v'++Sk,sg x' y' z' u' v',df⟩) Q) ⟨ov x y z u v++Sk,sg x y z u v,df⟩) (hk:E6 O keep=some Sk:=by exact tdR) (h1:TellsR O (ov x0 y0 z0 u0 v0++Sk):=by(first|refine GY ?_ ?_|skip)<;>(repeat' first|exact GX|refine FU tdR ?_ ?_|(first|exact A8 _|exact AE _ _|exact Al _ (.inl rfl)|exact Em _|(refine IB _ ?_;first|omega|(simp;done)|(simp;omega))|(refine AS ?_;(simp;done))|(refine AS ?_;(simp[cI,cS,cII,DR,Cv,Cz];done))|(refine Cj _ ?_;(simp[cI,cS,cII];done))|(refine AS ?_;(simp_all;done))|assumption))) (h2:Sub (sg x0 y0 z0 u0 v0) V:=by first|exact Sub.refl _|(refine B3 ?_;simp;done)|assumption|exact(Sub.refl _).set (by assumption)):DWp P ro n (.loop c) Q ⟨O,V,df⟩:=by
 refine FP (α:=α×β×δ×ε×ζ) keep (fun x=>I x.1 x.2.1 x.2.2.1 x.2.2.2.1 x.2.2.2.2) (fun x=>ov x.1 x.2.1 x.2.2.1 x.2.2.2.1 x.2.2.2.2) (fun x=>sg x.1 x.2.1 x.2.2.1 x.2.2.2.1 x.2.2.2.2) (fun x=>μ x.1 x.2.1 x.2.2.1 x.2.2.2.1 x.2.2.2.2) (x0,y0,z0,u0,v0) hk h0 h1 h2 fun x hx=>F5 (round x.1 x.2.1 x.2.2.1 x.2.2.2.1 x.2.2.2.2 hx) ?_
 intro e s h
 cases e with
 |normal=>obtain⟨x',y',z',u',v',h3,h4,h5⟩:=h;exact⟨(x',y',z',u',v'),h3,h4,h5⟩
 |_=>exact h
variable {ops:Array Oper}{rest:List Oper}{Sr:List (Nat×D)}{t:Nat}{ty:TypeId}{pos:String}{after:Array Edge}
theorem newSI{T:Nat}(h:∀i,V i=none->DOps prog ro n ops Q rest ⟨(t,.map i)::O,V.set i (.map (eSI [])),df⟩)(htn:decide (t<n)=true:=by exact tdR):DOps prog ro n ops Q (⟨some t,.makeMap T none,ty,pos,after,none⟩::rest) ⟨O,V,df⟩:=newM h htn
theorem LF{T:Nat}(h:∀i,V i=none->DOps prog ro n ops Q rest ⟨(t,.map i)::O,V.set i (.map (eSS [])),df⟩)(htn:decide (t<n)=true:=by exact tdR):DOps prog ro n ops Q (⟨some t,.makeMap T none,ty,pos,after,none⟩::rest) ⟨O,V,df⟩:=newM h htn
theorem Sf{T:Nat}(h:∀i,V i=none->DOps prog ro n ops Q rest ⟨(t,.map i)::O,V.set i (.map (eSN [])),df⟩)(htn:decide (t<n)=true:=by exact tdR):DOps prog ro n ops Q (⟨some t,.makeMap T none,ty,pos,after,none⟩::rest) ⟨O,V,df⟩:=newM h htn
theorem newIN{T:Nat}(h:∀i,V i=none->DOps prog ro n ops Q rest ⟨(t,.map i)::O,V.set i (.map (eIN [])),df⟩)(htn:decide (t<n)=true:=by exact tdR):DOps prog ro n ops Q (⟨some t,.makeMap T none,ty,pos,after,none⟩::rest) ⟨O,V,df⟩:=newM h htn
theorem newIO{T:Nat}(h:∀i,V i=none->DOps prog ro n ops Q rest ⟨(t,.map i)::O,V.set i (.map (eIO [])),df⟩)(htn:decide (t<n)=true:=by exact tdR):DOps prog ro n ops Q (⟨some t,.makeMap T none,ty,pos,after,none⟩::rest) ⟨O,V,df⟩:=newM h htn
theorem lkO{x y:Operand}{i:Nat}{k:Int}{m:List (Int×List Int)}(h:DOps prog ro n ops Q rest ⟨(t,sl (cI (getM [] k m)))::O,V,df⟩)(hi:V i=some (.map (eIO m)):=by first|assumption|(simp;done))
  (hl:A5 O (A9 [x,y])=some Sr:=by exact tdR) (hx:ev Sr x=.map i:=by exact tdR) (hy:ev Sr y=dI k:=by exact tdR) (htn:decide (t<n)=true:=by exact tdR) :
  DOps prog ro n ops Q (⟨some t,.lookup 183 x y false,ty,pos,after,none⟩::rest) ⟨O,V,df⟩:=by
 refine GZ (d:=if hasM k m then sl (cI (getM [] k m)) else .nils) Ad rfl htn hl ?_ ?_
 ·simp only[dopX_lk,hx,hy]
  simp[hi,hitIO]
 ·refine BE (BT (t:=t) (d:=sl (cI (getM [] k m))) ?_) (CP (O:=(t,sl (cI (getM [] k m)))::O) (fun j =>?_) h)
  ·rw [Aa,if_pos rfl]
   cases hh:hasM k m with
   |true=>exact A8 _
   | false =>
    have:getM [] k m=[]:=by
     have key:∀m:List (Int×List Int),hasM k m=false->getM [] k m=[]:=fun m=>by
      induction m with
      |nil=>intro _;rfl
      |cons p m ih =>
       intro h
       simp only[hasM,Bool.or_eq_false_iff,decide_eq_false_iff_not]at h
       rw[getM,if_neg h.1];exact ih h.2
     exact key m hh
    rw[this];exact Al _ (.inl rfl)
  ·simp only[Aa];split<;>rfl
end
theorem mS_at{V:Sig}{i sz:Nat}{X:DObj}{st:MR}{es:List (List D)}(h:mOK (V.set i X) sz st es):(∀Y,mOK (V.set i Y) sz st es)/\(∀Y,mS (V.set i Y) st es i=some Y) /\ ∀Y Z,(mS (V.set i Y) st es).set i Z=mS (V.set i Z) st es:=by
 cases st with
 |none=>exact⟨fun Y=>h,fun Y=>w7 .., fun Y Z=>w9 ..⟩
 |some x =>
  obtain⟨k,cap,r⟩:=x
  obtain⟨h1,h2,h3,h4⟩:=h
  have hki:k≠i:=fun e=>by rw[e,w7]at h1;cases h1
  rw[w8 _ _ hki]at h1
  refine⟨fun Y=>⟨by rw[w8 _ _ hki];exact h1,h2,h3,h4⟩,fun Y =>?_,fun Y Z =>?_⟩
  ·simp only[mS];rw[w8 _ _ (Ne.symm hki),w7]
  ·simp only[mS];rw[Sig.set_comm _ _ _ (Ne.symm hki),w9];exact Sig.set_comm _ _ _ hki |>.symm ▸ rfl
theorem V9(a b:List Int):cI a++cI b=cI (a++b):=by simp[cI]
section
variable {ro:Option Nat}{n:Nat}{Q:DX->St->Prop}{df:List DDf}{O Sr:List (Nat×D)}{V:Sig}{ops:Array Oper}{rest:List Oper}{t:Nat}{ty:TypeId}{pos:String}{after:Array Edge}
theorem mappI{T T' e e':Nat}{s x:Operand}{l m:List Int}{st:MR}(h:∀st',mOK V 1 st' (cI (l++m))->DOps prog ro n ops Q rest ⟨(t,mD st' (l++m).length)::O,mS V st' (cI (l++m)),df⟩)(hm:mOK V 1 st (cI l):=by assumption)
  (hl:A5 O (A9 [s,x])=some Sr:=by exact tdR) (hk:(tab T).k=.slice e:=by(simp<;>rfl)) (hk':(tab T').k=.slice e':=by(simp<;>rfl)) (he:A6 (tab e).k=false:=by simp) (hsz:(tab e).size=1:=by simp)
  (h1:ev Sr s=mD st l.length:=by exact tdR) (h2:esOf (ev Sr x)=some (cI m):=by(simp<;>with_unfolding_all rfl))
  (hb:(l.length+m.length)*(tab e).bytes<=140737488355328:=by first|(simp;done)|(simp;omega)) (hm2:l.length+m.length<=9223372036854775807:=by omega) (htn:decide (t<n)=true:=by exact tdR) :
  DOps prog ro n ops Q (⟨some t,(cA s x T T'),ty,pos,after,none⟩::rest) ⟨O,mS V st (cI l),df⟩:=by
 refine mapp (fun st' hm' =>?_) hm hl hk hk' he hsz (by rw[h1,Ia]) h2 (BQ _) (by simp[cI,D1,D.flat]) (by simpa using hb) ?_ htn
 ·rw[V9]at hm'⊢
  rw[Ia,Ia, <-List.length_append]
  exact h st' hm'
 ·simpa using hm2
end
structure ShlOf(k:IntKind)(a b:Int) where
 val:Int
 is:val=k.wrap (a*2 ^ (min b.toNat k.bits))
def shlI(k:IntKind)(a b:Int):ShlOf k a b:=⟨_,rfl⟩
theorem Q9(k k':IntKind)(a b:Int)(h:0<=b):binD .shl (.int k a) (.int k' b)=some (.int k (shlI k a b).val):=by
 rw[(shlI k a b).is];simp only[binD,h,if_true]
class Ans(f:Nat)(us:List D)(V:Sig)(H:outParam Prop)(d:outParam D):Prop where
 call:H->DCall prog f us V (rS d V)
class Giv(f:Nat)(us:List D)(V:Sig)(H:outParam Prop)(c:outParam Bool)(d u:outParam D):Prop where
 call:H->DCall prog f us V fun x S'=>x=(if c then .ret d else .panic u)/\S'=V
theorem ah0{f:Nat}{us:List D}{V:Sig}{d:D}(h:DCall prog f us V (rS d V)):Ans f us V (True) d:=⟨fun _=>h⟩
theorem ah1{f:Nat}{us:List D}{V:Sig}{d:D}{p:Prop}(h:p->DCall prog f us V (rS d V)):Ans f us V (p) d:=⟨fun p=>h p⟩
theorem ah2{f:Nat}{us:List D}{V:Sig}{d:D}{p q:Prop}(h:p->q->DCall prog f us V (rS d V)):Ans f us V (p/\q) d:=⟨fun ⟨p,q⟩=>h p q⟩
theorem ah3{f:Nat}{us:List D}{V:Sig}{d:D}{p q r:Prop}(h:p->q->r->DCall prog f us V (rS d V)):Ans f us V (p/\q/\r) d:=⟨fun ⟨p,q,r⟩=>h p q r⟩
theorem ah4{f:Nat}{us:List D}{V:Sig}{d:D}{p q r s:Prop}(h:p->q->r->s->DCall prog f us V (rS d V)):Ans f us V (p/\q/\r/\s) d:=⟨fun ⟨p,q,r,s⟩=>h p q r s⟩
theorem gh0{f:Nat}{us:List D}{V:Sig}{c:Bool}{d u:D}(h:DCall prog f us V fun x S'=>x=(if c then .ret d else .panic u)/\S'=V):Giv f us V (True) c d u:=⟨fun _=>h⟩
theorem gh1{f:Nat}{us:List D}{V:Sig}{c:Bool}{d u:D}{p:Prop}(h:p->DCall prog f us V fun x S'=>x=(if c then .ret d else .panic u)/\S'=V):Giv f us V (p) c d u:=⟨fun p=>h p⟩
theorem gh2{f:Nat}{us:List D}{V:Sig}{c:Bool}{d u:D}{p q:Prop}(h:p->q->DCall prog f us V fun x S'=>x=(if c then .ret d else .panic u)/\S'=V):Giv f us V (p/\q) c d u:=⟨fun ⟨p,q⟩=>h p q⟩
class BoolIs(b:Bool)(p q:outParam Prop):Prop where
 yes:b=true->p
 no:b=false->q
instance (priority:=low) boolIs (b:Bool):BoolIs b (b=true) (b=false):=⟨id,id⟩
instance (priority:=high) boolIs_t:BoolIs true True False:=⟨fun _=>trivial,(fun h=>by cases h)⟩
instance (priority:=high) boolIs_f:BoolIs false False True:=⟨(fun h=>by cases h),fun _=>trivial⟩
instance boolIs_dec(p:Prop)[inst:Decidable p]:BoolIs (decide p) p (¬p):=⟨of_decide_eq_true,of_decide_eq_false⟩
instance boolIs_not(b:Bool)(p q:Prop)[h:BoolIs b p q]:BoolIs (!b) q p:=⟨fun e=>h.no (by cases b<;>simp_all),fun e=>h.yes (by cases b<;>simp_all)⟩
instance boolIs_and(a b:Bool)(p q p' q':Prop)[h:BoolIs a p q][k:BoolIs b p' q']:BoolIs (a&&b) (p/\p') (q\/q'):=⟨fun e=>by cases a<;>cases b<;>simp_all;exact⟨h.yes rfl,k.yes rfl⟩,fun e=>by cases a with|false=>exact .inl (h.no rfl)|true=>exact .inr (k.no (by simpa using e))⟩
inductive NotLit(b:Bool):Prop
 |mk
structure Two(A B:Prop):Prop where
 a:A
 b:B
class T2(p q A B:Prop)(C:outParam Prop):Prop where
 to:C->(p->A)/\(q->B)
instance (priority:=low) t2_two (p q A B:Prop):T2 p q A B (Two (p->A) (q->B)):=⟨fun h=>⟨h.a,h.b⟩⟩
instance (priority:=high) t2_a (A B:Prop):T2 True False A B A:=⟨fun h=>⟨fun _=>h,False.elim⟩⟩
instance (priority:=high) t2_b (A B:Prop):T2 False True A B B:=⟨fun h=>⟨False.elim,fun _=>h⟩⟩
theorem sd{p:Prop}(h:p:=by first|assumption|omega|simp):p:=h
theorem tdH{p:Prop}(h:p:=by(and_intros<;>first|trivial|assumption|omega|(simp;done)|(simp;omega))):p:=h
theorem tdP{p:Prop}(h:p:=by(try simp only[List.map_cons,List.map_nil,D.plain]);with_unfolding_all rfl):p:=h
theorem tdS{F p:Prop}(fx:Hold F)(h:Hold F->p:=by intro fx;simp(disch:=first|omega|assumption) [Ao,big1,big2,w8,Dx,Cu,Dw,Ct,Dy,Dv,Cq,BO,Cp,BN,Cr,Co,FG,fx.get]<;>(try simp only[Bn,Bo,AX,Bm,AC,B0,AZ,AY,AW,AB,AV,AU,AT])<;>first|rfl|(and_intros<;>rfl)):p:=h fx
theorem tdE{F p:Prop}(fx:Hold F)(h:Hold F->p:=by intro fx;simp(disch:=first|omega|assumption) [Ao,big1,big2,w8,Dx,Cu,Dw,Ct,Dy,Dv,Cq,BO,Cp,BN,Cr,Co,FG,fx.get]<;>first|rfl|(and_intros<;>rfl)):p:=h fx
theorem tdC{F p:Prop}(fx:Hold F)(h:Hold F->p:=by intro fx;simp(disch:=first|omega|assumption) [Ao,big1,big2,w8,Dx,Cu,Dw,Ct,Dy,Dv,Cq,BO,Cp,BN,Cr,Co,FG,fx.get]<;>fail):p:=h fx
theorem tdF{p:Prop}(h:p:=by simp<;>(try simp only[Bn,Bo,AX,Bm,AC,B0,AZ,AY,AW,AB,AV,AU,AT])<;>rfl):p:=h
theorem litT:NotLit true := .mk
theorem litF:NotLit false := .mk
section
variable {P:Program}{ro:Option Nat}{n:Nat}{ops:Array Oper}{N:Nat}{S0:Sig}{Q:DX->St->Prop}{df:List DDf}{rest:List Oper}{O Sr:List (Nat×D)}{V:Sig}{t:Nat}{ty:TypeId}{pos:String}{after:Array Edge}{l:List (Bool×Oper)}{d:D}
theorem WX{fop:Operand}{args:Array Operand}{ats:Array TypeId}{f:Nat}{first cap us:List D}{H:Prop}(k1:DOps prog ro n ops Q rest ⟨(t,d)::O,V,df⟩)(hl:A5 O (A9 (fop::args.toList))=some Sr:=by exact tdR)(hf:ev Sr fop=.func (.func f) first cap:=by exact tdR)(ha:first++args.toList.map (ev Sr)++cap=us:=by exact td0)(hs:Ans f us V H d:=by infer_instance)(hH:H:=by exact tdH)(htn:decide (t<n)=true:=by exact tdR):DOps prog ro n ops Q (⟨some t,(cv fop args ats),ty,pos,after,none⟩::rest) ⟨O,V,df⟩:=FW hl hf ha (.inl rfl) (hs.call hH) htn k1
theorem V6{fop:Operand}{args:Array Operand}{ats:Array TypeId}{f:Nat}{first cap us:List D}{j:Nat}{want:Bool}{k:Nat}{H:Prop}(k1:DOps prog ro n ops Q rest ⟨(t,d)::O,V,df⟩)(hk:(ops[j]?).bind (·.dst)=some k:=by exact tdR)(hb:O.lookup k=some (.bool want):=by exact tdR)(hl:A5 O (A9 (fop::args.toList))=some Sr:=by exact tdR)(hf:ev Sr fop=.func (.func f) first cap:=by exact tdR)(ha:first++args.toList.map (ev Sr)++cap=us:=by exact td0)(hs:Ans f us V H d:=by infer_instance)(hH:H:=by exact tdH)(htn:decide (t<n)=true:=by exact tdR):DOps prog ro n ops Q (⟨some t,(cv fop args ats),ty,pos,after,some (j,want)⟩::rest) ⟨O,V,df⟩:=ER hk hb hl hf ha (.inl rfl) (hs.call hH) htn k1
theorem moIR{fop:Operand}{args:Array Operand}{ats:Array TypeId}{f:Nat}{first cap us:List D}{H:Prop}{l:List (Bool×Oper)}(k1:MO prog ro n ops N S0 Q df l ((t,d)::O) V)(hl:A5 O (A9 (fop::args.toList))=some Sr:=by exact tdR)(hf:ev Sr fop=.func (.func f) first cap:=by exact tdR)(ha:first++args.toList.map (ev Sr)++cap=us:=by exact td0)(hs:Ans f us V H d:=by infer_instance)(hH:H:=by exact tdH)(hC:Sub S0 V:=by first|exact Sub.refl _|assumption)(htn:decide (t<n)=true:=by exact tdR):MO prog ro n ops N S0 Q df ((true,⟨some t,(cv fop args ats),ty,pos,after,none⟩)::l) O V:=Ip hl hf ha (.inl rfl) (hs.call hH) htn hC k1
theorem moIRG{fop:Operand}{args:Array Operand}{ats:Array TypeId}{f:Nat}{first cap us:List D}{j:Nat}{want:Bool}{k:Nat}{H:Prop}{l:List (Bool×Oper)}(k1:MO prog ro n ops N S0 Q df l ((t,d)::O) V)(hk:(ops[j]?).bind (·.dst)=some k:=by exact tdR)(hb:O.lookup k=some (.bool want):=by exact tdR)(hl:A5 O (A9 (fop::args.toList))=some Sr:=by exact tdR)(hf:ev Sr fop=.func (.func f) first cap:=by exact tdR)(ha:first++args.toList.map (ev Sr)++cap=us:=by exact td0)(hs:Ans f us V H d:=by infer_instance)(hH:H:=by exact tdH)(hC:Sub S0 V:=by first|exact Sub.refl _|assumption)(htn:decide (t<n)=true:=by exact tdR):MO prog ro n ops N S0 Q df ((true,⟨some t,(cv fop args ats),ty,pos,after,some (j,want)⟩)::l) O V:=Hd hk hb hl hf ha (.inl rfl) (hs.call hH) htn hC k1
theorem needIR{fop:Operand}{args:Array Operand}{ats:Array TypeId}{f:Nat}{first cap us:List D}{H p q:Prop}{b b':Bool}{u d:D}{dst:Option Tmp}{C:Prop}(kc:C)(hl:A5 O (A9 (fop::args.toList))=some Sr:=by exact tdR)(hf:ev Sr fop=.func (.func f) first cap:=by exact tdR)(ha:first++args.toList.map (ev Sr)++cap=us:=by exact td0)(hs:Giv f us V H b d u:=by infer_instance)(he:b=b':=by first|assumption|exact rfl)(hbi:BoolIs b' p q:=by infer_instance)(hz:T2 p q (DOps prog ro n ops Q rest ⟨putD dst d O,V,df⟩) (Q (.panic u) ⟨O,V,df⟩) C:=by infer_instance)(hH:H:=by exact tdH)(ho:At n ⟨dst,(cv fop args ats),ty,pos,after,none⟩=true:=by exact tdR):DOps prog ro n ops Q (⟨dst,(cv fop args ats),ty,pos,after,none⟩::rest) ⟨O,V,df⟩:=needR (hs.call hH) (fun h=>(hz.to kc).1 (hbi.yes (he.symm.trans h))) (fun h=>(hz.to kc).2 (hbi.no (he.symm.trans h))) (hl:=hl) (hf:=hf) (ha:=ha) (hp:=rfl) (ho:=ho)
theorem Vw{fop:Operand}{args:Array Operand}{ats:Array TypeId}{f:Nat}{first cap us:List D}{H p q:Prop}{b b':Bool}{u d:D}{dst:Option Tmp}{l:List (Bool×Oper)}{C:Prop}(kc:C)(hl:A5 O (A9 (fop::args.toList))=some Sr:=by exact tdR)(hf:ev Sr fop=.func (.func f) first cap:=by exact tdR)(ha:first++args.toList.map (ev Sr)++cap=us:=by exact td0)(hs:Giv f us V H b d u:=by infer_instance)(he:b=b':=by first|assumption|exact rfl)(hbi:BoolIs b' p q:=by infer_instance)(hz:T2 p q (MO prog ro n ops N S0 Q df l (putD dst d O) V) (∀U',Q (.panic u) ⟨U',V,df⟩) C:=by infer_instance)(hH:H:=by exact tdH)(hC:Sub S0 V:=by first|exact Sub.refl _|assumption)(ho:At n ⟨dst,(cv fop args ats),ty,pos,after,none⟩=true:=by exact tdR):MO prog ro n ops N S0 Q df ((true,⟨dst,(cv fop args ats),ty,pos,after,none⟩)::l) O V:=moNeedR (hs.call hH) (fun h=>(hz.to kc).1 (hbi.yes (he.symm.trans h))) (fun h=>(hz.to kc).2 (hbi.no (he.symm.trans h))) (hl:=hl) (hf:=hf) (ha:=ha) (hp:=rfl) (hC:=hC) (ho:=ho)
theorem WY{fop:Operand}{args:Array Operand}{ats:Array TypeId}{f:Nat}{first cap us bs:List D}{H:Prop}(k1:DOps prog ro n ops Q rest ⟨(t,d)::O,V,df⟩)(hl:A5 O (A9 (fop::args.toList))=some Sr:=by exact tdR)(hf:ev Sr fop=.func (.func f) first cap:=by exact tdR)(ha:first++args.toList.map (ev Sr)++cap=us:=by exact td0)(hp:us.map D.plain=bs:=by exact tdP)(hs:Ans f bs V H d:=by infer_instance)(hH:H:=by exact tdH)(htn:decide (t<n)=true:=by exact tdR):DOps prog ro n ops Q (⟨some t,(cv fop args ats),ty,pos,after,none⟩::rest) ⟨O,V,df⟩:=FW hl hf ha (.inr hp.symm) (hs.call hH) htn k1
theorem V7{fop:Operand}{args:Array Operand}{ats:Array TypeId}{f:Nat}{first cap us bs:List D}{j:Nat}{want:Bool}{k:Nat}{H:Prop}(k1:DOps prog ro n ops Q rest ⟨(t,d)::O,V,df⟩)(hk:(ops[j]?).bind (·.dst)=some k:=by exact tdR)(hb:O.lookup k=some (.bool want):=by exact tdR)(hl:A5 O (A9 (fop::args.toList))=some Sr:=by exact tdR)(hf:ev Sr fop=.func (.func f) first cap:=by exact tdR)(ha:first++args.toList.map (ev Sr)++cap=us:=by exact td0)(hp:us.map D.plain=bs:=by exact tdP)(hs:Ans f bs V H d:=by infer_instance)(hH:H:=by exact tdH)(htn:decide (t<n)=true:=by exact tdR):DOps prog ro n ops Q (⟨some t,(cv fop args ats),ty,pos,after,some (j,want)⟩::rest) ⟨O,V,df⟩:=ER hk hb hl hf ha (.inr hp.symm) (hs.call hH) htn k1
theorem moIP{fop:Operand}{args:Array Operand}{ats:Array TypeId}{f:Nat}{first cap us bs:List D}{H:Prop}{l:List (Bool×Oper)}(k1:MO prog ro n ops N S0 Q df l ((t,d)::O) V)(hl:A5 O (A9 (fop::args.toList))=some Sr:=by exact tdR)(hf:ev Sr fop=.func (.func f) first cap:=by exact tdR)(ha:first++args.toList.map (ev Sr)++cap=us:=by exact td0)(hp:us.map D.plain=bs:=by exact tdP)(hs:Ans f bs V H d:=by infer_instance)(hH:H:=by exact tdH)(hC:Sub S0 V:=by first|exact Sub.refl _|assumption)(htn:decide (t<n)=true:=by exact tdR):MO prog ro n ops N S0 Q df ((true,⟨some t,(cv fop args ats),ty,pos,after,none⟩)::l) O V:=Ip hl hf ha (.inr hp.symm) (hs.call hH) htn hC k1
theorem moIPG{fop:Operand}{args:Array Operand}{ats:Array TypeId}{f:Nat}{first cap us bs:List D}{j:Nat}{want:Bool}{k:Nat}{H:Prop}{l:List (Bool×Oper)}(k1:MO prog ro n ops N S0 Q df l ((t,d)::O) V)(hk:(ops[j]?).bind (·.dst)=some k:=by exact tdR)(hb:O.lookup k=some (.bool want):=by exact tdR)(hl:A5 O (A9 (fop::args.toList))=some Sr:=by exact tdR)(hf:ev Sr fop=.func (.func f) first cap:=by exact tdR)(ha:first++args.toList.map (ev Sr)++cap=us:=by exact td0)(hp:us.map D.plain=bs:=by exact tdP)(hs:Ans f bs V H d:=by infer_instance)(hH:H:=by exact tdH)(hC:Sub S0 V:=by first|exact Sub.refl _|assumption)(htn:decide (t<n)=true:=by exact tdR):MO prog ro n ops N S0 Q df ((true,⟨some t,(cv fop args ats),ty,pos,after,some (j,want)⟩)::l) O V:=Hd hk hb hl hf ha (.inr hp.symm) (hs.call hH) htn hC k1
theorem needIP{fop:Operand}{args:Array Operand}{ats:Array TypeId}{f:Nat}{first cap us bs:List D}{H p q:Prop}{b b':Bool}{u d:D}{dst:Option Tmp}{C:Prop}(kc:C)(hl:A5 O (A9 (fop::args.toList))=some Sr:=by exact tdR)(hf:ev Sr fop=.func (.func f) first cap:=by exact tdR)(ha:first++args.toList.map (ev Sr)++cap=us:=by exact td0)(hp:us.map D.plain=bs:=by exact tdP)(hs:Giv f bs V H b d u:=by infer_instance)(he:b=b':=by first|assumption|exact rfl)(hbi:BoolIs b' p q:=by infer_instance)(hz:T2 p q (DOps prog ro n ops Q rest ⟨putD dst d O,V,df⟩) (Q (.panic u) ⟨O,V,df⟩) C:=by infer_instance)(hH:H:=by exact tdH)(ho:At n ⟨dst,(cv fop args ats),ty,pos,after,none⟩=true:=by exact tdR):DOps prog ro n ops Q (⟨dst,(cv fop args ats),ty,pos,after,none⟩::rest) ⟨O,V,df⟩:=needP (hs.call hH) (fun h=>(hz.to kc).1 (hbi.yes (he.symm.trans h))) (fun h=>(hz.to kc).2 (hbi.no (he.symm.trans h))) (hl:=hl) (hf:=hf) (ha:=ha) (hp:=by rw[hp]) (ho:=ho)
theorem Vx{fop:Operand}{args:Array Operand}{ats:Array TypeId}{f:Nat}{first cap us bs:List D}{H p q:Prop}{b b':Bool}{u d:D}{dst:Option Tmp}{l:List (Bool×Oper)}{C:Prop}(kc:C)(hl:A5 O (A9 (fop::args.toList))=some Sr:=by exact tdR)(hf:ev Sr fop=.func (.func f) first cap:=by exact tdR)(ha:first++args.toList.map (ev Sr)++cap=us:=by exact td0)(hp:us.map D.plain=bs:=by exact tdP)(hs:Giv f bs V H b d u:=by infer_instance)(he:b=b':=by first|assumption|exact rfl)(hbi:BoolIs b' p q:=by infer_instance)(hz:T2 p q (MO prog ro n ops N S0 Q df l (putD dst d O) V) (∀U',Q (.panic u) ⟨U',V,df⟩) C:=by infer_instance)(hH:H:=by exact tdH)(hC:Sub S0 V:=by first|exact Sub.refl _|assumption)(ho:At n ⟨dst,(cv fop args ats),ty,pos,after,none⟩=true:=by exact tdR):MO prog ro n ops N S0 Q df ((true,⟨dst,(cv fop args ats),ty,pos,after,none⟩)::l) O V:=moNeedP (hs.call hH) (fun h=>(hz.to kc).1 (hbi.yes (he.symm.trans h))) (fun h=>(hz.to kc).2 (hbi.no (he.symm.trans h))) (hl:=hl) (hf:=hf) (ha:=ha) (hp:=by rw[hp]) (hC:=hC) (ho:=ho)
theorem cndX{c:Nat}{x y:Code}{b:Bool}{p q C:Prop}(kc:C)(hl:O.lookup c=some (.bool b):=by exact tdR)(hnl:NotLit b:=by((fail_if_success (with_reducible exact litT));(fail_if_success (with_reducible exact litF));exact NotLit.mk))(hbi:BoolIs b p q:=by infer_instance)(hz:T2 p q (DWp P ro n x Q ⟨(c,.bool true)::O,V,df⟩) (DWp P ro n y Q ⟨(c,.bool false)::O,V,df⟩) C:=by infer_instance):DWp P ro n (.cond (.tmp c) x y) Q ⟨O,V,df⟩:=cndB (fun h=>(hz.to kc).1 (hbi.yes h)) (fun h=>(hz.to kc).2 (hbi.no h)) hl
theorem splX{dst:Option Tmp}{op:Op}{j:Nat}{want:Bool}{k:Nat}{b:Bool}{p q C:Prop}(kc:C)(hk:(ops[j]?).bind (·.dst)=some k:=by exact tdR)(hb:O.lookup k=some (.bool b):=by exact tdR)(hnl:NotLit b:=by((fail_if_success (with_reducible exact litT));(fail_if_success (with_reducible exact litF));exact NotLit.mk))(hbi:BoolIs b p q:=by infer_instance)(hz:T2 p q (DOps P ro n ops Q (⟨dst,op,ty,pos,after,some (j,want)⟩::rest) ⟨(k,.bool true)::O,V,df⟩) (DOps P ro n ops Q (⟨dst,op,ty,pos,after,some (j,want)⟩::rest) ⟨(k,.bool false)::O,V,df⟩) C:=by infer_instance):DOps P ro n ops Q (⟨dst,op,ty,pos,after,some (j,want)⟩::rest) ⟨O,V,df⟩:=Qg hk hb (fun h=>(hz.to kc).1 (hbi.yes h)) (fun h=>(hz.to kc).2 (hbi.no h))
theorem moSX{e:Bool}{l:List (Bool×Oper)}{dst:Option Tmp}{op:Op}{j:Nat}{want:Bool}{k:Nat}{b:Bool}{p q C:Prop}(kc:C)(hk:(ops[j]?).bind (·.dst)=some k:=by exact tdR)(hb:O.lookup k=some (.bool b):=by exact tdR)(hnl:NotLit b:=by((fail_if_success (with_reducible exact litT));(fail_if_success (with_reducible exact litF));exact NotLit.mk))(hbi:BoolIs b p q:=by infer_instance)(hz:T2 p q (MO P ro n ops N S0 Q df ((e,⟨dst,op,ty,pos,after,some (j,want)⟩)::l) ((k,.bool true)::O) V) (MO P ro n ops N S0 Q df ((e,⟨dst,op,ty,pos,after,some (j,want)⟩)::l) ((k,.bool false)::O) V) C:=by infer_instance):MO P ro n ops N S0 Q df ((e,⟨dst,op,ty,pos,after,some (j,want)⟩)::l) O V:=Vu hk hb (fun h=>(hz.to kc).1 (hbi.yes h)) (fun h=>(hz.to kc).2 (hbi.no h))
end
abbrev OT:=List (Nat×Bool×List (Nat×Nat)×List Nat)
def runO:List (Nat×Nat)->List Nat
 |[]=>[]
 |(a,k)::r=>List.range' a k++runO r
def lookO(i:Nat):OT->Option (List Nat×List Nat)
 |[]=>none
 |(j,_,o,e)::r=>if i==j then some (runO o,e) else lookO i r
def WQ(i:Nat):OT->Option (List Nat×List Nat)
 |[]=>none
 |(j,b,o,e)::r=>if i==j&&b then some ((runO o).dropLast,e.filter fun x=>x+1 != (runO o).length) else WQ i r
structure Tab(t:OT):Prop
def delO(i:Nat)(t:OT):OT:=t.filter fun x=>x.1 != i
section
variable {P:Program}{ro:Option Nat}{n:Nat}{Q:DX->St->Prop}{df:List DDf}{O:List (Nat×D)}{V:Sig}
theorem mixX{lo:List Oper}{id:Nat}{tb:OT}(_:Tab tb){ord E:List Nat}{lp:List (Bool×Oper)}(h:MO prog ro n lo.toArray 334 V Q df lp O V)(hk:lookO id tb=some (ord,E):=by exact tdR)(hB:Fe lo.toArray E ord=true:=by kernel_rfl)(hl:GB lo E ord=some lp:=by exact tdR):DWp prog ro n (.region id lo.toArray true) Q ⟨O,V,df⟩:=mix ord E h hB hl
theorem mixY{lo:List Oper}{id:Nat}{tb:OT}(_:Tab tb){ord E:List Nat}{lp:List (Bool×Oper)}{ol:Oper}(h:MO prog ro n lo.toArray 334 V (Then (fun s=>DOps prog ro n lo.toArray Q [ol] s) Q) df lp O V)(hk:WQ id tb=some (ord,E):=by exact tdR)(hB:Ja lo.toArray E ord=true:=by kernel_rfl)(hol:nthO lo (lo.length-1)=some ol:=by exact tdR)(hl:GB lo E ord=some lp:=by exact tdR):DWp prog ro n (.region id lo.toArray true) Q ⟨O,V,df⟩:=mixL ord E h hB hol hl
end
theorem walkQ{F G' G:Prop}{tb:OT}{vars:List Nat} (hs:VarsAre vars->Hold F->Tab tb->Hold G'->G:=by
 intro hv fx tb hG
 repeat1' (first
  |(with_reducible first|refine Gv ?_|refine IL ?_|refine Lw ?_|refine HA ?_|refine HR ?_|refine LQ ?_|refine SP (by decide) ?_|refine OA ?_|refine Jn ?_|refine JH ?_|refine JI ?_|refine M9 ?_|refine Ma ?_|refine OJ ?_|refine AL ?_|refine Hs ?_|refine Sq ?_)
  |((with_reducible refine GZ (d := ?_) (Sr := ?_) Ad ?h1 ?h2 ?hl ?hd ?_);(case h1=>rfl);(case h2=>rfl);(case hl=>rfl);(case hd=>exact tdS fx))
  |((with_reducible refine HD (d := ?_) (k := ?_) (Sr := ?_) Ad ?h1 ?h2 ?hk ?hb ?hl ?hd ?_);(case h1=>rfl);(case h2=>rfl);(case hk=>rfl);(case hb=>rfl);(case hl=>rfl);(case hd=>exact tdS fx))
  |((with_reducible refine HE (d := ?_) (Sr := ?_) Ad ?h1 ?hl ?hd ?_);(case h1=>rfl);(case hl=>rfl);(case hd=>exact tdS fx))
  |((with_reducible refine Ou (d := ?_) (Sr := ?_) Ad ?h1 ?h2 ?hl ?hd ?_);(case h1=>rfl);(case h2=>rfl);(case hl=>rfl);(case hd=>exact tdS fx))
  |((with_reducible refine LK (d := ?_) (k := ?_) (Sr := ?_) Ad ?h1 ?h2 ?hk ?hb ?hl ?hd ?_);(case h1=>rfl);(case h2=>rfl);(case hk=>rfl);(case hb=>rfl);(case hl=>rfl);(case hd=>exact tdS fx))
  |((with_reducible refine LL (d := ?_) (Sr := ?_) Ad ?h1 ?hl ?hd ?_);(case h1=>rfl);(case hl=>rfl);(case hd=>exact tdS fx))
  |((with_reducible refine IM (k := ?_) Ak ?hk ?hb ?h1 ?h2 ?_);(case hk=>rfl);(case hb=>rfl);(case h1=>rfl);(case h2=>rfl))
  |((with_reducible refine HB (k := ?_) Ak ?hk ?hb ?h1 ?h2 ?_);(case hk=>rfl);(case hb=>rfl);(case h1=>rfl);(case h2=>rfl))
  |((with_reducible refine HC (k := ?_) Ak ?hk ?hb ?h1 ?_);(case hk=>rfl);(case hb=>rfl);(case h1=>rfl))
  |((with_reducible refine Gw (k := ?_) Ak ?hk ?hb ?h1 ?_);(case hk=>rfl);(case hb=>rfl);(case h1=>rfl))
  |((with_reducible refine LH (k := ?_) ?hk ?hb ?h1 ?h2 ?_);(case hk=>rfl);(case hb=>rfl);(case h1=>rfl);(case h2=>rfl))
  |((with_reducible refine LG (k := ?_) ?hk ?hb ?h1 ?h2 ?_);(case hk=>rfl);(case hb=>rfl);(case h1=>rfl);(case h2=>rfl))
  |((with_reducible refine LI (k := ?_) ?hk ?hb ?h1 ?_);(case hk=>rfl);(case hb=>rfl);(case h1=>rfl))
  |((with_reducible refine J8 (k := ?_) ?hk ?hb ?h1 ?_);(case hk=>rfl);(case hb=>rfl);(case h1=>rfl))
  |((with_reducible refine Ly (d := ?_) (S' := ?_) (Sr := ?_) Ad ?hl ?he ?h1 ?_);(case hl=>rfl);(case he=>exact tdE fx);(case h1=>rfl))
  |((with_reducible refine IQ (d := ?_) (S' := ?_) (Sr := ?_) Ad ?hl ?he ?_);(case hl=>rfl);(case he=>exact tdE fx))
  |((with_reducible refine Ow (d := ?_) (S' := ?_) (Sr := ?_) Ad ?hl ?he ?h1 ?hC ?_);(case hl=>rfl);(case he=>exact tdE fx);(case h1=>rfl);(case hC=>first|exact Sub.refl _|assumption|exact(Sub.refl _).set (by assumption)))
  |((with_reducible refine LM (d := ?_) (S' := ?_) (Sr := ?_) Ad ?hl ?he ?hC ?_);(case hl=>rfl);(case he=>exact tdE fx);(case hC=>first|exact Sub.refl _|assumption|exact(Sub.refl _).set (by assumption)))
  |((with_reducible refine IN (r := ?_) (Sr := ?_) (xs := ?_) (ys := ?_) (fs := ?_) Ad ?hE ?h1 ?hl ?hx ?hy ?hk ?hd ?_);(case hE=>with_reducible first|exact L5|exact HT);(case h1=>rfl);(case hl=>rfl);(case hx=>rfl);(case hy=>rfl);(case hk=>simp<;>rfl);(case hd=>exact tdE fx))
  |((with_reducible refine Ov (r := ?_) (Sr := ?_) (xs := ?_) (ys := ?_) (fs := ?_) Ad ?hE ?h1 ?hl ?hx ?hy ?hk ?hd ?_);(case hE=>with_reducible first|exact L5|exact HT);(case h1=>rfl);(case hl=>rfl);(case hx=>rfl);(case hy=>rfl);(case hk=>simp<;>rfl);(case hd=>exact tdE fx))
  |((with_reducible refine HG (Sr := ?_) ?hl ?hc ?_);(case hl=>rfl);(case hc=>exact tdC fx))
  |((with_reducible refine HH (Sr := ?_) ?hl ?hc ?_);(case hl=>rfl);(case hc=>exact tdC fx))
  |((with_reducible refine IP (d := ?_) (cs := ?_) (Sr := ?_) hv Ad ?h1 ?h2 ?h3 ?h4 ?h5 ?hl ?he ?h6 ?h7 ?h8 ?h9 ?_);(case h1=>rfl);(case h2=>rfl);(case h3=>rfl);(case h4=>rfl);(case h5=>simp);(case hl=>rfl);(case he=>exact tdF);(case h6=>rfl);(case h7=>exact tdF);(case h8=>simp);(case h9=>simp))
  |((with_reducible refine HF (d := ?_) (d2 := ?_) (cs := ?_) (Sr := ?_) (Sr2 := ?_) hv Ad ?h1 ?h2 ?h3 ?h4 ?h5 ?g1 ?g2 ?g3 ?g4 ?gl ?ge ?hl ?he ?h6 ?h7 ?h8 ?h9 ?_);(case h1=>rfl);(case h2=>rfl);(case h3=>rfl);(case h4=>rfl);(case h5=>rfl);(case g1=>rfl);(case g2=>rfl);(case g3=>rfl);(case g4=>simp);(case gl=>rfl);(case ge=>exact tdF);(case hl=>rfl);(case he=>exact tdF);(case h6=>rfl);(case h7=>exact tdF);(case h8=>simp);(case h9=>simp))
  |with_reducible refine WX ?_
  |with_reducible refine V6 ?_
  |with_reducible refine moIR ?_
  |with_reducible refine moIRG ?_
  |with_reducible refine WY ?_
  |with_reducible refine V7 ?_
  |with_reducible refine moIP ?_
  |with_reducible refine moIPG ?_
  |with_reducible refine nilE ?_
  |with_reducible refine nilN ?_
  |with_reducible refine boolE ?_
  |with_reducible refine boolN ?_
  |with_reducible refine NO ?_
  |with_reducible refine NP ?_
  |with_reducible refine mixY tb ?_
  |with_reducible refine mixX tb ?_
  |with_reducible refine needIR ?_
  |with_reducible refine needIP ?_
  |with_reducible refine Vw ?_
  |with_reducible refine Vx ?_
  |with_reducible refine cndX ?_
  |with_reducible refine splX ?_
  |with_reducible refine moSX ?_)
 exact hG.get):VarsAre vars->Hold F->Tab tb->Hold G'->G:=hs
theorem gf{F G' G:Prop}(fx:F)(h:G')(tb:OT:=[])(vars:List Nat:=[])(hs:VarsAre vars->Hold F->Tab tb->Hold G'->G:=by exact walkQ):G:=hs ⟨⟩ ⟨fx⟩ ⟨⟩ ⟨h⟩
theorem gz{G' G:Prop}(h:G')(tb:OT:=[])(vars:List Nat:=[])(hs:VarsAre vars->Hold True->Tab tb->Hold G'->G:=by exact walkQ):G:=hs ⟨⟩ ⟨trivial⟩ ⟨⟩ ⟨h⟩
theorem gi{a b:Prop}(x:a)(y:b):a/\b:=⟨x,y⟩
theorem en {f m : Nat} {fn : Func} {c : Code} {args : List D} {V : Sig} {R : DE -> Sig -> Prop} (hf : prog.funcs[f]? = some fn) (hm : fn.ntmps = m) (h : DWp prog none m c (EM prog m fn R) { O := CL 0 args, V }) (hb : fn.body = some c := by exact rfl) (hnm : (fn.name == "runtime.NumGoroutine") = false := by decide) (hn : args.length <= m := by simp) : DCall prog f args V R := Mc hf hb hnm hm hn h
theorem gy{A B:Prop}(a:A)(b:B):Two A B:=⟨a,b⟩
theorem tdV{F p:Prop} (h:Hold F->p:=by
 intro fx
 have hF:=fx.get
 clear fx
 first|rfl|(simp[hF];done)|(simp_all;done)|(rw[A7,Bool.eq_iff_iff];simp_all<;>omega)):Hold F->p:=h
section
variable {P:Program}{n:Nat}{O:List (Nat×D)}{V:Sig}
theorem fe1{F:Prop}{fn:Func}{v:DE}{S':Sig}{t:Nat}{d d':D}(fx:F)(hZ:Sub S' V:=by exact tdU)(hr:fn.results=#[.tmp t]:=by exact tdR)(hl:O.lookup t=some d:=by exact tdR)(hw:WkD d d':=by exact tdW)(hq:Hold F->DE.ret d'=v:=by first|exact tdV|fail):EM P n fn (fun x τ=>x=v/\τ=S') .ret ⟨O,V,[]⟩:=fin1 ⟨hq ⟨fx⟩,rfl⟩ hZ hr hl hw
theorem fe0{F:Prop}{fn:Func}{v:DE}{S':Sig}(fx:F)(hZ:Sub S' V:=by exact tdU)(hr:fn.results=#[]:=by exact tdR)(hq:Hold F->DE.ret (.tup [])=v:=by first|exact tdV|fail):EM P n fn (fun x τ=>x=v/\τ=S') .ret ⟨O,V,[]⟩:=fin0 ⟨hq ⟨fx⟩,rfl⟩ hZ hr
theorem fe2{F:Prop}{fn:Func}{v:DE}{S':Sig}{t u:Nat}{d d' e e':D}(fx:F)(hZ:Sub S' V:=by exact tdU)(hr:fn.results=#[.tmp t,.tmp u]:=by exact tdR)(hl:O.lookup t=some d:=by exact tdR)(hl2:O.lookup u=some e:=by exact tdR)(htu:decide (u=t)=false:=by exact tdR)(hw:WkD d d':=by exact tdW)(hw2:WkD e e':=by exact tdW)(hq:Hold F->DE.ret (.tup [d',e'])=v:=by first|exact tdV|fail):EM P n fn (fun x τ=>x=v/\τ=S') .ret ⟨O,V,[]⟩:=fin2 ⟨hq ⟨fx⟩,rfl⟩ hZ hr hl hl2 htu hw hw2
end
theorem td1{p:Prop}(h:p:=by first|omega|(simp;omega)):p:=h
theorem td2{p:Prop}(h:p:=by first|omega|(simp_all;done)|(simp_all;omega)):p:=h
theorem td3{p:Prop}(h:p:=by first|omega|simp):p:=h
theorem goX1{F G' G:Prop}(fx:F)(h:G') (hs:VarsAre []->Hold F->Hold G'->G:=by
 intro hv fx hG
 (first
  |(with_reducible first|refine Gv ?_|refine IL ?_|refine Lw ?_|refine HA ?_|refine HR ?_|refine LQ ?_|refine SP (by decide) ?_|refine OA ?_|refine Jn ?_|refine JH ?_|refine JI ?_|refine M9 ?_|refine Ma ?_|refine OJ ?_|refine AL ?_|refine Hs ?_|refine Sq ?_)
  |((with_reducible refine GZ (d := ?_) (Sr := ?_) Ad ?h1 ?h2 ?hl ?hd ?_);(case h1=>rfl);(case h2=>rfl);(case hl=>rfl);(case hd=>exact tdS fx))
  |((with_reducible refine HD (d := ?_) (k := ?_) (Sr := ?_) Ad ?h1 ?h2 ?hk ?hb ?hl ?hd ?_);(case h1=>rfl);(case h2=>rfl);(case hk=>rfl);(case hb=>rfl);(case hl=>rfl);(case hd=>exact tdS fx))
  |((with_reducible refine HE (d := ?_) (Sr := ?_) Ad ?h1 ?hl ?hd ?_);(case h1=>rfl);(case hl=>rfl);(case hd=>exact tdS fx))
  |((with_reducible refine Ou (d := ?_) (Sr := ?_) Ad ?h1 ?h2 ?hl ?hd ?_);(case h1=>rfl);(case h2=>rfl);(case hl=>rfl);(case hd=>exact tdS fx))
  |((with_reducible refine LK (d := ?_) (k := ?_) (Sr := ?_) Ad ?h1 ?h2 ?hk ?hb ?hl ?hd ?_);(case h1=>rfl);(case h2=>rfl);(case hk=>rfl);(case hb=>rfl);(case hl=>rfl);(case hd=>exact tdS fx))
  |((with_reducible refine LL (d := ?_) (Sr := ?_) Ad ?h1 ?hl ?hd ?_);(case h1=>rfl);(case hl=>rfl);(case hd=>exact tdS fx))
  |((with_reducible refine IM (k := ?_) Ak ?hk ?hb ?h1 ?h2 ?_);(case hk=>rfl);(case hb=>rfl);(case h1=>rfl);(case h2=>rfl))
  |((with_reducible refine HB (k := ?_) Ak ?hk ?hb ?h1 ?h2 ?_);(case hk=>rfl);(case hb=>rfl);(case h1=>rfl);(case h2=>rfl))
  |((with_reducible refine HC (k := ?_) Ak ?hk ?hb ?h1 ?_);(case hk=>rfl);(case hb=>rfl);(case h1=>rfl))
  |((with_reducible refine Gw (k := ?_) Ak ?hk ?hb ?h1 ?_);(case hk=>rfl);(case hb=>rfl);(case h1=>rfl))
  |((with_reducible refine LH (k := ?_) ?hk ?hb ?h1 ?h2 ?_);(case hk=>rfl);(case hb=>rfl);(case h1=>rfl);(case h2=>rfl))
  |((with_reducible refine LG (k := ?_) ?hk ?hb ?h1 ?h2 ?_);(case hk=>rfl);(case hb=>rfl);(case h1=>rfl);(case h2=>rfl))
  |((with_reducible refine LI (k := ?_) ?hk ?hb ?h1 ?_);(case hk=>rfl);(case hb=>rfl);(case h1=>rfl))
  |((with_reducible refine J8 (k := ?_) ?hk ?hb ?h1 ?_);(case hk=>rfl);(case hb=>rfl);(case h1=>rfl))
  |((with_reducible refine Ly (d := ?_) (S' := ?_) (Sr := ?_) Ad ?hl ?he ?h1 ?_);(case hl=>rfl);(case he=>exact tdE fx);(case h1=>rfl))
  |((with_reducible refine IQ (d := ?_) (S' := ?_) (Sr := ?_) Ad ?hl ?he ?_);(case hl=>rfl);(case he=>exact tdE fx))
  |((with_reducible refine Ow (d := ?_) (S' := ?_) (Sr := ?_) Ad ?hl ?he ?h1 ?hC ?_);(case hl=>rfl);(case he=>exact tdE fx);(case h1=>rfl);(case hC=>first|exact Sub.refl _|assumption|exact(Sub.refl _).set (by assumption)))
  |((with_reducible refine LM (d := ?_) (S' := ?_) (Sr := ?_) Ad ?hl ?he ?hC ?_);(case hl=>rfl);(case he=>exact tdE fx);(case hC=>first|exact Sub.refl _|assumption|exact(Sub.refl _).set (by assumption)))
  |((with_reducible refine IN (r := ?_) (Sr := ?_) (xs := ?_) (ys := ?_) (fs := ?_) Ad ?hE ?h1 ?hl ?hx ?hy ?hk ?hd ?_);(case hE=>with_reducible first|exact L5|exact HT);(case h1=>rfl);(case hl=>rfl);(case hx=>rfl);(case hy=>rfl);(case hk=>simp<;>rfl);(case hd=>exact tdE fx))
  |((with_reducible refine Ov (r := ?_) (Sr := ?_) (xs := ?_) (ys := ?_) (fs := ?_) Ad ?hE ?h1 ?hl ?hx ?hy ?hk ?hd ?_);(case hE=>with_reducible first|exact L5|exact HT);(case h1=>rfl);(case hl=>rfl);(case hx=>rfl);(case hy=>rfl);(case hk=>simp<;>rfl);(case hd=>exact tdE fx))
  |((with_reducible refine HG (Sr := ?_) ?hl ?hc ?_);(case hl=>rfl);(case hc=>exact tdC fx))
  |((with_reducible refine HH (Sr := ?_) ?hl ?hc ?_);(case hl=>rfl);(case hc=>exact tdC fx))
  |((with_reducible refine IP (d := ?_) (cs := ?_) (Sr := ?_) hv Ad ?h1 ?h2 ?h3 ?h4 ?h5 ?hl ?he ?h6 ?h7 ?h8 ?h9 ?_);(case h1=>rfl);(case h2=>rfl);(case h3=>rfl);(case h4=>rfl);(case h5=>simp);(case hl=>rfl);(case he=>exact tdF);(case h6=>rfl);(case h7=>exact tdF);(case h8=>simp);(case h9=>simp))
  |((with_reducible refine HF (d := ?_) (d2 := ?_) (cs := ?_) (Sr := ?_) (Sr2 := ?_) hv Ad ?h1 ?h2 ?h3 ?h4 ?h5 ?g1 ?g2 ?g3 ?g4 ?gl ?ge ?hl ?he ?h6 ?h7 ?h8 ?h9 ?_);(case h1=>rfl);(case h2=>rfl);(case h3=>rfl);(case h4=>rfl);(case h5=>rfl);(case g1=>rfl);(case g2=>rfl);(case g3=>rfl);(case g4=>simp);(case gl=>rfl);(case ge=>exact tdF);(case hl=>rfl);(case he=>exact tdF);(case h6=>rfl);(case h7=>exact tdF);(case h8=>simp);(case h9=>simp))
  |with_reducible refine WX ?_
  |with_reducible refine V6 ?_
  |with_reducible refine moIR ?_
  |with_reducible refine moIRG ?_
  |with_reducible refine WY ?_
  |with_reducible refine V7 ?_
  |with_reducible refine moIP ?_
  |with_reducible refine moIPG ?_
  |with_reducible refine nilE ?_
  |with_reducible refine nilN ?_
  |with_reducible refine boolE ?_
  |with_reducible refine boolN ?_
  |with_reducible refine NO ?_
  |with_reducible refine NP ?_)
 exact hG.get):G:=hs ⟨⟩ ⟨fx⟩ ⟨h⟩
end Go.DL
