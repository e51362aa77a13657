/- A part of the proof. -/
import Derived.Test.YtlfimpogphmbdaaGreatQ11
set_option linter.all false
namespace Go.DL
open Go.Proofs.Tryz
open Go Go.Proofs
def hitD(tab:Nat->Ty)(e:Nat)(c:Bool):Option (Option (Nat×D))->Option D
 |some (some (_,d))=>some (if c then .tup [d,.bool true] else d)
 |some none=>match H5 (tab e)with
  |some z=>some (if c then .tup [z,.bool false] else z)
  |none=>none
 |none=>none
@[simp high] theorem lookupD_h {tab:Nat->Ty} {V:Sig} {c:Bool} {T e:Nat} {x d:D}:GX tab V c (.map T e) x d=if A6 (tab e).k || !Bk (tab T).k d then none else match CE V x with
  |some l=>hitD tab e c (Di (tab T).k d l 0)
  |none=>none:=by
 rw[TM]
 by_cases hc:(A6 (tab e).k||!Bk (tab T).k d)=true
 ·rw[aS hc,aS hc]
 ·rw[aN hc,aN hc]
  cases CE V x with
  |none=>rfl
  | some l =>
   cases h:Di (tab T).k d l 0 with
   |none=>simp only[h];rfl
   |some r=>cases r with
    |none=>simp only[h];rfl
    |some p=>simp only[h];rfl
@[simp] theorem hitD_some(tab:Nat->Ty)(e i:Nat)(c:Bool)(d:D):hitD tab e c (some (some (i,d)))=some (if c then .tup [d,.bool true] else d):=rfl
def ins{α:Type}[DecidableEq α](k:α)(s:List α):List α:=if k∈s then s else s++[k]
theorem I6{α:Type}[DecidableEq α]{k x:α}{s:List α}:x∈ins k s ↔ x=k\/x∈s:=by
 unfold ins
 by_cases h:k∈s
 ·rw[aS h];exact⟨.inr,fun h'=>h'.elim (fun e=>e ▸ h) id⟩
 ·rw[aN h];simp[or_comm]
def getM{α β:Type}[DecidableEq α](z:β)(k:α):List (α×β)->β
 |[]=>z
 |(k',v)::r=>if k=k' then v else getM z k r
def hasM{α β:Type}[DecidableEq α](k:α):List (α×β)->Bool
 |[]=>false
 |(k',_)::r=>decide (k=k')||hasM k r
def putM{α β:Type}[DecidableEq α](k:α)(v:β):List (α×β)->List (α×β)
 |[]=>[(k,v)]
 |(k',v')::r=>if k=k' then(k,v)::r else(k',v')::putM k v r
theorem Cb{α β:Type}[DecidableEq α](z:β)(k x:α)(v:β): ∀m:List (α×β),getM z x (putM k v m)=if x=k then v else getM z x m
 |[]=>by simp[putM,getM]
 | (k',v')::r=>by
  by_cases h:k=k'
  ·subst h;rw[putM,aS rfl,getM];by_cases hx:x=k<;>simp[hx,getM]
  ·rw[putM,aN h,getM,Cb z k x v r]
   by_cases hx:x=k'
   ·rw[aS hx,aN (fun e=>h (e.symm.trans hx)),getM,aS hx]
   ·rw[aN hx,getM,aN hx]
theorem Qn{α β:Type}[DecidableEq α](k x:α)(v:β): ∀m:List (α×β),hasM x (putM k v m)=(decide (x=k)||hasM x m)
 |[]=>by simp[putM,hasM]
 | (k',v')::r=>by
  by_cases h:k=k'
  ·subst h;rw[putM,aS rfl,hasM,hasM];cases decide (x=k)<;>simp
  ·rw[putM,aN h,hasM,Qn k x v r,hasM]
   cases decide (x=k')<;>cases decide (x=k)<;>simp
section
def eM{α β:Type}(kf:α->D)(f:β->D)(m:List (α×β)):List (D×D):=m.map fun p=>(kf p.1,f p.2)
def eS{α:Type}(kf:α->D)(s:List α):List (D×D):=s.map fun k=>(kf k,.bool true)
structure KeyOK{α:Type}[DecidableEq α](kt:TyK)(kf:α->D):Prop where
 key:∀a b:α,keyB kt (kf a) (kf b)=some (decide (a=b))
theorem keyI:KeyOK (.int .i64) dI:=⟨fun a b=>by simp[keyB,EA]⟩
theorem keyS:KeyOK .str D.str:=⟨fun a b=>by simp[keyB,EA]⟩
variable {α β:Type}[DecidableEq α]{kt:TyK}{kf:α->D}(hk:KeyOK kt kf)
include hk
theorem Ps(k:α): ∀(s:List α) (i:Nat),(k∈s->∃j,Di kt (kf k) (eS kf s) i=some (some (i+j,.bool true))/\s[j]? = some k)/\(k∉s->Di kt (kf k) (eS kf s) i=some none)
 |[],i=>by simp[eS,Di]
 | x::s,i=>by
  obtain⟨h1,h2⟩:=Ps k s (i+1)
  simp only[eS]at h1 h2
  simp only[eS,ba,Di,hk.key]
  by_cases h:k=x
  ·subst h
   simp only[fp]
   exact⟨fun _=>⟨0,rfl,rfl⟩,fun h=>absurd (by simp) h⟩
  ·have e:decide (k=x)=false:=by simp[h]
   simp only[e]
   refine⟨fun hm=>?_,fun hm=>h2 fun d9=>hm (by simp[d9])⟩
   obtain⟨j,a,b⟩:=h1 ((aY.1 hm).resolve_left h)
   exact⟨j+1,by rw[a];congr 3;omega,by simpa using b⟩
theorem Y8{tab:Nat->Ty}{e:Nat}(hz:H5 (tab e)=some (.bool false))(k:α)(s:List α):hitD tab e false (Di kt (kf k) (eS kf s) 0)=some (.bool (decide (k∈s))):=by
 obtain⟨h1,h2⟩:=Ps hk k s 0
 by_cases h:k∈s
 ·obtain⟨j,a,_⟩:=h1 h;rw[a];simp[h]
 ·rw[h2 h];simp only[hitD,hz,bj,bd,h,decide_false]
theorem XY(k:α)(s:List α):Cs kt (kf k) (.bool true) (eS kf s)=some (eS kf (ins k s)):=by
 obtain⟨h1,h2⟩:=Ps hk k s 0
 unfold Cs ins
 by_cases h:k∈s
 ·obtain⟨j,a,b⟩:=h1 h
  rw[a,aS h]
  simp only[ck,bq]
  apply dN
  intro i
  rw[dB]
  by_cases hi:j=i
  ·subst hi
   have fJ:j<s.length:=(bn.1 b).1
   have hb:s[j]=k:=by rw[aM fJ]at b;exact Option.some.inj b
   simp[eS,fJ,hb]
  ·rw[aN hi]
 ·rw[h2 h,aN h];simp[eS]
theorem JY(f:β->D)(k:α): ∀(m:List (α×β)) (i:Nat),(hasM k m=true->∃j v,Di kt (kf k) (eM kf f m) i=some (some (i+j,f v))/\(∀z,getM z k m=v) /\ ∀w,(eM kf f m).set j (kf k,f w)=eM kf f (putM k w m)) /\
  (hasM k m=false->Di kt (kf k) (eM kf f m) i=some none/\(∀z,getM z k m=z) /\ ∀w,eM kf f m++[(kf k,f w)]=eM kf f (putM k w m))
 |[],i=>by simp[eM,Di,hasM,getM,putM]
 | (x,y)::m,i=>by
  obtain⟨h1,h2⟩:=JY f k m (i+1)
  simp only[eM]at h1 h2
  simp only[eM,ba,Di,hk.key,hasM]
  by_cases h:k=x
  ·subst h
   simp only[fp,Bool.true_or]
   refine⟨fun _=>⟨0,y,rfl,fun z=>by simp[getM],fun w=>by simp[putM]⟩,fun h=>by cases h⟩
  ·have e:decide (k=x)=false:=by simp[h]
   simp only[e,dc]
   refine⟨fun hm=>?_,fun hm=>?_⟩
   ·obtain⟨j,v,a,b,c⟩:=h1 hm
    refine⟨j+1,v,by rw[a];congr 3;omega,fun z=>by rw[getM,aN h];exact b z,fun w=>?_⟩
    rw[putM,aN h,ba,el,c w]
   ·obtain⟨a,b,c⟩:=h2 hm
    refine⟨a,fun z=>by rw[getM,aN h];exact b z,fun w=>?_⟩
    rw[putM,aN h,ba,bl,c w]
theorem hit_eM{tab:Nat->Ty}{e:Nat}{z:β}{zd:D}(f:β->D)(hz:H5 (tab e)=some zd)(k:α)(m:List (α×β)):hitD tab e false (Di kt (kf k) (eM kf f m) 0)=some (if hasM k m then f (getM z k m) else zd):=by
 obtain⟨h1,h2⟩:=JY hk f k m 0
 cases h:hasM k m with
 |true=>obtain⟨j,v,a,b,_⟩:=h1 h;rw[a,b z];simp
 |false=>obtain⟨a,b,_⟩:=h2 h;rw[a];simp only[hitD,hz,bj,bd]
theorem hit_eM'{tab:Nat->Ty}{e:Nat}{z:β}(f:β->D)(hz:H5 (tab e)=some (f z))(k:α)(m:List (α×β)):hitD tab e false (Di kt (kf k) (eM kf f m) 0)=some (f (getM z k m)):=by
 obtain⟨h1,h2⟩:=JY hk f k m 0
 cases h:hasM k m with
 |true=>obtain⟨j,v,a,b,_⟩:=h1 h;rw[a,b z];simp
 |false=>obtain⟨a,b,_⟩:=h2 h;rw[a,b z];simp only[hitD,hz,bj,bd,bp]
theorem Mu{tab:Nat->Ty}{e:Nat}{z:β}(f:β->D)(hz:H5 (tab e)=some (f z))(k:α)(m:List (α×β)):hitD tab e true (Di kt (kf k) (eM kf f m) 0)=some (.tup [f (getM z k m),.bool (hasM k m)]):=by
 obtain⟨h1,h2⟩:=JY hk f k m 0
 cases h:hasM k m with
 |true=>obtain⟨j,v,a,b,_⟩:=h1 h;rw[a,b z];simp
 |false=>obtain⟨a,b,_⟩:=h2 h;rw[a,b z];simp only[hitD,hz,bj,bd,bp]
theorem Q4(f:β->D)(k:α)(v:β)(m:List (α×β)):Cs kt (kf k) (f v) (eM kf f m)=some (eM kf f (putM k v m)):=by
 obtain⟨h1,h2⟩:=JY hk f k m 0
 unfold Cs
 cases h:hasM k m with
 |true=>obtain⟨j,w,a,_,c⟩:=h1 h;rw[a];simp only[ck];rw[c v]
 |false=>obtain⟨a,_,c⟩:=h2 h;rw[a];simp only;rw[c v]
end
def eSI(s:fF):List (D×D):=eS dI s
def eSS(s:fD):List (D×D):=eS D.str s
def eSN(m:List (Str×Int)):List (D×D):=eM D.str dI m
def eIN(m:List (Int×Int)):List (D×D):=eM dI dI m
@[simp] theorem hitI4(k:Int)(s:fF):hitD tab 4 false (Di (.int .i64) (.int .i64 k) (eSI s) 0)=some (.bool (decide (k∈s))):=Y8 keyI rfl k s
@[simp] theorem hitS4(k:Str)(s:fD):hitD tab 4 false (Di .str (.str k) (eSS s) 0)=some (.bool (decide (k∈s))):=(Y8 (tab:=tab) (e:=4) keyS rfl k s).trans (bF (fun b=>some (D.bool b)) (cJ.2 Iff.rfl))
@[simp] theorem putI4(k:Int)(s:fF):Cs (.int .i64) (.int .i64 k) (.bool true) (eSI s)=some (eSI (ins k s)):=XY keyI k s
@[simp] theorem putS4(k:Str)(s:fD):Cs .str (.str k) (.bool true) (eSS s)=some (eSS (ins k s)):=XY keyS k s
@[simp] theorem hitSN(k:Str)(m:List (Str×Int)):hitD tab 3 false (Di .str (.str k) (eSN m) 0)=some (.int .i64 (getM 0 k m)):=hit_eM' keyS dI rfl k m
@[simp] theorem hitSNok(k:Str)(m:List (Str×Int)):hitD tab 3 true (Di .str (.str k) (eSN m) 0)=some (.tup [.int .i64 (getM 0 k m),.bool (hasM k m)]):=Mu keyS dI rfl k m
@[simp] theorem putSN(k:Str)(v:Int)(m:List (Str×Int)):Cs .str (.str k) (.int .i64 v) (eSN m)=some (eSN (putM k v m)):=Q4 keyS dI k v m
@[simp] theorem hitINok(k:Int)(m:List (Int×Int)):hitD tab 3 true (Di (.int .i64) (.int .i64 k) (eIN m) 0)=some (.tup [.int .i64 (getM 0 k m),.bool (hasM k m)]):=Mu keyI dI rfl k m
@[simp] theorem putIN(k v:Int)(m:List (Int×Int)):Cs (.int .i64) (.int .i64 k) (.int .i64 v) (eIN m)=some (eIN (putM k v m)):=Q4 keyI dI k v m
def eIO(m:List (Int×fF)):List (D×D):=eM dI (fun l=>sl (cI l)) m
@[simp] theorem putIO(k:Int)(v:fF)(m:List (Int×fF)):Cs (.int .i64) (.int .i64 k) (sl (cI v)) (eIO m)=some (eIO (putM k v m)):=Q4 keyI (fun l=>sl (cI l)) k v m
theorem hitIO(k:Int)(m:List (Int×fF)):hitD tab 23 false (Di (.int .i64) (.int .i64 k) (eIO m) 0)=some (if hasM k m then sl (cI (getM [] k m)) else .ak):=hit_eM keyI _ rfl k m
section
variable {P:Program}{ro:Option Nat}{n:Nat}{Q:DX->St->Prop}{df:List DDf}{γ:List (Nat×D)}{V:Sig}
theorem Po{Sk:Fr}{α β δ ε:Type}{c:Code}(keep:fG)(I:α->β->δ->ε->Prop)(ov:α->β->δ->ε->Fr)(sg:α->β->δ->ε->Sig)(μ:α->β->δ->ε->Nat)(x0:α)(y0:β)(z0:δ)(u0:ε)(h0:I x0 y0 z0 u0)
  (round:∀x y z u,I x y z u->DWp P ro n c (Then (fun s'=> ∃x' y' z' u',I x' y' z' u'/\μ x' y' z' u'<μ x y z u/\Wk P n s' ⟨ov x' y' z' u'++Sk,sg x' y' z' u',df⟩) Q) ⟨ov x y z u++Sk,sg x y z u,df⟩) (hk:Ea γ keep=some Sk:=by exact tdR) (h1:TellsR γ (ov x0 y0 z0 u0++Sk):=by(first|refine Hf ?_ ?_|skip)<;>(repeat' first|exact He|refine Ga tdR ?_ ?_|(first|exact A9 _|exact Ao _ _|exact Am _ (.inl rfl)|exact Es _|(refine J5 _ ?_;first|omega|(simp;done)|(simp;omega))|(refine AM ?_;(simp;done))|(refine AM ?_;(simp[cI,cS,cII,Ds,CB,CF];done))|(refine C3 _ ?_;(simp[cI,cS,cII];done))|(refine AM ?_;(simp_all;done))|assumption))) (h2:Sub (sg x0 y0 z0 u0) V:=by first|exact Sub.refl _|(refine AQ ?_;simp;done)|assumption|exact(Sub.refl _).set (by assumption)):DWp P ro n (.loop c) Q ⟨γ,V,df⟩:=by
 refine G3 (α:=α×β×δ×ε) keep (fun x=>I x.1 x.2.1 x.2.2.1 x.2.2.2) (fun x=>ov x.1 x.2.1 x.2.2.1 x.2.2.2) (fun x=>sg x.1 x.2.1 x.2.2.1 x.2.2.2) (fun x=>μ x.1 x.2.1 x.2.2.1 x.2.2.2) (x0,y0,z0,u0) hk h0 h1 h2 fun x hx=>Fk (round x.1 x.2.1 x.2.2.1 x.2.2.2 hx) ?_
 intro e s h
 cases e with
 |normal=>obtain⟨x',y',z',u',h3,h4,h5⟩:=h;exact⟨(x',y',z',u'),h3,h4,h5⟩
 |_=>exact h
theorem Ro{Sk:Fr}{α β δ ε ζ:Type}{c:Code}(keep:fG)(I:α->β->δ->ε->ζ->Prop)(ov:α->β->δ->ε->ζ->Fr)(sg:α->β->δ->ε->ζ->Sig)(μ:α->β->δ->ε->ζ->Nat)(x0:α)(y0:β)(z0:δ)(u0:ε)(v0:ζ)(h0:I x0 y0 z0 u0 v0)
  (round:∀x y z u v,I x y z u v->DWp P ro n c (Then (fun s'=> ∃x' y' z' u' v',I x' y' z' u' v'/\μ x' y' z' u' v'<μ x y z u v/\Wk P n s' ⟨ov x' y' z' u' v'++Sk,sg x' y' z' u' v',df⟩) Q) ⟨ov x y z u v++Sk,sg x y z u v,df⟩) (hk:Ea γ keep=some Sk:=by exact tdR) (h1:TellsR γ (ov x0 y0 z0 u0 v0++Sk):=by(first|refine Hf ?_ ?_|skip)<;>(repeat' first|exact He|refine Ga tdR ?_ ?_|(first|exact A9 _|exact Ao _ _|exact Am _ (.inl rfl)|exact Es _|(refine J5 _ ?_;first|omega|(simp;done)|(simp;omega))|(refine AM ?_;(simp;done))|(refine AM ?_;(simp[cI,cS,cII,Ds,CB,CF];done))|(refine C3 _ ?_;(simp[cI,cS,cII];done))|(refine AM ?_;(simp_all;done))|assumption))) (h2:Sub (sg x0 y0 z0 u0 v0) V:=by first|exact Sub.refl _|(refine AQ ?_;simp;done)|assumption|exact(Sub.refl _).set (by assumption)):DWp P ro n (.loop c) Q ⟨γ,V,df⟩:=by
 refine G3 (α:=α×β×δ×ε×ζ) keep (fun x=>I x.1 x.2.1 x.2.2.1 x.2.2.2.1 x.2.2.2.2) (fun x=>ov x.1 x.2.1 x.2.2.1 x.2.2.2.1 x.2.2.2.2) (fun x=>sg x.1 x.2.1 x.2.2.1 x.2.2.2.1 x.2.2.2.2) (fun x=>μ x.1 x.2.1 x.2.2.1 x.2.2.2.1 x.2.2.2.2) (x0,y0,z0,u0,v0) hk h0 h1 h2 fun x hx=>Fk (round x.1 x.2.1 x.2.2.1 x.2.2.2.1 x.2.2.2.2 hx) ?_
 intro e s h
 cases e with
 |normal=>obtain⟨x',y',z',u',v',h3,h4,h5⟩:=h;exact⟨(x',y',z',u',v'),h3,h4,h5⟩
 |_=>exact h
variable {ops:Array Oper}{rest:List Oper}{Sr:List (Nat×D)}{t:Nat}{ty:TypeId}{pos:String}{after:Array Edge}
theorem newSI{T:Nat}(h:∀i,V i=none->av prog ro n ops Q rest ⟨(t,.map i)::γ,V.set i (.map (eSI [])),df⟩)(d6:decide (t<n)=true:=by exact tdR):av prog ro n ops Q (⟨some t,.makeMap T none,ty,pos,after,none⟩::rest) ⟨γ,V,df⟩:=newM h d6
theorem Mj{T:Nat}(h:∀i,V i=none->av prog ro n ops Q rest ⟨(t,.map i)::γ,V.set i (.map (eSS [])),df⟩)(d6:decide (t<n)=true:=by exact tdR):av prog ro n ops Q (⟨some t,.makeMap T none,ty,pos,after,none⟩::rest) ⟨γ,V,df⟩:=newM h d6
theorem Tn{T:Nat}(h:∀i,V i=none->av prog ro n ops Q rest ⟨(t,.map i)::γ,V.set i (.map (eSN [])),df⟩)(d6:decide (t<n)=true:=by exact tdR):av prog ro n ops Q (⟨some t,.makeMap T none,ty,pos,after,none⟩::rest) ⟨γ,V,df⟩:=newM h d6
theorem newIN{T:Nat}(h:∀i,V i=none->av prog ro n ops Q rest ⟨(t,.map i)::γ,V.set i (.map (eIN [])),df⟩)(d6:decide (t<n)=true:=by exact tdR):av prog ro n ops Q (⟨some t,.makeMap T none,ty,pos,after,none⟩::rest) ⟨γ,V,df⟩:=newM h d6
theorem newIO{T:Nat}(h:∀i,V i=none->av prog ro n ops Q rest ⟨(t,.map i)::γ,V.set i (.map (eIO [])),df⟩)(d6:decide (t<n)=true:=by exact tdR):av prog ro n ops Q (⟨some t,.makeMap T none,ty,pos,after,none⟩::rest) ⟨γ,V,df⟩:=newM h d6
theorem lkO{x y:Operand}{i:Nat}{k:Int}{m:List (Int×fF)}(h:av prog ro n ops Q rest ⟨(t,sl (cI (getM [] k m)))::γ,V,df⟩)(hi:V i=some (.map (eIO m)):=by first|assumption|(simp;done))
  (hl:A8 γ (Ad [x,y])=some Sr:=by exact tdR) (hx:ev Sr x=.map i:=by exact tdR) (hy:ev Sr y=dI k:=by exact tdR) (d6:decide (t<n)=true:=by exact tdR) :
  av prog ro n ops Q (⟨some t,.lookup 183 x y false,ty,pos,after,none⟩::rest) ⟨γ,V,df⟩:=by
 refine Hg (d:=if hasM k m then sl (cI (getM [] k m)) else .ak) Af rfl d6 hl ?_ ?_
 ·simp only[dopX_lk,hx,hy]
  simp[hi,hitIO]
 ·refine BA (C2 (t:=t) (d:=sl (cI (getM [] k m))) ?_) (D3 (γ:=(t,sl (cI (getM [] k m)))::γ) (fun j=>?_) h)
  ·rw [Aa,aS rfl]
   cases hh:hasM k m with
   |true=>exact A9 _
   | false =>
    have:getM [] k m=[]:=by
     have key:∀m:List (Int×fF),hasM k m=false->getM [] k m=[]:=fun m=>by
      induction m with
      |nil=>intro _;rfl
      |cons p m ih=>
       intro h
       simp only[hasM,dD,be]at h
       rw[getM,aN h.1];exact ih h.2
     exact key m hh
    rw[this];exact Am _ (.inl rfl)
  ·simp only[Aa];split<;>rfl
end
theorem mS_at{V:Sig}{i sz:Nat}{X:DObj}{st:MR}{es:fH}(h:mOK (V.set i X) sz st es):(∀Y,mOK (V.set i Y) sz st es)/\(∀Y,mS (V.set i Y) st es i=some Y) /\ ∀Y Z,(mS (V.set i Y) st es).set i Z=mS (V.set i Z) st es:=by
 cases st with
 |none=>exact⟨fun Y=>h,fun Y=>w7 .., fun Y Z=>w9 ..⟩
 |some x=>
  obtain⟨k,cap,r⟩:=x
  obtain⟨h1,h2,h3,h4⟩:=h
  have d8:k≠i:=fun e=>by rw[e,w7]at h1;cases h1
  rw[w8 _ _ d8]at h1
  refine⟨fun Y=>⟨by rw[w8 _ _ d8];exact h1,h2,h3,h4⟩,fun Y=>?_,fun Y Z=>?_⟩
  ·simp only[mS];rw[w8 _ _ (aQ d8),w7]
  ·simp only[mS];rw[Sig.set_comm _ _ _ (aQ d8),w9];exact Sig.set_comm _ _ _ d8 |>.symm ▸ rfl
theorem We(a b:fF):cI a++cI b=cI (a++b):=by simp[cI]
section
variable {ro:Option Nat}{n:Nat}{Q:DX->St->Prop}{df:List DDf}{γ Sr:List (Nat×D)}{V:Sig}{ops:Array Oper}{rest:List Oper}{t:Nat}{ty:TypeId}{pos:String}{after:Array Edge}
theorem mappI{T T' e e':Nat}{s x:Operand}{l m:fF}{st:MR}(h:∀st',mOK V 1 st' (cI (l++m))->av prog ro n ops Q rest ⟨(t,mD st' (l++m).length)::γ,mS V st' (cI (l++m)),df⟩)(hm:mOK V 1 st (cI l):=by assumption)
  (hl:A8 γ (Ad [s,x])=some Sr:=by exact tdR) (hk:(tab T).k=.slice e:=by(simp<;>rfl)) (e7:(tab T').k=.slice e':=by(simp<;>rfl)) (he:A6 (tab e).k=false:=by simp) (fM:(tab e).size=1:=by simp)
  (h1:ev Sr s=mD st l.length:=by exact tdR) (h2:esOf (ev Sr x)=some (cI m):=by(simp<;>with_unfolding_all rfl))
  (hb:(l.length+m.length)*(tab e).bytes<=140737488355328:=by first|(simp;done)|(simp;omega)) (fP:l.length+m.length<=9223372036854775807:=by omega) (d6:decide (t<n)=true:=by exact tdR) :
  av prog ro n ops Q (⟨some t,(cA s x T T'),ty,pos,after,none⟩::rest) ⟨γ,mS V st (cI l),df⟩:=by
 refine mapp (fun st' d9=>?_) hm hl hk e7 he fM (by rw[h1,Iu]) h2 (BY _) (by simp[cI,Db,D.flat]) (by simpa using hb) ?_ d6
 ·rw[We]at d9⊢
  rw[Iu,Iu,<-aH]
  exact h st' d9
 ·simpa using fP
end
structure ShlOf(k:IntKind)(a b:Int) where
 val:Int
 is:val=k.wrap (a*2 ^ (min b.toNat k.bits))
def shlI(k:IntKind)(a b:Int):ShlOf k a b:=⟨_,rfl⟩
theorem R4(k k':IntKind)(a b:Int)(h:0<=b):binD .shl (.int k a) (.int k' b)=some (.int k (shlI k a b).val):=by
 rw[(shlI k a b).is];simp only[binD,h,bp]
class Ans(f:Nat)(us:fE)(V:Sig)(H:outParam Prop)(d:outParam D):Prop where
 call:H->au prog f us V (rS d V)
class Giv(f:Nat)(us:fE)(V:Sig)(H:outParam Prop)(c:outParam Bool)(d u:outParam D):Prop where
 call:H->au prog f us V fun x S'=>x=(if c then .ret d else .panic u)/\S'=V
theorem ah0{f:Nat}{us:fE}{V:Sig}{d:D}(h:au prog f us V (rS d V)):Ans f us V (True) d:=⟨fun _=>h⟩
theorem ah1{f:Nat}{us:fE}{V:Sig}{d:D}{p:Prop}(h:p->au prog f us V (rS d V)):Ans f us V (p) d:=⟨fun p=>h p⟩
theorem ah2{f:Nat}{us:fE}{V:Sig}{d:D}{p q:Prop}(h:p->q->au prog f us V (rS d V)):Ans f us V (p/\q) d:=⟨fun ⟨p,q⟩=>h p q⟩
theorem ah3{f:Nat}{us:fE}{V:Sig}{d:D}{p q r:Prop}(h:p->q->r->au prog f us V (rS d V)):Ans f us V (p/\q/\r) d:=⟨fun ⟨p,q,r⟩=>h p q r⟩
theorem ah4{f:Nat}{us:fE}{V:Sig}{d:D}{p q r s:Prop}(h:p->q->r->s->au prog f us V (rS d V)):Ans f us V (p/\q/\r/\s) d:=⟨fun ⟨p,q,r,s⟩=>h p q r s⟩
theorem gh0{f:Nat}{us:fE}{V:Sig}{c:Bool}{d u:D}(h:au prog f us V fun x S'=>x=(if c then .ret d else .panic u)/\S'=V):Giv f us V (True) c d u:=⟨fun _=>h⟩
theorem gh1{f:Nat}{us:fE}{V:Sig}{c:Bool}{d u:D}{p:Prop}(h:p->au prog f us V fun x S'=>x=(if c then .ret d else .panic u)/\S'=V):Giv f us V (p) c d u:=⟨fun p=>h p⟩
theorem gh2{f:Nat}{us:fE}{V:Sig}{c:Bool}{d u:D}{p q:Prop}(h:p->q->au prog f us V fun x S'=>x=(if c then .ret d else .panic u)/\S'=V):Giv f us V (p/\q) c d u:=⟨fun ⟨p,q⟩=>h p q⟩
class BoolIs(b:Bool)(p q:outParam Prop):Prop where
 yes:b=true->p
 no:b=false->q
instance (priority:=low) boolIs (b:Bool):BoolIs b (b=true) (b=false):=⟨id,id⟩
instance (priority:=high) boolIs_t:BoolIs true True False:=⟨fun _=>trivial,(fun h=>by cases h)⟩
instance (priority:=high) boolIs_f:BoolIs false False True:=⟨(fun h=>by cases h),fun _=>trivial⟩
instance boolIs_dec(p:Prop)[inst:Decidable p]:BoolIs (decide p) p (¬p):=⟨cx,of_decide_eq_false⟩
instance boolIs_not(b:Bool)(p q:Prop)[h:BoolIs b p q]:BoolIs (!b) q p:=⟨fun e=>h.no (by cases b<;>simp_all),fun e=>h.yes (by cases b<;>simp_all)⟩
instance boolIs_and(a b:Bool)(p q p' q':Prop)[h:BoolIs a p q][k:BoolIs b p' q']:BoolIs (a&&b) (p/\p') (q\/q'):=⟨fun e=>by cases a<;>cases b<;>simp_all;exact⟨h.yes rfl,k.yes rfl⟩,fun e=>by cases a with|false=>exact .inl (h.no rfl)|true=>exact .inr (k.no (by simpa using e))⟩
inductive NotLit(b:Bool):Prop
 |mk
structure Two(A B:Prop):Prop where
 a:A
 b:B
class T2(p q A B:Prop)(C:outParam Prop):Prop where
 to:C->(p->A)/\(q->B)
instance (priority:=low) t2_two (p q A B:Prop):T2 p q A B (Two (p->A) (q->B)):=⟨fun h=>⟨h.a,h.b⟩⟩
instance (priority:=high) t2_a (A B:Prop):T2 True False A B A:=⟨fun h=>⟨fun _=>h,False.elim⟩⟩
instance (priority:=high) t2_b (A B:Prop):T2 False True A B B:=⟨fun h=>⟨False.elim,fun _=>h⟩⟩
theorem sd{p:Prop}(h:p:=by first|assumption|omega|simp):p:=h
theorem tdH{p:Prop}(h:p:=by(and_intros<;>first|trivial|assumption|omega|(simp;done)|(simp;omega))):p:=h
theorem tdP{p:Prop}(h:p:=by(try simp only[ba,bJ,D.plain]);with_unfolding_all rfl):p:=h
theorem tdS{F p:Prop}(fx:Hold F)(h:Hold F->p:=by intro fx;simp(disch:=first|omega|assumption) [Ar,big1,big2,w8,DF,CA,DD,Cz,DG,DC,Cv,BV,Cu,BU,Cw,Ct,FQ,fx.get]<;>(try simp only[Bq,Br,B1,Bp,AF,B4,B3,B2,B0,AE,AZ,AY,AX])<;>first|rfl|(and_intros<;>rfl)):p:=h fx
theorem tdE{F p:Prop}(fx:Hold F)(h:Hold F->p:=by intro fx;simp(disch:=first|omega|assumption) [Ar,big1,big2,w8,DF,CA,DD,Cz,DG,DC,Cv,BV,Cu,BU,Cw,Ct,FQ,fx.get]<;>first|rfl|(and_intros<;>rfl)):p:=h fx
theorem tdC{F p:Prop}(fx:Hold F)(h:Hold F->p:=by intro fx;simp(disch:=first|omega|assumption) [Ar,big1,big2,w8,DF,CA,DD,Cz,DG,DC,Cv,BV,Cu,BU,Cw,Ct,FQ,fx.get]<;>fail):p:=h fx
theorem tdF{p:Prop}(h:p:=by simp<;>(try simp only[Bq,Br,B1,Bp,AF,B4,B3,B2,B0,AE,AZ,AY,AX])<;>rfl):p:=h
theorem litT:NotLit true:=.mk
theorem litF:NotLit false:=.mk
section
variable {P:Program}{ro:Option Nat}{n:Nat}{ops:Array Oper}{N:Nat}{S0:Sig}{Q:DX->St->Prop}{df:List DDf}{rest:List Oper}{γ Sr:List (Nat×D)}{V:Sig}{t:Nat}{ty:TypeId}{pos:String}{after:Array Edge}{l:List (Bool×Oper)}{d:D}
theorem Yb{fop:Operand}{args:Array Operand}{ats:Array TypeId}{f:Nat}{first cap us:fE}{H:Prop}(k1:av prog ro n ops Q rest ⟨(t,d)::γ,V,df⟩)(hl:A8 γ (Ad (fop::args.toList))=some Sr:=by exact tdR)(hf:ev Sr fop=.func (.func f) first cap:=by exact tdR)(ha:first++args.toList.map (ev Sr)++cap=us:=by exact td0)(hs:Ans f us V H d:=by infer_instance)(hH:H:=by exact tdH)(d6:decide (t<n)=true:=by exact tdR):av prog ro n ops Q (⟨some t,(cv fop args ats),ty,pos,after,none⟩::rest) ⟨γ,V,df⟩:=HZ hl hf ha (.inl rfl) (hs.call hH) d6 k1
theorem Wb{fop:Operand}{args:Array Operand}{ats:Array TypeId}{f:Nat}{first cap us:fE}{j:Nat}{want:Bool}{k:Nat}{H:Prop}(k1:av prog ro n ops Q rest ⟨(t,d)::γ,V,df⟩)(hk:(ops[j]?).bind (·.dst)=some k:=by exact tdR)(hb:γ.lookup k=some (.bool want):=by exact tdR)(hl:A8 γ (Ad (fop::args.toList))=some Sr:=by exact tdR)(hf:ev Sr fop=.func (.func f) first cap:=by exact tdR)(ha:first++args.toList.map (ev Sr)++cap=us:=by exact td0)(hs:Ans f us V H d:=by infer_instance)(hH:H:=by exact tdH)(d6:decide (t<n)=true:=by exact tdR):av prog ro n ops Q (⟨some t,(cv fop args ats),ty,pos,after,some (j,want)⟩::rest) ⟨γ,V,df⟩:=GP hk hb hl hf ha (.inl rfl) (hs.call hH) d6 k1
theorem moIR{fop:Operand}{args:Array Operand}{ats:Array TypeId}{f:Nat}{first cap us:fE}{H:Prop}{l:List (Bool×Oper)}(k1:MO prog ro n ops N S0 Q df l ((t,d)::γ) V)(hl:A8 γ (Ad (fop::args.toList))=some Sr:=by exact tdR)(hf:ev Sr fop=.func (.func f) first cap:=by exact tdR)(ha:first++args.toList.map (ev Sr)++cap=us:=by exact td0)(hs:Ans f us V H d:=by infer_instance)(hH:H:=by exact tdH)(hC:Sub S0 V:=by first|exact Sub.refl _|assumption)(d6:decide (t<n)=true:=by exact tdR):MO prog ro n ops N S0 Q df ((true,⟨some t,(cv fop args ats),ty,pos,after,none⟩)::l) γ V:=Qc hl hf ha (.inl rfl) (hs.call hH) d6 hC k1
theorem moIRG{fop:Operand}{args:Array Operand}{ats:Array TypeId}{f:Nat}{first cap us:fE}{j:Nat}{want:Bool}{k:Nat}{H:Prop}{l:List (Bool×Oper)}(k1:MO prog ro n ops N S0 Q df l ((t,d)::γ) V)(hk:(ops[j]?).bind (·.dst)=some k:=by exact tdR)(hb:γ.lookup k=some (.bool want):=by exact tdR)(hl:A8 γ (Ad (fop::args.toList))=some Sr:=by exact tdR)(hf:ev Sr fop=.func (.func f) first cap:=by exact tdR)(ha:first++args.toList.map (ev Sr)++cap=us:=by exact td0)(hs:Ans f us V H d:=by infer_instance)(hH:H:=by exact tdH)(hC:Sub S0 V:=by first|exact Sub.refl _|assumption)(d6:decide (t<n)=true:=by exact tdR):MO prog ro n ops N S0 Q df ((true,⟨some t,(cv fop args ats),ty,pos,after,some (j,want)⟩)::l) γ V:=Tz hk hb hl hf ha (.inl rfl) (hs.call hH) d6 hC k1
theorem needIR{fop:Operand}{args:Array Operand}{ats:Array TypeId}{f:Nat}{first cap us:fE}{H p q:Prop}{b b':Bool}{u d:D}{dst:Option Tmp}{C:Prop}(kc:C)(hl:A8 γ (Ad (fop::args.toList))=some Sr:=by exact tdR)(hf:ev Sr fop=.func (.func f) first cap:=by exact tdR)(ha:first++args.toList.map (ev Sr)++cap=us:=by exact td0)(hs:Giv f us V H b d u:=by infer_instance)(he:b=b':=by first|assumption|exact rfl)(d7:BoolIs b' p q:=by infer_instance)(hz:T2 p q (av prog ro n ops Q rest ⟨putD dst d γ,V,df⟩) (Q (.panic u) ⟨γ,V,df⟩) C:=by infer_instance)(hH:H:=by exact tdH)(ho:AD n ⟨dst,(cv fop args ats),ty,pos,after,none⟩=true:=by exact tdR):av prog ro n ops Q (⟨dst,(cv fop args ats),ty,pos,after,none⟩::rest) ⟨γ,V,df⟩:=needR (hs.call hH) (fun h=>(hz.to kc).1 (d7.yes (he.symm.trans h))) (fun h=>(hz.to kc).2 (d7.no (he.symm.trans h))) (hl:=hl) (hf:=hf) (ha:=ha) (hp:=rfl) (ho:=ho)
theorem WF{fop:Operand}{args:Array Operand}{ats:Array TypeId}{f:Nat}{first cap us:fE}{H p q:Prop}{b b':Bool}{u d:D}{dst:Option Tmp}{l:List (Bool×Oper)}{C:Prop}(kc:C)(hl:A8 γ (Ad (fop::args.toList))=some Sr:=by exact tdR)(hf:ev Sr fop=.func (.func f) first cap:=by exact tdR)(ha:first++args.toList.map (ev Sr)++cap=us:=by exact td0)(hs:Giv f us V H b d u:=by infer_instance)(he:b=b':=by first|assumption|exact rfl)(d7:BoolIs b' p q:=by infer_instance)(hz:T2 p q (MO prog ro n ops N S0 Q df l (putD dst d γ) V) (∀U',Q (.panic u) ⟨U',V,df⟩) C:=by infer_instance)(hH:H:=by exact tdH)(hC:Sub S0 V:=by first|exact Sub.refl _|assumption)(ho:AD n ⟨dst,(cv fop args ats),ty,pos,after,none⟩=true:=by exact tdR):MO prog ro n ops N S0 Q df ((true,⟨dst,(cv fop args ats),ty,pos,after,none⟩)::l) γ V:=moNeedR (hs.call hH) (fun h=>(hz.to kc).1 (d7.yes (he.symm.trans h))) (fun h=>(hz.to kc).2 (d7.no (he.symm.trans h))) (hl:=hl) (hf:=hf) (ha:=ha) (hp:=rfl) (hC:=hC) (ho:=ho)
theorem Yc{fop:Operand}{args:Array Operand}{ats:Array TypeId}{f:Nat}{first cap us bs:fE}{H:Prop}(k1:av prog ro n ops Q rest ⟨(t,d)::γ,V,df⟩)(hl:A8 γ (Ad (fop::args.toList))=some Sr:=by exact tdR)(hf:ev Sr fop=.func (.func f) first cap:=by exact tdR)(ha:first++args.toList.map (ev Sr)++cap=us:=by exact td0)(hp:us.map D.plain=bs:=by exact tdP)(hs:Ans f bs V H d:=by infer_instance)(hH:H:=by exact tdH)(d6:decide (t<n)=true:=by exact tdR):av prog ro n ops Q (⟨some t,(cv fop args ats),ty,pos,after,none⟩::rest) ⟨γ,V,df⟩:=HZ hl hf ha (.inr hp.symm) (hs.call hH) d6 k1
theorem Wc{fop:Operand}{args:Array Operand}{ats:Array TypeId}{f:Nat}{first cap us bs:fE}{j:Nat}{want:Bool}{k:Nat}{H:Prop}(k1:av prog ro n ops Q rest ⟨(t,d)::γ,V,df⟩)(hk:(ops[j]?).bind (·.dst)=some k:=by exact tdR)(hb:γ.lookup k=some (.bool want):=by exact tdR)(hl:A8 γ (Ad (fop::args.toList))=some Sr:=by exact tdR)(hf:ev Sr fop=.func (.func f) first cap:=by exact tdR)(ha:first++args.toList.map (ev Sr)++cap=us:=by exact td0)(hp:us.map D.plain=bs:=by exact tdP)(hs:Ans f bs V H d:=by infer_instance)(hH:H:=by exact tdH)(d6:decide (t<n)=true:=by exact tdR):av prog ro n ops Q (⟨some t,(cv fop args ats),ty,pos,after,some (j,want)⟩::rest) ⟨γ,V,df⟩:=GP hk hb hl hf ha (.inr hp.symm) (hs.call hH) d6 k1
theorem cndX{c:Nat}{x y:Code}{b:Bool}{p q C:Prop}(kc:C)(hl:γ.lookup c=some (.bool b):=by exact tdR)(e9:NotLit b:=by((fail_if_success (with_reducible exact litT));(fail_if_success (with_reducible exact litF));exact NotLit.mk))(d7:BoolIs b p q:=by infer_instance)(hz:T2 p q (DWp P ro n x Q ⟨(c,.bool true)::γ,V,df⟩) (DWp P ro n y Q ⟨(c,.bool false)::γ,V,df⟩) C:=by infer_instance):DWp P ro n (.cond (.tmp c) x y) Q ⟨γ,V,df⟩:=cndB (fun h=>(hz.to kc).1 (d7.yes h)) (fun h=>(hz.to kc).2 (d7.no h)) hl
theorem splX{dst:Option Tmp}{op:Op}{j:Nat}{want:Bool}{k:Nat}{b:Bool}{p q C:Prop}(kc:C)(hk:(ops[j]?).bind (·.dst)=some k:=by exact tdR)(hb:γ.lookup k=some (.bool b):=by exact tdR)(e9:NotLit b:=by((fail_if_success (with_reducible exact litT));(fail_if_success (with_reducible exact litF));exact NotLit.mk))(d7:BoolIs b p q:=by infer_instance)(hz:T2 p q (av P ro n ops Q (⟨dst,op,ty,pos,after,some (j,want)⟩::rest) ⟨(k,.bool true)::γ,V,df⟩) (av P ro n ops Q (⟨dst,op,ty,pos,after,some (j,want)⟩::rest) ⟨(k,.bool false)::γ,V,df⟩) C:=by infer_instance):av P ro n ops Q (⟨dst,op,ty,pos,after,some (j,want)⟩::rest) ⟨γ,V,df⟩:=Rc hk hb (fun h=>(hz.to kc).1 (d7.yes h)) (fun h=>(hz.to kc).2 (d7.no h))
theorem moSX{e:Bool}{l:List (Bool×Oper)}{dst:Option Tmp}{op:Op}{j:Nat}{want:Bool}{k:Nat}{b:Bool}{p q C:Prop}(kc:C)(hk:(ops[j]?).bind (·.dst)=some k:=by exact tdR)(hb:γ.lookup k=some (.bool b):=by exact tdR)(e9:NotLit b:=by((fail_if_success (with_reducible exact litT));(fail_if_success (with_reducible exact litF));exact NotLit.mk))(d7:BoolIs b p q:=by infer_instance)(hz:T2 p q (MO P ro n ops N S0 Q df ((e,⟨dst,op,ty,pos,after,some (j,want)⟩)::l) ((k,.bool true)::γ) V) (MO P ro n ops N S0 Q df ((e,⟨dst,op,ty,pos,after,some (j,want)⟩)::l) ((k,.bool false)::γ) V) C:=by infer_instance):MO P ro n ops N S0 Q df ((e,⟨dst,op,ty,pos,after,some (j,want)⟩)::l) γ V:=WD hk hb (fun h=>(hz.to kc).1 (d7.yes h)) (fun h=>(hz.to kc).2 (d7.no h))
end
abbrev OT:=List (Nat×Bool×List (Nat×Nat)×fG)
def runO:List (Nat×Nat)->fG
 |[]=>[]
 |(a,k)::r=>List.range' a k++runO r
def lookO(i:Nat):OT->Option (fG×fG)
 |[]=>none
 |(j,_,o,e)::r=>if i==j then some (runO o,e) else lookO i r
def Y4(i:Nat):OT->Option (fG×fG)
 |[]=>none
 |(j,b,o,e)::r=>if i==j&&b then some ((runO o).dropLast,e.filter fun x=>x+1 != (runO o).length) else Y4 i r
structure Tab(t:OT):Prop
def delO(i:Nat)(t:OT):OT:=t.filter fun x=>x.1 != i
section
variable {P:Program}{ro:Option Nat}{n:Nat}{Q:DX->St->Prop}{df:List DDf}{γ:List (Nat×D)}{V:Sig}
theorem mixX{lo:List Oper}{id:Nat}{tb:OT}(_:Tab tb){ord E:fG}{lp:List (Bool×Oper)}(h:MO prog ro n lo.toArray 334 V Q df lp γ V)(hk:lookO id tb=some (ord,E):=by exact tdR)(hB:Fv lo.toArray E ord=true:=by kernel_rfl)(hl:GT lo E ord=some lp:=by exact tdR):DWp prog ro n (.region id lo.toArray true) Q ⟨γ,V,df⟩:=mix ord E h hB hl
theorem mixY{lo:List Oper}{id:Nat}{tb:OT}(_:Tab tb){ord E:fG}{lp:List (Bool×Oper)}{ol:Oper}(h:MO prog ro n lo.toArray 334 V (Then (fun s=>av prog ro n lo.toArray Q [ol] s) Q) df lp γ V)(hk:Y4 id tb=some (ord,E):=by exact tdR)(hB:JD lo.toArray E ord=true:=by kernel_rfl)(fN:nthO lo (lo.length-1)=some ol:=by exact tdR)(hl:GT lo E ord=some lp:=by exact tdR):DWp prog ro n (.region id lo.toArray true) Q ⟨γ,V,df⟩:=mixL ord E h hB fN hl
end
theorem walkQ{F G' G:Prop}{tb:OT}{vars:fG} (hs:VarsAre vars->Hold F->Tab tb->Hold G'->G:=by
 intro hv fx tb hG
 repeat1' (first
  |(with_reducible first|refine GO ?_|refine Je ?_|refine M9 ?_|refine HT ?_|refine Ia ?_|refine Mr ?_|refine TS (by decide) ?_|refine Pq ?_|refine JR ?_|refine Kc ?_|refine Kd ?_|refine MQ ?_|refine MS ?_|refine Px ?_|refine AP ?_|refine HH ?_|refine Tv ?_)
  |((with_reducible refine Hg (d:=?_) (Sr:=?_) Af ?h1 ?h2 ?hl ?hd ?_);(case h1=>rfl);(case h2=>rfl);(case hl=>rfl);(case hd=>exact tdS fx))
  |((with_reducible refine HV (d:=?_) (k:=?_) (Sr:=?_) Af ?h1 ?h2 ?hk ?hb ?hl ?hd ?_);(case h1=>rfl);(case h2=>rfl);(case hk=>rfl);(case hb=>rfl);(case hl=>rfl);(case hd=>exact tdS fx))
  |((with_reducible refine step_read0 (d:=?_) (Sr:=?_) Af ?h1 ?hl ?hd ?_);(case h1=>rfl);(case hl=>rfl);(case hd=>exact tdS fx))
  |((with_reducible refine Pk (d:=?_) (Sr:=?_) Af ?h1 ?h2 ?hl ?hd ?_);(case h1=>rfl);(case h2=>rfl);(case hl=>rfl);(case hd=>exact tdS fx))
  |((with_reducible refine Mm (d:=?_) (k:=?_) (Sr:=?_) Af ?h1 ?h2 ?hk ?hb ?hl ?hd ?_);(case h1=>rfl);(case h2=>rfl);(case hk=>rfl);(case hb=>rfl);(case hl=>rfl);(case hd=>exact tdS fx))
  |((with_reducible refine mo_read0 (d:=?_) (Sr:=?_) Af ?h1 ?hl ?hd ?_);(case h1=>rfl);(case hl=>rfl);(case hd=>exact tdS fx))
  |((with_reducible refine Jf (k:=?_) An ?hk ?hb ?h1 ?h2 ?_);(case hk=>rfl);(case hb=>rfl);(case h1=>rfl);(case h2=>rfl))
  |((with_reducible refine HU (k:=?_) An ?hk ?hb ?h1 ?h2 ?_);(case hk=>rfl);(case hb=>rfl);(case h1=>rfl);(case h2=>rfl))
  |((with_reducible refine step_skip0 (k:=?_) An ?hk ?hb ?h1 ?_);(case hk=>rfl);(case hb=>rfl);(case h1=>rfl))
  |((with_reducible refine step_skipU0 (k:=?_) An ?hk ?hb ?h1 ?_);(case hk=>rfl);(case hb=>rfl);(case h1=>rfl))
  |((with_reducible refine Ml (k:=?_) ?hk ?hb ?h1 ?h2 ?_);(case hk=>rfl);(case hb=>rfl);(case h1=>rfl);(case h2=>rfl))
  |((with_reducible refine Mk (k:=?_) ?hk ?hb ?h1 ?h2 ?_);(case hk=>rfl);(case hb=>rfl);(case h1=>rfl);(case h2=>rfl))
  |((with_reducible refine mo_skip0 (k:=?_) ?hk ?hb ?h1 ?_);(case hk=>rfl);(case hb=>rfl);(case h1=>rfl))
  |((with_reducible refine mo_skipU0 (k:=?_) ?hk ?hb ?h1 ?_);(case hk=>rfl);(case hb=>rfl);(case h1=>rfl))
  |((with_reducible refine Mb (d:=?_) (S':=?_) (Sr:=?_) Af ?hl ?he ?h1 ?_);(case hl=>rfl);(case he=>exact tdE fx);(case h1=>rfl))
  |((with_reducible refine Jh (d:=?_) (S':=?_) (Sr:=?_) Af ?hl ?he ?_);(case hl=>rfl);(case he=>exact tdE fx))
  |((with_reducible refine Pm (d:=?_) (S':=?_) (Sr:=?_) Af ?hl ?he ?h1 ?hC ?_);(case hl=>rfl);(case he=>exact tdE fx);(case h1=>rfl);(case hC=>first|exact Sub.refl _|assumption|exact(Sub.refl _).set (by assumption)))
  |((with_reducible refine Mn (d:=?_) (S':=?_) (Sr:=?_) Af ?hl ?he ?hC ?_);(case hl=>rfl);(case he=>exact tdE fx);(case hC=>first|exact Sub.refl _|assumption|exact(Sub.refl _).set (by assumption)))
  |((with_reducible refine step_neqS (r:=?_) (Sr:=?_) (xs:=?_) (ys:=?_) (fs:=?_) Af ?hE ?h1 ?hl ?hx ?hy ?hk ?hd ?_);(case hE=>with_reducible first|exact LF|exact eqTy150);(case h1=>rfl);(case hl=>rfl);(case hx=>rfl);(case hy=>rfl);(case hk=>simp<;>rfl);(case hd=>exact tdE fx))
  |((with_reducible refine Pl (r:=?_) (Sr:=?_) (xs:=?_) (ys:=?_) (fs:=?_) Af ?hE ?h1 ?hl ?hx ?hy ?hk ?hd ?_);(case hE=>with_reducible first|exact LF|exact eqTy150);(case h1=>rfl);(case hl=>rfl);(case hx=>rfl);(case hy=>rfl);(case hk=>simp<;>rfl);(case hd=>exact tdE fx))
  |((with_reducible refine HX (Sr:=?_) ?hl ?hc ?_);(case hl=>rfl);(case hc=>exact tdC fx))
  |((with_reducible refine HY (Sr:=?_) ?hl ?hc ?_);(case hl=>rfl);(case hc=>exact tdC fx))
  |((with_reducible refine Jg (d:=?_) (cs:=?_) (Sr:=?_) hv Af ?h1 ?h2 ?h3 ?h4 ?h5 ?hl ?he ?h6 ?h7 ?h8 ?h9 ?_);(case h1=>rfl);(case h2=>rfl);(case h3=>rfl);(case h4=>rfl);(case h5=>simp);(case hl=>rfl);(case he=>exact tdF);(case h6=>rfl);(case h7=>exact tdF);(case h8=>simp);(case h9=>simp))
  |((with_reducible refine HW (d:=?_) (d2:=?_) (cs:=?_) (Sr:=?_) (Sr2:=?_) hv Af ?h1 ?h2 ?h3 ?h4 ?h5 ?g1 ?g2 ?g3 ?g4 ?gl ?ge ?hl ?he ?h6 ?h7 ?h8 ?h9 ?_);(case h1=>rfl);(case h2=>rfl);(case h3=>rfl);(case h4=>rfl);(case h5=>rfl);(case g1=>rfl);(case g2=>rfl);(case g3=>rfl);(case g4=>simp);(case gl=>rfl);(case ge=>exact tdF);(case hl=>rfl);(case he=>exact tdF);(case h6=>rfl);(case h7=>exact tdF);(case h8=>simp);(case h9=>simp))
  |with_reducible refine Yb ?_
  |with_reducible refine Wb ?_
  |with_reducible refine moIR ?_
  |with_reducible refine moIRG ?_
  |with_reducible refine Yc ?_
  |with_reducible refine Wc ?_
  |with_reducible refine moIP ?_
  |with_reducible refine moIPG ?_
  |with_reducible refine nilE ?_
  |with_reducible refine nilN ?_
  |with_reducible refine boolE ?_
  |with_reducible refine boolN ?_
  |with_reducible refine OG ?_
  |with_reducible refine OH ?_
  |with_reducible refine mixY tb ?_
  |with_reducible refine mixX tb ?_
  |with_reducible refine needIR ?_
  |with_reducible refine needIP ?_
  |with_reducible refine WF ?_
  |with_reducible refine moNeedIP ?_
  |with_reducible refine cndX ?_
  |with_reducible refine splX ?_
  |with_reducible refine moSX ?_)
 exact hG.get):VarsAre vars->Hold F->Tab tb->Hold G'->G:=hs
theorem gf{F G' G:Prop}(fx:F)(h:G')(tb:OT:=[])(vars:fG:=[])(hs:VarsAre vars->Hold F->Tab tb->Hold G'->G:=by exact walkQ):G:=hs ⟨⟩ ⟨fx⟩ ⟨⟩ ⟨h⟩
theorem gz{G' G:Prop}(h:G')(tb:OT:=[])(vars:fG:=[])(hs:VarsAre vars->Hold True->Tab tb->Hold G'->G:=by exact walkQ):G:=hs ⟨⟩ ⟨trivial⟩ ⟨⟩ ⟨h⟩
theorem gi{a b:Prop}(x:a)(y:b):a/\b:=⟨x,y⟩
theorem en {f m : Nat} {fn : Func} {c : Code} {args : fE} {V : Sig} {R : DE -> Sig -> Prop} (hf : prog.funcs[f]? = some fn) (hm : fn.ntmps = m) (h : DWp prog none m c (EX prog m fn R) { γ := CX 0 args, V }) (hb : fn.body = some c := by exact rfl) (fO : (fn.name == "runtime.NumGoroutine") = false := by decide) (hn : args.length <= m := by simp) : au prog f args V R := MV hf hb fO hm hn h
theorem gy{A B:Prop}(a:A)(b:B):Two A B:=⟨a,b⟩
theorem tdV{F p:Prop} (h:Hold F->p:=by
 intro fx
 have hF:=fx.get
 clear fx
 first|rfl|(simp[hF];done)|(simp_all;done)|(rw[A5,aO];simp_all<;>omega)):Hold F->p:=h
section
variable {P:Program}{n:Nat}{γ:List (Nat×D)}{V:Sig}
theorem fe1{F:Prop}{fn:Func}{v:DE}{S':Sig}{t:Nat}{d d':D}(fx:F)(hZ:Sub S' V:=by exact tdU)(hr:fn.results=#[.tmp t]:=by exact tdR)(hl:γ.lookup t=some d:=by exact tdR)(hw:WkD d d':=by exact tdW)(hq:Hold F->DE.ret d'=v:=by first|exact tdV|fail):EX P n fn (fun x τ=>x=v/\τ=S') .ret ⟨γ,V,[]⟩:=fin1 ⟨hq ⟨fx⟩,rfl⟩ hZ hr hl hw
theorem fe0{F:Prop}{fn:Func}{v:DE}{S':Sig}(fx:F)(hZ:Sub S' V:=by exact tdU)(hr:fn.results=#[]:=by exact tdR)(hq:Hold F->DE.ret (.tup [])=v:=by first|exact tdV|fail):EX P n fn (fun x τ=>x=v/\τ=S') .ret ⟨γ,V,[]⟩:=fin0 ⟨hq ⟨fx⟩,rfl⟩ hZ hr
theorem fe2{F:Prop}{fn:Func}{v:DE}{S':Sig}{t u:Nat}{d d' e e':D}(fx:F)(hZ:Sub S' V:=by exact tdU)(hr:fn.results=#[.tmp t,.tmp u]:=by exact tdR)(hl:γ.lookup t=some d:=by exact tdR)(fQ:γ.lookup u=some e:=by exact tdR)(fL:decide (u=t)=false:=by exact tdR)(hw:WkD d d':=by exact tdW)(fK:WkD e e':=by exact tdW)(hq:Hold F->DE.ret (.tup [d',e'])=v:=by first|exact tdV|fail):EX P n fn (fun x τ=>x=v/\τ=S') .ret ⟨γ,V,[]⟩:=fin2 ⟨hq ⟨fx⟩,rfl⟩ hZ hr hl fQ fL hw fK
end
theorem td1{p:Prop}(h:p:=by first|omega|(simp;omega)):p:=h
theorem td2{p:Prop}(h:p:=by first|omega|(simp_all;done)|(simp_all;omega)):p:=h
theorem td3{p:Prop}(h:p:=by first|omega|simp):p:=h
theorem goX1{F G' G:Prop}(fx:F)(h:G') (hs:VarsAre []->Hold F->Hold G'->G:=by
 intro hv fx hG
 (first
  |(with_reducible first|refine GO ?_|refine Je ?_|refine M9 ?_|refine HT ?_|refine Ia ?_|refine Mr ?_|refine TS (by decide) ?_|refine Pq ?_|refine JR ?_|refine Kc ?_|refine Kd ?_|refine MQ ?_|refine MS ?_|refine Px ?_|refine AP ?_|refine HH ?_|refine Tv ?_)
  |((with_reducible refine Hg (d:=?_) (Sr:=?_) Af ?h1 ?h2 ?hl ?hd ?_);(case h1=>rfl);(case h2=>rfl);(case hl=>rfl);(case hd=>exact tdS fx))
  |((with_reducible refine HV (d:=?_) (k:=?_) (Sr:=?_) Af ?h1 ?h2 ?hk ?hb ?hl ?hd ?_);(case h1=>rfl);(case h2=>rfl);(case hk=>rfl);(case hb=>rfl);(case hl=>rfl);(case hd=>exact tdS fx))
  |((with_reducible refine step_read0 (d:=?_) (Sr:=?_) Af ?h1 ?hl ?hd ?_);(case h1=>rfl);(case hl=>rfl);(case hd=>exact tdS fx))
  |((with_reducible refine Pk (d:=?_) (Sr:=?_) Af ?h1 ?h2 ?hl ?hd ?_);(case h1=>rfl);(case h2=>rfl);(case hl=>rfl);(case hd=>exact tdS fx))
  |((with_reducible refine Mm (d:=?_) (k:=?_) (Sr:=?_) Af ?h1 ?h2 ?hk ?hb ?hl ?hd ?_);(case h1=>rfl);(case h2=>rfl);(case hk=>rfl);(case hb=>rfl);(case hl=>rfl);(case hd=>exact tdS fx))
  |((with_reducible refine mo_read0 (d:=?_) (Sr:=?_) Af ?h1 ?hl ?hd ?_);(case h1=>rfl);(case hl=>rfl);(case hd=>exact tdS fx))
  |((with_reducible refine Jf (k:=?_) An ?hk ?hb ?h1 ?h2 ?_);(case hk=>rfl);(case hb=>rfl);(case h1=>rfl);(case h2=>rfl))
  |((with_reducible refine HU (k:=?_) An ?hk ?hb ?h1 ?h2 ?_);(case hk=>rfl);(case hb=>rfl);(case h1=>rfl);(case h2=>rfl))
  |((with_reducible refine step_skip0 (k:=?_) An ?hk ?hb ?h1 ?_);(case hk=>rfl);(case hb=>rfl);(case h1=>rfl))
  |((with_reducible refine step_skipU0 (k:=?_) An ?hk ?hb ?h1 ?_);(case hk=>rfl);(case hb=>rfl);(case h1=>rfl))
  |((with_reducible refine Ml (k:=?_) ?hk ?hb ?h1 ?h2 ?_);(case hk=>rfl);(case hb=>rfl);(case h1=>rfl);(case h2=>rfl))
  |((with_reducible refine Mk (k:=?_) ?hk ?hb ?h1 ?h2 ?_);(case hk=>rfl);(case hb=>rfl);(case h1=>rfl);(case h2=>rfl))
  |((with_reducible refine mo_skip0 (k:=?_) ?hk ?hb ?h1 ?_);(case hk=>rfl);(case hb=>rfl);(case h1=>rfl))
  |((with_reducible refine mo_skipU0 (k:=?_) ?hk ?hb ?h1 ?_);(case hk=>rfl);(case hb=>rfl);(case h1=>rfl))
  |((with_reducible refine Mb (d:=?_) (S':=?_) (Sr:=?_) Af ?hl ?he ?h1 ?_);(case hl=>rfl);(case he=>exact tdE fx);(case h1=>rfl))
  |((with_reducible refine Jh (d:=?_) (S':=?_) (Sr:=?_) Af ?hl ?he ?_);(case hl=>rfl);(case he=>exact tdE fx))
  |((with_reducible refine Pm (d:=?_) (S':=?_) (Sr:=?_) Af ?hl ?he ?h1 ?hC ?_);(case hl=>rfl);(case he=>exact tdE fx);(case h1=>rfl);(case hC=>first|exact Sub.refl _|assumption|exact(Sub.refl _).set (by assumption)))
  |((with_reducible refine Mn (d:=?_) (S':=?_) (Sr:=?_) Af ?hl ?he ?hC ?_);(case hl=>rfl);(case he=>exact tdE fx);(case hC=>first|exact Sub.refl _|assumption|exact(Sub.refl _).set (by assumption)))
  |((with_reducible refine step_neqS (r:=?_) (Sr:=?_) (xs:=?_) (ys:=?_) (fs:=?_) Af ?hE ?h1 ?hl ?hx ?hy ?hk ?hd ?_);(case hE=>with_reducible first|exact LF|exact eqTy150);(case h1=>rfl);(case hl=>rfl);(case hx=>rfl);(case hy=>rfl);(case hk=>simp<;>rfl);(case hd=>exact tdE fx))
  |((with_reducible refine Pl (r:=?_) (Sr:=?_) (xs:=?_) (ys:=?_) (fs:=?_) Af ?hE ?h1 ?hl ?hx ?hy ?hk ?hd ?_);(case hE=>with_reducible first|exact LF|exact eqTy150);(case h1=>rfl);(case hl=>rfl);(case hx=>rfl);(case hy=>rfl);(case hk=>simp<;>rfl);(case hd=>exact tdE fx))
  |((with_reducible refine HX (Sr:=?_) ?hl ?hc ?_);(case hl=>rfl);(case hc=>exact tdC fx))
  |((with_reducible refine HY (Sr:=?_) ?hl ?hc ?_);(case hl=>rfl);(case hc=>exact tdC fx))
  |((with_reducible refine Jg (d:=?_) (cs:=?_) (Sr:=?_) hv Af ?h1 ?h2 ?h3 ?h4 ?h5 ?hl ?he ?h6 ?h7 ?h8 ?h9 ?_);(case h1=>rfl);(case h2=>rfl);(case h3=>rfl);(case h4=>rfl);(case h5=>simp);(case hl=>rfl);(case he=>exact tdF);(case h6=>rfl);(case h7=>exact tdF);(case h8=>simp);(case h9=>simp))
  |((with_reducible refine HW (d:=?_) (d2:=?_) (cs:=?_) (Sr:=?_) (Sr2:=?_) hv Af ?h1 ?h2 ?h3 ?h4 ?h5 ?g1 ?g2 ?g3 ?g4 ?gl ?ge ?hl ?he ?h6 ?h7 ?h8 ?h9 ?_);(case h1=>rfl);(case h2=>rfl);(case h3=>rfl);(case h4=>rfl);(case h5=>rfl);(case g1=>rfl);(case g2=>rfl);(case g3=>rfl);(case g4=>simp);(case gl=>rfl);(case ge=>exact tdF);(case hl=>rfl);(case he=>exact tdF);(case h6=>rfl);(case h7=>exact tdF);(case h8=>simp);(case h9=>simp))
  |with_reducible refine Yb ?_
  |with_reducible refine Wb ?_
  |with_reducible refine moIR ?_
  |with_reducible refine moIRG ?_
  |with_reducible refine Yc ?_
  |with_reducible refine Wc ?_
  |with_reducible refine moIP ?_
  |with_reducible refine moIPG ?_
  |with_reducible refine nilE ?_
  |with_reducible refine nilN ?_
  |with_reducible refine boolE ?_
  |with_reducible refine boolN ?_
  |with_reducible refine OG ?_
  |with_reducible refine OH ?_)
 exact hG.get):G:=hs ⟨⟩ ⟨fx⟩ ⟨h⟩
def o3:OT:=[(3,false,[(0,1),(2,1),(1,1),(3,16)],[1,3,8,16])]
def o7:OT:=[(20,false,[(0,18)],[6,15])]
def o15:OT:=[(6,false,[(0,9)],[])]
def o16:OT:=[(4,false,[(0,49)],[12,13,17,18])]
def o19:OT:=[(6,true,[(0,14)],[10,11,12,13]),(12,true,[(0,14)],[10,11,12,13]),(18,true,[(0,14)],[10,11,12,13])]
def o27:OT:=[(6,false,[(0,9)],[])]
def o35:OT:=[(6,false,[(0,1),(2,1),(1,1),(3,3)],[1,3])]
def o39:OT:=[(6,false,[(0,12)],[10])]
def o44:OT:=[(18,false,[(0,31),(32,6),(31,1),(38,2)],[25,31]),(20,false,[(0,11),(12,1),(11,1),(13,2)],[11,13])]
def o48:OT:=[(4,true,[(0,21)],[12,14,15,17,18,20]),(5,true,[(0,18)],[9,13,17]),(6,true,[(0,9)],[4,8]),(10,true,[(0,3),(4,3),(3,1),(7,3)],[3,8,9]),(12,true,[(0,18),(19,1),(18,1),(20,7)],[18,22,26]),(16,true,[(0,7),(8,5),(7,1),(13,9)],[7,13,17,21])]
def o52:OT:=[(3,true,[(0,11)],[6,9,10])]
def o53:OT:=[(2,false,[(0,1),(2,1),(4,1),(1,1),(3,1),(5,3)],[1,3]),(14,true,[(0,13)],[8,10,12]),(23,true,[(0,12),(13,6),(12,1),(19,5)],[12,21,23]),(24,true,[(0,13)],[8,12]),(30,true,[(0,11),(12,5),(18,1),(11,1),(17,1),(19,7)],[11,17,21,25])]
def o55:OT:=[(6,false,[(0,12)],[10])]
def o56:OT:=[(2,true,[(0,3),(4,2),(7,3),(3,1),(6,1),(10,5)],[3,6,10,13,14]),(8,true,[(0,10)],[9]),(15,true,[(0,17),(18,4),(17,1),(22,6)],[17,22,25,27])]
def o57:OT:=[(1,false,[(0,4),(5,2),(8,3),(4,1),(7,1),(11,4)],[4,7,11]),(11,true,[(0,13)],[8,10,12]),(15,true,[(0,17)],[14,16]),(19,true,[(0,25)],[22,24]),(27,true,[(0,17),(18,4),(17,1),(22,6)],[17,22,25,27])]
def o69:OT:=[(2,false,[(0,4),(5,1),(4,1),(6,3)],[1,4,6])]
def o79:OT:=[(14,true,[(0,8),(9,6),(8,1),(15,3)],[3,8,17]),(15,true,[(0,18)],[17])]
def o82:OT:=[(9,false,[(0,10)],[7])]
def o83:OT:=[(13,true,[(0,9)],[6,8])]
def o90:OT:=[(31,false,[(0,35)],[23,32]),(36,false,[(0,11)],[])]
def o93:OT:=[(5,false,[(0,23)],[5,11]),(13,false,[(0,13)],[11])]
def o106:OT:=[(1,true,[(0,3),(4,3),(8,3),(3,1),(7,1),(11,3)],[3,7,11,13])]
def o111:OT:=[(1,true,[(0,11)],[10])]
def o112:OT:=[(8,true,[(0,10)],[9]),(10,true,[(0,10)],[9]),(13,true,[(0,10)],[9]),(14,true,[(0,15)],[10,14]),(25,true,[(0,12)],[8,11])]
def o113:OT:=[(1,true,[(0,20),(21,4),(20,1),(25,3)],[20,25,27])]
def o119:OT:=[(18,true,[(0,10)],[8,9]),(20,true,[(0,11)],[7,10])]
def o120:OT:=[(14,false,[(0,10)],[8])]
def o125:OT:=[(3,true,[(0,4),(5,1),(4,1),(6,4)],[4,6,8,9]),(6,true,[(0,11)],[6,10])]
def o126:OT:=[(5,true,[(0,15)],[14]),(17,true,[(0,13)],[12]),(18,false,[(0,16)],[])]
def o131:OT:=[(8,false,[(0,7)],[]),(12,true,[(0,9)],[6,8]),(14,true,[(0,9)],[6,8]),(18,true,[(0,13)],[8,12]),(25,false,[(0,1),(2,3),(1,1),(5,2)],[1,5])]
def o132:OT:=[(9,true,[(0,16)],[11,13,15]),(13,true,[(0,14)],[9,11,13])]
def o136:OT:=[(1,true,[(0,3),(4,3),(8,3),(3,1),(7,1),(11,3)],[3,7,11,13])]
def o141:OT:=[(1,true,[(0,12)],[11])]
def o143:OT:=[(1,true,[(0,11)],[7,9,10]),(4,true,[(0,10)],[9])]
def o144:OT:=[(10,true,[(0,13)],[12]),(12,true,[(0,13)],[12]),(15,true,[(0,13)],[12]),(17,true,[(0,12)],[11]),(24,false,[(0,1),(2,3),(1,1),(5,2)],[1,5]),(25,true,[(0,10)],[5,7,9])]
def o146:OT:=[(10,true,[(0,17)],[14,16]),(14,true,[(0,14)],[9,11,13])]
def o147:OT:=[(10,true,[(0,10)],[9]),(12,true,[(0,10)],[9]),(25,false,[(0,1),(2,3),(1,1),(5,2)],[1,5]),(26,true,[(0,15)],[10,12,14])]
def o157:OT:=[(6,false,[(0,9)],[])]
def o158:OT:=[(6,false,[(0,9)],[])]
def o175:OT:=[(11,false,[(0,36)],[34])]
def o176:OT:=[(1,false,[(0,13)],[10])]
def o184:OT:=[(2,true,[(0,7)],[6])]
def o185:OT:=[(31,true,[(0,8)],[7])]
def o187:OT:=[(1,true,[(0,12)],[7,11]),(8,true,[(0,8)],[7]),(11,false,[(0,12)],[])]
def o190:OT:=[(1,true,[(0,12)],[7,11]),(9,false,[(0,13)],[])]
def o191:OT:=[(19,true,[(0,6)],[3,4,5])]
def o200:OT:=[(1,true,[(0,7)],[6])]
def o202:OT:=[(6,true,[(0,8),(9,1),(8,1),(10,2)],[8,10,11])]
def o203:OT:=[(4,true,[(0,8)],[7])]
def o206:OT:=[(10,true,[(0,9)],[6,8])]
def o211:OT:=[(26,false,[(0,9)],[7]),(31,false,[(0,11)],[9])]
def o228:OT:=[(7,true,[(0,3),(4,2),(3,1),(6,2)],[3,7])]
def o247:OT:=[(11,false,[(0,11)],[9])]
def o250:OT:=[(6,false,[(0,15)],[]),(8,false,[(0,15)],[]),(9,false,[(0,3),(4,5),(10,3),(3,1),(9,1),(13,2)],[3,9,13])]
def o272:OT:=[(2,false,[(0,27)],[24])]
def o274:OT:=[(4,false,[(1,3),(0,1),(4,7)],[0,8,9])]
def o306:OT:=[(6,false,[(0,2),(3,2),(2,1),(5,3)],[2,5,6])]
section
variable {P:Program}{ro:Option Nat}{n:Nat}{ops:Array Oper}{N:Nat}{S0:Sig}{Q:DX->St->Prop}{df:List DDf}{rest:List Oper}{γ Sr:List (Nat×D)}{V:Sig}{t:Nat}{ty:TypeId}{pos:String}{after:Array Edge}{l:List (Bool×Oper)}{d:D}{e:Bool}
theorem Nz{P:Program}{fop:Operand}{args:Array Operand}{ats:Array TypeId}{f:Nat}{first cap us bs:fE}(hl:A8 γ (Ad (fop::args.toList))=some Sr)(hf:ev Sr fop=.func (.func f) first cap)(ha:first++args.toList.map (ev Sr)++cap=us)(hb:bs=us\/bs=us.map D.plain)
  (h:∀S',Sub S0 S'->au P f bs S' fun x S''=>x=.ret d/\Sub S' S'') (d6:decide (t<n)=true) (k:MO P ro n ops N S0 Q df l ((t,d)::γ) V) :
  MO P ro n ops N S0 Q df ((e,⟨some t,(cv fop args ats),ty,pos,after,none⟩)::l) γ V:=by
 have hx:∀x∈fop::args.toList,ev Sr x=ev γ x:=fun x hx=>Co fun t ht=>B7 hl t (Bw (by rw[<-ht];exact hx))
 have e8:∀x∈((cv fop args ats)).operands,ev (only (Oper.looksAt ops ⟨some t,(cv fop args ats),ty,pos,after,none⟩) γ) x=ev γ x:=fun x hx=>Cj (o:=⟨some t,(cv fop args ats),ty,pos,after,none⟩) hx
 refine Qb d d6 rfl (by rw[B8];rfl) (fun S' fR ro' df'=>?_) k
 refine Gr (first:=first) (cap:=cap) (f:=f) ?_ ?_ (h S' fR) ?_ d6 ?_ ?_
 ·show AT ops (only _ γ) _=some true
  rw[B8];rfl
 ·rw[e8 fop (by simp[Op.operands,Call.operands]),<-hx fop (by simp)];exact hf
 ·simp only
  rw[show args.toList.map (ev (only (Oper.looksAt ops ⟨some t,(cv fop args ats),ty,pos,after,none⟩) γ))=args.toList.map (ev Sr) from bT fun x hm=>by
   rw[e8 x (by simp at hm;simp[Op.operands,Call.operands,hm]),<-hx x (by simp[hm])],ha]
  rcases hb with rfl|rfl
  ·exact Eh _
  ·exact FC _
 ·rintro d' S'' ⟨h1,h2⟩
  cases h1
  exact AP ⟨rfl,by simp[putD,Aa],h2⟩
 ·rintro d' S'' ⟨h1,h2⟩
  cases h1
theorem moQR{fop:Operand}{args:Array Operand}{ats:Array TypeId}{f:Nat}{first cap us:fE}{H:Prop}(k1:MO prog ro n ops N S0 Q df l ((t,d)::γ) V)(hl:A8 γ (Ad (fop::args.toList))=some Sr:=by rfl)(hf:ev Sr fop=.func (.func f) first cap:=by rfl)(ha:first++args.toList.map (ev Sr)++cap=us:=by(simp(disch:=first|omega|assumption) [Ar,big1,big2,w8]<;>(try simp only[Bq,Br,B1,Bp,AF,B4,B3,B2,B0,AE,AZ,AY,AX])<;>with_unfolding_all rfl))(hs:∀S',Ans f us S' H d:=by intro S';infer_instance)(hH:H:=by(and_intros<;>first|trivial|assumption|omega|(simp;done)|(simp;omega)))(d6:decide (t<n)=true:=by exact tdR):MO prog ro n ops N S0 Q df ((e,⟨some t,(cv fop args ats),ty,pos,after,none⟩)::l) γ V:=Nz hl hf ha (.inl rfl) (fun S' _=>by have h:=(hs S').call hH;exact h.mono fun x S'' hx=>⟨hx.1,hx.2 ▸ Sub.refl _⟩) d6 k1
theorem WE{fop:Operand}{args:Array Operand}{ats:Array TypeId}{f:Nat}{first cap us bs:fE}(h:∀S',Sub S0 S'->au prog f bs S' fun x S''=>x=.ret d/\Sub S' S'')(k1:MO prog ro n ops N S0 Q df l ((t,d)::γ) V)(hl:A8 γ (Ad (fop::args.toList))=some Sr:=by rfl)(hf:ev Sr fop=.func (.func f) first cap:=by rfl)(ha:first++args.toList.map (ev Sr)++cap=us:=by(simp(disch:=first|omega|assumption) [Ar,big1,big2,w8]<;>(try simp only[Bq,Br,B1,Bp,AF,B4,B3,B2,B0,AE,AZ,AY,AX])<;>with_unfolding_all rfl))(hp:bs=us:=by exact tdR)(d6:decide (t<n)=true:=by exact tdR):MO prog ro n ops N S0 Q df ((e,⟨some t,(cv fop args ats),ty,pos,after,none⟩)::l) γ V:=Nz hl hf ha (.inl hp) h d6 k1
theorem mixA{lo:List Oper}{id:Nat}(ord E:fG){lp:List (Bool×Oper)}(h:MO2 prog ro n lo.toArray 334 V Q df tab lp γ V)(hB:I5 lo.toArray E ord=true:=by kernel_rfl)(hA:SJ tab n lo.toArray=true:=by exact tdR)(hl:GT lo E ord=some lp:=by exact tdR):DWp prog ro n (.region id lo.toArray true) Q ⟨γ,V,df⟩:=
 Xy Af An mixed ord E V hB hA (Sub.refl _) hl h
end
section
variable {ro:Option Nat}{n:Nat}{ops:Array Oper}{N:Nat}{S0:Sig}{Q:DX->St->Prop}{df:List DDf}{γ Sr:List (Nat×D)}{V:Sig}{t:Nat}{ty:TypeId}{pos:String}{after:Array Edge}{e1 u1:Bool}{l:List (Bool×Bool×Oper)}
theorem mixU{lo:List Oper}{id:Nat}(ord E U:fG){lp:List (Bool×Bool×Oper)}(h:MO3 prog ro n lo.toArray 334 V Q df tab lp γ V)(hB:I4 lo.toArray E U ord=true:=by kernel_rfl)(hA:SJ tab n lo.toArray=true:=by exact tdR)(hl:Td lo E U ord=some lp:=by exact tdR):DWp prog ro n (.region id lo.toArray true) Q ⟨γ,V,df⟩:=
 Xv Af An mixed ord E U V hB hA (Sub.refl _) hl h
theorem u3R(d:D){op:Op}(h:MO3 prog ro n ops N S0 Q df tab l ((t,d)::γ) V)(hr:EE op=true:=by rfl)(d6:decide (t<n)=true:=by exact tdR)(hl:A8 γ (Ad op.operands.toList)=some Sr:=by exact tdR)(hd:dopX tab Sr S0 op=some d:=by first|with_unfolding_all rfl|(simp;done)|(simp;rfl)):MO3 prog ro n ops N S0 Q df tab ((e1,u1,⟨some t,op,ty,pos,after,none⟩)::l) γ V:=
 WH Af hr d6 hl hd h
theorem u3A(z:fE){T:Nat}(h:∀k,V k=none->MO3 prog ro n ops N S0 Q df tab l ((t,.ptr k 0)::γ) (V.set k (.cells z)))(hz:(tab T).zero=z:=by(simp<;>rfl)):MO3 prog ro n ops N S0 Q df tab ((e1,u1,⟨some t,.alloc T,ty,pos,after,none⟩)::l) γ V:=by
 subst hz;exact TC h
theorem u3N(sz m:Nat){s x:Operand}{T T' e e':Nat}{new:fH}(h:∀i,V i=none->MO3 prog ro n ops N S0 Q df tab l ((t,.slice new (.tag i))::γ) (V.set i (.tail sz m)))(hl:A8 γ (Ad [s,x])=some Sr:=by exact tdR)(hk:(tab T).k=.slice e:=by(simp<;>rfl))(e7:(tab T').k=.slice e':=by(simp<;>rfl))(he:A6 (tab e).k=false:=by simp)
  (h1:ev Sr s=.ak:=by exact tdR) (h2:esOf (ev Sr x)=some new:=by(simp<;>with_unfolding_all rfl)) (hlen:∀c∈new,c.length=(tab e).size:=by first|exact BY _|exact Dj _|exact BR _|simp)
  (hb:new.length*(tab e).bytes<=140737488355328:=by first|(simp;done)|(simp;omega)) (hm:new.length<=9223372036854775807:=by first|(simp;done)|(simp;omega)) (d6:decide (t<n)=true:=by exact tdR) (hz:(tab e).size=sz:=by(simp<;>rfl)) (hn:new.length=m:=by simp) :
  MO3 prog ro n ops N S0 Q df tab ((e1,true,⟨some t,(cA s x T T'),ty,pos,after,none⟩)::l) γ V:=by
 subst hz hn
 refine mo3_u rfl (.inl ⟨fun i=>.slice new (.tag i),.tail (tab e).size new.length,fun τ=>⟨d6,rfl,?_⟩,h⟩)
 obtain⟨k1,k2⟩:=Ii (T:=T) (T':=T') hl fun _ hx=>Cj (ops:=ops) (o:=⟨some t,(cA s x T T'),ty,pos,after,none⟩) hx
 exact De Af rfl (by simpa using d6) hk e7 he (by rw[k1];exact h1) (by rw[k2];exact h2) hlen hb hm (fun i hi=>AP ⟨rfl,i,hi,by simp[Aa],rfl⟩)
theorem u3E(i:Nat){y x:DObj}{d:D}{op:Op}(hj:V i=some y)(h0:S0 i=none)(h:MO3 prog ro n ops N S0 Q df tab l ((t,d)::γ) (V.set i x))(hl:A8 γ (Ad op.operands.toList)=some Sr:=by exact tdR)
  (he:∀τ:Sig,τ i=some y->eopD tab Sr τ op=some (d,τ.set i x):=by(intro τ hO;simp(disch:=first|omega|assumption) [Ar,big1,big2,hO]<;>first|rfl|(and_intros<;>rfl)|omega)) (hn:isAl ⟨some t,op,ty,pos,after,none⟩=none:=by rfl) (d6:decide (t<n)=true:=by exact tdR):MO3 prog ro n ops N S0 Q df tab ((e1,true,⟨some t,op,ty,pos,after,none⟩)::l) γ V:=by
 refine mo3_u hn (.inr ⟨i,y,x,d,hj,h0,fun τ hO=>⟨d6,rfl,?_⟩,h⟩)
 refine Fl Af rfl (by rw[Bz (U':=γ) fun x hx=>Cj (o:=⟨some t,op,ty,pos,after,none⟩) hx,<-Bz (Cy hl)];exact he τ hO) d6 (AP ⟨rfl,by simp[Aa,putD],rfl⟩)
theorem u3M(h:MO prog ro n ops N S0 Q df (l.map fun p=>(p.1,p.2.2)) γ V)(hl:(l.all fun p=> !(isAl p.2.2).isSome)=true:=by rfl):MO3 prog ro n ops N S0 Q df tab l γ V:=JC hl h
end
section
variable {ro:Option Nat}{n:Nat}{ops:Array Oper}{N:Nat}{S0:Sig}{Q:DX->St->Prop}{df:List DDf}{γ Sr:List (Nat×D)}{V:Sig}{t:Nat}{ty:TypeId}{pos:String}{after:Array Edge}{e1 c1 k1:Bool}{l:List (Bool×Bool×Bool×Oper)}
theorem mixK{lo:List Oper}{id:Nat}(ord E C K:fG)(S0:Sig)(hC:Sub S0 V){lp:List (Bool×Bool×Bool×Oper)}(h:MO4 prog ro n lo.toArray 334 Q df lp S0 γ V)(hB:I3 lo.toArray E C K ord=true:=by kernel_rfl)(hl:Te lo E C K ord=some lp:=by exact tdR):DWp prog ro n (.region id lo.toArray true) Q ⟨γ,V,df⟩:=
 Xx An mixed ord E C K S0 hB hC hl h
theorem k4R(d:D){op:Op}(h:MO4 prog ro n ops N Q df l S0 ((t,d)::γ) V)(hr:EE op=true:=by rfl)(d6:decide (t<n)=true:=by exact tdR)(hl:A8 γ (Ad op.operands.toList)=some Sr:=by exact tdR)(hd:dopX tab Sr (if c1=true then S0 else fun _=>none) op=some d:=by first|with_unfolding_all rfl|(simp;done)|(simp;rfl)):MO4 prog ro n ops N Q df ((e1,c1,k1,⟨some t,op,ty,pos,after,none⟩)::l) S0 γ V:=
 WG Af hr d6 hl hd h
theorem k4E(S1:Sig){op:Op}{d:D}{S':Sig}(hC:Sub S1 S')(h:MO4 prog ro n ops N Q df l S1 ((t,d)::γ) S')(hl:A8 γ (Ad op.operands.toList)=some Sr:=by exact tdR)(he:eopD tab Sr V op=some (d,S'))(hk:k1=false->S1=S0:=by first|(intro;rfl)|exact fun h=>absurd h (by decide))(d6:decide (t<n)=true:=by exact tdR):MO4 prog ro n ops N Q df ((true,c1,k1,⟨some t,op,ty,pos,after,none⟩)::l) S0 γ V:=
 TB (o:=⟨some t,op,ty,pos,after,none⟩) Af S1 d6 rfl ((Bz (Cy hl)) ▸ he) hC hk h
theorem k4S(S1:Sig){op:Op}{d:D}{S':Sig}(hC:Sub S1 S')(h:MO4 prog ro n ops N Q df l S1 γ S')(hl:A8 γ (Ad op.operands.toList)=some Sr:=by exact tdR)(he:eopD tab Sr V op=some (d,S'))(hk:k1=false->S1=S0:=by first|(intro;rfl)|exact fun h=>absurd h (by decide)):MO4 prog ro n ops N Q df ((true,c1,k1,⟨none,op,ty,pos,after,none⟩)::l) S0 γ V:=
 TB (o:=⟨none,op,ty,pos,after,none⟩) Af S1 rfl rfl ((Bz (Cy hl)) ▸ he) hC hk h
theorem k4N{Q':DX->St->Prop}(h:Q' .normal ⟨γ,V,df⟩):MO4 prog ro n ops N Q' df [] S0 γ V:=AP h
end
end Go.DL
