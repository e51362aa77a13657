/- A part of the proof. -/
import Derived.Test.YtlfimpogphmbdaaGreatH11
set_option linter.all false
namespace Go.DL
open Go.Proofs.Tryz
open Go Go.Proofs
def hitD(tab:Nat->Ty)(e:Nat)(c:Bool):Option (Option (Nat×D))->Option D
 |some (some (_,d))=>some (if c then .tup [d,.bool true] else d)
 |some none=>match HD (tab e)with
  |some z=>some (if c then .tup [z,.bool false] else z)
  |none=>none
 |none=>none
@[simp high] theorem lookupD_h {tab:Nat->Ty} {V:Sig} {c:Bool} {T e:Nat} {x d:D}:Hr tab V c (.map T e) x d=if A5 (tab e).k || !Bx (tab T).k d then none else match CQ V x with
  |some l=>hitD tab e c (Du (tab T).k d l 0)
  |none=>none:=by
 rw[V9]
 by_cases hc:(A5 (tab e).k||!Bx (tab T).k d)=true
 ·rw[aS hc,aS hc]
 ·rw[aQ hc,aQ hc];cases CQ V x with
  |none=>rfl
  | some l =>
   cases h:Du (tab T).k d l 0 with
   |none=>simp only[h];rfl
   |some r=>cases r with
    |none=>simp only[h];rfl
    |some p=>simp only[h];rfl
@[simp] theorem hitD_some(tab:Nat->Ty)(e i:Nat)(c:Bool)(d:D):hitD tab e c (some (some (i,d)))=some (if c then .tup [d,.bool true] else d):=rfl
def ins{α:Type}[DecidableEq α](k:α)(s:List α):List α:=if k∈s then s else s++[k]
def Et{α:Type}[DecidableEq α]{k x:α}{s:List α}:x∈ins k s ↔ x=k\/x∈s:=by
 unfold ins
 by_cases h:k∈s
 ·rw[aS h];exact⟨.inr,fun h'=>h'.elim (fun e=>e ▸ h) id⟩
 ·rw[aQ h];simp[or_comm]
def getM{α β:Type}[DecidableEq α](z:β)(k:α):List (α×β)->β
 |[]=>z
 |(k',v)::r=>if k=k' then v else getM z k r
def hasM{α β:Type}[DecidableEq α](k:α):List (α×β)->Bool
 |[]=>false
 |(k',_)::r=>decide (k=k')||hasM k r
def putM{α β:Type}[DecidableEq α](k:α)(v:β):List (α×β)->List (α×β)
 |[]=>[(k,v)]
 |(k',v')::r=>if k=k' then(k,v)::r else(k',v')::putM k v r
def Ck{α β:Type}[DecidableEq α](z:β)(k x:α)(v:β): ∀m:List (α×β),getM z x (putM k v m)=if x=k then v else getM z x m
 |[]=>by simp[putM,getM]
 | (k',v')::r=>by
  by_cases h:k=k'
  ·subst h;rw[putM,aS rfl,getM];by_cases hx:x=k<;>simp[hx,getM]
  ·rw[putM,aQ h,getM,Ck z k x v r]
   by_cases hx:x=k'
   ·rw[aS hx,aQ (fun e=>h (e.symm.trans hx)),getM,aS hx]
   ·rw[aQ hx,getM,aQ hx]
def Ry{α β:Type}[DecidableEq α](k x:α)(v:β): ∀m:List (α×β),hasM x (putM k v m)=(decide (x=k)||hasM x m)
 |[]=>by simp[putM,hasM]
 | (k',v')::r=>by
  by_cases h:k=k'
  ·subst h;rw[putM,aS rfl,hasM,hasM];cases decide (x=k)<;>simp
  ·rw[putM,aQ h,hasM,Ry k x v r,hasM];cases decide (x=k')<;>cases decide (x=k)<;>simp
section
def eM{α β:Type}(kf:α->D)(f:β->D)(m:List (α×β)):List (D×D):=m.map fun p=>(kf p.1,f p.2)
def eS{α:Type}(kf:α->D)(s:List α):List (D×D):=s.map fun k=>(kf k,.bool true)
structure KeyOK{α:Type}[DecidableEq α](kt:TyK)(kf:α->D):Prop where
 key:∀a b:α,keyB kt (kf a) (kf b)=some (decide (a=b))
def keyI:KeyOK (.int .i64) dI:=⟨fun a b=>by simp[keyB,EX]⟩
def keyS:KeyOK .str D.str:=⟨fun a b=>by simp[keyB,EX]⟩
variable {α β:Type}[DecidableEq α]{kt:TyK}{kf:α->D}(hk:KeyOK kt kf)
include hk
theorem Qx(k:α): ∀(s:List α) (i:Nat),(k∈s->∃j,Du kt (kf k) (eS kf s) i=some (some (i+j,.bool true))/\s[j]? = some k)/\(k∉s->Du kt (kf k) (eS kf s) i=some none)
 |[],i=>by simp[eS,Du]
 | x::s,i=>by
  obtain⟨h1,h2⟩:=Qx k s (i+1);simp only[eS]at h1 h2;simp only[eS,bg,Du,hk.key]
  by_cases h:k=x
  ·subst h;simp only[eJ];exact⟨fun _=>⟨0,rfl,rfl⟩,fun h=>absurd k7 h⟩
  ·have e:decide (k=x)=false:=by simp[h]
   simp only[e];refine⟨fun hm=>?_,fun hm=>h2 fun d9=>hm (by simp[d9])⟩;obtain⟨j,a,b⟩:=h1 ((be.1 hm).resolve_left h);exact⟨j+1,by rw[a];congr 3;omega,by simpa using b⟩
theorem ZU{tab:Nat->Ty}{e:Nat}(hz:HD (tab e)=some (.bool false))(k:α)(s:List α):hitD tab e false (Du kt (kf k) (eS kf s) 0)=some (.bool (decide (k∈s))):=by
 obtain⟨h1,h2⟩:=Qx hk k s 0
 by_cases h:k∈s
 ·obtain⟨j,a,_⟩:=h1 h;rw[a];simp[h]
 ·rw[h2 h];simp only[hitD,hz,bz,bl,h,decide_false]
theorem ZL(k:α)(s:List α):CE kt (kf k) (.bool true) (eS kf s)=some (eS kf (ins k s)):=by
 obtain⟨h1,h2⟩:=Qx hk k s 0;unfold CE ins
 by_cases h:k∈s
 ·obtain⟨j,a,b⟩:=h1 h;rw[a,aS h];simp only[bZ,bJ];apply ek;intro i;rw[dJ]
  by_cases hi:j=i
  ·subst hi;have fY:j<s.length:=(bC.1 b).1;have hb:s[j]=k:=by rw[aT fY]at b;exact Option.some.inj b
   simp[eS,fY,hb]
  ·rw[aQ hi]
 ·rw[h2 h,aQ h];simp[eS]
theorem KI(f:β->D)(k:α): ∀(m:List (α×β)) (i:Nat),(hasM k m=true->∃j v,Du kt (kf k) (eM kf f m) i=some (some (i+j,f v))/\(∀z,getM z k m=v) /\ ∀w,(eM kf f m).set j (kf k,f w)=eM kf f (putM k w m)) /\
  (hasM k m=false->Du kt (kf k) (eM kf f m) i=some none/\(∀z,getM z k m=z) /\ ∀w,eM kf f m++[(kf k,f w)]=eM kf f (putM k w m))
 |[],i=>by simp[eM,Du,hasM,getM,putM]
 | (x,y)::m,i=>by
  obtain⟨h1,h2⟩:=KI f k m (i+1);simp only[eM]at h1 h2;simp only[eM,bg,Du,hk.key,hasM]
  by_cases h:k=x
  ·subst h;simp only[eJ,Bool.true_or];refine⟨fun _=>⟨0,y,rfl,fun z=>by simp[getM],fun w=>by simp[putM]⟩,fun h=>by cases h⟩
  ·have e:decide (k=x)=false:=by simp[h]
   simp only[e,dD];refine⟨fun hm=>?_,fun hm=>?_⟩
   ·obtain⟨j,v,a,b,c⟩:=h1 hm;refine⟨j+1,v,by rw[a];congr 3;omega,fun z=>by rw[getM,aQ h];exact b z,fun w=>?_⟩;rw[putM,aQ h,bg,eF,c w]
   ·obtain⟨a,b,c⟩:=h2 hm;refine⟨a,fun z=>by rw[getM,aQ h];exact b z,fun w=>?_⟩;rw[putM,aQ h,bg,bE,c w]
theorem hit_eM{tab:Nat->Ty}{e:Nat}{z:β}{zd:D}(f:β->D)(hz:HD (tab e)=some zd)(k:α)(m:List (α×β)):hitD tab e false (Du kt (kf k) (eM kf f m) 0)=some (if hasM k m then f (getM z k m) else zd):=by
 obtain⟨h1,h2⟩:=KI hk f k m 0;cases h:hasM k m with
 |true=>obtain⟨j,v,a,b,_⟩:=h1 h;rw[a,b z];simp
 |false=>obtain⟨a,b,_⟩:=h2 h;rw[a];simp only[hitD,hz,bz,bl]
theorem hit_eM'{tab:Nat->Ty}{e:Nat}{z:β}(f:β->D)(hz:HD (tab e)=some (f z))(k:α)(m:List (α×β)):hitD tab e false (Du kt (kf k) (eM kf f m) 0)=some (f (getM z k m)):=by
 obtain⟨h1,h2⟩:=KI hk f k m 0;cases h:hasM k m with
 |true=>obtain⟨j,v,a,b,_⟩:=h1 h;rw[a,b z];simp
 |false=>obtain⟨a,b,_⟩:=h2 h;rw[a,b z];simp only[hitD,hz,bz,bl,bI]
theorem Nt{tab:Nat->Ty}{e:Nat}{z:β}(f:β->D)(hz:HD (tab e)=some (f z))(k:α)(m:List (α×β)):hitD tab e true (Du kt (kf k) (eM kf f m) 0)=some (.tup [f (getM z k m),.bool (hasM k m)]):=by
 obtain⟨h1,h2⟩:=KI hk f k m 0;cases h:hasM k m with
 |true=>obtain⟨j,v,a,b,_⟩:=h1 h;rw[a,b z];simp
 |false=>obtain⟨a,b,_⟩:=h2 h;rw[a,b z];simp only[hitD,hz,bz,bl,bI]
theorem Rf(f:β->D)(k:α)(v:β)(m:List (α×β)):CE kt (kf k) (f v) (eM kf f m)=some (eM kf f (putM k v m)):=by
 obtain⟨h1,h2⟩:=KI hk f k m 0;unfold CE;cases h:hasM k m with
 |true=>obtain⟨j,w,a,_,c⟩:=h1 h;rw[a];simp only[bZ];rw[c v]
 |false=>obtain⟨a,_,c⟩:=h2 h;rw[a];simp only;rw[c v]
end
def eSI(s:fR):List (D×D):=eS dI s
def eSS(s:fP):List (D×D):=eS D.str s
def eSN(m:List (Str×Int)):List (D×D):=eM D.str dI m
def eIN(m:List (Int×Int)):List (D×D):=eM dI dI m
@[simp] theorem hitI4(k:Int)(s:fR):hitD tab 4 false (Du (.int .i64) (.int .i64 k) (eSI s) 0)=some (.bool (decide (k∈s))):=ZU keyI rfl k s
@[simp] theorem hitS4(k:Str)(s:fP):hitD tab 4 false (Du .str (.str k) (eSS s) 0)=some (.bool (decide (k∈s))):=(ZU (tab:=tab) (e:=4) keyS rfl k s).trans (cf (fun b=>some (D.bool b)) (cJ.2 Iff.rfl))
@[simp] theorem putI4(k:Int)(s:fR):CE (.int .i64) (.int .i64 k) (.bool true) (eSI s)=some (eSI (ins k s)):=ZL keyI k s
@[simp] theorem putS4(k:Str)(s:fP):CE .str (.str k) (.bool true) (eSS s)=some (eSS (ins k s)):=ZL keyS k s
@[simp] theorem hitSN(k:Str)(m:List (Str×Int)):hitD tab 3 false (Du .str (.str k) (eSN m) 0)=some (.int .i64 (getM 0 k m)):=hit_eM' keyS dI rfl k m
@[simp] theorem hitSNok(k:Str)(m:List (Str×Int)):hitD tab 3 true (Du .str (.str k) (eSN m) 0)=some (.tup [.int .i64 (getM 0 k m),.bool (hasM k m)]):=Nt keyS dI rfl k m
@[simp] theorem putSN(k:Str)(v:Int)(m:List (Str×Int)):CE .str (.str k) (.int .i64 v) (eSN m)=some (eSN (putM k v m)):=Rf keyS dI k v m
@[simp] theorem hitINok(k:Int)(m:List (Int×Int)):hitD tab 3 true (Du (.int .i64) (.int .i64 k) (eIN m) 0)=some (.tup [.int .i64 (getM 0 k m),.bool (hasM k m)]):=Nt keyI dI rfl k m
@[simp] theorem putIN(k v:Int)(m:List (Int×Int)):CE (.int .i64) (.int .i64 k) (.int .i64 v) (eIN m)=some (eIN (putM k v m)):=Rf keyI dI k v m
def eIO(m:List (Int×fR)):List (D×D):=eM dI (fun l=>sl (cI l)) m
@[simp] theorem putIO(k:Int)(v:fR)(m:List (Int×fR)):CE (.int .i64) (.int .i64 k) (sl (cI v)) (eIO m)=some (eIO (putM k v m)):=Rf keyI (fun l=>sl (cI l)) k v m
def hitIO(k:Int)(m:List (Int×fR)):hitD tab 23 false (Du (.int .i64) (.int .i64 k) (eIO m) 0)=some (if hasM k m then sl (cI (getM [] k m)) else .av):=hit_eM keyI _ rfl k m
section
variable {P:Program}{ro:Option Nat}{n:Nat}{Q:DX->St->Prop}{df:List DDf}{γ:List (Nat×D)}{V:Sig}
theorem T5{Sk:Fr}{α β δ ε:Type}{c:Code}(keep:fU)(I:α->β->δ->ε->Prop)(ov:α->β->δ->ε->Fr)(sg:α->β->δ->ε->Sig)(μ:α->β->δ->ε->Nat)(x0:α)(y0:β)(z0:δ)(u0:ε)(h0:I x0 y0 z0 u0)
  (round:∀x y z u,I x y z u->DWp P ro n c (lW (fun s'=> ∃x' y' z' u',I x' y' z' u'/\μ x' y' z' u'<μ x y z u/\Wk P n s' ⟨ov x' y' z' u'++Sk,sg x' y' z' u',df⟩) Q) ⟨ov x y z u++Sk,sg x y z u,df⟩) (hk:Eu γ keep=some Sk:=by exact tdR) (h1:kr γ (ov x0 y0 z0 u0++Sk):=by(first|refine HN ?_ ?_|skip)<;>(repeat' first|exact HM|refine GF tdR ?_ ?_|(first|exact A9 _|exact AO _ _|exact An _ (.inl rfl)|exact EO _|(refine JQ _ ?_;first|omega|(simp;done)|(simp;omega))|(refine B9 ?_;(simp;done))|(refine B9 ?_;(simp[cI,cS,cII,EM,Cp,Cl];done))|(refine CY _ ?_;(simp[cI,cS,cII];done))|(refine B9 ?_;(simp_all;done))|assumption))) (h2:Sub (sg x0 y0 z0 u0) V:=by first|exact Sub.refl _|(refine BG ?_;simp;done)|assumption|exact(Sub.refl _).set (by assumption)):DWp P ro n (.loop c) Q ⟨γ,V,df⟩:=by
 refine GB (α:=α×β×δ×ε) keep (fun x=>I x.1 x.2.1 x.2.2.1 x.2.2.2) (fun x=>ov x.1 x.2.1 x.2.2.1 x.2.2.2) (fun x=>sg x.1 x.2.1 x.2.2.1 x.2.2.2) (fun x=>μ x.1 x.2.1 x.2.2.1 x.2.2.2) (x0,y0,z0,u0) hk h0 h1 h2 fun x hx=>FL (round x.1 x.2.1 x.2.2.1 x.2.2.2 hx) ?_;intro e s h;cases e with
 |normal=>obtain⟨x',y',z',u',h3,h4,h5⟩:=h;exact⟨(x',y',z',u'),h3,h4,h5⟩
 |_=>exact h
theorem Yy{Sk:Fr}{α β δ ε ζ:Type}{c:Code}(keep:fU)(I:α->β->δ->ε->ζ->Prop)(ov:α->β->δ->ε->ζ->Fr)(sg:α->β->δ->ε->ζ->Sig)(μ:α->β->δ->ε->ζ->Nat)(x0:α)(y0:β)(z0:δ)(u0:ε)(v0:ζ)(h0:I x0 y0 z0 u0 v0)
  (round:∀x y z u v,I x y z u v->DWp P ro n c (lW (fun s'=> ∃x' y' z' u' v',I x' y' z' u' v'/\μ x' y' z' u' v'<μ x y z u v/\Wk P n s' ⟨ov x' y' z' u' v'++Sk,sg x' y' z' u' v',df⟩) Q) ⟨ov x y z u v++Sk,sg x y z u v,df⟩) (hk:Eu γ keep=some Sk:=by exact tdR) (h1:kr γ (ov x0 y0 z0 u0 v0++Sk):=by(first|refine HN ?_ ?_|skip)<;>(repeat' first|exact HM|refine GF tdR ?_ ?_|(first|exact A9 _|exact AO _ _|exact An _ (.inl rfl)|exact EO _|(refine JQ _ ?_;first|omega|(simp;done)|(simp;omega))|(refine B9 ?_;(simp;done))|(refine B9 ?_;(simp[cI,cS,cII,EM,Cp,Cl];done))|(refine CY _ ?_;(simp[cI,cS,cII];done))|(refine B9 ?_;(simp_all;done))|assumption))) (h2:Sub (sg x0 y0 z0 u0 v0) V:=by first|exact Sub.refl _|(refine BG ?_;simp;done)|assumption|exact(Sub.refl _).set (by assumption)):DWp P ro n (.loop c) Q ⟨γ,V,df⟩:=by
 refine GB (α:=α×β×δ×ε×ζ) keep (fun x=>I x.1 x.2.1 x.2.2.1 x.2.2.2.1 x.2.2.2.2) (fun x=>ov x.1 x.2.1 x.2.2.1 x.2.2.2.1 x.2.2.2.2) (fun x=>sg x.1 x.2.1 x.2.2.1 x.2.2.2.1 x.2.2.2.2) (fun x=>μ x.1 x.2.1 x.2.2.1 x.2.2.2.1 x.2.2.2.2) (x0,y0,z0,u0,v0) hk h0 h1 h2 fun x hx=>FL (round x.1 x.2.1 x.2.2.1 x.2.2.2.1 x.2.2.2.2 hx) ?_;intro e s h;cases e with
 |normal=>obtain⟨x',y',z',u',v',h3,h4,h5⟩:=h;exact⟨(x',y',z',u',v'),h3,h4,h5⟩
 |_=>exact h
variable {ops:Array Oper}{rest:List Oper}{Sr:List (Nat×D)}{t:Nat}{ty:TypeId}{pos:String}{after:Array Edge}
theorem newSI{T:Nat}(h:∀i,V i=none->aC prog ro n ops Q rest ⟨(t,.map i)::γ,V.set i (.map (eSI [])),df⟩)(d6:decide (t<n)=true:=by exact tdR):aC prog ro n ops Q (⟨some t,.makeMap T none,ty,pos,after,none⟩::rest) ⟨γ,V,df⟩:=newM h d6
theorem Ng{T:Nat}(h:∀i,V i=none->aC prog ro n ops Q rest ⟨(t,.map i)::γ,V.set i (.map (eSS [])),df⟩)(d6:decide (t<n)=true:=by exact tdR):aC prog ro n ops Q (⟨some t,.makeMap T none,ty,pos,after,none⟩::rest) ⟨γ,V,df⟩:=newM h d6
theorem UN{T:Nat}(h:∀i,V i=none->aC prog ro n ops Q rest ⟨(t,.map i)::γ,V.set i (.map (eSN [])),df⟩)(d6:decide (t<n)=true:=by exact tdR):aC prog ro n ops Q (⟨some t,.makeMap T none,ty,pos,after,none⟩::rest) ⟨γ,V,df⟩:=newM h d6
theorem newIN{T:Nat}(h:∀i,V i=none->aC prog ro n ops Q rest ⟨(t,.map i)::γ,V.set i (.map (eIN [])),df⟩)(d6:decide (t<n)=true:=by exact tdR):aC prog ro n ops Q (⟨some t,.makeMap T none,ty,pos,after,none⟩::rest) ⟨γ,V,df⟩:=newM h d6
theorem newIO{T:Nat}(h:∀i,V i=none->aC prog ro n ops Q rest ⟨(t,.map i)::γ,V.set i (.map (eIO [])),df⟩)(d6:decide (t<n)=true:=by exact tdR):aC prog ro n ops Q (⟨some t,.makeMap T none,ty,pos,after,none⟩::rest) ⟨γ,V,df⟩:=newM h d6
theorem lkO{x y:Operand}{i:Nat}{k:Int}{m:List (Int×fR)}(h:aC prog ro n ops Q rest ⟨(t,sl (cI (getM [] k m)))::γ,V,df⟩)(hi:V i=some (.map (eIO m)):=by first|assumption|(simp;done))
  (hl:A7 γ (Ac [x,y])=some Sr:=by exact tdR) (hx:ev Sr x=.map i:=by exact tdR) (hy:ev Sr y=dI k:=by exact tdR) (d6:decide (t<n)=true:=by exact tdR) :
  aC prog ro n ops Q (⟨some t,.lookup 183 x y false,ty,pos,after,none⟩::rest) ⟨γ,V,df⟩:=by
 refine HP (d:=if hasM k m then sl (cI (getM [] k m)) else .av) Ag rfl d6 hl ?_ ?_
 ·simp only[dopX_lk,hx,hy];simp[hi,hitIO]
 ·refine Cd (C9 (t:=t) (d:=sl (cI (getM [] k m))) ?_) (Dj (γ:=(t,sl (cI (getM [] k m)))::γ) (fun j=>?_) h)
  ·rw [Aa,aS rfl];cases hh:hasM k m with
   |true=>exact A9 _
   | false =>
    have:getM [] k m=[]:=by
     have key:∀m:List (Int×fR),hasM k m=false->getM [] k m=[]:=fun m=>by
      induction m with
      |nil=>intro _;rfl
      |cons p m ih=>
       intro h;simp only[hasM,dZ,bk]at h;rw[getM,aQ h.1];exact ih h.2
     exact key m hh
    rw[this];exact An _ (.inl rfl)
  ·simp only[Aa];split<;>rfl
end
def mS_at{V:Sig}{i sz:Nat}{X:kM}{st:MR}{es:fV}(h:mOK (V.set i X) sz st es):(∀Y,mOK (V.set i Y) sz st es)/\(∀Y,mS (V.set i Y) st es i=some Y) /\ ∀Y Z,(mS (V.set i Y) st es).set i Z=mS (V.set i Z) st es:=by
 cases st with
 |none=>exact⟨fun Y=>h,fun Y=>w7 .., fun Y Z=>w9 ..⟩
 |some x=>
  obtain⟨k,cap,r⟩:=x;obtain⟨h1,h2,h3,h4⟩:=h;have d8:k≠i:=fun e=>by rw[e,w7]at h1;cases h1
  rw[w8 _ _ d8]at h1;refine⟨fun Y=>⟨k8 d8 h1,h2,h3,h4⟩,fun Y=>?_,fun Y Z=>?_⟩
  ·simp only[mS];rw[w8 _ _ (aZ d8),w7]
  ·simp only[mS];rw[Sig.set_comm _ _ _ (aZ d8),w9];exact Sig.set_comm _ _ _ d8 |>.symm ▸ rfl
def XE(a b:fR):cI a++cI b=cI (a++b):=by simp[cI]
section
variable {ro:Option Nat}{n:Nat}{Q:DX->St->Prop}{df:List DDf}{γ Sr:List (Nat×D)}{V:Sig}{ops:Array Oper}{rest:List Oper}{t:Nat}{ty:TypeId}{pos:String}{after:Array Edge}
theorem mappI{T T' e e':Nat}{s x:Operand}{l m:fR}{st:MR}(h:∀st',mOK V 1 st' (cI (l++m))->aC prog ro n ops Q rest ⟨(t,mD st' (l++m).length)::γ,mS V st' (cI (l++m)),df⟩)(hm:mOK V 1 st (cI l):=by assumption)
  (hl:A7 γ (Ac [s,x])=some Sr:=by exact tdR) (hk:(tab T).k=.slice e:=by(simp<;>rfl)) (e7:(tab T').k=.slice e':=by(simp<;>rfl)) (he:A5 (tab e).k=false:=by simp) (f8:(tab e).size=1:=by simp)
  (h1:ev Sr s=mD st l.length:=by exact tdR) (h2:kz (ev Sr x)=some (cI m):=by(simp<;>with_unfolding_all rfl))
  (hb:(l.length+m.length)*(tab e).bytes<=140737488355328:=by first|(simp;done)|(simp;omega)) (gc:l.length+m.length<=9223372036854775807:=by omega) (d6:decide (t<n)=true:=by exact tdR) :
  aC prog ro n ops Q (⟨some t,(cA s x T T'),ty,pos,after,none⟩::rest) ⟨γ,mS V st (cI l),df⟩:=by
 refine mapp (fun st' d9=>?_) hm hl hk e7 he f8 (by rw[h1,Jf]) h2 (C5 _) (by simp[cI,Dq,D.flat]) (by simpa using hb) ?_ d6
 ·rw[XE]at d9⊢;rw[Jf,Jf,<-aO];exact h st' d9
 ·simpa using gc
end
structure ShlOf(k:IntKind)(a b:Int) where
 val:Int
 is:val=k.wrap (a*2 ^ (min b.toNat k.bits))
def shlI(k:IntKind)(a b:Int):ShlOf k a b:=⟨_,rfl⟩
def SF(k k':IntKind)(a b:Int)(h:0<=b):binD .shl (.int k a) (.int k' b)=some (.int k (shlI k a b).val):=by
 rw[(shlI k a b).is];simp only[binD,h,bI]
class Ans(f:Nat)(us:fQ)(V:Sig)(H:outParam Prop)(d:outParam D):Prop where
 call:H->aB prog f us V (rS d V)
class Giv(f:Nat)(us:fQ)(V:Sig)(H:outParam Prop)(c:outParam Bool)(d u:outParam D):Prop where
 call:H->aB prog f us V fun x U'=>x=(if c then .ret d else .panic u)/\U'=V
theorem ah0{f:Nat}{us:fQ}{V:Sig}{d:D}(h:aB prog f us V (rS d V)):Ans f us V (True) d:=⟨fun _=>h⟩
theorem ah1{f:Nat}{us:fQ}{V:Sig}{d:D}{p:Prop}(h:p->aB prog f us V (rS d V)):Ans f us V (p) d:=⟨fun p=>h p⟩
theorem ah2{f:Nat}{us:fQ}{V:Sig}{d:D}{p q:Prop}(h:p->q->aB prog f us V (rS d V)):Ans f us V (p/\q) d:=⟨fun ⟨p,q⟩=>h p q⟩
theorem ah3{f:Nat}{us:fQ}{V:Sig}{d:D}{p q r:Prop}(h:p->q->r->aB prog f us V (rS d V)):Ans f us V (p/\q/\r) d:=⟨fun ⟨p,q,r⟩=>h p q r⟩
theorem ah4{f:Nat}{us:fQ}{V:Sig}{d:D}{p q r s:Prop}(h:p->q->r->s->aB prog f us V (rS d V)):Ans f us V (p/\q/\r/\s) d:=⟨fun ⟨p,q,r,s⟩=>h p q r s⟩
theorem gh0{f:Nat}{us:fQ}{V:Sig}{c:Bool}{d u:D}(h:aB prog f us V fun x U'=>x=(if c then .ret d else .panic u)/\U'=V):Giv f us V (True) c d u:=⟨fun _=>h⟩
theorem gh1{f:Nat}{us:fQ}{V:Sig}{c:Bool}{d u:D}{p:Prop}(h:p->aB prog f us V fun x U'=>x=(if c then .ret d else .panic u)/\U'=V):Giv f us V (p) c d u:=⟨fun p=>h p⟩
theorem gh2{f:Nat}{us:fQ}{V:Sig}{c:Bool}{d u:D}{p q:Prop}(h:p->q->aB prog f us V fun x U'=>x=(if c then .ret d else .panic u)/\U'=V):Giv f us V (p/\q) c d u:=⟨fun ⟨p,q⟩=>h p q⟩
class lU(b:Bool)(p q:outParam Prop):Prop where
 yes:b=true->p
 no:b=false->q
instance (priority:=low) boolIs (b:Bool):lU b (b=true) (b=false):=⟨id,id⟩
instance (priority:=high) boolIs_t:lU true True False:=⟨fun _=>trivial,(fun h=>by cases h)⟩
instance (priority:=high) boolIs_f:lU false False True:=⟨(fun h=>by cases h),fun _=>trivial⟩
instance boolIs_dec(p:Prop)[inst:Decidable p]:lU (decide p) p (¬p):=⟨bx,of_decide_eq_false⟩
instance boolIs_not(b:Bool)(p q:Prop)[h:lU b p q]:lU (!b) q p:=⟨fun e=>h.no (by cases b<;>simp_all),fun e=>h.yes (by cases b<;>simp_all)⟩
instance boolIs_and(a b:Bool)(p q p' q':Prop)[h:lU a p q][k:lU b p' q']:lU (a&&b) (p/\p') (q\/q'):=⟨fun e=>by cases a<;>cases b<;>simp_all;exact⟨h.yes rfl,k.yes rfl⟩,fun e=>by cases a with|false=>exact .inl (h.no rfl)|true=>exact .inr (k.no (by simpa using e))⟩
inductive lz(b:Bool):Prop
 |mk
structure Two(A B:Prop):Prop where
 a:A
 b:B
class T2(p q A B:Prop)(C:outParam Prop):Prop where
 to:C->(p->A)/\(q->B)
instance (priority:=low) t2_two (p q A B:Prop):T2 p q A B (Two (p->A) (q->B)):=⟨fun h=>⟨h.a,h.b⟩⟩
instance (priority:=high) t2_a (A B:Prop):T2 True False A B A:=⟨fun h=>⟨fun _=>h,False.elim⟩⟩
instance (priority:=high) t2_b (A B:Prop):T2 False True A B B:=⟨fun h=>⟨False.elim,fun _=>h⟩⟩
def sd{p:Prop}(h:p:=by first|assumption|omega|simp):p:=h
def tdH{p:Prop}(h:p:=by(and_intros<;>first|trivial|assumption|omega|(simp;done)|(simp;omega))):p:=h
def tdP{p:Prop}(h:p:=by(try simp only[bg,cq,D.plain]);with_unfolding_all rfl):p:=h
def tdS{F p:Prop}(fx:Hold F)(h:Hold F->p:=by intro fx;simp(disch:=first|omega|assumption) [Aq,big1,big2,w8,DW,CM,DV,CL,DY,DU,CH,C0,CG,BZ,CI,CF,Gr,fx.get]<;>(try simp only[BA,BB,B5,Bz,AM,B8,B7,B6,B4,AL,B3,B2,B1])<;>first|rfl|(and_intros<;>rfl)):p:=h fx
def tdE{F p:Prop}(fx:Hold F)(h:Hold F->p:=by intro fx;simp(disch:=first|omega|assumption) [Aq,big1,big2,w8,DW,CM,DV,CL,DY,DU,CH,C0,CG,BZ,CI,CF,Gr,fx.get]<;>first|rfl|(and_intros<;>rfl)):p:=h fx
def tdC{F p:Prop}(fx:Hold F)(h:Hold F->p:=by intro fx;simp(disch:=first|omega|assumption) [Aq,big1,big2,w8,DW,CM,DV,CL,DY,DU,CH,C0,CG,BZ,CI,CF,Gr,fx.get]<;>fail):p:=h fx
def tdF{p:Prop}(h:p:=by simp<;>(try simp only[BA,BB,B5,Bz,AM,B8,B7,B6,B4,AL,B3,B2,B1])<;>rfl):p:=h
def litT:lz true:=.mk
def litF:lz false:=.mk
section
variable {P:Program}{ro:Option Nat}{n:Nat}{ops:Array Oper}{N:Nat}{S0:Sig}{Q:DX->St->Prop}{df:List DDf}{rest:List Oper}{γ Sr:List (Nat×D)}{V:Sig}{t:Nat}{ty:TypeId}{pos:String}{after:Array Edge}{l:List (Bool×Oper)}{d:D}
theorem ZY{fop:Operand}{args:Array Operand}{ats:Array TypeId}{f:Nat}{first cap us:fQ}{H:Prop}(k1:aC prog ro n ops Q rest ⟨(t,d)::γ,V,df⟩)(hl:A7 γ (Ac (fop::args.toList))=some Sr:=by exact tdR)(hf:ev Sr fop=.func (.func f) first cap:=by exact tdR)(ha:first++args.toList.map (ev Sr)++cap=us:=by exact td0)(hs:Ans f us V H d:=by infer_instance)(hH:H:=by exact tdH)(d6:decide (t<n)=true:=by exact tdR):aC prog ro n ops Q (⟨some t,(cv fop args ats),ty,pos,after,none⟩::rest) ⟨γ,V,df⟩:=IF hl hf ha (.inl rfl) (hs.call hH) d6 k1
theorem XB{fop:Operand}{args:Array Operand}{ats:Array TypeId}{f:Nat}{first cap us:fQ}{j:Nat}{want:Bool}{k:Nat}{H:Prop}(k1:aC prog ro n ops Q rest ⟨(t,d)::γ,V,df⟩)(hk:(ops[j]?).bind (·.dst)=some k:=by exact tdR)(hb:γ.lookup k=some (.bool want):=by exact tdR)(hl:A7 γ (Ac (fop::args.toList))=some Sr:=by exact tdR)(hf:ev Sr fop=.func (.func f) first cap:=by exact tdR)(ha:first++args.toList.map (ev Sr)++cap=us:=by exact td0)(hs:Ans f us V H d:=by infer_instance)(hH:H:=by exact tdH)(d6:decide (t<n)=true:=by exact tdR):aC prog ro n ops Q (⟨some t,(cv fop args ats),ty,pos,after,some (j,want)⟩::rest) ⟨γ,V,df⟩:=Hk hk hb hl hf ha (.inl rfl) (hs.call hH) d6 k1
theorem moIR{fop:Operand}{args:Array Operand}{ats:Array TypeId}{f:Nat}{first cap us:fQ}{H:Prop}{l:List (Bool×Oper)}(k1:MO prog ro n ops N S0 Q df l ((t,d)::γ) V)(hl:A7 γ (Ac (fop::args.toList))=some Sr:=by exact tdR)(hf:ev Sr fop=.func (.func f) first cap:=by exact tdR)(ha:first++args.toList.map (ev Sr)++cap=us:=by exact td0)(hs:Ans f us V H d:=by infer_instance)(hH:H:=by exact tdH)(hC:Sub S0 V:=by first|exact Sub.refl _|assumption)(d6:decide (t<n)=true:=by exact tdR):MO prog ro n ops N S0 Q df ((true,⟨some t,(cv fop args ats),ty,pos,after,none⟩)::l) γ V:=Ro hl hf ha (.inl rfl) (hs.call hH) d6 hC k1
theorem moIRG{fop:Operand}{args:Array Operand}{ats:Array TypeId}{f:Nat}{first cap us:fQ}{j:Nat}{want:Bool}{k:Nat}{H:Prop}{l:List (Bool×Oper)}(k1:MO prog ro n ops N S0 Q df l ((t,d)::γ) V)(hk:(ops[j]?).bind (·.dst)=some k:=by exact tdR)(hb:γ.lookup k=some (.bool want):=by exact tdR)(hl:A7 γ (Ac (fop::args.toList))=some Sr:=by exact tdR)(hf:ev Sr fop=.func (.func f) first cap:=by exact tdR)(ha:first++args.toList.map (ev Sr)++cap=us:=by exact td0)(hs:Ans f us V H d:=by infer_instance)(hH:H:=by exact tdH)(hC:Sub S0 V:=by first|exact Sub.refl _|assumption)(d6:decide (t<n)=true:=by exact tdR):MO prog ro n ops N S0 Q df ((true,⟨some t,(cv fop args ats),ty,pos,after,some (j,want)⟩)::l) γ V:=UY hk hb hl hf ha (.inl rfl) (hs.call hH) d6 hC k1
theorem needIR{fop:Operand}{args:Array Operand}{ats:Array TypeId}{f:Nat}{first cap us:fQ}{H p q:Prop}{b b':Bool}{u d:D}{dst:Option Tmp}{C:Prop}(kc:C)(hl:A7 γ (Ac (fop::args.toList))=some Sr:=by exact tdR)(hf:ev Sr fop=.func (.func f) first cap:=by exact tdR)(ha:first++args.toList.map (ev Sr)++cap=us:=by exact td0)(hs:Giv f us V H b d u:=by infer_instance)(he:b=b':=by first|assumption|exact rfl)(d7:lU b' p q:=by infer_instance)(hz:T2 p q (aC prog ro n ops Q rest ⟨putD dst d γ,V,df⟩) (Q (.panic u) ⟨γ,V,df⟩) C:=by infer_instance)(hH:H:=by exact tdH)(ho:AJ n ⟨dst,(cv fop args ats),ty,pos,after,none⟩=true:=by exact tdR):aC prog ro n ops Q (⟨dst,(cv fop args ats),ty,pos,after,none⟩::rest) ⟨γ,V,df⟩:=needR (hs.call hH) (fun h=>(hz.to kc).1 (d7.yes (he.symm.trans h))) (fun h=>(hz.to kc).2 (d7.no (he.symm.trans h))) (hl:=hl) (hf:=hf) (ha:=ha) (hp:=rfl) (ho:=ho)
theorem Ys{fop:Operand}{args:Array Operand}{ats:Array TypeId}{f:Nat}{first cap us:fQ}{H p q:Prop}{b b':Bool}{u d:D}{dst:Option Tmp}{l:List (Bool×Oper)}{C:Prop}(kc:C)(hl:A7 γ (Ac (fop::args.toList))=some Sr:=by exact tdR)(hf:ev Sr fop=.func (.func f) first cap:=by exact tdR)(ha:first++args.toList.map (ev Sr)++cap=us:=by exact td0)(hs:Giv f us V H b d u:=by infer_instance)(he:b=b':=by first|assumption|exact rfl)(d7:lU b' p q:=by infer_instance)(hz:T2 p q (MO prog ro n ops N S0 Q df l (putD dst d γ) V) (∀V',Q (.panic u) ⟨V',V,df⟩) C:=by infer_instance)(hH:H:=by exact tdH)(hC:Sub S0 V:=by first|exact Sub.refl _|assumption)(ho:AJ n ⟨dst,(cv fop args ats),ty,pos,after,none⟩=true:=by exact tdR):MO prog ro n ops N S0 Q df ((true,⟨dst,(cv fop args ats),ty,pos,after,none⟩)::l) γ V:=moNeedR (hs.call hH) (fun h=>(hz.to kc).1 (d7.yes (he.symm.trans h))) (fun h=>(hz.to kc).2 (d7.no (he.symm.trans h))) (hl:=hl) (hf:=hf) (ha:=ha) (hp:=rfl) (hC:=hC) (ho:=ho)
theorem ZZ{fop:Operand}{args:Array Operand}{ats:Array TypeId}{f:Nat}{first cap us bs:fQ}{H:Prop}(k1:aC prog ro n ops Q rest ⟨(t,d)::γ,V,df⟩)(hl:A7 γ (Ac (fop::args.toList))=some Sr:=by exact tdR)(hf:ev Sr fop=.func (.func f) first cap:=by exact tdR)(ha:first++args.toList.map (ev Sr)++cap=us:=by exact td0)(hp:us.map D.plain=bs:=by exact tdP)(hs:Ans f bs V H d:=by infer_instance)(hH:H:=by exact tdH)(d6:decide (t<n)=true:=by exact tdR):aC prog ro n ops Q (⟨some t,(cv fop args ats),ty,pos,after,none⟩::rest) ⟨γ,V,df⟩:=IF hl hf ha (.inr hp.symm) (hs.call hH) d6 k1
theorem XC{fop:Operand}{args:Array Operand}{ats:Array TypeId}{f:Nat}{first cap us bs:fQ}{j:Nat}{want:Bool}{k:Nat}{H:Prop}(k1:aC prog ro n ops Q rest ⟨(t,d)::γ,V,df⟩)(hk:(ops[j]?).bind (·.dst)=some k:=by exact tdR)(hb:γ.lookup k=some (.bool want):=by exact tdR)(hl:A7 γ (Ac (fop::args.toList))=some Sr:=by exact tdR)(hf:ev Sr fop=.func (.func f) first cap:=by exact tdR)(ha:first++args.toList.map (ev Sr)++cap=us:=by exact td0)(hp:us.map D.plain=bs:=by exact tdP)(hs:Ans f bs V H d:=by infer_instance)(hH:H:=by exact tdH)(d6:decide (t<n)=true:=by exact tdR):aC prog ro n ops Q (⟨some t,(cv fop args ats),ty,pos,after,some (j,want)⟩::rest) ⟨γ,V,df⟩:=Hk hk hb hl hf ha (.inr hp.symm) (hs.call hH) d6 k1
theorem cndX{c:Nat}{x y:Code}{b:Bool}{p q C:Prop}(kc:C)(hl:γ.lookup c=some (.bool b):=by exact tdR)(fX:lz b:=by((fail_if_success (with_reducible exact litT));(fail_if_success (with_reducible exact litF));exact lz.mk))(d7:lU b p q:=by infer_instance)(hz:T2 p q (DWp P ro n x Q ⟨(c,.bool true)::γ,V,df⟩) (DWp P ro n y Q ⟨(c,.bool false)::γ,V,df⟩) C:=by infer_instance):DWp P ro n (.cond (.tmp c) x y) Q ⟨γ,V,df⟩:=cndB (fun h=>(hz.to kc).1 (d7.yes h)) (fun h=>(hz.to kc).2 (d7.no h)) hl
theorem splX{dst:Option Tmp}{op:Op}{j:Nat}{want:Bool}{k:Nat}{b:Bool}{p q C:Prop}(kc:C)(hk:(ops[j]?).bind (·.dst)=some k:=by exact tdR)(hb:γ.lookup k=some (.bool b):=by exact tdR)(fX:lz b:=by((fail_if_success (with_reducible exact litT));(fail_if_success (with_reducible exact litF));exact lz.mk))(d7:lU b p q:=by infer_instance)(hz:T2 p q (aC P ro n ops Q (⟨dst,op,ty,pos,after,some (j,want)⟩::rest) ⟨(k,.bool true)::γ,V,df⟩) (aC P ro n ops Q (⟨dst,op,ty,pos,after,some (j,want)⟩::rest) ⟨(k,.bool false)::γ,V,df⟩) C:=by infer_instance):aC P ro n ops Q (⟨dst,op,ty,pos,after,some (j,want)⟩::rest) ⟨γ,V,df⟩:=ST hk hb (fun h=>(hz.to kc).1 (d7.yes h)) (fun h=>(hz.to kc).2 (d7.no h))
theorem moSX{e:Bool}{l:List (Bool×Oper)}{dst:Option Tmp}{op:Op}{j:Nat}{want:Bool}{k:Nat}{b:Bool}{p q C:Prop}(kc:C)(hk:(ops[j]?).bind (·.dst)=some k:=by exact tdR)(hb:γ.lookup k=some (.bool b):=by exact tdR)(fX:lz b:=by((fail_if_success (with_reducible exact litT));(fail_if_success (with_reducible exact litF));exact lz.mk))(d7:lU b p q:=by infer_instance)(hz:T2 p q (MO P ro n ops N S0 Q df ((e,⟨dst,op,ty,pos,after,some (j,want)⟩)::l) ((k,.bool true)::γ) V) (MO P ro n ops N S0 Q df ((e,⟨dst,op,ty,pos,after,some (j,want)⟩)::l) ((k,.bool false)::γ) V) C:=by infer_instance):MO P ro n ops N S0 Q df ((e,⟨dst,op,ty,pos,after,some (j,want)⟩)::l) γ V:=Yq hk hb (fun h=>(hz.to kc).1 (d7.yes h)) (fun h=>(hz.to kc).2 (d7.no h))
end
abbrev OT:=List (Nat×Bool×List (Nat×Nat)×fU)
def runO:List (Nat×Nat)->fU
 |[]=>[]
 |(a,k)::r=>List.range' a k++runO r
def lookO(i:Nat):OT->Option (fU×fU)
 |[]=>none
 |(j,_,o,e)::r=>if i==j then some (runO o,e) else lookO i r
def ZQ(i:Nat):OT->Option (fU×fU)
 |[]=>none
 |(j,b,o,e)::r=>if i==j&&b then some ((runO o).dropLast,e.filter fun x=>x+1 != (runO o).length) else ZQ i r
structure Tab(t:OT):Prop
def kX(i:Nat)(t:OT):OT:=t.filter fun x=>x.1 != i
section
variable {P:Program}{ro:Option Nat}{n:Nat}{Q:DX->St->Prop}{df:List DDf}{γ:List (Nat×D)}{V:Sig}
theorem mixX{lo:List Oper}{id:Nat}{tb:OT}(_:Tab tb){ord E:fU}{lp:List (Bool×Oper)}(h:MO prog ro n lo.toArray 334 V Q df lp γ V)(hk:lookO id tb=some (ord,E):=by exact tdR)(hB:FZ lo.toArray E ord=true:=by kernel_rfl)(hl:Hn lo E ord=some lp:=by exact tdR):DWp prog ro n (.region id lo.toArray true) Q ⟨γ,V,df⟩:=mix ord E h hB hl
theorem mixY{lo:List Oper}{id:Nat}{tb:OT}(_:Tab tb){ord E:fU}{lp:List (Bool×Oper)}{ol:Oper}(h:MO prog ro n lo.toArray 334 V (lW (fun s=>aC prog ro n lo.toArray Q [ol] s) Q) df lp γ V)(hk:ZQ id tb=some (ord,E):=by exact tdR)(hB:Km lo.toArray E ord=true:=by kernel_rfl)(ga:nthO lo (lo.length-1)=some ol:=by exact tdR)(hl:Hn lo E ord=some lp:=by exact tdR):DWp prog ro n (.region id lo.toArray true) Q ⟨γ,V,df⟩:=mixL ord E h hB ga hl
end
def walkQ{F G' G:Prop}{tb:OT}{vars:fU} (hs:lr vars->Hold F->Tab tb->Hold G'->G:=by
 intro hv fx tb hG
 repeat1' (first
  |(with_reducible first|refine Hj ?_|refine K0 ?_|refine N0 ?_|refine Iz ?_|refine IR ?_|refine Np ?_|refine Vh (by decide) ?_|refine Qv ?_|refine Ky ?_|refine KV ?_|refine KW ?_|refine NL ?_|refine NM ?_|refine QD ?_|refine AU ?_|refine Il ?_|refine UV ?_)
  |((with_reducible refine HP (d:=?_) (Sr:=?_) Ag ?h1 ?h2 ?hl ?hd ?_);(case h1=>rfl);(case h2=>rfl);(case hl=>rfl);(case hd=>exact tdS fx))
  |((with_reducible refine IB (d:=?_) (k:=?_) (Sr:=?_) Ag ?h1 ?h2 ?hk ?hb ?hl ?hd ?_);(case h1=>rfl);(case h2=>rfl);(case hk=>rfl);(case hb=>rfl);(case hl=>rfl);(case hd=>exact tdS fx))
  |((with_reducible refine step_read0 (d:=?_) (Sr:=?_) Ag ?h1 ?hl ?hd ?_);(case h1=>rfl);(case hl=>rfl);(case hd=>exact tdS fx))
  |((with_reducible refine Qo (d:=?_) (Sr:=?_) Ag ?h1 ?h2 ?hl ?hd ?_);(case h1=>rfl);(case h2=>rfl);(case hl=>rfl);(case hd=>exact tdS fx))
  |((with_reducible refine Nj (d:=?_) (k:=?_) (Sr:=?_) Ag ?h1 ?h2 ?hk ?hb ?hl ?hd ?_);(case h1=>rfl);(case h2=>rfl);(case hk=>rfl);(case hb=>rfl);(case hl=>rfl);(case hd=>exact tdS fx))
  |((with_reducible refine mo_read0 (d:=?_) (Sr:=?_) Ag ?h1 ?hl ?hd ?_);(case h1=>rfl);(case hl=>rfl);(case hd=>exact tdS fx))
  |((with_reducible refine K1 (k:=?_) Ap ?hk ?hb ?h1 ?h2 ?_);(case hk=>rfl);(case hb=>rfl);(case h1=>rfl);(case h2=>rfl))
  |((with_reducible refine IA (k:=?_) Ap ?hk ?hb ?h1 ?h2 ?_);(case hk=>rfl);(case hb=>rfl);(case h1=>rfl);(case h2=>rfl))
  |((with_reducible refine step_skip0 (k:=?_) Ap ?hk ?hb ?h1 ?_);(case hk=>rfl);(case hb=>rfl);(case h1=>rfl))
  |((with_reducible refine step_skipU0 (k:=?_) Ap ?hk ?hb ?h1 ?_);(case hk=>rfl);(case hb=>rfl);(case h1=>rfl))
  |((with_reducible refine Ni (k:=?_) ?hk ?hb ?h1 ?h2 ?_);(case hk=>rfl);(case hb=>rfl);(case h1=>rfl);(case h2=>rfl))
  |((with_reducible refine Nh (k:=?_) ?hk ?hb ?h1 ?h2 ?_);(case hk=>rfl);(case hb=>rfl);(case h1=>rfl);(case h2=>rfl))
  |((with_reducible refine mo_skip0 (k:=?_) ?hk ?hb ?h1 ?_);(case hk=>rfl);(case hb=>rfl);(case h1=>rfl))
  |((with_reducible refine mo_skipU0 (k:=?_) ?hk ?hb ?h1 ?_);(case hk=>rfl);(case hb=>rfl);(case h1=>rfl))
  |((with_reducible refine N2 (d:=?_) (U':=?_) (Sr:=?_) Ag ?hl ?he ?h1 ?_);(case hl=>rfl);(case he=>exact tdE fx);(case h1=>rfl))
  |((with_reducible refine K3 (d:=?_) (U':=?_) (Sr:=?_) Ag ?hl ?he ?_);(case hl=>rfl);(case he=>exact tdE fx))
  |((with_reducible refine Qq (d:=?_) (U':=?_) (Sr:=?_) Ag ?hl ?he ?h1 ?hC ?_);(case hl=>rfl);(case he=>exact tdE fx);(case h1=>rfl);(case hC=>first|exact Sub.refl _|assumption|exact(Sub.refl _).set (by assumption)))
  |((with_reducible refine Kj (d:=?_) (U':=?_) (Sr:=?_) Ag ?hl ?he ?hC ?_);(case hl=>rfl);(case he=>exact tdE fx);(case hC=>first|exact Sub.refl _|assumption|exact(Sub.refl _).set (by assumption)))
  |((with_reducible refine step_neqS (r:=?_) (Sr:=?_) (xs:=?_) (ys:=?_) (fs:=?_) Ag ?hE ?h1 ?hl ?hx ?hy ?hk ?hd ?_);(case hE=>with_reducible first|exact Mr|exact eqTy150);(case h1=>rfl);(case hl=>rfl);(case hx=>rfl);(case hy=>rfl);(case hk=>simp<;>rfl);(case hd=>exact tdE fx))
  |((with_reducible refine Qp (r:=?_) (Sr:=?_) (xs:=?_) (ys:=?_) (fs:=?_) Ag ?hE ?h1 ?hl ?hx ?hy ?hk ?hd ?_);(case hE=>with_reducible first|exact Mr|exact eqTy150);(case h1=>rfl);(case hl=>rfl);(case hx=>rfl);(case hy=>rfl);(case hk=>simp<;>rfl);(case hd=>exact tdE fx))
  |((with_reducible refine ID (Sr:=?_) ?hl ?hc ?_);(case hl=>rfl);(case hc=>exact tdC fx))
  |((with_reducible refine IE (Sr:=?_) ?hl ?hc ?_);(case hl=>rfl);(case hc=>exact tdC fx))
  |((with_reducible refine K2 (d:=?_) (cs:=?_) (Sr:=?_) hv Ag ?h1 ?h2 ?h3 ?h4 ?h5 ?hl ?he ?h6 ?h7 ?h8 ?h9 ?_);(case h1=>rfl);(case h2=>rfl);(case h3=>rfl);(case h4=>rfl);(case h5=>simp);(case hl=>rfl);(case he=>exact tdF);(case h6=>rfl);(case h7=>exact tdF);(case h8=>simp);(case h9=>simp))
  |((with_reducible refine IC (d:=?_) (d2:=?_) (cs:=?_) (Sr:=?_) (Sr2:=?_) hv Ag ?h1 ?h2 ?h3 ?h4 ?h5 ?g1 ?g2 ?g3 ?g4 ?gl ?ge ?hl ?he ?h6 ?h7 ?h8 ?h9 ?_);(case h1=>rfl);(case h2=>rfl);(case h3=>rfl);(case h4=>rfl);(case h5=>rfl);(case g1=>rfl);(case g2=>rfl);(case g3=>rfl);(case g4=>simp);(case gl=>rfl);(case ge=>exact tdF);(case hl=>rfl);(case he=>exact tdF);(case h6=>rfl);(case h7=>exact tdF);(case h8=>simp);(case h9=>simp))
  |with_reducible refine ZY ?_
  |with_reducible refine XB ?_
  |with_reducible refine moIR ?_
  |with_reducible refine moIRG ?_
  |with_reducible refine ZZ ?_
  |with_reducible refine XC ?_
  |with_reducible refine moIP ?_
  |with_reducible refine moIPG ?_
  |with_reducible refine nilE ?_
  |with_reducible refine nilN ?_
  |with_reducible refine boolE ?_
  |with_reducible refine boolN ?_
  |with_reducible refine PE ?_
  |with_reducible refine PF ?_
  |with_reducible refine mixY tb ?_
  |with_reducible refine mixX tb ?_
  |with_reducible refine needIR ?_
  |with_reducible refine needIP ?_
  |with_reducible refine Ys ?_
  |with_reducible refine moNeedIP ?_
  |with_reducible refine cndX ?_
  |with_reducible refine splX ?_
  |with_reducible refine moSX ?_)
 exact hG.get):lr vars->Hold F->Tab tb->Hold G'->G:=hs
def gf{F G' G:Prop}(fx:F)(h:G')(tb:OT:=[])(vars:fU:=[])(hs:lr vars->Hold F->Tab tb->Hold G'->G:=by exact walkQ):G:=hs ⟨⟩ ⟨fx⟩ ⟨⟩ ⟨h⟩
def gz{G' G:Prop}(h:G')(tb:OT:=[])(vars:fU:=[])(hs:lr vars->Hold True->Tab tb->Hold G'->G:=by exact walkQ):G:=hs ⟨⟩ ⟨trivial⟩ ⟨⟩ ⟨h⟩
def gi{a b:Prop}(x:a)(y:b):a/\b:=⟨x,y⟩
def en {f m : Nat} {fn : Func} {c : Code} {args : fQ} {V : Sig} {R : DE -> Sig -> Prop} (hf : prog.funcs[f]? = some fn) (hm : fn.ntmps = m) (h : DWp prog none m c (Fp prog m fn R) { γ := Dc 0 args, V }) (hb : fn.body = some c := by exact rfl) (gb : (fn.name == "runtime.NumGoroutine") = false := by decide) (hn : args.length <= m := by simp) : aB prog f args V R := NP hf hb gb hm hn h
def gy{A B:Prop}(a:A)(b:B):Two A B:=⟨a,b⟩
def tdV{F p:Prop} (h:Hold F->p:=by
 intro fx
 have hF:=fx.get
 clear fx
 first|rfl|(simp[hF];done)|(simp_all;done)|(rw[A4,aW];simp_all<;>omega)):Hold F->p:=h
section
variable {P:Program}{n:Nat}{γ:List (Nat×D)}{V:Sig}
theorem fe1{F:Prop}{fn:Func}{v:DE}{U':Sig}{t:Nat}{d d':D}(fx:F)(hZ:Sub U' V:=by exact tdU)(hr:fn.results=#[.tmp t]:=by exact tdR)(hl:γ.lookup t=some d:=by exact tdR)(hw:WkD d d':=by exact tdW)(hq:Hold F->DE.ret d'=v:=by first|exact tdV|fail):Fp P n fn (fun x τ=>x=v/\τ=U') .ret ⟨γ,V,[]⟩:=kE ⟨hq ⟨fx⟩,rfl⟩ hZ hr hl hw
theorem fe0{F:Prop}{fn:Func}{v:DE}{U':Sig}(fx:F)(hZ:Sub U' V:=by exact tdU)(hr:fn.results=#[]:=by exact tdR)(hq:Hold F->DE.ret (.tup [])=v:=by first|exact tdV|fail):Fp P n fn (fun x τ=>x=v/\τ=U') .ret ⟨γ,V,[]⟩:=fin0 ⟨hq ⟨fx⟩,rfl⟩ hZ hr
theorem fe2{F:Prop}{fn:Func}{v:DE}{U':Sig}{t u:Nat}{d d' e e':D}(fx:F)(hZ:Sub U' V:=by exact tdU)(hr:fn.results=#[.tmp t,.tmp u]:=by exact tdR)(hl:γ.lookup t=some d:=by exact tdR)(gg:γ.lookup u=some e:=by exact tdR)(f0:decide (u=t)=false:=by exact tdR)(hw:WkD d d':=by exact tdW)(fZ:WkD e e':=by exact tdW)(hq:Hold F->DE.ret (.tup [d',e'])=v:=by first|exact tdV|fail):Fp P n fn (fun x τ=>x=v/\τ=U') .ret ⟨γ,V,[]⟩:=fin2 ⟨hq ⟨fx⟩,rfl⟩ hZ hr hl gg f0 hw fZ
end
def td1{p:Prop}(h:p:=by first|omega|(simp;omega)):p:=h
def td2{p:Prop}(h:p:=by first|omega|(simp_all;done)|(simp_all;omega)):p:=h
def td3{p:Prop}(h:p:=by first|omega|simp):p:=h
def goX1{F G' G:Prop}(fx:F)(h:G') (hs:lr []->Hold F->Hold G'->G:=by
 intro hv fx hG
 (first
  |(with_reducible first|refine Hj ?_|refine K0 ?_|refine N0 ?_|refine Iz ?_|refine IR ?_|refine Np ?_|refine Vh (by decide) ?_|refine Qv ?_|refine Ky ?_|refine KV ?_|refine KW ?_|refine NL ?_|refine NM ?_|refine QD ?_|refine AU ?_|refine Il ?_|refine UV ?_)
  |((with_reducible refine HP (d:=?_) (Sr:=?_) Ag ?h1 ?h2 ?hl ?hd ?_);(case h1=>rfl);(case h2=>rfl);(case hl=>rfl);(case hd=>exact tdS fx))
  |((with_reducible refine IB (d:=?_) (k:=?_) (Sr:=?_) Ag ?h1 ?h2 ?hk ?hb ?hl ?hd ?_);(case h1=>rfl);(case h2=>rfl);(case hk=>rfl);(case hb=>rfl);(case hl=>rfl);(case hd=>exact tdS fx))
  |((with_reducible refine step_read0 (d:=?_) (Sr:=?_) Ag ?h1 ?hl ?hd ?_);(case h1=>rfl);(case hl=>rfl);(case hd=>exact tdS fx))
  |((with_reducible refine Qo (d:=?_) (Sr:=?_) Ag ?h1 ?h2 ?hl ?hd ?_);(case h1=>rfl);(case h2=>rfl);(case hl=>rfl);(case hd=>exact tdS fx))
  |((with_reducible refine Nj (d:=?_) (k:=?_) (Sr:=?_) Ag ?h1 ?h2 ?hk ?hb ?hl ?hd ?_);(case h1=>rfl);(case h2=>rfl);(case hk=>rfl);(case hb=>rfl);(case hl=>rfl);(case hd=>exact tdS fx))
  |((with_reducible refine mo_read0 (d:=?_) (Sr:=?_) Ag ?h1 ?hl ?hd ?_);(case h1=>rfl);(case hl=>rfl);(case hd=>exact tdS fx))
  |((with_reducible refine K1 (k:=?_) Ap ?hk ?hb ?h1 ?h2 ?_);(case hk=>rfl);(case hb=>rfl);(case h1=>rfl);(case h2=>rfl))
  |((with_reducible refine IA (k:=?_) Ap ?hk ?hb ?h1 ?h2 ?_);(case hk=>rfl);(case hb=>rfl);(case h1=>rfl);(case h2=>rfl))
  |((with_reducible refine step_skip0 (k:=?_) Ap ?hk ?hb ?h1 ?_);(case hk=>rfl);(case hb=>rfl);(case h1=>rfl))
  |((with_reducible refine step_skipU0 (k:=?_) Ap ?hk ?hb ?h1 ?_);(case hk=>rfl);(case hb=>rfl);(case h1=>rfl))
  |((with_reducible refine Ni (k:=?_) ?hk ?hb ?h1 ?h2 ?_);(case hk=>rfl);(case hb=>rfl);(case h1=>rfl);(case h2=>rfl))
  |((with_reducible refine Nh (k:=?_) ?hk ?hb ?h1 ?h2 ?_);(case hk=>rfl);(case hb=>rfl);(case h1=>rfl);(case h2=>rfl))
  |((with_reducible refine mo_skip0 (k:=?_) ?hk ?hb ?h1 ?_);(case hk=>rfl);(case hb=>rfl);(case h1=>rfl))
  |((with_reducible refine mo_skipU0 (k:=?_) ?hk ?hb ?h1 ?_);(case hk=>rfl);(case hb=>rfl);(case h1=>rfl))
  |((with_reducible refine N2 (d:=?_) (U':=?_) (Sr:=?_) Ag ?hl ?he ?h1 ?_);(case hl=>rfl);(case he=>exact tdE fx);(case h1=>rfl))
  |((with_reducible refine K3 (d:=?_) (U':=?_) (Sr:=?_) Ag ?hl ?he ?_);(case hl=>rfl);(case he=>exact tdE fx))
  |((with_reducible refine Qq (d:=?_) (U':=?_) (Sr:=?_) Ag ?hl ?he ?h1 ?hC ?_);(case hl=>rfl);(case he=>exact tdE fx);(case h1=>rfl);(case hC=>first|exact Sub.refl _|assumption|exact(Sub.refl _).set (by assumption)))
  |((with_reducible refine Kj (d:=?_) (U':=?_) (Sr:=?_) Ag ?hl ?he ?hC ?_);(case hl=>rfl);(case he=>exact tdE fx);(case hC=>first|exact Sub.refl _|assumption|exact(Sub.refl _).set (by assumption)))
  |((with_reducible refine step_neqS (r:=?_) (Sr:=?_) (xs:=?_) (ys:=?_) (fs:=?_) Ag ?hE ?h1 ?hl ?hx ?hy ?hk ?hd ?_);(case hE=>with_reducible first|exact Mr|exact eqTy150);(case h1=>rfl);(case hl=>rfl);(case hx=>rfl);(case hy=>rfl);(case hk=>simp<;>rfl);(case hd=>exact tdE fx))
  |((with_reducible refine Qp (r:=?_) (Sr:=?_) (xs:=?_) (ys:=?_) (fs:=?_) Ag ?hE ?h1 ?hl ?hx ?hy ?hk ?hd ?_);(case hE=>with_reducible first|exact Mr|exact eqTy150);(case h1=>rfl);(case hl=>rfl);(case hx=>rfl);(case hy=>rfl);(case hk=>simp<;>rfl);(case hd=>exact tdE fx))
  |((with_reducible refine ID (Sr:=?_) ?hl ?hc ?_);(case hl=>rfl);(case hc=>exact tdC fx))
  |((with_reducible refine IE (Sr:=?_) ?hl ?hc ?_);(case hl=>rfl);(case hc=>exact tdC fx))
  |((with_reducible refine K2 (d:=?_) (cs:=?_) (Sr:=?_) hv Ag ?h1 ?h2 ?h3 ?h4 ?h5 ?hl ?he ?h6 ?h7 ?h8 ?h9 ?_);(case h1=>rfl);(case h2=>rfl);(case h3=>rfl);(case h4=>rfl);(case h5=>simp);(case hl=>rfl);(case he=>exact tdF);(case h6=>rfl);(case h7=>exact tdF);(case h8=>simp);(case h9=>simp))
  |((with_reducible refine IC (d:=?_) (d2:=?_) (cs:=?_) (Sr:=?_) (Sr2:=?_) hv Ag ?h1 ?h2 ?h3 ?h4 ?h5 ?g1 ?g2 ?g3 ?g4 ?gl ?ge ?hl ?he ?h6 ?h7 ?h8 ?h9 ?_);(case h1=>rfl);(case h2=>rfl);(case h3=>rfl);(case h4=>rfl);(case h5=>rfl);(case g1=>rfl);(case g2=>rfl);(case g3=>rfl);(case g4=>simp);(case gl=>rfl);(case ge=>exact tdF);(case hl=>rfl);(case he=>exact tdF);(case h6=>rfl);(case h7=>exact tdF);(case h8=>simp);(case h9=>simp))
  |with_reducible refine ZY ?_
  |with_reducible refine XB ?_
  |with_reducible refine moIR ?_
  |with_reducible refine moIRG ?_
  |with_reducible refine ZZ ?_
  |with_reducible refine XC ?_
  |with_reducible refine moIP ?_
  |with_reducible refine moIPG ?_
  |with_reducible refine nilE ?_
  |with_reducible refine nilN ?_
  |with_reducible refine boolE ?_
  |with_reducible refine boolN ?_
  |with_reducible refine PE ?_
  |with_reducible refine PF ?_)
 exact hG.get):G:=hs ⟨⟩ ⟨fx⟩ ⟨h⟩
def o3:OT:=[(3,false,[(0,1),(2,1),(1,1),(3,16)],[1,3,8,16])]
def o7:OT:=[(20,false,[(0,18)],[6,15])]
def o15:OT:=[(6,false,[(0,9)],[])]
def o16:OT:=[(4,false,[(0,49)],[12,13,17,18])]
def o19:OT:=[(6,true,[(0,14)],[10,11,12,13]),(12,true,[(0,14)],[10,11,12,13]),(18,true,[(0,14)],[10,11,12,13])]
def o27:OT:=[(6,false,[(0,9)],[])]
def o35:OT:=[(6,false,[(0,1),(2,1),(1,1),(3,3)],[1,3])]
def o40:OT:=[(5,true,[(0,12)],[7,9,11]),(12,true,[(0,12),(13,5),(12,1),(18,6)],[12,18,21,23])]
def o41:OT:=[(3,false,[(0,9)],[5]),(7,false,[(0,7),(9,6),(7,2),(15,4)],[7,15])]
def o44:OT:=[(18,false,[(0,31),(32,6),(31,1),(38,2)],[25,31]),(20,false,[(0,11),(12,1),(11,1),(13,2)],[11,13])]
def o48:OT:=[(4,true,[(0,21)],[12,14,15,17,18,20]),(5,true,[(0,18)],[9,13,17]),(6,true,[(0,9)],[4,8]),(10,true,[(0,3),(4,3),(3,1),(7,3)],[3,8,9]),(12,true,[(0,18),(19,1),(18,1),(20,7)],[18,22,26]),(16,true,[(0,7),(8,5),(7,1),(13,9)],[7,13,17,21])]
def o52:OT:=[(3,true,[(0,11)],[6,9,10])]
def o55:OT:=[(6,false,[(0,12)],[10])]
def o56:OT:=[(2,true,[(0,3),(4,2),(7,3),(3,1),(6,1),(10,5)],[3,6,10,13,14]),(8,true,[(0,10)],[9]),(15,true,[(0,17),(18,4),(17,1),(22,6)],[17,22,25,27])]
def o72:OT:=[(1,true,[(0,4),(5,2),(8,2),(4,1),(7,1),(10,3)],[4,7,10,12])]
def o74:OT:=[(1,true,[(0,6),(7,4),(6,1),(11,3)],[6,12,13]),(8,true,[(0,14)],[9,11,13])]
def o75:OT:=[(6,false,[(0,7)],[]),(16,true,[(0,7),(8,3),(12,1),(14,3),(18,1),(7,1),(11,1),(13,1),(17,1),(19,5)],[7,11,13,17,19,21,23]),(17,true,[(0,15)],[10,12,14])]
def o79:OT:=[(14,true,[(0,8),(9,6),(8,1),(15,3)],[3,8,17]),(15,true,[(0,18)],[17])]
def o82:OT:=[(9,false,[(0,10)],[7])]
def o83:OT:=[(13,true,[(0,9)],[6,8])]
def o90:OT:=[(31,false,[(0,35)],[23,32]),(36,false,[(0,11)],[])]
def o93:OT:=[(5,false,[(0,23)],[5,11]),(13,false,[(0,13)],[11])]
def o106:OT:=[(1,true,[(0,3),(4,3),(8,3),(3,1),(7,1),(11,3)],[3,7,11,13])]
def o111:OT:=[(1,true,[(0,11)],[10])]
def o112:OT:=[(8,true,[(0,10)],[9]),(10,true,[(0,10)],[9]),(13,true,[(0,10)],[9]),(14,true,[(0,15)],[10,14]),(25,true,[(0,12)],[8,11])]
def o113:OT:=[(1,true,[(0,20),(21,4),(20,1),(25,3)],[20,25,27])]
def lg:OT:=[(18,true,[(0,10)],[8,9]),(20,true,[(0,11)],[7,10])]
def o120:OT:=[(14,false,[(0,10)],[8])]
def o125:OT:=[(3,true,[(0,4),(5,1),(4,1),(6,4)],[4,6,8,9]),(6,true,[(0,11)],[6,10])]
def o126:OT:=[(5,true,[(0,15)],[14]),(17,true,[(0,13)],[12]),(18,false,[(0,16)],[])]
def o136:OT:=[(1,true,[(0,3),(4,3),(8,3),(3,1),(7,1),(11,3)],[3,7,11,13])]
def o141:OT:=[(1,true,[(0,12)],[11])]
def o143:OT:=[(1,true,[(0,11)],[7,9,10]),(4,true,[(0,10)],[9])]
def o144:OT:=[(10,true,[(0,13)],[12]),(12,true,[(0,13)],[12]),(15,true,[(0,13)],[12]),(17,true,[(0,12)],[11]),(24,false,[(0,1),(2,3),(1,1),(5,2)],[1,5]),(25,true,[(0,10)],[5,7,9])]
def o157:OT:=[(6,false,[(0,9)],[])]
def o158:OT:=[(6,false,[(0,9)],[])]
def o175:OT:=[(11,false,[(0,36)],[34])]
def o176:OT:=[(1,false,[(0,13)],[10])]
def o184:OT:=[(2,true,[(0,7)],[6])]
def lZ:OT:=[(31,true,[(0,8)],[7])]
def o187:OT:=[(1,true,[(0,12)],[7,11]),(8,true,[(0,8)],[7]),(11,false,[(0,12)],[])]
def o190:OT:=[(1,true,[(0,12)],[7,11]),(9,false,[(0,13)],[])]
def o191:OT:=[(19,true,[(0,6)],[3,4,5])]
def o200:OT:=[(1,true,[(0,7)],[6])]
def o202:OT:=[(6,true,[(0,8),(9,1),(8,1),(10,2)],[8,10,11])]
def o203:OT:=[(4,true,[(0,8)],[7])]
def o206:OT:=[(10,true,[(0,9)],[6,8])]
def lH:OT:=[(26,false,[(0,9)],[7]),(31,false,[(0,11)],[9])]
def o228:OT:=[(7,true,[(0,3),(4,2),(3,1),(6,2)],[3,7])]
def o247:OT:=[(11,false,[(0,11)],[9])]
def o250:OT:=[(6,false,[(0,15)],[]),(8,false,[(0,15)],[]),(9,false,[(0,3),(4,5),(10,3),(3,1),(9,1),(13,2)],[3,9,13])]
def o272:OT:=[(2,false,[(0,27)],[24])]
def o274:OT:=[(4,false,[(1,3),(0,1),(4,7)],[0,8,9])]
def o306:OT:=[(6,false,[(0,2),(3,2),(2,1),(5,3)],[2,5,6])]
section
variable {P:Program}{ro:Option Nat}{n:Nat}{ops:Array Oper}{N:Nat}{S0:Sig}{Q:DX->St->Prop}{df:List DDf}{rest:List Oper}{γ Sr:List (Nat×D)}{V:Sig}{t:Nat}{ty:TypeId}{pos:String}{after:Array Edge}{l:List (Bool×Oper)}{d:D}{e:Bool}
theorem Ov{P:Program}{fop:Operand}{args:Array Operand}{ats:Array TypeId}{f:Nat}{first cap us bs:fQ}(hl:A7 γ (Ac (fop::args.toList))=some Sr)(hf:ev Sr fop=.func (.func f) first cap)(ha:first++args.toList.map (ev Sr)++cap=us)(hb:bs=us\/bs=us.map D.plain)
  (h:∀U',Sub S0 U'->aB P f bs U' fun x S''=>x=.ret d/\Sub U' S'') (d6:decide (t<n)=true) (k:MO P ro n ops N S0 Q df l ((t,d)::γ) V) :
  MO P ro n ops N S0 Q df ((e,⟨some t,(cv fop args ats),ty,pos,after,none⟩)::l) γ V:=by
 have hx:∀x∈fop::args.toList,ev Sr x=ev γ x:=fun x hx=>CA fun t ht=>Be hl t (BE (by rw[<-ht];exact hx))
 have e8:∀x∈((cv fop args ats)).operands,ev (only (Oper.looksAt ops ⟨some t,(cv fop args ats),ty,pos,after,none⟩) γ) x=ev γ x:=fun x hx=>Cw (o:=⟨some t,(cv fop args ats),ty,pos,after,none⟩) hx;refine Rn d d6 rfl (by rw[Bg];rfl) (fun U' gh ro' df'=>?_) k;refine GY (first:=first) (cap:=cap) (f:=f) ?_ ?_ (h U' gh) ?_ d6 ?_ ?_
 ·show AY ops (only _ γ) _=some true;rw[Bg];rfl
 ·rw[e8 fop (by simp[Op.operands,Call.operands]),<-hx fop k7];exact hf
 ·simp only
  rw[show args.toList.map (ev (only (Oper.looksAt ops ⟨some t,(cv fop args ats),ty,pos,after,none⟩) γ))=args.toList.map (ev Sr) from bF fun x hm=>by
   rw[e8 x (by simp at hm;simp[Op.operands,Call.operands,hm]),<-hx x (by simp[hm])],ha]
  rcases hb with rfl|rfl
  ·exact EC _
  ·exact G9 _
 ·rintro d' S'' ⟨h1,h2⟩
  cases h1;exact AU ⟨rfl,by simp[putD,Aa],h2⟩
 ·rintro d' S'' ⟨h1,h2⟩
  cases h1
theorem moQR{fop:Operand}{args:Array Operand}{ats:Array TypeId}{f:Nat}{first cap us:fQ}{H:Prop}(k1:MO prog ro n ops N S0 Q df l ((t,d)::γ) V)(hl:A7 γ (Ac (fop::args.toList))=some Sr:=by rfl)(hf:ev Sr fop=.func (.func f) first cap:=by rfl)(ha:first++args.toList.map (ev Sr)++cap=us:=by(simp(disch:=first|omega|assumption) [Aq,big1,big2,w8]<;>(try simp only[BA,BB,B5,Bz,AM,B8,B7,B6,B4,AL,B3,B2,B1])<;>with_unfolding_all rfl))(hs:∀U',Ans f us U' H d:=by intro U';infer_instance)(hH:H:=by(and_intros<;>first|trivial|assumption|omega|(simp;done)|(simp;omega)))(d6:decide (t<n)=true:=by exact tdR):MO prog ro n ops N S0 Q df ((e,⟨some t,(cv fop args ats),ty,pos,after,none⟩)::l) γ V:=Ov hl hf ha (.inl rfl) (fun U' _=>by have h:=(hs U').call hH;exact h.mono fun x S'' hx=>⟨hx.1,hx.2 ▸ Sub.refl _⟩) d6 k1
theorem Yr{fop:Operand}{args:Array Operand}{ats:Array TypeId}{f:Nat}{first cap us bs:fQ}(h:∀U',Sub S0 U'->aB prog f bs U' fun x S''=>x=.ret d/\Sub U' S'')(k1:MO prog ro n ops N S0 Q df l ((t,d)::γ) V)(hl:A7 γ (Ac (fop::args.toList))=some Sr:=by rfl)(hf:ev Sr fop=.func (.func f) first cap:=by rfl)(ha:first++args.toList.map (ev Sr)++cap=us:=by(simp(disch:=first|omega|assumption) [Aq,big1,big2,w8]<;>(try simp only[BA,BB,B5,Bz,AM,B8,B7,B6,B4,AL,B3,B2,B1])<;>with_unfolding_all rfl))(hp:bs=us:=by exact tdR)(d6:decide (t<n)=true:=by exact tdR):MO prog ro n ops N S0 Q df ((e,⟨some t,(cv fop args ats),ty,pos,after,none⟩)::l) γ V:=Ov hl hf ha (.inl hp) h d6 k1
theorem mixA{lo:List Oper}{id:Nat}(ord E:fU){lp:List (Bool×Oper)}(h:MO2 prog ro n lo.toArray 334 V Q df tab lp γ V)(hB:IN lo.toArray E ord=true:=by kernel_rfl)(hA:Ua tab n lo.toArray=true:=by exact tdR)(hl:Hn lo E ord=some lp:=by exact tdR):DWp prog ro n (.region id lo.toArray true) Q ⟨γ,V,df⟩:=
 Zp Ag Ap mixed ord E V hB hA (Sub.refl _) hl h
end
section
variable {ro:Option Nat}{n:Nat}{ops:Array Oper}{N:Nat}{S0:Sig}{Q:DX->St->Prop}{df:List DDf}{γ Sr:List (Nat×D)}{V:Sig}{t:Nat}{ty:TypeId}{pos:String}{after:Array Edge}{e1 u1:Bool}{l:List (Bool×Bool×Oper)}
theorem mixU{lo:List Oper}{id:Nat}(ord E U:fU){lp:List (Bool×Bool×Oper)}(h:MO3 prog ro n lo.toArray 334 V Q df tab lp γ V)(hB:IM lo.toArray E U ord=true:=by kernel_rfl)(hA:Ua tab n lo.toArray=true:=by exact tdR)(hl:UI lo E U ord=some lp:=by exact tdR):DWp prog ro n (.region id lo.toArray true) Q ⟨γ,V,df⟩:=
 Zm Ag Ap mixed ord E U V hB hA (Sub.refl _) hl h
theorem u3R(d:D){op:Op}(h:MO3 prog ro n ops N S0 Q df tab l ((t,d)::γ) V)(hr:F2 op=true:=by rfl)(d6:decide (t<n)=true:=by exact tdR)(hl:A7 γ (Ac op.operands.toList)=some Sr:=by exact tdR)(hd:kT tab Sr S0 op=some d:=by first|with_unfolding_all rfl|(simp;done)|(simp;rfl)):MO3 prog ro n ops N S0 Q df tab ((e1,u1,⟨some t,op,ty,pos,after,none⟩)::l) γ V:=
 Yu Ag hr d6 hl hd h
theorem u3A(z:fQ){T:Nat}(h:∀k,V k=none->MO3 prog ro n ops N S0 Q df tab l ((t,.ptr k 0)::γ) (V.set k (.cells z)))(hz:(tab T).zero=z:=by(simp<;>rfl)):MO3 prog ro n ops N S0 Q df tab ((e1,u1,⟨some t,.alloc T,ty,pos,after,none⟩)::l) γ V:=by
 subst hz;exact V1 h
theorem u3N(sz m:Nat){s x:Operand}{T T' e e':Nat}{new:fV}(h:∀i,V i=none->MO3 prog ro n ops N S0 Q df tab l ((t,.slice new (.tag i))::γ) (V.set i (.tail sz m)))(hl:A7 γ (Ac [s,x])=some Sr:=by exact tdR)(hk:(tab T).k=.slice e:=by(simp<;>rfl))(e7:(tab T').k=.slice e':=by(simp<;>rfl))(he:A5 (tab e).k=false:=by simp)
  (h1:ev Sr s=.av:=by exact tdR) (h2:kz (ev Sr x)=some new:=by(simp<;>with_unfolding_all rfl)) (hlen:∀c∈new,c.length=(tab e).size:=by first|exact C5 _|exact Dy _|exact BX _|simp)
  (hb:new.length*(tab e).bytes<=140737488355328:=by first|(simp;done)|(simp;omega)) (hm:new.length<=9223372036854775807:=by first|(simp;done)|(simp;omega)) (d6:decide (t<n)=true:=by exact tdR) (hz:(tab e).size=sz:=by(simp<;>rfl)) (hn:new.length=m:=by simp) :
  MO3 prog ro n ops N S0 Q df tab ((e1,true,⟨some t,(cA s x T T'),ty,pos,after,none⟩)::l) γ V:=by
 subst hz hn;refine mo3_u rfl (.inl ⟨fun i=>.slice new (.tag i),.tail (tab e).size new.length,fun τ=>⟨d6,rfl,?_⟩,h⟩);obtain⟨k1,k2⟩:=J0 (T:=T) (T':=T') hl fun _ hx=>Cw (ops:=ops) (o:=⟨some t,(cA s x T T'),ty,pos,after,none⟩) hx;exact Ds Ag rfl (by simpa using d6) hk e7 he (by rw[k1];exact h1) (by rw[k2];exact h2) hlen hb hm (fun i hi=>AU ⟨rfl,i,hi,by simp[Aa],rfl⟩)
theorem u3E(i:Nat){y x:kM}{d:D}{op:Op}(hj:V i=some y)(h0:S0 i=none)(h:MO3 prog ro n ops N S0 Q df tab l ((t,d)::γ) (V.set i x))(hl:A7 γ (Ac op.operands.toList)=some Sr:=by exact tdR)
  (he:∀τ:Sig,τ i=some y->eopD tab Sr τ op=some (d,τ.set i x):=by(intro τ hτ;simp(disch:=first|omega|assumption) [Aq,big1,big2,hτ]<;>first|rfl|(and_intros<;>rfl)|omega)) (hn:kU ⟨some t,op,ty,pos,after,none⟩=none:=by rfl) (d6:decide (t<n)=true:=by exact tdR):MO3 prog ro n ops N S0 Q df tab ((e1,true,⟨some t,op,ty,pos,after,none⟩)::l) γ V:=by
 refine mo3_u hn (.inr ⟨i,y,x,d,hj,h0,fun τ hτ=>⟨d6,rfl,?_⟩,h⟩);refine FM Ag rfl (by rw[BF (V':=γ) fun x hx=>Cw (o:=⟨some t,op,ty,pos,after,none⟩) hx,<-BF (CK hl)];exact he τ hτ) d6 (AU ⟨rfl,by simp[Aa,putD],rfl⟩)
theorem u3M(h:MO prog ro n ops N S0 Q df (l.map fun p=>(p.1,p.2.2)) γ V)(hl:(l.all fun p=> !(kU p.2.2).isSome)=true:=by rfl):MO3 prog ro n ops N S0 Q df tab l γ V:=Kl hl h
end
section
variable {ro:Option Nat}{n:Nat}{ops:Array Oper}{N:Nat}{S0:Sig}{Q:DX->St->Prop}{df:List DDf}{γ Sr:List (Nat×D)}{V:Sig}{t:Nat}{ty:TypeId}{pos:String}{after:Array Edge}{e1 c1 k1:Bool}{l:List (Bool×Bool×Bool×Oper)}
theorem mixK{lo:List Oper}{id:Nat}(ord E C K:fU)(S0:Sig)(hC:Sub S0 V){lp:List (Bool×Bool×Bool×Oper)}(h:MO4 prog ro n lo.toArray 334 Q df lp S0 γ V)(hB:IL lo.toArray E C K ord=true:=by kernel_rfl)(hl:UJ lo E C K ord=some lp:=by exact tdR):DWp prog ro n (.region id lo.toArray true) Q ⟨γ,V,df⟩:=
 Zo Ap mixed ord E C K S0 hB hC hl h
theorem k4R(d:D){op:Op}(h:MO4 prog ro n ops N Q df l S0 ((t,d)::γ) V)(hr:F2 op=true:=by rfl)(d6:decide (t<n)=true:=by exact tdR)(hl:A7 γ (Ac op.operands.toList)=some Sr:=by exact tdR)(hd:kT tab Sr (if c1=true then S0 else fun _=>none) op=some d:=by first|with_unfolding_all rfl|(simp;done)|(simp;rfl)):MO4 prog ro n ops N Q df ((e1,c1,k1,⟨some t,op,ty,pos,after,none⟩)::l) S0 γ V:=
 Yt Ag hr d6 hl hd h
theorem k4E(S1:Sig){op:Op}{d:D}{U':Sig}(hC:Sub S1 U')(h:MO4 prog ro n ops N Q df l S1 ((t,d)::γ) U')(hl:A7 γ (Ac op.operands.toList)=some Sr:=by exact tdR)(he:eopD tab Sr V op=some (d,U'))(hk:k1=false->S1=S0:=by first|(intro;rfl)|exact fun h=>absurd h (by decide))(d6:decide (t<n)=true:=by exact tdR):MO4 prog ro n ops N Q df ((true,c1,k1,⟨some t,op,ty,pos,after,none⟩)::l) S0 γ V:=
 V0 (o:=⟨some t,op,ty,pos,after,none⟩) Ag S1 d6 rfl ((BF (CK hl)) ▸ he) hC hk h
theorem k4S(S1:Sig){op:Op}{d:D}{U':Sig}(hC:Sub S1 U')(h:MO4 prog ro n ops N Q df l S1 γ U')(hl:A7 γ (Ac op.operands.toList)=some Sr:=by exact tdR)(he:eopD tab Sr V op=some (d,U'))(hk:k1=false->S1=S0:=by first|(intro;rfl)|exact fun h=>absurd h (by decide)):MO4 prog ro n ops N Q df ((true,c1,k1,⟨none,op,ty,pos,after,none⟩)::l) S0 γ V:=
 V0 (o:=⟨none,op,ty,pos,after,none⟩) Ag S1 rfl rfl ((BF (CK hl)) ▸ he) hC hk h
theorem k4N{Q':DX->St->Prop}(h:Q' .normal ⟨γ,V,df⟩):MO4 prog ro n ops N Q' df [] S0 γ V:=AU h
end
end Go.DL
namespace Go.DL
open Go.Proofs.Tryz
open Go Go.Proofs
set_option maxHeartbeats 8000000
def unf:D:=.iface 236 (.agg [])
def YV(b:Bool)(V:Sig):aB prog 81 [.bool b] V fun x U'=>x=(if b then .ret (.tup []) else .panic unf)/\U'=V:=by
 refine en func81 ntmps81 ?_;cases b
 ·refine gz ?_;refine pan ?_;exact kV (U':=V) ⟨rfl,rfl⟩
 ·refine gz ?_;exact EA (U':=V) ⟨rfl,rfl⟩
@[reducible,instance] def a81:=fun b V=>gh0 (@YV b V)
def WS(l:fP)(o:Own)(V:Sig)(hl:l.length<=1073741824:=by exact sd):
  aB prog 142 [.slice (cS l) o] V (rS (sl (cS l)) V):=by
 refine en func142 ntmps142 ?_;refine gz ?_;refine isN (fun b hb=>?_)
 repeat' first|refine gz ?_|apply gy<;>intro hh
 ·exact fe1 (d':=sl []) (hb hh)
 ·by_cases h:l=[]
  ·refine app0 ?_;refine gz ?_;exact fe1 (d':=sl []) h
  ·refine appC (fun i hi=>?_) (hne:=by simp[cS,h]);refine gz ?_;exact finS (U':=V) (es:=cS l) ⟨rfl,rfl⟩ ((Sub.refl _).set hi)
@[reducible,instance] def a142:=fun l o V=>ah1 (@WS l o V)
def Ig(l:fR)(q:Int->Bool)(g:Nat)(cap:fQ)(o:Own)(V:Sig)(hl:l.length<=1073741824)
  (hg:∀x∈l, ∀U',Sub V U'->aB prog g ([]++[dI x]++cap) U' fun r S''=>r=.ret (.bool (q x))/\S''=U') :
  aB prog 283 [.slice (cI l) o,.func (.func g) [] cap] V (rS (sl (cI (l.filter q))) V):=by
 refine en func283 ntmps283 ?_;refine gz ?_;refine BL 5 1 (fun i hi=>?_);refine AG [1,4,8,9,22] (fun (k:Nat) (out:fR)=>k<=l.length/\out.length<=k/\out++(l.drop k).filter q=l.filter q) (fun k out=>[(10,dI k),(5,.slice (cI out) (.tag i))]) (fun _ out=>V.set i (.tail 1 out.length)) (fun k _=>l.length-k) (0) ([]) k7 (fun k out hI=>?_);obtain⟨hk,hlen,hR⟩:=hI
 by_cases h:k<l.length
 ·rw[A0 h,cP]at hR
  repeat' first|refine Au (hg (l[k]) (aR h) _ ((Sub.refl _).set hi)) ?_|refine callP (hg (l[k]) (aR h) _ ((Sub.refl _).set hi)) ?_|refine gz ?_|apply gy<;>intro hh
  ·exact⟨k+1,out++[l[k]],by refine⟨k0,by simp;omega,?_⟩;rw[<-hR];simp[hh],td1,wkR⟩
  ·exact⟨k+1,out,by refine⟨k0,k0,?_⟩;rw[<-hR];simp[hh],td1,wkR⟩
 ·rw[A1 h]at hR;simp at hR;refine gz ?_;exact finS (U':=V) (es:=cI out) ⟨by rw[hR],rfl⟩
def P9(c:Int)(V:Sig):aB prog 305 [dI c] V (rS (.bool (!decide (c=0))) V):=by
 refine en func305 ntmps305 ?_;refine gz ?_;exact fe1 trivial
def VQ(l:fR)(o:Own)(V:Sig)(hl:l.length<=1073741824:=by exact sd):aB prog 282 [.slice (cI l) o] V (rS (sl (cI (l.filter fun c=> !decide (c=0)))) V):=by
 refine en func282 ntmps282 ?_
 repeat' first|refine gz ?_|refine Au (Ig l (fun c=> !decide (c=0)) 305 [] o V hl (fun x _ U' _=>P9 x U')) ?_|refine callP (Ig l (fun c=> !decide (c=0)) 305 [] o V hl (fun x _ U' _=>P9 x U')) ?_|refine gz ?_|apply gy<;>intro hh
 exact fe1 trivial
@[reducible,instance] def a282:=fun l o V=>ah1 (@VQ l o V)
def Pb(c x:Int)(V:Sig):aB prog 284 [dI c,.aw [dI x] 0] V (rS (.bool (!decide (c=x))) V):=by
 refine en func284 ntmps284 ?_;refine gz ?_;exact fe1 trivial
end Go.DL
