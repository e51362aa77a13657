/- A part of the proof. -/
import Derived.Test.YtlfimpogphmbdaaGreatQ08
set_option linter.all false
namespace Go.DL
open Go
def isAl(o:Oper):Option (Nat×Nat):=match o with
 |⟨some t,.alloc T,_,_,_,none⟩=>some (t,T)
 |_=>none
theorem Fa{o:Oper}{t T:Nat}(h:isAl o=some (t,T)): ∃ty pos af,o=⟨some t,.alloc T,ty,pos,af,none⟩:=by
 unfold isAl at h
 split at h
 ·cases h;exact⟨_,_,_,rfl⟩
 ·cases h
section
variable (P:Program)(ro:Option Nat)(n:Nat)(ops:Array Oper)(N:Nat)(S0:Sig)(Q:DX->St->Prop)(df:List DDf)(tab:Nat->Ty)
def Step2(e:Bool)(o:Oper)(γ:Fr)(V:Sig)(K:Fr->Sig->Prop):Prop:=
 match isAl o with
 |some (t,T)=> ∀k,V k=none->K ((t,.ptr k 0)::γ) (V.set k (.cells (tab T).zero))
 |none=>(∃d,Calm P n ops N S0 γ o d/\K (putD o.dst d γ) V) \/
  (e=true/\Eff P ro n ops df γ V o (fun d S'=>Sub S0 S'/\K (putD o.dst d γ) S') (fun d S'=> ∀U',Q (.panic d) ⟨U',S',df⟩))
def MOps2(E:fG):fG->Fr->Sig->Prop
 |[],γ,V=>av P ro n ops Q [] ⟨γ,V,df⟩
 |i::r,γ,V=> ∃o,ops[i]? = some o/\Step2 P ro n ops N S0 Q df tab (E.contains i) o γ V (MOps2 E r)
def MO2:List (Bool×Oper)->Fr->Sig->Prop
 |[],γ,V=>av P ro n ops Q [] ⟨γ,V,df⟩
 |(e,o)::r,γ,V=>Step2 P ro n ops N S0 Q df tab e o γ V (MO2 r)
end
section
variable {P:Program}{ro:Option Nat}{n:Nat}{ops:Array Oper}{N:Nat}{S0:Sig}{Q:DX->St->Prop}{df:List DDf}{E:fG}{tab:Nat->Ty}
theorem Step2.mono{e:Bool}{o:Oper}{γ U':Fr}{V:Sig}{K K':Fr->Sig->Prop}(h:Step2 P ro n ops N S0 Q df tab e o γ V K)(e9:Alike γ U')(hK:∀γ U' V,Alike γ U'->K γ V->K' U' V):Step2 P ro n ops N S0 Q df tab e o U' V K':=by
 unfold Step2 at h⊢
 split at h
 ·exact fun k hk=>hK _ _ _ (e9.put (some _) _) (h k hk)
 ·rcases h with⟨d,h2,h3⟩|⟨h1,h2⟩
  ·exact .inl ⟨d,h2.congr fun t _=>e9 t,hK _ _ _ (e9.put _ _) h3⟩
  ·exact .inr ⟨h1,h2.congr (fun t _=>e9 t) fun d S' ⟨h3,h4⟩=>⟨h3,hK _ _ _ (e9.put _ _) h4⟩⟩
theorem MOps2.alike: ∀(l:fG) {γ U':Fr}{V:Sig},Alike γ U'->MOps2 P ro n ops N S0 Q df tab E l γ V->MOps2 P ro n ops N S0 Q df tab E l U' V
 |[],_,_,_,h,k=>D3 h k
 |i::r,_,_,_,h,⟨o,ho,k⟩=>⟨o,ho,k.mono h fun _ _ _ h' k'=>MOps2.alike r h' k'⟩
theorem set_comm(V:Sig){k k':Nat}(h:k≠k')(x y:DObj):(V.set k x).set k' y=(V.set k' y).set k x:=by
 funext j
 simp only[Sig.set]
 by_cases h1:j=k'<;>by_cases h2:j=k<;>simp_all
theorem JB{i:Nat}{oi:Oper}(hi:ops[i]? = some oi)(post:fG): ∀(pre:fG) (γ:Fr) (V:Sig),
  (∀x∈pre,E.contains x=false /\ ∃ox,ops[x]? = some ox/\oi.apart ops ox=true/\((isAl ox).isSome=true->(isAl oi).isSome=true))->MOps2 P ro n ops N S0 Q df tab E (pre++i::post) γ V->MOps2 P ro n ops N S0 Q df tab E (i::(pre++post)) γ V
 |[],_,_,_,h=>h
 | x::pre,γ,V,hp,h=>by
  obtain⟨gn,ox,fN,gF,e9⟩:=hp x (by simp)
  obtain⟨a1,a2,a3⟩:=Oper.apart_spec gF
  obtain⟨ox',fV,hx⟩:=h
  obtain rfl:ox'=ox:=by rw[fN]at fV;cases fV;rfl
  have ih:∀γ V,MOps2 P ro n ops N S0 Q df tab E (pre++i::post) γ V->MOps2 P ro n ops N S0 Q df tab E (i::(pre++post)) γ V:=fun γ V=>JB hi post pre γ V fun y hy=>hp y (by simp[hy])
  refine⟨oi,hi,?_⟩
  cases fX:isAl ox' with
  | some p =>
   obtain⟨t,T⟩:=p
   cases fQ:isAl oi with
   |none=>rw[fX,fQ]at e9;simp at e9
   | some q =>
    obtain⟨t',T'⟩:=q
    obtain⟨_,_,_,rfl⟩:=Fa fX
    obtain⟨_,_,_,rfl⟩:=Fa fQ
    simp only[Step2,isAl]at hx⊢
    intro k' gj
    refine⟨_,fN,?_⟩
    simp only[Step2,isAl]
    intro k hk
    have hne:k≠k':=by
     rintro rfl
     simp[Sig.set]at hk
    have gI:V k=none:=by rw[w8 _ _ hne]at hk;exact hk
    obtain⟨oi',d7,hh⟩:=ih _ _ (hx k gI)
    rw[hi]at d7;cases d7
    simp only[Step2,isAl]at hh
    have h3:=hh k' (by rw[w8 _ _ (aQ hne)];exact gj)
    rw[set_comm V hne]at h3
    exact MOps2.alike _ (BL (a:=some t') (b:=some t) _ _ _ fun t p q=>a2 t p q) h3
  | none =>
   simp only[Step2,fX]at hx
   rcases hx with⟨d,hy,h⟩|⟨hE,_⟩
   ·obtain⟨oi',d7,hh⟩:=ih _ V h
    rw[hi]at d7;cases d7
    cases fQ:isAl oi with
    |some q=>
     obtain⟨t',T'⟩:=q
     obtain⟨_,_,_,rfl⟩:=Fa fQ
     simp only[Step2,isAl]at hh⊢
     intro k' gj
     refine⟨ox',fN,?_⟩
     simp only[Step2,fX]
     refine .inl ⟨d,hy.congr fun t ht=>(AI (dst:=some t') fun hd=>a1 t hd ht).symm,?_⟩
     exact MOps2.alike _ (BL _ _ _ fun t p q=>a2 t p q) (hh k' gj)
    | none =>
     simp only[Step2,fQ]at hh⊢
     rcases hh with⟨e,h2,h3⟩|⟨h1,h2⟩
     ·refine .inl ⟨e,h2.congr fun t ht=>AI fun hd=>a3 t hd ht,ox',fN,?_⟩
      simp only[Step2,fX]
      refine .inl ⟨d,hy.congr fun t ht=>(AI fun hd=>a1 t hd ht).symm,?_⟩
      exact MOps2.alike _ (BL _ _ _ fun t p q=>a2 t p q) h3
     ·refine .inr ⟨h1,h2.congr (fun t ht=>AI fun hd=>a3 t hd ht) fun e S' ⟨h3,h4⟩=>⟨h3,ox',fN,?_⟩⟩
      simp only[Step2,fX]
      refine .inl ⟨d,hy.congr fun t ht=>(AI fun hd=>a1 t hd ht).symm,?_⟩
      exact MOps2.alike _ (BL _ _ _ fun t p q=>a2 t p q) h4
   ·rw[gn]at hE;cases hE
def KA(ops:Array Oper)(E:fG):fG->fG->Bool
 |_,[]=>true
 | done,i::r => !done.contains i && (match ops[i]? with
  |some o=>(o.after.all fun e=> !Region.binds .any e||done.contains e.on)&&done.all fun x=>(!E.contains x&&match ops[x]? with
   |some ox=>o.apart ops ox&&(!(isAl ox).isSome||(isAl o).isSome)
   |none=>false)||EF ops ops.size i x
  |none=>false)&&KA ops E (i::done) r
theorem Hw {i:Nat} {l2:fG} : ∀ (l1 done:fG),KA ops E done (l1++i::l2)=true->i ∉ l1/\i ∉ done/\i ∉ l2 /\ ∃ o,ops[i]? = some o/\(∀ e ∈ o.after,Region.binds .any e=true->e.on ∈ l1\/e.on ∈ done) /\
   ∀x,x∈l1->EF ops ops.size i x=true\/(E.contains x=false /\ ∃ox,ops[x]? = some ox/\o.apart ops ox=true/\((isAl ox).isSome=true->(isAl o).isSome=true))
 | [],done,h=>by
  simp only[br,KA,aI,bw,bZ,be]at h
  obtain⟨⟨h1,h2⟩,h3⟩:=h
  have later:∀(l d:fG),i∈d->KA ops E d l=true->i∉l:=by
   intro l
   induction l with
   |nil=>intro _ _ _ h;cases h
   |cons y l ih=>
    intro d hd hm d6
    simp only[KA,aI,bw,bZ,be]at hm
    obtain⟨⟨m1,_⟩,m3⟩:=hm
    rcases aY.1 d6 with rfl|d6
    ·exact m1 hd
    ·exact ih (y::d) (by simp[hd]) m3 d6
  refine⟨by simp,h1,later l2 _ (by simp) h3,?_⟩
  split at h2
  ·rename_i o ho
   simp only[aI]at h2
   refine⟨o,ho,fun e he hb=>?_,fun x hx=>by cases hx⟩
   have:=cb.1 h2.1 e he
   simp only[hb,cw,dc,bZ,aL]at this
   exact .inr this
  ·cases h2
 | y::l1,done,h=>by
  simp only[bl,KA,aI]at h
  obtain⟨h1,h2,h3,o,ho,he,hx⟩:=Hw l1 (y::done) h.2
  have gw:i≠y:=fun e=>h2 (by simp[e])
  refine⟨by simp[gw,h1],fun hd=>h2 (by simp[hd]),h3,o,ho,fun e hm hb=>?_,?_⟩
  ·rcases he e hm hb with h4|h4
   ·exact .inl (by simp[h4])
   ·rcases aY.1 h4 with h5|h5
    ·exact .inl (by simp[h5])
    ·exact .inr h5
  ·intro x d6
   rcases aY.1 d6 with rfl|d6
   ·have back:∀(l d:fG),x∈d->KA ops E d (l++i::l2)=true->EF ops ops.size i x=true\/(E.contains x=false /\ ∃ox,ops[x]? = some ox/\o.apart ops ox=true/\((isAl ox).isSome=true->(isAl o).isSome=true)):=by
     intro l
     induction l with
     | nil =>
      intro d hd hm
      simp only[br,KA,aI,ho]at hm
      have:=bc.1 hm.1.2.2 x hd
      simp only[bL,aI,bw]at this
      rcases this.symm with h4|⟨h4,h5⟩
      ·exact .inl h4
      ·refine .inr ⟨h4,?_⟩
       split at h5
       ·rename_i ox fN
        simp only[aI,bL,bw]at h5
        exact⟨ox,fN,h5.1,fun hs=>by rcases h5.2 with h6|h6;rw[h6]at hs;cases hs;exact h6⟩
       ·cases h5
     |cons z l ih=>
      intro d hd hm
      simp only[bl,KA,aI]at hm
      exact ih (z::d) (by simp[hd]) hm.2
    exact back l1 _ (by simp) h.2
   ·exact hx x d6
def I5(ops:Array Oper)(E ord:fG):Bool:=KA ops E [] ord&&(List.range ops.size).all ord.contains&&ord.length==ops.size
def SJ(tab:Nat->Ty)(n:Nat)(ops:Array Oper):Bool:=ops.all fun o=>match isAl o with
 |some (t,T)=>decide (t<n)&&!A6 (tab T).k
 |none=>true
theorem Tt(ht:Bs P tab)(hN:P.funcs.size=N){ord:fG}(hB:I5 ops E ord=true)(hA:SJ tab n ops=true){g0:G}{rr:Option Nat}(hr:RoRep g0 ro rr): ∀(m:Nat) (r:fG) (listed:Array Bool) (γ:Fr) (V:Sig),r.length=m->listed.size=ops.size->
  r=ord.filter (fun i=> !listed.getD i true)->Closed ops listed->MOps2 P ro n ops N S0 Q df tab E r γ V->Sub S0 V->
   ∀(g:G) (w:World) (a:Act),g0.le g->SimS P g n ⟨γ,V,df⟩ a w->wpAnyIn (FX P rr) 0 P .any ops (Post P g0 n Q) m listed a w:=by
 unfold I5 at hB
 simp only[aI]at hB
 obtain⟨⟨d9,f6⟩,_⟩:=hB
 have d6:∀(r:fG) (listed:Array Bool),r=ord.filter (fun i=> !listed.getD i true)->∀i∈Region.ready .any ops listed,i∈r:=by
  intro r listed hf i hi
  obtain⟨h1,o,ho,_⟩:=mem_ready.1 hi
  have:=bc.1 f6 i (by simpa using(aR.1 ho).1)
  rw[hf,bH]
  exact⟨by simpa using this,by rw[h1];rfl⟩
 intro m
 induction m with
 |zero=>
  intro r listed γ V hl fK hf fL h hC g w a hg hs
  obtain rfl:r=[]:=bC.1 hl
  refine⟨cF.2 fun i hi=>?_,?_⟩
  ·have:=d6 [] listed hf i hi;cases this
  ·exact Post.le hg (h g w a rr (hr.mono hg) hs)
 | succ m ih =>
  intro r listed γ V hl fK hf fL h hC g w a hg hs
  obtain⟨y,t,rfl⟩:∃y t,r=y::t:=by cases r with|nil=>cases hl|cons y t=>exact⟨y,t,rfl⟩
  refine⟨fun he=>?_,fun i hi=>?_⟩
  ·exfalso
   obtain⟨l1,l2,fO,gv,hy,gO⟩:=bU.1 hf.symm
   subst fO
   obtain⟨h1,_,_,o,ho,gb,_⟩:=Hw l1 [] d9
   have:y∈Region.ready .any ops listed:=by
    refine mem_ready.2 ⟨by simpa using hy,o,ho,fun e hm hb=>?_⟩
    rcases gb e hm hb with h4|h4
    ·have h5:=gv _ h4
     simp only[ca,dw]at h5
     have e7:e.on<listed.size:=by
      have:e.on∈l1++y::l2:=by simp[h4]
      obtain⟨p1,p2,hp⟩:=bX this
      rw[hp]at d9
      obtain⟨_,_,_,o',fR,_⟩:=Hw p1 [] d9
      rw[fK];exact(aR.1 fR).1
     simpa[e7] using h5
    ·cases h4
   rw[he]at this;cases this
  ·obtain⟨pre,post,fM⟩:=bX (d6 _ listed hf i hi)
   rw[fM]at hf h hl
   obtain⟨l1',l2',fO,f0,gD⟩:=cT.1 hf.symm
   obtain⟨m1,m2,fZ,gr,gP,gC⟩:=bU.1 gD
   have e8:ord=(l1'++m1)++i::m2:=by rw[fO,fZ];simp
   rw[e8]at d9
   obtain⟨n1,_,n3,o,ho,gb,hx⟩:=Hw (l1'++m1) [] d9
   obtain⟨gx,o',fR,fW⟩:=mem_ready.1 hi
   obtain rfl:o'=o:=by rw[ho]at fR;cases fR;rfl
   have fP:=JB ho post pre γ V (fun x f9=>by
    have gg:x∈l1'++m1:=by
     have:x∈l1'.filter (fun i=> !listed.getD i true):=by rw[f0];exact f9
     simp[(bH.1 this).1]
    have f7:listed.getD x true=false:=by
     have:x∈l1'.filter (fun i=> !listed.getD i true):=by rw[f0];exact f9
     simpa using(bH.1 this).2
    rcases hx x gg with h4|h4
    ·exfalso
     have:=CC fL ops.size i x o' ho fW h4
     rcases cg x listed.size with e7|e7
     ·simp[e7]at this f7;rw[f7]at this;cases this
     ·simp[bY e7]at this
    ·exact h4) h
   have d8:pre++post=ord.filter (fun j=> !(listed.setIfInBounds i true).getD j true):=by
    have gA:i<listed.size:=by
     rw[fK];exact(aR.1 ho).1
    rw[e8,bW,cu]
    have e1:(listed.setIfInBounds i true).getD i true=true:=by simp[gA]
    rw[e1,Ay n1,Ay n3]
    simp only[cw,bj,bd,bW,f0,gC]
    rw[cn.2 (fun x hx=>by simpa using gr x hx),bb]
   have hlen:(pre++post).length=m:=by simp at hl⊢; omega
   obtain⟨o2,ga,hh⟩:=fP
   obtain rfl:o2=o':=by rw[ho]at ga;cases ga;rfl
   have fY:=cb.1 hA o2 (Array.mem_of_getElem? ho)
   unfold wpOpIn
   simp only[ho]
   cases fQ:isAl o2 with
   | some p =>
    obtain⟨t,T⟩:=p
    rw[fQ]at fY
    simp only[aI,aL,bw]at fY
    obtain⟨_,_,_,rfl⟩:=Fa fQ
    simp only[Step2,isAl]at hh
    refine Dd (Q:=Q) (R:=fun d S'=> ∃k,V k=none/\d=.ptr k 0/\S'=V.set k (.cells (tab T).zero)) (Rp:=fun _ _=>False) (hr.mono hg) hg hs ⟨by simp[AD,fY.1],rfl,?_⟩ (fun g' w' a' d S' fU hR hs'=>?_) fun _ _ h=>h.elim
    ·exact E1 ht fY.2 fY.1 fun k hk=>AP ⟨rfl,k,hk,by simp[Aa],rfl⟩
    ·obtain⟨k,hk,rfl,rfl⟩:=hR
     exact ih _ _ _ _ hlen (by simpa using fK) d8 (fL.set hi) (hh k hk) (fun i o h=>(Sub.refl _).set hk i o (hC i o h)) g' w' a' (hg.trans fU) hs'
   |none=>
    simp only[Step2,fQ]at hh
    rcases hh with⟨d,hy,hM⟩|⟨_,hE⟩
    ·exact ET (Q:=Q) hN (hr.mono hg) hg hs hC hy fun g' w' a' fU hs'=>ih _ _ _ _ hlen (by simpa using fK) d8 (fL.set hi) hM hC g' w' a' (hg.trans fU) hs'
    ·exact Dd (Q:=Q) (hr.mono hg) hg hs hE (fun g' w' a' d S' fU hR hs'=>ih _ _ _ _ hlen (by simpa using fK) d8 (fL.set hi) hR.2 hR.1 g' w' a' (hg.trans fU) hs') fun d S' hp=>hp
theorem In: ∀{ord:fG}{γ:Fr}{V:Sig},(∀i∈ord,i<ops.size)->MO2 P ro n ops N S0 Q df tab (pick ops E ord) γ V->MOps2 P ro n ops N S0 Q df tab E ord γ V
 |[],_,_,_,h=>h
 | i::r,γ,V,e7,h=>by
  have hi:ops[i]? = some ops[i]! :=by
   have:=e7 i (by simp)
   simp[this]
  have hp:pick ops E (i::r)=(E.contains i,ops[i]!)::pick ops E r:=by
   unfold pick
   rw[eX,hi]
   rfl
  rw[hp]at h
  refine⟨_,hi,?_⟩
  refine Step2.mono h (fun _=>rfl) fun γ U' V e9 h=>MOps2.alike _ e9 (In (fun j hj=>e7 j (by simp[hj])) h)
theorem Xy(ht:Bs P tab)(hN:P.funcs.size=N)(hm:P.follows .mixedOrders=true){l:List Oper}{id:Nat}{γ:Fr}{V:Sig}(ord E:fG)(S0:Sig)(hB:I5 l.toArray E ord=true)(hA:SJ tab n l.toArray=true)(hC:Sub S0 V)
  {lp:List (Bool×Oper)} (gu:GT l E ord=some lp) (h:MO2 P ro n l.toArray N S0 Q df tab lp γ V):DWp P ro n (.region id l.toArray true) Q ⟨γ,V,df⟩:=by
 intro g w a r hr hs
 refine wpIn_region_any hm ?_
 have fL:Closed l.toArray (Array.replicate l.toArray.size false):=by
  intro q o _ hq
  rcases cg q l.length with h'|h'
  ·simp[h']at hq
  ·simp[h']at hq
 have hs':SimS P g n ⟨γ,V,df⟩ a { w with drawn:=w.drawn+1 }:=
  ⟨⟨fun b o v h=>hs.sim.imm b o v h,hs.sim.keep,fun i o h=>by
   have:=hs.sim.obj i o h
   cases o<;>exact this,hs.sim.inj,hs.sim.free,hs.sim.htop,hs.sim.hdom,hs.sim.fin,hs.sim.io⟩,hs.tmps,hs.df⟩
 have e7:∀i∈ord,i<l.toArray.size:=by
  intro i hi
  obtain⟨p1,p2,hp⟩:=bX hi
  have fJ:=hB
  unfold I5 at fJ
  simp only[aI]at fJ
  rw[hp]at fJ
  obtain⟨_,_,_,o',fR,_⟩:=Hw p1 [] fJ.1.1
  exact(aR.1 fR).1
 have hlen:ord.length=l.toArray.size:=by
  have fJ:=hB
  unfold I5 at fJ
  simp only[aI,cp]at fJ
  exact fJ.2
 have:=Tt ht hN hB hA hr ord.length ord (Array.replicate l.toArray.size false) γ V rfl (by simp) (Dq e7).symm fL (In e7 (by rw[Jr gu];exact h)) hC g _ a (.refl g) hs'
 rw[hlen]at this
 exact this
theorem FL: ∀{l:List (Bool×Oper)}{γ:Fr}{V:Sig},(l.all fun p=> !(isAl p.2).isSome)=true->MO P ro n ops N S0 Q df l γ V->MO2 P ro n ops N S0 Q df tab l γ V
 |[],_,_,_,h=>h
 |(e,o)::l,γ,V,hl,h=>by
  simp only[bV,aI,bw]at hl
  have hn:isAl o=none:=by cases h:isAl o with|none=>rfl|some _=>rw[h]at hl;simp at hl
  show Step2 P ro n ops N S0 Q df tab e o γ V _
  simp only[Step2,hn]
  rcases h with⟨d,h2,h3⟩|⟨h1,h2⟩
  ·exact .inl ⟨d,h2,FL hl.2 h3⟩
  ·exact .inr ⟨h1,h2.congr (fun _ _=>rfl) fun d S' ⟨h3,h4⟩=>⟨h3,FL hl.2 h4⟩⟩
theorem EL{e:Bool}{t T:Nat}{ty:TypeId}{pos:String}{after:Array Edge}{l:List (Bool×Oper)}{γ:Fr}{V:Sig}(h:∀k,V k=none->MO2 P ro n ops N S0 Q df tab l ((t,.ptr k 0)::γ) (V.set k (.cells (tab T).zero))):
  MO2 P ro n ops N S0 Q df tab ((e,⟨some t,.alloc T,ty,pos,after,none⟩)::l) γ V:=h
theorem WI{e:Bool}{o:Oper}{l:List (Bool×Oper)}{γ:Fr}{V:Sig}{d:D}(ha:isAl o=none)(hc:Calm P n ops N S0 γ o d)(h:MO2 P ro n ops N S0 Q df tab l (putD o.dst d γ) V):
  MO2 P ro n ops N S0 Q df tab ((e,o)::l) γ V:=by
 show Step2 P ro n ops N S0 Q df tab e o γ V _
 simp only[Step2,ha]
 exact .inl ⟨d,hc,h⟩
theorem Az(ht:Bs P tab){e:Bool}{t:Nat}{op:Op}{ty:TypeId}{pos:String}{after:Array Edge}{d:D}{l:List (Bool×Oper)}{γ Sr:Fr}{V:Sig}(hr:EE op=true)(go:decide (t<n)=true)(hl:A8 γ (Ad op.operands.toList)=some Sr)(hd:dopX tab Sr S0 op=some d)
  (h:MO2 P ro n ops N S0 Q df tab l ((t,d)::γ) V):MO2 P ro n ops N S0 Q df tab ((e,⟨some t,op,ty,pos,after,none⟩)::l) γ V:=by
 have gc:=(BJ (Cy hl)) ▸ hd
 refine WI (d:=d) ?_ ⟨go,.inl ⟨by rw[B8];rfl,CO hr,Kt ht gc,fun S' hZ g w a hs hT=>?_⟩⟩ h
 ·unfold isAl;split
  ·rename_i gJ;cases gJ;cases hr
  ·rfl
 ·refine G5 ht hs hT (?_:dopX tab (only _ γ) S' op=some d)
  rw[BJ (U':=γ) fun x hx=>Cj (o:=⟨some t,op,ty,pos,after,none⟩) hx]
  exact HK hZ gc
end
section
variable (P:Program)(ro:Option Nat)(n:Nat)(ops:Array Oper)(N:Nat)(S0:Sig)(Q:DX->St->Prop)(df:List DDf)(tab:Nat->Ty)
def USt(o:Oper)(γ:Fr)(V:Sig)(K:Fr->Sig->Prop):Prop:=
 (∃(dj:Nat->D) (x:DObj),(∀τ,Eff P ro n ops df γ τ o (fun d' V'=> ∃j,τ j=none/\d'=dj j/\V'=τ.set j x) (fun _ _=>False)) /\ ∀j,V j=none->K (putD o.dst (dj j) γ) (V.set j x)) \/
 (∃(j:Nat) (y x:DObj) (d:D),V j=some y/\S0 j=none/\(∀τ,τ j=some y->Eff P ro n ops df γ τ o (fun d' V'=>d'=d/\V'=τ.set j x) (fun _ _=>False))/\K (putD o.dst d γ) (V.set j x))
def Step3(e u:Bool)(o:Oper)(γ:Fr)(V:Sig)(K:Fr->Sig->Prop):Prop:=
 match isAl o with
 |some (t,T)=> ∀k,V k=none->K ((t,.ptr k 0)::γ) (V.set k (.cells (tab T).zero))
 |none=>(∃d,Calm P n ops N S0 γ o d/\K (putD o.dst d γ) V) \/
  (e=true/\Eff P ro n ops df γ V o (fun d S'=>Sub S0 S'/\K (putD o.dst d γ) S') (fun d S'=> ∀U',Q (.panic d) ⟨U',S',df⟩)) \/
  (u=true/\USt P ro n ops S0 df o γ V K)
def MOps3(E U:fG):fG->Fr->Sig->Prop
 |[],γ,V=>av P ro n ops Q [] ⟨γ,V,df⟩
 |i::r,γ,V=> ∃o,ops[i]? = some o/\Step3 P ro n ops N S0 Q df tab (E.contains i) (U.contains i) o γ V (MOps3 E U r)
def MO3:List (Bool×Bool×Oper)->Fr->Sig->Prop
 |[],γ,V=>av P ro n ops Q [] ⟨γ,V,df⟩
 |(e,u,o)::r,γ,V=>Step3 P ro n ops N S0 Q df tab e u o γ V (MO3 r)
end
section
variable {P:Program}{ro:Option Nat}{n:Nat}{ops:Array Oper}{N:Nat}{S0:Sig}{Q:DX->St->Prop}{df:List DDf}{E U:fG}{tab:Nat->Ty}
theorem USt.congr{o:Oper}{γ U':Fr}{V:Sig}{K K':Fr->Sig->Prop}(h:USt P ro n ops S0 df o γ V K)(e9:∀t∈o.looksAt ops,getD γ t=getD U' t)(hK:∀d S',K (putD o.dst d γ) S'->K' (putD o.dst d U') S'):USt P ro n ops S0 df o U' V K':=by
 rcases h with⟨dj,x,hE,h⟩|⟨j,y,x,d,hj,h0,hE,h⟩
 ·exact .inl ⟨dj,x,fun τ=>(hE τ).congr e9 fun _ _ h=>h,fun j hj=>hK _ _ (h j hj)⟩
 ·exact .inr ⟨j,y,x,d,hj,h0,fun τ hO=>(hE τ hO).congr e9 fun _ _ h=>h,hK _ _ h⟩
theorem Step3.mono{e u:Bool}{o:Oper}{γ U':Fr}{V:Sig}{K K':Fr->Sig->Prop}(h:Step3 P ro n ops N S0 Q df tab e u o γ V K)(e9:Alike γ U')(hK:∀γ U' V,Alike γ U'->K γ V->K' U' V):Step3 P ro n ops N S0 Q df tab e u o U' V K':=by
 unfold Step3 at h⊢
 split at h
 ·exact fun k hk=>hK _ _ _ (e9.put (some _) _) (h k hk)
 ·rcases h with⟨d,h2,h3⟩|⟨h1,h2⟩|⟨h1,h2⟩
  ·exact .inl ⟨d,h2.congr fun t _=>e9 t,hK _ _ _ (e9.put _ _) h3⟩
  ·exact .inr (.inl ⟨h1,h2.congr (fun t _=>e9 t) fun d S' ⟨h3,h4⟩=>⟨h3,hK _ _ _ (e9.put _ _) h4⟩⟩)
  ·exact .inr (.inr ⟨h1,h2.congr (fun t _=>e9 t) fun d S' h4=>hK _ _ _ (e9.put _ _) h4⟩)
theorem MOps3.alike: ∀(l:fG) {γ U':Fr}{V:Sig},Alike γ U'->MOps3 P ro n ops N S0 Q df tab E U l γ V->MOps3 P ro n ops N S0 Q df tab E U l U' V
 |[],_,_,_,h,k=>D3 h k
 |i::r,_,_,_,h,⟨o,ho,k⟩=>⟨o,ho,k.mono h fun _ _ _ h' k'=>MOps3.alike r h' k'⟩
theorem JA{i:Nat}{oi:Oper}(hi:ops[i]? = some oi)(post:fG): ∀(pre:fG) (γ:Fr) (V:Sig),
  (∀x∈pre,E.contains x=false/\(U.contains x=true->(isAl oi).isSome=true) /\ ∃ox,ops[x]? = some ox/\oi.apart ops ox=true/\((isAl ox).isSome=true->(isAl oi).isSome=true))->MOps3 P ro n ops N S0 Q df tab E U (pre++i::post) γ V->MOps3 P ro n ops N S0 Q df tab E U (i::(pre++post)) γ V
 |[],_,_,_,h=>h
 | x::pre,γ,V,hp,h=>by
  obtain⟨gn,gK,ox,fN,gF,e9⟩:=hp x (by simp)
  obtain⟨a1,a2,a3⟩:=Oper.apart_spec gF
  obtain⟨ox',fV,hx⟩:=h
  obtain rfl:ox'=ox:=by rw[fN]at fV;cases fV;rfl
  have ih:∀γ V,MOps3 P ro n ops N S0 Q df tab E U (pre++i::post) γ V->MOps3 P ro n ops N S0 Q df tab E U (i::(pre++post)) γ V:=fun γ V=>JA hi post pre γ V fun y hy=>hp y (by simp[hy])
  refine⟨oi,hi,?_⟩
  cases fX:isAl ox' with
  | some p =>
   obtain⟨t,T⟩:=p
   cases fQ:isAl oi with
   |none=>rw[fX,fQ]at e9;simp at e9
   | some q =>
    obtain⟨t',T'⟩:=q
    obtain⟨_,_,_,rfl⟩:=Fa fX
    obtain⟨_,_,_,rfl⟩:=Fa fQ
    simp only[Step3,isAl]at hx⊢
    intro k' gj
    refine⟨_,fN,?_⟩
    simp only[Step3,isAl]
    intro k hk
    have hne:k≠k':=by
     rintro rfl
     simp[Sig.set]at hk
    have gI:V k=none:=by rw[w8 _ _ hne]at hk;exact hk
    obtain⟨oi',d7,hh⟩:=ih _ _ (hx k gI)
    rw[hi]at d7;cases d7
    simp only[Step3,isAl]at hh
    have h3:=hh k' (by rw[w8 _ _ (aQ hne)];exact gj)
    rw[set_comm V hne]at h3
    exact MOps3.alike _ (BL (a:=some t') (b:=some t) _ _ _ fun t p q=>a2 t p q) h3
  | none =>
   simp only[Step3,fX]at hx
   rcases hx with⟨d,hy,h⟩|⟨hE,_⟩|⟨gT,hu⟩
   ·obtain⟨oi',d7,hh⟩:=ih _ V h
    rw[hi]at d7;cases d7
    cases fQ:isAl oi with
    |some q=>
     obtain⟨t',T'⟩:=q
     obtain⟨_,_,_,rfl⟩:=Fa fQ
     simp only[Step3,isAl]at hh⊢
     intro k' gj
     refine⟨ox',fN,?_⟩
     simp only[Step3,fX]
     refine .inl ⟨d,hy.congr fun t ht=>(AI (dst:=some t') fun hd=>a1 t hd ht).symm,?_⟩
     exact MOps3.alike _ (BL _ _ _ fun t p q=>a2 t p q) (hh k' gj)
    | none =>
     simp only[Step3,fQ]at hh⊢
     rcases hh with⟨e,h2,h3⟩|⟨h1,h2⟩|⟨h1,h2⟩
     ·refine .inl ⟨e,h2.congr fun t ht=>AI fun hd=>a3 t hd ht,ox',fN,?_⟩
      simp only[Step3,fX]
      refine .inl ⟨d,hy.congr fun t ht=>(AI fun hd=>a1 t hd ht).symm,?_⟩
      exact MOps3.alike _ (BL _ _ _ fun t p q=>a2 t p q) h3
     ·refine .inr (.inl ⟨h1,h2.congr (fun t ht=>AI fun hd=>a3 t hd ht) fun e S' ⟨h3,h4⟩=>⟨h3,ox',fN,?_⟩⟩)
      simp only[Step3,fX]
      refine .inl ⟨d,hy.congr fun t ht=>(AI fun hd=>a1 t hd ht).symm,?_⟩
      exact MOps3.alike _ (BL _ _ _ fun t p q=>a2 t p q) h4
     ·refine .inr (.inr ⟨h1,h2.congr (fun t ht=>AI fun hd=>a3 t hd ht) fun e S' h4=>⟨ox',fN,?_⟩⟩)
      simp only[Step3,fX]
      refine .inl ⟨d,hy.congr fun t ht=>(AI fun hd=>a1 t hd ht).symm,?_⟩
      exact MOps3.alike _ (BL _ _ _ fun t p q=>a2 t p q) h4
   ·rw[gn]at hE;cases hE
   ·cases fQ:isAl oi with
    |none=>rw[fQ]at gK;exact absurd (gK gT) (by simp)
    | some q =>
     obtain⟨t',T'⟩:=q
     obtain⟨_,_,_,rfl⟩:=Fa fQ
     simp only[Step3,isAl]
     intro k hk
     refine⟨ox',fN,?_⟩
     simp only[Step3,fX]
     refine .inr (.inr ⟨gT,?_⟩)
     rcases hu with⟨dj,xo,hE,hK⟩|⟨j,y,xo,d,hj,h0,hE,hK⟩
     ·refine .inl ⟨dj,xo,fun τ=>(hE τ).congr (fun t ht=>(AI (dst:=some t') fun hd=>a1 t hd ht).symm) fun _ _ h=>h,fun j hj=>?_⟩
      have hne:j≠k:=by
       rintro rfl
       simp[Sig.set]at hj
      have g8:V j=none:=by rw[w8 _ _ hne]at hj;exact hj
      obtain⟨oi',d7,hh⟩:=ih _ _ (hK j g8)
      rw[hi]at d7;cases d7
      simp only[Step3,isAl]at hh
      have h3:=hh k (by rw[w8 _ _ (aQ hne)];exact hk)
      rw[set_comm V hne]at h3
      exact MOps3.alike _ (BL (a:=some t') (b:=ox'.dst) _ _ _ fun t p q=>a2 t p q) h3
     ·have hne:j≠k:=fun e=>by rw[e,hk]at hj;cases hj
      refine .inr ⟨j,y,xo,d,by rw[w8 _ _ hne];exact hj,h0,fun τ hO=>(hE τ hO).congr (fun t ht=>(AI (dst:=some t') fun hd=>a1 t hd ht).symm) fun _ _ h=>h,?_⟩
      obtain⟨oi',d7,hh⟩:=ih _ _ hK
      rw[hi]at d7;cases d7
      simp only[Step3,isAl]at hh
      have h3:=hh k (by rw[w8 _ _ (aQ hne)];exact hk)
      rw[set_comm V hne]at h3
      exact MOps3.alike _ (BL (a:=some t') (b:=ox'.dst) _ _ _ fun t p q=>a2 t p q) h3
def Kz(ops:Array Oper)(E U:fG):fG->fG->Bool
 |_,[]=>true
 | done,i::r => !done.contains i && (match ops[i]? with
  |some o=>(o.after.all fun e=> !Region.binds .any e||done.contains e.on)&&done.all fun x=>(!E.contains x&&(!U.contains x||(isAl o).isSome)&&match ops[x]? with
   |some ox=>o.apart ops ox&&(!(isAl ox).isSome||(isAl o).isSome)
   |none=>false)||EF ops ops.size i x
  |none=>false)&&Kz ops E U (i::done) r
theorem Hv {i:Nat} {l2:fG} : ∀ (l1 done:fG),Kz ops E U done (l1++i::l2)=true->i ∉ l1/\i ∉ done/\i ∉ l2 /\ ∃ o,ops[i]? = some o/\(∀ e ∈ o.after,Region.binds .any e=true->e.on ∈ l1\/e.on ∈ done) /\
   ∀x,x∈l1->EF ops ops.size i x=true\/(E.contains x=false/\(U.contains x=true->(isAl o).isSome=true) /\ ∃ox,ops[x]? = some ox/\o.apart ops ox=true/\((isAl ox).isSome=true->(isAl o).isSome=true))
 | [],done,h=>by
  simp only[br,Kz,aI,bw,bZ,be]at h
  obtain⟨⟨h1,h2⟩,h3⟩:=h
  have later:∀(l d:fG),i∈d->Kz ops E U d l=true->i∉l:=by
   intro l
   induction l with
   |nil=>intro _ _ _ h;cases h
   |cons y l ih=>
    intro d hd hm d6
    simp only[Kz,aI,bw,bZ,be]at hm
    obtain⟨⟨m1,_⟩,m3⟩:=hm
    rcases aY.1 d6 with rfl|d6
    ·exact m1 hd
    ·exact ih (y::d) (by simp[hd]) m3 d6
  refine⟨by simp,h1,later l2 _ (by simp) h3,?_⟩
  split at h2
  ·rename_i o ho
   simp only[aI]at h2
   refine⟨o,ho,fun e he hb=>?_,fun x hx=>by cases hx⟩
   have:=cb.1 h2.1 e he
   simp only[hb,cw,dc,bZ,aL]at this
   exact .inr this
  ·cases h2
 | y::l1,done,h=>by
  simp only[bl,Kz,aI]at h
  obtain⟨h1,h2,h3,o,ho,he,hx⟩:=Hv l1 (y::done) h.2
  have gw:i≠y:=fun e=>h2 (by simp[e])
  refine⟨by simp[gw,h1],fun hd=>h2 (by simp[hd]),h3,o,ho,fun e hm hb=>?_,?_⟩
  ·rcases he e hm hb with h4|h4
   ·exact .inl (by simp[h4])
   ·rcases aY.1 h4 with h5|h5
    ·exact .inl (by simp[h5])
    ·exact .inr h5
  ·intro x d6
   rcases aY.1 d6 with rfl|d6
   ·have back:∀(l d:fG),x∈d->Kz ops E U d (l++i::l2)=true->EF ops ops.size i x=true\/(E.contains x=false/\(U.contains x=true->(isAl o).isSome=true) /\ ∃ox,ops[x]? = some ox/\o.apart ops ox=true/\((isAl ox).isSome=true->(isAl o).isSome=true)):=by
     intro l
     induction l with
     | nil =>
      intro d hd hm
      simp only[br,Kz,aI,ho]at hm
      have:=bc.1 hm.1.2.2 x hd
      simp only[bL,aI,bw]at this
      rcases this.symm with h4|⟨⟨h4,hu⟩,h5⟩
      ·exact .inl h4
      ·refine .inr ⟨h4,(fun gZ=>hu.resolve_left fun h=>by rw[gZ]at h;cases h),?_⟩
       split at h5
       ·rename_i ox fN
        simp only[aI,bL,bw]at h5
        exact⟨ox,fN,h5.1,fun hs=>by rcases h5.2 with h6|h6;rw[h6]at hs;cases hs;exact h6⟩
       ·cases h5
     |cons z l ih=>
      intro d hd hm
      simp only[bl,Kz,aI]at hm
      exact ih (z::d) (by simp[hd]) hm.2
    exact back l1 _ (by simp) h.2
   ·exact hx x d6
def I4(ops:Array Oper)(E U ord:fG):Bool:=Kz ops E U [] ord&&(List.range ops.size).all ord.contains&&ord.length==ops.size
theorem Ts(ht:Bs P tab)(hN:P.funcs.size=N){ord:fG}(hB:I4 ops E U ord=true)(hA:SJ tab n ops=true){g0:G}{rr:Option Nat}(hr:RoRep g0 ro rr): ∀(m:Nat) (r:fG) (listed:Array Bool) (γ:Fr) (V:Sig),r.length=m->listed.size=ops.size->
  r=ord.filter (fun i=> !listed.getD i true)->Closed ops listed->MOps3 P ro n ops N S0 Q df tab E U r γ V->Sub S0 V->
   ∀(g:G) (w:World) (a:Act),g0.le g->SimS P g n ⟨γ,V,df⟩ a w->wpAnyIn (FX P rr) 0 P .any ops (Post P g0 n Q) m listed a w:=by
 unfold I4 at hB
 simp only[aI]at hB
 obtain⟨⟨d9,f6⟩,_⟩:=hB
 have d6:∀(r:fG) (listed:Array Bool),r=ord.filter (fun i=> !listed.getD i true)->∀i∈Region.ready .any ops listed,i∈r:=by
  intro r listed hf i hi
  obtain⟨h1,o,ho,_⟩:=mem_ready.1 hi
  have:=bc.1 f6 i (by simpa using(aR.1 ho).1)
  rw[hf,bH]
  exact⟨by simpa using this,by rw[h1];rfl⟩
 intro m
 induction m with
 |zero=>
  intro r listed γ V hl fK hf fL h hC g w a hg hs
  obtain rfl:r=[]:=bC.1 hl
  refine⟨cF.2 fun i hi=>?_,?_⟩
  ·have:=d6 [] listed hf i hi;cases this
  ·exact Post.le hg (h g w a rr (hr.mono hg) hs)
 | succ m ih =>
  intro r listed γ V hl fK hf fL h hC g w a hg hs
  obtain⟨y,t,rfl⟩:∃y t,r=y::t:=by cases r with|nil=>cases hl|cons y t=>exact⟨y,t,rfl⟩
  refine⟨fun he=>?_,fun i hi=>?_⟩
  ·exfalso
   obtain⟨l1,l2,fO,gv,hy,gO⟩:=bU.1 hf.symm
   subst fO
   obtain⟨h1,_,_,o,ho,gb,_⟩:=Hv l1 [] d9
   have:y∈Region.ready .any ops listed:=by
    refine mem_ready.2 ⟨by simpa using hy,o,ho,fun e hm hb=>?_⟩
    rcases gb e hm hb with h4|h4
    ·have h5:=gv _ h4
     simp only[ca,dw]at h5
     have e7:e.on<listed.size:=by
      have:e.on∈l1++y::l2:=by simp[h4]
      obtain⟨p1,p2,hp⟩:=bX this
      rw[hp]at d9
      obtain⟨_,_,_,o',fR,_⟩:=Hv p1 [] d9
      rw[fK];exact(aR.1 fR).1
     simpa[e7] using h5
    ·cases h4
   rw[he]at this;cases this
  ·obtain⟨pre,post,fM⟩:=bX (d6 _ listed hf i hi)
   rw[fM]at hf h hl
   obtain⟨l1',l2',fO,f0,gD⟩:=cT.1 hf.symm
   obtain⟨m1,m2,fZ,gr,gP,gC⟩:=bU.1 gD
   have e8:ord=(l1'++m1)++i::m2:=by rw[fO,fZ];simp
   rw[e8]at d9
   obtain⟨n1,_,n3,o,ho,gb,hx⟩:=Hv (l1'++m1) [] d9
   obtain⟨gx,o',fR,fW⟩:=mem_ready.1 hi
   obtain rfl:o'=o:=by rw[ho]at fR;cases fR;rfl
   have fP:=JA ho post pre γ V (fun x f9=>by
    have gg:x∈l1'++m1:=by
     have:x∈l1'.filter (fun i=> !listed.getD i true):=by rw[f0];exact f9
     simp[(bH.1 this).1]
    have f7:listed.getD x true=false:=by
     have:x∈l1'.filter (fun i=> !listed.getD i true):=by rw[f0];exact f9
     simpa using(bH.1 this).2
    rcases hx x gg with h4|h4
    ·exfalso
     have:=CC fL ops.size i x o' ho fW h4
     rcases cg x listed.size with e7|e7
     ·simp[e7]at this f7;rw[f7]at this;cases this
     ·simp[bY e7]at this
    ·exact h4) h
   have d8:pre++post=ord.filter (fun j=> !(listed.setIfInBounds i true).getD j true):=by
    have gA:i<listed.size:=by
     rw[fK];exact(aR.1 ho).1
    rw[e8,bW,cu]
    have e1:(listed.setIfInBounds i true).getD i true=true:=by simp[gA]
    rw[e1,Ay n1,Ay n3]
    simp only[cw,bj,bd,bW,f0,gC]
    rw[cn.2 (fun x hx=>by simpa using gr x hx),bb]
   have hlen:(pre++post).length=m:=by simp at hl⊢; omega
   obtain⟨o2,ga,hh⟩:=fP
   obtain rfl:o2=o':=by rw[ho]at ga;cases ga;rfl
   have fY:=cb.1 hA o2 (Array.mem_of_getElem? ho)
   unfold wpOpIn
   simp only[ho]
   cases fQ:isAl o2 with
   | some p =>
    obtain⟨t,T⟩:=p
    rw[fQ]at fY
    simp only[aI,aL,bw]at fY
    obtain⟨_,_,_,rfl⟩:=Fa fQ
    simp only[Step3,isAl]at hh
    refine Dd (Q:=Q) (R:=fun d S'=> ∃k,V k=none/\d=.ptr k 0/\S'=V.set k (.cells (tab T).zero)) (Rp:=fun _ _=>False) (hr.mono hg) hg hs ⟨by simp[AD,fY.1],rfl,?_⟩ (fun g' w' a' d S' fU hR hs'=>?_) fun _ _ h=>h.elim
    ·exact E1 ht fY.2 fY.1 fun k hk=>AP ⟨rfl,k,hk,by simp[Aa],rfl⟩
    ·obtain⟨k,hk,rfl,rfl⟩:=hR
     exact ih _ _ _ _ hlen (by simpa using fK) d8 (fL.set hi) (hh k hk) (fun i o h=>(Sub.refl _).set hk i o (hC i o h)) g' w' a' (hg.trans fU) hs'
   | none =>
    simp only[Step3,fQ]at hh
    rcases hh with⟨d,hy,hM⟩|⟨_,hE⟩|⟨_,hu⟩
    ·exact ET (Q:=Q) hN (hr.mono hg) hg hs hC hy fun g' w' a' fU hs'=>ih _ _ _ _ hlen (by simpa using fK) d8 (fL.set hi) hM hC g' w' a' (hg.trans fU) hs'
    ·exact Dd (Q:=Q) (hr.mono hg) hg hs hE (fun g' w' a' d S' fU hR hs'=>ih _ _ _ _ hlen (by simpa using fK) d8 (fL.set hi) hR.2 hR.1 g' w' a' (hg.trans fU) hs') fun d S' hp=>hp
    ·rcases hu with⟨dj,x,hE,hK⟩|⟨j,y,x,d,hj,h0,hE,hK⟩
     ·refine Dd (Q:=Q) (hr.mono hg) hg hs (hE V) (fun g' w' a' d S' fU hR hs'=>?_) fun _ _ h=>h.elim
      obtain⟨j,hj,rfl,rfl⟩:=hR
      exact ih _ _ _ _ hlen (by simpa using fK) d8 (fL.set hi) (hK j hj) (fun i o h=>(Sub.refl _).set hj i o (hC i o h)) g' w' a' (hg.trans fU) hs'
     ·refine Dd (Q:=Q) (hr.mono hg) hg hs (hE V hj) (fun g' w' a' d' S' fU hR hs'=>?_) fun _ _ h=>h.elim
      obtain⟨rfl,rfl⟩:=hR
      exact ih _ _ _ _ hlen (by simpa using fK) d8 (fL.set hi) hK (fun i o h=>by rw[w8 _ _ fun e=>by rw[e,h0]at h;cases h];exact hC i o h) g' w' a' (hg.trans fU) hs'
def Td(ops:List Oper)(E U:fG):fG->Option (List (Bool×Bool×Oper))
 |[]=>some []
 | i::r=>match nthO ops i with
  |some o=>match Td ops E U r with
   |some l=>some ((E.contains i,U.contains i,o)::l)
   |none=>none
  |none=>none
theorem Im{lo:List Oper}: ∀{ord:fG}{lp:List (Bool×Bool×Oper)}{γ:Fr}{V:Sig},Td lo E U ord=some lp->MO3 P ro n lo.toArray N S0 Q df tab lp γ V->MOps3 P ro n lo.toArray N S0 Q df tab E U ord γ V
 |[],_,_,_,hp,h=>by cases hp;exact h
 |i::r,lp,γ,V,hp,h=>by
  simp only[Td]at hp
  split at hp<;>(try (cases hp;done))
  rename_i o ho
  split at hp<;>(try (cases hp;done))
  rename_i l hl
  cases hp
  refine⟨o,by rw[Ju]at ho;simpa using ho,?_⟩
  exact Step3.mono h (fun _=>rfl) fun γ U' V e9 h=>MOps3.alike _ e9 (Im hl h)
theorem Xv(ht:Bs P tab)(hN:P.funcs.size=N)(hm:P.follows .mixedOrders=true){l:List Oper}{id:Nat}{γ:Fr}{V:Sig}(ord E U:fG)(S0:Sig)(hB:I4 l.toArray E U ord=true)(hA:SJ tab n l.toArray=true)(hC:Sub S0 V)
  {lp:List (Bool×Bool×Oper)} (gu:Td l E U ord=some lp) (h:MO3 P ro n l.toArray N S0 Q df tab lp γ V):DWp P ro n (.region id l.toArray true) Q ⟨γ,V,df⟩:=by
 intro g w a r hr hs
 refine wpIn_region_any hm ?_
 have fL:Closed l.toArray (Array.replicate l.toArray.size false):=by
  intro q o _ hq
  rcases cg q l.length with h'|h'
  ·simp[h']at hq
  ·simp[h']at hq
 have hs':SimS P g n ⟨γ,V,df⟩ a { w with drawn:=w.drawn+1 }:=
  ⟨⟨fun b o v h=>hs.sim.imm b o v h,hs.sim.keep,fun i o h=>by
   have:=hs.sim.obj i o h
   cases o<;>exact this,hs.sim.inj,hs.sim.free,hs.sim.htop,hs.sim.hdom,hs.sim.fin,hs.sim.io⟩,hs.tmps,hs.df⟩
 have e7:∀i∈ord,i<l.toArray.size:=by
  intro i hi
  obtain⟨p1,p2,hp⟩:=bX hi
  have fJ:=hB
  unfold I4 at fJ
  simp only[aI]at fJ
  rw[hp]at fJ
  obtain⟨_,_,_,o',fR,_⟩:=Hv p1 [] fJ.1.1
  exact(aR.1 fR).1
 have hlen:ord.length=l.toArray.size:=by
  have fJ:=hB
  unfold I4 at fJ
  simp only[aI,cp]at fJ
  exact fJ.2
 have:=Ts ht hN hB hA hr ord.length ord (Array.replicate l.toArray.size false) γ V rfl (by simp) (Dq e7).symm fL (Im gu h) hC g _ a (.refl g) hs'
 rw[hlen]at this
 exact this
theorem JC: ∀{l:List (Bool×Bool×Oper)}{γ:Fr}{V:Sig},(l.all fun p=> !(isAl p.2.2).isSome)=true->MO P ro n ops N S0 Q df (l.map fun p=>(p.1,p.2.2)) γ V->MO3 P ro n ops N S0 Q df tab l γ V
 |[],_,_,_,h=>h
 |(e,u,o)::l,γ,V,hl,h=>by
  simp only[bV,aI,bw]at hl
  have hn:isAl o=none:=by cases h:isAl o with|none=>rfl|some _=>rw[h]at hl;simp at hl
  show Step3 P ro n ops N S0 Q df tab e u o γ V _
  simp only[Step3,hn]
  rcases h with⟨d,h2,h3⟩|⟨h1,h2⟩
  ·exact .inl ⟨d,h2,JC hl.2 h3⟩
  ·exact .inr (.inl ⟨h1,h2.congr (fun _ _=>rfl) fun d S' ⟨h3,h4⟩=>⟨h3,JC hl.2 h4⟩⟩)
theorem TC{e u:Bool}{t T:Nat}{ty:TypeId}{pos:String}{after:Array Edge}{l:List (Bool×Bool×Oper)}{γ:Fr}{V:Sig}(h:∀k,V k=none->MO3 P ro n ops N S0 Q df tab l ((t,.ptr k 0)::γ) (V.set k (.cells (tab T).zero))):
  MO3 P ro n ops N S0 Q df tab ((e,u,⟨some t,.alloc T,ty,pos,after,none⟩)::l) γ V:=h
theorem WH(ht:Bs P tab){e u:Bool}{t:Nat}{op:Op}{ty:TypeId}{pos:String}{after:Array Edge}{d:D}{l:List (Bool×Bool×Oper)}{γ Sr:Fr}{V:Sig}(hr:EE op=true)(go:decide (t<n)=true)(hl:A8 γ (Ad op.operands.toList)=some Sr)(hd:dopX tab Sr S0 op=some d)
  (h:MO3 P ro n ops N S0 Q df tab l ((t,d)::γ) V):MO3 P ro n ops N S0 Q df tab ((e,u,⟨some t,op,ty,pos,after,none⟩)::l) γ V:=by
 have gc:=(BJ (Cy hl)) ▸ hd
 have ha:isAl ⟨some t,op,ty,pos,after,none⟩=none:=by
  unfold isAl;split
  ·rename_i gJ;cases gJ;cases hr
  ·rfl
 show Step3 P ro n ops N S0 Q df tab e u _ γ V _
 simp only[Step3,ha]
 refine .inl ⟨d,⟨go,.inl ⟨by rw[B8];rfl,CO hr,Kt ht gc,fun S' hZ g w a hs hT=>?_⟩⟩,h⟩
 refine G5 ht hs hT (?_:dopX tab (only _ γ) S' op=some d)
 rw[BJ (U':=γ) fun x hx=>Cj (o:=⟨some t,op,ty,pos,after,none⟩) hx]
 exact HK hZ gc
theorem mo3_u{e:Bool}{o:Oper}{l:List (Bool×Bool×Oper)}{γ:Fr}{V:Sig}(ha:isAl o=none)(h:USt P ro n ops S0 df o γ V (MO3 P ro n ops N S0 Q df tab l)):MO3 P ro n ops N S0 Q df tab ((e,true,o)::l) γ V:=by
 show Step3 P ro n ops N S0 Q df tab e true o γ V _
 simp only[Step3,ha]
 exact .inr (.inr ⟨trivial,h⟩)
end
section
variable (P:Program)(ro:Option Nat)(n:Nat)(ops:Array Oper)(N:Nat)(Q:DX->St->Prop)(df:List DDf)
def MOps4 (E C K:fG):fG->Sig->Fr->Sig->Prop
  |[],_,γ,V=>av P ro n ops Q [] ⟨γ,V,df⟩
  | i::r,S0,γ,V => ∃ o,ops[i]? = some o /\
    ((∃ d,Calm P n ops N (if C.contains i=true then S0 else fun _=>none) γ o d/\MOps4 E C K r S0 (putD o.dst d γ) V) \/
     (E.contains i=true/\Eff P ro n ops df γ V o (fun d S'=> ∃S1,Sub S1 S'/\(K.contains i=false->S1=S0)/\MOps4 E C K r S1 (putD o.dst d γ) S') (fun d S'=> ∀U',Q (.panic d) ⟨U',S',df⟩)))
def MO4:List (Bool × Bool × Bool × Oper)->Sig->Fr->Sig->Prop
  |[],_,γ,V=>av P ro n ops Q [] ⟨γ,V,df⟩
  | (e,c,k,o)::r,S0,γ,V =>
    (∃ d,Calm P n ops N (if c=true then S0 else fun _=>none) γ o d/\MO4 r S0 (putD o.dst d γ) V) \/
     (e=true/\Eff P ro n ops df γ V o (fun d S'=> ∃S1,Sub S1 S'/\(k=false->S1=S0)/\MO4 r S1 (putD o.dst d γ) S') (fun d S'=> ∀U',Q (.panic d) ⟨U',S',df⟩))
end
section
variable {P:Program}{ro:Option Nat}{n:Nat}{ops:Array Oper}{N:Nat}{S0:Sig}{Q:DX->St->Prop}{df:List DDf}{E C K:fG}{tab:Nat->Ty}
theorem MOps4.alike: ∀(l:fG) {S0:Sig}{γ U':Fr}{V:Sig},Alike γ U'->MOps4 P ro n ops N Q df E C K l S0 γ V->MOps4 P ro n ops N Q df E C K l S0 U' V
 |[],_,_,_,_,h,k=>D3 h k
 |i::r,_,_,_,_,h,⟨o,ho,k⟩=>⟨o,ho,(match k with
  |.inl ⟨d,h2,h3⟩=>.inl ⟨d,h2.congr fun t _=>h t,MOps4.alike r (h.put _ _) h3⟩
  |.inr ⟨h1,h2⟩=>.inr ⟨h1,h2.congr (fun t _=>h t) fun d S' ⟨S1,h3,h5,h4⟩=>⟨S1,h3,h5,MOps4.alike r (h.put _ _) h4⟩⟩)⟩
theorem Calm.base{S0 S1:Sig}{γ:Fr}{o:Oper}{d:D}(h:Calm P n ops N S0 γ o d)(hs:Sub S0 S1):Calm P n ops N S1 γ o d:=
 ⟨h.ok,by
  rcases h.run with⟨a,b,c,e⟩|h|⟨a,e⟩
  ·exact .inl ⟨a,b,c,fun V hZ=>e V (hs.trans hZ)⟩
  ·exact .inr (.inl h)
  ·exact .inr (.inr ⟨a,fun V hZ=>e V (hs.trans hZ)⟩)⟩
theorem Jz{i:Nat}{oi:Oper}(hi:ops[i]? = some oi)(post:fG): ∀(pre:fG) (γ:Fr) (V:Sig),
  (∀x∈pre,E.contains x=false/\(K.contains i&&C.contains x)=false /\ ∃ox,ops[x]? = some ox/\oi.apart ops ox=true)->MOps4 P ro n ops N Q df E C K (pre++i::post) S0 γ V->MOps4 P ro n ops N Q df E C K (i::(pre++post)) S0 γ V
 |[],_,_,_,h=>h
 | x::pre,γ,V,hp,h=>by
  obtain⟨gn,gL,ox,fN,gF⟩:=hp x (by simp)
  obtain⟨a1,a2,a3⟩:=Oper.apart_spec gF
  obtain⟨ox',fV,hx⟩:=h
  obtain rfl:ox'=ox:=by rw[fN]at fV;cases fV;rfl
  rcases hx with⟨d,hy,h⟩|⟨hE,_⟩
  ·obtain⟨oi',d7,hh⟩:=Jz hi post pre _ V (fun y hy=>hp y (by simp[hy])) h
   obtain rfl:oi'=oi:=by rw[hi]at d7;cases d7;rfl
   refine⟨oi',hi,?_⟩
   rcases hh with⟨e,h2,h3⟩|⟨h1,h2⟩
   ·refine .inl ⟨e,h2.congr fun t ht=>AI fun hd=>a3 t hd ht,ox',fN,.inl ⟨d,hy.congr fun t ht=>(AI fun hd=>a1 t hd ht).symm,?_⟩⟩
    exact MOps4.alike _ (BL _ _ _ fun t p q=>a2 t p q) h3
   ·refine .inr ⟨h1,h2.congr (fun t ht=>AI fun hd=>a3 t hd ht) fun e S' ⟨S1,h3,h5,h4⟩=>⟨S1,h3,h5,ox',fN,.inl ⟨d,?_,MOps4.alike _ (BL _ _ _ fun t p q=>a2 t p q) h4⟩⟩⟩
    have gk:=hy.congr (U':=putD oi'.dst e γ) fun t ht=>(AI fun hd=>a1 t hd ht).symm
    cases hk:K.contains i with
    |false=>rw[h5 hk];exact gk
    |true=>
     rw[hk,aW]at gL
     rw[gL]at gk⊢
     exact gk
  ·rw[gn]at hE;cases hE
def Ky(ops:Array Oper)(E C K:fG):fG->fG->Bool
 |_,[]=>true
 | done,i::r => !done.contains i && (match ops[i]? with
  |some o=>(o.after.all fun e=> !Region.binds .any e||done.contains e.on)&&done.all fun x=>(!E.contains x&&!(K.contains i&&C.contains x)&&match ops[x]? with
   |some ox=>o.apart ops ox
   |none=>false)||EF ops ops.size i x
  |none=>false)&&Ky ops E C K (i::done) r
theorem Hu{i:Nat}{l2:fG}: ∀(l1 done:fG),Ky ops E C K done (l1++i::l2)=true->i∉l1/\i∉done/\i∉l2 /\ ∃o,ops[i]? = some o/\(∀e∈o.after,Region.binds .any e=true->e.on∈l1\/e.on∈done) /\
   ∀x,x∈l1->EF ops ops.size i x=true\/(E.contains x=false/\(K.contains i&&C.contains x)=false /\ ∃ox,ops[x]? = some ox/\o.apart ops ox=true)
 | [],done,h=>by
  simp only[br,Ky,aI,bw,bZ,be]at h
  obtain⟨⟨h1,h2⟩,h3⟩:=h
  have later:∀(l d:fG),i∈d->Ky ops E C K d l=true->i∉l:=by
   intro l
   induction l with
   |nil=>intro _ _ _ h;cases h
   |cons y l ih=>
    intro d hd hm d6
    simp only[Ky,aI,bw,bZ,be]at hm
    obtain⟨⟨m1,_⟩,m3⟩:=hm
    rcases aY.1 d6 with rfl|d6
    ·exact m1 hd
    ·exact ih (y::d) (by simp[hd]) m3 d6
  refine⟨by simp,h1,later l2 _ (by simp) h3,?_⟩
  split at h2
  ·rename_i o ho
   simp only[aI]at h2
   refine⟨o,ho,fun e he hb=>?_,fun x hx=>by cases hx⟩
   have:=cb.1 h2.1 e he
   simp only[hb,cw,dc,bZ,aL]at this
   exact .inr this
  ·cases h2
 | y::l1,done,h=>by
  simp only[bl,Ky,aI]at h
  obtain⟨h1,h2,h3,o,ho,he,hx⟩:=Hu l1 (y::done) h.2
  have gw:i≠y:=fun e=>h2 (by simp[e])
  refine⟨by simp[gw,h1],fun hd=>h2 (by simp[hd]),h3,o,ho,fun e hm hb=>?_,?_⟩
  ·rcases he e hm hb with h4|h4
   ·exact .inl (by simp[h4])
   ·rcases aY.1 h4 with h5|h5
    ·exact .inl (by simp[h5])
    ·exact .inr h5
  ·intro x d6
   rcases aY.1 d6 with rfl|d6
   ·
    have back:∀(l d:fG),x∈d->Ky ops E C K d (l++i::l2)=true->EF ops ops.size i x=true\/(E.contains x=false/\(K.contains i&&C.contains x)=false /\ ∃ox,ops[x]? = some ox/\o.apart ops ox=true):=by
     intro l
     induction l with
     | nil =>
      intro d hd hm
      simp only[br,Ky,aI,ho]at hm
      have:=bc.1 hm.1.2.2 x hd
      simp only[bL,aI,bw]at this
      rcases this.symm with h4|⟨⟨h4,h6⟩,h5⟩
      ·exact .inl h4
      ·refine .inr ⟨h4,h6,?_⟩
       split at h5
       ·rename_i ox fN;exact⟨ox,fN,h5⟩
       ·cases h5
     |cons z l ih=>
      intro d hd hm
      simp only[bl,Ky,aI]at hm
      exact ih (z::d) (by simp[hd]) hm.2
    exact back l1 _ (by simp) h.2
   ·exact hx x d6
def I3(ops:Array Oper)(E C K ord:fG):Bool:=Ky ops E C K [] ord&&(List.range ops.size).all ord.contains&&ord.length==ops.size
theorem Tr(hN:P.funcs.size=N){ord:fG}(hB:I3 ops E C K ord=true){g0:G}{rr:Option Nat}(hr:RoRep g0 ro rr): ∀(m:Nat) (r:fG) (listed:Array Bool) (S0:Sig) (γ:Fr) (V:Sig),r.length=m->listed.size=ops.size->
  r=ord.filter (fun i=> !listed.getD i true)->Closed ops listed->MOps4 P ro n ops N Q df E C K r S0 γ V->Sub S0 V->
   ∀(g:G) (w:World) (a:Act),g0.le g->SimS P g n ⟨γ,V,df⟩ a w->wpAnyIn (FX P rr) 0 P .any ops (Post P g0 n Q) m listed a w:=by
 unfold I3 at hB
 simp only[aI]at hB
 obtain⟨⟨d9,f6⟩,_⟩:=hB
 have d6:∀(r:fG) (listed:Array Bool),r=ord.filter (fun i=> !listed.getD i true)->∀i∈Region.ready .any ops listed,i∈r:=by
  intro r listed hf i hi
  obtain⟨h1,o,ho,_⟩:=mem_ready.1 hi
  have:=bc.1 f6 i (by simpa using(aR.1 ho).1)
  rw[hf,bH]
  exact⟨by simpa using this,by rw[h1];rfl⟩
 intro m
 induction m with
 |zero=>
  intro r listed S0 γ V hl fK hf fL h hC g w a hg hs
  obtain rfl:r=[]:=bC.1 hl
  refine⟨cF.2 fun i hi=>?_,?_⟩
  ·have:=d6 [] listed hf i hi;cases this
  ·exact Post.le hg (h g w a rr (hr.mono hg) hs)
 | succ m ih =>
  intro r listed S0 γ V hl fK hf fL h hC g w a hg hs
  obtain⟨y,t,rfl⟩:∃y t,r=y::t:=by cases r with|nil=>cases hl|cons y t=>exact⟨y,t,rfl⟩
  refine⟨fun he=>?_,fun i hi=>?_⟩
  ·exfalso
   obtain⟨l1,l2,fO,gv,hy,gO⟩:=bU.1 hf.symm
   subst fO
   obtain⟨h1,_,_,o,ho,gb,_⟩:=Hu l1 [] d9
   have:y∈Region.ready .any ops listed:=by
    refine mem_ready.2 ⟨by simpa using hy,o,ho,fun e hm hb=>?_⟩
    rcases gb e hm hb with h4|h4
    ·have h5:=gv _ h4
     simp only[ca,dw]at h5
     have e7:e.on<listed.size:=by
      have:e.on∈l1++y::l2:=by simp[h4]
      obtain⟨p1,p2,hp⟩:=bX this
      rw[hp]at d9
      obtain⟨_,_,_,o',fR,_⟩:=Hu p1 [] d9
      rw[fK];exact(aR.1 fR).1
     simpa[e7] using h5
    ·cases h4
   rw[he]at this;cases this
  ·obtain⟨pre,post,fM⟩:=bX (d6 _ listed hf i hi)
   rw[fM]at hf h hl
   obtain⟨l1',l2',fO,f0,gD⟩:=cT.1 hf.symm
   obtain⟨m1,m2,fZ,gr,gP,gC⟩:=bU.1 gD
   have e8:ord=(l1'++m1)++i::m2:=by rw[fO,fZ];simp
   rw[e8]at d9
   obtain⟨n1,_,n3,o,ho,gb,hx⟩:=Hu (l1'++m1) [] d9
   obtain⟨gx,o',fR,fW⟩:=mem_ready.1 hi
   obtain rfl:o'=o:=by rw[ho]at fR;cases fR;rfl
   have fP:=Jz ho post pre γ V (fun x f9=>by
    have gg:x∈l1'++m1:=by
     have:x∈l1'.filter (fun i=> !listed.getD i true):=by rw[f0];exact f9
     simp[(bH.1 this).1]
    have f7:listed.getD x true=false:=by
     have:x∈l1'.filter (fun i=> !listed.getD i true):=by rw[f0];exact f9
     simpa using(bH.1 this).2
    rcases hx x gg with h4|h4
    ·exfalso
     have:=CC fL ops.size i x o' ho fW h4
     rcases cg x listed.size with e7|e7
     ·simp[e7]at this f7;rw[f7]at this;cases this
     ·simp[bY e7]at this
    ·exact h4) h
   have d8:pre++post=ord.filter (fun j=> !(listed.setIfInBounds i true).getD j true):=by
    have gA:i<listed.size:=by
     rw[fK];exact(aR.1 ho).1
    rw[e8,bW,cu]
    have e1:(listed.setIfInBounds i true).getD i true=true:=by simp[gA]
    rw[e1,Ay n1,Ay n3]
    simp only[cw,bj,bd,bW,f0,gC]
    rw[cn.2 (fun x hx=>by simpa using gr x hx),bb]
   have hlen:(pre++post).length=m:=by simp at hl⊢; omega
   obtain⟨o2,ga,hh⟩:=fP
   obtain rfl:o2=o':=by rw[ho]at ga;cases ga;rfl
   unfold wpOpIn
   simp only[ho]
   rcases hh with⟨d,hy,hM⟩|⟨_,hE⟩
   ·have gV:Calm P n ops N S0 γ o2 d:=hy.base (by split;exact Sub.refl _;exact fun _ _ h=>by cases h)
    exact ET hN (hr.mono hg) hg hs hC gV fun g' w' a' fU hs'=>ih _ _ _ _ _ hlen (by simpa using fK) d8 (fL.set hi) hM hC g' w' a' (hg.trans fU) hs'
   ·exact Dd (hr.mono hg) hg hs hE (fun g' w' a' d S' fU hR hs'=>by obtain⟨S1,h3,_,h4⟩:=hR;exact ih _ _ _ _ _ hlen (by simpa using fK) d8 (fL.set hi) h4 h3 g' w' a' (hg.trans fU) hs') fun d S' hp=>hp
def Te(ops:List Oper)(E C K:fG):fG->Option (List (Bool×Bool×Bool×Oper))
 |[]=>some []
 | i::r=>match nthO ops i with
  |some o=>match Te ops E C K r with
   |some l=>some ((E.contains i,C.contains i,K.contains i,o)::l)
   |none=>none
  |none=>none
theorem FK{lo:List Oper}: ∀{ord:fG}{lp:List (Bool×Bool×Bool×Oper)}{S0:Sig}{γ:Fr}{V:Sig},Te lo E C K ord=some lp->MO4 P ro n lo.toArray N Q df lp S0 γ V->MOps4 P ro n lo.toArray N Q df E C K ord S0 γ V
 |[],_,_,_,_,hp,h=>by cases hp;exact h
 |i::r,lp,S0,γ,V,hp,h=>by
  simp only[Te]at hp
  split at hp<;>(try (cases hp;done))
  rename_i o ho
  split at hp<;>(try (cases hp;done))
  rename_i l hl
  cases hp
  refine⟨o,by rw[Ju]at ho;simpa using ho,?_⟩
  rcases h with⟨d,h2,h3⟩|⟨h1,h2⟩
  ·exact .inl ⟨d,h2,FK hl h3⟩
  ·exact .inr ⟨h1,h2.congr (fun _ _=>rfl) fun d S' ⟨S1,h3,h5,h4⟩=>⟨S1,h3,h5,FK hl h4⟩⟩
theorem Xx(hN:P.funcs.size=N)(hm:P.follows .mixedOrders=true){l:List Oper}{id:Nat}{γ:Fr}{V:Sig}(ord E C K:fG)(S0:Sig)(hB:I3 l.toArray E C K ord=true)(hC:Sub S0 V)
  {lp:List (Bool×Bool×Bool×Oper)} (gu:Te l E C K ord=some lp) (h0:MO4 P ro n l.toArray N Q df lp S0 γ V):DWp P ro n (.region id l.toArray true) Q ⟨γ,V,df⟩:=by
 intro g w a r hr hs
 refine wpIn_region_any hm ?_
 have fL:Closed l.toArray (Array.replicate l.toArray.size false):=by
  intro q o _ hq
  rcases cg q l.length with h'|h'
  ·simp[h']at hq
  ·simp[h']at hq
 have hs':SimS P g n ⟨γ,V,df⟩ a { w with drawn:=w.drawn+1 }:=
  ⟨⟨fun b o v h=>hs.sim.imm b o v h,hs.sim.keep,fun i o h=>by
   have:=hs.sim.obj i o h
   cases o<;>exact this,hs.sim.inj,hs.sim.free,hs.sim.htop,hs.sim.hdom,hs.sim.fin,hs.sim.io⟩,hs.tmps,hs.df⟩
 have e7:∀i∈ord,i<l.toArray.size:=by
  intro i hi
  obtain⟨p1,p2,hp⟩:=bX hi
  have fJ:=hB
  unfold I3 at fJ
  simp only[aI]at fJ
  rw[hp]at fJ
  obtain⟨_,_,_,o',fR,_⟩:=Hu p1 [] fJ.1.1
  exact(aR.1 fR).1
 have hlen:ord.length=l.toArray.size:=by
  have fJ:=hB
  unfold I3 at fJ
  simp only[aI,cp]at fJ
  exact fJ.2
 have:=Tr hN hB hr ord.length ord (Array.replicate l.toArray.size false) S0 γ V rfl (by simp) (Dq e7).symm fL (FK gu h0) hC g _ a (.refl g) hs'
 rw[hlen]at this
 exact this
theorem WG(ht:Bs P tab){e c k:Bool}{t:Nat}{op:Op}{ty:TypeId}{pos:String}{after:Array Edge}{d:D}{l:List (Bool×Bool×Bool×Oper)}{γ Sr:Fr}{V:Sig}(hr:EE op=true)(go:decide (t<n)=true)(hl:A8 γ (Ad op.operands.toList)=some Sr)(hd:dopX tab Sr (if c=true then S0 else fun _=>none) op=some d)
  (h:MO4 P ro n ops N Q df l S0 ((t,d)::γ) V):MO4 P ro n ops N Q df ((e,c,k,⟨some t,op,ty,pos,after,none⟩)::l) S0 γ V:=by
 have gc:=(BJ (Cy hl)) ▸ hd
 refine .inl ⟨d,⟨go,.inl ⟨by rw[B8];rfl,CO hr,Kt ht gc,fun S' hZ g w a hs hT=>?_⟩⟩,h⟩
 refine G5 ht hs hT (?_:dopX tab (only _ γ) S' op=some d)
 rw[BJ (U':=γ) fun x hx=>Cj (o:=⟨some t,op,ty,pos,after,none⟩) hx]
 exact HK hZ gc
theorem TB(ht:Bs P tab){c k:Bool}{o:Oper}{d:D}{S':Sig}{l:List (Bool×Bool×Bool×Oper)}{γ:Fr}{V:Sig}(S1:Sig)(ho:AD n o=true)(hw:AT ops γ o=some true)(he:eopD tab γ V o.op=some (d,S'))(hC:Sub S1 S')(hk:k=false->S1=S0)
  (h:MO4 P ro n ops N Q df l S1 (putD o.dst d γ) S'):MO4 P ro n ops N Q df ((true,c,k,o)::l) S0 γ V:=by
 refine .inr ⟨rfl,ho,by rw[B8];exact hw,?_⟩
 refine Fl ht (by rw[B8];exact hw) (by rw[Bz (U':=γ) fun x hx=>Cj hx];exact he) ho (AP ⟨rfl,?_⟩)
 cases hd:o.dst with
 |none=>rw[hd]at h;exact⟨S1,hC,hk,h⟩
 |some t=>
  rw[hd]at h
  simp only[putD,Aa,bp]
  exact⟨S1,hC,hk,h⟩
end
theorem find_born{es:Array MapEntry}(g7:(es.toList.map (·.born)).Nodup){j:Nat}{e:MapEntry}(hj:es[j]? = some e):es.findIdx? (fun x=>(x.born:Int)==(e.born:Int))=some j:=by
 rw[Array.findIdx?_eq_some_iff_getElem]
 obtain⟨hl,rfl⟩:=aR.1 hj
 refine⟨hl,by simp,fun k hk=>?_⟩
 simp only[ca,beq_eq_false_iff_ne,ne_eq]
 intro he
 have he:es[k].born=es[j].born:=by omega
 have:=(fC.1 g7) k j (by simp;omega) (by simp;omega) hk
 simp at this
 exact this he
theorem Pj(es:Array MapEntry)(j:Nat)(f:MapEntry->MapEntry)(hf:∀e,(f e).born=e.born):(es.modify j f).toList.map (·.born)=es.toList.map (·.born):=by
 apply dN; intro k
 simp only[bD,cc,cW]
 by_cases hk:j=k
 ·subst hk;rw[aS rfl];cases es[j]? with
  |none=>rfl
  |some e=>simp[hf]
 ·rw[aN hk]
theorem Rn(es:Array MapEntry)(j:Nat)(f h:MapEntry->MapEntry):(es.modify j f).modify j h=es.modify j fun e=>h (f e):=by
 apply Array.ext_getElem?; intro k
 simp only[cW]
 by_cases hk:j=k
 ·subst hk;simp[fv];rfl
 ·simp[hk]
theorem Pe(es:Array MapEntry)(e:MapEntry)(f:MapEntry->MapEntry):(es.push e).modify es.size f=es.push (f e):=by
 apply Array.ext_getElem?; intro k
 simp only[cW,Array.getElem?_push]
 by_cases hk:es.size=k
 ·subst hk;simp
 ·have:¬k=es.size:=fun h=>hk h.symm
  simp[hk,this]
theorem Jn{P:Program}{w:World}{r clock clock' clock'':Nat}{es es' es'':Array MapEntry}(h:w.heap[r]? = some (.map es clock)):(setObj r (.map es'' clock'')).run P (setB w r (.map es' clock'))=.ok () (setB w r (.map es'' clock'')):=by
 have h2:(setB w r (.map es' clock')).heap[r]? = some (.map es' clock'):=Dm h
 have h3:=Nj w r (.map es' clock') (.map es'' clock'')
 rw[<-h3]
 simp only[setObj,Sem.run,h2];rfl
section
variable {P:Program}{tab:Nat->Ty}(ht:Bs P tab){g:G}{V:Sig}{w:World}(hs:Sim P g V w)
include ht hs
theorem So{t kt et id:Nat}{x k d zd:D}{l l':List (D×D)}{m u v:Value}(gH:(tab t).k=.map kt et)(gh:A6 (tab et).k=false)(hz:H5 (tab et)=some zd)(hk:Bk (tab kt).k k=true)(hm:x=.map id)(hZ:V id=some (.map l))(hp:Cs (tab kt).k k d l=some l')
  (h1:Rep g x m) (h2:Rep g k u) (h3:Rep g d v):∃w1 v0 s w2,(Instr.mapEntry t m u).run P w=.ok (.tuple #[v0,goInt s]) w1/\(Instr.entryStore t m (goInt s) v).run P w1=.ok () w2/\Sim P g (V.set id (.map l')) w2:=by
 subst hm
 obtain⟨b',gE,rfl⟩:=h1
 obtain⟨b,es,clock,hb,hh,hr,gG⟩:=hs.obj _ _ hZ
 rw[gE]at hb;cases hb
 obtain⟨desc,gR,gQ,gS⟩:=L8 (t:=t) (et:=et) ht hs hk h2 false
 have hu:=GN ht gH
 unfold Cs at hp
 split at hp<;>(try (cases hp;done))
 ·rename_i j dd hf
  cases hp
  obtain⟨r',e1,e2⟩:=Ee (g:=g) gQ h2 hr hf
  cases r' with
  |none=>exact e2.elim
  | some q =>
   obtain⟨j',y⟩:=q
   obtain⟨rfl,e2,_,e,a1,a2,a3⟩:=e2
   rw[du]at a1
   have a1':es[j]? = some e:=by simpa using a1
   refine⟨setB w b' (.map (es.modify j fun e=>{ e with key:=u }) clock),y,e.born,setB w b' (.map (es.modify j fun e=>{ e with key:=u,val:=v }) clock),?_,?_,?_⟩
   ·simp only[Instr.mapEntry,aU,A3 hu,aK,Cf hh,gS,Instr.findKey,A3 gR,e1,bf,a1',bG,bP,Instr.keyThatStays,Jm hk a2 h2,bp,Gc ht hs hh]
   ·have hg:(getObj b').run P (setB w b' (.map (es.modify j fun e=>{ e with key:=u }) clock))=.ok (.map (es.modify j fun e=>{ e with key:=u }) clock) (setB w b' (.map (es.modify j fun e=>{ e with key:=u }) clock)):=Cf (Dm hh)
    have gB:=find_born (es:=es.modify j fun e=>{ e with key:=u }) (e:={ e with key:=u }) (by rw[Pj es j (fun e=>{ e with key:=u }) fun _=>rfl];exact gG.1) (j:=j) (by rw[cW,aS rfl,a1'];rfl)
    simp only at gB
    simp only[Instr.entryStore,aU,hg,aK,asInt,asIntOf,goInt,bf,gB,Rn,Jn hh]
   ·refine hs.setAny hZ rfl rfl gE hh ⟨b',_,clock,gE,Dm hh,?_,gG.modify j⟩
    simpa using RepM.set h2 h3 j hr
 ·rename_i hf
  cases hp
  obtain⟨r',e1,e2⟩:=Ee (g:=g) gQ h2 hr hf
  cases r' with
  |some q=>exact e2.elim
  | none =>
   obtain⟨z,z1,z2⟩:=IJ ht gh hz w
   refine⟨setB w b' (.map (es.push { key:=u,val:=z,born:=clock }) (clock+1)),z,clock,setB w b' (.map (es.push { key:=u,val:=v,born:=clock }) (clock+1)),?_,?_,?_⟩
   ·simp only[Instr.mapEntry,aU,A3 hu,aK,Cf hh,gS,Instr.findKey,A3 gR,e1,bf,z1,Gc ht hs hh]
   ·have hg:(getObj b').run P (setB w b' (.map (es.push { key:=u,val:=z,born:=clock }) (clock+1)))=.ok (.map (es.push { key:=u,val:=z,born:=clock }) (clock+1)) (setB w b' (.map (es.push { key:=u,val:=z,born:=clock }) (clock+1))):=Cf (Dm hh)
    have gB:=find_born (es:=es.push { key:=u,val:=z,born:=clock }) (e:={ key:=u,val:=z,born:=clock }) (gG.push).1 (j:=es.size) (by simp)
    simp only at gB
    simp only[Instr.entryStore,aU,hg,aK,asInt,asIntOf,goInt,bf,gB,Pe,Jn hh]
   ·refine hs.setAny hZ rfl rfl gE hh ⟨b',_,clock+1,gE,Dm hh,?_,gG.push⟩
    simpa using RepM.push (e:={ key:=u,val:=v,born:=clock }) h2 h3 hr
end
section
variable {P:Program}{ro:Option Nat}{n:Nat}{ops:Array Oper}{Q:DX->St->Prop}{rest:List Oper}{tab:Nat->Ty}{γ:List (Nat×D)}{V:Sig}{df:List DDf}
theorem Pz(ht:Bs P tab){t1 t2 T kt et id:Nat}{x k v:Operand}{ty1 ty2 ty3:TypeId}{p1 p2 p3:String}{f1 f2 f3:Array Edge}{zd:D}{l l':List (D×D)}(gH:(tab T).k=.map kt et)(gh:A6 (tab et).k=false)(hz:H5 (tab et)=some zd)
  (hk:Bk (tab kt).k (ev γ k)=true) (hm:ev γ x=.map id) (hZ:V id=some (.map l)) (hp:Cs (tab kt).k (ev γ k) (ev γ v) l=some l') (gN:t1<n) (gM:t2<n) (gg:x≠.tmp t1) (gW:x≠.tmp t2) (gY:v≠.tmp t1) (gX:v≠.tmp t2)
  (h:av P ro n ops Q rest ⟨(t2,.any)::(t1,.any)::γ,V.set id (.map l'),df⟩) :
  av P ro n ops Q (⟨some t1,.mapEntry T x k,ty1,p1,f1,none⟩::⟨some t2,.extract (.tmp t1) 1,ty2,p2,f2,none⟩::⟨none,.entryStore T x (.tmp t2) v,ty3,p3,f3,none⟩::rest) ⟨γ,V,df⟩:=by
 intro g w a r g6 hs
 have E:=fun y=>Au hs.tmps y
 obtain⟨w1,v0,s,w2,h1,h2,h3⟩:=So ht hs.sim gH gh hz hk hm hZ hp (E x) (E k) (E v)
 have fK:=hs.tmps.1
 have e1:((a.put (some t1) (.tuple #[v0,goInt s])).eval (.tmp t1))=.tuple #[v0,goInt s]:=by
  have:t1<a.tmps.size:=by rw[fK];exact gN
  simp[Act.put,Act.eval,this]
 have e2:(((a.put (some t1) (.tuple #[v0,goInt s])).put (some t2) (goInt s)).eval (.tmp t2))=goInt s:=by
  have:t2<a.tmps.size:=by rw[fK];exact gM
  simp[Act.put,Act.eval,this]
 have e3:∀y,y≠.tmp t1->y≠.tmp t2->((a.put (some t1) (.tuple #[v0,goInt s])).put (some t2) (goInt s)).eval y=a.eval y:=fun y gU gk=>by
  rw[Act.eval_put fun d hd=>by cases hd;exact gk,Act.eval_put fun d hd=>by cases hd;exact gU]
 have hS:SimS P g n ⟨(t2,.any)::(t1,.any)::γ,V.set id (.map l'),df⟩ ((a.put (some t1) (.tuple #[v0,goInt s])).put (some t2) (goInt s)) w2:=by
  refine⟨h3,?_,?_⟩
  ·exact(hs.tmps.put (o:=⟨some t1,.mapEntry T x k,ty1,p1,f1,none⟩) (d:=.any) trivial (by simpa[AD] using gN)).put (o:=⟨some t2,.extract (.tmp t1) 1,ty2,p2,f2,none⟩) (d:=.any) trivial (by simpa[AD] using gM)
  ·rw[Act.put_df,Act.put_df];exact hs.df
 have:=h g w2 _ r g6 hS
 have hw:∀dst op ty pos af y,Region.wanted ⟨dst,op,ty,pos,af,none⟩ y=true:=fun _ _ _ _ _ _=>rfl
 unfold wpListIn
 rw[hw,aS rfl]
 refine⟨fun f hf=>(Ah (fun c e=>by cases e) _ _ f hf).elim,?_⟩
 rw[cE _ _ _ (fun c e=>by cases e)]
 simp only[execOp,aU,h1,aK]
 simp only[bf,Oper.uponIn_value]
 unfold wpListIn
 rw[hw,aS rfl]
 refine⟨fun f hf=>(Ah (fun c e=>by cases e) _ _ f hf).elim,?_⟩
 rw[cE _ _ _ (fun c e=>by cases e)]
 simp only[execOp,e1,Instr.extract,fh,aP,cV,dK,eA,aU,bf,aK,Oper.uponIn_value]
 unfold wpListIn
 rw[hw,aS rfl]
 refine⟨fun f hf=>(Ah (fun c e=>by cases e) _ _ f hf).elim,?_⟩
 rw[cE _ _ _ (fun c e=>by cases e)]
 simp only[execOp,e2,e3 x gg gW,e3 v gY gX,aU,h2,aK,bf]
 exact this
end
end Go.DL
