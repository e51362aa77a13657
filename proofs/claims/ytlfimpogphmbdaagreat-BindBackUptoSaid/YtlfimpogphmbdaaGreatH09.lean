/- A part of the proof. -/
import Derived.Test.YtlfimpogphmbdaaGreatH08
set_option linter.all false
namespace Go.DL
open Go
def kU(o:Oper):Option (Nat×Nat):=match o with
 |⟨some t,.alloc T,_,_,_,none⟩=>some (t,T)
 |_=>none
def FC{o:Oper}{t T:Nat}(h:kU o=some (t,T)): ∃ty pos af,o=⟨some t,.alloc T,ty,pos,af,none⟩:=by
 unfold kU at h;split at h
 ·cases h;exact⟨_,_,_,rfl⟩
 ·cases h
section
variable (P:Program)(ro:Option Nat)(n:Nat)(ops:Array Oper)(N:Nat)(S0:Sig)(Q:DX->St->Prop)(df:List DDf)(tab:Nat->Ty)
def lO(e:Bool)(o:Oper)(γ:Fr)(V:Sig)(K:Fr->Sig->Prop):Prop:=
 match kU o with
 |some (t,T)=> ∀k,V k=none->K ((t,.ptr k 0)::γ) (V.set k (.cells (tab T).zero))
 |none=>(∃d,Calm P n ops N S0 γ o d/\K (putD o.dst d γ) V) \/
  (e=true/\Eff P ro n ops df γ V o (fun d U'=>Sub S0 U'/\K (putD o.dst d γ) U') (fun d U'=> ∀V',Q (.panic d) ⟨V',U',df⟩))
def lj(E:fU):fU->Fr->Sig->Prop
 |[],γ,V=>aC P ro n ops Q [] ⟨γ,V,df⟩
 |i::r,γ,V=> ∃o,ops[i]? = some o/\lO P ro n ops N S0 Q df tab (E.contains i) o γ V (lj E r)
def MO2:List (Bool×Oper)->Fr->Sig->Prop
 |[],γ,V=>aC P ro n ops Q [] ⟨γ,V,df⟩
 |(e,o)::r,γ,V=>lO P ro n ops N S0 Q df tab e o γ V (MO2 r)
end
section
variable {P:Program}{ro:Option Nat}{n:Nat}{ops:Array Oper}{N:Nat}{S0:Sig}{Q:DX->St->Prop}{df:List DDf}{E:fU}{tab:Nat->Ty}
theorem lO.mono{e:Bool}{o:Oper}{γ V':Fr}{V:Sig}{K K':Fr->Sig->Prop}(h:lO P ro n ops N S0 Q df tab e o γ V K)(fX:lY γ V')(hK:∀γ V' V,lY γ V'->K γ V->K' V' V):lO P ro n ops N S0 Q df tab e o V' V K':=by
 unfold lO at h⊢;split at h
 ·exact fun k hk=>hK _ _ _ (fX.put (some _) _) (h k hk)
 ·rcases h with⟨d,h2,h3⟩|⟨h1,h2⟩
  ·exact .inl ⟨d,h2.congr fun t _=>fX t,hK _ _ _ (fX.put _ _) h3⟩
  ·exact .inr ⟨h1,h2.congr (fun t _=>fX t) fun d U' ⟨h3,h4⟩=>⟨h3,hK _ _ _ (fX.put _ _) h4⟩⟩
theorem lj.alike: ∀(l:fU) {γ V':Fr}{V:Sig},lY γ V'->lj P ro n ops N S0 Q df tab E l γ V->lj P ro n ops N S0 Q df tab E l V' V
 |[],_,_,_,h,k=>Dj h k
 |i::r,_,_,_,h,⟨o,ho,k⟩=>⟨o,ho,k.mono h fun _ _ _ h' k'=>lj.alike r h' k'⟩
theorem set_comm(V:Sig){k k':Nat}(h:k≠k')(x y:kM):(V.set k x).set k' y=(V.set k' y).set k x:=by
 funext j
 simp only[Sig.set]
 by_cases h1:j=k'<;>by_cases h2:j=k<;>simp_all
theorem Ki{i:Nat}{oi:Oper}(hi:ops[i]? = some oi)(post:fU): ∀(pre:fU) (γ:Fr) (V:Sig),
  (∀x∈pre,E.contains x=false /\ ∃ox,ops[x]? = some ox/\oi.apart ops ox=true/\((kU ox).isSome=true->(kU oi).isSome=true))->lj P ro n ops N S0 Q df tab E (pre++i::post) γ V->lj P ro n ops N S0 Q df tab E (i::(pre++post)) γ V
 |[],_,_,_,h=>h
 | x::pre,γ,V,hp,h=>by
  obtain⟨gJ,ox,ga,gV,fX⟩:=hp x k7;obtain⟨a1,a2,a3⟩:=Oper.apart_spec gV;obtain⟨ox',gk,hx⟩:=h;obtain rfl:ox'=ox:=by rw[ga]at gk;cases gk;rfl
  have ih:∀γ V,lj P ro n ops N S0 Q df tab E (pre++i::post) γ V->lj P ro n ops N S0 Q df tab E (i::(pre++post)) γ V:=fun γ V=>Ki hi post pre γ V fun y hy=>hp y (by simp[hy])
  refine⟨oi,hi,?_⟩;cases gr:kU ox' with
  | some p =>
   obtain⟨t,T⟩:=p;cases gg:kU oi with
   |none=>rw[gr,gg]at fX;simp at fX
   | some q =>
    obtain⟨t',T'⟩:=q;obtain⟨_,_,_,rfl⟩:=FC gr;obtain⟨_,_,_,rfl⟩:=FC gg;simp only[lO,kU]at hx⊢;intro k' gH;refine⟨_,ga,?_⟩;simp only[lO,kU];intro k hk
    have hne:k≠k':=by
     rintro rfl
     simp[Sig.set]at hk
    have gY:V k=none:=by rw[w8 _ _ hne]at hk;exact hk
    obtain⟨oi',d7,hh⟩:=ih _ _ (hx k gY);rw[hi]at d7;cases d7;simp only[lO,kU]at hh;have h3:=hh k' (k8 (aZ hne) gH);rw[set_comm V hne]at h3;exact lj.alike _ (BP (a:=some t') (b:=some t) _ _ _ fun t p q=>a2 t p q) h3
  | none =>
   simp only[lO,gr]at hx;rcases hx with⟨d,hy,h⟩|⟨hE,_⟩
   ·obtain⟨oi',d7,hh⟩:=ih _ V h;rw[hi]at d7;cases d7;cases gg:kU oi with
    |some q=>
     obtain⟨t',T'⟩:=q;obtain⟨_,_,_,rfl⟩:=FC gg;simp only[lO,kU]at hh⊢;intro k' gH;refine⟨ox',ga,?_⟩;simp only[lO,gr];refine .inl ⟨d,hy.congr fun t ht=>(AR (dst:=some t') fun hd=>a1 t hd ht).symm,?_⟩;exact lj.alike _ (BP _ _ _ fun t p q=>a2 t p q) (hh k' gH)
    | none =>
     simp only[lO,gg]at hh⊢;rcases hh with⟨e,h2,h3⟩|⟨h1,h2⟩
     ·refine .inl ⟨e,h2.congr fun t ht=>AR fun hd=>a3 t hd ht,ox',ga,?_⟩;simp only[lO,gr];refine .inl ⟨d,hy.congr fun t ht=>(AR fun hd=>a1 t hd ht).symm,?_⟩;exact lj.alike _ (BP _ _ _ fun t p q=>a2 t p q) h3
     ·refine .inr ⟨h1,h2.congr (fun t ht=>AR fun hd=>a3 t hd ht) fun e U' ⟨h3,h4⟩=>⟨h3,ox',ga,?_⟩⟩;simp only[lO,gr];refine .inl ⟨d,hy.congr fun t ht=>(AR fun hd=>a1 t hd ht).symm,?_⟩;exact lj.alike _ (BP _ _ _ fun t p q=>a2 t p q) h4
   ·rw[gJ]at hE;cases hE
def Ll(ops:Array Oper)(E:fU):fU->fU->Bool
 |_,[]=>true
 | done,i::r => !done.contains i && (match ops[i]? with
  |some o=>(o.after.all fun e=> !Region.binds .any e||done.contains e.on)&&done.all fun x=>(!E.contains x&&match ops[x]? with
   |some ox=>o.apart ops ox&&(!(kU ox).isSome||(kU o).isSome)
   |none=>false)||F3 ops ops.size i x
  |none=>false)&&Ll ops E (i::done) r
theorem I4 {i:Nat} {l2:fU} : ∀ (l1 done:fU),Ll ops E done (l1++i::l2)=true->i ∉ l1/\i ∉ done/\i ∉ l2 /\ ∃ o,ops[i]? = some o/\(∀ e ∈ o.after,Region.binds .any e=true->e.on ∈ l1\/e.on ∈ done) /\
   ∀x,x∈l1->F3 ops ops.size i x=true\/(E.contains x=false /\ ∃ox,ops[x]? = some ox/\o.apart ops ox=true/\((kU ox).isSome=true->(kU o).isSome=true))
 | [],done,h=>by
  simp only[bG,Ll,aN,bA,cw,bk]at h;obtain⟨⟨h1,h2⟩,h3⟩:=h
  have later:∀(l d:fU),i∈d->Ll ops E d l=true->i∉l:=by
   intro l
   induction l with
   |nil=>intro _ _ _ h;cases h
   |cons y l ih=>
    intro d hd hm d6;simp only[Ll,aN,bA,cw,bk]at hm;obtain⟨⟨m1,_⟩,m3⟩:=hm;rcases be.1 d6 with rfl|d6
    ·exact m1 hd
    ·exact ih (y::d) (by simp[hd]) m3 d6
  refine⟨k7,h1,later l2 _ k7 h3,?_⟩;split at h2
  ·rename_i o ho;simp only[aN]at h2;refine⟨o,ho,fun e he hb=>?_,fun x hx=>by cases hx⟩;have:=cz.1 h2.1 e he;simp only[hb,cQ,dD,cw,aP]at this;exact .inr this
  ·cases h2
 | y::l1,done,h=>by
  simp only[bE,Ll,aN]at h;obtain⟨h1,h2,h3,o,ho,he,hx⟩:=I4 l1 (y::done) h.2;have gO:i≠y:=fun e=>h2 (by simp[e])
  refine⟨by simp[gO,h1],fun hd=>h2 (by simp[hd]),h3,o,ho,fun e hm hb=>?_,?_⟩
  ·rcases he e hm hb with h4|h4
   ·exact .inl (by simp[h4])
   ·rcases be.1 h4 with h5|h5
    ·exact .inl (by simp[h5])
    ·exact .inr h5
  ·intro x d6;rcases be.1 d6 with rfl|d6
   ·have back:∀(l d:fU),x∈d->Ll ops E d (l++i::l2)=true->F3 ops ops.size i x=true\/(E.contains x=false /\ ∃ox,ops[x]? = some ox/\o.apart ops ox=true/\((kU ox).isSome=true->(kU o).isSome=true)):=by
     intro l
     induction l with
     | nil =>
      intro d hd hm;simp only[bG,Ll,aN,ho]at hm;have:=bh.1 hm.1.2.2 x hd;simp only[bV,aN,bA]at this;rcases this.symm with h4|⟨h4,h5⟩
      ·exact .inl h4
      ·refine .inr ⟨h4,?_⟩;split at h5
       ·rename_i ox ga;simp only[aN,bV,bA]at h5;exact⟨ox,ga,h5.1,fun hs=>by rcases h5.2 with h6|h6;rw[h6]at hs;cases hs;exact h6⟩
       ·cases h5
     |cons z l ih=>
      intro d hd hm;simp only[bE,Ll,aN]at hm;exact ih (z::d) (by simp[hd]) hm.2
    exact back l1 _ k7 h.2
   ·exact hx x d6
def IN(ops:Array Oper)(E ord:fU):Bool:=Ll ops E [] ord&&(List.range ops.size).all ord.contains&&ord.length==ops.size
def Ua(tab:Nat->Ty)(n:Nat)(ops:Array Oper):Bool:=ops.all fun o=>match kU o with
 |some (t,T)=>decide (t<n)&&!A5 (tab T).k
 |none=>true
theorem UT(ht:BC P tab)(hN:P.funcs.size=N){ord:fU}(hB:IN ops E ord=true)(hA:Ua tab n ops=true){g0:G}{rr:Option Nat}(hr:lw g0 ro rr): ∀(m:Nat) (r:fU) (listed:Array Bool) (γ:Fr) (V:Sig),r.length=m->listed.size=ops.size->
  r=ord.filter (fun i=> !listed.getD i true)->lG ops listed->lj P ro n ops N S0 Q df tab E r γ V->Sub S0 V->
   ∀(g:G) (w:World) (a:Act),g0.le g->lP P g n ⟨γ,V,df⟩ a w->wpAnyIn (FX P rr) 0 P .any ops (lQ P g0 n Q) m listed a w:=by
 unfold IN at hB;simp only[aN]at hB;obtain⟨⟨d9,gx⟩,_⟩:=hB
 have d6:∀(r:fU) (listed:Array Bool),r=ord.filter (fun i=> !listed.getD i true)->∀i∈Region.ready .any ops listed,i∈r:=by
  intro r listed hf i hi;obtain⟨h1,o,ho,_⟩:=mem_ready.1 hi;have:=bh.1 gx i (by simpa using(aX.1 ho).1);rw[hf,bR];exact⟨by simpa using this,by rw[h1];rfl⟩
 intro m
 induction m with
 |zero=>
  intro r listed γ V hl fZ hf f0 h hC g w a hg hs;obtain rfl:r=[]:=bH.1 hl;refine⟨cX.2 fun i hi=>?_,?_⟩
  ·have:=d6 [] listed hf i hi;cases this
  ·exact lQ.le hg (h g w a rr (hr.mono hg) hs)
 | succ m ih =>
  intro r listed γ V hl fZ hf f0 h hC g w a hg hs;obtain⟨y,t,rfl⟩:∃y t,r=y::t:=by cases r with|nil=>cases hl|cons y t=>exact⟨y,t,rfl⟩
  refine⟨fun he=>?_,fun i hi=>?_⟩
  ·exfalso
   obtain⟨l1,l2,gb,gN,hy,iv⟩:=cj.1 hf.symm;subst gb;obtain⟨h1,_,_,o,ho,gD,_⟩:=I4 l1 [] d9
   have:y∈Region.ready .any ops listed:=by
    refine mem_ready.2 ⟨by simpa using hy,o,ho,fun e hm hb=>?_⟩;rcases gD e hm hb with h4|h4
    ·have h5:=gN _ h4;simp only[cy,dU]at h5
     have e7:e.on<listed.size:=by
      have:e.on∈l1++y::l2:=by simp[h4]
      obtain⟨p1,p2,hp⟩:=co this;rw[hp]at d9;obtain⟨_,_,_,o',gh,_⟩:=I4 p1 [] d9;rw[fZ];exact(aX.1 gh).1
     simpa[e7] using h5
    ·cases h4
   rw[he]at this;cases this
  ·obtain⟨pre,post,f8⟩:=co (d6 _ listed hf i hi);rw[f8]at hf h hl;obtain⟨l1',l2',gb,gw,gT⟩:=dr.1 hf.symm;obtain⟨m1,m2,gv,gL,iy,gS⟩:=cj.1 gT;have e8:ord=(l1'++m1)++i::m2:=by rw[gb,gv];simp
   rw[e8]at d9;obtain⟨n1,_,n3,o,ho,gD,hx⟩:=I4 (l1'++m1) [] d9;obtain⟨gP,o',gh,go⟩:=mem_ready.1 hi;obtain rfl:o'=o:=by rw[ho]at gh;cases gh;rfl
   have gc:=Ki ho post pre γ V (fun x gB=>by
    have gF:x∈l1'++m1:=by
     have:x∈l1'.filter (fun i=> !listed.getD i true):=by rw[gw];exact gB
     simp[(bR.1 this).1]
    have gA:listed.getD x true=false:=by
     have:x∈l1'.filter (fun i=> !listed.getD i true):=by rw[gw];exact gB
     simpa using(bR.1 this).2
    rcases hx x gF with h4|h4
    ·exfalso
     have:=CN f0 ops.size i x o' ho go h4
     rcases cF x listed.size with e7|e7
     ·simp[e7]at this gA;rw[gA]at this;cases this
     ·simp[cu e7]at this
    ·exact h4) h
   have d8:pre++post=ord.filter (fun j=> !(listed.setIfInBounds i true).getD j true):=by
    have gQ:i<listed.size:=by
     rw[fZ];exact(aX.1 ho).1
    rw[e8,cn,cP];have e1:(listed.setIfInBounds i true).getD i true=true:=by simp[gQ]
    rw[e1,AC n1,AC n3];simp only[cQ,bz,bl,cn,gw,gS];rw[cH.2 (fun x hx=>by simpa using gL x hx),br]
   have hlen:(pre++post).length=m:=by simp at hl⊢; omega
   obtain⟨o2,gC,hh⟩:=gc;obtain rfl:o2=o':=by rw[ho]at gC;cases gC;rfl
   have gu:=cz.1 hA o2 (Array.mem_of_getElem? ho);unfold wpOpIn;simp only[ho];cases gg:kU o2 with
   | some p =>
    obtain⟨t,T⟩:=p;rw[gg]at gu;simp only[aN,aP,bA]at gu;obtain⟨_,_,_,rfl⟩:=FC gg;simp only[lO,kU]at hh;refine Dr (Q:=Q) (R:=fun d U'=> ∃k,V k=none/\d=.ptr k 0/\U'=V.set k (.cells (tab T).zero)) (Rp:=fun _ _=>False) (hr.mono hg) hg hs ⟨by simp[AJ,gu.1],rfl,?_⟩ (fun g' w' a' d U' gj hR hs'=>?_) fun _ _ h=>h.elim
    ·exact El ht gu.2 gu.1 fun k hk=>AU ⟨rfl,k,hk,by simp[Aa],rfl⟩
    ·obtain⟨k,hk,rfl,rfl⟩:=hR;exact ih _ _ _ _ hlen (by simpa using fZ) d8 (f0.set hi) (hh k hk) (fun i o h=>(Sub.refl _).set hk i o (hC i o h)) g' w' a' (hg.trans gj) hs'
   |none=>
    simp only[lO,gg]at hh;rcases hh with⟨d,hy,hM⟩|⟨_,hE⟩
    ·exact Fk (Q:=Q) hN (hr.mono hg) hg hs hC hy fun g' w' a' gj hs'=>ih _ _ _ _ hlen (by simpa using fZ) d8 (f0.set hi) hM hC g' w' a' (hg.trans gj) hs'
    ·exact Dr (Q:=Q) (hr.mono hg) hg hs hE (fun g' w' a' d U' gj hR hs'=>ih _ _ _ _ hlen (by simpa using fZ) d8 (f0.set hi) hR.2 hR.1 g' w' a' (hg.trans gj) hs') fun d U' hp=>hp
theorem J6: ∀{ord:fU}{γ:Fr}{V:Sig},(∀i∈ord,i<ops.size)->MO2 P ro n ops N S0 Q df tab (pick ops E ord) γ V->lj P ro n ops N S0 Q df tab E ord γ V
 |[],_,_,_,h=>h
 | i::r,γ,V,e7,h=>by
  have hi:ops[i]? = some ops[i]! :=by
   have:=e7 i k7;simp[this]
  have hp:pick ops E (i::r)=(E.contains i,ops[i]!)::pick ops E r:=by
   unfold pick;rw[fp,hi];rfl
  rw[hp]at h;refine⟨_,hi,?_⟩;refine lO.mono h (fun _=>rfl) fun γ V' V fX h=>lj.alike _ fX (J6 (fun j hj=>e7 j (by simp[hj])) h)
theorem Zp(ht:BC P tab)(hN:P.funcs.size=N)(hm:P.follows .mixedOrders=true){l:List Oper}{id:Nat}{γ:Fr}{V:Sig}(ord E:fU)(S0:Sig)(hB:IN l.toArray E ord=true)(hA:Ua tab n l.toArray=true)(hC:Sub S0 V)
  {lp:List (Bool×Oper)} (gM:Hn l E ord=some lp) (h:MO2 P ro n l.toArray N S0 Q df tab lp γ V):DWp P ro n (.region id l.toArray true) Q ⟨γ,V,df⟩:=by
 intro g w a r hr hs;refine wpIn_region_any hm ?_
 have f0:lG l.toArray (Array.replicate l.toArray.size false):=by
  intro q o _ hq;rcases cF q l.length with h'|h'
  ·simp[h']at hq
  ·simp[h']at hq
 have hs':lP P g n ⟨γ,V,df⟩ a { w with drawn:=w.drawn+1 }:=
  ⟨⟨fun b o v h=>hs.sim.imm b o v h,hs.sim.keep,fun i o h=>by
   have:=hs.sim.obj i o h
   cases o<;>exact this,hs.sim.inj,hs.sim.free,hs.sim.htop,hs.sim.hdom,hs.sim.fin,hs.sim.io⟩,hs.tmps,hs.df⟩
 have e7:∀i∈ord,i<l.toArray.size:=by
  intro i hi;obtain⟨p1,p2,hp⟩:=co hi;have fY:=hB;unfold IN at fY;simp only[aN]at fY;rw[hp]at fY;obtain⟨_,_,_,o',gh,_⟩:=I4 p1 [] fY.1.1;exact(aX.1 gh).1
 have hlen:ord.length=l.toArray.size:=by
  have fY:=hB;unfold IN at fY;simp only[aN,cL]at fY;exact fY.2
 have:=UT ht hN hB hA hr ord.length ord (Array.replicate l.toArray.size false) γ V rfl k7 (DK e7).symm f0 (J6 e7 (by rw[Ka gM];exact h)) hC g _ a (.refl g) hs';rw[hlen]at this;exact this
theorem Gl: ∀{l:List (Bool×Oper)}{γ:Fr}{V:Sig},(l.all fun p=> !(kU p.2).isSome)=true->MO P ro n ops N S0 Q df l γ V->MO2 P ro n ops N S0 Q df tab l γ V
 |[],_,_,_,h=>h
 |(e,o)::l,γ,V,hl,h=>by
  simp only[bU,aN,bA]at hl;have hn:kU o=none:=by cases h:kU o with|none=>rfl|some _=>rw[h]at hl;simp at hl
  show lO P ro n ops N S0 Q df tab e o γ V _;simp only[lO,hn];rcases h with⟨d,h2,h3⟩|⟨h1,h2⟩
  ·exact .inl ⟨d,h2,Gl hl.2 h3⟩
  ·exact .inr ⟨h1,h2.congr (fun _ _=>rfl) fun d U' ⟨h3,h4⟩=>⟨h3,Gl hl.2 h4⟩⟩
theorem F9{e:Bool}{t T:Nat}{ty:TypeId}{pos:String}{after:Array Edge}{l:List (Bool×Oper)}{γ:Fr}{V:Sig}(h:∀k,V k=none->MO2 P ro n ops N S0 Q df tab l ((t,.ptr k 0)::γ) (V.set k (.cells (tab T).zero))):
  MO2 P ro n ops N S0 Q df tab ((e,⟨some t,.alloc T,ty,pos,after,none⟩)::l) γ V:=h
theorem Yv{e:Bool}{o:Oper}{l:List (Bool×Oper)}{γ:Fr}{V:Sig}{d:D}(ha:kU o=none)(hc:Calm P n ops N S0 γ o d)(h:MO2 P ro n ops N S0 Q df tab l (putD o.dst d γ) V):
  MO2 P ro n ops N S0 Q df tab ((e,o)::l) γ V:=by
 show lO P ro n ops N S0 Q df tab e o γ V _;simp only[lO,ha];exact .inl ⟨d,hc,h⟩
theorem AD(ht:BC P tab){e:Bool}{t:Nat}{op:Op}{ty:TypeId}{pos:String}{after:Array Edge}{d:D}{l:List (Bool×Oper)}{γ Sr:Fr}{V:Sig}(hr:F2 op=true)(gK:decide (t<n)=true)(hl:A7 γ (Ac op.operands.toList)=some Sr)(hd:kT tab Sr S0 op=some d)
  (h:MO2 P ro n ops N S0 Q df tab l ((t,d)::γ) V):MO2 P ro n ops N S0 Q df tab ((e,⟨some t,op,ty,pos,after,none⟩)::l) γ V:=by
 have gE:=(BO (CK hl)) ▸ hd;refine Yv (d:=d) ?_ ⟨gK,.inl ⟨by rw[Bg];rfl,D3 hr,Le ht gE,fun U' hZ g w a hs hT=>?_⟩⟩ h
 ·unfold kU;split
  ·rename_i gZ;cases gZ;cases hr
  ·rfl
 ·refine GD ht hs hT (?_:kT tab (only _ γ) U' op=some d);rw[BO (V':=γ) fun x hx=>Cw (o:=⟨some t,op,ty,pos,after,none⟩) hx];exact Io hZ gE
end
section
variable (P:Program)(ro:Option Nat)(n:Nat)(ops:Array Oper)(N:Nat)(S0:Sig)(Q:DX->St->Prop)(df:List DDf)(tab:Nat->Ty)
def USt(o:Oper)(γ:Fr)(V:Sig)(K:Fr->Sig->Prop):Prop:=
 (∃(dj:Nat->D) (x:kM),(∀τ,Eff P ro n ops df γ τ o (fun d' X'=> ∃j,τ j=none/\d'=dj j/\X'=τ.set j x) (fun _ _=>False)) /\ ∀j,V j=none->K (putD o.dst (dj j) γ) (V.set j x)) \/
 (∃(j:Nat) (y x:kM) (d:D),V j=some y/\S0 j=none/\(∀τ,τ j=some y->Eff P ro n ops df γ τ o (fun d' X'=>d'=d/\X'=τ.set j x) (fun _ _=>False))/\K (putD o.dst d γ) (V.set j x))
def km(e u:Bool)(o:Oper)(γ:Fr)(V:Sig)(K:Fr->Sig->Prop):Prop:=
 match kU o with
 |some (t,T)=> ∀k,V k=none->K ((t,.ptr k 0)::γ) (V.set k (.cells (tab T).zero))
 |none=>(∃d,Calm P n ops N S0 γ o d/\K (putD o.dst d γ) V) \/
  (e=true/\Eff P ro n ops df γ V o (fun d U'=>Sub S0 U'/\K (putD o.dst d γ) U') (fun d U'=> ∀V',Q (.panic d) ⟨V',U',df⟩)) \/
  (u=true/\USt P ro n ops S0 df o γ V K)
def lT(E U:fU):fU->Fr->Sig->Prop
 |[],γ,V=>aC P ro n ops Q [] ⟨γ,V,df⟩
 |i::r,γ,V=> ∃o,ops[i]? = some o/\km P ro n ops N S0 Q df tab (E.contains i) (U.contains i) o γ V (lT E U r)
def MO3:List (Bool×Bool×Oper)->Fr->Sig->Prop
 |[],γ,V=>aC P ro n ops Q [] ⟨γ,V,df⟩
 |(e,u,o)::r,γ,V=>km P ro n ops N S0 Q df tab e u o γ V (MO3 r)
end
section
variable {P:Program}{ro:Option Nat}{n:Nat}{ops:Array Oper}{N:Nat}{S0:Sig}{Q:DX->St->Prop}{df:List DDf}{E U:fU}{tab:Nat->Ty}
theorem USt.congr{o:Oper}{γ V':Fr}{V:Sig}{K K':Fr->Sig->Prop}(h:USt P ro n ops S0 df o γ V K)(fX:∀t∈o.looksAt ops,getD γ t=getD V' t)(hK:∀d U',K (putD o.dst d γ) U'->K' (putD o.dst d V') U'):USt P ro n ops S0 df o V' V K':=by
 rcases h with⟨dj,x,hE,h⟩|⟨j,y,x,d,hj,h0,hE,h⟩
 ·exact .inl ⟨dj,x,fun τ=>(hE τ).congr fX fun _ _ h=>h,fun j hj=>hK _ _ (h j hj)⟩
 ·exact .inr ⟨j,y,x,d,hj,h0,fun τ hτ=>(hE τ hτ).congr fX fun _ _ h=>h,hK _ _ h⟩
theorem km.mono{e u:Bool}{o:Oper}{γ V':Fr}{V:Sig}{K K':Fr->Sig->Prop}(h:km P ro n ops N S0 Q df tab e u o γ V K)(fX:lY γ V')(hK:∀γ V' V,lY γ V'->K γ V->K' V' V):km P ro n ops N S0 Q df tab e u o V' V K':=by
 unfold km at h⊢;split at h
 ·exact fun k hk=>hK _ _ _ (fX.put (some _) _) (h k hk)
 ·rcases h with⟨d,h2,h3⟩|⟨h1,h2⟩|⟨h1,h2⟩
  ·exact .inl ⟨d,h2.congr fun t _=>fX t,hK _ _ _ (fX.put _ _) h3⟩
  ·exact .inr (.inl ⟨h1,h2.congr (fun t _=>fX t) fun d U' ⟨h3,h4⟩=>⟨h3,hK _ _ _ (fX.put _ _) h4⟩⟩)
  ·exact .inr (.inr ⟨h1,h2.congr (fun t _=>fX t) fun d U' h4=>hK _ _ _ (fX.put _ _) h4⟩)
theorem lT.alike: ∀(l:fU) {γ V':Fr}{V:Sig},lY γ V'->lT P ro n ops N S0 Q df tab E U l γ V->lT P ro n ops N S0 Q df tab E U l V' V
 |[],_,_,_,h,k=>Dj h k
 |i::r,_,_,_,h,⟨o,ho,k⟩=>⟨o,ho,k.mono h fun _ _ _ h' k'=>lT.alike r h' k'⟩
theorem Kh{i:Nat}{oi:Oper}(hi:ops[i]? = some oi)(post:fU): ∀(pre:fU) (γ:Fr) (V:Sig),
  (∀x∈pre,E.contains x=false/\(U.contains x=true->(kU oi).isSome=true) /\ ∃ox,ops[x]? = some ox/\oi.apart ops ox=true/\((kU ox).isSome=true->(kU oi).isSome=true))->lT P ro n ops N S0 Q df tab E U (pre++i::post) γ V->lT P ro n ops N S0 Q df tab E U (i::(pre++post)) γ V
 |[],_,_,_,h=>h
 | x::pre,γ,V,hp,h=>by
  obtain⟨gJ,g7,ox,ga,gV,fX⟩:=hp x k7;obtain⟨a1,a2,a3⟩:=Oper.apart_spec gV;obtain⟨ox',gk,hx⟩:=h;obtain rfl:ox'=ox:=by rw[ga]at gk;cases gk;rfl
  have ih:∀γ V,lT P ro n ops N S0 Q df tab E U (pre++i::post) γ V->lT P ro n ops N S0 Q df tab E U (i::(pre++post)) γ V:=fun γ V=>Kh hi post pre γ V fun y hy=>hp y (by simp[hy])
  refine⟨oi,hi,?_⟩;cases gr:kU ox' with
  | some p =>
   obtain⟨t,T⟩:=p;cases gg:kU oi with
   |none=>rw[gr,gg]at fX;simp at fX
   | some q =>
    obtain⟨t',T'⟩:=q;obtain⟨_,_,_,rfl⟩:=FC gr;obtain⟨_,_,_,rfl⟩:=FC gg;simp only[km,kU]at hx⊢;intro k' gH;refine⟨_,ga,?_⟩;simp only[km,kU];intro k hk
    have hne:k≠k':=by
     rintro rfl
     simp[Sig.set]at hk
    have gY:V k=none:=by rw[w8 _ _ hne]at hk;exact hk
    obtain⟨oi',d7,hh⟩:=ih _ _ (hx k gY);rw[hi]at d7;cases d7;simp only[km,kU]at hh;have h3:=hh k' (k8 (aZ hne) gH);rw[set_comm V hne]at h3;exact lT.alike _ (BP (a:=some t') (b:=some t) _ _ _ fun t p q=>a2 t p q) h3
  | none =>
   simp only[km,gr]at hx;rcases hx with⟨d,hy,h⟩|⟨hE,_⟩|⟨iC,hu⟩
   ·obtain⟨oi',d7,hh⟩:=ih _ V h;rw[hi]at d7;cases d7;cases gg:kU oi with
    |some q=>
     obtain⟨t',T'⟩:=q;obtain⟨_,_,_,rfl⟩:=FC gg;simp only[km,kU]at hh⊢;intro k' gH;refine⟨ox',ga,?_⟩;simp only[km,gr];refine .inl ⟨d,hy.congr fun t ht=>(AR (dst:=some t') fun hd=>a1 t hd ht).symm,?_⟩;exact lT.alike _ (BP _ _ _ fun t p q=>a2 t p q) (hh k' gH)
    | none =>
     simp only[km,gg]at hh⊢;rcases hh with⟨e,h2,h3⟩|⟨h1,h2⟩|⟨h1,h2⟩
     ·refine .inl ⟨e,h2.congr fun t ht=>AR fun hd=>a3 t hd ht,ox',ga,?_⟩;simp only[km,gr];refine .inl ⟨d,hy.congr fun t ht=>(AR fun hd=>a1 t hd ht).symm,?_⟩;exact lT.alike _ (BP _ _ _ fun t p q=>a2 t p q) h3
     ·refine .inr (.inl ⟨h1,h2.congr (fun t ht=>AR fun hd=>a3 t hd ht) fun e U' ⟨h3,h4⟩=>⟨h3,ox',ga,?_⟩⟩);simp only[km,gr];refine .inl ⟨d,hy.congr fun t ht=>(AR fun hd=>a1 t hd ht).symm,?_⟩;exact lT.alike _ (BP _ _ _ fun t p q=>a2 t p q) h4
     ·refine .inr (.inr ⟨h1,h2.congr (fun t ht=>AR fun hd=>a3 t hd ht) fun e U' h4=>⟨ox',ga,?_⟩⟩);simp only[km,gr];refine .inl ⟨d,hy.congr fun t ht=>(AR fun hd=>a1 t hd ht).symm,?_⟩;exact lT.alike _ (BP _ _ _ fun t p q=>a2 t p q) h4
   ·rw[gJ]at hE;cases hE
   ·cases gg:kU oi with
    |none=>rw[gg]at g7;exact absurd (g7 iC) k7
    | some q =>
     obtain⟨t',T'⟩:=q;obtain⟨_,_,_,rfl⟩:=FC gg;simp only[km,kU];intro k hk;refine⟨ox',ga,?_⟩;simp only[km,gr];refine .inr (.inr ⟨iC,?_⟩);rcases hu with⟨dj,xo,hE,hK⟩|⟨j,y,xo,d,hj,h0,hE,hK⟩
     ·refine .inl ⟨dj,xo,fun τ=>(hE τ).congr (fun t ht=>(AR (dst:=some t') fun hd=>a1 t hd ht).symm) fun _ _ h=>h,fun j hj=>?_⟩
      have hne:j≠k:=by
       rintro rfl
       simp[Sig.set]at hj
      have iL:V j=none:=by rw[w8 _ _ hne]at hj;exact hj
      obtain⟨oi',d7,hh⟩:=ih _ _ (hK j iL);rw[hi]at d7;cases d7;simp only[km,kU]at hh;have h3:=hh k (k8 (aZ hne) hk);rw[set_comm V hne]at h3;exact lT.alike _ (BP (a:=some t') (b:=ox'.dst) _ _ _ fun t p q=>a2 t p q) h3
     ·have hne:j≠k:=fun e=>by rw[e,hk]at hj;cases hj
      refine .inr ⟨j,y,xo,d,k8 hne hj,h0,fun τ hτ=>(hE τ hτ).congr (fun t ht=>(AR (dst:=some t') fun hd=>a1 t hd ht).symm) fun _ _ h=>h,?_⟩;obtain⟨oi',d7,hh⟩:=ih _ _ hK;rw[hi]at d7;cases d7;simp only[km,kU]at hh;have h3:=hh k (k8 (aZ hne) hk);rw[set_comm V hne]at h3;exact lT.alike _ (BP (a:=some t') (b:=ox'.dst) _ _ _ fun t p q=>a2 t p q) h3
def Lk(ops:Array Oper)(E U:fU):fU->fU->Bool
 |_,[]=>true
 | done,i::r => !done.contains i && (match ops[i]? with
  |some o=>(o.after.all fun e=> !Region.binds .any e||done.contains e.on)&&done.all fun x=>(!E.contains x&&(!U.contains x||(kU o).isSome)&&match ops[x]? with
   |some ox=>o.apart ops ox&&(!(kU ox).isSome||(kU o).isSome)
   |none=>false)||F3 ops ops.size i x
  |none=>false)&&Lk ops E U (i::done) r
theorem I3 {i:Nat} {l2:fU} : ∀ (l1 done:fU),Lk ops E U done (l1++i::l2)=true->i ∉ l1/\i ∉ done/\i ∉ l2 /\ ∃ o,ops[i]? = some o/\(∀ e ∈ o.after,Region.binds .any e=true->e.on ∈ l1\/e.on ∈ done) /\
   ∀x,x∈l1->F3 ops ops.size i x=true\/(E.contains x=false/\(U.contains x=true->(kU o).isSome=true) /\ ∃ox,ops[x]? = some ox/\o.apart ops ox=true/\((kU ox).isSome=true->(kU o).isSome=true))
 | [],done,h=>by
  simp only[bG,Lk,aN,bA,cw,bk]at h;obtain⟨⟨h1,h2⟩,h3⟩:=h
  have later:∀(l d:fU),i∈d->Lk ops E U d l=true->i∉l:=by
   intro l
   induction l with
   |nil=>intro _ _ _ h;cases h
   |cons y l ih=>
    intro d hd hm d6;simp only[Lk,aN,bA,cw,bk]at hm;obtain⟨⟨m1,_⟩,m3⟩:=hm;rcases be.1 d6 with rfl|d6
    ·exact m1 hd
    ·exact ih (y::d) (by simp[hd]) m3 d6
  refine⟨k7,h1,later l2 _ k7 h3,?_⟩;split at h2
  ·rename_i o ho;simp only[aN]at h2;refine⟨o,ho,fun e he hb=>?_,fun x hx=>by cases hx⟩;have:=cz.1 h2.1 e he;simp only[hb,cQ,dD,cw,aP]at this;exact .inr this
  ·cases h2
 | y::l1,done,h=>by
  simp only[bE,Lk,aN]at h;obtain⟨h1,h2,h3,o,ho,he,hx⟩:=I3 l1 (y::done) h.2;have gO:i≠y:=fun e=>h2 (by simp[e])
  refine⟨by simp[gO,h1],fun hd=>h2 (by simp[hd]),h3,o,ho,fun e hm hb=>?_,?_⟩
  ·rcases he e hm hb with h4|h4
   ·exact .inl (by simp[h4])
   ·rcases be.1 h4 with h5|h5
    ·exact .inl (by simp[h5])
    ·exact .inr h5
  ·intro x d6;rcases be.1 d6 with rfl|d6
   ·have back:∀(l d:fU),x∈d->Lk ops E U d (l++i::l2)=true->F3 ops ops.size i x=true\/(E.contains x=false/\(U.contains x=true->(kU o).isSome=true) /\ ∃ox,ops[x]? = some ox/\o.apart ops ox=true/\((kU ox).isSome=true->(kU o).isSome=true)):=by
     intro l
     induction l with
     | nil =>
      intro d hd hm;simp only[bG,Lk,aN,ho]at hm;have:=bh.1 hm.1.2.2 x hd;simp only[bV,aN,bA]at this;rcases this.symm with h4|⟨⟨h4,hu⟩,h5⟩
      ·exact .inl h4
      ·refine .inr ⟨h4,(fun iI=>hu.resolve_left fun h=>by rw[iI]at h;cases h),?_⟩;split at h5
       ·rename_i ox ga;simp only[aN,bV,bA]at h5;exact⟨ox,ga,h5.1,fun hs=>by rcases h5.2 with h6|h6;rw[h6]at hs;cases hs;exact h6⟩
       ·cases h5
     |cons z l ih=>
      intro d hd hm;simp only[bE,Lk,aN]at hm;exact ih (z::d) (by simp[hd]) hm.2
    exact back l1 _ k7 h.2
   ·exact hx x d6
def IM(ops:Array Oper)(E U ord:fU):Bool:=Lk ops E U [] ord&&(List.range ops.size).all ord.contains&&ord.length==ops.size
theorem US(ht:BC P tab)(hN:P.funcs.size=N){ord:fU}(hB:IM ops E U ord=true)(hA:Ua tab n ops=true){g0:G}{rr:Option Nat}(hr:lw g0 ro rr): ∀(m:Nat) (r:fU) (listed:Array Bool) (γ:Fr) (V:Sig),r.length=m->listed.size=ops.size->
  r=ord.filter (fun i=> !listed.getD i true)->lG ops listed->lT P ro n ops N S0 Q df tab E U r γ V->Sub S0 V->
   ∀(g:G) (w:World) (a:Act),g0.le g->lP P g n ⟨γ,V,df⟩ a w->wpAnyIn (FX P rr) 0 P .any ops (lQ P g0 n Q) m listed a w:=by
 unfold IM at hB;simp only[aN]at hB;obtain⟨⟨d9,gx⟩,_⟩:=hB
 have d6:∀(r:fU) (listed:Array Bool),r=ord.filter (fun i=> !listed.getD i true)->∀i∈Region.ready .any ops listed,i∈r:=by
  intro r listed hf i hi;obtain⟨h1,o,ho,_⟩:=mem_ready.1 hi;have:=bh.1 gx i (by simpa using(aX.1 ho).1);rw[hf,bR];exact⟨by simpa using this,by rw[h1];rfl⟩
 intro m
 induction m with
 |zero=>
  intro r listed γ V hl fZ hf f0 h hC g w a hg hs;obtain rfl:r=[]:=bH.1 hl;refine⟨cX.2 fun i hi=>?_,?_⟩
  ·have:=d6 [] listed hf i hi;cases this
  ·exact lQ.le hg (h g w a rr (hr.mono hg) hs)
 | succ m ih =>
  intro r listed γ V hl fZ hf f0 h hC g w a hg hs;obtain⟨y,t,rfl⟩:∃y t,r=y::t:=by cases r with|nil=>cases hl|cons y t=>exact⟨y,t,rfl⟩
  refine⟨fun he=>?_,fun i hi=>?_⟩
  ·exfalso
   obtain⟨l1,l2,gb,gN,hy,iv⟩:=cj.1 hf.symm;subst gb;obtain⟨h1,_,_,o,ho,gD,_⟩:=I3 l1 [] d9
   have:y∈Region.ready .any ops listed:=by
    refine mem_ready.2 ⟨by simpa using hy,o,ho,fun e hm hb=>?_⟩;rcases gD e hm hb with h4|h4
    ·have h5:=gN _ h4;simp only[cy,dU]at h5
     have e7:e.on<listed.size:=by
      have:e.on∈l1++y::l2:=by simp[h4]
      obtain⟨p1,p2,hp⟩:=co this;rw[hp]at d9;obtain⟨_,_,_,o',gh,_⟩:=I3 p1 [] d9;rw[fZ];exact(aX.1 gh).1
     simpa[e7] using h5
    ·cases h4
   rw[he]at this;cases this
  ·obtain⟨pre,post,f8⟩:=co (d6 _ listed hf i hi);rw[f8]at hf h hl;obtain⟨l1',l2',gb,gw,gT⟩:=dr.1 hf.symm;obtain⟨m1,m2,gv,gL,iy,gS⟩:=cj.1 gT;have e8:ord=(l1'++m1)++i::m2:=by rw[gb,gv];simp
   rw[e8]at d9;obtain⟨n1,_,n3,o,ho,gD,hx⟩:=I3 (l1'++m1) [] d9;obtain⟨gP,o',gh,go⟩:=mem_ready.1 hi;obtain rfl:o'=o:=by rw[ho]at gh;cases gh;rfl
   have gc:=Kh ho post pre γ V (fun x gB=>by
    have gF:x∈l1'++m1:=by
     have:x∈l1'.filter (fun i=> !listed.getD i true):=by rw[gw];exact gB
     simp[(bR.1 this).1]
    have gA:listed.getD x true=false:=by
     have:x∈l1'.filter (fun i=> !listed.getD i true):=by rw[gw];exact gB
     simpa using(bR.1 this).2
    rcases hx x gF with h4|h4
    ·exfalso
     have:=CN f0 ops.size i x o' ho go h4
     rcases cF x listed.size with e7|e7
     ·simp[e7]at this gA;rw[gA]at this;cases this
     ·simp[cu e7]at this
    ·exact h4) h
   have d8:pre++post=ord.filter (fun j=> !(listed.setIfInBounds i true).getD j true):=by
    have gQ:i<listed.size:=by
     rw[fZ];exact(aX.1 ho).1
    rw[e8,cn,cP];have e1:(listed.setIfInBounds i true).getD i true=true:=by simp[gQ]
    rw[e1,AC n1,AC n3];simp only[cQ,bz,bl,cn,gw,gS];rw[cH.2 (fun x hx=>by simpa using gL x hx),br]
   have hlen:(pre++post).length=m:=by simp at hl⊢; omega
   obtain⟨o2,gC,hh⟩:=gc;obtain rfl:o2=o':=by rw[ho]at gC;cases gC;rfl
   have gu:=cz.1 hA o2 (Array.mem_of_getElem? ho);unfold wpOpIn;simp only[ho];cases gg:kU o2 with
   | some p =>
    obtain⟨t,T⟩:=p;rw[gg]at gu;simp only[aN,aP,bA]at gu;obtain⟨_,_,_,rfl⟩:=FC gg;simp only[km,kU]at hh;refine Dr (Q:=Q) (R:=fun d U'=> ∃k,V k=none/\d=.ptr k 0/\U'=V.set k (.cells (tab T).zero)) (Rp:=fun _ _=>False) (hr.mono hg) hg hs ⟨by simp[AJ,gu.1],rfl,?_⟩ (fun g' w' a' d U' gj hR hs'=>?_) fun _ _ h=>h.elim
    ·exact El ht gu.2 gu.1 fun k hk=>AU ⟨rfl,k,hk,by simp[Aa],rfl⟩
    ·obtain⟨k,hk,rfl,rfl⟩:=hR;exact ih _ _ _ _ hlen (by simpa using fZ) d8 (f0.set hi) (hh k hk) (fun i o h=>(Sub.refl _).set hk i o (hC i o h)) g' w' a' (hg.trans gj) hs'
   | none =>
    simp only[km,gg]at hh;rcases hh with⟨d,hy,hM⟩|⟨_,hE⟩|⟨_,hu⟩
    ·exact Fk (Q:=Q) hN (hr.mono hg) hg hs hC hy fun g' w' a' gj hs'=>ih _ _ _ _ hlen (by simpa using fZ) d8 (f0.set hi) hM hC g' w' a' (hg.trans gj) hs'
    ·exact Dr (Q:=Q) (hr.mono hg) hg hs hE (fun g' w' a' d U' gj hR hs'=>ih _ _ _ _ hlen (by simpa using fZ) d8 (f0.set hi) hR.2 hR.1 g' w' a' (hg.trans gj) hs') fun d U' hp=>hp
    ·rcases hu with⟨dj,x,hE,hK⟩|⟨j,y,x,d,hj,h0,hE,hK⟩
     ·refine Dr (Q:=Q) (hr.mono hg) hg hs (hE V) (fun g' w' a' d U' gj hR hs'=>?_) fun _ _ h=>h.elim;obtain⟨j,hj,rfl,rfl⟩:=hR;exact ih _ _ _ _ hlen (by simpa using fZ) d8 (f0.set hi) (hK j hj) (fun i o h=>(Sub.refl _).set hj i o (hC i o h)) g' w' a' (hg.trans gj) hs'
     ·refine Dr (Q:=Q) (hr.mono hg) hg hs (hE V hj) (fun g' w' a' d' U' gj hR hs'=>?_) fun _ _ h=>h.elim;obtain⟨rfl,rfl⟩:=hR;exact ih _ _ _ _ hlen (by simpa using fZ) d8 (f0.set hi) hK (fun i o h=>by rw[w8 _ _ fun e=>by rw[e,h0]at h;cases h];exact hC i o h) g' w' a' (hg.trans gj) hs'
def UI(ops:List Oper)(E U:fU):fU->Option (List (Bool×Bool×Oper))
 |[]=>some []
 | i::r=>match nthO ops i with
  |some o=>match UI ops E U r with
   |some l=>some ((E.contains i,U.contains i,o)::l)
   |none=>none
  |none=>none
theorem J5{lo:List Oper}: ∀{ord:fU}{lp:List (Bool×Bool×Oper)}{γ:Fr}{V:Sig},UI lo E U ord=some lp->MO3 P ro n lo.toArray N S0 Q df tab lp γ V->lT P ro n lo.toArray N S0 Q df tab E U ord γ V
 |[],_,_,_,hp,h=>by cases hp;exact h
 |i::r,lp,γ,V,hp,h=>by
  simp only[UI]at hp;split at hp<;>(try (cases hp;done));rename_i o ho;split at hp<;>(try (cases hp;done));rename_i l hl;cases hp;refine⟨o,by rw[Kd]at ho;simpa using ho,?_⟩;exact km.mono h (fun _=>rfl) fun γ V' V fX h=>lT.alike _ fX (J5 hl h)
theorem Zm(ht:BC P tab)(hN:P.funcs.size=N)(hm:P.follows .mixedOrders=true){l:List Oper}{id:Nat}{γ:Fr}{V:Sig}(ord E U:fU)(S0:Sig)(hB:IM l.toArray E U ord=true)(hA:Ua tab n l.toArray=true)(hC:Sub S0 V)
  {lp:List (Bool×Bool×Oper)} (gM:UI l E U ord=some lp) (h:MO3 P ro n l.toArray N S0 Q df tab lp γ V):DWp P ro n (.region id l.toArray true) Q ⟨γ,V,df⟩:=by
 intro g w a r hr hs;refine wpIn_region_any hm ?_
 have f0:lG l.toArray (Array.replicate l.toArray.size false):=by
  intro q o _ hq;rcases cF q l.length with h'|h'
  ·simp[h']at hq
  ·simp[h']at hq
 have hs':lP P g n ⟨γ,V,df⟩ a { w with drawn:=w.drawn+1 }:=
  ⟨⟨fun b o v h=>hs.sim.imm b o v h,hs.sim.keep,fun i o h=>by
   have:=hs.sim.obj i o h
   cases o<;>exact this,hs.sim.inj,hs.sim.free,hs.sim.htop,hs.sim.hdom,hs.sim.fin,hs.sim.io⟩,hs.tmps,hs.df⟩
 have e7:∀i∈ord,i<l.toArray.size:=by
  intro i hi;obtain⟨p1,p2,hp⟩:=co hi;have fY:=hB;unfold IM at fY;simp only[aN]at fY;rw[hp]at fY;obtain⟨_,_,_,o',gh,_⟩:=I3 p1 [] fY.1.1;exact(aX.1 gh).1
 have hlen:ord.length=l.toArray.size:=by
  have fY:=hB;unfold IM at fY;simp only[aN,cL]at fY;exact fY.2
 have:=US ht hN hB hA hr ord.length ord (Array.replicate l.toArray.size false) γ V rfl k7 (DK e7).symm f0 (J5 gM h) hC g _ a (.refl g) hs';rw[hlen]at this;exact this
theorem Kl: ∀{l:List (Bool×Bool×Oper)}{γ:Fr}{V:Sig},(l.all fun p=> !(kU p.2.2).isSome)=true->MO P ro n ops N S0 Q df (l.map fun p=>(p.1,p.2.2)) γ V->MO3 P ro n ops N S0 Q df tab l γ V
 |[],_,_,_,h=>h
 |(e,u,o)::l,γ,V,hl,h=>by
  simp only[bU,aN,bA]at hl;have hn:kU o=none:=by cases h:kU o with|none=>rfl|some _=>rw[h]at hl;simp at hl
  show km P ro n ops N S0 Q df tab e u o γ V _;simp only[km,hn];rcases h with⟨d,h2,h3⟩|⟨h1,h2⟩
  ·exact .inl ⟨d,h2,Kl hl.2 h3⟩
  ·exact .inr (.inl ⟨h1,h2.congr (fun _ _=>rfl) fun d U' ⟨h3,h4⟩=>⟨h3,Kl hl.2 h4⟩⟩)
theorem V1{e u:Bool}{t T:Nat}{ty:TypeId}{pos:String}{after:Array Edge}{l:List (Bool×Bool×Oper)}{γ:Fr}{V:Sig}(h:∀k,V k=none->MO3 P ro n ops N S0 Q df tab l ((t,.ptr k 0)::γ) (V.set k (.cells (tab T).zero))):
  MO3 P ro n ops N S0 Q df tab ((e,u,⟨some t,.alloc T,ty,pos,after,none⟩)::l) γ V:=h
theorem Yu(ht:BC P tab){e u:Bool}{t:Nat}{op:Op}{ty:TypeId}{pos:String}{after:Array Edge}{d:D}{l:List (Bool×Bool×Oper)}{γ Sr:Fr}{V:Sig}(hr:F2 op=true)(gK:decide (t<n)=true)(hl:A7 γ (Ac op.operands.toList)=some Sr)(hd:kT tab Sr S0 op=some d)
  (h:MO3 P ro n ops N S0 Q df tab l ((t,d)::γ) V):MO3 P ro n ops N S0 Q df tab ((e,u,⟨some t,op,ty,pos,after,none⟩)::l) γ V:=by
 have gE:=(BO (CK hl)) ▸ hd
 have ha:kU ⟨some t,op,ty,pos,after,none⟩=none:=by
  unfold kU;split
  ·rename_i gZ;cases gZ;cases hr
  ·rfl
 show km P ro n ops N S0 Q df tab e u _ γ V _;simp only[km,ha];refine .inl ⟨d,⟨gK,.inl ⟨by rw[Bg];rfl,D3 hr,Le ht gE,fun U' hZ g w a hs hT=>?_⟩⟩,h⟩;refine GD ht hs hT (?_:kT tab (only _ γ) U' op=some d);rw[BO (V':=γ) fun x hx=>Cw (o:=⟨some t,op,ty,pos,after,none⟩) hx];exact Io hZ gE
theorem mo3_u{e:Bool}{o:Oper}{l:List (Bool×Bool×Oper)}{γ:Fr}{V:Sig}(ha:kU o=none)(h:USt P ro n ops S0 df o γ V (MO3 P ro n ops N S0 Q df tab l)):MO3 P ro n ops N S0 Q df tab ((e,true,o)::l) γ V:=by
 show km P ro n ops N S0 Q df tab e true o γ V _;simp only[km,ha];exact .inr (.inr ⟨trivial,h⟩)
end
section
variable (P:Program)(ro:Option Nat)(n:Nat)(ops:Array Oper)(N:Nat)(Q:DX->St->Prop)(df:List DDf)
def lx (E C K:fU):fU->Sig->Fr->Sig->Prop
  |[],_,γ,V=>aC P ro n ops Q [] ⟨γ,V,df⟩
  | i::r,S0,γ,V => ∃ o,ops[i]? = some o /\
    ((∃ d,Calm P n ops N (if C.contains i=true then S0 else fun _=>none) γ o d/\lx E C K r S0 (putD o.dst d γ) V) \/
     (E.contains i=true/\Eff P ro n ops df γ V o (fun d U'=> ∃S1,Sub S1 U'/\(K.contains i=false->S1=S0)/\lx E C K r S1 (putD o.dst d γ) U') (fun d U'=> ∀V',Q (.panic d) ⟨V',U',df⟩)))
def MO4:List (Bool × Bool × Bool × Oper)->Sig->Fr->Sig->Prop
  |[],_,γ,V=>aC P ro n ops Q [] ⟨γ,V,df⟩
  | (e,c,k,o)::r,S0,γ,V =>
    (∃ d,Calm P n ops N (if c=true then S0 else fun _=>none) γ o d/\MO4 r S0 (putD o.dst d γ) V) \/
     (e=true/\Eff P ro n ops df γ V o (fun d U'=> ∃S1,Sub S1 U'/\(k=false->S1=S0)/\MO4 r S1 (putD o.dst d γ) U') (fun d U'=> ∀V',Q (.panic d) ⟨V',U',df⟩))
end
section
variable {P:Program}{ro:Option Nat}{n:Nat}{ops:Array Oper}{N:Nat}{S0:Sig}{Q:DX->St->Prop}{df:List DDf}{E C K:fU}{tab:Nat->Ty}
theorem lx.alike: ∀(l:fU) {S0:Sig}{γ V':Fr}{V:Sig},lY γ V'->lx P ro n ops N Q df E C K l S0 γ V->lx P ro n ops N Q df E C K l S0 V' V
 |[],_,_,_,_,h,k=>Dj h k
 |i::r,_,_,_,_,h,⟨o,ho,k⟩=>⟨o,ho,(match k with
  |.inl ⟨d,h2,h3⟩=>.inl ⟨d,h2.congr fun t _=>h t,lx.alike r (h.put _ _) h3⟩
  |.inr ⟨h1,h2⟩=>.inr ⟨h1,h2.congr (fun t _=>h t) fun d U' ⟨S1,h3,h5,h4⟩=>⟨S1,h3,h5,lx.alike r (h.put _ _) h4⟩⟩)⟩
theorem Calm.base{S0 S1:Sig}{γ:Fr}{o:Oper}{d:D}(h:Calm P n ops N S0 γ o d)(hs:Sub S0 S1):Calm P n ops N S1 γ o d:=
 ⟨h.ok,by
  rcases h.run with⟨a,b,c,e⟩|h|⟨a,e⟩
  ·exact .inl ⟨a,b,c,fun V hZ=>e V (hs.trans hZ)⟩
  ·exact .inr (.inl h)
  ·exact .inr (.inr ⟨a,fun V hZ=>e V (hs.trans hZ)⟩)⟩
theorem Kg{i:Nat}{oi:Oper}(hi:ops[i]? = some oi)(post:fU): ∀(pre:fU) (γ:Fr) (V:Sig),
  (∀x∈pre,E.contains x=false/\(K.contains i&&C.contains x)=false /\ ∃ox,ops[x]? = some ox/\oi.apart ops ox=true)->lx P ro n ops N Q df E C K (pre++i::post) S0 γ V->lx P ro n ops N Q df E C K (i::(pre++post)) S0 γ V
 |[],_,_,_,h=>h
 | x::pre,γ,V,hp,h=>by
  obtain⟨gJ,g8,ox,ga,gV⟩:=hp x k7;obtain⟨a1,a2,a3⟩:=Oper.apart_spec gV;obtain⟨ox',gk,hx⟩:=h;obtain rfl:ox'=ox:=by rw[ga]at gk;cases gk;rfl
  rcases hx with⟨d,hy,h⟩|⟨hE,_⟩
  ·obtain⟨oi',d7,hh⟩:=Kg hi post pre _ V (fun y hy=>hp y (by simp[hy])) h;obtain rfl:oi'=oi:=by rw[hi]at d7;cases d7;rfl
   refine⟨oi',hi,?_⟩;rcases hh with⟨e,h2,h3⟩|⟨h1,h2⟩
   ·refine .inl ⟨e,h2.congr fun t ht=>AR fun hd=>a3 t hd ht,ox',ga,.inl ⟨d,hy.congr fun t ht=>(AR fun hd=>a1 t hd ht).symm,?_⟩⟩;exact lx.alike _ (BP _ _ _ fun t p q=>a2 t p q) h3
   ·refine .inr ⟨h1,h2.congr (fun t ht=>AR fun hd=>a3 t hd ht) fun e U' ⟨S1,h3,h5,h4⟩=>⟨S1,h3,h5,ox',ga,.inl ⟨d,?_,lx.alike _ (BP _ _ _ fun t p q=>a2 t p q) h4⟩⟩⟩;have gI:=hy.congr (V':=putD oi'.dst e γ) fun t ht=>(AR fun hd=>a1 t hd ht).symm;cases hk:K.contains i with
    |false=>rw[h5 hk];exact gI
    |true=>
     rw[hk,bd]at g8;rw[g8]at gI⊢;exact gI
  ·rw[gJ]at hE;cases hE
def Lj(ops:Array Oper)(E C K:fU):fU->fU->Bool
 |_,[]=>true
 | done,i::r => !done.contains i && (match ops[i]? with
  |some o=>(o.after.all fun e=> !Region.binds .any e||done.contains e.on)&&done.all fun x=>(!E.contains x&&!(K.contains i&&C.contains x)&&match ops[x]? with
   |some ox=>o.apart ops ox
   |none=>false)||F3 ops ops.size i x
  |none=>false)&&Lj ops E C K (i::done) r
theorem I2{i:Nat}{l2:fU}: ∀(l1 done:fU),Lj ops E C K done (l1++i::l2)=true->i∉l1/\i∉done/\i∉l2 /\ ∃o,ops[i]? = some o/\(∀e∈o.after,Region.binds .any e=true->e.on∈l1\/e.on∈done) /\
   ∀x,x∈l1->F3 ops ops.size i x=true\/(E.contains x=false/\(K.contains i&&C.contains x)=false /\ ∃ox,ops[x]? = some ox/\o.apart ops ox=true)
 | [],done,h=>by
  simp only[bG,Lj,aN,bA,cw,bk]at h;obtain⟨⟨h1,h2⟩,h3⟩:=h
  have later:∀(l d:fU),i∈d->Lj ops E C K d l=true->i∉l:=by
   intro l
   induction l with
   |nil=>intro _ _ _ h;cases h
   |cons y l ih=>
    intro d hd hm d6;simp only[Lj,aN,bA,cw,bk]at hm;obtain⟨⟨m1,_⟩,m3⟩:=hm;rcases be.1 d6 with rfl|d6
    ·exact m1 hd
    ·exact ih (y::d) (by simp[hd]) m3 d6
  refine⟨k7,h1,later l2 _ k7 h3,?_⟩;split at h2
  ·rename_i o ho;simp only[aN]at h2;refine⟨o,ho,fun e he hb=>?_,fun x hx=>by cases hx⟩;have:=cz.1 h2.1 e he;simp only[hb,cQ,dD,cw,aP]at this;exact .inr this
  ·cases h2
 | y::l1,done,h=>by
  simp only[bE,Lj,aN]at h;obtain⟨h1,h2,h3,o,ho,he,hx⟩:=I2 l1 (y::done) h.2;have gO:i≠y:=fun e=>h2 (by simp[e])
  refine⟨by simp[gO,h1],fun hd=>h2 (by simp[hd]),h3,o,ho,fun e hm hb=>?_,?_⟩
  ·rcases he e hm hb with h4|h4
   ·exact .inl (by simp[h4])
   ·rcases be.1 h4 with h5|h5
    ·exact .inl (by simp[h5])
    ·exact .inr h5
  ·intro x d6;rcases be.1 d6 with rfl|d6
   ·
    have back:∀(l d:fU),x∈d->Lj ops E C K d (l++i::l2)=true->F3 ops ops.size i x=true\/(E.contains x=false/\(K.contains i&&C.contains x)=false /\ ∃ox,ops[x]? = some ox/\o.apart ops ox=true):=by
     intro l
     induction l with
     | nil =>
      intro d hd hm;simp only[bG,Lj,aN,ho]at hm;have:=bh.1 hm.1.2.2 x hd;simp only[bV,aN,bA]at this;rcases this.symm with h4|⟨⟨h4,h6⟩,h5⟩
      ·exact .inl h4
      ·refine .inr ⟨h4,h6,?_⟩;split at h5
       ·rename_i ox ga;exact⟨ox,ga,h5⟩
       ·cases h5
     |cons z l ih=>
      intro d hd hm;simp only[bE,Lj,aN]at hm;exact ih (z::d) (by simp[hd]) hm.2
    exact back l1 _ k7 h.2
   ·exact hx x d6
def IL(ops:Array Oper)(E C K ord:fU):Bool:=Lj ops E C K [] ord&&(List.range ops.size).all ord.contains&&ord.length==ops.size
theorem UR(hN:P.funcs.size=N){ord:fU}(hB:IL ops E C K ord=true){g0:G}{rr:Option Nat}(hr:lw g0 ro rr): ∀(m:Nat) (r:fU) (listed:Array Bool) (S0:Sig) (γ:Fr) (V:Sig),r.length=m->listed.size=ops.size->
  r=ord.filter (fun i=> !listed.getD i true)->lG ops listed->lx P ro n ops N Q df E C K r S0 γ V->Sub S0 V->
   ∀(g:G) (w:World) (a:Act),g0.le g->lP P g n ⟨γ,V,df⟩ a w->wpAnyIn (FX P rr) 0 P .any ops (lQ P g0 n Q) m listed a w:=by
 unfold IL at hB;simp only[aN]at hB;obtain⟨⟨d9,gx⟩,_⟩:=hB
 have d6:∀(r:fU) (listed:Array Bool),r=ord.filter (fun i=> !listed.getD i true)->∀i∈Region.ready .any ops listed,i∈r:=by
  intro r listed hf i hi;obtain⟨h1,o,ho,_⟩:=mem_ready.1 hi;have:=bh.1 gx i (by simpa using(aX.1 ho).1);rw[hf,bR];exact⟨by simpa using this,by rw[h1];rfl⟩
 intro m
 induction m with
 |zero=>
  intro r listed S0 γ V hl fZ hf f0 h hC g w a hg hs;obtain rfl:r=[]:=bH.1 hl;refine⟨cX.2 fun i hi=>?_,?_⟩
  ·have:=d6 [] listed hf i hi;cases this
  ·exact lQ.le hg (h g w a rr (hr.mono hg) hs)
 | succ m ih =>
  intro r listed S0 γ V hl fZ hf f0 h hC g w a hg hs;obtain⟨y,t,rfl⟩:∃y t,r=y::t:=by cases r with|nil=>cases hl|cons y t=>exact⟨y,t,rfl⟩
  refine⟨fun he=>?_,fun i hi=>?_⟩
  ·exfalso
   obtain⟨l1,l2,gb,gN,hy,iv⟩:=cj.1 hf.symm;subst gb;obtain⟨h1,_,_,o,ho,gD,_⟩:=I2 l1 [] d9
   have:y∈Region.ready .any ops listed:=by
    refine mem_ready.2 ⟨by simpa using hy,o,ho,fun e hm hb=>?_⟩;rcases gD e hm hb with h4|h4
    ·have h5:=gN _ h4;simp only[cy,dU]at h5
     have e7:e.on<listed.size:=by
      have:e.on∈l1++y::l2:=by simp[h4]
      obtain⟨p1,p2,hp⟩:=co this;rw[hp]at d9;obtain⟨_,_,_,o',gh,_⟩:=I2 p1 [] d9;rw[fZ];exact(aX.1 gh).1
     simpa[e7] using h5
    ·cases h4
   rw[he]at this;cases this
  ·obtain⟨pre,post,f8⟩:=co (d6 _ listed hf i hi);rw[f8]at hf h hl;obtain⟨l1',l2',gb,gw,gT⟩:=dr.1 hf.symm;obtain⟨m1,m2,gv,gL,iy,gS⟩:=cj.1 gT;have e8:ord=(l1'++m1)++i::m2:=by rw[gb,gv];simp
   rw[e8]at d9;obtain⟨n1,_,n3,o,ho,gD,hx⟩:=I2 (l1'++m1) [] d9;obtain⟨gP,o',gh,go⟩:=mem_ready.1 hi;obtain rfl:o'=o:=by rw[ho]at gh;cases gh;rfl
   have gc:=Kg ho post pre γ V (fun x gB=>by
    have gF:x∈l1'++m1:=by
     have:x∈l1'.filter (fun i=> !listed.getD i true):=by rw[gw];exact gB
     simp[(bR.1 this).1]
    have gA:listed.getD x true=false:=by
     have:x∈l1'.filter (fun i=> !listed.getD i true):=by rw[gw];exact gB
     simpa using(bR.1 this).2
    rcases hx x gF with h4|h4
    ·exfalso
     have:=CN f0 ops.size i x o' ho go h4
     rcases cF x listed.size with e7|e7
     ·simp[e7]at this gA;rw[gA]at this;cases this
     ·simp[cu e7]at this
    ·exact h4) h
   have d8:pre++post=ord.filter (fun j=> !(listed.setIfInBounds i true).getD j true):=by
    have gQ:i<listed.size:=by
     rw[fZ];exact(aX.1 ho).1
    rw[e8,cn,cP];have e1:(listed.setIfInBounds i true).getD i true=true:=by simp[gQ]
    rw[e1,AC n1,AC n3];simp only[cQ,bz,bl,cn,gw,gS];rw[cH.2 (fun x hx=>by simpa using gL x hx),br]
   have hlen:(pre++post).length=m:=by simp at hl⊢; omega
   obtain⟨o2,gC,hh⟩:=gc;obtain rfl:o2=o':=by rw[ho]at gC;cases gC;rfl
   unfold wpOpIn;simp only[ho];rcases hh with⟨d,hy,hM⟩|⟨_,hE⟩
   ·have iE:Calm P n ops N S0 γ o2 d:=hy.base (by split;exact Sub.refl _;exact fun _ _ h=>by cases h);exact Fk hN (hr.mono hg) hg hs hC iE fun g' w' a' gj hs'=>ih _ _ _ _ _ hlen (by simpa using fZ) d8 (f0.set hi) hM hC g' w' a' (hg.trans gj) hs'
   ·exact Dr (hr.mono hg) hg hs hE (fun g' w' a' d U' gj hR hs'=>by obtain⟨S1,h3,_,h4⟩:=hR;exact ih _ _ _ _ _ hlen (by simpa using fZ) d8 (f0.set hi) h4 h3 g' w' a' (hg.trans gj) hs') fun d U' hp=>hp
def UJ(ops:List Oper)(E C K:fU):fU->Option (List (Bool×Bool×Bool×Oper))
 |[]=>some []
 | i::r=>match nthO ops i with
  |some o=>match UJ ops E C K r with
   |some l=>some ((E.contains i,C.contains i,K.contains i,o)::l)
   |none=>none
  |none=>none
theorem Gk{lo:List Oper}: ∀{ord:fU}{lp:List (Bool×Bool×Bool×Oper)}{S0:Sig}{γ:Fr}{V:Sig},UJ lo E C K ord=some lp->MO4 P ro n lo.toArray N Q df lp S0 γ V->lx P ro n lo.toArray N Q df E C K ord S0 γ V
 |[],_,_,_,_,hp,h=>by cases hp;exact h
 |i::r,lp,S0,γ,V,hp,h=>by
  simp only[UJ]at hp;split at hp<;>(try (cases hp;done));rename_i o ho;split at hp<;>(try (cases hp;done));rename_i l hl;cases hp;refine⟨o,by rw[Kd]at ho;simpa using ho,?_⟩;rcases h with⟨d,h2,h3⟩|⟨h1,h2⟩
  ·exact .inl ⟨d,h2,Gk hl h3⟩
  ·exact .inr ⟨h1,h2.congr (fun _ _=>rfl) fun d U' ⟨S1,h3,h5,h4⟩=>⟨S1,h3,h5,Gk hl h4⟩⟩
theorem Zo(hN:P.funcs.size=N)(hm:P.follows .mixedOrders=true){l:List Oper}{id:Nat}{γ:Fr}{V:Sig}(ord E C K:fU)(S0:Sig)(hB:IL l.toArray E C K ord=true)(hC:Sub S0 V)
  {lp:List (Bool×Bool×Bool×Oper)} (gM:UJ l E C K ord=some lp) (h0:MO4 P ro n l.toArray N Q df lp S0 γ V):DWp P ro n (.region id l.toArray true) Q ⟨γ,V,df⟩:=by
 intro g w a r hr hs;refine wpIn_region_any hm ?_
 have f0:lG l.toArray (Array.replicate l.toArray.size false):=by
  intro q o _ hq;rcases cF q l.length with h'|h'
  ·simp[h']at hq
  ·simp[h']at hq
 have hs':lP P g n ⟨γ,V,df⟩ a { w with drawn:=w.drawn+1 }:=
  ⟨⟨fun b o v h=>hs.sim.imm b o v h,hs.sim.keep,fun i o h=>by
   have:=hs.sim.obj i o h
   cases o<;>exact this,hs.sim.inj,hs.sim.free,hs.sim.htop,hs.sim.hdom,hs.sim.fin,hs.sim.io⟩,hs.tmps,hs.df⟩
 have e7:∀i∈ord,i<l.toArray.size:=by
  intro i hi;obtain⟨p1,p2,hp⟩:=co hi;have fY:=hB;unfold IL at fY;simp only[aN]at fY;rw[hp]at fY;obtain⟨_,_,_,o',gh,_⟩:=I2 p1 [] fY.1.1;exact(aX.1 gh).1
 have hlen:ord.length=l.toArray.size:=by
  have fY:=hB;unfold IL at fY;simp only[aN,cL]at fY;exact fY.2
 have:=UR hN hB hr ord.length ord (Array.replicate l.toArray.size false) S0 γ V rfl k7 (DK e7).symm f0 (Gk gM h0) hC g _ a (.refl g) hs';rw[hlen]at this;exact this
theorem Yt(ht:BC P tab){e c k:Bool}{t:Nat}{op:Op}{ty:TypeId}{pos:String}{after:Array Edge}{d:D}{l:List (Bool×Bool×Bool×Oper)}{γ Sr:Fr}{V:Sig}(hr:F2 op=true)(gK:decide (t<n)=true)(hl:A7 γ (Ac op.operands.toList)=some Sr)(hd:kT tab Sr (if c=true then S0 else fun _=>none) op=some d)
  (h:MO4 P ro n ops N Q df l S0 ((t,d)::γ) V):MO4 P ro n ops N Q df ((e,c,k,⟨some t,op,ty,pos,after,none⟩)::l) S0 γ V:=by
 have gE:=(BO (CK hl)) ▸ hd;refine .inl ⟨d,⟨gK,.inl ⟨by rw[Bg];rfl,D3 hr,Le ht gE,fun U' hZ g w a hs hT=>?_⟩⟩,h⟩;refine GD ht hs hT (?_:kT tab (only _ γ) U' op=some d);rw[BO (V':=γ) fun x hx=>Cw (o:=⟨some t,op,ty,pos,after,none⟩) hx];exact Io hZ gE
theorem V0(ht:BC P tab){c k:Bool}{o:Oper}{d:D}{U':Sig}{l:List (Bool×Bool×Bool×Oper)}{γ:Fr}{V:Sig}(S1:Sig)(ho:AJ n o=true)(hw:AY ops γ o=some true)(he:eopD tab γ V o.op=some (d,U'))(hC:Sub S1 U')(hk:k=false->S1=S0)
  (h:MO4 P ro n ops N Q df l S1 (putD o.dst d γ) U'):MO4 P ro n ops N Q df ((true,c,k,o)::l) S0 γ V:=by
 refine .inr ⟨rfl,ho,by rw[Bg];exact hw,?_⟩;refine FM ht (by rw[Bg];exact hw) (by rw[BF (V':=γ) fun x hx=>Cw hx];exact he) ho (AU ⟨rfl,?_⟩);cases hd:o.dst with
 |none=>rw[hd]at h;exact⟨S1,hC,hk,h⟩
 |some t=>
  rw[hd]at h;simp only[putD,Aa,bI];exact⟨S1,hC,hk,h⟩
end
def find_born{es:Array MapEntry}(iK:(es.toList.map (·.born)).Nodup){j:Nat}{e:MapEntry}(hj:es[j]? = some e):es.findIdx? (fun x=>(x.born:Int)==(e.born:Int))=some j:=by
 rw[Array.findIdx?_eq_some_iff_getElem];obtain⟨hl,rfl⟩:=aX.1 hj;refine⟨hl,k7,fun k hk=>?_⟩;simp only[cy,beq_eq_false_iff_ne,ne_eq];intro he;have he:es[k].born=es[j].born:=by omega
 have:=(fO.1 iK) k j (by simp;omega) (by simp;omega) hk;simp at this;exact this he
def Qn(es:Array MapEntry)(j:Nat)(f:MapEntry->MapEntry)(hf:∀e,(f e).born=e.born):(es.modify j f).toList.map (·.born)=es.toList.map (·.born):=by
 apply ek; intro k;simp only[bN,cD,dv]
 by_cases hk:j=k
 ·subst hk;rw[aS rfl];cases es[j]? with
  |none=>rfl
  |some e=>simp[hf]
 ·rw[aQ hk]
def T4(es:Array MapEntry)(j:Nat)(f h:MapEntry->MapEntry):(es.modify j f).modify j h=es.modify j fun e=>h (f e):=by
 apply Array.ext_getElem?; intro k;simp only[dv]
 by_cases hk:j=k
 ·subst hk;simp[fJ];rfl
 ·simp[hk]
def Qk(es:Array MapEntry)(e:MapEntry)(f:MapEntry->MapEntry):(es.push e).modify es.size f=es.push (f e):=by
 apply Array.ext_getElem?; intro k;simp only[dv,Array.getElem?_push]
 by_cases hk:es.size=k
 ·subst hk;simp
 ·have:¬k=es.size:=fun h=>hk h.symm;simp[hk,this]
def K6{P:Program}{w:World}{r clock clock' clock'':Nat}{es es' es'':Array MapEntry}(h:w.heap[r]? = some (.map es clock)):(setObj r (.map es'' clock'')).run P (setB w r (.map es' clock'))=.ok () (setB w r (.map es'' clock'')):=by
 have h2:(setB w r (.map es' clock')).heap[r]? = some (.map es' clock'):=DC h;have h3:=Of w r (.map es' clock') (.map es'' clock'');rw[<-h3];simp only[setObj,Sem.run,h2];rfl
section
variable {P:Program}{tab:Nat->Ty}(ht:BC P tab){g:G}{V:Sig}{w:World}(hs:Sim P g V w)
include ht hs
theorem TP{t kt et id:Nat}{x k d zd:D}{l l':List (D×D)}{m u v:Value}(gX:(tab t).k=.map kt et)(gG:A5 (tab et).k=false)(hz:HD (tab et)=some zd)(hk:Bx (tab kt).k k=true)(hm:x=.map id)(hZ:V id=some (.map l))(hp:CE (tab kt).k k d l=some l')
  (h1:Rep g x m) (h2:Rep g k u) (h3:Rep g d v):∃w1 v0 s w2,(Instr.mapEntry t m u).run P w=.ok (.tuple #[v0,goInt s]) w1/\(Instr.entryStore t m (goInt s) v).run P w1=.ok () w2/\Sim P g (V.set id (.map l')) w2:=by
 subst hm;obtain⟨b',gU,rfl⟩:=h1;obtain⟨b,es,clock,hb,hh,hr,gW⟩:=hs.obj _ _ hZ;rw[gU]at hb;cases hb;obtain⟨desc,iA,iz,iB⟩:=LV (t:=t) (et:=et) ht hs hk h2 false;have hu:=Hi ht gX;unfold CE at hp;split at hp<;>(try (cases hp;done))
 ·rename_i j dd hf;cases hp;obtain⟨r',e1,e2⟩:=Ez (g:=g) iz h2 hr hf;cases r' with
  |none=>exact e2.elim
  | some q =>
   obtain⟨j',y⟩:=q;obtain⟨rfl,e2,_,e,a1,a2,a3⟩:=e2;rw[dQ]at a1;have a1':es[j]? = some e:=by simpa using a1
   refine⟨setB w b' (.map (es.modify j fun e=>{ e with key:=u }) clock),y,e.born,setB w b' (.map (es.modify j fun e=>{ e with key:=u,val:=v }) clock),?_,?_,?_⟩
   ·simp only[Instr.mapEntry,bb,A2 hu,aU,Cq hh,iB,Instr.findKey,A2 iA,e1,bp,a1',bT,ca,Instr.keyThatStays,K5 hk a2 h2,bI,GH ht hs hh]
   ·have hg:(getObj b').run P (setB w b' (.map (es.modify j fun e=>{ e with key:=u }) clock))=.ok (.map (es.modify j fun e=>{ e with key:=u }) clock) (setB w b' (.map (es.modify j fun e=>{ e with key:=u }) clock)):=Cq (DC hh);have gR:=find_born (es:=es.modify j fun e=>{ e with key:=u }) (e:={ e with key:=u }) (by rw[Qn es j (fun e=>{ e with key:=u }) fun _=>rfl];exact gW.1) (j:=j) (by rw[dv,aS rfl,a1'];rfl);simp only at gR;simp only[Instr.entryStore,bb,hg,aU,asInt,asIntOf,goInt,bp,gR,T4,K6 hh]
   ·refine hs.setAny hZ rfl rfl gU hh ⟨b',_,clock,gU,DC hh,?_,gW.modify j⟩;simpa using lL.set h2 h3 j hr
 ·rename_i hf;cases hp;obtain⟨r',e1,e2⟩:=Ez (g:=g) iz h2 hr hf;cases r' with
  |some q=>exact e2.elim
  | none =>
   obtain⟨z,z1,z2⟩:=Jq ht gG hz w;refine⟨setB w b' (.map (es.push { key:=u,val:=z,born:=clock }) (clock+1)),z,clock,setB w b' (.map (es.push { key:=u,val:=v,born:=clock }) (clock+1)),?_,?_,?_⟩
   ·simp only[Instr.mapEntry,bb,A2 hu,aU,Cq hh,iB,Instr.findKey,A2 iA,e1,bp,z1,GH ht hs hh]
   ·have hg:(getObj b').run P (setB w b' (.map (es.push { key:=u,val:=z,born:=clock }) (clock+1)))=.ok (.map (es.push { key:=u,val:=z,born:=clock }) (clock+1)) (setB w b' (.map (es.push { key:=u,val:=z,born:=clock }) (clock+1))):=Cq (DC hh);have gR:=find_born (es:=es.push { key:=u,val:=z,born:=clock }) (e:={ key:=u,val:=z,born:=clock }) (gW.push).1 (j:=es.size) k7;simp only at gR;simp only[Instr.entryStore,bb,hg,aU,asInt,asIntOf,goInt,bp,gR,Qk,K6 hh]
   ·refine hs.setAny hZ rfl rfl gU hh ⟨b',_,clock+1,gU,DC hh,?_,gW.push⟩;simpa using lL.push (e:={ key:=u,val:=v,born:=clock }) h2 h3 hr
end
section
variable {P:Program}{ro:Option Nat}{n:Nat}{ops:Array Oper}{Q:DX->St->Prop}{rest:List Oper}{tab:Nat->Ty}{γ:List (Nat×D)}{V:Sig}{df:List DDf}
theorem QF(ht:BC P tab){t1 t2 T kt et id:Nat}{x k v:Operand}{ty1 ty2 ty3:TypeId}{p1 p2 p3:String}{f1 f2 f3:Array Edge}{zd:D}{l l':List (D×D)}(gX:(tab T).k=.map kt et)(gG:A5 (tab et).k=false)(hz:HD (tab et)=some zd)
  (hk:Bx (tab kt).k (ev γ k)=true) (hm:ev γ x=.map id) (hZ:V id=some (.map l)) (hp:CE (tab kt).k (ev γ k) (ev γ v) l=some l') (iq:t1<n) (ij:t2<n) (gF:x≠.tmp t1) (iF:x≠.tmp t2) (iH:v≠.tmp t1) (iG:v≠.tmp t2)
  (h:aC P ro n ops Q rest ⟨(t2,.any)::(t1,.any)::γ,V.set id (.map l'),df⟩) :
  aC P ro n ops Q (⟨some t1,.mapEntry T x k,ty1,p1,f1,none⟩::⟨some t2,.extract (.tmp t1) 1,ty2,p2,f2,none⟩::⟨none,.entryStore T x (.tmp t2) v,ty3,p3,f3,none⟩::rest) ⟨γ,V,df⟩:=by
 intro g w a r iJ hs;have E:=fun y=>Az hs.tmps y;obtain⟨w1,v0,s,w2,h1,h2,h3⟩:=TP ht hs.sim gX gG hz hk hm hZ hp (E x) (E k) (E v);have fZ:=hs.tmps.1
 have e1:((a.put (some t1) (.tuple #[v0,goInt s])).eval (.tmp t1))=.tuple #[v0,goInt s]:=by
  have:t1<a.tmps.size:=by rw[fZ];exact iq
  simp[Act.put,Act.eval,this]
 have e2:(((a.put (some t1) (.tuple #[v0,goInt s])).put (some t2) (goInt s)).eval (.tmp t2))=goInt s:=by
  have:t2<a.tmps.size:=by rw[fZ];exact ij
  simp[Act.put,Act.eval,this]
 have e3:∀y,y≠.tmp t1->y≠.tmp t2->((a.put (some t1) (.tuple #[v0,goInt s])).put (some t2) (goInt s)).eval y=a.eval y:=fun y iD gI=>by
  rw[Act.eval_put fun d hd=>by cases hd;exact gI,Act.eval_put fun d hd=>by cases hd;exact iD]
 have hS:lP P g n ⟨(t2,.any)::(t1,.any)::γ,V.set id (.map l'),df⟩ ((a.put (some t1) (.tuple #[v0,goInt s])).put (some t2) (goInt s)) w2:=by
  refine⟨h3,?_,?_⟩
  ·exact(hs.tmps.put (o:=⟨some t1,.mapEntry T x k,ty1,p1,f1,none⟩) (d:=.any) trivial (by simpa[AJ] using iq)).put (o:=⟨some t2,.extract (.tmp t1) 1,ty2,p2,f2,none⟩) (d:=.any) trivial (by simpa[AJ] using ij)
  ·rw[Act.put_df,Act.put_df];exact hs.df
 have:=h g w2 _ r iJ hS;have hw:∀dst op ty pos af y,Region.wanted ⟨dst,op,ty,pos,af,none⟩ y=true:=fun _ _ _ _ _ _=>rfl;unfold wpListIn;rw[hw,aS rfl];refine⟨fun f hf=>(Ah (fun c e=>by cases e) _ _ f hf).elim,?_⟩;rw[cW _ _ _ (fun c e=>by cases e)];simp only[execOp,bb,h1,aU];simp only[bp,Oper.uponIn_value];unfold wpListIn;rw[hw,aS rfl];refine⟨fun f hf=>(Ah (fun c e=>by cases e) _ _ f hf).elim,?_⟩;rw[cW _ _ _ (fun c e=>by cases e)];simp only[execOp,e1,Instr.extract,fC,aV,du,eg,eT,bb,bp,aU,Oper.uponIn_value];unfold wpListIn;rw[hw,aS rfl];refine⟨fun f hf=>(Ah (fun c e=>by cases e) _ _ f hf).elim,?_⟩;rw[cW _ _ _ (fun c e=>by cases e)];simp only[execOp,e2,e3 x gF iF,e3 v iH iG,bb,h2,aU,bp];exact this
end
end Go.DL
