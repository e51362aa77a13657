/- A part of the proof. -/
import Derived.Test.YtlfimpogphmbdaaGreatH09
import Derived.Laws.BytesArg
import Derived.Test.YtlfimpogphmbdaaGreatProg
import Derived.KernelRfl
import Derived.Shelf.Slices.In.SortAlone
import Derived.Shelf.Slices.In.SortNone
set_option linter.all false
namespace Go.DL
open Go.Proofs.Tryz
open Go
section
variable {P:Program}{ro:Option Nat}{n:Nat}{ops:Array Oper}{N:Nat}{S0:Sig}{Q:DX->St->Prop}{df:List DDf}{E:fU}
def Chain(ops:Array Oper)(k:Nat):Prop:= ∀i,k<=i->∀o,ops[i]? = some o->(∀e∈o.after,Region.binds .any e=true->e.on<i)/\(k<i->∃e∈o.after,Region.binds .any e=true/\e.on=i-1)
theorem QO{F:Fence}{R:Exit->Act->World->Prop}{k:Nat}(gr:Chain ops k): ∀(m q:Nat) (listed:Array Bool) (a:Act) (w:World),q+m=ops.size->k<=q->listed.size=ops.size->(∀i,i<q->listed.getD i true=true)->(∀i,q<=i->i<ops.size->listed.getD i true=false)->
  wpListIn F 0 P ops R (ops.toList.drop q) a w->wpAnyIn F 0 P .any ops R m listed a w:=by
 intro m
 induction m with
 |zero=>
  intro q listed a w hq hk e7 h1 h2 h;rw[dm (by simp;omega)]at h;refine⟨cX.2 fun i hi=>?_,h⟩;obtain⟨h3,o,ho,_⟩:=mem_ready.1 hi;have:=(aX.1 ho).1;rw[h1 i k0]at h3;cases h3
 | succ m ih =>
  intro q listed a w hq hk e7 h1 h2 h;have gB:q<ops.size:=by omega
  have ho:ops[q]? = some ops[q]:=bO gB;have hd:ops.toList.drop q=ops[q]::ops.toList.drop (q+1):=by rw[ed (by simpa using gB)];simp
  rw[hd]at h
  have iK:∀j,j<q->∀(b:Bool),listed.getD j b=true:=fun j hj b=>by
   have:=h1 j hj;have hl:j<listed.size:=by omega
   simpa[hl] using this
  refine⟨fun he=>?_,fun i hi=>?_⟩
  ·exfalso
   have:q∈Region.ready .any ops listed:=mem_ready.2 ⟨h2 q (bn _) gB,_,ho,fun e hm hb=>iK _ ((gr q hk _ ho).1 e hm hb) _⟩;rw[he]at this;cases this
  ·obtain⟨h3,o,gO,d7⟩:=mem_ready.1 hi;have gV:=(aX.1 gO).1
   have iJ:i=q:=by
    rcases Nat.lt_trichotomy i q with d8|gL|gX
    ·rw[h1 i d8]at h3;cases h3
    ·exact gL
    ·exfalso
     obtain⟨e,hm,hb,gC⟩:=(gr i k0 o gO).2 k0;have h4:=d7 e hm hb;have h5:=h2 (i-1) k0 k0;rw[gC]at h4;have hl:i-1<listed.size:=by omega
     simp[hl]at h4 h5;rw[h5]at h4;cases h4
   subst iJ
   have gj:∀j,j<i+1->(listed.setIfInBounds i true).getD j true=true:=fun j hj=>by
    by_cases gT:j=i
    ·subst gT;have:j<listed.size:=by omega
     simp[this]
    ·rw[getD_set_ne true (fun e=>gT e.symm)];exact h1 j k0
   have gh:∀j,i+1<=j->j<ops.size->(listed.setIfInBounds i true).getD j true=false:=fun j hj gH=>by
    rw[getD_set_ne true (show i≠j by omega)];exact h2 j k0 gH
   have step:∀a w,wpListIn F 0 P ops R (ops.toList.drop (i+1)) a w->wpAnyIn F 0 P .any ops R m (listed.setIfInBounds i true) a w:=fun a w h=>ih (i+1) _ a w k0 k0 (by simpa using e7) gj gh h
   unfold wpListIn at h;unfold wpOpIn;rw[ho];simp only;split
   ·rename_i hw;rw[aS hw]at h;exact Oper.wpIn_mono step h
   ·rename_i hw;rw[aQ hw]at h;exact⟨h.1,step _ _ h.2⟩
theorem UP(hN:P.funcs.size=N){ord:fU}{k:Nat}(iA:k<ops.size)(gr:Chain ops k)(ga:mixB ops E [] ord=true)(gv:∀i,i<k->i∈ord)(d8:∀i∈ord,i<k)
  (g8:∀i,i<k->F3 ops ops.size k i=true) {g0:G}{rr:Option Nat} (hr:lw g0 ro rr) :
  ∀(m:Nat) (r:fU) (listed:Array Bool) (γ:Fr) (V:Sig),r.length=m->listed.size=ops.size->r=ord.filter (fun i=> !listed.getD i true)->(∀i,k<=i->i<ops.size->listed.getD i true=false)->lG ops listed->
   MOps P ro n ops N S0 (lW (fun s=>aC P ro n ops Q (ops.toList.drop k) s) Q) df E r γ V->Sub S0 V->
   ∀(g:G) (w:World) (a:Act),g0.le g->lP P g n ⟨γ,V,df⟩ a w->wpAnyIn (FX P rr) 0 P .any ops (lQ P g0 n Q) (m+(ops.size-k)) listed a w:=by
 have gD:∀(r:fU) (listed:Array Bool),listed.size=ops.size->(∀i,k<=i->i<ops.size->listed.getD i true=false)->lG ops listed->r=ord.filter (fun i=> !listed.getD i true)->∀i∈Region.ready .any ops listed,i∈r\/(k<=i/\r=[]):=by
  intro r listed e7 gg fX hf i hi;obtain⟨h1,o,ho,hd⟩:=mem_ready.1 hi;have iL:i<ops.size:=(aX.1 ho).1;rcases Nat.lt_trichotomy i k with d8|gL|gX
  ·left
   rw[hf,bR];exact⟨gv i d8,by rw[h1];rfl⟩
  ·subst gL
   right
   refine⟨bn _,?_⟩;rw[hf,cH];intro x hx;have:=CN fX ops.size i x o ho hd (g8 x (d8 x hx));rcases cF x listed.size with h|h
   ·simp[h]at this⊢; exact this
   ·simp[cu h]at this
  ·exfalso
   obtain⟨e,hm,hb,gC⟩:=(gr i k0 o ho).2 gX;have h4:=hd e hm hb;have h5:=gg (i-1) k0 k0;rw[gC]at h4;have hl:i-1<listed.size:=by omega
   simp[hl]at h4 h5;rw[h5]at h4;cases h4
 intro m
 induction m with
 | zero =>
  intro r listed γ V hl e7 hf gg fX h hC g w a hg hs;obtain rfl:r=[]:=bH.1 hl
  have d7:∀x,x<k->listed.getD x true=true:=by
   intro x hx;have:=(cH.1 hf.symm) x (gv x hx);simpa using this
  have h1:aC P ro n ops Q (ops.toList.drop k) ⟨γ,V,df⟩:=fun g w a r hr hs=>by
   have h':=h g w a r hr hs;obtain⟨g',s',x,k1,k2,k3,k4⟩:=h';cases x with
   |normal=>exact AF k1 _ (k4 g' w a r (hr.mono k1) k2)
   |ret=>cases k3
   |exit _=>cases k3
   |panic _=>obtain⟨v,k3,_⟩:=k3;cases k3
  rw[bZ];exact QO gr (ops.size-k) k listed a w k0 (bn _) e7 d7 gg (AF hg _ (h1 g w a rr (hr.mono hg) hs))
 | succ m ih =>
  intro r listed γ V hl e7 hf gg fX h hC g w a hg hs;rw[show m+1+(ops.size-k)=(m+(ops.size-k))+1 by omega];obtain⟨y,t,rfl⟩:∃y t,r=y::t:=by cases r with|nil=>cases hl|cons y t=>exact⟨y,t,rfl⟩
  refine⟨fun he=>?_,fun i hi=>?_⟩
  ·exfalso
   obtain⟨l1,l2,f8,iE,hy,iS⟩:=cj.1 hf.symm;subst f8;obtain⟨h1,_,_,o,ho,gY,_⟩:=EP l1 [] ga
   have:y∈Region.ready .any ops listed:=by
    refine mem_ready.2 ⟨by simpa using hy,o,ho,fun e hm hb=>?_⟩;rcases gY e hm hb with h4|h4
    ·have h5:=iE _ h4;simp only[cy,dU]at h5
     have gE:e.on<listed.size:=by
      have:=d8 e.on (by simp[h4]);omega
     simpa[gE] using h5
    ·cases h4
   rw[he]at this;cases this
  ·have iI:i∈y::t:=by
    rcases gD _ listed e7 gg fX hf i hi with h|h
    ·exact h
    ·exact absurd h.2 k7
   obtain⟨pre,post,fZ⟩:=co iI;rw[fZ]at hf h hl;obtain⟨l1',l2',f8,gK,iQ⟩:=dr.1 hf.symm;obtain⟨m1,m2,gF,iC,iU,iP⟩:=cj.1 iQ;have d9:ord=(l1'++m1)++i::m2:=by rw[f8,gF];simp
   have iL:i<k:=d8 i (by rw[d9];simp);rw[d9]at ga;obtain⟨n1,_,n3,o,ho,gY,hx⟩:=EP (l1'++m1) [] ga;obtain⟨iG,o',gQ,d7⟩:=mem_ready.1 hi;obtain rfl:o'=o:=by rw[ho]at gQ;cases gQ;rfl
   have gc:=GM ho post pre γ V (fun x gN=>by
    have g7:x∈l1'++m1:=by
     have:x∈l1'.filter (fun i=> !listed.getD i true):=by rw[gK];exact gN
     simp[(bR.1 this).1]
    have gM:listed.getD x true=false:=by
     have:x∈l1'.filter (fun i=> !listed.getD i true):=by rw[gK];exact gN
     simpa using(bR.1 this).2
    rcases hx x g7 with h4|h4
    ·exfalso
     have:=CN fX ops.size i x o' ho d7 h4
     rcases cF x listed.size with d8|d8
     ·simp[d8]at this gM;rw[gM]at this;cases this
     ·simp[cu d8]at this
    ·exact h4) h
   have fY:pre++post=ord.filter (fun j=> !(listed.setIfInBounds i true).getD j true):=by
    have gV:i<listed.size:=by
     rw[e7];exact(aX.1 ho).1
    rw[d9,cn,cP];have e1:(listed.setIfInBounds i true).getD i true=true:=by simp[gV]
    rw[e1,AC n1,AC n3];simp only[cQ,bz,bl,cn,gK,iP];rw[cH.2 (fun x hx=>by simpa using iC x hx),br]
   have hlen:(pre++post).length=m:=by simp at hl⊢; omega
   have go:∀j,k<=j->j<ops.size->(listed.setIfInBounds i true).getD j true=false:=fun j hj gH=>by rw[getD_set_ne true (show i≠j by omega)];exact gg j hj gH
   obtain⟨o2,gP,hh⟩:=gc;obtain rfl:o2=o':=by rw[ho]at gP;cases gP;rfl
   unfold wpOpIn;simp only[ho];rcases hh with⟨d,hy,hM⟩|⟨_,hE⟩
   ·exact Fk (Q:=Q) hN (hr.mono hg) hg hs hC hy fun g' w' a' gJ hs'=>ih _ _ _ _ hlen (by simpa using e7) fY go (fX.set hi) hM hC g' w' a' (hg.trans gJ) hs'
   ·exact Dr (Q:=Q) (hr.mono hg) hg hs hE (fun g' w' a' d U' gJ hR hs'=>ih _ _ _ _ hlen (by simpa using e7) fY go (fX.set hi) hR.2 hR.1 g' w' a' (hg.trans gJ) hs') fun d U' hp=>hp
def ZX(ops:Array Oper)(k:Nat):Bool:=(List.range ops.size).all fun i=>decide (i<k)||match ops[i]? with
 |some o=>o.after.all (fun e=> !Region.binds .any e||decide (e.on<i))&&(decide (i=k)||o.after.any (fun e=>Region.binds .any e&&e.on==i-1))
 |none=>false
theorem Zw{k:Nat}(h:ZX ops k=true):Chain ops k:=fun i hk o ho=>by
 have hi:=(aX.1 ho).1;have:=bh.1 h i (fK.2 hi);rw[ho,ba k0,dD]at this;simp only[aN,bV,aP]at this;refine⟨fun e hm hb=>?_,fun d8=>?_⟩
 ·have:=cz.1 this.1 e hm;simpa[hb] using this
 ·rcases this.2 with h2|h2
  ·omega
  ·rw[fy]at h2;obtain⟨e,hm,h3⟩:=h2;simp only[aN,cL]at h3;exact⟨e,hm,h3⟩
def Qr(ops:Array Oper)(E ord:fU)(k:Nat):Bool:=mixB ops E [] ord&&(List.range k).all ord.contains&&(ord.length==k)&&ord.all (fun i=>decide (i<k))&&decide (k<ops.size)&&(List.range k).all (fun i=>F3 ops ops.size k i)&&ZX ops k
theorem Zn(hN:P.funcs.size=N)(hm:P.follows .mixedOrders=true){l:List Oper}{id:Nat}{γ:Fr}{V:Sig}(k:Nat)(ord E:fU)(S0:Sig)(hB:Qr l.toArray E ord k=true)(hC:Sub S0 V)
  {lp:List (Bool×Oper)} (iD:Hn l E ord=some lp) (h:MO P ro n l.toArray N S0 (lW (fun s=>aC P ro n l.toArray Q (l.drop k) s) Q) df lp γ V):DWp P ro n (.region id l.toArray true) Q ⟨γ,V,df⟩:=by
 intro g w a r hr hs;refine wpIn_region_any hm ?_;unfold Qr at hB;simp only[aN,cL,aP]at hB;obtain⟨⟨⟨⟨⟨⟨b1,b2⟩,b3⟩,b4⟩,b5⟩,b6⟩,b7⟩:=hB;have d8:∀i∈ord,i<k:=fun i hi=>by simpa using bh.1 b4 i hi
 have hs':lP P g n ⟨γ,V,df⟩ a { w with drawn:=w.drawn+1 }:=
  ⟨⟨fun b o v h=>hs.sim.imm b o v h,hs.sim.keep,fun i o h=>by
   have:=hs.sim.obj i o h
   cases o<;>exact this,hs.sim.inj,hs.sim.free,hs.sim.htop,hs.sim.hdom,hs.sim.fin,hs.sim.io⟩,hs.tmps,hs.df⟩
 have fX:lG l.toArray (Array.replicate l.toArray.size false):=by
  intro q o _ hq;rcases cF q l.length with h'|h'
  ·simp[h']at hq
  ·simp[h']at hq
 have iB:=F8 (P:=P) (ro:=ro) (n:=n) (N:=N) (S0:=S0) (Q:=lW (fun s=>aC P ro n l.toArray Q (l.drop k) s) Q) (df:=df) (ops:=l.toArray) (E:=E) (ord:=ord) (fun i hi=>by have:=d8 i hi;omega) (by rw[Ka iD];exact h)
 have:=UP (P:=P) hN (ops:=l.toArray) (k:=k) b5 (Zw b7) b1 (fun i hi=>by simpa using bh.1 b2 i (by simpa using hi)) d8
  (fun i hi=>bh.1 b6 i (fK.2 hi))
  hr ord.length ord (Array.replicate l.toArray.size false) γ V rfl k7 (DK (fun i hi=>by have:=d8 i hi;omega)).symm (fun i hi iH=>by
   rw[cV]
   simp only[Array.getElem?_replicate,iH,bI];rfl) fX (by simpa using iB) hC g _ a (.refl g) hs'
 rw[b3,show k+(l.toArray.size-k)=l.toArray.size by omega]at this;exact this
end
section
variable {P:Program}{ro:Option Nat}{n:Nat}{ops:Array Oper}{Q:DX->St->Prop}{rest:List Oper}{tab:Nat->Ty}{γ:List (Nat×D)}{V:Sig}{df:List DDf}
variable (ht:BC P tab)
include ht
theorem Zr{t T T' ty e:Nat}{x:Operand}{s:List UInt8}{pos:String}{after:Array Edge}{gd:Option (Nat×Bool)}
  (h:aC P ro n ops Q rest ⟨(t,.str s)::γ,V,df⟩) (hw:AY ops γ ⟨some t,.convert T T' x,ty,pos,after,gd⟩=some true) (gx:t<n) (hk:(tab T).k=.slice e) (gS:(tab T').k=.str) (gR:(tab e).k=.int .u8) (h1:kz (ev γ x)=some (s.map fun b=>[D.int .u8 (b.toNat:Int)])) :
  aC P ro n ops Q (⟨some t,.convert T T' x,ty,pos,after,gd⟩::rest) ⟨γ,V,df⟩:=by
 refine EL (fun d U'=>d=.str s/\U'=V) hw (fun c e=>by cases e) (Ah fun c e=>by cases e) (by simp[AJ,gx]) ?_
  (fun d U' ⟨a2,a3⟩=>by subst a2 a3;exact h)
 intro g w a hs hT;have gZ:=Az hT x;obtain⟨xa,xc,q1,q2,q3⟩:=D8 h1 gZ;obtain⟨vs,v1,v2,v3⟩:=Df hs (sz:=1) (fun c hc=>by obtain⟨b,_,rfl⟩:=bD.1 hc;rfl) q3
 have gA:(convert T T' (a.eval x)).run P w=.ok (.string ⟨s.toArray⟩) w:=by
  rw[q1];cases xa with
  | none =>
   have iy:s=[]:=by
    rcases v3 with h|⟨b,o,h,_⟩
    ·simpa using h
    ·cases h
   subst iy;exact run_convert_bytes_nil w T e (Bm ht hk) (MX ht gR) _ _ T' (JX ht gS)
  | some ad =>
   rw[aY];refine run_convert_bytes_back w T T' e ad xc s (Bm ht hk) (MX ht gR) (JX ht gS) fun j hj=>?_;rcases v3 with h|⟨b,o,h,hc⟩
   ·rw[aY]at h;omega
   ·cases h
    have e8:∀l:List UInt8,(l.map fun b=>[D.int .u8 (b.toNat:Int)]).flatten=l.map fun b=>D.int .u8 (b.toNat:Int):=fun l=>by
     induction l with
     |nil=>rfl
     |cons y l ih=>rw[bg,cT,ih];rfl
    rw[e8]at v1;have hg:=kI.get v1 j;rw[bN,aT hj]at hg;have gb:j<vs.length:=by rw[v2,aY];omega
    rw[aT gb]at hg;simp only[bT]at hg;have:=hc j _ (aT gb);rw[show vs[j]=.int .u8 ((s[j]).toNat:Int) from BU hg]at this;have f0:(⟨b,o,none⟩:Addr).add j=⟨b,o+j,none⟩:=by unfold Addr.add;split<;>simp_all
    rw[f0];exact this
 exact⟨g,w,.string ⟨s.toArray⟩,.str s,V,by simp only[execOp];rw[bb,gA];rfl,.refl g,hs,rfl,rfl,rfl⟩
end
section
variable {P:Program}{tab:Nat->Ty}(ht:BC P tab){ro:Option Nat}{n:Nat}{ops:Array Oper}{Q:DX->St->Prop}{df:List DDf}{rest:List Oper}{γ:List (Nat×D)}{V:Sig}
include ht
theorem Uz{g:G}{w:World}{T e i off len cap:Nat}{k k':IntKind}{v u u':Value}{hi m:Nat}(hk:(tab T).k=.slice e)(he:A5 (tab e).k=false)(hv:Rep g (.ax i off len cap) v)(hu:Rep g (.int k hi) u)(iq:Rep g (.int k' m) u')(gW:hi<=m)(hm:m<=cap):
  ∃r,(Instr.sliceAt T v none (some u) (some u')).run P w=.ok r w/\Rep g (.ax i off hi m) r:=by
 obtain⟨b,hb,rfl⟩:=hv;obtain rfl:=BU hu;obtain rfl:=BU iq;refine⟨_,?_,Qh (len:=hi) (cap:=m) (off:=off) hb⟩;have hu:=Bm ht hk;have c1:(0:Int)<=(hi:Int):=by omega
 have c2:(hi:Int)<=(m:Int):=by omega
 have c3:(0:Int)<=(m:Int):=by omega
 have c4:(m:Int)<=(cap:Int):=by omega
 simp only[bT,Instr.sliceAt,Instr.slice,Instr.sliceBounds,Instr.sliceBound,asIntOf,bb,bp,aU,A2 hu,c1,c2,c3,c4,dV,bI,Bh (ht e) (Aj he),el,dQ,fA]
 congr 1
 split<;>simp[Addr.add]
theorem TY{t T ty e i off len cap:Nat}{k k':IntKind}{x y z:Operand}{hi m:Nat}{pos:String}{after:Array Edge}
  (h:aC P ro n ops Q rest ⟨(t,.ax i off hi m)::γ,V,df⟩)
  (gx:t<n) (hk:(tab T).k=.slice e) (he:A5 (tab e).k=false) (h1:ev γ x=.ax i off len cap) (h2:ev γ y=.int k hi) (h3:ev γ z=.int k' m) (gW:hi<=m) (hm:m<=cap) :
  aC P ro n ops Q (⟨some t,.slice T x none (some y) (some z),ty,pos,after,none⟩::rest) ⟨γ,V,df⟩:=by
 refine EL (fun d U'=>d=.ax i off hi m/\U'=V) rfl (fun c e=>by cases e) (Ah fun c e=>by cases e) (by simp[AJ,gx]) ?_
  (fun d U' ⟨a2,a3⟩=>by subst a2 a3;exact h)
 intro g w a hs hT;have hx:=Az hT x;have hy:=Az hT y;have hz:=Az hT z;rw[h1]at hx;rw[h2]at hy;rw[h3]at hz;obtain⟨r,h4,h5⟩:=Uz (w:=w) ht hk he hx hy hz gW hm;exact⟨g,w,r,_,V,by simp only[execOp,bT,fa,bb,h4,aU,bp],.refl g,hs,h5,rfl,rfl⟩
omit ht in
theorem O1{i j c sz:Nat}{es:fV}{r az bs:fQ}(hj:V j=some (.cells (es.flatten++r)))(hi:V i=some (.cells (az ++ .ax j 0 es.length c::bs)))(iM:i≠j)(m3:es.length<=c)(m4:∀e∈es,e.length=sz):Wk P n ⟨γ,V,df⟩ ⟨γ,(V.del j).set i (.cells (az ++ .slice es .no::bs)),df⟩:=by
 intro g w a hs;obtain⟨b,_,_,hb,_,_⟩:=hs.sim.obj j _ hj;obtain⟨g',gw,hs',iz⟩:=hs.sim.freeze (i:=j) hj hb;have iO:(V.del j) i=some (.cells (az ++ .ax j 0 es.length c::bs)):=by simp only[Sig.del,iM,bl];exact hi
 simp only at hs';refine⟨g',gw,⟨hs'.retell iO fun vs=>Jr fun v hv=>?_,hs.tmps.mono gw,hs.df.mono gw⟩⟩;obtain⟨b',gu,hv⟩:=hv;obtain rfl:b'=b:=by have:=gw.rho _ _ hb;rw[this]at gu;cases gu;rfl
 exact⟨_,c,hv,m3,.inr ⟨sz,b',0,rfl,GJ m4 iz⟩,trivial⟩
end
end Go.DL
namespace Go.DL
open Go.Proofs.Tryz
open Go Go.Proofs
@[simp] abbrev sT(n:Nat):Ty:=⟨.slice n,false,1,24,[.av]⟩
@[simp] abbrev pT(n:Nat):Ty:=⟨.ptr n,false,1,8,[.aA]⟩
@[simp] abbrev iT:Ty:=⟨.int .i64,false,1,8,[.int .i64 0]⟩
@[simp] abbrev fT:Ty:=⟨.func,false,1,8,[.nilf]⟩
def tyRows:List (Nat×Ty):=[
 (1,fT),
 (2,iT),
 (3,iT),
 (4,⟨.bool,false,1,1,[.bool false]⟩),
 (5,⟨.int .u8,false,1,1,[.int .u8 0]⟩),
 (6,⟨.int .u8,false,1,1,[.int .u8 0]⟩),
 (7,⟨.struct [(0,2),(1,3),(2,4),(3,6)],true,4,24,[.int .i64 0,.int .i64 0,.bool false,.int .u8 0]⟩),
 (8,⟨.struct [(0,2),(1,3),(2,4),(3,6)],true,4,24,[.int .i64 0,.int .i64 0,.bool false,.int .u8 0]⟩),
 (9,⟨.str,false,1,16,[.str []]⟩),
 (10,⟨.str,false,1,16,[.str []]⟩),
 (11,⟨.str,false,1,16,[.str []]⟩),
 (12,⟨.int .u64,false,1,8,[.int .u64 0]⟩),
 (13,⟨.struct [(0,9),(1,12)],true,2,24,[.str [],.int .u64 0]⟩),
 (14,⟨.struct [(0,9),(1,12)],true,2,24,[.str [],.int .u64 0]⟩),
 (15,pT 386),
 (16,pT 389),
 (17,pT 398),
 (18,⟨.struct [(0,17)],true,1,8,[.aA]⟩),
 (19,⟨.struct [(0,17)],true,1,8,[.aA]⟩),
 (20,⟨.iface,false,1,16,[.niliface]⟩),
 (21,⟨.int .i32,false,1,4,[.int .i32 0]⟩),
 (22,sT 101),
 (23,sT 3),
 (24,sT 98),
 (25,sT 104),
 (26,⟨.struct [(0,22),(1,3),(2,23),(3,24),(4,25),(5,3)],true,6,112,[.av,.int .i64 0,.av,.av,.av,.int .i64 0]⟩),
 (27,⟨.struct [(0,22),(1,3),(2,23),(3,24),(4,25),(5,3)],true,6,112,[.av,.int .i64 0,.av,.av,.av,.int .i64 0]⟩),
 (28,iT),
 (30,fT),
 (31,fT),
 (32,fT),
 (33,fT),
 (34,fT),
 (35,sT 83),
 (36,sT 90),
 (37,iT),
 (38,sT 40),
 (39,⟨.struct [(0,37),(1,3),(2,9),(3,38)],true,4,56,[.int .i64 0,.int .i64 0,.str [],.av]⟩),
 (40,⟨.struct [(0,37),(1,3),(2,9),(3,38)],true,4,56,[.int .i64 0,.int .i64 0,.str [],.av]⟩),
 (42,⟨.struct [(0,35),(1,36),(2,40)],true,6,104,[.av,.av,.int .i64 0,.int .i64 0,.str [],.av]⟩),
 (44,fT),
 (45,fT),
 (48,fT),
 (49,fT),
 (50,fT),
 (51,sT 63),
 (54,fT),
 (55,fT),
 (57,sT 23),
 (59,fT),
 (62,⟨.struct [(0,3),(1,3)],true,2,16,[.int .i64 0,.int .i64 0]⟩),
 (63,⟨.struct [(0,3),(1,3)],true,2,16,[.int .i64 0,.int .i64 0]⟩),
 (65,fT),
 (68,⟨.struct [(0,57),(1,23)],true,2,48,[.av,.av]⟩),
 (69,⟨.struct [(0,57),(1,23)],true,2,48,[.av,.av]⟩),
 (73,fT),
 (75,fT),
 (79,fT),
 (80,sT 9),
 (81,sT 150),
 (83,⟨.struct [(0,9),(1,80),(2,80),(3,81)],true,4,88,[.str [],.av,.av,.av]⟩),
 (84,iT),
 (85,iT),
 (86,sT 88),
 (87,⟨.struct [(0,85),(1,9),(2,80),(3,9),(4,3),(5,86)],true,6,96,[.int .i64 0,.str [],.av,.str [],.int .i64 0,.av]⟩),
 (88,⟨.struct [(0,85),(1,9),(2,80),(3,9),(4,3),(5,86)],true,6,96,[.int .i64 0,.str [],.av,.str [],.int .i64 0,.av]⟩),
 (90,⟨.struct [(0,84),(1,9),(2,80),(3,88),(9,40)],true,13,200,[.int .i64 0,.str [],.av,.int .i64 0,.str [],.av,.str [],.int .i64 0,.av,.int .i64 0,.int .i64 0,.str [],.av]⟩),
 (91,fT),
 (93,fT),
 (94,sT 96),
 (95,⟨.struct [(0,85),(1,3),(2,23),(3,3),(4,3),(5,94)],true,6,80,[.int .i64 0,.int .i64 0,.av,.int .i64 0,.int .i64 0,.av]⟩),
 (96,⟨.struct [(0,85),(1,3),(2,23),(3,3),(4,3),(5,94)],true,6,80,[.int .i64 0,.int .i64 0,.av,.int .i64 0,.int .i64 0,.av]⟩),
 (97,⟨.struct [(0,84),(1,3),(2,96),(8,3)],true,9,104,[.int .i64 0,.int .i64 0,.int .i64 0,.int .i64 0,.av,.int .i64 0,.int .i64 0,.av,.int .i64 0]⟩),
 (98,⟨.struct [(0,84),(1,3),(2,96),(8,3)],true,9,104,[.int .i64 0,.int .i64 0,.int .i64 0,.int .i64 0,.av,.int .i64 0,.int .i64 0,.av,.int .i64 0]⟩),
 (101,⟨.struct [(0,23),(1,23),(2,51)],true,3,72,[.av,.av,.av]⟩),
 (102,fT),
 (103,⟨.struct [(0,37),(1,3),(2,23)],true,3,40,[.int .i64 0,.int .i64 0,.av]⟩),
 (104,⟨.struct [(0,37),(1,3),(2,23)],true,3,40,[.int .i64 0,.int .i64 0,.av]⟩),
 (108,fT),
 (109,fT),
 (110,⟨.map 3 3,false,1,8,[.ay]⟩),
 (111,fT),
 (112,fT),
 (116,fT),
 (120,fT),
 (122,fT),
 (123,fT),
 (124,pT 3),
 (130,fT),
 (131,fT),
 (132,fT),
 (135,⟨.struct [(0,3),(1,3)],true,2,16,[.int .i64 0,.int .i64 0]⟩),
 (138,⟨.iface,false,1,16,[.niliface]⟩),
 (140,iT),
 (142,⟨.struct [],true,0,0,[]⟩),
 (144,fT),
 (150,⟨.struct [(0,9),(1,3)],true,2,24,[.str [],.int .i64 0]⟩),
 (151,fT),
 (153,fT),
 (156,fT),
 (157,pT 163),
 (158,⟨.map 9 3,false,1,8,[.ay]⟩),
 (161,fT),
 (162,⟨.struct [(0,27),(6,158),(7,158),(8,158)],true,9,136,[.av,.int .i64 0,.av,.av,.av,.int .i64 0,.ay,.ay,.ay]⟩),
 (163,⟨.struct [(0,27),(6,158),(7,158),(8,158)],true,9,136,[.av,.int .i64 0,.av,.av,.av,.int .i64 0,.ay,.ay,.ay]⟩),
 (167,fT),
 (169,fT),
 (170,fT),
 (172,⟨.struct [(0,157),(1,158),(2,3)],true,3,24,[.aA,.ay,.int .i64 0]⟩),
 (174,fT),
 (178,fT),
 (179,pT 185),
 (181,fT),
 (182,sT 269),
 (183,⟨.map 3 23,false,1,8,[.ay]⟩),
 (185,⟨.struct [(0,57),(1,182),(2,183)],true,3,56,[.av,.av,.ay]⟩),
 (186,fT),
 (202,pT 204),
 (204,⟨.struct [(0,27),(6,80),(7,80),(8,80)],true,9,184,[.av,.int .i64 0,.av,.av,.av,.int .i64 0,.av,.av,.av]⟩),
 (207,fT),
 (209,fT),
 (210,fT),
 (212,pT 214),
 (214,⟨.struct [(0,202),(1,80),(2,3)],true,3,40,[.aA,.av,.int .i64 0]⟩),
 (222,⟨.map 3 4,false,1,8,[.ay]⟩),
 (225,fT),
 (230,fT),
 (232,fT),
 (234,fT),
 (236,⟨.struct [],true,0,0,[]⟩),
 (239,fT),
 (240,⟨.int .u64,false,1,8,[.int .u64 0]⟩),
 (243,fT),
 (244,pT 345),
 (251,fT),
 (252,pT 256),
 (253,⟨.map 9 4,false,1,8,[.ay]⟩),
 (254,sT 253),
 (256,⟨.struct [(0,42),(6,158),(7,254),(8,253),(9,3)],true,10,152,[.av,.av,.int .i64 0,.int .i64 0,.str [],.av,.ay,.av,.ay,.int .i64 0]⟩),
 (258,fT),
 (263,fT),
 (267,⟨.int .u64,false,1,8,[.int .u64 0]⟩),
 (269,⟨.array 1 267,true,1,8,[.int .u64 0]⟩),
 (275,sT 4),
 (280,⟨.struct [(0,80),(1,80),(2,80)],true,3,72,[.av,.av,.av]⟩),
 (282,pT 284),
 (284,⟨.struct [(0,80),(1,23),(2,4)],true,3,56,[.av,.av,.bool false]⟩),
 (285,fT),
 (289,fT),
 (295,⟨.int .u32,false,1,4,[.int .u32 0]⟩),
 (304,⟨.struct [],true,0,0,[]⟩),
 (308,⟨.struct [(0,40)],true,4,56,[.int .i64 0,.int .i64 0,.str [],.av]⟩),
 (309,fT),
 (310,fT),
 (316,⟨.struct [(0,88)],true,6,96,[.int .i64 0,.str [],.av,.str [],.int .i64 0,.av]⟩),
 (317,fT),
 (318,fT),
 (321,⟨.iface,false,1,16,[.niliface]⟩),
 (341,sT 5),
 (342,⟨.int .u64,false,1,8,[.int .u64 0]⟩),
 (343,⟨.array 63 342,true,63,504,(List.replicate 63 (.int .u64 0))⟩),
 (345,⟨.struct [(0,69),(2,343)],true,65,552,[.av,.av,.int .u64 0,.int .u64 0,.int .u64 0,.int .u64 0,.int .u64 0,.int .u64 0,.int .u64 0,.int .u64 0,.int .u64 0,.int .u64 0,.int .u64 0,.int .u64 0,.int .u64 0,.int .u64 0,.int .u64 0,.int .u64 0,.int .u64 0,.int .u64 0,.int .u64 0,.int .u64 0,.int .u64 0,.int .u64 0,.int .u64 0,.int .u64 0,.int .u64 0,.int .u64 0,.int .u64 0,.int .u64 0,.int .u64 0,.int .u64 0,.int .u64 0,.int .u64 0,.int .u64 0,.int .u64 0,.int .u64 0,.int .u64 0,.int .u64 0,.int .u64 0,.int .u64 0,.int .u64 0,.int .u64 0,.int .u64 0,.int .u64 0,.int .u64 0,.int .u64 0,.int .u64 0,.int .u64 0,.int .u64 0,.int .u64 0,.int .u64 0,.int .u64 0,.int .u64 0,.int .u64 0,.int .u64 0,.int .u64 0,.int .u64 0,.int .u64 0,.int .u64 0,.int .u64 0,.int .u64 0,.int .u64 0,.int .u64 0,.int .u64 0]⟩),
 (354,fT),
 (355,fT),
 (356,sT 321),
 (369,⟨.struct [(0,4),(1,3),(2,3)],true,3,24,[.bool false,.int .i64 0,.int .i64 0]⟩),
 (371,⟨.map 37 369,false,1,8,[.ay]⟩),
 (373,pT 375),
 (375,⟨.struct [(0,373),(1,9)],true,2,24,[.aA,.str []]⟩),
 (377,fT),
 (386,⟨.struct [(0,17),(1,17),(2,17),(3,9)],true,4,40,[.aA,.aA,.aA,.str []]⟩),
 (387,⟨.array 0 16,true,0,0,[]⟩),
 (389,⟨.struct [(0,387)],true,0,0,[]⟩),
 (391,⟨.int .u8,false,1,1,[.int .u8 0]⟩),
 (392,⟨.int .u8,false,1,1,[.int .u8 0]⟩),
 (393,fT),
 (394,pT 5),
 (395,⟨.int .i32,false,1,4,[.int .i32 0]⟩),
 (396,⟨.int .i32,false,1,4,[.int .i32 0]⟩),
 (398,⟨.struct [(0,12),(1,12),(2,295),(3,391),(4,5),(5,5),(6,392),(7,393),(8,394),(9,395),(10,396)],true,11,48,[.int .u64 0,.int .u64 0,.int .u32 0,.int .u8 0,.int .u8 0,.int .u8 0,.int .u8 0,.nilf,.aA,.int .i32 0,.int .i32 0]⟩)
]
def tab(t:Nat):Ty:=(tyRows.lookup t).getD ⟨.other,false,0,0,[]⟩
theorem Ya:tyRows.all (fun p=>Qa prog p.1 p.2)=true:=by kernel_rfl
def LR{α:Type}: ∀{l:List (Nat×α)}{t:Nat}{x:α},l.lookup t=some x->(t,x)∈l
 |(k,y)::l,t,x,h=>by
  simp only[List.lookup]at h;split at h
  ·rename_i e;cases h;have:=cL.1 e;subst this;simp
  ·exact dH _ (LR h)
def Ag:BC prog tab:=by
 intro t;unfold tab;cases h:tyRows.lookup t with
 |none=>exact trivial
 |some i=>exact O8 (bh.1 Ya _ (LR h))
theorem Ap:prog.funcs.size=334:=by kernel_rfl
@[simp] theorem tab1:tab 1=fT:=rfl
@[simp] theorem tab2:tab 2=iT:=rfl
@[simp] theorem tab3:tab 3=iT:=rfl
@[simp] theorem tab4:tab 4=⟨.bool,false,1,1,[.bool false]⟩:=rfl
@[simp] theorem tab5:tab 5=⟨.int .u8,false,1,1,[.int .u8 0]⟩:=rfl
@[simp] theorem tab6:tab 6=⟨.int .u8,false,1,1,[.int .u8 0]⟩:=rfl
@[simp] theorem tab7:tab 7=⟨.struct [(0,2),(1,3),(2,4),(3,6)],true,4,24,[.int .i64 0,.int .i64 0,.bool false,.int .u8 0]⟩:=rfl
@[simp] theorem tab8:tab 8=⟨.struct [(0,2),(1,3),(2,4),(3,6)],true,4,24,[.int .i64 0,.int .i64 0,.bool false,.int .u8 0]⟩:=rfl
@[simp] theorem tab9:tab 9=⟨.str,false,1,16,[.str []]⟩:=rfl
@[simp] theorem tab10:tab 10=⟨.str,false,1,16,[.str []]⟩:=rfl
@[simp] theorem tab11:tab 11=⟨.str,false,1,16,[.str []]⟩:=rfl
@[simp] theorem tab12:tab 12=⟨.int .u64,false,1,8,[.int .u64 0]⟩:=rfl
@[simp] theorem tab13:tab 13=⟨.struct [(0,9),(1,12)],true,2,24,[.str [],.int .u64 0]⟩:=rfl
@[simp] theorem tab14:tab 14=⟨.struct [(0,9),(1,12)],true,2,24,[.str [],.int .u64 0]⟩:=rfl
@[simp] theorem tab15:tab 15=pT 386:=rfl
@[simp] theorem tab16:tab 16=pT 389:=rfl
@[simp] theorem tab17:tab 17=pT 398:=rfl
@[simp] theorem tab18:tab 18=⟨.struct [(0,17)],true,1,8,[.aA]⟩:=rfl
@[simp] theorem tab19:tab 19=⟨.struct [(0,17)],true,1,8,[.aA]⟩:=rfl
@[simp] theorem tab20:tab 20=⟨.iface,false,1,16,[.niliface]⟩:=rfl
@[simp] theorem tab21:tab 21=⟨.int .i32,false,1,4,[.int .i32 0]⟩:=rfl
@[simp] theorem tab22:tab 22=sT 101:=rfl
@[simp] theorem tab23:tab 23=sT 3:=rfl
@[simp] theorem tab24:tab 24=sT 98:=rfl
@[simp] theorem tab25:tab 25=sT 104:=rfl
@[simp] theorem tab26:tab 26=⟨.struct [(0,22),(1,3),(2,23),(3,24),(4,25),(5,3)],true,6,112,[.av,.int .i64 0,.av,.av,.av,.int .i64 0]⟩:=rfl
@[simp] theorem tab27:tab 27=⟨.struct [(0,22),(1,3),(2,23),(3,24),(4,25),(5,3)],true,6,112,[.av,.int .i64 0,.av,.av,.av,.int .i64 0]⟩:=rfl
@[simp] theorem tab28:tab 28=iT:=rfl
@[simp] theorem tab30:tab 30=fT:=rfl
@[simp] theorem tab31:tab 31=fT:=rfl
@[simp] theorem tab32:tab 32=fT:=rfl
@[simp] theorem tab33:tab 33=fT:=rfl
@[simp] theorem tab34:tab 34=fT:=rfl
@[simp] theorem tab35:tab 35=sT 83:=rfl
@[simp] theorem tab36:tab 36=sT 90:=rfl
@[simp] theorem tab37:tab 37=iT:=rfl
@[simp] theorem tab38:tab 38=sT 40:=rfl
@[simp] theorem tab39:tab 39=⟨.struct [(0,37),(1,3),(2,9),(3,38)],true,4,56,[.int .i64 0,.int .i64 0,.str [],.av]⟩:=rfl
@[simp] theorem tab40:tab 40=⟨.struct [(0,37),(1,3),(2,9),(3,38)],true,4,56,[.int .i64 0,.int .i64 0,.str [],.av]⟩:=rfl
@[simp] theorem tab42:tab 42=⟨.struct [(0,35),(1,36),(2,40)],true,6,104,[.av,.av,.int .i64 0,.int .i64 0,.str [],.av]⟩:=rfl
@[simp] theorem tab44:tab 44=fT:=rfl
@[simp] theorem tab45:tab 45=fT:=rfl
@[simp] theorem tab48:tab 48=fT:=rfl
@[simp] theorem tab49:tab 49=fT:=rfl
@[simp] theorem tab50:tab 50=fT:=rfl
@[simp] theorem tab51:tab 51=sT 63:=rfl
@[simp] theorem tab54:tab 54=fT:=rfl
@[simp] theorem tab55:tab 55=fT:=rfl
@[simp] theorem tab57:tab 57=sT 23:=rfl
@[simp] theorem tab59:tab 59=fT:=rfl
@[simp] theorem tab62:tab 62=⟨.struct [(0,3),(1,3)],true,2,16,[.int .i64 0,.int .i64 0]⟩:=rfl
@[simp] theorem tab63:tab 63=⟨.struct [(0,3),(1,3)],true,2,16,[.int .i64 0,.int .i64 0]⟩:=rfl
@[simp] theorem tab65:tab 65=fT:=rfl
@[simp] theorem tab68:tab 68=⟨.struct [(0,57),(1,23)],true,2,48,[.av,.av]⟩:=rfl
@[simp] theorem tab69:tab 69=⟨.struct [(0,57),(1,23)],true,2,48,[.av,.av]⟩:=rfl
@[simp] theorem tab73:tab 73=fT:=rfl
@[simp] theorem tab75:tab 75=fT:=rfl
@[simp] theorem tab79:tab 79=fT:=rfl
@[simp] theorem tab80:tab 80=sT 9:=rfl
@[simp] theorem tab81:tab 81=sT 150:=rfl
@[simp] theorem tab83:tab 83=⟨.struct [(0,9),(1,80),(2,80),(3,81)],true,4,88,[.str [],.av,.av,.av]⟩:=rfl
@[simp] theorem tab84:tab 84=iT:=rfl
@[simp] theorem tab85:tab 85=iT:=rfl
@[simp] theorem tab86:tab 86=sT 88:=rfl
@[simp] theorem tab87:tab 87=⟨.struct [(0,85),(1,9),(2,80),(3,9),(4,3),(5,86)],true,6,96,[.int .i64 0,.str [],.av,.str [],.int .i64 0,.av]⟩:=rfl
@[simp] theorem tab88:tab 88=⟨.struct [(0,85),(1,9),(2,80),(3,9),(4,3),(5,86)],true,6,96,[.int .i64 0,.str [],.av,.str [],.int .i64 0,.av]⟩:=rfl
@[simp] theorem tab90:tab 90=⟨.struct [(0,84),(1,9),(2,80),(3,88),(9,40)],true,13,200,[.int .i64 0,.str [],.av,.int .i64 0,.str [],.av,.str [],.int .i64 0,.av,.int .i64 0,.int .i64 0,.str [],.av]⟩:=rfl
@[simp] theorem tab91:tab 91=fT:=rfl
@[simp] theorem tab93:tab 93=fT:=rfl
@[simp] theorem tab94:tab 94=sT 96:=rfl
@[simp] theorem tab95:tab 95=⟨.struct [(0,85),(1,3),(2,23),(3,3),(4,3),(5,94)],true,6,80,[.int .i64 0,.int .i64 0,.av,.int .i64 0,.int .i64 0,.av]⟩:=rfl
@[simp] theorem tab96:tab 96=⟨.struct [(0,85),(1,3),(2,23),(3,3),(4,3),(5,94)],true,6,80,[.int .i64 0,.int .i64 0,.av,.int .i64 0,.int .i64 0,.av]⟩:=rfl
@[simp] theorem tab97:tab 97=⟨.struct [(0,84),(1,3),(2,96),(8,3)],true,9,104,[.int .i64 0,.int .i64 0,.int .i64 0,.int .i64 0,.av,.int .i64 0,.int .i64 0,.av,.int .i64 0]⟩:=rfl
@[simp] theorem tab98:tab 98=⟨.struct [(0,84),(1,3),(2,96),(8,3)],true,9,104,[.int .i64 0,.int .i64 0,.int .i64 0,.int .i64 0,.av,.int .i64 0,.int .i64 0,.av,.int .i64 0]⟩:=rfl
@[simp] theorem tab101:tab 101=⟨.struct [(0,23),(1,23),(2,51)],true,3,72,[.av,.av,.av]⟩:=rfl
@[simp] theorem tab102:tab 102=fT:=rfl
@[simp] theorem tab103:tab 103=⟨.struct [(0,37),(1,3),(2,23)],true,3,40,[.int .i64 0,.int .i64 0,.av]⟩:=rfl
@[simp] theorem tab104:tab 104=⟨.struct [(0,37),(1,3),(2,23)],true,3,40,[.int .i64 0,.int .i64 0,.av]⟩:=rfl
@[simp] theorem tab108:tab 108=fT:=rfl
@[simp] theorem tab109:tab 109=fT:=rfl
@[simp] theorem tab110:tab 110=⟨.map 3 3,false,1,8,[.ay]⟩:=rfl
@[simp] theorem tab111:tab 111=fT:=rfl
@[simp] theorem tab112:tab 112=fT:=rfl
@[simp] theorem tab116:tab 116=fT:=rfl
@[simp] theorem tab120:tab 120=fT:=rfl
@[simp] theorem tab122:tab 122=fT:=rfl
@[simp] theorem tab123:tab 123=fT:=rfl
@[simp] theorem tab124:tab 124=pT 3:=rfl
@[simp] theorem tab130:tab 130=fT:=rfl
@[simp] theorem tab131:tab 131=fT:=rfl
@[simp] theorem tab132:tab 132=fT:=rfl
@[simp] theorem tab135:tab 135=⟨.struct [(0,3),(1,3)],true,2,16,[.int .i64 0,.int .i64 0]⟩:=rfl
@[simp] theorem tab138:tab 138=⟨.iface,false,1,16,[.niliface]⟩:=rfl
@[simp] theorem tab140:tab 140=iT:=rfl
@[simp] theorem tab142:tab 142=⟨.struct [],true,0,0,[]⟩:=rfl
@[simp] theorem tab144:tab 144=fT:=rfl
@[simp] theorem tab150:tab 150=⟨.struct [(0,9),(1,3)],true,2,24,[.str [],.int .i64 0]⟩:=rfl
@[simp] theorem tab151:tab 151=fT:=rfl
@[simp] theorem tab153:tab 153=fT:=rfl
@[simp] theorem tab156:tab 156=fT:=rfl
@[simp] theorem tab157:tab 157=pT 163:=rfl
@[simp] theorem tab158:tab 158=⟨.map 9 3,false,1,8,[.ay]⟩:=rfl
@[simp] theorem tab161:tab 161=fT:=rfl
@[simp] theorem tab162:tab 162=⟨.struct [(0,27),(6,158),(7,158),(8,158)],true,9,136,[.av,.int .i64 0,.av,.av,.av,.int .i64 0,.ay,.ay,.ay]⟩:=rfl
@[simp] theorem tab163:tab 163=⟨.struct [(0,27),(6,158),(7,158),(8,158)],true,9,136,[.av,.int .i64 0,.av,.av,.av,.int .i64 0,.ay,.ay,.ay]⟩:=rfl
@[simp] theorem tab167:tab 167=fT:=rfl
@[simp] theorem tab169:tab 169=fT:=rfl
@[simp] theorem tab170:tab 170=fT:=rfl
@[simp] theorem tab172:tab 172=⟨.struct [(0,157),(1,158),(2,3)],true,3,24,[.aA,.ay,.int .i64 0]⟩:=rfl
@[simp] theorem tab174:tab 174=fT:=rfl
@[simp] theorem tab178:tab 178=fT:=rfl
@[simp] theorem tab179:tab 179=pT 185:=rfl
@[simp] theorem tab181:tab 181=fT:=rfl
@[simp] theorem tab182:tab 182=sT 269:=rfl
@[simp] theorem tab183:tab 183=⟨.map 3 23,false,1,8,[.ay]⟩:=rfl
@[simp] theorem tab185:tab 185=⟨.struct [(0,57),(1,182),(2,183)],true,3,56,[.av,.av,.ay]⟩:=rfl
@[simp] theorem tab186:tab 186=fT:=rfl
@[simp] theorem tab202:tab 202=pT 204:=rfl
@[simp] theorem tab204:tab 204=⟨.struct [(0,27),(6,80),(7,80),(8,80)],true,9,184,[.av,.int .i64 0,.av,.av,.av,.int .i64 0,.av,.av,.av]⟩:=rfl
@[simp] theorem tab207:tab 207=fT:=rfl
@[simp] theorem tab209:tab 209=fT:=rfl
@[simp] theorem tab210:tab 210=fT:=rfl
@[simp] theorem tab212:tab 212=pT 214:=rfl
@[simp] theorem tab214:tab 214=⟨.struct [(0,202),(1,80),(2,3)],true,3,40,[.aA,.av,.int .i64 0]⟩:=rfl
@[simp] theorem tab222:tab 222=⟨.map 3 4,false,1,8,[.ay]⟩:=rfl
@[simp] theorem tab225:tab 225=fT:=rfl
@[simp] theorem tab230:tab 230=fT:=rfl
@[simp] theorem tab232:tab 232=fT:=rfl
@[simp] theorem tab234:tab 234=fT:=rfl
@[simp] theorem tab236:tab 236=⟨.struct [],true,0,0,[]⟩:=rfl
@[simp] theorem tab239:tab 239=fT:=rfl
@[simp] theorem tab240:tab 240=⟨.int .u64,false,1,8,[.int .u64 0]⟩:=rfl
@[simp] theorem tab243:tab 243=fT:=rfl
@[simp] theorem tab244:tab 244=pT 345:=rfl
@[simp] theorem tab251:tab 251=fT:=rfl
@[simp] theorem tab252:tab 252=pT 256:=rfl
@[simp] theorem tab253:tab 253=⟨.map 9 4,false,1,8,[.ay]⟩:=rfl
@[simp] theorem tab254:tab 254=sT 253:=rfl
@[simp] theorem tab256:tab 256=⟨.struct [(0,42),(6,158),(7,254),(8,253),(9,3)],true,10,152,[.av,.av,.int .i64 0,.int .i64 0,.str [],.av,.ay,.av,.ay,.int .i64 0]⟩:=rfl
@[simp] theorem tab258:tab 258=fT:=rfl
@[simp] theorem tab263:tab 263=fT:=rfl
@[simp] theorem tab267:tab 267=⟨.int .u64,false,1,8,[.int .u64 0]⟩:=rfl
@[simp] theorem tab269:tab 269=⟨.array 1 267,true,1,8,[.int .u64 0]⟩:=rfl
@[simp] theorem tab275:tab 275=sT 4:=rfl
@[simp] theorem tab280:tab 280=⟨.struct [(0,80),(1,80),(2,80)],true,3,72,[.av,.av,.av]⟩:=rfl
@[simp] theorem tab282:tab 282=pT 284:=rfl
@[simp] theorem tab284:tab 284=⟨.struct [(0,80),(1,23),(2,4)],true,3,56,[.av,.av,.bool false]⟩:=rfl
@[simp] theorem tab285:tab 285=fT:=rfl
@[simp] theorem tab289:tab 289=fT:=rfl
@[simp] theorem tab295:tab 295=⟨.int .u32,false,1,4,[.int .u32 0]⟩:=rfl
@[simp] theorem tab304:tab 304=⟨.struct [],true,0,0,[]⟩:=rfl
@[simp] theorem tab308:tab 308=⟨.struct [(0,40)],true,4,56,[.int .i64 0,.int .i64 0,.str [],.av]⟩:=rfl
@[simp] theorem tab309:tab 309=fT:=rfl
@[simp] theorem tab310:tab 310=fT:=rfl
@[simp] theorem tab316:tab 316=⟨.struct [(0,88)],true,6,96,[.int .i64 0,.str [],.av,.str [],.int .i64 0,.av]⟩:=rfl
@[simp] theorem tab317:tab 317=fT:=rfl
@[simp] theorem tab318:tab 318=fT:=rfl
@[simp] theorem tab321:tab 321=⟨.iface,false,1,16,[.niliface]⟩:=rfl
@[simp] theorem tab341:tab 341=sT 5:=rfl
@[simp] theorem tab342:tab 342=⟨.int .u64,false,1,8,[.int .u64 0]⟩:=rfl
@[simp] theorem tab343:tab 343=⟨.array 63 342,true,63,504,(List.replicate 63 (.int .u64 0))⟩:=rfl
@[simp] theorem tab345:tab 345=⟨.struct [(0,69),(2,343)],true,65,552,[.av,.av,.int .u64 0,.int .u64 0,.int .u64 0,.int .u64 0,.int .u64 0,.int .u64 0,.int .u64 0,.int .u64 0,.int .u64 0,.int .u64 0,.int .u64 0,.int .u64 0,.int .u64 0,.int .u64 0,.int .u64 0,.int .u64 0,.int .u64 0,.int .u64 0,.int .u64 0,.int .u64 0,.int .u64 0,.int .u64 0,.int .u64 0,.int .u64 0,.int .u64 0,.int .u64 0,.int .u64 0,.int .u64 0,.int .u64 0,.int .u64 0,.int .u64 0,.int .u64 0,.int .u64 0,.int .u64 0,.int .u64 0,.int .u64 0,.int .u64 0,.int .u64 0,.int .u64 0,.int .u64 0,.int .u64 0,.int .u64 0,.int .u64 0,.int .u64 0,.int .u64 0,.int .u64 0,.int .u64 0,.int .u64 0,.int .u64 0,.int .u64 0,.int .u64 0,.int .u64 0,.int .u64 0,.int .u64 0,.int .u64 0,.int .u64 0,.int .u64 0,.int .u64 0,.int .u64 0,.int .u64 0,.int .u64 0,.int .u64 0,.int .u64 0]⟩:=rfl
@[simp] theorem tab354:tab 354=fT:=rfl
@[simp] theorem tab355:tab 355=fT:=rfl
@[simp] theorem tab356:tab 356=sT 321:=rfl
@[simp] theorem tab369:tab 369=⟨.struct [(0,4),(1,3),(2,3)],true,3,24,[.bool false,.int .i64 0,.int .i64 0]⟩:=rfl
@[simp] theorem tab371:tab 371=⟨.map 37 369,false,1,8,[.ay]⟩:=rfl
@[simp] theorem tab373:tab 373=pT 375:=rfl
@[simp] theorem tab375:tab 375=⟨.struct [(0,373),(1,9)],true,2,24,[.aA,.str []]⟩:=rfl
@[simp] theorem tab377:tab 377=fT:=rfl
@[simp] theorem tab386:tab 386=⟨.struct [(0,17),(1,17),(2,17),(3,9)],true,4,40,[.aA,.aA,.aA,.str []]⟩:=rfl
@[simp] theorem tab387:tab 387=⟨.array 0 16,true,0,0,[]⟩:=rfl
@[simp] theorem tab389:tab 389=⟨.struct [(0,387)],true,0,0,[]⟩:=rfl
@[simp] theorem tab391:tab 391=⟨.int .u8,false,1,1,[.int .u8 0]⟩:=rfl
@[simp] theorem tab392:tab 392=⟨.int .u8,false,1,1,[.int .u8 0]⟩:=rfl
@[simp] theorem tab393:tab 393=fT:=rfl
@[simp] theorem tab394:tab 394=pT 5:=rfl
@[simp] theorem tab395:tab 395=⟨.int .i32,false,1,4,[.int .i32 0]⟩:=rfl
@[simp] theorem tab396:tab 396=⟨.int .i32,false,1,4,[.int .i32 0]⟩:=rfl
@[simp] theorem tab398:tab 398=⟨.struct [(0,12),(1,12),(2,295),(3,391),(4,5),(5,5),(6,392),(7,393),(8,394),(9,395),(10,396)],true,11,48,[.int .u64 0,.int .u64 0,.int .u32 0,.int .u8 0,.int .u8 0,.int .u8 0,.int .u8 0,.nilf,.aA,.int .i32 0,.int .i32 0]⟩:=rfl
theorem mixed:prog.follows .mixedOrders=true:=by kernel_rfl
abbrev Str:=List UInt8
abbrev fP:=List Str
attribute [simp] w7 w9
def big1{x:Nat}(h:x<=140737488355328):(140737488355328<x)=False:=by simp;omega
def big2{x:Nat}(h:x<=9223372036854775807):(9223372036854775807<x)=False:=by simp;omega
@[simp] theorem getElem0{α:Type}(a:α)(l:List α):(a::l)[0]? = some a:=rfl
abbrev sl(es:fV):D:=.slice es .no
abbrev dI(n:Int):D:=.int .i64 n
def cS(l:fP):fV:=l.map fun s=>[.str s]
@[simp] theorem cS_len(l:fP):(cS l).length=l.length:=by simp[cS]
@[simp] theorem cS_get(l:fP)(i:Nat):(cS l)[i]? = (l[i]?).map fun s=>[.str s]:=by simp[cS]
@[simp] theorem cS_all(l:fP):(cS l).all (fun c=>c.length==1)=true:=by simp[cS]
@[simp] theorem Dy(l:fP): ∀c∈cS l,c.length=1:=by simp[cS]
@[simp] theorem cS_flat(l:fP):(cS l).all Dq=true:=by simp[cS]
def cI(l:fR):fV:=l.map fun s=>[.int .i64 s]
@[simp] theorem Jf(l:fR):(cI l).length=l.length:=by simp[cI]
@[simp] theorem cI_get(l:fR)(i:Nat):(cI l)[i]? = (l[i]?).map fun s=>[.int .i64 s]:=by simp[cI]
@[simp] theorem C5(l:fR): ∀c∈cI l,c.length=1:=by simp[cI]
def cII(l:fW):fV:=l.map fun s=>[sl (cI s)]
@[simp] theorem cII_len(l:fW):(cII l).length=l.length:=by simp[cII]
@[simp] theorem cII_get(l:fW)(i:Nat):(cII l)[i]? = (l[i]?).map fun s=>[sl (cI s)]:=by simp[cII]
@[simp] theorem cI_all(l:fR):(cI l).all (fun c=>c.length==1)=true:=by simp[cI]
@[simp] theorem cII_all(l:fW):(cII l).all (fun c=>c.length==1)=true:=by simp[cII]
@[simp] theorem BX(l:fW): ∀c∈cII l,c.length=1:=by simp[cII]
structure lR where
 slot:Int
 n:Int
 deriving DecidableEq
structure aE where
 ap:fR
 am:fR
 ar:List lR
 deriving DecidableEq
inductive kA where
 |mk (op arg:Int) (path:fR) (cls n:Int) (aq:List kA)
structure aF where
 kind:Int
 gen:Int
 kJ:kA
 node:Int
structure aG where
 op:Int
 n:Int
 aq:fR
 deriving DecidableEq
structure aD where
 ak:List aE
 am:Int
 au:fR
 k9:List aF
 kC:List aG
 kH:Int
inductive aH where
 |mk (op n:Int) (text:Str) (aq:List aH)
inductive aI where
 |mk (op:Int) (name:Str) (path:fP) (cls:Str) (n:Int) (aq:List aI)
structure aM where
 slot:Str
 n:Int
 deriving DecidableEq
structure aJ where
 name:Str
 ap:fP
 am:fP
 ar:List aM
 deriving DecidableEq
structure aK where
 kind:Int
 name:Str
 params:fP
 kJ:aI
 body:aH
structure aL where
 ak:List aJ
 k9:List aK
 kH:aH
structure World where
 ap:fW
 owner:fR
 deriving DecidableEq
section
def kA.op:kA->Int|.mk o _ _ _ _ _=>o
def kA.arg:kA->Int|.mk _ a _ _ _ _=>a
def kA.path:kA->fR|.mk _ _ p _ _ _=>p
def kA.cls:kA->Int|.mk _ _ _ c _ _=>c
def kA.n:kA->Int|.mk _ _ _ _ n _=>n
def kA.aq:kA->List kA|.mk _ _ _ _ _ k=>k
def aH.op:aH->Int|.mk o _ _ _=>o
def aH.n:aH->Int|.mk _ n _ _=>n
def aH.text:aH->Str|.mk _ _ t _=>t
def aH.aq:aH->List aH|.mk _ _ _ k=>k
def aI.op:aI->Int|.mk o _ _ _ _ _=>o
def aI.name:aI->Str|.mk _ s _ _ _ _=>s
def aI.path:aI->fP|.mk _ _ p _ _ _=>p
def aI.cls:aI->Str|.mk _ _ _ c _ _=>c
def aI.n:aI->Int|.mk _ _ _ _ n _=>n
def aI.aq:aI->List aI|.mk _ _ _ _ _ k=>k
def kA.lt{f x:kA}(h:x∈f.aq):SizeOf.sizeOf x<SizeOf.sizeOf f:=by
 cases f;simp only[kA.aq]at h;have:=fb h;simp;omega
def aH.lt{f x:aH}(h:x∈f.aq):SizeOf.sizeOf x<SizeOf.sizeOf f:=by
 cases f;simp only[aH.aq]at h;have:=fb h;simp;omega
def aI.lt{f x:aI}(h:x∈f.aq):SizeOf.sizeOf x<SizeOf.sizeOf f:=by
 cases f;simp only[aI.aq]at h;have:=fb h;simp;omega
end
mutual
def Bp:kA->fQ
 |.mk o a p c n k=>[dI o,dI a,sl (cI p),dI c,dI n,sl (PO k)]
def PO:List kA->fV
 |[]=>[]
 |f::l=>Bp f::PO l
end
def ME: ∀l,PO l=l.map Bp
 |[]=>by rw[PO];rfl
 |f::l=>by rw[PO,ME l];rfl
@[simp] theorem EM(f:kA):Bp f=[dI f.op,dI f.arg,sl (cI f.path),dI f.cls,dI f.n,sl (f.aq.map Bp)]:=by
 cases f;rw[Bp,ME];rfl
mutual
def Af:aH->fQ
 |.mk o n t k=>[dI o,dI n,.str t,sl (PQ k)]
def PQ:List aH->fV
 |[]=>[]
 |f::l=>Af f::PQ l
end
def MF: ∀l,PQ l=l.map Af
 |[]=>by rw[PQ];rfl
 |f::l=>by rw[PQ,MF l];rfl
@[simp] theorem Cl(f:aH):Af f=[dI f.op,dI f.n,.str f.text,sl (f.aq.map Af)]:=by
 cases f;rw[Af,MF];rfl
mutual
def AE:aI->fQ
 |.mk o s p c n k=>[dI o,.str s,sl (cS p),.str c,dI n,sl (L2 k)]
def L2:List aI->fV
 |[]=>[]
 |f::l=>AE f::L2 l
end
def L1: ∀l,L2 l=l.map AE
 |[]=>by rw[L2];rfl
 |f::l=>by rw[L2,L1 l];rfl
@[simp] theorem Cp(f:aI):AE f=[dI f.op,.str f.name,sl (cS f.path),.str f.cls,dI f.n,sl (f.aq.map AE)]:=by
 cases f;rw[AE,L1];rfl
@[simp] def Ef(i:lR):fQ:=[dI i.slot,dI i.n]
@[simp] def kF(c:aE):fQ:=[sl (cI c.ap),sl (cI c.am),sl (c.ar.map Ef)]
@[simp] def Av(m:aF):fQ:=[dI m.kind,dI m.gen]++Bp m.kJ++[dI m.node]
@[simp] def Ai(x:aG):fQ:=[dI x.op,dI x.n,sl (cI x.aq)]
@[simp] def Am(p:aD):fQ:=[sl (p.ak.map kF),dI p.am,sl (cI p.au),sl (p.k9.map Av),sl (p.kC.map Ai),dI p.kH]
@[simp] def Dz(i:aM):fQ:=[.str i.slot,dI i.n]
@[simp] def kL(c:aJ):fQ:=[.str c.name,sl (cS c.ap),sl (cS c.am),sl (c.ar.map Dz)]
@[simp] def BQ(m:aK):fQ:=[dI m.kind,.str m.name,sl (cS m.params)]++AE m.kJ++Af m.body
@[simp] def AS(p:aL):fQ:=[sl (p.ak.map kL),sl (p.k9.map BQ)]++Af p.kH
@[simp] def Dx(w:World):fQ:=[sl (cII w.ap),sl (cI w.owner)]
def A8{V:Sig}{i j:Nat}{o:kM}(h:V.set i o j=none):j≠i/\V j=none:=by
 by_cases hj:j=i
 ·subst hj;rw[w7]at h;cases h
 ·rw[w8 _ _ hj]at h;exact⟨hj,h⟩
def A1{α:Type}{l:List α}{k:Nat}(h:¬k<l.length):l.drop k=[]:=dm k0
def A0{α:Type}{l:List α}{k:Nat}(h:k<l.length):l.drop k=l[k]::l.drop (k+1):=ed h
@[simp] theorem cI_nil:cI []=[]:=rfl
@[simp] theorem cS_nil:cS []=[]:=rfl
@[simp] theorem cII_nil:cII []=[]:=rfl
@[simp] theorem cI_take(l:fR)(k:Nat):(cI l).take k=cI (l.take k):=by simp[cI]
@[simp] theorem cI_tail(l:fR):(cI l).tail=cI l.tail:=by simp[cI]
@[simp] theorem cS_drop(l:fP)(k:Nat):(cS l).drop k=cS (l.drop k):=by simp[cS]
@[simp] theorem cS_take(l:fP)(k:Nat):(cS l).take k=cS (l.take k):=by simp[cS]
def BA(f:kA):[dI f.op,dI f.arg,sl (cI f.path),dI f.cls,dI f.n,sl (f.aq.map Bp)]=Bp f:=by simp
def BB(f:aH):[dI f.op,dI f.n,.str f.text,sl (f.aq.map Af)]=Af f:=by simp
def B5(f:aI):[dI f.op,.str f.name,sl (cS f.path),.str f.cls,dI f.n,sl (f.aq.map AE)]=AE f:=by simp
theorem Bz(i:lR):[dI i.slot,dI i.n]=Ef i:=rfl
theorem AM(c:aE):[sl (cI c.ap),sl (cI c.am),sl (c.ar.map Ef)]=kF c:=rfl
def B8(m:aF):[dI m.kind,dI m.gen,dI m.kJ.op,dI m.kJ.arg,sl (cI m.kJ.path),dI m.kJ.cls,dI m.kJ.n,sl (m.kJ.aq.map Bp),dI m.node]=Av m:=by simp
theorem B7(x:aG):[dI x.op,dI x.n,sl (cI x.aq)]=Ai x:=rfl
theorem B6(p:aD):[sl (p.ak.map kF),dI p.am,sl (cI p.au),sl (p.k9.map Av),sl (p.kC.map Ai),dI p.kH]=Am p:=rfl
theorem B4(i:aM):[.str i.slot,dI i.n]=Dz i:=rfl
theorem AL(c:aJ):[.str c.name,sl (cS c.ap),sl (cS c.am),sl (c.ar.map Dz)]=kL c:=rfl
def B3(m:aK):dI m.kind :: .str m.name::sl (cS m.params)::dI m.kJ.op :: .str m.kJ.name::sl (cS m.kJ.path) :: .str m.kJ.cls::dI m.kJ.n::sl (m.kJ.aq.map AE)::Af m.body=BQ m:=by simp
def B2(p:aL):sl (p.ak.map kL)::sl (p.k9.map BQ)::Af p.kH=AS p:=by simp
theorem B1(w:World):[sl (cII w.ap),sl (cI w.owner)]=Dx w:=rfl
def wtL{α:Type}(f:α->Nat):List α->Nat
 |[]=>0
 |x::l=>f x+wtL f l
def E1{α:Type}(f:α->Nat): ∀(l:List α) (k:Nat) (h:k<l.length),f l[k]<=wtL f l
 |x::l,0,_=>by simp[wtL]
 |x::l,k+1,h=>by
  have:=E1 f l k (by simpa using h);simp only[dB,wtL];omega
def wtL_mem{α:Type}(f:α->Nat){l:List α}{x:α}(h:x∈l):f x<=wtL f l:=by
 obtain⟨k,hk,rfl⟩:=bm h;exact E1 f l k hk
def E0{α:Type}(f:α->Nat)(hf:∀x,1<=f x): ∀l:List α,l.length<=wtL f l
 |[]=>bn _
 |x::l=>by
  have:=E0 f hf l;have:=hf x;simp only[aV,wtL];omega
def EN{α:Type}(f:α->Nat): ∀l m:List α,wtL f (l++m)=wtL f l+wtL f m
 |[],m=>by simp[wtL]
 |x::l,m=>by simp only[bE,wtL,EN f l m];omega
def wtS:fP->Nat:=wtL fun s=>1+s.length
mutual
def kA.wt:kA->Nat
 |.mk _ _ p _ _ k=>1+p.length+kA.wts k
def kA.wts:List kA->Nat
 |[]=>0
 |f::l=>f.wt+kA.wts l
end
mutual
def aH.wt:aH->Nat
 |.mk _ _ t k=>1+t.length+aH.wts k
def aH.wts:List aH->Nat
 |[]=>0
 |f::l=>f.wt+aH.wts l
end
mutual
def aI.wt:aI->Nat
 |.mk _ s p c _ k=>1+s.length+wtS p+c.length+aI.wts k
def aI.wts:List aI->Nat
 |[]=>0
 |f::l=>f.wt+aI.wts l
end
def kA.wts_eq: ∀l,kA.wts l=wtL kA.wt l
 |[]=>by rw[kA.wts,wtL]
 |f::l=>by rw[kA.wts,wtL,kA.wts_eq l]
def aH.wts_eq: ∀l,aH.wts l=wtL aH.wt l
 |[]=>by rw[aH.wts,wtL]
 |f::l=>by rw[aH.wts,wtL,aH.wts_eq l]
def aI.wts_eq: ∀l,aI.wts l=wtL aI.wt l
 |[]=>by rw[aI.wts,wtL]
 |f::l=>by rw[aI.wts,wtL,aI.wts_eq l]
def kA.wt_eq(f:kA):f.wt=1+f.path.length+wtL kA.wt f.aq:=by cases f;rw[kA.wt,kA.wts_eq];rfl
def aH.wt_eq(f:aH):f.wt=1+f.text.length+wtL aH.wt f.aq:=by cases f;rw[aH.wt,aH.wts_eq];rfl
def aI.wt_eq(f:aI):f.wt=1+f.name.length+wtS f.path+f.cls.length+wtL aI.wt f.aq:=by cases f;rw[aI.wt,aI.wts_eq];rfl
def kA.wt_pos(f:kA):1<=f.wt:=by rw[kA.wt_eq];omega
def aH.wt_pos(f:aH):1<=f.wt:=by rw[aH.wt_eq];omega
def aI.wt_pos(f:aI):1<=f.wt:=by rw[aI.wt_eq];omega
def Bc(l:fP):l.length<=wtS l:=E0 _ (fun x=>by omega) l
def JN(l:fP)(k:Nat)(h:k<l.length):l[k].length<wtS l:=by
 have:=E1 (fun s:Str=>1+s.length) l k h;unfold wtS;omega
def kA.wt_le(f:kA):f.path.length<f.wt/\f.aq.length<f.wt /\ ∀(k:Nat) (h:k<f.aq.length),(f.aq[k]).wt<f.wt:=by
 have h1:=kA.wt_eq f;have h2:=E0 kA.wt kA.wt_pos f.aq;exact⟨k0,k0,fun k h=>by have:=E1 kA.wt f.aq k h;omega⟩
def aH.wt_le(f:aH):f.text.length<f.wt/\f.aq.length<f.wt /\ ∀(k:Nat) (h:k<f.aq.length),(f.aq[k]).wt<f.wt:=by
 have h1:=aH.wt_eq f;have h2:=E0 aH.wt aH.wt_pos f.aq;exact⟨k0,k0,fun k h=>by have:=E1 aH.wt f.aq k h;omega⟩
def aI.wt_le(f:aI):f.name.length<f.wt/\wtS f.path<f.wt/\f.cls.length<f.wt/\f.aq.length<f.wt /\ ∀(k:Nat) (h:k<f.aq.length),(f.aq[k]).wt<f.wt:=by
 have h1:=aI.wt_eq f;have h2:=E0 aI.wt aI.wt_pos f.aq;exact⟨k0,k0,k0,k0,fun k h=>by have:=E1 aI.wt f.aq k h;omega⟩
def aE.wt(c:aE):Nat:=1+c.ap.length+c.am.length+c.ar.length
def aG.wt(x:aG):Nat:=1+x.aq.length
def aF.wt(m:aF):Nat:=1+m.kJ.wt
def aD.wt(p:aD):Nat:=1+wtL aE.wt p.ak+p.au.length+wtL aF.wt p.k9+wtL aG.wt p.kC
def aM.wt(i:aM):Nat:=1+i.slot.length
def aJ.wt(c:aJ):Nat:=1+c.name.length+wtS c.ap+wtS c.am+wtL aM.wt c.ar
def aK.wt(m:aK):Nat:=1+m.name.length+wtS m.params+m.kJ.wt+m.body.wt
def aL.wt(p:aL):Nat:=1+wtL aJ.wt p.ak+wtL aK.wt p.k9+p.kH.wt
def aD.wt_le(p:aD):p.ak.length<p.wt/\p.au.length<p.wt/\p.k9.length<p.wt/\p.kC.length<p.wt /\
  (∀(k:Nat) (h:k<p.ak.length),(p.ak[k]).wt<p.wt)/\(∀(k:Nat) (h:k<p.k9.length),(p.k9[k]).wt<p.wt) /\ ∀(k:Nat) (h:k<p.kC.length),(p.kC[k]).wt<p.wt:=by
 have h1:=E0 aE.wt (fun x=>by unfold aE.wt;omega) p.ak;have h2:=E0 aF.wt (fun x=>by unfold aF.wt;omega) p.k9;have h3:=E0 aG.wt (fun x=>by unfold aG.wt;omega) p.kC;unfold aD.wt;exact⟨k0,k0,k0,k0,fun k h=>by have:=E1 aE.wt p.ak k h;omega,fun k h=>by have:=E1 aF.wt p.k9 k h;omega,fun k h=>by have:=E1 aG.wt p.kC k h;omega⟩
def aL.wt_le(p:aL):p.ak.length<p.wt/\p.k9.length<p.wt/\p.kH.wt<p.wt /\
  (∀(k:Nat) (h:k<p.ak.length),(p.ak[k]).wt<p.wt)/\(∀(k:Nat) (h:k<p.k9.length),(p.k9[k]).wt<p.wt):=by
 have h1:=E0 aJ.wt (fun x=>by unfold aJ.wt;omega) p.ak;have h2:=E0 aK.wt (fun x=>by unfold aK.wt;omega) p.k9;unfold aL.wt;exact⟨k0,k0,k0,fun k h=>by have:=E1 aJ.wt p.ak k h;omega,fun k h=>by have:=E1 aK.wt p.k9 k h;omega⟩
def aJ.wt_le(c:aJ):c.name.length<c.wt/\wtS c.ap<c.wt/\wtS c.am<c.wt/\c.ar.length<c.wt /\ ∀(k:Nat) (h:k<c.ar.length),(c.ar[k]).slot.length<c.wt:=by
 have h1:=E0 aM.wt (fun x=>by unfold aM.wt;omega) c.ar;unfold aJ.wt;exact⟨k0,k0,k0,k0,fun k h=>by have:=E1 aM.wt c.ar k h;unfold aM.wt at this⊢; omega⟩
end Go.DL
namespace Go.Proofs
open Go.Proofs.Tryz
open Go.Shelf
def kN:Go.Shelf.Ren:=⟨fun x=>match x with|189=>150|125=>220|257=>219|128=>265|129=>266|294=>256|295=>257|296=>258|297=>259|298=>260|299=>261|216=>262|300=>263|301=>264|328=>287|329=>288|330=>289|331=>290|332=>291|215=>292|343=>308|n=>n,fun x=>match x with|28=>23|3=>3|46=>240|0=>0|51=>295|53=>267|4=>4|183=>334|182=>333|131=>114|5=>5|9=>9|218=>361|222=>124|228=>379|229=>380|n=>n,fun n=>n⟩
def laysSort:Lays.n189 prog kN:=
 {mixed:=Eq.refl true,f125:=func220.trans (cf some (by kernel_rfl)),f128:=func265.trans (cf some (by kernel_rfl)),f129:=func266.trans (cf some (by kernel_rfl)),f189:=func150.trans (cf some (by kernel_rfl)),f215:=func292.trans (cf some (by kernel_rfl)),f216:=func262.trans (cf some (by kernel_rfl)),f257:=func219.trans (cf some (by kernel_rfl)),f294:=func256.trans (cf some (by kernel_rfl)),f295:=func257.trans (cf some (by kernel_rfl)),f296:=func258.trans (cf some (by kernel_rfl)),f297:=func259.trans (cf some (by kernel_rfl)),f298:=func260.trans (cf some (by kernel_rfl)),f299:=func261.trans (cf some (by kernel_rfl)),f300:=func263.trans (cf some (by kernel_rfl)),f301:=func264.trans (cf some (by kernel_rfl)),f328:=func287.trans (cf some (by kernel_rfl)),f329:=func288.trans (cf some (by kernel_rfl)),f330:=func289.trans (cf some (by kernel_rfl)),f331:=func290.trans (cf some (by kernel_rfl)),f332:=func291.trans (cf some (by kernel_rfl)),f343:=func308.trans (cf some (by kernel_rfl)),t0:=underlying0,a0:=isAgg0,z0:=sizeOf0,v0:=zeroValue0,t3:=underlying3,a3:=isAgg3,z3:=sizeOf3,v3:=zeroValue3,t4:=underlying4,a4:=isAgg4,z4:=sizeOf4,v4:=zeroValue4,t5:=underlying5,a5:=isAgg5,z5:=sizeOf5,v5:=zeroValue5,t9:=underlying9,a9:=isAgg9,z9:=sizeOf9,v9:=zeroValue9,t28:=underlying23,a28:=isAgg23,z28:=sizeOf23,v28:=zeroValue23,t46:=underlying240,a46:=isAgg240,z46:=sizeOf240,v46:=zeroValue240,t51:=underlying295,a51:=isAgg295,z51:=sizeOf295,v51:=zeroValue295,t53:=underlying267,a53:=isAgg267,z53:=sizeOf267,v53:=zeroValue267,t131:=underlying114,a131:=isAgg114,z131:=sizeOf114,v131:=zeroValue114,t182:=underlying333,a182:=isAgg333,z182:=sizeOf333,v182:=zeroValue333,t183:=underlying334,a183:=isAgg334,z183:=sizeOf334,v183:=zeroValue334,t218:=underlying361,a218:=isAgg361,z218:=sizeOf361,v218:=zeroValue361,t222:=underlying124,a222:=isAgg124,z222:=sizeOf124,v222:=zeroValue124,t228:=underlying379,a228:=isAgg379,z228:=sizeOf379,v228:=zeroValue379,t229:=underlying380,a229:=isAgg380,z229:=sizeOf380,v229:=zeroValue380 }
end Go.Proofs
namespace Go.DL
open Go.Proofs.Tryz
open Go Go.Proofs Go.Sort
def Fw(l:fR):fR:=l.mergeSort fun x y=>decide (x<=y)
def HR(l:fR):(Fw l).length=l.length:=by unfold Fw;exact List.length_mergeSort _
def OU(l:fR)(j:Nat)(h:j<l.length):l.toArray[j]! = l[j]:=by simp[getElem!_pos,h]
def WQ(l:fR)(st:MR)(V:Sig)(hm:mOK V 1 st (cI l))(hl:l.length<=1073741824):
  aB prog 150 [mD st l.length] (mS V st (cI l)) fun x U'=>x=.ret (.tup [])/\U'=mS V st (cI (Fw l)):=by
 have hL:∀f∈[kN.f 189,kN.f 257,kN.f 125,kN.f 294,kN.f 295,kN.f 296,kN.f 297,kN.f 298,kN.f 299,kN.f 216,kN.f 300,kN.f 301,kN.f 129,kN.f 328,kN.f 329,kN.f 330,kN.f 331,kN.f 332,kN.f 215,kN.f 343],f<prog.funcs.size:=by
  rw[Ap];decide
 refine⟨by rw[Ap];decide,Ek func150 (by rfl) (by rfl),fun g w vs hs ha=>?_⟩;obtain⟨v,r,rfl,hv,rfl⟩:=ha;cases st with
 |none=>
  have iF:l=[]:=by have:cI l=[]:=hm;simpa[cI] using this
  subst iF;have ij:v=.slice none 0 0:=hv;subst ij;refine(MD (fun D=>AnyS.slices_Sort_int_none_alone laysSort D none 0 w) hL none).mono ?_
  rintro e w' ⟨rfl,rfl⟩
  refine⟨g,.ret (.tup []),_,.refl g,hs,⟨_,rfl,[],rfl,rfl⟩,rfl,?_⟩;simp[mS]
 | some x =>
  obtain⟨i,cap,rest⟩:=x;obtain⟨h1,h2,h3,h4⟩:=hm;obtain⟨b,hb,hv⟩:=hv;subst hv;obtain⟨b',vs,ty,gu,d6,hr⟩:=hs.obj i _ (w7 ..);obtain rfl:b'=b:=by rw[hb]at gu;cases gu;rfl
  have e8:∀m:fR,(cI m).flatten=m.map (D.int .i64):=fun m=>by induction m with
   |nil=>rfl
   |cons x m ih=>simp only[cI,bg,cT]at ih⊢; rw[ih];rfl
  have hlen:=kI.length hr;simp only[bY,aO,e8,aY]at hlen
  have gI:∀j (hj:j<l.length),vs[j]? = some (.int .i64 l[j]):=by
   intro j hj;have:=kI.get hr j;rw[bK (by simp[e8,hj]),e8]at this;simp only[bN,aT hj,bT,ca,cD]at this;have gb:j<vs.size:=by omega
   rw[bO gb]at this⊢;have this':vs[j]=.int .i64 l[j]:=this;rw[this']
  have hH:Holds (Value.int .i64) w b' 0 l.toArray:=by
   intro j hj;have gU:j<l.length:=by simpa using hj
   refine⟨?_,by simp[Go.World.frozen?, d6]⟩;simp only[Go.World.cell?, d6,bZ];rw[OU l j gU];exact gI j gU
  have iR:b'<w.heap.size:=(aX.1 d6).1;refine(MD (fun D=>AnyS.slices_Sort_int_alone laysSort D b' 0 cap l w hH iR k0) hL none).mono ?_
  rintro e w' ⟨rfl,q,os,rfl⟩
  refine⟨g,.ret (.tup []),_,.refl g,?_,⟨_,rfl,[],rfl,rfl⟩,rfl,rfl⟩;have iv:=HR l;have gk:=hs.setObj (i:=i) (b:=b') (ds':=(cI (Fw l)).flatten++rest) (vs':=putCells (Value.int .i64) 0 (Fw l).toArray vs) (ty:=ty) (w7 ..) hb ?_ ⟨vs,d6⟩
  ·have e1:(mS V (some (i,cap,rest)) (cI l)).set i (.cells ((cI (Fw l)).flatten++rest))=mS V (some (i,cap,rest)) (cI (Fw l)):=w9 ..;rw[e1]at gk;refine gk.later (fun k x hx=>?_) rfl;have hk:k<w.heap.size:=by have:=(aX.1 hx).1;simpa[setB] using this
   simp only[grow,putRow,mapBlock];have ea:(Sort.ahead w q).heap=w.heap:=rfl;rw[ea];rw[eI (by simpa using hk)]
   by_cases gG:k=b'
   ·subst gG;rw[DC d6]at hx;rw[dv,aS rfl,d6,<-hx];rfl
   ·rw[Fx gG]at hx;rw[dv,aQ (fun e=>gG e.symm),hx]
  ·refine Bs (by simp[putCells,e8];omega) fun j d u hd hu=>?_
   rw[e8]at hd;simp only[putCells,cD,Array.getElem?_mapIdx,fi,fh,bZ,fC,dQ]at hu
   have gb:j<vs.size:=by
    rcases cF j vs.size with h|h
    ·exact h
    ·rw[cu h]at hu;cases hu
   rw[bO gb]at hu;simp only[bT,bJ]at hu
   by_cases hj:j<(Fw l).length
   ·rw[aS hj,OU _ _ hj]at hu;rw[bK (by simpa using hj),bN,aT hj]at hd;simp only[bT,bJ]at hd;subst hd hu;exact rfl
   ·rw[aQ hj]at hu;rw[bP (by simpa using hj)]at hd;have:=kI.get hr j;rw[bP (by simp[e8];omega),e8]at this;simp only[aY]at hd this;rw[iv]at hd;rw[hd,cD,bO gb,hu]at this;exact this
end Go.DL
