/- A part of the proof. -/
import Derived.Test.YtlfimpogphmbdaaGreatQ09
import Derived.Laws.BytesArg
import Derived.Test.YtlfimpogphmbdaaGreatProg
import Derived.KernelRfl
import Derived.Shelf.Slices.In.SortAlone
import Derived.Shelf.Slices.In.SortNone
set_option linter.all false
namespace Go.DL
open Go.Proofs.Tryz
open Go
section
variable {P:Program}{ro:Option Nat}{n:Nat}{ops:Array Oper}{N:Nat}{S0:Sig}{Q:DX->St->Prop}{df:List DDf}{E:fG}
def Chain(ops:Array Oper)(k:Nat):Prop:= ∀i,k<=i->∀o,ops[i]? = some o->(∀e∈o.after,Region.binds .any e=true->e.on<i)/\(k<i->∃e∈o.after,Region.binds .any e=true/\e.on=i-1)
theorem PH{F:Fence}{R:Exit->Act->World->Prop}{k:Nat}(fX:Chain ops k): ∀(m q:Nat) (listed:Array Bool) (a:Act) (w:World),q+m=ops.size->k<=q->listed.size=ops.size->(∀i,i<q->listed.getD i true=true)->(∀i,q<=i->i<ops.size->listed.getD i true=false)->
  wpListIn F 0 P ops R (ops.toList.drop q) a w->wpAnyIn F 0 P .any ops R m listed a w:=by
 intro m
 induction m with
 |zero=>
  intro q listed a w hq hk e7 h1 h2 h
  rw[cN (by simp;omega)]at h
  refine⟨cF.2 fun i hi=>?_,h⟩
  obtain⟨h3,o,ho,_⟩:=mem_ready.1 hi
  have:=(aR.1 ho).1
  rw[h1 i (by omega)]at h3;cases h3
 | succ m ih =>
  intro q listed a w hq hk e7 h1 h2 h
  have f9:q<ops.size:=by omega
  have ho:ops[q]? = some ops[q]:=bz f9
  have hd:ops.toList.drop q=ops[q]::ops.toList.drop (q+1):=by rw[dH (by simpa using f9)];simp
  rw[hd]at h
  have g7:∀j,j<q->∀(b:Bool),listed.getD j b=true:=fun j hj b=>by
   have:=h1 j hj
   have hl:j<listed.size:=by omega
   simpa[hl] using this
  refine⟨fun he=>?_,fun i hi=>?_⟩
  ·exfalso
   have:q∈Region.ready .any ops listed:=mem_ready.2 ⟨h2 q (bm _) f9,_,ho,fun e hm hb=>g7 _ ((fX q hk _ ho).1 e hm hb) _⟩
   rw[he]at this;cases this
  ·obtain⟨h3,o,gw,d7⟩:=mem_ready.1 hi
   have gF:=(aR.1 gw).1
   have g6:i=q:=by
    rcases Nat.lt_trichotomy i q with d8|gr|gH
    ·rw[h1 i d8]at h3;cases h3
    ·exact gr
    ·exfalso
     obtain⟨e,hm,hb,ga⟩:=(fX i (by omega) o gw).2 (by omega)
     have h4:=d7 e hm hb
     have h5:=h2 (i-1) (by omega) (by omega)
     rw[ga]at h4
     have hl:i-1<listed.size:=by omega
     simp[hl]at h4 h5
     rw[h5]at h4;cases h4
   subst g6
   have fU:∀j,j<i+1->(listed.setIfInBounds i true).getD j true=true:=fun j hj=>by
    by_cases gD:j=i
    ·subst gD
     have:j<listed.size:=by omega
     simp[this]
    ·rw[getD_set_ne true (fun e=>gD e.symm)];exact h1 j (by omega)
   have fR:∀j,i+1<=j->j<ops.size->(listed.setIfInBounds i true).getD j true=false:=fun j hj gj=>by
    rw[getD_set_ne true (show i≠j by omega)];exact h2 j (by omega) gj
   have step:∀a w,wpListIn F 0 P ops R (ops.toList.drop (i+1)) a w->wpAnyIn F 0 P .any ops R m (listed.setIfInBounds i true) a w:=fun a w h=>ih (i+1) _ a w (by omega) (by omega) (by simpa using e7) fU fR h
   unfold wpListIn at h
   unfold wpOpIn
   rw[ho]
   simp only
   split
   ·rename_i hw
    rw[aS hw]at h
    exact Oper.wpIn_mono step h
   ·rename_i hw
    rw[aN hw]at h
    exact⟨h.1,step _ _ h.2⟩
theorem Tp(hN:P.funcs.size=N){ord:fG}{k:Nat}(gR:k<ops.size)(fX:Chain ops k)(fN:mixB ops E [] ord=true)(fZ:∀i,i<k->i∈ord)(d8:∀i∈ord,i<k)
  (gL:∀i,i<k->EF ops ops.size k i=true) {g0:G}{rr:Option Nat} (hr:RoRep g0 ro rr) :
  ∀(m:Nat) (r:fG) (listed:Array Bool) (γ:Fr) (V:Sig),r.length=m->listed.size=ops.size->r=ord.filter (fun i=> !listed.getD i true)->(∀i,k<=i->i<ops.size->listed.getD i true=false)->Closed ops listed->
   MOps P ro n ops N S0 (Then (fun s=>av P ro n ops Q (ops.toList.drop k) s) Q) df E r γ V->Sub S0 V->
   ∀(g:G) (w:World) (a:Act),g0.le g->SimS P g n ⟨γ,V,df⟩ a w->wpAnyIn (FX P rr) 0 P .any ops (Post P g0 n Q) (m+(ops.size-k)) listed a w:=by
 have gb:∀(r:fG) (listed:Array Bool),listed.size=ops.size->(∀i,k<=i->i<ops.size->listed.getD i true=false)->Closed ops listed->r=ord.filter (fun i=> !listed.getD i true)->∀i∈Region.ready .any ops listed,i∈r\/(k<=i/\r=[]):=by
  intro r listed e7 fQ e9 hf i hi
  obtain⟨h1,o,ho,hd⟩:=mem_ready.1 hi
  have g8:i<ops.size:=(aR.1 ho).1
  rcases Nat.lt_trichotomy i k with d8|gr|gH
  ·left
   rw[hf,bH]
   exact⟨fZ i d8,by rw[h1];rfl⟩
  ·subst gr
   right
   refine⟨bm _,?_⟩
   rw[hf,cn]
   intro x hx
   have:=CC e9 ops.size i x o ho hd (gL x (d8 x hx))
   rcases cg x listed.size with h|h
   ·simp[h]at this⊢; exact this
   ·simp[bY h]at this
  ·exfalso
   obtain⟨e,hm,hb,ga⟩:=(fX i (by omega) o ho).2 gH
   have h4:=hd e hm hb
   have h5:=fQ (i-1) (by omega) (by omega)
   rw[ga]at h4
   have hl:i-1<listed.size:=by omega
   simp[hl]at h4 h5
   rw[h5]at h4;cases h4
 intro m
 induction m with
 | zero =>
  intro r listed γ V hl e7 hf fQ e9 h hC g w a hg hs
  obtain rfl:r=[]:=bC.1 hl
  have d7:∀x,x<k->listed.getD x true=true:=by
   intro x hx
   have:=(cn.1 hf.symm) x (fZ x hx)
   simpa using this
  have h1:av P ro n ops Q (ops.toList.drop k) ⟨γ,V,df⟩:=fun g w a r hr hs=>by
   have h':=h g w a r hr hs
   obtain⟨g',s',x,k1,k2,k3,k4⟩:=h'
   cases x with
   |normal=>exact AA k1 _ (k4 g' w a r (hr.mono k1) k2)
   |ret=>cases k3
   |exit _=>cases k3
   |panic _=>obtain⟨v,k3,_⟩:=k3;cases k3
  rw[ck]
  exact PH fX (ops.size-k) k listed a w (by omega) (bm _) e7 d7 fQ (AA hg _ (h1 g w a rr (hr.mono hg) hs))
 | succ m ih =>
  intro r listed γ V hl e7 hf fQ e9 h hC g w a hg hs
  rw[show m+1+(ops.size-k)=(m+(ops.size-k))+1 by omega]
  obtain⟨y,t,rfl⟩:∃y t,r=y::t:=by cases r with|nil=>cases hl|cons y t=>exact⟨y,t,rfl⟩
  refine⟨fun he=>?_,fun i hi=>?_⟩
  ·exfalso
   obtain⟨l1,l2,fM,gV,hy,iz⟩:=bU.1 hf.symm
   subst fM
   obtain⟨h1,_,_,o,ho,gI,_⟩:=Et l1 [] fN
   have:y∈Region.ready .any ops listed:=by
    refine mem_ready.2 ⟨by simpa using hy,o,ho,fun e hm hb=>?_⟩
    rcases gI e hm hb with h4|h4
    ·have h5:=gV _ h4
     simp only[ca,dw]at h5
     have gc:e.on<listed.size:=by
      have:=d8 e.on (by simp[h4])
      omega
     simpa[gc] using h5
    ·cases h4
   rw[he]at this;cases this
  ·have gZ:i∈y::t:=by
    rcases gb _ listed e7 fQ e9 hf i hi with h|h
    ·exact h
    ·exact absurd h.2 (by simp)
   obtain⟨pre,post,fK⟩:=bX gZ
   rw[fK]at hf h hl
   obtain⟨l1',l2',fM,go,iv⟩:=cT.1 hf.symm
   obtain⟨m1,m2,gg,gT,iB,iq⟩:=bU.1 iv
   have d9:ord=(l1'++m1)++i::m2:=by rw[fM,gg];simp
   have g8:i<k:=d8 i (by rw[d9];simp)
   rw[d9]at fN
   obtain⟨n1,_,n3,o,ho,gI,hx⟩:=Et (l1'++m1) [] fN
   obtain⟨gX,o',gA,d7⟩:=mem_ready.1 hi
   obtain rfl:o'=o:=by rw[ho]at gA;cases gA;rfl
   have fP:=Gg ho post pre γ V (fun x gv=>by
    have gK:x∈l1'++m1:=by
     have:x∈l1'.filter (fun i=> !listed.getD i true):=by rw[go];exact gv
     simp[(bH.1 this).1]
    have gu:listed.getD x true=false:=by
     have:x∈l1'.filter (fun i=> !listed.getD i true):=by rw[go];exact gv
     simpa using(bH.1 this).2
    rcases hx x gK with h4|h4
    ·exfalso
     have:=CC e9 ops.size i x o' ho d7 h4
     rcases cg x listed.size with d8|d8
     ·simp[d8]at this gu;rw[gu]at this;cases this
     ·simp[bY d8]at this
    ·exact h4) h
   have fJ:pre++post=ord.filter (fun j=> !(listed.setIfInBounds i true).getD j true):=by
    have gF:i<listed.size:=by
     rw[e7];exact(aR.1 ho).1
    rw[d9,bW,cu]
    have e1:(listed.setIfInBounds i true).getD i true=true:=by simp[gF]
    rw[e1,Ay n1,Ay n3]
    simp only[cw,bj,bd,bW,go,iq]
    rw[cn.2 (fun x hx=>by simpa using gT x hx),bb]
   have hlen:(pre++post).length=m:=by simp at hl⊢; omega
   have fW:∀j,k<=j->j<ops.size->(listed.setIfInBounds i true).getD j true=false:=fun j hj gj=>by rw[getD_set_ne true (show i≠j by omega)];exact fQ j hj gj
   obtain⟨o2,gx,hh⟩:=fP
   obtain rfl:o2=o':=by rw[ho]at gx;cases gx;rfl
   unfold wpOpIn
   simp only[ho]
   rcases hh with⟨d,hy,hM⟩|⟨_,hE⟩
   ·exact ET (Q:=Q) hN (hr.mono hg) hg hs hC hy fun g' w' a' gn hs'=>ih _ _ _ _ hlen (by simpa using e7) fJ fW (e9.set hi) hM hC g' w' a' (hg.trans gn) hs'
   ·exact Dd (Q:=Q) (hr.mono hg) hg hs hE (fun g' w' a' d S' gn hR hs'=>ih _ _ _ _ hlen (by simpa using e7) fJ fW (e9.set hi) hR.2 hR.1 g' w' a' (hg.trans gn) hs') fun d S' hp=>hp
def Ya(ops:Array Oper)(k:Nat):Bool:=(List.range ops.size).all fun i=>decide (i<k)||match ops[i]? with
 |some o=>o.after.all (fun e=> !Region.binds .any e||decide (e.on<i))&&(decide (i=k)||o.after.any (fun e=>Region.binds .any e&&e.on==i-1))
 |none=>false
theorem XH{k:Nat}(h:Ya ops k=true):Chain ops k:=fun i hk o ho=>by
 have hi:=(aR.1 ho).1
 have:=bc.1 h i (fw.2 hi)
 rw[ho,aV (by omega),dc]at this
 simp only[aI,bL,aL]at this
 refine⟨fun e hm hb=>?_,fun d8=>?_⟩
 ·have:=cb.1 this.1 e hm
  simpa[hb] using this
 ·rcases this.2 with h2|h2
  ·omega
  ·rw[fe]at h2
   obtain⟨e,hm,h3⟩:=h2
   simp only[aI,cp]at h3
   exact⟨e,hm,h3⟩
def Pn(ops:Array Oper)(E ord:fG)(k:Nat):Bool:=mixB ops E [] ord&&(List.range k).all ord.contains&&(ord.length==k)&&ord.all (fun i=>decide (i<k))&&decide (k<ops.size)&&(List.range k).all (fun i=>EF ops ops.size k i)&&Ya ops k
theorem Xw(hN:P.funcs.size=N)(hm:P.follows .mixedOrders=true){l:List Oper}{id:Nat}{γ:Fr}{V:Sig}(k:Nat)(ord E:fG)(S0:Sig)(hB:Pn l.toArray E ord k=true)(hC:Sub S0 V)
  {lp:List (Bool×Oper)} (gU:GT l E ord=some lp) (h:MO P ro n l.toArray N S0 (Then (fun s=>av P ro n l.toArray Q (l.drop k) s) Q) df lp γ V):DWp P ro n (.region id l.toArray true) Q ⟨γ,V,df⟩:=by
 intro g w a r hr hs
 refine wpIn_region_any hm ?_
 unfold Pn at hB
 simp only[aI,cp,aL]at hB
 obtain⟨⟨⟨⟨⟨⟨b1,b2⟩,b3⟩,b4⟩,b5⟩,b6⟩,b7⟩:=hB
 have d8:∀i∈ord,i<k:=fun i hi=>by simpa using bc.1 b4 i hi
 have hs':SimS P g n ⟨γ,V,df⟩ a { w with drawn:=w.drawn+1 }:=
  ⟨⟨fun b o v h=>hs.sim.imm b o v h,hs.sim.keep,fun i o h=>by
   have:=hs.sim.obj i o h
   cases o<;>exact this,hs.sim.inj,hs.sim.free,hs.sim.htop,hs.sim.hdom,hs.sim.fin,hs.sim.io⟩,hs.tmps,hs.df⟩
 have e9:Closed l.toArray (Array.replicate l.toArray.size false):=by
  intro q o _ hq
  rcases cg q l.length with h'|h'
  ·simp[h']at hq
  ·simp[h']at hq
 have gS:=EK (P:=P) (ro:=ro) (n:=n) (N:=N) (S0:=S0) (Q:=Then (fun s=>av P ro n l.toArray Q (l.drop k) s) Q) (df:=df) (ops:=l.toArray) (E:=E) (ord:=ord) (fun i hi=>by have:=d8 i hi;omega) (by rw[Jr gU];exact h)
 have:=Tp (P:=P) hN (ops:=l.toArray) (k:=k) b5 (XH b7) b1 (fun i hi=>by simpa using bc.1 b2 i (by simpa using hi)) d8
  (fun i hi=>bc.1 b6 i (fw.2 hi))
  hr ord.length ord (Array.replicate l.toArray.size false) γ V rfl (by simp) (Dq (fun i hi=>by have:=d8 i hi;omega)).symm (fun i hi gY=>by
   rw[cC]
   simp only[Array.getElem?_replicate,gY,bp];rfl) e9 (by simpa using gS) hC g _ a (.refl g) hs'
 rw[b3,show k+(l.toArray.size-k)=l.toArray.size by omega]at this
 exact this
end
section
variable {P:Program}{ro:Option Nat}{n:Nat}{ops:Array Oper}{Q:DX->St->Prop}{rest:List Oper}{tab:Nat->Ty}{γ:List (Nat×D)}{V:Sig}{df:List DDf}
variable (ht:Bs P tab)
include ht
theorem XA{t T T' ty e:Nat}{x:Operand}{s:List UInt8}{pos:String}{after:Array Edge}{gd:Option (Nat×Bool)}
  (h:av P ro n ops Q rest ⟨(t,.str s)::γ,V,df⟩) (hw:AT ops γ ⟨some t,.convert T T' x,ty,pos,after,gd⟩=some true) (f6:t<n) (hk:(tab T).k=.slice e) (gC:(tab T').k=.str) (gB:(tab e).k=.int .u8) (h1:esOf (ev γ x)=some (s.map fun b=>[D.int .u8 (b.toNat:Int)])) :
  av P ro n ops Q (⟨some t,.convert T T' x,ty,pos,after,gd⟩::rest) ⟨γ,V,df⟩:=by
 refine Eo (fun d S'=>d=.str s/\S'=V) hw (fun c e=>by cases e) (Ah fun c e=>by cases e) (by simp[AD,f6]) ?_
  (fun d S' ⟨a2,a3⟩=>by subst a2 a3;exact h)
 intro g w a hs hT
 have gJ:=Au hT x
 obtain⟨xa,xc,q1,q2,q3⟩:=CU h1 gJ
 obtain⟨vs,v1,v2,v3⟩:=CZ hs (sz:=1) (fun c hc=>by obtain⟨b,_,rfl⟩:=bO.1 hc;rfl) q3
 have f7:(convert T T' (a.eval x)).run P w=.ok (.string ⟨s.toArray⟩) w:=by
  rw[q1]
  cases xa with
  | none =>
   have gP:s=[]:=by
    rcases v3 with h|⟨b,o,h,_⟩
    ·simpa using h
    ·cases h
   subst gP
   exact run_convert_bytes_nil w T e (Bc ht hk) (M6 ht gB) _ _ T' (Jc ht gC)
  | some ad =>
   rw[aZ]
   refine run_convert_bytes_back w T T' e ad xc s (Bc ht hk) (M6 ht gB) (Jc ht gC) fun j hj=>?_
   rcases v3 with h|⟨b,o,h,hc⟩
   ·rw[aZ]at h;omega
   ·cases h
    have e8:∀l:List UInt8,(l.map fun b=>[D.int .u8 (b.toNat:Int)]).flatten=l.map fun b=>D.int .u8 (b.toNat:Int):=fun l=>by
     induction l with
     |nil=>rfl
     |cons y l ih=>rw[ba,cy,ih];rfl
    rw[e8]at v1
    have hg:=RepL.get v1 j
    rw[bD,aM hj]at hg
    have fO:j<vs.length:=by rw[v2,aZ];omega
    rw[aM fO]at hg
    simp only[bG]at hg
    have:=hc j _ (aM fO)
    rw[show vs[j]=.int .u8 ((s[j]).toNat:Int) from BP hg]at this
    have fL:(⟨b,o,none⟩:Addr).add j=⟨b,o+j,none⟩:=by unfold Addr.add;split<;>simp_all
    rw[fL]
    exact this
 exact⟨g,w,.string ⟨s.toArray⟩,.str s,V,by simp only[execOp];rw[aU,f7];rfl,.refl g,hs,rfl,rfl,rfl⟩
end
section
variable {P:Program}{tab:Nat->Ty}(ht:Bs P tab){ro:Option Nat}{n:Nat}{ops:Array Oper}{Q:DX->St->Prop}{df:List DDf}{rest:List Oper}{γ:List (Nat×D)}{V:Sig}
include ht
theorem T5{g:G}{w:World}{T e i off len cap:Nat}{k k':IntKind}{v u u':Value}{hi m:Nat}(hk:(tab T).k=.slice e)(he:A6 (tab e).k=false)(hv:Rep g (.ap i off len cap) v)(hu:Rep g (.int k hi) u)(gN:Rep g (.int k' m) u')(gG:hi<=m)(hm:m<=cap):
  ∃r,(Instr.sliceAt T v none (some u) (some u')).run P w=.ok r w/\Rep g (.ap i off hi m) r:=by
 obtain⟨b,hb,rfl⟩:=hv
 obtain rfl:=BP hu
 obtain rfl:=BP gN
 refine⟨_,?_,Pc (len:=hi) (cap:=m) (off:=off) hb⟩
 have hu:=Bc ht hk
 have c1:(0:Int)<=(hi:Int):=by omega
 have c2:(hi:Int)<=(m:Int):=by omega
 have c3:(0:Int)<=(m:Int):=by omega
 have c4:(m:Int)<=(cap:Int):=by omega
 simp only[bG,Instr.sliceAt,Instr.slice,Instr.sliceBounds,Instr.sliceBound,asIntOf,aU,bf,aK,A3 hu,c1,c2,c3,c4,dy,bp,B9 (ht e) (Aj he),dP,du,ff]
 congr 1
 split<;>simp[Addr.add]
theorem Sz{t T ty e i off len cap:Nat}{k k':IntKind}{x y z:Operand}{hi m:Nat}{pos:String}{after:Array Edge}
  (h:av P ro n ops Q rest ⟨(t,.ap i off hi m)::γ,V,df⟩)
  (f6:t<n) (hk:(tab T).k=.slice e) (he:A6 (tab e).k=false) (h1:ev γ x=.ap i off len cap) (h2:ev γ y=.int k hi) (h3:ev γ z=.int k' m) (gG:hi<=m) (hm:m<=cap) :
  av P ro n ops Q (⟨some t,.slice T x none (some y) (some z),ty,pos,after,none⟩::rest) ⟨γ,V,df⟩:=by
 refine Eo (fun d S'=>d=.ap i off hi m/\S'=V) rfl (fun c e=>by cases e) (Ah fun c e=>by cases e) (by simp[AD,f6]) ?_
  (fun d S' ⟨a2,a3⟩=>by subst a2 a3;exact h)
 intro g w a hs hT
 have hx:=Au hT x
 have hy:=Au hT y
 have hz:=Au hT z
 rw[h1]at hx
 rw[h2]at hy
 rw[h3]at hz
 obtain⟨r,h4,h5⟩:=T5 (w:=w) ht hk he hx hy hz gG hm
 exact⟨g,w,r,_,V,by simp only[execOp,bG,eJ,aU,h4,aK,bf],.refl g,hs,h5,rfl,rfl⟩
omit ht in
theorem N5{i j c sz:Nat}{es:fH}{r az bs:fE}(hj:V j=some (.cells (es.flatten++r)))(hi:V i=some (.cells (az ++ .ap j 0 es.length c::bs)))(g9:i≠j)(m3:es.length<=c)(m4:∀e∈es,e.length=sz):Wk P n ⟨γ,V,df⟩ ⟨γ,(V.del j).set i (.cells (az ++ .slice es .no::bs)),df⟩:=by
 intro g w a hs
 obtain⟨b,_,_,hb,_,_⟩:=hs.sim.obj j _ hj
 obtain⟨g',f0,hs',gQ⟩:=hs.sim.freeze (i:=j) hj hb
 have ij:(V.del j) i=some (.cells (az ++ .ap j 0 es.length c::bs)):=by simp only[Sig.del,g9,bd];exact hi
 simp only at hs'
 refine⟨g',f0,⟨hs'.retell ij fun vs=>IK fun v hv=>?_,hs.tmps.mono f0,hs.df.mono f0⟩⟩
 obtain⟨b',fY,hv⟩:=hv
 obtain rfl:b'=b:=by have:=f0.rho _ _ hb;rw[this]at fY;cases fY;rfl
 exact⟨_,c,hv,m3,.inr ⟨sz,b',0,rfl,Ge m4 gQ⟩,trivial⟩
end
end Go.DL
namespace Go.DL
open Go.Proofs.Tryz
open Go Go.Proofs
@[simp] abbrev sT(n:Nat):Ty:=⟨.slice n,false,1,24,[.ak]⟩
@[simp] abbrev pT(n:Nat):Ty:=⟨.ptr n,false,1,8,[.ar]⟩
@[simp] abbrev iT:Ty:=⟨.int .i64,false,1,8,[.int .i64 0]⟩
@[simp] abbrev fT:Ty:=⟨.func,false,1,8,[.nilf]⟩
def tyRows:List (Nat×Ty):=[
 (1,fT),
 (2,iT),
 (3,iT),
 (4,⟨.bool,false,1,1,[.bool false]⟩),
 (5,⟨.int .u8,false,1,1,[.int .u8 0]⟩),
 (6,⟨.int .u8,false,1,1,[.int .u8 0]⟩),
 (7,⟨.struct [(0,2),(1,3),(2,4),(3,6)],true,4,24,[.int .i64 0,.int .i64 0,.bool false,.int .u8 0]⟩),
 (8,⟨.struct [(0,2),(1,3),(2,4),(3,6)],true,4,24,[.int .i64 0,.int .i64 0,.bool false,.int .u8 0]⟩),
 (9,⟨.str,false,1,16,[.str []]⟩),
 (10,⟨.str,false,1,16,[.str []]⟩),
 (11,⟨.str,false,1,16,[.str []]⟩),
 (12,⟨.int .u64,false,1,8,[.int .u64 0]⟩),
 (13,⟨.struct [(0,9),(1,12)],true,2,24,[.str [],.int .u64 0]⟩),
 (14,⟨.struct [(0,9),(1,12)],true,2,24,[.str [],.int .u64 0]⟩),
 (15,pT 386),
 (16,pT 389),
 (17,pT 398),
 (18,⟨.struct [(0,17)],true,1,8,[.ar]⟩),
 (19,⟨.struct [(0,17)],true,1,8,[.ar]⟩),
 (20,⟨.iface,false,1,16,[.niliface]⟩),
 (21,⟨.int .i32,false,1,4,[.int .i32 0]⟩),
 (22,sT 101),
 (23,sT 3),
 (24,sT 98),
 (25,sT 104),
 (26,⟨.struct [(0,22),(1,3),(2,23),(3,24),(4,25),(5,3)],true,6,112,[.ak,.int .i64 0,.ak,.ak,.ak,.int .i64 0]⟩),
 (27,⟨.struct [(0,22),(1,3),(2,23),(3,24),(4,25),(5,3)],true,6,112,[.ak,.int .i64 0,.ak,.ak,.ak,.int .i64 0]⟩),
 (28,iT),
 (30,fT),
 (31,fT),
 (32,fT),
 (33,fT),
 (34,fT),
 (35,sT 83),
 (36,sT 90),
 (37,iT),
 (38,sT 40),
 (39,⟨.struct [(0,37),(1,3),(2,9),(3,38)],true,4,56,[.int .i64 0,.int .i64 0,.str [],.ak]⟩),
 (40,⟨.struct [(0,37),(1,3),(2,9),(3,38)],true,4,56,[.int .i64 0,.int .i64 0,.str [],.ak]⟩),
 (42,⟨.struct [(0,35),(1,36),(2,40)],true,6,104,[.ak,.ak,.int .i64 0,.int .i64 0,.str [],.ak]⟩),
 (44,fT),
 (45,fT),
 (48,fT),
 (49,fT),
 (50,fT),
 (51,sT 63),
 (55,fT),
 (57,sT 23),
 (59,fT),
 (62,⟨.struct [(0,3),(1,3)],true,2,16,[.int .i64 0,.int .i64 0]⟩),
 (63,⟨.struct [(0,3),(1,3)],true,2,16,[.int .i64 0,.int .i64 0]⟩),
 (65,fT),
 (68,⟨.struct [(0,57),(1,23)],true,2,48,[.ak,.ak]⟩),
 (69,⟨.struct [(0,57),(1,23)],true,2,48,[.ak,.ak]⟩),
 (75,fT),
 (79,fT),
 (80,sT 9),
 (81,sT 150),
 (83,⟨.struct [(0,9),(1,80),(2,80),(3,81)],true,4,88,[.str [],.ak,.ak,.ak]⟩),
 (84,iT),
 (85,iT),
 (86,sT 88),
 (87,⟨.struct [(0,85),(1,9),(2,80),(3,9),(4,3),(5,86)],true,6,96,[.int .i64 0,.str [],.ak,.str [],.int .i64 0,.ak]⟩),
 (88,⟨.struct [(0,85),(1,9),(2,80),(3,9),(4,3),(5,86)],true,6,96,[.int .i64 0,.str [],.ak,.str [],.int .i64 0,.ak]⟩),
 (90,⟨.struct [(0,84),(1,9),(2,80),(3,88),(9,40)],true,13,200,[.int .i64 0,.str [],.ak,.int .i64 0,.str [],.ak,.str [],.int .i64 0,.ak,.int .i64 0,.int .i64 0,.str [],.ak]⟩),
 (91,fT),
 (93,fT),
 (94,sT 96),
 (95,⟨.struct [(0,85),(1,3),(2,23),(3,3),(4,3),(5,94)],true,6,80,[.int .i64 0,.int .i64 0,.ak,.int .i64 0,.int .i64 0,.ak]⟩),
 (96,⟨.struct [(0,85),(1,3),(2,23),(3,3),(4,3),(5,94)],true,6,80,[.int .i64 0,.int .i64 0,.ak,.int .i64 0,.int .i64 0,.ak]⟩),
 (97,⟨.struct [(0,84),(1,3),(2,96),(8,3)],true,9,104,[.int .i64 0,.int .i64 0,.int .i64 0,.int .i64 0,.ak,.int .i64 0,.int .i64 0,.ak,.int .i64 0]⟩),
 (98,⟨.struct [(0,84),(1,3),(2,96),(8,3)],true,9,104,[.int .i64 0,.int .i64 0,.int .i64 0,.int .i64 0,.ak,.int .i64 0,.int .i64 0,.ak,.int .i64 0]⟩),
 (101,⟨.struct [(0,23),(1,23),(2,51)],true,3,72,[.ak,.ak,.ak]⟩),
 (102,fT),
 (103,⟨.struct [(0,37),(1,3),(2,23)],true,3,40,[.int .i64 0,.int .i64 0,.ak]⟩),
 (104,⟨.struct [(0,37),(1,3),(2,23)],true,3,40,[.int .i64 0,.int .i64 0,.ak]⟩),
 (109,fT),
 (110,⟨.map 3 3,false,1,8,[.aq]⟩),
 (111,fT),
 (112,fT),
 (116,fT),
 (120,fT),
 (122,fT),
 (123,fT),
 (124,pT 3),
 (126,fT),
 (127,fT),
 (130,fT),
 (131,fT),
 (132,fT),
 (135,⟨.struct [(0,3),(1,3)],true,2,16,[.int .i64 0,.int .i64 0]⟩),
 (138,⟨.iface,false,1,16,[.niliface]⟩),
 (140,iT),
 (142,⟨.struct [],true,0,0,[]⟩),
 (144,fT),
 (150,⟨.struct [(0,9),(1,3)],true,2,24,[.str [],.int .i64 0]⟩),
 (151,fT),
 (153,fT),
 (156,fT),
 (157,pT 163),
 (158,⟨.map 9 3,false,1,8,[.aq]⟩),
 (161,fT),
 (162,⟨.struct [(0,27),(6,158),(7,158),(8,158)],true,9,136,[.ak,.int .i64 0,.ak,.ak,.ak,.int .i64 0,.aq,.aq,.aq]⟩),
 (163,⟨.struct [(0,27),(6,158),(7,158),(8,158)],true,9,136,[.ak,.int .i64 0,.ak,.ak,.ak,.int .i64 0,.aq,.aq,.aq]⟩),
 (167,fT),
 (169,fT),
 (170,fT),
 (172,⟨.struct [(0,157),(1,158),(2,3)],true,3,24,[.ar,.aq,.int .i64 0]⟩),
 (174,fT),
 (178,fT),
 (179,pT 185),
 (181,fT),
 (182,sT 269),
 (183,⟨.map 3 23,false,1,8,[.aq]⟩),
 (185,⟨.struct [(0,57),(1,182),(2,183)],true,3,56,[.ak,.ak,.aq]⟩),
 (186,fT),
 (188,fT),
 (194,pT 196),
 (196,⟨.struct [(0,27),(6,80),(7,80),(8,80)],true,9,184,[.ak,.int .i64 0,.ak,.ak,.ak,.int .i64 0,.ak,.ak,.ak]⟩),
 (202,pT 204),
 (204,⟨.struct [(0,27),(6,80),(7,80),(8,80)],true,9,184,[.ak,.int .i64 0,.ak,.ak,.ak,.int .i64 0,.ak,.ak,.ak]⟩),
 (207,fT),
 (209,fT),
 (210,fT),
 (212,pT 214),
 (214,⟨.struct [(0,202),(1,80),(2,3)],true,3,40,[.ar,.ak,.int .i64 0]⟩),
 (217,pT 218),
 (218,⟨.struct [(0,27),(6,80),(7,80),(8,80)],true,9,184,[.ak,.int .i64 0,.ak,.ak,.ak,.int .i64 0,.ak,.ak,.ak]⟩),
 (222,⟨.map 3 4,false,1,8,[.aq]⟩),
 (225,fT),
 (230,fT),
 (232,fT),
 (234,fT),
 (236,⟨.struct [],true,0,0,[]⟩),
 (239,fT),
 (240,⟨.int .u64,false,1,8,[.int .u64 0]⟩),
 (243,fT),
 (244,pT 345),
 (251,fT),
 (252,pT 256),
 (253,⟨.map 9 4,false,1,8,[.aq]⟩),
 (254,sT 253),
 (256,⟨.struct [(0,42),(6,158),(7,254),(8,253),(9,3)],true,10,152,[.ak,.ak,.int .i64 0,.int .i64 0,.str [],.ak,.aq,.ak,.aq,.int .i64 0]⟩),
 (258,fT),
 (263,fT),
 (267,⟨.int .u64,false,1,8,[.int .u64 0]⟩),
 (269,⟨.array 1 267,true,1,8,[.int .u64 0]⟩),
 (275,sT 4),
 (280,⟨.struct [(0,80),(1,80),(2,80)],true,3,72,[.ak,.ak,.ak]⟩),
 (282,pT 284),
 (284,⟨.struct [(0,80),(1,23),(2,4)],true,3,56,[.ak,.ak,.bool false]⟩),
 (285,fT),
 (289,fT),
 (295,⟨.int .u32,false,1,4,[.int .u32 0]⟩),
 (304,⟨.struct [],true,0,0,[]⟩),
 (308,⟨.struct [(0,40)],true,4,56,[.int .i64 0,.int .i64 0,.str [],.ak]⟩),
 (309,fT),
 (310,fT),
 (316,⟨.struct [(0,88)],true,6,96,[.int .i64 0,.str [],.ak,.str [],.int .i64 0,.ak]⟩),
 (317,fT),
 (318,fT),
 (321,⟨.iface,false,1,16,[.niliface]⟩),
 (341,sT 5),
 (342,⟨.int .u64,false,1,8,[.int .u64 0]⟩),
 (343,⟨.array 63 342,true,63,504,(List.replicate 63 (.int .u64 0))⟩),
 (345,⟨.struct [(0,69),(2,343)],true,65,552,[.ak,.ak,.int .u64 0,.int .u64 0,.int .u64 0,.int .u64 0,.int .u64 0,.int .u64 0,.int .u64 0,.int .u64 0,.int .u64 0,.int .u64 0,.int .u64 0,.int .u64 0,.int .u64 0,.int .u64 0,.int .u64 0,.int .u64 0,.int .u64 0,.int .u64 0,.int .u64 0,.int .u64 0,.int .u64 0,.int .u64 0,.int .u64 0,.int .u64 0,.int .u64 0,.int .u64 0,.int .u64 0,.int .u64 0,.int .u64 0,.int .u64 0,.int .u64 0,.int .u64 0,.int .u64 0,.int .u64 0,.int .u64 0,.int .u64 0,.int .u64 0,.int .u64 0,.int .u64 0,.int .u64 0,.int .u64 0,.int .u64 0,.int .u64 0,.int .u64 0,.int .u64 0,.int .u64 0,.int .u64 0,.int .u64 0,.int .u64 0,.int .u64 0,.int .u64 0,.int .u64 0,.int .u64 0,.int .u64 0,.int .u64 0,.int .u64 0,.int .u64 0,.int .u64 0,.int .u64 0,.int .u64 0,.int .u64 0,.int .u64 0,.int .u64 0]⟩),
 (354,fT),
 (355,fT),
 (356,sT 321),
 (369,⟨.struct [(0,4),(1,3),(2,3)],true,3,24,[.bool false,.int .i64 0,.int .i64 0]⟩),
 (371,⟨.map 37 369,false,1,8,[.aq]⟩),
 (373,pT 375),
 (375,⟨.struct [(0,373),(1,9)],true,2,24,[.ar,.str []]⟩),
 (377,fT),
 (386,⟨.struct [(0,17),(1,17),(2,17),(3,9)],true,4,40,[.ar,.ar,.ar,.str []]⟩),
 (387,⟨.array 0 16,true,0,0,[]⟩),
 (389,⟨.struct [(0,387)],true,0,0,[]⟩),
 (391,⟨.int .u8,false,1,1,[.int .u8 0]⟩),
 (392,⟨.int .u8,false,1,1,[.int .u8 0]⟩),
 (393,fT),
 (394,pT 5),
 (395,⟨.int .i32,false,1,4,[.int .i32 0]⟩),
 (396,⟨.int .i32,false,1,4,[.int .i32 0]⟩),
 (398,⟨.struct [(0,12),(1,12),(2,295),(3,391),(4,5),(5,5),(6,392),(7,393),(8,394),(9,395),(10,396)],true,11,48,[.int .u64 0,.int .u64 0,.int .u32 0,.int .u8 0,.int .u8 0,.int .u8 0,.int .u8 0,.nilf,.ar,.int .i32 0,.int .i32 0]⟩)
]
def tab(t:Nat):Ty:=(tyRows.lookup t).getD ⟨.other,false,0,0,[]⟩
theorem Ws:tyRows.all (fun p=>P7 prog p.1 p.2)=true:=by kernel_rfl
theorem L5{α:Type}: ∀{l:List (Nat×α)}{t:Nat}{x:α},l.lookup t=some x->(t,x)∈l
 |(k,y)::l,t,x,h=>by
  simp only[List.lookup]at h
  split at h
  ·rename_i e;cases h;have:=cp.1 e;subst this;simp
  ·exact ec _ (L5 h)
theorem Af:Bs prog tab:=by
 intro t
 unfold tab
 cases h:tyRows.lookup t with
 |none=>exact trivial
 |some i=>exact Nb (bc.1 Ws _ (L5 h))
theorem An:prog.funcs.size=334:=by kernel_rfl
@[simp] theorem tab1:tab 1=fT:=rfl
@[simp] theorem tab2:tab 2=iT:=rfl
@[simp] theorem tab3:tab 3=iT:=rfl
@[simp] theorem tab4:tab 4=⟨.bool,false,1,1,[.bool false]⟩:=rfl
@[simp] theorem tab5:tab 5=⟨.int .u8,false,1,1,[.int .u8 0]⟩:=rfl
@[simp] theorem tab6:tab 6=⟨.int .u8,false,1,1,[.int .u8 0]⟩:=rfl
@[simp] theorem tab7:tab 7=⟨.struct [(0,2),(1,3),(2,4),(3,6)],true,4,24,[.int .i64 0,.int .i64 0,.bool false,.int .u8 0]⟩:=rfl
@[simp] theorem tab8:tab 8=⟨.struct [(0,2),(1,3),(2,4),(3,6)],true,4,24,[.int .i64 0,.int .i64 0,.bool false,.int .u8 0]⟩:=rfl
@[simp] theorem tab9:tab 9=⟨.str,false,1,16,[.str []]⟩:=rfl
@[simp] theorem tab10:tab 10=⟨.str,false,1,16,[.str []]⟩:=rfl
@[simp] theorem tab11:tab 11=⟨.str,false,1,16,[.str []]⟩:=rfl
@[simp] theorem tab12:tab 12=⟨.int .u64,false,1,8,[.int .u64 0]⟩:=rfl
@[simp] theorem tab13:tab 13=⟨.struct [(0,9),(1,12)],true,2,24,[.str [],.int .u64 0]⟩:=rfl
@[simp] theorem tab14:tab 14=⟨.struct [(0,9),(1,12)],true,2,24,[.str [],.int .u64 0]⟩:=rfl
@[simp] theorem tab15:tab 15=pT 386:=rfl
@[simp] theorem tab16:tab 16=pT 389:=rfl
@[simp] theorem tab17:tab 17=pT 398:=rfl
@[simp] theorem tab18:tab 18=⟨.struct [(0,17)],true,1,8,[.ar]⟩:=rfl
@[simp] theorem tab19:tab 19=⟨.struct [(0,17)],true,1,8,[.ar]⟩:=rfl
@[simp] theorem tab20:tab 20=⟨.iface,false,1,16,[.niliface]⟩:=rfl
@[simp] theorem tab21:tab 21=⟨.int .i32,false,1,4,[.int .i32 0]⟩:=rfl
@[simp] theorem tab22:tab 22=sT 101:=rfl
@[simp] theorem tab23:tab 23=sT 3:=rfl
@[simp] theorem tab24:tab 24=sT 98:=rfl
@[simp] theorem tab25:tab 25=sT 104:=rfl
@[simp] theorem tab26:tab 26=⟨.struct [(0,22),(1,3),(2,23),(3,24),(4,25),(5,3)],true,6,112,[.ak,.int .i64 0,.ak,.ak,.ak,.int .i64 0]⟩:=rfl
@[simp] theorem tab27:tab 27=⟨.struct [(0,22),(1,3),(2,23),(3,24),(4,25),(5,3)],true,6,112,[.ak,.int .i64 0,.ak,.ak,.ak,.int .i64 0]⟩:=rfl
@[simp] theorem tab28:tab 28=iT:=rfl
@[simp] theorem tab30:tab 30=fT:=rfl
@[simp] theorem tab31:tab 31=fT:=rfl
@[simp] theorem tab32:tab 32=fT:=rfl
@[simp] theorem tab33:tab 33=fT:=rfl
@[simp] theorem tab34:tab 34=fT:=rfl
@[simp] theorem tab35:tab 35=sT 83:=rfl
@[simp] theorem tab36:tab 36=sT 90:=rfl
@[simp] theorem tab37:tab 37=iT:=rfl
@[simp] theorem tab38:tab 38=sT 40:=rfl
@[simp] theorem tab39:tab 39=⟨.struct [(0,37),(1,3),(2,9),(3,38)],true,4,56,[.int .i64 0,.int .i64 0,.str [],.ak]⟩:=rfl
@[simp] theorem tab40:tab 40=⟨.struct [(0,37),(1,3),(2,9),(3,38)],true,4,56,[.int .i64 0,.int .i64 0,.str [],.ak]⟩:=rfl
@[simp] theorem tab42:tab 42=⟨.struct [(0,35),(1,36),(2,40)],true,6,104,[.ak,.ak,.int .i64 0,.int .i64 0,.str [],.ak]⟩:=rfl
@[simp] theorem tab44:tab 44=fT:=rfl
@[simp] theorem tab45:tab 45=fT:=rfl
@[simp] theorem tab48:tab 48=fT:=rfl
@[simp] theorem tab49:tab 49=fT:=rfl
@[simp] theorem tab50:tab 50=fT:=rfl
@[simp] theorem tab51:tab 51=sT 63:=rfl
@[simp] theorem tab55:tab 55=fT:=rfl
@[simp] theorem tab57:tab 57=sT 23:=rfl
@[simp] theorem tab59:tab 59=fT:=rfl
@[simp] theorem tab62:tab 62=⟨.struct [(0,3),(1,3)],true,2,16,[.int .i64 0,.int .i64 0]⟩:=rfl
@[simp] theorem tab63:tab 63=⟨.struct [(0,3),(1,3)],true,2,16,[.int .i64 0,.int .i64 0]⟩:=rfl
@[simp] theorem tab65:tab 65=fT:=rfl
@[simp] theorem tab68:tab 68=⟨.struct [(0,57),(1,23)],true,2,48,[.ak,.ak]⟩:=rfl
@[simp] theorem tab69:tab 69=⟨.struct [(0,57),(1,23)],true,2,48,[.ak,.ak]⟩:=rfl
@[simp] theorem tab75:tab 75=fT:=rfl
@[simp] theorem tab79:tab 79=fT:=rfl
@[simp] theorem tab80:tab 80=sT 9:=rfl
@[simp] theorem tab81:tab 81=sT 150:=rfl
@[simp] theorem tab83:tab 83=⟨.struct [(0,9),(1,80),(2,80),(3,81)],true,4,88,[.str [],.ak,.ak,.ak]⟩:=rfl
@[simp] theorem tab84:tab 84=iT:=rfl
@[simp] theorem tab85:tab 85=iT:=rfl
@[simp] theorem tab86:tab 86=sT 88:=rfl
@[simp] theorem tab87:tab 87=⟨.struct [(0,85),(1,9),(2,80),(3,9),(4,3),(5,86)],true,6,96,[.int .i64 0,.str [],.ak,.str [],.int .i64 0,.ak]⟩:=rfl
@[simp] theorem tab88:tab 88=⟨.struct [(0,85),(1,9),(2,80),(3,9),(4,3),(5,86)],true,6,96,[.int .i64 0,.str [],.ak,.str [],.int .i64 0,.ak]⟩:=rfl
@[simp] theorem tab90:tab 90=⟨.struct [(0,84),(1,9),(2,80),(3,88),(9,40)],true,13,200,[.int .i64 0,.str [],.ak,.int .i64 0,.str [],.ak,.str [],.int .i64 0,.ak,.int .i64 0,.int .i64 0,.str [],.ak]⟩:=rfl
@[simp] theorem tab91:tab 91=fT:=rfl
@[simp] theorem tab93:tab 93=fT:=rfl
@[simp] theorem tab94:tab 94=sT 96:=rfl
@[simp] theorem tab95:tab 95=⟨.struct [(0,85),(1,3),(2,23),(3,3),(4,3),(5,94)],true,6,80,[.int .i64 0,.int .i64 0,.ak,.int .i64 0,.int .i64 0,.ak]⟩:=rfl
@[simp] theorem tab96:tab 96=⟨.struct [(0,85),(1,3),(2,23),(3,3),(4,3),(5,94)],true,6,80,[.int .i64 0,.int .i64 0,.ak,.int .i64 0,.int .i64 0,.ak]⟩:=rfl
@[simp] theorem tab97:tab 97=⟨.struct [(0,84),(1,3),(2,96),(8,3)],true,9,104,[.int .i64 0,.int .i64 0,.int .i64 0,.int .i64 0,.ak,.int .i64 0,.int .i64 0,.ak,.int .i64 0]⟩:=rfl
@[simp] theorem tab98:tab 98=⟨.struct [(0,84),(1,3),(2,96),(8,3)],true,9,104,[.int .i64 0,.int .i64 0,.int .i64 0,.int .i64 0,.ak,.int .i64 0,.int .i64 0,.ak,.int .i64 0]⟩:=rfl
@[simp] theorem tab101:tab 101=⟨.struct [(0,23),(1,23),(2,51)],true,3,72,[.ak,.ak,.ak]⟩:=rfl
@[simp] theorem tab102:tab 102=fT:=rfl
@[simp] theorem tab103:tab 103=⟨.struct [(0,37),(1,3),(2,23)],true,3,40,[.int .i64 0,.int .i64 0,.ak]⟩:=rfl
@[simp] theorem tab104:tab 104=⟨.struct [(0,37),(1,3),(2,23)],true,3,40,[.int .i64 0,.int .i64 0,.ak]⟩:=rfl
@[simp] theorem tab109:tab 109=fT:=rfl
@[simp] theorem tab110:tab 110=⟨.map 3 3,false,1,8,[.aq]⟩:=rfl
@[simp] theorem tab111:tab 111=fT:=rfl
@[simp] theorem tab112:tab 112=fT:=rfl
@[simp] theorem tab116:tab 116=fT:=rfl
@[simp] theorem tab120:tab 120=fT:=rfl
@[simp] theorem tab122:tab 122=fT:=rfl
@[simp] theorem tab123:tab 123=fT:=rfl
@[simp] theorem tab124:tab 124=pT 3:=rfl
@[simp] theorem tab126:tab 126=fT:=rfl
@[simp] theorem tab127:tab 127=fT:=rfl
@[simp] theorem tab130:tab 130=fT:=rfl
@[simp] theorem tab131:tab 131=fT:=rfl
@[simp] theorem tab132:tab 132=fT:=rfl
@[simp] theorem tab135:tab 135=⟨.struct [(0,3),(1,3)],true,2,16,[.int .i64 0,.int .i64 0]⟩:=rfl
@[simp] theorem tab138:tab 138=⟨.iface,false,1,16,[.niliface]⟩:=rfl
@[simp] theorem tab140:tab 140=iT:=rfl
@[simp] theorem tab142:tab 142=⟨.struct [],true,0,0,[]⟩:=rfl
@[simp] theorem tab144:tab 144=fT:=rfl
@[simp] theorem tab150:tab 150=⟨.struct [(0,9),(1,3)],true,2,24,[.str [],.int .i64 0]⟩:=rfl
@[simp] theorem tab151:tab 151=fT:=rfl
@[simp] theorem tab153:tab 153=fT:=rfl
@[simp] theorem tab156:tab 156=fT:=rfl
@[simp] theorem tab157:tab 157=pT 163:=rfl
@[simp] theorem tab158:tab 158=⟨.map 9 3,false,1,8,[.aq]⟩:=rfl
@[simp] theorem tab161:tab 161=fT:=rfl
@[simp] theorem tab162:tab 162=⟨.struct [(0,27),(6,158),(7,158),(8,158)],true,9,136,[.ak,.int .i64 0,.ak,.ak,.ak,.int .i64 0,.aq,.aq,.aq]⟩:=rfl
@[simp] theorem tab163:tab 163=⟨.struct [(0,27),(6,158),(7,158),(8,158)],true,9,136,[.ak,.int .i64 0,.ak,.ak,.ak,.int .i64 0,.aq,.aq,.aq]⟩:=rfl
@[simp] theorem tab167:tab 167=fT:=rfl
@[simp] theorem tab169:tab 169=fT:=rfl
@[simp] theorem tab170:tab 170=fT:=rfl
@[simp] theorem tab172:tab 172=⟨.struct [(0,157),(1,158),(2,3)],true,3,24,[.ar,.aq,.int .i64 0]⟩:=rfl
@[simp] theorem tab174:tab 174=fT:=rfl
@[simp] theorem tab178:tab 178=fT:=rfl
@[simp] theorem tab179:tab 179=pT 185:=rfl
@[simp] theorem tab181:tab 181=fT:=rfl
@[simp] theorem tab182:tab 182=sT 269:=rfl
@[simp] theorem tab183:tab 183=⟨.map 3 23,false,1,8,[.aq]⟩:=rfl
@[simp] theorem tab185:tab 185=⟨.struct [(0,57),(1,182),(2,183)],true,3,56,[.ak,.ak,.aq]⟩:=rfl
@[simp] theorem tab186:tab 186=fT:=rfl
@[simp] theorem tab188:tab 188=fT:=rfl
@[simp] theorem tab194:tab 194=pT 196:=rfl
@[simp] theorem tab196:tab 196=⟨.struct [(0,27),(6,80),(7,80),(8,80)],true,9,184,[.ak,.int .i64 0,.ak,.ak,.ak,.int .i64 0,.ak,.ak,.ak]⟩:=rfl
@[simp] theorem tab202:tab 202=pT 204:=rfl
@[simp] theorem tab204:tab 204=⟨.struct [(0,27),(6,80),(7,80),(8,80)],true,9,184,[.ak,.int .i64 0,.ak,.ak,.ak,.int .i64 0,.ak,.ak,.ak]⟩:=rfl
@[simp] theorem tab207:tab 207=fT:=rfl
@[simp] theorem tab209:tab 209=fT:=rfl
@[simp] theorem tab210:tab 210=fT:=rfl
@[simp] theorem tab212:tab 212=pT 214:=rfl
@[simp] theorem tab214:tab 214=⟨.struct [(0,202),(1,80),(2,3)],true,3,40,[.ar,.ak,.int .i64 0]⟩:=rfl
@[simp] theorem tab217:tab 217=pT 218:=rfl
@[simp] theorem tab218:tab 218=⟨.struct [(0,27),(6,80),(7,80),(8,80)],true,9,184,[.ak,.int .i64 0,.ak,.ak,.ak,.int .i64 0,.ak,.ak,.ak]⟩:=rfl
@[simp] theorem tab222:tab 222=⟨.map 3 4,false,1,8,[.aq]⟩:=rfl
@[simp] theorem tab225:tab 225=fT:=rfl
@[simp] theorem tab230:tab 230=fT:=rfl
@[simp] theorem tab232:tab 232=fT:=rfl
@[simp] theorem tab234:tab 234=fT:=rfl
@[simp] theorem tab236:tab 236=⟨.struct [],true,0,0,[]⟩:=rfl
@[simp] theorem tab239:tab 239=fT:=rfl
@[simp] theorem tab240:tab 240=⟨.int .u64,false,1,8,[.int .u64 0]⟩:=rfl
@[simp] theorem tab243:tab 243=fT:=rfl
@[simp] theorem tab244:tab 244=pT 345:=rfl
@[simp] theorem tab251:tab 251=fT:=rfl
@[simp] theorem tab252:tab 252=pT 256:=rfl
@[simp] theorem tab253:tab 253=⟨.map 9 4,false,1,8,[.aq]⟩:=rfl
@[simp] theorem tab254:tab 254=sT 253:=rfl
@[simp] theorem tab256:tab 256=⟨.struct [(0,42),(6,158),(7,254),(8,253),(9,3)],true,10,152,[.ak,.ak,.int .i64 0,.int .i64 0,.str [],.ak,.aq,.ak,.aq,.int .i64 0]⟩:=rfl
@[simp] theorem tab258:tab 258=fT:=rfl
@[simp] theorem tab263:tab 263=fT:=rfl
@[simp] theorem tab267:tab 267=⟨.int .u64,false,1,8,[.int .u64 0]⟩:=rfl
@[simp] theorem tab269:tab 269=⟨.array 1 267,true,1,8,[.int .u64 0]⟩:=rfl
@[simp] theorem tab275:tab 275=sT 4:=rfl
@[simp] theorem tab280:tab 280=⟨.struct [(0,80),(1,80),(2,80)],true,3,72,[.ak,.ak,.ak]⟩:=rfl
@[simp] theorem tab282:tab 282=pT 284:=rfl
@[simp] theorem tab284:tab 284=⟨.struct [(0,80),(1,23),(2,4)],true,3,56,[.ak,.ak,.bool false]⟩:=rfl
@[simp] theorem tab285:tab 285=fT:=rfl
@[simp] theorem tab289:tab 289=fT:=rfl
@[simp] theorem tab295:tab 295=⟨.int .u32,false,1,4,[.int .u32 0]⟩:=rfl
@[simp] theorem tab304:tab 304=⟨.struct [],true,0,0,[]⟩:=rfl
@[simp] theorem tab308:tab 308=⟨.struct [(0,40)],true,4,56,[.int .i64 0,.int .i64 0,.str [],.ak]⟩:=rfl
@[simp] theorem tab309:tab 309=fT:=rfl
@[simp] theorem tab310:tab 310=fT:=rfl
@[simp] theorem tab316:tab 316=⟨.struct [(0,88)],true,6,96,[.int .i64 0,.str [],.ak,.str [],.int .i64 0,.ak]⟩:=rfl
@[simp] theorem tab317:tab 317=fT:=rfl
@[simp] theorem tab318:tab 318=fT:=rfl
@[simp] theorem tab321:tab 321=⟨.iface,false,1,16,[.niliface]⟩:=rfl
@[simp] theorem tab341:tab 341=sT 5:=rfl
@[simp] theorem tab342:tab 342=⟨.int .u64,false,1,8,[.int .u64 0]⟩:=rfl
@[simp] theorem tab343:tab 343=⟨.array 63 342,true,63,504,(List.replicate 63 (.int .u64 0))⟩:=rfl
@[simp] theorem tab345:tab 345=⟨.struct [(0,69),(2,343)],true,65,552,[.ak,.ak,.int .u64 0,.int .u64 0,.int .u64 0,.int .u64 0,.int .u64 0,.int .u64 0,.int .u64 0,.int .u64 0,.int .u64 0,.int .u64 0,.int .u64 0,.int .u64 0,.int .u64 0,.int .u64 0,.int .u64 0,.int .u64 0,.int .u64 0,.int .u64 0,.int .u64 0,.int .u64 0,.int .u64 0,.int .u64 0,.int .u64 0,.int .u64 0,.int .u64 0,.int .u64 0,.int .u64 0,.int .u64 0,.int .u64 0,.int .u64 0,.int .u64 0,.int .u64 0,.int .u64 0,.int .u64 0,.int .u64 0,.int .u64 0,.int .u64 0,.int .u64 0,.int .u64 0,.int .u64 0,.int .u64 0,.int .u64 0,.int .u64 0,.int .u64 0,.int .u64 0,.int .u64 0,.int .u64 0,.int .u64 0,.int .u64 0,.int .u64 0,.int .u64 0,.int .u64 0,.int .u64 0,.int .u64 0,.int .u64 0,.int .u64 0,.int .u64 0,.int .u64 0,.int .u64 0,.int .u64 0,.int .u64 0,.int .u64 0,.int .u64 0]⟩:=rfl
@[simp] theorem tab354:tab 354=fT:=rfl
@[simp] theorem tab355:tab 355=fT:=rfl
@[simp] theorem tab356:tab 356=sT 321:=rfl
@[simp] theorem tab369:tab 369=⟨.struct [(0,4),(1,3),(2,3)],true,3,24,[.bool false,.int .i64 0,.int .i64 0]⟩:=rfl
@[simp] theorem tab371:tab 371=⟨.map 37 369,false,1,8,[.aq]⟩:=rfl
@[simp] theorem tab373:tab 373=pT 375:=rfl
@[simp] theorem tab375:tab 375=⟨.struct [(0,373),(1,9)],true,2,24,[.ar,.str []]⟩:=rfl
@[simp] theorem tab377:tab 377=fT:=rfl
@[simp] theorem tab386:tab 386=⟨.struct [(0,17),(1,17),(2,17),(3,9)],true,4,40,[.ar,.ar,.ar,.str []]⟩:=rfl
@[simp] theorem tab387:tab 387=⟨.array 0 16,true,0,0,[]⟩:=rfl
@[simp] theorem tab389:tab 389=⟨.struct [(0,387)],true,0,0,[]⟩:=rfl
@[simp] theorem tab391:tab 391=⟨.int .u8,false,1,1,[.int .u8 0]⟩:=rfl
@[simp] theorem tab392:tab 392=⟨.int .u8,false,1,1,[.int .u8 0]⟩:=rfl
@[simp] theorem tab393:tab 393=fT:=rfl
@[simp] theorem tab394:tab 394=pT 5:=rfl
@[simp] theorem tab395:tab 395=⟨.int .i32,false,1,4,[.int .i32 0]⟩:=rfl
@[simp] theorem tab396:tab 396=⟨.int .i32,false,1,4,[.int .i32 0]⟩:=rfl
@[simp] theorem tab398:tab 398=⟨.struct [(0,12),(1,12),(2,295),(3,391),(4,5),(5,5),(6,392),(7,393),(8,394),(9,395),(10,396)],true,11,48,[.int .u64 0,.int .u64 0,.int .u32 0,.int .u8 0,.int .u8 0,.int .u8 0,.int .u8 0,.nilf,.ar,.int .i32 0,.int .i32 0]⟩:=rfl
theorem mixed:prog.follows .mixedOrders=true:=by kernel_rfl
abbrev Str:=List UInt8
abbrev fD:=List Str
attribute [simp] w7 w9
theorem big1{x:Nat}(h:x<=140737488355328):(140737488355328<x)=False:=by simp;omega
theorem big2{x:Nat}(h:x<=9223372036854775807):(9223372036854775807<x)=False:=by simp;omega
@[simp] theorem getElem0{α:Type}(a:α)(l:List α):(a::l)[0]? = some a:=rfl
abbrev sl(es:fH):D:=.slice es .no
abbrev dI(n:Int):D:=.int .i64 n
def cS(l:fD):fH:=l.map fun s=>[.str s]
@[simp] theorem cS_len(l:fD):(cS l).length=l.length:=by simp[cS]
@[simp] theorem cS_get(l:fD)(i:Nat):(cS l)[i]? = (l[i]?).map fun s=>[.str s]:=by simp[cS]
@[simp] theorem cS_all(l:fD):(cS l).all (fun c=>c.length==1)=true:=by simp[cS]
@[simp] theorem Dj(l:fD): ∀c∈cS l,c.length=1:=by simp[cS]
@[simp] theorem cS_flat(l:fD):(cS l).all Db=true:=by simp[cS]
def cI(l:fF):fH:=l.map fun s=>[.int .i64 s]
@[simp] theorem Iu(l:fF):(cI l).length=l.length:=by simp[cI]
@[simp] theorem cI_get(l:fF)(i:Nat):(cI l)[i]? = (l[i]?).map fun s=>[.int .i64 s]:=by simp[cI]
@[simp] theorem BY(l:fF): ∀c∈cI l,c.length=1:=by simp[cI]
def cII(l:fI):fH:=l.map fun s=>[sl (cI s)]
@[simp] theorem cII_len(l:fI):(cII l).length=l.length:=by simp[cII]
@[simp] theorem cII_get(l:fI)(i:Nat):(cII l)[i]? = (l[i]?).map fun s=>[sl (cI s)]:=by simp[cII]
@[simp] theorem cI_all(l:fF):(cI l).all (fun c=>c.length==1)=true:=by simp[cI]
@[simp] theorem cII_all(l:fI):(cII l).all (fun c=>c.length==1)=true:=by simp[cII]
@[simp] theorem BR(l:fI): ∀c∈cII l,c.length=1:=by simp[cII]
structure Init where
 slot:Int
 n:Int
 deriving DecidableEq
structure ax where
 ag:fF
 ae:fF
 ai:List Init
 deriving DecidableEq
inductive Fact where
 |mk (op arg:Int) (path:fF) (cls n:Int) (ah:List Fact)
structure ay where
 kind:Int
 gen:Int
 fact:Fact
 node:Int
structure aA where
 op:Int
 n:Int
 ah:fF
 deriving DecidableEq
structure aw where
 aa:List ax
 ae:Int
 aj:fF
 methods:List ay
 nodes:List aA
 main:Int
inductive aB where
 |mk (op n:Int) (text:Str) (ah:List aB)
inductive aC where
 |mk (op:Int) (name:Str) (path:fD) (cls:Str) (n:Int) (ah:List aC)
structure aG where
 slot:Str
 n:Int
 deriving DecidableEq
structure aD where
 name:Str
 ag:fD
 ae:fD
 ai:List aG
 deriving DecidableEq
structure aE where
 kind:Int
 name:Str
 params:fD
 fact:aC
 body:aB
structure aF where
 aa:List aD
 methods:List aE
 main:aB
structure World where
 ag:fI
 owner:fF
 deriving DecidableEq
section
def Fact.op:Fact->Int|.mk o _ _ _ _ _=>o
def Fact.arg:Fact->Int|.mk _ a _ _ _ _=>a
def Fact.path:Fact->fF|.mk _ _ p _ _ _=>p
def Fact.cls:Fact->Int|.mk _ _ _ c _ _=>c
def Fact.n:Fact->Int|.mk _ _ _ _ n _=>n
def Fact.ah:Fact->List Fact|.mk _ _ _ _ _ k=>k
def aB.op:aB->Int|.mk o _ _ _=>o
def aB.n:aB->Int|.mk _ n _ _=>n
def aB.text:aB->Str|.mk _ _ t _=>t
def aB.ah:aB->List aB|.mk _ _ _ k=>k
def aC.op:aC->Int|.mk o _ _ _ _ _=>o
def aC.name:aC->Str|.mk _ s _ _ _ _=>s
def aC.path:aC->fD|.mk _ _ p _ _ _=>p
def aC.cls:aC->Str|.mk _ _ _ c _ _=>c
def aC.n:aC->Int|.mk _ _ _ _ n _=>n
def aC.ah:aC->List aC|.mk _ _ _ _ _ k=>k
theorem Fact.lt{f x:Fact}(h:x∈f.ah):SizeOf.sizeOf x<SizeOf.sizeOf f:=by
 cases f;simp only[Fact.ah]at h
 have:=eK h
 simp;omega
theorem aB.lt{f x:aB}(h:x∈f.ah):SizeOf.sizeOf x<SizeOf.sizeOf f:=by
 cases f;simp only[aB.ah]at h
 have:=eK h
 simp;omega
theorem aC.lt{f x:aC}(h:x∈f.ah):SizeOf.sizeOf x<SizeOf.sizeOf f:=by
 cases f;simp only[aC.ah]at h
 have:=eK h
 simp;omega
end
mutual
def AS:Fact->fE
 |.mk o a p c n k=>[dI o,dI a,sl (cI p),dI c,dI n,sl (OQ k)]
def OQ:List Fact->fH
 |[]=>[]
 |f::l=>AS f::OQ l
end
theorem LS: ∀l,OQ l=l.map AS
 |[]=>by rw[OQ];rfl
 |f::l=>by rw[OQ,LS l];rfl
@[simp] theorem Ds(f:Fact):AS f=[dI f.op,dI f.arg,sl (cI f.path),dI f.cls,dI f.n,sl (f.ah.map AS)]:=by
 cases f;rw[AS,LS];rfl
mutual
def Al:aB->fE
 |.mk o n t k=>[dI o,dI n,.str t,sl (OR k)]
def OR:List aB->fH
 |[]=>[]
 |f::l=>Al f::OR l
end
theorem LT: ∀l,OR l=l.map Al
 |[]=>by rw[OR];rfl
 |f::l=>by rw[OR,LT l];rfl
@[simp] theorem CF(f:aB):Al f=[dI f.op,dI f.n,.str f.text,sl (f.ah.map Al)]:=by
 cases f;rw[Al,LT];rfl
mutual
def B6:aC->fE
 |.mk o s p c n k=>[dI o,.str s,sl (cS p),.str c,dI n,sl (Kl k)]
def Kl:List aC->fH
 |[]=>[]
 |f::l=>B6 f::Kl l
end
theorem Kk: ∀l,Kl l=l.map B6
 |[]=>by rw[Kl];rfl
 |f::l=>by rw[Kl,Kk l];rfl
@[simp] theorem CB(f:aC):B6 f=[dI f.op,.str f.name,sl (cS f.path),.str f.cls,dI f.n,sl (f.ah.map B6)]:=by
 cases f;rw[B6,Kk];rfl
@[simp] def Dg(i:Init):fE:=[dI i.slot,dI i.n]
@[simp] def cBClass(c:ax):fE:=[sl (cI c.ag),sl (cI c.ae),sl (c.ai.map Dg)]
@[simp] def Ag(m:ay):fE:=[dI m.kind,dI m.gen]++AS m.fact++[dI m.node]
@[simp] def Ab(x:aA):fE:=[dI x.op,dI x.n,sl (cI x.ah)]
@[simp] def Ai(p:aw):fE:=[sl (p.aa.map cBClass),dI p.ae,sl (cI p.aj),sl (p.methods.map Ag),sl (p.nodes.map Ab),dI p.main]
@[simp] def Dh(i:aG):fE:=[.str i.slot,dI i.n]
@[simp] def cFClass(c:aD):fE:=[.str c.name,sl (cS c.ag),sl (cS c.ae),sl (c.ai.map Dh)]
@[simp] def BZ(m:aE):fE:=[dI m.kind,.str m.name,sl (cS m.params)]++B6 m.fact++Al m.body
@[simp] def Bd(p:aF):fE:=[sl (p.aa.map cFClass),sl (p.methods.map BZ)]++Al p.main
@[simp] def C8(w:World):fE:=[sl (cII w.ag),sl (cI w.owner)]
theorem A4{V:Sig}{i j:Nat}{o:DObj}(h:V.set i o j=none):j≠i/\V j=none:=by
 by_cases hj:j=i
 ·subst hj;rw[w7]at h;cases h
 ·rw[w8 _ _ hj]at h;exact⟨hj,h⟩
theorem A1{α:Type}{l:List α}{k:Nat}(h:¬k<l.length):l.drop k=[]:=cN (by omega)
theorem A2{α:Type}{l:List α}{k:Nat}(h:k<l.length):l.drop k=l[k]::l.drop (k+1):=dH h
@[simp] theorem cI_nil:cI []=[]:=rfl
@[simp] theorem cS_nil:cS []=[]:=rfl
@[simp] theorem cII_nil:cII []=[]:=rfl
@[simp] theorem cI_take(l:fF)(k:Nat):(cI l).take k=cI (l.take k):=by simp[cI]
@[simp] theorem cI_tail(l:fF):(cI l).tail=cI l.tail:=by simp[cI]
@[simp] theorem cS_drop(l:fD)(k:Nat):(cS l).drop k=cS (l.drop k):=by simp[cS]
@[simp] theorem cS_take(l:fD)(k:Nat):(cS l).take k=cS (l.take k):=by simp[cS]
theorem Bq(f:Fact):[dI f.op,dI f.arg,sl (cI f.path),dI f.cls,dI f.n,sl (f.ah.map AS)]=AS f:=by simp
theorem Br(f:aB):[dI f.op,dI f.n,.str f.text,sl (f.ah.map Al)]=Al f:=by simp
theorem B1(f:aC):[dI f.op,.str f.name,sl (cS f.path),.str f.cls,dI f.n,sl (f.ah.map B6)]=B6 f:=by simp
theorem Bp(i:Init):[dI i.slot,dI i.n]=Dg i:=rfl
theorem AF(c:ax):[sl (cI c.ag),sl (cI c.ae),sl (c.ai.map Dg)]=cBClass c:=rfl
theorem B4(m:ay):[dI m.kind,dI m.gen,dI m.fact.op,dI m.fact.arg,sl (cI m.fact.path),dI m.fact.cls,dI m.fact.n,sl (m.fact.ah.map AS),dI m.node]=Ag m:=by simp
theorem B3(x:aA):[dI x.op,dI x.n,sl (cI x.ah)]=Ab x:=rfl
theorem B2(p:aw):[sl (p.aa.map cBClass),dI p.ae,sl (cI p.aj),sl (p.methods.map Ag),sl (p.nodes.map Ab),dI p.main]=Ai p:=rfl
theorem B0(i:aG):[.str i.slot,dI i.n]=Dh i:=rfl
theorem AE(c:aD):[.str c.name,sl (cS c.ag),sl (cS c.ae),sl (c.ai.map Dh)]=cFClass c:=rfl
theorem AZ(m:aE):dI m.kind :: .str m.name::sl (cS m.params)::dI m.fact.op :: .str m.fact.name::sl (cS m.fact.path) :: .str m.fact.cls::dI m.fact.n::sl (m.fact.ah.map B6)::Al m.body=BZ m:=by simp
theorem AY(p:aF):sl (p.aa.map cFClass)::sl (p.methods.map BZ)::Al p.main=Bd p:=by simp
theorem AX(w:World):[sl (cII w.ag),sl (cI w.owner)]=C8 w:=rfl
def wtL{α:Type}(f:α->Nat):List α->Nat
 |[]=>0
 |x::l=>f x+wtL f l
theorem E4{α:Type}(f:α->Nat): ∀(l:List α) (k:Nat) (h:k<l.length),f l[k]<=wtL f l
 |x::l,0,_=>by simp[wtL]
 |x::l,k+1,h=>by
  have:=E4 f l k (by simpa using h)
  simp only[eI,wtL];omega
theorem DH{α:Type}(f:α->Nat)(hf:∀x,1<=f x): ∀l:List α,l.length<=wtL f l
 |[]=>bm _
 |x::l=>by
  have:=DH f hf l
  have:=hf x
  simp only[aP,wtL];omega
theorem GI{α:Type}(f:α->Nat): ∀l m:List α,wtL f (l++m)=wtL f l+wtL f m
 |[],m=>by simp[wtL]
 |x::l,m=>by simp only[bl,wtL,GI f l m];omega
def wtS:fD->Nat:=wtL fun s=>1+s.length
mutual
def Fact.wt:Fact->Nat
 |.mk _ _ p _ _ k=>1+p.length+Fact.wts k
def Fact.wts:List Fact->Nat
 |[]=>0
 |f::l=>f.wt+Fact.wts l
end
mutual
def aB.wt:aB->Nat
 |.mk _ _ t k=>1+t.length+aB.wts k
def aB.wts:List aB->Nat
 |[]=>0
 |f::l=>f.wt+aB.wts l
end
mutual
def aC.wt:aC->Nat
 |.mk _ s p c _ k=>1+s.length+wtS p+c.length+aC.wts k
def aC.wts:List aC->Nat
 |[]=>0
 |f::l=>f.wt+aC.wts l
end
theorem Fact.wts_eq: ∀l,Fact.wts l=wtL Fact.wt l
 |[]=>by rw[Fact.wts,wtL]
 |f::l=>by rw[Fact.wts,wtL,Fact.wts_eq l]
theorem aB.wts_eq: ∀l,aB.wts l=wtL aB.wt l
 |[]=>by rw[aB.wts,wtL]
 |f::l=>by rw[aB.wts,wtL,aB.wts_eq l]
theorem aC.wts_eq: ∀l,aC.wts l=wtL aC.wt l
 |[]=>by rw[aC.wts,wtL]
 |f::l=>by rw[aC.wts,wtL,aC.wts_eq l]
theorem Fact.wt_eq(f:Fact):f.wt=1+f.path.length+wtL Fact.wt f.ah:=by cases f;rw[Fact.wt,Fact.wts_eq];rfl
theorem aB.wt_eq(f:aB):f.wt=1+f.text.length+wtL aB.wt f.ah:=by cases f;rw[aB.wt,aB.wts_eq];rfl
theorem aC.wt_eq(f:aC):f.wt=1+f.name.length+wtS f.path+f.cls.length+wtL aC.wt f.ah:=by cases f;rw[aC.wt,aC.wts_eq];rfl
theorem Fact.wt_pos(f:Fact):1<=f.wt:=by rw[Fact.wt_eq];omega
theorem aB.wt_pos(f:aB):1<=f.wt:=by rw[aB.wt_eq];omega
theorem aC.wt_pos(f:aC):1<=f.wt:=by rw[aC.wt_eq];omega
theorem Bb(l:fD):l.length<=wtS l:=DH _ (fun x=>by omega) l
theorem J2(l:fD)(k:Nat)(h:k<l.length):l[k].length<wtS l:=by
 have:=E4 (fun s:Str=>1+s.length) l k h
 unfold wtS;omega
theorem Fact.wt_le(f:Fact):f.path.length<f.wt/\f.ah.length<f.wt /\ ∀(k:Nat) (h:k<f.ah.length),(f.ah[k]).wt<f.wt:=by
 have h1:=Fact.wt_eq f
 have h2:=DH Fact.wt Fact.wt_pos f.ah
 exact⟨by omega,by omega,fun k h=>by have:=E4 Fact.wt f.ah k h;omega⟩
theorem aB.wt_le(f:aB):f.text.length<f.wt/\f.ah.length<f.wt /\ ∀(k:Nat) (h:k<f.ah.length),(f.ah[k]).wt<f.wt:=by
 have h1:=aB.wt_eq f
 have h2:=DH aB.wt aB.wt_pos f.ah
 exact⟨by omega,by omega,fun k h=>by have:=E4 aB.wt f.ah k h;omega⟩
theorem aC.wt_le(f:aC):f.name.length<f.wt/\wtS f.path<f.wt/\f.cls.length<f.wt/\f.ah.length<f.wt /\ ∀(k:Nat) (h:k<f.ah.length),(f.ah[k]).wt<f.wt:=by
 have h1:=aC.wt_eq f
 have h2:=DH aC.wt aC.wt_pos f.ah
 exact⟨by omega,by omega,by omega,by omega,fun k h=>by have:=E4 aC.wt f.ah k h;omega⟩
def ax.wt(c:ax):Nat:=1+c.ag.length+c.ae.length+c.ai.length
def aA.wt(x:aA):Nat:=1+x.ah.length
def ay.wt(m:ay):Nat:=1+m.fact.wt
def aw.wt(p:aw):Nat:=1+wtL ax.wt p.aa+p.aj.length+wtL ay.wt p.methods+wtL aA.wt p.nodes
def aG.wt(i:aG):Nat:=1+i.slot.length
def aD.wt(c:aD):Nat:=1+c.name.length+wtS c.ag+wtS c.ae+wtL aG.wt c.ai
def aE.wt(m:aE):Nat:=1+m.name.length+wtS m.params+m.fact.wt+m.body.wt
def aF.wt(p:aF):Nat:=1+wtL aD.wt p.aa+wtL aE.wt p.methods+p.main.wt
theorem aw.wt_le(p:aw):p.aa.length<p.wt/\p.aj.length<p.wt/\p.methods.length<p.wt/\p.nodes.length<p.wt /\
  (∀(k:Nat) (h:k<p.aa.length),(p.aa[k]).wt<p.wt)/\(∀(k:Nat) (h:k<p.methods.length),(p.methods[k]).wt<p.wt) /\ ∀(k:Nat) (h:k<p.nodes.length),(p.nodes[k]).wt<p.wt:=by
 have h1:=DH ax.wt (fun x=>by unfold ax.wt;omega) p.aa
 have h2:=DH ay.wt (fun x=>by unfold ay.wt;omega) p.methods
 have h3:=DH aA.wt (fun x=>by unfold aA.wt;omega) p.nodes
 unfold aw.wt
 exact⟨by omega,by omega,by omega,by omega,fun k h=>by have:=E4 ax.wt p.aa k h;omega,fun k h=>by have:=E4 ay.wt p.methods k h;omega,fun k h=>by have:=E4 aA.wt p.nodes k h;omega⟩
theorem aF.wt_le(p:aF):p.aa.length<p.wt/\p.methods.length<p.wt/\p.main.wt<p.wt /\
  (∀(k:Nat) (h:k<p.aa.length),(p.aa[k]).wt<p.wt)/\(∀(k:Nat) (h:k<p.methods.length),(p.methods[k]).wt<p.wt):=by
 have h1:=DH aD.wt (fun x=>by unfold aD.wt;omega) p.aa
 have h2:=DH aE.wt (fun x=>by unfold aE.wt;omega) p.methods
 unfold aF.wt
 exact⟨by omega,by omega,by omega,fun k h=>by have:=E4 aD.wt p.aa k h;omega,fun k h=>by have:=E4 aE.wt p.methods k h;omega⟩
theorem aD.wt_le(c:aD):c.name.length<c.wt/\wtS c.ag<c.wt/\wtS c.ae<c.wt/\c.ai.length<c.wt /\ ∀(k:Nat) (h:k<c.ai.length),(c.ai[k]).slot.length<c.wt:=by
 have h1:=DH aG.wt (fun x=>by unfold aG.wt;omega) c.ai
 unfold aD.wt
 exact⟨by omega,by omega,by omega,by omega,fun k h=>by have:=E4 aG.wt c.ai k h;unfold aG.wt at this⊢; omega⟩
end Go.DL
namespace Go.Proofs
open Go.Proofs.Tryz
open Go.Shelf
def laysSort_ren:Go.Shelf.Ren:=⟨fun x=>match x with|189=>150|125=>220|257=>219|128=>265|129=>266|294=>256|295=>257|296=>258|297=>259|298=>260|299=>261|216=>262|300=>263|301=>264|328=>287|329=>288|330=>289|331=>290|332=>291|215=>292|343=>308|n=>n,fun x=>match x with|28=>23|3=>3|46=>240|0=>0|51=>295|53=>267|4=>4|183=>334|182=>333|131=>114|5=>5|9=>9|218=>361|222=>124|228=>379|229=>380|n=>n,fun n=>n⟩
theorem laysSort:Lays.n189 prog laysSort_ren:=
 {mixed:=Eq.refl true,f125:=func220.trans (bF some (by kernel_rfl)),f128:=func265.trans (bF some (by kernel_rfl)),f129:=func266.trans (bF some (by kernel_rfl)),f189:=func150.trans (bF some (by kernel_rfl)),f215:=func292.trans (bF some (by kernel_rfl)),f216:=func262.trans (bF some (by kernel_rfl)),f257:=func219.trans (bF some (by kernel_rfl)),f294:=func256.trans (bF some (by kernel_rfl)),f295:=func257.trans (bF some (by kernel_rfl)),f296:=func258.trans (bF some (by kernel_rfl)),f297:=func259.trans (bF some (by kernel_rfl)),f298:=func260.trans (bF some (by kernel_rfl)),f299:=func261.trans (bF some (by kernel_rfl)),f300:=func263.trans (bF some (by kernel_rfl)),f301:=func264.trans (bF some (by kernel_rfl)),f328:=func287.trans (bF some (by kernel_rfl)),f329:=func288.trans (bF some (by kernel_rfl)),f330:=func289.trans (bF some (by kernel_rfl)),f331:=func290.trans (bF some (by kernel_rfl)),f332:=func291.trans (bF some (by kernel_rfl)),f343:=func308.trans (bF some (by kernel_rfl)),t0:=underlying0,a0:=isAgg0,z0:=sizeOf0,v0:=zeroValue0,t3:=underlying3,a3:=isAgg3,z3:=sizeOf3,v3:=zeroValue3,t4:=underlying4,a4:=isAgg4,z4:=sizeOf4,v4:=zeroValue4,t5:=underlying5,a5:=isAgg5,z5:=sizeOf5,v5:=zeroValue5,t9:=underlying9,a9:=isAgg9,z9:=sizeOf9,v9:=zeroValue9,t28:=underlying23,a28:=isAgg23,z28:=sizeOf23,v28:=zeroValue23,t46:=underlying240,a46:=isAgg240,z46:=sizeOf240,v46:=zeroValue240,t51:=underlying295,a51:=isAgg295,z51:=sizeOf295,v51:=zeroValue295,t53:=underlying267,a53:=isAgg267,z53:=sizeOf267,v53:=zeroValue267,t131:=underlying114,a131:=isAgg114,z131:=sizeOf114,v131:=zeroValue114,t182:=underlying333,a182:=isAgg333,z182:=sizeOf333,v182:=zeroValue333,t183:=underlying334,a183:=isAgg334,z183:=sizeOf334,v183:=zeroValue334,t218:=underlying361,a218:=isAgg361,z218:=sizeOf361,v218:=zeroValue361,t222:=underlying124,a222:=isAgg124,z222:=sizeOf124,v222:=zeroValue124,t228:=underlying379,a228:=isAgg379,z228:=sizeOf379,v228:=zeroValue379,t229:=underlying380,a229:=isAgg380,z229:=sizeOf380,v229:=zeroValue380 }
end Go.Proofs
namespace Go.DL
open Go.Proofs.Tryz
open Go Go.Proofs Go.Sort
def F2(l:fF):fF:=l.mergeSort fun x y=>decide (x<=y)
theorem Hi(l:fF):(F2 l).length=l.length:=by unfold F2;exact List.length_mergeSort _
theorem NU(l:fF)(j:Nat)(h:j<l.length):l.toArray[j]! = l[j]:=by simp[getElem!_pos,h]
theorem Vp(l:fF)(st:MR)(V:Sig)(hm:mOK V 1 st (cI l))(hl:l.length<=1073741824):
  au prog 150 [mD st l.length] (mS V st (cI l)) fun x S'=>x=.ret (.tup [])/\S'=mS V st (cI (F2 l)):=by
 have hL:∀f∈[laysSort_ren.f 189,laysSort_ren.f 257,laysSort_ren.f 125,laysSort_ren.f 294,laysSort_ren.f 295,laysSort_ren.f 296,laysSort_ren.f 297,laysSort_ren.f 298,laysSort_ren.f 299,laysSort_ren.f 216,laysSort_ren.f 300,laysSort_ren.f 301,laysSort_ren.f 129,laysSort_ren.f 328,laysSort_ren.f 329,laysSort_ren.f 330,laysSort_ren.f 331,laysSort_ren.f 332,laysSort_ren.f 215,laysSort_ren.f 343],f<prog.funcs.size:=by
  rw[An];decide
 refine⟨by rw[An];decide,E0 func150 (by rfl) (by rfl),fun g w vs hs ha=>?_⟩
 obtain⟨v,r,rfl,hv,rfl⟩:=ha
 cases st with
 |none=>
  have gW:l=[]:=by have:cI l=[]:=hm;simpa[cI] using this
  subst gW
  have gM:v=.slice none 0 0:=hv
  subst gM
  refine(LR (fun D=>AnyS.slices_Sort_int_none_alone laysSort D none 0 w) hL none).mono ?_
  rintro e w' ⟨rfl,rfl⟩
  refine⟨g,.ret (.tup []),_,.refl g,hs,⟨_,rfl,[],rfl,rfl⟩,rfl,?_⟩
  simp[mS]
 | some x =>
  obtain⟨i,cap,rest⟩:=x
  obtain⟨h1,h2,h3,h4⟩:=hm
  obtain⟨b,hb,hv⟩:=hv
  subst hv
  obtain⟨b',vs,ty,fY,d6,hr⟩:=hs.obj i _ (w7 ..)
  obtain rfl:b'=b:=by rw[hb]at fY;cases fY;rfl
  have e8:∀m:fF,(cI m).flatten=m.map (D.int .i64):=fun m=>by induction m with
   |nil=>rfl
   |cons x m ih=>simp only[cI,ba,cy]at ih⊢; rw[ih];rfl
  have hlen:=RepL.length hr
  simp only[bN,aH,e8,aZ]at hlen
  have gk:∀j (hj:j<l.length),vs[j]? = some (.int .i64 l[j]):=by
   intro j hj
   have:=RepL.get hr j
   rw[bx (by simp[e8,hj]),e8]at this
   simp only[bD,aM hj,bG,bP,cc]at this
   have fO:j<vs.size:=by omega
   rw[bz fO]at this⊢
   have this':vs[j]=.int .i64 l[j]:=this
   rw[this']
  have hH:Holds (Value.int .i64) w b' 0 l.toArray:=by
   intro j hj
   have gE:j<l.length:=by simpa using hj
   refine⟨?_,by simp[Go.World.frozen?, d6]⟩
   simp only[Go.World.cell?, d6,ck]
   rw[NU l j gE];exact gk j gE
  have iy:b'<w.heap.size:=(aR.1 d6).1
  refine(LR (fun D=>AnyS.slices_Sort_int_alone laysSort D b' 0 cap l w hH iy (by omega)) hL none).mono ?_
  rintro e w' ⟨rfl,q,os,rfl⟩
  refine⟨g,.ret (.tup []),_,.refl g,?_,⟨_,rfl,[],rfl,rfl⟩,rfl,rfl⟩
  have gO:=Hi l
  have fV:=hs.setObj (i:=i) (b:=b') (ds':=(cI (F2 l)).flatten++rest) (vs':=putCells (Value.int .i64) 0 (F2 l).toArray vs) (ty:=ty) (w7 ..) hb ?_ ⟨vs,d6⟩
  ·have e1:(mS V (some (i,cap,rest)) (cI l)).set i (.cells ((cI (F2 l)).flatten++rest))=mS V (some (i,cap,rest)) (cI (F2 l)):=w9 ..
   rw[e1]at fV
   refine fV.later (fun k x hx=>?_) rfl
   have hk:k<w.heap.size:=by have:=(aR.1 hx).1;simpa[setB] using this
   simp only[grow,putRow,mapBlock]
   have ea:(Sort.ahead w q).heap=w.heap:=rfl
   rw[ea]
   rw[eu (by simpa using hk)]
   by_cases gh:k=b'
   ·subst gh
    rw[Dm d6]at hx
    rw[cW,aS rfl,d6,<-hx]
    rfl
   ·rw[F3 gh]at hx
    rw[cW,aN (fun e=>gh e.symm),hx]
  ·refine Bf (by simp[putCells,e8];omega) fun j d u hd hu=>?_
   rw[e8]at hd
   simp only[putCells,cc,Array.getElem?_mapIdx,eR,eQ,ck,fh,du]at hu
   have fO:j<vs.size:=by
    rcases cg j vs.size with h|h
    ·exact h
    ·rw[bY h]at hu;cases hu
   rw[bz fO]at hu
   simp only[bG,bq]at hu
   by_cases hj:j<(F2 l).length
   ·rw[aS hj,NU _ _ hj]at hu
    rw[bx (by simpa using hj),bD,aM hj]at hd
    simp only[bG,bq]at hd
    subst hd hu
    exact rfl
   ·rw[aN hj]at hu
    rw[bR (by simpa using hj)]at hd
    have:=RepL.get hr j
    rw[bR (by simp[e8];omega),e8]at this
    simp only[aZ]at hd this
    rw[gO]at hd
    rw[hd,cc,bz fO,hu]at this
    exact this
end Go.DL
