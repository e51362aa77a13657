/- A part of the proof. -/
import Derived.Test.YteldimffglchkaaGreatDoorM07
import Derived.Laws.IdiomCopy
import Derived.Laws.IdiomStrings
import Derived.Laws.BytesArg
import Derived.Lib.AppendStr
set_option linter.all false
namespace Go.DL
open Go
section
variable {P:Program}{ro:Ro}{n:Nat}{ops:Array Oper}{N:Nat}{S0:Sig}{Q:DX->St->Prop}{df:List DDf}{E:List Nat}
theorem QH(hN:P.funcs.size=N){ord:List Nat}{k:Nat}{ol:Oper}(am:ops.size=k+1)(aP:ops[k]? = some ol)(aK:mixB ops E [] ord=true)(aW:∀i,i<k->i∈ord)(ap:∀i∈ord,i<k)
  (bM:∀i,i<k->FK ops ops.size k i=true) (bw:∀e∈ol.after,Region.binds .any e=true->e.on<k) {g0:G}{rr:Rx} (hr:RoRep g0 ro rr) :
  ∀(m:Nat) (r:List Nat) (listed:Array Bool) (γ:Fr) (O:Sig),r.length=m->listed.size=ops.size->r=ord.filter (fun i=> !listed.getD i true)->listed.getD k true=false->Closed ops listed->
   MOps P ro n ops N S0 (Then (fun s=>DOps P ro n ops Q [ol] s) Q) df E r γ O->Sub S0 O->
   ∀(g:G) (w:World) (a:Act),g0.le g->SimS P g n ⟨γ,O,df⟩ a w->wpAnyIn (FX P rr) 0 P .any ops (Post P g0 n Q) (m+1) listed a w:=by
 have aQ:∀(r:List Nat) (listed:Array Bool),Closed ops listed->r=ord.filter (fun i=> !listed.getD i true)->∀i∈Region.ready .any ops listed,i∈r\/(i=k/\r=[]):=by
  intro r listed ax hf i hi
  obtain⟨h1,o,ho,hd⟩:=mem_ready.1 hi
  have b9:i<k+1:=by rw[<-am];exact(Array.getElem?_eq_some_iff.1 ho).1
  by_cases hk:i=k
  ·subst hk
   right
   refine⟨rfl,?_⟩
   rw[hf,List.filter_eq_nil_iff]
   intro x hx
   have:=CE ax ops.size i x o ho hd (bM x (ap x hx))
   rcases Nat.lt_or_ge x listed.size with h|h
   ·simp[h]at this⊢; exact this
   ·simp[Array.getElem?_eq_none h]at this
  ·left
   rw[hf,List.mem_filter]
   exact⟨aW i (by omega),by rw[h1];rfl⟩
 intro m
 induction m with
 | zero =>
  intro r listed γ O hl hsz hf bf ax h hC g w a hg hs
  obtain rfl:r=[]:=List.length_eq_zero_iff.1 hl
  have ai:∀x,x<k->listed.getD x true=true:=by
   intro x hx
   have:=(List.filter_eq_nil_iff.1 hf.symm) x (aW x hx)
   simpa using this
  refine⟨fun he=>?_,fun i hi=>?_⟩
  ·exfalso
   have:k∈Region.ready .any ops listed:=by
    refine mem_ready.2 ⟨bf,ol,aP,fun e hm hb=>?_⟩
    have h5:=ai _ (bw e hm hb)
    have aL:e.on<listed.size:=by rw[hsz,am];have:=bw e hm hb;omega
    simpa[aL] using h5
   rw[he]at this;cases this
  ·obtain rfl:i=k:=by
    rcases aQ [] listed ax hf i hi with h|h
    ·cases h
    ·exact h.1
   have h1:DOps P ro n ops Q [ol] ⟨γ,O,df⟩:=fun g w a r hr hs=>by
    have h':=h g w a r hr hs
    obtain⟨g',s',x,k1,k2,k3,k4⟩:=h'
    cases x with
    |normal=>exact AE k1 _ (k4 g' w a r (hr.mono k1) k2)
    |ret=>cases k3
    |exit _=>cases k3
    |panic _=>obtain⟨v,k3,_⟩:=k3;cases k3
   have h2:=AE hg _ (h1 g w a rr (hr.mono hg) hs)
   unfold wpOpIn
   rw[aP]
   have hz:∀j,j<ops.size->(listed.setIfInBounds i true).getD j true=true:=by
    intro j hj
    by_cases bF:j=i
    ·subst bF
     have:j<listed.size:=by rw[hsz];exact hj
     simp[this]
    ·rw[getD_set_ne true (fun e=>bF e.symm)];exact ai j (by omega)
   have bB:Region.ready .any ops (listed.setIfInBounds i true)=[]:=List.eq_nil_iff_forall_not_mem.2 fun j hj=>by
    obtain⟨h1,o,ho,_⟩:=mem_ready.1 hj
    rw[hz j (Array.getElem?_eq_some_iff.1 ho).1]at h1;cases h1
   simp only[wpListIn]at h2
   simp only
   split
   ·rename_i hw
    rw[if_pos hw]at h2
    exact Oper.wpIn_mono (fun a w h=>⟨bB,h⟩) h2
   ·rename_i hw
    rw[if_neg hw]at h2
    exact⟨h2.1,bB,h2.2⟩
 | succ m ih =>
  intro r listed γ O hl hsz hf bf ax h hC g w a hg hs
  obtain⟨y,t,rfl⟩:∃y t,r=y::t:=by cases r with|nil=>cases hl|cons y t=>exact⟨y,t,rfl⟩
  refine⟨fun he=>?_,fun i hi=>?_⟩
  ·exfalso
   obtain⟨l1,l2,aJ,bW,hy,ck⟩:=List.filter_eq_cons_iff.1 hf.symm
   subst aJ
   obtain⟨h1,_,_,o,ho,bJ,_⟩:=ER l1 [] aK
   have:y∈Region.ready .any ops listed:=by
    refine mem_ready.2 ⟨by simpa using hy,o,ho,fun e hm hb=>?_⟩
    rcases bJ e hm hb with h4|h4
    ·have h5:=bW _ h4
     simp only[Bool.not_eq_true,Bool.not_eq_false']at h5
     have aL:e.on<listed.size:=by
      have:=ap e.on (by simp[h4])
      rw[hsz,am];omega
     simpa[aL] using h5
    ·cases h4
   rw[he]at this;cases this
  ·have bZ:i∈y::t:=by
    rcases aQ _ listed ax hf i hi with h|h
    ·exact h
    ·exact absurd h.2 (by simp)
   obtain⟨pre,post,aH⟩:=List.append_of_mem bZ
   rw[aH]at hf h hl
   obtain⟨l1',l2',aJ,bn,ce⟩:=List.filter_eq_append_iff.1 hf.symm
   obtain⟨m1,m2,bh,bU,cm,cd⟩:=List.filter_eq_cons_iff.1 ce
   have au:ord=(l1'++m1)++i::m2:=by rw[aJ,bh];simp
   have b9:i<k:=ap i (by rw[au];simp)
   rw[au]at aK
   obtain⟨n1,_,n3,o,ho,bJ,hx⟩:=ER (l1'++m1) [] aK
   obtain⟨bY,o',bA,ai⟩:=mem_ready.1 hi
   obtain rfl:o'=o:=by rw[ho]at bA;cases bA;rfl
   have aM:=GY ho post pre γ O (fun x bu=>by
    have bL:x∈l1'++m1:=by
     have:x∈l1'.filter (fun i=> !listed.getD i true):=by rw[bn];exact bu
     simp[(List.mem_filter.1 this).1]
    have bt:listed.getD x true=false:=by
     have:x∈l1'.filter (fun i=> !listed.getD i true):=by rw[bn];exact bu
     simpa using(List.mem_filter.1 this).2
    rcases hx x bL with h4|h4
    ·exfalso
     have:=CE ax ops.size i x o' ho ai h4
     rcases Nat.lt_or_ge x listed.size with ap|ap
     ·simp[ap]at this bt;rw[bt]at this;cases this
     ·simp[Array.getElem?_eq_none ap]at this
    ·exact h4) h
   have aD:pre++post=ord.filter (fun j=> !(listed.setIfInBounds i true).getD j true):=by
    have b8:i<listed.size:=by
     rw[hsz];exact(Array.getElem?_eq_some_iff.1 ho).1
    rw[au,List.filter_append,List.filter_cons]
    have e1:(listed.setIfInBounds i true).getD i true=true:=by simp[b8]
    rw[e1,AJ n1,AJ n3]
    simp only[Bool.not_true,Bool.false_eq_true,if_false,List.filter_append,bn,cd]
    rw[List.filter_eq_nil_iff.2 (fun x hx=>by simpa using bU x hx),List.append_nil]
   have hlen:(pre++post).length=m:=by simp at hl⊢; omega
   have aR:(listed.setIfInBounds i true).getD k true=false:=by rw[getD_set_ne true (show i≠k by omega)];exact bf
   obtain⟨o2,bz,hh⟩:=aM
   obtain rfl:o2=o':=by rw[ho]at bz;cases bz;rfl
   unfold wpOpIn
   simp only[ho]
   rcases hh with⟨d,hy,hM⟩|⟨_,hE⟩
   ·exact Fa (Q:=Q) hN (hr.mono hg) hg hs hC hy fun g' w' a' bl aA=>ih _ _ _ _ hlen (by simpa using hsz) aD aR (ax.set hi) hM hC g' w' a' (hg.trans bl) aA
   ·exact CP (Q:=Q) (hr.mono hg) hg hs hE (fun g' w' a' d U' bl hR aA=>ih _ _ _ _ hlen (by simpa using hsz) aD aR (ax.set hi) hR.2 hR.1 g' w' a' (hg.trans bl) aA) fun d U' hp=>hp
def Iq(ops:Array Oper)(E ord:List Nat):Bool:=mixB ops E [] ord&&(List.range (ops.size-1)).all ord.contains&&(ord.length==ops.size-1)&&ord.all (fun i=>decide (i<ops.size-1))&&(match ops[ops.size-1]? with
 |some o=>(List.range (ops.size-1)).all (fun i=>FK ops ops.size (ops.size-1) i)&&o.after.all (fun e=> !Region.binds .any e||decide (e.on<ops.size-1))
 |none=>false)
theorem OA(hN:P.funcs.size=N)(hm:P.follows .mixedOrders=true){l:List Oper}{id:Nat}{γ:Fr}{O:Sig}(ord E:List Nat)(S0:Sig){ol:Oper}(hB:Iq l.toArray E ord=true)(hl:nthO l (l.length-1)=some ol)(hC:Sub S0 O)
  {lp:List (Bool×Oper)} (bV:If l E ord=some lp) (h:MO P ro n l.toArray N S0 (Then (fun s=>DOps P ro n l.toArray Q [ol] s) Q) df lp γ O):DWp P ro n (.region id l.toArray true) Q ⟨γ,O,df⟩:=by
 intro g w a r hr hs
 refine wpIn_region_any hm ?_
 rw[GX]at hl
 have hne:l.length≠0:=fun e=>by have:l=[]:=List.length_eq_zero_iff.1 e;subst this;cases hl
 unfold Iq at hB
 simp only[Bool.and_eq_true,beq_iff_eq]at hB
 obtain⟨⟨⟨⟨b1,b2⟩,b3⟩,b4⟩,b5⟩:=hB
 have am:l.toArray.size=(l.toArray.size-1)+1:=by simp;omega
 have aP:l.toArray[l.toArray.size-1]? = some ol:=by simpa using hl
 rw[aP]at b5
 simp only[Bool.and_eq_true]at b5
 have ap:∀i∈ord,i<l.toArray.size-1:=fun i hi=>by simpa using List.all_eq_true.1 b4 i hi
 have aA:SimS P g n ⟨γ,O,df⟩ a { w with drawn:=w.drawn+1 }:=
  ⟨⟨fun b o v h=>hs.sim.imm b o v h,hs.sim.keep,fun i o h=>by
   have:=hs.sim.obj i o h
   cases o<;>exact this,hs.sim.inj,hs.sim.free,hs.sim.htop,hs.sim.hdom,hs.sim.fin,hs.sim.io,hs.sim.tab⟩,hs.tmps,hs.df⟩
 have ax:Closed l.toArray (Array.replicate l.toArray.size false):=by
  intro q o _ hq
  rcases Nat.lt_or_ge q l.length with h'|h'
  ·simp[h']at hq
  ·simp[h']at hq
 have bT:=Fi (P:=P) (ro:=ro) (n:=n) (N:=N) (S0:=S0) (Q:=Then (fun s=>DOps P ro n l.toArray Q [ol] s) Q) (df:=df) (ops:=l.toArray) (E:=E) (ord:=ord) (fun i hi=>by have:=ap i hi;omega) (by rw[Na bV];exact h)
 have:=QH (P:=P) hN (ops:=l.toArray) (k:=l.toArray.size-1) am aP b1 (fun i hi=>by simpa using List.all_eq_true.1 b2 i (by simpa using hi)) ap
  (fun i hi=>List.all_eq_true.1 b5.1 i (List.mem_range.2 hi))
  (fun e he hb=>by
   have:=Array.all_eq_true_iff_forall_mem.1 b5.2 e he
   simpa[hb] using this)
  hr ord.length ord (Array.replicate l.toArray.size false) γ O rfl (by simp) (Dl (fun i hi=>by have:=ap i hi;omega)).symm (by
   have:l.toArray.size-1<l.toArray.size:=by omega
   rw[Array.getD_eq_getD_getElem?]
   simp only[Array.getElem?_replicate,this,if_true];rfl) ax bT hC g _ a (.refl g) aA
 rw[b3,<-am]at this
 exact this
end
theorem HB{g:G}{d d':D}(h:∀v,Rep g d v->Rep g d' v): ∀{az bs:List D}{vs:List Value},RepL g (az++d::bs) vs->RepL g (az++d'::bs) vs
 |[],_,_,⟨v,r,e,h1,h2⟩=>⟨v,r,e,h v h1,h2⟩
 |_::_,_,_,⟨v,r,e,h1,h2⟩=>⟨v,r,e,h1,HB h h2⟩
section
variable {P:Program}{n:Nat}{γ:List (Nat×D)}{O:Sig}{df:List DDf}
theorem EB{i:Nat}{az bs:List D}{d d':D}(hi:O i=some (.cells (az++d::bs)))(h:WkD d d'):Wk P n ⟨γ,O,df⟩ ⟨γ,O.set i (.cells (az++d'::bs)),df⟩:=
 fun g _ _ hs=>⟨g,.refl g,⟨hs.sim.retell hi fun _=>HB (h g),hs.tmps,hs.df⟩⟩
theorem MU{i sz:Nat}{st:MR}{es:List (List D)}{az bs:List D}(hm:mOK O sz st es)(hi:O i=some (.cells (az++mD st es.length::bs))):Wk P n ⟨γ,mS O st es,df⟩ ⟨γ,O.set i (.cells (az ++ .slice es .no::bs)),df⟩:=by
 cases st with
 |none=>
  obtain rfl:es=[]:=hm
  exact EB hi (An _ (.inl rfl))
 |some x=>
  obtain⟨j,cap,rest⟩:=x
  obtain⟨m1,m2,m3,m4⟩:=hm
  have aE:i≠j:=fun h=>by rw[h,m1]at hi;cases hi
  intro g w a hs
  obtain⟨b,_,_,hb,_,_⟩:=hs.sim.obj j _ (w6 O j _)
  obtain⟨g',aN,aA,bP⟩:=hs.sim.freeze (i:=j) (w6 O j _) hb
  have hU:(mS O (some (j,cap,rest)) es).del j=O:=Sig.set_del _ _ m1
  simp only at aA
  rw[hU]at aA
  refine⟨g',aN,⟨aA.retell hi fun vs=>HB fun v hv=>?_,hs.tmps.mono aN,hs.df.mono aN⟩⟩
  obtain⟨b',aq,hv⟩:=hv
  obtain rfl:b'=b:=by have:=aN.rho _ _ hb;rw[this]at aq;cases aq;rfl
  exact⟨_,cap,hv,m3,.inr ⟨sz,b',0,rfl,DR m4 bP⟩,trivial⟩
theorem WkL.repI{g:G}{b:Nat}: ∀{az bs:List D}{o:Nat},WkL az bs->RepI g b o az->RepI g b o bs
 |[],[],_,_,h=>h
 |_::_,_::_,_,⟨h1,h2⟩,⟨⟨v,h3,h4⟩,h5⟩=>⟨⟨v,h3,h1 g v h4⟩,WkL.repI h2 h5⟩
 |[],_::_,_,h,_=>h.elim
 |_::_,[],_,h,_=>h.elim
def WkE:List (List D)->List (List D)->Prop
 |[],[]=>True
 |a::az,b::bs=>WkL a b/\WkE az bs
 |_,_=>False
theorem WkE.len: ∀{az bs:List (List D)},WkE az bs->az.length=bs.length
 |[],[],_=>rfl
 |a::az,b::bs,h=>by simp[WkE.len h.2]
 |[],_::_,h=>h.elim
 |_::_,[],h=>h.elim
theorem WkE.rep{g:G}{b sz:Nat}: ∀{az bs:List (List D)}{o:Nat},WkE az bs->RepE g b sz o az->RepE g b sz o bs
 |[],[],_,_,h=>h
 |_::_,_::_,_,⟨h1,h2⟩,⟨⟨h3,h4⟩,h5⟩=>⟨⟨by rw[<-h1.len];exact h3,h1.repI h4⟩,WkE.rep h2 h5⟩
 |[],_::_,_,h,_=>h.elim
 |_::_,[],_,h,_=>h.elim
theorem Jx{es es':List (List D)}(o:Own)(h:WkE es es'):WkD (.slice es o) (.slice es' .no):=by
 rintro g v ⟨a,cap,h1,h2,h3,_⟩
 refine⟨a,cap,by rw[<-h.len];exact h1,by rw[<-h.len];exact h2,?_,trivial⟩
 rcases h3 with rfl|⟨sz,b,o,ha,hr⟩
 ·exact .inl (List.length_eq_zero_iff.mp h.len.symm)
 ·exact .inr ⟨sz,b,o,ha,h.rep hr⟩
theorem Lk: ∀ds:List D,WkL ds ds
 |[]=>trivial
 |d::ds=>⟨A8 d,Lk ds⟩
theorem NN: ∀es:List (List D),WkE es es
 |[]=>trivial
 |e::es=>⟨Lk e,NN es⟩
theorem WkE.app: ∀{az bs cs ds:List (List D)},WkE az bs->WkE cs ds->WkE (az++cs) (bs++ds)
 |[],[],_,_,_,h=>h
 |_::_,_::_,_,_,⟨h1,h2⟩,h=>⟨h1,WkE.app h2 h⟩
 |[],_::_,_,_,h,_=>h.elim
 |_::_,[],_,_,h,_=>h.elim
end
theorem Vr{O:Sig}{sz:Nat}{st:MR}{es:List (List D)}{j:Nat}{o:DObj}(hm:mOK O sz st es)(hj:mS O st es j=none):(mS O st es).set j o=mS (O.set j o) st es/\mOK (O.set j o) sz st es:=by
 cases st with
 |none=>exact⟨rfl,hm⟩
 | some x =>
  obtain⟨i,cap,rest⟩:=x
  have aE:j≠i:=fun h=>by
   subst h
   simp only[mS,w6]at hj
   cases hj
  obtain⟨m1,m2,m3,m4⟩:=hm
  refine⟨?_,by rw[w7 _ _ (Ne.symm aE)];exact m1,m2,m3,m4⟩
  funext k
  simp only[mS,Sig.set]
  by_cases h1:k=j
  ·subst h1;rw[if_pos rfl,if_neg aE,if_pos rfl]
  ·by_cases h2:k=i
   ·subst h2;rw[if_neg h1,if_pos rfl,if_pos rfl]
   ·rw[if_neg h1,if_neg h2,if_neg h2,if_neg h1]
theorem QZ{O:Sig}{sz:Nat}{st:MR}{es:List (List D)}{j:Nat}{o:DObj}(hm:mOK O sz st es)(hj:O j=some o):mS O st es j=some o:=by
 cases st with
 |none=>exact hj
 |some x=>
  obtain⟨i,cap,rest⟩:=x
  have aE:j≠i:=fun h=>by rw[h,hm.1]at hj;cases hj
  simp only[mS];rw[w7 _ _ aE];exact hj
theorem QY{O:Sig}{st:MR}{es:List (List D)}{j:Nat}(hj:mS O st es j=none):O j=none:=by
 cases st with
 |none=>exact hj
 |some x=>
  obtain⟨i,cap,rest⟩:=x
  simp only[mS,Sig.set]at hj
  by_cases h:j=i
  ·rw[if_pos h]at hj;cases hj
  ·rw[if_neg h]at hj;exact hj
theorem mS_put{O:Sig}{sz:Nat}{st:MR}{es:List (List D)}{j:Nat}{o x:DObj}(hm:mOK O sz st es)(hj:O j=some x):(mS O st es).set j o=mS (O.set j o) st es/\mOK (O.set j o) sz st es:=by
 cases st with
 |none=>exact⟨rfl,hm⟩
 | some y =>
  obtain⟨i,cap,rest⟩:=y
  obtain⟨m1,m2,m3,m4⟩:=hm
  have aE:j≠i:=fun h=>by rw[h,m1]at hj;cases hj
  refine⟨?_,by rw[w7 _ _ (Ne.symm aE)];exact m1,m2,m3,m4⟩
  funext k
  simp only[mS,Sig.set]
  by_cases h1:k=j
  ·subst h1;rw[if_pos rfl,if_neg aE,if_pos rfl]
  ·by_cases h2:k=i
   ·subst h2;rw[if_neg h1,if_pos rfl,if_pos rfl]
   ·rw[if_neg h1,if_neg h2,if_neg h2,if_neg h1]
section
variable {P:Program}{tab:Nat->Ty}{ro:Ro}{n:Nat}{ops:Array Oper}{Q:DX->St->Prop}{γ:List (Nat×D)}{O:Sig}{df:List DDf}{rest:List Oper}{t:Nat}{ty:TypeId}{pos:String}{after:Array Edge}
theorem Nz(ht:B2 P tab){T len e:Nat}(aj:t<n)(hk:(tab T).k=.array len e)(he:A1 (tab e).k=false)
  (h:DOps P ro n ops Q rest ⟨(t,.agg (tab T).zero)::γ,O,df⟩):DOps P ro n ops Q (⟨some t,.build T #[],ty,pos,after,none⟩::rest) ⟨γ,O,df⟩:=by
 refine By (fun d U'=>d=.agg (tab T).zero/\U'=O) rfl (fun c e=>by cases e) (Aa fun c e=>by cases e) (by simp[Ap,aj]) ?_ (fun d U' ⟨a,b⟩=>by subst a b;exact h)
 intro g w a hs _
 obtain⟨inf,desc,z,h1,h2,h3,h4,h5,h6,h7,h8,h9,cq⟩:=BJ (ht T) (by rw[hk];simp)
 obtain⟨inf',_,_,g1,_⟩:=BJ (ht e) (Ae he)
 have hz:RepL g (tab T).zero z.cells.toList:=by
  rw[h9]
  exact AF (by simp) fun j x v e1 e2=>by
   rw[List.getElem?_map,e2]at e1
   cases e1;exact Dh g v
 have hb:P.built T []=some z.cells:=by
  unfold Program.built
  rw[h1,FT ht hk]
  simp only[h7,g1]
  rfl
 refine⟨g,w,.agg z.cells,.agg (tab T).zero,O,?_,.refl g,hs,⟨z.cells.toList,by simp,hz⟩,rfl,rfl⟩
 have:=run_build (P:=P) w T #[] z.cells hb
 simp only[execOp,Array.map_empty,Sem.run_bind,this,Result.andThen_ok]
 rfl
end
section
variable {P:Program}{ro:Ro}{n:Nat}{ops:Array Oper}{Q:DX->St->Prop}{rest:List Oper}{tab:Nat->Ty}{γ:List (Nat×D)}{O:Sig}{df:List DDf}
def SrcOK(P:Program)(O:Sig)(d:D)(m:Nat)(cs:List D):Prop:=
 ∀g w v,Sim P g O w->Rep g d v->∃a cap us,v=.slice a m cap/\RepL g cs us/\us.length=m/\(m=0 \/ ∃b o,a=some ⟨b,o,none⟩ /\ ∀j v,us[j]? = some v->w.cell? ⟨b,o+j,none⟩=some v)
theorem U0{i off m cap:Nat}{ds:List D}(hi:O i=some (.cells ds))(h:off+m<=ds.length):SrcOK P O (.sref i off m cap) m ((ds.drop off).take m):=by
 intro g w v hs hr
 obtain⟨b,hb,rfl⟩:=hr
 obtain⟨b',vs,ty,aq,aa,hr⟩:=hs.obj i _ hi
 obtain rfl:b'=b:=by rw[hb]at aq;cases aq;rfl
 have hlen:=RepL.length hr
 simp only[Array.length_toList]at hlen
 refine⟨_,_,(vs.toList.drop off).take m,rfl,AF (by simp;omega) fun j d v h1 h2=>?_,by simp;omega,.inr ⟨b',off,rfl,fun j v hj=>?_⟩⟩
 ·have hj:j<m:=by have:=(List.getElem?_eq_some_iff.1 h1).1;simp at this;omega
  rw[List.getElem?_take_of_lt hj,List.getElem?_drop]at h1 h2
  have:=RepL.get hr (off+j)
  rw[h1,h2]at this
  exact this
 ·have bi:j<m:=by have:=(List.getElem?_eq_some_iff.1 hj).1;simp at this;omega
  rw[List.getElem?_take_of_lt bi,List.getElem?_drop,Array.getElem?_toList]at hj
  simp[World.cell?, aa,hj]
theorem Qf{d:D}{es:List (List D)}(h:esOf d=some es)(hl:∀c∈es,c.length=1):SrcOK P O d es.length es.flatten:=by
 intro g w v hs hr
 obtain⟨xa,xc,q1,q2,q3⟩:=BT h hr
 obtain⟨news,v1,v2,v3⟩:=BL hs hl q3
 exact⟨xa,xc,news,q1,v1,by omega,v3⟩
variable (ht:B2 P tab)
include ht
theorem Kb{t T T' ty e i off len cap m:Nat}{s x:Operand}{pos:String}{after:Array Edge}{ds cs:List D}
  (aj:t<n) (hk:(tab T).k=.slice e) (he:A1 (tab e).k=false) (hsz:(tab e).size=1) (h1:ev γ s=.sref i off len cap) (hi:O i=some (.cells ds)) (hlen:off+len<=ds.length)
  (h2:SrcOK P O (ev γ x) m cs) (cf:BC cs=true)
  (h:DOps P ro n ops Q rest ⟨(t,.int .i64 ((min m len:Nat):Int))::γ,O.set i (.cells (ds.take off++(cs.take (min m len)++ds.drop (off+min m len)))),df⟩) :
  DOps P ro n ops Q (⟨some t,.call { callee:=.builtin .copy,args:= #[s,x],argTypes:= #[T,T'] },ty,pos,after,none⟩::rest) ⟨γ,O,df⟩:=by
 refine By (fun d U'=>d=.int .i64 ((min m len:Nat):Int)/\U'=O.set i (.cells (ds.take off++(cs.take (min m len)++ds.drop (off+min m len))))) rfl (fun c e=>by cases e) (AZ rfl rfl) (by simp[Ap,aj]) ?_
  (fun d U' ⟨a2,a3⟩=>by subst a2 a3;exact h)
 intro g w a hs hT
 have ar:=Ai hT s
 have aC:=Ai hT x
 rw[h1]at ar
 obtain⟨b,hb,ar⟩:=ar
 obtain⟨xa,xc,us,hx,hr,ci,aU⟩:=h2 g w _ hs aC
 obtain⟨b2,vs,ty',aV,aa,bx⟩:=hs.obj i _ hi
 obtain rfl:b2=b:=by rw[hb]at aV;cases aV;rfl
 have aZ:=RepL.length bx
 simp only[Array.length_toList]at aZ
 have ax:=RepL.length hr
 obtain⟨inf,z,t1,t2,t3,t4,t5,t6,t7⟩:=Bd ht hk hk he
 have hu:P.underlying T=some (.slice e):=t1
 have hq:(P.info? e).map (·.size)=some 1:=by rw[t3];simp[t5,hsz]
 have cn:goInt ((min m len:Nat):Int)=.int .i64 ((min m len:Nat):Int):=rfl
 have ae : ∃ w',(Builtin.copy_ #[T,T'] ty #[a.eval s,a.eval x]).run P w = .ok (goInt ((min m len:Nat):Int)) w'/\Sim P g (O.set i (.cells (ds.take off++(cs.take (min m len)++ds.drop (off+min m len))))) w':=by
  rw[ar,hx]
  by_cases h0:min m len=0
  ·refine⟨w,?_,?_⟩
   ·rw[h0];exact run_copy_none w T T' ty e _ _ len cap m xc hu hq (by show min m len=0;exact h0)
   ·rw[h0];simp only[List.take_zero,List.nil_append,Nat.add_zero,List.take_append_drop]
    rw[show O.set i (.cells ds)=O from funext fun j=>by by_cases hj:j=i<;>simp[Sig.set,hj,hi]];exact hs
  ·obtain⟨b3,o3,rfl,cg⟩:=aU.resolve_left (by omega)
   have aF:(us.take (min m len)).length=min m len:=by simp;omega
   have hne:us.take (min m len)≠[]:=fun e=>by rw[e]at aF;simp at aF;omega
   have hl:=run_loadCells_list (P:=P) w ⟨b3,o3,none⟩ (us.take (min m len)) (fun j v hj=>by
    rw[Bu]
    have bi:j<min m len:=by have:=(List.getElem?_eq_some_iff.1 hj).1;simp at this;omega
    rw[List.getElem?_take_of_lt bi]at hj
    exact cg j v hj)
   have aT:=CJ hr cf
   have aG:=Bw (P:=P) (us.take (min m len)) 0 w vs aa (fun v hv=>aT v (List.mem_of_mem_take hv)) (o:=off) (by rw[aF];omega)
   rw[if_neg hne]at aG
   refine⟨_,?_,hs.setObj (ty:=ty') (vs':=Ba vs (off+0) (us.take (min m len))) hi hb ?_ ⟨vs,aa⟩⟩
   ·have ca:inf.size=1:=by omega
    have be:Nat.min m len=min m len:=rfl
    simp only[Builtin.copy_]
    simp[run_underlying hu,Builtin.lenOf,Builtin.firstCells,sizeOf,typeInfo,t3,ca,be,hl,aG,aF]
    rw[aF]at hl
    simp[hl,aG]
   ·refine AF (by simp only[List.length_append,List.length_take,List.length_drop,Array.length_toList,Cd];omega) fun j d v h1 h2=>?_
    have ah:(Ba vs (off+0) (us.take (min m len)))[j]? = some v:=by simpa using h2
    rw[CB _ _ _ _ (by rw[aF];omega),aF]at ah
    have hg:=RepL.get bx j
    rw[List.getElem?_append]at h1
    simp only[List.length_take]at h1
    by_cases c1:j<off
    ·rw[if_neg (by omega)]at ah
     rw[if_pos (by omega),List.getElem?_take_of_lt c1]at h1
     rw[h1]at hg
     simp only[Array.getElem?_toList,ah,Option.getD_some]at hg
     exact hg
    ·rw[if_neg (by omega),List.getElem?_append]at h1
     simp only[List.length_take]at h1
     have eo:min off ds.length=off:=by omega
     rw[eo]at h1
     by_cases c2:j-off<min m len
     ·rw[if_pos (by omega),List.getElem?_take_of_lt (by omega)]at ah
      rw[if_pos (by omega),List.getElem?_take_of_lt (by omega)]at h1
      have:=RepL.get hr (j-off)
      rw[h1,show j-off=j-(off+0) by omega,ah]at this
      exact this
     ·rw[if_neg (by omega)]at ah
      rw[if_neg (by omega),List.getElem?_drop,show off+min m len+(j-off-min (min m len) cs.length)=j by omega]at h1
      rw[h1]at hg
      simp only[Array.getElem?_toList,ah,Option.getD_some]at hg
      exact hg
 obtain⟨w',ae,ak⟩:=ae
 refine⟨g,w',goInt ((min m len:Nat):Int),.int .i64 ((min m len:Nat):Int),_,?_,.refl g,ak,rfl,rfl,rfl⟩
 simp[execOp,resolve,invoke,builtin,ae]
omit ht in
theorem KE{g:G}{i b off len cap:Nat}(h:g.rho i=some b):Rep g (.sref i off len cap) (.slice (some ⟨b,off,none⟩) len cap):=⟨b,h,rfl⟩
theorem NV{g:G}{w:World}{T e i off len cap:Nat}{k:IntKind}{v u:Value}{lo:Nat}(hk:(tab T).k=.slice e)(he:A1 (tab e).k=false)(hv:Rep g (.sref i off len cap) v)(hu:Rep g (.int k lo) u)(bC:lo<=len)(bD:lo<cap):
  ∃r,(Instr.sliceAt T v (some u) none none).run P w=.ok r w/\Rep g (.sref i (off+lo*(tab e).size) (len-lo) (cap-lo)) r:=by
 obtain⟨b,hb,rfl⟩:=hv
 obtain rfl:=B4 hu
 refine⟨_,?_,KE (len:=len-lo) (cap:=cap-lo) (off:=off+lo*(tab e).size) hb⟩
 have hu:=AB ht hk
 have c1:(0:Int)<=(lo:Int):=by omega
 have c2:(lo:Int)<=(len:Int):=by omega
 have c3:¬cap=lo:=by omega
 simp only[Option.map_some,Instr.sliceAt,Instr.slice,Instr.sliceBounds,Instr.sliceBound,asIntOf,Sem.run_bind,Sem.run_pure,Result.andThen_ok,run_underlying hu,c1,c2,and_self,if_true,Ay (ht e) (Ae he),Int.toNat_natCast,c3,if_false,Bu]
theorem NW{g:G}{w:World}{T e i off len cap:Nat}{k:IntKind}{v u:Value}{hi:Nat}(hk:(tab T).k=.slice e)(he:A1 (tab e).k=false)(hv:Rep g (.sref i off len cap) v)(hu:Rep g (.int k hi) u)(bG:hi<=cap):
  ∃r,(Instr.sliceAt T v none (some u) none).run P w=.ok r w/\Rep g (.sref i off hi cap) r:=by
 obtain⟨b,hb,rfl⟩:=hv
 obtain rfl:=B4 hu
 refine⟨_,?_,KE (len:=hi) (cap:=cap) (off:=off) hb⟩
 have hu:=AB ht hk
 have c1:(0:Int)<=(hi:Int):=by omega
 have c2:(hi:Int)<=(cap:Int):=by omega
 simp only[Instr.sliceAt,Instr.slice,Instr.sliceBounds,Instr.sliceBound,asIntOf,Sem.run_bind,Sem.run_pure,Result.andThen_ok,run_underlying hu,c1,c2,and_self,if_true,Ay (ht e) (Ae he),Int.toNat_natCast,Nat.sub_zero,Nat.zero_mul]
 congr 1
 split<;>simp[Addr.add]
variable {N:Nat}{S0:Sig}
theorem mo_cutL{t T ty e i off len cap:Nat}{k:IntKind}{x y:Operand}{lo:Nat}{pos:String}{after:Array Edge}{f:Bool}{l:List (Bool×Oper)}
  (h:MO P ro n ops N S0 Q df l ((t,.sref i (off+lo*(tab e).size) (len-lo) (cap-lo))::γ) O)
  (aj:t<n) (hk:(tab T).k=.slice e) (he:A1 (tab e).k=false) (h1:ev γ x=.sref i off len cap) (h2:ev γ y=.int k lo) (bC:lo<=len) (bD:lo<cap) :
  MO P ro n ops N S0 Q df ((f,⟨some t,.slice T x (some y) none none,ty,pos,after,none⟩)::l) γ O:=by
 refine .inl ⟨_,⟨by simp[Ap,aj],.inl ⟨rfl,(fun c e=>by cases e),Aa (fun c e=>by cases e),fun U' hU g w a hs hT=>?_⟩⟩,h⟩
 have hx:=Ai hT x
 have hy:=Ai hT y
 rw[Bo (o:=⟨some t,.slice T x (some y) none none,ty,pos,after,none⟩) (by simp[Op.operands]),h1]at hx
 rw[Bo (o:=⟨some t,.slice T x (some y) none none,ty,pos,after,none⟩) (by simp[Op.operands]),h2]at hy
 obtain⟨r,h3,h4⟩:=NV (w:=w) ht hk he hx hy bC bD
 exact⟨g,w,r,by simp only[execOp,Option.map_some,Option.map_none,Sem.run_bind,h3,Result.andThen_ok,Sem.run_pure],.refl g,hs,h4⟩
theorem QO{t T ty e i off len cap:Nat}{k:IntKind}{x y:Operand}{hi:Nat}{pos:String}{after:Array Edge}{f:Bool}{l:List (Bool×Oper)}
  (h:MO P ro n ops N S0 Q df l ((t,.sref i off hi cap)::γ) O)
  (aj:t<n) (hk:(tab T).k=.slice e) (he:A1 (tab e).k=false) (h1:ev γ x=.sref i off len cap) (h2:ev γ y=.int k hi) (bG:hi<=cap) :
  MO P ro n ops N S0 Q df ((f,⟨some t,.slice T x none (some y) none,ty,pos,after,none⟩)::l) γ O:=by
 refine .inl ⟨_,⟨by simp[Ap,aj],.inl ⟨rfl,(fun c e=>by cases e),Aa (fun c e=>by cases e),fun U' hU g w a hs hT=>?_⟩⟩,h⟩
 have hx:=Ai hT x
 have hy:=Ai hT y
 rw[Bo (o:=⟨some t,.slice T x none (some y) none,ty,pos,after,none⟩) (by simp[Op.operands]),h1]at hx
 rw[Bo (o:=⟨some t,.slice T x none (some y) none,ty,pos,after,none⟩) (by simp[Op.operands]),h2]at hy
 obtain⟨r,h3,h4⟩:=NW (w:=w) ht hk he hx hy bG
 exact⟨g,w,r,by simp only[execOp,Option.map_some,Option.map_none,Sem.run_bind,h3,Result.andThen_ok,Sem.run_pure],.refl g,hs,h4⟩
omit ht in
theorem JG{g:G}{b:Nat}{vs:List Value}: ∀(l:List UInt8) (k:Nat),(∀j x,l[j]? = some x->vs[k+j]? = some (.int .u8 (x.toNat:Int)))->RepE (g.addImm b vs) b 1 k (l.map fun x=>[D.int .u8 (x.toNat:Int)])
 |[],_,_=>trivial
 | x::l,k,h=>by
  refine⟨⟨rfl,⟨_,?_,rfl⟩,trivial⟩,JG l (k+1) fun j y hj=>?_⟩
  ·simp only[G.addImm,if_true];have:=h 0 x rfl;simpa using this
  ·have:=h (j+1) y (by simpa using hj)
   rw[show k+1+j=k+(j+1) by omega];exact this
theorem PN{t T T' ty e:Nat}{x:Operand}{s:List UInt8}{pos:String}{after:Array Edge}
  (h:DOps P ro n ops Q rest ⟨(t,.slice (s.map fun b=>[D.int .u8 (b.toNat:Int)]) .no)::γ,O,df⟩) (aj:t<n) (hk:(tab T).k=.str) (aO:(tab T').k=.slice e) (a8:(tab e).k=.int .u8) (h1:ev γ x=.str s) :
  DOps P ro n ops Q (⟨some t,.convert T T' x,ty,pos,after,none⟩::rest) ⟨γ,O,df⟩:=by
 refine By (fun d U'=>d=.slice (s.map fun b=>[D.int .u8 (b.toNat:Int)]) .no/\U'=O) rfl (fun c e=>by cases e) (Aa fun c e=>by cases e) (by simp[Ap,aj]) ?_
  (fun d U' ⟨a2,a3⟩=>by subst a2 a3;exact h)
 intro g w a hs hT
 have aC:=Ai hT x
 rw[h1]at aC
 have hv:a.eval x=.string ⟨s.toArray⟩:=aC
 have ae:=run_bytes_of_string (P:=P) w T T' e ⟨s.toArray⟩ (FG ht hk) (AB ht aO) (Ks ht a8)
 have bk:=grownCap_ge w (ByteArray.size ⟨s.toArray⟩) 0 e
 generalize grownCap w (ByteArray.size ⟨s.toArray⟩) 0 e=cap at ae bk
 have hsz:(ByteArray.size ⟨s.toArray⟩)=s.length:=by simp[ByteArray.size]
 have ak:=hs.drew.addImm (bytesRow ⟨s.toArray⟩ cap).toList e ((bytesRow ⟨s.toArray⟩ cap).size,(bytesRow ⟨s.toArray⟩ cap).size+1)
 have aN:=G.addImm_le hs.drew (bytesRow ⟨s.toArray⟩ cap).toList
 rw[Array.toArray_toList]at ak
 have bj:∀j x,s[j]? = some x->(bytesRow ⟨s.toArray⟩ cap).toList[0+j]? = some (.int .u8 (x.toNat:Int)):=fun j x hj=>by
  have bX:j<s.length:=(List.getElem?_eq_some_iff.1 hj).1
  simp only[bytesRow,Nat.zero_add,Array.toList_append,Array.toList_map]
  rw[List.getElem?_append_left (by simpa using bX),List.getElem?_map,hj];rfl
 refine⟨_,_,.slice (some ⟨w.heap.size,0,none⟩) s.length cap,_,O,?_,aN,ak,?_,rfl,rfl⟩
 ·simp only[execOp,hv]
  rw[Sem.run_bind,ae,hsz]
  rfl
 ·refine⟨some ⟨w.heap.size,0,none⟩,cap,by simp,by rw[List.length_map];omega,.inr ⟨1,w.heap.size,0,rfl,JG s 0 bj⟩,trivial⟩
end
def isAl(o:Oper):Option (Nat×Nat):=match o with
 |⟨some t,.alloc T,_,_,_,none⟩=>some (t,T)
 |_=>none
theorem Iw{o:Oper}{t T:Nat}(h:isAl o=some (t,T)): ∃ty pos af,o=⟨some t,.alloc T,ty,pos,af,none⟩:=by
 unfold isAl at h
 split at h
 ·cases h;exact⟨_,_,_,rfl⟩
 ·cases h
section
variable (P:Program)(ro:Ro)(n:Nat)(ops:Array Oper)(N:Nat)(S0:Sig)(Q:DX->St->Prop)(df:List DDf)(tab:Nat->Ty)
def Step2(e:Bool)(o:Oper)(γ:Fr)(O:Sig)(K:Fr->Sig->Prop):Prop:=
 match isAl o with
 |some (t,T)=> ∀k,O k=none->K ((t,.ptr k 0)::γ) (O.set k (.cells (tab T).zero))
 |none=>(∃d,Calm P n ops N S0 γ o d/\K (putD o.dst d γ) O) \/
  (e=true/\Eff P ro n ops df γ O o (fun d U'=>Sub S0 U'/\K (putD o.dst d γ) U') (fun d U'=> ∀V',Q (.panic d) ⟨V',U',df⟩))
def MOps2(E:List Nat):List Nat->Fr->Sig->Prop
 |[],γ,O=>DOps P ro n ops Q [] ⟨γ,O,df⟩
 |i::r,γ,O=> ∃o,ops[i]? = some o/\Step2 P ro n ops N S0 Q df tab (E.contains i) o γ O (MOps2 E r)
end
section
variable {P:Program}{ro:Ro}{n:Nat}{ops:Array Oper}{N:Nat}{S0:Sig}{Q:DX->St->Prop}{df:List DDf}{E:List Nat}{tab:Nat->Ty}
theorem Step2.mono{e:Bool}{o:Oper}{γ V':Fr}{O:Sig}{K K':Fr->Sig->Prop}(h:Step2 P ro n ops N S0 Q df tab e o γ O K)(aX:Alike γ V')(hK:∀γ V' O,Alike γ V'->K γ O->K' V' O):Step2 P ro n ops N S0 Q df tab e o V' O K':=by
 unfold Step2 at h⊢
 split at h
 ·exact fun k hk=>hK _ _ _ (aX.put (some _) _) (h k hk)
 ·rcases h with⟨d,h2,h3⟩|⟨h1,h2⟩
  ·exact .inl ⟨d,h2.congr fun t _=>aX t,hK _ _ _ (aX.put _ _) h3⟩
  ·exact .inr ⟨h1,h2.congr (fun t _=>aX t) fun d U' ⟨h3,h4⟩=>⟨h3,hK _ _ _ (aX.put _ _) h4⟩⟩
theorem MOps2.alike: ∀(l:List Nat) {γ V':Fr}{O:Sig},Alike γ V'->MOps2 P ro n ops N S0 Q df tab E l γ O->MOps2 P ro n ops N S0 Q df tab E l V' O
 |[],_,_,_,h,k=>C0 h k
 |i::r,_,_,_,h,⟨o,ho,k⟩=>⟨o,ho,k.mono h fun _ _ _ h' k'=>MOps2.alike r h' k'⟩
theorem set_comm(O:Sig){k k':Nat}(h:k≠k')(x y:DObj):(O.set k x).set k' y=(O.set k' y).set k x:=by
 funext j
 simp only[Sig.set]
 by_cases h1:j=k'<;>by_cases h2:j=k<;>simp_all
def allOK(tab:Nat->Ty)(n:Nat)(ops:Array Oper):Bool:=ops.all fun o=>match isAl o with
 |some (t,T)=>decide (t<n)&&!A1 (tab T).k
 |none=>true
end
section
variable {P:Program}{ro:Ro}{n:Nat}{ops:Array Oper}{Q:DX->St->Prop}{rest:List Oper}{tab:Nat->Ty}{γ:List (Nat×D)}{O:Sig}{df:List DDf}
variable (ht:B2 P tab)
include ht
theorem V5{t T T' ty e:Nat}{x:Operand}{s:List UInt8}{pos:String}{after:Array Edge}{gd:Option (Nat×Bool)}
  (h:DOps P ro n ops Q rest ⟨(t,.str s)::γ,O,df⟩) (hw:Ax ops γ ⟨some t,.convert T T' x,ty,pos,after,gd⟩=some true) (aj:t<n) (hk:(tab T).k=.slice e) (aO:(tab T').k=.str) (a8:(tab e).k=.int .u8) (h1:esOf (ev γ x)=some (s.map fun b=>[D.int .u8 (b.toNat:Int)])) :
  DOps P ro n ops Q (⟨some t,.convert T T' x,ty,pos,after,gd⟩::rest) ⟨γ,O,df⟩:=by
 refine By (fun d U'=>d=.str s/\U'=O) hw (fun c e=>by cases e) (Aa fun c e=>by cases e) (by simp[Ap,aj]) ?_
  (fun d U' ⟨a2,a3⟩=>by subst a2 a3;exact h)
 intro g w a hs hT
 have aC:=Ai hT x
 obtain⟨xa,xc,q1,q2,q3⟩:=BT h1 aC
 obtain⟨vs,v1,v2,v3⟩:=BL hs (sz:=1) (fun c hc=>by obtain⟨b,_,rfl⟩:=List.mem_map.1 hc;rfl) q3
 have ae:(convert T T' (a.eval x)).run P w=.ok (.string ⟨s.toArray⟩) w:=by
  rw[q1]
  cases xa with
  | none =>
   have bO:s=[]:=by
    rcases v3 with h|⟨b,o,h,_⟩
    ·simpa using h
    ·cases h
   subst bO
   exact run_convert_bytes_nil w T e (AB ht hk) (Ks ht a8) _ _ T' (FG ht aO)
  | some ad =>
   rw[List.length_map]
   refine run_convert_bytes_back w T T' e ad xc s (AB ht hk) (Ks ht a8) (FG ht aO) fun j hj=>?_
   rcases v3 with h|⟨b,o,h,hc⟩
   ·rw[List.length_map]at h;omega
   ·cases h
    have aT:∀l:List UInt8,(l.map fun b=>[D.int .u8 (b.toNat:Int)]).flatten=l.map fun b=>D.int .u8 (b.toNat:Int):=fun l=>by
     induction l with
     |nil=>rfl
     |cons y l ih=>rw[List.map_cons,List.flatten_cons,ih];rfl
    rw[aT]at v1
    have hg:=RepL.get v1 j
    rw[List.getElem?_map,List.getElem?_eq_getElem hj]at hg
    have bE:j<vs.length:=by rw[v2,List.length_map];omega
    rw[List.getElem?_eq_getElem bE]at hg
    simp only[Option.map_some]at hg
    have:=hc j _ (List.getElem?_eq_getElem bE)
    rw[show vs[j]=.int .u8 ((s[j]).toNat:Int) from B4 hg]at this
    have aI:(⟨b,o,none⟩:Addr).add j=⟨b,o+j,none⟩:=by unfold Addr.add;split<;>simp_all
    rw[aI]
    exact this
 exact⟨g,w,.string ⟨s.toArray⟩,.str s,O,by simp only[execOp];rw[Sem.run_bind,ae];rfl,.refl g,hs,rfl,rfl,rfl⟩
end
def byteD(b:UInt8):List D:=[D.int .u8 (b.toNat:Int)]
@[simp] theorem byteD_len(b:UInt8):(byteD b).length=1:=rfl
theorem HZ(l:List UInt8):Lib.strCells ⟨l.toArray⟩=l.map fun b=>Value.int .u8 (b.toNat:Int):=by simp[Lib.strCells]
theorem PR(l:List UInt8):ByteArray.size ⟨l.toArray⟩=l.length:=by simp[ByteArray.size]
section
variable {P:Program}{T T' ty e:TypeId}{i:TypeInfo}{z:Value}(ht:P.underlying T=some (.slice e))(aY:P.underlying T'=some .string)(hi:P.info? e=some i)
include ht aY hi
theorem EF{w w2:World}{base:Option Addr}{n cap:Nat}{s:ByteArray}(ag:n+s.size<=cap)
  (aG:∀a,base=some a->(storeCells (a.add (n*i.size)) (Lib.strCells s)).run P w=.ok () w2) (bQ:base=none->w2=w) :
  (Builtin.append_ #[T,T'] ty #[.slice base n cap,.string s]).run P w=.ok (.slice base (n+s.size) cap) w2:=by
 have bI:=Lib.run_firstCells_string (P:=P) w i.size s
 cases base with
 |none=>simp[Builtin.append_,run_underlying ht,run_underlying aY,sizeOf,typeInfo,hi,Builtin.lenOf,ag,bI,bQ rfl]
 |some a=>simp[Builtin.append_,run_underlying ht,run_underlying aY,sizeOf,typeInfo,hi,Builtin.lenOf,ag,bI,aG a rfl]
theorem Hw(hz:i.zero=some z){w:World}{base:Option Addr}{n cap:Nat}{s:ByteArray}{olds:List Value}
  (cb:(Builtin.firstCells i.size n (.slice base n cap)).run P w.drew=.ok olds.toArray w.drew)
  (hg:cap<n+s.size) (cp:n+s.size<=9223372036854775807) (bm:(n+s.size)*i.bytes<=140737488355328) :
  ∃c,n+s.size<=c/\(Builtin.append_ #[T,T'] ty #[.slice base n cap,.string s]).run P w =
   .ok (.slice (some ⟨w.heap.size,0,none⟩) (n+s.size) c) { w.drew with heap:=w.heap.push (.cells (olds++Lib.strCells s++(Builtin.zeroCells z.cells (c-(n+s.size))).toList).toArray e (0,0)) }:=by
 refine⟨grownCap w (n+s.size) cap e,grownCap_ge w (n+s.size) cap e,?_⟩
 have bH:=Lib.run_firstCells_string (P:=P) w.drew i.size s
 have hn:¬(n+s.size<=cap):=by omega
 have bq:¬(9223372036854775807<((n:Int)+(s.size:Int))):=by omega
 have hf:=growslice_fits hg bm
 have br:¬(281474976710656<Builtin.nextslicecap (n+s.size) cap*i.bytes):=by omega
 simp[Builtin.append_,run_underlying ht,run_underlying aY,sizeOf,typeInfo,zeroValue,hi,hz,Builtin.lenOf,hn,bq,br,Question.forced,cb,bH,newRow,grownCap]
 have e':∀Z:Array Value,olds.toArray++((Lib.strCells s).toArray++Z)=(olds++(Lib.strCells s++Z.toList)).toArray:=fun Z=>by apply Array.ext';simp
 rw[e']
 rfl
end
inductive RW where
 |nil
 |full (es:List (List D))
 |row (i cap:Nat) (rest:List D)
def RW.d:RW->Nat->D
 |.nil,_=>.nils
 |.full es,_=>.slice es .clip
 |.row i cap _,n=>.sref i 0 n cap
def RW.is:RW->Nat->Prop
 |.row i _ _,j=>j=i
 |_,_=>False
def RWAt(O:Sig)(sz:Nat):RW->List (List D)->Prop
 |.row i cap rest,es=>O i=some (.cells (es.flatten++rest))/\cap*sz<=(es.flatten++rest).length/\es.length<=cap /\ ∀e∈es,e.length=sz
 |.full es0,es=>es=es0 /\ ∀e∈es,e.length=sz
 |.nil,es=>es=[]
def Jt(P:Program)(O:Sig)(sz:Nat)(d:D)(new:List (List D)):Prop:= ∀g w v,Sim P g O w->Rep g d v->∃xa xc,v=.slice xa new.length xc/\new.length<=xc /\ ∃us,RepL g new.flatten us/\us.length=new.length*sz/\(new.length=0 \/ ∃b o,xa=some ⟨b,o,none⟩ /\ ∀j v,us[j]? = some v->w.cell? ⟨b,o+j,none⟩=some v)
theorem RWAt.len{O:Sig}{sz:Nat}{r:RW}{es:List (List D)}(h:RWAt O sz r es): ∀e∈es,e.length=sz:=by
 cases r with
 |row i cap rest=>exact h.2.2.2
 |nil=>obtain rfl:es=[]:=h;simp
 |full es0=>exact h.2
theorem RWAt.keep{O U':Sig}{sz:Nat}{r:RW}{es:List (List D)}(h:RWAt O sz r es)(hk:∀j o,O j=some o->r.is j->U' j=some o):RWAt U' sz r es:=by
 cases r with
 |row i cap rest=>exact⟨hk _ _ h.1 rfl,h.2⟩
 |nil=>exact h
 |full es0=>exact h
theorem RWAt.cells{O:Sig}{sz:Nat}{r:RW}{es:List (List D)}(h:RWAt O sz r es){j:Nat}(hj:r.is j): ∃cs,O j=some (.cells cs):=by
 cases r with
 |row i cap rest=>cases hj;exact⟨_,h.1⟩
 |nil=>exact hj.elim
 |full es0=>exact hj.elim
section
variable {P:Program}{O:Sig}{sz:Nat}
theorem Hl{d:D}{new:List (List D)}(h:esOf d=some new)(hl:∀c∈new,c.length=sz):Jt P O sz d new:=fun g w v hs hr=>by
 obtain⟨xa,xc,q1,q2,q3⟩:=BT h hr
 exact⟨xa,xc,q1,q2,BL hs hl q3⟩
theorem KA{i off cap:Nat}{pre rest:List D}{es:List (List D)}(hi:O i=some (.cells (pre++(es.flatten++rest))))(hp:pre.length=off)(hl:∀c∈es,c.length=sz)(hc:es.length<=cap):Jt P O sz (.sref i off es.length cap) es:=fun g w v hs hr=>by
 obtain⟨b,hb,rfl⟩:=hr
 obtain⟨b',vs,ty,aq,aa,hr⟩:=hs.obj i _ hi
 obtain rfl:b'=b:=by rw[hb]at aq;cases aq;rfl
 obtain⟨u0,v0,e1,e2,e3⟩:=hr.split
 obtain⟨u,v',f1,f2,f3⟩:=e3.split
 refine⟨_,cap,rfl,hc,u,f2,by rw[RepL.length f2,Av hl],.inr ⟨b',off,rfl,fun j x hx=>?_⟩⟩
 have hj:j<u.length:=(List.getElem?_eq_some_iff.1 hx).1
 simp only[World.cell?, aa]
 have:vs.toList[off+j]? = some x:=by
  rw[e1,List.getElem?_append_right (by rw[RepL.length e2,hp];omega),RepL.length e2,hp,Nat.add_sub_cancel_left,f1,List.getElem?_append_left hj];exact hx
 simpa using this
theorem RWAt.src{r:RW}{es:List (List D)}(h:RWAt O sz r es):Jt P O sz (r.d es.length) es:=by
 cases r with
 |row i cap rest=>exact KA (pre:=[]) h.1 rfl h.2.2.2 h.2.2.1
 |nil=>obtain rfl:es=[]:=h;exact Hl rfl (by simp)
 |full es0=>obtain⟨rfl,h⟩:=h;exact Hl rfl h
end
section
variable {P:Program}{ro:Ro}{n:Nat}{ops:Array Oper}{Q:DX->St->Prop}{rest:List Oper}{tab:Nat->Ty}{γ:List (Nat×D)}{O:Sig}{df:List DDf}
variable (ht:B2 P tab)
include ht
theorem DZ{t T T' ty e e' sz:Nat}{s x:Operand}{pos:String}{after:Array Edge}{es new:List (List D)}{r:RW}
  (aj:t<n) (hk:(tab T).k=.slice e) (aO:(tab T').k=.slice e') (he:A1 (tab e).k=false) (hsz:(tab e).size=sz) (h1:ev γ s=r.d es.length) (hm:RWAt O sz r es) (h2:Jt P O sz (ev γ x) new)
  (hlen':∀c∈new,c.length=sz) (aT:∀c∈new,BC c=true)
  (hb:(es.length+new.length)*(tab e).bytes<=140737488355328) (hm2:es.length+new.length<=9223372036854775807)
  (h:∀r' U',RWAt U' sz r' (es++new)->(∀j o,O j=some o->¬r.is j->U' j=some o /\ ¬r'.is j)->(new=[]/\r'=r \/ ∃i c rest,r'=.row i c rest)->DOps P ro n ops Q rest ⟨(t,r'.d (es.length+new.length))::γ,U',df⟩) :
  DOps P ro n ops Q (⟨some t,(cA s x T T'),ty,pos,after,none⟩::rest) ⟨γ,O,df⟩:=by
 subst hsz
 refine By (fun d U'=> ∃r',RWAt U' (tab e).size r' (es++new)/\(∀j o,O j=some o->¬r.is j->U' j=some o /\ ¬r'.is j)/\(new=[]/\r'=r \/ ∃i c rest,r'=.row i c rest)/\d=r'.d (es.length+new.length)) rfl (fun c e=>by cases e) (AZ rfl rfl) (by simp[Ap,aj]) ?_
  (fun d U' ⟨r',a1,a2,a4,a3⟩=>by subst a3;exact h r' U' a1 a2 a4)
 intro g w a hs hT
 have ar:=Ai hT s
 have aC:=Ai hT x
 rw[h1]at ar
 obtain⟨base,cap,r1,r2,us,r3,r4,r5⟩:=hm.src g w _ hs ar
 obtain⟨xa,xc,q1,q2,news,v1,v2,v3⟩:=h2 g w _ hs aC
 obtain⟨inf,z,t1,t2,t3,t4,t5,t6,t7⟩:=Bd ht hk aO he
 have aS:=hm.len
 have aw:∀c∈es++new,c.length=(tab e).size:=fun c hc=>(List.mem_append.1 hc).elim (aS c) (hlen' c)
 by_cases aB:new=[]
 ·subst aB
  have bS:news=[]:=List.length_eq_zero_iff.1 (by rw[v2];simp)
  refine⟨g,w,a.eval s,_,O,Aq ?_,.refl g,hs,ar,r,by rw[List.append_nil];exact hm,fun j o hj hn=>⟨hj,hn⟩,.inl ⟨rfl,rfl⟩,by simp⟩
  rw[r1,q1]
  have:=Bb (ty:=ty) t1 t2 t3 (w:=w) (w2:=w) (base:=base) (xa:=xa) (n:=es.length) (cap:=cap) (m:=0) (xc:=xc) (news:=[]) (Al (by simp) (.inl rfl)) (by omega) (fun b _=>by simp[storeCells,Sem.run]) (fun _=>rfl)
  simpa using this
 have bR:0<new.length:=List.length_pos_iff.2 aB
 by_cases ag:es.length+new.length<=cap
 ·
  cases r with
  |nil=>
   obtain rfl:es=[]:=hm
   have e1:a.eval s=.slice none 0 0:=ar
   rw[e1]at r1;injection r1 with f1 f2 f3
   simp only[List.length_nil]at ag;omega
  |full es0=>
   obtain⟨rfl,hl⟩:=hm
   obtain⟨a',c',e1,e2,_,e3⟩:=ar
   rw[e1]at r1;injection r1 with f1 f2 f3
   simp only at e3;omega
  | row i cap' rest' =>
   obtain⟨m1,m2,m3,m4⟩:=hm
   obtain⟨b,aq,hv⟩:=ar
   rw[hv]at r1;injection r1 with f1 f2 f3
   subst f3
   subst f1
   obtain⟨b2,vs,ty',aV,aa,hr⟩:=hs.obj i _ m1
   obtain rfl:b2=b:=by rw[aq]at aV;cases aV;rfl
   have aZ:=RepL.length hr
   simp only[Array.length_toList]at aZ
   have co:=Av m4
   have bH:=Av hlen'
   have bS:=RepL.length v1
   simp only[List.length_append]at m2 aZ
   have bd:(es.length+new.length)*(tab e).size<=cap'*(tab e).size:=Nat.mul_le_mul_right _ ag
   rw[Nat.add_mul]at bd
   have aG:=Bw (P:=P) news 0 w vs aa (CJ v1 (F2 aT)) (o:=es.length*(tab e).size) (by omega)
   have ae:=Bb (ty:=ty) t1 t2 t3 (w:=w) (base:=some ⟨b2,0,none⟩) (xa:=xa) (n:=es.length) (cap:=cap') (m:=new.length) (xc:=xc) (news:=news) (w2:=if news=[] then w else setB w b2 (.cells (Ba vs (0+es.length*(tab e).size) news) ty' (0,0)))
    (Al (by rw[t5];exact v2) v3) ag (fun a ha=>by cases ha;rw[Bu,t5];simpa using aG) (fun h=>by cases h)
   have aB:RepL g (es.flatten++(new.flatten++rest'.drop (new.length*(tab e).size))) (Ba vs (0+es.length*(tab e).size) news).toList:=by
    refine AF (by simp only[List.length_append,List.length_drop,Array.length_toList,Cd];omega) fun j d v h1 h2=>?_
    have ah:(Ba vs (0+es.length*(tab e).size) news)[j]? = some v:=by simpa using h2
    rw[CB _ _ _ _ (by omega)]at ah
    simp only[List.getElem?_append]at h1
    have hg:=RepL.get hr j
    by_cases c1:j<es.flatten.length
    ·rw[if_neg (by omega)]at ah
     rw[if_pos c1]at h1
     rw[List.getElem?_append_left c1,h1]at hg
     simp only[Array.getElem?_toList,ah,Option.getD_some]at hg
     exact hg
    ·rw[if_neg c1]at h1
     by_cases c2:j-es.flatten.length<new.flatten.length
     ·rw[if_pos (by omega)]at ah
      rw[if_pos c2]at h1
      have:=RepL.get v1 (j-es.flatten.length)
      rw[h1,show j-es.flatten.length=j-(0+es.length*(tab e).size) by omega,ah]at this
      exact this
     ·rw[if_neg (by omega)]at ah
      rw[if_neg c2,List.getElem?_drop]at h1
      rw[List.getElem?_append_right (by omega),show j-es.flatten.length=new.length*(tab e).size+(j-es.flatten.length-new.flatten.length) by omega,h1]at hg
      simp only[Array.getElem?_toList,ah,Option.getD_some]at hg
      exact hg
   have bp:es.flatten++(new.flatten++rest'.drop (new.length*(tab e).size))=(es++new).flatten++rest'.drop (new.length*(tab e).size):=by simp
   refine⟨g,_,.slice (some ⟨b2,0,none⟩) (es.length+new.length) cap',.sref i 0 (es.length+new.length) cap',O.set i (.cells ((es++new).flatten++rest'.drop (new.length*(tab e).size))),Aq (by rw[hv,q1];exact ae),.refl g,?_,Ff aq,.row i cap' (rest'.drop (new.length*(tab e).size)),⟨w6 ..,?_,by simpa using ag,aw⟩,fun j o hj hn=>⟨by rw[w7 _ _ hn];exact hj,hn⟩,.inr ⟨_,_,_,rfl⟩,rfl⟩
   ·have ay:=hs.setObj (i:=i) (b:=b2) (ds':=es.flatten++(new.flatten++rest'.drop (new.length*(tab e).size))) (vs':=Ba vs (0+es.length*(tab e).size) news) (ty:=ty') m1 aq aB ⟨vs,aa⟩
    rw[bp]at ay
    by_cases hne:news=[]
    ·rw[if_pos hne]
     subst hne
     have bN:setB w b2 (.cells (Ba vs (0+es.length*(tab e).size) []) ty' (0,0))=w:=by
      obtain⟨ap,bk⟩:=Array.getElem?_eq_some_iff.1 aa
      have e:w.heap.setIfInBounds b2 (.cells vs ty' (0,0))=w.heap:=by
       apply Array.ext (by simp);intro k h1 h2;by_cases hk:b2=k
       ·subst hk;simp[bk]
       ·rw[Array.getElem_setIfInBounds_ne _ hk]
      show { w with heap:=w.heap.setIfInBounds b2 (.cells vs ty' (0,0)) }=w
      rw[e]
     rw[bN]at ay;exact ay
    ·rw[if_neg hne];exact ay
   ·simp only[List.flatten_append,List.length_append,List.length_drop];omega
 ·
  obtain⟨c,hc,ae⟩:=Dg (ty:=ty) t1 t2 t3 t4 (w:=w) (base:=base) (xa:=xa) (n:=es.length) (cap:=cap) (m:=new.length) (xc:=xc) (olds:=us) (news:=news)
   (Al (by rw[t5];exact r4) r5) (Al (by rw[t5];exact v2) v3) (by omega) hm2 (by rw[t6];exact hb)
  obtain⟨i',ba,bK⟩:=hs.fresh
  let zs:=(Builtin.zeroCells z.cells (c-(es.length+new.length))).toList
  have bb:RepL (g.bind i' w.heap.size) ((es++new).flatten++zs.map B7) (us++news++zs):=by
   rw[List.flatten_append]
   exact((RepL.mono (G.bind_le ba) _ r3).append (RepL.mono (G.bind_le ba) _ v1)).append (BM _ _)
  have bc:ObjRep P (g.bind i' w.drew.heap.size) { w.drew with heap:=w.drew.heap.push (.cells (us++news++zs).toArray e (0,0)) } i' (.cells ((es++new).flatten++zs.map B7)):=
   ⟨w.drew.heap.size,(us++news++zs).toArray,e,by simp[G.bind],by exact Array.getElem?_push_size,by simpa using bb⟩
  have ak:=hs.drew.newObj ba bK rfl bc
  refine⟨_,_,_,.sref i' 0 (es.length+new.length) c,_,Aq (by rw[r1,q1];exact ae),G.bind_le ba,ak,Ff (by simp[G.bind]),.row i' c (zs.map B7),⟨w6 ..,?_,by simpa using hc,aw⟩,fun j o hj _=>?_,.inr ⟨_,_,_,rfl⟩,rfl⟩
  ·have hz:zs.length=(c-(es.length+new.length))*(tab e).size:=by simp[zs,size_zeroCells,t7]
   simp only[List.length_append,List.length_map,hz,Av aw,<-Nat.add_mul]
   refine Nat.le_of_eq ?_
   congr 1;omega
  ·have hne:j≠i':=fun e=>by rw[e,bK]at hj;cases hj
   exact⟨by rw[w7 _ _ hne];exact hj,hne⟩
end
end Go.DL
