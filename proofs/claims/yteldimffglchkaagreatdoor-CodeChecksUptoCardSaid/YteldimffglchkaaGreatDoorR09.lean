/- A part of the proof. -/
import Derived.Test.YteldimffglchkaaGreatDoorR08
import Derived.Test.YteldimffglchkaaGreatDoorR06
import Derived.Test.YteldimffglchkaaGreatDoorR07
import Derived.Laws.BytesArg
import Derived.Lib.AppendStr
set_option linter.all false
namespace Go.DL
open Go
section
variable (P:Program)(ro:Ro)(n:Nat)(ops:Array Oper)(N:Nat)(Q:DX->St->Prop)(df:List DDf)
def MOpsI (E C K:List Nat):List Nat->(Sig->Prop)->Fr->Sig->Prop
  |[],_,γ,O=>DOps P ro n ops Q [] ⟨γ,O,df⟩
  | i::r,B,γ,O => ∃ o,ops[i]? = some o /\
    ((∃ d,(∀ s,(C.contains i=true->B s)->Calm P n ops N s γ o d)/\MOpsI E C K r B (putD o.dst d γ) O) \/
     (E.contains i=true/\Eff P ro n ops df γ O o (fun d U'=> ∃B1:Sig->Prop,B1 U'/\(K.contains i=false->B1=B)/\MOpsI E C K r B1 (putD o.dst d γ) U') (fun d U'=> ∀V',Q (.panic d) ⟨V',U',df⟩)))
def MOI:List (Bool × Bool × Bool × Oper)->(Sig->Prop)->Fr->Sig->Prop
  |[],_,γ,O=>DOps P ro n ops Q [] ⟨γ,O,df⟩
  | (e,c,k,o)::r,B,γ,O =>
    (∃ d,(∀ s,(c=true->B s)->Calm P n ops N s γ o d)/\MOI r B (putD o.dst d γ) O) \/
     (e=true/\Eff P ro n ops df γ O o (fun d U'=> ∃B1:Sig->Prop,B1 U'/\(k=false->B1=B)/\MOI r B1 (putD o.dst d γ) U') (fun d U'=> ∀V',Q (.panic d) ⟨V',U',df⟩))
end
section
variable {P:Program}{ro:Ro}{n:Nat}{ops:Array Oper}{N:Nat}{B:Sig->Prop}{Q:DX->St->Prop}{df:List DDf}{E C K:List Nat}{tab:Nat->Ty}
theorem MOpsI.alike: ∀(l:List Nat) {B:Sig->Prop}{γ V':Fr}{O:Sig},Alike γ V'->MOpsI P ro n ops N Q df E C K l B γ O->MOpsI P ro n ops N Q df E C K l B V' O
 |[],_,_,_,_,h,k=>C5 h k
 |i::r,_,_,_,_,h,⟨o,ho,k⟩=>⟨o,ho,(match k with
  |.inl ⟨d,h2,h3⟩=>.inl ⟨d,fun s hs=>(h2 s hs).congr fun t _=>h t,MOpsI.alike r (h.put _ _) h3⟩
  |.inr ⟨h1,h2⟩=>.inr ⟨h1,h2.congr (fun t _=>h t) fun d U' ⟨S1,h3,h5,h4⟩=>⟨S1,h3,h5,MOpsI.alike r (h.put _ _) h4⟩⟩)⟩
theorem IS{i:Nat}{oi:Oper}(hi:ops[i]? = some oi)(post:List Nat): ∀(pre:List Nat) (γ:Fr) (O:Sig),
  (∀x∈pre,E.contains x=false/\(K.contains i&&C.contains x)=false /\ ∃ox,ops[x]? = some ox/\oi.apart ops ox=true)->MOpsI P ro n ops N Q df E C K (pre++i::post) B γ O->MOpsI P ro n ops N Q df E C K (i::(pre++post)) B γ O
 |[],_,_,_,h=>h
 | x::pre,γ,O,hp,h=>by
  obtain⟨bt,bQ,ox,aH,bM⟩:=hp x (by simp)
  obtain⟨a1,a2,a3⟩:=Oper.apart_spec bM
  obtain⟨ox',aG,hx⟩:=h
  obtain rfl:ox'=ox:=by rw[aH]at aG;cases aG;rfl
  rcases hx with⟨d,hy,h⟩|⟨hE,_⟩
  ·obtain⟨oi',ah,hh⟩:=IS hi post pre _ O (fun y hy=>hp y (by simp[hy])) h
   obtain rfl:oi'=oi:=by rw[hi]at ah;cases ah;rfl
   refine⟨oi',hi,?_⟩
   rcases hh with⟨e,h2,h3⟩|⟨h1,h2⟩
   ·refine .inl ⟨e,fun s hs=>(h2 s hs).congr fun t ht=>Ai fun hd=>a3 t hd ht,ox',aH,.inl ⟨d,fun s hs=>(hy s hs).congr fun t ht=>(Ai fun hd=>a1 t hd ht).symm,?_⟩⟩
    exact MOpsI.alike _ (AF _ _ _ fun t p q=>a2 t p q) h3
   ·refine .inr ⟨h1,h2.congr (fun t ht=>Ai fun hd=>a3 t hd ht) fun e U' ⟨S1,h3,h5,h4⟩=>⟨S1,h3,h5,ox',aH,.inl ⟨d,?_,MOpsI.alike _ (AF _ _ _ fun t p q=>a2 t p q) h4⟩⟩⟩
    have bP:∀s,(C.contains x=true->B s)->Calm P n ops N s (putD oi'.dst e γ) ox' d:=fun s hs=>(hy s hs).congr fun t ht=>(Ai fun hd=>a1 t hd ht).symm
    cases hk:K.contains i with
    |false=>rw[h5 hk];exact bP
    |true=>
     rw[hk,Bool.true_and]at bQ
     exact fun s _=>bP s fun hc=>by rw[bQ]at hc;cases hc
  ·rw[bt]at hE;cases hE
theorem QG(hN:P.funcs.size=N){ord:List Nat}(hB:Dn ops E C K ord=true){g0:G}{rr:Rx}(hr:RoRep g0 ro rr): ∀(m:Nat) (r:List Nat) (listed:Array Bool) (B:Sig->Prop) (γ:Fr) (O:Sig),r.length=m->listed.size=ops.size->
  r=ord.filter (fun i=> !listed.getD i true)->Closed ops listed->MOpsI P ro n ops N Q df E C K r B γ O->B O->
   ∀(g:G) (w:World) (a:Act),g0.le g->SimS P g n ⟨γ,O,df⟩ a w->wpAnyIn (FX P rr) 0 P .any ops (Post P g0 n Q) m listed a w:=by
 unfold Dn at hB
 simp only[Bool.and_eq_true]at hB
 obtain⟨⟨ai,bb⟩,_⟩:=hB
 have ae:∀(r:List Nat) (listed:Array Bool),r=ord.filter (fun i=> !listed.getD i true)->∀i∈Region.ready .any ops listed,i∈r:=by
  intro r listed hf i hi
  obtain⟨h1,o,ho,_⟩:=mem_ready.1 hi
  have:=List.all_eq_true.1 bb i (by simpa using(Array.getElem?_eq_some_iff.1 ho).1)
  rw[hf,List.mem_filter]
  exact⟨by simpa using this,by rw[h1];rfl⟩
 intro m
 induction m with
 |zero=>
  intro r listed B γ O hl hsz hf aC h hC g w a hg hs
  obtain rfl:r=[]:=List.length_eq_zero_iff.1 hl
  refine⟨List.eq_nil_iff_forall_not_mem.2 fun i hi=>?_,?_⟩
  ·have:=ae [] listed hf i hi;cases this
  ·exact Post.le hg (h g w a rr (hr.mono hg) hs)
 | succ m ih =>
  intro r listed B γ O hl hsz hf aC h hC g w a hg hs
  obtain⟨y,t,rfl⟩:∃y t,r=y::t:=by cases r with|nil=>cases hl|cons y t=>exact⟨y,t,rfl⟩
  refine⟨fun he=>?_,fun i hi=>?_⟩
  ·exfalso
   obtain⟨l1,l2,ax,bC,hy,ck⟩:=List.filter_eq_cons_iff.1 hf.symm
   subst ax
   obtain⟨h1,_,_,o,ho,bl,_⟩:=Du l1 [] ai
   have:y∈Region.ready .any ops listed:=by
    refine mem_ready.2 ⟨by simpa using hy,o,ho,fun e hm hb=>?_⟩
    rcases bl e hm hb with h4|h4
    ·have h5:=bC _ h4
     simp only[Bool.not_eq_true,Bool.not_eq_false']at h5
     have ak:e.on<listed.size:=by
      have:e.on∈l1++y::l2:=by simp[h4]
      obtain⟨p1,p2,hp⟩:=List.append_of_mem this
      rw[hp]at ai
      obtain⟨_,_,_,o',aF,_⟩:=Du p1 [] ai
      rw[hsz];exact(Array.getElem?_eq_some_iff.1 aF).1
     simpa[ak] using h5
    ·cases h4
   rw[he]at this;cases this
  ·obtain⟨pre,post,aw⟩:=List.append_of_mem (ae _ listed hf i hi)
   rw[aw]at hf h hl
   obtain⟨l1',l2',ax,ba,bJ⟩:=List.filter_eq_append_iff.1 hf.symm
   obtain⟨m1,m2,aZ,bA,co,bI⟩:=List.filter_eq_cons_iff.1 bJ
   have aq:ord=(l1'++m1)++i::m2:=by rw[ax,aZ];simp
   rw[aq]at ai
   obtain⟨n1,_,n3,o,ho,bl,hx⟩:=Du (l1'++m1) [] ai
   obtain⟨bE,o',aF,aK⟩:=mem_ready.1 hi
   obtain rfl:o'=o:=by rw[ho]at aF;cases aF;rfl
   have aA:=IS ho post pre γ O (fun x be=>by
    have bu:x∈l1'++m1:=by
     have:x∈l1'.filter (fun i=> !listed.getD i true):=by rw[ba];exact be
     simp[(List.mem_filter.1 this).1]
    have bd:listed.getD x true=false:=by
     have:x∈l1'.filter (fun i=> !listed.getD i true):=by rw[ba];exact be
     simpa using(List.mem_filter.1 this).2
    rcases hx x bu with h4|h4
    ·exfalso
     have:=Ct aC ops.size i x o' ho aK h4
     rcases Nat.lt_or_ge x listed.size with ak|ak
     ·simp[ak]at this bd;rw[bd]at this;cases this
     ·simp[Array.getElem?_eq_none ak]at this
    ·exact h4) h
   have aj:pre++post=ord.filter (fun j=> !(listed.setIfInBounds i true).getD j true):=by
    have bF:i<listed.size:=by
     rw[hsz];exact(Array.getElem?_eq_some_iff.1 ho).1
    rw[aq,List.filter_append,List.filter_cons]
    have e1:(listed.setIfInBounds i true).getD i true=true:=by simp[bF]
    rw[e1,As n1,As n3]
    simp only[Bool.not_true,Bool.false_eq_true,if_false,List.filter_append,ba,bI]
    rw[List.filter_eq_nil_iff.2 (fun x hx=>by simpa using bA x hx),List.append_nil]
   have hlen:(pre++post).length=m:=by simp at hl⊢; omega
   obtain⟨o2,bh,hh⟩:=aA
   obtain rfl:o2=o':=by rw[ho]at bh;cases bh;rfl
   unfold wpOpIn
   simp only[ho]
   rcases hh with⟨d,hy,hM⟩|⟨_,hE⟩
   ·exact DV hN (hr.mono hg) hg hs (Sub.refl _) (hy _ fun _=>hC) fun g' w' a' aQ am=>ih _ _ _ _ _ hlen (by simpa using hsz) aj (aC.set hi) hM hC g' w' a' (hg.trans aQ) am
   ·exact Ca (hr.mono hg) hg hs hE (fun g' w' a' d U' aQ hR am=>by obtain⟨B1,h3,_,h4⟩:=hR;exact ih _ _ _ _ _ hlen (by simpa using hsz) aj (aC.set hi) h4 h3 g' w' a' (hg.trans aQ) am) fun d U' hp=>hp
theorem Fs{lo:List Oper}: ∀{ord:List Nat}{lp:List (Bool×Bool×Bool×Oper)}{B:Sig->Prop}{γ:Fr}{O:Sig},Lb lo E C K ord=some lp->MOI P ro n lo.toArray N Q df lp B γ O->MOpsI P ro n lo.toArray N Q df E C K ord B γ O
 |[],_,_,_,_,hp,h=>by cases hp;exact h
 |i::r,lp,B,γ,O,hp,h=>by
  simp only[Lb]at hp
  split at hp<;>(try (cases hp;done))
  rename_i o ho
  split at hp<;>(try (cases hp;done))
  rename_i l hl
  cases hp
  refine⟨o,by rw[HF]at ho;simpa using ho,?_⟩
  rcases h with⟨d,h2,h3⟩|⟨h1,h2⟩
  ·exact .inl ⟨d,h2,Fs hl h3⟩
  ·exact .inr ⟨h1,h2.congr (fun _ _=>rfl) fun d U' ⟨S1,h3,h5,h4⟩=>⟨S1,h3,h5,Fs hl h4⟩⟩
theorem VH(hN:P.funcs.size=N)(hm:P.follows .mixedOrders=true){l:List Oper}{id:Nat}{γ:Fr}{O:Sig}(ord E C K:List Nat)(B:Sig->Prop)(hB:Dn l.toArray E C K ord=true)(hC:B O)
  {lp:List (Bool×Bool×Bool×Oper)} (bB:Lb l E C K ord=some lp) (h0:MOI P ro n l.toArray N Q df lp B γ O):DWp P ro n (.region id l.toArray true) Q ⟨γ,O,df⟩:=by
 intro g w a r hr hs
 refine wpIn_region_any hm ?_
 have aC:Closed l.toArray (Array.replicate l.toArray.size false):=by
  intro q o _ hq
  rcases Nat.lt_or_ge q l.length with h'|h'
  ·simp[h']at hq
  ·simp[h']at hq
 have am:SimS P g n ⟨γ,O,df⟩ a { w with drawn:=w.drawn+1 }:=
  ⟨⟨fun b o v h=>hs.sim.imm b o v h,hs.sim.keep,fun i o h=>by
   have:=hs.sim.obj i o h
   cases o<;>exact this,hs.sim.inj,hs.sim.free,hs.sim.htop,hs.sim.hdom,hs.sim.fin,hs.sim.io,hs.sim.tab⟩,hs.tmps,hs.df⟩
 have ak:∀i∈ord,i<l.toArray.size:=by
  intro i hi
  obtain⟨p1,p2,hp⟩:=List.append_of_mem hi
  have ar:=hB
  unfold Dn at ar
  simp only[Bool.and_eq_true]at ar
  rw[hp]at ar
  obtain⟨_,_,_,o',aF,_⟩:=Du p1 [] ar.1.1
  exact(Array.getElem?_eq_some_iff.1 aF).1
 have hlen:ord.length=l.toArray.size:=by
  have ar:=hB
  unfold Dn at ar
  simp only[Bool.and_eq_true,beq_iff_eq]at ar
  exact ar.2
 have:=QG hN hB hr ord.length ord (Array.replicate l.toArray.size false) B γ O rfl (by simp) (CF ak).symm aC (Fs bB h0) hC g _ a (.refl g) am
 rw[hlen]at this
 exact this
theorem Od(ht:AP P tab){e c k:Bool}{t:Nat}{op:Op}{ty:TypeId}{pos:String}{after:Array Edge}{d:D}{l:List (Bool×Bool×Bool×Oper)}{γ Sr:Fr}{O:Sig}(hr:Db op=true)(ap:decide (t<n)=true)(hl:A1 γ (A7 op.operands.toList)=some Sr)(hd:∀s,(c=true->B s)->dopX tab Sr s op=some d)
  (h:MOI P ro n ops N Q df l B ((t,d)::γ) O):MOI P ro n ops N Q df ((e,c,k,⟨some t,op,ty,pos,after,none⟩)::l) B γ O:=by
 refine .inl ⟨d,fun s hs=>?_,h⟩
 have bm:=(B2 (Cn hl)) ▸ hd s hs
 refine⟨ap,.inl ⟨by rw[Ak];rfl,BH hr,GG ht bm,fun U' hZ g w a hs hT=>?_⟩⟩
 refine DS ht hs hT (?_:dopX tab (only _ γ) U' op=some d)
 rw[B2 (V':=γ) fun x hx=>AR (o:=⟨some t,op,ty,pos,after,none⟩) hx]
 exact DT hZ bm
theorem QS(ht:AP P tab){c k:Bool}{o:Oper}{d:D}{U':Sig}{l:List (Bool×Bool×Bool×Oper)}{γ:Fr}{O:Sig}(B1:Sig->Prop)(ho:At n o=true)(hw:AC ops γ o=some true)(he:eopD tab γ O o.op=some (d,U'))(hC:B1 U')(hk:k=false->B1=B)
  (h:MOI P ro n ops N Q df l B1 (putD o.dst d γ) U'):MOI P ro n ops N Q df ((true,c,k,o)::l) B γ O:=by
 refine .inr ⟨rfl,ho,by rw[Ak];exact hw,?_⟩
 refine G2 ht (by rw[Ak];exact hw) (by rw[BA (V':=γ) fun x hx=>AR hx];exact he) ho (Aw ⟨rfl,?_⟩)
 cases hd:o.dst with
 |none=>rw[hd]at h;exact⟨B1,hC,hk,h⟩
 |some t=>
  rw[hd]at h
  simp only[putD,A3,if_true]
  exact⟨B1,hC,hk,h⟩
theorem moI_1{c k:Bool}{t:Nat}{op:Op}{ty:TypeId}{pos:String}{after:Array Edge}{l:List (Bool×Bool×Bool×Oper)}{γ:Fr}{O:Sig}(B1:Sig->Prop)(hk:k=false->B1=B)(h:∀U2,(∀x∈op.operands,ev U2 x=ev γ x)->DOps P ro n ops (EQ df (some t) (fun d U'=>B1 U'/\MOI P ro n ops N Q df l B1 ((t,d)::γ) U') (fun d U'=> ∀V',Q (.panic d) ⟨V',U',df⟩)) [⟨some t,op,ty,pos,after,none⟩] ⟨U2,O,df⟩)(ap:decide (t<n)=true)(hw:AC ops (only (Oper.looksAt ops ⟨some t,op,ty,pos,after,none⟩) γ) ⟨some t,op,ty,pos,after,none⟩=some true):MOI P ro n ops N Q df ((true,c,k,⟨some t,op,ty,pos,after,none⟩)::l) B γ O:=
 .inr ⟨rfl,ap,hw,MS (h _ fun x hx=>AR (o:=⟨some t,op,ty,pos,after,none⟩) hx) fun x s hq=>by
  cases x with
  |normal=>exact⟨hq.1,⟨B1,hq.2.1,hk,hq.2.2⟩⟩
  |panic d=>exact hq
  |_=>exact hq⟩
end
def isNw(o:Oper):Option Nat:=match o with
 |⟨some t,.alloc _,_,_,_,none⟩=>some t
 |⟨some t,.makeSlice _ _ _,_,_,_,none⟩=>some t
 |_=>none
theorem Ri{o:Oper}{t:Nat}(h:isNw o=some t):(∃T ty pos af,o=⟨some t,.alloc T,ty,pos,af,none⟩) \/ ∃T l m ty pos af,o=⟨some t,.makeSlice T l m,ty,pos,af,none⟩:=by
 unfold isNw at h
 split at h
 ·cases h;exact .inl ⟨_,_,_,_,rfl⟩
 ·cases h;exact .inr ⟨_,_,_,_,_,_,rfl⟩
 ·cases h
theorem Io{o:Oper}{t:Nat}(h:isNw o=some t):o.dst=some t:=by rcases Ri h with⟨_,_,_,_,rfl⟩|⟨_,_,_,_,_,_,rfl⟩<;>rfl
def newD(tab:Nat->Ty)(n:Nat)(γ:Fr)(o:Oper):Option ((Nat->D)×DObj):=match o with
 |⟨some t,.alloc T,_,_,_,none⟩=>if decide (t<n)&&!A0 (tab T).k then some (fun k=>.ptr k 0,.cells (tab T).zero) else none
 |⟨some t,.makeSlice T l m,_,_,_,none⟩=>match (tab T).k,ev γ l,ev γ m with
  |.slice e,.int .i64 a,.int .i64 c=>if decide (t<n)&&(!A0 (tab e).k&&decide (0<(tab e).size/\0<=c/\a=c/\c.toNat*(tab e).bytes<=140737488355328/\c<=9223372036854775807)) then some (fun k=>.sref k 0 c.toNat c.toNat,.cells (List.replicate c.toNat (tab e).zero).flatten) else none
  |_,_,_=>none
 |_=>none
theorem FT{tab:Nat->Ty}{n:Nat}{γ V':Fr}{ops:Array Oper}{o:Oper}(h:∀t∈o.looksAt ops,getD γ t=getD V' t):newD tab n γ o=newD tab n V' o:=by
 have he:∀x∈o.op.operands,ev γ x=ev V' x:=fun x hx=>by rw[<-AR (ops:=ops) hx,HE h,AR hx]
 unfold newD
 split
 ·rfl
 ·rw[he _ (by simp[Op.operands]),he _ (by simp[Op.operands])]
 ·rfl
def FinS(O:Sig):Prop:= ∃m, ∀k,m<=k->O k=none
theorem FinS.set{O:Sig}(h:FinS O)(k:Nat)(o:DObj):FinS (O.set k o):=by
 obtain⟨m,hm⟩:=h
 exact⟨m+k+1,fun j hj=>by rw[w7 _ _ (by omega)];exact hm j (by omega)⟩
theorem Sim.finS{P:Program}{g:G}{O:Sig}{w:World}(hs:Sim P g O w):FinS O:=by
 obtain⟨m,hm⟩:=hs.fin
 refine⟨m,fun k hk=>?_⟩
 cases h:O k with
 |none=>rfl
 |some o=>
  have hr:=hs.obj k o h
  have hn:=hm k hk
  have hT:∀n v,g.hist k n=some v->False:=fun n v hv=>by have:=hs.hdom k n v hv;rw[hn]at this;cases this
  cases o with
  |cells ds=>obtain⟨_,_,_,h,_⟩:=hr;rw[hn]at h;cases h
  |tcells ty ds=>obtain⟨_,_,h,_⟩:=hr;rw[hn]at h;cases h
  |map l=>obtain⟨_,_,_,h,_⟩:=hr;rw[hn]at h;cases h
  |tail sz n=>rcases hr with⟨h,_⟩|⟨_,_,_,_,_,h,_⟩<;>exact(hT _ _ h).elim
  |loop=>obtain⟨_,_,_,_,h,_⟩:=hr;rw[hn]at h;cases h
  |defs=>obtain⟨_,h,_⟩:=hr;rw[hn]at h;cases h
  |iter=>obtain⟨_,h,_⟩:=hr;rw[hn]at h;cases h
section
variable (P:Program)(ro:Ro)(n:Nat)(ops:Array Oper)(N:Nat)(S0:Sig)(Q:DX->St->Prop)(df:List DDf)(tab:Nat->Ty)
def StepNw(e:Bool)(o:Oper)(γ:Fr)(O:Sig)(K:Fr->Sig->Prop):Prop:=
 match isNw o with
 |some t=> ∃mk obj,newD tab n γ o=some (mk,obj) /\ ∀k,O k=none->K ((t,mk k)::γ) (O.set k obj)
 |none=>(∃d,Calm P n ops N S0 γ o d/\K (putD o.dst d γ) O) \/
  (e=true/\Eff P ro n ops df γ O o (fun d U'=>Sub S0 U'/\K (putD o.dst d γ) U') (fun d U'=> ∀V',Q (.panic d) ⟨V',U',df⟩))
def MOpsNw(E:List Nat):List Nat->Fr->Sig->Prop
 |[],γ,O=>DOps P ro n ops Q [] ⟨γ,O,df⟩
 |i::r,γ,O=> ∃o,ops[i]? = some o/\StepNw P ro n ops N S0 Q df tab (E.contains i) o γ O (MOpsNw E r)
def MONw:List (Bool×Oper)->Fr->Sig->Prop
 |[],γ,O=>DOps P ro n ops Q [] ⟨γ,O,df⟩
 |(e,o)::r,γ,O=>StepNw P ro n ops N S0 Q df tab e o γ O (MONw r)
end
section
variable {P:Program}{ro:Ro}{n:Nat}{ops:Array Oper}{N:Nat}{S0:Sig}{Q:DX->St->Prop}{df:List DDf}{E:List Nat}{tab:Nat->Ty}
theorem StepNw.mono{e:Bool}{o:Oper}{γ V':Fr}{O:Sig}{K K':Fr->Sig->Prop}(h:StepNw P ro n ops N S0 Q df tab e o γ O K)(aN:Alike γ V')(hK:∀γ V' O,Alike γ V'->K γ O->K' V' O):StepNw P ro n ops N S0 Q df tab e o V' O K':=by
 unfold StepNw at h⊢
 split at h
 ·obtain⟨mk,obj,h1,h2⟩:=h
  exact⟨mk,obj,by rw[<-h1];exact(FT (ops:=ops) fun t _=>aN t).symm,fun k hk=>hK _ _ _ (aN.put (some _) _) (h2 k hk)⟩
 ·rcases h with⟨d,h2,h3⟩|⟨h1,h2⟩
  ·exact .inl ⟨d,h2.congr fun t _=>aN t,hK _ _ _ (aN.put _ _) h3⟩
  ·exact .inr ⟨h1,h2.congr (fun t _=>aN t) fun d U' ⟨h3,h4⟩=>⟨h3,hK _ _ _ (aN.put _ _) h4⟩⟩
theorem MOpsNw.alike: ∀(l:List Nat) {γ V':Fr}{O:Sig},Alike γ V'->MOpsNw P ro n ops N S0 Q df tab E l γ O->MOpsNw P ro n ops N S0 Q df tab E l V' O
 |[],_,_,_,h,k=>C5 h k
 |i::r,_,_,_,h,⟨o,ho,k⟩=>⟨o,ho,k.mono h fun _ _ _ h' k'=>MOpsNw.alike r h' k'⟩
theorem I6{i:Nat}{oi:Oper}(hi:ops[i]? = some oi)(post:List Nat): ∀(pre:List Nat) (γ:Fr) (O:Sig),FinS O->
  (∀x∈pre,E.contains x=false /\ ∃ox,ops[x]? = some ox/\oi.apart ops ox=true/\((isNw ox).isSome=true->(isNw oi).isSome=true))->MOpsNw P ro n ops N S0 Q df tab E (pre++i::post) γ O->MOpsNw P ro n ops N S0 Q df tab E (i::(pre++post)) γ O
 |[],_,_,_,_,h=>h
 | x::pre,γ,O,hF,hp,h=>by
  obtain⟨bt,ox,aH,bM,aN⟩:=hp x (by simp)
  obtain⟨a1,a2,a3⟩:=Oper.apart_spec bM
  obtain⟨ox',aG,hx⟩:=h
  obtain rfl:ox'=ox:=by rw[aH]at aG;cases aG;rfl
  have ih:∀γ O,FinS O->MOpsNw P ro n ops N S0 Q df tab E (pre++i::post) γ O->MOpsNw P ro n ops N S0 Q df tab E (i::(pre++post)) γ O:=fun γ O hF=>I6 hi post pre γ O hF fun y hy=>hp y (by simp[hy])
  refine⟨oi,hi,?_⟩
  cases aU:isNw ox' with
  | some t =>
   have dx:=Io aU
   cases aD:isNw oi with
   |none=>rw[aU,aD]at aN;simp at aN
   | some t' =>
    have di:=Io aD
    simp only[StepNw,aU,aD]at hx⊢
    obtain⟨mk,obj,hn,hx⟩:=hx
    have key:∀d mk' obj',newD tab n ((t,d)::γ) oi=some (mk',obj')->newD tab n γ oi=some (mk',obj'):=fun d mk' obj' h=>by
     rw[<-h]
     exact FT (ops:=ops) fun u hu=>(Ai (dst:=some t) fun hd=>a3 u (dx.trans hd) hu).symm
    obtain⟨m,hm⟩:=id hF
    obtain⟨oi',ah,hh⟩:=ih _ _ (hF.set m obj) (hx m (hm m (Nat.le_refl _)))
    rw[hi]at ah;cases ah
    simp only[StepNw,aD]at hh
    obtain⟨mk',obj',bx,_⟩:=hh
    have bS:=key _ _ _ bx
    refine⟨mk',obj',bS,fun k' aO=>⟨_,aH,?_⟩⟩
    simp only[StepNw,aU]
    refine⟨mk,obj,?_,fun k hk=>?_⟩
    ·rw[<-hn]
     exact FT (ops:=ops) fun u hu=>Ai (dst:=some t') fun hd=>a1 u (di.trans hd) hu
    have hne:k≠k':=by
     rintro rfl
     simp[Sig.set]at hk
    have cm:O k=none:=by rw[w7 _ _ hne]at hk;exact hk
    obtain⟨oi',ah,hh⟩:=ih _ _ (hF.set k obj) (hx k cm)
    rw[hi]at ah;cases ah
    simp only[StepNw,aD]at hh
    obtain⟨mk2,obj2,ci,hh⟩:=hh
    have e2:=key _ _ _ ci
    rw[bS]at e2;cases e2
    have h3:=hh k' (by rw[w7 _ _ (Ne.symm hne)];exact aO)
    rw[set_comm O hne]at h3
    exact MOpsNw.alike _ (AF (a:=some t') (b:=some t) _ _ _ fun u p q=>a2 u (di.trans p) (dx.trans q)) h3
  | none =>
   simp only[StepNw,aU]at hx
   rcases hx with⟨d,hy,h⟩|⟨hE,_⟩
   ·obtain⟨oi',ah,hh⟩:=ih _ O hF h
    rw[hi]at ah;cases ah
    cases aD:isNw oi with
    | some t' =>
     have di:=Io aD
     simp only[StepNw,aD]at hh⊢
     obtain⟨mk',obj',bx,hh⟩:=hh
     refine⟨mk',obj',?_,fun k' aO=>?_⟩
     ·rw[<-bx]
      exact FT (ops:=ops) fun u hu=>(Ai fun hd=>a3 u hd hu).symm
     refine⟨ox',aH,?_⟩
     simp only[StepNw,aU]
     refine .inl ⟨d,hy.congr fun t ht=>(Ai (dst:=some t') fun hd=>a1 t (di.trans hd) ht).symm,?_⟩
     exact MOpsNw.alike _ (AF (a:=some t') _ _ _ fun t p q=>a2 t (di.trans p) q) (hh k' aO)
    | none =>
     simp only[StepNw,aD]at hh⊢
     rcases hh with⟨e,h2,h3⟩|⟨h1,h2⟩
     ·refine .inl ⟨e,h2.congr fun t ht=>Ai fun hd=>a3 t hd ht,ox',aH,?_⟩
      simp only[StepNw,aU]
      refine .inl ⟨d,hy.congr fun t ht=>(Ai fun hd=>a1 t hd ht).symm,?_⟩
      exact MOpsNw.alike _ (AF _ _ _ fun t p q=>a2 t p q) h3
     ·refine .inr ⟨h1,h2.congr (fun t ht=>Ai fun hd=>a3 t hd ht) fun e U' ⟨h3,h4⟩=>⟨h3,ox',aH,?_⟩⟩
      simp only[StepNw,aU]
      refine .inl ⟨d,hy.congr fun t ht=>(Ai fun hd=>a1 t hd ht).symm,?_⟩
      exact MOpsNw.alike _ (AF _ _ _ fun t p q=>a2 t p q) h4
   ·rw[bt]at hE;cases hE
theorem UB(ht:AP P tab){o:Oper}{t:Nat}{γ:Fr}{mk:Nat->D}{obj:DObj}(ha:isNw o=some t)(h:newD tab n γ o=some (mk,obj))(O:Sig):Eff P ro n ops df γ O o (fun d U'=> ∃k,O k=none/\d=mk k/\U'=O.set k obj) (fun _ _=>False):=by
 rcases Ri ha with⟨T,ty,pos,af,rfl⟩|⟨T,l,m,ty,pos,af,rfl⟩
 ·unfold newD at h
  simp only at h
  split at h
  ·rename_i hc
   simp only[Bool.and_eq_true,decide_eq_true_eq,Bool.not_eq_true']at hc
   cases h
   exact⟨by simp[At,hc.1],rfl,D5 ht hc.2 hc.1 fun k hk=>Aw ⟨rfl,k,hk,by simp[A3],rfl⟩⟩
  ·cases h
 ·unfold newD at h
  simp only at h
  split at h
  ·rename_i e a c hk hl hm
   split at h
   ·rename_i hc
    simp only[Bool.and_eq_true,decide_eq_true_eq,Bool.not_eq_true']at hc
    obtain⟨ap,cb,h0,cC,rfl,hb,aR⟩:=hc
    cases h
    have e1:(a:Int)=((a.toNat:Nat):Int):=by omega
    have w1:ev (only (Oper.looksAt ops ⟨some t,.makeSlice T l m,ty,pos,af,none⟩) γ) l=.int .i64 ((a.toNat:Nat):Int):=by rw[AR (by simp[Op.operands]),hl,<-e1]
    have w2:ev (only (Oper.looksAt ops ⟨some t,.makeSlice T l m,ty,pos,af,none⟩) γ) m=.int .i64 ((a.toNat:Nat):Int):=by rw[AR (by simp[Op.operands]),hm,<-e1]
    refine⟨by simp[At,ap],rfl,?_⟩
    refine KG ht ap hk cb rfl h0 rfl w1 w2 (Nat.le_refl _) hb (by omega) fun k hk _=>Aw ⟨rfl,k,hk,by simp[A3],?_⟩
    simp[mS]
   ·cases h
  ·cases h
def Gf(ops:Array Oper)(E:List Nat):List Nat->List Nat->Bool
 |_,[]=>true
 | done,i::r => !done.contains i && (match ops[i]? with
  |some o=>(o.after.all fun e=> !Region.binds .any e||done.contains e.on)&&done.all fun x=>(!E.contains x&&match ops[x]? with
   |some ox=>o.apart ops ox&&(!(isNw ox).isSome||(isNw o).isSome)
   |none=>false)||reach ops ops.size i x
  |none=>false)&&Gf ops E (i::done) r
theorem Fw {i:Nat} {l2:List Nat} : ∀ (l1 done:List Nat),Gf ops E done (l1++i::l2)=true->i ∉ l1/\i ∉ done/\i ∉ l2 /\ ∃ o,ops[i]? = some o/\(∀ e ∈ o.after,Region.binds .any e=true->e.on ∈ l1\/e.on ∈ done) /\
   ∀x,x∈l1->reach ops ops.size i x=true\/(E.contains x=false /\ ∃ox,ops[x]? = some ox/\o.apart ops ox=true/\((isNw ox).isSome=true->(isNw o).isSome=true))
 | [],done,h=>by
  simp only[List.nil_append,Gf,Bool.and_eq_true,Bool.not_eq_true',List.contains_eq_mem,decide_eq_false_iff_not]at h
  obtain⟨⟨h1,h2⟩,h3⟩:=h
  have later:∀(l d:List Nat),i∈d->Gf ops E d l=true->i∉l:=by
   intro l
   induction l with
   |nil=>intro _ _ _ h;cases h
   |cons y l ih=>
    intro d hd hm ae
    simp only[Gf,Bool.and_eq_true,Bool.not_eq_true',List.contains_eq_mem,decide_eq_false_iff_not]at hm
    obtain⟨⟨m1,_⟩,m3⟩:=hm
    rcases List.mem_cons.1 ae with rfl|ae
    ·exact m1 hd
    ·exact ih (y::d) (by simp[hd]) m3 ae
  refine⟨by simp,h1,later l2 _ (by simp) h3,?_⟩
  split at h2
  ·rename_i o ho
   simp only[Bool.and_eq_true]at h2
   refine⟨o,ho,fun e he hb=>?_,fun x hx=>by cases hx⟩
   have:=Array.all_eq_true_iff_forall_mem.1 h2.1 e he
   simp only[hb,Bool.not_true,Bool.false_or,List.contains_eq_mem,decide_eq_true_eq]at this
   exact .inr this
  ·cases h2
 | y::l1,done,h=>by
  simp only[List.cons_append,Gf,Bool.and_eq_true]at h
  obtain⟨h1,h2,h3,o,ho,he,hx⟩:=Fw l1 (y::done) h.2
  have cn:i≠y:=fun e=>h2 (by simp[e])
  refine⟨by simp[cn,h1],fun hd=>h2 (by simp[hd]),h3,o,ho,fun e hm hb=>?_,?_⟩
  ·rcases he e hm hb with h4|h4
   ·exact .inl (by simp[h4])
   ·rcases List.mem_cons.1 h4 with h5|h5
    ·exact .inl (by simp[h5])
    ·exact .inr h5
  ·intro x ae
   rcases List.mem_cons.1 ae with rfl|ae
   ·have back:∀(l d:List Nat),x∈d->Gf ops E d (l++i::l2)=true->reach ops ops.size i x=true\/(E.contains x=false /\ ∃ox,ops[x]? = some ox/\o.apart ops ox=true/\((isNw ox).isSome=true->(isNw o).isSome=true)):=by
     intro l
     induction l with
     | nil =>
      intro d hd hm
      simp only[List.nil_append,Gf,Bool.and_eq_true,ho]at hm
      have:=List.all_eq_true.1 hm.1.2.2 x hd
      simp only[Bool.or_eq_true,Bool.and_eq_true,Bool.not_eq_true']at this
      rcases this.symm with h4|⟨h4,h5⟩
      ·exact .inl h4
      ·refine .inr ⟨h4,?_⟩
       split at h5
       ·rename_i ox aH
        simp only[Bool.and_eq_true,Bool.or_eq_true,Bool.not_eq_true']at h5
        exact⟨ox,aH,h5.1,fun hs=>by rcases h5.2 with h6|h6;rw[h6]at hs;cases hs;exact h6⟩
       ·cases h5
     |cons z l ih=>
      intro d hd hm
      simp only[List.cons_append,Gf,Bool.and_eq_true]at hm
      exact ih (z::d) (by simp[hd]) hm.2
    exact back l1 _ (by simp) h.2
   ·exact hx x ae
def FW(ops:Array Oper)(E ord:List Nat):Bool:=Gf ops E [] ord&&(List.range ops.size).all ord.contains&&ord.length==ops.size
theorem Pf(ht:AP P tab)(hN:P.funcs.size=N){ord:List Nat}(hB:FW ops E ord=true){g0:G}{rr:Rx}(hr:RoRep g0 ro rr): ∀(m:Nat) (r:List Nat) (listed:Array Bool) (γ:Fr) (O:Sig),r.length=m->listed.size=ops.size->
  r=ord.filter (fun i=> !listed.getD i true)->Closed ops listed->MOpsNw P ro n ops N S0 Q df tab E r γ O->Sub S0 O->
   ∀(g:G) (w:World) (a:Act),g0.le g->SimS P g n ⟨γ,O,df⟩ a w->wpAnyIn (FX P rr) 0 P .any ops (Post P g0 n Q) m listed a w:=by
 unfold FW at hB
 simp only[Bool.and_eq_true]at hB
 obtain⟨⟨ai,bb⟩,_⟩:=hB
 have ae:∀(r:List Nat) (listed:Array Bool),r=ord.filter (fun i=> !listed.getD i true)->∀i∈Region.ready .any ops listed,i∈r:=by
  intro r listed hf i hi
  obtain⟨h1,o,ho,_⟩:=mem_ready.1 hi
  have:=List.all_eq_true.1 bb i (by simpa using(Array.getElem?_eq_some_iff.1 ho).1)
  rw[hf,List.mem_filter]
  exact⟨by simpa using this,by rw[h1];rfl⟩
 intro m
 induction m with
 |zero=>
  intro r listed γ O hl hsz hf aC h hC g w a hg hs
  obtain rfl:r=[]:=List.length_eq_zero_iff.1 hl
  refine⟨List.eq_nil_iff_forall_not_mem.2 fun i hi=>?_,?_⟩
  ·have:=ae [] listed hf i hi;cases this
  ·exact Post.le hg (h g w a rr (hr.mono hg) hs)
 | succ m ih =>
  intro r listed γ O hl hsz hf aC h hC g w a hg hs
  obtain⟨y,t,rfl⟩:∃y t,r=y::t:=by cases r with|nil=>cases hl|cons y t=>exact⟨y,t,rfl⟩
  refine⟨fun he=>?_,fun i hi=>?_⟩
  ·exfalso
   obtain⟨l1,l2,ax,bC,hy,ck⟩:=List.filter_eq_cons_iff.1 hf.symm
   subst ax
   obtain⟨h1,_,_,o,ho,bl,_⟩:=Fw l1 [] ai
   have:y∈Region.ready .any ops listed:=by
    refine mem_ready.2 ⟨by simpa using hy,o,ho,fun e hm hb=>?_⟩
    rcases bl e hm hb with h4|h4
    ·have h5:=bC _ h4
     simp only[Bool.not_eq_true,Bool.not_eq_false']at h5
     have ak:e.on<listed.size:=by
      have:e.on∈l1++y::l2:=by simp[h4]
      obtain⟨p1,p2,hp⟩:=List.append_of_mem this
      rw[hp]at ai
      obtain⟨_,_,_,o',aF,_⟩:=Fw p1 [] ai
      rw[hsz];exact(Array.getElem?_eq_some_iff.1 aF).1
     simpa[ak] using h5
    ·cases h4
   rw[he]at this;cases this
  ·obtain⟨pre,post,aw⟩:=List.append_of_mem (ae _ listed hf i hi)
   rw[aw]at hf h hl
   obtain⟨l1',l2',ax,ba,bJ⟩:=List.filter_eq_append_iff.1 hf.symm
   obtain⟨m1,m2,aZ,bA,co,bI⟩:=List.filter_eq_cons_iff.1 bJ
   have aq:ord=(l1'++m1)++i::m2:=by rw[ax,aZ];simp
   rw[aq]at ai
   obtain⟨n1,_,n3,o,ho,bl,hx⟩:=Fw (l1'++m1) [] ai
   obtain⟨bE,o',aF,aK⟩:=mem_ready.1 hi
   obtain rfl:o'=o:=by rw[ho]at aF;cases aF;rfl
   have aA:=I6 ho post pre γ O hs.sim.finS (fun x be=>by
    have bu:x∈l1'++m1:=by
     have:x∈l1'.filter (fun i=> !listed.getD i true):=by rw[ba];exact be
     simp[(List.mem_filter.1 this).1]
    have bd:listed.getD x true=false:=by
     have:x∈l1'.filter (fun i=> !listed.getD i true):=by rw[ba];exact be
     simpa using(List.mem_filter.1 this).2
    rcases hx x bu with h4|h4
    ·exfalso
     have:=Ct aC ops.size i x o' ho aK h4
     rcases Nat.lt_or_ge x listed.size with ak|ak
     ·simp[ak]at this bd;rw[bd]at this;cases this
     ·simp[Array.getElem?_eq_none ak]at this
    ·exact h4) h
   have aj:pre++post=ord.filter (fun j=> !(listed.setIfInBounds i true).getD j true):=by
    have bF:i<listed.size:=by
     rw[hsz];exact(Array.getElem?_eq_some_iff.1 ho).1
    rw[aq,List.filter_append,List.filter_cons]
    have e1:(listed.setIfInBounds i true).getD i true=true:=by simp[bF]
    rw[e1,As n1,As n3]
    simp only[Bool.not_true,Bool.false_eq_true,if_false,List.filter_append,ba,bI]
    rw[List.filter_eq_nil_iff.2 (fun x hx=>by simpa using bA x hx),List.append_nil]
   have hlen:(pre++post).length=m:=by simp at hl⊢; omega
   obtain⟨o2,bh,hh⟩:=aA
   obtain rfl:o2=o':=by rw[ho]at bh;cases bh;rfl
   unfold wpOpIn
   simp only[ho]
   cases aD:isNw o2 with
   |some t=>
    simp only[StepNw,aD]at hh
    obtain⟨mk,obj,hn,hh⟩:=hh
    refine Ca (Q:=Q) (hr.mono hg) hg hs (UB ht aD hn O) (fun g' w' a' d U' aQ hR am=>?_) fun _ _ h=>h.elim
    obtain⟨k,hk,rfl,rfl⟩:=hR
    rw[Io aD]at am
    exact ih _ _ _ _ hlen (by simpa using hsz) aj (aC.set hi) (hh k hk) (fun i o h=>(Sub.refl _).set hk i o (hC i o h)) g' w' a' (hg.trans aQ) am
   |none=>
    simp only[StepNw,aD]at hh
    rcases hh with⟨d,hy,hM⟩|⟨_,hE⟩
    ·exact DV (Q:=Q) hN (hr.mono hg) hg hs hC hy fun g' w' a' aQ am=>ih _ _ _ _ hlen (by simpa using hsz) aj (aC.set hi) hM hC g' w' a' (hg.trans aQ) am
    ·exact Ca (Q:=Q) (hr.mono hg) hg hs hE (fun g' w' a' d U' aQ hR am=>ih _ _ _ _ hlen (by simpa using hsz) aj (aC.set hi) hR.2 hR.1 g' w' a' (hg.trans aQ) am) fun d U' hp=>hp
theorem GY: ∀{ord:List Nat}{γ:Fr}{O:Sig},(∀i∈ord,i<ops.size)->MONw P ro n ops N S0 Q df tab (pick ops E ord) γ O->MOpsNw P ro n ops N S0 Q df tab E ord γ O
 |[],_,_,_,h=>h
 | i::r,γ,O,ak,h=>by
  have hi:ops[i]? = some ops[i]! :=by
   have:=ak i (by simp)
   simp[this]
  have hp:pick ops E (i::r)=(E.contains i,ops[i]!)::pick ops E r:=by
   unfold pick
   rw[List.filterMap_cons,hi]
   rfl
  rw[hp]at h
  refine⟨_,hi,?_⟩
  refine StepNw.mono h (fun _=>rfl) fun γ V' O aN h=>MOpsNw.alike _ aN (GY (fun j hj=>ak j (by simp[hj])) h)
theorem VF(ht:AP P tab)(hN:P.funcs.size=N)(hm:P.follows .mixedOrders=true){l:List Oper}{id:Nat}{γ:Fr}{O:Sig}(ord E:List Nat)(S0:Sig)(hB:FW l.toArray E ord=true)(hC:Sub S0 O)
  {lp:List (Bool×Oper)} (bB:Gs l E ord=some lp) (h:MONw P ro n l.toArray N S0 Q df tab lp γ O):DWp P ro n (.region id l.toArray true) Q ⟨γ,O,df⟩:=by
 intro g w a r hr hs
 refine wpIn_region_any hm ?_
 have aC:Closed l.toArray (Array.replicate l.toArray.size false):=by
  intro q o _ hq
  rcases Nat.lt_or_ge q l.length with h'|h'
  ·simp[h']at hq
  ·simp[h']at hq
 have am:SimS P g n ⟨γ,O,df⟩ a { w with drawn:=w.drawn+1 }:=
  ⟨⟨fun b o v h=>hs.sim.imm b o v h,hs.sim.keep,fun i o h=>by
   have:=hs.sim.obj i o h
   cases o<;>exact this,hs.sim.inj,hs.sim.free,hs.sim.htop,hs.sim.hdom,hs.sim.fin,hs.sim.io,hs.sim.tab⟩,hs.tmps,hs.df⟩
 have ak:∀i∈ord,i<l.toArray.size:=by
  intro i hi
  obtain⟨p1,p2,hp⟩:=List.append_of_mem hi
  have ar:=hB
  unfold FW at ar
  simp only[Bool.and_eq_true]at ar
  rw[hp]at ar
  obtain⟨_,_,_,o',aF,_⟩:=Fw p1 [] ar.1.1
  exact(Array.getElem?_eq_some_iff.1 aF).1
 have hlen:ord.length=l.toArray.size:=by
  have ar:=hB
  unfold FW at ar
  simp only[Bool.and_eq_true,beq_iff_eq]at ar
  exact ar.2
 have:=Pf ht hN hB hr ord.length ord (Array.replicate l.toArray.size false) γ O rfl (by simp) (CF ak).symm aC (GY ak (by rw[IN bB];exact h)) hC g _ a (.refl g) am
 rw[hlen]at this
 exact this
theorem FV: ∀{l:List (Bool×Oper)}{γ:Fr}{O:Sig},(l.all fun p=> !(isNw p.2).isSome)=true->MO P ro n ops N S0 Q df l γ O->MONw P ro n ops N S0 Q df tab l γ O
 |[],_,_,_,h=>h
 |(e,o)::l,γ,O,hl,h=>by
  simp only[List.all_cons,Bool.and_eq_true,Bool.not_eq_true']at hl
  have hn:isNw o=none:=by cases h:isNw o with|none=>rfl|some _=>rw[h]at hl;simp at hl
  show StepNw P ro n ops N S0 Q df tab e o γ O _
  simp only[StepNw,hn]
  rcases h with⟨d,h2,h3⟩|⟨h1,h2⟩
  ·exact .inl ⟨d,h2,FV hl.2 h3⟩
  ·exact .inr ⟨h1,h2.congr (fun _ _=>rfl) fun d U' ⟨h3,h4⟩=>⟨h3,FV hl.2 h4⟩⟩
theorem UH{e:Bool}{o:Oper}{t:Nat}{mk:Nat->D}{obj:DObj}{l:List (Bool×Oper)}{γ:Fr}{O:Sig}(ha:isNw o=some t)(hn:newD tab n γ o=some (mk,obj))(h:∀k,O k=none->MONw P ro n ops N S0 Q df tab l ((t,mk k)::γ) (O.set k obj)):
  MONw P ro n ops N S0 Q df tab ((e,o)::l) γ O:=by
 show StepNw P ro n ops N S0 Q df tab e o γ O _
 simp only[StepNw,ha]
 exact⟨mk,obj,hn,h⟩
theorem QR{e:Bool}{o:Oper}{l:List (Bool×Oper)}{γ:Fr}{O:Sig}{d:D}(ha:isNw o=none)(hc:Calm P n ops N S0 γ o d)(h:MONw P ro n ops N S0 Q df tab l (putD o.dst d γ) O):
  MONw P ro n ops N S0 Q df tab ((e,o)::l) γ O:=by
 show StepNw P ro n ops N S0 Q df tab e o γ O _
 simp only[StepNw,ha]
 exact .inl ⟨d,hc,h⟩
theorem C0(ht:AP P tab){e:Bool}{t:Nat}{op:Op}{ty:TypeId}{pos:String}{after:Array Edge}{d:D}{l:List (Bool×Oper)}{γ Sr:Fr}{O:Sig}(hr:Db op=true)(ap:decide (t<n)=true)(hl:A1 γ (A7 op.operands.toList)=some Sr)(hd:dopX tab Sr S0 op=some d)
  (h:MONw P ro n ops N S0 Q df tab l ((t,d)::γ) O):MONw P ro n ops N S0 Q df tab ((e,⟨some t,op,ty,pos,after,none⟩)::l) γ O:=by
 have bm:=(B2 (Cn hl)) ▸ hd
 refine QR (d:=d) ?_ ⟨ap,.inl ⟨by rw[Ak];rfl,BH hr,GG ht bm,fun U' hZ g w a hs hT=>?_⟩⟩ h
 ·unfold isNw;split
  ·rename_i bK;cases bK;cases hr
  ·rename_i bK;cases bK;cases hr
  ·rfl
 ·refine DS ht hs hT (?_:dopX tab (only _ γ) U' op=some d)
  rw[B2 (V':=γ) fun x hx=>AR (o:=⟨some t,op,ty,pos,after,none⟩) hx]
  exact DT hZ bm
end
inductive RW where
 |nil
 |full (es:List (List D))
 |row (i cap:Nat) (rest:List D)
def RW.d:RW->Nat->D
 |.nil,_=>.nils
 |.full es,_=>.slice es .clip
 |.row i cap _,n=>.sref i 0 n cap
def RW.is:RW->Nat->Prop
 |.row i _ _,j=>j=i
 |_,_=>False
def RWAt(O:Sig)(sz:Nat):RW->List (List D)->Prop
 |.row i cap rest,es=>O i=some (.cells (es.flatten++rest))/\cap*sz<=(es.flatten++rest).length/\es.length<=cap /\ ∀e∈es,e.length=sz
 |.full es0,es=>es=es0 /\ ∀e∈es,e.length=sz
 |.nil,es=>es=[]
def JX(P:Program)(O:Sig)(sz:Nat)(d:D)(new:List (List D)):Prop:= ∀g w v,Sim P g O w->Rep g d v->∃xa xc,v=.slice xa new.length xc/\new.length<=xc /\ ∃us,RepL g new.flatten us/\us.length=new.length*sz/\(new.length=0 \/ ∃b o,xa=some ⟨b,o,none⟩ /\ ∀j v,us[j]? = some v->w.cell? ⟨b,o+j,none⟩=some v)
theorem RWAt.len{O:Sig}{sz:Nat}{r:RW}{es:List (List D)}(h:RWAt O sz r es): ∀e∈es,e.length=sz:=by
 cases r with
 |row i cap rest=>exact h.2.2.2
 |nil=>obtain rfl:es=[]:=h;simp
 |full es0=>exact h.2
theorem RWAt.keep{O U':Sig}{sz:Nat}{r:RW}{es:List (List D)}(h:RWAt O sz r es)(hk:∀j o,O j=some o->r.is j->U' j=some o):RWAt U' sz r es:=by
 cases r with
 |row i cap rest=>exact⟨hk _ _ h.1 rfl,h.2⟩
 |nil=>exact h
 |full es0=>exact h
theorem RWAt.cells{O:Sig}{sz:Nat}{r:RW}{es:List (List D)}(h:RWAt O sz r es){j:Nat}(hj:r.is j): ∃cs,O j=some (.cells cs):=by
 cases r with
 |row i cap rest=>cases hj;exact⟨_,h.1⟩
 |nil=>exact hj.elim
 |full es0=>exact hj.elim
section
variable {P:Program}{O:Sig}{sz:Nat}
theorem I2{d:D}{new:List (List D)}(h:esOf d=some new)(hl:∀c∈new,c.length=sz):JX P O sz d new:=fun g w v hs hr=>by
 obtain⟨xa,xc,q1,q2,q3⟩:=Co h hr
 exact⟨xa,xc,q1,q2,Cg hs hl q3⟩
theorem L6{i off cap:Nat}{pre rest:List D}{es:List (List D)}(hi:O i=some (.cells (pre++(es.flatten++rest))))(hp:pre.length=off)(hl:∀c∈es,c.length=sz)(hc:es.length<=cap):JX P O sz (.sref i off es.length cap) es:=fun g w v hs hr=>by
 obtain⟨b,hb,rfl⟩:=hr
 obtain⟨b',vs,ty,au,aa,hr⟩:=hs.obj i _ hi
 obtain rfl:b'=b:=by rw[hb]at au;cases au;rfl
 obtain⟨u0,v0,e1,e2,e3⟩:=hr.split
 obtain⟨u,v',f1,f2,f3⟩:=e3.split
 refine⟨_,cap,rfl,hc,u,f2,by rw[RepL.length f2,Ap hl],.inr ⟨b',off,rfl,fun j x hx=>?_⟩⟩
 have hj:j<u.length:=(List.getElem?_eq_some_iff.1 hx).1
 simp only[World.cell?, aa]
 have:vs.toList[off+j]? = some x:=by
  rw[e1,List.getElem?_append_right (by rw[RepL.length e2,hp];omega),RepL.length e2,hp,Nat.add_sub_cancel_left,f1,List.getElem?_append_left hj];exact hx
 simpa using this
theorem RWAt.src{r:RW}{es:List (List D)}(h:RWAt O sz r es):JX P O sz (r.d es.length) es:=by
 cases r with
 |row i cap rest=>exact L6 (pre:=[]) h.1 rfl h.2.2.2 h.2.2.1
 |nil=>obtain rfl:es=[]:=h;exact I2 rfl (by simp)
 |full es0=>obtain⟨rfl,h⟩:=h;exact I2 rfl h
end
section
variable {P:Program}{ro:Ro}{n:Nat}{ops:Array Oper}{Q:DX->St->Prop}{rest:List Oper}{tab:Nat->Ty}{γ:List (Nat×D)}{O:Sig}{df:List DDf}
variable (ht:AP P tab)
include ht
theorem ED{t T T' ty e e' sz:Nat}{s x:Operand}{pos:String}{after:Array Edge}{es new:List (List D)}{r:RW}
  (ap:t<n) (hk:(tab T).k=.slice e) (aO:(tab T').k=.slice e') (he:A0 (tab e).k=false) (hsz:(tab e).size=sz) (h1:ev γ s=r.d es.length) (hm:RWAt O sz r es) (h2:JX P O sz (ev γ x) new)
  (hlen':∀c∈new,c.length=sz) (bG:∀c∈new,BS c=true)
  (hb:(es.length+new.length)*(tab e).bytes<=140737488355328) (hm2:es.length+new.length<=9223372036854775807)
  (h:∀r' U',RWAt U' sz r' (es++new)->(∀j o,O j=some o->¬r.is j->U' j=some o /\ ¬r'.is j)->(new=[]/\r'=r \/ ∃i c rest,r'=.row i c rest)->DOps P ro n ops Q rest ⟨(t,r'.d (es.length+new.length))::γ,U',df⟩) :
  DOps P ro n ops Q (⟨some t,(cA s x T T'),ty,pos,after,none⟩::rest) ⟨γ,O,df⟩:=by
 subst hsz
 refine Cb (fun d U'=> ∃r',RWAt U' (tab e).size r' (es++new)/\(∀j o,O j=some o->¬r.is j->U' j=some o /\ ¬r'.is j)/\(new=[]/\r'=r \/ ∃i c rest,r'=.row i c rest)/\d=r'.d (es.length+new.length)) rfl (fun c e=>by cases e) (B8 rfl rfl) (by simp[At,ap]) ?_
  (fun d U' ⟨r',a1,a2,a4,a3⟩=>by subst a3;exact h r' U' a1 a2 a4)
 intro g w a hs hT
 have aE:=Aq hT s
 have bc:=Aq hT x
 rw[h1]at aE
 obtain⟨base,cap,r1,r2,us,r3,r4,r5⟩:=hm.src g w _ hs aE
 obtain⟨xa,xc,q1,q2,news,v1,v2,v3⟩:=h2 g w _ hs bc
 obtain⟨inf,z,t1,t2,t3,t4,t5,t6,t7⟩:=Bo ht hk aO he
 have bj:=hm.len
 have aI:∀c∈es++new,c.length=(tab e).size:=fun c hc=>(List.mem_append.1 hc).elim (bj c) (hlen' c)
 by_cases ay:new=[]
 ·subst ay
  have cf:news=[]:=List.length_eq_zero_iff.1 (by rw[v2];simp)
  refine⟨g,w,a.eval s,_,O,Ar ?_,.refl g,hs,aE,r,by rw[List.append_nil];exact hm,fun j o hj hn=>⟨hj,hn⟩,.inl ⟨rfl,rfl⟩,by simp⟩
  rw[r1,q1]
  have:=Bl (ty:=ty) t1 t2 t3 (w:=w) (w2:=w) (base:=base) (xa:=xa) (n:=es.length) (cap:=cap) (m:=0) (xc:=xc) (news:=[]) (Ao (by simp) (.inl rfl)) (by omega) (fun b _=>by simp[storeCells,Sem.run]) (fun _=>rfl)
  simpa using this
 have ce:0<new.length:=List.length_pos_iff.2 ay
 by_cases ac:es.length+new.length<=cap
 ·
  cases r with
  |nil=>
   obtain rfl:es=[]:=hm
   have e1:a.eval s=.slice none 0 0:=aE
   rw[e1]at r1;injection r1 with f1 f2 f3
   simp only[List.length_nil]at ac;omega
  |full es0=>
   obtain⟨rfl,hl⟩:=hm
   obtain⟨a',c',e1,e2,_,e3⟩:=aE
   rw[e1]at r1;injection r1 with f1 f2 f3
   simp only at e3;omega
  | row i cap' rest' =>
   obtain⟨m1,m2,m3,m4⟩:=hm
   obtain⟨b,au,hv⟩:=aE
   rw[hv]at r1;injection r1 with f1 f2 f3
   subst f3
   subst f1
   obtain⟨b2,vs,ty',aR,aa,hr⟩:=hs.obj i _ m1
   obtain rfl:b2=b:=by rw[au]at aR;cases aR;rfl
   have br:=RepL.length hr
   simp only[Array.length_toList]at br
   have cB:=Ap m4
   have bX:=Ap hlen'
   have cf:=RepL.length v1
   simp only[List.length_append]at m2 br
   have bz:(es.length+new.length)*(tab e).size<=cap'*(tab e).size:=Nat.mul_le_mul_right _ ac
   rw[Nat.add_mul]at bz
   have bf:=BG (P:=P) news 0 w vs aa (D4 v1 (FH bG)) (o:=es.length*(tab e).size) (by omega)
   have ag:=Bl (ty:=ty) t1 t2 t3 (w:=w) (base:=some ⟨b2,0,none⟩) (xa:=xa) (n:=es.length) (cap:=cap') (m:=new.length) (xc:=xc) (news:=news) (w2:=if news=[] then w else setB w b2 (.cells (Bk vs (0+es.length*(tab e).size) news) ty' (0,0)))
    (Ao (by rw[t5];exact v2) v3) ac (fun a ha=>by cases ha;rw[BF,t5];simpa using bf) (fun h=>by cases h)
   have ay:RepL g (es.flatten++(new.flatten++rest'.drop (new.length*(tab e).size))) (Bk vs (0+es.length*(tab e).size) news).toList:=by
    refine AH (by simp only[List.length_append,List.length_drop,Array.length_toList,CC];omega) fun j d v h1 h2=>?_
    have aB:(Bk vs (0+es.length*(tab e).size) news)[j]? = some v:=by simpa using h2
    rw[CY _ _ _ _ (by omega)]at aB
    simp only[List.getElem?_append]at h1
    have hg:=RepL.get hr j
    by_cases c1:j<es.flatten.length
    ·rw[if_neg (by omega)]at aB
     rw[if_pos c1]at h1
     rw[List.getElem?_append_left c1,h1]at hg
     simp only[Array.getElem?_toList,aB,Option.getD_some]at hg
     exact hg
    ·rw[if_neg c1]at h1
     by_cases c2:j-es.flatten.length<new.flatten.length
     ·rw[if_pos (by omega)]at aB
      rw[if_pos c2]at h1
      have:=RepL.get v1 (j-es.flatten.length)
      rw[h1,show j-es.flatten.length=j-(0+es.length*(tab e).size) by omega,aB]at this
      exact this
     ·rw[if_neg (by omega)]at aB
      rw[if_neg c2,List.getElem?_drop]at h1
      rw[List.getElem?_append_right (by omega),show j-es.flatten.length=new.length*(tab e).size+(j-es.flatten.length-new.flatten.length) by omega,h1]at hg
      simp only[Array.getElem?_toList,aB,Option.getD_some]at hg
      exact hg
   have bL:es.flatten++(new.flatten++rest'.drop (new.length*(tab e).size))=(es++new).flatten++rest'.drop (new.length*(tab e).size):=by simp
   refine⟨g,_,.slice (some ⟨b2,0,none⟩) (es.length+new.length) cap',.sref i 0 (es.length+new.length) cap',O.set i (.cells ((es++new).flatten++rest'.drop (new.length*(tab e).size))),Ar (by rw[hv,q1];exact ag),.refl g,?_,FP au,.row i cap' (rest'.drop (new.length*(tab e).size)),⟨w6 ..,?_,by simpa using ac,aI⟩,fun j o hj hn=>⟨by rw[w7 _ _ hn];exact hj,hn⟩,.inr ⟨_,_,_,rfl⟩,rfl⟩
   ·have aP:=hs.setObj (i:=i) (b:=b2) (ds':=es.flatten++(new.flatten++rest'.drop (new.length*(tab e).size))) (vs':=Bk vs (0+es.length*(tab e).size) news) (ty:=ty') m1 au ay ⟨vs,aa⟩
    rw[bL]at aP
    by_cases hne:news=[]
    ·rw[if_pos hne]
     subst hne
     have b7:setB w b2 (.cells (Bk vs (0+es.length*(tab e).size) []) ty' (0,0))=w:=by
      obtain⟨ak,cr⟩:=Array.getElem?_eq_some_iff.1 aa
      have e:w.heap.setIfInBounds b2 (.cells vs ty' (0,0))=w.heap:=by
       apply Array.ext (by simp);intro k h1 h2;by_cases hk:b2=k
       ·subst hk;simp[cr]
       ·rw[Array.getElem_setIfInBounds_ne _ hk]
      show { w with heap:=w.heap.setIfInBounds b2 (.cells vs ty' (0,0)) }=w
      rw[e]
     rw[b7]at aP;exact aP
    ·rw[if_neg hne];exact aP
   ·simp only[List.flatten_append,List.length_append,List.length_drop];omega
 ·
  obtain⟨c,hc,ag⟩:=DH (ty:=ty) t1 t2 t3 t4 (w:=w) (base:=base) (xa:=xa) (n:=es.length) (cap:=cap) (m:=new.length) (xc:=xc) (olds:=us) (news:=news)
   (Ao (by rw[t5];exact r4) r5) (Ao (by rw[t5];exact v2) v3) (by omega) hm2 (by rw[t6];exact hb)
  obtain⟨i',aJ,bp⟩:=hs.fresh
  let zs:=(Builtin.zeroCells z.cells (c-(es.length+new.length))).toList
  have aW:RepL (g.bind i' w.heap.size) ((es++new).flatten++zs.map Bi) (us++news++zs):=by
   rw[List.flatten_append]
   exact((RepL.mono (G.bind_le aJ) _ r3).append (RepL.mono (G.bind_le aJ) _ v1)).append (Ch _ _)
  have aY:ObjRep P (g.bind i' w.drew.heap.size) { w.drew with heap:=w.drew.heap.push (.cells (us++news++zs).toArray e (0,0)) } i' (.cells ((es++new).flatten++zs.map Bi)):=
   ⟨w.drew.heap.size,(us++news++zs).toArray,e,by simp[G.bind],by exact Array.getElem?_push_size,by simpa using aW⟩
  have aV:=hs.drew.newObj aJ bp rfl aY
  refine⟨_,_,_,.sref i' 0 (es.length+new.length) c,_,Ar (by rw[r1,q1];exact ag),G.bind_le aJ,aV,FP (by simp[G.bind]),.row i' c (zs.map Bi),⟨w6 ..,?_,by simpa using hc,aI⟩,fun j o hj _=>?_,.inr ⟨_,_,_,rfl⟩,rfl⟩
  ·have hz:zs.length=(c-(es.length+new.length))*(tab e).size:=by simp[zs,size_zeroCells,t7]
   simp only[List.length_append,List.length_map,hz,Ap aI,<-Nat.add_mul]
   refine Nat.le_of_eq ?_
   congr 1;omega
  ·have hne:j≠i':=fun e=>by rw[e,bp]at hj;cases hj
   exact⟨by rw[w7 _ _ hne];exact hj,hne⟩
end
section
variable {P:Program}{tab:Nat->Ty}(ht:AP P tab){ro:Ro}{n:Nat}{ops:Array Oper}{Q:DX->St->Prop}{df:List DDf}{rest:List Oper}{γ:List (Nat×D)}{O:Sig}
include ht
theorem Qq{g:G}{w:World}{T e i off len cap:Nat}{k k':IntKind}{v u u':Value}{hi m:Nat}(hk:(tab T).k=.slice e)(he:A0 (tab e).k=false)(hv:Rep g (.sref i off len cap) v)(hu:Rep g (.int k hi) u)(b8:Rep g (.int k' m) u')(bV:hi<=m)(hm:m<=cap):
  ∃r,(Instr.sliceAt T v none (some u) (some u')).run P w=.ok r w/\Rep g (.sref i off hi m) r:=by
 obtain⟨b,hb,rfl⟩:=hv
 obtain rfl:=Bf hu
 obtain rfl:=Bf b8
 refine⟨_,?_,La (len:=hi) (cap:=m) (off:=off) hb⟩
 have hu:=AJ ht hk
 have c1:(0:Int)<=(hi:Int):=by omega
 have c2:(hi:Int)<=(m:Int):=by omega
 have c3:(0:Int)<=(m:Int):=by omega
 have c4:(m:Int)<=(cap:Int):=by omega
 simp only[Option.map_some,Instr.sliceAt,Instr.slice,Instr.sliceBounds,Instr.sliceBound,asIntOf,Sem.run_bind,Sem.run_pure,Result.andThen_ok,run_underlying hu,c1,c2,c3,c4,and_self,if_true,AD (ht e) (Af he),Int.toNat_natCast,Nat.sub_zero,Nat.zero_mul]
 congr 1
 split<;>simp[Addr.add]
theorem KI{t T ty e i off len cap:Nat}{k k':IntKind}{x y z:Operand}{hi m:Nat}{pos:String}{after:Array Edge}
  (h:DOps P ro n ops Q rest ⟨(t,.sref i off hi m)::γ,O,df⟩)
  (ap:t<n) (hk:(tab T).k=.slice e) (he:A0 (tab e).k=false) (h1:ev γ x=.sref i off len cap) (h2:ev γ y=.int k hi) (h3:ev γ z=.int k' m) (bV:hi<=m) (hm:m<=cap) :
  DOps P ro n ops Q (⟨some t,.slice T x none (some y) (some z),ty,pos,after,none⟩::rest) ⟨γ,O,df⟩:=by
 refine Cb (fun d U'=>d=.sref i off hi m/\U'=O) rfl (fun c e=>by cases e) (Ae fun c e=>by cases e) (by simp[At,ap]) ?_
  (fun d U' ⟨a2,a3⟩=>by subst a2 a3;exact h)
 intro g w a hs hT
 have hx:=Aq hT x
 have hy:=Aq hT y
 have hz:=Aq hT z
 rw[h1]at hx
 rw[h2]at hy
 rw[h3]at hz
 obtain⟨r,h4,h5⟩:=Qq (w:=w) ht hk he hx hy hz bV hm
 exact⟨g,w,r,_,O,by simp only[execOp,Option.map_some,Option.map_none,Sem.run_bind,h4,Result.andThen_ok,Sem.run_pure],.refl g,hs,h5,rfl,rfl⟩
omit ht in
theorem LL{i j c sz:Nat}{es:List (List D)}{r az bs:List D}(hj:O j=some (.cells (es.flatten++r)))(hi:O i=some (.cells (az ++ .sref j 0 es.length c::bs)))(cq:i≠j)(m3:es.length<=c)(m4:∀e∈es,e.length=sz):Wk P n ⟨γ,O,df⟩ ⟨γ,(O.del j).set i (.cells (az ++ .slice es .no::bs)),df⟩:=by
 intro g w a hs
 obtain⟨b,_,_,hb,_,_⟩:=hs.sim.obj j _ hj
 obtain⟨g',aT,am,bw⟩:=hs.sim.freeze (i:=j) hj hb
 have aJ:(O.del j) i=some (.cells (az ++ .sref j 0 es.length c::bs)):=by simp only[Sig.del,cq,if_false];exact hi
 simp only at am
 refine⟨g',aT,⟨am.retell aJ fun vs=>Im fun v hv=>?_,hs.tmps.mono aT,hs.df.mono aT⟩⟩
 obtain⟨b',au,hv⟩:=hv
 obtain rfl:b'=b:=by have:=aT.rho _ _ hb;rw[this]at au;cases au;rfl
 exact⟨_,c,hv,m3,.inr ⟨sz,b',0,rfl,Es m4 bw⟩,trivial⟩
end
section
variable {P:Program}{n:Nat}{γ:List (Nat×D)}{O:Sig}{df:List DDf}
theorem BW{i sz:Nat}{r:RW}{es:List (List D)}{az bs:List D}(hm:RWAt O sz r es)(hi:O i=some (.cells (az++r.d es.length::bs)))(cg:¬r.is i):
  ∃U',Wk P n ⟨γ,O,df⟩ ⟨γ,U',df⟩/\U' i=some (.cells (az ++ .slice es .no::bs)) /\ ∀j o,O j=some o->j≠i->¬r.is j->U' j=some o:=by
 cases r with
 |nil=>
  obtain rfl:es=[]:=hm
  exact⟨_,Hs hi (An _ (.inl rfl)),w6 .., fun j o hj bk _=>by rw[w7 _ _ bk];exact hj⟩
 |full es0=>
  obtain⟨rfl,_⟩:=hm
  exact⟨_,Hs hi (BY _ _),w6 .., fun j o hj bk _=>by rw[w7 _ _ bk];exact hj⟩
 | row k cap rest =>
  obtain⟨m1,m2,m3,m4⟩:=hm
  have cp:i≠k:=cg
  exact⟨_,LL m1 hi cp m3 m4,w6 .., fun j o hj bk bD=>by
   rw[w7 _ _ bk]
   have:j≠k:=bD
   simp only[Sig.del,this,if_false];exact hj⟩
theorem Gk{t sz:Nat}{r:RW}{es:List (List D)}(hm:RWAt O sz r es)(hg:getD γ t=r.d es.length):
  ∃U',Wk P n ⟨γ,O,df⟩ ⟨(t,.slice es .no)::γ,U',df⟩ /\ ∀j o,O j=some o->¬r.is j->U' j=some o:=by
 cases r with
 |nil=>
  obtain rfl:es=[]:=hm
  exact⟨O,BL (by rw[hg];exact An _ (.inl rfl)),fun j o h _=>h⟩
 |full es0=>
  obtain⟨rfl,_⟩:=hm
  exact⟨O,BL (by rw[hg];exact BY _ _),fun j o h _=>h⟩
 | row k cap rest =>
  obtain⟨m1,m2,m3,m4⟩:=hm
  refine⟨O.del k,fun g w a hs=>?_,fun j o hj bD=>by
   have:j≠k:=bD
   simp only[Sig.del,this,if_false];exact hj⟩
  have bW:=hs.tmps.2 t
  rw[hg]at bW
  obtain⟨b,hb,hv⟩:=bW
  obtain⟨g',aT,am,bw⟩:=hs.sim.freeze (i:=k) m1 hb
  refine⟨g',aT,⟨am,⟨hs.tmps.1,fun q=>?_⟩,hs.df.mono aT⟩⟩
  rw[A3]
  by_cases hq:q=t
  ·rw[if_pos hq,hq]
   exact⟨_,cap,hv,m3,.inr ⟨sz,b,0,rfl,Es m4 bw⟩,trivial⟩
  ·rw[if_neg hq];exact Rep.mono aT _ (hs.tmps.2 q)
end
section
variable {P:Program}{ro:Ro}{n:Nat}{ops:Array Oper}{Q:DX->St->Prop}{rest:List Oper}{tab:Nat->Ty}{γ:List (Nat×D)}{O:Sig}{df:List DDf}
variable (ht:AP P tab)
include ht
theorem VJ{t T T' ty e:Nat}{x:Operand}{s:List UInt8}{pos:String}{after:Array Edge}{gd:Option (Nat×Bool)}
  (h:DOps P ro n ops Q rest ⟨(t,.str s)::γ,O,df⟩) (hw:AC ops γ ⟨some t,.convert T T' x,ty,pos,after,gd⟩=some true) (ap:t<n) (hk:(tab T).k=.slice e) (aO:(tab T').k=.str) (bT:(tab e).k=.int .u8) (h1:esOf (ev γ x)=some (s.map fun b=>[D.int .u8 (b.toNat:Int)])) :
  DOps P ro n ops Q (⟨some t,.convert T T' x,ty,pos,after,gd⟩::rest) ⟨γ,O,df⟩:=by
 refine Cb (fun d U'=>d=.str s/\U'=O) hw (fun c e=>by cases e) (Ae fun c e=>by cases e) (by simp[At,ap]) ?_
  (fun d U' ⟨a2,a3⟩=>by subst a2 a3;exact h)
 intro g w a hs hT
 have bc:=Aq hT x
 obtain⟨xa,xc,q1,q2,q3⟩:=Co h1 bc
 obtain⟨vs,v1,v2,v3⟩:=Cg hs (sz:=1) (fun c hc=>by obtain⟨b,_,rfl⟩:=List.mem_map.1 hc;rfl) q3
 have ag:(convert T T' (a.eval x)).run P w=.ok (.string ⟨s.toArray⟩) w:=by
  rw[q1]
  cases xa with
  | none =>
   have b9:s=[]:=by
    rcases v3 with h|⟨b,o,h,_⟩
    ·simpa using h
    ·cases h
   subst b9
   exact run_convert_bytes_nil w T e (AJ ht hk) (Nk ht bT) _ _ T' (Iz ht aO)
  | some ad =>
   rw[List.length_map]
   refine run_convert_bytes_back w T T' e ad xc s (AJ ht hk) (Nk ht bT) (Iz ht aO) fun j hj=>?_
   rcases v3 with h|⟨b,o,h,hc⟩
   ·rw[List.length_map]at h;omega
   ·cases h
    have bG:∀l:List UInt8,(l.map fun b=>[D.int .u8 (b.toNat:Int)]).flatten=l.map fun b=>D.int .u8 (b.toNat:Int):=fun l=>by
     induction l with
     |nil=>rfl
     |cons y l ih=>rw[List.map_cons,List.flatten_cons,ih];rfl
    rw[bG]at v1
    have hg:=RepL.get v1 j
    rw[List.getElem?_map,List.getElem?_eq_getElem hj]at hg
    have bU:j<vs.length:=by rw[v2,List.length_map];omega
    rw[List.getElem?_eq_getElem bU]at hg
    simp only[Option.map_some]at hg
    have:=hc j _ (List.getElem?_eq_getElem bU)
    rw[show vs[j]=.int .u8 ((s[j]).toNat:Int) from Bf hg]at this
    have aX:(⟨b,o,none⟩:Addr).add j=⟨b,o+j,none⟩:=by unfold Addr.add;split<;>simp_all
    rw[aX]
    exact this
 exact⟨g,w,.string ⟨s.toArray⟩,.str s,O,by simp only[execOp];rw[Sem.run_bind,ag];rfl,.refl g,hs,rfl,rfl,rfl⟩
end
def byteD(b:UInt8):List D:=[D.int .u8 (b.toNat:Int)]
@[simp] theorem byteD_len(b:UInt8):(byteD b).length=1:=rfl
theorem IC(l:List UInt8):Lib.strCells ⟨l.toArray⟩=l.map fun b=>Value.int .u8 (b.toNat:Int):=by simp[Lib.strCells]
theorem PX(l:List UInt8):ByteArray.size ⟨l.toArray⟩=l.length:=by simp[ByteArray.size]
section
variable {P:Program}{T T' ty e:TypeId}{i:TypeInfo}{z:Value}(ht:P.underlying T=some (.slice e))(bq:P.underlying T'=some .string)(hi:P.info? e=some i)
include ht bq hi
theorem Fk{w w2:World}{base:Option Addr}{n cap:Nat}{s:ByteArray}(ac:n+s.size<=cap)
  (bf:∀a,base=some a->(storeCells (a.add (n*i.size)) (Lib.strCells s)).run P w=.ok () w2) (cd:base=none->w2=w) :
  (Builtin.append_ #[T,T'] ty #[.slice base n cap,.string s]).run P w=.ok (.slice base (n+s.size) cap) w2:=by
 have bY:=Lib.run_firstCells_string (P:=P) w i.size s
 cases base with
 |none=>simp[Builtin.append_,run_underlying ht,run_underlying bq,sizeOf,typeInfo,hi,Builtin.lenOf,ac,bY,cd rfl]
 |some a=>simp[Builtin.append_,run_underlying ht,run_underlying bq,sizeOf,typeInfo,hi,Builtin.lenOf,ac,bY,bf a rfl]
theorem Ih(hz:i.zero=some z){w:World}{base:Option Addr}{n cap:Nat}{s:ByteArray}{olds:List Value}
  (cu:(Builtin.firstCells i.size n (.slice base n cap)).run P w.drew=.ok olds.toArray w.drew)
  (hg:cap<n+s.size) (cD:n+s.size<=9223372036854775807) (bH:(n+s.size)*i.bytes<=140737488355328) :
  ∃c,n+s.size<=c/\(Builtin.append_ #[T,T'] ty #[.slice base n cap,.string s]).run P w =
   .ok (.slice (some ⟨w.heap.size,0,none⟩) (n+s.size) c) { w.drew with heap:=w.heap.push (.cells (olds++Lib.strCells s++(Builtin.zeroCells z.cells (c-(n+s.size))).toList).toArray e (0,0)) }:=by
 refine⟨grownCap w (n+s.size) cap e,grownCap_ge w (n+s.size) cap e,?_⟩
 have bX:=Lib.run_firstCells_string (P:=P) w.drew i.size s
 have hn:¬(n+s.size<=cap):=by omega
 have bN:¬(9223372036854775807<((n:Int)+(s.size:Int))):=by omega
 have hf:=growslice_fits hg bH
 have bO:¬(281474976710656<Builtin.nextslicecap (n+s.size) cap*i.bytes):=by omega
 simp[Builtin.append_,run_underlying ht,run_underlying bq,sizeOf,typeInfo,zeroValue,hi,hz,Builtin.lenOf,hn,bN,bO,Question.forced,cu,bX,newRow,grownCap]
 have e':∀Z:Array Value,olds.toArray++((Lib.strCells s).toArray++Z)=(olds++(Lib.strCells s++Z.toList)).toArray:=fun Z=>by apply Array.ext';simp
 rw[e']
 rfl
end
def byteC(b:UInt8):D:=.int .u8 (b.toNat:Int)
theorem Ka{g:G}: ∀l:List UInt8,RepL g (l.map byteC) (l.map fun b=>Value.int .u8 (b.toNat:Int))
 |[]=>rfl
 |x::l=>⟨_,_,rfl,rfl,Ka l⟩
abbrev BR:=Option (Nat×Nat×List D)
def BR.d:BR->Nat->D
 |none,_=>.nils
 |some (i,cap,_),n=>.sref i 0 n cap
def BR.is:BR->Nat->Prop
 |none,_=>False
 |some (i,_,_),j=>j=i
def BRAt(e:Nat)(O:Sig):BR->List UInt8->Prop
 |none,bs=>bs=[]
 |some (i,cap,rest),bs=>O i=some (.tcells e (bs.map byteC++rest))/\bs.length+rest.length=cap
section
variable {P:Program}{ro:Ro}{n:Nat}{ops:Array Oper}{Q:DX->St->Prop}{rest:List Oper}{tab:Nat->Ty}{γ:List (Nat×D)}{O:Sig}{df:List DDf}
variable (ht:AP P tab)
include ht
theorem TI{t T T' ty e:Nat}{s x:Operand}{pos:String}{after:Array Edge}{bs str:List UInt8}{r:BR}
  (ap:t<n) (hk:(tab T).k=.slice e) (aO:(tab T').k=.str) (he:A0 (tab e).k=false) (hsz:(tab e).size=1) (cw:(tab e).bytes=1) (h1:ev γ s=r.d bs.length) (hm:BRAt e O r bs) (h2:ev γ x=.str str)
  (hb:bs.length+str.length<=140737488355328)
  (h:∀r' U',BRAt e U' r' (bs++str)->(∀j o,O j=some o->¬r.is j->U' j=some o /\ ¬r'.is j)->DOps P ro n ops Q rest ⟨(t,r'.d (bs++str).length)::γ,U',df⟩) :
  DOps P ro n ops Q (⟨some t,(cA s x T T'),ty,pos,after,none⟩::rest) ⟨γ,O,df⟩:=by
 refine Cb (fun d U'=> ∃r',BRAt e U' r' (bs++str)/\(∀j o,O j=some o->¬r.is j->U' j=some o /\ ¬r'.is j)/\d=r'.d (bs++str).length) rfl (fun c e=>by cases e) (B8 rfl rfl) (by simp[At,ap]) ?_
  (fun d U' ⟨r',a1,a2,a3⟩=>by subst a3;exact h r' U' a1 a2)
 intro g w a hs hT
 have aE:=Aq hT s
 have bc:=Aq hT x
 rw[h1]at aE
 rw[h2]at bc
 have q1:a.eval x=.string ⟨str.toArray⟩:=bc
 have aS:=PX str
 obtain⟨inf,z,t1,_,t3,t4,t5,t6,t7⟩:=Bo ht hk hk he
 have t2:=Iz ht aO
 have bZ:=IC str
 have v1:=Ka (g:=g) str
 have bR:(str.map fun b=>Value.int .u8 (b.toNat:Int)).length=str.length:=by simp
 have bn:∀u∈(str.map fun b=>Value.int .u8 (b.toNat:Int)),u.oneCell'=true:=fun u hu=>by obtain⟨b,_,rfl⟩:=List.mem_map.1 hu;rfl
 generalize cz:(str.map fun b=>Value.int .u8 (b.toNat:Int))=us at*
 obtain⟨base,cap,olds,r1,r2,r3,r4,r5⟩:∃base cap olds,a.eval s=.slice base bs.length cap/\bs.length<=cap/\RepL g (bs.map byteC) olds/\olds.length=bs.length/\(bs.length=0 \/ ∃b o,base=some ⟨b,o,none⟩ /\ ∀j v,olds[j]? = some v->w.cell? ⟨b,o+j,none⟩=some v):=by
  cases r with
  |none=>
   obtain rfl:bs=[]:=hm
   exact⟨none,0,[],aE,Nat.le_refl _,rfl,rfl,.inl rfl⟩
  |some y=>
   obtain⟨i,cap,rest'⟩:=y
   obtain⟨m1,m2⟩:=hm
   obtain⟨b,au,hv⟩:=aE
   obtain⟨b2,vs,aR,aa,hr⟩:=hs.obj i _ m1
   obtain rfl:b2=b:=by rw[au]at aR;cases aR;rfl
   obtain⟨u,v',e1,e2,e3⟩:=hr.split
   refine⟨_,cap,u,hv,by omega,e2,by rw[RepL.length e2];simp,.inr ⟨b2,0,rfl,fun j x hx=>?_⟩⟩
   have hj:j<u.length:=(List.getElem?_eq_some_iff.1 hx).1
   simp only[World.cell?, aa,Nat.zero_add]
   have:vs.toList[j]? = some x:=by rw[e1,List.getElem?_append_left hj];exact hx
   simpa using this
 by_cases ay:str=[]
 ·subst ay
  refine⟨g,w,a.eval s,_,O,Ar ?_,.refl g,hs,aE,r,by rw[List.append_nil];exact hm,fun j o hj hn=>⟨hj,hn⟩,by rw[List.append_nil]⟩
  rw[r1,q1]
  have:=Fk (ty:=ty) t1 t2 t3 (w:=w) (w2:=w) (base:=base) (n:=bs.length) (cap:=cap) (s:=⟨[].toArray⟩) (by rw[aS];simpa using r2) (fun b _=>by rw[IC];simp[storeCells,Sem.run]) (fun _=>rfl)
  rw[aS]at this
  simpa using this
 have ca:0<str.length:=List.length_pos_iff.2 ay
 by_cases ac:bs.length+str.length<=cap
 ·cases r with
  |none=>
   have e1:a.eval s=.slice none 0 0:=aE
   rw[e1]at r1;injection r1 with f1 f2 f3
   omega
  | some y =>
   obtain⟨i,cap',rest'⟩:=y
   obtain⟨m1,m2⟩:=hm
   obtain⟨b,au,hv⟩:=aE
   rw[hv]at r1;injection r1 with f1 f2 f3
   subst f3
   subst f1
   obtain⟨b2,vs,aR,aa,hr⟩:=hs.obj i _ m1
   obtain rfl:b2=b:=by rw[au]at aR;cases aR;rfl
   have br:=RepL.length hr
   simp only[Array.length_toList,List.length_append,List.length_map]at br
   have bf:=BG (P:=P) us 0 w vs aa bn (o:=bs.length) (by omega)
   have hne:us≠[]:=fun e=>by rw[e]at bR;simp at bR;omega
   have ag:=Fk (ty:=ty) t1 t2 t3 (w:=w) (base:=some ⟨b2,0,none⟩) (n:=bs.length) (cap:=cap') (s:=⟨str.toArray⟩) (w2:=if us=[] then w else setB w b2 (.cells (Bk vs bs.length us) e (0,0)))
    (by rw[aS];exact ac) (fun a ha=>by cases ha;rw[BF,t5,hsz,bZ];simpa using bf) (fun h=>by cases h)
   rw[aS,if_neg hne]at ag
   have bi:RepL g ((bs++str).map byteC++rest'.drop str.length) (Bk vs bs.length us).toList:=by
    refine AH (by simp only[List.length_append,List.length_drop,List.length_map,Array.length_toList,CC];omega) fun j d v h1 h2=>?_
    have aB:(Bk vs bs.length us)[j]? = some v:=by simpa using h2
    rw[CY _ _ _ _ (by omega)]at aB
    rw[List.map_append,List.append_assoc]at h1
    simp only[List.getElem?_append,List.length_map]at h1
    have hg:=RepL.get hr j
    by_cases c1:j<bs.length
    ·rw[if_neg (by omega)]at aB
     rw[if_pos c1]at h1
     rw[List.getElem?_append_left (by simpa using c1),h1]at hg
     simp only[Array.getElem?_toList,aB,Option.getD_some]at hg
     exact hg
    ·rw[if_neg c1]at h1
     by_cases c2:j-bs.length<str.length
     ·rw[if_pos (by omega)]at aB
      rw[if_pos c2]at h1
      have:=RepL.get v1 (j-bs.length)
      rw[h1,aB]at this
      exact this
     ·rw[if_neg (by omega)]at aB
      rw[if_neg c2,List.getElem?_drop]at h1
      rw[List.getElem?_append_right (by simp;omega),List.length_map,show j-bs.length=str.length+(j-bs.length-str.length) by omega,h1]at hg
      simp only[Array.getElem?_toList,aB,Option.getD_some]at hg
      exact hg
   refine⟨g,_,.slice (some ⟨b2,0,none⟩) (bs.length+str.length) cap',.sref i 0 (bs.length+str.length) cap',O.set i (.tcells e ((bs++str).map byteC++rest'.drop str.length)),Ar (by rw[hv,q1];exact ag),.refl g,?_,FP au,some (i,cap',rest'.drop str.length),⟨w6 ..,?_⟩,fun j o hj hn=>⟨by rw[w7 _ _ hn];exact hj,hn⟩,by rw[List.length_append];rfl⟩
   ·exact hs.setAny m1 rfl rfl au aa ⟨b2,_,au,EP aa,bi⟩
   ·simp only[List.length_append,List.length_drop];omega
 ·obtain⟨c,hc,ag⟩:=Ih (ty:=ty) t1 t2 t3 t4 (w:=w) (base:=base) (n:=bs.length) (cap:=cap) (s:=⟨str.toArray⟩) (olds:=olds)
   (Ao (by rw[t5,hsz,Nat.mul_one];exact r4) r5) (by rw[aS];omega) (by rw[aS];omega) (by rw[t6,cw,aS,Nat.mul_one];exact hb)
  rw[bZ,aS]at ag
  rw[aS]at hc
  obtain⟨i',aJ,bp⟩:=hs.fresh
  let zs:=(Builtin.zeroCells z.cells (c-(bs.length+str.length))).toList
  have aW:RepL (g.bind i' w.heap.size) ((bs++str).map byteC++zs.map Bi) (olds++us++zs):=by
   rw[List.map_append]
   exact((RepL.mono (G.bind_le aJ) _ r3).append (RepL.mono (G.bind_le aJ) _ v1)).append (Ch _ _)
  have aY:ObjRep P (g.bind i' w.drew.heap.size) { w.drew with heap:=w.drew.heap.push (.cells (olds++us++zs).toArray e (0,0)) } i' (.tcells e ((bs++str).map byteC++zs.map Bi)):=
   ⟨w.drew.heap.size,(olds++us++zs).toArray,by simp[G.bind],by exact Array.getElem?_push_size,by simpa using aW⟩
  have aV:=hs.drew.newObj aJ bp rfl aY
  refine⟨_,_,_,.sref i' 0 (bs.length+str.length) c,_,Ar (by rw[r1,q1];exact ag),G.bind_le aJ,aV,FP (by simp[G.bind]),some (i',c,zs.map Bi),⟨w6 ..,?_⟩,fun j o hj _=>?_,by rw[List.length_append];rfl⟩
  ·have hz:zs.length=c-(bs.length+str.length):=by simp[zs,size_zeroCells,t7,hsz]
   simp only[List.length_append,List.length_map,hz];omega
  ·have hne:j≠i':=fun e=>by rw[e,bp]at hj;cases hj
   exact⟨by rw[w7 _ _ hne];exact hj,hne⟩
theorem NK{t T:Nat}{ty:TypeId}{pos:String}{after:Array Edge}(hk:A0 (tab T).k=false)(ap:t<n)
  (h:∀i,O i=none->DOps P ro n ops Q rest ⟨(t,.ptr i 0)::γ,O.set i (.tcells T (tab T).zero),df⟩) :
  DOps P ro n ops Q (⟨some t,.alloc T,ty,pos,after,none⟩::rest) ⟨γ,O,df⟩:=by
 refine Hn (mk:=fun i=>.ptr i 0) (d:=.tcells T (tab T).zero) rfl (fun c e=>by cases e) (Ae fun c e=>by cases e) (by simp[At,ap]) rfl ?_ h
 intro g w a hs hT
 obtain⟨z,hz,b6,cy⟩:=CM (ht T) (Af hk) w
 refine⟨.cells z.cells T,.pointer (some ⟨w.heap.size,0,none⟩),?_,fun i hi=>⟨⟨w.heap.size,z.cells,by simp[G.bind],by simp,?_⟩,w.heap.size,by simp[G.bind],rfl⟩⟩
 ·simp only[execOp,Instr.alloc,Sem.run_bind,hz,Result.andThen_ok,newVar,CG]
  rfl
 ·rw[b6];exact Ch _ _
end
end Go.DL
