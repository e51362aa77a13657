/- A part of the proof. -/
import Derived.Test.YteldimffglchkaaGreatDoorM19
import Derived.Test.YteldimffglchkaaGreatDoorM18
import Derived.Test.YteldimffglchkaaGreatDoorM10
set_option linter.all false
namespace Go.DL
open Go.Proofs.Tryz
open Go Go.Proofs
def FE {S:Type} (p:BProg) (c:CProg) (env:Int) (next:Bool) (step:Nat->CLev->S->Option S):Nat->Nat->Met->S->Option S
 |0,_,_,s=>some s
 | f+1,q,met,s=>match met q with
  |none=>FE p c env next step f (q+1) met s
  | some l=>match Eb p c env next q (AC c q) l met with
   |none=>none
   |some m=>match step q l s with
    |none=>none
    |some s'=>FE p c env next step f (q+1) m s'
def Bz{S:Type}(p:BProg)(c:CProg)(x:CSt)(step:Nat->CLev->S->Option S)(s:S):Option S:=
 if x.pos<0\/(c.ins.length:Int)<=x.pos then none else FE p c x.env x.next step (c.ins.length-x.pos.toNat) x.pos.toNat (updM (fun _=>none) x.pos.toNat ⟨0,x.env⟩) s
def Nm(k:Nat)(l:CLev)(W:Met):Option Met:=if W k≠none/\W k≠some l then none else some (updM W k l)
open Classical in
noncomputable def mrgF(q N:Nat)(W w:Met):Option Met:=
 if ∀k,q<=k->k<N->W k=none\/w k=none\/W k=w k then some (fun k=>if q<=k/\k<N then(match w k with|none=>W k|some x=>some x) else W k) else none
section
variable {p:BProg}{c:CProg}{env:Int}{next:Bool}
theorem NO (hf : ∀ q:Nat,(AC c q).op=17\/(AC c q).op=18->(q:Int) < (AC c q).a) : ∀ (f q:Nat) (met W:Met),FE p c env next Nm f q met W=match Dm p c env next f q met with
  |none=>none
  |some w=>mrgF q (q+f) W w
 |0,q,met,W=>by
  rw[FE,Dm]
  simp only[mrgF]
  rw[if_pos (fun k h1 h2=>by omega)]
  congr 1;funext k;rw[if_neg (by omega)]
 | f+1,q,met,W=>by
  rw[FE,Dm]
  have ih:=NO hf f (q+1)
  cases hq:met q with
  | none =>
   simp only
   rw[ih]
   cases hs:Dm p c env next f (q+1) met with
   |none=>rfl
   | some w =>
    have hw:w q=none:=by rw[Dx hf f (q+1) met w hs q (by omega),hq]
    rw[show q+1+f=q+(f+1) by omega]
    simp only[mrgF]
    have e:(∀k,q+1<=k->k<q+(f+1)->W k=none\/w k=none\/W k=w k) ↔ (∀k,q<=k->k<q+(f+1)->W k=none\/w k=none\/W k=w k):=
     ⟨fun h k h1 h2=>Decidable.byCases (fun e:k=q=>by subst e;exact .inr (.inl hw)) fun e=>h k (by omega) h2,fun h k h1 h2=>h k (by omega) h2⟩
    by_cases hc:∀k,q<=k->k<q+(f+1)->W k=none\/w k=none\/W k=w k
    ·rw[if_pos (e.2 hc),if_pos hc]
     congr 1;funext k
     by_cases hk:k=q
     ·subst hk;rw[if_neg (by omega),if_pos (by omega),hw]
     ·by_cases h:q<=k/\k<q+(f+1)
      ·rw[if_pos h,if_pos (by omega)]
      ·rw[if_neg h,if_neg (by omega)]
    ·rw[if_neg hc,if_neg (fun h=>hc (e.1 h))]
  | some l =>
   simp only
   have hi:(c.ins[q]?).getD ⟨0,0⟩=AC c q:=rfl
   rw[hi]
   cases ag:Eb p c env next q (AC c q) l met with
   |none=>rfl
   | some m =>
    simp only
    have aU:m q=some l:=by
     rcases Ky ag (hf q) q with h|⟨h,_⟩
     ·rw[h,hq]
     ·omega
    cases hg:Nm q l W with
    | none =>
     simp only
     cases hs:Dm p c env next f (q+1) m with
     |none=>rfl
     | some w =>
      have hw:w q=some l:=by rw[Dx hf f (q+1) m w hs q (by omega),aU]
      unfold Nm at hg
      split at hg
      ·rename_i hc
       simp only[mrgF]
       rw[if_neg]
       intro h
       rcases h q (by omega) (by omega)with h|h|h
       ·exact hc.1 h
       ·rw[hw]at h;cases h
       ·rw[hw]at h;exact hc.2 h
      ·cases hg
    | some V =>
     simp only
     rw[ih]
     cases hs:Dm p c env next f (q+1) m with
     |none=>rfl
     | some w =>
      have hw:w q=some l:=by rw[Dx hf f (q+1) m w hs q (by omega),aU]
      unfold Nm at hg
      split at hg
      ·cases hg
      ·rename_i hc
       cases hg
       have bu:W q=none\/W q=some l:=by
        cases h:W q with
        |none=>exact .inl rfl
        |some y=>right;exact Classical.byContradiction fun h2=>hc ⟨by rw[h];simp,by rw[h];exact h2⟩
       rw[show q+1+f=q+(f+1) by omega]
       simp only[mrgF]
       have hu:∀k,k≠q->updM W q l k=W k:=fun k hk=>by unfold updM;rw[if_neg hk]
       have e:(∀k,q+1<=k->k<q+(f+1)->updM W q l k=none\/w k=none\/updM W q l k=w k) ↔ (∀k,q<=k->k<q+(f+1)->W k=none\/w k=none\/W k=w k):=
        ⟨fun h k h1 h2=>by
         by_cases e:k=q
         ·subst e;rw[hw];rcases bu with h|h
          ·exact .inl h
          ·exact .inr (.inr h)
         ·have:=h k (by omega) h2;rwa [hu k e]at this,fun h k h1 h2=>by rw[hu k (by omega)];exact h k (by omega) h2⟩
       by_cases aE:∀k,q<=k->k<q+(f+1)->W k=none\/w k=none\/W k=w k
       ·rw[if_pos (e.2 aE),if_pos aE]
        congr 1;funext k
        by_cases hk:k=q
        ·subst hk;rw[if_neg (by omega),if_pos (by omega),hw];unfold updM;rw[if_pos rfl]
        ·rw[hu k hk]
         by_cases h:q<=k/\k<q+(f+1)
         ·rw[if_pos h,if_pos (by omega)]
         ·rw[if_neg h,if_neg (by omega)]
       ·rw[if_neg aE,if_neg (fun h=>aE (e.1 h))]
theorem Fg{N:Nat}{met m:Met}{n:Int}{l:CLev}(h:BG N met n l=some m)(hm:∀j,N<=j->met j=none): ∀j,N<=j->m j=none:=fun j hj=>by
 rcases reach_at h j with e|⟨e,_⟩
 ·rw[e];exact hm j hj
 ·unfold BG at h
  split at h
  ·cases h
  ·rename_i hc;exfalso;omega
theorem step_hi {q:Nat} {x:CIns} {l:CLev} {met m:Met} (h:Eb p c env next q x l met=some m) (hm : ∀ j,c.ins.length<=j->met j=none) : ∀ j,c.ins.length<=j->m j=none:=by
 unfold Eb at h
 split at h
 ·cases h
 ·split at h
  ·split at h
   ·cases h;exact hm
   ·cases h
  ·split at h
   ·exact Fg h hm
   ·split at h
    ·exact Fg h hm
    ·split at h
     ·exact Fg h hm
     ·split at h
      ·split at h
       ·cases h
       ·rename_i m1 h1
        exact Fg h (Fg h1 hm)
      ·exact Fg h hm
theorem N7: ∀(f q:Nat) (met m:Met),Dm p c env next f q met=some m->(∀j,c.ins.length<=j->met j=none)->∀j,c.ins.length<=j->m j=none
 |0,_,_,_,h,hm=>by cases h;exact hm
 | f+1,q,met,m,h,hm=>by
  rw[Dm]at h
  split at h
  ·exact N7 f _ _ _ h hm
  ·split at h
   ·cases h
   ·rename_i m1 h1
    exact N7 f _ _ _ h (step_hi h1 hm)
theorem TU(hf:∀q:Nat,(AC c q).op=17\/(AC c q).op=18->(q:Int)<(AC c q).a)(x:CSt)(W:Met):Bz p c x Nm W=match wayM p c x with
  |none=>none
  |some w=>mrgM c.ins.length W w:=by
 unfold Bz wayM
 split
 ·rfl
 ·rename_i hx
  rw[NO hf]
  cases hs:Dm p c x.env x.next (c.ins.length-x.pos.toNat) x.pos.toNat (updM (fun _=>none) x.pos.toNat ⟨0,x.env⟩)with
  |none=>rfl
  | some w =>
   simp only
   have aV:∀k,k<x.pos.toNat->w k=none:=fun k hk=>by rw[Dx hf _ _ _ _ hs k hk];unfold updM;rw[if_neg (by omega)]
   have bn:∀k,c.ins.length<=k->w k=none:=N7 _ _ _ _ hs fun j hj=>by unfold updM;rw[if_neg (by omega)]
   rw[show x.pos.toNat+(c.ins.length-x.pos.toNat)=c.ins.length by omega]
   unfold mrgF mrgM
   have e:(∀k,x.pos.toNat<=k->k<c.ins.length->W k=none\/w k=none\/W k=w k) ↔ ((List.range c.ins.length).all (fun k=>W k=none||w k=none||W k=w k)=true):=by
    rw[List.all_eq_true]
    constructor
    ·intro h k hk
     simp only[Bool.or_eq_true,decide_eq_true_eq]
     by_cases h1:x.pos.toNat<=k
     ·rcases h k h1 (by simpa using hk)with h|h|h
      ·exact .inl (.inl h)
      ·exact .inl (.inr h)
      ·exact .inr h
     ·exact .inl (.inr (aV k (by omega)))
    ·intro h k _ h2
     have:=h k (by simpa using h2)
     simp only[Bool.or_eq_true,decide_eq_true_eq]at this
     rcases this with(h|h)|h
     ·exact .inl h
     ·exact .inr (.inl h)
     ·exact .inr (.inr h)
   by_cases hc:∀k,x.pos.toNat<=k->k<c.ins.length->W k=none\/w k=none\/W k=w k
   ·rw[if_pos hc,if_pos (e.1 hc)]
    congr 1;funext k
    split
    ·rfl
    ·have:w k=none:=by
      by_cases h:k<x.pos.toNat
      ·exact aV k h
      ·exact bn k (by omega)
     rw[this]
   ·rw[if_neg hc,if_neg (fun h=>hc (e.2 h))]
end
abbrev MetL:=List (Int×CLev)
def metOf(m:MetL):Met:=fun j=>if hasM (j:Int) m then some (getM ⟨0,0⟩ (j:Int) m) else none
theorem QW:metOf []=fun _=>none:=rfl
theorem CR(m:MetL)(n:Nat)(l:CLev):metOf (putM (n:Int) l m)=updM (metOf m) n l:=by
 funext j
 unfold metOf updM
 rw[Gl,Em]
 by_cases e:j=n
 ·subst e;simp
 ·have e':¬((j:Int)=n):=fun h=>e (by omega)
  simp[e,e']
def F1(k:Nat)(l:CLev)(W:MetL):Option MetL:=if hasM (k:Int) W=true/\getM ⟨0,0⟩ (k:Int) W≠l then none else some (putM (k:Int) l W)
theorem Ut(k:Nat)(l:CLev)(W:MetL):Nm k l (metOf W)=(F1 k l W).map metOf:=by
 unfold Nm F1 metOf
 cases h:hasM (k:Int) W with
 |false=>simp only[Bool.false_eq_true,if_false,false_and];rw[if_neg (by simp)];show _=some (metOf _);rw[CR];rfl
 |true=>
  simp only[if_true,true_and]
  by_cases e:getM ⟨0,0⟩ (k:Int) W=l
  ·rw[if_neg (fun h=>h.2 (by rw[e])),if_neg (fun h=>h e)];show _=some (metOf _);rw[CR];rfl
  ·rw[if_pos ⟨by simp,by simpa using e⟩,if_pos e];rfl
theorem HO{S T:Type}{p:BProg}{c:CProg}{env:Int}{next:Bool}{f:S->T}{g:Nat->CLev->S->Option S}{h:Nat->CLev->T->Option T}(e:∀k l s,h k l (f s)=(g k l s).map f): ∀(n q:Nat) (met:Met) (s:S),FE p c env next h n q met (f s)=(FE p c env next g n q met s).map f
 |0,_,_,_=>rfl
 | n+1,q,met,s=>by
  rw[FE,FE]
  split
  ·exact HO e n _ _ _
  ·split
   ·rfl
   ·rw[e]
    cases g q _ s with
    |none=>rfl
    |some s'=>exact HO e n _ _ _
theorem OV{S T:Type}{p:BProg}{c:CProg}{x:CSt}{f:S->T}{g:Nat->CLev->S->Option S}{h:Nat->CLev->T->Option T}(e:∀k l s,h k l (f s)=(g k l s).map f)(s:S):Bz p c x h (f s)=(Bz p c x g s).map f:=by
 unfold Bz
 split
 ·rfl
 ·exact HO e _ _ _ _
def allL(p:BProg)(c:CProg):List CSt->MetL->Option MetL
 |[],W=>some W
 |s::r,W=>match Bz p c s F1 W with
  |none=>none
  |some V=>allL p c r V
theorem OL{p:BProg}{c:CProg}(hf:∀q:Nat,(AC c q).op=17\/(AC c q).op=18->(q:Int)<(AC c q).a): ∀(l:List CSt) (W:MetL),Fv p c l (metOf W)=(allL p c l W).map metOf
 |[],_=>rfl
 | s::r,W=>by
  rw[Fv,allL]
  have h:=TU (p:=p) hf s (metOf W)
  rw[OV (f:=metOf) Ut]at h
  cases hw:wayM p c s with
  |none=>
   rw[hw]at h
   simp only at h
   cases hl:Bz p c s F1 W with
   |none=>rfl
   |some V=>rw[hl]at h;cases h
  |some w=>
   rw[hw]at h
   simp only at h⊢
   rw[<-h]
   cases hl:Bz p c s F1 W with
   |none=>rfl
   |some V=>exact OL hf r V
def Gi(N:Nat)(W:MetL):Prop:=(W.map (·.1)).Nodup /\ ∀x∈W,0<=x.1/\x.1<N
theorem Gm(k:Int): ∀m:MetL,hasM k m=true ↔ k∈m.map (·.1)
 |[]=>by simp[hasM]
 |x::m=>by rw[hasM,List.map_cons,List.mem_cons,Bool.or_eq_true,decide_eq_true_eq,Gm k m]
theorem Ie(k:Int)(l:CLev): ∀m:MetL,(putM k l m).map (·.1)=if hasM k m then m.map (·.1) else m.map (·.1)++[k]
 |[]=>by simp[putM,hasM]
 | x::m=>by
  rw[putM,hasM]
  by_cases e:k=x.1
  ·subst e;simp
  ·rw[if_neg e]
   have:decide (k=x.1)=false:=by simp[e]
   rw[this,Bool.false_or,List.map_cons,Ie k l m]
   split<;>simp
theorem Pl{N:Nat}{W:MetL}(h:Gi N W){k:Nat}(hk:k<N)(l:CLev):Gi N (putM (k:Int) l W):=by
 have hm:∀x:Int,x∈(putM (k:Int) l W).map (·.1)->0<=x/\x<N:=fun x hx=>by
  rw[Ie]at hx
  split at hx
  ·obtain⟨y,hy,rfl⟩:=List.mem_map.1 hx;exact h.2 y hy
  ·rcases List.mem_append.1 hx with hx|hx
   ·obtain⟨y,hy,rfl⟩:=List.mem_map.1 hx;exact h.2 y hy
   ·rw[List.mem_singleton]at hx;omega
 refine⟨?_,fun x hx=>hm x.1 (List.mem_map.2 ⟨x,hx,rfl⟩)⟩
 rw[Ie]
 split
 ·exact h.1
 ·rename_i hn
  refine List.nodup_append.2 ⟨h.1,by simp,fun a ha b hb=>?_⟩
  rw[List.mem_singleton]at hb
  subst hb
  intro e;subst e
  exact hn ((Gm _ _).2 ha)
theorem LG: ∀(N:Nat) (l:List Int),l.Nodup->(∀x∈l,0<=x/\x<N)->l.length<=N/\(l.length=N ↔ ∀k:Nat,k<N->(k:Int)∈l)
 | 0,l,_,hl=>by
  have:l=[]:=by
   cases l with
   |nil=>rfl
   |cons x l=>have:=hl x (by simp);omega
  subst this;simp
 | N+1,l,hn,hl=>by
  have h1:=LG N (l.erase (N:Int)) (hn.erase _) fun x hx=>by
   have h2:=(hn.mem_erase_iff).1 hx
   have:=hl x h2.2;have:=h2.1;omega
  have hm:∀k:Nat,k<N->((k:Int)∈l.erase (N:Int) ↔ (k:Int)∈l):=fun k hk=>by
   rw[hn.mem_erase_iff];exact⟨fun h=>h.2,fun h=>⟨by omega,h⟩⟩
  by_cases hN:(N:Int)∈l
  ·have hlen:=List.length_erase_of_mem hN
   have bh:0<l.length:=List.length_pos_of_mem hN
   refine⟨by omega,fun h k hk=>?_,fun h=>?_⟩
   ·by_cases e:k=N
    ·subst e;exact hN
    ·exact(hm k (by omega)).1 (h1.2.1 (by omega) k (by omega))
   ·have:=h1.2.2 fun k hk=>(hm k hk).2 (h k (by omega))
    omega
  ·rw[List.erase_of_not_mem hN]at h1
   exact⟨by omega,fun h=>by omega,fun h=>absurd (h N (by omega)) hN⟩
theorem Q0{N:Nat}{W:MetL}(h:Gi N W):(W.length=N) ↔ (List.range N).all (fun k=>(metOf W k).isSome)=true:=by
 have:=(LG N (W.map (·.1)) h.1 fun x hx=>by obtain⟨y,hy,rfl⟩:=List.mem_map.1 hx;exact h.2 y hy).2
 rw[List.length_map]at this
 rw[this,List.all_eq_true]
 constructor
 ·intro h k hk
  unfold metOf;rw[if_pos ((Gm _ _).2 (h k (by simpa using hk)))];rfl
 ·intro h k hk
  have:=h k (by simpa using hk)
  unfold metOf at this
  split at this
  ·rename_i h2;exact(Gm _ _).1 h2
  ·cases this
theorem H4{p:BProg}{c:CProg}{env:Int}{next:Bool}: ∀(n q:Nat) (met:Met) (W V:MetL),q+n<=c.ins.length->Gi c.ins.length W->FE p c env next F1 n q met W=some V->Gi c.ins.length V
 |0,_,_,_,_,_,h,e=>by cases e;exact h
 | n+1,q,met,W,V,hq,h,e=>by
  rw[FE]at e
  split at e
  ·exact H4 n _ _ _ _ (by omega) h e
  ·split at e
   ·cases e
   ·split at e
    ·cases e
    ·rename_i s' hs
     unfold F1 at hs
     split at hs
     ·cases hs
     ·cases hs
      exact H4 n _ _ _ _ (by omega) (Pl h (by omega) _) e
theorem Pk{p:BProg}{c:CProg}{x:CSt}{W V:MetL}(h:Gi c.ins.length W)(e:Bz p c x F1 W=some V):Gi c.ins.length V:=by
 unfold Bz at e
 split at e
 ·cases e
 ·exact H4 _ _ _ _ _ (by omega) h e
theorem JT{p:BProg}{c:CProg}: ∀(l:List CSt) (W V:MetL),Gi c.ins.length W->allL p c l W=some V->Gi c.ins.length V
 |[],_,_,h,e=>by cases e;exact h
 | s::r,W,V,h,e=>by
  rw[allL]at e
  split at e
  ·cases e
  ·rename_i V1 h1
   exact JT r _ _ (Pk h h1) e
def HN(p:BProg)(c:CProg):Option MetL:=match allL p c (stsQ p c) []with
 |none=>none
 |some W=>if W.length=c.ins.length then some W else none
theorem OQ{p:BProg}{c:CProg}(hf:∀q:Nat,(AC c q).op=17\/(AC c q).op=18->(q:Int)<(AC c q).a):Gf p c (stsQ p c)=(HN p c).map fun W=>(List.range c.ins.length).map fun k:Nat=>getM ⟨0,0⟩ (k:Int) W:=by
 unfold Gf HN
 rw[<-QW,OL hf]
 cases h:allL p c (stsQ p c) []with
 |none=>rfl
 | some W =>
  have hk:=JT _ _ _ ⟨by simp,by simp⟩ h
  have hw:=Q0 hk
  show(if _ then _ else _)=_
  simp only
  by_cases e:W.length=c.ins.length
  ·rw[if_pos e,if_pos (hw.1 e)]
   simp only[Option.map_some,Option.some.injEq]
   refine List.map_congr_left fun k aY=>?_
   have:=List.all_eq_true.1 (hw.1 e) k aY
   unfold metOf at this⊢
   split at this
   ·rename_i h2;rw[if_pos h2];rfl
   ·cases this
  ·rw[if_neg e,if_neg (fun h=>e (hw.2 h))];rfl
def C2(p:BProg)(c:CProg):Option MetL:=
 if okP p&&(decide (c.ins.length<=300)&&(decide (c.starts.length=p.methods.length)&&BW p c.ins.length c.ins 0)) then HN p c else none
theorem Hh{p:BProg}{N:Nat}: ∀(l:List CIns) (q:Nat),BW p N l q=true->∀(i:Nat) (x:CIns),l[i]? = some x->fitsQ p N (q+i) x=true
 |[],_,_,_,_,h=>by simp at h
 |y::l,q,h,i,x,hx=>by
  rw[BW,Bool.and_eq_true]at h
  cases i with
  |zero=>simp at hx;subst hx;exact h.1
  |succ i=>simp at hx;have:=Hh l (q+1) h.2 i x hx;rwa [show q+1+i=q+(i+1) by omega]at this
theorem Uv{p:BProg}{c:CProg}(h:BW p c.ins.length c.ins 0=true): ∀q:Nat,(AC c q).op=17\/(AC c q).op=18->(q:Int)<(AC c q).a:=fun q ho=>by
 unfold AC at ho⊢
 cases hx:c.ins[q]? with
 |none=>rw[hx]at ho;simp at ho
 |some x=>
  rw[hx]at ho
  have:=Hh _ _ h q x hx
  unfold fitsQ at this
  simp only[Option.getD_some]at ho⊢
  rcases ho with e|e<;>rw[e]at this<;>simp at this<;>omega
theorem Pg(p:BProg)(c:CProg):KO p c=(C2 p c).map fun W=>(List.range c.ins.length).map fun k:Nat=>getM ⟨0,0⟩ (k:Int) W:=by
 unfold KO C2
 split
 ·rename_i h
  simp only[Bool.and_eq_true,decide_eq_true_eq]at h
  exact OQ (Uv h.2.2.2)
 ·rfl
end Go.DL
namespace Go.DL
open Go.Proofs.Tryz
open Go Go.Proofs
set_option maxHeartbeats 8000000
theorem Pr{S:Type}(l:List Int)(lb:Nat)(u:D)(Good:Sig->S->Prop)(Bad:Sig->Prop)(touch:Nat->Prop)(step:Int->S->S)(hl:l.length<=1073741824)
  (hy:∀(k:Nat) (hk:k<l.length) O s,Good O s->DYield prog lb [dI k,dI l[k]] O (OutO u (.bool true) Good Bad touch O (some (step l[k] s)))) (O:Sig) (s:S) (hG:Good O s) :
  DCall prog 366 [.yld lb,.cptr [sl (cI l)] 0] O (OutO u (.tup []) Good Bad touch O (some (l.foldr step s))):=by
 refine en func366 ntmps366 ?_
 try refine gz ?_
 refine ET [0,1] (fun (k:Nat) (s1:S) (S1:Sig)=>k<=l.length/\Good S1 s1/\l.foldr step s=(l.take k).foldr step s1/\(∀j o,O j=some o->¬touch j->S1 j=some o)) (fun k _ _=>[(3,dI ((k:Int)-1))]) (fun _ _ S1=>S1) (fun k _ _=>k) (l.length) (s) (O) (by exact⟨by omega,hG,by simp,fun _ _ h _=>h⟩) (fun k s1 S1 hI=>?_)
 obtain⟨hk,aG,hR,hK⟩:=hI
 cases k with
 |zero=>
  try refine gz ?_
  refine DK (U':=S1) ?_
  exact⟨rfl,by rw[hR];exact aG,hK⟩
 |succ k=>
  have aw:k<l.length:=by omega
  have e:((k+1:Nat):Int)-1=k:=by omega
  rw[List.take_succ_eq_append_getElem aw,List.foldr_append]at hR
  try refine gf e ?_
  refine yldW (hy k aw S1 s1 aG) (fun d U' hr=>?_) (fun d U' hr=>by obtain⟨h,_⟩:=hr.pan;cases h)
  obtain⟨s2,be,rfl,aS,aF⟩:=hr.ret
  cases be
  try refine gf e ?_
  exact⟨k,_,U',⟨by omega,aS,hR,fun j o h1 h2=>aF j o (hK j o h1 h2) h2⟩,td1,wkR⟩
theorem RS(l:List Int)(O:Sig):DCall prog 336 [sl (cI l)] O (rS (.func (.func 366) [] [.cptr [sl (cI l)] 0]) O):=by
 refine en func336 ntmps336 ?_
 try refine gz ?_
 exact fe1 trivial
@[reducible,instance] def a336:=fun l O=>ah0 (@RS l O)
def Dy:List Init->List (Int×Int)->List (Int×Int)
 |[],m=>m
 |x::r,m=>Dy r (putM x.slot x.n m)
def Dk(p:BProg)(c:Int)(m:List (Int×Int)):List (Int×Int):=if 3<=c then Dy (((p.classes[(c-3).toNat]?).map (·.inits)).getD []) m else m
def Hs(p:BProg)(order:List Int):List (Int×Int):=order.foldr (Dk p) []
def beginL(m:List (Int×Int)):List Int->List Init
 |[]=>[]
 |s::r=>if hasM s m then⟨s,getM 0 s m⟩::beginL m r else beginL m r
def E3(p:BProg)(c:Int):List Init:=beginL (Hs p (linF (p.classes.map (·.parents)) c)) (hasP p c)
theorem Gk{p:BProg}: ∀{cs:List BClass}{i:Nat},Bh p i cs=true->∀k,k<cs.length->linE (p.classes.map (·.parents)) (((i+k:Nat):Int)+3)=0
 |c::r,i,h,0,_=>by rw[Bh]at h;simp only[Bool.and_eq_true,decide_eq_true_eq]at h;exact h.1.1
 |c::r,i,h,k+1,hk=>by
  rw[Bh]at h;simp only[Bool.and_eq_true,decide_eq_true_eq]at h
  have:=Gk h.2 k (by simpa using hk)
  rw[show i+(k+1)=i+1+k by omega];exact this
theorem okP_lin{p:BProg}(h:okP p=true){c:Int}(h1:3<=c)(h2:c<3+p.classes.length):linE (p.classes.map (·.parents)) c=0/\Cw (p.classes.map (·.parents))=true:=by
 have h:=Eh h
 unfold AA at h
 simp only[Bool.and_eq_true,decide_eq_true_eq]at h
 obtain⟨_,h⟩:=h
 split at h
 ·cases h
 ·simp only[Bool.and_eq_true,decide_eq_true_eq]at h
  have:=Gk h.2 (c-3).toNat (by omega)
  rw[show(((0+(c-3).toNat:Nat):Int)+3)=c by omega]at this
  exact⟨this,h.1.2⟩
theorem finMR{P:Program}{n:Nat}{fn:Func}{R:DE->Sig->Prop}{γ:Fr}{O U':Sig}{d d':D}(js:List Nat)(hR:R (.ret d') U')(hU:Sub U' (dels js O))(hn:js.Nodup:=by simp)(hd:∀j∈js,O j=some .defs:=by simp)(h:resD fn γ=some d:=by exact tdR)(hw:WkD d d'): ∃s',Wk P n ⟨γ,O,js.map .coll⟩ s'/\PU P n fn (Weak R) .ret s':=
 ⟨_,Wk.refl _ _ _,js,rfl,hn,hd,d,D5 h,.ret d',U',hw,hU,hR⟩
theorem Sc(p:BProg)(c:Int)(O:Sig)(hp:p.wt<=1073741824:=by exact sd):DCall prog 290 [.agg (Ag p),dI c] O (rS (.tup [sl ((if ownF p c&&okP p then E3 p c else []).map J2),dI (if ownF p c&&okP p then 0 else 2)]) O):=by
 obtain⟨p1,p2,p3,p4,p5,p6,p7⟩:=p.wt_le
 have aH:∀c∈p.classes,c.parents.length<=1073741824/\c.slots.length<=1073741824/\c.inits.length<=1073741824:=fun c hc=>by
  obtain⟨k,hk,rfl⟩:=List.getElem_of_mem hc
  have:=p5 k hk
  unfold BClass.wt at this;omega
 have bx:∀c∈p.classes,c.parents.length<=1073741824:=fun c hc=>(aH c hc).1
 have bz:∀x∈p.classes.map (·.parents),x.length<=1073741824:=fun x hx=>by obtain⟨c,hc,rfl⟩:=List.mem_map.1 hx;exact(aH c hc).1
 refine Er func290 rfl (by decide) ntmps290 (by simp) ?_
 cases hk:ownF p c&&okP p
 ·try refine gf hk ?_
  refine finMR [] (U':=O) ⟨rfl,rfl⟩ (Sub.refl _) (hw:=?_)
  exact CC ⟨An _ (.inl rfl),A8 _,trivial⟩
 ·have ho:3<=c/\c<3+p.classes.length:=by simp only[ownF,Bool.and_eq_true,decide_eq_true_eq]at hk;exact hk.1
  have bi:okP p=true:=by simp only[Bool.and_eq_true]at hk;exact hk.2
  obtain⟨h1,h2⟩:=ho
  obtain⟨au,ae⟩:=okP_lin bi h1 h2
  have aW:linF (p.classes.map (·.parents)) c=LR (p.classes.map (·.parents)) c:=by
   unfold linF;rw[if_pos ⟨ae,by omega,by rw[List.length_map];omega⟩]
  have aK:∀y∈linF (p.classes.map (·.parents)) c,0<=y/\y<3+p.classes.length:=fun y hy=>by
   rw[aW]at hy
   obtain⟨x,hx,hy⟩:=Ii hy
   have:=Ih ae _ x hx y hy
   rw[List.length_map]at this;omega
  have bB:(linF (p.classes.map (·.parents)) c).length<=80000000:=by rw[aW];exact Eg ae (Nat.le_refl _) (by omega)
  have bC:=Ch p c
  have ws:=E4 p
  try refine gf (gi hk au) ?_
  refine newIN (fun im bm=>?_)
  try refine gf (gi hk au) ?_
  refine K7 (u:=unf) (fun did U' m=>U' im=some (.map (eIN m))/\Keep (· = im) ((O.set im (.map (eIN []))).set did .defs) U') (fun did U'=>False) (· = im) (some (Hs p (linF (p.classes.map (·.parents)) c))) rfl (fun l did hd hl aa LO ar=>?_) (fun l did m U' ho hd hl aa hG=>?_) (fun did U' ho hd hb=>hb.elim)
  ·refine Pr (linF (p.classes.map (·.parents)) c) l unf _ _ _ (Dk p) (by omega) (fun k hk S1 m1 hG=>?_) _ [] ?_
   ·obtain⟨aN,aM,bw⟩:=hG
    refine Nu ar aN ?_
    clear ar
    try refine gz ?_
    refine⟨aN,?_⟩
    have hy:=aK _ (List.getElem_mem hk)
    generalize (linF (p.classes.map (·.parents)) c)[k]=y at*
    have aj:l≠im:=fun e=>by rw[e,w6]at hl;cases hl
    have bj:(S1.set l (Cy LO)) im=some (.map (eIN m1)):=by rw[w7 _ _ (Ne.symm aj)];exact aM
    have ah:∀m,(((S1.set l (Cy LO)).set im (.map (eIN m))) l=some (Cy LO))/\((((S1.set l (Cy LO)).set im (.map (eIN m))).set l LO) l=some LO/\(((S1.set l (Cy LO)).set im (.map (eIN m))).set l LO) im=some (.map (eIN m))/\Keep (· = im) ((O.set im (.map (eIN []))).set did .defs) (((S1.set l (Cy LO)).set im (.map (eIN m))).set l LO))/\Keep (· = im) S1 (((S1.set l (Cy LO)).set im (.map (eIN m))).set l LO):=fun m=>by
     have aF:Keep (· = im) S1 (((S1.set l (Cy LO)).set im (.map (eIN m))).set l LO):=fun j o h1 h2=>by
      by_cases hj:j=l
      ·rw[hj]at h1⊢; rw[w6,<-h1,aN]
      ·rw[w7 _ _ hj,w7 _ _ h2,w7 _ _ hj];exact h1
     exact⟨by rw[w7 _ _ aj,w6],⟨w6 .., by rw[w7 _ _ (Ne.symm aj),w6],bw.trans aF⟩,aF⟩
    rw[<-Sig.set_self _ bj]
    by_cases bb:3<=y
    ·obtain⟨q,rfl⟩:∃q:Nat,y=3+(q:Int):=⟨(y-3).toNat,by omega⟩
     have hq:q<p.classes.length:=by omega
     have ag:Dk p (3+q) m1=Dy (p.classes[q]).inits m1:=by
      unfold Dk;rw[if_pos (by omega),show(3+(q:Int)-3).toNat=q by omega,List.getElem?_eq_getElem hq];rfl
     rw[ag]
     have bl:=(aH _ (List.getElem_mem hq)).2.2
     generalize aP:(p.classes[q]).inits=ins' at*
     have bf:3+(q:Int)-3=q:=by omega
     try refine gf (gi bf aP) ?_
     refine Di [1,2,4,5,8,13,15,16,17,45,46,57,58,59,60,61,62,63,64,65,66,67,68,69,70,71,72,73,74,75,76,77,78,79,80] (fun (j:Nat) (m:List (Int×Int))=>j<=ins'.length/\Dy ins' m1=Dy (ins'.drop j) m) (fun j _=>[(47,dI j)]) (fun _ m=>(S1.set l (Cy LO)).set im (.map (eIN m))) (fun j _=>ins'.length-j) (0) (m1) (by simp) (fun j m hI=>?_)
     obtain⟨hj,hJ⟩:=hI
     by_cases aZ:j<ins'.length
     ·rw[Ad aZ,Dy]at hJ
      try refine gf aP ?_
      exact⟨j+1,_,⟨by omega,hJ⟩,td1,wkR⟩
     ·rw[Aj aZ,Dy]at hJ
      try refine gf aP ?_
      rw[hJ]
      exact⟨(ah m).1,rfl,(ah m).2⟩
    ·have ag:Dk p y m1=m1:=by unfold Dk;rw[if_neg bb]
     rw[ag]
     try refine gz ?_
     exact⟨(ah m1).1,rfl,(ah m1).2⟩
   ·have aj:im≠l:=fun e=>by rw[<-e,w6]at hl;cases hl
    have aD:im≠did:=fun e=>by rw[<-e,w6]at hd;cases hd
    exact⟨w6 .., by rw[w7 _ _ aj,w7 _ _ aD,w6],(Keep.refl _ _).fresh (by rw[w7 _ _ aa];exact hl)⟩
  ·cases ho
   have aj:im≠l:=fun e=>by rw[<-e,w6]at hl;cases hl
   have aD:im≠did:=fun e=>by rw[<-e,w6]at hd;cases hd
   have aL:(U'.del l) im=some (.map (eIN (Hs p (linF (p.classes.map (·.parents)) c)))):=by simp only[Sig.del,aj,if_false];exact hG.1
   have ba:(U'.del l) did=some .defs:=by simp only[Sig.del,Ne.symm aa,if_false];exact hG.2 did _ (w6 ..) (Ne.symm aD)
   have aR:E3 p c=beginL (Hs p (linF (p.classes.map (·.parents)) c)) (hasP p c):=rfl
   have bp:∀j o,O j=some o->(U'.del l) j=some o/\j≠did:=fun j o h=>by
    have e1:j≠im:=fun e=>by rw[e,bm]at h;cases h
    have e2:j≠did:=fun e=>by rw[e]at h;rw[w7 _ _ (Ne.symm aD),h]at hd;cases hd
    have e3:j≠l:=fun e=>by rw[e]at h;rw[w7 _ _ (Ne.symm aj),h]at hl;cases hl
    refine⟨?_,e2⟩
    simp only[Sig.del,e3,if_false]
    exact hG.2 j o (by rw[w7 _ _ e2,w7 _ _ e1];exact h) e1
   generalize Hs p (linF (p.classes.map (·.parents)) c)=m at*
   generalize aQ:hasP p c=am at*
   try refine gf aQ ?_
   refine HY 13 2 (fun ix ax=>?_)
   have aT:im≠ix:=fun e=>by rw[<-e,aL]at ax;cases ax
   have bc:did≠ix:=fun e=>by rw[<-e,ba]at ax;cases ax
   refine Di [4,5,8,59,60,79,80] (fun (k:Nat) (out:List Init)=>k<=am.length/\out.length<=k/\beginL m am=out++beginL m (am.drop k)) (fun k out=>[(61,dI k),(13,.slice (out.map J2) (.tag ix))]) (fun _ out=>(U'.del l).set ix (.tail 2 out.length)) (fun k _=>am.length-k) (0) ([]) (by simp) (fun k out hI=>?_)
   obtain⟨hk,hlen,hR⟩:=hI
   by_cases aw:k<am.length
   ·rw[Ad aw,beginL]at hR
    repeat' first|refine gf (gi aL (gi aT aQ)) ?_|apply gy<;>intro hh
    ·rw[hh,if_pos rfl]at hR
     exact⟨k+1,out++[⟨am[k],getM 0 am[k] m⟩],⟨by omega,by simp;omega,by rw[hR];simp⟩,td1,wkR⟩
    ·rw[hh,if_neg (by simp)]at hR
     exact⟨k+1,out,⟨by omega,by omega,hR⟩,td1,wkR⟩
   ·rw[Aj aw,beginL,List.append_nil]at hR
    try refine gf (gi aL (gi aT aQ)) ?_
    refine finMR [did] (U':=O) (d':=.tup [sl ((E3 p c).map J2),dI 0]) ⟨by rw[if_pos rfl,if_pos rfl],rfl⟩ (fun j o h=>?_) (hd:=?_) (hw:=?_)
    ·obtain⟨h1,h2⟩:=bp j o h
     simp only[dels,List.foldl_cons,List.foldl_nil,Sig.del,h2,if_false]
     rw[w7 _ _ fun e=>by rw[e,ax]at h1;cases h1]
     exact h1
    ·simp only[List.mem_singleton,forall_eq]
     rw[w7 _ _ bc];exact ba
    ·rw[aR,hR]
     exact CC ⟨Bv _ _,A8 _,trivial⟩
@[reducible,instance] def a290:=fun p c O=>ah1 (@Sc p c O)
def isLD:DObj->Bool
 |.loop .. |.defs=>true
 |_=>false
theorem LT{LO:DObj}{ps:Array Tmp}{asg body:Code}{n:Nat}{Sl:Fr}{did:Nat}(h:LO=.loop .ready none ps asg body n Sl did):isLD LO=true/\isLD (Cy LO)=true:=by subst h;exact⟨rfl,rfl⟩
def MonoG{S:Type}(G:Sig->S->Prop):Prop:= ∀O U' s,G O s->(∀j x,O j=some x->isLD x=false->U' j=some x)->G U' s
def PT{S:Type}(G:Sig->S->Prop)(S0:Sig):Prop:= ∀l,S0 l=none->∀S1 S2 s,G S1 s->(∃x,S1 l=some x/\isLD x=true)->(∀j,j≠l->S2 j=S1 j)->G S2 s
def Fresh{S:Type}(G:Sig->S->Prop):Prop:= ∀O s a o,G O s->O a=none->G (O.set a o) s
theorem MonoG.indep{S:Type}{G:Sig->S->Prop}(h:MonoG G)(S0:Sig):PT G S0:=fun l _ S1 S2 s hG ⟨x,hx,hl⟩ hj=>h _ _ _ hG fun j y hy hd=>by
 rw[hj j fun e=>by rw[e,hx]at hy;cases hy;rw[hl]at hd;cases hd];exact hy
theorem MonoG.fresh{S:Type}{G:Sig->S->Prop}(h:MonoG G):Fresh G:=fun O s a o hG ha=>h _ _ _ hG fun j y hy _=>by
 rw[w7 _ _ fun e=>by rw[e,ha]at hy;cases hy];exact hy
def GoodG{S:Type}(l:Nat)(LO:DObj)(G:Sig->S->Prop)(touch:Nat->Prop)(base:Sig):Sig->S->Prop:=fun U' s=>U' l=some LO/\G U' s/\Keep touch base U'
theorem GoodG.new{S:Type}{l:Nat}{LO:DObj}{G:Sig->S->Prop}{touch:Nat->Prop}{base O:Sig}{s:S}{a:Nat}{o:DObj}(hm:Fresh G)(h:GoodG l LO G touch base O s)(ha:O a=none):GoodG l LO G touch base (O.set a o) s:=by
 have ne:∀j x,O j=some x->j≠a:=fun j x hj e=>by rw[e,ha]at hj;cases hj
 obtain⟨h1,h2,h3⟩:=h
 exact⟨by rw[w7 _ _ (ne _ _ h1)];exact h1,hm _ _ _ _ h2 ha,fun j x hj ht=>by
  have:=h3 j x hj ht
  rw[w7 _ _ (ne _ _ this)];exact this⟩
theorem GoodG.indep{S:Type}{l:Nat}{LO:DObj}{G:Sig->S->Prop}{touch:Nat->Prop}{base S0:Sig}{s0:S}(h0:GoodG l LO G touch base S0 s0)(hi:PT G S0):PT (GoodG l LO G touch base) S0:=fun k hk S1 S2 s hG hx hj=>by
 have bk:l≠k:=fun e=>by have:=h0.1;rw[e,hk]at this;cases this
 refine⟨by rw[hj l bk];exact hG.1,hi k hk _ _ _ hG.2.1 hx hj,fun j x hb hn=>?_⟩
 rw[hj j fun e=>by have:=h0.2.2 j x hb hn;rw[e,hk]at this;cases this]
 exact hG.2.2 j x hb hn
theorem rangeG{P:Program}{n:Nat}{Q:DX->St->Prop}{γ:Fr}{O:Sig}{df:List DDf}{gop:Operand}{ps:Array Tmp}{asg body:Code}{f:Nat}{first cap:List D}{S:Type}(u:D)(G:Sig->S->Prop)(touch tp:Nat->Prop)(o:Option S)(s0:S)
  (hm:PT G O) (a8:Fresh G) (h0:G O s0) (ht:∀j,touch j->O j≠none) (bd:∀j,tp j->O j≠none) (hf:ev γ gop=.func (.func f) first cap)
  (ay : ∀ l did LO SL,LO=DObj.loop .ready none ps asg body n γ did->O did=none->(O.set did .defs) l=none -> ¬ touch l->SL=(O.set did .defs).set l LO->GoodG l LO G touch (O.set did .defs) SL s0->(∀ a,SL a=none -> ¬ touch a) ->
   DCall P f (first++[.yld l]++cap) SL (OutO u (.tup []) (GoodG l LO G touch (O.set did .defs)) (Keep tp (O.set did .defs)) touch SL o))
  (aI:∀did s U',o=some s->O did=none->U' did=some .defs->G U' s->(∀j x,O j=some x->¬touch j->U' j=some x/\j≠did)->Q .normal ⟨γ,U',.coll did::df⟩)
  (aJ:∀did U',o=none->O did=none->U' did=some .defs->(∀j x,O j=some x->¬tp j->U' j=some x/\j≠did)->Q (.panic u) ⟨γ,U',.coll did::df⟩) :
  DWp P .none n (.rangeFunc gop ps asg body) Q ⟨γ,O,df⟩:=by
 have dne:∀{did:Nat},O did=none->∀j x,O j=some x->j≠did:=fun hd j x hj e=>by rw[e,hd]at hj;cases hj
 refine GD (R:=fun l did=>OutO u (.tup []) (GoodG l (DObj.loop .ready none ps asg body n γ did) G touch (O.set did .defs)) (Keep tp (O.set did .defs)) touch ((O.set did .defs).set l (DObj.loop .ready none ps asg body n γ did)) o) hf (fun l did hd hl aa=>?_) (fun l did d U' hd hl aa hr=>?_) (fun l did d U' hd hl aa hr=>?_)
 ·have ak:(O.set did .defs) l=none:=by first|exact hl|(rw[w7 _ _ aa];exact hl)
  have aB:O l=none:=by rw[w7 _ _ aa]at ak;exact ak
  refine ay l did _ _ rfl hd ak (fun h=>ht _ h aB) rfl ⟨w6 .., a8 _ _ _ _ (a8 _ _ _ _ h0 hd) ak,fun j x hj hn=>?_⟩ fun a ha h=>ht a h ?_
  ·rw[w7 _ _ fun e=>by rw[e,ak]at hj;cases hj];exact hj
  ·by_cases e1:a=l
   ·rw[e1,w6]at ha;cases ha
   ·rw[w7 _ _ e1]at ha
    by_cases e2:a=did
    ·rw[e2,w6]at ha;cases ha
    ·rw[w7 _ _ e2]at ha;exact ha
 ·have ak:(O.set did .defs) l=none:=by first|exact hl|(rw[w7 _ _ aa];exact hl)
  have aB:O l=none:=by rw[w7 _ _ aa]at ak;exact ak
  obtain⟨s,hs,rfl,⟨aX,aG,hK⟩,_⟩:=hr.ret
  have bq:¬touch did:=fun h=>ht _ h hd
  have dl:∀j,j≠l->(U'.del l) j=U' j:=fun j h=>by simp only[Sig.del,h,if_false]
  refine⟨_,_,aX,by simp,aI did s _ hs hd ?_ ?_ fun j x hj hn=>⟨?_,dne hd j x hj⟩⟩
  ·rw[dl _ (Ne.symm aa)];exact hK did _ (w6 ..) bq
  ·exact hm l aB _ _ _ aG ⟨_,aX,rfl⟩ fun j hj=>dl j hj
  ·rw[dl _ (dne aB j x hj)];exact hK j x (by rw[w7 _ _ (dne hd j x hj)];exact hj) hn
 ·obtain⟨hn,rfl,hb⟩:=hr.pan
  exact aJ did U' hn hd (hb did _ (w6 ..) fun h=>bd _ h hd) fun j x hj hn=>⟨hb j x (by rw[w7 _ _ (dne hd j x hj)];exact hj) hn,dne hd j x hj⟩
section
variable {S:Type}{l:Nat}{LO:DObj}{G:Sig->S->Prop}{touch:Nat->Prop}{base S1 S2:Sig}{s s':S}{u:D}{step:Option S}{γ:List (Nat×D)}{df:List DDf}{ps:Array Tmp}{asg body:Code}{n:Nat}{Sl:List (Nat×D)}{did:Nat}{Good:Sig->S->Prop}{Bad:Sig->Prop}
theorem endRN(ag:step=some s')(ar:LO=.loop .ready none ps asg body n Sl did)(hm:PT G base)(hG:GoodG l LO G touch base S1 s)(hl:¬touch l)(aA:base l=none)(aS:G S2 s')(hK:Keep touch (S1.set l (Cy LO)) S2):
  OM l LO (OutO u (.bool true) (GoodG l LO G touch base) Bad touch S1 step) .normal ⟨γ,S2,df⟩:=by
 subst ag
 have h2:S2 l=some (Cy LO):=hK l _ (w6 ..) hl
 have aC:Keep touch S1 (S2.set l LO):=fun j x hj hn=>by
  by_cases e:j=l
  ·rw[e,hG.1]at hj;rw[e,w6];exact hj
  ·rw[w7 _ _ e];exact hK j x (by rw[w7 _ _ e];exact hj) hn
 exact⟨h2,rfl,⟨w6 .., hm l aA _ _ _ aS ⟨_,h2,(LT ar).2⟩ fun j hj=>w7 _ _ hj,hG.2.2.trans aC⟩,aC⟩
theorem endRP(ag:step=none)(hB:Bad S2):OM l LO (OutO u (.bool true) Good Bad touch S1 step) (.panic u) ⟨γ,S2,[]⟩:=by
 subst ag
 exact⟨rfl,rfl,hB⟩
theorem GoodG.bad{tp:Nat->Prop}(hG:GoodG l LO G touch base S1 s)(aA:base l=none)(ht:∀j,touch j->tp j)(hK:Keep tp (S1.set l (Cy LO)) S2):Keep tp base S2:=fun j x hj hn=>
 hK j x (by rw[w7 _ _ fun e=>by rw[e,aA]at hj;cases hj];exact hG.2.2 j x hj fun h=>hn (ht j h)) hn
theorem OutO.bad{r:D}{Good:Sig->S->Prop}{Bad Bad':Sig->Prop}{O U':Sig}{o:Option S}{x:DE}(h:OutO u r Good Bad touch O o x U')(hb:Bad U'->Bad' U'):OutO u r Good Bad' touch O o x U':=by
 cases o with
 |none=>exact⟨h.1,hb h.2⟩
 |some s=>exact h
theorem GoodG.busy(ar:LO=.loop .ready none ps asg body n Sl did)(hm:PT G base)(aA:base l=none)(hG:GoodG l LO G touch base S1 s):G (S1.set l (Cy LO)) s:=
 hm l aA _ _ _ hG.2.1 ⟨_,hG.1,(LT ar).1⟩ fun j hj=>w7 _ _ hj
end
theorem finMP{P:Program}{n:Nat}{fn:Func}{R:DE->Sig->Prop}{γ:Fr}{O U':Sig}{d:D}(js:List Nat)(hR:R (.panic d) U')(hU:Sub U' (dels js O))(hn:js.Nodup:=by simp)(hd:∀j∈js,O j=some .defs:=by simp): ∃s',Wk P n ⟨γ,O,js.map .coll⟩ s'/\PU P n fn (Weak R) (.panic d) s':=
 ⟨_,Wk.refl _ _ _,js,rfl,hn,hd,.panic d,U',A8 _,hU,hR⟩
section
variable {P:Program}{ro:Ro}{n:Nat}{Q:DX->St->Prop}{df:List DDf}{γ:List (Nat×D)}{O:Sig}
theorem loopD4{Sk:Fr}{α β δ ε:Type}{c:Code}(keep:List Nat)(I:α->β->δ->ε->Prop)(ov:α->β->δ->ε->Fr)(sg:α->β->δ->ε->Sig)(dg:α->β->δ->ε->List DDf)(μ:α->β->δ->ε->Nat)(x0:α)(y0:β)(z0:δ)(u0:ε)(h0:I x0 y0 z0 u0)
  (round:∀x y z u,I x y z u->DWp P ro n c (Then (fun s'=> ∃x' y' z' u',I x' y' z' u'/\μ x' y' z' u'<μ x y z u/\Wk P n s' ⟨ov x' y' z' u'++Sk,sg x' y' z' u',dg x' y' z' u'⟩) Q) ⟨ov x y z u++Sk,sg x y z u,dg x y z u⟩) (hk:Dj γ keep=some Sk:=by exact tdR) (h1:TellsR γ (ov x0 y0 z0 u0++Sk):=by(first|refine FW ?_ ?_|skip)<;>(repeat' first|exact FV|refine Fd tdR ?_ ?_|(first|exact A8 _|exact Bv _ _|exact An _ (.inl rfl)|exact E5 _|(refine HM _ ?_;first|omega|(simp;done)|(simp;omega))|(refine Cq ?_;(simp;done))|(refine Cq ?_;(simp[cI,cS,cII,Fp,Fb,GK];done))|(refine DM _ ?_;(simp[cI,cS,cII];done))|(refine Cq ?_;(simp_all;done))|assumption))) (h2:Sub (sg x0 y0 z0 u0) O:=by first|exact Sub.refl _|(refine Df ?_;simp;done)|assumption|exact(Sub.refl _).set (by assumption)) (h3:dg x0 y0 z0 u0=df:=by rfl):DWp P ro n (.loop c) Q ⟨γ,O,df⟩:=by
 subst h3
 refine OB (fun x:{x:α×β×δ×ε // I x.1 x.2.1 x.2.2.1 x.2.2.2}=>⟨ov x.1.1 x.1.2.1 x.1.2.2.1 x.1.2.2.2++Sk,sg x.1.1 x.1.2.1 x.1.2.2.1 x.1.2.2.2,dg x.1.1 x.1.2.1 x.1.2.2.1 x.1.2.2.2⟩) (fun x=>μ x.1.1 x.1.2.1 x.1.2.2.1 x.1.2.2.2) ⟨(x0,y0,z0,u0),h0⟩ (Ko h1 h2) fun x=>Fm (round x.1.1 x.1.2.1 x.1.2.2.1 x.1.2.2.2 x.2) ?_
 intro e s h
 cases e with
 |normal=>obtain⟨x',y',z',u',h3,h4,h5⟩:=h;exact⟨⟨(x',y',z',u'),h3⟩,h4,h5⟩
 |_=>exact h
end
theorem L5: ∀(js:List Nat) (O:Sig) (j:Nat),j∉js->dels js O j=O j
 |[],_,_,_=>rfl
 |i::r,O,j,h=>by
  simp only[List.mem_cons,not_or]at h
  simp only[dels,List.foldl_cons]
  rw[show List.foldl Sig.del (O.del i) r=dels r (O.del i) from rfl,L5 r _ j h.2]
  simp only[Sig.del,h.1,if_false]
def RowAt(O:Sig)(sz:Nat):MR->List (List D)->Prop
 |none,es=>es=[]
 |some (i,cap,rest),es=>O i=some (.cells (es.flatten++rest))/\(es.flatten++rest).length=cap*sz/\es.length<=cap /\ ∀e∈es,e.length=sz
def Fu:MR->Nat->Prop
 |none,_=>False
 |some (i,_,_),j=>j=i
theorem RowAt.cells{O:Sig}{sz:Nat}{st:MR}{es:List (List D)}(h:RowAt O sz st es){j:Nat}(hj:Fu st j): ∃cs,O j=some (.cells cs):=by
 cases st with
 |none=>exact hj.elim
 |some x=>cases hj;exact⟨_,h.1⟩
theorem RowAt.keep{O U':Sig}{sz:Nat}{st:MR}{es:List (List D)}(h:RowAt O sz st es)(hk:∀j o,O j=some o->Fu st j->U' j=some o):RowAt U' sz st es:=by
 cases st with
 |none=>exact h
 |some x=>exact⟨hk _ _ h.1 rfl,h.2⟩
theorem RowAt.mS{O:Sig}{sz:Nat}{st:MR}{es:List (List D)}(h:RowAt O sz st es): ∃U',O=mS U' st es/\mOK U' sz st es/\(∀j o,O j=some o->¬Fu st j->U' j=some o) /\ ∀j o,U' j=some o->O j=some o /\ ¬Fu st j:=by
 cases st with
 |none=>exact⟨O,rfl,h,fun j o h _=>h,fun j o h=>⟨h,id⟩⟩
 | some x =>
  obtain⟨i,cap,rest⟩:=x
  obtain⟨h1,h2,h3,h4⟩:=h
  refine⟨O.del i,?_,⟨by simp[Sig.del],h2,h3,h4⟩,fun j o hj hn=>?_,fun j o hj=>?_⟩
  ·funext j
   simp only[DL.mS,Sig.set,Sig.del]
   by_cases e:j=i
   ·subst e;simp[h1]
   ·simp[e]
  ·have:j≠i:=hn
   simp only[Sig.del,this,if_false];exact hj
  ·by_cases e:j=i
   ·simp[Sig.del,e]at hj
   ·simp only[Sig.del,e,if_false]at hj;exact⟨hj,e⟩
theorem U6{O:Sig}{sz:Nat}{st:MR}{es:List (List D)}(h:mOK O sz st es):RowAt (mS O st es) sz st es:=by
 cases st with
 |none=>exact h
 |some x=>obtain⟨i,cap,rest⟩:=x;exact⟨w6 .., h.2⟩
def RowK(O:Sig)(st:MR)(U':Sig)(st':MR):Prop:= ∀j o,O j=some o->¬Fu st j->U' j=some o /\ ¬Fu st' j
theorem RowK.refl(O:Sig)(st:MR):RowK O st O st:=fun j o h hn=>⟨h,hn⟩
theorem RowK.trans{O S1 S2:Sig}{st st1 st2:MR}(h:RowK O st S1 st1)(k:RowK S1 st1 S2 st2):RowK O st S2 st2:=fun j o hj hn=>k _ _ (h j o hj hn).1 (h j o hj hn).2
theorem rowK_mS{O:Sig}{sz:Nat}{st st':MR}{es es':List (List D)}(h:RowAt O sz st es){S1:Sig}(h1:mOK S1 sz st' es')(hk:∀j o,O j=some o->¬Fu st j->S1 j=some o):RowK O st (mS S1 st' es') st':=fun j o hj hn=>by
 have aO:=hk j o hj hn
 have hr:¬Fu st' j:=by
  cases st' with
  |none=>exact id
  |some x=>
   obtain⟨i,cap,rest⟩:=x
   intro e
   have e:j=i:=e
   rw[e,h1.1]at aO;cases aO
 exact⟨QZ h1 aO,hr⟩
section
variable {ro:Ro}{n:Nat}{ops:Array Oper}{N:Nat}{S0:Sig}{Q:DX->St->Prop}{df:List DDf}{rest:List Oper}{γ Sr:List (Nat×D)}{O:Sig}{t:Nat}{ty:TypeId}{pos:String}{after:Array Edge}{d:D}
theorem rapp{T T' e e' sz:Nat}{s x:Operand}{es new:List (List D)}{st:MR}(h:∀st' U',RowAt U' sz st' (es++new)->RowK O st U' st'->DOps prog ro n ops Q rest ⟨(t,mD st' (es.length+new.length))::γ,U',df⟩)(hm:RowAt O sz st es:=by assumption)
  (hl:A0 γ (A5 [s,x])=some Sr:=by exact tdR) (hk:(tab T).k=.slice e:=by(simp<;>rfl)) (ap:(tab T').k=.slice e':=by(simp<;>rfl)) (he:A1 (tab e).k=false:=by simp) (hsz:(tab e).size=sz:=by simp)
  (h1:ev Sr s=mD st es.length:=by first|with_unfolding_all rfl|(simp[ev,getD,List.lookup];done)) (h2:esOf (ev Sr x)=some new:=by(simp<;>with_unfolding_all rfl))
  (hlen':∀c∈new,c.length=sz:=by first|exact Cb _|exact E1 _|exact CK _|simp) (aq:∀c∈new,BC c=true:=by simp[cI,cS,cII,BC,D.flat])
  (hb:(es.length+new.length)*(tab e).bytes<=140737488355328:=by first|(simp;done)|(simp;omega)) (hm2:es.length+new.length<=9223372036854775807:=by first|(simp;done)|(simp;omega)) (ai:decide (t<n)=true:=by exact tdR) :
  DOps prog ro n ops Q (⟨some t,(cA s x T T'),ty,pos,after,none⟩::rest) ⟨γ,O,df⟩:=by
 obtain⟨e1,e2⟩:=evs hl
 obtain⟨S1,rfl,aM,aC,aY⟩:=hm.mS
 exact My Ac (by simpa using ai) hk ap he hsz (by rw[<-e1];exact h1) aM (by rw[<-e2];exact h2) hlen' aq hb hm2 (fun st' h'=>by rw[List.length_append];exact h st' _ (U6 h') (rowK_mS hm h' aC))
end
noncomputable def Sig.out(O:Sig)(touch:Nat->Prop):Sig:=open Classical in fun j=>if touch j then none else O j
theorem C1(O:Sig)(touch:Nat->Prop):Sub (O.out touch) O:=fun j o h=>by
 unfold Sig.out at h;split at h
 ·cases h
 ·exact h
theorem Cf{O:Sig}{touch:Nat->Prop}{j:Nat}{o:DObj}(h:(O.out touch) j=some o):O j=some o /\ ¬touch j:=by
 unfold Sig.out at h;split at h
 ·cases h
 ·exact⟨h,by assumption⟩
theorem D2{O:Sig}{touch:Nat->Prop}{j:Nat}{o:DObj}(h:O j=some o)(ht:¬touch j):(O.out touch) j=some o:=by
 unfold Sig.out;rw[if_neg ht];exact h
section
variable {P:Program}{ro:Ro}{n:Nat}{Q:DX->St->Prop}{γ:List (Nat×D)}{O:Sig}{df:List DDf}
theorem NL{V':Fr}{U':Sig}(h:TellsS γ [] V')(hU:Sub U' O):Wk P n ⟨γ,O,df⟩ ⟨V',U',df⟩:=(wk_join h hU).2
end
section
variable {ro:Ro}{n:Nat}{ops:Array Oper}{N:Nat}{S0:Sig}{Q:DX->St->Prop}{df:List DDf}{rest:List Oper}{γ Sr:List (Nat×D)}{O:Sig}{t:Nat}{ty:TypeId}{pos:String}{after:Array Edge}{d:D}
def RWK(O:Sig)(r:RW)(U':Sig)(r':RW):Prop:= ∀j o,O j=some o->¬r.is j->U' j=some o /\ ¬r'.is j
theorem RWK.refl(O:Sig)(r:RW):RWK O r O r:=fun _ _ h k=>⟨h,k⟩
theorem RWK.trans{O S1 S2:Sig}{r r1 r2:RW}(h:RWK O r S1 r1)(k:RWK S1 r1 S2 r2):RWK O r S2 r2:=fun j o hj hn=>k j o (h j o hj hn).1 (h j o hj hn).2
theorem xapp{T T' e e' sz:Nat}{s x:Operand}{es new:List (List D)}{r:RW}(h:∀i c cs U',RWAt U' sz (.row i c cs) (es++new)->RWK O r U' (.row i c cs)->DOps prog ro n ops Q rest ⟨(t,.sref i 0 (es.length+new.length) c)::γ,U',df⟩)(hm:RWAt O sz r es:=by assumption)
  (hl:A0 γ (A5 [s,x])=some Sr:=by exact tdR) (hk:(tab T).k=.slice e:=by(simp<;>rfl)) (ap:(tab T').k=.slice e':=by(simp<;>rfl)) (he:A1 (tab e).k=false:=by simp) (hsz:(tab e).size=sz:=by simp)
  (h1:ev Sr s=r.d es.length:=by first|with_unfolding_all rfl|(simp[ev,getD,List.lookup];done)) (h2:esOf (ev Sr x)=some new:=by(simp<;>with_unfolding_all rfl))
  (hne:new≠[]:=by simp) (hlen':∀c∈new,c.length=sz:=by first|exact Cb _|exact E1 _|exact CK _|simp) (aq:∀c∈new,BC c=true:=by simp[cI,cS,cII,BC,D.flat])
  (hb:(es.length+new.length)*(tab e).bytes<=140737488355328:=by first|(simp;done)|(simp;omega)) (hm2:es.length+new.length<=9223372036854775807:=by first|(simp;done)|(simp;omega)) (ai:decide (t<n)=true:=by exact tdR) :
  DOps prog ro n ops Q (⟨some t,(cA s x T T'),ty,pos,after,none⟩::rest) ⟨γ,O,df⟩:=by
 obtain⟨e1,e2⟩:=evs hl
 exact DZ Ac (by simpa using ai) hk ap he hsz (by rw[<-e1];exact h1) hm (by rw[<-e2];exact Hl h2 hlen') hlen' aq hb hm2 fun r' U' h1 h2 h3=>by
  rcases h3 with⟨h3,_⟩|⟨i,c,cs,rfl⟩
  ·exact absurd h3 hne
  ·exact h i c cs U' h1 h2
theorem xappR{T T' e e' sz:Nat}{s x:Operand}{es new:List (List D)}{r:RW}(h:∀r' U',RWAt U' sz r' (es++new)->RWK O r U' r'->DOps prog ro n ops Q rest ⟨(t,r'.d (es.length+new.length))::γ,U',df⟩)(hm:RWAt O sz r es)(h2:Jt prog O sz (ev Sr x) new)(aq:∀c∈new,BC c=true)
  (hlen':∀c∈new,c.length=sz)
  (hl:A0 γ (A5 [s,x])=some Sr:=by exact tdR) (hk:(tab T).k=.slice e:=by(simp<;>rfl)) (ap:(tab T').k=.slice e':=by(simp<;>rfl)) (he:A1 (tab e).k=false:=by simp) (hsz:(tab e).size=sz:=by simp)
  (h1:ev Sr s=r.d es.length:=by first|with_unfolding_all rfl|(simp[ev,getD,List.lookup];done))
  (hb:(es.length+new.length)*(tab e).bytes<=140737488355328:=by first|(simp;done)|(simp;omega)) (hm2:es.length+new.length<=9223372036854775807:=by first|(simp;done)|(simp;omega)) (ai:decide (t<n)=true:=by exact tdR) :
  DOps prog ro n ops Q (⟨some t,(cA s x T T'),ty,pos,after,none⟩::rest) ⟨γ,O,df⟩:=by
 obtain⟨e1,e2⟩:=evs hl
 exact DZ Ac (by simpa using ai) hk ap he hsz (by rw[<-e1];exact h1) hm (by rw[<-e2];exact h2) hlen' aq hb hm2 fun r' U' h1 h2 _=>h r' U' h1 h2
theorem Gb{T T' e e' sz:Nat}{s x:Operand}{es new:List (List D)}{r:RW}{l:List (Bool×Oper)}(h:∀i c cs U',RWAt U' sz (.row i c cs) (es++new)->RWK O r U' (.row i c cs)->MO prog ro n ops N S0 Q df l ((t,.sref i 0 (es.length+new.length) c)::γ) U')(hC:∀j o,S0 j=some o->O j=some o /\ ¬r.is j)(hm:RWAt O sz r es:=by assumption)
  (hl:A0 γ (A5 [s,x])=some Sr:=by exact tdR) (hk:(tab T).k=.slice e:=by(simp<;>rfl)) (ap:(tab T').k=.slice e':=by(simp<;>rfl)) (he:A1 (tab e).k=false:=by simp) (hsz:(tab e).size=sz:=by simp)
  (h1:ev Sr s=r.d es.length:=by first|with_unfolding_all rfl|(simp[ev,getD,List.lookup];done)) (h2:esOf (ev Sr x)=some new:=by(simp<;>with_unfolding_all rfl))
  (hne:new≠[]:=by simp) (hlen':∀c∈new,c.length=sz:=by first|exact Cb _|exact E1 _|exact CK _|simp) (aq:∀c∈new,BC c=true:=by simp[cI,cS,cII,BC,D.flat])
  (hb:(es.length+new.length)*(tab e).bytes<=140737488355328:=by first|(simp;done)|(simp;omega)) (hm2:es.length+new.length<=9223372036854775807:=by first|(simp;done)|(simp;omega)) (ai:decide (t<n)=true:=by exact tdR) :
  MO prog ro n ops N S0 Q df ((true,⟨some t,(cA s x T T'),ty,pos,after,none⟩)::l) γ O:=
 mo1 (fun U2 hx=>by
  obtain⟨e1,e2⟩:=Hg hl hx
  refine DZ Ac (by simpa using ai) hk ap he hsz (by rw[e1];exact h1) hm (by rw[e2];exact Hl h2 hlen') hlen' aq hb hm2 (fun r' U' h' hK h3=>?_)
  rcases h3 with⟨h3,_⟩|⟨i,c,cs,rfl⟩
  ·exact absurd h3 hne
  refine Aw ⟨rfl,?_⟩
  simp only[A6,if_true]
  exact⟨fun j o hj=>(hK j o (hC j o hj).1 (hC j o hj).2).1,h i c cs U' h' hK⟩) ai
end
structure Rows(O:Sig)(R:Nat->RW)(sz:Nat->Nat)(ct:Nat->List (List D)):Prop where
 ok:∀a,RWAt O (sz a) (R a) (ct a)
 dj:∀a b j,(R a).is j->(R b).is j->a=b
def updF{α:Type}(f:Nat->α)(k:Nat)(x:α):Nat->α:=fun j=>if j=k then x else f j
@[simp] theorem Ah{α:Type}(f:Nat->α)(k:Nat)(x:α):updF f k x k=x:=by unfold updF;rw[if_pos rfl]
theorem A7{α:Type}(f:Nat->α){k j:Nat}(x:α)(h:j≠k):updF f k x j=f j:=by unfold updF;rw[if_neg h]
section
variable {O U':Sig}{R:Nat->RW}{sz:Nat->Nat}{ct:Nat->List (List D)}
theorem Rows.upd(h:Rows O R sz ct){a:Nat}{r':RW}{es':List (List D)}(hr:RWAt U' (sz a) r' es')(hk:RWK O (R a) U' r'):Rows U' (updF R a r') sz (updF ct a es'):=by
 have hne:∀b,b≠a->∀j,(R b).is j->∃o,O j=some o /\ ¬(R a).is j:=fun b hb j hj=>by
  obtain⟨cs,hc⟩:=(h.ok b).cells hj
  exact⟨_,hc,fun ha=>hb (h.dj b a j hj ha)⟩
 refine⟨fun b=>?_,fun b c j hb hc=>?_⟩
 ·by_cases e:b=a
  ·subst e;rw[Ah,Ah];exact hr
  ·rw[A7 _ _ e,A7 _ _ e]
   exact(h.ok b).keep fun j o hj hb=>by
    obtain⟨o',bA,hn⟩:=hne b e j hb
    exact(hk j o hj hn).1
 ·by_cases e:b=a
  ·subst e
   by_cases e2:c=b
   ·exact e2.symm
   ·rw[Ah]at hb
    rw[A7 _ _ e2]at hc
    obtain⟨o,ho,hn⟩:=hne c e2 j hc
    exact absurd hb (hk j o ho hn).2
  ·rw[A7 _ _ e]at hb
   by_cases e2:c=a
   ·subst e2
    rw[Ah]at hc
    obtain⟨o,ho,hn⟩:=hne b e j hb
    exact absurd hc (hk j o ho hn).2
   ·rw[A7 _ _ e2]at hc
    exact h.dj b c j hb hc
theorem Rows.keep(h:Rows O R sz ct)(hk:∀j o,O j=some o->(∃a,(R a).is j)->U' j=some o):Rows U' R sz ct:=
 ⟨fun a=>(h.ok a).keep fun j o hj ha=>hk j o hj ⟨a,ha⟩,h.dj⟩
theorem Rows.retell{ct':Nat->List (List D)}(h:Rows O R sz ct)(he:∀a,ct' a=ct a):Rows O R sz ct':=by
 obtain rfl:ct'=ct:=funext he
 exact h
theorem Rows.re(h:Rows O R sz ct){a:Nat}{r':RW}{es':List (List D)}(hr:RWAt O (sz a) r' es')(hi:∀j,r'.is j->(R a).is j):Rows O (updF R a r') sz (updF ct a es'):=by
 refine⟨fun b=>?_,fun b c j hb hc=>?_⟩
 ·by_cases e:b=a
  ·subst e;rw[Ah,Ah];exact hr
  ·rw[A7 _ _ e,A7 _ _ e];exact h.ok b
 ·have bt:(R b).is j:=by
   by_cases e:b=a
   ·subst e;rw[Ah]at hb;exact hi j hb
   ·rwa [A7 _ _ e]at hb
  have br:(R c).is j:=by
   by_cases e:c=a
   ·subst e;rw[Ah]at hc;exact hi j hc
   ·rwa [A7 _ _ e]at hc
  exact h.dj b c j bt br
end
end Go.DL
