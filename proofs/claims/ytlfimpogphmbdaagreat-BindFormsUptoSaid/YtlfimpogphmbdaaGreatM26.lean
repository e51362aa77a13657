/- Part of the proof that the last text ends. -/
import Derived.Test.YtlfimpogphmbdaaGreatM25
import Derived.Test.YtlfimpogphmbdaaGreatM17
import Derived.Test.YtlfimpogphmbdaaGreatM16
import Derived.Test.YtlfimpogphmbdaaGreatM24
set_option linter.all false
namespace Go.DL
open Go.Proofs.Tryz
open Go Go.Proofs
set_option maxHeartbeats 8000000
mutual
theorem OZ{S:Type}{step:Int->FExp->S->Option S}(Q:S->Prop)(h:∀d x s s',step d x s=some s'->Q s->Q s'): ∀(x:FExp) (d:Int) (s s':S),Q s->visE step x d s=some s'->Q s'
 | .mk o n t k,d,s,s',hp,he=>by
  rw[visE]at he
  split at he
  ·cases he
  ·rename_i s1 h1
   exact Mp Q h k _ _ _ (h _ _ _ _ h1 hp) he
theorem Mp{S:Type}{step:Int->FExp->S->Option S}(Q:S->Prop)(h:∀d x s s',step d x s=some s'->Q s->Q s'): ∀(l:List FExp) (d:Int) (s s':S),Q s->Dk step l d s=some s'->Q s'
 |[],d,s,s',hp,he=>by rw[Dk]at he;cases he;exact hp
 | x::r,d,s,s',hp,he=>by
  rw[Dk]at he
  split at he
  ·cases he
  ·rename_i s1 h1
   exact Mp Q h r _ _ _ (OZ Q h x _ _ _ hp h1) he
end
theorem Pk{most:Int}{e:FExp}{k:Int}(hm:0<=most)(h:Ii most e=some k):0<=k/\k<=most :=
 OZ (fun n=>0<=n/\n<=most) (fun d x s s' hs hq=>by unfold Gj at hs;split at hs<;>cases hs;omega) e 1 0 k ⟨Int.le_refl _,hm⟩ h
def nodK(names slots:List Str)(lits:Bool)(x:FExp):Bool :=
 if x.op=4\/x.op=7 then decide (x.text∈slots) else if x.op=6\/x.op=8 then decide (x.text∈names) else if x.op=18 then lits else true
def DJ(names slots:List Str)(lits:Bool)(x:FExp)(_:Unit):Option Unit:=if nodK names slots lits x then some () else none
def allK(names slots:List Str)(lits:Bool)(e:FExp):Option Unit:=visE (fun _ x s=>DJ names slots lits x s) e 1 ()
def BX(names slots args:List Str)(lits:Bool)(e:FExp)(n:Int):Option Int:=match Ii 120 e with
 |none=>none
 |some k=>if n+k<=120/\allK names slots lits e=some ()/\(∀s∈freeE e [] [],s∈args) then some (n+k) else none
def KnR(f:FProg)(ip ic is:Nat)(d:D)(o:Option Int)(V:Sig)(x:DE)(S':Sig):Prop:=match o with
 |some m=>x=.ret (.tup [])/\S'=V.set ip (pObj f ic is d m)
 |none=>x=.panic unf2 /\ ∃m,S'=V.set ip (pObj f ic is d m)
theorem L0(f:FProg)(ip ic is:Nat)(d:D)(n:Int)(names slots:List Str)(e:FExp)(args:List Str)(lits:Bool)(V:Sig)(hw:e.wt<=1073741824)(ha:args.length<=1073741824)(hn:0<=n/\n<=1000000)
  (h1:V ip=some (pObj f ic is d n)) (h2:V ic=some (.map (eSN (BU names 0)))) (h3:V is=some (.map (eSS slots))) :
  DCall prog 187 [.ptr ip 0,.agg (Ah e),sl (cS args),.bool lits] V (KnR f ip ic is d (BX names slots args lits e n) V):=by
 have hpi:ip≠ic:=Ac h1 h2 (by simp)
 have hps:ip≠is:=Ac h1 h3 (by simp)
 obtain⟨hn0,hn1⟩:=hn
 refine Bh func187 rfl (by decide) ntmps187 (by simp) ?_
 cases hlk:Ii 120 e with
 |none =>
  have hB:BX names slots args lits e n=none:=by unfold BX;rw[hlk]
  have hsm:(Ii 120 e).isSome=false:=by rw[hlk];rfl
  rw[hB]
  repeat' first|(exact fun _=>Ju [] (S':=V.set ip (pObj f ic is d n)) ⟨rfl,n,rfl⟩ (by rw[Sig.set_self _ h1];exact Sub.refl _))|refine gf (gi h1 hlk) ?_ o187|apply gy<;>intro hh
 | some k =>
  have hk:=Pk (by omega) hlk
  have hsm:(Ii 120 e).isSome=true:=by rw[hlk];rfl
  by_cases hk2:n+k<=120
  ·try refine gf (gi h1 hlk) ?_ o187
   generalize hSA:V.set ip _=SA
   have o1:SA ip=some (pObj f ic is d (n+k)):=by rw[<-hSA,w7]
   have o2:SA ic=some (.map (eSN (BU names 0))):=by rw[<-hSA,w8 _ _ (Ne.symm hpi)];exact h2
   have o3:SA is=some (.map (eSS slots)):=by rw[<-hSA,w8 _ _ (Ne.symm hps)];exact h3
   have hSA':SA=V.set ip (pObj f ic is d (n+k)):=hSA.symm
   have hI:∀S0,Indep (fun (_:Sig) (_:Unit)=>True) S0:=fun S0 l _ S1 S2 s _ _ _=>trivial
   have hF:OS (fun (_:Sig) (_:Unit)=>True):=fun V s a o _ _=>trivial
   refine IX unf2 (fun _ (_:Unit)=>True) (fun _=>False) (fun _=>False) (allK names slots lits e) () (hI _) hF trivial (fun j h=>h.elim) (fun j h=>h.elim) rfl (fun l did LO SL hLO hd hl htl hSL hG hnt =>?_) (fun did s' S' ho hdn hdd hG hk =>?_) (fun did S' ho hdn hdd hk =>?_)
   ·have hLl:SL l=some LO:=hG.1
    have hI0:Indep (fun (_:Sig) (_:Unit)=>True) (SA.set did .defs):=hI _
    refine(QI l _ (fun _=>False) (fun j=>False\/j=l) (DJ names slots lits) e SL () hw (fun x S1 u hx hG1 =>?_) (hG.indep (hI _)) (fun V s a o h ha=>h.new hF ha) hG (fun j h=>h.elim) (fun j hj h =>?_)).mono (fun x S' hx=>hx.bad fun hK j y hj hn =>?_)
    ·have bne:∀{q o},SA q=some o->(SA.set did .defs) q=some o/\q≠l:=fun {q o} hq=>by
      have e1:q≠did:=fun e=>by rw[e,hd]at hq;cases hq
      have e2:(SA.set did .defs) q=some o:=by rw[w8 _ _ e1];exact hq
      exact⟨e2,fun e=>by rw[e,hl]at e2;cases e2⟩
     have qb:∀{q o},SA q=some o->(S1.set l (Ce LO)) q=some o:=fun {q o} hq=>by
      rw[w8 _ _ (bne hq).2];exact hG1.2.2 q o (bne hq).1 id
     have r1:=qb o1
     have r2:=qb o2
     have r3:=qb o3
     have hKr:=Keep.refl (fun _=>False) (S1.set l (Ce LO))
     refine Eu hLO hG1.1 ?_
     try refine gz ?_ o187
     refine⟨hG1.1,?_⟩
     generalize hSb:S1.set l (Ce LO)=Sb at r1 r2 r3⊢
     rw[hSb]at hKr
     have hKr:Keep (fun _=>False) (S1.set l (Ce LO)) Sb:=by rw[hSb];exact hKr
     rcases Decidable.em (x.op=4)with h4|h4
     ·have hnk:nodK names slots lits x=decide (x.text∈slots):=by unfold nodK;rw[h4];simp
      by_cases hm:x.text∈slots
      ·have hst:DJ names slots lits x u=some ():=by unfold DJ;rw[hnk,decide_eq_true hm];rfl
       try refine gf (gi r1 (gi r3 (gi h4 hm))) ?_ o187
       exact HU hst hLO hI0 hG1 htl hl trivial hKr
      ·have hst:DJ names slots lits x u=none:=by unfold DJ;rw[hnk,decide_eq_false hm];rfl
       repeat' first|(exact Kb hst (SM hKr))|refine gf (gi r1 (gi r3 (gi h4 hm))) ?_ o187|apply gy<;>intro hh
     rcases Decidable.em (x.op=7)with h7|h7
     ·have hnk:nodK names slots lits x=decide (x.text∈slots):=by unfold nodK;rw[h7];simp
      by_cases hm:x.text∈slots
      ·have hst:DJ names slots lits x u=some ():=by unfold DJ;rw[hnk,decide_eq_true hm];rfl
       try refine gf (gi r1 (gi r3 (gi h7 hm))) ?_ o187
       exact HU hst hLO hI0 hG1 htl hl trivial hKr
      ·have hst:DJ names slots lits x u=none:=by unfold DJ;rw[hnk,decide_eq_false hm];rfl
       repeat' first|(exact Kb hst (SM hKr))|refine gf (gi r1 (gi r3 (gi h7 hm))) ?_ o187|apply gy<;>intro hh
     rcases Decidable.em (x.op=6)with h6|h6
     ·have hnk:nodK names slots lits x=decide (x.text∈names):=by unfold nodK;rw[h6];simp
      by_cases hm:x.text∈names
      ·have hst:DJ names slots lits x u=some ():=by unfold DJ;rw[hnk,decide_eq_true hm];rfl
       try refine gf (gi r1 (gi r2 (gi EY (gi h6 hm)))) ?_ o187
       exact HU hst hLO hI0 hG1 htl hl trivial hKr
      ·have hst:DJ names slots lits x u=none:=by unfold DJ;rw[hnk,decide_eq_false hm];rfl
       repeat' first|(exact Kb hst (SM hKr))|refine gf (gi r1 (gi r2 (gi EY (gi h6 hm)))) ?_ o187|apply gy<;>intro hh
     rcases Decidable.em (x.op=8)with h8|h8
     ·have hnk:nodK names slots lits x=decide (x.text∈names):=by unfold nodK;rw[h8];simp
      by_cases hm:x.text∈names
      ·have hst:DJ names slots lits x u=some ():=by unfold DJ;rw[hnk,decide_eq_true hm];rfl
       try refine gf (gi r1 (gi r2 (gi EY (gi h8 hm)))) ?_ o187
       exact HU hst hLO hI0 hG1 htl hl trivial hKr
      ·have hst:DJ names slots lits x u=none:=by unfold DJ;rw[hnk,decide_eq_false hm];rfl
       repeat' first|(exact Kb hst (SM hKr))|refine gf (gi r1 (gi r2 (gi EY (gi h8 hm)))) ?_ o187|apply gy<;>intro hh
     rcases Decidable.em (x.op=18)with h18|h18
     ·have hnk:nodK names slots lits x=lits:=by unfold nodK;rw[h18];simp
      cases hlt:lits
      ·have hst:DJ names slots false x u=none:=by unfold DJ;rw[hlt]at hnk;rw[hnk];rfl
       repeat' first|(exact Kb hst (SM hKr))|refine gf (gi r1 (gi h18 hlt)) ?_ o187|apply gy<;>intro hh
      ·have hst:DJ names slots true x u=some ():=by unfold DJ;rw[hlt]at hnk;rw[hnk];rfl
       try refine gf (gi r1 (gi h18 hlt)) ?_ o187
       exact HU hst hLO hI0 hG1 htl hl trivial hKr
     ·have hnk:nodK names slots lits x=true:=by unfold nodK;rw[if_neg (by omega),if_neg (by omega),if_neg h18]
      have hst:DJ names slots lits x u=some ():=by unfold DJ;rw[hnk];rfl
      try refine gf r1 ?_ o187
      exact HU hst hLO hI0 hG1 htl hl trivial hKr
    ·rcases h with h|h
     ·exact h
     ·rw[h,hLl]at hj;cases hj
    ·have e2:j≠l:=fun e=>by rw[e,hl]at hj;cases hj
     exact hK j y (by rw[hSL,w8 _ _ e2];exact hj) (by rintro(h|h);exact hn h;exact e2 h)
   ·have hwf:(freeE e [] []).length<=(freeE e [] []).length:=Nat.le_refl _
    try refine gz ?_ o187
    refine rng (kt:=9) (et:=4) (l:=eSS (freeE e [] [])) (fun it hit =>?_) (hx:=by rw[<-Ry];with_unfolding_all rfl)
    try refine gz ?_ o187
    have hsub:∀{S5:Sig},(∀j x,S' j=some x->S5 j=some x)->Sub (V.set ip (pObj f ic is d (n+k))) (dels [did] S5):=fun {S5} h5=>FV fun j x hj=>by
     rw[<-hSA']at hj
     obtain⟨g1,g2⟩:=hk j x hj id
     exact⟨h5 j x g1,g2⟩
    have hdi:it≠did:=fun e=>by rw[e,hdd]at hit;cases hit
    refine D6 [2,66] (fun (L:List Str) (S5:Sig) (la:Option (D×D))=>((∀x∈freeE e [] [],x∈args) ↔ (∀x∈L,x∈args))/\(∀j x,S' j=some x->S5 j=some x)/\S5 it=some (.iter (eSS L) la)) (fun _ _ _=>[]) (fun _ S5 _=>S5) (fun L _ _=>L.length) (freeE e [] []) (_) (none) (by exact⟨Iff.rfl,fun j x hj=>by rw[w8 _ _ fun e=>by rw[e,hit]at hj;cases hj];exact hj,w7 ..⟩) (fun L S5 la hI =>?_)
    obtain⟨hL,h5,hit6⟩:=hI
    try refine gz ?_ o187
    refine nxt (fun hL0 =>?_) (fun jj k v hkv =>?_) (hi:=hit6)
    ·have hL1:L=[]:=by unfold eSS eS at hL0;simpa using hL0
     subst hL1
     have hB:BX names slots args lits e n=some (n+k):=by unfold BX;rw[hlk];exact if_pos ⟨hk2,ho,hL.2 (by simp)⟩
     rw[hB]
     try refine gz ?_ o187
     exact Ng [did] (S':=V.set ip (pObj f ic is d (n+k))) (d' := .tup []) ⟨rfl,rfl⟩ (hsub h5) (hd:=by simp[h5 _ _ hdd]) (hw:=A8 _)
    ·obtain⟨hjj,rfl,rfl⟩:=UO hkv
     rw[NN]
     try refine gz ?_ o187
     refine ent ?_
     by_cases hm:L[jj]∈args
     ·have hm':=decide_eq_true hm
      try refine gf hm ?_ o187
      have hle:(L.eraseIdx jj).length<L.length:=by rw[List.length_eraseIdx,if_pos hjj];omega
      exact⟨L.eraseIdx jj,_,_,⟨by rw[hL];exact⟨fun h x hx=>h x ((Jd hjj x).2 (.inr hx)),fun h x hx=>Or.elim ((Jd hjj x).1 hx) (fun e=>e ▸ hm) (h x)⟩,fun j x hj=>by rw[w8 _ _ fun e=>by rw[e,hit]at hj;cases hj];exact h5 j x hj,w7 ..⟩,td1,wkR⟩
     ·have hB:BX names slots args lits e n=none:=by unfold BX;rw[hlk];exact if_neg fun h=>hm (hL.1 h.2.2 _ (List.getElem_mem hjj))
      rw[hB]
      have hm':=decide_eq_false hm
      repeat' first|(exact Ju [did] (S':=V.set ip (pObj f ic is d (n+k))) ⟨rfl,_,rfl⟩ (hsub fun j x hj=>by rw[w8 _ _ fun e=>by rw[e,hit]at hj;cases hj];exact h5 j x hj) (hd:=by simp[w8 _ _ (Ne.symm hdi),h5 _ _ hdd]))|refine gf hm ?_ o187|apply gy<;>intro hh
   ·have hB:BX names slots args lits e n=none:=by unfold BX;rw[hlk];exact if_neg fun h=>by rw[ho]at h;cases h.2.1
    rw[hB]
    try refine gz ?_ o187
    exact Ju [did] (S':=V.set ip (pObj f ic is d (n+k))) ⟨rfl,_,rfl⟩ (FV fun j x hj=>hk j x (by rw[hSA'];exact hj) id) (hd:=by simp[hdd])
  ·have hB:BX names slots args lits e n=none:=by unfold BX;rw[hlk];exact if_neg fun h=>hk2 h.1
   rw[hB]
   repeat' first|(exact Ju [] (S':=V.set ip (pObj f ic is d (n+k))) ⟨rfl,_,rfl⟩ (Sub.refl _))|refine gf (gi h1 hlk) ?_ o187|apply gy<;>intro hh
mutual
theorem OY{S:Type}{step:Int->FFact->S->Option S}(Q:S->Prop)(h:∀d x s s',step d x s=some s'->Q s->Q s'): ∀(x:FFact) (d:Int) (s s':S),Q s->visF step x d s=some s'->Q s'
 | .mk o a b c n k,d,s,s',hp,he=>by
  rw[visF]at he
  split at he
  ·cases he
  ·rename_i s1 h1
   exact Mn Q h k _ _ _ (h _ _ _ _ h1 hp) he
theorem Mn{S:Type}{step:Int->FFact->S->Option S}(Q:S->Prop)(h:∀d x s s',step d x s=some s'->Q s->Q s'): ∀(l:List FFact) (d:Int) (s s':S),Q s->Gh step l d s=some s'->Q s'
 |[],d,s,s',hp,he=>by rw[Gh]at he;cases he;exact hp
 | x::r,d,s,s',hp,he=>by
  rw[Gh]at he
  split at he
  ·cases he
  ·rename_i s1 h1
   exact Mn Q h r _ _ _ (OY Q h x _ _ _ hp h1) he
end
theorem MV{most:Int}{e:FFact}{k:Int}(hm:0<=most)(h:Fg most e=some k):0<=k/\k<=most :=
 OY (fun n=>0<=n/\n<=most) (fun d x s s' hs hq=>by unfold Gj at hs;split at hs<;>cases hs;omega) e 1 0 k ⟨Int.le_refl _,hm⟩ h
def wAny:Str:=[97,110,121]
def wInt:Str:=[105,110,116]
def IF:Str:=[110,111,110,101]
def J4(names slots args:List Str)(x:FFact):Bool :=
 (decide (x.name=[])||decide (x.name∈args))&&(x.path.all (fun s=>decide (s∈slots))&&(decide (x.cls∈names)||decide (x.cls=[])||decide (x.cls=wAny)||decide (x.cls=wInt)||decide (x.cls=IF)))
def HZ(names slots args:List Str)(x:FFact)(_:Unit):Option Unit:=if J4 names slots args x then some () else none
theorem Oi{names slots args:List Str}{x:FFact}{u:Unit}(h:J4 names slots args x=false):HZ names slots args x u=none:=by unfold HZ;rw[h];rfl
theorem Oh{names slots args:List Str}{x:FFact}{u:Unit}(h:J4 names slots args x=true):HZ names slots args x u=some ():=by unfold HZ;rw[h];rfl
def CC(names slots args:List Str)(e:FFact)(n:Int):Option Int:=match Fg 120 e with
 |none=>none
 |some k=>if n+k<=120/\visF (fun _ x s=>HZ names slots args x s) e 1 ()=some () then some (n+k) else none
theorem KT(f:FProg)(ip ic is:Nat)(d:D)(n:Int)(slots:List Str)(s:Str)(V:Sig)(h1:V ip=some (pObj f ic is d n))(h3:V is=some (.map (eSS slots))):
  DCall prog 243 [.str s,.cptr [.ptr ip 0] 0] V (rS (.bool (decide (s∈slots))) V):=by
 refine en func243 ntmps243 ?_
 try refine gf (gi h1 h3) ?_
 exact fe1 trivial
theorem R2(f:FProg)(ip ic is:Nat)(d:D)(n:Int)(names slots:List Str)(e:FFact)(args:List Str)(V:Sig)(hw:e.wt<=1073741824)(ha:args.length<=1073741824)(hn:0<=n/\n<=1000000)
  (h1:V ip=some (pObj f ic is d n)) (h2:V ic=some (.map (eSN (BU names 0)))) (h3:V is=some (.map (eSS slots))) :
  DCall prog 190 [.ptr ip 0,.agg (AM e),sl (cS args)] V (KnR f ip ic is d (CC names slots args e n) V):=by
 have hpi:ip≠ic:=Ac h1 h2 (by simp)
 have hps:ip≠is:=Ac h1 h3 (by simp)
 obtain⟨hn0,hn1⟩:=hn
 refine Bh func190 rfl (by decide) ntmps190 (by simp) ?_
 cases hlk:Fg 120 e with
 |none =>
  have hB:CC names slots args e n=none:=by unfold CC;rw[hlk]
  have hsm:(Fg 120 e).isSome=false:=by rw[hlk];rfl
  rw[hB]
  repeat' first|(exact fun _=>Ju [] (S':=V.set ip (pObj f ic is d n)) ⟨rfl,n,rfl⟩ (by rw[Sig.set_self _ h1];exact Sub.refl _))|refine gf (gi h1 hlk) ?_ o190|apply gy<;>intro hh
 | some k =>
  have hk:=MV (by omega) hlk
  have hsm:(Fg 120 e).isSome=true:=by rw[hlk];rfl
  by_cases hk2:n+k<=120
  ·try refine gf (gi h1 hlk) ?_ o190
   generalize hSA:V.set ip _=SA
   have o1:SA ip=some (pObj f ic is d (n+k)):=by rw[<-hSA,w7]
   have o2:SA ic=some (.map (eSN (BU names 0))):=by rw[<-hSA,w8 _ _ (Ne.symm hpi)];exact h2
   have o3:SA is=some (.map (eSS slots)):=by rw[<-hSA,w8 _ _ (Ne.symm hps)];exact h3
   have hSA':SA=V.set ip (pObj f ic is d (n+k)):=hSA.symm
   have hI:∀S0,Indep (fun (_:Sig) (_:Unit)=>True) S0:=fun S0 l _ S1 S2 s _ _ _=>trivial
   have hF:OS (fun (_:Sig) (_:Unit)=>True):=fun V s a o _ _=>trivial
   refine IX unf2 (fun _ (_:Unit)=>True) (fun _=>False) (fun _=>False) (visF (fun _ x s=>HZ names slots args x s) e 1 ()) () (hI _) hF trivial (fun j h=>h.elim) (fun j h=>h.elim) rfl (fun l did LO SL hLO hd hl htl hSL hG hnt =>?_) (fun did s' S' ho hdn hdd hG hk =>?_) (fun did S' ho hdn hdd hk =>?_)
   ·have hLl:SL l=some LO:=hG.1
    have hI0:Indep (fun (_:Sig) (_:Unit)=>True) (SA.set did .defs):=hI _
    refine(KO l _ _ (fun _=>False) (fun _ x s=>HZ names slots args x s) (fun d x S1 u hd1 hd2 hx hG1 =>?_) (fun V s a o h ha=>h.new hF ha) e SL () (fun _ _ h=>h) hw hG)
    ·have bne:∀{q o},SA q=some o->(SA.set did .defs) q=some o/\q≠l:=fun {q o} hq=>by
      have e1:q≠did:=fun e=>by rw[e,hd]at hq;cases hq
      have e2:(SA.set did .defs) q=some o:=by rw[w8 _ _ e1];exact hq
      exact⟨e2,fun e=>by rw[e,hl]at e2;cases e2⟩
     have qb:∀{q o},SA q=some o->(S1.set l (Ce LO)) q=some o:=fun {q o} hq=>by
      rw[w8 _ _ (bne hq).2];exact hG1.2.2 q o (bne hq).1 id
     have r1:=qb o1
     have r2:=qb o2
     have r3:=qb o3
     have hKr:=Keep.refl (fun _=>False) (S1.set l (Ce LO))
     refine Eu hLO hG1.1 ?_
     try refine gz ?_ o190
     refine⟨hG1.1,?_⟩
     generalize hSb:S1.set l (Ce LO)=Sb at r1 r2 r3⊢
     rw[hSb]at hKr
     have hKr:Keep (fun _=>False) (S1.set l (Ce LO)) Sb:=by rw[hSb];exact hKr
     have hpx:pF x=.iface 316 (.agg (AM x)):=rfl
     have hpl:x.path.length<=1073741824:=by have:=Bu x.path;have:=x.wt_le;omega
     repeat' first|(exact Kb (Oi (by clear hKr r1 r2 r3 hG1 hG hnt hLO;first|(simp_all [J4,wAny,wInt,IF];done)|(simp_all [J4,wAny,wInt,IF];grind))) (hG1.bad hl (fun _ h=>h) hKr))|refine gf (gi r1 (gi r2 (gi r3 (gi hpx EY)))) ?_|refine Ax (Nt x.path (fun s=>decide (s∈slots)) 243 [.cptr [.ptr ip 0] 0] _ Sb hpl (fun y hy=>KT f ip ic is _ _ slots y Sb r1 r3)) ?_|refine callP (Nt x.path (fun s=>decide (s∈slots)) 243 [.cptr [.ptr ip 0] 0] _ Sb hpl (fun y hy=>KT f ip ic is _ _ slots y Sb r1 r3)) ?_|refine gf (gi r1 (gi r2 (gi r3 (gi hpx EY)))) ?_ o190|apply gy<;>intro hh
     all_goals exact HU (Oh (by clear hKr r1 r2 r3 hG1 hG hnt hLO;simp_all [J4,wAny,wInt,IF])) hLO hI0 hG1 htl hl trivial hKr
   ·have hB:CC names slots args e n=some (n+k):=by unfold CC;rw[hlk];exact if_pos ⟨hk2,ho⟩
    rw[hB]
    try refine gz ?_ o190
    exact Ng [did] (S':=V.set ip (pObj f ic is d (n+k))) (d' := .tup []) ⟨rfl,rfl⟩ (FV fun j x hj=>hk j x (by rw[hSA'];exact hj) id) (hd:=by simp[hdd]) (hw:=A8 _)
   ·have hB:CC names slots args e n=none:=by unfold CC;rw[hlk];exact if_neg fun h=>by rw[ho]at h;cases h.2
    rw[hB]
    try refine gz ?_ o190
    exact Ju [did] (S':=V.set ip (pObj f ic is d (n+k))) ⟨rfl,_,rfl⟩ (FV fun j x hj=>hk j x (by rw[hSA'];exact hj) id) (hd:=by simp[hdd])
  ·have hB:CC names slots args e n=none:=by unfold CC;rw[hlk];exact if_neg fun h=>hk2 h.1
   rw[hB]
   repeat' first|(exact Ju [] (S':=V.set ip (pObj f ic is d (n+k))) ⟨rfl,_,rfl⟩ (Sub.refl _))|refine gf (gi h1 hlk) ?_ o190|apply gy<;>intro hh
mutual
def allE:FExp->List FExp
 |.mk o n t k => .mk o n t k::Dz k
def Dz:List FExp->List FExp
 |[]=>[]
 |x::r=>allE x++Dz r
end
theorem Vc(e:FExp):allE e=e::Dz e.kids:=by cases e;rw[allE];rfl
mutual
theorem El: ∀e:FExp,(allE e).length<=e.wt
 |.mk o n t k=>by
  have:=Oc k
  rw[allE,FExp.wt_eq];simp only[List.length_cons]
  show _<=1+t.length+wtL FExp.wt k
  omega
theorem Oc: ∀l:List FExp,(Dz l).length<=wtL FExp.wt l
 |[]=>by rw[Dz];simp
 |x::r=>by
  have h1:=El x
  have h2:=Oc r
  rw[Dz,List.length_append,wtL];omega
end
theorem Iu: ∀(n:Nat) (e:FExp) (V:Sig),e.wt<=n->n<=1073741824->DCall prog 76 [.agg (Ah e)] V (rS (sl ((allE e).map Ah)) V):=by
 intro n
 induction n with
 |zero =>
  intro e V hx
  have:=e.wt_pos
  omega
 | succ n ih =>
  intro e V hx hn
  obtain⟨w1,w2,hw3⟩:=e.wt_le
  have hlen:=El e
  rw[Vc]at hlen⊢
  refine en func76 ntmps76 ?_
  refine gz ?_
  refine Qu [1,2,22] (fun (k:Nat) (out:List FExp) (o:Own) (S1:Sig)=>k<=e.kids.length/\e::Dz e.kids=out++Dz (e.kids.drop k)/\(o=.clip \/ ∃i,o=.tag i/\V i=none/\S1 i=some (.tail 4 out.length))/\Sub V S1) (fun k out o _=>[(4,dI k),(3,.slice (out.map Ah) o)]) (fun _ _ _ S1=>S1) (fun k _ _ _=>e.kids.length-k) (0) ([e]) (.clip) (V) (by exact⟨by omega,rfl,.inl rfl,Sub.refl _⟩) (fun k out o S1 hI =>?_)
  obtain⟨hk,hR,ho,hS⟩:=hI
  have hol:out.length<=e.wt:=by rw[hR,List.length_append]at hlen;omega
  by_cases hkl:k<e.kids.length
  ·rw[A0 hkl,Dz, <-List.append_assoc]at hR
   have hwk:=hw3 k hkl
   have hnl:=El e.kids[k]
   have hol2:out.length+(allE e.kids[k]).length<=e.wt:=by rw[hR]at hlen;simp only[List.length_append]at hlen;omega
   have hne:(allE e.kids[k]).map Ah≠[]:=by rw[Vc];simp
   rcases ho with rfl|⟨i,rfl,hi0,hi1⟩
   ·repeat' first|refine gz ?_|refine Ax (ih e.kids[k] S1 (by omega) (by omega)) ?_|refine callP (ih e.kids[k] S1 (by omega) (by omega)) ?_|refine gz ?_|apply gy<;>intro hh
    refine appC (fun j hj =>?_) (hne:=hne)
    refine gz ?_
    have hSj:V j=none:=hS.none hj
    have hsz:DObj.tail (tab 40).size ((out.map Ah).length+((allE e.kids[k]).map Ah).length)=.tail 4 (out++allE e.kids[k]).length:=by simp
    have hsub:Sub (S1.set j (.tail 4 (out++allE e.kids[k]).length)) (S1.set j (.tail (tab 40).size ((out.map Ah).length+((allE e.kids[k]).map Ah).length))):=by rw[hsz];exact Sub.refl _
    exact⟨k+1,out++allE e.kids[k],.tag j,S1.set j (.tail 4 (out++allE e.kids[k]).length),⟨by omega,hR,.inr ⟨j,rfl,hSj,w7 ..⟩,hS.trans ((Sub.refl _).set hj)⟩,td1,wkR⟩
   ·repeat' first|refine gf hi1 ?_|refine Ax (ih e.kids[k] S1 (by omega) (by omega)) ?_|refine callP (ih e.kids[k] S1 (by omega) (by omega)) ?_|refine gf hi1 ?_|apply gy<;>intro hh
    have hsub:Sub (S1.set i (.tail 4 (out++allE e.kids[k]).length)) (S1.set i (.tail 4 (out.length+(allE e.kids[k]).length))):=by rw[List.length_append];exact Sub.refl _
    exact⟨k+1,out++allE e.kids[k],.tag i,S1.set i (.tail 4 (out++allE e.kids[k]).length),⟨by omega,hR,.inr ⟨i,rfl,hi0,w7 ..⟩,hS.set hi0⟩,td1,wkR⟩
  ·rw[A1 hkl,Dz,List.append_nil]at hR
   refine gz ?_
   rw[hR]
   exact fin1 (S':=V) ⟨rfl,rfl⟩
theorem LV(op:Int)(s:Str)(l:List (List D))(o:Own)(V:Sig):DCall prog 95 [dI op,.str s,.slice l o] V (rS (.agg [dI op,dI 0,.str s,.slice l o]) V):=by
 refine en func95 ntmps95 ?_
 refine gz ?_ [] [6]
 refine newV (fun i hi =>?_)
 refine gz ?_ [] [6]
 exact finC (S':=V) ⟨rfl,rfl⟩
@[reducible,instance] def a95:=fun op s l o V=>ah0 (@LV op s l o V)
def shpB(e:FExp):Bool:=BM (hasM e.op shapesL) (getM ⟨false,0,0⟩ e.op shapesL) e
theorem Tv(e:FExp)(V:Sig)(hw:e.wt<=1073741824):DCall prog 249 [.agg (Ah e)] V (rS (.bool (shpB e)) V):=by
 obtain⟨w1,w2,hw3⟩:=e.wt_le
 have hi0:inB 0=true:=by decide
 have hk0:((e.kids.length:Int)=0)=(e.kids=[]):=by rw[<-List.length_eq_zero_iff];exact propext ⟨fun h=>by omega,fun h=>by omega⟩
 refine en func249 ntmps249 ?_
 rcases Decidable.em (e.op=1)with h1|h1
 ·have hB:shpB e=BM true ⟨false,0,0⟩ e:=by unfold shpB;rw[h1];rfl
  rw[hB]
  unfold BM
  have hdj:(decide (e.n=0)||(decide (e.op=1)&&inB e.n))=inB e.n:=by rw[h1];by_cases hn:e.n=0<;>simp[hn,hi0]
  rw[hdj]
  repeat' first|refine gf h1 ?_|apply gy<;>intro hh
  all_goals refine fin1 (S':=V) ⟨?_,rfl⟩
  all_goals first|(simp_all;done)|(rw[A7,Bool.eq_iff_iff];simp_all<;>omega)
 rcases Decidable.em (e.op=2)with h2|h2
 ·have hB:shpB e=BM true ⟨false,0,0⟩ e:=by unfold shpB;rw[h2];rfl
  rw[hB]
  unfold BM
  repeat' first|refine gf h2 ?_|apply gy<;>intro hh
  all_goals refine fin1 (S':=V) ⟨?_,rfl⟩
  all_goals first|(simp_all;done)|(rw[A7,Bool.eq_iff_iff];simp_all<;>omega)
 rcases Decidable.em (e.op=18)with h18|h18
 ·have hB:shpB e=BM true ⟨false,0,0⟩ e:=by unfold shpB;rw[h18];rfl
  rw[hB]
  unfold BM
  repeat' first|refine gf h18 ?_|apply gy<;>intro hh
  all_goals refine fin1 (S':=V) ⟨?_,rfl⟩
  all_goals first|(simp_all;done)|(rw[A7,Bool.eq_iff_iff];simp_all<;>omega)
 rcases Decidable.em (e.op=3)with h3|h3
 ·have hB:shpB e=BM true ⟨true,0,0⟩ e:=by unfold shpB;rw[h3];rfl
  rw[hB]
  unfold BM
  repeat' first|refine gf h3 ?_|apply gy<;>intro hh
  all_goals refine fin1 (S':=V) ⟨?_,rfl⟩
  all_goals first|(simp_all;done)|(rw[A7,Bool.eq_iff_iff];simp_all<;>omega)
 rcases Decidable.em (e.op=6)with h6|h6
 ·have hB:shpB e=BM true ⟨true,0,0⟩ e:=by unfold shpB;rw[h6];rfl
  rw[hB]
  unfold BM
  repeat' first|refine gf h6 ?_|apply gy<;>intro hh
  all_goals refine fin1 (S':=V) ⟨?_,rfl⟩
  all_goals first|(simp_all;done)|(rw[A7,Bool.eq_iff_iff];simp_all<;>omega)
 rcases Decidable.em (e.op=4)with h4|h4
 ·have hB:shpB e=BM true ⟨true,1,1⟩ e:=by unfold shpB;rw[h4];rfl
  rw[hB]
  unfold BM
  repeat' first|refine gf h4 ?_|apply gy<;>intro hh
  all_goals refine fin1 (S':=V) ⟨?_,rfl⟩
  all_goals first|(simp_all;done)|(rw[A7,Bool.eq_iff_iff];simp_all<;>omega)
 rcases Decidable.em (e.op=8)with h8|h8
 ·have hB:shpB e=BM true ⟨true,1,1⟩ e:=by unfold shpB;rw[h8];rfl
  rw[hB]
  unfold BM
  repeat' first|refine gf h8 ?_|apply gy<;>intro hh
  all_goals refine fin1 (S':=V) ⟨?_,rfl⟩
  all_goals first|(simp_all;done)|(rw[A7,Bool.eq_iff_iff];simp_all<;>omega)
 rcases Decidable.em (e.op=7)with h7|h7
 ·have hB:shpB e=BM true ⟨true,2,2⟩ e:=by unfold shpB;rw[h7];rfl
  rw[hB]
  unfold BM
  repeat' first|refine gf h7 ?_|apply gy<;>intro hh
  all_goals refine fin1 (S':=V) ⟨?_,rfl⟩
  all_goals first|(simp_all;done)|(rw[A7,Bool.eq_iff_iff];simp_all<;>omega)
 rcases Decidable.em (e.op=9)with h9|h9
 ·have hB:shpB e=BM true ⟨true,2,2⟩ e:=by unfold shpB;rw[h9];rfl
  rw[hB]
  unfold BM
  repeat' first|refine gf h9 ?_|apply gy<;>intro hh
  all_goals refine fin1 (S':=V) ⟨?_,rfl⟩
  all_goals first|(simp_all;done)|(rw[A7,Bool.eq_iff_iff];simp_all<;>omega)
 rcases Decidable.em (e.op=5)with h5|h5
 ·have hB:shpB e=BM true ⟨true,1,3⟩ e:=by unfold shpB;rw[h5];rfl
  rw[hB]
  unfold BM
  have hdn:decide (e.op=1)=false:=by rw[h5];rfl
  obtain hq|hq|hq|hq|hq:e.kids.length=0\/e.kids.length=1\/e.kids.length=2\/e.kids.length=3\/4<=e.kids.length:=by omega
  ·repeat' first|refine gf (gi h5 hq) ?_|apply gy<;>intro hh
   all_goals refine fin1 (S':=V) ⟨?_,rfl⟩
   all_goals (clear hw3 hk0;first|(simp_all;done)|(rw[A7,Bool.eq_iff_iff];simp[h5,hq];omega)|skip)
  ·repeat' first|refine gf (gi h5 hq) ?_|apply gy<;>intro hh
   all_goals refine fin1 (S':=V) ⟨?_,rfl⟩
   all_goals (clear hw3 hk0;first|(simp_all;done)|(rw[A7,Bool.eq_iff_iff];simp[h5,hq];omega)|skip)
  ·repeat' first|refine gf (gi h5 hq) ?_|apply gy<;>intro hh
   all_goals refine fin1 (S':=V) ⟨?_,rfl⟩
   all_goals (clear hw3 hk0;first|(simp_all;done)|(rw[A7,Bool.eq_iff_iff];simp[h5,hq];omega)|skip)
  ·repeat' first|refine gf (gi h5 hq) ?_|apply gy<;>intro hh
   all_goals refine fin1 (S':=V) ⟨?_,rfl⟩
   all_goals (clear hw3 hk0;first|(simp_all;done)|(rw[A7,Bool.eq_iff_iff];simp[h5,hq];omega)|skip)
  ·repeat' first|refine gf h5 ?_|apply gy<;>intro hh
   all_goals refine fin1 (S':=V) ⟨?_,rfl⟩
   all_goals (clear hw3 hk0;first|(simp_all;done)|(rw[A7,Bool.eq_iff_iff];simp[h5,hq];omega)|skip)
 rcases Decidable.em (e.op=10)with h10|h10
 ·have hB:shpB e=BM true ⟨false,3,3⟩ e:=by unfold shpB;rw[h10];rfl
  rw[hB]
  unfold BM
  repeat' first|refine gf h10 ?_|apply gy<;>intro hh
  all_goals refine fin1 (S':=V) ⟨?_,rfl⟩
  all_goals first|(simp_all;done)|(rw[A7,Bool.eq_iff_iff];simp_all<;>omega)
 rcases Decidable.em (e.op=17)with h17|h17
 ·have hB:shpB e=BM true ⟨false,1,1⟩ e:=by unfold shpB;rw[h17];rfl
  rw[hB]
  unfold BM
  repeat' first|refine gf h17 ?_|apply gy<;>intro hh
  all_goals refine fin1 (S':=V) ⟨?_,rfl⟩
  all_goals first|(simp_all;done)|(rw[A7,Bool.eq_iff_iff];simp_all<;>omega)
 rcases Decidable.em (e.op=11)with h11|h11
 ·have hB:shpB e=BM true ⟨false,2,2⟩ e:=by unfold shpB;rw[h11];rfl
  rw[hB]
  unfold BM
  repeat' first|refine gf h11 ?_|apply gy<;>intro hh
  all_goals refine fin1 (S':=V) ⟨?_,rfl⟩
  all_goals first|(simp_all;done)|(rw[A7,Bool.eq_iff_iff];simp_all<;>omega)
 rcases Decidable.em (e.op=12)with h12|h12
 ·have hB:shpB e=BM true ⟨false,2,2⟩ e:=by unfold shpB;rw[h12];rfl
  rw[hB]
  unfold BM
  repeat' first|refine gf h12 ?_|apply gy<;>intro hh
  all_goals refine fin1 (S':=V) ⟨?_,rfl⟩
  all_goals first|(simp_all;done)|(rw[A7,Bool.eq_iff_iff];simp_all<;>omega)
 rcases Decidable.em (e.op=13)with h13|h13
 ·have hB:shpB e=BM true ⟨false,2,2⟩ e:=by unfold shpB;rw[h13];rfl
  rw[hB]
  unfold BM
  repeat' first|refine gf h13 ?_|apply gy<;>intro hh
  all_goals refine fin1 (S':=V) ⟨?_,rfl⟩
  all_goals first|(simp_all;done)|(rw[A7,Bool.eq_iff_iff];simp_all<;>omega)
 rcases Decidable.em (e.op=14)with h14|h14
 ·have hB:shpB e=BM true ⟨false,2,2⟩ e:=by unfold shpB;rw[h14];rfl
  rw[hB]
  unfold BM
  repeat' first|refine gf h14 ?_|apply gy<;>intro hh
  all_goals refine fin1 (S':=V) ⟨?_,rfl⟩
  all_goals first|(simp_all;done)|(rw[A7,Bool.eq_iff_iff];simp_all<;>omega)
 rcases Decidable.em (e.op=15)with h15|h15
 ·have hB:shpB e=BM true ⟨false,2,2⟩ e:=by unfold shpB;rw[h15];rfl
  rw[hB]
  unfold BM
  repeat' first|refine gf h15 ?_|apply gy<;>intro hh
  all_goals refine fin1 (S':=V) ⟨?_,rfl⟩
  all_goals first|(simp_all;done)|(rw[A7,Bool.eq_iff_iff];simp_all<;>omega)
 rcases Decidable.em (e.op=16)with h16|h16
 ·have hB:shpB e=BM true ⟨false,2,2⟩ e:=by unfold shpB;rw[h16];rfl
  rw[hB]
  unfold BM
  repeat' first|refine gf h16 ?_|apply gy<;>intro hh
  all_goals refine fin1 (S':=V) ⟨?_,rfl⟩
  all_goals first|(simp_all;done)|(rw[A7,Bool.eq_iff_iff];simp_all<;>omega)
 have hB:shpB e=false:=by
  have hh:hasM e.op shapesL=false:=by
   show(decide (e.op=1)||(decide (e.op=2)||(decide (e.op=18)||(decide (e.op=3)||(decide (e.op=6)||(decide (e.op=4)||(decide (e.op=8)||(decide (e.op=7)||(decide (e.op=9)||(decide (e.op=5)||(decide (e.op=10)||(decide (e.op=17)||(decide (e.op=11)||(decide (e.op=12)||(decide (e.op=13)||(decide (e.op=14)||(decide (e.op=15)||(decide (e.op=16)||false))))))))))))))))))=false
   rw[decide_eq_false h1,decide_eq_false h2,decide_eq_false h18,decide_eq_false h3,decide_eq_false h6,decide_eq_false h4,decide_eq_false h8,decide_eq_false h7,decide_eq_false h9,decide_eq_false h5,decide_eq_false h10,decide_eq_false h17,decide_eq_false h11,decide_eq_false h12,decide_eq_false h13,decide_eq_false h14,decide_eq_false h15,decide_eq_false h16]
   rfl
  unfold shpB BM;rw[hh];rfl
 rw[hB]
 repeat' first|refine gz ?_|apply gy<;>intro hh
 any_goals (first|exact fe1 trivial|fail)
@[reducible,instance] def a249:=fun e V=>ah1 (@Tv e V)
mutual
def cntE:FExp->Int->Int->Bool×Int
 |.mk o n t k,d,b=>if b-1<0\/12<d\/shpB (.mk o n t k)=false then(false,b-1) else F7 k (d+1) (b-1)
def F7:List FExp->Int->Int->Bool×Int
 |[],_,b=>(true,b)
 |x::r,d,b=>if(cntE x d b).1=true then F7 r d (cntE x d b).2 else(false,(cntE x d b).2)
end
theorem V4(e:FExp)(d b:Int):cntE e d b=if b-1<0\/12<d\/shpB e=false then(false,b-1) else F7 e.kids (d+1) (b-1):=by cases e;rw[cntE];rfl
mutual
theorem V3: ∀(e:FExp) (d b:Int),(cntE e d b).2<=b/\(0<=b-> -1<=(cntE e d b).2)/\((cntE e d b).1=true->0<=(cntE e d b).2)
 | .mk o n t k,d,b=>by
  rw[cntE]
  split
  ·refine⟨?_,?_,?_⟩<;>simp<;>omega
  ·have:=Q4 k (d+1) (b-1)
   exact⟨by omega,fun h=>this.2.1 (by omega),fun h=>this.2.2 (by omega) h⟩
theorem Q4: ∀(l:List FExp) (d b:Int),(F7 l d b).2<=b/\(0<=b-> -1<=(F7 l d b).2)/\(0<=b->(F7 l d b).1=true->0<=(F7 l d b).2)
 |[],d,b=>by rw[F7];exact⟨Int.le_refl _,fun h=>by simp;omega,fun h _=>h⟩
 | x::r,d,b=>by
  have h1:=V3 x d b
  rw[F7]
  split
  ·rename_i h
   have h2:=Q4 r d (cntE x d b).2
   have:=h1.2.2 h
   exact⟨by omega,fun _=>h2.2.1 this,fun _ h3=>h2.2.2 this h3⟩
  ·exact⟨h1.1,h1.2.1,fun _ h3=>by cases h3⟩
end
theorem QY(ib:Nat): ∀(n:Nat) (e:FExp) (d b:Int) (V:Sig),e.wt<=n->n<=1073741824->0<=d->d+n<=2000000000->0<=b->b<=1000->V ib=some (.cells [dI b])->
  DCall prog 208 [.agg (Ah e),dI d,.ptr ib 0] V fun x S'=>x=.ret (.bool (cntE e d b).1)/\S'=V.set ib (.cells [dI (cntE e d b).2]):=by
 intro n
 induction n with
 |zero =>
  intro e d b V hx
  have:=e.wt_pos
  omega
 | succ n ih =>
  intro e d b V hx hn hd hd2 hb0 hb1 o1
  obtain⟨w1,w2,hw3⟩:=e.wt_le
  have hwe:e.wt<=1073741824:=by omega
  refine en func208 ntmps208 ?_
  by_cases hbad:b-1<0\/12<d\/shpB e=false
  ·have hc:cntE e d b=(false,b-1):=by rw[V4,if_pos hbad]
   rw[hc]
   by_cases h1:b-1<0
   ·refine gf o1 ?_
    exact fin1 (S':=V.set ib (.cells [dI (b-1)])) ⟨rfl,rfl⟩
   ·by_cases h2:12<d
    ·refine gf o1 ?_
     exact fin1 (S':=V.set ib (.cells [dI (b-1)])) ⟨rfl,rfl⟩
    ·have h3:shpB e=false:=by grind
     refine gf (gi o1 h3) ?_
     exact fin1 (S':=V.set ib (.cells [dI (b-1)])) ⟨rfl,rfl⟩
  ·have hc:cntE e d b=F7 e.kids (d+1) (b-1):=by rw[V4,if_neg hbad]
   have h1:0<=b-1:=by omega
   have h2:d<=12:=by omega
   have h3:shpB e=true:=by cases h:shpB e;exact absurd (.inr (.inr h)) hbad;rfl
   rw[hc]
   refine gf (gi o1 h3) ?_
   refine AA [1,2,3] (fun (k:Nat) (c:Int)=>k<=e.kids.length/\0<=c/\c<=b/\F7 e.kids (d+1) (b-1)=F7 (e.kids.drop k) (d+1) c) (fun k _=>[(7,dI k)]) (fun _ c=>V.set ib (.cells [dI c])) (fun k _=>e.kids.length-k) (0) (b-1) (by exact⟨by omega,by omega,by omega,rfl⟩) (fun k c hI =>?_)
   obtain⟨hk,hc0,hc1,hR⟩:=hI
   by_cases hkl:k<e.kids.length
   ·rw[A0 hkl,F7]at hR
    have hle:=V3 e.kids[k] (d+1) c
    refine gz ?_
    refine Ab (ih e.kids[k] (d+1) c _ (by have:=hw3 k hkl;omega) (by omega) (by omega) (by omega) hc0 (by omega) (w7 ..)) (fun x S' hr =>?_) (fun x S' hr=>by cases hr.1)
    obtain⟨e1,rfl⟩:=hr
    cases e1
    cases hq:(cntE e.kids[k] (d+1) c).1
    ·rw[if_neg (by rw[hq];simp)]at hR
     rw[hR]
     refine gz ?_
     exact fin1 (S':=V.set ib (.cells [dI (cntE e.kids[k] (d+1) c).2])) ⟨rfl,rfl⟩ (by rw[w9];exact Sub.refl _)
    ·rw[if_pos hq]at hR
     refine gz ?_
     exact⟨k+1,(cntE e.kids[k] (d+1) c).2,⟨by omega,hle.2.2 hq,by omega,hR⟩,td1,wkR⟩
   ·rw[A1 hkl,F7]at hR
    rw[hR]
    refine gz ?_
    exact fin1 (S':=V.set ib (.cells [dI c])) ⟨rfl,rfl⟩
theorem Uw(e:FExp)(V:Sig)(hw:e.wt<=1073741824):DCall prog 122 [.agg (Ah e)] V (rS (.bool (cntE e 1 120).1) V):=by
 refine en func122 ntmps122 ?_
 refine gz ?_ [] [3]
 refine newV (fun ib hib =>?_)
 refine gz ?_ [] [3]
 refine Ab (QY ib _ e 1 120 _ (Nat.le_refl _) hw (by omega) (by omega) (by omega) (by omega) (w7 ..)) (fun x S' hr =>?_) (fun x S' hr=>by cases hr.1)
 obtain⟨e1,rfl⟩:=hr
 cases e1
 refine gz ?_ [] [3]
 exact fin1 (S':=V) ⟨rfl,rfl⟩ (by rw[w9];exact(Sub.refl _).set hib)
@[reducible,instance] def a122:=fun e V=>ah1 (@Uw e V)
theorem Tn(l:List Str)(s:Str)(o:Own)(V:Sig)(hl:l.length<=1073741824):DCall prog 285 [.slice (cS l) o,.str s] V (rS (sl (cS (ins s l))) V):=by
 refine en func285 ntmps285 ?_
 by_cases hs:s∈l
 ·have hi:ins s l=l:=by unfold ins;rw[if_pos hs]
  rw[hi]
  refine gf hs ?_
  exact fin1 (S':=V) ⟨rfl,rfl⟩
 ·have hi:ins s l=l++[s]:=by unfold ins;rw[if_neg hs]
  rw[hi]
  refine gf hs ?_
  refine appN (fun i hi =>?_)
  refine gz ?_
  refine fin1 (S':=V) ⟨rfl,rfl⟩ ?_ (hw := ?_)
  ·exact(Sub.refl _).set hi
  ·refine Cj _ ?_;simp[cS]
@[reducible,instance] def a285:=fun l s o V=>ah1 (@Tn l s o V)
@[simp] theorem binD_lssS(a b:Str):binD .lss (.str a) (.str b)=some (.bool (Op.bytesLess a b)):=rfl
theorem QO(l:List Str)(o:Own)(V:Sig)(hl:l.length<=1073741824):DCall prog 250 [.slice (cS l) o] V fun x S'=>(∃l':List Str,x=.ret (sl (cS l'))/\(∀x,x∈l' ↔ x∈l)/\l'.length<=l.length)/\S'=V:=by
 refine en func250 ntmps250 ?_
 refine gz ?_ o250
 refine AA [0,2,58] (fun (k:Nat) (out:List Str)=>k<=l.length/\out.length<=k/\(∀x,x∈out ↔ x∈l.take k)) (fun k out=>[(4,dI k),(3,sl (cS out))]) (fun _ _=>V) (fun k _=>l.length-k) (0) ([]) (by simp) (fun k out hI =>?_)
 obtain⟨hk,hol,hR⟩:=hI
 by_cases hkl:k<l.length
 ·have htk:=List.take_succ_eq_append_getElem hkl
  generalize hlk:l[k]=s at *
  refine gz ?_ o250
  refine B2 [0,2,3,4,6,7,8,9,10,11,29,30,31,32,33,34,35,36,37,38,39,40,41,42,43,44,45,46,47,48,49,50,51,52,53,54,55,56,57,58] (fun (j:Nat)=>j<=out.length) (fun j=>[(5,dI j)]) (fun _=>V) (fun j=>out.length-j) (0) (by omega) (fun j hI =>?_)
  have hmx:∀x:Str,x∈out.take j++s::out.drop j ↔ x=s\/x∈out:=fun x=>by
   rw[List.mem_append,List.mem_cons]
   conv=>rhs;rw[<-List.take_append_drop j out,List.mem_append]
   exact⟨fun h=>by rcases h with h|h|h<;>simp[h],fun h=>by rcases h with h|h|h<;>simp[h]⟩
  by_cases hj:j<out.length
  ·generalize hoj:out[j]=y at *
   repeat' first|refine gf (gi hlk hoj) ?_ o250|apply gy<;>intro hh
   ·exact⟨j+1,by omega,td1,wkR⟩
   ·refine Su (fun i hi =>?_)
    refine gf hlk ?_ o250
    exact⟨k+1,out.take j++s::out.drop j,⟨by omega,by simp;omega,fun x=>by rw[hmx,htk,List.mem_append, <-hR];simp only[List.mem_singleton];exact or_comm⟩,td1,wkR⟩
   ·have hmem:y∈out:=by rw[<-hoj];exact List.getElem_mem hj
    exact⟨k+1,out,⟨by omega,by omega,fun x=>by rw[htk,List.mem_append, <-hR];simp only[List.mem_singleton];exact⟨.inl,fun h=>h.elim id fun e=>by rw[e, <-hh];exact hmem⟩⟩,td1,wkR⟩
  ·refine gf hlk ?_ o250
   refine Su (fun i hi =>?_)
   refine gf hlk ?_ o250
   exact⟨k+1,out.take j++s::out.drop j,⟨by omega,by simp;omega,fun x=>by rw[hmx,htk,List.mem_append, <-hR];simp only[List.mem_singleton];exact or_comm⟩,td1,wkR⟩
 ·refine gz ?_ o250
  have e:l.take k=l:=List.take_of_length_le (by omega)
  rw[e]at hR
  refine fin1 (S':=V) (d':=sl (cS out)) ⟨⟨out,rfl,hR,by omega⟩,rfl⟩
mutual
def CZ:FExp->List Str->List Str
 |.mk o n t k,b=>if o=3/\t∉b then [t] else BW o t k 0 b
def BW(o:Int)(t:Str):List FExp->Nat->List Str->List Str
 |[],_,_=>[]
 |x::r,i,b=>CZ x (if o=9/\i=1 then ins t b else b)++BW o t r (i+1) b
end
theorem SH(e:FExp)(b:List Str):CZ e b=if e.op=3/\e.text∉b then [e.text] else BW e.op e.text e.kids 0 b:=by cases e;rw[CZ];rfl
mutual
theorem EE: ∀(e:FExp) (b:List Str),(CZ e b).length<=e.wt
 |.mk o n t k,b=>by
  have hw:(FExp.mk o n t k).wt=1+t.length+wtL FExp.wt k:=FExp.wt_eq _
  rw[CZ]
  split
  ·simp;omega
  ·have:=Je o t k 0 b;omega
theorem Je(o:Int)(t:Str): ∀(l:List FExp) (i:Nat) (b:List Str),(BW o t l i b).length<=wtL FExp.wt l
 |[],_,_=>by rw[BW];simp
 |x::r,i,b=>by
  have h1:=EE x (if o=9/\i=1 then ins t b else b)
  have h2:=Je o t r (i+1) b
  rw[BW,List.length_append,wtL];omega
end
theorem SN{α:Type}[DecidableEq α](k:α)(s:List α):(ins k s).length<=s.length+1:=by unfold ins;split<;>simp
theorem Tu: ∀(n:Nat) (e:FExp) (b:List Str) (o:Own) (V:Sig),e.wt<=n->b.length+n<=1073741824->DCall prog 251 [.agg (Ah e),.slice (cS b) o] V (rS (sl (cS (CZ e b))) V):=by
 intro n
 induction n with
 |zero =>
  intro e b o V hx
  have:=e.wt_pos
  omega
 | succ n ih =>
  intro e b o V hx hn
  obtain⟨w1,w2,hw3⟩:=e.wt_le
  have hlen:=EE e b
  have hbl:b.length<=1073741824:=by omega
  rw[SH]at hlen⊢
  refine en func251 ntmps251 ?_
  by_cases h3:e.op=3/\e.text∉b
  ·rw[if_pos h3]
   obtain⟨h3,h4⟩:=h3
   refine gf (gi h3 h4) ?_
   exact fin1 (S':=V) ⟨rfl,rfl⟩
  ·rw [if_neg h3] at hlen ⊢
   have hq:e.op=3->e.text∈b:=fun h=>Decidable.byContradiction fun h4=>h3 ⟨h,h4⟩
   by_cases h33:e.op=3
   ·have h4:=hq h33
    refine gf (gi h33 h4) ?_
    refine Bz 5 1 (fun i hi =>?_)
    refine AA [1,2,4,49] (fun (k:Nat) (out:List Str)=>k<=e.kids.length/\BW e.op e.text e.kids 0 b=out++BW e.op e.text (e.kids.drop k) k b) (fun k out=>[(6,dI k),(5,.slice (cS out) (.tag i))]) (fun _ out=>V.set i (.tail 1 out.length)) (fun k _=>e.kids.length-k) (0) ([]) (by simp) (fun k out hI =>?_)
    obtain⟨hk,hR⟩:=hI
    have hol:out.length<=(BW e.op e.text e.kids 0 b).length:=by rw[hR,List.length_append];omega
    by_cases hkl:k<e.kids.length
    ·rw[A0 hkl,BW]at hR
     have hxw:=hw3 k hkl
     have hxl:=EE (e.kids[k]) (if e.op=9/\k=1 then ins e.text b else b)
     generalize hxk:e.kids[k]=x at *
     have i251:∀(b':List Str) (o:Own) (V:Sig),Ans 251 [.agg (Ah x),.slice (cS b') o] V (b'.length<=b.length+1) (sl (cS (CZ x b'))):=fun b' o V=>ah1 fun h=>ih x b' o V (by omega) (by omega)
     by_cases h9:e.op=9/\k=1
     ·have hil:=SN e.text b
      rw[if_pos h9]at hR hxl
      exact absurd h9.1 (by omega)
     ·rw[if_neg h9]at hR hxl
      by_cases h99:e.op=9
      ·have hk1:¬k=1:=fun h=>h9 ⟨h99,h⟩
       refine gf (gi h99 (gi hk1 hxk)) ?_
       exact⟨k+1,out++CZ x b,⟨by omega,by rw[hR,List.append_assoc]⟩,td1,wkR⟩
      ·refine gf (gi h99 hxk) ?_
       exact⟨k+1,out++CZ x b,⟨by omega,by rw[hR,List.append_assoc]⟩,td1,wkR⟩
    ·rw[A1 hkl,BW,List.append_nil]at hR
     refine gz ?_
     exact finS (S':=V) (es:=cS out) ⟨by rw[hR],rfl⟩
   ·refine gf h33 ?_
    refine Bz 5 1 (fun i hi =>?_)
    refine AA [1,2,4,49] (fun (k:Nat) (out:List Str)=>k<=e.kids.length/\BW e.op e.text e.kids 0 b=out++BW e.op e.text (e.kids.drop k) k b) (fun k out=>[(6,dI k),(5,.slice (cS out) (.tag i))]) (fun _ out=>V.set i (.tail 1 out.length)) (fun k _=>e.kids.length-k) (0) ([]) (by simp) (fun k out hI =>?_)
    obtain⟨hk,hR⟩:=hI
    have hol:out.length<=(BW e.op e.text e.kids 0 b).length:=by rw[hR,List.length_append];omega
    by_cases hkl:k<e.kids.length
    ·rw[A0 hkl,BW]at hR
     have hxw:=hw3 k hkl
     have hxl:=EE (e.kids[k]) (if e.op=9/\k=1 then ins e.text b else b)
     generalize hxk:e.kids[k]=x at *
     have i251:∀(b':List Str) (o:Own) (V:Sig),Ans 251 [.agg (Ah x),.slice (cS b') o] V (b'.length<=b.length+1) (sl (cS (CZ x b'))):=fun b' o V=>ah1 fun h=>ih x b' o V (by omega) (by omega)
     by_cases h9:e.op=9/\k=1
     ·have hil:=SN e.text b
      rw[if_pos h9]at hR hxl
      obtain⟨h91,rfl⟩:=h9
      refine gf (gi h91 hxk) ?_
      exact⟨1+1,out++CZ x (ins e.text b),⟨by omega,by rw[hR,List.append_assoc]⟩,td1,wkR⟩
     ·rw[if_neg h9]at hR hxl
      by_cases h99:e.op=9
      ·have hk1:¬k=1:=fun h=>h9 ⟨h99,h⟩
       refine gf (gi h99 (gi hk1 hxk)) ?_
       exact⟨k+1,out++CZ x b,⟨by omega,by rw[hR,List.append_assoc]⟩,td1,wkR⟩
      ·refine gf (gi h99 hxk) ?_
       exact⟨k+1,out++CZ x b,⟨by omega,by rw[hR,List.append_assoc]⟩,td1,wkR⟩
    ·rw[A1 hkl,BW,List.append_nil]at hR
     refine gz ?_
     exact finS (S':=V) (es:=cS out) ⟨by rw[hR],rfl⟩
theorem QX(e:FExp)(V:Sig)(hw:e.wt<=1073741824):DCall prog 209 [.agg (Ah e)] V fun x S'=>(∃l':List Str,x=.ret (sl (cS l'))/\(∀x,x∈l' ↔ x∈CZ e [])/\l'.length<=e.wt)/\S'=V:=by
 have hl:=EE e []
 have i251:∀V:Sig,Ans 251 [.agg (Ah e),.slice [] .no] V True (sl (cS (CZ e []))):=fun V=>ah0 (Tu e.wt e [] .no V (Nat.le_refl _) (by simpa using hw))
 refine en func209 ntmps209 ?_
 refine gz ?_
 refine Ab (QO (CZ e []) .no _ (by omega)) (fun d S' hr =>?_) (fun d S' hr=>by obtain⟨⟨_,h,_⟩,_⟩:=hr;cases h)
 obtain⟨⟨l',h1,h2,h3⟩,rfl⟩:=hr
 cases h1
 refine gz ?_
 refine fin1 (S':=S') (d':=sl (cS l')) ⟨⟨l',rfl,h2,by omega⟩,rfl⟩
def Gz(free slots own:List Str)(next:Bool)(e:FExp):Bool:=(allE e).all (nodK own slots next)&&(CZ e []).all fun x=>decide (x∈free)
theorem NB(e:FExp)(free slots own:List Str)(next:Bool)(o1 o2 o3:Own)(V:Sig)(hw:e.wt<=1073741824)(hf:free.length<=1073741824)(hs:slots.length<=1073741824)(ho:own.length<=1073741824):
  DCall prog 124 [.agg (Ah e),.slice (cS free) o1,.slice (cS slots) o2,.slice (cS own) o3,.bool next] V (rS (.bool (Gz free slots own next e)) V):=by
 have hal:=El e
 have i76:∀V:Sig,Ans 76 [.agg (Ah e)] V True (sl ((allE e).map Ah)):=fun V=>ah0 (Iu e.wt e V (Nat.le_refl _) hw)
 refine en func124 ntmps124 ?_
 refine gz ?_
 generalize hl:allE e=l at *
 refine B2 [1,2,3,4,5,11,13,14,54,55,56,57,58,59,60,61,62,63,64,65,66,67,68] (fun (k:Nat)=>k<=l.length/\l.all (nodK own slots next)=(l.drop k).all (nodK own slots next)) (fun k=>[(12,dI k)]) (fun _=>V) (fun k=>l.length-k) (0) (by simp) (fun k hI =>?_)
 obtain⟨hk,hR⟩:=hI
 have hfal:(l.drop k).all (nodK own slots next)=false->Gz free slots own next e=false:=fun h=>by unfold Gz;rw[hl,hR,h];rfl
 by_cases hkl:k<l.length
 ·rw[A0 hkl,List.all_cons]at hR hfal
  generalize hxk:l[k]=x at *
  by_cases h4:x.op=4
  ·have hN:nodK own slots next x=decide (x.text∈slots):=by unfold nodK;rw[if_pos (.inl h4)]
   rw[hN]at hR hfal
   repeat' first|refine gf (gi hxk h4) ?_|apply gy<;>intro hh
   ·have hq:=hfal (by rw[decide_eq_false hh];rfl)
    exact fe1 hq
   ·exact⟨k+1,⟨by omega,by rw[hR,decide_eq_true hh,Bool.true_and]⟩,td1,wkR⟩
  by_cases h7:x.op=7
  ·have hN:nodK own slots next x=decide (x.text∈slots):=by unfold nodK;rw[if_pos (.inr h7)]
   rw[hN]at hR hfal
   repeat' first|refine gf (gi hxk h7) ?_|apply gy<;>intro hh
   ·have hq:=hfal (by rw[decide_eq_false hh];rfl)
    exact fe1 hq
   ·exact⟨k+1,⟨by omega,by rw[hR,decide_eq_true hh,Bool.true_and]⟩,td1,wkR⟩
  by_cases h6:x.op=6
  ·have hN:nodK own slots next x=decide (x.text∈own):=by unfold nodK;rw[if_neg (by omega),if_pos (.inl h6)]
   rw[hN]at hR hfal
   repeat' first|refine gf (gi hxk h6) ?_|apply gy<;>intro hh
   ·have hq:=hfal (by rw[decide_eq_false hh];rfl)
    exact fe1 hq
   ·exact⟨k+1,⟨by omega,by rw[hR,decide_eq_true hh,Bool.true_and]⟩,td1,wkR⟩
  by_cases h8:x.op=8
  ·have hN:nodK own slots next x=decide (x.text∈own):=by unfold nodK;rw[if_neg (by omega),if_pos (.inr h8)]
   rw[hN]at hR hfal
   repeat' first|refine gf (gi hxk h8) ?_|apply gy<;>intro hh
   ·have hq:=hfal (by rw[decide_eq_false hh];rfl)
    exact fe1 hq
   ·exact⟨k+1,⟨by omega,by rw[hR,decide_eq_true hh,Bool.true_and]⟩,td1,wkR⟩
  by_cases h18:x.op=18
  ·have hN:nodK own slots next x=next:=by unfold nodK;rw[if_neg (by omega),if_neg (by omega),if_pos h18]
   rw[hN]at hR hfal
   repeat' first|refine gf (gi hxk h18) ?_|apply gy<;>intro hh
   ·have hq:=hfal (by rw[hh];rfl)
    exact fe1 hq
   ·exact⟨k+1,⟨by omega,by rw[hR,hh,Bool.true_and]⟩,td1,wkR⟩
  ·have hN:nodK own slots next x=true:=by unfold nodK;rw[if_neg (by omega),if_neg (by omega),if_neg h18]
   rw[hN]at hR
   refine gf (gi hxk (gi h4 (gi h7 (gi h6 (gi h8 h18))))) ?_
   exact⟨k+1,⟨by omega,by rw[hR,Bool.true_and]⟩,td1,wkR⟩
 ·rw [A1 hkl,List.all_nil] at hR
  refine gz ?_
  refine Ab (QX e _ hw) (fun d S' hr =>?_) (fun d S' hr=>by obtain⟨⟨_,h,_⟩,_⟩:=hr;cases h)
  obtain⟨⟨l',h1,h2,h3⟩,rfl⟩:=hr
  cases h1
  refine gz ?_
  refine B2 [1,13] (fun (m:Nat)=>m<=l'.length /\ ∀x∈l'.take m,x∈free) (fun m=>[(14,dI m)]) (fun _=>S') (fun m=>l'.length-m) (0) (by simp) (fun m hI =>?_)
  obtain⟨hm,hM⟩:=hI
  by_cases hml:m<l'.length
  ·have htk:=List.take_succ_eq_append_getElem hml
   have hmm:=(h2 _).1 (List.getElem_mem hml)
   generalize hxm:l'[m]=x at *
   repeat' first|refine gf hxm ?_|apply gy<;>intro hh
   ·have hq:Gz free slots own next e=false:=by
     unfold Gz
     rw[Bool.and_eq_false_iff]
     refine .inr (Bool.eq_false_iff.2 fun h=>hh ?_)
     have:=List.all_eq_true.1 h x hmm
     simpa using this
    exact fe1 hq
   ·have hnx:∀y∈l'.take (m+1),y∈free:=fun y hy=>by
     rw[htk]at hy
     rcases List.mem_append.1 hy with h|h
     ·exact hM y h
     ·rw[List.mem_singleton.1 h];exact hh
    exact⟨m+1,⟨by omega,hnx⟩,td1,wkR⟩
  ·have hq:Gz free slots own next e=true:=by
    unfold Gz
    rw[hl,hR,Bool.true_and,List.all_eq_true]
    intro x hx
    rw[decide_eq_true_eq]
    refine hM x ?_
    rw[List.take_of_length_le (by omega)];exact(h2 x).2 hx
   refine gz ?_
   exact fe1 hq
@[reducible,instance] def a124:=fun e free slots own next o1 o2 o3 V=>ah4 (@NB e free slots own next o1 o2 o3 V)
end Go.DL
