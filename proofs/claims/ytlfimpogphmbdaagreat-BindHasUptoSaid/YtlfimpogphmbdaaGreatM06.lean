/- Part of a proof in texts M01 on: a layer of pure values over the fenced walk, the walks of the functions, the plain laws. -/
import Derived.Test.YtlfimpogphmbdaaGreatM05
set_option linter.all false
namespace Go.DL
open Go
def only (L:List Nat) (γ:List (Nat × D)):List (Nat × D):=L.map fun t=>(t,getD γ t)
theorem GN (γ:List (Nat × D)) (t:Nat) : ∀ L:List Nat,getD (only L γ) t=if t ∈ L then getD γ t else .any
 | []=>rfl
 | a::L=>by
  have ih:=GN γ t L
  unfold only at ih ⊢
  rw [List.map_cons,A7]
  by_cases h:t=a
  ·subst h;simp
  ·simp only [h,if_false,ih,List.mem_cons,false_or]
theorem LS {g:G} {γ:List (Nat × D)} {n:Nat} {tmps:Array Value} (L:List Nat) (h:RepT g γ n tmps):RepT g (only L γ) n tmps :=
 ⟨h.1,fun t=>by
  rw [GN]
  by_cases ht:t ∈ L
  ·rw [if_pos ht];exact h.2 t
  ·rw [if_neg ht];trivial⟩
theorem JO {L:List Nat} {γ γ':List (Nat × D)} (h : ∀ t ∈ L,getD γ t=getD γ' t):only L γ=only L γ' :=
 List.map_congr_left fun t ht=>by rw [h t ht]
theorem CX {γ:List (Nat × D)} {ops:Array Oper} {o:Oper} {x:Operand} (h:x ∈ o.op.operands):ev (only (o.looksAt ops) γ) x=ev γ x:=by
 cases x with
 | tmp t=>simp only [ev,GN];rw [if_pos (GA h)]
 | _=>rfl
theorem Bp {γ:List (Nat × D)} {ops:Array Oper} {o:Oper}:AE ops (only (o.looksAt ops) γ) o=AE ops γ o :=
 Ic fun t ht=>by rw [GN,if_pos ht]
section mono
variable {tab:Nat->Ty} {σ σ':Sig} (h:Sub σ σ') {γ:List (Nat × D)}
include h
theorem GU {x:D} {l:List (D × D)} (e:Cg σ x=some l):Cg σ' x=some l:=by
 unfold Cg at e ⊢
 split at e
 ·exact e
 ·exact e
 ·rename_i id
  split at e<;>(try (cases e;done))
  rename_i l' hi
  rw [h _ _ hi];exact e
 ·cases e
theorem loadT_mono {ty:Ty} {x d:D} (e:Jp ty σ x=some d):Jp ty σ' x=some d:=by
 unfold Jp at e ⊢
 split at e
 ·cases e
 ·rename_i hk
  rw [if_neg hk]
  unfold Jq at e ⊢
  split at e
  ·exact e
  ·rename_i id off
   cases hi:σ id with
   | none=>simp [hi,Ds] at e
   | some ob=>rw [h _ _ hi, <- hi];exact e
  ·cases e
theorem Ul {op:Op} {d:D} (e:dop tab γ σ op=some d):dop tab γ σ' op=some d:=by
 cases op<;>first | exact e | (simp only [dop] at e ⊢; exact loadT_mono h e) | skip
 case call c =>
  obtain ⟨callee,args,ats⟩:=c
  cases callee<;>try exact e
  rename_i b
  cases b<;>exact e
theorem SU {op:Op} {d:D} (e:dop2 tab γ σ op=some d):dop2 tab γ σ' op=some d:=by
 cases op<;>first | exact e | skip
 case lookup t x k ok =>
  simp only [dop2] at e ⊢
  unfold Gc at e ⊢
  split at e<;>(try (cases e;done))
  rename_i kt et hk
  split at e<;>(try (cases e;done))
  rename_i hc
  rw [if_neg hc]
  split at e<;>(try (cases e;done))
  rename_i l hl
  rw [GU h hl];exact e
 case call c =>
  simp only [dop2] at e ⊢
  unfold FO at e ⊢
  split at e<;>(try (exact e))<;>(try (cases e;done))
  unfold Hm at e ⊢
  split at e<;>(try (cases e;done))
  rename_i _ _ x _ _
  split at e<;>(try (cases e;done))
  cases hl:Cg σ (ev γ x) with
  | none=>rw [hl] at e;cases e
  | some l=>rw [hl] at e;rw [GU h hl];exact e
theorem MS {op:Op} {d:D} (e:dopX tab γ σ op=some d):dopX tab γ σ' op=some d:=by
 have key:dop tab γ σ op=none->dop tab γ σ' op=none\/dop2 tab γ σ op=none:=by
  intro hn
  cases op<;>first | exact .inl hn | exact .inr rfl | skip
  case call c =>
   obtain ⟨callee,args,ats⟩:=c
   cases callee<;>first | exact .inl hn | skip
   rename_i b
   cases b<;>exact .inl hn
 unfold dopX at e ⊢
 split at e
 ·rename_i d' hd
  rw [Ul h hd];exact e
 ·rename_i hd
  rcases key hd with hc | hc
  ·rw [hc];exact SU h e
  ·rw [hc] at e;cases e
end mono
section
variable (P:Program) (ro:Option Nat) (n:Nat) (ops:Array Oper) (N:Nat) (σ0:Sig) (Q:DX->St->Prop) (df:List DDf)
def EQ (dst:Option Tmp) (R Rp:D->Sig->Prop):DX->St->Prop
 | .normal,s=>s.df=df/\R (match dst with | some t=>getD s.γ t | none => .any) s.σ
 | .panic d,s=>s.df=df/\Rp d s.σ
 | _,_=>False
structure Calm (γ:List (Nat × D)) (o:Oper) (d:D):Prop where
 ok:Av n o=true
 run:(AE ops (only (o.looksAt ops) γ) o=some true/\(∀ c,o.op ≠ .defer c)/\(∀ (w:World) (ρ:Operand->Value) f,o.about P w ρ=some f->False) /\
   ∀ σ,Sub σ0 σ -> ∀ g w (a:Act),Sim P g σ w->RepT g (only (o.looksAt ops) γ) n a.tmps->ORun P g σ d (execOp a.eval o) w) \/
  (AE ops (only (o.looksAt ops) γ) o=some false/\CH N o.op=true/\(d = .any\/d = .tup [])) \/
  (AE ops (only (o.looksAt ops) γ) o=some true /\ ∀ σ,Sub σ0 σ -> ∀ ro df,DOps P ro n ops (EQ df o.dst (fun d' σ'=>d'=d/\Sub σ σ') fun _ _=>False) [o] ⟨only (o.looksAt ops) γ,σ,df⟩)
structure Eff (γ:List (Nat × D)) (σ:Sig) (o:Oper) (R Rp:D->Sig->Prop):Prop where
 ok:Av n o=true
 want:AE ops (only (o.looksAt ops) γ) o=some true
 run:DOps P ro n ops (EQ df o.dst R Rp) [o] ⟨only (o.looksAt ops) γ,σ,df⟩
def MOps (E:List Nat):List Nat->List (Nat × D)->Sig->Prop
  | [],γ,σ=>DOps P ro n ops Q [] ⟨γ,σ,df⟩
  | i::r,γ,σ => ∃ o,ops[i]? = some o /\
    ((∃ d,Calm P n ops N σ0 γ o d/\MOps E r (putD o.dst d γ) σ) \/
     (E.contains i=true/\Eff P ro n ops df γ σ o (fun d σ'=>Sub σ0 σ'/\MOps E r (putD o.dst d γ) σ') (fun d σ' => ∀ γ',Q (.panic d) ⟨γ',σ',df⟩)))
end
section
variable {P:Program} {ro:Option Nat} {n:Nat} {ops:Array Oper} {N:Nat} {σ0:Sig} {Q:DX->St->Prop} {df:List DDf} {E:List Nat}
theorem Calm.congr {γ γ':List (Nat × D)} {o:Oper} {d:D} (h : ∀ t ∈ o.looksAt ops,getD γ t=getD γ' t) (hy:Calm P n ops N σ0 γ o d):Calm P n ops N σ0 γ' o d:=by
 have e:=JO h
 exact ⟨hy.ok,by rw [<- e];exact hy.run⟩
theorem C2 {Q':DX->St->Prop} (hq : ∀ x s,Q x s->Q' x s) {g:G} {r:Option Nat} : ∀ (l:List Oper) {a:Act} {w:World},wpListIn (FX P r) 0 P ops (Post P g n Q) l a w->wpListIn (FX P r) 0 P ops (Post P g n Q') l a w
  | [],_,_,⟨g',s',x,h1,h2,h3,h4⟩=>⟨g',s',x,h1,h2,h3,hq _ _ h4⟩
  | o::l,a,w,h=>by
    have pq : ∀ {e a w},Post P g n Q e a w->Post P g n Q' e a w:=fun ⟨g',s',x,h1,h2,h3,h4⟩=>⟨g',s',x,h1,h2,h3,hq _ _ h4⟩
    unfold wpListIn at h ⊢
    split
    · rename_i hw
      rw [if_pos hw] at h
      refine ⟨h.1, ?_⟩
      have h2:=h.2
      revert h2
      generalize (o.semAt (FX P r).round a.eval).run P w=res
      cases res with
      | ok nx w' =>
        cases nx<;>simp only [Oper.uponIn]<;>first
          | exact fun h=>C2 hq l h
          | (rintro ⟨h1,h2⟩
             refine ⟨h1, ?_⟩
             first
               | (refine h2.mono ?_
                  intro e w'' he
                  cases e<;>first
                    | exact C2 hq l he
                    | exact pq he
                    | (obtain ⟨a0,w0,he⟩:=he;exact ⟨a0,w0,pq he⟩))
               | (refine h2.mono ?_
                  intro v w'' he
                  exact C2 hq l he))
          | exact fun h=>h
      | halt x w'=>cases x<;>simp only [Oper.uponIn]<;>first | exact fun h=>pq h | exact fun h=>h
    · rename_i hw
      rw [if_neg hw] at h
      exact ⟨h.1,C2 hq l h.2⟩
theorem SR {l:List Oper} {s:St} {Q':DX->St->Prop} (h:DOps P ro n ops Q l s) (hq : ∀ x s,Q x s->Q' x s):DOps P ro n ops Q' l s :=
 fun g w a r hr hs=>C2 hq l (h g w a r hr hs)
theorem Eff.congr {γ γ':List (Nat × D)} {σ:Sig} {o:Oper} {R R' Rp:D->Sig->Prop} (h : ∀ t ∈ o.looksAt ops,getD γ t=getD γ' t) (hy:Eff P ro n ops df γ σ o R Rp) (hR : ∀ d σ',R d σ'->R' d σ'):Eff P ro n ops df γ' σ o R' Rp:=by
 have e:=JO h
 refine ⟨hy.ok,by rw [<- e];exact hy.want, ?_⟩
 rw [<- e]
 refine SR hy.run fun x s hx => ?_
 cases x with
 | normal=>exact ⟨hx.1,hR _ _ hx.2⟩
 | panic d=>exact hx
 | _=>exact hx
theorem MOps.alike : ∀ (l:List Nat) {γ γ':List (Nat × D)} {σ:Sig},Alike γ γ'->MOps P ro n ops N σ0 Q df E l γ σ->MOps P ro n ops N σ0 Q df E l γ' σ
 | [],_,_,_,h,k=>Dr h k
 | i::r,_,_,_,h,⟨o,ho,k⟩=>⟨o,ho,(match k with
  | .inl ⟨d,h2,h3⟩ => .inl ⟨d,h2.congr fun t _=>h t,MOps.alike r (h.put _ _) h3⟩
  | .inr ⟨h1,h2⟩ => .inr ⟨h1,h2.congr (fun t _=>h t) fun d σ' ⟨h3,h4⟩=>⟨h3,MOps.alike r (h.put _ _) h4⟩⟩)⟩
theorem FG {i:Nat} {oi:Oper} (hi:ops[i]? = some oi) (post:List Nat) : ∀ (pre:List Nat) (γ:List (Nat × D)) (σ:Sig),
  (∀ x ∈ pre,E.contains x=false /\ ∃ ox,ops[x]? = some ox/\oi.apart ops ox=true)->MOps P ro n ops N σ0 Q df E (pre++i::post) γ σ->MOps P ro n ops N σ0 Q df E (i::(pre++post)) γ σ
 | [],_,_,_,h=>h
 | x::pre,γ,σ,hp,h=>by
  obtain ⟨hxE,ox,hox,hap⟩:=hp x (by simp)
  obtain ⟨a1,a2,a3⟩:=Oper.apart_spec hap
  obtain ⟨ox',hox',hx⟩:=h
  obtain rfl:ox'=ox:=by rw [hox] at hox';cases hox';rfl
  rcases hx with ⟨d,hy,h⟩ | ⟨hE,_⟩
  ·obtain ⟨oi',hoi',hh⟩:=FG hi post pre _ σ (fun y hy=>hp y (by simp [hy])) h
   obtain rfl:oi'=oi:=by rw [hi] at hoi';cases hoi';rfl
   refine ⟨oi',hi, ?_⟩
   rcases hh with ⟨e,h2,h3⟩ | ⟨h1,h2⟩
   ·refine .inl ⟨e,h2.congr fun t ht=>CA fun hd=>a3 t hd ht,ox',hox, .inl ⟨d,hy.congr fun t ht=>(CA fun hd=>a1 t hd ht).symm, ?_⟩⟩
    exact MOps.alike _ (Ea _ _ _ fun t p q=>a2 t p q) h3
   ·refine .inr ⟨h1,h2.congr (fun t ht=>CA fun hd=>a3 t hd ht) fun e σ' ⟨h3,h4⟩=>⟨h3,ox',hox, .inl ⟨d,hy.congr fun t ht=>(CA fun hd=>a1 t hd ht).symm, ?_⟩⟩⟩
    exact MOps.alike _ (Ea _ _ _ fun t p q=>a2 t p q) h4
  ·rw [hxE] at hE;cases hE
def mixB (ops:Array Oper) (E:List Nat):List Nat->List Nat->Bool
 | _,[]=>true
 | done,i::r => !done.contains i && (match ops[i]? with
  | some o=>(o.after.all fun e => !Region.binds .any e || done.contains e.on) && done.all fun x=>(!E.contains x && match ops[x]? with
   | some ox=>o.apart ops ox
   | none=>false) || Gv ops ops.size i x
  | none=>false) && mixB ops E (i::done) r
theorem DZ {i:Nat} {l2:List Nat} : ∀ (l1 done:List Nat),mixB ops E done (l1++i::l2)=true->i ∉ l1/\i ∉ done/\i ∉ l2 /\ ∃ o,ops[i]? = some o/\(∀ e ∈ o.after,Region.binds .any e=true->e.on ∈ l1\/e.on ∈ done) /\
   ∀ x,x ∈ l1->Gv ops ops.size i x=true\/(E.contains x=false /\ ∃ ox,ops[x]? = some ox/\o.apart ops ox=true)
 | [],done,h=>by
  simp only [List.nil_append,mixB,Bool.and_eq_true,Bool.not_eq_true',List.contains_eq_mem,decide_eq_false_iff_not] at h
  obtain ⟨⟨h1,h2⟩,h3⟩:=h
  have later : ∀ (l d:List Nat),i ∈ d->mixB ops E d l=true->i ∉ l:=by
   intro l
   induction l with
   | nil=>intro _ _ _ h;cases h
   | cons y l ih =>
    intro d hd hm hmem
    simp only [mixB,Bool.and_eq_true,Bool.not_eq_true',List.contains_eq_mem,decide_eq_false_iff_not] at hm
    obtain ⟨⟨m1,_⟩,m3⟩:=hm
    rcases List.mem_cons.1 hmem with rfl | hmem
    ·exact m1 hd
    ·exact ih (y::d) (by simp [hd]) m3 hmem
  refine ⟨by simp,h1,later l2 _ (by simp) h3, ?_⟩
  split at h2
  ·rename_i o ho
   simp only [Bool.and_eq_true] at h2
   refine ⟨o,ho,fun e he hb => ?_,fun x hx=>by cases hx⟩
   have:=Array.all_eq_true_iff_forall_mem.1 h2.1 e he
   simp only [hb,Bool.not_true,Bool.false_or,List.contains_eq_mem,decide_eq_true_eq] at this
   exact .inr this
  ·cases h2
 | y::l1,done,h=>by
  simp only [List.cons_append,mixB,Bool.and_eq_true] at h
  obtain ⟨h1,h2,h3,o,ho,he,hx⟩:=DZ l1 (y::done) h.2
  have hiy:i ≠ y:=fun e=>h2 (by simp [e])
  refine ⟨by simp [hiy,h1],fun hd=>h2 (by simp [hd]),h3,o,ho,fun e hm hb => ?_, ?_⟩
  ·rcases he e hm hb with h4 | h4
   ·exact .inl (by simp [h4])
   ·rcases List.mem_cons.1 h4 with h5 | h5
    ·exact .inl (by simp [h5])
    ·exact .inr h5
  ·intro x hmem
   rcases List.mem_cons.1 hmem with rfl | hmem
   ·
    have back : ∀ (l d:List Nat),x ∈ d->mixB ops E d (l++i::l2)=true->Gv ops ops.size i x=true\/(E.contains x=false /\ ∃ ox,ops[x]? = some ox/\o.apart ops ox=true):=by
     intro l
     induction l with
     | nil =>
      intro d hd hm
      simp only [List.nil_append,mixB,Bool.and_eq_true,ho] at hm
      have:=List.all_eq_true.1 hm.1.2.2 x hd
      simp only [Bool.or_eq_true,Bool.and_eq_true,Bool.not_eq_true'] at this
      rcases this.symm with h4 | ⟨h4,h5⟩
      ·exact .inl h4
      ·refine .inr ⟨h4, ?_⟩
       split at h5
       ·rename_i ox hox;exact ⟨ox,hox,h5⟩
       ·cases h5
     | cons z l ih =>
      intro d hd hm
      simp only [List.cons_append,mixB,Bool.and_eq_true] at hm
      exact ih (z::d) (by simp [hd]) hm.2
    exact back l1 _ (by simp) h.2
   ·exact hx x hmem
def EO (ops:Array Oper) (E ord:List Nat):Bool:=mixB ops E [] ord && (List.range ops.size).all ord.contains && ord.length==ops.size
theorem FL {K:Act->World->Prop} {g0 g:G} {w:World} {a:Act} {r:Option Nat} {γ:List (Nat × D)} {σ:Sig} {o:Oper} {R Rp:D->Sig->Prop} (hr:RoRep g ro r) (hg:g0.le g)
    (hs:SimS P g n ⟨γ,σ,df⟩ a w) (hE:Eff P ro n ops df γ σ o R Rp) (hK : ∀ g' w' a' d σ',g.le g'->R d σ'->SimS P g' n ⟨putD o.dst d γ,σ',df⟩ a' w'->K a' w')
    (hp : ∀ d σ',Rp d σ' -> ∀ γ',Q (.panic d) ⟨γ',σ',df⟩) :
    (if Region.wanted o (yielded ops a.tmps) then o.wpIn (FX P r) 0 P a w K (Post P g0 n Q) else (∀ f,o.about P w a.eval=some f->(FX P r).fn f)/\K (a.put o.dst undef) w):=by
  have hs0:SimS P g n ⟨only (o.looksAt ops) γ,σ,df⟩ a w:=⟨hs.sim,LS _ hs.tmps,hs.df⟩
  have h:=hE.run g w a r hr hs0
  have hw:=AA hs0.tmps hE.want
  rw [hw,if_pos rfl]
  unfold wpListIn at h
  rw [hw,if_pos rfl] at h
  have fin : ∀ (a':Act) (w':World) (v:Value),a'.tmps=(a.put o.dst v).tmps->wpListIn (FX P r) 0 P ops (Post P g n (EQ df o.dst R Rp)) [] a' w'->K a' w':=by
    rintro a' w' v hv ⟨g',s',x,l1,l2,l3,l4⟩
    cases x with
    | normal =>
      obtain ⟨e1,e2⟩:=l4
      refine hK g' w' a' _ s'.σ l1 e2 ⟨l2.sim,⟨l2.tmps.1,fun t => ?_⟩,by rw [<- e1];exact l2.df⟩
      cases hd:o.dst with
      | none =>
        rw [hd] at hv
        simp only [putD,Act.put] at hv ⊢
        rw [hv]
        exact Rep.mono l1 _ (hs.tmps.2 t)
      | some k =>
        rw [hd] at hv
        simp only [putD,A7]
        by_cases hk:t=k
        · subst hk;rw [if_pos rfl];exact l2.tmps.2 t
        · rw [if_neg hk,hv]
          simp only [Act.put]
          rw [show (a.tmps.setIfInBounds k v).getD t undef=a.tmps.getD t undef by simp [Array.getD_eq_getD_getElem?, Array.getElem?_setIfInBounds_ne (Ne.symm hk)]]
          exact Rep.mono l1 _ (hs.tmps.2 t)
    | ret=>cases l3
    | exit _=>cases l3
    | panic _=>obtain ⟨v,l3,_⟩:=l3;cases l3
  have pan : ∀ (c:List PanicEntry) (w':World),Post P g n (EQ df o.dst R Rp) (.panic c) a w'->Post P g0 n Q (.panic c) a w':=by
    rintro c w' ⟨g',s',x,l1,l2,l3,l4⟩
    cases x with
    | normal=>cases l3
    | ret=>cases l3
    | exit _=>cases l3
    | panic d=>exact ⟨g',⟨γ,s'.σ,df⟩, .panic d,hg.trans l1,⟨l2.sim,hs.tmps.mono l1,by rw [<- l4.1];exact l2.df⟩,l3,hp d _ l4.2 γ⟩
  have lets:LetsOut (Post P g n (EQ df o.dst R Rp))->LetsOut (Post P g0 n Q):=by
    rintro ⟨a0,w0,g',s',x,l1,l2,l3,l4⟩
    cases x with
    | panic _=>obtain ⟨v,l3,_⟩:=l3;cases l3
    | _=>cases l3
  refine ⟨h.1, ?_⟩
  have h2:=h.2
  revert h2
  generalize (o.semAt (FX P r).round a.eval).run P w=res
  cases res with
  | ok nx w' =>
    cases nx<;>simp only [Oper.uponIn]<;>first
      | exact fun h=>fin _ _ _ rfl h
      | exact fun h=>fin _ _ undef (by simp [Act.put];cases o.dst<;>rfl) h
      | (rintro ⟨h1,h2⟩
         refine ⟨h1, ?_⟩
         first
           | (refine h2.mono ?_
              intro e w'' he
              cases e<;>first
                | exact fin _ _ _ rfl he
                | exact pan _ _ he
                | exact lets he)
           | (refine h2.mono ?_
              intro v w'' he
              exact fin _ _ _ rfl he))
      | exact fun h=>h
  | halt x w'=>cases x<;>simp only [Oper.uponIn]<;>first | exact fun h=>pan _ _ h | exact fun h=>h
theorem H1 (hN:P.funcs.size=N) {K:Act->World->Prop} {g0 g:G} {w:World} {a:Act} {r:Option Nat} {γ:List (Nat × D)} {σ:Sig} {o:Oper} {d:D} (hr:RoRep g ro r) (hg:g0.le g)
  (hs:SimS P g n ⟨γ,σ,df⟩ a w) (hC:Sub σ0 σ) (hy:Calm P n ops N σ0 γ o d)
  (hK : ∀ g' w' a',g.le g'->SimS P g' n ⟨putD o.dst d γ,σ,df⟩ a' w'->K a' w') :
  (if Region.wanted o (yielded ops a.tmps) then o.wpIn (FX P r) 0 P a w K (Post P g0 n Q) else (∀ f,o.about P w a.eval=some f->(FX P r).fn f)/\K (a.put o.dst undef) w):=by
 have hT:=LS (o.looksAt ops) hs.tmps
 rcases hy.run with ⟨hw,hnd,hab,hd⟩ | ⟨hw,hsk,hdu⟩ | ⟨hw,hd⟩
 ·rw [AA hT hw,if_pos rfl]
  refine ⟨fun f hf=>(hab _ _ f hf).elim, ?_⟩
  obtain ⟨g',w',v,h1,h2,h3,h4⟩:=hd σ hC g w a hs.sim hT
  rw [Oper.semAt_eq _ _ _ hnd,h1]
  exact hK g' w' _ h2 (hs.put h2 h3 h4 hy.ok)
 ·rw [AA hT hw,if_neg (by simp)]
  refine ⟨fun f hf=>Eo (by rw [hN];exact hsk) w _ f hf (fun _=>rfl), ?_⟩
  have h0:Rep g d undef:=by rcases hdu with rfl | rfl;exact trivial;exact ⟨[],rfl,rfl⟩
  exact hK g w _ (.refl g) (hs.put (.refl g) hs.sim h0 hy.ok)
 ·exact FL (Q:=Q) hr hg hs ⟨hy.ok,hw,hd σ hC ro df⟩ (fun g' w' a' d' σ' hg' hR hs'=>by
   obtain ⟨rfl,hsub⟩:=hR
   exact hK g' w' a' hg' ⟨hs'.sim.sub hsub,hs'.tmps,hs'.df⟩) (fun _ _ h=>h.elim)
theorem Bb {l:List Nat} {listed:Array Bool} {i:Nat} (h:i ∉ l):l.filter (fun j => !(listed.setIfInBounds i true).getD j true)=l.filter fun j => !listed.getD j true :=
 List.filter_congr fun j hj=>by rw [getD_set_ne true (show i ≠ j from fun e=>h (by rw [e];exact hj))]
theorem Tq (hN:P.funcs.size=N) {ord:List Nat} (hB:EO ops E ord=true) {g0:G} {rr:Option Nat} (hr:RoRep g0 ro rr) : ∀ (m:Nat) (r:List Nat) (listed:Array Bool) (γ:List (Nat × D)) (σ:Sig),r.length=m->listed.size=ops.size ->
  r=ord.filter (fun i => !listed.getD i true)->Closed ops listed->MOps P ro n ops N σ0 Q df E r γ σ->Sub σ0 σ ->
   ∀ (g:G) (w:World) (a:Act),g0.le g->SimS P g n ⟨γ,σ,df⟩ a w->wpAnyIn (FX P rr) 0 P .any ops (Post P g0 n Q) m listed a w:=by
 unfold EO at hB
 simp only [Bool.and_eq_true] at hB
 obtain ⟨⟨hmix,hall⟩,_⟩:=hB
 have hmem : ∀ (r:List Nat) (listed:Array Bool),r=ord.filter (fun i => !listed.getD i true) -> ∀ i ∈ Region.ready .any ops listed,i ∈ r:=by
  intro r listed hf i hi
  obtain ⟨h1,o,ho,_⟩:=mem_ready.1 hi
  have:=List.all_eq_true.1 hall i (by simpa using (Array.getElem?_eq_some_iff.1 ho).1)
  rw [hf,List.mem_filter]
  exact ⟨by simpa using this,by rw [h1];rfl⟩
 intro m
 induction m with
 | zero =>
  intro r listed γ σ hl hsz hf hcl h hC g w a hg hs
  obtain rfl:r=[]:=List.length_eq_zero_iff.1 hl
  refine ⟨List.eq_nil_iff_forall_not_mem.2 fun i hi => ?_, ?_⟩
  ·have:=hmem [] listed hf i hi;cases this
  ·exact Post.le hg (h g w a rr (hr.mono hg) hs)
 | succ m ih =>
  intro r listed γ σ hl hsz hf hcl h hC g w a hg hs
  obtain ⟨y,t,rfl⟩ : ∃ y t,r=y::t:=by cases r with | nil=>cases hl | cons y t=>exact ⟨y,t,rfl⟩
  refine ⟨fun he => ?_,fun i hi => ?_⟩
  ·exfalso
   obtain ⟨l1,l2,hord,hl1,hy,hl2⟩:=List.filter_eq_cons_iff.1 hf.symm
   subst hord
   obtain ⟨h1,_,_,o,ho,hea,_⟩:=DZ l1 [] hmix
   have:y ∈ Region.ready .any ops listed:=by
    refine mem_ready.2 ⟨by simpa using hy,o,ho,fun e hm hb => ?_⟩
    rcases hea e hm hb with h4 | h4
    ·have h5:=hl1 _ h4
     simp only [Bool.not_eq_true,Bool.not_eq_false'] at h5
     have hlt:e.on < listed.size:=by
      have:e.on ∈ l1++y::l2:=by simp [h4]
      obtain ⟨p1,p2,hp⟩:=List.append_of_mem this
      rw [hp] at hmix
      obtain ⟨_,_,_,o',ho',_⟩:=DZ p1 [] hmix
      rw [hsz];exact (Array.getElem?_eq_some_iff.1 ho').1
     simpa [hlt] using h5
    ·cases h4
   rw [he] at this;cases this
  ·obtain ⟨pre,post,hsplit⟩:=List.append_of_mem (hmem _ listed hf i hi)
   rw [hsplit] at hf h hl
   obtain ⟨l1',l2',hord,hf1,hf2⟩:=List.filter_eq_append_iff.1 hf.symm
   obtain ⟨m1,m2,hl2',hm1,hiu,hf3⟩:=List.filter_eq_cons_iff.1 hf2
   have hord':ord=(l1'++m1)++i::m2:=by rw [hord,hl2'];simp
   rw [hord'] at hmix
   obtain ⟨n1,_,n3,o,ho,hea,hx⟩:=DZ (l1'++m1) [] hmix
   obtain ⟨hiun,o',ho',hdone⟩:=mem_ready.1 hi
   obtain rfl:o'=o:=by rw [ho] at ho';cases ho';rfl
   have hfront:=FG ho post pre γ σ (fun x hxp=>by
    have hx1:x ∈ l1'++m1:=by
     have:x ∈ l1'.filter (fun i => !listed.getD i true):=by rw [hf1];exact hxp
     simp [(List.mem_filter.1 this).1]
    have hxu:listed.getD x true=false:=by
     have:x ∈ l1'.filter (fun i => !listed.getD i true):=by rw [hf1];exact hxp
     simpa using (List.mem_filter.1 this).2
    rcases hx x hx1 with h4 | h4
    ·exfalso
     have:=CQ hcl ops.size i x o' ho hdone h4
     rcases Nat.lt_or_ge x listed.size with hlt | hlt
     ·simp [hlt] at this hxu;rw [hxu] at this;cases this
     ·simp [Array.getElem?_eq_none hlt] at this
    ·exact h4) h
   have hnext:pre++post=ord.filter (fun j => !(listed.setIfInBounds i true).getD j true):=by
    have hil:i < listed.size:=by
     rw [hsz];exact (Array.getElem?_eq_some_iff.1 ho).1
    rw [hord',List.filter_append,List.filter_cons]
    have e1:(listed.setIfInBounds i true).getD i true=true:=by simp [hil]
    rw [e1,Bb n1,Bb n3]
    simp only [Bool.not_true,Bool.false_eq_true,if_false,List.filter_append,hf1,hf3]
    rw [List.filter_eq_nil_iff.2 (fun x hx=>by simpa using hm1 x hx),List.append_nil]
   have hlen:(pre++post).length=m:=by simp at hl ⊢; omega
   obtain ⟨o2,ho2,hh⟩:=hfront
   obtain rfl:o2=o':=by rw [ho] at ho2;cases ho2;rfl
   unfold wpOpIn
   simp only [ho]
   rcases hh with ⟨d,hy,hM⟩ | ⟨_,hE⟩
   ·exact H1 hN (hr.mono hg) hg hs hC hy fun g' w' a' hg' hs'=>ih _ _ _ _ hlen (by simpa using hsz) hnext (hcl.set hi) hM hC g' w' a' (hg.trans hg') hs'
   ·exact FL (hr.mono hg) hg hs hE (fun g' w' a' d σ' hg' hR hs'=>ih _ _ _ _ hlen (by simpa using hsz) hnext (hcl.set hi) hR.2 hR.1 g' w' a' (hg.trans hg') hs') fun d σ' hp=>hp
theorem EE {n:Nat} : ∀ {l:List Nat},(∀ i ∈ l,i < n)->l.filter (fun i => !(Array.replicate n false).getD i true)=l:=by
 intro l h
 rw [List.filter_eq_self]
 intro i hi
 simp [h i hi]
theorem dwp_mix (hN:P.funcs.size=N) (hm:P.follows .mixedOrders=true) {l:List Oper} {id:Nat} {γ:List (Nat × D)} {σ:Sig} (ord E:List Nat) (σ0:Sig) (hB:EO l.toArray E ord=true) (hC:Sub σ0 σ)
  (h:MOps P ro n l.toArray N σ0 Q df E ord γ σ):DWp P ro n (.region id l.toArray true) Q ⟨γ,σ,df⟩:=by
 intro g w a r hr hs
 refine wpIn_region_any hm ?_
 have hcl:Closed l.toArray (Array.replicate l.toArray.size false):=by
  intro q o _ hq
  rcases Nat.lt_or_ge q l.length with h' | h'
  ·simp [h'] at hq
  ·simp [h'] at hq
 have hs':SimS P g n ⟨γ,σ,df⟩ a { w with drawn:=w.drawn+1 } :=
  ⟨⟨fun b o v h=>hs.sim.imm b o v h,hs.sim.keep,fun i o h=>by
   have:=hs.sim.obj i o h
   cases o<;>exact this,hs.sim.inj,hs.sim.free,hs.sim.htop,hs.sim.hdom,hs.sim.fin,hs.sim.io⟩,hs.tmps,hs.df⟩
 have hlt : ∀ i ∈ ord,i < l.toArray.size:=by
  intro i hi
  obtain ⟨p1,p2,hp⟩:=List.append_of_mem hi
  have hB':=hB
  unfold EO at hB'
  simp only [Bool.and_eq_true] at hB'
  rw [hp] at hB'
  obtain ⟨_,_,_,o',ho',_⟩:=DZ p1 [] hB'.1.1
  exact (Array.getElem?_eq_some_iff.1 ho').1
 have hlen:ord.length=l.toArray.size:=by
  have hB':=hB
  unfold EO at hB'
  simp only [Bool.and_eq_true,beq_iff_eq] at hB'
  exact hB'.2
 have:=Tq hN hB hr ord.length ord (Array.replicate l.toArray.size false) γ σ rfl (by simp) (EE hlt).symm hcl h hC g _ a (.refl g) hs'
 rw [hlen] at this
 exact this
end
theorem Ix {α β:Type} {f f':α->β} : ∀ {x:Option α},(∀ a,x=some a->f a=f' a)->x.map f=x.map f'
 | none,_=>rfl
 | some a,h=>by rw [Option.map_some,Option.map_some,h a rfl]
theorem Qf {tab:Nat->Ty} {γ γ':List (Nat × D)} {σ:Sig} {op:Op} (h : ∀ x ∈ op.operands,ev γ x=ev γ' x):dop2 tab γ σ op=dop2 tab γ' σ op:=by
 cases op<;>simp only [Op.operands] at h<;>simp only [dop2]
 case slice t x lo hi mx =>
  rw [h x (by simp)]
  have e1:lo.map (ev γ)=lo.map (ev γ'):=Ix fun a ha=>h a (by simp [ha])
  have e2:hi.map (ev γ)=hi.map (ev γ'):=Ix fun a ha=>h a (by simp [ha])
  have e3:mx.map (ev γ)=mx.map (ev γ'):=Ix fun a ha=>h a (by simp [ha])
  rw [e1,e2,e3]
 case lookup t x k ok=>rw [h x (by simp),h k (by simp)]
 case typeAssert x s t ok=>rw [h x (by simp)]
 case build t parts =>
  have hp : ∀ p ∈ parts.toList,ev γ p.2=ev γ' p.2:=fun p hp=>h p.2 (by simp;exact ⟨p.1,by simpa using hp⟩)
  rw [show (parts.toList.map fun p=>(p.1,ev γ p.2))=parts.toList.map fun p=>(p.1,ev γ' p.2) from List.map_congr_left fun p hp'=>by rw [hp p hp']]
 case call c =>
  obtain ⟨callee,args,ats⟩:=c
  cases callee<;>try rfl
  rename_i b
  obtain ⟨args⟩:=args
  obtain ⟨ats⟩:=ats
  cases b<;>try rfl
  ·simp only [FO,Hm]
   split
   ·rename_i x
    rw [h x (by simp [Call.operands])]
   ·rfl
  ·simp only [FO]
   match args,h with
   | [a,b],h=>simp only;rw [h a (by simp [Call.operands]),h b (by simp [Call.operands])]
   | [],_=>rfl
   | [_],_=>rfl
   | _::_::_::_,_=>rfl
  ·simp only [FO]
   match args,h with
   | [a,b],h=>simp only;rw [h a (by simp [Call.operands]),h b (by simp [Call.operands])]
   | [],_=>rfl
   | [_],_=>rfl
   | _::_::_::_,_=>rfl
theorem Bz {tab:Nat->Ty} {γ γ':List (Nat × D)} {σ:Sig} {op:Op} (h : ∀ x ∈ op.operands,ev γ x=ev γ' x):dopX tab γ σ op=dopX tab γ' σ op:=by
 unfold dopX
 rw [MQ h,Qf h]
def Fa:Op->Bool
 | .call { callee := .builtin .len, .. } | .call { callee := .builtin .max, .. } | .call { callee := .builtin .min, .. }=>true
 | .move _ | .assign _ | .pick .. | .box .. | .load .. | .nilCheck _ | .binOp .. | .unOp .. | .convert .. | .makeInterface .. | .makeFunc .. | .fieldAddr .. | .field .. | .indexAddr .. | .index .. | .extract .. | .buildSlice .. => true
 | .slice .. | .lookup .. | .typeAssert .. | .build .. => true
 | _=>false
section
variable (P:Program) (ro:Option Nat) (n:Nat) (ops:Array Oper) (N:Nat) (σ0:Sig) (Q:DX->St->Prop) (df:List DDf)
def MO:List (Bool × Oper)->List (Nat × D)->Sig->Prop
 | [],γ,σ=>DOps P ro n ops Q [] ⟨γ,σ,df⟩
 | (e,o)::r,γ,σ =>
  (∃ d,Calm P n ops N σ0 γ o d/\MO r (putD o.dst d γ) σ) \/
  (e=true/\Eff P ro n ops df γ σ o (fun d σ'=>Sub σ0 σ'/\MO r (putD o.dst d γ) σ') (fun d σ' => ∀ γ',Q (.panic d) ⟨γ',σ',df⟩))
end
def pick (ops:Array Oper) (E ord:List Nat):List (Bool × Oper):=ord.filterMap fun i=>(ops[i]?).map fun o=>(E.contains i,o)
section
variable {P:Program} {ro:Option Nat} {n:Nat} {ops:Array Oper} {N:Nat} {σ0:Sig} {Q:DX->St->Prop} {df:List DDf} {E:List Nat}
theorem Ed : ∀ {ord:List Nat} {γ:List (Nat × D)} {σ:Sig},(∀ i ∈ ord,i < ops.size)->MO P ro n ops N σ0 Q df (pick ops E ord) γ σ->MOps P ro n ops N σ0 Q df E ord γ σ
 | [],_,_,_,h=>h
 | i::r,γ,σ,hlt,h=>by
  have hi:ops[i]? = some ops[i]! := by
   have:=hlt i (by simp)
   simp [this]
  have hp:pick ops E (i::r)=(E.contains i,ops[i]!)::pick ops E r:=by
   unfold pick
   rw [List.filterMap_cons,hi]
   rfl
  rw [hp] at h
  have hlt' : ∀ j ∈ r,j < ops.size:=fun j hj=>hlt j (by simp [hj])
  refine ⟨_,hi, ?_⟩
  rcases h with ⟨d,h2,h3⟩ | ⟨h1,h2⟩
  ·exact .inl ⟨d,h2,Ed hlt' h3⟩
  ·exact .inr ⟨h1,h2.congr (fun _ _=>rfl) fun d σ' ⟨h3,h4⟩=>⟨h3,Ed hlt' h4⟩⟩
theorem QY {ord:List Nat} (hB:EO ops E ord=true) : ∀ i ∈ ord,i < ops.size:=by
 intro i hi
 obtain ⟨p1,p2,hp⟩:=List.append_of_mem hi
 unfold EO at hB
 simp only [Bool.and_eq_true] at hB
 rw [hp] at hB
 obtain ⟨_,_,_,o',ho',_⟩:=DZ p1 [] hB.1.1
 exact (Array.getElem?_eq_some_iff.1 ho').1
theorem Ug (hN:P.funcs.size=N) (hm:P.follows .mixedOrders=true) {l:List Oper} {id:Nat} {γ:List (Nat × D)} {σ:Sig} (ord E:List Nat) (σ0:Sig) (hB:EO l.toArray E ord=true) (hC:Sub σ0 σ)
  {lp:List (Bool × Oper)} (hl:pick l.toArray E ord=lp) (h:MO P ro n l.toArray N σ0 Q df lp γ σ):DWp P ro n (.region id l.toArray true) Q ⟨γ,σ,df⟩ :=
 dwp_mix hN hm ord E σ0 hB hC (Ed (QY hB) (by rw [hl];exact h))
theorem QU {γ:List (Nat × D)} {σ:Sig} (h:Q .normal ⟨γ,σ,df⟩):MO P ro n ops N σ0 Q df [] γ σ:=Be h
theorem UD {l:List (Bool × Oper)} {γ γr:List (Nat × D)} {σ:Sig} {o:Oper} (ho:Av n o=true) (hγ:only (o.looksAt ops) γ=γr) (hw:AE ops γr o=some true)
  (h:DOps P ro n ops (EQ df o.dst (fun d σ'=>Sub σ0 σ'/\MO P ro n ops N σ0 Q df l (putD o.dst d γ) σ') (fun d σ' => ∀ γ',Q (.panic d) ⟨γ',σ',df⟩)) [o] ⟨γr,σ,df⟩):MO P ro n ops N σ0 Q df ((true,o)::l) γ σ:=by
 subst hγ
 exact .inr ⟨rfl,ho,hw,h⟩
theorem KY {e:Bool} {l:List (Bool × Oper)} {γ:List (Nat × D)} {σ:Sig} {o:Oper} (hw:AE ops γ o=some false) (ho:Av n o=true) (hs:CH N o.op=true)
  (h:MO P ro n ops N σ0 Q df l (putD o.dst (.tup []) γ) σ):MO P ro n ops N σ0 Q df ((e,o)::l) γ σ :=
 .inl ⟨.tup [],⟨ho, .inr (.inl ⟨by rw [Bp];exact hw,hs, .inr rfl⟩)⟩,h⟩
theorem Oo {e:Bool} {l:List (Bool × Oper)} {γ γr:List (Nat × D)} {σ:Sig} {o:Oper} (d:D) (ho:Av n o=true) (hγ:only (o.looksAt ops) γ=γr) (hw:AE ops γr o=some true)
  (hq : ∀ σ',Sub σ0 σ' -> ∀ ro df,DOps P ro n ops (EQ df o.dst (fun d' σ''=>d'=d/\Sub σ' σ'') fun _ _=>False) [o] ⟨γr,σ',df⟩)
  (h:MO P ro n ops N σ0 Q df l (putD o.dst d γ) σ):MO P ro n ops N σ0 Q df ((e,o)::l) γ σ:=by
 subst hγ
 exact .inl ⟨d,⟨ho, .inr (.inr ⟨hw,hq⟩)⟩,h⟩
end
def A6:List Operand->List Nat
 | []=>[]
 | .tmp t::r=>t::A6 r
 | _::r=>A6 r
def A4 (γ:List (Nat × D)):List Nat->Option (List (Nat × D))
 | []=>some []
 | t::ts=>match γ.lookup t with
  | some d=>match A4 γ ts with
   | some r=>some ((t,d)::r)
   | none=>none
  | none=>none
theorem AI {γ:List (Nat × D)} : ∀ {l:List Nat} {γr:List (Nat × D)},A4 γ l=some γr -> ∀ t ∈ l,getD γr t=getD γ t
 | [],_,_,_,h=>by cases h
 | a::l,γr,e,t,h=>by
  simp only [A4] at e
  split at e<;>(try (cases e;done))
  rename_i d hd
  split at e<;>(try (cases e;done))
  rename_i r hr
  cases e
  rw [A7]
  by_cases ht:t=a
  ·subst ht;rw [if_pos rfl];simp [getD,hd]
  ·rw [if_neg ht]
   exact AI hr t (by simpa [ht] using h)
theorem AY {t:Nat} : ∀ {l:List Operand},Operand.tmp t ∈ l->t ∈ A6 l
 | x::l,h=>by
  rcases List.mem_cons.1 h with rfl | h
  ·simp [A6]
  ·have:=AY h
   cases x<;>simp [A6,this]
theorem CC {γ γr:List (Nat × D)} {op:Op} (h:A4 γ (A6 op.operands.toList)=some γr) : ∀ x ∈ op.operands,ev γr x=ev γ x :=
 fun x hx=>BL fun t ht=>AI h t (AY (by rw [<- ht];simpa using hx))
theorem BJ {γ γr:List (Nat × D)} {x:Operand} (h:A4 γ (A6 [x])=some γr):ev γr x=ev γ x :=
 BL fun t ht=>AI h t (AY (by simp [ht]))
theorem Cf {tab:Nat->Ty} {γ γ':List (Nat × D)} {σ:Sig} {op:Op} (h : ∀ x ∈ op.operands,ev γ x=ev γ' x):eopD tab γ σ op=eopD tab γ' σ op:=by
 cases op<;>simp only [Op.operands] at h<;>simp only [eopD]
 case store T a v=>rw [h a (by simp),h v (by simp)]
 case mapUpdate T a k v=>rw [h a (by simp),h k (by simp),h v (by simp)]
 case insert T a k v=>rw [h a (by simp),h k (by simp),h v (by simp)]
 case call c =>
  obtain ⟨callee,args,ats⟩:=c
  cases callee<;>try rfl
  rename_i b
  obtain ⟨args⟩:=args
  obtain ⟨ats⟩:=ats
  cases b<;>try rfl
  simp only [bapD]
  match args,h with
  | [a,b],h=>simp only;rw [h a (by simp [Call.operands]),h b (by simp [Call.operands])]
  | [],_=>rfl
  | [_],_=>rfl
  | _::_::_::_,_=>rfl
theorem Ax {γ:List (Nat × D)} {k:Nat} {d:D} (h:γ.lookup k=some d):getD γ k=d:=by simp [getD,h]
@[simp] def D.plain:D->D
 | .slice es _ => .slice es .no
 | .nils => .slice [] .no
 | d=>d
theorem Qp (d:D):WkD d d.plain:=by
 cases d<;>first | exact A9 _ | exact B4 _ _ | exact At _ (.inl rfl)
theorem F0 : ∀ l:List D,WkL l (l.map D.plain)
 | []=>trivial
 | d::l=>⟨Qp d,F0 l⟩
theorem DO : ∀ l:List D,WkL l l
 | []=>trivial
 | a::l=>⟨A9 a,DO l⟩
section
variable {P:Program} {ro:Option Nat} {n:Nat} {ops:Array Oper} {Q:DX->St->Prop} {df:List DDf} {rest:List Oper} {γ γr:List (Nat × D)} {σ σ':Sig} {t:Nat} {op:Op} {ty:TypeId} {pos:String} {after:Array Edge} {guard:Option (Nat × Bool)} {d:D}
theorem DY {op:Op} (h:Fa op=true) : ∀ c,op ≠ .defer c:=fun c e=>by subst e;cases h
theorem Fu {tab:Nat->Ty} (ht:Bf P tab) {o:Oper} (hr:Fa o.op=true) (hw:AE ops γ o=some true) (hd:dopX tab γ σ o.op=some d) (ho:Av n o=true)
  (h:DOps P ro n ops Q rest ⟨putD o.dst d γ,σ,df⟩):DOps P ro n ops Q (o::rest) ⟨γ,σ,df⟩ :=
 I6 hw (DY hr) (O1 ht hd) (fun g w a hs hT=>Jc ht hs hT hd) ho h
theorem BT {j k:Nat} {b:Bool} (hk:(ops[j]?).bind (·.dst)=some k) (hb:γ.lookup k=some (.bool b)):CY ops γ j=some b:=by
 unfold CY
 rw [hk]
 simp only [Option.bind_some,Ax hb]
theorem Gm {tab:Nat->Ty} (ht:Bf P tab) (hr:Fa op=true) (htn:decide (t < n)=true) (hl:A4 γ (A6 op.operands.toList)=some γr) (hd:dopX tab γr σ op=some d)
  (h:DOps P ro n ops Q rest ⟨(t,d)::γ,σ,df⟩):DOps P ro n ops Q (⟨some t,op,ty,pos,after,none⟩::rest) ⟨γ,σ,df⟩ :=
 Fu ht hr rfl ((Bz (CC hl)) ▸ hd) htn h
theorem Hb {tab:Nat->Ty} (ht:Bf P tab) {j:Nat} {want:Bool} (hr:Fa op=true) (htn:decide (t < n)=true) {k:Nat} (hk:(ops[j]?).bind (·.dst)=some k) (hb:γ.lookup k=some (.bool want)) (hl:A4 γ (A6 op.operands.toList)=some γr) (hd:dopX tab γr σ op=some d)
  (h:DOps P ro n ops Q rest ⟨(t,d)::γ,σ,df⟩):DOps P ro n ops Q (⟨some t,op,ty,pos,after,some (j,want)⟩::rest) ⟨γ,σ,df⟩ :=
 Fu ht hr (by simp only [AE,BT hk hb];simp) ((Bz (CC hl)) ▸ hd) htn h
theorem Hc {tab:Nat->Ty} (ht:Bf P tab) (hr:Fa op=true) (hl:A4 γ (A6 op.operands.toList)=some γr) (hd:dopX tab γr σ op=some d)
  (h:DOps P ro n ops Q rest ⟨γ,σ,df⟩):DOps P ro n ops Q (⟨none,op,ty,pos,after,none⟩::rest) ⟨γ,σ,df⟩ :=
 Fu (o:=⟨none,op,ty,pos,after,none⟩) ht hr rfl ((Bz (CC hl)) ▸ hd) rfl h
theorem Tc {j k:Nat} {o:Oper} {want:Bool} (hk:(ops[j]?).bind (·.dst)=some k) (hb:γ.lookup k=some (.tup [])) (hg:o.guard=some (j,want):=by rfl):AE ops γ o=some false:=by
 unfold AE
 rw [hg]
 have h1:CY ops γ j=none:=by unfold CY;rw [hk];simp only [Option.bind_some,Ax hb]
 have h2:If ops γ j=true:=by unfold If;rw [hk];simp only [Ax hb]
 simp only [h1,h2,if_true]
theorem Ij {N:Nat} (hN:P.funcs.size=N) {j:Nat} {want:Bool} {k:Nat} (hk:(ops[j]?).bind (·.dst)=some k) (hb:γ.lookup k=some (.bool (!want))) (hs:CH N op=true) (htn:decide (t < n)=true)
  (h:DOps P ro n ops Q rest ⟨(t, .tup [])::γ,σ,df⟩):DOps P ro n ops Q (⟨some t,op,ty,pos,after,some (j,want)⟩::rest) ⟨γ,σ,df⟩:=by
 intro g w a r hr hs'
 have hw':AE ops γ ⟨some t,op,ty,pos,after,some (j,want)⟩=some false:=by simp only [AE,BT hk hb];simp
 unfold wpListIn
 rw [AA hs'.tmps hw',if_neg (by simp)]
 refine ⟨fun f hf=>Eo (by rw [hN];exact hs) w _ f hf (fun _=>rfl), ?_⟩
 have h0:Rep g (.tup []) undef:=⟨[],rfl,rfl⟩
 exact h g w _ r hr (hs'.put (o:=⟨some t,op,ty,pos,after,some (j,want)⟩) (.refl g) hs'.sim h0 htn)
theorem Ha {N:Nat} (hN:P.funcs.size=N) {j:Nat} {want:Bool} {k:Nat} (hk:(ops[j]?).bind (·.dst)=some k) (hb:γ.lookup k=some (.bool (!want))) (hs:CH N op=true)
  (h:DOps P ro n ops Q rest ⟨γ,σ,df⟩):DOps P ro n ops Q (⟨none,op,ty,pos,after,some (j,want)⟩::rest) ⟨γ,σ,df⟩:=by
 intro g w a r hr hs'
 have hw':AE ops γ ⟨none,op,ty,pos,after,some (j,want)⟩=some false:=by simp only [AE,BT hk hb];simp
 unfold wpListIn
 rw [AA hs'.tmps hw',if_neg (by simp)]
 refine ⟨fun f hf=>Eo (by rw [hN];exact hs) w _ f hf (fun _=>rfl), ?_⟩
 have h0:Rep g (.tup []) undef:=⟨[],rfl,rfl⟩
 exact h g w _ r hr (hs'.put (o:=⟨none,op,ty,pos,after,some (j,want)⟩) (.refl g) hs'.sim h0 rfl)
theorem H9 {N:Nat} (hN:P.funcs.size=N) {j:Nat} {want:Bool} {k:Nat} (hk:(ops[j]?).bind (·.dst)=some k) (hb:γ.lookup k=some (.tup [])) (hs:CH N op=true) (htn:decide (t < n)=true)
  (h:DOps P ro n ops Q rest ⟨(t, .tup [])::γ,σ,df⟩):DOps P ro n ops Q (⟨some t,op,ty,pos,after,some (j,want)⟩::rest) ⟨γ,σ,df⟩:=by
 intro g w a r hr hs'
 have hw':AE ops γ ⟨some t,op,ty,pos,after,some (j,want)⟩=some false:=by exact Tc hk hb
 unfold wpListIn
 rw [AA hs'.tmps hw',if_neg (by simp)]
 refine ⟨fun f hf=>Eo (by rw [hN];exact hs) w _ f hf (fun _=>rfl), ?_⟩
 have h0:Rep g (.tup []) undef:=⟨[],rfl,rfl⟩
 exact h g w _ r hr (hs'.put (o:=⟨some t,op,ty,pos,after,some (j,want)⟩) (.refl g) hs'.sim h0 htn)
theorem G6 {N:Nat} (hN:P.funcs.size=N) {j:Nat} {want:Bool} {k:Nat} (hk:(ops[j]?).bind (·.dst)=some k) (hb:γ.lookup k=some (.tup [])) (hs:CH N op=true)
  (h:DOps P ro n ops Q rest ⟨γ,σ,df⟩):DOps P ro n ops Q (⟨none,op,ty,pos,after,some (j,want)⟩::rest) ⟨γ,σ,df⟩:=by
 intro g w a r hr hs'
 have hw':AE ops γ ⟨none,op,ty,pos,after,some (j,want)⟩=some false:=by exact Tc hk hb
 unfold wpListIn
 rw [AA hs'.tmps hw',if_neg (by simp)]
 refine ⟨fun f hf=>Eo (by rw [hN];exact hs) w _ f hf (fun _=>rfl), ?_⟩
 have h0:Rep g (.tup []) undef:=⟨[],rfl,rfl⟩
 exact h g w _ r hr (hs'.put (o:=⟨none,op,ty,pos,after,some (j,want)⟩) (.refl g) hs'.sim h0 rfl)
theorem Bw {t:Nat} {d:D} (h:WkD (getD γ t) d):Wk P n ⟨γ,σ,df⟩ ⟨(t,d)::γ,σ,df⟩ :=
 fun g w a hs=>⟨g, .refl g,⟨hs.sim,⟨hs.tmps.1,fun k=>by
  rw [A7]
  by_cases hk:k=t
  ·subst hk;rw [if_pos rfl];exact h g _ (hs.tmps.2 k)
  ·rw [if_neg hk];exact hs.tmps.2 k⟩,hs.df⟩⟩
theorem Pf {dst:Option Tmp} {j:Nat} {want b:Bool} {k:Nat} (hk:(ops[j]?).bind (·.dst)=some k) (hb:γ.lookup k=some (.bool b))
  (h1:b=true->DOps P ro n ops Q (⟨dst,op,ty,pos,after,some (j,want)⟩::rest) ⟨(k, .bool true)::γ,σ,df⟩) (h2:b=false->DOps P ro n ops Q (⟨dst,op,ty,pos,after,some (j,want)⟩::rest) ⟨(k, .bool false)::γ,σ,df⟩):DOps P ro n ops Q (⟨dst,op,ty,pos,after,some (j,want)⟩::rest) ⟨γ,σ,df⟩:=by
 cases b with
 | true=>exact BM (Bw (by rw [Ax hb];exact A9 _)) (h1 rfl)
 | false=>exact BM (Bw (by rw [Ax hb];exact A9 _)) (h2 rfl)
theorem KN {tab:Nat->Ty} (ht:Bf P tab) (hl:A4 γ (A6 op.operands.toList)=some γr) (he:eopD tab γr σ op=some (d,σ')) (htn:decide (t < n)=true)
  (h:DOps P ro n ops Q rest ⟨(t,d)::γ,σ',df⟩):DOps P ro n ops Q (⟨some t,op,ty,pos,after,none⟩::rest) ⟨γ,σ,df⟩ :=
 GY (o:=⟨some t,op,ty,pos,after,none⟩) ht rfl ((Cf (CC hl)) ▸ he) htn h
theorem Im {tab:Nat->Ty} (ht:Bf P tab) (hl:A4 γ (A6 op.operands.toList)=some γr) (he:eopD tab γr σ op=some (d,σ'))
  (h:DOps P ro n ops Q rest ⟨γ,σ',df⟩):DOps P ro n ops Q (⟨none,op,ty,pos,after,none⟩::rest) ⟨γ,σ,df⟩ :=
 GY (o:=⟨none,op,ty,pos,after,none⟩) ht rfl ((Cf (CC hl)) ▸ he) rfl h
theorem Th {tab:Nat->Ty} (ht:Bf P tab) (vars:List Nat) {T T' ty':Nat} {x:Operand} {pos':String} {after':Array Edge} {cs:List D} (hv:vars.contains t=false) (hT:T'=T) (htn:decide (t < n)=true) (hx:EN t x=true) (ho:A5 (tab T).k=false)
  (hl:A4 γ (A6 [x])=some γr) (he:ev γr x=d) (htold:d.told=true) (hc:d.cells=cs) (hlen:cs.length=(tab T).size) (hflat:CB cs=true)
  (h:DOps P ro n ops Q rest ⟨(t, .cptr cs 0)::γ,σ,df⟩) :
  DOps P ro n ops Q (⟨some t, .alloc T,ty,pos,after,none⟩::⟨none, .store T' (.tmp t) x,ty',pos',after',none⟩::rest) ⟨γ,σ,df⟩:=by
 rw [BJ hl] at he
 subst he;subst hT;subst hc
 exact NR ht ho (by simpa using htn) (GB ht hx) htold hlen hflat h
theorem GW {id:Nat} {l:List Oper} (h:DOps P ro n l.toArray Q l ⟨γ,σ,df⟩):DWp P ro n (.region id l.toArray false) Q ⟨γ,σ,df⟩:=Q4 h
theorem LK {c:Operand} {x y:Code} {b:Bool} {γr:List (Nat × D)} (hl:A4 γ (A6 [c])=some γr) (hc:ev γr c = .bool b) (ht:b=true->DWp P ro n x Q ⟨γ,σ,df⟩) (hf:b=false->DWp P ro n y Q ⟨γ,σ,df⟩) :
  DWp P ro n (.cond c x y) Q ⟨γ,σ,df⟩:=P2 (s:=⟨γ,σ,df⟩) (by rw [<- BJ hl];exact hc) ht hf
theorem He {c:Operand} {x y:Code} {γr:List (Nat × D)} (hl:A4 γ (A6 [c])=some γr) (hc:ev γr c = .bool true) (h:DWp P ro n x Q ⟨γ,σ,df⟩) :
  DWp P ro n (.cond c x y) Q ⟨γ,σ,df⟩:=LK hl hc (fun _=>h) (fun e=>by cases e)
theorem Hf {c:Operand} {x y:Code} {γr:List (Nat × D)} (hl:A4 γ (A6 [c])=some γr) (hc:ev γr c = .bool false) (h:DWp P ro n y Q ⟨γ,σ,df⟩) :
  DWp P ro n (.cond c x y) Q ⟨γ,σ,df⟩:=LK hl hc (fun e=>by cases e) (fun _=>h)
theorem F5 {fop:Operand} {args:Array Operand} {ats:Array TypeId} {f:Nat} {first cap us bs:List D} {R:DE->Sig->Prop} {dst:Option Tmp}
  (hl:A4 γ (A6 (fop::args.toList))=some γr) (hf:ev γr fop = .func (.func f) first cap) (ha:first++args.toList.map (ev γr)++cap=us) (hw:bs=us\/bs=us.map D.plain) (h:DCall P f bs σ R)
  (ho:Av n ⟨dst, .call { callee := .value fop,args,argTypes:=ats },ty,pos,after,none⟩=true)
  (hret : ∀ d σ',R (.ret d) σ'->DOps P ro n ops Q rest ⟨putD dst d γ,σ',df⟩)
  (hpan : ∀ d σ',R (.panic d) σ'->Q (.panic d) ⟨γ,σ',df⟩) :
  DOps P ro n ops Q (⟨dst, .call { callee := .value fop,args,argTypes:=ats },ty,pos,after,none⟩::rest) ⟨γ,σ,df⟩:=by
 have hx : ∀ x ∈ fop::args.toList,ev γr x=ev γ x:=fun x hx=>BL fun t ht=>AI hl t (AY (by rw [<- ht];exact hx))
 refine FN (az:=bs) rfl (by rw [<- hx fop (by simp)];exact hf) h ?_ ho hret hpan
 rw [show args.toList.map (ev γ)=args.toList.map (ev γr) from List.map_congr_left fun x h=>(hx x (by simp [h])).symm,ha]
 rcases hw with rfl | rfl
 ·exact DO _
 ·exact F0 _
theorem FB {fop:Operand} {args:Array Operand} {ats:Array TypeId} {f:Nat} {first cap us bs:List D} {d:D}
  (hl:A4 γ (A6 (fop::args.toList))=some γr) (hf:ev γr fop = .func (.func f) first cap) (ha:first++args.toList.map (ev γr)++cap=us) (hw:bs=us\/bs=us.map D.plain) (h:DCall P f bs σ fun x σ'=>x = .ret d/\σ'=σ)
  (htn:decide (t < n)=true) (k:DOps P ro n ops Q rest ⟨(t,d)::γ,σ,df⟩) :
  DOps P ro n ops Q (⟨some t, .call { callee := .value fop,args,argTypes:=ats },ty,pos,after,none⟩::rest) ⟨γ,σ,df⟩ :=
 F5 hl hf ha hw h htn (fun d' σ' ⟨e1,e2⟩=>by cases e1;subst e2;exact k) (fun d' σ' ⟨e1,e2⟩=>by cases e1)
theorem Pg {fop:Operand} {args:Array Operand} {ats:Array TypeId} {f:Nat} {first cap us bs:List D} {R:DE->Sig->Prop} {dst:Option Tmp} {j:Nat} {want:Bool} {k:Nat} (hk:(ops[j]?).bind (·.dst)=some k) (hb:γ.lookup k=some (.bool want))
  (hl:A4 γ (A6 (fop::args.toList))=some γr) (hf:ev γr fop = .func (.func f) first cap) (ha:first++args.toList.map (ev γr)++cap=us) (hw:bs=us\/bs=us.map D.plain) (h:DCall P f bs σ R)
  (ho:Av n ⟨dst, .call { callee := .value fop,args,argTypes:=ats },ty,pos,after,some (j,want)⟩=true)
  (hret : ∀ d σ',R (.ret d) σ'->DOps P ro n ops Q rest ⟨putD dst d γ,σ',df⟩)
  (hpan : ∀ d σ',R (.panic d) σ'->Q (.panic d) ⟨γ,σ',df⟩) :
  DOps P ro n ops Q (⟨dst, .call { callee := .value fop,args,argTypes:=ats },ty,pos,after,some (j,want)⟩::rest) ⟨γ,σ,df⟩:=by
 have hx : ∀ x ∈ fop::args.toList,ev γr x=ev γ x:=fun x hx=>BL fun t ht=>AI hl t (AY (by rw [<- ht];exact hx))
 refine FN (az:=bs) (by simp only [AE,BT hk hb];simp) (by rw [<- hx fop (by simp)];exact hf) h ?_ ho hret hpan
 rw [show args.toList.map (ev γ)=args.toList.map (ev γr) from List.map_congr_left fun x h=>(hx x (by simp [h])).symm,ha]
 rcases hw with rfl | rfl
 ·exact DO _
 ·exact F0 _
theorem Et {fop:Operand} {args:Array Operand} {ats:Array TypeId} {f:Nat} {first cap us bs:List D} {d:D} {j:Nat} {want:Bool} {k:Nat} (hk:(ops[j]?).bind (·.dst)=some k) (hb:γ.lookup k=some (.bool want))
  (hl:A4 γ (A6 (fop::args.toList))=some γr) (hf:ev γr fop = .func (.func f) first cap) (ha:first++args.toList.map (ev γr)++cap=us) (hw:bs=us\/bs=us.map D.plain) (h:DCall P f bs σ fun x σ'=>x = .ret d/\σ'=σ)
  (htn:decide (t < n)=true) (kk:DOps P ro n ops Q rest ⟨(t,d)::γ,σ,df⟩) :
  DOps P ro n ops Q (⟨some t, .call { callee := .value fop,args,argTypes:=ats },ty,pos,after,some (j,want)⟩::rest) ⟨γ,σ,df⟩ :=
 Pg hk hb hl hf ha hw h htn (fun d' σ' ⟨e1,e2⟩=>by cases e1;subst e2;exact kk) (fun d' σ' ⟨e1,e2⟩=>by cases e1)
end
@[simp] theorem nat_eq_int (a b:Nat):((a:Int)=(b:Int))=(a=b):=propext Int.ofNat_inj
@[simp] theorem QQ (a:Nat):((a+1:Nat):Int)=(a:Int)+1:=rfl
def DD (γ:List (Nat × D)):List Nat->Option (List (Nat × D))
 | []=>some []
 | t::ts=>match γ.lookup t with
  | some d=>match DD γ ts with
   | some r=>some ((t,d)::r)
   | none=>none
  | none=>DD γ ts
def TellsR (γ:List (Nat × D)):List (Nat × D)->Prop
 | []=>True
 | p::r=>WkD (getD γ p.1) p.2/\TellsR γ r
theorem TellsR.get {γ:List (Nat × D)} : ∀ {γ':List (Nat × D)},TellsR γ γ' -> ∀ t,WkD (getD γ t) (getD γ' t)
 | [],_,t=>DV _
 | p::r,h,t=>by
  rw [show p::r=(p.1,p.2)::r from rfl,A7]
  by_cases ht:t=p.1
  ·rw [if_pos ht,ht];exact h.1
  ·rw [if_neg ht];exact TellsR.get h.2 t
theorem Gk {γ:List (Nat × D)}:TellsR γ []:=trivial
theorem Fz {γ r:List (Nat × D)} {t:Nat} {d d':D} (hl:γ.lookup t=some d') (h:WkD d' d) (k:TellsR γ r):TellsR γ ((t,d)::r):=⟨by rw [Ax hl];exact h,k⟩
theorem Gl {γ a b:List (Nat × D)} (h:TellsR γ a) (k:TellsR γ b):TellsR γ (a++b):=by
 induction a with
 | nil=>exact k
 | cons p a ih=>exact ⟨h.1,ih h.2⟩
theorem KF {P:Program} {n:Nat} {γ γ':List (Nat × D)} {σ σ':Sig} {df:List DDf} (h:TellsR γ γ') (hσ:Sub σ' σ):Wk P n ⟨γ,σ,df⟩ ⟨γ',σ',df⟩ :=
 fun g w a hs=>⟨g, .refl g,⟨hs.sim.sub hσ,⟨hs.tmps.1,fun t=>h.get t g _ (hs.tmps.2 t)⟩,hs.df⟩⟩
theorem Bl {σ σ':Sig} (h:σ'=σ):Sub σ' σ:=h ▸ Sub.refl _
theorem Ft {P:Program} {ro:Option Nat} {n:Nat} {Q:DX->St->Prop} {df:List DDf} {γ γk:List (Nat × D)} {σ:Sig} {α:Type} {c:Code} (keep:List Nat) (I:α->Prop) (ov:α->List (Nat × D)) (sg:α->Sig) (μ:α->Nat) (x0:α) (hk:DD γ keep=some γk) (h0:I x0) (h1:TellsR γ (ov x0++γk)) (h2:Sub (sg x0) σ)
  (round : ∀ x,I x->DWp P ro n c (Then (fun s' => ∃ x',I x'/\μ x' < μ x/\Wk P n s' ⟨ov x'++γk,sg x',df⟩) Q) ⟨ov x++γk,sg x,df⟩):DWp P ro n (.loop c) Q ⟨γ,σ,df⟩:=by
 refine P1 (fun x:{x // I x}=>⟨ov x.1++γk,sg x.1,df⟩) (fun x=>μ x.1) ⟨x0,h0⟩ (KF h1 h2) fun x=>EI (round x.1 x.2) ?_
 intro e s h
 cases e with
 | normal=>obtain ⟨x',h3,h4,h5⟩:=h;exact ⟨⟨x',h3⟩,h4,h5⟩
 | _=>exact h
theorem Q6 {P:Program} {ro:Option Nat} {n:Nat} {Q:DX->St->Prop} {df:List DDf} {γ γk:List (Nat × D)} {σ:Sig} {α β:Type} {c:Code} (keep:List Nat) (I:α->β->Prop) (ov:α->β->List (Nat × D)) (sg:α->β->Sig) (μ:α->β->Nat) (x0:α) (y0:β) (hk:DD γ keep=some γk) (h0:I x0 y0) (h1:TellsR γ (ov x0 y0++γk)) (h2:Sub (sg x0 y0) σ)
  (round : ∀ x y,I x y->DWp P ro n c (Then (fun s' => ∃ x' y',I x' y'/\μ x' y' < μ x y/\Wk P n s' ⟨ov x' y'++γk,sg x' y',df⟩) Q) ⟨ov x y++γk,sg x y,df⟩):DWp P ro n (.loop c) Q ⟨γ,σ,df⟩:=by
 refine Ft (α:=α × β) keep (fun x=>I x.1 x.2) (fun x=>ov x.1 x.2) (fun x=>sg x.1 x.2) (fun x=>μ x.1 x.2) (x0,y0) hk h0 h1 h2 fun x hx=>EI (round x.1 x.2 hx) ?_
 intro e s h
 cases e with
 | normal=>obtain ⟨x',y',h3,h4,h5⟩:=h;exact ⟨(x',y'),h3,h4,h5⟩
 | _=>exact h
theorem Q5 {P:Program} {ro:Option Nat} {n:Nat} {Q:DX->St->Prop} {df:List DDf} {γ γk:List (Nat × D)} {σ:Sig} {α β δ:Type} {c:Code} (keep:List Nat) (I:α->β->δ->Prop) (ov:α->β->δ->List (Nat × D)) (sg:α->β->δ->Sig) (μ:α->β->δ->Nat) (x0:α) (y0:β) (z0:δ) (hk:DD γ keep=some γk) (h0:I x0 y0 z0) (h1:TellsR γ (ov x0 y0 z0++γk)) (h2:Sub (sg x0 y0 z0) σ)
  (round : ∀ x y z,I x y z->DWp P ro n c (Then (fun s' => ∃ x' y' z',I x' y' z'/\μ x' y' z' < μ x y z/\Wk P n s' ⟨ov x' y' z'++γk,sg x' y' z',df⟩) Q) ⟨ov x y z++γk,sg x y z,df⟩):DWp P ro n (.loop c) Q ⟨γ,σ,df⟩:=by
 refine Ft (α:=α × β × δ) keep (fun x=>I x.1 x.2.1 x.2.2) (fun x=>ov x.1 x.2.1 x.2.2) (fun x=>sg x.1 x.2.1 x.2.2) (fun x=>μ x.1 x.2.1 x.2.2) (x0,y0,z0) hk h0 h1 h2 fun x hx=>EI (round x.1 x.2.1 x.2.2 hx) ?_
 intro e s h
 cases e with
 | normal=>obtain ⟨x',y',z',h3,h4,h5⟩:=h;exact ⟨(x',y',z'),h3,h4,h5⟩
 | _=>exact h
section
variable (tab:Nat->Ty) (γ:List (Nat × D)) (σ:Sig) (T T' m f:Nat) (x y z:Operand) (c:Bool)
@[simp] theorem dopX_move:dopX tab γ σ (.move x)=some (ev γ x):=rfl
@[simp] theorem dopX_assign:dopX tab γ σ (.assign x)=some (ev γ x):=rfl
@[simp] theorem dopX_pick:dopX tab γ σ (.pick x y z)=Nt (ev γ x) (ev γ y) (ev γ z):=by unfold dopX;simp only [dop,dop2];cases Nt (ev γ x) (ev γ y) (ev γ z)<;>rfl
@[simp] theorem dopX_box:dopX tab γ σ (.box T x)=boxD (ev γ x):=by unfold dopX;simp only [dop,dop2];cases boxD (ev γ x)<;>rfl
@[simp] theorem dopX_load:dopX tab γ σ (.load T x)=Jp (tab T) σ (ev γ x):=by unfold dopX;simp only [dop,dop2];cases Jp (tab T) σ (ev γ x)<;>rfl
@[simp] theorem dopX_nil:dopX tab γ σ (.nilCheck x)=nilD (ev γ x):=by unfold dopX;simp only [dop,dop2];cases nilD (ev γ x)<;>rfl
@[simp] theorem dopX_bin (o:BinOp):dopX tab γ σ (.binOp o T x y T')=binD o (ev γ x) (ev γ y):=by unfold dopX;simp only [dop,dop2];cases binD o (ev γ x) (ev γ y)<;>rfl
@[simp] theorem dopX_un (o:UnOp):dopX tab γ σ (.unOp o T x)=unD o (ev γ x):=by unfold dopX;simp only [dop,dop2];cases unD o (ev γ x)<;>rfl
@[simp] theorem dopX_conv:dopX tab γ σ (.convert T T' x)=T0 (A5 (tab T).k) (tab T').k (ev γ x):=by unfold dopX;simp only [dop,dop2];cases T0 (A5 (tab T).k) (tab T').k (ev γ x)<;>rfl
@[simp] theorem dopX_mkif:dopX tab γ σ (.makeInterface T x)=QX (tab T) T (ev γ x):=by unfold dopX;simp only [dop,dop2];cases QX (tab T) T (ev γ x)<;>rfl
@[simp] theorem dopX_mkfn (fn:Fn) (a b:Array Operand):dopX tab γ σ (.makeFunc fn a b)=some (.func fn (a.toList.map (ev γ)) (b.toList.map (ev γ))):=rfl
@[simp] theorem dopX_fa:dopX tab γ σ (.fieldAddr T x f)=Do tab f (ev γ x) (tab T).k:=by unfold dopX;simp only [dop,dop2];cases Do tab f (ev γ x) (tab T).k<;>rfl
@[simp] theorem dopX_ia:dopX tab γ σ (.indexAddr T x y)=Cw tab (tab T).k (ev γ x) (ev γ y):=by unfold dopX;simp only [dop,dop2];cases Cw tab (tab T).k (ev γ x) (ev γ y)<;>rfl
@[simp] theorem dopX_ex:dopX tab γ σ (.extract x f)=GT f (ev γ x):=by unfold dopX;simp only [dop,dop2];cases GT f (ev γ x)<;>rfl
@[simp] theorem dopX_bs (ps:Array (Nat × Operand)):dopX tab γ σ (.buildSlice T m ps)=Hv tab γ m ps.toList (tab T).k:=by unfold dopX;simp only [dop,dop2];cases Hv tab γ m ps.toList (tab T).k<;>rfl
@[simp] theorem dopX_sl (a b d:Option Operand):dopX tab γ σ (.slice T x a b d)=Io tab (tab T).k (ev γ x) (a.map (ev γ)) (b.map (ev γ)) (d.map (ev γ)):=rfl
@[simp] theorem dopX_lk:dopX tab γ σ (.lookup T x y c)=Gc tab σ c (tab T).k (ev γ x) (ev γ y):=rfl
@[simp] theorem dopX_ta:dopX tab γ σ (.typeAssert x T T' c)=Jj tab T' c (ev γ x):=rfl
@[simp] theorem dopX_bd (ps:Array (Nat × Operand)):dopX tab γ σ (.build T ps)=N1 tab T (ps.toList.map fun p=>(p.1,ev γ p.2)) (tab T).k:=rfl
@[simp] theorem dopX_len (xs:Array Operand) (ts:Array TypeId):dopX tab γ σ (.call { callee := .builtin .len,args:=xs,argTypes:=ts })=match lenC tab γ ts.toList xs.toList with
  | some d=>some d
  | none=>Hm tab γ σ ts.toList xs.toList:=rfl
@[simp] theorem dopX_max (ts:Array TypeId):dopX tab γ σ (.call { callee := .builtin .max,args := #[x,y],argTypes:=ts })=LZ true (ev γ x) (ev γ y):=rfl
@[simp] theorem dopX_min (ts:Array TypeId):dopX tab γ σ (.call { callee := .builtin .min,args := #[x,y],argTypes:=ts })=LZ false (ev γ x) (ev γ y):=rfl
@[simp] theorem eopD_store:eopD tab γ σ (.store T x y)=O9 tab σ T (ev γ x) (ev γ y):=rfl
@[simp] theorem eopD_upd:eopD tab γ σ (.mapUpdate T x y z)=updD tab σ (tab T).k (ev γ x) (ev γ y) (ev γ z):=rfl
@[simp] theorem eopD_ins:eopD tab γ σ (.insert T x y z)=updD tab σ (tab T).k (ev γ x) (ev γ y) (ev γ z):=rfl
@[simp] theorem eopD_app (ts:Array TypeId):eopD tab γ σ (.call { callee := .builtin .append,args := #[x,y],argTypes:=ts })=appD tab σ ts.toList (ev γ x) (ev γ y):=rfl
end
end Go.DL
