/- A part of the proof. -/
import Derived.Test.YteldimffglchkaaGreatDoorH05
set_option linter.all false
namespace Go.DL
open Go
def only(L:List Nat)(γ:Fr):Fr:=L.map fun t=>(t,getD γ t)
theorem Gh(γ:Fr)(t:Nat): ∀L:List Nat,getD (only L γ) t=if t∈L then getD γ t else .any
 |[]=>rfl
 |a::L=>by
  have ih:=Gh γ t L
  unfold only at ih⊢
  rw[List.map_cons,A3]
  by_cases h:t=a
  ·subst h;simp
  ·simp only[h,if_false,ih,List.mem_cons,false_or]
theorem KT{g:G}{γ:Fr}{n:Nat}{tmps:Array Value}(L:List Nat)(h:RepT g γ n tmps):RepT g (only L γ) n tmps:=
 ⟨h.1,fun t=>by
  rw[Gh]
  by_cases ht:t∈L
  ·rw[if_pos ht];exact h.2 t
  ·rw[if_neg ht];trivial⟩
theorem Je{L:List Nat}{γ V':Fr}(h:∀t∈L,getD γ t=getD V' t):only L γ=only L V':=
 List.map_congr_left fun t ht=>by rw[h t ht]
theorem Bk{γ:Fr}{ops:Array Oper}{o:Oper}{x:Operand}(h:x∈o.op.operands):ev (only (o.looksAt ops) γ) x=ev γ x:=by
 cases x with
 |tmp t=>simp only[ev,Gh];rw[if_pos (G4 h)]
 |_=>rfl
theorem Ag{γ:Fr}{ops:Array Oper}{o:Oper}:Ay ops (only (o.looksAt ops) γ) o=Ay ops γ o:=
 HA fun t ht=>by rw[Gh,if_pos ht]
section mono
variable {tab:Nat->Ty}{O U':Sig}(h:Sub O U'){γ:List (Nat×D)}
include h
theorem Gv{x:D}{l:List (D×D)}(e:C1 O x=some l):C1 U' x=some l:=by
 unfold C1 at e⊢
 split at e
 ·exact e
 ·exact e
 ·rename_i id
  split at e<;>(try (cases e;done))
  rename_i l' hi
  rw[h _ _ hi];exact e
 ·cases e
theorem loadT_mono{ty:Ty}{x d:D}(e:IQ ty O x=some d):IQ ty U' x=some d:=by
 unfold IQ at e⊢
 split at e
 ·cases e
 ·rename_i hk
  rw[if_neg hk]
  unfold IR at e⊢
  split at e
  ·exact e
  ·rename_i id off
   cases hi:O id with
   |none=>simp[hi,Da]at e
   |some ob=>rw[h _ _ hi,<-hi];exact e
  ·cases e
theorem Uj{op:Op}{d:D}(e:dop tab γ O op=some d):dop tab γ U' op=some d:=by
 cases op<;>first|exact e|(simp only[dop]at e⊢; exact loadT_mono h e)|skip
 case call c=>
  obtain⟨callee,args,ats⟩:=c
  cases callee<;>try exact e
  rename_i b
  cases b<;>exact e
theorem Sp{op:Op}{d:D}(e:dop2 tab γ O op=some d):dop2 tab γ U' op=some d:=by
 cases op<;>first|exact e|skip
 case lookup t x k ok=>
  simp only[dop2]at e⊢
  unfold FI at e⊢
  split at e<;>(try (cases e;done))
  rename_i kt et hk
  split at e<;>(try (cases e;done))
  rename_i hc
  rw[if_neg hc]
  split at e<;>(try (cases e;done))
  rename_i l hl
  rw[Gv h hl];exact e
 case call c=>
  simp only[dop2]at e⊢
  unfold Fk at e⊢
  split at e<;>(try (exact e))<;>(try (cases e;done))
  unfold GS at e⊢
  split at e<;>(try (cases e;done))
  rename_i _ _ x _ _
  split at e<;>(try (cases e;done))
  cases hl:C1 O (ev γ x)with
  |none=>rw[hl]at e;cases e
  |some l=>rw[hl]at e;rw[Gv h hl];exact e
theorem EZ{op:Op}{d:D}(e:dopX tab γ O op=some d):dopX tab γ U' op=some d:=by
 have key:dop tab γ O op=none->dop tab γ U' op=none\/dop2 tab γ O op=none:=by
  intro hn
  cases op<;>first|exact .inl hn|exact .inr rfl|skip
  case call c=>
   obtain⟨callee,args,ats⟩:=c
   cases callee<;>first|exact .inl hn|skip
   rename_i b
   cases b<;>exact .inl hn
 unfold dopX at e⊢
 split at e
 ·rename_i d' hd
  rw[Uj h hd];exact e
 ·rename_i hd
  rcases key hd with hc|hc
  ·rw[hc];exact Sp h e
  ·rw[hc]at e;cases e
end mono
section
variable (P:Program)(ro:Ro)(n:Nat)(ops:Array Oper)(N:Nat)(S0:Sig)(Q:DX->St->Prop)(df:List DDf)
def EQ(dst:Option Tmp)(R Rp:D->Sig->Prop):DX->St->Prop
 |.normal,s=>s.df=df/\R (match dst with|some t=>getD s.γ t|none=>.any) s.O
 |.panic d,s=>s.df=df/\Rp d s.O
 |_,_=>False
structure Calm(γ:Fr)(o:Oper)(d:D):Prop where
 ok:Ar n o=true
 run:(Ay ops (only (o.looksAt ops) γ) o=some true/\(∀c,o.op≠.defer c)/\(∀(w:World) (ρ:Operand->Value) f,o.about P w ρ=some f->False) /\
   ∀O,Sub S0 O->∀g w (a:Act),Sim P g O w->RepT g (only (o.looksAt ops) γ) n a.tmps->ORun P g O d (execOp a.eval o) w) \/
  (Ay ops (only (o.looksAt ops) γ) o=some false/\DO N o.op=true/\(d=.any\/d=.tup [])) \/
  (Ay ops (only (o.looksAt ops) γ) o=some true /\ ∀O,Sub S0 O->∀ro df,DOps P ro n ops (EQ df o.dst (fun d' U'=>d'=d/\Sub O U') fun _ _=>False) [o] ⟨only (o.looksAt ops) γ,O,df⟩)
structure Eff(γ:Fr)(O:Sig)(o:Oper)(R Rp:D->Sig->Prop):Prop where
 ok:Ar n o=true
 want:Ay ops (only (o.looksAt ops) γ) o=some true
 run:DOps P ro n ops (EQ df o.dst R Rp) [o] ⟨only (o.looksAt ops) γ,O,df⟩
def MOps (E:List Nat):List Nat->Fr->Sig->Prop
  |[],γ,O=>DOps P ro n ops Q [] ⟨γ,O,df⟩
  | i::r,γ,O => ∃ o,ops[i]? = some o /\
    ((∃ d,Calm P n ops N S0 γ o d/\MOps E r (putD o.dst d γ) O) \/
     (E.contains i=true/\Eff P ro n ops df γ O o (fun d U'=>Sub S0 U'/\MOps E r (putD o.dst d γ) U') (fun d U'=> ∀V',Q (.panic d) ⟨V',U',df⟩)))
end
section
variable {P:Program}{ro:Ro}{n:Nat}{ops:Array Oper}{N:Nat}{S0:Sig}{Q:DX->St->Prop}{df:List DDf}{E:List Nat}
theorem Calm.congr{γ V':Fr}{o:Oper}{d:D}(h:∀t∈o.looksAt ops,getD γ t=getD V' t)(hy:Calm P n ops N S0 γ o d):Calm P n ops N S0 V' o d:=by
 have e:=Je h
 exact⟨hy.ok,by rw[<-e];exact hy.run⟩
theorem BL {Q':DX->St->Prop} (hq : ∀ x s,Q x s->Q' x s) {g:G} {r:Rx} : ∀ (l:List Oper) {a:Act} {w:World},wpListIn (FX P r) 0 P ops (Post P g n Q) l a w->wpListIn (FX P r) 0 P ops (Post P g n Q') l a w
  |[],_,_,⟨g',s',x,h1,h2,h3,h4⟩=>⟨g',s',x,h1,h2,h3,hq _ _ h4⟩
  | o::l,a,w,h=>by
    have pq:∀{e a w},Post P g n Q e a w->Post P g n Q' e a w:=fun ⟨g',s',x,h1,h2,h3,h4⟩=>⟨g',s',x,h1,h2,h3,hq _ _ h4⟩
    unfold wpListIn at h⊢
    split
    · rename_i hw
      rw[if_pos hw]at h
      refine⟨h.1,?_⟩
      have h2:=h.2
      revert h2
      generalize (o.semAt (FX P r).round a.eval).run P w=res
      cases res with
      | ok nx w' =>
        cases nx<;>simp only[Oper.uponIn]<;>first
          |exact fun h=>BL hq l h
          | (rintro ⟨h1,h2⟩
             refine⟨h1,?_⟩
             first
               | (refine h2.mono ?_
                  intro e w'' he
                  cases e<;>first
                    |exact BL hq l he
                    |exact pq he
                    |(obtain⟨a0,w0,he⟩:=he;exact⟨a0,w0,pq he⟩))
               | (refine h2.mono ?_
                  intro v w'' he
                  exact BL hq l he))
          |exact fun h=>h
      |halt x w'=>cases x<;>simp only[Oper.uponIn]<;>first|exact fun h=>pq h|exact fun h=>h
    · rename_i hw
      rw[if_neg hw]at h
      exact⟨h.1,BL hq l h.2⟩
theorem LR{l:List Oper}{s:St}{Q':DX->St->Prop}(h:DOps P ro n ops Q l s)(hq:∀x s,Q x s->Q' x s):DOps P ro n ops Q' l s:=
 fun g w a r hr hs=>BL hq l (h g w a r hr hs)
theorem Eff.congr{γ V':Fr}{O:Sig}{o:Oper}{R R' Rp:D->Sig->Prop}(h:∀t∈o.looksAt ops,getD γ t=getD V' t)(hy:Eff P ro n ops df γ O o R Rp)(hR:∀d U',R d U'->R' d U'):Eff P ro n ops df V' O o R' Rp:=by
 have e:=Je h
 refine⟨hy.ok,by rw[<-e];exact hy.want,?_⟩
 rw[<-e]
 refine LR hy.run fun x s hx=>?_
 cases x with
 |normal=>exact⟨hx.1,hR _ _ hx.2⟩
 |panic d=>exact hx
 |_=>exact hx
theorem MOps.alike: ∀(l:List Nat) {γ V':Fr}{O:Sig},Alike γ V'->MOps P ro n ops N S0 Q df E l γ O->MOps P ro n ops N S0 Q df E l V' O
 |[],_,_,_,h,k=>C2 h k
 |i::r,_,_,_,h,⟨o,ho,k⟩=>⟨o,ho,(match k with
  |.inl ⟨d,h2,h3⟩=>.inl ⟨d,h2.congr fun t _=>h t,MOps.alike r (h.put _ _) h3⟩
  |.inr ⟨h1,h2⟩=>.inr ⟨h1,h2.congr (fun t _=>h t) fun d U' ⟨h3,h4⟩=>⟨h3,MOps.alike r (h.put _ _) h4⟩⟩)⟩
theorem GQ{i:Nat}{oi:Oper}(hi:ops[i]? = some oi)(post:List Nat): ∀(pre:List Nat) (γ:Fr) (O:Sig),
  (∀x∈pre,E.contains x=false /\ ∃ox,ops[x]? = some ox/\oi.apart ops ox=true)->MOps P ro n ops N S0 Q df E (pre++i::post) γ O->MOps P ro n ops N S0 Q df E (i::(pre++post)) γ O
 |[],_,_,_,h=>h
 | x::pre,γ,O,hp,h=>by
  obtain⟨aR,ox,aB,bd⟩:=hp x (by simp)
  obtain⟨a1,a2,a3⟩:=Oper.apart_spec bd
  obtain⟨ox',aA,hx⟩:=h
  obtain rfl:ox'=ox:=by rw[aB]at aA;cases aA;rfl
  rcases hx with⟨d,hy,h⟩|⟨hE,_⟩
  ·obtain⟨oi',aC,hh⟩:=GQ hi post pre _ O (fun y hy=>hp y (by simp[hy])) h
   obtain rfl:oi'=oi:=by rw[hi]at aC;cases aC;rfl
   refine⟨oi',hi,?_⟩
   rcases hh with⟨e,h2,h3⟩|⟨h1,h2⟩
   ·refine .inl ⟨e,h2.congr fun t ht=>AD fun hd=>a3 t hd ht,ox',aB,.inl ⟨d,hy.congr fun t ht=>(AD fun hd=>a1 t hd ht).symm,?_⟩⟩
    exact MOps.alike _ (Bo _ _ _ fun t p q=>a2 t p q) h3
   ·refine .inr ⟨h1,h2.congr (fun t ht=>AD fun hd=>a3 t hd ht) fun e U' ⟨h3,h4⟩=>⟨h3,ox',aB,.inl ⟨d,hy.congr fun t ht=>(AD fun hd=>a1 t hd ht).symm,?_⟩⟩⟩
    exact MOps.alike _ (Bo _ _ _ fun t p q=>a2 t p q) h4
  ·rw[aR]at hE;cases hE
def mixB(ops:Array Oper)(E:List Nat):List Nat->List Nat->Bool
 |_,[]=>true
 | done,i::r => !done.contains i && (match ops[i]? with
  |some o=>(o.after.all fun e=> !Region.binds .any e||done.contains e.on)&&done.all fun x=>(!E.contains x&&match ops[x]? with
   |some ox=>o.apart ops ox
   |none=>false)||FF ops ops.size i x
  |none=>false)&&mixB ops E (i::done) r
theorem EK{i:Nat}{l2:List Nat}: ∀(l1 done:List Nat),mixB ops E done (l1++i::l2)=true->i∉l1/\i∉done/\i∉l2 /\ ∃o,ops[i]? = some o/\(∀e∈o.after,Region.binds .any e=true->e.on∈l1\/e.on∈done) /\
   ∀x,x∈l1->FF ops ops.size i x=true\/(E.contains x=false /\ ∃ox,ops[x]? = some ox/\o.apart ops ox=true)
 | [],done,h=>by
  simp only[List.nil_append,mixB,Bool.and_eq_true,Bool.not_eq_true',List.contains_eq_mem,decide_eq_false_iff_not]at h
  obtain⟨⟨h1,h2⟩,h3⟩:=h
  have later:∀(l d:List Nat),i∈d->mixB ops E d l=true->i∉l:=by
   intro l
   induction l with
   |nil=>intro _ _ _ h;cases h
   |cons y l ih=>
    intro d hd hm aa
    simp only[mixB,Bool.and_eq_true,Bool.not_eq_true',List.contains_eq_mem,decide_eq_false_iff_not]at hm
    obtain⟨⟨m1,_⟩,m3⟩:=hm
    rcases List.mem_cons.1 aa with rfl|aa
    ·exact m1 hd
    ·exact ih (y::d) (by simp[hd]) m3 aa
  refine⟨by simp,h1,later l2 _ (by simp) h3,?_⟩
  split at h2
  ·rename_i o ho
   simp only[Bool.and_eq_true]at h2
   refine⟨o,ho,fun e he hb=>?_,fun x hx=>by cases hx⟩
   have:=Array.all_eq_true_iff_forall_mem.1 h2.1 e he
   simp only[hb,Bool.not_true,Bool.false_or,List.contains_eq_mem,decide_eq_true_eq]at this
   exact .inr this
  ·cases h2
 | y::l1,done,h=>by
  simp only[List.cons_append,mixB,Bool.and_eq_true]at h
  obtain⟨h1,h2,h3,o,ho,he,hx⟩:=EK l1 (y::done) h.2
  have aY:i≠y:=fun e=>h2 (by simp[e])
  refine⟨by simp[aY,h1],fun hd=>h2 (by simp[hd]),h3,o,ho,fun e hm hb=>?_,?_⟩
  ·rcases he e hm hb with h4|h4
   ·exact .inl (by simp[h4])
   ·rcases List.mem_cons.1 h4 with h5|h5
    ·exact .inl (by simp[h5])
    ·exact .inr h5
  ·intro x aa
   rcases List.mem_cons.1 aa with rfl|aa
   ·
    have back:∀(l d:List Nat),x∈d->mixB ops E d (l++i::l2)=true->FF ops ops.size i x=true\/(E.contains x=false /\ ∃ox,ops[x]? = some ox/\o.apart ops ox=true):=by
     intro l
     induction l with
     | nil =>
      intro d hd hm
      simp only[List.nil_append,mixB,Bool.and_eq_true,ho]at hm
      have:=List.all_eq_true.1 hm.1.2.2 x hd
      simp only[Bool.or_eq_true,Bool.and_eq_true,Bool.not_eq_true']at this
      rcases this.symm with h4|⟨h4,h5⟩
      ·exact .inl h4
      ·refine .inr ⟨h4,?_⟩
       split at h5
       ·rename_i ox aB;exact⟨ox,aB,h5⟩
       ·cases h5
     |cons z l ih=>
      intro d hd hm
      simp only[List.cons_append,mixB,Bool.and_eq_true]at hm
      exact ih (z::d) (by simp[hd]) hm.2
    exact back l1 _ (by simp) h.2
   ·exact hx x aa
def Eu(ops:Array Oper)(E ord:List Nat):Bool:=mixB ops E [] ord&&(List.range ops.size).all ord.contains&&ord.length==ops.size
theorem CM {K:Act->World->Prop} {g0 g:G} {w:World} {a:Act} {r:Rx} {γ:Fr} {O:Sig} {o:Oper} {R Rp:D->Sig->Prop} (hr:RoRep g ro r) (hg:g0.le g)
    (hs:SimS P g n ⟨γ,O,df⟩ a w) (hE:Eff P ro n ops df γ O o R Rp) (hK:∀g' w' a' d U',g.le g'->R d U'->SimS P g' n ⟨putD o.dst d γ,U',df⟩ a' w'->K a' w')
    (hp:∀d U',Rp d U'->∀V',Q (.panic d) ⟨V',U',df⟩) :
    (if Region.wanted o (yielded ops a.tmps) then o.wpIn (FX P r) 0 P a w K (Post P g0 n Q) else(∀f,o.about P w a.eval=some f->(FX P r).fn f)/\K (a.put o.dst undef) w):=by
  have aO:SimS P g n ⟨only (o.looksAt ops) γ,O,df⟩ a w:=⟨hs.sim,KT _ hs.tmps,hs.df⟩
  have h:=hE.run g w a r hr aO
  have hw:=AL aO.tmps hE.want
  rw[hw,if_pos rfl]
  unfold wpListIn at h
  rw[hw,if_pos rfl]at h
  have fin:∀(a':Act) (w':World) (v:Value),a'.tmps=(a.put o.dst v).tmps->wpListIn (FX P r) 0 P ops (Post P g n (EQ df o.dst R Rp)) [] a' w'->K a' w':=by
    rintro a' w' v hv ⟨g',s',x,l1,l2,l3,l4⟩
    cases x with
    | normal =>
      obtain⟨e1,e2⟩:=l4
      refine hK g' w' a' _ s'.O l1 e2 ⟨l2.sim,⟨l2.tmps.1,fun t=>?_⟩,by rw[<-e1];exact l2.df⟩
      cases hd:o.dst with
      | none =>
        rw[hd]at hv
        simp only[putD,Act.put]at hv⊢
        rw[hv]
        exact Rep.mono l1 _ (hs.tmps.2 t)
      | some k =>
        rw[hd]at hv
        simp only[putD,A3]
        by_cases hk:t=k
        · subst hk;rw[if_pos rfl];exact l2.tmps.2 t
        · rw [if_neg hk,hv]
          simp only[Act.put]
          rw[show(a.tmps.setIfInBounds k v).getD t undef=a.tmps.getD t undef by simp[Array.getD_eq_getD_getElem?, Array.getElem?_setIfInBounds_ne (Ne.symm hk)]]
          exact Rep.mono l1 _ (hs.tmps.2 t)
    |ret=>cases l3
    |exit _=>cases l3
    |panic _=>obtain⟨v,l3,_⟩:=l3;cases l3
  have pan:∀(c:List PanicEntry) (w':World),Post P g n (EQ df o.dst R Rp) (.panic c) a w'->Post P g0 n Q (.panic c) a w':=by
    rintro c w' ⟨g',s',x,l1,l2,l3,l4⟩
    cases x with
    |normal=>cases l3
    |ret=>cases l3
    |exit _=>cases l3
    |panic d=>exact⟨g',⟨γ,s'.O,df⟩,.panic d,hg.trans l1,⟨l2.sim,hs.tmps.mono l1,by rw[<-l4.1];exact l2.df⟩,l3,hp d _ l4.2 γ⟩
  have lets:LetsOut (Post P g n (EQ df o.dst R Rp))->LetsOut (Post P g0 n Q):=by
    rintro⟨a0,w0,g',s',x,l1,l2,l3,l4⟩
    cases x with
    |panic _=>obtain⟨v,l3,_⟩:=l3;cases l3
    |_=>cases l3
  refine⟨h.1,?_⟩
  have h2:=h.2
  revert h2
  generalize (o.semAt (FX P r).round a.eval).run P w=res
  cases res with
  | ok nx w' =>
    cases nx<;>simp only[Oper.uponIn]<;>first
      |exact fun h=>fin _ _ _ rfl h
      |exact fun h=>fin _ _ undef (by simp[Act.put];cases o.dst<;>rfl) h
      | (rintro ⟨h1,h2⟩
         refine⟨h1,?_⟩
         first
           | (refine h2.mono ?_
              intro e w'' he
              cases e<;>first
                |exact fin _ _ _ rfl he
                |exact pan _ _ he
                |exact lets he)
           | (refine h2.mono ?_
              intro v w'' he
              exact fin _ _ _ rfl he))
      |exact fun h=>h
  |halt x w'=>cases x<;>simp only[Oper.uponIn]<;>first|exact fun h=>pan _ _ h|exact fun h=>h
theorem F0(hN:P.funcs.size=N){K:Act->World->Prop}{g0 g:G}{w:World}{a:Act}{r:Rx}{γ:Fr}{O:Sig}{o:Oper}{d:D}(hr:RoRep g ro r)(hg:g0.le g)
  (hs:SimS P g n ⟨γ,O,df⟩ a w) (hC:Sub S0 O) (hy:Calm P n ops N S0 γ o d)
  (hK:∀g' w' a',g.le g'->SimS P g' n ⟨putD o.dst d γ,O,df⟩ a' w'->K a' w') :
  (if Region.wanted o (yielded ops a.tmps) then o.wpIn (FX P r) 0 P a w K (Post P g0 n Q) else(∀f,o.about P w a.eval=some f->(FX P r).fn f)/\K (a.put o.dst undef) w):=by
 have hT:=KT (o.looksAt ops) hs.tmps
 rcases hy.run with⟨hw,aV,be,hd⟩|⟨hw,aT,bc⟩|⟨hw,hd⟩
 ·rw[AL hT hw,if_pos rfl]
  refine⟨fun f hf=>(be _ _ f hf).elim,?_⟩
  obtain⟨g',w',v,h1,h2,h3,h4⟩:=hd O hC g w a hs.sim hT
  rw[Oper.semAt_eq _ _ _ aV,h1]
  exact hK g' w' _ h2 (hs.put h2 h3 h4 hy.ok)
 ·rw[AL hT hw,if_neg (by simp)]
  refine⟨fun f hf=>Fq (H8 (by rw[hN];exact aT) w _ f hf (fun _=>rfl)) _,?_⟩
  have h0:Rep g d undef:=by rcases bc with rfl|rfl;exact trivial;exact⟨[],rfl,rfl⟩
  exact hK g w _ (.refl g) (hs.put (.refl g) hs.sim h0 hy.ok)
 ·exact CM (Q:=Q) hr hg hs ⟨hy.ok,hw,hd O hC ro df⟩ (fun g' w' a' d' U' aE hR ac=>by
   obtain⟨rfl,aI⟩:=hR
   exact hK g' w' a' aE ⟨ac.sim.sub aI,ac.tmps,ac.df⟩) (fun _ _ h=>h.elim)
theorem AH{l:List Nat}{listed:Array Bool}{i:Nat}(h:i∉l):l.filter (fun j=> !(listed.setIfInBounds i true).getD j true)=l.filter fun j=> !listed.getD j true:=
 List.filter_congr fun j hj=>by rw[getD_set_ne true (show i≠j from fun e=>h (by rw[e];exact hj))]
theorem Tk(hN:P.funcs.size=N){ord:List Nat}(hB:Eu ops E ord=true){g0:G}{rr:Rx}(hr:RoRep g0 ro rr): ∀(m:Nat) (r:List Nat) (listed:Array Bool) (γ:Fr) (O:Sig),r.length=m->listed.size=ops.size->
  r=ord.filter (fun i=> !listed.getD i true)->Closed ops listed->MOps P ro n ops N S0 Q df E r γ O->Sub S0 O->
   ∀(g:G) (w:World) (a:Act),g0.le g->SimS P g n ⟨γ,O,df⟩ a w->wpAnyIn (FX P rr) 0 P .any ops (Post P g0 n Q) m listed a w:=by
 unfold Eu at hB
 simp only[Bool.and_eq_true]at hB
 obtain⟨⟨ag,aL⟩,_⟩:=hB
 have aa:∀(r:List Nat) (listed:Array Bool),r=ord.filter (fun i=> !listed.getD i true)->∀i∈Region.ready .any ops listed,i∈r:=by
  intro r listed hf i hi
  obtain⟨h1,o,ho,_⟩:=mem_ready.1 hi
  have:=List.all_eq_true.1 aL i (by simpa using(Array.getElem?_eq_some_iff.1 ho).1)
  rw[hf,List.mem_filter]
  exact⟨by simpa using this,by rw[h1];rfl⟩
 intro m
 induction m with
 |zero=>
  intro r listed γ O hl hsz hf ax h hC g w a hg hs
  obtain rfl:r=[]:=List.length_eq_zero_iff.1 hl
  refine⟨List.eq_nil_iff_forall_not_mem.2 fun i hi=>?_,?_⟩
  ·have:=aa [] listed hf i hi;cases this
  ·exact Post.le hg (h g w a rr (hr.mono hg) hs)
 | succ m ih =>
  intro r listed γ O hl hsz hf ax h hC g w a hg hs
  obtain⟨y,t,rfl⟩:∃y t,r=y::t:=by cases r with|nil=>cases hl|cons y t=>exact⟨y,t,rfl⟩
  refine⟨fun he=>?_,fun i hi=>?_⟩
  ·exfalso
   obtain⟨l1,l2,au,aX,hy,bf⟩:=List.filter_eq_cons_iff.1 hf.symm
   subst au
   obtain⟨h1,_,_,o,ho,aQ,_⟩:=EK l1 [] ag
   have:y∈Region.ready .any ops listed:=by
    refine mem_ready.2 ⟨by simpa using hy,o,ho,fun e hm hb=>?_⟩
    rcases aQ e hm hb with h4|h4
    ·have h5:=aX _ h4
     simp only[Bool.not_eq_true,Bool.not_eq_false']at h5
     have ah:e.on<listed.size:=by
      have:e.on∈l1++y::l2:=by simp[h4]
      obtain⟨p1,p2,hp⟩:=List.append_of_mem this
      rw[hp]at ag
      obtain⟨_,_,_,o',aj,_⟩:=EK p1 [] ag
      rw[hsz];exact(Array.getElem?_eq_some_iff.1 aj).1
     simpa[ah] using h5
    ·cases h4
   rw[he]at this;cases this
  ·obtain⟨pre,post,ap⟩:=List.append_of_mem (aa _ listed hf i hi)
   rw[ap]at hf h hl
   obtain⟨l1',l2',au,aK,bb⟩:=List.filter_eq_append_iff.1 hf.symm
   obtain⟨m1,m2,aJ,aW,bh,ba⟩:=List.filter_eq_cons_iff.1 bb
   have ai:ord=(l1'++m1)++i::m2:=by rw[au,aJ];simp
   rw[ai]at ag
   obtain⟨n1,_,n3,o,ho,aQ,hx⟩:=EK (l1'++m1) [] ag
   obtain⟨aZ,o',aj,aG⟩:=mem_ready.1 hi
   obtain rfl:o'=o:=by rw[ho]at aj;cases aj;rfl
   have aw:=GQ ho post pre γ O (fun x aN=>by
    have aS:x∈l1'++m1:=by
     have:x∈l1'.filter (fun i=> !listed.getD i true):=by rw[aK];exact aN
     simp[(List.mem_filter.1 this).1]
    have aM:listed.getD x true=false:=by
     have:x∈l1'.filter (fun i=> !listed.getD i true):=by rw[aK];exact aN
     simpa using(List.mem_filter.1 this).2
    rcases hx x aS with h4|h4
    ·exfalso
     have:=CD ax ops.size i x o' ho aG h4
     rcases Nat.lt_or_ge x listed.size with ah|ah
     ·simp[ah]at this aM;rw[aM]at this;cases this
     ·simp[Array.getElem?_eq_none ah]at this
    ·exact h4) h
   have ak:pre++post=ord.filter (fun j=> !(listed.setIfInBounds i true).getD j true):=by
    have a8:i<listed.size:=by
     rw[hsz];exact(Array.getElem?_eq_some_iff.1 ho).1
    rw[ai,List.filter_append,List.filter_cons]
    have e1:(listed.setIfInBounds i true).getD i true=true:=by simp[a8]
    rw[e1,AH n1,AH n3]
    simp only[Bool.not_true,Bool.false_eq_true,if_false,List.filter_append,aK,ba]
    rw[List.filter_eq_nil_iff.2 (fun x hx=>by simpa using aW x hx),List.append_nil]
   have hlen:(pre++post).length=m:=by simp at hl⊢; omega
   obtain⟨o2,aP,hh⟩:=aw
   obtain rfl:o2=o':=by rw[ho]at aP;cases aP;rfl
   unfold wpOpIn
   simp only[ho]
   rcases hh with⟨d,hy,hM⟩|⟨_,hE⟩
   ·exact F0 hN (hr.mono hg) hg hs hC hy fun g' w' a' aE ac=>ih _ _ _ _ hlen (by simpa using hsz) ak (ax.set hi) hM hC g' w' a' (hg.trans aE) ac
   ·exact CM (hr.mono hg) hg hs hE (fun g' w' a' d U' aE hR ac=>ih _ _ _ _ hlen (by simpa using hsz) ak (ax.set hi) hR.2 hR.1 g' w' a' (hg.trans aE) ac) fun d U' hp=>hp
theorem Dj{n:Nat}: ∀{l:List Nat},(∀i∈l,i<n)->l.filter (fun i=> !(Array.replicate n false).getD i true)=l:=by
 intro l h
 rw[List.filter_eq_self]
 intro i hi
 simp[h i hi]
theorem dwp_mix(hN:P.funcs.size=N)(hm:P.follows .mixedOrders=true){l:List Oper}{id:Nat}{γ:Fr}{O:Sig}(ord E:List Nat)(S0:Sig)(hB:Eu l.toArray E ord=true)(hC:Sub S0 O)
  (h:MOps P ro n l.toArray N S0 Q df E ord γ O):DWp P ro n (.region id l.toArray true) Q ⟨γ,O,df⟩:=by
 intro g w a r hr hs
 refine wpIn_region_any hm ?_
 have ax:Closed l.toArray (Array.replicate l.toArray.size false):=by
  intro q o _ hq
  rcases Nat.lt_or_ge q l.length with h'|h'
  ·simp[h']at hq
  ·simp[h']at hq
 have ac:SimS P g n ⟨γ,O,df⟩ a { w with drawn:=w.drawn+1 }:=
  ⟨⟨fun b o v h=>hs.sim.imm b o v h,hs.sim.keep,fun i o h=>by
   have:=hs.sim.obj i o h
   cases o<;>exact this,hs.sim.inj,hs.sim.free,hs.sim.htop,hs.sim.hdom,hs.sim.fin,hs.sim.io,hs.sim.tab⟩,hs.tmps,hs.df⟩
 have ah:∀i∈ord,i<l.toArray.size:=by
  intro i hi
  obtain⟨p1,p2,hp⟩:=List.append_of_mem hi
  have am:=hB
  unfold Eu at am
  simp only[Bool.and_eq_true]at am
  rw[hp]at am
  obtain⟨_,_,_,o',aj,_⟩:=EK p1 [] am.1.1
  exact(Array.getElem?_eq_some_iff.1 aj).1
 have hlen:ord.length=l.toArray.size:=by
  have am:=hB
  unfold Eu at am
  simp only[Bool.and_eq_true,beq_iff_eq]at am
  exact am.2
 have:=Tk hN hB hr ord.length ord (Array.replicate l.toArray.size false) γ O rfl (by simp) (Dj ah).symm ax h hC g _ a (.refl g) ac
 rw[hlen]at this
 exact this
end
theorem I0{α β:Type}{f f':α->β}: ∀{x:Option α},(∀a,x=some a->f a=f' a)->x.map f=x.map f'
 |none,_=>rfl
 |some a,h=>by rw[Option.map_some,Option.map_some,h a rfl]
theorem OZ{tab:Nat->Ty}{γ V':Fr}{O:Sig}{op:Op}(h:∀x∈op.operands,ev γ x=ev V' x):dop2 tab γ O op=dop2 tab V' O op:=by
 cases op<;>simp only[Op.operands]at h<;>simp only[dop2]
 case slice t x lo hi mx=>
  rw[h x (by simp)]
  have e1:lo.map (ev γ)=lo.map (ev V'):=I0 fun a ha=>h a (by simp[ha])
  have e2:hi.map (ev γ)=hi.map (ev V'):=I0 fun a ha=>h a (by simp[ha])
  have e3:mx.map (ev γ)=mx.map (ev V'):=I0 fun a ha=>h a (by simp[ha])
  rw[e1,e2,e3]
 case lookup t x k ok=>rw[h x (by simp),h k (by simp)]
 case typeAssert x s t ok=>rw[h x (by simp)]
 case build t parts=>
  have hp:∀p∈parts.toList,ev γ p.2=ev V' p.2:=fun p hp=>h p.2 (by simp;exact⟨p.1,by simpa using hp⟩)
  rw[show(parts.toList.map fun p=>(p.1,ev γ p.2))=parts.toList.map fun p=>(p.1,ev V' p.2) from List.map_congr_left fun p aU=>by rw[hp p aU]]
 case call c=>
  obtain⟨callee,args,ats⟩:=c
  cases callee<;>try rfl
  rename_i b
  obtain⟨args⟩:=args
  obtain⟨ats⟩:=ats
  cases b<;>try rfl
  ·simp only[Fk,GS]
   split
   ·rename_i x
    rw[h x (by simp[Call.operands])]
   ·rfl
  ·simp only[Fk]
   match args,h with
   |[a,b],h=>simp only;rw[h a (by simp[Call.operands]),h b (by simp[Call.operands])]
   |[],_=>rfl
   |[_],_=>rfl
   |_::_::_::_,_=>rfl
  ·simp only[Fk]
   match args,h with
   |[a,b],h=>simp only;rw[h a (by simp[Call.operands]),h b (by simp[Call.operands])]
   |[],_=>rfl
   |[_],_=>rfl
   |_::_::_::_,_=>rfl
theorem Bc{tab:Nat->Ty}{γ V':Fr}{O:Sig}{op:Op}(h:∀x∈op.operands,ev γ x=ev V' x):dopX tab γ O op=dopX tab V' O op:=by
 unfold dopX
 rw[LU h,OZ h]
def CY:Op->Bool
 |.call { callee:=.builtin .len,.. }|.call { callee:=.builtin .max,.. }|.call { callee:=.builtin .min,.. }=>true
 |.move _|.assign _|.pick .. |.box .. |.load .. |.nilCheck _|.binOp .. |.unOp .. |.convert .. |.makeInterface .. |.makeFunc .. |.fieldAddr .. |.field .. |.indexAddr .. |.index .. |.extract .. |.buildSlice .. =>true
 |.slice .. |.lookup .. |.typeAssert .. |.build .. =>true
 |_=>false
section
variable (P:Program)(ro:Ro)(n:Nat)(ops:Array Oper)(N:Nat)(S0:Sig)(Q:DX->St->Prop)(df:List DDf)
def MO:List (Bool×Oper)->Fr->Sig->Prop
 |[],γ,O=>DOps P ro n ops Q [] ⟨γ,O,df⟩
 |(e,o)::r,γ,O=>
  (∃d,Calm P n ops N S0 γ o d/\MO r (putD o.dst d γ) O) \/
  (e=true/\Eff P ro n ops df γ O o (fun d U'=>Sub S0 U'/\MO r (putD o.dst d γ) U') (fun d U'=> ∀V',Q (.panic d) ⟨V',U',df⟩))
end
def pick(ops:Array Oper)(E ord:List Nat):List (Bool×Oper):=ord.filterMap fun i=>(ops[i]?).map fun o=>(E.contains i,o)
section
variable {P:Program}{ro:Ro}{n:Nat}{ops:Array Oper}{N:Nat}{S0:Sig}{Q:DX->St->Prop}{df:List DDf}{E:List Nat}
theorem Fb: ∀{ord:List Nat}{γ:Fr}{O:Sig},(∀i∈ord,i<ops.size)->MO P ro n ops N S0 Q df (pick ops E ord) γ O->MOps P ro n ops N S0 Q df E ord γ O
 |[],_,_,_,h=>h
 | i::r,γ,O,ah,h=>by
  have hi:ops[i]? = some ops[i]! :=by
   have:=ah i (by simp)
   simp[this]
  have hp:pick ops E (i::r)=(E.contains i,ops[i]!)::pick ops E r:=by
   unfold pick
   rw[List.filterMap_cons,hi]
   rfl
  rw[hp]at h
  have aD:∀j∈r,j<ops.size:=fun j hj=>ah j (by simp[hj])
  refine⟨_,hi,?_⟩
  rcases h with⟨d,h2,h3⟩|⟨h1,h2⟩
  ·exact .inl ⟨d,h2,Fb aD h3⟩
  ·exact .inr ⟨h1,h2.congr (fun _ _=>rfl) fun d U' ⟨h3,h4⟩=>⟨h3,Fb aD h4⟩⟩
theorem PZ{ord:List Nat}(hB:Eu ops E ord=true): ∀i∈ord,i<ops.size:=by
 intro i hi
 obtain⟨p1,p2,hp⟩:=List.append_of_mem hi
 unfold Eu at hB
 simp only[Bool.and_eq_true]at hB
 rw[hp]at hB
 obtain⟨_,_,_,o',aj,_⟩:=EK p1 [] hB.1.1
 exact(Array.getElem?_eq_some_iff.1 aj).1
theorem Ue(hN:P.funcs.size=N)(hm:P.follows .mixedOrders=true){l:List Oper}{id:Nat}{γ:Fr}{O:Sig}(ord E:List Nat)(S0:Sig)(hB:Eu l.toArray E ord=true)(hC:Sub S0 O)
  {lp:List (Bool×Oper)} (hl:pick l.toArray E ord=lp) (h:MO P ro n l.toArray N S0 Q df lp γ O):DWp P ro n (.region id l.toArray true) Q ⟨γ,O,df⟩:=
 dwp_mix hN hm ord E S0 hB hC (Fb (PZ hB) (by rw[hl];exact h))
theorem PQ{γ:Fr}{O:Sig}(h:Q .normal ⟨γ,O,df⟩):MO P ro n ops N S0 Q df [] γ O:=Au h
theorem mo_eff{l:List (Bool×Oper)}{γ Sr:Fr}{O:Sig}{o:Oper}(ho:Ar n o=true)(hZ:only (o.looksAt ops) γ=Sr)(hw:Ay ops Sr o=some true)
  (h:DOps P ro n ops (EQ df o.dst (fun d U'=>Sub S0 U'/\MO P ro n ops N S0 Q df l (putD o.dst d γ) U') (fun d U'=> ∀V',Q (.panic d) ⟨V',U',df⟩)) [o] ⟨Sr,O,df⟩):MO P ro n ops N S0 Q df ((true,o)::l) γ O:=by
 subst hZ
 exact .inr ⟨rfl,ho,hw,h⟩
theorem mo_skip{e:Bool}{l:List (Bool×Oper)}{γ:Fr}{O:Sig}{o:Oper}(hw:Ay ops γ o=some false)(ho:Ar n o=true)(hs:DO N o.op=true)
  (h:MO P ro n ops N S0 Q df l (putD o.dst (.tup []) γ) O):MO P ro n ops N S0 Q df ((e,o)::l) γ O:=
 .inl ⟨.tup [],⟨ho,.inr (.inl ⟨by rw[Ag];exact hw,hs,.inr rfl⟩)⟩,h⟩
theorem Kj{e:Bool}{l:List (Bool×Oper)}{γ Sr:Fr}{O:Sig}{o:Oper}(d:D)(ho:Ar n o=true)(hZ:only (o.looksAt ops) γ=Sr)(hw:Ay ops Sr o=some true)
  (hq:∀U',Sub S0 U'->∀ro df,DOps P ro n ops (EQ df o.dst (fun d' S''=>d'=d/\Sub U' S'') fun _ _=>False) [o] ⟨Sr,U',df⟩)
  (h:MO P ro n ops N S0 Q df l (putD o.dst d γ) O):MO P ro n ops N S0 Q df ((e,o)::l) γ O:=by
 subst hZ
 exact .inl ⟨d,⟨ho,.inr (.inr ⟨hw,hq⟩)⟩,h⟩
end
def A5:List Operand->List Nat
 |[]=>[]
 |.tmp t::r=>t::A5 r
 |_::r=>A5 r
def A0(γ:Fr):List Nat->Option Fr
 |[]=>some []
 | t::ts=>match γ.lookup t with
  |some d=>match A0 γ ts with
   |some r=>some ((t,d)::r)
   |none=>none
  |none=>none
theorem As{γ:Fr}: ∀{l:List Nat}{Sr:Fr},A0 γ l=some Sr->∀t∈l,getD Sr t=getD γ t
 |[],_,_,_,h=>by cases h
 | a::l,Sr,e,t,h=>by
  simp only[A0]at e
  split at e<;>(try (cases e;done))
  rename_i d hd
  split at e<;>(try (cases e;done))
  rename_i r hr
  cases e
  rw[A3]
  by_cases ht:t=a
  ·subst ht;rw[if_pos rfl];simp[getD,hd]
  ·rw[if_neg ht]
   exact As hr t (by simpa[ht] using h)
theorem Ax{t:Nat}: ∀{l:List Operand},Operand.tmp t∈l->t∈A5 l
 | x::l,h=>by
  rcases List.mem_cons.1 h with rfl|h
  ·simp[A5]
  ·have:=Ax h
   cases x<;>simp[A5,this]
theorem C4{γ Sr:Fr}{op:Op}(h:A0 γ (A5 op.operands.toList)=some Sr): ∀x∈op.operands,ev Sr x=ev γ x:=
 fun x hx=>B4 fun t ht=>As h t (Ax (by rw[<-ht];simpa using hx))
theorem BJ{γ Sr:Fr}{x:Operand}(h:A0 γ (A5 [x])=some Sr):ev Sr x=ev γ x:=
 B4 fun t ht=>As h t (Ax (by simp[ht]))
theorem Bn{tab:Nat->Ty}{γ V':Fr}{O:Sig}{op:Op}(h:∀x∈op.operands,ev γ x=ev V' x):eopD tab γ O op=eopD tab V' O op:=by
 cases op<;>simp only[Op.operands]at h<;>simp only[eopD]
 case store T a v=>rw[h a (by simp),h v (by simp)]
 case mapUpdate T a k v=>rw[h a (by simp),h k (by simp),h v (by simp)]
 case insert T a k v=>rw[h a (by simp),h k (by simp),h v (by simp)]
 case call c=>
  obtain⟨callee,args,ats⟩:=c
  cases callee<;>try rfl
  rename_i b
  obtain⟨args⟩:=args
  obtain⟨ats⟩:=ats
  cases b<;>try rfl
  simp only[bapD]
  match args,h with
  |[a,b],h=>simp only;rw[h a (by simp[Call.operands]),h b (by simp[Call.operands])]
  |[],_=>rfl
  |[_],_=>rfl
  |_::_::_::_,_=>rfl
theorem At{γ:Fr}{k:Nat}{d:D}(h:γ.lookup k=some d):getD γ k=d:=by simp[getD,h]
@[simp] def D.plain:D->D
 |.slice es _=>.slice es .no
 |.nils=>.slice [] .no
 |d=>d
theorem P9(d:D):WkD d d.plain:=by
 cases d<;>first|exact A8 _|exact Bm _ _|exact Ao _ (.inl rfl)
theorem Cl: ∀l:List D,WkL l (l.map D.plain)
 |[]=>trivial
 |d::l=>⟨P9 d,Cl l⟩
theorem N2{a b:D}{l m:List D}(h:WkD a b)(k:WkL l m):WkL (a::l) (b::m):=⟨h,k⟩
theorem Ck: ∀l:List D,WkL l l
 |[]=>trivial
 |a::l=>⟨A8 a,Ck l⟩
section
variable {P:Program}{ro:Ro}{n:Nat}{ops:Array Oper}{Q:DX->St->Prop}{df:List DDf}{rest:List Oper}{γ Sr:List (Nat×D)}{O U':Sig}{t:Nat}{op:Op}{ty:TypeId}{pos:String}{after:Array Edge}{guard:Option (Nat×Bool)}{d:D}
theorem C8{op:Op}(h:CY op=true): ∀c,op≠.defer c:=fun c e=>by subst e;cases h
theorem Gy{tab:Nat->Ty}(ht:AZ P tab){o:Oper}(hr:CY o.op=true)(hw:Ay ops γ o=some true)(hd:dopX tab γ O o.op=some d)(ho:Ar n o=true)
  (h:DOps P ro n ops Q rest ⟨putD o.dst d γ,O,df⟩):DOps P ro n ops Q (o::rest) ⟨γ,O,df⟩:=
 Hu hw (C8 hr) (IL ht hd) (fun g w a hs hT=>EY ht hs hT hd) ho h
theorem Cf{j k:Nat}{b:Bool}(hk:(ops[j]?).bind (·.dst)=some k)(hb:γ.lookup k=some (.bool b)):CJ ops γ j=some b:=by
 unfold CJ
 rw[hk]
 simp only[Option.bind_some,At hb]
theorem FV{tab:Nat->Ty}(ht:AZ P tab)(hr:CY op=true)(ae:decide (t<n)=true)(hl:A0 γ (A5 op.operands.toList)=some Sr)(hd:dopX tab Sr O op=some d)
  (h:DOps P ro n ops Q rest ⟨(t,d)::γ,O,df⟩):DOps P ro n ops Q (⟨some t,op,ty,pos,after,none⟩::rest) ⟨γ,O,df⟩:=
 Gy ht hr rfl ((Bc (C4 hl)) ▸ hd) ae h
theorem GI{tab:Nat->Ty}(ht:AZ P tab){j:Nat}{want:Bool}(hr:CY op=true)(ae:decide (t<n)=true){k:Nat}(hk:(ops[j]?).bind (·.dst)=some k)(hb:γ.lookup k=some (.bool want))(hl:A0 γ (A5 op.operands.toList)=some Sr)(hd:dopX tab Sr O op=some d)
  (h:DOps P ro n ops Q rest ⟨(t,d)::γ,O,df⟩):DOps P ro n ops Q (⟨some t,op,ty,pos,after,some (j,want)⟩::rest) ⟨γ,O,df⟩:=
 Gy ht hr (by simp only[Ay,Cf hk hb];simp) ((Bc (C4 hl)) ▸ hd) ae h
theorem wantU{j k:Nat}{o:Oper}{want:Bool}(hk:(ops[j]?).bind (·.dst)=some k)(hb:γ.lookup k=some (.tup []))(hg:o.guard=some (j,want):=by rfl):Ay ops γ o=some false:=by
 unfold Ay
 rw[hg]
 have h1:CJ ops γ j=none:=by unfold CJ;rw[hk];simp only[Option.bind_some,At hb]
 have h2:HE ops γ j=true:=by unfold HE;rw[hk];simp only[At hb]
 simp only[h1,h2,if_true]
theorem HM{N:Nat}(hN:P.funcs.size=N){j:Nat}{want:Bool}{k:Nat}(hk:(ops[j]?).bind (·.dst)=some k)(hb:γ.lookup k=some (.bool (!want)))(hs:DO N op=true)(ae:decide (t<n)=true)
  (h:DOps P ro n ops Q rest ⟨(t,.tup [])::γ,O,df⟩):DOps P ro n ops Q (⟨some t,op,ty,pos,after,some (j,want)⟩::rest) ⟨γ,O,df⟩:=by
 intro g w a r hr ac
 have aH:Ay ops γ ⟨some t,op,ty,pos,after,some (j,want)⟩=some false:=by simp only[Ay,Cf hk hb];simp
 unfold wpListIn
 rw[AL ac.tmps aH,if_neg (by simp)]
 refine⟨fun f hf=>Fq (H8 (by rw[hN];exact hs) w _ f hf (fun _=>rfl)) _,?_⟩
 have h0:Rep g (.tup []) undef:=⟨[],rfl,rfl⟩
 exact h g w _ r hr (ac.put (o:=⟨some t,op,ty,pos,after,some (j,want)⟩) (.refl g) ac.sim h0 ae)
theorem GH{N:Nat}(hN:P.funcs.size=N){j:Nat}{want:Bool}{k:Nat}(hk:(ops[j]?).bind (·.dst)=some k)(hb:γ.lookup k=some (.tup []))(hs:DO N op=true)(ae:decide (t<n)=true)
  (h:DOps P ro n ops Q rest ⟨(t,.tup [])::γ,O,df⟩):DOps P ro n ops Q (⟨some t,op,ty,pos,after,some (j,want)⟩::rest) ⟨γ,O,df⟩:=by
 intro g w a r hr ac
 have aH:Ay ops γ ⟨some t,op,ty,pos,after,some (j,want)⟩=some false:=by exact wantU hk hb
 unfold wpListIn
 rw[AL ac.tmps aH,if_neg (by simp)]
 refine⟨fun f hf=>Fq (H8 (by rw[hN];exact hs) w _ f hf (fun _=>rfl)) _,?_⟩
 have h0:Rep g (.tup []) undef:=⟨[],rfl,rfl⟩
 exact h g w _ r hr (ac.put (o:=⟨some t,op,ty,pos,after,some (j,want)⟩) (.refl g) ac.sim h0 ae)
theorem By{t:Nat}{d:D}(h:WkD (getD γ t) d):Wk P n ⟨γ,O,df⟩ ⟨(t,d)::γ,O,df⟩:=
 fun g w a hs=>⟨g,.refl g,⟨hs.sim,⟨hs.tmps.1,fun k=>by
  rw[A3]
  by_cases hk:k=t
  ·subst hk;rw[if_pos rfl];exact h g _ (hs.tmps.2 k)
  ·rw[if_neg hk];exact hs.tmps.2 k⟩,hs.df⟩⟩
theorem O6{dst:Option Tmp}{j:Nat}{want b:Bool}{k:Nat}(hk:(ops[j]?).bind (·.dst)=some k)(hb:γ.lookup k=some (.bool b))
  (h1:b=true->DOps P ro n ops Q (⟨dst,op,ty,pos,after,some (j,want)⟩::rest) ⟨(k,.bool true)::γ,O,df⟩) (h2:b=false->DOps P ro n ops Q (⟨dst,op,ty,pos,after,some (j,want)⟩::rest) ⟨(k,.bool false)::γ,O,df⟩):DOps P ro n ops Q (⟨dst,op,ty,pos,after,some (j,want)⟩::rest) ⟨γ,O,df⟩:=by
 cases b with
 |true=>exact BH (By (by rw[At hb];exact A8 _)) (h1 rfl)
 |false=>exact BH (By (by rw[At hb];exact A8 _)) (h2 rfl)
theorem K4{tab:Nat->Ty}(ht:AZ P tab)(hl:A0 γ (A5 op.operands.toList)=some Sr)(he:eopD tab Sr O op=some (d,U'))(ae:decide (t<n)=true)
  (h:DOps P ro n ops Q rest ⟨(t,d)::γ,U',df⟩):DOps P ro n ops Q (⟨some t,op,ty,pos,after,none⟩::rest) ⟨γ,O,df⟩:=
 Fh (o:=⟨some t,op,ty,pos,after,none⟩) ht rfl ((Bn (C4 hl)) ▸ he) ae h
theorem DN{tab:Nat->Ty}(ht:AZ P tab)(hl:A0 γ (A5 op.operands.toList)=some Sr)(he:eopD tab Sr O op=some (d,U'))
  (h:DOps P ro n ops Q rest ⟨γ,U',df⟩):DOps P ro n ops Q (⟨none,op,ty,pos,after,none⟩::rest) ⟨γ,O,df⟩:=
 Fh (o:=⟨none,op,ty,pos,after,none⟩) ht rfl ((Bn (C4 hl)) ▸ he) rfl h
theorem T0{tab:Nat->Ty}(ht:AZ P tab)(vars:List Nat){T T' ty':Nat}{x:Operand}{pos':String}{after':Array Edge}{cs:List D}(hv:vars.contains t=false)(hT:T'=T)(ae:decide (t<n)=true)(hx:Et t x=true)(ho:A1 (tab T).k=false)
  (hl:A0 γ (A5 [x])=some Sr) (he:ev Sr x=d) (ay:d.told=true) (hc:d.cells=cs) (hlen:cs.length=(tab T).size) (aF:Bw cs=true)
  (h:DOps P ro n ops Q rest ⟨(t,.cptr cs 0)::γ,O,df⟩) :
  DOps P ro n ops Q (⟨some t,.alloc T,ty,pos,after,none⟩::⟨none,.store T' (.tmp t) x,ty',pos',after',none⟩::rest) ⟨γ,O,df⟩:=by
 rw[BJ hl]at he
 subst he;subst hT;subst hc
 exact MP ht ho (by simpa using ae) (G5 ht hx) ay hlen aF h
theorem Gw{id:Nat}{l:List Oper}(h:DOps P ro n l.toArray Q l ⟨γ,O,df⟩):DWp P ro n (.region id l.toArray false) Q ⟨γ,O,df⟩:=OP h
theorem KP{c:Operand}{x y:Code}{b:Bool}{Sr:Fr}(hl:A0 γ (A5 [c])=some Sr)(hc:ev Sr c=.bool b)(ht:b=true->DWp P ro n x Q ⟨γ,O,df⟩)(hf:b=false->DWp P ro n y Q ⟨γ,O,df⟩):
  DWp P ro n (.cond c x y) Q ⟨γ,O,df⟩:=NM (s:=⟨γ,O,df⟩) (by rw[<-BJ hl];exact hc) ht hf
theorem GK{c:Operand}{x y:Code}{Sr:Fr}(hl:A0 γ (A5 [c])=some Sr)(hc:ev Sr c=.bool true)(h:DWp P ro n x Q ⟨γ,O,df⟩):
  DWp P ro n (.cond c x y) Q ⟨γ,O,df⟩:=KP hl hc (fun _=>h) (fun e=>by cases e)
theorem GL{c:Operand}{x y:Code}{Sr:Fr}(hl:A0 γ (A5 [c])=some Sr)(hc:ev Sr c=.bool false)(h:DWp P ro n y Q ⟨γ,O,df⟩):
  DWp P ro n (.cond c x y) Q ⟨γ,O,df⟩:=KP hl hc (fun e=>by cases e) (fun _=>h)
theorem FW{fop:Operand}{args:Array Operand}{ats:Array TypeId}{f:Nat}{first cap us bs:List D}{R:DE->Sig->Prop}{dst:Option Tmp}
  (hl:A0 γ (A5 (fop::args.toList))=some Sr) (hf:ev Sr fop=.func (.func f) first cap) (ha:first++args.toList.map (ev Sr)++cap=us) (hw:bs=us\/bs=us.map D.plain) (h:DCall P f bs O R)
  (ho:Ar n ⟨dst,(cv fop args ats),ty,pos,after,none⟩=true)
  (aq:∀d U',R (.ret d) U'->DOps P ro n ops Q rest ⟨putD dst d γ,U',df⟩)
  (ar:∀d U',R (.panic d) U'->Q (.panic d) ⟨γ,U',df⟩) :
  DOps P ro n ops Q (⟨dst,(cv fop args ats),ty,pos,after,none⟩::rest) ⟨γ,O,df⟩:=by
 have hx:∀x∈fop::args.toList,ev Sr x=ev γ x:=fun x hx=>B4 fun t ht=>As hl t (Ax (by rw[<-ht];exact hx))
 refine D9 (az:=bs) rfl (by rw[<-hx fop (by simp)];exact hf) h ?_ ho aq ar
 rw[show args.toList.map (ev γ)=args.toList.map (ev Sr) from List.map_congr_left fun x h=>(hx x (by simp[h])).symm,ha]
 rcases hw with rfl|rfl
 ·exact Ck _
 ·exact Cl _
theorem J7{fop:Operand}{args:Array Operand}{ats:Array TypeId}{f:Nat}{first cap us bs:List D}{d:D}
  (hl:A0 γ (A5 (fop::args.toList))=some Sr) (hf:ev Sr fop=.func (.func f) first cap) (ha:first++args.toList.map (ev Sr)++cap=us) (hw:bs=us\/bs=us.map D.plain) (h:DCall P f bs O (rS d O))
  (ae:decide (t<n)=true) (k:DOps P ro n ops Q rest ⟨(t,d)::γ,O,df⟩) :
  DOps P ro n ops Q (⟨some t,(cv fop args ats),ty,pos,after,none⟩::rest) ⟨γ,O,df⟩:=
 FW hl hf ha hw h ae (fun d' U' ⟨e1,e2⟩=>by cases e1;subst e2;exact k) (fun d' U' ⟨e1,e2⟩=>by cases e1)
theorem O7{fop:Operand}{args:Array Operand}{ats:Array TypeId}{f:Nat}{first cap us bs:List D}{R:DE->Sig->Prop}{dst:Option Tmp}{j:Nat}{want:Bool}{k:Nat}(hk:(ops[j]?).bind (·.dst)=some k)(hb:γ.lookup k=some (.bool want))
  (hl:A0 γ (A5 (fop::args.toList))=some Sr) (hf:ev Sr fop=.func (.func f) first cap) (ha:first++args.toList.map (ev Sr)++cap=us) (hw:bs=us\/bs=us.map D.plain) (h:DCall P f bs O R)
  (ho:Ar n ⟨dst,(cv fop args ats),ty,pos,after,some (j,want)⟩=true)
  (aq:∀d U',R (.ret d) U'->DOps P ro n ops Q rest ⟨putD dst d γ,U',df⟩)
  (ar:∀d U',R (.panic d) U'->Q (.panic d) ⟨γ,U',df⟩) :
  DOps P ro n ops Q (⟨dst,(cv fop args ats),ty,pos,after,some (j,want)⟩::rest) ⟨γ,O,df⟩:=by
 have hx:∀x∈fop::args.toList,ev Sr x=ev γ x:=fun x hx=>B4 fun t ht=>As hl t (Ax (by rw[<-ht];exact hx))
 refine D9 (az:=bs) (by simp only[Ay,Cf hk hb];simp) (by rw[<-hx fop (by simp)];exact hf) h ?_ ho aq ar
 rw[show args.toList.map (ev γ)=args.toList.map (ev Sr) from List.map_congr_left fun x h=>(hx x (by simp[h])).symm,ha]
 rcases hw with rfl|rfl
 ·exact Ck _
 ·exact Cl _
theorem HO{fop:Operand}{args:Array Operand}{ats:Array TypeId}{f:Nat}{first cap us bs:List D}{d:D}{j:Nat}{want:Bool}{k:Nat}(hk:(ops[j]?).bind (·.dst)=some k)(hb:γ.lookup k=some (.bool want))
  (hl:A0 γ (A5 (fop::args.toList))=some Sr) (hf:ev Sr fop=.func (.func f) first cap) (ha:first++args.toList.map (ev Sr)++cap=us) (hw:bs=us\/bs=us.map D.plain) (h:DCall P f bs O (rS d O))
  (ae:decide (t<n)=true) (kk:DOps P ro n ops Q rest ⟨(t,d)::γ,O,df⟩) :
  DOps P ro n ops Q (⟨some t,(cv fop args ats),ty,pos,after,some (j,want)⟩::rest) ⟨γ,O,df⟩:=
 O7 hk hb hl hf ha hw h ae (fun d' U' ⟨e1,e2⟩=>by cases e1;subst e2;exact kk) (fun d' U' ⟨e1,e2⟩=>by cases e1)
end
@[simp] theorem nat_eq_int(a b:Nat):((a:Int)=(b:Int))=(a=b):=propext Int.ofNat_inj
@[simp] theorem PG(a:Nat):((a+1:Nat):Int)=(a:Int)+1:=rfl
def Dg(γ:Fr):List Nat->Option Fr
 |[]=>some []
 | t::ts=>match γ.lookup t with
  |some d=>match Dg γ ts with
   |some r=>some ((t,d)::r)
   |none=>none
  |none=>Dg γ ts
def TellsR(γ:Fr):Fr->Prop
 |[]=>True
 |p::r=>WkD (getD γ p.1) p.2/\TellsR γ r
theorem TellsR.get{γ:Fr}: ∀{V':Fr},TellsR γ V'->∀t,WkD (getD γ t) (getD V' t)
 |[],_,t=>E8 _
 |p::r,h,t=>by
  rw[show p::r=(p.1,p.2)::r from rfl,A3]
  by_cases ht:t=p.1
  ·rw[if_pos ht,ht];exact h.1
  ·rw[if_neg ht];exact TellsR.get h.2 t
theorem FR{γ:Fr}:TellsR γ []:=trivial
theorem F6{γ r:Fr}{t:Nat}{d d':D}(hl:γ.lookup t=some d')(h:WkD d' d)(k:TellsR γ r):TellsR γ ((t,d)::r):=⟨by rw[At hl];exact h,k⟩
theorem FT{γ a b:Fr}(h:TellsR γ a)(k:TellsR γ b):TellsR γ (a++b):=by
 induction a with
 |nil=>exact k
 |cons p a ih=>exact⟨h.1,ih h.2⟩
theorem JU{P:Program}{n:Nat}{γ V':Fr}{O U':Sig}{df:List DDf}(h:TellsR γ V')(hU:Sub U' O):Wk P n ⟨γ,O,df⟩ ⟨V',U',df⟩:=
 fun g w a hs=>⟨g,.refl g,⟨hs.sim.sub hU,⟨hs.tmps.1,fun t=>h.get t g _ (hs.tmps.2 t)⟩,hs.df⟩⟩
theorem Db{O U':Sig}(h:U'=O):Sub U' O:=h ▸ Sub.refl _
theorem EX{P:Program}{ro:Ro}{n:Nat}{Q:DX->St->Prop}{df:List DDf}{γ Sk:Fr}{O:Sig}{α:Type}{c:Code}(keep:List Nat)(I:α->Prop)(ov:α->Fr)(sg:α->Sig)(μ:α->Nat)(x0:α)(hk:Dg γ keep=some Sk)(h0:I x0)(h1:TellsR γ (ov x0++Sk))(h2:Sub (sg x0) O)
  (round:∀x,I x->DWp P ro n c (Then (fun s'=> ∃x',I x'/\μ x'<μ x/\Wk P n s' ⟨ov x'++Sk,sg x',df⟩) Q) ⟨ov x++Sk,sg x,df⟩):DWp P ro n (.loop c) Q ⟨γ,O,df⟩:=by
 refine NL (fun x:{x // I x}=>⟨ov x.1++Sk,sg x.1,df⟩) (fun x=>μ x.1) ⟨x0,h0⟩ (JU h1 h2) fun x=>Fg (round x.1 x.2) ?_
 intro e s h
 cases e with
 |normal=>obtain⟨x',h3,h4,h5⟩:=h;exact⟨⟨x',h3⟩,h4,h5⟩
 |_=>exact h
theorem OR{P:Program}{ro:Ro}{n:Nat}{Q:DX->St->Prop}{df:List DDf}{γ Sk:Fr}{O:Sig}{α β:Type}{c:Code}(keep:List Nat)(I:α->β->Prop)(ov:α->β->Fr)(sg:α->β->Sig)(μ:α->β->Nat)(x0:α)(y0:β)(hk:Dg γ keep=some Sk)(h0:I x0 y0)(h1:TellsR γ (ov x0 y0++Sk))(h2:Sub (sg x0 y0) O)
  (round:∀x y,I x y->DWp P ro n c (Then (fun s'=> ∃x' y',I x' y'/\μ x' y'<μ x y/\Wk P n s' ⟨ov x' y'++Sk,sg x' y',df⟩) Q) ⟨ov x y++Sk,sg x y,df⟩):DWp P ro n (.loop c) Q ⟨γ,O,df⟩:=by
 refine EX (α:=α×β) keep (fun x=>I x.1 x.2) (fun x=>ov x.1 x.2) (fun x=>sg x.1 x.2) (fun x=>μ x.1 x.2) (x0,y0) hk h0 h1 h2 fun x hx=>Fg (round x.1 x.2 hx) ?_
 intro e s h
 cases e with
 |normal=>obtain⟨x',y',h3,h4,h5⟩:=h;exact⟨(x',y'),h3,h4,h5⟩
 |_=>exact h
theorem OQ{P:Program}{ro:Ro}{n:Nat}{Q:DX->St->Prop}{df:List DDf}{γ Sk:Fr}{O:Sig}{α β δ:Type}{c:Code}(keep:List Nat)(I:α->β->δ->Prop)(ov:α->β->δ->Fr)(sg:α->β->δ->Sig)(μ:α->β->δ->Nat)(x0:α)(y0:β)(z0:δ)(hk:Dg γ keep=some Sk)(h0:I x0 y0 z0)(h1:TellsR γ (ov x0 y0 z0++Sk))(h2:Sub (sg x0 y0 z0) O)
  (round:∀x y z,I x y z->DWp P ro n c (Then (fun s'=> ∃x' y' z',I x' y' z'/\μ x' y' z'<μ x y z/\Wk P n s' ⟨ov x' y' z'++Sk,sg x' y' z',df⟩) Q) ⟨ov x y z++Sk,sg x y z,df⟩):DWp P ro n (.loop c) Q ⟨γ,O,df⟩:=by
 refine EX (α:=α×β×δ) keep (fun x=>I x.1 x.2.1 x.2.2) (fun x=>ov x.1 x.2.1 x.2.2) (fun x=>sg x.1 x.2.1 x.2.2) (fun x=>μ x.1 x.2.1 x.2.2) (x0,y0,z0) hk h0 h1 h2 fun x hx=>Fg (round x.1 x.2.1 x.2.2 hx) ?_
 intro e s h
 cases e with
 |normal=>obtain⟨x',y',z',h3,h4,h5⟩:=h;exact⟨(x',y',z'),h3,h4,h5⟩
 |_=>exact h
section
variable (tab:Nat->Ty)(γ:List (Nat×D))(O:Sig)(T T' m f:Nat)(x y z:Operand)(c:Bool)
@[simp] theorem dopX_move:dopX tab γ O (.move x)=some (ev γ x):=rfl
@[simp] theorem dopX_assign:dopX tab γ O (.assign x)=some (ev γ x):=rfl
@[simp] theorem dopX_pick:dopX tab γ O (.pick x y z)=Mr (ev γ x) (ev γ y) (ev γ z):=by unfold dopX;simp only[dop,dop2];cases Mr (ev γ x) (ev γ y) (ev γ z)<;>rfl
@[simp] theorem dopX_box:dopX tab γ O (.box T x)=boxD (ev γ x):=by unfold dopX;simp only[dop,dop2];cases boxD (ev γ x)<;>rfl
@[simp] theorem dopX_load:dopX tab γ O (.load T x)=IQ (tab T) O (ev γ x):=by unfold dopX;simp only[dop,dop2];cases IQ (tab T) O (ev γ x)<;>rfl
@[simp] theorem dopX_nil:dopX tab γ O (.nilCheck x)=nilD (ev γ x):=by unfold dopX;simp only[dop,dop2];cases nilD (ev γ x)<;>rfl
@[simp] theorem dopX_bin(o:BinOp):dopX tab γ O (.binOp o T x y T')=binD o (ev γ x) (ev γ y):=by unfold dopX;simp only[dop,dop2];cases binD o (ev γ x) (ev γ y)<;>rfl
@[simp] theorem dopX_un(o:UnOp):dopX tab γ O (.unOp o T x)=unD o (ev γ x):=by unfold dopX;simp only[dop,dop2];cases unD o (ev γ x)<;>rfl
@[simp] theorem dopX_conv:dopX tab γ O (.convert T T' x)=Sw (A1 (tab T).k) (tab T').k (ev γ x):=by unfold dopX;simp only[dop,dop2];cases Sw (A1 (tab T).k) (tab T').k (ev γ x)<;>rfl
@[simp] theorem dopX_mkif:dopX tab γ O (.makeInterface T x)=PY (tab T) T (ev γ x):=by unfold dopX;simp only[dop,dop2];cases PY (tab T) T (ev γ x)<;>rfl
@[simp] theorem dopX_mkfn(fn:Fn)(a b:Array Operand):dopX tab γ O (.makeFunc fn a b)=some (.func fn (a.toList.map (ev γ)) (b.toList.map (ev γ))):=rfl
@[simp] theorem dopX_fa:dopX tab γ O (.fieldAddr T x f)=D8 tab f (ev γ x) (tab T).k:=by unfold dopX;simp only[dop,dop2];cases D8 tab f (ev γ x) (tab T).k<;>rfl
@[simp] theorem dopX_fi:dopX tab γ O (.field T x f)=Lj tab f (tab T).k (ev γ x):=by unfold dopX;simp only[dop,dop2];cases Lj tab f (tab T).k (ev γ x)<;>rfl
@[simp] theorem dopX_ia:dopX tab γ O (.indexAddr T x y)=Ci tab (tab T).k (ev γ x) (ev γ y):=by unfold dopX;simp only[dop,dop2];cases Ci tab (tab T).k (ev γ x) (ev γ y)<;>rfl
@[simp] theorem dopX_ix:dopX tab γ O (.index T x y)=Lf (tab T).k (ev γ x) (ev γ y):=by unfold dopX;simp only[dop,dop2];cases Lf (tab T).k (ev γ x) (ev γ y)<;>rfl
@[simp] theorem dopX_ex:dopX tab γ O (.extract x f)=Gt f (ev γ x):=by unfold dopX;simp only[dop,dop2];cases Gt f (ev γ x)<;>rfl
@[simp] theorem dopX_bs(ps:Array (Nat×Operand)):dopX tab γ O (.buildSlice T m ps)=H4 tab γ m ps.toList (tab T).k:=by unfold dopX;simp only[dop,dop2];cases H4 tab γ m ps.toList (tab T).k<;>rfl
@[simp] theorem dopX_sl(a b d:Option Operand):dopX tab γ O (.slice T x a b d)=HP tab (tab T).k (ev γ x) (a.map (ev γ)) (b.map (ev γ)) (d.map (ev γ)):=rfl
@[simp] theorem dopX_lk:dopX tab γ O (.lookup T x y c)=FI tab O c (tab T).k (ev γ x) (ev γ y):=rfl
@[simp] theorem dopX_ta:dopX tab γ O (.typeAssert x T T' c)=IJ tab T' c (ev γ x):=rfl
@[simp] theorem dopX_bd(ps:Array (Nat×Operand)):dopX tab γ O (.build T ps)=M6 tab T (ps.toList.map fun p=>(p.1,ev γ p.2)) (tab T).k:=rfl
@[simp] theorem dopX_len (xs:Array Operand) (ts:Array TypeId):dopX tab γ O (.call { callee := .builtin .len,args:=xs,argTypes:=ts })=match lenC tab γ ts.toList xs.toList with
  |some d=>some d
  |none=>GS tab γ O ts.toList xs.toList:=rfl
@[simp] theorem dopX_max(ts:Array TypeId):dopX tab γ O (.call { callee:=.builtin .max,args:= #[x,y],argTypes:=ts })=L4 true (ev γ x) (ev γ y):=rfl
@[simp] theorem dopX_min(ts:Array TypeId):dopX tab γ O (.call { callee:=.builtin .min,args:= #[x,y],argTypes:=ts })=L4 false (ev γ x) (ev γ y):=rfl
@[simp] theorem eopD_store:eopD tab γ O (.store T x y)=DM tab O T (ev γ x) (ev γ y):=rfl
@[simp] theorem eopD_upd:eopD tab γ O (.mapUpdate T x y z)=updD tab O (tab T).k (ev γ x) (ev γ y) (ev γ z):=rfl
@[simp] theorem eopD_ins:eopD tab γ O (.insert T x y z)=updD tab O (tab T).k (ev γ x) (ev γ y) (ev γ z):=rfl
@[simp] theorem eopD_app(ts:Array TypeId):eopD tab γ O (.call { callee:=.builtin .append,args:= #[x,y],argTypes:=ts })=appD tab O ts.toList (ev γ x) (ev γ y):=rfl
end
end Go.DL
