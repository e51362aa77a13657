/- A part of the proof. -/
import Derived.Test.YteldimffglchkaaGreatDoorR04
set_option linter.all false
namespace Go.DL
open Go
def only(L:List Nat)(γ:Fr):Fr:=L.map fun t=>(t,getD γ t)
theorem H9(γ:Fr)(t:Nat): ∀L:List Nat,getD (only L γ) t=if t∈L then getD γ t else .any
 |[]=>rfl
 |a::L=>by
  have ih:=H9 γ t L
  unfold only at ih⊢
  rw[List.map_cons,A3]
  by_cases h:t=a
  ·subst h;simp
  ·simp only[h,if_false,ih,List.mem_cons,false_or]
theorem LV{g:G}{γ:Fr}{n:Nat}{tmps:Array Value}(L:List Nat)(h:RepT g γ n tmps):RepT g (only L γ) n tmps:=
 ⟨h.1,fun t=>by
  rw[H9]
  by_cases ht:t∈L
  ·rw[if_pos ht];exact h.2 t
  ·rw[if_neg ht];trivial⟩
theorem HE{L:List Nat}{γ V':Fr}(h:∀t∈L,getD γ t=getD V' t):only L γ=only L V':=
 List.map_congr_left fun t ht=>by rw[h t ht]
theorem AR{γ:Fr}{ops:Array Oper}{o:Oper}{x:Operand}(h:x∈o.op.operands):ev (only (o.looksAt ops) γ) x=ev γ x:=by
 cases x with
 |tmp t=>simp only[ev,H9];rw[if_pos (GV h)]
 |_=>rfl
theorem Ak{γ:Fr}{ops:Array Oper}{o:Oper}:AC ops (only (o.looksAt ops) γ) o=AC ops γ o:=
 Iv fun t ht=>by rw[H9,if_pos ht]
section mono
variable {tab:Nat->Ty}{O U':Sig}(h:Sub O U'){γ:List (Nat×D)}
include h
theorem Hj{x:D}{l:List (D×D)}(e:Cv O x=some l):Cv U' x=some l:=by
 unfold Cv at e⊢
 split at e
 ·exact e
 ·exact e
 ·rename_i id
  split at e<;>(try (cases e;done))
  rename_i l' hi
  rw[h _ _ hi];exact e
 ·cases e
theorem loadT_mono{ty:Ty}{x d:D}(e:JM ty O x=some d):JM ty U' x=some d:=by
 unfold JM at e⊢
 split at e
 ·cases e
 ·rename_i hk
  rw[if_neg hk]
  unfold JN at e⊢
  split at e
  ·exact e
  ·rename_i id off
   cases hi:O id with
   |none=>simp[hi,DD]at e
   |some ob=>rw[h _ _ hi,<-hi];exact e
  ·cases e
theorem VL{op:Op}{d:D}(e:dop tab γ O op=some d):dop tab γ U' op=some d:=by
 cases op<;>first|exact e|(simp only[dop]at e⊢; exact loadT_mono h e)|skip
 case call c=>
  obtain⟨callee,args,ats⟩:=c
  cases callee<;>try exact e
  rename_i b
  cases b<;>exact e
theorem TK{op:Op}{d:D}(e:dop2 tab γ O op=some d):dop2 tab γ U' op=some d:=by
 cases op<;>first|exact e|skip
 case lookup t x k ok=>
  simp only[dop2]at e⊢
  unfold Gy at e⊢
  split at e<;>(try (cases e;done))
  rename_i kt et hk
  split at e<;>(try (cases e;done))
  rename_i hc
  rw[if_neg hc]
  split at e<;>(try (cases e;done))
  rename_i l hl
  rw[Hj h hl];exact e
 case call c=>
  simp only[dop2]at e⊢
  unfold G7 at e⊢
  split at e<;>(try (exact e))<;>(try (cases e;done))
  unfold HK at e⊢
  split at e<;>(try (cases e;done))
  rename_i _ _ x _ _
  split at e<;>(try (cases e;done))
  cases hl:Cv O (ev γ x)with
  |none=>rw[hl]at e;cases e
  |some l=>rw[hl]at e;rw[Hj h hl];exact e
theorem DT{op:Op}{d:D}(e:dopX tab γ O op=some d):dopX tab γ U' op=some d:=by
 have key:dop tab γ O op=none->dop tab γ U' op=none\/dop2 tab γ O op=none:=by
  intro hn
  cases op<;>first|exact .inl hn|exact .inr rfl|skip
  case call c=>
   obtain⟨callee,args,ats⟩:=c
   cases callee<;>first|exact .inl hn|skip
   rename_i b
   cases b<;>exact .inl hn
 unfold dopX at e⊢
 split at e
 ·rename_i d' hd
  rw[VL h hd];exact e
 ·rename_i hd
  rcases key hd with hc|hc
  ·rw[hc];exact TK h e
  ·rw[hc]at e;cases e
end mono
section
variable (P:Program)(ro:Ro)(n:Nat)(ops:Array Oper)(N:Nat)(S0:Sig)(Q:DX->St->Prop)(df:List DDf)
def EQ(dst:Option Tmp)(R Rp:D->Sig->Prop):DX->St->Prop
 |.normal,s=>s.df=df/\R (match dst with|some t=>getD s.γ t|none=>.any) s.O
 |.panic d,s=>s.df=df/\Rp d s.O
 |_,_=>False
structure Calm(γ:Fr)(o:Oper)(d:D):Prop where
 ok:At n o=true
 run:(AC ops (only (o.looksAt ops) γ) o=some true/\(∀c,o.op≠.defer c)/\(∀(w:World) (ρ:Operand->Value) f,o.about P w ρ=some f->False) /\
   ∀O,Sub S0 O->∀g w (a:Act),Sim P g O w->RepT g (only (o.looksAt ops) γ) n a.tmps->ORun P g O d (execOp a.eval o) w) \/
  (AC ops (only (o.looksAt ops) γ) o=some false/\E6 N o.op=true/\(d=.any\/d=.tup [])) \/
  (AC ops (only (o.looksAt ops) γ) o=some true /\ ∀O,Sub S0 O->∀ro df,DOps P ro n ops (EQ df o.dst (fun d' U'=>d'=d/\Sub O U') fun _ _=>False) [o] ⟨only (o.looksAt ops) γ,O,df⟩)
structure Eff(γ:Fr)(O:Sig)(o:Oper)(R Rp:D->Sig->Prop):Prop where
 ok:At n o=true
 want:AC ops (only (o.looksAt ops) γ) o=some true
 run:DOps P ro n ops (EQ df o.dst R Rp) [o] ⟨only (o.looksAt ops) γ,O,df⟩
def MOps (E:List Nat):List Nat->Fr->Sig->Prop
  |[],γ,O=>DOps P ro n ops Q [] ⟨γ,O,df⟩
  | i::r,γ,O => ∃ o,ops[i]? = some o /\
    ((∃ d,Calm P n ops N S0 γ o d/\MOps E r (putD o.dst d γ) O) \/
     (E.contains i=true/\Eff P ro n ops df γ O o (fun d U'=>Sub S0 U'/\MOps E r (putD o.dst d γ) U') (fun d U'=> ∀V',Q (.panic d) ⟨V',U',df⟩)))
end
section
variable {P:Program}{ro:Ro}{n:Nat}{ops:Array Oper}{N:Nat}{S0:Sig}{Q:DX->St->Prop}{df:List DDf}{E:List Nat}
theorem Calm.congr{γ V':Fr}{o:Oper}{d:D}(h:∀t∈o.looksAt ops,getD γ t=getD V' t)(hy:Calm P n ops N S0 γ o d):Calm P n ops N S0 V' o d:=by
 have e:=HE h
 exact⟨hy.ok,by rw[<-e];exact hy.run⟩
theorem Cd {Q':DX->St->Prop} (hq : ∀ x s,Q x s->Q' x s) {g:G} {r:Rx} : ∀ (l:List Oper) {a:Act} {w:World},wpListIn (FX P r) 0 P ops (Post P g n Q) l a w->wpListIn (FX P r) 0 P ops (Post P g n Q') l a w
  |[],_,_,⟨g',s',x,h1,h2,h3,h4⟩=>⟨g',s',x,h1,h2,h3,hq _ _ h4⟩
  | o::l,a,w,h=>by
    have pq:∀{e a w},Post P g n Q e a w->Post P g n Q' e a w:=fun ⟨g',s',x,h1,h2,h3,h4⟩=>⟨g',s',x,h1,h2,h3,hq _ _ h4⟩
    unfold wpListIn at h⊢
    split
    · rename_i hw
      rw[if_pos hw]at h
      refine⟨h.1,?_⟩
      have h2:=h.2
      revert h2
      generalize (o.semAt (FX P r).round a.eval).run P w=res
      cases res with
      | ok nx w' =>
        cases nx<;>simp only[Oper.uponIn]<;>first
          |exact fun h=>Cd hq l h
          | (rintro ⟨h1,h2⟩
             refine⟨h1,?_⟩
             first
               | (refine h2.mono ?_
                  intro e w'' he
                  cases e<;>first
                    |exact Cd hq l he
                    |exact pq he
                    |(obtain⟨a0,w0,he⟩:=he;exact⟨a0,w0,pq he⟩))
               | (refine h2.mono ?_
                  intro v w'' he
                  exact Cd hq l he))
          |exact fun h=>h
      |halt x w'=>cases x<;>simp only[Oper.uponIn]<;>first|exact fun h=>pq h|exact fun h=>h
    · rename_i hw
      rw[if_neg hw]at h
      exact⟨h.1,Cd hq l h.2⟩
theorem MS{l:List Oper}{s:St}{Q':DX->St->Prop}(h:DOps P ro n ops Q l s)(hq:∀x s,Q x s->Q' x s):DOps P ro n ops Q' l s:=
 fun g w a r hr hs=>Cd hq l (h g w a r hr hs)
theorem Eff.congr{γ V':Fr}{O:Sig}{o:Oper}{R R' Rp:D->Sig->Prop}(h:∀t∈o.looksAt ops,getD γ t=getD V' t)(hy:Eff P ro n ops df γ O o R Rp)(hR:∀d U',R d U'->R' d U'):Eff P ro n ops df V' O o R' Rp:=by
 have e:=HE h
 refine⟨hy.ok,by rw[<-e];exact hy.want,?_⟩
 rw[<-e]
 refine MS hy.run fun x s hx=>?_
 cases x with
 |normal=>exact⟨hx.1,hR _ _ hx.2⟩
 |panic d=>exact hx
 |_=>exact hx
theorem MOps.alike: ∀(l:List Nat) {γ V':Fr}{O:Sig},Alike γ V'->MOps P ro n ops N S0 Q df E l γ O->MOps P ro n ops N S0 Q df E l V' O
 |[],_,_,_,h,k=>C5 h k
 |i::r,_,_,_,h,⟨o,ho,k⟩=>⟨o,ho,(match k with
  |.inl ⟨d,h2,h3⟩=>.inl ⟨d,h2.congr fun t _=>h t,MOps.alike r (h.put _ _) h3⟩
  |.inr ⟨h1,h2⟩=>.inr ⟨h1,h2.congr (fun t _=>h t) fun d U' ⟨h3,h4⟩=>⟨h3,MOps.alike r (h.put _ _) h4⟩⟩)⟩
theorem HG{i:Nat}{oi:Oper}(hi:ops[i]? = some oi)(post:List Nat): ∀(pre:List Nat) (γ:Fr) (O:Sig),
  (∀x∈pre,E.contains x=false /\ ∃ox,ops[x]? = some ox/\oi.apart ops ox=true)->MOps P ro n ops N S0 Q df E (pre++i::post) γ O->MOps P ro n ops N S0 Q df E (i::(pre++post)) γ O
 |[],_,_,_,h=>h
 | x::pre,γ,O,hp,h=>by
  obtain⟨ba,ox,aC,bq⟩:=hp x (by simp)
  obtain⟨a1,a2,a3⟩:=Oper.apart_spec bq
  obtain⟨ox',aB,hx⟩:=h
  obtain rfl:ox'=ox:=by rw[aC]at aB;cases aB;rfl
  rcases hx with⟨d,hy,h⟩|⟨hE,_⟩
  ·obtain⟨oi',aD,hh⟩:=HG hi post pre _ O (fun y hy=>hp y (by simp[hy])) h
   obtain rfl:oi'=oi:=by rw[hi]at aD;cases aD;rfl
   refine⟨oi',hi,?_⟩
   rcases hh with⟨e,h2,h3⟩|⟨h1,h2⟩
   ·refine .inl ⟨e,h2.congr fun t ht=>Ai fun hd=>a3 t hd ht,ox',aC,.inl ⟨d,hy.congr fun t ht=>(Ai fun hd=>a1 t hd ht).symm,?_⟩⟩
    exact MOps.alike _ (AF _ _ _ fun t p q=>a2 t p q) h3
   ·refine .inr ⟨h1,h2.congr (fun t ht=>Ai fun hd=>a3 t hd ht) fun e U' ⟨h3,h4⟩=>⟨h3,ox',aC,.inl ⟨d,hy.congr fun t ht=>(Ai fun hd=>a1 t hd ht).symm,?_⟩⟩⟩
    exact MOps.alike _ (AF _ _ _ fun t p q=>a2 t p q) h4
  ·rw[ba]at hE;cases hE
def mixB(ops:Array Oper)(E:List Nat):List Nat->List Nat->Bool
 |_,[]=>true
 | done,i::r => !done.contains i && (match ops[i]? with
  |some o=>(o.after.all fun e=> !Region.binds .any e||done.contains e.on)&&done.all fun x=>(!E.contains x&&match ops[x]? with
   |some ox=>o.apart ops ox
   |none=>false)||reach ops ops.size i x
  |none=>false)&&mixB ops E (i::done) r
theorem Fv{i:Nat}{l2:List Nat}: ∀(l1 done:List Nat),mixB ops E done (l1++i::l2)=true->i∉l1/\i∉done/\i∉l2 /\ ∃o,ops[i]? = some o/\(∀e∈o.after,Region.binds .any e=true->e.on∈l1\/e.on∈done) /\
   ∀x,x∈l1->reach ops ops.size i x=true\/(E.contains x=false /\ ∃ox,ops[x]? = some ox/\o.apart ops ox=true)
 | [],done,h=>by
  simp only[List.nil_append,mixB,Bool.and_eq_true,Bool.not_eq_true',List.contains_eq_mem,decide_eq_false_iff_not]at h
  obtain⟨⟨h1,h2⟩,h3⟩:=h
  have later:∀(l d:List Nat),i∈d->mixB ops E d l=true->i∉l:=by
   intro l
   induction l with
   |nil=>intro _ _ _ h;cases h
   |cons y l ih=>
    intro d hd hm ac
    simp only[mixB,Bool.and_eq_true,Bool.not_eq_true',List.contains_eq_mem,decide_eq_false_iff_not]at hm
    obtain⟨⟨m1,_⟩,m3⟩:=hm
    rcases List.mem_cons.1 ac with rfl|ac
    ·exact m1 hd
    ·exact ih (y::d) (by simp[hd]) m3 ac
  refine⟨by simp,h1,later l2 _ (by simp) h3,?_⟩
  split at h2
  ·rename_i o ho
   simp only[Bool.and_eq_true]at h2
   refine⟨o,ho,fun e he hb=>?_,fun x hx=>by cases hx⟩
   have:=Array.all_eq_true_iff_forall_mem.1 h2.1 e he
   simp only[hb,Bool.not_true,Bool.false_or,List.contains_eq_mem,decide_eq_true_eq]at this
   exact .inr this
  ·cases h2
 | y::l1,done,h=>by
  simp only[List.cons_append,mixB,Bool.and_eq_true]at h
  obtain⟨h1,h2,h3,o,ho,he,hx⟩:=Fv l1 (y::done) h.2
  have bi:i≠y:=fun e=>h2 (by simp[e])
  refine⟨by simp[bi,h1],fun hd=>h2 (by simp[hd]),h3,o,ho,fun e hm hb=>?_,?_⟩
  ·rcases he e hm hb with h4|h4
   ·exact .inl (by simp[h4])
   ·rcases List.mem_cons.1 h4 with h5|h5
    ·exact .inl (by simp[h5])
    ·exact .inr h5
  ·intro x ac
   rcases List.mem_cons.1 ac with rfl|ac
   ·
    have back:∀(l d:List Nat),x∈d->mixB ops E d (l++i::l2)=true->reach ops ops.size i x=true\/(E.contains x=false /\ ∃ox,ops[x]? = some ox/\o.apart ops ox=true):=by
     intro l
     induction l with
     | nil =>
      intro d hd hm
      simp only[List.nil_append,mixB,Bool.and_eq_true,ho]at hm
      have:=List.all_eq_true.1 hm.1.2.2 x hd
      simp only[Bool.or_eq_true,Bool.and_eq_true,Bool.not_eq_true']at this
      rcases this.symm with h4|⟨h4,h5⟩
      ·exact .inl h4
      ·refine .inr ⟨h4,?_⟩
       split at h5
       ·rename_i ox aC;exact⟨ox,aC,h5⟩
       ·cases h5
     |cons z l ih=>
      intro d hd hm
      simp only[List.cons_append,mixB,Bool.and_eq_true]at hm
      exact ih (z::d) (by simp[hd]) hm.2
    exact back l1 _ (by simp) h.2
   ·exact hx x ac
def F7(ops:Array Oper)(E ord:List Nat):Bool:=mixB ops E [] ord&&(List.range ops.size).all ord.contains&&ord.length==ops.size
theorem Ca {K:Act->World->Prop} {g0 g:G} {w:World} {a:Act} {r:Rx} {γ:Fr} {O:Sig} {o:Oper} {R Rp:D->Sig->Prop} (hr:RoRep g ro r) (hg:g0.le g)
    (hs:SimS P g n ⟨γ,O,df⟩ a w) (hE:Eff P ro n ops df γ O o R Rp) (hK:∀g' w' a' d U',g.le g'->R d U'->SimS P g' n ⟨putD o.dst d γ,U',df⟩ a' w'->K a' w')
    (hp:∀d U',Rp d U'->∀V',Q (.panic d) ⟨V',U',df⟩) :
    (if Region.wanted o (yielded ops a.tmps) then o.wpIn (FX P r) 0 P a w K (Post P g0 n Q) else(∀f,o.about P w a.eval=some f->(FX P r).fn f)/\K (a.put o.dst undef) w):=by
  have aU:SimS P g n ⟨only (o.looksAt ops) γ,O,df⟩ a w:=⟨hs.sim,LV _ hs.tmps,hs.df⟩
  have h:=hE.run g w a r hr aU
  have hw:=AN aU.tmps hE.want
  rw[hw,if_pos rfl]
  unfold wpListIn at h
  rw[hw,if_pos rfl]at h
  have fin:∀(a':Act) (w':World) (v:Value),a'.tmps=(a.put o.dst v).tmps->wpListIn (FX P r) 0 P ops (Post P g n (EQ df o.dst R Rp)) [] a' w'->K a' w':=by
    rintro a' w' v hv ⟨g',s',x,l1,l2,l3,l4⟩
    cases x with
    | normal =>
      obtain⟨e1,e2⟩:=l4
      refine hK g' w' a' _ s'.O l1 e2 ⟨l2.sim,⟨l2.tmps.1,fun t=>?_⟩,by rw[<-e1];exact l2.df⟩
      cases hd:o.dst with
      | none =>
        rw[hd]at hv
        simp only[putD,Act.put]at hv⊢
        rw[hv]
        exact Rep.mono l1 _ (hs.tmps.2 t)
      | some k =>
        rw[hd]at hv
        simp only[putD,A3]
        by_cases hk:t=k
        · subst hk;rw[if_pos rfl];exact l2.tmps.2 t
        · rw [if_neg hk,hv]
          simp only[Act.put]
          rw[show(a.tmps.setIfInBounds k v).getD t undef=a.tmps.getD t undef by simp[Array.getD_eq_getD_getElem?, Array.getElem?_setIfInBounds_ne (Ne.symm hk)]]
          exact Rep.mono l1 _ (hs.tmps.2 t)
    |ret=>cases l3
    |exit _=>cases l3
    |panic _=>obtain⟨v,l3,_⟩:=l3;cases l3
  have pan:∀(c:List PanicEntry) (w':World),Post P g n (EQ df o.dst R Rp) (.panic c) a w'->Post P g0 n Q (.panic c) a w':=by
    rintro c w' ⟨g',s',x,l1,l2,l3,l4⟩
    cases x with
    |normal=>cases l3
    |ret=>cases l3
    |exit _=>cases l3
    |panic d=>exact⟨g',⟨γ,s'.O,df⟩,.panic d,hg.trans l1,⟨l2.sim,hs.tmps.mono l1,by rw[<-l4.1];exact l2.df⟩,l3,hp d _ l4.2 γ⟩
  have lets:LetsOut (Post P g n (EQ df o.dst R Rp))->LetsOut (Post P g0 n Q):=by
    rintro⟨a0,w0,g',s',x,l1,l2,l3,l4⟩
    cases x with
    |panic _=>obtain⟨v,l3,_⟩:=l3;cases l3
    |_=>cases l3
  refine⟨h.1,?_⟩
  have h2:=h.2
  revert h2
  generalize (o.semAt (FX P r).round a.eval).run P w=res
  cases res with
  | ok nx w' =>
    cases nx<;>simp only[Oper.uponIn]<;>first
      |exact fun h=>fin _ _ _ rfl h
      |exact fun h=>fin _ _ undef (by simp[Act.put];cases o.dst<;>rfl) h
      | (rintro ⟨h1,h2⟩
         refine⟨h1,?_⟩
         first
           | (refine h2.mono ?_
              intro e w'' he
              cases e<;>first
                |exact fin _ _ _ rfl he
                |exact pan _ _ he
                |exact lets he)
           | (refine h2.mono ?_
              intro v w'' he
              exact fin _ _ _ rfl he))
      |exact fun h=>h
  |halt x w'=>cases x<;>simp only[Oper.uponIn]<;>first|exact fun h=>pan _ _ h|exact fun h=>h
theorem DV(hN:P.funcs.size=N){K:Act->World->Prop}{g0 g:G}{w:World}{a:Act}{r:Rx}{γ:Fr}{O:Sig}{o:Oper}{d:D}(hr:RoRep g ro r)(hg:g0.le g)
  (hs:SimS P g n ⟨γ,O,df⟩ a w) (hC:Sub S0 O) (hy:Calm P n ops N S0 γ o d)
  (hK:∀g' w' a',g.le g'->SimS P g' n ⟨putD o.dst d γ,O,df⟩ a' w'->K a' w') :
  (if Region.wanted o (yielded ops a.tmps) then o.wpIn (FX P r) 0 P a w K (Post P g0 n Q) else(∀f,o.about P w a.eval=some f->(FX P r).fn f)/\K (a.put o.dst undef) w):=by
 have hT:=LV (o.looksAt ops) hs.tmps
 rcases hy.run with⟨hw,be,br,hd⟩|⟨hw,bc,bp⟩|⟨hw,hd⟩
 ·rw[AN hT hw,if_pos rfl]
  refine⟨fun f hf=>(br _ _ f hf).elim,?_⟩
  obtain⟨g',w',v,h1,h2,h3,h4⟩:=hd O hC g w a hs.sim hT
  rw[Oper.semAt_eq _ _ _ be,h1]
  exact hK g' w' _ h2 (hs.put h2 h3 h4 hy.ok)
 ·rw[AN hT hw,if_neg (by simp)]
  refine⟨fun f hf=>Gd (HZ (by rw[hN];exact bc) w _ f hf (fun _=>rfl)) _,?_⟩
  have h0:Rep g d undef:=by rcases bp with rfl|rfl;exact trivial;exact⟨[],rfl,rfl⟩
  exact hK g w _ (.refl g) (hs.put (.refl g) hs.sim h0 hy.ok)
 ·exact Ca (Q:=Q) hr hg hs ⟨hy.ok,hw,hd O hC ro df⟩ (fun g' w' a' d' U' aF hR ae=>by
   obtain⟨rfl,aO⟩:=hR
   exact hK g' w' a' aF ⟨ae.sim.sub aO,ae.tmps,ae.df⟩) (fun _ _ h=>h.elim)
theorem As{l:List Nat}{listed:Array Bool}{i:Nat}(h:i∉l):l.filter (fun j=> !(listed.setIfInBounds i true).getD j true)=l.filter fun j=> !listed.getD j true:=
 List.filter_congr fun j hj=>by rw[getD_set_ne true (show i≠j from fun e=>h (by rw[e];exact hj))]
theorem UD(hN:P.funcs.size=N){ord:List Nat}(hB:F7 ops E ord=true){g0:G}{rr:Rx}(hr:RoRep g0 ro rr): ∀(m:Nat) (r:List Nat) (listed:Array Bool) (γ:Fr) (O:Sig),r.length=m->listed.size=ops.size->
  r=ord.filter (fun i=> !listed.getD i true)->Closed ops listed->MOps P ro n ops N S0 Q df E r γ O->Sub S0 O->
   ∀(g:G) (w:World) (a:Act),g0.le g->SimS P g n ⟨γ,O,df⟩ a w->wpAnyIn (FX P rr) 0 P .any ops (Post P g0 n Q) m listed a w:=by
 unfold F7 at hB
 simp only[Bool.and_eq_true]at hB
 obtain⟨⟨aj,aR⟩,_⟩:=hB
 have ac:∀(r:List Nat) (listed:Array Bool),r=ord.filter (fun i=> !listed.getD i true)->∀i∈Region.ready .any ops listed,i∈r:=by
  intro r listed hf i hi
  obtain⟨h1,o,ho,_⟩:=mem_ready.1 hi
  have:=List.all_eq_true.1 aR i (by simpa using(Array.getElem?_eq_some_iff.1 ho).1)
  rw[hf,List.mem_filter]
  exact⟨by simpa using this,by rw[h1];rfl⟩
 intro m
 induction m with
 |zero=>
  intro r listed γ O hl hsz hf aA h hC g w a hg hs
  obtain rfl:r=[]:=List.length_eq_zero_iff.1 hl
  refine⟨List.eq_nil_iff_forall_not_mem.2 fun i hi=>?_,?_⟩
  ·have:=ac [] listed hf i hi;cases this
  ·exact Post.le hg (h g w a rr (hr.mono hg) hs)
 | succ m ih =>
  intro r listed γ O hl hsz hf aA h hC g w a hg hs
  obtain⟨y,t,rfl⟩:∃y t,r=y::t:=by cases r with|nil=>cases hl|cons y t=>exact⟨y,t,rfl⟩
  refine⟨fun he=>?_,fun i hi=>?_⟩
  ·exfalso
   obtain⟨l1,l2,ax,bh,hy,aX⟩:=List.filter_eq_cons_iff.1 hf.symm
   subst ax
   obtain⟨h1,_,_,o,ho,aY,_⟩:=Fv l1 [] aj
   have:y∈Region.ready .any ops listed:=by
    refine mem_ready.2 ⟨by simpa using hy,o,ho,fun e hm hb=>?_⟩
    rcases aY e hm hb with h4|h4
    ·have h5:=bh _ h4
     simp only[Bool.not_eq_true,Bool.not_eq_false']at h5
     have am:e.on<listed.size:=by
      have:e.on∈l1++y::l2:=by simp[h4]
      obtain⟨p1,p2,hp⟩:=List.append_of_mem this
      rw[hp]at aj
      obtain⟨_,_,_,o',aq,_⟩:=Fv p1 [] aj
      rw[hsz];exact(Array.getElem?_eq_some_iff.1 aq).1
     simpa[am] using h5
    ·cases h4
   rw[he]at this;cases this
  ·obtain⟨pre,post,aw⟩:=List.append_of_mem (ac _ listed hf i hi)
   rw[aw]at hf h hl
   obtain⟨l1',l2',ax,aQ,bm⟩:=List.filter_eq_append_iff.1 hf.symm
   obtain⟨m1,m2,aP,bf,bt,bl⟩:=List.filter_eq_cons_iff.1 bm
   have ap:ord=(l1'++m1)++i::m2:=by rw[ax,aP];simp
   rw[ap]at aj
   obtain⟨n1,_,n3,o,ho,aY,hx⟩:=Fv (l1'++m1) [] aj
   obtain⟨bj,o',aq,aH⟩:=mem_ready.1 hi
   obtain rfl:o'=o:=by rw[ho]at aq;cases aq;rfl
   have ay:=HG ho post pre γ O (fun x aT=>by
    have bb:x∈l1'++m1:=by
     have:x∈l1'.filter (fun i=> !listed.getD i true):=by rw[aQ];exact aT
     simp[(List.mem_filter.1 this).1]
    have aS:listed.getD x true=false:=by
     have:x∈l1'.filter (fun i=> !listed.getD i true):=by rw[aQ];exact aT
     simpa using(List.mem_filter.1 this).2
    rcases hx x bb with h4|h4
    ·exfalso
     have:=Ct aA ops.size i x o' ho aH h4
     rcases Nat.lt_or_ge x listed.size with am|am
     ·simp[am]at this aS;rw[aS]at this;cases this
     ·simp[Array.getElem?_eq_none am]at this
    ·exact h4) h
   have ar:pre++post=ord.filter (fun j=> !(listed.setIfInBounds i true).getD j true):=by
    have bk:i<listed.size:=by
     rw[hsz];exact(Array.getElem?_eq_some_iff.1 ho).1
    rw[ap,List.filter_append,List.filter_cons]
    have e1:(listed.setIfInBounds i true).getD i true=true:=by simp[bk]
    rw[e1,As n1,As n3]
    simp only[Bool.not_true,Bool.false_eq_true,if_false,List.filter_append,aQ,bl]
    rw[List.filter_eq_nil_iff.2 (fun x hx=>by simpa using bf x hx),List.append_nil]
   have hlen:(pre++post).length=m:=by simp at hl⊢; omega
   obtain⟨o2,aW,hh⟩:=ay
   obtain rfl:o2=o':=by rw[ho]at aW;cases aW;rfl
   unfold wpOpIn
   simp only[ho]
   rcases hh with⟨d,hy,hM⟩|⟨_,hE⟩
   ·exact DV hN (hr.mono hg) hg hs hC hy fun g' w' a' aF ae=>ih _ _ _ _ hlen (by simpa using hsz) ar (aA.set hi) hM hC g' w' a' (hg.trans aF) ae
   ·exact Ca (hr.mono hg) hg hs hE (fun g' w' a' d U' aF hR ae=>ih _ _ _ _ hlen (by simpa using hsz) ar (aA.set hi) hR.2 hR.1 g' w' a' (hg.trans aF) ae) fun d U' hp=>hp
theorem CF{n:Nat}: ∀{l:List Nat},(∀i∈l,i<n)->l.filter (fun i=> !(Array.replicate n false).getD i true)=l:=by
 intro l h
 rw[List.filter_eq_self]
 intro i hi
 simp[h i hi]
theorem dwp_mix(hN:P.funcs.size=N)(hm:P.follows .mixedOrders=true){l:List Oper}{id:Nat}{γ:Fr}{O:Sig}(ord E:List Nat)(S0:Sig)(hB:F7 l.toArray E ord=true)(hC:Sub S0 O)
  (h:MOps P ro n l.toArray N S0 Q df E ord γ O):DWp P ro n (.region id l.toArray true) Q ⟨γ,O,df⟩:=by
 intro g w a r hr hs
 refine wpIn_region_any hm ?_
 have aA:Closed l.toArray (Array.replicate l.toArray.size false):=by
  intro q o _ hq
  rcases Nat.lt_or_ge q l.length with h'|h'
  ·simp[h']at hq
  ·simp[h']at hq
 have ae:SimS P g n ⟨γ,O,df⟩ a { w with drawn:=w.drawn+1 }:=
  ⟨⟨fun b o v h=>hs.sim.imm b o v h,hs.sim.keep,fun i o h=>by
   have:=hs.sim.obj i o h
   cases o<;>exact this,hs.sim.inj,hs.sim.free,hs.sim.htop,hs.sim.hdom,hs.sim.fin,hs.sim.io,hs.sim.tab⟩,hs.tmps,hs.df⟩
 have am:∀i∈ord,i<l.toArray.size:=by
  intro i hi
  obtain⟨p1,p2,hp⟩:=List.append_of_mem hi
  have au:=hB
  unfold F7 at au
  simp only[Bool.and_eq_true]at au
  rw[hp]at au
  obtain⟨_,_,_,o',aq,_⟩:=Fv p1 [] au.1.1
  exact(Array.getElem?_eq_some_iff.1 aq).1
 have hlen:ord.length=l.toArray.size:=by
  have au:=hB
  unfold F7 at au
  simp only[Bool.and_eq_true,beq_iff_eq]at au
  exact au.2
 have:=UD hN hB hr ord.length ord (Array.replicate l.toArray.size false) γ O rfl (by simp) (CF am).symm aA h hC g _ a (.refl g) ae
 rw[hlen]at this
 exact this
end
theorem IQ{α β:Type}{f f':α->β}: ∀{x:Option α},(∀a,x=some a->f a=f' a)->x.map f=x.map f'
 |none,_=>rfl
 |some a,h=>by rw[Option.map_some,Option.map_some,h a rfl]
theorem PS{tab:Nat->Ty}{γ V':Fr}{O:Sig}{op:Op}(h:∀x∈op.operands,ev γ x=ev V' x):dop2 tab γ O op=dop2 tab V' O op:=by
 cases op<;>simp only[Op.operands]at h<;>simp only[dop2]
 case slice t x lo hi mx=>
  rw[h x (by simp)]
  have e1:lo.map (ev γ)=lo.map (ev V'):=IQ fun a ha=>h a (by simp[ha])
  have e2:hi.map (ev γ)=hi.map (ev V'):=IQ fun a ha=>h a (by simp[ha])
  have e3:mx.map (ev γ)=mx.map (ev V'):=IQ fun a ha=>h a (by simp[ha])
  rw[e1,e2,e3]
 case lookup t x k ok=>rw[h x (by simp),h k (by simp)]
 case typeAssert x s t ok=>rw[h x (by simp)]
 case build t parts=>
  have hp:∀p∈parts.toList,ev γ p.2=ev V' p.2:=fun p hp=>h p.2 (by simp;exact⟨p.1,by simpa using hp⟩)
  rw[show(parts.toList.map fun p=>(p.1,ev γ p.2))=parts.toList.map fun p=>(p.1,ev V' p.2) from List.map_congr_left fun p bd=>by rw[hp p bd]]
 case call c=>
  obtain⟨callee,args,ats⟩:=c
  cases callee<;>try rfl
  rename_i b
  obtain⟨args⟩:=args
  obtain⟨ats⟩:=ats
  cases b<;>try rfl
  ·simp only[G7,HK]
   split
   ·rename_i x
    rw[h x (by simp[Call.operands])]
   ·rfl
  ·simp only[G7]
   match args,h with
   |[a,b],h=>simp only;rw[h a (by simp[Call.operands]),h b (by simp[Call.operands])]
   |[],_=>rfl
   |[_],_=>rfl
   |_::_::_::_,_=>rfl
  ·simp only[G7]
   match args,h with
   |[a,b],h=>simp only;rw[h a (by simp[Call.operands]),h b (by simp[Call.operands])]
   |[],_=>rfl
   |[_],_=>rfl
   |_::_::_::_,_=>rfl
theorem B2{tab:Nat->Ty}{γ V':Fr}{O:Sig}{op:Op}(h:∀x∈op.operands,ev γ x=ev V' x):dopX tab γ O op=dopX tab V' O op:=by
 unfold dopX
 rw[MV h,PS h]
def Db:Op->Bool
 |.call { callee:=.builtin .len,.. }|.call { callee:=.builtin .max,.. }|.call { callee:=.builtin .min,.. }=>true
 |.move _|.assign _|.pick .. |.box .. |.load .. |.nilCheck _|.binOp .. |.unOp .. |.convert .. |.makeInterface .. |.makeFunc .. |.fieldAddr .. |.field .. |.indexAddr .. |.index .. |.extract .. |.buildSlice .. =>true
 |.slice .. |.lookup .. |.typeAssert .. |.build .. =>true
 |_=>false
section
variable (P:Program)(ro:Ro)(n:Nat)(ops:Array Oper)(N:Nat)(S0:Sig)(Q:DX->St->Prop)(df:List DDf)
def MO:List (Bool×Oper)->Fr->Sig->Prop
 |[],γ,O=>DOps P ro n ops Q [] ⟨γ,O,df⟩
 |(e,o)::r,γ,O=>
  (∃d,Calm P n ops N S0 γ o d/\MO r (putD o.dst d γ) O) \/
  (e=true/\Eff P ro n ops df γ O o (fun d U'=>Sub S0 U'/\MO r (putD o.dst d γ) U') (fun d U'=> ∀V',Q (.panic d) ⟨V',U',df⟩))
end
def pick(ops:Array Oper)(E ord:List Nat):List (Bool×Oper):=ord.filterMap fun i=>(ops[i]?).map fun o=>(E.contains i,o)
section
variable {P:Program}{ro:Ro}{n:Nat}{ops:Array Oper}{N:Nat}{S0:Sig}{Q:DX->St->Prop}{df:List DDf}{E:List Nat}
theorem FU: ∀{ord:List Nat}{γ:Fr}{O:Sig},(∀i∈ord,i<ops.size)->MO P ro n ops N S0 Q df (pick ops E ord) γ O->MOps P ro n ops N S0 Q df E ord γ O
 |[],_,_,_,h=>h
 | i::r,γ,O,am,h=>by
  have hi:ops[i]? = some ops[i]! :=by
   have:=am i (by simp)
   simp[this]
  have hp:pick ops E (i::r)=(E.contains i,ops[i]!)::pick ops E r:=by
   unfold pick
   rw[List.filterMap_cons,hi]
   rfl
  rw[hp]at h
  have aE:∀j∈r,j<ops.size:=fun j hj=>am j (by simp[hj])
  refine⟨_,hi,?_⟩
  rcases h with⟨d,h2,h3⟩|⟨h1,h2⟩
  ·exact .inl ⟨d,h2,FU aE h3⟩
  ·exact .inr ⟨h1,h2.congr (fun _ _=>rfl) fun d U' ⟨h3,h4⟩=>⟨h3,FU aE h4⟩⟩
theorem QW{ord:List Nat}(hB:F7 ops E ord=true): ∀i∈ord,i<ops.size:=by
 intro i hi
 obtain⟨p1,p2,hp⟩:=List.append_of_mem hi
 unfold F7 at hB
 simp only[Bool.and_eq_true]at hB
 rw[hp]at hB
 obtain⟨_,_,_,o',aq,_⟩:=Fv p1 [] hB.1.1
 exact(Array.getElem?_eq_some_iff.1 aq).1
theorem VD(hN:P.funcs.size=N)(hm:P.follows .mixedOrders=true){l:List Oper}{id:Nat}{γ:Fr}{O:Sig}(ord E:List Nat)(S0:Sig)(hB:F7 l.toArray E ord=true)(hC:Sub S0 O)
  {lp:List (Bool×Oper)} (hl:pick l.toArray E ord=lp) (h:MO P ro n l.toArray N S0 Q df lp γ O):DWp P ro n (.region id l.toArray true) Q ⟨γ,O,df⟩:=
 dwp_mix hN hm ord E S0 hB hC (FU (QW hB) (by rw[hl];exact h))
theorem QM{γ:Fr}{O:Sig}(h:Q .normal ⟨γ,O,df⟩):MO P ro n ops N S0 Q df [] γ O:=Aw h
theorem mo_eff{l:List (Bool×Oper)}{γ Sr:Fr}{O:Sig}{o:Oper}(ho:At n o=true)(hD:only (o.looksAt ops) γ=Sr)(hw:AC ops Sr o=some true)
  (h:DOps P ro n ops (EQ df o.dst (fun d U'=>Sub S0 U'/\MO P ro n ops N S0 Q df l (putD o.dst d γ) U') (fun d U'=> ∀V',Q (.panic d) ⟨V',U',df⟩)) [o] ⟨Sr,O,df⟩):MO P ro n ops N S0 Q df ((true,o)::l) γ O:=by
 subst hD
 exact .inr ⟨rfl,ho,hw,h⟩
theorem QK{e:Bool}{l:List (Bool×Oper)}{γ:Fr}{O:Sig}{o:Oper}(hw:AC ops γ o=some false)(ho:At n o=true)(hs:E6 N o.op=true)
  (h:MO P ro n ops N S0 Q df l (putD o.dst (.tup []) γ) O):MO P ro n ops N S0 Q df ((e,o)::l) γ O:=
 .inl ⟨.tup [],⟨ho,.inr (.inl ⟨by rw[Ak];exact hw,hs,.inr rfl⟩)⟩,h⟩
theorem Oc{e:Bool}{l:List (Bool×Oper)}{γ Sr:Fr}{O:Sig}{o:Oper}(d:D)(ho:At n o=true)(hD:only (o.looksAt ops) γ=Sr)(hw:AC ops Sr o=some true)
  (hq:∀U',Sub S0 U'->∀ro df,DOps P ro n ops (EQ df o.dst (fun d' S''=>d'=d/\Sub U' S'') fun _ _=>False) [o] ⟨Sr,U',df⟩)
  (h:MO P ro n ops N S0 Q df l (putD o.dst d γ) O):MO P ro n ops N S0 Q df ((e,o)::l) γ O:=by
 subst hD
 exact .inl ⟨d,⟨ho,.inr (.inr ⟨hw,hq⟩)⟩,h⟩
end
def A7:List Operand->List Nat
 |[]=>[]
 |.tmp t::r=>t::A7 r
 |_::r=>A7 r
def A1(γ:Fr):List Nat->Option Fr
 |[]=>some []
 | t::ts=>match γ.lookup t with
  |some d=>match A1 γ ts with
   |some r=>some ((t,d)::r)
   |none=>none
  |none=>none
theorem Au{γ:Fr}: ∀{l:List Nat}{Sr:Fr},A1 γ l=some Sr->∀t∈l,getD Sr t=getD γ t
 |[],_,_,_,h=>by cases h
 | a::l,Sr,e,t,h=>by
  simp only[A1]at e
  split at e<;>(try (cases e;done))
  rename_i d hd
  split at e<;>(try (cases e;done))
  rename_i r hr
  cases e
  rw[A3]
  by_cases ht:t=a
  ·subst ht;rw[if_pos rfl];simp[getD,hd]
  ·rw[if_neg ht]
   exact Au hr t (by simpa[ht] using h)
theorem AB{t:Nat}: ∀{l:List Operand},Operand.tmp t∈l->t∈A7 l
 | x::l,h=>by
  rcases List.mem_cons.1 h with rfl|h
  ·simp[A7]
  ·have:=AB h
   cases x<;>simp[A7,this]
theorem Cn{γ Sr:Fr}{op:Op}(h:A1 γ (A7 op.operands.toList)=some Sr): ∀x∈op.operands,ev Sr x=ev γ x:=
 fun x hx=>Be fun t ht=>Au h t (AB (by rw[<-ht];simpa using hx))
theorem Cu{γ Sr:Fr}{x:Operand}(h:A1 γ (A7 [x])=some Sr):ev Sr x=ev γ x:=
 Be fun t ht=>Au h t (AB (by simp[ht]))
theorem BA{tab:Nat->Ty}{γ V':Fr}{O:Sig}{op:Op}(h:∀x∈op.operands,ev γ x=ev V' x):eopD tab γ O op=eopD tab V' O op:=by
 cases op<;>simp only[Op.operands]at h<;>simp only[eopD]
 case store T a v=>rw[h a (by simp),h v (by simp)]
 case mapUpdate T a k v=>rw[h a (by simp),h k (by simp),h v (by simp)]
 case insert T a k v=>rw[h a (by simp),h k (by simp),h v (by simp)]
 case call c=>
  obtain⟨callee,args,ats⟩:=c
  cases callee<;>try rfl
  rename_i b
  obtain⟨args⟩:=args
  obtain⟨ats⟩:=ats
  cases b<;>try rfl
  simp only[bapD]
  match args,h with
  |[a,b],h=>simp only;rw[h a (by simp[Call.operands]),h b (by simp[Call.operands])]
  |[],_=>rfl
  |[_],_=>rfl
  |_::_::_::_,_=>rfl
theorem Av{γ:Fr}{k:Nat}{d:D}(h:γ.lookup k=some d):getD γ k=d:=by simp[getD,h]
@[simp] def D.plain:D->D
 |.slice es _=>.slice es .no
 |.nils=>.slice [] .no
 |d=>d
theorem Q7(d:D):WkD d d.plain:=by
 cases d<;>first|exact Ab _|exact BY _ _|exact An _ (.inl rfl)
theorem CK: ∀l:List D,WkL l (l.map D.plain)
 |[]=>trivial
 |d::l=>⟨Q7 d,CK l⟩
theorem D7: ∀l:List D,WkL l l
 |[]=>trivial
 |a::l=>⟨Ab a,D7 l⟩
section
variable {P:Program}{ro:Ro}{n:Nat}{ops:Array Oper}{Q:DX->St->Prop}{df:List DDf}{rest:List Oper}{γ Sr:List (Nat×D)}{O U':Sig}{t:Nat}{op:Op}{ty:TypeId}{pos:String}{after:Array Edge}{guard:Option (Nat×Bool)}{d:D}
theorem BH{op:Op}(h:Db op=true): ∀c,op≠.defer c:=fun c e=>by subst e;cases h
theorem Ju{tab:Nat->Ty}(ht:AP P tab){o:Oper}(hr:Db o.op=true)(hw:AC ops γ o=some true)(hd:dopX tab γ O o.op=some d)(ho:At n o=true)
  (h:DOps P ro n ops Q rest ⟨putD o.dst d γ,O,df⟩):DOps P ro n ops Q (o::rest) ⟨γ,O,df⟩:=
 Ip hw (BH hr) (GG ht hd) (fun g w a hs hT=>DS ht hs hT hd) ho h
theorem CX{j k:Nat}{b:Bool}(hk:(ops[j]?).bind (·.dst)=some k)(hb:γ.lookup k=some (.bool b)):D6 ops γ j=some b:=by
 unfold D6
 rw[hk]
 simp only[Option.bind_some,Av hb]
theorem GM{tab:Nat->Ty}(ht:AP P tab)(hr:Db op=true)(aa:decide (t<n)=true)(hl:A1 γ (A7 op.operands.toList)=some Sr)(hd:dopX tab Sr O op=some d)
  (h:DOps P ro n ops Q rest ⟨(t,d)::γ,O,df⟩):DOps P ro n ops Q (⟨some t,op,ty,pos,after,none⟩::rest) ⟨γ,O,df⟩:=
 Ju ht hr rfl ((B2 (Cn hl)) ▸ hd) aa h
theorem Hx{tab:Nat->Ty}(ht:AP P tab){j:Nat}{want:Bool}(hr:Db op=true)(aa:decide (t<n)=true){k:Nat}(hk:(ops[j]?).bind (·.dst)=some k)(hb:γ.lookup k=some (.bool want))(hl:A1 γ (A7 op.operands.toList)=some Sr)(hd:dopX tab Sr O op=some d)
  (h:DOps P ro n ops Q rest ⟨(t,d)::γ,O,df⟩):DOps P ro n ops Q (⟨some t,op,ty,pos,after,some (j,want)⟩::rest) ⟨γ,O,df⟩:=
 Ju ht hr (by simp only[AC,CX hk hb];simp) ((B2 (Cn hl)) ▸ hd) aa h
theorem wantU{j k:Nat}{o:Oper}{want:Bool}(hk:(ops[j]?).bind (·.dst)=some k)(hb:γ.lookup k=some (.tup []))(hg:o.guard=some (j,want):=by rfl):AC ops γ o=some false:=by
 unfold AC
 rw[hg]
 have h1:D6 ops γ j=none:=by unfold D6;rw[hk];simp only[Option.bind_some,Av hb]
 have h2:Iy ops γ j=true:=by unfold Iy;rw[hk];simp only[Av hb]
 simp only[h1,h2,if_true]
theorem ID{N:Nat}(hN:P.funcs.size=N){j:Nat}{want:Bool}{k:Nat}(hk:(ops[j]?).bind (·.dst)=some k)(hb:γ.lookup k=some (.bool (!want)))(hs:E6 N op=true)(aa:decide (t<n)=true)
  (h:DOps P ro n ops Q rest ⟨(t,.tup [])::γ,O,df⟩):DOps P ro n ops Q (⟨some t,op,ty,pos,after,some (j,want)⟩::rest) ⟨γ,O,df⟩:=by
 intro g w a r hr ae
 have aK:AC ops γ ⟨some t,op,ty,pos,after,some (j,want)⟩=some false:=by simp only[AC,CX hk hb];simp
 unfold wpListIn
 rw[AN ae.tmps aK,if_neg (by simp)]
 refine⟨fun f hf=>Gd (HZ (by rw[hN];exact hs) w _ f hf (fun _=>rfl)) _,?_⟩
 have h0:Rep g (.tup []) undef:=⟨[],rfl,rfl⟩
 exact h g w _ r hr (ae.put (o:=⟨some t,op,ty,pos,after,some (j,want)⟩) (.refl g) ae.sim h0 aa)
theorem Hw{N:Nat}(hN:P.funcs.size=N){j:Nat}{want:Bool}{k:Nat}(hk:(ops[j]?).bind (·.dst)=some k)(hb:γ.lookup k=some (.tup []))(hs:E6 N op=true)(aa:decide (t<n)=true)
  (h:DOps P ro n ops Q rest ⟨(t,.tup [])::γ,O,df⟩):DOps P ro n ops Q (⟨some t,op,ty,pos,after,some (j,want)⟩::rest) ⟨γ,O,df⟩:=by
 intro g w a r hr ae
 have aK:AC ops γ ⟨some t,op,ty,pos,after,some (j,want)⟩=some false:=by exact wantU hk hb
 unfold wpListIn
 rw[AN ae.tmps aK,if_neg (by simp)]
 refine⟨fun f hf=>Gd (HZ (by rw[hN];exact hs) w _ f hf (fun _=>rfl)) _,?_⟩
 have h0:Rep g (.tup []) undef:=⟨[],rfl,rfl⟩
 exact h g w _ r hr (ae.put (o:=⟨some t,op,ty,pos,after,some (j,want)⟩) (.refl g) ae.sim h0 aa)
theorem BL{t:Nat}{d:D}(h:WkD (getD γ t) d):Wk P n ⟨γ,O,df⟩ ⟨(t,d)::γ,O,df⟩:=
 fun g w a hs=>⟨g,.refl g,⟨hs.sim,⟨hs.tmps.1,fun k=>by
  rw[A3]
  by_cases hk:k=t
  ·subst hk;rw[if_pos rfl];exact h g _ (hs.tmps.2 k)
  ·rw[if_neg hk];exact hs.tmps.2 k⟩,hs.df⟩⟩
theorem P4{dst:Option Tmp}{j:Nat}{want b:Bool}{k:Nat}(hk:(ops[j]?).bind (·.dst)=some k)(hb:γ.lookup k=some (.bool b))
  (h1:b=true->DOps P ro n ops Q (⟨dst,op,ty,pos,after,some (j,want)⟩::rest) ⟨(k,.bool true)::γ,O,df⟩) (h2:b=false->DOps P ro n ops Q (⟨dst,op,ty,pos,after,some (j,want)⟩::rest) ⟨(k,.bool false)::γ,O,df⟩):DOps P ro n ops Q (⟨dst,op,ty,pos,after,some (j,want)⟩::rest) ⟨γ,O,df⟩:=by
 cases b with
 |true=>exact C7 (BL (by rw[Av hb];exact Ab _)) (h1 rfl)
 |false=>exact C7 (BL (by rw[Av hb];exact Ab _)) (h2 rfl)
theorem L4{tab:Nat->Ty}(ht:AP P tab)(hl:A1 γ (A7 op.operands.toList)=some Sr)(he:eopD tab Sr O op=some (d,U'))(aa:decide (t<n)=true)
  (h:DOps P ro n ops Q rest ⟨(t,d)::γ,U',df⟩):DOps P ro n ops Q (⟨some t,op,ty,pos,after,none⟩::rest) ⟨γ,O,df⟩:=
 G2 (o:=⟨some t,op,ty,pos,after,none⟩) ht rfl ((BA (Cn hl)) ▸ he) aa h
theorem Eo{tab:Nat->Ty}(ht:AP P tab)(hl:A1 γ (A7 op.operands.toList)=some Sr)(he:eopD tab Sr O op=some (d,U'))
  (h:DOps P ro n ops Q rest ⟨γ,U',df⟩):DOps P ro n ops Q (⟨none,op,ty,pos,after,none⟩::rest) ⟨γ,O,df⟩:=
 G2 (o:=⟨none,op,ty,pos,after,none⟩) ht rfl ((BA (Cn hl)) ▸ he) rfl h
theorem Uq{tab:Nat->Ty}(ht:AP P tab)(vars:List Nat){T T' ty':Nat}{x:Operand}{pos':String}{after':Array Edge}{cs:List D}(hv:vars.contains t=false)(hT:T'=T)(aa:decide (t<n)=true)(hx:F6 t x=true)(ho:A0 (tab T).k=false)
  (hl:A1 γ (A7 [x])=some Sr) (he:ev Sr x=d) (ag:d.told=true) (hc:d.cells=cs) (hlen:cs.length=(tab T).size) (ak:BS cs=true)
  (h:DOps P ro n ops Q rest ⟨(t,.cptr cs 0)::γ,O,df⟩) :
  DOps P ro n ops Q (⟨some t,.alloc T,ty,pos,after,none⟩::⟨none,.store T' (.tmp t) x,ty',pos',after',none⟩::rest) ⟨γ,O,df⟩:=by
 rw[Cu hl]at he
 subst he;subst hT;subst hc
 exact NG ht ho (by simpa using aa) (GW ht hx) ag hlen ak h
theorem Hl{id:Nat}{l:List Oper}(h:DOps P ro n l.toArray Q l ⟨γ,O,df⟩):DWp P ro n (.region id l.toArray false) Q ⟨γ,O,df⟩:=PK h
theorem LS{c:Operand}{x y:Code}{b:Bool}{Sr:Fr}(hl:A1 γ (A7 [c])=some Sr)(hc:ev Sr c=.bool b)(ht:b=true->DWp P ro n x Q ⟨γ,O,df⟩)(hf:b=false->DWp P ro n y Q ⟨γ,O,df⟩):
  DWp P ro n (.cond c x y) Q ⟨γ,O,df⟩:=OJ (s:=⟨γ,O,df⟩) (by rw[<-Cu hl];exact hc) ht hf
theorem Hz{c:Operand}{x y:Code}{Sr:Fr}(hl:A1 γ (A7 [c])=some Sr)(hc:ev Sr c=.bool true)(h:DWp P ro n x Q ⟨γ,O,df⟩):
  DWp P ro n (.cond c x y) Q ⟨γ,O,df⟩:=LS hl hc (fun _=>h) (fun e=>by cases e)
theorem HA{c:Operand}{x y:Code}{Sr:Fr}(hl:A1 γ (A7 [c])=some Sr)(hc:ev Sr c=.bool false)(h:DWp P ro n y Q ⟨γ,O,df⟩):
  DWp P ro n (.cond c x y) Q ⟨γ,O,df⟩:=LS hl hc (fun e=>by cases e) (fun _=>h)
theorem GN{fop:Operand}{args:Array Operand}{ats:Array TypeId}{f:Nat}{first cap us bs:List D}{R:DE->Sig->Prop}{dst:Option Tmp}
  (hl:A1 γ (A7 (fop::args.toList))=some Sr) (hf:ev Sr fop=.func (.func f) first cap) (ha:first++args.toList.map (ev Sr)++cap=us) (hw:bs=us\/bs=us.map D.plain) (h:DCall P f bs O R)
  (ho:At n ⟨dst,(cv fop args ats),ty,pos,after,none⟩=true)
  (ah:∀d U',R (.ret d) U'->DOps P ro n ops Q rest ⟨putD dst d γ,U',df⟩)
  (ai:∀d U',R (.panic d) U'->Q (.panic d) ⟨γ,U',df⟩) :
  DOps P ro n ops Q (⟨dst,(cv fop args ats),ty,pos,after,none⟩::rest) ⟨γ,O,df⟩:=by
 have hx:∀x∈fop::args.toList,ev Sr x=ev γ x:=fun x hx=>Be fun t ht=>Au hl t (AB (by rw[<-ht];exact hx))
 refine DC (az:=bs) rfl (by rw[<-hx fop (by simp)];exact hf) h ?_ ho ah ai
 rw[show args.toList.map (ev γ)=args.toList.map (ev Sr) from List.map_congr_left fun x h=>(hx x (by simp[h])).symm,ha]
 rcases hw with rfl|rfl
 ·exact D7 _
 ·exact CK _
theorem K6{fop:Operand}{args:Array Operand}{ats:Array TypeId}{f:Nat}{first cap us bs:List D}{d:D}
  (hl:A1 γ (A7 (fop::args.toList))=some Sr) (hf:ev Sr fop=.func (.func f) first cap) (ha:first++args.toList.map (ev Sr)++cap=us) (hw:bs=us\/bs=us.map D.plain) (h:DCall P f bs O (rS d O))
  (aa:decide (t<n)=true) (k:DOps P ro n ops Q rest ⟨(t,d)::γ,O,df⟩) :
  DOps P ro n ops Q (⟨some t,(cv fop args ats),ty,pos,after,none⟩::rest) ⟨γ,O,df⟩:=
 GN hl hf ha hw h aa (fun d' U' ⟨e1,e2⟩=>by cases e1;subst e2;exact k) (fun d' U' ⟨e1,e2⟩=>by cases e1)
theorem K7{fop:Operand}{args:Array Operand}{ats:Array TypeId}{f:Nat}{first cap us bs:List D}{R:DE->Sig->Prop}{dst:Option Tmp}{j:Nat}{want:Bool}{k:Nat}(hk:(ops[j]?).bind (·.dst)=some k)(hb:γ.lookup k=some (.bool want))
  (hl:A1 γ (A7 (fop::args.toList))=some Sr) (hf:ev Sr fop=.func (.func f) first cap) (ha:first++args.toList.map (ev Sr)++cap=us) (hw:bs=us\/bs=us.map D.plain) (h:DCall P f bs O R)
  (ho:At n ⟨dst,(cv fop args ats),ty,pos,after,some (j,want)⟩=true)
  (ah:∀d U',R (.ret d) U'->DOps P ro n ops Q rest ⟨putD dst d γ,U',df⟩)
  (ai:∀d U',R (.panic d) U'->Q (.panic d) ⟨γ,U',df⟩) :
  DOps P ro n ops Q (⟨dst,(cv fop args ats),ty,pos,after,some (j,want)⟩::rest) ⟨γ,O,df⟩:=by
 have hx:∀x∈fop::args.toList,ev Sr x=ev γ x:=fun x hx=>Be fun t ht=>Au hl t (AB (by rw[<-ht];exact hx))
 refine DC (az:=bs) (by simp only[AC,CX hk hb];simp) (by rw[<-hx fop (by simp)];exact hf) h ?_ ho ah ai
 rw[show args.toList.map (ev γ)=args.toList.map (ev Sr) from List.map_congr_left fun x h=>(hx x (by simp[h])).symm,ha]
 rcases hw with rfl|rfl
 ·exact D7 _
 ·exact CK _
theorem IF{fop:Operand}{args:Array Operand}{ats:Array TypeId}{f:Nat}{first cap us bs:List D}{d:D}{j:Nat}{want:Bool}{k:Nat}(hk:(ops[j]?).bind (·.dst)=some k)(hb:γ.lookup k=some (.bool want))
  (hl:A1 γ (A7 (fop::args.toList))=some Sr) (hf:ev Sr fop=.func (.func f) first cap) (ha:first++args.toList.map (ev Sr)++cap=us) (hw:bs=us\/bs=us.map D.plain) (h:DCall P f bs O (rS d O))
  (aa:decide (t<n)=true) (kk:DOps P ro n ops Q rest ⟨(t,d)::γ,O,df⟩) :
  DOps P ro n ops Q (⟨some t,(cv fop args ats),ty,pos,after,some (j,want)⟩::rest) ⟨γ,O,df⟩:=
 K7 hk hb hl hf ha hw h aa (fun d' U' ⟨e1,e2⟩=>by cases e1;subst e2;exact kk) (fun d' U' ⟨e1,e2⟩=>by cases e1)
end
@[simp] theorem nat_eq_int(a b:Nat):((a:Int)=(b:Int))=(a=b):=propext Int.ofNat_inj
@[simp] theorem QA(a:Nat):((a+1:Nat):Int)=(a:Int)+1:=rfl
def Do(γ:Fr):List Nat->Option Fr
 |[]=>some []
 | t::ts=>match γ.lookup t with
  |some d=>match Do γ ts with
   |some r=>some ((t,d)::r)
   |none=>none
  |none=>Do γ ts
def TellsR(γ:Fr):Fr->Prop
 |[]=>True
 |p::r=>WkD (getD γ p.1) p.2/\TellsR γ r
theorem TellsR.get{γ:Fr}: ∀{V':Fr},TellsR γ V'->∀t,WkD (getD γ t) (getD V' t)
 |[],_,t=>Ei _
 |p::r,h,t=>by
  rw[show p::r=(p.1,p.2)::r from rfl,A3]
  by_cases ht:t=p.1
  ·rw[if_pos ht,ht];exact h.1
  ·rw[if_neg ht];exact TellsR.get h.2 t
theorem Fh{γ:Fr}:TellsR γ []:=trivial
theorem Em{γ r:Fr}{t:Nat}{d d':D}(hl:γ.lookup t=some d')(h:WkD d' d)(k:TellsR γ r):TellsR γ ((t,d)::r):=⟨by rw[Av hl];exact h,k⟩
theorem Fi{γ a b:Fr}(h:TellsR γ a)(k:TellsR γ b):TellsR γ (a++b):=by
 induction a with
 |nil=>exact k
 |cons p a ih=>exact⟨h.1,ih h.2⟩
theorem KU{P:Program}{n:Nat}{γ V':Fr}{O U':Sig}{df:List DDf}(h:TellsR γ V')(hZ:Sub U' O):Wk P n ⟨γ,O,df⟩ ⟨V',U',df⟩:=
 fun g w a hs=>⟨g,.refl g,⟨hs.sim.sub hZ,⟨hs.tmps.1,fun t=>h.get t g _ (hs.tmps.2 t)⟩,hs.df⟩⟩
theorem BN{O U':Sig}(h:U'=O):Sub U' O:=h ▸ Sub.refl _
theorem EC{P:Program}{ro:Ro}{n:Nat}{Q:DX->St->Prop}{df:List DDf}{γ Sk:Fr}{O:Sig}{α:Type}{c:Code}(keep:List Nat)(I:α->Prop)(ov:α->Fr)(sg:α->Sig)(μ:α->Nat)(x0:α)(hk:Do γ keep=some Sk)(h0:I x0)(h1:TellsR γ (ov x0++Sk))(h2:Sub (sg x0) O)
  (round:∀x,I x->DWp P ro n c (Then (fun s'=> ∃x',I x'/\μ x'<μ x/\Wk P n s' ⟨ov x'++Sk,sg x',df⟩) Q) ⟨ov x++Sk,sg x,df⟩):DWp P ro n (.loop c) Q ⟨γ,O,df⟩:=by
 refine OI (fun x:{x // I x}=>⟨ov x.1++Sk,sg x.1,df⟩) (fun x=>μ x.1) ⟨x0,h0⟩ (KU h1 h2) fun x=>Ec (round x.1 x.2) ?_
 intro e s h
 cases e with
 |normal=>obtain⟨x',h3,h4,h5⟩:=h;exact⟨⟨x',h3⟩,h4,h5⟩
 |_=>exact h
theorem PM{P:Program}{ro:Ro}{n:Nat}{Q:DX->St->Prop}{df:List DDf}{γ Sk:Fr}{O:Sig}{α β:Type}{c:Code}(keep:List Nat)(I:α->β->Prop)(ov:α->β->Fr)(sg:α->β->Sig)(μ:α->β->Nat)(x0:α)(y0:β)(hk:Do γ keep=some Sk)(h0:I x0 y0)(h1:TellsR γ (ov x0 y0++Sk))(h2:Sub (sg x0 y0) O)
  (round:∀x y,I x y->DWp P ro n c (Then (fun s'=> ∃x' y',I x' y'/\μ x' y'<μ x y/\Wk P n s' ⟨ov x' y'++Sk,sg x' y',df⟩) Q) ⟨ov x y++Sk,sg x y,df⟩):DWp P ro n (.loop c) Q ⟨γ,O,df⟩:=by
 refine EC (α:=α×β) keep (fun x=>I x.1 x.2) (fun x=>ov x.1 x.2) (fun x=>sg x.1 x.2) (fun x=>μ x.1 x.2) (x0,y0) hk h0 h1 h2 fun x hx=>Ec (round x.1 x.2 hx) ?_
 intro e s h
 cases e with
 |normal=>obtain⟨x',y',h3,h4,h5⟩:=h;exact⟨(x',y'),h3,h4,h5⟩
 |_=>exact h
theorem PL{P:Program}{ro:Ro}{n:Nat}{Q:DX->St->Prop}{df:List DDf}{γ Sk:Fr}{O:Sig}{α β δ:Type}{c:Code}(keep:List Nat)(I:α->β->δ->Prop)(ov:α->β->δ->Fr)(sg:α->β->δ->Sig)(μ:α->β->δ->Nat)(x0:α)(y0:β)(z0:δ)(hk:Do γ keep=some Sk)(h0:I x0 y0 z0)(h1:TellsR γ (ov x0 y0 z0++Sk))(h2:Sub (sg x0 y0 z0) O)
  (round:∀x y z,I x y z->DWp P ro n c (Then (fun s'=> ∃x' y' z',I x' y' z'/\μ x' y' z'<μ x y z/\Wk P n s' ⟨ov x' y' z'++Sk,sg x' y' z',df⟩) Q) ⟨ov x y z++Sk,sg x y z,df⟩):DWp P ro n (.loop c) Q ⟨γ,O,df⟩:=by
 refine EC (α:=α×β×δ) keep (fun x=>I x.1 x.2.1 x.2.2) (fun x=>ov x.1 x.2.1 x.2.2) (fun x=>sg x.1 x.2.1 x.2.2) (fun x=>μ x.1 x.2.1 x.2.2) (x0,y0,z0) hk h0 h1 h2 fun x hx=>Ec (round x.1 x.2.1 x.2.2 hx) ?_
 intro e s h
 cases e with
 |normal=>obtain⟨x',y',z',h3,h4,h5⟩:=h;exact⟨(x',y',z'),h3,h4,h5⟩
 |_=>exact h
section
variable (tab:Nat->Ty)(γ:List (Nat×D))(O:Sig)(T T' m f:Nat)(x y z:Operand)(c:Bool)
@[simp] theorem dopX_move:dopX tab γ O (.move x)=some (ev γ x):=rfl
@[simp] theorem dopX_assign:dopX tab γ O (.assign x)=some (ev γ x):=rfl
@[simp] theorem dopX_pick:dopX tab γ O (.pick x y z)=Ns (ev γ x) (ev γ y) (ev γ z):=by unfold dopX;simp only[dop,dop2];cases Ns (ev γ x) (ev γ y) (ev γ z)<;>rfl
@[simp] theorem dopX_box:dopX tab γ O (.box T x)=boxD (ev γ x):=by unfold dopX;simp only[dop,dop2];cases boxD (ev γ x)<;>rfl
@[simp] theorem dopX_load:dopX tab γ O (.load T x)=JM (tab T) O (ev γ x):=by unfold dopX;simp only[dop,dop2];cases JM (tab T) O (ev γ x)<;>rfl
@[simp] theorem dopX_nil:dopX tab γ O (.nilCheck x)=nilD (ev γ x):=by unfold dopX;simp only[dop,dop2];cases nilD (ev γ x)<;>rfl
@[simp] theorem dopX_bin(o:BinOp):dopX tab γ O (.binOp o T x y T')=binD o (ev γ x) (ev γ y):=by unfold dopX;simp only[dop,dop2];cases binD o (ev γ x) (ev γ y)<;>rfl
@[simp] theorem dopX_un(o:UnOp):dopX tab γ O (.unOp o T x)=unD o (ev γ x):=by unfold dopX;simp only[dop,dop2];cases unD o (ev γ x)<;>rfl
@[simp] theorem dopX_conv:dopX tab γ O (.convert T T' x)=TS (A0 (tab T).k) (tab T').k (ev γ x):=by unfold dopX;simp only[dop,dop2];cases TS (A0 (tab T).k) (tab T').k (ev γ x)<;>rfl
@[simp] theorem dopX_mkif:dopX tab γ O (.makeInterface T x)=QV (tab T) T (ev γ x):=by unfold dopX;simp only[dop,dop2];cases QV (tab T) T (ev γ x)<;>rfl
@[simp] theorem dopX_mkfn(fn:Fn)(a b:Array Operand):dopX tab γ O (.makeFunc fn a b)=some (.func fn (a.toList.map (ev γ)) (b.toList.map (ev γ))):=rfl
@[simp] theorem dopX_fa:dopX tab γ O (.fieldAddr T x f)=DB tab f (ev γ x) (tab T).k:=by unfold dopX;simp only[dop,dop2];cases DB tab f (ev γ x) (tab T).k<;>rfl
@[simp] theorem dopX_fi:dopX tab γ O (.field T x f)=Mh tab f (tab T).k (ev γ x):=by unfold dopX;simp only[dop,dop2];cases Mh tab f (tab T).k (ev γ x)<;>rfl
@[simp] theorem dopX_ia:dopX tab γ O (.indexAddr T x y)=CI tab (tab T).k (ev γ x) (ev γ y):=by unfold dopX;simp only[dop,dop2];cases CI tab (tab T).k (ev γ x) (ev γ y)<;>rfl
@[simp] theorem dopX_ex:dopX tab γ O (.extract x f)=Hg f (ev γ x):=by unfold dopX;simp only[dop,dop2];cases Hg f (ev γ x)<;>rfl
@[simp] theorem dopX_bs(ps:Array (Nat×Operand)):dopX tab γ O (.buildSlice T m ps)=HV tab γ m ps.toList (tab T).k:=by unfold dopX;simp only[dop,dop2];cases HV tab γ m ps.toList (tab T).k<;>rfl
@[simp] theorem dopX_sl(a b d:Option Operand):dopX tab γ O (.slice T x a b d)=IH tab (tab T).k (ev γ x) (a.map (ev γ)) (b.map (ev γ)) (d.map (ev γ)):=rfl
@[simp] theorem dopX_lk:dopX tab γ O (.lookup T x y c)=Gy tab O c (tab T).k (ev γ x) (ev γ y):=rfl
@[simp] theorem dopX_ta:dopX tab γ O (.typeAssert x T T' c)=JG tab T' c (ev γ x):=rfl
@[simp] theorem dopX_bd(ps:Array (Nat×Operand)):dopX tab γ O (.build T ps)=N6 tab T (ps.toList.map fun p=>(p.1,ev γ p.2)) (tab T).k:=rfl
@[simp] theorem dopX_len (xs:Array Operand) (ts:Array TypeId):dopX tab γ O (.call { callee := .builtin .len,args:=xs,argTypes:=ts })=match lenC tab γ ts.toList xs.toList with
  |some d=>some d
  |none=>HK tab γ O ts.toList xs.toList:=rfl
@[simp] theorem dopX_max(ts:Array TypeId):dopX tab γ O (.call { callee:=.builtin .max,args:= #[x,y],argTypes:=ts })=M2 true (ev γ x) (ev γ y):=rfl
@[simp] theorem dopX_min(ts:Array TypeId):dopX tab γ O (.call { callee:=.builtin .min,args:= #[x,y],argTypes:=ts })=M2 false (ev γ x) (ev γ y):=rfl
@[simp] theorem eopD_store:eopD tab γ O (.store T x y)=En tab O T (ev γ x) (ev γ y):=rfl
@[simp] theorem eopD_upd:eopD tab γ O (.mapUpdate T x y z)=updD tab O (tab T).k (ev γ x) (ev γ y) (ev γ z):=rfl
@[simp] theorem eopD_ins:eopD tab γ O (.insert T x y z)=updD tab O (tab T).k (ev γ x) (ev γ y) (ev γ z):=rfl
@[simp] theorem eopD_app(ts:Array TypeId):eopD tab γ O (.call { callee:=.builtin .append,args:= #[x,y],argTypes:=ts })=appD tab O ts.toList (ev γ x) (ev γ y):=rfl
end
def nthO:List Oper->Nat->Option Oper
 |[],_=>none
 |o::_,0=>some o
 |_::l,i+1=>nthO l i
theorem HF: ∀(l:List Oper) (i:Nat),nthO l i=l[i]?
 |[],_=>rfl
 |_::_,0=>rfl
 |_::l,i+1=>by rw[nthO,HF l i];rfl
def Gs (ops:List Oper) (E:List Nat):List Nat->Option (List (Bool × Oper))
 |[]=>some []
 | i::r=>match nthO ops i with
  | some o=>match Gs ops E r with
   |some l=>match E.contains i with
    |true=>some ((true,o)::l)
    |false=>some ((false,o)::l)
   |none=>none
  |none=>none
theorem IN{ops:List Oper}{E:List Nat}: ∀{ord:List Nat}{lp:List (Bool×Oper)},Gs ops E ord=some lp->pick ops.toArray E ord=lp
 |[],_,h=>by cases h;rfl
 |i::r,lp,h=>by
  simp only[Gs]at h
  split at h<;>(try (cases h;done))
  rename_i o ho
  rw[HF]at ho
  split at h<;>(try (cases h;done))
  rename_i l hl
  have ih:=IN hl
  unfold pick at ih⊢
  rw[List.filterMap_cons,List.getElem?_toArray,ho]
  simp only[Option.map_some]
  rw[ih]
  split at h<;>(cases h;rename_i he;rw[he])
section
variable {P:Program}{ro:Ro}{n:Nat}{ops:Array Oper}{N:Nat}{S0:Sig}{Q:DX->St->Prop}{df:List DDf}{γ Sr:List (Nat×D)}{O U':Sig}{t:Nat}{op:Op}{ty:TypeId}{pos:String}{after:Array Edge}{d:D}{e:Bool}{l:List (Bool×Oper)}
theorem OG(hN:P.funcs.size=N)(hm:P.follows .mixedOrders=true){lo:List Oper}{id:Nat}(ord E:List Nat)(S0:Sig)(hB:F7 lo.toArray E ord=true)(hC:Sub S0 O)
  {lp:List (Bool×Oper)} (hl:Gs lo E ord=some lp) (h:MO P ro n lo.toArray N S0 Q df lp γ O):DWp P ro n (.region id lo.toArray true) Q ⟨γ,O,df⟩:=
 VD hN hm ord E S0 hB hC (IN hl) h
theorem In: ∀(l:List (Bool×Oper)) {γ V':Fr}{O:Sig},Alike γ V'->MO P ro n ops N S0 Q df l γ O->MO P ro n ops N S0 Q df l V' O
 |[],_,_,_,h,k=>C5 h k
 |(e,o)::r,_,_,_,h,k=>(match k with
  |.inl ⟨d,h2,h3⟩=>.inl ⟨d,h2.congr fun t _=>h t,In r (h.put _ _) h3⟩
  |.inr ⟨h1,h2⟩=>.inr ⟨h1,h2.congr (fun t _=>h t) fun d U' ⟨h3,h4⟩=>⟨h3,In r (h.put _ _) h4⟩⟩)
theorem QP{tab:Nat->Ty}(ht:AP P tab){o:Oper}(hr:Db o.op=true)(ho:At n o=true)(hw:AC ops γ o=some true)(hd:dopX tab γ S0 o.op=some d)
  (h:MO P ro n ops N S0 Q df l (putD o.dst d γ) O):MO P ro n ops N S0 Q df ((e,o)::l) γ O:=by
 refine .inl ⟨d,⟨ho,.inl ⟨by rw[Ak];exact hw,BH hr,GG ht hd,fun U' hZ g w a hs hT=>?_⟩⟩,h⟩
 refine DS ht hs hT (?_:dopX tab (only (o.looksAt ops) γ) U' o.op=some d)
 rw[B2 (V':=γ) fun x hx=>AR hx]
 exact DT hZ hd
theorem Lh{tab:Nat->Ty}(ht:AP P tab)(hr:Db op=true)(aa:decide (t<n)=true)(hl:A1 γ (A7 op.operands.toList)=some Sr)(hd:dopX tab Sr S0 op=some d)
  (h:MO P ro n ops N S0 Q df l ((t,d)::γ) O):MO P ro n ops N S0 Q df ((e,⟨some t,op,ty,pos,after,none⟩)::l) γ O:=
 QP (o:=⟨some t,op,ty,pos,after,none⟩) ht hr aa rfl ((B2 (Cn hl)) ▸ hd) h
theorem Lg{tab:Nat->Ty}(ht:AP P tab){j:Nat}{want:Bool}{k:Nat}(hr:Db op=true)(aa:decide (t<n)=true)(hk:(ops[j]?).bind (·.dst)=some k)(hb:γ.lookup k=some (.bool want))(hl:A1 γ (A7 op.operands.toList)=some Sr)(hd:dopX tab Sr S0 op=some d)
  (h:MO P ro n ops N S0 Q df l ((t,d)::γ) O):MO P ro n ops N S0 Q df ((e,⟨some t,op,ty,pos,after,some (j,want)⟩)::l) γ O:=
 QP (o:=⟨some t,op,ty,pos,after,some (j,want)⟩) ht hr aa (by simp only[AC,CX hk hb];simp) ((B2 (Cn hl)) ▸ hd) h
theorem Lf{j:Nat}{want:Bool}{k:Nat}(hk:(ops[j]?).bind (·.dst)=some k)(hb:γ.lookup k=some (.bool (!want)))(hs:E6 N op=true)(aa:decide (t<n)=true)
  (h:MO P ro n ops N S0 Q df l ((t,.tup [])::γ) O):MO P ro n ops N S0 Q df ((e,⟨some t,op,ty,pos,after,some (j,want)⟩)::l) γ O:=
 QK (o:=⟨some t,op,ty,pos,after,some (j,want)⟩) (by simp only[AC,CX hk hb];simp) aa hs h
theorem Le{j:Nat}{want:Bool}{k:Nat}(hk:(ops[j]?).bind (·.dst)=some k)(hb:γ.lookup k=some (.tup []))(hs:E6 N op=true)(aa:decide (t<n)=true)
  (h:MO P ro n ops N S0 Q df l ((t,.tup [])::γ) O):MO P ro n ops N S0 Q df ((e,⟨some t,op,ty,pos,after,some (j,want)⟩)::l) γ O:=
 QK (o:=⟨some t,op,ty,pos,after,some (j,want)⟩) (by exact wantU hk hb) aa hs h
theorem UE{dst:Option Tmp}{j:Nat}{want b:Bool}{k:Nat}(hk:(ops[j]?).bind (·.dst)=some k)(hb:γ.lookup k=some (.bool b))
  (h1:b=true->MO P ro n ops N S0 Q df ((e,⟨dst,op,ty,pos,after,some (j,want)⟩)::l) ((k,.bool true)::γ) O) (h2:b=false->MO P ro n ops N S0 Q df ((e,⟨dst,op,ty,pos,after,some (j,want)⟩)::l) ((k,.bool false)::γ) O) :
  MO P ro n ops N S0 Q df ((e,⟨dst,op,ty,pos,after,some (j,want)⟩)::l) γ O:=by
 have al:∀c,b=c->Alike ((k,.bool c)::γ) γ:=by
  rintro c rfl t
  rw[A3]
  by_cases ht:t=k
  ·subst ht;rw[if_pos rfl,Av hb]
  ·rw[if_neg ht]
 cases b with
 |true=>exact In _ (al true rfl) (h1 rfl)
 |false=>exact In _ (al false rfl) (h2 rfl)
theorem QN{tab:Nat->Ty}(ht:AP P tab){o:Oper}(ho:At n o=true)(hw:AC ops γ o=some true)(he:eopD tab γ O o.op=some (d,U'))(hC:Sub S0 U')
  (h:MO P ro n ops N S0 Q df l (putD o.dst d γ) U'):MO P ro n ops N S0 Q df ((true,o)::l) γ O:=by
 refine .inr ⟨rfl,ho,by rw[Ak];exact hw,?_⟩
 refine G2 ht (by rw[Ak];exact hw) (by rw[BA (V':=γ) fun x hx=>AR hx];exact he) ho (Aw ⟨rfl,?_⟩)
 cases hd:o.dst with
 |none=>rw[hd]at h;exact⟨hC,h⟩
 |some t=>
  rw[hd]at h
  simp only[putD,A3,if_true]
  exact⟨hC,h⟩
theorem Nu{tab:Nat->Ty}(ht:AP P tab)(hl:A1 γ (A7 op.operands.toList)=some Sr)(he:eopD tab Sr O op=some (d,U'))(aa:decide (t<n)=true)(hC:Sub S0 U')
  (h:MO P ro n ops N S0 Q df l ((t,d)::γ) U'):MO P ro n ops N S0 Q df ((true,⟨some t,op,ty,pos,after,none⟩)::l) γ O:=
 QN (o:=⟨some t,op,ty,pos,after,none⟩) ht aa rfl ((BA (Cn hl)) ▸ he) hC h
theorem DM{tab:Nat->Ty}(ht:AP P tab)(hl:A1 γ (A7 op.operands.toList)=some Sr)(he:eopD tab Sr O op=some (d,U'))(hC:Sub S0 U')
  (h:MO P ro n ops N S0 Q df l γ U'):MO P ro n ops N S0 Q df ((true,⟨none,op,ty,pos,after,none⟩)::l) γ O:=
 QN (o:=⟨none,op,ty,pos,after,none⟩) ht rfl rfl ((BA (Cn hl)) ▸ he) hC h
theorem Li{fop:Operand}{args:Array Operand}{ats:Array TypeId}{f:Nat}{first cap us bs:List D}{R:DE->Sig->Prop}{dst:Option Tmp}{guard:Option (Nat×Bool)}
  (hw:AC ops γ ⟨dst,(cv fop args ats),ty,pos,after,guard⟩=some true)
  (hl:A1 γ (A7 (fop::args.toList))=some Sr) (hf:ev Sr fop=.func (.func f) first cap) (ha:first++args.toList.map (ev Sr)++cap=us) (hb:bs=us\/bs=us.map D.plain) (h:DCall P f bs O R)
  (ho:At n ⟨dst,(cv fop args ats),ty,pos,after,guard⟩=true)
  (ah:∀d U',R (.ret d) U'->Sub S0 U'/\MO P ro n ops N S0 Q df l (putD dst d γ) U')
  (ai:∀d U',R (.panic d) U'->∀V',Q (.panic d) ⟨V',U',df⟩) :
  MO P ro n ops N S0 Q df ((true,⟨dst,(cv fop args ats),ty,pos,after,guard⟩)::l) γ O:=by
 have hx:∀x∈fop::args.toList,ev Sr x=ev γ x:=fun x hx=>Be fun t ht=>Au hl t (AB (by rw[<-ht];exact hx))
 have aV:∀x∈((cv fop args ats)).operands,ev (only (Oper.looksAt ops ⟨dst,(cv fop args ats),ty,pos,after,guard⟩) γ) x=ev γ x:=fun x hx=>AR (o:=⟨dst,(cv fop args ats),ty,pos,after,guard⟩) hx
 refine .inr ⟨rfl,ho,by rw[Ak];exact hw,?_⟩
 refine DC (first:=first) (cap:=cap) (f:=f) (R:=R) ?_ ?_ h ?_ ho ?_ ?_
 ·show AC ops (only _ γ) _=some true
  rw[Ak];exact hw
 ·rw[aV fop (by simp[Op.operands,Call.operands]),<-hx fop (by simp)];exact hf
 ·simp only
  rw[show args.toList.map (ev (only (Oper.looksAt ops ⟨dst,(cv fop args ats),ty,pos,after,guard⟩) γ))=args.toList.map (ev Sr) from List.map_congr_left fun x hm=>by
   rw[aV x (by simp at hm;simp[Op.operands,Call.operands,hm]),<-hx x (by simp[hm])],ha]
  rcases hb with rfl|rfl
  ·exact D7 _
  ·exact CK _
 ·intro d U' hR
  obtain⟨h1,h2⟩:=ah d U' hR
  refine Aw ⟨rfl,?_⟩
  cases dst with
  |none=>exact⟨h1,h2⟩
  |some t=>simp only[putD,A3,if_true];exact⟨h1,h2⟩
 ·intro d U' hR
  exact⟨rfl,ai d U' hR⟩
theorem UG{fop:Operand}{args:Array Operand}{ats:Array TypeId}{f:Nat}{first cap us bs:List D}
  (hl:A1 γ (A7 (fop::args.toList))=some Sr) (hf:ev Sr fop=.func (.func f) first cap) (ha:first++args.toList.map (ev Sr)++cap=us) (hw:bs=us\/bs=us.map D.plain) (h:DCall P f bs O (rS d O))
  (aa:decide (t<n)=true) (hC:Sub S0 O) (k:MO P ro n ops N S0 Q df l ((t,d)::γ) O) :
  MO P ro n ops N S0 Q df ((true,⟨some t,(cv fop args ats),ty,pos,after,none⟩)::l) γ O:=
 Li rfl hl hf ha hw h aa (fun d' U' ⟨e1,e2⟩=>by cases e1;subst e2;exact⟨hC,k⟩) (fun d' U' ⟨e1,e2⟩=>by cases e1)
theorem QQ{fop:Operand}{args:Array Operand}{ats:Array TypeId}{f:Nat}{first cap us bs:List D}{j:Nat}{want:Bool}{k:Nat}(hk:(ops[j]?).bind (·.dst)=some k)(hb:γ.lookup k=some (.bool want))
  (hl:A1 γ (A7 (fop::args.toList))=some Sr) (hf:ev Sr fop=.func (.func f) first cap) (ha:first++args.toList.map (ev Sr)++cap=us) (hw:bs=us\/bs=us.map D.plain) (h:DCall P f bs O (rS d O))
  (aa:decide (t<n)=true) (hC:Sub S0 O) (kk:MO P ro n ops N S0 Q df l ((t,d)::γ) O) :
  MO P ro n ops N S0 Q df ((true,⟨some t,(cv fop args ats),ty,pos,after,some (j,want)⟩)::l) γ O:=
 Li (by simp only[AC,CX hk hb];simp) hl hf ha hw h aa (fun d' U' ⟨e1,e2⟩=>by cases e1;subst e2;exact⟨hC,kk⟩) (fun d' U' ⟨e1,e2⟩=>by cases e1)
end
section
variable {P:Program}{ro:Ro}{n:Nat}{ops:Array Oper}{Q:DX->St->Prop}{df:List DDf}{rest:List Oper}{γ Sr Sr2:List (Nat×D)}{O:Sig}{t t2:Nat}{d d2:D}
theorem Qk{tab:Nat->Ty}(ht:AP P tab)(vars:List Nat){T T' ty ty' ty2:Nat}{x y:Operand}{pos pos' pos2:String}{after after' after2:Array Edge}{cs:List D}(hv:vars.contains t=false)(hT:T'=T)(aa:decide (t<n)=true)(aN:decide (t2<n)=true)(hx:F6 t x=true)(hy:F6 t y=true)(aJ:F6 t2 x=true)(aI:decide (t2=t)=false)(ho:A0 (tab T).k=false)
  (aX:A1 γ (A7 [y])=some Sr2) (aZ:ev Sr2 y=d2) (hl:A1 γ (A7 [x])=some Sr) (he:ev Sr x=d) (ag:d.told=true) (hc:d.cells=cs) (hlen:cs.length=(tab T).size) (ak:BS cs=true)
  (h:DOps P ro n ops Q rest ⟨(t,.cptr cs 0)::(t2,d2)::γ,O,df⟩) :
  DOps P ro n ops Q (⟨some t,.alloc T,ty,pos,after,none⟩::⟨some t2,.assign y,ty2,pos2,after2,none⟩::⟨none,.store T' (.tmp t) x,ty',pos',after',none⟩::rest) ⟨γ,O,df⟩:=by
 rw[Cu hl]at he
 rw[Cu aX]at aZ
 subst he;subst aZ;subst hT;subst hc
 have aI:t2≠t:=by simpa using aI
 have hx:=GW ht hx
 have hy:=GW ht hy
 have aJ:=GW ht aJ
 refine D5 ht ho (by simpa using aa) fun i hi=>?_
 have bn:ev ((t,.ptr i 0)::γ) y=ev γ y:=by
  cases y with
  |tmp k=>simp only[ev,A3];rw[if_neg fun e=>hy (by rw[e])]
  |_=>rfl
 refine Ju (d:=ev γ y) ht rfl rfl (by rw[<-bn];rfl) aN ?_
 simp only[putD]
 have aG:ev ((t2,ev γ y)::(t,.ptr i 0)::γ) x=ev γ x:=by
  cases x with
  |tmp k=>simp only[ev,A3];rw[if_neg fun e=>aJ (by rw[e]),if_neg fun e=>hx (by rw[e])]
  |_=>rfl
 have hz:(tab T').zero.length=(tab T').size:=by
  obtain⟨_,_,_,_,_,_,_,_,_,_,h8,_⟩:=Cf (ht T') (Af ho)
  exact h8
 refine KF ht rfl ho (x:=.tmp t) (i:=i) (off:=0) (by simp[ev,A3,Ne.symm aI]) (w6 ..) (by rw[aG];exact ag) (by rw[aG];exact hlen) (by rw[aG];exact ak) (by rw[aG];omega) ?_
 rw[aG]
 refine C7 (LK (i:=i) (t:=t) (w6 ..) (by simp[A3,Ne.symm aI])) ?_
 have e1:(tab T').zero.take 0++(ev γ x).cells++(tab T').zero.drop (0+(ev γ x).cells.length)=(ev γ x).cells:=by
  rw[List.drop_of_length_le (by omega)];simp
 rw[w8,Sig.set_del _ _ hi,e1]
 refine C5 (γ:=(t,.cptr (ev γ x).cells 0)::(t2,ev γ y)::γ) (fun k=>?_) h
 simp only[A3]
 split
 ·rfl
 ·split<;>rfl
end
end Go.DL
