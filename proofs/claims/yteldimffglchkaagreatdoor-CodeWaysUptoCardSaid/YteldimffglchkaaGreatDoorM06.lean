/- A part of the proof. -/
import Derived.Test.YteldimffglchkaaGreatDoorM05
set_option linter.all false
namespace Go.DL
open Go
def only(L:List Nat)(γ:Fr):Fr:=L.map fun t=>(t,getD γ t)
theorem Gn(γ:Fr)(t:Nat): ∀L:List Nat,getD (only L γ) t=if t∈L then getD γ t else .any
 |[]=>rfl
 |a::L=>by
  have ih:=Gn γ t L
  unfold only at ih⊢
  rw[List.map_cons,A6]
  by_cases h:t=a
  ·subst h;simp
  ·simp only[h,if_false,ih,List.mem_cons,false_or]
theorem Lv{g:G}{γ:Fr}{n:Nat}{tmps:Array Value}(L:List Nat)(h:RepT g γ n tmps):RepT g (only L γ) n tmps:=
 ⟨h.1,fun t=>by
  rw[Gn]
  by_cases ht:t∈L
  ·rw[if_pos ht];exact h.2 t
  ·rw[if_neg ht];trivial⟩
theorem JJ{L:List Nat}{γ V':Fr}(h:∀t∈L,getD γ t=getD V' t):only L γ=only L V':=
 List.map_congr_left fun t ht=>by rw[h t ht]
theorem Bo{γ:Fr}{ops:Array Oper}{o:Oper}{x:Operand}(h:x∈o.op.operands):ev (only (o.looksAt ops) γ) x=ev γ x:=by
 cases x with
 |tmp t=>simp only[ev,Gn];rw[if_pos (G8 h)]
 |_=>rfl
theorem Ak{γ:Fr}{ops:Array Oper}{o:Oper}:Ax ops (only (o.looksAt ops) γ) o=Ax ops γ o:=
 HP fun t ht=>by rw[Gn,if_pos ht]
section mono
variable {tab:Nat->Ty}{O U':Sig}(h:Sub O U'){γ:List (Nat×D)}
include h
theorem GB{x:D}{l:List (D×D)}(e:BZ O x=some l):BZ U' x=some l:=by
 unfold BZ at e⊢
 split at e
 ·exact e
 ·exact e
 ·rename_i id
  split at e<;>(try (cases e;done))
  rename_i l' hi
  rw[h _ _ hi];exact e
 ·cases e
theorem loadT_mono{ty:Ty}{x d:D}(e:Jh ty O x=some d):Jh ty U' x=some d:=by
 unfold Jh at e⊢
 split at e
 ·cases e
 ·rename_i hk
  rw[if_neg hk]
  unfold Ji at e⊢
  split at e
  ·exact e
  ·rename_i id off
   cases hi:O id with
   |none=>simp[hi,De]at e
   |some ob=>rw[h _ _ hi,<-hi];exact e
  ·cases e
theorem V8{op:Op}{d:D}(e:dop tab γ O op=some d):dop tab γ U' op=some d:=by
 cases op<;>first|exact e|(simp only[dop]at e⊢; exact loadT_mono h e)|skip
 case call c=>
  obtain⟨callee,args,ats⟩:=c
  cases callee<;>try exact e
  rename_i b
  cases b<;>exact e
theorem Tr{op:Op}{d:D}(e:dop2 tab γ O op=some d):dop2 tab γ U' op=some d:=by
 cases op<;>first|exact e|skip
 case lookup t x k ok=>
  simp only[dop2]at e⊢
  unfold FM at e⊢
  split at e<;>(try (cases e;done))
  rename_i kt et hk
  split at e<;>(try (cases e;done))
  rename_i hc
  rw[if_neg hc]
  split at e<;>(try (cases e;done))
  rename_i l hl
  rw[GB h hl];exact e
 case call c=>
  simp only[dop2]at e⊢
  unfold Fs at e⊢
  split at e<;>(try (exact e))<;>(try (cases e;done))
  unfold H2 at e⊢
  split at e<;>(try (cases e;done))
  rename_i _ _ x _ _
  split at e<;>(try (cases e;done))
  cases hl:BZ O (ev γ x)with
  |none=>rw[hl]at e;cases e
  |some l=>rw[hl]at e;rw[GB h hl];exact e
theorem F8{op:Op}{d:D}(e:dopX tab γ O op=some d):dopX tab γ U' op=some d:=by
 have key:dop tab γ O op=none->dop tab γ U' op=none\/dop2 tab γ O op=none:=by
  intro hn
  cases op<;>first|exact .inl hn|exact .inr rfl|skip
  case call c=>
   obtain⟨callee,args,ats⟩:=c
   cases callee<;>first|exact .inl hn|skip
   rename_i b
   cases b<;>exact .inl hn
 unfold dopX at e⊢
 split at e
 ·rename_i d' hd
  rw[V8 h hd];exact e
 ·rename_i hd
  rcases key hd with hc|hc
  ·rw[hc];exact Tr h e
  ·rw[hc]at e;cases e
end mono
section
variable (P:Program)(ro:Ro)(n:Nat)(ops:Array Oper)(N:Nat)(S0:Sig)(Q:DX->St->Prop)(df:List DDf)
def EQ(dst:Option Tmp)(R Rp:D->Sig->Prop):DX->St->Prop
 |.normal,s=>s.df=df/\R (match dst with|some t=>getD s.γ t|none=>.any) s.O
 |.panic d,s=>s.df=df/\Rp d s.O
 |_,_=>False
structure Calm(γ:Fr)(o:Oper)(d:D):Prop where
 ok:Ap n o=true
 run:(Ax ops (only (o.looksAt ops) γ) o=some true/\(∀c,o.op≠.defer c)/\(∀(w:World) (ρ:Operand->Value) f,o.about P w ρ=some f->False) /\
   ∀O,Sub S0 O->∀g w (a:Act),Sim P g O w->RepT g (only (o.looksAt ops) γ) n a.tmps->ORun P g O d (execOp a.eval o) w) \/
  (Ax ops (only (o.looksAt ops) γ) o=some false/\DP N o.op=true/\(d=.any\/d=.tup [])) \/
  (Ax ops (only (o.looksAt ops) γ) o=some true /\ ∀O,Sub S0 O->∀ro df,DOps P ro n ops (EQ df o.dst (fun d' U'=>d'=d/\Sub O U') fun _ _=>False) [o] ⟨only (o.looksAt ops) γ,O,df⟩)
structure Eff(γ:Fr)(O:Sig)(o:Oper)(R Rp:D->Sig->Prop):Prop where
 ok:Ap n o=true
 want:Ax ops (only (o.looksAt ops) γ) o=some true
 run:DOps P ro n ops (EQ df o.dst R Rp) [o] ⟨only (o.looksAt ops) γ,O,df⟩
def MOps (E:List Nat):List Nat->Fr->Sig->Prop
  |[],γ,O=>DOps P ro n ops Q [] ⟨γ,O,df⟩
  | i::r,γ,O => ∃ o,ops[i]? = some o /\
    ((∃ d,Calm P n ops N S0 γ o d/\MOps E r (putD o.dst d γ) O) \/
     (E.contains i=true/\Eff P ro n ops df γ O o (fun d U'=>Sub S0 U'/\MOps E r (putD o.dst d γ) U') (fun d U'=> ∀V',Q (.panic d) ⟨V',U',df⟩)))
end
section
variable {P:Program}{ro:Ro}{n:Nat}{ops:Array Oper}{N:Nat}{S0:Sig}{Q:DX->St->Prop}{df:List DDf}{E:List Nat}
theorem Calm.congr{γ V':Fr}{o:Oper}{d:D}(h:∀t∈o.looksAt ops,getD γ t=getD V' t)(hy:Calm P n ops N S0 γ o d):Calm P n ops N S0 V' o d:=by
 have e:=JJ h
 exact⟨hy.ok,by rw[<-e];exact hy.run⟩
theorem BI {Q':DX->St->Prop} (hq : ∀ x s,Q x s->Q' x s) {g:G} {r:Rx} : ∀ (l:List Oper) {a:Act} {w:World},wpListIn (FX P r) 0 P ops (Post P g n Q) l a w->wpListIn (FX P r) 0 P ops (Post P g n Q') l a w
  |[],_,_,⟨g',s',x,h1,h2,h3,h4⟩=>⟨g',s',x,h1,h2,h3,hq _ _ h4⟩
  | o::l,a,w,h=>by
    have pq:∀{e a w},Post P g n Q e a w->Post P g n Q' e a w:=fun ⟨g',s',x,h1,h2,h3,h4⟩=>⟨g',s',x,h1,h2,h3,hq _ _ h4⟩
    unfold wpListIn at h⊢
    split
    · rename_i hw
      rw[if_pos hw]at h
      refine⟨h.1,?_⟩
      have h2:=h.2
      revert h2
      generalize (o.semAt (FX P r).round a.eval).run P w=res
      cases res with
      | ok nx w' =>
        cases nx<;>simp only[Oper.uponIn]<;>first
          |exact fun h=>BI hq l h
          | (rintro ⟨h1,h2⟩
             refine⟨h1,?_⟩
             first
               | (refine h2.mono ?_
                  intro e w'' he
                  cases e<;>first
                    |exact BI hq l he
                    |exact pq he
                    |(obtain⟨a0,w0,he⟩:=he;exact⟨a0,w0,pq he⟩))
               | (refine h2.mono ?_
                  intro v w'' he
                  exact BI hq l he))
          |exact fun h=>h
      |halt x w'=>cases x<;>simp only[Oper.uponIn]<;>first|exact fun h=>pq h|exact fun h=>h
    · rename_i hw
      rw[if_neg hw]at h
      exact⟨h.1,BI hq l h.2⟩
theorem Mx{l:List Oper}{s:St}{Q':DX->St->Prop}(h:DOps P ro n ops Q l s)(hq:∀x s,Q x s->Q' x s):DOps P ro n ops Q' l s:=
 fun g w a r hr hs=>BI hq l (h g w a r hr hs)
theorem Eff.congr{γ V':Fr}{O:Sig}{o:Oper}{R R' Rp:D->Sig->Prop}(h:∀t∈o.looksAt ops,getD γ t=getD V' t)(hy:Eff P ro n ops df γ O o R Rp)(hR:∀d U',R d U'->R' d U'):Eff P ro n ops df V' O o R' Rp:=by
 have e:=JJ h
 refine⟨hy.ok,by rw[<-e];exact hy.want,?_⟩
 rw[<-e]
 refine Mx hy.run fun x s hx=>?_
 cases x with
 |normal=>exact⟨hx.1,hR _ _ hx.2⟩
 |panic d=>exact hx
 |_=>exact hx
theorem MOps.alike: ∀(l:List Nat) {γ V':Fr}{O:Sig},Alike γ V'->MOps P ro n ops N S0 Q df E l γ O->MOps P ro n ops N S0 Q df E l V' O
 |[],_,_,_,h,k=>C0 h k
 |i::r,_,_,_,h,⟨o,ho,k⟩=>⟨o,ho,(match k with
  |.inl ⟨d,h2,h3⟩=>.inl ⟨d,h2.congr fun t _=>h t,MOps.alike r (h.put _ _) h3⟩
  |.inr ⟨h1,h2⟩=>.inr ⟨h1,h2.congr (fun t _=>h t) fun d U' ⟨h3,h4⟩=>⟨h3,MOps.alike r (h.put _ _) h4⟩⟩)⟩
theorem GY{i:Nat}{oi:Oper}(hi:ops[i]? = some oi)(post:List Nat): ∀(pre:List Nat) (γ:Fr) (O:Sig),
  (∀x∈pre,E.contains x=false /\ ∃ox,ops[x]? = some ox/\oi.apart ops ox=true)->MOps P ro n ops N S0 Q df E (pre++i::post) γ O->MOps P ro n ops N S0 Q df E (i::(pre++post)) γ O
 |[],_,_,_,h=>h
 | x::pre,γ,O,hp,h=>by
  obtain⟨aS,ox,aC,be⟩:=hp x (by simp)
  obtain⟨a1,a2,a3⟩:=Oper.apart_spec be
  obtain⟨ox',aB,hx⟩:=h
  obtain rfl:ox'=ox:=by rw[aC]at aB;cases aB;rfl
  rcases hx with⟨d,hy,h⟩|⟨hE,_⟩
  ·obtain⟨oi',aD,hh⟩:=GY hi post pre _ O (fun y hy=>hp y (by simp[hy])) h
   obtain rfl:oi'=oi:=by rw[hi]at aD;cases aD;rfl
   refine⟨oi',hi,?_⟩
   rcases hh with⟨e,h2,h3⟩|⟨h1,h2⟩
   ·refine .inl ⟨e,h2.congr fun t ht=>AD fun hd=>a3 t hd ht,ox',aC,.inl ⟨d,hy.congr fun t ht=>(AD fun hd=>a1 t hd ht).symm,?_⟩⟩
    exact MOps.alike _ (Bq _ _ _ fun t p q=>a2 t p q) h3
   ·refine .inr ⟨h1,h2.congr (fun t ht=>AD fun hd=>a3 t hd ht) fun e U' ⟨h3,h4⟩=>⟨h3,ox',aC,.inl ⟨d,hy.congr fun t ht=>(AD fun hd=>a1 t hd ht).symm,?_⟩⟩⟩
    exact MOps.alike _ (Bq _ _ _ fun t p q=>a2 t p q) h4
  ·rw[aS]at hE;cases hE
def mixB(ops:Array Oper)(E:List Nat):List Nat->List Nat->Bool
 |_,[]=>true
 | done,i::r => !done.contains i && (match ops[i]? with
  |some o=>(o.after.all fun e=> !Region.binds .any e||done.contains e.on)&&done.all fun x=>(!E.contains x&&match ops[x]? with
   |some ox=>o.apart ops ox
   |none=>false)||FK ops ops.size i x
  |none=>false)&&mixB ops E (i::done) r
theorem ER{i:Nat}{l2:List Nat}: ∀(l1 done:List Nat),mixB ops E done (l1++i::l2)=true->i∉l1/\i∉done/\i∉l2 /\ ∃o,ops[i]? = some o/\(∀e∈o.after,Region.binds .any e=true->e.on∈l1\/e.on∈done) /\
   ∀x,x∈l1->FK ops ops.size i x=true\/(E.contains x=false /\ ∃ox,ops[x]? = some ox/\o.apart ops ox=true)
 | [],done,h=>by
  simp only[List.nil_append,mixB,Bool.and_eq_true,Bool.not_eq_true',List.contains_eq_mem,decide_eq_false_iff_not]at h
  obtain⟨⟨h1,h2⟩,h3⟩:=h
  have later:∀(l d:List Nat),i∈d->mixB ops E d l=true->i∉l:=by
   intro l
   induction l with
   |nil=>intro _ _ _ h;cases h
   |cons y l ih=>
    intro d hd hm aa
    simp only[mixB,Bool.and_eq_true,Bool.not_eq_true',List.contains_eq_mem,decide_eq_false_iff_not]at hm
    obtain⟨⟨m1,_⟩,m3⟩:=hm
    rcases List.mem_cons.1 aa with rfl|aa
    ·exact m1 hd
    ·exact ih (y::d) (by simp[hd]) m3 aa
  refine⟨by simp,h1,later l2 _ (by simp) h3,?_⟩
  split at h2
  ·rename_i o ho
   simp only[Bool.and_eq_true]at h2
   refine⟨o,ho,fun e he hb=>?_,fun x hx=>by cases hx⟩
   have:=Array.all_eq_true_iff_forall_mem.1 h2.1 e he
   simp only[hb,Bool.not_true,Bool.false_or,List.contains_eq_mem,decide_eq_true_eq]at this
   exact .inr this
  ·cases h2
 | y::l1,done,h=>by
  simp only[List.cons_append,mixB,Bool.and_eq_true]at h
  obtain⟨h1,h2,h3,o,ho,he,hx⟩:=ER l1 (y::done) h.2
  have aZ:i≠y:=fun e=>h2 (by simp[e])
  refine⟨by simp[aZ,h1],fun hd=>h2 (by simp[hd]),h3,o,ho,fun e hm hb=>?_,?_⟩
  ·rcases he e hm hb with h4|h4
   ·exact .inl (by simp[h4])
   ·rcases List.mem_cons.1 h4 with h5|h5
    ·exact .inl (by simp[h5])
    ·exact .inr h5
  ·intro x aa
   rcases List.mem_cons.1 aa with rfl|aa
   ·
    have back:∀(l d:List Nat),x∈d->mixB ops E d (l++i::l2)=true->FK ops ops.size i x=true\/(E.contains x=false /\ ∃ox,ops[x]? = some ox/\o.apart ops ox=true):=by
     intro l
     induction l with
     | nil =>
      intro d hd hm
      simp only[List.nil_append,mixB,Bool.and_eq_true,ho]at hm
      have:=List.all_eq_true.1 hm.1.2.2 x hd
      simp only[Bool.or_eq_true,Bool.and_eq_true,Bool.not_eq_true']at this
      rcases this.symm with h4|⟨h4,h5⟩
      ·exact .inl h4
      ·refine .inr ⟨h4,?_⟩
       split at h5
       ·rename_i ox aC;exact⟨ox,aC,h5⟩
       ·cases h5
     |cons z l ih=>
      intro d hd hm
      simp only[List.cons_append,mixB,Bool.and_eq_true]at hm
      exact ih (z::d) (by simp[hd]) hm.2
    exact back l1 _ (by simp) h.2
   ·exact hx x aa
def Ew(ops:Array Oper)(E ord:List Nat):Bool:=mixB ops E [] ord&&(List.range ops.size).all ord.contains&&ord.length==ops.size
theorem CP {K:Act->World->Prop} {g0 g:G} {w:World} {a:Act} {r:Rx} {γ:Fr} {O:Sig} {o:Oper} {R Rp:D->Sig->Prop} (hr:RoRep g ro r) (hg:g0.le g)
    (hs:SimS P g n ⟨γ,O,df⟩ a w) (hE:Eff P ro n ops df γ O o R Rp) (hK:∀g' w' a' d U',g.le g'->R d U'->SimS P g' n ⟨putD o.dst d γ,U',df⟩ a' w'->K a' w')
    (hp:∀d U',Rp d U'->∀V',Q (.panic d) ⟨V',U',df⟩) :
    (if Region.wanted o (yielded ops a.tmps) then o.wpIn (FX P r) 0 P a w K (Post P g0 n Q) else(∀f,o.about P w a.eval=some f->(FX P r).fn f)/\K (a.put o.dst undef) w):=by
  have aP:SimS P g n ⟨only (o.looksAt ops) γ,O,df⟩ a w:=⟨hs.sim,Lv _ hs.tmps,hs.df⟩
  have h:=hE.run g w a r hr aP
  have hw:=AH aP.tmps hE.want
  rw[hw,if_pos rfl]
  unfold wpListIn at h
  rw[hw,if_pos rfl]at h
  have fin:∀(a':Act) (w':World) (v:Value),a'.tmps=(a.put o.dst v).tmps->wpListIn (FX P r) 0 P ops (Post P g n (EQ df o.dst R Rp)) [] a' w'->K a' w':=by
    rintro a' w' v hv ⟨g',s',x,l1,l2,l3,l4⟩
    cases x with
    | normal =>
      obtain⟨e1,e2⟩:=l4
      refine hK g' w' a' _ s'.O l1 e2 ⟨l2.sim,⟨l2.tmps.1,fun t=>?_⟩,by rw[<-e1];exact l2.df⟩
      cases hd:o.dst with
      | none =>
        rw[hd]at hv
        simp only[putD,Act.put]at hv⊢
        rw[hv]
        exact Rep.mono l1 _ (hs.tmps.2 t)
      | some k =>
        rw[hd]at hv
        simp only[putD,A6]
        by_cases hk:t=k
        · subst hk;rw[if_pos rfl];exact l2.tmps.2 t
        · rw [if_neg hk,hv]
          simp only[Act.put]
          rw[show(a.tmps.setIfInBounds k v).getD t undef=a.tmps.getD t undef by simp[Array.getD_eq_getD_getElem?, Array.getElem?_setIfInBounds_ne (Ne.symm hk)]]
          exact Rep.mono l1 _ (hs.tmps.2 t)
    |ret=>cases l3
    |exit _=>cases l3
    |panic _=>obtain⟨v,l3,_⟩:=l3;cases l3
  have pan:∀(c:List PanicEntry) (w':World),Post P g n (EQ df o.dst R Rp) (.panic c) a w'->Post P g0 n Q (.panic c) a w':=by
    rintro c w' ⟨g',s',x,l1,l2,l3,l4⟩
    cases x with
    |normal=>cases l3
    |ret=>cases l3
    |exit _=>cases l3
    |panic d=>exact⟨g',⟨γ,s'.O,df⟩,.panic d,hg.trans l1,⟨l2.sim,hs.tmps.mono l1,by rw[<-l4.1];exact l2.df⟩,l3,hp d _ l4.2 γ⟩
  have lets:LetsOut (Post P g n (EQ df o.dst R Rp))->LetsOut (Post P g0 n Q):=by
    rintro⟨a0,w0,g',s',x,l1,l2,l3,l4⟩
    cases x with
    |panic _=>obtain⟨v,l3,_⟩:=l3;cases l3
    |_=>cases l3
  refine⟨h.1,?_⟩
  have h2:=h.2
  revert h2
  generalize (o.semAt (FX P r).round a.eval).run P w=res
  cases res with
  | ok nx w' =>
    cases nx<;>simp only[Oper.uponIn]<;>first
      |exact fun h=>fin _ _ _ rfl h
      |exact fun h=>fin _ _ undef (by simp[Act.put];cases o.dst<;>rfl) h
      | (rintro ⟨h1,h2⟩
         refine⟨h1,?_⟩
         first
           | (refine h2.mono ?_
              intro e w'' he
              cases e<;>first
                |exact fin _ _ _ rfl he
                |exact pan _ _ he
                |exact lets he)
           | (refine h2.mono ?_
              intro v w'' he
              exact fin _ _ _ rfl he))
      |exact fun h=>h
  |halt x w'=>cases x<;>simp only[Oper.uponIn]<;>first|exact fun h=>pan _ _ h|exact fun h=>h
theorem Fa(hN:P.funcs.size=N){K:Act->World->Prop}{g0 g:G}{w:World}{a:Act}{r:Rx}{γ:Fr}{O:Sig}{o:Oper}{d:D}(hr:RoRep g ro r)(hg:g0.le g)
  (hs:SimS P g n ⟨γ,O,df⟩ a w) (hC:Sub S0 O) (hy:Calm P n ops N S0 γ o d)
  (hK:∀g' w' a',g.le g'->SimS P g' n ⟨putD o.dst d γ,O,df⟩ a' w'->K a' w') :
  (if Region.wanted o (yielded ops a.tmps) then o.wpIn (FX P r) 0 P a w K (Post P g0 n Q) else(∀f,o.about P w a.eval=some f->(FX P r).fn f)/\K (a.put o.dst undef) w):=by
 have hT:=Lv (o.looksAt ops) hs.tmps
 rcases hy.run with⟨hw,aW,bf,hd⟩|⟨hw,aU,bd⟩|⟨hw,hd⟩
 ·rw[AH hT hw,if_pos rfl]
  refine⟨fun f hf=>(bf _ _ f hf).elim,?_⟩
  obtain⟨g',w',v,h1,h2,h3,h4⟩:=hd O hC g w a hs.sim hT
  rw[Oper.semAt_eq _ _ _ aW,h1]
  exact hK g' w' _ h2 (hs.put h2 h3 h4 hy.ok)
 ·rw[AH hT hw,if_neg (by simp)]
  refine⟨fun f hf=>EA (Hi (by rw[hN];exact aU) w _ f hf (fun _=>rfl)) _,?_⟩
  have h0:Rep g d undef:=by rcases bd with rfl|rfl;exact trivial;exact⟨[],rfl,rfl⟩
  exact hK g w _ (.refl g) (hs.put (.refl g) hs.sim h0 hy.ok)
 ·exact CP (Q:=Q) hr hg hs ⟨hy.ok,hw,hd O hC ro df⟩ (fun g' w' a' d' U' aF hR ae=>by
   obtain⟨rfl,aJ⟩:=hR
   exact hK g' w' a' aF ⟨ae.sim.sub aJ,ae.tmps,ae.df⟩) (fun _ _ h=>h.elim)
theorem AJ{l:List Nat}{listed:Array Bool}{i:Nat}(h:i∉l):l.filter (fun j=> !(listed.setIfInBounds i true).getD j true)=l.filter fun j=> !listed.getD j true:=
 List.filter_congr fun j hj=>by rw[getD_set_ne true (show i≠j from fun e=>h (by rw[e];exact hj))]
theorem Uc(hN:P.funcs.size=N){ord:List Nat}(hB:Ew ops E ord=true){g0:G}{rr:Rx}(hr:RoRep g0 ro rr): ∀(m:Nat) (r:List Nat) (listed:Array Bool) (γ:Fr) (O:Sig),r.length=m->listed.size=ops.size->
  r=ord.filter (fun i=> !listed.getD i true)->Closed ops listed->MOps P ro n ops N S0 Q df E r γ O->Sub S0 O->
   ∀(g:G) (w:World) (a:Act),g0.le g->SimS P g n ⟨γ,O,df⟩ a w->wpAnyIn (FX P rr) 0 P .any ops (Post P g0 n Q) m listed a w:=by
 unfold Ew at hB
 simp only[Bool.and_eq_true]at hB
 obtain⟨⟨ah,aM⟩,_⟩:=hB
 have aa:∀(r:List Nat) (listed:Array Bool),r=ord.filter (fun i=> !listed.getD i true)->∀i∈Region.ready .any ops listed,i∈r:=by
  intro r listed hf i hi
  obtain⟨h1,o,ho,_⟩:=mem_ready.1 hi
  have:=List.all_eq_true.1 aM i (by simpa using(Array.getElem?_eq_some_iff.1 ho).1)
  rw[hf,List.mem_filter]
  exact⟨by simpa using this,by rw[h1];rfl⟩
 intro m
 induction m with
 |zero=>
  intro r listed γ O hl hsz hf ay h hC g w a hg hs
  obtain rfl:r=[]:=List.length_eq_zero_iff.1 hl
  refine⟨List.eq_nil_iff_forall_not_mem.2 fun i hi=>?_,?_⟩
  ·have:=aa [] listed hf i hi;cases this
  ·exact Post.le hg (h g w a rr (hr.mono hg) hs)
 | succ m ih =>
  intro r listed γ O hl hsz hf ay h hC g w a hg hs
  obtain⟨y,t,rfl⟩:∃y t,r=y::t:=by cases r with|nil=>cases hl|cons y t=>exact⟨y,t,rfl⟩
  refine⟨fun he=>?_,fun i hi=>?_⟩
  ·exfalso
   obtain⟨l1,l2,aw,aY,hy,bh⟩:=List.filter_eq_cons_iff.1 hf.symm
   subst aw
   obtain⟨h1,_,_,o,ho,aR,_⟩:=ER l1 [] ah
   have:y∈Region.ready .any ops listed:=by
    refine mem_ready.2 ⟨by simpa using hy,o,ho,fun e hm hb=>?_⟩
    rcases aR e hm hb with h4|h4
    ·have h5:=aY _ h4
     simp only[Bool.not_eq_true,Bool.not_eq_false']at h5
     have ai:e.on<listed.size:=by
      have:e.on∈l1++y::l2:=by simp[h4]
      obtain⟨p1,p2,hp⟩:=List.append_of_mem this
      rw[hp]at ah
      obtain⟨_,_,_,o',ak,_⟩:=ER p1 [] ah
      rw[hsz];exact(Array.getElem?_eq_some_iff.1 ak).1
     simpa[ai] using h5
    ·cases h4
   rw[he]at this;cases this
  ·obtain⟨pre,post,aq⟩:=List.append_of_mem (aa _ listed hf i hi)
   rw[aq]at hf h hl
   obtain⟨l1',l2',aw,aL,bc⟩:=List.filter_eq_append_iff.1 hf.symm
   obtain⟨m1,m2,aK,aX,bi,bb⟩:=List.filter_eq_cons_iff.1 bc
   have aj:ord=(l1'++m1)++i::m2:=by rw[aw,aK];simp
   rw[aj]at ah
   obtain⟨n1,_,n3,o,ho,aR,hx⟩:=ER (l1'++m1) [] ah
   obtain⟨a8,o',ak,aH⟩:=mem_ready.1 hi
   obtain rfl:o'=o:=by rw[ho]at ak;cases ak;rfl
   have ax:=GY ho post pre γ O (fun x aO=>by
    have aT:x∈l1'++m1:=by
     have:x∈l1'.filter (fun i=> !listed.getD i true):=by rw[aL];exact aO
     simp[(List.mem_filter.1 this).1]
    have aN:listed.getD x true=false:=by
     have:x∈l1'.filter (fun i=> !listed.getD i true):=by rw[aL];exact aO
     simpa using(List.mem_filter.1 this).2
    rcases hx x aT with h4|h4
    ·exfalso
     have:=CE ay ops.size i x o' ho aH h4
     rcases Nat.lt_or_ge x listed.size with ai|ai
     ·simp[ai]at this aN;rw[aN]at this;cases this
     ·simp[Array.getElem?_eq_none ai]at this
    ·exact h4) h
   have am:pre++post=ord.filter (fun j=> !(listed.setIfInBounds i true).getD j true):=by
    have ba:i<listed.size:=by
     rw[hsz];exact(Array.getElem?_eq_some_iff.1 ho).1
    rw[aj,List.filter_append,List.filter_cons]
    have e1:(listed.setIfInBounds i true).getD i true=true:=by simp[ba]
    rw[e1,AJ n1,AJ n3]
    simp only[Bool.not_true,Bool.false_eq_true,if_false,List.filter_append,aL,bb]
    rw[List.filter_eq_nil_iff.2 (fun x hx=>by simpa using aX x hx),List.append_nil]
   have hlen:(pre++post).length=m:=by simp at hl⊢; omega
   obtain⟨o2,aQ,hh⟩:=ax
   obtain rfl:o2=o':=by rw[ho]at aQ;cases aQ;rfl
   unfold wpOpIn
   simp only[ho]
   rcases hh with⟨d,hy,hM⟩|⟨_,hE⟩
   ·exact Fa hN (hr.mono hg) hg hs hC hy fun g' w' a' aF ae=>ih _ _ _ _ hlen (by simpa using hsz) am (ay.set hi) hM hC g' w' a' (hg.trans aF) ae
   ·exact CP (hr.mono hg) hg hs hE (fun g' w' a' d U' aF hR ae=>ih _ _ _ _ hlen (by simpa using hsz) am (ay.set hi) hR.2 hR.1 g' w' a' (hg.trans aF) ae) fun d U' hp=>hp
theorem Dl{n:Nat}: ∀{l:List Nat},(∀i∈l,i<n)->l.filter (fun i=> !(Array.replicate n false).getD i true)=l:=by
 intro l h
 rw[List.filter_eq_self]
 intro i hi
 simp[h i hi]
theorem dwp_mix(hN:P.funcs.size=N)(hm:P.follows .mixedOrders=true){l:List Oper}{id:Nat}{γ:Fr}{O:Sig}(ord E:List Nat)(S0:Sig)(hB:Ew l.toArray E ord=true)(hC:Sub S0 O)
  (h:MOps P ro n l.toArray N S0 Q df E ord γ O):DWp P ro n (.region id l.toArray true) Q ⟨γ,O,df⟩:=by
 intro g w a r hr hs
 refine wpIn_region_any hm ?_
 have ay:Closed l.toArray (Array.replicate l.toArray.size false):=by
  intro q o _ hq
  rcases Nat.lt_or_ge q l.length with h'|h'
  ·simp[h']at hq
  ·simp[h']at hq
 have ae:SimS P g n ⟨γ,O,df⟩ a { w with drawn:=w.drawn+1 }:=
  ⟨⟨fun b o v h=>hs.sim.imm b o v h,hs.sim.keep,fun i o h=>by
   have:=hs.sim.obj i o h
   cases o<;>exact this,hs.sim.inj,hs.sim.free,hs.sim.htop,hs.sim.hdom,hs.sim.fin,hs.sim.io,hs.sim.tab⟩,hs.tmps,hs.df⟩
 have ai:∀i∈ord,i<l.toArray.size:=by
  intro i hi
  obtain⟨p1,p2,hp⟩:=List.append_of_mem hi
  have ap:=hB
  unfold Ew at ap
  simp only[Bool.and_eq_true]at ap
  rw[hp]at ap
  obtain⟨_,_,_,o',ak,_⟩:=ER p1 [] ap.1.1
  exact(Array.getElem?_eq_some_iff.1 ak).1
 have hlen:ord.length=l.toArray.size:=by
  have ap:=hB
  unfold Ew at ap
  simp only[Bool.and_eq_true,beq_iff_eq]at ap
  exact ap.2
 have:=Uc hN hB hr ord.length ord (Array.replicate l.toArray.size false) γ O rfl (by simp) (Dl ai).symm ay h hC g _ a (.refl g) ae
 rw[hlen]at this
 exact this
end
theorem Ij{α β:Type}{f f':α->β}: ∀{x:Option α},(∀a,x=some a->f a=f' a)->x.map f=x.map f'
 |none,_=>rfl
 |some a,h=>by rw[Option.map_some,Option.map_some,h a rfl]
theorem PO{tab:Nat->Ty}{γ V':Fr}{O:Sig}{op:Op}(h:∀x∈op.operands,ev γ x=ev V' x):dop2 tab γ O op=dop2 tab V' O op:=by
 cases op<;>simp only[Op.operands]at h<;>simp only[dop2]
 case slice t x lo hi mx=>
  rw[h x (by simp)]
  have e1:lo.map (ev γ)=lo.map (ev V'):=Ij fun a ha=>h a (by simp[ha])
  have e2:hi.map (ev γ)=hi.map (ev V'):=Ij fun a ha=>h a (by simp[ha])
  have e3:mx.map (ev γ)=mx.map (ev V'):=Ij fun a ha=>h a (by simp[ha])
  rw[e1,e2,e3]
 case lookup t x k ok=>rw[h x (by simp),h k (by simp)]
 case typeAssert x s t ok=>rw[h x (by simp)]
 case build t parts=>
  have hp:∀p∈parts.toList,ev γ p.2=ev V' p.2:=fun p hp=>h p.2 (by simp;exact⟨p.1,by simpa using hp⟩)
  rw[show(parts.toList.map fun p=>(p.1,ev γ p.2))=parts.toList.map fun p=>(p.1,ev V' p.2) from List.map_congr_left fun p aV=>by rw[hp p aV]]
 case call c=>
  obtain⟨callee,args,ats⟩:=c
  cases callee<;>try rfl
  rename_i b
  obtain⟨args⟩:=args
  obtain⟨ats⟩:=ats
  cases b<;>try rfl
  ·simp only[Fs,H2]
   split
   ·rename_i x
    rw[h x (by simp[Call.operands])]
   ·rfl
  ·simp only[Fs]
   match args,h with
   |[a,b],h=>simp only;rw[h a (by simp[Call.operands]),h b (by simp[Call.operands])]
   |[],_=>rfl
   |[_],_=>rfl
   |_::_::_::_,_=>rfl
  ·simp only[Fs]
   match args,h with
   |[a,b],h=>simp only;rw[h a (by simp[Call.operands]),h b (by simp[Call.operands])]
   |[],_=>rfl
   |[_],_=>rfl
   |_::_::_::_,_=>rfl
theorem Be{tab:Nat->Ty}{γ V':Fr}{O:Sig}{op:Op}(h:∀x∈op.operands,ev γ x=ev V' x):dopX tab γ O op=dopX tab V' O op:=by
 unfold dopX
 rw[MA h,PO h]
def D1:Op->Bool
 |.call { callee:=.builtin .len,.. }|.call { callee:=.builtin .max,.. }|.call { callee:=.builtin .min,.. }=>true
 |.move _|.assign _|.pick .. |.box .. |.load .. |.nilCheck _|.binOp .. |.unOp .. |.convert .. |.makeInterface .. |.makeFunc .. |.fieldAddr .. |.field .. |.indexAddr .. |.index .. |.extract .. |.buildSlice .. =>true
 |.slice .. |.lookup .. |.typeAssert .. |.build .. =>true
 |_=>false
section
variable (P:Program)(ro:Ro)(n:Nat)(ops:Array Oper)(N:Nat)(S0:Sig)(Q:DX->St->Prop)(df:List DDf)
def MO:List (Bool×Oper)->Fr->Sig->Prop
 |[],γ,O=>DOps P ro n ops Q [] ⟨γ,O,df⟩
 |(e,o)::r,γ,O=>
  (∃d,Calm P n ops N S0 γ o d/\MO r (putD o.dst d γ) O) \/
  (e=true/\Eff P ro n ops df γ O o (fun d U'=>Sub S0 U'/\MO r (putD o.dst d γ) U') (fun d U'=> ∀V',Q (.panic d) ⟨V',U',df⟩))
end
def pick(ops:Array Oper)(E ord:List Nat):List (Bool×Oper):=ord.filterMap fun i=>(ops[i]?).map fun o=>(E.contains i,o)
section
variable {P:Program}{ro:Ro}{n:Nat}{ops:Array Oper}{N:Nat}{S0:Sig}{Q:DX->St->Prop}{df:List DDf}{E:List Nat}
theorem Fi: ∀{ord:List Nat}{γ:Fr}{O:Sig},(∀i∈ord,i<ops.size)->MO P ro n ops N S0 Q df (pick ops E ord) γ O->MOps P ro n ops N S0 Q df E ord γ O
 |[],_,_,_,h=>h
 | i::r,γ,O,ai,h=>by
  have hi:ops[i]? = some ops[i]! :=by
   have:=ai i (by simp)
   simp[this]
  have hp:pick ops E (i::r)=(E.contains i,ops[i]!)::pick ops E r:=by
   unfold pick
   rw[List.filterMap_cons,hi]
   rfl
  rw[hp]at h
  have aE:∀j∈r,j<ops.size:=fun j hj=>ai j (by simp[hj])
  refine⟨_,hi,?_⟩
  rcases h with⟨d,h2,h3⟩|⟨h1,h2⟩
  ·exact .inl ⟨d,h2,Fi aE h3⟩
  ·exact .inr ⟨h1,h2.congr (fun _ _=>rfl) fun d U' ⟨h3,h4⟩=>⟨h3,Fi aE h4⟩⟩
theorem QV{ord:List Nat}(hB:Ew ops E ord=true): ∀i∈ord,i<ops.size:=by
 intro i hi
 obtain⟨p1,p2,hp⟩:=List.append_of_mem hi
 unfold Ew at hB
 simp only[Bool.and_eq_true]at hB
 rw[hp]at hB
 obtain⟨_,_,_,o',ak,_⟩:=ER p1 [] hB.1.1
 exact(Array.getElem?_eq_some_iff.1 ak).1
theorem UZ(hN:P.funcs.size=N)(hm:P.follows .mixedOrders=true){l:List Oper}{id:Nat}{γ:Fr}{O:Sig}(ord E:List Nat)(S0:Sig)(hB:Ew l.toArray E ord=true)(hC:Sub S0 O)
  {lp:List (Bool×Oper)} (hl:pick l.toArray E ord=lp) (h:MO P ro n l.toArray N S0 Q df lp γ O):DWp P ro n (.region id l.toArray true) Q ⟨γ,O,df⟩:=
 dwp_mix hN hm ord E S0 hB hC (Fi (QV hB) (by rw[hl];exact h))
theorem QM{γ:Fr}{O:Sig}(h:Q .normal ⟨γ,O,df⟩):MO P ro n ops N S0 Q df [] γ O:=Aw h
theorem mo_eff{l:List (Bool×Oper)}{γ Sr:Fr}{O:Sig}{o:Oper}(ho:Ap n o=true)(hZ:only (o.looksAt ops) γ=Sr)(hw:Ax ops Sr o=some true)
  (h:DOps P ro n ops (EQ df o.dst (fun d U'=>Sub S0 U'/\MO P ro n ops N S0 Q df l (putD o.dst d γ) U') (fun d U'=> ∀V',Q (.panic d) ⟨V',U',df⟩)) [o] ⟨Sr,O,df⟩):MO P ro n ops N S0 Q df ((true,o)::l) γ O:=by
 subst hZ
 exact .inr ⟨rfl,ho,hw,h⟩
theorem mo_skip{e:Bool}{l:List (Bool×Oper)}{γ:Fr}{O:Sig}{o:Oper}(hw:Ax ops γ o=some false)(ho:Ap n o=true)(hs:DP N o.op=true)
  (h:MO P ro n ops N S0 Q df l (putD o.dst (.tup []) γ) O):MO P ro n ops N S0 Q df ((e,o)::l) γ O:=
 .inl ⟨.tup [],⟨ho,.inr (.inl ⟨by rw[Ak];exact hw,hs,.inr rfl⟩)⟩,h⟩
theorem O2{e:Bool}{l:List (Bool×Oper)}{γ Sr:Fr}{O:Sig}{o:Oper}(d:D)(ho:Ap n o=true)(hZ:only (o.looksAt ops) γ=Sr)(hw:Ax ops Sr o=some true)
  (hq:∀U',Sub S0 U'->∀ro df,DOps P ro n ops (EQ df o.dst (fun d' S''=>d'=d/\Sub U' S'') fun _ _=>False) [o] ⟨Sr,U',df⟩)
  (h:MO P ro n ops N S0 Q df l (putD o.dst d γ) O):MO P ro n ops N S0 Q df ((e,o)::l) γ O:=by
 subst hZ
 exact .inl ⟨d,⟨ho,.inr (.inr ⟨hw,hq⟩)⟩,h⟩
end
def A5:List Operand->List Nat
 |[]=>[]
 |.tmp t::r=>t::A5 r
 |_::r=>A5 r
def A0(γ:Fr):List Nat->Option Fr
 |[]=>some []
 | t::ts=>match γ.lookup t with
  |some d=>match A0 γ ts with
   |some r=>some ((t,d)::r)
   |none=>none
  |none=>none
theorem At{γ:Fr}: ∀{l:List Nat}{Sr:Fr},A0 γ l=some Sr->∀t∈l,getD Sr t=getD γ t
 |[],_,_,_,h=>by cases h
 | a::l,Sr,e,t,h=>by
  simp only[A0]at e
  split at e<;>(try (cases e;done))
  rename_i d hd
  split at e<;>(try (cases e;done))
  rename_i r hr
  cases e
  rw[A6]
  by_cases ht:t=a
  ·subst ht;rw[if_pos rfl];simp[getD,hd]
  ·rw[if_neg ht]
   exact At hr t (by simpa[ht] using h)
theorem Az{t:Nat}: ∀{l:List Operand},Operand.tmp t∈l->t∈A5 l
 | x::l,h=>by
  rcases List.mem_cons.1 h with rfl|h
  ·simp[A5]
  ·have:=Az h
   cases x<;>simp[A5,this]
theorem C3{γ Sr:Fr}{op:Op}(h:A0 γ (A5 op.operands.toList)=some Sr): ∀x∈op.operands,ev Sr x=ev γ x:=
 fun x hx=>B9 fun t ht=>At h t (Az (by rw[<-ht];simpa using hx))
theorem BY{γ Sr:Fr}{x:Operand}(h:A0 γ (A5 [x])=some Sr):ev Sr x=ev γ x:=
 B9 fun t ht=>At h t (Az (by simp[ht]))
theorem Bp{tab:Nat->Ty}{γ V':Fr}{O:Sig}{op:Op}(h:∀x∈op.operands,ev γ x=ev V' x):eopD tab γ O op=eopD tab V' O op:=by
 cases op<;>simp only[Op.operands]at h<;>simp only[eopD]
 case store T a v=>rw[h a (by simp),h v (by simp)]
 case mapUpdate T a k v=>rw[h a (by simp),h k (by simp),h v (by simp)]
 case insert T a k v=>rw[h a (by simp),h k (by simp),h v (by simp)]
 case call c=>
  obtain⟨callee,args,ats⟩:=c
  cases callee<;>try rfl
  rename_i b
  obtain⟨args⟩:=args
  obtain⟨ats⟩:=ats
  cases b<;>try rfl
  simp only[bapD]
  match args,h with
  |[a,b],h=>simp only;rw[h a (by simp[Call.operands]),h b (by simp[Call.operands])]
  |[],_=>rfl
  |[_],_=>rfl
  |_::_::_::_,_=>rfl
theorem Ar{γ:Fr}{k:Nat}{d:D}(h:γ.lookup k=some d):getD γ k=d:=by simp[getD,h]
@[simp] def D.plain:D->D
 |.slice es _=>.slice es .no
 |.nils=>.slice [] .no
 |d=>d
theorem PY(d:D):WkD d d.plain:=by
 cases d<;>first|exact A8 _|exact Bv _ _|exact An _ (.inl rfl)
theorem Cp: ∀l:List D,WkL l (l.map D.plain)
 |[]=>trivial
 |d::l=>⟨PY d,Cp l⟩
theorem NM{a b:D}{l m:List D}(h:WkD a b)(k:WkL l m):WkL (a::l) (b::m):=⟨h,k⟩
theorem Co: ∀l:List D,WkL l l
 |[]=>trivial
 |a::l=>⟨A8 a,Co l⟩
section
variable {P:Program}{ro:Ro}{n:Nat}{ops:Array Oper}{Q:DX->St->Prop}{df:List DDf}{rest:List Oper}{γ Sr:List (Nat×D)}{O U':Sig}{t:Nat}{op:Op}{ty:TypeId}{pos:String}{after:Array Edge}{guard:Option (Nat×Bool)}{d:D}
theorem C8{op:Op}(h:D1 op=true): ∀c,op≠.defer c:=fun c e=>by subst e;cases h
theorem GF{tab:Nat->Ty}(ht:B2 P tab){o:Oper}(hr:D1 o.op=true)(hw:Ax ops γ o=some true)(hd:dopX tab γ O o.op=some d)(ho:Ap n o=true)
  (h:DOps P ro n ops Q rest ⟨putD o.dst d γ,O,df⟩):DOps P ro n ops Q (o::rest) ⟨γ,O,df⟩:=
 GE hw (C8 hr) (Jc ht hd) (fun g w a hs hT=>F7 ht hs hT hd) ho h
theorem Cj{j k:Nat}{b:Bool}(hk:(ops[j]?).bind (·.dst)=some k)(hb:γ.lookup k=some (.bool b)):CL ops γ j=some b:=by
 unfold CL
 rw[hk]
 simp only[Option.bind_some,Ar hb]
theorem FZ{tab:Nat->Ty}(ht:B2 P tab)(hr:D1 op=true)(ag:decide (t<n)=true)(hl:A0 γ (A5 op.operands.toList)=some Sr)(hd:dopX tab Sr O op=some d)
  (h:DOps P ro n ops Q rest ⟨(t,d)::γ,O,df⟩):DOps P ro n ops Q (⟨some t,op,ty,pos,after,none⟩::rest) ⟨γ,O,df⟩:=
 GF ht hr rfl ((Be (C3 hl)) ▸ hd) ag h
theorem GP{tab:Nat->Ty}(ht:B2 P tab){j:Nat}{want:Bool}(hr:D1 op=true)(ag:decide (t<n)=true){k:Nat}(hk:(ops[j]?).bind (·.dst)=some k)(hb:γ.lookup k=some (.bool want))(hl:A0 γ (A5 op.operands.toList)=some Sr)(hd:dopX tab Sr O op=some d)
  (h:DOps P ro n ops Q rest ⟨(t,d)::γ,O,df⟩):DOps P ro n ops Q (⟨some t,op,ty,pos,after,some (j,want)⟩::rest) ⟨γ,O,df⟩:=
 GF ht hr (by simp only[Ax,Cj hk hb];simp) ((Be (C3 hl)) ▸ hd) ag h
theorem wantU{j k:Nat}{o:Oper}{want:Bool}(hk:(ops[j]?).bind (·.dst)=some k)(hb:γ.lookup k=some (.tup []))(hg:o.guard=some (j,want):=by rfl):Ax ops γ o=some false:=by
 unfold Ax
 rw[hg]
 have h1:CL ops γ j=none:=by unfold CL;rw[hk];simp only[Option.bind_some,Ar hb]
 have h2:HT ops γ j=true:=by unfold HT;rw[hk];simp only[Ar hb]
 simp only[h1,h2,if_true]
theorem I0{N:Nat}(hN:P.funcs.size=N){j:Nat}{want:Bool}{k:Nat}(hk:(ops[j]?).bind (·.dst)=some k)(hb:γ.lookup k=some (.bool (!want)))(hs:DP N op=true)(ag:decide (t<n)=true)
  (h:DOps P ro n ops Q rest ⟨(t,.tup [])::γ,O,df⟩):DOps P ro n ops Q (⟨some t,op,ty,pos,after,some (j,want)⟩::rest) ⟨γ,O,df⟩:=by
 intro g w a r hr ae
 have aI:Ax ops γ ⟨some t,op,ty,pos,after,some (j,want)⟩=some false:=by simp only[Ax,Cj hk hb];simp
 unfold wpListIn
 rw[AH ae.tmps aI,if_neg (by simp)]
 refine⟨fun f hf=>EA (Hi (by rw[hN];exact hs) w _ f hf (fun _=>rfl)) _,?_⟩
 have h0:Rep g (.tup []) undef:=⟨[],rfl,rfl⟩
 exact h g w _ r hr (ae.put (o:=⟨some t,op,ty,pos,after,some (j,want)⟩) (.refl g) ae.sim h0 ag)
theorem GO{N:Nat}(hN:P.funcs.size=N){j:Nat}{want:Bool}{k:Nat}(hk:(ops[j]?).bind (·.dst)=some k)(hb:γ.lookup k=some (.tup []))(hs:DP N op=true)(ag:decide (t<n)=true)
  (h:DOps P ro n ops Q rest ⟨(t,.tup [])::γ,O,df⟩):DOps P ro n ops Q (⟨some t,op,ty,pos,after,some (j,want)⟩::rest) ⟨γ,O,df⟩:=by
 intro g w a r hr ae
 have aI:Ax ops γ ⟨some t,op,ty,pos,after,some (j,want)⟩=some false:=by exact wantU hk hb
 unfold wpListIn
 rw[AH ae.tmps aI,if_neg (by simp)]
 refine⟨fun f hf=>EA (Hi (by rw[hN];exact hs) w _ f hf (fun _=>rfl)) _,?_⟩
 have h0:Rep g (.tup []) undef:=⟨[],rfl,rfl⟩
 exact h g w _ r hr (ae.put (o:=⟨some t,op,ty,pos,after,some (j,want)⟩) (.refl g) ae.sim h0 ag)
theorem BF{t:Nat}{d:D}(h:WkD (getD γ t) d):Wk P n ⟨γ,O,df⟩ ⟨(t,d)::γ,O,df⟩:=
 fun g w a hs=>⟨g,.refl g,⟨hs.sim,⟨hs.tmps.1,fun k=>by
  rw[A6]
  by_cases hk:k=t
  ·subst hk;rw[if_pos rfl];exact h g _ (hs.tmps.2 k)
  ·rw[if_neg hk];exact hs.tmps.2 k⟩,hs.df⟩⟩
theorem OY{dst:Option Tmp}{j:Nat}{want b:Bool}{k:Nat}(hk:(ops[j]?).bind (·.dst)=some k)(hb:γ.lookup k=some (.bool b))
  (h1:b=true->DOps P ro n ops Q (⟨dst,op,ty,pos,after,some (j,want)⟩::rest) ⟨(k,.bool true)::γ,O,df⟩) (h2:b=false->DOps P ro n ops Q (⟨dst,op,ty,pos,after,some (j,want)⟩::rest) ⟨(k,.bool false)::γ,O,df⟩):DOps P ro n ops Q (⟨dst,op,ty,pos,after,some (j,want)⟩::rest) ⟨γ,O,df⟩:=by
 cases b with
 |true=>exact C4 (BF (by rw[Ar hb];exact A8 _)) (h1 rfl)
 |false=>exact C4 (BF (by rw[Ar hb];exact A8 _)) (h2 rfl)
theorem Kx{tab:Nat->Ty}(ht:B2 P tab)(hl:A0 γ (A5 op.operands.toList)=some Sr)(he:eopD tab Sr O op=some (d,U'))(ag:decide (t<n)=true)
  (h:DOps P ro n ops Q rest ⟨(t,d)::γ,U',df⟩):DOps P ro n ops Q (⟨some t,op,ty,pos,after,none⟩::rest) ⟨γ,O,df⟩:=
 Fo (o:=⟨some t,op,ty,pos,after,none⟩) ht rfl ((Bp (C3 hl)) ▸ he) ag h
theorem DO{tab:Nat->Ty}(ht:B2 P tab)(hl:A0 γ (A5 op.operands.toList)=some Sr)(he:eopD tab Sr O op=some (d,U'))
  (h:DOps P ro n ops Q rest ⟨γ,U',df⟩):DOps P ro n ops Q (⟨none,op,ty,pos,after,none⟩::rest) ⟨γ,O,df⟩:=
 Fo (o:=⟨none,op,ty,pos,after,none⟩) ht rfl ((Bp (C3 hl)) ▸ he) rfl h
theorem TZ{tab:Nat->Ty}(ht:B2 P tab)(vars:List Nat){T T' ty':Nat}{x:Operand}{pos':String}{after':Array Edge}{cs:List D}(hv:vars.contains t=false)(hT:T'=T)(ag:decide (t<n)=true)(hx:Ev t x=true)(ho:A1 (tab T).k=false)
  (hl:A0 γ (A5 [x])=some Sr) (he:ev Sr x=d) (aA:d.told=true) (hc:d.cells=cs) (hlen:cs.length=(tab T).size) (aG:BC cs=true)
  (h:DOps P ro n ops Q rest ⟨(t,.cptr cs 0)::γ,O,df⟩) :
  DOps P ro n ops Q (⟨some t,.alloc T,ty,pos,after,none⟩::⟨none,.store T' (.tmp t) x,ty',pos',after',none⟩::rest) ⟨γ,O,df⟩:=by
 rw[BY hl]at he
 subst he;subst hT;subst hc
 exact Nw ht ho (by simpa using ag) (G9 ht hx) aA hlen aG h
theorem GC{id:Nat}{l:List Oper}(h:DOps P ro n l.toArray Q l ⟨γ,O,df⟩):DWp P ro n (.region id l.toArray false) Q ⟨γ,O,df⟩:=PF h
theorem Lp{c:Operand}{x y:Code}{b:Bool}{Sr:Fr}(hl:A0 γ (A5 [c])=some Sr)(hc:ev Sr c=.bool b)(ht:b=true->DWp P ro n x Q ⟨γ,O,df⟩)(hf:b=false->DWp P ro n y Q ⟨γ,O,df⟩):
  DWp P ro n (.cond c x y) Q ⟨γ,O,df⟩:=OC (s:=⟨γ,O,df⟩) (by rw[<-BY hl];exact hc) ht hf
theorem GR{c:Operand}{x y:Code}{Sr:Fr}(hl:A0 γ (A5 [c])=some Sr)(hc:ev Sr c=.bool true)(h:DWp P ro n x Q ⟨γ,O,df⟩):
  DWp P ro n (.cond c x y) Q ⟨γ,O,df⟩:=Lp hl hc (fun _=>h) (fun e=>by cases e)
theorem GS{c:Operand}{x y:Code}{Sr:Fr}(hl:A0 γ (A5 [c])=some Sr)(hc:ev Sr c=.bool false)(h:DWp P ro n y Q ⟨γ,O,df⟩):
  DWp P ro n (.cond c x y) Q ⟨γ,O,df⟩:=Lp hl hc (fun e=>by cases e) (fun _=>h)
theorem G0{fop:Operand}{args:Array Operand}{ats:Array TypeId}{f:Nat}{first cap us bs:List D}{R:DE->Sig->Prop}{dst:Option Tmp}
  (hl:A0 γ (A5 (fop::args.toList))=some Sr) (hf:ev Sr fop=.func (.func f) first cap) (ha:first++args.toList.map (ev Sr)++cap=us) (hw:bs=us\/bs=us.map D.plain) (h:DCall P f bs O R)
  (ho:Ap n ⟨dst,(cv fop args ats),ty,pos,after,none⟩=true)
  (ar:∀d U',R (.ret d) U'->DOps P ro n ops Q rest ⟨putD dst d γ,U',df⟩)
  (au:∀d U',R (.panic d) U'->Q (.panic d) ⟨γ,U',df⟩) :
  DOps P ro n ops Q (⟨dst,(cv fop args ats),ty,pos,after,none⟩::rest) ⟨γ,O,df⟩:=by
 have hx:∀x∈fop::args.toList,ev Sr x=ev γ x:=fun x hx=>B9 fun t ht=>At hl t (Az (by rw[<-ht];exact hx))
 refine Dd (az:=bs) rfl (by rw[<-hx fop (by simp)];exact hf) h ?_ ho ar au
 rw[show args.toList.map (ev γ)=args.toList.map (ev Sr) from List.map_congr_left fun x h=>(hx x (by simp[h])).symm,ha]
 rcases hw with rfl|rfl
 ·exact Co _
 ·exact Cp _
theorem JC{fop:Operand}{args:Array Operand}{ats:Array TypeId}{f:Nat}{first cap us bs:List D}{d:D}
  (hl:A0 γ (A5 (fop::args.toList))=some Sr) (hf:ev Sr fop=.func (.func f) first cap) (ha:first++args.toList.map (ev Sr)++cap=us) (hw:bs=us\/bs=us.map D.plain) (h:DCall P f bs O (rS d O))
  (ag:decide (t<n)=true) (k:DOps P ro n ops Q rest ⟨(t,d)::γ,O,df⟩) :
  DOps P ro n ops Q (⟨some t,(cv fop args ats),ty,pos,after,none⟩::rest) ⟨γ,O,df⟩:=
 G0 hl hf ha hw h ag (fun d' U' ⟨e1,e2⟩=>by cases e1;subst e2;exact k) (fun d' U' ⟨e1,e2⟩=>by cases e1)
theorem OZ{fop:Operand}{args:Array Operand}{ats:Array TypeId}{f:Nat}{first cap us bs:List D}{R:DE->Sig->Prop}{dst:Option Tmp}{j:Nat}{want:Bool}{k:Nat}(hk:(ops[j]?).bind (·.dst)=some k)(hb:γ.lookup k=some (.bool want))
  (hl:A0 γ (A5 (fop::args.toList))=some Sr) (hf:ev Sr fop=.func (.func f) first cap) (ha:first++args.toList.map (ev Sr)++cap=us) (hw:bs=us\/bs=us.map D.plain) (h:DCall P f bs O R)
  (ho:Ap n ⟨dst,(cv fop args ats),ty,pos,after,some (j,want)⟩=true)
  (ar:∀d U',R (.ret d) U'->DOps P ro n ops Q rest ⟨putD dst d γ,U',df⟩)
  (au:∀d U',R (.panic d) U'->Q (.panic d) ⟨γ,U',df⟩) :
  DOps P ro n ops Q (⟨dst,(cv fop args ats),ty,pos,after,some (j,want)⟩::rest) ⟨γ,O,df⟩:=by
 have hx:∀x∈fop::args.toList,ev Sr x=ev γ x:=fun x hx=>B9 fun t ht=>At hl t (Az (by rw[<-ht];exact hx))
 refine Dd (az:=bs) (by simp only[Ax,Cj hk hb];simp) (by rw[<-hx fop (by simp)];exact hf) h ?_ ho ar au
 rw[show args.toList.map (ev γ)=args.toList.map (ev Sr) from List.map_congr_left fun x h=>(hx x (by simp[h])).symm,ha]
 rcases hw with rfl|rfl
 ·exact Co _
 ·exact Cp _
theorem I2{fop:Operand}{args:Array Operand}{ats:Array TypeId}{f:Nat}{first cap us bs:List D}{d:D}{j:Nat}{want:Bool}{k:Nat}(hk:(ops[j]?).bind (·.dst)=some k)(hb:γ.lookup k=some (.bool want))
  (hl:A0 γ (A5 (fop::args.toList))=some Sr) (hf:ev Sr fop=.func (.func f) first cap) (ha:first++args.toList.map (ev Sr)++cap=us) (hw:bs=us\/bs=us.map D.plain) (h:DCall P f bs O (rS d O))
  (ag:decide (t<n)=true) (kk:DOps P ro n ops Q rest ⟨(t,d)::γ,O,df⟩) :
  DOps P ro n ops Q (⟨some t,(cv fop args ats),ty,pos,after,some (j,want)⟩::rest) ⟨γ,O,df⟩:=
 OZ hk hb hl hf ha hw h ag (fun d' U' ⟨e1,e2⟩=>by cases e1;subst e2;exact kk) (fun d' U' ⟨e1,e2⟩=>by cases e1)
end
@[simp] theorem nat_eq_int(a b:Nat):((a:Int)=(b:Int))=(a=b):=propext Int.ofNat_inj
@[simp] theorem QC(a:Nat):((a+1:Nat):Int)=(a:Int)+1:=rfl
def Dj(γ:Fr):List Nat->Option Fr
 |[]=>some []
 | t::ts=>match γ.lookup t with
  |some d=>match Dj γ ts with
   |some r=>some ((t,d)::r)
   |none=>none
  |none=>Dj γ ts
def TellsR(γ:Fr):Fr->Prop
 |[]=>True
 |p::r=>WkD (getD γ p.1) p.2/\TellsR γ r
theorem TellsR.get{γ:Fr}: ∀{V':Fr},TellsR γ V'->∀t,WkD (getD γ t) (getD V' t)
 |[],_,t=>E5 _
 |p::r,h,t=>by
  rw[show p::r=(p.1,p.2)::r from rfl,A6]
  by_cases ht:t=p.1
  ·rw[if_pos ht,ht];exact h.1
  ·rw[if_neg ht];exact TellsR.get h.2 t
theorem FV{γ:Fr}:TellsR γ []:=trivial
theorem Fd{γ r:Fr}{t:Nat}{d d':D}(hl:γ.lookup t=some d')(h:WkD d' d)(k:TellsR γ r):TellsR γ ((t,d)::r):=⟨by rw[Ar hl];exact h,k⟩
theorem FW{γ a b:Fr}(h:TellsR γ a)(k:TellsR γ b):TellsR γ (a++b):=by
 induction a with
 |nil=>exact k
 |cons p a ih=>exact⟨h.1,ih h.2⟩
theorem Ko{P:Program}{n:Nat}{γ V':Fr}{O U':Sig}{df:List DDf}(h:TellsR γ V')(hU:Sub U' O):Wk P n ⟨γ,O,df⟩ ⟨V',U',df⟩:=
 fun g w a hs=>⟨g,.refl g,⟨hs.sim.sub hU,⟨hs.tmps.1,fun t=>h.get t g _ (hs.tmps.2 t)⟩,hs.df⟩⟩
theorem Df{O U':Sig}(h:U'=O):Sub U' O:=h ▸ Sub.refl _
theorem F6{P:Program}{ro:Ro}{n:Nat}{Q:DX->St->Prop}{df:List DDf}{γ Sk:Fr}{O:Sig}{α:Type}{c:Code}(keep:List Nat)(I:α->Prop)(ov:α->Fr)(sg:α->Sig)(μ:α->Nat)(x0:α)(hk:Dj γ keep=some Sk)(h0:I x0)(h1:TellsR γ (ov x0++Sk))(h2:Sub (sg x0) O)
  (round:∀x,I x->DWp P ro n c (Then (fun s'=> ∃x',I x'/\μ x'<μ x/\Wk P n s' ⟨ov x'++Sk,sg x',df⟩) Q) ⟨ov x++Sk,sg x,df⟩):DWp P ro n (.loop c) Q ⟨γ,O,df⟩:=by
 refine OB (fun x:{x // I x}=>⟨ov x.1++Sk,sg x.1,df⟩) (fun x=>μ x.1) ⟨x0,h0⟩ (Ko h1 h2) fun x=>Fm (round x.1 x.2) ?_
 intro e s h
 cases e with
 |normal=>obtain⟨x',h3,h4,h5⟩:=h;exact⟨⟨x',h3⟩,h4,h5⟩
 |_=>exact h
theorem PH{P:Program}{ro:Ro}{n:Nat}{Q:DX->St->Prop}{df:List DDf}{γ Sk:Fr}{O:Sig}{α β:Type}{c:Code}(keep:List Nat)(I:α->β->Prop)(ov:α->β->Fr)(sg:α->β->Sig)(μ:α->β->Nat)(x0:α)(y0:β)(hk:Dj γ keep=some Sk)(h0:I x0 y0)(h1:TellsR γ (ov x0 y0++Sk))(h2:Sub (sg x0 y0) O)
  (round:∀x y,I x y->DWp P ro n c (Then (fun s'=> ∃x' y',I x' y'/\μ x' y'<μ x y/\Wk P n s' ⟨ov x' y'++Sk,sg x' y',df⟩) Q) ⟨ov x y++Sk,sg x y,df⟩):DWp P ro n (.loop c) Q ⟨γ,O,df⟩:=by
 refine F6 (α:=α×β) keep (fun x=>I x.1 x.2) (fun x=>ov x.1 x.2) (fun x=>sg x.1 x.2) (fun x=>μ x.1 x.2) (x0,y0) hk h0 h1 h2 fun x hx=>Fm (round x.1 x.2 hx) ?_
 intro e s h
 cases e with
 |normal=>obtain⟨x',y',h3,h4,h5⟩:=h;exact⟨(x',y'),h3,h4,h5⟩
 |_=>exact h
theorem PG{P:Program}{ro:Ro}{n:Nat}{Q:DX->St->Prop}{df:List DDf}{γ Sk:Fr}{O:Sig}{α β δ:Type}{c:Code}(keep:List Nat)(I:α->β->δ->Prop)(ov:α->β->δ->Fr)(sg:α->β->δ->Sig)(μ:α->β->δ->Nat)(x0:α)(y0:β)(z0:δ)(hk:Dj γ keep=some Sk)(h0:I x0 y0 z0)(h1:TellsR γ (ov x0 y0 z0++Sk))(h2:Sub (sg x0 y0 z0) O)
  (round:∀x y z,I x y z->DWp P ro n c (Then (fun s'=> ∃x' y' z',I x' y' z'/\μ x' y' z'<μ x y z/\Wk P n s' ⟨ov x' y' z'++Sk,sg x' y' z',df⟩) Q) ⟨ov x y z++Sk,sg x y z,df⟩):DWp P ro n (.loop c) Q ⟨γ,O,df⟩:=by
 refine F6 (α:=α×β×δ) keep (fun x=>I x.1 x.2.1 x.2.2) (fun x=>ov x.1 x.2.1 x.2.2) (fun x=>sg x.1 x.2.1 x.2.2) (fun x=>μ x.1 x.2.1 x.2.2) (x0,y0,z0) hk h0 h1 h2 fun x hx=>Fm (round x.1 x.2.1 x.2.2 hx) ?_
 intro e s h
 cases e with
 |normal=>obtain⟨x',y',z',h3,h4,h5⟩:=h;exact⟨(x',y',z'),h3,h4,h5⟩
 |_=>exact h
section
variable (tab:Nat->Ty)(γ:List (Nat×D))(O:Sig)(T T' m f:Nat)(x y z:Operand)(c:Bool)
@[simp] theorem dopX_move:dopX tab γ O (.move x)=some (ev γ x):=rfl
@[simp] theorem dopX_assign:dopX tab γ O (.assign x)=some (ev γ x):=rfl
@[simp] theorem dopX_pick:dopX tab γ O (.pick x y z)=Nb (ev γ x) (ev γ y) (ev γ z):=by unfold dopX;simp only[dop,dop2];cases Nb (ev γ x) (ev γ y) (ev γ z)<;>rfl
@[simp] theorem dopX_box:dopX tab γ O (.box T x)=boxD (ev γ x):=by unfold dopX;simp only[dop,dop2];cases boxD (ev γ x)<;>rfl
@[simp] theorem dopX_load:dopX tab γ O (.load T x)=Jh (tab T) O (ev γ x):=by unfold dopX;simp only[dop,dop2];cases Jh (tab T) O (ev γ x)<;>rfl
@[simp] theorem dopX_nil:dopX tab γ O (.nilCheck x)=nilD (ev γ x):=by unfold dopX;simp only[dop,dop2];cases nilD (ev γ x)<;>rfl
@[simp] theorem dopX_bin(o:BinOp):dopX tab γ O (.binOp o T x y T')=binD o (ev γ x) (ev γ y):=by unfold dopX;simp only[dop,dop2];cases binD o (ev γ x) (ev γ y)<;>rfl
@[simp] theorem dopX_un(o:UnOp):dopX tab γ O (.unOp o T x)=unD o (ev γ x):=by unfold dopX;simp only[dop,dop2];cases unD o (ev γ x)<;>rfl
@[simp] theorem dopX_conv:dopX tab γ O (.convert T T' x)=Tv (A1 (tab T).k) (tab T').k (ev γ x):=by unfold dopX;simp only[dop,dop2];cases Tv (A1 (tab T).k) (tab T').k (ev γ x)<;>rfl
@[simp] theorem dopX_mkif:dopX tab γ O (.makeInterface T x)=QU (tab T) T (ev γ x):=by unfold dopX;simp only[dop,dop2];cases QU (tab T) T (ev γ x)<;>rfl
@[simp] theorem dopX_mkfn(fn:Fn)(a b:Array Operand):dopX tab γ O (.makeFunc fn a b)=some (.func fn (a.toList.map (ev γ)) (b.toList.map (ev γ))):=rfl
@[simp] theorem dopX_fa:dopX tab γ O (.fieldAddr T x f)=Dc tab f (ev γ x) (tab T).k:=by unfold dopX;simp only[dop,dop2];cases Dc tab f (ev γ x) (tab T).k<;>rfl
@[simp] theorem dopX_fi:dopX tab γ O (.field T x f)=M0 tab f (tab T).k (ev γ x):=by unfold dopX;simp only[dop,dop2];cases M0 tab f (tab T).k (ev γ x)<;>rfl
@[simp] theorem dopX_ia:dopX tab γ O (.indexAddr T x y)=Cm tab (tab T).k (ev γ x) (ev γ y):=by unfold dopX;simp only[dop,dop2];cases Cm tab (tab T).k (ev γ x) (ev γ y)<;>rfl
@[simp] theorem dopX_ix:dopX tab γ O (.index T x y)=LV (tab T).k (ev γ x) (ev γ y):=by unfold dopX;simp only[dop,dop2];cases LV (tab T).k (ev γ x) (ev γ y)<;>rfl
@[simp] theorem dopX_ex:dopX tab γ O (.extract x f)=Gz f (ev γ x):=by unfold dopX;simp only[dop,dop2];cases Gz f (ev γ x)<;>rfl
@[simp] theorem dopX_bs(ps:Array (Nat×Operand)):dopX tab γ O (.buildSlice T m ps)=He tab γ m ps.toList (tab T).k:=by unfold dopX;simp only[dop,dop2];cases He tab γ m ps.toList (tab T).k<;>rfl
@[simp] theorem dopX_sl(a b d:Option Operand):dopX tab γ O (.slice T x a b d)=I6 tab (tab T).k (ev γ x) (a.map (ev γ)) (b.map (ev γ)) (d.map (ev γ)):=rfl
@[simp] theorem dopX_lk:dopX tab γ O (.lookup T x y c)=FM tab O c (tab T).k (ev γ x) (ev γ y):=rfl
@[simp] theorem dopX_ta:dopX tab γ O (.typeAssert x T T' c)=Ja tab T' c (ev γ x):=rfl
@[simp] theorem dopX_bd(ps:Array (Nat×Operand)):dopX tab γ O (.build T ps)=MM tab T (ps.toList.map fun p=>(p.1,ev γ p.2)) (tab T).k:=rfl
@[simp] theorem dopX_len (xs:Array Operand) (ts:Array TypeId):dopX tab γ O (.call { callee := .builtin .len,args:=xs,argTypes:=ts })=match lenC tab γ ts.toList xs.toList with
  |some d=>some d
  |none=>H2 tab γ O ts.toList xs.toList:=rfl
@[simp] theorem dopX_max(ts:Array TypeId):dopX tab γ O (.call { callee:=.builtin .max,args:= #[x,y],argTypes:=ts })=LJ true (ev γ x) (ev γ y):=rfl
@[simp] theorem dopX_min(ts:Array TypeId):dopX tab γ O (.call { callee:=.builtin .min,args:= #[x,y],argTypes:=ts })=LJ false (ev γ x) (ev γ y):=rfl
@[simp] theorem eopD_store:eopD tab γ O (.store T x y)=DN tab O T (ev γ x) (ev γ y):=rfl
@[simp] theorem eopD_upd:eopD tab γ O (.mapUpdate T x y z)=updD tab O (tab T).k (ev γ x) (ev γ y) (ev γ z):=rfl
@[simp] theorem eopD_ins:eopD tab γ O (.insert T x y z)=updD tab O (tab T).k (ev γ x) (ev γ y) (ev γ z):=rfl
@[simp] theorem eopD_app(ts:Array TypeId):eopD tab γ O (.call { callee:=.builtin .append,args:= #[x,y],argTypes:=ts })=appD tab O ts.toList (ev γ x) (ev γ y):=rfl
end
end Go.DL
