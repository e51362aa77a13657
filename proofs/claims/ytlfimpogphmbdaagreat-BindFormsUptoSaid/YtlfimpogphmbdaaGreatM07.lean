/- Part of the proof that the last text ends. -/
import Derived.Test.YtlfimpogphmbdaaGreatM06
set_option linter.all false
namespace Go.DL
open Go
def only(L:List Nat)(O:Fr):Fr:=L.map fun t=>(t,getD O t)
theorem Hl(O:Fr)(t:Nat): ∀L:List Nat,getD (only L O) t=if t∈L then getD O t else .any
 |[]=>rfl
 |a::L=>by
  have ih:=Hl O t L
  unfold only at ih⊢
  rw[List.map_cons,Aa]
  by_cases h:t=a
  ·subst h;simp
  ·simp only[h,if_false,ih,List.mem_cons,false_or]
theorem MC{g:G}{O:Fr}{n:Nat}{tmps:Array Value}(L:List Nat)(h:RepT g O n tmps):RepT g (only L O) n tmps :=
 ⟨h.1,fun t=>by
  rw[Hl]
  by_cases ht:t∈L
  ·rw[if_pos ht];exact h.2 t
  ·rw[if_neg ht];trivial⟩
theorem Ku{L:List Nat}{O U':Fr}(h:∀t∈L,getD O t=getD U' t):only L O=only L U' :=
 List.map_congr_left fun t ht=>by rw[h t ht]
theorem Cd{O:Fr}{ops:Array Oper}{o:Oper}{x:Operand}(h:x∈o.op.operands):ev (only (o.looksAt ops) O) x=ev O x:=by
 cases x with
 |tmp t=>simp only[ev,Hl];rw[if_pos (H9 h)]
 |_=>rfl
theorem B5{O:Fr}{ops:Array Oper}{o:Oper}:AJ ops (only (o.looksAt ops) O) o=AJ ops O o :=
 IC fun t ht=>by rw[Hl,if_pos ht]
section mono
variable {tab:Nat->Ty}{V S':Sig}(h:Sub V S'){O:List (Nat×D)}
include h
theorem Hq{x:D}{l:List (D×D)}(e:Cx V x=some l):Cx S' x=some l:=by
 unfold Cx at e⊢
 split at e
 ·exact e
 ·exact e
 ·rename_i id
  split at e<;>(try (cases e;done))
  rename_i l' hi
  rw[h _ _ hi];exact e
 ·cases e
theorem loadT_mono{ty:Ty}{x d:D}(e:K4 ty V x=some d):K4 ty S' x=some d:=by
 unfold K4 at e⊢
 split at e
 ·cases e
 ·rename_i hk
  rw[if_neg hk]
  unfold K5 at e⊢
  split at e
  ·exact e
  ·rename_i id off
   cases hi:V id with
   |none=>simp[hi,DW]at e
   |some ob=>rw[h _ _ hi, <-hi];exact e
  ·cases e
theorem Wu{op:Op}{d:D}(e:dop tab O V op=some d):dop tab O S' op=some d:=by
 cases op<;>first|exact e|(simp only[dop]at e⊢; exact loadT_mono h e)|skip
 case call c =>
  obtain⟨callee,args,ats⟩:=c
  cases callee<;>try exact e
  rename_i b
  cases b<;>exact e
theorem UV{op:Op}{d:D}(e:dop2 tab O V op=some d):dop2 tab O S' op=some d:=by
 cases op<;>first|exact e|skip
 case lookup t x k ok =>
  simp only[dop2]at e⊢
  unfold GG at e⊢
  split at e<;>(try (cases e;done))
  rename_i kt et hk
  split at e<;>(try (cases e;done))
  rename_i hc
  rw[if_neg hc]
  split at e<;>(try (cases e;done))
  rename_i l hl
  rw[Hq h hl];exact e
 case call c =>
  simp only[dop2]at e⊢
  unfold Gd at e⊢
  split at e<;>(try (exact e))<;>(try (cases e;done))
  unfold HO at e⊢
  split at e<;>(try (cases e;done))
  rename_i _ _ x _ _
  split at e<;>(try (cases e;done))
  cases hl:Cx V (ev O x)with
  |none=>rw[hl]at e;cases e
  |some l=>rw[hl]at e;rw[Hq h hl];exact e
theorem Hu{op:Op}{d:D}(e:dopX tab O V op=some d):dopX tab O S' op=some d:=by
 have key:dop tab O V op=none->dop tab O S' op=none\/dop2 tab O V op=none:=by
  intro hn
  cases op<;>first|exact .inl hn|exact .inr rfl|skip
  case call c =>
   obtain⟨callee,args,ats⟩:=c
   cases callee<;>first|exact .inl hn|skip
   rename_i b
   cases b<;>exact .inl hn
 unfold dopX at e⊢
 split at e
 ·rename_i d' hd
  rw[Wu h hd];exact e
 ·rename_i hd
  rcases key hd with hc|hc
  ·rw[hc];exact UV h e
  ·rw[hc]at e;cases e
end mono
section
variable (P:Program)(ro:Option Nat)(n:Nat)(ops:Array Oper)(N:Nat)(S0:Sig)(Q:DX->St->Prop)(df:List DDf)
def EQ(dst:Option Tmp)(R Rp:D->Sig->Prop):DX->St->Prop
 |.normal,s=>s.df=df/\R (match dst with|some t=>getD s.O t|none => .any) s.V
 |.panic d,s=>s.df=df/\Rp d s.V
 |_,_=>False
structure Calm(O:Fr)(o:Oper)(d:D):Prop where
 ok:At n o=true
 run:(AJ ops (only (o.looksAt ops) O) o=some true/\(∀c,o.op≠.defer c)/\(∀(w:World) (ρ:Operand->Value) f,o.about P w ρ=some f->False) /\
   ∀V,Sub S0 V->∀g w (a:Act),Sim P g V w->RepT g (only (o.looksAt ops) O) n a.tmps->ORun P g V d (execOp a.eval o) w) \/
  (AJ ops (only (o.looksAt ops) O) o=some false/\D8 N o.op=true/\(d=.any\/d=.tup [])) \/
  (AJ ops (only (o.looksAt ops) O) o=some true /\ ∀V,Sub S0 V->∀ro df,DOps P ro n ops (EQ df o.dst (fun d' S'=>d'=d/\Sub V S') fun _ _=>False) [o] ⟨only (o.looksAt ops) O,V,df⟩)
structure Eff(O:Fr)(V:Sig)(o:Oper)(R Rp:D->Sig->Prop):Prop where
 ok:At n o=true
 want:AJ ops (only (o.looksAt ops) O) o=some true
 run:DOps P ro n ops (EQ df o.dst R Rp) [o] ⟨only (o.looksAt ops) O,V,df⟩
def MOps (E:List Nat):List Nat->Fr->Sig->Prop
  |[],O,V=>DOps P ro n ops Q [] ⟨O,V,df⟩
  | i::r,O,V => ∃ o,ops[i]? = some o /\
    ((∃ d,Calm P n ops N S0 O o d/\MOps E r (putD o.dst d O) V) \/
     (E.contains i=true/\Eff P ro n ops df O V o (fun d S'=>Sub S0 S'/\MOps E r (putD o.dst d O) S') (fun d S' => ∀U',Q (.panic d) ⟨U',S',df⟩)))
end
section
variable {P:Program}{ro:Option Nat}{n:Nat}{ops:Array Oper}{N:Nat}{S0:Sig}{Q:DX->St->Prop}{df:List DDf}{E:List Nat}
theorem Calm.congr{O U':Fr}{o:Oper}{d:D}(h:∀t∈o.looksAt ops,getD O t=getD U' t)(hy:Calm P n ops N S0 O o d):Calm P n ops N S0 U' o d:=by
 have e:=Ku h
 exact⟨hy.ok,by rw[<-e];exact hy.run⟩
theorem Ci {Q':DX->St->Prop} (hq : ∀ x s,Q x s->Q' x s) {g:G} {r:Option Nat} : ∀ (l:List Oper) {a:Act} {w:World},wpListIn (FX P r) 0 P ops (Post P g n Q) l a w->wpListIn (FX P r) 0 P ops (Post P g n Q') l a w
  |[],_,_,⟨g',s',x,h1,h2,h3,h4⟩=>⟨g',s',x,h1,h2,h3,hq _ _ h4⟩
  | o::l,a,w,h=>by
    have pq:∀{e a w},Post P g n Q e a w->Post P g n Q' e a w:=fun ⟨g',s',x,h1,h2,h3,h4⟩=>⟨g',s',x,h1,h2,h3,hq _ _ h4⟩
    unfold wpListIn at h⊢
    split
    · rename_i hw
      rw[if_pos hw]at h
      refine⟨h.1,?_⟩
      have h2:=h.2
      revert h2
      generalize (o.semAt (FX P r).round a.eval).run P w=res
      cases res with
      | ok nx w' =>
        cases nx<;>simp only[Oper.uponIn]<;>first
          |exact fun h=>Ci hq l h
          | (rintro ⟨h1,h2⟩
             refine⟨h1,?_⟩
             first
               | (refine h2.mono ?_
                  intro e w'' he
                  cases e<;>first
                    |exact Ci hq l he
                    |exact pq he
                    |(obtain⟨a0,w0,he⟩:=he;exact⟨a0,w0,pq he⟩))
               | (refine h2.mono ?_
                  intro v w'' he
                  exact Ci hq l he))
          |exact fun h=>h
      |halt x w'=>cases x<;>simp only[Oper.uponIn]<;>first|exact fun h=>pq h|exact fun h=>h
    · rename_i hw
      rw[if_neg hw]at h
      exact⟨h.1,Ci hq l h.2⟩
theorem US{l:List Oper}{s:St}{Q':DX->St->Prop}(h:DOps P ro n ops Q l s)(hq:∀x s,Q x s->Q' x s):DOps P ro n ops Q' l s :=
 fun g w a r hr hs=>Ci hq l (h g w a r hr hs)
theorem Eff.congr{O U':Fr}{V:Sig}{o:Oper}{R R' Rp:D->Sig->Prop}(h:∀t∈o.looksAt ops,getD O t=getD U' t)(hy:Eff P ro n ops df O V o R Rp)(hR:∀d S',R d S'->R' d S'):Eff P ro n ops df U' V o R' Rp:=by
 have e:=Ku h
 refine⟨hy.ok,by rw[<-e];exact hy.want,?_⟩
 rw[<-e]
 refine US hy.run fun x s hx =>?_
 cases x with
 |normal=>exact⟨hx.1,hR _ _ hx.2⟩
 |panic d=>exact hx
 |_=>exact hx
theorem MOps.alike: ∀(l:List Nat) {O U':Fr} {V:Sig},Alike O U'->MOps P ro n ops N S0 Q df E l O V->MOps P ro n ops N S0 Q df E l U' V
 |[],_,_,_,h,k=>CP h k
 |i::r,_,_,_,h,⟨o,ho,k⟩=>⟨o,ho,(match k with
  |.inl ⟨d,h2,h3⟩ => .inl ⟨d,h2.congr fun t _=>h t,MOps.alike r (h.put _ _) h3⟩
  |.inr ⟨h1,h2⟩ => .inr ⟨h1,h2.congr (fun t _=>h t) fun d S' ⟨h3,h4⟩=>⟨h3,MOps.alike r (h.put _ _) h4⟩⟩)⟩
theorem G3{i:Nat}{oi:Oper}(hi:ops[i]? = some oi)(post:List Nat): ∀(pre:List Nat) (O:Fr) (V:Sig),
  (∀x∈pre,E.contains x=false /\ ∃ox,ops[x]? = some ox/\oi.apart ops ox=true)->MOps P ro n ops N S0 Q df E (pre++i::post) O V->MOps P ro n ops N S0 Q df E (i::(pre++post)) O V
 |[],_,_,_,h=>h
 | x::pre,O,V,hp,h=>by
  obtain⟨hxE,ox,hox,hap⟩:=hp x (by simp)
  obtain⟨a1,a2,a3⟩:=Oper.apart_spec hap
  obtain⟨ox',hox',hx⟩:=h
  obtain rfl:ox'=ox:=by rw[hox]at hox';cases hox';rfl
  rcases hx with⟨d,hy,h⟩|⟨hE,_⟩
  ·obtain⟨oi',hoi',hh⟩:=G3 hi post pre _ V (fun y hy=>hp y (by simp[hy])) h
   obtain rfl:oi'=oi:=by rw[hi]at hoi';cases hoi';rfl
   refine⟨oi',hi,?_⟩
   rcases hh with⟨e,h2,h3⟩|⟨h1,h2⟩
   ·refine .inl ⟨e,h2.congr fun t ht=>AI fun hd=>a3 t hd ht,ox',hox,.inl ⟨d,hy.congr fun t ht=>(AI fun hd=>a1 t hd ht).symm,?_⟩⟩
    exact MOps.alike _ (BD _ _ _ fun t p q=>a2 t p q) h3
   ·refine .inr ⟨h1,h2.congr (fun t ht=>AI fun hd=>a3 t hd ht) fun e S' ⟨h3,h4⟩=>⟨h3,ox',hox,.inl ⟨d,hy.congr fun t ht=>(AI fun hd=>a1 t hd ht).symm,?_⟩⟩⟩
    exact MOps.alike _ (BD _ _ _ fun t p q=>a2 t p q) h4
  ·rw[hxE]at hE;cases hE
def mixB(ops:Array Oper)(E:List Nat):List Nat->List Nat->Bool
 |_,[]=>true
 | done,i::r => !done.contains i && (match ops[i]? with
  |some o=>(o.after.all fun e => !Region.binds .any e||done.contains e.on)&&done.all fun x=>(!E.contains x&&match ops[x]? with
   |some ox=>o.apart ops ox
   |none=>false)||Ex ops ops.size i x
  |none=>false)&&mixB ops E (i::done) r
theorem En{i:Nat}{l2:List Nat}: ∀(l1 done:List Nat),mixB ops E done (l1++i::l2)=true->i∉l1/\i∉done/\i∉l2 /\ ∃o,ops[i]? = some o/\(∀e∈o.after,Region.binds .any e=true->e.on∈l1\/e.on∈done) /\
   ∀x,x∈l1->Ex ops ops.size i x=true\/(E.contains x=false /\ ∃ox,ops[x]? = some ox/\o.apart ops ox=true)
 | [],done,h=>by
  simp only[List.nil_append,mixB,Bool.and_eq_true,Bool.not_eq_true',List.contains_eq_mem,decide_eq_false_iff_not]at h
  obtain⟨⟨h1,h2⟩,h3⟩:=h
  have later:∀(l d:List Nat),i∈d->mixB ops E d l=true->i∉l:=by
   intro l
   induction l with
   |nil=>intro _ _ _ h;cases h
   |cons y l ih =>
    intro d hd hm hmem
    simp only[mixB,Bool.and_eq_true,Bool.not_eq_true',List.contains_eq_mem,decide_eq_false_iff_not]at hm
    obtain⟨⟨m1,_⟩,m3⟩:=hm
    rcases List.mem_cons.1 hmem with rfl|hmem
    ·exact m1 hd
    ·exact ih (y::d) (by simp[hd]) m3 hmem
  refine⟨by simp,h1,later l2 _ (by simp) h3,?_⟩
  split at h2
  ·rename_i o ho
   simp only[Bool.and_eq_true]at h2
   refine⟨o,ho,fun e he hb =>?_,fun x hx=>by cases hx⟩
   have:=Array.all_eq_true_iff_forall_mem.1 h2.1 e he
   simp only[hb,Bool.not_true,Bool.false_or,List.contains_eq_mem,decide_eq_true_eq]at this
   exact .inr this
  ·cases h2
 | y::l1,done,h=>by
  simp only[List.cons_append,mixB,Bool.and_eq_true]at h
  obtain⟨h1,h2,h3,o,ho,he,hx⟩:=En l1 (y::done) h.2
  have hiy:i≠y:=fun e=>h2 (by simp[e])
  refine⟨by simp[hiy,h1],fun hd=>h2 (by simp[hd]),h3,o,ho,fun e hm hb =>?_,?_⟩
  ·rcases he e hm hb with h4|h4
   ·exact .inl (by simp[h4])
   ·rcases List.mem_cons.1 h4 with h5|h5
    ·exact .inl (by simp[h5])
    ·exact .inr h5
  ·intro x hmem
   rcases List.mem_cons.1 hmem with rfl|hmem
   ·
    have back:∀(l d:List Nat),x∈d->mixB ops E d (l++i::l2)=true->Ex ops ops.size i x=true\/(E.contains x=false /\ ∃ox,ops[x]? = some ox/\o.apart ops ox=true):=by
     intro l
     induction l with
     | nil =>
      intro d hd hm
      simp only[List.nil_append,mixB,Bool.and_eq_true,ho]at hm
      have:=List.all_eq_true.1 hm.1.2.2 x hd
      simp only[Bool.or_eq_true,Bool.and_eq_true,Bool.not_eq_true']at this
      rcases this.symm with h4|⟨h4,h5⟩
      ·exact .inl h4
      ·refine .inr ⟨h4,?_⟩
       split at h5
       ·rename_i ox hox;exact⟨ox,hox,h5⟩
       ·cases h5
     |cons z l ih =>
      intro d hd hm
      simp only[List.cons_append,mixB,Bool.and_eq_true]at hm
      exact ih (z::d) (by simp[hd]) hm.2
    exact back l1 _ (by simp) h.2
   ·exact hx x hmem
def Fe(ops:Array Oper)(E ord:List Nat):Bool:=mixB ops E [] ord&&(List.range ops.size).all ord.contains&&ord.length==ops.size
theorem D2 {K:Act->World->Prop} {g0 g:G} {w:World} {a:Act} {r:Option Nat} {O:Fr} {V:Sig} {o:Oper} {R Rp:D->Sig->Prop} (hr:RoRep g ro r) (hg:g0.le g)
    (hs:SimS P g n ⟨O,V,df⟩ a w) (hE:Eff P ro n ops df O V o R Rp) (hK:∀g' w' a' d S',g.le g'->R d S'->SimS P g' n ⟨putD o.dst d O,S',df⟩ a' w'->K a' w')
    (hp:∀d S',Rp d S'->∀U',Q (.panic d) ⟨U',S',df⟩) :
    (if Region.wanted o (yielded ops a.tmps) then o.wpIn (FX P r) 0 P a w K (Post P g0 n Q) else(∀f,o.about P w a.eval=some f->(FX P r).fn f)/\K (a.put o.dst undef) w):=by
  have hs0:SimS P g n ⟨only (o.looksAt ops) O,V,df⟩ a w:=⟨hs.sim,MC _ hs.tmps,hs.df⟩
  have h:=hE.run g w a r hr hs0
  have hw:=AF hs0.tmps hE.want
  rw[hw,if_pos rfl]
  unfold wpListIn at h
  rw[hw,if_pos rfl]at h
  have fin:∀(a':Act) (w':World) (v:Value),a'.tmps=(a.put o.dst v).tmps->wpListIn (FX P r) 0 P ops (Post P g n (EQ df o.dst R Rp)) [] a' w'->K a' w':=by
    rintro a' w' v hv ⟨g',s',x,l1,l2,l3,l4⟩
    cases x with
    | normal =>
      obtain⟨e1,e2⟩:=l4
      refine hK g' w' a' _ s'.V l1 e2 ⟨l2.sim,⟨l2.tmps.1,fun t =>?_⟩,by rw[<-e1];exact l2.df⟩
      cases hd:o.dst with
      | none =>
        rw[hd]at hv
        simp only[putD,Act.put]at hv⊢
        rw[hv]
        exact Rep.mono l1 _ (hs.tmps.2 t)
      | some k =>
        rw[hd]at hv
        simp only[putD,Aa]
        by_cases hk:t=k
        · subst hk;rw[if_pos rfl];exact l2.tmps.2 t
        · rw [if_neg hk,hv]
          simp only[Act.put]
          rw[show(a.tmps.setIfInBounds k v).getD t undef=a.tmps.getD t undef by simp[Array.getD_eq_getD_getElem?, Array.getElem?_setIfInBounds_ne (Ne.symm hk)]]
          exact Rep.mono l1 _ (hs.tmps.2 t)
    |ret=>cases l3
    |exit _=>cases l3
    |panic _=>obtain⟨v,l3,_⟩:=l3;cases l3
  have pan:∀(c:List PanicEntry) (w':World),Post P g n (EQ df o.dst R Rp) (.panic c) a w'->Post P g0 n Q (.panic c) a w':=by
    rintro c w' ⟨g',s',x,l1,l2,l3,l4⟩
    cases x with
    |normal=>cases l3
    |ret=>cases l3
    |exit _=>cases l3
    |panic d=>exact⟨g',⟨O,s'.V,df⟩,.panic d,hg.trans l1,⟨l2.sim,hs.tmps.mono l1,by rw[<-l4.1];exact l2.df⟩,l3,hp d _ l4.2 O⟩
  have lets:LetsOut (Post P g n (EQ df o.dst R Rp))->LetsOut (Post P g0 n Q):=by
    rintro⟨a0,w0,g',s',x,l1,l2,l3,l4⟩
    cases x with
    |panic _=>obtain⟨v,l3,_⟩:=l3;cases l3
    |_=>cases l3
  refine⟨h.1,?_⟩
  have h2:=h.2
  revert h2
  generalize (o.semAt (FX P r).round a.eval).run P w=res
  cases res with
  | ok nx w' =>
    cases nx<;>simp only[Oper.uponIn]<;>first
      |exact fun h=>fin _ _ _ rfl h
      |exact fun h=>fin _ _ undef (by simp[Act.put];cases o.dst<;>rfl) h
      | (rintro ⟨h1,h2⟩
         refine⟨h1,?_⟩
         first
           | (refine h2.mono ?_
              intro e w'' he
              cases e<;>first
                |exact fin _ _ _ rfl he
                |exact pan _ _ he
                |exact lets he)
           | (refine h2.mono ?_
              intro v w'' he
              exact fin _ _ _ rfl he))
      |exact fun h=>h
  |halt x w'=>cases x<;>simp only[Oper.uponIn]<;>first|exact fun h=>pan _ _ h|exact fun h=>h
theorem EK(hN:P.funcs.size=N){K:Act->World->Prop}{g0 g:G}{w:World}{a:Act}{r:Option Nat}{O:Fr}{V:Sig}{o:Oper}{d:D}(hr:RoRep g ro r)(hg:g0.le g)
  (hs:SimS P g n ⟨O,V,df⟩ a w) (hC:Sub S0 V) (hy:Calm P n ops N S0 O o d)
  (hK:∀g' w' a',g.le g'->SimS P g' n ⟨putD o.dst d O,V,df⟩ a' w'->K a' w') :
  (if Region.wanted o (yielded ops a.tmps) then o.wpIn (FX P r) 0 P a w K (Post P g0 n Q) else(∀f,o.about P w a.eval=some f->(FX P r).fn f)/\K (a.put o.dst undef) w):=by
 have hT:=MC (o.looksAt ops) hs.tmps
 rcases hy.run with⟨hw,hnd,hab,hd⟩|⟨hw,hsk,hdu⟩|⟨hw,hd⟩
 ·rw[AF hT hw,if_pos rfl]
  refine⟨fun f hf=>(hab _ _ f hf).elim,?_⟩
  obtain⟨g',w',v,h1,h2,h3,h4⟩:=hd V hC g w a hs.sim hT
  rw[Oper.semAt_eq _ _ _ hnd,h1]
  exact hK g' w' _ h2 (hs.put h2 h3 h4 hy.ok)
 ·rw[AF hT hw,if_neg (by simp)]
  refine⟨fun f hf=>EL (by rw[hN];exact hsk) w _ f hf (fun _=>rfl),?_⟩
  have h0:Rep g d undef:=by rcases hdu with rfl|rfl;exact trivial;exact⟨[],rfl,rfl⟩
  exact hK g w _ (.refl g) (hs.put (.refl g) hs.sim h0 hy.ok)
 ·exact D2 (Q:=Q) hr hg hs ⟨hy.ok,hw,hd V hC ro df⟩ (fun g' w' a' d' S' hg' hR hs'=>by
   obtain⟨rfl,hsub⟩:=hR
   exact hK g' w' a' hg' ⟨hs'.sim.sub hsub,hs'.tmps,hs'.df⟩) (fun _ _ h=>h.elim)
theorem Aw{l:List Nat}{listed:Array Bool}{i:Nat}(h:i∉l):l.filter (fun j => !(listed.setIfInBounds i true).getD j true)=l.filter fun j => !listed.getD j true :=
 List.filter_congr fun j hj=>by rw[getD_set_ne true (show i≠j from fun e=>h (by rw[e];exact hj))]
theorem Vt(hN:P.funcs.size=N){ord:List Nat}(hB:Fe ops E ord=true){g0:G}{rr:Option Nat}(hr:RoRep g0 ro rr): ∀(m:Nat) (r:List Nat) (listed:Array Bool) (O:Fr) (V:Sig),r.length=m->listed.size=ops.size->
  r=ord.filter (fun i => !listed.getD i true)->Closed ops listed->MOps P ro n ops N S0 Q df E r O V->Sub S0 V->
   ∀(g:G) (w:World) (a:Act),g0.le g->SimS P g n ⟨O,V,df⟩ a w->wpAnyIn (FX P rr) 0 P .any ops (Post P g0 n Q) m listed a w:=by
 unfold Fe at hB
 simp only[Bool.and_eq_true]at hB
 obtain⟨⟨hmix,hall⟩,_⟩:=hB
 have hmem:∀(r:List Nat) (listed:Array Bool),r=ord.filter (fun i => !listed.getD i true)->∀i∈Region.ready .any ops listed,i∈r:=by
  intro r listed hf i hi
  obtain⟨h1,o,ho,_⟩:=mem_ready.1 hi
  have:=List.all_eq_true.1 hall i (by simpa using(Array.getElem?_eq_some_iff.1 ho).1)
  rw[hf,List.mem_filter]
  exact⟨by simpa using this,by rw[h1];rfl⟩
 intro m
 induction m with
 |zero =>
  intro r listed O V hl hsz hf hcl h hC g w a hg hs
  obtain rfl:r=[]:=List.length_eq_zero_iff.1 hl
  refine⟨List.eq_nil_iff_forall_not_mem.2 fun i hi =>?_,?_⟩
  ·have:=hmem [] listed hf i hi;cases this
  ·exact Post.le hg (h g w a rr (hr.mono hg) hs)
 | succ m ih =>
  intro r listed O V hl hsz hf hcl h hC g w a hg hs
  obtain⟨y,t,rfl⟩:∃y t,r=y::t:=by cases r with|nil=>cases hl|cons y t=>exact⟨y,t,rfl⟩
  refine⟨fun he =>?_,fun i hi =>?_⟩
  ·exfalso
   obtain⟨l1,l2,hord,hl1,hy,hl2⟩:=List.filter_eq_cons_iff.1 hf.symm
   subst hord
   obtain⟨h1,_,_,o,ho,hea,_⟩:=En l1 [] hmix
   have:y∈Region.ready .any ops listed:=by
    refine mem_ready.2 ⟨by simpa using hy,o,ho,fun e hm hb =>?_⟩
    rcases hea e hm hb with h4|h4
    ·have h5:=hl1 _ h4
     simp only[Bool.not_eq_true,Bool.not_eq_false']at h5
     have hlt:e.on<listed.size:=by
      have:e.on∈l1++y::l2:=by simp[h4]
      obtain⟨p1,p2,hp⟩:=List.append_of_mem this
      rw[hp]at hmix
      obtain⟨_,_,_,o',ho',_⟩:=En p1 [] hmix
      rw[hsz];exact(Array.getElem?_eq_some_iff.1 ho').1
     simpa[hlt] using h5
    ·cases h4
   rw[he]at this;cases this
  ·obtain⟨pre,post,hsplit⟩:=List.append_of_mem (hmem _ listed hf i hi)
   rw[hsplit]at hf h hl
   obtain⟨l1',l2',hord,hf1,hf2⟩:=List.filter_eq_append_iff.1 hf.symm
   obtain⟨m1,m2,hl2',hm1,hiu,hf3⟩:=List.filter_eq_cons_iff.1 hf2
   have hord':ord=(l1'++m1)++i::m2:=by rw[hord,hl2'];simp
   rw[hord']at hmix
   obtain⟨n1,_,n3,o,ho,hea,hx⟩:=En (l1'++m1) [] hmix
   obtain⟨hiun,o',ho',hdone⟩:=mem_ready.1 hi
   obtain rfl:o'=o:=by rw[ho]at ho';cases ho';rfl
   have hfront:=G3 ho post pre O V (fun x hxp=>by
    have hx1:x∈l1'++m1:=by
     have:x∈l1'.filter (fun i => !listed.getD i true):=by rw[hf1];exact hxp
     simp[(List.mem_filter.1 this).1]
    have hxu:listed.getD x true=false:=by
     have:x∈l1'.filter (fun i => !listed.getD i true):=by rw[hf1];exact hxp
     simpa using(List.mem_filter.1 this).2
    rcases hx x hx1 with h4|h4
    ·exfalso
     have:=Cw hcl ops.size i x o' ho hdone h4
     rcases Nat.lt_or_ge x listed.size with hlt|hlt
     ·simp[hlt]at this hxu;rw[hxu]at this;cases this
     ·simp[Array.getElem?_eq_none hlt]at this
    ·exact h4) h
   have hnext:pre++post=ord.filter (fun j => !(listed.setIfInBounds i true).getD j true):=by
    have hil:i<listed.size:=by
     rw[hsz];exact(Array.getElem?_eq_some_iff.1 ho).1
    rw[hord',List.filter_append,List.filter_cons]
    have e1:(listed.setIfInBounds i true).getD i true=true:=by simp[hil]
    rw[e1,Aw n1,Aw n3]
    simp only[Bool.not_true,Bool.false_eq_true,if_false,List.filter_append,hf1,hf3]
    rw[List.filter_eq_nil_iff.2 (fun x hx=>by simpa using hm1 x hx),List.append_nil]
   have hlen:(pre++post).length=m:=by simp at hl⊢; omega
   obtain⟨o2,ho2,hh⟩:=hfront
   obtain rfl:o2=o':=by rw[ho]at ho2;cases ho2;rfl
   unfold wpOpIn
   simp only[ho]
   rcases hh with⟨d,hy,hM⟩|⟨_,hE⟩
   ·exact EK hN (hr.mono hg) hg hs hC hy fun g' w' a' hg' hs'=>ih _ _ _ _ hlen (by simpa using hsz) hnext (hcl.set hi) hM hC g' w' a' (hg.trans hg') hs'
   ·exact D2 (hr.mono hg) hg hs hE (fun g' w' a' d S' hg' hR hs'=>ih _ _ _ _ hlen (by simpa using hsz) hnext (hcl.set hi) hR.2 hR.1 g' w' a' (hg.trans hg') hs') fun d S' hp=>hp
theorem Di{n:Nat}: ∀{l:List Nat},(∀i∈l,i<n)->l.filter (fun i => !(Array.replicate n false).getD i true)=l:=by
 intro l h
 rw[List.filter_eq_self]
 intro i hi
 simp[h i hi]
theorem dwp_mix(hN:P.funcs.size=N)(hm:P.follows .mixedOrders=true){l:List Oper}{id:Nat}{O:Fr}{V:Sig}(ord E:List Nat)(S0:Sig)(hB:Fe l.toArray E ord=true)(hC:Sub S0 V)
  (h:MOps P ro n l.toArray N S0 Q df E ord O V):DWp P ro n (.region id l.toArray true) Q ⟨O,V,df⟩:=by
 intro g w a r hr hs
 refine wpIn_region_any hm ?_
 have hcl:Closed l.toArray (Array.replicate l.toArray.size false):=by
  intro q o _ hq
  rcases Nat.lt_or_ge q l.length with h'|h'
  ·simp[h']at hq
  ·simp[h']at hq
 have hs':SimS P g n ⟨O,V,df⟩ a { w with drawn:=w.drawn+1 } :=
  ⟨⟨fun b o v h=>hs.sim.imm b o v h,hs.sim.keep,fun i o h=>by
   have:=hs.sim.obj i o h
   cases o<;>exact this,hs.sim.inj,hs.sim.free,hs.sim.htop,hs.sim.hdom,hs.sim.fin,hs.sim.io⟩,hs.tmps,hs.df⟩
 have hlt:∀i∈ord,i<l.toArray.size:=by
  intro i hi
  obtain⟨p1,p2,hp⟩:=List.append_of_mem hi
  have hB':=hB
  unfold Fe at hB'
  simp only[Bool.and_eq_true]at hB'
  rw[hp]at hB'
  obtain⟨_,_,_,o',ho',_⟩:=En p1 [] hB'.1.1
  exact(Array.getElem?_eq_some_iff.1 ho').1
 have hlen:ord.length=l.toArray.size:=by
  have hB':=hB
  unfold Fe at hB'
  simp only[Bool.and_eq_true,beq_iff_eq]at hB'
  exact hB'.2
 have:=Vt hN hB hr ord.length ord (Array.replicate l.toArray.size false) O V rfl (by simp) (Di hlt).symm hcl h hC g _ a (.refl g) hs'
 rw[hlen]at this
 exact this
end
theorem J0{α β:Type}{f f':α->β}: ∀{x:Option α},(∀a,x=some a->f a=f' a)->x.map f=x.map f'
 |none,_=>rfl
 |some a,h=>by rw[Option.map_some,Option.map_some,h a rfl]
theorem Rq{tab:Nat->Ty}{O U':Fr}{V:Sig}{op:Op}(h:∀x∈op.operands,ev O x=ev U' x):dop2 tab O V op=dop2 tab U' V op:=by
 cases op<;>simp only[Op.operands]at h<;>simp only[dop2]
 case slice t x lo hi mx =>
  rw[h x (by simp)]
  have e1:lo.map (ev O)=lo.map (ev U'):=J0 fun a ha=>h a (by simp[ha])
  have e2:hi.map (ev O)=hi.map (ev U'):=J0 fun a ha=>h a (by simp[ha])
  have e3:mx.map (ev O)=mx.map (ev U'):=J0 fun a ha=>h a (by simp[ha])
  rw[e1,e2,e3]
 case lookup t x k ok=>rw[h x (by simp),h k (by simp)]
 case typeAssert x s t ok=>rw[h x (by simp)]
 case build t parts =>
  have hp:∀p∈parts.toList,ev O p.2=ev U' p.2:=fun p hp=>h p.2 (by simp;exact⟨p.1,by simpa using hp⟩)
  rw[show(parts.toList.map fun p=>(p.1,ev O p.2))=parts.toList.map fun p=>(p.1,ev U' p.2) from List.map_congr_left fun p hp'=>by rw[hp p hp']]
 case call c =>
  obtain⟨callee,args,ats⟩:=c
  cases callee<;>try rfl
  rename_i b
  obtain⟨args⟩:=args
  obtain⟨ats⟩:=ats
  cases b<;>try rfl
  ·simp only[Gd,HO]
   split
   ·rename_i x
    rw[h x (by simp[Call.operands])]
   ·rfl
  ·simp only[Gd]
   match args,h with
   |[a,b],h=>simp only;rw[h a (by simp[Call.operands]),h b (by simp[Call.operands])]
   |[],_=>rfl
   |[_],_=>rfl
   |_::_::_::_,_=>rfl
  ·simp only[Gd]
   match args,h with
   |[a,b],h=>simp only;rw[h a (by simp[Call.operands]),h b (by simp[Call.operands])]
   |[],_=>rfl
   |[_],_=>rfl
   |_::_::_::_,_=>rfl
theorem Be{tab:Nat->Ty}{O U':Fr}{V:Sig}{op:Op}(h:∀x∈op.operands,ev O x=ev U' x):dopX tab O V op=dopX tab U' V op:=by
 unfold dopX
 rw[NT h,Rq h]
def E4:Op->Bool
 |.call { callee := .builtin .len,.. }|.call { callee := .builtin .max,.. }|.call { callee := .builtin .min,.. }=>true
 |.move _|.assign _|.pick .. | .box .. | .load .. | .nilCheck _|.binOp .. | .unOp .. | .convert .. | .makeInterface .. | .makeFunc .. | .fieldAddr .. | .field .. | .indexAddr .. | .index .. | .extract .. | .buildSlice .. => true
 |.slice .. | .lookup .. | .typeAssert .. | .build .. => true
 |_=>false
section
variable (P:Program)(ro:Option Nat)(n:Nat)(ops:Array Oper)(N:Nat)(S0:Sig)(Q:DX->St->Prop)(df:List DDf)
def MO:List (Bool×Oper)->Fr->Sig->Prop
 |[],O,V=>DOps P ro n ops Q [] ⟨O,V,df⟩
 |(e,o)::r,O,V =>
  (∃d,Calm P n ops N S0 O o d/\MO r (putD o.dst d O) V) \/
  (e=true/\Eff P ro n ops df O V o (fun d S'=>Sub S0 S'/\MO r (putD o.dst d O) S') (fun d S' => ∀U',Q (.panic d) ⟨U',S',df⟩))
end
def pick(ops:Array Oper)(E ord:List Nat):List (Bool×Oper):=ord.filterMap fun i=>(ops[i]?).map fun o=>(E.contains i,o)
section
variable {P:Program}{ro:Option Nat}{n:Nat}{ops:Array Oper}{N:Nat}{S0:Sig}{Q:DX->St->Prop}{df:List DDf}{E:List Nat}
theorem EB: ∀{ord:List Nat} {O:Fr} {V:Sig},(∀i∈ord,i<ops.size)->MO P ro n ops N S0 Q df (pick ops E ord) O V->MOps P ro n ops N S0 Q df E ord O V
 |[],_,_,_,h=>h
 | i::r,O,V,hlt,h=>by
  have hi:ops[i]? = some ops[i]! := by
   have:=hlt i (by simp)
   simp[this]
  have hp:pick ops E (i::r)=(E.contains i,ops[i]!)::pick ops E r:=by
   unfold pick
   rw[List.filterMap_cons,hi]
   rfl
  rw[hp]at h
  have hlt':∀j∈r,j<ops.size:=fun j hj=>hlt j (by simp[hj])
  refine⟨_,hi,?_⟩
  rcases h with⟨d,h2,h3⟩|⟨h1,h2⟩
  ·exact .inl ⟨d,h2,EB hlt' h3⟩
  ·exact .inr ⟨h1,h2.congr (fun _ _=>rfl) fun d S' ⟨h3,h4⟩=>⟨h3,EB hlt' h4⟩⟩
theorem SB{ord:List Nat}(hB:Fe ops E ord=true): ∀i∈ord,i<ops.size:=by
 intro i hi
 obtain⟨p1,p2,hp⟩:=List.append_of_mem hi
 unfold Fe at hB
 simp only[Bool.and_eq_true]at hB
 rw[hp]at hB
 obtain⟨_,_,_,o',ho',_⟩:=En p1 [] hB.1.1
 exact(Array.getElem?_eq_some_iff.1 ho').1
theorem Wm(hN:P.funcs.size=N)(hm:P.follows .mixedOrders=true){l:List Oper}{id:Nat}{O:Fr}{V:Sig}(ord E:List Nat)(S0:Sig)(hB:Fe l.toArray E ord=true)(hC:Sub S0 V)
  {lp:List (Bool×Oper)} (hl:pick l.toArray E ord=lp) (h:MO P ro n l.toArray N S0 Q df lp O V):DWp P ro n (.region id l.toArray true) Q ⟨O,V,df⟩ :=
 dwp_mix hN hm ord E S0 hB hC (EB (SB hB) (by rw[hl];exact h))
theorem Sq{O:Fr}{V:Sig}(h:Q .normal ⟨O,V,df⟩):MO P ro n ops N S0 Q df [] O V:=AL h
theorem WM{l:List (Bool×Oper)}{O Sr:Fr}{V:Sig}{o:Oper}(ho:At n o=true)(hγ:only (o.looksAt ops) O=Sr)(hw:AJ ops Sr o=some true)
  (h:DOps P ro n ops (EQ df o.dst (fun d S'=>Sub S0 S'/\MO P ro n ops N S0 Q df l (putD o.dst d O) S') (fun d S' => ∀U',Q (.panic d) ⟨U',S',df⟩)) [o] ⟨Sr,V,df⟩):MO P ro n ops N S0 Q df ((true,o)::l) O V:=by
 subst hγ
 exact .inr ⟨rfl,ho,hw,h⟩
theorem LJ{e:Bool}{l:List (Bool×Oper)}{O:Fr}{V:Sig}{o:Oper}(hw:AJ ops O o=some false)(ho:At n o=true)(hs:D8 N o.op=true)
  (h:MO P ro n ops N S0 Q df l (putD o.dst (.tup []) O) V):MO P ro n ops N S0 Q df ((e,o)::l) O V :=
 .inl ⟨.tup [],⟨ho,.inr (.inl ⟨by rw[B5];exact hw,hs,.inr rfl⟩)⟩,h⟩
theorem Ph{e:Bool}{l:List (Bool×Oper)}{O Sr:Fr}{V:Sig}{o:Oper}(d:D)(ho:At n o=true)(hγ:only (o.looksAt ops) O=Sr)(hw:AJ ops Sr o=some true)
  (hq:∀S',Sub S0 S'->∀ro df,DOps P ro n ops (EQ df o.dst (fun d' S''=>d'=d/\Sub S' S'') fun _ _=>False) [o] ⟨Sr,S',df⟩)
  (h:MO P ro n ops N S0 Q df l (putD o.dst d O) V):MO P ro n ops N S0 Q df ((e,o)::l) O V:=by
 subst hγ
 exact .inl ⟨d,⟨ho,.inr (.inr ⟨hw,hq⟩)⟩,h⟩
end
def A9:List Operand->List Nat
 |[]=>[]
 |.tmp t::r=>t::A9 r
 |_::r=>A9 r
def A5(O:Fr):List Nat->Option Fr
 |[]=>some []
 | t::ts=>match O.lookup t with
  |some d=>match A5 O ts with
   |some r=>some ((t,d)::r)
   |none=>none
  |none=>none
theorem AQ{O:Fr}: ∀{l:List Nat} {Sr:Fr},A5 O l=some Sr->∀t∈l,getD Sr t=getD O t
 |[],_,_,_,h=>by cases h
 | a::l,Sr,e,t,h=>by
  simp only[A5]at e
  split at e<;>(try (cases e;done))
  rename_i d hd
  split at e<;>(try (cases e;done))
  rename_i r hr
  cases e
  rw[Aa]
  by_cases ht:t=a
  ·subst ht;rw[if_pos rfl];simp[getD,hd]
  ·rw[if_neg ht]
   exact AQ hr t (by simpa[ht] using h)
theorem Bc{t:Nat}: ∀{l:List Operand},Operand.tmp t∈l->t∈A9 l
 | x::l,h=>by
  rcases List.mem_cons.1 h with rfl|h
  ·simp[A9]
  ·have:=Bc h
   cases x<;>simp[A9,this]
theorem C3{O Sr:Fr}{op:Op}(h:A5 O (A9 op.operands.toList)=some Sr): ∀x∈op.operands,ev Sr x=ev O x :=
 fun x hx=>C4 fun t ht=>AQ h t (Bc (by rw[<-ht];simpa using hx))
theorem C2{O Sr:Fr}{x:Operand}(h:A5 O (A9 [x])=some Sr):ev Sr x=ev O x :=
 C4 fun t ht=>AQ h t (Bc (by simp[ht]))
theorem Bt{tab:Nat->Ty}{O U':Fr}{V:Sig}{op:Op}(h:∀x∈op.operands,ev O x=ev U' x):eopD tab O V op=eopD tab U' V op:=by
 cases op<;>simp only[Op.operands]at h<;>simp only[eopD]
 case store T a v=>rw[h a (by simp),h v (by simp)]
 case mapUpdate T a k v=>rw[h a (by simp),h k (by simp),h v (by simp)]
 case insert T a k v=>rw[h a (by simp),h k (by simp),h v (by simp)]
 case call c =>
  obtain⟨callee,args,ats⟩:=c
  cases callee<;>try rfl
  rename_i b
  obtain⟨args⟩:=args
  obtain⟨ats⟩:=ats
  cases b<;>try rfl
  simp only[bapD]
  match args,h with
  |[a,b],h=>simp only;rw[h a (by simp[Call.operands]),h b (by simp[Call.operands])]
  |[],_=>rfl
  |[_],_=>rfl
  |_::_::_::_,_=>rfl
theorem An{O:Fr}{k:Nat}{d:D}(h:O.lookup k=some d):getD O k=d:=by simp[getD,h]
@[simp] def D.plain:D->D
 |.slice es _ => .slice es .no
 |.nils => .slice [] .no
 |d=>d
theorem RC(d:D):WkD d d.plain:=by
 cases d<;>first|exact A8 _|exact AE _ _|exact Al _ (.inl rfl)
theorem Fp: ∀l:List D,WkL l (l.map D.plain)
 |[]=>trivial
 |d::l=>⟨RC d,Fp l⟩
theorem IA:WkL [] []:=trivial
theorem BL{a b:D}{l m:List D}(h:WkD a b)(k:WkL l m):WkL (a::l) (b::m):=⟨h,k⟩
theorem Ec: ∀l:List D,WkL l l
 |[]=>trivial
 |a::l=>⟨A8 a,Ec l⟩
section
variable {P:Program}{ro:Option Nat}{n:Nat}{ops:Array Oper}{Q:DX->St->Prop}{df:List DDf}{rest:List Oper}{O Sr:List (Nat×D)}{V S':Sig}{t:Nat}{op:Op}{ty:TypeId}{pos:String}{after:Array Edge}{guard:Option (Nat×Bool)}{d:D}
theorem CF{op:Op}(h:E4 op=true): ∀c,op≠.defer c:=fun c e=>by subst e;cases h
theorem FQ{tab:Nat->Ty}(ht:Ba P tab){o:Oper}(hr:E4 o.op=true)(hw:AJ ops O o=some true)(hd:dopX tab O V o.op=some d)(ho:At n o=true)
  (h:DOps P ro n ops Q rest ⟨putD o.dst d O,V,df⟩):DOps P ro n ops Q (o::rest) ⟨O,V,df⟩ :=
 Iv hw (CF hr) (JY ht hd) (fun g w a hs hT=>FT ht hs hT hd) ho h
theorem C8{j k:Nat}{b:Bool}(hk:(ops[j]?).bind (·.dst)=some k)(hb:O.lookup k=some (.bool b)):Dj ops O j=some b:=by
 unfold Dj
 rw[hk]
 simp only[Option.bind_some,An hb]
theorem GZ{tab:Nat->Ty}(ht:Ba P tab)(hr:E4 op=true)(htn:decide (t<n)=true)(hl:A5 O (A9 op.operands.toList)=some Sr)(hd:dopX tab Sr V op=some d)
  (h:DOps P ro n ops Q rest ⟨(t,d)::O,V,df⟩):DOps P ro n ops Q (⟨some t,op,ty,pos,after,none⟩::rest) ⟨O,V,df⟩ :=
 FQ ht hr rfl ((Be (C3 hl)) ▸ hd) htn h
theorem HD{tab:Nat->Ty}(ht:Ba P tab){j:Nat}{want:Bool}(hr:E4 op=true)(htn:decide (t<n)=true){k:Nat}(hk:(ops[j]?).bind (·.dst)=some k)(hb:O.lookup k=some (.bool want))(hl:A5 O (A9 op.operands.toList)=some Sr)(hd:dopX tab Sr V op=some d)
  (h:DOps P ro n ops Q rest ⟨(t,d)::O,V,df⟩):DOps P ro n ops Q (⟨some t,op,ty,pos,after,some (j,want)⟩::rest) ⟨O,V,df⟩ :=
 FQ ht hr (by simp only[AJ,C8 hk hb];simp) ((Be (C3 hl)) ▸ hd) htn h
theorem HE{tab:Nat->Ty}(ht:Ba P tab)(hr:E4 op=true)(hl:A5 O (A9 op.operands.toList)=some Sr)(hd:dopX tab Sr V op=some d)
  (h:DOps P ro n ops Q rest ⟨O,V,df⟩):DOps P ro n ops Q (⟨none,op,ty,pos,after,none⟩::rest) ⟨O,V,df⟩ :=
 FQ (o:=⟨none,op,ty,pos,after,none⟩) ht hr rfl ((Be (C3 hl)) ▸ hd) rfl h
theorem Vg{j k:Nat}{o:Oper}{want:Bool}(hk:(ops[j]?).bind (·.dst)=some k)(hb:O.lookup k=some (.tup []))(hg:o.guard=some (j,want):=by rfl):AJ ops O o=some false:=by
 unfold AJ
 rw[hg]
 have h1:Dj ops O j=none:=by unfold Dj;rw[hk];simp only[Option.bind_some,An hb]
 have h2:II ops O j=true:=by unfold II;rw[hk];simp only[An hb]
 simp only[h1,h2,if_true]
theorem IM{N:Nat}(hN:P.funcs.size=N){j:Nat}{want:Bool}{k:Nat}(hk:(ops[j]?).bind (·.dst)=some k)(hb:O.lookup k=some (.bool (!want)))(hs:D8 N op=true)(htn:decide (t<n)=true)
  (h:DOps P ro n ops Q rest ⟨(t,.tup [])::O,V,df⟩):DOps P ro n ops Q (⟨some t,op,ty,pos,after,some (j,want)⟩::rest) ⟨O,V,df⟩:=by
 intro g w a r hr hs'
 have hw':AJ ops O ⟨some t,op,ty,pos,after,some (j,want)⟩=some false:=by simp only[AJ,C8 hk hb];simp
 unfold wpListIn
 rw[AF hs'.tmps hw',if_neg (by simp)]
 refine⟨fun f hf=>EL (by rw[hN];exact hs) w _ f hf (fun _=>rfl),?_⟩
 have h0:Rep g (.tup []) undef:=⟨[],rfl,rfl⟩
 exact h g w _ r hr (hs'.put (o:=⟨some t,op,ty,pos,after,some (j,want)⟩) (.refl g) hs'.sim h0 htn)
theorem HC{N:Nat}(hN:P.funcs.size=N){j:Nat}{want:Bool}{k:Nat}(hk:(ops[j]?).bind (·.dst)=some k)(hb:O.lookup k=some (.bool (!want)))(hs:D8 N op=true)
  (h:DOps P ro n ops Q rest ⟨O,V,df⟩):DOps P ro n ops Q (⟨none,op,ty,pos,after,some (j,want)⟩::rest) ⟨O,V,df⟩:=by
 intro g w a r hr hs'
 have hw':AJ ops O ⟨none,op,ty,pos,after,some (j,want)⟩=some false:=by simp only[AJ,C8 hk hb];simp
 unfold wpListIn
 rw[AF hs'.tmps hw',if_neg (by simp)]
 refine⟨fun f hf=>EL (by rw[hN];exact hs) w _ f hf (fun _=>rfl),?_⟩
 have h0:Rep g (.tup []) undef:=⟨[],rfl,rfl⟩
 exact h g w _ r hr (hs'.put (o:=⟨none,op,ty,pos,after,some (j,want)⟩) (.refl g) hs'.sim h0 rfl)
theorem HB{N:Nat}(hN:P.funcs.size=N){j:Nat}{want:Bool}{k:Nat}(hk:(ops[j]?).bind (·.dst)=some k)(hb:O.lookup k=some (.tup []))(hs:D8 N op=true)(htn:decide (t<n)=true)
  (h:DOps P ro n ops Q rest ⟨(t,.tup [])::O,V,df⟩):DOps P ro n ops Q (⟨some t,op,ty,pos,after,some (j,want)⟩::rest) ⟨O,V,df⟩:=by
 intro g w a r hr hs'
 have hw':AJ ops O ⟨some t,op,ty,pos,after,some (j,want)⟩=some false:=by exact Vg hk hb
 unfold wpListIn
 rw[AF hs'.tmps hw',if_neg (by simp)]
 refine⟨fun f hf=>EL (by rw[hN];exact hs) w _ f hf (fun _=>rfl),?_⟩
 have h0:Rep g (.tup []) undef:=⟨[],rfl,rfl⟩
 exact h g w _ r hr (hs'.put (o:=⟨some t,op,ty,pos,after,some (j,want)⟩) (.refl g) hs'.sim h0 htn)
theorem Gw{N:Nat}(hN:P.funcs.size=N){j:Nat}{want:Bool}{k:Nat}(hk:(ops[j]?).bind (·.dst)=some k)(hb:O.lookup k=some (.tup []))(hs:D8 N op=true)
  (h:DOps P ro n ops Q rest ⟨O,V,df⟩):DOps P ro n ops Q (⟨none,op,ty,pos,after,some (j,want)⟩::rest) ⟨O,V,df⟩:=by
 intro g w a r hr hs'
 have hw':AJ ops O ⟨none,op,ty,pos,after,some (j,want)⟩=some false:=by exact Vg hk hb
 unfold wpListIn
 rw[AF hs'.tmps hw',if_neg (by simp)]
 refine⟨fun f hf=>EL (by rw[hN];exact hs) w _ f hf (fun _=>rfl),?_⟩
 have h0:Rep g (.tup []) undef:=⟨[],rfl,rfl⟩
 exact h g w _ r hr (hs'.put (o:=⟨none,op,ty,pos,after,some (j,want)⟩) (.refl g) hs'.sim h0 rfl)
theorem BT{t:Nat}{d:D}(h:WkD (getD O t) d):Wk P n ⟨O,V,df⟩ ⟨(t,d)::O,V,df⟩ :=
 fun g w a hs=>⟨g,.refl g,⟨hs.sim,⟨hs.tmps.1,fun k=>by
  rw[Aa]
  by_cases hk:k=t
  ·subst hk;rw[if_pos rfl];exact h g _ (hs.tmps.2 k)
  ·rw[if_neg hk];exact hs.tmps.2 k⟩,hs.df⟩⟩
theorem Qg{dst:Option Tmp}{j:Nat}{want b:Bool}{k:Nat}(hk:(ops[j]?).bind (·.dst)=some k)(hb:O.lookup k=some (.bool b))
  (h1:b=true->DOps P ro n ops Q (⟨dst,op,ty,pos,after,some (j,want)⟩::rest) ⟨(k,.bool true)::O,V,df⟩) (h2:b=false->DOps P ro n ops Q (⟨dst,op,ty,pos,after,some (j,want)⟩::rest) ⟨(k,.bool false)::O,V,df⟩):DOps P ro n ops Q (⟨dst,op,ty,pos,after,some (j,want)⟩::rest) ⟨O,V,df⟩:=by
 cases b with
 |true=>exact BE (BT (by rw[An hb];exact A8 _)) (h1 rfl)
 |false=>exact BE (BT (by rw[An hb];exact A8 _)) (h2 rfl)
theorem Ly{tab:Nat->Ty}(ht:Ba P tab)(hl:A5 O (A9 op.operands.toList)=some Sr)(he:eopD tab Sr V op=some (d,S'))(htn:decide (t<n)=true)
  (h:DOps P ro n ops Q rest ⟨(t,d)::O,S',df⟩):DOps P ro n ops Q (⟨some t,op,ty,pos,after,none⟩::rest) ⟨O,V,df⟩ :=
 F6 (o:=⟨some t,op,ty,pos,after,none⟩) ht rfl ((Bt (C3 hl)) ▸ he) htn h
theorem IQ{tab:Nat->Ty}(ht:Ba P tab)(hl:A5 O (A9 op.operands.toList)=some Sr)(he:eopD tab Sr V op=some (d,S'))
  (h:DOps P ro n ops Q rest ⟨O,S',df⟩):DOps P ro n ops Q (⟨none,op,ty,pos,after,none⟩::rest) ⟨O,V,df⟩ :=
 F6 (o:=⟨none,op,ty,pos,after,none⟩) ht rfl ((Bt (C3 hl)) ▸ he) rfl h
theorem Vl{tab:Nat->Ty}(ht:Ba P tab)(vars:List Nat){T T' ty':Nat}{x:Operand}{pos':String}{after':Array Edge}{cs:List D}(hv:vars.contains t=false)(hT:T'=T)(htn:decide (t<n)=true)(hx:Fc t x=true)(ho:A6 (tab T).k=false)
  (hl:A5 O (A9 [x])=some Sr) (he:ev Sr x=d) (htold:d.told=true) (hc:d.cells=cs) (hlen:cs.length=(tab T).size) (hflat:D1 cs=true)
  (h:DOps P ro n ops Q rest ⟨(t,.cptr cs 0)::O,V,df⟩) :
  DOps P ro n ops Q (⟨some t,.alloc T,ty,pos,after,none⟩::⟨none,.store T' (.tmp t) x,ty',pos',after',none⟩::rest) ⟨O,V,df⟩:=by
 rw[C2 hl]at he
 subst he;subst hT;subst hc
 exact OK ht ho (by simpa using htn) (Ha ht hx) htold hlen hflat h
theorem Hs{id:Nat}{l:List Oper}(h:DOps P ro n l.toArray Q l ⟨O,V,df⟩):DWp P ro n (.region id l.toArray false) Q ⟨O,V,df⟩:=Re h
theorem Mu{c:Operand}{x y:Code}{b:Bool}{Sr:Fr}(hl:A5 O (A9 [c])=some Sr)(hc:ev Sr c=.bool b)(ht:b=true->DWp P ro n x Q ⟨O,V,df⟩)(hf:b=false->DWp P ro n y Q ⟨O,V,df⟩):
  DWp P ro n (.cond c x y) Q ⟨O,V,df⟩:=Q0 (s:=⟨O,V,df⟩) (by rw[<-C2 hl];exact hc) ht hf
theorem HG{c:Operand}{x y:Code}{Sr:Fr}(hl:A5 O (A9 [c])=some Sr)(hc:ev Sr c=.bool true)(h:DWp P ro n x Q ⟨O,V,df⟩):
  DWp P ro n (.cond c x y) Q ⟨O,V,df⟩:=Mu hl hc (fun _=>h) (fun e=>by cases e)
theorem HH{c:Operand}{x y:Code}{Sr:Fr}(hl:A5 O (A9 [c])=some Sr)(hc:ev Sr c=.bool false)(h:DWp P ro n y Q ⟨O,V,df⟩):
  DWp P ro n (.cond c x y) Q ⟨O,V,df⟩:=Mu hl hc (fun e=>by cases e) (fun _=>h)
theorem Fs{fop:Operand}{args:Array Operand}{ats:Array TypeId}{f:Nat}{first cap us bs:List D}{R:DE->Sig->Prop}{dst:Option Tmp}
  (hl:A5 O (A9 (fop::args.toList))=some Sr) (hf:ev Sr fop=.func (.func f) first cap) (ha:first++args.toList.map (ev Sr)++cap=us) (hw:bs=us\/bs=us.map D.plain) (h:DCall P f bs V R)
  (ho:At n ⟨dst,(cv fop args ats),ty,pos,after,none⟩=true)
  (hret:∀d S',R (.ret d) S'->DOps P ro n ops Q rest ⟨putD dst d O,S',df⟩)
  (hpan:∀d S',R (.panic d) S'->Q (.panic d) ⟨O,S',df⟩) :
  DOps P ro n ops Q (⟨dst,(cv fop args ats),ty,pos,after,none⟩::rest) ⟨O,V,df⟩:=by
 have hx:∀x∈fop::args.toList,ev Sr x=ev O x:=fun x hx=>C4 fun t ht=>AQ hl t (Bc (by rw[<-ht];exact hx))
 refine Gb (az:=bs) rfl (by rw[<-hx fop (by simp)];exact hf) h ?_ ho hret hpan
 rw[show args.toList.map (ev O)=args.toList.map (ev Sr) from List.map_congr_left fun x h=>(hx x (by simp[h])).symm,ha]
 rcases hw with rfl|rfl
 ·exact Ec _
 ·exact Fp _
theorem FW{fop:Operand}{args:Array Operand}{ats:Array TypeId}{f:Nat}{first cap us bs:List D}{d:D}
  (hl:A5 O (A9 (fop::args.toList))=some Sr) (hf:ev Sr fop=.func (.func f) first cap) (ha:first++args.toList.map (ev Sr)++cap=us) (hw:bs=us\/bs=us.map D.plain) (h:DCall P f bs V (rS d V))
  (htn:decide (t<n)=true) (k:DOps P ro n ops Q rest ⟨(t,d)::O,V,df⟩) :
  DOps P ro n ops Q (⟨some t,(cv fop args ats),ty,pos,after,none⟩::rest) ⟨O,V,df⟩ :=
 Fs hl hf ha hw h htn (fun d' S' ⟨e1,e2⟩=>by cases e1;subst e2;exact k) (fun d' S' ⟨e1,e2⟩=>by cases e1)
theorem Qh{fop:Operand}{args:Array Operand}{ats:Array TypeId}{f:Nat}{first cap us bs:List D}{R:DE->Sig->Prop}{dst:Option Tmp}{j:Nat}{want:Bool}{k:Nat}(hk:(ops[j]?).bind (·.dst)=some k)(hb:O.lookup k=some (.bool want))
  (hl:A5 O (A9 (fop::args.toList))=some Sr) (hf:ev Sr fop=.func (.func f) first cap) (ha:first++args.toList.map (ev Sr)++cap=us) (hw:bs=us\/bs=us.map D.plain) (h:DCall P f bs V R)
  (ho:At n ⟨dst,(cv fop args ats),ty,pos,after,some (j,want)⟩=true)
  (hret:∀d S',R (.ret d) S'->DOps P ro n ops Q rest ⟨putD dst d O,S',df⟩)
  (hpan:∀d S',R (.panic d) S'->Q (.panic d) ⟨O,S',df⟩) :
  DOps P ro n ops Q (⟨dst,(cv fop args ats),ty,pos,after,some (j,want)⟩::rest) ⟨O,V,df⟩:=by
 have hx:∀x∈fop::args.toList,ev Sr x=ev O x:=fun x hx=>C4 fun t ht=>AQ hl t (Bc (by rw[<-ht];exact hx))
 refine Gb (az:=bs) (by simp only[AJ,C8 hk hb];simp) (by rw[<-hx fop (by simp)];exact hf) h ?_ ho hret hpan
 rw[show args.toList.map (ev O)=args.toList.map (ev Sr) from List.map_congr_left fun x h=>(hx x (by simp[h])).symm,ha]
 rcases hw with rfl|rfl
 ·exact Ec _
 ·exact Fp _
theorem ER{fop:Operand}{args:Array Operand}{ats:Array TypeId}{f:Nat}{first cap us bs:List D}{d:D}{j:Nat}{want:Bool}{k:Nat}(hk:(ops[j]?).bind (·.dst)=some k)(hb:O.lookup k=some (.bool want))
  (hl:A5 O (A9 (fop::args.toList))=some Sr) (hf:ev Sr fop=.func (.func f) first cap) (ha:first++args.toList.map (ev Sr)++cap=us) (hw:bs=us\/bs=us.map D.plain) (h:DCall P f bs V (rS d V))
  (htn:decide (t<n)=true) (kk:DOps P ro n ops Q rest ⟨(t,d)::O,V,df⟩) :
  DOps P ro n ops Q (⟨some t,(cv fop args ats),ty,pos,after,some (j,want)⟩::rest) ⟨O,V,df⟩ :=
 Qh hk hb hl hf ha hw h htn (fun d' S' ⟨e1,e2⟩=>by cases e1;subst e2;exact kk) (fun d' S' ⟨e1,e2⟩=>by cases e1)
end
@[simp] theorem nat_eq_int(a b:Nat):((a:Int)=(b:Int))=(a=b):=propext Int.ofNat_inj
@[simp] theorem Sg(a:Nat):((a+1:Nat):Int)=(a:Int)+1:=rfl
def E6(O:Fr):List Nat->Option Fr
 |[]=>some []
 | t::ts=>match O.lookup t with
  |some d=>match E6 O ts with
   |some r=>some ((t,d)::r)
   |none=>none
  |none=>E6 O ts
def TellsR(O:Fr):Fr->Prop
 |[]=>True
 |p::r=>WkD (getD O p.1) p.2/\TellsR O r
theorem TellsR.get{O:Fr}: ∀{U':Fr},TellsR O U'->∀t,WkD (getD O t) (getD U' t)
 |[],_,t=>Em _
 |p::r,h,t=>by
  rw[show p::r=(p.1,p.2)::r from rfl,Aa]
  by_cases ht:t=p.1
  ·rw[if_pos ht,ht];exact h.1
  ·rw[if_neg ht];exact TellsR.get h.2 t
theorem GX{O:Fr}:TellsR O []:=trivial
theorem FU{O r:Fr}{t:Nat}{d d':D}(hl:O.lookup t=some d')(h:WkD d' d)(k:TellsR O r):TellsR O ((t,d)::r):=⟨by rw[An hl];exact h,k⟩
theorem GY{O a b:Fr}(h:TellsR O a)(k:TellsR O b):TellsR O (a++b):=by
 induction a with
 |nil=>exact k
 |cons p a ih=>exact⟨h.1,ih h.2⟩
theorem Lq{P:Program}{n:Nat}{O U':Fr}{V S':Sig}{df:List DDf}(h:TellsR O U')(hZ:Sub S' V):Wk P n ⟨O,V,df⟩ ⟨U',S',df⟩ :=
 fun g w a hs=>⟨g,.refl g,⟨hs.sim.sub hZ,⟨hs.tmps.1,fun t=>h.get t g _ (hs.tmps.2 t)⟩,hs.df⟩⟩
theorem B3{V S':Sig}(h:S'=V):Sub S' V:=h ▸ Sub.refl _
theorem FP{P:Program}{ro:Option Nat}{n:Nat}{Q:DX->St->Prop}{df:List DDf}{O Sk:Fr}{V:Sig}{α:Type}{c:Code}(keep:List Nat)(I:α->Prop)(ov:α->Fr)(sg:α->Sig)(μ:α->Nat)(x0:α)(hk:E6 O keep=some Sk)(h0:I x0)(h1:TellsR O (ov x0++Sk))(h2:Sub (sg x0) V)
  (round:∀x,I x->DWp P ro n c (Then (fun s' => ∃x',I x'/\μ x'<μ x/\Wk P n s' ⟨ov x'++Sk,sg x',df⟩) Q) ⟨ov x++Sk,sg x,df⟩):DWp P ro n (.loop c) Q ⟨O,V,df⟩:=by
 refine PZ (fun x:{x // I x}=>⟨ov x.1++Sk,sg x.1,df⟩) (fun x=>μ x.1) ⟨x0,h0⟩ (Lq h1 h2) fun x=>F5 (round x.1 x.2) ?_
 intro e s h
 cases e with
 |normal=>obtain⟨x',h3,h4,h5⟩:=h;exact⟨⟨x',h3⟩,h4,h5⟩
 |_=>exact h
theorem Rg{P:Program}{ro:Option Nat}{n:Nat}{Q:DX->St->Prop}{df:List DDf}{O Sk:Fr}{V:Sig}{α β:Type}{c:Code}(keep:List Nat)(I:α->β->Prop)(ov:α->β->Fr)(sg:α->β->Sig)(μ:α->β->Nat)(x0:α)(y0:β)(hk:E6 O keep=some Sk)(h0:I x0 y0)(h1:TellsR O (ov x0 y0++Sk))(h2:Sub (sg x0 y0) V)
  (round:∀x y,I x y->DWp P ro n c (Then (fun s' => ∃x' y',I x' y'/\μ x' y'<μ x y/\Wk P n s' ⟨ov x' y'++Sk,sg x' y',df⟩) Q) ⟨ov x y++Sk,sg x y,df⟩):DWp P ro n (.loop c) Q ⟨O,V,df⟩:=by
 refine FP (α:=α×β) keep (fun x=>I x.1 x.2) (fun x=>ov x.1 x.2) (fun x=>sg x.1 x.2) (fun x=>μ x.1 x.2) (x0,y0) hk h0 h1 h2 fun x hx=>F5 (round x.1 x.2 hx) ?_
 intro e s h
 cases e with
 |normal=>obtain⟨x',y',h3,h4,h5⟩:=h;exact⟨(x',y'),h3,h4,h5⟩
 |_=>exact h
theorem Rf{P:Program}{ro:Option Nat}{n:Nat}{Q:DX->St->Prop}{df:List DDf}{O Sk:Fr}{V:Sig}{α β δ:Type}{c:Code}(keep:List Nat)(I:α->β->δ->Prop)(ov:α->β->δ->Fr)(sg:α->β->δ->Sig)(μ:α->β->δ->Nat)(x0:α)(y0:β)(z0:δ)(hk:E6 O keep=some Sk)(h0:I x0 y0 z0)(h1:TellsR O (ov x0 y0 z0++Sk))(h2:Sub (sg x0 y0 z0) V)
  (round:∀x y z,I x y z->DWp P ro n c (Then (fun s' => ∃x' y' z',I x' y' z'/\μ x' y' z'<μ x y z/\Wk P n s' ⟨ov x' y' z'++Sk,sg x' y' z',df⟩) Q) ⟨ov x y z++Sk,sg x y z,df⟩):DWp P ro n (.loop c) Q ⟨O,V,df⟩:=by
 refine FP (α:=α×β×δ) keep (fun x=>I x.1 x.2.1 x.2.2) (fun x=>ov x.1 x.2.1 x.2.2) (fun x=>sg x.1 x.2.1 x.2.2) (fun x=>μ x.1 x.2.1 x.2.2) (x0,y0,z0) hk h0 h1 h2 fun x hx=>F5 (round x.1 x.2.1 x.2.2 hx) ?_
 intro e s h
 cases e with
 |normal=>obtain⟨x',y',z',h3,h4,h5⟩:=h;exact⟨(x',y',z'),h3,h4,h5⟩
 |_=>exact h
section
variable (tab:Nat->Ty)(O:List (Nat×D))(V:Sig)(T T' m f:Nat)(x y z:Operand)(c:Bool)
@[simp] theorem dopX_move:dopX tab O V (.move x)=some (ev O x):=rfl
@[simp] theorem dopX_assign:dopX tab O V (.assign x)=some (ev O x):=rfl
@[simp] theorem dopX_pick:dopX tab O V (.pick x y z)=Oo (ev O x) (ev O y) (ev O z):=by unfold dopX;simp only[dop,dop2];cases Oo (ev O x) (ev O y) (ev O z)<;>rfl
@[simp] theorem dopX_box:dopX tab O V (.box T x)=boxD (ev O x):=by unfold dopX;simp only[dop,dop2];cases boxD (ev O x)<;>rfl
@[simp] theorem dopX_load:dopX tab O V (.load T x)=K4 (tab T) V (ev O x):=by unfold dopX;simp only[dop,dop2];cases K4 (tab T) V (ev O x)<;>rfl
@[simp] theorem dopX_nil:dopX tab O V (.nilCheck x)=nilD (ev O x):=by unfold dopX;simp only[dop,dop2];cases nilD (ev O x)<;>rfl
@[simp] theorem dopX_bin(o:BinOp):dopX tab O V (.binOp o T x y T')=binD o (ev O x) (ev O y):=by unfold dopX;simp only[dop,dop2];cases binD o (ev O x) (ev O y)<;>rfl
@[simp] theorem dopX_un(o:UnOp):dopX tab O V (.unOp o T x)=unD o (ev O x):=by unfold dopX;simp only[dop,dop2];cases unD o (ev O x)<;>rfl
@[simp] theorem dopX_conv:dopX tab O V (.convert T T' x)=V1 (A6 (tab T).k) (tab T').k (ev O x):=by unfold dopX;simp only[dop,dop2];cases V1 (A6 (tab T).k) (tab T').k (ev O x)<;>rfl
@[simp] theorem dopX_mkif:dopX tab O V (.makeInterface T x)=Sz (tab T) T (ev O x):=by unfold dopX;simp only[dop,dop2];cases Sz (tab T) T (ev O x)<;>rfl
@[simp] theorem dopX_mkfn(fn:Fn)(a b:Array Operand):dopX tab O V (.makeFunc fn a b)=some (.func fn (a.toList.map (ev O)) (b.toList.map (ev O))):=rfl
@[simp] theorem dopX_fa:dopX tab O V (.fieldAddr T x f)=DS tab f (ev O x) (tab T).k:=by unfold dopX;simp only[dop,dop2];cases DS tab f (ev O x) (tab T).k<;>rfl
@[simp] theorem dopX_ia:dopX tab O V (.indexAddr T x y)=CO tab (tab T).k (ev O x) (ev O y):=by unfold dopX;simp only[dop,dop2];cases CO tab (tab T).k (ev O x) (ev O y)<;>rfl
@[simp] theorem dopX_ix:dopX tab O V (.index T x y)=N1 (tab T).k (ev O x) (ev O y):=by unfold dopX;simp only[dop,dop2];cases N1 (tab T).k (ev O x) (ev O y)<;>rfl
@[simp] theorem dopX_ex:dopX tab O V (.extract x f)=Hp f (ev O x):=by unfold dopX;simp only[dop,dop2];cases Hp f (ev O x)<;>rfl
@[simp] theorem dopX_bs(ps:Array (Nat×Operand)):dopX tab O V (.buildSlice T m ps)=HW tab O m ps.toList (tab T).k:=by unfold dopX;simp only[dop,dop2];cases HW tab O m ps.toList (tab T).k<;>rfl
@[simp] theorem dopX_sl(a b d:Option Operand):dopX tab O V (.slice T x a b d)=IR tab (tab T).k (ev O x) (a.map (ev O)) (b.map (ev O)) (d.map (ev O)):=rfl
@[simp] theorem dopX_lk:dopX tab O V (.lookup T x y c)=GG tab V c (tab T).k (ev O x) (ev O y):=rfl
@[simp] theorem dopX_ta:dopX tab O V (.typeAssert x T T' c)=JV tab T' c (ev O x):=rfl
@[simp] theorem dopX_bd(ps:Array (Nat×Operand)):dopX tab O V (.build T ps)=O1 tab T (ps.toList.map fun p=>(p.1,ev O p.2)) (tab T).k:=rfl
@[simp] theorem dopX_len (xs:Array Operand) (ts:Array TypeId):dopX tab O V (.call { callee := .builtin .len,args:=xs,argTypes:=ts })=match lenC tab O ts.toList xs.toList with
  |some d=>some d
  |none=>HO tab O V ts.toList xs.toList:=rfl
@[simp] theorem dopX_max(ts:Array TypeId):dopX tab O V (.call { callee := .builtin .max,args := #[x,y],argTypes:=ts })=ML true (ev O x) (ev O y):=rfl
@[simp] theorem dopX_min(ts:Array TypeId):dopX tab O V (.call { callee := .builtin .min,args := #[x,y],argTypes:=ts })=ML false (ev O x) (ev O y):=rfl
@[simp] theorem eopD_store:eopD tab O V (.store T x y)=P0 tab V T (ev O x) (ev O y):=rfl
@[simp] theorem eopD_upd:eopD tab O V (.mapUpdate T x y z)=updD tab V (tab T).k (ev O x) (ev O y) (ev O z):=rfl
@[simp] theorem eopD_ins:eopD tab O V (.insert T x y z)=updD tab V (tab T).k (ev O x) (ev O y) (ev O z):=rfl
@[simp] theorem eopD_app(ts:Array TypeId):eopD tab O V (.call { callee := .builtin .append,args := #[x,y],argTypes:=ts })=appD tab V ts.toList (ev O x) (ev O y):=rfl
end
end Go.DL
