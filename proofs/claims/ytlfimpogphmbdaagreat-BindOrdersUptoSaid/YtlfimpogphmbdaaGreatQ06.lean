/- A part of the proof. -/
import Derived.Test.YtlfimpogphmbdaaGreatQ05
set_option linter.all false
namespace Go.DL
open Go
def only(L:fG)(γ:Fr):Fr:=L.map fun t=>(t,getD γ t)
theorem HA(γ:Fr)(t:Nat): ∀L:fG,getD (only L γ) t=if t∈L then getD γ t else .any
 |[]=>rfl
 |a::L=>by
  have ih:=HA γ t L
  unfold only at ih⊢
  rw[ba,Aa]
  by_cases h:t=a
  ·subst h;simp
  ·simp only[h,bd,ih,aY,false_or]
theorem Nn{g:G}{γ:Fr}{n:Nat}{tmps:Array Value}(L:fG)(h:RepT g γ n tmps):RepT g (only L γ) n tmps:=
 ⟨h.1,fun t=>by
  rw[HA]
  by_cases ht:t∈L
  ·rw[aS ht];exact h.2 t
  ·rw[aN ht];trivial⟩
theorem L0{L:fG}{γ U':Fr}(h:∀t∈L,getD γ t=getD U' t):only L γ=only L U':=
 bT fun t ht=>by rw[h t ht]
theorem Cj{γ:Fr}{ops:Array Oper}{o:Oper}{x:Operand}(h:x∈o.op.operands):ev (only (o.looksAt ops) γ) x=ev γ x:=by
 cases x with
 |tmp t=>simp only[ev,HA];rw[aS (Hr h)]
 |_=>rfl
theorem B8{γ:Fr}{ops:Array Oper}{o:Oper}:AT ops (only (o.looksAt ops) γ) o=AT ops γ o:=
 J6 fun t ht=>by rw[HA,aS ht]
section mono
variable {tab:Nat->Ty}{V S':Sig}(h:Sub V S'){γ:List (Nat×D)}
include h
theorem HF{x:D}{l:List (D×D)}(e:CE V x=some l):CE S' x=some l:=by
 unfold CE at e⊢
 split at e
 ·exact e
 ·exact e
 ·rename_i id
  split at e<;>(try (cases e;done))
  rename_i l' hi
  rw[h _ _ hi];exact e
 ·cases e
theorem loadT_mono{ty:Ty}{x d:D}(e:KB ty V x=some d):KB ty S' x=some d:=by
 unfold KB at e⊢
 split at e
 ·cases e
 ·rename_i hk
  rw[aN hk]
  unfold KC at e⊢
  split at e
  ·exact e
  ·rename_i id off
   cases hi:V id with
   |none=>simp[hi,E2]at e
   |some ob=>rw[h _ _ hi,<-hi];exact e
  ·cases e
theorem XC{op:Op}{d:D}(e:dop tab γ V op=some d):dop tab γ S' op=some d:=by
 cases op<;>first|exact e|(simp only[dop]at e⊢; exact loadT_mono h e)|skip
 case call c=>
  obtain⟨callee,args,ats⟩:=c
  cases callee<;>try exact e
  rename_i b
  cases b<;>exact e
theorem W0{op:Op}{d:D}(e:dop2 tab γ V op=some d):dop2 tab γ S' op=some d:=by
 cases op<;>first|exact e|skip
 case lookup t x k ok=>
  simp only[dop2]at e⊢
  unfold GX at e⊢
  split at e<;>(try (cases e;done))
  rename_i kt et hk
  split at e<;>(try (cases e;done))
  rename_i hc
  rw[aN hc]
  split at e<;>(try (cases e;done))
  rename_i l hl
  rw[HF h hl];exact e
 case call c=>
  simp only[dop2]at e⊢
  unfold Gt at e⊢
  split at e<;>(try (exact e))<;>(try (cases e;done))
  unfold I7 at e⊢
  split at e<;>(try (cases e;done))
  rename_i _ _ x _ _
  split at e<;>(try (cases e;done))
  cases hl:CE V (ev γ x)with
  |none=>rw[hl]at e;cases e
  |some l=>rw[hl]at e;rw[HF h hl];exact e
theorem HK{op:Op}{d:D}(e:dopX tab γ V op=some d):dopX tab γ S' op=some d:=by
 have key:dop tab γ V op=none->dop tab γ S' op=none\/dop2 tab γ V op=none:=by
  intro hn
  cases op<;>first|exact .inl hn|exact .inr rfl|skip
  case call c=>
   obtain⟨callee,args,ats⟩:=c
   cases callee<;>first|exact .inl hn|skip
   rename_i b
   cases b<;>exact .inl hn
 unfold dopX at e⊢
 split at e
 ·rename_i d' hd
  rw[XC h hd];exact e
 ·rename_i hd
  rcases key hd with hc|hc
  ·rw[hc];exact W0 h e
  ·rw[hc]at e;cases e
end mono
section
variable (P:Program)(ro:Option Nat)(n:Nat)(ops:Array Oper)(N:Nat)(S0:Sig)(Q:DX->St->Prop)(df:List DDf)
def EQ(dst:Option Tmp)(R Rp:D->Sig->Prop):DX->St->Prop
 |.normal,s=>s.df=df/\R (match dst with|some t=>getD s.γ t|none=>.any) s.V
 |.panic d,s=>s.df=df/\Rp d s.V
 |_,_=>False
structure Calm(γ:Fr)(o:Oper)(d:D):Prop where
 ok:AD n o=true
 run:(AT ops (only (o.looksAt ops) γ) o=some true/\(∀c,o.op≠.defer c)/\(∀(w:World) (ρ:Operand->Value) f,o.about P w ρ=some f->False) /\
   ∀V,Sub S0 V->∀g w (a:Act),Sim P g V w->RepT g (only (o.looksAt ops) γ) n a.tmps->ORun P g V d (execOp a.eval o) w) \/
  (AT ops (only (o.looksAt ops) γ) o=some false/\Ei N o.op=true/\(d=.any\/d=.tup [])) \/
  (AT ops (only (o.looksAt ops) γ) o=some true /\ ∀V,Sub S0 V->∀ro df,av P ro n ops (EQ df o.dst (fun d' S'=>d'=d/\Sub V S') fun _ _=>False) [o] ⟨only (o.looksAt ops) γ,V,df⟩)
structure Eff(γ:Fr)(V:Sig)(o:Oper)(R Rp:D->Sig->Prop):Prop where
 ok:AD n o=true
 want:AT ops (only (o.looksAt ops) γ) o=some true
 run:av P ro n ops (EQ df o.dst R Rp) [o] ⟨only (o.looksAt ops) γ,V,df⟩
def MOps (E:fG):fG->Fr->Sig->Prop
  |[],γ,V=>av P ro n ops Q [] ⟨γ,V,df⟩
  | i::r,γ,V => ∃ o,ops[i]? = some o /\
    ((∃ d,Calm P n ops N S0 γ o d/\MOps E r (putD o.dst d γ) V) \/
     (E.contains i=true/\Eff P ro n ops df γ V o (fun d S'=>Sub S0 S'/\MOps E r (putD o.dst d γ) S') (fun d S'=> ∀U',Q (.panic d) ⟨U',S',df⟩)))
end
section
variable {P:Program}{ro:Option Nat}{n:Nat}{ops:Array Oper}{N:Nat}{S0:Sig}{Q:DX->St->Prop}{df:List DDf}{E:fG}
theorem Calm.congr{γ U':Fr}{o:Oper}{d:D}(h:∀t∈o.looksAt ops,getD γ t=getD U' t)(hy:Calm P n ops N S0 γ o d):Calm P n ops N S0 U' o d:=by
 have e:=L0 h
 exact⟨hy.ok,by rw[<-e];exact hy.run⟩
theorem Cq {Q':DX->St->Prop} (hq : ∀ x s,Q x s->Q' x s) {g:G} {r:Option Nat} : ∀ (l:List Oper) {a:Act} {w:World},wpListIn (FX P r) 0 P ops (Post P g n Q) l a w->wpListIn (FX P r) 0 P ops (Post P g n Q') l a w
  |[],_,_,⟨g',s',x,h1,h2,h3,h4⟩=>⟨g',s',x,h1,h2,h3,hq _ _ h4⟩
  | o::l,a,w,h=>by
    have pq:∀{e a w},Post P g n Q e a w->Post P g n Q' e a w:=fun ⟨g',s',x,h1,h2,h3,h4⟩=>⟨g',s',x,h1,h2,h3,hq _ _ h4⟩
    unfold wpListIn at h⊢
    split
    · rename_i hw
      rw[aS hw]at h
      refine⟨h.1,?_⟩
      have h2:=h.2
      revert h2
      generalize (o.semAt (FX P r).round a.eval).run P w=res
      cases res with
      | ok nx w' =>
        cases nx<;>simp only[Oper.uponIn]<;>first
          |exact fun h=>Cq hq l h
          | (rintro ⟨h1,h2⟩
             refine⟨h1,?_⟩
             first
               | (refine h2.mono ?_
                  intro e w'' he
                  cases e<;>first
                    |exact Cq hq l he
                    |exact pq he
                    |(obtain⟨a0,w0,he⟩:=he;exact⟨a0,w0,pq he⟩))
               | (refine h2.mono ?_
                  intro v w'' he
                  exact Cq hq l he))
          |exact fun h=>h
      |halt x w'=>cases x<;>simp only[Oper.uponIn]<;>first|exact fun h=>pq h|exact fun h=>h
    · rename_i hw
      rw[aN hw]at h
      exact⟨h.1,Cq hq l h.2⟩
theorem VX{l:List Oper}{s:St}{Q':DX->St->Prop}(h:av P ro n ops Q l s)(hq:∀x s,Q x s->Q' x s):av P ro n ops Q' l s:=
 fun g w a r hr hs=>Cq hq l (h g w a r hr hs)
theorem Eff.congr{γ U':Fr}{V:Sig}{o:Oper}{R R' Rp:D->Sig->Prop}(h:∀t∈o.looksAt ops,getD γ t=getD U' t)(hy:Eff P ro n ops df γ V o R Rp)(hR:∀d S',R d S'->R' d S'):Eff P ro n ops df U' V o R' Rp:=by
 have e:=L0 h
 refine⟨hy.ok,by rw[<-e];exact hy.want,?_⟩
 rw[<-e]
 refine VX hy.run fun x s hx=>?_
 cases x with
 |normal=>exact⟨hx.1,hR _ _ hx.2⟩
 |panic d=>exact hx
 |_=>exact hx
theorem MOps.alike: ∀(l:fG) {γ U':Fr}{V:Sig},Alike γ U'->MOps P ro n ops N S0 Q df E l γ V->MOps P ro n ops N S0 Q df E l U' V
 |[],_,_,_,h,k=>D3 h k
 |i::r,_,_,_,h,⟨o,ho,k⟩=>⟨o,ho,(match k with
  |.inl ⟨d,h2,h3⟩=>.inl ⟨d,h2.congr fun t _=>h t,MOps.alike r (h.put _ _) h3⟩
  |.inr ⟨h1,h2⟩=>.inr ⟨h1,h2.congr (fun t _=>h t) fun d S' ⟨h3,h4⟩=>⟨h3,MOps.alike r (h.put _ _) h4⟩⟩)⟩
theorem Gg{i:Nat}{oi:Oper}(hi:ops[i]? = some oi)(post:fG): ∀(pre:fG) (γ:Fr) (V:Sig),
  (∀x∈pre,E.contains x=false /\ ∃ox,ops[x]? = some ox/\oi.apart ops ox=true)->MOps P ro n ops N S0 Q df E (pre++i::post) γ V->MOps P ro n ops N S0 Q df E (i::(pre++post)) γ V
 |[],_,_,_,h=>h
 | x::pre,γ,V,hp,h=>by
  obtain⟨gA,ox,fW,gO⟩:=hp x (by simp)
  obtain⟨a1,a2,a3⟩:=Oper.apart_spec gO
  obtain⟨ox',fV,hx⟩:=h
  obtain rfl:ox'=ox:=by rw[fW]at fV;cases fV;rfl
  rcases hx with⟨d,hy,h⟩|⟨hE,_⟩
  ·obtain⟨oi',fX,hh⟩:=Gg hi post pre _ V (fun y hy=>hp y (by simp[hy])) h
   obtain rfl:oi'=oi:=by rw[hi]at fX;cases fX;rfl
   refine⟨oi',hi,?_⟩
   rcases hh with⟨e,h2,h3⟩|⟨h1,h2⟩
   ·refine .inl ⟨e,h2.congr fun t ht=>AI fun hd=>a3 t hd ht,ox',fW,.inl ⟨d,hy.congr fun t ht=>(AI fun hd=>a1 t hd ht).symm,?_⟩⟩
    exact MOps.alike _ (BL _ _ _ fun t p q=>a2 t p q) h3
   ·refine .inr ⟨h1,h2.congr (fun t ht=>AI fun hd=>a3 t hd ht) fun e S' ⟨h3,h4⟩=>⟨h3,ox',fW,.inl ⟨d,hy.congr fun t ht=>(AI fun hd=>a1 t hd ht).symm,?_⟩⟩⟩
    exact MOps.alike _ (BL _ _ _ fun t p q=>a2 t p q) h4
  ·rw[gA]at hE;cases hE
def mixB(ops:Array Oper)(E:fG):fG->fG->Bool
 |_,[]=>true
 | done,i::r => !done.contains i && (match ops[i]? with
  |some o=>(o.after.all fun e=> !Region.binds .any e||done.contains e.on)&&done.all fun x=>(!E.contains x&&match ops[x]? with
   |some ox=>o.apart ops ox
   |none=>false)||EF ops ops.size i x
  |none=>false)&&mixB ops E (i::done) r
theorem Et{i:Nat}{l2:fG}: ∀(l1 done:fG),mixB ops E done (l1++i::l2)=true->i∉l1/\i∉done/\i∉l2 /\ ∃o,ops[i]? = some o/\(∀e∈o.after,Region.binds .any e=true->e.on∈l1\/e.on∈done) /\
   ∀x,x∈l1->EF ops ops.size i x=true\/(E.contains x=false /\ ∃ox,ops[x]? = some ox/\o.apart ops ox=true)
 | [],done,h=>by
  simp only[br,mixB,aI,bw,bZ,be]at h
  obtain⟨⟨h1,h2⟩,h3⟩:=h
  have later:∀(l d:fG),i∈d->mixB ops E d l=true->i∉l:=by
   intro l
   induction l with
   |nil=>intro _ _ _ h;cases h
   |cons y l ih=>
    intro d hd hm d7
    simp only[mixB,aI,bw,bZ,be]at hm
    obtain⟨⟨m1,_⟩,m3⟩:=hm
    rcases aY.1 d7 with rfl|d7
    ·exact m1 hd
    ·exact ih (y::d) (by simp[hd]) m3 d7
  refine⟨by simp,h1,later l2 _ (by simp) h3,?_⟩
  split at h2
  ·rename_i o ho
   simp only[aI]at h2
   refine⟨o,ho,fun e he hb=>?_,fun x hx=>by cases hx⟩
   have:=cb.1 h2.1 e he
   simp only[hb,cw,dc,bZ,aL]at this
   exact .inr this
  ·cases h2
 | y::l1,done,h=>by
  simp only[bl,mixB,aI]at h
  obtain⟨h1,h2,h3,o,ho,he,hx⟩:=Et l1 (y::done) h.2
  have gH:i≠y:=fun e=>h2 (by simp[e])
  refine⟨by simp[gH,h1],fun hd=>h2 (by simp[hd]),h3,o,ho,fun e hm hb=>?_,?_⟩
  ·rcases he e hm hb with h4|h4
   ·exact .inl (by simp[h4])
   ·rcases aY.1 h4 with h5|h5
    ·exact .inl (by simp[h5])
    ·exact .inr h5
  ·intro x d7
   rcases aY.1 d7 with rfl|d7
   ·
    have back:∀(l d:fG),x∈d->mixB ops E d (l++i::l2)=true->EF ops ops.size i x=true\/(E.contains x=false /\ ∃ox,ops[x]? = some ox/\o.apart ops ox=true):=by
     intro l
     induction l with
     | nil =>
      intro d hd hm
      simp only[br,mixB,aI,ho]at hm
      have:=bc.1 hm.1.2.2 x hd
      simp only[bL,aI,bw]at this
      rcases this.symm with h4|⟨h4,h5⟩
      ·exact .inl h4
      ·refine .inr ⟨h4,?_⟩
       split at h5
       ·rename_i ox fW;exact⟨ox,fW,h5⟩
       ·cases h5
     |cons z l ih=>
      intro d hd hm
      simp only[bl,mixB,aI]at hm
      exact ih (z::d) (by simp[hd]) hm.2
    exact back l1 _ (by simp) h.2
   ·exact hx x d7
def Fv(ops:Array Oper)(E ord:fG):Bool:=mixB ops E [] ord&&(List.range ops.size).all ord.contains&&ord.length==ops.size
theorem Dd {K:Act->World->Prop} {g0 g:G} {w:World} {a:Act} {r:Option Nat} {γ:Fr} {V:Sig} {o:Oper} {R Rp:D->Sig->Prop} (hr:RoRep g ro r) (hg:g0.le g)
    (hs:SimS P g n ⟨γ,V,df⟩ a w) (hE:Eff P ro n ops df γ V o R Rp) (hK:∀g' w' a' d S',g.le g'->R d S'->SimS P g' n ⟨putD o.dst d γ,S',df⟩ a' w'->K a' w')
    (hp:∀d S',Rp d S'->∀U',Q (.panic d) ⟨U',S',df⟩) :
    (if Region.wanted o (yielded ops a.tmps) then o.wpIn (FX P r) 0 P a w K (Post P g0 n Q) else(∀f,o.about P w a.eval=some f->(FX P r).fn f)/\K (a.put o.dst undef) w):=by
  have go:SimS P g n ⟨only (o.looksAt ops) γ,V,df⟩ a w:=⟨hs.sim,Nn _ hs.tmps,hs.df⟩
  have h:=hE.run g w a r hr go
  have hw:=AV go.tmps hE.want
  rw[hw,aS rfl]
  unfold wpListIn at h
  rw[hw,aS rfl]at h
  have fin:∀(a':Act) (w':World) (v:Value),a'.tmps=(a.put o.dst v).tmps->wpListIn (FX P r) 0 P ops (Post P g n (EQ df o.dst R Rp)) [] a' w'->K a' w':=by
    rintro a' w' v hv ⟨g',s',x,l1,l2,l3,l4⟩
    cases x with
    | normal =>
      obtain⟨e1,e2⟩:=l4
      refine hK g' w' a' _ s'.V l1 e2 ⟨l2.sim,⟨l2.tmps.1,fun t=>?_⟩,by rw[<-e1];exact l2.df⟩
      cases hd:o.dst with
      | none =>
        rw[hd]at hv
        simp only[putD,Act.put]at hv⊢
        rw[hv]
        exact Rep.mono l1 _ (hs.tmps.2 t)
      | some k =>
        rw[hd]at hv
        simp only[putD,Aa]
        by_cases hk:t=k
        · subst hk;rw[aS rfl];exact l2.tmps.2 t
        · rw [aN hk,hv]
          simp only[Act.put]
          rw[show(a.tmps.setIfInBounds k v).getD t undef=a.tmps.getD t undef by simp[cC, cQ (aQ hk)]]
          exact Rep.mono l1 _ (hs.tmps.2 t)
    |ret=>cases l3
    |exit _=>cases l3
    |panic _=>obtain⟨v,l3,_⟩:=l3;cases l3
  have pan:∀(c:List PanicEntry) (w':World),Post P g n (EQ df o.dst R Rp) (.panic c) a w'->Post P g0 n Q (.panic c) a w':=by
    rintro c w' ⟨g',s',x,l1,l2,l3,l4⟩
    cases x with
    |normal=>cases l3
    |ret=>cases l3
    |exit _=>cases l3
    |panic d=>exact⟨g',⟨γ,s'.V,df⟩,.panic d,hg.trans l1,⟨l2.sim,hs.tmps.mono l1,by rw[<-l4.1];exact l2.df⟩,l3,hp d _ l4.2 γ⟩
  have lets:LetsOut (Post P g n (EQ df o.dst R Rp))->LetsOut (Post P g0 n Q):=by
    rintro⟨a0,w0,g',s',x,l1,l2,l3,l4⟩
    cases x with
    |panic _=>obtain⟨v,l3,_⟩:=l3;cases l3
    |_=>cases l3
  refine⟨h.1,?_⟩
  have h2:=h.2
  revert h2
  generalize (o.semAt (FX P r).round a.eval).run P w=res
  cases res with
  | ok nx w' =>
    cases nx<;>simp only[Oper.uponIn]<;>first
      |exact fun h=>fin _ _ _ rfl h
      |exact fun h=>fin _ _ undef (by simp[Act.put];cases o.dst<;>rfl) h
      | (rintro ⟨h1,h2⟩
         refine⟨h1,?_⟩
         first
           | (refine h2.mono ?_
              intro e w'' he
              cases e<;>first
                |exact fin _ _ _ rfl he
                |exact pan _ _ he
                |exact lets he)
           | (refine h2.mono ?_
              intro v w'' he
              exact fin _ _ _ rfl he))
      |exact fun h=>h
  |halt x w'=>cases x<;>simp only[Oper.uponIn]<;>first|exact fun h=>pan _ _ h|exact fun h=>h
theorem ET(hN:P.funcs.size=N){K:Act->World->Prop}{g0 g:G}{w:World}{a:Act}{r:Option Nat}{γ:Fr}{V:Sig}{o:Oper}{d:D}(hr:RoRep g ro r)(hg:g0.le g)
  (hs:SimS P g n ⟨γ,V,df⟩ a w) (hC:Sub S0 V) (hy:Calm P n ops N S0 γ o d)
  (hK:∀g' w' a',g.le g'->SimS P g' n ⟨putD o.dst d γ,V,df⟩ a' w'->K a' w') :
  (if Region.wanted o (yielded ops a.tmps) then o.wpIn (FX P r) 0 P a w K (Post P g0 n Q) else(∀f,o.about P w a.eval=some f->(FX P r).fn f)/\K (a.put o.dst undef) w):=by
 have hT:=Nn (o.looksAt ops) hs.tmps
 rcases hy.run with⟨hw,gE,gP,hd⟩|⟨hw,gC,gN⟩|⟨hw,hd⟩
 ·rw[AV hT hw,aS rfl]
  refine⟨fun f hf=>(gP _ _ f hf).elim,?_⟩
  obtain⟨g',w',v,h1,h2,h3,h4⟩:=hd V hC g w a hs.sim hT
  rw[cE _ _ _ gE,h1]
  exact hK g' w' _ h2 (hs.put h2 h3 h4 hy.ok)
 ·rw[AV hT hw,aN (by simp)]
  refine⟨fun f hf=>Ij (by rw[hN];exact gC) w _ f hf (fun _=>rfl),?_⟩
  have h0:Rep g d undef:=by rcases gN with rfl|rfl;exact trivial;exact⟨[],rfl,rfl⟩
  exact hK g w _ (.refl g) (hs.put (.refl g) hs.sim h0 hy.ok)
 ·exact Dd (Q:=Q) hr hg hs ⟨hy.ok,hw,hd V hC ro df⟩ (fun g' w' a' d' S' fZ hR hs'=>by
   obtain⟨rfl,gc⟩:=hR
   exact hK g' w' a' fZ ⟨hs'.sim.sub gc,hs'.tmps,hs'.df⟩) (fun _ _ h=>h.elim)
theorem Ay{l:fG}{listed:Array Bool}{i:Nat}(h:i∉l):l.filter (fun j=> !(listed.setIfInBounds i true).getD j true)=l.filter fun j=> !listed.getD j true:=
 List.filter_congr fun j hj=>by rw[getD_set_ne true (show i≠j from fun e=>h (by rw[e];exact hj))]
theorem WC(hN:P.funcs.size=N){ord:fG}(hB:Fv ops E ord=true){g0:G}{rr:Option Nat}(hr:RoRep g0 ro rr): ∀(m:Nat) (r:fG) (listed:Array Bool) (γ:Fr) (V:Sig),r.length=m->listed.size=ops.size->
  r=ord.filter (fun i=> !listed.getD i true)->Closed ops listed->MOps P ro n ops N S0 Q df E r γ V->Sub S0 V->
   ∀(g:G) (w:World) (a:Act),g0.le g->SimS P g n ⟨γ,V,df⟩ a w->wpAnyIn (FX P rr) 0 P .any ops (Post P g0 n Q) m listed a w:=by
 unfold Fv at hB
 simp only[aI]at hB
 obtain⟨⟨e8,gj⟩,_⟩:=hB
 have d7:∀(r:fG) (listed:Array Bool),r=ord.filter (fun i=> !listed.getD i true)->∀i∈Region.ready .any ops listed,i∈r:=by
  intro r listed hf i hi
  obtain⟨h1,o,ho,_⟩:=mem_ready.1 hi
  have:=bc.1 gj i (by simpa using(aR.1 ho).1)
  rw[hf,bH]
  exact⟨by simpa using this,by rw[h1];rfl⟩
 intro m
 induction m with
 |zero=>
  intro r listed γ V hl fU hf fR h hC g w a hg hs
  obtain rfl:r=[]:=bC.1 hl
  refine⟨cF.2 fun i hi=>?_,?_⟩
  ·have:=d7 [] listed hf i hi;cases this
  ·exact Post.le hg (h g w a rr (hr.mono hg) hs)
 | succ m ih =>
  intro r listed γ V hl fU hf fR h hC g w a hg hs
  obtain⟨y,t,rfl⟩:∃y t,r=y::t:=by cases r with|nil=>cases hl|cons y t=>exact⟨y,t,rfl⟩
  refine⟨fun he=>?_,fun i hi=>?_⟩
  ·exfalso
   obtain⟨l1,l2,fP,gG,hy,gv⟩:=bU.1 hf.symm
   subst fP
   obtain⟨h1,_,_,o,ho,gw,_⟩:=Et l1 [] e8
   have:y∈Region.ready .any ops listed:=by
    refine mem_ready.2 ⟨by simpa using hy,o,ho,fun e hm hb=>?_⟩
    rcases gw e hm hb with h4|h4
    ·have h5:=gG _ h4
     simp only[ca,dw]at h5
     have fJ:e.on<listed.size:=by
      have:e.on∈l1++y::l2:=by simp[h4]
      obtain⟨p1,p2,hp⟩:=bX this
      rw[hp]at e8
      obtain⟨_,_,_,o',fL,_⟩:=Et p1 [] e8
      rw[fU];exact(aR.1 fL).1
     simpa[fJ] using h5
    ·cases h4
   rw[he]at this;cases this
  ·obtain⟨pre,post,fO⟩:=bX (d7 _ listed hf i hi)
   rw[fO]at hf h hl
   obtain⟨l1',l2',fP,gh,gL⟩:=cT.1 hf.symm
   obtain⟨m1,m2,gg,gF,gQ,gK⟩:=bU.1 gL
   have fK:ord=(l1'++m1)++i::m2:=by rw[fP,gg];simp
   rw[fK]at e8
   obtain⟨n1,_,n3,o,ho,gw,hx⟩:=Et (l1'++m1) [] e8
   obtain⟨gI,o',fL,f6⟩:=mem_ready.1 hi
   obtain rfl:o'=o:=by rw[ho]at fL;cases fL;rfl
   have fQ:=Gg ho post pre γ V (fun x gn=>by
    have gB:x∈l1'++m1:=by
     have:x∈l1'.filter (fun i=> !listed.getD i true):=by rw[gh];exact gn
     simp[(bH.1 this).1]
    have gk:listed.getD x true=false:=by
     have:x∈l1'.filter (fun i=> !listed.getD i true):=by rw[gh];exact gn
     simpa using(bH.1 this).2
    rcases hx x gB with h4|h4
    ·exfalso
     have:=CC fR ops.size i x o' ho f6 h4
     rcases cg x listed.size with fJ|fJ
     ·simp[fJ]at this gk;rw[gk]at this;cases this
     ·simp[bY fJ]at this
    ·exact h4) h
   have fM:pre++post=ord.filter (fun j=> !(listed.setIfInBounds i true).getD j true):=by
    have gJ:i<listed.size:=by
     rw[fU];exact(aR.1 ho).1
    rw[fK,bW,cu]
    have e1:(listed.setIfInBounds i true).getD i true=true:=by simp[gJ]
    rw[e1,Ay n1,Ay n3]
    simp only[cw,bj,bd,bW,gh,gK]
    rw[cn.2 (fun x hx=>by simpa using gF x hx),bb]
   have hlen:(pre++post).length=m:=by simp at hl⊢; omega
   obtain⟨o2,gu,hh⟩:=fQ
   obtain rfl:o2=o':=by rw[ho]at gu;cases gu;rfl
   unfold wpOpIn
   simp only[ho]
   rcases hh with⟨d,hy,hM⟩|⟨_,hE⟩
   ·exact ET hN (hr.mono hg) hg hs hC hy fun g' w' a' fZ hs'=>ih _ _ _ _ hlen (by simpa using fU) fM (fR.set hi) hM hC g' w' a' (hg.trans fZ) hs'
   ·exact Dd (hr.mono hg) hg hs hE (fun g' w' a' d S' fZ hR hs'=>ih _ _ _ _ hlen (by simpa using fU) fM (fR.set hi) hR.2 hR.1 g' w' a' (hg.trans fZ) hs') fun d S' hp=>hp
theorem Dq{n:Nat}: ∀{l:fG},(∀i∈l,i<n)->l.filter (fun i=> !(Array.replicate n false).getD i true)=l:=by
 intro l h
 rw[List.filter_eq_self]
 intro i hi
 simp[h i hi]
theorem dwp_mix(hN:P.funcs.size=N)(hm:P.follows .mixedOrders=true){l:List Oper}{id:Nat}{γ:Fr}{V:Sig}(ord E:fG)(S0:Sig)(hB:Fv l.toArray E ord=true)(hC:Sub S0 V)
  (h:MOps P ro n l.toArray N S0 Q df E ord γ V):DWp P ro n (.region id l.toArray true) Q ⟨γ,V,df⟩:=by
 intro g w a r hr hs
 refine wpIn_region_any hm ?_
 have fR:Closed l.toArray (Array.replicate l.toArray.size false):=by
  intro q o _ hq
  rcases cg q l.length with h'|h'
  ·simp[h']at hq
  ·simp[h']at hq
 have hs':SimS P g n ⟨γ,V,df⟩ a { w with drawn:=w.drawn+1 }:=
  ⟨⟨fun b o v h=>hs.sim.imm b o v h,hs.sim.keep,fun i o h=>by
   have:=hs.sim.obj i o h
   cases o<;>exact this,hs.sim.inj,hs.sim.free,hs.sim.htop,hs.sim.hdom,hs.sim.fin,hs.sim.io⟩,hs.tmps,hs.df⟩
 have fJ:∀i∈ord,i<l.toArray.size:=by
  intro i hi
  obtain⟨p1,p2,hp⟩:=bX hi
  have fN:=hB
  unfold Fv at fN
  simp only[aI]at fN
  rw[hp]at fN
  obtain⟨_,_,_,o',fL,_⟩:=Et p1 [] fN.1.1
  exact(aR.1 fL).1
 have hlen:ord.length=l.toArray.size:=by
  have fN:=hB
  unfold Fv at fN
  simp only[aI,cp]at fN
  exact fN.2
 have:=WC hN hB hr ord.length ord (Array.replicate l.toArray.size false) γ V rfl (by simp) (Dq fJ).symm fR h hC g _ a (.refl g) hs'
 rw[hlen]at this
 exact this
end
theorem Jt{α β:Type}{f f':α->β}: ∀{x:Option α},(∀a,x=some a->f a=f' a)->x.map f=x.map f'
 |none,_=>rfl
 |some a,h=>by rw[bG,bG,h a rfl]
theorem SD{tab:Nat->Ty}{γ U':Fr}{V:Sig}{op:Op}(h:∀x∈op.operands,ev γ x=ev U' x):dop2 tab γ V op=dop2 tab U' V op:=by
 cases op<;>simp only[Op.operands]at h<;>simp only[dop2]
 case slice t x lo hi mx=>
  rw[h x (by simp)]
  have e1:lo.map (ev γ)=lo.map (ev U'):=Jt fun a ha=>h a (by simp[ha])
  have e2:hi.map (ev γ)=hi.map (ev U'):=Jt fun a ha=>h a (by simp[ha])
  have e3:mx.map (ev γ)=mx.map (ev U'):=Jt fun a ha=>h a (by simp[ha])
  rw[e1,e2,e3]
 case lookup t x k ok=>rw[h x (by simp),h k (by simp)]
 case typeAssert x s t ok=>rw[h x (by simp)]
 case build t parts=>
  have hp:∀p∈parts.toList,ev γ p.2=ev U' p.2:=fun p hp=>h p.2 (by simp;exact⟨p.1,by simpa using hp⟩)
  rw[show(parts.toList.map fun p=>(p.1,ev γ p.2))=parts.toList.map fun p=>(p.1,ev U' p.2) from bT fun p gD=>by rw[hp p gD]]
 case call c=>
  obtain⟨callee,args,ats⟩:=c
  cases callee<;>try rfl
  rename_i b
  obtain⟨args⟩:=args
  obtain⟨ats⟩:=ats
  cases b<;>try rfl
  ·simp only[Gt,I7]
   split
   ·rename_i x
    rw[h x (by simp[Call.operands])]
   ·rfl
  ·simp only[Gt]
   match args,h with
   |[a,b],h=>simp only;rw[h a (by simp[Call.operands]),h b (by simp[Call.operands])]
   |[],_=>rfl
   |[_],_=>rfl
   |_::_::_::_,_=>rfl
  ·simp only[Gt]
   match args,h with
   |[a,b],h=>simp only;rw[h a (by simp[Call.operands]),h b (by simp[Call.operands])]
   |[],_=>rfl
   |[_],_=>rfl
   |_::_::_::_,_=>rfl
theorem BJ{tab:Nat->Ty}{γ U':Fr}{V:Sig}{op:Op}(h:∀x∈op.operands,ev γ x=ev U' x):dopX tab γ V op=dopX tab U' V op:=by
 unfold dopX
 rw[OK h,SD h]
def EE:Op->Bool
 |.call { callee:=.builtin .len,.. }|.call { callee:=.builtin .max,.. }|.call { callee:=.builtin .min,.. }=>true
 |.move _|.assign _|.pick .. |.box .. |.load .. |.nilCheck _|.binOp .. |.unOp .. |.convert .. |.makeInterface .. |.makeFunc .. |.fieldAddr .. |.field .. |.indexAddr .. |.index .. |.extract .. |.buildSlice .. =>true
 |.slice .. |.lookup .. |.typeAssert .. |.build .. =>true
 |_=>false
section
variable (P:Program)(ro:Option Nat)(n:Nat)(ops:Array Oper)(N:Nat)(S0:Sig)(Q:DX->St->Prop)(df:List DDf)
def MO:List (Bool×Oper)->Fr->Sig->Prop
 |[],γ,V=>av P ro n ops Q [] ⟨γ,V,df⟩
 |(e,o)::r,γ,V=>
  (∃d,Calm P n ops N S0 γ o d/\MO r (putD o.dst d γ) V) \/
  (e=true/\Eff P ro n ops df γ V o (fun d S'=>Sub S0 S'/\MO r (putD o.dst d γ) S') (fun d S'=> ∀U',Q (.panic d) ⟨U',S',df⟩))
end
def pick(ops:Array Oper)(E ord:fG):List (Bool×Oper):=ord.filterMap fun i=>(ops[i]?).map fun o=>(E.contains i,o)
section
variable {P:Program}{ro:Option Nat}{n:Nat}{ops:Array Oper}{N:Nat}{S0:Sig}{Q:DX->St->Prop}{df:List DDf}{E:fG}
theorem EK: ∀{ord:fG}{γ:Fr}{V:Sig},(∀i∈ord,i<ops.size)->MO P ro n ops N S0 Q df (pick ops E ord) γ V->MOps P ro n ops N S0 Q df E ord γ V
 |[],_,_,_,h=>h
 | i::r,γ,V,fJ,h=>by
  have hi:ops[i]? = some ops[i]! :=by
   have:=fJ i (by simp)
   simp[this]
  have hp:pick ops E (i::r)=(E.contains i,ops[i]!)::pick ops E r:=by
   unfold pick
   rw[eX,hi]
   rfl
  rw[hp]at h
  have fY:∀j∈r,j<ops.size:=fun j hj=>fJ j (by simp[hj])
  refine⟨_,hi,?_⟩
  rcases h with⟨d,h2,h3⟩|⟨h1,h2⟩
  ·exact .inl ⟨d,h2,EK fY h3⟩
  ·exact .inr ⟨h1,h2.congr (fun _ _=>rfl) fun d S' ⟨h3,h4⟩=>⟨h3,EK fY h4⟩⟩
theorem TF{ord:fG}(hB:Fv ops E ord=true): ∀i∈ord,i<ops.size:=by
 intro i hi
 obtain⟨p1,p2,hp⟩:=bX hi
 unfold Fv at hB
 simp only[aI]at hB
 rw[hp]at hB
 obtain⟨_,_,_,o',fL,_⟩:=Et p1 [] hB.1.1
 exact(aR.1 fL).1
theorem Xu(hN:P.funcs.size=N)(hm:P.follows .mixedOrders=true){l:List Oper}{id:Nat}{γ:Fr}{V:Sig}(ord E:fG)(S0:Sig)(hB:Fv l.toArray E ord=true)(hC:Sub S0 V)
  {lp:List (Bool×Oper)} (hl:pick l.toArray E ord=lp) (h:MO P ro n l.toArray N S0 Q df lp γ V):DWp P ro n (.region id l.toArray true) Q ⟨γ,V,df⟩:=
 dwp_mix hN hm ord E S0 hB hC (EK (TF hB) (by rw[hl];exact h))
theorem Tv{γ:Fr}{V:Sig}(h:Q .normal ⟨γ,V,df⟩):MO P ro n ops N S0 Q df [] γ V:=AP h
theorem XZ{l:List (Bool×Oper)}{γ Sr:Fr}{V:Sig}{o:Oper}(ho:AD n o=true)(hγ:only (o.looksAt ops) γ=Sr)(hw:AT ops Sr o=some true)
  (h:av P ro n ops (EQ df o.dst (fun d S'=>Sub S0 S'/\MO P ro n ops N S0 Q df l (putD o.dst d γ) S') (fun d S'=> ∀U',Q (.panic d) ⟨U',S',df⟩)) [o] ⟨Sr,V,df⟩):MO P ro n ops N S0 Q df ((true,o)::l) γ V:=by
 subst hγ
 exact .inr ⟨rfl,ho,hw,h⟩
theorem Tu{e:Bool}{l:List (Bool×Oper)}{γ:Fr}{V:Sig}{o:Oper}(hw:AT ops γ o=some false)(ho:AD n o=true)(hs:Ei N o.op=true)
  (h:MO P ro n ops N S0 Q df l (putD o.dst (.tup []) γ) V):MO P ro n ops N S0 Q df ((e,o)::l) γ V:=
 .inl ⟨.tup [],⟨ho,.inr (.inl ⟨by rw[B8];exact hw,hs,.inr rfl⟩)⟩,h⟩
theorem Qb{e:Bool}{l:List (Bool×Oper)}{γ Sr:Fr}{V:Sig}{o:Oper}(d:D)(ho:AD n o=true)(hγ:only (o.looksAt ops) γ=Sr)(hw:AT ops Sr o=some true)
  (hq:∀S',Sub S0 S'->∀ro df,av P ro n ops (EQ df o.dst (fun d' S''=>d'=d/\Sub S' S'') fun _ _=>False) [o] ⟨Sr,S',df⟩)
  (h:MO P ro n ops N S0 Q df l (putD o.dst d γ) V):MO P ro n ops N S0 Q df ((e,o)::l) γ V:=by
 subst hγ
 exact .inl ⟨d,⟨ho,.inr (.inr ⟨hw,hq⟩)⟩,h⟩
end
def Ad:List Operand->fG
 |[]=>[]
 |.tmp t::r=>t::Ad r
 |_::r=>Ad r
def A8(γ:Fr):fG->Option Fr
 |[]=>some []
 | t::ts=>match γ.lookup t with
  |some d=>match A8 γ ts with
   |some r=>some ((t,d)::r)
   |none=>none
  |none=>none
theorem B7{γ:Fr}: ∀{l:fG}{Sr:Fr},A8 γ l=some Sr->∀t∈l,getD Sr t=getD γ t
 |[],_,_,_,h=>by cases h
 | a::l,Sr,e,t,h=>by
  simp only[A8]at e
  split at e<;>(try (cases e;done))
  rename_i d hd
  split at e<;>(try (cases e;done))
  rename_i r hr
  cases e
  rw[Aa]
  by_cases ht:t=a
  ·subst ht;rw[aS rfl];simp[getD,hd]
  ·rw[aN ht]
   exact B7 hr t (by simpa[ht] using h)
theorem Bw{t:Nat}: ∀{l:List Operand},Operand.tmp t∈l->t∈Ad l
 | x::l,h=>by
  rcases aY.1 h with rfl|h
  ·simp[Ad]
  ·have:=Bw h
   cases x<;>simp[Ad,this]
theorem Cy{γ Sr:Fr}{op:Op}(h:A8 γ (Ad op.operands.toList)=some Sr): ∀x∈op.operands,ev Sr x=ev γ x:=
 fun x hx=>Co fun t ht=>B7 h t (Bw (by rw[<-ht];simpa using hx))
theorem Cn{γ Sr:Fr}{x:Operand}(h:A8 γ (Ad [x])=some Sr):ev Sr x=ev γ x:=
 Co fun t ht=>B7 h t (Bw (by simp[ht]))
theorem Bz{tab:Nat->Ty}{γ U':Fr}{V:Sig}{op:Op}(h:∀x∈op.operands,ev γ x=ev U' x):eopD tab γ V op=eopD tab U' V op:=by
 cases op<;>simp only[Op.operands]at h<;>simp only[eopD]
 case store T a v=>rw[h a (by simp),h v (by simp)]
 case mapUpdate T a k v=>rw[h a (by simp),h k (by simp),h v (by simp)]
 case insert T a k v=>rw[h a (by simp),h k (by simp),h v (by simp)]
 case call c=>
  obtain⟨callee,args,ats⟩:=c
  cases callee<;>try rfl
  rename_i b
  obtain⟨args⟩:=args
  obtain⟨ats⟩:=ats
  cases b<;>try rfl
  simp only[bapD]
  match args,h with
  |[a,b],h=>simp only;rw[h a (by simp[Call.operands]),h b (by simp[Call.operands])]
  |[],_=>rfl
  |[_],_=>rfl
  |_::_::_::_,_=>rfl
theorem Ap{γ:Fr}{k:Nat}{d:D}(h:γ.lookup k=some d):getD γ k=d:=by simp[getD,h]
@[simp] def D.plain:D->D
 |.slice es _=>.slice es .no
 |.ak=>.slice [] .no
 |d=>d
theorem SP(d:D):WkD d d.plain:=by
 cases d<;>first|exact A9 _|exact Ao _ _|exact Am _ (.inl rfl)
theorem FC: ∀l:fE,WkL l (l.map D.plain)
 |[]=>trivial
 |d::l=>⟨SP d,FC l⟩
theorem GJ:WkL [] []:=trivial
theorem AL{a b:D}{l m:fE}(h:WkD a b)(k:WkL l m):WkL (a::l) (b::m):=⟨h,k⟩
theorem Eh: ∀l:fE,WkL l l
 |[]=>trivial
 |a::l=>⟨A9 a,Eh l⟩
section
variable {P:Program}{ro:Option Nat}{n:Nat}{ops:Array Oper}{Q:DX->St->Prop}{df:List DDf}{rest:List Oper}{γ Sr:List (Nat×D)}{V S':Sig}{t:Nat}{op:Op}{ty:TypeId}{pos:String}{after:Array Edge}{guard:Option (Nat×Bool)}{d:D}
theorem CO{op:Op}(h:EE op=true): ∀c,op≠.defer c:=fun c e=>by subst e;cases h
theorem HI{tab:Nat->Ty}(ht:Bs P tab){o:Oper}(hr:EE o.op=true)(hw:AT ops γ o=some true)(hd:dopX tab γ V o.op=some d)(ho:AD n o=true)
  (h:av P ro n ops Q rest ⟨putD o.dst d γ,V,df⟩):av P ro n ops Q (o::rest) ⟨γ,V,df⟩:=
 MT hw (CO hr) (Kt ht hd) (fun g w a hs hT=>G5 ht hs hT hd) ho h
theorem CY{j k:Nat}{b:Bool}(hk:(ops[j]?).bind (·.dst)=some k)(hb:γ.lookup k=some (.bool b)):Dr ops γ j=some b:=by
 unfold Dr
 rw[hk]
 simp only[dW,Ap hb]
theorem Hg{tab:Nat->Ty}(ht:Bs P tab)(hr:EE op=true)(d6:decide (t<n)=true)(hl:A8 γ (Ad op.operands.toList)=some Sr)(hd:dopX tab Sr V op=some d)
  (h:av P ro n ops Q rest ⟨(t,d)::γ,V,df⟩):av P ro n ops Q (⟨some t,op,ty,pos,after,none⟩::rest) ⟨γ,V,df⟩:=
 HI ht hr rfl ((BJ (Cy hl)) ▸ hd) d6 h
theorem HV{tab:Nat->Ty}(ht:Bs P tab){j:Nat}{want:Bool}(hr:EE op=true)(d6:decide (t<n)=true){k:Nat}(hk:(ops[j]?).bind (·.dst)=some k)(hb:γ.lookup k=some (.bool want))(hl:A8 γ (Ad op.operands.toList)=some Sr)(hd:dopX tab Sr V op=some d)
  (h:av P ro n ops Q rest ⟨(t,d)::γ,V,df⟩):av P ro n ops Q (⟨some t,op,ty,pos,after,some (j,want)⟩::rest) ⟨γ,V,df⟩:=
 HI ht hr (by simp only[AT,CY hk hb];simp) ((BJ (Cy hl)) ▸ hd) d6 h
theorem wantU{j k:Nat}{o:Oper}{want:Bool}(hk:(ops[j]?).bind (·.dst)=some k)(hb:γ.lookup k=some (.tup []))(hg:o.guard=some (j,want):=by rfl):AT ops γ o=some false:=by
 unfold AT
 rw[hg]
 have h1:Dr ops γ j=none:=by unfold Dr;rw[hk];simp only[dW,Ap hb]
 have h2:Jb ops γ j=true:=by unfold Jb;rw[hk];simp only[Ap hb]
 simp only[h1,h2,bp]
theorem Jf{N:Nat}(hN:P.funcs.size=N){j:Nat}{want:Bool}{k:Nat}(hk:(ops[j]?).bind (·.dst)=some k)(hb:γ.lookup k=some (.bool (!want)))(hs:Ei N op=true)(d6:decide (t<n)=true)
  (h:av P ro n ops Q rest ⟨(t,.tup [])::γ,V,df⟩):av P ro n ops Q (⟨some t,op,ty,pos,after,some (j,want)⟩::rest) ⟨γ,V,df⟩:=by
 intro g w a r hr hs'
 have ga:AT ops γ ⟨some t,op,ty,pos,after,some (j,want)⟩=some false:=by simp only[AT,CY hk hb];simp
 unfold wpListIn
 rw[AV hs'.tmps ga,aN (by simp)]
 refine⟨fun f hf=>Ij (by rw[hN];exact hs) w _ f hf (fun _=>rfl),?_⟩
 have h0:Rep g (.tup []) undef:=⟨[],rfl,rfl⟩
 exact h g w _ r hr (hs'.put (o:=⟨some t,op,ty,pos,after,some (j,want)⟩) (.refl g) hs'.sim h0 d6)
theorem HU{N:Nat}(hN:P.funcs.size=N){j:Nat}{want:Bool}{k:Nat}(hk:(ops[j]?).bind (·.dst)=some k)(hb:γ.lookup k=some (.tup []))(hs:Ei N op=true)(d6:decide (t<n)=true)
  (h:av P ro n ops Q rest ⟨(t,.tup [])::γ,V,df⟩):av P ro n ops Q (⟨some t,op,ty,pos,after,some (j,want)⟩::rest) ⟨γ,V,df⟩:=by
 intro g w a r hr hs'
 have ga:AT ops γ ⟨some t,op,ty,pos,after,some (j,want)⟩=some false:=by exact wantU hk hb
 unfold wpListIn
 rw[AV hs'.tmps ga,aN (by simp)]
 refine⟨fun f hf=>Ij (by rw[hN];exact hs) w _ f hf (fun _=>rfl),?_⟩
 have h0:Rep g (.tup []) undef:=⟨[],rfl,rfl⟩
 exact h g w _ r hr (hs'.put (o:=⟨some t,op,ty,pos,after,some (j,want)⟩) (.refl g) hs'.sim h0 d6)
theorem C2{t:Nat}{d:D}(h:WkD (getD γ t) d):Wk P n ⟨γ,V,df⟩ ⟨(t,d)::γ,V,df⟩:=
 fun g w a hs=>⟨g,.refl g,⟨hs.sim,⟨hs.tmps.1,fun k=>by
  rw[Aa]
  by_cases hk:k=t
  ·subst hk;rw[aS rfl];exact h g _ (hs.tmps.2 k)
  ·rw[aN hk];exact hs.tmps.2 k⟩,hs.df⟩⟩
theorem Rc{dst:Option Tmp}{j:Nat}{want b:Bool}{k:Nat}(hk:(ops[j]?).bind (·.dst)=some k)(hb:γ.lookup k=some (.bool b))
  (h1:b=true->av P ro n ops Q (⟨dst,op,ty,pos,after,some (j,want)⟩::rest) ⟨(k,.bool true)::γ,V,df⟩) (h2:b=false->av P ro n ops Q (⟨dst,op,ty,pos,after,some (j,want)⟩::rest) ⟨(k,.bool false)::γ,V,df⟩):av P ro n ops Q (⟨dst,op,ty,pos,after,some (j,want)⟩::rest) ⟨γ,V,df⟩:=by
 cases b with
 |true=>exact BA (C2 (by rw[Ap hb];exact A9 _)) (h1 rfl)
 |false=>exact BA (C2 (by rw[Ap hb];exact A9 _)) (h2 rfl)
theorem Mb{tab:Nat->Ty}(ht:Bs P tab)(hl:A8 γ (Ad op.operands.toList)=some Sr)(he:eopD tab Sr V op=some (d,S'))(d6:decide (t<n)=true)
  (h:av P ro n ops Q rest ⟨(t,d)::γ,S',df⟩):av P ro n ops Q (⟨some t,op,ty,pos,after,none⟩::rest) ⟨γ,V,df⟩:=
 Fl (o:=⟨some t,op,ty,pos,after,none⟩) ht rfl ((Bz (Cy hl)) ▸ he) d6 h
theorem Jh{tab:Nat->Ty}(ht:Bs P tab)(hl:A8 γ (Ad op.operands.toList)=some Sr)(he:eopD tab Sr V op=some (d,S'))
  (h:av P ro n ops Q rest ⟨γ,S',df⟩):av P ro n ops Q (⟨none,op,ty,pos,after,none⟩::rest) ⟨γ,V,df⟩:=
 Fl (o:=⟨none,op,ty,pos,after,none⟩) ht rfl ((Bz (Cy hl)) ▸ he) rfl h
theorem Wu{tab:Nat->Ty}(ht:Bs P tab)(vars:fG){T T' ty':Nat}{x:Operand}{pos':String}{after':Array Edge}{cs:fE}(hv:vars.contains t=false)(hT:T'=T)(d6:decide (t<n)=true)(hx:Ft t x=true)(ho:A6 (tab T).k=false)
  (hl:A8 γ (Ad [x])=some Sr) (he:ev Sr x=d) (d8:d.told=true) (hc:d.cells=cs) (hlen:cs.length=(tab T).size) (e9:Db cs=true)
  (h:av P ro n ops Q rest ⟨(t,.am cs 0)::γ,V,df⟩) :
  av P ro n ops Q (⟨some t,.alloc T,ty,pos,after,none⟩::⟨none,.store T' (.tmp t) x,ty',pos',after',none⟩::rest) ⟨γ,V,df⟩:=by
 rw[Cn hl]at he
 subst he;subst hT;subst hc
 exact Py ht ho (by simpa using d6) (Hs ht hx) d8 hlen e9 h
theorem HH{id:Nat}{l:List Oper}(h:av P ro n l.toArray Q l ⟨γ,V,df⟩):DWp P ro n (.region id l.toArray false) Q ⟨γ,V,df⟩:=Sp h
theorem Nf{c:Operand}{x y:Code}{b:Bool}{Sr:Fr}(hl:A8 γ (Ad [c])=some Sr)(hc:ev Sr c=.bool b)(ht:b=true->DWp P ro n x Q ⟨γ,V,df⟩)(hf:b=false->DWp P ro n y Q ⟨γ,V,df⟩):
  DWp P ro n (.cond c x y) Q ⟨γ,V,df⟩:=QR (s:=⟨γ,V,df⟩) (by rw[<-Cn hl];exact hc) ht hf
theorem HX{c:Operand}{x y:Code}{Sr:Fr}(hl:A8 γ (Ad [c])=some Sr)(hc:ev Sr c=.bool true)(h:DWp P ro n x Q ⟨γ,V,df⟩):
  DWp P ro n (.cond c x y) Q ⟨γ,V,df⟩:=Nf hl hc (fun _=>h) (fun e=>by cases e)
theorem HY{c:Operand}{x y:Code}{Sr:Fr}(hl:A8 γ (Ad [c])=some Sr)(hc:ev Sr c=.bool false)(h:DWp P ro n y Q ⟨γ,V,df⟩):
  DWp P ro n (.cond c x y) Q ⟨γ,V,df⟩:=Nf hl hc (fun e=>by cases e) (fun _=>h)
theorem Hh{fop:Operand}{args:Array Operand}{ats:Array TypeId}{f:Nat}{first cap us bs:fE}{R:DE->Sig->Prop}{dst:Option Tmp}
  (hl:A8 γ (Ad (fop::args.toList))=some Sr) (hf:ev Sr fop=.func (.func f) first cap) (ha:first++args.toList.map (ev Sr)++cap=us) (hw:bs=us\/bs=us.map D.plain) (h:au P f bs V R)
  (ho:AD n ⟨dst,(cv fop args ats),ty,pos,after,none⟩=true)
  (d9:∀d S',R (.ret d) S'->av P ro n ops Q rest ⟨putD dst d γ,S',df⟩)
  (e7:∀d S',R (.panic d) S'->Q (.panic d) ⟨γ,S',df⟩) :
  av P ro n ops Q (⟨dst,(cv fop args ats),ty,pos,after,none⟩::rest) ⟨γ,V,df⟩:=by
 have hx:∀x∈fop::args.toList,ev Sr x=ev γ x:=fun x hx=>Co fun t ht=>B7 hl t (Bw (by rw[<-ht];exact hx))
 refine Gr (az:=bs) rfl (by rw[<-hx fop (by simp)];exact hf) h ?_ ho d9 e7
 rw[show args.toList.map (ev γ)=args.toList.map (ev Sr) from bT fun x h=>(hx x (by simp[h])).symm,ha]
 rcases hw with rfl|rfl
 ·exact Eh _
 ·exact FC _
theorem HZ{fop:Operand}{args:Array Operand}{ats:Array TypeId}{f:Nat}{first cap us bs:fE}{d:D}
  (hl:A8 γ (Ad (fop::args.toList))=some Sr) (hf:ev Sr fop=.func (.func f) first cap) (ha:first++args.toList.map (ev Sr)++cap=us) (hw:bs=us\/bs=us.map D.plain) (h:au P f bs V (rS d V))
  (d6:decide (t<n)=true) (k:av P ro n ops Q rest ⟨(t,d)::γ,V,df⟩) :
  av P ro n ops Q (⟨some t,(cv fop args ats),ty,pos,after,none⟩::rest) ⟨γ,V,df⟩:=
 Hh hl hf ha hw h d6 (fun d' S' ⟨e1,e2⟩=>by cases e1;subst e2;exact k) (fun d' S' ⟨e1,e2⟩=>by cases e1)
theorem Rd{fop:Operand}{args:Array Operand}{ats:Array TypeId}{f:Nat}{first cap us bs:fE}{R:DE->Sig->Prop}{dst:Option Tmp}{j:Nat}{want:Bool}{k:Nat}(hk:(ops[j]?).bind (·.dst)=some k)(hb:γ.lookup k=some (.bool want))
  (hl:A8 γ (Ad (fop::args.toList))=some Sr) (hf:ev Sr fop=.func (.func f) first cap) (ha:first++args.toList.map (ev Sr)++cap=us) (hw:bs=us\/bs=us.map D.plain) (h:au P f bs V R)
  (ho:AD n ⟨dst,(cv fop args ats),ty,pos,after,some (j,want)⟩=true)
  (d9:∀d S',R (.ret d) S'->av P ro n ops Q rest ⟨putD dst d γ,S',df⟩)
  (e7:∀d S',R (.panic d) S'->Q (.panic d) ⟨γ,S',df⟩) :
  av P ro n ops Q (⟨dst,(cv fop args ats),ty,pos,after,some (j,want)⟩::rest) ⟨γ,V,df⟩:=by
 have hx:∀x∈fop::args.toList,ev Sr x=ev γ x:=fun x hx=>Co fun t ht=>B7 hl t (Bw (by rw[<-ht];exact hx))
 refine Gr (az:=bs) (by simp only[AT,CY hk hb];simp) (by rw[<-hx fop (by simp)];exact hf) h ?_ ho d9 e7
 rw[show args.toList.map (ev γ)=args.toList.map (ev Sr) from bT fun x h=>(hx x (by simp[h])).symm,ha]
 rcases hw with rfl|rfl
 ·exact Eh _
 ·exact FC _
theorem GP{fop:Operand}{args:Array Operand}{ats:Array TypeId}{f:Nat}{first cap us bs:fE}{d:D}{j:Nat}{want:Bool}{k:Nat}(hk:(ops[j]?).bind (·.dst)=some k)(hb:γ.lookup k=some (.bool want))
  (hl:A8 γ (Ad (fop::args.toList))=some Sr) (hf:ev Sr fop=.func (.func f) first cap) (ha:first++args.toList.map (ev Sr)++cap=us) (hw:bs=us\/bs=us.map D.plain) (h:au P f bs V (rS d V))
  (d6:decide (t<n)=true) (kk:av P ro n ops Q rest ⟨(t,d)::γ,V,df⟩) :
  av P ro n ops Q (⟨some t,(cv fop args ats),ty,pos,after,some (j,want)⟩::rest) ⟨γ,V,df⟩:=
 Rd hk hb hl hf ha hw h d6 (fun d' S' ⟨e1,e2⟩=>by cases e1;subst e2;exact kk) (fun d' S' ⟨e1,e2⟩=>by cases e1)
end
@[simp] theorem nat_eq_int(a b:Nat):((a:Int)=(b:Int))=(a=b):=propext Int.ofNat_inj
@[simp] theorem To(a:Nat):((a+1:Nat):Int)=(a:Int)+1:=rfl
def Ea(γ:Fr):fG->Option Fr
 |[]=>some []
 | t::ts=>match γ.lookup t with
  |some d=>match Ea γ ts with
   |some r=>some ((t,d)::r)
   |none=>none
  |none=>Ea γ ts
def TellsR(γ:Fr):Fr->Prop
 |[]=>True
 |p::r=>WkD (getD γ p.1) p.2/\TellsR γ r
theorem TellsR.get{γ:Fr}: ∀{U':Fr},TellsR γ U'->∀t,WkD (getD γ t) (getD U' t)
 |[],_,t=>Es _
 |p::r,h,t=>by
  rw[show p::r=(p.1,p.2)::r from rfl,Aa]
  by_cases ht:t=p.1
  ·rw[aS ht,ht];exact h.1
  ·rw[aN ht];exact TellsR.get h.2 t
theorem He{γ:Fr}:TellsR γ []:=trivial
theorem Ga{γ r:Fr}{t:Nat}{d d':D}(hl:γ.lookup t=some d')(h:WkD d' d)(k:TellsR γ r):TellsR γ ((t,d)::r):=⟨by rw[Ap hl];exact h,k⟩
theorem Hf{γ a b:Fr}(h:TellsR γ a)(k:TellsR γ b):TellsR γ (a++b):=by
 induction a with
 |nil=>exact k
 |cons p a ih=>exact⟨h.1,ih h.2⟩
theorem M3{P:Program}{n:Nat}{γ U':Fr}{V S':Sig}{df:List DDf}(h:TellsR γ U')(hZ:Sub S' V):Wk P n ⟨γ,V,df⟩ ⟨U',S',df⟩:=
 fun g w a hs=>⟨g,.refl g,⟨hs.sim.sub hZ,⟨hs.tmps.1,fun t=>h.get t g _ (hs.tmps.2 t)⟩,hs.df⟩⟩
theorem AQ{V S':Sig}(h:S'=V):Sub S' V:=h ▸ Sub.refl _
theorem G3{P:Program}{ro:Option Nat}{n:Nat}{Q:DX->St->Prop}{df:List DDf}{γ Sk:Fr}{V:Sig}{α:Type}{c:Code}(keep:fG)(I:α->Prop)(ov:α->Fr)(sg:α->Sig)(μ:α->Nat)(x0:α)(hk:Ea γ keep=some Sk)(h0:I x0)(h1:TellsR γ (ov x0++Sk))(h2:Sub (sg x0) V)
  (round:∀x,I x->DWp P ro n c (Then (fun s'=> ∃x',I x'/\μ x'<μ x/\Wk P n s' ⟨ov x'++Sk,sg x',df⟩) Q) ⟨ov x++Sk,sg x,df⟩):DWp P ro n (.loop c) Q ⟨γ,V,df⟩:=by
 refine QQ (fun x:{x // I x}=>⟨ov x.1++Sk,sg x.1,df⟩) (fun x=>μ x.1) ⟨x0,h0⟩ (M3 h1 h2) fun x=>Fk (round x.1 x.2) ?_
 intro e s h
 cases e with
 |normal=>obtain⟨x',h3,h4,h5⟩:=h;exact⟨⟨x',h3⟩,h4,h5⟩
 |_=>exact h
theorem Ss{P:Program}{ro:Option Nat}{n:Nat}{Q:DX->St->Prop}{df:List DDf}{γ Sk:Fr}{V:Sig}{α β:Type}{c:Code}(keep:fG)(I:α->β->Prop)(ov:α->β->Fr)(sg:α->β->Sig)(μ:α->β->Nat)(x0:α)(y0:β)(hk:Ea γ keep=some Sk)(h0:I x0 y0)(h1:TellsR γ (ov x0 y0++Sk))(h2:Sub (sg x0 y0) V)
  (round:∀x y,I x y->DWp P ro n c (Then (fun s'=> ∃x' y',I x' y'/\μ x' y'<μ x y/\Wk P n s' ⟨ov x' y'++Sk,sg x' y',df⟩) Q) ⟨ov x y++Sk,sg x y,df⟩):DWp P ro n (.loop c) Q ⟨γ,V,df⟩:=by
 refine G3 (α:=α×β) keep (fun x=>I x.1 x.2) (fun x=>ov x.1 x.2) (fun x=>sg x.1 x.2) (fun x=>μ x.1 x.2) (x0,y0) hk h0 h1 h2 fun x hx=>Fk (round x.1 x.2 hx) ?_
 intro e s h
 cases e with
 |normal=>obtain⟨x',y',h3,h4,h5⟩:=h;exact⟨(x',y'),h3,h4,h5⟩
 |_=>exact h
theorem Sq{P:Program}{ro:Option Nat}{n:Nat}{Q:DX->St->Prop}{df:List DDf}{γ Sk:Fr}{V:Sig}{α β δ:Type}{c:Code}(keep:fG)(I:α->β->δ->Prop)(ov:α->β->δ->Fr)(sg:α->β->δ->Sig)(μ:α->β->δ->Nat)(x0:α)(y0:β)(z0:δ)(hk:Ea γ keep=some Sk)(h0:I x0 y0 z0)(h1:TellsR γ (ov x0 y0 z0++Sk))(h2:Sub (sg x0 y0 z0) V)
  (round:∀x y z,I x y z->DWp P ro n c (Then (fun s'=> ∃x' y' z',I x' y' z'/\μ x' y' z'<μ x y z/\Wk P n s' ⟨ov x' y' z'++Sk,sg x' y' z',df⟩) Q) ⟨ov x y z++Sk,sg x y z,df⟩):DWp P ro n (.loop c) Q ⟨γ,V,df⟩:=by
 refine G3 (α:=α×β×δ) keep (fun x=>I x.1 x.2.1 x.2.2) (fun x=>ov x.1 x.2.1 x.2.2) (fun x=>sg x.1 x.2.1 x.2.2) (fun x=>μ x.1 x.2.1 x.2.2) (x0,y0,z0) hk h0 h1 h2 fun x hx=>Fk (round x.1 x.2.1 x.2.2 hx) ?_
 intro e s h
 cases e with
 |normal=>obtain⟨x',y',z',h3,h4,h5⟩:=h;exact⟨(x',y',z'),h3,h4,h5⟩
 |_=>exact h
section
variable (tab:Nat->Ty)(γ:List (Nat×D))(V:Sig)(T T' m f:Nat)(x y z:Operand)(c:Bool)
@[simp] theorem dopX_move:dopX tab γ V (.move x)=some (ev γ x):=rfl
@[simp] theorem dopX_assign:dopX tab γ V (.assign x)=some (ev γ x):=rfl
@[simp] theorem dopX_pick:dopX tab γ V (.pick x y z)=Pf (ev γ x) (ev γ y) (ev γ z):=by unfold dopX;simp only[dop,dop2];cases Pf (ev γ x) (ev γ y) (ev γ z)<;>rfl
@[simp] theorem dopX_box:dopX tab γ V (.box T x)=boxD (ev γ x):=by unfold dopX;simp only[dop,dop2];cases boxD (ev γ x)<;>rfl
@[simp] theorem dopX_load:dopX tab γ V (.load T x)=KB (tab T) V (ev γ x):=by unfold dopX;simp only[dop,dop2];cases KB (tab T) V (ev γ x)<;>rfl
@[simp] theorem dopX_nil:dopX tab γ V (.nilCheck x)=nilD (ev γ x):=by unfold dopX;simp only[dop,dop2];cases nilD (ev γ x)<;>rfl
@[simp] theorem dopX_bin(o:BinOp):dopX tab γ V (.binOp o T x y T')=binD o (ev γ x) (ev γ y):=by unfold dopX;simp only[dop,dop2];cases binD o (ev γ x) (ev γ y)<;>rfl
@[simp] theorem dopX_un(o:UnOp):dopX tab γ V (.unOp o T x)=unD o (ev γ x):=by unfold dopX;simp only[dop,dop2];cases unD o (ev γ x)<;>rfl
@[simp] theorem dopX_conv:dopX tab γ V (.convert T T' x)=W6 (A6 (tab T).k) (tab T').k (ev γ x):=by unfold dopX;simp only[dop,dop2];cases W6 (A6 (tab T).k) (tab T').k (ev γ x)<;>rfl
@[simp] theorem dopX_mkif:dopX tab γ V (.makeInterface T x)=TE (tab T) T (ev γ x):=by unfold dopX;simp only[dop,dop2];cases TE (tab T) T (ev γ x)<;>rfl
@[simp] theorem dopX_mkfn(fn:Fn)(a b:Array Operand):dopX tab γ V (.makeFunc fn a b)=some (.func fn (a.toList.map (ev γ)) (b.toList.map (ev γ))):=rfl
@[simp] theorem dopX_fa:dopX tab γ V (.fieldAddr T x f)=DY tab f (ev γ x) (tab T).k:=by unfold dopX;simp only[dop,dop2];cases DY tab f (ev γ x) (tab T).k<;>rfl
@[simp] theorem dopX_ia:dopX tab γ V (.indexAddr T x y)=D1 tab (tab T).k (ev γ x) (ev γ y):=by unfold dopX;simp only[dop,dop2];cases D1 tab (tab T).k (ev γ x) (ev γ y)<;>rfl
@[simp] theorem dopX_ix:dopX tab γ V (.index T x y)=NQ (tab T).k (ev γ x) (ev γ y):=by unfold dopX;simp only[dop,dop2];cases NQ (tab T).k (ev γ x) (ev γ y)<;>rfl
@[simp] theorem dopX_ex:dopX tab γ V (.extract x f)=HE f (ev γ x):=by unfold dopX;simp only[dop,dop2];cases HE f (ev γ x)<;>rfl
@[simp] theorem dopX_bs(ps:Array (Nat×Operand)):dopX tab γ V (.buildSlice T m ps)=If tab γ m ps.toList (tab T).k:=by unfold dopX;simp only[dop,dop2];cases If tab γ m ps.toList (tab T).k<;>rfl
@[simp] theorem dopX_sl(a b d:Option Operand):dopX tab γ V (.slice T x a b d)=Jl tab (tab T).k (ev γ x) (a.map (ev γ)) (b.map (ev γ)) (d.map (ev γ)):=rfl
@[simp] theorem dopX_lk:dopX tab γ V (.lookup T x y c)=GX tab V c (tab T).k (ev γ x) (ev γ y):=rfl
@[simp] theorem dopX_ta:dopX tab γ V (.typeAssert x T T' c)=Kq tab T' c (ev γ x):=rfl
@[simp] theorem dopX_bd(ps:Array (Nat×Operand)):dopX tab γ V (.build T ps)=OS tab T (ps.toList.map fun p=>(p.1,ev γ p.2)) (tab T).k:=rfl
@[simp] theorem dopX_len (xs:Array Operand) (ts:Array TypeId):dopX tab γ V (.call { callee := .builtin .len,args:=xs,argTypes:=ts })=match lenC tab γ ts.toList xs.toList with
  |some d=>some d
  |none=>I7 tab γ V ts.toList xs.toList:=rfl
@[simp] theorem dopX_max(ts:Array TypeId):dopX tab γ V (.call { callee:=.builtin .max,args:= #[x,y],argTypes:=ts })=Ny true (ev γ x) (ev γ y):=rfl
@[simp] theorem dopX_min(ts:Array TypeId):dopX tab γ V (.call { callee:=.builtin .min,args:= #[x,y],argTypes:=ts })=Ny false (ev γ x) (ev γ y):=rfl
@[simp] theorem eopD_store:eopD tab γ V (.store T x y)=PU tab V T (ev γ x) (ev γ y):=rfl
@[simp] theorem eopD_upd:eopD tab γ V (.mapUpdate T x y z)=updD tab V (tab T).k (ev γ x) (ev γ y) (ev γ z):=rfl
@[simp] theorem eopD_ins:eopD tab γ V (.insert T x y z)=updD tab V (tab T).k (ev γ x) (ev γ y) (ev γ z):=rfl
@[simp] theorem eopD_app(ts:Array TypeId):eopD tab γ V (.call { callee:=.builtin .append,args:= #[x,y],argTypes:=ts })=appD tab V ts.toList (ev γ x) (ev γ y):=rfl
end
def nthO:List Oper->Nat->Option Oper
 |[],_=>none
 |o::_,0=>some o
 |_::l,i+1=>nthO l i
theorem Ju: ∀(l:List Oper) (i:Nat),nthO l i=l[i]?
 |[],_=>rfl
 |_::_,0=>rfl
 |_::l,i+1=>by rw[nthO,Ju l i];rfl
def GT (ops:List Oper) (E:fG):fG->Option (List (Bool × Oper))
 |[]=>some []
 | i::r=>match nthO ops i with
  | some o=>match GT ops E r with
   |some l=>match E.contains i with
    |true=>some ((true,o)::l)
    |false=>some ((false,o)::l)
   |none=>none
  |none=>none
theorem Jr{ops:List Oper}{E:fG}: ∀{ord:fG}{lp:List (Bool×Oper)},GT ops E ord=some lp->pick ops.toArray E ord=lp
 |[],_,h=>by cases h;rfl
 |i::r,lp,h=>by
  simp only[GT]at h
  split at h<;>(try (cases h;done))
  rename_i o ho
  rw[Ju]at ho
  split at h<;>(try (cases h;done))
  rename_i l hl
  have ih:=Jr hl
  unfold pick at ih⊢
  rw[eX,cV,ho]
  simp only[bG]
  rw[ih]
  split at h<;>(cases h;rename_i he;rw[he])
section
variable {P:Program}{ro:Option Nat}{n:Nat}{ops:Array Oper}{N:Nat}{S0:Sig}{Q:DX->St->Prop}{df:List DDf}{γ Sr:List (Nat×D)}{V S':Sig}{t:Nat}{op:Op}{ty:TypeId}{pos:String}{after:Array Edge}{d:D}{e:Bool}{l:List (Bool×Oper)}
theorem QO(hN:P.funcs.size=N)(hm:P.follows .mixedOrders=true){lo:List Oper}{id:Nat}(ord E:fG)(S0:Sig)(hB:Fv lo.toArray E ord=true)(hC:Sub S0 V)
  {lp:List (Bool×Oper)} (hl:GT lo E ord=some lp) (h:MO P ro n lo.toArray N S0 Q df lp γ V):DWp P ro n (.region id lo.toArray true) Q ⟨γ,V,df⟩:=
 Xu hN hm ord E S0 hB hC (Jr hl) h
theorem IN: ∀(l:List (Bool×Oper)) {γ U':Fr}{V:Sig},Alike γ U'->MO P ro n ops N S0 Q df l γ V->MO P ro n ops N S0 Q df l U' V
 |[],_,_,_,h,k=>D3 h k
 |(e,o)::r,_,_,_,h,k=>(match k with
  |.inl ⟨d,h2,h3⟩=>.inl ⟨d,h2.congr fun t _=>h t,IN r (h.put _ _) h3⟩
  |.inr ⟨h1,h2⟩=>.inr ⟨h1,h2.congr (fun t _=>h t) fun d S' ⟨h3,h4⟩=>⟨h3,IN r (h.put _ _) h4⟩⟩)
theorem Tx{tab:Nat->Ty}(ht:Bs P tab){o:Oper}(hr:EE o.op=true)(ho:AD n o=true)(hw:AT ops γ o=some true)(hd:dopX tab γ S0 o.op=some d)
  (h:MO P ro n ops N S0 Q df l (putD o.dst d γ) V):MO P ro n ops N S0 Q df ((e,o)::l) γ V:=by
 refine .inl ⟨d,⟨ho,.inl ⟨by rw[B8];exact hw,CO hr,Kt ht hd,fun S' hZ g w a hs hT=>?_⟩⟩,h⟩
 refine G5 ht hs hT (?_:dopX tab (only (o.looksAt ops) γ) S' o.op=some d)
 rw[BJ (U':=γ) fun x hx=>Cj hx]
 exact HK hZ hd
theorem Pk{tab:Nat->Ty}(ht:Bs P tab)(hr:EE op=true)(d6:decide (t<n)=true)(hl:A8 γ (Ad op.operands.toList)=some Sr)(hd:dopX tab Sr S0 op=some d)
  (h:MO P ro n ops N S0 Q df l ((t,d)::γ) V):MO P ro n ops N S0 Q df ((e,⟨some t,op,ty,pos,after,none⟩)::l) γ V:=
 Tx (o:=⟨some t,op,ty,pos,after,none⟩) ht hr d6 rfl ((BJ (Cy hl)) ▸ hd) h
theorem Mm{tab:Nat->Ty}(ht:Bs P tab){j:Nat}{want:Bool}{k:Nat}(hr:EE op=true)(d6:decide (t<n)=true)(hk:(ops[j]?).bind (·.dst)=some k)(hb:γ.lookup k=some (.bool want))(hl:A8 γ (Ad op.operands.toList)=some Sr)(hd:dopX tab Sr S0 op=some d)
  (h:MO P ro n ops N S0 Q df l ((t,d)::γ) V):MO P ro n ops N S0 Q df ((e,⟨some t,op,ty,pos,after,some (j,want)⟩)::l) γ V:=
 Tx (o:=⟨some t,op,ty,pos,after,some (j,want)⟩) ht hr d6 (by simp only[AT,CY hk hb];simp) ((BJ (Cy hl)) ▸ hd) h
theorem Ml{j:Nat}{want:Bool}{k:Nat}(hk:(ops[j]?).bind (·.dst)=some k)(hb:γ.lookup k=some (.bool (!want)))(hs:Ei N op=true)(d6:decide (t<n)=true)
  (h:MO P ro n ops N S0 Q df l ((t,.tup [])::γ) V):MO P ro n ops N S0 Q df ((e,⟨some t,op,ty,pos,after,some (j,want)⟩)::l) γ V:=
 Tu (o:=⟨some t,op,ty,pos,after,some (j,want)⟩) (by simp only[AT,CY hk hb];simp) d6 hs h
theorem Mk{j:Nat}{want:Bool}{k:Nat}(hk:(ops[j]?).bind (·.dst)=some k)(hb:γ.lookup k=some (.tup []))(hs:Ei N op=true)(d6:decide (t<n)=true)
  (h:MO P ro n ops N S0 Q df l ((t,.tup [])::γ) V):MO P ro n ops N S0 Q df ((e,⟨some t,op,ty,pos,after,some (j,want)⟩)::l) γ V:=
 Tu (o:=⟨some t,op,ty,pos,after,some (j,want)⟩) (by exact wantU hk hb) d6 hs h
theorem WD{dst:Option Tmp}{j:Nat}{want b:Bool}{k:Nat}(hk:(ops[j]?).bind (·.dst)=some k)(hb:γ.lookup k=some (.bool b))
  (h1:b=true->MO P ro n ops N S0 Q df ((e,⟨dst,op,ty,pos,after,some (j,want)⟩)::l) ((k,.bool true)::γ) V) (h2:b=false->MO P ro n ops N S0 Q df ((e,⟨dst,op,ty,pos,after,some (j,want)⟩)::l) ((k,.bool false)::γ) V) :
  MO P ro n ops N S0 Q df ((e,⟨dst,op,ty,pos,after,some (j,want)⟩)::l) γ V:=by
 have al:∀c,b=c->Alike ((k,.bool c)::γ) γ:=by
  rintro c rfl t
  rw[Aa]
  by_cases ht:t=k
  ·subst ht;rw[aS rfl,Ap hb]
  ·rw[aN ht]
 cases b with
 |true=>exact IN _ (al true rfl) (h1 rfl)
 |false=>exact IN _ (al false rfl) (h2 rfl)
theorem Tw{tab:Nat->Ty}(ht:Bs P tab){o:Oper}(ho:AD n o=true)(hw:AT ops γ o=some true)(he:eopD tab γ V o.op=some (d,S'))(hC:Sub S0 S')
  (h:MO P ro n ops N S0 Q df l (putD o.dst d γ) S'):MO P ro n ops N S0 Q df ((true,o)::l) γ V:=by
 refine .inr ⟨rfl,ho,by rw[B8];exact hw,?_⟩
 refine Fl ht (by rw[B8];exact hw) (by rw[Bz (U':=γ) fun x hx=>Cj hx];exact he) ho (AP ⟨rfl,?_⟩)
 cases hd:o.dst with
 |none=>rw[hd]at h;exact⟨hC,h⟩
 |some t=>
  rw[hd]at h
  simp only[putD,Aa,bp]
  exact⟨hC,h⟩
theorem Pm{tab:Nat->Ty}(ht:Bs P tab)(hl:A8 γ (Ad op.operands.toList)=some Sr)(he:eopD tab Sr V op=some (d,S'))(d6:decide (t<n)=true)(hC:Sub S0 S')
  (h:MO P ro n ops N S0 Q df l ((t,d)::γ) S'):MO P ro n ops N S0 Q df ((true,⟨some t,op,ty,pos,after,none⟩)::l) γ V:=
 Tw (o:=⟨some t,op,ty,pos,after,none⟩) ht d6 rfl ((Bz (Cy hl)) ▸ he) hC h
theorem Mn{tab:Nat->Ty}(ht:Bs P tab)(hl:A8 γ (Ad op.operands.toList)=some Sr)(he:eopD tab Sr V op=some (d,S'))(hC:Sub S0 S')
  (h:MO P ro n ops N S0 Q df l γ S'):MO P ro n ops N S0 Q df ((true,⟨none,op,ty,pos,after,none⟩)::l) γ V:=
 Tw (o:=⟨none,op,ty,pos,after,none⟩) ht rfl rfl ((Bz (Cy hl)) ▸ he) hC h
theorem IM{fop:Operand}{args:Array Operand}{ats:Array TypeId}{f:Nat}{first cap us bs:fE}{R:DE->Sig->Prop}{dst:Option Tmp}{guard:Option (Nat×Bool)}
  (hw:AT ops γ ⟨dst,(cv fop args ats),ty,pos,after,guard⟩=some true)
  (hl:A8 γ (Ad (fop::args.toList))=some Sr) (hf:ev Sr fop=.func (.func f) first cap) (ha:first++args.toList.map (ev Sr)++cap=us) (hb:bs=us\/bs=us.map D.plain) (h:au P f bs V R)
  (ho:AD n ⟨dst,(cv fop args ats),ty,pos,after,guard⟩=true)
  (d9:∀d S',R (.ret d) S'->Sub S0 S'/\MO P ro n ops N S0 Q df l (putD dst d γ) S')
  (e7:∀d S',R (.panic d) S'->∀U',Q (.panic d) ⟨U',S',df⟩) :
  MO P ro n ops N S0 Q df ((true,⟨dst,(cv fop args ats),ty,pos,after,guard⟩)::l) γ V:=by
 have hx:∀x∈fop::args.toList,ev Sr x=ev γ x:=fun x hx=>Co fun t ht=>B7 hl t (Bw (by rw[<-ht];exact hx))
 have gr:∀x∈((cv fop args ats)).operands,ev (only (Oper.looksAt ops ⟨dst,(cv fop args ats),ty,pos,after,guard⟩) γ) x=ev γ x:=fun x hx=>Cj (o:=⟨dst,(cv fop args ats),ty,pos,after,guard⟩) hx
 refine .inr ⟨rfl,ho,by rw[B8];exact hw,?_⟩
 refine Gr (first:=first) (cap:=cap) (f:=f) (R:=R) ?_ ?_ h ?_ ho ?_ ?_
 ·show AT ops (only _ γ) _=some true
  rw[B8];exact hw
 ·rw[gr fop (by simp[Op.operands,Call.operands]),<-hx fop (by simp)];exact hf
 ·simp only
  rw[show args.toList.map (ev (only (Oper.looksAt ops ⟨dst,(cv fop args ats),ty,pos,after,guard⟩) γ))=args.toList.map (ev Sr) from bT fun x hm=>by
   rw[gr x (by simp at hm;simp[Op.operands,Call.operands,hm]),<-hx x (by simp[hm])],ha]
  rcases hb with rfl|rfl
  ·exact Eh _
  ·exact FC _
 ·intro d S' hR
  obtain⟨h1,h2⟩:=d9 d S' hR
  refine AP ⟨rfl,?_⟩
  cases dst with
  |none=>exact⟨h1,h2⟩
  |some t=>simp only[putD,Aa,bp];exact⟨h1,h2⟩
 ·intro d S' hR
  exact⟨rfl,e7 d S' hR⟩
theorem Qc{fop:Operand}{args:Array Operand}{ats:Array TypeId}{f:Nat}{first cap us bs:fE}
  (hl:A8 γ (Ad (fop::args.toList))=some Sr) (hf:ev Sr fop=.func (.func f) first cap) (ha:first++args.toList.map (ev Sr)++cap=us) (hw:bs=us\/bs=us.map D.plain) (h:au P f bs V (rS d V))
  (d6:decide (t<n)=true) (hC:Sub S0 V) (k:MO P ro n ops N S0 Q df l ((t,d)::γ) V) :
  MO P ro n ops N S0 Q df ((true,⟨some t,(cv fop args ats),ty,pos,after,none⟩)::l) γ V:=
 IM rfl hl hf ha hw h d6 (fun d' S' ⟨e1,e2⟩=>by cases e1;subst e2;exact⟨hC,k⟩) (fun d' S' ⟨e1,e2⟩=>by cases e1)
theorem Tz{fop:Operand}{args:Array Operand}{ats:Array TypeId}{f:Nat}{first cap us bs:fE}{j:Nat}{want:Bool}{k:Nat}(hk:(ops[j]?).bind (·.dst)=some k)(hb:γ.lookup k=some (.bool want))
  (hl:A8 γ (Ad (fop::args.toList))=some Sr) (hf:ev Sr fop=.func (.func f) first cap) (ha:first++args.toList.map (ev Sr)++cap=us) (hw:bs=us\/bs=us.map D.plain) (h:au P f bs V (rS d V))
  (d6:decide (t<n)=true) (hC:Sub S0 V) (kk:MO P ro n ops N S0 Q df l ((t,d)::γ) V) :
  MO P ro n ops N S0 Q df ((true,⟨some t,(cv fop args ats),ty,pos,after,some (j,want)⟩)::l) γ V:=
 IM (by simp only[AT,CY hk hb];simp) hl hf ha hw h d6 (fun d' S' ⟨e1,e2⟩=>by cases e1;subst e2;exact⟨hC,kk⟩) (fun d' S' ⟨e1,e2⟩=>by cases e1)
end
section
variable {P:Program}{ro:Option Nat}{n:Nat}{ops:Array Oper}{Q:DX->St->Prop}{df:List DDf}{rest:List Oper}{γ Sr Sr2:List (Nat×D)}{V:Sig}{t t2:Nat}{d d2:D}
theorem SU{tab:Nat->Ty}(ht:Bs P tab)(vars:fG){T T' ty ty' ty2:Nat}{x y:Operand}{pos pos' pos2:String}{after after' after2:Array Edge}{cs:fE}(hv:vars.contains t=false)(hT:T'=T)(d6:decide (t<n)=true)(gb:decide (t2<n)=true)(hx:Ft t x=true)(hy:Ft t y=true)(f9:Ft t2 x=true)(f7:decide (t2=t)=false)(ho:A6 (tab T).k=false)
  (gv:A8 γ (Ad [y])=some Sr2) (gx:ev Sr2 y=d2) (hl:A8 γ (Ad [x])=some Sr) (he:ev Sr x=d) (d8:d.told=true) (hc:d.cells=cs) (hlen:cs.length=(tab T).size) (e9:Db cs=true)
  (h:av P ro n ops Q rest ⟨(t,.am cs 0)::(t2,d2)::γ,V,df⟩) :
  av P ro n ops Q (⟨some t,.alloc T,ty,pos,after,none⟩::⟨some t2,.assign y,ty2,pos2,after2,none⟩::⟨none,.store T' (.tmp t) x,ty',pos',after',none⟩::rest) ⟨γ,V,df⟩:=by
 rw[Cn hl]at he
 rw[Cn gv]at gx
 subst he;subst gx;subst hT;subst hc
 have f7:t2≠t:=by simpa using f7
 have hx:=Hs ht hx
 have hy:=Hs ht hy
 have f9:=Hs ht f9
 refine E1 ht ho (by simpa using d6) fun i hi=>?_
 have gM:ev ((t,.ptr i 0)::γ) y=ev γ y:=by
  cases y with
  |tmp k=>simp only[ev,Aa];rw[aN fun e=>hy (by rw[e])]
  |_=>rfl
 refine HI (d:=ev γ y) ht rfl rfl (by rw[<-gM];rfl) gb ?_
 simp only[putD]
 have f0:ev ((t2,ev γ y)::(t,.ptr i 0)::γ) x=ev γ x:=by
  cases x with
  |tmp k=>simp only[ev,Aa];rw[aN fun e=>f9 (by rw[e]),aN fun e=>hx (by rw[e])]
  |_=>rfl
 have hz:(tab T').zero.length=(tab T').size:=by
  obtain⟨_,_,_,_,_,_,_,_,_,_,h8,_⟩:=CV (ht T') (Aj ho)
  exact h8
 refine LI ht rfl ho (x:=.tmp t) (i:=i) (off:=0) (by simp[ev,Aa,aQ f7]) (w7 ..) (by rw[f0];exact d8) (by rw[f0];exact hlen) (by rw[f0];exact e9) (by rw[f0];omega) ?_
 rw[f0]
 refine BA (H7 (i:=i) (t:=t) (w7 ..) (by simp[Aa,aQ f7])) ?_
 have e1:(tab T').zero.take 0++(ev γ x).cells++(tab T').zero.drop (0+(ev γ x).cells.length)=(ev γ x).cells:=by
  rw[cN (by omega)];simp
 rw[w9,Sig.set_del _ _ hi,e1]
 refine D3 (γ:=(t,.am (ev γ x).cells 0)::(t2,ev γ y)::γ) (fun k=>?_) h
 simp only[Aa]
 split
 ·rfl
 ·split<;>rfl
end
end Go.DL
