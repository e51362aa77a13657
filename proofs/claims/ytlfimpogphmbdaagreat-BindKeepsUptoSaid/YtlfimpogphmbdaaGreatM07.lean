/- A part of the proof. -/
import Derived.Test.YtlfimpogphmbdaaGreatM06
set_option linter.all false
namespace Go.DL
open Go
def only(L:List Nat)(γ:Fr):Fr:=L.map fun t=>(t,getD γ t)
theorem Gk(γ:Fr)(t:Nat): ∀L:List Nat,getD (only L γ) t=if t∈L then getD γ t else .any
 |[]=>rfl
 |a::L=>by
  have ih:=Gk γ t L;unfold only at ih⊢;rw[List.map_cons,A8]
  by_cases h:t=a
  ·subst h;simp
  ·simp only[h,if_false,ih,List.mem_cons,false_or]
theorem LH{g:G}{γ:Fr}{n:Nat}{tmps:Array Value}(L:List Nat)(h:RepT g γ n tmps):RepT g (only L γ) n tmps:=
 ⟨h.1,fun t=>by
  rw[Gk]
  by_cases ht:t∈L
  ·rw[if_pos ht];exact h.2 t
  ·rw[if_neg ht];trivial⟩
theorem Jz{L:List Nat}{γ U':Fr}(h:∀t∈L,getD γ t=getD U' t):only L γ=only L U':=
 List.map_congr_left fun t ht=>by rw[h t ht]
theorem CA{γ:Fr}{ops:Array Oper}{o:Oper}{x:Operand}(h:x∈o.op.operands):ev (only (o.looksAt ops) γ) x=ev γ x:=by
 cases x with
 |tmp t=>simp only[ev,Gk];rw[if_pos (G7 h)]
 |_=>rfl
theorem Bf{γ:Fr}{ops:Array Oper}{o:Oper}:AB ops (only (o.looksAt ops) γ) o=AB ops γ o:=
 HN fun t ht=>by rw[Gk,if_pos ht]
section mono
variable {tab:Nat->Ty}{V S':Sig}(h:Sub V S'){γ:List (Nat×D)}
include h
theorem Gr{x:D}{l:List (D×D)}(e:BV V x=some l):BV S' x=some l:=by
 unfold BV at e⊢;split at e
 ·exact e
 ·exact e
 ·rename_i id;split at e<;>(try (cases e;done));rename_i l' hi;rw[h _ _ hi];exact e
 ·cases e
theorem loadT_mono{ty:Ty}{x d:D}(e:Je ty V x=some d):Je ty S' x=some d:=by
 unfold Je at e⊢;split at e
 ·cases e
 ·rename_i hk;rw[if_neg hk];unfold Jf at e⊢;split at e
  ·exact e
  ·rename_i id off;cases hi:V id with
   |none=>simp[hi,Dc]at e
   |some ob=>rw[h _ _ hi,<-hi];exact e
  ·cases e
theorem UQ{op:Op}{d:D}(e:dop tab γ V op=some d):dop tab γ S' op=some d:=by
 cases op<;>first|exact e|(simp only[dop]at e⊢; exact loadT_mono h e)|skip
 case call c=>
  obtain⟨callee,args,ats⟩:=c;cases callee<;>try exact e
  rename_i b;cases b<;>exact e
theorem Tt{op:Op}{d:D}(e:dop2 tab γ V op=some d):dop2 tab γ S' op=some d:=by
 cases op<;>first|exact e|skip
 case lookup t x k ok=>
  simp only[dop2]at e⊢;unfold FH at e⊢;split at e<;>(try (cases e;done));rename_i kt et hk;split at e<;>(try (cases e;done));rename_i hc;rw[if_neg hc];split at e<;>(try (cases e;done));rename_i l hl;rw[Gr h hl];exact e
 case call c=>
  simp only[dop2]at e⊢;unfold Fj at e⊢;split at e<;>(try (exact e))<;>(try (cases e;done));unfold GS at e⊢;split at e<;>(try (cases e;done));rename_i _ _ x _ _;split at e<;>(try (cases e;done));cases hl:BV V (ev γ x)with
  |none=>rw[hl]at e;cases e
  |some l=>rw[hl]at e;rw[Gr h hl];exact e
theorem MV{op:Op}{d:D}(e:dopX tab γ V op=some d):dopX tab γ S' op=some d:=by
 have key:dop tab γ V op=none->dop tab γ S' op=none\/dop2 tab γ V op=none:=by
  intro hn;cases op<;>first|exact .inl hn|exact .inr rfl|skip
  case call c=>
   obtain⟨callee,args,ats⟩:=c;cases callee<;>first|exact .inl hn|skip
   rename_i b;cases b<;>exact .inl hn
 unfold dopX at e⊢;split at e
 ·rename_i d' hd;rw[UQ h hd];exact e
 ·rename_i hd;rcases key hd with hc|hc
  ·rw[hc];exact Tt h e
  ·rw[hc]at e;cases e
end mono
section
variable (P:Program)(ro:Option Nat)(n:Nat)(ops:Array Oper)(N:Nat)(S0:Sig)(Q:DX->St->Prop)(df:List DDf)
def EQ(dst:Option Tmp)(R Rp:D->Sig->Prop):DX->St->Prop
 |.normal,s=>s.df=df/\R (match dst with|some t=>getD s.γ t|none=>.any) s.V
 |.panic d,s=>s.df=df/\Rp d s.V
 |_,_=>False
structure Calm(γ:Fr)(o:Oper)(d:D):Prop where
 ok:As n o=true
 run:(AB ops (only (o.looksAt ops) γ) o=some true/\(∀c,o.op≠.defer c)/\(∀(w:World) (ρ:Operand->Value) f,o.about P w ρ=some f->False) /\
   ∀V,Sub S0 V->∀g w (a:Act),Sim P g V w->RepT g (only (o.looksAt ops) γ) n a.tmps->ORun P g V d (execOp a.eval o) w) \/
  (AB ops (only (o.looksAt ops) γ) o=some false/\Ct N o.op=true/\(d=.any\/d=.tup [])) \/
  (AB ops (only (o.looksAt ops) γ) o=some true /\ ∀V,Sub S0 V->∀ro df,DOps P ro n ops (EQ df o.dst (fun d' S'=>d'=d/\Sub V S') fun _ _=>False) [o] ⟨only (o.looksAt ops) γ,V,df⟩)
structure Eff(γ:Fr)(V:Sig)(o:Oper)(R Rp:D->Sig->Prop):Prop where
 ok:As n o=true
 want:AB ops (only (o.looksAt ops) γ) o=some true
 run:DOps P ro n ops (EQ df o.dst R Rp) [o] ⟨only (o.looksAt ops) γ,V,df⟩
def MOps (E:List Nat):List Nat->Fr->Sig->Prop
  |[],γ,V=>DOps P ro n ops Q [] ⟨γ,V,df⟩
  | i::r,γ,V => ∃ o,ops[i]? = some o /\
    ((∃ d,Calm P n ops N S0 γ o d/\MOps E r (putD o.dst d γ) V) \/
     (E.contains i=true/\Eff P ro n ops df γ V o (fun d S'=>Sub S0 S'/\MOps E r (putD o.dst d γ) S') (fun d S'=> ∀U',Q (.panic d) ⟨U',S',df⟩)))
end
section
variable {P:Program}{ro:Option Nat}{n:Nat}{ops:Array Oper}{N:Nat}{S0:Sig}{Q:DX->St->Prop}{df:List DDf}{E:List Nat}
theorem Calm.congr{γ U':Fr}{o:Oper}{d:D}(h:∀t∈o.looksAt ops,getD γ t=getD U' t)(hy:Calm P n ops N S0 γ o d):Calm P n ops N S0 U' o d:=by
 have e:=Jz h;exact⟨hy.ok,by rw[<-e];exact hy.run⟩
theorem BI {Q':DX->St->Prop} (hq : ∀ x s,Q x s->Q' x s) {g:G} {r:Option Nat} : ∀ (l:List Oper) {a:Act} {w:World},wpListIn (FX P r) 0 P ops (Post P g n Q) l a w->wpListIn (FX P r) 0 P ops (Post P g n Q') l a w
  |[],_,_,⟨g',s',x,h1,h2,h3,h4⟩=>⟨g',s',x,h1,h2,h3,hq _ _ h4⟩
  | o::l,a,w,h=>by
    have pq:∀{e a w},Post P g n Q e a w->Post P g n Q' e a w:=fun ⟨g',s',x,h1,h2,h3,h4⟩=>⟨g',s',x,h1,h2,h3,hq _ _ h4⟩;unfold wpListIn at h⊢;split
    · rename_i hw
      rw[if_pos hw]at h;refine⟨h.1,?_⟩;have h2:=h.2;revert h2;generalize (o.semAt (FX P r).round a.eval).run P w=res;cases res with
      | ok nx w' =>
        cases nx<;>simp only[Oper.uponIn]<;>first
          |exact fun h=>BI hq l h
          | (rintro ⟨h1,h2⟩
             refine⟨h1,?_⟩
             first
               | (refine h2.mono ?_
                  intro e w'' he
                  cases e<;>first
                    |exact BI hq l he
                    |exact pq he
                    |(obtain⟨a0,w0,he⟩:=he;exact⟨a0,w0,pq he⟩))
               | (refine h2.mono ?_
                  intro v w'' he
                  exact BI hq l he))
          |exact fun h=>h
      |halt x w'=>cases x<;>simp only[Oper.uponIn]<;>first|exact fun h=>pq h|exact fun h=>h
    · rename_i hw
      rw[if_neg hw]at h;exact⟨h.1,BI hq l h.2⟩
theorem Tq{l:List Oper}{s:St}{Q':DX->St->Prop}(h:DOps P ro n ops Q l s)(hq:∀x s,Q x s->Q' x s):DOps P ro n ops Q' l s:=
 fun g w a r hr hs=>BI hq l (h g w a r hr hs)
theorem Eff.congr{γ U':Fr}{V:Sig}{o:Oper}{R R' Rp:D->Sig->Prop}(h:∀t∈o.looksAt ops,getD γ t=getD U' t)(hy:Eff P ro n ops df γ V o R Rp)(hR:∀d S',R d S'->R' d S'):Eff P ro n ops df U' V o R' Rp:=by
 have e:=Jz h;refine⟨hy.ok,by rw[<-e];exact hy.want,?_⟩;rw[<-e];refine Tq hy.run fun x s hx=>?_;cases x with
 |normal=>exact⟨hx.1,hR _ _ hx.2⟩
 |panic d=>exact hx
 |_=>exact hx
theorem MOps.alike: ∀(l:List Nat) {γ U':Fr}{V:Sig},Alike γ U'->MOps P ro n ops N S0 Q df E l γ V->MOps P ro n ops N S0 Q df E l U' V
 |[],_,_,_,h,k=>Ch h k
 |i::r,_,_,_,h,⟨o,ho,k⟩=>⟨o,ho,(match k with
  |.inl ⟨d,h2,h3⟩=>.inl ⟨d,h2.congr fun t _=>h t,MOps.alike r (h.put _ _) h3⟩
  |.inr ⟨h1,h2⟩=>.inr ⟨h1,h2.congr (fun t _=>h t) fun d S' ⟨h3,h4⟩=>⟨h3,MOps.alike r (h.put _ _) h4⟩⟩)⟩
theorem F7{i:Nat}{oi:Oper}(hi:ops[i]? = some oi)(post:List Nat): ∀(pre:List Nat) (γ:Fr) (V:Sig),
  (∀x∈pre,E.contains x=false /\ ∃ox,ops[x]? = some ox/\oi.apart ops ox=true)->MOps P ro n ops N S0 Q df E (pre++i::post) γ V->MOps P ro n ops N S0 Q df E (i::(pre++post)) γ V
 |[],_,_,_,h=>h
 | x::pre,γ,V,hp,h=>by
  obtain⟨hxE,ox,hox,hap⟩:=hp x (by simp);obtain⟨a1,a2,a3⟩:=Oper.apart_spec hap;obtain⟨ox',hox',hx⟩:=h;obtain rfl:ox'=ox:=by rw[hox]at hox';cases hox';rfl
  rcases hx with⟨d,hy,h⟩|⟨hE,_⟩
  ·obtain⟨oi',hoi',hh⟩:=F7 hi post pre _ V (fun y hy=>hp y (by simp[hy])) h;obtain rfl:oi'=oi:=by rw[hi]at hoi';cases hoi';rfl
   refine⟨oi',hi,?_⟩;rcases hh with⟨e,h2,h3⟩|⟨h1,h2⟩
   ·refine .inl ⟨e,h2.congr fun t ht=>Co fun hd=>a3 t hd ht,ox',hox,.inl ⟨d,hy.congr fun t ht=>(Co fun hd=>a1 t hd ht).symm,?_⟩⟩;exact MOps.alike _ (DM _ _ _ fun t p q=>a2 t p q) h3
   ·refine .inr ⟨h1,h2.congr (fun t ht=>Co fun hd=>a3 t hd ht) fun e S' ⟨h3,h4⟩=>⟨h3,ox',hox,.inl ⟨d,hy.congr fun t ht=>(Co fun hd=>a1 t hd ht).symm,?_⟩⟩⟩;exact MOps.alike _ (DM _ _ _ fun t p q=>a2 t p q) h4
  ·rw[hxE]at hE;cases hE
def mixB(ops:Array Oper)(E:List Nat):List Nat->List Nat->Bool
 |_,[]=>true
 | done,i::r => !done.contains i && (match ops[i]? with
  |some o=>(o.after.all fun e=> !Region.binds .any e||done.contains e.on)&&done.all fun x=>(!E.contains x&&match ops[x]? with
   |some ox=>o.apart ops ox
   |none=>false)||G4 ops ops.size i x
  |none=>false)&&mixB ops E (i::done) r
theorem Dx{i:Nat}{l2:List Nat}: ∀(l1 done:List Nat),mixB ops E done (l1++i::l2)=true->i∉l1/\i∉done/\i∉l2 /\ ∃o,ops[i]? = some o/\(∀e∈o.after,Region.binds .any e=true->e.on∈l1\/e.on∈done) /\
   ∀x,x∈l1->G4 ops ops.size i x=true\/(E.contains x=false /\ ∃ox,ops[x]? = some ox/\o.apart ops ox=true)
 | [],done,h=>by
  simp only[List.nil_append,mixB,Bool.and_eq_true,Bool.not_eq_true',List.contains_eq_mem,decide_eq_false_iff_not]at h;obtain⟨⟨h1,h2⟩,h3⟩:=h
  have later:∀(l d:List Nat),i∈d->mixB ops E d l=true->i∉l:=by
   intro l
   induction l with
   |nil=>intro _ _ _ h;cases h
   |cons y l ih=>
    intro d hd hm hmem;simp only[mixB,Bool.and_eq_true,Bool.not_eq_true',List.contains_eq_mem,decide_eq_false_iff_not]at hm;obtain⟨⟨m1,_⟩,m3⟩:=hm;rcases List.mem_cons.1 hmem with rfl|hmem
    ·exact m1 hd
    ·exact ih (y::d) (by simp[hd]) m3 hmem
  refine⟨by simp,h1,later l2 _ (by simp) h3,?_⟩;split at h2
  ·rename_i o ho;simp only[Bool.and_eq_true]at h2;refine⟨o,ho,fun e he hb=>?_,fun x hx=>by cases hx⟩;have:=Array.all_eq_true_iff_forall_mem.1 h2.1 e he;simp only[hb,Bool.not_true,Bool.false_or,List.contains_eq_mem,decide_eq_true_eq]at this;exact .inr this
  ·cases h2
 | y::l1,done,h=>by
  simp only[List.cons_append,mixB,Bool.and_eq_true]at h;obtain⟨h1,h2,h3,o,ho,he,hx⟩:=Dx l1 (y::done) h.2;have hiy:i≠y:=fun e=>h2 (by simp[e])
  refine⟨by simp[hiy,h1],fun hd=>h2 (by simp[hd]),h3,o,ho,fun e hm hb=>?_,?_⟩
  ·rcases he e hm hb with h4|h4
   ·exact .inl (by simp[h4])
   ·rcases List.mem_cons.1 h4 with h5|h5
    ·exact .inl (by simp[h5])
    ·exact .inr h5
  ·intro x hmem;rcases List.mem_cons.1 hmem with rfl|hmem
   ·
    have back:∀(l d:List Nat),x∈d->mixB ops E d (l++i::l2)=true->G4 ops ops.size i x=true\/(E.contains x=false /\ ∃ox,ops[x]? = some ox/\o.apart ops ox=true):=by
     intro l
     induction l with
     | nil =>
      intro d hd hm;simp only[List.nil_append,mixB,Bool.and_eq_true,ho]at hm;have:=List.all_eq_true.1 hm.1.2.2 x hd;simp only[Bool.or_eq_true,Bool.and_eq_true,Bool.not_eq_true']at this;rcases this.symm with h4|⟨h4,h5⟩
      ·exact .inl h4
      ·refine .inr ⟨h4,?_⟩;split at h5
       ·rename_i ox hox;exact⟨ox,hox,h5⟩
       ·cases h5
     |cons z l ih=>
      intro d hd hm;simp only[List.cons_append,mixB,Bool.and_eq_true]at hm;exact ih (z::d) (by simp[hd]) hm.2
    exact back l1 _ (by simp) h.2
   ·exact hx x hmem
def Em(ops:Array Oper)(E ord:List Nat):Bool:=mixB ops E [] ord&&(List.range ops.size).all ord.contains&&ord.length==ops.size
theorem Fe {K:Act->World->Prop} {g0 g:G} {w:World} {a:Act} {r:Option Nat} {γ:Fr} {V:Sig} {o:Oper} {R Rp:D->Sig->Prop} (hr:RoRep g ro r) (hg:g0.le g)
    (hs:SimS P g n ⟨γ,V,df⟩ a w) (hE:Eff P ro n ops df γ V o R Rp) (hK:∀g' w' a' d S',g.le g'->R d S'->SimS P g' n ⟨putD o.dst d γ,S',df⟩ a' w'->K a' w')
    (hp:∀d S',Rp d S'->∀U',Q (.panic d) ⟨U',S',df⟩) :
    (if Region.wanted o (yielded ops a.tmps) then o.wpIn (FX P r) 0 P a w K (Post P g0 n Q) else(∀f,o.about P w a.eval=some f->(FX P r).fn f)/\K (a.put o.dst undef) w):=by
  have hs0:SimS P g n ⟨only (o.looksAt ops) γ,V,df⟩ a w:=⟨hs.sim,LH _ hs.tmps,hs.df⟩;have h:=hE.run g w a r hr hs0;have hw:=Az hs0.tmps hE.want;rw[hw,if_pos rfl];unfold wpListIn at h;rw[hw,if_pos rfl]at h
  have fin:∀(a':Act) (w':World) (v:Value),a'.tmps=(a.put o.dst v).tmps->wpListIn (FX P r) 0 P ops (Post P g n (EQ df o.dst R Rp)) [] a' w'->K a' w':=by
    rintro a' w' v hv ⟨g',s',x,l1,l2,l3,l4⟩
    cases x with
    | normal =>
      obtain⟨e1,e2⟩:=l4;refine hK g' w' a' _ s'.V l1 e2 ⟨l2.sim,⟨l2.tmps.1,fun t=>?_⟩,by rw[<-e1];exact l2.df⟩;cases hd:o.dst with
      | none =>
        rw[hd]at hv;simp only[putD,Act.put]at hv⊢;rw[hv];exact Rep.mono l1 _ (hs.tmps.2 t)
      | some k =>
        rw[hd]at hv;simp only[putD,A8]
        by_cases hk:t=k
        · subst hk;rw[if_pos rfl];exact l2.tmps.2 t
        · rw [if_neg hk,hv]
          simp only[Act.put];rw[show(a.tmps.setIfInBounds k v).getD t undef=a.tmps.getD t undef by simp[Array.getD_eq_getD_getElem?, Array.getElem?_setIfInBounds_ne (Ne.symm hk)]];exact Rep.mono l1 _ (hs.tmps.2 t)
    |ret=>cases l3
    |exit _=>cases l3
    |panic _=>obtain⟨v,l3,_⟩:=l3;cases l3
  have pan:∀(c:List PanicEntry) (w':World),Post P g n (EQ df o.dst R Rp) (.panic c) a w'->Post P g0 n Q (.panic c) a w':=by
    rintro c w' ⟨g',s',x,l1,l2,l3,l4⟩
    cases x with
    |normal=>cases l3
    |ret=>cases l3
    |exit _=>cases l3
    |panic d=>exact⟨g',⟨γ,s'.V,df⟩,.panic d,hg.trans l1,⟨l2.sim,hs.tmps.mono l1,by rw[<-l4.1];exact l2.df⟩,l3,hp d _ l4.2 γ⟩
  have lets:LetsOut (Post P g n (EQ df o.dst R Rp))->LetsOut (Post P g0 n Q):=by
    rintro⟨a0,w0,g',s',x,l1,l2,l3,l4⟩
    cases x with
    |panic _=>obtain⟨v,l3,_⟩:=l3;cases l3
    |_=>cases l3
  refine⟨h.1,?_⟩;have h2:=h.2;revert h2;generalize (o.semAt (FX P r).round a.eval).run P w=res;cases res with
  | ok nx w' =>
    cases nx<;>simp only[Oper.uponIn]<;>first
      |exact fun h=>fin _ _ _ rfl h
      |exact fun h=>fin _ _ undef (by simp[Act.put];cases o.dst<;>rfl) h
      | (rintro ⟨h1,h2⟩
         refine⟨h1,?_⟩
         first
           | (refine h2.mono ?_
              intro e w'' he
              cases e<;>first
                |exact fin _ _ _ rfl he
                |exact pan _ _ he
                |exact lets he)
           | (refine h2.mono ?_
              intro v w'' he
              exact fin _ _ _ rfl he))
      |exact fun h=>h
  |halt x w'=>cases x<;>simp only[Oper.uponIn]<;>first|exact fun h=>pan _ _ h|exact fun h=>h
theorem Gx(hN:P.funcs.size=N){K:Act->World->Prop}{g0 g:G}{w:World}{a:Act}{r:Option Nat}{γ:Fr}{V:Sig}{o:Oper}{d:D}(hr:RoRep g ro r)(hg:g0.le g)
  (hs:SimS P g n ⟨γ,V,df⟩ a w) (hC:Sub S0 V) (hy:Calm P n ops N S0 γ o d)
  (hK:∀g' w' a',g.le g'->SimS P g' n ⟨putD o.dst d γ,V,df⟩ a' w'->K a' w') :
  (if Region.wanted o (yielded ops a.tmps) then o.wpIn (FX P r) 0 P a w K (Post P g0 n Q) else(∀f,o.about P w a.eval=some f->(FX P r).fn f)/\K (a.put o.dst undef) w):=by
 have hT:=LH (o.looksAt ops) hs.tmps;rcases hy.run with⟨hw,hnd,hab,hd⟩|⟨hw,hsk,hdu⟩|⟨hw,hd⟩
 ·rw[Az hT hw,if_pos rfl];refine⟨fun f hf=>(hab _ _ f hf).elim,?_⟩;obtain⟨g',w',v,h1,h2,h3,h4⟩:=hd V hC g w a hs.sim hT;rw[Oper.semAt_eq _ _ _ hnd,h1];exact hK g' w' _ h2 (hs.put h2 h3 h4 hy.ok)
 ·rw[Az hT hw,if_neg (by simp)];refine⟨fun f hf=>DV (by rw[hN];exact hsk) w _ f hf (fun _=>rfl),?_⟩;have h0:Rep g d undef:=by rcases hdu with rfl|rfl;exact trivial;exact⟨[],rfl,rfl⟩
  exact hK g w _ (.refl g) (hs.put (.refl g) hs.sim h0 hy.ok)
 ·exact Fe (Q:=Q) hr hg hs ⟨hy.ok,hw,hd V hC ro df⟩ (fun g' w' a' d' S' hg' hR hs'=>by
   obtain⟨rfl,hsub⟩:=hR
   exact hK g' w' a' hg' ⟨hs'.sim.sub hsub,hs'.tmps,hs'.df⟩) (fun _ _ h=>h.elim)
theorem B3{l:List Nat}{listed:Array Bool}{i:Nat}(h:i∉l):l.filter (fun j=> !(listed.setIfInBounds i true).getD j true)=l.filter fun j=> !listed.getD j true:=
 List.filter_congr fun j hj=>by rw[getD_set_ne true (show i≠j from fun e=>h (by rw[e];exact hj))]
theorem U0(hN:P.funcs.size=N){ord:List Nat}(hB:Em ops E ord=true){g0:G}{rr:Option Nat}(hr:RoRep g0 ro rr): ∀(m:Nat) (r:List Nat) (listed:Array Bool) (γ:Fr) (V:Sig),r.length=m->listed.size=ops.size->
  r=ord.filter (fun i=> !listed.getD i true)->Closed ops listed->MOps P ro n ops N S0 Q df E r γ V->Sub S0 V->
   ∀(g:G) (w:World) (a:Act),g0.le g->SimS P g n ⟨γ,V,df⟩ a w->wpAnyIn (FX P rr) 0 P .any ops (Post P g0 n Q) m listed a w:=by
 unfold Em at hB;simp only[Bool.and_eq_true]at hB;obtain⟨⟨hmix,hall⟩,_⟩:=hB
 have hmem:∀(r:List Nat) (listed:Array Bool),r=ord.filter (fun i=> !listed.getD i true)->∀i∈Region.ready .any ops listed,i∈r:=by
  intro r listed hf i hi;obtain⟨h1,o,ho,_⟩:=mem_ready.1 hi;have:=List.all_eq_true.1 hall i (by simpa using(Array.getElem?_eq_some_iff.1 ho).1);rw[hf,List.mem_filter];exact⟨by simpa using this,by rw[h1];rfl⟩
 intro m
 induction m with
 |zero=>
  intro r listed γ V hl hsz hf hcl h hC g w a hg hs;obtain rfl:r=[]:=List.length_eq_zero_iff.1 hl;refine⟨List.eq_nil_iff_forall_not_mem.2 fun i hi=>?_,?_⟩
  ·have:=hmem [] listed hf i hi;cases this
  ·exact Post.le hg (h g w a rr (hr.mono hg) hs)
 | succ m ih =>
  intro r listed γ V hl hsz hf hcl h hC g w a hg hs;obtain⟨y,t,rfl⟩:∃y t,r=y::t:=by cases r with|nil=>cases hl|cons y t=>exact⟨y,t,rfl⟩
  refine⟨fun he=>?_,fun i hi=>?_⟩
  ·exfalso
   obtain⟨l1,l2,hord,hl1,hy,hl2⟩:=List.filter_eq_cons_iff.1 hf.symm;subst hord;obtain⟨h1,_,_,o,ho,hea,_⟩:=Dx l1 [] hmix
   have:y∈Region.ready .any ops listed:=by
    refine mem_ready.2 ⟨by simpa using hy,o,ho,fun e hm hb=>?_⟩;rcases hea e hm hb with h4|h4
    ·have h5:=hl1 _ h4;simp only[Bool.not_eq_true,Bool.not_eq_false']at h5
     have hlt:e.on<listed.size:=by
      have:e.on∈l1++y::l2:=by simp[h4]
      obtain⟨p1,p2,hp⟩:=List.append_of_mem this;rw[hp]at hmix;obtain⟨_,_,_,o',ho',_⟩:=Dx p1 [] hmix;rw[hsz];exact(Array.getElem?_eq_some_iff.1 ho').1
     simpa[hlt] using h5
    ·cases h4
   rw[he]at this;cases this
  ·obtain⟨pre,post,hsplit⟩:=List.append_of_mem (hmem _ listed hf i hi);rw[hsplit]at hf h hl;obtain⟨l1',l2',hord,hf1,hf2⟩:=List.filter_eq_append_iff.1 hf.symm;obtain⟨m1,m2,hl2',hm1,hiu,hf3⟩:=List.filter_eq_cons_iff.1 hf2;have hord':ord=(l1'++m1)++i::m2:=by rw[hord,hl2'];simp
   rw[hord']at hmix;obtain⟨n1,_,n3,o,ho,hea,hx⟩:=Dx (l1'++m1) [] hmix;obtain⟨hiun,o',ho',hdone⟩:=mem_ready.1 hi;obtain rfl:o'=o:=by rw[ho]at ho';cases ho';rfl
   have hfront:=F7 ho post pre γ V (fun x hxp=>by
    have hx1:x∈l1'++m1:=by
     have:x∈l1'.filter (fun i=> !listed.getD i true):=by rw[hf1];exact hxp
     simp[(List.mem_filter.1 this).1]
    have hxu:listed.getD x true=false:=by
     have:x∈l1'.filter (fun i=> !listed.getD i true):=by rw[hf1];exact hxp
     simpa using(List.mem_filter.1 this).2
    rcases hx x hx1 with h4|h4
    ·exfalso
     have:=Cz hcl ops.size i x o' ho hdone h4
     rcases Nat.lt_or_ge x listed.size with hlt|hlt
     ·simp[hlt]at this hxu;rw[hxu]at this;cases this
     ·simp[Array.getElem?_eq_none hlt]at this
    ·exact h4) h
   have hnext:pre++post=ord.filter (fun j=> !(listed.setIfInBounds i true).getD j true):=by
    have hil:i<listed.size:=by
     rw[hsz];exact(Array.getElem?_eq_some_iff.1 ho).1
    rw[hord',List.filter_append,List.filter_cons];have e1:(listed.setIfInBounds i true).getD i true=true:=by simp[hil]
    rw[e1,B3 n1,B3 n3];simp only[Bool.not_true,Bool.false_eq_true,if_false,List.filter_append,hf1,hf3];rw[List.filter_eq_nil_iff.2 (fun x hx=>by simpa using hm1 x hx),List.append_nil]
   have hlen:(pre++post).length=m:=by simp at hl⊢; omega
   obtain⟨o2,ho2,hh⟩:=hfront;obtain rfl:o2=o':=by rw[ho]at ho2;cases ho2;rfl
   unfold wpOpIn;simp only[ho];rcases hh with⟨d,hy,hM⟩|⟨_,hE⟩
   ·exact Gx hN (hr.mono hg) hg hs hC hy fun g' w' a' hg' hs'=>ih _ _ _ _ hlen (by simpa using hsz) hnext (hcl.set hi) hM hC g' w' a' (hg.trans hg') hs'
   ·exact Fe (hr.mono hg) hg hs hE (fun g' w' a' d S' hg' hR hs'=>ih _ _ _ _ hlen (by simpa using hsz) hnext (hcl.set hi) hR.2 hR.1 g' w' a' (hg.trans hg') hs') fun d S' hp=>hp
theorem Eb{n:Nat}: ∀{l:List Nat},(∀i∈l,i<n)->l.filter (fun i=> !(Array.replicate n false).getD i true)=l:=by
 intro l h;rw[List.filter_eq_self];intro i hi;simp[h i hi]
theorem dwp_mix(hN:P.funcs.size=N)(hm:P.follows .mixedOrders=true){l:List Oper}{id:Nat}{γ:Fr}{V:Sig}(ord E:List Nat)(S0:Sig)(hB:Em l.toArray E ord=true)(hC:Sub S0 V)
  (h:MOps P ro n l.toArray N S0 Q df E ord γ V):DWp P ro n (.region id l.toArray true) Q ⟨γ,V,df⟩:=by
 intro g w a r hr hs;refine wpIn_region_any hm ?_
 have hcl:Closed l.toArray (Array.replicate l.toArray.size false):=by
  intro q o _ hq;rcases Nat.lt_or_ge q l.length with h'|h'
  ·simp[h']at hq
  ·simp[h']at hq
 have hs':SimS P g n ⟨γ,V,df⟩ a { w with drawn:=w.drawn+1 }:=
  ⟨⟨fun b o v h=>hs.sim.imm b o v h,hs.sim.keep,fun i o h=>by
   have:=hs.sim.obj i o h
   cases o<;>exact this,hs.sim.inj,hs.sim.free,hs.sim.htop,hs.sim.hdom,hs.sim.fin,hs.sim.io⟩,hs.tmps,hs.df⟩
 have hlt:∀i∈ord,i<l.toArray.size:=by
  intro i hi;obtain⟨p1,p2,hp⟩:=List.append_of_mem hi;have hB':=hB;unfold Em at hB';simp only[Bool.and_eq_true]at hB';rw[hp]at hB';obtain⟨_,_,_,o',ho',_⟩:=Dx p1 [] hB'.1.1;exact(Array.getElem?_eq_some_iff.1 ho').1
 have hlen:ord.length=l.toArray.size:=by
  have hB':=hB;unfold Em at hB';simp only[Bool.and_eq_true,beq_iff_eq]at hB';exact hB'.2
 have:=U0 hN hB hr ord.length ord (Array.replicate l.toArray.size false) γ V rfl (by simp) (Eb hlt).symm hcl h hC g _ a (.refl g) hs';rw[hlen]at this;exact this
end
theorem Ie{α β:Type}{f f':α->β}: ∀{x:Option α},(∀a,x=some a->f a=f' a)->x.map f=x.map f'
 |none,_=>rfl
 |some a,h=>by rw[Option.map_some,Option.map_some,h a rfl]
theorem QB{tab:Nat->Ty}{γ U':Fr}{V:Sig}{op:Op}(h:∀x∈op.operands,ev γ x=ev U' x):dop2 tab γ V op=dop2 tab U' V op:=by
 cases op<;>simp only[Op.operands]at h<;>simp only[dop2]
 case slice t x lo hi mx=>
  rw[h x (by simp)];have e1:lo.map (ev γ)=lo.map (ev U'):=Ie fun a ha=>h a (by simp[ha])
  have e2:hi.map (ev γ)=hi.map (ev U'):=Ie fun a ha=>h a (by simp[ha])
  have e3:mx.map (ev γ)=mx.map (ev U'):=Ie fun a ha=>h a (by simp[ha])
  rw[e1,e2,e3]
 case lookup t x k ok=>rw[h x (by simp),h k (by simp)]
 case typeAssert x s t ok=>rw[h x (by simp)]
 case build t parts=>
  have hp:∀p∈parts.toList,ev γ p.2=ev U' p.2:=fun p hp=>h p.2 (by simp;exact⟨p.1,by simpa using hp⟩)
  rw[show(parts.toList.map fun p=>(p.1,ev γ p.2))=parts.toList.map fun p=>(p.1,ev U' p.2) from List.map_congr_left fun p hp'=>by rw[hp p hp']]
 case call c=>
  obtain⟨callee,args,ats⟩:=c;cases callee<;>try rfl
  rename_i b;obtain⟨args⟩:=args;obtain⟨ats⟩:=ats;cases b<;>try rfl
  ·simp only[Fj,GS];split
   ·rename_i x;rw[h x (by simp[Call.operands])]
   ·rfl
  ·simp only[Fj]
   match args,h with
   |[a,b],h=>simp only;rw[h a (by simp[Call.operands]),h b (by simp[Call.operands])]
   |[],_=>rfl
   |[_],_=>rfl
   |_::_::_::_,_=>rfl
  ·simp only[Fj]
   match args,h with
   |[a,b],h=>simp only;rw[h a (by simp[Call.operands]),h b (by simp[Call.operands])]
   |[],_=>rfl
   |[_],_=>rfl
   |_::_::_::_,_=>rfl
theorem Bp{tab:Nat->Ty}{γ U':Fr}{V:Sig}{op:Op}(h:∀x∈op.operands,ev γ x=ev U' x):dopX tab γ V op=dopX tab U' V op:=by
 unfold dopX;rw[MU h,QB h]
def EE:Op->Bool
 |.call { callee:=.builtin .len,.. }|.call { callee:=.builtin .max,.. }|.call { callee:=.builtin .min,.. }=>true
 |.move _|.assign _|.pick .. |.box .. |.load .. |.nilCheck _|.binOp .. |.unOp .. |.convert .. |.makeInterface .. |.makeFunc .. |.fieldAddr .. |.field .. |.indexAddr .. |.index .. |.extract .. |.buildSlice .. =>true
 |.slice .. |.lookup .. |.typeAssert .. |.build .. =>true
 |_=>false
section
variable (P:Program)(ro:Option Nat)(n:Nat)(ops:Array Oper)(N:Nat)(S0:Sig)(Q:DX->St->Prop)(df:List DDf)
def MO:List (Bool×Oper)->Fr->Sig->Prop
 |[],γ,V=>DOps P ro n ops Q [] ⟨γ,V,df⟩
 |(e,o)::r,γ,V=>
  (∃d,Calm P n ops N S0 γ o d/\MO r (putD o.dst d γ) V) \/
  (e=true/\Eff P ro n ops df γ V o (fun d S'=>Sub S0 S'/\MO r (putD o.dst d γ) S') (fun d S'=> ∀U',Q (.panic d) ⟨U',S',df⟩))
end
def pick(ops:Array Oper)(E ord:List Nat):List (Bool×Oper):=ord.filterMap fun i=>(ops[i]?).map fun o=>(E.contains i,o)
section
variable {P:Program}{ro:Option Nat}{n:Nat}{ops:Array Oper}{N:Nat}{S0:Sig}{Q:DX->St->Prop}{df:List DDf}{E:List Nat}
theorem DN: ∀{ord:List Nat}{γ:Fr}{V:Sig},(∀i∈ord,i<ops.size)->MO P ro n ops N S0 Q df (pick ops E ord) γ V->MOps P ro n ops N S0 Q df E ord γ V
 |[],_,_,_,h=>h
 | i::r,γ,V,hlt,h=>by
  have hi:ops[i]? = some ops[i]! :=by
   have:=hlt i (by simp);simp[this]
  have hp:pick ops E (i::r)=(E.contains i,ops[i]!)::pick ops E r:=by
   unfold pick;rw[List.filterMap_cons,hi];rfl
  rw[hp]at h;have hlt':∀j∈r,j<ops.size:=fun j hj=>hlt j (by simp[hj])
  refine⟨_,hi,?_⟩;rcases h with⟨d,h2,h3⟩|⟨h1,h2⟩
  ·exact .inl ⟨d,h2,DN hlt' h3⟩
  ·exact .inr ⟨h1,h2.congr (fun _ _=>rfl) fun d S' ⟨h3,h4⟩=>⟨h3,DN hlt' h4⟩⟩
theorem Rm{ord:List Nat}(hB:Em ops E ord=true): ∀i∈ord,i<ops.size:=by
 intro i hi;obtain⟨p1,p2,hp⟩:=List.append_of_mem hi;unfold Em at hB;simp only[Bool.and_eq_true]at hB;rw[hp]at hB;obtain⟨_,_,_,o',ho',_⟩:=Dx p1 [] hB.1.1;exact(Array.getElem?_eq_some_iff.1 ho').1
theorem UL(hN:P.funcs.size=N)(hm:P.follows .mixedOrders=true){l:List Oper}{id:Nat}{γ:Fr}{V:Sig}(ord E:List Nat)(S0:Sig)(hB:Em l.toArray E ord=true)(hC:Sub S0 V)
  {lp:List (Bool×Oper)} (hl:pick l.toArray E ord=lp) (h:MO P ro n l.toArray N S0 Q df lp γ V):DWp P ro n (.region id l.toArray true) Q ⟨γ,V,df⟩:=
 dwp_mix hN hm ord E S0 hB hC (DN (Rm hB) (by rw[hl];exact h))
theorem Ri{γ:Fr}{V:Sig}(h:Q .normal ⟨γ,V,df⟩):MO P ro n ops N S0 Q df [] γ V:=B6 h
theorem V7{l:List (Bool×Oper)}{γ Sr:Fr}{V:Sig}{o:Oper}(ho:As n o=true)(hO:only (o.looksAt ops) γ=Sr)(hw:AB ops Sr o=some true)
  (h:DOps P ro n ops (EQ df o.dst (fun d S'=>Sub S0 S'/\MO P ro n ops N S0 Q df l (putD o.dst d γ) S') (fun d S'=> ∀U',Q (.panic d) ⟨U',S',df⟩)) [o] ⟨Sr,V,df⟩):MO P ro n ops N S0 Q df ((true,o)::l) γ V:=by
 subst hO;exact .inr ⟨rfl,ho,hw,h⟩
theorem KU{e:Bool}{l:List (Bool×Oper)}{γ:Fr}{V:Sig}{o:Oper}(hw:AB ops γ o=some false)(ho:As n o=true)(hs:Ct N o.op=true)
  (h:MO P ro n ops N S0 Q df l (putD o.dst (.tup []) γ) V):MO P ro n ops N S0 Q df ((e,o)::l) γ V:=
 .inl ⟨.tup [],⟨ho,.inr (.inl ⟨by rw[Bf];exact hw,hs,.inr rfl⟩)⟩,h⟩
theorem Oz{e:Bool}{l:List (Bool×Oper)}{γ Sr:Fr}{V:Sig}{o:Oper}(d:D)(ho:As n o=true)(hO:only (o.looksAt ops) γ=Sr)(hw:AB ops Sr o=some true)
  (hq:∀S',Sub S0 S'->∀ro df,DOps P ro n ops (EQ df o.dst (fun d' S''=>d'=d/\Sub S' S'') fun _ _=>False) [o] ⟨Sr,S',df⟩)
  (h:MO P ro n ops N S0 Q df l (putD o.dst d γ) V):MO P ro n ops N S0 Q df ((e,o)::l) γ V:=by
 subst hO;exact .inl ⟨d,⟨ho,.inr (.inr ⟨hw,hq⟩)⟩,h⟩
end
def A6:List Operand->List Nat
 |[]=>[]
 |.tmp t::r=>t::A6 r
 |_::r=>A6 r
def A4(γ:Fr):List Nat->Option Fr
 |[]=>some []
 | t::ts=>match γ.lookup t with
  |some d=>match A4 γ ts with
   |some r=>some ((t,d)::r)
   |none=>none
  |none=>none
theorem AD{γ:Fr}: ∀{l:List Nat}{Sr:Fr},A4 γ l=some Sr->∀t∈l,getD Sr t=getD γ t
 |[],_,_,_,h=>by cases h
 | a::l,Sr,e,t,h=>by
  simp only[A4]at e;split at e<;>(try (cases e;done));rename_i d hd;split at e<;>(try (cases e;done));rename_i r hr;cases e;rw[A8]
  by_cases ht:t=a
  ·subst ht;rw[if_pos rfl];simp[getD,hd]
  ·rw[if_neg ht];exact AD hr t (by simpa[ht] using h)
theorem AU{t:Nat}: ∀{l:List Operand},Operand.tmp t∈l->t∈A6 l
 | x::l,h=>by
  rcases List.mem_cons.1 h with rfl|h
  ·simp[A6]
  ·have:=AU h;cases x<;>simp[A6,this]
theorem Cq{γ Sr:Fr}{op:Op}(h:A4 γ (A6 op.operands.toList)=some Sr): ∀x∈op.operands,ev Sr x=ev γ x:=
 fun x hx=>Bv fun t ht=>AD h t (AU (by rw[<-ht];simpa using hx))
theorem Bu{γ Sr:Fr}{x:Operand}(h:A4 γ (A6 [x])=some Sr):ev Sr x=ev γ x:=
 Bv fun t ht=>AD h t (AU (by simp[ht]))
theorem BU{tab:Nat->Ty}{γ U':Fr}{V:Sig}{op:Op}(h:∀x∈op.operands,ev γ x=ev U' x):eopD tab γ V op=eopD tab U' V op:=by
 cases op<;>simp only[Op.operands]at h<;>simp only[eopD]
 case store T a v=>rw[h a (by simp),h v (by simp)]
 case mapUpdate T a k v=>rw[h a (by simp),h k (by simp),h v (by simp)]
 case insert T a k v=>rw[h a (by simp),h k (by simp),h v (by simp)]
 case call c=>
  obtain⟨callee,args,ats⟩:=c;cases callee<;>try rfl
  rename_i b;obtain⟨args⟩:=args;obtain⟨ats⟩:=ats;cases b<;>try rfl
  simp only[bapD]
  match args,h with
  |[a,b],h=>simp only;rw[h a (by simp[Call.operands]),h b (by simp[Call.operands])]
  |[],_=>rfl
  |[_],_=>rfl
  |_::_::_::_,_=>rfl
theorem Au{γ:Fr}{k:Nat}{d:D}(h:γ.lookup k=some d):getD γ k=d:=by simp[getD,h]
@[simp] def D.plain:D->D
 |.slice es _=>.slice es .no
 |.nils=>.slice [] .no
 |d=>d
theorem QL(d:D):WkD d d.plain:=by
 cases d<;>first|exact A7 _|exact Bc _ _|exact Aq _ (.inl rfl)
theorem Eu: ∀l:List D,WkL l (l.map D.plain)
 |[]=>trivial
 |d::l=>⟨QL d,Eu l⟩
theorem wkL_nil:WkL [] []:=trivial
theorem O9{a b:D}{l m:List D}(h:WkD a b)(k:WkL l m):WkL (a::l) (b::m):=⟨h,k⟩
theorem Dn: ∀l:List D,WkL l l
 |[]=>trivial
 |a::l=>⟨A7 a,Dn l⟩
section
variable {P:Program}{ro:Option Nat}{n:Nat}{ops:Array Oper}{Q:DX->St->Prop}{df:List DDf}{rest:List Oper}{γ Sr:List (Nat×D)}{V S':Sig}{t:Nat}{op:Op}{ty:TypeId}{pos:String}{after:Array Edge}{guard:Option (Nat×Bool)}{d:D}
theorem Dw{op:Op}(h:EE op=true): ∀c,op≠.defer c:=fun c e=>by subst e;cases h
theorem EV{tab:Nat->Ty}(ht:B8 P tab){o:Oper}(hr:EE o.op=true)(hw:AB ops γ o=some true)(hd:dopX tab γ V o.op=some d)(ho:As n o=true)
  (h:DOps P ro n ops Q rest ⟨putD o.dst d γ,V,df⟩):DOps P ro n ops Q (o::rest) ⟨γ,V,df⟩:=
 HE hw (Dw hr) (O5 ht hd) (fun g w a hs hT=>IY ht hs hT hd) ho h
theorem BB{j k:Nat}{b:Bool}(hk:(ops[j]?).bind (·.dst)=some k)(hb:γ.lookup k=some (.bool b)):CC ops γ j=some b:=by
 unfold CC;rw[hk];simp only[Option.bind_some,Au hb]
theorem FY{tab:Nat->Ty}(ht:B8 P tab)(hr:EE op=true)(htn:decide (t<n)=true)(hl:A4 γ (A6 op.operands.toList)=some Sr)(hd:dopX tab Sr V op=some d)
  (h:DOps P ro n ops Q rest ⟨(t,d)::γ,V,df⟩):DOps P ro n ops Q (⟨some t,op,ty,pos,after,none⟩::rest) ⟨γ,V,df⟩:=
 EV ht hr rfl ((Bp (Cq hl)) ▸ hd) htn h
theorem GH{tab:Nat->Ty}(ht:B8 P tab){j:Nat}{want:Bool}(hr:EE op=true)(htn:decide (t<n)=true){k:Nat}(hk:(ops[j]?).bind (·.dst)=some k)(hb:γ.lookup k=some (.bool want))(hl:A4 γ (A6 op.operands.toList)=some Sr)(hd:dopX tab Sr V op=some d)
  (h:DOps P ro n ops Q rest ⟨(t,d)::γ,V,df⟩):DOps P ro n ops Q (⟨some t,op,ty,pos,after,some (j,want)⟩::rest) ⟨γ,V,df⟩:=
 EV ht hr (by simp only[AB,BB hk hb];simp) ((Bp (Cq hl)) ▸ hd) htn h
theorem GI{tab:Nat->Ty}(ht:B8 P tab)(hr:EE op=true)(hl:A4 γ (A6 op.operands.toList)=some Sr)(hd:dopX tab Sr V op=some d)
  (h:DOps P ro n ops Q rest ⟨γ,V,df⟩):DOps P ro n ops Q (⟨none,op,ty,pos,after,none⟩::rest) ⟨γ,V,df⟩:=
 EV (o:=⟨none,op,ty,pos,after,none⟩) ht hr rfl ((Bp (Cq hl)) ▸ hd) rfl h
theorem TM{j k:Nat}{o:Oper}{want:Bool}(hk:(ops[j]?).bind (·.dst)=some k)(hb:γ.lookup k=some (.tup []))(hg:o.guard=some (j,want):=by rfl):AB ops γ o=some false:=by
 unfold AB;rw[hg];have h1:CC ops γ j=none:=by unfold CC;rw[hk];simp only[Option.bind_some,Au hb]
 have h2:HT ops γ j=true:=by unfold HT;rw[hk];simp only[Au hb]
 simp only[h1,h2,if_true]
theorem HX{N:Nat}(hN:P.funcs.size=N){j:Nat}{want:Bool}{k:Nat}(hk:(ops[j]?).bind (·.dst)=some k)(hb:γ.lookup k=some (.bool (!want)))(hs:Ct N op=true)(htn:decide (t<n)=true)
  (h:DOps P ro n ops Q rest ⟨(t,.tup [])::γ,V,df⟩):DOps P ro n ops Q (⟨some t,op,ty,pos,after,some (j,want)⟩::rest) ⟨γ,V,df⟩:=by
 intro g w a r hr hs';have hw':AB ops γ ⟨some t,op,ty,pos,after,some (j,want)⟩=some false:=by simp only[AB,BB hk hb];simp
 unfold wpListIn;rw[Az hs'.tmps hw',if_neg (by simp)];refine⟨fun f hf=>DV (by rw[hN];exact hs) w _ f hf (fun _=>rfl),?_⟩;have h0:Rep g (.tup []) undef:=⟨[],rfl,rfl⟩;exact h g w _ r hr (hs'.put (o:=⟨some t,op,ty,pos,after,some (j,want)⟩) (.refl g) hs'.sim h0 htn)
theorem GG{N:Nat}(hN:P.funcs.size=N){j:Nat}{want:Bool}{k:Nat}(hk:(ops[j]?).bind (·.dst)=some k)(hb:γ.lookup k=some (.bool (!want)))(hs:Ct N op=true)
  (h:DOps P ro n ops Q rest ⟨γ,V,df⟩):DOps P ro n ops Q (⟨none,op,ty,pos,after,some (j,want)⟩::rest) ⟨γ,V,df⟩:=by
 intro g w a r hr hs';have hw':AB ops γ ⟨none,op,ty,pos,after,some (j,want)⟩=some false:=by simp only[AB,BB hk hb];simp
 unfold wpListIn;rw[Az hs'.tmps hw',if_neg (by simp)];refine⟨fun f hf=>DV (by rw[hN];exact hs) w _ f hf (fun _=>rfl),?_⟩;have h0:Rep g (.tup []) undef:=⟨[],rfl,rfl⟩;exact h g w _ r hr (hs'.put (o:=⟨none,op,ty,pos,after,some (j,want)⟩) (.refl g) hs'.sim h0 rfl)
theorem GF{N:Nat}(hN:P.funcs.size=N){j:Nat}{want:Bool}{k:Nat}(hk:(ops[j]?).bind (·.dst)=some k)(hb:γ.lookup k=some (.tup []))(hs:Ct N op=true)(htn:decide (t<n)=true)
  (h:DOps P ro n ops Q rest ⟨(t,.tup [])::γ,V,df⟩):DOps P ro n ops Q (⟨some t,op,ty,pos,after,some (j,want)⟩::rest) ⟨γ,V,df⟩:=by
 intro g w a r hr hs';have hw':AB ops γ ⟨some t,op,ty,pos,after,some (j,want)⟩=some false:=by exact TM hk hb
 unfold wpListIn;rw[Az hs'.tmps hw',if_neg (by simp)];refine⟨fun f hf=>DV (by rw[hN];exact hs) w _ f hf (fun _=>rfl),?_⟩;have h0:Rep g (.tup []) undef:=⟨[],rfl,rfl⟩;exact h g w _ r hr (hs'.put (o:=⟨some t,op,ty,pos,after,some (j,want)⟩) (.refl g) hs'.sim h0 htn)
theorem FC{N:Nat}(hN:P.funcs.size=N){j:Nat}{want:Bool}{k:Nat}(hk:(ops[j]?).bind (·.dst)=some k)(hb:γ.lookup k=some (.tup []))(hs:Ct N op=true)
  (h:DOps P ro n ops Q rest ⟨γ,V,df⟩):DOps P ro n ops Q (⟨none,op,ty,pos,after,some (j,want)⟩::rest) ⟨γ,V,df⟩:=by
 intro g w a r hr hs';have hw':AB ops γ ⟨none,op,ty,pos,after,some (j,want)⟩=some false:=by exact TM hk hb
 unfold wpListIn;rw[Az hs'.tmps hw',if_neg (by simp)];refine⟨fun f hf=>DV (by rw[hN];exact hs) w _ f hf (fun _=>rfl),?_⟩;have h0:Rep g (.tup []) undef:=⟨[],rfl,rfl⟩;exact h g w _ r hr (hs'.put (o:=⟨none,op,ty,pos,after,some (j,want)⟩) (.refl g) hs'.sim h0 rfl)
theorem Bz{t:Nat}{d:D}(h:WkD (getD γ t) d):Wk P n ⟨γ,V,df⟩ ⟨(t,d)::γ,V,df⟩:=
 fun g w a hs=>⟨g,.refl g,⟨hs.sim,⟨hs.tmps.1,fun k=>by
  rw[A8]
  by_cases hk:k=t
  ·subst hk;rw[if_pos rfl];exact h g _ (hs.tmps.2 k)
  ·rw[if_neg hk];exact hs.tmps.2 k⟩,hs.df⟩⟩
theorem Pw{dst:Option Tmp}{j:Nat}{want b:Bool}{k:Nat}(hk:(ops[j]?).bind (·.dst)=some k)(hb:γ.lookup k=some (.bool b))
  (h1:b=true->DOps P ro n ops Q (⟨dst,op,ty,pos,after,some (j,want)⟩::rest) ⟨(k,.bool true)::γ,V,df⟩) (h2:b=false->DOps P ro n ops Q (⟨dst,op,ty,pos,after,some (j,want)⟩::rest) ⟨(k,.bool false)::γ,V,df⟩):DOps P ro n ops Q (⟨dst,op,ty,pos,after,some (j,want)⟩::rest) ⟨γ,V,df⟩:=by
 cases b with
 |true=>exact BX (Bz (by rw[Au hb];exact A7 _)) (h1 rfl)
 |false=>exact BX (Bz (by rw[Au hb];exact A7 _)) (h2 rfl)
theorem KF{tab:Nat->Ty}(ht:B8 P tab)(hl:A4 γ (A6 op.operands.toList)=some Sr)(he:eopD tab Sr V op=some (d,S'))(htn:decide (t<n)=true)
  (h:DOps P ro n ops Q rest ⟨(t,d)::γ,S',df⟩):DOps P ro n ops Q (⟨some t,op,ty,pos,after,none⟩::rest) ⟨γ,V,df⟩:=
 Gu (o:=⟨some t,op,ty,pos,after,none⟩) ht rfl ((BU (Cq hl)) ▸ he) htn h
theorem I0{tab:Nat->Ty}(ht:B8 P tab)(hl:A4 γ (A6 op.operands.toList)=some Sr)(he:eopD tab Sr V op=some (d,S'))
  (h:DOps P ro n ops Q rest ⟨γ,S',df⟩):DOps P ro n ops Q (⟨none,op,ty,pos,after,none⟩::rest) ⟨γ,V,df⟩:=
 Gu (o:=⟨none,op,ty,pos,after,none⟩) ht rfl ((BU (Cq hl)) ▸ he) rfl h
theorem TQ{tab:Nat->Ty}(ht:B8 P tab)(vars:List Nat){T T' ty':Nat}{x:Operand}{pos':String}{after':Array Edge}{cs:List D}(hv:vars.contains t=false)(hT:T'=T)(htn:decide (t<n)=true)(hx:Ek t x=true)(ho:A5 (tab T).k=false)
  (hl:A4 γ (A6 [x])=some Sr) (he:ev Sr x=d) (htold:d.told=true) (hc:d.cells=cs) (hlen:cs.length=(tab T).size) (hflat:Cp cs=true)
  (h:DOps P ro n ops Q rest ⟨(t,.cptr cs 0)::γ,V,df⟩) :
  DOps P ro n ops Q (⟨some t,.alloc T,ty,pos,after,none⟩::⟨none,.store T' (.tmp t) x,ty',pos',after',none⟩::rest) ⟨γ,V,df⟩:=by
 rw[Bu hl]at he;subst he;subst hT;subst hc;exact NU ht ho (by simpa using htn) (G8 ht hx) htold hlen hflat h
theorem Gs{id:Nat}{l:List Oper}(h:DOps P ro n l.toArray Q l ⟨γ,V,df⟩):DWp P ro n (.region id l.toArray false) Q ⟨γ,V,df⟩:=Qq h
theorem Ly{c:Operand}{x y:Code}{b:Bool}{Sr:Fr}(hl:A4 γ (A6 [c])=some Sr)(hc:ev Sr c=.bool b)(ht:b=true->DWp P ro n x Q ⟨γ,V,df⟩)(hf:b=false->DWp P ro n y Q ⟨γ,V,df⟩):
  DWp P ro n (.cond c x y) Q ⟨γ,V,df⟩:=Pe (s:=⟨γ,V,df⟩) (by rw[<-Bu hl];exact hc) ht hf
theorem GK{c:Operand}{x y:Code}{Sr:Fr}(hl:A4 γ (A6 [c])=some Sr)(hc:ev Sr c=.bool true)(h:DWp P ro n x Q ⟨γ,V,df⟩):
  DWp P ro n (.cond c x y) Q ⟨γ,V,df⟩:=Ly hl hc (fun _=>h) (fun e=>by cases e)
theorem GM{c:Operand}{x y:Code}{Sr:Fr}(hl:A4 γ (A6 [c])=some Sr)(hc:ev Sr c=.bool false)(h:DWp P ro n y Q ⟨γ,V,df⟩):
  DWp P ro n (.cond c x y) Q ⟨γ,V,df⟩:=Ly hl hc (fun e=>by cases e) (fun _=>h)
theorem Ex{fop:Operand}{args:Array Operand}{ats:Array TypeId}{f:Nat}{first cap us bs:List D}{R:DE->Sig->Prop}{dst:Option Tmp}
  (hl:A4 γ (A6 (fop::args.toList))=some Sr) (hf:ev Sr fop=.func (.func f) first cap) (ha:first++args.toList.map (ev Sr)++cap=us) (hw:bs=us\/bs=us.map D.plain) (h:DCall P f bs V R)
  (ho:As n ⟨dst,(cv fop args ats),ty,pos,after,none⟩=true)
  (hret:∀d S',R (.ret d) S'->DOps P ro n ops Q rest ⟨putD dst d γ,S',df⟩)
  (hpan:∀d S',R (.panic d) S'->Q (.panic d) ⟨γ,S',df⟩) :
  DOps P ro n ops Q (⟨dst,(cv fop args ats),ty,pos,after,none⟩::rest) ⟨γ,V,df⟩:=by
 have hx:∀x∈fop::args.toList,ev Sr x=ev γ x:=fun x hx=>Bv fun t ht=>AD hl t (AU (by rw[<-ht];exact hx))
 refine Fh (az:=bs) rfl (by rw[<-hx fop (by simp)];exact hf) h ?_ ho hret hpan;rw[show args.toList.map (ev γ)=args.toList.map (ev Sr) from List.map_congr_left fun x h=>(hx x (by simp[h])).symm,ha];rcases hw with rfl|rfl
 ·exact Dn _
 ·exact Eu _
theorem F2{fop:Operand}{args:Array Operand}{ats:Array TypeId}{f:Nat}{first cap us bs:List D}{d:D}
  (hl:A4 γ (A6 (fop::args.toList))=some Sr) (hf:ev Sr fop=.func (.func f) first cap) (ha:first++args.toList.map (ev Sr)++cap=us) (hw:bs=us\/bs=us.map D.plain) (h:DCall P f bs V (rS d V))
  (htn:decide (t<n)=true) (k:DOps P ro n ops Q rest ⟨(t,d)::γ,V,df⟩) :
  DOps P ro n ops Q (⟨some t,(cv fop args ats),ty,pos,after,none⟩::rest) ⟨γ,V,df⟩:=
 Ex hl hf ha hw h htn (fun d' S' ⟨e1,e2⟩=>by cases e1;subst e2;exact k) (fun d' S' ⟨e1,e2⟩=>by cases e1)
theorem Px{fop:Operand}{args:Array Operand}{ats:Array TypeId}{f:Nat}{first cap us bs:List D}{R:DE->Sig->Prop}{dst:Option Tmp}{j:Nat}{want:Bool}{k:Nat}(hk:(ops[j]?).bind (·.dst)=some k)(hb:γ.lookup k=some (.bool want))
  (hl:A4 γ (A6 (fop::args.toList))=some Sr) (hf:ev Sr fop=.func (.func f) first cap) (ha:first++args.toList.map (ev Sr)++cap=us) (hw:bs=us\/bs=us.map D.plain) (h:DCall P f bs V R)
  (ho:As n ⟨dst,(cv fop args ats),ty,pos,after,some (j,want)⟩=true)
  (hret:∀d S',R (.ret d) S'->DOps P ro n ops Q rest ⟨putD dst d γ,S',df⟩)
  (hpan:∀d S',R (.panic d) S'->Q (.panic d) ⟨γ,S',df⟩) :
  DOps P ro n ops Q (⟨dst,(cv fop args ats),ty,pos,after,some (j,want)⟩::rest) ⟨γ,V,df⟩:=by
 have hx:∀x∈fop::args.toList,ev Sr x=ev γ x:=fun x hx=>Bv fun t ht=>AD hl t (AU (by rw[<-ht];exact hx))
 refine Fh (az:=bs) (by simp only[AB,BB hk hb];simp) (by rw[<-hx fop (by simp)];exact hf) h ?_ ho hret hpan;rw[show args.toList.map (ev γ)=args.toList.map (ev Sr) from List.map_congr_left fun x h=>(hx x (by simp[h])).symm,ha];rcases hw with rfl|rfl
 ·exact Dn _
 ·exact Eu _
theorem DY{fop:Operand}{args:Array Operand}{ats:Array TypeId}{f:Nat}{first cap us bs:List D}{d:D}{j:Nat}{want:Bool}{k:Nat}(hk:(ops[j]?).bind (·.dst)=some k)(hb:γ.lookup k=some (.bool want))
  (hl:A4 γ (A6 (fop::args.toList))=some Sr) (hf:ev Sr fop=.func (.func f) first cap) (ha:first++args.toList.map (ev Sr)++cap=us) (hw:bs=us\/bs=us.map D.plain) (h:DCall P f bs V (rS d V))
  (htn:decide (t<n)=true) (kk:DOps P ro n ops Q rest ⟨(t,d)::γ,V,df⟩) :
  DOps P ro n ops Q (⟨some t,(cv fop args ats),ty,pos,after,some (j,want)⟩::rest) ⟨γ,V,df⟩:=
 Px hk hb hl hf ha hw h htn (fun d' S' ⟨e1,e2⟩=>by cases e1;subst e2;exact kk) (fun d' S' ⟨e1,e2⟩=>by cases e1)
end
@[simp] theorem nat_eq_int(a b:Nat):((a:Int)=(b:Int))=(a=b):=propext Int.ofNat_inj
@[simp] theorem Rd(a:Nat):((a+1:Nat):Int)=(a:Int)+1:=rfl
def Dg(γ:Fr):List Nat->Option Fr
 |[]=>some []
 | t::ts=>match γ.lookup t with
  |some d=>match Dg γ ts with
   |some r=>some ((t,d)::r)
   |none=>none
  |none=>Dg γ ts
def TellsR(γ:Fr):Fr->Prop
 |[]=>True
 |p::r=>WkD (getD γ p.1) p.2/\TellsR γ r
theorem TellsR.get{γ:Fr}: ∀{U':Fr},TellsR γ U'->∀t,WkD (getD γ t) (getD U' t)
 |[],_,t=>Dv _
 |p::r,h,t=>by
  rw[show p::r=(p.1,p.2)::r from rfl,A8]
  by_cases ht:t=p.1
  ·rw[if_pos ht,ht];exact h.1
  ·rw[if_neg ht];exact TellsR.get h.2 t
theorem FV{γ:Fr}:TellsR γ []:=trivial
theorem F0{γ r:Fr}{t:Nat}{d d':D}(hl:γ.lookup t=some d')(h:WkD d' d)(k:TellsR γ r):TellsR γ ((t,d)::r):=⟨by rw[Au hl];exact h,k⟩
theorem FW{γ a b:Fr}(h:TellsR γ a)(k:TellsR γ b):TellsR γ (a++b):=by
 induction a with
 |nil=>exact k
 |cons p a ih=>exact⟨h.1,ih h.2⟩
theorem Ky{P:Program}{n:Nat}{γ U':Fr}{V S':Sig}{df:List DDf}(h:TellsR γ U')(hU:Sub S' V):Wk P n ⟨γ,V,df⟩ ⟨U',S',df⟩:=
 fun g w a hs=>⟨g,.refl g,⟨hs.sim.sub hU,⟨hs.tmps.1,fun t=>h.get t g _ (hs.tmps.2 t)⟩,hs.df⟩⟩
theorem BY{V S':Sig}(h:S'=V):Sub S' V:=h ▸ Sub.refl _
theorem EU{P:Program}{ro:Option Nat}{n:Nat}{Q:DX->St->Prop}{df:List DDf}{γ Sk:Fr}{V:Sig}{α:Type}{c:Code}(keep:List Nat)(I:α->Prop)(ov:α->Fr)(sg:α->Sig)(μ:α->Nat)(x0:α)(hk:Dg γ keep=some Sk)(h0:I x0)(h1:TellsR γ (ov x0++Sk))(h2:Sub (sg x0) V)
  (round:∀x,I x->DWp P ro n c (Then (fun s'=> ∃x',I x'/\μ x'<μ x/\Wk P n s' ⟨ov x'++Sk,sg x',df⟩) Q) ⟨ov x++Sk,sg x,df⟩):DWp P ro n (.loop c) Q ⟨γ,V,df⟩:=by
 refine Pd (fun x:{x // I x}=>⟨ov x.1++Sk,sg x.1,df⟩) (fun x=>μ x.1) ⟨x0,h0⟩ (Ky h1 h2) fun x=>Ff (round x.1 x.2) ?_;intro e s h;cases e with
 |normal=>obtain⟨x',h3,h4,h5⟩:=h;exact⟨⟨x',h3⟩,h4,h5⟩
 |_=>exact h
theorem Qs{P:Program}{ro:Option Nat}{n:Nat}{Q:DX->St->Prop}{df:List DDf}{γ Sk:Fr}{V:Sig}{α β:Type}{c:Code}(keep:List Nat)(I:α->β->Prop)(ov:α->β->Fr)(sg:α->β->Sig)(μ:α->β->Nat)(x0:α)(y0:β)(hk:Dg γ keep=some Sk)(h0:I x0 y0)(h1:TellsR γ (ov x0 y0++Sk))(h2:Sub (sg x0 y0) V)
  (round:∀x y,I x y->DWp P ro n c (Then (fun s'=> ∃x' y',I x' y'/\μ x' y'<μ x y/\Wk P n s' ⟨ov x' y'++Sk,sg x' y',df⟩) Q) ⟨ov x y++Sk,sg x y,df⟩):DWp P ro n (.loop c) Q ⟨γ,V,df⟩:=by
 refine EU (α:=α×β) keep (fun x=>I x.1 x.2) (fun x=>ov x.1 x.2) (fun x=>sg x.1 x.2) (fun x=>μ x.1 x.2) (x0,y0) hk h0 h1 h2 fun x hx=>Ff (round x.1 x.2 hx) ?_;intro e s h;cases e with
 |normal=>obtain⟨x',y',h3,h4,h5⟩:=h;exact⟨(x',y'),h3,h4,h5⟩
 |_=>exact h
theorem Qr{P:Program}{ro:Option Nat}{n:Nat}{Q:DX->St->Prop}{df:List DDf}{γ Sk:Fr}{V:Sig}{α β δ:Type}{c:Code}(keep:List Nat)(I:α->β->δ->Prop)(ov:α->β->δ->Fr)(sg:α->β->δ->Sig)(μ:α->β->δ->Nat)(x0:α)(y0:β)(z0:δ)(hk:Dg γ keep=some Sk)(h0:I x0 y0 z0)(h1:TellsR γ (ov x0 y0 z0++Sk))(h2:Sub (sg x0 y0 z0) V)
  (round:∀x y z,I x y z->DWp P ro n c (Then (fun s'=> ∃x' y' z',I x' y' z'/\μ x' y' z'<μ x y z/\Wk P n s' ⟨ov x' y' z'++Sk,sg x' y' z',df⟩) Q) ⟨ov x y z++Sk,sg x y z,df⟩):DWp P ro n (.loop c) Q ⟨γ,V,df⟩:=by
 refine EU (α:=α×β×δ) keep (fun x=>I x.1 x.2.1 x.2.2) (fun x=>ov x.1 x.2.1 x.2.2) (fun x=>sg x.1 x.2.1 x.2.2) (fun x=>μ x.1 x.2.1 x.2.2) (x0,y0,z0) hk h0 h1 h2 fun x hx=>Ff (round x.1 x.2.1 x.2.2 hx) ?_;intro e s h;cases e with
 |normal=>obtain⟨x',y',z',h3,h4,h5⟩:=h;exact⟨(x',y',z'),h3,h4,h5⟩
 |_=>exact h
section
variable (tab:Nat->Ty)(γ:List (Nat×D))(V:Sig)(T T' m f:Nat)(x y z:Operand)(c:Bool)
@[simp] theorem dopX_move:dopX tab γ V (.move x)=some (ev γ x):=rfl
@[simp] theorem dopX_assign:dopX tab γ V (.assign x)=some (ev γ x):=rfl
@[simp] theorem dopX_pick:dopX tab γ V (.pick x y z)=Nv (ev γ x) (ev γ y) (ev γ z):=by unfold dopX;simp only[dop,dop2];cases Nv (ev γ x) (ev γ y) (ev γ z)<;>rfl
@[simp] theorem dopX_box:dopX tab γ V (.box T x)=boxD (ev γ x):=by unfold dopX;simp only[dop,dop2];cases boxD (ev γ x)<;>rfl
@[simp] theorem dopX_load:dopX tab γ V (.load T x)=Je (tab T) V (ev γ x):=by unfold dopX;simp only[dop,dop2];cases Je (tab T) V (ev γ x)<;>rfl
@[simp] theorem dopX_nil:dopX tab γ V (.nilCheck x)=nilD (ev γ x):=by unfold dopX;simp only[dop,dop2];cases nilD (ev γ x)<;>rfl
@[simp] theorem dopX_bin(o:BinOp):dopX tab γ V (.binOp o T x y T')=binD o (ev γ x) (ev γ y):=by unfold dopX;simp only[dop,dop2];cases binD o (ev γ x) (ev γ y)<;>rfl
@[simp] theorem dopX_un(o:UnOp):dopX tab γ V (.unOp o T x)=unD o (ev γ x):=by unfold dopX;simp only[dop,dop2];cases unD o (ev γ x)<;>rfl
@[simp] theorem dopX_conv:dopX tab γ V (.convert T T' x)=TA (A5 (tab T).k) (tab T').k (ev γ x):=by unfold dopX;simp only[dop,dop2];cases TA (A5 (tab T).k) (tab T').k (ev γ x)<;>rfl
@[simp] theorem dopX_mkif:dopX tab γ V (.makeInterface T x)=Rl (tab T) T (ev γ x):=by unfold dopX;simp only[dop,dop2];cases Rl (tab T) T (ev γ x)<;>rfl
@[simp] theorem dopX_mkfn(fn:Fn)(a b:Array Operand):dopX tab γ V (.makeFunc fn a b)=some (.func fn (a.toList.map (ev γ)) (b.toList.map (ev γ))):=rfl
@[simp] theorem dopX_fa:dopX tab γ V (.fieldAddr T x f)=D9 tab f (ev γ x) (tab T).k:=by unfold dopX;simp only[dop,dop2];cases D9 tab f (ev γ x) (tab T).k<;>rfl
@[simp] theorem dopX_ia:dopX tab γ V (.indexAddr T x y)=Cf tab (tab T).k (ev γ x) (ev γ y):=by unfold dopX;simp only[dop,dop2];cases Cf tab (tab T).k (ev γ x) (ev γ y)<;>rfl
@[simp] theorem dopX_ex:dopX tab γ V (.extract x f)=Gq f (ev γ x):=by unfold dopX;simp only[dop,dop2];cases Gq f (ev γ x)<;>rfl
@[simp] theorem dopX_bs(ps:Array (Nat×Operand)):dopX tab γ V (.buildSlice T m ps)=H4 tab γ m ps.toList (tab T).k:=by unfold dopX;simp only[dop,dop2];cases H4 tab γ m ps.toList (tab T).k<;>rfl
@[simp] theorem dopX_sl(a b d:Option Operand):dopX tab γ V (.slice T x a b d)=I3 tab (tab T).k (ev γ x) (a.map (ev γ)) (b.map (ev γ)) (d.map (ev γ)):=rfl
@[simp] theorem dopX_lk:dopX tab γ V (.lookup T x y c)=FH tab V c (tab T).k (ev γ x) (ev γ y):=rfl
@[simp] theorem dopX_ta:dopX tab γ V (.typeAssert x T T' c)=Ja tab T' c (ev γ x):=rfl
@[simp] theorem dopX_bd(ps:Array (Nat×Operand)):dopX tab γ V (.build T ps)=N3 tab T (ps.toList.map fun p=>(p.1,ev γ p.2)) (tab T).k:=rfl
@[simp] theorem dopX_len (xs:Array Operand) (ts:Array TypeId):dopX tab γ V (.call { callee := .builtin .len,args:=xs,argTypes:=ts })=match lenC tab γ ts.toList xs.toList with
  |some d=>some d
  |none=>GS tab γ V ts.toList xs.toList:=rfl
@[simp] theorem dopX_max(ts:Array TypeId):dopX tab γ V (.call { callee:=.builtin .max,args:= #[x,y],argTypes:=ts })=LN true (ev γ x) (ev γ y):=rfl
@[simp] theorem dopX_min(ts:Array TypeId):dopX tab γ V (.call { callee:=.builtin .min,args:= #[x,y],argTypes:=ts })=LN false (ev γ x) (ev γ y):=rfl
@[simp] theorem eopD_store:eopD tab γ V (.store T x y)=Og tab V T (ev γ x) (ev γ y):=rfl
@[simp] theorem eopD_upd:eopD tab γ V (.mapUpdate T x y z)=updD tab V (tab T).k (ev γ x) (ev γ y) (ev γ z):=rfl
@[simp] theorem eopD_ins:eopD tab γ V (.insert T x y z)=updD tab V (tab T).k (ev γ x) (ev γ y) (ev γ z):=rfl
@[simp] theorem eopD_app(ts:Array TypeId):eopD tab γ V (.call { callee:=.builtin .append,args:= #[x,y],argTypes:=ts })=appD tab V ts.toList (ev γ x) (ev γ y):=rfl
end
end Go.DL
