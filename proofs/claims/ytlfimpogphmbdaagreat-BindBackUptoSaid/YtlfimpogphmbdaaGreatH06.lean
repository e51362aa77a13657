/- A part of the proof. -/
import Derived.Test.YtlfimpogphmbdaaGreatH05
set_option linter.all false
namespace Go.DL
open Go
def only(L:fU)(γ:Fr):Fr:=L.map fun t=>(t,getD γ t)
def Id(γ:Fr)(t:Nat): ∀L:fU,getD (only L γ) t=if t∈L then getD γ t else .any
 |[]=>rfl
 |a::L=>by
  have ih:=Id γ t L;unfold only at ih⊢;rw[bg,Aa]
  by_cases h:t=a
  ·subst h;simp
  ·simp only[h,bl,ih,be,false_or]
def Oi{g:G}{γ:Fr}{n:Nat}{tmps:Array Value}(L:fU)(h:lF g γ n tmps):lF g (only L γ) n tmps:=
 ⟨h.1,fun t=>by
  rw[Id]
  by_cases ht:t∈L
  ·rw[aS ht];exact h.2 t
  ·rw[aQ ht];trivial⟩
def LL{L:fU}{γ V':Fr}(h:∀t∈L,getD γ t=getD V' t):only L γ=only L V':=
 bF fun t ht=>by rw[h t ht]
def Cw{γ:Fr}{ops:Array Oper}{o:Oper}{x:Operand}(h:x∈o.op.operands):ev (only (o.looksAt ops) γ) x=ev γ x:=by
 cases x with
 |tmp t=>simp only[ev,Id];rw[aS (HZ h)]
 |_=>rfl
def Bg{γ:Fr}{ops:Array Oper}{o:Oper}:AY ops (only (o.looksAt ops) γ) o=AY ops γ o:=
 JR fun t ht=>by rw[Id,aS ht]
section mono
variable {tab:Nat->Ty}{V U':Sig}(h:Sub V U'){γ:List (Nat×D)}
include h
theorem Ij{x:D}{l:List (D×D)}(e:CQ V x=some l):CQ U' x=some l:=by
 unfold CQ at e⊢;split at e
 ·exact e
 ·exact e
 ·rename_i id;split at e<;>(try (cases e;done));rename_i l' hi;rw[h _ _ hi];exact e
 ·cases e
theorem loadT_mono{ty:Ty}{x d:D}(e:Lm ty V x=some d):Lm ty U' x=some d:=by
 unfold Lm at e⊢;split at e
 ·cases e
 ·rename_i hk;rw[aQ hk];unfold Ln at e⊢;split at e
  ·exact e
  ·rename_i id off;cases hi:V id with
   |none=>simp[hi,Em]at e
   |some ob=>rw[h _ _ hi,<-hi];exact e
  ·cases e
theorem Zt{op:Op}{d:D}(e:dop tab γ V op=some d):dop tab γ U' op=some d:=by
 cases op<;>first|exact e|(simp only[dop]at e⊢; exact loadT_mono h e)|skip
 case call c=>
  obtain⟨callee,args,ats⟩:=c;cases callee<;>try exact e
  rename_i b;cases b<;>exact e
theorem Xq{op:Op}{d:D}(e:lk tab γ V op=some d):lk tab γ U' op=some d:=by
 cases op<;>first|exact e|skip
 case lookup t x k ok=>
  simp only[lk]at e⊢;unfold Hr at e⊢;split at e<;>(try (cases e;done));rename_i kt et hk;split at e<;>(try (cases e;done));rename_i hc;rw[aQ hc];split at e<;>(try (cases e;done));rename_i l hl;rw[Ij h hl];exact e
 case call c=>
  simp only[lk]at e⊢;unfold H0 at e⊢;split at e<;>(try (exact e))<;>(try (cases e;done));unfold IP at e⊢;split at e<;>(try (cases e;done));rename_i _ _ x _ _;split at e<;>(try (cases e;done));cases hl:CQ V (ev γ x)with
  |none=>rw[hl]at e;cases e
  |some l=>rw[hl]at e;rw[Ij h hl];exact e
theorem Io{op:Op}{d:D}(e:kT tab γ V op=some d):kT tab γ U' op=some d:=by
 have key:dop tab γ V op=none->dop tab γ U' op=none\/lk tab γ V op=none:=by
  intro hn;cases op<;>first|exact .inl hn|exact .inr rfl|skip
  case call c=>
   obtain⟨callee,args,ats⟩:=c;cases callee<;>first|exact .inl hn|skip
   rename_i b;cases b<;>exact .inl hn
 unfold kT at e⊢;split at e
 ·rename_i d' hd;rw[Zt h hd];exact e
 ·rename_i hd;rcases key hd with hc|hc
  ·rw[hc];exact Xq h e
  ·rw[hc]at e;cases e
end mono
section
variable (P:Program)(ro:Option Nat)(n:Nat)(ops:Array Oper)(N:Nat)(S0:Sig)(Q:DX->St->Prop)(df:List DDf)
def EQ(dst:Option Tmp)(R Rp:D->Sig->Prop):DX->St->Prop
 |.normal,s=>s.df=df/\R (match dst with|some t=>getD s.γ t|none=>.any) s.V
 |.panic d,s=>s.df=df/\Rp d s.V
 |_,_=>False
structure Calm(γ:Fr)(o:Oper)(d:D):Prop where
 ok:AJ n o=true
 run:(AY ops (only (o.looksAt ops) γ) o=some true/\(∀c,o.op≠.defer c)/\(∀(w:World) (ρ:Operand->Value) f,o.about P w ρ=some f->False) /\
   ∀V,Sub S0 V->∀g w (a:Act),Sim P g V w->lF g (only (o.looksAt ops) γ) n a.tmps->ORun P g V d (execOp a.eval o) w) \/
  (AY ops (only (o.looksAt ops) γ) o=some false/\ED N o.op=true/\(d=.any\/d=.tup [])) \/
  (AY ops (only (o.looksAt ops) γ) o=some true /\ ∀V,Sub S0 V->∀ro df,aC P ro n ops (EQ df o.dst (fun d' U'=>d'=d/\Sub V U') fun _ _=>False) [o] ⟨only (o.looksAt ops) γ,V,df⟩)
structure Eff(γ:Fr)(V:Sig)(o:Oper)(R Rp:D->Sig->Prop):Prop where
 ok:AJ n o=true
 want:AY ops (only (o.looksAt ops) γ) o=some true
 run:aC P ro n ops (EQ df o.dst R Rp) [o] ⟨only (o.looksAt ops) γ,V,df⟩
def MOps (E:fU):fU->Fr->Sig->Prop
  |[],γ,V=>aC P ro n ops Q [] ⟨γ,V,df⟩
  | i::r,γ,V => ∃ o,ops[i]? = some o /\
    ((∃ d,Calm P n ops N S0 γ o d/\MOps E r (putD o.dst d γ) V) \/
     (E.contains i=true/\Eff P ro n ops df γ V o (fun d U'=>Sub S0 U'/\MOps E r (putD o.dst d γ) U') (fun d U'=> ∀V',Q (.panic d) ⟨V',U',df⟩)))
end
section
variable {P:Program}{ro:Option Nat}{n:Nat}{ops:Array Oper}{N:Nat}{S0:Sig}{Q:DX->St->Prop}{df:List DDf}{E:fU}
theorem Calm.congr{γ V':Fr}{o:Oper}{d:D}(h:∀t∈o.looksAt ops,getD γ t=getD V' t)(hy:Calm P n ops N S0 γ o d):Calm P n ops N S0 V' o d:=by
 have e:=LL h;exact⟨hy.ok,by rw[<-e];exact hy.run⟩
theorem CC {Q':DX->St->Prop} (hq : ∀ x s,Q x s->Q' x s) {g:G} {r:Option Nat} : ∀ (l:List Oper) {a:Act} {w:World},wpListIn (FX P r) 0 P ops (lQ P g n Q) l a w->wpListIn (FX P r) 0 P ops (lQ P g n Q') l a w
  |[],_,_,⟨g',s',x,h1,h2,h3,h4⟩=>⟨g',s',x,h1,h2,h3,hq _ _ h4⟩
  | o::l,a,w,h=>by
    have pq:∀{e a w},lQ P g n Q e a w->lQ P g n Q' e a w:=fun ⟨g',s',x,h1,h2,h3,h4⟩=>⟨g',s',x,h1,h2,h3,hq _ _ h4⟩;unfold wpListIn at h⊢;split
    · rename_i hw
      rw[aS hw]at h;refine⟨h.1,?_⟩;have h2:=h.2;revert h2;generalize (o.semAt (FX P r).round a.eval).run P w=res;cases res with
      | ok nx w' =>
        cases nx<;>simp only[Oper.uponIn]<;>first
          |exact fun h=>CC hq l h
          | (rintro ⟨h1,h2⟩
             refine⟨h1,?_⟩
             first
               | (refine h2.mono ?_
                  intro e w'' he
                  cases e<;>first
                    |exact CC hq l he
                    |exact pq he
                    |(obtain⟨a0,w0,he⟩:=he;exact⟨a0,w0,pq he⟩))
               | (refine h2.mono ?_
                  intro v w'' he
                  exact CC hq l he))
          |exact fun h=>h
      |halt x w'=>cases x<;>simp only[Oper.uponIn]<;>first|exact fun h=>pq h|exact fun h=>h
    · rename_i hw
      rw[aQ hw]at h;exact⟨h.1,CC hq l h.2⟩
theorem Xn{l:List Oper}{s:St}{Q':DX->St->Prop}(h:aC P ro n ops Q l s)(hq:∀x s,Q x s->Q' x s):aC P ro n ops Q' l s:=
 fun g w a r hr hs=>CC hq l (h g w a r hr hs)
theorem Eff.congr{γ V':Fr}{V:Sig}{o:Oper}{R R' Rp:D->Sig->Prop}(h:∀t∈o.looksAt ops,getD γ t=getD V' t)(hy:Eff P ro n ops df γ V o R Rp)(hR:∀d U',R d U'->R' d U'):Eff P ro n ops df V' V o R' Rp:=by
 have e:=LL h;refine⟨hy.ok,by rw[<-e];exact hy.want,?_⟩;rw[<-e];refine Xn hy.run fun x s hx=>?_;cases x with
 |normal=>exact⟨hx.1,hR _ _ hx.2⟩
 |panic d=>exact hx
 |_=>exact hx
theorem MOps.alike: ∀(l:fU) {γ V':Fr}{V:Sig},lY γ V'->MOps P ro n ops N S0 Q df E l γ V->MOps P ro n ops N S0 Q df E l V' V
 |[],_,_,_,h,k=>Dj h k
 |i::r,_,_,_,h,⟨o,ho,k⟩=>⟨o,ho,(match k with
  |.inl ⟨d,h2,h3⟩=>.inl ⟨d,h2.congr fun t _=>h t,MOps.alike r (h.put _ _) h3⟩
  |.inr ⟨h1,h2⟩=>.inr ⟨h1,h2.congr (fun t _=>h t) fun d U' ⟨h3,h4⟩=>⟨h3,MOps.alike r (h.put _ _) h4⟩⟩)⟩
theorem GM{i:Nat}{oi:Oper}(hi:ops[i]? = some oi)(post:fU): ∀(pre:fU) (γ:Fr) (V:Sig),
  (∀x∈pre,E.contains x=false /\ ∃ox,ops[x]? = some ox/\oi.apart ops ox=true)->MOps P ro n ops N S0 Q df E (pre++i::post) γ V->MOps P ro n ops N S0 Q df E (i::(pre++post)) γ V
 |[],_,_,_,h=>h
 | x::pre,γ,V,hp,h=>by
  obtain⟨gQ,ox,go,iv⟩:=hp x k7;obtain⟨a1,a2,a3⟩:=Oper.apart_spec iv;obtain⟨ox',gk,hx⟩:=h;obtain rfl:ox'=ox:=by rw[go]at gk;cases gk;rfl
  rcases hx with⟨d,hy,h⟩|⟨hE,_⟩
  ·obtain⟨oi',gr,hh⟩:=GM hi post pre _ V (fun y hy=>hp y (by simp[hy])) h;obtain rfl:oi'=oi:=by rw[hi]at gr;cases gr;rfl
   refine⟨oi',hi,?_⟩;rcases hh with⟨e,h2,h3⟩|⟨h1,h2⟩
   ·refine .inl ⟨e,h2.congr fun t ht=>AR fun hd=>a3 t hd ht,ox',go,.inl ⟨d,hy.congr fun t ht=>(AR fun hd=>a1 t hd ht).symm,?_⟩⟩;exact MOps.alike _ (BP _ _ _ fun t p q=>a2 t p q) h3
   ·refine .inr ⟨h1,h2.congr (fun t ht=>AR fun hd=>a3 t hd ht) fun e U' ⟨h3,h4⟩=>⟨h3,ox',go,.inl ⟨d,hy.congr fun t ht=>(AR fun hd=>a1 t hd ht).symm,?_⟩⟩⟩;exact MOps.alike _ (BP _ _ _ fun t p q=>a2 t p q) h4
  ·rw[gQ]at hE;cases hE
def mixB(ops:Array Oper)(E:fU):fU->fU->Bool
 |_,[]=>true
 | done,i::r => !done.contains i && (match ops[i]? with
  |some o=>(o.after.all fun e=> !Region.binds .any e||done.contains e.on)&&done.all fun x=>(!E.contains x&&match ops[x]? with
   |some ox=>o.apart ops ox
   |none=>false)||F3 ops ops.size i x
  |none=>false)&&mixB ops E (i::done) r
theorem EP{i:Nat}{l2:fU}: ∀(l1 done:fU),mixB ops E done (l1++i::l2)=true->i∉l1/\i∉done/\i∉l2 /\ ∃o,ops[i]? = some o/\(∀e∈o.after,Region.binds .any e=true->e.on∈l1\/e.on∈done) /\
   ∀x,x∈l1->F3 ops ops.size i x=true\/(E.contains x=false /\ ∃ox,ops[x]? = some ox/\o.apart ops ox=true)
 | [],done,h=>by
  simp only[bG,mixB,aN,bA,cw,bk]at h;obtain⟨⟨h1,h2⟩,h3⟩:=h
  have later:∀(l d:fU),i∈d->mixB ops E d l=true->i∉l:=by
   intro l
   induction l with
   |nil=>intro _ _ _ h;cases h
   |cons y l ih=>
    intro d hd hm d7;simp only[mixB,aN,bA,cw,bk]at hm;obtain⟨⟨m1,_⟩,m3⟩:=hm;rcases be.1 d7 with rfl|d7
    ·exact m1 hd
    ·exact ih (y::d) (by simp[hd]) m3 d7
  refine⟨k7,h1,later l2 _ k7 h3,?_⟩;split at h2
  ·rename_i o ho;simp only[aN]at h2;refine⟨o,ho,fun e he hb=>?_,fun x hx=>by cases hx⟩;have:=cz.1 h2.1 e he;simp only[hb,cQ,dD,cw,aP]at this;exact .inr this
  ·cases h2
 | y::l1,done,h=>by
  simp only[bE,mixB,aN]at h;obtain⟨h1,h2,h3,o,ho,he,hx⟩:=EP l1 (y::done) h.2;have gX:i≠y:=fun e=>h2 (by simp[e])
  refine⟨by simp[gX,h1],fun hd=>h2 (by simp[hd]),h3,o,ho,fun e hm hb=>?_,?_⟩
  ·rcases he e hm hb with h4|h4
   ·exact .inl (by simp[h4])
   ·rcases be.1 h4 with h5|h5
    ·exact .inl (by simp[h5])
    ·exact .inr h5
  ·intro x d7;rcases be.1 d7 with rfl|d7
   ·
    have back:∀(l d:fU),x∈d->mixB ops E d (l++i::l2)=true->F3 ops ops.size i x=true\/(E.contains x=false /\ ∃ox,ops[x]? = some ox/\o.apart ops ox=true):=by
     intro l
     induction l with
     | nil =>
      intro d hd hm;simp only[bG,mixB,aN,ho]at hm;have:=bh.1 hm.1.2.2 x hd;simp only[bV,aN,bA]at this;rcases this.symm with h4|⟨h4,h5⟩
      ·exact .inl h4
      ·refine .inr ⟨h4,?_⟩;split at h5
       ·rename_i ox go;exact⟨ox,go,h5⟩
       ·cases h5
     |cons z l ih=>
      intro d hd hm;simp only[bE,mixB,aN]at hm;exact ih (z::d) (by simp[hd]) hm.2
    exact back l1 _ k7 h.2
   ·exact hx x d7
def FZ(ops:Array Oper)(E ord:fU):Bool:=mixB ops E [] ord&&(List.range ops.size).all ord.contains&&ord.length==ops.size
theorem Dr {K:Act->World->Prop} {g0 g:G} {w:World} {a:Act} {r:Option Nat} {γ:Fr} {V:Sig} {o:Oper} {R Rp:D->Sig->Prop} (hr:lw g ro r) (hg:g0.le g)
    (hs:lP P g n ⟨γ,V,df⟩ a w) (hE:Eff P ro n ops df γ V o R Rp) (hK:∀g' w' a' d U',g.le g'->R d U'->lP P g' n ⟨putD o.dst d γ,U',df⟩ a' w'->K a' w')
    (hp:∀d U',Rp d U'->∀V',Q (.panic d) ⟨V',U',df⟩) :
    (if Region.wanted o (yielded ops a.tmps) then o.wpIn (FX P r) 0 P a w K (lQ P g0 n Q) else(∀f,o.about P w a.eval=some f->(FX P r).fn f)/\K (a.put o.dst undef) w):=by
  have gK:lP P g n ⟨only (o.looksAt ops) γ,V,df⟩ a w:=⟨hs.sim,Oi _ hs.tmps,hs.df⟩;have h:=hE.run g w a r hr gK;have hw:=B0 gK.tmps hE.want;rw[hw,aS rfl];unfold wpListIn at h;rw[hw,aS rfl]at h
  have fin:∀(a':Act) (w':World) (v:Value),a'.tmps=(a.put o.dst v).tmps->wpListIn (FX P r) 0 P ops (lQ P g n (EQ df o.dst R Rp)) [] a' w'->K a' w':=by
    rintro a' w' v hv ⟨g',s',x,l1,l2,l3,l4⟩
    cases x with
    | normal =>
      obtain⟨e1,e2⟩:=l4;refine hK g' w' a' _ s'.V l1 e2 ⟨l2.sim,⟨l2.tmps.1,fun t=>?_⟩,by rw[<-e1];exact l2.df⟩;cases hd:o.dst with
      | none =>
        rw[hd]at hv;simp only[putD,Act.put]at hv⊢;rw[hv];exact Rep.mono l1 _ (hs.tmps.2 t)
      | some k =>
        rw[hd]at hv;simp only[putD,Aa]
        by_cases hk:t=k
        · subst hk;rw[aS rfl];exact l2.tmps.2 t
        · rw [aQ hk,hv]
          simp only[Act.put];rw[show(a.tmps.setIfInBounds k v).getD t undef=a.tmps.getD t undef by simp[cV, dq (aZ hk)]];exact Rep.mono l1 _ (hs.tmps.2 t)
    |ret=>cases l3
    |exit _=>cases l3
    |panic _=>obtain⟨v,l3,_⟩:=l3;cases l3
  have pan:∀(c:List PanicEntry) (w':World),lQ P g n (EQ df o.dst R Rp) (.panic c) a w'->lQ P g0 n Q (.panic c) a w':=by
    rintro c w' ⟨g',s',x,l1,l2,l3,l4⟩
    cases x with
    |normal=>cases l3
    |ret=>cases l3
    |exit _=>cases l3
    |panic d=>exact⟨g',⟨γ,s'.V,df⟩,.panic d,hg.trans l1,⟨l2.sim,hs.tmps.mono l1,by rw[<-l4.1];exact l2.df⟩,l3,hp d _ l4.2 γ⟩
  have lets:LetsOut (lQ P g n (EQ df o.dst R Rp))->LetsOut (lQ P g0 n Q):=by
    rintro⟨a0,w0,g',s',x,l1,l2,l3,l4⟩
    cases x with
    |panic _=>obtain⟨v,l3,_⟩:=l3;cases l3
    |_=>cases l3
  refine⟨h.1,?_⟩;have h2:=h.2;revert h2;generalize (o.semAt (FX P r).round a.eval).run P w=res;cases res with
  | ok nx w' =>
    cases nx<;>simp only[Oper.uponIn]<;>first
      |exact fun h=>fin _ _ _ rfl h
      |exact fun h=>fin _ _ undef (by simp[Act.put];cases o.dst<;>rfl) h
      | (rintro ⟨h1,h2⟩
         refine⟨h1,?_⟩
         first
           | (refine h2.mono ?_
              intro e w'' he
              cases e<;>first
                |exact fin _ _ _ rfl he
                |exact pan _ _ he
                |exact lets he)
           | (refine h2.mono ?_
              intro v w'' he
              exact fin _ _ _ rfl he))
      |exact fun h=>h
  |halt x w'=>cases x<;>simp only[Oper.uponIn]<;>first|exact fun h=>pan _ _ h|exact fun h=>h
theorem Fk(hN:P.funcs.size=N){K:Act->World->Prop}{g0 g:G}{w:World}{a:Act}{r:Option Nat}{γ:Fr}{V:Sig}{o:Oper}{d:D}(hr:lw g ro r)(hg:g0.le g)
  (hs:lP P g n ⟨γ,V,df⟩ a w) (hC:Sub S0 V) (hy:Calm P n ops N S0 γ o d)
  (hK:∀g' w' a',g.le g'->lP P g' n ⟨putD o.dst d γ,V,df⟩ a' w'->K a' w') :
  (if Region.wanted o (yielded ops a.tmps) then o.wpIn (FX P r) 0 P a w K (lQ P g0 n Q) else(∀f,o.about P w a.eval=some f->(FX P r).fn f)/\K (a.put o.dst undef) w):=by
 have hT:=Oi (o.looksAt ops) hs.tmps;rcases hy.run with⟨hw,gU,iy,hd⟩|⟨hw,gS,iq⟩|⟨hw,hd⟩
 ·rw[B0 hT hw,aS rfl];refine⟨fun f hf=>(iy _ _ f hf).elim,?_⟩;obtain⟨g',w',v,h1,h2,h3,h4⟩:=hd V hC g w a hs.sim hT;rw[cW _ _ _ gU,h1];exact hK g' w' _ h2 (hs.put h2 h3 h4 hy.ok)
 ·rw[B0 hT hw,aQ k7];refine⟨fun f hf=>J1 (by rw[hN];exact gS) w _ f hf (fun _=>rfl),?_⟩;have h0:Rep g d undef:=by rcases iq with rfl|rfl;exact trivial;exact⟨[],rfl,rfl⟩
  exact hK g w _ (.refl g) (hs.put (.refl g) hs.sim h0 hy.ok)
 ·exact Dr (Q:=Q) hr hg hs ⟨hy.ok,hw,hd V hC ro df⟩ (fun g' w' a' d' U' gv hR hs'=>by
   obtain⟨rfl,gE⟩:=hR
   exact hK g' w' a' gv ⟨hs'.sim.sub gE,hs'.tmps,hs'.df⟩) (fun _ _ h=>h.elim)
theorem AC{l:fU}{listed:Array Bool}{i:Nat}(h:i∉l):l.filter (fun j=> !(listed.setIfInBounds i true).getD j true)=l.filter fun j=> !listed.getD j true:=
 List.filter_congr fun j hj=>by rw[getD_set_ne true (show i≠j from fun e=>h (by rw[e];exact hj))]
theorem Yp(hN:P.funcs.size=N){ord:fU}(hB:FZ ops E ord=true){g0:G}{rr:Option Nat}(hr:lw g0 ro rr): ∀(m:Nat) (r:fU) (listed:Array Bool) (γ:Fr) (V:Sig),r.length=m->listed.size=ops.size->
  r=ord.filter (fun i=> !listed.getD i true)->lG ops listed->MOps P ro n ops N S0 Q df E r γ V->Sub S0 V->
   ∀(g:G) (w:World) (a:Act),g0.le g->lP P g n ⟨γ,V,df⟩ a w->wpAnyIn (FX P rr) 0 P .any ops (lQ P g0 n Q) m listed a w:=by
 unfold FZ at hB;simp only[aN]at hB;obtain⟨⟨e8,gH⟩,_⟩:=hB
 have d7:∀(r:fU) (listed:Array Bool),r=ord.filter (fun i=> !listed.getD i true)->∀i∈Region.ready .any ops listed,i∈r:=by
  intro r listed hf i hi;obtain⟨h1,o,ho,_⟩:=mem_ready.1 hi;have:=bh.1 gH i (by simpa using(aX.1 ho).1);rw[hf,bR];exact⟨by simpa using this,by rw[h1];rfl⟩
 intro m
 induction m with
 |zero=>
  intro r listed γ V hl gj hf gh h hC g w a hg hs;obtain rfl:r=[]:=bH.1 hl;refine⟨cX.2 fun i hi=>?_,?_⟩
  ·have:=d7 [] listed hf i hi;cases this
  ·exact lQ.le hg (h g w a rr (hr.mono hg) hs)
 | succ m ih =>
  intro r listed γ V hl gj hf gh h hC g w a hg hs;obtain⟨y,t,rfl⟩:∃y t,r=y::t:=by cases r with|nil=>cases hl|cons y t=>exact⟨y,t,rfl⟩
  refine⟨fun he=>?_,fun i hi=>?_⟩
  ·exfalso
   obtain⟨l1,l2,gc,gW,hy,gN⟩:=cj.1 hf.symm;subst gc;obtain⟨h1,_,_,o,ho,gO,_⟩:=EP l1 [] e8
   have:y∈Region.ready .any ops listed:=by
    refine mem_ready.2 ⟨by simpa using hy,o,ho,fun e hm hb=>?_⟩;rcases gO e hm hb with h4|h4
    ·have h5:=gW _ h4;simp only[cy,dU]at h5
     have fY:e.on<listed.size:=by
      have:e.on∈l1++y::l2:=by simp[h4]
      obtain⟨p1,p2,hp⟩:=co this;rw[hp]at e8;obtain⟨_,_,_,o',f0,_⟩:=EP p1 [] e8;rw[gj];exact(aX.1 f0).1
     simpa[fY] using h5
    ·cases h4
   rw[he]at this;cases this
  ·obtain⟨pre,post,gb⟩:=co (d7 _ listed hf i hi);rw[gb]at hf h hl;obtain⟨l1',l2',gc,gG,g8⟩:=dr.1 hf.symm;obtain⟨m1,m2,gF,gV,iz,g7⟩:=cj.1 g8;have fZ:ord=(l1'++m1)++i::m2:=by rw[gc,gF];simp
   rw[fZ]at e8;obtain⟨n1,_,n3,o,ho,gO,hx⟩:=EP (l1'++m1) [] e8;obtain⟨gY,o',f0,gx⟩:=mem_ready.1 hi;obtain rfl:o'=o:=by rw[ho]at f0;cases f0;rfl
   have gg:=GM ho post pre γ V (fun x gJ=>by
    have gR:x∈l1'++m1:=by
     have:x∈l1'.filter (fun i=> !listed.getD i true):=by rw[gG];exact gJ
     simp[(bR.1 this).1]
    have gI:listed.getD x true=false:=by
     have:x∈l1'.filter (fun i=> !listed.getD i true):=by rw[gG];exact gJ
     simpa using(bR.1 this).2
    rcases hx x gR with h4|h4
    ·exfalso
     have:=CN gh ops.size i x o' ho gx h4
     rcases cF x listed.size with fY|fY
     ·simp[fY]at this gI;rw[gI]at this;cases this
     ·simp[cu fY]at this
    ·exact h4) h
   have f8:pre++post=ord.filter (fun j=> !(listed.setIfInBounds i true).getD j true):=by
    have gZ:i<listed.size:=by
     rw[gj];exact(aX.1 ho).1
    rw[fZ,cn,cP];have e1:(listed.setIfInBounds i true).getD i true=true:=by simp[gZ]
    rw[e1,AC n1,AC n3];simp only[cQ,bz,bl,cn,gG,g7];rw[cH.2 (fun x hx=>by simpa using gV x hx),br]
   have hlen:(pre++post).length=m:=by simp at hl⊢; omega
   obtain⟨o2,gM,hh⟩:=gg;obtain rfl:o2=o':=by rw[ho]at gM;cases gM;rfl
   unfold wpOpIn;simp only[ho];rcases hh with⟨d,hy,hM⟩|⟨_,hE⟩
   ·exact Fk hN (hr.mono hg) hg hs hC hy fun g' w' a' gv hs'=>ih _ _ _ _ hlen (by simpa using gj) f8 (gh.set hi) hM hC g' w' a' (hg.trans gv) hs'
   ·exact Dr (hr.mono hg) hg hs hE (fun g' w' a' d U' gv hR hs'=>ih _ _ _ _ hlen (by simpa using gj) f8 (gh.set hi) hR.2 hR.1 g' w' a' (hg.trans gv) hs') fun d U' hp=>hp
theorem DK{n:Nat}: ∀{l:fU},(∀i∈l,i<n)->l.filter (fun i=> !(Array.replicate n false).getD i true)=l:=by
 intro l h;rw[List.filter_eq_self];intro i hi;simp[h i hi]
theorem dwp_mix(hN:P.funcs.size=N)(hm:P.follows .mixedOrders=true){l:List Oper}{id:Nat}{γ:Fr}{V:Sig}(ord E:fU)(S0:Sig)(hB:FZ l.toArray E ord=true)(hC:Sub S0 V)
  (h:MOps P ro n l.toArray N S0 Q df E ord γ V):DWp P ro n (.region id l.toArray true) Q ⟨γ,V,df⟩:=by
 intro g w a r hr hs;refine wpIn_region_any hm ?_
 have gh:lG l.toArray (Array.replicate l.toArray.size false):=by
  intro q o _ hq;rcases cF q l.length with h'|h'
  ·simp[h']at hq
  ·simp[h']at hq
 have hs':lP P g n ⟨γ,V,df⟩ a { w with drawn:=w.drawn+1 }:=
  ⟨⟨fun b o v h=>hs.sim.imm b o v h,hs.sim.keep,fun i o h=>by
   have:=hs.sim.obj i o h
   cases o<;>exact this,hs.sim.inj,hs.sim.free,hs.sim.htop,hs.sim.hdom,hs.sim.fin,hs.sim.io⟩,hs.tmps,hs.df⟩
 have fY:∀i∈ord,i<l.toArray.size:=by
  intro i hi;obtain⟨p1,p2,hp⟩:=co hi;have ga:=hB;unfold FZ at ga;simp only[aN]at ga;rw[hp]at ga;obtain⟨_,_,_,o',f0,_⟩:=EP p1 [] ga.1.1;exact(aX.1 f0).1
 have hlen:ord.length=l.toArray.size:=by
  have ga:=hB;unfold FZ at ga;simp only[aN,cL]at ga;exact ga.2
 have:=Yp hN hB hr ord.length ord (Array.replicate l.toArray.size false) γ V rfl k7 (DK fY).symm gh h hC g _ a (.refl g) hs';rw[hlen]at this;exact this
end
def Kc{α β:Type}{f f':α->β}: ∀{x:Option α},(∀a,x=some a->f a=f' a)->x.map f=x.map f'
 |none,_=>rfl
 |some a,h=>by rw[bT,bT,h a rfl]
def U1{tab:Nat->Ty}{γ V':Fr}{V:Sig}{op:Op}(h:∀x∈op.operands,ev γ x=ev V' x):lk tab γ V op=lk tab V' V op:=by
 cases op<;>simp only[Op.operands]at h<;>simp only[lk]
 case slice t x lo hi mx=>
  rw[h x k7];have e1:lo.map (ev γ)=lo.map (ev V'):=Kc fun a ha=>h a (by simp[ha])
  have e2:hi.map (ev γ)=hi.map (ev V'):=Kc fun a ha=>h a (by simp[ha])
  have e3:mx.map (ev γ)=mx.map (ev V'):=Kc fun a ha=>h a (by simp[ha])
  rw[e1,e2,e3]
 case lookup t x k ok=>rw[h x k7,h k k7]
 case typeAssert x s t ok=>rw[h x k7]
 case build t parts=>
  have hp:∀p∈parts.toList,ev γ p.2=ev V' p.2:=fun p hp=>h p.2 (by simp;exact⟨p.1,by simpa using hp⟩)
  rw[show(parts.toList.map fun p=>(p.1,ev γ p.2))=parts.toList.map fun p=>(p.1,ev V' p.2) from bF fun p gT=>by rw[hp p gT]]
 case call c=>
  obtain⟨callee,args,ats⟩:=c;cases callee<;>try rfl
  rename_i b;obtain⟨args⟩:=args;obtain⟨ats⟩:=ats;cases b<;>try rfl
  ·simp only[H0,IP];split
   ·rename_i x;rw[h x (by simp[Call.operands])]
   ·rfl
  ·simp only[H0]
   match args,h with
   |[a,b],h=>simp only;rw[h a (by simp[Call.operands]),h b (by simp[Call.operands])]
   |[],_=>rfl
   |[_],_=>rfl
   |_::_::_::_,_=>rfl
  ·simp only[H0]
   match args,h with
   |[a,b],h=>simp only;rw[h a (by simp[Call.operands]),h b (by simp[Call.operands])]
   |[],_=>rfl
   |[_],_=>rfl
   |_::_::_::_,_=>rfl
def BO{tab:Nat->Ty}{γ V':Fr}{V:Sig}{op:Op}(h:∀x∈op.operands,ev γ x=ev V' x):kT tab γ V op=kT tab V' V op:=by
 unfold kT;rw[PI h,U1 h]
def F2:Op->Bool
 |.call { callee:=.builtin .len,.. }|.call { callee:=.builtin .max,.. }|.call { callee:=.builtin .min,.. }=>true
 |.move _|.assign _|.pick .. |.box .. |.load .. |.nilCheck _|.binOp .. |.unOp .. |.convert .. |.makeInterface .. |.makeFunc .. |.fieldAddr .. |.field .. |.indexAddr .. |.index .. |.extract .. |.buildSlice .. =>true
 |.slice .. |.lookup .. |.typeAssert .. |.build .. =>true
 |_=>false
section
variable (P:Program)(ro:Option Nat)(n:Nat)(ops:Array Oper)(N:Nat)(S0:Sig)(Q:DX->St->Prop)(df:List DDf)
def MO:List (Bool×Oper)->Fr->Sig->Prop
 |[],γ,V=>aC P ro n ops Q [] ⟨γ,V,df⟩
 |(e,o)::r,γ,V=>
  (∃d,Calm P n ops N S0 γ o d/\MO r (putD o.dst d γ) V) \/
  (e=true/\Eff P ro n ops df γ V o (fun d U'=>Sub S0 U'/\MO r (putD o.dst d γ) U') (fun d U'=> ∀V',Q (.panic d) ⟨V',U',df⟩))
end
def pick(ops:Array Oper)(E ord:fU):List (Bool×Oper):=ord.filterMap fun i=>(ops[i]?).map fun o=>(E.contains i,o)
section
variable {P:Program}{ro:Option Nat}{n:Nat}{ops:Array Oper}{N:Nat}{S0:Sig}{Q:DX->St->Prop}{df:List DDf}{E:fU}
theorem F8: ∀{ord:fU}{γ:Fr}{V:Sig},(∀i∈ord,i<ops.size)->MO P ro n ops N S0 Q df (pick ops E ord) γ V->MOps P ro n ops N S0 Q df E ord γ V
 |[],_,_,_,h=>h
 | i::r,γ,V,fY,h=>by
  have hi:ops[i]? = some ops[i]! :=by
   have:=fY i k7;simp[this]
  have hp:pick ops E (i::r)=(E.contains i,ops[i]!)::pick ops E r:=by
   unfold pick;rw[fp,hi];rfl
  rw[hp]at h;have gu:∀j∈r,j<ops.size:=fun j hj=>fY j (by simp[hj])
  refine⟨_,hi,?_⟩;rcases h with⟨d,h2,h3⟩|⟨h1,h2⟩
  ·exact .inl ⟨d,h2,F8 gu h3⟩
  ·exact .inr ⟨h1,h2.congr (fun _ _=>rfl) fun d U' ⟨h3,h4⟩=>⟨h3,F8 gu h4⟩⟩
theorem V4{ord:fU}(hB:FZ ops E ord=true): ∀i∈ord,i<ops.size:=by
 intro i hi;obtain⟨p1,p2,hp⟩:=co hi;unfold FZ at hB;simp only[aN]at hB;rw[hp]at hB;obtain⟨_,_,_,o',f0,_⟩:=EP p1 [] hB.1.1;exact(aX.1 f0).1
theorem Zl(hN:P.funcs.size=N)(hm:P.follows .mixedOrders=true){l:List Oper}{id:Nat}{γ:Fr}{V:Sig}(ord E:fU)(S0:Sig)(hB:FZ l.toArray E ord=true)(hC:Sub S0 V)
  {lp:List (Bool×Oper)} (hl:pick l.toArray E ord=lp) (h:MO P ro n l.toArray N S0 Q df lp γ V):DWp P ro n (.region id l.toArray true) Q ⟨γ,V,df⟩:=
 dwp_mix hN hm ord E S0 hB hC (F8 (V4 hB) (by rw[hl];exact h))
theorem UV{γ:Fr}{V:Sig}(h:Q .normal ⟨γ,V,df⟩):MO P ro n ops N S0 Q df [] γ V:=AU h
theorem ZM{l:List (Bool×Oper)}{γ Sr:Fr}{V:Sig}{o:Oper}(ho:AJ n o=true)(hγ:only (o.looksAt ops) γ=Sr)(hw:AY ops Sr o=some true)
  (h:aC P ro n ops (EQ df o.dst (fun d U'=>Sub S0 U'/\MO P ro n ops N S0 Q df l (putD o.dst d γ) U') (fun d U'=> ∀V',Q (.panic d) ⟨V',U',df⟩)) [o] ⟨Sr,V,df⟩):MO P ro n ops N S0 Q df ((true,o)::l) γ V:=by
 subst hγ;exact .inr ⟨rfl,ho,hw,h⟩
theorem UU{e:Bool}{l:List (Bool×Oper)}{γ:Fr}{V:Sig}{o:Oper}(hw:AY ops γ o=some false)(ho:AJ n o=true)(hs:ED N o.op=true)
  (h:MO P ro n ops N S0 Q df l (putD o.dst (.tup []) γ) V):MO P ro n ops N S0 Q df ((e,o)::l) γ V:=
 .inl ⟨.tup [],⟨ho,.inr (.inl ⟨by rw[Bg];exact hw,hs,.inr rfl⟩)⟩,h⟩
theorem Rn{e:Bool}{l:List (Bool×Oper)}{γ Sr:Fr}{V:Sig}{o:Oper}(d:D)(ho:AJ n o=true)(hγ:only (o.looksAt ops) γ=Sr)(hw:AY ops Sr o=some true)
  (hq:∀U',Sub S0 U'->∀ro df,aC P ro n ops (EQ df o.dst (fun d' S''=>d'=d/\Sub U' S'') fun _ _=>False) [o] ⟨Sr,U',df⟩)
  (h:MO P ro n ops N S0 Q df l (putD o.dst d γ) V):MO P ro n ops N S0 Q df ((e,o)::l) γ V:=by
 subst hγ;exact .inl ⟨d,⟨ho,.inr (.inr ⟨hw,hq⟩)⟩,h⟩
end
def Ac:List Operand->fU
 |[]=>[]
 |.tmp t::r=>t::Ac r
 |_::r=>Ac r
def A7(γ:Fr):fU->Option Fr
 |[]=>some []
 | t::ts=>match γ.lookup t with
  |some d=>match A7 γ ts with
   |some r=>some ((t,d)::r)
   |none=>none
  |none=>none
def Be{γ:Fr}: ∀{l:fU}{Sr:Fr},A7 γ l=some Sr->∀t∈l,getD Sr t=getD γ t
 |[],_,_,_,h=>by cases h
 | a::l,Sr,e,t,h=>by
  simp only[A7]at e;split at e<;>(try (cases e;done));rename_i d hd;split at e<;>(try (cases e;done));rename_i r hr;cases e;rw[Aa]
  by_cases ht:t=a
  ·subst ht;rw[aS rfl];simp[getD,hd]
  ·rw[aQ ht];exact Be hr t (by simpa[ht] using h)
def BE{t:Nat}: ∀{l:List Operand},Operand.tmp t∈l->t∈Ac l
 | x::l,h=>by
  rcases be.1 h with rfl|h
  ·simp[Ac]
  ·have:=BE h;cases x<;>simp[Ac,this]
def CK{γ Sr:Fr}{op:Op}(h:A7 γ (Ac op.operands.toList)=some Sr): ∀x∈op.operands,ev Sr x=ev γ x:=
 fun x hx=>CA fun t ht=>Be h t (BE (by rw[<-ht];simpa using hx))
def Cz{γ Sr:Fr}{x:Operand}(h:A7 γ (Ac [x])=some Sr):ev Sr x=ev γ x:=
 CA fun t ht=>Be h t (BE (by simp[ht]))
def BF{tab:Nat->Ty}{γ V':Fr}{V:Sig}{op:Op}(h:∀x∈op.operands,ev γ x=ev V' x):eopD tab γ V op=eopD tab V' V op:=by
 cases op<;>simp only[Op.operands]at h<;>simp only[eopD]
 case store T a v=>rw[h a k7,h v k7]
 case mapUpdate T a k v=>rw[h a k7,h k k7,h v k7]
 case insert T a k v=>rw[h a k7,h k k7,h v k7]
 case call c=>
  obtain⟨callee,args,ats⟩:=c;cases callee<;>try rfl
  rename_i b;obtain⟨args⟩:=args;obtain⟨ats⟩:=ats;cases b<;>try rfl
  simp only[bapD]
  match args,h with
  |[a,b],h=>simp only;rw[h a (by simp[Call.operands]),h b (by simp[Call.operands])]
  |[],_=>rfl
  |[_],_=>rfl
  |_::_::_::_,_=>rfl
def At{γ:Fr}{k:Nat}{d:D}(h:γ.lookup k=some d):getD γ k=d:=by simp[getD,h]
@[simp] def D.plain:D->D
 |.slice es _=>.slice es .no
 |.av=>.slice [] .no
 |d=>d
def Uh(d:D):WkD d d.plain:=by
 cases d<;>first|exact A9 _|exact AO _ _|exact An _ (.inl rfl)
def G9: ∀l:fQ,WkL l (l.map D.plain)
 |[]=>trivial
 |d::l=>⟨Uh d,G9 l⟩
def Ga:WkL [] []:=trivial
def AN{a b:D}{l m:fQ}(h:WkD a b)(k:WkL l m):WkL (a::l) (b::m):=⟨h,k⟩
def EC: ∀l:fQ,WkL l l
 |[]=>trivial
 |a::l=>⟨A9 a,EC l⟩
section
variable {P:Program}{ro:Option Nat}{n:Nat}{ops:Array Oper}{Q:DX->St->Prop}{df:List DDf}{rest:List Oper}{γ Sr:List (Nat×D)}{V U':Sig}{t:Nat}{op:Op}{ty:TypeId}{pos:String}{after:Array Edge}{guard:Option (Nat×Bool)}{d:D}
theorem D3{op:Op}(h:F2 op=true): ∀c,op≠.defer c:=fun c e=>by subst e;cases h
theorem Im{tab:Nat->Ty}(ht:BC P tab){o:Oper}(hr:F2 o.op=true)(hw:AY ops γ o=some true)(hd:kT tab γ V o.op=some d)(ho:AJ n o=true)
  (h:aC P ro n ops Q rest ⟨putD o.dst d γ,V,df⟩):aC P ro n ops Q (o::rest) ⟨γ,V,df⟩:=
 NN hw (D3 hr) (Le ht hd) (fun g w a hs hT=>GD ht hs hT hd) ho h
theorem De{j k:Nat}{b:Bool}(hk:(ops[j]?).bind (·.dst)=some k)(hb:γ.lookup k=some (.bool b)):DM ops γ j=some b:=by
 unfold DM;rw[hk];simp only[ex,At hb]
theorem HP{tab:Nat->Ty}(ht:BC P tab)(hr:F2 op=true)(d6:decide (t<n)=true)(hl:A7 γ (Ac op.operands.toList)=some Sr)(hd:kT tab Sr V op=some d)
  (h:aC P ro n ops Q rest ⟨(t,d)::γ,V,df⟩):aC P ro n ops Q (⟨some t,op,ty,pos,after,none⟩::rest) ⟨γ,V,df⟩:=
 Im ht hr rfl ((BO (CK hl)) ▸ hd) d6 h
theorem IB{tab:Nat->Ty}(ht:BC P tab){j:Nat}{want:Bool}(hr:F2 op=true)(d6:decide (t<n)=true){k:Nat}(hk:(ops[j]?).bind (·.dst)=some k)(hb:γ.lookup k=some (.bool want))(hl:A7 γ (Ac op.operands.toList)=some Sr)(hd:kT tab Sr V op=some d)
  (h:aC P ro n ops Q rest ⟨(t,d)::γ,V,df⟩):aC P ro n ops Q (⟨some t,op,ty,pos,after,some (j,want)⟩::rest) ⟨γ,V,df⟩:=
 Im ht hr (by simp only[AY,De hk hb];simp) ((BO (CK hl)) ▸ hd) d6 h
theorem wantU{j k:Nat}{o:Oper}{want:Bool}(hk:(ops[j]?).bind (·.dst)=some k)(hb:γ.lookup k=some (.tup []))(hg:o.guard=some (j,want):=by rfl):AY ops γ o=some false:=by
 unfold AY;rw[hg];have h1:DM ops γ j=none:=by unfold DM;rw[hk];simp only[ex,At hb]
 have h2:JW ops γ j=true:=by unfold JW;rw[hk];simp only[At hb]
 simp only[h1,h2,bI]
theorem K1{N:Nat}(hN:P.funcs.size=N){j:Nat}{want:Bool}{k:Nat}(hk:(ops[j]?).bind (·.dst)=some k)(hb:γ.lookup k=some (.bool (!want)))(hs:ED N op=true)(d6:decide (t<n)=true)
  (h:aC P ro n ops Q rest ⟨(t,.tup [])::γ,V,df⟩):aC P ro n ops Q (⟨some t,op,ty,pos,after,some (j,want)⟩::rest) ⟨γ,V,df⟩:=by
 intro g w a r hr hs';have gC:AY ops γ ⟨some t,op,ty,pos,after,some (j,want)⟩=some false:=by simp only[AY,De hk hb];simp
 unfold wpListIn;rw[B0 hs'.tmps gC,aQ k7];refine⟨fun f hf=>J1 (by rw[hN];exact hs) w _ f hf (fun _=>rfl),?_⟩;have h0:Rep g (.tup []) undef:=⟨[],rfl,rfl⟩;exact h g w _ r hr (hs'.put (o:=⟨some t,op,ty,pos,after,some (j,want)⟩) (.refl g) hs'.sim h0 d6)
theorem IA{N:Nat}(hN:P.funcs.size=N){j:Nat}{want:Bool}{k:Nat}(hk:(ops[j]?).bind (·.dst)=some k)(hb:γ.lookup k=some (.tup []))(hs:ED N op=true)(d6:decide (t<n)=true)
  (h:aC P ro n ops Q rest ⟨(t,.tup [])::γ,V,df⟩):aC P ro n ops Q (⟨some t,op,ty,pos,after,some (j,want)⟩::rest) ⟨γ,V,df⟩:=by
 intro g w a r hr hs';have gC:AY ops γ ⟨some t,op,ty,pos,after,some (j,want)⟩=some false:=by exact wantU hk hb
 unfold wpListIn;rw[B0 hs'.tmps gC,aQ k7];refine⟨fun f hf=>J1 (by rw[hN];exact hs) w _ f hf (fun _=>rfl),?_⟩;have h0:Rep g (.tup []) undef:=⟨[],rfl,rfl⟩;exact h g w _ r hr (hs'.put (o:=⟨some t,op,ty,pos,after,some (j,want)⟩) (.refl g) hs'.sim h0 d6)
theorem C9{t:Nat}{d:D}(h:WkD (getD γ t) d):Wk P n ⟨γ,V,df⟩ ⟨(t,d)::γ,V,df⟩:=
 fun g w a hs=>⟨g,.refl g,⟨hs.sim,⟨hs.tmps.1,fun k=>by
  rw[Aa]
  by_cases hk:k=t
  ·subst hk;rw[aS rfl];exact h g _ (hs.tmps.2 k)
  ·rw[aQ hk];exact hs.tmps.2 k⟩,hs.df⟩⟩
theorem ST{dst:Option Tmp}{j:Nat}{want b:Bool}{k:Nat}(hk:(ops[j]?).bind (·.dst)=some k)(hb:γ.lookup k=some (.bool b))
  (h1:b=true->aC P ro n ops Q (⟨dst,op,ty,pos,after,some (j,want)⟩::rest) ⟨(k,.bool true)::γ,V,df⟩) (h2:b=false->aC P ro n ops Q (⟨dst,op,ty,pos,after,some (j,want)⟩::rest) ⟨(k,.bool false)::γ,V,df⟩):aC P ro n ops Q (⟨dst,op,ty,pos,after,some (j,want)⟩::rest) ⟨γ,V,df⟩:=by
 cases b with
 |true=>exact Cd (C9 (by rw[At hb];exact A9 _)) (h1 rfl)
 |false=>exact Cd (C9 (by rw[At hb];exact A9 _)) (h2 rfl)
theorem N2{tab:Nat->Ty}(ht:BC P tab)(hl:A7 γ (Ac op.operands.toList)=some Sr)(he:eopD tab Sr V op=some (d,U'))(d6:decide (t<n)=true)
  (h:aC P ro n ops Q rest ⟨(t,d)::γ,U',df⟩):aC P ro n ops Q (⟨some t,op,ty,pos,after,none⟩::rest) ⟨γ,V,df⟩:=
 FM (o:=⟨some t,op,ty,pos,after,none⟩) ht rfl ((BF (CK hl)) ▸ he) d6 h
theorem K3{tab:Nat->Ty}(ht:BC P tab)(hl:A7 γ (Ac op.operands.toList)=some Sr)(he:eopD tab Sr V op=some (d,U'))
  (h:aC P ro n ops Q rest ⟨γ,U',df⟩):aC P ro n ops Q (⟨none,op,ty,pos,after,none⟩::rest) ⟨γ,V,df⟩:=
 FM (o:=⟨none,op,ty,pos,after,none⟩) ht rfl ((BF (CK hl)) ▸ he) rfl h
theorem Yc{tab:Nat->Ty}(ht:BC P tab)(vars:fU){T T' ty':Nat}{x:Operand}{pos':String}{after':Array Edge}{cs:fQ}(hv:vars.contains t=false)(hT:T'=T)(d6:decide (t<n)=true)(hx:FW t x=true)(ho:A5 (tab T).k=false)
  (hl:A7 γ (Ac [x])=some Sr) (he:ev Sr x=d) (d8:d.told=true) (hc:d.cells=cs) (hlen:cs.length=(tab T).size) (fX:Dq cs=true)
  (h:aC P ro n ops Q rest ⟨(t,.aw cs 0)::γ,V,df⟩) :
  aC P ro n ops Q (⟨some t,.alloc T,ty,pos,after,none⟩::⟨none,.store T' (.tmp t) x,ty',pos',after',none⟩::rest) ⟨γ,V,df⟩:=by
 rw[Cz hl]at he;subst he;subst hT;subst hc;exact QE ht ho (by simpa using d6) (I0 ht hx) d8 hlen fX h
theorem Il{id:Nat}{l:List Oper}(h:aC P ro n l.toArray Q l ⟨γ,V,df⟩):DWp P ro n (.region id l.toArray false) Q ⟨γ,V,df⟩:=TQ h
theorem Oa{c:Operand}{x y:Code}{b:Bool}{Sr:Fr}(hl:A7 γ (Ac [c])=some Sr)(hc:ev Sr c=.bool b)(ht:b=true->DWp P ro n x Q ⟨γ,V,df⟩)(hf:b=false->DWp P ro n y Q ⟨γ,V,df⟩):
  DWp P ro n (.cond c x y) Q ⟨γ,V,df⟩:=Sm (s:=⟨γ,V,df⟩) (by rw[<-Cz hl];exact hc) ht hf
theorem ID{c:Operand}{x y:Code}{Sr:Fr}(hl:A7 γ (Ac [c])=some Sr)(hc:ev Sr c=.bool true)(h:DWp P ro n x Q ⟨γ,V,df⟩):
  DWp P ro n (.cond c x y) Q ⟨γ,V,df⟩:=Oa hl hc (fun _=>h) (fun e=>by cases e)
theorem IE{c:Operand}{x y:Code}{Sr:Fr}(hl:A7 γ (Ac [c])=some Sr)(hc:ev Sr c=.bool false)(h:DWp P ro n y Q ⟨γ,V,df⟩):
  DWp P ro n (.cond c x y) Q ⟨γ,V,df⟩:=Oa hl hc (fun e=>by cases e) (fun _=>h)
theorem HQ{fop:Operand}{args:Array Operand}{ats:Array TypeId}{f:Nat}{first cap us bs:fQ}{R:DE->Sig->Prop}{dst:Option Tmp}
  (hl:A7 γ (Ac (fop::args.toList))=some Sr) (hf:ev Sr fop=.func (.func f) first cap) (ha:first++args.toList.map (ev Sr)++cap=us) (hw:bs=us\/bs=us.map D.plain) (h:aB P f bs V R)
  (ho:AJ n ⟨dst,(cv fop args ats),ty,pos,after,none⟩=true)
  (d9:∀d U',R (.ret d) U'->aC P ro n ops Q rest ⟨putD dst d γ,U',df⟩)
  (e7:∀d U',R (.panic d) U'->Q (.panic d) ⟨γ,U',df⟩) :
  aC P ro n ops Q (⟨dst,(cv fop args ats),ty,pos,after,none⟩::rest) ⟨γ,V,df⟩:=by
 have hx:∀x∈fop::args.toList,ev Sr x=ev γ x:=fun x hx=>CA fun t ht=>Be hl t (BE (by rw[<-ht];exact hx))
 refine GY (az:=bs) rfl (by rw[<-hx fop k7];exact hf) h ?_ ho d9 e7;rw[show args.toList.map (ev γ)=args.toList.map (ev Sr) from bF fun x h=>(hx x (by simp[h])).symm,ha];rcases hw with rfl|rfl
 ·exact EC _
 ·exact G9 _
theorem IF{fop:Operand}{args:Array Operand}{ats:Array TypeId}{f:Nat}{first cap us bs:fQ}{d:D}
  (hl:A7 γ (Ac (fop::args.toList))=some Sr) (hf:ev Sr fop=.func (.func f) first cap) (ha:first++args.toList.map (ev Sr)++cap=us) (hw:bs=us\/bs=us.map D.plain) (h:aB P f bs V (rS d V))
  (d6:decide (t<n)=true) (k:aC P ro n ops Q rest ⟨(t,d)::γ,V,df⟩) :
  aC P ro n ops Q (⟨some t,(cv fop args ats),ty,pos,after,none⟩::rest) ⟨γ,V,df⟩:=
 HQ hl hf ha hw h d6 (fun d' U' ⟨e1,e2⟩=>by cases e1;subst e2;exact k) (fun d' U' ⟨e1,e2⟩=>by cases e1)
theorem SU{fop:Operand}{args:Array Operand}{ats:Array TypeId}{f:Nat}{first cap us bs:fQ}{R:DE->Sig->Prop}{dst:Option Tmp}{j:Nat}{want:Bool}{k:Nat}(hk:(ops[j]?).bind (·.dst)=some k)(hb:γ.lookup k=some (.bool want))
  (hl:A7 γ (Ac (fop::args.toList))=some Sr) (hf:ev Sr fop=.func (.func f) first cap) (ha:first++args.toList.map (ev Sr)++cap=us) (hw:bs=us\/bs=us.map D.plain) (h:aB P f bs V R)
  (ho:AJ n ⟨dst,(cv fop args ats),ty,pos,after,some (j,want)⟩=true)
  (d9:∀d U',R (.ret d) U'->aC P ro n ops Q rest ⟨putD dst d γ,U',df⟩)
  (e7:∀d U',R (.panic d) U'->Q (.panic d) ⟨γ,U',df⟩) :
  aC P ro n ops Q (⟨dst,(cv fop args ats),ty,pos,after,some (j,want)⟩::rest) ⟨γ,V,df⟩:=by
 have hx:∀x∈fop::args.toList,ev Sr x=ev γ x:=fun x hx=>CA fun t ht=>Be hl t (BE (by rw[<-ht];exact hx))
 refine GY (az:=bs) (by simp only[AY,De hk hb];simp) (by rw[<-hx fop k7];exact hf) h ?_ ho d9 e7;rw[show args.toList.map (ev γ)=args.toList.map (ev Sr) from bF fun x h=>(hx x (by simp[h])).symm,ha];rcases hw with rfl|rfl
 ·exact EC _
 ·exact G9 _
theorem Hk{fop:Operand}{args:Array Operand}{ats:Array TypeId}{f:Nat}{first cap us bs:fQ}{d:D}{j:Nat}{want:Bool}{k:Nat}(hk:(ops[j]?).bind (·.dst)=some k)(hb:γ.lookup k=some (.bool want))
  (hl:A7 γ (Ac (fop::args.toList))=some Sr) (hf:ev Sr fop=.func (.func f) first cap) (ha:first++args.toList.map (ev Sr)++cap=us) (hw:bs=us\/bs=us.map D.plain) (h:aB P f bs V (rS d V))
  (d6:decide (t<n)=true) (kk:aC P ro n ops Q rest ⟨(t,d)::γ,V,df⟩) :
  aC P ro n ops Q (⟨some t,(cv fop args ats),ty,pos,after,some (j,want)⟩::rest) ⟨γ,V,df⟩:=
 SU hk hb hl hf ha hw h d6 (fun d' U' ⟨e1,e2⟩=>by cases e1;subst e2;exact kk) (fun d' U' ⟨e1,e2⟩=>by cases e1)
end
@[simp] theorem nat_eq_int(a b:Nat):((a:Int)=(b:Int))=(a=b):=propext Int.ofNat_inj
@[simp] theorem UO(a:Nat):((a+1:Nat):Int)=(a:Int)+1:=rfl
def Eu(γ:Fr):fU->Option Fr
 |[]=>some []
 | t::ts=>match γ.lookup t with
  |some d=>match Eu γ ts with
   |some r=>some ((t,d)::r)
   |none=>none
  |none=>Eu γ ts
def kr(γ:Fr):Fr->Prop
 |[]=>True
 |p::r=>WkD (getD γ p.1) p.2/\kr γ r
def kr.get{γ:Fr}: ∀{V':Fr},kr γ V'->∀t,WkD (getD γ t) (getD V' t)
 |[],_,t=>EO _
 |p::r,h,t=>by
  rw[show p::r=(p.1,p.2)::r from rfl,Aa]
  by_cases ht:t=p.1
  ·rw[aS ht,ht];exact h.1
  ·rw[aQ ht];exact kr.get h.2 t
def HM{γ:Fr}:kr γ []:=trivial
def GF{γ r:Fr}{t:Nat}{d d':D}(hl:γ.lookup t=some d')(h:WkD d' d)(k:kr γ r):kr γ ((t,d)::r):=⟨by rw[At hl];exact h,k⟩
def HN{γ a b:Fr}(h:kr γ a)(k:kr γ b):kr γ (a++b):=by
 induction a with
 |nil=>exact k
 |cons p a ih=>exact⟨h.1,ih h.2⟩
def MU{P:Program}{n:Nat}{γ V':Fr}{V U':Sig}{df:List DDf}(h:kr γ V')(hZ:Sub U' V):Wk P n ⟨γ,V,df⟩ ⟨V',U',df⟩:=
 fun g w a hs=>⟨g,.refl g,⟨hs.sim.sub hZ,⟨hs.tmps.1,fun t=>h.get t g _ (hs.tmps.2 t)⟩,hs.df⟩⟩
def BG{V U':Sig}(h:U'=V):Sub U' V:=h ▸ Sub.refl _
def GB{P:Program}{ro:Option Nat}{n:Nat}{Q:DX->St->Prop}{df:List DDf}{γ Sk:Fr}{V:Sig}{α:Type}{c:Code}(keep:fU)(I:α->Prop)(ov:α->Fr)(sg:α->Sig)(μ:α->Nat)(x0:α)(hk:Eu γ keep=some Sk)(h0:I x0)(h1:kr γ (ov x0++Sk))(h2:Sub (sg x0) V)
  (round:∀x,I x->DWp P ro n c (lW (fun s'=> ∃x',I x'/\μ x'<μ x/\Wk P n s' ⟨ov x'++Sk,sg x',df⟩) Q) ⟨ov x++Sk,sg x,df⟩):DWp P ro n (.loop c) Q ⟨γ,V,df⟩:=by
 refine Sj (fun x:{x // I x}=>⟨ov x.1++Sk,sg x.1,df⟩) (fun x=>μ x.1) ⟨x0,h0⟩ (MU h1 h2) fun x=>FL (round x.1 x.2) ?_;intro e s h;cases e with
 |normal=>obtain⟨x',h3,h4,h5⟩:=h;exact⟨⟨x',h3⟩,h4,h5⟩
 |_=>exact h
def TS{P:Program}{ro:Option Nat}{n:Nat}{Q:DX->St->Prop}{df:List DDf}{γ Sk:Fr}{V:Sig}{α β:Type}{c:Code}(keep:fU)(I:α->β->Prop)(ov:α->β->Fr)(sg:α->β->Sig)(μ:α->β->Nat)(x0:α)(y0:β)(hk:Eu γ keep=some Sk)(h0:I x0 y0)(h1:kr γ (ov x0 y0++Sk))(h2:Sub (sg x0 y0) V)
  (round:∀x y,I x y->DWp P ro n c (lW (fun s'=> ∃x' y',I x' y'/\μ x' y'<μ x y/\Wk P n s' ⟨ov x' y'++Sk,sg x' y',df⟩) Q) ⟨ov x y++Sk,sg x y,df⟩):DWp P ro n (.loop c) Q ⟨γ,V,df⟩:=by
 refine GB (α:=α×β) keep (fun x=>I x.1 x.2) (fun x=>ov x.1 x.2) (fun x=>sg x.1 x.2) (fun x=>μ x.1 x.2) (x0,y0) hk h0 h1 h2 fun x hx=>FL (round x.1 x.2 hx) ?_;intro e s h;cases e with
 |normal=>obtain⟨x',y',h3,h4,h5⟩:=h;exact⟨(x',y'),h3,h4,h5⟩
 |_=>exact h
def TR{P:Program}{ro:Option Nat}{n:Nat}{Q:DX->St->Prop}{df:List DDf}{γ Sk:Fr}{V:Sig}{α β δ:Type}{c:Code}(keep:fU)(I:α->β->δ->Prop)(ov:α->β->δ->Fr)(sg:α->β->δ->Sig)(μ:α->β->δ->Nat)(x0:α)(y0:β)(z0:δ)(hk:Eu γ keep=some Sk)(h0:I x0 y0 z0)(h1:kr γ (ov x0 y0 z0++Sk))(h2:Sub (sg x0 y0 z0) V)
  (round:∀x y z,I x y z->DWp P ro n c (lW (fun s'=> ∃x' y' z',I x' y' z'/\μ x' y' z'<μ x y z/\Wk P n s' ⟨ov x' y' z'++Sk,sg x' y' z',df⟩) Q) ⟨ov x y z++Sk,sg x y z,df⟩):DWp P ro n (.loop c) Q ⟨γ,V,df⟩:=by
 refine GB (α:=α×β×δ) keep (fun x=>I x.1 x.2.1 x.2.2) (fun x=>ov x.1 x.2.1 x.2.2) (fun x=>sg x.1 x.2.1 x.2.2) (fun x=>μ x.1 x.2.1 x.2.2) (x0,y0,z0) hk h0 h1 h2 fun x hx=>FL (round x.1 x.2.1 x.2.2 hx) ?_;intro e s h;cases e with
 |normal=>obtain⟨x',y',z',h3,h4,h5⟩:=h;exact⟨(x',y',z'),h3,h4,h5⟩
 |_=>exact h
section
variable (tab:Nat->Ty)(γ:List (Nat×D))(V:Sig)(T T' m f:Nat)(x y z:Operand)(c:Bool)
@[simp] theorem dopX_move:kT tab γ V (.move x)=some (ev γ x):=rfl
@[simp] theorem dopX_assign:kT tab γ V (.assign x)=some (ev γ x):=rfl
@[simp] theorem dopX_pick:kT tab γ V (.pick x y z)=Ql (ev γ x) (ev γ y) (ev γ z):=by unfold kT;simp only[dop,lk];cases Ql (ev γ x) (ev γ y) (ev γ z)<;>rfl
@[simp] theorem dopX_box:kT tab γ V (.box T x)=boxD (ev γ x):=by unfold kT;simp only[dop,lk];cases boxD (ev γ x)<;>rfl
@[simp] theorem dopX_load:kT tab γ V (.load T x)=Lm (tab T) V (ev γ x):=by unfold kT;simp only[dop,lk];cases Lm (tab T) V (ev γ x)<;>rfl
@[simp] theorem dopX_nil:kT tab γ V (.nilCheck x)=nilD (ev γ x):=by unfold kT;simp only[dop,lk];cases nilD (ev γ x)<;>rfl
@[simp] theorem dopX_bin(o:BinOp):kT tab γ V (.binOp o T x y T')=binD o (ev γ x) (ev γ y):=by unfold kT;simp only[dop,lk];cases binD o (ev γ x) (ev γ y)<;>rfl
@[simp] theorem dopX_un(o:UnOp):kT tab γ V (.unOp o T x)=unD o (ev γ x):=by unfold kT;simp only[dop,lk];cases unD o (ev γ x)<;>rfl
@[simp] theorem dopX_conv:kT tab γ V (.convert T T' x)=Xw (A5 (tab T).k) (tab T').k (ev γ x):=by unfold kT;simp only[dop,lk];cases Xw (A5 (tab T).k) (tab T').k (ev γ x)<;>rfl
@[simp] theorem dopX_mkif:kT tab γ V (.makeInterface T x)=V3 (tab T) T (ev γ x):=by unfold kT;simp only[dop,lk];cases V3 (tab T) T (ev γ x)<;>rfl
@[simp] theorem dopX_mkfn(fn:Fn)(a b:Array Operand):kT tab γ V (.makeFunc fn a b)=some (.func fn (a.toList.map (ev γ)) (b.toList.map (ev γ))):=rfl
@[simp] theorem dopX_fa:kT tab γ V (.fieldAddr T x f)=Ei tab f (ev γ x) (tab T).k:=by unfold kT;simp only[dop,lk];cases Ei tab f (ev γ x) (tab T).k<;>rfl
@[simp] theorem dopX_ia:kT tab γ V (.indexAddr T x y)=Dh tab (tab T).k (ev γ x) (ev γ y):=by unfold kT;simp only[dop,lk];cases Dh tab (tab T).k (ev γ x) (ev γ y)<;>rfl
@[simp] theorem dopX_ix:kT tab γ V (.index T x y)=OQ (tab T).k (ev γ x) (ev γ y):=by unfold kT;simp only[dop,lk];cases OQ (tab T).k (ev γ x) (ev γ y)<;>rfl
@[simp] theorem dopX_ex:kT tab γ V (.extract x f)=Ii f (ev γ x):=by unfold kT;simp only[dop,lk];cases Ii f (ev γ x)<;>rfl
@[simp] theorem dopX_bs(ps:Array (Nat×Operand)):kT tab γ V (.buildSlice T m ps)=IZ tab γ m ps.toList (tab T).k:=by unfold kT;simp only[dop,lk];cases IZ tab γ m ps.toList (tab T).k<;>rfl
@[simp] theorem dopX_sl(a b d:Option Operand):kT tab γ V (.slice T x a b d)=K4 tab (tab T).k (ev γ x) (a.map (ev γ)) (b.map (ev γ)) (d.map (ev γ)):=rfl
@[simp] theorem dopX_lk:kT tab γ V (.lookup T x y c)=Hr tab V c (tab T).k (ev γ x) (ev γ y):=rfl
@[simp] theorem dopX_ta:kT tab γ V (.typeAssert x T T' c)=L7 tab T' c (ev γ x):=rfl
@[simp] theorem dopX_bd(ps:Array (Nat×Operand)):kT tab γ V (.build T ps)=PR tab T (ps.toList.map fun p=>(p.1,ev γ p.2)) (tab T).k:=rfl
@[simp] theorem dopX_len (xs:Array Operand) (ts:Array TypeId):kT tab γ V (.call { callee := .builtin .len,args:=xs,argTypes:=ts })=match lenC tab γ ts.toList xs.toList with
  |some d=>some d
  |none=>IP tab γ V ts.toList xs.toList:=rfl
@[simp] theorem dopX_max(ts:Array TypeId):kT tab γ V (.call { callee:=.builtin .max,args:= #[x,y],argTypes:=ts })=Ou true (ev γ x) (ev γ y):=rfl
@[simp] theorem dopX_min(ts:Array TypeId):kT tab γ V (.call { callee:=.builtin .min,args:= #[x,y],argTypes:=ts })=Ou false (ev γ x) (ev γ y):=rfl
@[simp] theorem eopD_store:eopD tab γ V (.store T x y)=R1 tab V T (ev γ x) (ev γ y):=rfl
@[simp] theorem eopD_upd:eopD tab γ V (.mapUpdate T x y z)=updD tab V (tab T).k (ev γ x) (ev γ y) (ev γ z):=rfl
@[simp] theorem eopD_ins:eopD tab γ V (.insert T x y z)=updD tab V (tab T).k (ev γ x) (ev γ y) (ev γ z):=rfl
@[simp] theorem eopD_app(ts:Array TypeId):eopD tab γ V (.call { callee:=.builtin .append,args:= #[x,y],argTypes:=ts })=appD tab V ts.toList (ev γ x) (ev γ y):=rfl
end
def nthO:List Oper->Nat->Option Oper
 |[],_=>none
 |o::_,0=>some o
 |_::l,i+1=>nthO l i
def Kd: ∀(l:List Oper) (i:Nat),nthO l i=l[i]?
 |[],_=>rfl
 |_::_,0=>rfl
 |_::l,i+1=>by rw[nthO,Kd l i];rfl
def Hn (ops:List Oper) (E:fU):fU->Option (List (Bool × Oper))
 |[]=>some []
 | i::r=>match nthO ops i with
  | some o=>match Hn ops E r with
   |some l=>match E.contains i with
    |true=>some ((true,o)::l)
    |false=>some ((false,o)::l)
   |none=>none
  |none=>none
def Ka{ops:List Oper}{E:fU}: ∀{ord:fU}{lp:List (Bool×Oper)},Hn ops E ord=some lp->pick ops.toArray E ord=lp
 |[],_,h=>by cases h;rfl
 |i::r,lp,h=>by
  simp only[Hn]at h;split at h<;>(try (cases h;done));rename_i o ho;rw[Kd]at ho;split at h<;>(try (cases h;done));rename_i l hl;have ih:=Ka hl;unfold pick at ih⊢;rw[fp,du,ho];simp only[bT];rw[ih];split at h<;>(cases h;rename_i he;rw[he])
section
variable {P:Program}{ro:Option Nat}{n:Nat}{ops:Array Oper}{N:Nat}{S0:Sig}{Q:DX->St->Prop}{df:List DDf}{γ Sr:List (Nat×D)}{V U':Sig}{t:Nat}{op:Op}{ty:TypeId}{pos:String}{after:Array Edge}{d:D}{e:Bool}{l:List (Bool×Oper)}
theorem Sg(hN:P.funcs.size=N)(hm:P.follows .mixedOrders=true){lo:List Oper}{id:Nat}(ord E:fU)(S0:Sig)(hB:FZ lo.toArray E ord=true)(hC:Sub S0 V)
  {lp:List (Bool×Oper)} (hl:Hn lo E ord=some lp) (h:MO P ro n lo.toArray N S0 Q df lp γ V):DWp P ro n (.region id lo.toArray true) Q ⟨γ,V,df⟩:=
 Zl hN hm ord E S0 hB hC (Ka hl) h
theorem Ju: ∀(l:List (Bool×Oper)) {γ V':Fr}{V:Sig},lY γ V'->MO P ro n ops N S0 Q df l γ V->MO P ro n ops N S0 Q df l V' V
 |[],_,_,_,h,k=>Dj h k
 |(e,o)::r,_,_,_,h,k=>(match k with
  |.inl ⟨d,h2,h3⟩=>.inl ⟨d,h2.congr fun t _=>h t,Ju r (h.put _ _) h3⟩
  |.inr ⟨h1,h2⟩=>.inr ⟨h1,h2.congr (fun t _=>h t) fun d U' ⟨h3,h4⟩=>⟨h3,Ju r (h.put _ _) h4⟩⟩)
theorem UX{tab:Nat->Ty}(ht:BC P tab){o:Oper}(hr:F2 o.op=true)(ho:AJ n o=true)(hw:AY ops γ o=some true)(hd:kT tab γ S0 o.op=some d)
  (h:MO P ro n ops N S0 Q df l (putD o.dst d γ) V):MO P ro n ops N S0 Q df ((e,o)::l) γ V:=by
 refine .inl ⟨d,⟨ho,.inl ⟨by rw[Bg];exact hw,D3 hr,Le ht hd,fun U' hZ g w a hs hT=>?_⟩⟩,h⟩;refine GD ht hs hT (?_:kT tab (only (o.looksAt ops) γ) U' o.op=some d);rw[BO (V':=γ) fun x hx=>Cw hx];exact Io hZ hd
theorem Qo{tab:Nat->Ty}(ht:BC P tab)(hr:F2 op=true)(d6:decide (t<n)=true)(hl:A7 γ (Ac op.operands.toList)=some Sr)(hd:kT tab Sr S0 op=some d)
  (h:MO P ro n ops N S0 Q df l ((t,d)::γ) V):MO P ro n ops N S0 Q df ((e,⟨some t,op,ty,pos,after,none⟩)::l) γ V:=
 UX (o:=⟨some t,op,ty,pos,after,none⟩) ht hr d6 rfl ((BO (CK hl)) ▸ hd) h
theorem Nj{tab:Nat->Ty}(ht:BC P tab){j:Nat}{want:Bool}{k:Nat}(hr:F2 op=true)(d6:decide (t<n)=true)(hk:(ops[j]?).bind (·.dst)=some k)(hb:γ.lookup k=some (.bool want))(hl:A7 γ (Ac op.operands.toList)=some Sr)(hd:kT tab Sr S0 op=some d)
  (h:MO P ro n ops N S0 Q df l ((t,d)::γ) V):MO P ro n ops N S0 Q df ((e,⟨some t,op,ty,pos,after,some (j,want)⟩)::l) γ V:=
 UX (o:=⟨some t,op,ty,pos,after,some (j,want)⟩) ht hr d6 (by simp only[AY,De hk hb];simp) ((BO (CK hl)) ▸ hd) h
theorem Ni{j:Nat}{want:Bool}{k:Nat}(hk:(ops[j]?).bind (·.dst)=some k)(hb:γ.lookup k=some (.bool (!want)))(hs:ED N op=true)(d6:decide (t<n)=true)
  (h:MO P ro n ops N S0 Q df l ((t,.tup [])::γ) V):MO P ro n ops N S0 Q df ((e,⟨some t,op,ty,pos,after,some (j,want)⟩)::l) γ V:=
 UU (o:=⟨some t,op,ty,pos,after,some (j,want)⟩) (by simp only[AY,De hk hb];simp) d6 hs h
theorem Nh{j:Nat}{want:Bool}{k:Nat}(hk:(ops[j]?).bind (·.dst)=some k)(hb:γ.lookup k=some (.tup []))(hs:ED N op=true)(d6:decide (t<n)=true)
  (h:MO P ro n ops N S0 Q df l ((t,.tup [])::γ) V):MO P ro n ops N S0 Q df ((e,⟨some t,op,ty,pos,after,some (j,want)⟩)::l) γ V:=
 UU (o:=⟨some t,op,ty,pos,after,some (j,want)⟩) (by exact wantU hk hb) d6 hs h
theorem Yq{dst:Option Tmp}{j:Nat}{want b:Bool}{k:Nat}(hk:(ops[j]?).bind (·.dst)=some k)(hb:γ.lookup k=some (.bool b))
  (h1:b=true->MO P ro n ops N S0 Q df ((e,⟨dst,op,ty,pos,after,some (j,want)⟩)::l) ((k,.bool true)::γ) V) (h2:b=false->MO P ro n ops N S0 Q df ((e,⟨dst,op,ty,pos,after,some (j,want)⟩)::l) ((k,.bool false)::γ) V) :
  MO P ro n ops N S0 Q df ((e,⟨dst,op,ty,pos,after,some (j,want)⟩)::l) γ V:=by
 have al:∀c,b=c->lY ((k,.bool c)::γ) γ:=by
  rintro c rfl t
  rw[Aa]
  by_cases ht:t=k
  ·subst ht;rw[aS rfl,At hb]
  ·rw[aQ ht]
 cases b with
 |true=>exact Ju _ (al true rfl) (h1 rfl)
 |false=>exact Ju _ (al false rfl) (h2 rfl)
theorem UW{tab:Nat->Ty}(ht:BC P tab){o:Oper}(ho:AJ n o=true)(hw:AY ops γ o=some true)(he:eopD tab γ V o.op=some (d,U'))(hC:Sub S0 U')
  (h:MO P ro n ops N S0 Q df l (putD o.dst d γ) U'):MO P ro n ops N S0 Q df ((true,o)::l) γ V:=by
 refine .inr ⟨rfl,ho,by rw[Bg];exact hw,?_⟩;refine FM ht (by rw[Bg];exact hw) (by rw[BF (V':=γ) fun x hx=>Cw hx];exact he) ho (AU ⟨rfl,?_⟩);cases hd:o.dst with
 |none=>rw[hd]at h;exact⟨hC,h⟩
 |some t=>
  rw[hd]at h;simp only[putD,Aa,bI];exact⟨hC,h⟩
theorem Qq{tab:Nat->Ty}(ht:BC P tab)(hl:A7 γ (Ac op.operands.toList)=some Sr)(he:eopD tab Sr V op=some (d,U'))(d6:decide (t<n)=true)(hC:Sub S0 U')
  (h:MO P ro n ops N S0 Q df l ((t,d)::γ) U'):MO P ro n ops N S0 Q df ((true,⟨some t,op,ty,pos,after,none⟩)::l) γ V:=
 UW (o:=⟨some t,op,ty,pos,after,none⟩) ht d6 rfl ((BF (CK hl)) ▸ he) hC h
theorem Kj{tab:Nat->Ty}(ht:BC P tab)(hl:A7 γ (Ac op.operands.toList)=some Sr)(he:eopD tab Sr V op=some (d,U'))(hC:Sub S0 U')
  (h:MO P ro n ops N S0 Q df l γ U'):MO P ro n ops N S0 Q df ((true,⟨none,op,ty,pos,after,none⟩)::l) γ V:=
 UW (o:=⟨none,op,ty,pos,after,none⟩) ht rfl rfl ((BF (CK hl)) ▸ he) hC h
theorem Jt{fop:Operand}{args:Array Operand}{ats:Array TypeId}{f:Nat}{first cap us bs:fQ}{R:DE->Sig->Prop}{dst:Option Tmp}{guard:Option (Nat×Bool)}
  (hw:AY ops γ ⟨dst,(cv fop args ats),ty,pos,after,guard⟩=some true)
  (hl:A7 γ (Ac (fop::args.toList))=some Sr) (hf:ev Sr fop=.func (.func f) first cap) (ha:first++args.toList.map (ev Sr)++cap=us) (hb:bs=us\/bs=us.map D.plain) (h:aB P f bs V R)
  (ho:AJ n ⟨dst,(cv fop args ats),ty,pos,after,guard⟩=true)
  (d9:∀d U',R (.ret d) U'->Sub S0 U'/\MO P ro n ops N S0 Q df l (putD dst d γ) U')
  (e7:∀d U',R (.panic d) U'->∀V',Q (.panic d) ⟨V',U',df⟩) :
  MO P ro n ops N S0 Q df ((true,⟨dst,(cv fop args ats),ty,pos,after,guard⟩)::l) γ V:=by
 have hx:∀x∈fop::args.toList,ev Sr x=ev γ x:=fun x hx=>CA fun t ht=>Be hl t (BE (by rw[<-ht];exact hx))
 have gL:∀x∈((cv fop args ats)).operands,ev (only (Oper.looksAt ops ⟨dst,(cv fop args ats),ty,pos,after,guard⟩) γ) x=ev γ x:=fun x hx=>Cw (o:=⟨dst,(cv fop args ats),ty,pos,after,guard⟩) hx;refine .inr ⟨rfl,ho,by rw[Bg];exact hw,?_⟩;refine GY (first:=first) (cap:=cap) (f:=f) (R:=R) ?_ ?_ h ?_ ho ?_ ?_
 ·show AY ops (only _ γ) _=some true;rw[Bg];exact hw
 ·rw[gL fop (by simp[Op.operands,Call.operands]),<-hx fop k7];exact hf
 ·simp only
  rw[show args.toList.map (ev (only (Oper.looksAt ops ⟨dst,(cv fop args ats),ty,pos,after,guard⟩) γ))=args.toList.map (ev Sr) from bF fun x hm=>by
   rw[gL x (by simp at hm;simp[Op.operands,Call.operands,hm]),<-hx x (by simp[hm])],ha]
  rcases hb with rfl|rfl
  ·exact EC _
  ·exact G9 _
 ·intro d U' hR;obtain⟨h1,h2⟩:=d9 d U' hR;refine AU ⟨rfl,?_⟩;cases dst with
  |none=>exact⟨h1,h2⟩
  |some t=>simp only[putD,Aa,bI];exact⟨h1,h2⟩
 ·intro d U' hR;exact⟨rfl,e7 d U' hR⟩
theorem Ro{fop:Operand}{args:Array Operand}{ats:Array TypeId}{f:Nat}{first cap us bs:fQ}
  (hl:A7 γ (Ac (fop::args.toList))=some Sr) (hf:ev Sr fop=.func (.func f) first cap) (ha:first++args.toList.map (ev Sr)++cap=us) (hw:bs=us\/bs=us.map D.plain) (h:aB P f bs V (rS d V))
  (d6:decide (t<n)=true) (hC:Sub S0 V) (k:MO P ro n ops N S0 Q df l ((t,d)::γ) V) :
  MO P ro n ops N S0 Q df ((true,⟨some t,(cv fop args ats),ty,pos,after,none⟩)::l) γ V:=
 Jt rfl hl hf ha hw h d6 (fun d' U' ⟨e1,e2⟩=>by cases e1;subst e2;exact⟨hC,k⟩) (fun d' U' ⟨e1,e2⟩=>by cases e1)
theorem UY{fop:Operand}{args:Array Operand}{ats:Array TypeId}{f:Nat}{first cap us bs:fQ}{j:Nat}{want:Bool}{k:Nat}(hk:(ops[j]?).bind (·.dst)=some k)(hb:γ.lookup k=some (.bool want))
  (hl:A7 γ (Ac (fop::args.toList))=some Sr) (hf:ev Sr fop=.func (.func f) first cap) (ha:first++args.toList.map (ev Sr)++cap=us) (hw:bs=us\/bs=us.map D.plain) (h:aB P f bs V (rS d V))
  (d6:decide (t<n)=true) (hC:Sub S0 V) (kk:MO P ro n ops N S0 Q df l ((t,d)::γ) V) :
  MO P ro n ops N S0 Q df ((true,⟨some t,(cv fop args ats),ty,pos,after,some (j,want)⟩)::l) γ V:=
 Jt (by simp only[AY,De hk hb];simp) hl hf ha hw h d6 (fun d' U' ⟨e1,e2⟩=>by cases e1;subst e2;exact⟨hC,kk⟩) (fun d' U' ⟨e1,e2⟩=>by cases e1)
end
section
variable {P:Program}{ro:Option Nat}{n:Nat}{ops:Array Oper}{Q:DX->St->Prop}{df:List DDf}{rest:List Oper}{γ Sr Sr2:List (Nat×D)}{V:Sig}{t t2:Nat}{d d2:D}
theorem Um{tab:Nat->Ty}(ht:BC P tab)(vars:fU){T T' ty ty' ty2:Nat}{x y:Operand}{pos pos' pos2:String}{after after' after2:Array Edge}{cs:fQ}(hv:vars.contains t=false)(hT:T'=T)(d6:decide (t<n)=true)(gD:decide (t2<n)=true)(hx:FW t x=true)(hy:FW t y=true)(gB:FW t2 x=true)(gA:decide (t2=t)=false)(ho:A5 (tab T).k=false)
  (gN:A7 γ (Ac [y])=some Sr2) (gP:ev Sr2 y=d2) (hl:A7 γ (Ac [x])=some Sr) (he:ev Sr x=d) (d8:d.told=true) (hc:d.cells=cs) (hlen:cs.length=(tab T).size) (fX:Dq cs=true)
  (h:aC P ro n ops Q rest ⟨(t,.aw cs 0)::(t2,d2)::γ,V,df⟩) :
  aC P ro n ops Q (⟨some t,.alloc T,ty,pos,after,none⟩::⟨some t2,.assign y,ty2,pos2,after2,none⟩::⟨none,.store T' (.tmp t) x,ty',pos',after',none⟩::rest) ⟨γ,V,df⟩:=by
 rw[Cz hl]at he;rw[Cz gN]at gP;subst he;subst gP;subst hT;subst hc;have gA:t2≠t:=by simpa using gA
 have hx:=I0 ht hx;have hy:=I0 ht hy;have gB:=I0 ht gB;refine El ht ho (by simpa using d6) fun i hi=>?_
 have ij:ev ((t,.ptr i 0)::γ) y=ev γ y:=by
  cases y with
  |tmp k=>simp only[ev,Aa];rw[aQ fun e=>hy (by rw[e])]
  |_=>rfl
 refine Im (d:=ev γ y) ht rfl rfl (by rw[<-ij];rfl) gD ?_;simp only[putD]
 have gw:ev ((t2,ev γ y)::(t,.ptr i 0)::γ) x=ev γ x:=by
  cases x with
  |tmp k=>simp only[ev,Aa];rw[aQ fun e=>gB (by rw[e]),aQ fun e=>hx (by rw[e])]
  |_=>rfl
 have hz:(tab T').zero.length=(tab T').size:=by
  obtain⟨_,_,_,_,_,_,_,_,_,_,h8,_⟩:=Db (ht T') (Aj ho);exact h8
 refine Mu ht rfl ho (x:=.tmp t) (i:=i) (off:=0) (by simp[ev,Aa,aZ gA]) (w7 ..) (by rw[gw];exact d8) (by rw[gw];exact hlen) (by rw[gw];exact fX) (by rw[gw];omega) ?_;rw[gw];refine Cd (HF (i:=i) (t:=t) (w7 ..) (by simp[Aa,aZ gA])) ?_
 have e1:(tab T').zero.take 0++(ev γ x).cells++(tab T').zero.drop (0+(ev γ x).cells.length)=(ev γ x).cells:=by
  rw[dm k0];simp
 rw[w9,Sig.set_del _ _ hi,e1];refine Dj (γ:=(t,.aw (ev γ x).cells 0)::(t2,ev γ y)::γ) (fun k=>?_) h;simp only[Aa];split
 ·rfl
 ·split<;>rfl
end
end Go.DL
