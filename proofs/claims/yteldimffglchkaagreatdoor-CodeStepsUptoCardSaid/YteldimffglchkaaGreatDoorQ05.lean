/- A part of the proof. -/
import Derived.Test.YteldimffglchkaaGreatDoorQ04
set_option linter.all false
namespace Go.DL
open Go
def only(L:eQ)(γ:Fr):Fr:=L.map fun t=>(t,getD γ t)
def HC(γ:Fr)(t:Nat): ∀L:eQ,getD (only L γ) t=if t∈L then getD γ t else .any
 |[]=>rfl
 |a::L=>by
  have ih:=HC γ t L;unfold only at ih⊢;rw[bd,A8]
  by_cases h:t=a
  ·subst h;simp
  ·simp only[h,bc,ih,aY,false_or]
def Mz{g:G}{γ:Fr}{n:Nat}{tmps:Array Value}(L:eQ)(h:kA g γ n tmps):kA g (only L γ) n tmps:=
 ⟨h.1,fun t=>by
  rw[HC]
  by_cases ht:t∈L
  ·rw[aG ht];exact h.2 t
  ·rw[aE ht];trivial⟩
def I8{L:eQ}{γ V':Fr}(h:∀t∈L,getD γ t=getD V' t):only L γ=only L V':=
 ca fun t ht=>by rw[h t ht]
def Bf{γ:Fr}{ops:Array Oper}{o:Oper}{x:Operand}(h:x∈o.op.operands):ev (only (o.looksAt ops) γ) x=ev γ x:=by
 cases x with
 |tmp t=>simp only[ev,HC];rw[aG (Hq h)]
 |_=>rfl
def Ar{γ:Fr}{ops:Array Oper}{o:Oper}:AJ ops (only (o.looksAt ops) γ) o=AJ ops γ o:=
 J4 fun t ht=>by rw[HC,aG ht]
section mono
variable {tab:Nat->Ty}{O U':Sig}(h:Sub O U'){γ:List (Nat×D)}
include h
theorem HP{x:D}{l:List (D×D)}(e:CS O x=some l):CS U' x=some l:=by
 unfold CS at e⊢;split at e
 ·exact e
 ·exact e
 ·rename_i id;split at e<;>(try (cases e;done));rename_i l' hi;rw[h _ _ hi];exact e
 ·cases e
theorem loadT_mono{ty:Ty}{x d:D}(e:Kj ty O x=some d):Kj ty U' x=some d:=by
 unfold Kj at e⊢;split at e
 ·cases e
 ·rename_i hk;rw[aE hk];unfold Kk at e⊢;split at e
  ·exact e
  ·rename_i id off;cases hi:O id with
   |none=>simp[hi,Eg]at e
   |some ob=>rw[h _ _ hi,<-hi];exact e
  ·cases e
theorem Xw{op:Op}{d:D}(e:dop tab γ O op=some d):dop tab γ U' op=some d:=by
 cases op<;>first|exact e|(simp only[dop]at e⊢; exact loadT_mono h e)|skip
 case call c=>
  obtain⟨callee,args,ats⟩:=c;cases callee<;>try exact e
  rename_i b;cases b<;>exact e
theorem Vh{op:Op}{d:D}(e:kj tab γ O op=some d):kj tab γ U' op=some d:=by
 cases op<;>first|exact e|skip
 case lookup t x k ok=>
  simp only[kj]at e⊢;unfold H1 at e⊢;split at e<;>(try (cases e;done));rename_i kt et hk;split at e<;>(try (cases e;done));rename_i hc;rw[aE hc];split at e<;>(try (cases e;done));rename_i l hl;rw[HP h hl];exact e
 case call c=>
  simp only[kj]at e⊢;unfold GF at e⊢;split at e<;>(try (exact e))<;>(try (cases e;done));unfold Ie at e⊢;split at e<;>(try (cases e;done));rename_i _ _ x _ _;split at e<;>(try (cases e;done));cases hl:CS O (ev γ x)with
  |none=>rw[hl]at e;cases e
  |some l=>rw[hl]at e;rw[HP h hl];exact e
theorem Ey{op:Op}{d:D}(e:jX tab γ O op=some d):jX tab γ U' op=some d:=by
 have key:dop tab γ O op=none->dop tab γ U' op=none\/kj tab γ O op=none:=by
  intro hn;cases op<;>first|exact .inl hn|exact .inr rfl|skip
  case call c=>
   obtain⟨callee,args,ats⟩:=c;cases callee<;>first|exact .inl hn|skip
   rename_i b;cases b<;>exact .inl hn
 unfold jX at e⊢;split at e
 ·rename_i d' hd;rw[Xw h hd];exact e
 ·rename_i hd;rcases key hd with hc|hc
  ·rw[hc];exact Vh h e
  ·rw[hc]at e;cases e
end mono
section
variable (P:Program)(ro:Ro)(n:Nat)(ops:Array Oper)(N:Nat)(S0:Sig)(Q:DX->St->Prop)(df:List DDf)
def EQ(dst:Option Tmp)(R Rp:D->Sig->Prop):DX->St->Prop
 |.normal,s=>s.df=df/\R (match dst with|some t=>getD s.γ t|none=>.any) s.O
 |.panic d,s=>s.df=df/\Rp d s.O
 |_,_=>False
structure Calm(γ:Fr)(o:Oper)(d:D):Prop where
 ok:Ax n o=true
 run:(AJ ops (only (o.looksAt ops) γ) o=some true/\(∀c,o.op≠.defer c)/\(∀(w:World) (ρ:Operand->Value) f,o.about P w ρ=some f->False) /\
   ∀O,Sub S0 O->∀g w (a:Act),Sim P g O w->kA g (only (o.looksAt ops) γ) n a.tmps->ORun P g O d (execOp a.eval o) w) \/
  (AJ ops (only (o.looksAt ops) γ) o=some false/\EE N o.op=true/\(d=.any\/d=.tup [])) \/
  (AJ ops (only (o.looksAt ops) γ) o=some true /\ ∀O,Sub S0 O->∀ro df,au P ro n ops (EQ df o.dst (fun d' U'=>d'=d/\Sub O U') fun _ _=>False) [o] ⟨only (o.looksAt ops) γ,O,df⟩)
structure Eff(γ:Fr)(O:Sig)(o:Oper)(R Rp:D->Sig->Prop):Prop where
 ok:Ax n o=true
 want:AJ ops (only (o.looksAt ops) γ) o=some true
 run:au P ro n ops (EQ df o.dst R Rp) [o] ⟨only (o.looksAt ops) γ,O,df⟩
def MOps (E:eQ):eQ->Fr->Sig->Prop
  |[],γ,O=>au P ro n ops Q [] ⟨γ,O,df⟩
  | i::r,γ,O => ∃ o,ops[i]? = some o /\
    ((∃ d,Calm P n ops N S0 γ o d/\MOps E r (putD o.dst d γ) O) \/
     (E.contains i=true/\Eff P ro n ops df γ O o (fun d U'=>Sub S0 U'/\MOps E r (putD o.dst d γ) U') (fun d U'=> ∀V',Q (.panic d) ⟨V',U',df⟩)))
end
section
variable {P:Program}{ro:Ro}{n:Nat}{ops:Array Oper}{N:Nat}{S0:Sig}{Q:DX->St->Prop}{df:List DDf}{E:eQ}
theorem Calm.congr{γ V':Fr}{o:Oper}{d:D}(h:∀t∈o.looksAt ops,getD γ t=getD V' t)(hy:Calm P n ops N S0 γ o d):Calm P n ops N S0 V' o d:=by
 have e:=I8 h;exact⟨hy.ok,by rw[<-e];exact hy.run⟩
theorem Cv {Q':DX->St->Prop} (hq : ∀ x s,Q x s->Q' x s) {g:G} {r:Rx} : ∀ (l:List Oper) {a:Act} {w:World},wpListIn (FX P r) 0 P ops (kE P g n Q) l a w->wpListIn (FX P r) 0 P ops (kE P g n Q') l a w
  |[],_,_,⟨g',s',x,h1,h2,h3,h4⟩=>⟨g',s',x,h1,h2,h3,hq _ _ h4⟩
  | o::l,a,w,h=>by
    have pq:∀{e a w},kE P g n Q e a w->kE P g n Q' e a w:=fun ⟨g',s',x,h1,h2,h3,h4⟩=>⟨g',s',x,h1,h2,h3,hq _ _ h4⟩;unfold wpListIn at h⊢;split
    · rename_i hw
      rw[aG hw]at h;refine⟨h.1,?_⟩;have h2:=h.2;revert h2;generalize (o.semAt (FX P r).round a.eval).run P w=res;cases res with
      | ok nx w' =>
        cases nx<;>simp only[Oper.uponIn]<;>first
          |exact fun h=>Cv hq l h
          | (rintro ⟨h1,h2⟩
             refine⟨h1,?_⟩
             first
               | (refine h2.mono ?_
                  intro e w'' he
                  cases e<;>first
                    |exact Cv hq l he
                    |exact pq he
                    |(obtain⟨a0,w0,he⟩:=he;exact⟨a0,w0,pq he⟩))
               | (refine h2.mono ?_
                  intro v w'' he
                  exact Cv hq l he))
          |exact fun h=>h
      |halt x w'=>cases x<;>simp only[Oper.uponIn]<;>first|exact fun h=>pq h|exact fun h=>h
    · rename_i hw
      rw[aE hw]at h;exact⟨h.1,Cv hq l h.2⟩
theorem NG{l:List Oper}{s:St}{Q':DX->St->Prop}(h:au P ro n ops Q l s)(hq:∀x s,Q x s->Q' x s):au P ro n ops Q' l s:=
 fun g w a r hr hs=>Cv hq l (h g w a r hr hs)
theorem Eff.congr{γ V':Fr}{O:Sig}{o:Oper}{R R' Rp:D->Sig->Prop}(h:∀t∈o.looksAt ops,getD γ t=getD V' t)(hy:Eff P ro n ops df γ O o R Rp)(hR:∀d U',R d U'->R' d U'):Eff P ro n ops df V' O o R' Rp:=by
 have e:=I8 h;refine⟨hy.ok,by rw[<-e];exact hy.want,?_⟩;rw[<-e];refine NG hy.run fun x s hx=>?_;cases x with
 |normal=>exact⟨hx.1,hR _ _ hx.2⟩
 |panic d=>exact hx
 |_=>exact hx
theorem MOps.alike: ∀(l:eQ) {γ V':Fr}{O:Sig},kP γ V'->MOps P ro n ops N S0 Q df E l γ O->MOps P ro n ops N S0 Q df E l V' O
 |[],_,_,_,h,k=>Cn h k
 |i::r,_,_,_,h,⟨o,ho,k⟩=>⟨o,ho,(match k with
  |.inl ⟨d,h2,h3⟩=>.inl ⟨d,h2.congr fun t _=>h t,MOps.alike r (h.put _ _) h3⟩
  |.inr ⟨h1,h2⟩=>.inr ⟨h1,h2.congr (fun t _=>h t) fun d U' ⟨h3,h4⟩=>⟨h3,MOps.alike r (h.put _ _) h4⟩⟩)⟩
theorem Ia{i:Nat}{oi:Oper}(hi:ops[i]? = some oi)(post:eQ): ∀(pre:eQ) (γ:Fr) (O:Sig),
  (∀x∈pre,E.contains x=false /\ ∃ox,ops[x]? = some ox/\oi.apart ops ox=true)->MOps P ro n ops N S0 Q df E (pre++i::post) γ O->MOps P ro n ops N S0 Q df E (i::(pre++post)) γ O
 |[],_,_,_,h=>h
 | x::pre,γ,O,hp,h=>by
  obtain⟨fG,ox,fc,fV⟩:=hp x j1;obtain⟨a1,a2,a3⟩:=Oper.apart_spec fV;obtain⟨ox',fb,hx⟩:=h;obtain rfl:ox'=ox:=by rw[fc]at fb;cases fb;rfl
  rcases hx with⟨d,hy,h⟩|⟨hE,_⟩
  ·obtain⟨oi',fe,hh⟩:=Ia hi post pre _ O (fun y hy=>hp y (by simp[hy])) h;obtain rfl:oi'=oi:=by rw[hi]at fe;cases fe;rfl
   refine⟨oi',hi,?_⟩;rcases hh with⟨e,h2,h3⟩|⟨h1,h2⟩
   ·refine .inl ⟨e,h2.congr fun t ht=>Al fun hd=>a3 t hd ht,ox',fc,.inl ⟨d,hy.congr fun t ht=>(Al fun hd=>a1 t hd ht).symm,?_⟩⟩;exact MOps.alike _ (AN _ _ _ fun t p q=>a2 t p q) h3
   ·refine .inr ⟨h1,h2.congr (fun t ht=>Al fun hd=>a3 t hd ht) fun e U' ⟨h3,h4⟩=>⟨h3,ox',fc,.inl ⟨d,hy.congr fun t ht=>(Al fun hd=>a1 t hd ht).symm,?_⟩⟩⟩;exact MOps.alike _ (AN _ _ _ fun t p q=>a2 t p q) h4
  ·rw[fG]at hE;cases hE
def mixB(ops:Array Oper)(E:eQ):eQ->eQ->Bool
 |_,[]=>true
 | done,i::r => !done.contains i && (match ops[i]? with
  |some o=>(o.after.all fun e=> !Region.binds .any e||done.contains e.on)&&done.all fun x=>(!E.contains x&&match ops[x]? with
   |some ox=>o.apart ops ox
   |none=>false)||reach ops ops.size i x
  |none=>false)&&mixB ops E (i::done) r
theorem G3{i:Nat}{l2:eQ}: ∀(l1 done:eQ),mixB ops E done (l1++i::l2)=true->i∉l1/\i∉done/\i∉l2 /\ ∃o,ops[i]? = some o/\(∀e∈o.after,Region.binds .any e=true->e.on∈l1\/e.on∈done) /\
   ∀x,x∈l1->reach ops ops.size i x=true\/(E.contains x=false /\ ∃ox,ops[x]? = some ox/\o.apart ops ox=true)
 | [],done,h=>by
  simp only[bG,mixB,aF,bp,bS,bh]at h;obtain⟨⟨h1,h2⟩,h3⟩:=h
  have later:∀(l d:eQ),i∈d->mixB ops E d l=true->i∉l:=by
   intro l
   induction l with
   |nil=>intro _ _ _ h;cases h
   |cons y l ih=>
    intro d hd hm b7;simp only[mixB,aF,bp,bS,bh]at hm;obtain⟨⟨m1,_⟩,m3⟩:=hm;rcases aY.1 b7 with rfl|b7
    ·exact m1 hd
    ·exact ih (y::d) (by simp[hd]) m3 b7
  refine⟨j1,h1,later l2 _ j1 h3,?_⟩;split at h2
  ·rename_i o ho;simp only[aF]at h2;refine⟨o,ho,fun e he hb=>?_,fun x hx=>by cases hx⟩;have:=bW.1 h2.1 e he;simp only[hb,cr,cO,bS,aH]at this;exact .inr this
  ·cases h2
 | y::l1,done,h=>by
  simp only[bH,mixB,aF]at h;obtain⟨h1,h2,h3,o,ho,he,hx⟩:=G3 l1 (y::done) h.2;have fN:i≠y:=fun e=>h2 (by simp[e])
  refine⟨by simp[fN,h1],fun hd=>h2 (by simp[hd]),h3,o,ho,fun e hm hb=>?_,?_⟩
  ·rcases he e hm hb with h4|h4
   ·exact .inl (by simp[h4])
   ·rcases aY.1 h4 with h5|h5
    ·exact .inl (by simp[h5])
    ·exact .inr h5
  ·intro x b7;rcases aY.1 b7 with rfl|b7
   ·
    have back:∀(l d:eQ),x∈d->mixB ops E d (l++i::l2)=true->reach ops ops.size i x=true\/(E.contains x=false /\ ∃ox,ops[x]? = some ox/\o.apart ops ox=true):=by
     intro l
     induction l with
     | nil =>
      intro d hd hm;simp only[bG,mixB,aF,ho]at hm;have:=aW.1 hm.1.2.2 x hd;simp only[bR,aF,bp]at this;rcases this.symm with h4|⟨h4,h5⟩
      ·exact .inl h4
      ·refine .inr ⟨h4,?_⟩;split at h5
       ·rename_i ox fc;exact⟨ox,fc,h5⟩
       ·cases h5
     |cons z l ih=>
      intro d hd hm;simp only[bH,mixB,aF]at hm;exact ih (z::d) (by simp[hd]) hm.2
    exact back l1 _ j1 h.2
   ·exact hx x b7
def FE(ops:Array Oper)(E ord:eQ):Bool:=mixB ops E [] ord&&(List.range ops.size).all ord.contains&&ord.length==ops.size
theorem Cs {K:Act->World->Prop} {g0 g:G} {w:World} {a:Act} {r:Rx} {γ:Fr} {O:Sig} {o:Oper} {R Rp:D->Sig->Prop} (hr:kh g ro r) (hg:g0.le g)
    (hs:kI P g n ⟨γ,O,df⟩ a w) (hE:Eff P ro n ops df γ O o R Rp) (hK:∀g' w' a' d U',g.le g'->R d U'->kI P g' n ⟨putD o.dst d γ,U',df⟩ a' w'->K a' w')
    (hp:∀d U',Rp d U'->∀V',Q (.panic d) ⟨V',U',df⟩) :
    (if Region.wanted o (yielded ops a.tmps) then o.wpIn (FX P r) 0 P a w K (kE P g0 n Q) else(∀f,o.about P w a.eval=some f->(FX P r).fn f)/\K (a.put o.dst undef) w):=by
  have fA:kI P g n ⟨only (o.looksAt ops) γ,O,df⟩ a w:=⟨hs.sim,Mz _ hs.tmps,hs.df⟩;have h:=hE.run g w a r hr fA;have hw:=AW fA.tmps hE.want;rw[hw,aG rfl];unfold wpListIn at h;rw[hw,aG rfl]at h
  have fin:∀(a':Act) (w':World) (v:Value),a'.tmps=(a.put o.dst v).tmps->wpListIn (FX P r) 0 P ops (kE P g n (EQ df o.dst R Rp)) [] a' w'->K a' w':=by
    rintro a' w' v hv ⟨g',s',x,l1,l2,l3,l4⟩
    cases x with
    | normal =>
      obtain⟨e1,e2⟩:=l4;refine hK g' w' a' _ s'.O l1 e2 ⟨l2.sim,⟨l2.tmps.1,fun t=>?_⟩,by rw[<-e1];exact l2.df⟩;cases hd:o.dst with
      | none =>
        rw[hd]at hv;simp only[putD,Act.put]at hv⊢;rw[hv];exact Rep.mono l1 _ (hs.tmps.2 t)
      | some k =>
        rw[hd]at hv;simp only[putD,A8]
        by_cases hk:t=k
        · subst hk;rw[aG rfl];exact l2.tmps.2 t
        · rw [aE hk,hv]
          simp only[Act.put];rw[show(a.tmps.setIfInBounds k v).getD t undef=a.tmps.getD t undef by simp[cK, cP (cg hk)]];exact Rep.mono l1 _ (hs.tmps.2 t)
    |ret=>cases l3
    |exit _=>cases l3
    |panic _=>obtain⟨v,l3,_⟩:=l3;cases l3
  have pan:∀(c:List PanicEntry) (w':World),kE P g n (EQ df o.dst R Rp) (.panic c) a w'->kE P g0 n Q (.panic c) a w':=by
    rintro c w' ⟨g',s',x,l1,l2,l3,l4⟩
    cases x with
    |normal=>cases l3
    |ret=>cases l3
    |exit _=>cases l3
    |panic d=>exact⟨g',⟨γ,s'.O,df⟩,.panic d,hg.trans l1,⟨l2.sim,hs.tmps.mono l1,by rw[<-l4.1];exact l2.df⟩,l3,hp d _ l4.2 γ⟩
  have lets:LetsOut (kE P g n (EQ df o.dst R Rp))->LetsOut (kE P g0 n Q):=by
    rintro⟨a0,w0,g',s',x,l1,l2,l3,l4⟩
    cases x with
    |panic _=>obtain⟨v,l3,_⟩:=l3;cases l3
    |_=>cases l3
  refine⟨h.1,?_⟩;have h2:=h.2;revert h2;generalize (o.semAt (FX P r).round a.eval).run P w=res;cases res with
  | ok nx w' =>
    cases nx<;>simp only[Oper.uponIn]<;>first
      |exact fun h=>fin _ _ _ rfl h
      |exact fun h=>fin _ _ undef (by simp[Act.put];cases o.dst<;>rfl) h
      | (rintro ⟨h1,h2⟩
         refine⟨h1,?_⟩
         first
           | (refine h2.mono ?_
              intro e w'' he
              cases e<;>first
                |exact fin _ _ _ rfl he
                |exact pan _ _ he
                |exact lets he)
           | (refine h2.mono ?_
              intro v w'' he
              exact fin _ _ _ rfl he))
      |exact fun h=>h
  |halt x w'=>cases x<;>simp only[Oper.uponIn]<;>first|exact fun h=>pan _ _ h|exact fun h=>h
theorem Ez(hN:P.funcs.size=N){K:Act->World->Prop}{g0 g:G}{w:World}{a:Act}{r:Rx}{γ:Fr}{O:Sig}{o:Oper}{d:D}(hr:kh g ro r)(hg:g0.le g)
  (hs:kI P g n ⟨γ,O,df⟩ a w) (hC:Sub S0 O) (hy:Calm P n ops N S0 γ o d)
  (hK:∀g' w' a',g.le g'->kI P g' n ⟨putD o.dst d γ,O,df⟩ a' w'->K a' w') :
  (if Region.wanted o (yielded ops a.tmps) then o.wpIn (FX P r) 0 P a w K (kE P g0 n Q) else(∀f,o.about P w a.eval=some f->(FX P r).fn f)/\K (a.put o.dst undef) w):=by
 have hT:=Mz (o.looksAt ops) hs.tmps;rcases hy.run with⟨hw,fK,fW,hd⟩|⟨hw,fI,fU⟩|⟨hw,hd⟩
 ·rw[AW hT hw,aG rfl];refine⟨fun f hf=>(fW _ _ f hf).elim,?_⟩;obtain⟨g',w',v,h1,h2,h3,h4⟩:=hd O hC g w a hs.sim hT;rw[cX _ _ _ fK,h1];exact hK g' w' _ h2 (hs.put h2 h3 h4 hy.ok)
 ·rw[AW hT hw,aE j1];refine⟨fun f hf=>GK (Ip (by rw[hN];exact fI) w _ f hf (fun _=>rfl)) _,?_⟩;have h0:Rep g d undef:=by rcases fU with rfl|rfl;exact trivial;exact⟨[],rfl,rfl⟩
  exact hK g w _ (.refl g) (hs.put (.refl g) hs.sim h0 hy.ok)
 ·exact Cs (Q:=Q) hr hg hs ⟨hy.ok,hw,hd O hC ro df⟩ (fun g' w' a' d' U' fg hR b8=>by
   obtain⟨rfl,fp⟩:=hR
   exact hK g' w' a' fg ⟨b8.sim.sub fp,b8.tmps,b8.df⟩) (fun _ _ h=>h.elim)
theorem Av{l:eQ}{listed:Array Bool}{i:Nat}(h:i∉l):l.filter (fun j=> !(listed.setIfInBounds i true).getD j true)=l.filter fun j=> !listed.getD j true:=
 List.filter_congr fun j hj=>by rw[getD_set_ne true (show i≠j from fun e=>h (by rw[e];exact hj))]
theorem Wc(hN:P.funcs.size=N){ord:eQ}(hB:FE ops E ord=true){g0:G}{rr:Rx}(hr:kh g0 ro rr): ∀(m:Nat) (r:eQ) (listed:Array Bool) (γ:Fr) (O:Sig),r.length=m->listed.size=ops.size->
  r=ord.filter (fun i=> !listed.getD i true)->kC ops listed->MOps P ro n ops N S0 Q df E r γ O->Sub S0 O->
   ∀(g:G) (w:World) (a:Act),g0.le g->kI P g n ⟨γ,O,df⟩ a w->wpAnyIn (FX P rr) 0 P .any ops (kE P g0 n Q) m listed a w:=by
 unfold FE at hB;simp only[aF]at hB;obtain⟨⟨d6,fv⟩,_⟩:=hB
 have b7:∀(r:eQ) (listed:Array Bool),r=ord.filter (fun i=> !listed.getD i true)->∀i∈Region.ready .any ops listed,i∈r:=by
  intro r listed hf i hi;obtain⟨h1,o,ho,_⟩:=mem_ready.1 hi;have:=aW.1 fv i (by simpa using(aI.1 ho).1);rw[hf,bI];exact⟨by simpa using this,by rw[h1];rfl⟩
 intro m
 induction m with
 |zero=>
  intro r listed γ O hl hsz hf fa h hC g w a hg hs;obtain rfl:r=[]:=bf.1 hl;refine⟨cy.2 fun i hi=>?_,?_⟩
  ·have:=b7 [] listed hf i hi;cases this
  ·exact kE.le hg (h g w a rr (hr.mono hg) hs)
 | succ m ih =>
  intro r listed γ O hl hsz hf fa h hC g w a hg hs;obtain⟨y,t,rfl⟩:∃y t,r=y::t:=by cases r with|nil=>cases hl|cons y t=>exact⟨y,t,rfl⟩
  refine⟨fun he=>?_,fun i hi=>?_⟩
  ·exfalso
   obtain⟨l1,l2,eY,fM,hy,fD⟩:=bQ.1 hf.symm;subst eY;obtain⟨h1,_,_,o,ho,fE,_⟩:=G3 l1 [] d6
   have:y∈Region.ready .any ops listed:=by
    refine mem_ready.2 ⟨by simpa using hy,o,ho,fun e hm hb=>?_⟩;rcases fE e hm hb with h4|h4
    ·have h5:=fM _ h4;simp only[bZ,dm]at h5
     have d8:e.on<listed.size:=by
      have:e.on∈l1++y::l2:=by simp[h4]
      obtain⟨p1,p2,hp⟩:=bM this;rw[hp]at d6;obtain⟨_,_,_,o',eU,_⟩:=G3 p1 [] d6;rw[hsz];exact(aI.1 eU).1
     simpa[d8] using h5
    ·cases h4
   rw[he]at this;cases this
  ·obtain⟨pre,post,eX⟩:=bM (b7 _ listed hf i hi);rw[eX]at hf h hl;obtain⟨l1',l2',eY,fu,fR⟩:=cG.1 hf.symm;obtain⟨m1,m2,fq,fL,fX,fQ⟩:=bQ.1 fR;have d9:ord=(l1'++m1)++i::m2:=by rw[eY,fq];simp
   rw[d9]at d6;obtain⟨n1,_,n3,o,ho,fE,hx⟩:=G3 (l1'++m1) [] d6;obtain⟨fO,o',eU,fi⟩:=mem_ready.1 hi;obtain rfl:o'=o:=by rw[ho]at eU;cases eU;rfl
   have eZ:=Ia ho post pre γ O (fun x fy=>by
    have fH:x∈l1'++m1:=by
     have:x∈l1'.filter (fun i=> !listed.getD i true):=by rw[fu];exact fy
     simp[(bI.1 this).1]
    have fw:listed.getD x true=false:=by
     have:x∈l1'.filter (fun i=> !listed.getD i true):=by rw[fu];exact fy
     simpa using(bI.1 this).2
    rcases hx x fH with h4|h4
    ·exfalso
     have:=CP fa ops.size i x o' ho fi h4
     rcases ce x listed.size with d8|d8
     ·simp[d8]at this fw;rw[fw]at this;cases this
     ·simp[cb d8]at this
    ·exact h4) h
   have eV:pre++post=ord.filter (fun j=> !(listed.setIfInBounds i true).getD j true):=by
    have fP:i<listed.size:=by
     rw[hsz];exact(aI.1 ho).1
    rw[d9,bV,cw];have e1:(listed.setIfInBounds i true).getD i true=true:=by simp[fP]
    rw[e1,Av n1,Av n3];simp only[cr,bm,bc,bV,fu,fQ];rw[cB.2 (fun x hx=>by simpa using fL x hx),bl]
   have hlen:(pre++post).length=m:=by simp at hl⊢; omega
   obtain⟨o2,fC,hh⟩:=eZ;obtain rfl:o2=o':=by rw[ho]at fC;cases fC;rfl
   unfold wpOpIn;simp only[ho];rcases hh with⟨d,hy,hM⟩|⟨_,hE⟩
   ·exact Ez hN (hr.mono hg) hg hs hC hy fun g' w' a' fg b8=>ih _ _ _ _ hlen (by simpa using hsz) eV (fa.set hi) hM hC g' w' a' (hg.trans fg) b8
   ·exact Cs (hr.mono hg) hg hs hE (fun g' w' a' d U' fg hR b8=>ih _ _ _ _ hlen (by simpa using hsz) eV (fa.set hi) hR.2 hR.1 g' w' a' (hg.trans fg) b8) fun d U' hp=>hp
theorem D4{n:Nat}: ∀{l:eQ},(∀i∈l,i<n)->l.filter (fun i=> !(Array.replicate n false).getD i true)=l:=by
 intro l h;rw[List.filter_eq_self];intro i hi;simp[h i hi]
theorem dwp_mix(hN:P.funcs.size=N)(hm:P.follows .mixedOrders=true){l:List Oper}{id:Nat}{γ:Fr}{O:Sig}(ord E:eQ)(S0:Sig)(hB:FE l.toArray E ord=true)(hC:Sub S0 O)
  (h:MOps P ro n l.toArray N S0 Q df E ord γ O):DWp P ro n (.region id l.toArray true) Q ⟨γ,O,df⟩:=by
 intro g w a r hr hs;refine wpIn_region_any hm ?_
 have fa:kC l.toArray (Array.replicate l.toArray.size false):=by
  intro q o _ hq;rcases ce q l.length with h'|h'
  ·simp[h']at hq
  ·simp[h']at hq
 have b8:kI P g n ⟨γ,O,df⟩ a { w with drawn:=w.drawn+1 }:=
  ⟨⟨fun b o v h=>hs.sim.imm b o v h,hs.sim.keep,fun i o h=>by
   have:=hs.sim.obj i o h
   cases o<;>exact this,hs.sim.inj,hs.sim.free,hs.sim.htop,hs.sim.hdom,hs.sim.fin,hs.sim.io,hs.sim.tab⟩,hs.tmps,hs.df⟩
 have d8:∀i∈ord,i<l.toArray.size:=by
  intro i hi;obtain⟨p1,p2,hp⟩:=bM hi;have eW:=hB;unfold FE at eW;simp only[aF]at eW;rw[hp]at eW;obtain⟨_,_,_,o',eU,_⟩:=G3 p1 [] eW.1.1;exact(aI.1 eU).1
 have hlen:ord.length=l.toArray.size:=by
  have eW:=hB;unfold FE at eW;simp only[aF,cR]at eW;exact eW.2
 have:=Wc hN hB hr ord.length ord (Array.replicate l.toArray.size false) γ O rfl j1 (D4 d8).symm fa h hC g _ a (.refl g) b8;rw[hlen]at this;exact this
end
def Jp{α β:Type}{f f':α->β}: ∀{x:Option α},(∀a,x=some a->f a=f' a)->x.map f=x.map f'
 |none,_=>rfl
 |some a,h=>by rw[bx,bx,h a rfl]
def Rc{tab:Nat->Ty}{γ V':Fr}{O:Sig}{op:Op}(h:∀x∈op.operands,ev γ x=ev V' x):kj tab γ O op=kj tab V' O op:=by
 cases op<;>simp only[Op.operands]at h<;>simp only[kj]
 case slice t x lo hi mx=>
  rw[h x j1];have e1:lo.map (ev γ)=lo.map (ev V'):=Jp fun a ha=>h a (by simp[ha])
  have e2:hi.map (ev γ)=hi.map (ev V'):=Jp fun a ha=>h a (by simp[ha])
  have e3:mx.map (ev γ)=mx.map (ev V'):=Jp fun a ha=>h a (by simp[ha])
  rw[e1,e2,e3]
 case lookup t x k ok=>rw[h x j1,h k j1]
 case typeAssert x s t ok=>rw[h x j1]
 case build t parts=>
  have hp:∀p∈parts.toList,ev γ p.2=ev V' p.2:=fun p hp=>h p.2 (by simp;exact⟨p.1,by simpa using hp⟩)
  rw[show(parts.toList.map fun p=>(p.1,ev γ p.2))=parts.toList.map fun p=>(p.1,ev V' p.2) from ca fun p fJ=>by rw[hp p fJ]]
 case call c=>
  obtain⟨callee,args,ats⟩:=c;cases callee<;>try rfl
  rename_i b;obtain⟨args⟩:=args;obtain⟨ats⟩:=ats;cases b<;>try rfl
  ·simp only[GF,Ie];split
   ·rename_i x;rw[h x (by simp[Call.operands])]
   ·rfl
  ·simp only[GF]
   match args,h with
   |[a,b],h=>simp only;rw[h a (by simp[Call.operands]),h b (by simp[Call.operands])]
   |[],_=>rfl
   |[_],_=>rfl
   |_::_::_::_,_=>rfl
  ·simp only[GF]
   match args,h with
   |[a,b],h=>simp only;rw[h a (by simp[Call.operands]),h b (by simp[Call.operands])]
   |[],_=>rfl
   |[_],_=>rfl
   |_::_::_::_,_=>rfl
def Bg{tab:Nat->Ty}{γ V':Fr}{O:Sig}{op:Op}(h:∀x∈op.operands,ev γ x=ev V' x):jX tab γ O op=jX tab V' O op:=by
 unfold jX;rw[NJ h,Rc h]
def DF:Op->Bool
 |.call { callee:=.builtin .len,.. }|.call { callee:=.builtin .max,.. }|.call { callee:=.builtin .min,.. }=>true
 |.move _|.assign _|.pick .. |.box .. |.load .. |.nilCheck _|.binOp .. |.unOp .. |.convert .. |.makeInterface .. |.makeFunc .. |.fieldAddr .. |.field .. |.indexAddr .. |.index .. |.extract .. |.buildSlice .. =>true
 |.slice .. |.lookup .. |.typeAssert .. |.build .. =>true
 |_=>false
section
variable (P:Program)(ro:Ro)(n:Nat)(ops:Array Oper)(N:Nat)(S0:Sig)(Q:DX->St->Prop)(df:List DDf)
def MO:List (Bool×Oper)->Fr->Sig->Prop
 |[],γ,O=>au P ro n ops Q [] ⟨γ,O,df⟩
 |(e,o)::r,γ,O=>
  (∃d,Calm P n ops N S0 γ o d/\MO r (putD o.dst d γ) O) \/
  (e=true/\Eff P ro n ops df γ O o (fun d U'=>Sub S0 U'/\MO r (putD o.dst d γ) U') (fun d U'=> ∀V',Q (.panic d) ⟨V',U',df⟩))
end
def pick(ops:Array Oper)(E ord:eQ):List (Bool×Oper):=ord.filterMap fun i=>(ops[i]?).map fun o=>(E.contains i,o)
section
variable {P:Program}{ro:Ro}{n:Nat}{ops:Array Oper}{N:Nat}{S0:Sig}{Q:DX->St->Prop}{df:List DDf}{E:eQ}
theorem Gs: ∀{ord:eQ}{γ:Fr}{O:Sig},(∀i∈ord,i<ops.size)->MO P ro n ops N S0 Q df (pick ops E ord) γ O->MOps P ro n ops N S0 Q df E ord γ O
 |[],_,_,_,h=>h
 | i::r,γ,O,d8,h=>by
  have hi:ops[i]? = some ops[i]! :=by
   have:=d8 i j1;simp[this]
  have hp:pick ops E (i::r)=(E.contains i,ops[i]!)::pick ops E r:=by
   unfold pick;rw[dL,hi];rfl
  rw[hp]at h;have ff:∀j∈r,j<ops.size:=fun j hj=>d8 j (by simp[hj])
  refine⟨_,hi,?_⟩;rcases h with⟨d,h2,h3⟩|⟨h1,h2⟩
  ·exact .inl ⟨d,h2,Gs ff h3⟩
  ·exact .inr ⟨h1,h2.congr (fun _ _=>rfl) fun d U' ⟨h3,h4⟩=>⟨h3,Gs ff h4⟩⟩
theorem Sz{ord:eQ}(hB:FE ops E ord=true): ∀i∈ord,i<ops.size:=by
 intro i hi;obtain⟨p1,p2,hp⟩:=bM hi;unfold FE at hB;simp only[aF]at hB;rw[hp]at hB;obtain⟨_,_,_,o',eU,_⟩:=G3 p1 [] hB.1.1;exact(aI.1 eU).1
theorem Xo(hN:P.funcs.size=N)(hm:P.follows .mixedOrders=true){l:List Oper}{id:Nat}{γ:Fr}{O:Sig}(ord E:eQ)(S0:Sig)(hB:FE l.toArray E ord=true)(hC:Sub S0 O)
  {lp:List (Bool×Oper)} (hl:pick l.toArray E ord=lp) (h:MO P ro n l.toArray N S0 Q df lp γ O):DWp P ro n (.region id l.toArray true) Q ⟨γ,O,df⟩:=
 dwp_mix hN hm ord E S0 hB hC (Gs (Sz hB) (by rw[hl];exact h))
theorem XO{γ:Fr}{O:Sig}(h:Q .normal ⟨γ,O,df⟩):MO P ro n ops N S0 Q df [] γ O:=AD h
theorem mo_eff{l:List (Bool×Oper)}{γ Sr:Fr}{O:Sig}{o:Oper}(ho:Ax n o=true)(hD:only (o.looksAt ops) γ=Sr)(hw:AJ ops Sr o=some true)
  (h:au P ro n ops (EQ df o.dst (fun d U'=>Sub S0 U'/\MO P ro n ops N S0 Q df l (putD o.dst d γ) U') (fun d U'=> ∀V',Q (.panic d) ⟨V',U',df⟩)) [o] ⟨Sr,O,df⟩):MO P ro n ops N S0 Q df ((true,o)::l) γ O:=by
 subst hD;exact .inr ⟨rfl,ho,hw,h⟩
theorem So{e:Bool}{l:List (Bool×Oper)}{γ:Fr}{O:Sig}{o:Oper}(hw:AJ ops γ o=some false)(ho:Ax n o=true)(hs:EE N o.op=true)
  (h:MO P ro n ops N S0 Q df l (putD o.dst (.tup []) γ) O):MO P ro n ops N S0 Q df ((e,o)::l) γ O:=
 .inl ⟨.tup [],⟨ho,.inr (.inl ⟨by rw[Ar];exact hw,hs,.inr rfl⟩)⟩,h⟩
theorem Pc{e:Bool}{l:List (Bool×Oper)}{γ Sr:Fr}{O:Sig}{o:Oper}(d:D)(ho:Ax n o=true)(hD:only (o.looksAt ops) γ=Sr)(hw:AJ ops Sr o=some true)
  (hq:∀U',Sub S0 U'->∀ro df,au P ro n ops (EQ df o.dst (fun d' S''=>d'=d/\Sub U' S'') fun _ _=>False) [o] ⟨Sr,U',df⟩)
  (h:MO P ro n ops N S0 Q df l (putD o.dst d γ) O):MO P ro n ops N S0 Q df ((e,o)::l) γ O:=by
 subst hD;exact .inl ⟨d,⟨ho,.inr (.inr ⟨hw,hq⟩)⟩,h⟩
end
def Aa:List Operand->eQ
 |[]=>[]
 |.tmp t::r=>t::Aa r
 |_::r=>Aa r
def A5(γ:Fr):eQ->Option Fr
 |[]=>some []
 | t::ts=>match γ.lookup t with
  |some d=>match A5 γ ts with
   |some r=>some ((t,d)::r)
   |none=>none
  |none=>none
def AB{γ:Fr}: ∀{l:eQ}{Sr:Fr},A5 γ l=some Sr->∀t∈l,getD Sr t=getD γ t
 |[],_,_,_,h=>by cases h
 | a::l,Sr,e,t,h=>by
  simp only[A5]at e;split at e<;>(try (cases e;done));rename_i d hd;split at e<;>(try (cases e;done));rename_i r hr;cases e;rw[A8]
  by_cases ht:t=a
  ·subst ht;rw[aG rfl];simp[getD,hd]
  ·rw[aE ht];exact AB hr t (by simpa[ht] using h)
def AL{t:Nat}: ∀{l:List Operand},Operand.tmp t∈l->t∈Aa l
 | x::l,h=>by
  rcases aY.1 h with rfl|h
  ·simp[Aa]
  ·have:=AL h;cases x<;>simp[Aa,this]
def CK{γ Sr:Fr}{op:Op}(h:A5 γ (Aa op.operands.toList)=some Sr): ∀x∈op.operands,ev Sr x=ev γ x:=
 fun x hx=>Bs fun t ht=>AB h t (AL (by rw[<-ht];simpa using hx))
def CR{γ Sr:Fr}{x:Operand}(h:A5 γ (Aa [x])=some Sr):ev Sr x=ev γ x:=
 Bs fun t ht=>AB h t (AL (by simp[ht]))
def BI{tab:Nat->Ty}{γ V':Fr}{O:Sig}{op:Op}(h:∀x∈op.operands,ev γ x=ev V' x):eopD tab γ O op=eopD tab V' O op:=by
 cases op<;>simp only[Op.operands]at h<;>simp only[eopD]
 case store T a v=>rw[h a j1,h v j1]
 case mapUpdate T a k v=>rw[h a j1,h k j1,h v j1]
 case insert T a k v=>rw[h a j1,h k j1,h v j1]
 case call c=>
  obtain⟨callee,args,ats⟩:=c;cases callee<;>try rfl
  rename_i b;obtain⟨args⟩:=args;obtain⟨ats⟩:=ats;cases b<;>try rfl
  simp only[bapD]
  match args,h with
  |[a,b],h=>simp only;rw[h a (by simp[Call.operands]),h b (by simp[Call.operands])]
  |[],_=>rfl
  |[_],_=>rfl
  |_::_::_::_,_=>rfl
def Ay{γ:Fr}{k:Nat}{d:D}(h:γ.lookup k=some d):getD γ k=d:=by simp[getD,h]
@[simp] def D.plain:D->D
 |.slice es _=>.slice es .no
 |.aj=>.slice [] .no
 |d=>d
def Rt(d:D):WkD d d.plain:=by
 cases d<;>first|exact Ac _|exact Cc _ _|exact Ak _ (.inl rfl)
def DB: ∀l:eO,WkL l (l.map D.plain)
 |[]=>trivial
 |d::l=>⟨Rt d,DB l⟩
def E1: ∀l:eO,WkL l l
 |[]=>trivial
 |a::l=>⟨Ac a,E1 l⟩
section
variable {P:Program}{ro:Ro}{n:Nat}{ops:Array Oper}{Q:DX->St->Prop}{df:List DDf}{rest:List Oper}{γ Sr:List (Nat×D)}{O U':Sig}{t:Nat}{op:Op}{ty:TypeId}{pos:String}{after:Array Edge}{guard:Option (Nat×Bool)}{d:D}
theorem BU{op:Op}(h:DF op=true): ∀c,op≠.defer c:=fun c e=>by subst e;cases h
theorem K1{tab:Nat->Ty}(ht:AZ P tab){o:Oper}(hr:DF o.op=true)(hw:AJ ops γ o=some true)(hd:jX tab γ O o.op=some d)(ho:Ax n o=true)
  (h:au P ro n ops Q rest ⟨putD o.dst d γ,O,df⟩):au P ro n ops Q (o::rest) ⟨γ,O,df⟩:=
 IV hw (BU hr) (H7 ht hd) (fun g w a hs hT=>Ex ht hs hT hd) ho h
theorem Do{j k:Nat}{b:Bool}(hk:(ops[j]?).bind (·.dst)=some k)(hb:γ.lookup k=some (.bool b)):Dy ops γ j=some b:=by
 unfold Dy;rw[hk];simp only[dz,Ay hb]
theorem Je{tab:Nat->Ty}(ht:AZ P tab)(hr:DF op=true)(b6:decide (t<n)=true)(hl:A5 γ (Aa op.operands.toList)=some Sr)(hd:jX tab Sr O op=some d)
  (h:au P ro n ops Q rest ⟨(t,d)::γ,O,df⟩):au P ro n ops Q (⟨some t,op,ty,pos,after,none⟩::rest) ⟨γ,O,df⟩:=
 K1 ht hr rfl ((Bg (CK hl)) ▸ hd) b6 h
theorem KC{tab:Nat->Ty}(ht:AZ P tab){j:Nat}{want:Bool}(hr:DF op=true)(b6:decide (t<n)=true){k:Nat}(hk:(ops[j]?).bind (·.dst)=some k)(hb:γ.lookup k=some (.bool want))(hl:A5 γ (Aa op.operands.toList)=some Sr)(hd:jX tab Sr O op=some d)
  (h:au P ro n ops Q rest ⟨(t,d)::γ,O,df⟩):au P ro n ops Q (⟨some t,op,ty,pos,after,some (j,want)⟩::rest) ⟨γ,O,df⟩:=
 K1 ht hr (by simp only[AJ,Do hk hb];simp) ((Bg (CK hl)) ▸ hd) b6 h
theorem wantU{j k:Nat}{o:Oper}{want:Bool}(hk:(ops[j]?).bind (·.dst)=some k)(hb:γ.lookup k=some (.tup []))(hg:o.guard=some (j,want):=by rfl):AJ ops γ o=some false:=by
 unfold AJ;rw[hg];have h1:Dy ops γ j=none:=by unfold Dy;rw[hk];simp only[dz,Ay hb]
 have h2:J7 ops γ j=true:=by unfold J7;rw[hk];simp only[Ay hb]
 simp only[h1,h2,bu]
theorem Mu{N:Nat}(hN:P.funcs.size=N){j:Nat}{want:Bool}{k:Nat}(hk:(ops[j]?).bind (·.dst)=some k)(hb:γ.lookup k=some (.bool (!want)))(hs:EE N op=true)(b6:decide (t<n)=true)
  (h:au P ro n ops Q rest ⟨(t,.tup [])::γ,O,df⟩):au P ro n ops Q (⟨some t,op,ty,pos,after,some (j,want)⟩::rest) ⟨γ,O,df⟩:=by
 intro g w a r hr b8;have fm:AJ ops γ ⟨some t,op,ty,pos,after,some (j,want)⟩=some false:=by simp only[AJ,Do hk hb];simp
 unfold wpListIn;rw[AW b8.tmps fm,aE j1];refine⟨fun f hf=>GK (Ip (by rw[hN];exact hs) w _ f hf (fun _=>rfl)) _,?_⟩;have h0:Rep g (.tup []) undef:=⟨[],rfl,rfl⟩;exact h g w _ r hr (b8.put (o:=⟨some t,op,ty,pos,after,some (j,want)⟩) (.refl g) b8.sim h0 b6)
theorem KB{N:Nat}(hN:P.funcs.size=N){j:Nat}{want:Bool}{k:Nat}(hk:(ops[j]?).bind (·.dst)=some k)(hb:γ.lookup k=some (.tup []))(hs:EE N op=true)(b6:decide (t<n)=true)
  (h:au P ro n ops Q rest ⟨(t,.tup [])::γ,O,df⟩):au P ro n ops Q (⟨some t,op,ty,pos,after,some (j,want)⟩::rest) ⟨γ,O,df⟩:=by
 intro g w a r hr b8;have fm:AJ ops γ ⟨some t,op,ty,pos,after,some (j,want)⟩=some false:=by exact wantU hk hb
 unfold wpListIn;rw[AW b8.tmps fm,aE j1];refine⟨fun f hf=>GK (Ip (by rw[hN];exact hs) w _ f hf (fun _=>rfl)) _,?_⟩;have h0:Rep g (.tup []) undef:=⟨[],rfl,rfl⟩;exact h g w _ r hr (b8.put (o:=⟨some t,op,ty,pos,after,some (j,want)⟩) (.refl g) b8.sim h0 b6)
theorem C0{t:Nat}{d:D}(h:WkD (getD γ t) d):Wk P n ⟨γ,O,df⟩ ⟨(t,d)::γ,O,df⟩:=
 fun g w a hs=>⟨g,.refl g,⟨hs.sim,⟨hs.tmps.1,fun k=>by
  rw[A8]
  by_cases hk:k=t
  ·subst hk;rw[aG rfl];exact h g _ (hs.tmps.2 k)
  ·rw[aE hk];exact hs.tmps.2 k⟩,hs.df⟩⟩
theorem Qc{dst:Option Tmp}{j:Nat}{want b:Bool}{k:Nat}(hk:(ops[j]?).bind (·.dst)=some k)(hb:γ.lookup k=some (.bool b))
  (h1:b=true->au P ro n ops Q (⟨dst,op,ty,pos,after,some (j,want)⟩::rest) ⟨(k,.bool true)::γ,O,df⟩) (h2:b=false->au P ro n ops Q (⟨dst,op,ty,pos,after,some (j,want)⟩::rest) ⟨(k,.bool false)::γ,O,df⟩):au P ro n ops Q (⟨dst,op,ty,pos,after,some (j,want)⟩::rest) ⟨γ,O,df⟩:=by
 cases b with
 |true=>exact C9 (C0 (by rw[Ay hb];exact Ac _)) (h1 rfl)
 |false=>exact C9 (C0 (by rw[Ay hb];exact Ac _)) (h2 rfl)
theorem OU{tab:Nat->Ty}(ht:AZ P tab)(hl:A5 γ (Aa op.operands.toList)=some Sr)(he:eopD tab Sr O op=some (d,U'))(b6:decide (t<n)=true)
  (h:au P ro n ops Q rest ⟨(t,d)::γ,U',df⟩):au P ro n ops Q (⟨some t,op,ty,pos,after,none⟩::rest) ⟨γ,O,df⟩:=
 Gz (o:=⟨some t,op,ty,pos,after,none⟩) ht rfl ((BI (CK hl)) ▸ he) b6 h
theorem FR{tab:Nat->Ty}(ht:AZ P tab)(hl:A5 γ (Aa op.operands.toList)=some Sr)(he:eopD tab Sr O op=some (d,U'))
  (h:au P ro n ops Q rest ⟨γ,U',df⟩):au P ro n ops Q (⟨none,op,ty,pos,after,none⟩::rest) ⟨γ,O,df⟩:=
 Gz (o:=⟨none,op,ty,pos,after,none⟩) ht rfl ((BI (CK hl)) ▸ he) rfl h
theorem VX{tab:Nat->Ty}(ht:AZ P tab)(vars:eQ){T T' ty':Nat}{x:Operand}{pos':String}{after':Array Edge}{cs:eO}(hv:vars.contains t=false)(hT:T'=T)(b6:decide (t<n)=true)(hx:FD t x=true)(ho:A2 (tab T).k=false)
  (hl:A5 γ (Aa [x])=some Sr) (he:ev Sr x=d) (b9:d.told=true) (hc:d.cells=cs) (hlen:cs.length=(tab T).size) (d7:C6 cs=true)
  (h:au P ro n ops Q rest ⟨(t,.ak cs 0)::γ,O,df⟩) :
  au P ro n ops Q (⟨some t,.alloc T,ty,pos,after,none⟩::⟨none,.store T' (.tmp t) x,ty',pos',after',none⟩::rest) ⟨γ,O,df⟩:=by
 rw[CR hl]at he;subst he;subst hT;subst hc;exact Oy ht ho (by simpa using b6) (Hr ht hx) b9 hlen d7 h
theorem IU{id:Nat}{l:List Oper}(h:au P ro n l.toArray Q l ⟨γ,O,df⟩):DWp P ro n (.region id l.toArray false) Q ⟨γ,O,df⟩:=QY h
theorem Mw{c:Operand}{x y:Code}{b:Bool}{Sr:Fr}(hl:A5 γ (Aa [c])=some Sr)(hc:ev Sr c=.bool b)(ht:b=true->DWp P ro n x Q ⟨γ,O,df⟩)(hf:b=false->DWp P ro n y Q ⟨γ,O,df⟩):
  DWp P ro n (.cond c x y) Q ⟨γ,O,df⟩:=PK (s:=⟨γ,O,df⟩) (by rw[<-CR hl];exact hc) ht hf
theorem KE{c:Operand}{x y:Code}{Sr:Fr}(hl:A5 γ (Aa [c])=some Sr)(hc:ev Sr c=.bool true)(h:DWp P ro n x Q ⟨γ,O,df⟩):
  DWp P ro n (.cond c x y) Q ⟨γ,O,df⟩:=Mw hl hc (fun _=>h) (fun e=>by cases e)
theorem KF{c:Operand}{x y:Code}{Sr:Fr}(hl:A5 γ (Aa [c])=some Sr)(hc:ev Sr c=.bool false)(h:DWp P ro n y Q ⟨γ,O,df⟩):
  DWp P ro n (.cond c x y) Q ⟨γ,O,df⟩:=Mw hl hc (fun e=>by cases e) (fun _=>h)
theorem Hf{fop:Operand}{args:Array Operand}{ats:Array TypeId}{f:Nat}{first cap us bs:eO}{R:DE->Sig->Prop}{dst:Option Tmp}
  (hl:A5 γ (Aa (fop::args.toList))=some Sr) (hf:ev Sr fop=.func (.func f) first cap) (ha:first++args.toList.map (ev Sr)++cap=us) (hw:bs=us\/bs=us.map D.plain) (h:ar P f bs O R)
  (ho:Ax n ⟨dst,(cv fop args ats),ty,pos,after,none⟩=true)
  (c9:∀d U',R (.ret d) U'->au P ro n ops Q rest ⟨putD dst d γ,U',df⟩)
  (d5:∀d U',R (.panic d) U'->Q (.panic d) ⟨γ,U',df⟩) :
  au P ro n ops Q (⟨dst,(cv fop args ats),ty,pos,after,none⟩::rest) ⟨γ,O,df⟩:=by
 have hx:∀x∈fop::args.toList,ev Sr x=ev γ x:=fun x hx=>Bs fun t ht=>AB hl t (AL (by rw[<-ht];exact hx))
 refine Ef (az:=bs) rfl (by rw[<-hx fop j1];exact hf) h ?_ ho c9 d5;rw[show args.toList.map (ev γ)=args.toList.map (ev Sr) from ca fun x h=>(hx x (by simp[h])).symm,ha];rcases hw with rfl|rfl
 ·exact E1 _
 ·exact DB _
theorem KG{fop:Operand}{args:Array Operand}{ats:Array TypeId}{f:Nat}{first cap us bs:eO}{d:D}
  (hl:A5 γ (Aa (fop::args.toList))=some Sr) (hf:ev Sr fop=.func (.func f) first cap) (ha:first++args.toList.map (ev Sr)++cap=us) (hw:bs=us\/bs=us.map D.plain) (h:ar P f bs O (rS d O))
  (b6:decide (t<n)=true) (k:au P ro n ops Q rest ⟨(t,d)::γ,O,df⟩) :
  au P ro n ops Q (⟨some t,(cv fop args ats),ty,pos,after,none⟩::rest) ⟨γ,O,df⟩:=
 Hf hl hf ha hw h b6 (fun d' U' ⟨e1,e2⟩=>by cases e1;subst e2;exact k) (fun d' U' ⟨e1,e2⟩=>by cases e1)
theorem KH{fop:Operand}{args:Array Operand}{ats:Array TypeId}{f:Nat}{first cap us bs:eO}{R:DE->Sig->Prop}{dst:Option Tmp}{j:Nat}{want:Bool}{k:Nat}(hk:(ops[j]?).bind (·.dst)=some k)(hb:γ.lookup k=some (.bool want))
  (hl:A5 γ (Aa (fop::args.toList))=some Sr) (hf:ev Sr fop=.func (.func f) first cap) (ha:first++args.toList.map (ev Sr)++cap=us) (hw:bs=us\/bs=us.map D.plain) (h:ar P f bs O R)
  (ho:Ax n ⟨dst,(cv fop args ats),ty,pos,after,some (j,want)⟩=true)
  (c9:∀d U',R (.ret d) U'->au P ro n ops Q rest ⟨putD dst d γ,U',df⟩)
  (d5:∀d U',R (.panic d) U'->Q (.panic d) ⟨γ,U',df⟩) :
  au P ro n ops Q (⟨dst,(cv fop args ats),ty,pos,after,some (j,want)⟩::rest) ⟨γ,O,df⟩:=by
 have hx:∀x∈fop::args.toList,ev Sr x=ev γ x:=fun x hx=>Bs fun t ht=>AB hl t (AL (by rw[<-ht];exact hx))
 refine Ef (az:=bs) (by simp only[AJ,Do hk hb];simp) (by rw[<-hx fop j1];exact hf) h ?_ ho c9 d5;rw[show args.toList.map (ev γ)=args.toList.map (ev Sr) from ca fun x h=>(hx x (by simp[h])).symm,ha];rcases hw with rfl|rfl
 ·exact E1 _
 ·exact DB _
theorem Jf{fop:Operand}{args:Array Operand}{ats:Array TypeId}{f:Nat}{first cap us bs:eO}{d:D}{j:Nat}{want:Bool}{k:Nat}(hk:(ops[j]?).bind (·.dst)=some k)(hb:γ.lookup k=some (.bool want))
  (hl:A5 γ (Aa (fop::args.toList))=some Sr) (hf:ev Sr fop=.func (.func f) first cap) (ha:first++args.toList.map (ev Sr)++cap=us) (hw:bs=us\/bs=us.map D.plain) (h:ar P f bs O (rS d O))
  (b6:decide (t<n)=true) (kk:au P ro n ops Q rest ⟨(t,d)::γ,O,df⟩) :
  au P ro n ops Q (⟨some t,(cv fop args ats),ty,pos,after,some (j,want)⟩::rest) ⟨γ,O,df⟩:=
 KH hk hb hl hf ha hw h b6 (fun d' U' ⟨e1,e2⟩=>by cases e1;subst e2;exact kk) (fun d' U' ⟨e1,e2⟩=>by cases e1)
end
@[simp] theorem nat_eq_int(a b:Nat):((a:Int)=(b:Int))=(a=b):=propext Int.ofNat_inj
@[simp] theorem Sc(a:Nat):((a+1:Nat):Int)=(a:Int)+1:=rfl
def DV(γ:Fr):eQ->Option Fr
 |[]=>some []
 | t::ts=>match γ.lookup t with
  |some d=>match DV γ ts with
   |some r=>some ((t,d)::r)
   |none=>none
  |none=>DV γ ts
def jr(γ:Fr):Fr->Prop
 |[]=>True
 |p::r=>WkD (getD γ p.1) p.2/\jr γ r
def jr.get{γ:Fr}: ∀{V':Fr},jr γ V'->∀t,WkD (getD γ t) (getD V' t)
 |[],_,t=>EK _
 |p::r,h,t=>by
  rw[show p::r=(p.1,p.2)::r from rfl,A8]
  by_cases ht:t=p.1
  ·rw[aG ht,ht];exact h.1
  ·rw[aE ht];exact jr.get h.2 t
def FP{γ:Fr}:jr γ []:=trivial
def EO{γ r:Fr}{t:Nat}{d d':D}(hl:γ.lookup t=some d')(h:WkD d' d)(k:jr γ r):jr γ ((t,d)::r):=⟨by rw[Ay hl];exact h,k⟩
def FQ{γ a b:Fr}(h:jr γ a)(k:jr γ b):jr γ (a++b):=by
 induction a with
 |nil=>exact k
 |cons p a ih=>exact⟨h.1,ih h.2⟩
def LE{P:Program}{n:Nat}{γ V':Fr}{O U':Sig}{df:List DDf}(h:jr γ V')(hZ:Sub U' O):Wk P n ⟨γ,O,df⟩ ⟨V',U',df⟩:=
 fun g w a hs=>⟨g,.refl g,⟨hs.sim.sub hZ,⟨hs.tmps.1,fun t=>h.get t g _ (hs.tmps.2 t)⟩,hs.df⟩⟩
def C1{O U':Sig}(h:U'=O):Sub U' O:=h ▸ Sub.refl _
def F8{P:Program}{ro:Ro}{n:Nat}{Q:DX->St->Prop}{df:List DDf}{γ Sk:Fr}{O:Sig}{α:Type}{c:Code}(keep:eQ)(I:α->Prop)(ov:α->Fr)(sg:α->Sig)(μ:α->Nat)(x0:α)(hk:DV γ keep=some Sk)(h0:I x0)(h1:jr γ (ov x0++Sk))(h2:Sub (sg x0) O)
  (round:∀x,I x->DWp P ro n c (ka (fun s'=> ∃x',I x'/\μ x'<μ x/\Wk P n s' ⟨ov x'++Sk,sg x',df⟩) Q) ⟨ov x++Sk,sg x,df⟩):DWp P ro n (.loop c) Q ⟨γ,O,df⟩:=by
 refine PI (fun x:{x // I x}=>⟨ov x.1++Sk,sg x.1,df⟩) (fun x=>μ x.1) ⟨x0,h0⟩ (LE h1 h2) fun x=>EH (round x.1 x.2) ?_;intro e s h;cases e with
 |normal=>obtain⟨x',h3,h4,h5⟩:=h;exact⟨⟨x',h3⟩,h4,h5⟩
 |_=>exact h
def R6{P:Program}{ro:Ro}{n:Nat}{Q:DX->St->Prop}{df:List DDf}{γ Sk:Fr}{O:Sig}{α β:Type}{c:Code}(keep:eQ)(I:α->β->Prop)(ov:α->β->Fr)(sg:α->β->Sig)(μ:α->β->Nat)(x0:α)(y0:β)(hk:DV γ keep=some Sk)(h0:I x0 y0)(h1:jr γ (ov x0 y0++Sk))(h2:Sub (sg x0 y0) O)
  (round:∀x y,I x y->DWp P ro n c (ka (fun s'=> ∃x' y',I x' y'/\μ x' y'<μ x y/\Wk P n s' ⟨ov x' y'++Sk,sg x' y',df⟩) Q) ⟨ov x y++Sk,sg x y,df⟩):DWp P ro n (.loop c) Q ⟨γ,O,df⟩:=by
 refine F8 (α:=α×β) keep (fun x=>I x.1 x.2) (fun x=>ov x.1 x.2) (fun x=>sg x.1 x.2) (fun x=>μ x.1 x.2) (x0,y0) hk h0 h1 h2 fun x hx=>EH (round x.1 x.2 hx) ?_;intro e s h;cases e with
 |normal=>obtain⟨x',y',h3,h4,h5⟩:=h;exact⟨(x',y'),h3,h4,h5⟩
 |_=>exact h
def QZ{P:Program}{ro:Ro}{n:Nat}{Q:DX->St->Prop}{df:List DDf}{γ Sk:Fr}{O:Sig}{α β δ:Type}{c:Code}(keep:eQ)(I:α->β->δ->Prop)(ov:α->β->δ->Fr)(sg:α->β->δ->Sig)(μ:α->β->δ->Nat)(x0:α)(y0:β)(z0:δ)(hk:DV γ keep=some Sk)(h0:I x0 y0 z0)(h1:jr γ (ov x0 y0 z0++Sk))(h2:Sub (sg x0 y0 z0) O)
  (round:∀x y z,I x y z->DWp P ro n c (ka (fun s'=> ∃x' y' z',I x' y' z'/\μ x' y' z'<μ x y z/\Wk P n s' ⟨ov x' y' z'++Sk,sg x' y' z',df⟩) Q) ⟨ov x y z++Sk,sg x y z,df⟩):DWp P ro n (.loop c) Q ⟨γ,O,df⟩:=by
 refine F8 (α:=α×β×δ) keep (fun x=>I x.1 x.2.1 x.2.2) (fun x=>ov x.1 x.2.1 x.2.2) (fun x=>sg x.1 x.2.1 x.2.2) (fun x=>μ x.1 x.2.1 x.2.2) (x0,y0,z0) hk h0 h1 h2 fun x hx=>EH (round x.1 x.2.1 x.2.2 hx) ?_;intro e s h;cases e with
 |normal=>obtain⟨x',y',z',h3,h4,h5⟩:=h;exact⟨(x',y',z'),h3,h4,h5⟩
 |_=>exact h
section
variable (tab:Nat->Ty)(γ:List (Nat×D))(O:Sig)(T T' m f:Nat)(x y z:Operand)(c:Bool)
@[simp] theorem dopX_move:jX tab γ O (.move x)=some (ev γ x):=rfl
@[simp] theorem dopX_assign:jX tab γ O (.assign x)=some (ev γ x):=rfl
@[simp] theorem dopX_pick:jX tab γ O (.pick x y z)=Oi (ev γ x) (ev γ y) (ev γ z):=by unfold jX;simp only[dop,kj];cases Oi (ev γ x) (ev γ y) (ev γ z)<;>rfl
@[simp] theorem dopX_box:jX tab γ O (.box T x)=boxD (ev γ x):=by unfold jX;simp only[dop,kj];cases boxD (ev γ x)<;>rfl
@[simp] theorem dopX_load:jX tab γ O (.load T x)=Kj (tab T) O (ev γ x):=by unfold jX;simp only[dop,kj];cases Kj (tab T) O (ev γ x)<;>rfl
@[simp] theorem dopX_nil:jX tab γ O (.nilCheck x)=nilD (ev γ x):=by unfold jX;simp only[dop,kj];cases nilD (ev γ x)<;>rfl
@[simp] theorem dopX_bin(o:BinOp):jX tab γ O (.binOp o T x y T')=binD o (ev γ x) (ev γ y):=by unfold jX;simp only[dop,kj];cases binD o (ev γ x) (ev γ y)<;>rfl
@[simp] theorem dopX_un(o:UnOp):jX tab γ O (.unOp o T x)=unD o (ev γ x):=by unfold jX;simp only[dop,kj];cases unD o (ev γ x)<;>rfl
@[simp] theorem dopX_conv:jX tab γ O (.convert T T' x)=Vp (A2 (tab T).k) (tab T').k (ev γ x):=by unfold jX;simp only[dop,kj];cases Vp (A2 (tab T).k) (tab T').k (ev γ x)<;>rfl
@[simp] theorem dopX_mkif:jX tab γ O (.makeInterface T x)=Sy (tab T) T (ev γ x):=by unfold jX;simp only[dop,kj];cases Sy (tab T) T (ev γ x)<;>rfl
@[simp] theorem dopX_mkfn(fn:Fn)(a b:Array Operand):jX tab γ O (.makeFunc fn a b)=some (.func fn (a.toList.map (ev γ)) (b.toList.map (ev γ))):=rfl
@[simp] theorem dopX_fa:jX tab γ O (.fieldAddr T x f)=Ee tab f (ev γ x) (tab T).k:=by unfold jX;simp only[dop,kj];cases Ee tab f (ev γ x) (tab T).k<;>rfl
@[simp] theorem dopX_fi:jX tab γ O (.field T x f)=N2 tab f (tab T).k (ev γ x):=by unfold jX;simp only[dop,kj];cases N2 tab f (tab T).k (ev γ x)<;>rfl
@[simp] theorem dopX_ia:jX tab γ O (.indexAddr T x y)=D7 tab (tab T).k (ev γ x) (ev γ y):=by unfold jX;simp only[dop,kj];cases D7 tab (tab T).k (ev γ x) (ev γ y)<;>rfl
@[simp] theorem dopX_ex:jX tab γ O (.extract x f)=HM f (ev γ x):=by unfold jX;simp only[dop,kj];cases HM f (ev γ x)<;>rfl
@[simp] theorem dopX_bs(ps:Array (Nat×Operand)):jX tab γ O (.buildSlice T m ps)=Il tab γ m ps.toList (tab T).k:=by unfold jX;simp only[dop,kj];cases Il tab γ m ps.toList (tab T).k<;>rfl
@[simp] theorem dopX_sl(a b d:Option Operand):jX tab γ O (.slice T x a b d)=Jh tab (tab T).k (ev γ x) (a.map (ev γ)) (b.map (ev γ)) (d.map (ev γ)):=rfl
@[simp] theorem dopX_lk:jX tab γ O (.lookup T x y c)=H1 tab O c (tab T).k (ev γ x) (ev γ y):=rfl
@[simp] theorem dopX_ta:jX tab γ O (.typeAssert x T T' c)=Kd tab T' c (ev γ x):=rfl
@[simp] theorem dopX_bd(ps:Array (Nat×Operand)):jX tab γ O (.build T ps)=NS tab T (ps.toList.map fun p=>(p.1,ev γ p.2)) (tab T).k:=rfl
@[simp] theorem dopX_len (xs:Array Operand) (ts:Array TypeId):jX tab γ O (.call { callee := .builtin .len,args:=xs,argTypes:=ts })=match lenC tab γ ts.toList xs.toList with
  |some d=>some d
  |none=>Ie tab γ O ts.toList xs.toList:=rfl
@[simp] theorem dopX_max(ts:Array TypeId):jX tab γ O (.call { callee:=.builtin .max,args:= #[x,y],argTypes:=ts })=MI true (ev γ x) (ev γ y):=rfl
@[simp] theorem dopX_min(ts:Array TypeId):jX tab γ O (.call { callee:=.builtin .min,args:= #[x,y],argTypes:=ts })=MI false (ev γ x) (ev γ y):=rfl
@[simp] theorem eopD_store:eopD tab γ O (.store T x y)=EP tab O T (ev γ x) (ev γ y):=rfl
@[simp] theorem eopD_upd:eopD tab γ O (.mapUpdate T x y z)=updD tab O (tab T).k (ev γ x) (ev γ y) (ev γ z):=rfl
@[simp] theorem eopD_ins:eopD tab γ O (.insert T x y z)=updD tab O (tab T).k (ev γ x) (ev γ y) (ev γ z):=rfl
@[simp] theorem eopD_app(ts:Array TypeId):eopD tab γ O (.call { callee:=.builtin .append,args:= #[x,y],argTypes:=ts })=appD tab O ts.toList (ev γ x) (ev γ y):=rfl
end
def nthO:List Oper->Nat->Option Oper
 |[],_=>none
 |o::_,0=>some o
 |_::l,i+1=>nthO l i
def I9: ∀(l:List Oper) (i:Nat),nthO l i=l[i]?
 |[],_=>rfl
 |_::_,0=>rfl
 |_::l,i+1=>by rw[nthO,I9 l i];rfl
def GZ (ops:List Oper) (E:eQ):eQ->Option (List (Bool × Oper))
 |[]=>some []
 | i::r=>match nthO ops i with
  | some o=>match GZ ops E r with
   |some l=>match E.contains i with
    |true=>some ((true,o)::l)
    |false=>some ((false,o)::l)
   |none=>none
  |none=>none
def Jn{ops:List Oper}{E:eQ}: ∀{ord:eQ}{lp:List (Bool×Oper)},GZ ops E ord=some lp->pick ops.toArray E ord=lp
 |[],_,h=>by cases h;rfl
 |i::r,lp,h=>by
  simp only[GZ]at h;split at h<;>(try (cases h;done));rename_i o ho;rw[I9]at ho;split at h<;>(try (cases h;done));rename_i l hl;have ih:=Jn hl;unfold pick at ih⊢;rw[dL,dn,ho];simp only[bx];rw[ih];split at h<;>(cases h;rename_i he;rw[he])
section
variable {P:Program}{ro:Ro}{n:Nat}{ops:Array Oper}{N:Nat}{S0:Sig}{Q:DX->St->Prop}{df:List DDf}{γ Sr:List (Nat×D)}{O U':Sig}{t:Nat}{op:Op}{ty:TypeId}{pos:String}{after:Array Edge}{d:D}{e:Bool}{l:List (Bool×Oper)}
theorem PG(hN:P.funcs.size=N)(hm:P.follows .mixedOrders=true){lo:List Oper}{id:Nat}(ord E:eQ)(S0:Sig)(hB:FE lo.toArray E ord=true)(hC:Sub S0 O)
  {lp:List (Bool×Oper)} (hl:GZ lo E ord=some lp) (h:MO P ro n lo.toArray N S0 Q df lp γ O):DWp P ro n (.region id lo.toArray true) Q ⟨γ,O,df⟩:=
 Xo hN hm ord E S0 hB hC (Jn hl) h
theorem IP: ∀(l:List (Bool×Oper)) {γ V':Fr}{O:Sig},kP γ V'->MO P ro n ops N S0 Q df l γ O->MO P ro n ops N S0 Q df l V' O
 |[],_,_,_,h,k=>Cn h k
 |(e,o)::r,_,_,_,h,k=>(match k with
  |.inl ⟨d,h2,h3⟩=>.inl ⟨d,h2.congr fun t _=>h t,IP r (h.put _ _) h3⟩
  |.inr ⟨h1,h2⟩=>.inr ⟨h1,h2.congr (fun t _=>h t) fun d U' ⟨h3,h4⟩=>⟨h3,IP r (h.put _ _) h4⟩⟩)
theorem Su{tab:Nat->Ty}(ht:AZ P tab){o:Oper}(hr:DF o.op=true)(ho:Ax n o=true)(hw:AJ ops γ o=some true)(hd:jX tab γ S0 o.op=some d)
  (h:MO P ro n ops N S0 Q df l (putD o.dst d γ) O):MO P ro n ops N S0 Q df ((e,o)::l) γ O:=by
 refine .inl ⟨d,⟨ho,.inl ⟨by rw[Ar];exact hw,BU hr,H7 ht hd,fun U' hZ g w a hs hT=>?_⟩⟩,h⟩;refine Ex ht hs hT (?_:jX tab (only (o.looksAt ops) γ) U' o.op=some d);rw[Bg (V':=γ) fun x hx=>Bf hx];exact Ey hZ hd
theorem Ok{tab:Nat->Ty}(ht:AZ P tab)(hr:DF op=true)(b6:decide (t<n)=true)(hl:A5 γ (Aa op.operands.toList)=some Sr)(hd:jX tab Sr S0 op=some d)
  (h:MO P ro n ops N S0 Q df l ((t,d)::γ) O):MO P ro n ops N S0 Q df ((e,⟨some t,op,ty,pos,after,none⟩)::l) γ O:=
 Su (o:=⟨some t,op,ty,pos,after,none⟩) ht hr b6 rfl ((Bg (CK hl)) ▸ hd) h
theorem Pb{tab:Nat->Ty}(ht:AZ P tab){j:Nat}{want:Bool}{k:Nat}(hr:DF op=true)(b6:decide (t<n)=true)(hk:(ops[j]?).bind (·.dst)=some k)(hb:γ.lookup k=some (.bool want))(hl:A5 γ (Aa op.operands.toList)=some Sr)(hd:jX tab Sr S0 op=some d)
  (h:MO P ro n ops N S0 Q df l ((t,d)::γ) O):MO P ro n ops N S0 Q df ((e,⟨some t,op,ty,pos,after,some (j,want)⟩)::l) γ O:=
 Su (o:=⟨some t,op,ty,pos,after,some (j,want)⟩) ht hr b6 (by simp only[AJ,Do hk hb];simp) ((Bg (CK hl)) ▸ hd) h
theorem Pa{j:Nat}{want:Bool}{k:Nat}(hk:(ops[j]?).bind (·.dst)=some k)(hb:γ.lookup k=some (.bool (!want)))(hs:EE N op=true)(b6:decide (t<n)=true)
  (h:MO P ro n ops N S0 Q df l ((t,.tup [])::γ) O):MO P ro n ops N S0 Q df ((e,⟨some t,op,ty,pos,after,some (j,want)⟩)::l) γ O:=
 So (o:=⟨some t,op,ty,pos,after,some (j,want)⟩) (by simp only[AJ,Do hk hb];simp) b6 hs h
theorem P9{j:Nat}{want:Bool}{k:Nat}(hk:(ops[j]?).bind (·.dst)=some k)(hb:γ.lookup k=some (.tup []))(hs:EE N op=true)(b6:decide (t<n)=true)
  (h:MO P ro n ops N S0 Q df l ((t,.tup [])::γ) O):MO P ro n ops N S0 Q df ((e,⟨some t,op,ty,pos,after,some (j,want)⟩)::l) γ O:=
 So (o:=⟨some t,op,ty,pos,after,some (j,want)⟩) (by exact wantU hk hb) b6 hs h
theorem Wd{dst:Option Tmp}{j:Nat}{want b:Bool}{k:Nat}(hk:(ops[j]?).bind (·.dst)=some k)(hb:γ.lookup k=some (.bool b))
  (h1:b=true->MO P ro n ops N S0 Q df ((e,⟨dst,op,ty,pos,after,some (j,want)⟩)::l) ((k,.bool true)::γ) O) (h2:b=false->MO P ro n ops N S0 Q df ((e,⟨dst,op,ty,pos,after,some (j,want)⟩)::l) ((k,.bool false)::γ) O) :
  MO P ro n ops N S0 Q df ((e,⟨dst,op,ty,pos,after,some (j,want)⟩)::l) γ O:=by
 have al:∀c,b=c->kP ((k,.bool c)::γ) γ:=by
  rintro c rfl t
  rw[A8]
  by_cases ht:t=k
  ·subst ht;rw[aG rfl,Ay hb]
  ·rw[aE ht]
 cases b with
 |true=>exact IP _ (al true rfl) (h1 rfl)
 |false=>exact IP _ (al false rfl) (h2 rfl)
theorem Sq{tab:Nat->Ty}(ht:AZ P tab){o:Oper}(ho:Ax n o=true)(hw:AJ ops γ o=some true)(he:eopD tab γ O o.op=some (d,U'))(hC:Sub S0 U')
  (h:MO P ro n ops N S0 Q df l (putD o.dst d γ) U'):MO P ro n ops N S0 Q df ((true,o)::l) γ O:=by
 refine .inr ⟨rfl,ho,by rw[Ar];exact hw,?_⟩;refine Gz ht (by rw[Ar];exact hw) (by rw[BI (V':=γ) fun x hx=>Bf hx];exact he) ho (AD ⟨rfl,?_⟩);cases hd:o.dst with
 |none=>rw[hd]at h;exact⟨hC,h⟩
 |some t=>
  rw[hd]at h;simp only[putD,A8,bu];exact⟨hC,h⟩
theorem Ss{tab:Nat->Ty}(ht:AZ P tab)(hl:A5 γ (Aa op.operands.toList)=some Sr)(he:eopD tab Sr O op=some (d,U'))(b6:decide (t<n)=true)(hC:Sub S0 U')
  (h:MO P ro n ops N S0 Q df l ((t,d)::γ) U'):MO P ro n ops N S0 Q df ((true,⟨some t,op,ty,pos,after,none⟩)::l) γ O:=
 Sq (o:=⟨some t,op,ty,pos,after,none⟩) ht b6 rfl ((BI (CK hl)) ▸ he) hC h
theorem EL{tab:Nat->Ty}(ht:AZ P tab)(hl:A5 γ (Aa op.operands.toList)=some Sr)(he:eopD tab Sr O op=some (d,U'))(hC:Sub S0 U')
  (h:MO P ro n ops N S0 Q df l γ U'):MO P ro n ops N S0 Q df ((true,⟨none,op,ty,pos,after,none⟩)::l) γ O:=
 Sq (o:=⟨none,op,ty,pos,after,none⟩) ht rfl rfl ((BI (CK hl)) ▸ he) hC h
theorem LU{fop:Operand}{args:Array Operand}{ats:Array TypeId}{f:Nat}{first cap us bs:eO}{R:DE->Sig->Prop}{dst:Option Tmp}{guard:Option (Nat×Bool)}
  (hw:AJ ops γ ⟨dst,(cv fop args ats),ty,pos,after,guard⟩=some true)
  (hl:A5 γ (Aa (fop::args.toList))=some Sr) (hf:ev Sr fop=.func (.func f) first cap) (ha:first++args.toList.map (ev Sr)++cap=us) (hb:bs=us\/bs=us.map D.plain) (h:ar P f bs O R)
  (ho:Ax n ⟨dst,(cv fop args ats),ty,pos,after,guard⟩=true)
  (c9:∀d U',R (.ret d) U'->Sub S0 U'/\MO P ro n ops N S0 Q df l (putD dst d γ) U')
  (d5:∀d U',R (.panic d) U'->∀V',Q (.panic d) ⟨V',U',df⟩) :
  MO P ro n ops N S0 Q df ((true,⟨dst,(cv fop args ats),ty,pos,after,guard⟩)::l) γ O:=by
 have hx:∀x∈fop::args.toList,ev Sr x=ev γ x:=fun x hx=>Bs fun t ht=>AB hl t (AL (by rw[<-ht];exact hx))
 have fB:∀x∈((cv fop args ats)).operands,ev (only (Oper.looksAt ops ⟨dst,(cv fop args ats),ty,pos,after,guard⟩) γ) x=ev γ x:=fun x hx=>Bf (o:=⟨dst,(cv fop args ats),ty,pos,after,guard⟩) hx;refine .inr ⟨rfl,ho,by rw[Ar];exact hw,?_⟩;refine Ef (first:=first) (cap:=cap) (f:=f) (R:=R) ?_ ?_ h ?_ ho ?_ ?_
 ·show AJ ops (only _ γ) _=some true;rw[Ar];exact hw
 ·rw[fB fop (by simp[Op.operands,Call.operands]),<-hx fop j1];exact hf
 ·simp only
  rw[show args.toList.map (ev (only (Oper.looksAt ops ⟨dst,(cv fop args ats),ty,pos,after,guard⟩) γ))=args.toList.map (ev Sr) from ca fun x hm=>by
   rw[fB x (by simp at hm;simp[Op.operands,Call.operands,hm]),<-hx x (by simp[hm])],ha]
  rcases hb with rfl|rfl
  ·exact E1 _
  ·exact DB _
 ·intro d U' hR;obtain⟨h1,h2⟩:=c9 d U' hR;refine AD ⟨rfl,?_⟩;cases dst with
  |none=>exact⟨h1,h2⟩
  |some t=>simp only[putD,A8,bu];exact⟨h1,h2⟩
 ·intro d U' hR;exact⟨rfl,d5 d U' hR⟩
theorem We{fop:Operand}{args:Array Operand}{ats:Array TypeId}{f:Nat}{first cap us bs:eO}
  (hl:A5 γ (Aa (fop::args.toList))=some Sr) (hf:ev Sr fop=.func (.func f) first cap) (ha:first++args.toList.map (ev Sr)++cap=us) (hw:bs=us\/bs=us.map D.plain) (h:ar P f bs O (rS d O))
  (b6:decide (t<n)=true) (hC:Sub S0 O) (k:MO P ro n ops N S0 Q df l ((t,d)::γ) O) :
  MO P ro n ops N S0 Q df ((true,⟨some t,(cv fop args ats),ty,pos,after,none⟩)::l) γ O:=
 LU rfl hl hf ha hw h b6 (fun d' U' ⟨e1,e2⟩=>by cases e1;subst e2;exact⟨hC,k⟩) (fun d' U' ⟨e1,e2⟩=>by cases e1)
theorem MJ{fop:Operand}{args:Array Operand}{ats:Array TypeId}{f:Nat}{first cap us bs:eO}{j:Nat}{want:Bool}{k:Nat}(hk:(ops[j]?).bind (·.dst)=some k)(hb:γ.lookup k=some (.bool want))
  (hl:A5 γ (Aa (fop::args.toList))=some Sr) (hf:ev Sr fop=.func (.func f) first cap) (ha:first++args.toList.map (ev Sr)++cap=us) (hw:bs=us\/bs=us.map D.plain) (h:ar P f bs O (rS d O))
  (b6:decide (t<n)=true) (hC:Sub S0 O) (kk:MO P ro n ops N S0 Q df l ((t,d)::γ) O) :
  MO P ro n ops N S0 Q df ((true,⟨some t,(cv fop args ats),ty,pos,after,some (j,want)⟩)::l) γ O:=
 LU (by simp only[AJ,Do hk hb];simp) hl hf ha hw h b6 (fun d' U' ⟨e1,e2⟩=>by cases e1;subst e2;exact⟨hC,kk⟩) (fun d' U' ⟨e1,e2⟩=>by cases e1)
end
section
variable {P:Program}{ro:Ro}{n:Nat}{ops:Array Oper}{Q:DX->St->Prop}{df:List DDf}{rest:List Oper}{γ Sr Sr2:List (Nat×D)}{O:Sig}{t t2:Nat}{d d2:D}
theorem RH{tab:Nat->Ty}(ht:AZ P tab)(vars:eQ){T T' ty ty' ty2:Nat}{x y:Operand}{pos pos' pos2:String}{after after' after2:Array Edge}{cs:eO}(hv:vars.contains t=false)(hT:T'=T)(b6:decide (t<n)=true)(fo:decide (t2<n)=true)(hx:FD t x=true)(hy:FD t y=true)(fk:FD t2 x=true)(fj:decide (t2=t)=false)(ho:A2 (tab T).k=false)
  (fD:A5 γ (Aa [y])=some Sr2) (fF:ev Sr2 y=d2) (hl:A5 γ (Aa [x])=some Sr) (he:ev Sr x=d) (b9:d.told=true) (hc:d.cells=cs) (hlen:cs.length=(tab T).size) (d7:C6 cs=true)
  (h:au P ro n ops Q rest ⟨(t,.ak cs 0)::(t2,d2)::γ,O,df⟩) :
  au P ro n ops Q (⟨some t,.alloc T,ty,pos,after,none⟩::⟨some t2,.assign y,ty2,pos2,after2,none⟩::⟨none,.store T' (.tmp t) x,ty',pos',after',none⟩::rest) ⟨γ,O,df⟩:=by
 rw[CR hl]at he;rw[CR fD]at fF;subst he;subst fF;subst hT;subst hc;have fj:t2≠t:=by simpa using fj
 have hx:=Hr ht hx;have hy:=Hr ht hy;have fk:=Hr ht fk;refine Dx ht ho (by simpa using b6) fun i hi=>?_
 have fS:ev ((t,.ptr i 0)::γ) y=ev γ y:=by
  cases y with
  |tmp k=>simp only[ev,A8];rw[aE fun e=>hy (by rw[e])]
  |_=>rfl
 refine K1 (d:=ev γ y) ht rfl rfl (by rw[<-fS];rfl) fo ?_;simp only[putD]
 have fh:ev ((t2,ev γ y)::(t,.ptr i 0)::γ) x=ev γ x:=by
  cases x with
  |tmp k=>simp only[ev,A8];rw[aE fun e=>fk (by rw[e]),aE fun e=>hx (by rw[e])]
  |_=>rfl
 have hz:(tab T').zero.length=(tab T').size:=by
  obtain⟨_,_,_,_,_,_,_,_,_,_,h8,_⟩:=Cx (ht T') (Ai ho);exact h8
 refine Ll ht rfl ho (x:=.tmp t) (i:=i) (off:=0) (by simp[ev,A8,cg fj]) (w6 ..) (by rw[fh];exact b9) (by rw[fh];exact hlen) (by rw[fh];exact d7) (by rw[fh];omega) ?_;rw[fh];refine C9 (Mj (i:=i) (t:=t) (w6 ..) (by simp[A8,cg fj])) ?_
 have e1:(tab T').zero.take 0++(ev γ x).cells++(tab T').zero.drop (0+(ev γ x).cells.length)=(ev γ x).cells:=by
  rw[dk j0];simp
 rw[w8,Sig.set_del _ _ hi,e1];refine Cn (γ:=(t,.ak (ev γ x).cells 0)::(t2,ev γ y)::γ) (fun k=>?_) h;simp only[A8];split
 ·rfl
 ·split<;>rfl
end
end Go.DL
