/- A part of the proof. -/
import Derived.Test.YteldimffglchkaaGreatDoorN04
set_option linter.all false
namespace Go.DL
open Go
def only(L:List Nat)(γ:Fr):Fr:=L.map fun t=>(t,getD γ t)
theorem Gn(γ:Fr)(t:Nat): ∀L:List Nat,getD (only L γ) t=if t∈L then getD γ t else .any
 |[]=>rfl
 |a::L=>by
  have ih:=Gn γ t L
  unfold only at ih⊢
  rw[List.map_cons,A4]
  by_cases h:t=a
  ·subst h;simp
  ·simp only[h,if_false,ih,List.mem_cons,false_or]
theorem Lo{g:G}{γ:Fr}{n:Nat}{tmps:Array Value}(L:List Nat)(h:RepT g γ n tmps):RepT g (only L γ) n tmps:=
 ⟨h.1,fun t=>by
  rw[Gn]
  by_cases ht:t∈L
  ·rw[if_pos ht];exact h.2 t
  ·rw[if_neg ht];trivial⟩
theorem JD{L:List Nat}{γ V':Fr}(h:∀t∈L,getD γ t=getD V' t):only L γ=only L V':=
 List.map_congr_left fun t ht=>by rw[h t ht]
theorem Bl{γ:Fr}{ops:Array Oper}{o:Oper}{x:Operand}(h:x∈o.op.operands):ev (only (o.looksAt ops) γ) x=ev γ x:=by
 cases x with
 |tmp t=>simp only[ev,Gn];rw[if_pos (G8 h)]
 |_=>rfl
theorem Af{γ:Fr}{ops:Array Oper}{o:Oper}:Ay ops (only (o.looksAt ops) γ) o=Ay ops γ o:=
 HJ fun t ht=>by rw[Gn,if_pos ht]
section mono
variable {tab:Nat->Ty}{O U':Sig}(h:Sub O U'){γ:List (Nat×D)}
include h
theorem Gz{x:D}{l:List (D×D)}(e:C3 O x=some l):C3 U' x=some l:=by
 unfold C3 at e⊢
 split at e
 ·exact e
 ·exact e
 ·rename_i id
  split at e<;>(try (cases e;done))
  rename_i l' hi
  rw[h _ _ hi];exact e
 ·cases e
theorem loadT_mono{ty:Ty}{x d:D}(e:Jd ty O x=some d):Jd ty U' x=some d:=by
 unfold Jd at e⊢
 split at e
 ·cases e
 ·rename_i hk
  rw[if_neg hk]
  unfold Je at e⊢
  split at e
  ·exact e
  ·rename_i id off
   cases hi:O id with
   |none=>simp[hi,Dh]at e
   |some ob=>rw[h _ _ hi,<-hi];exact e
  ·cases e
theorem Vf{op:Op}{d:D}(e:dop tab γ O op=some d):dop tab γ U' op=some d:=by
 cases op<;>first|exact e|(simp only[dop]at e⊢; exact loadT_mono h e)|skip
 case call c=>
  obtain⟨callee,args,ats⟩:=c
  cases callee<;>try exact e
  rename_i b
  cases b<;>exact e
theorem Tm{op:Op}{d:D}(e:dop2 tab γ O op=some d):dop2 tab γ U' op=some d:=by
 cases op<;>first|exact e|skip
 case lookup t x k ok=>
  simp only[dop2]at e⊢
  unfold FL at e⊢
  split at e<;>(try (cases e;done))
  rename_i kt et hk
  split at e<;>(try (cases e;done))
  rename_i hc
  rw[if_neg hc]
  split at e<;>(try (cases e;done))
  rename_i l hl
  rw[Gz h hl];exact e
 case call c=>
  simp only[dop2]at e⊢
  unfold Fp at e⊢
  split at e<;>(try (exact e))<;>(try (cases e;done))
  unfold H0 at e⊢
  split at e<;>(try (cases e;done))
  rename_i _ _ x _ _
  split at e<;>(try (cases e;done))
  cases hl:C3 O (ev γ x)with
  |none=>rw[hl]at e;cases e
  |some l=>rw[hl]at e;rw[Gz h hl];exact e
theorem F4{op:Op}{d:D}(e:dopX tab γ O op=some d):dopX tab γ U' op=some d:=by
 have key:dop tab γ O op=none->dop tab γ U' op=none\/dop2 tab γ O op=none:=by
  intro hn
  cases op<;>first|exact .inl hn|exact .inr rfl|skip
  case call c=>
   obtain⟨callee,args,ats⟩:=c
   cases callee<;>first|exact .inl hn|skip
   rename_i b
   cases b<;>exact .inl hn
 unfold dopX at e⊢
 split at e
 ·rename_i d' hd
  rw[Vf h hd];exact e
 ·rename_i hd
  rcases key hd with hc|hc
  ·rw[hc];exact Tm h e
  ·rw[hc]at e;cases e
end mono
section
variable (P:Program)(ro:Ro)(n:Nat)(ops:Array Oper)(N:Nat)(S0:Sig)(Q:DX->St->Prop)(df:List DDf)
def EQ(dst:Option Tmp)(R Rp:D->Sig->Prop):DX->St->Prop
 |.normal,s=>s.df=df/\R (match dst with|some t=>getD s.γ t|none=>.any) s.O
 |.panic d,s=>s.df=df/\Rp d s.O
 |_,_=>False
structure Calm(γ:Fr)(o:Oper)(d:D):Prop where
 ok:Ar n o=true
 run:(Ay ops (only (o.looksAt ops) γ) o=some true/\(∀c,o.op≠.defer c)/\(∀(w:World) (ρ:Operand->Value) f,o.about P w ρ=some f->False) /\
   ∀O,Sub S0 O->∀g w (a:Act),Sim P g O w->RepT g (only (o.looksAt ops) γ) n a.tmps->ORun P g O d (execOp a.eval o) w) \/
  (Ay ops (only (o.looksAt ops) γ) o=some false/\DQ N o.op=true/\(d=.any\/d=.tup [])) \/
  (Ay ops (only (o.looksAt ops) γ) o=some true /\ ∀O,Sub S0 O->∀ro df,DOps P ro n ops (EQ df o.dst (fun d' U'=>d'=d/\Sub O U') fun _ _=>False) [o] ⟨only (o.looksAt ops) γ,O,df⟩)
structure Eff(γ:Fr)(O:Sig)(o:Oper)(R Rp:D->Sig->Prop):Prop where
 ok:Ar n o=true
 want:Ay ops (only (o.looksAt ops) γ) o=some true
 run:DOps P ro n ops (EQ df o.dst R Rp) [o] ⟨only (o.looksAt ops) γ,O,df⟩
def MOps (E:List Nat):List Nat->Fr->Sig->Prop
  |[],γ,O=>DOps P ro n ops Q [] ⟨γ,O,df⟩
  | i::r,γ,O => ∃ o,ops[i]? = some o /\
    ((∃ d,Calm P n ops N S0 γ o d/\MOps E r (putD o.dst d γ) O) \/
     (E.contains i=true/\Eff P ro n ops df γ O o (fun d U'=>Sub S0 U'/\MOps E r (putD o.dst d γ) U') (fun d U'=> ∀V',Q (.panic d) ⟨V',U',df⟩)))
end
section
variable {P:Program}{ro:Ro}{n:Nat}{ops:Array Oper}{N:Nat}{S0:Sig}{Q:DX->St->Prop}{df:List DDf}{E:List Nat}
theorem Calm.congr{γ V':Fr}{o:Oper}{d:D}(h:∀t∈o.looksAt ops,getD γ t=getD V' t)(hy:Calm P n ops N S0 γ o d):Calm P n ops N S0 V' o d:=by
 have e:=JD h
 exact⟨hy.ok,by rw[<-e];exact hy.run⟩
theorem BM {Q':DX->St->Prop} (hq : ∀ x s,Q x s->Q' x s) {g:G} {r:Rx} : ∀ (l:List Oper) {a:Act} {w:World},wpListIn (FX P r) 0 P ops (Post P g n Q) l a w->wpListIn (FX P r) 0 P ops (Post P g n Q') l a w
  |[],_,_,⟨g',s',x,h1,h2,h3,h4⟩=>⟨g',s',x,h1,h2,h3,hq _ _ h4⟩
  | o::l,a,w,h=>by
    have pq:∀{e a w},Post P g n Q e a w->Post P g n Q' e a w:=fun ⟨g',s',x,h1,h2,h3,h4⟩=>⟨g',s',x,h1,h2,h3,hq _ _ h4⟩
    unfold wpListIn at h⊢
    split
    · rename_i hw
      rw[if_pos hw]at h
      refine⟨h.1,?_⟩
      have h2:=h.2
      revert h2
      generalize (o.semAt (FX P r).round a.eval).run P w=res
      cases res with
      | ok nx w' =>
        cases nx<;>simp only[Oper.uponIn]<;>first
          |exact fun h=>BM hq l h
          | (rintro ⟨h1,h2⟩
             refine⟨h1,?_⟩
             first
               | (refine h2.mono ?_
                  intro e w'' he
                  cases e<;>first
                    |exact BM hq l he
                    |exact pq he
                    |(obtain⟨a0,w0,he⟩:=he;exact⟨a0,w0,pq he⟩))
               | (refine h2.mono ?_
                  intro v w'' he
                  exact BM hq l he))
          |exact fun h=>h
      |halt x w'=>cases x<;>simp only[Oper.uponIn]<;>first|exact fun h=>pq h|exact fun h=>h
    · rename_i hw
      rw[if_neg hw]at h
      exact⟨h.1,BM hq l h.2⟩
theorem Mq{l:List Oper}{s:St}{Q':DX->St->Prop}(h:DOps P ro n ops Q l s)(hq:∀x s,Q x s->Q' x s):DOps P ro n ops Q' l s:=
 fun g w a r hr hs=>BM hq l (h g w a r hr hs)
theorem Eff.congr{γ V':Fr}{O:Sig}{o:Oper}{R R' Rp:D->Sig->Prop}(h:∀t∈o.looksAt ops,getD γ t=getD V' t)(hy:Eff P ro n ops df γ O o R Rp)(hR:∀d U',R d U'->R' d U'):Eff P ro n ops df V' O o R' Rp:=by
 have e:=JD h
 refine⟨hy.ok,by rw[<-e];exact hy.want,?_⟩
 rw[<-e]
 refine Mq hy.run fun x s hx=>?_
 cases x with
 |normal=>exact⟨hx.1,hR _ _ hx.2⟩
 |panic d=>exact hx
 |_=>exact hx
theorem MOps.alike: ∀(l:List Nat) {γ V':Fr}{O:Sig},Alike γ V'->MOps P ro n ops N S0 Q df E l γ O->MOps P ro n ops N S0 Q df E l V' O
 |[],_,_,_,h,k=>C4 h k
 |i::r,_,_,_,h,⟨o,ho,k⟩=>⟨o,ho,(match k with
  |.inl ⟨d,h2,h3⟩=>.inl ⟨d,h2.congr fun t _=>h t,MOps.alike r (h.put _ _) h3⟩
  |.inr ⟨h1,h2⟩=>.inr ⟨h1,h2.congr (fun t _=>h t) fun d U' ⟨h3,h4⟩=>⟨h3,MOps.alike r (h.put _ _) h4⟩⟩)⟩
theorem GW{i:Nat}{oi:Oper}(hi:ops[i]? = some oi)(post:List Nat): ∀(pre:List Nat) (γ:Fr) (O:Sig),
  (∀x∈pre,E.contains x=false /\ ∃ox,ops[x]? = some ox/\oi.apart ops ox=true)->MOps P ro n ops N S0 Q df E (pre++i::post) γ O->MOps P ro n ops N S0 Q df E (i::(pre++post)) γ O
 |[],_,_,_,h=>h
 | x::pre,γ,O,hp,h=>by
  obtain⟨aZ,ox,aD,bn⟩:=hp x (by simp)
  obtain⟨a1,a2,a3⟩:=Oper.apart_spec bn
  obtain⟨ox',aC,hx⟩:=h
  obtain rfl:ox'=ox:=by rw[aD]at aC;cases aC;rfl
  rcases hx with⟨d,hy,h⟩|⟨hE,_⟩
  ·obtain⟨oi',aE,hh⟩:=GW hi post pre _ O (fun y hy=>hp y (by simp[hy])) h
   obtain rfl:oi'=oi:=by rw[hi]at aE;cases aE;rfl
   refine⟨oi',hi,?_⟩
   rcases hh with⟨e,h2,h3⟩|⟨h1,h2⟩
   ·refine .inl ⟨e,h2.congr fun t ht=>AC fun hd=>a3 t hd ht,ox',aD,.inl ⟨d,hy.congr fun t ht=>(AC fun hd=>a1 t hd ht).symm,?_⟩⟩
    exact MOps.alike _ (Bq _ _ _ fun t p q=>a2 t p q) h3
   ·refine .inr ⟨h1,h2.congr (fun t ht=>AC fun hd=>a3 t hd ht) fun e U' ⟨h3,h4⟩=>⟨h3,ox',aD,.inl ⟨d,hy.congr fun t ht=>(AC fun hd=>a1 t hd ht).symm,?_⟩⟩⟩
    exact MOps.alike _ (Bq _ _ _ fun t p q=>a2 t p q) h4
  ·rw[aZ]at hE;cases hE
def mixB(ops:Array Oper)(E:List Nat):List Nat->List Nat->Bool
 |_,[]=>true
 | done,i::r => !done.contains i && (match ops[i]? with
  |some o=>(o.after.all fun e=> !Region.binds .any e||done.contains e.on)&&done.all fun x=>(!E.contains x&&match ops[x]? with
   |some ox=>o.apart ops ox
   |none=>false)||FJ ops ops.size i x
  |none=>false)&&mixB ops E (i::done) r
theorem EP{i:Nat}{l2:List Nat}: ∀(l1 done:List Nat),mixB ops E done (l1++i::l2)=true->i∉l1/\i∉done/\i∉l2 /\ ∃o,ops[i]? = some o/\(∀e∈o.after,Region.binds .any e=true->e.on∈l1\/e.on∈done) /\
   ∀x,x∈l1->FJ ops ops.size i x=true\/(E.contains x=false /\ ∃ox,ops[x]? = some ox/\o.apart ops ox=true)
 | [],done,h=>by
  simp only[List.nil_append,mixB,Bool.and_eq_true,Bool.not_eq_true',List.contains_eq_mem,decide_eq_false_iff_not]at h
  obtain⟨⟨h1,h2⟩,h3⟩:=h
  have later:∀(l d:List Nat),i∈d->mixB ops E d l=true->i∉l:=by
   intro l
   induction l with
   |nil=>intro _ _ _ h;cases h
   |cons y l ih=>
    intro d hd hm ae
    simp only[mixB,Bool.and_eq_true,Bool.not_eq_true',List.contains_eq_mem,decide_eq_false_iff_not]at hm
    obtain⟨⟨m1,_⟩,m3⟩:=hm
    rcases List.mem_cons.1 ae with rfl|ae
    ·exact m1 hd
    ·exact ih (y::d) (by simp[hd]) m3 ae
  refine⟨by simp,h1,later l2 _ (by simp) h3,?_⟩
  split at h2
  ·rename_i o ho
   simp only[Bool.and_eq_true]at h2
   refine⟨o,ho,fun e he hb=>?_,fun x hx=>by cases hx⟩
   have:=Array.all_eq_true_iff_forall_mem.1 h2.1 e he
   simp only[hb,Bool.not_true,Bool.false_or,List.contains_eq_mem,decide_eq_true_eq]at this
   exact .inr this
  ·cases h2
 | y::l1,done,h=>by
  simp only[List.cons_append,mixB,Bool.and_eq_true]at h
  obtain⟨h1,h2,h3,o,ho,he,hx⟩:=EP l1 (y::done) h.2
  have bf:i≠y:=fun e=>h2 (by simp[e])
  refine⟨by simp[bf,h1],fun hd=>h2 (by simp[hd]),h3,o,ho,fun e hm hb=>?_,?_⟩
  ·rcases he e hm hb with h4|h4
   ·exact .inl (by simp[h4])
   ·rcases List.mem_cons.1 h4 with h5|h5
    ·exact .inl (by simp[h5])
    ·exact .inr h5
  ·intro x ae
   rcases List.mem_cons.1 ae with rfl|ae
   ·
    have back:∀(l d:List Nat),x∈d->mixB ops E d (l++i::l2)=true->FJ ops ops.size i x=true\/(E.contains x=false /\ ∃ox,ops[x]? = some ox/\o.apart ops ox=true):=by
     intro l
     induction l with
     | nil =>
      intro d hd hm
      simp only[List.nil_append,mixB,Bool.and_eq_true,ho]at hm
      have:=List.all_eq_true.1 hm.1.2.2 x hd
      simp only[Bool.or_eq_true,Bool.and_eq_true,Bool.not_eq_true']at this
      rcases this.symm with h4|⟨h4,h5⟩
      ·exact .inl h4
      ·refine .inr ⟨h4,?_⟩
       split at h5
       ·rename_i ox aD;exact⟨ox,aD,h5⟩
       ·cases h5
     |cons z l ih=>
      intro d hd hm
      simp only[List.cons_append,mixB,Bool.and_eq_true]at hm
      exact ih (z::d) (by simp[hd]) hm.2
    exact back l1 _ (by simp) h.2
   ·exact hx x ae
def Ex(ops:Array Oper)(E ord:List Nat):Bool:=mixB ops E [] ord&&(List.range ops.size).all ord.contains&&ord.length==ops.size
theorem CU {K:Act->World->Prop} {g0 g:G} {w:World} {a:Act} {r:Rx} {γ:Fr} {O:Sig} {o:Oper} {R Rp:D->Sig->Prop} (hr:RoRep g ro r) (hg:g0.le g)
    (hs:SimS P g n ⟨γ,O,df⟩ a w) (hE:Eff P ro n ops df γ O o R Rp) (hK:∀g' w' a' d U',g.le g'->R d U'->SimS P g' n ⟨putD o.dst d γ,U',df⟩ a' w'->K a' w')
    (hp:∀d U',Rp d U'->∀V',Q (.panic d) ⟨V',U',df⟩) :
    (if Region.wanted o (yielded ops a.tmps) then o.wpIn (FX P r) 0 P a w K (Post P g0 n Q) else(∀f,o.about P w a.eval=some f->(FX P r).fn f)/\K (a.put o.dst undef) w):=by
  have aT:SimS P g n ⟨only (o.looksAt ops) γ,O,df⟩ a w:=⟨hs.sim,Lo _ hs.tmps,hs.df⟩
  have h:=hE.run g w a r hr aT
  have hw:=AH aT.tmps hE.want
  rw[hw,if_pos rfl]
  unfold wpListIn at h
  rw[hw,if_pos rfl]at h
  have fin:∀(a':Act) (w':World) (v:Value),a'.tmps=(a.put o.dst v).tmps->wpListIn (FX P r) 0 P ops (Post P g n (EQ df o.dst R Rp)) [] a' w'->K a' w':=by
    rintro a' w' v hv ⟨g',s',x,l1,l2,l3,l4⟩
    cases x with
    | normal =>
      obtain⟨e1,e2⟩:=l4
      refine hK g' w' a' _ s'.O l1 e2 ⟨l2.sim,⟨l2.tmps.1,fun t=>?_⟩,by rw[<-e1];exact l2.df⟩
      cases hd:o.dst with
      | none =>
        rw[hd]at hv
        simp only[putD,Act.put]at hv⊢
        rw[hv]
        exact Rep.mono l1 _ (hs.tmps.2 t)
      | some k =>
        rw[hd]at hv
        simp only[putD,A4]
        by_cases hk:t=k
        · subst hk;rw[if_pos rfl];exact l2.tmps.2 t
        · rw [if_neg hk,hv]
          simp only[Act.put]
          rw[show(a.tmps.setIfInBounds k v).getD t undef=a.tmps.getD t undef by simp[Array.getD_eq_getD_getElem?, Array.getElem?_setIfInBounds_ne (Ne.symm hk)]]
          exact Rep.mono l1 _ (hs.tmps.2 t)
    |ret=>cases l3
    |exit _=>cases l3
    |panic _=>obtain⟨v,l3,_⟩:=l3;cases l3
  have pan:∀(c:List PanicEntry) (w':World),Post P g n (EQ df o.dst R Rp) (.panic c) a w'->Post P g0 n Q (.panic c) a w':=by
    rintro c w' ⟨g',s',x,l1,l2,l3,l4⟩
    cases x with
    |normal=>cases l3
    |ret=>cases l3
    |exit _=>cases l3
    |panic d=>exact⟨g',⟨γ,s'.O,df⟩,.panic d,hg.trans l1,⟨l2.sim,hs.tmps.mono l1,by rw[<-l4.1];exact l2.df⟩,l3,hp d _ l4.2 γ⟩
  have lets:LetsOut (Post P g n (EQ df o.dst R Rp))->LetsOut (Post P g0 n Q):=by
    rintro⟨a0,w0,g',s',x,l1,l2,l3,l4⟩
    cases x with
    |panic _=>obtain⟨v,l3,_⟩:=l3;cases l3
    |_=>cases l3
  refine⟨h.1,?_⟩
  have h2:=h.2
  revert h2
  generalize (o.semAt (FX P r).round a.eval).run P w=res
  cases res with
  | ok nx w' =>
    cases nx<;>simp only[Oper.uponIn]<;>first
      |exact fun h=>fin _ _ _ rfl h
      |exact fun h=>fin _ _ undef (by simp[Act.put];cases o.dst<;>rfl) h
      | (rintro ⟨h1,h2⟩
         refine⟨h1,?_⟩
         first
           | (refine h2.mono ?_
              intro e w'' he
              cases e<;>first
                |exact fin _ _ _ rfl he
                |exact pan _ _ he
                |exact lets he)
           | (refine h2.mono ?_
              intro v w'' he
              exact fin _ _ _ rfl he))
      |exact fun h=>h
  |halt x w'=>cases x<;>simp only[Oper.uponIn]<;>first|exact fun h=>pan _ _ h|exact fun h=>h
theorem F6(hN:P.funcs.size=N){K:Act->World->Prop}{g0 g:G}{w:World}{a:Act}{r:Rx}{γ:Fr}{O:Sig}{o:Oper}{d:D}(hr:RoRep g ro r)(hg:g0.le g)
  (hs:SimS P g n ⟨γ,O,df⟩ a w) (hC:Sub S0 O) (hy:Calm P n ops N S0 γ o d)
  (hK:∀g' w' a',g.le g'->SimS P g' n ⟨putD o.dst d γ,O,df⟩ a' w'->K a' w') :
  (if Region.wanted o (yielded ops a.tmps) then o.wpIn (FX P r) 0 P a w K (Post P g0 n Q) else(∀f,o.about P w a.eval=some f->(FX P r).fn f)/\K (a.put o.dst undef) w):=by
 have hT:=Lo (o.looksAt ops) hs.tmps
 rcases hy.run with⟨hw,bc,bp,hd⟩|⟨hw,ba,bm⟩|⟨hw,hd⟩
 ·rw[AH hT hw,if_pos rfl]
  refine⟨fun f hf=>(bp _ _ f hf).elim,?_⟩
  obtain⟨g',w',v,h1,h2,h3,h4⟩:=hd O hC g w a hs.sim hT
  rw[Oper.semAt_eq _ _ _ bc,h1]
  exact hK g' w' _ h2 (hs.put h2 h3 h4 hy.ok)
 ·rw[AH hT hw,if_neg (by simp)]
  refine⟨fun f hf=>EA (Hf (by rw[hN];exact ba) w _ f hf (fun _=>rfl)) _,?_⟩
  have h0:Rep g d undef:=by rcases bm with rfl|rfl;exact trivial;exact⟨[],rfl,rfl⟩
  exact hK g w _ (.refl g) (hs.put (.refl g) hs.sim h0 hy.ok)
 ·exact CU (Q:=Q) hr hg hs ⟨hy.ok,hw,hd O hC ro df⟩ (fun g' w' a' d' U' aG hR ag=>by
   obtain⟨rfl,aN⟩:=hR
   exact hK g' w' a' aG ⟨ag.sim.sub aN,ag.tmps,ag.df⟩) (fun _ _ h=>h.elim)
theorem AK{l:List Nat}{listed:Array Bool}{i:Nat}(h:i∉l):l.filter (fun j=> !(listed.setIfInBounds i true).getD j true)=l.filter fun j=> !listed.getD j true:=
 List.filter_congr fun j hj=>by rw[getD_set_ne true (show i≠j from fun e=>h (by rw[e];exact hj))]
theorem Ub(hN:P.funcs.size=N){ord:List Nat}(hB:Ex ops E ord=true){g0:G}{rr:Rx}(hr:RoRep g0 ro rr): ∀(m:Nat) (r:List Nat) (listed:Array Bool) (γ:Fr) (O:Sig),r.length=m->listed.size=ops.size->
  r=ord.filter (fun i=> !listed.getD i true)->Closed ops listed->MOps P ro n ops N S0 Q df E r γ O->Sub S0 O->
   ∀(g:G) (w:World) (a:Act),g0.le g->SimS P g n ⟨γ,O,df⟩ a w->wpAnyIn (FX P rr) 0 P .any ops (Post P g0 n Q) m listed a w:=by
 unfold Ex at hB
 simp only[Bool.and_eq_true]at hB
 obtain⟨⟨ak,aQ⟩,_⟩:=hB
 have ae:∀(r:List Nat) (listed:Array Bool),r=ord.filter (fun i=> !listed.getD i true)->∀i∈Region.ready .any ops listed,i∈r:=by
  intro r listed hf i hi
  obtain⟨h1,o,ho,_⟩:=mem_ready.1 hi
  have:=List.all_eq_true.1 aQ i (by simpa using(Array.getElem?_eq_some_iff.1 ho).1)
  rw[hf,List.mem_filter]
  exact⟨by simpa using this,by rw[h1];rfl⟩
 intro m
 induction m with
 |zero=>
  intro r listed γ O hl hsz hf aB h hC g w a hg hs
  obtain rfl:r=[]:=List.length_eq_zero_iff.1 hl
  refine⟨List.eq_nil_iff_forall_not_mem.2 fun i hi=>?_,?_⟩
  ·have:=ae [] listed hf i hi;cases this
  ·exact Post.le hg (h g w a rr (hr.mono hg) hs)
 | succ m ih =>
  intro r listed γ O hl hsz hf aB h hC g w a hg hs
  obtain⟨y,t,rfl⟩:∃y t,r=y::t:=by cases r with|nil=>cases hl|cons y t=>exact⟨y,t,rfl⟩
  refine⟨fun he=>?_,fun i hi=>?_⟩
  ·exfalso
   obtain⟨l1,l2,ay,be,hy,aW⟩:=List.filter_eq_cons_iff.1 hf.symm
   subst ay
   obtain⟨h1,_,_,o,ho,aX,_⟩:=EP l1 [] ak
   have:y∈Region.ready .any ops listed:=by
    refine mem_ready.2 ⟨by simpa using hy,o,ho,fun e hm hb=>?_⟩
    rcases aX e hm hb with h4|h4
    ·have h5:=be _ h4
     simp only[Bool.not_eq_true,Bool.not_eq_false']at h5
     have ap:e.on<listed.size:=by
      have:e.on∈l1++y::l2:=by simp[h4]
      obtain⟨p1,p2,hp⟩:=List.append_of_mem this
      rw[hp]at ak
      obtain⟨_,_,_,o',ar,_⟩:=EP p1 [] ak
      rw[hsz];exact(Array.getElem?_eq_some_iff.1 ar).1
     simpa[ap] using h5
    ·cases h4
   rw[he]at this;cases this
  ·obtain⟨pre,post,ax⟩:=List.append_of_mem (ae _ listed hf i hi)
   rw[ax]at hf h hl
   obtain⟨l1',l2',ay,aP,bk⟩:=List.filter_eq_append_iff.1 hf.symm
   obtain⟨m1,m2,aO,bd,bq,bj⟩:=List.filter_eq_cons_iff.1 bk
   have aq:ord=(l1'++m1)++i::m2:=by rw[ay,aO];simp
   rw[aq]at ak
   obtain⟨n1,_,n3,o,ho,aX,hx⟩:=EP (l1'++m1) [] ak
   obtain⟨bh,o',ar,aI⟩:=mem_ready.1 hi
   obtain rfl:o'=o:=by rw[ho]at ar;cases ar;rfl
   have aA:=GW ho post pre γ O (fun x aS=>by
    have a8:x∈l1'++m1:=by
     have:x∈l1'.filter (fun i=> !listed.getD i true):=by rw[aP];exact aS
     simp[(List.mem_filter.1 this).1]
    have aR:listed.getD x true=false:=by
     have:x∈l1'.filter (fun i=> !listed.getD i true):=by rw[aP];exact aS
     simpa using(List.mem_filter.1 this).2
    rcases hx x a8 with h4|h4
    ·exfalso
     have:=CG aB ops.size i x o' ho aI h4
     rcases Nat.lt_or_ge x listed.size with ap|ap
     ·simp[ap]at this aR;rw[aR]at this;cases this
     ·simp[Array.getElem?_eq_none ap]at this
    ·exact h4) h
   have au:pre++post=ord.filter (fun j=> !(listed.setIfInBounds i true).getD j true):=by
    have bi:i<listed.size:=by
     rw[hsz];exact(Array.getElem?_eq_some_iff.1 ho).1
    rw[aq,List.filter_append,List.filter_cons]
    have e1:(listed.setIfInBounds i true).getD i true=true:=by simp[bi]
    rw[e1,AK n1,AK n3]
    simp only[Bool.not_true,Bool.false_eq_true,if_false,List.filter_append,aP,bj]
    rw[List.filter_eq_nil_iff.2 (fun x hx=>by simpa using bd x hx),List.append_nil]
   have hlen:(pre++post).length=m:=by simp at hl⊢; omega
   obtain⟨o2,aV,hh⟩:=aA
   obtain rfl:o2=o':=by rw[ho]at aV;cases aV;rfl
   unfold wpOpIn
   simp only[ho]
   rcases hh with⟨d,hy,hM⟩|⟨_,hE⟩
   ·exact F6 hN (hr.mono hg) hg hs hC hy fun g' w' a' aG ag=>ih _ _ _ _ hlen (by simpa using hsz) au (aB.set hi) hM hC g' w' a' (hg.trans aG) ag
   ·exact CU (hr.mono hg) hg hs hE (fun g' w' a' d U' aG hR ag=>ih _ _ _ _ hlen (by simpa using hsz) au (aB.set hi) hR.2 hR.1 g' w' a' (hg.trans aG) ag) fun d U' hp=>hp
theorem Do{n:Nat}: ∀{l:List Nat},(∀i∈l,i<n)->l.filter (fun i=> !(Array.replicate n false).getD i true)=l:=by
 intro l h
 rw[List.filter_eq_self]
 intro i hi
 simp[h i hi]
theorem dwp_mix(hN:P.funcs.size=N)(hm:P.follows .mixedOrders=true){l:List Oper}{id:Nat}{γ:Fr}{O:Sig}(ord E:List Nat)(S0:Sig)(hB:Ex l.toArray E ord=true)(hC:Sub S0 O)
  (h:MOps P ro n l.toArray N S0 Q df E ord γ O):DWp P ro n (.region id l.toArray true) Q ⟨γ,O,df⟩:=by
 intro g w a r hr hs
 refine wpIn_region_any hm ?_
 have aB:Closed l.toArray (Array.replicate l.toArray.size false):=by
  intro q o _ hq
  rcases Nat.lt_or_ge q l.length with h'|h'
  ·simp[h']at hq
  ·simp[h']at hq
 have ag:SimS P g n ⟨γ,O,df⟩ a { w with drawn:=w.drawn+1 }:=
  ⟨⟨fun b o v h=>hs.sim.imm b o v h,hs.sim.keep,fun i o h=>by
   have:=hs.sim.obj i o h
   cases o<;>exact this,hs.sim.inj,hs.sim.free,hs.sim.htop,hs.sim.hdom,hs.sim.fin,hs.sim.io,hs.sim.tab⟩,hs.tmps,hs.df⟩
 have ap:∀i∈ord,i<l.toArray.size:=by
  intro i hi
  obtain⟨p1,p2,hp⟩:=List.append_of_mem hi
  have aw:=hB
  unfold Ex at aw
  simp only[Bool.and_eq_true]at aw
  rw[hp]at aw
  obtain⟨_,_,_,o',ar,_⟩:=EP p1 [] aw.1.1
  exact(Array.getElem?_eq_some_iff.1 ar).1
 have hlen:ord.length=l.toArray.size:=by
  have aw:=hB
  unfold Ex at aw
  simp only[Bool.and_eq_true,beq_iff_eq]at aw
  exact aw.2
 have:=Ub hN hB hr ord.length ord (Array.replicate l.toArray.size false) γ O rfl (by simp) (Do ap).symm aB h hC g _ a (.refl g) ag
 rw[hlen]at this
 exact this
end
theorem Ib{α β:Type}{f f':α->β}: ∀{x:Option α},(∀a,x=some a->f a=f' a)->x.map f=x.map f'
 |none,_=>rfl
 |some a,h=>by rw[Option.map_some,Option.map_some,h a rfl]
theorem PK{tab:Nat->Ty}{γ V':Fr}{O:Sig}{op:Op}(h:∀x∈op.operands,ev γ x=ev V' x):dop2 tab γ O op=dop2 tab V' O op:=by
 cases op<;>simp only[Op.operands]at h<;>simp only[dop2]
 case slice t x lo hi mx=>
  rw[h x (by simp)]
  have e1:lo.map (ev γ)=lo.map (ev V'):=Ib fun a ha=>h a (by simp[ha])
  have e2:hi.map (ev γ)=hi.map (ev V'):=Ib fun a ha=>h a (by simp[ha])
  have e3:mx.map (ev γ)=mx.map (ev V'):=Ib fun a ha=>h a (by simp[ha])
  rw[e1,e2,e3]
 case lookup t x k ok=>rw[h x (by simp),h k (by simp)]
 case typeAssert x s t ok=>rw[h x (by simp)]
 case build t parts=>
  have hp:∀p∈parts.toList,ev γ p.2=ev V' p.2:=fun p hp=>h p.2 (by simp;exact⟨p.1,by simpa using hp⟩)
  rw[show(parts.toList.map fun p=>(p.1,ev γ p.2))=parts.toList.map fun p=>(p.1,ev V' p.2) from List.map_congr_left fun p bb=>by rw[hp p bb]]
 case call c=>
  obtain⟨callee,args,ats⟩:=c
  cases callee<;>try rfl
  rename_i b
  obtain⟨args⟩:=args
  obtain⟨ats⟩:=ats
  cases b<;>try rfl
  ·simp only[Fp,H0]
   split
   ·rename_i x
    rw[h x (by simp[Call.operands])]
   ·rfl
  ·simp only[Fp]
   match args,h with
   |[a,b],h=>simp only;rw[h a (by simp[Call.operands]),h b (by simp[Call.operands])]
   |[],_=>rfl
   |[_],_=>rfl
   |_::_::_::_,_=>rfl
  ·simp only[Fp]
   match args,h with
   |[a,b],h=>simp only;rw[h a (by simp[Call.operands]),h b (by simp[Call.operands])]
   |[],_=>rfl
   |[_],_=>rfl
   |_::_::_::_,_=>rfl
theorem BC{tab:Nat->Ty}{γ V':Fr}{O:Sig}{op:Op}(h:∀x∈op.operands,ev γ x=ev V' x):dopX tab γ O op=dopX tab V' O op:=by
 unfold dopX
 rw[Mt h,PK h]
def Dl:Op->Bool
 |.call { callee:=.builtin .len,.. }|.call { callee:=.builtin .max,.. }|.call { callee:=.builtin .min,.. }=>true
 |.move _|.assign _|.pick .. |.box .. |.load .. |.nilCheck _|.binOp .. |.unOp .. |.convert .. |.makeInterface .. |.makeFunc .. |.fieldAddr .. |.field .. |.indexAddr .. |.index .. |.extract .. |.buildSlice .. =>true
 |.slice .. |.lookup .. |.typeAssert .. |.build .. =>true
 |_=>false
section
variable (P:Program)(ro:Ro)(n:Nat)(ops:Array Oper)(N:Nat)(S0:Sig)(Q:DX->St->Prop)(df:List DDf)
def MO:List (Bool×Oper)->Fr->Sig->Prop
 |[],γ,O=>DOps P ro n ops Q [] ⟨γ,O,df⟩
 |(e,o)::r,γ,O=>
  (∃d,Calm P n ops N S0 γ o d/\MO r (putD o.dst d γ) O) \/
  (e=true/\Eff P ro n ops df γ O o (fun d U'=>Sub S0 U'/\MO r (putD o.dst d γ) U') (fun d U'=> ∀V',Q (.panic d) ⟨V',U',df⟩))
end
def pick(ops:Array Oper)(E ord:List Nat):List (Bool×Oper):=ord.filterMap fun i=>(ops[i]?).map fun o=>(E.contains i,o)
section
variable {P:Program}{ro:Ro}{n:Nat}{ops:Array Oper}{N:Nat}{S0:Sig}{Q:DX->St->Prop}{df:List DDf}{E:List Nat}
theorem Ff: ∀{ord:List Nat}{γ:Fr}{O:Sig},(∀i∈ord,i<ops.size)->MO P ro n ops N S0 Q df (pick ops E ord) γ O->MOps P ro n ops N S0 Q df E ord γ O
 |[],_,_,_,h=>h
 | i::r,γ,O,ap,h=>by
  have hi:ops[i]? = some ops[i]! :=by
   have:=ap i (by simp)
   simp[this]
  have hp:pick ops E (i::r)=(E.contains i,ops[i]!)::pick ops E r:=by
   unfold pick
   rw[List.filterMap_cons,hi]
   rfl
  rw[hp]at h
  have aF:∀j∈r,j<ops.size:=fun j hj=>ap j (by simp[hj])
  refine⟨_,hi,?_⟩
  rcases h with⟨d,h2,h3⟩|⟨h1,h2⟩
  ·exact .inl ⟨d,h2,Ff aF h3⟩
  ·exact .inr ⟨h1,h2.congr (fun _ _=>rfl) fun d U' ⟨h3,h4⟩=>⟨h3,Ff aF h4⟩⟩
theorem QP{ord:List Nat}(hB:Ex ops E ord=true): ∀i∈ord,i<ops.size:=by
 intro i hi
 obtain⟨p1,p2,hp⟩:=List.append_of_mem hi
 unfold Ex at hB
 simp only[Bool.and_eq_true]at hB
 rw[hp]at hB
 obtain⟨_,_,_,o',ar,_⟩:=EP p1 [] hB.1.1
 exact(Array.getElem?_eq_some_iff.1 ar).1
theorem V9(hN:P.funcs.size=N)(hm:P.follows .mixedOrders=true){l:List Oper}{id:Nat}{γ:Fr}{O:Sig}(ord E:List Nat)(S0:Sig)(hB:Ex l.toArray E ord=true)(hC:Sub S0 O)
  {lp:List (Bool×Oper)} (hl:pick l.toArray E ord=lp) (h:MO P ro n l.toArray N S0 Q df lp γ O):DWp P ro n (.region id l.toArray true) Q ⟨γ,O,df⟩:=
 dwp_mix hN hm ord E S0 hB hC (Ff (QP hB) (by rw[hl];exact h))
theorem QH{γ:Fr}{O:Sig}(h:Q .normal ⟨γ,O,df⟩):MO P ro n ops N S0 Q df [] γ O:=Au h
theorem mo_eff{l:List (Bool×Oper)}{γ Sr:Fr}{O:Sig}{o:Oper}(ho:Ar n o=true)(hZ:only (o.looksAt ops) γ=Sr)(hw:Ay ops Sr o=some true)
  (h:DOps P ro n ops (EQ df o.dst (fun d U'=>Sub S0 U'/\MO P ro n ops N S0 Q df l (putD o.dst d γ) U') (fun d U'=> ∀V',Q (.panic d) ⟨V',U',df⟩)) [o] ⟨Sr,O,df⟩):MO P ro n ops N S0 Q df ((true,o)::l) γ O:=by
 subst hZ
 exact .inr ⟨rfl,ho,hw,h⟩
theorem mo_skip{e:Bool}{l:List (Bool×Oper)}{γ:Fr}{O:Sig}{o:Oper}(hw:Ay ops γ o=some false)(ho:Ar n o=true)(hs:DQ N o.op=true)
  (h:MO P ro n ops N S0 Q df l (putD o.dst (.tup []) γ) O):MO P ro n ops N S0 Q df ((e,o)::l) γ O:=
 .inl ⟨.tup [],⟨ho,.inr (.inl ⟨by rw[Af];exact hw,hs,.inr rfl⟩)⟩,h⟩
theorem Hx{e:Bool}{l:List (Bool×Oper)}{γ Sr:Fr}{O:Sig}{o:Oper}(d:D)(ho:Ar n o=true)(hZ:only (o.looksAt ops) γ=Sr)(hw:Ay ops Sr o=some true)
  (hq:∀U',Sub S0 U'->∀ro df,DOps P ro n ops (EQ df o.dst (fun d' S''=>d'=d/\Sub U' S'') fun _ _=>False) [o] ⟨Sr,U',df⟩)
  (h:MO P ro n ops N S0 Q df l (putD o.dst d γ) O):MO P ro n ops N S0 Q df ((e,o)::l) γ O:=by
 subst hZ
 exact .inl ⟨d,⟨ho,.inr (.inr ⟨hw,hq⟩)⟩,h⟩
end
def A5:List Operand->List Nat
 |[]=>[]
 |.tmp t::r=>t::A5 r
 |_::r=>A5 r
def A0(γ:Fr):List Nat->Option Fr
 |[]=>some []
 | t::ts=>match γ.lookup t with
  |some d=>match A0 γ ts with
   |some r=>some ((t,d)::r)
   |none=>none
  |none=>none
theorem Aq{γ:Fr}: ∀{l:List Nat}{Sr:Fr},A0 γ l=some Sr->∀t∈l,getD Sr t=getD γ t
 |[],_,_,_,h=>by cases h
 | a::l,Sr,e,t,h=>by
  simp only[A0]at e
  split at e<;>(try (cases e;done))
  rename_i d hd
  split at e<;>(try (cases e;done))
  rename_i r hr
  cases e
  rw[A4]
  by_cases ht:t=a
  ·subst ht;rw[if_pos rfl];simp[getD,hd]
  ·rw[if_neg ht]
   exact Aq hr t (by simpa[ht] using h)
theorem Ax{t:Nat}: ∀{l:List Operand},Operand.tmp t∈l->t∈A5 l
 | x::l,h=>by
  rcases List.mem_cons.1 h with rfl|h
  ·simp[A5]
  ·have:=Ax h
   cases x<;>simp[A5,this]
theorem Cj{γ Sr:Fr}{op:Op}(h:A0 γ (A5 op.operands.toList)=some Sr): ∀x∈op.operands,ev Sr x=ev γ x:=
 fun x hx=>B2 fun t ht=>Aq h t (Ax (by rw[<-ht];simpa using hx))
theorem C2{γ Sr:Fr}{x:Operand}(h:A0 γ (A5 [x])=some Sr):ev Sr x=ev γ x:=
 B2 fun t ht=>Aq h t (Ax (by simp[ht]))
theorem Bp{tab:Nat->Ty}{γ V':Fr}{O:Sig}{op:Op}(h:∀x∈op.operands,ev γ x=ev V' x):eopD tab γ O op=eopD tab V' O op:=by
 cases op<;>simp only[Op.operands]at h<;>simp only[eopD]
 case store T a v=>rw[h a (by simp),h v (by simp)]
 case mapUpdate T a k v=>rw[h a (by simp),h k (by simp),h v (by simp)]
 case insert T a k v=>rw[h a (by simp),h k (by simp),h v (by simp)]
 case call c=>
  obtain⟨callee,args,ats⟩:=c
  cases callee<;>try rfl
  rename_i b
  obtain⟨args⟩:=args
  obtain⟨ats⟩:=ats
  cases b<;>try rfl
  simp only[bapD]
  match args,h with
  |[a,b],h=>simp only;rw[h a (by simp[Call.operands]),h b (by simp[Call.operands])]
  |[],_=>rfl
  |[_],_=>rfl
  |_::_::_::_,_=>rfl
theorem An{γ:Fr}{k:Nat}{d:D}(h:γ.lookup k=some d):getD γ k=d:=by simp[getD,h]
@[simp] def D.plain:D->D
 |.slice es _=>.slice es .no
 |.nils=>.slice [] .no
 |d=>d
theorem PU(d:D):WkD d d.plain:=by
 cases d<;>first|exact A8 _|exact BF _ _|exact Am _ (.inl rfl)
theorem Cq: ∀l:List D,WkL l (l.map D.plain)
 |[]=>trivial
 |d::l=>⟨PU d,Cq l⟩
theorem CO: ∀l:List D,WkL l l
 |[]=>trivial
 |a::l=>⟨A8 a,CO l⟩
section
variable {P:Program}{ro:Ro}{n:Nat}{ops:Array Oper}{Q:DX->St->Prop}{df:List DDf}{rest:List Oper}{γ Sr:List (Nat×D)}{O U':Sig}{t:Nat}{op:Op}{ty:TypeId}{pos:String}{after:Array Edge}{guard:Option (Nat×Bool)}{d:D}
theorem C9{op:Op}(h:Dl op=true): ∀c,op≠.defer c:=fun c e=>by subst e;cases h
theorem IM{tab:Nat->Ty}(ht:AZ P tab){o:Oper}(hr:Dl o.op=true)(hw:Ay ops γ o=some true)(hd:dopX tab γ O o.op=some d)(ho:Ar n o=true)
  (h:DOps P ro n ops Q rest ⟨putD o.dst d γ,O,df⟩):DOps P ro n ops Q (o::rest) ⟨γ,O,df⟩:=
 GC hw (C9 hr) (J9 ht hd) (fun g w a hs hT=>F3 ht hs hT hd) ho h
theorem CC{j k:Nat}{b:Bool}(hk:(ops[j]?).bind (·.dst)=some k)(hb:γ.lookup k=some (.bool b)):CM ops γ j=some b:=by
 unfold CM
 rw[hk]
 simp only[Option.bind_some,An hb]
theorem G0{tab:Nat->Ty}(ht:AZ P tab)(hr:Dl op=true)(aa:decide (t<n)=true)(hl:A0 γ (A5 op.operands.toList)=some Sr)(hd:dopX tab Sr O op=some d)
  (h:DOps P ro n ops Q rest ⟨(t,d)::γ,O,df⟩):DOps P ro n ops Q (⟨some t,op,ty,pos,after,none⟩::rest) ⟨γ,O,df⟩:=
 IM ht hr rfl ((BC (Cj hl)) ▸ hd) aa h
theorem GN{tab:Nat->Ty}(ht:AZ P tab){j:Nat}{want:Bool}(hr:Dl op=true)(aa:decide (t<n)=true){k:Nat}(hk:(ops[j]?).bind (·.dst)=some k)(hb:γ.lookup k=some (.bool want))(hl:A0 γ (A5 op.operands.toList)=some Sr)(hd:dopX tab Sr O op=some d)
  (h:DOps P ro n ops Q rest ⟨(t,d)::γ,O,df⟩):DOps P ro n ops Q (⟨some t,op,ty,pos,after,some (j,want)⟩::rest) ⟨γ,O,df⟩:=
 IM ht hr (by simp only[Ay,CC hk hb];simp) ((BC (Cj hl)) ▸ hd) aa h
theorem wantU{j k:Nat}{o:Oper}{want:Bool}(hk:(ops[j]?).bind (·.dst)=some k)(hb:γ.lookup k=some (.tup []))(hg:o.guard=some (j,want):=by rfl):Ay ops γ o=some false:=by
 unfold Ay
 rw[hg]
 have h1:CM ops γ j=none:=by unfold CM;rw[hk];simp only[Option.bind_some,An hb]
 have h2:HN ops γ j=true:=by unfold HN;rw[hk];simp only[An hb]
 simp only[h1,h2,if_true]
theorem HT{N:Nat}(hN:P.funcs.size=N){j:Nat}{want:Bool}{k:Nat}(hk:(ops[j]?).bind (·.dst)=some k)(hb:γ.lookup k=some (.bool (!want)))(hs:DQ N op=true)(aa:decide (t<n)=true)
  (h:DOps P ro n ops Q rest ⟨(t,.tup [])::γ,O,df⟩):DOps P ro n ops Q (⟨some t,op,ty,pos,after,some (j,want)⟩::rest) ⟨γ,O,df⟩:=by
 intro g w a r hr ag
 have aL:Ay ops γ ⟨some t,op,ty,pos,after,some (j,want)⟩=some false:=by simp only[Ay,CC hk hb];simp
 unfold wpListIn
 rw[AH ag.tmps aL,if_neg (by simp)]
 refine⟨fun f hf=>EA (Hf (by rw[hN];exact hs) w _ f hf (fun _=>rfl)) _,?_⟩
 have h0:Rep g (.tup []) undef:=⟨[],rfl,rfl⟩
 exact h g w _ r hr (ag.put (o:=⟨some t,op,ty,pos,after,some (j,want)⟩) (.refl g) ag.sim h0 aa)
theorem GM{N:Nat}(hN:P.funcs.size=N){j:Nat}{want:Bool}{k:Nat}(hk:(ops[j]?).bind (·.dst)=some k)(hb:γ.lookup k=some (.tup []))(hs:DQ N op=true)(aa:decide (t<n)=true)
  (h:DOps P ro n ops Q rest ⟨(t,.tup [])::γ,O,df⟩):DOps P ro n ops Q (⟨some t,op,ty,pos,after,some (j,want)⟩::rest) ⟨γ,O,df⟩:=by
 intro g w a r hr ag
 have aL:Ay ops γ ⟨some t,op,ty,pos,after,some (j,want)⟩=some false:=by exact wantU hk hb
 unfold wpListIn
 rw[AH ag.tmps aL,if_neg (by simp)]
 refine⟨fun f hf=>EA (Hf (by rw[hN];exact hs) w _ f hf (fun _=>rfl)) _,?_⟩
 have h0:Rep g (.tup []) undef:=⟨[],rfl,rfl⟩
 exact h g w _ r hr (ag.put (o:=⟨some t,op,ty,pos,after,some (j,want)⟩) (.refl g) ag.sim h0 aa)
theorem BN{t:Nat}{d:D}(h:WkD (getD γ t) d):Wk P n ⟨γ,O,df⟩ ⟨(t,d)::γ,O,df⟩:=
 fun g w a hs=>⟨g,.refl g,⟨hs.sim,⟨hs.tmps.1,fun k=>by
  rw[A4]
  by_cases hk:k=t
  ·subst hk;rw[if_pos rfl];exact h g _ (hs.tmps.2 k)
  ·rw[if_neg hk];exact hs.tmps.2 k⟩,hs.df⟩⟩
theorem OV{dst:Option Tmp}{j:Nat}{want b:Bool}{k:Nat}(hk:(ops[j]?).bind (·.dst)=some k)(hb:γ.lookup k=some (.bool b))
  (h1:b=true->DOps P ro n ops Q (⟨dst,op,ty,pos,after,some (j,want)⟩::rest) ⟨(k,.bool true)::γ,O,df⟩) (h2:b=false->DOps P ro n ops Q (⟨dst,op,ty,pos,after,some (j,want)⟩::rest) ⟨(k,.bool false)::γ,O,df⟩):DOps P ro n ops Q (⟨dst,op,ty,pos,after,some (j,want)⟩::rest) ⟨γ,O,df⟩:=by
 cases b with
 |true=>exact Ck (BN (by rw[An hb];exact A8 _)) (h1 rfl)
 |false=>exact Ck (BN (by rw[An hb];exact A8 _)) (h2 rfl)
theorem Ks{tab:Nat->Ty}(ht:AZ P tab)(hl:A0 γ (A5 op.operands.toList)=some Sr)(he:eopD tab Sr O op=some (d,U'))(aa:decide (t<n)=true)
  (h:DOps P ro n ops Q rest ⟨(t,d)::γ,U',df⟩):DOps P ro n ops Q (⟨some t,op,ty,pos,after,none⟩::rest) ⟨γ,O,df⟩:=
 Fk (o:=⟨some t,op,ty,pos,after,none⟩) ht rfl ((Bp (Cj hl)) ▸ he) aa h
theorem DP{tab:Nat->Ty}(ht:AZ P tab)(hl:A0 γ (A5 op.operands.toList)=some Sr)(he:eopD tab Sr O op=some (d,U'))
  (h:DOps P ro n ops Q rest ⟨γ,U',df⟩):DOps P ro n ops Q (⟨none,op,ty,pos,after,none⟩::rest) ⟨γ,O,df⟩:=
 Fk (o:=⟨none,op,ty,pos,after,none⟩) ht rfl ((Bp (Cj hl)) ▸ he) rfl h
theorem TY{tab:Nat->Ty}(ht:AZ P tab)(vars:List Nat){T T' ty':Nat}{x:Operand}{pos':String}{after':Array Edge}{cs:List D}(hv:vars.contains t=false)(hT:T'=T)(aa:decide (t<n)=true)(hx:Ew t x=true)(ho:A1 (tab T).k=false)
  (hl:A0 γ (A5 [x])=some Sr) (he:ev Sr x=d) (ah:d.told=true) (hc:d.cells=cs) (hlen:cs.length=(tab T).size) (am:BB cs=true)
  (h:DOps P ro n ops Q rest ⟨(t,.cptr cs 0)::γ,O,df⟩) :
  DOps P ro n ops Q (⟨some t,.alloc T,ty,pos,after,none⟩::⟨none,.store T' (.tmp t) x,ty',pos',after',none⟩::rest) ⟨γ,O,df⟩:=by
 rw[C2 hl]at he
 subst he;subst hT;subst hc
 exact Nr ht ho (by simpa using aa) (G9 ht hx) ah hlen am h
theorem GA{id:Nat}{l:List Oper}(h:DOps P ro n l.toArray Q l ⟨γ,O,df⟩):DWp P ro n (.region id l.toArray false) Q ⟨γ,O,df⟩:=PB h
theorem Li{c:Operand}{x y:Code}{b:Bool}{Sr:Fr}(hl:A0 γ (A5 [c])=some Sr)(hc:ev Sr c=.bool b)(ht:b=true->DWp P ro n x Q ⟨γ,O,df⟩)(hf:b=false->DWp P ro n y Q ⟨γ,O,df⟩):
  DWp P ro n (.cond c x y) Q ⟨γ,O,df⟩:=Oy (s:=⟨γ,O,df⟩) (by rw[<-C2 hl];exact hc) ht hf
theorem GP{c:Operand}{x y:Code}{Sr:Fr}(hl:A0 γ (A5 [c])=some Sr)(hc:ev Sr c=.bool true)(h:DWp P ro n x Q ⟨γ,O,df⟩):
  DWp P ro n (.cond c x y) Q ⟨γ,O,df⟩:=Li hl hc (fun _=>h) (fun e=>by cases e)
theorem GQ{c:Operand}{x y:Code}{Sr:Fr}(hl:A0 γ (A5 [c])=some Sr)(hc:ev Sr c=.bool false)(h:DWp P ro n y Q ⟨γ,O,df⟩):
  DWp P ro n (.cond c x y) Q ⟨γ,O,df⟩:=Li hl hc (fun e=>by cases e) (fun _=>h)
theorem G1{fop:Operand}{args:Array Operand}{ats:Array TypeId}{f:Nat}{first cap us bs:List D}{R:DE->Sig->Prop}{dst:Option Tmp}
  (hl:A0 γ (A5 (fop::args.toList))=some Sr) (hf:ev Sr fop=.func (.func f) first cap) (ha:first++args.toList.map (ev Sr)++cap=us) (hw:bs=us\/bs=us.map D.plain) (h:DCall P f bs O R)
  (ho:Ar n ⟨dst,(cv fop args ats),ty,pos,after,none⟩=true)
  (ai:∀d U',R (.ret d) U'->DOps P ro n ops Q rest ⟨putD dst d γ,U',df⟩)
  (aj:∀d U',R (.panic d) U'->Q (.panic d) ⟨γ,U',df⟩) :
  DOps P ro n ops Q (⟨dst,(cv fop args ats),ty,pos,after,none⟩::rest) ⟨γ,O,df⟩:=by
 have hx:∀x∈fop::args.toList,ev Sr x=ev γ x:=fun x hx=>B2 fun t ht=>Aq hl t (Ax (by rw[<-ht];exact hx))
 refine Dg (az:=bs) rfl (by rw[<-hx fop (by simp)];exact hf) h ?_ ho ai aj
 rw[show args.toList.map (ev γ)=args.toList.map (ev Sr) from List.map_congr_left fun x h=>(hx x (by simp[h])).symm,ha]
 rcases hw with rfl|rfl
 ·exact CO _
 ·exact Cq _
theorem Jx{fop:Operand}{args:Array Operand}{ats:Array TypeId}{f:Nat}{first cap us bs:List D}{d:D}
  (hl:A0 γ (A5 (fop::args.toList))=some Sr) (hf:ev Sr fop=.func (.func f) first cap) (ha:first++args.toList.map (ev Sr)++cap=us) (hw:bs=us\/bs=us.map D.plain) (h:DCall P f bs O (rS d O))
  (aa:decide (t<n)=true) (k:DOps P ro n ops Q rest ⟨(t,d)::γ,O,df⟩) :
  DOps P ro n ops Q (⟨some t,(cv fop args ats),ty,pos,after,none⟩::rest) ⟨γ,O,df⟩:=
 G1 hl hf ha hw h aa (fun d' U' ⟨e1,e2⟩=>by cases e1;subst e2;exact k) (fun d' U' ⟨e1,e2⟩=>by cases e1)
theorem OW{fop:Operand}{args:Array Operand}{ats:Array TypeId}{f:Nat}{first cap us bs:List D}{R:DE->Sig->Prop}{dst:Option Tmp}{j:Nat}{want:Bool}{k:Nat}(hk:(ops[j]?).bind (·.dst)=some k)(hb:γ.lookup k=some (.bool want))
  (hl:A0 γ (A5 (fop::args.toList))=some Sr) (hf:ev Sr fop=.func (.func f) first cap) (ha:first++args.toList.map (ev Sr)++cap=us) (hw:bs=us\/bs=us.map D.plain) (h:DCall P f bs O R)
  (ho:Ar n ⟨dst,(cv fop args ats),ty,pos,after,some (j,want)⟩=true)
  (ai:∀d U',R (.ret d) U'->DOps P ro n ops Q rest ⟨putD dst d γ,U',df⟩)
  (aj:∀d U',R (.panic d) U'->Q (.panic d) ⟨γ,U',df⟩) :
  DOps P ro n ops Q (⟨dst,(cv fop args ats),ty,pos,after,some (j,want)⟩::rest) ⟨γ,O,df⟩:=by
 have hx:∀x∈fop::args.toList,ev Sr x=ev γ x:=fun x hx=>B2 fun t ht=>Aq hl t (Ax (by rw[<-ht];exact hx))
 refine Dg (az:=bs) (by simp only[Ay,CC hk hb];simp) (by rw[<-hx fop (by simp)];exact hf) h ?_ ho ai aj
 rw[show args.toList.map (ev γ)=args.toList.map (ev Sr) from List.map_congr_left fun x h=>(hx x (by simp[h])).symm,ha]
 rcases hw with rfl|rfl
 ·exact CO _
 ·exact Cq _
theorem HV{fop:Operand}{args:Array Operand}{ats:Array TypeId}{f:Nat}{first cap us bs:List D}{d:D}{j:Nat}{want:Bool}{k:Nat}(hk:(ops[j]?).bind (·.dst)=some k)(hb:γ.lookup k=some (.bool want))
  (hl:A0 γ (A5 (fop::args.toList))=some Sr) (hf:ev Sr fop=.func (.func f) first cap) (ha:first++args.toList.map (ev Sr)++cap=us) (hw:bs=us\/bs=us.map D.plain) (h:DCall P f bs O (rS d O))
  (aa:decide (t<n)=true) (kk:DOps P ro n ops Q rest ⟨(t,d)::γ,O,df⟩) :
  DOps P ro n ops Q (⟨some t,(cv fop args ats),ty,pos,after,some (j,want)⟩::rest) ⟨γ,O,df⟩:=
 OW hk hb hl hf ha hw h aa (fun d' U' ⟨e1,e2⟩=>by cases e1;subst e2;exact kk) (fun d' U' ⟨e1,e2⟩=>by cases e1)
end
@[simp] theorem nat_eq_int(a b:Nat):((a:Int)=(b:Int))=(a=b):=propext Int.ofNat_inj
@[simp] theorem Qx(a:Nat):((a+1:Nat):Int)=(a:Int)+1:=rfl
def Dm(γ:Fr):List Nat->Option Fr
 |[]=>some []
 | t::ts=>match γ.lookup t with
  |some d=>match Dm γ ts with
   |some r=>some ((t,d)::r)
   |none=>none
  |none=>Dm γ ts
def TellsR(γ:Fr):Fr->Prop
 |[]=>True
 |p::r=>WkD (getD γ p.1) p.2/\TellsR γ r
theorem TellsR.get{γ:Fr}: ∀{V':Fr},TellsR γ V'->∀t,WkD (getD γ t) (getD V' t)
 |[],_,t=>E7 _
 |p::r,h,t=>by
  rw[show p::r=(p.1,p.2)::r from rfl,A4]
  by_cases ht:t=p.1
  ·rw[if_pos ht,ht];exact h.1
  ·rw[if_neg ht];exact TellsR.get h.2 t
theorem FW{γ:Fr}:TellsR γ []:=trivial
theorem Fa{γ r:Fr}{t:Nat}{d d':D}(hl:γ.lookup t=some d')(h:WkD d' d)(k:TellsR γ r):TellsR γ ((t,d)::r):=⟨by rw[An hl];exact h,k⟩
theorem FY{γ a b:Fr}(h:TellsR γ a)(k:TellsR γ b):TellsR γ (a++b):=by
 induction a with
 |nil=>exact k
 |cons p a ih=>exact⟨h.1,ih h.2⟩
theorem Kk{P:Program}{n:Nat}{γ V':Fr}{O U':Sig}{df:List DDf}(h:TellsR γ V')(hU:Sub U' O):Wk P n ⟨γ,O,df⟩ ⟨V',U',df⟩:=
 fun g w a hs=>⟨g,.refl g,⟨hs.sim.sub hU,⟨hs.tmps.1,fun t=>h.get t g _ (hs.tmps.2 t)⟩,hs.df⟩⟩
theorem Di{O U':Sig}(h:U'=O):Sub U' O:=h ▸ Sub.refl _
theorem F2{P:Program}{ro:Ro}{n:Nat}{Q:DX->St->Prop}{df:List DDf}{γ Sk:Fr}{O:Sig}{α:Type}{c:Code}(keep:List Nat)(I:α->Prop)(ov:α->Fr)(sg:α->Sig)(μ:α->Nat)(x0:α)(hk:Dm γ keep=some Sk)(h0:I x0)(h1:TellsR γ (ov x0++Sk))(h2:Sub (sg x0) O)
  (round:∀x,I x->DWp P ro n c (Then (fun s'=> ∃x',I x'/\μ x'<μ x/\Wk P n s' ⟨ov x'++Sk,sg x',df⟩) Q) ⟨ov x++Sk,sg x,df⟩):DWp P ro n (.loop c) Q ⟨γ,O,df⟩:=by
 refine Ox (fun x:{x // I x}=>⟨ov x.1++Sk,sg x.1,df⟩) (fun x=>μ x.1) ⟨x0,h0⟩ (Kk h1 h2) fun x=>Fj (round x.1 x.2) ?_
 intro e s h
 cases e with
 |normal=>obtain⟨x',h3,h4,h5⟩:=h;exact⟨⟨x',h3⟩,h4,h5⟩
 |_=>exact h
theorem PD{P:Program}{ro:Ro}{n:Nat}{Q:DX->St->Prop}{df:List DDf}{γ Sk:Fr}{O:Sig}{α β:Type}{c:Code}(keep:List Nat)(I:α->β->Prop)(ov:α->β->Fr)(sg:α->β->Sig)(μ:α->β->Nat)(x0:α)(y0:β)(hk:Dm γ keep=some Sk)(h0:I x0 y0)(h1:TellsR γ (ov x0 y0++Sk))(h2:Sub (sg x0 y0) O)
  (round:∀x y,I x y->DWp P ro n c (Then (fun s'=> ∃x' y',I x' y'/\μ x' y'<μ x y/\Wk P n s' ⟨ov x' y'++Sk,sg x' y',df⟩) Q) ⟨ov x y++Sk,sg x y,df⟩):DWp P ro n (.loop c) Q ⟨γ,O,df⟩:=by
 refine F2 (α:=α×β) keep (fun x=>I x.1 x.2) (fun x=>ov x.1 x.2) (fun x=>sg x.1 x.2) (fun x=>μ x.1 x.2) (x0,y0) hk h0 h1 h2 fun x hx=>Fj (round x.1 x.2 hx) ?_
 intro e s h
 cases e with
 |normal=>obtain⟨x',y',h3,h4,h5⟩:=h;exact⟨(x',y'),h3,h4,h5⟩
 |_=>exact h
theorem PC{P:Program}{ro:Ro}{n:Nat}{Q:DX->St->Prop}{df:List DDf}{γ Sk:Fr}{O:Sig}{α β δ:Type}{c:Code}(keep:List Nat)(I:α->β->δ->Prop)(ov:α->β->δ->Fr)(sg:α->β->δ->Sig)(μ:α->β->δ->Nat)(x0:α)(y0:β)(z0:δ)(hk:Dm γ keep=some Sk)(h0:I x0 y0 z0)(h1:TellsR γ (ov x0 y0 z0++Sk))(h2:Sub (sg x0 y0 z0) O)
  (round:∀x y z,I x y z->DWp P ro n c (Then (fun s'=> ∃x' y' z',I x' y' z'/\μ x' y' z'<μ x y z/\Wk P n s' ⟨ov x' y' z'++Sk,sg x' y' z',df⟩) Q) ⟨ov x y z++Sk,sg x y z,df⟩):DWp P ro n (.loop c) Q ⟨γ,O,df⟩:=by
 refine F2 (α:=α×β×δ) keep (fun x=>I x.1 x.2.1 x.2.2) (fun x=>ov x.1 x.2.1 x.2.2) (fun x=>sg x.1 x.2.1 x.2.2) (fun x=>μ x.1 x.2.1 x.2.2) (x0,y0,z0) hk h0 h1 h2 fun x hx=>Fj (round x.1 x.2.1 x.2.2 hx) ?_
 intro e s h
 cases e with
 |normal=>obtain⟨x',y',z',h3,h4,h5⟩:=h;exact⟨(x',y',z'),h3,h4,h5⟩
 |_=>exact h
section
variable (tab:Nat->Ty)(γ:List (Nat×D))(O:Sig)(T T' m f:Nat)(x y z:Operand)(c:Bool)
@[simp] theorem dopX_move:dopX tab γ O (.move x)=some (ev γ x):=rfl
@[simp] theorem dopX_assign:dopX tab γ O (.assign x)=some (ev γ x):=rfl
@[simp] theorem dopX_pick:dopX tab γ O (.pick x y z)=N6 (ev γ x) (ev γ y) (ev γ z):=by unfold dopX;simp only[dop,dop2];cases N6 (ev γ x) (ev γ y) (ev γ z)<;>rfl
@[simp] theorem dopX_box:dopX tab γ O (.box T x)=boxD (ev γ x):=by unfold dopX;simp only[dop,dop2];cases boxD (ev γ x)<;>rfl
@[simp] theorem dopX_load:dopX tab γ O (.load T x)=Jd (tab T) O (ev γ x):=by unfold dopX;simp only[dop,dop2];cases Jd (tab T) O (ev γ x)<;>rfl
@[simp] theorem dopX_nil:dopX tab γ O (.nilCheck x)=nilD (ev γ x):=by unfold dopX;simp only[dop,dop2];cases nilD (ev γ x)<;>rfl
@[simp] theorem dopX_bin(o:BinOp):dopX tab γ O (.binOp o T x y T')=binD o (ev γ x) (ev γ y):=by unfold dopX;simp only[dop,dop2];cases binD o (ev γ x) (ev γ y)<;>rfl
@[simp] theorem dopX_un(o:UnOp):dopX tab γ O (.unOp o T x)=unD o (ev γ x):=by unfold dopX;simp only[dop,dop2];cases unD o (ev γ x)<;>rfl
@[simp] theorem dopX_conv:dopX tab γ O (.convert T T' x)=Tt (A1 (tab T).k) (tab T').k (ev γ x):=by unfold dopX;simp only[dop,dop2];cases Tt (A1 (tab T).k) (tab T').k (ev γ x)<;>rfl
@[simp] theorem dopX_mkif:dopX tab γ O (.makeInterface T x)=QO (tab T) T (ev γ x):=by unfold dopX;simp only[dop,dop2];cases QO (tab T) T (ev γ x)<;>rfl
@[simp] theorem dopX_mkfn(fn:Fn)(a b:Array Operand):dopX tab γ O (.makeFunc fn a b)=some (.func fn (a.toList.map (ev γ)) (b.toList.map (ev γ))):=rfl
@[simp] theorem dopX_fa:dopX tab γ O (.fieldAddr T x f)=Df tab f (ev γ x) (tab T).k:=by unfold dopX;simp only[dop,dop2];cases Df tab f (ev γ x) (tab T).k<;>rfl
@[simp] theorem dopX_fi:dopX tab γ O (.field T x f)=LU tab f (tab T).k (ev γ x):=by unfold dopX;simp only[dop,dop2];cases LU tab f (tab T).k (ev γ x)<;>rfl
@[simp] theorem dopX_ia:dopX tab γ O (.indexAddr T x y)=Cn tab (tab T).k (ev γ x) (ev γ y):=by unfold dopX;simp only[dop,dop2];cases Cn tab (tab T).k (ev γ x) (ev γ y)<;>rfl
@[simp] theorem dopX_ix:dopX tab γ O (.index T x y)=LP (tab T).k (ev γ x) (ev γ y):=by unfold dopX;simp only[dop,dop2];cases LP (tab T).k (ev γ x) (ev γ y)<;>rfl
@[simp] theorem dopX_ex:dopX tab γ O (.extract x f)=Gx f (ev γ x):=by unfold dopX;simp only[dop,dop2];cases Gx f (ev γ x)<;>rfl
@[simp] theorem dopX_bs(ps:Array (Nat×Operand)):dopX tab γ O (.buildSlice T m ps)=Hb tab γ m ps.toList (tab T).k:=by unfold dopX;simp only[dop,dop2];cases Hb tab γ m ps.toList (tab T).k<;>rfl
@[simp] theorem dopX_sl(a b d:Option Operand):dopX tab γ O (.slice T x a b d)=HZ tab (tab T).k (ev γ x) (a.map (ev γ)) (b.map (ev γ)) (d.map (ev γ)):=rfl
@[simp] theorem dopX_lk:dopX tab γ O (.lookup T x y c)=FL tab O c (tab T).k (ev γ x) (ev γ y):=rfl
@[simp] theorem dopX_ta:dopX tab γ O (.typeAssert x T T' c)=J7 tab T' c (ev γ x):=rfl
@[simp] theorem dopX_bd(ps:Array (Nat×Operand)):dopX tab γ O (.build T ps)=MF tab T (ps.toList.map fun p=>(p.1,ev γ p.2)) (tab T).k:=rfl
@[simp] theorem dopX_len (xs:Array Operand) (ts:Array TypeId):dopX tab γ O (.call { callee := .builtin .len,args:=xs,argTypes:=ts })=match lenC tab γ ts.toList xs.toList with
  |some d=>some d
  |none=>H0 tab γ O ts.toList xs.toList:=rfl
@[simp] theorem dopX_max(ts:Array TypeId):dopX tab γ O (.call { callee:=.builtin .max,args:= #[x,y],argTypes:=ts })=LC true (ev γ x) (ev γ y):=rfl
@[simp] theorem dopX_min(ts:Array TypeId):dopX tab γ O (.call { callee:=.builtin .min,args:= #[x,y],argTypes:=ts })=LC false (ev γ x) (ev γ y):=rfl
@[simp] theorem eopD_store:eopD tab γ O (.store T x y)=DO tab O T (ev γ x) (ev γ y):=rfl
@[simp] theorem eopD_upd:eopD tab γ O (.mapUpdate T x y z)=updD tab O (tab T).k (ev γ x) (ev γ y) (ev γ z):=rfl
@[simp] theorem eopD_ins:eopD tab γ O (.insert T x y z)=updD tab O (tab T).k (ev γ x) (ev γ y) (ev γ z):=rfl
@[simp] theorem eopD_app(ts:Array TypeId):eopD tab γ O (.call { callee:=.builtin .append,args:= #[x,y],argTypes:=ts })=appD tab O ts.toList (ev γ x) (ev γ y):=rfl
end
def nthO:List Oper->Nat->Option Oper
 |[],_=>none
 |o::_,0=>some o
 |_::l,i+1=>nthO l i
theorem GV: ∀(l:List Oper) (i:Nat),nthO l i=l[i]?
 |[],_=>rfl
 |_::_,0=>rfl
 |_::l,i+1=>by rw[nthO,GV l i];rfl
def I7 (ops:List Oper) (E:List Nat):List Nat->Option (List (Bool × Oper))
 |[]=>some []
 | i::r=>match nthO ops i with
  | some o=>match I7 ops E r with
   |some l=>match E.contains i with
    |true=>some ((true,o)::l)
    |false=>some ((false,o)::l)
   |none=>none
  |none=>none
theorem N5{ops:List Oper}{E:List Nat}: ∀{ord:List Nat}{lp:List (Bool×Oper)},I7 ops E ord=some lp->pick ops.toArray E ord=lp
 |[],_,h=>by cases h;rfl
 |i::r,lp,h=>by
  simp only[I7]at h
  split at h<;>(try (cases h;done))
  rename_i o ho
  rw[GV]at ho
  split at h<;>(try (cases h;done))
  rename_i l hl
  have ih:=N5 hl
  unfold pick at ih⊢
  rw[List.filterMap_cons,List.getElem?_toArray,ho]
  simp only[Option.map_some]
  rw[ih]
  split at h<;>(cases h;rename_i he;rw[he])
section
variable {P:Program}{ro:Ro}{n:Nat}{ops:Array Oper}{N:Nat}{S0:Sig}{Q:DX->St->Prop}{df:List DDf}{γ Sr:List (Nat×D)}{O U':Sig}{t:Nat}{op:Op}{ty:TypeId}{pos:String}{after:Array Edge}{d:D}{e:Bool}{l:List (Bool×Oper)}
theorem Ov(hN:P.funcs.size=N)(hm:P.follows .mixedOrders=true){lo:List Oper}{id:Nat}(ord E:List Nat)(S0:Sig)(hB:Ex lo.toArray E ord=true)(hC:Sub S0 O)
  {lp:List (Bool×Oper)} (hl:I7 lo E ord=some lp) (h:MO P ro n lo.toArray N S0 Q df lp γ O):DWp P ro n (.region id lo.toArray true) Q ⟨γ,O,df⟩:=
 V9 hN hm ord E S0 hB hC (N5 hl) h
theorem Hy: ∀(l:List (Bool×Oper)) {γ V':Fr}{O:Sig},Alike γ V'->MO P ro n ops N S0 Q df l γ O->MO P ro n ops N S0 Q df l V' O
 |[],_,_,_,h,k=>C4 h k
 |(e,o)::r,_,_,_,h,k=>(match k with
  |.inl ⟨d,h2,h3⟩=>.inl ⟨d,h2.congr fun t _=>h t,Hy r (h.put _ _) h3⟩
  |.inr ⟨h1,h2⟩=>.inr ⟨h1,h2.congr (fun t _=>h t) fun d U' ⟨h3,h4⟩=>⟨h3,Hy r (h.put _ _) h4⟩⟩)
theorem QK{tab:Nat->Ty}(ht:AZ P tab){o:Oper}(hr:Dl o.op=true)(ho:Ar n o=true)(hw:Ay ops γ o=some true)(hd:dopX tab γ S0 o.op=some d)
  (h:MO P ro n ops N S0 Q df l (putD o.dst d γ) O):MO P ro n ops N S0 Q df ((e,o)::l) γ O:=by
 refine .inl ⟨d,⟨ho,.inl ⟨by rw[Af];exact hw,C9 hr,J9 ht hd,fun U' hU g w a hs hT=>?_⟩⟩,h⟩
 refine F3 ht hs hT (?_:dopX tab (only (o.looksAt ops) γ) U' o.op=some d)
 rw[BC (V':=γ) fun x hx=>Bl hx]
 exact F4 hU hd
theorem KF{tab:Nat->Ty}(ht:AZ P tab)(hr:Dl op=true)(aa:decide (t<n)=true)(hl:A0 γ (A5 op.operands.toList)=some Sr)(hd:dopX tab Sr S0 op=some d)
  (h:MO P ro n ops N S0 Q df l ((t,d)::γ) O):MO P ro n ops N S0 Q df ((e,⟨some t,op,ty,pos,after,none⟩)::l) γ O:=
 QK (o:=⟨some t,op,ty,pos,after,none⟩) ht hr aa rfl ((BC (Cj hl)) ▸ hd) h
theorem KE{tab:Nat->Ty}(ht:AZ P tab){j:Nat}{want:Bool}{k:Nat}(hr:Dl op=true)(aa:decide (t<n)=true)(hk:(ops[j]?).bind (·.dst)=some k)(hb:γ.lookup k=some (.bool want))(hl:A0 γ (A5 op.operands.toList)=some Sr)(hd:dopX tab Sr S0 op=some d)
  (h:MO P ro n ops N S0 Q df l ((t,d)::γ) O):MO P ro n ops N S0 Q df ((e,⟨some t,op,ty,pos,after,some (j,want)⟩)::l) γ O:=
 QK (o:=⟨some t,op,ty,pos,after,some (j,want)⟩) ht hr aa (by simp only[Ay,CC hk hb];simp) ((BC (Cj hl)) ▸ hd) h
theorem KD{j:Nat}{want:Bool}{k:Nat}(hk:(ops[j]?).bind (·.dst)=some k)(hb:γ.lookup k=some (.bool (!want)))(hs:DQ N op=true)(aa:decide (t<n)=true)
  (h:MO P ro n ops N S0 Q df l ((t,.tup [])::γ) O):MO P ro n ops N S0 Q df ((e,⟨some t,op,ty,pos,after,some (j,want)⟩)::l) γ O:=
 mo_skip (o:=⟨some t,op,ty,pos,after,some (j,want)⟩) (by simp only[Ay,CC hk hb];simp) aa hs h
theorem Uc{dst:Option Tmp}{j:Nat}{want b:Bool}{k:Nat}(hk:(ops[j]?).bind (·.dst)=some k)(hb:γ.lookup k=some (.bool b))
  (h1:b=true->MO P ro n ops N S0 Q df ((e,⟨dst,op,ty,pos,after,some (j,want)⟩)::l) ((k,.bool true)::γ) O) (h2:b=false->MO P ro n ops N S0 Q df ((e,⟨dst,op,ty,pos,after,some (j,want)⟩)::l) ((k,.bool false)::γ) O) :
  MO P ro n ops N S0 Q df ((e,⟨dst,op,ty,pos,after,some (j,want)⟩)::l) γ O:=by
 have al:∀c,b=c->Alike ((k,.bool c)::γ) γ:=by
  rintro c rfl t
  rw[A4]
  by_cases ht:t=k
  ·subst ht;rw[if_pos rfl,An hb]
  ·rw[if_neg ht]
 cases b with
 |true=>exact Hy _ (al true rfl) (h1 rfl)
 |false=>exact Hy _ (al false rfl) (h2 rfl)
theorem QI{tab:Nat->Ty}(ht:AZ P tab){o:Oper}(ho:Ar n o=true)(hw:Ay ops γ o=some true)(he:eopD tab γ O o.op=some (d,U'))(hC:Sub S0 U')
  (h:MO P ro n ops N S0 Q df l (putD o.dst d γ) U'):MO P ro n ops N S0 Q df ((true,o)::l) γ O:=by
 refine .inr ⟨rfl,ho,by rw[Af];exact hw,?_⟩
 refine Fk ht (by rw[Af];exact hw) (by rw[Bp (V':=γ) fun x hx=>Bl hx];exact he) ho (Au ⟨rfl,?_⟩)
 cases hd:o.dst with
 |none=>rw[hd]at h;exact⟨hC,h⟩
 |some t=>
  rw[hd]at h
  simp only[putD,A4,if_true]
  exact⟨hC,h⟩
theorem N8{tab:Nat->Ty}(ht:AZ P tab)(hl:A0 γ (A5 op.operands.toList)=some Sr)(he:eopD tab Sr O op=some (d,U'))(aa:decide (t<n)=true)(hC:Sub S0 U')
  (h:MO P ro n ops N S0 Q df l ((t,d)::γ) U'):MO P ro n ops N S0 Q df ((true,⟨some t,op,ty,pos,after,none⟩)::l) γ O:=
 QI (o:=⟨some t,op,ty,pos,after,none⟩) ht aa rfl ((Bp (Cj hl)) ▸ he) hC h
theorem FK{tab:Nat->Ty}(ht:AZ P tab)(hl:A0 γ (A5 op.operands.toList)=some Sr)(he:eopD tab Sr O op=some (d,U'))(hC:Sub S0 U')
  (h:MO P ro n ops N S0 Q df l γ U'):MO P ro n ops N S0 Q df ((true,⟨none,op,ty,pos,after,none⟩)::l) γ O:=
 QI (o:=⟨none,op,ty,pos,after,none⟩) ht rfl rfl ((Bp (Cj hl)) ▸ he) hC h
theorem KG{fop:Operand}{args:Array Operand}{ats:Array TypeId}{f:Nat}{first cap us bs:List D}{R:DE->Sig->Prop}{dst:Option Tmp}{guard:Option (Nat×Bool)}
  (hw:Ay ops γ ⟨dst,(cv fop args ats),ty,pos,after,guard⟩=some true)
  (hl:A0 γ (A5 (fop::args.toList))=some Sr) (hf:ev Sr fop=.func (.func f) first cap) (ha:first++args.toList.map (ev Sr)++cap=us) (hb:bs=us\/bs=us.map D.plain) (h:DCall P f bs O R)
  (ho:Ar n ⟨dst,(cv fop args ats),ty,pos,after,guard⟩=true)
  (ai:∀d U',R (.ret d) U'->Sub S0 U'/\MO P ro n ops N S0 Q df l (putD dst d γ) U')
  (aj:∀d U',R (.panic d) U'->∀V',Q (.panic d) ⟨V',U',df⟩) :
  MO P ro n ops N S0 Q df ((true,⟨dst,(cv fop args ats),ty,pos,after,guard⟩)::l) γ O:=by
 have hx:∀x∈fop::args.toList,ev Sr x=ev γ x:=fun x hx=>B2 fun t ht=>Aq hl t (Ax (by rw[<-ht];exact hx))
 have aU:∀x∈((cv fop args ats)).operands,ev (only (Oper.looksAt ops ⟨dst,(cv fop args ats),ty,pos,after,guard⟩) γ) x=ev γ x:=fun x hx=>Bl (o:=⟨dst,(cv fop args ats),ty,pos,after,guard⟩) hx
 refine .inr ⟨rfl,ho,by rw[Af];exact hw,?_⟩
 refine Dg (first:=first) (cap:=cap) (f:=f) (R:=R) ?_ ?_ h ?_ ho ?_ ?_
 ·show Ay ops (only _ γ) _=some true
  rw[Af];exact hw
 ·rw[aU fop (by simp[Op.operands,Call.operands]),<-hx fop (by simp)];exact hf
 ·simp only
  rw[show args.toList.map (ev (only (Oper.looksAt ops ⟨dst,(cv fop args ats),ty,pos,after,guard⟩) γ))=args.toList.map (ev Sr) from List.map_congr_left fun x hm=>by
   rw[aU x (by simp at hm;simp[Op.operands,Call.operands,hm]),<-hx x (by simp[hm])],ha]
  rcases hb with rfl|rfl
  ·exact CO _
  ·exact Cq _
 ·intro d U' hR
  obtain⟨h1,h2⟩:=ai d U' hR
  refine Au ⟨rfl,?_⟩
  cases dst with
  |none=>exact⟨h1,h2⟩
  |some t=>simp only[putD,A4,if_true];exact⟨h1,h2⟩
 ·intro d U' hR
  exact⟨rfl,aj d U' hR⟩
theorem Ue{fop:Operand}{args:Array Operand}{ats:Array TypeId}{f:Nat}{first cap us bs:List D}
  (hl:A0 γ (A5 (fop::args.toList))=some Sr) (hf:ev Sr fop=.func (.func f) first cap) (ha:first++args.toList.map (ev Sr)++cap=us) (hw:bs=us\/bs=us.map D.plain) (h:DCall P f bs O (rS d O))
  (aa:decide (t<n)=true) (hC:Sub S0 O) (k:MO P ro n ops N S0 Q df l ((t,d)::γ) O) :
  MO P ro n ops N S0 Q df ((true,⟨some t,(cv fop args ats),ty,pos,after,none⟩)::l) γ O:=
 KG rfl hl hf ha hw h aa (fun d' U' ⟨e1,e2⟩=>by cases e1;subst e2;exact⟨hC,k⟩) (fun d' U' ⟨e1,e2⟩=>by cases e1)
theorem QL{fop:Operand}{args:Array Operand}{ats:Array TypeId}{f:Nat}{first cap us bs:List D}{j:Nat}{want:Bool}{k:Nat}(hk:(ops[j]?).bind (·.dst)=some k)(hb:γ.lookup k=some (.bool want))
  (hl:A0 γ (A5 (fop::args.toList))=some Sr) (hf:ev Sr fop=.func (.func f) first cap) (ha:first++args.toList.map (ev Sr)++cap=us) (hw:bs=us\/bs=us.map D.plain) (h:DCall P f bs O (rS d O))
  (aa:decide (t<n)=true) (hC:Sub S0 O) (kk:MO P ro n ops N S0 Q df l ((t,d)::γ) O) :
  MO P ro n ops N S0 Q df ((true,⟨some t,(cv fop args ats),ty,pos,after,some (j,want)⟩)::l) γ O:=
 KG (by simp only[Ay,CC hk hb];simp) hl hf ha hw h aa (fun d' U' ⟨e1,e2⟩=>by cases e1;subst e2;exact⟨hC,kk⟩) (fun d' U' ⟨e1,e2⟩=>by cases e1)
end
section
variable {P:Program}{ro:Ro}{n:Nat}{ops:Array Oper}{Q:DX->St->Prop}{df:List DDf}{rest:List Oper}{γ Sr Sr2:List (Nat×D)}{O:Sig}{t t2:Nat}{d d2:D}
theorem Q7{tab:Nat->Ty}(ht:AZ P tab)(vars:List Nat){T T' ty ty' ty2:Nat}{x y:Operand}{pos pos' pos2:String}{after after' after2:Array Edge}{cs:List D}(hv:vars.contains t=false)(hT:T'=T)(aa:decide (t<n)=true)(aM:decide (t2<n)=true)(hx:Ew t x=true)(hy:Ew t y=true)(aK:Ew t2 x=true)(aJ:decide (t2=t)=false)(ho:A1 (tab T).k=false)
  (aW:A0 γ (A5 [y])=some Sr2) (aY:ev Sr2 y=d2) (hl:A0 γ (A5 [x])=some Sr) (he:ev Sr x=d) (ah:d.told=true) (hc:d.cells=cs) (hlen:cs.length=(tab T).size) (am:BB cs=true)
  (h:DOps P ro n ops Q rest ⟨(t,.cptr cs 0)::(t2,d2)::γ,O,df⟩) :
  DOps P ro n ops Q (⟨some t,.alloc T,ty,pos,after,none⟩::⟨some t2,.assign y,ty2,pos2,after2,none⟩::⟨none,.store T' (.tmp t) x,ty',pos',after',none⟩::rest) ⟨γ,O,df⟩:=by
 rw[C2 hl]at he
 rw[C2 aW]at aY
 subst he;subst aY;subst hT;subst hc
 have aJ:t2≠t:=by simpa using aJ
 have hx:=G9 ht hx
 have hy:=G9 ht hy
 have aK:=G9 ht aK
 refine E2 ht ho (by simpa using aa) fun i hi=>?_
 have bl:ev ((t,.ptr i 0)::γ) y=ev γ y:=by
  cases y with
  |tmp k=>simp only[ev,A4];rw[if_neg fun e=>hy (by rw[e])]
  |_=>rfl
 refine IM (d:=ev γ y) ht rfl rfl (by rw[<-bl];rfl) aM ?_
 simp only[putD]
 have aH:ev ((t2,ev γ y)::(t,.ptr i 0)::γ) x=ev γ x:=by
  cases x with
  |tmp k=>simp only[ev,A4];rw[if_neg fun e=>aK (by rw[e]),if_neg fun e=>hx (by rw[e])]
  |_=>rfl
 have hz:(tab T').zero.length=(tab T').size:=by
  obtain⟨_,_,_,_,_,_,_,_,_,_,h8,_⟩:=BO (ht T') (Ae ho)
  exact h8
 refine K2 ht rfl ho (x:=.tmp t) (i:=i) (off:=0) (by simp[ev,A4,Ne.symm aJ]) (w6 ..) (by rw[aH];exact ah) (by rw[aH];exact hlen) (by rw[aH];exact am) (by rw[aH];omega) ?_
 rw[aH]
 refine Ck (Lb (i:=i) (t:=t) (w6 ..) (by simp[A4,Ne.symm aJ])) ?_
 have e1:(tab T').zero.take 0++(ev γ x).cells++(tab T').zero.drop (0+(ev γ x).cells.length)=(ev γ x).cells:=by
  rw[List.drop_of_length_le (by omega)];simp
 rw[Sig.set_set,Sig.set_del _ _ hi,e1]
 refine C4 (γ:=(t,.cptr (ev γ x).cells 0)::(t2,ev γ y)::γ) (fun k=>?_) h
 simp only[A4]
 split
 ·rfl
 ·split<;>rfl
end
end Go.DL
