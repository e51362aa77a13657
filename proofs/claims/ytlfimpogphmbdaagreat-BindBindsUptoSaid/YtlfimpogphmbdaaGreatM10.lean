/- Part of the proof that the last text ends. -/
import Derived.Test.YtlfimpogphmbdaaGreatM09
set_option linter.all false
namespace Go.DL
open Go
def isAl (o:Oper):Option (Nat × Nat):=match o with
 | ⟨some t, .alloc T,_,_,_,none⟩=>some (t,T)
 | _=>none
theorem EM {o:Oper} {t T:Nat} (h:isAl o=some (t,T)) : ∃ ty pos af,o=⟨some t, .alloc T,ty,pos,af,none⟩:=by
 unfold isAl at h
 split at h
 ·cases h;exact ⟨_,_,_,rfl⟩
 ·cases h
section
variable (P:Program) (ro:Option Nat) (n:Nat) (ops:Array Oper) (N:Nat) (S0:Sig) (Q:DX->St->Prop) (df:List DDf) (tab:Nat->Ty)
def Step2 (e:Bool) (o:Oper) (γ:Fr) (V:Sig) (K:Fr->Sig->Prop):Prop :=
 match isAl o with
 | some (t,T) => ∀ k,V k=none->K ((t, .ptr k 0)::γ) (V.set k (.cells (tab T).zero))
 | none=>(∃ d,Calm P n ops N S0 γ o d/\K (putD o.dst d γ) V) \/
  (e=true/\Eff P ro n ops df γ V o (fun d S'=>Sub S0 S'/\K (putD o.dst d γ) S') (fun d S' => ∀ U',Q (.panic d) ⟨U',S',df⟩))
def MOps2 (E:List Nat):List Nat->Fr->Sig->Prop
 | [],γ,V=>DOps P ro n ops Q [] ⟨γ,V,df⟩
 | i::r,γ,V => ∃ o,ops[i]? = some o/\Step2 P ro n ops N S0 Q df tab (E.contains i) o γ V (MOps2 E r)
def MO2:List (Bool × Oper)->Fr->Sig->Prop
 | [],γ,V=>DOps P ro n ops Q [] ⟨γ,V,df⟩
 | (e,o)::r,γ,V=>Step2 P ro n ops N S0 Q df tab e o γ V (MO2 r)
end
section
variable {P:Program} {ro:Option Nat} {n:Nat} {ops:Array Oper} {N:Nat} {S0:Sig} {Q:DX->St->Prop} {df:List DDf} {E:List Nat} {tab:Nat->Ty}
theorem Step2.mono {e:Bool} {o:Oper} {γ U':Fr} {V:Sig} {K K':Fr->Sig->Prop} (h:Step2 P ro n ops N S0 Q df tab e o γ V K) (hal:Alike γ U') (hK : ∀ γ U' V,Alike γ U'->K γ V->K' U' V):Step2 P ro n ops N S0 Q df tab e o U' V K':=by
 unfold Step2 at h ⊢
 split at h
 ·exact fun k hk=>hK _ _ _ (hal.put (some _) _) (h k hk)
 ·rcases h with ⟨d,h2,h3⟩ | ⟨h1,h2⟩
  ·exact .inl ⟨d,h2.congr fun t _=>hal t,hK _ _ _ (hal.put _ _) h3⟩
  ·exact .inr ⟨h1,h2.congr (fun t _=>hal t) fun d S' ⟨h3,h4⟩=>⟨h3,hK _ _ _ (hal.put _ _) h4⟩⟩
theorem MOps2.alike : ∀ (l:List Nat) {γ U':Fr} {V:Sig},Alike γ U'->MOps2 P ro n ops N S0 Q df tab E l γ V->MOps2 P ro n ops N S0 Q df tab E l U' V
 | [],_,_,_,h,k=>CG h k
 | i::r,_,_,_,h,⟨o,ho,k⟩=>⟨o,ho,k.mono h fun _ _ _ h' k'=>MOps2.alike r h' k'⟩
theorem set_comm (V:Sig) {k k':Nat} (h:k ≠ k') (x y:DObj):(V.set k x).set k' y=(V.set k' y).set k x:=by
 funext j
 simp only [Sig.set]
 by_cases h1:j=k'<;>by_cases h2:j=k<;>simp_all
theorem J6 {i:Nat} {oi:Oper} (hi:ops[i]? = some oi) (post:List Nat) : ∀ (pre:List Nat) (γ:Fr) (V:Sig),
  (∀ x ∈ pre,E.contains x=false /\ ∃ ox,ops[x]? = some ox/\oi.apart ops ox=true/\((isAl ox).isSome=true->(isAl oi).isSome=true))->MOps2 P ro n ops N S0 Q df tab E (pre++i::post) γ V->MOps2 P ro n ops N S0 Q df tab E (i::(pre++post)) γ V
 | [],_,_,_,h=>h
 | x::pre,γ,V,hp,h=>by
  obtain ⟨hxE,ox,hox,hap,hal⟩:=hp x (by simp)
  obtain ⟨a1,a2,a3⟩:=Oper.apart_spec hap
  obtain ⟨ox',hox',hx⟩:=h
  obtain rfl:ox'=ox:=by rw [hox] at hox';cases hox';rfl
  have ih : ∀ γ V,MOps2 P ro n ops N S0 Q df tab E (pre++i::post) γ V->MOps2 P ro n ops N S0 Q df tab E (i::(pre++post)) γ V:=fun γ V=>J6 hi post pre γ V fun y hy=>hp y (by simp [hy])
  refine ⟨oi,hi, ?_⟩
  cases hax:isAl ox' with
  | some p =>
   obtain ⟨t,T⟩:=p
   cases hai:isAl oi with
   | none=>rw [hax,hai] at hal;simp at hal
   | some q =>
    obtain ⟨t',T'⟩:=q
    obtain ⟨_,_,_,rfl⟩:=EM hax
    obtain ⟨_,_,_,rfl⟩:=EM hai
    simp only [Step2,isAl] at hx ⊢
    intro k' hk'
    refine ⟨_,hox, ?_⟩
    simp only [Step2,isAl]
    intro k hk
    have hne:k ≠ k':=by
     rintro rfl
     simp [Sig.set] at hk
    have hk0:V k=none:=by rw [w8 _ _ hne] at hk;exact hk
    obtain ⟨oi',hoi',hh⟩:=ih _ _ (hx k hk0)
    rw [hi] at hoi';cases hoi'
    simp only [Step2,isAl] at hh
    have h3:=hh k' (by rw [w8 _ _ (Ne.symm hne)];exact hk')
    rw [set_comm V hne] at h3
    exact MOps2.alike _ (Bs (a:=some t') (b:=some t) _ _ _ fun t p q=>a2 t p q) h3
  | none =>
   simp only [Step2,hax] at hx
   rcases hx with ⟨d,hy,h⟩ | ⟨hE,_⟩
   ·obtain ⟨oi',hoi',hh⟩:=ih _ V h
    rw [hi] at hoi';cases hoi'
    cases hai:isAl oi with
    | some q =>
     obtain ⟨t',T'⟩:=q
     obtain ⟨_,_,_,rfl⟩:=EM hai
     simp only [Step2,isAl] at hh ⊢
     intro k' hk'
     refine ⟨ox',hox, ?_⟩
     simp only [Step2,hax]
     refine .inl ⟨d,hy.congr fun t ht=>(AF (dst:=some t') fun hd=>a1 t hd ht).symm, ?_⟩
     exact MOps2.alike _ (Bs _ _ _ fun t p q=>a2 t p q) (hh k' hk')
    | none =>
     simp only [Step2,hai] at hh ⊢
     rcases hh with ⟨e,h2,h3⟩ | ⟨h1,h2⟩
     ·refine .inl ⟨e,h2.congr fun t ht=>AF fun hd=>a3 t hd ht,ox',hox, ?_⟩
      simp only [Step2,hax]
      refine .inl ⟨d,hy.congr fun t ht=>(AF fun hd=>a1 t hd ht).symm, ?_⟩
      exact MOps2.alike _ (Bs _ _ _ fun t p q=>a2 t p q) h3
     ·refine .inr ⟨h1,h2.congr (fun t ht=>AF fun hd=>a3 t hd ht) fun e S' ⟨h3,h4⟩=>⟨h3,ox',hox, ?_⟩⟩
      simp only [Step2,hax]
      refine .inl ⟨d,hy.congr fun t ht=>(AF fun hd=>a1 t hd ht).symm, ?_⟩
      exact MOps2.alike _ (Bs _ _ _ fun t p q=>a2 t p q) h4
   ·rw [hxE] at hE;cases hE
def K4 (ops:Array Oper) (E:List Nat):List Nat->List Nat->Bool
 | _,[]=>true
 | done,i::r => !done.contains i && (match ops[i]? with
  | some o=>(o.after.all fun e => !Region.binds .any e || done.contains e.on) && done.all fun x=>(!E.contains x && match ops[x]? with
   | some ox=>o.apart ops ox && (!(isAl ox).isSome || (isAl o).isSome)
   | none=>false) || Ef ops ops.size i x
  | none=>false) && K4 ops E (i::done) r
theorem H6 {i:Nat} {l2:List Nat} : ∀ (l1 done:List Nat),K4 ops E done (l1++i::l2)=true->i ∉ l1/\i ∉ done/\i ∉ l2 /\ ∃ o,ops[i]? = some o/\(∀ e ∈ o.after,Region.binds .any e=true->e.on ∈ l1\/e.on ∈ done) /\
   ∀ x,x ∈ l1->Ef ops ops.size i x=true\/(E.contains x=false /\ ∃ ox,ops[x]? = some ox/\o.apart ops ox=true/\((isAl ox).isSome=true->(isAl o).isSome=true))
 | [],done,h=>by
  simp only [List.nil_append,K4,Bool.and_eq_true,Bool.not_eq_true',List.contains_eq_mem,decide_eq_false_iff_not] at h
  obtain ⟨⟨h1,h2⟩,h3⟩:=h
  have later : ∀ (l d:List Nat),i ∈ d->K4 ops E d l=true->i ∉ l:=by
   intro l
   induction l with
   | nil=>intro _ _ _ h;cases h
   | cons y l ih =>
    intro d hd hm hmem
    simp only [K4,Bool.and_eq_true,Bool.not_eq_true',List.contains_eq_mem,decide_eq_false_iff_not] at hm
    obtain ⟨⟨m1,_⟩,m3⟩:=hm
    rcases List.mem_cons.1 hmem with rfl | hmem
    ·exact m1 hd
    ·exact ih (y::d) (by simp [hd]) m3 hmem
  refine ⟨by simp,h1,later l2 _ (by simp) h3, ?_⟩
  split at h2
  ·rename_i o ho
   simp only [Bool.and_eq_true] at h2
   refine ⟨o,ho,fun e he hb => ?_,fun x hx=>by cases hx⟩
   have:=Array.all_eq_true_iff_forall_mem.1 h2.1 e he
   simp only [hb,Bool.not_true,Bool.false_or,List.contains_eq_mem,decide_eq_true_eq] at this
   exact .inr this
  ·cases h2
 | y::l1,done,h=>by
  simp only [List.cons_append,K4,Bool.and_eq_true] at h
  obtain ⟨h1,h2,h3,o,ho,he,hx⟩:=H6 l1 (y::done) h.2
  have hiy:i ≠ y:=fun e=>h2 (by simp [e])
  refine ⟨by simp [hiy,h1],fun hd=>h2 (by simp [hd]),h3,o,ho,fun e hm hb => ?_, ?_⟩
  ·rcases he e hm hb with h4 | h4
   ·exact .inl (by simp [h4])
   ·rcases List.mem_cons.1 h4 with h5 | h5
    ·exact .inl (by simp [h5])
    ·exact .inr h5
  ·intro x hmem
   rcases List.mem_cons.1 hmem with rfl | hmem
   ·have back : ∀ (l d:List Nat),x ∈ d->K4 ops E d (l++i::l2)=true->Ef ops ops.size i x=true\/(E.contains x=false /\ ∃ ox,ops[x]? = some ox/\o.apart ops ox=true/\((isAl ox).isSome=true->(isAl o).isSome=true)):=by
     intro l
     induction l with
     | nil =>
      intro d hd hm
      simp only [List.nil_append,K4,Bool.and_eq_true,ho] at hm
      have:=List.all_eq_true.1 hm.1.2.2 x hd
      simp only [Bool.or_eq_true,Bool.and_eq_true,Bool.not_eq_true'] at this
      rcases this.symm with h4 | ⟨h4,h5⟩
      ·exact .inl h4
      ·refine .inr ⟨h4, ?_⟩
       split at h5
       ·rename_i ox hox
        simp only [Bool.and_eq_true,Bool.or_eq_true,Bool.not_eq_true'] at h5
        exact ⟨ox,hox,h5.1,fun hs=>by rcases h5.2 with h6 | h6;rw [h6] at hs;cases hs;exact h6⟩
       ·cases h5
     | cons z l ih =>
      intro d hd hm
      simp only [List.cons_append,K4,Bool.and_eq_true] at hm
      exact ih (z::d) (by simp [hd]) hm.2
    exact back l1 _ (by simp) h.2
   ·exact hx x hmem
def HD (ops:Array Oper) (E ord:List Nat):Bool:=K4 ops E [] ord && (List.range ops.size).all ord.contains && ord.length==ops.size
def Rg (tab:Nat->Ty) (n:Nat) (ops:Array Oper):Bool:=ops.all fun o=>match isAl o with
 | some (t,T)=>decide (t < n) && !A6 (tab T).k
 | none=>true
theorem RU (ht:B5 P tab) (hN:P.funcs.size=N) {ord:List Nat} (hB:HD ops E ord=true) (hA:Rg tab n ops=true) {g0:G} {rr:Option Nat} (hr:RoRep g0 ro rr) : ∀ (m:Nat) (r:List Nat) (listed:Array Bool) (γ:Fr) (V:Sig),r.length=m->listed.size=ops.size ->
  r=ord.filter (fun i => !listed.getD i true)->Closed ops listed->MOps2 P ro n ops N S0 Q df tab E r γ V->Sub S0 V ->
   ∀ (g:G) (w:World) (a:Act),g0.le g->SimS P g n ⟨γ,V,df⟩ a w->wpAnyIn (FX P rr) 0 P .any ops (Post P g0 n Q) m listed a w:=by
 unfold HD at hB
 simp only [Bool.and_eq_true] at hB
 obtain ⟨⟨hmix,hall⟩,_⟩:=hB
 have hmem : ∀ (r:List Nat) (listed:Array Bool),r=ord.filter (fun i => !listed.getD i true) -> ∀ i ∈ Region.ready .any ops listed,i ∈ r:=by
  intro r listed hf i hi
  obtain ⟨h1,o,ho,_⟩:=mem_ready.1 hi
  have:=List.all_eq_true.1 hall i (by simpa using (Array.getElem?_eq_some_iff.1 ho).1)
  rw [hf,List.mem_filter]
  exact ⟨by simpa using this,by rw [h1];rfl⟩
 intro m
 induction m with
 | zero =>
  intro r listed γ V hl hsz hf hcl h hC g w a hg hs
  obtain rfl:r=[]:=List.length_eq_zero_iff.1 hl
  refine ⟨List.eq_nil_iff_forall_not_mem.2 fun i hi => ?_, ?_⟩
  ·have:=hmem [] listed hf i hi;cases this
  ·exact Post.le hg (h g w a rr (hr.mono hg) hs)
 | succ m ih =>
  intro r listed γ V hl hsz hf hcl h hC g w a hg hs
  obtain ⟨y,t,rfl⟩ : ∃ y t,r=y::t:=by cases r with | nil=>cases hl | cons y t=>exact ⟨y,t,rfl⟩
  refine ⟨fun he => ?_,fun i hi => ?_⟩
  ·exfalso
   obtain ⟨l1,l2,hord,hl1,hy,hl2⟩:=List.filter_eq_cons_iff.1 hf.symm
   subst hord
   obtain ⟨h1,_,_,o,ho,hea,_⟩:=H6 l1 [] hmix
   have:y ∈ Region.ready .any ops listed:=by
    refine mem_ready.2 ⟨by simpa using hy,o,ho,fun e hm hb => ?_⟩
    rcases hea e hm hb with h4 | h4
    ·have h5:=hl1 _ h4
     simp only [Bool.not_eq_true,Bool.not_eq_false'] at h5
     have hlt:e.on < listed.size:=by
      have:e.on ∈ l1++y::l2:=by simp [h4]
      obtain ⟨p1,p2,hp⟩:=List.append_of_mem this
      rw [hp] at hmix
      obtain ⟨_,_,_,o',ho',_⟩:=H6 p1 [] hmix
      rw [hsz];exact (Array.getElem?_eq_some_iff.1 ho').1
     simpa [hlt] using h5
    ·cases h4
   rw [he] at this;cases this
  ·obtain ⟨pre,post,hsplit⟩:=List.append_of_mem (hmem _ listed hf i hi)
   rw [hsplit] at hf h hl
   obtain ⟨l1',l2',hord,hf1,hf2⟩:=List.filter_eq_append_iff.1 hf.symm
   obtain ⟨m1,m2,hl2',hm1,hiu,hf3⟩:=List.filter_eq_cons_iff.1 hf2
   have hord':ord=(l1'++m1)++i::m2:=by rw [hord,hl2'];simp
   rw [hord'] at hmix
   obtain ⟨n1,_,n3,o,ho,hea,hx⟩:=H6 (l1'++m1) [] hmix
   obtain ⟨hiun,o',ho',hdone⟩:=mem_ready.1 hi
   obtain rfl:o'=o:=by rw [ho] at ho';cases ho';rfl
   have hfront:=J6 ho post pre γ V (fun x hxp=>by
    have hx1:x ∈ l1'++m1:=by
     have:x ∈ l1'.filter (fun i => !listed.getD i true):=by rw [hf1];exact hxp
     simp [(List.mem_filter.1 this).1]
    have hxu:listed.getD x true=false:=by
     have:x ∈ l1'.filter (fun i => !listed.getD i true):=by rw [hf1];exact hxp
     simpa using (List.mem_filter.1 this).2
    rcases hx x hx1 with h4 | h4
    ·exfalso
     have:=Cj hcl ops.size i x o' ho hdone h4
     rcases Nat.lt_or_ge x listed.size with hlt | hlt
     ·simp [hlt] at this hxu;rw [hxu] at this;cases this
     ·simp [Array.getElem?_eq_none hlt] at this
    ·exact h4) h
   have hnext:pre++post=ord.filter (fun j => !(listed.setIfInBounds i true).getD j true):=by
    have hil:i < listed.size:=by
     rw [hsz];exact (Array.getElem?_eq_some_iff.1 ho).1
    rw [hord',List.filter_append,List.filter_cons]
    have e1:(listed.setIfInBounds i true).getD i true=true:=by simp [hil]
    rw [e1,Av n1,Av n3]
    simp only [Bool.not_true,Bool.false_eq_true,if_false,List.filter_append,hf1,hf3]
    rw [List.filter_eq_nil_iff.2 (fun x hx=>by simpa using hm1 x hx),List.append_nil]
   have hlen:(pre++post).length=m:=by simp at hl ⊢; omega
   obtain ⟨o2,ho2,hh⟩:=hfront
   obtain rfl:o2=o':=by rw [ho] at ho2;cases ho2;rfl
   have hok:=Array.all_eq_true_iff_forall_mem.1 hA o2 (Array.mem_of_getElem? ho)
   unfold wpOpIn
   simp only [ho]
   cases hai:isAl o2 with
   | some p =>
    obtain ⟨t,T⟩:=p
    rw [hai] at hok
    simp only [Bool.and_eq_true,decide_eq_true_eq,Bool.not_eq_true'] at hok
    obtain ⟨_,_,_,rfl⟩:=EM hai
    simp only [Step2,isAl] at hh
    refine CN (Q:=Q) (R:=fun d S' => ∃ k,V k=none/\d = .ptr k 0/\S'=V.set k (.cells (tab T).zero)) (Rp:=fun _ _=>False) (hr.mono hg) hg hs ⟨by simp [Ar,hok.1],rfl, ?_⟩ (fun g' w' a' d S' hg' hR hs' => ?_) fun _ _ h=>h.elim
    ·exact Dw ht hok.2 hok.1 fun k hk=>AJ ⟨rfl,k,hk,by simp [A7],rfl⟩
    ·obtain ⟨k,hk,rfl,rfl⟩:=hR
     exact ih _ _ _ _ hlen (by simpa using hsz) hnext (hcl.set hi) (hh k hk) (fun i o h=>(Sub.refl _).set hk i o (hC i o h)) g' w' a' (hg.trans hg') hs'
   | none =>
    simp only [Step2,hai] at hh
    rcases hh with ⟨d,hy,hM⟩ | ⟨_,hE⟩
    ·exact Ev (Q:=Q) hN (hr.mono hg) hg hs hC hy fun g' w' a' hg' hs'=>ih _ _ _ _ hlen (by simpa using hsz) hnext (hcl.set hi) hM hC g' w' a' (hg.trans hg') hs'
    ·exact CN (Q:=Q) (hr.mono hg) hg hs hE (fun g' w' a' d S' hg' hR hs'=>ih _ _ _ _ hlen (by simpa using hsz) hnext (hcl.set hi) hR.2 hR.1 g' w' a' (hg.trans hg') hs') fun d S' hp=>hp
theorem HT : ∀ {ord:List Nat} {γ:Fr} {V:Sig},(∀ i ∈ ord,i < ops.size)->MO2 P ro n ops N S0 Q df tab (pick ops E ord) γ V->MOps2 P ro n ops N S0 Q df tab E ord γ V
 | [],_,_,_,h=>h
 | i::r,γ,V,hlt,h=>by
  have hi:ops[i]? = some ops[i]! := by
   have:=hlt i (by simp)
   simp [this]
  have hp:pick ops E (i::r)=(E.contains i,ops[i]!)::pick ops E r:=by
   unfold pick
   rw [List.filterMap_cons,hi]
   rfl
  rw [hp] at h
  refine ⟨_,hi, ?_⟩
  refine Step2.mono h (fun _=>rfl) fun γ U' V hal h=>MOps2.alike _ hal (HT (fun j hj=>hlt j (by simp [hj])) h)
theorem VR (ht:B5 P tab) (hN:P.funcs.size=N) (hm:P.follows .mixedOrders=true) {l:List Oper} {id:Nat} {γ:Fr} {V:Sig} (ord E:List Nat) (S0:Sig) (hB:HD l.toArray E ord=true) (hA:Rg tab n l.toArray=true) (hC:Sub S0 V)
  {lp:List (Bool × Oper)} (hlp:Gs l E ord=some lp) (h:MO2 P ro n l.toArray N S0 Q df tab lp γ V):DWp P ro n (.region id l.toArray true) Q ⟨γ,V,df⟩:=by
 intro g w a r hr hs
 refine wpIn_region_any hm ?_
 have hcl:Closed l.toArray (Array.replicate l.toArray.size false):=by
  intro q o _ hq
  rcases Nat.lt_or_ge q l.length with h' | h'
  ·simp [h'] at hq
  ·simp [h'] at hq
 have hs':SimS P g n ⟨γ,V,df⟩ a { w with drawn:=w.drawn+1 } :=
  ⟨⟨fun b o v h=>hs.sim.imm b o v h,hs.sim.keep,fun i o h=>by
   have:=hs.sim.obj i o h
   cases o<;>exact this,hs.sim.inj,hs.sim.free,hs.sim.htop,hs.sim.hdom,hs.sim.fin,hs.sim.io⟩,hs.tmps,hs.df⟩
 have hlt : ∀ i ∈ ord,i < l.toArray.size:=by
  intro i hi
  obtain ⟨p1,p2,hp⟩:=List.append_of_mem hi
  have hB':=hB
  unfold HD at hB'
  simp only [Bool.and_eq_true] at hB'
  rw [hp] at hB'
  obtain ⟨_,_,_,o',ho',_⟩:=H6 p1 [] hB'.1.1
  exact (Array.getElem?_eq_some_iff.1 ho').1
 have hlen:ord.length=l.toArray.size:=by
  have hB':=hB
  unfold HD at hB'
  simp only [Bool.and_eq_true,beq_iff_eq] at hB'
  exact hB'.2
 have:=RU ht hN hB hA hr ord.length ord (Array.replicate l.toArray.size false) γ V rfl (by simp) (CZ hlt).symm hcl (HT hlt (by rw [IV hlp];exact h)) hC g _ a (.refl g) hs'
 rw [hlen] at this
 exact this
theorem Fj : ∀ {l:List (Bool × Oper)} {γ:Fr} {V:Sig},(l.all fun p => !(isAl p.2).isSome)=true->MO P ro n ops N S0 Q df l γ V->MO2 P ro n ops N S0 Q df tab l γ V
 | [],_,_,_,h=>h
 | (e,o)::l,γ,V,hl,h=>by
  simp only [List.all_cons,Bool.and_eq_true,Bool.not_eq_true'] at hl
  have hn:isAl o=none:=by cases h:isAl o with | none=>rfl | some _=>rw [h] at hl;simp at hl
  show Step2 P ro n ops N S0 Q df tab e o γ V _
  simp only [Step2,hn]
  rcases h with ⟨d,h2,h3⟩ | ⟨h1,h2⟩
  ·exact .inl ⟨d,h2,Fj hl.2 h3⟩
  ·exact .inr ⟨h1,h2.congr (fun _ _=>rfl) fun d S' ⟨h3,h4⟩=>⟨h3,Fj hl.2 h4⟩⟩
theorem Em {e:Bool} {t T:Nat} {ty:TypeId} {pos:String} {after:Array Edge} {l:List (Bool × Oper)} {γ:Fr} {V:Sig} (h : ∀ k,V k=none->MO2 P ro n ops N S0 Q df tab l ((t, .ptr k 0)::γ) (V.set k (.cells (tab T).zero))) :
  MO2 P ro n ops N S0 Q df tab ((e,⟨some t, .alloc T,ty,pos,after,none⟩)::l) γ V:=h
theorem Vc {e:Bool} {o:Oper} {l:List (Bool × Oper)} {γ:Fr} {V:Sig} {d:D} (ha:isAl o=none) (hc:Calm P n ops N S0 γ o d) (h:MO2 P ro n ops N S0 Q df tab l (putD o.dst d γ) V) :
  MO2 P ro n ops N S0 Q df tab ((e,o)::l) γ V:=by
 show Step2 P ro n ops N S0 Q df tab e o γ V _
 simp only [Step2,ha]
 exact .inl ⟨d,hc,h⟩
theorem Aw (ht:B5 P tab) {e:Bool} {t:Nat} {op:Op} {ty:TypeId} {pos:String} {after:Array Edge} {d:D} {l:List (Bool × Oper)} {γ Sr:Fr} {V:Sig} (hr:DB op=true) (htn:decide (t < n)=true) (hl:A5 γ (A8 op.operands.toList)=some Sr) (hd:dopX tab Sr S0 op=some d)
  (h:MO2 P ro n ops N S0 Q df tab l ((t,d)::γ) V):MO2 P ro n ops N S0 Q df tab ((e,⟨some t,op,ty,pos,after,none⟩)::l) γ V:=by
 have hd':=(B8 (BT hl)) ▸ hd
 refine Vc (d:=d) ?_ ⟨htn, .inl ⟨by rw [B1];rfl,Cr hr,JY ht hd',fun S' hZ g w a hs hT => ?_⟩⟩ h
 ·unfold isAl;split
  ·rename_i heq;cases heq;cases hr
  ·rfl
 ·refine FD ht hs hT (?_:dopX tab (only _ γ) S' op=some d)
  rw [B8 (U':=γ) fun x hx=>C2 (o:=⟨some t,op,ty,pos,after,none⟩) hx]
  exact Hi hZ hd'
end
section
variable (P:Program) (ro:Option Nat) (n:Nat) (ops:Array Oper) (N:Nat) (S0:Sig) (Q:DX->St->Prop) (df:List DDf) (tab:Nat->Ty)
def USt (o:Oper) (γ:Fr) (V:Sig) (K:Fr->Sig->Prop):Prop :=
 (∃ (dj:Nat->D) (x:DObj),(∀ τ,Eff P ro n ops df γ τ o (fun d' V' => ∃ j,τ j=none/\d'=dj j/\V'=τ.set j x) (fun _ _=>False)) /\ ∀ j,V j=none->K (putD o.dst (dj j) γ) (V.set j x)) \/
 (∃ (j:Nat) (y x:DObj) (d:D),V j=some y/\S0 j=none/\(∀ τ,τ j=some y->Eff P ro n ops df γ τ o (fun d' V'=>d'=d/\V'=τ.set j x) (fun _ _=>False))/\K (putD o.dst d γ) (V.set j x))
def Step3 (e u:Bool) (o:Oper) (γ:Fr) (V:Sig) (K:Fr->Sig->Prop):Prop :=
 match isAl o with
 | some (t,T) => ∀ k,V k=none->K ((t, .ptr k 0)::γ) (V.set k (.cells (tab T).zero))
 | none=>(∃ d,Calm P n ops N S0 γ o d/\K (putD o.dst d γ) V) \/
  (e=true/\Eff P ro n ops df γ V o (fun d S'=>Sub S0 S'/\K (putD o.dst d γ) S') (fun d S' => ∀ U',Q (.panic d) ⟨U',S',df⟩)) \/
  (u=true/\USt P ro n ops S0 df o γ V K)
def MOps3 (E U:List Nat):List Nat->Fr->Sig->Prop
 | [],γ,V=>DOps P ro n ops Q [] ⟨γ,V,df⟩
 | i::r,γ,V => ∃ o,ops[i]? = some o/\Step3 P ro n ops N S0 Q df tab (E.contains i) (U.contains i) o γ V (MOps3 E U r)
def MO3:List (Bool × Bool × Oper)->Fr->Sig->Prop
 | [],γ,V=>DOps P ro n ops Q [] ⟨γ,V,df⟩
 | (e,u,o)::r,γ,V=>Step3 P ro n ops N S0 Q df tab e u o γ V (MO3 r)
end
section
variable {P:Program} {ro:Option Nat} {n:Nat} {ops:Array Oper} {N:Nat} {S0:Sig} {Q:DX->St->Prop} {df:List DDf} {E U:List Nat} {tab:Nat->Ty}
theorem USt.congr {o:Oper} {γ U':Fr} {V:Sig} {K K':Fr->Sig->Prop} (h:USt P ro n ops S0 df o γ V K) (hal : ∀ t ∈ o.looksAt ops,getD γ t=getD U' t) (hK : ∀ d S',K (putD o.dst d γ) S'->K' (putD o.dst d U') S'):USt P ro n ops S0 df o U' V K':=by
 rcases h with ⟨dj,x,hE,h⟩ | ⟨j,y,x,d,hj,h0,hE,h⟩
 ·exact .inl ⟨dj,x,fun τ=>(hE τ).congr hal fun _ _ h=>h,fun j hj=>hK _ _ (h j hj)⟩
 ·exact .inr ⟨j,y,x,d,hj,h0,fun τ hO=>(hE τ hO).congr hal fun _ _ h=>h,hK _ _ h⟩
theorem Step3.mono {e u:Bool} {o:Oper} {γ U':Fr} {V:Sig} {K K':Fr->Sig->Prop} (h:Step3 P ro n ops N S0 Q df tab e u o γ V K) (hal:Alike γ U') (hK : ∀ γ U' V,Alike γ U'->K γ V->K' U' V):Step3 P ro n ops N S0 Q df tab e u o U' V K':=by
 unfold Step3 at h ⊢
 split at h
 ·exact fun k hk=>hK _ _ _ (hal.put (some _) _) (h k hk)
 ·rcases h with ⟨d,h2,h3⟩ | ⟨h1,h2⟩ | ⟨h1,h2⟩
  ·exact .inl ⟨d,h2.congr fun t _=>hal t,hK _ _ _ (hal.put _ _) h3⟩
  ·exact .inr (.inl ⟨h1,h2.congr (fun t _=>hal t) fun d S' ⟨h3,h4⟩=>⟨h3,hK _ _ _ (hal.put _ _) h4⟩⟩)
  ·exact .inr (.inr ⟨h1,h2.congr (fun t _=>hal t) fun d S' h4=>hK _ _ _ (hal.put _ _) h4⟩)
theorem MOps3.alike : ∀ (l:List Nat) {γ U':Fr} {V:Sig},Alike γ U'->MOps3 P ro n ops N S0 Q df tab E U l γ V->MOps3 P ro n ops N S0 Q df tab E U l U' V
 | [],_,_,_,h,k=>CG h k
 | i::r,_,_,_,h,⟨o,ho,k⟩=>⟨o,ho,k.mono h fun _ _ _ h' k'=>MOps3.alike r h' k'⟩
theorem J5 {i:Nat} {oi:Oper} (hi:ops[i]? = some oi) (post:List Nat) : ∀ (pre:List Nat) (γ:Fr) (V:Sig),
  (∀ x ∈ pre,E.contains x=false/\(U.contains x=true->(isAl oi).isSome=true) /\ ∃ ox,ops[x]? = some ox/\oi.apart ops ox=true/\((isAl ox).isSome=true->(isAl oi).isSome=true))->MOps3 P ro n ops N S0 Q df tab E U (pre++i::post) γ V->MOps3 P ro n ops N S0 Q df tab E U (i::(pre++post)) γ V
 | [],_,_,_,h=>h
 | x::pre,γ,V,hp,h=>by
  obtain ⟨hxE,hxU,ox,hox,hap,hal⟩:=hp x (by simp)
  obtain ⟨a1,a2,a3⟩:=Oper.apart_spec hap
  obtain ⟨ox',hox',hx⟩:=h
  obtain rfl:ox'=ox:=by rw [hox] at hox';cases hox';rfl
  have ih : ∀ γ V,MOps3 P ro n ops N S0 Q df tab E U (pre++i::post) γ V->MOps3 P ro n ops N S0 Q df tab E U (i::(pre++post)) γ V:=fun γ V=>J5 hi post pre γ V fun y hy=>hp y (by simp [hy])
  refine ⟨oi,hi, ?_⟩
  cases hax:isAl ox' with
  | some p =>
   obtain ⟨t,T⟩:=p
   cases hai:isAl oi with
   | none=>rw [hax,hai] at hal;simp at hal
   | some q =>
    obtain ⟨t',T'⟩:=q
    obtain ⟨_,_,_,rfl⟩:=EM hax
    obtain ⟨_,_,_,rfl⟩:=EM hai
    simp only [Step3,isAl] at hx ⊢
    intro k' hk'
    refine ⟨_,hox, ?_⟩
    simp only [Step3,isAl]
    intro k hk
    have hne:k ≠ k':=by
     rintro rfl
     simp [Sig.set] at hk
    have hk0:V k=none:=by rw [w8 _ _ hne] at hk;exact hk
    obtain ⟨oi',hoi',hh⟩:=ih _ _ (hx k hk0)
    rw [hi] at hoi';cases hoi'
    simp only [Step3,isAl] at hh
    have h3:=hh k' (by rw [w8 _ _ (Ne.symm hne)];exact hk')
    rw [set_comm V hne] at h3
    exact MOps3.alike _ (Bs (a:=some t') (b:=some t) _ _ _ fun t p q=>a2 t p q) h3
  | none =>
   simp only [Step3,hax] at hx
   rcases hx with ⟨d,hy,h⟩ | ⟨hE,_⟩ | ⟨hUx,hu⟩
   ·obtain ⟨oi',hoi',hh⟩:=ih _ V h
    rw [hi] at hoi';cases hoi'
    cases hai:isAl oi with
    | some q =>
     obtain ⟨t',T'⟩:=q
     obtain ⟨_,_,_,rfl⟩:=EM hai
     simp only [Step3,isAl] at hh ⊢
     intro k' hk'
     refine ⟨ox',hox, ?_⟩
     simp only [Step3,hax]
     refine .inl ⟨d,hy.congr fun t ht=>(AF (dst:=some t') fun hd=>a1 t hd ht).symm, ?_⟩
     exact MOps3.alike _ (Bs _ _ _ fun t p q=>a2 t p q) (hh k' hk')
    | none =>
     simp only [Step3,hai] at hh ⊢
     rcases hh with ⟨e,h2,h3⟩ | ⟨h1,h2⟩ | ⟨h1,h2⟩
     ·refine .inl ⟨e,h2.congr fun t ht=>AF fun hd=>a3 t hd ht,ox',hox, ?_⟩
      simp only [Step3,hax]
      refine .inl ⟨d,hy.congr fun t ht=>(AF fun hd=>a1 t hd ht).symm, ?_⟩
      exact MOps3.alike _ (Bs _ _ _ fun t p q=>a2 t p q) h3
     ·refine .inr (.inl ⟨h1,h2.congr (fun t ht=>AF fun hd=>a3 t hd ht) fun e S' ⟨h3,h4⟩=>⟨h3,ox',hox, ?_⟩⟩)
      simp only [Step3,hax]
      refine .inl ⟨d,hy.congr fun t ht=>(AF fun hd=>a1 t hd ht).symm, ?_⟩
      exact MOps3.alike _ (Bs _ _ _ fun t p q=>a2 t p q) h4
     ·refine .inr (.inr ⟨h1,h2.congr (fun t ht=>AF fun hd=>a3 t hd ht) fun e S' h4=>⟨ox',hox, ?_⟩⟩)
      simp only [Step3,hax]
      refine .inl ⟨d,hy.congr fun t ht=>(AF fun hd=>a1 t hd ht).symm, ?_⟩
      exact MOps3.alike _ (Bs _ _ _ fun t p q=>a2 t p q) h4
   ·rw [hxE] at hE;cases hE
   ·cases hai:isAl oi with
    | none=>rw [hai] at hxU;exact absurd (hxU hUx) (by simp)
    | some q =>
     obtain ⟨t',T'⟩:=q
     obtain ⟨_,_,_,rfl⟩:=EM hai
     simp only [Step3,isAl]
     intro k hk
     refine ⟨ox',hox, ?_⟩
     simp only [Step3,hax]
     refine .inr (.inr ⟨hUx, ?_⟩)
     rcases hu with ⟨dj,xo,hE,hK⟩ | ⟨j,y,xo,d,hj,h0,hE,hK⟩
     ·refine .inl ⟨dj,xo,fun τ=>(hE τ).congr (fun t ht=>(AF (dst:=some t') fun hd=>a1 t hd ht).symm) fun _ _ h=>h,fun j hj => ?_⟩
      have hne:j ≠ k:=by
       rintro rfl
       simp [Sig.set] at hj
      have hj0:V j=none:=by rw [w8 _ _ hne] at hj;exact hj
      obtain ⟨oi',hoi',hh⟩:=ih _ _ (hK j hj0)
      rw [hi] at hoi';cases hoi'
      simp only [Step3,isAl] at hh
      have h3:=hh k (by rw [w8 _ _ (Ne.symm hne)];exact hk)
      rw [set_comm V hne] at h3
      exact MOps3.alike _ (Bs (a:=some t') (b:=ox'.dst) _ _ _ fun t p q=>a2 t p q) h3
     ·have hne:j ≠ k:=fun e=>by rw [e,hk] at hj;cases hj
      refine .inr ⟨j,y,xo,d,by rw [w8 _ _ hne];exact hj,h0,fun τ hO=>(hE τ hO).congr (fun t ht=>(AF (dst:=some t') fun hd=>a1 t hd ht).symm) fun _ _ h=>h, ?_⟩
      obtain ⟨oi',hoi',hh⟩:=ih _ _ hK
      rw [hi] at hoi';cases hoi'
      simp only [Step3,isAl] at hh
      have h3:=hh k (by rw [w8 _ _ (Ne.symm hne)];exact hk)
      rw [set_comm V hne] at h3
      exact MOps3.alike _ (Bs (a:=some t') (b:=ox'.dst) _ _ _ fun t p q=>a2 t p q) h3
def K3 (ops:Array Oper) (E U:List Nat):List Nat->List Nat->Bool
 | _,[]=>true
 | done,i::r => !done.contains i && (match ops[i]? with
  | some o=>(o.after.all fun e => !Region.binds .any e || done.contains e.on) && done.all fun x=>(!E.contains x && (!U.contains x || (isAl o).isSome) && match ops[x]? with
   | some ox=>o.apart ops ox && (!(isAl ox).isSome || (isAl o).isSome)
   | none=>false) || Ef ops ops.size i x
  | none=>false) && K3 ops E U (i::done) r
theorem H5 {i:Nat} {l2:List Nat} : ∀ (l1 done:List Nat),K3 ops E U done (l1++i::l2)=true->i ∉ l1/\i ∉ done/\i ∉ l2 /\ ∃ o,ops[i]? = some o/\(∀ e ∈ o.after,Region.binds .any e=true->e.on ∈ l1\/e.on ∈ done) /\
   ∀ x,x ∈ l1->Ef ops ops.size i x=true\/(E.contains x=false/\(U.contains x=true->(isAl o).isSome=true) /\ ∃ ox,ops[x]? = some ox/\o.apart ops ox=true/\((isAl ox).isSome=true->(isAl o).isSome=true))
 | [],done,h=>by
  simp only [List.nil_append,K3,Bool.and_eq_true,Bool.not_eq_true',List.contains_eq_mem,decide_eq_false_iff_not] at h
  obtain ⟨⟨h1,h2⟩,h3⟩:=h
  have later : ∀ (l d:List Nat),i ∈ d->K3 ops E U d l=true->i ∉ l:=by
   intro l
   induction l with
   | nil=>intro _ _ _ h;cases h
   | cons y l ih =>
    intro d hd hm hmem
    simp only [K3,Bool.and_eq_true,Bool.not_eq_true',List.contains_eq_mem,decide_eq_false_iff_not] at hm
    obtain ⟨⟨m1,_⟩,m3⟩:=hm
    rcases List.mem_cons.1 hmem with rfl | hmem
    ·exact m1 hd
    ·exact ih (y::d) (by simp [hd]) m3 hmem
  refine ⟨by simp,h1,later l2 _ (by simp) h3, ?_⟩
  split at h2
  ·rename_i o ho
   simp only [Bool.and_eq_true] at h2
   refine ⟨o,ho,fun e he hb => ?_,fun x hx=>by cases hx⟩
   have:=Array.all_eq_true_iff_forall_mem.1 h2.1 e he
   simp only [hb,Bool.not_true,Bool.false_or,List.contains_eq_mem,decide_eq_true_eq] at this
   exact .inr this
  ·cases h2
 | y::l1,done,h=>by
  simp only [List.cons_append,K3,Bool.and_eq_true] at h
  obtain ⟨h1,h2,h3,o,ho,he,hx⟩:=H5 l1 (y::done) h.2
  have hiy:i ≠ y:=fun e=>h2 (by simp [e])
  refine ⟨by simp [hiy,h1],fun hd=>h2 (by simp [hd]),h3,o,ho,fun e hm hb => ?_, ?_⟩
  ·rcases he e hm hb with h4 | h4
   ·exact .inl (by simp [h4])
   ·rcases List.mem_cons.1 h4 with h5 | h5
    ·exact .inl (by simp [h5])
    ·exact .inr h5
  ·intro x hmem
   rcases List.mem_cons.1 hmem with rfl | hmem
   ·have back : ∀ (l d:List Nat),x ∈ d->K3 ops E U d (l++i::l2)=true->Ef ops ops.size i x=true\/(E.contains x=false/\(U.contains x=true->(isAl o).isSome=true) /\ ∃ ox,ops[x]? = some ox/\o.apart ops ox=true/\((isAl ox).isSome=true->(isAl o).isSome=true)):=by
     intro l
     induction l with
     | nil =>
      intro d hd hm
      simp only [List.nil_append,K3,Bool.and_eq_true,ho] at hm
      have:=List.all_eq_true.1 hm.1.2.2 x hd
      simp only [Bool.or_eq_true,Bool.and_eq_true,Bool.not_eq_true'] at this
      rcases this.symm with h4 | ⟨⟨h4,hu⟩,h5⟩
      ·exact .inl h4
      ·refine .inr ⟨h4,(fun hux=>hu.resolve_left fun h=>by rw [hux] at h;cases h), ?_⟩
       split at h5
       ·rename_i ox hox
        simp only [Bool.and_eq_true,Bool.or_eq_true,Bool.not_eq_true'] at h5
        exact ⟨ox,hox,h5.1,fun hs=>by rcases h5.2 with h6 | h6;rw [h6] at hs;cases hs;exact h6⟩
       ·cases h5
     | cons z l ih =>
      intro d hd hm
      simp only [List.cons_append,K3,Bool.and_eq_true] at hm
      exact ih (z::d) (by simp [hd]) hm.2
    exact back l1 _ (by simp) h.2
   ·exact hx x hmem
def HC (ops:Array Oper) (E U ord:List Nat):Bool:=K3 ops E U [] ord && (List.range ops.size).all ord.contains && ord.length==ops.size
theorem RT (ht:B5 P tab) (hN:P.funcs.size=N) {ord:List Nat} (hB:HC ops E U ord=true) (hA:Rg tab n ops=true) {g0:G} {rr:Option Nat} (hr:RoRep g0 ro rr) : ∀ (m:Nat) (r:List Nat) (listed:Array Bool) (γ:Fr) (V:Sig),r.length=m->listed.size=ops.size ->
  r=ord.filter (fun i => !listed.getD i true)->Closed ops listed->MOps3 P ro n ops N S0 Q df tab E U r γ V->Sub S0 V ->
   ∀ (g:G) (w:World) (a:Act),g0.le g->SimS P g n ⟨γ,V,df⟩ a w->wpAnyIn (FX P rr) 0 P .any ops (Post P g0 n Q) m listed a w:=by
 unfold HC at hB
 simp only [Bool.and_eq_true] at hB
 obtain ⟨⟨hmix,hall⟩,_⟩:=hB
 have hmem : ∀ (r:List Nat) (listed:Array Bool),r=ord.filter (fun i => !listed.getD i true) -> ∀ i ∈ Region.ready .any ops listed,i ∈ r:=by
  intro r listed hf i hi
  obtain ⟨h1,o,ho,_⟩:=mem_ready.1 hi
  have:=List.all_eq_true.1 hall i (by simpa using (Array.getElem?_eq_some_iff.1 ho).1)
  rw [hf,List.mem_filter]
  exact ⟨by simpa using this,by rw [h1];rfl⟩
 intro m
 induction m with
 | zero =>
  intro r listed γ V hl hsz hf hcl h hC g w a hg hs
  obtain rfl:r=[]:=List.length_eq_zero_iff.1 hl
  refine ⟨List.eq_nil_iff_forall_not_mem.2 fun i hi => ?_, ?_⟩
  ·have:=hmem [] listed hf i hi;cases this
  ·exact Post.le hg (h g w a rr (hr.mono hg) hs)
 | succ m ih =>
  intro r listed γ V hl hsz hf hcl h hC g w a hg hs
  obtain ⟨y,t,rfl⟩ : ∃ y t,r=y::t:=by cases r with | nil=>cases hl | cons y t=>exact ⟨y,t,rfl⟩
  refine ⟨fun he => ?_,fun i hi => ?_⟩
  ·exfalso
   obtain ⟨l1,l2,hord,hl1,hy,hl2⟩:=List.filter_eq_cons_iff.1 hf.symm
   subst hord
   obtain ⟨h1,_,_,o,ho,hea,_⟩:=H5 l1 [] hmix
   have:y ∈ Region.ready .any ops listed:=by
    refine mem_ready.2 ⟨by simpa using hy,o,ho,fun e hm hb => ?_⟩
    rcases hea e hm hb with h4 | h4
    ·have h5:=hl1 _ h4
     simp only [Bool.not_eq_true,Bool.not_eq_false'] at h5
     have hlt:e.on < listed.size:=by
      have:e.on ∈ l1++y::l2:=by simp [h4]
      obtain ⟨p1,p2,hp⟩:=List.append_of_mem this
      rw [hp] at hmix
      obtain ⟨_,_,_,o',ho',_⟩:=H5 p1 [] hmix
      rw [hsz];exact (Array.getElem?_eq_some_iff.1 ho').1
     simpa [hlt] using h5
    ·cases h4
   rw [he] at this;cases this
  ·obtain ⟨pre,post,hsplit⟩:=List.append_of_mem (hmem _ listed hf i hi)
   rw [hsplit] at hf h hl
   obtain ⟨l1',l2',hord,hf1,hf2⟩:=List.filter_eq_append_iff.1 hf.symm
   obtain ⟨m1,m2,hl2',hm1,hiu,hf3⟩:=List.filter_eq_cons_iff.1 hf2
   have hord':ord=(l1'++m1)++i::m2:=by rw [hord,hl2'];simp
   rw [hord'] at hmix
   obtain ⟨n1,_,n3,o,ho,hea,hx⟩:=H5 (l1'++m1) [] hmix
   obtain ⟨hiun,o',ho',hdone⟩:=mem_ready.1 hi
   obtain rfl:o'=o:=by rw [ho] at ho';cases ho';rfl
   have hfront:=J5 ho post pre γ V (fun x hxp=>by
    have hx1:x ∈ l1'++m1:=by
     have:x ∈ l1'.filter (fun i => !listed.getD i true):=by rw [hf1];exact hxp
     simp [(List.mem_filter.1 this).1]
    have hxu:listed.getD x true=false:=by
     have:x ∈ l1'.filter (fun i => !listed.getD i true):=by rw [hf1];exact hxp
     simpa using (List.mem_filter.1 this).2
    rcases hx x hx1 with h4 | h4
    ·exfalso
     have:=Cj hcl ops.size i x o' ho hdone h4
     rcases Nat.lt_or_ge x listed.size with hlt | hlt
     ·simp [hlt] at this hxu;rw [hxu] at this;cases this
     ·simp [Array.getElem?_eq_none hlt] at this
    ·exact h4) h
   have hnext:pre++post=ord.filter (fun j => !(listed.setIfInBounds i true).getD j true):=by
    have hil:i < listed.size:=by
     rw [hsz];exact (Array.getElem?_eq_some_iff.1 ho).1
    rw [hord',List.filter_append,List.filter_cons]
    have e1:(listed.setIfInBounds i true).getD i true=true:=by simp [hil]
    rw [e1,Av n1,Av n3]
    simp only [Bool.not_true,Bool.false_eq_true,if_false,List.filter_append,hf1,hf3]
    rw [List.filter_eq_nil_iff.2 (fun x hx=>by simpa using hm1 x hx),List.append_nil]
   have hlen:(pre++post).length=m:=by simp at hl ⊢; omega
   obtain ⟨o2,ho2,hh⟩:=hfront
   obtain rfl:o2=o':=by rw [ho] at ho2;cases ho2;rfl
   have hok:=Array.all_eq_true_iff_forall_mem.1 hA o2 (Array.mem_of_getElem? ho)
   unfold wpOpIn
   simp only [ho]
   cases hai:isAl o2 with
   | some p =>
    obtain ⟨t,T⟩:=p
    rw [hai] at hok
    simp only [Bool.and_eq_true,decide_eq_true_eq,Bool.not_eq_true'] at hok
    obtain ⟨_,_,_,rfl⟩:=EM hai
    simp only [Step3,isAl] at hh
    refine CN (Q:=Q) (R:=fun d S' => ∃ k,V k=none/\d = .ptr k 0/\S'=V.set k (.cells (tab T).zero)) (Rp:=fun _ _=>False) (hr.mono hg) hg hs ⟨by simp [Ar,hok.1],rfl, ?_⟩ (fun g' w' a' d S' hg' hR hs' => ?_) fun _ _ h=>h.elim
    ·exact Dw ht hok.2 hok.1 fun k hk=>AJ ⟨rfl,k,hk,by simp [A7],rfl⟩
    ·obtain ⟨k,hk,rfl,rfl⟩:=hR
     exact ih _ _ _ _ hlen (by simpa using hsz) hnext (hcl.set hi) (hh k hk) (fun i o h=>(Sub.refl _).set hk i o (hC i o h)) g' w' a' (hg.trans hg') hs'
   | none =>
    simp only [Step3,hai] at hh
    rcases hh with ⟨d,hy,hM⟩ | ⟨_,hE⟩ | ⟨_,hu⟩
    ·exact Ev (Q:=Q) hN (hr.mono hg) hg hs hC hy fun g' w' a' hg' hs'=>ih _ _ _ _ hlen (by simpa using hsz) hnext (hcl.set hi) hM hC g' w' a' (hg.trans hg') hs'
    ·exact CN (Q:=Q) (hr.mono hg) hg hs hE (fun g' w' a' d S' hg' hR hs'=>ih _ _ _ _ hlen (by simpa using hsz) hnext (hcl.set hi) hR.2 hR.1 g' w' a' (hg.trans hg') hs') fun d S' hp=>hp
    ·rcases hu with ⟨dj,x,hE,hK⟩ | ⟨j,y,x,d,hj,h0,hE,hK⟩
     ·refine CN (Q:=Q) (hr.mono hg) hg hs (hE V) (fun g' w' a' d S' hg' hR hs' => ?_) fun _ _ h=>h.elim
      obtain ⟨j,hj,rfl,rfl⟩:=hR
      exact ih _ _ _ _ hlen (by simpa using hsz) hnext (hcl.set hi) (hK j hj) (fun i o h=>(Sub.refl _).set hj i o (hC i o h)) g' w' a' (hg.trans hg') hs'
     ·refine CN (Q:=Q) (hr.mono hg) hg hs (hE V hj) (fun g' w' a' d' S' hg' hR hs' => ?_) fun _ _ h=>h.elim
      obtain ⟨rfl,rfl⟩:=hR
      exact ih _ _ _ _ hlen (by simpa using hsz) hnext (hcl.set hi) hK (fun i o h=>by rw [w8 _ _ fun e=>by rw [e,h0] at h;cases h];exact hC i o h) g' w' a' (hg.trans hg') hs'
def RJ (ops:List Oper) (E U:List Nat):List Nat->Option (List (Bool × Bool × Oper))
 | []=>some []
 | i::r=>match nthO ops i with
  | some o=>match RJ ops E U r with
   | some l=>some ((E.contains i,U.contains i,o)::l)
   | none=>none
  | none=>none
theorem HS {lo:List Oper} : ∀ {ord:List Nat} {lp:List (Bool × Bool × Oper)} {γ:Fr} {V:Sig},RJ lo E U ord=some lp->MO3 P ro n lo.toArray N S0 Q df tab lp γ V->MOps3 P ro n lo.toArray N S0 Q df tab E U ord γ V
 | [],_,_,_,hp,h=>by cases hp;exact h
 | i::r,lp,γ,V,hp,h=>by
  simp only [RJ] at hp
  split at hp<;>(try (cases hp;done))
  rename_i o ho
  split at hp<;>(try (cases hp;done))
  rename_i l hl
  cases hp
  refine ⟨o,by rw [J0] at ho;simpa using ho, ?_⟩
  exact Step3.mono h (fun _=>rfl) fun γ U' V hal h=>MOps3.alike _ hal (HS hl h)
theorem VO (ht:B5 P tab) (hN:P.funcs.size=N) (hm:P.follows .mixedOrders=true) {l:List Oper} {id:Nat} {γ:Fr} {V:Sig} (ord E U:List Nat) (S0:Sig) (hB:HC l.toArray E U ord=true) (hA:Rg tab n l.toArray=true) (hC:Sub S0 V)
  {lp:List (Bool × Bool × Oper)} (hlp:RJ l E U ord=some lp) (h:MO3 P ro n l.toArray N S0 Q df tab lp γ V):DWp P ro n (.region id l.toArray true) Q ⟨γ,V,df⟩:=by
 intro g w a r hr hs
 refine wpIn_region_any hm ?_
 have hcl:Closed l.toArray (Array.replicate l.toArray.size false):=by
  intro q o _ hq
  rcases Nat.lt_or_ge q l.length with h' | h'
  ·simp [h'] at hq
  ·simp [h'] at hq
 have hs':SimS P g n ⟨γ,V,df⟩ a { w with drawn:=w.drawn+1 } :=
  ⟨⟨fun b o v h=>hs.sim.imm b o v h,hs.sim.keep,fun i o h=>by
   have:=hs.sim.obj i o h
   cases o<;>exact this,hs.sim.inj,hs.sim.free,hs.sim.htop,hs.sim.hdom,hs.sim.fin,hs.sim.io⟩,hs.tmps,hs.df⟩
 have hlt : ∀ i ∈ ord,i < l.toArray.size:=by
  intro i hi
  obtain ⟨p1,p2,hp⟩:=List.append_of_mem hi
  have hB':=hB
  unfold HC at hB'
  simp only [Bool.and_eq_true] at hB'
  rw [hp] at hB'
  obtain ⟨_,_,_,o',ho',_⟩:=H5 p1 [] hB'.1.1
  exact (Array.getElem?_eq_some_iff.1 ho').1
 have hlen:ord.length=l.toArray.size:=by
  have hB':=hB
  unfold HC at hB'
  simp only [Bool.and_eq_true,beq_iff_eq] at hB'
  exact hB'.2
 have:=RT ht hN hB hA hr ord.length ord (Array.replicate l.toArray.size false) γ V rfl (by simp) (CZ hlt).symm hcl (HS hlp h) hC g _ a (.refl g) hs'
 rw [hlen] at this
 exact this
theorem J8 : ∀ {l:List (Bool × Bool × Oper)} {γ:Fr} {V:Sig},(l.all fun p => !(isAl p.2.2).isSome)=true->MO P ro n ops N S0 Q df (l.map fun p=>(p.1,p.2.2)) γ V->MO3 P ro n ops N S0 Q df tab l γ V
 | [],_,_,_,h=>h
 | (e,u,o)::l,γ,V,hl,h=>by
  simp only [List.all_cons,Bool.and_eq_true,Bool.not_eq_true'] at hl
  have hn:isAl o=none:=by cases h:isAl o with | none=>rfl | some _=>rw [h] at hl;simp at hl
  show Step3 P ro n ops N S0 Q df tab e u o γ V _
  simp only [Step3,hn]
  rcases h with ⟨d,h2,h3⟩ | ⟨h1,h2⟩
  ·exact .inl ⟨d,h2,J8 hl.2 h3⟩
  ·exact .inr (.inl ⟨h1,h2.congr (fun _ _=>rfl) fun d S' ⟨h3,h4⟩=>⟨h3,J8 hl.2 h4⟩⟩)
theorem Sf {e u:Bool} {t T:Nat} {ty:TypeId} {pos:String} {after:Array Edge} {l:List (Bool × Bool × Oper)} {γ:Fr} {V:Sig} (h : ∀ k,V k=none->MO3 P ro n ops N S0 Q df tab l ((t, .ptr k 0)::γ) (V.set k (.cells (tab T).zero))) :
  MO3 P ro n ops N S0 Q df tab ((e,u,⟨some t, .alloc T,ty,pos,after,none⟩)::l) γ V:=h
theorem Vb (ht:B5 P tab) {e u:Bool} {t:Nat} {op:Op} {ty:TypeId} {pos:String} {after:Array Edge} {d:D} {l:List (Bool × Bool × Oper)} {γ Sr:Fr} {V:Sig} (hr:DB op=true) (htn:decide (t < n)=true) (hl:A5 γ (A8 op.operands.toList)=some Sr) (hd:dopX tab Sr S0 op=some d)
  (h:MO3 P ro n ops N S0 Q df tab l ((t,d)::γ) V):MO3 P ro n ops N S0 Q df tab ((e,u,⟨some t,op,ty,pos,after,none⟩)::l) γ V:=by
 have hd':=(B8 (BT hl)) ▸ hd
 have ha:isAl ⟨some t,op,ty,pos,after,none⟩=none:=by
  unfold isAl;split
  ·rename_i heq;cases heq;cases hr
  ·rfl
 show Step3 P ro n ops N S0 Q df tab e u _ γ V _
 simp only [Step3,ha]
 refine .inl ⟨d,⟨htn, .inl ⟨by rw [B1];rfl,Cr hr,JY ht hd',fun S' hZ g w a hs hT => ?_⟩⟩,h⟩
 refine FD ht hs hT (?_:dopX tab (only _ γ) S' op=some d)
 rw [B8 (U':=γ) fun x hx=>C2 (o:=⟨some t,op,ty,pos,after,none⟩) hx]
 exact Hi hZ hd'
theorem mo3_u {e:Bool} {o:Oper} {l:List (Bool × Bool × Oper)} {γ:Fr} {V:Sig} (ha:isAl o=none) (h:USt P ro n ops S0 df o γ V (MO3 P ro n ops N S0 Q df tab l)):MO3 P ro n ops N S0 Q df tab ((e,true,o)::l) γ V:=by
 show Step3 P ro n ops N S0 Q df tab e true o γ V _
 simp only [Step3,ha]
 exact .inr (.inr ⟨trivial,h⟩)
end
end Go.DL
