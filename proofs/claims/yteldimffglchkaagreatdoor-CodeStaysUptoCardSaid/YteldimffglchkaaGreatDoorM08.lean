/- A part of the proof. -/
import Derived.Test.YteldimffglchkaaGreatDoorM07
import Derived.Laws.BytesArg
import Derived.Lib.AppendStr
set_option linter.all false
namespace Go.DL
open Go
section
variable {P:Program}{n:Nat}{γ:List (Nat×D)}{O:Sig}{df:List DDf}
theorem BT{i sz:Nat}{r:RW}{es:List (List D)}{az bs:List D}(hm:RWAt O sz r es)(hi:O i=some (.cells (az++r.d es.length::bs)))(bG:¬r.is i):
  ∃U',Wk P n ⟨γ,O,df⟩ ⟨γ,U',df⟩/\U' i=some (.cells (az ++ .slice es .no::bs)) /\ ∀j o,O j=some o->j≠i->¬r.is j->U' j=some o:=by
 cases r with
 |nil=>
  obtain rfl:es=[]:=hm
  exact⟨_,Fe hi (Ak _ (.inl rfl)),w6 .., fun j o hj aY _=>by rw[w7 _ _ aY];exact hj⟩
 |full es0=>
  obtain⟨rfl,_⟩:=hm
  exact⟨_,Fe hi (C0 _ _),w6 .., fun j o hj aY _=>by rw[w7 _ _ aY];exact hj⟩
 | row k cap rest =>
  obtain⟨m1,m2,m3,m4⟩:=hm
  have bJ:i≠k:=bG
  exact⟨_,LY m1 hi bJ m3 m4,w6 .., fun j o hj aY bi=>by
   rw[w7 _ _ aY]
   have:j≠k:=bi
   simp only[Sig.del,this,if_false];exact hj⟩
theorem ID{t sz:Nat}{r:RW}{es:List (List D)}(hm:RWAt O sz r es)(hg:getD γ t=r.d es.length):
  ∃U',Wk P n ⟨γ,O,df⟩ ⟨(t,.slice es .no)::γ,U',df⟩ /\ ∀j o,O j=some o->¬r.is j->U' j=some o:=by
 cases r with
 |nil=>
  obtain rfl:es=[]:=hm
  exact⟨O,BH (by rw[hg];exact Ak _ (.inl rfl)),fun j o h _=>h⟩
 |full es0=>
  obtain⟨rfl,_⟩:=hm
  exact⟨O,BH (by rw[hg];exact C0 _ _),fun j o h _=>h⟩
 | row k cap rest =>
  obtain⟨m1,m2,m3,m4⟩:=hm
  refine⟨O.del k,fun g w a hs=>?_,fun j o hj bi=>by
   have:j≠k:=bi
   simp only[Sig.del,this,if_false];exact hj⟩
  have bu:=hs.tmps.2 t
  rw[hg]at bu
  obtain⟨b,hb,hv⟩:=bu
  obtain⟨g',bh,ah,bE⟩:=hs.sim.freeze (i:=k) m1 hb
  refine⟨g',bh,⟨ah,⟨hs.tmps.1,fun q=>?_⟩,hs.df.mono bh⟩⟩
  rw[A6]
  by_cases hq:q=t
  ·rw[if_pos hq,hq]
   exact⟨_,cap,hv,m3,.inr ⟨sz,b,0,rfl,Em m4 bE⟩,trivial⟩
  ·rw[if_neg hq];exact Rep.mono bh _ (hs.tmps.2 q)
end
def isAl(o:Oper):Option (Nat×Nat):=match o with
 |⟨some t,.alloc T,_,_,_,none⟩=>some (t,T)
 |_=>none
theorem Jf{o:Oper}{t T:Nat}(h:isAl o=some (t,T)): ∃ty pos af,o=⟨some t,.alloc T,ty,pos,af,none⟩:=by
 unfold isAl at h
 split at h
 ·cases h;exact⟨_,_,_,rfl⟩
 ·cases h
section
variable (P:Program)(ro:Ro)(n:Nat)(ops:Array Oper)(N:Nat)(S0:Sig)(Q:DX->St->Prop)(df:List DDf)(tab:Nat->Ty)
def Step2(e:Bool)(o:Oper)(γ:Fr)(O:Sig)(K:Fr->Sig->Prop):Prop:=
 match isAl o with
 |some (t,T)=> ∀k,O k=none->K ((t,.ptr k 0)::γ) (O.set k (.cells (tab T).zero))
 |none=>(∃d,Calm P n ops N S0 γ o d/\K (putD o.dst d γ) O) \/
  (e=true/\Eff P ro n ops df γ O o (fun d U'=>Sub S0 U'/\K (putD o.dst d γ) U') (fun d U'=> ∀V',Q (.panic d) ⟨V',U',df⟩))
def MOps2(E:List Nat):List Nat->Fr->Sig->Prop
 |[],γ,O=>DOps P ro n ops Q [] ⟨γ,O,df⟩
 |i::r,γ,O=> ∃o,ops[i]? = some o/\Step2 P ro n ops N S0 Q df tab (E.contains i) o γ O (MOps2 E r)
end
section
variable {P:Program}{ro:Ro}{n:Nat}{ops:Array Oper}{N:Nat}{S0:Sig}{Q:DX->St->Prop}{df:List DDf}{E:List Nat}{tab:Nat->Ty}
theorem Step2.mono{e:Bool}{o:Oper}{γ V':Fr}{O:Sig}{K K':Fr->Sig->Prop}(h:Step2 P ro n ops N S0 Q df tab e o γ O K)(au:Alike γ V')(hK:∀γ V' O,Alike γ V'->K γ O->K' V' O):Step2 P ro n ops N S0 Q df tab e o V' O K':=by
 unfold Step2 at h⊢
 split at h
 ·exact fun k hk=>hK _ _ _ (au.put (some _) _) (h k hk)
 ·rcases h with⟨d,h2,h3⟩|⟨h1,h2⟩
  ·exact .inl ⟨d,h2.congr fun t _=>au t,hK _ _ _ (au.put _ _) h3⟩
  ·exact .inr ⟨h1,h2.congr (fun t _=>au t) fun d U' ⟨h3,h4⟩=>⟨h3,hK _ _ _ (au.put _ _) h4⟩⟩
theorem MOps2.alike: ∀(l:List Nat) {γ V':Fr}{O:Sig},Alike γ V'->MOps2 P ro n ops N S0 Q df tab E l γ O->MOps2 P ro n ops N S0 Q df tab E l V' O
 |[],_,_,_,h,k=>Cq h k
 |i::r,_,_,_,h,⟨o,ho,k⟩=>⟨o,ho,k.mono h fun _ _ _ h' k'=>MOps2.alike r h' k'⟩
theorem set_comm(O:Sig){k k':Nat}(h:k≠k')(x y:DObj):(O.set k x).set k' y=(O.set k' y).set k x:=by
 funext j
 simp only[Sig.set]
 by_cases h1:j=k'<;>by_cases h2:j=k<;>simp_all
def allOK(tab:Nat->Ty)(n:Nat)(ops:Array Oper):Bool:=ops.all fun o=>match isAl o with
 |some (t,T)=>decide (t<n)&&!A0 (tab T).k
 |none=>true
end
section
variable (P:Program)(ro:Ro)(n:Nat)(ops:Array Oper)(N:Nat)(S0:Sig)(Q:DX->St->Prop)(df:List DDf)(tab:Nat->Ty)
def USt(o:Oper)(γ:Fr)(O:Sig)(K:Fr->Sig->Prop):Prop:=
 (∃(dj:Nat->D) (x:DObj),(∀τ,Eff P ro n ops df γ τ o (fun d' X'=> ∃j,τ j=none/\d'=dj j/\X'=τ.set j x) (fun _ _=>False)) /\ ∀j,O j=none->K (putD o.dst (dj j) γ) (O.set j x)) \/
 (∃(j:Nat) (y x:DObj) (d:D),O j=some y/\S0 j=none/\(∀τ,τ j=some y->Eff P ro n ops df γ τ o (fun d' X'=>d'=d/\X'=τ.set j x) (fun _ _=>False))/\K (putD o.dst d γ) (O.set j x)) \/
 (∃Rr:Sig->D->Sig->Prop,(∀τ,Eff P ro n ops df γ τ o (Rr τ) (fun _ _=>False))/\(∀τ k x d X',τ k=none->Rr (τ.set k x) d X'->∃U',Rr τ d U'/\U' k=none/\X'=U'.set k x) /\ ∀d U',Rr O d U'->Sub S0 U'/\K (putD o.dst d γ) U')
def Step3(e u:Bool)(o:Oper)(γ:Fr)(O:Sig)(K:Fr->Sig->Prop):Prop:=
 match isAl o with
 |some (t,T)=> ∀k,O k=none->K ((t,.ptr k 0)::γ) (O.set k (.cells (tab T).zero))
 |none=>(∃d,Calm P n ops N S0 γ o d/\K (putD o.dst d γ) O) \/
  (e=true/\Eff P ro n ops df γ O o (fun d U'=>Sub S0 U'/\K (putD o.dst d γ) U') (fun d U'=> ∀V',Q (.panic d) ⟨V',U',df⟩)) \/
  (u=true/\USt P ro n ops S0 df o γ O K)
def MOps3(E U:List Nat):List Nat->Fr->Sig->Prop
 |[],γ,O=>DOps P ro n ops Q [] ⟨γ,O,df⟩
 |i::r,γ,O=> ∃o,ops[i]? = some o/\Step3 P ro n ops N S0 Q df tab (E.contains i) (U.contains i) o γ O (MOps3 E U r)
def MO3:List (Bool×Bool×Oper)->Fr->Sig->Prop
 |[],γ,O=>DOps P ro n ops Q [] ⟨γ,O,df⟩
 |(e,u,o)::r,γ,O=>Step3 P ro n ops N S0 Q df tab e u o γ O (MO3 r)
end
section
variable {P:Program}{ro:Ro}{n:Nat}{ops:Array Oper}{N:Nat}{S0:Sig}{Q:DX->St->Prop}{df:List DDf}{E U:List Nat}{tab:Nat->Ty}
theorem USt.congr{o:Oper}{γ V':Fr}{O:Sig}{K K':Fr->Sig->Prop}(h:USt P ro n ops S0 df o γ O K)(au:∀t∈o.looksAt ops,getD γ t=getD V' t)(hK:∀d U',K (putD o.dst d γ) U'->K' (putD o.dst d V') U'):USt P ro n ops S0 df o V' O K':=by
 rcases h with⟨dj,x,hE,h⟩|⟨j,y,x,d,hj,h0,hE,h⟩|⟨Rr,hE,hn,h⟩
 rotate_left 2
 ·exact .inr (.inr ⟨Rr,fun τ=>(hE τ).congr au fun _ _ h=>h,hn,fun d U' hR=>⟨(h d U' hR).1,hK _ _ (h d U' hR).2⟩⟩)
 ·exact .inl ⟨dj,x,fun τ=>(hE τ).congr au fun _ _ h=>h,fun j hj=>hK _ _ (h j hj)⟩
 ·refine .inr (.inl ?_)
  exact⟨j,y,x,d,hj,h0,fun τ hτ=>(hE τ hτ).congr au fun _ _ h=>h,hK _ _ h⟩
theorem Step3.mono{e u:Bool}{o:Oper}{γ V':Fr}{O:Sig}{K K':Fr->Sig->Prop}(h:Step3 P ro n ops N S0 Q df tab e u o γ O K)(au:Alike γ V')(hK:∀γ V' O,Alike γ V'->K γ O->K' V' O):Step3 P ro n ops N S0 Q df tab e u o V' O K':=by
 unfold Step3 at h⊢
 split at h
 ·exact fun k hk=>hK _ _ _ (au.put (some _) _) (h k hk)
 ·rcases h with⟨d,h2,h3⟩|⟨h1,h2⟩|⟨h1,h2⟩
  ·exact .inl ⟨d,h2.congr fun t _=>au t,hK _ _ _ (au.put _ _) h3⟩
  ·exact .inr (.inl ⟨h1,h2.congr (fun t _=>au t) fun d U' ⟨h3,h4⟩=>⟨h3,hK _ _ _ (au.put _ _) h4⟩⟩)
  ·exact .inr (.inr ⟨h1,h2.congr (fun t _=>au t) fun d U' h4=>hK _ _ _ (au.put _ _) h4⟩)
theorem MOps3.alike: ∀(l:List Nat) {γ V':Fr}{O:Sig},Alike γ V'->MOps3 P ro n ops N S0 Q df tab E U l γ O->MOps3 P ro n ops N S0 Q df tab E U l V' O
 |[],_,_,_,h,k=>Cq h k
 |i::r,_,_,_,h,⟨o,ho,k⟩=>⟨o,ho,k.mono h fun _ _ _ h' k'=>MOps3.alike r h' k'⟩
theorem J6{i:Nat}{oi:Oper}(hi:ops[i]? = some oi)(post:List Nat): ∀(pre:List Nat) (γ:Fr) (O:Sig),
  (∀x∈pre,E.contains x=false/\(U.contains x=true->(isAl oi).isSome=true) /\ ∃ox,ops[x]? = some ox/\oi.apart ops ox=true/\((isAl ox).isSome=true->(isAl oi).isSome=true))->MOps3 P ro n ops N S0 Q df tab E U (pre++i::post) γ O->MOps3 P ro n ops N S0 Q df tab E U (i::(pre++post)) γ O
 |[],_,_,_,h=>h
 | x::pre,γ,O,hp,h=>by
  obtain⟨aS,bn,ox,ax,bd,au⟩:=hp x (by simp)
  obtain⟨a1,a2,a3⟩:=Oper.apart_spec bd
  obtain⟨ox',aA,hx⟩:=h
  obtain rfl:ox'=ox:=by rw[ax]at aA;cases aA;rfl
  have ih:∀γ O,MOps3 P ro n ops N S0 Q df tab E U (pre++i::post) γ O->MOps3 P ro n ops N S0 Q df tab E U (i::(pre++post)) γ O:=fun γ O=>J6 hi post pre γ O fun y hy=>hp y (by simp[hy])
  refine⟨oi,hi,?_⟩
  cases aN:isAl ox' with
  | some p =>
   obtain⟨t,T⟩:=p
   cases aC:isAl oi with
   |none=>rw[aN,aC]at au;simp at au
   | some q =>
    obtain⟨t',T'⟩:=q
    obtain⟨_,_,_,rfl⟩:=Jf aN
    obtain⟨_,_,_,rfl⟩:=Jf aC
    simp only[Step3,isAl]at hx⊢
    intro k' aQ
    refine⟨_,ax,?_⟩
    simp only[Step3,isAl]
    intro k hk
    have hne:k≠k':=by
     rintro rfl
     simp[Sig.set]at hk
    have bH:O k=none:=by rw[w7 _ _ hne]at hk;exact hk
    obtain⟨oi',ac,hh⟩:=ih _ _ (hx k bH)
    rw[hi]at ac;cases ac
    simp only[Step3,isAl]at hh
    have h3:=hh k' (by rw[w7 _ _ (Ne.symm hne)];exact aQ)
    rw[set_comm O hne]at h3
    exact MOps3.alike _ (Bx (a:=some t') (b:=some t) _ _ _ fun t p q=>a2 t p q) h3
  | none =>
   simp only[Step3,aN]at hx
   rcases hx with⟨d,hy,h⟩|⟨hE,_⟩|⟨bx,hu⟩
   ·obtain⟨oi',ac,hh⟩:=ih _ O h
    rw[hi]at ac;cases ac
    cases aC:isAl oi with
    |some q=>
     obtain⟨t',T'⟩:=q
     obtain⟨_,_,_,rfl⟩:=Jf aC
     simp only[Step3,isAl]at hh⊢
     intro k' aQ
     refine⟨ox',ax,?_⟩
     simp only[Step3,aN]
     refine .inl ⟨d,hy.congr fun t ht=>(AC (dst:=some t') fun hd=>a1 t hd ht).symm,?_⟩
     exact MOps3.alike _ (Bx _ _ _ fun t p q=>a2 t p q) (hh k' aQ)
    | none =>
     simp only[Step3,aC]at hh⊢
     rcases hh with⟨e,h2,h3⟩|⟨h1,h2⟩|⟨h1,h2⟩
     ·refine .inl ⟨e,h2.congr fun t ht=>AC fun hd=>a3 t hd ht,ox',ax,?_⟩
      simp only[Step3,aN]
      refine .inl ⟨d,hy.congr fun t ht=>(AC fun hd=>a1 t hd ht).symm,?_⟩
      exact MOps3.alike _ (Bx _ _ _ fun t p q=>a2 t p q) h3
     ·refine .inr (.inl ⟨h1,h2.congr (fun t ht=>AC fun hd=>a3 t hd ht) fun e U' ⟨h3,h4⟩=>⟨h3,ox',ax,?_⟩⟩)
      simp only[Step3,aN]
      refine .inl ⟨d,hy.congr fun t ht=>(AC fun hd=>a1 t hd ht).symm,?_⟩
      exact MOps3.alike _ (Bx _ _ _ fun t p q=>a2 t p q) h4
     ·refine .inr (.inr ⟨h1,h2.congr (fun t ht=>AC fun hd=>a3 t hd ht) fun e U' h4=>⟨ox',ax,?_⟩⟩)
      simp only[Step3,aN]
      refine .inl ⟨d,hy.congr fun t ht=>(AC fun hd=>a1 t hd ht).symm,?_⟩
      exact MOps3.alike _ (Bx _ _ _ fun t p q=>a2 t p q) h4
   ·rw[aS]at hE;cases hE
   ·cases aC:isAl oi with
    |none=>rw[aC]at bn;exact absurd (bn bx) (by simp)
    | some q =>
     obtain⟨t',T'⟩:=q
     obtain⟨_,_,_,rfl⟩:=Jf aC
     simp only[Step3,isAl]
     intro k hk
     refine⟨ox',ax,?_⟩
     simp only[Step3,aN]
     refine .inr (.inr ⟨bx,?_⟩)
     rcases hu with⟨dj,xo,hE,hK⟩|⟨j,y,xo,d,hj,h0,hE,hK⟩|⟨Rr,hE,hn,hK⟩
     rotate_left 2
     ·refine .inr (.inr ⟨Rr,fun τ=>(hE τ).congr (fun t ht=>(AC (dst:=some t') fun hd=>a1 t hd ht).symm) fun _ _ h=>h,hn,fun d X' hR=>?_⟩)
      obtain⟨U',h1,h2,rfl⟩:=hn O k _ d X' hk hR
      obtain⟨hs,bO⟩:=hK d U' h1
      refine⟨hs.set (hs.none h2),?_⟩
      obtain⟨oi',ac,hh⟩:=ih _ _ bO
      rw[hi]at ac;cases ac
      simp only[Step3,isAl]at hh
      exact MOps3.alike _ (Bx (a:=some t') (b:=ox'.dst) _ _ _ fun t p q=>a2 t p q) (hh k h2)
     ·refine .inl ⟨dj,xo,fun τ=>(hE τ).congr (fun t ht=>(AC (dst:=some t') fun hd=>a1 t hd ht).symm) fun _ _ h=>h,fun j hj=>?_⟩
      have hne:j≠k:=by
       rintro rfl
       simp[Sig.set]at hj
      have bI:O j=none:=by rw[w7 _ _ hne]at hj;exact hj
      obtain⟨oi',ac,hh⟩:=ih _ _ (hK j bI)
      rw[hi]at ac;cases ac
      simp only[Step3,isAl]at hh
      have h3:=hh k (by rw[w7 _ _ (Ne.symm hne)];exact hk)
      rw[set_comm O hne]at h3
      exact MOps3.alike _ (Bx (a:=some t') (b:=ox'.dst) _ _ _ fun t p q=>a2 t p q) h3
     ·have hne:j≠k:=fun e=>by rw[e,hk]at hj;cases hj
      refine .inr (.inl ?_)
      refine⟨j,y,xo,d,by rw[w7 _ _ hne];exact hj,h0,fun τ hτ=>(hE τ hτ).congr (fun t ht=>(AC (dst:=some t') fun hd=>a1 t hd ht).symm) fun _ _ h=>h,?_⟩
      obtain⟨oi',ac,hh⟩:=ih _ _ hK
      rw[hi]at ac;cases ac
      simp only[Step3,isAl]at hh
      have h3:=hh k (by rw[w7 _ _ (Ne.symm hne)];exact hk)
      rw[set_comm O hne]at h3
      exact MOps3.alike _ (Bx (a:=some t') (b:=ox'.dst) _ _ _ fun t p q=>a2 t p q) h3
def JT(ops:Array Oper)(E U:List Nat):List Nat->List Nat->Bool
 |_,[]=>true
 | done,i::r => !done.contains i && (match ops[i]? with
  |some o=>(o.after.all fun e=> !Region.binds .any e||done.contains e.on)&&done.all fun x=>(!E.contains x&&(!U.contains x||(isAl o).isSome)&&match ops[x]? with
   |some ox=>o.apart ops ox&&(!(isAl ox).isSome||(isAl o).isSome)
   |none=>false)||Gy ops ops.size i x
  |none=>false)&&JT ops E U (i::done) r
theorem H8 {i:Nat} {l2:List Nat} : ∀ (l1 done:List Nat),JT ops E U done (l1++i::l2)=true->i ∉ l1/\i ∉ done/\i ∉ l2 /\ ∃ o,ops[i]? = some o/\(∀ e ∈ o.after,Region.binds .any e=true->e.on ∈ l1\/e.on ∈ done) /\
   ∀x,x∈l1->Gy ops ops.size i x=true\/(E.contains x=false/\(U.contains x=true->(isAl o).isSome=true) /\ ∃ox,ops[x]? = some ox/\o.apart ops ox=true/\((isAl ox).isSome=true->(isAl o).isSome=true))
 | [],done,h=>by
  simp only[List.nil_append,JT,Bool.and_eq_true,Bool.not_eq_true',List.contains_eq_mem,decide_eq_false_iff_not]at h
  obtain⟨⟨h1,h2⟩,h3⟩:=h
  have later:∀(l d:List Nat),i∈d->JT ops E U d l=true->i∉l:=by
   intro l
   induction l with
   |nil=>intro _ _ _ h;cases h
   |cons y l ih=>
    intro d hd hm aa
    simp only[JT,Bool.and_eq_true,Bool.not_eq_true',List.contains_eq_mem,decide_eq_false_iff_not]at hm
    obtain⟨⟨m1,_⟩,m3⟩:=hm
    rcases List.mem_cons.1 aa with rfl|aa
    ·exact m1 hd
    ·exact ih (y::d) (by simp[hd]) m3 aa
  refine⟨by simp,h1,later l2 _ (by simp) h3,?_⟩
  split at h2
  ·rename_i o ho
   simp only[Bool.and_eq_true]at h2
   refine⟨o,ho,fun e he hb=>?_,fun x hx=>by cases hx⟩
   have:=Array.all_eq_true_iff_forall_mem.1 h2.1 e he
   simp only[hb,Bool.not_true,Bool.false_or,List.contains_eq_mem,decide_eq_true_eq]at this
   exact .inr this
  ·cases h2
 | y::l1,done,h=>by
  simp only[List.cons_append,JT,Bool.and_eq_true]at h
  obtain⟨h1,h2,h3,o,ho,he,hx⟩:=H8 l1 (y::done) h.2
  have bj:i≠y:=fun e=>h2 (by simp[e])
  refine⟨by simp[bj,h1],fun hd=>h2 (by simp[hd]),h3,o,ho,fun e hm hb=>?_,?_⟩
  ·rcases he e hm hb with h4|h4
   ·exact .inl (by simp[h4])
   ·rcases List.mem_cons.1 h4 with h5|h5
    ·exact .inl (by simp[h5])
    ·exact .inr h5
  ·intro x aa
   rcases List.mem_cons.1 aa with rfl|aa
   ·have back:∀(l d:List Nat),x∈d->JT ops E U d (l++i::l2)=true->Gy ops ops.size i x=true\/(E.contains x=false/\(U.contains x=true->(isAl o).isSome=true) /\ ∃ox,ops[x]? = some ox/\o.apart ops ox=true/\((isAl ox).isSome=true->(isAl o).isSome=true)):=by
     intro l
     induction l with
     | nil =>
      intro d hd hm
      simp only[List.nil_append,JT,Bool.and_eq_true,ho]at hm
      have:=List.all_eq_true.1 hm.1.2.2 x hd
      simp only[Bool.or_eq_true,Bool.and_eq_true,Bool.not_eq_true']at this
      rcases this.symm with h4|⟨⟨h4,hu⟩,h5⟩
      ·exact .inl h4
      ·refine .inr ⟨h4,(fun bB=>hu.resolve_left fun h=>by rw[bB]at h;cases h),?_⟩
       split at h5
       ·rename_i ox ax
        simp only[Bool.and_eq_true,Bool.or_eq_true,Bool.not_eq_true']at h5
        exact⟨ox,ax,h5.1,fun hs=>by rcases h5.2 with h6|h6;rw[h6]at hs;cases hs;exact h6⟩
       ·cases h5
     |cons z l ih=>
      intro d hd hm
      simp only[List.cons_append,JT,Bool.and_eq_true]at hm
      exact ih (z::d) (by simp[hd]) hm.2
    exact back l1 _ (by simp) h.2
   ·exact hx x aa
def HR(ops:Array Oper)(E U ord:List Nat):Bool:=JT ops E U [] ord&&(List.range ops.size).all ord.contains&&ord.length==ops.size
theorem R7(ht:Ba P tab)(hN:P.funcs.size=N){ord:List Nat}(hB:HR ops E U ord=true)(hA:allOK tab n ops=true){g0:G}{rr:Rx}(hr:RoRep g0 ro rr): ∀(m:Nat) (r:List Nat) (listed:Array Bool) (γ:Fr) (O:Sig),r.length=m->listed.size=ops.size->
  r=ord.filter (fun i=> !listed.getD i true)->Closed ops listed->MOps3 P ro n ops N S0 Q df tab E U r γ O->Sub S0 O->
   ∀(g:G) (w:World) (a:Act),g0.le g->SimS P g n ⟨γ,O,df⟩ a w->wpAnyIn (FX P rr) 0 P .any ops (Post P g0 n Q) m listed a w:=by
 unfold HR at hB
 simp only[Bool.and_eq_true]at hB
 obtain⟨⟨ag,aF⟩,_⟩:=hB
 have aa:∀(r:List Nat) (listed:Array Bool),r=ord.filter (fun i=> !listed.getD i true)->∀i∈Region.ready .any ops listed,i∈r:=by
  intro r listed hf i hi
  obtain⟨h1,o,ho,_⟩:=mem_ready.1 hi
  have:=List.all_eq_true.1 aF i (by simpa using(Array.getElem?_eq_some_iff.1 ho).1)
  rw[hf,List.mem_filter]
  exact⟨by simpa using this,by rw[h1];rfl⟩
 intro m
 induction m with
 |zero=>
  intro r listed γ O hl hsz hf ak h hC g w a hg hs
  obtain rfl:r=[]:=List.length_eq_zero_iff.1 hl
  refine⟨List.eq_nil_iff_forall_not_mem.2 fun i hi=>?_,?_⟩
  ·have:=aa [] listed hf i hi;cases this
  ·exact Post.le hg (h g w a rr (hr.mono hg) hs)
 | succ m ih =>
  intro r listed γ O hl hsz hf ak h hC g w a hg hs
  obtain⟨y,t,rfl⟩:∃y t,r=y::t:=by cases r with|nil=>cases hl|cons y t=>exact⟨y,t,rfl⟩
  refine⟨fun he=>?_,fun i hi=>?_⟩
  ·exfalso
   obtain⟨l1,l2,ap,aX,hy,bp⟩:=List.filter_eq_cons_iff.1 hf.symm
   subst ap
   obtain⟨h1,_,_,o,ho,aL,_⟩:=H8 l1 [] ag
   have:y∈Region.ready .any ops listed:=by
    refine mem_ready.2 ⟨by simpa using hy,o,ho,fun e hm hb=>?_⟩
    rcases aL e hm hb with h4|h4
    ·have h5:=aX _ h4
     simp only[Bool.not_eq_true,Bool.not_eq_false']at h5
     have aq:e.on<listed.size:=by
      have:e.on∈l1++y::l2:=by simp[h4]
      obtain⟨p1,p2,hp⟩:=List.append_of_mem this
      rw[hp]at ag
      obtain⟨_,_,_,o',aw,_⟩:=H8 p1 [] ag
      rw[hsz];exact(Array.getElem?_eq_some_iff.1 aw).1
     simpa[aq] using h5
    ·cases h4
   rw[he]at this;cases this
  ·obtain⟨pre,post,am⟩:=List.append_of_mem (aa _ listed hf i hi)
   rw[am]at hf h hl
   obtain⟨l1',l2',ap,aE,bc⟩:=List.filter_eq_append_iff.1 hf.symm
   obtain⟨m1,m2,aD,aV,bt,bb⟩:=List.filter_eq_cons_iff.1 bc
   have ai:ord=(l1'++m1)++i::m2:=by rw[ap,aD];simp
   rw[ai]at ag
   obtain⟨n1,_,n3,o,ho,aL,hx⟩:=H8 (l1'++m1) [] ag
   obtain⟨aZ,o',aw,aB⟩:=mem_ready.1 hi
   obtain rfl:o'=o:=by rw[ho]at aw;cases aw;rfl
   have ar:=J6 ho post pre γ O (fun x aI=>by
    have aT:x∈l1'++m1:=by
     have:x∈l1'.filter (fun i=> !listed.getD i true):=by rw[aE];exact aI
     simp[(List.mem_filter.1 this).1]
    have aH:listed.getD x true=false:=by
     have:x∈l1'.filter (fun i=> !listed.getD i true):=by rw[aE];exact aI
     simpa using(List.mem_filter.1 this).2
    rcases hx x aT with h4|h4
    ·exfalso
     have:=CV ak ops.size i x o' ho aB h4
     rcases Nat.lt_or_ge x listed.size with aq|aq
     ·simp[aq]at this aH;rw[aH]at this;cases this
     ·simp[Array.getElem?_eq_none aq]at this
    ·exact h4) h
   have ae:pre++post=ord.filter (fun j=> !(listed.setIfInBounds i true).getD j true):=by
    have ba:i<listed.size:=by
     rw[hsz];exact(Array.getElem?_eq_some_iff.1 ho).1
    rw[ai,List.filter_append,List.filter_cons]
    have e1:(listed.setIfInBounds i true).getD i true=true:=by simp[ba]
    rw[e1,AH n1,AH n3]
    simp only[Bool.not_true,Bool.false_eq_true,if_false,List.filter_append,aE,bb]
    rw[List.filter_eq_nil_iff.2 (fun x hx=>by simpa using aV x hx),List.append_nil]
   have hlen:(pre++post).length=m:=by simp at hl⊢; omega
   obtain⟨o2,aK,hh⟩:=ar
   obtain rfl:o2=o':=by rw[ho]at aK;cases aK;rfl
   have aU:=Array.all_eq_true_iff_forall_mem.1 hA o2 (Array.mem_of_getElem? ho)
   unfold wpOpIn
   simp only[ho]
   cases aC:isAl o2 with
   | some p =>
    obtain⟨t,T⟩:=p
    rw[aC]at aU
    simp only[Bool.and_eq_true,decide_eq_true_eq,Bool.not_eq_true']at aU
    obtain⟨_,_,_,rfl⟩:=Jf aC
    simp only[Step3,isAl]at hh
    refine D5 (Q:=Q) (R:=fun d U'=> ∃k,O k=none/\d=.ptr k 0/\U'=O.set k (.cells (tab T).zero)) (Rp:=fun _ _=>False) (hr.mono hg) hg hs ⟨by simp[Aq,aU.1],rfl,?_⟩ (fun g' w' a' d U' ay hR ah=>?_) fun _ _ h=>h.elim
    ·exact Ez ht aU.2 aU.1 fun k hk=>Ax ⟨rfl,k,hk,by simp[A6],rfl⟩
    ·obtain⟨k,hk,rfl,rfl⟩:=hR
     exact ih _ _ _ _ hlen (by simpa using hsz) ae (ak.set hi) (hh k hk) (fun i o h=>(Sub.refl _).set hk i o (hC i o h)) g' w' a' (hg.trans ay) ah
   | none =>
    simp only[Step3,aC]at hh
    rcases hh with⟨d,hy,hM⟩|⟨_,hE⟩|⟨_,hu⟩
    ·exact FO (Q:=Q) hN (hr.mono hg) hg hs hC hy fun g' w' a' ay ah=>ih _ _ _ _ hlen (by simpa using hsz) ae (ak.set hi) hM hC g' w' a' (hg.trans ay) ah
    ·exact D5 (Q:=Q) (hr.mono hg) hg hs hE (fun g' w' a' d U' ay hR ah=>ih _ _ _ _ hlen (by simpa using hsz) ae (ak.set hi) hR.2 hR.1 g' w' a' (hg.trans ay) ah) fun d U' hp=>hp
    ·rcases hu with⟨dj,x,hE,hK⟩|⟨j,y,x,d,hj,h0,hE,hK⟩|⟨Rr,hE,hn,hK⟩
     rotate_left 2
     ·refine D5 (Q:=Q) (hr.mono hg) hg hs (hE O) (fun g' w' a' d U' ay hR ah=>?_) fun _ _ h=>h.elim
      exact ih _ _ _ _ hlen (by simpa using hsz) ae (ak.set hi) (hK d U' hR).2 (hK d U' hR).1 g' w' a' (hg.trans ay) ah
     ·refine D5 (Q:=Q) (hr.mono hg) hg hs (hE O) (fun g' w' a' d U' ay hR ah=>?_) fun _ _ h=>h.elim
      obtain⟨j,hj,rfl,rfl⟩:=hR
      exact ih _ _ _ _ hlen (by simpa using hsz) ae (ak.set hi) (hK j hj) (fun i o h=>(Sub.refl _).set hj i o (hC i o h)) g' w' a' (hg.trans ay) ah
     ·refine D5 (Q:=Q) (hr.mono hg) hg hs (hE O hj) (fun g' w' a' d' U' ay hR ah=>?_) fun _ _ h=>h.elim
      obtain⟨rfl,rfl⟩:=hR
      exact ih _ _ _ _ hlen (by simpa using hsz) ae (ak.set hi) hK (fun i o h=>by rw[w7 _ _ fun e=>by rw[e,h0]at h;cases h];exact hC i o h) g' w' a' (hg.trans ay) ah
def QP(ops:List Oper)(E U:List Nat):List Nat->Option (List (Bool×Bool×Oper))
 |[]=>some []
 | i::r=>match nthO ops i with
  |some o=>match QP ops E U r with
   |some l=>some ((E.contains i,U.contains i,o)::l)
   |none=>none
  |none=>none
theorem Ie{lo:List Oper}: ∀{ord:List Nat}{lp:List (Bool×Bool×Oper)}{γ:Fr}{O:Sig},QP lo E U ord=some lp->MO3 P ro n lo.toArray N S0 Q df tab lp γ O->MOps3 P ro n lo.toArray N S0 Q df tab E U ord γ O
 |[],_,_,_,hp,h=>by cases hp;exact h
 |i::r,lp,γ,O,hp,h=>by
  simp only[QP]at hp
  split at hp<;>(try (cases hp;done))
  rename_i o ho
  split at hp<;>(try (cases hp;done))
  rename_i l hl
  cases hp
  refine⟨o,by rw[HO]at ho;simpa using ho,?_⟩
  exact Step3.mono h (fun _=>rfl) fun γ V' O au h=>MOps3.alike _ au (Ie hl h)
theorem VE(ht:Ba P tab)(hN:P.funcs.size=N)(hm:P.follows .mixedOrders=true){l:List Oper}{id:Nat}{γ:Fr}{O:Sig}(ord E U:List Nat)(S0:Sig)(hB:HR l.toArray E U ord=true)(hA:allOK tab n l.toArray=true)(hC:Sub S0 O)
  {lp:List (Bool×Bool×Oper)} (aW:QP l E U ord=some lp) (h:MO3 P ro n l.toArray N S0 Q df tab lp γ O):DWp P ro n (.region id l.toArray true) Q ⟨γ,O,df⟩:=by
 intro g w a r hr hs
 refine wpIn_region_any hm ?_
 have ak:Closed l.toArray (Array.replicate l.toArray.size false):=by
  intro q o _ hq
  rcases Nat.lt_or_ge q l.length with h'|h'
  ·simp[h']at hq
  ·simp[h']at hq
 have ah:SimS P g n ⟨γ,O,df⟩ a { w with drawn:=w.drawn+1 }:=
  ⟨⟨fun b o v h=>hs.sim.imm b o v h,hs.sim.keep,fun i o h=>by
   have:=hs.sim.obj i o h
   cases o<;>exact this,hs.sim.inj,hs.sim.free,hs.sim.htop,hs.sim.hdom,hs.sim.fin,hs.sim.io,hs.sim.tab⟩,hs.tmps,hs.df⟩
 have aq:∀i∈ord,i<l.toArray.size:=by
  intro i hi
  obtain⟨p1,p2,hp⟩:=List.append_of_mem hi
  have aj:=hB
  unfold HR at aj
  simp only[Bool.and_eq_true]at aj
  rw[hp]at aj
  obtain⟨_,_,_,o',aw,_⟩:=H8 p1 [] aj.1.1
  exact(Array.getElem?_eq_some_iff.1 aw).1
 have hlen:ord.length=l.toArray.size:=by
  have aj:=hB
  unfold HR at aj
  simp only[Bool.and_eq_true,beq_iff_eq]at aj
  exact aj.2
 have:=R7 ht hN hB hA hr ord.length ord (Array.replicate l.toArray.size false) γ O rfl (by simp) (DV aq).symm ak (Ie aW h) hC g _ a (.refl g) ah
 rw[hlen]at this
 exact this
theorem J8: ∀{l:List (Bool×Bool×Oper)}{γ:Fr}{O:Sig},(l.all fun p=> !(isAl p.2.2).isSome)=true->MO P ro n ops N S0 Q df (l.map fun p=>(p.1,p.2.2)) γ O->MO3 P ro n ops N S0 Q df tab l γ O
 |[],_,_,_,h=>h
 |(e,u,o)::l,γ,O,hl,h=>by
  simp only[List.all_cons,Bool.and_eq_true,Bool.not_eq_true']at hl
  have hn:isAl o=none:=by cases h:isAl o with|none=>rfl|some _=>rw[h]at hl;simp at hl
  show Step3 P ro n ops N S0 Q df tab e u o γ O _
  simp only[Step3,hn]
  rcases h with⟨d,h2,h3⟩|⟨h1,h2⟩
  ·exact .inl ⟨d,h2,J8 hl.2 h3⟩
  ·exact .inr (.inl ⟨h1,h2.congr (fun _ _=>rfl) fun d U' ⟨h3,h4⟩=>⟨h3,J8 hl.2 h4⟩⟩)
theorem Rf{e u:Bool}{t T:Nat}{ty:TypeId}{pos:String}{after:Array Edge}{l:List (Bool×Bool×Oper)}{γ:Fr}{O:Sig}(h:∀k,O k=none->MO3 P ro n ops N S0 Q df tab l ((t,.ptr k 0)::γ) (O.set k (.cells (tab T).zero))):
  MO3 P ro n ops N S0 Q df tab ((e,u,⟨some t,.alloc T,ty,pos,after,none⟩)::l) γ O:=h
theorem UP(ht:Ba P tab){e u:Bool}{t:Nat}{op:Op}{ty:TypeId}{pos:String}{after:Array Edge}{d:D}{l:List (Bool×Bool×Oper)}{γ Sr:Fr}{O:Sig}(hr:DO op=true)(aG:decide (t<n)=true)(hl:A3 γ (A9 op.operands.toList)=some Sr)(hd:dopX tab Sr S0 op=some d)
  (h:MO3 P ro n ops N S0 Q df tab l ((t,d)::γ) O):MO3 P ro n ops N S0 Q df tab ((e,u,⟨some t,op,ty,pos,after,none⟩)::l) γ O:=by
 have aM:=(BQ (CD hl)) ▸ hd
 have ha:isAl ⟨some t,op,ty,pos,after,none⟩=none:=by
  unfold isAl;split
  ·rename_i bN;cases bN;cases hr
  ·rfl
 show Step3 P ro n ops N S0 Q df tab e u _ γ O _
 simp only[Step3,ha]
 refine .inl ⟨d,⟨aG,.inl ⟨by rw[Ap];rfl,Cu hr,JQ ht aM,fun U' hZ g w a hs hT=>?_⟩⟩,h⟩
 refine FM ht hs hT (?_:dopX tab (only _ γ) U' op=some d)
 rw[BQ (V':=γ) fun x hx=>BO (o:=⟨some t,op,ty,pos,after,none⟩) hx]
 exact FN hZ aM
theorem mo3_u{e:Bool}{o:Oper}{l:List (Bool×Bool×Oper)}{γ:Fr}{O:Sig}(ha:isAl o=none)(h:USt P ro n ops S0 df o γ O (MO3 P ro n ops N S0 Q df tab l)):MO3 P ro n ops N S0 Q df tab ((e,true,o)::l) γ O:=by
 show Step3 P ro n ops N S0 Q df tab e true o γ O _
 simp only[Step3,ha]
 exact .inr (.inr ⟨trivial,h⟩)
end
section
variable (P:Program)(ro:Ro)(n:Nat)(ops:Array Oper)(N:Nat)(Q:DX->St->Prop)(df:List DDf)
def MOps4 (E C K:List Nat):List Nat->Sig->Fr->Sig->Prop
  |[],_,γ,O=>DOps P ro n ops Q [] ⟨γ,O,df⟩
  | i::r,S0,γ,O => ∃ o,ops[i]? = some o /\
    ((∃ d,Calm P n ops N (if C.contains i=true then S0 else fun _=>none) γ o d/\MOps4 E C K r S0 (putD o.dst d γ) O) \/
     (E.contains i=true/\Eff P ro n ops df γ O o (fun d U'=> ∃S1,Sub S1 U'/\(K.contains i=false->S1=S0)/\MOps4 E C K r S1 (putD o.dst d γ) U') (fun d U'=> ∀V',Q (.panic d) ⟨V',U',df⟩)))
def MO4:List (Bool × Bool × Bool × Oper)->Sig->Fr->Sig->Prop
  |[],_,γ,O=>DOps P ro n ops Q [] ⟨γ,O,df⟩
  | (e,c,k,o)::r,S0,γ,O =>
    (∃ d,Calm P n ops N (if c=true then S0 else fun _=>none) γ o d/\MO4 r S0 (putD o.dst d γ) O) \/
     (e=true/\Eff P ro n ops df γ O o (fun d U'=> ∃S1,Sub S1 U'/\(k=false->S1=S0)/\MO4 r S1 (putD o.dst d γ) U') (fun d U'=> ∀V',Q (.panic d) ⟨V',U',df⟩))
end
section
variable {P:Program}{ro:Ro}{n:Nat}{ops:Array Oper}{N:Nat}{S0:Sig}{Q:DX->St->Prop}{df:List DDf}{E C K:List Nat}{tab:Nat->Ty}
theorem MOps4.alike: ∀(l:List Nat) {S0:Sig}{γ V':Fr}{O:Sig},Alike γ V'->MOps4 P ro n ops N Q df E C K l S0 γ O->MOps4 P ro n ops N Q df E C K l S0 V' O
 |[],_,_,_,_,h,k=>Cq h k
 |i::r,_,_,_,_,h,⟨o,ho,k⟩=>⟨o,ho,(match k with
  |.inl ⟨d,h2,h3⟩=>.inl ⟨d,h2.congr fun t _=>h t,MOps4.alike r (h.put _ _) h3⟩
  |.inr ⟨h1,h2⟩=>.inr ⟨h1,h2.congr (fun t _=>h t) fun d U' ⟨S1,h3,h5,h4⟩=>⟨S1,h3,h5,MOps4.alike r (h.put _ _) h4⟩⟩)⟩
theorem Calm.base{S0 S1:Sig}{γ:Fr}{o:Oper}{d:D}(h:Calm P n ops N S0 γ o d)(hs:Sub S0 S1):Calm P n ops N S1 γ o d:=
 ⟨h.ok,by
  rcases h.run with⟨a,b,c,e⟩|h|⟨a,e⟩
  ·exact .inl ⟨a,b,c,fun O hZ=>e O (hs.trans hZ)⟩
  ·exact .inr (.inl h)
  ·exact .inr (.inr ⟨a,fun O hZ=>e O (hs.trans hZ)⟩)⟩
theorem J5{i:Nat}{oi:Oper}(hi:ops[i]? = some oi)(post:List Nat): ∀(pre:List Nat) (γ:Fr) (O:Sig),
  (∀x∈pre,E.contains x=false/\(K.contains i&&C.contains x)=false /\ ∃ox,ops[x]? = some ox/\oi.apart ops ox=true)->MOps4 P ro n ops N Q df E C K (pre++i::post) S0 γ O->MOps4 P ro n ops N Q df E C K (i::(pre++post)) S0 γ O
 |[],_,_,_,h=>h
 | x::pre,γ,O,hp,h=>by
  obtain⟨aS,aR,ox,ax,bd⟩:=hp x (by simp)
  obtain⟨a1,a2,a3⟩:=Oper.apart_spec bd
  obtain⟨ox',aA,hx⟩:=h
  obtain rfl:ox'=ox:=by rw[ax]at aA;cases aA;rfl
  rcases hx with⟨d,hy,h⟩|⟨hE,_⟩
  ·obtain⟨oi',ac,hh⟩:=J5 hi post pre _ O (fun y hy=>hp y (by simp[hy])) h
   obtain rfl:oi'=oi:=by rw[hi]at ac;cases ac;rfl
   refine⟨oi',hi,?_⟩
   rcases hh with⟨e,h2,h3⟩|⟨h1,h2⟩
   ·refine .inl ⟨e,h2.congr fun t ht=>AC fun hd=>a3 t hd ht,ox',ax,.inl ⟨d,hy.congr fun t ht=>(AC fun hd=>a1 t hd ht).symm,?_⟩⟩
    exact MOps4.alike _ (Bx _ _ _ fun t p q=>a2 t p q) h3
   ·refine .inr ⟨h1,h2.congr (fun t ht=>AC fun hd=>a3 t hd ht) fun e U' ⟨S1,h3,h5,h4⟩=>⟨S1,h3,h5,ox',ax,.inl ⟨d,?_,MOps4.alike _ (Bx _ _ _ fun t p q=>a2 t p q) h4⟩⟩⟩
    have aP:=hy.congr (V':=putD oi'.dst e γ) fun t ht=>(AC fun hd=>a1 t hd ht).symm
    cases hk:K.contains i with
    |false=>rw[h5 hk];exact aP
    |true=>
     rw[hk,Bool.true_and]at aR
     rw[aR]at aP⊢
     exact aP
  ·rw[aS]at hE;cases hE
def JS(ops:Array Oper)(E C K:List Nat):List Nat->List Nat->Bool
 |_,[]=>true
 | done,i::r => !done.contains i && (match ops[i]? with
  |some o=>(o.after.all fun e=> !Region.binds .any e||done.contains e.on)&&done.all fun x=>(!E.contains x&&!(K.contains i&&C.contains x)&&match ops[x]? with
   |some ox=>o.apart ops ox
   |none=>false)||Gy ops ops.size i x
  |none=>false)&&JS ops E C K (i::done) r
theorem Dt{i:Nat}{l2:List Nat}: ∀(l1 done:List Nat),JS ops E C K done (l1++i::l2)=true->i∉l1/\i∉done/\i∉l2 /\ ∃o,ops[i]? = some o/\(∀e∈o.after,Region.binds .any e=true->e.on∈l1\/e.on∈done) /\
   ∀x,x∈l1->Gy ops ops.size i x=true\/(E.contains x=false/\(K.contains i&&C.contains x)=false /\ ∃ox,ops[x]? = some ox/\o.apart ops ox=true)
 | [],done,h=>by
  simp only[List.nil_append,JS,Bool.and_eq_true,Bool.not_eq_true',List.contains_eq_mem,decide_eq_false_iff_not]at h
  obtain⟨⟨h1,h2⟩,h3⟩:=h
  have later:∀(l d:List Nat),i∈d->JS ops E C K d l=true->i∉l:=by
   intro l
   induction l with
   |nil=>intro _ _ _ h;cases h
   |cons y l ih=>
    intro d hd hm aa
    simp only[JS,Bool.and_eq_true,Bool.not_eq_true',List.contains_eq_mem,decide_eq_false_iff_not]at hm
    obtain⟨⟨m1,_⟩,m3⟩:=hm
    rcases List.mem_cons.1 aa with rfl|aa
    ·exact m1 hd
    ·exact ih (y::d) (by simp[hd]) m3 aa
  refine⟨by simp,h1,later l2 _ (by simp) h3,?_⟩
  split at h2
  ·rename_i o ho
   simp only[Bool.and_eq_true]at h2
   refine⟨o,ho,fun e he hb=>?_,fun x hx=>by cases hx⟩
   have:=Array.all_eq_true_iff_forall_mem.1 h2.1 e he
   simp only[hb,Bool.not_true,Bool.false_or,List.contains_eq_mem,decide_eq_true_eq]at this
   exact .inr this
  ·cases h2
 | y::l1,done,h=>by
  simp only[List.cons_append,JS,Bool.and_eq_true]at h
  obtain⟨h1,h2,h3,o,ho,he,hx⟩:=Dt l1 (y::done) h.2
  have bj:i≠y:=fun e=>h2 (by simp[e])
  refine⟨by simp[bj,h1],fun hd=>h2 (by simp[hd]),h3,o,ho,fun e hm hb=>?_,?_⟩
  ·rcases he e hm hb with h4|h4
   ·exact .inl (by simp[h4])
   ·rcases List.mem_cons.1 h4 with h5|h5
    ·exact .inl (by simp[h5])
    ·exact .inr h5
  ·intro x aa
   rcases List.mem_cons.1 aa with rfl|aa
   ·
    have back:∀(l d:List Nat),x∈d->JS ops E C K d (l++i::l2)=true->Gy ops ops.size i x=true\/(E.contains x=false/\(K.contains i&&C.contains x)=false /\ ∃ox,ops[x]? = some ox/\o.apart ops ox=true):=by
     intro l
     induction l with
     | nil =>
      intro d hd hm
      simp only[List.nil_append,JS,Bool.and_eq_true,ho]at hm
      have:=List.all_eq_true.1 hm.1.2.2 x hd
      simp only[Bool.or_eq_true,Bool.and_eq_true,Bool.not_eq_true']at this
      rcases this.symm with h4|⟨⟨h4,h6⟩,h5⟩
      ·exact .inl h4
      ·refine .inr ⟨h4,h6,?_⟩
       split at h5
       ·rename_i ox ax;exact⟨ox,ax,h5⟩
       ·cases h5
     |cons z l ih=>
      intro d hd hm
      simp only[List.cons_append,JS,Bool.and_eq_true]at hm
      exact ih (z::d) (by simp[hd]) hm.2
    exact back l1 _ (by simp) h.2
   ·exact hx x aa
def Dj(ops:Array Oper)(E C K ord:List Nat):Bool:=JS ops E C K [] ord&&(List.range ops.size).all ord.contains&&ord.length==ops.size
theorem R6(hN:P.funcs.size=N){ord:List Nat}(hB:Dj ops E C K ord=true){g0:G}{rr:Rx}(hr:RoRep g0 ro rr): ∀(m:Nat) (r:List Nat) (listed:Array Bool) (S0:Sig) (γ:Fr) (O:Sig),r.length=m->listed.size=ops.size->
  r=ord.filter (fun i=> !listed.getD i true)->Closed ops listed->MOps4 P ro n ops N Q df E C K r S0 γ O->Sub S0 O->
   ∀(g:G) (w:World) (a:Act),g0.le g->SimS P g n ⟨γ,O,df⟩ a w->wpAnyIn (FX P rr) 0 P .any ops (Post P g0 n Q) m listed a w:=by
 unfold Dj at hB
 simp only[Bool.and_eq_true]at hB
 obtain⟨⟨ag,aF⟩,_⟩:=hB
 have aa:∀(r:List Nat) (listed:Array Bool),r=ord.filter (fun i=> !listed.getD i true)->∀i∈Region.ready .any ops listed,i∈r:=by
  intro r listed hf i hi
  obtain⟨h1,o,ho,_⟩:=mem_ready.1 hi
  have:=List.all_eq_true.1 aF i (by simpa using(Array.getElem?_eq_some_iff.1 ho).1)
  rw[hf,List.mem_filter]
  exact⟨by simpa using this,by rw[h1];rfl⟩
 intro m
 induction m with
 |zero=>
  intro r listed S0 γ O hl hsz hf ak h hC g w a hg hs
  obtain rfl:r=[]:=List.length_eq_zero_iff.1 hl
  refine⟨List.eq_nil_iff_forall_not_mem.2 fun i hi=>?_,?_⟩
  ·have:=aa [] listed hf i hi;cases this
  ·exact Post.le hg (h g w a rr (hr.mono hg) hs)
 | succ m ih =>
  intro r listed S0 γ O hl hsz hf ak h hC g w a hg hs
  obtain⟨y,t,rfl⟩:∃y t,r=y::t:=by cases r with|nil=>cases hl|cons y t=>exact⟨y,t,rfl⟩
  refine⟨fun he=>?_,fun i hi=>?_⟩
  ·exfalso
   obtain⟨l1,l2,ap,aX,hy,bp⟩:=List.filter_eq_cons_iff.1 hf.symm
   subst ap
   obtain⟨h1,_,_,o,ho,aL,_⟩:=Dt l1 [] ag
   have:y∈Region.ready .any ops listed:=by
    refine mem_ready.2 ⟨by simpa using hy,o,ho,fun e hm hb=>?_⟩
    rcases aL e hm hb with h4|h4
    ·have h5:=aX _ h4
     simp only[Bool.not_eq_true,Bool.not_eq_false']at h5
     have aq:e.on<listed.size:=by
      have:e.on∈l1++y::l2:=by simp[h4]
      obtain⟨p1,p2,hp⟩:=List.append_of_mem this
      rw[hp]at ag
      obtain⟨_,_,_,o',aw,_⟩:=Dt p1 [] ag
      rw[hsz];exact(Array.getElem?_eq_some_iff.1 aw).1
     simpa[aq] using h5
    ·cases h4
   rw[he]at this;cases this
  ·obtain⟨pre,post,am⟩:=List.append_of_mem (aa _ listed hf i hi)
   rw[am]at hf h hl
   obtain⟨l1',l2',ap,aE,bc⟩:=List.filter_eq_append_iff.1 hf.symm
   obtain⟨m1,m2,aD,aV,bt,bb⟩:=List.filter_eq_cons_iff.1 bc
   have ai:ord=(l1'++m1)++i::m2:=by rw[ap,aD];simp
   rw[ai]at ag
   obtain⟨n1,_,n3,o,ho,aL,hx⟩:=Dt (l1'++m1) [] ag
   obtain⟨aZ,o',aw,aB⟩:=mem_ready.1 hi
   obtain rfl:o'=o:=by rw[ho]at aw;cases aw;rfl
   have ar:=J5 ho post pre γ O (fun x aI=>by
    have aT:x∈l1'++m1:=by
     have:x∈l1'.filter (fun i=> !listed.getD i true):=by rw[aE];exact aI
     simp[(List.mem_filter.1 this).1]
    have aH:listed.getD x true=false:=by
     have:x∈l1'.filter (fun i=> !listed.getD i true):=by rw[aE];exact aI
     simpa using(List.mem_filter.1 this).2
    rcases hx x aT with h4|h4
    ·exfalso
     have:=CV ak ops.size i x o' ho aB h4
     rcases Nat.lt_or_ge x listed.size with aq|aq
     ·simp[aq]at this aH;rw[aH]at this;cases this
     ·simp[Array.getElem?_eq_none aq]at this
    ·exact h4) h
   have ae:pre++post=ord.filter (fun j=> !(listed.setIfInBounds i true).getD j true):=by
    have ba:i<listed.size:=by
     rw[hsz];exact(Array.getElem?_eq_some_iff.1 ho).1
    rw[ai,List.filter_append,List.filter_cons]
    have e1:(listed.setIfInBounds i true).getD i true=true:=by simp[ba]
    rw[e1,AH n1,AH n3]
    simp only[Bool.not_true,Bool.false_eq_true,if_false,List.filter_append,aE,bb]
    rw[List.filter_eq_nil_iff.2 (fun x hx=>by simpa using aV x hx),List.append_nil]
   have hlen:(pre++post).length=m:=by simp at hl⊢; omega
   obtain⟨o2,aK,hh⟩:=ar
   obtain rfl:o2=o':=by rw[ho]at aK;cases aK;rfl
   unfold wpOpIn
   simp only[ho]
   rcases hh with⟨d,hy,hM⟩|⟨_,hE⟩
   ·have bz:Calm P n ops N S0 γ o2 d:=hy.base (by split;exact Sub.refl _;exact fun _ _ h=>by cases h)
    exact FO hN (hr.mono hg) hg hs hC bz fun g' w' a' ay ah=>ih _ _ _ _ _ hlen (by simpa using hsz) ae (ak.set hi) hM hC g' w' a' (hg.trans ay) ah
   ·exact D5 (hr.mono hg) hg hs hE (fun g' w' a' d U' ay hR ah=>by obtain⟨S1,h3,_,h4⟩:=hR;exact ih _ _ _ _ _ hlen (by simpa using hsz) ae (ak.set hi) h4 h3 g' w' a' (hg.trans ay) ah) fun d U' hp=>hp
def Ln(ops:List Oper)(E C K:List Nat):List Nat->Option (List (Bool×Bool×Bool×Oper))
 |[]=>some []
 | i::r=>match nthO ops i with
  |some o=>match Ln ops E C K r with
   |some l=>some ((E.contains i,C.contains i,K.contains i,o)::l)
   |none=>none
  |none=>none
theorem Fq{lo:List Oper}: ∀{ord:List Nat}{lp:List (Bool×Bool×Bool×Oper)}{S0:Sig}{γ:Fr}{O:Sig},Ln lo E C K ord=some lp->MO4 P ro n lo.toArray N Q df lp S0 γ O->MOps4 P ro n lo.toArray N Q df E C K ord S0 γ O
 |[],_,_,_,_,hp,h=>by cases hp;exact h
 |i::r,lp,S0,γ,O,hp,h=>by
  simp only[Ln]at hp
  split at hp<;>(try (cases hp;done))
  rename_i o ho
  split at hp<;>(try (cases hp;done))
  rename_i l hl
  cases hp
  refine⟨o,by rw[HO]at ho;simpa using ho,?_⟩
  rcases h with⟨d,h2,h3⟩|⟨h1,h2⟩
  ·exact .inl ⟨d,h2,Fq hl h3⟩
  ·exact .inr ⟨h1,h2.congr (fun _ _=>rfl) fun d U' ⟨S1,h3,h5,h4⟩=>⟨S1,h3,h5,Fq hl h4⟩⟩
theorem VF(hN:P.funcs.size=N)(hm:P.follows .mixedOrders=true){l:List Oper}{id:Nat}{γ:Fr}{O:Sig}(ord E C K:List Nat)(S0:Sig)(hB:Dj l.toArray E C K ord=true)(hC:Sub S0 O)
  {lp:List (Bool×Bool×Bool×Oper)} (aW:Ln l E C K ord=some lp) (h0:MO4 P ro n l.toArray N Q df lp S0 γ O):DWp P ro n (.region id l.toArray true) Q ⟨γ,O,df⟩:=by
 intro g w a r hr hs
 refine wpIn_region_any hm ?_
 have ak:Closed l.toArray (Array.replicate l.toArray.size false):=by
  intro q o _ hq
  rcases Nat.lt_or_ge q l.length with h'|h'
  ·simp[h']at hq
  ·simp[h']at hq
 have ah:SimS P g n ⟨γ,O,df⟩ a { w with drawn:=w.drawn+1 }:=
  ⟨⟨fun b o v h=>hs.sim.imm b o v h,hs.sim.keep,fun i o h=>by
   have:=hs.sim.obj i o h
   cases o<;>exact this,hs.sim.inj,hs.sim.free,hs.sim.htop,hs.sim.hdom,hs.sim.fin,hs.sim.io,hs.sim.tab⟩,hs.tmps,hs.df⟩
 have aq:∀i∈ord,i<l.toArray.size:=by
  intro i hi
  obtain⟨p1,p2,hp⟩:=List.append_of_mem hi
  have aj:=hB
  unfold Dj at aj
  simp only[Bool.and_eq_true]at aj
  rw[hp]at aj
  obtain⟨_,_,_,o',aw,_⟩:=Dt p1 [] aj.1.1
  exact(Array.getElem?_eq_some_iff.1 aw).1
 have hlen:ord.length=l.toArray.size:=by
  have aj:=hB
  unfold Dj at aj
  simp only[Bool.and_eq_true,beq_iff_eq]at aj
  exact aj.2
 have:=R6 hN hB hr ord.length ord (Array.replicate l.toArray.size false) S0 γ O rfl (by simp) (DV aq).symm ak (Fq aW h0) hC g _ a (.refl g) ah
 rw[hlen]at this
 exact this
theorem UO(ht:Ba P tab){e c k:Bool}{t:Nat}{op:Op}{ty:TypeId}{pos:String}{after:Array Edge}{d:D}{l:List (Bool×Bool×Bool×Oper)}{γ Sr:Fr}{O:Sig}(hr:DO op=true)(aG:decide (t<n)=true)(hl:A3 γ (A9 op.operands.toList)=some Sr)(hd:dopX tab Sr (if c=true then S0 else fun _=>none) op=some d)
  (h:MO4 P ro n ops N Q df l S0 ((t,d)::γ) O):MO4 P ro n ops N Q df ((e,c,k,⟨some t,op,ty,pos,after,none⟩)::l) S0 γ O:=by
 have aM:=(BQ (CD hl)) ▸ hd
 refine .inl ⟨d,⟨aG,.inl ⟨by rw[Ap];rfl,Cu hr,JQ ht aM,fun U' hZ g w a hs hT=>?_⟩⟩,h⟩
 refine FM ht hs hT (?_:dopX tab (only _ γ) U' op=some d)
 rw[BQ (V':=γ) fun x hx=>BO (o:=⟨some t,op,ty,pos,after,none⟩) hx]
 exact FN hZ aM
theorem mo4_eff(ht:Ba P tab){c k:Bool}{o:Oper}{d:D}{U':Sig}{l:List (Bool×Bool×Bool×Oper)}{γ:Fr}{O:Sig}(S1:Sig)(ho:Aq n o=true)(hw:AB ops γ o=some true)(he:eopD tab γ O o.op=some (d,U'))(hC:Sub S1 U')(hk:k=false->S1=S0)
  (h:MO4 P ro n ops N Q df l S1 (putD o.dst d γ) U'):MO4 P ro n ops N Q df ((true,c,k,o)::l) S0 γ O:=by
 refine .inr ⟨rfl,ho,by rw[Ap];exact hw,?_⟩
 refine G4 ht (by rw[Ap];exact hw) (by rw[Bv (V':=γ) fun x hx=>BO hx];exact he) ho (Ax ⟨rfl,?_⟩)
 cases hd:o.dst with
 |none=>rw[hd]at h;exact⟨S1,hC,hk,h⟩
 |some t=>
  rw[hd]at h
  simp only[putD,A6,if_true]
  exact⟨S1,hC,hk,h⟩
end
section
variable (P:Program)(ro:Ro)(n:Nat)(ops:Array Oper)(N:Nat)(Q:DX->St->Prop)(df:List DDf)
def MOpsI (E C K:List Nat):List Nat->(Sig->Prop)->Fr->Sig->Prop
  |[],_,γ,O=>DOps P ro n ops Q [] ⟨γ,O,df⟩
  | i::r,B,γ,O => ∃ o,ops[i]? = some o /\
    ((∃ d,(∀ s,(C.contains i=true->B s)->Calm P n ops N s γ o d)/\MOpsI E C K r B (putD o.dst d γ) O) \/
     (E.contains i=true/\Eff P ro n ops df γ O o (fun d U'=> ∃B1:Sig->Prop,B1 U'/\(K.contains i=false->B1=B)/\MOpsI E C K r B1 (putD o.dst d γ) U') (fun d U'=> ∀V',Q (.panic d) ⟨V',U',df⟩)))
def MOI:List (Bool × Bool × Bool × Oper)->(Sig->Prop)->Fr->Sig->Prop
  |[],_,γ,O=>DOps P ro n ops Q [] ⟨γ,O,df⟩
  | (e,c,k,o)::r,B,γ,O =>
    (∃ d,(∀ s,(c=true->B s)->Calm P n ops N s γ o d)/\MOI r B (putD o.dst d γ) O) \/
     (e=true/\Eff P ro n ops df γ O o (fun d U'=> ∃B1:Sig->Prop,B1 U'/\(k=false->B1=B)/\MOI r B1 (putD o.dst d γ) U') (fun d U'=> ∀V',Q (.panic d) ⟨V',U',df⟩))
end
section
variable {P:Program}{ro:Ro}{n:Nat}{ops:Array Oper}{N:Nat}{B:Sig->Prop}{Q:DX->St->Prop}{df:List DDf}{E C K:List Nat}{tab:Nat->Ty}
theorem MOpsI.alike: ∀(l:List Nat) {B:Sig->Prop}{γ V':Fr}{O:Sig},Alike γ V'->MOpsI P ro n ops N Q df E C K l B γ O->MOpsI P ro n ops N Q df E C K l B V' O
 |[],_,_,_,_,h,k=>Cq h k
 |i::r,_,_,_,_,h,⟨o,ho,k⟩=>⟨o,ho,(match k with
  |.inl ⟨d,h2,h3⟩=>.inl ⟨d,fun s hs=>(h2 s hs).congr fun t _=>h t,MOpsI.alike r (h.put _ _) h3⟩
  |.inr ⟨h1,h2⟩=>.inr ⟨h1,h2.congr (fun t _=>h t) fun d U' ⟨S1,h3,h5,h4⟩=>⟨S1,h3,h5,MOpsI.alike r (h.put _ _) h4⟩⟩)⟩
theorem J4{i:Nat}{oi:Oper}(hi:ops[i]? = some oi)(post:List Nat): ∀(pre:List Nat) (γ:Fr) (O:Sig),
  (∀x∈pre,E.contains x=false/\(K.contains i&&C.contains x)=false /\ ∃ox,ops[x]? = some ox/\oi.apart ops ox=true)->MOpsI P ro n ops N Q df E C K (pre++i::post) B γ O->MOpsI P ro n ops N Q df E C K (i::(pre++post)) B γ O
 |[],_,_,_,h=>h
 | x::pre,γ,O,hp,h=>by
  obtain⟨aS,aR,ox,ax,bd⟩:=hp x (by simp)
  obtain⟨a1,a2,a3⟩:=Oper.apart_spec bd
  obtain⟨ox',aA,hx⟩:=h
  obtain rfl:ox'=ox:=by rw[ax]at aA;cases aA;rfl
  rcases hx with⟨d,hy,h⟩|⟨hE,_⟩
  ·obtain⟨oi',ac,hh⟩:=J4 hi post pre _ O (fun y hy=>hp y (by simp[hy])) h
   obtain rfl:oi'=oi:=by rw[hi]at ac;cases ac;rfl
   refine⟨oi',hi,?_⟩
   rcases hh with⟨e,h2,h3⟩|⟨h1,h2⟩
   ·refine .inl ⟨e,fun s hs=>(h2 s hs).congr fun t ht=>AC fun hd=>a3 t hd ht,ox',ax,.inl ⟨d,fun s hs=>(hy s hs).congr fun t ht=>(AC fun hd=>a1 t hd ht).symm,?_⟩⟩
    exact MOpsI.alike _ (Bx _ _ _ fun t p q=>a2 t p q) h3
   ·refine .inr ⟨h1,h2.congr (fun t ht=>AC fun hd=>a3 t hd ht) fun e U' ⟨S1,h3,h5,h4⟩=>⟨S1,h3,h5,ox',ax,.inl ⟨d,?_,MOpsI.alike _ (Bx _ _ _ fun t p q=>a2 t p q) h4⟩⟩⟩
    have aP:∀s,(C.contains x=true->B s)->Calm P n ops N s (putD oi'.dst e γ) ox' d:=fun s hs=>(hy s hs).congr fun t ht=>(AC fun hd=>a1 t hd ht).symm
    cases hk:K.contains i with
    |false=>rw[h5 hk];exact aP
    |true=>
     rw[hk,Bool.true_and]at aR
     exact fun s _=>aP s fun hc=>by rw[aR]at hc;cases hc
  ·rw[aS]at hE;cases hE
theorem QZ(hN:P.funcs.size=N){ord:List Nat}(hB:Dj ops E C K ord=true){g0:G}{rr:Rx}(hr:RoRep g0 ro rr): ∀(m:Nat) (r:List Nat) (listed:Array Bool) (B:Sig->Prop) (γ:Fr) (O:Sig),r.length=m->listed.size=ops.size->
  r=ord.filter (fun i=> !listed.getD i true)->Closed ops listed->MOpsI P ro n ops N Q df E C K r B γ O->B O->
   ∀(g:G) (w:World) (a:Act),g0.le g->SimS P g n ⟨γ,O,df⟩ a w->wpAnyIn (FX P rr) 0 P .any ops (Post P g0 n Q) m listed a w:=by
 unfold Dj at hB
 simp only[Bool.and_eq_true]at hB
 obtain⟨⟨ag,aF⟩,_⟩:=hB
 have aa:∀(r:List Nat) (listed:Array Bool),r=ord.filter (fun i=> !listed.getD i true)->∀i∈Region.ready .any ops listed,i∈r:=by
  intro r listed hf i hi
  obtain⟨h1,o,ho,_⟩:=mem_ready.1 hi
  have:=List.all_eq_true.1 aF i (by simpa using(Array.getElem?_eq_some_iff.1 ho).1)
  rw[hf,List.mem_filter]
  exact⟨by simpa using this,by rw[h1];rfl⟩
 intro m
 induction m with
 |zero=>
  intro r listed B γ O hl hsz hf ak h hC g w a hg hs
  obtain rfl:r=[]:=List.length_eq_zero_iff.1 hl
  refine⟨List.eq_nil_iff_forall_not_mem.2 fun i hi=>?_,?_⟩
  ·have:=aa [] listed hf i hi;cases this
  ·exact Post.le hg (h g w a rr (hr.mono hg) hs)
 | succ m ih =>
  intro r listed B γ O hl hsz hf ak h hC g w a hg hs
  obtain⟨y,t,rfl⟩:∃y t,r=y::t:=by cases r with|nil=>cases hl|cons y t=>exact⟨y,t,rfl⟩
  refine⟨fun he=>?_,fun i hi=>?_⟩
  ·exfalso
   obtain⟨l1,l2,ap,aX,hy,bp⟩:=List.filter_eq_cons_iff.1 hf.symm
   subst ap
   obtain⟨h1,_,_,o,ho,aL,_⟩:=Dt l1 [] ag
   have:y∈Region.ready .any ops listed:=by
    refine mem_ready.2 ⟨by simpa using hy,o,ho,fun e hm hb=>?_⟩
    rcases aL e hm hb with h4|h4
    ·have h5:=aX _ h4
     simp only[Bool.not_eq_true,Bool.not_eq_false']at h5
     have aq:e.on<listed.size:=by
      have:e.on∈l1++y::l2:=by simp[h4]
      obtain⟨p1,p2,hp⟩:=List.append_of_mem this
      rw[hp]at ag
      obtain⟨_,_,_,o',aw,_⟩:=Dt p1 [] ag
      rw[hsz];exact(Array.getElem?_eq_some_iff.1 aw).1
     simpa[aq] using h5
    ·cases h4
   rw[he]at this;cases this
  ·obtain⟨pre,post,am⟩:=List.append_of_mem (aa _ listed hf i hi)
   rw[am]at hf h hl
   obtain⟨l1',l2',ap,aE,bc⟩:=List.filter_eq_append_iff.1 hf.symm
   obtain⟨m1,m2,aD,aV,bt,bb⟩:=List.filter_eq_cons_iff.1 bc
   have ai:ord=(l1'++m1)++i::m2:=by rw[ap,aD];simp
   rw[ai]at ag
   obtain⟨n1,_,n3,o,ho,aL,hx⟩:=Dt (l1'++m1) [] ag
   obtain⟨aZ,o',aw,aB⟩:=mem_ready.1 hi
   obtain rfl:o'=o:=by rw[ho]at aw;cases aw;rfl
   have ar:=J4 ho post pre γ O (fun x aI=>by
    have aT:x∈l1'++m1:=by
     have:x∈l1'.filter (fun i=> !listed.getD i true):=by rw[aE];exact aI
     simp[(List.mem_filter.1 this).1]
    have aH:listed.getD x true=false:=by
     have:x∈l1'.filter (fun i=> !listed.getD i true):=by rw[aE];exact aI
     simpa using(List.mem_filter.1 this).2
    rcases hx x aT with h4|h4
    ·exfalso
     have:=CV ak ops.size i x o' ho aB h4
     rcases Nat.lt_or_ge x listed.size with aq|aq
     ·simp[aq]at this aH;rw[aH]at this;cases this
     ·simp[Array.getElem?_eq_none aq]at this
    ·exact h4) h
   have ae:pre++post=ord.filter (fun j=> !(listed.setIfInBounds i true).getD j true):=by
    have ba:i<listed.size:=by
     rw[hsz];exact(Array.getElem?_eq_some_iff.1 ho).1
    rw[ai,List.filter_append,List.filter_cons]
    have e1:(listed.setIfInBounds i true).getD i true=true:=by simp[ba]
    rw[e1,AH n1,AH n3]
    simp only[Bool.not_true,Bool.false_eq_true,if_false,List.filter_append,aE,bb]
    rw[List.filter_eq_nil_iff.2 (fun x hx=>by simpa using aV x hx),List.append_nil]
   have hlen:(pre++post).length=m:=by simp at hl⊢; omega
   obtain⟨o2,aK,hh⟩:=ar
   obtain rfl:o2=o':=by rw[ho]at aK;cases aK;rfl
   unfold wpOpIn
   simp only[ho]
   rcases hh with⟨d,hy,hM⟩|⟨_,hE⟩
   ·exact FO hN (hr.mono hg) hg hs (Sub.refl _) (hy _ fun _=>hC) fun g' w' a' ay ah=>ih _ _ _ _ _ hlen (by simpa using hsz) ae (ak.set hi) hM hC g' w' a' (hg.trans ay) ah
   ·exact D5 (hr.mono hg) hg hs hE (fun g' w' a' d U' ay hR ah=>by obtain⟨B1,h3,_,h4⟩:=hR;exact ih _ _ _ _ _ hlen (by simpa using hsz) ae (ak.set hi) h4 h3 g' w' a' (hg.trans ay) ah) fun d U' hp=>hp
theorem Fp{lo:List Oper}: ∀{ord:List Nat}{lp:List (Bool×Bool×Bool×Oper)}{B:Sig->Prop}{γ:Fr}{O:Sig},Ln lo E C K ord=some lp->MOI P ro n lo.toArray N Q df lp B γ O->MOpsI P ro n lo.toArray N Q df E C K ord B γ O
 |[],_,_,_,_,hp,h=>by cases hp;exact h
 |i::r,lp,B,γ,O,hp,h=>by
  simp only[Ln]at hp
  split at hp<;>(try (cases hp;done))
  rename_i o ho
  split at hp<;>(try (cases hp;done))
  rename_i l hl
  cases hp
  refine⟨o,by rw[HO]at ho;simpa using ho,?_⟩
  rcases h with⟨d,h2,h3⟩|⟨h1,h2⟩
  ·exact .inl ⟨d,h2,Fp hl h3⟩
  ·exact .inr ⟨h1,h2.congr (fun _ _=>rfl) fun d U' ⟨S1,h3,h5,h4⟩=>⟨S1,h3,h5,Fp hl h4⟩⟩
theorem VG(hN:P.funcs.size=N)(hm:P.follows .mixedOrders=true){l:List Oper}{id:Nat}{γ:Fr}{O:Sig}(ord E C K:List Nat)(B:Sig->Prop)(hB:Dj l.toArray E C K ord=true)(hC:B O)
  {lp:List (Bool×Bool×Bool×Oper)} (aW:Ln l E C K ord=some lp) (h0:MOI P ro n l.toArray N Q df lp B γ O):DWp P ro n (.region id l.toArray true) Q ⟨γ,O,df⟩:=by
 intro g w a r hr hs
 refine wpIn_region_any hm ?_
 have ak:Closed l.toArray (Array.replicate l.toArray.size false):=by
  intro q o _ hq
  rcases Nat.lt_or_ge q l.length with h'|h'
  ·simp[h']at hq
  ·simp[h']at hq
 have ah:SimS P g n ⟨γ,O,df⟩ a { w with drawn:=w.drawn+1 }:=
  ⟨⟨fun b o v h=>hs.sim.imm b o v h,hs.sim.keep,fun i o h=>by
   have:=hs.sim.obj i o h
   cases o<;>exact this,hs.sim.inj,hs.sim.free,hs.sim.htop,hs.sim.hdom,hs.sim.fin,hs.sim.io,hs.sim.tab⟩,hs.tmps,hs.df⟩
 have aq:∀i∈ord,i<l.toArray.size:=by
  intro i hi
  obtain⟨p1,p2,hp⟩:=List.append_of_mem hi
  have aj:=hB
  unfold Dj at aj
  simp only[Bool.and_eq_true]at aj
  rw[hp]at aj
  obtain⟨_,_,_,o',aw,_⟩:=Dt p1 [] aj.1.1
  exact(Array.getElem?_eq_some_iff.1 aw).1
 have hlen:ord.length=l.toArray.size:=by
  have aj:=hB
  unfold Dj at aj
  simp only[Bool.and_eq_true,beq_iff_eq]at aj
  exact aj.2
 have:=QZ hN hB hr ord.length ord (Array.replicate l.toArray.size false) B γ O rfl (by simp) (DV aq).symm ak (Fp aW h0) hC g _ a (.refl g) ah
 rw[hlen]at this
 exact this
theorem OA(ht:Ba P tab){e c k:Bool}{t:Nat}{op:Op}{ty:TypeId}{pos:String}{after:Array Edge}{d:D}{l:List (Bool×Bool×Bool×Oper)}{γ Sr:Fr}{O:Sig}(hr:DO op=true)(aG:decide (t<n)=true)(hl:A3 γ (A9 op.operands.toList)=some Sr)(hd:∀s,(c=true->B s)->dopX tab Sr s op=some d)
  (h:MOI P ro n ops N Q df l B ((t,d)::γ) O):MOI P ro n ops N Q df ((e,c,k,⟨some t,op,ty,pos,after,none⟩)::l) B γ O:=by
 refine .inl ⟨d,fun s hs=>?_,h⟩
 have aM:=(BQ (CD hl)) ▸ hd s hs
 refine⟨aG,.inl ⟨by rw[Ap];rfl,Cu hr,JQ ht aM,fun U' hZ g w a hs hT=>?_⟩⟩
 refine FM ht hs hT (?_:dopX tab (only _ γ) U' op=some d)
 rw[BQ (V':=γ) fun x hx=>BO (o:=⟨some t,op,ty,pos,after,none⟩) hx]
 exact FN hZ aM
theorem Re(ht:Ba P tab){c k:Bool}{o:Oper}{d:D}{U':Sig}{l:List (Bool×Bool×Bool×Oper)}{γ:Fr}{O:Sig}(B1:Sig->Prop)(ho:Aq n o=true)(hw:AB ops γ o=some true)(he:eopD tab γ O o.op=some (d,U'))(hC:B1 U')(hk:k=false->B1=B)
  (h:MOI P ro n ops N Q df l B1 (putD o.dst d γ) U'):MOI P ro n ops N Q df ((true,c,k,o)::l) B γ O:=by
 refine .inr ⟨rfl,ho,by rw[Ap];exact hw,?_⟩
 refine G4 ht (by rw[Ap];exact hw) (by rw[Bv (V':=γ) fun x hx=>BO hx];exact he) ho (Ax ⟨rfl,?_⟩)
 cases hd:o.dst with
 |none=>rw[hd]at h;exact⟨B1,hC,hk,h⟩
 |some t=>
  rw[hd]at h
  simp only[putD,A6,if_true]
  exact⟨B1,hC,hk,h⟩
theorem moI_1{c k:Bool}{t:Nat}{op:Op}{ty:TypeId}{pos:String}{after:Array Edge}{l:List (Bool×Bool×Bool×Oper)}{γ:Fr}{O:Sig}(B1:Sig->Prop)(hk:k=false->B1=B)(h:∀U2,(∀x∈op.operands,ev U2 x=ev γ x)->DOps P ro n ops (EQ df (some t) (fun d U'=>B1 U'/\MOI P ro n ops N Q df l B1 ((t,d)::γ) U') (fun d U'=> ∀V',Q (.panic d) ⟨V',U',df⟩)) [⟨some t,op,ty,pos,after,none⟩] ⟨U2,O,df⟩)(aG:decide (t<n)=true)(hw:AB ops (only (Oper.looksAt ops ⟨some t,op,ty,pos,after,none⟩) γ) ⟨some t,op,ty,pos,after,none⟩=some true):MOI P ro n ops N Q df ((true,c,k,⟨some t,op,ty,pos,after,none⟩)::l) B γ O:=
 .inr ⟨rfl,aG,hw,N9 (h _ fun x hx=>BO (o:=⟨some t,op,ty,pos,after,none⟩) hx) fun x s hq=>by
  cases x with
  |normal=>exact⟨hq.1,⟨B1,hq.2.1,hk,hq.2.2⟩⟩
  |panic d=>exact hq
  |_=>exact hq⟩
end
section
variable {P:Program}{ro:Ro}{n:Nat}{ops:Array Oper}{Q:DX->St->Prop}{rest:List Oper}{tab:Nat->Ty}{γ:List (Nat×D)}{O:Sig}{df:List DDf}
variable (ht:Ba P tab)
include ht
theorem VH{t T T' ty e:Nat}{x:Operand}{s:List UInt8}{pos:String}{after:Array Edge}{gd:Option (Nat×Bool)}
  (h:DOps P ro n ops Q rest ⟨(t,.str s)::γ,O,df⟩) (hw:AB ops γ ⟨some t,.convert T T' x,ty,pos,after,gd⟩=some true) (aG:t<n) (hk:(tab T).k=.slice e) (aQ:(tab T').k=.str) (bq:(tab e).k=.int .u8) (h1:esOf (ev γ x)=some (s.map fun b=>[D.int .u8 (b.toNat:Int)])) :
  DOps P ro n ops Q (⟨some t,.convert T T' x,ty,pos,after,gd⟩::rest) ⟨γ,O,df⟩:=by
 refine C5 (fun d U'=>d=.str s/\U'=O) hw (fun c e=>by cases e) (Ad fun c e=>by cases e) (by simp[Aq,aG]) ?_
  (fun d U' ⟨a2,a3⟩=>by subst a2 a3;exact h)
 intro g w a hs hT
 have bA:=Am hT x
 obtain⟨xa,xc,q1,q2,q3⟩:=Ck h1 bA
 obtain⟨vs,v1,v2,v3⟩:=Cb hs (sz:=1) (fun c hc=>by obtain⟨b,_,rfl⟩:=List.mem_map.1 hc;rfl) q3
 have bf:(convert T T' (a.eval x)).run P w=.ok (.string ⟨s.toArray⟩) w:=by
  rw[q1]
  cases xa with
  | none =>
   have bD:s=[]:=by
    rcases v3 with h|⟨b,o,h,_⟩
    ·simpa using h
    ·cases h
   subst bD
   exact run_convert_bytes_nil w T e (AG ht hk) (Ny ht bq) _ _ T' (IL ht aQ)
  | some ad =>
   rw[List.length_map]
   refine run_convert_bytes_back w T T' e ad xc s (AG ht hk) (Ny ht bq) (IL ht aQ) fun j hj=>?_
   rcases v3 with h|⟨b,o,h,hc⟩
   ·rw[List.length_map]at h;omega
   ·cases h
    have bM:∀l:List UInt8,(l.map fun b=>[D.int .u8 (b.toNat:Int)]).flatten=l.map fun b=>D.int .u8 (b.toNat:Int):=fun l=>by
     induction l with
     |nil=>rfl
     |cons y l ih=>rw[List.map_cons,List.flatten_cons,ih];rfl
    rw[bM]at v1
    have hg:=RepL.get v1 j
    rw[List.getElem?_map,List.getElem?_eq_getElem hj]at hg
    have br:j<vs.length:=by rw[v2,List.length_map];omega
    rw[List.getElem?_eq_getElem br]at hg
    simp only[Option.map_some]at hg
    have:=hc j _ (List.getElem?_eq_getElem br)
    rw[show vs[j]=.int .u8 ((s[j]).toNat:Int) from Bb hg]at this
    have aO:(⟨b,o,none⟩:Addr).add j=⟨b,o+j,none⟩:=by unfold Addr.add;split<;>simp_all
    rw[aO]
    exact this
 exact⟨g,w,.string ⟨s.toArray⟩,.str s,O,by simp only[execOp];rw[Sem.run_bind,bf];rfl,.refl g,hs,rfl,rfl,rfl⟩
end
def byteD(b:UInt8):List D:=[D.int .u8 (b.toNat:Int)]
@[simp] theorem byteD_len(b:UInt8):(byteD b).length=1:=rfl
theorem IP(l:List UInt8):Lib.strCells ⟨l.toArray⟩=l.map fun b=>Value.int .u8 (b.toNat:Int):=by simp[Lib.strCells]
theorem Qg(l:List UInt8):ByteArray.size ⟨l.toArray⟩=l.length:=by simp[ByteArray.size]
section
variable {P:Program}{T T' ty e:TypeId}{i:TypeInfo}{z:Value}(ht:P.underlying T=some (.slice e))(be:P.underlying T'=some .string)(hi:P.info? e=some i)
include ht be hi
theorem Fi{w w2:World}{base:Option Addr}{n cap:Nat}{s:ByteArray}(aJ:n+s.size<=cap)
  (bC:∀a,base=some a->(storeCells (a.add (n*i.size)) (Lib.strCells s)).run P w=.ok () w2) (bF:base=none->w2=w) :
  (Builtin.append_ #[T,T'] ty #[.slice base n cap,.string s]).run P w=.ok (.slice base (n+s.size) cap) w2:=by
 have bw:=Lib.run_firstCells_string (P:=P) w i.size s
 cases base with
 |none=>simp[Builtin.append_,run_underlying ht,run_underlying be,sizeOf,typeInfo,hi,Builtin.lenOf,aJ,bw,bF rfl]
 |some a=>simp[Builtin.append_,run_underlying ht,run_underlying be,sizeOf,typeInfo,hi,Builtin.lenOf,aJ,bw,bC a rfl]
theorem Ip(hz:i.zero=some z){w:World}{base:Option Addr}{n cap:Nat}{s:ByteArray}{olds:List Value}
  (bK:(Builtin.firstCells i.size n (.slice base n cap)).run P w.drew=.ok olds.toArray w.drew)
  (hg:cap<n+s.size) (bP:n+s.size<=9223372036854775807) (bk:(n+s.size)*i.bytes<=140737488355328) :
  ∃c,n+s.size<=c/\(Builtin.append_ #[T,T'] ty #[.slice base n cap,.string s]).run P w =
   .ok (.slice (some ⟨w.heap.size,0,none⟩) (n+s.size) c) { w.drew with heap:=w.heap.push (.cells (olds++Lib.strCells s++(Builtin.zeroCells z.cells (c-(n+s.size))).toList).toArray e (0,0)) }:=by
 refine⟨grownCap w (n+s.size) cap e,grownCap_ge w (n+s.size) cap e,?_⟩
 have bL:=Lib.run_firstCells_string (P:=P) w.drew i.size s
 have hn:¬(n+s.size<=cap):=by omega
 have bl:¬(9223372036854775807<((n:Int)+(s.size:Int))):=by omega
 have hf:=growslice_fits hg bk
 have bm:¬(281474976710656<Builtin.nextslicecap (n+s.size) cap*i.bytes):=by omega
 simp[Builtin.append_,run_underlying ht,run_underlying be,sizeOf,typeInfo,zeroValue,hi,hz,Builtin.lenOf,hn,bl,bm,Question.forced,bK,bL,newRow,grownCap]
 have e':∀Z:Array Value,olds.toArray++((Lib.strCells s).toArray++Z)=(olds++(Lib.strCells s++Z.toList)).toArray:=fun Z=>by apply Array.ext';simp
 rw[e']
 rfl
end
end Go.DL
