/- Part of a proof in texts M01 on: a layer of pure values over the fenced walk, the walks of the functions, the plain laws. -/
import Derived.Test.YtlfimpogphmbdaaGreatM20
import Derived.Test.YtlfimpogphmbdaaGreatM10
import Derived.Test.YtlfimpogphmbdaaGreatM15
import Derived.Test.YtlfimpogphmbdaaGreatM14
import Derived.Test.YtlfimpogphmbdaaGreatM18
import Derived.Test.YtlfimpogphmbdaaGreatM19
set_option linter.all false
namespace Go.DL
open Go.Proofs.Tryz
open Go Go.Proofs
set_option maxHeartbeats 8000000
theorem PY {S:Type} (l:List Int) (lb:Nat) (u:D) (Good:Sig->S->Prop) (Bad:Sig->Prop) (touch:Nat->Prop) (step:Int->S->S) (hl:l.length<=1073741824)
  (hy : ∀ (k:Nat) (hk:k < l.length) σ s,Good σ s->DYield prog lb [dI k,dI l[k]] σ (OutO u (.bool true) Good Bad touch σ (some (step l[k] s)))) (σ:Sig) (s:S) (hG:Good σ s) :
  DCall prog 152 [.yld lb, .cptr [sl (cI l)] 0] σ (OutO u (.tup []) Good Bad touch σ (some (l.foldr step s))):=by
 refine en func152 ntmps152 ?_
 try refine gz ?_
 refine EV [0,1] (fun (k:Nat) (s1:S) (σ1:Sig)=>k<=l.length/\Good σ1 s1/\l.foldr step s=(l.take k).foldr step s1/\(∀ j o,σ j=some o -> ¬ touch j->σ1 j=some o)) (fun k _ _=>[(3,dI ((k:Int)-1))]) (fun _ _ σ1=>σ1) (fun k _ _=>k) (l.length) (s) (σ) (by exact ⟨by omega,hG,by simp,fun _ _ h _=>h⟩) (fun k s1 σ1 hI => ?_)
 obtain ⟨hk,hG1,hR,hK⟩:=hI
 cases k with
 | zero =>
  try refine gz ?_
  refine DM (σ':=σ1) ?_
  exact ⟨rfl,by rw [hR];exact hG1,hK⟩
 | succ k =>
  have hkl:k < l.length:=by omega
  have e:((k+1:Nat):Int)-1=k:=by omega
  rw [List.take_succ_eq_append_getElem hkl,List.foldr_append] at hR
  try refine gf e ?_
  refine yldW (hy k hkl σ1 s1 hG1) (fun d σ' hr => ?_) (fun d σ' hr=>by obtain ⟨h,_⟩:=hr.pan;cases h)
  obtain ⟨s2,hs2,rfl,hG2,hK2⟩:=hr.ret
  cases hs2
  try refine gf e ?_
  exact ⟨k,_,σ',⟨by omega,hG2,hR,fun j o h1 h2=>hK2 j o (hK j o h1 h2) h2⟩,td1,wkR⟩
theorem TZ (l:List Int) (σ:Sig):DCall prog 64 [sl (cI l)] σ fun x σ'=>x = .ret (.func (.func 152) [] [.cptr [sl (cI l)] 0])/\σ'=σ:=by
 refine en func64 ntmps64 ?_
 try refine gz ?_
 exact fe1 trivial
@[reducible,instance] def a64:=fun l σ=>ah0 (@TZ l σ)
def Bq:List Init->List (Int × Int)->List (Int × Int)
 | [],m=>m
 | x::r,m=>Bq r (putM x.slot x.n m)
def D4 (p:BProg) (c:Int) (m:List (Int × Int)):List (Int × Int):=if 3<=c then Bq (((p.classes[(c-3).toNat]?).map (·.inits)).getD []) m else m
def De (p:BProg) (order:List Int):List (Int × Int):=order.foldr (D4 p) []
def En (m:List (Int × Int)):List Int->List Init
 | []=>[]
 | s::r=>if hasM s m then ⟨s,getM 0 s m⟩::En m r else En m r
def beginP (p:BProg) (c:Int):List Init:=En (De p (linF (p.classes.map (·.parents)) c)) (hasP p c)
theorem GK {p:BProg} : ∀ {cs:List BClass} {i:Nat},AH p i cs=true -> ∀ k,k < cs.length->linE (p.classes.map (·.parents)) (((i+k:Nat):Int)+3)=0
 | c::r,i,h,0,_=>by rw [AH] at h;simp only [Bool.and_eq_true,decide_eq_true_eq] at h;exact h.1.1
 | c::r,i,h,k+1,hk=>by
  rw [AH] at h;simp only [Bool.and_eq_true,decide_eq_true_eq] at h
  have:=GK h.2 k (by simpa using hk)
  rw [show i+(k+1)=i+1+k by omega];exact this
theorem QM {p:BProg} (h:okP p=true) {c:Int} (h1:3<=c) (h2:c < 3+p.classes.length):linE (p.classes.map (·.parents)) c=0/\AT (p.classes.map (·.parents))=true:=by
 have h:=Cp h
 unfold Ag at h
 simp only [Bool.and_eq_true,decide_eq_true_eq] at h
 obtain ⟨_,h⟩:=h
 split at h
 ·cases h
 ·simp only [Bool.and_eq_true,decide_eq_true_eq] at h
  have:=GK h.2 (c-3).toNat (by omega)
  rw [show (((0+(c-3).toNat:Nat):Int)+3)=c by omega] at this
  exact ⟨this,h.1.2⟩
theorem Mg {P:Program} {n:Nat} {fn:Func} {R:DE->Sig->Prop} {γ:List (Nat × D)} {σ σ':Sig} {d d':D} (js:List Nat) (hR:R (.ret d') σ') (hσ:Sub σ' (dels js σ)) (hn:js.Nodup:=by simp) (hd : ∀ j ∈ js,σ j=some .defs:=by simp) (h:resD fn γ=some d:=by with_unfolding_all rfl) (hw:WkD d d') : ∃ s',Wk P n ⟨γ,σ,js.map .coll⟩ s'/\Ql P n fn (Weak R) .ret s' :=
 ⟨_,Wk.refl _ _ _,js,rfl,hn,hd,d,Ex h, .ret d',σ',hw,hσ,hR⟩
theorem GQ (p:BProg) (c:Int) (σ:Sig) (hp:p.wt<=1073741824:=by exact sd):DCall prog 25 [.agg (Af p),dI c] σ fun x σ'=>x = .ret (.tup [sl ((if ownF p c && okP p then beginP p c else []).map Cm),dI (if ownF p c && okP p then 0 else 2)])/\σ'=σ:=by
 obtain ⟨p1,p2,p3,p4,p5,p6,p7⟩:=p.wt_le
 have hwc : ∀ c ∈ p.classes,c.parents.length<=1073741824/\c.slots.length<=1073741824/\c.inits.length<=1073741824:=fun c hc=>by
  obtain ⟨k,hk,rfl⟩:=List.getElem_of_mem hc
  have:=p5 k hk
  unfold BClass.wt at this;omega
 have hwp : ∀ c ∈ p.classes,c.parents.length<=1073741824:=fun c hc=>(hwc c hc).1
 have hwg : ∀ x ∈ p.classes.map (·.parents),x.length<=1073741824:=fun x hx=>by obtain ⟨c,hc,rfl⟩:=List.mem_map.1 hx;exact (hwc c hc).1
 refine B3 func25 rfl (by decide) ntmps25 (by simp) ?_
 cases hk:ownF p c && okP p
 ·try refine gf hk ?_
  refine Mg [] (σ':=σ) ⟨rfl,rfl⟩ (Sub.refl _) (hw := ?_)
  exact H4 ⟨At _ (.inl rfl),A9 _,trivial⟩
 ·have ho:3<=c/\c < 3+p.classes.length:=by simp only [ownF,Bool.and_eq_true,decide_eq_true_eq] at hk;exact hk.1
  have hok:okP p=true:=by simp only [Bool.and_eq_true] at hk;exact hk.2
  obtain ⟨h1,h2⟩:=ho
  obtain ⟨hlin,hgood⟩:=QM hok h1 h2
  have hlm:linF (p.classes.map (·.parents)) c=lineF (p.classes.map (·.parents)) c:=by
   unfold linF;rw [if_pos ⟨hgood,by omega,by rw [List.length_map];omega⟩]
  have hmem : ∀ y ∈ linF (p.classes.map (·.parents)) c,0<=y/\y < 3+p.classes.length:=fun y hy=>by
   rw [hlm] at hy
   obtain ⟨x,hx,hy⟩:=CT hy
   have:=CS hgood _ x hx y hy
   rw [List.length_map] at this;omega
  have hll:(linF (p.classes.map (·.parents)) c).length<=80000000:=by rw [hlm];exact BI hgood (Nat.le_refl _) (by omega)
  have hhl:=DG p c
  have ws:=Ep p
  try refine gf (gi hk hlin) ?_
  refine newIN (fun im him => ?_)
  try refine gf (gi hk hlin) ?_
  refine Kp (u:=unf) (fun did σ' m=>σ' im=some (.map (eIN m))/\Keep (· = im) ((σ.set im (.map (eIN []))).set did .defs) σ') (fun did σ'=>False) (· = im) (some (De p (linF (p.classes.map (·.parents)) c))) rfl (fun l did hd hl hld LO hLO => ?_) (fun l did m σ' ho hd hl hld hG => ?_) (fun did σ' ho hd hb=>hb.elim)
  ·refine PY (linF (p.classes.map (·.parents)) c) l unf _ _ _ (D4 p) (by omega) (fun k hk σ1 m1 hG => ?_) _ [] ?_
   ·obtain ⟨hl1,hm1,hK1⟩:=hG
    refine E4 hLO hl1 ?_
    clear hLO
    try refine gz ?_
    refine ⟨hl1, ?_⟩
    have hy:=hmem _ (List.getElem_mem hk)
    generalize (linF (p.classes.map (·.parents)) c)[k]=y at *
    have hli:l ≠ im:=fun e=>by rw [e,w7] at hl;cases hl
    have hmi:(σ1.set l (BY LO)) im=some (.map (eIN m1)):=by rw [w8 _ _ (Ne.symm hli)];exact hm1
    have hfin : ∀ m,(((σ1.set l (BY LO)).set im (.map (eIN m))) l=some (BY LO))/\((((σ1.set l (BY LO)).set im (.map (eIN m))).set l LO) l=some LO/\(((σ1.set l (BY LO)).set im (.map (eIN m))).set l LO) im=some (.map (eIN m))/\Keep (· = im) ((σ.set im (.map (eIN []))).set did .defs) (((σ1.set l (BY LO)).set im (.map (eIN m))).set l LO))/\Keep (· = im) σ1 (((σ1.set l (BY LO)).set im (.map (eIN m))).set l LO):=fun m=>by
     have hK2:Keep (· = im) σ1 (((σ1.set l (BY LO)).set im (.map (eIN m))).set l LO):=fun j o h1 h2=>by
      by_cases hj:j=l
      ·rw [hj] at h1 ⊢; rw [w7, <- h1,hl1]
      ·rw [w8 _ _ hj,w8 _ _ h2,w8 _ _ hj];exact h1
     exact ⟨by rw [w8 _ _ hli,w7],⟨w7 .., by rw [w8 _ _ (Ne.symm hli),w7],hK1.trans hK2⟩,hK2⟩
    rw [<- Sig.set_self _ hmi]
    by_cases hy3:3<=y
    ·obtain ⟨q,rfl⟩ : ∃ q:Nat,y=3+(q:Int):=⟨(y-3).toNat,by omega⟩
     have hq:q < p.classes.length:=by omega
     have hst:D4 p (3+q) m1=Bq (p.classes[q]).inits m1:=by
      unfold D4;rw [if_pos (by omega),show (3+(q:Int)-3).toNat=q by omega,List.getElem?_eq_getElem hq];rfl
     rw [hst]
     have hinl:=(hwc _ (List.getElem_mem hq)).2.2
     generalize hin:(p.classes[q]).inits=ins' at *
     have hq3:3+(q:Int)-3=q:=by omega
     try refine gf (gi hq3 hin) ?_
     refine AJ [1,2,4,5,8,13,15,16,17,45,46,57,58,59,60,61,62,63,64,65,66,67,68,69,70,71,72,73,74,75,76,77,78,79,80] (fun (j:Nat) (m:List (Int × Int))=>j<=ins'.length/\Bq ins' m1=Bq (ins'.drop j) m) (fun j _=>[(47,dI j)]) (fun _ m=>(σ1.set l (BY LO)).set im (.map (eIN m))) (fun j _=>ins'.length-j) (0) (m1) (by simp) (fun j m hI => ?_)
     obtain ⟨hj,hJ⟩:=hI
     by_cases hjl:j < ins'.length
     ·rw [A2 hjl,Bq] at hJ
      try refine gf hin ?_
      exact ⟨j+1,_,⟨by omega,hJ⟩,td1,wkR⟩
     ·rw [A1 hjl,Bq] at hJ
      try refine gf hin ?_
      rw [hJ]
      exact ⟨(hfin m).1,rfl,(hfin m).2⟩
    ·have hst:D4 p y m1=m1:=by unfold D4;rw [if_neg hy3]
     rw [hst]
     try refine gz ?_
     exact ⟨(hfin m1).1,rfl,(hfin m1).2⟩
   ·have hli:im ≠ l:=fun e=>by rw [<- e,w7] at hl;cases hl
    have hdi:im ≠ did:=fun e=>by rw [<- e,w7] at hd;cases hd
    exact ⟨w7 .., by rw [w8 _ _ hli,w8 _ _ hdi,w7],(Keep.refl _ _).fresh (by rw [w8 _ _ hld];exact hl)⟩
  ·cases ho
   have hli:im ≠ l:=fun e=>by rw [<- e,w7] at hl;cases hl
   have hdi:im ≠ did:=fun e=>by rw [<- e,w7] at hd;cases hd
   have hmd:(σ'.del l) im=some (.map (eIN (De p (linF (p.classes.map (·.parents)) c)))):=by simp only [Sig.del,hli,if_false];exact hG.1
   have hdd:(σ'.del l) did=some .defs:=by simp only [Sig.del,Ne.symm hld,if_false];exact hG.2 did _ (w7 ..) (Ne.symm hdi)
   have hbeg:beginP p c=En (De p (linF (p.classes.map (·.parents)) c)) (hasP p c):=rfl
   have hfr : ∀ j o,σ j=some o->(σ'.del l) j=some o/\j ≠ did:=fun j o h=>by
    have e1:j ≠ im:=fun e=>by rw [e,him] at h;cases h
    have e2:j ≠ did:=fun e=>by rw [e] at h;rw [w8 _ _ (Ne.symm hdi),h] at hd;cases hd
    have e3:j ≠ l:=fun e=>by rw [e] at h;rw [w8 _ _ (Ne.symm hli),h] at hl;cases hl
    refine ⟨?_,e2⟩
    simp only [Sig.del,e3,if_false]
    exact hG.2 j o (by rw [w8 _ _ e2,w8 _ _ e1];exact h) e1
   generalize De p (linF (p.classes.map (·.parents)) c)=m at *
   generalize hhe:hasP p c=hs' at *
   try refine gf hhe ?_
   refine BD 13 2 (fun ix hix => ?_)
   have hxi:im ≠ ix:=fun e=>by rw [<- e,hmd] at hix;cases hix
   have hxd:did ≠ ix:=fun e=>by rw [<- e,hdd] at hix;cases hix
   refine AJ [4,5,8,59,60,79,80] (fun (k:Nat) (out:List Init)=>k<=hs'.length/\out.length<=k/\En m hs'=out++En m (hs'.drop k)) (fun k out=>[(61,dI k),(13, .slice (out.map Cm) (.tag ix))]) (fun _ out=>(σ'.del l).set ix (.tail 2 out.length)) (fun k _=>hs'.length-k) (0) ([]) (by simp) (fun k out hI => ?_)
   obtain ⟨hk,hlen,hR⟩:=hI
   by_cases hkl:k < hs'.length
   ·rw [A2 hkl,En] at hR
    repeat' first | refine gf (gi hmd (gi hxi hhe)) ?_ | apply gy<;>intro hh
    ·rw [hh,if_pos rfl] at hR
     exact ⟨k+1,out++[⟨hs'[k],getM 0 hs'[k] m⟩],⟨by omega,by simp;omega,by rw [hR];simp⟩,td1,wkR⟩
    ·rw [hh,if_neg (by simp)] at hR
     exact ⟨k+1,out,⟨by omega,by omega,hR⟩,td1,wkR⟩
   ·rw [A1 hkl,En,List.append_nil] at hR
    try refine gf (gi hmd (gi hxi hhe)) ?_
    refine Mg [did] (σ':=σ) (d' := .tup [sl ((beginP p c).map Cm),dI 0]) ⟨by rw [if_pos rfl,if_pos rfl],rfl⟩ (fun j o h => ?_) (hd := ?_) (hw := ?_)
    ·obtain ⟨h1,h2⟩:=hfr j o h
     simp only [dels,List.foldl_cons,List.foldl_nil,Sig.del,h2,if_false]
     rw [w8 _ _ fun e=>by rw [e,hix] at h1;cases h1]
     exact h1
    ·simp only [List.mem_singleton,forall_eq]
     rw [w8 _ _ hxd];exact hdd
    ·rw [hbeg,hR]
     exact H4 ⟨B4 _ _,A9 _,trivial⟩
@[reducible,instance] def a25:=fun p c σ=>ah1 (@GQ p c σ)
def isLD:DObj->Bool
 | .loop .. | .defs=>true
 | _=>false
theorem IK {LO:DObj} {ps:Array Tmp} {asg body:Code} {n:Nat} {γl:List (Nat × D)} {did:Nat} (h:LO = .loop .ready none ps asg body n γl did):isLD LO=true/\isLD (BY LO)=true:=by subst h;exact ⟨rfl,rfl⟩
def MonoG {S:Type} (G:Sig->S->Prop):Prop := ∀ σ σ' s,G σ s->(∀ j x,σ j=some x->isLD x=false->σ' j=some x)->G σ' s
def Indep {S:Type} (G:Sig->S->Prop) (σ0:Sig):Prop := ∀ l,σ0 l=none -> ∀ σ1 σ2 s,G σ1 s->(∃ x,σ1 l=some x/\isLD x=true)->(∀ j,j ≠ l->σ2 j=σ1 j)->G σ2 s
def O2 {S:Type} (G:Sig->S->Prop):Prop := ∀ σ s a o,G σ s->σ a=none->G (σ.set a o) s
theorem MonoG.indep {S:Type} {G:Sig->S->Prop} (h:MonoG G) (σ0:Sig):Indep G σ0:=fun l _ σ1 σ2 s hG ⟨x,hx,hl⟩ hj=>h _ _ _ hG fun j y hy hd=>by
 rw [hj j fun e=>by rw [e,hx] at hy;cases hy;rw [hl] at hd;cases hd];exact hy
theorem MonoG.fresh {S:Type} {G:Sig->S->Prop} (h:MonoG G):O2 G:=fun σ s a o hG ha=>h _ _ _ hG fun j y hy _=>by
 rw [w8 _ _ fun e=>by rw [e,ha] at hy;cases hy];exact hy
theorem Indep.older {S:Type} {G:Sig->S->Prop} {σ0 σ1:Sig} (h:Indep G σ0) (hs : ∀ j,σ1 j=none->σ0 j=none):Indep G σ1:=fun l hl=>h l (hs l hl)
def GoodG {S:Type} (l:Nat) (LO:DObj) (G:Sig->S->Prop) (touch:Nat->Prop) (base:Sig):Sig->S->Prop:=fun σ' s=>σ' l=some LO/\G σ' s/\Keep touch base σ'
theorem GoodG.new {S:Type} {l:Nat} {LO:DObj} {G:Sig->S->Prop} {touch:Nat->Prop} {base σ:Sig} {s:S} {a:Nat} {o:DObj} (hm:O2 G) (h:GoodG l LO G touch base σ s) (ha:σ a=none):GoodG l LO G touch base (σ.set a o) s:=by
 have ne : ∀ j x,σ j=some x->j ≠ a:=fun j x hj e=>by rw [e,ha] at hj;cases hj
 obtain ⟨h1,h2,h3⟩:=h
 exact ⟨by rw [w8 _ _ (ne _ _ h1)];exact h1,hm _ _ _ _ h2 ha,fun j x hj ht=>by
  have:=h3 j x hj ht
  rw [w8 _ _ (ne _ _ this)];exact this⟩
theorem GoodG.indep {S:Type} {l:Nat} {LO:DObj} {G:Sig->S->Prop} {touch:Nat->Prop} {base σ0:Sig} {s0:S} (h0:GoodG l LO G touch base σ0 s0) (hi:Indep G σ0):Indep (GoodG l LO G touch base) σ0:=fun k hk σ1 σ2 s hG hx hj=>by
 have hlk:l ≠ k:=fun e=>by have:=h0.1;rw [e,hk] at this;cases this
 refine ⟨by rw [hj l hlk];exact hG.1,hi k hk _ _ _ hG.2.1 hx hj,fun j x hb hn => ?_⟩
 rw [hj j fun e=>by have:=h0.2.2 j x hb hn;rw [e,hk] at this;cases this]
 exact hG.2.2 j x hb hn
theorem Iu {P:Program} {n:Nat} {Q:DX->St->Prop} {γ:List (Nat × D)} {σ:Sig} {df:List DDf} {gop:Operand} {ps:Array Tmp} {asg body:Code} {f:Nat} {first cap:List D} {S:Type} (u:D) (G:Sig->S->Prop) (touch tp:Nat->Prop) (o:Option S) (s0:S)
  (hm:Indep G σ) (hf':O2 G) (h0:G σ s0) (ht : ∀ j,touch j->σ j ≠ none) (htp : ∀ j,tp j->σ j ≠ none) (hf:ev γ gop = .func (.func f) first cap)
  (hcall : ∀ l did LO σL,LO=DObj.loop .ready none ps asg body n γ did->σ did=none->(σ.set did .defs) l=none -> ¬ touch l->σL=(σ.set did .defs).set l LO->GoodG l LO G touch (σ.set did .defs) σL s0->(∀ a,σL a=none -> ¬ touch a) ->
   DCall P f (first++[.yld l]++cap) σL (OutO u (.tup []) (GoodG l LO G touch (σ.set did .defs)) (Keep tp (σ.set did .defs)) touch σL o))
  (hret : ∀ did s σ',o=some s->σ did=none->σ' did=some .defs->G σ' s->(∀ j x,σ j=some x -> ¬ touch j->σ' j=some x/\j ≠ did)->Q .normal ⟨γ,σ', .coll did::df⟩)
  (hpan : ∀ did σ',o=none->σ did=none->σ' did=some .defs->(∀ j x,σ j=some x -> ¬ tp j->σ' j=some x/\j ≠ did)->Q (.panic u) ⟨γ,σ', .coll did::df⟩) :
  DWp P none n (.rangeFunc gop ps asg body) Q ⟨γ,σ,df⟩:=by
 have dne : ∀ {did:Nat},σ did=none -> ∀ j x,σ j=some x->j ≠ did:=fun hd j x hj e=>by rw [e,hd] at hj;cases hj
 refine EH (R:=fun l did=>OutO u (.tup []) (GoodG l (DObj.loop .ready none ps asg body n γ did) G touch (σ.set did .defs)) (Keep tp (σ.set did .defs)) touch ((σ.set did .defs).set l (DObj.loop .ready none ps asg body n γ did)) o) hf (fun l did hd hl hld => ?_) (fun l did d σ' hd hl hld hr => ?_) (fun l did d σ' hd hl hld hr => ?_)
 ·have hl':(σ.set did .defs) l=none:=by first | exact hl | (rw [w8 _ _ hld];exact hl)
  have hl0:σ l=none:=by rw [w8 _ _ hld] at hl';exact hl'
  refine hcall l did _ _ rfl hd hl' (fun h=>ht _ h hl0) rfl ⟨w7 .., hf' _ _ _ _ (hf' _ _ _ _ h0 hd) hl',fun j x hj hn => ?_⟩ fun a ha h=>ht a h ?_
  ·rw [w8 _ _ fun e=>by rw [e,hl'] at hj;cases hj];exact hj
  ·by_cases e1:a=l
   ·rw [e1,w7] at ha;cases ha
   ·rw [w8 _ _ e1] at ha
    by_cases e2:a=did
    ·rw [e2,w7] at ha;cases ha
    ·rw [w8 _ _ e2] at ha;exact ha
 ·have hl':(σ.set did .defs) l=none:=by first | exact hl | (rw [w8 _ _ hld];exact hl)
  have hl0:σ l=none:=by rw [w8 _ _ hld] at hl';exact hl'
  obtain ⟨s,hs,rfl,⟨hl2,hG1,hK⟩,_⟩:=hr.ret
  have hdt : ¬ touch did:=fun h=>ht _ h hd
  have dl : ∀ j,j ≠ l->(σ'.del l) j=σ' j:=fun j h=>by simp only [Sig.del,h,if_false]
  refine ⟨_,_,hl2,by simp,hret did s _ hs hd ?_ ?_ fun j x hj hn=>⟨?_,dne hd j x hj⟩⟩
  ·rw [dl _ (Ne.symm hld)];exact hK did _ (w7 ..) hdt
  ·exact hm l hl0 _ _ _ hG1 ⟨_,hl2,rfl⟩ fun j hj=>dl j hj
  ·rw [dl _ (dne hl0 j x hj)];exact hK j x (by rw [w8 _ _ (dne hd j x hj)];exact hj) hn
 ·obtain ⟨hn,rfl,hb⟩:=hr.pan
  exact hpan did σ' hn hd (hb did _ (w7 ..) fun h=>htp _ h hd) fun j x hj hn=>⟨hb j x (by rw [w8 _ _ (dne hd j x hj)];exact hj) hn,dne hd j x hj⟩
section
variable {S:Type} {l:Nat} {LO:DObj} {G:Sig->S->Prop} {touch:Nat->Prop} {base σ1 σ2:Sig} {s s':S} {u:D} {step:Option S} {γ:List (Nat × D)} {df:List DDf} {ps:Array Tmp} {asg body:Code} {n:Nat} {γl:List (Nat × D)} {did:Nat} {Good:Sig->S->Prop} {Bad:Sig->Prop}
theorem Ht (hst:step=some s') (hLO:LO = .loop .ready none ps asg body n γl did) (hm:Indep G base) (hG:GoodG l LO G touch base σ1 s) (hl : ¬ touch l) (hbl:base l=none) (hG2:G σ2 s') (hK:Keep touch (σ1.set l (BY LO)) σ2) :
  Pd l LO (OutO u (.bool true) (GoodG l LO G touch base) Bad touch σ1 step) .normal ⟨γ,σ2,df⟩:=by
 subst hst
 have h2:σ2 l=some (BY LO):=hK l _ (w7 ..) hl
 have hk1:Keep touch σ1 (σ2.set l LO):=fun j x hj hn=>by
  by_cases e:j=l
  ·rw [e,hG.1] at hj;rw [e,w7];exact hj
  ·rw [w8 _ _ e];exact hK j x (by rw [w8 _ _ e];exact hj) hn
 exact ⟨h2,rfl,⟨w7 .., hm l hbl _ _ _ hG2 ⟨_,h2,(IK hLO).2⟩ fun j hj=>w8 _ _ hj,hG.2.2.trans hk1⟩,hk1⟩
theorem Jx (hst:step=none) (hB:Bad σ2):Pd l LO (OutO u (.bool true) Good Bad touch σ1 step) (.panic u) ⟨γ,σ2,[]⟩:=by
 subst hst
 exact ⟨rfl,rfl,hB⟩
theorem GoodG.bad {tp:Nat->Prop} (hG:GoodG l LO G touch base σ1 s) (hbl:base l=none) (ht : ∀ j,touch j->tp j) (hK:Keep tp (σ1.set l (BY LO)) σ2):Keep tp base σ2:=fun j x hj hn =>
 hK j x (by rw [w8 _ _ fun e=>by rw [e,hbl] at hj;cases hj];exact hG.2.2 j x hj fun h=>hn (ht j h)) hn
theorem R7 {tp:Nat->Prop} {o:DObj} (hK:Keep tp (σ1.set l o) σ2):Keep (fun j=>tp j\/j=l) σ1 σ2:=fun j x hj hn =>
 hK j x (by rw [w8 _ _ fun e=>hn (.inr e)];exact hj) fun h=>hn (.inl h)
theorem OutO.bad {r:D} {Good:Sig->S->Prop} {Bad Bad':Sig->Prop} {σ σ':Sig} {o:Option S} {x:DE} (h:OutO u r Good Bad touch σ o x σ') (hb:Bad σ'->Bad' σ'):OutO u r Good Bad' touch σ o x σ':=by
 cases o with
 | none=>exact ⟨h.1,hb h.2⟩
 | some s=>exact h
theorem GoodG.busy (hLO:LO = .loop .ready none ps asg body n γl did) (hm:Indep G base) (hbl:base l=none) (hG:GoodG l LO G touch base σ1 s):G (σ1.set l (BY LO)) s :=
 hm l hbl _ _ _ hG.2.1 ⟨_,hG.1,(IK hLO).1⟩ fun j hj=>w8 _ _ hj
end
section
variable {P:Program} {ro:Option Nat} {n:Nat} {ops:Array Oper} {N:Nat} {σ0:Sig} {Q:DX->St->Prop} {df:List DDf} {rest:List Oper} {γ γr:List (Nat × D)} {σ:Sig} {t:Nat} {ty:TypeId} {pos:String} {after:Array Edge} {l:List (Bool × Oper)} {d:D}
theorem yldWG {j:Nat} {want:Bool} {k:Nat} {fop:Operand} {args:Array Operand} {ats:Array TypeId} {l:Nat} {us:List D} {R:DE->Sig->Prop} {dst:Option Tmp} (h:DYield P l us σ R) (hret : ∀ d σ',R (.ret d) σ'->DOps P ro n ops Q rest ⟨putD dst d γ,σ',df⟩) (hpan : ∀ d σ',R (.panic d) σ'->Q (.panic d) ⟨γ,σ',df⟩)
  (hk:(ops[j]?).bind (·.dst)=some k:=by with_unfolding_all rfl) (hb:γ.lookup k=some (.bool want):=by with_unfolding_all rfl) (hl:A4 γ (A6 (fop::args.toList))=some γr:=by with_unfolding_all rfl) (hf:ev γr fop = .yld l:=by with_unfolding_all rfl) (ha:args.toList.map (ev γr)=us:=by (simp (disch:=first | omega | assumption) [Am,big1,big2,w8]<;>(try simp only [B9,Ba,AP,B8,Az,AS,AR,AQ,AO,Ay,AN,AM,AL])<;>with_unfolding_all rfl))
  (ho:Av n ⟨dst, .call { callee := .value fop,args,argTypes:=ats },ty,pos,after,some (j,want)⟩=true:=by with_unfolding_all rfl) :
  DOps P ro n ops Q (⟨dst, .call { callee := .value fop,args,argTypes:=ats },ty,pos,after,some (j,want)⟩::rest) ⟨γ,σ,df⟩:=by
 have hx : ∀ x ∈ fop::args.toList,ev γr x=ev γ x:=fun x hx=>BL fun t ht=>AI hl t (AY (by rw [<- ht];exact hx))
 refine Kq (by simp only [AE,BT hk hb];simp) (by rw [<- hx fop (by simp)];exact hf) ?_ ho hret hpan
 rw [show args.toList.map (ev γ)=args.toList.map (ev γr) from List.map_congr_left fun x h=>(hx x (by simp [h])).symm,ha]
 exact h
end
theorem IW {P:Program} {n:Nat} {fn:Func} {R:DE->Sig->Prop} {γ:List (Nat × D)} {σ σ':Sig} {d:D} (js:List Nat) (hR:R (.panic d) σ') (hσ:Sub σ' (dels js σ)) (hn:js.Nodup:=by simp) (hd : ∀ j ∈ js,σ j=some .defs:=by simp) : ∃ s',Wk P n ⟨γ,σ,js.map .coll⟩ s'/\Ql P n fn (Weak R) (.panic d) s' :=
 ⟨_,Wk.refl _ _ _,js,rfl,hn,hd, .panic d,σ',A9 _,hσ,hR⟩
theorem FA {σ σ':Sig} {did:Nat} (h : ∀ j x,σ j=some x->σ' j=some x/\j ≠ did):Sub σ (dels [did] σ'):=fun j x hj=>by
 obtain ⟨h1,h2⟩:=h j x hj
 simp only [dels,List.foldl_cons,List.foldl_nil,Sig.del,h2,if_false];exact h1
section
variable {P:Program} {ro:Option Nat} {n:Nat} {Q:DX->St->Prop} {df:List DDf} {γ:List (Nat × D)} {σ:Sig}
theorem loopD4 {γk:List (Nat × D)} {α β δ ε:Type} {c:Code} (keep:List Nat) (I:α->β->δ->ε->Prop) (ov:α->β->δ->ε->List (Nat × D)) (sg:α->β->δ->ε->Sig) (dg:α->β->δ->ε->List DDf) (μ:α->β->δ->ε->Nat) (x0:α) (y0:β) (z0:δ) (u0:ε) (h0:I x0 y0 z0 u0)
  (round : ∀ x y z u,I x y z u->DWp P ro n c (Then (fun s' => ∃ x' y' z' u',I x' y' z' u'/\μ x' y' z' u' < μ x y z u/\Wk P n s' ⟨ov x' y' z' u'++γk,sg x' y' z' u',dg x' y' z' u'⟩) Q) ⟨ov x y z u++γk,sg x y z u,dg x y z u⟩) (hk:DD γ keep=some γk:=by with_unfolding_all rfl) (h1:TellsR γ (ov x0 y0 z0 u0++γk):=by (first | refine Gl ?_ ?_ | skip)<;>(repeat' first | exact Gk | refine Fz (by with_unfolding_all rfl) ?_ ?_ | (first | exact A9 _ | exact B4 _ _ | exact At _ (.inl rfl) | exact DV _ | (refine Ib _ ?_;first | omega | (simp;done) | (simp;omega)) | (refine B5 ?_;(simp;done)) | (refine B5 ?_;(simp [cI,cS,cII,Dn,Cn,EJ];done)) | (refine Dy _ ?_;(simp [cI,cS,cII];done)) | (refine B5 ?_;(simp_all;done)) | assumption))) (h2:Sub (sg x0 y0 z0 u0) σ:=by first | exact Sub.refl _ | (refine Bl ?_;simp;done) | assumption | exact (Sub.refl _).set (by assumption)) (h3:dg x0 y0 z0 u0=df:=by rfl):DWp P ro n (.loop c) Q ⟨γ,σ,df⟩:=by
 subst h3
 refine P1 (fun x:{x:α × β × δ × ε // I x.1 x.2.1 x.2.2.1 x.2.2.2}=>⟨ov x.1.1 x.1.2.1 x.1.2.2.1 x.1.2.2.2++γk,sg x.1.1 x.1.2.1 x.1.2.2.1 x.1.2.2.2,dg x.1.1 x.1.2.1 x.1.2.2.1 x.1.2.2.2⟩) (fun x=>μ x.1.1 x.1.2.1 x.1.2.2.1 x.1.2.2.2) ⟨(x0,y0,z0,u0),h0⟩ (KF h1 h2) fun x=>EI (round x.1.1 x.1.2.1 x.1.2.2.1 x.1.2.2.2 x.2) ?_
 intro e s h
 cases e with
 | normal=>obtain ⟨x',y',z',u',h3,h4,h5⟩:=h;exact ⟨⟨(x',y',z',u'),h3⟩,h4,h5⟩
 | _=>exact h
end
theorem Jd : ∀ (js:List Nat) (σ:Sig) (j:Nat),j ∉ js->dels js σ j=σ j
 | [],_,_,_=>rfl
 | i::r,σ,j,h=>by
  simp only [List.mem_cons,not_or] at h
  simp only [dels,List.foldl_cons]
  rw [show List.foldl Sig.del (σ.del i) r=dels r (σ.del i) from rfl,Jd r _ j h.2]
  simp only [Sig.del,h.1,if_false]
theorem Tg {σ σ':Sig} {js:List Nat} (h:Sub σ σ') (hj : ∀ j ∈ js,σ j=none):Sub σ (dels js σ'):=fun j x hx=>by
 rw [Jd js σ' j fun hm=>by rw [hj j hm] at hx;cases hx];exact h j x hx
def RowAt (σ:Sig) (sz:Nat):MR->List (List D)->Prop
 | none,es=>es=[]
 | some (i,cap,rest),es=>σ i=some (.cells (es.flatten++rest))/\(es.flatten++rest).length=cap*sz/\es.length<=cap /\ ∀ e ∈ es,e.length=sz
def C4:MR->Nat->Prop
 | none,_=>False
 | some (i,_,_),j=>j=i
theorem RowAt.cells {σ:Sig} {sz:Nat} {st:MR} {es:List (List D)} (h:RowAt σ sz st es) {j:Nat} (hj:C4 st j) : ∃ cs,σ j=some (.cells cs):=by
 cases st with
 | none=>exact hj.elim
 | some x=>cases hj;exact ⟨_,h.1⟩
theorem RowAt.keep {σ σ':Sig} {sz:Nat} {st:MR} {es:List (List D)} (h:RowAt σ sz st es) (hk : ∀ j o,σ j=some o->C4 st j->σ' j=some o):RowAt σ' sz st es:=by
 cases st with
 | none=>exact h
 | some x=>exact ⟨hk _ _ h.1 rfl,h.2⟩
theorem RowAt.mS {σ:Sig} {sz:Nat} {st:MR} {es:List (List D)} (h:RowAt σ sz st es) : ∃ σ',σ=mS σ' st es/\mOK σ' sz st es/\(∀ j o,σ j=some o -> ¬ C4 st j->σ' j=some o) /\ ∀ j o,σ' j=some o->σ j=some o /\ ¬ C4 st j:=by
 cases st with
 | none=>exact ⟨σ,rfl,h,fun j o h _=>h,fun j o h=>⟨h,id⟩⟩
 | some x =>
  obtain ⟨i,cap,rest⟩:=x
  obtain ⟨h1,h2,h3,h4⟩:=h
  refine ⟨σ.del i, ?_,⟨by simp [Sig.del],h2,h3,h4⟩,fun j o hj hn => ?_,fun j o hj => ?_⟩
  ·funext j
   simp only [DL.mS,Sig.set,Sig.del]
   by_cases e:j=i
   ·subst e;simp [h1]
   ·simp [e]
  ·have:j ≠ i:=hn
   simp only [Sig.del,this,if_false];exact hj
  ·by_cases e:j=i
   ·simp [Sig.del,e] at hj
   ·simp only [Sig.del,e,if_false] at hj;exact ⟨hj,e⟩
theorem Od {σ:Sig} {sz:Nat} {st:MR} {es:List (List D)} (h:mOK σ sz st es):RowAt (mS σ st es) sz st es:=by
 cases st with
 | none=>exact h
 | some x=>obtain ⟨i,cap,rest⟩:=x;exact ⟨w7 .., h.2⟩
def RowK (σ:Sig) (st:MR) (σ':Sig) (st':MR):Prop := ∀ j o,σ j=some o -> ¬ C4 st j->σ' j=some o /\ ¬ C4 st' j
theorem RowK.refl (σ:Sig) (st:MR):RowK σ st σ st:=fun j o h hn=>⟨h,hn⟩
theorem RowK.trans {σ σ1 σ2:Sig} {st st1 st2:MR} (h:RowK σ st σ1 st1) (k:RowK σ1 st1 σ2 st2):RowK σ st σ2 st2:=fun j o hj hn=>k _ _ (h j o hj hn).1 (h j o hj hn).2
theorem QE {σ:Sig} {sz:Nat} {st st':MR} {es es':List (List D)} (h:RowAt σ sz st es) {σ1:Sig} (h1:mOK σ1 sz st' es') (hk : ∀ j o,σ j=some o -> ¬ C4 st j->σ1 j=some o):RowK σ st (mS σ1 st' es') st':=fun j o hj hn=>by
 have hj1:=hk j o hj hn
 have hr : ¬ C4 st' j:=by
  cases st' with
  | none=>exact id
  | some x =>
   obtain ⟨i,cap,rest⟩:=x
   intro e
   have e:j=i:=e
   rw [e,h1.1] at hj1;cases hj1
 exact ⟨R3 h1 hj1,hr⟩
section
variable {ro:Option Nat} {n:Nat} {ops:Array Oper} {N:Nat} {σ0:Sig} {Q:DX->St->Prop} {df:List DDf} {rest:List Oper} {γ γr:List (Nat × D)} {σ:Sig} {t:Nat} {ty:TypeId} {pos:String} {after:Array Edge} {d:D}
theorem rapp {T T' e e' sz:Nat} {s x:Operand} {es new:List (List D)} {st:MR} (h : ∀ st' σ',RowAt σ' sz st' (es++new)->RowK σ st σ' st'->DOps prog ro n ops Q rest ⟨(t,mD st' (es.length+new.length))::γ,σ',df⟩) (hm:RowAt σ sz st es:=by assumption)
  (hl:A4 γ (A6 [s,x])=some γr:=by with_unfolding_all rfl) (hk:(tab T).k = .slice e:=by (simp<;>rfl)) (hk':(tab T').k = .slice e':=by (simp<;>rfl)) (he:A5 (tab e).k=false:=by simp) (hsz:(tab e).size=sz:=by simp)
  (h1:ev γr s=mD st es.length:=by first | with_unfolding_all rfl | (simp [ev,getD,List.lookup];done)) (h2:esOf (ev γr x)=some new:=by (simp<;>with_unfolding_all rfl))
  (hlen' : ∀ c ∈ new,c.length=sz:=by first | exact BR _ | exact DN _ | exact BA _ | simp) (hfl : ∀ c ∈ new,CB c=true:=by simp [cI,cS,cII,CB,D.flat])
  (hb:(es.length+new.length)*(tab e).bytes<=140737488355328:=by first | (simp;done) | (simp;omega)) (hm2:es.length+new.length<=9223372036854775807:=by first | (simp;done) | (simp;omega)) (htn:decide (t < n)=true:=by with_unfolding_all rfl) :
  DOps prog ro n ops Q (⟨some t, .call { callee := .builtin .append,args := #[s,x],argTypes := #[T,T'] },ty,pos,after,none⟩::rest) ⟨γ,σ,df⟩:=by
 obtain ⟨e1,e2⟩:=evs hl
 obtain ⟨σ1,rfl,hm1,hk1,hk2⟩:=hm.mS
 exact Ja Ad (by simpa using htn) hk hk' he hsz (by rw [<- e1];exact h1) hm1 (by rw [<- e2];exact h2) hlen' hfl hb hm2 (fun st' h'=>by rw [List.length_append];exact h st' _ (Od h') (QE hm h' hk1))
theorem moRapp {T T' e e' sz:Nat} {s x:Operand} {es new:List (List D)} {st:MR} {l:List (Bool × Oper)} (h : ∀ st' σ',RowAt σ' sz st' (es++new)->RowK σ st σ' st'->MO prog ro n ops N σ0 Q df l ((t,mD st' (es.length+new.length))::γ) σ') (hC : ∀ j o,σ0 j=some o->σ j=some o /\ ¬ C4 st j) (hm:RowAt σ sz st es:=by assumption)
  (hl:A4 γ (A6 [s,x])=some γr:=by with_unfolding_all rfl) (hk:(tab T).k = .slice e:=by (simp<;>rfl)) (hk':(tab T').k = .slice e':=by (simp<;>rfl)) (he:A5 (tab e).k=false:=by simp) (hsz:(tab e).size=sz:=by simp)
  (h1:ev γr s=mD st es.length:=by first | with_unfolding_all rfl | (simp [ev,getD,List.lookup];done)) (h2:esOf (ev γr x)=some new:=by (simp<;>with_unfolding_all rfl))
  (hlen' : ∀ c ∈ new,c.length=sz:=by first | exact BR _ | exact DN _ | exact BA _ | simp) (hfl : ∀ c ∈ new,CB c=true:=by simp [cI,cS,cII,CB,D.flat])
  (hb:(es.length+new.length)*(tab e).bytes<=140737488355328:=by first | (simp;done) | (simp;omega)) (hm2:es.length+new.length<=9223372036854775807:=by first | (simp;done) | (simp;omega)) (htn:decide (t < n)=true:=by with_unfolding_all rfl) :
  MO prog ro n ops N σ0 Q df ((true,⟨some t, .call { callee := .builtin .append,args := #[s,x],argTypes := #[T,T'] },ty,pos,after,none⟩)::l) γ σ :=
 mo1 (fun γ2 hx=>by
  obtain ⟨e1,e2⟩:=Lv hl hx
  obtain ⟨σ1,rfl,hm1,hk1,hk2⟩:=hm.mS
  refine Ja Ad (by simpa using htn) hk hk' he hsz (by rw [e1];exact h1) hm1 (by rw [e2];exact h2) hlen' hfl hb hm2 (fun st' h' => ?_)
  have hK:=QE hm h' hk1
  refine Be ⟨rfl, ?_⟩
  simp only [A7,if_true]
  exact ⟨fun j o hj=>(hK j o (hC j o hj).1 (hC j o hj).2).1,by rw [List.length_append];exact h st' _ (Od h') hK⟩) htn
end
noncomputable def Sig.out (σ:Sig) (touch:Nat->Prop):Sig:=open Classical in fun j=>if touch j then none else σ j
theorem CR (σ:Sig) (touch:Nat->Prop):Sub (σ.out touch) σ:=fun j o h=>by
 unfold Sig.out at h;split at h
 ·cases h
 ·exact h
theorem Fd {σ:Sig} {touch:Nat->Prop} {j:Nat} {o:DObj} (h:(σ.out touch) j=some o):σ j=some o /\ ¬ touch j:=by
 unfold Sig.out at h;split at h
 ·cases h
 ·exact ⟨h,by assumption⟩
theorem HA {σ:Sig} {touch:Nat->Prop} {j:Nat} {o:DObj} (h:σ j=some o) (ht : ¬ touch j):(σ.out touch) j=some o:=by
 unfold Sig.out;rw [if_neg ht];exact h
section
variable {P:Program} {ro:Option Nat} {n:Nat} {Q:DX->St->Prop} {γ:List (Nat × D)} {σ:Sig} {df:List DDf}
theorem dwp_cut1 {x1 b:Code} (ov:List (Nat × D)) (σ':Sig) (h2:DWp P ro n b Q ⟨ov++γ,σ',df⟩) (h1 : ∀ b,DWp P ro n b Q ⟨ov++γ,σ',df⟩->DWp P ro n (.seq x1 b) Q ⟨γ,σ,df⟩):DWp P ro n (.seq x1 b) Q ⟨γ,σ,df⟩:=h1 b h2
theorem BH {γ':List (Nat × D)} {σ':Sig} (h:TellsS γ [] γ') (hσ:Sub σ' σ):Wk P n ⟨γ,σ,df⟩ ⟨γ',σ',df⟩:=(EY h hσ).2
end
section
variable {P:Program} {ro:Option Nat} {n:Nat} {ops:Array Oper} {Q:DX->St->Prop} {df:List DDf} {rest:List Oper} {γ:List (Nat × D)} {σ:Sig}
theorem mixT {lo:List Oper} {id:Nat} (k:Nat) (ord E:List Nat) {lp:List (Bool × Oper)} {ls:List Oper} (h:MO prog ro n lo.toArray 334 σ (Then (fun s=>DOps prog ro n lo.toArray Q ls s) Q) df lp γ σ) (hB:ND lo.toArray E ord k=true:=by kernel_rfl) (hls:lo.drop k=ls:=by with_unfolding_all rfl) (hl:Ga lo E ord=some lp:=by with_unfolding_all rfl):DWp prog ro n (.region id lo.toArray true) Q ⟨γ,σ,df⟩:=by
 subst hls;exact Uh Ak mixed k ord E σ hB (Sub.refl _) hl h
theorem ent3 {t1 t2 T id:Nat} {x:Operand} {s:ByteArray} {v:Int} {ty1 ty2 ty3:TypeId} {p1 p2 p3:String} {f1 f2 f3:Array Edge} {m:List (Str × Int)}
  (h:DOps prog ro n ops Q rest ⟨(t2, .any)::(t1, .any)::γ,σ.set id (.map (eSN (putM s.data.toList v m))),df⟩) (hσ:σ id=some (.map (eSN m)):=by first | assumption | exact w7 ..) (hm:ev γ x = .map id:=by with_unfolding_all rfl) (hT:T=158:=by rfl) (ht1:decide (t1 < n)=true:=by with_unfolding_all rfl) (ht2:decide (t2 < n)=true:=by with_unfolding_all rfl) (hx1:x ≠ .tmp t1:=by simp) (hx2:x ≠ .tmp t2:=by simp) :
  DOps prog ro n ops Q (⟨some t1, .mapEntry T x (.const (.string s)),ty1,p1,f1,none⟩::⟨some t2, .extract (.tmp t1) 1,ty2,p2,f2,none⟩::⟨none, .entryStore T x (.tmp t2) (.const (.int .i64 v)),ty3,p3,f3,none⟩::rest) ⟨γ,σ,df⟩:=by
 subst hT
 exact NS (tab:=tab) (kt:=9) (et:=3) (l:=eSN m) (zd:=dI 0) Ad rfl rfl rfl rfl hm hσ (putSN _ _ _) (by simpa using ht1) (by simpa using ht2) hx1 hx2 (by simp) (by simp) h
end
section
variable {ro:Option Nat} {n:Nat} {ops:Array Oper} {N:Nat} {σ0:Sig} {Q:DX->St->Prop} {df:List DDf} {rest:List Oper} {γ γr:List (Nat × D)} {σ:Sig} {t:Nat} {ty:TypeId} {pos:String} {after:Array Edge} {l:List (Bool × Oper)} {d:D} {ef:Bool}
theorem moQAppC {s x:Operand} {T T' e e':Nat} {es new:List (List D)} (k1:MO prog ro n ops N σ0 Q df l ((t, .slice (es++new) .no)::γ) σ) (hl:A4 γ (A6 [s,x])=some γr:=by with_unfolding_all rfl) (hk:(tab T).k = .slice e:=by (simp<;>rfl)) (hk':(tab T').k = .slice e':=by (simp<;>rfl)) (he:A5 (tab e).k=false:=by simp)
  (h1:ev γr s = .slice es .clip:=by with_unfolding_all rfl) (h2:esOf (ev γr x)=some new:=by (simp<;>with_unfolding_all rfl))
  (hlen : ∀ c ∈ es,c.length=(tab e).size:=by first | exact BR _ | exact DN _ | exact BA _ | simp) (hlen' : ∀ c ∈ new,c.length=(tab e).size:=by first | exact BR _ | exact DN _ | exact BA _ | simp)
  (hb:(es.length+new.length)*(tab e).bytes<=140737488355328:=by first | (simp;done) | (simp;omega)) (hm:es.length+new.length<=9223372036854775807:=by first | (simp;done) | (simp;omega)) (htn:decide (t < n)=true:=by with_unfolding_all rfl) :
  MO prog ro n ops N σ0 Q df ((ef,⟨some t, .call { callee := .builtin .append,args := #[s,x],argTypes := #[T,T'] },ty,pos,after,none⟩)::l) γ σ:=by
 have hop : ∀ y ∈ (Op.call { callee := .builtin .append,args := #[s,x],argTypes := #[T,T'] }).operands,ev (only (Oper.looksAt ops ⟨some t, .call { callee := .builtin .append,args := #[s,x],argTypes := #[T,T'] },ty,pos,after,none⟩) γ) y=ev γ y:=fun y hy=>CX (o:=⟨some t, .call { callee := .builtin .append,args := #[s,x],argTypes := #[T,T'] },ty,pos,after,none⟩) hy
 have hx : ∀ y ∈ [s,x],ev γr y=ev γ y:=fun y hy=>BL fun t ht=>AI hl t (AY (by rw [<- ht];exact hy))
 refine Oo (.slice (es++new) .no) htn rfl (by rw [Bp];rfl) (fun σ' hσ' ro' df' => ?_) k1
 have a1:ev (only (Oper.looksAt ops ⟨some t, .call { callee := .builtin .append,args := #[s,x],argTypes := #[T,T'] },ty,pos,after,none⟩) γ) s = .slice es .clip:=by rw [hop s (by simp [Op.operands,Call.operands]), <- hx s (by simp)];exact h1
 have a2:esOf (ev (only (Oper.looksAt ops ⟨some t, .call { callee := .builtin .append,args := #[s,x],argTypes := #[T,T'] },ty,pos,after,none⟩) γ) x)=some new:=by rw [hop x (by simp [Op.operands,Call.operands]), <- hx x (by simp)];exact h2
 by_cases hne:new=[]
 ·subst hne
  refine Dd Ad (es:=es) (by rw [Bp];rfl) (by simpa using htn) hk hk' he (by rw [a1];rfl) a2 ?_
  rw [a1]
  exact BM (Bw (t:=t) (d := .slice (es++[]) .no) (by simp only [A7,if_true,List.append_nil];exact B4 _ _)) (Be ⟨rfl,by simp only [A7,if_true],Sub.refl _⟩)
 ·exact BQ Ad (by rw [Bp];rfl) (by simpa using htn) hk hk' he a1 a2 hne hlen hlen' hb hm fun i hi=>BM (Bw (t:=t) (d := .slice (es++new) .no) (by simp only [A7,if_true];exact B4 _ _)) (Be ⟨rfl,by simp only [A7,if_true],(Sub.refl _).set hi⟩)
end
theorem dwp_cutE3 {P:Program} {ro:Option Nat} {n:Nat} {Q:DX->St->Prop} {γ:List (Nat × D)} {σ:Sig} {df:List DDf} {x1 x2 x3 b:Code} (C:Nat->Prop) (ov:Nat->List (Nat × D)) (σ':Nat->Sig) (h2 : ∀ i,C i->DWp P ro n b Q ⟨ov i,σ' i,df⟩) (h1 : ∀ b,(∀ i,C i->DWp P ro n b Q ⟨ov i,σ' i,df⟩)->DWp P ro n (.seq x1 (.seq x2 (.seq x3 b))) Q ⟨γ,σ,df⟩):DWp P ro n (.seq x1 (.seq x2 (.seq x3 b))) Q ⟨γ,σ,df⟩:=h1 b h2
def cB8 (s:Str):List (List D):=s.map fun b=>[D.int .u8 (b.toNat:Int)]
@[simp] theorem cB8_len (l:Str):(cB8 l).length=l.length:=by simp [cB8]
@[simp] theorem cB8_mem (l:Str) : ∀ c ∈ cB8 l,c.length=1:=by simp [cB8]
section
variable {ro:Option Nat} {n:Nat} {ops:Array Oper} {Q:DX->St->Prop} {df:List DDf} {rest:List Oper} {γ γr:List (Nat × D)} {σ:Sig} {t:Nat} {ty:TypeId} {pos:String} {after:Array Edge} {gd:Option (Nat × Bool)}
theorem strR {T T' e:Nat} {x:Operand} (s:Str) (h:DOps prog ro n ops Q rest ⟨(t, .str s)::γ,σ,df⟩) (hl:A4 γ (A6 [x])=some γr:=by with_unfolding_all rfl) (hx:esOf (ev γr x)=some (cB8 s):=by with_unfolding_all rfl) (hw:AE ops γ ⟨some t, .convert T T' x,ty,pos,after,gd⟩=some true:=by with_unfolding_all rfl) (htn:decide (t < n)=true:=by with_unfolding_all rfl)
  (hk:(tab T).k = .slice e:=by (simp<;>rfl)) (hk':(tab T').k = .str:=by (simp<;>rfl)) (hke:(tab e).k = .int .u8:=by (simp<;>rfl)) :
  DOps prog ro n ops Q (⟨some t, .convert T T' x,ty,pos,after,gd⟩::rest) ⟨γ,σ,df⟩:=Uj Ad h hw (by simpa using htn) hk hk' hke (by rw [<- BJ hl];exact hx)
theorem skpV {P:Program} {j:Nat} {want:Bool} {k:Nat} {fop:Operand} {args:Array Operand} {ats:Array TypeId} (h:DOps P ro n ops Q rest ⟨(t, .tup [])::γ,σ,df⟩) (hk:(ops[j]?).bind (·.dst)=some k:=by with_unfolding_all rfl) (hb:γ.lookup k=some (.bool (!want)):=by with_unfolding_all rfl) (hl:A4 γ (A6 [fop])=some γr:=by with_unfolding_all rfl) (hf:ev γr fop = .tup []:=by with_unfolding_all rfl) (htn:decide (t < n)=true:=by with_unfolding_all rfl) :
  DOps P ro n ops Q (⟨some t, .call { callee := .value fop,args,argTypes:=ats },ty,pos,after,some (j,want)⟩::rest) ⟨γ,σ,df⟩:=by
 intro g w a r hr hs'
 have hw':AE ops γ ⟨some t, .call { callee := .value fop,args,argTypes:=ats },ty,pos,after,some (j,want)⟩=some false:=by simp only [AE,BT hk hb];simp
 have he:=Ao hs'.tmps fop
 rw [BJ hl] at hf
 rw [hf] at he
 obtain ⟨vs,hv,hr0⟩:=he
 obtain rfl:vs=[]:=hr0
 unfold wpListIn
 rw [AA hs'.tmps hw',if_neg (by simp)]
 refine ⟨fun f hf => ?_,h g w _ r hr ?_⟩
 ·unfold Oper.about at hf
  simp [resolve,hv,Deferred.ofValue,stuck,Sem.run] at hf
 ·exact hs'.put (g':=g) (o:=⟨some t, .call { callee := .value fop,args,argTypes:=ats },ty,pos,after,some (j,want)⟩) (d := .tup []) (.refl g) hs'.sim ⟨[],rfl,rfl⟩ htn
end
theorem bytesR {ro:Option Nat} {n:Nat} {ops:Array Oper} {Q:DX->St->Prop} {df:List DDf} {rest:List Oper} {γ γr:List (Nat × D)} {σ:Sig} {t:Nat} {ty:TypeId} {pos:String} {after:Array Edge} {T T' e:Nat} {x:Operand} {s:Str}
  (h:DOps prog ro n ops Q rest ⟨(t, .slice (s.map fun b=>[D.int .u8 (b.toNat:Int)]) .no)::γ,σ,df⟩) (hl:A4 γ (A6 [x])=some γr:=by with_unfolding_all rfl) (hx:ev γr x = .str s:=by with_unfolding_all rfl) (htn:decide (t < n)=true:=by with_unfolding_all rfl)
  (hk:(tab T).k = .str:=by (simp<;>rfl)) (hk':(tab T').k = .slice e:=by (simp<;>rfl)) (hke:(tab e).k = .int .u8:=by (simp<;>rfl)) :
  DOps prog ro n ops Q (⟨some t, .convert T T' x,ty,pos,after,none⟩::rest) ⟨γ,σ,df⟩:=Qe Ad h (by simpa using htn) hk hk' hke (by rw [<- BJ hl];exact hx)
theorem Pp {l:List Str} (h:l.Nodup) {k:Nat} (hk:k < l.length) : ¬ l[k] ∈ l.take k:=fun hm=>by
 obtain ⟨j,hj,e⟩:=List.getElem_of_mem hm
 rw [List.length_take] at hj
 rw [List.getElem_take] at e
 have:=(List.pairwise_iff_getElem.1 h) j k (by omega) hk (by omega)
 exact this e
theorem Ke (σ:Sig):DCall prog 240 [] σ fun x σ' => ∃ im,σ im=none/\x = .ret (.map im)/\σ'=σ.set im (.map (eSS kwds)):=by
 have hkw:kwds.length=24:=rfl
 have hnd:kwds.Nodup:=by decide
 refine en func240 ntmps240 ?_
 refine gz ?_
 refine KU (fun im him => ?_)
 refine gz ?_
 refine rtw 5 (sl (cS kwds)) ?_ (hw:=B4 _ _)
 refine Bh [0,1,5,6,14] (fun (k:Nat)=>k<=kwds.length) (fun k=>[(7,dI k)]) (fun k=>σ.set im (.map (eSS (kwds.take k)))) (fun k=>kwds.length-k) (0) (by simp) (fun k hI => ?_)
 by_cases h:k < kwds.length
 ·have hq:ins kwds[k] (kwds.take k)=kwds.take (k+1):=by unfold ins;rw [if_neg (Pp hnd h),AF h]
  refine gf hq ?_
  exact ⟨k+1,by omega,td1,wkR⟩
 ·refine gz ?_
  refine fin1 (σ':=σ.set im (.map (eSS kwds))) ?_ (hσ:=by rw [List.take_of_length_le (by omega)];exact Sub.refl _)
  exact ⟨im,him,rfl,rfl⟩
theorem Kf (s:Str) (im:Nat) (σ:Sig) (hm:σ im=some (.map (eSS kwds))) (hl:s.length<=1073741824):DCall prog 239 [.str s, .map im] σ fun x σ'=>x = .ret (.bool (Cj s))/\σ'=σ:=by
 refine en func239 ntmps239 ?_
 repeat' first | refine gf hm ?_ | apply gy<;>intro hh
 ·(refine fin1 (σ':=σ) ?_;exact ⟨by first | rfl | (simp [Cj,hh];done) | (simp_all [Cj,hh];done) | (rw [Aa,Bool.eq_iff_iff];simp_all [Cj,hh]<;>omega),rfl⟩)
 ·any_goals (first | (refine fin1 (σ':=σ) ?_;exact ⟨by first | rfl | (simp [Cj];done) | (simp_all [Cj];done) | (rw [Aa,Bool.eq_iff_iff];simp_all [Cj]<;>omega),rfl⟩) | fail)
 ·any_goals (first | (refine fin1 (σ':=σ) ?_;exact ⟨by first | rfl | (simp [Cj];done) | (simp_all [Cj];done) | (rw [Aa,Bool.eq_iff_iff];simp_all [Cj]<;>omega),rfl⟩) | fail)
 ·rename_i e1 e2
  have hk : ¬ s ∈ kwds:=hh
  refine bytesR ?_
  refine gz ?_
  refine Bh [20,21] (fun (k:Nat)=>k<=s.length/\s.all GI=(s.drop k).all GI) (fun k=>[(22,dI k)]) (fun _=>σ) (fun k=>s.length-k) (0) (by simp) (fun k hI => ?_)
  obtain ⟨hkl,hR⟩:=hI
  by_cases h:k < s.length
  ·rw [A2 h,List.all_cons] at hR
   repeat' first | refine gz ?_ | apply gy<;>intro hh
   ·have hn:GI s[k]=false:=by unfold GI;simp;omega
    rw [hn] at hR
    (refine fin1 (σ':=σ) ?_;exact ⟨by first | rfl | (simp [Cj,hR];done) | (simp_all [Cj,hR];done) | (rw [Aa,Bool.eq_iff_iff];simp_all [Cj,hR]<;>omega),rfl⟩)
   ·have hn:GI s[k]=false:=by unfold GI;simp;omega
    rw [hn] at hR
    (refine fin1 (σ':=σ) ?_;exact ⟨by first | rfl | (simp [Cj,hR];done) | (simp_all [Cj,hR];done) | (rw [Aa,Bool.eq_iff_iff];simp_all [Cj,hR]<;>omega),rfl⟩)
   ·have hn:GI s[k]=true:=by unfold GI;simp;omega
    exact ⟨k+1,⟨by omega,by rw [hR,hn];rfl⟩,td1,wkR⟩
  ·rw [A1 h] at hR
   have h1:1<=s.length:=by cases s with | nil=>exact absurd rfl e1 | cons _ _=>simp
   have hN:Cj s=true:=by unfold Cj;rw [hR,decide_eq_true (by omega),decide_eq_false (by assumption)];rfl
   repeat' first | refine gz ?_ | apply gy<;>intro hh
   any_goals (first | exact fe1 hN | fail)
theorem S8 (s:Str) (σ:Sig) (hl:s.length<=1073741824):DCall prog 188 [.str s] σ fun x σ'=>x = .ret (.bool (Cj s))/\σ'=σ:=by
 refine en func188 ntmps188 ?_
 refine gz ?_
 refine Ab (Ke σ) (fun d σ' hr => ?_) (fun d σ' hr=>by obtain ⟨_,_,h,_⟩:=hr;cases h)
 obtain ⟨im,him,h1,rfl⟩:=hr
 simp only [DE.ret.injEq] at h1
 subst h1
 repeat' first | refine gz ?_ | refine An (Kf s im _ (w7 ..) hl) ?_ | refine callP (Kf s im _ (w7 ..) hl) ?_ | refine gz ?_ | apply gy<;>intro hh
 exact fe1 trivial
@[reducible,instance] def a188:=fun s σ=>ah1 (@S8 s σ)
theorem Ej (s:Str) (im:Nat) (t:List Str) (σ:Sig) (hm:σ im=some (.map (eSS t))) (hl:s.length<=1073741824) :
  DCall prog 189 [.str s, .map im] σ fun x σ'=>(Cj s && !decide (s ∈ t))=true/\x = .ret (.tup [])/\σ'=σ.set im (.map (eSS (t++[s])))\/(Cj s && !decide (s ∈ t))=false/\x = .panic unf2/\σ'=σ:=by
 refine en func189 ntmps189 ?_
 by_cases hs:s ∈ t
 ·have hc:(Cj s && !decide (s ∈ t))=false:=by simp [hs]
  rw [hc]
  repeat' first | refine gf (gi hm hs) ?_ | apply gy<;>intro hh
  all_goals
   refine finP (σ':=σ) ?_
   exact .inr ⟨rfl,rfl,rfl⟩
 ·cases hn:Cj s
  ·refine gf (gi hm (gi hs hn)) ?_
   refine finP (σ':=σ) ?_
   exact .inr ⟨rfl,rfl,rfl⟩
  ·have hq:ins s t=t++[s]:=by unfold ins;rw [if_neg hs]
   refine gf (gi hm (gi hs (gi hn hq))) ?_
   refine DM (σ':=σ.set im (.map (eSS (t++[s])))) ?_
   exact .inl ⟨by simp [hs],rfl,rfl⟩
end Go.DL
