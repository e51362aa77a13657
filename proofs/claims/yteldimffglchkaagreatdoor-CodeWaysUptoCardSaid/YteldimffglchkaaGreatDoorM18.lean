/- A part of the proof. -/
import Derived.Test.YteldimffglchkaaGreatDoorM16
import Derived.Test.YteldimffglchkaaGreatDoorM17
set_option linter.all false
namespace Go.DL
open Go.Proofs.Tryz
open Go Go.Proofs
set_option maxHeartbeats 8000000
structure WorldOK(w:World):Prop where
 good:Cw w.parents=true
 len:∀x∈w.parents,x.length<=1073741824
 few:w.owner.length<=40
 own:∀c∈w.owner,3<=c/\c<3+w.parents.length
theorem Pw(w:World)(l:List Fact)(o:Own)(O:Sig)(h:WorldOK w)(hl:l.length<=1073741824)(hf:∀f∈l,f.wt<=1073741824):
  DCall prog 257 [.agg (MI w),.slice (l.map CY) o] O fun x U'=>(∃d,x=.ret (.tup [d,.bool (l.all (H9 w))]))/\U'=O:=by
 have hlen:=HF h.good
 have aW:=h.few
 refine en func257 ntmps257 ?_
 try refine gz ?_
 refine A3 (Pv w O h.good h.len h.few h.own) (fun d U' hr=>?_) (fun d U' hr=>by obtain⟨_,_,_,h,_⟩:=hr;cases h)
 obtain⟨iw,us,bd,h1,rfl⟩:=hr
 simp only[DE.ret.injEq]at h1
 subst h1
 repeat' first|refine gz ?_|refine CX (K3 w us iw l o _ (w6 ..) (by omega) (by omega) hl hf) ?_|refine callPG (K3 w us iw l o _ (w6 ..) (by omega) (by omega) hl hf) ?_|refine gz ?_|apply gy<;>intro hh
 refine fin2 (U':=O) ?_
 exact⟨⟨_,rfl⟩,rfl⟩
theorem Sx(w:World)(f:Fact)(O:Sig)(h:WorldOK w)(hf:f.wt<=1073741824):DCall prog 204 [.agg (MI w),.agg (CY f)] O (rS (dI (if H9 w f then 0 else 2)) O):=by
 refine en func204 ntmps204 ?_
 try refine gz ?_
 refine A3 (Pw w [f] .clip O h (by simp) (by simpa using hf)) (fun d U' hr=>?_) (fun d U' hr=>by obtain⟨⟨_,h⟩,_⟩:=hr;cases h)
 obtain⟨⟨e,h1⟩,h2⟩:=hr
 simp only[DE.ret.injEq]at h1
 subst h1
 rw[h2]
 try refine gz ?_
 exact fe1 trivial
@[reducible,instance] def a204:=fun w f O=>ah2 (@Sx w f O)
theorem Kc: ∀(cs:List BClass) (n m:Int),C5 n cs=some m->∀c∈cs,c.slots.length<=4
 |[],_,_,_,c,hc=>by simp at hc
 | x::r,n,m,h,c,hc=>by
  rw[C5]at h
  split at h
  ·cases h
  ·rename_i h4
   split at h
   ·cases h
   ·rcases List.mem_cons.1 hc with rfl|hc
    ·omega
    ·exact Kc r _ _ h c hc
theorem JI: ∀(cs:List BClass) (i:Nat),(∀c∈cs,c.slots.length<=4)->(ownersF cs i).length<=4*cs.length /\ ∀x∈ownersF cs i,3+(i:Int)<=x/\x<3+(i:Int)+cs.length
 |[],_,_=>by simp[ownersF]
 | c::r,i,h=>by
  obtain⟨h1,h2⟩:=JI r (i+1) fun c hc=>h c (by simp[hc])
  have h3:=h c (by simp)
  rw[ownersF]
  refine⟨by simp only[List.length_append,List.length_replicate,List.length_cons];omega,fun x hx=>?_⟩
  rcases List.mem_append.1 hx with hx|hx
  ·have:=List.eq_of_mem_replicate hx
   simp only[List.length_cons];omega
  ·have:=h2 x hx
   simp only[List.length_cons];omega
theorem worldOK{p:BProg}(hp:p.wt<=1073741824)(h:AA p=true):WorldOK (NK p):=by
 obtain⟨p1,p2,p3,p4,p5,p6,p7⟩:=p.wt_le
 unfold AA at h
 simp only[Bool.and_eq_true,decide_eq_true_eq]at h
 obtain⟨aM,h⟩:=h
 split at h
 ·cases h
 ·rename_i n hn
  simp only[Bool.and_eq_true,decide_eq_true_eq]at h
  obtain⟨⟨_,hg⟩,_⟩:=h
  obtain⟨o1,o2⟩:=JI p.classes 0 (Kc _ _ _ hn)
  refine⟨hg,fun x hx=>?_,by show(ownersF p.classes 0).length<=40;omega,fun c hc=>?_⟩
  ·obtain⟨c,hc,rfl⟩:=List.mem_map.1 (show x∈p.classes.map (·.parents) from hx)
   obtain⟨k,hk,rfl⟩:=List.getElem_of_mem hc
   have:=p5 k hk
   unfold BClass.wt at this;omega
  ·have:=o2 c hc
   show 3<=c/\c<3+((p.classes.map (·.parents)).length:Int)
   rw[List.length_map];omega
def Ir(p:BProg)(m:BMeth):Bool:=decide (1<=m.kind/\m.kind<=4)&&decide (0<=m.gen/\m.gen<p.gens.length)&&H9 (NK p) m.fact&&decide (m.fact.speaks<=p.gens.getD m.gen.toNat 0)
def Cl(p:BProg):List BMeth->List Int->Option (List Int)
 |[],s=>some s
 | m::r,s=>if Ir p m then (match optW (DH p (decide (m.kind=1) || decide (m.kind=4)) 12 m.node (p.gens.getD m.gen.toNat 0) s) with
   |none=>none
   |some s'=>Cl p r s') else none
def Dn(p:BProg):Option (List Int):=
 if AA p&&(decide (p.gens.length<=8)&&decide (p.methods.length<=16)&&decide (1<=p.nodes.length)&&decide (p.nodes.length<=120))&&p.gens.all (fun g=>decide (1<=g/\g<=3)) then
  match Cl p p.methods (List.replicate p.nodes.length (-1))with
  |none=>none
  |some s=>match optW (DH p false 12 p.main 0 s)with
   |none=>none
   |some s2=>if -1∈s2 then none else some s2
 else none
def SzR(p:BProg)(io:Nat)(O:Sig)(x:DE)(U':Sig):Prop:=Keep (· = io) O U'/\(∃d,U' io=some (.cells [d])) /\
 match Dn p with
 |none=>x=.panic unf
 |some s=>x=.ret (.tup [])/\U' io=some (.cells [sl (cI s)])
theorem Py (p:BProg) (io:Nat) (O:Sig) (hp:p.wt<=1073741824) (ak:O io=some (.cells [.nils])):DCall prog 195 [.cptr (Ag p) 0, .ptr io 0] O (SzR p io O):=by
 obtain⟨p1,p2,p3,p4,p5,p6,p7⟩:=p.wt_le
 have aI:∀c∈p.classes,c.parents.length<=1073741824/\c.slots.length<=1073741824/\c.inits.length<=1073741824:=fun c hc=>by
  obtain⟨k,hk,rfl⟩:=List.getElem_of_mem hc
  have:=p5 k hk
  have aZ:(p.classes[k]).wt=1+(p.classes[k]).parents.length+(p.classes[k]).slots.length+(p.classes[k]).inits.length:=rfl
  omega
 have ba:∀c∈p.classes,c.parents.length<=1073741824:=fun c hc=>(aI c hc).1
 have a8:∀c∈p.classes,c.slots.length<=1073741824:=fun c hc=>(aI c hc).2.1
 have ah:Dn p=none->∀U' d,Keep (· = io) O U'->U' io=some (.cells [d])->SzR p io O (.panic unf) U':=fun h U' d hK hd=>⟨hK,⟨d,hd⟩,by rw[h]⟩
 refine en func195 ntmps195 ?_
 cases hc:AA p with
 |false=>
  have hL:Dn p=none:=by unfold Dn;rw[hc];rfl
  repeat' first|(exact finP (U':=O) (ah hL _ _ (Keep.refl _ _) ak))|refine gf hc ?_ o195|apply gy<;>intro hh
 | true =>
  have hW:=worldOK hp hc
  by_cases aU:p.gens.length<=8/\p.methods.length<=16/\1<=p.nodes.length/\p.nodes.length<=120
  ·have ai:Dn p=if p.gens.all (fun g=>decide (1<=g/\g<=3)) then
     match Cl p p.methods (List.replicate p.nodes.length (-1))with
     |none=>none
     |some s=>match optW (DH p false 12 p.main 0 s)with
      |none=>none
      |some s2=>if -1∈s2 then none else some s2
    else none:=by unfold Dn;rw[hc];simp[aU]
   try refine gf hc ?_ o195
   refine CG [0,1,4,5,7,34,35,48,49,50,51,52,53,54,55,56,57,58,59,60,61,62,63,64,65,66,67,68,69,70,71,72,73,74,75,76,77,78,79,80,81,82,83,84,85,86,87,88,89,90,91,92,93,94,95,96,97,98,99,100,101,102,103,104,105,106,107,108,109,110,111,112,113,114,115,116,117,118,119,120,121,122,123,124,125,126,127,128,129] (fun (i:Nat)=>i<=p.gens.length/\p.gens.all (fun g=>decide (1<=g/\g<=3))=(p.gens.drop i).all (fun g=>decide (1<=g/\g<=3))) (fun i=>[(36,dI i)]) (fun _=>O) (fun i=>p.gens.length-i) (0) td3 (fun i hI=>?_)
   obtain⟨hi,hA⟩:=hI
   by_cases aq:i<p.gens.length
   ·rw[Ad aq,List.all_cons]at hA
    by_cases hq:1<=p.gens[i]/\p.gens[i]<=3
    ·rw[decide_eq_true hq,Bool.true_and]at hA
     try refine gz ?_ o195
     exact⟨i+1,⟨by omega,hA⟩,td1,wkR⟩
    ·rw[decide_eq_false hq,Bool.false_and]at hA
     have hL:Dn p=none:=by rw[ai,hA];rfl
     repeat' first|(exact finP (U':=O) (ah hL _ _ (Keep.refl _ _) ak))|refine gz ?_ o195|apply gy<;>intro hh
     all_goals (exfalso;omega)
   ·rw [Aj aq,List.all_nil] at hA
    rw[hA,if_pos rfl]at ai
    have ag:=hA
    try refine gz ?_ o195
    refine TA (SC p.nodes.length O (by omega) (by omega)) (fun d U' hr=>?_) (fun d U' hr=>by obtain⟨r,_,h,_⟩:=hr;cases h)
    obtain⟨r,aj,h1,rfl⟩:=hr
    simp only[DE.ret.injEq]at h1
    subst h1
    have aa:io≠r:=fun e=>by rw[e,aj]at ak;cases ak
    have bc:(ownersF p.classes 0).length<=40:=hW.few
    try refine gf (gi ak aa) ?_ o195
    refine ET [0,1,4,5,57,58,122,123,124,125,126,127,128,129] (fun (i:Nat) (s:List Int) (S1:Sig)=>i<=p.methods.length/\s.length=p.nodes.length/\Keep (· = io) O S1/\S1 io=some (.cells [.sref r 0 p.nodes.length p.nodes.length])/\S1 r=some (.cells (s.map dI))/\Cl p p.methods (List.replicate p.nodes.length (-1))=Cl p (p.methods.drop i) s) (fun i _ _=>[(59,dI i)]) (fun _ _ S1=>S1) (fun i _ _=>p.methods.length-i) (0) (List.replicate p.nodes.length (-1)) (_) (by exact⟨by omega,by simp,((Keep.refl _ O).fresh aj).trans (fun j o h1 h2=>by rw[w7 _ _ h2];exact h1),w6 .., by rw[w7 _ _ (Ne.symm aa),w6],rfl⟩) (fun i s S1 hI=>?_)
    clear aq
    obtain⟨hi,aB,au,ae,aE,hM⟩:=hI
    by_cases aq:i<p.methods.length
    ·rw [Ad aq,Cl] at hM
     have aQ:=p6 i aq
     generalize hm:p.methods[i]=m at*
     have bh:m.fact.wt<=1073741824:=by unfold BMeth.wt at aQ;omega
     have hsz:=Fact.size_le m.fact
     cases aw:Ir p m with
     | false =>
      rw[aw]at hM
      have hL:Dn p=none:=by rw[ai,hM];rfl
      repeat' first|(exact finP (U':=S1) (ah hL _ _ au ae))|refine gf hm ?_ o195|apply gy<;>intro hh
      all_goals
       exfalso
       rename_i k1 k2 k3 k4 k5 k6
       revert aw
       simp only[Ir]
       rw[decide_eq_true (by omega),decide_eq_true (by omega),k5,decide_eq_true (by rw[List.getD_eq_getElem?_getD,List.getElem?_eq_getElem (by omega)];exact k6)]
       simp
     | true =>
      rw[aw,if_pos rfl]at hM
      simp only[Ir,Bool.and_eq_true,decide_eq_true_eq]at aw
      obtain⟨⟨⟨hk,be⟩,aV⟩,aN⟩:=aw
      have aF:p.gens.getD m.gen.toNat 0=p.gens[m.gen.toNat]'(by omega):=by rw[List.getD_eq_getElem?_getD,List.getElem?_eq_getElem (by omega)];rfl
      rw[aF]at aN hM
      have bf:1<=p.gens[m.gen.toNat]'(by omega)/\p.gens[m.gen.toNat]'(by omega)<=3:=by
       have:=List.all_eq_true.1 ag _ (List.getElem_mem (show m.gen.toNat<p.gens.length by omega))
       simpa using this
      repeat' first|refine gf (gi hm aV) ?_ o195|apply gy<;>intro hh
      ·have hb:(decide (m.kind=1)||decide (m.kind=4))=true:=by simp[hh]
       rw[hb]at hM
       refine A3 (IL p io r (true) m.node (p.gens[m.gen.toNat]'(by omega)) s S1 hp ae aE aB aa (by omega) (by omega)) (fun d U' hr=>?_) (fun d U' hr=>?_)
       ·obtain⟨s',aD,rfl,⟨q1,q2,q3⟩,_⟩:=hr.ret
        rw[aD]at hM
        try refine gz ?_ o195
        exact⟨i+1,s',U',⟨by omega,q2,fun j o h1 h2=>q3 j o (au j o h1 h2) (fun e=>by rw[e,aj]at h1;cases h1),q3 io _ ae aa,q1,hM⟩,td1,wkR⟩
       ·obtain⟨hn,rfl,hb⟩:=hr.pan
        rw[hn]at hM
        exact finP (U':=U') (ah (by rw[ai,hM]) _ _ (fun j o h1 h2=>hb j o (au j o h1 h2) (fun e=>by rw[e,aj]at h1;cases h1)) (hb io _ ae aa))
      ·have hb:(decide (m.kind=1)||decide (m.kind=4))=decide (m.kind=4):=by simp[hh]
       rw[hb]at hM
       refine A3 (IL p io r (decide (m.kind=4)) m.node (p.gens[m.gen.toNat]'(by omega)) s S1 hp ae aE aB aa (by omega) (by omega)) (fun d U' hr=>?_) (fun d U' hr=>?_)
       ·obtain⟨s',aD,rfl,⟨q1,q2,q3⟩,_⟩:=hr.ret
        rw[aD]at hM
        try refine gz ?_ o195
        exact⟨i+1,s',U',⟨by omega,q2,fun j o h1 h2=>q3 j o (au j o h1 h2) (fun e=>by rw[e,aj]at h1;cases h1),q3 io _ ae aa,q1,hM⟩,td1,wkR⟩
       ·obtain⟨hn,rfl,hb⟩:=hr.pan
        rw[hn]at hM
        exact finP (U':=U') (ah (by rw[ai,hM]) _ _ (fun j o h1 h2=>hb j o (au j o h1 h2) (fun e=>by rw[e,aj]at h1;cases h1)) (hb io _ ae aa))
    ·rw[Aj aq,Cl]at hM
     rw[hM]at ai
     simp only at ai
     try refine gz ?_ o195
     refine A3 (IL p io r false p.main 0 s S1 hp ae aE aB aa (by omega) (by omega)) (fun d U' hr=>?_) (fun d U' hr=>?_)
     ·obtain⟨s2,aO,rfl,⟨q1,q2,q3⟩,_⟩:=hr.ret
      rw[aO]at ai
      simp only at ai
      have aX:Keep (· = io) O U':=fun j o h1 h2=>q3 j o (au j o h1 h2) (fun e=>by rw[e,aj]at h1;cases h1)
      have ap:=q3 io _ ae aa
      have aC:U'=mS (U'.del r) (some (r,p.nodes.length,[])) (cI s2):=by
       funext j
       by_cases hj:j=r
       ·subst hj;rw[mS,w6,q1,Kh,List.append_nil]
       ·rw[mS,w7 _ _ hj];simp[Sig.del,hj]
      rw[aC]
      have aH:(U'.del r) io=some (.cells ([]++mD (some (r,p.nodes.length,[])) (cI s2).length::[])):=by
       simp only[Sig.del,aa,if_false,mD,MJ,q2];exact ap
      have aR:mOK (U'.del r) 1 (some (r,p.nodes.length,[])) (cI s2):=⟨by simp[Sig.del],by rw[Kh];simp[q2],by simp[q2],Cb _⟩
      have aL:Keep (· = io) O ((U'.del r).set io (.cells [sl (cI s2)])):=fun j o h1 h2=>by
       have aT:¬j=r:=fun e=>by rw[e,aj]at h1;cases h1
       rw[w7 _ _ h2]
       simp only[Sig.del,aT,if_false]
       exact aX j o h1 h2
      refine mfrC [] [] ?_ aH aR
      simp only[List.nil_append]
      by_cases ax : -1∈s2
      ·rw[if_pos ax]at ai
       repeat' first|(exact finP (U':=(U'.del r).set io (.cells [sl (cI s2)])) (ah ai _ _ aL (w6 ..)))|refine gf ax ?_ o195|apply gy<;>intro hh
      ·rw[if_neg ax]at ai
       try refine gf ax ?_ o195
       refine DK (U':=(U'.del r).set io (.cells [sl (cI s2)])) ?_
       exact⟨aL,⟨_,w6 ..⟩,by rw[ai];exact⟨rfl,w6 ..⟩⟩
     ·obtain⟨hn,rfl,hb⟩:=hr.pan
      rw[hn]at ai
      exact finP (U':=U') (ah ai _ _ (fun j o h1 h2=>hb j o (au j o h1 h2) (fun e=>by rw[e,aj]at h1;cases h1)) (hb io _ ae aa))
  ·have hL:Dn p=none:=by unfold Dn;rw[if_neg];simp only[Bool.and_eq_true,decide_eq_true_eq];omega
   repeat' first|(exact finP (U':=O) (ah hL _ _ (Keep.refl _ _) ak))|refine gf hc ?_ o195|apply gy<;>intro hh
   all_goals (exfalso;omega)
theorem PC(p:BProg)(O:Sig)(hp:p.wt<=1073741824):DCall prog 130 [.agg (Ag p)] O fun x U'=>(∃d,x=.ret (.tup [d,.bool (Dn p).isSome]) /\ ∀s,Dn p=some s->d=sl (cI s))/\U'=O:=by
 refine en func130 ntmps130 ?_
 try refine gz ?_ [] [4]
 refine newV (fun io ak=>?_)
 try refine gz ?_ [] [4]
 refine A3 (SF 195 [.cptr (Ag p) 0,.ptr io 0] (O.set io (.cells [.nils])) (fun S1=>SzR p io S1) (fun i hi=>Py p io _ hp (by rw[w7 _ _ fun e=>by rw[e]at hi;rw[w6 ..]at hi;cases hi];exact w6 ..)) (fun S1 d S2 h=>?_) (fun i S2 x hi h=>h.1 i _ (w6 ..) (fun e=>by rw[e,w6]at hi;cases hi))) (fun d U' hr=>?_) (fun d U' hr=>?_)
 ·obtain⟨_,_,h⟩:=h
  split at h
  ·simpa using h
  ·exact absurd h.1 (by simp)
 ·obtain⟨i,S2,hi,rfl,hr⟩:=hr
  rcases hr with⟨e,⟨hK,⟨d0,aK⟩,h⟩,h2⟩|⟨⟨hK,⟨d0,aK⟩,h⟩,h2⟩
  ·simp only[DE.ret.injEq]at h2
   subst h2
   cases hL:Dn p with
   |none=>rw[hL]at h;exact absurd h (by simp)
   | some s =>
    rw[hL]at h
    obtain⟨_,ap⟩:=h
    have ar:io≠i:=fun e=>by rw[<-e,w6]at hi;cases hi
    have am:(S2.del i) io=some (.cells [sl (cI s)]):=by simp only[Sig.del,ar,if_false];exact ap
    try refine gf am ?_ [] [4]
    refine fin2 (U':=O) ?_ (hU:=?_)
    ·exact⟨⟨_,rfl,fun s' h=>by cases h;rfl⟩,rfl⟩
    ·intro j o hj
     have e1:j≠io:=fun e=>by rw[e,ak]at hj;cases hj
     have e2:=hK j o (by rw[w7 _ _ (fun e=>by rw[e]at hj;rw[w7 _ _ (Ne.symm ar),hj]at hi;cases hi),w7 _ _ e1];exact hj) e1
     simp only[Sig.del]
     rw[if_neg (fun e=>by rw[e]at hj;rw[w7 _ _ (Ne.symm ar),hj]at hi;cases hi)]
     exact e2
  ·simp only[DE.ret.injEq]at h2
   subst h2
   have ar:io≠i:=fun e=>by rw[<-e,w6]at hi;cases hi
   have am:(S2.del i) io=some (.cells [d0]):=by simp only[Sig.del,ar,if_false];exact aK
   have hL:Dn p=none:=by
    cases hL:Dn p with
    |none=>rfl
    |some s=>rw[hL]at h;exact absurd h.1 (by simp)
   rw[hL]
   try refine gf am ?_ [] [4]
   refine fin2 (U':=O) ?_ (hU:=?_)
   ·exact⟨⟨_,rfl,fun s' h=>by cases h⟩,rfl⟩
   ·intro j o hj
    have e1:j≠io:=fun e=>by rw[e,ak]at hj;cases hj
    have e2:=hK j o (by rw[w7 _ _ (fun e=>by rw[e]at hj;rw[w7 _ _ (Ne.symm ar),hj]at hi;cases hi),w7 _ _ e1];exact hj) e1
    simp only[Sig.del]
    rw[if_neg (fun e=>by rw[e]at hj;rw[w7 _ _ (Ne.symm ar),hj]at hi;cases hi)]
    exact e2
 ·obtain⟨i,S2,hi,rfl,hr⟩:=hr
  rcases hr with⟨e,_,h2⟩|⟨_,h2⟩<;>cases h2
theorem E6{a b:List D}(h:WkL a b):WkD (.agg a) (.agg b):=fun _ _ ⟨vs,e,hr⟩=>⟨vs,e,h.rep hr⟩
theorem CC{a b:List D}(h:WkL a b):WkD (.tup a) (.tup b):=fun _ _ ⟨vs,e,hr⟩=>⟨vs,e,h.rep hr⟩
def okP(p:BProg):Bool:=(Dn p).isSome
theorem Eh{p:BProg}(h:okP p=true):AA p=true:=by
 unfold okP Dn at h
 cases hc:AA p
 ·rw[hc]at h;simp at h
 ·rfl
theorem UL(p:BProg)(O:Sig)(hp:p.wt<=1073741824:=by exact sd):DCall prog 59 [.agg (Ag p)] O (rS (dI (if okP p then 0 else 2)) O):=by
 refine en func59 ntmps59 ?_
 try refine gz ?_
 refine A3 (PC p O hp) (fun d U' hr=>?_) (fun d U' hr=>by obtain⟨⟨_,h,_⟩,_⟩:=hr;cases h)
 obtain⟨⟨d,h1,h2⟩,h3⟩:=hr
 simp only[DE.ret.injEq]at h1
 subst h1
 rw[h3]
 cases hk:okP p<;>unfold okP at hk<;>rw[hk]
 ·try refine gz ?_
  exact fe1 trivial
 ·try refine gz ?_
  exact fe1 trivial
@[reducible,instance] def a59:=fun p O=>ah1 (@UL p O)
theorem SM(p:BProg)(c:Int)(O:Sig)(hp:p.wt<=1073741824:=by exact sd):DCall prog 172 [.agg (Ag p),dI c] O (rS (.bool (ownF p c&&okP p)) O):=by
 obtain⟨p1,p2,p3,p4,p5,p6,p7⟩:=p.wt_le
 refine en func172 ntmps172 ?_
 cases hk:okP p
 ·repeat' first|refine gf hk ?_|apply gy<;>intro hh
  any_goals (first|(refine fin1 (U':=O) ?_;exact⟨by first|rfl|(simp[ownF];done)|(simp_all [ownF];done)|(rw[Am,Bool.eq_iff_iff];simp_all [ownF]<;>omega),rfl⟩)|fail)
 ·repeat' first|refine gf hk ?_|apply gy<;>intro hh
  any_goals (first|(refine fin1 (U':=O) ?_;exact⟨by first|rfl|(simp[ownF];done)|(simp_all [ownF];done)|(rw[Am,Bool.eq_iff_iff];simp_all [ownF]<;>omega),rfl⟩)|fail)
@[reducible,instance] def a172:=fun p c O=>ah1 (@SM p c O)
theorem Ta(p:BProg)(c:Int)(O:Sig)(hp:p.wt<=1073741824:=by exact sd):DCall prog 101 [.agg (Ag p),dI c] O (rS (.tup [sl (cI (if ownF p c&&okP p then hasP p c else [])),dI (if ownF p c&&okP p then 0 else 2)]) O):=by
 refine en func101 ntmps101 ?_
 cases hk:ownF p c&&okP p
 ·try refine gf hk ?_
  exact fe2 (d':=sl []) trivial
 ·have ho:3<=c/\c<3+p.classes.length:=by simp only[ownF,Bool.and_eq_true,decide_eq_true_eq]at hk;exact hk.1
  obtain⟨h1,h2⟩:=ho
  try refine gf hk ?_
  exact fe2 trivial
@[reducible,instance] def a101:=fun p c O=>ah1 (@Ta p c O)
def EntOK(s:List Int):Prop:= ∀x∈s,x = -1\/0<=x
theorem EntOK.set{s:List Int}(h:EntOK s)(n:Nat){v:Int}(hv:0<=v):EntOK (s.set n v):=fun x hx=>by
 rcases List.mem_or_eq_of_mem_set hx with hx|rfl
 ·exact h x hx
 ·exact .inr hv
theorem walkKids_ent{f:Int->Int->List Int->Bool×List Int}{x:BNode}{size:Int}(hf:∀c z s,0<=z->EntOK s->EntOK (f c z s).2)(hz:0<=size): ∀(l:List Int) (j:Nat) (s:List Int),EntOK s->EntOK (Cr f x size j l s).2
 |[],_,_,h=>h
 |c::r,j,s,h=>by
  rw[Cr]
  have h1:=hf c (if x.op=9/\j=1 then size+1 else size) s (by split<;>omega) h
  split
  ·rename_i s' e;rw[e]at h1;exact h1
  ·rename_i s' e;rw[e]at h1;exact walkKids_ent hf hz r _ _ h1
theorem HS(p:BProg)(inM:Bool): ∀(k:Nat) (node size:Int) (s:List Int),0<=size->EntOK s->EntOK (DH p inM k node size s).2
 |0,_,_,_,_,h=>h
 | k+1,node,size,s,hz,h=>by
  rw[DH]
  split
  ·exact h
  ·split
   ·exact h.set _ hz
   ·exact walkKids_ent (fun c z s hz hs=>HS p inM k c z s hz hs) hz _ _ _ (h.set _ hz)
theorem methsP_ent(p:BProg)(hg:∀g∈p.gens,1<=g): ∀(l:List BMeth) (s s':List Int),Cl p l s=some s'->EntOK s->EntOK s'
 |[],s,s',h,hs=>by rw[Cl]at h;cases h;exact hs
 | m::r,s,s',h,hs=>by
  rw[Cl]at h
  split at h
  ·rename_i hm
   have h0:0<=p.gens.getD m.gen.toNat 0:=by
    rw[List.getD_eq_getElem?_getD]
    cases aF:p.gens[m.gen.toNat]? with
    |none=>simp
    |some g=>have:=hg g (List.mem_of_getElem? aF);simp only[Option.getD_some];omega
   have he:=HS p (decide (m.kind=1)||decide (m.kind=4)) 12 m.node (p.gens.getD m.gen.toNat 0) s h0 hs
   cases hw:DH p (decide (m.kind=1)||decide (m.kind=4)) 12 m.node (p.gens.getD m.gen.toNat 0) s with
   |mk b s1=>
    rw[hw]at h he
    cases b with
    |false=>simp[optW]at h
    |true=>simp only[optW]at h;exact methsP_ent p hg r s1 s' h he
  ·cases h
def InR(n:Int)(k:Nat):Prop:=0<=n/\n<k
def cntB(p:BProg):Nat->Int->Nat
 |0,_=>1
 |k+1,node=>1+wtL (cntB p k) (A9 p node).kids
def negS(s:List Int):Nat:=s.countP (· < 0)
theorem O1: ∀(s:List Int) (n:Nat) (v:Int),n<s.length->s.getD n 0<0->0<=v->negS (s.set n v)+1=negS s
 |[],n,v,h,_,_=>by simp at h
 |x::r,0,v,_,h,hv=>by
  have hx:x<0:=h
  simp only[List.set_cons_zero,negS,List.countP_cons,hx,decide_true,if_true]
  rw[if_neg (by simpa using hv)]
 |x::r,n+1,v,hl,h,hv=>by
  have:=O1 r n v (by simpa using hl) (by simpa using h) hv
  simp only[negS]at this
  simp only[List.set_cons_succ,negS,List.countP_cons]
  omega
theorem Hk{p:BProg}{k:Nat}{f:Int->Int->List Int->Bool×List Int}{x:BNode}{size:Int}
  (hf:∀c z s s',f c z s=(true,s')->s.length=p.nodes.length->0<=z->s'.length=s.length/\cntB p k c+negS s'=negS s) (hz:0<=size) :
  ∀(l:List Int) (j:Nat) (s s':List Int),Cr f x size j l s=(true,s')->s.length=p.nodes.length->s'.length=s.length/\wtL (cntB p k) l+negS s'=negS s
 |[],j,s,s',h,hs=>by
  rw[Cr]at h;cases h
  exact⟨rfl,by rw[wtL];omega⟩
 | c::r,j,s,s',h,hs=>by
  rw[Cr]at h
  cases hc:f c (if x.op=9/\j=1 then size+1 else size) s with
  | mk b s1 =>
   rw[hc]at h
   cases b with
   |false=>simp at h
   |true=>
    obtain⟨h2,h3⟩:=hf _ _ _ _ hc hs (by split<;>omega)
    obtain⟨h5,h6⟩:=Hk hf hz r (j+1) s1 s' h (by omega)
    exact⟨by omega,by rw[wtL];omega⟩
theorem HR(p:BProg)(inM:Bool): ∀(k:Nat) (node size:Int) (s s':List Int),DH p inM k node size s=(true,s')->s.length=p.nodes.length->0<=size->s'.length=s.length/\cntB p k node+negS s'=negS s
 |0,_,_,_,_,h,_,_=>by simp[DH]at h
 | k+1,node,size,s,s',h,hs,hz=>by
  rw[DH]at h
  split at h
  ·simp at h
  ·rename_i h1
   split at h
   ·simp at h
   ·rename_i h2
    obtain⟨h5,h6⟩:=Hk (HR p inM k) hz (A9 p node).kids 0 _ s' h (by simpa using hs)
    have hn:node.toNat<s.length:=by omega
    have h7:=O1 s node.toNat size hn (by omega) hz
    exact⟨by rw[h5,List.length_set],by rw[cntB];omega⟩
theorem JM(p:BProg): ∀(l:List BMeth) (s s':List Int),Cl p l s=some s'->s.length=p.nodes.length->(∀m∈l,0<=p.gens.getD m.gen.toNat 0)->
  s'.length=s.length/\wtL (fun m:BMeth=>cntB p 12 m.node) l+negS s'=negS s
 |[],s,s',h,hs,_=>by rw[Cl]at h;cases h;exact⟨rfl,by rw[wtL];omega⟩
 | m::r,s,s',h,hs,hg=>by
  rw[Cl]at h
  split at h
  ·cases hw:DH p (decide (m.kind=1)||decide (m.kind=4)) 12 m.node (p.gens.getD m.gen.toNat 0) s with
   | mk b s1 =>
    rw[hw]at h
    cases b with
    |false=>simp[optW]at h
    |true=>
     simp only[optW]at h
     obtain⟨h1,h2⟩:=HR p _ _ _ _ _ _ hw hs (hg m (by simp))
     obtain⟨h3,h4⟩:=JM p r s1 s' h (by omega) fun x hx=>hg x (by simp[hx])
     exact⟨by omega,by rw[wtL];omega⟩
  ·cases h
theorem Ub(n:Nat):negS (List.replicate n (-1))=n:=by
 unfold negS
 rw[List.countP_replicate];simp
theorem QB: ∀s:List Int,EntOK s-> -1∉s->negS s=0:=fun s h hn=>by
 unfold negS
 rw[List.countP_eq_zero]
 intro x hx
 have h1:=h x hx
 have h2:x ≠ -1:=fun e=>hn (e ▸ hx)
 simp only[decide_eq_true_eq]
 omega
theorem Ul{p:BProg}(h:okP p=true):wtL (fun m:BMeth=>cntB p 12 m.node) p.methods+cntB p 12 p.main=p.nodes.length:=by
 unfold okP Dn at h
 split at h
 ·rename_i hc
  simp only[Bool.and_eq_true,decide_eq_true_eq,List.all_eq_true]at hc
  obtain⟨_,hg⟩:=hc
  have aG:∀n:Nat,0<=p.gens.getD n 0:=fun n=>by
   rw[List.getD_eq_getElem?_getD]
   by_cases hl:n<p.gens.length
   ·rw[List.getElem?_eq_getElem hl]
    have:=(hg _ (List.getElem_mem hl)).1
    simp only[Option.getD_some];omega
   ·rw[List.getElem?_eq_none (by omega)];simp
  cases hm:Cl p p.methods (List.replicate p.nodes.length (-1))with
  |none=>rw[hm]at h;simp at h
  | some s =>
   rw[hm]at h
   obtain⟨k1,k2⟩:=JM p p.methods _ s hm (by simp) fun m _=>aG _
   rw[List.length_replicate]at k1
   rw[Ub]at k2
   cases hw:DH p false 12 p.main 0 s with
   | mk b s2 =>
    simp only[hw]at h
    cases b with
    |false=>simp[optW]at h
    | true =>
     obtain⟨m1,m2⟩:=HR p false 12 _ _ _ _ hw k1 (Int.le_refl _)
     have e1:=methsP_ent p (fun g hx=>(hg g hx).1) p.methods _ s hm (fun x hx=>by rw[List.eq_of_mem_replicate hx];simp[EntOK]<;>omega)
     have e2:=HS p false 12 p.main 0 s (Int.le_refl _) e1
     rw[hw]at e2
     simp only[optW]at h
     split at h
     ·simp at h
     ·rename_i aP
      have:=QB s2 e2 aP
      omega
 ·cases h
structure CIns where
 op:Int
 a:Int
 deriving DecidableEq
structure CProg where
 ins:List CIns
 starts:List Int
 main:Int
structure CLev where
 st:Int
 env:Int
 deriving DecidableEq
def kidN(x:BNode)(i:Nat):Int:=(x.kids[i]?).getD 0
def cL(p:BProg):Nat->Int->Nat
 |0,_=>0
 |k+1,n=>
  if(A9 p n).op=9 then cL p k (kidN (A9 p n) 0)+(cL p k (kidN (A9 p n) 1)+2)
  else if(A9 p n).op=11 then cL p k (kidN (A9 p n) 0)+(cL p k (kidN (A9 p n) 1)+1)
  else if(A9 p n).op=10 then cL p k (kidN (A9 p n) 0)+(cL p k (kidN (A9 p n) 1)+(cL p k (kidN (A9 p n) 2)+2))
  else wtL (cL p k) (A9 p n).kids+1
def Tx(o:Int):Int:=if o=1 then 1 else if o=2 then 2 else if o=3 then 3 else if o=4 then 5 else if o=5 then 19 else if o=6 then 4 else if o=7 then 8 else if o=8 then 6 else if o=17 then 7 else if o=18 then 20 else o-3
def Jr(f:Int->Nat->List CIns):List Int->Nat->List CIns
 |[],_=>[]
 |c::r,q=>f c q++Jr f r (q+(f c q).length)
def cN (p:BProg):Nat->Int->Nat->List CIns
 |0,_,_=>[]
 | k+1,n,q =>
  if(A9 p n).op=9 then cN p k (kidN (A9 p n) 0) q++(⟨14,0⟩::(cN p k (kidN (A9 p n) 1) (q+cL p k (kidN (A9 p n) 0)+1)++[⟨15,0⟩]))
  else if(A9 p n).op=11 then cN p k (kidN (A9 p n) 0) q++(⟨16,0⟩::cN p k (kidN (A9 p n) 1) (q+cL p k (kidN (A9 p n) 0)+1))
  else if(A9 p n).op=10 then
   cN p k (kidN (A9 p n) 0) q++(⟨17,((q+cL p k (kidN (A9 p n) 0)+1+cL p k (kidN (A9 p n) 1)+1:Nat):Int)⟩::(cN p k (kidN (A9 p n) 1) (q+cL p k (kidN (A9 p n) 0)+1) ++
    (⟨18,((q+cL p k (kidN (A9 p n) 0)+1+cL p k (kidN (A9 p n) 1)+1+cL p k (kidN (A9 p n) 2):Nat):Int)⟩::cN p k (kidN (A9 p n) 2) (q+cL p k (kidN (A9 p n) 0)+1+cL p k (kidN (A9 p n) 1)+1))))
  else Jr (cN p k) (A9 p n).kids q++[⟨Tx (A9 p n).op,(A9 p n).n⟩]
theorem J1{f:Int->Nat->List CIns}{g:Int->Nat}(h:∀c q,(f c q).length=g c): ∀(l:List Int) (q:Nat),(Jr f l q).length=wtL g l
 |[],_=>by rw[Jr,wtL];rfl
 |c::r,q=>by rw[Jr,wtL,List.length_append,h,J1 h r]
theorem OH(p:BProg): ∀(k:Nat) (n:Int) (q:Nat),(cN p k n q).length=cL p k n
 |0,_,_=>by rw[cN,cL];rfl
 | k+1,n,q=>by
  have ih:=OH p k
  rw[cN,cL]
  split
  ·simp only[List.length_append,List.length_cons,List.length_nil,ih]
  ·split
   ·simp only[List.length_append,List.length_cons,ih]
   ·split
    ·simp only[List.length_append,List.length_cons,ih];omega
    ·simp only[List.length_append,List.length_cons,List.length_nil,J1 ih]
def trE(p:BProg)(inM:Bool):Nat->Int->Nat->Prop
 |0,_,_=>False
 |k+1,n,size=>InR n p.nodes.length/\((A9 p n).kids.length:Int)=CH p (A9 p n)/\CF p (A9 p n) size=true /\ ¬((A9 p n).op=18/\inM=false) /\
  ∀(j:Nat) (h:j<(A9 p n).kids.length),trE p inM k ((A9 p n).kids[j]) (if(A9 p n).op=9/\j=1 then size+1 else size)
theorem HQ{p:BProg}{inM:Bool}{k:Nat}{f:Int->Int->List Int->Bool×List Int}{x:BNode}{size:Nat}(hf:∀c (z:Nat) s s',f c z s=(true,s')->trE p inM k c z):
  ∀(l:List Int) (i:Nat) (s s':List Int),Cr f x size i l s=(true,s')->∀(j:Nat) (h:j<l.length),trE p inM k l[j] (if x.op=9/\i+j=1 then size+1 else size)
 |[],_,_,_,_,j,h=>by simp at h
 | c::r,i,s,s',h,j,hj=>by
  rw[Cr]at h
  cases hc:f c (if x.op=9/\i=1 then(size:Int)+1 else size) s with
  | mk b s1 =>
   rw[hc]at h
   cases b with
   |false=>simp at h
   | true =>
    cases j with
    |zero=>
     rw[List.getElem_cons_zero,Nat.add_zero]
     by_cases e:x.op=9/\i=1
     ·rw[if_pos e]at hc⊢; exact hf c (size+1) _ _ hc
     ·rw[if_neg e]at hc⊢; exact hf c size _ _ hc
    |succ j=>
     have:=HQ hf r (i+1) s1 s' h j (by simpa using hj)
     rw[show i+1+j=i+(j+1) by omega]at this
     simpa using this
theorem Kq(p:BProg)(inM:Bool): ∀(k:Nat) (n:Int) (size:Nat) (s s':List Int),DH p inM k n size s=(true,s')->trE p inM k n size
 |0,_,_,_,_,h=>by simp[DH]at h
 | k+1,n,size,s,s',h=>by
  rw[DH]at h
  split at h
  ·simp at h
  ·rename_i h1
   split at h
   ·simp at h
   ·rename_i h2
    refine⟨⟨by omega,by omega⟩,Classical.byContradiction fun e=>h2 (.inl e),?_,fun e=>h2 (.inr (.inr e)),fun j hj=>?_⟩
    ·cases hn:CF p (A9 p n) size with
     |true=>rfl
     |false=>exact absurd (.inr (.inl hn)) h2
    ·have:=HQ (fun c z s s' h=>Kq p inM k c z s s' h) _ 0 _ _ h j hj
     rw[Nat.zero_add]at this
     exact this
theorem tr_op{p:BProg}{inM:Bool}{k:Nat}{n:Int}{size:Nat}(h:trE p inM (k+1) n size):1<=(A9 p n).op/\(A9 p n).op<=18:=by
 obtain⟨_,h2,_⟩:=h
 unfold CH LS at h2
 by_cases hh:1<=(A9 p n).op/\(A9 p n).op<=18
 ·exact hh
 ·exfalso
  rw[if_neg (by omega),if_neg (by omega),if_neg (by omega),if_neg (by omega)]at h2
  simp only at h2
  rw[if_neg (by omega)]at h2
  omega
theorem Kt{p:BProg}{inM:Bool}{k:Nat}{n:Int}{size:Nat}(h:trE p inM (k+1) n size){m:Nat}(hm:LS (A9 p n).op=some (m:Int)):(A9 p n).kids.length=m:=by
 obtain⟨_,h2,_⟩:=h
 unfold CH at h2
 rw[hm]at h2
 simp only at h2
 omega
theorem Ni{x:BNode}{i:Nat}(h:i<x.kids.length):kidN x i=x.kids[i]:=by unfold kidN;rw[List.getElem?_eq_getElem h];rfl
theorem cL_le(p:BProg): ∀(k:Nat) (n:Int) (inM:Bool) (size:Nat),trE p inM k n size->cL p k n+0<=2*cntB p k n
 |0,_,_,_,h=>h.elim
 | k+1,n,inM,size,h=>by
  have bb:=tr_op h
  have hk:=h.2.2.2.2
  have aA:∀l:List Int,(∀(j:Nat) (h:j<l.length),cL p k l[j]<=2*cntB p k l[j])->wtL (cL p k) l<=2*wtL (cntB p k) l:=fun l=>by
   induction l with
   |nil=>intro _;rw[wtL,wtL];omega
   |cons c r ih=>
    intro h
    have h1:=h 0 (by simp)
    have h2:=ih fun j hj=>by have:=h (j+1) (by simpa using hj);simpa using this
    rw[List.getElem_cons_zero]at h1
    rw[wtL,wtL];omega
  have ag:∀(j:Nat) (h:j<(A9 p n).kids.length),cL p k (A9 p n).kids[j]<=2*cntB p k (A9 p n).kids[j]:=fun j hj=>cL_le p k _ _ _ (hk j hj)
  have hs:=aA _ ag
  rw[cL,cntB]
  have two:∀m:Nat,(A9 p n).kids.length=m->m=2->wtL (cntB p k) (A9 p n).kids=cntB p k (kidN (A9 p n) 0)+cntB p k (kidN (A9 p n) 1):=fun m h1 h2=>by
   match hh:(A9 p n).kids with
   |[a,b]=>unfold kidN;rw[hh];simp[wtL]
   |[]=>rw[hh]at h1;simp at h1;omega
   |[_]=>rw[hh]at h1;simp at h1;omega
   |_::_::_::_=>rw[hh]at h1;simp at h1;omega
  split
  ·rename_i h9
   have hl:(A9 p n).kids.length=2:=Kt h (by rw[h9];rfl)
   have:=two 2 hl rfl
   have a1:=ag 0 (by omega)
   have a2:=ag 1 (by omega)
   rw[<-Ni]at a1 a2
   omega
  ·split
   ·rename_i aY
    have hl:(A9 p n).kids.length=2:=Kt h (by rw[aY];rfl)
    have:=two 2 hl rfl
    have a1:=ag 0 (by omega)
    have a2:=ag 1 (by omega)
    rw[<-Ni]at a1 a2
    omega
   ·split
    ·rename_i aM
     have hl:(A9 p n).kids.length=3:=Kt h (by rw[aM];rfl)
     have a1:=ag 0 (by omega)
     have a2:=ag 1 (by omega)
     have a3:=ag 2 (by omega)
     rw[<-Ni]at a1 a2 a3
     have:wtL (cntB p k) (A9 p n).kids=cntB p k (kidN (A9 p n) 0)+(cntB p k (kidN (A9 p n) 1)+cntB p k (kidN (A9 p n) 2)):=by
      match hh:(A9 p n).kids with
      |[a,b,c]=>unfold kidN;rw[hh];simp[wtL]
      |[]=>rw[hh]at hl;simp at hl
      |[_]=>rw[hh]at hl;simp at hl
      |[_,_]=>rw[hh]at hl;simp at hl
      |_::_::_::_::_=>rw[hh]at hl;simp at hl
     omega
    ·omega
def LN(f:Int->Int->List CLev):List Int->Int->List CLev
 |[],_=>[]
 |c::r,s=>f c s++LN f r (s+1)
def lvN(p:BProg):Nat->Int->Int->Int->List CLev
 |0,_,_,_=>[]
 |k+1,n,s,e=>
  if(A9 p n).op=9 then lvN p k (kidN (A9 p n) 0) s e++(⟨s+1,e⟩::(lvN p k (kidN (A9 p n) 1) s (e+1)++[⟨s+1,e+1⟩]))
  else if(A9 p n).op=11 then lvN p k (kidN (A9 p n) 0) s e++(⟨s+1,e⟩::lvN p k (kidN (A9 p n) 1) s e)
  else if(A9 p n).op=10 then lvN p k (kidN (A9 p n) 0) s e++(⟨s+1,e⟩::(lvN p k (kidN (A9 p n) 1) s e++(⟨s+1,e⟩::lvN p k (kidN (A9 p n) 2) s e)))
  else LN (fun c s=>lvN p k c s e) (A9 p n).kids s++[⟨s+(A9 p n).kids.length,e⟩]
def Ao(p:BProg)(x:CIns):Int×Int:=
 if x.op=1\/x.op=2\/x.op=3\/x.op=4\/x.op=20 then(0,1) else if x.op=5\/x.op=6\/x.op=7 then(1,1) else if x.op=14\/x.op=16\/x.op=17 then(1,0) else
 if x.op=19 then(p.gens.getD x.a.toNat 0,1) else if x.op=15\/x.op=18 then(0,0) else if x.op=21 then(1,0) else(2,1)
abbrev Met:=Nat->Option CLev
def updM(met:Met)(n:Nat)(l:CLev):Met:=fun j=>if j=n then some l else met j
def BG(N:Nat)(met:Met)(n:Int)(l:CLev):Option Met:=
 if n<0\/(N:Int)<=n\/(met n.toNat≠none/\met n.toNat≠some l) then none else some (updM met n.toNat l)
def Eb(p:BProg)(c:CProg)(env:Int)(next:Bool)(q:Nat)(x:CIns)(l:CLev)(met:Met):Option Met:=
 if l.st<(Ao p x).1\/(x.op=3/\l.env<=x.a)\/(x.op=15/\l.env<=env)\/(x.op=20/\next=false) then none
 else if x.op=21 then(if l.st=1/\l.env=env then some met else none)
 else if x.op=14 then BG c.ins.length met ((q:Int)+1) ⟨l.st-(Ao p x).1+(Ao p x).2,l.env+1⟩
 else if x.op=15 then BG c.ins.length met ((q:Int)+1) ⟨l.st-(Ao p x).1+(Ao p x).2,l.env-1⟩
 else if x.op=18 then BG c.ins.length met x.a ⟨l.st-(Ao p x).1+(Ao p x).2,l.env⟩
 else if x.op=17 then(match BG c.ins.length met x.a ⟨l.st-(Ao p x).1+(Ao p x).2,l.env⟩with
  |none=>none
  |some m=>BG c.ins.length m ((q:Int)+1) ⟨l.st-(Ao p x).1+(Ao p x).2,l.env⟩)
 else BG c.ins.length met ((q:Int)+1) ⟨l.st-(Ao p x).1+(Ao p x).2,l.env⟩
def Dm(p:BProg)(c:CProg)(env:Int)(next:Bool):Nat->Nat->Met->Option Met
 |0,_,met=>some met
 | f+1,q,met=>match met q with
  |none=>Dm p c env next f (q+1) met
  |some l=>match Eb p c env next q ((c.ins[q]?).getD ⟨0,0⟩) l met with
   |none=>none
   |some m=>Dm p c env next f (q+1) m
theorem JO{f:Int->Int->List CLev}{g:Int->Nat}(h:∀c s,(f c s).length=g c): ∀(l:List Int) (s:Int),(LN f l s).length=wtL g l
 |[],_=>by rw[LN,wtL];rfl
 |c::r,s=>by rw[LN,wtL,List.length_append,h,JO h r]
theorem R6(p:BProg): ∀(k:Nat) (n s e:Int),(lvN p k n s e).length=cL p k n
 |0,_,_,_=>by rw[lvN,cL];rfl
 | k+1,n,s,e=>by
  have ih:=R6 p k
  rw[lvN,cL]
  split
  ·simp only[List.length_append,List.length_cons,List.length_nil,ih]
  ·split
   ·simp only[List.length_append,List.length_cons,ih]
   ·split
    ·simp only[List.length_append,List.length_cons,ih];omega
    ·simp only[List.length_append,List.length_cons,List.length_nil,JO (fun c s=>ih c s e)]
structure CSt where
 pos:Int
 env:Int
 next:Bool
def wayM(p:BProg)(c:CProg)(s:CSt):Option Met:=
 if s.pos<0\/(c.ins.length:Int)<=s.pos then none else Dm p c s.env s.next (c.ins.length-s.pos.toNat) s.pos.toNat (updM (fun _=>none) s.pos.toNat ⟨0,s.env⟩)
def mrgM(N:Nat)(W w:Met):Option Met:=
 if(List.range N).all (fun k=>W k=none||w k=none||W k=w k) then some (fun k=>match w k with|none=>W k|some x=>some x) else none
def Fv(p:BProg)(c:CProg):List CSt->Met->Option Met
 |[],W=>some W
 | s::r,W=>match wayM p c s with
  |none=>none
  |some w=>match mrgM c.ins.length W w with
   |none=>none
   |some V=>Fv p c r V
theorem DU{N:Nat}{met m:Met}{n:Int}{l:CLev}(h:BG N met n l=some m)(hd:∀j,N<=j->met j=none): ∀j,N<=j->m j=none:=by
 unfold BG at h
 split at h
 ·cases h
 ·rename_i e
  cases h
  intro j hj
  unfold updM
  rw[if_neg (by omega)]
  exact hd j hj
theorem NR {p:BProg} {c:CProg} {env:Int} {next:Bool} {q:Nat} {x:CIns} {l:CLev} {met m:Met} (h:Eb p c env next q x l met=some m) (hd : ∀ j,c.ins.length<=j->met j=none) : ∀ j,c.ins.length<=j->m j=none:=by
 unfold Eb at h
 split at h
 ·cases h
 ·split at h
  ·split at h
   ·cases h;exact hd
   ·cases h
  ·split at h
   ·exact DU h hd
   ·split at h
    ·exact DU h hd
    ·split at h
     ·exact DU h hd
     ·split at h
      ·split at h
       ·cases h
       ·rename_i e
        exact DU h (DU e hd)
      ·exact DU h hd
theorem KB{p:BProg}{c:CProg}{env:Int}{next:Bool}: ∀(f q:Nat) (met m:Met),Dm p c env next f q met=some m->(∀j,c.ins.length<=j->met j=none)->∀j,c.ins.length<=j->m j=none
 |0,_,_,_,h,hd=>by cases h;exact hd
 | f+1,q,met,m,h,hd=>by
  rw[Dm]at h
  split at h
  ·exact KB f _ _ _ h hd
  ·split at h
   ·cases h
   ·rename_i e
    exact KB f _ _ _ h (NR e hd)
theorem MX{p:BProg}{c:CProg}{s:CSt}{w:Met}(h:wayM p c s=some w): ∀j,c.ins.length<=j->w j=none:=by
 unfold wayM at h
 split at h
 ·cases h
 ·exact KB _ _ _ _ h fun j hj=>by unfold updM;rw[if_neg (by omega)]
theorem QF{N:Nat}{W w V:Met}(hw:∀j,N<=j->w j=none):mrgM N W w=some V ↔ (∀k a b,W k=some a->w k=some b->a=b)/\V=fun k=>match w k with|none=>W k|some x=>some x:=by
 unfold mrgM
 constructor
 ·intro h
  split at h
  ·rename_i e
   cases h
   refine⟨fun k a b ha hb=>?_,rfl⟩
   have hk:k<N:=Classical.byContradiction fun hn=>by rw[hw k (by omega)]at hb;cases hb
   have:=List.all_eq_true.1 e k (List.mem_range.2 hk)
   simp only[ha,hb]at this
   simpa using this
  ·cases h
 ·rintro⟨h,rfl⟩
  rw[if_pos]
  refine List.all_eq_true.2 fun k hk=>?_
  cases ha:W k with
  |none=>simp
  |some a=>
   cases hb:w k with
   |none=>simp
   |some b=>simp[h k a b ha hb]
theorem Fj {p:BProg} {c:CProg} : ∀ (l:List CSt) (W V:Met),Fv p c l W=some V ↔
  (∀k x,W k=some x->V k=some x)/\(∀s∈l, ∃w,wayM p c s=some w /\ ∀k x,w k=some x->V k=some x) /\
  (∀k x,V k=some x->W k=some x \/ ∃s∈l, ∃w,wayM p c s=some w/\w k=some x)
 | [],W,V=>by
  rw[Fv]
  constructor
  ·intro h;cases h
   exact⟨fun _ _ h=>h,fun _ h=>(List.not_mem_nil h).elim,fun _ _ h=>.inl h⟩
  ·rintro⟨h1,_,h3⟩
   congr 1
   funext k
   cases e:V k with
   |some x=>
    rcases h3 k x e with h|⟨s,hs,_⟩
    ·exact h
    ·exact(List.not_mem_nil hs).elim
   |none=>
    cases e2:W k with
    |none=>rfl
    |some x=>rw[h1 k x e2]at e;cases e
 | s::r,W,V=>by
  rw[Fv]
  cases hw:wayM p c s with
  | none =>
   constructor
   ·intro h;cases h
   ·rintro⟨_,h,_⟩
    obtain⟨w,e,_⟩:=h s List.mem_cons_self
    rw[hw]at e;cases e
  | some w =>
   simp only
   have hd:=MX hw
   cases hm:mrgM c.ins.length W w with
   | none =>
    constructor
    ·intro h;cases h
    ·rintro⟨h1,h2,h3⟩
     obtain⟨w',e,e2⟩:=h2 s List.mem_cons_self
     rw[hw]at e;cases e
     have:=(QF (W:=W) (V:=fun k=>match w k with|none=>W k|some x=>some x) hd).2 ⟨fun k a b ha hb=>by
      have:=h1 k a ha;rw[e2 k b hb]at this;cases this;rfl,rfl⟩
     rw[hm]at this;cases this
   | some U =>
    obtain⟨m1,rfl⟩:=(QF hd).1 hm
    simp only
    rw[Fj r _ V]
    constructor
    ·rintro⟨h1,h2,h3⟩
     refine⟨fun k x hk=>h1 k x ?_,fun t ht=>?_,fun k x hk=>?_⟩
     ·cases e:w k with
      |none=>exact hk
      |some b=>rw[m1 k x b hk e]
     ·rcases List.mem_cons.1 ht with rfl|ht
      ·exact⟨w,hw,fun k x hk=>h1 k x (by simp only[hk])⟩
      ·exact h2 t ht
     ·rcases h3 k x hk with h|⟨t,ht,h⟩
      ·cases e:w k with
       |none=>rw[e]at h;exact .inl h
       |some b=>rw[e]at h;cases h;exact .inr ⟨s,List.mem_cons_self,w,hw,e⟩
      ·exact .inr ⟨t,List.mem_cons_of_mem _ ht,h⟩
    ·rintro⟨h1,h2,h3⟩
     obtain⟨w',e,e2⟩:=h2 s List.mem_cons_self
     rw[hw]at e;cases e
     refine⟨fun k x hk=>?_,fun t ht=>h2 t (List.mem_cons_of_mem _ ht),fun k x hk=>?_⟩
     ·cases e:w k with
      |none=>rw[e]at hk;exact h1 k x hk
      |some b=>rw[e]at hk;cases hk;exact e2 k _ e
     ·rcases h3 k x hk with h|⟨t,ht,w',ay,aJ⟩
      ·left
       cases e:w k with
       |none=>exact h
       |some b=>rw[m1 k x b h e]
      ·rcases List.mem_cons.1 ht with rfl|ht
       ·rw[hw]at ay;cases ay
        left;simp only[aJ]
       ·exact .inr ⟨t,ht,w',ay,aJ⟩
theorem Rb{p:BProg}{c:CProg}{l m:List CSt}(h:∀s,s∈l ↔ s∈m)(W:Met):Fv p c l W=Fv p c m W:=by
 have key:∀V,Fv p c l W=some V ↔ Fv p c m W=some V:=fun V=>by
  rw[Fj,Fj]
  simp only[h]
 cases e:Fv p c l W with
 |some V=>exact((key V).1 e).symm
 |none=>
  cases e2:Fv p c m W with
  |none=>rfl
  |some V=>rw[(key V).2 e2]at e;cases e
def Gf(p:BProg)(c:CProg)(l:List CSt):Option (List CLev):=
 match Fv p c l (fun _=>none)with
 |none=>none
 |some W=>if(List.range c.ins.length).all (fun k=>(W k).isSome) then some ((List.range c.ins.length).map fun k=>(W k).getD ⟨0,0⟩) else none
theorem Ph{p:BProg}{c:CProg}{l m:List CSt}(h:∀s,s∈l ↔ s∈m):Gf p c l=Gf p c m:=by unfold Gf;rw[Rb h]
structure CBody where
 node:Int
 size:Nat
 next:Bool
def bodyC(p:BProg)(k:Nat)(n:Int)(q:Nat):List CIns:=cN p k n q++[⟨21,0⟩]
def BD(p:BProg)(k:Nat):List CBody->Nat->List CIns
 |[],_=>[]
 |b::r,q=>bodyC p k b.node q++BD p k r (q+(cL p k b.node+1))
def GT(p:BProg)(k:Nat):List CBody->Nat->List CSt
 |[],_=>[]
 |b::r,q=>⟨q,b.size,b.next⟩::GT p k r (q+(cL p k b.node+1))
def R7(p:BProg)(k:Nat)(b:CBody):List CLev:=lvN p k b.node 0 b.size++[⟨1,b.size⟩]
def Pf(p:BProg)(k:Nat):List CBody->List CLev
 |[]=>[]
 |b::r=>R7 p k b++Pf p k r
theorem E2(p:BProg)(k:Nat)(n:Int)(q:Nat):(bodyC p k n q).length=cL p k n+1:=by unfold bodyC;rw[List.length_append,OH];rfl
theorem JP(p:BProg)(k:Nat)(b:CBody):(R7 p k b).length=cL p k b.node+1:=by unfold R7;rw[List.length_append,R6];rfl
theorem LP(p:BProg)(k:Nat): ∀(l:List CBody) (q:Nat),(BD p k l q).length=(Pf p k l).length
 |[],_=>rfl
 |b::r,q=>by rw[BD,Pf,List.length_append,List.length_append,E2,JP,LP p k r]
theorem O8(p:BProg)(k:Nat): ∀(l:List CBody),(∀b∈l,trE p b.next k b.node b.size)->(Pf p k l).length<=2*wtL (fun b=>cntB p k b) (l.map (·.node))+l.length
 |[],_=>by rw[Pf];simp
 |b::r,h=>by
  have:=O8 p k r fun x hx=>h x (List.mem_cons_of_mem _ hx)
  have:=cL_le p k b.node b.next b.size (h b List.mem_cons_self)
  rw[Pf,List.length_append,JP,List.map_cons,wtL,List.length_cons]
  omega
def LH(m:BMeth):Bool:=decide (m.kind=1)||decide (m.kind=4)
def Bt(p:BProg):List CBody:=p.methods.map fun m=>⟨m.node,(p.gens.getD m.gen.toNat 0).toNat,LH m⟩
def bodsP(p:BProg):List CBody:=Bt p++[⟨p.main,0,false⟩]
theorem O5(p:BProg)(hg:∀n:Nat,0<=p.gens.getD n 0): ∀(l:List BMeth) (s s':List Int),Cl p l s=some s'->∀m∈l,trE p (LH m) 12 m.node (p.gens.getD m.gen.toNat 0).toNat
 |[],_,_,_,m,hm=>by cases hm
 | a::r,s,s',h,m,hm=>by
  rw[Cl]at h
  split at h
  ·cases hw:DH p (decide (a.kind=1)||decide (a.kind=4)) 12 a.node (p.gens.getD a.gen.toNat 0) s with
   | mk b s1 =>
    rw[hw]at h
    cases b with
    |false=>simp[optW]at h
    | true =>
     simp only[optW]at h
     rcases List.mem_cons.1 hm with rfl|hm
     ·have h0:=hg m.gen.toNat
      refine Kq p (LH m) 12 m.node _ s s1 ?_
      rw[show(((p.gens.getD m.gen.toNat 0).toNat:Nat):Int)=p.gens.getD m.gen.toNat 0 by omega]
      exact hw
     ·exact O5 p hg r _ _ h m hm
  ·cases h
theorem H7{p:BProg}(h:okP p=true):(∀g∈p.gens,1<=g/\g<=3)/\p.gens.length<=8/\p.methods.length<=16/\1<=p.nodes.length/\p.nodes.length<=120:=by
 unfold okP Dn at h
 split at h
 ·rename_i hc
  simp only[Bool.and_eq_true,decide_eq_true_eq,List.all_eq_true]at hc
  exact⟨hc.2,by omega,by omega,by omega,by omega⟩
 ·cases h
theorem H8{p:BProg}(h:okP p=true)(n:Nat):0<=p.gens.getD n 0/\p.gens.getD n 0<=3:=by
 have hg:=(H7 h).1
 rw[List.getD_eq_getElem?_getD]
 by_cases hl:n<p.gens.length
 ·rw[List.getElem?_eq_getElem hl]
  have:=hg _ (List.getElem_mem hl)
  simp only[Option.getD_some];omega
 ·rw[List.getElem?_eq_none (by omega)];simp
theorem TI{p:BProg}(h:okP p=true): ∀b∈bodsP p,trE p b.next 12 b.node b.size:=by
 have aG:=fun n=>(H8 h n).1
 unfold okP Dn at h
 split at h
 ·cases hm:Cl p p.methods (List.replicate p.nodes.length (-1))with
  |none=>rw[hm]at h;simp at h
  | some s =>
   rw[hm]at h
   cases hw:DH p false 12 p.main 0 s with
   | mk b s2 =>
    simp only[hw]at h
    cases b with
    |false=>simp[optW]at h
    | true =>
     intro b hb
     unfold bodsP Bt at hb
     rcases List.mem_append.1 hb with hb|hb
     ·obtain⟨m,aS,rfl⟩:=List.mem_map.1 hb
      exact O5 p aG _ _ _ hm m aS
     ·rw[List.mem_singleton]at hb
      rw[hb]
      exact Kq p false 12 p.main 0 s s2 hw
 ·cases h
theorem Jw{α}(f:α->Nat): ∀a b:List α,wtL f (a++b)=wtL f a+wtL f b
 |[],b=>by rw[List.nil_append,wtL,Nat.zero_add]
 |x::r,b=>by rw[List.cons_append,wtL,wtL,Jw f r b,Nat.add_assoc]
theorem NJ{α β}(f:β->Nat)(g:α->β): ∀a:List α,wtL f (a.map g)=wtL (fun x=>f (g x)) a
 |[]=>by rw[List.map_nil,wtL,wtL]
 |x::r=>by rw[List.map_cons,wtL,wtL,NJ f g r]
theorem Vh{p:BProg}(h:okP p=true):wtL (fun b=>cntB p 12 b) ((bodsP p).map (·.node))=p.nodes.length:=by
 rw[<-Ul h]
 unfold bodsP Bt
 rw[List.map_append,Jw,List.map_map,NJ]
 simp only[List.map_cons,List.map_nil,wtL,Nat.add_zero]
 rfl
def LL(p:BProg):Nat:=(BD p 12 (Bt p) 0).length
def Hc(p:BProg):CProg:=⟨BD p 12 (Bt p) 0++bodyC p 12 p.main (LL p),(GT p 12 (Bt p) 0).map (·.pos),(LL p:Int)⟩
def Dz(p:BProg)(m:BMeth)(n:Int):CSt:=⟨n,p.gens.getD m.gen.toNat 0,LH m⟩
def stsP(p:BProg)(c:CProg):List CSt:=List.zipWith (Dz p) p.methods c.starts++[⟨c.main,0,false⟩]
theorem FC(p:BProg)(k:Nat): ∀(l m:List CBody) (q:Nat),BD p k (l++m) q=BD p k l q++BD p k m (q+(BD p k l q).length)
 |[],m,q=>by rw[List.nil_append,BD];rfl
 |b::r,m,q=>by
  rw[List.cons_append,BD,BD,FC p k r m,List.append_assoc,List.length_append,E2,Nat.add_assoc,Nat.add_assoc]
theorem Tw(p:BProg):(Hc p).ins=BD p 12 (bodsP p) 0:=by
 unfold Hc bodsP
 rw[FC,Nat.zero_add]
 simp only[BD,List.append_nil]
 rfl
theorem Vd{p:BProg}(h:okP p=true):(Hc p).ins.length<=2*p.nodes.length+p.methods.length+1:=by
 have:=O8 p 12 (bodsP p) (TI h)
 rw[Vh h]at this
 rw[Tw,LP]
 have e:(bodsP p).length=p.methods.length+1:=by unfold bodsP Bt;rw[List.length_append,List.length_map];rfl
 omega
def fitsC(p:BProg)(N:Nat)(q:Nat)(x:CIns):Bool:=
 if x.op=1 then inB x.a else if x.op=3 then decide (0<=x.a) else if x.op=4\/x.op=6 then decide (3<=x.a/\x.a<3+p.classes.length) else if x.op=5\/x.op=8 then decide (0<=x.a/\x.a<p.slots) else
 if x.op=17\/x.op=18 then decide ((q:Int)<x.a/\x.a<N) else if x.op=19 then decide (0<=x.a/\x.a<p.gens.length) else decide (1<=x.op/\x.op<=21/\x.a=0)
end Go.DL
