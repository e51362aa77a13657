/- A part of the proof. -/
import Derived.Test.YteldimffglchkaaGreatDoorN12
import Derived.Test.YteldimffglchkaaGreatDoorN13
import Derived.Lib.Atoi
import Derived.Lib.ItoaNum
set_option linter.all false
namespace Go.DL
open Go.Proofs.Tryz
open Go Go.Proofs
set_option maxHeartbeats 8000000
structure WorldOK(w:World):Prop where
 good:Cw w.parents=true
 len:∀x∈w.parents,x.length<=1073741824
 few:w.owner.length<=40
 own:∀c∈w.owner,3<=c/\c<3+w.parents.length
theorem Ps(w:World)(l:List Fact)(o:Own)(O:Sig)(h:WorldOK w)(hl:l.length<=1073741824)(hf:∀f∈l,f.wt<=1073741824):
  DCall prog 257 [.agg (MB w),.slice (l.map D3) o] O fun x U'=>(∃d,x=.ret (.tup [d,.bool (l.all (H7 w))]))/\U'=O:=by
 have hlen:=Hz h.good
 have aY:=h.few
 refine en func257 ntmps257 ?_
 try refine gz ?_
 refine A7 (Pr w O h.good h.len h.few h.own) (fun d U' hr=>?_) (fun d U' hr=>by obtain⟨_,_,_,h,_⟩:=hr;cases h)
 obtain⟨iw,us,be,h1,rfl⟩:=hr
 simp only[DE.ret.injEq]at h1
 subst h1
 repeat' first|refine gz ?_|refine D2 (JX w us iw l o _ (w6 ..) (by omega) (by omega) hl hf) ?_|refine callPG (JX w us iw l o _ (w6 ..) (by omega) (by omega) hl hf) ?_|refine gz ?_|apply gy<;>intro hh
 refine fin2 (U':=O) ?_
 exact⟨⟨_,rfl⟩,rfl⟩
theorem Sq(w:World)(f:Fact)(O:Sig)(h:WorldOK w)(hf:f.wt<=1073741824):DCall prog 204 [.agg (MB w),.agg (D3 f)] O (rS (dI (if H7 w f then 0 else 2)) O):=by
 refine en func204 ntmps204 ?_
 try refine gz ?_
 refine A7 (Ps w [f] .clip O h (by simp) (by simpa using hf)) (fun d U' hr=>?_) (fun d U' hr=>by obtain⟨⟨_,h⟩,_⟩:=hr;cases h)
 obtain⟨⟨e,h1⟩,h2⟩:=hr
 simp only[DE.ret.injEq]at h1
 subst h1
 rw[h2]
 try refine gz ?_
 exact fe1 trivial
@[reducible,instance] def a204:=fun w f O=>ah2 (@Sq w f O)
theorem K7: ∀(cs:List BClass) (n m:Int),C6 n cs=some m->∀c∈cs,c.slots.length<=4
 |[],_,_,_,c,hc=>by simp at hc
 | x::r,n,m,h,c,hc=>by
  rw[C6]at h
  split at h
  ·cases h
  ·rename_i h4
   split at h
   ·cases h
   ·rcases List.mem_cons.1 hc with rfl|hc
    ·omega
    ·exact K7 r _ _ h c hc
theorem JC: ∀(cs:List BClass) (i:Nat),(∀c∈cs,c.slots.length<=4)->(ownersF cs i).length<=4*cs.length /\ ∀x∈ownersF cs i,3+(i:Int)<=x/\x<3+(i:Int)+cs.length
 |[],_,_=>by simp[ownersF]
 | c::r,i,h=>by
  obtain⟨h1,h2⟩:=JC r (i+1) fun c hc=>h c (by simp[hc])
  have h3:=h c (by simp)
  rw[ownersF]
  refine⟨by simp only[List.length_append,List.length_replicate,List.length_cons];omega,fun x hx=>?_⟩
  rcases List.mem_append.1 hx with hx|hx
  ·have:=List.eq_of_mem_replicate hx
   simp only[List.length_cons];omega
  ·have:=h2 x hx
   simp only[List.length_cons];omega
theorem worldOK{p:BProg}(hp:p.wt<=1073741824)(h:AA p=true):WorldOK (NH p):=by
 obtain⟨p1,p2,p3,p4,p5,p6,p7⟩:=p.wt_le
 unfold AA at h
 simp only[Bool.and_eq_true,decide_eq_true_eq]at h
 obtain⟨aB,h⟩:=h
 split at h
 ·cases h
 ·rename_i n hn
  simp only[Bool.and_eq_true,decide_eq_true_eq]at h
  obtain⟨⟨_,hg⟩,_⟩:=h
  obtain⟨o1,o2⟩:=JC p.classes 0 (K7 _ _ _ hn)
  refine⟨hg,fun x hx=>?_,by show(ownersF p.classes 0).length<=40;omega,fun c hc=>?_⟩
  ·obtain⟨c,hc,rfl⟩:=List.mem_map.1 (show x∈p.classes.map (·.parents) from hx)
   obtain⟨k,hk,rfl⟩:=List.getElem_of_mem hc
   have:=p5 k hk
   unfold BClass.wt at this;omega
  ·have:=o2 c hc
   show 3<=c/\c<3+((p.classes.map (·.parents)).length:Int)
   rw[List.length_map];omega
def Ik(p:BProg)(m:BMeth):Bool:=decide (1<=m.kind/\m.kind<=4)&&decide (0<=m.gen/\m.gen<p.gens.length)&&H7 (NH p) m.fact&&decide (m.fact.speaks<=p.gens.getD m.gen.toNat 0)
def Cm(p:BProg):List BMeth->List Int->Option (List Int)
 |[],s=>some s
 | m::r,s=>if Ik p m then (match optW (DJ p (decide (m.kind=1) || decide (m.kind=4)) 12 m.node (p.gens.getD m.gen.toNat 0) s) with
   |none=>none
   |some s'=>Cm p r s') else none
def Dr(p:BProg):Option (List Int):=
 if AA p&&(decide (p.gens.length<=8)&&decide (p.methods.length<=16)&&decide (1<=p.nodes.length)&&decide (p.nodes.length<=120))&&p.gens.all (fun g=>decide (1<=g/\g<=3)) then
  match Cm p p.methods (List.replicate p.nodes.length (-1))with
  |none=>none
  |some s=>match optW (DJ p false 12 p.main 0 s)with
   |none=>none
   |some s2=>if -1∈s2 then none else some s2
 else none
def SzR(p:BProg)(io:Nat)(O:Sig)(x:DE)(U':Sig):Prop:=Keep (· = io) O U'/\(∃d,U' io=some (.cells [d])) /\
 match Dr p with
 |none=>x=.panic unf
 |some s=>x=.ret (.tup [])/\U' io=some (.cells [sl (cI s)])
theorem Pu (p:BProg) (io:Nat) (O:Sig) (hp:p.wt<=1073741824) (am:O io=some (.cells [.nils])):DCall prog 195 [.cptr (Ai p) 0, .ptr io 0] O (SzR p io O):=by
 obtain⟨p1,p2,p3,p4,p5,p6,p7⟩:=p.wt_le
 have aL:∀c∈p.classes,c.parents.length<=1073741824/\c.slots.length<=1073741824/\c.inits.length<=1073741824:=fun c hc=>by
  obtain⟨k,hk,rfl⟩:=List.getElem_of_mem hc
  have:=p5 k hk
  have ba:(p.classes[k]).wt=1+(p.classes[k]).parents.length+(p.classes[k]).slots.length+(p.classes[k]).inits.length:=rfl
  omega
 have bc:∀c∈p.classes,c.parents.length<=1073741824:=fun c hc=>(aL c hc).1
 have bb:∀c∈p.classes,c.slots.length<=1073741824:=fun c hc=>(aL c hc).2.1
 have ai:Dr p=none->∀U' d,Keep (· = io) O U'->U' io=some (.cells [d])->SzR p io O (.panic unf) U':=fun h U' d hK hd=>⟨hK,⟨d,hd⟩,by rw[h]⟩
 refine en func195 ntmps195 ?_
 cases hc:AA p with
 |false=>
  have hL:Dr p=none:=by unfold Dr;rw[hc];rfl
  repeat' first|(exact finP (U':=O) (ai hL _ _ (Keep.refl _ _) am))|refine gf hc ?_ o195|apply gy<;>intro hh
 | true =>
  have hW:=worldOK hp hc
  by_cases aW:p.gens.length<=8/\p.methods.length<=16/\1<=p.nodes.length/\p.nodes.length<=120
  ·have aj:Dr p=if p.gens.all (fun g=>decide (1<=g/\g<=3)) then
     match Cm p p.methods (List.replicate p.nodes.length (-1))with
     |none=>none
     |some s=>match optW (DJ p false 12 p.main 0 s)with
      |none=>none
      |some s2=>if -1∈s2 then none else some s2
    else none:=by unfold Dr;rw[hc];simp[aW]
   try refine gf hc ?_ o195
   refine Cg [0,1,4,5,7,34,35,48,49,50,51,52,53,54,55,56,57,58,59,60,61,62,63,64,65,66,67,68,69,70,71,72,73,74,75,76,77,78,79,80,81,82,83,84,85,86,87,88,89,90,91,92,93,94,95,96,97,98,99,100,101,102,103,104,105,106,107,108,109,110,111,112,113,114,115,116,117,118,119,120,121,122,123,124,125,126,127,128,129] (fun (i:Nat)=>i<=p.gens.length/\p.gens.all (fun g=>decide (1<=g/\g<=3))=(p.gens.drop i).all (fun g=>decide (1<=g/\g<=3))) (fun i=>[(36,dI i)]) (fun _=>O) (fun i=>p.gens.length-i) (0) td3 (fun i hI=>?_)
   obtain⟨hi,hA⟩:=hI
   by_cases ar:i<p.gens.length
   ·rw[Ab ar,List.all_cons]at hA
    by_cases hq:1<=p.gens[i]/\p.gens[i]<=3
    ·rw[decide_eq_true hq,Bool.true_and]at hA
     try refine gz ?_ o195
     exact⟨i+1,⟨by omega,hA⟩,td1,wkR⟩
    ·rw[decide_eq_false hq,Bool.false_and]at hA
     have hL:Dr p=none:=by rw[aj,hA];rfl
     repeat' first|(exact finP (U':=O) (ai hL _ _ (Keep.refl _ _) am))|refine gz ?_ o195|apply gy<;>intro hh
     all_goals (exfalso;omega)
   ·rw [Aj ar,List.all_nil] at hA
    rw[hA,if_pos rfl]at aj
    have ah:=hA
    try refine gz ?_ o195
    refine Tx (Sx p.nodes.length O (by omega) (by omega)) (fun d U' hr=>?_) (fun d U' hr=>by obtain⟨r,_,h,_⟩:=hr;cases h)
    obtain⟨r,ak,h1,rfl⟩:=hr
    simp only[DE.ret.injEq]at h1
    subst h1
    have ae:io≠r:=fun e=>by rw[e,ak]at am;cases am
    have bd:(ownersF p.classes 0).length<=40:=hW.few
    try refine gf (gi am ae) ?_ o195
    refine Ft [0,1,4,5,57,58,122,123,124,125,126,127,128,129] (fun (i:Nat) (s:List Int) (U1:Sig)=>i<=p.methods.length/\s.length=p.nodes.length/\Keep (· = io) O U1/\U1 io=some (.cells [.sref r 0 p.nodes.length p.nodes.length])/\U1 r=some (.cells (s.map dI))/\Cm p p.methods (List.replicate p.nodes.length (-1))=Cm p (p.methods.drop i) s) (fun i _ _=>[(59,dI i)]) (fun _ _ U1=>U1) (fun i _ _=>p.methods.length-i) (0) (List.replicate p.nodes.length (-1)) (_) (by exact⟨by omega,by simp,((Keep.refl _ O).fresh ak).trans (fun j o h1 h2=>by rw[w7 _ _ h2];exact h1),w6 .., by rw[w7 _ _ (Ne.symm ae),w6],rfl⟩) (fun i s U1 hI=>?_)
    clear ar
    obtain⟨hi,aE,aw,ag,aH,hM⟩:=hI
    by_cases ar:i<p.methods.length
    ·rw [Ab ar,Cm] at hM
     have aS:=p6 i ar
     generalize hm:p.methods[i]=m at*
     have bi:m.fact.wt<=1073741824:=by unfold BMeth.wt at aS;omega
     have hsz:=Fact.size_le m.fact
     cases ax:Ik p m with
     | false =>
      rw[ax]at hM
      have hL:Dr p=none:=by rw[aj,hM];rfl
      repeat' first|(exact finP (U':=U1) (ai hL _ _ aw ag))|refine gf hm ?_ o195|apply gy<;>intro hh
      all_goals
       exfalso
       rename_i k1 k2 k3 k4 k5 k6
       revert ax
       simp only[Ik]
       rw[decide_eq_true (by omega),decide_eq_true (by omega),k5,decide_eq_true (by rw[List.getD_eq_getElem?_getD,List.getElem?_eq_getElem (by omega)];exact k6)]
       simp
     | true =>
      rw[ax,if_pos rfl]at hM
      simp only[Ik,Bool.and_eq_true,decide_eq_true_eq]at ax
      obtain⟨⟨⟨hk,bf⟩,aX⟩,aP⟩:=ax
      have aI:p.gens.getD m.gen.toNat 0=p.gens[m.gen.toNat]'(by omega):=by rw[List.getD_eq_getElem?_getD,List.getElem?_eq_getElem (by omega)];rfl
      rw[aI]at aP hM
      have bh:1<=p.gens[m.gen.toNat]'(by omega)/\p.gens[m.gen.toNat]'(by omega)<=3:=by
       have:=List.all_eq_true.1 ah _ (List.getElem_mem (show m.gen.toNat<p.gens.length by omega))
       simpa using this
      repeat' first|refine gf (gi hm aX) ?_ o195|apply gy<;>intro hh
      ·have hb:(decide (m.kind=1)||decide (m.kind=4))=true:=by simp[hh]
       rw[hb]at hM
       refine A7 (IG p io r (true) m.node (p.gens[m.gen.toNat]'(by omega)) s U1 hp ag aH aE ae (by omega) (by omega)) (fun d U' hr=>?_) (fun d U' hr=>?_)
       ·obtain⟨s',aG,rfl,⟨q1,q2,q3⟩,_⟩:=hr.ret
        rw[aG]at hM
        try refine gz ?_ o195
        exact⟨i+1,s',U',⟨by omega,q2,fun j o h1 h2=>q3 j o (aw j o h1 h2) (fun e=>by rw[e,ak]at h1;cases h1),q3 io _ ag ae,q1,hM⟩,td1,wkR⟩
       ·obtain⟨hn,rfl,hb⟩:=hr.pan
        rw[hn]at hM
        exact finP (U':=U') (ai (by rw[aj,hM]) _ _ (fun j o h1 h2=>hb j o (aw j o h1 h2) (fun e=>by rw[e,ak]at h1;cases h1)) (hb io _ ag ae))
      ·have hb:(decide (m.kind=1)||decide (m.kind=4))=decide (m.kind=4):=by simp[hh]
       rw[hb]at hM
       refine A7 (IG p io r (decide (m.kind=4)) m.node (p.gens[m.gen.toNat]'(by omega)) s U1 hp ag aH aE ae (by omega) (by omega)) (fun d U' hr=>?_) (fun d U' hr=>?_)
       ·obtain⟨s',aG,rfl,⟨q1,q2,q3⟩,_⟩:=hr.ret
        rw[aG]at hM
        try refine gz ?_ o195
        exact⟨i+1,s',U',⟨by omega,q2,fun j o h1 h2=>q3 j o (aw j o h1 h2) (fun e=>by rw[e,ak]at h1;cases h1),q3 io _ ag ae,q1,hM⟩,td1,wkR⟩
       ·obtain⟨hn,rfl,hb⟩:=hr.pan
        rw[hn]at hM
        exact finP (U':=U') (ai (by rw[aj,hM]) _ _ (fun j o h1 h2=>hb j o (aw j o h1 h2) (fun e=>by rw[e,ak]at h1;cases h1)) (hb io _ ag ae))
    ·rw[Aj ar,Cm]at hM
     rw[hM]at aj
     simp only at aj
     try refine gz ?_ o195
     refine A7 (IG p io r false p.main 0 s U1 hp ag aH aE ae (by omega) (by omega)) (fun d U' hr=>?_) (fun d U' hr=>?_)
     ·obtain⟨s2,aQ,rfl,⟨q1,q2,q3⟩,_⟩:=hr.ret
      rw[aQ]at aj
      simp only at aj
      have aZ:Keep (· = io) O U':=fun j o h1 h2=>q3 j o (aw j o h1 h2) (fun e=>by rw[e,ak]at h1;cases h1)
      have aq:=q3 io _ ag ae
      have aF:U'=mS (U'.del r) (some (r,p.nodes.length,[])) (cI s2):=by
       funext j
       by_cases hj:j=r
       ·subst hj;rw[mS,w6,q1,Kc,List.append_nil]
       ·rw[mS,w7 _ _ hj];simp[Sig.del,hj]
      rw[aF]
      have aK:(U'.del r) io=some (.cells ([]++mD (some (r,p.nodes.length,[])) (cI s2).length::[])):=by
       simp only[Sig.del,ae,if_false,mD,MC,q2];exact aq
      have aT:mOK (U'.del r) 1 (some (r,p.nodes.length,[])) (cI s2):=⟨by simp[Sig.del],by rw[Kc];simp[q2],by simp[q2],Cc _⟩
      have aO:Keep (· = io) O ((U'.del r).set io (.cells [sl (cI s2)])):=fun j o h1 h2=>by
       have aV:¬j=r:=fun e=>by rw[e,ak]at h1;cases h1
       rw[w7 _ _ h2]
       simp only[Sig.del,aV,if_false]
       exact aZ j o h1 h2
      refine mfrC [] [] ?_ aK aT
      simp only[List.nil_append]
      by_cases aA : -1∈s2
      ·rw[if_pos aA]at aj
       repeat' first|(exact finP (U':=(U'.del r).set io (.cells [sl (cI s2)])) (ai aj _ _ aO (w6 ..)))|refine gf aA ?_ o195|apply gy<;>intro hh
      ·rw[if_neg aA]at aj
       try refine gf aA ?_ o195
       refine DZ (U':=(U'.del r).set io (.cells [sl (cI s2)])) ?_
       exact⟨aO,⟨_,w6 ..⟩,by rw[aj];exact⟨rfl,w6 ..⟩⟩
     ·obtain⟨hn,rfl,hb⟩:=hr.pan
      rw[hn]at aj
      exact finP (U':=U') (ai aj _ _ (fun j o h1 h2=>hb j o (aw j o h1 h2) (fun e=>by rw[e,ak]at h1;cases h1)) (hb io _ ag ae))
  ·have hL:Dr p=none:=by unfold Dr;rw[if_neg];simp only[Bool.and_eq_true,decide_eq_true_eq];omega
   repeat' first|(exact finP (U':=O) (ai hL _ _ (Keep.refl _ _) am))|refine gf hc ?_ o195|apply gy<;>intro hh
   all_goals (exfalso;omega)
theorem Py(p:BProg)(O:Sig)(hp:p.wt<=1073741824):DCall prog 130 [.agg (Ai p)] O fun x U'=>(∃d,x=.ret (.tup [d,.bool (Dr p).isSome]) /\ ∀s,Dr p=some s->d=sl (cI s))/\U'=O:=by
 refine en func130 ntmps130 ?_
 try refine gz ?_ [] [4]
 refine newV (fun io am=>?_)
 try refine gz ?_ [] [4]
 refine A7 (SA 195 [.cptr (Ai p) 0,.ptr io 0] (O.set io (.cells [.nils])) (fun U1=>SzR p io U1) (fun i hi=>Pu p io _ hp (by rw[w7 _ _ fun e=>by rw[e]at hi;rw[w6 ..]at hi;cases hi];exact w6 ..)) (fun U1 d U2 h=>?_) (fun i U2 x hi h=>h.1 i _ (w6 ..) (fun e=>by rw[e,w6]at hi;cases hi))) (fun d U' hr=>?_) (fun d U' hr=>?_)
 ·obtain⟨_,_,h⟩:=h
  split at h
  ·simpa using h
  ·exact absurd h.1 (by simp)
 ·obtain⟨i,U2,hi,rfl,hr⟩:=hr
  rcases hr with⟨e,⟨hK,⟨d0,aN⟩,h⟩,h2⟩|⟨⟨hK,⟨d0,aN⟩,h⟩,h2⟩
  ·simp only[DE.ret.injEq]at h2
   subst h2
   cases hL:Dr p with
   |none=>rw[hL]at h;exact absurd h (by simp)
   | some s =>
    rw[hL]at h
    obtain⟨_,aq⟩:=h
    have au:io≠i:=fun e=>by rw[<-e,w6]at hi;cases hi
    have ap:(U2.del i) io=some (.cells [sl (cI s)]):=by simp only[Sig.del,au,if_false];exact aq
    try refine gf ap ?_ [] [4]
    refine fin2 (U':=O) ?_ (hU:=?_)
    ·exact⟨⟨_,rfl,fun s' h=>by cases h;rfl⟩,rfl⟩
    ·intro j o hj
     have e1:j≠io:=fun e=>by rw[e,am]at hj;cases hj
     have e2:=hK j o (by rw[w7 _ _ (fun e=>by rw[e]at hj;rw[w7 _ _ (Ne.symm au),hj]at hi;cases hi),w7 _ _ e1];exact hj) e1
     simp only[Sig.del]
     rw[if_neg (fun e=>by rw[e]at hj;rw[w7 _ _ (Ne.symm au),hj]at hi;cases hi)]
     exact e2
  ·simp only[DE.ret.injEq]at h2
   subst h2
   have au:io≠i:=fun e=>by rw[<-e,w6]at hi;cases hi
   have ap:(U2.del i) io=some (.cells [d0]):=by simp only[Sig.del,au,if_false];exact aN
   have hL:Dr p=none:=by
    cases hL:Dr p with
    |none=>rfl
    |some s=>rw[hL]at h;exact absurd h.1 (by simp)
   rw[hL]
   try refine gf ap ?_ [] [4]
   refine fin2 (U':=O) ?_ (hU:=?_)
   ·exact⟨⟨_,rfl,fun s' h=>by cases h⟩,rfl⟩
   ·intro j o hj
    have e1:j≠io:=fun e=>by rw[e,am]at hj;cases hj
    have e2:=hK j o (by rw[w7 _ _ (fun e=>by rw[e]at hj;rw[w7 _ _ (Ne.symm au),hj]at hi;cases hi),w7 _ _ e1];exact hj) e1
    simp only[Sig.del]
    rw[if_neg (fun e=>by rw[e]at hj;rw[w7 _ _ (Ne.symm au),hj]at hi;cases hi)]
    exact e2
 ·obtain⟨i,U2,hi,rfl,hr⟩:=hr
  rcases hr with⟨e,_,h2⟩|⟨_,h2⟩<;>cases h2
theorem E8{a b:List D}(h:WkL a b):WkD (.agg a) (.agg b):=fun _ _ ⟨vs,e,hr⟩=>⟨vs,e,h.rep hr⟩
theorem CE{a b:List D}(h:WkL a b):WkD (.tup a) (.tup b):=fun _ _ ⟨vs,e,hr⟩=>⟨vs,e,h.rep hr⟩
def okP(p:BProg):Bool:=(Dr p).isSome
theorem Eh{p:BProg}(h:okP p=true):AA p=true:=by
 unfold okP Dr at h
 cases hc:AA p
 ·rw[hc]at h;simp at h
 ·rfl
theorem UO(p:BProg)(O:Sig)(hp:p.wt<=1073741824:=by exact sd):DCall prog 59 [.agg (Ai p)] O (rS (dI (if okP p then 0 else 2)) O):=by
 refine en func59 ntmps59 ?_
 try refine gz ?_
 refine A7 (Py p O hp) (fun d U' hr=>?_) (fun d U' hr=>by obtain⟨⟨_,h,_⟩,_⟩:=hr;cases h)
 obtain⟨⟨d,h1,h2⟩,h3⟩:=hr
 simp only[DE.ret.injEq]at h1
 subst h1
 rw[h3]
 cases hk:okP p<;>unfold okP at hk<;>rw[hk]
 ·try refine gz ?_
  exact fe1 trivial
 ·try refine gz ?_
  exact fe1 trivial
@[reducible,instance] def a59:=fun p O=>ah1 (@UO p O)
theorem SG(p:BProg)(c:Int)(O:Sig)(hp:p.wt<=1073741824:=by exact sd):DCall prog 172 [.agg (Ai p),dI c] O (rS (.bool (ownF p c&&okP p)) O):=by
 obtain⟨p1,p2,p3,p4,p5,p6,p7⟩:=p.wt_le
 refine en func172 ntmps172 ?_
 cases hk:okP p
 ·repeat' first|refine gf hk ?_|apply gy<;>intro hh
  any_goals (first|(refine fin1 (U':=O) ?_;exact⟨by first|rfl|(simp[ownF];done)|(simp_all [ownF];done)|(rw[Ag,Bool.eq_iff_iff];simp_all [ownF]<;>omega),rfl⟩)|fail)
 ·repeat' first|refine gf hk ?_|apply gy<;>intro hh
  any_goals (first|(refine fin1 (U':=O) ?_;exact⟨by first|rfl|(simp[ownF];done)|(simp_all [ownF];done)|(rw[Ag,Bool.eq_iff_iff];simp_all [ownF]<;>omega),rfl⟩)|fail)
@[reducible,instance] def a172:=fun p c O=>ah1 (@SG p c O)
theorem T6(p:BProg)(c:Int)(O:Sig)(hp:p.wt<=1073741824:=by exact sd):DCall prog 101 [.agg (Ai p),dI c] O (rS (.tup [sl (cI (if ownF p c&&okP p then hasP p c else [])),dI (if ownF p c&&okP p then 0 else 2)]) O):=by
 refine en func101 ntmps101 ?_
 cases hk:ownF p c&&okP p
 ·try refine gf hk ?_
  exact fe2 (d':=sl []) trivial
 ·have ho:3<=c/\c<3+p.classes.length:=by simp only[ownF,Bool.and_eq_true,decide_eq_true_eq]at hk;exact hk.1
  obtain⟨h1,h2⟩:=ho
  try refine gf hk ?_
  exact fe2 trivial
@[reducible,instance] def a101:=fun p c O=>ah1 (@T6 p c O)
def EntOK(s:List Int):Prop:= ∀x∈s,x = -1\/0<=x
theorem EntOK.set{s:List Int}(h:EntOK s)(n:Nat){v:Int}(hv:0<=v):EntOK (s.set n v):=fun x hx=>by
 rcases List.mem_or_eq_of_mem_set hx with hx|rfl
 ·exact h x hx
 ·exact .inr hv
theorem walkKids_ent{f:Int->Int->List Int->Bool×List Int}{x:BNode}{size:Int}(hf:∀c z s,0<=z->EntOK s->EntOK (f c z s).2)(hz:0<=size): ∀(l:List Int) (j:Nat) (s:List Int),EntOK s->EntOK (Cr f x size j l s).2
 |[],_,_,h=>h
 |c::r,j,s,h=>by
  rw[Cr]
  have h1:=hf c (if x.op=9/\j=1 then size+1 else size) s (by split<;>omega) h
  split
  ·rename_i s' e;rw[e]at h1;exact h1
  ·rename_i s' e;rw[e]at h1;exact walkKids_ent hf hz r _ _ h1
theorem HM(p:BProg)(inM:Bool): ∀(k:Nat) (node size:Int) (s:List Int),0<=size->EntOK s->EntOK (DJ p inM k node size s).2
 |0,_,_,_,_,h=>h
 | k+1,node,size,s,hz,h=>by
  rw[DJ]
  split
  ·exact h
  ·split
   ·exact h.set _ hz
   ·exact walkKids_ent (fun c z s hz hs=>HM p inM k c z s hz hs) hz _ _ _ (h.set _ hz)
theorem methsP_ent(p:BProg)(hg:∀g∈p.gens,1<=g): ∀(l:List BMeth) (s s':List Int),Cm p l s=some s'->EntOK s->EntOK s'
 |[],s,s',h,hs=>by rw[Cm]at h;cases h;exact hs
 | m::r,s,s',h,hs=>by
  rw[Cm]at h
  split at h
  ·rename_i hm
   have h0:0<=p.gens.getD m.gen.toNat 0:=by
    rw[List.getD_eq_getElem?_getD]
    cases aI:p.gens[m.gen.toNat]? with
    |none=>simp
    |some g=>have:=hg g (List.mem_of_getElem? aI);simp only[Option.getD_some];omega
   have he:=HM p (decide (m.kind=1)||decide (m.kind=4)) 12 m.node (p.gens.getD m.gen.toNat 0) s h0 hs
   cases hw:DJ p (decide (m.kind=1)||decide (m.kind=4)) 12 m.node (p.gens.getD m.gen.toNat 0) s with
   |mk b s1=>
    rw[hw]at h he
    cases b with
    |false=>simp[optW]at h
    |true=>simp only[optW]at h;exact methsP_ent p hg r s1 s' h he
  ·cases h
def InR(n:Int)(k:Nat):Prop:=0<=n/\n<k
def cntB(p:BProg):Nat->Int->Nat
 |0,_=>1
 |k+1,node=>1+wtL (cntB p k) (A9 p node).kids
def negS(s:List Int):Nat:=s.countP (· < 0)
theorem NX: ∀(s:List Int) (n:Nat) (v:Int),n<s.length->s.getD n 0<0->0<=v->negS (s.set n v)+1=negS s
 |[],n,v,h,_,_=>by simp at h
 |x::r,0,v,_,h,hv=>by
  have hx:x<0:=h
  simp only[List.set_cons_zero,negS,List.countP_cons,hx,decide_true,if_true]
  rw[if_neg (by simpa using hv)]
 |x::r,n+1,v,hl,h,hv=>by
  have:=NX r n v (by simpa using hl) (by simpa using h) hv
  simp only[negS]at this
  simp only[List.set_cons_succ,negS,List.countP_cons]
  omega
theorem Hh{p:BProg}{k:Nat}{f:Int->Int->List Int->Bool×List Int}{x:BNode}{size:Int}
  (hf:∀c z s s',f c z s=(true,s')->s.length=p.nodes.length->0<=z->s'.length=s.length/\cntB p k c+negS s'=negS s) (hz:0<=size) :
  ∀(l:List Int) (j:Nat) (s s':List Int),Cr f x size j l s=(true,s')->s.length=p.nodes.length->s'.length=s.length/\wtL (cntB p k) l+negS s'=negS s
 |[],j,s,s',h,hs=>by
  rw[Cr]at h;cases h
  exact⟨rfl,by rw[wtL];omega⟩
 | c::r,j,s,s',h,hs=>by
  rw[Cr]at h
  cases hc:f c (if x.op=9/\j=1 then size+1 else size) s with
  | mk b s1 =>
   rw[hc]at h
   cases b with
   |false=>simp at h
   |true=>
    obtain⟨h2,h3⟩:=hf _ _ _ _ hc hs (by split<;>omega)
    obtain⟨h5,h6⟩:=Hh hf hz r (j+1) s1 s' h (by omega)
    exact⟨by omega,by rw[wtL];omega⟩
theorem HL(p:BProg)(inM:Bool): ∀(k:Nat) (node size:Int) (s s':List Int),DJ p inM k node size s=(true,s')->s.length=p.nodes.length->0<=size->s'.length=s.length/\cntB p k node+negS s'=negS s
 |0,_,_,_,_,h,_,_=>by simp[DJ]at h
 | k+1,node,size,s,s',h,hs,hz=>by
  rw[DJ]at h
  split at h
  ·simp at h
  ·rename_i h1
   split at h
   ·simp at h
   ·rename_i h2
    obtain⟨h5,h6⟩:=Hh (HL p inM k) hz (A9 p node).kids 0 _ s' h (by simpa using hs)
    have hn:node.toNat<s.length:=by omega
    have h7:=NX s node.toNat size hn (by omega) hz
    exact⟨by rw[h5,List.length_set],by rw[cntB];omega⟩
theorem JG(p:BProg): ∀(l:List BMeth) (s s':List Int),Cm p l s=some s'->s.length=p.nodes.length->(∀m∈l,0<=p.gens.getD m.gen.toNat 0)->
  s'.length=s.length/\wtL (fun m:BMeth=>cntB p 12 m.node) l+negS s'=negS s
 |[],s,s',h,hs,_=>by rw[Cm]at h;cases h;exact⟨rfl,by rw[wtL];omega⟩
 | m::r,s,s',h,hs,hg=>by
  rw[Cm]at h
  split at h
  ·cases hw:DJ p (decide (m.kind=1)||decide (m.kind=4)) 12 m.node (p.gens.getD m.gen.toNat 0) s with
   | mk b s1 =>
    rw[hw]at h
    cases b with
    |false=>simp[optW]at h
    |true=>
     simp only[optW]at h
     obtain⟨h1,h2⟩:=HL p _ _ _ _ _ _ hw hs (hg m (by simp))
     obtain⟨h3,h4⟩:=JG p r s1 s' h (by omega) fun x hx=>hg x (by simp[hx])
     exact⟨by omega,by rw[wtL];omega⟩
  ·cases h
theorem Ua(n:Nat):negS (List.replicate n (-1))=n:=by
 unfold negS
 rw[List.countP_replicate];simp
theorem Qw: ∀s:List Int,EntOK s-> -1∉s->negS s=0:=fun s h hn=>by
 unfold negS
 rw[List.countP_eq_zero]
 intro x hx
 have h1:=h x hx
 have h2:x ≠ -1:=fun e=>hn (e ▸ hx)
 simp only[decide_eq_true_eq]
 omega
theorem Ul{p:BProg}(h:okP p=true):wtL (fun m:BMeth=>cntB p 12 m.node) p.methods+cntB p 12 p.main=p.nodes.length:=by
 unfold okP Dr at h
 split at h
 ·rename_i hc
  simp only[Bool.and_eq_true,decide_eq_true_eq,List.all_eq_true]at hc
  obtain⟨_,hg⟩:=hc
  have aJ:∀n:Nat,0<=p.gens.getD n 0:=fun n=>by
   rw[List.getD_eq_getElem?_getD]
   by_cases hl:n<p.gens.length
   ·rw[List.getElem?_eq_getElem hl]
    have:=(hg _ (List.getElem_mem hl)).1
    simp only[Option.getD_some];omega
   ·rw[List.getElem?_eq_none (by omega)];simp
  cases hm:Cm p p.methods (List.replicate p.nodes.length (-1))with
  |none=>rw[hm]at h;simp at h
  | some s =>
   rw[hm]at h
   obtain⟨k1,k2⟩:=JG p p.methods _ s hm (by simp) fun m _=>aJ _
   rw[List.length_replicate]at k1
   rw[Ua]at k2
   cases hw:DJ p false 12 p.main 0 s with
   | mk b s2 =>
    simp only[hw]at h
    cases b with
    |false=>simp[optW]at h
    | true =>
     obtain⟨m1,m2⟩:=HL p false 12 _ _ _ _ hw k1 (Int.le_refl _)
     have e1:=methsP_ent p (fun g hx=>(hg g hx).1) p.methods _ s hm (fun x hx=>by rw[List.eq_of_mem_replicate hx];simp[EntOK]<;>omega)
     have e2:=HM p false 12 p.main 0 s (Int.le_refl _) e1
     rw[hw]at e2
     simp only[optW]at h
     split at h
     ·simp at h
     ·rename_i aR
      have:=Qw s2 e2 aR
      omega
 ·cases h
structure CIns where
 op:Int
 a:Int
 deriving DecidableEq
structure CProg where
 ins:List CIns
 starts:List Int
 main:Int
structure CLev where
 st:Int
 env:Int
 deriving DecidableEq
def kidN(x:BNode)(i:Nat):Int:=(x.kids[i]?).getD 0
def cL(p:BProg):Nat->Int->Nat
 |0,_=>0
 |k+1,n=>
  if(A9 p n).op=9 then cL p k (kidN (A9 p n) 0)+(cL p k (kidN (A9 p n) 1)+2)
  else if(A9 p n).op=11 then cL p k (kidN (A9 p n) 0)+(cL p k (kidN (A9 p n) 1)+1)
  else if(A9 p n).op=10 then cL p k (kidN (A9 p n) 0)+(cL p k (kidN (A9 p n) 1)+(cL p k (kidN (A9 p n) 2)+2))
  else wtL (cL p k) (A9 p n).kids+1
def Tv(o:Int):Int:=if o=1 then 1 else if o=2 then 2 else if o=3 then 3 else if o=4 then 5 else if o=5 then 19 else if o=6 then 4 else if o=7 then 8 else if o=8 then 6 else if o=17 then 7 else if o=18 then 20 else o-3
def Jn(f:Int->Nat->List CIns):List Int->Nat->List CIns
 |[],_=>[]
 |c::r,q=>f c q++Jn f r (q+(f c q).length)
def cN (p:BProg):Nat->Int->Nat->List CIns
 |0,_,_=>[]
 | k+1,n,q =>
  if(A9 p n).op=9 then cN p k (kidN (A9 p n) 0) q++(⟨14,0⟩::(cN p k (kidN (A9 p n) 1) (q+cL p k (kidN (A9 p n) 0)+1)++[⟨15,0⟩]))
  else if(A9 p n).op=11 then cN p k (kidN (A9 p n) 0) q++(⟨16,0⟩::cN p k (kidN (A9 p n) 1) (q+cL p k (kidN (A9 p n) 0)+1))
  else if(A9 p n).op=10 then
   cN p k (kidN (A9 p n) 0) q++(⟨17,((q+cL p k (kidN (A9 p n) 0)+1+cL p k (kidN (A9 p n) 1)+1:Nat):Int)⟩::(cN p k (kidN (A9 p n) 1) (q+cL p k (kidN (A9 p n) 0)+1) ++
    (⟨18,((q+cL p k (kidN (A9 p n) 0)+1+cL p k (kidN (A9 p n) 1)+1+cL p k (kidN (A9 p n) 2):Nat):Int)⟩::cN p k (kidN (A9 p n) 2) (q+cL p k (kidN (A9 p n) 0)+1+cL p k (kidN (A9 p n) 1)+1))))
  else Jn (cN p k) (A9 p n).kids q++[⟨Tv (A9 p n).op,(A9 p n).n⟩]
theorem IY{f:Int->Nat->List CIns}{g:Int->Nat}(h:∀c q,(f c q).length=g c): ∀(l:List Int) (q:Nat),(Jn f l q).length=wtL g l
 |[],_=>by rw[Jn,wtL];rfl
 |c::r,q=>by rw[Jn,wtL,List.length_append,h,IY h r]
theorem OG(p:BProg): ∀(k:Nat) (n:Int) (q:Nat),(cN p k n q).length=cL p k n
 |0,_,_=>by rw[cN,cL];rfl
 | k+1,n,q=>by
  have ih:=OG p k
  rw[cN,cL]
  split
  ·simp only[List.length_append,List.length_cons,List.length_nil,ih]
  ·split
   ·simp only[List.length_append,List.length_cons,ih]
   ·split
    ·simp only[List.length_append,List.length_cons,ih];omega
    ·simp only[List.length_append,List.length_cons,List.length_nil,IY ih]
def trE(p:BProg)(inM:Bool):Nat->Int->Nat->Prop
 |0,_,_=>False
 |k+1,n,size=>InR n p.nodes.length/\((A9 p n).kids.length:Int)=CI p (A9 p n)/\CH p (A9 p n) size=true /\ ¬((A9 p n).op=18/\inM=false) /\
  ∀(j:Nat) (h:j<(A9 p n).kids.length),trE p inM k ((A9 p n).kids[j]) (if(A9 p n).op=9/\j=1 then size+1 else size)
theorem HK{p:BProg}{inM:Bool}{k:Nat}{f:Int->Int->List Int->Bool×List Int}{x:BNode}{size:Nat}(hf:∀c (z:Nat) s s',f c z s=(true,s')->trE p inM k c z):
  ∀(l:List Int) (i:Nat) (s s':List Int),Cr f x size i l s=(true,s')->∀(j:Nat) (h:j<l.length),trE p inM k l[j] (if x.op=9/\i+j=1 then size+1 else size)
 |[],_,_,_,_,j,h=>by simp at h
 | c::r,i,s,s',h,j,hj=>by
  rw[Cr]at h
  cases hc:f c (if x.op=9/\i=1 then(size:Int)+1 else size) s with
  | mk b s1 =>
   rw[hc]at h
   cases b with
   |false=>simp at h
   | true =>
    cases j with
    |zero=>
     rw[List.getElem_cons_zero,Nat.add_zero]
     by_cases e:x.op=9/\i=1
     ·rw[if_pos e]at hc⊢; exact hf c (size+1) _ _ hc
     ·rw[if_neg e]at hc⊢; exact hf c size _ _ hc
    |succ j=>
     have:=HK hf r (i+1) s1 s' h j (by simpa using hj)
     rw[show i+1+j=i+(j+1) by omega]at this
     simpa using this
theorem Km(p:BProg)(inM:Bool): ∀(k:Nat) (n:Int) (size:Nat) (s s':List Int),DJ p inM k n size s=(true,s')->trE p inM k n size
 |0,_,_,_,_,h=>by simp[DJ]at h
 | k+1,n,size,s,s',h=>by
  rw[DJ]at h
  split at h
  ·simp at h
  ·rename_i h1
   split at h
   ·simp at h
   ·rename_i h2
    refine⟨⟨by omega,by omega⟩,Classical.byContradiction fun e=>h2 (.inl e),?_,fun e=>h2 (.inr (.inr e)),fun j hj=>?_⟩
    ·cases hn:CH p (A9 p n) size with
     |true=>rfl
     |false=>exact absurd (.inr (.inl hn)) h2
    ·have:=HK (fun c z s s' h=>Km p inM k c z s s' h) _ 0 _ _ h j hj
     rw[Nat.zero_add]at this
     exact this
theorem tr_op{p:BProg}{inM:Bool}{k:Nat}{n:Int}{size:Nat}(h:trE p inM (k+1) n size):1<=(A9 p n).op/\(A9 p n).op<=18:=by
 obtain⟨_,h2,_⟩:=h
 unfold CI LL at h2
 by_cases hh:1<=(A9 p n).op/\(A9 p n).op<=18
 ·exact hh
 ·exfalso
  rw[if_neg (by omega),if_neg (by omega),if_neg (by omega),if_neg (by omega)]at h2
  simp only at h2
  rw[if_neg (by omega)]at h2
  omega
theorem Ko{p:BProg}{inM:Bool}{k:Nat}{n:Int}{size:Nat}(h:trE p inM (k+1) n size){m:Nat}(hm:LL (A9 p n).op=some (m:Int)):(A9 p n).kids.length=m:=by
 obtain⟨_,h2,_⟩:=h
 unfold CI at h2
 rw[hm]at h2
 simp only at h2
 omega
theorem Nc{x:BNode}{i:Nat}(h:i<x.kids.length):kidN x i=x.kids[i]:=by unfold kidN;rw[List.getElem?_eq_getElem h];rfl
theorem cL_le(p:BProg): ∀(k:Nat) (n:Int) (inM:Bool) (size:Nat),trE p inM k n size->cL p k n+0<=2*cntB p k n
 |0,_,_,_,h=>h.elim
 | k+1,n,inM,size,h=>by
  have ay:=tr_op h
  have hk:=h.2.2.2.2
  have aD:∀l:List Int,(∀(j:Nat) (h:j<l.length),cL p k l[j]<=2*cntB p k l[j])->wtL (cL p k) l<=2*wtL (cntB p k) l:=fun l=>by
   induction l with
   |nil=>intro _;rw[wtL,wtL];omega
   |cons c r ih=>
    intro h
    have h1:=h 0 (by simp)
    have h2:=ih fun j hj=>by have:=h (j+1) (by simpa using hj);simpa using this
    rw[List.getElem_cons_zero]at h1
    rw[wtL,wtL];omega
  have ah:∀(j:Nat) (h:j<(A9 p n).kids.length),cL p k (A9 p n).kids[j]<=2*cntB p k (A9 p n).kids[j]:=fun j hj=>cL_le p k _ _ _ (hk j hj)
  have hs:=aD _ ah
  rw[cL,cntB]
  have two:∀m:Nat,(A9 p n).kids.length=m->m=2->wtL (cntB p k) (A9 p n).kids=cntB p k (kidN (A9 p n) 0)+cntB p k (kidN (A9 p n) 1):=fun m h1 h2=>by
   match hh:(A9 p n).kids with
   |[a,b]=>unfold kidN;rw[hh];simp[wtL]
   |[]=>rw[hh]at h1;simp at h1;omega
   |[_]=>rw[hh]at h1;simp at h1;omega
   |_::_::_::_=>rw[hh]at h1;simp at h1;omega
  split
  ·rename_i h9
   have hl:(A9 p n).kids.length=2:=Ko h (by rw[h9];rfl)
   have:=two 2 hl rfl
   have a1:=ah 0 (by omega)
   have a2:=ah 1 (by omega)
   rw[<-Nc]at a1 a2
   omega
  ·split
   ·rename_i a8
    have hl:(A9 p n).kids.length=2:=Ko h (by rw[a8];rfl)
    have:=two 2 hl rfl
    have a1:=ah 0 (by omega)
    have a2:=ah 1 (by omega)
    rw[<-Nc]at a1 a2
    omega
   ·split
    ·rename_i aB
     have hl:(A9 p n).kids.length=3:=Ko h (by rw[aB];rfl)
     have a1:=ah 0 (by omega)
     have a2:=ah 1 (by omega)
     have a3:=ah 2 (by omega)
     rw[<-Nc]at a1 a2 a3
     have:wtL (cntB p k) (A9 p n).kids=cntB p k (kidN (A9 p n) 0)+(cntB p k (kidN (A9 p n) 1)+cntB p k (kidN (A9 p n) 2)):=by
      match hh:(A9 p n).kids with
      |[a,b,c]=>unfold kidN;rw[hh];simp[wtL]
      |[]=>rw[hh]at hl;simp at hl
      |[_]=>rw[hh]at hl;simp at hl
      |[_,_]=>rw[hh]at hl;simp at hl
      |_::_::_::_::_=>rw[hh]at hl;simp at hl
     omega
    ·omega
def LG(f:Int->Int->List CLev):List Int->Int->List CLev
 |[],_=>[]
 |c::r,s=>f c s++LG f r (s+1)
def lvN(p:BProg):Nat->Int->Int->Int->List CLev
 |0,_,_,_=>[]
 |k+1,n,s,e=>
  if(A9 p n).op=9 then lvN p k (kidN (A9 p n) 0) s e++(⟨s+1,e⟩::(lvN p k (kidN (A9 p n) 1) s (e+1)++[⟨s+1,e+1⟩]))
  else if(A9 p n).op=11 then lvN p k (kidN (A9 p n) 0) s e++(⟨s+1,e⟩::lvN p k (kidN (A9 p n) 1) s e)
  else if(A9 p n).op=10 then lvN p k (kidN (A9 p n) 0) s e++(⟨s+1,e⟩::(lvN p k (kidN (A9 p n) 1) s e++(⟨s+1,e⟩::lvN p k (kidN (A9 p n) 2) s e)))
  else LG (fun c s=>lvN p k c s e) (A9 p n).kids s++[⟨s+(A9 p n).kids.length,e⟩]
def Ao(p:BProg)(x:CIns):Int×Int:=
 if x.op=1\/x.op=2\/x.op=3\/x.op=4\/x.op=20 then(0,1) else if x.op=5\/x.op=6\/x.op=7 then(1,1) else if x.op=14\/x.op=16\/x.op=17 then(1,0) else
 if x.op=19 then(p.gens.getD x.a.toNat 0,1) else if x.op=15\/x.op=18 then(0,0) else if x.op=21 then(1,0) else(2,1)
abbrev Met:=Nat->Option CLev
def updM(met:Met)(n:Nat)(l:CLev):Met:=fun j=>if j=n then some l else met j
def BJ(N:Nat)(met:Met)(n:Int)(l:CLev):Option Met:=
 if n<0\/(N:Int)<=n\/(met n.toNat≠none/\met n.toNat≠some l) then none else some (updM met n.toNat l)
def Ec(p:BProg)(c:CProg)(env:Int)(next:Bool)(q:Nat)(x:CIns)(l:CLev)(met:Met):Option Met:=
 if l.st<(Ao p x).1\/(x.op=3/\l.env<=x.a)\/(x.op=15/\l.env<=env)\/(x.op=20/\next=false) then none
 else if x.op=21 then(if l.st=1/\l.env=env then some met else none)
 else if x.op=14 then BJ c.ins.length met ((q:Int)+1) ⟨l.st-(Ao p x).1+(Ao p x).2,l.env+1⟩
 else if x.op=15 then BJ c.ins.length met ((q:Int)+1) ⟨l.st-(Ao p x).1+(Ao p x).2,l.env-1⟩
 else if x.op=18 then BJ c.ins.length met x.a ⟨l.st-(Ao p x).1+(Ao p x).2,l.env⟩
 else if x.op=17 then(match BJ c.ins.length met x.a ⟨l.st-(Ao p x).1+(Ao p x).2,l.env⟩with
  |none=>none
  |some m=>BJ c.ins.length m ((q:Int)+1) ⟨l.st-(Ao p x).1+(Ao p x).2,l.env⟩)
 else BJ c.ins.length met ((q:Int)+1) ⟨l.st-(Ao p x).1+(Ao p x).2,l.env⟩
def Dq(p:BProg)(c:CProg)(env:Int)(next:Bool):Nat->Nat->Met->Option Met
 |0,_,met=>some met
 | f+1,q,met=>match met q with
  |none=>Dq p c env next f (q+1) met
  |some l=>match Ec p c env next q ((c.ins[q]?).getD ⟨0,0⟩) l met with
   |none=>none
   |some m=>Dq p c env next f (q+1) m
theorem JI{f:Int->Int->List CLev}{g:Int->Nat}(h:∀c s,(f c s).length=g c): ∀(l:List Int) (s:Int),(LG f l s).length=wtL g l
 |[],_=>by rw[LG,wtL];rfl
 |c::r,s=>by rw[LG,wtL,List.length_append,h,JI h r]
theorem QU(p:BProg): ∀(k:Nat) (n s e:Int),(lvN p k n s e).length=cL p k n
 |0,_,_,_=>by rw[lvN,cL];rfl
 | k+1,n,s,e=>by
  have ih:=QU p k
  rw[lvN,cL]
  split
  ·simp only[List.length_append,List.length_cons,List.length_nil,ih]
  ·split
   ·simp only[List.length_append,List.length_cons,ih]
   ·split
    ·simp only[List.length_append,List.length_cons,ih];omega
    ·simp only[List.length_append,List.length_cons,List.length_nil,JI (fun c s=>ih c s e)]
structure CSt where
 pos:Int
 env:Int
 next:Bool
def wayM(p:BProg)(c:CProg)(s:CSt):Option Met:=
 if s.pos<0\/(c.ins.length:Int)<=s.pos then none else Dq p c s.env s.next (c.ins.length-s.pos.toNat) s.pos.toNat (updM (fun _=>none) s.pos.toNat ⟨0,s.env⟩)
def mrgM(N:Nat)(W w:Met):Option Met:=
 if(List.range N).all (fun k=>W k=none||w k=none||W k=w k) then some (fun k=>match w k with|none=>W k|some x=>some x) else none
def Fu(p:BProg)(c:CProg):List CSt->Met->Option Met
 |[],W=>some W
 | s::r,W=>match wayM p c s with
  |none=>none
  |some w=>match mrgM c.ins.length W w with
   |none=>none
   |some V=>Fu p c r V
theorem DV{N:Nat}{met m:Met}{n:Int}{l:CLev}(h:BJ N met n l=some m)(hd:∀j,N<=j->met j=none): ∀j,N<=j->m j=none:=by
 unfold BJ at h
 split at h
 ·cases h
 ·rename_i e
  cases h
  intro j hj
  unfold updM
  rw[if_neg (by omega)]
  exact hd j hj
theorem NM {p:BProg} {c:CProg} {env:Int} {next:Bool} {q:Nat} {x:CIns} {l:CLev} {met m:Met} (h:Ec p c env next q x l met=some m) (hd : ∀ j,c.ins.length<=j->met j=none) : ∀ j,c.ins.length<=j->m j=none:=by
 unfold Ec at h
 split at h
 ·cases h
 ·split at h
  ·split at h
   ·cases h;exact hd
   ·cases h
  ·split at h
   ·exact DV h hd
   ·split at h
    ·exact DV h hd
    ·split at h
     ·exact DV h hd
     ·split at h
      ·split at h
       ·cases h
       ·rename_i e
        exact DV h (DV e hd)
      ·exact DV h hd
theorem Kw{p:BProg}{c:CProg}{env:Int}{next:Bool}: ∀(f q:Nat) (met m:Met),Dq p c env next f q met=some m->(∀j,c.ins.length<=j->met j=none)->∀j,c.ins.length<=j->m j=none
 |0,_,_,_,h,hd=>by cases h;exact hd
 | f+1,q,met,m,h,hd=>by
  rw[Dq]at h
  split at h
  ·exact Kw f _ _ _ h hd
  ·split at h
   ·cases h
   ·rename_i e
    exact Kw f _ _ _ h (NM e hd)
theorem MN{p:BProg}{c:CProg}{s:CSt}{w:Met}(h:wayM p c s=some w): ∀j,c.ins.length<=j->w j=none:=by
 unfold wayM at h
 split at h
 ·cases h
 ·exact Kw _ _ _ _ h fun j hj=>by unfold updM;rw[if_neg (by omega)]
theorem QA{N:Nat}{W w V:Met}(hw:∀j,N<=j->w j=none):mrgM N W w=some V ↔ (∀k a b,W k=some a->w k=some b->a=b)/\V=fun k=>match w k with|none=>W k|some x=>some x:=by
 unfold mrgM
 constructor
 ·intro h
  split at h
  ·rename_i e
   cases h
   refine⟨fun k a b ha hb=>?_,rfl⟩
   have hk:k<N:=Classical.byContradiction fun hn=>by rw[hw k (by omega)]at hb;cases hb
   have:=List.all_eq_true.1 e k (List.mem_range.2 hk)
   simp only[ha,hb]at this
   simpa using this
  ·cases h
 ·rintro⟨h,rfl⟩
  rw[if_pos]
  refine List.all_eq_true.2 fun k hk=>?_
  cases ha:W k with
  |none=>simp
  |some a=>
   cases hb:w k with
   |none=>simp
   |some b=>simp[h k a b ha hb]
theorem Fg {p:BProg} {c:CProg} : ∀ (l:List CSt) (W V:Met),Fu p c l W=some V ↔
  (∀k x,W k=some x->V k=some x)/\(∀s∈l, ∃w,wayM p c s=some w /\ ∀k x,w k=some x->V k=some x) /\
  (∀k x,V k=some x->W k=some x \/ ∃s∈l, ∃w,wayM p c s=some w/\w k=some x)
 | [],W,V=>by
  rw[Fu]
  constructor
  ·intro h;cases h
   exact⟨fun _ _ h=>h,fun _ h=>(List.not_mem_nil h).elim,fun _ _ h=>.inl h⟩
  ·rintro⟨h1,_,h3⟩
   congr 1
   funext k
   cases e:V k with
   |some x=>
    rcases h3 k x e with h|⟨s,hs,_⟩
    ·exact h
    ·exact(List.not_mem_nil hs).elim
   |none=>
    cases e2:W k with
    |none=>rfl
    |some x=>rw[h1 k x e2]at e;cases e
 | s::r,W,V=>by
  rw[Fu]
  cases hw:wayM p c s with
  | none =>
   constructor
   ·intro h;cases h
   ·rintro⟨_,h,_⟩
    obtain⟨w,e,_⟩:=h s List.mem_cons_self
    rw[hw]at e;cases e
  | some w =>
   simp only
   have hd:=MN hw
   cases hm:mrgM c.ins.length W w with
   | none =>
    constructor
    ·intro h;cases h
    ·rintro⟨h1,h2,h3⟩
     obtain⟨w',e,e2⟩:=h2 s List.mem_cons_self
     rw[hw]at e;cases e
     have:=(QA (W:=W) (V:=fun k=>match w k with|none=>W k|some x=>some x) hd).2 ⟨fun k a b ha hb=>by
      have:=h1 k a ha;rw[e2 k b hb]at this;cases this;rfl,rfl⟩
     rw[hm]at this;cases this
   | some U =>
    obtain⟨m1,rfl⟩:=(QA hd).1 hm
    simp only
    rw[Fg r _ V]
    constructor
    ·rintro⟨h1,h2,h3⟩
     refine⟨fun k x hk=>h1 k x ?_,fun t ht=>?_,fun k x hk=>?_⟩
     ·cases e:w k with
      |none=>exact hk
      |some b=>rw[m1 k x b hk e]
     ·rcases List.mem_cons.1 ht with rfl|ht
      ·exact⟨w,hw,fun k x hk=>h1 k x (by simp only[hk])⟩
      ·exact h2 t ht
     ·rcases h3 k x hk with h|⟨t,ht,h⟩
      ·cases e:w k with
       |none=>rw[e]at h;exact .inl h
       |some b=>rw[e]at h;cases h;exact .inr ⟨s,List.mem_cons_self,w,hw,e⟩
      ·exact .inr ⟨t,List.mem_cons_of_mem _ ht,h⟩
    ·rintro⟨h1,h2,h3⟩
     obtain⟨w',e,e2⟩:=h2 s List.mem_cons_self
     rw[hw]at e;cases e
     refine⟨fun k x hk=>?_,fun t ht=>h2 t (List.mem_cons_of_mem _ ht),fun k x hk=>?_⟩
     ·cases e:w k with
      |none=>rw[e]at hk;exact h1 k x hk
      |some b=>rw[e]at hk;cases hk;exact e2 k _ e
     ·rcases h3 k x hk with h|⟨t,ht,w',aC,aM⟩
      ·left
       cases e:w k with
       |none=>exact h
       |some b=>rw[m1 k x b h e]
      ·rcases List.mem_cons.1 ht with rfl|ht
       ·rw[hw]at aC;cases aC
        left;simp only[aM]
       ·exact .inr ⟨t,ht,w',aC,aM⟩
theorem QZ{p:BProg}{c:CProg}{l m:List CSt}(h:∀s,s∈l ↔ s∈m)(W:Met):Fu p c l W=Fu p c m W:=by
 have key:∀V,Fu p c l W=some V ↔ Fu p c m W=some V:=fun V=>by
  rw[Fg,Fg]
  simp only[h]
 cases e:Fu p c l W with
 |some V=>exact((key V).1 e).symm
 |none=>
  cases e2:Fu p c m W with
  |none=>rfl
  |some V=>rw[(key V).2 e2]at e;cases e
def Gf(p:BProg)(c:CProg)(l:List CSt):Option (List CLev):=
 match Fu p c l (fun _=>none)with
 |none=>none
 |some W=>if(List.range c.ins.length).all (fun k=>(W k).isSome) then some ((List.range c.ins.length).map fun k=>(W k).getD ⟨0,0⟩) else none
theorem Pd{p:BProg}{c:CProg}{l m:List CSt}(h:∀s,s∈l ↔ s∈m):Gf p c l=Gf p c m:=by unfold Gf;rw[QZ h]
structure CBody where
 node:Int
 size:Nat
 next:Bool
def bodyC(p:BProg)(k:Nat)(n:Int)(q:Nat):List CIns:=cN p k n q++[⟨21,0⟩]
def BD(p:BProg)(k:Nat):List CBody->Nat->List CIns
 |[],_=>[]
 |b::r,q=>bodyC p k b.node q++BD p k r (q+(cL p k b.node+1))
def GR(p:BProg)(k:Nat):List CBody->Nat->List CSt
 |[],_=>[]
 |b::r,q=>⟨q,b.size,b.next⟩::GR p k r (q+(cL p k b.node+1))
def QV(p:BProg)(k:Nat)(b:CBody):List CLev:=lvN p k b.node 0 b.size++[⟨1,b.size⟩]
def Pa(p:BProg)(k:Nat):List CBody->List CLev
 |[]=>[]
 |b::r=>QV p k b++Pa p k r
theorem E4(p:BProg)(k:Nat)(n:Int)(q:Nat):(bodyC p k n q).length=cL p k n+1:=by unfold bodyC;rw[List.length_append,OG];rfl
theorem JJ(p:BProg)(k:Nat)(b:CBody):(QV p k b).length=cL p k b.node+1:=by unfold QV;rw[List.length_append,QU];rfl
theorem LH(p:BProg)(k:Nat): ∀(l:List CBody) (q:Nat),(BD p k l q).length=(Pa p k l).length
 |[],_=>rfl
 |b::r,q=>by rw[BD,Pa,List.length_append,List.length_append,E4,JJ,LH p k r]
theorem O2(p:BProg)(k:Nat): ∀(l:List CBody),(∀b∈l,trE p b.next k b.node b.size)->(Pa p k l).length<=2*wtL (fun b=>cntB p k b) (l.map (·.node))+l.length
 |[],_=>by rw[Pa];simp
 |b::r,h=>by
  have:=O2 p k r fun x hx=>h x (List.mem_cons_of_mem _ hx)
  have:=cL_le p k b.node b.next b.size (h b List.mem_cons_self)
  rw[Pa,List.length_append,JJ,List.map_cons,wtL,List.length_cons]
  omega
def LA(m:BMeth):Bool:=decide (m.kind=1)||decide (m.kind=4)
def Bt(p:BProg):List CBody:=p.methods.map fun m=>⟨m.node,(p.gens.getD m.gen.toNat 0).toNat,LA m⟩
def bodsP(p:BProg):List CBody:=Bt p++[⟨p.main,0,false⟩]
theorem NZ(p:BProg)(hg:∀n:Nat,0<=p.gens.getD n 0): ∀(l:List BMeth) (s s':List Int),Cm p l s=some s'->∀m∈l,trE p (LA m) 12 m.node (p.gens.getD m.gen.toNat 0).toNat
 |[],_,_,_,m,hm=>by cases hm
 | a::r,s,s',h,m,hm=>by
  rw[Cm]at h
  split at h
  ·cases hw:DJ p (decide (a.kind=1)||decide (a.kind=4)) 12 a.node (p.gens.getD a.gen.toNat 0) s with
   | mk b s1 =>
    rw[hw]at h
    cases b with
    |false=>simp[optW]at h
    | true =>
     simp only[optW]at h
     rcases List.mem_cons.1 hm with rfl|hm
     ·have h0:=hg m.gen.toNat
      refine Km p (LA m) 12 m.node _ s s1 ?_
      rw[show(((p.gens.getD m.gen.toNat 0).toNat:Nat):Int)=p.gens.getD m.gen.toNat 0 by omega]
      exact hw
     ·exact NZ p hg r _ _ h m hm
  ·cases h
theorem H5{p:BProg}(h:okP p=true):(∀g∈p.gens,1<=g/\g<=3)/\p.gens.length<=8/\p.methods.length<=16/\1<=p.nodes.length/\p.nodes.length<=120:=by
 unfold okP Dr at h
 split at h
 ·rename_i hc
  simp only[Bool.and_eq_true,decide_eq_true_eq,List.all_eq_true]at hc
  exact⟨hc.2,by omega,by omega,by omega,by omega⟩
 ·cases h
theorem H6{p:BProg}(h:okP p=true)(n:Nat):0<=p.gens.getD n 0/\p.gens.getD n 0<=3:=by
 have hg:=(H5 h).1
 rw[List.getD_eq_getElem?_getD]
 by_cases hl:n<p.gens.length
 ·rw[List.getElem?_eq_getElem hl]
  have:=hg _ (List.getElem_mem hl)
  simp only[Option.getD_some];omega
 ·rw[List.getElem?_eq_none (by omega)];simp
theorem TG{p:BProg}(h:okP p=true): ∀b∈bodsP p,trE p b.next 12 b.node b.size:=by
 have aJ:=fun n=>(H6 h n).1
 unfold okP Dr at h
 split at h
 ·cases hm:Cm p p.methods (List.replicate p.nodes.length (-1))with
  |none=>rw[hm]at h;simp at h
  | some s =>
   rw[hm]at h
   cases hw:DJ p false 12 p.main 0 s with
   | mk b s2 =>
    simp only[hw]at h
    cases b with
    |false=>simp[optW]at h
    | true =>
     intro b hb
     unfold bodsP Bt at hb
     rcases List.mem_append.1 hb with hb|hb
     ·obtain⟨m,aU,rfl⟩:=List.mem_map.1 hb
      exact NZ p aJ _ _ _ hm m aU
     ·rw[List.mem_singleton]at hb
      rw[hb]
      exact Km p false 12 p.main 0 s s2 hw
 ·cases h
theorem Js{α}(f:α->Nat): ∀a b:List α,wtL f (a++b)=wtL f a+wtL f b
 |[],b=>by rw[List.nil_append,wtL,Nat.zero_add]
 |x::r,b=>by rw[List.cons_append,wtL,wtL,Js f r b,Nat.add_assoc]
theorem NG{α β}(f:β->Nat)(g:α->β): ∀a:List α,wtL f (a.map g)=wtL (fun x=>f (g x)) a
 |[]=>by rw[List.map_nil,wtL,wtL]
 |x::r=>by rw[List.map_cons,wtL,wtL,NG f g r]
theorem Vo{p:BProg}(h:okP p=true):wtL (fun b=>cntB p 12 b) ((bodsP p).map (·.node))=p.nodes.length:=by
 rw[<-Ul h]
 unfold bodsP Bt
 rw[List.map_append,Js,List.map_map,NG]
 simp only[List.map_cons,List.map_nil,wtL,Nat.add_zero]
 rfl
def LE(p:BProg):Nat:=(BD p 12 (Bt p) 0).length
def Ha(p:BProg):CProg:=⟨BD p 12 (Bt p) 0++bodyC p 12 p.main (LE p),(GR p 12 (Bt p) 0).map (·.pos),(LE p:Int)⟩
def DA(p:BProg)(m:BMeth)(n:Int):CSt:=⟨n,p.gens.getD m.gen.toNat 0,LA m⟩
def stsP(p:BProg)(c:CProg):List CSt:=List.zipWith (DA p) p.methods c.starts++[⟨c.main,0,false⟩]
theorem FA(p:BProg)(k:Nat): ∀(l m:List CBody) (q:Nat),BD p k (l++m) q=BD p k l q++BD p k m (q+(BD p k l q).length)
 |[],m,q=>by rw[List.nil_append,BD];rfl
 |b::r,m,q=>by
  rw[List.cons_append,BD,BD,FA p k r m,List.append_assoc,List.length_append,E4,Nat.add_assoc,Nat.add_assoc]
theorem Tu(p:BProg):(Ha p).ins=BD p 12 (bodsP p) 0:=by
 unfold Ha bodsP
 rw[FA,Nat.zero_add]
 simp only[BD,List.append_nil]
 rfl
theorem Vk{p:BProg}(h:okP p=true):(Ha p).ins.length<=2*p.nodes.length+p.methods.length+1:=by
 have:=O2 p 12 (bodsP p) (TG h)
 rw[Vo h]at this
 rw[Tu,LH]
 have e:(bodsP p).length=p.methods.length+1:=by unfold bodsP Bt;rw[List.length_append,List.length_map];rfl
 omega
def fitsC(p:BProg)(N:Nat)(q:Nat)(x:CIns):Bool:=
 if x.op=1 then inB x.a else if x.op=3 then decide (0<=x.a) else if x.op=4\/x.op=6 then decide (3<=x.a/\x.a<3+p.classes.length) else if x.op=5\/x.op=8 then decide (0<=x.a/\x.a<p.slots) else
 if x.op=17\/x.op=18 then decide ((q:Int)<x.a/\x.a<N) else if x.op=19 then decide (0<=x.a/\x.a<p.gens.length) else decide (1<=x.op/\x.op<=21/\x.a=0)
def sumB:List UInt8->UInt8->UInt8
 |[],n=>n
 |c::r,n=>sumB r (3*n+c+1)
def hiB:Nat->Nat->List UInt8
 |0,_=>[]
 |k+1,n=>if n=0 then [] else hiB k (n / 128)++[UInt8.ofNat (128+n % 128)]
def digB(n:Nat):List UInt8:=hiB 10 (n / 128)++[UInt8.ofNat (n % 128)]
def Rj(n:Int):Nat:=if n<0 then(-2*n-1).toNat else(2*n).toNat
def hasA(op:Int):Bool:=decide (op=1\/op=3\/op=4\/op=5\/op=6\/op=8\/op=17\/op=18\/op=19)
def insB(x:CIns):List UInt8:=UInt8.ofNat x.op.toNat::(if hasA x.op then digB (Rj x.a) else [])
def listB{α}(f:α->List UInt8):List α->List UInt8
 |[]=>[]
 |x::r=>f x++listB f r
def rawB(c:CProg):List UInt8:=199::(digB c.starts.length++(listB (fun n:Int=>digB n.toNat) c.starts++(digB c.main.toNat++(digB c.ins.length++listB insB c.ins))))
def J4(c:CProg):List UInt8:=rawB c++[sumB (rawB c) 0]
def farN(n:Int):Bool:=decide (0<=n/\n<=1000000000)
def BI(x:CIns):Bool:=decide (1<=x.op/\x.op<=21)&&(if hasA x.op then(if x.op=1 then inB x.a else farN x.a) else decide (x.a=0))
def AG(c:CProg):Bool:=decide (c.ins.length<=300)&&(decide (c.starts.length<=16)&&(farN c.main&&(c.starts.all farN&&c.ins.all BI)))
theorem F9{n:Nat}(h:n<256):(UInt8.ofNat n).toNat=n:=by
 rw[UInt8.toNat_ofNat'];omega
theorem Rg: ∀k n,(hiB k n).length<=k
 |0,n=>by rw[hiB];simp
 | k+1,n=>by
  rw[hiB]
  split
  ·simp
  ·have:=Rg k (n / 128)
   rw[List.length_append,List.length_singleton];omega
theorem Oa: ∀k n,n<128 ^ k->∀j,k<=j->hiB j n=hiB k n
 |0,n,hn,j,_=>by
  have h0:n=0:=by simpa using hn
  subst h0
  cases j<;>rfl
 |k+1,n,hn,j,hj=>by
  obtain⟨i,rfl⟩:∃i,j=i+1:=⟨j-1,by omega⟩
  rw[hiB,hiB]
  split
  ·rfl
  ·rw[Oa k (n / 128) (Nat.div_lt_of_lt_mul (by rw[Nat.pow_succ]at hn;omega)) i (by omega)]
theorem IP{d:Nat}(h:d<10):Lib.digitVal (UInt8.ofNat (48+d))=some d:=by
 unfold Lib.digitVal
 rw[F9 (by omega),if_pos (by omega)]
 congr 1;omega
theorem IQ: ∀(a b:List UInt8) (acc m:Nat),Lib.decFrom acc a=some m->Lib.decFrom acc (a++b)=Lib.decFrom m b
 |[],b,acc,m,h=>by rw[Lib.decFrom]at h;cases h;rfl
 |c::r,b,acc,m,h=>by
  rw[Lib.decFrom]at h
  rw[List.cons_append,Lib.decFrom]
  split at h
  ·exact IQ r b _ m h
  ·cases h
theorem Fy: ∀(u acc:Nat), ∃k,Lib.decFrom acc (Lib.decDigits u)=some (acc*10 ^ k+u)
 | u,acc=>by
  rw[Lib.decDigits]
  split
  ·rename_i h
   refine⟨1,?_⟩
   rw[Lib.decFrom,IP h]
   simp only[Lib.decFrom,Nat.pow_one]
  ·rename_i h
   obtain⟨k,hk⟩:=Fy (u / 10) acc
   refine⟨k+1,?_⟩
   rw[IQ _ _ _ _ hk,Lib.decFrom,IP (by omega)]
   simp only[Lib.decFrom]
   congr 1
   rw[Nat.pow_succ,Nat.add_mul,Nat.mul_assoc]
   omega
 termination_by u=>u
 decreasing_by omega
theorem Cy: ∀(u:Nat) (c:UInt8),c∈Lib.decDigits u->48<=c.toNat/\c.toNat<=57
 | u,c,h=>by
  rw[Lib.decDigits]at h
  split at h
  ·rw[List.mem_singleton]at h
   rw[h,F9 (by omega)];omega
  ·rcases List.mem_append.1 h with h|h
   ·exact Cy (u / 10) c h
   ·rw[List.mem_singleton]at h
    rw[h,F9 (by omega)];omega
 termination_by u=>u
 decreasing_by omega
theorem F5(u:Nat):Lib.decDigits u≠[]:=by
 rw[Lib.decDigits]
 split
 ·simp
 ·simp
theorem KZ(u:Nat):Lib.decNat (Lib.decDigits u)=some u:=by
 unfold Lib.decNat
 rw[if_neg (by simpa using F5 u)]
 obtain⟨k,hk⟩:=Fy u 0
 rw[hk];congr 1;omega
theorem Up{n:Int}{c:UInt8}(h:c∈Lib.itoa n):c.toNat=45\/48<=c.toNat/\c.toNat<=57:=by
 unfold Lib.itoa at h
 split at h
 ·rcases List.mem_cons.1 h with rfl|h
  ·exact .inl rfl
  ·exact .inr (Cy _ _ h)
 ·exact .inr (Cy _ _ h)
def wordsC:List Str:=[[105,110,116],[110,111,110,101],[110,97,109,101],[110,101,119],[115,108,111,116],[116,117,114,110],[111,117,116],[115,101,116],[97,100,100],[115,117,98],[109,117,108],[108,101,115,115],[115,97,109,101],[108,101,116],[100,114,111,112],[112,111,112],[122,101,114,111],[106,117,109,112],[99,97,108,108],[110,101,120,116],[101,110,100]]
def FR(op:Int):Str:=(wordsC[(op-1).toNat]?).getD []
def Bw(x:CIns):Str:=FR x.op++(if hasA x.op then 32::Lib.itoa x.a else [])
def Ej(c:CProg):Str:=listB (fun n=>Lib.itoa n++[32]) c.starts++58::32::Lib.itoa c.main
def Cz(c:CProg):Str:=listB (fun l=>l++[10]) (Ej c::c.ins.map Bw)
def splitB(b:UInt8):Str->List Str
 |[]=>[[]]
 |c::r=>if c=b then []::splitB b r else match splitB b r with
  |[]=>[[c]]
  |p::ps=>(c::p)::ps
theorem Lk(b:UInt8): ∀s,splitB b s≠[]
 |[]=>by rw[splitB];simp
 |c::r=>by rw[splitB];split;simp;split<;>simp
theorem HY(b:UInt8): ∀(a r:Str),b∉a->splitB b (a++b::r)=a::splitB b r
 |[],r,_=>by rw[List.nil_append,splitB,if_pos rfl]
 |c::t,r,h=>by
  rw[List.mem_cons,not_or]at h
  rw[List.cons_append,splitB,if_neg (fun e=>h.1 e.symm),HY b t r h.2]
theorem HW(b:UInt8): ∀(a:Str),b∉a->splitB b a=[a]
 |[],_=>rfl
 |c::t,h=>by
  rw[List.mem_cons,not_or]at h
  rw[splitB,if_neg (fun e=>h.1 e.symm),HW b t h.2]
theorem GS(b:UInt8): ∀(l:List Str),l≠[]->(∀x∈l,b∉x)->splitB b (listB (fun x=>x++[b]) l).dropLast=l
 |[],h,_=>absurd rfl h
 |[x],_,h=>by
  rw[listB,listB,List.append_nil,List.dropLast_concat]
  exact HW b x (h x List.mem_cons_self)
 |x::y::r,_,h=>by
  have ih:=GS b (y::r) (by simp) fun z hz=>h z (List.mem_cons_of_mem _ hz)
  have hne:listB (fun x=>x++[b]) (y::r)≠[]:=by rw[listB];simp
  rw[listB,List.dropLast_append_of_ne_nil hne,List.append_assoc,List.singleton_append,HY b x _ (h x List.mem_cons_self),ih]
theorem GY(b:UInt8): ∀s,listB (fun x=>x++[b]) (splitB b s)=s++[b]
 |[]=>by rw[splitB,listB,listB];rfl
 | c::r=>by
  have ih:=GY b r
  rw[splitB]
  split
  ·rename_i h
   rw[listB,ih,h];rfl
  ·have hne:=Lk b r
   generalize splitB b r=l at ih hne
   cases l with
   |nil=>exact absurd rfl hne
   |cons p ps=>
    simp only
    rw[listB]at ih⊢
    rw[List.cons_append,List.cons_append,ih];rfl
def cut1:Str->Option (Str×Str)
 |[]=>none
 |c::r=>if c=32 then some ([],r) else match cut1 r with
  |none=>none
  |some (a,t)=>some (c::a,t)
def cut2:Str->Option (Str×Str)
 |[]=>none
 |c::r=>if c=58/\r.head? = some 32 then some ([],r.tail) else match cut2 r with
  |none=>none
  |some (a,t)=>some (c::a,t)
theorem L4: ∀(a r:Str),(32:UInt8)∉a->cut1 (a++32::r)=some (a,r)
 |[],r,_=>by rw[List.nil_append,cut1,if_pos rfl]
 |c::t,r,h=>by
  rw[List.mem_cons,not_or]at h
  rw[List.cons_append,cut1,if_neg (fun e=>h.1 e.symm),L4 t r h.2]
theorem IT: ∀(a:Str),(32:UInt8)∉a->cut1 a=none
 |[],_=>rfl
 |c::t,h=>by
  rw[List.mem_cons,not_or]at h
  rw[cut1,if_neg (fun e=>h.1 e.symm),IT t h.2]
theorem IU: ∀(s a r:Str),cut1 s=some (a,r)->s=a++32::r
 |[],a,r,h=>by rw[cut1]at h;cases h
 | c::t,a,r,h=>by
  rw[cut1]at h
  split at h
  ·rename_i e;cases h;rw[e];rfl
  ·split at h
   ·cases h
   ·rename_i a' t' e
    cases h
    rw[List.cons_append,<-IU t a' r e]
theorem OD: ∀(a r:Str),(58:UInt8)∉a->cut2 (a++58::32::r)=some (a,r)
 |[],r,_=>by rw[List.nil_append,cut2,if_pos ⟨rfl,rfl⟩];rfl
 |c::t,r,h=>by
  rw[List.mem_cons,not_or]at h
  rw[List.cons_append,cut2,if_neg (fun e=>h.1 e.1.symm),OD t r h.2]
theorem IS: ∀(s a r:Str),cut2 s=some (a,r)->s=a++58::32::r
 |[],a,r,h=>by rw[cut2]at h;cases h
 | c::t,a,r,h=>by
  rw[cut2]at h
  split at h
  ·rename_i e
   cases h
   obtain⟨e1,e2⟩:=e
   cases t with
   |nil=>cases e2
   |cons d u=>cases e2;rw[e1];rfl
  ·split at h
   ·cases h
   ·rename_i a' t' e
    cases h
    rw[List.cons_append,<-IS t a' r e]
def mapO{α β}(f:α->Option β):List α->Option (List β)
 |[]=>some []
 | x::r=>match f x with
  |none=>none
  |some y=>match mapO f r with
   |none=>none
   |some l=>some (y::l)
def opW(w:Str):Option Int:=if 0<=idxG w wordsC 0 then some (idxG w wordsC 0+1) else none
def EI(intS:Str->Option Int)(l:Str):Option CIns:=match cut1 l with
 |none=>(match opW l with
  |none=>none
  |some op=>if hasA op then none else some ⟨op,0⟩)
 | some (w,a)=>match opW w with
  |none=>none
  |some op=>if hasA op then(match intS a with
   |none=>none
   |some n=>some ⟨op,n⟩) else none
def EH(intS:Str->Option Int)(a:Str):Option (List Int):=if a=[] then some [] else if a.getLast? = some 32 then mapO intS (splitB 32 a.dropLast) else none
def EG (intS:Str->Option Int) (s:Str):Option CProg:=if s.getLast? ≠ some 10 then none else match splitB 10 s.dropLast with
 |[]=>none
 | l0::ls=>match cut2 l0 with
  |none=>none
  | some (a,m)=>match intS m with
   |none=>none
   | some main=>match EH intS a with
    |none=>none
    |some starts=>match mapO (EI intS) ls with
     |none=>none
     |some ins=>if AG ⟨ins,starts,main⟩=true then some ⟨ins,starts,main⟩ else none
structure IntOK(intS:Str->Option Int):Prop where
 read:∀n:Int, -1000000000<=n->n<=1000000000->intS (Lib.itoa n)=some n
 back:∀s n,intS s=some n->Lib.itoa n=s
theorem KH{α β}{f:α->Option β}{g:β->α}: ∀(l:List β),(∀x∈l,f (g x)=some x)->mapO f (l.map g)=some l
 |[],_=>rfl
 |x::r,h=>by
  rw[List.map_cons,mapO,h x List.mem_cons_self]
  simp only
  rw[KH r fun y hy=>h y (List.mem_cons_of_mem _ hy)]
theorem Il{α β}{f:α->Option β}{g:β->α}(h:∀x y,f x=some y->g y=x): ∀(l:List α) (m:List β),mapO f l=some m->m.map g=l
 |[],m,e=>by rw[mapO]at e;cases e;rfl
 | x::r,m,e=>by
  rw[mapO]at e
  split at e
  ·cases e
  ·rename_i y e1
   split at e
   ·cases e
   ·rename_i l e2
    cases e
    rw[List.map_cons,h x y e1,Il h r l e2]
theorem CS{n:Int}{c:UInt8}(h:c.toNat=10\/c.toNat=32\/c.toNat=58):c∉Lib.itoa n:=fun hm=>by
 have:=Up hm
 omega
theorem TL: ∀k:Nat,k<21->(10:UInt8)∉(wordsC[k]?).getD []/\(32:UInt8)∉(wordsC[k]?).getD []/\idxG ((wordsC[k]?).getD []) wordsC 0=k:=by decide
theorem Kj{op:Int}(h:1<=op/\op<=21):(10:UInt8)∉FR op/\(32:UInt8)∉FR op/\opW (FR op)=some op:=by
 obtain⟨a,b,c⟩:=TL (op-1).toNat (by omega)
 refine⟨a,b,?_⟩
 unfold opW FR
 rw[c,if_pos (by omega)]
 congr 1;omega
theorem Ng{α}[DecidableEq α]{s:α}: ∀(l:List α) (k:Nat),0<=idxG s l k->k<=idxG s l k/\idxG s l k<k+l.length
 |[],_,h=>by rw[idxG]at h;omega
 | x::r,k,h=>by
  rw[idxG]at h⊢
  rw[List.length_cons]
  split
  ·omega
  ·rename_i e
   rw[if_neg e]at h
   have:=Ng r (k+1) h
   omega
theorem NV{w:Str}{op:Int}(h:opW w=some op):FR op=w:=by
 unfold opW at h
 split at h
 ·rename_i h0
  cases h
  have:=Ng (s:=w) wordsC 0 (by omega)
  have hg:∀(l:List Str) (k:Nat),0<=idxG w l k->(l[(idxG w l k-k).toNat]?).getD []=w:=fun l=>by
   induction l with
   |nil=>intro k h;rw[idxG]at h;omega
   | cons x r ih =>
    intro k h
    rw[idxG]at h⊢
    split
    ·rename_i e
     rw[show((k:Int)-k).toNat=0 by omega];exact e
    ·rename_i e
     rw[if_neg e]at h
     have h1:=Ng (s:=w) r (k+1) h
     have:=ih (k+1) h
     rw[show(idxG w r (k+1)-(k:Int)).toNat=(idxG w r (k+1)-((k+1:Nat):Int)).toNat+1 by omega,List.getElem?_cons_succ]
     exact this
  have:=hg wordsC 0 h0
  unfold FR
  rw[show(idxG w wordsC 0+1-1).toNat=(idxG w wordsC 0-((0:Nat):Int)).toNat by omega]
  exact this
 ·cases h
section
variable {intS:Str->Option Int}
theorem P5(hi:IntOK intS){x:CIns}(h:BI x=true):EI intS (Bw x)=some x:=by
 unfold BI at h
 rw[Bool.and_eq_true]at h
 obtain⟨h1,h2⟩:=h
 simp only[decide_eq_true_eq]at h1
 obtain⟨w1,w2,w3⟩:=Kj h1
 unfold EI Bw
 cases e:hasA x.op with
 | true =>
  rw[e,if_pos rfl]at h2
  simp only[if_true]
  rw[L4 _ _ w2]
  simp only
  rw[w3]
  simp only[e,if_true]
  have : -1000000000<=x.a/\x.a<=1000000000:=by
   split at h2
   ·unfold inB at h2
    simpa[Bool.and_eq_true,decide_eq_true_eq] using h2
   ·unfold farN at h2
    simp only[decide_eq_true_eq]at h2
    omega
  rw[hi.read x.a this.1 this.2]
 |false=>
  rw[e,if_neg (by simp)]at h2
  simp only[decide_eq_true_eq]at h2
  simp only[Bool.false_eq_true,if_false,List.append_nil]
  rw[IT _ w2]
  simp only
  rw[w3]
  simp only[e,Bool.false_eq_true,if_false]
  rw[<-h2]
theorem P6(hi:IntOK intS)(l:Str)(x:CIns)(h:EI intS l=some x):Bw x=l:=by
 unfold EI at h
 split at h
 ·split at h
  ·cases h
  ·rename_i op e
   split at h
   ·cases h
   ·rename_i hh
    cases h
    unfold Bw
    simp only
    rw[if_neg hh,List.append_nil]
    exact NV e
 ·rename_i w a e0
  split at h
  ·cases h
  ·rename_i op e
   split at h
   ·rename_i hh
    split at h
    ·cases h
    ·rename_i n e1
     cases h
     unfold Bw
     simp only
     rw[if_pos hh,NV e,hi.back _ _ e1]
     exact(IU _ _ _ e0).symm
   ·cases h
theorem ES{α}(f:α->Str)(b:UInt8): ∀l:List α,listB (fun n=>f n++[b]) l=listB (fun x=>x++[b]) (l.map f)
 |[]=>rfl
 |x::r=>by rw[listB,List.map_cons,listB,ES f b r]
theorem GZ(b:UInt8): ∀(l:List Str),l≠[]->(listB (fun x=>x++[b]) l).getLast? = some b
 |[],h=>absurd rfl h
 |[x],_=>by rw[listB,listB,List.append_nil,List.getLast?_concat]
 |x::y::r,_=>by
  rw[listB,List.getLast?_append,GZ b (y::r) (by simp)];rfl
theorem Lu(hi:IntOK intS){l:List Int}(h:∀n∈l,farN n=true):EH intS (listB (fun n=>Lib.itoa n++[32]) l)=some l:=by
 unfold EH
 cases l with
 |nil=>rw[listB,if_pos rfl]
 | cons x r =>
  rw[ES]
  have hne:listB (fun x=>x++[(32:UInt8)]) ((x::r).map Lib.itoa)≠[]:=by rw[List.map_cons,listB];simp
  rw[if_neg hne,if_pos (GZ 32 _ (by simp)),GS 32 _ (by simp) fun y hy=>?_]
  ·exact KH _ fun n hn=>by
    have:=h n hn
    unfold farN at this
    simp only[decide_eq_true_eq]at this
    exact hi.read n (by omega) (by omega)
  ·obtain⟨n,_,rfl⟩:=List.mem_map.1 hy
   exact CS (.inr (.inl rfl))
theorem P4(hi:IntOK intS){a:Str}{l:List Int}(h:EH intS a=some l):listB (fun n=>Lib.itoa n++[32]) l=a:=by
 unfold EH at h
 split at h
 ·rename_i e;cases h;rw[e];rfl
 ·split at h
  ·rename_i e
   rw[ES,Il hi.back _ _ h,GY]
   obtain⟨ys,rfl⟩:=List.getLast?_eq_some_iff.1 e
   rw[List.dropLast_concat]
  ·cases h
theorem Qn(hi:IntOK intS){c:CProg}(h:AG c=true):EG intS (Cz c)=some c:=by
 have hp:=h
 unfold AG at h
 simp only[Bool.and_eq_true,decide_eq_true_eq,List.all_eq_true]at h
 obtain⟨h1,h2,h3,h4,h5⟩:=h
 have hm : -1000000000<=c.main/\c.main<=1000000000:=by
  unfold farN at h3
  simp only[decide_eq_true_eq]at h3
  omega
 unfold EG Cz
 rw[if_neg (by rw[GZ 10 _ (by simp)];simp),GS 10 _ (by simp) fun x hx=>?_]
 ·simp only
  unfold Ej
  rw[OD _ _ ?_]
  ·simp only
   rw[hi.read _ hm.1 hm.2]
   simp only
   rw[Lu hi h4]
   simp only
   rw[KH _ fun x hx=>P5 hi (h5 x hx)]
   simp only
   rw[if_pos hp]
  ·intro aa
   rw[ES]at aa
   have:∀l:List Str,(∀x∈l,(58:UInt8)∉x)->(58:UInt8)∉listB (fun x=>x++[(32:UInt8)]) l:=fun l=>by
    induction l with
    |nil=>intro _ h;rw[listB]at h;cases h
    | cons x r ih =>
     intro hx h
     rw[listB]at h
     rcases List.mem_append.1 h with h|h
     ·rcases List.mem_append.1 h with h|h
      ·exact hx x List.mem_cons_self h
      ·rw[List.mem_singleton]at h;exact absurd h (by decide)
     ·exact ih (fun y hy=>hx y (List.mem_cons_of_mem _ hy)) h
   refine this _ (fun x hx=>?_) aa
   obtain⟨n,_,rfl⟩:=List.mem_map.1 hx
   exact CS (.inr (.inr rfl))
 ·rcases List.mem_cons.1 hx with rfl|hx
  ·unfold Ej
   intro aa
   rcases List.mem_append.1 aa with aa|aa
   ·rw [ES] at aa
    have:∀l:List Str,(∀x∈l,(10:UInt8)∉x)->(10:UInt8)∉listB (fun x=>x++[(32:UInt8)]) l:=fun l=>by
     induction l with
     |nil=>intro _ h;rw[listB]at h;cases h
     | cons x r ih =>
      intro hx h
      rw[listB]at h
      rcases List.mem_append.1 h with h|h
      ·rcases List.mem_append.1 h with h|h
       ·exact hx x List.mem_cons_self h
       ·rw[List.mem_singleton]at h;exact absurd h (by decide)
      ·exact ih (fun y hy=>hx y (List.mem_cons_of_mem _ hy)) h
    refine this _ (fun x hx=>?_) aa
    obtain⟨n,_,rfl⟩:=List.mem_map.1 hx
    exact CS (.inl rfl)
   ·rcases List.mem_cons.1 aa with h|aa
    ·exact absurd h (by decide)
    ·rcases List.mem_cons.1 aa with h|aa
     ·exact absurd h (by decide)
     ·exact CS (.inl rfl) aa
  ·obtain⟨y,hy,rfl⟩:=List.mem_map.1 hx
   have ay:=h5 y hy
   unfold BI at ay
   rw[Bool.and_eq_true]at ay
   have w:=Kj (by simpa using ay.1:1<=y.op/\y.op<=21)
   unfold Bw
   intro aa
   rcases List.mem_append.1 aa with aa|aa
   ·exact w.1 aa
   ·split at aa
    ·rcases List.mem_cons.1 aa with h|aa
     ·exact absurd h (by decide)
     ·exact CS (.inl rfl) aa
    ·cases aa
theorem Q3 (hi:IntOK intS) {s:Str} {c:CProg} (h:EG intS s=some c):AG c=true/\Cz c=s:=by
 unfold EG at h
 split at h
 ·cases h
 ·rename_i h0
  have aB:s.getLast? = some 10:=Classical.byContradiction h0
  split at h
  ·cases h
  ·rename_i l0 ls e0
   split at h
   ·cases h
   ·rename_i a m e1
    split at h
    ·cases h
    ·rename_i main e2
     split at h
     ·cases h
     ·rename_i starts e3
      split at h
      ·cases h
      ·rename_i ins e4
       split at h
       ·rename_i hp
        cases h
        refine⟨hp,?_⟩
        unfold Cz Ej
        simp only
        rw[P4 hi e3,hi.back _ _ e2,Il (P6 hi) _ _ e4,<-IS _ _ _ e1,<-e0,GY]
        obtain⟨ys,rfl⟩:=List.getLast?_eq_some_iff.1 aB
        rw[List.dropLast_concat]
       ·cases h
end
end Go.DL
