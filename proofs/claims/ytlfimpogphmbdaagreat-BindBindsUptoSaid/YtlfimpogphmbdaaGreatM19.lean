/- Part of the proof that the last text ends. -/
import Derived.Test.YtlfimpogphmbdaaGreatM08
import Derived.Test.YtlfimpogphmbdaaGreatM18
import Derived.Test.YtlfimpogphmbdaaGreatM15
import Derived.Test.YtlfimpogphmbdaaGreatM16
import Derived.Test.YtlfimpogphmbdaaGreatM17
set_option linter.all false
namespace Go.DL
open Go.Proofs.Tryz
open Go Go.Proofs
set_option maxHeartbeats 8000000
def Keep (touch:Nat->Prop) (V S':Sig):Prop := ∀ j o,V j=some o -> ¬ touch j->S' j=some o
theorem Keep.refl (touch:Nat->Prop) (V:Sig):Keep touch V V:=fun _ _ h _=>h
theorem Keep.trans {touch:Nat->Prop} {a b c:Sig} (h:Keep touch a b) (k:Keep touch b c):Keep touch a c:=fun j o h1 h2=>k _ _ (h _ _ h1 h2) h2
theorem Keep.fresh {touch:Nat->Prop} {a b:Sig} (h:Keep touch a b) {i:Nat} {o:DObj} (hi:a i=none):Keep touch a (b.set i o):=fun j x h1 h2=>by
 rw [w8 _ _ fun e=>by rw [e,hi] at h1;cases h1];exact h _ _ h1 h2
theorem TN {S:Type} (p:BProg) (l:Nat) (Good:Sig->S->Prop) (Bad:Sig->Prop) (touch:Nat->Prop) (step:Nat->Int->Int->S->Option S) (hp:p.wt<=1073741824)
  (hs0 : ∀ node size s,step 0 node size s=none) (hsn : ∀ k node size s s',step k node size s=some s'->0<=node/\node < p.nodes.length)
  (hy : ∀ (k:Nat) (d node size:Int) V s,d=13-(k:Int)->0<=size->size+k<=1000->Good V s->DYield prog l [dI node, .agg [dI size,dI d]] V (OutO unf (.bool true) Good Bad touch V (step k node size s)))
  (hm : ∀ V s a o,Good V s->V a=none->Good (V.set a o) s) (k:Nat) (d node size:Int) (V:Sig) (s:S) (ht : ∀ a,V a=none -> ¬ touch a) (hd:d=13-(k:Int)) (h0:0<=size) (hsz:size+k<=1000) (hk:k<=13) (hG:Good V s) :
   DCall prog 170 [.yld l, .cptr (AC p) 0, .cptr [dI node] 0, .cptr [dI size,dI d] 0] V (OutO unf (.tup []) Good Bad touch V (GG p step k node size s)):=by
 refine en func170 ntmps170 ?_
 refine gz ?_ [] [5]
 refine newV (fun a ha => ?_)
 refine gz ?_ [] [5]
 refine Ab (TM p l a Good Bad touch step hp (ht a ha) hs0 hsn hy k d node size (V.set a _) s hd h0 hsz hk (hm _ _ _ _ hG ha) (w7 ..)) (fun e S' hr => ?_) (fun e S' hr => ?_)
 ·obtain ⟨s',hs',rfl,hG',hK⟩:=hr.ret
  rw [hs']
  refine gz ?_ [] [5]
  refine DM (S':=S') ?_
  exact ⟨rfl,hG',fun j o h1 h2=>hK j o (by rw [w8 _ _ fun e=>by rw [e,ha] at h1;cases h1];exact h1) h2⟩
 ·obtain ⟨hn,rfl,hb⟩:=hr.pan
  rw [hn]
  exact finP (S':=S') ⟨rfl,hb⟩
theorem Vs (p:BProg) (node size d:Int) (V:Sig):DCall prog 84 [.agg (AC p),dI node, .agg [dI size,dI d]] V (rS (.func (.func 170) [] [.cptr (AC p) 0, .cptr [dI node] 0, .cptr [dI size,dI d] 0]) V):=by
 refine en func84 ntmps84 ?_
 refine gz ?_
 exact fe1 trivial
@[reducible,instance] def a84:=fun p node size d V=>ah0 (@Vs p node size d V)
theorem SW (p:BProg) (x:BNode) (k:Int) (V:Sig):DCall prog 327 [dI k, .agg (AC p), .agg (Ad x)] V (rS (dI k) V):=by
 refine en func327 ntmps327 ?_
 refine gz ?_
 exact fe1 trivial
theorem SV (p:BProg) (x:BNode) (V:Sig) (h0:0<=x.n:=by exact sd) (h1:x.n < p.gens.length:=by exact sd) (hl:p.gens.length<=1073741824:=by exact sd):DCall prog 328 [.agg [], .agg (AC p), .agg (Ad x)] V (rS (dI (p.gens.getD x.n.toNat 0)) V):=by
 refine en func328 ntmps328 ?_
 obtain ⟨q,hq⟩ : ∃ q:Nat,x.n=(q:Int):=⟨x.n.toNat,by omega⟩
 have hq1:q < p.gens.length:=by omega
 have hg:p.gens.getD x.n.toNat 0=p.gens[q]:=by rw [hq,List.getD_eq_getElem?_getD];simp [hq1]
 rw [hg]
 refine gf hq ?_
 exact fe1 trivial
theorem meth327 : JZ prog 140 "consort/bind.many" 327 := by
 intro v w;kernel_rfl
theorem meth328 : JZ prog 142 "consort/bind.many" 328 := by
 intro v w;kernel_rfl
theorem Wh {ro:Option Nat} {n:Nat} {ops:Array Oper} {N:Nat} {S0 V:Sig} {Q:DX->St->Prop} {df:List DDf} {γ Sr:Fr} {t:Nat} {ty:TypeId} {pos:String} {after:Array Edge} {l:List (Bool × Oper)} {d e:D} {rv:Operand} {name:String} {args:Array Operand} {ats:Array TypeId} {f T:Nat} {us:List D} (hM:JZ prog T name f) (h:DCall prog f (d::us) V (rS e V)) (k:MO prog ro n ops N S0 Q df l ((t,e)::γ) V)
  (hl:A5 γ (A8 (rv::args.toList))=some Sr:=by exact tdR) (hx:ev Sr rv = .iface T d:=by exact tdR) (ha:args.toList.map (ev Sr)=us:=by exact tdR) (htn:decide (t < n)=true:=by exact tdR) (hC:Sub S0 V:=by first | exact Sub.refl _ | assumption) :
  MO prog ro n ops N S0 Q df ((true,⟨some t, .call { callee := .invoke rv name,args,argTypes:=ats },ty,pos,after,none⟩)::l) γ V:=by
 refine mo1 (fun U2 hγ => ?_) htn
 have he : ∀ x ∈ rv::args.toList,ev U2 x=ev Sr x:=fun x hx=>by
  rw [hγ x (by simpa [Op.operands,Call.operands] using hx)]
  exact (BU fun t ht=>AN hl t (B7 (by rw [<- ht];exact hx))).symm
 refine JL rfl (by rw [he rv (by simp)];exact hx) hM h ?_ (by simpa [Ar] using htn) (fun d' S' ⟨e1,e2⟩ => ?_) (fun d' S' ⟨e1,e2⟩=>by cases e1)
 ·rw [show args.toList.map (ev U2)=args.toList.map (ev Sr) from List.map_congr_left fun x h=>he x (by simp [h]),ha]
  exact DR _
 ·cases e1;subst e2
  exact AJ ⟨rfl,by simp only [putD,A7,if_true];exact ⟨hC,k⟩⟩
def I3 (p:BProg) (inM:Bool):Nat->Int->Int->List Int->Option (List Int)
 | 0,_,_,_=>none
 | _+1,node,size,s =>
  if node < 0\/(p.nodes.length:Int)<=node\/0<=s.getD node.toNat 0 then none else
  if ((Au p node).kids.length:Int) ≠ E7 p (Au p node)\/Ca p (Au p node) size=false\/((Au p node).op=18/\inM=false) then none else some (s.set node.toNat size)
def optW:Bool × List Int->Option (List Int)
 | (true,s)=>some s
 | (false,_)=>none
theorem Kx (f:Int->Int->List Int->Bool × List Int) (x:BNode) (size:Int) : ∀ (j:Nat) (l s:List Int),LP (fun a b c=>optW (f a b c)) x size j l s=optW (EE f x size j l s)
 | _,[],s=>rfl
 | j,c::r,s=>by
  rw [LP,EE]
  cases h:f c (if x.op=9/\j=1 then size+1 else size) s with
  | mk b s'=>cases b with
   | false=>rfl
   | true=>simp only [optW];exact Kx f x size (j+1) r s'
theorem Ke (p:BProg) (inM:Bool) : ∀ (k:Nat) (node size:Int) (s:List Int),GG p (I3 p inM) k node size s=optW (GH p inM k node size s)
 | 0,_,_,_=>rfl
 | k+1,node,size,s=>by
  rw [GG,GH,I3]
  by_cases h1:node < 0\/(p.nodes.length:Int)<=node\/0<=s.getD node.toNat 0
  ·rw [if_pos h1,if_pos h1];rfl
  ·rw [if_neg h1,if_neg h1]
   by_cases h2:((Au p node).kids.length:Int) ≠ E7 p (Au p node)\/Ca p (Au p node) size=false\/((Au p node).op=18/\inM=false)
   ·rw [if_pos h2,if_pos h2];rfl
   ·rw [if_neg h2,if_neg h2]
    have e:GG p (I3 p inM) k=fun a b c=>optW (GH p inM k a b c):=by funext a b c;exact Ke p inM k a b c
    simp only [e]
    exact Kx _ _ _ _ _ _
theorem L5 {P:Program} {n:Nat} {Q:DX->St->Prop} {γ:Fr} {V:Sig} {df:List DDf} {gop:Operand} {ps:Array Tmp} {asg body:Code} {f:Nat} {first cap:List D} {S:Type} {u:D} (G:Nat->Sig->S->Prop) (Bad:Nat->Sig->Prop) (touch:Nat->Prop) (o:Option S)
  (hf:ev γ gop = .func (.func f) first cap)
  (hcall : ∀ l did,V did=none->V l=none->l ≠ did -> ∀ LO,LO=DObj.loop .ready none ps asg body n γ did->DCall P f (first++[.yld l]++cap) ((V.set did .defs).set l LO) (OutO u (.tup []) (fun S' s=>S' l=some LO/\G did S' s) (Bad did) touch ((V.set did .defs).set l LO) o))
  (hret : ∀ l did s S',o=some s->V did=none->V l=none->l ≠ did->G did S' s->Q .normal ⟨γ,S'.del l, .coll did::df⟩)
  (hpan : ∀ did S',o=none->V did=none->Bad did S'->Q (.panic u) ⟨γ,S', .coll did::df⟩) :
  DWp P none n (.rangeFunc gop ps asg body) Q ⟨γ,V,df⟩:=by
 refine ET (R:=fun l did=>OutO u (.tup []) (fun S' s=>S' l=some (DObj.loop .ready none ps asg body n γ did)/\G did S' s) (Bad did) touch ((V.set did .defs).set l (DObj.loop .ready none ps asg body n γ did)) o) hf (fun l did h1 h2 h3=>hcall l did h1 h2 h3 _ rfl) (fun l did d S' h1 h2 h3 hr => ?_) (fun l did d S' h1 h2 h3 hr => ?_)
 ·obtain ⟨s,hs,rfl,⟨hl,hG⟩,hK⟩:=hr.ret
  exact ⟨_,_,hl,by simp,hret l did s S' hs h1 h2 h3 hG⟩
 ·obtain ⟨hn,rfl,hb⟩:=hr.pan
  exact hpan did S' hn h1 hb
theorem endM {P:Program} {n:Nat} {fn:Func} {R:DE->Sig->Prop} {γ:Fr} {V:Sig} {did:Nat} (h:R (.ret (.tup [])) (V.del did)) (hd:V did=some .defs) (hr:fn.results = #[]:=by rfl) : ∃ s',Wk P n ⟨γ,V,[.coll did]⟩ s'/\Rh P n fn (Weak R) .normal s' :=
 ⟨_,Wk.refl _ _ _,[did],rfl,by simp,by simp [hd], .tup [],DS (by simp [resD,hr]),ED h⟩
theorem endMP {P:Program} {n:Nat} {fn:Func} {R:DE->Sig->Prop} {γ:Fr} {V:Sig} {did:Nat} {d:D} (h:R (.panic d) (V.del did)) (hd:V did=some .defs) : ∃ s',Wk P n ⟨γ,V,[.coll did]⟩ s'/\Rh P n fn (Weak R) (.panic d) s' :=
 ⟨_,Wk.refl _ _ _,[did],rfl,by simp,by simp [hd],ED h⟩
theorem Keep.del {touch:Nat->Prop} {a b:Sig} (h:Keep touch a b) {i:Nat} (hi:a i=none):Keep touch a (b.del i):=fun j x h1 h2=>by
 have e:j ≠ i:=fun e=>by rw [e,hi] at h1;cases h1
 simp only [Sig.del,e,if_false];exact h _ _ h1 h2
theorem Keep.base {touch:Nat->Prop} {a b:Sig} {i:Nat} {o:DObj} (h:Keep touch (a.set i o) b) (hi:a i=none):Keep touch a b:=fun j x h1 h2 =>
 h _ _ (by rw [w8 _ _ fun e=>by rw [e,hi] at h1;cases h1];exact h1) h2
def C3:DObj->DObj
 | .loop _ _ ps a b n γ d => .loop .busy none ps a b n γ d
 | o=>o
def VW (c:Code):DObj->DObj
 | .loop _ _ ps a b n γ d => .loop .done (some c) ps a b n γ d
 | o=>o
def PZ (l:Nat) (LO:DObj) (R:DE->Sig->Prop):DX->St->Prop
 | .normal,s=>s.V l=some (C3 LO)/\R (.ret (.bool true)) (s.V.set l LO)
 | .ret,s=>s.V l=some (C3 LO)/\R (.ret (.bool false)) (s.V.set l (VW .ret LO))
 | .panic d,s=>s.df=[]/\R (.panic d) s.V
 | .exit id,s=>s.V l=some (C3 LO)/\R (.ret (.bool false)) (s.V.set l (VW (.exit id) LO))
theorem Ea {P:Program} {l:Nat} {args:List D} {V:Sig} {R:DE->Sig->Prop} {ps:Array Tmp} {asg body:Code} {n:Nat} {Sl:Fr} {did:Nat} {LO:DObj} (hLO:LO = .loop .ready none ps asg body n Sl did) (hZ:V l=some LO)
  (h:DWp P (some l) n asg (Then (fun s=>s.V l=some LO/\DWp P (some l) n body (PZ l LO R) { s with V:=s.V.set l (C3 LO) }) (fun _ _=>False)) ⟨PV ps.toList args Sl,V,[]⟩) (hl:ps.toList.length=args.length:=by rfl) (hp : ∀ p ∈ ps.toList,p < n:=by decide):DYield P l args V R:=by
 subst hLO
 refine M7 hZ hl hp ?_
 have e:PZ l (.loop .ready none ps asg body n Sl did) R=Wy l ps asg body n Sl did R:=by funext x s;cases x<;>rfl
 rw [<- e]
 exact h
theorem LZ (p:BProg) (io r:Nat) (inM:Bool) (node size:Int) (s:List Int) (V:Sig) (hp:p.wt<=1073741824) (hio:V io=some (.cells [.sref r 0 p.nodes.length p.nodes.length])) (hr:V r=some (.cells (s.map dI))) (hs:s.length=p.nodes.length) (hne:io ≠ r) (hz:0<=size) (hz2:size<=900) :
  DCall prog 83 [dI node,dI size, .bool inM, .cptr (AC p) 0, .ptr io 0] V (OutO unf (.tup []) (fun S' s'=>S' r=some (.cells (s'.map dI))/\s'.length=p.nodes.length/\Keep (· = r) V S') (fun S'=>Keep (· = r) V S') (· = r) V (optW (GH p inM 12 node size s))):=by
 obtain ⟨p1,p2,p3,p4,p5,p6,p7⟩:=p.wt_le
 rw [<- Ke]
 refine Bc func83 rfl (by decide) ntmps83 (by simp) ?_
 refine gz ?_ o83
 refine L5 (u:=unf) (fun did S' s'=>S' r=some (.cells (s'.map dI))/\s'.length=p.nodes.length/\Keep (· = r) (V.set did .defs) S') (fun did S'=>Keep (· = r) (V.set did .defs) S') (· = r) (GG p (I3 p inM) 12 node size s) rfl (fun l did hd hl hld LO hLO => ?_) (fun l did s' S' ho hd hl hld hG => ?_) (fun did S' ho hd hb => ?_)
 ·have hrd:r ≠ did:=fun e=>by rw [e,hd] at hr;cases hr
  have hod:io ≠ did:=fun e=>by rw [e,hd] at hio;cases hio
  rw [<- w8 V DObj.defs hod] at hio
  rw [<- w8 V DObj.defs hrd] at hr
  rw [<- w8 V DObj.defs hld] at hl
  clear hd hrd hod
  generalize V.set did .defs=Sd at *
  refine TN p l _ _ _ (I3 p inM) hp (fun _ _ _=>rfl) (fun k node size s s' h=>by
   cases k with
   | zero=>cases h
   | succ k =>
    rw [I3] at h
    split at h
    ·cases h
    ·omega) (fun k d node size S1 s1 hd hz1 hz2 hG => ?_) (fun S1 s1 a o hG ha => ?_) 12 1 node size _ s (fun a ha e => ?_) (by omega) hz (by omega) (by omega) ?_
  ·obtain ⟨hl1,hr1,hs1,hK1⟩:=hG
   refine Ea hLO hl1 ?_
   clear hLO
   refine gz ?_ o83
   refine ⟨hl1, ?_⟩
   have hio1:=hK1 io _ hio hne
   have hlio:l ≠ io:=fun e=>by rw [e,hio] at hl;cases hl
   have hlr:l ≠ r:=fun e=>by rw [e,hr] at hl;cases hl
   have hKb:=hK1.fresh (o:=C3 LO) hl
   cases k with
   | zero =>
    repeat' first | (exact ⟨rfl,rfl,hKb⟩) | refine gf (gi hio1 (gi hr1 (gi hlio (gi hlr hne)))) ?_ o83 | apply gy<;>intro hh
   | succ k =>
    by_cases hn:node < 0\/(p.nodes.length:Int)<=node
    ·have hS:I3 p inM (k+1) node size s1=none:=by rw [I3,if_pos (by omega)]
     rw [hS]
     repeat' first | (exact ⟨rfl,rfl,hKb⟩) | refine gf (gi hio1 (gi hr1 (gi hlio (gi hlr hne)))) ?_ o83 | apply gy<;>intro hh
    ·obtain ⟨q,rfl⟩ : ∃ q:Nat,node=(q:Int):=⟨node.toNat,by omega⟩
     have hq:q < p.nodes.length:=by omega
     have hqs:q < s1.length:=by omega
     have hget:s1.getD ((q:Int)).toNat 0=s1[q]:=by simp [List.getD_eq_getElem?_getD,hqs]
     by_cases h2:0<=s1[q]
     ·have hS:I3 p inM (k+1) q size s1=none:=by rw [I3,if_pos (by rw [hget];omega)]
      rw [hS]
      repeat' first | (exact ⟨rfl,rfl,hKb⟩) | refine gf (gi hio1 (gi hr1 (gi hlio (gi hlr hne)))) ?_ o83 | apply gy<;>intro hh
     ·have hna:Au p q=p.nodes[q]:=by unfold Au;simp [hq]
      have hS:I3 p inM (k+1) q size s1=if ((p.nodes[q]).kids.length:Int) ≠ E7 p p.nodes[q]\/Ca p p.nodes[q] size=false\/((p.nodes[q]).op=18/\inM=false) then none else some (s1.set q size):=by
       rw [I3,if_neg (by rw [hget];omega),hna];simp
      have hkl:(p.nodes[q]).kids.length<=1073741824:=by have:=p7 q hq;unfold BNode.wt at this;omega
      generalize hx:p.nodes[q]=x at *
      have hKd : ∀ o,Keep (· = r) Sd ((S1.set l (C3 LO)).set r o):=fun o j x h1 h2=>by rw [w8 _ _ h2];exact hKb j x h1 h2
      cases hnb:Ca p x size with
      | false =>
       rw [if_pos (.inr (.inl hnb))] at hS
       rw [hS]
       repeat' first | (exact ⟨rfl,rfl,hKd _⟩) | refine gf (gi hio1 (gi hr1 (gi hlio (gi hlr (gi hne (gi hx hnb)))))) ?_ o83 | apply gy<;>intro hh
      | true =>
       by_cases h18:x.op=18/\inM=false
       ·rw [if_pos (.inr (.inr h18))] at hS
        rw [hS]
        repeat' first | (exact ⟨rfl,rfl,hKd _⟩) | refine gf (gi hio1 (gi hr1 (gi hlio (gi hlr (gi hne (gi hx (gi hnb h18.2))))))) ?_ o83 | apply gy<;>intro hh
        all_goals exact absurd h18.1 (by assumption)
       ·
        repeat' first | refine gf (gi hio1 (gi hr1 (gi hlio (gi hlr (gi hne (gi hx hnb)))))) ?_ o83 | apply gy<;>intro hh
        all_goals try (exfalso;grind)
        all_goals
         have h18':Ca p x size=false\/(x.op=18/\inM=false)->False:=fun h=>h.elim (by rw [hnb];simp) h18
         have hfin:(((S1.set l (C3 LO)).set r (.cells (List.take q (List.map dI s1)++dI size::List.drop (q+1) (List.map dI s1)))) l=some (C3 LO)) /\
           (fun S'=>(S' l=some LO/\S' r=some (.cells ((s1.set q size).map dI))/\(s1.set q size).length=p.nodes.length/\Keep (· = r) Sd S')/\Keep (· = r) S1 S') (((S1.set l (C3 LO)).set r (.cells (List.take q (List.map dI s1)++dI size::List.drop (q+1) (List.map dI s1)))).set l LO):=by
          refine ⟨by rw [w8 _ _ hlr,w7],⟨w7 .., ?_,by simpa using hs1,fun j o h1 h2 => ?_⟩,fun j o h1 h2 => ?_⟩
          ·rw [w8 _ _ (Ne.symm hlr),w7,List.map_set,List.set_eq_take_append_cons_drop,if_pos (by simpa using hqs)]
          ·rw [w8 _ _ fun e=>by rw [e,hl] at h1;cases h1];exact hKd _ j o h1 h2
          ·by_cases hj:j=l
           ·rw [hj] at h1 ⊢; rw [w7, <- h1,hl1]
           ·rw [w8 _ _ hj,w8 _ _ h2,w8 _ _ hj];exact h1
         cases hk:Qi x.op with
         | some kk =>
          have hkd:E8 x.op = .iface 140 (dI kk):=by unfold E8;rw [hk]
          have hkr:E7 p x=kk:=by unfold E7;rw [hk]
          rw [hkr] at hS
          refine gf (gi hkd (gi hio1 (gi hr1 (gi hlio (gi hlr (gi hne hx)))))) ?_ o83
          refine Wh meth327 (SW p x kk _) ?_
          repeat' first | refine gz ?_ o83 | apply gy<;>intro hh
          ·have h6:=hh
           rw [hS,if_neg (fun h=>h.elim (fun h=>h h6) h18')]
           exact ⟨hfin.1,rfl,hfin.2⟩
          ·have h6:=hh
           rw [hS,if_pos (.inl h6)]
           exact ⟨rfl,rfl,hKd _⟩
         | none =>
          by_cases h5:x.op=5
          ·have hkd:E8 x.op = .iface 142 (.agg []):=by unfold E8;rw [hk];simp [h5]
           have hnn:0<=x.n/\x.n < p.gens.length:=by simpa [Ca,h5] using hnb
           have hkr:E7 p x=p.gens[x.n.toNat]'(by omega):=by unfold E7;rw [hk];simp [h5,hnn,List.getD_eq_getElem?_getD,show x.n.toNat < p.gens.length by omega]
           rw [hkr] at hS
           refine gf (gi hkd (gi hio1 (gi hr1 (gi hlio (gi hlr (gi hne hx)))))) ?_ o83
           refine Wh meth328 (SV p x _ hnn.1 hnn.2) ?_
           repeat' first | refine gz ?_ o83 | apply gy<;>intro hh
           ·have h6:=hh
            rw [hS,if_neg (fun h=>h.elim (fun h=>h h6) h18')]
            exact ⟨hfin.1,rfl,hfin.2⟩
           ·have h6:=hh
            rw [hS,if_pos (.inl h6)]
            exact ⟨rfl,rfl,hKd _⟩
          ·have hkd:E8 x.op = .niliface:=by unfold E8;rw [hk];simp [h5]
           have hkr:E7 p x = -1:=by unfold E7;rw [hk];simp [h5]
           rw [hS,if_pos (.inl (by rw [hkr];omega))]
           repeat' first | (exact ⟨rfl,rfl,hKd _⟩) | refine gf (gi hkd (gi hio1 (gi hr1 (gi hlio (gi hlr (gi hne hx)))))) ?_ o83 | apply gy<;>intro hh
  ·obtain ⟨g1,g2,g3,g4⟩:=hG
   refine ⟨by rw [w8 _ _ fun e=>by rw [e,ha] at g1;cases g1];exact g1,by rw [w8 _ _ fun e=>by rw [e,ha] at g2;cases g2];exact g2,g3,fun j x h1 h2 => ?_⟩
   have:=g4 j x h1 h2
   rw [w8 _ _ fun e=>by rw [e,ha] at this;cases this];exact this
  ·have hrl:r ≠ l:=fun e=>by rw [e,hl] at hr;cases hr
   subst e
   rw [w8 _ _ hrl,hr] at ha;cases ha
  ·have hrl:r ≠ l:=fun e=>by rw [e,hl] at hr;cases hr
   exact ⟨w7 .., by rw [w8 _ _ hrl];exact hr,hs,(Keep.refl _ Sd).fresh hl⟩
 ·rw [ho]
  have hrl:r ≠ l:=fun e=>by rw [e,hl] at hr;cases hr
  have hrd:r ≠ did:=fun e=>by rw [e,hd] at hr;cases hr
  have hdr : ¬ did=r:=Ne.symm hrd
  refine gz ?_ o83
  have hk:=((hG.2.2.base hd).del hl).del hd
  refine endM ⟨rfl,⟨by simp [Sig.del,hrd,hrl];exact hG.1,hG.2.1,hk⟩,hk⟩ ?_
  simp only [Sig.del,Ne.symm hld,if_false]
  exact hG.2.2 did _ (w7 ..) hdr
 ·rw [ho]
  have hdr : ¬ did=r:=fun e=>by rw [<- e,hd] at hr;cases hr
  exact endMP ⟨rfl,(hb.base hd).del hd⟩ (hb did _ (w7 ..) hdr)
theorem bytesR {ro:Option Nat} {n:Nat} {ops:Array Oper} {Q:DX->St->Prop} {df:List DDf} {rest:List Oper} {γ Sr:Fr} {V:Sig} {t:Nat} {ty:TypeId} {pos:String} {after:Array Edge} {T T' e:Nat} {x:Operand} {s:Str}
  (h:DOps prog ro n ops Q rest ⟨(t, .slice (s.map fun b=>[D.int .u8 (b.toNat:Int)]) .no)::γ,V,df⟩) (hl:A5 γ (A8 [x])=some Sr:=by exact tdR) (hx:ev Sr x = .str s:=by exact tdR) (htn:decide (t < n)=true:=by exact tdR)
  (hk:(tab T).k = .str:=by (simp<;>rfl)) (hk':(tab T').k = .slice e:=by (simp<;>rfl)) (hke:(tab e).k = .int .u8:=by (simp<;>rfl)) :
  DOps prog ro n ops Q (⟨some t, .convert T T' x,ty,pos,after,none⟩::rest) ⟨γ,V,df⟩:=R8 Ae h (by simpa using htn) hk hk' hke (by rw [<- BR hl];exact hx)
theorem Qb {l:List Str} (h:l.Nodup) {k:Nat} (hk:k < l.length) : ¬ l[k] ∈ l.take k:=fun hm=>by
 obtain ⟨j,hj,e⟩:=List.getElem_of_mem hm
 rw [List.length_take] at hj
 rw [List.getElem_take] at e
 have:=(List.pairwise_iff_getElem.1 h) j k (by omega) hk (by omega)
 exact this e
theorem KR (V:Sig):DCall prog 240 [] V fun x S' => ∃ im,V im=none/\x = .ret (.map im)/\S'=V.set im (.map (eSS kwds)):=by
 have hkw:kwds.length=24:=rfl
 have hnd:kwds.Nodup:=by decide
 refine en func240 ntmps240 ?_
 refine gz ?_
 refine LE (fun im him => ?_)
 refine gz ?_
 refine rtw 5 (sl (cS kwds)) ?_ (hw:=Az _ _)
 refine Bz [0,1,5,6,14] (fun (k:Nat)=>k<=kwds.length) (fun k=>[(7,dI k)]) (fun k=>V.set im (.map (eSS (kwds.take k)))) (fun k=>kwds.length-k) (0) (by simp) (fun k hI => ?_)
 by_cases h:k < kwds.length
 ·have hq:ins kwds[k] (kwds.take k)=kwds.take (k+1):=by unfold ins;rw [if_neg (Qb hnd h),AP h]
  refine gf hq ?_
  exact ⟨k+1,by omega,td1,wkR⟩
 ·refine gz ?_
  refine fin1 (S':=V.set im (.map (eSS kwds))) ?_ (hZ:=by rw [List.take_of_length_le (by omega)];exact Sub.refl _)
  exact ⟨im,him,rfl,rfl⟩
theorem KS (s:Str) (im:Nat) (V:Sig) (hm:V im=some (.map (eSS kwds))) (hl:s.length<=1073741824):DCall prog 239 [.str s, .map im] V (rS (.bool (AM s)) V):=by
 refine en func239 ntmps239 ?_
 repeat' first | refine gf hm ?_ | apply gy<;>intro hh
 ·(refine fin1 (S':=V) ?_;exact ⟨by first | rfl | (simp [AM,hh];done) | (simp_all [AM,hh];done) | (rw [Aa,Bool.eq_iff_iff];simp_all [AM,hh]<;>omega),rfl⟩)
 ·any_goals (first | (refine fin1 (S':=V) ?_;exact ⟨by first | rfl | (simp [AM];done) | (simp_all [AM];done) | (rw [Aa,Bool.eq_iff_iff];simp_all [AM]<;>omega),rfl⟩) | fail)
 ·any_goals (first | (refine fin1 (S':=V) ?_;exact ⟨by first | rfl | (simp [AM];done) | (simp_all [AM];done) | (rw [Aa,Bool.eq_iff_iff];simp_all [AM]<;>omega),rfl⟩) | fail)
 ·rename_i e1 e2
  have hk : ¬ s ∈ kwds:=hh
  refine bytesR ?_
  refine gz ?_
  refine Bz [20,21] (fun (k:Nat)=>k<=s.length/\s.all D6=(s.drop k).all D6) (fun k=>[(22,dI k)]) (fun _=>V) (fun k=>s.length-k) (0) (by simp) (fun k hI => ?_)
  obtain ⟨hkl,hR⟩:=hI
  by_cases h:k < s.length
  ·rw [A3 h,List.all_cons] at hR
   repeat' first | refine gz ?_ | apply gy<;>intro hh
   ·have hn:D6 s[k]=false:=by unfold D6;simp;omega
    rw [hn] at hR
    (refine fin1 (S':=V) ?_;exact ⟨by first | rfl | (simp [AM,hR];done) | (simp_all [AM,hR];done) | (rw [Aa,Bool.eq_iff_iff];simp_all [AM,hR]<;>omega),rfl⟩)
   ·have hn:D6 s[k]=false:=by unfold D6;simp;omega
    rw [hn] at hR
    (refine fin1 (S':=V) ?_;exact ⟨by first | rfl | (simp [AM,hR];done) | (simp_all [AM,hR];done) | (rw [Aa,Bool.eq_iff_iff];simp_all [AM,hR]<;>omega),rfl⟩)
   ·have hn:D6 s[k]=true:=by unfold D6;simp;omega
    exact ⟨k+1,⟨by omega,by rw [hR,hn];rfl⟩,td1,wkR⟩
  ·rw [A2 h] at hR
   have h1:1<=s.length:=by cases s with | nil=>exact absurd rfl e1 | cons _ _=>simp
   have hN:AM s=true:=by unfold AM;rw [hR,decide_eq_true (by omega),decide_eq_false (by assumption)];rfl
   repeat' first | refine gz ?_ | apply gy<;>intro hh
   any_goals (first | exact fe1 hN | fail)
theorem TH (s:Str) (V:Sig) (hl:s.length<=1073741824):DCall prog 188 [.str s] V (rS (.bool (AM s)) V):=by
 refine en func188 ntmps188 ?_
 refine gz ?_
 refine Ab (KR V) (fun d S' hr => ?_) (fun d S' hr=>by obtain ⟨_,_,h,_⟩:=hr;cases h)
 obtain ⟨im,him,h1,rfl⟩:=hr
 simp only [DE.ret.injEq] at h1
 subst h1
 repeat' first | refine gz ?_ | refine AE (KS s im _ (w7 ..) hl) ?_ | refine callP (KS s im _ (w7 ..) hl) ?_ | refine gz ?_ | apply gy<;>intro hh
 exact fe1 trivial
@[reducible,instance] def a188:=fun s V=>ah1 (@TH s V)
theorem Et (s:Str) (im:Nat) (t:List Str) (V:Sig) (hm:V im=some (.map (eSS t))) (hl:s.length<=1073741824) :
  DCall prog 189 [.str s, .map im] V fun x S'=>(AM s && !decide (s ∈ t))=true/\x = .ret (.tup [])/\S'=V.set im (.map (eSS (t++[s])))\/(AM s && !decide (s ∈ t))=false/\x = .panic unf2/\S'=V:=by
 refine en func189 ntmps189 ?_
 by_cases hs:s ∈ t
 ·have hc:(AM s && !decide (s ∈ t))=false:=by simp [hs]
  rw [hc]
  repeat' first | refine gf (gi hm hs) ?_ | apply gy<;>intro hh
  all_goals
   refine finP (S':=V) ?_
   exact .inr ⟨rfl,rfl,rfl⟩
 ·cases hn:AM s
  ·refine gf (gi hm (gi hs hn)) ?_
   refine finP (S':=V) ?_
   exact .inr ⟨rfl,rfl,rfl⟩
  ·have hq:ins s t=t++[s]:=by unfold ins;rw [if_neg hs]
   refine gf (gi hm (gi hs (gi hn hq))) ?_
   refine DM (S':=V.set im (.map (eSS (t++[s])))) ?_
   exact .inl ⟨by simp [hs],rfl,rfl⟩
end Go.DL
