/- A part of the proof. -/
import Derived.Test.YtlfimpogphmbdaaGreatM24
import Derived.Test.YtlfimpogphmbdaaGreatM19
import Derived.Test.YtlfimpogphmbdaaGreatM22
import Derived.Test.YtlfimpogphmbdaaGreatM23
import Derived.Test.YtlfimpogphmbdaaGreatM21
import Derived.Test.YtlfimpogphmbdaaGreatM15
import Derived.Test.YtlfimpogphmbdaaGreatM14
set_option linter.all false
namespace Go.DL
open Go.Proofs.Tryz
open Go Go.Proofs
theorem LG: ∀(l:List Int) (n m:Int),G1 n l=some m->m=n+l.length /\ ∀x∈l,n<=x/\x<m
 |[],n,m,h=>by rw[G1]at h;cases h;simp
 | s::r,n,m,h=>by
  rw[G1]at h;split at h
  ·rename_i hs;obtain⟨h1,h2⟩:=LG r _ _ h;refine⟨by rw[h1,List.length_cons];omega,fun x hx=>?_⟩;rcases List.mem_cons.1 hx with rfl|hx
   ·omega
   ·have:=h2 x hx;omega
  ·cases h
theorem H3: ∀(cs:List BClass) (n m:Int),Cc n cs=some m->m=n+wtL (fun c:BClass=>c.slots.length) cs/\(∀c∈cs, ∀x∈c.slots,n<=x/\x<m)/\wtL (fun c:BClass=>c.slots.length) cs<=4*cs.length
 |[],n,m,h=>by rw[Cc]at h;cases h;simp[wtL]
 | c::r,n,m,h=>by
  rw[Cc]at h;split at h
  ·cases h
  ·rename_i h4;split at h
   ·cases h
   ·rename_i m1 hm;obtain⟨h1,h2⟩:=LG _ _ _ hm;obtain⟨h5,h6,h7⟩:=H3 r _ _ h;refine⟨by rw[wtL];omega,fun x hx y hy=>?_,by rw[wtL,List.length_cons];omega⟩;rcases List.mem_cons.1 hx with rfl|hx
    ·have:=h2 y hy;omega
    ·have:=h6 x hx y hy;omega
theorem Ib: ∀(cs:List BClass) (i:Nat),(ownersF cs i).length=wtL (fun c:BClass=>c.slots.length) cs
 |[],_=>by rw[ownersF,wtL];rfl
 |c::r,i=>by rw[ownersF,wtL,List.length_append,List.length_replicate,Ib r]
theorem Hx(cs:List BClass)(Q:Int->Prop)(hQ:∀c∈cs, ∀x∈c.slots,Q x): ∀(n:Nat) (up out:List Int),(∀x∈out,Q x)->∀x∈hasG cs n up out,Q x
 |0,_,out,ho,x,hx=>by rw[hasG]at hx;exact ho x hx
 | n+1,up,out,ho,x,hx=>by
  rw[hasG]at hx;split at hx
  ·rename_i c hc;split at hx
   ·refine Hx cs Q hQ n _ _ (fun y hy=>?_) x hx;rcases List.mem_append.1 hy with hy|hy
    ·exact ho y hy
    ·exact hQ c (List.mem_of_getElem? hc) y hy
   ·exact Hx cs Q hQ n _ _ ho x hx
  ·exact Hx cs Q hQ n _ _ ho x hx
theorem M3(has:List Int): ∀(l:List Init) (seen:List Int),Dq has seen l=true->∀x∈l,x.slot∈has
 |[],_,_,x,hx=>by simp at hx
 |y::r,seen,h,x,hx=>by
  rw[Dq]at h;simp only[Bool.and_eq_true,decide_eq_true_eq]at h;rcases List.mem_cons.1 hx with rfl|hx
  ·exact h.1.1.1
  ·exact M3 has r _ h.2 x hx
theorem Hg(p:BProg): ∀(l:List BClass) (i:Nat),AS p i l=true->∀c∈l, ∃j:Int,Dq (hasP p j) [] c.inits=true
 |[],_,_,c,hc=>by simp at hc
 |y::r,i,h,c,hc=>by
  rw[AS]at h;simp only[Bool.and_eq_true,decide_eq_true_eq]at h;rcases List.mem_cons.1 hc with rfl|hc
  ·exact⟨_,h.1.2⟩
  ·exact Hg p r _ h.2 c hc
structure ClassesOK(p:BProg):Prop where
 len:p.classes.length<=10
 slots:0<=p.slots/\p.slots<=40
 own:((CE p).owner.length:Int)=p.slots
 cls:∀c∈p.classes,ClsIx (3+p.classes.length) p.slots.toNat c
theorem QD{p:BProg}(h:Av p=true):ClassesOK p:=by
 unfold Av at h;simp only[Bool.and_eq_true,decide_eq_true_eq]at h;obtain⟨h10,h⟩:=h;split at h
 ·cases h
 ·rename_i n hn;simp only[Bool.and_eq_true,decide_eq_true_eq]at h;obtain⟨⟨hns,hg⟩,hi⟩:=h;obtain⟨k1,k2,k3⟩:=H3 _ _ _ hn;refine⟨h10,by omega,by show((ownersF p.classes 0).length:Int)=p.slots;rw[Ib];omega,fun c hc=>⟨fun x hx=>?_,fun x hx=>?_,fun x hx=>?_⟩⟩
  ·obtain⟨k,hk,rfl⟩:=List.getElem_of_mem hc
   have:=(Cg hg (k+3)).2 x (by
    unfold parentsF
    rw[if_neg (by omega)]
    rw[show(((k+3:Nat):Int)-3).toNat=k by omega,List.getElem?_eq_getElem (by simpa using hk)]
    simpa using hx)
   exact⟨by omega,by omega⟩
  ·have:=k2 c hc x hx;exact⟨by omega,by omega⟩
  ·obtain⟨j,hj⟩:=Hg p _ _ hi c hc;have h1:=M3 _ _ _ hj x hx;unfold hasP at h1;unfold Ez at h1;have h2:=Hx p.classes (fun x=>0<=x/\x<n) k2 _ _ [] (by simp) _ (List.mem_mergeSort.1 h1);exact⟨by omega,by omega⟩
theorem mx_le(x y:Int):x<=mx x y/\y<=mx x y:=by unfold mx;split<;>omega
theorem Jr: ∀(l:List Fact) (n:Int),n<=Fact.speakss l n /\ ∀x∈l,x.speaks<=Fact.speakss l n
 |[],n=>by rw[Fact.speakss];simp
 |f::l,n=>by
  rw[Fact.speakss];obtain⟨h1,h2⟩:=Jr l (mx n f.speaks);obtain⟨h3,h4⟩:=mx_le n f.speaks;refine⟨by omega,fun x hx=>?_⟩;rcases List.mem_cons.1 hx with rfl|hx
  ·omega
  ·exact h2 x hx
theorem Pq{α S:Type}(f:α->S->Bool×S): ∀(l:List α) (s s':S),allS f l s=(true,s')->∀x∈l, ∃t t',f x t=(true,t')
 |[],_,_,_,x,hx=>by simp at hx
 | y::r,s,s',h,x,hx=>by
  rw[allS]at h;cases hy:f y s with
  | mk b s1 =>
   rw[hy]at h;cases b with
   |false=>simp at h
   |true=>
    rcases List.mem_cons.1 hx with rfl|hx
    ·exact⟨_,_,hy⟩
    ·exact Pq f r _ _ h x hx
theorem RE{A S P:Nat}: ∀(l:List Fact),(∀x∈l,FIx A S P x)->FIxs A S P l
 |[],_=>by rw[FIxs];trivial
 |x::r,h=>by rw[FIxs];exact⟨h x (by simp),RE r fun y hy=>h y (by simp[hy])⟩
theorem Oy(w:World)(P:Nat): ∀(d:Nat) (f:Fact) (s s':Int),CG w d f s=(true,s')->f.speaks<=P->FIx (3+w.parents.length) w.owner.length P f
 |0,_,_,_,h,_=>by simp[CG]at h
 | d+1,f,s,s',h,hP=>by
  have hse:=Fact.speaks_eq f;rw[hse]at hP;obtain⟨g1,g2⟩:=Jr f.kids (if Cm f.op then IntKind.i64.wrap (f.arg+1) else 0);rw[CG]at h;split at h
  ·simp at h
  ·rename_i hop;split at h
   ·rename_i hl;rw[if_pos hl]at g1 g2 hP;simp only[Prod.mk.injEq]at h;have hlf:=h.1;unfold GT at hlf;simp only[Bool.and_eq_true,decide_eq_true_eq]at hlf;obtain⟨⟨⟨a1,a2⟩,hpb⟩,hr⟩:=hlf;unfold LL at hpb;simp only[Bool.and_eq_true,List.all_eq_true,decide_eq_true_eq]at hpb
    have hk:f.kids=[]:=by
     have hk0:f.kids.length=B5 f.op:=Classical.byContradiction fun e=>hop (.inr (.inr (.inr e)))
     have:B5 f.op=0:=by
      unfold Cm at hl;simp only[Bool.or_eq_true,decide_eq_true_eq]at hl;unfold B5;rw[if_neg (by omega),if_neg (by omega)]
     exact List.eq_nil_of_length_eq_zero (by omega)
    have hw:IntKind.i64.wrap (f.arg+1)=f.arg+1:=An (by omega) (by omega);rw[hw]at g1 hP;have hap:f.arg<(P:Int):=by omega
    have hr2:f.op=2->0<=f.cls/\f.cls<3+w.parents.length:=fun ho=>by
     rw[if_pos ho]at hr;simp only[Bool.and_eq_true,decide_eq_true_eq]at hr;exact hr.2
    clear hr;cases f with
    |mk o a pth c n k=>
     simp only[Fact.kids,Fact.op,Fact.arg,Fact.path,Fact.cls,Fact.n]at*;rw[FIx];refine⟨fun x hx=>?_,fun ho=>?_,fun _=>⟨a1,hap⟩,by rw[hk,FIxs];trivial⟩
     ·have:=hpb.2 x hx;exact⟨this.1,this.2⟩
     ·have:=hr2 ho;exact⟨this.1,by omega⟩
   ·rename_i hl;split at h
    ·rename_i h0;obtain⟨b1,b2,b3,b4⟩:=h0
     have hkids:∀x∈f.kids,FIx (3+w.parents.length) w.owner.length P x:=fun x hx=>by
      obtain⟨t,t',ht⟩:=Pq _ _ _ _ h x hx;exact Oy w P d x t t' ht (by have:=g2 x hx;omega)
     cases f with
     |mk o a pth c n k=>
      simp only[Fact.kids,Fact.op,Fact.arg,Fact.path,Fact.cls,Fact.n]at*;have hp0:pth=[]:=List.eq_nil_of_length_eq_zero b2;unfold Cm at hl;simp only[Bool.or_eq_true,decide_eq_true_eq]at hl;rw[FIx];exact⟨fun x hx=>by rw[hp0]at hx;simp at hx,fun ho=>absurd (.inl (.inl ho)) hl,fun ho=>absurd (by omega) hl,RE _ hkids⟩
    ·simp at h
theorem sp_ok{p:BProg}(hwt:p.wt<=100000000)(h:okP p=true):SpOK p:=by
 unfold okP CH at h;split at h
 ·rename_i hc;simp only[Bool.and_eq_true,decide_eq_true_eq,List.all_eq_true]at hc;obtain⟨⟨hcl,⟨⟨h8,h16⟩,hn1⟩,h120⟩,hg⟩:=hc;have hC:=QD hcl;cases hm:Ce p p.methods (List.replicate p.nodes.length (-1))with
  |none=>rw[hm]at h;simp at h
  | some s =>
   rw[hm]at h;obtain⟨k1,k2,k3⟩:=Gc p p.methods _ s hm (by simp) (fun g hx=>(hg g hx).1);rw[List.length_replicate]at k2;cases hw:Dm p false 12 p.main 0 s with
   | mk b s2 =>
    simp only[hw]at h;cases b with
    |false=>simp[optW]at h
    | true =>
     obtain⟨m1,m2,m3⟩:=Hr p false 12 _ _ _ _ hw k2 (Int.le_refl _);have hns:negS s<=s.length:=List.countP_le_length;have hmain:=Nq p (spA p) (spS p) (spG p) (spL p) 12 p.main [] 0;refine⟨hwt,⟨hC.slots.1,by have:=hC.slots.2;omega⟩,hC.cls,fun m hmm=>?_,m1,by omega⟩;obtain⟨q1,q2,q3⟩:=k1 m hmm;unfold Dz at q1;simp only[Bool.and_eq_true,decide_eq_true_eq]at q1;obtain⟨⟨⟨_,hgen⟩,hform⟩,hsp⟩:=q1
     have hgb:1<=p.gens.getD m.gen.toNat 0/\p.gens.getD m.gen.toNat 0<=3:=by
      have hl:m.gen.toNat<p.gens.length:=by omega
      rw[List.getD_eq_getElem?_getD,List.getElem?_eq_getElem hl];exact hg _ (List.getElem_mem hl)
     have hpar:((Ck p m:Nat):Int)=p.gens.getD m.gen.toNat 0:=by unfold Ck;omega
     have hbody:=Nq p (spA p) (spS p) (spG p) (spL p) 12 m.node ((spL p).take (Ck p m)) (Ck p m);refine⟨⟨hgen.1,hgen.2⟩,⟨by omega,by omega⟩,?_,q2,by omega⟩;unfold Ea at hform;cases hf:CG (CE p) 12 m.fact 24 with
     | mk b t =>
      rw[hf]at hform;cases b with
      |false=>simp at hform
      |true=>
       have:=Oy (CE p) (Ck p m) 12 m.fact 24 t hf (by omega);have ho:(CE p).owner.length=p.slots.toNat:=by have:=hC.own;have:=hC.slots.1;omega
       rw[ho]at this;have hpl:(CE p).parents.length=p.classes.length:=by show(p.classes.map (·.parents)).length=_;rw[List.length_map]
       rw[hpl]at this;exact this
 ·simp at h
def EntOK(s:List Int):Prop:= ∀x∈s,x = -1\/0<=x
theorem EntOK.set{s:List Int}(h:EntOK s)(n:Nat){v:Int}(hv:0<=v):EntOK (s.set n v):=fun x hx=>by
 rcases List.mem_or_eq_of_mem_set hx with hx|rfl
 ·exact h x hx
 ·exact .inr hv
theorem walkKids_ent{f:Int->Int->List Int->Bool×List Int}{x:BNode}{size:Int}(hf:∀c z s,0<=z->EntOK s->EntOK (f c z s).2)(hz:0<=size): ∀(l:List Int) (j:Nat) (s:List Int),EntOK s->EntOK (C6 f x size j l s).2
 |[],_,_,h=>h
 |c::r,j,s,h=>by
  rw[C6];have h1:=hf c (if x.op=9/\j=1 then size+1 else size) s (by split<;>omega) h;split
  ·rename_i s' e;rw[e]at h1;exact h1
  ·rename_i s' e;rw[e]at h1;exact walkKids_ent hf hz r _ _ h1
theorem HQ(p:BProg)(inM:Bool): ∀(k:Nat) (node size:Int) (s:List Int),0<=size->EntOK s->EntOK (Dm p inM k node size s).2
 |0,_,_,_,_,h=>h
 | k+1,node,size,s,hz,h=>by
  rw[Dm];split
  ·exact h
  ·split
   ·exact h.set _ hz
   ·exact walkKids_ent (fun c z s hz hs=>HQ p inM k c z s hz hs) hz _ _ _ (h.set _ hz)
theorem methsP_ent(p:BProg)(hg:∀g∈p.gens,1<=g): ∀(l:List BMeth) (s s':List Int),Ce p l s=some s'->EntOK s->EntOK s'
 |[],s,s',h,hs=>by rw[Ce]at h;cases h;exact hs
 | m::r,s,s',h,hs=>by
  rw[Ce]at h;split at h
  ·rename_i hm
   have h0:0<=p.gens.getD m.gen.toNat 0:=by
    rw[List.getD_eq_getElem?_getD];cases hgg:p.gens[m.gen.toNat]? with
    |none=>simp
    |some g=>have:=hg g (List.mem_of_getElem? hgg);simp only[Option.getD_some];omega
   have he:=HQ p (decide (m.kind=1)||decide (m.kind=4)) 12 m.node (p.gens.getD m.gen.toNat 0) s h0 hs;cases hw:Dm p (decide (m.kind=1)||decide (m.kind=4)) 12 m.node (p.gens.getD m.gen.toNat 0) s with
   |mk b s1=>
    rw[hw]at h he;cases b with
    |false=>simp[optW]at h
    |true=>simp only[optW]at h;exact methsP_ent p hg r s1 s' h he
  ·cases h
end Go.DL
namespace Go.DL
open Go.Proofs.Tryz
open Go Go.Proofs
set_option maxHeartbeats 8000000
def F8(m:FMeth):Bool:=(decide (1<=m.kind)&&decide (m.kind<=4))&&(B7 m.name&&(decide (1<=m.params.length)&&decide (m.params.length<=3)))
def Ip(names slots:List Str)(m:FMeth)(n:Int):Option Int:=
 if F8 m&&sloE [] m.params then match BW names slots m.params m.fact n with
  |none=>none
  |some k=>Bn names slots m.params (decide (m.kind=1\/m.kind=4)) m.body k
 else none
def CY(names slots:List Str):List FMeth->Int->Option Int
 |[],n=>some n
 |m::r,n=>match Ip names slots m n with
  |none=>none
  |some k=>CY names slots r k
def B9(f:FProg):Option Int:=
 if clsB f&&decide (f.methods.length<=16) then match Bn (f.classes.map (·.name)) (f.classes.flatMap (·.slots)) [] false f.main f.classes.length with
  |none=>none
  |some n=>match CY (f.classes.map (·.name)) (f.classes.flatMap (·.slots)) f.methods n with
   |none=>none
   |some k=>if(Dh f).2&&decide ((Dh f).1.length<=8) then some k else none
 else none
def CntR(f:FProg)(ip ic is:Nat)(V:Sig)(x:DE)(S':Sig):Prop:=
 x=(match B9 f with|some _=>.ret (.tup [])|none=>.panic unf2)/\(∃d n,S' ip=some (pObj f ic is d n))/\Keep (fun j=>j=ip\/j=ic\/j=is) V S'
theorem Gh{names slots args:List Str}{lits:Bool}{e:FExp}{n m:Int}(h:Bn names slots args lits e n=some m)(hn:0<=n):0<=m/\m<=120:=by
 unfold Bn at h;split at h
 ·cases h
 ·rename_i k hk;split at h
  ·rename_i h2;have:=OE (by omega) hk;cases h;omega
  ·cases h
theorem PJ{names slots args:List Str}{e:FFact}{n m:Int}(h:BW names slots args e n=some m)(hn:0<=n):0<=m/\m<=120:=by
 unfold BW at h;split at h
 ·cases h
 ·rename_i k hk;split at h
  ·rename_i h2;have:=LV (by omega) hk;cases h;omega
  ·cases h
theorem Mc: ∀(l:List FExp) (s:GenT),(CI l s).1.length<=s.1.length+wtL FExp.wt l
 |[],s=>by rw[CI];omega
 |x::r,s=>by
  have h1:=ON x s;have h2:=Mc r (genE x s);rw[CI,wtL];omega
theorem OC: ∀(l:List FMeth) (s:GenT),(metG l s).1.length<=s.1.length+l.length
 |[],s=>by rw[metG];omega
 |m::r,s=>by
  have h1:=KJ m.name m.params.length s;have h2:=OC r (seeG m.name m.params.length s);rw[metG,List.length_cons];omega
theorem IE(f:FProg):(Dh f).1.length<=f.wt:=by
 have h1:=N4 f;have h2:=Mc (Cu f) (metG f.methods ([],true));have h3:=OC f.methods ([],true);unfold Dh;simp only[List.length_nil]at h3;omega
theorem Qh (f:FProg) (ip ic is:Nat) (V:Sig) (hw:f.wt<=100000000) (h0:PS f ip ic is V V [] [] [] .nils 0) (hcs:ic ≠ is) :
  DCall prog 184 [.cptr [.ptr ip 0] 0,.cptr (BA f) 0] V (CntR f ip ic is V):=by
 obtain⟨p1,p2,p3,p4,p5⟩:=f.wt_le;have hip:=h0.prg
 have hpan:B9 f=none->∀S',(∃d n,S' ip=some (pObj f ic is d n))->Keep (fun j=>j=ip\/j=ic\/j=is) V S'->CntR f ip ic is V (.panic unf2) S':=fun h S' h1 h2=>by
  unfold CntR;rw[h];exact⟨rfl,h1,h2⟩
 have hcl:f.classes.length<=100000000:=by omega
 refine en func184 ntmps184 ?_;cases hC:clsB f with
 | false =>
  have hN:B9 f=none:=by unfold B9;rw[hC];rfl
  try refine gz ?_ o184
  refine Ab (K6 f ip ic is V (by omega) h0 hcs) (fun x S' hr=>?_) (fun x S' hr=>?_)
  ·unfold ClsR at hr;rw[hC,if_neg (by simp)]at hr;cases hr.1
  ·unfold ClsR at hr;rw[hC,if_neg (by simp)]at hr;obtain⟨e1,names,slots,hs,d,n,hP⟩:=hr;cases e1;exact finP (S':=S') (hpan hN S' ⟨d,n,hP.prg⟩ hP.keep)
 | true =>
  try refine gz ?_ o184
  refine Ab (K6 f ip ic is V (by omega) h0 hcs) (fun x S1 hr=>?_) (fun x S1 hr=>?_)
  ·unfold ClsR at hr;rw [hC,if_pos rfl] at hr;obtain⟨e1,hs,d,hP⟩:=hr;cases e1;obtain⟨q1,q2,q3,_,q5⟩:=hP;have hpi:ip≠ic:=A9 q1 q2 (by simp);have hps:ip≠is:=A9 q1 q3 (by simp);have hkp:∀S',Keep (· = ip) S1 S'->Keep (fun j=>j=ip\/j=ic\/j=is) V S':=fun S' h j o h1 h2=>h j o (q5 j o h1 h2) fun e=>h2 (.inl e);have hset:∀(x:DObj),Keep (· = ip) S1 (S1.set ip x):=fun x j o h1 h2=>by rw[w8 _ _ h2];exact h1
   have hSh:B9 f=if f.methods.length<=16 then match Bn (f.classes.map (·.name)) (f.classes.flatMap (·.slots)) [] false f.main f.classes.length with
     |none=>none
     |some n=>match CY (f.classes.map (·.name)) (f.classes.flatMap (·.slots)) f.methods n with
      |none=>none
      |some k=>if(Dh f).2&&decide ((Dh f).1.length<=8) then some k else none
    else none:=by unfold B9;rw[hC];simp
   have hcn:f.classes.length<=10:=by unfold clsB at hC;simp only[Bool.and_eq_true,decide_eq_true_eq]at hC;exact hC.1
   generalize hnm:f.classes.map (·.name)=names at*;generalize hsl:f.classes.flatMap (·.slots)=slots at*
   by_cases h16:f.methods.length<=16
   ·rw [if_pos h16] at hSh;have h187:=K5 f ip ic is d f.classes.length names slots f.main [] false S1 (by omega) (by simp) ⟨by omega,by omega⟩ q1 q2 q3
    repeat' first|refine gf q1 ?_ o184|apply gy<;>intro hh
    cases hk:Bn names slots [] false f.main f.classes.length with
    |none=>
     rw[hk]at hSh h187;refine callWP h187 (fun x S2 hr=>by cases hr.1) (fun x S2 hr=>?_);obtain⟨e1,m,rfl⟩:=hr;cases e1;exact finP (S':=_) (hpan hSh _ ⟨d,m,w7 ..⟩ (hkp _ (hset _)))
    | some n1 =>
     rw[hk]at hSh h187;have hn1:=Gh hk (by omega);refine callWP h187 (fun x S2 hr=>?_) (fun x S2 hr=>by cases hr.1);obtain⟨e1,rfl⟩:=hr;cases e1;have r1:(S1.set ip (pObj f ic is d n1)) ip=some (pObj f ic is d n1):=w7 ..
     try refine gf r1 ?_ o184
     refine FG [0,1,7,8,9,31,32,96,97,98,99,100,101,102,103,104,105,106,107,108] (fun (k:Nat) (m:Int) (S2:Sig)=>k<=f.methods.length/\0<=m/\m<=120/\CY names slots f.methods n1=CY names slots (f.methods.drop k) m/\S2 ip=some (pObj f ic is d m)/\Keep (· = ip) S1 S2) (fun k _ _=>[(33,dI k)]) (fun _ _ S2=>S2) (fun k _ _=>f.methods.length-k) (0) (n1) (_) (by exact⟨by omega,hn1.1,hn1.2,rfl,r1,hset _⟩) (fun k m S2 hI=>?_);obtain⟨hk,hm0,hm1,hR,o1,hK⟩:=hI;have o2:S2 ic=some (.map (eSN (Bm names 0))):=hK _ _ q2 (Ne.symm hpi);have o3:S2 is=some (.map (eSS slots)):=hK _ _ q3 (Ne.symm hps)
     by_cases hkl:k<f.methods.length
     ·rw [A3 hkl,CY] at hR;have hwm:=p5 k hkl;have hwb:f.methods[k].body.wt<=100000000/\f.methods[k].fact.wt<=100000000/\f.methods[k].params.length<=100000000/\wtS f.methods[k].params<=100000000/\f.methods[k].name.length<=100000000:=by have:=hwm;unfold FMeth.wt at this;have:=Bk f.methods[k].params;omega
      generalize hmm:f.methods[k]=mt at*;obtain⟨v1,v2,v3,v4,v5⟩:=hwb;cases hhd:F8 mt with
      |false=>
       have hN:B9 f=none:=by rw[hSh];simp only[hR,Ip,hhd,Bool.false_and,Bool.false_eq_true,if_false]
       unfold F8 at hhd
       repeat' first|(exact finP (S':=S2) (hpan hN _ ⟨d,m,o1⟩ (hkp _ hK)))|refine gf hmm ?_ o184|apply gy<;>intro hh
       exfalso
       rw[Bool.eq_false_iff]at hhd;apply hhd;simp only[Bool.and_eq_true,decide_eq_true_eq];exact⟨⟨by omega,by omega⟩,by assumption,by omega,by omega⟩
      | true =>
       have hhd':=hhd;unfold F8 at hhd;simp only[Bool.and_eq_true,decide_eq_true_eq]at hhd;obtain⟨⟨g1,g2⟩,g3,g4,g5⟩:=hhd
       try refine gf (gi hmm g3) ?_ o184
       refine KP (fun im him=>?_);have ne1:ip≠im:=A1 o1 him;have ne2:ic≠im:=A1 o2 him;have ne3:is≠im:=A1 o3 him
       have hkm:∀S',(∀j x,j≠im->S2 j=some x->S' j=some x)->Keep (· = ip) S1 S':=fun S' h j x h1 h2=>by
        have h3:=hK j x h1 h2;exact h j x (A1 h3 him) h3
       try refine gz ?_ o184
       refine Bj [0,1,3,4,7,8,9,31,32,33,34,35,36,37,38,39,40,41,42,43,44,45,46,47,48,49,50,51,52,53,54,55,56,57,58,59,60,61,62,63,64,65,66,75,76,77,78,79,80,81,82,83,84,85,86,87,88,89,90,91,92,93,94,95,96,97,98,99,100,101,102,103,104,105,106,107,108] (fun (j:Nat)=>j<=mt.params.length/\sloE [] mt.params=sloE (mt.params.take j) (mt.params.drop j)) (fun j=>[(67,dI j)]) (fun j=>S2.set im (.map (eSS (mt.params.take j)))) (fun j=>mt.params.length-j) (0) (by simp) (fun j hI=>?_);obtain⟨hj,hE⟩:=hI
       by_cases hjl:j<mt.params.length
       ·rw[A3 hjl,sloE]at hE;have hpl:(mt.params[j]).length<=1073741824:=by have:=Nj mt.params j hjl;omega
        try refine gz ?_ o184
        refine Ab (DS mt.params[j] im (mt.params.take j) _ (w7 ..) hpl) (fun x S3 hr=>?_) (fun x S3 hr=>?_)
        ·rcases hr with⟨hc,e1,rfl⟩|⟨_,e1,_⟩
         ·cases e1;rw[hc,Bool.true_and,<-AR hjl]at hE
          try refine gz ?_ o184
          exact⟨j+1,⟨by omega,hE⟩,td1,wkR⟩
         ·cases e1
        ·rcases hr with⟨_,e1,_⟩|⟨hc,e1,rfl⟩
         ·cases e1
         ·cases e1;rw[hc,Bool.false_and]at hE;have hN:B9 f=none:=by rw[hSh];simp only[hR,Ip,hE,Bool.and_false,Bool.false_eq_true,if_false]
          exact finP (S':=S2.set im (.map (eSS (mt.params.take j)))) (hpan hN _ ⟨d,m,by rw[w8 _ _ ne1];exact o1⟩ (hkp _ (hkm _ fun j x hj hx=>by rw[w8 _ _ hj];exact hx)))
       ·have hje:j=mt.params.length:=by omega
        subst hje;rw[A2 hjl,sloE]at hE;generalize hU3:S2.set im _=S3;have hk3:∀j x,j≠im->S2 j=some x->S3 j=some x:=fun j x hj hx=>by rw[<-hU3,w8 _ _ hj];exact hx
        have q1:=hk3 _ _ ne1 o1;have q2:=hk3 _ _ ne2 o2;have q3:=hk3 _ _ ne3 o3;have hK3:=hkm _ hk3;clear hk3 hU3;have hset3:∀(x:DObj),Keep (· = ip) S1 (S3.set ip x):=fun x j o h1 h2=>by rw[w8 _ _ h2];exact hK3 j o h1 h2
        have h190:=Qg f ip ic is d m names slots mt.fact mt.params S3 (by omega) (by omega) ⟨hm0,by omega⟩ q1 q2 q3
        repeat' first|refine gz ?_ o184|apply gy<;>intro hh
        cases hkf:BW names slots mt.params mt.fact m with
        |none=>
         rw[hkf]at h190;have hN:B9 f=none:=by rw[hSh];simp only[hR,Ip,hhd',hE,hkf,Bool.and_self,if_true]
         refine Ab h190 (fun x S4 hr=>by cases hr.1) (fun x S4 hr=>?_);obtain⟨e1,m',rfl⟩:=hr;cases e1;exact finP (S':=_) (hpan hN _ ⟨d,m',w7 ..⟩ (hkp _ (hset3 _)))
        | some n2 =>
         rw[hkf]at h190;have hn2:=PJ hkf hm0;refine Ab h190 (fun x S4 hr=>?_) (fun x S4 hr=>by cases hr.1);obtain⟨e1,rfl⟩:=hr;cases e1;have r1:(S3.set ip (pObj f ic is d n2)) ip=some (pObj f ic is d n2):=w7 ..;have r2:(S3.set ip (pObj f ic is d n2)) ic=some (.map (eSN (Bm names 0))):=by rw[w8 _ _ (Ne.symm hpi)];exact q2
         have r3:(S3.set ip (pObj f ic is d n2)) is=some (.map (eSS slots)):=by rw[w8 _ _ (Ne.symm hps)];exact q3
         have h187:=K5 f ip ic is d n2 names slots mt.body mt.params (decide (mt.kind=1\/mt.kind=4)) _ (by omega) (by omega) ⟨hn2.1,by omega⟩ r1 r2 r3
         have hfinN:∀x S',Bn names slots mt.params (decide (mt.kind=1\/mt.kind=4)) mt.body n2=none->KnR f ip ic is d none (S3.set ip (pObj f ic is d n2)) (.panic x) S'->CntR f ip ic is V (.panic x) S':=fun x S' hkb hr=>by
          have hN:B9 f=none:=by rw[hSh];simp only[hR,Ip,hhd',hE,hkf,hkb,Bool.and_self,if_true]
          obtain⟨e1,m',rfl⟩:=hr;cases e1;rw[Sig.set_set];exact hpan hN _ ⟨d,m',w7 ..⟩ (hkp _ (hset3 _))
         by_cases k1:mt.kind=1
         ·try refine gf k1 ?_ o184
          have hb:decide (mt.kind=1\/mt.kind=4)=true:=decide_eq_true (.inl k1);rw[hb]at h187;refine Ab h187 (fun x S4 hr=>?_) (fun x S4 hr=>?_)
          ·cases hkb:Bn names slots mt.params true mt.body n2 with
           |none=>rw[hkb]at hr;cases hr.1
           |some n3=>
            rw[hkb]at hr;obtain⟨e1,rfl⟩:=hr;cases e1;have hn3:=Gh hkb hn2.1;have hR2:CY names slots f.methods n1=CY names slots (f.methods.drop (k+1)) n3:=by rw[hR];simp only[Ip,hhd',hE,hkf,hb,hkb,Bool.and_self,if_true]
            try refine gz ?_ o184
            exact⟨k+1,n3,S3.set ip (pObj f ic is d n3),⟨by omega,hn3.1,hn3.2,hR2,w7 .., hset3 _⟩,td1,wkR⟩
          ·cases hkb:Bn names slots mt.params true mt.body n2 with
           |none=>rw[hkb]at hr;exact finP (S':=S4) (hfinN _ _ (by rw[hb];exact hkb) hr)
           |some n3=>rw[hkb]at hr;cases hr.1
         ·by_cases k4:mt.kind=4
          ·try refine gf k4 ?_ o184
           have hb:decide (mt.kind=1\/mt.kind=4)=true:=decide_eq_true (.inr k4);rw[hb]at h187;refine Ab h187 (fun x S4 hr=>?_) (fun x S4 hr=>?_)
           ·cases hkb:Bn names slots mt.params true mt.body n2 with
            |none=>rw[hkb]at hr;cases hr.1
            |some n3=>
             rw[hkb]at hr;obtain⟨e1,rfl⟩:=hr;cases e1;have hn3:=Gh hkb hn2.1;have hR2:CY names slots f.methods n1=CY names slots (f.methods.drop (k+1)) n3:=by rw[hR];simp only[Ip,hhd',hE,hkf,hb,hkb,Bool.and_self,if_true]
             try refine gz ?_ o184
             exact⟨k+1,n3,S3.set ip (pObj f ic is d n3),⟨by omega,hn3.1,hn3.2,hR2,w7 .., hset3 _⟩,td1,wkR⟩
           ·cases hkb:Bn names slots mt.params true mt.body n2 with
            |none=>rw[hkb]at hr;exact finP (S':=S4) (hfinN _ _ (by rw[hb];exact hkb) hr)
            |some n3=>rw[hkb]at hr;cases hr.1
          ·try refine gz ?_ o184
           have hb:decide (mt.kind=1\/mt.kind=4)=false:=decide_eq_false fun h=>h.elim k1 k4;rw[hb]at h187;refine Ab h187 (fun x S4 hr=>?_) (fun x S4 hr=>?_)
           ·cases hkb:Bn names slots mt.params false mt.body n2 with
            |none=>rw[hkb]at hr;cases hr.1
            |some n3=>
             rw[hkb]at hr;obtain⟨e1,rfl⟩:=hr;cases e1;have hn3:=Gh hkb hn2.1;have hR2:CY names slots f.methods n1=CY names slots (f.methods.drop (k+1)) n3:=by rw[hR];simp only[Ip,hhd',hE,hkf,hb,hkb,Bool.and_self,if_true]
             try refine gz ?_ o184
             exact⟨k+1,n3,S3.set ip (pObj f ic is d n3),⟨by omega,hn3.1,hn3.2,hR2,w7 .., hset3 _⟩,td1,wkR⟩
           ·cases hkb:Bn names slots mt.params false mt.body n2 with
            |none=>rw[hkb]at hr;exact finP (S':=S4) (hfinN _ _ (by rw[hb];exact hkb) hr)
            |some n3=>rw[hkb]at hr;cases hr.1
     ·rw[A2 hkl,CY]at hR;simp only at hSh;rw[hR]at hSh;simp only at hSh;have h191:=K4 f S2 hw
      try refine gz ?_ o184
      refine Ab h191 (fun x S3 hr=>?_) (fun x S3 hr=>by cases hr.1);obtain⟨e1,rfl⟩:=hr;cases e1;have hgl:(Dh f).1.length<=100000000:=by have:=IE f;omega
      cases hg2:(Dh f).2 with
      |false=>
       have hN:B9 f=none:=by rw[hSh,hg2];rfl
       repeat' first|(exact finP (S':=S3) (hpan hN _ ⟨d,m,o1⟩ (hkp _ hK)))|refine gf hg2 ?_ o184|apply gy<;>intro hh
      | true =>
       rw[hg2,Bool.true_and]at hSh
       by_cases hg8:(Dh f).1.length<=8
       ·rw[if_pos (decide_eq_true hg8)]at hSh
        try refine gf hg2 ?_ o184
        refine Dl (S':=S3) ⟨by rw[hSh],⟨d,m,o1⟩,hkp _ hK⟩
       ·have hN:B9 f=none:=by rw[hSh,if_neg (by simpa using hg8)]
        repeat' first|(exact finP (S':=S3) (hpan hN _ ⟨d,m,o1⟩ (hkp _ hK)))|refine gf hg2 ?_ o184|apply gy<;>intro hh
   ·rw[if_neg h16]at hSh
    repeat' first|(exact finP (S':=S1) (hpan hSh S1 ⟨d,_,q1⟩ q5))|refine gf q1 ?_ o184|apply gy<;>intro hh
  ·unfold ClsR at hr;rw[hC,if_pos rfl]at hr;cases hr.1
theorem RJ(f:FProg)(V:Sig)(hw:f.wt<=100000000):DCall prog 98 [.agg (BA f)] V fun x S'=> ∃n,x=.ret (.tup [dI n,.bool (B9 f).isSome])/\S'=V:=by
 refine en func98 ntmps98 ?_
 try refine gz ?_
 refine Rb (fun ic hic=>?_)
 try refine gz ?_
 refine KP (fun is his=>?_)
 repeat ((fail_if_success (first|(refine boxV (T:=256) (fun ip hip=>?_))|fail));(refine goX1 trivial ?_))
 refine boxV (T:=256) (fun ip hip=>?_);obtain⟨n1,h1⟩:=Aa his;obtain⟨n2,h2⟩:=Aa hip;obtain⟨n3,h3⟩:=Aa h2;generalize hU3:Sig.set _ ip _=S3;have o1:S3 ip=some (pObj f ic is .nils 0):=by rw[<-hU3];exact w7 ..
 have o2:S3 ic=some (.map (eSN [])):=by rw[<-hU3,w8 _ _ (Ne.symm n3),w8 _ _ (Ne.symm n1)];exact w7 ..
 have o3:S3 is=some (.map (eSS [])):=by rw[<-hU3,w8 _ _ (Ne.symm n2)];exact w7 ..
 have hS:Sub V S3:=fun j x hj=>by rw[<-hU3,w8 _ _ (A1 hj h3),w8 _ _ (A1 hj h1),w8 _ _ (A1 hj hic)];exact hj
 clear hU3
 try refine gz ?_
 refine Ab (SJ 184 [.cptr [.ptr ip 0] 0,.cptr (BA f) 0] S3 (CntR f ip ic is) (fun i hi=>?_) (fun S' d S'' h=>?_) (fun i S'' x hi h=>?_)) (fun x S' hr=>?_) (fun x S' hr=>?_)
 ·have e:∀{j o},S3 j=some o->(S3.set i (.cells [.bool false])) j=some o:=fun hj=>by rw[w8 _ _ (A1 hj hi)];exact hj
  exact Qh f ip ic is _ hw ⟨e o1,e o2,e o3,.inl ⟨rfl,rfl⟩,Keep.refl _ _⟩ (Ne.symm n1)
 ·have:=h.1;split at this
  ·cases this
  ·cases this;rfl
 ·refine h.2.2 i _ (w7 ..) fun ht=>?_;rcases ht with rfl|rfl|rfl
  ·rw[o1]at hi;cases hi
  ·rw[o2]at hi;cases hi
  ·rw[o3]at hi;cases hi
 ·obtain⟨i,S'',hi,rfl,hr⟩:=hr
  have key:∀y,CntR f ip ic is (S3.set i (.cells [.bool false])) y S''->(∃d n,(S''.del i) ip=some (pObj f ic is d n))/\Sub V (S''.del i):=fun y hy=>by
   obtain⟨_,⟨d,n,h5⟩,hK⟩:=hy;have ni:ip≠i:=A1 o1 hi;refine⟨⟨d,n,by simp only[Sig.del,ni,if_false];exact h5⟩,fun j x hj=>?_⟩;have hj3:=hS _ _ hj;have ni:j≠i:=A1 hj3 hi;simp only[Sig.del,ni,if_false];refine hK j x (by rw[w8 _ _ ni];exact hj3) fun ht=>?_
   rcases ht with rfl|rfl|rfl
   ·rw[h3]at hj;cases hj
   ·rw[hic]at hj;cases hj
   ·rw[h1]at hj;cases hj
  rcases hr with⟨d,hr,e1⟩|⟨hr,e1⟩
  ·cases e1;obtain⟨⟨d',n,o5⟩,hS5⟩:=key _ hr
   have hs:(B9 f).isSome=true:=by
    have:=hr.1;cases h:B9 f with
    |none=>rw[h]at this;cases this
    |some k=>rfl
   try refine gf o5 ?_
   exact fin2 (S':=V) ⟨n,by rw[hs],rfl⟩
  ·cases e1;obtain⟨⟨d',n,o5⟩,hS5⟩:=key _ hr
   have hs:(B9 f).isSome=false:=by
    have:=hr.1;cases h:B9 f with
    |none=>rfl
    |some k=>rw[h]at this;cases this
   try refine gf o5 ?_
   exact fin2 (S':=V) ⟨n,by rw[hs],rfl⟩
 ·obtain⟨i,S'',hi,_,hr⟩:=hr;rcases hr with⟨d,_,e1⟩|⟨_,e1⟩<;>cases e1
theorem OW(f:FProg)(V:Sig)(hw:f.wt<=100000000):DCall prog 47 [.agg (BA f)] V (rS (dI (if(B9 f).isSome then 0 else 2)) V):=by
 refine en func47 ntmps47 ?_
 try refine gz ?_
 refine Ab (RJ f V hw) (fun x S' hr=>?_) (fun x S' hr=>by obtain⟨_,h,_⟩:=hr;cases h);obtain⟨n,e1,rfl⟩:=hr;cases e1;cases hs:(B9 f).isSome with
 |false=>
  try refine gf hs ?_
  exact fe1 trivial
 |true=>
  try refine gf hs ?_
  exact fe1 trivial
@[reducible,instance] def a47:=fun f V=>ah1 (@OW f V)
def Aw(f:FProg):List Str:=f.classes.flatMap (·.slots)
theorem Ju(f:FProg):(Aw f).length<=f.wt:=by
 have h:∀l:List FClass,(l.flatMap (·.slots)).length<=wtL FClass.wt l:=by
  intro l
  induction l with
  |nil=>simp[wtL]
  |cons c l ih=>simp only[List.flatMap_cons,List.length_append,wtL];have:=Bk c.slots;have:=c.wt_le;omega
 have:=h f.classes;unfold Aw FProg.wt;omega
theorem Um(f:FProg)(V:Sig)(hw:f.wt<=100000000)(hs:(B9 f).isSome=true):DCall prog 99 [.agg (BA f)] V (rS (.tup [sl (cS (Aw f)),dI 0]) V):=by
 obtain⟨p1,p2,p3,p4,p5⟩:=f.wt_le;have hsl:=Ju f;refine en func99 ntmps99 ?_
 try refine gf hs ?_
 refine Cj 4 1 (fun i hi=>?_);refine Br [2,3,11,12,22,23] (fun (k:Nat) (out:List Str)=>k<=f.classes.length/\Aw f=out++(f.classes.drop k).flatMap (·.slots)) (fun k out=>[(13,dI k),(4,.slice (cS out) (.tag i))]) (fun _ out=>V.set i (.tail 1 out.length)) (fun k _=>f.classes.length-k) (0) ([]) (by simp[Aw]) (fun k out hI=>?_);obtain⟨hk,hR⟩:=hI
 by_cases hkl:k<f.classes.length
 ·rw[A3 hkl,List.flatMap_cons,<-List.append_assoc]at hR;have hol:out.length+(f.classes[k]).slots.length<=100000000:=by rw[hR]at hsl;simp only[List.length_append]at hsl;omega
  try refine gz ?_
  exact⟨k+1,out++(f.classes[k]).slots,⟨by omega,hR⟩,td1,wkR⟩
 ·rw[A2 hkl,List.flatMap_nil,List.append_nil]at hR;have hol:out.length<=100000000:=by rw[hR]at hsl;omega
  try refine gz ?_
  rw[hR];exact fin2 (S':=V) ⟨rfl,rfl⟩
@[reducible,instance] def a99:=fun f V=>ah2 (@Um f V)
theorem Te(f:FProg)(V:Sig)(hw:f.wt<=100000000)(hs:(B9 f).isSome=true):DCall prog 100 [.agg (BA f)] V (rS (.tup [sl (cS ((Dh f).1.map (·.1))),dI 0]) V):=by
 refine en func100 ntmps100 ?_
 try refine gf hs ?_
 refine Ab (K4 f V hw) (fun x S3 hr=>?_) (fun x S3 hr=>by cases hr.1);obtain⟨e1,rfl⟩:=hr;cases e1
 try refine gz ?_
 exact fin2 (S':=S3) ⟨rfl,rfl⟩
@[reducible,instance] def a100:=fun f V=>ah2 (@Te f V)
mutual
def AllX(Q:FExp->Prop):FExp->Prop
 |.mk o n t k=>Q (.mk o n t k)/\Eh Q k
def Eh(Q:FExp->Prop):List FExp->Prop
 |[]=>True
 |x::r=>AllX Q x/\Eh Q r
end
mutual
def argE(gm:List (Str×Int)):FExp->List Int->List Int
 |.mk o _ t k,a=>Fp gm k (if o=5 then a.set (getM 0 t gm).toNat k.length else a)
def Fp(gm:List (Str×Int)):List FExp->List Int->List Int
 |[],a=>a
 |x::r,a=>Fp gm r (argE gm x a)
end
theorem TJ(gm:List (Str×Int))(e:FExp)(a:List Int):argE gm e a=Fp gm e.kids (if e.op=5 then a.set (getM 0 e.text gm).toNat e.kids.length else a):=by cases e;rw[argE];rfl
theorem AllX_eq(Q:FExp->Prop)(e:FExp):AllX Q e ↔ Q e/\Eh Q e.kids:=by cases e;rw[AllX];rfl
mutual
theorem Du(gm:List (Str×Int)): ∀(e:FExp) (a:List Int),(argE gm e a).length=a.length
 |.mk o n t k,a=>by rw[argE,Na gm k];split<;>simp
theorem Na(gm:List (Str×Int)): ∀(l:List FExp) (a:List Int),(Fp gm l a).length=a.length
 |[],a=>by rw[Fp]
 |x::r,a=>by rw[Fp,Na gm r,Du gm x]
end
def QA(gm:List (Str×Int))(N:Nat)(x:FExp):Prop:=x.op=5->0<=getM 0 x.text gm/\getM 0 x.text gm<N
theorem K3(gm:List (Str×Int))(N ia r ig i6:Nat): ∀(n:Nat) (e:FExp) (a:List Int) (V:Sig),e.wt<=n->n<=1073741824->AllX (QA gm N) e->a.length=N->N<=1073741824->
  V ia=some (.cells [.sref r 0 N N])->V r=some (.cells (a.map dI))->V ig=some (.map (eSN gm))->V i6=some (.cells [.func (.func 193) [] [.ptr ia 0,.cptr [.map ig] 0,.ptr i6 0]])->ia≠r->i6≠r->
  DCall prog 193 [.agg (AO e),.ptr ia 0,.cptr [.map ig] 0,.ptr i6 0] V fun x S'=>x=.ret (.tup [])/\S'=V.set r (.cells ((argE gm e a).map dI)):=by
 intro n
 induction n with
 |zero=>
  intro e a V hx;have:=e.wt_pos;omega
 | succ n ih =>
  intro e a V hx hn hQ hal hN o1 o2 o3 o4 d1 d2;obtain⟨w1,w2,hw3⟩:=e.wt_le;obtain⟨q1,q2⟩:=(AllX_eq _ _).1 hQ;have d3:ig≠r:=A9 o3 o2 (by simp);refine en func193 ntmps193 ?_
  by_cases h5:e.op=5
  ·obtain⟨p1,p2⟩:=q1 h5;obtain⟨p,hp⟩:∃p:Nat,getM 0 e.text gm=p:=⟨(getM 0 e.text gm).toNat,by omega⟩;have hpN:p<N:=by omega
   obtain⟨A,hA⟩:∃A,A=a.set p e.kids.length:=⟨_,rfl⟩;have hAl:A.length=N:=by rw[hA,List.length_set];exact hal
   have hfr:argE gm e a=Fp gm e.kids A:=by rw[TJ,if_pos h5,hA,hp];rfl
   have hsub:Sub (V.set r (.cells (A.map dI))) (V.set r (.cells (List.take p (List.map dI a)++D.int IntKind.i64 e.kids.length::List.drop (p+1) (List.map dI a)))):=by
    rw[hA,List.map_set,List.set_eq_take_append_cons_drop,if_pos (by rw[List.length_map];omega)];exact Sub.refl _
   refine gf (gi o1 (gi o2 (gi o3 (gi o4 (gi h5 hp))))) ?_;refine Br [3,20,21] (fun (k:Nat) (b:List Int)=>k<=e.kids.length/\b.length=N/\Fp gm e.kids A=Fp gm (e.kids.drop k) b/\Eh (QA gm N) (e.kids.drop k)) (fun k _=>[(22,dI k)]) (fun _ b=>V.set r (.cells (b.map dI))) (fun k _=>e.kids.length-k) (0) (A) (by exact⟨by omega,hAl,rfl,q2⟩) (fun k b hI=>?_);obtain⟨hk,hb,hR,hQs⟩:=hI
   by_cases hkl:k<e.kids.length
   ·rw[A3 hkl,Fp]at hR;rw[A3 hkl,Eh]at hQs;have u1:(V.set r (.cells (b.map dI))) ia=some (.cells [.sref r 0 N N]):=by rw[w8 _ _ d1];exact o1
    have u3:(V.set r (.cells (b.map dI))) ig=some (.map (eSN gm)):=by rw[w8 _ _ d3];exact o3
    have u4:(V.set r (.cells (b.map dI))) i6=some (.cells [.func (.func 193) [] [.ptr ia 0,.cptr [.map ig] 0,.ptr i6 0]]):=by rw[w8 _ _ d2];exact o4
    refine gf o4 ?_;refine Ab (ih e.kids[k] b _ (by have:=hw3 k hkl;omega) (by omega) hQs.1 hb hN u1 (w7 ..) u3 u4 d1 d2) (fun d S' hr=>?_) (fun d S' hr=>by cases hr.1);obtain⟨g1,rfl⟩:=hr;cases g1;refine gz ?_;exact⟨k+1,argE gm e.kids[k] b,⟨by omega,by rw[Du];exact hb,hR,hQs.2⟩,td1,wkR⟩
   ·rw[A2 hkl,Fp]at hR;refine gz ?_;exact Dl (S':=V.set r (.cells ((argE gm e a).map dI))) ⟨rfl,rfl⟩ (by rw[hfr,hR];exact Sub.refl _)
  ·obtain⟨A,hA⟩:∃A,A=a:=⟨_,rfl⟩;have hfr:argE gm e a=Fp gm e.kids A:=by rw[TJ,if_neg h5,hA]
   have hAl:A.length=N:=by rw[hA];exact hal
   have hsub:Sub (V.set r (.cells (A.map dI))) V:=by rw[hA,Sig.set_self _ o2];exact Sub.refl _
   refine gf (gi o1 (gi o2 (gi o3 (gi o4 h5)))) ?_;refine Br [3,20,21] (fun (k:Nat) (b:List Int)=>k<=e.kids.length/\b.length=N/\Fp gm e.kids A=Fp gm (e.kids.drop k) b/\Eh (QA gm N) (e.kids.drop k)) (fun k _=>[(22,dI k)]) (fun _ b=>V.set r (.cells (b.map dI))) (fun k _=>e.kids.length-k) (0) (A) (by exact⟨by omega,hAl,rfl,q2⟩) (fun k b hI=>?_);obtain⟨hk,hb,hR,hQs⟩:=hI
   by_cases hkl:k<e.kids.length
   ·rw[A3 hkl,Fp]at hR;rw[A3 hkl,Eh]at hQs;have u1:(V.set r (.cells (b.map dI))) ia=some (.cells [.sref r 0 N N]):=by rw[w8 _ _ d1];exact o1
    have u3:(V.set r (.cells (b.map dI))) ig=some (.map (eSN gm)):=by rw[w8 _ _ d3];exact o3
    have u4:(V.set r (.cells (b.map dI))) i6=some (.cells [.func (.func 193) [] [.ptr ia 0,.cptr [.map ig] 0,.ptr i6 0]]):=by rw[w8 _ _ d2];exact o4
    refine gf o4 ?_;refine Ab (ih e.kids[k] b _ (by have:=hw3 k hkl;omega) (by omega) hQs.1 hb hN u1 (w7 ..) u3 u4 d1 d2) (fun d S' hr=>?_) (fun d S' hr=>by cases hr.1);obtain⟨g1,rfl⟩:=hr;cases g1;refine gz ?_;exact⟨k+1,argE gm e.kids[k] b,⟨by omega,by rw[Du];exact hb,hR,hQs.2⟩,td1,wkR⟩
   ·rw[A2 hkl,Fp]at hR;refine gz ?_;exact Dl (S':=V.set r (.cells ((argE gm e a).map dI))) ⟨rfl,rfl⟩ (by rw[hfr,hR];exact Sub.refl _)
def argM(gm:List (Str×Int)):List FMeth->List Int->List Int
 |[],a=>a
 |m::r,a=>argM gm r (argE gm m.body (a.set (getM 0 m.name gm).toNat m.params.length))
def Hq(gm:List (Str×Int))(f:FProg):List Int:=argE gm f.main (argM gm f.methods (List.replicate gm.length 0))
theorem HG(gm:List (Str×Int)): ∀(l:List FMeth) (a:List Int),(argM gm l a).length=a.length
 |[],a=>rfl
 |m::r,a=>by rw[argM,HG gm r,Du,List.length_set]
theorem Qn(f:FProg)(gm:List (Str×Int))(ig:Nat)(V:Sig)(hw:f.wt<=1073741824)(hg:gm.length<=1073741824)(o3:V ig=some (.map (eSN gm)))
  (hM:∀m∈f.methods,(0<=getM 0 m.name gm/\getM 0 m.name gm<gm.length)/\AllX (QA gm gm.length) m.body) (hA:AllX (QA gm gm.length) f.main) :
  DCall prog 104 [.agg (BA f),.map ig] V fun x S'=> ∃r,V r=none/\x=.ret (.sref r 0 gm.length gm.length)/\S'=V.set r (.cells ((Hq gm f).map dI)):=by
 obtain⟨p1,p2,p3,p4,p5⟩:=f.wt_le;have hel:(eSN gm).length=gm.length:=by simp[eSN,eM]
 refine en func104 ntmps104 ?_;refine gf (gi o3 hel) ?_ [] [5,6];refine mmake (k:=gm.length) (c:=gm.length) (z:=[dI 0]) (sz:=1) (fun r hr hm=>?_)
 have hms:mS V (some (r,gm.length,(List.replicate (gm.length-gm.length) [dI 0]).flatten)) (List.replicate gm.length [dI 0])=V.set r (.cells ((List.replicate gm.length (0:Int)).map dI)):=by
  have h1:(List.replicate gm.length [dI 0]).flatten=(List.replicate gm.length (0:Int)).map dI:=by
   rw[List.map_replicate]
   induction gm.length with
   |zero=>rfl
   |succ n ih=>rw[List.replicate_succ,List.flatten_cons,ih,List.replicate_succ];rfl
  simp only[mS,Nat.sub_self,List.replicate_zero,List.flatten_nil,List.append_nil,h1]
 rw[hms];generalize hA0:List.replicate gm.length (0:Int)=a0;have hal:a0.length=gm.length:=by rw[<-hA0];simp
 refine newV (fun ia hia=>?_);refine gz ?_ [] [5,6];refine newV (fun i6 hi6=>?_);refine gz ?_ [] [5,6];have n1:ia≠r:=fun e=>by rw[e,w7]at hia;cases hia
 have n2:i6≠ia:=fun e=>by rw[e,w7]at hi6;cases hi6
 have n3:i6≠r:=fun e=>by rw[e,w8 _ _ (Ne.symm n1),w7]at hi6;cases hi6
 have n4:ig≠r:=fun e=>by rw[e,hr]at o3;cases o3
 have n5:ig≠ia:=fun e=>by rw[<-e,w8 _ _ n4,o3]at hia;cases hia
 have n6:ig≠i6:=fun e=>by rw[<-e,w8 _ _ n5,w8 _ _ n4,o3]at hi6;cases hi6
 generalize hU1:((V.set r _).set ia _).set i6 _=S1;have q1:S1 ia=some (.cells [.sref r 0 gm.length gm.length]):=by rw[<-hU1,w8 _ _ (Ne.symm n2),w7]
 have q2:S1 r=some (.cells (a0.map dI)):=by rw[<-hU1,w8 _ _ (Ne.symm n3),w8 _ _ (Ne.symm n1),w7]
 have q3:S1 ig=some (.map (eSN gm)):=by rw[<-hU1,w8 _ _ n6,w8 _ _ n5,w8 _ _ n4];exact o3
 have q4:S1 i6=some (.cells [.func (.func 193) [] [.ptr ia 0,.cptr [.map ig] 0,.ptr i6 0]]):=by rw[<-hU1,w7]
 have hfin:∀b:List Int,Sub (V.set r (.cells (b.map dI))) (S1.set r (.cells (b.map dI))):=fun b j x hj=>by
  by_cases e:j=r
  ·rw[e,w7]at hj⊢; exact hj
  ·rw[w8 _ _ e]at hj⊢;have z1:j≠ia:=fun e2=>by rw[<-e2,w8 _ _ e,hj]at hia;cases hia
   have z2:j≠i6:=fun e2=>by rw[<-e2,w8 _ _ z1,w8 _ _ e,hj]at hi6;cases hi6
   rw[<-hU1,w8 _ _ z2,w8 _ _ z1,w8 _ _ e];exact hj
 have hself:Sub (S1.set r (.cells (a0.map dI))) S1:=by rw[Sig.set_self _ q2];exact Sub.refl _
 have u1:∀X,(S1.set r X) ia=some (.cells [.sref r 0 gm.length gm.length]):=fun X=>by rw[w8 _ _ n1];exact q1
 have u3:∀X,(S1.set r X) ig=some (.map (eSN gm)):=fun X=>by rw[w8 _ _ n4];exact q3
 have u4:∀X,(S1.set r X) i6=some (.cells [.func (.func 193) [] [.ptr ia 0,.cptr [.map ig] 0,.ptr i6 0]]):=fun X=>by rw[w8 _ _ n3];exact q4
 refine Br [2,3,4,5,6,14,15,34,35,36,37,38] (fun (k:Nat) (b:List Int)=>k<=f.methods.length/\b.length=gm.length/\argM gm f.methods a0=argM gm (f.methods.drop k) b) (fun k _=>[(16,dI k)]) (fun _ b=>S1.set r (.cells (b.map dI))) (fun k _=>f.methods.length-k) (0) (a0) (by exact⟨by omega,hal,rfl⟩) (fun k b hI=>?_);obtain⟨hk,hb,hR⟩:=hI
 by_cases hkl:k<f.methods.length
 ·rw[A3 hkl,argM]at hR;obtain⟨⟨g1,g2⟩,g3⟩:=hM _ (List.getElem_mem hkl);obtain⟨p,hp⟩:∃p:Nat,getM 0 f.methods[k].name gm=p:=⟨(getM 0 f.methods[k].name gm).toNat,by omega⟩;have hpN:p<gm.length:=by omega
  have hwm:=p5 k hkl;have hwb:f.methods[k].body.wt<=1073741824/\f.methods[k].params.length<=1073741824:=by have:=hwm;unfold FMeth.wt at this;have:=Bk f.methods[k].params;omega
  have hbs:(List.take p (List.map dI b)++D.int IntKind.i64 f.methods[k].params.length::List.drop (p+1) (List.map dI b))=(b.set p f.methods[k].params.length).map dI:=by
   rw[List.map_set,List.set_eq_take_append_cons_drop,if_pos (by rw[List.length_map];omega)]
  rw[hp]at hR;refine gf (gi q1 (gi q3 (gi q4 (gi hp hbs)))) ?_ [] [5,6];refine Ab (K3 gm gm.length ia r ig i6 _ f.methods[k].body (b.set p f.methods[k].params.length) _ (Nat.le_refl _) hwb.1 g3 (by rw[List.length_set];exact hb) hg (u1 _) (by rw[w7,List.map_set]) (u3 _) (u4 _) n1 n3) (fun d S' hr=>?_) (fun d S' hr=>by cases hr.1);obtain⟨e1,rfl⟩:=hr;cases e1;refine gz ?_ [] [5,6];exact⟨k+1,argE gm f.methods[k].body (b.set p f.methods[k].params.length),⟨by omega,by rw[Du,List.length_set];exact hb,hR⟩,td1,wkR⟩
 ·rw[A2 hkl,argM]at hR;refine gf (gi q1 q4) ?_ [] [5,6];refine Ab (K3 gm gm.length ia r ig i6 _ f.main b _ (Nat.le_refl _) (by omega) hA hb hg (u1 _) (w7 ..) (u3 _) (u4 _) n1 n3) (fun d S' hr=>?_) (fun d S' hr=>by cases hr.1);obtain⟨e1,rfl⟩:=hr;cases e1;refine gf q1 ?_ [] [5,6];refine fin1 (S':=V.set r (.cells ((Hq gm f).map dI))) ⟨r,hr,rfl,rfl⟩ ?_;rw[Sig.set_set];unfold Hq;rw[hA0,hR];exact hfin _
def numM:List Str->Int->List (Str×Int)->List (Str×Int)
 |[],_,m=>m
 |s::r,b,m=>numM r (b+1) (putM s b m)
def cNum(m:List (Str×Int)):D:=.cmap ((eSN m).map (·.1)) ((eSN m).map (·.2))
theorem Td(l:List Str)(b:Int)(o:Own)(V:Sig)(hl:l.length<=1073741824)(hb:0<=b/\b<=1000):DCall prog 101 [.slice (cS l) o,dI b] V (rS (cNum (numM l b [])) V):=by
 obtain⟨hb0,hb1⟩:=hb;refine en func101 ntmps101 ?_;refine gz ?_;refine Rb (fun im him=>?_);refine gz ?_;refine Br [1,4,5,9,10,22] (fun (k:Nat) (m:List (Str×Int))=>k<=l.length/\numM l b []=numM (l.drop k) (b+k) m) (fun k _=>[(11,dI k)]) (fun _ m=>V.set im (.map (eSN m))) (fun k _=>l.length-k) (0) ([]) (by simp) (fun k m hI=>?_);obtain⟨hk,hR⟩:=hI
 by_cases hkl:k<l.length
 ·rw[A3 hkl,numM]at hR;refine gz ?_;exact⟨k+1,putM l[k] (b+k) m,⟨by omega,by rw[hR];congr 1;omega⟩,td1,wkR⟩
 ·rw[A2 hkl,numM]at hR
  repeat ((fail_if_success (first|(refine cfr 22 (i:=im) (m:=eSN m) (w7 ..) ?_)|fail));(refine goX1 trivial ?_))
  refine cfr 22 (i:=im) (m:=eSN m) (w7 ..) ?_;rw[Sig.set_del _ _ him,hR];refine gz ?_;exact fe1 trivial
@[reducible,instance] def a101:=fun l b o V=>ah2 (@Td l b o V)
theorem ME(c:FClass)(V:Sig):DCall prog 103 [.agg (cFClass c)] V (rS (.str c.name) V):=by
 refine en func103 ntmps103 ?_;refine gz ?_;exact fe1 trivial
theorem Da(l:List Str)(b:Int)(o:Own)(V:Sig)(hl:l.length<=1073741824)(hb:0<=b/\b<=1000):DCall prog 101 [.slice (cS l) o,dI b] V fun x S'=> ∃im,V im=none/\x=.ret (.map im)/\S'=V.set im (.map (eSN (numM l b []))):=by
 obtain⟨hb0,hb1⟩:=hb;refine en func101 ntmps101 ?_;refine gz ?_;refine Rb (fun im him=>?_);refine gz ?_;refine Br [1,4,5,9,10,22] (fun (k:Nat) (m:List (Str×Int))=>k<=l.length/\numM l b []=numM (l.drop k) (b+k) m) (fun k _=>[(11,dI k)]) (fun _ m=>V.set im (.map (eSN m))) (fun k _=>l.length-k) (0) ([]) (by simp) (fun k m hI=>?_);obtain⟨hk,hR⟩:=hI
 by_cases hkl:k<l.length
 ·rw[A3 hkl,numM]at hR;refine gz ?_;exact⟨k+1,putM l[k] (b+k) m,⟨by omega,by rw[hR];congr 1;omega⟩,td1,wkR⟩
 ·rw[A2 hkl,numM]at hR;refine gz ?_;exact fin1 (S':=V.set im (.map (eSN m))) ⟨im,him,rfl,by rw[hR]⟩
structure EnvS(ib ia is ig:Nat)(p6:List D)(cm sm gm:List (Str×Int))(V:Sig):Prop where
 env:∃a b c d e f,p6=[a,b,c,d,e,f]/\V ib=some (.cells [a,b,c,d,e,f,.map ia,.map is,.map ig])
 oa:V ia=some (.map (eSN cm))
 os:V is=some (.map (eSN sm))
 og:V ig=some (.map (eSN gm))
theorem EnvS.sub{ib ia is ig:Nat}{p6:List D}{cm sm gm:List (Str×Int)}{V S':Sig}(h:EnvS ib ia is ig p6 cm sm gm V)(hs:Sub V S'):EnvS ib ia is ig p6 cm sm gm S':=by
 obtain⟨⟨a,b,c,d,e,f,h1,h2⟩,h3,h4,h5⟩:=h;exact⟨⟨a,b,c,d,e,f,h1,hs _ _ h2⟩,hs _ _ h3,hs _ _ h4,hs _ _ h5⟩
section
variable {ib ia is ig:Nat}{p6:List D}{cm sm gm:List (Str×Int)}{V:Sig}
theorem K9(s:Str)(hE:EnvS ib ia is ig p6 cm sm gm V):DCall prog 108 [.str s,.cptr [.ptr ib 0] 0] V (rS (dI (getM 0 s cm)) V):=by
 obtain⟨⟨a,b,c,d,e,f,rfl,o1⟩,o2,o3,o4⟩:=hE;refine en func108 ntmps108 ?_;refine gf (gi o1 (gi o2 (gi o3 o4))) ?_;exact fe1 trivial
theorem K8(s:Str)(hE:EnvS ib ia is ig p6 cm sm gm V):DCall prog 109 [.str s,.cptr [.ptr ib 0] 0] V (rS (dI (getM 0 s sm)) V):=by
 obtain⟨⟨a,b,c,d,e,f,rfl,o1⟩,o2,o3,o4⟩:=hE;refine en func109 ntmps109 ?_;refine gf (gi o1 (gi o2 (gi o3 o4))) ?_;exact fe1 trivial
theorem K7(x:FInit)(hE:EnvS ib ia is ig p6 cm sm gm V):DCall prog 111 [.agg (D1 x),.cptr [.ptr ib 0] 0] V (rS (.agg (CP ⟨getM 0 x.slot sm,x.n⟩)) V):=by
 obtain⟨⟨a,b,c,d,e,f,rfl,o1⟩,o2,o3,o4⟩:=hE;refine en func111 ntmps111 ?_;refine gz ?_ o111;refine newV (fun i hi=>?_);have n1:ib≠i:=A1 o1 hi;have n2:ia≠i:=A1 o2 hi;have n3:is≠i:=A1 o3 hi;refine gf (gi o1 (gi o2 (gi o3 o4))) ?_ o111;exact finC (S':=V) ⟨rfl,rfl⟩
def J8(cm sm:List (Str×Int))(c:FClass):BClass:=⟨c.parents.map fun s=>getM 0 s cm,c.slots.map fun s=>getM 0 s sm,c.inits.map fun x=>⟨getM 0 x.slot sm,x.n⟩⟩
theorem Qm(c:FClass)(hw:c.parents.length<=1073741824/\c.slots.length<=1073741824/\c.inits.length<=1073741824)(hE:EnvS ib ia is ig p6 cm sm gm V):DCall prog 106 [.agg (cFClass c),.cptr [.ptr ib 0] 0] V (rS (.agg (cBClass (J8 cm sm c))) V):=by
 obtain⟨w1,w2,w3⟩:=hw;refine en func106 ntmps106 ?_;refine gz ?_ o106;refine newV (fun i hi=>?_);have hE2:=hE.sub (S':=V.set i (.cells [.nils,.nils,.nils])) ((Sub.refl _).set hi)
 repeat' first|refine gz ?_|refine moR (ET c.parents (fun s=>getM 0 s cm) 108 [.cptr [.ptr ib 0] 0] _ _ w1 (fun x hx S' hs=>K9 x (hE2.sub hs))) ?_|refine moP (ET c.parents (fun s=>getM 0 s cm) 108 [.cptr [.ptr ib 0] 0] _ _ w1 (fun x hx S' hs=>K9 x (hE2.sub hs))) ?_|refine moR (ET c.slots (fun s=>getM 0 s sm) 109 [.cptr [.ptr ib 0] 0] _ _ w2 (fun x hx S' hs=>K8 x (hE2.sub hs))) ?_|refine moP (ET c.slots (fun s=>getM 0 s sm) 109 [.cptr [.ptr ib 0] 0] _ _ w2 (fun x hx S' hs=>K8 x (hE2.sub hs))) ?_|refine moR (MD c.inits (fun x=>⟨getM 0 x.slot sm,x.n⟩) 111 [.cptr [.ptr ib 0] 0] _ _ w3 (fun x hx S' hs=>K7 x (hE2.sub hs))) ?_|refine moP (MD c.inits (fun x=>⟨getM 0 x.slot sm,x.n⟩) 111 [.cptr [.ptr ib 0] 0] _ _ w3 (fun x hx S' hs=>K7 x (hE2.sub hs))) ?_|refine gz ?_ o106|apply gy<;>intro hh
 exact finC (S':=V) ⟨rfl,rfl⟩ (hw:=by refine Bd ?_;simp[J8])
end
end Go.DL
