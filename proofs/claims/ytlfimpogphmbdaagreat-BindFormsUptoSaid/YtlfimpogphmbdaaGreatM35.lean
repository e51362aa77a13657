/- Part of the proof that the last text ends. -/
import Derived.Test.YtlfimpogphmbdaaGreatM34
import Derived.Test.YtlfimpogphmbdaaGreatM33
import Derived.Test.YtlfimpogphmbdaaGreatM22
import Derived.Test.YtlfimpogphmbdaaGreatM21
import Derived.Test.YtlfimpogphmbdaaGreatM32
import Derived.Test.YtlfimpogphmbdaaGreatM28
import Derived.Test.YtlfimpogphmbdaaGreatM31
import Derived.Test.YtlfimpogphmbdaaGreatM20
import Derived.Test.YtlfimpogphmbdaaGreatM13
import Derived.Test.YtlfimpogphmbdaaGreatRows
import Derived.WideKeyArgs
import Derived.ChangeSame
set_option linter.all false
namespace Go.DL
open Go.Proofs.Tryz
open Go Go.Proofs
set_option maxHeartbeats 8000000
def Jh(g:List (List Int)):Nat->Nat->Bool
 |_,0=>true
 |i,n+1=>decide (linE g ((i:Int)+3)=0)&&Jh g (i+1) n
def graphB(p:BProg):List (List Int):=p.classes.map (·.parents)
def HX(f:FProg):Int:=
 if(BG f).isSome=true then(if Jh (graphB (B4 f)) 0 (graphB (B4 f)).length=true then(if(B4 f).methods.all (fun m=>decide (m.fact.size<=24))=true then 0 else 3) else 7) else 2
def Qo:BProg:=⟨[],0,[],[],[],0⟩
def JT(f:FProg):BProg:=if HX f=0 then B4 f else Qo
mutual
theorem O6(cm sm:List (Str×Int))(env:Str->Int): ∀x:FFact,(bndF cm sm env x).size<=x.wt
 |.mk o s p c n k=>by
  have hw:(FFact.mk o s p c n k).wt=1+s.length+wtS p+c.length+wtL FFact.wt k:=FFact.wt_eq _
  have:=Lj cm sm env k
  rw[bndF,Fact.size];omega
theorem Lj(cm sm:List (Str×Int))(env:Str->Int): ∀l:List FFact,Fact.sizes (O5 cm sm env l)<=wtL FFact.wt l
 |[]=>by rw[O5,Fact.sizes,wtL];omega
 |x::r=>by
  have h1:=O6 cm sm env x
  have h2:=Lj cm sm env r
  rw[O5,Fact.sizes,wtL];omega
end
theorem O3(cm sm gm:List (Str×Int)): ∀(l:List FMeth) (k:Nat),(bndMM cm sm gm l k).length=l.length
 |[],_=>rfl
 |m::r,k=>by rw[bndMM,List.length_cons,O3 cm sm gm r,List.length_cons]
theorem Li(cm sm gm:List (Str×Int)): ∀(l:List FMeth) (k:Nat), ∀x∈bndMM cm sm gm l k,x.fact.size<=wtL FMeth.wt l
 |[],_,x,hx=>by simp[bndMM]at hx
 | m::r,k,x,hx=>by
  rw[bndMM]at hx
  rw[wtL]
  rcases List.mem_cons.1 hx with rfl|hx
  ·have:=O6 cm sm (Ig m) m.fact
   unfold FMeth.wt;simp only;omega
  ·have:=Li cm sm gm r _ x hx;omega
theorem M5(f:FProg)(V:Sig)(hw:f.wt<=10000000):DCall prog 17 [.agg (B7 f)] V (rS (.tup [.agg (Am (JT f)),dI (HX f)]) V):=by
 obtain⟨p1,p2,p3,p4,p5⟩:=f.wt_le
 have aa:WkD (.tup [.agg [.nils,dI 0,.nils,.nils,.nils,dI 0],dI (HX f)]) (.tup [.agg (Am Qo),dI (HX f)]):=
  Gs (show WkL _ _ from⟨E3 (show WkL _ (Am Qo) from⟨Al _ (.inl rfl),A8 _,Al _ (.inl rfl),Al _ (.inl rfl),Al _ (.inl rfl),A8 _,trivial⟩),A8 _,trivial⟩)
 refine en func17 ntmps17 ?_
 try refine gz ?_ [] [2]
 refine newV (fun i2 aM=>?_)
 cases hs:(BG f).isSome with
 |false =>
  have hE:HX f=2:=by unfold HX;rw[hs];rfl
  have hP:JT f=Qo:=by unfold JT;rw[hE];rfl
  rw[hP]
  rw[hE]at aa⊢
  try refine gf hs ?_ [] [2]
  refine finC (S':=V) ⟨rfl,rfl⟩ (hw:=?_)
  exact aa
 | true =>
  have aA:HX f=if Jh (graphB (B4 f)) 0 (graphB (B4 f)).length=true then(if(B4 f).methods.all (fun m=>decide (m.fact.size<=24))=true then 0 else 3) else 7:=by unfold HX;rw[hs];rfl
  have ar:(B4 f).classes=f.classes.map (OO (Cy f) (Cl f)):=rfl
  have bl:(B4 f).classes.length<=10000000:=by rw[ar,List.length_map];omega
  have bk:∀c∈(B4 f).classes,c.parents.length<=1073741824:=fun c hc=>by
   rw[ar]at hc
   obtain⟨d,hd,rfl⟩:=List.mem_map.1 hc
   obtain⟨k,hk,rfl⟩:=List.getElem_of_mem hd
   have:=p4 k hk
   obtain⟨_,y2,_⟩:=(f.classes[k]).wt_le
   have:=Bu (f.classes[k]).parents
   unfold OO;simp only[List.length_map];omega
  have bx:(B4 f).methods.length<=10000000:=by show(bndMM _ _ _ _ _).length<=_;rw[O3];omega
  have bd:∀x∈(B4 f).methods,x.fact.size<=1073741824:=fun x hx=>by have:=Li _ _ _ _ _ x hx;unfold FProg.wt at hw;omega
  have am:(graphB (B4 f)).length<=10000000:=by unfold graphB;rw[List.length_map];exact bl
  have bB:∀x∈graphB (B4 f),x.length<=1073741824:=fun x hx=>by obtain⟨c,hc,rfl⟩:=List.mem_map.1 hx;exact bk c hc
  have bg:(B4 f).classes.map (·.parents)=graphB (B4 f):=rfl
  have bi:(B4 f).classes.length=(graphB (B4 f)).length:=by unfold graphB;rw[List.length_map]
  try refine gf (gi hs (gi bg bi)) ?_ [] [2]
  refine B2 [2,4,5,10,20,35,36,37,38,39,40,41,42,43,44,45,46,47,48] (fun (k:Nat)=>k<=(graphB (B4 f)).length/\Jh (graphB (B4 f)) 0 (graphB (B4 f)).length=Jh (graphB (B4 f)) k ((graphB (B4 f)).length-k)) (fun k=>[(21,dI k)]) (fun _=>V.set i2 (.cells [.nils,dI 0,.nils,.nils,.nils,dI 0])) (fun k=>(graphB (B4 f)).length-k) (0) (by simp) (fun k hI=>?_)
  obtain⟨hk,hL⟩:=hI
  by_cases aJ:k<(graphB (B4 f)).length
  ·rw[show(graphB (B4 f)).length-k=((graphB (B4 f)).length-(k+1))+1 by omega,Jh]at hL
   by_cases h0:linE (graphB (B4 f)) ((k:Int)+3)=0
   ·rw[decide_eq_true h0,Bool.true_and]at hL
    try refine gf h0 ?_ [] [2]
    exact⟨k+1,⟨by omega,hL⟩,td1,wkR⟩
   ·rw[decide_eq_false h0,Bool.false_and]at hL
    have hE:HX f=7:=by rw[aA,hL];rfl
    have hP:JT f=Qo:=by unfold JT;rw[hE];rfl
    rw[hP]
    rw[hE]at aa⊢
    try refine gf h0 ?_ [] [2]
    refine finC (S':=V) ⟨rfl,rfl⟩ (hw:=?_)
    exact aa
  ·have be:k=(graphB (B4 f)).length:=by omega
   rw[be,Nat.sub_self,Jh]at hL
   rw[if_pos hL]at aA
   try refine gz ?_ [] [2]
   refine B2 [2,4,36,37,48] (fun (j:Nat)=>j<=(B4 f).methods.length/\(B4 f).methods.all (fun m=>decide (m.fact.size<=24))=((B4 f).methods.drop j).all (fun m=>decide (m.fact.size<=24))) (fun j=>[(38,dI j)]) (fun _=>V.set i2 (.cells [.nils,dI 0,.nils,.nils,.nils,dI 0])) (fun j=>(B4 f).methods.length-j) (0) (by simp) (fun j hI=>?_)
   obtain⟨hj,hA⟩:=hI
   by_cases aL:j<(B4 f).methods.length
   ·rw[A0 aL,List.all_cons]at hA
    have bz:=bd _ (List.getElem_mem aL)
    by_cases aV:((B4 f).methods[j]).fact.size<=24
    ·rw[decide_eq_true aV,Bool.true_and]at hA
     try refine gz ?_ [] [2]
     exact⟨j+1,⟨by omega,hA⟩,td1,wkR⟩
    ·rw[decide_eq_false aV,Bool.false_and]at hA
     have hE:HX f=3:=by rw[aA,if_neg (by rw[hA];simp)]
     have hP:JT f=Qo:=by unfold JT;rw[hE];rfl
     rw[hP]
     rw[hE]at aa⊢
     try refine gz ?_ [] [2]
     refine finC (S':=V) ⟨rfl,rfl⟩ (hw:=?_)
     exact aa
   ·rw[A1 aL]at hA
    have hE:HX f=0:=by rw[aA,if_pos (by rw[hA];rfl)]
    have hP:JT f=B4 f:=by unfold JT;rw[hE];rfl
    rw[hP,hE]
    try refine gz ?_ [] [2]
    exact finC (S':=V) ⟨rfl,rfl⟩
@[reducible,instance] def a17:=fun f V=>ah1 (@M5 f V)
theorem KB{l m:List Int}(h:∀x,x∈l ↔ x∈m): ∀(a:List Init) (seen:List Int),DI l seen a=DI m seen a
 |[],_=>rfl
 |x::r,seen=>by rw[DI,DI,KB h r,decide_eq_decide.2 (h x.slot)]
def Jk(p:BProg):Nat->List BClass->Bool
 |_,[]=>true
 |i,c::r=>decide (linE (p.classes.map (·.parents)) ((i:Int)+3)=0)&&DI (hasG p.classes (((i:Int)+3)-2).toNat [((i:Int)+3)] []) [] c.inits&&Jk p (i+1) r
theorem I6(p:BProg): ∀(l:List BClass) (i:Nat),Bl p i l=Jk p i l
 |[],_=>rfl
 |c::r,i=>by
  rw[Bl,Jk,I6 p r]
  congr 2
  exact KB (fun x=>by unfold hasP ES;exact List.mem_mergeSort) _ _
theorem Wj:Bl exB 0 exB.classes=true:=by rw[I6];decide +kernel
theorem Rc:Ar exB=true:=by
 unfold Ar
 have h1:Bw 0 exB.classes=some 2:=by decide +kernel
 have h2:Bq (exB.classes.map (·.parents))=true:=by decide +kernel
 have h3:decide (exB.classes.length<=10)=true:=by decide +kernel
 have h4:decide ((2:Int)=exB.slots)=true:=by decide +kernel
 rw[h1,h3]
 simp only[h2,h4,Wj,Bool.and_self,Bool.and_true]
theorem OF:D0 exB=some [1,1,1,1,1,2,0,0]:=by
 unfold D0
 rw[Rc]
 decide +kernel
theorem ex_ok:okP exB=true:=by unfold okP;rw[OF];rfl
theorem M7:DC exB=0:=by
 unfold DC
 rw[ex_ok]
 decide +kernel
theorem PU:HX (exA [[98],[97]])=0:=by decide +kernel
theorem PR:HX (exA [[97],[98]])=7:=by decide +kernel
theorem UH:Qk (JT (exA [[98],[97]])) exB=true:=by decide +kernel
theorem WK:ES [1,0]=[0,1]:=by simp[ES,List.mergeSort,List.MergeSort.Internal.splitInTwo,List.merge]
theorem OG:hasP exB 5=[0,1]:=by
 unfold hasP
 rw[show hasG exB.classes ((5:Int)-2).toNat [5] []=[1,0] by decide +kernel,WK]
theorem ex_has4:hasP exB 4=[0,1]:=by
 unfold hasP
 rw[show hasG exB.classes ((4:Int)-2).toNat [4] []=[1,0] by decide +kernel,WK]
theorem NG:JU exB 5=[⟨0,1⟩]:=by unfold JU;rw[OG];decide +kernel
theorem NH:JU exB 4=[⟨0,7⟩]:=by unfold JU;rw[ex_has4];decide +kernel
theorem UI:ownF exB 5=true:=by decide +kernel
theorem UJ:ownF exB 4=true:=by decide +kernel
theorem PQ:(AR exB).owner=[3,4]:=by decide +kernel
theorem ex_form:DB exB=⟨(spCs exB),exB.methods.map (spM exB),(Dm exB).main⟩:=by unfold DB;rw[M7];rfl
theorem Wl: ∃c0 c1 c2 m0 m1 mn,DB exB=⟨[c0,c1,c2],[m0,m1],mn⟩/\c2.name=[99]/\m0.name=[97]:=by
 have hc:(spCs exB).map (·.name)=[[97],[98],[99]]:=by decide +kernel
 have hm:(spM exB ⟨1,0,.mk 2 0 [] 3 0 [],0⟩).name=[97]:=by decide +kernel
 rw[ex_form]
 rcases hs:spCs exB with _|⟨c0,_|⟨c1,_|⟨c2,_|⟨c3,r⟩⟩⟩⟩<;>rw[hs]at hc<;>simp at hc
 exact⟨c0,c1,c2,_,_,_,rfl,hc.2.2,hm⟩
theorem PK(V:Sig):DCall prog 16 [] V (rS (.bool true) V):=by
 have w1:(exA [[98],[97]]).wt<=10000000:=by decide +kernel
 have w2:(exA [[97],[98]]).wt<=10000000:=by decide +kernel
 have w3:exB.wt<=10000000:=by decide +kernel
 have w4:(JT (exA [[98],[97]])).wt<=1073741824:=by decide +kernel
 have aw:=fun (o:Own) (V:Sig)=>PE [[98],[97]] o V
 have av:=fun (o:Own) (V:Sig)=>PE [[97],[98]] o V
 have br:=fun (V:Sig)=>M5 _ V w1
 have bq:=fun (V:Sig)=>M5 _ V w2
 have bG:=fun (V:Sig)=>PJ _ exB V w4 (by omega)
 have bF:=fun (V:Sig)=>M4 exB V w3
 have bI:=fun (V:Sig)=>M6 exB V (by omega)
 have bJ:=fun (V:Sig)=>PM exB V (by omega)
 have bE:=fun (V:Sig)=>PI exB 5 V (by omega)
 have bp:=fun (V:Sig)=>M3 exB 5 V (by omega)
 have bn:=fun (V:Sig)=>M3 exB 4 V (by omega)
 have bC:=fun (V:Sig)=>PF exB V (by omega)
 obtain⟨c0,c1,c2,m0,m1,mn,e1,e2,e3⟩:=Wl
 have aQ:∀(l:List Int) (V:Sig),l.length<=1073741824->DCall prog 15 [.slice (cI l) .no,.slice (cI l) .clip] V (rS (.bool true) V):=fun l V hl=>by
  have:=PL l l .no .clip V hl
  simpa using this
 have aU:∀(l:List Init) (V:Sig),l.length<=1073741824->DCall prog 27 [.slice (l.map F8) .no,.slice (l.map F8) .clip] V (rS (.bool true) V):=fun l V hl=>by
  have:=PH l l .no .clip V hl hl
  simpa using this
 have g1:=fun (V:Sig)=>aQ [1,1,1,1,1,2,0,0] V (by simp)
 have g2:=fun (V:Sig)=>aQ [0,1] V (by simp)
 have g3:=fun (V:Sig)=>aQ [3,4] V (by simp)
 have g4:=fun (V:Sig)=>aU [⟨0,1⟩] V (by simp)
 have g5:=fun (V:Sig)=>aU [⟨0,7⟩] V (by simp)
 have he:NJ (some [1,1,1,1,1,2,0,0])=0:=rfl
 refine en func16 ntmps16 ?_
 repeat' first|refine gf (gi PU (gi PR (gi M7 (gi UH (gi ex_ok (gi OF (gi UI (gi UJ (gi OG (gi NG (gi NH (gi e1 (gi e2 (gi e3 (gi PQ he))))))))))))))) ?_|refine Ax (aw _ _) ?_|refine callP (aw _ _) ?_|refine Ax (av _ _) ?_|refine callP (av _ _) ?_|refine Fj (g1 _) ?_|refine Fk (g1 _) ?_|refine Fj (g2 _) ?_|refine Fk (g2 _) ?_|refine Fj (g3 _) ?_|refine Fk (g3 _) ?_|refine Fj (g4 _) ?_|refine Fk (g4 _) ?_|refine Fj (g5 _) ?_|refine Fk (g5 _) ?_|refine gf (gi PU (gi PR (gi M7 (gi UH (gi ex_ok (gi OF (gi UI (gi UJ (gi OG (gi NG (gi NH (gi e1 (gi e2 (gi e3 (gi PQ he))))))))))))))) ?_ o16|apply gy<;>intro hh
 exact fin1 (S':=V) ⟨rfl,rfl⟩
@[reducible,instance] def a16:=fun V=>ah0 (@PK V)
def EntOK(s:List Int):Prop:= ∀x∈s,x = -1\/0<=x
theorem EntOK.set{s:List Int}(h:EntOK s)(n:Nat){v:Int}(hv:0<=v):EntOK (s.set n v):=fun x hx=>by
 rcases List.mem_or_eq_of_mem_set hx with hx|rfl
 ·exact h x hx
 ·exact .inr hv
theorem walkKids_ent{f:Int->Int->List Int->Bool×List Int}{x:BNode}{size:Int}(hf:∀c z s,0<=z->EntOK s->EntOK (f c z s).2)(hz:0<=size): ∀(l:List Int) (j:Nat) (s:List Int),EntOK s->EntOK (Bx f x size j l s).2
 |[],_,_,h=>h
 |c::r,j,s,h=>by
  rw[Bx]
  have h1:=hf c (if x.op=9/\j=1 then size+1 else size) s (by split<;>omega) h
  split
  ·rename_i s' e;rw[e]at h1;exact h1
  ·rename_i s' e;rw[e]at h1;exact walkKids_ent hf hz r _ _ h1
theorem IE(p:BProg)(inM:Bool): ∀(k:Nat) (node size:Int) (s:List Int),0<=size->EntOK s->EntOK (BR p inM k node size s).2
 |0,_,_,_,_,h=>h
 | k+1,node,size,s,hz,h=>by
  rw[BR]
  split
  ·exact h
  ·split
   ·exact h.set _ hz
   ·exact walkKids_ent (fun c z s hz hs=>IE p inM k c z s hz hs) hz _ _ _ (h.set _ hz)
theorem I3(p:BProg)(hF:∀f,Dh (AR p) f=E7 (AR p) f): ∀(l:List BMeth) (s:List Int),Dp p l s=optW (CG p l s)
 |[],s=>rfl
 | m::r,s=>by
  have hm:Ep p m=Ff p m:=by unfold Ep Ff;rw[hF]
  rw[Dp,CG,hm]
  split
  ·cases hw:BR p (decide (m.kind=1)||decide (m.kind=4)) 12 m.node (p.gens.getD m.gen.toNat 0) s with
   |mk b s'=>cases b with
    |false=>rfl
    |true=>simp only[optW];exact I3 p hF r s'
  ·rfl
theorem methsP_ent(p:BProg)(hg:∀g∈p.gens,1<=g): ∀(l:List BMeth) (s s':List Int),Dp p l s=some s'->EntOK s->EntOK s'
 |[],s,s',h,hs=>by rw[Dp]at h;cases h;exact hs
 | m::r,s,s',h,hs=>by
  rw[Dp]at h
  split at h
  ·rename_i hm
   have h0:0<=p.gens.getD m.gen.toNat 0:=by
    rw[List.getD_eq_getElem?_getD]
    cases bh:p.gens[m.gen.toNat]? with
    |none=>simp
    |some g=>have:=hg g (List.mem_of_getElem? bh);simp only[Option.getD_some];omega
   have he:=IE p (decide (m.kind=1)||decide (m.kind=4)) 12 m.node (p.gens.getD m.gen.toNat 0) s h0 hs
   cases hw:BR p (decide (m.kind=1)||decide (m.kind=4)) 12 m.node (p.gens.getD m.gen.toNat 0) s with
   |mk b s1 =>
    rw[hw]at h he
    cases b with
    |false=>simp[optW]at h
    |true=>simp only[optW]at h;exact methsP_ent p hg r s1 s' h he
  ·cases h
theorem look_eq(p:BProg)(hC:Ar p=AG p)(hF:∀f,Dh (AR p) f=E7 (AR p) f):D0 p=Fl p:=by
 have hh:(Ar p&&(decide (p.gens.length<=8)&&decide (p.methods.length<=16)&&decide (1<=p.nodes.length)&&decide (p.nodes.length<=120)))=KC p:=by unfold KC;rw[hC];simp only[Bool.and_assoc]
 unfold D0 Fl
 rw[hh]
 split
 ·rename_i hc
  simp only[Bool.and_eq_true,List.all_eq_true,decide_eq_true_eq]at hc
  have ak:=methsP_ent p (fun g hg=>(hc.2 g hg).1) p.methods (List.replicate p.nodes.length (-1))
  have bc:=I3 p hF p.methods (List.replicate p.nodes.length (-1))
  rw[bc]at ak⊢
  cases hm:CG p p.methods (List.replicate p.nodes.length (-1))with
  | mk b s =>
   rw[hm]at ak
   cases b with
   |false=>rfl
   | true =>
    simp only[optW]
    have h1:=ak s rfl fun x hx=>.inl (List.eq_of_mem_replicate hx)
    have h2:=IE p false 12 p.main 0 s (Int.le_refl _) h1
    cases hw:BR p false 12 p.main 0 s with
    | mk b s2 =>
     rw[hw]at h2
     cases b with
     |false=>rfl
     | true =>
      simp only
      have e:(-1∈s2) = ¬(s2.all (fun n=>decide (0<=n))=true):=by
       simp only[List.all_eq_true,decide_eq_true_eq]
       refine propext ⟨fun h k=>by have:=k _ h;omega,fun h=>Classical.byContradiction fun k=>h fun x hx=>?_⟩
       rcases h2 x hx with rfl|h
       ·exact absurd hx k
       ·exact h
      by_cases hs:s2.all (fun n=>decide (0<=n))=true
      ·rw[if_pos hs,if_neg (by rw[e];exact fun k=>k hs)]
      ·rw[if_neg hs,if_pos (by rw[e];exact hs)]
 ·rfl
theorem Lb: ∀(l:List Fact) (n d:Int),Fact.depths l n<=d ↔ n<=d /\ ∀x∈l,x.depth<=d
 |[],n,d=>by rw[Fact.depths];simp
 |f::l,n,d=>by
  rw[Fact.depths,Lb l]
  have:mx n f.depth<=d ↔ n<=d/\f.depth<=d:=by unfold mx;split<;>omega
  rw[this]
  simp only[List.mem_cons,forall_eq_or_imp]
  exact and_assoc
def locP(w:World)(f:Fact):Prop:=1<=f.op/\f.op<=7/\f.kids.length=Bs f.op/\(if BZ f.op then HP w f=true else f.arg=0/\f.path.length=0/\f.cls=0/\f.n=0)
theorem loc_iff(w:World)(f:Fact):(Jw w f&&F2 w f)=true ↔ locP w f:=by
 unfold locP Jw F2 HP Vq MI BZ inB Gt Bs
 rcases Decidable.em (f.op=2)with h2|h2
 ·simp[h2];grind
 ·rcases Decidable.em (f.op=3)with h3|h3
  ·simp[h3];grind
  ·rcases Decidable.em (f.op=4)with h4|h4
   ·simp[h4];grind
   ·simp[h2,h3,h4]
    grind
theorem Hb(w:World): ∀(d:Nat) (f:Fact) (s s':Int),0<=s->s<=1000->(Dn w d f s=(true,s') ↔ (s'=s-f.size/\(f.size:Int)<=s/\f.depth<=d/\J3 w f=true))
 |0,f,s,s',_,_=>by
  have:=(Fact.depth_le f).1
  simp[Dn];omega
 | d+1,f,s,s',h0,h1=>by
  have hw:IntKind.i64.wrap (s-1)=s-1:=Ao (by omega) (by omega)
  have aP:∀(l:List Fact) (t t':Int),0<=t->t<=1000->(allS (Dn w d) l t=(true,t') ↔ (t'=t-Fact.sizes l/\(Fact.sizes l:Int)<=t/\(∀x∈l,x.depth<=d)/\E5 w l=true)):=fun l=>by
   induction l with
   |nil=>intro t t' h0 h1;rw[allS,Fact.sizes,E5];simp;omega
   | cons x r ih =>
    intro t t' h0 h1
    rw[allS,Fact.sizes,E5]
    cases hy:Dn w d x t with
    | mk b t1 =>
     cases b with
     |false =>
      have hx:=Hb w d x t (t-x.size) h0 h1
      rw[hy]at hx
      simp only[Prod.mk.injEq,Bool.false_eq_true,false_and,false_iff,List.mem_cons,forall_eq_or_imp,Bool.and_eq_true]at hx⊢
      rintro⟨a1,a2,⟨a3,a4⟩,a5,a6⟩
      exact hx ⟨trivial,by omega,a3,a5⟩
     |true =>
      obtain⟨b1,b2,b3,b4⟩:=(Hb w d x t t1 h0 h1).1 hy
      simp only[List.mem_cons,forall_eq_or_imp,Bool.and_eq_true]
      rw[ih t1 t' (by omega) (by omega)]
      constructor
      ·rintro⟨a1,a2,a3,a4⟩;exact⟨by omega,by omega,⟨b3,a3⟩,b4,a4⟩
      ·rintro⟨a1,a2,⟨_,a3⟩,_,a4⟩;exact⟨by omega,by omega,a3,a4⟩
  have aG:=loc_iff w f
  rw[Dn,hw,Fact.depth_eq,Fact.size_eq,Pf,Bool.and_eq_true,aG]
  have hd:Fact.depths f.kids 0+1<=((d+1:Nat):Int) ↔ ∀x∈f.kids,x.depth<=d:=by
   have:=Lb f.kids 0 d
   constructor
   ·intro h;exact(this.1 (by omega)).2
   ·intro h;have:=this.2 ⟨by omega,h⟩;omega
  rw[hd]
  unfold locP
  split
  ·rename_i hc
   simp only[Prod.mk.injEq,Bool.false_eq_true,false_and,false_iff]
   rintro⟨a1,a2,a3,⟨a4,a5,a6,a7⟩,a8⟩
   rcases hc with hc|hc|hc|hc<;>omega
  ·rename_i hc
   have c1:¬s-1<0:=fun h=>hc (.inl h)
   have c2:¬f.op<1:=fun h=>hc (.inr (.inl h))
   have c3:¬7<f.op:=fun h=>hc (.inr (.inr (.inl h)))
   have c4:f.kids.length=Bs f.op:=Classical.byContradiction fun h=>hc (.inr (.inr (.inr h)))
   split
   ·rename_i hl
    have hk:f.kids=[]:=by
     have:Bs f.op=0:=by
      unfold BZ at hl
      simp only[Bool.or_eq_true,decide_eq_true_eq]at hl
      unfold Bs
      rw[if_neg (by omega),if_neg (by omega)]
     exact List.eq_nil_of_length_eq_zero (by omega)
    rw[hk]at c4⊢
    rw[Fact.sizes,E5]
    simp only[Prod.mk.injEq]
    constructor
    ·rintro⟨a1,a2⟩;exact⟨by omega,by omega,by simp,⟨by omega,by omega,c4,a1⟩,trivial⟩
    ·rintro⟨a1,a2,a3,⟨a4,a5,a6,a7⟩,a8⟩;exact⟨a7,by omega⟩
   ·rename_i hl
    split
    ·rename_i hz
     rw[aP _ _ _ (by omega) (by omega)]
     constructor
     ·rintro⟨a1,a2,a3,a4⟩;exact⟨by omega,by omega,a3,⟨by omega,by omega,c4,hz⟩,a4⟩
     ·rintro⟨a1,a2,a3,_,a4⟩;exact⟨by omega,by omega,a3,a4⟩
    ·rename_i hz
     simp only[Prod.mk.injEq,Bool.false_eq_true,false_and,false_iff]
     rintro⟨a1,a2,a3,⟨a4,a5,a6,a7⟩,a8⟩
     exact hz a7
mutual
theorem V2: ∀(f:Fact) (most:Int),((f.size:Int)<=most->f.cnt most=f.size)/\(most<f.size->most<f.cnt most)
 |.mk o a p c n k,most=>by
  have:=Q3 k most 1
  rw[Fact.cnt,Fact.size]
  omega
theorem Q3: ∀(l:List Fact) (most n:Int),(n+(Fact.sizes l:Int)<=most->Fact.cnts l most n=n+Fact.sizes l)/\(most<n+Fact.sizes l->most<Fact.cnts l most n)
 |[],most,n=>by rw[Fact.cnts,Fact.sizes];omega
 | f::l,most,n=>by
  rw[Fact.cnts,Fact.sizes]
  have h1:=V2 f (most-n)
  have h2:=Fact.cnts_le l most (n+f.cnt (most-n))
  have h3:=Q3 l most (n+f.cnt (most-n))
  split
  ·by_cases hs:(f.size:Int)<=most-n
   ·rw[h1.1 hs]at h2 h3⊢
    omega
   ·have:=h1.2 (by omega)
    omega
  ·omega
end
theorem ST(w:World)(f:Fact):Dh w f=E7 w f:=by
 have h:=Hb w 12 f 24 (24-f.size) (by omega) (by omega)
 have hc:=V2 f 24
 have e1:Dh w f=true ↔ ((f.size:Int)<=24/\f.depth<=12/\J3 w f=true):=by
  unfold Dh
  constructor
  ·intro hb
   cases hn:Dn w 12 f 24 with
   |mk b s' =>
    rw[hn]at hb
    cases b with
    |false=>simp at hb
    |true=>exact((Hb w 12 f 24 s' (by omega) (by omega)).1 hn).2
  ·intro hb
   rw[h.2 ⟨rfl,hb⟩]
 have e2:E7 w f=true ↔ ((f.size:Int)<=24/\f.depth<=12/\J3 w f=true):=by
  unfold E7
  simp only[Bool.and_eq_true,decide_eq_true_eq]
  constructor
  ·rintro⟨⟨a,b⟩,c⟩;exact⟨by omega,b,c⟩
  ·rintro⟨a,b,c⟩;exact⟨⟨by omega,b⟩,c⟩
 rw[Bool.eq_iff_iff,e1,e2]
theorem VF(p:BProg)(hC:Ar p=AG p):D0 p=Fl p:=look_eq p hC fun f=>ST _ f
theorem Ps{p:BProg}(hg:Bq (p.classes.map (·.parents))=true){k:Nat}(hk:k<p.classes.length):(p.classes[k]).parents.length<=3 /\ ∀x∈(p.classes[k]).parents,3<=x/\x<(k:Int)+3:=by
 have h:=BB hg (k+3)
 have e:parentsF (p.classes.map (·.parents)) ((k+3:Nat):Int)=(p.classes[k]).parents:=by
  unfold parentsF
  rw[if_neg (by omega),show(((k+3:Nat):Int)-3).toNat=k by omega,List.getElem?_eq_getElem (by simpa using hk)]
  simp
 rw[e]at h
 exact⟨h.1,fun x hx=>by have:=h.2 x hx;omega⟩
theorem Q6: ∀(cs:List BClass) (n:Int),(∀c∈cs,c.parents.length<=3)->Fi n cs=Bw n cs
 |[],_,_=>rfl
 | c::r,n,h=>by
  have h3:=h c (by simp)
  rw[Fi,Bw]
  by_cases h4:4<c.slots.length
  ·rw[if_pos (.inl h4),if_pos h4]
  ·rw[if_neg (by omega),if_neg h4]
   cases CB n c.slots with
   |none=>rfl
   |some m=>exact Q6 r m fun x hx=>h x (by simp[hx])
theorem VG{g:List (List Int)}(hg:Bq g=true){c:Int}(hc:0<=c/\c<3+g.length):decide (linE g c=0)=decide (0<(FE g c).length):=by
 unfold linE
 rw[if_pos ⟨hg,hc⟩]
 by_cases h:FE g c=[]
 ·rw[if_pos h,h];rfl
 ·rw[if_neg h]
  have:=List.length_pos_iff.2 h
  simp[this]
theorem LT(bs:List Bool)(i j:Nat)(v:Bool):(bs.set i v).getD j false=if i=j/\i<bs.length then v else bs.getD j false:=by
 rw[List.getD_eq_getElem?_getD,List.getD_eq_getElem?_getD,List.getElem?_set]
 by_cases h:i=j
 ·subst h
  by_cases hl:i<bs.length
  ·simp[hl]
  ·simp[hl]
 ·simp[h]
theorem GV(k:Nat): ∀(ps:List Int) (bs:List Bool) (j:Nat),(∀x∈ps,0<=x/\x<k/\x<bs.length)->(Gi k ps bs).getD j false=(bs.getD j false||(bs.getD k false&&decide ((j:Int)∈ps)))
 |[],bs,j,_=>by rw[Gi];simp
 | p::r,bs,j,h=>by
  obtain⟨h0,h1,h2⟩:=h p (by simp)
  rw[Gi,GV k r _ j (fun x hx=>by rw[List.length_set];exact h x (by simp[hx]))]
  rw[LT,LT]
  have hk:¬(p.toNat=k/\p.toNat<bs.length):=by omega
  rw[if_neg hk]
  by_cases hj:p.toNat=j
  ·have aK:(j:Int)=p:=by omega
   rw[if_pos ⟨hj,by omega⟩,hj]
   simp[aK]
   cases bs.getD j false<;>cases bs.getD k false<;>simp_all
  ·have aK:¬(j:Int)=p:=by omega
   rw[if_neg (by rintro⟨a,_⟩;exact hj a)]
   simp[aK]
theorem Im(g:List (List Int))(hg:Bq g=true): ∀(j:Nat) (bs:List Bool) (k:Nat),j+2<k->bs.length=3+g.length->j<=g.length->(upD g j bs).getD k false=bs.getD k false
 |0,_,_,_,_,_=>rfl
 | j+1,bs,k,h,hl,hj=>by
  have hp:=(BB hg (j+3)).2
  rw[upD,Im g hg j _ k (by omega) (by rw[Dl];exact hl) (by omega),GV _ _ _ _ (fun x hx=>by have:=hp x hx;omega)]
  have:decide ((k:Int)∈parentsF g ((j+3:Nat):Int))=false:=by
   rw[decide_eq_false_iff_not];intro hx
   have:=hp k hx;omega
  rw[this];simp
theorem Kw{α:Type}[DecidableEq α]{x:α}: ∀(l s:List α),x∈Gq l s ↔ x∈l\/x∈s
 |[],s=>by unfold Gq;simp
 |y::r,s=>by
  have:=Kw (x:=x) r (ins y s)
  unfold Gq at this⊢
  rw[List.foldl_cons,this,HN,List.mem_cons]
  grind
theorem LS{p:BProg}(hg:Bq (p.classes.map (·.parents))=true){s:Int}: ∀(n:Nat) (up out:List Int) (bs:List Bool),n<=p.classes.length->bs.length=3+p.classes.length->(∀k:Nat,3<=k->k<n+3->((k:Int)∈up ↔ bs.getD k false=true))->
  (s∈hasG p.classes n up out ↔ s∈out \/ ∃k, ∃h:k<p.classes.length,k<n/\(upD (p.classes.map (·.parents)) n bs).getD (k+3) false=true/\s∈(p.classes[k]).slots)
 |0,up,out,bs,_,_,_=>by rw[hasG];simp
 | n+1,up,out,bs,hn,hl,hR=>by
  have ay:n<p.classes.length:=by omega
  have ap:=(Ps hg ay).2
  have aD:parentsF (p.classes.map (·.parents)) ((n+3:Nat):Int)=(p.classes[n]).parents:=by
   unfold parentsF
   rw[if_neg (by omega),show(((n+3:Nat):Int)-3).toNat=n by omega,List.getElem?_eq_getElem (by simpa using ay)]
   simp
  have aj:=fun (j:Nat)=>GV (n+3) (p.classes[n]).parents bs j (fun x hx=>by have:=ap x hx;omega)
  have hlen:(Gi (n+3) (p.classes[n]).parents bs).length=3+p.classes.length:=by rw[Dl];exact hl
  have ai:=Im _ hg n (Gi (n+3) (p.classes[n]).parents bs) (n+3) (by omega) (by rw[hlen,List.length_map]) (by rw[List.length_map];omega)
  have ae:(Gi (n+3) (p.classes[n]).parents bs).getD (n+3) false=bs.getD (n+3) false:=by
   rw[aj]
   have:decide (((n+3:Nat):Int)∈(p.classes[n]).parents)=false:=by rw[decide_eq_false_iff_not];intro hx;have:=ap _ hx;omega
   rw[this];simp
  have ah:=hR (n+3) (by omega) (by omega)
  rw[hasG,List.getElem?_eq_getElem ay,upD,aD]
  simp only
  have au:((n+3:Nat):Int)=(n:Int)+3:=by omega
  rw[au]at ah
  by_cases hu:(n:Int)+3∈up
  ·have hb:=ah.1 hu
   rw[if_pos hu,LS hg n _ _ (Gi (n+3) (p.classes[n]).parents bs) (by omega) hlen (fun k h3 hk=>by
    rw[Kw,hR k h3 (by omega),aj k,hb]
    simp;grind),List.mem_append]
   constructor
   ·rintro((h|h)|⟨k,hk,h1,h2,h3⟩)
    ·exact .inl h
    ·exact .inr ⟨n,ay,by omega,by rw[ai,ae];exact hb,h⟩
    ·exact .inr ⟨k,hk,by omega,h2,h3⟩
   ·rintro(h|⟨k,hk,h1,h2,h3⟩)
    ·exact .inl (.inl h)
    ·by_cases aI:k=n
     ·subst aI;exact .inl (.inr h3)
     ·exact .inr ⟨k,hk,by omega,h2,h3⟩
  ·have hb:bs.getD (n+3) false=false:=by
    cases h:bs.getD (n+3) false
    ·rfl
    ·exact absurd (ah.2 h) hu
   rw[if_neg hu,LS hg n _ _ (Gi (n+3) (p.classes[n]).parents bs) (by omega) hlen (fun k h3 hk=>by
    rw[hR k h3 (by omega),aj k,hb]
    simp)]
   constructor
   ·rintro(h|⟨k,hk,h1,h2,h3⟩)
    ·exact .inl h
    ·exact .inr ⟨k,hk,by omega,h2,h3⟩
   ·rintro(h|⟨k,hk,h1,h2,h3⟩)
    ·exact .inl h
    ·by_cases aI:k=n
     ·subst aI;rw[ai,ae,hb]at h2;cases h2
     ·exact .inr ⟨k,hk,by omega,h2,h3⟩
theorem Ko: ∀(l:List Int) (n m:Int),CB n l=some m->∀s,s∈l ↔ n<=s/\s<m
 |[],n,m,h,s=>by rw[CB]at h;cases h;simp
 | x::r,n,m,h,s=>by
  rw[CB]at h
  split at h
  ·rename_i hx
   have h1:=Ko r _ _ h s
   have h2:=(H5 r _ _ h).1
   rw[List.mem_cons,h1]
   omega
  ·cases h
theorem Kt: ∀(cs:List BClass) (i:Nat), ∀x∈ownersF cs i,(i:Int)+3<=x
 |[],_,x,hx=>by simp[ownersF]at hx
 |c::r,i,x,hx=>by
  rw[ownersF]at hx
  rcases List.mem_append.1 hx with hx|hx
  ·have:=List.eq_of_mem_replicate hx;omega
  ·have:=Kt r (i+1) x hx;omega
theorem MJ: ∀(cs:List BClass) (i:Nat) (n m:Int),Bw n cs=some m->∀(s:Int) (k:Nat) (h:k<cs.length),s∈(cs[k]).slots ↔ n<=s/\s<m/\((ownersF cs i)[(s-n).toNat]?).getD 0=(i:Int)+k+3
 |[],_,_,_,_,_,k,h=>by simp at h
 | c::r,i,n,m,hc,s,k,h=>by
  rw[Bw]at hc
  split at hc
  ·cases hc
  ·split at hc
   ·cases hc
   ·rename_i m1 hm
    have h1:=Ko _ _ _ hm s
    have h2:=(H5 _ _ _ hm).1
    obtain⟨h3,_,_⟩:=Gc r _ _ hc
    have hlen:=EV r (i+1)
    rw[ownersF]
    have aT:n<=s->s<m1->((List.replicate c.slots.length ((i:Int)+3)++ownersF r (i+1))[(s-n).toNat]?).getD 0=(i:Int)+3:=fun a b=>by
     rw[List.getElem?_append_left (by rw[List.length_replicate];omega),List.getElem?_replicate,if_pos (by omega)];rfl
    have aE:m1<=s->((List.replicate c.slots.length ((i:Int)+3)++ownersF r (i+1))[(s-n).toNat]?).getD 0=((ownersF r (i+1))[(s-m1).toNat]?).getD 0:=fun a=>by
     rw[List.getElem?_append_right (by rw[List.length_replicate];omega),List.length_replicate,show(s-n).toNat-c.slots.length=(s-m1).toNat by omega]
    cases k with
    | zero =>
     simp only[List.getElem_cons_zero]
     rw[h1]
     constructor
     ·rintro⟨a,b⟩;exact⟨a,by omega,by rw[aT a b];simp⟩
     ·rintro⟨a,b,d⟩
      refine⟨a,Classical.byContradiction fun hn=>?_⟩
      rw[aE (by omega)]at d
      have hl:(s-m1).toNat<(ownersF r (i+1)).length:=by omega
      rw[List.getElem?_eq_getElem hl]at d
      have:=Kt r (i+1) _ (List.getElem_mem hl)
      simp at d;omega
    | succ k =>
     simp only[List.getElem_cons_succ]
     rw[MJ r (i+1) m1 m hc s k (by simpa using h)]
     constructor
     ·rintro⟨a,b,d⟩;exact⟨by omega,b,by rw[aE a,d];omega⟩
     ·rintro⟨a,b,d⟩
      by_cases hs:s<m1
      ·rw[aT a hs]at d;omega
      ·rw[aE (by omega)]at d;exact⟨by omega,b,by rw[d];omega⟩
theorem SD{x:Int}{l:List Int}:x∈ES l ↔ x∈l:=by unfold ES;exact List.mem_mergeSort
theorem Vh(g:List (List Int))(hg:Bq g=true)(i:Nat)(bs:List Bool)(hl:bs.length=3+g.length)(hi:i<g.length):(upD g (i+1) bs).getD (i+3) false=bs.getD (i+3) false:=by
 have hp:=(BB hg (i+3)).2
 rw[upD,Im g hg i _ (i+3) (by omega) (by rw[Dl];exact hl) (by omega),GV _ _ _ _ (fun x hx=>by have:=hp x hx;omega)]
 have:decide (((i+3:Nat):Int)∈parentsF g ((i+3:Nat):Int))=false:=by
  rw[decide_eq_false_iff_not];intro hx
  have:=hp _ hx;omega
 rw[this];simp
theorem VL{p:BProg}{N:Int}(hg:Bq (p.classes.map (·.parents))=true)(hc:Bw 0 p.classes=some N){i:Nat}(hi:i<p.classes.length)(s:Int):s∈hasP p ((i:Int)+3) ↔ (0<=s/\s<N)/\hasW (AR p) ((i:Int)+3) s=true:=by
 have am:(p.classes.map (·.parents)).length=p.classes.length:=List.length_map _
 have aY:((i:Int)+3-2).toNat=i+1:=by omega
 have aC:((i:Int)+3).toNat=i+3:=by omega
 have aN:((List.replicate (3+p.classes.length) false).set (i+3) true).length=3+p.classes.length:=by rw[List.length_set,List.length_replicate]
 have hb:∀k:Nat,((List.replicate (3+p.classes.length) false).set (i+3) true).getD k false=decide (i+3=k):=fun k=>by
  rw[LT]
  by_cases h:i+3=k
  ·rw[if_pos ⟨h,by rw[List.length_replicate];omega⟩,decide_eq_true h]
  ·rw[if_neg (fun hh=>h hh.1),decide_eq_false h,List.getD_eq_getElem?_getD,List.getElem?_replicate]
   split<;>rfl
 unfold hasP
 rw[SD,aY,LS hg (i+1) [(i:Int)+3] [] _ (by omega) aN (fun k _ _=>by
  rw[hb];simp only[List.mem_singleton,decide_eq_true_eq];omega)]
 have aX:upF (AR p).parents ((i:Int)+3)=upD (p.classes.map (·.parents)) (i+1) ((List.replicate (3+p.classes.length) false).set (i+3) true):=by
  unfold upF AR
  simp only[am,aC]
  rfl
 obtain⟨hN,_,_⟩:=Gc _ _ _ hc
 have bw:=EV p.classes 0
 have aq:=fun k (h:k<p.classes.length)=>MJ p.classes 0 0 N hc s k h
 simp only[Int.sub_zero]at aq
 have ae:=Vh _ hg i _ (by rw[aN,am]) (by rw[am];exact hi)
 rw[hb]at ae
 have bf:∀k:Nat,i<k->(upD (p.classes.map (·.parents)) (i+1) ((List.replicate (3+p.classes.length) false).set (i+3) true)).getD (k+3) false=false:=fun k hk=>by
  rw[Im _ hg (i+1) _ (k+3) (by omega) (by rw[aN,am]) (by rw[am];omega),hb]
  exact decide_eq_false (by omega)
 unfold hasW Ib
 rw[aX]
 simp only[List.not_mem_nil,false_or,Bool.and_eq_true,Bool.or_eq_true,decide_eq_true_eq]
 have aW:(AR p).owner=ownersF p.classes 0:=rfl
 rw[aW]
 constructor
 ·rintro⟨k,hk,h1,h2,h3⟩
  obtain⟨a,b,d⟩:=(aq k hk).1 h3
  refine⟨⟨a,b⟩,by omega,.inr ⟨by omega,?_⟩⟩
  rw[d,show(((0:Nat):Int)+k+3).toNat=k+3 by omega]
  exact h2
 ·rintro⟨⟨a,b⟩, -, h⟩
  have aS:s.toNat<(ownersF p.classes 0).length:=by omega
  have ba:=GC (List.getElem_mem aS)
  rw[List.getElem?_eq_getElem aS]at h aq
  simp only[Option.getD_some]at h aq
  obtain⟨o1,o2⟩:=ba
  generalize (ownersF p.classes 0)[s.toNat]=o at*
  have ag:o=((o-3).toNat:Int)+3:=by omega
  have aJ:(o-3).toNat<p.classes.length:=by omega
  refine⟨(o-3).toNat,aJ,?_⟩
  have aR:=(aq _ aJ).2 ⟨a,b,by omega⟩
  have bb:o.toNat=(o-3).toNat+3:=by omega
  rcases h with(h|h)|⟨-, h⟩
  ·have hk:(o-3).toNat=i:=by omega
   exact⟨by omega,by rw[hk,ae];simp,aR⟩
  ·omega
  ·rw[bb]at h
   refine⟨Nat.lt_of_not_le fun hh=>?_,h,aR⟩
   rw[bf _ (by omega)]at h
   cases h
theorem Po{w:World}{N c:Int}{has:List Int}(hh:∀s,s∈has ↔ (0<=s/\s<N)/\hasW w c s=true): ∀(l:List Init) (seen:List Init),DI has (seen.map (·.slot)) l=FH w N c seen l
 |[],_=>rfl
 | x::r,seen=>by
  rw[DI,FH,<-Po hh r (seen++[x]),List.map_append,List.map_singleton]
  have h1:decide (x.slot∈has)=(decide (0<=x.slot/\x.slot<N)&&hasW w c x.slot):=by
   rw[Bool.eq_iff_iff,decide_eq_true_eq,Bool.and_eq_true,decide_eq_true_eq,hh]
  have h2:(!decide (x.slot∈seen.map (·.slot)))=seen.all fun y=> !decide (y.slot=x.slot):=by
   rw[Bool.eq_iff_iff,List.all_eq_true]
   simp only[Bool.not_eq_true',decide_eq_false_iff_not,List.mem_map,not_exists,not_and]
  rw[h1,h2]
  unfold Fh
  generalize (decide (0<=x.slot/\x.slot<N)&&hasW w c x.slot)=a
  generalize (seen.all fun y=> !decide (y.slot=x.slot))=b
  cases a<;>cases b<;>cases inB x.n<;>rfl
theorem Jj{p:BProg}{N:Int}(hg:Bq (p.classes.map (·.parents))=true)(hc:Bw 0 p.classes=some N): ∀(l:List BClass) (i:Nat),i+l.length=p.classes.length->Bl p i l=DO (AR p) N i l
 |[],_,_=>rfl
 |c::r,i,hl=>by
  rw[List.length_cons]at hl
  rw[Bl,DO,Jj hg hc r (i+1) (by omega)]
  have h1:=VG hg (c:=(i:Int)+3) ⟨by omega,by rw[List.length_map];omega⟩
  have h2:=Po (VL hg hc (i:=i) (by omega)) c.inits []
  rw[List.map_nil]at h2
  rw[h1,h2]
  rfl
theorem Rt(p:BProg):Ar p=AG p:=by
 unfold Ar AG
 cases hg:Bq (p.classes.map (·.parents))with
 | true =>
  have h3:∀c∈p.classes,c.parents.length<=3:=fun c hc=>by
   obtain⟨k,hk,rfl⟩:=List.getElem_of_mem hc
   exact(Ps hg hk).1
  rw[Q6 p.classes 0 h3]
  cases hc:Bw 0 p.classes with
  |none=>rfl
  |some n=>simp only[Jj hg hc p.classes 0 (by omega)]
 |false =>
  congr 1
  cases Bw 0 p.classes<;>cases Fi 0 p.classes<;>simp
theorem VE(p:BProg):D0 p=Fl p:=VF p (Rt p)
theorem MB: ∀(l:List Int) (n m:Int),CB n l=some m->m=n+l.length
 |[],n,m,h=>by rw[CB]at h;cases h;simp
 | x::r,n,m,h=>by
  rw[CB]at h
  split at h
  ·have:=MB r (n+1) m h
   rw[List.length_cons];omega
  ·cases h
theorem JM: ∀(cs:List BClass) (n m:Int),Bw n cs=some m->m<=n+4*cs.length
 |[],n,m,h=>by rw[Bw]at h;cases h;simp
 | c::r,n,m,h=>by
  rw[Bw]at h
  split at h
  ·cases h
  ·rename_i h4
   cases hr:CB n c.slots with
   |none=>rw[hr]at h;cases h
   |some k =>
    rw[hr]at h
    have h1:=MB _ _ _ hr
    have h2:=JM r k m h
    rw[List.length_cons];omega
theorem Qq{p:BProg}(h:okP p=true):p.slots<=128/\p.nodes.length<=120/\p.classes.length<=10/\p.gens.length<=8:=by
 have hc:=GF h
 unfold okP D0 at h
 split at h
 ·rename_i hh
  simp only[Bool.and_eq_true,decide_eq_true_eq]at hh
  obtain⟨⟨_,⟨⟨h1,_⟩,_⟩,h2⟩,_⟩:=hh
  unfold Ar at hc
  rw[Bool.and_eq_true,decide_eq_true_eq]at hc
  obtain⟨c1,c2⟩:=hc
  split at c2
  ·cases c2
  ·rename_i N hN
   simp only[Bool.and_eq_true,decide_eq_true_eq]at c2
   have:=JM _ _ _ hN
   exact⟨by omega,h2,c1,h1⟩
 ·cases h
theorem Wi(p:BProg)(V:Sig)(hw:p.wt<=10000000):DCall prog 21 [.agg (Am p)] V (rS (.tup [.agg (B7 (DB p)),dI (DC p)]) V):=by
 have aa:WkD (.tup [.agg [.nils,.nils,dI 0,dI 0,.str [],.nils],dI (DC p)]) (.tup [.agg (B7 progFZ),dI (DC p)]):=by
  have e:B7 progFZ=[sl [],sl [],dI 0,dI 0,.str [],sl []]:=by simp[progFZ,FExp.op,FExp.n,FExp.text,FExp.kids]
  rw[e]
  exact Gs (show WkL _ _ from⟨E3 (show WkL _ _ from⟨Al _ (.inl rfl),Al _ (.inl rfl),A8 _,A8 _,A8 _,Al _ (.inl rfl),trivial⟩),A8 _,trivial⟩)
 have bm:(Fl p).isSome=okP p:=by rw[<-VE p];rfl
 have bD:∀V:Sig,Ans 28 [.agg (Am p)] V True (.bool (okP p)):=fun V=>ah0 (by rw[<-bm];exact Wh p V (by omega))
 cases ag:okP p with
 |false =>
  have hE:DC p=2:=by unfold DC;rw[ag];rfl
  have hP:DB p=progFZ:=by unfold DB;rw[hE];rfl
  rw[hP]
  rw[hE]at aa⊢
  refine en func21 ntmps21 ?_
  refine gz ?_ [] [2]
  refine newV (fun i2 aM=>?_)
  refine gf ag ?_ [] [2]
  refine finC (S':=V) ⟨rfl,rfl⟩ (hw:=?_)
  exact aa
 | true =>
  have ax:=sp_ok (p:=p) (by omega) ag
  have bu:=LA ag
  obtain⟨b1,b2,b3,b4⟩:=Qq ag
  have i57:∀V:Sig,Ans 57 [.agg (Am p)] V True (.agg (B7 (Dm p))):=fun V=>ah0 (W7 p V ax b1 b2 (by omega) (by omega))
  have i52:∀V:Sig,Ans 52 [.agg (B7 (Dm p))] V True (.bool (BG (Dm p)).isSome):=fun V=>ah0 (by rw[<-prog_eq];exact T8 (Dm p) V (by omega))
  cases hs:(BG (Dm p)).isSome with
  |false =>
   have hE:DC p=3:=by unfold DC;rw[ag,hs];rfl
   have hP:DB p=progFZ:=by unfold DB;rw[hE];rfl
   rw[hP]
   rw[hE]at aa⊢
   refine en func21 ntmps21 ?_
   refine gz ?_ [] [2]
   refine newV (fun i2 aM=>?_)
   refine gf (gi ag hs) ?_ [] [2]
   refine finC (S':=V) ⟨rfl,rfl⟩ (hw:=?_)
   exact aa
  |true =>
   have hE:DC p=0:=by unfold DC;rw[ag,hs];rfl
   have hP:DB p=Dm p:=by unfold DB;rw[hE];rfl
   rw[hP,hE]
   refine en func21 ntmps21 ?_
   refine gz ?_ [] [2]
   refine newV (fun i2 aM=>?_)
   refine gf (gi ag hs) ?_ [] [2]
   exact finC (S':=V) ⟨rfl,rfl⟩
theorem T6(p:BProg)(V:Sig)(hw:p.wt<=10000000):DCall prog 5 [.agg (Am p)] V (rS (.bool true) V):=by
 have hb:(DB p).wt<=1073741824:=by
  unfold DB
  split
  ·rename_i hE
   have ag:okP p=true:=by
    cases h:okP p with
    |true=>rfl
    |false=>unfold DC at hE;rw[h]at hE;cases hE
   have:=LA ag
   omega
  ·have:progFZ.wt=2:=by decide
   omega
 have i20:∀V:Sig,Ans 20 [.agg (Am p)] V True (.tup [.agg (B7 (DB p)),dI (DC p)]):=fun V=>ah0 (M4 p V hw)
 have i21:∀V:Sig,Ans 21 [.agg (Am p)] V True (.tup [.agg (B7 (DB p)),dI (DC p)]):=fun V=>ah0 (Wi p V hw)
 have i22:∀V:Sig,Ans 22 [.agg (B7 (DB p)),.agg (B7 (DB p))] V True (.bool true):=fun V=>ah0 (TE (DB p) V hb)
 have bH:=fun (V:Sig)=>PK V
 generalize DB p=q at*
 generalize DC p=e at*
 refine en func5 ntmps5 ?_
 refine gz ?_
 exact fin1 (S':=V) ⟨rfl,rfl⟩
@[reducible,instance] def a5:=fun p V=>ah1 (@T6 p V)
end Go.DL
namespace Go.DL
open Go.Proofs.Tryz
open Go Go.Proofs
open Go.Proofs.YtlfimpogphmbdaaGreat.Rows (uptoBulk uptoBulkAll)
def g0(W:Go.World):G:={ imm:=fun b o=>W.cell? ⟨b,o,none⟩,rho:=fun _=>none,hist:=fun _ _=>none,keep:=fun k=>W.heap[k]?, io:=(W.os,W.output) }
theorem sim0(P:Program)(W:Go.World):Sim P (g0 W) (fun _=>none) W where
 imm:=fun _ _ _ h=>h
 keep:=fun _ _ h=>h
 obj:=fun _ _ h=>by cases h
 inj:=fun _ _ _ h=>by cases h
 free:=fun _ _ h=>by cases h
 htop:=fun _ _ _ _ h=>by cases h
 hdom:=fun _ _ _ h=>by cases h
 fin:=⟨0,fun _ _=>rfl⟩
 io:=rfl
theorem JO{α:Type}{p:Nat->α->Prop}: ∀n,(∀i,i<n->∃a,p i a)->∃l:List α,l.length=n /\ ∀i a,l[i]? = some a->p i a
 |0,_=>⟨[],rfl,fun i a h=>by simp at h⟩
 | n+1,h=>by
  obtain⟨l,hl,hp⟩:=JO n fun i hi=>h i (by omega)
  obtain⟨a,ha⟩:=h n (by omega)
  refine⟨l++[a],by simp[hl],fun i b hb=>?_⟩
  by_cases hi:i<n
  ·rw[List.getElem?_append_left (by omega)]at hb;exact hp i b hb
  ·rw[List.getElem?_append_right (by omega)]at hb
   have h0:i-l.length=0:=by
    rcases Nat.eq_zero_or_pos (i-l.length)with h|h
    ·exact h
    ·rw[List.getElem?_eq_none (by simp;omega)]at hb;cases hb
   rw[h0]at hb
   simp at hb
   rw[show i=n by omega,<-hb];exact ha
theorem RR{g:G}{b:Nat}: ∀{ds:List D}{vs:List Value}{o:Nat},RepL g ds vs->(∀j v,vs[j]? = some v->g.imm b (o+j)=some v)->RepI g b o ds
 |[],_,_,_,_=>trivial
 |d::ds,_,o,⟨v,r,e,h1,h2⟩,hi=>by
  subst e
  exact⟨⟨v,hi 0 v rfl,h1⟩,RR h2 fun j x hx=>by rw[Nat.add_assoc,Nat.add_comm 1 j];exact hi (j+1) x hx⟩
theorem RS{g:G}{b sz:Nat}: ∀{l:List (List D)}{o:Nat},(∀i e,l[i]? = some e->e.length=sz/\RepI g b (o+i*sz) e)->RepE g b sz o l
 |[],_,_=>trivial
 |e::l,o,h=>⟨by simpa using h 0 e rfl,RS fun i x hx=>by
  have:=h (i+1) x hx
  rw[Nat.add_mul,Nat.one_mul,Nat.add_comm (i*sz),<-Nat.add_assoc]at this;exact this⟩
theorem WF{α H:Type}{wt:α->Nat}: ∀{l:List α}{xs:List (DataW H)},l.length=xs.length->(∀(i:Nat) a x,l[i]? = some a->xs[i]? = some x->wt a<=uptoBulk x)->wtL wt l<=uptoBulkAll xs
 |[],[],_,_=>Nat.zero_le _
 |a::l,x::xs,h,hp=>by
  have h1:=hp 0 a x rfl rfl
  have h2:=WF (l:=l) (xs:=xs) (by simpa using h) fun i b y hb hy=>hp (i+1) b y hb hy
  simp only[wtL,uptoBulkAll];omega
section
variable {H:Type}{enc:TypeId×Value->H}{W:Go.World}
noncomputable abbrev rd(enc:TypeId×Value->H)(W:Go.World)(n t:Nat)(cs:List Value):Option (DataW H×List MemPlace):=DataW.trod enc prog W 0 (fun _=>true) true n t cs
def Dec(enc:TypeId×Value->H)(W:Go.World){α:Type}(n t:Nat)(c:α->List D)(wt:α->Nat):Prop:= ∀cs x,rd enc W n t cs=some x->∃a,RepL (g0 W) (c a) cs/\wt a<=uptoBulk x.1
theorem D4{t n:Nat}(ht:prog.underlying t=some (.int .i64)):Dec enc W n t (fun k:Int=>[dI k]) (fun _=>1):=fun cs x h=>by
 obtain⟨k,rfl,rfl,_⟩:=DataW.trod_int ht h
 exact⟨k,⟨_,[],rfl,rfl,rfl⟩,by simp[uptoBulk]⟩
theorem EI{α:Type}{t e sz n:Nat}{c:α->List D}{wt:α->Nat}(ht:prog.underlying t=some (.slice e))(hz:prog.cellsOf e=sz)(aZ:0<sz)(hc:∀a,(c a).length=sz)(hd:∀m,m<n->Dec enc W m e c wt):
  Dec enc W n t (fun l:List α=>[sl (l.map c)]) (fun l=>1+wtL wt l):=fun cs x h=>by
 rcases DataW.trod_slice ht h with⟨rfl,rfl⟩|⟨a,len,cap,elems,rest,m,rfl,rfl,rfl,hb,hl,hm,hlen,bj, -, -⟩
 ·exact⟨[],⟨_,[],rfl,⟨Option.none,0,rfl,by simp,.inl rfl,trivial⟩,rfl⟩,by simp[uptoBulk,wtL]⟩
 ·have key:∀i,i<len->∃b:α, ∃y vs,elems[i]? = some y/\W.cells? 0 (a.add (i*sz)) sz=some vs/\RepL (g0 W) (c b) vs/\wt b<=uptoBulk y.1:=fun i hi=>by
   have h1:=bj i hi
   rw[hz,List.getElem?_eq_getElem (by omega)]at h1
   obtain⟨vs,h2,h3⟩:=Option.bind_eq_some_iff.1 h1
   obtain⟨b,h4,h5⟩:=hd m (by omega) vs _ h3
   exact⟨b,_,vs,List.getElem?_eq_getElem (by omega),h2,h4,h5⟩
  obtain⟨l,aH,hp⟩:=JO len key
  refine⟨l,⟨_,[],rfl,⟨some a,cap,by simp[aH],by simpa[aH] using hl,?_,trivial⟩,rfl⟩,?_⟩
  ·cases aF:l with
   |nil=>exact .inl rfl
   | cons b0 l' =>
    rw[<-aF]
    have bA:0<len:=by rw[<-aH,aF];simp
    obtain⟨y,vs,k1,k2,k3,k4⟩:=hp 0 b0 (by rw[aF];rfl)
    obtain⟨_,k5,k6⟩:=World.cells?_some k2
    have ax:a.spot=none:=by
     have:=k6 0 (by omega)
     cases hs:a.spot with
     |none=>rfl
     |some q=>simp[World.cell?, Addr.add,hs]at this;split at this<;>simp_all
    obtain⟨ab,ao,asp⟩:=a
    simp only at ax
    subst ax
    refine .inr ⟨sz,ab,ao,rfl,RS fun i e he=>?_⟩
    rw[List.getElem?_map]at he
    obtain⟨b,aO,rfl⟩:=Option.map_eq_some_iff.1 he
    obtain⟨y,vs,k1,k2,k3,k4⟩:=hp i b aO
    obtain⟨_,k5,k6⟩:=World.cells?_some k2
    refine⟨hc b,RR k3 fun j v hv=>?_⟩
    have hj:j<sz:=by rw[<-k5];exact(List.getElem?_eq_some_iff.1 hv).1
    have:=k6 j hj
    rw[hv,C5,C5]at this
    exact this
  ·have:=WF (wt:=wt) (l:=l) (xs:=elems.map (·.1)) (by simp;omega) fun i b z aO aB=>by
    obtain⟨y,vs,k1,k2,k3,k4⟩:=hp i b aO
    rw[List.getElem?_map,k1]at aB
    simp at aB;subst aB;exact k4
   simp only[uptoBulk];omega
set_option maxRecDepth 100000
theorem Ey{t n:Nat}{fs:Array Field}(ht:prog.underlying t=some (.struct fs)){cs:List Value}{x:DataW H×List MemPlace}(h:rd enc W n t cs=some x):
  ∃(xs:List (DataW H×List MemPlace)) (m:Nat),m<n/\uptoBulk x.1=uptoBulkAll (xs.map (·.1))+1/\cs.length=prog.cellsOf t/\xs.length=fs.size /\
   ∀(i:Nat) (f:Field),fs[i]? = some f->rd enc W m f.type ((cs.drop f.offset).take (prog.cellsOf f.type))=xs[i]? :=by
 obtain⟨xs,m,rfl,rfl,h1,h2,h3⟩:=DataW.trod_struct ht h
 exact⟨xs,m,by omega,by simp[uptoBulk],h1,h2,h3⟩
theorem cellsI:prog.cellsOf 3=1:=by kernel_rfl
theorem Hv(n:Nat):Dec enc W n 23 (fun l:List Int=>[sl (cI l)]) (fun l=>1+wtL (fun _=>1) l):=EI underlying23 cellsI (by omega) (fun _=>rfl) fun _ _=>D4 underlying3
theorem Mi{α:Type}: ∀l:List α,wtL (fun _=>1) l=l.length
 |[]=>rfl
 |x::l=>by rw[wtL,Mi l,List.length_cons];omega
theorem DN{m t off k:Nat}{cs cs':List Value}{o:Option (DataW H×List MemPlace)}(h:rd enc W m t ((cs.drop off).take (prog.cellsOf t))=o)(hk:prog.cellsOf t=k)(hc:(cs.drop off).take k=cs'):rd enc W m t cs'=o:=by rw[<-hc,<-hk];exact h
theorem Ww(n:Nat):Dec enc W n 63 F8 (fun _=>1):=fun cs x h=>by
 obtain⟨xs,m,hm,hb,hl,hx,hf⟩:=Ey underlying63 h
 rw[show prog.cellsOf 63=2 by kernel_rfl]at hl
 match cs,hl with
 | [v0,v1],_ =>
  match xs,hx with
  |[x0,x1],_ =>
   obtain⟨a0,r0,w0⟩:=D4 underlying3 [v0] x0 (DN (hf 0 _ rfl) cellsI rfl)
   obtain⟨a1,r1,w1⟩:=D4 underlying3 [v1] x1 (DN (hf 1 _ rfl) cellsI rfl)
   refine⟨⟨a0,a1⟩,r0.append r1,?_⟩
   rw[hb];simp only[uptoBulkAll,List.map_cons,List.map_nil];omega
theorem UW(n:Nat):Dec enc W n 51 (fun l:List Init=>[sl (l.map F8)]) (fun l=>1+wtL (fun _=>1) l):=EI underlying51 (by kernel_rfl:prog.cellsOf 63=2) (by omega) (fun _=>rfl) fun _ _=>Ww _
theorem Rr(n:Nat):Dec enc W n 101 Ae BClass.wt:=fun cs x h=>by
 obtain⟨xs,m,hm,hb,hl,hx,hf⟩:=Ey underlying101 h
 rw[show prog.cellsOf 101=3 by kernel_rfl]at hl
 match cs,hl with
 | [v0,v1,v2],_ =>
  match xs,hx with
  |[x0,x1,x2],_ =>
   obtain⟨a0,r0,w0⟩:=Hv _ [v0] x0 (DN (hf 0 _ rfl) (show prog.cellsOf 23=1 by kernel_rfl) rfl)
   obtain⟨a1,r1,w1⟩:=Hv _ [v1] x1 (DN (hf 1 _ rfl) (show prog.cellsOf 23=1 by kernel_rfl) rfl)
   obtain⟨a2,r2,w2⟩:=UW _ [v2] x2 (DN (hf 2 _ rfl) (show prog.cellsOf 51=1 by kernel_rfl) rfl)
   refine⟨⟨a0,a1,a2⟩,r0.append (r1.append r2),?_⟩
   rw[hb];clear hf hx hl;simp only[Mi]at*; simp only[BClass.wt,uptoBulkAll,List.map_cons,List.map_nil];omega
theorem UY(n:Nat):Dec enc W n 104 Ai BNode.wt:=fun cs x h=>by
 obtain⟨xs,m,hm,hb,hl,hx,hf⟩:=Ey underlying104 h
 rw[show prog.cellsOf 104=3 by kernel_rfl]at hl
 match cs,hl with
 | [v0,v1,v2],_ =>
  match xs,hx with
  |[x0,x1,x2],_ =>
   obtain⟨a0,r0,w0⟩:=D4 underlying37 [v0] x0 (DN (hf 0 _ rfl) (show prog.cellsOf 37=1 by kernel_rfl) rfl)
   obtain⟨a1,r1,w1⟩:=D4 underlying3 [v1] x1 (DN (hf 1 _ rfl) cellsI rfl)
   obtain⟨a2,r2,w2⟩:=Hv _ [v2] x2 (DN (hf 2 _ rfl) (show prog.cellsOf 23=1 by kernel_rfl) rfl)
   refine⟨⟨a0,a1,a2⟩,r0.append (r1.append r2),?_⟩
   rw[hb];clear hf hx hl;simp only[Mi]at*; simp only[BNode.wt,uptoBulkAll,List.map_cons,List.map_nil];omega
theorem Wx: ∀n:Nat,Dec enc W n 96 Bp Fact.wt:=fun n=>by
 induction n using Nat.strongRecOn with
 |ind n ih=>
 intro cs x h
 obtain⟨xs,m,hm,hb,hl,hx,hf⟩:=Ey underlying96 h
 rw[show prog.cellsOf 96=6 by kernel_rfl]at hl
 match cs,hl with
 | [v0,v1,v2,v3,v4,v5],_ =>
  match xs,hx with
  |[x0,x1,x2,x3,x4,x5],_ =>
   obtain⟨a0,r0,w0⟩:=D4 underlying85 [v0] x0 (DN (hf 0 _ rfl) (show prog.cellsOf 85=1 by kernel_rfl) rfl)
   obtain⟨a1,r1,w1⟩:=D4 underlying3 [v1] x1 (DN (hf 1 _ rfl) cellsI rfl)
   obtain⟨a2,r2,w2⟩:=Hv _ [v2] x2 (DN (hf 2 _ rfl) (show prog.cellsOf 23=1 by kernel_rfl) rfl)
   obtain⟨a3,r3,w3⟩:=D4 underlying3 [v3] x3 (DN (hf 3 _ rfl) cellsI rfl)
   obtain⟨a4,r4,w4⟩:=D4 underlying3 [v4] x4 (DN (hf 4 _ rfl) cellsI rfl)
   obtain⟨a5,r5,w5⟩:=(EI (c:=Bp) (wt:=Fact.wt) (t:=94) (e:=96) (n:=m) underlying94 (by kernel_rfl:prog.cellsOf 96=6) (by omega) (fun f=>by cases f;rfl) fun k hk=>ih k (by omega)) [v5] x5 (DN (hf 5 _ rfl) (show prog.cellsOf 94=1 by kernel_rfl) rfl)
   refine⟨.mk a0 a1 a2 a3 a4 a5,by rw[DR];exact r0.append (r1.append (r2.append (r3.append (r4.append r5)))),?_⟩
   rw[hb];clear hf hx hl;simp only[Mi]at*; rw[Fact.wt_eq];simp only[Fact.path,Fact.kids,uptoBulkAll,List.map_cons,List.map_nil];omega
theorem UZ(n:Nat):Dec enc W n 98 Aq BMeth.wt:=fun cs x h=>by
 obtain⟨xs,m,hm,hb,hl,hx,hf⟩:=Ey underlying98 h
 rw[show prog.cellsOf 98=9 by kernel_rfl]at hl
 match cs,hl with
 | [v0,v1,v2,v3,v4,v5,v6,v7,v8],_ =>
  match xs,hx with
  |[x0,x1,x2,x3],_ =>
   obtain⟨a0,r0,w0⟩:=D4 underlying84 [v0] x0 (DN (hf 0 _ rfl) (show prog.cellsOf 84=1 by kernel_rfl) rfl)
   obtain⟨a1,r1,w1⟩:=D4 underlying3 [v1] x1 (DN (hf 1 _ rfl) cellsI rfl)
   obtain⟨a2,r2,w2⟩:=Wx _ [v2,v3,v4,v5,v6,v7] x2 (DN (hf 2 _ rfl) (show prog.cellsOf 96=6 by kernel_rfl) rfl)
   obtain⟨a3,r3,w3⟩:=D4 underlying3 [v8] x3 (DN (hf 3 _ rfl) cellsI rfl)
   refine⟨⟨a0,a1,a2,a3⟩,(r0.append r1).append r2 |>.append r3,?_⟩
   rw[hb];simp only[BMeth.wt,uptoBulkAll,List.map_cons,List.map_nil];omega
theorem SJ(m:BMeth):(Aq m).length=9:=by simp[Aq]
theorem UX(n:Nat):Dec enc W n 27 Am BProg.wt:=fun cs x h=>by
 obtain⟨xs,m,hm,hb,hl,hx,hf⟩:=Ey underlying27 h
 rw[show prog.cellsOf 27=6 by kernel_rfl]at hl
 match cs,hl with
 | [v0,v1,v2,v3,v4,v5],_ =>
  match xs,hx with
  |[x0,x1,x2,x3,x4,x5],_ =>
   obtain⟨a0,r0,w0⟩:=EI underlying22 (by kernel_rfl:prog.cellsOf 101=3) (by omega) (fun _=>rfl) (fun _ _=>Rr _) [v0] x0 (DN (hf 0 _ rfl) (show prog.cellsOf 22=1 by kernel_rfl) rfl)
   obtain⟨a1,r1,w1⟩:=D4 underlying3 [v1] x1 (DN (hf 1 _ rfl) cellsI rfl)
   obtain⟨a2,r2,w2⟩:=Hv _ [v2] x2 (DN (hf 2 _ rfl) (show prog.cellsOf 23=1 by kernel_rfl) rfl)
   obtain⟨a3,r3,w3⟩:=EI underlying24 (by kernel_rfl:prog.cellsOf 98=9) (by omega) SJ (fun _ _=>UZ _) [v3] x3 (DN (hf 3 _ rfl) (show prog.cellsOf 24=1 by kernel_rfl) rfl)
   obtain⟨a4,r4,w4⟩:=EI underlying25 (by kernel_rfl:prog.cellsOf 104=3) (by omega) (fun _=>rfl) (fun _ _=>UY _) [v4] x4 (DN (hf 4 _ rfl) (show prog.cellsOf 25=1 by kernel_rfl) rfl)
   obtain⟨a5,r5,w5⟩:=D4 underlying3 [v5] x5 (DN (hf 5 _ rfl) cellsI rfl)
   refine⟨⟨a0,a1,a2,a3,a4,a5⟩,r0.append (r1.append (r2.append (r3.append (r4.append r5)))),?_⟩
   rw[hb];clear hf hx hl;simp only[Mi]at*; simp only[BProg.wt,uptoBulkAll,List.map_cons,List.map_nil];omega
end
end Go.DL
