/- Part of a proof in texts M01 on: a layer of pure values over the fenced walk, the walks of the functions, the plain laws. -/
import Derived.Test.YtlfimpogphmbdaaGreatM28
import Derived.Test.YtlfimpogphmbdaaGreatM26
import Derived.Test.YtlfimpogphmbdaaGreatM27
import Derived.Test.YtlfimpogphmbdaaGreatM11
import Derived.Test.YtlfimpogphmbdaaGreatRows
import Derived.WideKeyArgs
import Derived.ChangeSame
import Derived.OpenShut
import Derived.JoinedCond
import Derived.WalkKit
import Derived.ProofKit
set_option linter.all false
namespace Go.DL
open Go.Proofs.Tryz
open Go Go.Proofs
set_option maxHeartbeats 8000000
def II (g:List (List Int)):Nat->Nat->Bool
 | _,0=>true
 | i,n+1=>decide (linE g ((i:Int)+3)=0) && II g (i+1) n
def graphB (p:BProg):List (List Int):=p.classes.map (·.parents)
def Hw (f:FProg):Int :=
 if (BE f).isSome=true then (if II (graphB (AU f)) 0 (graphB (AU f)).length=true then (if (AU f).methods.all (fun m=>decide (m.fact.size<=24))=true then 0 else 3) else 7) else 2
def Pn:BProg:=⟨[],0,[],[],[],0⟩
def Ji (f:FProg):BProg:=if Hw f=0 then AU f else Pn
mutual
theorem N7 (cm sm:List (Str × Int)) (env:Str->Int) : ∀ x:FFact,(bndF cm sm env x).size<=x.wt
 | .mk o s p c n k=>by
  have hw:(FFact.mk o s p c n k).wt=1+s.length+wtS p+c.length+wtL FFact.wt k:=FFact.wt_eq _
  have:=KB cm sm env k
  rw [bndF,Fact.size];omega
theorem KB (cm sm:List (Str × Int)) (env:Str->Int) : ∀ l:List FFact,Fact.sizes (N6 cm sm env l)<=wtL FFact.wt l
 | []=>by rw [N6,Fact.sizes,wtL];omega
 | x::r=>by
  have h1:=N7 cm sm env x
  have h2:=KB cm sm env r
  rw [N6,Fact.sizes,wtL];omega
end
theorem N4 (cm sm gm:List (Str × Int)) : ∀ (l:List FMeth) (k:Nat),(bndMM cm sm gm l k).length=l.length
 | [],_=>rfl
 | m::r,k=>by rw [bndMM,List.length_cons,N4 cm sm gm r,List.length_cons]
theorem KA (cm sm gm:List (Str × Int)) : ∀ (l:List FMeth) (k:Nat), ∀ x ∈ bndMM cm sm gm l k,x.fact.size<=wtL FMeth.wt l
 | [],_,x,hx=>by simp [bndMM] at hx
 | m::r,k,x,hx=>by
  rw [bndMM] at hx
  rw [wtL]
  rcases List.mem_cons.1 hx with rfl | hx
  ·have:=N7 cm sm (HN m) m.fact
   unfold FMeth.wt;simp only;omega
  ·have:=KA cm sm gm r _ x hx;omega
theorem Lj (f:FProg) (σ:Sig) (hw:f.wt<=10000000):DCall prog 17 [.agg (Da f)] σ fun x σ'=>x = .ret (.tup [.agg (Af (Ji f)),dI (Hw f)])/\σ'=σ:=by
 obtain ⟨p1,p2,p3,p4,p5⟩:=f.wt_le
 have hzero:WkD (.tup [.agg [.nils,dI 0, .nils, .nils, .nils,dI 0],dI (Hw f)]) (.tup [.agg (Af Pn),dI (Hw f)]) :=
  H4 (show WkL _ _ from ⟨F1 (show WkL _ (Af Pn) from ⟨At _ (.inl rfl),A9 _,At _ (.inl rfl),At _ (.inl rfl),At _ (.inl rfl),A9 _,trivial⟩),A9 _,trivial⟩)
 refine en func17 ntmps17 ?_
 try refine gz ?_ [] [2]
 refine newV (fun i2 hi2 => ?_)
 cases hs:(BE f).isSome with
 | false =>
  have hE:Hw f=2:=by unfold Hw;rw [hs];rfl
  have hP:Ji f=Pn:=by unfold Ji;rw [hE];rfl
  rw [hP]
  rw [hE] at hzero ⊢
  try refine gf hs ?_ [] [2]
  refine finC (σ':=σ) ⟨rfl,rfl⟩ (hw := ?_)
  exact hzero
 | true =>
  have hE0:Hw f=if II (graphB (AU f)) 0 (graphB (AU f)).length=true then (if (AU f).methods.all (fun m=>decide (m.fact.size<=24))=true then 0 else 3) else 7:=by unfold Hw;rw [hs];rfl
  have hcls:(AU f).classes=f.classes.map (NX (Ch f) (C3 f)):=rfl
  have hcl:(AU f).classes.length<=10000000:=by rw [hcls,List.length_map];omega
  have hcp : ∀ c ∈ (AU f).classes,c.parents.length<=1073741824:=fun c hc=>by
   rw [hcls] at hc
   obtain ⟨d,hd,rfl⟩:=List.mem_map.1 hc
   obtain ⟨k,hk,rfl⟩:=List.getElem_of_mem hd
   have:=p4 k hk
   obtain ⟨_,y2,_⟩:=(f.classes[k]).wt_le
   have:=CL (f.classes[k]).parents
   unfold NX;simp only [List.length_map];omega
  have hml:(AU f).methods.length<=10000000:=by show (bndMM _ _ _ _ _).length<=_;rw [N4];omega
  have hms : ∀ x ∈ (AU f).methods,x.fact.size<=1073741824:=fun x hx=>by have:=KA _ _ _ _ _ x hx;unfold FProg.wt at hw;omega
  have hgl:(graphB (AU f)).length<=10000000:=by unfold graphB;rw [List.length_map];exact hcl
  have hgp : ∀ x ∈ graphB (AU f),x.length<=1073741824:=fun x hx=>by obtain ⟨c,hc,rfl⟩:=List.mem_map.1 hx;exact hcp c hc
  have hgr:(AU f).classes.map (·.parents)=graphB (AU f):=rfl
  have hgc:(AU f).classes.length=(graphB (AU f)).length:=by unfold graphB;rw [List.length_map]
  try refine gf (gi hs (gi hgr hgc)) ?_ [] [2]
  refine Bh [2,4,5,10,20,35,36,37,38,39,40,41,42,43,44,45,46,47,48] (fun (k:Nat)=>k<=(graphB (AU f)).length/\II (graphB (AU f)) 0 (graphB (AU f)).length=II (graphB (AU f)) k ((graphB (AU f)).length-k)) (fun k=>[(21,dI k)]) (fun _=>σ.set i2 (.cells [.nils,dI 0, .nils, .nils, .nils,dI 0])) (fun k=>(graphB (AU f)).length-k) (0) (by simp) (fun k hI => ?_)
  obtain ⟨hk,hL⟩:=hI
  by_cases hkl:k < (graphB (AU f)).length
  ·rw [show (graphB (AU f)).length-k=((graphB (AU f)).length-(k+1))+1 by omega,II] at hL
   by_cases h0:linE (graphB (AU f)) ((k:Int)+3)=0
   ·rw [decide_eq_true h0,Bool.true_and] at hL
    try refine gf h0 ?_ [] [2]
    exact ⟨k+1,⟨by omega,hL⟩,td1,wkR⟩
   ·rw [decide_eq_false h0,Bool.false_and] at hL
    have hE:Hw f=7:=by rw [hE0,hL];rfl
    have hP:Ji f=Pn:=by unfold Ji;rw [hE];rfl
    rw [hP]
    rw [hE] at hzero ⊢
    try refine gf h0 ?_ [] [2]
    refine finC (σ':=σ) ⟨rfl,rfl⟩ (hw := ?_)
    exact hzero
  ·have hke:k=(graphB (AU f)).length:=by omega
   rw [hke,Nat.sub_self,II] at hL
   rw [if_pos hL] at hE0
   try refine gz ?_ [] [2]
   refine Bh [2,4,36,37,48] (fun (j:Nat)=>j<=(AU f).methods.length/\(AU f).methods.all (fun m=>decide (m.fact.size<=24))=((AU f).methods.drop j).all (fun m=>decide (m.fact.size<=24))) (fun j=>[(38,dI j)]) (fun _=>σ.set i2 (.cells [.nils,dI 0, .nils, .nils, .nils,dI 0])) (fun j=>(AU f).methods.length-j) (0) (by simp) (fun j hI => ?_)
   obtain ⟨hj,hA⟩:=hI
   by_cases hjl:j < (AU f).methods.length
   ·rw [A2 hjl,List.all_cons] at hA
    have hmj:=hms _ (List.getElem_mem hjl)
    by_cases h24:((AU f).methods[j]).fact.size<=24
    ·rw [decide_eq_true h24,Bool.true_and] at hA
     try refine gz ?_ [] [2]
     exact ⟨j+1,⟨by omega,hA⟩,td1,wkR⟩
    ·rw [decide_eq_false h24,Bool.false_and] at hA
     have hE:Hw f=3:=by rw [hE0,if_neg (by rw [hA];simp)]
     have hP:Ji f=Pn:=by unfold Ji;rw [hE];rfl
     rw [hP]
     rw [hE] at hzero ⊢
     try refine gz ?_ [] [2]
     refine finC (σ':=σ) ⟨rfl,rfl⟩ (hw := ?_)
     exact hzero
   ·rw [A1 hjl] at hA
    have hE:Hw f=0:=by rw [hE0,if_pos (by rw [hA];rfl)]
    have hP:Ji f=AU f:=by unfold Ji;rw [hE];rfl
    rw [hP,hE]
    try refine gz ?_ [] [2]
    exact finC (σ':=σ) ⟨rfl,rfl⟩
@[reducible,instance] def a17:=fun f σ=>ah1 (@Lj f σ)
theorem JX {l m:List Int} (h : ∀ x,x ∈ l ↔ x ∈ m) : ∀ (a:List Init) (seen:List Int),Cy l seen a=Cy m seen a
 | [],_=>rfl
 | x::r,seen=>by rw [Cy,Cy,JX h r,decide_eq_decide.2 (h x.slot)]
def IM (p:BProg):Nat->List BClass->Bool
 | _,[]=>true
 | i,c::r=>decide (linE (p.classes.map (·.parents)) ((i:Int)+3)=0) && Cy (hasG p.classes (((i:Int)+3)-2).toNat [((i:Int)+3)] []) [] c.inits && IM p (i+1) r
theorem HF (p:BProg) : ∀ (l:List BClass) (i:Nat),AH p i l=IM p i l
 | [],_=>rfl
 | c::r,i=>by
  rw [AH,IM,HF p r]
  congr 2
  exact JX (fun x=>by unfold hasP Eu;exact List.mem_mergeSort) _ _
theorem Ue:AH exB 0 exB.classes=true:=by rw [HF];decide +kernel
theorem Q2:Ag exB=true:=by
 unfold Ag
 have h1:B0 0 exB.classes=some 2:=by decide +kernel
 have h2:AT (exB.classes.map (·.parents))=true:=by decide +kernel
 have h3:decide (exB.classes.length<=10)=true:=by decide +kernel
 have h4:decide ((2:Int)=exB.slots)=true:=by decide +kernel
 rw [h1,h3]
 simp only [h2,h4,Ue,Bool.and_self,Bool.and_true]
theorem NM:BP exB=some [1,1,1,1,1,2,0,0]:=by
 unfold BP
 rw [Q2]
 decide +kernel
theorem ex_ok:okP exB=true:=by unfold okP;rw [NM];rfl
theorem Ll:HO exB=0:=by
 unfold HO
 rw [ex_ok]
 decide +kernel
theorem OW:Hw (exA [[98],[97]])=0:=by decide +kernel
theorem OV:Hw (exA [[97],[98]])=7:=by decide +kernel
theorem SG:Pj (Ji (exA [[98],[97]])) exB=true:=by decide +kernel
theorem UB:Eu [1,0]=[0,1]:=by simp [Eu,List.mergeSort,List.MergeSort.Internal.splitInTwo,List.merge]
theorem NN:hasP exB 5=[0,1]:=by
 unfold hasP
 rw [show hasG exB.classes ((5:Int)-2).toNat [5] []=[1,0] by decide +kernel,UB]
theorem ex_has4:hasP exB 4=[0,1]:=by
 unfold hasP
 rw [show hasG exB.classes ((4:Int)-2).toNat [4] []=[1,0] by decide +kernel,UB]
theorem ME:beginP exB 5=[⟨0,1⟩]:=by unfold beginP;rw [NN];decide +kernel
theorem MF:beginP exB 4=[⟨0,7⟩]:=by unfold beginP;rw [ex_has4];decide +kernel
theorem SH:ownF exB 5=true:=by decide +kernel
theorem SI:ownF exB 4=true:=by decide +kernel
theorem OU:(Aj exB).owner=[3,4]:=by decide +kernel
theorem ex_form:Jt exB=⟨(spCs exB),exB.methods.map (spM exB),(Gn exB).main⟩:=by unfold Jt;rw [Ll];rfl
theorem Uf : ∃ c0 c1 c2 m0 m1 mn,Jt exB=⟨[c0,c1,c2],[m0,m1],mn⟩/\c2.name=[99]/\m0.name=[97]:=by
 have hc:(spCs exB).map (·.name)=[[97],[98],[99]]:=by decide +kernel
 have hm:(spM exB ⟨1,0, .mk 2 0 [] 3 0 [],0⟩).name=[97]:=by decide +kernel
 rw [ex_form]
 rcases hs:spCs exB with _ | ⟨c0,_ | ⟨c1,_ | ⟨c2,_ | ⟨c3,r⟩⟩⟩⟩<;>rw [hs] at hc<;>simp at hc
 exact ⟨c0,c1,c2,_,_,_,rfl,hc.2.2,hm⟩
theorem Ud (σ:Sig):DCall prog 16 [] σ fun x σ'=>x = .ret (.bool true)/\σ'=σ:=by
 have w1:(exA [[98],[97]]).wt<=10000000:=by decide +kernel
 have w2:(exA [[97],[98]]).wt<=10000000:=by decide +kernel
 have w3:exB.wt<=10000000:=by decide +kernel
 have w4:(Ji (exA [[98],[97]])).wt<=1073741824:=by decide +kernel
 have h45a:=fun (o:Own) (σ:Sig)=>OH [[98],[97]] o σ
 have h45b:=fun (o:Own) (σ:Sig)=>OH [[97],[98]] o σ
 have h17a:=fun (σ:Sig)=>Lj _ σ w1
 have h17b:=fun (σ:Sig)=>Lj _ σ w2
 have h19:=fun (σ:Sig)=>OO _ exB σ w4 (by omega)
 have h20:=fun (σ:Sig)=>ON exB σ w3
 have h13:=fun (σ:Sig)=>I5 exB σ (by omega)
 have h11:=fun (σ:Sig)=>Lk exB σ (by omega)
 have h23:=fun (σ:Sig)=>I3 exB 5 σ (by omega)
 have h25a:=fun (σ:Sig)=>GQ exB 5 σ (by omega)
 have h25b:=fun (σ:Sig)=>GQ exB 4 σ (by omega)
 have h37:=fun (σ:Sig)=>OJ exB σ (by omega)
 obtain ⟨c0,c1,c2,m0,m1,mn,e1,e2,e3⟩:=Uf
 have h15 : ∀ (l:List Int) (σ:Sig),l.length<=1073741824->DCall prog 15 [.slice (cI l) .no, .slice (cI l) .clip] σ fun x σ'=>x = .ret (.bool true)/\σ'=σ:=fun l σ hl=>by
  have:=I4 l l .no .clip σ hl
  simpa using this
 have h27 : ∀ (l:List Init) (σ:Sig),l.length<=1073741824->DCall prog 27 [.slice (l.map Cm) .no, .slice (l.map Cm) .clip] σ fun x σ'=>x = .ret (.bool true)/\σ'=σ:=fun l σ hl=>by
  have:=Li l l .no .clip σ hl hl
  simpa using this
 have g1:=fun (σ:Sig)=>h15 [1,1,1,1,1,2,0,0] σ (by simp)
 have g2:=fun (σ:Sig)=>h15 [0,1] σ (by simp)
 have g3:=fun (σ:Sig)=>h15 [3,4] σ (by simp)
 have g4:=fun (σ:Sig)=>h27 [⟨0,1⟩] σ (by simp)
 have g5:=fun (σ:Sig)=>h27 [⟨0,7⟩] σ (by simp)
 have he:Dm (some [1,1,1,1,1,2,0,0])=0:=rfl
 refine en func16 ntmps16 ?_
 repeat' first | refine gf (gi OW (gi OV (gi Ll (gi SG (gi ex_ok (gi NM (gi SH (gi SI (gi NN (gi ME (gi MF (gi e1 (gi e2 (gi e3 (gi OU he))))))))))))))) ?_ | refine An (h45a _ _) ?_ | refine callP (h45a _ _) ?_ | refine An (h45b _ _) ?_ | refine callP (h45b _ _) ?_ | refine ET (g1 _) ?_ | refine EU (g1 _) ?_ | refine ET (g2 _) ?_ | refine EU (g2 _) ?_ | refine ET (g3 _) ?_ | refine EU (g3 _) ?_ | refine ET (g4 _) ?_ | refine EU (g4 _) ?_ | refine ET (g5 _) ?_ | refine EU (g5 _) ?_ | refine gf (gi OW (gi OV (gi Ll (gi SG (gi ex_ok (gi NM (gi SH (gi SI (gi NN (gi ME (gi MF (gi e1 (gi e2 (gi e3 (gi OU he))))))))))))))) ?_ o16 | apply gy<;>intro hh
 exact fin1 (σ':=σ) ⟨rfl,rfl⟩
@[reducible,instance] def a16:=fun σ=>ah0 (@Ud σ)
theorem R5 {p:BProg}:((BP p).getD []).length<=p.nodes.length:=by
 unfold BP
 split
 ·cases hm:CK p p.methods (List.replicate p.nodes.length (-1)) with
  | none=>simp
  | some s =>
   rename_i hc
   simp only [Bool.and_eq_true,decide_eq_true_eq,List.all_eq_true] at hc
   have k2:=(GG p p.methods _ s hm (by simp) (fun g hx=>(hc.2 g hx).1)).2.1
   rw [List.length_replicate] at k2
   have k3:=BC p false 12 p.main 0 s
   cases hw:Bt p false 12 p.main 0 s with
   | mk b s2 =>
    rw [hw] at k3
    cases b with
    | false=>simp [optW,hw]
    | true =>
     simp only [optW,hw]
     split
     ·simp
     ·simp only [Option.getD_some];simp only at k3;omega
 ·simp
theorem Rt (p:BProg) (σ:Sig) (hp:p.wt<=1073741824) (hL:BP p=CU p):DCall prog 3 [.agg (Af p)] σ fun x σ'=>x = .ret (.bool true)/\σ'=σ:=by
 have hpl:=p.wt_le.2.2.2.1
 have hl:=R5 (p:=p)
 have h11:=fun (σ:Sig)=>Lk p σ hp
 have h12:=fun (σ:Sig)=>OQ p σ hp
 have h13:=fun (σ:Sig)=>I5 p σ hp
 have h14:=fun (σ:Sig)=>OP p σ hp
 have he:(if okP p then (0:Int) else 2)=Dm (BP p):=by unfold okP Dm;cases BP p<;>rfl
 have h15 : ∀ (σ:Sig),DCall prog 15 [.slice (cI ((BP p).getD [])) .no, .slice (cI ((BP p).getD [])) .no] σ fun x σ'=>x = .ret (.bool true)/\σ'=σ:=fun σ=>by
  have:=I4 ((BP p).getD []) ((BP p).getD []) .no .no σ (by omega)
  simpa using this
 have hL':CU p=BP p:=hL.symm
 refine en func3 ntmps3 ?_
 repeat' first | refine gf (gi hL' he) ?_ | refine moRG (h15 _) ?_ | refine moPG (h15 _) ?_ | refine gf (gi hL' he) ?_ o3 | apply gy<;>intro hh
 exact fin1 (σ':=σ) ⟨rfl,rfl⟩
@[reducible,instance] def a3:=fun p σ=>ah2 (@Rt p σ)
end Go.DL
namespace Go.DL
open Go.Proofs.Tryz
open Go Go.Proofs
open Go.Proofs.YtlfimpogphmbdaaGreat.Rows (uptoBulk uptoBulkAll)
def g0 (W:Go.World):G:={ imm:=fun b o=>W.cell? ⟨b,o,none⟩,rho:=fun _=>none,hist:=fun _ _=>none,keep:=fun k=>W.heap[k]?, io:=(W.os,W.output) }
theorem sim0 (P:Program) (W:Go.World):Sim P (g0 W) (fun _=>none) W where
 imm:=fun _ _ _ h=>h
 keep:=fun _ _ h=>h
 obj:=fun _ _ h=>by cases h
 inj:=fun _ _ _ h=>by cases h
 free:=fun _ _ h=>by cases h
 htop:=fun _ _ _ _ h=>by cases h
 hdom:=fun _ _ _ h=>by cases h
 fin:=⟨0,fun _ _=>rfl⟩
 io:=rfl
theorem Je {α:Type} {p:Nat->α->Prop} : ∀ n,(∀ i,i < n -> ∃ a,p i a) -> ∃ l:List α,l.length=n /\ ∀ i a,l[i]? = some a->p i a
 | 0,_=>⟨[],rfl,fun i a h=>by simp at h⟩
 | n+1,h=>by
  obtain ⟨l,hl,hp⟩:=Je n fun i hi=>h i (by omega)
  obtain ⟨a,ha⟩:=h n (by omega)
  refine ⟨l++[a],by simp [hl],fun i b hb => ?_⟩
  by_cases hi:i < n
  ·rw [List.getElem?_append_left (by omega)] at hb;exact hp i b hb
  ·rw [List.getElem?_append_right (by omega)] at hb
   have h0:i-l.length=0:=by
    rcases Nat.eq_zero_or_pos (i-l.length) with h | h
    ·exact h
    ·rw [List.getElem?_eq_none (by simp;omega)] at hb;cases hb
   rw [h0] at hb
   simp at hb
   rw [show i=n by omega, <- hb];exact ha
theorem QG {g:G} {b:Nat} : ∀ {ds:List D} {vs:List Value} {o:Nat},RepL g ds vs->(∀ j v,vs[j]? = some v->g.imm b (o+j)=some v)->RepI g b o ds
 | [],_,_,_,_=>trivial
 | d::ds,_,o,⟨v,r,e,h1,h2⟩,hi=>by
  subst e
  exact ⟨⟨v,hi 0 v rfl,h1⟩,QG h2 fun j x hx=>by rw [Nat.add_assoc,Nat.add_comm 1 j];exact hi (j+1) x hx⟩
theorem QH {g:G} {b sz:Nat} : ∀ {l:List (List D)} {o:Nat},(∀ i e,l[i]? = some e->e.length=sz/\RepI g b (o+i*sz) e)->RepE g b sz o l
 | [],_,_=>trivial
 | e::l,o,h=>⟨by simpa using h 0 e rfl,QH fun i x hx=>by
  have:=h (i+1) x hx
  rw [Nat.add_mul,Nat.one_mul,Nat.add_comm (i*sz), <- Nat.add_assoc] at this;exact this⟩
theorem Uv {α H:Type} {wt:α->Nat} : ∀ {l:List α} {xs:List (DataW H)},l.length=xs.length->(∀ (i:Nat) a x,l[i]? = some a->xs[i]? = some x->wt a<=uptoBulk x)->wtL wt l<=uptoBulkAll xs
 | [],[],_,_=>Nat.zero_le _
 | a::l,x::xs,h,hp=>by
  have h1:=hp 0 a x rfl rfl
  have h2:=Uv (l:=l) (xs:=xs) (by simpa using h) fun i b y hb hy=>hp (i+1) b y hb hy
  simp only [wtL,uptoBulkAll];omega
section
variable {H:Type} {enc:TypeId × Value->H} {W:Go.World}
noncomputable abbrev rd (enc:TypeId × Value->H) (W:Go.World) (n t:Nat) (cs:List Value):Option (DataW H × List MemPlace):=DataW.trod enc prog W 0 (fun _=>true) true n t cs
def Dec (enc:TypeId × Value->H) (W:Go.World) {α:Type} (n t:Nat) (c:α->List D) (wt:α->Nat):Prop := ∀ cs x,rd enc W n t cs=some x -> ∃ a,RepL (g0 W) (c a) cs/\wt a<=uptoBulk x.1
theorem CD {t n:Nat} (ht:prog.underlying t=some (.int .i64)):Dec enc W n t (fun k:Int=>[dI k]) (fun _=>1):=fun cs x h=>by
 obtain ⟨k,rfl,rfl,_⟩:=DataW.trod_int ht h
 exact ⟨k,⟨_,[],rfl,rfl,rfl⟩,by simp [uptoBulk]⟩
theorem El {α:Type} {t e sz n:Nat} {c:α->List D} {wt:α->Nat} (ht:prog.underlying t=some (.slice e)) (hz:prog.cellsOf e=sz) (hpos:0 < sz) (hc : ∀ a,(c a).length=sz) (hd : ∀ m,m < n->Dec enc W m e c wt) :
  Dec enc W n t (fun l:List α=>[sl (l.map c)]) (fun l=>1+wtL wt l):=fun cs x h=>by
 rcases DataW.trod_slice ht h with ⟨rfl,rfl⟩ | ⟨a,len,cap,elems,rest,m,rfl,rfl,rfl,hb,hl,hm,hlen,hel, -, -⟩
 ·exact ⟨[],⟨_,[],rfl,⟨Option.none,0,rfl,by simp, .inl rfl,trivial⟩,rfl⟩,by simp [uptoBulk,wtL]⟩
 ·have key : ∀ i,i < len -> ∃ b:α, ∃ y vs,elems[i]? = some y/\W.cells? 0 (a.add (i*sz)) sz=some vs/\RepL (g0 W) (c b) vs/\wt b<=uptoBulk y.1:=fun i hi=>by
   have h1:=hel i hi
   rw [hz,List.getElem?_eq_getElem (by omega)] at h1
   obtain ⟨vs,h2,h3⟩:=Option.bind_eq_some_iff.1 h1
   obtain ⟨b,h4,h5⟩:=hd m (by omega) vs _ h3
   exact ⟨b,_,vs,List.getElem?_eq_getElem (by omega),h2,h4,h5⟩
  obtain ⟨l,hll,hp⟩:=Je len key
  refine ⟨l,⟨_,[],rfl,⟨some a,cap,by simp [hll],by simpa [hll] using hl, ?_,trivial⟩,rfl⟩, ?_⟩
  ·cases hlz:l with
   | nil=>exact .inl rfl
   | cons b0 l' =>
    rw [<- hlz]
    have hl0:0 < len:=by rw [<- hll,hlz];simp
    obtain ⟨y,vs,k1,k2,k3,k4⟩:=hp 0 b0 (by rw [hlz];rfl)
    obtain ⟨_,k5,k6⟩:=World.cells?_some k2
    have hsp:a.spot=none:=by
     have:=k6 0 (by omega)
     cases hs:a.spot with
     | none=>rfl
     | some q=>simp [World.cell?, Addr.add,hs] at this;split at this<;>simp_all
    obtain ⟨ab,ao,asp⟩:=a
    simp only at hsp
    subst hsp
    refine .inr ⟨sz,ab,ao,rfl,QH fun i e he => ?_⟩
    rw [List.getElem?_map] at he
    obtain ⟨b,hb1,rfl⟩:=Option.map_eq_some_iff.1 he
    obtain ⟨y,vs,k1,k2,k3,k4⟩:=hp i b hb1
    obtain ⟨_,k5,k6⟩:=World.cells?_some k2
    refine ⟨hc b,QG k3 fun j v hv => ?_⟩
    have hj:j < sz:=by rw [<- k5];exact (List.getElem?_eq_some_iff.1 hv).1
    have:=k6 j hj
    rw [hv,BN,BN] at this
    exact this
  ·have:=Uv (wt:=wt) (l:=l) (xs:=elems.map (·.1)) (by simp;omega) fun i b z hb1 hz1=>by
    obtain ⟨y,vs,k1,k2,k3,k4⟩:=hp i b hb1
    rw [List.getElem?_map,k1] at hz1
    simp at hz1;subst hz1;exact k4
   simp only [uptoBulk];omega
set_option maxRecDepth 100000
theorem E9 {t n:Nat} {fs:Array Field} (ht:prog.underlying t=some (.struct fs)) {cs:List Value} {x:DataW H × List MemPlace} (h:rd enc W n t cs=some x) :
  ∃ (xs:List (DataW H × List MemPlace)) (m:Nat),m < n/\uptoBulk x.1=uptoBulkAll (xs.map (·.1))+1/\cs.length=prog.cellsOf t/\xs.length=fs.size /\
   ∀ (i:Nat) (f:Field),fs[i]? = some f->rd enc W m f.type ((cs.drop f.offset).take (prog.cellsOf f.type))=xs[i]? := by
 obtain ⟨xs,m,rfl,rfl,h1,h2,h3⟩:=DataW.trod_struct ht h
 exact ⟨xs,m,by omega,by simp [uptoBulk],h1,h2,h3⟩
theorem cellsI:prog.cellsOf 3=1:=by kernel_rfl
theorem GZ (n:Nat):Dec enc W n 23 (fun l:List Int=>[sl (cI l)]) (fun l=>1+wtL (fun _=>1) l):=El underlying23 cellsI (by omega) (fun _=>rfl) fun _ _=>CD underlying3
theorem Ly {α:Type} : ∀ l:List α,wtL (fun _=>1) l=l.length
 | []=>rfl
 | x::l=>by rw [wtL,Ly l,List.length_cons];omega
theorem Di {m t off k:Nat} {cs cs':List Value} {o:Option (DataW H × List MemPlace)} (h:rd enc W m t ((cs.drop off).take (prog.cellsOf t))=o) (hk:prog.cellsOf t=k) (hc:(cs.drop off).take k=cs'):rd enc W m t cs'=o:=by rw [<- hc, <- hk];exact h
theorem Un (n:Nat):Dec enc W n 63 Cm (fun _=>1):=fun cs x h=>by
 obtain ⟨xs,m,hm,hb,hl,hx,hf⟩:=E9 underlying63 h
 rw [show prog.cellsOf 63=2 by kernel_rfl] at hl
 match cs,hl with
 | [v0,v1],_ =>
  match xs,hx with
  | [x0,x1],_ =>
   obtain ⟨a0,r0,w0⟩:=CD underlying3 [v0] x0 (Di (hf 0 _ rfl) cellsI rfl)
   obtain ⟨a1,r1,w1⟩:=CD underlying3 [v1] x1 (Di (hf 1 _ rfl) cellsI rfl)
   refine ⟨⟨a0,a1⟩,r0.append r1, ?_⟩
   rw [hb];simp only [uptoBulkAll,List.map_cons,List.map_nil];omega
theorem SV (n:Nat):Dec enc W n 51 (fun l:List Init=>[sl (l.map Cm)]) (fun l=>1+wtL (fun _=>1) l):=El underlying51 (by kernel_rfl:prog.cellsOf 63=2) (by omega) (fun _=>rfl) fun _ _=>Un _
theorem Qg (n:Nat):Dec enc W n 101 Ae BClass.wt:=fun cs x h=>by
 obtain ⟨xs,m,hm,hb,hl,hx,hf⟩:=E9 underlying101 h
 rw [show prog.cellsOf 101=3 by kernel_rfl] at hl
 match cs,hl with
 | [v0,v1,v2],_ =>
  match xs,hx with
  | [x0,x1,x2],_ =>
   obtain ⟨a0,r0,w0⟩:=GZ _ [v0] x0 (Di (hf 0 _ rfl) (show prog.cellsOf 23=1 by kernel_rfl) rfl)
   obtain ⟨a1,r1,w1⟩:=GZ _ [v1] x1 (Di (hf 1 _ rfl) (show prog.cellsOf 23=1 by kernel_rfl) rfl)
   obtain ⟨a2,r2,w2⟩:=SV _ [v2] x2 (Di (hf 2 _ rfl) (show prog.cellsOf 51=1 by kernel_rfl) rfl)
   refine ⟨⟨a0,a1,a2⟩,r0.append (r1.append r2), ?_⟩
   rw [hb];clear hf hx hl;simp only [Ly] at *; simp only [BClass.wt,uptoBulkAll,List.map_cons,List.map_nil];omega
theorem SX (n:Nat):Dec enc W n 104 Ai BNode.wt:=fun cs x h=>by
 obtain ⟨xs,m,hm,hb,hl,hx,hf⟩:=E9 underlying104 h
 rw [show prog.cellsOf 104=3 by kernel_rfl] at hl
 match cs,hl with
 | [v0,v1,v2],_ =>
  match xs,hx with
  | [x0,x1,x2],_ =>
   obtain ⟨a0,r0,w0⟩:=CD underlying37 [v0] x0 (Di (hf 0 _ rfl) (show prog.cellsOf 37=1 by kernel_rfl) rfl)
   obtain ⟨a1,r1,w1⟩:=CD underlying3 [v1] x1 (Di (hf 1 _ rfl) cellsI rfl)
   obtain ⟨a2,r2,w2⟩:=GZ _ [v2] x2 (Di (hf 2 _ rfl) (show prog.cellsOf 23=1 by kernel_rfl) rfl)
   refine ⟨⟨a0,a1,a2⟩,r0.append (r1.append r2), ?_⟩
   rw [hb];clear hf hx hl;simp only [Ly] at *; simp only [BNode.wt,uptoBulkAll,List.map_cons,List.map_nil];omega
theorem Uo : ∀ n:Nat,Dec enc W n 96 Bk Fact.wt:=fun n=>by
 induction n using Nat.strongRecOn with
 | ind n ih =>
 intro cs x h
 obtain ⟨xs,m,hm,hb,hl,hx,hf⟩:=E9 underlying96 h
 rw [show prog.cellsOf 96=6 by kernel_rfl] at hl
 match cs,hl with
 | [v0,v1,v2,v3,v4,v5],_ =>
  match xs,hx with
  | [x0,x1,x2,x3,x4,x5],_ =>
   obtain ⟨a0,r0,w0⟩:=CD underlying85 [v0] x0 (Di (hf 0 _ rfl) (show prog.cellsOf 85=1 by kernel_rfl) rfl)
   obtain ⟨a1,r1,w1⟩:=CD underlying3 [v1] x1 (Di (hf 1 _ rfl) cellsI rfl)
   obtain ⟨a2,r2,w2⟩:=GZ _ [v2] x2 (Di (hf 2 _ rfl) (show prog.cellsOf 23=1 by kernel_rfl) rfl)
   obtain ⟨a3,r3,w3⟩:=CD underlying3 [v3] x3 (Di (hf 3 _ rfl) cellsI rfl)
   obtain ⟨a4,r4,w4⟩:=CD underlying3 [v4] x4 (Di (hf 4 _ rfl) cellsI rfl)
   obtain ⟨a5,r5,w5⟩:=(El (c:=Bk) (wt:=Fact.wt) (t:=94) (e:=96) (n:=m) underlying94 (by kernel_rfl:prog.cellsOf 96=6) (by omega) (fun f=>by cases f;rfl) fun k hk=>ih k (by omega)) [v5] x5 (Di (hf 5 _ rfl) (show prog.cellsOf 94=1 by kernel_rfl) rfl)
   refine ⟨.mk a0 a1 a2 a3 a4 a5,by rw [Dn];exact r0.append (r1.append (r2.append (r3.append (r4.append r5)))), ?_⟩
   rw [hb];clear hf hx hl;simp only [Ly] at *; rw [Fact.wt_eq];simp only [Fact.path,Fact.kids,uptoBulkAll,List.map_cons,List.map_nil];omega
theorem SY (n:Nat):Dec enc W n 98 As BMeth.wt:=fun cs x h=>by
 obtain ⟨xs,m,hm,hb,hl,hx,hf⟩:=E9 underlying98 h
 rw [show prog.cellsOf 98=9 by kernel_rfl] at hl
 match cs,hl with
 | [v0,v1,v2,v3,v4,v5,v6,v7,v8],_ =>
  match xs,hx with
  | [x0,x1,x2,x3],_ =>
   obtain ⟨a0,r0,w0⟩:=CD underlying84 [v0] x0 (Di (hf 0 _ rfl) (show prog.cellsOf 84=1 by kernel_rfl) rfl)
   obtain ⟨a1,r1,w1⟩:=CD underlying3 [v1] x1 (Di (hf 1 _ rfl) cellsI rfl)
   obtain ⟨a2,r2,w2⟩:=Uo _ [v2,v3,v4,v5,v6,v7] x2 (Di (hf 2 _ rfl) (show prog.cellsOf 96=6 by kernel_rfl) rfl)
   obtain ⟨a3,r3,w3⟩:=CD underlying3 [v8] x3 (Di (hf 3 _ rfl) cellsI rfl)
   refine ⟨⟨a0,a1,a2,a3⟩,(r0.append r1).append r2 |>.append r3, ?_⟩
   rw [hb];simp only [BMeth.wt,uptoBulkAll,List.map_cons,List.map_nil];omega
theorem R6 (m:BMeth):(As m).length=9:=by simp [As]
theorem SW (n:Nat):Dec enc W n 27 Af BProg.wt:=fun cs x h=>by
 obtain ⟨xs,m,hm,hb,hl,hx,hf⟩:=E9 underlying27 h
 rw [show prog.cellsOf 27=6 by kernel_rfl] at hl
 match cs,hl with
 | [v0,v1,v2,v3,v4,v5],_ =>
  match xs,hx with
  | [x0,x1,x2,x3,x4,x5],_ =>
   obtain ⟨a0,r0,w0⟩:=El underlying22 (by kernel_rfl:prog.cellsOf 101=3) (by omega) (fun _=>rfl) (fun _ _=>Qg _) [v0] x0 (Di (hf 0 _ rfl) (show prog.cellsOf 22=1 by kernel_rfl) rfl)
   obtain ⟨a1,r1,w1⟩:=CD underlying3 [v1] x1 (Di (hf 1 _ rfl) cellsI rfl)
   obtain ⟨a2,r2,w2⟩:=GZ _ [v2] x2 (Di (hf 2 _ rfl) (show prog.cellsOf 23=1 by kernel_rfl) rfl)
   obtain ⟨a3,r3,w3⟩:=El underlying24 (by kernel_rfl:prog.cellsOf 98=9) (by omega) R6 (fun _ _=>SY _) [v3] x3 (Di (hf 3 _ rfl) (show prog.cellsOf 24=1 by kernel_rfl) rfl)
   obtain ⟨a4,r4,w4⟩:=El underlying25 (by kernel_rfl:prog.cellsOf 104=3) (by omega) (fun _=>rfl) (fun _ _=>SX _) [v4] x4 (Di (hf 4 _ rfl) (show prog.cellsOf 25=1 by kernel_rfl) rfl)
   obtain ⟨a5,r5,w5⟩:=CD underlying3 [v5] x5 (Di (hf 5 _ rfl) cellsI rfl)
   refine ⟨⟨a0,a1,a2,a3,a4,a5⟩,r0.append (r1.append (r2.append (r3.append (r4.append r5)))), ?_⟩
   rw [hb];clear hf hx hl;simp only [Ly] at *; simp only [BProg.wt,uptoBulkAll,List.map_cons,List.map_nil];omega
end
end Go.DL
namespace Go.DL
open Go.Proofs.Tryz
open Go Go.Proofs Go.ChangeShapes Go.WideShapes Go.ChangeAt Go.RowKit
open Go.Proofs.YtlfimpogphmbdaaGreat.Rows (uptoBulk uptoBulkAll)
set_option maxRecDepth 100000
theorem IJ {N:Nat} {us:List D} (h:DCall prog N us (fun _=>none) fun x _=>x = .ret (.bool true)) (W:Go.World) {vs:List Value} (hr:RepL (g0 W) us vs) :
  Calls prog N vs.toArray W fun e W'=>e = .returned (.bool true)/\(∀ (k:Nat) (o:Obj),W.heap[k]? = some o->W'.heap[k]? = some o)/\W'.os=W.os/\W'.output=W.output:=by
 refine CallsIn.calls (F:=FX prog none) (n:=0) ((h.run (g0 W) W vs (sim0 _ W) hr).mono ?_) fun k d hd=>by cases hd
 rintro e W' ⟨g',x,σ',hle,hs,hE,rfl⟩
 obtain ⟨v,rfl,rfl⟩:=hE
 have hio:=hs.io.trans hle.io
 simp only [g0,Prod.mk.injEq] at hio
 exact ⟨rfl,fun k o hk=>hs.keep k o (hle.keep k o hk),hio.1,hio.2⟩
theorem laidOut:laidOutB prog=true:=by kernel_rfl
section
variable {H:Type} {enc:TypeId × Value->H} {W W':Go.World}
theorem Gj {sp:Nat->Bool} : ∀ {ts:List TypeId} {vs:List Value} {ds:List (DataW H)} {ps:List MemPlace},(∀ t ∈ ts,prog.readableRec t=true/\t < prog.types.size)->DataW.TrodAll enc prog W 0 (fun _=>true) true ts vs ds ps->(∀ p ∈ ps,W.sameAt W' p)->(∀ p ∈ ps,sp p.block=true)->DataW.TrodAll enc prog W' 0 sp true ts vs ds ps
 | [],vs,ds,ps,_,h,_,_=>by
  obtain ⟨rfl,rfl,rfl⟩:=trodAll_nil h
  exact h
 | t::ts,vs,ds,ps,ht,h,h1,h2=>by
  obtain ⟨v,vs1,d,ds1,a,b,rfl,rfl,rfl,k1,k2⟩:=trodAll_cons h
  exact ⟨a,b,WideElems.Trod_stays laidOut (ht t (by simp)).1 (ht t (by simp)).2 k1 (fun p hp=>h1 p (by simp [hp])) (fun p hp=>h2 p (by simp [hp])),
   Gj (fun t hx=>ht t (by simp [hx])) k2 (fun p hp=>h1 p (by simp [hp])) (fun p hp=>h2 p (by simp [hp])),rfl⟩
theorem same_of {p:MemPlace} (hold : ∀ (k:Nat) (o:Obj),W.heap[k]? = some o->W'.heap[k]? = some o) (hp:p.block < W.heap.size):W.sameAt W' p:=by
 have hk : ∀ b,b < W.heap.size->W'.heap[b]? = W.heap[b]? := fun b hb=>by
  rw [Array.getElem?_eq_getElem hb];exact hold b _ (Array.getElem?_eq_getElem hb)
 cases p with
 | cell b off =>
  show W'.cell? ⟨b,off,none⟩=W.cell? ⟨b,off,none⟩
  unfold World.cell?
  rw [hk b hp]
 | map b=>exact hk b hp
theorem kept_of {may:MemPlace->Prop} (hold : ∀ (k:Nat) (o:Obj),W.heap[k]? = some o->W'.heap[k]? = some o) (hos:W'.os=W.os) (hout:W'.output=W.output):W.keptBut W' may:=by
 refine ⟨hos,hout,fun i hi => ?_⟩
 have h:=Array.getElem?_eq_getElem hi
 rw [h,hold i _ h]
 cases W.heap[i]<;>simp
theorem L2 {f:Func} {s:ChangeSpec} {args:Array Value} {ds gs:List (DataW H)} {before:List MemPlace} (hv:s.vars=[]) (hrt:f.resultTypes = #[4]) (hts : ∀ t ∈ f.params.toList,prog.readableRec t=true/\t < prog.types.size)
  (hW:DataW.Whole enc prog f.params.toList s.vars false W args.toList ds gs before) (hfn:s.fn H (ds++gs)={ results:=[.lit (.bool true)],args:=ds })
  (hold : ∀ (k:Nat) (o:Obj),W.heap[k]? = some o->W'.heap[k]? = some o) (hos:W'.os=W.os) (hout:W'.output=W.output):s.post enc prog f false true false false W args (.bool true) W':=by
 have hlt:=hW.lt
 have hW':=hW
 obtain ⟨p,q,hA,hV,rfl,hfz,hnd⟩:=hW
 rw [hv] at hV
 obtain ⟨rfl,rfl⟩:=trodVars_none hV
 have hsame : ∀ x ∈ p,W.sameAt W' x:=fun x hx=>same_of hold (by simpa using hlt x (by simp [hx]))
 refine ⟨ds,[],p++[],[],p,[],hW', ?_, ?_, ?_,kept_of hold hos hout,fun h=>by cases h⟩
 ·rw [hrt,hfn]
  exact trodAll_cons_mk (shut_bool underlying4 _) trodAll_mk0
 ·rw [hfn]
  exact Gj hts hA hsame fun x hx=>by simpa using hlt x (by simp [hx])
 ·rw [hfn,hv]
  rfl
end
end Go.DL
namespace Go.DL
open Go.Proofs.Tryz
open Go Go.Proofs Go.ChangeShapes Go.WideShapes Go.ChangeAt Go.RowKit
open Go.Proofs.YtlfimpogphmbdaaGreat
set_option maxRecDepth 100000
theorem own:ownKnob prog.godebug=none:=by kernel_rfl
section
variable {H:Type} {enc:TypeId × Value->H} {W:Go.World} {base:Nat}
theorem Iy {v:Value} {d:DataW H} {ps:List MemPlace} (hval:Value.okWide prog W .any base 27 v) (h:DataW.Trod enc prog W 0 (fun _=>true) true 27 v d ps) : ∃ p:BProg,Rep (g0 W) (.agg (Af p)) v/\p.wt<=Rows.uptoBulk d:=by
 obtain ⟨cs,rfl,_⟩:=okWide_struct underlying27 hval
 obtain ⟨n,hn⟩:=h
 obtain ⟨p,h1,h2⟩:=SW n _ _ hn
 exact ⟨p,⟨cs.toList,by simp,h1⟩,h2⟩
theorem Hk:prog.readableRec 27=true:=by kernel_rfl
theorem H7:27 < prog.types.size:=of_decide_eq_true (by kernel_rfl)
theorem law1 {N:Nat} {f:Func} (hf:f.params = #[27]) (hrt:f.resultTypes = #[4]) (hN : ∀ p:BProg,p.wt<=1048576->DCall prog N [.agg (Af p)] (fun _=>none) fun x _=>x = .ret (.bool true))
  {s:ChangeSpec} (hv:s.vars=[]) (hfn : ∀ d,s.fn H [d]={ results:=[.lit (.bool true)],args:=[d] }) {args:Array Value} {ds gs:List (DataW H)} {before:List MemPlace}
  (hval : ∀ (j:Nat) t v,f.params[j]? = some t->args[j]? = some v->Value.okWide prog W .any base t v)
  (hW:DataW.Whole enc prog f.params.toList s.vars false W args.toList ds gs before) (hk:Rows.uptoSmall H (ds++gs)=true) :
  Calls prog N args W fun e W' => ∃ v,e = .returned v/\s.post enc prog f false true false false W args v W':=by
 have hW':=hW
 obtain ⟨p,q,hA,hV,rfl,hfz,hnd⟩:=hW
 rw [hv] at hV
 obtain ⟨rfl,rfl⟩:=trodVars_none hV
 rw [hf] at hA hval
 obtain ⟨v0,vs0,d0,ds0,p0,q0,hargs,rfl,rfl,h0,r0⟩:=trodAll_cons hA
 obtain ⟨rfl,rfl,rfl⟩:=trodAll_nil r0
 obtain rfl:args = #[v0]:=by cases args;simp_all
 have hb:Rows.uptoBulk d0+0<=1048576:=of_decide_eq_true hk
 obtain ⟨pr,hr,hw⟩:=Iy (hval 0 27 v0 rfl rfl) h0
 refine (IJ (hN pr (by omega)) W (vs:=[v0]) ⟨v0,[],rfl,hr,rfl⟩).mono fun e W' ⟨he,hold,hos,hout⟩ => ?_
 refine ⟨_,he,L2 hv hrt (fun t ht => ?_) hW' (hfn d0) hold hos hout⟩
 rw [hf] at ht
 obtain rfl:t=27:=by simpa using ht
 exact ⟨Hk,H7⟩
end
end Go.DL
