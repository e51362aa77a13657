/- A part of the proof. -/
import Derived.Test.YteldimffglchkaaGreatDoorM22
import Derived.Test.YteldimffglchkaaGreatDoorM18
import Derived.Test.YteldimffglchkaaGreatDoorM14
import Derived.Test.YteldimffglchkaaGreatDoorM20
import Derived.Test.YteldimffglchkaaGreatDoorM24
import Derived.Test.YteldimffglchkaaGreatDoorM21
import Derived.Test.YteldimffglchkaaGreatDoorM23
import Derived.Test.YteldimffglchkaaGreatDoorM10
set_option linter.all false
namespace Go.DL
open Go.Proofs.Tryz
open Go Go.Proofs
set_option maxHeartbeats 8000000
def Hn:List (Int×Int):=[(1,1),(2,2),(3,3),(4,5),(5,19),(6,4),(7,8),(8,6),(12,9),(13,10),(14,11),(15,12),(16,13),(17,7),(18,20)]
def pK:List D:=(eIN Hn).map (·.1)
def pV:List D:=(eIN Hn).map (·.2)
theorem pKV:pK.zip pV=eIN Hn:=rfl
@[simp] theorem hitIN85(k:Int)(m:List (Int×Int)):hitD tab 85 false (C9 (.int .i64) (.int .i64 k) (eIN m) 0)=some (.int .i64 (getM 0 k m)):=Rj keyI dI rfl k m
theorem Pc{o:Int}(h:1<=o/\o<=18)(h9:o≠9)(aw:o≠10)(au:o≠11):getM 0 o Hn=Tx o:=by
 have:o=1\/o=2\/o=3\/o=4\/o=5\/o=6\/o=7\/o=8\/o=12\/o=13\/o=14\/o=15\/o=16\/o=17\/o=18:=by omega
 rcases this with e|e|e|e|e|e|e|e|e|e|e|e|e|e|e<;>rw[e]<;>rfl
theorem Sv(O:Sig):DCall prog 208 [] O (rS (.cmap pK pV) O):=by
 refine en func208 ntmps208 ?_
 refine gz ?_
 refine newIN (fun im bB=>?_)
 repeat ((fail_if_success (first|(refine cfr 1 (i:=im) (m:=eIN Hn) (w6 ..) ?_)|fail));(refine goX1 trivial ?_))
 refine cfr 1 (i:=im) (m:=eIN Hn) (w6 ..) ?_
 rw[show(eIN Hn).map (·.1)=pK from rfl,show(eIN Hn).map (·.2)=pV from rfl]
 rw[Sig.set_del _ _ bB]
 refine gz ?_
 exact fe1 trivial
@[reducible,instance] def a208:=fun O=>ah0 (@Sv O)
theorem NT(l r:List CIns)(op a b:Int):setA (l++⟨op,a⟩::r) l.length b=l++⟨op,b⟩::r:=by
 unfold setA
 rw[List.take_left,List.getElem?_append_right (Nat.le_refl _),Nat.sub_self,List.drop_append]
 simp
theorem K6(p:BProg)(inM:Bool)(hp:p.wt<=1073741824): ∀(k:Nat) (n:Int) (size:Nat),trE p inM k n size->∀(ib:Nat) (s m:D) (st:MR) (ins:List CIns) (O:Sig),ins.length+cL p k n<=1000000->BlkS ib s m st ins O->
  DCall prog 131 [.ptr ib 0,.agg (Ag p),dI n] O fun x U'=>x=.ret (.tup []) /\ ∃st',BlkS ib s m st' (ins++cN p k n ins.length) U'/\BK ib O st U' st':=by
 obtain⟨p1,p2,p3,p4,p5,p6,p7⟩:=p.wt_le
 intro k
 induction k with
 |zero=>intro n size h;exact h.elim
 | succ k ih =>
  intro n size h ib s m st ins O hq hB
  have aY:=tr_op h
  have aB:=fun m hm=>Kt h (m:=m) hm
  obtain⟨⟨h0,h1⟩,bx,br,bq,hk⟩:=h
  obtain⟨i,rfl⟩:∃i:Nat,n=(i:Int):=⟨n.toNat,by omega⟩
  have hi:i<p.nodes.length:=by omega
  have aN:A9 p i=p.nodes[i]:=by unfold A9;rw[show((i:Int)).toNat=i by omega,List.getElem?_eq_getElem hi];rfl
  have be:=p7 i hi
  have hN:=OH p k
  rw[cL,aN]at hq
  rw[cN,aN]
  rw[aN]at aY aB bx br bq hk
  generalize hx:p.nodes[i]=x at*
  have bK:x.kids.length<=1073741824:=by unfold BNode.wt at be;omega
  have bz:∀c∈x.kids, ∃z:Nat,trE p inM k c z:=fun c hc=>by
   obtain⟨j,hj,rfl⟩:=List.getElem_of_mem hc
   have:=hk j hj
   split at this
   ·exact⟨size+1,this⟩
   ·exact⟨size,this⟩
  have hS:∀c∈x.kids, ∀(st:MR) (l:List CIns) (O:Sig),l.length+cL p k c<=1000000->BlkS ib s m st l O->DCall prog 131 [.ptr ib 0,.agg (Ag p),dI c] O fun x U'=>x=.ret (.tup []) /\ ∃st',BlkS ib s m st' (l++cN p k c l.length) U'/\BK ib O st U' st':=fun c hc st l O hl hB=>by
   obtain⟨z,hz⟩:=bz c hc;exact ih c z hz ib s m st l O hl hB
  by_cases h9:x.op=9
  ·rw[if_pos h9]at hq⊢
   obtain⟨a,b,ae⟩:∃a b,x.kids=[a,b]:=by
    have hl:x.kids.length=2:=aB 2 (by rw[h9];rfl)
    match hx:x.kids,hl with
    |[a,b],_=>exact⟨a,b,rfl⟩
   have aF:kidN x 0=a:=by unfold kidN;rw[ae];rfl
   have aE:kidN x 1=b:=by unfold kidN;rw[ae];rfl
   rw[aF,aE]at hq⊢
   have e1:(ins++cN p k a ins.length).length=ins.length+cL p k a:=by rw[List.length_append,hN]
   have e2:(ins++cN p k a ins.length++[(⟨14,0⟩:CIns)]).length=ins.length+cL p k a+1:=by rw[List.length_append,e1];rfl
   refine en func131 ntmps131 ?_
   refine gf (gi hx (gi h9 ae)) ?_ o131
   refine A3 (hS a (by rw[ae];simp) st ins O (by omega) hB) (fun d S1 hr=>?_) (fun d S1 hr=>by cases hr.1)
   obtain⟨q1,st1,ai,ah⟩:=hr
   cases q1
   refine gz ?_ o131
   refine A3 (CS 14 0 (by omega) ai) (fun d S2 hr=>?_) (fun d S2 hr=>by cases hr.1)
   obtain⟨q2,st2,aa,ag⟩:=hr
   cases q2
   refine gf ae ?_ o131
   refine A3 (hS b (by rw[ae];simp) st2 _ S2 (by omega) aa) (fun d S3 hr=>?_) (fun d S3 hr=>by cases hr.1)
   obtain⟨q3,st3,am,aJ⟩:=hr
   cases q3
   rw[e2]at am
   have e3:(ins++cN p k a ins.length++[(⟨14,0⟩:CIns)]++cN p k b (ins.length+cL p k a+1)).length=ins.length+cL p k a+1+cL p k b:=by rw[List.length_append,e2,hN]
   refine gz ?_ o131
   refine A3 (CS 15 0 (by omega) am) (fun d S4 hr=>?_) (fun d S4 hr=>by cases hr.1)
   obtain⟨q4,st4,aW,aV⟩:=hr
   cases q4
   refine gz ?_ o131
   refine DK (U':=S4) ⟨rfl,st4,?_,((ah.trans ag).trans aJ).trans aV⟩
   simpa[List.append_assoc] using aW
  ·rw [if_neg h9] at hq ⊢
   by_cases au:x.op=11
   ·rw[if_pos au]at hq⊢
    obtain⟨a,b,ae⟩:∃a b,x.kids=[a,b]:=by
     have hl:x.kids.length=2:=aB 2 (by rw[au];rfl)
     match hx:x.kids,hl with
     |[a,b],_=>exact⟨a,b,rfl⟩
    have aF:kidN x 0=a:=by unfold kidN;rw[ae];rfl
    have aE:kidN x 1=b:=by unfold kidN;rw[ae];rfl
    rw[aF,aE]at hq⊢
    have e1:(ins++cN p k a ins.length).length=ins.length+cL p k a:=by rw[List.length_append,hN]
    have e2:(ins++cN p k a ins.length++[(⟨16,0⟩:CIns)]).length=ins.length+cL p k a+1:=by rw[List.length_append,e1];rfl
    refine en func131 ntmps131 ?_
    refine gf (gi hx (gi au ae)) ?_ o131
    refine A3 (hS a (by rw[ae];simp) st ins O (by omega) hB) (fun d S1 hr=>?_) (fun d S1 hr=>by cases hr.1)
    obtain⟨q1,st1,ai,ah⟩:=hr
    cases q1
    refine gz ?_ o131
    refine A3 (CS 16 0 (by omega) ai) (fun d S2 hr=>?_) (fun d S2 hr=>by cases hr.1)
    obtain⟨q2,st2,aa,ag⟩:=hr
    cases q2
    refine gf ae ?_ o131
    refine A3 (hS b (by rw[ae];simp) st2 _ S2 (by omega) aa) (fun d S3 hr=>?_) (fun d S3 hr=>by cases hr.1)
    obtain⟨q3,st3,am,aJ⟩:=hr
    cases q3
    rw[e2]at am
    refine gz ?_ o131
    refine DK (U':=S3) ⟨rfl,st3,?_,(ah.trans ag).trans aJ⟩
    simpa[List.append_assoc] using am
   ·rw [if_neg au] at hq ⊢
    by_cases aw:x.op=10
    ·rw[if_pos aw]at hq⊢
     obtain⟨a,b,c,ae⟩:∃a b c,x.kids=[a,b,c]:=by
      have hl:x.kids.length=3:=aB 3 (by rw[aw];rfl)
      match hx:x.kids,hl with
      |[a,b,c],_=>exact⟨a,b,c,rfl⟩
     have aF:kidN x 0=a:=by unfold kidN;rw[ae];rfl
     have aE:kidN x 1=b:=by unfold kidN;rw[ae];rfl
     have bD:kidN x 2=c:=by unfold kidN;rw[ae];rfl
     rw[aF,aE,bD]at hq⊢
     have e1:(ins++cN p k a ins.length).length=ins.length+cL p k a:=by rw[List.length_append,hN]
     have e2:(ins++cN p k a ins.length++[(⟨17,0⟩:CIns)]).length=ins.length+cL p k a+1:=by rw[List.length_append,e1];rfl
     refine en func131 ntmps131 ?_
     refine gf (gi hx (gi aw ae)) ?_ o131
     refine A3 (hS a (by rw[ae];simp) st ins O (by omega) hB) (fun d S1 hr=>?_) (fun d S1 hr=>by cases hr.1)
     obtain⟨q1,st1,ai,ah⟩:=hr
     cases q1
     refine gz ?_ o131
     refine A3 (Mg 17 (by omega) ai) (fun d S2 hr=>?_) (fun d S2 hr=>by cases hr.1)
     obtain⟨q2,st2,aa,ag⟩:=hr
     obtain⟨k1,ar⟩:∃k1,k1=(ins++cN p k a ins.length).length:=⟨_,rfl⟩
     rw[<-ar]at q2
     cases q2
     refine gf ae ?_ o131
     refine A3 (hS b (by rw[ae];simp) st2 _ S2 (by omega) aa) (fun d S3 hr=>?_) (fun d S3 hr=>by cases hr.1)
     obtain⟨q3,st3,am,aJ⟩:=hr
     cases q3
     rw[e2]at am
     have e3:(ins++cN p k a ins.length++[(⟨17,0⟩:CIns)]++cN p k b (ins.length+cL p k a+1)).length=ins.length+cL p k a+1+cL p k b:=by rw[List.length_append,e2,hN]
     refine gz ?_ o131
     refine A3 (Mg 18 (by omega) am) (fun d S4 hr=>?_) (fun d S4 hr=>by cases hr.1)
     obtain⟨q4,st4,aW,aV⟩:=hr
     obtain⟨k2,aq⟩:∃k2,k2=(ins++cN p k a ins.length++[(⟨17,0⟩:CIns)]++cN p k b (ins.length+cL p k a+1)).length:=⟨_,rfl⟩
     rw[<-aq]at q4
     cases q4
     have e4:(ins++cN p k a ins.length++[(⟨17,0⟩:CIns)]++cN p k b (ins.length+cL p k a+1)++[(⟨18,0⟩:CIns)]).length=ins.length+cL p k a+1+cL p k b+1:=by rw[List.length_append,e3];rfl
     refine gz ?_ o131
     refine A3 (Mb k1 (by omega) (by omega) aW) (fun d S5 hr=>?_) (fun d S5 hr=>by cases hr.1)
     obtain⟨q5,st5,bd,bH⟩:=hr
     cases q5
     have bm:ins++cN p k a ins.length++[(⟨17,0⟩:CIns)]++cN p k b (ins.length+cL p k a+1)++[(⟨18,0⟩:CIns)]=(ins++cN p k a ins.length)++⟨17,0⟩::(cN p k b (ins.length+cL p k a+1)++[(⟨18,0⟩:CIns)]):=by simp
     rw[e4,bm,ar,NT]at bd
     have e5:(ins++cN p k a ins.length++(⟨17,((ins.length+cL p k a+1+cL p k b+1:Nat):Int)⟩:CIns)::(cN p k b (ins.length+cL p k a+1)++[(⟨18,0⟩:CIns)])).length=ins.length+cL p k a+1+cL p k b+1:=by rw[List.length_append,e1,List.length_cons,List.length_append,hN];simp only[List.length_cons,List.length_nil];omega
     refine gf ae ?_ o131
     refine A3 (hS c (by rw[ae];simp) st5 _ S5 (by omega) bd) (fun d S6 hr=>?_) (fun d S6 hr=>by cases hr.1)
     obtain⟨q6,st6,bc,bG⟩:=hr
     cases q6
     rw[e5]at bc
     have e6:(ins++cN p k a ins.length++(⟨17,((ins.length+cL p k a+1+cL p k b+1:Nat):Int)⟩:CIns)::(cN p k b (ins.length+cL p k a+1)++[(⟨18,0⟩:CIns)])++cN p k c (ins.length+cL p k a+1+cL p k b+1)).length=ins.length+cL p k a+1+cL p k b+1+cL p k c:=by rw[List.length_append,e5,hN]
     refine gz ?_ o131
     refine A3 (Mb k2 (by omega) (by omega) bc) (fun d S7 hr=>?_) (fun d S7 hr=>by cases hr.1)
     obtain⟨q7,st7,bb,bF⟩:=hr
     cases q7
     have bl:(ins++cN p k a ins.length++(⟨17,((ins.length+cL p k a+1+cL p k b+1:Nat):Int)⟩:CIns)::(cN p k b (ins.length+cL p k a+1)++[(⟨18,0⟩:CIns)])++cN p k c (ins.length+cL p k a+1+cL p k b+1)) =
       (ins++cN p k a ins.length++(⟨17,((ins.length+cL p k a+1+cL p k b+1:Nat):Int)⟩:CIns)::cN p k b (ins.length+cL p k a+1))++⟨18,0⟩::cN p k c (ins.length+cL p k a+1+cL p k b+1):=by simp
     have aO:k2=(ins++cN p k a ins.length++(⟨17,((ins.length+cL p k a+1+cL p k b+1:Nat):Int)⟩:CIns)::cN p k b (ins.length+cL p k a+1)).length:=by rw[aq];simp
     rw[e6,bl,aO,NT]at bb
     refine gz ?_ o131
     refine DK (U':=S7) ⟨rfl,st7,?_,(((((ah.trans ag).trans aJ).trans aV).trans bH).trans bG).trans bF⟩
     simpa[List.append_assoc] using bb
    ·rw[if_neg aw]at hq⊢
     have bp:=Pc aY h9 aw au
     have bP:(Jr (cN p k) x.kids ins.length).length=wtL (cL p k) x.kids:=J1 hN _ _
     refine en func131 ntmps131 ?_
     refine gf hx ?_ o131
     refine Nf [0,4,6,19,20,30,31,32,33,34,35,36,37] (fun (j:Nat) (out:List CIns) (st1:MR) (S1:Sig)=>j<=x.kids.length/\out++Jr (cN p k) (x.kids.drop j) (ins.length+out.length)=Jr (cN p k) x.kids ins.length/\BlkS ib s m st1 (ins++out) S1/\BK ib O st S1 st1) (fun j _ _ _=>[(21,dI j)]) (fun _ _ _ S1=>S1) (fun j _ _ _=>x.kids.length-j) (0) ([]) (st) (O) (by exact⟨by omega,rfl,by rw[List.append_nil];exact hB,BK.refl _ _ _⟩) (fun j out st1 S1 hI=>?_)
     obtain⟨hj,hR,ai,ah⟩:=hI
     by_cases aC:j<x.kids.length
     ·rw[Ad aC,Jr]at hR
      have aA:=congrArg List.length hR
      simp only[List.length_append,hN]at aA
      refine gf hx ?_ o131
      refine A3 (hS x.kids[j] (List.getElem_mem aC) st1 _ S1 (by rw[List.length_append];omega) ai) (fun d S2 hr=>?_) (fun d S2 hr=>by cases hr.1)
      obtain⟨q2,st2,aa,ag⟩:=hr
      cases q2
      rw[List.append_assoc,List.length_append]at aa
      refine gz ?_ o131
      exact⟨j+1,out++cN p k x.kids[j] (ins.length+out.length),st2,S2,⟨by omega,by rw[List.append_assoc,List.length_append,<-Nat.add_assoc];exact hR,aa,ah.trans ag⟩,td1,wkR⟩
     ·rw[Aj aC,Jr,List.append_nil]at hR
      subst hR
      refine gf (gi hx (gi pKV bp)) ?_ o131
      refine A3 (CS (Tx x.op) x.n (by rw[List.length_append];omega) ai) (fun d S2 hr=>?_) (fun d S2 hr=>by cases hr.1)
      obtain⟨q2,st2,aa,ag⟩:=hr
      cases q2
      refine gz ?_ o131
      refine DK (U':=S2) ⟨rfl,st2,?_,ah.trans ag⟩
      simpa[List.append_assoc] using aa
theorem M3(p:BProg)(inM:Bool)(hp:p.wt<=1073741824)(k:Nat)(n:Int)(size:Nat)(h:trE p inM k n size)(ib:Nat)(s m:D)(st:MR)(ins:List CIns)(O:Sig)(hq:ins.length+cL p k n<=1000000)(hB:BlkS ib s m st ins O):
  DCall prog 60 [.ptr ib 0,.agg (Ag p),dI n] O fun x U'=>x=.ret (dI ins.length) /\ ∃st',BlkS ib s m st' (ins++bodyC p k n ins.length) U'/\BK ib O st U' st':=by
 have hN:=OH p k
 obtain⟨q1,q2,q3⟩:=hB
 have hB:BlkS ib s m st ins O:=⟨q1,q2,q3⟩
 have fin:∀(S2:Sig) (st2:MR),BlkS ib s m st2 (ins++cN p k n ins.length++[(⟨21,0⟩:CIns)]) S2->BlkS ib s m st2 (ins++bodyC p k n ins.length) S2:=fun S2 st2 h=>by unfold bodyC;simpa[List.append_assoc] using h
 refine en func60 ntmps60 ?_
 cases aK:st with
 |none=>
  subst aK
  have h0:ins=[]:=by have:ins.map cIns=[]:=q2;simpa using this
  subst h0
  simp only[mD]at q1
  refine gf q1 ?_
  refine A3 (K6 p inM hp k n size h ib s m none [] O hq hB) (fun d S1 hr=>?_) (fun d S1 hr=>by cases hr.1)
  obtain⟨e1,st1,ai,ah⟩:=hr
  cases e1
  refine gz ?_
  refine A3 (CS 21 0 (by rw[List.length_append,hN];omega) ai) (fun d S2 hr=>?_) (fun d S2 hr=>by cases hr.1)
  obtain⟨e2,st2,aa,ag⟩:=hr
  cases e2
  refine gz ?_
  exact fin1 (U':=S2) ⟨rfl,st2,fin _ _ aa,ah.trans ag⟩
 |some x=>
  obtain⟨rr,rc,rest⟩:=x
  subst aK
  simp only[mD]at q1
  refine gf q1 ?_
  refine A3 (K6 p inM hp k n size h ib s m _ ins O hq hB) (fun d S1 hr=>?_) (fun d S1 hr=>by cases hr.1)
  obtain⟨e1,st1,ai,ah⟩:=hr
  cases e1
  refine gz ?_
  refine A3 (CS 21 0 (by rw[List.length_append,hN];omega) ai) (fun d S2 hr=>?_) (fun d S2 hr=>by cases hr.1)
  obtain⟨e2,st2,aa,ag⟩:=hr
  cases e2
  refine gz ?_
  exact fin1 (U':=S2) ⟨rfl,st2,fin _ _ aa,ah.trans ag⟩
def NC(p:BProg):CProg:=if okP p then Hc p else⟨[],[],0⟩
theorem UT(p:BProg)(O:Sig)(hp:p.wt<=1073741824):DCall prog 18 [.agg (Ag p)] O (rS (.tup [.agg (cCPg (NC p)),dI (if okP p then 0 else 2)]) O):=by
 obtain⟨p1,p2,p3,p4,p5,p6,p7⟩:=p.wt_le
 refine en func18 ntmps18 ?_
 cases hk:okP p with
 |false=>
  have hc:NC p=⟨[],[],0⟩:=by unfold NC;rw[hk];rfl
  rw[hc]
  refine gz ?_ o18 [2,15]
  refine newV (fun i hi=>?_)
  refine gf hk ?_ o18 [2,15]
  refine finC (U':=O) (d:=.tup [.agg (cCPg ⟨[],[],0⟩),dI 2]) ⟨rfl,rfl⟩ (hw:=?_)
  exact CC ⟨E6 ⟨An _ (.inl rfl),An _ (.inl rfl),A8 _,trivial⟩,A8 _,trivial⟩
 | true =>
  have hc:NC p=Hc p:=by unfold NC;rw[hk];rfl
  rw[hc]
  have aX:=TI hk
  have bO:=Vd hk
  have bM:=H7 hk
  refine gz ?_ o18 [2,15]
  refine newV (fun i2 ak=>?_)
  repeat ((fail_if_success (first|(refine boxV (T:=127) (fun ib aZ=>?_))|fail));(refine goX1 hk ?_))
  refine boxV (T:=127) (fun ib aZ=>?_)
  obtain⟨n2b,aj⟩:=B5 aZ
  refine gz ?_ o18 [2,15]
  refine Ci ib 1 1 (ds:=[.nils,.nils,dI 0]) (w6 ..) rfl (fun it bA=>?_)
  obtain⟨nbt,aP⟩:=B5 bA
  obtain⟨n2t,aD⟩:=B5 aP
  simp only[List.set_cons_succ,List.set_cons_zero]
  generalize aH:Sig.set (Sig.set (Sig.set (Sig.set O i2 _) ib _) it _) ib _=S0
  have o0:S0 ib=some (.cells [mD none ([]:List CIns).length,.slice (cI []) (.tag it),dI 0]):=by rw[<-aH,w6];rfl
  have t0:S0 it=some (.tail 1 ([]:List Int).length):=by rw[<-aH,w7 _ _ nbt,w6];rfl
  have c0:S0 i2=some (.cells [.nils,.nils,dI 0]):=by rw[<-aH,w7 _ _ n2b.symm,w7 _ _ n2t.symm,w7 _ _ n2b.symm,w6]
  have s0:Sub O S0:=fun j x hj=>by
   have k1:=Af hj ak
   have k2:=Af hj aj
   have k3:=Af hj aD
   rw[<-aH,w7 _ _ k2,w7 _ _ k3,w7 _ _ k2,w7 _ _ k1];exact hj
  have B0:BlkS ib (.slice (cI []) (.tag it)) (dI 0) none [] S0:=⟨o0,rfl,id⟩
  clear aH
  have bJ:(Bt p).length=p.methods.length:=by unfold Bt;simp
  refine loop5 [1,2,3,5,17,18,40,41,42,43,44,45,46,47,48,49,50,51,52] (fun (j:Nat) (out:List CIns) (l:List Int) (st:MR) (S1:Sig)=>j<=p.methods.length/\l.length=j/\out++BD p 12 ((Bt p).drop j) out.length=BD p 12 (Bt p) 0/\l++(GT p 12 ((Bt p).drop j) out.length).map (·.pos)=(GT p 12 (Bt p) 0).map (·.pos)/\BlkS ib (.slice (cI l) (.tag it)) (dI 0) st out S1/\S1 it=some (.tail 1 l.length) /\ ¬Fu st it/\S1 i2=some (.cells [.nils,.nils,dI 0]) /\ ¬Fu st i2/\(∀k x,O k=some x->S1 k=some x /\ ¬Fu st k)) (fun j _ _ _ _=>[(19,dI j)]) (fun _ _ _ _ S1=>S1) (fun j _ _ _ _=>p.methods.length-j) (0) ([]) ([]) (none) (S0) (by exact⟨by omega,rfl,rfl,rfl,B0,t0,id,c0,id,fun k x hk=>⟨s0 _ _ hk,id⟩⟩) (fun j out l st S1 hI=>?_)
  obtain⟨hj,bw,hR,aI,hB,bk,bn,ba,ay,hS⟩:=hI
  by_cases aC:j<p.methods.length
  ·have bu:(Bt p).drop j=⟨(p.methods[j]).node,(p.gens.getD (p.methods[j]).gen.toNat 0).toNat,LH p.methods[j]⟩::(Bt p).drop (j+1):=by
    rw[List.drop_eq_getElem_cons (by omega)];unfold Bt;simp
   have bi:=aX ⟨(p.methods[j]).node,(p.gens.getD (p.methods[j]).gen.toNat 0).toNat,LH p.methods[j]⟩ (by unfold bodsP;rw[List.mem_append];left;exact List.mem_map.2 ⟨p.methods[j],List.getElem_mem aC,rfl⟩)
   rw[bu]at hR aI
   have q1:=hB.env
   refine gz ?_ [] [2,15]
   refine mixI (id:=8) [0,1,2,3,4,5,6,7,8,9,10,11,12,13,14,15,16] [10,12,16] [5] [16] (fun s=> ∃a,s ib=some (.cells [a,.slice (cI l) (.tag it),dI 0])) ⟨_,q1⟩ ?_
   refine iP (.ptr ib 0) ?_
   refine iP (.ptr ib 0) ?_
   refine iP (.ptr ib 0) ?_
   refine iP (.ptr ib 0) ?_
   refine iP (.ptr ib 1) ?_
   refine iR (.slice (cI l) (.tag it)) (fun s ⟨a,hs⟩=>?_) ?_
   ·simp[hs]
   refine iP (.ptr ib 0) ?_
   refine iP (.agg (Ag p)) ?_
   refine iP _ ?_
   refine iP (dI (p.methods[j]).node) ?_
   have aA:=congrArg List.length hR
   simp only[BD,List.length_append,E2]at aA
   refine iW (fun s=> ∃a,s ib=some (.cells [a,.slice (cI l) (.tag it),dI 0])) (M3 p _ hp 12 _ _ bi ib _ _ st out S1 ?_ hB) (fun d S2 hr=>?_) (fun d S2 hr=>by cases hr.1)
   ·have aS:(Hc p).ins.length=(BD p 12 (Bt p) 0).length+(bodyC p 12 p.main (LL p)).length:=by unfold Hc;rw[List.length_append]
    show out.length+cL p 12 (p.methods[j]).node<=1000000
    omega
   obtain⟨e2,st2,aa,ag⟩:=hr
   cases e2
   have nbt':ib≠it:=fun e=>nbt e.symm
   obtain⟨bj,ax⟩:=ag _ _ bk (fun e=>nbt e) bn
   obtain⟨aU,aM⟩:=ag _ _ ba (fun e=>n2b e.symm) ay
   refine⟨⟨_,aa.env⟩,?_⟩
   refine iP (.slice [[dI out.length]] .clip) ?_
   refine iE (d:=.slice (cI l++[[dI out.length]]) (.tag it)) (U':=S2.set it (.tail 1 (l.length+1))) (fun s=> ∃a,s ib=some (.cells [a,.slice (cI l) (.tag it),dI 0])) ⟨_,by rw[w7 _ _ nbt'];exact aa.env⟩ ?_ (he:=?_)
   rotate_left
   ·simp[bj];omega
   refine iP (.ptr ib 0) ?_
   refine iP (.ptr ib 0) ?_
   refine iP (.ptr ib 1) ?_
   refine iS (d:=.any) (U':=(S2.set it (.tail 1 (l.length+1))).set ib (.cells [mD st2 (out++bodyC p 12 (p.methods[j]).node out.length).length,.slice (cI l++[[dI out.length]]) (.tag it),dI 0])) (fun _=>True) trivial ?_ (he:=?_)
   rotate_left
   ·simp[aa.env,w7 _ _ nbt']
   refine iN ?_
   refine gz ?_ o18 [2,15]
   rw[BD]at hR
   rw[GT]at aI
   generalize aG:Sig.set (Sig.set S2 it _) ib _=S3
   have o3:S3 ib=some (.cells [mD st2 (out++bodyC p 12 (p.methods[j]).node out.length).length,.slice (cI (l++[(out.length:Int)])) (.tag it),dI 0]):=by rw[<-aG,w6];simp[cI]
   have t3:S3 it=some (.tail 1 (l++[(out.length:Int)]).length):=by rw[<-aG,w7 _ _ nbt,w6,List.length_append];rfl
   have c3:S3 i2=some (.cells [.nils,.nils,dI 0]):=by rw[<-aG,w7 _ _ n2b.symm,w7 _ _ n2t.symm];exact aU
   have B3:BlkS ib (.slice (cI (l++[(out.length:Int)])) (.tag it)) (dI 0) st2 (out++bodyC p 12 (p.methods[j]).node out.length) S3:=⟨o3,aa.row.keep fun k x hk hr=>by
    rw[<-aG,w7 _ _ fun e=>aa.nr (by rw[<-e];exact hr),w7 _ _ fun e=>ax (by rw[<-e];exact hr)];exact hk,aa.nr⟩
   have s3:∀k x,O k=some x->S3 k=some x /\ ¬Fu st2 k:=fun k x hk=>by
    have k2:=Af hk aj
    have k3:=Af hk aD
    obtain⟨h1,h2⟩:=hS _ _ hk
    obtain⟨h3,h4⟩:=ag k x h1 k2 h2
    exact⟨by rw[<-aG,w7 _ _ k2,w7 _ _ k3];exact h3,h4⟩
   exact⟨j+1,out++bodyC p 12 (p.methods[j]).node out.length,l++[(out.length:Int)],st2,S3,⟨by omega,by rw[List.length_append,bw];rfl,by rw[List.append_assoc,List.length_append,E2];exact hR,by rw[List.append_assoc,List.length_append,E2];exact aI,B3,t3,ax,c3,aM,s3⟩,td1,wkR⟩
  ·rw[List.drop_eq_nil_of_le (by omega),BD,List.append_nil]at hR
   rw[List.drop_eq_nil_of_le (by omega),GT,List.map_nil,List.append_nil]at aI
   have bh:=aX ⟨p.main,0,false⟩ (by unfold bodsP;simp)
   have aS:(Hc p).ins=out++bodyC p 12 p.main out.length:=by unfold Hc LL;rw[<-hR]
   have aT:=congrArg List.length aS
   rw[List.length_append,E2]at aT
   have q1:=hB.env
   refine gz ?_ o18 [2,15]
   refine A3 (M3 p _ hp 12 _ _ bh ib _ _ st out S1 (show out.length+cL p 12 p.main<=1000000 by omega) hB) (fun d S2 hr=>?_) (fun d S2 hr=>by cases hr.1)
   obtain⟨e2,st2,aa,ag⟩:=hr
   cases e2
   obtain⟨τ,hD,hm,ar,aq⟩:=aa.row.mS
   obtain⟨aU,aM⟩:=ag _ _ ba (fun e=>n2b e.symm) ay
   have k2:τ i2=some (.cells [.nils,.nils,dI 0]):=ar _ _ aU aM
   have kb:τ ib=some (.cells [mD st2 (out++bodyC p 12 p.main out.length).length,.slice (cI l) (.tag it),dI 0]):=ar _ _ aa.env aa.nr
   have kS:Sub O τ:=fun k x hk=>by
    have e1:=Af hk aj
    obtain⟨h1,h2⟩:=hS _ _ hk
    obtain⟨h3,h4⟩:=ag k x h1 e1 h2
    exact ar _ _ h3 h4
   rw[hD]
   refine mfrC (i:=ib) [] [.slice (cI l) (.tag it),dI 0] ?_ (by rw[kb,List.length_map];rfl) hm
   simp only[List.nil_append]
   rw[<-aS]
   have n2b':=n2b.symm
   refine gf k2 ?_ o18 [2,15]
   have aK:(Hc p).starts=l:=aI.symm
   have bt:(Hc p).main=out.length:=by unfold Hc LL;rw[<-hR]
   refine finC (U':=O) (d:=.tup [.agg (cCPg (Hc p)),dI 0]) ⟨rfl,rfl⟩ (hU:=(kS.set aj).set ak) (hw:=?_)
   unfold cCPg
   rw[aK,bt]
   exact CC ⟨E6 ⟨A8 _,Bv _ _,A8 _,trivial⟩,A8 _,trivial⟩
def Lt(a b:CProg):Bool:=decide (a.ins=b.ins)&&(decide (a.starts=b.starts)&&decide (a.main=b.main))
theorem UR(a b:CProg)(O:Sig)(h1:a.ins.length<=1073741824)(h2:b.ins.length<=1073741824)(h3:a.starts.length<=1073741824)(h4:b.starts.length<=1073741824):DCall prog 31 [.agg (cCPg a),.agg (cCPg b)] O (rS (.bool (Lt a b)) O):=by
 have hs:∀l m:List CIns,(h:l.length=m.length)->(∀k (h1:k<l.length) (h2:k<m.length),l[k]=m[k])->l=m:=fun l m h h2=>List.ext_getElem h fun k h3 h4=>h2 k h3 h4
 refine en func31 ntmps31 ?_
 by_cases hc:a.ins.length=b.ins.length/\a.starts=b.starts/\a.main=b.main
 ·obtain⟨c1,c2,c3⟩:=hc
  have hS:Lt a b=decide (a.ins=b.ins):=by unfold Lt;rw[c2,c3];simp
  have bE:(a.starts==b.starts)=true:=by rw[c2];simp
  rw[hS]
  refine gf (gi c1 (gi c2 (gi c3 bE))) ?_ o31
  refine CG [2,3] (fun (k:Nat)=>k<=a.ins.length /\ ∀j (h1:j<a.ins.length) (h2:j<b.ins.length),j<k->a.ins[j]=b.ins[j]) (fun k=>[(5,dI k)]) (fun _=>O) (fun k=>a.ins.length-k) (0) (by exact⟨by omega,fun j _ _ h=>by omega⟩) (fun k hI=>?_)
  obtain⟨hk,hE⟩:=hI
  by_cases aB:k<a.ins.length
  ·have bL:k<b.ins.length:=by omega
   refine gf c1 ?_ o31
   refine In (r:=decide (a.ins[k]=b.ins[k])) (xs:=cIns a.ins[k]) (ys:=cIns b.ins[k]) Ac VD rfl rfl rfl rfl Vt (eqIns _ _) ?_
   by_cases hx:a.ins[k]=b.ins[k]
   ·refine gf hx ?_ o31
    exact⟨k+1,⟨by omega,fun j h1 h2 h3=>by by_cases e:j=k;(subst e;exact hx);exact hE j h1 h2 (by omega)⟩,td1,wkR⟩
   ·have hne:¬a.ins=b.ins:=fun e=>hx (by simp[e])
    refine gf hx ?_ o31
    exact fe1 hne
  ·have a8:a.ins=b.ins:=hs _ _ c1 fun j h1 h2=>hE j h1 h2 (by omega)
   refine gf a8 ?_ o31
   exact fe1 a8
 ·have hS:Lt a b=false:=by
   unfold Lt
   rw[Bool.and_eq_false_iff,Bool.and_eq_false_iff,decide_eq_false_iff_not,decide_eq_false_iff_not,decide_eq_false_iff_not]
   by_cases c1:a.ins=b.ins
   ·by_cases c2:a.starts=b.starts
    ·exact .inr (.inr fun c3=>hc ⟨by rw[c1],c2,c3⟩)
    ·exact .inr (.inl c2)
   ·exact .inl c1
  rw[hS]
  repeat' first|refine gz ?_ o31|apply gy<;>intro hh
  any_goals (first|exact fe1 trivial|fail)
  all_goals exact absurd ⟨‹a.ins.length=b.ins.length›, by simpa using ‹(a.starts==b.starts)=true›, ‹a.main=b.main›⟩ hc
theorem Qj(a b:CProg):Lt a b=true ↔ a=b:=by
 cases a;cases b
 unfold Lt
 simp
theorem P1(a:CProg):Lt a a=true:=(Qj a a).2 rfl
def cVal(v:MVal):List D:=[dI v.kind,dI v.n]
@[simp] theorem cVal_len(v:MVal):(cVal v).length=2:=rfl
@[simp] theorem cVal_flat(v:MVal):BC (cVal v)=true:=rfl
theorem Ox:EqTy prog 40:=⟨by kernel_rfl,by kernel_rfl,by kernel_rfl⟩
theorem Oc:(tab 40).k=.struct [(0,38),(1,3)]:=rfl
theorem UY(a b:MVal):eqFs tab (cVal a) (cVal b) [(0,38),(1,3)]=some (decide (a=b)):=by
 cases a;cases b
 simp[cVal,MVal.mk.injEq,Bool.decide_and]
theorem SH(v:MVal)(O:Sig):DCall prog 183 [.agg (cVal v)] O (rS (dI (AK v)) O):=by
 refine en func183 ntmps183 ?_
 repeat' first|refine gz ?_|apply gy<;>intro hh
 any_goals (first|(refine fin1 (U':=O) ?_;exact⟨by first|rfl|(simp[AK,hh];done)|(simp_all [AK,hh];done)|(rw[Am,Bool.eq_iff_iff];simp_all [AK,hh]<;>omega),rfl⟩)|fail)
@[reducible,instance] def a183:=fun v O=>ah0 (@SH v O)
theorem SG(b:Bool)(O:Sig):DCall prog 184 [.bool b] O (rS (dI (Dt b)) O):=by
 refine en func184 ntmps184 ?_
 repeat' first|refine gz ?_|apply gy<;>intro hh
 any_goals (first|(refine fin1 (U':=O) ?_;exact⟨by first|rfl|(simp[Dt,hh];done)|(simp_all [Dt,hh];done)|(rw[Am,Bool.eq_iff_iff];simp_all [Dt,hh]<;>omega),rfl⟩)|fail)
@[reducible,instance] def a184:=fun b O=>ah0 (@SG b O)
theorem Mj(v:MVal)(N:Int)(O:Sig):DCall prog 175 [.agg (cVal v),dI N] O (rS (.bool (okV N v)) O):=by
 refine en func175 ntmps175 ?_
 repeat' first|refine gz ?_|apply gy<;>intro hh
 any_goals (first|(refine fin1 (U':=O) ?_;exact⟨by first|rfl|(simp[okV,hh];done)|(simp_all [okV,hh];done)|(rw[Am,Bool.eq_iff_iff];simp_all [okV,hh]<;>omega),rfl⟩)|fail)
theorem Mk(v:MVal)(N:Int)(O:Sig):DCall prog 174 [.agg (cVal v),.cptr [dI N] 0] O (rS (.bool (!okV N v)) O):=by
 refine en func174 ntmps174 ?_
 repeat' first|refine gz ?_|refine Ca (Mj v N O) ?_|refine callP (Mj v N O) ?_|refine gz ?_|apply gy<;>intro hh
 exact fe1 trivial
theorem Mp(v:MVal)(N:Int)(O:Sig):DCall prog 104 [.agg (cVal v),.cptr [dI N] 0] O (rS (.bool (!okV N v)) O):=by
 refine en func104 ntmps104 ?_
 repeat' first|refine gz ?_|apply gy<;>intro hh
 rotate_left 4
 ·refine neqS _ (decide (v=E8)) Ox Oc (UY v E8) ?_
  refine gz ?_
  refine fin1 (U':=O) ?_
  refine⟨?_,rfl⟩
  rw[Am,Bool.eq_iff_iff]
  obtain⟨k,m⟩:=v
  unfold okV E8
  simp_all
 all_goals
  refine fin1 (U':=O) ?_
  refine⟨?_,rfl⟩
  rw[Am,Bool.eq_iff_iff]
  unfold okV
  simp_all
  try omega
theorem Mi(l:List MVal)(p:MVal->Bool)(g:Nat)(cap:List D)(o:Own)(O:Sig)(hl:l.length<=1073741824)(hg:∀v∈l,DCall prog g ([]++[.agg (cVal v)]++cap) O (rS (.bool (p v)) O)):DCall prog 176 [.slice (l.map cVal) o,.func (.func g) [] cap] O (rS (dI (idxF p l 0)) O):=by
 refine en func176 ntmps176 ?_
 refine gz ?_
 refine CG [0,1,7] (fun (k:Nat)=>k<=l.length/\idxF p l 0=idxF p (l.drop k) k) (fun k=>[(8,dI k)]) (fun _=>O) (fun k=>l.length-k) (0) (by simp) (fun k hI=>?_)
 obtain⟨hk,hR⟩:=hI
 by_cases h:k<l.length
 ·rw[Ad h,idxF]at hR
  repeat' first|refine Ca (hg (l[k]) (List.getElem_mem h)) ?_|refine callP (hg (l[k]) (List.getElem_mem h)) ?_|refine gz ?_|apply gy<;>intro hh
  ·rw[hh]at hR
   exact fe1 hR
  ·rw[hh]at hR
   exact⟨k+1,⟨by omega,hR⟩,td1,wkR⟩
 ·rw[Aj h,idxF]at hR
  refine gz ?_
  exact fe1 hR
theorem Gy(l:List MVal)(p:MVal->Bool)(g:Nat)(cap:List D)(o:Own)(O:Sig)(hl:l.length<=1073741824)(hg:∀v∈l,DCall prog g ([]++[.agg (cVal v)]++cap) O (rS (.bool (p v)) O)):DCall prog 103 [.slice (l.map cVal) o,.func (.func g) [] cap] O (rS (.bool (l.any p)) O):=by
 refine en func103 ntmps103 ?_
 repeat' first|refine gz ?_|refine Ca (Mi l p g cap _ _ hl hg) ?_|refine callP (Mi l p g cap _ _ hl hg) ?_|refine gz ?_|apply gy<;>intro hh
 rw[<-D7 p l 0]
 exact fe1 trivial
theorem T9(l:List MVal)(N:Int)(o:Own)(O:Sig)(hl:l.length<=1073741824):DCall prog 102 [.slice (l.map cVal) o,dI N] O (rS (.bool (okVs N l)) O):=by
 refine en func102 ntmps102 ?_
 repeat' first|refine gz ?_|refine Ca (Gy l (fun v=> !okV N v) 174 [.cptr [dI N] 0] _ _ hl (fun v _=>Mk v N _)) ?_|refine callP (Gy l (fun v=> !okV N v) 174 [.cptr [dI N] 0] _ _ hl (fun v _=>Mk v N _)) ?_|refine gz ?_|apply gy<;>intro hh
 (refine fin1 (U':=O) ?_;exact⟨by first|rfl|(simp[okVs];done)|(simp_all [okVs];done)|(rw[Am,Bool.eq_iff_iff];simp_all [okVs]<;>omega),rfl⟩)
@[reducible,instance] def a102:=fun l N o O=>ah1 (@T9 l N o O)
theorem UQ(l:List MVal)(N:Int)(o:Own)(O:Sig)(hl:l.length<=1073741824):DCall prog 46 [.slice (l.map cVal) o,dI N] O (rS (.bool (okVs N l)) O):=by
 refine en func46 ntmps46 ?_
 repeat' first|refine gz ?_|refine Ca (Gy l (fun v=> !okV N v) 104 [.cptr [dI N] 0] _ _ hl (fun v _=>Mp v N _)) ?_|refine callP (Gy l (fun v=> !okV N v) 104 [.cptr [dI N] 0] _ _ hl (fun v _=>Mp v N _)) ?_|refine gz ?_|apply gy<;>intro hh
 (refine fin1 (U':=O) ?_;exact⟨by first|rfl|(simp[okVs];done)|(simp_all [okVs];done)|(rw[Am,Bool.eq_iff_iff];simp_all [okVs]<;>omega),rfl⟩)
@[reducible,instance] def a46:=fun l N o O=>ah1 (@UQ l N o O)
section
variable {ro:Ro}{n:Nat}{ops:Array Oper}{N:Nat}{S0:Sig}{Q:DX->St->Prop}{df:List DDf}{rest:List Oper}{γ Sr:List (Nat×D)}{O:Sig}{t:Nat}{ty:TypeId}{pos:String}{after:Array Edge}{d:D}
theorem cutH{T e i off len cap hi:Nat}{k:IntKind}{x y:Operand}(h:DOps prog ro n ops Q rest ⟨(t,.sref i off hi cap)::γ,O,df⟩)(bC:hi<=cap)
  (hl:A0 γ (A5 [x,y])=some Sr:=by exact tdR) (h1:ev Sr x=.sref i off len cap:=by exact tdR) (h2:ev Sr y=.int k hi:=by exact tdR) (hk:(tab T).k=.slice e:=by(simp<;>rfl)) (he:A1 (tab e).k=false:=by simp) (bf:decide (t<n)=true:=by exact tdR) :
  DOps prog ro n ops Q (⟨some t,.slice T x none (some y) none,ty,pos,after,none⟩::rest) ⟨γ,O,df⟩:=by
 obtain⟨e1,e2⟩:=evs hl
 refine By (fun d U'=>d=.sref i off hi cap/\U'=O) rfl (fun c e=>by cases e) (Aa fun c e=>by cases e) (by simp only[Ap];exact bf) ?_
  (fun d U' ⟨a2,a3⟩=>by subst a2 a3;exact h)
 intro g w a hs hT
 have hx:=Ai hT x
 have hy:=Ai hT y
 rw[<-e1,h1]at hx
 rw[<-e2,h2]at hy
 obtain⟨r,h4,h5⟩:=NW (w:=w) Ac hk he hx hy bC
 exact⟨g,w,r,_,O,by simp only[execOp,Option.map_some,Option.map_none,Sem.run_bind,h4,Result.andThen_ok,Sem.run_pure],.refl g,hs,h5,rfl,rfl⟩
end
def cEv(e:MEv):List D:=[dI e.deed,dI e.n,.slice (e.vals.map cVal) .clip]
def tCells(S:Nat->RW)(l:List MThing):List (List D):=l.mapIdx fun k o=>[dI o.cls,(S k).d o.slots.length]
def rCt(R:Nat->RW)(s:GoS):Nat->List (List D)
 |0=>s.stk.map cVal
 |1=>s.env.map cVal
 |2=>s.evs.map cEv
 |3=>tCells (fun k=>R (k+4)) s.objs
 |k+4=>((s.objs[k]?).getD ⟨0,[]⟩).slots.map cVal
def rSz(a:Nat):Nat:=if a=2 then 3 else 2
abbrev AO(p:BProg)(R:Nat->RW)(s:GoS):List D:=[dI 0,dI 0,dI 0,dI 0,.nils,dI 0,dI 0,.nils,.nils,(R 3).d s.objs.length,(R 2).d s.evs.length]++Ag p++[dI s.pos,(R 0).d s.stk.length,(R 1).d s.env.length]
structure RunS(ir:Nat)(p:BProg)(R:Nat->RW)(s:GoS)(O:Sig):Prop where
 obj:O ir=some (.cells (AO p R s))
 rows:Rows O R rSz (rCt R s)
 ni:∀a, ¬(R a).is ir
 nf:∀a es,R a=.full es->es=[]
def RunK(ir:Nat)(R:Nat->RW)(O:Sig)(R':Nat->RW)(U':Sig):Prop:= ∀j o,O j=some o->j≠ir->(∀a, ¬(R a).is j)->U' j=some o /\ ∀a, ¬(R' a).is j
theorem RunK.refl(ir:Nat)(R:Nat->RW)(O:Sig):RunK ir R O R O:=fun _ _ h _ k=>⟨h,k⟩
theorem RunK.trans{ir:Nat}{R R1 R2:Nat->RW}{O S1 S2:Sig}(h:RunK ir R O R1 S1)(k:RunK ir R1 S1 R2 S2):RunK ir R O R2 S2:=fun j o hj hi hn=>k j o (h j o hj hi hn).1 hi (h j o hj hi hn).2
section
variable {ir:Nat}{p:BProg}{R:Nat->RW}{s:GoS}{O:Sig}
theorem RunS.row(h:RunS ir p R s O)(a:Nat)(hne:rCt R s a≠[]): ∃i c cs,R a=.row i c cs:=by
 have hk:=h.rows.ok a
 cases hR:R a with
 |nil=>rw[hR]at hk;exact absurd hk hne
 |full es=>rw[hR]at hk;obtain⟨h1,_⟩:=hk;rw[h.nf a es hR]at h1;exact absurd h1 hne
 |row i c cs=>exact⟨i,c,cs,rfl⟩
theorem RunS.put(h:RunS ir p R s O){a:Nat}{i c:Nat}{cs:List D}{es':List (List D)}{s':GoS}{S1:Sig}{ds:List D}(hr:RWAt S1 (rSz a) (.row i c cs) es')(hk:RWK O (R a) S1 (.row i c cs))(aR:∀b,rCt (updF R a (.row i c cs)) s' b=updF (rCt R s) a es' b)(hd:ds=AO p (updF R a (.row i c cs)) s'):
  RunS ir p (updF R a (.row i c cs)) s' (S1.set ir (.cells ds))/\RunK ir R O (updF R a (.row i c cs)) (S1.set ir (.cells ds)):=by
 obtain⟨k1,k2⟩:=hk ir _ h.obj (h.ni a)
 have hR:=(h.rows.upd hr hk).retell aR
 have aL:∀b, ¬(updF R a (.row i c cs) b).is ir:=fun b=>by
  by_cases e:b=a
  ·subst e;rw[Ah];exact k2
  ·rw[A7 _ _ e];exact h.ni b
 refine⟨⟨by rw[w6,hd],hR.keep fun j o hj ⟨b,hb⟩=>by rw[w7 _ _ fun e=>aL b (by rw[<-e];exact hb)];exact hj,aL,fun b es hb=>?_⟩,fun j o hj ap hn=>⟨by rw[w7 _ _ ap];exact(hk j o hj (hn a)).1,fun b=>?_⟩⟩
 ·by_cases e:b=a
  ·subst e;rw[Ah]at hb;cases hb
  ·rw[A7 _ _ e]at hb;exact h.nf b es hb
 ·by_cases e:b=a
  ·subst e;rw[Ah];exact(hk j o hj (hn b)).2
  ·rw[A7 _ _ e];exact hn b
theorem RunS.re(h:RunS ir p R s O){a:Nat}{i c:Nat}{cs:List D}{es':List (List D)}{s':GoS}{ds:List D}(hr:RWAt O (rSz a) (.row i c cs) es')(hi:∀j,(RW.row i c cs).is j->(R a).is j)(aR:∀b,rCt (updF R a (.row i c cs)) s' b=updF (rCt R s) a es' b)(hd:ds=AO p (updF R a (.row i c cs)) s'):
  RunS ir p (updF R a (.row i c cs)) s' (O.set ir (.cells ds))/\RunK ir R O (updF R a (.row i c cs)) (O.set ir (.cells ds)):=by
 have hR:=(h.rows.re hr hi).retell aR
 have aQ:∀b j,(updF R a (.row i c cs) b).is j->(R b).is j:=fun b j hb=>by
  by_cases e:b=a
  ·subst e;rw[Ah]at hb;exact hi j hb
  ·rwa [A7 _ _ e]at hb
 refine⟨⟨by rw[w6,hd],hR.keep fun j o hj ⟨b,hb⟩=>by rw[w7 _ _ fun e=>h.ni b (by rw[<-e];exact aQ b j hb)];exact hj,fun b hb=>h.ni b (aQ b _ hb),fun b es hb=>?_⟩,fun j o hj ap hn=>⟨by rw[w7 _ _ ap];exact hj,fun b hb=>hn b (aQ b j hb)⟩⟩
 by_cases e:b=a
 ·subst e;rw[Ah]at hb;cases hb
 ·rw[A7 _ _ e]at hb;exact h.nf b es hb
@[simp] theorem EE(i c n:Nat)(cs:List D):(RW.row i c cs).d n=.sref i 0 n c:=rfl
@[simp] theorem cVal_tk(v:MVal):List.take 2 (cVal v)=cVal v:=rfl
@[simp] theorem cVal_mem(v:MVal)(d:D):(d∈cVal v)=(d=dI v.kind\/d=dI v.n):=by simp[cVal]
theorem Bm{l:List MVal}: ∀c∈l.map cVal,c.length=2:=fun c h=>by obtain⟨v,_,rfl⟩:=List.mem_map.1 h;rfl
theorem Fe(R:Nat->RW)(a:Nat)(r:RW)(ha:a<4)(l:List MThing):tCells (fun k=>updF R a r (k+4)) l=tCells (fun k=>R (k+4)) l:=by
 unfold tCells
 congr 1
 funext k o
 simp only[A7 R r (show k+4≠a by omega)]
theorem rCt_0(R:Nat->RW)(r:RW)(s:GoS)(l:List MVal)(b:Nat):rCt (updF R 0 r) { s with stk:=l } b=updF (rCt R s) 0 (l.map cVal) b:=by
 match b with
 |0=>rfl
 |1=>rfl
 |2=>rfl
 |3=>exact Fe R 0 r (by omega) _
 |k+4=>rfl
theorem rCt_1(R:Nat->RW)(r:RW)(s:GoS)(l:List MVal)(b:Nat):rCt (updF R 1 r) { s with env:=l } b=updF (rCt R s) 1 (l.map cVal) b:=by
 match b with
 |0=>rfl
 |1=>rfl
 |2=>rfl
 |3=>exact Fe R 1 r (by omega) _
 |k+4=>rfl
theorem rCt_2(R:Nat->RW)(r:RW)(s:GoS)(l:List MEv)(b:Nat):rCt (updF R 2 r) { s with evs:=l } b=updF (rCt R s) 2 (l.map cEv) b:=by
 match b with
 |0=>rfl
 |1=>rfl
 |2=>rfl
 |3=>exact Fe R 2 r (by omega) _
 |k+4=>rfl
theorem Bl(v:MVal)(hR:RunS ir p R s O)(hn:s.stk.length<=1000000):DCall prog 177 [.ptr ir 0,.agg (cVal v)] O fun x U'=>x=.ret (.bool false) /\ ∃R',RunS ir p R' { s with stk:=s.stk++[v] } U'/\RunK ir R O R' U':=by
 have q1:=hR.obj
 have q0:RWAt O 2 (R 0) (s.stk.map cVal):=hR.rows.ok 0
 have u1:(O.out (R 0).is) ir=some (.cells (AO p R s)):=D2 q1 (hR.ni 0)
 refine en func177 ntmps177 ?_
 refine gf q1 ?_
 refine EP (id:=1) [0,1,2,3,4,5,6,7,8,9,10,11] [8] (O.out (R 0).is) (C1 _ _) ?_
 refine gf u1 ?_ o177
 refine Gb (es:=s.stk.map cVal) (fun i c cs S2 ay aq=>?_) (fun j o h=>Cf h) (hm:=q0)
 obtain⟨v1,v2⟩:=aq _ _ q1 (hR.ni 0)
 refine gf v1 ?_ o177
 rw[show s.stk.map cVal++[cVal v]=(s.stk++[v]).map cVal by simp]at ay
 obtain⟨p1,p2⟩:=hR.put (a:=0) (s':={ s with stk:=s.stk++[v] }) ay aq (rCt_0 R _ s _) rfl
 refine fin1 (U':=_) ⟨rfl,_,p1,p2⟩ (hU:=?_)
 simp[AO,Ag]
 exact Sub.refl _
theorem Kr(l:List MVal)(v:MVal)(m:List MVal)(cs:List D):List.take 2 (List.drop (l.length*2) (((l++v::m).map cVal).flatten++cs))=cVal v:=by
 have e:((l++v::m).map cVal).flatten++cs=(l.map cVal).flatten++(cVal v++((m.map cVal).flatten++cs)):=by simp
 have h:(l.map cVal).flatten.length=l.length*2:=by rw[Av Bm];simp
 rw[e,<-h,List.drop_left];rfl
theorem FF(l:List MVal)(cs:List D):((l.map cVal).flatten++cs).length=l.length*2+cs.length:=by
 rw[List.length_append,Av Bm];simp
theorem BS(r:List MVal)(v:MVal)(hR:RunS ir p R s O)(hs:s.stk=r++[v])(hn:s.stk.length<=1000000):DCall prog 181 [.ptr ir 0] O fun x U'=>x=.ret (.agg (cVal v)) /\ ∃R',RunS ir p R' { s with stk:=r } U'/\RunK ir R O R' U':=by
 have q1:=hR.obj
 obtain⟨i,c,cs,h0⟩:=hR.row 0 (by rw[rCt,hs];simp)
 have q0:RWAt O 2 (R 0) (s.stk.map cVal):=hR.rows.ok 0
 have aL:=hR.ni 0
 rw[h0,hs]at q0
 rw[h0]at aL
 have hl:s.stk.length=r.length+1:=by rw[hs];simp
 unfold AO at q1
 rw[h0,hl]at q1
 simp only[EE]at q1
 obtain⟨z1,z2,z3,z4⟩:=q0
 have hv:=Kr r v [] cs
 have bI:((List.map cVal (r++[v])).flatten++cs).length=(r.length+1)*2+cs.length:=by rw[FF];simp
 refine en func181 ntmps181 ?_
 refine gz ?_ [] [2]
 refine newV (fun i2 ak=>?_)
 have n1:ir≠i2:=fun e=>by rw[<-e,hR.obj]at ak;cases ak
 have n2:i≠i2:=fun e=>by rw[<-e,z1]at ak;cases ak
 have q2:(O.set i2 (.cells [.int .i64 0,.int .i64 0])) ir=_:=(w7 _ _ n1).trans q1
 have q3:(O.set i2 (.cells [.int .i64 0,.int .i64 0])) i=_:=(w7 _ _ n2).trans z1
 have hr:RWAt O 2 (.row i c (cVal v++cs)) (r.map cVal):=⟨by rw[z1];simp,by rw[<-List.append_assoc];simpa using z2,by simp only[List.length_map,List.length_append,List.length_singleton]at z3⊢; omega,Bm⟩
 generalize (List.map cVal (r++[v])).flatten++cs=L at*
 have aA:r.length*2+2<=L.length:=by omega
 refine gf (gi q1 (gi z1 (gi hv aA))) ?_ [] [2]
 simp only[List.length_map,List.length_append,List.length_singleton]at z3
 refine cutH (i:=i) (off:=0) (len:=r.length+1) (cap:=c) (hi:=r.length) ?_ (by omega)
 refine gf q1 ?_ [] [2]
 obtain⟨p1,p2⟩:=hR.re (a:=0) (s':={ s with stk:=r }) hr (by rw[h0];exact fun j h=>h) (rCt_0 R _ s _) rfl
 refine finC (U':=_) ⟨rfl,_,p1,p2⟩ (hU:=fun j o hj=>?_)
 by_cases e:j=ir
 ·subst e;rw[w6]at hj;rw[w7 _ _ n1,w6,<-hj];rfl
 ·rw[w7 _ _ e]at hj
  have e2:j≠i2:=fun h=>by rw[h,ak]at hj;cases hj
  rw[w7 _ _ e2,w7 _ _ e,w7 _ _ e2];exact hj
end
abbrev Og(p:BProg)(R:Nat->RW)(s:GoS)(av:D)(b:Bool)(h:GoH):List D:=
 [dI h.kind,dI h.val.kind,dI h.val.n,dI h.gen,av,dI h.fin]++(if b then [dI s.pos,(R 0).d s.stk.length,(R 1).d s.env.length] else [dI 0,.nils,.nils])++[(R 3).d s.objs.length,(R 2).d s.evs.length]++Ag p++[dI s.pos,(R 0).d s.stk.length,(R 1).d s.env.length]
structure HaltS(ir:Nat)(p:BProg)(R:Nat->RW)(s:GoS)(av:D)(b:Bool)(h:GoH)(O:Sig):Prop where
 obj:O ir=some (.cells (Og p R s av b h))
 rows:Rows O R rSz (rCt R s)
 ni:∀a, ¬(R a).is ir
 nf:∀a es,R a=.full es->es=[]
 args:WkD av (sl (h.args.map cVal))
 objs:h.objs=s.objs
 evs:h.evs=s.evs
 st:if b then h.pos=s.pos/\h.stk=s.stk/\h.env=s.env else h.pos=0/\h.stk=[]/\h.env=[]
section
variable {ir:Nat}{p:BProg}{R:Nat->RW}{s:GoS}{O:Sig}
theorem RunS.halt(h:RunS ir p R s O){av:D}{b:Bool}{k:GoH}{ds:List D}(hd:ds=Og p R s av b k)(ha:WkD av (sl (k.args.map cVal)))(ho:k.objs=s.objs)(he:k.evs=s.evs)(hs:if b then k.pos=s.pos/\k.stk=s.stk/\k.env=s.env else k.pos=0/\k.stk=[]/\k.env=[]):
  HaltS ir p R s av b k (O.set ir (.cells ds))/\RunK ir R O R (O.set ir (.cells ds)):=
 ⟨⟨by rw[w6,hd],h.rows.keep fun j o hj ⟨b,hb⟩=>by rw[w7 _ _ fun e=>h.ni b (by rw[<-e];exact hb)];exact hj,h.ni,h.nf,ha,ho,he,hs⟩,fun j o hj ap hn=>⟨by rw[w7 _ _ ap];exact hj,hn⟩⟩
theorem rCt_pos(R:Nat->RW)(s:GoS)(q:Int)(b:Nat):rCt R { s with pos:=q } b=rCt R s b:=by
 match b with
 |0=>rfl
 |1=>rfl
 |2=>rfl
 |3=>rfl
 |k+4=>rfl
theorem RunS.at(h:RunS ir p R s O)(q:Int){ds:List D}(hd:ds=AO p R { s with pos:=q }):RunS ir p R { s with pos:=q } (O.set ir (.cells ds))/\RunK ir R O R (O.set ir (.cells ds)):=
 ⟨⟨by rw[w6,hd],(h.rows.retell (rCt_pos R s q)).keep fun j o hj ⟨b,hb⟩=>by rw[w7 _ _ fun e=>h.ni b (by rw[<-e];exact hb)];exact hj,h.ni,h.nf⟩,fun j o hj ap hn=>⟨by rw[w7 _ _ ap];exact hj,hn⟩⟩
theorem TY{ds:List D}{r0 r1:RW}{a:Int}{n m k:Nat}(h:O ir=some (.cells ds))(hl:k+3<=ds.length):DN tab O 34 (.ptr ir k) (.agg [dI a,r0.d n,r1.d m])=some (.any,O.set ir (.cells (ds.take k++[dI a,r0.d n,r1.d m]++ds.drop (k+3)))):=by
 have hf:¬ds.length<k+3:=by omega
 cases r0<;>cases r1<;>simp[DN,h,RW.d,hf]
theorem Kw{ro:Ro}{n:Nat}{ops:Array Oper}{Q:DX->St->Prop}{df:List DDf}{rest:List Oper}{γ Sr:Fr}{ty:TypeId}{pos:String}{after:Array Edge}{x y:Operand}{ds:List D}{r0 r1:RW}{a:Int}{m m' k:Nat}(hc:O ir=some (.cells ds))(h:DOps prog ro n ops Q rest ⟨γ,O.set ir (.cells (ds.take k++[dI a,r0.d m,r1.d m']++ds.drop (k+3))),df⟩)
  (hl:A0 γ (A5 [x,y])=some Sr:=by exact tdR) (h1:ev Sr x=.ptr ir k:=by exact tdR) (h2:ev Sr y=.agg [dI a,r0.d m,r1.d m']:=by exact tdR) (hlen:k+3<=ds.length:=by simp) :
  DOps prog ro n ops Q (⟨none,.store 34 x y,ty,pos,after,none⟩::rest) ⟨γ,O,df⟩:=
 DO Ac (d:=.any) hl (by show DN tab O 34 (ev Sr x) (ev Sr y)=_;rw[h1,h2];exact TY hc hlen) h
theorem Gw(e:Int)(stk:List MVal)(hR:RunS ir p R s O):DCall prog 178 [.ptr ir 0,dI e] O fun x U'=>x=.ret (.bool true)/\HaltS ir p R s .nils false (FO s e stk) U'/\RunK ir R O R U':=by
 have q1:=hR.obj
 refine en func178 ntmps178 ?_
 refine gf q1 ?_
 obtain⟨p1,p2⟩:=hR.halt (av:=.nils) (b:=false) (k:=FO s e stk) rfl (An _ (.inl rfl)) rfl rfl ⟨rfl,rfl,rfl⟩
 exact fin1 (U':=_) ⟨rfl,p1,p2⟩
theorem T8(x:CIns)(hR:RunS ir p R s O)(hn:s.stk.length<=1000000):DCall prog 105 [.ptr ir 0,.agg (cIns x)] O fun r U'=>r=.ret (.bool false) /\ ∃R',RunS ir p R' { s with stk:=s.stk++[vInt x.a] } U'/\RunK ir R O R' U':=by
 refine en func105 ntmps105 ?_
 refine gz ?_
 refine A3 (Bl (vInt x.a) hR hn) (fun d S1 hr=>?_) (fun d S1 hr=>by cases hr.1)
 obtain⟨hd,hr⟩:=hr
 cases hd
 refine gz ?_
 exact fin1 (U':=S1) ⟨rfl,hr⟩
theorem T7(x:CIns)(hR:RunS ir p R s O)(hn:s.stk.length<=1000000):DCall prog 106 [.ptr ir 0,.agg (cIns x)] O fun r U'=>r=.ret (.bool false) /\ ∃R',RunS ir p R' { s with stk:=s.stk++[E8] } U'/\RunK ir R O R' U':=by
 refine en func106 ntmps106 ?_
 refine gz ?_
 refine A3 (Bl E8 hR hn) (fun d S1 hr=>?_) (fun d S1 hr=>by cases hr.1)
 obtain⟨hd,hr⟩:=hr
 cases hd
 refine gz ?_
 exact fin1 (U':=S1) ⟨rfl,hr⟩
theorem SW(x:CIns)(r:List MVal)(v:MVal)(hR:RunS ir p R s O)(hs:s.stk=r++[v])(hn:s.stk.length<=1000000):DCall prog 116 [.ptr ir 0,.agg (cIns x)] O fun y U'=>y=.ret (.bool false) /\ ∃R',RunS ir p R' { s with stk:=r } U'/\RunK ir R O R' U':=by
 refine en func116 ntmps116 ?_
 refine gz ?_
 refine A3 (BS r v hR hs hn) (fun d S1 hr=>?_) (fun d S1 hr=>by cases hr.1)
 obtain⟨hd,hr⟩:=hr
 cases hd
 refine gz ?_
 exact fin1 (U':=S1) ⟨rfl,hr⟩
theorem SU(x:CIns)(hR:RunS ir p R s O):DCall prog 118 [.ptr ir 0,.agg (cIns x)] O fun y U'=>y=.ret (.bool false) /\ ∃R',RunS ir p R' { s with pos:=x.a } U'/\RunK ir R O R' U':=by
 have q1:=hR.obj
 refine en func118 ntmps118 ?_
 refine gf q1 ?_
 obtain⟨p1,p2⟩:=hR.at x.a rfl
 exact fin1 (U':=_) ⟨rfl,_,p1,p2⟩
theorem SS(x:CIns)(hR:RunS ir p R s O):DCall prog 120 [.ptr ir 0,.agg (cIns x)] O fun y U'=>y=.ret (.bool true)/\HaltS ir p R s .nils true ⟨3,vZ,0,[],0,s.pos,s.stk,s.env,s.objs,s.evs⟩ U'/\RunK ir R O R U':=by
 have q1:=hR.obj
 refine en func120 ntmps120 ?_
 refine gf q1 ?_
 obtain⟨p1,p2⟩:=hR.halt (av:=.nils) (b:=true) (k:=⟨3,vZ,0,[],0,s.pos,s.stk,s.env,s.objs,s.evs⟩) rfl (An _ (.inl rfl)) rfl rfl ⟨rfl,rfl,rfl⟩
 refine Kw (w6 ..) ?_
 simp only[w8]
 refine gz ?_
 exact fin1 (U':=_) ⟨rfl,p1,p2⟩
theorem rowV{a:Nat}{l:List MVal}(h:RWAt O 2 (R a) (l.map cVal))(hne:R a≠.nil)(hf:∀es,R a=.full es->es=[]){n:Nat}(hn:n<l.length): ∃i c cs,R a=.row i c cs /\ ∃L,O i=some (.cells L)/\n*2+2<=L.length/\List.take 2 (List.drop (n*2) L)=cVal l[n]:=by
 cases hR:R a with
 |nil=>exact absurd hR hne
 |full es=>
  rw[hR]at h
  have:=hf es hR
  subst this
  obtain⟨h1,_⟩:=h
  simp at h1
  rw[h1]at hn
  simp at hn
 |row i c cs=>
  rw[hR]at h
  refine⟨i,c,cs,rfl,_,h.1,by rw[FF];omega,?_⟩
  have e:l=l.take n++l[n]::l.drop (n+1):=by rw[<-Ad hn,List.take_append_drop]
  have hv:=Kr (l.take n) l[n] (l.drop (n+1)) cs
  rw[<-e,List.length_take_of_le (by omega)]at hv
  exact hv
theorem T6(x:CIns)(n:Nat)(hx:x.a=n)(hn:n<s.env.length)(hR:RunS ir p R s O)(hs:s.stk.length<=1000000)(bN:s.env.length<=1000000):DCall prog 107 [.ptr ir 0,.agg (cIns x)] O fun y U'=>y=.ret (.bool false) /\ ∃R',RunS ir p R' { s with stk:=s.stk++[s.env[n]] } U'/\RunK ir R O R' U':=by
 have q1:=hR.obj
 have q0:RWAt O 2 (R 1) (s.env.map cVal):=hR.rows.ok 1
 obtain⟨i,c,cs,h0,L,z1,z2,z3⟩:=rowV q0 (fun e=>by rw[e]at q0;have:s.env.map cVal=[]:=q0;simp at this;rw[this]at hn;simp at hn) (hR.nf 1) hn
 unfold AO at q1
 rw[h0]at q1
 simp only[EE]at q1
 refine en func107 ntmps107 ?_
 refine gz ?_
 refine mixI (id:=1) [0,1,2,3,4,5,6,7,8,9,10,11] [10] [5,9] [10] (fun s=>s=O) rfl ?_
 refine iP _ ?_
 refine iP _ ?_
 refine iP _ ?_
 refine iP _ ?_
 refine iP _ ?_
 refine iR (.sref i 0 s.env.length c) (fun s hs=>?_) ?_
 ·rw[hs];simp[q1]
 refine iP _ ?_
 refine iP (dI n) ?_ (hd:=by rw[<-hx];with_unfolding_all rfl)
 refine iP (.ptr i (n*2)) ?_ (hd:=by simp;omega)
 refine iR (.agg (cVal s.env[n])) (fun s hs=>?_) ?_
 ·rw[hs];simp[z1,z2,z3]
 refine iW (fun _=>True) (Bl s.env[n] hR hs) (fun d S1 hr=>⟨trivial,?_⟩) (fun d S1 hr=>by cases hr.1)
 obtain⟨hd,hr⟩:=hr
 cases hd
 refine iP (.bool false) ?_
 refine iN ?_
 refine gz ?_ o107
 exact fin1 (U':=S1) ⟨rfl,hr⟩
end
end Go.DL
