/- A part of the proof. -/
import Derived.Test.YteldimffglchkaaGreatDoorH19
import Derived.Test.YteldimffglchkaaGreatDoorH16
import Derived.Test.YteldimffglchkaaGreatDoorH11
import Derived.Test.YteldimffglchkaaGreatDoorH18
import Derived.Test.YteldimffglchkaaGreatDoorH22
set_option linter.all false
namespace Go.DL
open Go.Proofs.Tryz
open Go Go.Proofs
set_option maxHeartbeats 8000000
def I0:List (Int×Int):=[(1,1),(2,2),(3,3),(4,5),(5,19),(6,4),(7,8),(8,6),(12,9),(13,10),(14,11),(15,12),(16,13),(17,7),(18,20)]
def pK:List D:=(eIN I0).map (·.1)
def pV:List D:=(eIN I0).map (·.2)
theorem pKV:pK.zip pV=eIN I0:=rfl
@[simp] theorem hitIN85(k:Int)(m:List (Int×Int)):hitD tab 85 false (CA (.int .i64) (.int .i64 k) (eIN m) 0)=some (.int .i64 (getM 0 k m)):=Rb keyI dI rfl k m
theorem Pb{o:Int}(h:1<=o/\o<=18)(h9:o≠9)(aI:o≠10)(aL:o≠11):getM 0 o I0=Dh o:=by
 have:o=1\/o=2\/o=3\/o=4\/o=5\/o=6\/o=7\/o=8\/o=12\/o=13\/o=14\/o=15\/o=16\/o=17\/o=18:=by omega
 rcases this with e|e|e|e|e|e|e|e|e|e|e|e|e|e|e<;>rw[e]<;>rfl
theorem Sx(O:Sig):DCall prog 208 [] O (rS (.cmap pK pV) O):=by
 refine en func208 ntmps208 ?_
 refine gz ?_
 refine newIN (fun im aK=>?_)
 repeat ((fail_if_success (first|(refine cfr 1 (i:=im) (m:=eIN I0) (w6 ..) ?_)|fail));(refine goX1 trivial ?_))
 refine cfr 1 (i:=im) (m:=eIN I0) (w6 ..) ?_
 rw[show(eIN I0).map (·.1)=pK from rfl,show(eIN I0).map (·.2)=pV from rfl]
 rw[Sig.set_del _ _ aK]
 refine gz ?_
 exact fe1 trivial
@[reducible,instance] def a208:=fun O=>ah0 (@Sx O)
theorem NX(l r:List CIns)(op a b:Int):setA (l++⟨op,a⟩::r) l.length b=l++⟨op,b⟩::r:=by
 unfold setA
 rw[List.take_left,List.getElem?_append_right (Nat.le_refl _),Nat.sub_self,List.drop_append]
 simp
theorem KA(p:BProg)(inM:Bool)(hp:p.wt<=1073741824): ∀(k:Nat) (n:Int) (size:Nat),trE p inM k n size->∀(ib:Nat) (s m:D) (st:MR) (ins:List CIns) (O:Sig),ins.length+cL p k n<=1000000->BlkS ib s m st ins O->
  DCall prog 131 [.ptr ib 0,.agg (Ae p),dI n] O fun x U'=>x=.ret (.tup []) /\ ∃st',BlkS ib s m st' (ins++cN p k n ins.length) U'/\BK ib O st U' st':=by
 obtain⟨p1,p2,p3,p4,p5,p6,p7⟩:=p.wt_le
 intro k
 induction k with
 |zero=>intro n size h;exact h.elim
 | succ k ih =>
  intro n size h ib s m st ins O hq hB
  have bN:=Q8 h
  have aJ:=fun m hm=>Cq h (m:=m) hm
  obtain⟨⟨h0,h1⟩,cC,cr,cp,hk⟩:=h
  obtain⟨i,rfl⟩:∃i:Nat,n=(i:Int):=⟨n.toNat,by omega⟩
  have hi:i<p.nodes.length:=by omega
  have bp:A0 p i=p.nodes[i]:=by unfold A0;rw[show((i:Int)).toNat=i by omega,List.getElem?_eq_getElem hi];rfl
  have ca:=p7 i hi
  have hN:=Gd p k
  rw[cL,bp]at hq
  rw[cN,bp]
  rw[bp]at bN aJ cC cr cp hk
  generalize hx:p.nodes[i]=x at*
  have da:x.kids.length<=1073741824:=by unfold BNode.wt at ca;omega
  have cD:∀c∈x.kids, ∃z:Nat,trE p inM k c z:=fun c hc=>by
   obtain⟨j,hj,rfl⟩:=List.getElem_of_mem hc
   have:=hk j hj
   split at this
   ·exact⟨size+1,this⟩
   ·exact⟨size,this⟩
  have hS:∀c∈x.kids, ∀(st:MR) (l:List CIns) (O:Sig),l.length+cL p k c<=1000000->BlkS ib s m st l O->DCall prog 131 [.ptr ib 0,.agg (Ae p),dI c] O fun x U'=>x=.ret (.tup []) /\ ∃st',BlkS ib s m st' (l++cN p k c l.length) U'/\BK ib O st U' st':=fun c hc st l O hl hB=>by
   obtain⟨z,hz⟩:=cD c hc;exact ih c z hz ib s m st l O hl hB
  by_cases h9:x.op=9
  ·rw[if_pos h9]at hq⊢
   obtain⟨a,b,ae⟩:∃a b,x.kids=[a,b]:=by
    have hl:x.kids.length=2:=aJ 2 (by rw[h9];rfl)
    match hx:x.kids,hl with
    |[a,b],_=>exact⟨a,b,rfl⟩
   have aW:kidN x 0=a:=by unfold kidN;rw[ae];rfl
   have aV:kidN x 1=b:=by unfold kidN;rw[ae];rfl
   rw[aW,aV]at hq⊢
   have e1:(ins++cN p k a ins.length).length=ins.length+cL p k a:=by rw[List.length_append,hN]
   have e2:(ins++cN p k a ins.length++[(⟨14,0⟩:CIns)]).length=ins.length+cL p k a+1:=by rw[List.length_append,e1];rfl
   refine en func131 ntmps131 ?_
   refine gf (gi hx (gi h9 ae)) ?_ o131
   refine A7 (hS a (by rw[ae];simp) st ins O (by omega) hB) (fun d S1 hr=>?_) (fun d S1 hr=>by cases hr.1)
   obtain⟨q1,st1,ar,ap⟩:=hr
   cases q1
   refine gz ?_ o131
   refine A7 (D7 14 0 (by omega) ar) (fun d S2 hr=>?_) (fun d S2 hr=>by cases hr.1)
   obtain⟨q2,st2,ag,ac⟩:=hr
   cases q2
   refine gf ae ?_ o131
   refine A7 (hS b (by rw[ae];simp) st2 _ S2 (by omega) ag) (fun d S3 hr=>?_) (fun d S3 hr=>by cases hr.1)
   obtain⟨q3,st3,aG,bb⟩:=hr
   cases q3
   rw[e2]at aG
   have e3:(ins++cN p k a ins.length++[(⟨14,0⟩:CIns)]++cN p k b (ins.length+cL p k a+1)).length=ins.length+cL p k a+1+cL p k b:=by rw[List.length_append,e2,hN]
   refine gz ?_ o131
   refine A7 (D7 15 0 (by omega) aG) (fun d S4 hr=>?_) (fun d S4 hr=>by cases hr.1)
   obtain⟨q4,st4,bI,bH⟩:=hr
   cases q4
   refine gz ?_ o131
   refine EO (U':=S4) ⟨rfl,st4,?_,((ap.trans ac).trans bb).trans bH⟩
   simpa[List.append_assoc] using bI
  ·rw [if_neg h9] at hq ⊢
   by_cases aL:x.op=11
   ·rw[if_pos aL]at hq⊢
    obtain⟨a,b,ae⟩:∃a b,x.kids=[a,b]:=by
     have hl:x.kids.length=2:=aJ 2 (by rw[aL];rfl)
     match hx:x.kids,hl with
     |[a,b],_=>exact⟨a,b,rfl⟩
    have aW:kidN x 0=a:=by unfold kidN;rw[ae];rfl
    have aV:kidN x 1=b:=by unfold kidN;rw[ae];rfl
    rw[aW,aV]at hq⊢
    have e1:(ins++cN p k a ins.length).length=ins.length+cL p k a:=by rw[List.length_append,hN]
    have e2:(ins++cN p k a ins.length++[(⟨16,0⟩:CIns)]).length=ins.length+cL p k a+1:=by rw[List.length_append,e1];rfl
    refine en func131 ntmps131 ?_
    refine gf (gi hx (gi aL ae)) ?_ o131
    refine A7 (hS a (by rw[ae];simp) st ins O (by omega) hB) (fun d S1 hr=>?_) (fun d S1 hr=>by cases hr.1)
    obtain⟨q1,st1,ar,ap⟩:=hr
    cases q1
    refine gz ?_ o131
    refine A7 (D7 16 0 (by omega) ar) (fun d S2 hr=>?_) (fun d S2 hr=>by cases hr.1)
    obtain⟨q2,st2,ag,ac⟩:=hr
    cases q2
    refine gf ae ?_ o131
    refine A7 (hS b (by rw[ae];simp) st2 _ S2 (by omega) ag) (fun d S3 hr=>?_) (fun d S3 hr=>by cases hr.1)
    obtain⟨q3,st3,aG,bb⟩:=hr
    cases q3
    rw[e2]at aG
    refine gz ?_ o131
    refine EO (U':=S3) ⟨rfl,st3,?_,(ap.trans ac).trans bb⟩
    simpa[List.append_assoc] using aG
   ·rw [if_neg aL] at hq ⊢
    by_cases aI:x.op=10
    ·rw[if_pos aI]at hq⊢
     obtain⟨a,b,c,ae⟩:∃a b c,x.kids=[a,b,c]:=by
      have hl:x.kids.length=3:=aJ 3 (by rw[aI];rfl)
      match hx:x.kids,hl with
      |[a,b,c],_=>exact⟨a,b,c,rfl⟩
     have aW:kidN x 0=a:=by unfold kidN;rw[ae];rfl
     have aV:kidN x 1=b:=by unfold kidN;rw[ae];rfl
     have cO:kidN x 2=c:=by unfold kidN;rw[ae];rfl
     rw[aW,aV,cO]at hq⊢
     have e1:(ins++cN p k a ins.length).length=ins.length+cL p k a:=by rw[List.length_append,hN]
     have e2:(ins++cN p k a ins.length++[(⟨17,0⟩:CIns)]).length=ins.length+cL p k a+1:=by rw[List.length_append,e1];rfl
     refine en func131 ntmps131 ?_
     refine gf (gi hx (gi aI ae)) ?_ o131
     refine A7 (hS a (by rw[ae];simp) st ins O (by omega) hB) (fun d S1 hr=>?_) (fun d S1 hr=>by cases hr.1)
     obtain⟨q1,st1,ar,ap⟩:=hr
     cases q1
     refine gz ?_ o131
     refine A7 (Mx 17 (by omega) ar) (fun d S2 hr=>?_) (fun d S2 hr=>by cases hr.1)
     obtain⟨q2,st2,ag,ac⟩:=hr
     obtain⟨k1,aa⟩:∃k1,k1=(ins++cN p k a ins.length).length:=⟨_,rfl⟩
     rw[<-aa]at q2
     cases q2
     refine gf ae ?_ o131
     refine A7 (hS b (by rw[ae];simp) st2 _ S2 (by omega) ag) (fun d S3 hr=>?_) (fun d S3 hr=>by cases hr.1)
     obtain⟨q3,st3,aG,bb⟩:=hr
     cases q3
     rw[e2]at aG
     have e3:(ins++cN p k a ins.length++[(⟨17,0⟩:CIns)]++cN p k b (ins.length+cL p k a+1)).length=ins.length+cL p k a+1+cL p k b:=by rw[List.length_append,e2,hN]
     refine gz ?_ o131
     refine A7 (Mx 18 (by omega) aG) (fun d S4 hr=>?_) (fun d S4 hr=>by cases hr.1)
     obtain⟨q4,st4,bI,bH⟩:=hr
     obtain⟨k2,bt⟩:∃k2,k2=(ins++cN p k a ins.length++[(⟨17,0⟩:CIns)]++cN p k b (ins.length+cL p k a+1)).length:=⟨_,rfl⟩
     rw[<-bt]at q4
     cases q4
     have e4:(ins++cN p k a ins.length++[(⟨17,0⟩:CIns)]++cN p k b (ins.length+cL p k a+1)++[(⟨18,0⟩:CIns)]).length=ins.length+cL p k a+1+cL p k b+1:=by rw[List.length_append,e3];rfl
     refine gz ?_ o131
     refine A7 (Mq k1 (by omega) (by omega) bI) (fun d S5 hr=>?_) (fun d S5 hr=>by cases hr.1)
     obtain⟨q5,st5,b9,cX⟩:=hr
     cases q5
     have ck:ins++cN p k a ins.length++[(⟨17,0⟩:CIns)]++cN p k b (ins.length+cL p k a+1)++[(⟨18,0⟩:CIns)]=(ins++cN p k a ins.length)++⟨17,0⟩::(cN p k b (ins.length+cL p k a+1)++[(⟨18,0⟩:CIns)]):=by simp
     rw[e4,ck,aa,NX]at b9
     have e5:(ins++cN p k a ins.length++(⟨17,((ins.length+cL p k a+1+cL p k b+1:Nat):Int)⟩:CIns)::(cN p k b (ins.length+cL p k a+1)++[(⟨18,0⟩:CIns)])).length=ins.length+cL p k a+1+cL p k b+1:=by rw[List.length_append,e1,List.length_cons,List.length_append,hN];simp only[List.length_cons,List.length_nil];omega
     refine gf ae ?_ o131
     refine A7 (hS c (by rw[ae];simp) st5 _ S5 (by omega) b9) (fun d S6 hr=>?_) (fun d S6 hr=>by cases hr.1)
     obtain⟨q6,st6,b8,cW⟩:=hr
     cases q6
     rw[e5]at b8
     have e6:(ins++cN p k a ins.length++(⟨17,((ins.length+cL p k a+1+cL p k b+1:Nat):Int)⟩:CIns)::(cN p k b (ins.length+cL p k a+1)++[(⟨18,0⟩:CIns)])++cN p k c (ins.length+cL p k a+1+cL p k b+1)).length=ins.length+cL p k a+1+cL p k b+1+cL p k c:=by rw[List.length_append,e5,hN]
     refine gz ?_ o131
     refine A7 (Mq k2 (by omega) (by omega) b8) (fun d S7 hr=>?_) (fun d S7 hr=>by cases hr.1)
     obtain⟨q7,st7,b7,cV⟩:=hr
     cases q7
     have ci:(ins++cN p k a ins.length++(⟨17,((ins.length+cL p k a+1+cL p k b+1:Nat):Int)⟩:CIns)::(cN p k b (ins.length+cL p k a+1)++[(⟨18,0⟩:CIns)])++cN p k c (ins.length+cL p k a+1+cL p k b+1)) =
       (ins++cN p k a ins.length++(⟨17,((ins.length+cL p k a+1+cL p k b+1:Nat):Int)⟩:CIns)::cN p k b (ins.length+cL p k a+1))++⟨18,0⟩::cN p k c (ins.length+cL p k a+1+cL p k b+1):=by simp
     have br:k2=(ins++cN p k a ins.length++(⟨17,((ins.length+cL p k a+1+cL p k b+1:Nat):Int)⟩:CIns)::cN p k b (ins.length+cL p k a+1)).length:=by rw[bt];simp
     rw[e6,ci,br,NX]at b7
     refine gz ?_ o131
     refine EO (U':=S7) ⟨rfl,st7,?_,(((((ap.trans ac).trans bb).trans bH).trans cX).trans cW).trans cV⟩
     simpa[List.append_assoc] using b7
    ·rw[if_neg aI]at hq⊢
     have cn:=Pb bN h9 aI aL
     have di:(cKids (cN p k) x.kids ins.length).length=wtL (cL p k) x.kids:=FH hN _ _
     refine en func131 ntmps131 ?_
     refine gf hx ?_ o131
     refine QR [0,4,6,19,20,30,31,32,33,34,35,36,37] (fun (j:Nat) (out:List CIns) (st1:MR) (S1:Sig)=>j<=x.kids.length/\out++cKids (cN p k) (x.kids.drop j) (ins.length+out.length)=cKids (cN p k) x.kids ins.length/\BlkS ib s m st1 (ins++out) S1/\BK ib O st S1 st1) (fun j _ _ _=>[(21,dI j)]) (fun _ _ _ S1=>S1) (fun j _ _ _=>x.kids.length-j) (0) ([]) (st) (O) (by exact⟨by omega,rfl,by rw[List.append_nil];exact hB,BK.refl _ _ _⟩) (fun j out st1 S1 hI=>?_)
     obtain⟨hj,hR,ar,ap⟩:=hI
     by_cases ay:j<x.kids.length
     ·rw[A4 ay,cKids]at hR
      have bq:=congrArg List.length hR
      simp only[List.length_append,hN]at bq
      refine gf hx ?_ o131
      refine A7 (hS x.kids[j] (List.getElem_mem ay) st1 _ S1 (by rw[List.length_append];omega) ar) (fun d S2 hr=>?_) (fun d S2 hr=>by cases hr.1)
      obtain⟨q2,st2,ag,ac⟩:=hr
      cases q2
      rw[List.append_assoc,List.length_append]at ag
      refine gz ?_ o131
      exact⟨j+1,out++cN p k x.kids[j] (ins.length+out.length),st2,S2,⟨by omega,by rw[List.append_assoc,List.length_append,<-Nat.add_assoc];exact hR,ag,ap.trans ac⟩,td1,wkR⟩
     ·rw[Aa ay,cKids,List.append_nil]at hR
      subst hR
      refine gf (gi hx (gi pKV cn)) ?_ o131
      refine A7 (D7 (Dh x.op) x.n (by rw[List.length_append];omega) ar) (fun d S2 hr=>?_) (fun d S2 hr=>by cases hr.1)
      obtain⟨q2,st2,ag,ac⟩:=hr
      cases q2
      refine gz ?_ o131
      refine EO (U':=S2) ⟨rfl,st2,?_,ap.trans ac⟩
      simpa[List.append_assoc] using ag
theorem Mi(p:BProg)(inM:Bool)(hp:p.wt<=1073741824)(k:Nat)(n:Int)(size:Nat)(h:trE p inM k n size)(ib:Nat)(s m:D)(st:MR)(ins:List CIns)(O:Sig)(hq:ins.length+cL p k n<=1000000)(hB:BlkS ib s m st ins O):
  DCall prog 60 [.ptr ib 0,.agg (Ae p),dI n] O fun x U'=>x=.ret (dI ins.length) /\ ∃st',BlkS ib s m st' (ins++bodyC p k n ins.length) U'/\BK ib O st U' st':=by
 have hN:=Gd p k
 obtain⟨q1,q2,q3⟩:=hB
 have hB:BlkS ib s m st ins O:=⟨q1,q2,q3⟩
 have fin:∀(S2:Sig) (st2:MR),BlkS ib s m st2 (ins++cN p k n ins.length++[(⟨21,0⟩:CIns)]) S2->BlkS ib s m st2 (ins++bodyC p k n ins.length) S2:=fun S2 st2 h=>by unfold bodyC;simpa[List.append_assoc] using h
 refine en func60 ntmps60 ?_
 cases ai:st with
 |none=>
  subst ai
  have h0:ins=[]:=by have:ins.map cIns=[]:=q2;simpa using this
  subst h0
  simp only[mD]at q1
  refine gf q1 ?_
  refine A7 (KA p inM hp k n size h ib s m none [] O hq hB) (fun d S1 hr=>?_) (fun d S1 hr=>by cases hr.1)
  obtain⟨e1,st1,ar,ap⟩:=hr
  cases e1
  refine gz ?_
  refine A7 (D7 21 0 (by rw[List.length_append,hN];omega) ar) (fun d S2 hr=>?_) (fun d S2 hr=>by cases hr.1)
  obtain⟨e2,st2,ag,ac⟩:=hr
  cases e2
  refine gz ?_
  exact fin1 (U':=S2) ⟨rfl,st2,fin _ _ ag,ap.trans ac⟩
 |some x=>
  obtain⟨rr,rc,rest⟩:=x
  subst ai
  simp only[mD]at q1
  refine gf q1 ?_
  refine A7 (KA p inM hp k n size h ib s m _ ins O hq hB) (fun d S1 hr=>?_) (fun d S1 hr=>by cases hr.1)
  obtain⟨e1,st1,ar,ap⟩:=hr
  cases e1
  refine gz ?_
  refine A7 (D7 21 0 (by rw[List.length_append,hN];omega) ar) (fun d S2 hr=>?_) (fun d S2 hr=>by cases hr.1)
  obtain⟨e2,st2,ag,ac⟩:=hr
  cases e2
  refine gz ?_
  exact fin1 (U':=S2) ⟨rfl,st2,fin _ _ ag,ap.trans ac⟩
def G6(p:BProg):CProg:=if okP p then Dc p else⟨[],[],0⟩
theorem Lu(p:BProg)(O:Sig)(hp:p.wt<=1073741824):DCall prog 18 [.agg (Ae p)] O (rS (.tup [.agg (cCPg (G6 p)),dI (if okP p then 0 else 2)]) O):=by
 obtain⟨p1,p2,p3,p4,p5,p6,p7⟩:=p.wt_le
 refine en func18 ntmps18 ?_
 cases hk:okP p with
 |false=>
  have hc:G6 p=⟨[],[],0⟩:=by unfold G6;rw[hk];rfl
  rw[hc]
  refine gz ?_ o18 [2,15]
  refine newV (fun i hi=>?_)
  refine gf hk ?_ o18 [2,15]
  refine finC (U':=O) (d:=.tup [.agg (cCPg ⟨[],[],0⟩),dI 2]) ⟨rfl,rfl⟩ (hw:=?_)
  exact Dd ⟨FK ⟨Al _ (.inl rfl),Al _ (.inl rfl),Ab _,trivial⟩,Ab _,trivial⟩
 | true =>
  have hc:G6 p=Dc p:=by unfold G6;rw[hk];rfl
  rw[hc]
  have bJ:=HR hk
  have dh:=In hk
  have dc:=Dv hk
  refine gz ?_ o18 [2,15]
  refine newV (fun i2 bU=>?_)
  repeat ((fail_if_success (first|(refine boxV (T:=127) (fun ib bT=>?_))|fail));(refine goX1 hk ?_))
  refine boxV (T:=127) (fun ib bT=>?_)
  obtain⟨n2b,aA⟩:=Bv bT
  refine gz ?_ o18 [2,15]
  refine ET ib 1 1 (ds:=[.nils,.nils,dI 0]) (w6 ..) rfl (fun it bh=>?_)
  obtain⟨nbt,bx⟩:=Bv bh
  obtain⟨n2t,aR⟩:=Bv bx
  simp only[List.set_cons_succ,List.set_cons_zero]
  generalize aB:Sig.set (Sig.set (Sig.set (Sig.set O i2 _) ib _) it _) ib _=S0
  have o0:S0 ib=some (.cells [mD none ([]:List CIns).length,.slice (cI []) (.tag it),dI 0]):=by rw[<-aB,w6];rfl
  have t0:S0 it=some (.tail 1 ([]:List Int).length):=by rw[<-aB,w7 _ _ nbt,w6];rfl
  have c0:S0 i2=some (.cells [.nils,.nils,dI 0]):=by rw[<-aB,w7 _ _ n2b.symm,w7 _ _ n2t.symm,w7 _ _ n2b.symm,w6]
  have s0:Sub O S0:=fun j x hj=>by
   have k1:=B2 hj bU
   have k2:=B2 hj aA
   have k3:=B2 hj aR
   rw[<-aB,w7 _ _ k2,w7 _ _ k3,w7 _ _ k2,w7 _ _ k1];exact hj
  have B0:BlkS ib (.slice (cI []) (.tag it)) (dI 0) none [] S0:=⟨o0,rfl,id⟩
  clear aB
  have c9:(B7 p).length=p.methods.length:=by unfold B7;simp
  refine loop5 [1,2,3,5,17,18,40,41,42,43,44,45,46,47,48,49,50,51,52] (fun (j:Nat) (out:List CIns) (l:List Int) (st:MR) (S1:Sig)=>j<=p.methods.length/\l.length=j/\out++Ay p 12 ((B7 p).drop j) out.length=Ay p 12 (B7 p) 0/\l++(startsC p 12 ((B7 p).drop j) out.length).map (·.pos)=(startsC p 12 (B7 p) 0).map (·.pos)/\BlkS ib (.slice (cI l) (.tag it)) (dI 0) st out S1/\S1 it=some (.tail 1 l.length) /\ ¬G1 st it/\S1 i2=some (.cells [.nils,.nils,dI 0]) /\ ¬G1 st i2/\(∀k x,O k=some x->S1 k=some x /\ ¬G1 st k)) (fun j _ _ _ _=>[(19,dI j)]) (fun _ _ _ _ S1=>S1) (fun j _ _ _ _=>p.methods.length-j) (0) ([]) ([]) (none) (S0) (by exact⟨by omega,rfl,rfl,rfl,B0,t0,id,c0,id,fun k x hk=>⟨s0 _ _ hk,id⟩⟩) (fun j out l st S1 hI=>?_)
  obtain⟨hj,cB,hR,aZ,hB,cg,cm,aU,bL,hS⟩:=hI
  by_cases ay:j<p.methods.length
  ·have cw:(B7 p).drop j=⟨(p.methods[j]).node,(p.gens.getD (p.methods[j]).gen.toNat 0).toNat,JG p.methods[j]⟩::(B7 p).drop (j+1):=by
    rw[List.drop_eq_getElem_cons (by omega)];unfold B7;simp
   have ce:=bJ ⟨(p.methods[j]).node,(p.gens.getD (p.methods[j]).gen.toNat 0).toNat,JG p.methods[j]⟩ (by unfold bodsP;rw[List.mem_append];left;exact List.mem_map.2 ⟨p.methods[j],List.getElem_mem ay,rfl⟩)
   rw[cw]at hR aZ
   have q1:=hB.env
   refine gz ?_ [] [2,15]
   refine mixI (id:=8) [0,1,2,3,4,5,6,7,8,9,10,11,12,13,14,15,16] [10,12,16] [5] [16] (fun s=> ∃a,s ib=some (.cells [a,.slice (cI l) (.tag it),dI 0])) ⟨_,q1⟩ ?_
   refine iP (.ptr ib 0) ?_
   refine iP (.ptr ib 0) ?_
   refine iP (.ptr ib 0) ?_
   refine iP (.ptr ib 0) ?_
   refine iP (.ptr ib 1) ?_
   refine iR (.slice (cI l) (.tag it)) (fun s ⟨a,hs⟩=>?_) ?_
   ·simp[hs]
   refine iP (.ptr ib 0) ?_
   refine iP (.agg (Ae p)) ?_
   refine iP _ ?_
   refine iP (dI (p.methods[j]).node) ?_
   have bq:=congrArg List.length hR
   simp only[Ay,List.length_append,Ck]at bq
   refine iW (fun s=> ∃a,s ib=some (.cells [a,.slice (cI l) (.tag it),dI 0])) (Mi p _ hp 12 _ _ ce ib _ _ st out S1 ?_ hB) (fun d S2 hr=>?_) (fun d S2 hr=>by cases hr.1)
   ·have bB:(Dc p).ins.length=(Ay p 12 (B7 p) 0).length+(bodyC p 12 p.main (Kf p)).length:=by unfold Dc;rw[List.length_append]
    show out.length+cL p 12 (p.methods[j]).node<=1000000
    omega
   obtain⟨e2,st2,ag,ac⟩:=hr
   cases e2
   have nbt':ib≠it:=fun e=>nbt e.symm
   obtain⟨cf,aM⟩:=ac _ _ cg (fun e=>nbt e) cm
   obtain⟨bD,bm⟩:=ac _ _ aU (fun e=>n2b e.symm) bL
   refine⟨⟨_,ag.env⟩,?_⟩
   refine iP (.slice [[dI out.length]] .clip) ?_
   refine iE (d:=.slice (cI l++[[dI out.length]]) (.tag it)) (U':=S2.set it (.tail 1 (l.length+1))) (fun s=> ∃a,s ib=some (.cells [a,.slice (cI l) (.tag it),dI 0])) ⟨_,by rw[w7 _ _ nbt'];exact ag.env⟩ ?_ (he:=?_)
   rotate_left
   ·simp[cf];omega
   refine iP (.ptr ib 0) ?_
   refine iP (.ptr ib 0) ?_
   refine iP (.ptr ib 1) ?_
   refine iS (d:=.any) (U':=(S2.set it (.tail 1 (l.length+1))).set ib (.cells [mD st2 (out++bodyC p 12 (p.methods[j]).node out.length).length,.slice (cI l++[[dI out.length]]) (.tag it),dI 0])) (fun _=>True) trivial ?_ (he:=?_)
   rotate_left
   ·simp[ag.env,w7 _ _ nbt']
   refine iN ?_
   refine gz ?_ o18 [2,15]
   rw[Ay]at hR
   rw[startsC]at aZ
   generalize aX:Sig.set (Sig.set S2 it _) ib _=S3
   have o3:S3 ib=some (.cells [mD st2 (out++bodyC p 12 (p.methods[j]).node out.length).length,.slice (cI (l++[(out.length:Int)])) (.tag it),dI 0]):=by rw[<-aX,w6];simp[cI]
   have t3:S3 it=some (.tail 1 (l++[(out.length:Int)]).length):=by rw[<-aX,w7 _ _ nbt,w6,List.length_append];rfl
   have c3:S3 i2=some (.cells [.nils,.nils,dI 0]):=by rw[<-aX,w7 _ _ n2b.symm,w7 _ _ n2t.symm];exact bD
   have B3:BlkS ib (.slice (cI (l++[(out.length:Int)])) (.tag it)) (dI 0) st2 (out++bodyC p 12 (p.methods[j]).node out.length) S3:=⟨o3,ag.row.keep fun k x hk hr=>by
    rw[<-aX,w7 _ _ fun e=>ag.nr (by rw[<-e];exact hr),w7 _ _ fun e=>aM (by rw[<-e];exact hr)];exact hk,ag.nr⟩
   have s3:∀k x,O k=some x->S3 k=some x /\ ¬G1 st2 k:=fun k x hk=>by
    have k2:=B2 hk aA
    have k3:=B2 hk aR
    obtain⟨h1,h2⟩:=hS _ _ hk
    obtain⟨h3,h4⟩:=ac k x h1 k2 h2
    exact⟨by rw[<-aX,w7 _ _ k2,w7 _ _ k3];exact h3,h4⟩
   exact⟨j+1,out++bodyC p 12 (p.methods[j]).node out.length,l++[(out.length:Int)],st2,S3,⟨by omega,by rw[List.length_append,cB];rfl,by rw[List.append_assoc,List.length_append,Ck];exact hR,by rw[List.append_assoc,List.length_append,Ck];exact aZ,B3,t3,aM,c3,bm,s3⟩,td1,wkR⟩
  ·rw[List.drop_eq_nil_of_le (by omega),Ay,List.append_nil]at hR
   rw[List.drop_eq_nil_of_le (by omega),startsC,List.map_nil,List.append_nil]at aZ
   have cd:=bJ ⟨p.main,0,false⟩ (by unfold bodsP;simp)
   have bB:(Dc p).ins=out++bodyC p 12 p.main out.length:=by unfold Dc Kf;rw[<-hR]
   have bC:=congrArg List.length bB
   rw[List.length_append,Ck]at bC
   have q1:=hB.env
   refine gz ?_ o18 [2,15]
   refine A7 (Mi p _ hp 12 _ _ cd ib _ _ st out S1 (show out.length+cL p 12 p.main<=1000000 by omega) hB) (fun d S2 hr=>?_) (fun d S2 hr=>by cases hr.1)
   obtain⟨e2,st2,ag,ac⟩:=hr
   cases e2
   obtain⟨τ,hτ,hm,aa,bt⟩:=ag.row.mS
   obtain⟨bD,bm⟩:=ac _ _ aU (fun e=>n2b e.symm) bL
   have k2:τ i2=some (.cells [.nils,.nils,dI 0]):=aa _ _ bD bm
   have kb:τ ib=some (.cells [mD st2 (out++bodyC p 12 p.main out.length).length,.slice (cI l) (.tag it),dI 0]):=aa _ _ ag.env ag.nr
   have kS:Sub O τ:=fun k x hk=>by
    have e1:=B2 hk aA
    obtain⟨h1,h2⟩:=hS _ _ hk
    obtain⟨h3,h4⟩:=ac k x h1 e1 h2
    exact aa _ _ h3 h4
   rw[hτ]
   refine mfrC (i:=ib) [] [.slice (cI l) (.tag it),dI 0] ?_ (by rw[kb,List.length_map];rfl) hm
   simp only[List.nil_append]
   rw[<-bB]
   have n2b':=n2b.symm
   refine gf k2 ?_ o18 [2,15]
   have ai:(Dc p).starts=l:=aZ.symm
   have cu:(Dc p).main=out.length:=by unfold Dc Kf;rw[<-hR]
   refine finC (U':=O) (d:=.tup [.agg (cCPg (Dc p)),dI 0]) ⟨rfl,rfl⟩ (hZ:=(kS.set aA).set bU) (hw:=?_)
   unfold cCPg
   rw[ai,cu]
   exact Dd ⟨FK ⟨Ab _,BZ _ _,Ab _,trivial⟩,Ab _,trivial⟩
@[reducible,instance] def a18:=fun p O=>ah1 (@Lu p O)
end Go.DL
namespace Go.DL
open Go.Proofs.Tryz
open Go Go.Proofs
set_option maxHeartbeats 80000000
@[simp] theorem cSt_len(s:CSt):(cSt s).length=3:=rfl
@[simp] theorem cSt_take(s:CSt):List.take 3 (cSt s)=cSt s:=rfl
@[simp] theorem mem_cSt(y:D)(s:CSt):y∈cSt s ↔ y=dI s.pos\/y=dI s.env\/y=.bool s.next:=by simp[cSt]
theorem Tg(p:BProg)(c:CProg)(im:Nat)(s:CSt)(O:Sig):DCall prog 100 [cChk p c im,.agg (cSt s)] O (rS (.func (.func 169) [] [.cptr [cChk p c im] 0,.cptr (cSt s) 0]) O):=by
 refine en func100 ntmps100 ?_
 refine gz ?_
 exact fe1 trivial
@[reducible,instance] def a100:=fun p c im s O=>ah0 (@Tg p c im s O)
theorem LU: ∀(l:List Int) (n m:Int),Cr n l=some m->n<=m/\m<=n+l.length
 |[],n,m,h=>by rw[Cr]at h;cases h;simp
 | s::r,n,m,h=>by
  rw[Cr]at h
  split at h
  ·have:=LU r _ _ h
   simp only[List.length_cons];omega
  ·cases h
theorem KJ: ∀(cs:List BClass) (n m:Int),AW n cs=some m->n<=m/\m<=n+4*cs.length
 |[],n,m,h=>by rw[AW]at h;cases h;simp
 | c::r,n,m,h=>by
  rw[AW]at h
  split at h
  ·cases h
  ·split at h
   ·cases h
   ·rename_i m1 h1
    have:=LU _ _ _ h1
    have:=KJ r _ _ h
    simp only[List.length_cons];omega
theorem U8{p:BProg}(h:okP p=true):0<=p.slots/\p.slots<=40:=by
 have h:=EG h
 unfold Ap at h
 simp only[Bool.and_eq_true,decide_eq_true_eq]at h
 obtain⟨aI,h⟩:=h
 split at h
 ·cases h
 ·rename_i n hn
  simp only[Bool.and_eq_true,decide_eq_true_eq]at h
  have:=KJ _ _ _ hn
  omega
theorem M7(p:BProg): ∀(l:List BMeth) (s s':List Int),Co p l s=some s'->∀m∈l,0<=m.gen/\m.gen<p.gens.length
 |[],_,_,_,m,hm=>by cases hm
 | a::r,s,s',h,m,hm=>by
  rw[Co]at h
  split at h
  ·rename_i bO
   rcases List.mem_cons.1 hm with rfl|hm
   ·simp only[Gu,Bool.and_eq_true,decide_eq_true_eq]at bO
    exact bO.1.1.2
   ·split at h
    ·cases h
    ·exact M7 p r _ _ h m hm
  ·cases h
theorem gens_in{p:BProg}(h:okP p=true): ∀m∈p.methods,0<=m.gen/\m.gen<p.gens.length:=by
 unfold okP D6 at h
 split at h
 ·cases hm:Co p p.methods (List.replicate p.nodes.length (-1))with
  |none=>rw[hm]at h;simp at h
  |some s=>exact M7 p _ _ _ hm
 ·cases h
def LF(p:BProg)(c:CProg):Option MetL:=if Cl p c.ins.length c.ins 0 then It p c else none
def LkR(p:BProg)(c:CProg)(im:Nat)(O:Sig)(x:DE)(U':Sig):Prop:=Keep (· = im) O U'/\match LF p c with
 |none=>x=.panic unfC
 |some W=>x=.ret (.tup [])/\U' im=some (.map (eIL W))
theorem finMN{P:Program}{n:Nat}{fn:Func}{R:DE->Sig->Prop}{γ:Fr}{O U':Sig}{d d':D}(js:List Nat)(hR:R (.ret d') U')(hZ:Sub U' (dels js O))(hn:js.Nodup:=by simp)(hd:∀j∈js,O j=some .defs:=by simp)(h:resD fn γ=some d:=by exact tdR)(hw:WkD d d'): ∃s',Wk P n ⟨γ,O,js.map .coll⟩ s'/\PW P n fn (Weak R) .normal s':=
 ⟨_,Wk.refl _ _ _,js,rfl,hn,hd,d,Dm h,.ret d',U',hw,hZ,hR⟩
theorem UN (p:BProg) (c:CProg) (im:Nat) (O:Sig) (hp:p.wt<=1073741824) (hk:okP p=true) (hc:c.ins.length<=300) (ai:c.starts.length=p.methods.length) (hm:O im=some (.map (eIL []))):DCall prog 98 [.cptr (cCPg c) 0, .cptr [cChk p c im] 0, .cptr (Ae p) 0] O (LkR p c im O):=by
 obtain⟨p1,p2,p3,p4,p5,p6,p7⟩:=p.wt_le
 have cZ:=U8 hk
 have bV:=GA hk
 obtain⟨g1,g2,g3,g4,g5⟩:=Dv hk
 have cG:=gens_in hk
 refine EW func98 rfl (by decide) ntmps98 (by simp) ?_
 refine gz ?_ o98
 refine BV [0,1,2,5,6,7,8,10,11,12,13,14,16,17,28,29,30,31,32,33,34,35,36,37,38,39,40,41,42,43,44,45,46,47,48,49,50,51,52,53,54,55,56,57,58,59,60,61,62,63,64,65,66,67,68,69,70,71,72,73,74,75,76,77,78,79,80,81,82,83,84,85,86,87,88,89,90,91,92,93,94,95,96,97,98,99,100,101,102,103,104,105,106,107,108,109,110,111,112] (fun (q:Nat)=>q<=c.ins.length/\Cl p c.ins.length c.ins 0=Cl p c.ins.length (c.ins.drop q) q) (fun q=>[(18,dI q)]) (fun _=>O) (fun q=>c.ins.length-q) (0) (by exact⟨by omega,rfl⟩) (fun q hI=>?_)
 obtain⟨hq,hA⟩:=hI
 by_cases aN:q<c.ins.length
 ·rw[A4 aN,Cl]at hA
  generalize hx:c.ins[q]=x at*
  repeat' first|refine gf hx ?_ o98|apply gy<;>intro hh
  ·rw[hh,Bool.true_and]at hA
   exact⟨q+1,⟨by omega,hA⟩,td1,wkR⟩
  ·rw[hh,Bool.false_and]at hA
   have hL:LF p c=none:=by unfold LF;rw[hA];rfl
   exact finMP [] (U':=O) ⟨Keep.refl _ _,by rw[hL]⟩ (Sub.refl _)
 ·rw [Aa aN,Cl] at hA
  have bZ:LF p c=It p c:=by unfold LF;rw[hA];rfl
  have bl:stsQ p c=⟨c.main,0,false⟩::List.zipWith (Dg p) p.methods c.starts:=rfl
  refine gz ?_ o98
  clear aN hq
  refine QR [0,1,2,10,11,12,13,14,33,34,68,69,70,71,72,73,74,75,76,77,78,79,80,81,82,83,84,85,86,87,88,89,90,91,92,93,94,95,96,97,98,99,100,101,102,103,104,105,106,107,108,109,110,111,112] (fun (q:Nat) (out:List CSt) (o:Own) (S1:Sig)=>q<=c.starts.length/\out.length=q+1/\out++List.zipWith (Dg p) (p.methods.drop q) (c.starts.drop q)=stsQ p c/\RowR 3 O S1 (out.map cSt) o) (fun q out o _=>[(35,dI q),(5,.slice (out.map cSt) o)]) (fun _ _ _ S1=>S1) (fun q _ _ _=>c.starts.length-q) (0) ([⟨c.main,0,false⟩]) (.clip) (O) (by exact⟨by omega,rfl,rfl,.inl ⟨rfl,rfl⟩⟩) (fun q out o S1 hI=>?_)
  obtain⟨hq,bn,hO,aY⟩:=hI
  by_cases aN:q<c.starts.length
  ·have bM:q<p.methods.length:=by omega
   rw[A4 aN,A4 bM,List.zipWith_cons_cons]at hO
   have de:=cG _ (List.getElem_mem bM)
   generalize bS:p.methods[q]=m at*
   have cH:p.gens.getD m.gen.toNat 0=p.gens[m.gen.toNat]'(by omega):=by rw[List.getD_eq_getElem?_getD,List.getElem?_eq_getElem (by omega)];rfl
   have bP:JG m=(decide (m.kind=1)||decide (m.kind=4)):=rfl
   have bR:Dg p m c.starts[q]=⟨c.starts[q],p.gens[m.gen.toNat]'(by omega),JG m⟩:=by unfold Dg;rw[cH]
   refine gf bS ?_ (delO 10 o98)
   refine G3 (id:=10) [0,1,2,3,4,5,6,7,8,9,10,11,12,13,14,15,16,17,18,19,20,21] [20] O aY.sub ?_
   repeat' first|refine gf bS ?_ o98|apply gy<;>intro hh
   ·have aH:cSt (Dg p m c.starts[q])=[dI c.starts[q],dI (p.gens[m.gen.toNat]'(by omega)),.bool true]:=by rw[bR,bP];simp[cSt,hh]
    refine Vx (sz:=3) aY (Sub.refl _) (fun j hj=>?_)
    have cb:WkD (.slice (out.map cSt++[[dI c.starts[q],dI (p.gens[m.gen.toNat]'(by omega)),.bool true]]) (.tag j)) (.slice ((out++[Dg p m c.starts[q]]).map cSt) (.tag j)):=C7 (by rw[<-aH];simp)
    refine gz ?_ o98
    exact⟨q+1,out++[Dg p m c.starts[q]],.tag j,O.set j (.tail 3 ((out++[Dg p m c.starts[q]]).map cSt).length),⟨by omega,by rw[List.length_append,bn];rfl,by rw[List.append_assoc];exact hO,.inr ⟨j,hj,rfl,rfl⟩⟩,td1,wkR⟩
   ·have aH:cSt (Dg p m c.starts[q])=[dI c.starts[q],dI (p.gens[m.gen.toNat]'(by omega)),.bool (decide (m.kind=4))]:=by rw[bR,bP];simp[cSt,hh]
    refine Vx (sz:=3) aY (Sub.refl _) (fun j hj=>?_)
    have cb:WkD (.slice (out.map cSt++[[dI c.starts[q],dI (p.gens[m.gen.toNat]'(by omega)),.bool (decide (m.kind=4))]]) (.tag j)) (.slice ((out++[Dg p m c.starts[q]]).map cSt) (.tag j)):=C7 (by rw[<-aH];simp)
    refine gz ?_ o98
    exact⟨q+1,out++[Dg p m c.starts[q]],.tag j,O.set j (.tail 3 ((out++[Dg p m c.starts[q]]).map cSt).length),⟨by omega,by rw[List.length_append,bn];rfl,by rw[List.append_assoc];exact hO,.inr ⟨j,hj,rfl,rfl⟩⟩,td1,wkR⟩
  ·rw [List.drop_eq_nil_of_le (by omega),List.drop_eq_nil_of_le (by omega),List.zipWith_nil_left,List.append_nil] at hO
   have cz:S1 im=some (.map (eIL [])):=aY.sub _ _ hm
   have cP:Sub O S1:=aY.sub
   have co:out.length<=17:=by omega
   have bz:∀s∈out,0<=s.env/\s.env<=1000:=fun s hs=>by
    rw[hO,bl]at hs
    rcases List.mem_cons.1 hs with rfl|hs
    ·simp
    ·obtain⟨k,aa,rfl⟩:=List.getElem_of_mem hs
     rw[List.getElem_zipWith]
     have:=bV (p.methods[k]'(by simp at aa;omega)).gen.toNat
     show 0<=p.gens.getD _ 0/\p.gens.getD _ 0<=1000
     omega
   have ba:MonoG (fun (O:Sig) (W:MetL)=>O im=some (.map (eIL W))):=fun O U' s hg hj=>hj _ _ hg rfl
   refine gz ?_ o98
   refine loopD4 [0,1,68,69,77,78,103,104,105,106,107,108,109,110,111,112] (fun (j:Nat) (W:MetL) (S2:Sig) (js:List Nat)=>j<=out.length/\allL p c out []=allL p c (out.drop j) W/\S2 im=some (.map (eIL W))/\Keep (· = im) O S2/\js.Nodup/\(∀i∈js,O i=none/\S2 i=some .defs)) (fun j _ _ _=>[(70,dI j)]) (fun _ _ S2 _=>S2) (fun _ _ _ js=>js.map .coll) (fun j _ _ _=>out.length-j) (0) ([]) (S1) ([]) (by exact⟨by omega,rfl,cz,fun k x hk _=>cP _ _ hk,by simp,by simp⟩) (fun j W S2 js hI=>?_)
   obtain⟨hj,hR,hm2,ac,be,aE⟩:=hI
   by_cases ay:j<out.length
   ·rw [A4 ay,allL] at hR
    have cJ:=bz _ (List.getElem_mem ay)
    generalize hs:out[j]=s at*
    refine gf hs ?_ o98
    have aS:∀i:Nat,i=im->S2 i≠none:=fun i hi=>by rw[hi,hm2];simp
    refine rangeG unfC (fun (O:Sig) (W:MetL)=>O im=some (.map (eIL W))) (· = im) (· = im) (BH p c s Fw W) W (ba.indep _) ba.fresh hm2 aS aS rfl (fun l did LO SL bi hd hl bK dk bj cq=>?_) (fun did W' U' ho am bA cY aQ=>?_) (fun did U' ho am bA aQ=>?_)
    ·have cT:SL l=some LO:=bj.1
     have cR:SL im=some (.map (eIL W)):=bj.2.1
     refine SR p c im s l _ _ _ Fw hp hc hA bV cJ (fun k lv S3 W3 aJ aq=>?_) SL W bj (fun a ha S3 W3 o aq=>?_) cq (fun S3 W3 aq=>aq.2.2)
     ·have aP:(S3.set l (CQ LO)) im=some (.map (eIL W3)):=aq.busy bi (ba.indep _) hl
      obtain⟨la,lz⟩:=lv
      have bG:∀x,Keep (· = im) (S3.set l (CQ LO)) ((S3.set l (CQ LO)).set im x):=fun x j y hj hn=>by rw[w7 _ _ hn];exact hj
      have cK:=fun (ai:Fw k ⟨la,lz⟩ W3=some (putM (k:Int) ⟨la,lz⟩ W3))=>ai
      refine NF bi aq.1 ?_
      refine gz ?_ o98
      refine⟨aq.1,?_⟩
      have b6:=aq.bad hl (fun j h=>h) (Keep.refl (· = im) (S3.set l (CQ LO)))
      generalize bY:S3.set l (CQ LO)=Sb at aP bG b6⊢
      cases hh:hasM (k:Int) W3 with
      |false=>
       have ai:Fw k ⟨la,lz⟩ W3=some (putM (k:Int) ⟨la,lz⟩ W3):=by unfold Fw;exact if_neg fun h=>by rw[hh]at h;cases h.1
       refine gf (gi aP hh) ?_ o98
       exact endRN ai bi (ba.indep _) aq bK hl (w6 ..) (by rw[bY];exact bG _)
      | true =>
       refine gf (gi aP hh) ?_ o98
       refine eqlS _ (decide (getM ⟨0,0⟩ (k:Int) W3=(⟨la,lz⟩:CLev))) Tm R7 (eqLev _ _) ?_
       by_cases he:getM ⟨0,0⟩ (k:Int) W3=(⟨la,lz⟩:CLev)
       ·have ai:Fw k ⟨la,lz⟩ W3=some (putM (k:Int) ⟨la,lz⟩ W3):=by unfold Fw;exact if_neg fun h=>h.2 he
        refine gf (gi aP he) ?_ o98
        exact endRN ai bi (ba.indep _) aq bK hl (w6 ..) (by rw[bY];exact bG _)
       ·have ai:Fw k ⟨la,lz⟩ W3=none:=by unfold Fw;exact if_pos ⟨hh,he⟩
        refine gf (gi aP he) ?_ o98
        exact endRP ai b6
     ·have e1:l≠a:=fun e=>by rw[<-e,cT]at ha;cases ha
      have e2:im≠a:=fun e=>by rw[<-e,cR]at ha;cases ha
      refine⟨by rw[w7 _ _ e1];exact aq.1,by show(S3.set a o) im=_;rw[w7 _ _ e2];exact aq.2.1,fun j x hj hn=>?_⟩
      rw[w7 _ _ fun e=>?_]
      ·exact aq.2.2 j x hj hn
      ·have:=bj.2.2 j x hj hn
       rw[e,ha]at this;cases this
    ·rw [ho] at hR
     simp only at hR
     refine gz ?_ o98
     have bw:Keep (· = im) O U':=fun k x aa hn=>(aQ k x (ac k x aa hn) hn).1
     have bu:(did::js).Nodup:=List.nodup_cons.2 ⟨fun ax=>(by rw[(aE did ax).2]at am;cases am),be⟩
     have bf:∀i∈did::js,O i=none/\U' i=some .defs:=fun i hi=>by
      rcases List.mem_cons.1 hi with rfl|hi
      ·refine⟨?_,bA⟩
       cases bE:O i with
       |none=>rfl
       |some x=>
        by_cases e:i=im
        ·rw[e,hm2]at am;cases am
        ·rw[ac _ _ bE e]at am;cases am
      ·obtain⟨h1,h2⟩:=aE i hi
       exact⟨h1,(aQ i _ h2 fun e=>by rw[e,hm2]at h2;cases h2).1⟩
     exact⟨j+1,W',U',did::js,⟨by omega,hR,cY,bw,bu,bf⟩,td1,wkR⟩
    ·rw [ho] at hR
     simp only at hR
     have hL:LF p c=none:=by rw[bZ];unfold It;rw[<-hO,hR]
     have bw:Keep (· = im) O U':=fun k x aa hn=>(aQ k x (ac k x aa hn) hn).1
     have bu:(did::js).Nodup:=List.nodup_cons.2 ⟨fun ax=>(by rw[(aE did ax).2]at am;cases am),be⟩
     have bf:∀i∈did::js,O i=none/\U' i=some .defs:=fun i hi=>by
      rcases List.mem_cons.1 hi with rfl|hi
      ·refine⟨?_,bA⟩
       cases bE:O i with
       |none=>rfl
       |some x=>
        by_cases e:i=im
        ·rw[e,hm2]at am;cases am
        ·rw[ac _ _ bE e]at am;cases am
      ·obtain⟨h1,h2⟩:=aE i hi
       exact⟨h1,(aQ i _ h2 fun e=>by rw[e,hm2]at h2;cases h2).1⟩
     exact finMP (did::js) (U':=dels (did::js) U') ⟨fun k x aa hn=>by
      rw[LA _ U' k fun ax=>by rw[(bf k ax).1]at aa;cases aa];exact bw k x aa hn,by rw[hL]⟩ (Sub.refl _) bu fun i hi=>(bf i hi).2
   ·rw[Aa ay,allL]at hR
    have hlen:(eIL W).length=W.length:=by unfold eIL eM;simp
    have hw:LF p c=if W.length=c.ins.length then some W else none:=by rw[bZ];unfold It;rw[<-hO,hR]
    have bW:Keep (· = im) O (dels js S2):=fun k x aa hn=>by
     rw[LA _ S2 k fun ax=>by rw[(aE k ax).1]at aa;cases aa];exact ac k x aa hn
    have cM:(dels js S2) im=some (.map (eIL W)):=by
     rw[LA _ S2 im fun ax=>by rw[(aE im ax).1]at hm;cases hm];exact hm2
    by_cases he:W.length=c.ins.length
    ·rw[if_pos he]at hw
     refine gf (gi hm2 (gi hlen he)) ?_ o98
     exact finMN js (U':=dels js S2) (d':=.tup []) ⟨bW,by rw[hw];exact⟨rfl,cM⟩⟩ (Sub.refl _) be (fun i hi=>(aE i hi).2) (hw:=Ab _)
    ·rw[if_neg he]at hw
     refine gf (gi hm2 (gi hlen he)) ?_ o98
     exact finMP js (U':=dels js S2) ⟨bW,by rw[hw]⟩ (Sub.refl _) be fun i hi=>(aE i hi).2
def LokR(p:BProg)(c:CProg)(O:Sig)(x:DE)(U':Sig):Prop:=match C0 p c with
 |none=>x=.ret .nilp/\U'=O
 |some W=> ∃im,O im=none/\x=.ret (cChk p c im)/\U'=O.set im (.map (eIL W))
theorem Mk(p:BProg)(c:CProg)(O:Sig)(hp:p.wt<=1073741824)(bX:c.ins.length<=1073741824)(aU:c.starts.length<=1073741824):DCall prog 44 [.agg (Ae p),.agg (cCPg c)] O (LokR p c O):=by
 obtain⟨p1,p2,p3,p4,p5,p6,p7⟩:=p.wt_le
 refine en func44 ntmps44 ?_
 by_cases au:okP p=true/\c.ins.length<=300/\c.starts.length=p.methods.length
 ·obtain⟨hk,bc,ai⟩:=au
  have hL:C0 p c=LF p c:=by
   unfold C0 LF
   rw[hk,decide_eq_true bc,decide_eq_true ai]
   simp
  refine gf (gi hk ai) ?_
  refine newIL (fun im aK=>?_)
  refine gf (gi hk ai) ?_
  generalize aB:O.set im (.map (eIL []))=S0
  have aD:S0 im=some (.map (eIL [])):=by rw[<-aB,w6]
  refine A7 (UR 98 [.cptr (cCPg c) 0,.cptr [cChk p c im] 0,.cptr (Ae p) 0] S0 (fun S1=>LkR p c im S1) (fun i hi=>UN p c im _ hp hk bc ai (by rw[w7 _ _ fun e=>by rw[<-e,aD]at hi;cases hi];exact aD)) (fun S1 d S2 h=>?_) (fun i S2 x hi h=>h.1 i _ (w6 ..) (fun e=>by rw[e,aD]at hi;cases hi))) (fun d U' hr=>?_) (fun d U' hr=>?_)
  ·obtain⟨_,h⟩:=h
   split at h
   ·simpa using h
   ·exact absurd h.1 (by simp)
  ·obtain⟨i,S2,hi,rfl,hr⟩:=hr
   have cF:im≠i:=fun e=>by rw[<-e,aD]at hi;cases hi
   have bk:∀(S3:Sig) (W:MetL),Keep (· = im) (S0.set i (.cells [.bool false])) S3->S3 im=some (.map (eIL W))->Sub (O.set im (.map (eIL W))) (S3.del i):=fun S3 W hK hW k x aa=>by
    by_cases e:k=im
    ·subst e
     rw[w6]at aa
     simp only[Sig.del,cF,if_false];rw[hW];exact aa
    ·rw[w7 _ _ e]at aa
     have e0:S0 k=some x:=by rw[<-aB,w7 _ _ e];exact aa
     have e2:k≠i:=fun e2=>by rw[e2,hi]at e0;cases e0
     simp only[Sig.del,e2,if_false]
     exact hK k x (by rw[w7 _ _ e2];exact e0) e
   rcases hr with⟨e,⟨hK,h⟩,h2⟩|⟨⟨hK,h⟩,h2⟩
   ·cases h2
    split at h
    ·cases h
    ·rename_i W hW
     obtain⟨_,cy⟩:=h
     refine gz ?_
     refine fin1 (U':=O.set im (.map (eIL W))) ?_ (hZ:=bk _ _ hK cy)
     unfold LokR;rw[hL,hW];exact⟨im,aK,rfl,rfl⟩
   ·cases h2
    split at h
    ·rename_i hW
     refine gz ?_
     refine fin1 (U':=O) (by unfold LokR;rw[hL,hW];exact⟨rfl,rfl⟩) (hZ:=fun k x aa=>?_)
     have e:=B2 aa aK
     have e0:S0 k=some x:=by rw[<-aB,w7 _ _ e];exact aa
     have e2:k≠i:=fun e2=>by rw[e2,hi]at e0;cases e0
     simp only[Sig.del,e2,if_false]
     exact hK k x (by rw[w7 _ _ e2];exact e0) e
    ·exact absurd h.1 (by simp)
  ·obtain⟨i,S2,hi,rfl,hr⟩:=hr
   rcases hr with⟨e,_,h2⟩|⟨_,h2⟩<;>cases h2
 ·have hL:C0 p c=none:=by
   unfold C0
   exact if_neg fun h=>by
    simp only[Bool.and_eq_true,decide_eq_true_eq]at h
    exact au ⟨h.1,h.2.1,h.2.2.1⟩
  repeat' first|refine gz ?_|apply gy<;>intro hh
  all_goals first|exact fin1 (U':=O) (by unfold LokR;rw[hL];exact⟨rfl,rfl⟩)|exact absurd ⟨by assumption,by omega,by omega⟩ au
def Eo(c:CProg)(W:MetL):List CLev:=(List.range c.ins.length).map fun k:Nat=>getM ⟨0,0⟩ (k:Int) W
theorem Ow(p:BProg)(c:CProg)(O:Sig)(hp:p.wt<=1073741824)(bX:c.ins.length<=1073741824)(aU:c.starts.length<=1073741824):DCall prog 25 [.agg (Ae p),.agg (cCPg c)] O (rS (.tup [sl (((C0 p c).map (Eo c)).getD [] |>.map cLev),dI (if(C0 p c).isSome then 0 else 2)]) O):=by
 refine en func25 ntmps25 ?_
 refine gz ?_
 refine A7 (Mk p c O hp bX aU) (fun d U' hr=>?_) (fun d U' hr=>?_)
 ·unfold LokR at hr
  cases hL:C0 p c with
  |none=>
   rw[hL]at hr
   obtain⟨e,rfl⟩:=hr
   cases e
   refine gz ?_
   refine fin2 (U':=U') (d':=sl []) (e':=dI 2) ⟨rfl,rfl⟩ (hw:=?_)
   exact Al _ (.inl rfl)
  | some W =>
   rw[hL]at hr
   obtain⟨im,aK,e,rfl⟩:=hr
   cases e
   have aD:(O.set im (.map (eIL W))) im=some (.map (eIL W)):=w6 ..
   have bF:Sub O (O.set im (.map (eIL W))):=(Sub.refl _).set aK
   generalize O.set im (.map (eIL W))=S0 at aD bF
   refine gz ?_
   refine EZ 7 2 (fun it bh=>?_)
   have nit:im≠it:=B2 aD bh
   refine BT [4,5,6,16,30] (fun (k:Nat) (out:List CLev)=>k<=c.ins.length/\out=(List.range k).map fun k:Nat=>getM ⟨0,0⟩ (k:Int) W) (fun k out=>[(17,dI k),(7,.slice (out.map cLev) (.tag it))]) (fun _ out=>S0.set it (.tail 2 out.length)) (fun k _=>c.ins.length-k) (0) ([]) (by exact⟨by omega,rfl⟩) (fun k out hI=>?_)
   obtain⟨hk,hO⟩:=hI
   have bn:out.length=k:=by rw[hO];simp
   by_cases aJ:k<c.ins.length
   ·refine gf (gi aD nit) ?_
    exact⟨k+1,out++[getM ⟨0,0⟩ (k:Int) W],⟨by omega,by rw[List.range_succ,List.map_append,<-hO];rfl⟩,td1,wkR⟩
   ·have cE:k=c.ins.length:=by omega
    have cQ:out=Eo c W:=by rw[hO,cE];rfl
    refine gz ?_
    refine fin2 (U':=O) (d':=sl ((Eo c W).map cLev)) (e':=dI 0) ⟨rfl,rfl⟩ (hZ:=bF.set (bF.none bh)) (hw:=?_)
    rw[cQ];exact BZ _ _
 ·unfold LokR at hr
  split at hr
  ·cases hr.1
  ·obtain⟨_,_,h,_⟩:=hr;cases h
end Go.DL
namespace Go.DL
open Go.Proofs.Tryz
open Go Go.Proofs
set_option maxHeartbeats 8000000
def EX(h:GoH):List D:=[dI h.kind,dI h.val.kind,dI h.val.n,dI h.gen,sl (h.args.map cVal),dI h.fin,dI h.pos,sl (h.stk.map cVal),sl (h.env.map cVal),sl (h.objs.map cTh),sl (h.evs.map cEv)]
def JM:GoH:=⟨0,vZ,0,[],0,0,[],[],[],[]⟩
abbrev cFr(pos:Int)(stk env:List MVal):List D:=[dI pos,sl (stk.map cVal),sl (env.map cVal)]
theorem DV:WkD (.agg [dI 0,dI 0,dI 0,dI 0,.nils,dI 0,dI 0,.nils,.nils,.nils,.nils]) (.agg (EX JM)):=
 FK ⟨Ab _,Ab _,Ab _,Ab _,Al _ (.inl rfl),Ab _,Ab _,Al _ (.inl rfl),Al _ (.inl rfl),Al _ (.inl rfl),Al _ (.inl rfl),trivial⟩
theorem KU{n:Nat}{γ:Fr}{df:List DDf}{O:Sig}{i:Nat}{xs ys:List D}{d d':D}(hi:O i=some (.cells (xs++d::ys)))(h:WkD d d'): ∃U',Wk prog n ⟨γ,O,df⟩ ⟨γ,U',df⟩/\U' i=some (.cells (xs++d'::ys)) /\ ∀j o,O j=some o->j≠i->U' j=some o:=
 ⟨_,Hs hi h,w6 .., fun j o hj ak=>by rw[w7 _ _ ak];exact hj⟩
section
variable {ir:Nat}{p:BProg}{R:Nat->RW}{s:GoS}{O:Sig}
theorem haltFz{n:Nat}{γ:Fr}{df:List DDf}{av:D}{b:Bool}{h:GoH}(hH:HaltS ir p R s av b h O): ∃U' tl,Wk prog n ⟨γ,O,df⟩ ⟨γ,U',df⟩/\U' ir=some (.cells (EX h++tl)) /\ ∀j o,O j=some o->j≠ir->(∀a, ¬(R a).is j)->U' j=some o:=by
 obtain⟨aO,ah,aw,bQ,aF,aC,aT,ai⟩:=hH
 have dj:∀{a b:Nat},a≠b->∀{j:Nat},(R a).is j->¬(R b).is j:=fun {a b} ae {j} ha hb=>ae (ah.dj a b j ha hb)
 have nir:∀{a j:Nat},(R a).is j->j≠ir:=fun {a j} h e=>aw a (e ▸ h)
 cases b with
 |false=>
  obtain⟨e1,e2,e3⟩:=ai
  obtain⟨S1,w1,o1,k1⟩:=NA (n:=n) (γ:=γ) (df:=df) (a0:=[dI h.kind,dI h.val.kind,dI h.val.n,dI h.gen,av,dI h.fin,dI 0,.nils,.nils]) (b0:=(R 2).d s.evs.length::(Ae p++[dI s.pos,(R 0).d s.stk.length,(R 1).d s.env.length])) ah aw (bQ 3) (by rw[aO];rfl)
  have q2:RWAt S1 3 (R 2) (s.evs.map cEv):=(ah.ok 2).keep fun j o hj aj=>k1 j o hj (nir aj) fun q hq=>dj (by omega) aj
  obtain⟨S2,w2,o2,k2⟩:=BS (P:=prog) (n:=n) (γ:=γ) (df:=df) (i:=ir) (az:=[dI h.kind,dI h.val.kind,dI h.val.n,dI h.gen,av,dI h.fin,dI 0,.nils,.nils,.slice (s.objs.map cTh) .no]) (bs:=Ae p++[dI s.pos,(R 0).d s.stk.length,(R 1).d s.env.length]) q2 (by rw[o1,List.length_map];rfl) (aw 2)
  obtain⟨S3,w3,o3,k3⟩:=KU (n:=n) (γ:=γ) (df:=df) (xs:=[dI h.kind,dI h.val.kind,dI h.val.n,dI h.gen]) (ys:=[dI h.fin,dI 0,.nils,.nils,.slice (s.objs.map cTh) .no,.slice (s.evs.map cEv) .no]++(Ae p++[dI s.pos,(R 0).d s.stk.length,(R 1).d s.env.length])) o2 aF
  obtain⟨S4,w4,o4,k4⟩:=KU (n:=n) (γ:=γ) (df:=df) (xs:=[dI h.kind,dI h.val.kind,dI h.val.n,dI h.gen,sl (h.args.map cVal),dI h.fin,dI 0]) (ys:=[.nils,.slice (s.objs.map cTh) .no,.slice (s.evs.map cEv) .no]++(Ae p++[dI s.pos,(R 0).d s.stk.length,(R 1).d s.env.length])) o3 (Al .no (.inl rfl))
  obtain⟨S5,w5,o5,k5⟩:=KU (n:=n) (γ:=γ) (df:=df) (xs:=[dI h.kind,dI h.val.kind,dI h.val.n,dI h.gen,sl (h.args.map cVal),dI h.fin,dI 0,sl []]) (ys:=[.slice (s.objs.map cTh) .no,.slice (s.evs.map cEv) .no]++(Ae p++[dI s.pos,(R 0).d s.stk.length,(R 1).d s.env.length])) o4 (Al .no (.inl rfl))
  refine⟨S5,Ae p++[dI s.pos,(R 0).d s.stk.length,(R 1).d s.env.length],(((w1.trans w2).trans w3).trans w4).trans w5,?_,fun j o hj ak hn=>k5 j o (k4 j o (k3 j o (k2 j o (k1 j o hj ak fun q _=>hn q) ak (hn 2)) ak) ak) ak⟩
  rw[o5,EX,e1,e2,e3,aC,aT];rfl
 | true =>
  obtain⟨e1,e2,e3⟩:=ai
  obtain⟨S1,w1,o1,k1⟩:=NA (n:=n) (γ:=γ) (df:=df) (a0:=[dI h.kind,dI h.val.kind,dI h.val.n,dI h.gen,av,dI h.fin,dI s.pos,(R 0).d s.stk.length,(R 1).d s.env.length]) (b0:=(R 2).d s.evs.length::(Ae p++[dI s.pos,(R 0).d s.stk.length,(R 1).d s.env.length])) ah aw (bQ 3) (by rw[aO];rfl)
  have q2:RWAt S1 3 (R 2) (s.evs.map cEv):=(ah.ok 2).keep fun j o hj aj=>k1 j o hj (nir aj) fun q hq=>dj (by omega) aj
  obtain⟨S2,w2,o2,k2⟩:=BS (P:=prog) (n:=n) (γ:=γ) (df:=df) (i:=ir) (az:=[dI h.kind,dI h.val.kind,dI h.val.n,dI h.gen,av,dI h.fin,dI s.pos,(R 0).d s.stk.length,(R 1).d s.env.length,.slice (s.objs.map cTh) .no]) (bs:=Ae p++[dI s.pos,(R 0).d s.stk.length,(R 1).d s.env.length]) q2 (by rw[o1,List.length_map];rfl) (aw 2)
  have q0:RWAt S2 2 (R 0) (s.stk.map cVal):=(ah.ok 0).keep fun j o hj aj=>k2 j o (k1 j o hj (nir aj) fun q hq=>dj (by omega) aj) (nir aj) (dj (by decide) aj)
  obtain⟨S3,w3,o3,k3⟩:=BS (P:=prog) (n:=n) (γ:=γ) (df:=df) (i:=ir) (az:=[dI h.kind,dI h.val.kind,dI h.val.n,dI h.gen,av,dI h.fin,dI s.pos]) (bs:=[(R 1).d s.env.length,.slice (s.objs.map cTh) .no,.slice (s.evs.map cEv) .no]++(Ae p++[dI s.pos,(R 0).d s.stk.length,(R 1).d s.env.length])) q0 (by rw[o2,List.length_map];rfl) (aw 0)
  have q1:RWAt S3 2 (R 1) (s.env.map cVal):=(ah.ok 1).keep fun j o hj aj=>k3 j o (k2 j o (k1 j o hj (nir aj) fun q hq=>dj (by omega) aj) (nir aj) (dj (by decide) aj)) (nir aj) (dj (by decide) aj)
  obtain⟨S4,w4,o4,k4⟩:=BS (P:=prog) (n:=n) (γ:=γ) (df:=df) (i:=ir) (az:=[dI h.kind,dI h.val.kind,dI h.val.n,dI h.gen,av,dI h.fin,dI s.pos,.slice (s.stk.map cVal) .no]) (bs:=[.slice (s.objs.map cTh) .no,.slice (s.evs.map cEv) .no]++(Ae p++[dI s.pos,(R 0).d s.stk.length,(R 1).d s.env.length])) q1 (by rw[o3,List.length_map];rfl) (aw 1)
  have w5:=Hs (P:=prog) (n:=n) (γ:=γ) (df:=df) (az:=[dI h.kind,dI h.val.kind,dI h.val.n,dI h.gen]) (bs:=[dI h.fin,dI s.pos,.slice (s.stk.map cVal) .no,.slice (s.env.map cVal) .no,.slice (s.objs.map cTh) .no,.slice (s.evs.map cEv) .no]++(Ae p++[dI s.pos,(R 0).d s.stk.length,(R 1).d s.env.length])) (d:=av) o4 aF
  refine⟨_,Ae p++[dI s.pos,(R 0).d s.stk.length,(R 1).d s.env.length],(((w1.trans w2).trans w3).trans w4).trans w5,?_,fun j o hj ak hn=>?_⟩
  ·rw[w6,EX,e1,e2,e3,aC,aT];rfl
  ·rw[w7 _ _ ak]
   exact k4 j o (k3 j o (k2 j o (k1 j o hj ak fun q _=>hn q) ak (hn 2)) ak (hn 0)) ak (hn 1)
theorem haltD{ro:Ro}{n:Nat}{Q:DX->St->Prop}{c:Code}{γ:Fr}{df:List DDf}{av:D}{b:Bool}{h:GoH}(hH:HaltS ir p R s av b h O)
  (k:∀U' tl,U' ir=some (.cells (EX h++tl))->(∀j o,O j=some o->j≠ir->(∀a, ¬(R a).is j)->U' j=some o)->DWp prog ro n c Q ⟨γ,U',df⟩):DWp prog ro n c Q ⟨γ,O,df⟩:=by
 obtain⟨S2,tl,w,a,b⟩:=haltFz (n:=n) (γ:=γ) (df:=df) hH
 exact Hh w (k S2 tl a b)
def R01(r0 r1:RW):Nat->RW:=updF (updF (fun _=>.nil) 0 r0) 1 r1
theorem RunS.init{S1 S2:Sig}{r0 r1:RW}{stk env:List MVal}{pos:Int}(h0:FrV O r0 stk S1)(h1:FrV S1 r1 env S2)(hi:S2 ir=none):RunS ir p (R01 r0 r1) ⟨[],[],pos,stk,env⟩ (S2.set ir (.cells (AN p (R01 r0 r1) ⟨[],[],pos,stk,env⟩))):=by
 have a:Rows O (fun _=>RW.nil) rSz (fun _=>[]):=⟨fun _=>rfl,fun _ _ _ h=>h.elim⟩
 have b:Rows S1 (updF (fun _=>RW.nil) 0 r0) rSz (updF (fun _=>[]) 0 (stk.map cVal)):=a.upd (a:=0) h0.1 h0.2.1
 have c:=b.upd (a:=1) (r':=r1) (es':=env.map cVal) (U':=S2) h1.1 (by rw[A8 _ _ (by omega)];exact h1.2.1)
 have d:=c.retell (ct':=rCt (R01 r0 r1) ⟨[],[],pos,stk,env⟩) fun a=>by
  match a with
  |0=>rw[A8 _ _ (by omega),Aj];rfl
  |1=>rw[Aj];rfl
  |2=>rw[A8 _ _ (by omega),A8 _ _ (by omega)];rfl
  |3=>rw[A8 _ _ (by omega),A8 _ _ (by omega)];rfl
  |k+4=>rw[A8 _ _ (by omega),A8 _ _ (by omega)];simp[rCt]
 have aw:∀a, ¬(R01 r0 r1 a).is ir:=fun a ha=>by
  obtain⟨z,hz⟩:=(d.ok a).cells ha
  rw[hi]at hz;cases hz
 refine⟨w6 .., d.keep fun j o hj ⟨b,hb⟩=>by rw[w7 _ _ fun e=>aw b (by rw[<-e];exact hb)];exact hj,aw,fun a es ha=>?_⟩
 unfold R01 at ha
 by_cases e1:a=1
 ·subst e1;rw[Aj]at ha;exact h1.2.2 es ha
 ·rw[A8 _ _ e1]at ha
  by_cases e0:a=0
  ·subst e0;rw[Aj]at ha;exact h0.2.2 es ha
  ·rw[A8 _ _ e0]at ha;cases ha
theorem U4{ds:List D}{r:RW}{n k:Nat}(h:O ir=some (.cells ds))(hl:k<ds.length):Eb tab O 31 (.ptr ir k) (r.d n)=some (.any,O.set ir (.cells (ds.take k++[r.d n]++ds.drop (k+1)))):=by
 have hf:¬ds.length<k+1:=by omega
 cases r<;>simp[Eb,h,RW.d,hf]
theorem storeRw{ro:Ro}{n:Nat}{ops:Array Oper}{Q:DX->St->Prop}{df:List DDf}{rest:List Oper}{γ Sr:Fr}{ty:TypeId}{pos:String}{after:Array Edge}{x y:Operand}{ds:List D}{r:RW}{m k:Nat}(hc:O ir=some (.cells ds))(h:DOps prog ro n ops Q rest ⟨γ,O.set ir (.cells (ds.take k++[r.d m]++ds.drop (k+1))),df⟩)
  (hl:A2 γ (A9 [x,y])=some Sr:=by exact tdR) (h1:ev Sr x=.ptr ir k:=by exact tdR) (h2:ev Sr y=r.d m:=by exact tdR) (hlen:k<ds.length:=by simp) :
  DOps prog ro n ops Q (⟨none,.store 31 x y,ty,pos,after,none⟩::rest) ⟨γ,O,df⟩:=
 Ec Af (d:=.any) hl (by show Eb tab O 31 (ev Sr x) (ev Sr y)=_;rw[h1,h2];exact U4 hc hlen) h
end
section
variable {ro:Ro}{n:Nat}{ops:Array Oper}{N:Nat}{S0:Sig}{Q:DX->St->Prop}{df:List DDf}{γ Sr:List (Nat×D)}{O:Sig}{t:Nat}{ty:TypeId}{pos:String}{after:Array Edge}{e1:Bool}{l:List (Bool×Oper)}
theorem moRr(d:D){op:Op}(h:MO prog ro n ops N S0 Q df l ((t,d)::γ) O)(hr:DH op=true:=by rfl)(bd:decide (t<n)=true:=by exact tdR)(hl:A2 γ (A9 op.operands.toList)=some Sr:=by exact tdR)(hd:dopX tab Sr S0 op=some d:=by first|with_unfolding_all rfl|(simp;done)|(simp;rfl)):MO prog ro n ops N S0 Q df ((e1,⟨some t,op,ty,pos,after,none⟩)::l) γ O:=
 Lh Af hr bd hl hd h
theorem moBox{T:Nat}{x:Operand}(cs:List D)(h:∀i,O i=none->MO prog ro n ops N S0 Q df l ((t,.ptr i 0)::γ) (O.set i (.cells cs)))(hl:A2 γ (A9 [x])=some Sr:=by exact tdR)(hc:(ev Sr x).cells=cs:=by exact tdR)(ht:(ev Sr x).told=true:=by exact tdR)(bd:decide (t<n)=true:=by exact tdR)(hC:Sub S0 O:=by first|exact Sub.refl _|assumption):
  MO prog ro n ops N S0 Q df ((true,⟨some t,.box T x,ty,pos,after,none⟩)::l) γ O:=
 mo1 (fun U2 hx=>by
  have e:ev U2 x=ev Sr x:=by rw[hx x (by simp[Op.operands]),Cv hl]
  exact dops_box (by rw[e];exact ht) (by simpa using bd) (fun i hi=>Ax ⟨rfl,by simp only[A6,if_true];rw[e,hc];exact⟨hC.set (hC.none hi),h i hi⟩⟩)) bd
end
def Ut(s:GoS)(r:GoS ⊕ GoH):Prop:= ∀t,r=.inl t->t.stk.length<=s.stk.length+1/\t.env.length<=s.env.length+1/\t.evs.length<=s.evs.length+1
theorem len_ite{s:GoS}{c:Prop}[Decidable c]{a b:GoS ⊕ GoH}(h1:Ut s a)(h2:Ut s b):Ut s (if c then a else b):=by split<;>assumption
theorem Qt{p:BProg}{w:CWorld}{x:CIns}{s t:GoS}(h:IX p w x s=.inl t):t.stk.length<=s.stk.length+1/\t.env.length<=s.env.length+1/\t.evs.length<=s.evs.length+1:=by
 have key:Ut s (IX p w x s):=by
  rw[IX]
  repeat' (refine len_ite ?_ ?_)
  all_goals
   intro t h
   first|(cases h;done)|(cases h;simp only[List.length_append,List.length_dropLast,List.length_singleton];omega)
 exact key t h
theorem actAt{j:Nat}(h1:1<=j)(h2:j<=21):cActs[j]? = some (.func (.func (actF j)) [] []):=by
 have h:j=1\/j=2\/j=3\/j=4\/j=5\/j=6\/j=7\/j=8\/j=9\/j=10\/j=11\/j=12\/j=13\/j=14\/j=15\/j=16\/j=17\/j=18\/j=19\/j=20\/j=21:=by omega
 rcases h with rfl|rfl|rfl|rfl|rfl|rfl|rfl|rfl|rfl|rfl|rfl|rfl|rfl|rfl|rfl|rfl|rfl|rfl|rfl|rfl|rfl<;>rfl
theorem Of(c:CProg)(W:MetL){k:Nat}(hk:k<c.ins.length):(Eo c W)[k]? = some (getM ⟨0,0⟩ (k:Int) W):=by
 unfold Eo;rw[List.getElem?_map,List.getElem?_range hk];rfl
theorem Oe(c:CProg)(W:MetL):(Eo c W).length=c.ins.length:=by unfold Eo;simp
theorem EH(p:BProg)(c:CProg):DJ p c=(C0 p c).map (Eo c):=by rw[<-QU,Pe];rfl
end Go.DL
