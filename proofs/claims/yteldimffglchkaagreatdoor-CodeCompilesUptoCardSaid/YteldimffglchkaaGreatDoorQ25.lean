/- A part of the proof. -/
import Derived.Test.YteldimffglchkaaGreatDoorQ19
import Derived.Test.YteldimffglchkaaGreatDoorQ11
import Derived.Test.YteldimffglchkaaGreatDoorQ18
import Derived.Test.YteldimffglchkaaGreatDoorQ23
import Derived.Test.YteldimffglchkaaGreatDoorQ24
set_option linter.all false
namespace Go.DL
open Go.Proofs.Tryz
open Go Go.Proofs
set_option maxHeartbeats 8000000
theorem T7(op a:Int)(O:Sig):DCall prog 149 [dI op,dI a] O (rS (.slice [cIns ⟨op,a⟩] .clip) O):=by
 refine en func149 ntmps149 ?_
 refine gz ?_
 (refine fin1 (U':=O) ?_;exact⟨by first|rfl|(simp[cIns];done)|(simp_all [cIns];done)|(rw[Ad,Bool.eq_iff_iff];simp_all [cIns]<;>omega),rfl⟩)
@[reducible,instance] def a149:=fun op a O=>ah0 (@T7 op a O)
def W148(p:BProg)(k:Nat)(c:Int)(q:Nat):Prop:= ∀O,DCall prog 148 [.agg (Ac p),dI c,dI q] O (rS (.slice ((cN p k c q).map cIns) .no) O)
def S148(p:BProg)(k:Nat)(c:Int)(q:Nat):Prop:= ∀O,DCall prog 148 [.agg (Ac p),dI c,dI q] O fun x U'=> ∃o,x=.ret (.slice ((cN p k c q).map cIns) o)/\RowR 2 O U' ((cN p k c q).map cIns) o
theorem S148.weak{p:BProg}{k:Nat}{c:Int}{q:Nat}(h:S148 p k c q):W148 p k c q:=fun O=>TO (h O)
theorem PJ(p:BProg)(k:Nat)(l:List Int)(q:Nat)(o:Own)(O:Sig)(hp:p.wt<=1073741824)(hl:l.length<=1073741824)(hq:q+(Cr (cN p k) l q).length<=1000000)(ih:∀c∈l, ∀r:Nat,r+(cN p k c r).length<=1000000->W148 p k c r):
  DCall prog 229 [.agg (Ac p),.slice (cI l) o,dI q] O fun x U'=> ∃o,x=.ret (.slice ((Cr (cN p k) l q).map cIns) o)/\RowR 2 O U' ((Cr (cN p k) l q).map cIns) o:=by
 refine en func229 ntmps229 ?_
 refine gz ?_ o229
 refine Eg 7 2 (fun it au=>?_)
 refine BX [1,2,3,6,27] (fun (i:Nat) (out:List CIns)=>i<=l.length/\out++Cr (cN p k) (l.drop i) (q+out.length)=Cr (cN p k) l q) (fun i out=>[(8,dI i),(7,.slice (out.map cIns) (.tag it))]) (fun _ out=>O.set it (.tail 2 out.length)) (fun i _=>l.length-i) (0) ([]) (by exact⟨by omega,rfl⟩) (fun i out hI=>?_)
 obtain⟨hi,hR⟩:=hI
 by_cases aJ:i<l.length
 ·rw[A4 aJ,Cr]at hR
  have aC:=congrArg List.length hR
  simp only[List.length_append]at aC
  obtain⟨r,hr⟩:∃r:Nat,r=q+out.length:=⟨_,rfl⟩
  rw[<-hr]at aC hR
  have i148:∀O,Ans 148 [.agg (Ac p),dI l[i],dI r] O True (.slice ((cN p k l[i] r).map cIns) .no):=fun O=>ah0 (ih _ (List.getElem_mem aJ) _ (by omega) O)
  have aa:(q:Int)+(out.length:Int)=(r:Int):=by omega
  refine gz ?_
  refine EP [0,1,2,3,4,5,6,7,8,9,10,11,12] [11] O ((Sub.refl _).set au) ?_
  refine gf aa ?_ o229
  refine moQR ?_
  refine QW (sz:=2) au (Sub.refl _) ?_
  rw[<-List.map_append,List.length_map]
  refine gz ?_ o229
  exact⟨i+1,out++cN p k l[i] r,⟨by omega,by rw[List.length_append,<-Nat.add_assoc,<-hr,List.append_assoc];exact hR⟩,td1,wkR⟩
 ·rw[A9 aJ,Cr,List.append_nil]at hR
  refine gz ?_ o229
  rw[<-hR]
  exact VU ⟨_,rfl,.inr ⟨it,au,rfl,by rw[List.length_map]⟩⟩
def II (p:BProg) (k:Nat) (x:BNode) (q:Nat):List CIns :=
 if x.op=9 then cN p k (kidN x 0) q++(⟨14,0⟩::(cN p k (kidN x 1) (q+cL p k (kidN x 0)+1)++[⟨15,0⟩]))
 else if x.op=11 then cN p k (kidN x 0) q++(⟨16,0⟩::cN p k (kidN x 1) (q+cL p k (kidN x 0)+1))
 else cN p k (kidN x 0) q++(⟨17,((q+cL p k (kidN x 0)+1+cL p k (kidN x 1)+1:Nat):Int)⟩::(cN p k (kidN x 1) (q+cL p k (kidN x 0)+1) ++
    (⟨18,((q+cL p k (kidN x 0)+1+cL p k (kidN x 1)+1+cL p k (kidN x 2):Nat):Int)⟩::cN p k (kidN x 2) (q+cL p k (kidN x 0)+1+cL p k (kidN x 1)+1))))
theorem PK(p:BProg)(k:Nat)(x:BNode)(q:Nat)(O:Sig)(hp:p.wt<=1073741824)(ac:(x.op=9\/x.op=11)/\x.kids.length=2\/x.op=10/\x.kids.length=3)(hq:q+(II p k x q).length<=1000000)(ih:∀c∈x.kids, ∀r:Nat,r+cL p k c<=1000000->S148 p k c r):
  DCall prog 228 [.agg (Ac p),.agg (Gk x),dI q] O fun y U'=> ∃o,y=.ret (.slice ((II p k x q).map cIns) o)/\RowR 2 O U' ((II p k x q).map cIns) o:=by
 have hN:=EC p k
 rcases ac with⟨ac,hl⟩|⟨ac,hl⟩
 ·obtain⟨a,b,ax⟩:∃a b,x.kids=[a,b]:=by
   match hx:x.kids,hl with
   |[a,b],_=>exact⟨a,b,rfl⟩
  obtain⟨op,num,kids⟩:=x
  simp only at ax ac
  subst ax
  simp only[II,kidN,List.getElem?_cons_zero,List.getElem?_cons_succ,Option.getD_some]at hq⊢
  have hA:=ih a (by simp)
  have hB:=ih b (by simp)
  rcases ac with rfl|rfl
  ·rw[if_pos rfl]at hq⊢
   simp only[List.length_append,List.length_cons,List.length_nil,hN]at hq
   obtain⟨r,hr⟩:∃r:Nat,r=q+cL p k a+1:=⟨_,rfl⟩
   rw[<-hr]
   have i148:∀O,Ans 148 [.agg (Ac p),dI b,dI r] O True (.slice ((cN p k b r).map cIns) .no):=fun O=>ah0 ((hB _ (by omega)).weak O)
   have aa:(q:Int)+((cL p k a:Int)+1)=(r:Int):=by omega
   have l1:=hN a q
   have l2:=hN b r
   refine en func228 ntmps228 ?_
   refine gz ?_ (delO 1 o228)
   refine mix [0,1,2,3,4,5,6,7] [6] ?_
   refine gz ?_ o228
   refine B2 (hA q (by omega) O) (fun d U' hr=>?_) (fun d U' hr=>by obtain⟨_,h,_⟩:=hr;cases h)
   obtain⟨o1,e1,hR⟩:=hr
   cases e1
   refine⟨hR.sub,?_⟩
   refine gz ?_ o228
   refine appR hR (fun j hj=>?_)
   refine gz ?_ (delO 5 o228)
   refine EP [0,1,2,3,4,5,6,7,8,9,10,11,12] [11] O ((Sub.refl _).set hj) ?_
   refine gf (gi aa hN) ?_ o228
   refine moQR ?_
   refine QW (sz:=2) hj (Sub.refl _) ?_
   refine gz ?_ o228
   try refine appT (sz:=2) hj ?_
   try refine gz ?_ o228
   exact Lz hj (hZ:=by first|rfl|(simp;done)|(congr 2;simp<;>omega))
  ·rw[if_neg (by decide),if_pos rfl]at hq⊢
   simp only[List.length_append,List.length_cons,List.length_nil,hN]at hq
   obtain⟨r,hr⟩:∃r:Nat,r=q+cL p k a+1:=⟨_,rfl⟩
   rw[<-hr]
   have i148:∀O,Ans 148 [.agg (Ac p),dI b,dI r] O True (.slice ((cN p k b r).map cIns) .no):=fun O=>ah0 ((hB _ (by omega)).weak O)
   have aa:(q:Int)+((cL p k a:Int)+1)=(r:Int):=by omega
   have l1:=hN a q
   have l2:=hN b r
   refine en func228 ntmps228 ?_
   refine gz ?_ (delO 1 o228)
   refine mix [0,1,2,3,4,5,6,7] [6] ?_
   refine gz ?_ o228
   refine B2 (hA q (by omega) O) (fun d U' hr=>?_) (fun d U' hr=>by obtain⟨_,h,_⟩:=hr;cases h)
   obtain⟨o1,e1,hR⟩:=hr
   cases e1
   refine⟨hR.sub,?_⟩
   refine gz ?_ o228
   refine appR hR (fun j hj=>?_)
   refine gz ?_ (delO 9 o228)
   refine EP [0,1,2,3,4,5,6,7,8,9,10,11,12] [11] O ((Sub.refl _).set hj) ?_
   refine gf (gi aa hN) ?_ o228
   refine moQR ?_
   refine QW (sz:=2) hj (Sub.refl _) ?_
   refine gz ?_ o228
   exact Lz hj
 ·obtain⟨a,b,c,ax⟩:∃a b c,x.kids=[a,b,c]:=by
   match hx:x.kids,hl with
   |[a,b,c],_=>exact⟨a,b,c,rfl⟩
  obtain⟨op,num,kids⟩:=x
  simp only at ax ac
  subst ax
  simp only[II,kidN,List.getElem?_cons_zero,List.getElem?_cons_succ,Option.getD_some]at hq⊢
  have hA:=ih a (by simp)
  have hB:=ih b (by simp)
  have hC:=ih c (by simp)
  subst ac
  rw[if_neg (by decide),if_neg (by decide)]at hq⊢
  simp only[List.length_append,List.length_cons,List.length_nil,hN]at hq
  obtain⟨r,hr⟩:∃r:Nat,r=q+cL p k a+1:=⟨_,rfl⟩
  rw[<-hr]
  obtain⟨u,hu⟩:∃u:Nat,u=r+cL p k b+1:=⟨_,rfl⟩
  rw[<-hu]
  have i148:∀O,Ans 148 [.agg (Ac p),dI b,dI r] O True (.slice ((cN p k b r).map cIns) .no):=fun O=>ah0 ((hB _ (by omega)).weak O)
  have j148:∀O,Ans 148 [.agg (Ac p),dI c,dI u] O True (.slice ((cN p k c u).map cIns) .no):=fun O=>ah0 ((hC _ (by omega)).weak O)
  have aa:(q:Int)+(cL p k a:Int)+1=(r:Int):=by omega
  have ai:(r:Int)+(cL p k b:Int)+1=(u:Int):=by omega
  have l1:=hN a q
  have l2:=hN b r
  have l3:=hN c u
  refine en func228 ntmps228 ?_
  refine gz ?_ (delO 1 o228)
  refine mix [0,1,2,3,4,5,6,7] [6] ?_
  refine gz ?_ o228
  refine B2 (hA q (by omega) O) (fun d U' hr=>?_) (fun d U' hr=>by obtain⟨_,h,_⟩:=hr;cases h)
  obtain⟨o1,e1,hR⟩:=hr
  cases e1
  refine⟨hR.sub,?_⟩
  refine gf (gi aa (gi hN ai)) ?_ o228
  refine appR hR (fun j hj=>?_)
  refine gz ?_ o228
  try refine appT (sz:=2) hj ?_
  try refine gf (gi aa (gi hN ai)) ?_ o228
  try refine appT (sz:=2) hj ?_
  try refine gz ?_ o228
  try refine appT (sz:=2) hj ?_
  try refine gz ?_ o228
  exact Lz hj (he:=by simp[cIns]<;>omega) (hZ:=by first|rfl|(simp;done)|(congr 2;simp<;>omega))
theorem KJ(p:BProg)(inM:Bool)(hp:p.wt<=1073741824): ∀(k:Nat) (n:Int) (size q:Nat),trE p inM k n size->q+cL p k n<=1000000->S148 p k n q:=by
 obtain⟨p1,p2,p3,p4,p5,p6,p7⟩:=p.wt_le
 intro k
 induction k with
 |zero=>intro n size q h;exact h.elim
 | succ k ih =>
  intro n size q h hq O
  have ac:=Ql h
  have ak:=fun m hm=>DG h (m:=m) hm
  obtain⟨⟨h0,h1⟩,bz,aq,bt,hk⟩:=h
  obtain⟨i,rfl⟩:∃i:Nat,n=(i:Int):=⟨n.toNat,by omega⟩
  have hi:i<p.nodes.length:=by omega
  have aU:A1 p i=p.nodes[i]:=by unfold A1;rw[show((i:Int)).toNat=i by omega,List.getElem?_eq_getElem hi];rfl
  have bh:=p7 i hi
  have aP:=EC p (k+1) i q
  rw[aU]at ac ak bz aq bt hk
  have ah:cN p (k+1) i q=if(p.nodes[i]).op=9\/(p.nodes[i]).op=11\/(p.nodes[i]).op=10 then II p k (p.nodes[i]) q else Cr (cN p k) (p.nodes[i]).kids q++[⟨BZ (p.nodes[i]).op,(p.nodes[i]).n⟩]:=by
   rw[cN,aU];unfold II
   by_cases h9:(p.nodes[i]).op=9
   ·rw[if_pos h9,if_pos (.inl h9),if_pos h9]
   ·by_cases ap:(p.nodes[i]).op=11
    ·rw[if_neg h9,if_pos ap,if_pos (.inr (.inl ap)),if_neg h9,if_pos ap]
    ·by_cases aR:(p.nodes[i]).op=10
     ·rw[if_neg h9,if_neg ap,if_pos aR,if_pos (.inr (.inr aR)),if_neg h9,if_neg ap]
     ·rw[if_neg h9,if_neg ap,if_neg aR,if_neg (by omega)]
  rw[<-aP]at hq
  rw[ah]at hq⊢
  clear aP
  generalize hx:p.nodes[i]=x at*
  have bx:x.kids.length<=1073741824:=by unfold BNode.wt at bh;omega
  have bA:∀c∈x.kids, ∃z:Nat,trE p inM k c z:=fun c hc=>by
   obtain⟨j,hj,rfl⟩:=List.getElem_of_mem hc
   have:=hk j hj
   split at this
   ·exact⟨size+1,this⟩
   ·exact⟨size,this⟩
  have hS:∀c∈x.kids, ∀r:Nat,r+cL p k c<=1000000->S148 p k c r:=fun c hc r hr=>by obtain⟨z,hz⟩:=bA c hc;exact ih c z r hz hr
  have hW:∀c∈x.kids, ∀r:Nat,r+(cN p k c r).length<=1000000->W148 p k c r:=fun c hc r hr=>(hS c hc r (by rw[EC]at hr;exact hr)).weak
  by_cases aE:x.op=9\/x.op=11\/x.op=10
  ·rw[if_pos aE]at hq⊢
   have hlen:(x.op=9\/x.op=11)/\x.kids.length=2\/x.op=10/\x.kids.length=3:=by
    rcases aE with e|e|e
    ·exact .inl ⟨.inl e,ak 2 (by rw[e];rfl)⟩
    ·exact .inl ⟨.inr e,ak 2 (by rw[e];rfl)⟩
    ·exact .inr ⟨e,ak 3 (by rw[e];rfl)⟩
   refine en func148 ntmps148 ?_
   repeat' first|(refine A7 (PK p k x q _ hp hlen hq hS) (fun d U' hr=>?_) (fun d U' hr=>by obtain⟨_,h,_⟩:=hr;cases h))|refine gf hx ?_|apply gy<;>intro hh
   all_goals
    obtain⟨o1,e1,hR⟩:=hr
    cases e1
    exact VU ⟨_,rfl,hR⟩
  ·rw[if_neg aE]at hq⊢
   have bq:q+(Cr (cN p k) x.kids q).length<=1000000:=by rw[List.length_append]at hq;omega
   have ah:∀n:Int,BZ x.op=n->(Cr (cN p k) x.kids q++[(⟨BZ x.op,x.n⟩:CIns)]).map cIns=(Cr (cN p k) x.kids q).map cIns++[cIns ⟨n,x.n⟩]:=fun n e=>by rw[e];simp
   by_cases aX:x.op=1\/x.op=2\/x.op=3\/x.op=6\/x.op=18
   ·have bB:x.kids=[]:=by
     have:x.kids.length=0:=ak 0 (by unfold Gc;rw[if_pos aX];rfl)
     simpa using this
    rw[bB]at ah⊢
    have aV:x.op=2\/x.op=18->x.n=0:=fun h=>by rcases h with h|h<;>simpa[Bt,h] using aq
    refine en func148 ntmps148 ?_
    repeat' first|refine gf hx ?_|apply gy<;>intro hh
    all_goals
     have br:x.op=1\/x.op=2\/x.op=3\/x.op=6\/x.op=18:=aX
     refine fin1 (d':=.slice ((Cr (cN p k) [] q++[(⟨BZ x.op,x.n⟩:CIns)]).map cIns) .clip) (U':=O) ⟨.clip,rfl,.inl ⟨rfl,rfl⟩⟩ (hw:=C2 ?_)
     first
     |(have e:x.op=1:=(by assumption);simp[Cr,BZ,e];done)
     |(have e:x.op=2:=(by assumption);simp[Cr,BZ,e,aV (.inl e)];done)
     |(have e:x.op=3:=(by assumption);simp[Cr,BZ,e];done)
     |(have e:x.op=6:=(by assumption);simp[Cr,BZ,e];done)
     |(have e:x.op=18:=(by omega);simp[Cr,BZ,e,aV (.inr e)];done)
   ·have aT:x.op=17\/12<=x.op/\x.op<=16->x.n=0:=fun h=>by
     unfold Bt at aq
     rw[if_neg (by omega),if_neg (by omega),if_neg (by omega),if_neg (by omega),if_neg (by omega)]at aq
     simpa using aq
    refine en func148 ntmps148 ?_
    repeat' first|(refine A7 (PJ p k x.kids q _ _ hp bx bq hW) (fun d U' hr=>?_) (fun d U' hr=>by obtain⟨_,h,_⟩:=hr;cases h))|refine gf hx ?_|apply gy<;>intro hh
    all_goals
     obtain⟨o1,e1,hR⟩:=hr
     cases e1
     refine appR hR (fun j hj=>?_)
     refine gz ?_
     refine Lz hj (he:=?_)
     first
     |(have e:x.op=4:=(by assumption);rw[ah 5 (by rw[e];rfl)])
     |(have e:x.op=8:=(by assumption);rw[ah 6 (by rw[e];rfl)])
     |(have e:x.op=17:=(by assumption);rw[ah 7 (by rw[e];rfl),aT (.inl e)])
     |(have e:x.op=7:=(by assumption);rw[ah 8 (by rw[e];rfl)])
     |(have e:x.op=5:=(by assumption);rw[ah 19 (by rw[e];rfl)])
     |(have e:12<=x.op/\x.op<=16:=(by omega);rw[ah (9+(x.op-12)) (by unfold BZ;rw[if_neg (by omega),if_neg (by omega),if_neg (by omega),if_neg (by omega),if_neg (by omega),if_neg (by omega),if_neg (by omega),if_neg (by omega),if_neg (by omega),if_neg (by omega)];omega),aT (.inr e)])
     |trace_state
theorem V8(p:BProg)(O:Sig)(hp:p.wt<=1073741824)(hk:okP p=true):DCall prog 68 [.agg (Ac p)] O (rS (.agg (cCPg (C6 p))) O):=by
 obtain⟨p1,p2,p3,p4,p5,p6,p7⟩:=p.wt_le
 have aS:=JJ hk
 have aP:=Iq hk
 have bJ:=Dz hk
 have hN:=EC p 12
 have bH:(Ay p).length=p.methods.length:=by unfold Ay;simp
 refine en func68 ntmps68 ?_
 refine gz ?_ o68 [2,3]
 refine newV (fun i2 aY=>?_)
 refine gz ?_ o68 [2,3]
 refine newV (fun ic aK=>?_)
 refine gz ?_ o68 [2,3]
 refine D2 ic 0 2 (ds:=[.nils,.nils,dI 0]) (w6 ..) rfl (fun ia bD=>?_)
 simp only[List.set_cons_succ,List.set_cons_zero]
 refine D2 ic 1 1 (ds:=[.slice [] (.tag ia),.nils,dI 0]) (w6 ..) rfl (fun it au=>?_)
 simp only[List.set_cons_succ,List.set_cons_zero]
 obtain⟨n2c,aw⟩:=AP aK
 obtain⟨nac,aL⟩:=AP bD
 obtain⟨na2,aj⟩:=AP aL
 obtain⟨ntc,aI⟩:=AP au
 obtain⟨nta,aH⟩:=AP aI
 obtain⟨_,aG⟩:=AP aH
 obtain⟨nt2,ar⟩:=AP aG
 generalize am:Sig.set (Sig.set _ it _) ic _=S0
 have o0:S0 ic=some (.cells [.slice (([]:List CIns).map cIns) (.tag ia),.slice (cI []) (.tag it),dI 0]):=by rw[<-am,w6];rfl
 have t0:S0 it=some (.tail 1 ([]:List Int).length):=by rw[<-am,w7 _ _ ntc,w6];rfl
 have a0:S0 ia=some (.tail 2 (([]:List CIns).map cIns).length):=by rw[<-am,w7 _ _ nac,w7 _ _ nta.symm,w7 _ _ nac,w6];rfl
 have c0:S0 i2=some (.cells [.nils,.nils,dI 0]):=by rw[<-am,w7 _ _ n2c.symm,w7 _ _ nt2.symm,w7 _ _ n2c.symm,w7 _ _ na2.symm,w7 _ _ n2c.symm,w6]
 have s0:Sub O S0:=fun j x hj=>by
  have k1:=AQ hj aY
  have k2:=AQ hj aw
  have k3:=AQ hj aj
  have k4:=AQ hj ar
  rw[<-am,w7 _ _ k2,w7 _ _ k4,w7 _ _ k2,w7 _ _ k3,w7 _ _ k2,w7 _ _ k1];exact hj
 clear am
 refine Pq [1,2,3,37,38,39,40,41,42,43,44,45,46,47,48,49,50,51,52,53,54] (fun (j:Nat) (out:List CIns) (l:List Int) (S1:Sig)=>j<=p.methods.length/\l.length=j/\out++Az p 12 ((Ay p).drop j) out.length=Az p 12 (Ay p) 0/\l++(startsC p 12 ((Ay p).drop j) out.length).map (·.pos)=(startsC p 12 (Ay p) 0).map (·.pos)/\S1 ic=some (.cells [.slice (out.map cIns) (.tag ia),.slice (cI l) (.tag it),dI 0])/\S1 it=some (.tail 1 l.length)/\S1 ia=some (.tail 2 (out.map cIns).length)/\S1 i2=some (.cells [.nils,.nils,dI 0])/\Sub O S1) (fun j _ _ _=>[(4,dI j)]) (fun _ _ _ S1=>S1) (fun j _ _ _=>p.methods.length-j) (0) ([]) ([]) (S0) (by exact⟨by omega,rfl,rfl,rfl,o0,t0,a0,c0,s0⟩) (fun j out l S1 hI=>?_)
 obtain⟨hj,bw,hR,aD,aF,bl,bb,ba,hS⟩:=hI
 by_cases bC:j<p.methods.length
 ·have aW:(Ay p).drop j=⟨(p.methods[j]).node,(p.gens.getD (p.methods[j]).gen.toNat 0).toNat,Ih p.methods[j]⟩::(Ay p).drop (j+1):=by
   rw[List.drop_eq_getElem_cons (by omega)];unfold Ay;simp
  have bk:=aS ⟨(p.methods[j]).node,(p.gens.getD (p.methods[j]).gen.toNat 0).toNat,Ih p.methods[j]⟩ (by unfold bodsP;rw[List.mem_append];left;exact List.mem_map.2 ⟨p.methods[j],List.getElem_mem bC,rfl⟩)
  rw[aW,Az]at hR
  rw[aW,startsC]at aD
  have aC:=congrArg List.length hR
  simp only[List.length_append,BF]at aC
  have aN:(C6 p).ins.length=(Az p 12 (Ay p) 0).length+(bodyC p 12 p.main (H6 p)).length:=by unfold C6;rw[List.length_append]
  have hW:=(KJ p _ hp 12 _ _ out.length bk (show out.length+cL p 12 (p.methods[j]).node<=1000000 by omega)).weak
  have l1:=hN (p.methods[j]).node out.length
  have i148:∀O,Ans 148 [.agg (Ac p),dI (p.methods[j]).node,dI (out.length:Int)] O True (.slice ((cN p 12 (p.methods[j]).node out.length).map cIns) .no):=fun O=>ah0 (hW O)
  refine gf aF ?_ (delO 6 o68) [2,3]
  refine appS (sz:=1) (i:=it) ?_ ?_
  ·simpa using bl
  have nct:ic≠it:=ntc.symm
  refine gf aF ?_ (delO 6 o68) [2,3]
  generalize ae:Sig.set (Sig.set S1 it _) ic _=S2
  have o2:S2 ic=some (.cells [.slice (out.map cIns) (.tag ia),.slice (cI (l++[(out.length:Int)])) (.tag it),dI 0]):=by rw[<-ae,w6];simp[cI]
  have t2:S2 it=some (.tail 1 (l++[(out.length:Int)]).length):=by rw[<-ae,w7 _ _ ntc,w6];simp[cI]
  have a2:S2 ia=some (.tail 2 (out.map cIns).length):=by rw[<-ae,w7 _ _ nac,w7 _ _ nta.symm];exact bb
  have c2:S2 i2=some (.cells [.nils,.nils,dI 0]):=by rw[<-ae,w7 _ _ n2c.symm,w7 _ _ nt2.symm];exact ba
  have s2:Sub O S2:=by rw[<-ae];exact(hS.set ar).set aw
  clear ae
  have u2:(S2.out fun j=>j=ia) ic=some (.cells [.slice (out.map cIns) (.tag ia),.slice (cI (l++[(out.length:Int)])) (.tag it),dI 0]):=Dk o2 nac.symm
  have ag:∀x,Sub (S2.out fun j=>j=ia) (S2.set ia x):=fun x j y hj=>by
   obtain⟨h1,h2⟩:=Dh hj
   rw[w7 _ _ h2];exact h1
  refine Fs (id:=6) [0,1,2,3,4,5,6,7,8,9,10,11,12,13,14,15,16] [13,15] (S2.out fun j=>j=ia) (CC _ _) ?_
  refine gf u2 ?_ o68 [2,3]
  refine moQR ?_
  refine Ol (sz:=2) (i:=ia) a2 (ag _) ?_
  refine moQR ?_
  refine Ol (sz:=2) (i:=ia) ?_ ?_ ?_
  ·exact w6 ..
  ·rw[w8];exact ag _
  rw[w8]
  have nac':=nac.symm
  refine gf o2 ?_ o68 [2,3]
  have hE:out.map cIns++((cN p 12 (p.methods[j]).node out.length).map cIns++[cIns ⟨21,0⟩])=(out++bodyC p 12 (p.methods[j]).node out.length).map cIns:=by unfold bodyC;simp
  generalize ay:Sig.set (Sig.set S2 ia _) ic _=S3
  have o3:S3 ic=some (.cells [.slice ((out++bodyC p 12 (p.methods[j]).node out.length).map cIns) (.tag ia),.slice (cI (l++[(out.length:Int)])) (.tag it),dI 0]):=by rw[<-ay,w6,hE]
  have t3:S3 it=some (.tail 1 (l++[(out.length:Int)]).length):=by rw[<-ay,w7 _ _ ntc,w7 _ _ nta];exact t2
  have a3:S3 ia=some (.tail 2 ((out++bodyC p 12 (p.methods[j]).node out.length).map cIns).length):=by rw[<-ay,w7 _ _ nac,w6,<-hE];simp
  have c3:S3 i2=some (.cells [.nils,.nils,dI 0]):=by rw[<-ay,w7 _ _ n2c.symm,w7 _ _ na2.symm];exact c2
  have s3:Sub O S3:=by rw[<-ay];exact(s2.set aj).set aw
  have bG:WkD (.slice (out.map cIns++(cN p 12 (p.methods[j]).node out.length).map cIns++[cIns ⟨21,0⟩]) (.tag ia)) (.slice ((out++bodyC p 12 (p.methods[j]).node out.length).map cIns) (.tag ia)):=C2 (by rw[List.append_assoc,hE])
  exact⟨j+1,out++bodyC p 12 (p.methods[j]).node out.length,l++[(out.length:Int)],S3,⟨by omega,by rw[List.length_append,bw];rfl,by rw[List.append_assoc,List.length_append,BF];exact hR,by rw[List.append_assoc,List.length_append,BF];exact aD,o3,t3,a3,c3,s3⟩,td1,wkR⟩
 ·rw[List.drop_eq_nil_of_le (by omega),Az,List.append_nil]at hR
  rw[List.drop_eq_nil_of_le (by omega),startsC,List.map_nil,List.append_nil]at aD
  have bj:=aS ⟨p.main,0,false⟩ (by unfold bodsP;simp)
  have aN:(C6 p).ins=out++bodyC p 12 p.main out.length:=by unfold C6 H6;rw[<-hR]
  have aO:=congrArg List.length aN
  rw[List.length_append,BF]at aO
  have hW:=(KJ p _ hp 12 _ _ out.length bj (show out.length+cL p 12 p.main<=1000000 by omega)).weak
  have l1:=hN p.main out.length
  have i148:∀O,Ans 148 [.agg (Ac p),dI p.main,dI (out.length:Int)] O True (.slice ((cN p 12 p.main out.length).map cIns) .no):=fun O=>ah0 (hW O)
  have hE:out.map cIns++((cN p 12 p.main out.length).map cIns++[cIns ⟨21,0⟩])=(C6 p).ins.map cIns:=by rw[aN];unfold bodyC;simp
  refine gf aF ?_ (delO 8 o68) [2,3]
  generalize ae:Sig.set S1 ic _=S2
  have o2:S2 ic=some (.cells [.slice (out.map cIns) (.tag ia),.slice (cI l) (.tag it),dI out.length]):=by rw[<-ae,w6]
  have a2:S2 ia=some (.tail 2 (out.map cIns).length):=by rw[<-ae,w7 _ _ nac];exact bb
  have c2:S2 i2=some (.cells [.nils,.nils,dI 0]):=by rw[<-ae,w7 _ _ n2c.symm];exact ba
  have s2:Sub O S2:=by rw[<-ae];exact hS.set aw
  clear ae
  have u2:(S2.out fun j=>j=ia) ic=some (.cells [.slice (out.map cIns) (.tag ia),.slice (cI l) (.tag it),dI out.length]):=Dk o2 nac.symm
  have ag:∀x,Sub (S2.out fun j=>j=ia) (S2.set ia x):=fun x j y hj=>by
   obtain⟨h1,h2⟩:=Dh hj
   rw[w7 _ _ h2];exact h1
  refine Fs (id:=8) [0,1,2,3,4,5,6,7,8,9,10,11,12] [9,11] (S2.out fun j=>j=ia) (CC _ _) ?_
  refine gf u2 ?_ o68 [2,3]
  refine moQR ?_
  refine Ol (sz:=2) (i:=ia) a2 (ag _) ?_
  refine moQR ?_
  refine Ol (sz:=2) (i:=ia) ?_ ?_ ?_
  ·exact w6 ..
  ·rw[w8];exact ag _
  rw[w8]
  have nac':=nac.symm
  have n2c':=n2c.symm
  have na2':=na2.symm
  refine gf (gi o2 c2) ?_ o68 [2,3]
  have bm:(C6 p).starts=l:=aD.symm
  have bu:(C6 p).main=out.length:=by unfold C6 H6;rw[<-hR]
  refine finC (U':=O) (d:=.agg (cCPg (C6 p))) ⟨rfl,rfl⟩ (hZ:=((s2.set aj).set aw).set aY) (hw:=?_)
  unfold cCPg
  rw[bm,bu,<-hE]
  exact E1 ⟨BH _ _,BH _ _,Ab _,trivial⟩
theorem Vi(p:BProg)(O:Sig)(hp:p.wt<=1073741824):DCall prog 30 [.agg (Ac p)] O (rS (.tup [.agg (cCPg (DY p)),dI (if okP p then 0 else 2)]) O):=by
 obtain⟨p1,p2,p3,p4,p5,p6,p7⟩:=p.wt_le
 have he:(Fe p).isSome=okP p:=by unfold okP;rw[UD]
 refine en func30 ntmps30 ?_
 cases hk:okP p with
 |false=>
  have hc:DY p=⟨[],[],0⟩:=by unfold DY;rw[hk];rfl
  rw[hc]
  refine gz ?_ [] [2]
  refine newV (fun i hi=>?_)
  refine gf (gi he hk) ?_ [] [2]
  refine finC (U':=O) (d:=.tup [.agg (cCPg ⟨[],[],0⟩),dI 2]) ⟨rfl,rfl⟩ (hw:=?_)
  exact CW ⟨E1 ⟨Ak _ (.inl rfl),Ak _ (.inl rfl),Ab _,trivial⟩,Ab _,trivial⟩
 |true=>
  have hc:DY p=C6 p:=by unfold DY;rw[hk];rfl
  rw[hc]
  have i68:∀O,Ans 68 [.agg (Ac p)] O True (.agg (cCPg (C6 p))):=fun O=>ah0 (V8 p O hp hk)
  refine gz ?_ [] [2]
  refine newV (fun i hi=>?_)
  refine gf (gi he hk) ?_ [] [2]
  refine finC (U':=O) (d:=.tup [.agg (cCPg (C6 p)),dI 0]) ⟨rfl,rfl⟩ (hw:=?_)
  exact Ab _
@[reducible,instance] def a30:=fun p O=>ah1 (@Vi p O)
def M7(a b:CProg):Bool:=decide (a.ins=b.ins)&&(decide (a.starts=b.starts)&&decide (a.main=b.main))
theorem OI(a b:CProg)(O:Sig)(h1:a.ins.length<=1073741824)(h2:b.ins.length<=1073741824)(h3:a.starts.length<=1073741824)(h4:b.starts.length<=1073741824):DCall prog 31 [.agg (cCPg a),.agg (cCPg b)] O (rS (.bool (M7 a b)) O):=by
 have hs:∀l m:List CIns,(h:l.length=m.length)->(∀k (h1:k<l.length) (h2:k<m.length),l[k]=m[k])->l=m:=fun l m h h2=>List.ext_getElem h fun k h3 h4=>h2 k h3 h4
 refine en func31 ntmps31 ?_
 by_cases hc:a.ins.length=b.ins.length/\a.starts=b.starts/\a.main=b.main
 ·obtain⟨c1,c2,c3⟩:=hc
  have hS:M7 a b=decide (a.ins=b.ins):=by unfold M7;rw[c2,c3];simp
  have bE:(a.starts==b.starts)=true:=by rw[c2];simp
  rw[hS]
  refine gf (gi c1 (gi c2 (gi c3 bE))) ?_ o31
  refine C1 [2,3] (fun (k:Nat)=>k<=a.ins.length /\ ∀j (h1:j<a.ins.length) (h2:j<b.ins.length),j<k->a.ins[j]=b.ins[j]) (fun k=>[(5,dI k)]) (fun _=>O) (fun k=>a.ins.length-k) (0) (by exact⟨by omega,fun j _ _ h=>by omega⟩) (fun k hI=>?_)
  obtain⟨hk,hE⟩:=hI
  by_cases ak:k<a.ins.length
  ·have bI:k<b.ins.length:=by omega
   refine gf c1 ?_ o31
   refine IX (r:=decide (a.ins[k]=b.ins[k])) (xs:=cIns a.ins[k]) (ys:=cIns b.ins[k]) Af VX rfl rfl rfl rfl VP (eqIns _ _) ?_
   by_cases hx:a.ins[k]=b.ins[k]
   ·refine gf hx ?_ o31
    exact⟨k+1,⟨by omega,fun j h1 h2 h3=>by by_cases e:j=k;(subst e;exact hx);exact hE j h1 h2 (by omega)⟩,td1,wkR⟩
   ·have hne:¬a.ins=b.ins:=fun e=>hx (by simp[e])
    refine gf hx ?_ o31
    exact fe1 hne
  ·have aZ:a.ins=b.ins:=hs _ _ c1 fun j h1 h2=>hE j h1 h2 (by omega)
   refine gf aZ ?_ o31
   exact fe1 aZ
 ·have hS:M7 a b=false:=by
   unfold M7
   rw[Bool.and_eq_false_iff,Bool.and_eq_false_iff,decide_eq_false_iff_not,decide_eq_false_iff_not,decide_eq_false_iff_not]
   by_cases c1:a.ins=b.ins
   ·by_cases c2:a.starts=b.starts
    ·exact .inr (.inr fun c3=>hc ⟨by rw[c1],c2,c3⟩)
    ·exact .inr (.inl c2)
   ·exact .inl c1
  rw[hS]
  repeat' first|refine gz ?_ o31|apply gy<;>intro hh
  any_goals (first|exact fe1 trivial|fail)
  all_goals exact absurd ⟨‹a.ins.length=b.ins.length›, by simpa using ‹(a.starts==b.starts)=true›, ‹a.main=b.main›⟩ hc
@[reducible,instance] def a31:=fun a b O=>ah4 (@OI a b O)
theorem Qv(a b:CProg):M7 a b=true ↔ a=b:=by
 cases a;cases b
 unfold M7
 simp
theorem Ej(a:CProg):M7 a a=true:=(Qv a a).2 rfl
section
variable {P:Program}{ro:Ro}{n:Nat}{ops:Array Oper}{N:Nat}{S0:Sig}{Q:DX->St->Prop}{df:List DDf}{γ Sr:List (Nat×D)}{O:Sig}{t:Nat}{ty:TypeId}{pos:String}{after:Array Edge}{l:List (Bool×Oper)}{e:Bool}
theorem mo_eqlG{tab:Nat->Ty}(ht:Bc P tab){T u:Nat}{x y:Operand}{xs ys:List D}{gd:Option (Nat×Bool)}(fs:List (Nat×Nat))(r:Bool)(hE:EqTy P T)(hk:(tab T).k=.struct fs)(hd:eqFs tab xs ys fs=some r)
  (h:MO P ro n ops N S0 Q df l ((t,.bool r)::γ) O) (hw:AC ops γ ⟨some t,.binOp .eql T x y u,ty,pos,after,gd⟩=some true) (bi:decide (t<n)=true) (hl:A2 γ (A8 [x,y])=some Sr) (hx:ev Sr x=.agg xs) (hy:ev Sr y=.agg ys):MO P ro n ops N S0 Q df ((e,⟨some t,.binOp .eql T x y u,ty,pos,after,gd⟩)::l) γ O:=by
 have hc:∀z∈[x,y],ev Sr z=ev γ z:=fun z hz=>Bw fun t ht=>Aw hl t (AJ (by rw[<-ht];exact hz))
 have ac:∀z∈[x,y],ev (only (Oper.looksAt ops ⟨some t,.binOp .eql T x y u,ty,pos,after,gd⟩) γ) z=ev γ z:=fun z hz=>BU (o:=⟨some t,.binOp .eql T x y u,ty,pos,after,gd⟩) (by simp at hz;rcases hz with rfl|rfl<;>simp[Op.operands])
 refine .inl ⟨.bool r,⟨bi,.inl ⟨by rw[Ao];exact hw,(fun c e=>by cases e),Ae (fun c e=>by cases e),fun U' hZ g w a hs hT=>?_⟩⟩,h⟩
 have:=In (dst:=some t) (ty:=ty) (pos:=pos) (after:=after) (guard:=gd) (u:=u) ht hs hT hE hk (by rw[ac x (by simp),<-hc x (by simp)];exact hx) (by rw[ac y (by simp),<-hc y (by simp)];exact hy) hd false
 simpa using this
end
theorem Vb(O:Sig):DCall prog 56 [] O (rS (.agg (Ac exB)) O):=by
 refine en func56 ntmps56 ?_
 refine gz ?_ [] [0]
 refine newV (fun i hi=>?_)
 refine gz ?_ [] [0]
 have e:Ac exB=[sl [[sl [],sl [[dI 0]],sl [[dI 0,dI 7]]],[sl [[dI 3]],sl [[dI 1]],sl []],[sl [[dI 4],[dI 3]],sl [],sl [[dI 0,dI 1]]]],dI 2,sl [[dI 1]],sl [[dI 1,dI 0,dI 2,dI 0,sl [],dI 3,dI 0,sl [],dI 0],[dI 2,dI 0,dI 3,dI 0,sl [[dI 0]],dI 0,dI 5,sl [],dI 3]],sl [[dI 17,dI 0,sl [[dI 1]]],[dI 4,dI 0,sl [[dI 2]]],[dI 3,dI 0,sl []],[dI 9,dI 0,sl [[dI 4],[dI 5]]],[dI 3,dI 0,sl []],[dI 3,dI 1,sl []],[dI 5,dI 0,sl [[dI 7]]],[dI 6,dI 5,sl []]],dI 6]:=by
  simp[exB,cI,F4,Fact.op,Fact.arg,Fact.path,Fact.cls,Fact.n,Fact.kids]
 refine finC (U':=O) ⟨rfl,rfl⟩ (hw:=?_)
 rw[e]
 refine Nm ?_
 repeat' (first|exact Ab _|exact Ak _ (.inl rfl)|exact trivial|refine K5 _ ?_|refine⟨?_,?_⟩)
@[reducible,instance] def a56:=fun O=>ah0 (@Vb O)
theorem OL(O:Sig):EF prog 16 [] O (rS (.bool true) O):=by
 have w3:exB.wt<=1073741824:=by decide +kernel
 have bn:(BT exB exC).isSome=true:=by
  have h:=Tw
  cases e:BT exB exC with
  |none=>rw[e]at h;cases h
  |some W=>rfl
 have bf:=fun O:Sig=>OK exB O w3
 have be:=fun O:Sig=>Vk exB exC O w3 (by decide) (by decide)
 have bd:=fun O:Sig=>Vh exC O (by decide) (by decide)
 have bc:=fun O:Sig=>Vg exC O (by decide) (by decide)
 rw[ex_code,Vm]at bf
 rw[Tw,bn]at be
 rw[Vl]at bd bc
 have i18:∀O,Ans 18 [.agg (Ac exB)] O True (.tup [.agg (cCPg exC),dI 0]):=fun O=>ah0 (bf O)
 have i25:∀O,Ans 25 [.agg (Ac exB),.agg (cCPg exC)] O True (.tup [sl (exL.map cLev),dI 0]):=fun O=>ah0 (be O)
 have i36:∀O,Ans 36 [.agg (cCPg exC)] O True (.tup [.str (JH exC),dI 0]):=fun O=>ah0 (bd O)
 refine enW func16 ntmps16 ?_
 refine gz ?_ o16
 refine Eb (bc O) (fun d S1 hr=>?_) (fun d S1 hr=>by cases hr.1)
 obtain⟨hd,rfl⟩:=hr
 cases hd
 refine gf (gi Tv (gi OO VW)) ?_ o16
 refine neqS _ (decide ((⟨0,2⟩:CLev)=⟨0,2⟩)) TB Rk (eqLev ⟨0,2⟩ ⟨0,2⟩) ?_
 refine gf (gi Tv (gi OO VW)) ?_ o16
 have g1:=fun O:Sig=>Jt exB exC [] 9 [] [] .no O w3 (by decide) (by decide) (by decide) (by simp) (by decide) (by decide)
 have g2:=fun (o:Own) (O:Sig)=>Jt exB exC [⟨5,[vInt 1,EJ]⟩] 0 [] [vObj 0] o O w3 (by decide) (by decide) (by decide) (by simp) (by decide) (by decide)
 have g3:=fun O:Sig=>Jt exB exC [] 0 [] [vInt 3] .no O w3 (by decide) (by decide) (by decide) (by simp) (by decide) (by decide)
 rw[ex_go1]at g1
 rw[ex_go2]at g2
 rw[ex_go3]at g3
 have e1:F3 exH1=[dI 2,dI 0,dI 0,dI 0,sl [[dI 3,dI 0]],dI 0,dI 11,sl [],sl [],sl [[dI 5,sl [[dI 1,dI 1],[dI 2,dI 0]]]],sl []]:=rfl
 have e2:F3 exH2=[dI 1,dI 1,dI 1,dI 0,sl [],dI 0,dI 0,sl [],sl [],sl [[dI 5,sl [[dI 1,dI 1],[dI 2,dI 0]]]],sl [[dI 2,dI 0,.slice [[dI 1,dI 1]] .clip]]]:=rfl
 have e3:F3 exH3=[dI 4,dI 0,dI 0,dI 0,sl [],dI 5,dI 0,sl [],sl [],sl [],sl []]:=rfl
 simp only[Option.getD_some,Option.isSome_some,if_true,e1]at g1
 simp only[Option.getD_some,Option.isSome_some,if_true,e2]at g2
 simp only[Option.getD_some,Option.isSome_some,if_true,e3]at g3
 have bF:=fun (O:Sig)=>Vc [vObj 0] [vObj 0] .no .clip O (by decide) (by decide)
 have aA:∀O,DCall prog 53 [sl [[dI 3,dI 0]],.slice [[dI 3,dI 0]] .clip] O (rS (.bool true) O):=fun O=>(bF O).mono fun x U' ⟨h1,h2⟩=>⟨by rw[h1];simp,h2⟩
 refine rtl 73 (.agg (cFr 9 [] [])) ?_ (hw:=E1 ⟨Ab _,Ak _ (.inl rfl),Ak _ (.inl rfl),trivial⟩)
 refine TV (g1 S1) (fun d S2 hr=>?_) (fun d S2 hr=>by cases hr.1)
 obtain⟨hd,rfl⟩:=hr
 cases hd
 repeat' first|refine gz ?_|refine CJ (aA _) ?_|refine callPG (aA _) ?_|refine gz ?_ o16|apply gy<;>intro hh
 refine rtl 111 (.agg (cFr 0 [] [vObj 0])) ?_ (hw:=E1 ⟨Ab _,Ak _ (.inl rfl),Ab _,trivial⟩)
 refine TV (g2 .no S2) (fun d S3 hr=>?_) (fun d S3 hr=>by cases hr.1)
 obtain⟨hd,rfl⟩:=hr
 cases hd
 have g3':∀O,DCall prog 13 [.agg (Ac exB),.agg (cCPg exC),.nils,.agg [dI 0,.nils,.slice [[dI 1,dI 3]] .clip]] O (rS (.tup [.agg [dI 4,dI 0,dI 0,dI 0,sl [],dI 5,dI 0,sl [],sl [],sl [],sl []],dI 0]) O):=fun O=>(g3 O).wk ⟨Ab _,Ab _,Ak _ (.inl rfl),E1 ⟨Ab _,Ak _ (.inl rfl),BH _ _,trivial⟩,trivial⟩
 refine gz ?_ (delO 12 o16)
 refine mix (id:=12) [0,1,2,3,4,5,6,7,8,9,10,11] [9,10] ?_
 refine gz ?_ o16
 refine moQWR (fun U' _=>(OJ 3 U').mono fun x S'' hx=>⟨hx.1,hx.2 ▸ Sub.refl _⟩) ?_
 refine gz ?_ o16
 refine moQWR (fun U' _=>(g3' U').mono fun x S'' hx=>⟨hx.1,hx.2 ▸ Sub.refl _⟩) ?_
 refine gz ?_ o16
 refine IY (fun i12 aM=>?_)
 have bp:Sub S3 ((S3.set i12 (.cells [.int .i64 0,.int .i64 0,.int .i64 0,.int .i64 0,.nils,.int .i64 0,.int .i64 0,.nils,.nils,.nils,.nils])).set i12 (.cells [dI 4,dI 0,dI 0,dI 0,sl [],dI 5,dI 0,sl [],sl [],sl [],sl []])):=fun j o hj=>by
  have:=AQ hj aM
  rw[w7 _ _ this,w7 _ _ this];exact hj
 refine GA Af tdR (by simp;rfl) bp ?_
 simp only[w8]
 refine gz ?_ o16
 refine mo_eqlG Af _ (decide (vInt 1=vInt 1)) OP Ou (Vo (vInt 1) (vInt 1)) ?_ tdR tdR tdR tdR tdR
 refine gz ?_ o16
 exact fin1 (U':=S3) ⟨rfl,rfl⟩
theorem TS(p:BProg):(DY p).ins.length<=300/\(DY p).starts.length<=300:=by
 unfold DY
 split
 ·rename_i h
  have h1:=Iq h
  obtain⟨_,_,h2,_,h3⟩:=Dz h
  rw[Kb]
  omega
 ·simp
theorem OZ{p:BProg}(h:okP p=true):DY p=C6 p:=by unfold DY;rw[if_pos h]
theorem Rd{p:BProg}(h:okP p=true):(BT p (DY p)).isSome=true:=by
 have:=GD p (DY p)
 rw[OZ h,ND h]at this
 rw[OZ h]
 cases e:BT p (C6 p)with
 |none=>rw[e]at this;cases this
 |some W=>rfl
theorem f7_spec(p:BProg)(O:Sig)(hp:p.wt<=1073741824):EF prog 7 [.agg (Ac p)] O (rS (.bool true) O):=by
 obtain⟨l1,l2⟩:=TS p
 have aB:=fun O:Sig=>OI (DY p) (DY p) O (by omega) (by omega) (by omega) (by omega)
 rw[Ej]at aB
 have aQ:=fun O:Sig=>OH p (DY p) O hp (by omega) (by omega)
 refine enW func7 ntmps7 ?_
 cases hk:okP p with
 |true=>
  have hs:=Rd hk
  rw[hs]at aQ
  repeat' first|refine gf (gi hk (gi hs Ej)) ?_|refine B9 (aB _) ?_|refine callP (aB _) ?_|refine CJ (aQ _) ?_|refine callPG (aQ _) ?_|refine gf (gi hk (gi hs Ej)) ?_|apply gy<;>intro hh
  refine TU (OL O) (fun d S1 hr=>?_) (fun d S1 hr=>by cases hr.1)
  obtain⟨hd,rfl⟩:=hr
  cases hd
  refine gz ?_
  exact fin1 (U':=S1) ⟨rfl,rfl⟩
 |false=>
  repeat' first|refine gf (gi hk Ej) ?_|refine B9 (aB _) ?_|refine callP (aB _) ?_|refine gf (gi hk Ej) ?_|apply gy<;>intro hh
  refine TU (OL O) (fun d S1 hr=>?_) (fun d S1 hr=>by cases hr.1)
  obtain⟨hd,rfl⟩:=hr
  cases hd
  refine gz ?_
  exact fin1 (U':=S1) ⟨rfl,rfl⟩
end Go.DL
