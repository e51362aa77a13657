/- A part of the proof. -/
import Derived.Test.YteldimffglchkaaGreatDoorH26
import Derived.Test.YteldimffglchkaaGreatDoorH14
set_option linter.all false
namespace Go.DL
open Go.Proofs.Tryz
open Go Go.Proofs
set_option maxHeartbeats 8000000
theorem FrV.set{O S1:Sig}{r:RW}{l:List MVal}{i2:Nat}{ds:List D}(h:FrV (O.set i2 (.cells ds)) r l S1)(bK:O i2=none)(ds':List D):FrV O r l (S1.set i2 (.cells ds')):=by
 obtain⟨h1,h2,h3⟩:=h
 have bJ:=(h2 i2 _ (w6 ..) id).2
 refine⟨h1.keep fun j o hj aX=>by rw[w7 _ _ fun e=>bJ (by rw[<-e];exact aX)];exact hj,fun j o hj _=>?_,h3⟩
 have hne:j≠i2:=fun e=>by rw[e,bK]at hj;cases hj
 have:=h2 j o (by rw[w7 _ _ hne];exact hj) id
 exact⟨by rw[w7 _ _ hne];exact this.1,this.2⟩
theorem FrV.out{O X':Sig}{r:RW}{l:List MVal}{k:Nat}{x:DObj}(h:FrV (O.set k x) r l X')(hk:O k=none): ∃U',FrV O r l U'/\U' k=none/\X'=U'.set k x:=by
 obtain⟨h1,h2,h3⟩:=h
 obtain⟨g1,g2⟩:=h2 k _ (w6 ..) id
 refine⟨X'.del k,⟨h1.keep fun j o hj aX=>?_,fun j o hj _=>?_,h3⟩,by simp[Sig.del],?_⟩
 ·have hne:j≠k:=fun e=>g2 (e ▸ aX)
  simp only[Sig.del,hne,if_false];exact hj
 ·have hne:j≠k:=fun e=>by rw[e,hk]at hj;cases hj
  have:=h2 j o (by rw[w7 _ _ hne];exact hj) id
  refine⟨?_,this.2⟩
  simp only[Sig.del,hne,if_false];exact this.1
 ·funext j
  by_cases e:j=k
  ·subst e;rw[w6];exact g1
  ·rw[w7 _ _ e];simp only[Sig.del,e,if_false]
theorem FrV.new{O S1:Sig}{r:RW}{l:List MVal}{k:Nat}(h:FrV O r l S1)(hk:S1 k=none)(o:DObj):FrV O r l (S1.set k o):=by
 obtain⟨h1,h2,h3⟩:=h
 exact⟨h1.keep fun j o hj aX=>by rw[w7 _ _ fun e=>by rw[e,hk]at hj;cases hj];exact hj,fun j o hj _=>by
  have:=h2 j o hj id
  exact⟨by rw[w7 _ _ fun e=>by rw[e,hk]at this;cases this.1];exact this.1,this.2⟩,h3⟩
theorem MG(p:BProg)(c:Int):((A2 p).fresh c).length=(hasP p c).length:=by unfold A2;simp
theorem Ip(p:BProg)(i1 i2:Nat)(c:Int)(S0 O:Sig)(hp:p.wt<=1073741824)(hK:KnwS p i1 i2 S0 O)(hc:ownF p c=true)(hn:(hasP p c).length<=1000000):DCall prog 243 [cKnw p i1 i2,dI c] O fun y U'=> ∃r,y=.ret (.agg [dI c,r.d ((A2 p).fresh c).length])/\FrV O r ((A2 p).fresh c) U':=by
 obtain⟨hS,aA,hm2⟩:=hK
 unfold ownF at hc
 simp only[Bool.and_eq_true,decide_eq_true_eq]at hc
 obtain⟨j,hj⟩:∃j:Nat,c=(j:Int)+3:=⟨(c-3).toNat,by omega⟩
 obtain⟨g1,g2⟩:=PK p j p.classes.length (by omega)
 rw[<-hj]at g1 g2
 have ac:=hitIT c (mp2 p p.classes.length) g1
 rw[g2]at ac
 have hl:=MG p c
 unfold cKnw
 refine en func243 ntmps243 ?_
 refine gz ?_ [] [4]
 refine newV (fun i4 aQ=>?_)
 have n2:i2≠i4:=fun e=>by rw[<-e,hm2]at aQ;cases aQ
 refine gf (gi hm2 ac) ?_ [] [4]
 refine A4 (Ls ((A2 p).fresh c) .no _ (by omega)) (fun d S1 hr=>?_) (fun d S1 hr=>by obtain⟨_,h,_⟩:=hr;cases h)
 obtain⟨r,hd,hF⟩:=hr
 have aB:=(hF.2.1 i4 _ (w6 ..) id).1
 have ae:=hF.set aQ
 cases hd
 rcases r with _|es|⟨i,c',cs⟩
 ·refine gf aB ?_ [] [4]
  exact finC (U':=S1.set i4 (.cells [dI c,.nils])) ⟨.nil,rfl,ae _⟩
 ·refine gf aB ?_ [] [4]
  exact finC (U':=S1.set i4 (.cells [dI c,.slice es .clip])) ⟨.full es,rfl,ae _⟩
 ·refine gf aB ?_ [] [4]
  exact finC (U':=S1.set i4 (.cells [dI c,.sref i 0 ((A2 p).fresh c).length c'])) ⟨.row i c' cs,rfl,ae _⟩
theorem Rn(p:BProg)(c:Int)(O:Sig)(hp:p.wt<=1073741824)(hk:okP p=true)(hc:ownF p c=true)(hn:(hasP p c).length<=1000000):DCall prog 179 [.agg (Aj p),dI c] O fun y U'=> ∃r,y=.ret (.tup [.agg [dI c,r.d ((A2 p).fresh c).length],dI 0])/\FrV O r ((A2 p).fresh c) U':=by
 have ak:(ownF p c&&okP p)=true:=by rw[hc,hk];rfl
 refine en func179 ntmps179 ?_
 refine gz ?_ [] [4]
 refine newV (fun i4 aQ=>?_)
 refine gf ak ?_ [] [4]
 refine A4 (Lv p _ hp hk) (fun d S1 hr=>?_) (fun d S1 hr=>by obtain⟨_,_,h,_⟩:=hr;cases h)
 obtain⟨i1,i2,hd,hK⟩:=hr
 cases hd
 refine gz ?_ [] [4]
 refine A4 (Ip p i1 i2 c _ S1 hp hK hc hn) (fun d S2 hr=>?_) (fun d S2 hr=>by obtain⟨_,h,_⟩:=hr;cases h)
 obtain⟨r,hd,hF⟩:=hr
 have o4:=hK.1 i4 _ (w6 ..)
 have aB:=(hF.2.1 i4 _ o4 id).1
 have aZ:FrV (O.set i4 (.cells [.int .i64 0,.nils])) r ((A2 p).fresh c) S2:=⟨hF.1,fun j o hj _=>hF.2.1 j o (hK.1 j o hj) id,hF.2.2⟩
 have ae:=aZ.set aQ
 cases hd
 rcases r with _|es|⟨i,c',cs⟩
 ·refine gf aB ?_ [] [4]
  exact finC (U':=S2.set i4 (.cells [dI c,.nils])) ⟨.nil,rfl,ae _⟩
 ·refine gf aB ?_ [] [4]
  exact finC (U':=S2.set i4 (.cells [dI c,.slice es .clip])) ⟨.full es,rfl,ae _⟩
 ·refine gf aB ?_ [] [4]
  exact finC (U':=S2.set i4 (.cells [dI c,.sref i 0 ((A2 p).fresh c).length c'])) ⟨.row i c' cs,rfl,ae _⟩
section
variable {ir:Nat}{p:BProg}{R:Nat->RW}{s:GoS}{O:Sig}
theorem RunS.fresh(h:RunS ir p R s O){S1:Sig}{r:RW}{l:List MVal}(hF:FrV O r l S1):S1 ir=some (.cells (AN p R s)) /\ ¬r.is ir/\RWAt S1 2 (R 3) (tCells (fun k=>R (k+4)) s.objs):=
 ⟨(hF.2.1 ir _ h.obj id).1,(hF.2.1 ir _ h.obj id).2,(h.rows.ok 3).keep fun j o hj _=>(hF.2.1 j o hj id).1⟩
theorem RunS.obj_add(h:RunS ir p R s O){S1 S2:Sig}{r:RW}{x:MThing}(hF:FrV O r x.slots S1){i c:Nat}{cs:List D}(hr:RWAt S2 2 (.row i c cs) (tCells (fun k=>R (k+4)) s.objs++[[dI x.cls,r.d x.slots.length]]))(hk:RWK S1 (R 3) S2 (.row i c cs)){ds:List D}
  (hd:ds=AN p (updF (updF R (s.objs.length+4) r) 3 (.row i c cs)) { s with objs:=s.objs++[x] }) :
  RunS ir p (updF (updF R (s.objs.length+4) r) 3 (.row i c cs)) { s with objs:=s.objs++[x] } (S2.set ir (.cells ds))/\RunK ir R O (updF (updF R (s.objs.length+4) r) 3 (.row i c cs)) (S2.set ir (.cells ds)):=by
 obtain⟨f1,f2,f3⟩:=hF
 have e2:rSz (s.objs.length+4)=2:=by unfold rSz;rw[if_neg (by omega)]
 have u1:=h.rows.upd (a:=s.objs.length+4) (r':=r) (by rw[e2];exact f1) (fun j o hj _=>f2 j o hj id)
 have u2:=u1.upd (a:=3) (r':=.row i c cs) hr (by rw[A7 _ _ (by omega)];exact hk)
 have bO:∀a,rCt (updF (updF R (s.objs.length+4) r) 3 (.row i c cs)) { s with objs:=s.objs++[x] } a=updF (updF (rCt R s) (s.objs.length+4) (x.slots.map cVal)) 3 (tCells (fun k=>R (k+4)) s.objs++[[dI x.cls,r.d x.slots.length]]) a:=fun a=>by
  match a with
  |0=>rw[A7 _ _ (by omega),A7 _ _ (by omega)];rfl
  |1=>rw[A7 _ _ (by omega),A7 _ _ (by omega)];rfl
  |2=>rw[A7 _ _ (by omega),A7 _ _ (by omega)];rfl
  |3=>
   rw[Ak]
   show tCells (fun k=>updF (updF R (s.objs.length+4) r) 3 (.row i c cs) (k+4)) (s.objs++[x])=_
   rw[J6 (fun k=>R (k+4)) _ s.objs x fun k hk=>by rw[A7 _ _ (by omega),A7 _ _ (by omega)]]
   simp only[A7 (updF R (s.objs.length+4) r) (RW.row i c cs) (show s.objs.length+4≠3 by omega),Ak]
  | k+4 =>
   rw[A7 _ _ (by omega)]
   show(((s.objs++[x])[k]?).getD ⟨0,[]⟩).slots.map cVal=_
   by_cases e:k=s.objs.length
   ·subst e;rw[Ak];simp
   ·rw[A7 _ _ (by omega)]
    show _=((s.objs[k]?).getD ⟨0,[]⟩).slots.map cVal
    by_cases hk:k<s.objs.length
    ·rw[List.getElem?_append_left hk]
    ·rw[List.getElem?_eq_none (by simp;omega),List.getElem?_eq_none (by omega)]
 have hR:=u2.retell bO
 obtain⟨a1,a2⟩:=f2 ir _ h.obj id
 obtain⟨b1,b2⟩:=hk ir _ a1 (h.ni 3)
 have ag:∀a, ¬(updF (updF R (s.objs.length+4) r) 3 (.row i c cs) a).is ir:=fun a ha=>by
  by_cases e3:a=3
  ·subst e3;rw[Ak]at ha;exact b2 ha
  ·rw[A7 _ _ e3]at ha
   by_cases e4:a=s.objs.length+4
   ·subst e4;rw[Ak]at ha;exact a2 ha
   ·rw[A7 _ _ e4]at ha;exact h.ni a ha
 refine⟨⟨by rw[w6,hd],hR.keep fun j o hj ⟨b,hb⟩=>by rw[w7 _ _ fun e=>ag b (by rw[<-e];exact hb)];exact hj,ag,fun a es he=>?_⟩,fun j o hj ah hn=>?_⟩
 ·by_cases e3:a=3
  ·subst e3;rw[Ak]at he;cases he
  ·rw[A7 _ _ e3]at he
   by_cases e4:a=s.objs.length+4
   ·subst e4;rw[Ak]at he;exact f3 es he
   ·rw[A7 _ _ e4]at he;exact h.nf a es he
 ·obtain⟨k3,k4⟩:=f2 j o hj id
  obtain⟨k5,k6⟩:=hk j o k3 (hn 3)
  refine⟨by rw[w7 _ _ ah];exact k5,fun a ha=>?_⟩
  by_cases e3:a=3
  ·subst e3;rw[Ak]at ha;exact k6 ha
  ·rw[A7 _ _ e3]at ha
   by_cases e4:a=s.objs.length+4
   ·subst e4;rw[Ak]at ha;exact k4 ha
   ·rw[A7 _ _ e4]at ha;exact hn a ha
theorem T8{O:Sig}{sz:Nat}{r:RW}{es:List (List D)}{n:Nat}(h:RWAt O sz r es)(hn:es.length=n)(e:Nat):lenD (.slice e) (r.d n)=some (.int .i64 n):=by
 subst hn
 cases r with
 |nil=>obtain rfl:es=[]:=h;rfl
 |full es0=>obtain⟨rfl,_⟩:=h;rfl
 |row i c cs=>rfl
theorem RO(x:CIns)(hp:p.wt<=1073741824)(hk:okP p=true)(hc:ownF p x.a=true)(hn:(hasP p x.a).length<=1000000)(hR:RunS ir p R s O)(hs:s.stk.length<=1000000)(ho:s.objs.length<=1000):DCall prog 108 [.ptr ir 0,.agg (cIns x)] O fun y U'=> ∃R',RunK ir R O R' U' /\
  if 40<=s.objs.length then y=.ret (.bool true)/\HaltS ir p R' s .nils false (FK s 8 s.stk.dropLast) U' else y=.ret (.bool false)/\RunS ir p R' { s with objs:=s.objs++[⟨x.a,(A2 p).fresh x.a⟩],stk:=s.stk++[vObj s.objs.length] } U':=by
 have q1:=hR.obj
 have q3:RWAt O 2 (R 3) (tCells (fun k=>R (k+4)) s.objs):=hR.rows.ok 3
 have bn:=T8 q3 (A6 _ _) 131
 by_cases aE:40<=s.objs.length
 ·refine en func108 ntmps108 ?_
  refine gf (gi q1 bn) ?_ o108
  refine A4 (Gr 8 s.stk.dropLast hR) (fun d S3 hr=>?_) (fun d S3 hr=>by cases hr.1)
  obtain⟨hd,h1,h2⟩:=hr
  cases hd
  refine gz ?_ o108
  exact fin1 (U':=S3) ⟨R,h2,by rw[if_pos aE];exact⟨rfl,h1⟩⟩
 ·refine en func108 ntmps108 ?_
  refine gf (gi q1 bn) ?_ (delO 3 o108)
  refine mixU (id:=3) [0,1,2,3,4,5,6,7,8,9,10,11,12] [11] [6] ?_
  refine u3R (.ptr ir 0) ?_
  refine u3R (.ptr ir 0) ?_
  refine u3R (.ptr ir 11) ?_
  refine u3R (.agg (Aj p)) ?_ (hd:=by simp[q1])
  refine u3R (.cptr (cIns x) 1) ?_
  refine u3R (dI x.a) ?_
  refine u3C (fun τ d X'=> ∃r,d=.tup [.agg [dI x.a,r.d ((A2 p).fresh x.a).length],dI 0]/\FrV τ r ((A2 p).fresh x.a) X') (fun τ=>(Rn p x.a τ hp hk hc hn).mono fun y X' ⟨r,h1,h2⟩=>⟨_,h1,r,rfl,h2⟩) (fun τ k z d X' hk ⟨r,h1,h2⟩=>by
   obtain⟨V2,h3,h4,h5⟩:=h2.out hk
   exact⟨V2,⟨r,h1,h3⟩,h4,h5⟩) (fun d S1 ⟨r,hd,hF⟩=>⟨fun j o hj=>(hF.2.1 j o hj id).1,?_⟩)
  have hS:Sub O S1:=fun j o hj=>(hF.2.1 j o hj id).1
  subst hd
  rcases r with _|es|⟨i,c',cs⟩
  ·refine u3R (.tup [.agg [dI x.a,.nils],dI 0]) ?_
   refine u3R (.agg [dI x.a,.nils]) ?_
   refine u3R (dI 0) ?_
   refine u3A [.int .i64 0,.nils] (fun i5 aa=>?_)
   have aJ:Sub O ((S1.set i5 (.cells [.int .i64 0,.nils])).set i5 (.cells [dI x.a,.nils])):=(hS.set (hS.none aa)).set (hS.none aa)
   have o5:(S1.set i5 (.cells [.int .i64 0,.nils])) i5=_:=w6 ..
   refine u3M ?_
   simp only[List.map]
   refine FG Ac tdR (by simp;rfl) aJ ?_
   simp only[w8]
   have ae:=hF.new aa (.cells [dI x.a,.nils])
   have o6:(S1.set i5 (.cells [dI x.a,.nils])) i5=_:=w6 ..
   have n5:¬(R 3).is i5:=fun h=>by
    obtain⟨z,hz⟩:=q3.cells h
    rw[hS _ _ hz]at aa;cases aa
   obtain⟨a1,a2,a3⟩:=hR.fresh ae
   generalize S1.set i5 (.cells [dI x.a,.nils])=S2 at*
   have u1:=Df a1 (hR.ni 3)
   have u5:=Df o6 n5
   refine gz ?_ (delO 4 o108)
   refine Ft (id:=4) [0,1,2,3,4,5,6,7,8,9,10,11] [8] (S2.out (R 3).is) (Cr _ _) ?_
   refine gf (gi u1 u5) ?_ o108
   refine G7 (new:=[[dI x.a,.nils]]) (es:=tCells (fun k=>R (k+4)) s.objs) (fun j c2 cs2 S3 aK ap=>?_) (fun j o h=>Cs h) (hm:=a3) (h1:=by rw[A6];with_unfolding_all rfl) (hb:=by rw[A6];simp;omega) (hm2:=by rw[A6];simp;omega)
   obtain⟨v1,v2⟩:=ap ir _ a1 (hR.ni 3)
   rw[show(tCells (fun k=>R (k+4)) s.objs).length+[[dI x.a,.nils]].length=s.objs.length+1 by rw[A6];rfl]
   refine gf v1 ?_ o108
   obtain⟨p1,p2⟩:=hR.obj_add (x:=⟨x.a,(A2 p).fresh x.a⟩) (r:=.nil) ae aK ap rfl
   refine drp (S3.set ir (.cells (AN p (updF (updF R (s.objs.length+4) .nil) 3 (.row j c2 cs2)) { s with objs:=s.objs++[⟨x.a,(A2 p).fresh x.a⟩] }))) ?_ (by simp[AN,Aj];exact Sub.refl _)
   refine A4 (Bj (vObj s.objs.length) p1 hs) (fun d S4 hr=>?_) (fun d S4 hr=>by cases hr.1)
   obtain⟨hd,R4,aC,aD⟩:=hr
   cases hd
   refine gz ?_ o108
   exact fin1 (U':=S4) ⟨R4,p2.trans aD,by rw[if_neg aE];exact⟨rfl,aC⟩⟩
  ·refine u3R (.tup [.agg [dI x.a,.slice es .clip],dI 0]) ?_
   refine u3R (.agg [dI x.a,.slice es .clip]) ?_
   refine u3R (dI 0) ?_
   refine u3A [.int .i64 0,.nils] (fun i5 aa=>?_)
   have aJ:Sub O ((S1.set i5 (.cells [.int .i64 0,.nils])).set i5 (.cells [dI x.a,.slice es .clip])):=(hS.set (hS.none aa)).set (hS.none aa)
   have o5:(S1.set i5 (.cells [.int .i64 0,.nils])) i5=_:=w6 ..
   refine u3M ?_
   simp only[List.map]
   refine FG Ac tdR (by simp;rfl) aJ ?_
   simp only[w8]
   have ae:=hF.new aa (.cells [dI x.a,.slice es .clip])
   have o6:(S1.set i5 (.cells [dI x.a,.slice es .clip])) i5=_:=w6 ..
   have n5:¬(R 3).is i5:=fun h=>by
    obtain⟨z,hz⟩:=q3.cells h
    rw[hS _ _ hz]at aa;cases aa
   obtain⟨a1,a2,a3⟩:=hR.fresh ae
   generalize S1.set i5 (.cells [dI x.a,.slice es .clip])=S2 at*
   have u1:=Df a1 (hR.ni 3)
   have u5:=Df o6 n5
   refine gz ?_ (delO 4 o108)
   refine Ft (id:=4) [0,1,2,3,4,5,6,7,8,9,10,11] [8] (S2.out (R 3).is) (Cr _ _) ?_
   refine gf (gi u1 u5) ?_ o108
   refine G7 (new:=[[dI x.a,.slice es .clip]]) (es:=tCells (fun k=>R (k+4)) s.objs) (fun j c2 cs2 S3 aK ap=>?_) (fun j o h=>Cs h) (hm:=a3) (h1:=by rw[A6];with_unfolding_all rfl) (hb:=by rw[A6];simp;omega) (hm2:=by rw[A6];simp;omega)
   obtain⟨v1,v2⟩:=ap ir _ a1 (hR.ni 3)
   rw[show(tCells (fun k=>R (k+4)) s.objs).length+[[dI x.a,.slice es .clip]].length=s.objs.length+1 by rw[A6];rfl]
   refine gf v1 ?_ o108
   obtain⟨p1,p2⟩:=hR.obj_add (x:=⟨x.a,(A2 p).fresh x.a⟩) (r:=(.full es)) ae aK ap rfl
   refine drp (S3.set ir (.cells (AN p (updF (updF R (s.objs.length+4) (.full es)) 3 (.row j c2 cs2)) { s with objs:=s.objs++[⟨x.a,(A2 p).fresh x.a⟩] }))) ?_ (by simp[AN,Aj];exact Sub.refl _)
   refine A4 (Bj (vObj s.objs.length) p1 hs) (fun d S4 hr=>?_) (fun d S4 hr=>by cases hr.1)
   obtain⟨hd,R4,aC,aD⟩:=hr
   cases hd
   refine gz ?_ o108
   exact fin1 (U':=S4) ⟨R4,p2.trans aD,by rw[if_neg aE];exact⟨rfl,aC⟩⟩
  ·refine u3R (.tup [.agg [dI x.a,.sref i 0 ((A2 p).fresh x.a).length c'],dI 0]) ?_
   refine u3R (.agg [dI x.a,.sref i 0 ((A2 p).fresh x.a).length c']) ?_
   refine u3R (dI 0) ?_
   refine u3A [.int .i64 0,.nils] (fun i5 aa=>?_)
   have aJ:Sub O ((S1.set i5 (.cells [.int .i64 0,.nils])).set i5 (.cells [dI x.a,.sref i 0 ((A2 p).fresh x.a).length c'])):=(hS.set (hS.none aa)).set (hS.none aa)
   have o5:(S1.set i5 (.cells [.int .i64 0,.nils])) i5=_:=w6 ..
   refine u3M ?_
   simp only[List.map]
   refine FG Ac tdR (by simp;rfl) aJ ?_
   simp only[w8]
   have ae:=hF.new aa (.cells [dI x.a,.sref i 0 ((A2 p).fresh x.a).length c'])
   have o6:(S1.set i5 (.cells [dI x.a,.sref i 0 ((A2 p).fresh x.a).length c'])) i5=_:=w6 ..
   have n5:¬(R 3).is i5:=fun h=>by
    obtain⟨z,hz⟩:=q3.cells h
    rw[hS _ _ hz]at aa;cases aa
   obtain⟨a1,a2,a3⟩:=hR.fresh ae
   generalize S1.set i5 (.cells [dI x.a,.sref i 0 ((A2 p).fresh x.a).length c'])=S2 at*
   have u1:=Df a1 (hR.ni 3)
   have u5:=Df o6 n5
   refine gz ?_ (delO 4 o108)
   refine Ft (id:=4) [0,1,2,3,4,5,6,7,8,9,10,11] [8] (S2.out (R 3).is) (Cr _ _) ?_
   refine gf (gi u1 u5) ?_ o108
   refine G7 (new:=[[dI x.a,.sref i 0 ((A2 p).fresh x.a).length c']]) (es:=tCells (fun k=>R (k+4)) s.objs) (fun j c2 cs2 S3 aK ap=>?_) (fun j o h=>Cs h) (hm:=a3) (h1:=by rw[A6];with_unfolding_all rfl) (hb:=by rw[A6];simp;omega) (hm2:=by rw[A6];simp;omega)
   obtain⟨v1,v2⟩:=ap ir _ a1 (hR.ni 3)
   rw[show(tCells (fun k=>R (k+4)) s.objs).length+[[dI x.a,.sref i 0 ((A2 p).fresh x.a).length c']].length=s.objs.length+1 by rw[A6];rfl]
   refine gf v1 ?_ o108
   obtain⟨p1,p2⟩:=hR.obj_add (x:=⟨x.a,(A2 p).fresh x.a⟩) (r:=(.row i c' cs)) ae aK ap rfl
   refine drp (S3.set ir (.cells (AN p (updF (updF R (s.objs.length+4) (.row i c' cs)) 3 (.row j c2 cs2)) { s with objs:=s.objs++[⟨x.a,(A2 p).fresh x.a⟩] }))) ?_ (by simp[AN,Aj];exact Sub.refl _)
   refine A4 (Bj (vObj s.objs.length) p1 hs) (fun d S4 hr=>?_) (fun d S4 hr=>by cases hr.1)
   obtain⟨hd,R4,aC,aD⟩:=hr
   cases hd
   refine gz ?_ o108
   exact fin1 (U':=S4) ⟨R4,p2.trans aD,by rw[if_neg aE];exact⟨rfl,aC⟩⟩
end
theorem Ks(p:BProg)(l:List MThing)(o:Own)(O:Sig)(hp:p.wt<=1073741824)(hl:l.length<=1073741824)(hs:∀x∈l,x.slots.length<=1073741824):DCall prog 45 [.agg (Aj p),.slice (l.map cTh) o] O (rS (dI (if okP p&&Ba (A2 p) l then 0 else 2)) O):=by
 refine en func45 ntmps45 ?_
 cases hk:okP p with
 |false=>
  refine gf hk ?_
  exact fin1 (U':=O) ⟨rfl,rfl⟩
 | true =>
  by_cases aE:l.length<=40
  rotate_left
  ·have aN:Ba (A2 p) l=false:=by unfold Ba;simp[aE]
   refine gf hk ?_
   exact fin1 (U':=O) ⟨by rw[aN],rfl⟩
  ·refine gf hk ?_
   refine Cx [1,2,17,18] (fun (k:Nat)=>k<=l.length /\ ∀x∈l.take k,(A2 p).own x.cls=true/\x.slots.length=((A2 p).slots x.cls).length/\okVs l.length x.slots=true) (fun k=>[(19,dI k)]) (fun _=>O) (fun k=>l.length-k) (0) (by exact⟨Nat.zero_le _,by simp⟩) (fun k hI=>?_)
   obtain⟨bU,hI⟩:=hI
   by_cases ai:k<l.length
   ·have bS:=hs _ (List.getElem_mem ai)
    have bM:=Cc p (l[k]).cls
    have bA:=E6 p
    have aN:¬((A2 p).own (l[k]).cls=true/\(l[k]).slots.length=((A2 p).slots (l[k]).cls).length/\okVs l.length (l[k]).slots=true)->Ba (A2 p) l=false:=fun h=>by
     cases hb:Ba (A2 p) l with
     |false=>rfl
     |true=>exact absurd ((BB.1 hb).2 _ (List.getElem_mem ai)) h
    cases ho:ownF p (l[k]).cls with
    |false=>
     have hb:=aN fun h=>by have:=h.1;rw[show(A2 p).own (l[k]).cls=(ownF p (l[k]).cls&&okP p) from rfl,ho]at this;cases this
     refine gf (gi hk ho) ?_
     exact fin1 (U':=O) ⟨by rw[hb],rfl⟩
    | true =>
     have bG:(A2 p).own (l[k]).cls=true:=by show(ownF p (l[k]).cls&&okP p)=true;rw[ho,hk];rfl
     by_cases aF:(l[k]).slots.length=(hasP p (l[k]).cls).length
     ·cases hv:okVs l.length (l[k]).slots with
      |false=>
       have hb:=aN fun h=>by have:=h.2.2;rw[hv]at this;cases this
       refine gf (gi hk (gi ho (gi hv aF))) ?_
       exact fin1 (U':=O) ⟨by rw[hb],rfl⟩
      |true=>
       refine gf (gi hk (gi ho (gi hv aF))) ?_
       exact⟨k+1,⟨by omega,fun x hx=>by rw[List.take_succ_eq_append_getElem ai,List.mem_append,List.mem_singleton]at hx;exact hx.elim (hI x) (fun e=>by rw[e];exact⟨bG,aF,hv⟩)⟩,td1,wkR⟩
     ·have hb:=aN fun h=>aF h.2.1
      have bc:¬(hasP p (l[k]).cls).length=(l[k]).slots.length:=fun e=>aF e.symm
      refine gf (gi hk (gi ho (gi aF bc))) ?_
      exact fin1 (U':=O) ⟨by rw[hb],rfl⟩
   ·have hb:Ba (A2 p) l=true:=BB.2 ⟨aE,by rw[List.take_of_length_le (by omega)]at hI;exact hI⟩
    refine gz ?_
    exact fin1 (U':=O) ⟨by rw[hb],rfl⟩
def curT(w:CWorld)(x:MThing)(c:Int)(q:Nat):List MVal:=(Cj w x c).slots.take q++(w.fresh c).drop q
theorem Co(w:CWorld)(x:MThing)(c:Int)(h:(w.fresh c).length=(w.slots c).length):(Cj w x c).slots.length=(w.slots c).length:=by unfold Cj;simp[h]
theorem NP(w:CWorld)(x:MThing)(c:Int)(h:(w.fresh c).length=(w.slots c).length)(q:Nat)(hq:q<=(w.slots c).length):(curT w x c q).length=(w.slots c).length:=by
 unfold curT;rw[List.length_append,List.length_take,List.length_drop,Co w x c h,h];omega
theorem Pg(w:CWorld)(x:MThing)(c:Int)(h:(w.fresh c).length=(w.slots c).length)(q:Nat)(hq:q<(w.slots c).length):(Cj w x c).slots[q]'(by rw[Co w x c h];exact hq)=(if 0<=idxG ((w.slots c)[q]) (w.slots x.cls) 0 then(x.slots[(idxG ((w.slots c)[q]) (w.slots x.cls) 0).toNat]?).getD vZ else(w.fresh c)[q]'(by rw[h];exact hq)):=by
 unfold Cj;simp
theorem Sv(w:CWorld)(x:MThing)(c:Int)(h:(w.fresh c).length=(w.slots c).length)(q:Nat)(hq:q<(w.slots c).length):curT w x c (q+1)=(curT w x c q).set q ((Cj w x c).slots[q]'(by rw[Co w x c h];exact hq)):=by
 unfold curT
 have ht:q<(Cj w x c).slots.length:=by rw[Co w x c h];exact hq
 rw[List.take_succ_eq_append_getElem ht,List.set_append_right _ _ (by rw[List.length_take];omega),List.append_assoc]
 congr 1
 rw[show(w.fresh c).drop q=(w.fresh c)[q]'(by rw[h];exact hq)::(w.fresh c).drop (q+1) from Ab (by rw[h];exact hq),List.length_take_of_le (by omega),Nat.sub_self]
 rfl
theorem Um(w:CWorld)(x:MThing)(c:Int)(h:(w.fresh c).length=(w.slots c).length)(q:Nat)(hq:q<(w.slots c).length):(curT w x c q)[q]? = some ((w.fresh c)[q]'(by rw[h];exact hq)):=by
 unfold curT
 have ht:q<(Cj w x c).slots.length:=by rw[Co w x c h];exact hq
 rw[List.getElem?_append_right (by rw[List.length_take];omega),List.length_take_of_le (by omega),Nat.sub_self,Ab (l:=w.fresh c) (by rw[h];exact hq)]
 rfl
theorem curT_0(w:CWorld)(x:MThing)(c:Int):curT w x c 0=w.fresh c:=by unfold curT;simp
theorem Un(w:CWorld)(x:MThing)(c:Int)(h:(w.fresh c).length=(w.slots c).length):curT w x c (w.slots c).length=(Cj w x c).slots:=by
 unfold curT;rw[<-h,List.drop_length,List.append_nil,List.take_of_length_le (by rw[Co w x c h,h];exact Nat.le_refl _)]
theorem QY(p:BProg)(i1 i2:Nat)(x:MThing)(c:Int)(rx:RW)(S0 O:Sig)(hp:p.wt<=1073741824)(hK:KnwS p i1 i2 S0 O)(hc:ownF p c=true)(aY:ownF p x.cls=true)(hn:(hasP p c).length<=1000000)(hx:RWAt O 2 rx (x.slots.map cVal))(bz:∀es,rx=.full es->es=[])(bR:x.slots.length=(hasP p x.cls).length):
  DCall prog 246 [cKnw p i1 i2,.agg [dI x.cls,rx.d x.slots.length],dI c] O fun y U'=> ∃r,y=.ret (.agg [dI c,r.d (Cj (A2 p) x c).slots.length])/\FrV O r (Cj (A2 p) x c).slots U':=by
 obtain⟨hS,aA,hm2⟩:=hK
 have aR:=MG p c
 have ak:=hc
 unfold ownF at ak aY
 simp only[Bool.and_eq_true,decide_eq_true_eq]at ak aY
 obtain⟨j,hj⟩:∃j:Nat,c=(j:Int)+3:=⟨(c-3).toNat,by omega⟩
 obtain⟨jx,bH⟩:∃j:Nat,x.cls=(j:Int)+3:=⟨(x.cls-3).toNat,by omega⟩
 obtain⟨g1,g2⟩:=Kf p j p.classes.length (by omega)
 obtain⟨g3,g4⟩:=Kf p jx p.classes.length (by omega)
 rw[<-hj]at g1 g2
 rw[<-bH]at g3 g4
 have ac:hitD tab 23 false (Cd (.int .i64) (.int .i64 c) (eIO (mp1 p p.classes.length)) 0)=some (sl (cI (hasP p c))):=by rw[TC,g1,g2];rfl
 have aq:hitD tab 23 false (Cd (.int .i64) (.int .i64 x.cls) (eIO (mp1 p p.classes.length)) 0)=some (sl (cI (hasP p x.cls))):=by rw[TC,g3,g4];rfl
 have bM:=Cc p x.cls
 have bA:=E6 p
 by_cases he:hasP p c=[]
 ·have bq:(A2 p).fresh c=[]:=List.length_eq_zero_iff.1 (by rw[aR,he];rfl)
  have aV:(Cj (A2 p) x c).slots=[]:=List.length_eq_zero_iff.1 (by rw[Co _ x c aR];show(hasP p c).length=0;rw[he];rfl)
  rw[he]at ac
  unfold cKnw
  refine en func246 ntmps246 ?_
  refine gz ?_ o246 [6]
  refine newV (fun i6 aj=>?_)
  have n1:i1≠i6:=fun e=>by rw[<-e,aA]at aj;cases aj
  have bh:KnwS p i1 i2 S0 (O.set i6 (.cells [.int .i64 0,.nils])):=⟨fun j o hj=>(hS.set (hS.none aj)) j o hj,by rw[w7 _ _ n1];exact aA,by rw[w7 _ _ fun e=>by rw[e,aj]at hm2;cases hm2];exact hm2⟩
  refine gz ?_ o246 [6]
  refine A4 (Ip p i1 i2 c S0 _ hp bh hc hn) (fun d S1 hr=>?_) (fun d S1 hr=>by obtain⟨_,h,_⟩:=hr;cases h)
  obtain⟨r,hd,hF⟩:=hr
  have ay:=(hF.2.1 i1 _ ((w7 _ _ n1).trans aA) id)
  have o6:=(hF.2.1 i6 _ (w6 ..) id)
  have bi:FrV (O.set i6 (.cells [.int .i64 0,.nils])) r (Cj (A2 p) x c).slots S1:=by rw[aV,<-bq];exact hF
  have aU:=bi.set aj
  cases hd
  rw[bq]
  rcases r with _|es|⟨i,c',cs⟩
  ·refine gf (gi ay.1 ac) ?_ o246 [6]
   refine Cx [0,4,6,7,19,20,47] (fun (q:Nat)=>True) (fun _=>[(21,dI 0)]) (fun _=>S1) (fun _=>1) (0) (by trivial) (fun q hI=>?_)
   refine gf o6.1 ?_ o246 [6]
   exact finC (U':=S1.set i6 (.cells [dI c,.nils])) ⟨.nil,by rw[aV],aU _⟩
  ·refine gf (gi ay.1 ac) ?_ o246 [6]
   refine Cx [0,4,6,7,19,20,47] (fun (q:Nat)=>True) (fun _=>[(21,dI 0)]) (fun _=>S1) (fun _=>1) (0) (by trivial) (fun q hI=>?_)
   refine gf o6.1 ?_ o246 [6]
   exact finC (U':=S1.set i6 (.cells [dI c,.slice es .clip])) ⟨.full es,by rw[aV],aU _⟩
  ·refine gf (gi ay.1 ac) ?_ o246 [6]
   refine Cx [0,4,6,7,19,20,47] (fun (q:Nat)=>True) (fun _=>[(21,dI 0)]) (fun _=>S1) (fun _=>1) (0) (by trivial) (fun q hI=>?_)
   refine gf o6.1 ?_ o246 [6]
   exact finC (U':=S1.set i6 (.cells [dI c,.sref i 0 0 c'])) ⟨.row i c' cs,by rw[aV],aU _⟩
 ·unfold cKnw
  refine en func246 ntmps246 ?_
  refine gz ?_ o246 [6]
  refine newV (fun i6 aj=>?_)
  have n1:i1≠i6:=fun e=>by rw[<-e,aA]at aj;cases aj
  have bh:KnwS p i1 i2 S0 (O.set i6 (.cells [.int .i64 0,.nils])):=⟨fun j o hj=>(hS.set (hS.none aj)) j o hj,by rw[w7 _ _ n1];exact aA,by rw[w7 _ _ fun e=>by rw[e,aj]at hm2;cases hm2];exact hm2⟩
  refine gz ?_ o246 [6]
  refine A4 (Ip p i1 i2 c S0 _ hp bh hc hn) (fun d S1 hr=>?_) (fun d S1 hr=>by obtain⟨_,h,_⟩:=hr;cases h)
  obtain⟨r,hd,hF⟩:=hr
  cases hd
  have bD:∃i c' cs,r=.row i c' cs:=by
   rcases r with _|es|⟨i,c',cs⟩
   ·have:=hF.1;exact absurd (show((A2 p).fresh c).map cVal=[] from this) (by intro h;have:=congrArg List.length h;rw[List.length_map,aR]at this;exact he (List.length_eq_zero_iff.1 this))
   ·have:=hF.1.1;rw[hF.2.2 es rfl]at this;exact absurd this (by intro h;have:=congrArg List.length h;rw[List.length_map,aR]at this;exact he (List.length_eq_zero_iff.1 this))
   ·exact⟨i,c',cs,rfl⟩
  obtain⟨i,c',cs,rfl⟩:=bD
  have ay:=(hF.2.1 i1 _ ((w7 _ _ n1).trans aA) id)
  have o6:=(hF.2.1 i6 _ (w6 ..) id)
  refine gf (gi ay.1 ac) ?_ o246 [6]
  have hw:((A2 p).fresh c).length=((A2 p).slots c).length:=aR
  have bV:(hasP p x.cls).length<=1073741824:=by omega
  refine Cw [0,4,6,7,19,20,47] (fun (q:Nat) (S4:Sig)=>q<=(hasP p c).length/\RWAt S4 2 (.row i c' cs) ((curT (A2 p) x c q).map cVal) /\ ∀j o,S1 j=some o->j≠i->S4 j=some o) (fun q _=>[(21,dI q)]) (fun _ S4=>S4) (fun q _=>(hasP p c).length-q) (0) (S1) (by exact⟨Nat.zero_le _,by rw[curT_0];exact hF.1,fun _ _ h _=>h⟩) (fun q S4 hI=>?_)
  obtain⟨bE,hR,aG⟩:=hI
  have bm:=aG i1 _ ay.1 (fun e=>ay.2 e)
  by_cases aL:q<(hasP p c).length
  ·have bj:q<(Cj (A2 p) x c).slots.length:=by rw[Co _ x c hw];exact aL
   have aw:=Pg (A2 p) x c hw q aL
   have bu:=NP (A2 p) x c hw q bE
   have bt:=Sv (A2 p) x c hw q aL
   have bw:=Um (A2 p) x c hw q aL
   change (Cj (A2 p) x c).slots[q]=(if 0<=idxG ((hasP p c)[q]) (hasP p x.cls) 0 then(x.slots[(idxG ((hasP p c)[q]) (hasP p x.cls) 0).toNat]?).getD vZ else _)at aw
   change (curT (A2 p) x c q).length=(hasP p c).length at bu
   by_cases ax:0<=idxG ((hasP p c)[q]) (hasP p x.cls) 0
   ·rw[if_pos ax]at aw
    obtain⟨k,hk⟩:∃k:Nat,idxG ((hasP p c)[q]) (hasP p x.cls) 0=k:=⟨(idxG ((hasP p c)[q]) (hasP p x.cls) 0).toNat,by omega⟩
    obtain⟨m1,m2⟩:=GV (s:=(hasP p c)[q]) (hasP p x.cls) 0 ax
    have ai:k<x.slots.length:=by omega
    rw[hk,Int.toNat_natCast,List.getElem?_eq_getElem ai,Option.getD_some]at aw
    obtain⟨ix,cx,csx,bC,Lx,y1,y2,y3⟩:=rowV (R:=fun _=>rx) (a:=0) hx (fun e=>by
     have e':rx=.nil:=e
     rw[e']at hx
     have:=congrArg List.length (show x.slots.map cVal=[] from hx)
     simp at this;rw[this]at ai;simp at ai) bz ai
    have a8:rx=.row ix cx csx:=bC
    subst a8
    obtain⟨y4,y5⟩:=hF.2.1 ix _ ((w7 _ _ fun e=>by rw[e,aj]at y1;cases y1).trans y1) id
    have y6:=aG ix _ y4 (fun e=>y5 e)
    obtain⟨L,hL⟩:∃L,L=((curT (A2 p) x c q).map cVal).flatten++cs:=⟨_,rfl⟩
    have z1:S4 i=some (.cells L):=by rw[hL];exact hR.1
    have bf:L.length=(curT (A2 p) x c q).length*2+cs.length:=by rw[hL,FA]
    have hf:¬L.length<q*2+2:=by omega
    have aH:=Pd (curT (A2 p) x c q) q (by omega) (x.slots[k]) cs
    rw[<-hL,<-aw,<-bt,aw,List.append_assoc]at aH
    have aT:=NP (A2 p) x c hw (q+1) aL
    change (curT (A2 p) x c (q+1)).length=(hasP p c).length at aT
    have au:RWAt (S4.set i (.cells (List.take (q*2) L++(cVal (x.slots[k])++List.drop (q*2+2) L)))) 2 (.row i c' cs) ((curT (A2 p) x c (q+1)).map cVal):=by
     obtain⟨b1,b2,b3,b4⟩:=hR
     refine⟨by rw[w6,aH],?_,by rw[List.length_map,aT];rw[List.length_map,bu]at b3;exact b3,Bl⟩
     rw[FA]at b2⊢
     omega
    refine gf (gi bm (gi aq (gi hk (gi y6 (gi y2 (gi y3 (gi z1 hf))))))) ?_ o246 [6]
    exact⟨q+1,S4.set i (.cells (List.take (q*2) L++(cVal (x.slots[k])++List.drop (q*2+2) L))),⟨by omega,au,fun j o hj ah=>by rw[w7 _ _ ah];exact aG j o hj ah⟩,td1,wkR⟩
   ·rw[if_neg ax]at aw
    have aI:curT (A2 p) x c (q+1)=curT (A2 p) x c q:=by
     rw[bt,aw]
     rw[List.getElem?_eq_getElem (by omega)]at bw
     rw[<-Option.some.inj bw,List.set_getElem_self]
    refine gf (gi bm aq) ?_ o246 [6]
    exact⟨q+1,S4,⟨by omega,by rw[aI];exact hR,aG⟩,td1,wkR⟩
  ·obtain rfl:q=(hasP p c).length:=by omega
   have be:=Un (A2 p) x c hw
   rw[show curT (A2 p) x c (hasP p c).length=(Cj (A2 p) x c).slots from be]at hR
   have o7:=aG i6 _ o6.1 (fun e=>o6.2 e)
   have bi:FrV (O.set i6 (.cells [.int .i64 0,.nils])) (.row i c' cs) (Cj (A2 p) x c).slots S4:=⟨hR,fun j o hj _=>by
    obtain⟨b1,b2⟩:=hF.2.1 j o hj id
    exact⟨aG j o b1 (fun e=>b2 e),b2⟩,fun es h=>by cases h⟩
   have aU:=bi.set aj
   have bj:(Cj (A2 p) x c).slots.length=((A2 p).fresh c).length:=by rw[Co _ x c hw,hw]
   refine gf o7 ?_ o246 [6]
   exact finC (U':=S4.set i6 (.cells [dI c,.sref i 0 ((A2 p).fresh c).length c'])) ⟨.row i c' cs,by rw[bj],aU _⟩
theorem TE(es:List (List D))(h2:∀c∈es,c.length=2)(k:Nat)(hk:k<es.length)(e:List D)(cs:List D):List.take (k*2) (es.flatten++cs)++e++List.drop (k*2+2) (es.flatten++cs)=(es.set k e).flatten++cs:=by
 have e0:es=es.take k++es[k]::es.drop (k+1):=by rw[<-Ab hk,List.take_append_drop]
 have h:(es.take k).flatten.length=k*2:=by rw[Av fun c hc=>h2 c (List.mem_of_mem_take hc),List.length_take_of_le (by omega)]
 have hl:(es[k]).length=2:=h2 _ (List.getElem_mem hk)
 have hs:es.set k e=es.take k++e::es.drop (k+1):=by rw[List.set_eq_take_append_cons_drop,if_pos hk]
 have e2:es.flatten++cs=(es.take k).flatten++(es[k]++((es.drop (k+1)).flatten++cs)):=by
  calc _=(es.take k++es[k]::es.drop (k+1)).flatten++cs:=by rw[<-e0]
   _=_:=by rw[List.flatten_append,List.flatten_cons];simp only[List.append_assoc]
 have e3:(es.set k e).flatten++cs=(es.take k).flatten++(e++((es.drop (k+1)).flatten++cs)):=by
  rw[hs,List.flatten_append,List.flatten_cons];simp only[List.append_assoc]
 rw[e2,e3,<-h,List.take_left,<-List.drop_drop,List.drop_left,List.append_assoc,<-hl,List.drop_left]
theorem Mk(S S':Nat->RW)(l:List MThing)(m:Nat)(hm:m<l.length)(x:MThing)(h:∀k,k≠m->S' k=S k):tCells S' (l.set m x)=(tCells S l).set m [dI x.cls,(S' m).d x.slots.length]:=by
 refine List.ext_getElem? fun k=>?_
 by_cases hk:k<l.length
 ·rw[BA S' (l.set m x) k (by simpa using hk)]
  by_cases e:k=m
  ·subst e;rw[List.getElem_set_self,List.getElem?_set_self (by rw[A6];exact hk)]
  ·rw[List.getElem_set_ne (fun h=>e h.symm),List.getElem?_set_ne (fun h=>e h.symm),BA S l k hk,h k e]
 ·rw[List.getElem?_eq_none (by rw[A6];simp;omega),List.getElem?_eq_none (by simp[A6];omega)]
theorem ThS.row{R:Nat->RW}{l:List MThing}{S0 O:Sig}(h:ThS R l S0 O)(hl:0<l.length): ∃i c cs,R 3=.row i c cs:=by
 have hk:=h.row3
 cases hR:R 3 with
 |nil=>rw[hR]at hk;have:=congrArg List.length (show tCells (fun k=>R (k+4)) l=[] from hk);rw[A6]at this;simp at this;rw[this]at hl;simp at hl
 |full es=>rw[hR]at hk;have:=congrArg List.length hk.1;rw[A6,h.nf 3 es hR]at this;simp at this;rw[this]at hl;simp at hl
 |row i c cs=>exact⟨i,c,cs,rfl⟩
theorem ThS.turn{R:Nat->RW}{l:List MThing}{S0 O S3:Sig}(h:ThS R l S0 O){m:Nat}(hm:m<l.length){x:MThing}{r:RW}(hF:FrV O r x.slots S3){i c:Nat}{cs:List D}(hi:R 3=.row i c cs){L:List D}(hL:L=(tCells (fun k=>R (k+4)) l).flatten++cs):
  ThS (updF R (m+4) r) (l.set m x) S0 (S3.set i (.cells (L.take (m*2)++[dI x.cls,r.d x.slots.length]++L.drop (m*2+2)))):=by
 obtain⟨f1,f2,f3⟩:=hF
 have e2:rSz (m+4)=2:=by unfold rSz;rw[if_neg (by omega)]
 have u1:=h.rows.upd (a:=m+4) (r':=r) (by rw[e2];exact f1) (fun j o hj _=>f2 j o hj id)
 have h3:updF R (m+4) r 3=.row i c cs:=by rw[A7 _ _ (by omega),hi]
 have aP:(updF R (m+4) r 3).is i:=by rw[h3];rfl
 have q3:=h.row3
 rw[hi]at q3
 obtain⟨z1,z2,z3,z4⟩:=q3
 have ht:tCells (fun k=>updF R (m+4) r (k+4)) (l.set m x)=(tCells (fun k=>R (k+4)) l).set m [dI x.cls,r.d x.slots.length]:=by
  rw[Mk (fun k=>R (k+4)) _ l m hm x fun k hk=>A7 _ _ (by omega)]
  simp only[Ak]
 have bN:=TE (tCells (fun k=>R (k+4)) l) CK m (by rw[A6];exact hm) [dI x.cls,r.d x.slots.length] cs
 subst hL
 rw[bN]
 have aW:(((tCells (fun k=>R (k+4)) l).set m [dI x.cls,r.d x.slots.length]).flatten++cs).length=((tCells (fun k=>R (k+4)) l).flatten++cs).length:=by
  rw[<-ht,List.length_append,List.length_append,Av CK,Av CK,A6,A6,List.length_set]
 refine⟨⟨fun a=>?_,u1.dj⟩,fun a ha=>by rw[A7 _ _ (by omega)];exact h.lo a ha,fun a es he=>?_,fun j o hj=>?_⟩
 ·by_cases ea:a=3
  ·subst ea
   rw[h3]
   show RWAt _ 2 _ (tCells (fun k=>updF R (m+4) r (k+4)) (l.set m x))
   refine⟨by rw[w6,ht],by rw[ht,aW];exact z2,by rw[A6,List.length_set];rw[A6]at z3;exact z3,CK⟩
  ·have e:rCt (updF R (m+4) r) ⟨l.set m x,[],0,[],[]⟩ a=updF (rCt R ⟨l,[],0,[],[]⟩) (m+4) (x.slots.map cVal) a:=by
    match a with
    |0=>rw[A7 _ _ (by omega)];rfl
    |1=>rw[A7 _ _ (by omega)];rfl
    |2=>rw[A7 _ _ (by omega)];rfl
    |3=>exact absurd rfl ea
    |k+4=>
     show(((l.set m x)[k]?).getD ⟨0,[]⟩).slots.map cVal=_
     by_cases ek:k=m
     ·subst ek;rw[Ak,List.getElem?_set_self hm];rfl
     ·rw[A7 _ _ (by omega),List.getElem?_set_ne (fun h=>ek h.symm)];rfl
   rw[e]
   exact(u1.ok a).keep fun j o hj am=>by rw[w7 _ _ fun e2=>ea (u1.dj a 3 j am (by rw[e2];exact aP))];exact hj
 ·by_cases e4:a=m+4
  ·subst e4;rw[Ak]at he;exact f3 es he
  ·rw[A7 _ _ e4]at he;exact h.nf a es he
 ·obtain⟨k1,k2⟩:=h.keep j o hj
  obtain⟨k3,k4⟩:=f2 j o k1 id
  refine⟨by rw[w7 _ _ fun e=>k2 3 (by rw[hi,e];rfl)];exact k3,fun a ha=>?_⟩
  by_cases e4:a=m+4
  ·subst e4;rw[Ak]at ha;exact k4 ha
  ·rw[A7 _ _ e4]at ha;exact k2 a ha
theorem storeTh{ir:Nat}{O:Sig}{ro:Ro}{n:Nat}{ops:Array Oper}{Q:DX->St->Prop}{df:List DDf}{rest:List Oper}{γ Sr:Fr}{ty:TypeId}{pos:String}{after:Array Edge}{x y:Operand}{ds:List D}{r1:RW}{a:Int}{m k:Nat}(hc:O ir=some (.cells ds))(h:DOps prog ro n ops Q rest ⟨γ,O.set ir (.cells (ds.take k++[dI a,r1.d m]++ds.drop (k+2))),df⟩)
  (hl:A0 γ (A5 [x,y])=some Sr:=by exact tdR) (h1:ev Sr x=.ptr ir k:=by exact tdR) (h2:ev Sr y=.agg [dI a,r1.d m]:=by exact tdR) (hlen:k+2<=ds.length:=by simp) :
  DOps prog ro n ops Q (⟨none,.store 131 x y,ty,pos,after,none⟩::rest) ⟨γ,O,df⟩:=
 DN Ac (d:=.any) hl (by show DM tab O 131 (ev Sr x) (ev Sr y)=_;rw[h1,h2];exact SX hc hlen) h
theorem Rm(p:BProg)(l:List MThing)(o:Own)(m:Nat)(c:Int)(O:Sig)(hp:p.wt<=1073741824)(hk:okP p=true)(hh:∀c,(hasP p c).length<=1000000)(hm:m<l.length)(aM:Ba (A2 p) l=true)(hc:ownF p c=true):DCall prog 182 [.agg (Aj p),.slice (l.map cTh) o,dI m,dI c] O fun y U'=> ∃R,y=.ret (.tup [(R 3).d l.length,dI 0])/\ThS R (l.set m (Cj (A2 p) l[m] c)) O U':=by
 obtain⟨o1,o2⟩:=BB.1 aM
 have hs:∀x∈l,x.slots.length<=1000000:=fun x hx=>by
  rw[(o2 x hx).2.1];exact hh x.cls
 obtain⟨u1,u2,u3⟩:=o2 _ (List.getElem_mem hm)
 have aY:ownF p (l[m]).cls=true:=by have:(ownF p (l[m]).cls&&okP p)=true:=u1;simp only[Bool.and_eq_true]at this;exact this.1
 refine en func182 ntmps182 ?_
 repeat' first|refine gf (gi hc (gi hk aM)) ?_|refine CU (Ks p l o O (by omega) (by omega) (fun x hx=>by have:=hs x hx;omega)) ?_|refine callPG (Ks p l o O (by omega) (by omega) (fun x hx=>by have:=hs x hx;omega)) ?_|refine gf (gi hc (gi hk aM)) ?_ o182|apply gy<;>intro hh
 refine A4 (QZ l o O (by omega) hs) (fun d S1 hr=>?_) (fun d S1 hr=>by obtain⟨_,h,_⟩:=hr;cases h)
 obtain⟨R1,hd,hT⟩:=hr
 obtain⟨i,c1,cs,h3⟩:=hT.row (by omega)
 cases hd
 have q3:=hT.row3
 rw[h3]at q3
 obtain⟨y1,y2⟩:=Nw (CK (S:=fun k=>R1 (k+4)) (l:=l)) (BA _ _ m hm) cs
 obtain⟨L,hL⟩:∃L,L=(tCells (fun k=>R1 (k+4)) l).flatten++cs:=⟨_,rfl⟩
 have z1:S1 i=some (.cells L):=by rw[hL];exact q3.1
 rw[<-hL]at y1 y2
 have bf:m*2+2<=L.length:=by
  rw[hL,List.length_append,Av CK,A6];omega
 have bB:List.take 2 (List.drop (m*2) L)=[dI (l[m]).cls,(R1 (m+4)).d (l[m]).slots.length]:=by
  refine List.ext_getElem? fun k=>?_
  match k with
  |0=>rw[List.getElem?_take_of_lt (by omega),List.getElem?_drop,Nat.add_zero];exact y1
  |1=>rw[List.getElem?_take_of_lt (by omega),List.getElem?_drop];exact y2
  |k+2=>rw[List.getElem?_eq_none (by simp;omega),List.getElem?_eq_none (by simp)]
 rw[h3]
 refine gz ?_
 refine Ft (id:=5) [0,1,2,4,5,6,7,8,3,9,10] [3,9] S1 (Sub.refl _) ?_
 refine gf (gi z1 (gi bf bB)) ?_ o182
 refine Bx (Lv p S1 hp hk) (fun d S2 hr=>?_) (fun d S2 hr=>by obtain⟨_,_,h,_⟩:=hr;cases h)
 obtain⟨i1,i2,hd,hK⟩:=hr
 cases hd
 refine⟨hK.1,?_⟩
 have hx:RWAt S2 2 (R1 (m+4)) ((l[m]).slots.map cVal):=by
  have q:=hT.rows.ok (m+4)
  rw[show rSz (m+4)=2 by unfold rSz;rw[if_neg (by omega)],show rCt R1 ⟨l,[],0,[],[]⟩ (m+4)=(l[m]).slots.map cVal by show((l[m]?).getD ⟨0,[]⟩).slots.map cVal=_;rw[List.getElem?_eq_getElem hm];rfl]at q
  exact q.keep fun j o hj _=>hK.1 j o hj
 refine Bx (QY p i1 i2 l[m] c (R1 (m+4)) S1 S2 hp hK hc aY (hh c) hx (hT.nf _) u2) (fun d S3 hr=>?_) (fun d S3 hr=>by obtain⟨_,h,_⟩:=hr;cases h)
 obtain⟨r,hd,hF⟩:=hr
 cases hd
 refine⟨fun j o hj=>(hF.2.1 j o (hK.1 j o hj) id).1,?_⟩
 refine gz ?_ o182
 have aZ:FrV S1 r (Cj (A2 p) l[m] c).slots S3:=⟨hF.1,fun j o hj _=>hF.2.1 j o (hK.1 j o hj) id,hF.2.2⟩
 have z3:S3 i=some (.cells L):=(aZ.2.1 i _ z1 id).1
 have bP:=hT.turn hm (x:=Cj (A2 p) l[m] c) aZ h3 hL
 refine storeTh (r1:=r) z3 ?_ (hlen:=bf)
 refine gz ?_ o182
 exact fin2 (U':=_) ⟨_,by rw[A7 _ _ (by omega),h3,EB],bP⟩
def mixC(S:Nat->RW)(l:List MThing)(k:Nat):List (List D):=(l.take k).map cTh++(tCells S l).drop k
theorem Qk{n:Nat}{γ:Fr}{df:List DDf}{O:Sig}{S:Nat->RW}{l:List MThing}{i:Nat}{cs:List D}(hi:O i=some (.cells ((tCells S l).flatten++cs)))(hS:∀k (h:k<l.length),RWAt O 2 (S k) ((l[k]).slots.map cVal))(ag:∀k, ¬(S k).is i)(br:∀a b j,(S a).is j->(S b).is j->a=b):
  ∀k,k<=l.length->∃U',Wk prog n ⟨γ,O,df⟩ ⟨γ,U',df⟩/\U' i=some (.cells ((mixC S l k).flatten++cs)) /\ ∀j o,O j=some o->j≠i->(∀q,q<k->¬(S q).is j)->U' j=some o
 |0,_=>⟨O,Wk.refl _ _ _,by unfold mixC;simpa using hi,fun j o h _ _=>h⟩
 | k+1,hk=>by
  obtain⟨S1,w1,o1,k1⟩:=Qk hi hS ag br k (by omega)
  have ai:k<l.length:=by omega
  have hr:RWAt S1 2 (S k) ((l[k]).slots.map cVal):=(hS k ai).keep fun j o hj bp=>k1 j o hj (fun e=>ag k (e ▸ bp)) (fun q hq bd=>by have:=br q k j bd bp;omega)
  have aS:(tCells S l).drop k=[dI (l[k]).cls,(S k).d (l[k]).slots.length]::(tCells S l).drop (k+1):=by
   have aW:k<(tCells S l).length:=by rw[A6];exact ai
   rw[Ab aW]
   have:=BA S l k ai
   rw[List.getElem?_eq_getElem aW]at this
   rw[Option.some.inj this]
  have e1:(mixC S l k).flatten++cs=(((l.take k).map cTh).flatten++[dI (l[k]).cls])++(S k).d ((l[k]).slots.map cVal).length::(((tCells S l).drop (k+1)).flatten++cs):=by
   unfold mixC
   rw[aS,List.flatten_append,List.flatten_cons,List.length_map]
   simp only[List.append_assoc,List.cons_append,List.nil_append]
  have e2:(mixC S l (k+1)).flatten++cs=(((l.take k).map cTh).flatten++[dI (l[k]).cls]) ++ .slice ((l[k]).slots.map cVal) .no::(((tCells S l).drop (k+1)).flatten++cs):=by
   unfold mixC
   rw[List.take_succ_eq_append_getElem ai,List.map_append,List.flatten_append,List.flatten_append]
   simp only[List.map_cons,List.map_nil,List.flatten_cons,List.flatten_nil,List.append_nil,List.append_assoc,List.cons_append,List.nil_append,cTh]
  rw[e1]at o1
  obtain⟨S2,w2,o2,k2⟩:=BF (P:=prog) (n:=n) (γ:=γ) (df:=df) hr o1 (ag k)
  refine⟨S2,w1.trans w2,by rw[e2];exact o2,fun j o hj ah hq=>k2 j o (k1 j o hj ah fun q bT=>hq q (by omega)) ah (hq k (by omega))⟩
theorem Ts(S:Nat->RW)(l:List MThing):mixC S l l.length=l.map cTh:=by
 unfold mixC;rw[List.take_length,List.drop_of_length_le (by rw[A6];exact Nat.le_refl _),List.append_nil]
theorem MF{n:Nat}{γ:Fr}{df:List DDf}{O:Sig}{R:Nat->RW}{s:GoS}{ir:Nat}{a0 b0:List D}(hR:Rows O R rSz (rCt R s))(ag:∀a, ¬(R a).is ir)(ba:∀es,R 3=.full es->es=[])(hi:O ir=some (.cells (a0++(R 3).d s.objs.length::b0))):
  ∃U',Wk prog n ⟨γ,O,df⟩ ⟨γ,U',df⟩/\U' ir=some (.cells (a0 ++ .slice (s.objs.map cTh) .no::b0)) /\ ∀j o,O j=some o->j≠ir->(∀q,3<=q->¬(R q).is j)->U' j=some o:=by
 have q3:RWAt O 2 (R 3) (tCells (fun k=>R (k+4)) s.objs):=hR.ok 3
 have bQ:∀k (h:k<s.objs.length),RWAt O 2 (R (k+4)) ((s.objs[k]).slots.map cVal):=fun k h=>by
  have q:=hR.ok (k+4)
  rw[show rSz (k+4)=2 by unfold rSz;rw[if_neg (by omega)],show rCt R s (k+4)=(s.objs[k]).slots.map cVal by show((s.objs[k]?).getD ⟨0,[]⟩).slots.map cVal=_;rw[List.getElem?_eq_getElem h];rfl]at q
  exact q
 by_cases h0:s.objs=[]
 ·rw[h0]at q3 hi⊢
  obtain⟨S2,w2,o2,k2⟩:=BF (P:=prog) (n:=n) (γ:=γ) (df:=df) (es:=[]) (r:=R 3) (i:=ir) q3 hi (ag 3)
  exact⟨S2,w2,o2,fun j o hj ah hq=>k2 j o hj ah (hq 3 (by omega))⟩
 ·have bF:0<s.objs.length:=List.length_pos_iff.2 h0
  cases h3:R 3 with
  |nil=>rw[h3]at q3;have:=congrArg List.length (show tCells (fun k=>R (k+4)) s.objs=[] from q3);rw[A6]at this;simp at this;exact absurd this h0
  |full es=>rw[h3]at q3;have:=congrArg List.length q3.1;rw[A6,ba es h3]at this;simp at this;exact absurd this h0
  | row i c cs =>
   rw[h3]at q3 hi
   obtain⟨z1,z2,z3,z4⟩:=q3
   have aP:(R 3).is i:=by rw[h3];rfl
   have hne:ir≠i:=fun e=>ag 3 (e ▸ aP)
   obtain⟨S1,w1,o1,k1⟩:=Qk (n:=n) (γ:=γ) (df:=df) (S:=fun k=>R (k+4)) z1 bQ (fun k h=>by have:=hR.dj _ _ _ h aP;omega) (fun a b j ha hb=>by have:=hR.dj _ _ _ ha hb;omega) s.objs.length (Nat.le_refl _)
   have bL:=k1 ir _ hi hne (fun q _=>ag (q+4))
   rw[Ts]at o1
   have bk:∀c∈s.objs.map cTh,c.length=2:=fun c hc=>by obtain⟨x,_,rfl⟩:=List.mem_map.1 hc;rfl
   have hr:RWAt S1 2 (.row i c cs) (s.objs.map cTh):=⟨o1,by
    rw[List.length_append,Av bk,List.length_map]
    rw[List.length_append,Av CK,A6]at z2
    exact z2,by rw[List.length_map];rw[A6]at z3;exact z3,bk⟩
   obtain⟨S2,w2,o2,k2⟩:=BF (P:=prog) (n:=n) (γ:=γ) (df:=df) (i:=ir) hr (by rw[List.length_map];exact bL) (fun h=>hne h)
   exact⟨S2,w1.trans w2,o2,fun j o hj ah hq=>k2 j o (k1 j o hj (fun e=>hq 3 (by omega) (by rw[e];exact aP)) fun q _=>hq (q+4) (by omega)) ah (fun h=>hq 3 (by omega) (by rw[h3];exact h))⟩
def Ew(R R':Nat->RW):Nat->RW:=fun a=>if a<3 then R a else R' a
theorem Dt{R R':Nat->RW}{a:Nat}(h:a<3):Ew R R' a=R a:=by unfold Ew;rw[if_pos h]
theorem Du{R R':Nat->RW}{a:Nat}(h:3<=a):Ew R R' a=R' a:=by unfold Ew;rw[if_neg (by omega)]
section
variable {ir:Nat}{p:BProg}{R:Nat->RW}{s:GoS}{O:Sig}
theorem RunS.swap(h:RunS ir p R s O){R':Nat->RW}{l:List MThing}{S2 S3:Sig}{X ds:List D}(h2:∀j o,O j=some o->j≠ir->(∀q,3<=q->¬(R q).is j)->S2 j=some o)(bI:S2 ir=some (.cells X))(hT:ThS R' l S2 S3)(hd:ds=AN p (Ew R R') { s with objs:=l }):
  RunS ir p (Ew R R') { s with objs:=l } (S3.set ir (.cells ds))/\RunK ir R O (Ew R R') (S3.set ir (.cells ds)):=by
 have bb:∀a,a<3->∀j o,O j=some o->(R a).is j->S2 j=some o:=fun a ha j o hj am=>h2 j o hj (fun e=>h.ni a (e ▸ am)) (fun q hq bd=>by have:=h.rows.dj a q j am bd;omega)
 have aO:=(hT.keep ir _ bI).2
 have ag:∀a, ¬(Ew R R' a).is ir:=fun a=>by
  by_cases ha:a<3
  ·rw[Dt ha];exact h.ni a
  ·rw[Du (by omega)];exact aO a
 refine⟨⟨by rw[w6,hd],⟨fun a=>?_,fun a b j ha hb=>?_⟩,ag,fun a es he=>?_⟩,fun j o hj ah hn=>?_⟩
 ·by_cases ha:a<3
  ·have e:rCt (Ew R R') { s with objs:=l } a=rCt R s a:=by
    match a with
    |0=>rfl
    |1=>rfl
    |2=>rfl
    |k+3=>omega
   rw[e,Dt ha]
   exact(h.rows.ok a).keep fun j o hj am=>by rw[w7 _ _ fun e2=>h.ni a (by rw[<-e2];exact am)];exact(hT.keep j o (bb a ha j o hj am)).1
  ·have e:rCt (Ew R R') { s with objs:=l } a=rCt R' ⟨l,[],0,[],[]⟩ a:=by
    match a with
    |0=>omega
    |1=>omega
    |2=>omega
    |3=>
     show tCells (fun k=>Ew R R' (k+4)) l=tCells (fun k=>R' (k+4)) l
     congr 1
    |k+4=>rfl
   rw[e,Du (by omega)]
   exact(hT.rows.ok a).keep fun j o hj am=>by rw[w7 _ _ fun e2=>aO a (by rw[<-e2];exact am)];exact hj
 ·by_cases h1:a<3<;>by_cases h3:b<3
  ·rw[Dt h1]at ha;rw[Dt h3]at hb;exact h.rows.dj a b j ha hb
  ·rw[Dt h1]at ha;rw[Du (by omega)]at hb
   obtain⟨z,hz⟩:=(h.rows.ok a).cells ha
   exact absurd hb ((hT.keep j _ (bb a h1 j _ hz ha)).2 b)
  ·rw[Du (by omega)]at ha;rw[Dt h3]at hb
   obtain⟨z,hz⟩:=(h.rows.ok b).cells hb
   exact absurd ha ((hT.keep j _ (bb b h3 j _ hz hb)).2 a)
  ·rw[Du (by omega)]at ha;rw[Du (by omega)]at hb;exact hT.rows.dj a b j ha hb
 ·by_cases ha:a<3
  ·rw[Dt ha]at he;exact h.nf a es he
  ·rw[Du (by omega)]at he;exact hT.nf a es he
 ·have k2:=h2 j o hj ah fun q _=>hn q
  obtain⟨k3,k4⟩:=hT.keep j o k2
  refine⟨by rw[w7 _ _ ah];exact k3,fun a ha=>?_⟩
  by_cases h1:a<3
  ·rw[Dt h1]at ha;exact hn a ha
  ·rw[Du (by omega)]at ha;exact k4 a ha
theorem freezeD{ro:Ro}{n:Nat}{Q:DX->St->Prop}{c:Code}{γ:Fr}{df:List DDf}(a0 b0:List D)(hR:Rows O R rSz (rCt R s))(ag:∀a, ¬(R a).is ir)(ba:∀es,R 3=.full es->es=[])(hi:O ir=some (.cells (a0++(R 3).d s.objs.length::b0)))
  (h:∀U',U' ir=some (.cells (a0 ++ .slice (s.objs.map cTh) .no::b0))->(∀j o,O j=some o->j≠ir->(∀q,3<=q->¬(R q).is j)->U' j=some o)->DWp prog ro n c Q ⟨γ,U',df⟩):DWp prog ro n c Q ⟨γ,O,df⟩:=by
 obtain⟨S2,w,a,b⟩:=MF (n:=n) (γ:=γ) (df:=df) hR ag ba hi
 exact DA w (h S2 a b)
theorem RM(x:CIns)(r:List MVal)(v:MVal)(hp:p.wt<=1073741824)(hk:okP p=true)(hh:∀c,(hasP p c).length<=1000000)(hc:ownF p x.a=true)(hR:RunS ir p R s O)(hs:s.stk=r++[v])(hn:s.stk.length<=1000000)(hv:okV s.objs.length v=true)(ho:Ba (A2 p) s.objs=true):DCall prog 110 [.ptr ir 0,.agg (cIns x)] O fun y U'=> ∃R',RunK ir R O R' U' /\
  if v.kind=3 then y=.ret (.bool false)/\RunS ir p R' { s with objs:=setObj s.objs v.n (Cj (A2 p) (CN s.objs v.n) x.a),stk:=r++[v] } U' else y=.ret (.bool true)/\HaltS ir p R' { s with stk:=r } .nils false (FK s 6 r) U':=by
 have hl:s.stk.length=r.length+1:=by rw[hs];simp
 refine en func110 ntmps110 ?_
 refine gz ?_ o110
 refine A4 (BU r v hR hs hn) (fun d S1 hr=>?_) (fun d S1 hr=>by cases hr.1)
 obtain⟨hd,R1,au,bx⟩:=hr
 cases hd
 by_cases h3:v.kind=3
 rotate_left
 ·refine gf h3 ?_ o110
  refine A4 (Gr 6 r au) (fun d S3 hr=>?_) (fun d S3 hr=>by cases hr.1)
  obtain⟨hd,h1,h2⟩:=hr
  cases hd
  refine gz ?_ o110
  exact fin1 (U':=S3) ⟨R1,bx.trans h2,by rw[if_neg h3];exact⟨rfl,h1⟩⟩
 ·obtain⟨w1,w2,w3⟩:=Fa ho hv h3
  obtain⟨m,hm⟩:∃m:Nat,v.n=m:=⟨v.n.toNat,by omega⟩
  have bl:m<s.objs.length:=by omega
  have aM:CN s.objs v.n=s.objs[m]:=by unfold CN;rw[hm,Int.toNat_natCast,List.getElem?_eq_getElem bl];rfl
  refine gf h3 ?_
  have q1:=au.obj
  refine freezeD (R:=R1) (s:={ s with stk:=r }) (ir:=ir) [dI 0,dI 0,dI 0,dI 0,.nils,dI 0,dI 0,.nils,.nils] ((R1 2).d s.evs.length::(Aj p++[dI s.pos,(R1 0).d r.length,(R1 1).d s.env.length])) au.rows au.ni (au.nf 3) (by rw[q1];simp[AN]) (fun S2 o2 k2=>?_)
  refine mixI (id:=4) [0,1,2,3,4,5,6,7,8,9,10,11,12,13,14,15,16,17,18,19,20,21] [14,21] [4,9] [14,21] (fun z=>z=S2) rfl ?_
  refine iP (.ptr ir 0) ?_
  refine iP (.ptr ir 0) ?_
  refine iP (.ptr ir 0) ?_
  refine iP (.ptr ir 11) ?_
  refine iR (.agg (Aj p)) (fun z hz=>?_) ?_
  ·rw[hz];simp[o2]
  refine iP (.ptr ir 0) ?_
  refine iP (.ptr ir 0) ?_
  refine iP (.ptr ir 0) ?_
  refine iP (.ptr ir 9) ?_
  refine iR (.slice (s.objs.map cTh) .no) (fun z hz=>?_) ?_
  ·rw[hz];simp[o2]
  refine iP (.cptr (cVal v) 1) ?_
  refine iP (dI v.n) ?_
  refine iP (.cptr (cIns x) 1) ?_
  refine iP (dI x.a) ?_
  have ar:=Rm p s.objs .no m x.a S2 hp hk hh bl ho hc
  rw[<-hm]at ar
  refine iW (fun _=>True) ar (fun d S3 hr=>?_) (fun d S3 hr=>by obtain⟨_,h,_⟩:=hr;cases h)
  obtain⟨R2,hd,hT⟩:=hr
  obtain⟨i,c,cs,h4⟩:=hT.row (by rw[List.length_set];omega)
  cases hd
  refine⟨trivial,?_⟩
  rw[h4]
  have o3:=(hT.keep ir _ o2).1
  refine iP (.tup [.sref i 0 s.objs.length c,dI 0]) ?_
  refine iP (.sref i 0 s.objs.length c) ?_
  refine iP (dI 0) ?_
  refine iP (.ptr ir 0) ?_
  refine iP (.ptr ir 0) ?_
  refine iP (.ptr ir 9) ?_
  refine iS (d:=.any) (U':=S3.set ir (.cells ([dI 0,dI 0,dI 0,dI 0,.nils,dI 0,dI 0,.nils,.nils,.sref i 0 s.objs.length c,(R1 2).d s.evs.length]++Aj p++[dI s.pos,(R1 0).d r.length,(R1 1).d s.env.length]))) (fun _=>True) trivial ?_ (he:=by simp[o3])
  refine iN ?_
  refine gz ?_ o110
  obtain⟨p1,p2⟩:=au.swap k2 o2 hT rfl
  refine drp (S3.set ir (.cells (AN p (Ew R1 R2) { s with stk:=r,objs:=s.objs.set m (Cj (A2 p) s.objs[m] x.a) }))) ?_ (by unfold AN;rw[show Ew R1 R2 3=R2 3 from rfl,h4,List.length_set];exact Sub.refl _)
  refine A4 (Bj v p1 (by simp;omega)) (fun d S4 hr=>?_) (fun d S4 hr=>by cases hr.1)
  obtain⟨hd,R4,aC,aD⟩:=hr
  cases hd
  have e5:setObj s.objs v.n (Cj (A2 p) (CN s.objs v.n) x.a)=s.objs.set m (Cj (A2 p) s.objs[m] x.a):=by unfold setObj;rw[aM,hm];rfl
  refine gz ?_ o110
  exact fin1 (U':=S4) ⟨R4,(bx.trans p2).trans aD,by rw[if_pos h3,e5];exact⟨rfl,aC⟩⟩
end
end Go.DL
