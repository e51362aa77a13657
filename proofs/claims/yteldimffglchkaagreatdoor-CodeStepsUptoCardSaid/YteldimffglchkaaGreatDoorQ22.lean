/- A part of the proof. -/
import Derived.Test.YteldimffglchkaaGreatDoorQ21
set_option linter.all false
namespace Go.DL
open Go.Proofs.Tryz
open Go Go.Proofs
set_option maxHeartbeats 8000000
def FrV.set{O S1:Sig}{r:RW}{l:List jH}{i2:Nat}{ds:eO}(h:FrV (O.set i2 (.cells ds)) r l S1)(gB:O i2=none)(ds':eO):FrV O r l (S1.set i2 (.cells ds')):=by
 obtain⟨h1,h2,h3⟩:=h;have gA:=(h2 i2 _ (w6 ..) id).2;refine⟨h1.keep fun j o hj fF=>by rw[w7 _ _ fun e=>gA (by rw[<-e];exact fF)];exact hj,fun j o hj _=>?_,h3⟩;have hne:j≠i2:=fun e=>by rw[e,gB]at hj;cases hj
 have:=h2 j o (j2 hne hj) id;exact⟨j2 hne this.1,this.2⟩
def FrV.out{O X':Sig}{r:RW}{l:List jH}{k:Nat}{x:jP}(h:FrV (O.set k x) r l X')(hk:O k=none): ∃U',FrV O r l U'/\U' k=none/\X'=U'.set k x:=by
 obtain⟨h1,h2,h3⟩:=h;obtain⟨g1,g2⟩:=h2 k _ (w6 ..) id;refine⟨X'.del k,⟨h1.keep fun j o hj fF=>?_,fun j o hj _=>?_,h3⟩,by simp[Sig.del],?_⟩
 ·have hne:j≠k:=fun e=>g2 (e ▸ fF);simp only[Sig.del,hne,bc];exact hj
 ·have hne:j≠k:=fun e=>by rw[e,hk]at hj;cases hj
  have:=h2 j o (j2 hne hj) id;refine⟨?_,this.2⟩;simp only[Sig.del,hne,bc];exact this.1
 ·funext j
  by_cases e:j=k
  ·subst e;rw[w6];exact g1
  ·rw[w7 _ _ e];simp only[Sig.del,e,bc]
def FrV.new{O S1:Sig}{r:RW}{l:List jH}{k:Nat}(h:FrV O r l S1)(hk:S1 k=none)(o:jP):FrV O r l (S1.set k o):=by
 obtain⟨h1,h2,h3⟩:=h
 exact⟨h1.keep fun j o hj fF=>by rw[w7 _ _ fun e=>by rw[e,hk]at hj;cases hj];exact hj,fun j o hj _=>by
  have:=h2 j o hj id
  exact⟨by rw[w7 _ _ fun e=>by rw[e,hk]at this;cases this.1];exact this.1,this.2⟩,h3⟩
def M3(p:aw)(c:Int):((A0 p).fresh c).length=(hasP p c).length:=by unfold A0;simp
def JU(p:aw)(i1 i2:Nat)(c:Int)(S0 O:Sig)(hp:p.wt<=1073741824)(hK:KnwS p i1 i2 S0 O)(hc:jT p c=true)(hn:(hasP p c).length<=1000000):ar prog 243 [cKnw p i1 i2,dI c] O fun y U'=> ∃r,y=.ret (.agg [dI c,r.d ((A0 p).fresh c).length])/\FrV O r ((A0 p).fresh c) U':=by
 obtain⟨hS,fa,hm2⟩:=hK;unfold jT at hc;simp only[aF,aH]at hc;obtain⟨j,hj⟩:∃j:Nat,c=(j:Int)+3:=⟨(c-3).toNat,j0⟩;obtain⟨g1,g2⟩:=Sg p j p.aa.length j0;rw[<-hj]at g1 g2;have b7:=hitIT c (mp2 p p.aa.length) g1;rw[g2]at b7;have hl:=M3 p c;unfold cKnw;refine en func243 ntmps243 ?_;refine gz ?_ [] [4];refine je (fun i4 fw=>?_);have n2:i2≠i4:=fun e=>by rw[<-e,hm2]at fw;cases fw
 refine gf (gi hm2 b7) ?_ [] [4];refine A3 (Na ((A0 p).fresh c) .no _ j0) (fun d S1 hr=>?_) (fun d S1 hr=>by obtain⟨_,h,_⟩:=hr;cases h);obtain⟨r,hd,hF⟩:=hr;have fb:=(hF.2.1 i4 _ (w6 ..) id).1;have b8:=hF.set fw;cases hd;rcases r with _|es|⟨i,c',cs⟩
 ·refine gf fb ?_ [] [4];exact jp (U':=S1.set i4 (.cells [dI c,.aj])) ⟨.nil,rfl,b8 _⟩
 ·refine gf fb ?_ [] [4];exact jp (U':=S1.set i4 (.cells [dI c,.slice es .clip])) ⟨.full es,rfl,b8 _⟩
 ·refine gf fb ?_ [] [4];exact jp (U':=S1.set i4 (.cells [dI c,.am i 0 ((A0 p).fresh c).length c'])) ⟨.row i c' cs,rfl,b8 _⟩
def Ul(p:aw)(c:Int)(O:Sig)(hp:p.wt<=1073741824)(hk:okP p=true)(hc:jT p c=true)(hn:(hasP p c).length<=1000000):ar prog 179 [.agg (A7 p),dI c] O fun y U'=> ∃r,y=.ret (.tup [.agg [dI c,r.d ((A0 p).fresh c).length],dI 0])/\FrV O r ((A0 p).fresh c) U':=by
 have d7:(jT p c&&okP p)=true:=by rw[hc,hk];rfl
 refine en func179 ntmps179 ?_;refine gz ?_ [] [4];refine je (fun i4 fw=>?_);refine gf d7 ?_ [] [4];refine A3 (Nf p _ hp hk) (fun d S1 hr=>?_) (fun d S1 hr=>by obtain⟨_,_,h,_⟩:=hr;cases h);obtain⟨i1,i2,hd,hK⟩:=hr;cases hd;refine gz ?_ [] [4];refine A3 (JU p i1 i2 c _ S1 hp hK hc hn) (fun d S2 hr=>?_) (fun d S2 hr=>by obtain⟨_,h,_⟩:=hr;cases h);obtain⟨r,hd,hF⟩:=hr;have o4:=hK.1 i4 _ (w6 ..);have fb:=(hF.2.1 i4 _ o4 id).1;have fH:FrV (O.set i4 (.cells [.int .i64 0,.aj])) r ((A0 p).fresh c) S2:=⟨hF.1,fun j o hj _=>hF.2.1 j o (hK.1 j o hj) id,hF.2.2⟩;have b8:=fH.set fw;cases hd;rcases r with _|es|⟨i,c',cs⟩
 ·refine gf fb ?_ [] [4];exact jp (U':=S2.set i4 (.cells [dI c,.aj])) ⟨.nil,rfl,b8 _⟩
 ·refine gf fb ?_ [] [4];exact jp (U':=S2.set i4 (.cells [dI c,.slice es .clip])) ⟨.full es,rfl,b8 _⟩
 ·refine gf fb ?_ [] [4];exact jp (U':=S2.set i4 (.cells [dI c,.am i 0 ((A0 p).fresh c).length c'])) ⟨.row i c' cs,rfl,b8 _⟩
section
variable {ir:Nat}{p:aw}{R:Nat->RW}{s:GoS}{O:Sig}
theorem jU.fresh(h:jU ir p R s O){S1:Sig}{r:RW}{l:List jH}(hF:FrV O r l S1):S1 ir=some (.cells (AY p R s)) /\ ¬r.is ir/\jN S1 2 (R 3) (jC (fun k=>R (k+4)) s.j3):=
 ⟨(hF.2.1 ir _ h.obj id).1,(hF.2.1 ir _ h.obj id).2,(h.rows.ok 3).keep fun j o hj _=>(hF.2.1 j o hj id).1⟩
theorem jU.obj_add(h:jU ir p R s O){S1 S2:Sig}{r:RW}{x:jF}(hF:FrV O r x.ac S1){i c:Nat}{cs:eO}(hr:jN S2 2 (.row i c cs) (jC (fun k=>R (k+4)) s.j3++[[dI x.jM,r.d x.ac.length]]))(hk:RWK S1 (R 3) S2 (.row i c cs)){ds:eO}
  (hd:ds=AY p (jK (jK R (s.j3.length+4) r) 3 (.row i c cs)) { s with j3:=s.j3++[x] }) :
  jU ir p (jK (jK R (s.j3.length+4) r) 3 (.row i c cs)) { s with j3:=s.j3++[x] } (S2.set ir (.cells ds))/\jV ir R O (jK (jK R (s.j3.length+4) r) 3 (.row i c cs)) (S2.set ir (.cells ds)):=by
 obtain⟨f1,f2,f3⟩:=hF;have e2:rSz (s.j3.length+4)=2:=by unfold rSz;rw[aE j0]
 have u1:=h.rows.upd (a:=s.j3.length+4) (r':=r) (by rw[e2];exact f1) (fun j o hj _=>f2 j o hj id);have u2:=u1.upd (a:=3) (r':=.row i c cs) hr (by rw[A1 _ _ j0];exact hk)
 have gF:∀a,rCt (jK (jK R (s.j3.length+4) r) 3 (.row i c cs)) { s with j3:=s.j3++[x] } a=jK (jK (rCt R s) (s.j3.length+4) (x.ac.map j5)) 3 (jC (fun k=>R (k+4)) s.j3++[[dI x.jM,r.d x.ac.length]]) a:=fun a=>by
  match a with
  |0=>rw[A1 _ _ j0,A1 _ _ j0];rfl
  |1=>rw[A1 _ _ j0,A1 _ _ j0];rfl
  |2=>rw[A1 _ _ j0,A1 _ _ j0];rfl
  |3=>
   rw[Ab]
   show jC (fun k=>jK (jK R (s.j3.length+4) r) 3 (.row i c cs) (k+4)) (s.j3++[x])=_;rw[I1 (fun k=>R (k+4)) _ s.j3 x fun k hk=>by rw[A1 _ _ j0,A1 _ _ j0]];simp only[A1 (jK R (s.j3.length+4) r) (RW.row i c cs) (show s.j3.length+4≠3 by omega),Ab]
  | k+4 =>
   rw[A1 _ _ j0];show(((s.j3++[x])[k]?).getD ⟨0,[]⟩).ac.map j5=_
   by_cases e:k=s.j3.length
   ·subst e;rw[Ab];simp
   ·rw[A1 _ _ j0]
    show _=((s.j3[k]?).getD ⟨0,[]⟩).ac.map j5
    by_cases hk:k<s.j3.length
    ·rw[bj hk]
    ·rw[aX (by simp;omega),aX j0]
 have hR:=u2.retell gF;obtain⟨a1,a2⟩:=f2 ir _ h.obj id;obtain⟨b1,b2⟩:=hk ir _ a1 (h.ni 3)
 have b9:∀a, ¬(jK (jK R (s.j3.length+4) r) 3 (.row i c cs) a).is ir:=fun a ha=>by
  by_cases e3:a=3
  ·subst e3;rw[Ab]at ha;exact b2 ha
  ·rw[A1 _ _ e3]at ha
   by_cases e4:a=s.j3.length+4
   ·subst e4;rw[Ab]at ha;exact a2 ha
   ·rw[A1 _ _ e4]at ha;exact h.ni a ha
 refine⟨⟨by rw[w6,hd],hR.keep fun j o hj ⟨b,hb⟩=>by rw[w7 _ _ fun e=>b9 b (by rw[<-e];exact hb)];exact hj,b9,fun a es he=>?_⟩,fun j o hj c9 hn=>?_⟩
 ·by_cases e3:a=3
  ·subst e3;rw[Ab]at he;cases he
  ·rw[A1 _ _ e3]at he
   by_cases e4:a=s.j3.length+4
   ·subst e4;rw[Ab]at he;exact f3 es he
   ·rw[A1 _ _ e4]at he;exact h.nf a es he
 ·obtain⟨k3,k4⟩:=f2 j o hj id;obtain⟨k5,k6⟩:=hk j o k3 (hn 3);refine⟨j2 c9 k5,fun a ha=>?_⟩
  by_cases e3:a=3
  ·subst e3;rw[Ab]at ha;exact k6 ha
  ·rw[A1 _ _ e3]at ha
   by_cases e4:a=s.j3.length+4
   ·subst e4;rw[Ab]at ha;exact k4 ha
   ·rw[A1 _ _ e4]at ha;exact hn a ha
theorem OY{O:Sig}{sz:Nat}{r:RW}{es:eR}{n:Nat}(h:jN O sz r es)(hn:es.length=n)(e:Nat):lenD (.slice e) (r.d n)=some (.int .i64 n):=by
 subst hn;cases r with
 |nil=>obtain rfl:es=[]:=h;rfl
 |full es0=>obtain⟨rfl,_⟩:=h;rfl
 |row i c cs=>rfl
theorem UT(x:jI)(hp:p.wt<=1073741824)(hk:okP p=true)(hc:jT p x.a=true)(hn:(hasP p x.a).length<=1000000)(hR:jU ir p R s O)(hs:s.jA.length<=1000000)(ho:s.j3.length<=1000):ar prog 108 [.ptr ir 0,.agg (cIns x)] O fun y U'=> ∃R',jV ir R O R' U' /\
  if 40<=s.j3.length then y=.ret (.bool true)/\l8 ir p R' s .aj false (Dv s 8 s.jA.dropLast) U' else y=.ret (.bool false)/\jU ir p R' { s with j3:=s.j3++[⟨x.a,(A0 p).fresh x.a⟩],jA:=s.jA++[vObj s.j3.length] } U':=by
 have q1:=hR.obj;have q3:jN O 2 (R 3) (jC (fun k=>R (k+4)) s.j3):=hR.rows.ok 3;have fX:=OY q3 (A4 _ _) 131
 by_cases ff:40<=s.j3.length
 ·refine en func108 ntmps108 ?_;refine gf (gi q1 fX) ?_ o108;refine A3 (HJ 8 s.jA.dropLast hR) (fun d S3 hr=>?_);obtain⟨hd,h1,h2⟩:=hr;cases hd;refine gz ?_ o108;exact fin1 (U':=S3) ⟨R,h2,by rw[aG ff];exact⟨rfl,h1⟩⟩
 ·refine en func108 ntmps108 ?_;refine gf (gi q1 fX) ?_ (ji 3 o108);refine mixU (id:=3) (List.range 13) [11] [6] ?_;refine u3R (.ptr ir 0) ?_;refine u3R (.ptr ir 0) ?_;refine u3R (.ptr ir 11) ?_;refine u3R (.agg (A7 p)) ?_ (hd:=by simp[q1]);refine u3R (.ak (cIns x) 1) ?_;refine u3R (dI x.a) ?_
  refine u3C (fun τ d X'=> ∃r,d=.tup [.agg [dI x.a,r.d ((A0 p).fresh x.a).length],dI 0]/\FrV τ r ((A0 p).fresh x.a) X') (fun τ=>(Ul p x.a τ hp hk hc hn).mono fun y X' ⟨r,h1,h2⟩=>⟨_,h1,r,rfl,h2⟩) (fun τ k z d X' hk ⟨r,h1,h2⟩=>by
   obtain⟨V2,h3,h4,h5⟩:=h2.out hk
   exact⟨V2,⟨r,h1,h3⟩,h4,h5⟩) (fun d S1 ⟨r,hd,hF⟩=>⟨fun j o hj=>(hF.2.1 j o hj id).1,?_⟩)
  have hS:Sub O S1:=fun j o hj=>(hF.2.1 j o hj id).1;subst hd;rcases r with _|es|⟨i,c',cs⟩
  ·refine u3R (.tup [.agg [dI x.a,.aj],dI 0]) ?_;refine u3R (.agg [dI x.a,.aj]) ?_;refine u3R (dI 0) ?_;refine u3A [.int .i64 0,.aj] (fun i5 b6=>?_);have fk:Sub O ((S1.set i5 (.cells [.int .i64 0,.aj])).set i5 (.cells [dI x.a,.aj])):=(hS.set (hS.none b6)).set (hS.none b6);have o5:(S1.set i5 (.cells [.int .i64 0,.aj])) i5=_:=w6 ..;refine u3M ?_;simp only[List.map];refine EL jB tdR (by simp;rfl) fk ?_;simp only[w8];have b8:=hF.new b6 (.cells [dI x.a,.aj]);have o6:(S1.set i5 (.cells [dI x.a,.aj])) i5=_:=w6 ..
   have n5:¬(R 3).is i5:=fun h=>by
    obtain⟨z,hz⟩:=q3.cells h;rw[hS _ _ hz]at b6;cases b6
   obtain⟨a1,a2,a3⟩:=hR.fresh b8;generalize S1.set i5 (.cells [dI x.a,.aj])=S2 at*;have u1:=Dk a1 (hR.ni 3);have u5:=Dk o6 n5;refine gz ?_ (ji 4 o108);refine CH (id:=4) (List.range 12) [8] (S2.out (R 3).is) (CC _ _) ?_;refine gf (gi u1 u5) ?_ o108;refine Dl (new:=[[dI x.a,.aj]]) (es:=jC (fun k=>R (k+4)) s.j3) (fun j c2 cs2 S3 fm d9=>?_) (fun j o h=>C2 h) (hm:=a3) (h1:=by rw[A4];with_unfolding_all rfl) (hb:=by rw[A4];simp;omega) (hm2:=by rw[A4];simp;omega);obtain⟨v1,v2⟩:=d9 ir _ a1 (hR.ni 3);rw[show(jC (fun k=>R (k+4)) s.j3).length+[[dI x.a,.aj]].length=s.j3.length+1 by rw[A4];rfl];refine gf v1 ?_ o108;obtain⟨p1,p2⟩:=hR.obj_add (x:=⟨x.a,(A0 p).fresh x.a⟩) (r:=.nil) b8 fm d9 rfl;refine drp (S3.set ir (.cells (AY p (jK (jK R (s.j3.length+4) .nil) 3 (.row j c2 cs2)) { s with j3:=s.j3++[⟨x.a,(A0 p).fresh x.a⟩] }))) ?_ (by simp[AY,A7];exact Sub.refl _);refine A3 (BD (vObj s.j3.length) p1 hs) (fun d S4 hr=>?_);obtain⟨hd,R4,fc,fe⟩:=hr;cases hd;refine gz ?_ o108;exact fin1 (U':=S4) ⟨R4,p2.trans fe,by rw[aE ff];exact⟨rfl,fc⟩⟩
  ·refine u3R (.tup [.agg [dI x.a,.slice es .clip],dI 0]) ?_;refine u3R (.agg [dI x.a,.slice es .clip]) ?_;refine u3R (dI 0) ?_;refine u3A [.int .i64 0,.aj] (fun i5 b6=>?_);have fk:Sub O ((S1.set i5 (.cells [.int .i64 0,.aj])).set i5 (.cells [dI x.a,.slice es .clip])):=(hS.set (hS.none b6)).set (hS.none b6);have o5:(S1.set i5 (.cells [.int .i64 0,.aj])) i5=_:=w6 ..;refine u3M ?_;simp only[List.map];refine EL jB tdR (by simp;rfl) fk ?_;simp only[w8];have b8:=hF.new b6 (.cells [dI x.a,.slice es .clip]);have o6:(S1.set i5 (.cells [dI x.a,.slice es .clip])) i5=_:=w6 ..
   have n5:¬(R 3).is i5:=fun h=>by
    obtain⟨z,hz⟩:=q3.cells h;rw[hS _ _ hz]at b6;cases b6
   obtain⟨a1,a2,a3⟩:=hR.fresh b8;generalize S1.set i5 (.cells [dI x.a,.slice es .clip])=S2 at*;have u1:=Dk a1 (hR.ni 3);have u5:=Dk o6 n5;refine gz ?_ (ji 4 o108);refine CH (id:=4) (List.range 12) [8] (S2.out (R 3).is) (CC _ _) ?_;refine gf (gi u1 u5) ?_ o108;refine Dl (new:=[[dI x.a,.slice es .clip]]) (es:=jC (fun k=>R (k+4)) s.j3) (fun j c2 cs2 S3 fm d9=>?_) (fun j o h=>C2 h) (hm:=a3) (h1:=by rw[A4];with_unfolding_all rfl) (hb:=by rw[A4];simp;omega) (hm2:=by rw[A4];simp;omega);obtain⟨v1,v2⟩:=d9 ir _ a1 (hR.ni 3);rw[show(jC (fun k=>R (k+4)) s.j3).length+[[dI x.a,.slice es .clip]].length=s.j3.length+1 by rw[A4];rfl];refine gf v1 ?_ o108;obtain⟨p1,p2⟩:=hR.obj_add (x:=⟨x.a,(A0 p).fresh x.a⟩) (r:=(.full es)) b8 fm d9 rfl;refine drp (S3.set ir (.cells (AY p (jK (jK R (s.j3.length+4) (.full es)) 3 (.row j c2 cs2)) { s with j3:=s.j3++[⟨x.a,(A0 p).fresh x.a⟩] }))) ?_ (by simp[AY,A7];exact Sub.refl _);refine A3 (BD (vObj s.j3.length) p1 hs) (fun d S4 hr=>?_);obtain⟨hd,R4,fc,fe⟩:=hr;cases hd;refine gz ?_ o108;exact fin1 (U':=S4) ⟨R4,p2.trans fe,by rw[aE ff];exact⟨rfl,fc⟩⟩
  ·refine u3R (.tup [.agg [dI x.a,.am i 0 ((A0 p).fresh x.a).length c'],dI 0]) ?_;refine u3R (.agg [dI x.a,.am i 0 ((A0 p).fresh x.a).length c']) ?_;refine u3R (dI 0) ?_;refine u3A [.int .i64 0,.aj] (fun i5 b6=>?_);have fk:Sub O ((S1.set i5 (.cells [.int .i64 0,.aj])).set i5 (.cells [dI x.a,.am i 0 ((A0 p).fresh x.a).length c'])):=(hS.set (hS.none b6)).set (hS.none b6);have o5:(S1.set i5 (.cells [.int .i64 0,.aj])) i5=_:=w6 ..;refine u3M ?_;simp only[List.map];refine EL jB tdR (by simp;rfl) fk ?_;simp only[w8];have b8:=hF.new b6 (.cells [dI x.a,.am i 0 ((A0 p).fresh x.a).length c']);have o6:(S1.set i5 (.cells [dI x.a,.am i 0 ((A0 p).fresh x.a).length c'])) i5=_:=w6 ..
   have n5:¬(R 3).is i5:=fun h=>by
    obtain⟨z,hz⟩:=q3.cells h;rw[hS _ _ hz]at b6;cases b6
   obtain⟨a1,a2,a3⟩:=hR.fresh b8;generalize S1.set i5 (.cells [dI x.a,.am i 0 ((A0 p).fresh x.a).length c'])=S2 at*;have u1:=Dk a1 (hR.ni 3);have u5:=Dk o6 n5;refine gz ?_ (ji 4 o108);refine CH (id:=4) (List.range 12) [8] (S2.out (R 3).is) (CC _ _) ?_;refine gf (gi u1 u5) ?_ o108;refine Dl (new:=[[dI x.a,.am i 0 ((A0 p).fresh x.a).length c']]) (es:=jC (fun k=>R (k+4)) s.j3) (fun j c2 cs2 S3 fm d9=>?_) (fun j o h=>C2 h) (hm:=a3) (h1:=by rw[A4];with_unfolding_all rfl) (hb:=by rw[A4];simp;omega) (hm2:=by rw[A4];simp;omega);obtain⟨v1,v2⟩:=d9 ir _ a1 (hR.ni 3);rw[show(jC (fun k=>R (k+4)) s.j3).length+[[dI x.a,.am i 0 ((A0 p).fresh x.a).length c']].length=s.j3.length+1 by rw[A4];rfl];refine gf v1 ?_ o108;obtain⟨p1,p2⟩:=hR.obj_add (x:=⟨x.a,(A0 p).fresh x.a⟩) (r:=(.row i c' cs)) b8 fm d9 rfl;refine drp (S3.set ir (.cells (AY p (jK (jK R (s.j3.length+4) (.row i c' cs)) 3 (.row j c2 cs2)) { s with j3:=s.j3++[⟨x.a,(A0 p).fresh x.a⟩] }))) ?_ (by simp[AY,A7];exact Sub.refl _);refine A3 (BD (vObj s.j3.length) p1 hs) (fun d S4 hr=>?_);obtain⟨hd,R4,fc,fe⟩:=hr;cases hd;refine gz ?_ o108;exact fin1 (U':=S4) ⟨R4,p2.trans fe,by rw[aE ff];exact⟨rfl,fc⟩⟩
end
def IT(p:aw)(l:List jF)(o:Own)(O:Sig)(hp:p.wt<=1073741824)(hl:l.length<=1073741824)(hs:∀x∈l,x.ac.length<=1073741824):ar prog 45 [.agg (A7 p),.slice (l.map cTh) o] O (rS (dI (if okP p&&AI (A0 p) l then 0 else 2)) O):=by
 refine en func45 ntmps45 ?_;cases hk:okP p with
 |false=>
  refine gf hk ?_;exact fin1 (U':=O) ⟨rfl,rfl⟩
 | true =>
  by_cases ff:l.length<=40
  rotate_left
  ·have fq:AI (A0 p) l=false:=by unfold AI;simp[ff]
   refine gf hk ?_;exact fin1 (U':=O) ⟨by rw[fq],rfl⟩
  ·refine gf hk ?_;refine Bz [1,2,17,18] (fun (k:Nat)=>k<=l.length /\ ∀x∈l.take k,(A0 p).own x.jM=true/\x.ac.length=((A0 p).ac x.jM).length/\jg l.length x.ac=true) (fun k=>[(19,dI k)]) (fun _=>O) (fun k=>l.length-k) (0) (by exact⟨cE _,j1⟩) (fun k hI=>?_);obtain⟨gL,hI⟩:=hI
   by_cases d5:k<l.length
   ·have gJ:=hs _ (aK d5);have gD:=Ce p (l[k]).jM;have gc:=Db p
    have fq:¬((A0 p).own (l[k]).jM=true/\(l[k]).ac.length=((A0 p).ac (l[k]).jM).length/\jg l.length (l[k]).ac=true)->AI (A0 p) l=false:=fun h=>by
     cases hb:AI (A0 p) l with
     |false=>rfl
     |true=>exact absurd ((AE.1 hb).2 _ (aK d5)) h
    cases ho:jT p (l[k]).jM with
    |false=>
     have hb:=fq fun h=>by have:=h.1;rw[show(A0 p).own (l[k]).jM=(jT p (l[k]).jM&&okP p) from rfl,ho]at this;cases this
     refine gf (gi hk ho) ?_;exact fin1 (U':=O) ⟨by rw[hb],rfl⟩
    | true =>
     have gu:(A0 p).own (l[k]).jM=true:=by show(jT p (l[k]).jM&&okP p)=true;rw[ho,hk];rfl
     by_cases fg:(l[k]).ac.length=(hasP p (l[k]).jM).length
     ·cases hv:jg l.length (l[k]).ac with
      |false=>
       have hb:=fq fun h=>by have:=h.2.2;rw[hv]at this;cases this
       refine gf (gi hk (gi ho (gi hv fg))) ?_;exact fin1 (U':=O) ⟨by rw[hb],rfl⟩
      |true=>
       refine gf (gi hk (gi ho (gi hv fg))) ?_;exact⟨k+1,⟨j0,fun x hx=>by rw[aU d5,bJ,bC]at hx;exact hx.elim (hI x) (fun e=>by rw[e];exact⟨gu,fg,hv⟩)⟩,td1,wkR⟩
     ·have hb:=fq fun h=>fg h.2.1;have fM:¬(hasP p (l[k]).jM).length=(l[k]).ac.length:=fun e=>fg e.symm;refine gf (gi hk (gi ho (gi fg fM))) ?_;exact fin1 (U':=O) ⟨by rw[hb],rfl⟩
   ·have hb:AI (A0 p) l=true:=AE.2 ⟨ff,by rw[ck j0]at hI;exact hI⟩;refine gz ?_;exact fin1 (U':=O) ⟨by rw[hb],rfl⟩
@[reducible,instance] def a45:=fun p l o O=>ah3 (@IT p l o O)
def kR(w:jY)(x:jF)(c:Int)(q:Nat):List jH:=(Bn w x c).ac.take q++(w.fresh c).drop q
def Cf(w:jY)(x:jF)(c:Int)(h:(w.fresh c).length=(w.ac c).length):(Bn w x c).ac.length=(w.ac c).length:=by unfold Bn;simp[h]
def IX(w:jY)(x:jF)(c:Int)(h:(w.fresh c).length=(w.ac c).length)(q:Nat)(hq:q<=(w.ac c).length):(kR w x c q).length=(w.ac c).length:=by
 unfold kR;rw[aC,cF,cn,Cf w x c h,h];omega
def Mp(w:jY)(x:jF)(c:Int)(h:(w.fresh c).length=(w.ac c).length)(q:Nat)(hq:q<(w.ac c).length):(Bn w x c).ac[q]'(by rw[Cf w x c h];exact hq)=(if 0<=jj ((w.ac c)[q]) (w.ac x.jM) 0 then(x.ac[(jj ((w.ac c)[q]) (w.ac x.jM) 0).toNat]?).getD vZ else(w.fresh c)[q]'(by rw[h];exact hq)):=by
 unfold Bn;simp
def NM(w:jY)(x:jF)(c:Int)(h:(w.fresh c).length=(w.ac c).length)(q:Nat)(hq:q<(w.ac c).length):kR w x c (q+1)=(kR w x c q).set q ((Bn w x c).ac[q]'(by rw[Cf w x c h];exact hq)):=by
 unfold kR;have ht:q<(Bn w x c).ac.length:=by rw[Cf w x c h];exact hq
 rw[aU ht,List.set_append_right _ _ (by rw[cF];omega),aO]
 congr 1
 rw[show(w.fresh c).drop q=(w.fresh c)[q]'(by rw[h];exact hq)::(w.fresh c).drop (q+1) from A6 (by rw[h];exact hq),List.length_take_of_le j0,dB];rfl
def PO(w:jY)(x:jF)(c:Int)(h:(w.fresh c).length=(w.ac c).length)(q:Nat)(hq:q<(w.ac c).length):(kR w x c q)[q]? = some ((w.fresh c)[q]'(by rw[h];exact hq)):=by
 unfold kR;have ht:q<(Bn w x c).ac.length:=by rw[Cf w x c h];exact hq
 rw[bK (by rw[cF];omega),List.length_take_of_le j0,dB,A6 (l:=w.fresh c) (by rw[h];exact hq)];rfl
def Y0(w:jY)(x:jF)(c:Int):kR w x c 0=w.fresh c:=by unfold kR;simp
def PP(w:jY)(x:jF)(c:Int)(h:(w.fresh c).length=(w.ac c).length):kR w x c (w.ac c).length=(Bn w x c).ac:=by
 unfold kR;rw[<-h,List.drop_length,bl,ck (by rw[Cf w x c h,h];exact bU _)]
def TP(p:aw)(i1 i2:Nat)(x:jF)(c:Int)(rx:RW)(S0 O:Sig)(hp:p.wt<=1073741824)(hK:KnwS p i1 i2 S0 O)(hc:jT p c=true)(fG:jT p x.jM=true)(hn:(hasP p c).length<=1000000)(hx:jN O 2 rx (x.ac.map j5))(gb:∀es,rx=.full es->es=[])(gI:x.ac.length=(hasP p x.jM).length):
  ar prog 246 [cKnw p i1 i2,.agg [dI x.jM,rx.d x.ac.length],dI c] O fun y U'=> ∃r,y=.ret (.agg [dI c,r.d (Bn (A0 p) x c).ac.length])/\FrV O r (Bn (A0 p) x c).ac U':=by
 obtain⟨hS,fa,hm2⟩:=hK;have fy:=M3 p c;have d7:=hc;unfold jT at d7 fG;simp only[aF,aH]at d7 fG;obtain⟨j,hj⟩:∃j:Nat,c=(j:Int)+3:=⟨(c-3).toNat,j0⟩;obtain⟨jx,gw⟩:∃j:Nat,x.jM=(j:Int)+3:=⟨(x.jM-3).toNat,j0⟩;obtain⟨g1,g2⟩:=LT p j p.aa.length j0;obtain⟨g3,g4⟩:=LT p jx p.aa.length j0;rw[<-hj]at g1 g2;rw[<-gw]at g3 g4;have b7:hitD tab 23 false (D3 (.int .i64) (.int .i64 c) (eIO (mp1 p p.aa.length)) 0)=some (sl (cI (hasP p c))):=by rw[Wu,g1,g2];rfl
 have eU:hitD tab 23 false (D3 (.int .i64) (.int .i64 x.jM) (eIO (mp1 p p.aa.length)) 0)=some (sl (cI (hasP p x.jM))):=by rw[Wu,g3,g4];rfl
 have gD:=Ce p x.jM;have gc:=Db p
 by_cases he:hasP p c=[]
 ·have fZ:(A0 p).fresh c=[]:=bf.1 (by rw[fy,he];rfl);have fD:(Bn (A0 p) x c).ac=[]:=bf.1 (by rw[Cf _ x c fy];show(hasP p c).length=0;rw[he];rfl);rw[he]at b7;unfold cKnw;refine en func246 ntmps246 ?_;refine gz ?_ o246 [6];refine je (fun i6 d6=>?_);have n1:i1≠i6:=fun e=>by rw[<-e,fa]at d6;cases d6
  have fQ:KnwS p i1 i2 S0 (O.set i6 (.cells [.int .i64 0,.aj])):=⟨fun j o hj=>(hS.set (hS.none d6)) j o hj,j2 n1 fa,by rw[w7 _ _ fun e=>by rw[e,d6]at hm2;cases hm2];exact hm2⟩;refine gz ?_ o246 [6];refine A3 (JU p i1 i2 c S0 _ hp fQ hc hn) (fun d S1 hr=>?_) (fun d S1 hr=>by obtain⟨_,h,_⟩:=hr;cases h);obtain⟨r,hd,hF⟩:=hr;have eZ:=(hF.2.1 i1 _ ((w7 _ _ n1).trans fa) id);have o6:=(hF.2.1 i6 _ (w6 ..) id);have fR:FrV (O.set i6 (.cells [.int .i64 0,.aj])) r (Bn (A0 p) x c).ac S1:=by rw[fD,<-fZ];exact hF
  have fC:=fR.set d6;cases hd;rw[fZ];rcases r with _|es|⟨i,c',cs⟩
  ·refine gf (gi eZ.1 b7) ?_ o246 [6];refine Bz [0,4,6,7,19,20,47] (fun (q:Nat)=>True) (fun _=>[(21,dI 0)]) (fun _=>S1) (fun _=>1) (0) (by trivial) (fun q hI=>?_);refine gf o6.1 ?_ o246 [6];exact jp (U':=S1.set i6 (.cells [dI c,.aj])) ⟨.nil,by rw[fD],fC _⟩
  ·refine gf (gi eZ.1 b7) ?_ o246 [6];refine Bz [0,4,6,7,19,20,47] (fun (q:Nat)=>True) (fun _=>[(21,dI 0)]) (fun _=>S1) (fun _=>1) (0) (by trivial) (fun q hI=>?_);refine gf o6.1 ?_ o246 [6];exact jp (U':=S1.set i6 (.cells [dI c,.slice es .clip])) ⟨.full es,by rw[fD],fC _⟩
  ·refine gf (gi eZ.1 b7) ?_ o246 [6];refine Bz [0,4,6,7,19,20,47] (fun (q:Nat)=>True) (fun _=>[(21,dI 0)]) (fun _=>S1) (fun _=>1) (0) (by trivial) (fun q hI=>?_);refine gf o6.1 ?_ o246 [6];exact jp (U':=S1.set i6 (.cells [dI c,.am i 0 0 c'])) ⟨.row i c' cs,by rw[fD],fC _⟩
 ·unfold cKnw;refine en func246 ntmps246 ?_;refine gz ?_ o246 [6];refine je (fun i6 d6=>?_);have n1:i1≠i6:=fun e=>by rw[<-e,fa]at d6;cases d6
  have fQ:KnwS p i1 i2 S0 (O.set i6 (.cells [.int .i64 0,.aj])):=⟨fun j o hj=>(hS.set (hS.none d6)) j o hj,j2 n1 fa,by rw[w7 _ _ fun e=>by rw[e,d6]at hm2;cases hm2];exact hm2⟩;refine gz ?_ o246 [6];refine A3 (JU p i1 i2 c S0 _ hp fQ hc hn) (fun d S1 hr=>?_) (fun d S1 hr=>by obtain⟨_,h,_⟩:=hr;cases h);obtain⟨r,hd,hF⟩:=hr;cases hd
  have gk:∃i c' cs,r=.row i c' cs:=by
   rcases r with _|es|⟨i,c',cs⟩
   ·have:=hF.1;exact absurd (show((A0 p).fresh c).map j5=[] from this) (by intro h;have:=bn List.length h;rw[aN,fy]at this;exact he (bf.1 this))
   ·have:=hF.1.1;rw[hF.2.2 es rfl]at this;exact absurd this (by intro h;have:=bn List.length h;rw[aN,fy]at this;exact he (bf.1 this))
   ·exact⟨i,c',cs,rfl⟩
  obtain⟨i,c',cs,rfl⟩:=gk;have eZ:=(hF.2.1 i1 _ ((w7 _ _ n1).trans fa) id);have o6:=(hF.2.1 i6 _ (w6 ..) id);refine gf (gi eZ.1 b7) ?_ o246 [6];have hw:((A0 p).fresh c).length=((A0 p).ac c).length:=fy;have gN:(hasP p x.jM).length<=1073741824:=by omega
  refine BO [0,4,6,7,19,20,47] (fun (q:Nat) (S4:Sig)=>q<=(hasP p c).length/\jN S4 2 (.row i c' cs) ((kR (A0 p) x c q).map j5) /\ ∀j o,S1 j=some o->j≠i->S4 j=some o) (fun q _=>[(21,dI q)]) (fun _ S4=>S4) (fun q _=>(hasP p c).length-q) (0) (S1) (by exact⟨cE _,by rw[Y0];exact hF.1,fun _ _ h _=>h⟩) (fun q S4 hI=>?_);obtain⟨go,hR,fh⟩:=hI;have fW:=fh i1 _ eZ.1 (fun e=>eZ.2 e)
  by_cases fo:q<(hasP p c).length
  ·have fS:q<(Bn (A0 p) x c).ac.length:=by rw[Cf _ x c hw];exact fo
   have eX:=Mp (A0 p) x c hw q fo;have f8:=IX (A0 p) x c hw q go;have f7:=NM (A0 p) x c hw q fo;have f9:=PO (A0 p) x c hw q fo;change (Bn (A0 p) x c).ac[q]=(if 0<=jj ((hasP p c)[q]) (hasP p x.jM) 0 then(x.ac[(jj ((hasP p c)[q]) (hasP p x.jM) 0).toNat]?).getD vZ else _)at eX;change (kR (A0 p) x c q).length=(hasP p c).length at f8
   by_cases eY:0<=jj ((hasP p c)[q]) (hasP p x.jM) 0
   ·rw[aG eY]at eX;obtain⟨k,hk⟩:∃k:Nat,jj ((hasP p c)[q]) (hasP p x.jM) 0=k:=⟨(jj ((hasP p c)[q]) (hasP p x.jM) 0).toNat,j0⟩;obtain⟨m1,m2⟩:=Fs (s:=(hasP p c)[q]) (hasP p x.jM) 0 eY;have d5:k<x.ac.length:=by omega
    rw[hk,bF,aD d5,ba]at eX
    obtain⟨ix,cx,csx,gj,Lx,y1,y2,y3⟩:=rowV (R:=fun _=>rx) (a:=0) hx (fun e=>by
     have e':rx=.nil:=e
     rw[e']at hx
     have:=bn List.length (show x.ac.map j5=[] from hx)
     simp at this;rw[this]at d5;simp at d5) gb d5
    have fI:rx=.row ix cx csx:=gj;subst fI;obtain⟨y4,y5⟩:=hF.2.1 ix _ ((w7 _ _ fun e=>by rw[e,d6]at y1;cases y1).trans y1) id;have y6:=fh ix _ y4 (fun e=>y5 e);obtain⟨L,hL⟩:∃L,L=((kR (A0 p) x c q).map j5).flatten++cs:=⟨_,rfl⟩;have z1:S4 i=some (.cells L):=by rw[hL];exact hR.1
    have fP:L.length=(kR (A0 p) x c q).length*2+cs.length:=by rw[hL,Dr]
    have hf:¬L.length<q*2+2:=by omega
    have fi:=LG (kR (A0 p) x c q) q j0 (x.ac[k]) cs;rw[<-hL,<-eX,<-f7,eX,aO]at fi;have fB:=IX (A0 p) x c hw (q+1) fo;change (kR (A0 p) x c (q+1)).length=(hasP p c).length at fB
    have eW:jN (S4.set i (.cells (List.take (q*2) L++(j5 (x.ac[k])++List.drop (q*2+2) L)))) 2 (.row i c' cs) ((kR (A0 p) x c (q+1)).map j5):=by
     obtain⟨b1,b2,b3,b4⟩:=hR;refine⟨by rw[w6,fi],?_,by rw[aN,fB];rw[aN,f8]at b3;exact b3,Az⟩;rw[Dr]at b2⊢;omega
    refine gf (gi fW (gi eU (gi hk (gi y6 (gi y2 (gi y3 (gi z1 hf))))))) ?_ o246 [6];exact⟨q+1,S4.set i (.cells (List.take (q*2) L++(j5 (x.ac[k])++List.drop (q*2+2) L))),⟨j0,eW,fun j o hj c9=>by rw[w7 _ _ c9];exact fh j o hj c9⟩,td1,wkR⟩
   ·rw[aE eY]at eX
    have fj:kR (A0 p) x c (q+1)=kR (A0 p) x c q:=by
     rw[f7,eX];rw[aD j0]at f9;rw[<-Option.some.inj f9,List.set_getElem_self]
    refine gf (gi fW eU) ?_ o246 [6];exact⟨q+1,S4,⟨j0,by rw[fj];exact hR,fh⟩,td1,wkR⟩
  ·obtain rfl:q=(hasP p c).length:=by omega
   have fO:=PP (A0 p) x c hw;rw[show kR (A0 p) x c (hasP p c).length=(Bn (A0 p) x c).ac from fO]at hR;have o7:=fh i6 _ o6.1 (fun e=>o6.2 e)
   have fR:FrV (O.set i6 (.cells [.int .i64 0,.aj])) (.row i c' cs) (Bn (A0 p) x c).ac S4:=⟨hR,fun j o hj _=>by
    obtain⟨b1,b2⟩:=hF.2.1 j o hj id
    exact⟨fh j o b1 (fun e=>b2 e),b2⟩,fun es h=>by cases h⟩
   have fC:=fR.set d6;have fS:(Bn (A0 p) x c).ac.length=((A0 p).fresh c).length:=by rw[Cf _ x c hw,hw]
   refine gf o7 ?_ o246 [6];exact jp (U':=S4.set i6 (.cells [dI c,.am i 0 ((A0 p).fresh c).length c'])) ⟨.row i c' cs,by rw[fS],fC _⟩
def Wx(es:eR)(h2:∀c∈es,c.length=2)(k:Nat)(hk:k<es.length)(e:eO)(cs:eO):List.take (k*2) (es.flatten++cs)++e++List.drop (k*2+2) (es.flatten++cs)=(es.set k e).flatten++cs:=by
 have e0:es=es.take k++es[k]::es.drop (k+1):=by rw[<-A6 hk,cf]
 have h:(es.take k).flatten.length=k*2:=by rw[Aj fun c hc=>h2 c (List.mem_of_mem_take hc),List.length_take_of_le j0]
 have hl:(es[k]).length=2:=h2 _ (aK hk);have hs:es.set k e=es.take k++e::es.drop (k+1):=by rw[bL,aG hk]
 have e2:es.flatten++cs=(es.take k).flatten++(es[k]++((es.drop (k+1)).flatten++cs)):=by
  calc _=(es.take k++es[k]::es.drop (k+1)).flatten++cs:=by rw[<-e0]
   _=_:=by rw[bt,br];simp only[aO]
 have e3:(es.set k e).flatten++cs=(es.take k).flatten++(e++((es.drop (k+1)).flatten++cs)):=by
  rw[hs,bt,br];simp only[aO]
 rw[e2,e3,<-h,List.take_left,<-List.drop_drop,List.drop_left,aO,<-hl,List.drop_left]
def O8(S S':Nat->RW)(l:List jF)(m:Nat)(hm:m<l.length)(x:jF)(h:∀k,k≠m->S' k=S k):jC S' (l.set m x)=(jC S l).set m [dI x.jM,(S' m).d x.ac.length]:=by
 refine cD fun k=>?_
 by_cases hk:k<l.length
 ·rw[B4 S' (l.set m x) k (by simpa using hk)]
  by_cases e:k=m
  ·subst e;rw[List.getElem_set_self,List.getElem?_set_self (by rw[A4];exact hk)]
  ·rw[List.getElem_set_ne (fun h=>e h.symm),List.getElem?_set_ne (fun h=>e h.symm),B4 S l k hk,h k e]
 ·rw[aX (by rw[A4];simp;omega),aX (by simp[A4];omega)]
def ThS.row{R:Nat->RW}{l:List jF}{S0 O:Sig}(h:ThS R l S0 O)(hl:0<l.length): ∃i c cs,R 3=.row i c cs:=by
 have hk:=h.row3;cases hR:R 3 with
 |nil=>rw[hR]at hk;have:=bn List.length (show jC (fun k=>R (k+4)) l=[] from hk);rw[A4]at this;simp at this;rw[this]at hl;simp at hl
 |full es=>rw[hR]at hk;have:=bn List.length hk.1;rw[A4,h.nf 3 es hR]at this;simp at this;rw[this]at hl;simp at hl
 |row i c cs=>exact⟨i,c,cs,rfl⟩
def ThS.turn{R:Nat->RW}{l:List jF}{S0 O S3:Sig}(h:ThS R l S0 O){m:Nat}(hm:m<l.length){x:jF}{r:RW}(hF:FrV O r x.ac S3){i c:Nat}{cs:eO}(hi:R 3=.row i c cs){L:eO}(hL:L=(jC (fun k=>R (k+4)) l).flatten++cs):
  ThS (jK R (m+4) r) (l.set m x) S0 (S3.set i (.cells (L.take (m*2)++[dI x.jM,r.d x.ac.length]++L.drop (m*2+2)))):=by
 obtain⟨f1,f2,f3⟩:=hF;have e2:rSz (m+4)=2:=by unfold rSz;rw[aE j0]
 have u1:=h.rows.upd (a:=m+4) (r':=r) (by rw[e2];exact f1) (fun j o hj _=>f2 j o hj id);have h3:jK R (m+4) r 3=.row i c cs:=by rw[A1 _ _ j0,hi]
 have fv:(jK R (m+4) r 3).is i:=by rw[h3];rfl
 have q3:=h.row3;rw[hi]at q3;obtain⟨z1,z2,z3,z4⟩:=q3
 have ht:jC (fun k=>jK R (m+4) r (k+4)) (l.set m x)=(jC (fun k=>R (k+4)) l).set m [dI x.jM,r.d x.ac.length]:=by
  rw[O8 (fun k=>R (k+4)) _ l m hm x fun k hk=>A1 _ _ j0];simp only[Ab]
 have gE:=Wx (jC (fun k=>R (k+4)) l) BJ m (by rw[A4];exact hm) [dI x.jM,r.d x.ac.length] cs;subst hL;rw[gE]
 have fE:(((jC (fun k=>R (k+4)) l).set m [dI x.jM,r.d x.ac.length]).flatten++cs).length=((jC (fun k=>R (k+4)) l).flatten++cs).length:=by
  rw[<-ht,aC,aC,Aj BJ,Aj BJ,A4,A4,bP]
 refine⟨⟨fun a=>?_,u1.dj⟩,fun a ha=>by rw[A1 _ _ j0];exact h.lo a ha,fun a es he=>?_,fun j o hj=>?_⟩
 ·by_cases ea:a=3
  ·subst ea;rw[h3]
   show jN _ 2 _ (jC (fun k=>jK R (m+4) r (k+4)) (l.set m x));refine⟨by rw[w6,ht],by rw[ht,fE];exact z2,by rw[A4,bP];rw[A4]at z3;exact z3,BJ⟩
  ·have e:rCt (jK R (m+4) r) ⟨l.set m x,[],0,[],[]⟩ a=jK (rCt R ⟨l,[],0,[],[]⟩) (m+4) (x.ac.map j5) a:=by
    match a with
    |0=>rw[A1 _ _ j0];rfl
    |1=>rw[A1 _ _ j0];rfl
    |2=>rw[A1 _ _ j0];rfl
    |3=>exact absurd rfl ea
    |k+4=>
     show(((l.set m x)[k]?).getD ⟨0,[]⟩).ac.map j5=_
     by_cases ek:k=m
     ·subst ek;rw[Ab,List.getElem?_set_self hm];rfl
     ·rw[A1 _ _ j0,List.getElem?_set_ne (fun h=>ek h.symm)];rfl
   rw[e];exact(u1.ok a).keep fun j o hj d8=>by rw[w7 _ _ fun e2=>ea (u1.dj a 3 j d8 (by rw[e2];exact fv))];exact hj
 ·by_cases e4:a=m+4
  ·subst e4;rw[Ab]at he;exact f3 es he
  ·rw[A1 _ _ e4]at he;exact h.nf a es he
 ·obtain⟨k1,k2⟩:=h.keep j o hj;obtain⟨k3,k4⟩:=f2 j o k1 id;refine⟨by rw[w7 _ _ fun e=>k2 3 (by rw[hi,e];rfl)];exact k3,fun a ha=>?_⟩
  by_cases e4:a=m+4
  ·subst e4;rw[Ab]at ha;exact k4 ha
  ·rw[A1 _ _ e4]at ha;exact k2 a ha
def storeTh{ir:Nat}{O:Sig}{ro:Ro}{n:Nat}{ops:Array Oper}{Q:DX->St->Prop}{df:List DDf}{rest:List Oper}{γ Sr:Fr}{ty:TypeId}{pos:String}{after:Array Edge}{x y:Operand}{ds:eO}{r1:RW}{a:Int}{m k:Nat}(hc:O ir=some (.cells ds))(h:au prog ro n ops Q rest ⟨γ,O.set ir (.cells (ds.take k++[dI a,r1.d m]++ds.drop (k+2))),df⟩)
  (hl:A5 γ (Aa [x,y])=some Sr:=by exact tdR) (h1:ev Sr x=.ptr ir k:=by exact tdR) (h2:ev Sr y=.agg [dI a,r1.d m]:=by exact tdR) (hlen:k+2<=ds.length:=by simp) :
  au prog ro n ops Q (⟨none,.store 131 x y,ty,pos,after,none⟩::rest) ⟨γ,O,df⟩:=
 FR jB (d:=.any) hl (by show EP tab O 131 (ev Sr x) (ev Sr y)=_;rw[h1,h2];exact VQ hc hlen) h
def Uk(p:aw)(l:List jF)(o:Own)(m:Nat)(c:Int)(O:Sig)(hp:p.wt<=1073741824)(hk:okP p=true)(hh:∀c,(hasP p c).length<=1000000)(hm:m<l.length)(fp:AI (A0 p) l=true)(hc:jT p c=true):ar prog 182 [.agg (A7 p),.slice (l.map cTh) o,dI m,dI c] O fun y U'=> ∃R,y=.ret (.tup [(R 3).d l.length,dI 0])/\ThS R (l.set m (Bn (A0 p) l[m] c)) O U':=by
 obtain⟨o1,o2⟩:=AE.1 fp
 have hs:∀x∈l,x.ac.length<=1000000:=fun x hx=>by
  rw[(o2 x hx).2.1];exact hh x.jM
 obtain⟨u1,u2,u3⟩:=o2 _ (aK hm);have fG:jT p (l[m]).jM=true:=by have:(jT p (l[m]).jM&&okP p)=true:=u1;simp only[aF]at this;exact this.1
 refine en func182 ntmps182 ?_
 repeat' first|refine gf (gi hc (gi hk fp)) ?_|refine DZ (IT p l o O j0 j0 (fun x hx=>by have:=hs x hx;omega)) ?_|refine callPG (IT p l o O j0 j0 (fun x hx=>by have:=hs x hx;omega)) ?_|refine gf (gi hc (gi hk fp)) ?_ o182|apply gy<;>intro hh
 refine A3 (TQ l o O j0 hs) (fun d S1 hr=>?_) (fun d S1 hr=>by obtain⟨_,h,_⟩:=hr;cases h);obtain⟨R1,hd,hT⟩:=hr;obtain⟨i,c1,cs,h3⟩:=hT.row j0;cases hd;have q3:=hT.row3;rw[h3]at q3;obtain⟨y1,y2⟩:=IR (BJ (S:=fun k=>R1 (k+4)) (l:=l)) (B4 _ _ m hm) cs;obtain⟨L,hL⟩:∃L,L=(jC (fun k=>R1 (k+4)) l).flatten++cs:=⟨_,rfl⟩;have z1:S1 i=some (.cells L):=by rw[hL];exact q3.1
 rw[<-hL]at y1 y2
 have fP:m*2+2<=L.length:=by
  rw[hL,aC,Aj BJ,A4];omega
 have gh:List.take 2 (List.drop (m*2) L)=[dI (l[m]).jM,(R1 (m+4)).d (l[m]).ac.length]:=by
  refine cD fun k=>?_
  match k with
  |0=>rw[cC j0,cm,dM];exact y1
  |1=>rw[cC j0,cm];exact y2
  |k+2=>rw[aX (by simp;omega),aX j1]
 rw[h3];refine gz ?_;refine CH (id:=5) [0,1,2,4,5,6,7,8,3,9,10] [3,9] S1 (Sub.refl _) ?_;refine gf (gi z1 (gi fP gh)) ?_ o182;refine AX (Nf p S1 hp hk) (fun d S2 hr=>?_) (fun d S2 hr=>by obtain⟨_,_,h,_⟩:=hr;cases h);obtain⟨i1,i2,hd,hK⟩:=hr;cases hd;refine⟨hK.1,?_⟩
 have hx:jN S2 2 (R1 (m+4)) ((l[m]).ac.map j5):=by
  have q:=hT.rows.ok (m+4);rw[show rSz (m+4)=2 by unfold rSz;rw[aE j0],show rCt R1 ⟨l,[],0,[],[]⟩ (m+4)=(l[m]).ac.map j5 by show((l[m]?).getD ⟨0,[]⟩).ac.map j5=_;rw[aD hm];rfl]at q;exact q.keep fun j o hj _=>hK.1 j o hj
 refine AX (TP p i1 i2 l[m] c (R1 (m+4)) S1 S2 hp hK hc fG (hh c) hx (hT.nf _) u2) (fun d S3 hr=>?_) (fun d S3 hr=>by obtain⟨_,h,_⟩:=hr;cases h);obtain⟨r,hd,hF⟩:=hr;cases hd;refine⟨fun j o hj=>(hF.2.1 j o (hK.1 j o hj) id).1,?_⟩;refine gz ?_ o182;have fH:FrV S1 r (Bn (A0 p) l[m] c).ac S3:=⟨hF.1,fun j o hj _=>hF.2.1 j o (hK.1 j o hj) id,hF.2.2⟩;have z3:S3 i=some (.cells L):=(fH.2.1 i _ z1 id).1;have gG:=hT.turn hm (x:=Bn (A0 p) l[m] c) fH h3 hL;refine storeTh (r1:=r) z3 ?_ (hlen:=fP);refine gz ?_ o182;exact kM (U':=_) ⟨_,by rw[A1 _ _ j0,h3,Cz],gG⟩
def mixC(S:Nat->RW)(l:List jF)(k:Nat):eR:=(l.take k).map cTh++(jC S l).drop k
def SX{n:Nat}{γ:Fr}{df:List DDf}{O:Sig}{S:Nat->RW}{l:List jF}{i:Nat}{cs:eO}(hi:O i=some (.cells ((jC S l).flatten++cs)))(hS:∀k (h:k<l.length),jN O 2 (S k) ((l[k]).ac.map j5))(b9:∀k, ¬(S k).is i)(f0:∀a b j,(S a).is j->(S b).is j->a=b):
  ∀k,k<=l.length->∃U',Wk prog n ⟨γ,O,df⟩ ⟨γ,U',df⟩/\U' i=some (.cells ((mixC S l k).flatten++cs)) /\ ∀j o,O j=some o->j≠i->(∀q,q<k->¬(S q).is j)->U' j=some o
 |0,_=>⟨O,Wk.refl _ _ _,by unfold mixC;simpa using hi,fun j o h _ _=>h⟩
 | k+1,hk=>by
  obtain⟨S1,w1,o1,k1⟩:=SX hi hS b9 f0 k j0;have d5:k<l.length:=by omega
  have hr:jN S1 2 (S k) ((l[k]).ac.map j5):=(hS k d5).keep fun j o hj fY=>k1 j o hj (fun e=>b9 k (e ▸ fY)) (fun q hq fN=>by have:=f0 q k j fN fY;omega)
  have fA:(jC S l).drop k=[dI (l[k]).jM,(S k).d (l[k]).ac.length]::(jC S l).drop (k+1):=by
   have fE:k<(jC S l).length:=by rw[A4];exact d5
   rw[A6 fE];have:=B4 S l k d5;rw[aD fE]at this;rw[Option.some.inj this]
  have e1:(mixC S l k).flatten++cs=(((l.take k).map cTh).flatten++[dI (l[k]).jM])++(S k).d ((l[k]).ac.map j5).length::(((jC S l).drop (k+1)).flatten++cs):=by
   unfold mixC;rw[fA,bt,br,aN];simp only[aO,bH,bG]
  have e2:(mixC S l (k+1)).flatten++cs=(((l.take k).map cTh).flatten++[dI (l[k]).jM]) ++ .slice ((l[k]).ac.map j5) .no::(((jC S l).drop (k+1)).flatten++cs):=by
   unfold mixC;rw[aU d5,bz,bt,bt];simp only[bd,bX,br,eC,bl,aO,bH,bG,cTh]
  rw[e1]at o1;obtain⟨S2,w2,o2,k2⟩:=B5 (P:=prog) (n:=n) (γ:=γ) (df:=df) hr o1 (b9 k);refine⟨S2,w1.trans w2,by rw[e2];exact o2,fun j o hj c9 hq=>k2 j o (k1 j o hj c9 fun q gK=>hq q j0) c9 (hq k j0)⟩
def Wj(S:Nat->RW)(l:List jF):mixC S l l.length=l.map cTh:=by
 unfold mixC;rw[cH,dk (by rw[A4];exact bU _),bl]
def JI{n:Nat}{γ:Fr}{df:List DDf}{O:Sig}{R:Nat->RW}{s:GoS}{ir:Nat}{a0 b0:eO}(hR:Rows O R rSz (rCt R s))(b9:∀a, ¬(R a).is ir)(fK:∀es,R 3=.full es->es=[])(hi:O ir=some (.cells (a0++(R 3).d s.j3.length::b0))):
  ∃U',Wk prog n ⟨γ,O,df⟩ ⟨γ,U',df⟩/\U' ir=some (.cells (a0 ++ .slice (s.j3.map cTh) .no::b0)) /\ ∀j o,O j=some o->j≠ir->(∀q,3<=q->¬(R q).is j)->U' j=some o:=by
 have q3:jN O 2 (R 3) (jC (fun k=>R (k+4)) s.j3):=hR.ok 3
 have gH:∀k (h:k<s.j3.length),jN O 2 (R (k+4)) ((s.j3[k]).ac.map j5):=fun k h=>by
  have q:=hR.ok (k+4);rw[show rSz (k+4)=2 by unfold rSz;rw[aE j0],show rCt R s (k+4)=(s.j3[k]).ac.map j5 by show((s.j3[k]?).getD ⟨0,[]⟩).ac.map j5=_;rw[aD h];rfl]at q;exact q
 by_cases h0:s.j3=[]
 ·rw[h0]at q3 hi⊢;obtain⟨S2,w2,o2,k2⟩:=B5 (P:=prog) (n:=n) (γ:=γ) (df:=df) (es:=[]) (r:=R 3) (i:=ir) q3 hi (b9 3);exact⟨S2,w2,o2,fun j o hj c9 hq=>k2 j o hj c9 (hq 3 j0)⟩
 ·have gq:0<s.j3.length:=de.2 h0;cases h3:R 3 with
  |nil=>rw[h3]at q3;have:=bn List.length (show jC (fun k=>R (k+4)) s.j3=[] from q3);rw[A4]at this;simp at this;exact absurd this h0
  |full es=>rw[h3]at q3;have:=bn List.length q3.1;rw[A4,fK es h3]at this;simp at this;exact absurd this h0
  | row i c cs =>
   rw[h3]at q3 hi;obtain⟨z1,z2,z3,z4⟩:=q3;have fv:(R 3).is i:=by rw[h3];rfl
   have hne:ir≠i:=fun e=>b9 3 (e ▸ fv);obtain⟨S1,w1,o1,k1⟩:=SX (n:=n) (γ:=γ) (df:=df) (S:=fun k=>R (k+4)) z1 gH (fun k h=>by have:=hR.dj _ _ _ h fv;omega) (fun a b j ha hb=>by have:=hR.dj _ _ _ ha hb;omega) s.j3.length (bU _);have gC:=k1 ir _ hi hne (fun q _=>b9 (q+4));rw[Wj]at o1;have fU:∀c∈s.j3.map cTh,c.length=2:=fun c hc=>by obtain⟨x,_,rfl⟩:=aZ.1 hc;rfl
   have hr:jN S1 2 (.row i c cs) (s.j3.map cTh):=⟨o1,by
    rw[aC,Aj fU,aN]
    rw[aC,Aj BJ,A4]at z2
    exact z2,by rw[aN];rw[A4]at z3;exact z3,fU⟩
   obtain⟨S2,w2,o2,k2⟩:=B5 (P:=prog) (n:=n) (γ:=γ) (df:=df) (i:=ir) hr (by rw[aN];exact gC) (fun h=>hne h);exact⟨S2,w1.trans w2,o2,fun j o hj c9 hq=>k2 j o (k1 j o hj (fun e=>hq 3 j0 (by rw[e];exact fv)) fun q _=>hq (q+4) j0) c9 (fun h=>hq 3 j0 (by rw[h3];exact h))⟩
def Da(R R':Nat->RW):Nat->RW:=fun a=>if a<3 then R a else R' a
def BY{R R':Nat->RW}{a:Nat}(h:a<3):Da R R' a=R a:=by unfold Da;rw[aG h]
def BZ{R R':Nat->RW}{a:Nat}(h:3<=a):Da R R' a=R' a:=by unfold Da;rw[aE j0]
section
variable {ir:Nat}{p:aw}{R:Nat->RW}{s:GoS}{O:Sig}
theorem jU.swap(h:jU ir p R s O){R':Nat->RW}{l:List jF}{S2 S3:Sig}{X ds:eO}(h2:∀j o,O j=some o->j≠ir->(∀q,3<=q->¬(R q).is j)->S2 j=some o)(gx:S2 ir=some (.cells X))(hT:ThS R' l S2 S3)(hd:ds=AY p (Da R R') { s with j3:=l }):
  jU ir p (Da R R') { s with j3:=l } (S3.set ir (.cells ds))/\jV ir R O (Da R R') (S3.set ir (.cells ds)):=by
 have fL:∀a,a<3->∀j o,O j=some o->(R a).is j->S2 j=some o:=fun a ha j o hj d8=>h2 j o hj (fun e=>h.ni a (e ▸ d8)) (fun q hq fN=>by have:=h.rows.dj a q j d8 fN;omega)
 have fu:=(hT.keep ir _ gx).2
 have b9:∀a, ¬(Da R R' a).is ir:=fun a=>by
  by_cases ha:a<3
  ·rw[BY ha];exact h.ni a
  ·rw[BZ j0];exact fu a
 refine⟨⟨by rw[w6,hd],⟨fun a=>?_,fun a b j ha hb=>?_⟩,b9,fun a es he=>?_⟩,fun j o hj c9 hn=>?_⟩
 ·by_cases ha:a<3
  ·have e:rCt (Da R R') { s with j3:=l } a=rCt R s a:=by
    match a with
    |0=>rfl
    |1=>rfl
    |2=>rfl
    |k+3=>omega
   rw[e,BY ha];exact(h.rows.ok a).keep fun j o hj d8=>by rw[w7 _ _ fun e2=>h.ni a (by rw[<-e2];exact d8)];exact(hT.keep j o (fL a ha j o hj d8)).1
  ·have e:rCt (Da R R') { s with j3:=l } a=rCt R' ⟨l,[],0,[],[]⟩ a:=by
    match a with
    |0=>omega
    |1=>omega
    |2=>omega
    |3=>
     show jC (fun k=>Da R R' (k+4)) l=jC (fun k=>R' (k+4)) l
     congr 1
    |k+4=>rfl
   rw[e,BZ j0];exact(hT.rows.ok a).keep fun j o hj d8=>by rw[w7 _ _ fun e2=>fu a (by rw[<-e2];exact d8)];exact hj
 ·by_cases h1:a<3<;>by_cases h3:b<3
  ·rw[BY h1]at ha;rw[BY h3]at hb;exact h.rows.dj a b j ha hb
  ·rw[BY h1]at ha;rw[BZ j0]at hb;obtain⟨z,hz⟩:=(h.rows.ok a).cells ha;exact absurd hb ((hT.keep j _ (fL a h1 j _ hz ha)).2 b)
  ·rw[BZ j0]at ha;rw[BY h3]at hb;obtain⟨z,hz⟩:=(h.rows.ok b).cells hb;exact absurd ha ((hT.keep j _ (fL b h3 j _ hz hb)).2 a)
  ·rw[BZ j0]at ha;rw[BZ j0]at hb;exact hT.rows.dj a b j ha hb
 ·by_cases ha:a<3
  ·rw[BY ha]at he;exact h.nf a es he
  ·rw[BZ j0]at he;exact hT.nf a es he
 ·have k2:=h2 j o hj c9 fun q _=>hn q;obtain⟨k3,k4⟩:=hT.keep j o k2;refine⟨j2 c9 k3,fun a ha=>?_⟩
  by_cases h1:a<3
  ·rw[BY h1]at ha;exact hn a ha
  ·rw[BZ j0]at ha;exact k4 a ha
theorem freezeD{ro:Ro}{n:Nat}{Q:DX->St->Prop}{c:Code}{γ:Fr}{df:List DDf}(a0 b0:eO)(hR:Rows O R rSz (rCt R s))(b9:∀a, ¬(R a).is ir)(fK:∀es,R 3=.full es->es=[])(hi:O ir=some (.cells (a0++(R 3).d s.j3.length::b0)))
  (h:∀U',U' ir=some (.cells (a0 ++ .slice (s.j3.map cTh) .no::b0))->(∀j o,O j=some o->j≠ir->(∀q,3<=q->¬(R q).is j)->U' j=some o)->DWp prog ro n c Q ⟨γ,U',df⟩):DWp prog ro n c Q ⟨γ,O,df⟩:=by
 obtain⟨S2,w,a,b⟩:=JI (n:=n) (γ:=γ) (df:=df) hR b9 fK hi;exact FH w (h S2 a b)
theorem UR(x:jI)(r:List jH)(v:jH)(hp:p.wt<=1073741824)(hk:okP p=true)(hh:∀c,(hasP p c).length<=1000000)(hc:jT p x.a=true)(hR:jU ir p R s O)(hs:s.jA=r++[v])(hn:s.jA.length<=1000000)(hv:okV s.j3.length v=true)(ho:AI (A0 p) s.j3=true):ar prog 110 [.ptr ir 0,.agg (cIns x)] O fun y U'=> ∃R',jV ir R O R' U' /\
  if v.kind=3 then y=.ret (.bool false)/\jU ir p R' { s with j3:=setObj s.j3 v.n (Bn (A0 p) (BG s.j3 v.n) x.a),jA:=r++[v] } U' else y=.ret (.bool true)/\l8 ir p R' { s with jA:=r } .aj false (Dv s 6 r) U':=by
 have hl:s.jA.length=r.length+1:=by rw[hs];simp
 refine en func110 ntmps110 ?_;refine gz ?_ o110;refine A3 (CJ r v hR hs hn) (fun d S1 hr=>?_);obtain⟨hd,R1,eW,ga⟩:=hr;cases hd
 by_cases h3:v.kind=3
 rotate_left
 ·refine gf h3 ?_ o110;refine A3 (HJ 6 r eW) (fun d S3 hr=>?_);obtain⟨hd,h1,h2⟩:=hr;cases hd;refine gz ?_ o110;exact fin1 (U':=S3) ⟨R1,ga.trans h2,by rw[aE h3];exact⟨rfl,h1⟩⟩
 ·obtain⟨w1,w2,w3⟩:=Dz ho hv h3;obtain⟨m,hm⟩:∃m:Nat,v.n=m:=⟨v.n.toNat,j0⟩;have fV:m<s.j3.length:=by omega
  have fp:BG s.j3 v.n=s.j3[m]:=by unfold BG;rw[hm,bF,aD fV];rfl
  refine gf h3 ?_;have q1:=eW.obj;refine freezeD (R:=R1) (s:={ s with jA:=r }) (ir:=ir) [dI 0,dI 0,dI 0,dI 0,.aj,dI 0,dI 0,.aj,.aj] ((R1 2).d s.jW.length::(A7 p++[dI s.pos,(R1 0).d r.length,(R1 1).d s.j7.length])) eW.rows eW.ni (eW.nf 3) (by rw[q1];simp[AY]) (fun S2 o2 k2=>?_);refine mixI (id:=4) (List.range 22) [14,21] [4,9] [14,21] (fun z=>z=S2) rfl ?_;refine iP (.ptr ir 0) ?_;refine iP (.ptr ir 0) ?_;refine iP (.ptr ir 0) ?_;refine iP (.ptr ir 11) ?_;refine iR (.agg (A7 p)) (fun z hz=>?_) ?_
  ·rw[hz];simp[o2]
  refine iP (.ptr ir 0) ?_;refine iP (.ptr ir 0) ?_;refine iP (.ptr ir 0) ?_;refine iP (.ptr ir 9) ?_;refine iR (.slice (s.j3.map cTh) .no) (fun z hz=>?_) ?_
  ·rw[hz];simp[o2]
  refine iP (.ak (j5 v) 1) ?_;refine iP (dI v.n) ?_;refine iP (.ak (cIns x) 1) ?_;refine iP (dI x.a) ?_;have eV:=Uk p s.j3 .no m x.a S2 hp hk hh fV ho hc;rw[<-hm]at eV;refine iW (fun _=>True) eV (fun d S3 hr=>?_) (fun d S3 hr=>by obtain⟨_,h,_⟩:=hr;cases h);obtain⟨R2,hd,hT⟩:=hr;obtain⟨i,c,cs,h4⟩:=hT.row (by rw[bP];omega);cases hd;refine⟨trivial,?_⟩;rw[h4];have o3:=(hT.keep ir _ o2).1;refine iP (.tup [.am i 0 s.j3.length c,dI 0]) ?_;refine iP (.am i 0 s.j3.length c) ?_;refine iP (dI 0) ?_;refine iP (.ptr ir 0) ?_;refine iP (.ptr ir 0) ?_;refine iP (.ptr ir 9) ?_;refine iS (d:=.any) (U':=S3.set ir (.cells ([dI 0,dI 0,dI 0,dI 0,.aj,dI 0,dI 0,.aj,.aj,.am i 0 s.j3.length c,(R1 2).d s.jW.length]++A7 p++[dI s.pos,(R1 0).d r.length,(R1 1).d s.j7.length]))) (fun _=>True) trivial ?_ (he:=by simp[o3]);refine iN ?_;refine gz ?_ o110;obtain⟨p1,p2⟩:=eW.swap k2 o2 hT rfl;refine drp (S3.set ir (.cells (AY p (Da R1 R2) { s with jA:=r,j3:=s.j3.set m (Bn (A0 p) s.j3[m] x.a) }))) ?_ (by unfold AY;rw[show Da R1 R2 3=R2 3 from rfl,h4,bP];exact Sub.refl _);refine A3 (BD v p1 (by simp;omega)) (fun d S4 hr=>?_);obtain⟨hd,R4,fc,fe⟩:=hr;cases hd
  have e5:setObj s.j3 v.n (Bn (A0 p) (BG s.j3 v.n) x.a)=s.j3.set m (Bn (A0 p) s.j3[m] x.a):=by unfold setObj;rw[fp,hm];rfl
  refine gz ?_ o110;exact fin1 (U':=S4) ⟨R4,(ga.trans p2).trans fe,by rw[aG h3,e5];exact⟨rfl,fc⟩⟩
end
def L8{f g:Nat->Option (Nat×Nat)}: ∀(ps:List (Nat×Value)) (cs:Array Value),(∀p∈ps,f p.1=g p.1)->Instr.fill f cs ps=Instr.fill g cs ps
 |[],cs,_=>rfl
 | (i,v)::ps,cs,h=>by
  rw[Instr.fill,Instr.fill,h (i,v) j1];cases g i with
  |none=>rfl
  |some q=>
   obtain⟨o,z⟩:=q;simp only;split
   ·rfl
   ·exact L8 ps _ fun p hp=>h p (by simp[hp])
section
variable {ro:Ro}{n:Nat}{ops:Array Oper}{Q:DX->St->Prop}{df:List DDf}{rest:List Oper}{γ:List (Nat×D)}{O:Sig}{t:Nat}{ty:TypeId}{pos:String}{after:Array Edge}
theorem bldA{T len e:Nat}{parts:Array (Nat×Operand)}{out:eO}(h:au prog ro n ops Q rest ⟨(t,.agg out)::γ,O,df⟩)(hk:(tab T).k=.array len e:=by(simp<;>rfl))(he:A2 (tab e).k=false:=by simp)(hp:parts.all (fun p=>decide (p.1<len))=true:=by rfl)
  (ho:QF tab ((List.range len).map fun i=>(i*(tab e).size,e)) (tab T).zero (parts.toList.map fun p=>(p.1,ev γ p.2))=some out) (gg:decide (t<n)=true:=by exact tdR):au prog ro n ops Q (⟨some t,.build T parts,ty,pos,after,none⟩::rest) ⟨γ,O,df⟩:=by
 refine Ct (fun d U'=>d=.agg out/\U'=O) rfl (fun c e=>by cases e) (Ag fun c e=>by cases e) (by simp only[Ax];exact gg) ?_ (fun d U' ⟨a,b⟩=>by subst a b;exact h);intro g w a hs hT;obtain⟨inf,desc,z,h1,h2,h3,h4,h5,h6,h7,h8,h9,gO⟩:=Cx (jB T) (by rw[hk];simp);obtain⟨inf',desc',z',g1,g2,g3,g4,g5,g6,g7,g8,g9,g10⟩:=Cx (jB e) (Ai he)
 have hz:jE g (tab T).zero z.cells.toList:=by
  rw[h9]
  exact AP j1 fun j x v e1 e2=>by
   rw[bA,e2]at e1;cases e1;exact Eo g v
 have fJ:∀l:List (Nat×Operand),jE g ((l.map fun p=>(p.1,ev γ p.2)).map (·.2)) ((l.map fun p=>(p.1,a.eval p.2)).map (·.2)):=fun l=>by
  induction l with
  |nil=>rfl
  |cons p l ih=>exact⟨_,_,rfl,As hT p.2,ih⟩
 obtain⟨r,gn,gm⟩:=JL (P:=prog) (tab:=tab) (g:=g) (fs:=(List.range len).map fun i=>(i*(tab e).size,e)) (places:=((List.range len).map fun i=>(i*(tab e).size,e)).map fun p=>(p.1,(tab p.2).size)) rfl (ps:=parts.toList.map fun p=>(p.1,a.eval p.2)) (cs:=z.cells) ho j1 (fJ _) hz;have hsz:inf'.size=(tab e).size:=by first|exact g4|exact g5|exact g6|exact g3|omega
 have hb:prog.built T (parts.toList.map fun p=>(p.1,a.eval p.2))=some r:=by
  unfold Program.built;rw[h1,Hd jB hk];simp only[h7,g1];rw[<-gn];refine L8 _ _ fun q hq=>?_;obtain⟨p,gr,rfl⟩:=aZ.1 hq
  have gv:p.1<len:=by
   have:=bW.1 hp p (by simpa using gr);simpa using this
  simp[gv,hsz]
 have:=run_build (P:=prog) w T (parts.map fun p=>(p.1,a.eval p.2)) r (by simpa using hb);refine⟨g,w,.agg r,.agg out,O,?_,.refl g,hs,⟨r.toList,j1,gm⟩,rfl,rfl⟩;simp only[execOp,aP];rw[this];rfl
end
def cActs:eO:=.ap::(((List.range' 105 9++[113,113,113]++List.range' 113 9):eQ).map fun f=>D.func (.func f) [] [])
def WY(O:Sig):ar prog 49 [] O (rS (.agg cActs) O):=by
 refine en func49 ntmps49 ?_;refine gz ?_ [] [0];refine je (fun i0 gM=>?_);refine gz ?_ [] [0];refine bldA (len:=22) (e:=108) (out:=cActs) ?_ (hp:=by simp) (ho:=by kernel_rfl);simp only[cActs,bd,bX];refine gz ?_ [] [0];exact jp (U':=O) ⟨rfl,rfl⟩
@[reducible,instance] def a49:=fun O=>ah0 (@WY O)
end Go.DL
