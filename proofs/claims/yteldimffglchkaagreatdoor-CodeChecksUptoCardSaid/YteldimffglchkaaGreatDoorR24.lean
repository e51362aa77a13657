/- A part of the proof. -/
import Derived.Test.YteldimffglchkaaGreatDoorR23
import Derived.Test.YteldimffglchkaaGreatDoorR12
set_option linter.all false
namespace Go.DL
open Go.Proofs.Tryz
open Go Go.Proofs
set_option maxHeartbeats 8000000
@[simp] theorem cInit_tk(x:Init):List.take 2 (HT x)=HT x:=rfl
theorem Hc(x:Init)(s:Int)(O:Sig):DCall prog 292 ([]++[.agg (HT x)]++[.cptr [dI s] 0]) O (rS (.bool (decide (x.slot=s))) O):=by
 refine en func292 ntmps292 ?_
 refine gz ?_
 exact fe1 trivial
theorem Hd(l:List Init)(p:Init->Bool)(g:Nat)(cap:List D)(o:Own)(O:Sig)(hl:l.length<=1073741824)(hg:∀v∈l,DCall prog g ([]++[.agg (HT v)]++cap) O (rS (.bool (p v)) O)):DCall prog 291 [.slice (l.map HT) o,.func (.func g) [] cap] O (rS (dI (idxF p l 0)) O):=by
 refine en func291 ntmps291 ?_
 refine gz ?_
 refine BV [0,1,7] (fun (k:Nat)=>k<=l.length/\idxF p l 0=idxF p (l.drop k) k) (fun k=>[(8,dI k)]) (fun _=>O) (fun k=>l.length-k) (0) (by simp) (fun k hI=>?_)
 obtain⟨hk,hR⟩:=hI
 by_cases h:k<l.length
 ·rw[A5 h,idxF]at hR
  repeat' first|refine Bg (hg (l[k]) (List.getElem_mem h)) ?_|refine callP (hg (l[k]) (List.getElem_mem h)) ?_|refine gz ?_|apply gy<;>intro hh
  ·rw[hh]at hR
   exact fe1 hR
  ·rw[hh]at hR
   exact⟨k+1,⟨by omega,hR⟩,td1,wkR⟩
 ·rw[A9 h,idxF]at hR
  refine gz ?_
  exact fe1 hR
theorem idxF_find{α:Type}(q:α->Bool): ∀(l:List α) (k:Nat),(idxF q l k = -1/\l.find? q=none) \/ ∃(j:Nat) (hj:j<l.length),idxF q l k=k+j/\l.find? q=some l[j]
 |[],_=>.inl ⟨rfl,rfl⟩
 | x::r,k=>by
  cases h:q x with
  |true=>exact .inr ⟨0,by simp,by rw[idxF,if_pos h];simp,by rw[List.find?_cons,h];rfl⟩
  |false=>
   rcases idxF_find q r (k+1)with⟨h1,h2⟩|⟨j,hj,h1,h2⟩
   ·exact .inl ⟨by rw[idxF,if_neg (by rw[h];simp)];exact h1,by rw[List.find?_cons,h];exact h2⟩
   ·exact .inr ⟨j+1,by simpa using hj,by rw[idxF,if_neg (by rw[h];simp),h1];push_cast;omega,by rw[List.find?_cons,h];exact h2⟩
theorem N7(m:List (Int×Int)): ∀l:List Int,(beginL m l).length<=l.length
 |[]=>Nat.le_refl _
 |s::r=>by
  have:=N7 m r
  rw[beginL];split
  ·simp only[List.length_cons];omega
  ·simp only[List.length_cons];omega
def eIT(m:List (Int×MThing)):List (D×D):=eM dI (fun x=>.agg (cTh x)) m
@[simp] theorem putIT(k c:Int)(l:List MVal)(m:List (Int×MThing)):D1 (.int .i64) (.int .i64 k) (.agg [.int .i64 c,.slice (l.map cVal) .no]) (eIT m)=some (eIT (putM k ⟨c,l⟩ m)):=O9 keyI (fun x=>.agg (cTh x)) k ⟨c,l⟩ m
theorem hitIT(k:Int)(m:List (Int×MThing))(h:hasM k m=true):hitD tab 131 false (CE (.int .i64) (.int .i64 k) (eIT m) 0)=some (.agg (cTh (getM ⟨0,[]⟩ k m))):=by
 have:=We (tab:=tab) (e:=131) keyI (fun x:MThing=>.agg (cTh x)) (z:=⟨0,[]⟩) rfl k m
 rw[h]at this
 exact this
def mp1(p:BProg):Nat->List (Int×List Int)
 |0=>[]
 |i+1=>putM ((i:Int)+3) (hasP p ((i:Int)+3)) (mp1 p i)
def mp2(p:BProg):Nat->List (Int×MThing)
 |0=>[]
 |i+1=>putM ((i:Int)+3) ⟨(i:Int)+3,(A2 p).fresh ((i:Int)+3)⟩ (mp2 p i)
theorem Ld(p:BProg)(j:Nat): ∀i,j<i->hasM ((j:Int)+3) (mp1 p i)=true/\getM [] ((j:Int)+3) (mp1 p i)=hasP p ((j:Int)+3)
 |0,h=>by omega
 | i+1,h=>by
  rw[mp1,H7,EV]
  by_cases e:j=i
  ·subst e;simp
  ·rw[if_neg (by omega)]
   obtain⟨h1,h2⟩:=Ld p j i (by omega)
   exact⟨by rw[h1];simp,h2⟩
theorem QE(p:BProg)(j:Nat): ∀i,j<i->hasM ((j:Int)+3) (mp2 p i)=true/\getM ⟨0,[]⟩ ((j:Int)+3) (mp2 p i)=⟨(j:Int)+3,(A2 p).fresh ((j:Int)+3)⟩
 |0,h=>by omega
 | i+1,h=>by
  rw[mp2,H7,EV]
  by_cases e:j=i
  ·subst e;simp
  ·rw[if_neg (by omega)]
   obtain⟨h1,h2⟩:=QE p j i (by omega)
   exact⟨by rw[h1];simp,h2⟩
def cKnw(p:BProg)(i1 i2:Nat):D:=.cptr (Ad p++[.map i1,.map i2]) 0
def KnwS(p:BProg)(i1 i2:Nat)(S0 O:Sig):Prop:=Sub S0 O/\O i1=some (.map (eIO (mp1 p p.classes.length)))/\O i2=some (.map (eIT (mp2 p p.classes.length)))
theorem frzC{ro:Ro}{n:Nat}{Q:DX->St->Prop}{df:List DDf}{γ:Fr}{O:Sig}{c:Code}{i sz:Nat}{r:RW}{es:List (List D)}(a0 b0:List D)(hm:RWAt O sz r es)(hi:O i=some (.cells (a0++r.d es.length::b0)))(ah:¬r.is i)
  (h:∀U',U' i=some (.cells (a0 ++ .slice es .no::b0))->(∀j o,O j=some o->j≠i->¬r.is j->U' j=some o)->DWp prog ro n c Q ⟨γ,U',df⟩):DWp prog ro n c Q ⟨γ,O,df⟩:=by
 obtain⟨S2,h1,h2,h3⟩:=BW (P:=prog) (n:=n) (γ:=γ) (df:=df) hm hi ah
 exact FL h1 (h S2 h2 h3)
theorem Mr(p:BProg)(O:Sig)(hp:p.wt<=1073741824)(hk:okP p=true):DCall prog 242 [.agg (Ad p)] O fun x U'=> ∃i1 i2,x=.ret (cKnw p i1 i2)/\KnwS p i1 i2 O U':=by
 obtain⟨p1,p2,p3,p4,p5,p6,p7⟩:=p.wt_le
 refine en func242 ntmps242 ?_
 refine gz ?_ o242 [6,11]
 refine newM (fun i1 h1=>?_)
 refine newM (fun i2 h2=>?_)
 have hne:i1≠i2:=fun e=>by rw[<-e,w6]at h2;cases h2
 have bW:O i2=none:=by rw[w7 _ _ fun e=>hne e.symm]at h2;exact h2
 refine gz ?_ o242 [6,11]
 refine BZ [1,2,3,20,82] (fun (k:Nat) (S2:Sig)=>k<=p.classes.length/\Sub O S2/\S2 i1=some (.map (eIO (mp1 p k)))/\S2 i2=some (.map (eIT (mp2 p k)))) (fun k _=>[(21,dI k)]) (fun _ S2=>S2) (fun k _=>p.classes.length-k) (0) ((O.set i1 (.map [])).set i2 (.map [])) (by exact⟨Nat.zero_le _,((Sub.refl _).set h1).set bW,by rw[w7 _ _ hne,w6];rfl,w6 ..⟩) (fun k S2 hI=>?_)
 obtain⟨ca,hS,au,hm2⟩:=hI
 by_cases ak:k<p.classes.length
 ·have aj:(ownF p ((k:Int)+3)&&okP p)=true:=by unfold ownF;rw[hk];simp;omega
  have aT:Sub (S2.out fun j=>j=i1) (S2.set i1 (.map (eIO (putM ((k:Int)+3) (hasP p ((k:Int)+3)) (mp1 p k))))):=fun j o hj=>by
   obtain⟨a,b⟩:=Ej hj
   rw[w7 _ _ b];exact a
  have hC:Sub (S2.out fun j=>j=i1) S2:=D2 _ _
  refine gz ?_ (delO 6 o242) [6,11]
  refine Fx (id:=6) [0,1,2,3,4,5,6,7,8,9,10,11] [7,11] (S2.out fun j=>j=i1) (D2 _ _) ?_
  refine gf (gi au aj) ?_ o242 [6,11]
  obtain⟨S3,bi⟩:∃S3,S3=S2.set i1 (.map (eIO (putM ((k:Int)+3) (hasP p ((k:Int)+3)) (mp1 p k)))):=⟨_,rfl⟩
  rw[<-bi]
  have ap:S3 i1=some (.map (eIO (mp1 p (k+1)))):=by rw[bi,w6];rfl
  have aA:S3 i2=some (.map (eIT (mp2 p k))):=by rw[bi,w7 _ _ fun e=>hne e.symm];exact hm2
  have bF:Sub O S3:=fun j o hj=>by rw[bi,w7 _ _ fun e=>by rw[e,h1]at hj;cases hj];exact hS j o hj
  obtain⟨g1,g2⟩:=Ld p k (k+1) (by omega)
  have aa:hitD tab 23 false (CE (.int .i64) (.int .i64 ((k:Int)+3)) (eIO (mp1 p (k+1))) 0)=some (sl (cI (hasP p ((k:Int)+3)))):=by rw[UW,g1,g2];rfl
  have bC:=CD p ((k:Int)+3)
  have bI:=Dr p
  clear bi au hm2 aT hC
  refine newV (fun i6 h6=>?_)
  have n1:i1≠i6:=fun e=>by rw[<-e,ap]at h6;cases h6
  have n2:i2≠i6:=fun e=>by rw[<-e,aA]at h6;cases h6
  refine gf (gi ap (gi aA (gi aj aa))) ?_ o242 [6,11]
  obtain⟨hs,bB⟩:∃hs,hs=hasP p ((k:Int)+3):=⟨_,rfl⟩
  obtain⟨ini,aH⟩:∃ini,ini=EG p ((k:Int)+3):=⟨_,rfl⟩
  have bn:ini.length<=1073741824:=by rw[aH];unfold EG;have:=N7 (Ib p (linF (p.classes.map (·.parents)) ((k:Int)+3))) (hasP p ((k:Int)+3));omega
  rw[<-bB]at bC
  rw[<-bB,<-aH]
  refine Gb [1,2,3,4,5,6,7,8,20,21,22,23,24,25,26,27,28,29,30,31,32,33,34,35,36,37,38,39,40,41,42,43,44,45,46,47,48,49,50,51,75,76,77,78,79,80,81,82] (fun (q:Nat) (r:RW) (S4:Sig)=>q<=hs.length/\Sub S3 S4/\S4 i6=some (.cells [.int .i64 ((k:Int)+3),r.d q])/\RWAt S4 2 r ((hs.take q).map fun s=>cVal (frV ini s)) /\ ¬r.is i6 /\ ∀j,r.is j->S3 j=none) (fun q _ _=>[(52,dI q)]) (fun _ _ S4=>S4) (fun q _ _=>hs.length-q) (0) (.nil) (S3.set i6 (.cells [.int .i64 ((k:Int)+3),.nils])) (by exact⟨Nat.zero_le _,(Sub.refl _).set h6,w6 .., rfl,id,fun _ h=>h.elim⟩) (fun q r S4 hI=>?_)
  obtain⟨bL,aK,o6,hR,bu,be⟩:=hI
  by_cases ay:q<hs.length
  ·have ac:((hs.take q).map fun s=>cVal (frV ini s)).length=q:=by simp;omega
   refine gf o6 ?_ o242 [6,11]
   refine newV (fun i11 cq=>?_)
   have ar:∀j o,S4 j=some o->j≠i11:=fun j o hj e=>by rw[e,cq]at hj;cases hj
   have n611:=ar _ _ o6
   rcases idxF_find (fun x:Init=>decide (x.slot=hs[q])) ini 0 with⟨hx,aJ⟩|⟨m,hm,hx,aJ⟩
   ·repeat' first|refine gf (gi o6 hx) ?_ [] [6,11]|refine Bg (Hd ini (fun x=>decide (x.slot=hs[q])) 292 [.cptr [dI hs[q]] 0] .no _ bn (fun v _=>Hc v hs[q] _)) ?_|refine callP (Hd ini (fun x=>decide (x.slot=hs[q])) 292 [.cptr [dI hs[q]] 0] .no _ bn (fun v _=>Hc v hs[q] _)) ?_|refine gf (gi o6 hx) ?_ o242 [6,11]|apply gy<;>intro hh
    refine xapp (new:=[cVal (EL)]) (es:=(hs.take q).map fun s=>cVal (frV ini s)) (fun j c cs S6 bj ax=>?_) (hR.keep fun j o hj aS=>by rw[w7 _ _ (ar j o hj)];exact hj) (hsz:=by simp) (h1:=by rw[ac];with_unfolding_all rfl) (hb:=by rw[ac];simp;omega) (hm2:=by rw[ac];simp;omega)
    rw[show((hs.take q).map fun s=>cVal (frV ini s))++[cVal (EL)]=(hs.take (q+1)).map fun s=>cVal (frV ini s) by rw[List.take_succ_eq_append_getElem ay,List.map_append];simp only[List.map_cons,List.map_nil];rw[show frV ini hs[q]=EL by unfold frV;rw[aJ]]]at bj
    rw[show((hs.take q).map fun s=>cVal (frV ini s)).length+[cVal (EL)].length=q+1 by rw[ac];rfl]
    obtain⟨k6,k7⟩:=ax i6 _ ((w7 _ _ n611).trans o6) bu
    have ae:∀x o,S3 x=some o->S6 x=some o /\ ¬(RW.row j c cs).is x:=fun x o hx=>ax x o (by rw[w7 _ _ (ar x o (aK x o hx))];exact aK x o hx) (fun h=>by rw[be x h]at hx;cases hx)
    have bD:∀x,(RW.row j c cs).is x->S3 x=none:=fun x hx=>by
     cases h:S3 x
     ·rfl
     ·exact absurd hx (ae x _ h).2
    refine gf k6 ?_ o242 [6,11]
    exact⟨q+1,.row j c cs,S6.set i6 (.cells [.int .i64 ((k:Int)+3),.sref j 0 (q+1) c]),⟨by omega,fun x o hx=>by rw[w7 _ _ (fun e=>by rw[e,h6]at hx;cases hx)];exact(ae x o hx).1,w6 .., bj.keep fun x o hx hj=>by rw[w7 _ _ (fun e=>by subst e;exact k7 hj)];exact hx,k7,bD⟩,td1,wkR⟩
   ·repeat' first|refine gf (gi o6 hx) ?_ [] [6,11]|refine Bg (Hd ini (fun x=>decide (x.slot=hs[q])) 292 [.cptr [dI hs[q]] 0] .no _ bn (fun v _=>Hc v hs[q] _)) ?_|refine callP (Hd ini (fun x=>decide (x.slot=hs[q])) 292 [.cptr [dI hs[q]] 0] .no _ bn (fun v _=>Hc v hs[q] _)) ?_|refine gf (gi o6 hx) ?_ o242 [6,11]|apply gy<;>intro hh
    refine xapp (new:=[cVal (vInt (ini[m]).n)]) (es:=(hs.take q).map fun s=>cVal (frV ini s)) (fun j c cs S6 bj ax=>?_) (hR.keep fun j o hj aS=>by rw[w7 _ _ (ar j o hj)];exact hj) (hsz:=by simp) (h1:=by rw[ac];with_unfolding_all rfl) (hb:=by rw[ac];simp;omega) (hm2:=by rw[ac];simp;omega)
    rw[show((hs.take q).map fun s=>cVal (frV ini s))++[cVal (vInt (ini[m]).n)]=(hs.take (q+1)).map fun s=>cVal (frV ini s) by rw[List.take_succ_eq_append_getElem ay,List.map_append];simp only[List.map_cons,List.map_nil];rw[show frV ini hs[q]=vInt (ini[m]).n by unfold frV;rw[aJ]]]at bj
    rw[show((hs.take q).map fun s=>cVal (frV ini s)).length+[cVal (vInt (ini[m]).n)].length=q+1 by rw[ac];rfl]
    obtain⟨k6,k7⟩:=ax i6 _ ((w7 _ _ n611).trans o6) bu
    have ae:∀x o,S3 x=some o->S6 x=some o /\ ¬(RW.row j c cs).is x:=fun x o hx=>ax x o (by rw[w7 _ _ (ar x o (aK x o hx))];exact aK x o hx) (fun h=>by rw[be x h]at hx;cases hx)
    have bD:∀x,(RW.row j c cs).is x->S3 x=none:=fun x hx=>by
     cases h:S3 x
     ·rfl
     ·exact absurd hx (ae x _ h).2
    refine gf k6 ?_ o242 [6,11]
    exact⟨q+1,.row j c cs,S6.set i6 (.cells [.int .i64 ((k:Int)+3),.sref j 0 (q+1) c]),⟨by omega,fun x o hx=>by rw[w7 _ _ (fun e=>by rw[e,h6]at hx;cases hx)];exact(ae x o hx).1,w6 .., bj.keep fun x o hx hj=>by rw[w7 _ _ (fun e=>by subst e;exact k7 hj)];exact hx,k7,bD⟩,td1,wkR⟩
  ·obtain rfl:q=hs.length:=by omega
   rw[List.take_length]at hR
   have ck:(hs.map fun s=>cVal (frV ini s))=((A2 p).fresh ((k:Int)+3)).map cVal:=by unfold A2;simp only[List.map_map];rw[<-bB,<-aH];rfl
   have hlen:(hs.map fun s=>cVal (frV ini s)).length=hs.length:=by simp
   refine frzC [.int .i64 ((k:Int)+3)] [] hR (by rw[hlen];exact o6) bu (fun S5 o5 bz=>?_)
   rw[ck]at o5
   have b9:S5 i2=some (.map (eIT (mp2 p k))):=bz i2 _ (aK _ _ aA) n2 (fun h=>by rw[be _ h]at aA;cases aA)
   have bN:S5 i1=some (.map (eIO (mp1 p (k+1)))):=bz i1 _ (aK _ _ ap) n1 (fun h=>by rw[be _ h]at ap;cases ap)
   have aT:Sub (S5.out fun j=>j=i2) (S5.set i2 (.map (eIT (putM ((k:Int)+3) ⟨(k:Int)+3,(A2 p).fresh ((k:Int)+3)⟩ (mp2 p k))))):=fun j o hj=>by
    obtain⟨a,b⟩:=Ej hj
    rw[w7 _ _ b];exact a
   have o7:=E9 (touch:=fun j=>j=i2) o5 (fun e=>n2 e.symm)
   have m7:=E9 (touch:=fun j=>j=i2) bN hne
   have hC:Sub (S5.out fun j=>j=i2) S5:=D2 _ _
   refine gf o7 ?_ (delO 18 o242) [6,11]
   refine Fx (id:=18) [0,1,2,3,4,5,6] [6] (S5.out fun j=>j=i2) (D2 _ _) ?_
   refine gf (gi o7 b9) ?_ o242 [6,11]
   have cp:∀x o,O x=some o->S5 x=some o:=fun x o hx=>bz x o (aK x o (bF x o hx)) (fun e=>by have:=bF x o hx;rw[e,h6]at this;cases this) (fun h=>by have:=bF x o hx;rw[be x h]at this;cases this)
   exact⟨k+1,S5.set i2 (.map (eIT (putM ((k:Int)+3) ⟨(k:Int)+3,(A2 p).fresh ((k:Int)+3)⟩ (mp2 p k)))),⟨by omega,fun x o hx=>by rw[w7 _ _ (fun e=>by rw[e,bW]at hx;cases hx)];exact cp x o hx,by rw[w7 _ _ hne];exact bN,w6 ..⟩,td1,wkR⟩
 ·obtain rfl:k=p.classes.length:=by omega
  refine gz ?_ o242 [6,11]
  exact fin1 (U':=S2) ⟨i1,i2,rfl,hS,au,hm2⟩
theorem FrV.set{O S1:Sig}{r:RW}{l:List MVal}{i2:Nat}{ds:List D}(h:FrV (O.set i2 (.cells ds)) r l S1)(cf:O i2=none)(ds':List D):FrV O r l (S1.set i2 (.cells ds')):=by
 obtain⟨h1,h2,h3⟩:=h
 have ce:=(h2 i2 _ (w6 ..) id).2
 refine⟨h1.keep fun j o hj aS=>by rw[w7 _ _ fun e=>ce (by rw[<-e];exact aS)];exact hj,fun j o hj _=>?_,h3⟩
 have hne:j≠i2:=fun e=>by rw[e,cf]at hj;cases hj
 have:=h2 j o (by rw[w7 _ _ hne];exact hj) id
 exact⟨by rw[w7 _ _ hne];exact this.1,this.2⟩
theorem FrV.out{O X':Sig}{r:RW}{l:List MVal}{k:Nat}{x:DObj}(h:FrV (O.set k x) r l X')(hk:O k=none): ∃U',FrV O r l U'/\U' k=none/\X'=U'.set k x:=by
 obtain⟨h1,h2,h3⟩:=h
 obtain⟨g1,g2⟩:=h2 k _ (w6 ..) id
 refine⟨X'.del k,⟨h1.keep fun j o hj aS=>?_,fun j o hj _=>?_,h3⟩,by simp[Sig.del],?_⟩
 ·have hne:j≠k:=fun e=>g2 (e ▸ aS)
  simp only[Sig.del,hne,if_false];exact hj
 ·have hne:j≠k:=fun e=>by rw[e,hk]at hj;cases hj
  have:=h2 j o (by rw[w7 _ _ hne];exact hj) id
  refine⟨?_,this.2⟩
  simp only[Sig.del,hne,if_false];exact this.1
 ·funext j
  by_cases e:j=k
  ·subst e;rw[w6];exact g1
  ·rw[w7 _ _ e];simp only[Sig.del,e,if_false]
theorem FrV.new{O S1:Sig}{r:RW}{l:List MVal}{k:Nat}(h:FrV O r l S1)(hk:S1 k=none)(o:DObj):FrV O r l (S1.set k o):=by
 obtain⟨h1,h2,h3⟩:=h
 exact⟨h1.keep fun j o hj aS=>by rw[w7 _ _ fun e=>by rw[e,hk]at hj;cases hj];exact hj,fun j o hj _=>by
  have:=h2 j o hj id
  exact⟨by rw[w7 _ _ fun e=>by rw[e,hk]at this;cases this.1];exact this.1,this.2⟩,h3⟩
theorem NA(p:BProg)(c:Int):((A2 p).fresh c).length=(hasP p c).length:=by unfold A2;simp
theorem Jm(p:BProg)(i1 i2:Nat)(c:Int)(S0 O:Sig)(hp:p.wt<=1073741824)(hK:KnwS p i1 i2 S0 O)(hc:ownF p c=true)(hn:(hasP p c).length<=1000000):DCall prog 243 [cKnw p i1 i2,dI c] O fun y U'=> ∃r,y=.ret (.agg [dI c,r.d ((A2 p).fresh c).length])/\FrV O r ((A2 p).fresh c) U':=by
 obtain⟨hS,au,hm2⟩:=hK
 unfold ownF at hc
 simp only[Bool.and_eq_true,decide_eq_true_eq]at hc
 obtain⟨j,hj⟩:∃j:Nat,c=(j:Int)+3:=⟨(c-3).toNat,by omega⟩
 obtain⟨g1,g2⟩:=QE p j p.classes.length (by omega)
 rw[<-hj]at g1 g2
 have aa:=hitIT c (mp2 p p.classes.length) g1
 rw[g2]at aa
 have hl:=NA p c
 unfold cKnw
 refine en func243 ntmps243 ?_
 refine gz ?_ [] [4]
 refine newV (fun i4 bc=>?_)
 have n2:i2≠i4:=fun e=>by rw[<-e,hm2]at bc;cases bc
 refine gf (gi hm2 aa) ?_ [] [4]
 refine A4 (Mo ((A2 p).fresh c) .no _ (by omega)) (fun d S1 hr=>?_) (fun d S1 hr=>by obtain⟨_,h,_⟩:=hr;cases h)
 obtain⟨r,hd,hF⟩:=hr
 have aI:=(hF.2.1 i4 _ (w6 ..) id).1
 have ai:=hF.set bc
 cases hd
 rcases r with _|es|⟨i,c',cs⟩
 ·refine gf aI ?_ [] [4]
  exact finC (U':=S1.set i4 (.cells [dI c,.nils])) ⟨.nil,rfl,ai _⟩
 ·refine gf aI ?_ [] [4]
  exact finC (U':=S1.set i4 (.cells [dI c,.slice es .clip])) ⟨.full es,rfl,ai _⟩
 ·refine gf aI ?_ [] [4]
  exact finC (U':=S1.set i4 (.cells [dI c,.sref i 0 ((A2 p).fresh c).length c'])) ⟨.row i c' cs,rfl,ai _⟩
theorem T0(p:BProg)(c:Int)(O:Sig)(hp:p.wt<=1073741824)(hk:okP p=true)(hc:ownF p c=true)(hn:(hasP p c).length<=1000000):DCall prog 179 [.agg (Ad p),dI c] O fun y U'=> ∃r,y=.ret (.tup [.agg [dI c,r.d ((A2 p).fresh c).length],dI 0])/\FrV O r ((A2 p).fresh c) U':=by
 have aj:(ownF p c&&okP p)=true:=by rw[hc,hk];rfl
 refine en func179 ntmps179 ?_
 refine gz ?_ [] [4]
 refine newV (fun i4 bc=>?_)
 refine gf aj ?_ [] [4]
 refine A4 (Mr p _ hp hk) (fun d S1 hr=>?_) (fun d S1 hr=>by obtain⟨_,_,h,_⟩:=hr;cases h)
 obtain⟨i1,i2,hd,hK⟩:=hr
 cases hd
 refine gz ?_ [] [4]
 refine A4 (Jm p i1 i2 c _ S1 hp hK hc hn) (fun d S2 hr=>?_) (fun d S2 hr=>by obtain⟨_,h,_⟩:=hr;cases h)
 obtain⟨r,hd,hF⟩:=hr
 have o4:=hK.1 i4 _ (w6 ..)
 have aI:=(hF.2.1 i4 _ o4 id).1
 have bq:FrV (O.set i4 (.cells [.int .i64 0,.nils])) r ((A2 p).fresh c) S2:=⟨hF.1,fun j o hj _=>hF.2.1 j o (hK.1 j o hj) id,hF.2.2⟩
 have ai:=bq.set bc
 cases hd
 rcases r with _|es|⟨i,c',cs⟩
 ·refine gf aI ?_ [] [4]
  exact finC (U':=S2.set i4 (.cells [dI c,.nils])) ⟨.nil,rfl,ai _⟩
 ·refine gf aI ?_ [] [4]
  exact finC (U':=S2.set i4 (.cells [dI c,.slice es .clip])) ⟨.full es,rfl,ai _⟩
 ·refine gf aI ?_ [] [4]
  exact finC (U':=S2.set i4 (.cells [dI c,.sref i 0 ((A2 p).fresh c).length c'])) ⟨.row i c' cs,rfl,ai _⟩
section
variable {ir:Nat}{p:BProg}{R:Nat->RW}{s:GoS}{O:Sig}
theorem RunS.fresh(h:RunS ir p R s O){S1:Sig}{r:RW}{l:List MVal}(hF:FrV O r l S1):S1 ir=some (.cells (AO p R s)) /\ ¬r.is ir/\RWAt S1 2 (R 3) (tCells (fun k=>R (k+4)) s.objs):=
 ⟨(hF.2.1 ir _ h.obj id).1,(hF.2.1 ir _ h.obj id).2,(h.rows.ok 3).keep fun j o hj _=>(hF.2.1 j o hj id).1⟩
theorem RunS.obj_add(h:RunS ir p R s O){S1 S2:Sig}{r:RW}{x:MThing}(hF:FrV O r x.slots S1){i c:Nat}{cs:List D}(hr:RWAt S2 2 (.row i c cs) (tCells (fun k=>R (k+4)) s.objs++[[dI x.cls,r.d x.slots.length]]))(hk:RWK S1 (R 3) S2 (.row i c cs)){ds:List D}
  (hd:ds=AO p (updF (updF R (s.objs.length+4) r) 3 (.row i c cs)) { s with objs:=s.objs++[x] }) :
  RunS ir p (updF (updF R (s.objs.length+4) r) 3 (.row i c cs)) { s with objs:=s.objs++[x] } (S2.set ir (.cells ds))/\RunK ir R O (updF (updF R (s.objs.length+4) r) 3 (.row i c cs)) (S2.set ir (.cells ds)):=by
 obtain⟨f1,f2,f3⟩:=hF
 have e2:rSz (s.objs.length+4)=2:=by unfold rSz;rw[if_neg (by omega)]
 have u1:=h.rows.upd (a:=s.objs.length+4) (r':=r) (by rw[e2];exact f1) (fun j o hj _=>f2 j o hj id)
 have u2:=u1.upd (a:=3) (r':=.row i c cs) hr (by rw[A8 _ _ (by omega)];exact hk)
 have cm:∀a,rCt (updF (updF R (s.objs.length+4) r) 3 (.row i c cs)) { s with objs:=s.objs++[x] } a=updF (updF (rCt R s) (s.objs.length+4) (x.slots.map cVal)) 3 (tCells (fun k=>R (k+4)) s.objs++[[dI x.cls,r.d x.slots.length]]) a:=fun a=>by
  match a with
  |0=>rw[A8 _ _ (by omega),A8 _ _ (by omega)];rfl
  |1=>rw[A8 _ _ (by omega),A8 _ _ (by omega)];rfl
  |2=>rw[A8 _ _ (by omega),A8 _ _ (by omega)];rfl
  |3=>
   rw[Aj]
   show tCells (fun k=>updF (updF R (s.objs.length+4) r) 3 (.row i c cs) (k+4)) (s.objs++[x])=_
   rw[K5 (fun k=>R (k+4)) _ s.objs x fun k hk=>by rw[A8 _ _ (by omega),A8 _ _ (by omega)]]
   simp only[A8 (updF R (s.objs.length+4) r) (RW.row i c cs) (show s.objs.length+4≠3 by omega),Aj]
  | k+4 =>
   rw[A8 _ _ (by omega)]
   show(((s.objs++[x])[k]?).getD ⟨0,[]⟩).slots.map cVal=_
   by_cases e:k=s.objs.length
   ·subst e;rw[Aj];simp
   ·rw[A8 _ _ (by omega)]
    show _=((s.objs[k]?).getD ⟨0,[]⟩).slots.map cVal
    by_cases hk:k<s.objs.length
    ·rw[List.getElem?_append_left hk]
    ·rw[List.getElem?_eq_none (by simp;omega),List.getElem?_eq_none (by omega)]
 have hR:=u2.retell cm
 obtain⟨a1,a2⟩:=f2 ir _ h.obj id
 obtain⟨b1,b2⟩:=hk ir _ a1 (h.ni 3)
 have ah:∀a, ¬(updF (updF R (s.objs.length+4) r) 3 (.row i c cs) a).is ir:=fun a ha=>by
  by_cases e3:a=3
  ·subst e3;rw[Aj]at ha;exact b2 ha
  ·rw[A8 _ _ e3]at ha
   by_cases e4:a=s.objs.length+4
   ·subst e4;rw[Aj]at ha;exact a2 ha
   ·rw[A8 _ _ e4]at ha;exact h.ni a ha
 refine⟨⟨by rw[w6,hd],hR.keep fun j o hj ⟨b,hb⟩=>by rw[w7 _ _ fun e=>ah b (by rw[<-e];exact hb)];exact hj,ah,fun a es he=>?_⟩,fun j o hj am hn=>?_⟩
 ·by_cases e3:a=3
  ·subst e3;rw[Aj]at he;cases he
  ·rw[A8 _ _ e3]at he
   by_cases e4:a=s.objs.length+4
   ·subst e4;rw[Aj]at he;exact f3 es he
   ·rw[A8 _ _ e4]at he;exact h.nf a es he
 ·obtain⟨k3,k4⟩:=f2 j o hj id
  obtain⟨k5,k6⟩:=hk j o k3 (hn 3)
  refine⟨by rw[w7 _ _ am];exact k5,fun a ha=>?_⟩
  by_cases e3:a=3
  ·subst e3;rw[Aj]at ha;exact k6 ha
  ·rw[A8 _ _ e3]at ha
   by_cases e4:a=s.objs.length+4
   ·subst e4;rw[Aj]at ha;exact k4 ha
   ·rw[A8 _ _ e4]at ha;exact hn a ha
theorem Uu{O:Sig}{sz:Nat}{r:RW}{es:List (List D)}{n:Nat}(h:RWAt O sz r es)(hn:es.length=n)(e:Nat):lenD (.slice e) (r.d n)=some (.int .i64 n):=by
 subst hn
 cases r with
 |nil=>obtain rfl:es=[]:=h;rfl
 |full es0=>obtain⟨rfl,_⟩:=h;rfl
 |row i c cs=>rfl
theorem Tp(x:CIns)(hp:p.wt<=1073741824)(hk:okP p=true)(hc:ownF p x.a=true)(hn:(hasP p x.a).length<=1000000)(hR:RunS ir p R s O)(hs:s.stk.length<=1000000)(ho:s.objs.length<=1000):DCall prog 108 [.ptr ir 0,.agg (cIns x)] O fun y U'=> ∃R',RunK ir R O R' U' /\
  if 40<=s.objs.length then y=.ret (.bool true)/\HaltS ir p R' s .nils false (GB s 8 s.stk.dropLast) U' else y=.ret (.bool false)/\RunS ir p R' { s with objs:=s.objs++[⟨x.a,(A2 p).fresh x.a⟩],stk:=s.stk++[vObj s.objs.length] } U':=by
 have q1:=hR.obj
 have q3:RWAt O 2 (R 3) (tCells (fun k=>R (k+4)) s.objs):=hR.rows.ok 3
 have bO:=Uu q3 (A6 _ _) 131
 by_cases aP:40<=s.objs.length
 ·refine en func108 ntmps108 ?_
  refine gf (gi q1 bO) ?_ o108
  refine A4 (He 8 s.stk.dropLast hR) (fun d S3 hr=>?_) (fun d S3 hr=>by cases hr.1)
  obtain⟨hd,h1,h2⟩:=hr
  cases hd
  refine gz ?_ o108
  exact fin1 (U':=S3) ⟨R,h2,by rw[if_pos aP];exact⟨rfl,h1⟩⟩
 ·refine en func108 ntmps108 ?_
  refine gf (gi q1 bO) ?_ (delO 3 o108)
  refine mixU (id:=3) [0,1,2,3,4,5,6,7,8,9,10,11,12] [11] [6] ?_
  refine u3R (.ptr ir 0) ?_
  refine u3R (.ptr ir 0) ?_
  refine u3R (.ptr ir 11) ?_
  refine u3R (.agg (Ad p)) ?_ (hd:=by simp[q1])
  refine u3R (.cptr (cIns x) 1) ?_
  refine u3R (dI x.a) ?_
  refine u3C (fun τ d X'=> ∃r,d=.tup [.agg [dI x.a,r.d ((A2 p).fresh x.a).length],dI 0]/\FrV τ r ((A2 p).fresh x.a) X') (fun τ=>(T0 p x.a τ hp hk hc hn).mono fun y X' ⟨r,h1,h2⟩=>⟨_,h1,r,rfl,h2⟩) (fun τ k z d X' hk ⟨r,h1,h2⟩=>by
   obtain⟨V2,h3,h4,h5⟩:=h2.out hk
   exact⟨V2,⟨r,h1,h3⟩,h4,h5⟩) (fun d S1 ⟨r,hd,hF⟩=>⟨fun j o hj=>(hF.2.1 j o hj id).1,?_⟩)
  have hS:Sub O S1:=fun j o hj=>(hF.2.1 j o hj id).1
  subst hd
  rcases r with _|es|⟨i,c',cs⟩
  ·refine u3R (.tup [.agg [dI x.a,.nils],dI 0]) ?_
   refine u3R (.agg [dI x.a,.nils]) ?_
   refine u3R (dI 0) ?_
   refine u3A [.int .i64 0,.nils] (fun i5 ag=>?_)
   have aW:Sub O ((S1.set i5 (.cells [.int .i64 0,.nils])).set i5 (.cells [dI x.a,.nils])):=(hS.set (hS.none ag)).set (hS.none ag)
   have o5:(S1.set i5 (.cells [.int .i64 0,.nils])) i5=_:=w6 ..
   refine u3M ?_
   simp only[List.map]
   refine DM tabOK tdR (by simp;rfl) aW ?_
   simp only[w8]
   have ai:=hF.new ag (.cells [dI x.a,.nils])
   have o6:(S1.set i5 (.cells [dI x.a,.nils])) i5=_:=w6 ..
   have n5:¬(R 3).is i5:=fun h=>by
    obtain⟨z,hz⟩:=q3.cells h
    rw[hS _ _ hz]at ag;cases ag
   obtain⟨a1,a2,a3⟩:=hR.fresh ai
   generalize S1.set i5 (.cells [dI x.a,.nils])=S2 at*
   have u1:=E9 a1 (hR.ni 3)
   have u5:=E9 o6 n5
   refine gz ?_ (delO 4 o108)
   refine Fu (id:=4) [0,1,2,3,4,5,6,7,8,9,10,11] [8] (S2.out (R 3).is) (D2 _ _) ?_
   refine gf (gi u1 u5) ?_ o108
   refine GZ (new:=[[dI x.a,.nils]]) (es:=tCells (fun k=>R (k+4)) s.objs) (fun j c2 cs2 S3 aX aB=>?_) (fun j o h=>Ej h) (hm:=a3) (h1:=by rw[A6];with_unfolding_all rfl) (hb:=by rw[A6];simp;omega) (hm2:=by rw[A6];simp;omega)
   obtain⟨v1,v2⟩:=aB ir _ a1 (hR.ni 3)
   rw[show(tCells (fun k=>R (k+4)) s.objs).length+[[dI x.a,.nils]].length=s.objs.length+1 by rw[A6];rfl]
   refine gf v1 ?_ o108
   obtain⟨p1,p2⟩:=hR.obj_add (x:=⟨x.a,(A2 p).fresh x.a⟩) (r:=.nil) ai aX aB rfl
   refine drp (S3.set ir (.cells (AO p (updF (updF R (s.objs.length+4) .nil) 3 (.row j c2 cs2)) { s with objs:=s.objs++[⟨x.a,(A2 p).fresh x.a⟩] }))) ?_ (by simp[AO,Ad];exact Sub.refl _)
   refine A4 (Bv (vObj s.objs.length) p1 hs) (fun d S4 hr=>?_) (fun d S4 hr=>by cases hr.1)
   obtain⟨hd,R4,aN,aO⟩:=hr
   cases hd
   refine gz ?_ o108
   exact fin1 (U':=S4) ⟨R4,p2.trans aO,by rw[if_neg aP];exact⟨rfl,aN⟩⟩
  ·refine u3R (.tup [.agg [dI x.a,.slice es .clip],dI 0]) ?_
   refine u3R (.agg [dI x.a,.slice es .clip]) ?_
   refine u3R (dI 0) ?_
   refine u3A [.int .i64 0,.nils] (fun i5 ag=>?_)
   have aW:Sub O ((S1.set i5 (.cells [.int .i64 0,.nils])).set i5 (.cells [dI x.a,.slice es .clip])):=(hS.set (hS.none ag)).set (hS.none ag)
   have o5:(S1.set i5 (.cells [.int .i64 0,.nils])) i5=_:=w6 ..
   refine u3M ?_
   simp only[List.map]
   refine DM tabOK tdR (by simp;rfl) aW ?_
   simp only[w8]
   have ai:=hF.new ag (.cells [dI x.a,.slice es .clip])
   have o6:(S1.set i5 (.cells [dI x.a,.slice es .clip])) i5=_:=w6 ..
   have n5:¬(R 3).is i5:=fun h=>by
    obtain⟨z,hz⟩:=q3.cells h
    rw[hS _ _ hz]at ag;cases ag
   obtain⟨a1,a2,a3⟩:=hR.fresh ai
   generalize S1.set i5 (.cells [dI x.a,.slice es .clip])=S2 at*
   have u1:=E9 a1 (hR.ni 3)
   have u5:=E9 o6 n5
   refine gz ?_ (delO 4 o108)
   refine Fu (id:=4) [0,1,2,3,4,5,6,7,8,9,10,11] [8] (S2.out (R 3).is) (D2 _ _) ?_
   refine gf (gi u1 u5) ?_ o108
   refine GZ (new:=[[dI x.a,.slice es .clip]]) (es:=tCells (fun k=>R (k+4)) s.objs) (fun j c2 cs2 S3 aX aB=>?_) (fun j o h=>Ej h) (hm:=a3) (h1:=by rw[A6];with_unfolding_all rfl) (hb:=by rw[A6];simp;omega) (hm2:=by rw[A6];simp;omega)
   obtain⟨v1,v2⟩:=aB ir _ a1 (hR.ni 3)
   rw[show(tCells (fun k=>R (k+4)) s.objs).length+[[dI x.a,.slice es .clip]].length=s.objs.length+1 by rw[A6];rfl]
   refine gf v1 ?_ o108
   obtain⟨p1,p2⟩:=hR.obj_add (x:=⟨x.a,(A2 p).fresh x.a⟩) (r:=(.full es)) ai aX aB rfl
   refine drp (S3.set ir (.cells (AO p (updF (updF R (s.objs.length+4) (.full es)) 3 (.row j c2 cs2)) { s with objs:=s.objs++[⟨x.a,(A2 p).fresh x.a⟩] }))) ?_ (by simp[AO,Ad];exact Sub.refl _)
   refine A4 (Bv (vObj s.objs.length) p1 hs) (fun d S4 hr=>?_) (fun d S4 hr=>by cases hr.1)
   obtain⟨hd,R4,aN,aO⟩:=hr
   cases hd
   refine gz ?_ o108
   exact fin1 (U':=S4) ⟨R4,p2.trans aO,by rw[if_neg aP];exact⟨rfl,aN⟩⟩
  ·refine u3R (.tup [.agg [dI x.a,.sref i 0 ((A2 p).fresh x.a).length c'],dI 0]) ?_
   refine u3R (.agg [dI x.a,.sref i 0 ((A2 p).fresh x.a).length c']) ?_
   refine u3R (dI 0) ?_
   refine u3A [.int .i64 0,.nils] (fun i5 ag=>?_)
   have aW:Sub O ((S1.set i5 (.cells [.int .i64 0,.nils])).set i5 (.cells [dI x.a,.sref i 0 ((A2 p).fresh x.a).length c'])):=(hS.set (hS.none ag)).set (hS.none ag)
   have o5:(S1.set i5 (.cells [.int .i64 0,.nils])) i5=_:=w6 ..
   refine u3M ?_
   simp only[List.map]
   refine DM tabOK tdR (by simp;rfl) aW ?_
   simp only[w8]
   have ai:=hF.new ag (.cells [dI x.a,.sref i 0 ((A2 p).fresh x.a).length c'])
   have o6:(S1.set i5 (.cells [dI x.a,.sref i 0 ((A2 p).fresh x.a).length c'])) i5=_:=w6 ..
   have n5:¬(R 3).is i5:=fun h=>by
    obtain⟨z,hz⟩:=q3.cells h
    rw[hS _ _ hz]at ag;cases ag
   obtain⟨a1,a2,a3⟩:=hR.fresh ai
   generalize S1.set i5 (.cells [dI x.a,.sref i 0 ((A2 p).fresh x.a).length c'])=S2 at*
   have u1:=E9 a1 (hR.ni 3)
   have u5:=E9 o6 n5
   refine gz ?_ (delO 4 o108)
   refine Fu (id:=4) [0,1,2,3,4,5,6,7,8,9,10,11] [8] (S2.out (R 3).is) (D2 _ _) ?_
   refine gf (gi u1 u5) ?_ o108
   refine GZ (new:=[[dI x.a,.sref i 0 ((A2 p).fresh x.a).length c']]) (es:=tCells (fun k=>R (k+4)) s.objs) (fun j c2 cs2 S3 aX aB=>?_) (fun j o h=>Ej h) (hm:=a3) (h1:=by rw[A6];with_unfolding_all rfl) (hb:=by rw[A6];simp;omega) (hm2:=by rw[A6];simp;omega)
   obtain⟨v1,v2⟩:=aB ir _ a1 (hR.ni 3)
   rw[show(tCells (fun k=>R (k+4)) s.objs).length+[[dI x.a,.sref i 0 ((A2 p).fresh x.a).length c']].length=s.objs.length+1 by rw[A6];rfl]
   refine gf v1 ?_ o108
   obtain⟨p1,p2⟩:=hR.obj_add (x:=⟨x.a,(A2 p).fresh x.a⟩) (r:=(.row i c' cs)) ai aX aB rfl
   refine drp (S3.set ir (.cells (AO p (updF (updF R (s.objs.length+4) (.row i c' cs)) 3 (.row j c2 cs2)) { s with objs:=s.objs++[⟨x.a,(A2 p).fresh x.a⟩] }))) ?_ (by simp[AO,Ad];exact Sub.refl _)
   refine A4 (Bv (vObj s.objs.length) p1 hs) (fun d S4 hr=>?_) (fun d S4 hr=>by cases hr.1)
   obtain⟨hd,R4,aN,aO⟩:=hr
   cases hd
   refine gz ?_ o108
   exact fin1 (U':=S4) ⟨R4,p2.trans aO,by rw[if_neg aP];exact⟨rfl,aN⟩⟩
end
theorem Lt(p:BProg)(l:List MThing)(o:Own)(O:Sig)(hp:p.wt<=1073741824)(hl:l.length<=1073741824)(hs:∀x∈l,x.slots.length<=1073741824):DCall prog 45 [.agg (Ad p),.slice (l.map cTh) o] O (rS (dI (if okP p&&Bn (A2 p) l then 0 else 2)) O):=by
 refine en func45 ntmps45 ?_
 cases hk:okP p with
 |false=>
  refine gf hk ?_
  exact fin1 (U':=O) ⟨rfl,rfl⟩
 | true =>
  by_cases aP:l.length<=40
  rotate_left
  ·have aZ:Bn (A2 p) l=false:=by unfold Bn;simp[aP]
   refine gf hk ?_
   exact fin1 (U':=O) ⟨by rw[aZ],rfl⟩
  ·refine gf hk ?_
   refine BV [1,2,17,18] (fun (k:Nat)=>k<=l.length /\ ∀x∈l.take k,(A2 p).own x.cls=true/\x.slots.length=((A2 p).slots x.cls).length/\okVs l.length x.slots=true) (fun k=>[(19,dI k)]) (fun _=>O) (fun k=>l.length-k) (0) (by exact⟨Nat.zero_le _,by simp⟩) (fun k hI=>?_)
   obtain⟨ca,hI⟩:=hI
   by_cases ak:k<l.length
   ·have cu:=hs _ (List.getElem_mem ak)
    have bC:=CD p (l[k]).cls
    have bI:=Dr p
    have aZ:¬((A2 p).own (l[k]).cls=true/\(l[k]).slots.length=((A2 p).slots (l[k]).cls).length/\okVs l.length (l[k]).slots=true)->Bn (A2 p) l=false:=fun h=>by
     cases hb:Bn (A2 p) l with
     |false=>rfl
     |true=>exact absurd ((BO.1 hb).2 _ (List.getElem_mem ak)) h
    cases ho:ownF p (l[k]).cls with
    |false=>
     have hb:=aZ fun h=>by have:=h.1;rw[show(A2 p).own (l[k]).cls=(ownF p (l[k]).cls&&okP p) from rfl,ho]at this;cases this
     refine gf (gi hk ho) ?_
     exact fin1 (U':=O) ⟨by rw[hb],rfl⟩
    | true =>
     have b8:(A2 p).own (l[k]).cls=true:=by show(ownF p (l[k]).cls&&okP p)=true;rw[ho,hk];rfl
     by_cases aQ:(l[k]).slots.length=(hasP p (l[k]).cls).length
     ·cases hv:okVs l.length (l[k]).slots with
      |false=>
       have hb:=aZ fun h=>by have:=h.2.2;rw[hv]at this;cases this
       refine gf (gi hk (gi ho (gi hv aQ))) ?_
       exact fin1 (U':=O) ⟨by rw[hb],rfl⟩
      |true=>
       refine gf (gi hk (gi ho (gi hv aQ))) ?_
       exact⟨k+1,⟨by omega,fun x hx=>by rw[List.take_succ_eq_append_getElem ak,List.mem_append,List.mem_singleton]at hx;exact hx.elim (hI x) (fun e=>by rw[e];exact⟨b8,aQ,hv⟩)⟩,td1,wkR⟩
     ·have hb:=aZ fun h=>aQ h.2.1
      have bx:¬(hasP p (l[k]).cls).length=(l[k]).slots.length:=fun e=>aQ e.symm
      refine gf (gi hk (gi ho (gi aQ bx))) ?_
      exact fin1 (U':=O) ⟨by rw[hb],rfl⟩
   ·have hb:Bn (A2 p) l=true:=BO.2 ⟨aP,by rw[List.take_of_length_le (by omega)]at hI;exact hI⟩
    refine gz ?_
    exact fin1 (U':=O) ⟨by rw[hb],rfl⟩
def curT(w:CWorld)(x:MThing)(c:Int)(q:Nat):List MVal:=(CJ w x c).slots.take q++(w.fresh c).drop q
theorem CL(w:CWorld)(x:MThing)(c:Int)(h:(w.fresh c).length=(w.slots c).length):(CJ w x c).slots.length=(w.slots c).length:=by unfold CJ;simp[h]
theorem OL(w:CWorld)(x:MThing)(c:Int)(h:(w.fresh c).length=(w.slots c).length)(q:Nat)(hq:q<=(w.slots c).length):(curT w x c q).length=(w.slots c).length:=by
 unfold curT;rw[List.length_append,List.length_take,List.length_drop,CL w x c h,h];omega
theorem Qe(w:CWorld)(x:MThing)(c:Int)(h:(w.fresh c).length=(w.slots c).length)(q:Nat)(hq:q<(w.slots c).length):(CJ w x c).slots[q]'(by rw[CL w x c h];exact hq)=(if 0<=idxG ((w.slots c)[q]) (w.slots x.cls) 0 then(x.slots[(idxG ((w.slots c)[q]) (w.slots x.cls) 0).toNat]?).getD vZ else(w.fresh c)[q]'(by rw[h];exact hq)):=by
 unfold CJ;simp
theorem TR(w:CWorld)(x:MThing)(c:Int)(h:(w.fresh c).length=(w.slots c).length)(q:Nat)(hq:q<(w.slots c).length):curT w x c (q+1)=(curT w x c q).set q ((CJ w x c).slots[q]'(by rw[CL w x c h];exact hq)):=by
 unfold curT
 have ht:q<(CJ w x c).slots.length:=by rw[CL w x c h];exact hq
 rw[List.take_succ_eq_append_getElem ht,List.set_append_right _ _ (by rw[List.length_take];omega),List.append_assoc]
 congr 1
 rw[show(w.fresh c).drop q=(w.fresh c)[q]'(by rw[h];exact hq)::(w.fresh c).drop (q+1) from A5 (by rw[h];exact hq),List.length_take_of_le (by omega),Nat.sub_self]
 rfl
theorem VP(w:CWorld)(x:MThing)(c:Int)(h:(w.fresh c).length=(w.slots c).length)(q:Nat)(hq:q<(w.slots c).length):(curT w x c q)[q]? = some ((w.fresh c)[q]'(by rw[h];exact hq)):=by
 unfold curT
 have ht:q<(CJ w x c).slots.length:=by rw[CL w x c h];exact hq
 rw[List.getElem?_append_right (by rw[List.length_take];omega),List.length_take_of_le (by omega),Nat.sub_self,A5 (l:=w.fresh c) (by rw[h];exact hq)]
 rfl
theorem curT_0(w:CWorld)(x:MThing)(c:Int):curT w x c 0=w.fresh c:=by unfold curT;simp
theorem VQ(w:CWorld)(x:MThing)(c:Int)(h:(w.fresh c).length=(w.slots c).length):curT w x c (w.slots c).length=(CJ w x c).slots:=by
 unfold curT;rw[<-h,List.drop_length,List.append_nil,List.take_of_length_le (by rw[CL w x c h,h];exact Nat.le_refl _)]
theorem Sx(p:BProg)(i1 i2:Nat)(x:MThing)(c:Int)(rx:RW)(S0 O:Sig)(hp:p.wt<=1073741824)(hK:KnwS p i1 i2 S0 O)(hc:ownF p c=true)(bp:ownF p x.cls=true)(hn:(hasP p c).length<=1000000)(hx:RWAt O 2 rx (x.slots.map cVal))(bX:∀es,rx=.full es->es=[])(cr:x.slots.length=(hasP p x.cls).length):
  DCall prog 246 [cKnw p i1 i2,.agg [dI x.cls,rx.d x.slots.length],dI c] O fun y U'=> ∃r,y=.ret (.agg [dI c,r.d (CJ (A2 p) x c).slots.length])/\FrV O r (CJ (A2 p) x c).slots U':=by
 obtain⟨hS,au,hm2⟩:=hK
 have bd:=NA p c
 have aj:=hc
 unfold ownF at aj bp
 simp only[Bool.and_eq_true,decide_eq_true_eq]at aj bp
 obtain⟨j,hj⟩:∃j:Nat,c=(j:Int)+3:=⟨(c-3).toNat,by omega⟩
 obtain⟨jx,cb⟩:∃j:Nat,x.cls=(j:Int)+3:=⟨(x.cls-3).toNat,by omega⟩
 obtain⟨g1,g2⟩:=Ld p j p.classes.length (by omega)
 obtain⟨g3,g4⟩:=Ld p jx p.classes.length (by omega)
 rw[<-hj]at g1 g2
 rw[<-cb]at g3 g4
 have aa:hitD tab 23 false (CE (.int .i64) (.int .i64 c) (eIO (mp1 p p.classes.length)) 0)=some (sl (cI (hasP p c))):=by rw[UW,g1,g2];rfl
 have aC:hitD tab 23 false (CE (.int .i64) (.int .i64 x.cls) (eIO (mp1 p p.classes.length)) 0)=some (sl (cI (hasP p x.cls))):=by rw[UW,g3,g4];rfl
 have bC:=CD p x.cls
 have bI:=Dr p
 by_cases he:hasP p c=[]
 ·have bQ:(A2 p).fresh c=[]:=List.length_eq_zero_iff.1 (by rw[bd,he];rfl)
  have bl:(CJ (A2 p) x c).slots=[]:=List.length_eq_zero_iff.1 (by rw[CL _ x c bd];show(hasP p c).length=0;rw[he];rfl)
  rw[he]at aa
  unfold cKnw
  refine en func246 ntmps246 ?_
  refine gz ?_ o246 [6]
  refine newV (fun i6 aq=>?_)
  have n1:i1≠i6:=fun e=>by rw[<-e,au]at aq;cases aq
  have ax:KnwS p i1 i2 S0 (O.set i6 (.cells [.int .i64 0,.nils])):=⟨fun j o hj=>(hS.set (hS.none aq)) j o hj,by rw[w7 _ _ n1];exact au,by rw[w7 _ _ fun e=>by rw[e,aq]at hm2;cases hm2];exact hm2⟩
  refine gz ?_ o246 [6]
  refine A4 (Jm p i1 i2 c S0 _ hp ax hc hn) (fun d S1 hr=>?_) (fun d S1 hr=>by obtain⟨_,h,_⟩:=hr;cases h)
  obtain⟨r,hd,hF⟩:=hr
  have ap:=(hF.2.1 i1 _ ((w7 _ _ n1).trans au) id)
  have o6:=(hF.2.1 i6 _ (w6 ..) id)
  have bH:FrV (O.set i6 (.cells [.int .i64 0,.nils])) r (CJ (A2 p) x c).slots S1:=by rw[bl,<-bQ];exact hF
  have bk:=bH.set aq
  cases hd
  rw[bQ]
  rcases r with _|es|⟨i,c',cs⟩
  ·refine gf (gi ap.1 aa) ?_ o246 [6]
   refine BV [0,4,6,7,19,20,47] (fun (q:Nat)=>True) (fun _=>[(21,dI 0)]) (fun _=>S1) (fun _=>1) (0) (by trivial) (fun q hI=>?_)
   refine gf o6.1 ?_ o246 [6]
   exact finC (U':=S1.set i6 (.cells [dI c,.nils])) ⟨.nil,by rw[bl],bk _⟩
  ·refine gf (gi ap.1 aa) ?_ o246 [6]
   refine BV [0,4,6,7,19,20,47] (fun (q:Nat)=>True) (fun _=>[(21,dI 0)]) (fun _=>S1) (fun _=>1) (0) (by trivial) (fun q hI=>?_)
   refine gf o6.1 ?_ o246 [6]
   exact finC (U':=S1.set i6 (.cells [dI c,.slice es .clip])) ⟨.full es,by rw[bl],bk _⟩
  ·refine gf (gi ap.1 aa) ?_ o246 [6]
   refine BV [0,4,6,7,19,20,47] (fun (q:Nat)=>True) (fun _=>[(21,dI 0)]) (fun _=>S1) (fun _=>1) (0) (by trivial) (fun q hI=>?_)
   refine gf o6.1 ?_ o246 [6]
   exact finC (U':=S1.set i6 (.cells [dI c,.sref i 0 0 c'])) ⟨.row i c' cs,by rw[bl],bk _⟩
 ·unfold cKnw
  refine en func246 ntmps246 ?_
  refine gz ?_ o246 [6]
  refine newV (fun i6 aq=>?_)
  have n1:i1≠i6:=fun e=>by rw[<-e,au]at aq;cases aq
  have ax:KnwS p i1 i2 S0 (O.set i6 (.cells [.int .i64 0,.nils])):=⟨fun j o hj=>(hS.set (hS.none aq)) j o hj,by rw[w7 _ _ n1];exact au,by rw[w7 _ _ fun e=>by rw[e,aq]at hm2;cases hm2];exact hm2⟩
  refine gz ?_ o246 [6]
  refine A4 (Jm p i1 i2 c S0 _ hp ax hc hn) (fun d S1 hr=>?_) (fun d S1 hr=>by obtain⟨_,h,_⟩:=hr;cases h)
  obtain⟨r,hd,hF⟩:=hr
  cases hd
  have b6:∃i c' cs,r=.row i c' cs:=by
   rcases r with _|es|⟨i,c',cs⟩
   ·have:=hF.1;exact absurd (show((A2 p).fresh c).map cVal=[] from this) (by intro h;have:=congrArg List.length h;rw[List.length_map,bd]at this;exact he (List.length_eq_zero_iff.1 this))
   ·have:=hF.1.1;rw[hF.2.2 es rfl]at this;exact absurd this (by intro h;have:=congrArg List.length h;rw[List.length_map,bd]at this;exact he (List.length_eq_zero_iff.1 this))
   ·exact⟨i,c',cs,rfl⟩
  obtain⟨i,c',cs,rfl⟩:=b6
  have ap:=(hF.2.1 i1 _ ((w7 _ _ n1).trans au) id)
  have o6:=(hF.2.1 i6 _ (w6 ..) id)
  refine gf (gi ap.1 aa) ?_ o246 [6]
  have hw:((A2 p).fresh c).length=((A2 p).slots c).length:=bd
  have cy:(hasP p x.cls).length<=1073741824:=by omega
  refine BZ [0,4,6,7,19,20,47] (fun (q:Nat) (S4:Sig)=>q<=(hasP p c).length/\RWAt S4 2 (.row i c' cs) ((curT (A2 p) x c q).map cVal) /\ ∀j o,S1 j=some o->j≠i->S4 j=some o) (fun q _=>[(21,dI q)]) (fun _ S4=>S4) (fun q _=>(hasP p c).length-q) (0) (S1) (by exact⟨Nat.zero_le _,by rw[curT_0];exact hF.1,fun _ _ h _=>h⟩) (fun q S4 hI=>?_)
  obtain⟨bL,hR,aR⟩:=hI
  have aA:=aR i1 _ ap.1 (fun e=>ap.2 e)
  by_cases ay:q<(hasP p c).length
  ·have bJ:q<(CJ (A2 p) x c).slots.length:=by rw[CL _ x c hw];exact ay
   have aF:=Qe (A2 p) x c hw q ay
   have bT:=OL (A2 p) x c hw q bL
   have bS:=TR (A2 p) x c hw q ay
   have bU:=VP (A2 p) x c hw q ay
   change (CJ (A2 p) x c).slots[q]=(if 0<=idxG ((hasP p c)[q]) (hasP p x.cls) 0 then(x.slots[(idxG ((hasP p c)[q]) (hasP p x.cls) 0).toNat]?).getD vZ else _)at aF
   change (curT (A2 p) x c q).length=(hasP p c).length at bT
   by_cases aG:0<=idxG ((hasP p c)[q]) (hasP p x.cls) 0
   ·rw[if_pos aG]at aF
    obtain⟨k,hk⟩:∃k:Nat,idxG ((hasP p c)[q]) (hasP p x.cls) 0=k:=⟨(idxG ((hasP p c)[q]) (hasP p x.cls) 0).toNat,by omega⟩
    obtain⟨m1,m2⟩:=HN (s:=(hasP p c)[q]) (hasP p x.cls) 0 aG
    have ak:k<x.slots.length:=by omega
    rw[hk,Int.toNat_natCast,List.getElem?_eq_getElem ak,Option.getD_some]at aF
    obtain⟨ix,cx,csx,bZ,Lx,y1,y2,y3⟩:=rowV (R:=fun _=>rx) (a:=0) hx (fun e=>by
     have e':rx=.nil:=e
     rw[e']at hx
     have:=congrArg List.length (show x.slots.map cVal=[] from hx)
     simp at this;rw[this]at ak;simp at ak) bX ak
    have br:rx=.row ix cx csx:=bZ
    subst br
    obtain⟨y4,y5⟩:=hF.2.1 ix _ ((w7 _ _ fun e=>by rw[e,aq]at y1;cases y1).trans y1) id
    have y6:=aR ix _ y4 (fun e=>y5 e)
    obtain⟨L,hL⟩:∃L,L=((curT (A2 p) x c q).map cVal).flatten++cs:=⟨_,rfl⟩
    have z1:S4 i=some (.cells L):=by rw[hL];exact hR.1
    have bG:L.length=(curT (A2 p) x c q).length*2+cs.length:=by rw[hL,Gm]
    have hf:¬L.length<q*2+2:=by omega
    have aU:=Qc (curT (A2 p) x c q) q (by omega) (x.slots[k]) cs
    rw[<-hL,<-aF,<-bS,aF,List.append_assoc]at aU
    have bh:=OL (A2 p) x c hw (q+1) ay
    change (curT (A2 p) x c (q+1)).length=(hasP p c).length at bh
    have aE:RWAt (S4.set i (.cells (List.take (q*2) L++(cVal (x.slots[k])++List.drop (q*2+2) L)))) 2 (.row i c' cs) ((curT (A2 p) x c (q+1)).map cVal):=by
     obtain⟨b1,b2,b3,b4⟩:=hR
     refine⟨by rw[w6,aU],?_,by rw[List.length_map,bh];rw[List.length_map,bT]at b3;exact b3,Bw⟩
     rw[Gm]at b2⊢
     omega
    refine gf (gi aA (gi aC (gi hk (gi y6 (gi y2 (gi y3 (gi z1 hf))))))) ?_ o246 [6]
    exact⟨q+1,S4.set i (.cells (List.take (q*2) L++(cVal (x.slots[k])++List.drop (q*2+2) L))),⟨by omega,aE,fun j o hj am=>by rw[w7 _ _ am];exact aR j o hj am⟩,td1,wkR⟩
   ·rw[if_neg aG]at aF
    have aV:curT (A2 p) x c (q+1)=curT (A2 p) x c q:=by
     rw[bS,aF]
     rw[List.getElem?_eq_getElem (by omega)]at bU
     rw[<-Option.some.inj bU,List.set_getElem_self]
    refine gf (gi aA aC) ?_ o246 [6]
    exact⟨q+1,S4,⟨by omega,by rw[aV];exact hR,aR⟩,td1,wkR⟩
  ·obtain rfl:q=(hasP p c).length:=by omega
   have bE:=VQ (A2 p) x c hw
   rw[show curT (A2 p) x c (hasP p c).length=(CJ (A2 p) x c).slots from bE]at hR
   have o7:=aR i6 _ o6.1 (fun e=>o6.2 e)
   have bH:FrV (O.set i6 (.cells [.int .i64 0,.nils])) (.row i c' cs) (CJ (A2 p) x c).slots S4:=⟨hR,fun j o hj _=>by
    obtain⟨b1,b2⟩:=hF.2.1 j o hj id
    exact⟨aR j o b1 (fun e=>b2 e),b2⟩,fun es h=>by cases h⟩
   have bk:=bH.set aq
   have bJ:(CJ (A2 p) x c).slots.length=((A2 p).fresh c).length:=by rw[CL _ x c hw,hw]
   refine gf o7 ?_ o246 [6]
   exact finC (U':=S4.set i6 (.cells [dI c,.sref i 0 ((A2 p).fresh c).length c'])) ⟨.row i c' cs,by rw[bJ],bk _⟩
theorem V0(es:List (List D))(h2:∀c∈es,c.length=2)(k:Nat)(hk:k<es.length)(e:List D)(cs:List D):List.take (k*2) (es.flatten++cs)++e++List.drop (k*2+2) (es.flatten++cs)=(es.set k e).flatten++cs:=by
 have e0:es=es.take k++es[k]::es.drop (k+1):=by rw[<-A5 hk,List.take_append_drop]
 have h:(es.take k).flatten.length=k*2:=by rw[Ap fun c hc=>h2 c (List.mem_of_mem_take hc),List.length_take_of_le (by omega)]
 have hl:(es[k]).length=2:=h2 _ (List.getElem_mem hk)
 have hs:es.set k e=es.take k++e::es.drop (k+1):=by rw[List.set_eq_take_append_cons_drop,if_pos hk]
 have e2:es.flatten++cs=(es.take k).flatten++(es[k]++((es.drop (k+1)).flatten++cs)):=by
  calc _=(es.take k++es[k]::es.drop (k+1)).flatten++cs:=by rw[<-e0]
   _=_:=by rw[List.flatten_append,List.flatten_cons];simp only[List.append_assoc]
 have e3:(es.set k e).flatten++cs=(es.take k).flatten++(e++((es.drop (k+1)).flatten++cs)):=by
  rw[hs,List.flatten_append,List.flatten_cons];simp only[List.append_assoc]
 rw[e2,e3,<-h,List.take_left,<-List.drop_drop,List.drop_left,List.append_assoc,<-hl,List.drop_left]
theorem Nm(S S':Nat->RW)(l:List MThing)(m:Nat)(hm:m<l.length)(x:MThing)(h:∀k,k≠m->S' k=S k):tCells S' (l.set m x)=(tCells S l).set m [dI x.cls,(S' m).d x.slots.length]:=by
 refine List.ext_getElem? fun k=>?_
 by_cases hk:k<l.length
 ·rw[BM S' (l.set m x) k (by simpa using hk)]
  by_cases e:k=m
  ·subst e;rw[List.getElem_set_self,List.getElem?_set_self (by rw[A6];exact hk)]
  ·rw[List.getElem_set_ne (fun h=>e h.symm),List.getElem?_set_ne (fun h=>e h.symm),BM S l k hk,h k e]
 ·rw[List.getElem?_eq_none (by rw[A6];simp;omega),List.getElem?_eq_none (by simp[A6];omega)]
theorem ThS.row{R:Nat->RW}{l:List MThing}{S0 O:Sig}(h:ThS R l S0 O)(hl:0<l.length): ∃i c cs,R 3=.row i c cs:=by
 have hk:=h.row3
 cases hR:R 3 with
 |nil=>rw[hR]at hk;have:=congrArg List.length (show tCells (fun k=>R (k+4)) l=[] from hk);rw[A6]at this;simp at this;rw[this]at hl;simp at hl
 |full es=>rw[hR]at hk;have:=congrArg List.length hk.1;rw[A6,h.nf 3 es hR]at this;simp at this;rw[this]at hl;simp at hl
 |row i c cs=>exact⟨i,c,cs,rfl⟩
theorem ThS.turn{R:Nat->RW}{l:List MThing}{S0 O S3:Sig}(h:ThS R l S0 O){m:Nat}(hm:m<l.length){x:MThing}{r:RW}(hF:FrV O r x.slots S3){i c:Nat}{cs:List D}(hi:R 3=.row i c cs){L:List D}(hL:L=(tCells (fun k=>R (k+4)) l).flatten++cs):
  ThS (updF R (m+4) r) (l.set m x) S0 (S3.set i (.cells (L.take (m*2)++[dI x.cls,r.d x.slots.length]++L.drop (m*2+2)))):=by
 obtain⟨f1,f2,f3⟩:=hF
 have e2:rSz (m+4)=2:=by unfold rSz;rw[if_neg (by omega)]
 have u1:=h.rows.upd (a:=m+4) (r':=r) (by rw[e2];exact f1) (fun j o hj _=>f2 j o hj id)
 have h3:updF R (m+4) r 3=.row i c cs:=by rw[A8 _ _ (by omega),hi]
 have bb:(updF R (m+4) r 3).is i:=by rw[h3];rfl
 have q3:=h.row3
 rw[hi]at q3
 obtain⟨z1,z2,z3,z4⟩:=q3
 have ht:tCells (fun k=>updF R (m+4) r (k+4)) (l.set m x)=(tCells (fun k=>R (k+4)) l).set m [dI x.cls,r.d x.slots.length]:=by
  rw[Nm (fun k=>R (k+4)) _ l m hm x fun k hk=>A8 _ _ (by omega)]
  simp only[Aj]
 have ci:=V0 (tCells (fun k=>R (k+4)) l) D8 m (by rw[A6];exact hm) [dI x.cls,r.d x.slots.length] cs
 subst hL
 rw[ci]
 have bm:(((tCells (fun k=>R (k+4)) l).set m [dI x.cls,r.d x.slots.length]).flatten++cs).length=((tCells (fun k=>R (k+4)) l).flatten++cs).length:=by
  rw[<-ht,List.length_append,List.length_append,Ap D8,Ap D8,A6,A6,List.length_set]
 refine⟨⟨fun a=>?_,u1.dj⟩,fun a ha=>by rw[A8 _ _ (by omega)];exact h.lo a ha,fun a es he=>?_,fun j o hj=>?_⟩
 ·by_cases ea:a=3
  ·subst ea
   rw[h3]
   show RWAt _ 2 _ (tCells (fun k=>updF R (m+4) r (k+4)) (l.set m x))
   refine⟨by rw[w6,ht],by rw[ht,bm];exact z2,by rw[A6,List.length_set];rw[A6]at z3;exact z3,D8⟩
  ·have e:rCt (updF R (m+4) r) ⟨l.set m x,[],0,[],[]⟩ a=updF (rCt R ⟨l,[],0,[],[]⟩) (m+4) (x.slots.map cVal) a:=by
    match a with
    |0=>rw[A8 _ _ (by omega)];rfl
    |1=>rw[A8 _ _ (by omega)];rfl
    |2=>rw[A8 _ _ (by omega)];rfl
    |3=>exact absurd rfl ea
    |k+4=>
     show(((l.set m x)[k]?).getD ⟨0,[]⟩).slots.map cVal=_
     by_cases ek:k=m
     ·subst ek;rw[Aj,List.getElem?_set_self hm];rfl
     ·rw[A8 _ _ (by omega),List.getElem?_set_ne (fun h=>ek h.symm)];rfl
   rw[e]
   exact(u1.ok a).keep fun j o hj aw=>by rw[w7 _ _ fun e2=>ea (u1.dj a 3 j aw (by rw[e2];exact bb))];exact hj
 ·by_cases e4:a=m+4
  ·subst e4;rw[Aj]at he;exact f3 es he
  ·rw[A8 _ _ e4]at he;exact h.nf a es he
 ·obtain⟨k1,k2⟩:=h.keep j o hj
  obtain⟨k3,k4⟩:=f2 j o k1 id
  refine⟨by rw[w7 _ _ fun e=>k2 3 (by rw[hi,e];rfl)];exact k3,fun a ha=>?_⟩
  by_cases e4:a=m+4
  ·subst e4;rw[Aj]at ha;exact k4 ha
  ·rw[A8 _ _ e4]at ha;exact k2 a ha
theorem storeTh{ir:Nat}{O:Sig}{ro:Ro}{n:Nat}{ops:Array Oper}{Q:DX->St->Prop}{df:List DDf}{rest:List Oper}{γ Sr:Fr}{ty:TypeId}{pos:String}{after:Array Edge}{x y:Operand}{ds:List D}{r1:RW}{a:Int}{m k:Nat}(hc:O ir=some (.cells ds))(h:DOps prog ro n ops Q rest ⟨γ,O.set ir (.cells (ds.take k++[dI a,r1.d m]++ds.drop (k+2))),df⟩)
  (hl:A1 γ (A7 [x,y])=some Sr:=by exact tdR) (h1:ev Sr x=.ptr ir k:=by exact tdR) (h2:ev Sr y=.agg [dI a,r1.d m]:=by exact tdR) (hlen:k+2<=ds.length:=by simp) :
  DOps prog ro n ops Q (⟨none,.store 131 x y,ty,pos,after,none⟩::rest) ⟨γ,O,df⟩:=
 Eo tabOK (d:=.any) hl (by show En tab O 131 (ev Sr x) (ev Sr y)=_;rw[h1,h2];exact Un hc hlen) h
theorem SZ(p:BProg)(l:List MThing)(o:Own)(m:Nat)(c:Int)(O:Sig)(hp:p.wt<=1073741824)(hk:okP p=true)(hh:∀c,(hasP p c).length<=1000000)(hm:m<l.length)(aY:Bn (A2 p) l=true)(hc:ownF p c=true):DCall prog 182 [.agg (Ad p),.slice (l.map cTh) o,dI m,dI c] O fun y U'=> ∃R,y=.ret (.tup [(R 3).d l.length,dI 0])/\ThS R (l.set m (CJ (A2 p) l[m] c)) O U':=by
 obtain⟨o1,o2⟩:=BO.1 aY
 have hs:∀x∈l,x.slots.length<=1000000:=fun x hx=>by
  rw[(o2 x hx).2.1];exact hh x.cls
 obtain⟨u1,u2,u3⟩:=o2 _ (List.getElem_mem hm)
 have bp:ownF p (l[m]).cls=true:=by have:(ownF p (l[m]).cls&&okP p)=true:=u1;simp only[Bool.and_eq_true]at this;exact this.1
 refine en func182 ntmps182 ?_
 repeat' first|refine gf (gi hc (gi hk aY)) ?_|refine CR (Lt p l o O (by omega) (by omega) (fun x hx=>by have:=hs x hx;omega)) ?_|refine callPG (Lt p l o O (by omega) (by omega) (fun x hx=>by have:=hs x hx;omega)) ?_|refine gf (gi hc (gi hk aY)) ?_ o182|apply gy<;>intro hh
 refine A4 (Sy l o O (by omega) hs) (fun d S1 hr=>?_) (fun d S1 hr=>by obtain⟨_,h,_⟩:=hr;cases h)
 obtain⟨R1,hd,hT⟩:=hr
 obtain⟨i,c1,cs,h3⟩:=hT.row (by omega)
 cases hd
 have q3:=hT.row3
 rw[h3]at q3
 obtain⟨y1,y2⟩:=Ow (D8 (S:=fun k=>R1 (k+4)) (l:=l)) (BM _ _ m hm) cs
 obtain⟨L,hL⟩:∃L,L=(tCells (fun k=>R1 (k+4)) l).flatten++cs:=⟨_,rfl⟩
 have z1:S1 i=some (.cells L):=by rw[hL];exact q3.1
 rw[<-hL]at y1 y2
 have bG:m*2+2<=L.length:=by
  rw[hL,List.length_append,Ap D8,A6];omega
 have bY:List.take 2 (List.drop (m*2) L)=[dI (l[m]).cls,(R1 (m+4)).d (l[m]).slots.length]:=by
  refine List.ext_getElem? fun k=>?_
  match k with
  |0=>rw[List.getElem?_take_of_lt (by omega),List.getElem?_drop,Nat.add_zero];exact y1
  |1=>rw[List.getElem?_take_of_lt (by omega),List.getElem?_drop];exact y2
  |k+2=>rw[List.getElem?_eq_none (by simp;omega),List.getElem?_eq_none (by simp)]
 rw[h3]
 refine gz ?_
 refine Fu (id:=5) [0,1,2,4,5,6,7,8,3,9,10] [3,9] S1 (Sub.refl _) ?_
 refine gf (gi z1 (gi bG bY)) ?_ o182
 refine Bd (Mr p S1 hp hk) (fun d S2 hr=>?_) (fun d S2 hr=>by obtain⟨_,_,h,_⟩:=hr;cases h)
 obtain⟨i1,i2,hd,hK⟩:=hr
 cases hd
 refine⟨hK.1,?_⟩
 have hx:RWAt S2 2 (R1 (m+4)) ((l[m]).slots.map cVal):=by
  have q:=hT.rows.ok (m+4)
  rw[show rSz (m+4)=2 by unfold rSz;rw[if_neg (by omega)],show rCt R1 ⟨l,[],0,[],[]⟩ (m+4)=(l[m]).slots.map cVal by show((l[m]?).getD ⟨0,[]⟩).slots.map cVal=_;rw[List.getElem?_eq_getElem hm];rfl]at q
  exact q.keep fun j o hj _=>hK.1 j o hj
 refine Bd (Sx p i1 i2 l[m] c (R1 (m+4)) S1 S2 hp hK hc bp (hh c) hx (hT.nf _) u2) (fun d S3 hr=>?_) (fun d S3 hr=>by obtain⟨_,h,_⟩:=hr;cases h)
 obtain⟨r,hd,hF⟩:=hr
 cases hd
 refine⟨fun j o hj=>(hF.2.1 j o (hK.1 j o hj) id).1,?_⟩
 refine gz ?_ o182
 have bq:FrV S1 r (CJ (A2 p) l[m] c).slots S3:=⟨hF.1,fun j o hj _=>hF.2.1 j o (hK.1 j o hj) id,hF.2.2⟩
 have z3:S3 i=some (.cells L):=(bq.2.1 i _ z1 id).1
 have cn:=hT.turn hm (x:=CJ (A2 p) l[m] c) bq h3 hL
 refine storeTh (r1:=r) z3 ?_ (hlen:=bG)
 refine gz ?_ o182
 exact fin2 (U':=_) ⟨_,by rw[A8 _ _ (by omega),h3,Fj],cn⟩
def mixC(S:Nat->RW)(l:List MThing)(k:Nat):List (List D):=(l.take k).map cTh++(tCells S l).drop k
theorem Rq{n:Nat}{γ:Fr}{df:List DDf}{O:Sig}{S:Nat->RW}{l:List MThing}{i:Nat}{cs:List D}(hi:O i=some (.cells ((tCells S l).flatten++cs)))(hS:∀k (h:k<l.length),RWAt O 2 (S k) ((l[k]).slots.map cVal))(ah:∀k, ¬(S k).is i)(bR:∀a b j,(S a).is j->(S b).is j->a=b):
  ∀k,k<=l.length->∃U',Wk prog n ⟨γ,O,df⟩ ⟨γ,U',df⟩/\U' i=some (.cells ((mixC S l k).flatten++cs)) /\ ∀j o,O j=some o->j≠i->(∀q,q<k->¬(S q).is j)->U' j=some o
 |0,_=>⟨O,Wk.refl _ _ _,by unfold mixC;simpa using hi,fun j o h _ _=>h⟩
 | k+1,hk=>by
  obtain⟨S1,w1,o1,k1⟩:=Rq hi hS ah bR k (by omega)
  have ak:k<l.length:=by omega
  have hr:RWAt S1 2 (S k) ((l[k]).slots.map cVal):=(hS k ak).keep fun j o hj bP=>k1 j o hj (fun e=>ah k (e ▸ bP)) (fun q hq bA=>by have:=bR q k j bA bP;omega)
  have bf:(tCells S l).drop k=[dI (l[k]).cls,(S k).d (l[k]).slots.length]::(tCells S l).drop (k+1):=by
   have bm:k<(tCells S l).length:=by rw[A6];exact ak
   rw[A5 bm]
   have:=BM S l k ak
   rw[List.getElem?_eq_getElem bm]at this
   rw[Option.some.inj this]
  have e1:(mixC S l k).flatten++cs=(((l.take k).map cTh).flatten++[dI (l[k]).cls])++(S k).d ((l[k]).slots.map cVal).length::(((tCells S l).drop (k+1)).flatten++cs):=by
   unfold mixC
   rw[bf,List.flatten_append,List.flatten_cons,List.length_map]
   simp only[List.append_assoc,List.cons_append,List.nil_append]
  have e2:(mixC S l (k+1)).flatten++cs=(((l.take k).map cTh).flatten++[dI (l[k]).cls]) ++ .slice ((l[k]).slots.map cVal) .no::(((tCells S l).drop (k+1)).flatten++cs):=by
   unfold mixC
   rw[List.take_succ_eq_append_getElem ak,List.map_append,List.flatten_append,List.flatten_append]
   simp only[List.map_cons,List.map_nil,List.flatten_cons,List.flatten_nil,List.append_nil,List.append_assoc,List.cons_append,List.nil_append,cTh]
  rw[e1]at o1
  obtain⟨S2,w2,o2,k2⟩:=BW (P:=prog) (n:=n) (γ:=γ) (df:=df) hr o1 (ah k)
  refine⟨S2,w1.trans w2,by rw[e2];exact o2,fun j o hj am hq=>k2 j o (k1 j o hj am fun q cw=>hq q (by omega)) am (hq k (by omega))⟩
theorem UL(S:Nat->RW)(l:List MThing):mixC S l l.length=l.map cTh:=by
 unfold mixC;rw[List.take_length,List.drop_of_length_le (by rw[A6];exact Nat.le_refl _),List.append_nil]
theorem Nz{n:Nat}{γ:Fr}{df:List DDf}{O:Sig}{R:Nat->RW}{s:GoS}{ir:Nat}{a0 b0:List D}(hR:Rows O R rSz (rCt R s))(ah:∀a, ¬(R a).is ir)(bt:∀es,R 3=.full es->es=[])(hi:O ir=some (.cells (a0++(R 3).d s.objs.length::b0))):
  ∃U',Wk prog n ⟨γ,O,df⟩ ⟨γ,U',df⟩/\U' ir=some (.cells (a0 ++ .slice (s.objs.map cTh) .no::b0)) /\ ∀j o,O j=some o->j≠ir->(∀q,3<=q->¬(R q).is j)->U' j=some o:=by
 have q3:RWAt O 2 (R 3) (tCells (fun k=>R (k+4)) s.objs):=hR.ok 3
 have co:∀k (h:k<s.objs.length),RWAt O 2 (R (k+4)) ((s.objs[k]).slots.map cVal):=fun k h=>by
  have q:=hR.ok (k+4)
  rw[show rSz (k+4)=2 by unfold rSz;rw[if_neg (by omega)],show rCt R s (k+4)=(s.objs[k]).slots.map cVal by show((s.objs[k]?).getD ⟨0,[]⟩).slots.map cVal=_;rw[List.getElem?_eq_getElem h];rfl]at q
  exact q
 by_cases h0:s.objs=[]
 ·rw[h0]at q3 hi⊢
  obtain⟨S2,w2,o2,k2⟩:=BW (P:=prog) (n:=n) (γ:=γ) (df:=df) (es:=[]) (r:=R 3) (i:=ir) q3 hi (ah 3)
  exact⟨S2,w2,o2,fun j o hj am hq=>k2 j o hj am (hq 3 (by omega))⟩
 ·have b7:0<s.objs.length:=List.length_pos_iff.2 h0
  cases h3:R 3 with
  |nil=>rw[h3]at q3;have:=congrArg List.length (show tCells (fun k=>R (k+4)) s.objs=[] from q3);rw[A6]at this;simp at this;exact absurd this h0
  |full es=>rw[h3]at q3;have:=congrArg List.length q3.1;rw[A6,bt es h3]at this;simp at this;exact absurd this h0
  | row i c cs =>
   rw[h3]at q3 hi
   obtain⟨z1,z2,z3,z4⟩:=q3
   have bb:(R 3).is i:=by rw[h3];rfl
   have hne:ir≠i:=fun e=>ah 3 (e ▸ bb)
   obtain⟨S1,w1,o1,k1⟩:=Rq (n:=n) (γ:=γ) (df:=df) (S:=fun k=>R (k+4)) z1 co (fun k h=>by have:=hR.dj _ _ _ h bb;omega) (fun a b j ha hb=>by have:=hR.dj _ _ _ ha hb;omega) s.objs.length (Nat.le_refl _)
   have cg:=k1 ir _ hi hne (fun q _=>ah (q+4))
   rw[UL]at o1
   have bK:∀c∈s.objs.map cTh,c.length=2:=fun c hc=>by obtain⟨x,_,rfl⟩:=List.mem_map.1 hc;rfl
   have hr:RWAt S1 2 (.row i c cs) (s.objs.map cTh):=⟨o1,by
    rw[List.length_append,Ap bK,List.length_map]
    rw[List.length_append,Ap D8,A6]at z2
    exact z2,by rw[List.length_map];rw[A6]at z3;exact z3,bK⟩
   obtain⟨S2,w2,o2,k2⟩:=BW (P:=prog) (n:=n) (γ:=γ) (df:=df) (i:=ir) hr (by rw[List.length_map];exact cg) (fun h=>hne h)
   exact⟨S2,w1.trans w2,o2,fun j o hj am hq=>k2 j o (k1 j o hj (fun e=>hq 3 (by omega) (by rw[e];exact bb)) fun q _=>hq (q+4) (by omega)) am (fun h=>hq 3 (by omega) (by rw[h3];exact h))⟩
def Fc(R R':Nat->RW):Nat->RW:=fun a=>if a<3 then R a else R' a
theorem E4{R R':Nat->RW}{a:Nat}(h:a<3):Fc R R' a=R a:=by unfold Fc;rw[if_pos h]
theorem E5{R R':Nat->RW}{a:Nat}(h:3<=a):Fc R R' a=R' a:=by unfold Fc;rw[if_neg (by omega)]
section
variable {ir:Nat}{p:BProg}{R:Nat->RW}{s:GoS}{O:Sig}
theorem RunS.swap(h:RunS ir p R s O){R':Nat->RW}{l:List MThing}{S2 S3:Sig}{X ds:List D}(h2:∀j o,O j=some o->j≠ir->(∀q,3<=q->¬(R q).is j)->S2 j=some o)(cd:S2 ir=some (.cells X))(hT:ThS R' l S2 S3)(hd:ds=AO p (Fc R R') { s with objs:=l }):
  RunS ir p (Fc R R') { s with objs:=l } (S3.set ir (.cells ds))/\RunK ir R O (Fc R R') (S3.set ir (.cells ds)):=by
 have bw:∀a,a<3->∀j o,O j=some o->(R a).is j->S2 j=some o:=fun a ha j o hj aw=>h2 j o hj (fun e=>h.ni a (e ▸ aw)) (fun q hq bA=>by have:=h.rows.dj a q j aw bA;omega)
 have ba:=(hT.keep ir _ cd).2
 have ah:∀a, ¬(Fc R R' a).is ir:=fun a=>by
  by_cases ha:a<3
  ·rw[E4 ha];exact h.ni a
  ·rw[E5 (by omega)];exact ba a
 refine⟨⟨by rw[w6,hd],⟨fun a=>?_,fun a b j ha hb=>?_⟩,ah,fun a es he=>?_⟩,fun j o hj am hn=>?_⟩
 ·by_cases ha:a<3
  ·have e:rCt (Fc R R') { s with objs:=l } a=rCt R s a:=by
    match a with
    |0=>rfl
    |1=>rfl
    |2=>rfl
    |k+3=>omega
   rw[e,E4 ha]
   exact(h.rows.ok a).keep fun j o hj aw=>by rw[w7 _ _ fun e2=>h.ni a (by rw[<-e2];exact aw)];exact(hT.keep j o (bw a ha j o hj aw)).1
  ·have e:rCt (Fc R R') { s with objs:=l } a=rCt R' ⟨l,[],0,[],[]⟩ a:=by
    match a with
    |0=>omega
    |1=>omega
    |2=>omega
    |3=>
     show tCells (fun k=>Fc R R' (k+4)) l=tCells (fun k=>R' (k+4)) l
     congr 1
    |k+4=>rfl
   rw[e,E5 (by omega)]
   exact(hT.rows.ok a).keep fun j o hj aw=>by rw[w7 _ _ fun e2=>ba a (by rw[<-e2];exact aw)];exact hj
 ·by_cases h1:a<3<;>by_cases h3:b<3
  ·rw[E4 h1]at ha;rw[E4 h3]at hb;exact h.rows.dj a b j ha hb
  ·rw[E4 h1]at ha;rw[E5 (by omega)]at hb
   obtain⟨z,hz⟩:=(h.rows.ok a).cells ha
   exact absurd hb ((hT.keep j _ (bw a h1 j _ hz ha)).2 b)
  ·rw[E5 (by omega)]at ha;rw[E4 h3]at hb
   obtain⟨z,hz⟩:=(h.rows.ok b).cells hb
   exact absurd ha ((hT.keep j _ (bw b h3 j _ hz hb)).2 a)
  ·rw[E5 (by omega)]at ha;rw[E5 (by omega)]at hb;exact hT.rows.dj a b j ha hb
 ·by_cases ha:a<3
  ·rw[E4 ha]at he;exact h.nf a es he
  ·rw[E5 (by omega)]at he;exact hT.nf a es he
 ·have k2:=h2 j o hj am fun q _=>hn q
  obtain⟨k3,k4⟩:=hT.keep j o k2
  refine⟨by rw[w7 _ _ am];exact k3,fun a ha=>?_⟩
  by_cases h1:a<3
  ·rw[E4 h1]at ha;exact hn a ha
  ·rw[E5 (by omega)]at ha;exact k4 a ha
theorem freezeD{ro:Ro}{n:Nat}{Q:DX->St->Prop}{c:Code}{γ:Fr}{df:List DDf}(a0 b0:List D)(hR:Rows O R rSz (rCt R s))(ah:∀a, ¬(R a).is ir)(bt:∀es,R 3=.full es->es=[])(hi:O ir=some (.cells (a0++(R 3).d s.objs.length::b0)))
  (h:∀U',U' ir=some (.cells (a0 ++ .slice (s.objs.map cTh) .no::b0))->(∀j o,O j=some o->j≠ir->(∀q,3<=q->¬(R q).is j)->U' j=some o)->DWp prog ro n c Q ⟨γ,U',df⟩):DWp prog ro n c Q ⟨γ,O,df⟩:=by
 obtain⟨S2,w,a,b⟩:=Nz (n:=n) (γ:=γ) (df:=df) hR ah bt hi
 exact FL w (h S2 a b)
theorem Tn(x:CIns)(r:List MVal)(v:MVal)(hp:p.wt<=1073741824)(hk:okP p=true)(hh:∀c,(hasP p c).length<=1000000)(hc:ownF p x.a=true)(hR:RunS ir p R s O)(hs:s.stk=r++[v])(hn:s.stk.length<=1000000)(hv:okV s.objs.length v=true)(ho:Bn (A2 p) s.objs=true):DCall prog 110 [.ptr ir 0,.agg (cIns x)] O fun y U'=> ∃R',RunK ir R O R' U' /\
  if v.kind=3 then y=.ret (.bool false)/\RunS ir p R' { s with objs:=setObj s.objs v.n (CJ (A2 p) (Dd s.objs v.n) x.a),stk:=r++[v] } U' else y=.ret (.bool true)/\HaltS ir p R' { s with stk:=r } .nils false (GB s 6 r) U':=by
 have hl:s.stk.length=r.length+1:=by rw[hs];simp
 refine en func110 ntmps110 ?_
 refine gz ?_ o110
 refine A4 (Cm r v hR hs hn) (fun d S1 hr=>?_) (fun d S1 hr=>by cases hr.1)
 obtain⟨hd,R1,aE,bV⟩:=hr
 cases hd
 by_cases h3:v.kind=3
 rotate_left
 ·refine gf h3 ?_ o110
  refine A4 (He 6 r aE) (fun d S3 hr=>?_) (fun d S3 hr=>by cases hr.1)
  obtain⟨hd,h1,h2⟩:=hr
  cases hd
  refine gz ?_ o110
  exact fin1 (U':=S3) ⟨R1,bV.trans h2,by rw[if_neg h3];exact⟨rfl,h1⟩⟩
 ·obtain⟨w1,w2,w3⟩:=FR ho hv h3
  obtain⟨m,hm⟩:∃m:Nat,v.n=m:=⟨v.n.toNat,by omega⟩
  have bM:m<s.objs.length:=by omega
  have aY:Dd s.objs v.n=s.objs[m]:=by unfold Dd;rw[hm,Int.toNat_natCast,List.getElem?_eq_getElem bM];rfl
  refine gf h3 ?_
  have q1:=aE.obj
  refine freezeD (R:=R1) (s:={ s with stk:=r }) (ir:=ir) [dI 0,dI 0,dI 0,dI 0,.nils,dI 0,dI 0,.nils,.nils] ((R1 2).d s.evs.length::(Ad p++[dI s.pos,(R1 0).d r.length,(R1 1).d s.env.length])) aE.rows aE.ni (aE.nf 3) (by rw[q1];simp[AO]) (fun S2 o2 k2=>?_)
  refine mixI (id:=4) [0,1,2,3,4,5,6,7,8,9,10,11,12,13,14,15,16,17,18,19,20,21] [14,21] [4,9] [14,21] (fun z=>z=S2) rfl ?_
  refine iP (.ptr ir 0) ?_
  refine iP (.ptr ir 0) ?_
  refine iP (.ptr ir 0) ?_
  refine iP (.ptr ir 11) ?_
  refine iR (.agg (Ad p)) (fun z hz=>?_) ?_
  ·rw[hz];simp[o2]
  refine iP (.ptr ir 0) ?_
  refine iP (.ptr ir 0) ?_
  refine iP (.ptr ir 0) ?_
  refine iP (.ptr ir 9) ?_
  refine iR (.slice (s.objs.map cTh) .no) (fun z hz=>?_) ?_
  ·rw[hz];simp[o2]
  refine iP (.cptr (cVal v) 1) ?_
  refine iP (dI v.n) ?_
  refine iP (.cptr (cIns x) 1) ?_
  refine iP (dI x.a) ?_
  have aD:=SZ p s.objs .no m x.a S2 hp hk hh bM ho hc
  rw[<-hm]at aD
  refine iW (fun _=>True) aD (fun d S3 hr=>?_) (fun d S3 hr=>by obtain⟨_,h,_⟩:=hr;cases h)
  obtain⟨R2,hd,hT⟩:=hr
  obtain⟨i,c,cs,h4⟩:=hT.row (by rw[List.length_set];omega)
  cases hd
  refine⟨trivial,?_⟩
  rw[h4]
  have o3:=(hT.keep ir _ o2).1
  refine iP (.tup [.sref i 0 s.objs.length c,dI 0]) ?_
  refine iP (.sref i 0 s.objs.length c) ?_
  refine iP (dI 0) ?_
  refine iP (.ptr ir 0) ?_
  refine iP (.ptr ir 0) ?_
  refine iP (.ptr ir 9) ?_
  refine iS (d:=.any) (U':=S3.set ir (.cells ([dI 0,dI 0,dI 0,dI 0,.nils,dI 0,dI 0,.nils,.nils,.sref i 0 s.objs.length c,(R1 2).d s.evs.length]++Ad p++[dI s.pos,(R1 0).d r.length,(R1 1).d s.env.length]))) (fun _=>True) trivial ?_ (he:=by simp[o3])
  refine iN ?_
  refine gz ?_ o110
  obtain⟨p1,p2⟩:=aE.swap k2 o2 hT rfl
  refine drp (S3.set ir (.cells (AO p (Fc R1 R2) { s with stk:=r,objs:=s.objs.set m (CJ (A2 p) s.objs[m] x.a) }))) ?_ (by unfold AO;rw[show Fc R1 R2 3=R2 3 from rfl,h4,List.length_set];exact Sub.refl _)
  refine A4 (Bv v p1 (by simp;omega)) (fun d S4 hr=>?_) (fun d S4 hr=>by cases hr.1)
  obtain⟨hd,R4,aN,aO⟩:=hr
  cases hd
  have e5:setObj s.objs v.n (CJ (A2 p) (Dd s.objs v.n) x.a)=s.objs.set m (CJ (A2 p) s.objs[m] x.a):=by unfold setObj;rw[aY,hm];rfl
  refine gz ?_ o110
  exact fin1 (U':=S4) ⟨R4,(bV.trans p2).trans aO,by rw[if_pos h3,e5];exact⟨rfl,aN⟩⟩
end
end Go.DL
