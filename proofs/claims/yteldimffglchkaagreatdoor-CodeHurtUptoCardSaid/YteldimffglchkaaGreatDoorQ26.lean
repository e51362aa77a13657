/- A part of the proof. -/
import Derived.Test.YteldimffglchkaaGreatDoorQ25
import Derived.Test.YteldimffglchkaaGreatDoorQ14
set_option linter.all false
namespace Go.DL
open Go.Proofs.Tryz
open Go Go.Proofs
set_option maxHeartbeats 8000000
@[simp] theorem cInit_tk(x:Init):List.take 2 (Iq x)=Iq x:=rfl
theorem Gd(x:Init)(s:Int)(O:Sig):DCall prog 292 ([]++[.agg (Iq x)]++[.cptr [dI s] 0]) O (rS (.bool (decide (x.slot=s))) O):=by
 refine en func292 ntmps292 ?_
 refine gz ?_
 exact fe1 trivial
theorem Ge(l:List Init)(p:Init->Bool)(g:Nat)(cap:List D)(o:Own)(O:Sig)(hl:l.length<=1073741824)(hg:∀v∈l,DCall prog g ([]++[.agg (Iq v)]++cap) O (rS (.bool (p v)) O)):DCall prog 291 [.slice (l.map Iq) o,.func (.func g) [] cap] O (rS (dI (idxF p l 0)) O):=by
 refine en func291 ntmps291 ?_
 refine gz ?_
 refine CJ [0,1,7] (fun (k:Nat)=>k<=l.length/\idxF p l 0=idxF p (l.drop k) k) (fun k=>[(8,dI k)]) (fun _=>O) (fun k=>l.length-k) (0) (by simp) (fun k hI=>?_)
 obtain⟨hk,hR⟩:=hI
 by_cases h:k<l.length
 ·rw[Ac h,idxF]at hR
  repeat' first|refine C3 (hg (l[k]) (List.getElem_mem h)) ?_|refine callP (hg (l[k]) (List.getElem_mem h)) ?_|refine gz ?_|apply gy<;>intro hh
  ·rw[hh]at hR
   exact fe1 hR
  ·rw[hh]at hR
   exact⟨k+1,⟨by omega,hR⟩,td1,wkR⟩
 ·rw[Ai h,idxF]at hR
  refine gz ?_
  exact fe1 hR
theorem idxF_find{α:Type}(q:α->Bool): ∀(l:List α) (k:Nat),(idxF q l k = -1/\l.find? q=none) \/ ∃(j:Nat) (hj:j<l.length),idxF q l k=k+j/\l.find? q=some l[j]
 |[],_=>.inl ⟨rfl,rfl⟩
 | x::r,k=>by
  cases h:q x with
  |true=>exact .inr ⟨0,by simp,by rw[idxF,if_pos h];simp,by rw[List.find?_cons,h];rfl⟩
  |false=>
   rcases idxF_find q r (k+1)with⟨h1,h2⟩|⟨j,hj,h1,h2⟩
   ·exact .inl ⟨by rw[idxF,if_neg (by rw[h];simp)];exact h1,by rw[List.find?_cons,h];exact h2⟩
   ·exact .inr ⟨j+1,by simpa using hj,by rw[idxF,if_neg (by rw[h];simp),h1];push_cast;omega,by rw[List.find?_cons,h];exact h2⟩
theorem LM(m:List (Int×Int)): ∀l:List Int,(beginL m l).length<=l.length
 |[]=>Nat.le_refl _
 |s::r=>by
  have:=LM m r
  rw[beginL];split
  ·simp only[List.length_cons];omega
  ·simp only[List.length_cons];omega
def eIT(m:List (Int×MThing)):List (D×D):=eM dI (fun x=>.agg (cTh x)) m
@[simp] theorem putIT(k c:Int)(l:List MVal)(m:List (Int×MThing)):Cw (.int .i64) (.int .i64 k) (.agg [.int .i64 c,.slice (l.map cVal) .no]) (eIT m)=some (eIT (putM k ⟨c,l⟩ m)):=MV keyI (fun x=>.agg (cTh x)) k ⟨c,l⟩ m
theorem hitIT(k:Int)(m:List (Int×MThing))(h:hasM k m=true):hitD tab 131 false (C9 (.int .i64) (.int .i64 k) (eIT m) 0)=some (.agg (cTh (getM ⟨0,[]⟩ k m))):=by
 have:=TZ (tab:=tab) (e:=131) keyI (fun x:MThing=>.agg (cTh x)) (z:=⟨0,[]⟩) rfl k m
 rw[h]at this
 exact this
def mp1(p:BProg):Nat->List (Int×List Int)
 |0=>[]
 |i+1=>putM ((i:Int)+3) (hasP p ((i:Int)+3)) (mp1 p i)
def mp2(p:BProg):Nat->List (Int×MThing)
 |0=>[]
 |i+1=>putM ((i:Int)+3) ⟨(i:Int)+3,(A2 p).fresh ((i:Int)+3)⟩ (mp2 p i)
theorem K1(p:BProg)(j:Nat): ∀i,j<i->hasM ((j:Int)+3) (mp1 p i)=true/\getM [] ((j:Int)+3) (mp1 p i)=hasP p ((j:Int)+3)
 |0,h=>by omega
 | i+1,h=>by
  rw[mp1,G5,Eg]
  by_cases e:j=i
  ·subst e;simp
  ·rw[if_neg (by omega)]
   obtain⟨h1,h2⟩:=K1 p j i (by omega)
   exact⟨by rw[h1];simp,h2⟩
theorem Pl(p:BProg)(j:Nat): ∀i,j<i->hasM ((j:Int)+3) (mp2 p i)=true/\getM ⟨0,[]⟩ ((j:Int)+3) (mp2 p i)=⟨(j:Int)+3,(A2 p).fresh ((j:Int)+3)⟩
 |0,h=>by omega
 | i+1,h=>by
  rw[mp2,G5,Eg]
  by_cases e:j=i
  ·subst e;simp
  ·rw[if_neg (by omega)]
   obtain⟨h1,h2⟩:=Pl p j i (by omega)
   exact⟨by rw[h1];simp,h2⟩
def cKnw(p:BProg)(i1 i2:Nat):D:=.cptr (Ag p++[.map i1,.map i2]) 0
def KnwS(p:BProg)(i1 i2:Nat)(S0 O:Sig):Prop:=Sub S0 O/\O i1=some (.map (eIO (mp1 p p.classes.length)))/\O i2=some (.map (eIT (mp2 p p.classes.length)))
theorem frzC{ro:Ro}{n:Nat}{Q:DX->St->Prop}{df:List DDf}{γ:Fr}{O:Sig}{c:Code}{i sz:Nat}{r:RW}{es:List (List D)}(a0 b0:List D)(hm:RWAt O sz r es)(hi:O i=some (.cells (a0++r.d es.length::b0)))(a8:¬r.is i)
  (h:∀U',U' i=some (.cells (a0 ++ .slice es .no::b0))->(∀j o,O j=some o->j≠i->¬r.is j->U' j=some o)->DWp prog ro n c Q ⟨γ,U',df⟩):DWp prog ro n c Q ⟨γ,O,df⟩:=by
 obtain⟨U2,h1,h2,h3⟩:=BC (P:=prog) (n:=n) (γ:=γ) (df:=df) hm hi a8
 exact Jp h1 (h U2 h2 h3)
theorem Lb(p:BProg)(O:Sig)(hp:p.wt<=1073741824)(hk:okP p=true):DCall prog 242 [.agg (Ag p)] O fun x U'=> ∃i1 i2,x=.ret (cKnw p i1 i2)/\KnwS p i1 i2 O U':=by
 obtain⟨p1,p2,p3,p4,p5,p6,p7⟩:=p.wt_le
 refine en func242 ntmps242 ?_
 refine gz ?_ o242 [6,11]
 refine newM (fun i1 h1=>?_)
 refine newM (fun i2 h2=>?_)
 have hne:i1≠i2:=fun e=>by rw[<-e,w6]at h2;cases h2
 have bE:O i2=none:=by rw[w7 _ _ fun e=>hne e.symm]at h2;exact h2
 refine gz ?_ o242 [6,11]
 refine Db [1,2,3,20,82] (fun (k:Nat) (U2:Sig)=>k<=p.classes.length/\Sub O U2/\U2 i1=some (.map (eIO (mp1 p k)))/\U2 i2=some (.map (eIT (mp2 p k)))) (fun k _=>[(21,dI k)]) (fun _ U2=>U2) (fun k _=>p.classes.length-k) (0) ((O.set i1 (.map [])).set i2 (.map [])) (by exact⟨Nat.zero_le _,((Sub.refl _).set h1).set bE,by rw[w7 _ _ hne,w6];rfl,w6 ..⟩) (fun k U2 hI=>?_)
 obtain⟨bM,hS,ap,hm2⟩:=hI
 by_cases aq:k<p.classes.length
 ·have ai:(ownF p ((k:Int)+3)&&okP p)=true:=by unfold ownF;rw[hk];simp;omega
  have aK:Sub (U2.out fun j=>j=i1) (U2.set i1 (.map (eIO (putM ((k:Int)+3) (hasP p ((k:Int)+3)) (mp1 p k))))):=fun j o hj=>by
   obtain⟨a,b⟩:=Cn hj
   rw[w7 _ _ b];exact a
  have hC:Sub (U2.out fun j=>j=i1) U2:=Cm _ _
  refine gz ?_ (delO 6 o242) [6,11]
  refine Hf (id:=6) [0,1,2,3,4,5,6,7,8,9,10,11] [7,11] (U2.out fun j=>j=i1) (Cm _ _) ?_
  refine gf (gi ap ai) ?_ o242 [6,11]
  obtain⟨S3,aU⟩:∃S3,S3=U2.set i1 (.map (eIO (putM ((k:Int)+3) (hasP p ((k:Int)+3)) (mp1 p k)))):=⟨_,rfl⟩
  rw[<-aU]
  have aj:S3 i1=some (.map (eIO (mp1 p (k+1)))):=by rw[aU,w6];rfl
  have aw:S3 i2=some (.map (eIT (mp2 p k))):=by rw[aU,w7 _ _ fun e=>hne e.symm];exact hm2
  have bp:Sub O S3:=fun j o hj=>by rw[aU,w7 _ _ fun e=>by rw[e,h1]at hj;cases hj];exact hS j o hj
  obtain⟨g1,g2⟩:=K1 p k (k+1) (by omega)
  have aa:hitD tab 23 false (C9 (.int .i64) (.int .i64 ((k:Int)+3)) (eIO (mp1 p (k+1))) 0)=some (sl (cI (hasP p ((k:Int)+3)))):=by rw[SW,g1,g2];rfl
  have bl:=C8 p ((k:Int)+3)
  have bt:=E1 p
  clear aU ap hm2 aK hC
  refine newV (fun i6 h6=>?_)
  have n1:i1≠i6:=fun e=>by rw[<-e,aj]at h6;cases h6
  have n2:i2≠i6:=fun e=>by rw[<-e,aw]at h6;cases h6
  refine gf (gi aj (gi aw (gi ai aa))) ?_ o242 [6,11]
  obtain⟨hs,bk⟩:∃hs,hs=hasP p ((k:Int)+3):=⟨_,rfl⟩
  obtain⟨ini,aC⟩:∃ini,ini=DZ p ((k:Int)+3):=⟨_,rfl⟩
  have bb:ini.length<=1073741824:=by rw[aC];unfold DZ;have:=LM (H9 p (linF (p.classes.map (·.parents)) ((k:Int)+3))) (hasP p ((k:Int)+3));omega
  rw[<-bk]at bl
  rw[<-bk,<-aC]
  refine Fw [1,2,3,4,5,6,7,8,20,21,22,23,24,25,26,27,28,29,30,31,32,33,34,35,36,37,38,39,40,41,42,43,44,45,46,47,48,49,50,51,75,76,77,78,79,80,81,82] (fun (q:Nat) (r:RW) (S4:Sig)=>q<=hs.length/\Sub S3 S4/\S4 i6=some (.cells [.int .i64 ((k:Int)+3),r.d q])/\RWAt S4 2 r ((hs.take q).map fun s=>cVal (frV ini s)) /\ ¬r.is i6 /\ ∀j,r.is j->S3 j=none) (fun q _ _=>[(52,dI q)]) (fun _ _ S4=>S4) (fun q _ _=>hs.length-q) (0) (.nil) (S3.set i6 (.cells [.int .i64 ((k:Int)+3),.nils])) (by exact⟨Nat.zero_le _,(Sub.refl _).set h6,w6 .., rfl,id,fun _ h=>h.elim⟩) (fun q r S4 hI=>?_)
  obtain⟨bw,aF,o6,hR,bh,aS⟩:=hI
  by_cases au:q<hs.length
  ·have ac:((hs.take q).map fun s=>cVal (frV ini s)).length=q:=by simp;omega
   refine gf o6 ?_ o242 [6,11]
   refine newV (fun i11 bY=>?_)
   have am:∀j o,S4 j=some o->j≠i11:=fun j o hj e=>by rw[e,bY]at hj;cases hj
   have n611:=am _ _ o6
   rcases idxF_find (fun x:Init=>decide (x.slot=hs[q])) ini 0 with⟨hx,aE⟩|⟨m,hm,hx,aE⟩
   ·repeat' first|refine gf (gi o6 hx) ?_ [] [6,11]|refine C3 (Ge ini (fun x=>decide (x.slot=hs[q])) 292 [.cptr [dI hs[q]] 0] .no _ bb (fun v _=>Gd v hs[q] _)) ?_|refine callP (Ge ini (fun x=>decide (x.slot=hs[q])) 292 [.cptr [dI hs[q]] 0] .no _ bb (fun v _=>Gd v hs[q] _)) ?_|refine gf (gi o6 hx) ?_ o242 [6,11]|apply gy<;>intro hh
    refine xapp (new:=[cVal (E4)]) (es:=(hs.take q).map fun s=>cVal (frV ini s)) (fun j c cs S6 aV ar=>?_) (hR.keep fun j o hj aJ=>by rw[w7 _ _ (am j o hj)];exact hj) (hsz:=by simp) (h1:=by rw[ac];with_unfolding_all rfl) (hb:=by rw[ac];simp;omega) (hm2:=by rw[ac];simp;omega)
    rw[show((hs.take q).map fun s=>cVal (frV ini s))++[cVal (E4)]=(hs.take (q+1)).map fun s=>cVal (frV ini s) by rw[List.take_succ_eq_append_getElem au,List.map_append];simp only[List.map_cons,List.map_nil];rw[show frV ini hs[q]=E4 by unfold frV;rw[aE]]]at aV
    rw[show((hs.take q).map fun s=>cVal (frV ini s)).length+[cVal (E4)].length=q+1 by rw[ac];rfl]
    obtain⟨k6,k7⟩:=ar i6 _ ((w7 _ _ n611).trans o6) bh
    have ae:∀x o,S3 x=some o->S6 x=some o /\ ¬(RW.row j c cs).is x:=fun x o hx=>ar x o (by rw[w7 _ _ (am x o (aF x o hx))];exact aF x o hx) (fun h=>by rw[aS x h]at hx;cases hx)
    have bm:∀x,(RW.row j c cs).is x->S3 x=none:=fun x hx=>by
     cases h:S3 x
     ·rfl
     ·exact absurd hx (ae x _ h).2
    refine gf k6 ?_ o242 [6,11]
    exact⟨q+1,.row j c cs,S6.set i6 (.cells [.int .i64 ((k:Int)+3),.sref j 0 (q+1) c]),⟨by omega,fun x o hx=>by rw[w7 _ _ (fun e=>by rw[e,h6]at hx;cases hx)];exact(ae x o hx).1,w6 .., aV.keep fun x o hx hj=>by rw[w7 _ _ (fun e=>by subst e;exact k7 hj)];exact hx,k7,bm⟩,td1,wkR⟩
   ·repeat' first|refine gf (gi o6 hx) ?_ [] [6,11]|refine C3 (Ge ini (fun x=>decide (x.slot=hs[q])) 292 [.cptr [dI hs[q]] 0] .no _ bb (fun v _=>Gd v hs[q] _)) ?_|refine callP (Ge ini (fun x=>decide (x.slot=hs[q])) 292 [.cptr [dI hs[q]] 0] .no _ bb (fun v _=>Gd v hs[q] _)) ?_|refine gf (gi o6 hx) ?_ o242 [6,11]|apply gy<;>intro hh
    refine xapp (new:=[cVal (vInt (ini[m]).n)]) (es:=(hs.take q).map fun s=>cVal (frV ini s)) (fun j c cs S6 aV ar=>?_) (hR.keep fun j o hj aJ=>by rw[w7 _ _ (am j o hj)];exact hj) (hsz:=by simp) (h1:=by rw[ac];with_unfolding_all rfl) (hb:=by rw[ac];simp;omega) (hm2:=by rw[ac];simp;omega)
    rw[show((hs.take q).map fun s=>cVal (frV ini s))++[cVal (vInt (ini[m]).n)]=(hs.take (q+1)).map fun s=>cVal (frV ini s) by rw[List.take_succ_eq_append_getElem au,List.map_append];simp only[List.map_cons,List.map_nil];rw[show frV ini hs[q]=vInt (ini[m]).n by unfold frV;rw[aE]]]at aV
    rw[show((hs.take q).map fun s=>cVal (frV ini s)).length+[cVal (vInt (ini[m]).n)].length=q+1 by rw[ac];rfl]
    obtain⟨k6,k7⟩:=ar i6 _ ((w7 _ _ n611).trans o6) bh
    have ae:∀x o,S3 x=some o->S6 x=some o /\ ¬(RW.row j c cs).is x:=fun x o hx=>ar x o (by rw[w7 _ _ (am x o (aF x o hx))];exact aF x o hx) (fun h=>by rw[aS x h]at hx;cases hx)
    have bm:∀x,(RW.row j c cs).is x->S3 x=none:=fun x hx=>by
     cases h:S3 x
     ·rfl
     ·exact absurd hx (ae x _ h).2
    refine gf k6 ?_ o242 [6,11]
    exact⟨q+1,.row j c cs,S6.set i6 (.cells [.int .i64 ((k:Int)+3),.sref j 0 (q+1) c]),⟨by omega,fun x o hx=>by rw[w7 _ _ (fun e=>by rw[e,h6]at hx;cases hx)];exact(ae x o hx).1,w6 .., aV.keep fun x o hx hj=>by rw[w7 _ _ (fun e=>by subst e;exact k7 hj)];exact hx,k7,bm⟩,td1,wkR⟩
  ·obtain rfl:q=hs.length:=by omega
   rw[List.take_length]at hR
   have bT:(hs.map fun s=>cVal (frV ini s))=((A2 p).fresh ((k:Int)+3)).map cVal:=by unfold A2;simp only[List.map_map];rw[<-bk,<-aC];rfl
   have hlen:(hs.map fun s=>cVal (frV ini s)).length=hs.length:=by simp
   refine frzC [.int .i64 ((k:Int)+3)] [] hR (by rw[hlen];exact o6) bh (fun S5 o5 bj=>?_)
   rw[bT]at o5
   have bK:S5 i2=some (.map (eIT (mp2 p k))):=bj i2 _ (aF _ _ aw) n2 (fun h=>by rw[aS _ h]at aw;cases aw)
   have bx:S5 i1=some (.map (eIO (mp1 p (k+1)))):=bj i1 _ (aF _ _ aj) n1 (fun h=>by rw[aS _ h]at aj;cases aj)
   have aK:Sub (S5.out fun j=>j=i2) (S5.set i2 (.map (eIT (putM ((k:Int)+3) ⟨(k:Int)+3,(A2 p).fresh ((k:Int)+3)⟩ (mp2 p k))))):=fun j o hj=>by
    obtain⟨a,b⟩:=Cn hj
    rw[w7 _ _ b];exact a
   have o7:=Da (touch:=fun j=>j=i2) o5 (fun e=>n2 e.symm)
   have m7:=Da (touch:=fun j=>j=i2) bx hne
   have hC:Sub (S5.out fun j=>j=i2) S5:=Cm _ _
   refine gf o7 ?_ (delO 18 o242) [6,11]
   refine Hf (id:=18) [0,1,2,3,4,5,6] [6] (S5.out fun j=>j=i2) (Cm _ _) ?_
   refine gf (gi o7 bK) ?_ o242 [6,11]
   have bW:∀x o,O x=some o->S5 x=some o:=fun x o hx=>bj x o (aF x o (bp x o hx)) (fun e=>by have:=bp x o hx;rw[e,h6]at this;cases this) (fun h=>by have:=bp x o hx;rw[aS x h]at this;cases this)
   exact⟨k+1,S5.set i2 (.map (eIT (putM ((k:Int)+3) ⟨(k:Int)+3,(A2 p).fresh ((k:Int)+3)⟩ (mp2 p k)))),⟨by omega,fun x o hx=>by rw[w7 _ _ (fun e=>by rw[e,bE]at hx;cases hx)];exact bW x o hx,by rw[w7 _ _ hne];exact bx,w6 ..⟩,td1,wkR⟩
 ·obtain rfl:k=p.classes.length:=by omega
  refine gz ?_ o242 [6,11]
  exact fin1 (U':=U2) ⟨i1,i2,rfl,hS,ap,hm2⟩
theorem FrV.set{O S1:Sig}{r:RW}{l:List MVal}{i2:Nat}{ds:List D}(h:FrV (O.set i2 (.cells ds)) r l S1)(bR:O i2=none)(ds':List D):FrV O r l (S1.set i2 (.cells ds')):=by
 obtain⟨h1,h2,h3⟩:=h
 have bP:=(h2 i2 _ (w6 ..) id).2
 refine⟨h1.keep fun j o hj aJ=>by rw[w7 _ _ fun e=>bP (by rw[<-e];exact aJ)];exact hj,fun j o hj _=>?_,h3⟩
 have hne:j≠i2:=fun e=>by rw[e,bR]at hj;cases hj
 have:=h2 j o (by rw[w7 _ _ hne];exact hj) id
 exact⟨by rw[w7 _ _ hne];exact this.1,this.2⟩
theorem FrV.out{O X':Sig}{r:RW}{l:List MVal}{k:Nat}{x:DObj}(h:FrV (O.set k x) r l X')(hk:O k=none): ∃U',FrV O r l U'/\U' k=none/\X'=U'.set k x:=by
 obtain⟨h1,h2,h3⟩:=h
 obtain⟨g1,g2⟩:=h2 k _ (w6 ..) id
 refine⟨X'.del k,⟨h1.keep fun j o hj aJ=>?_,fun j o hj _=>?_,h3⟩,by simp[Sig.del],?_⟩
 ·have hne:j≠k:=fun e=>g2 (e ▸ aJ)
  simp only[Sig.del,hne,if_false];exact hj
 ·have hne:j≠k:=fun e=>by rw[e,hk]at hj;cases hj
  have:=h2 j o (by rw[w7 _ _ hne];exact hj) id
  refine⟨?_,this.2⟩
  simp only[Sig.del,hne,if_false];exact this.1
 ·funext j
  by_cases e:j=k
  ·subst e;rw[w6];exact g1
  ·rw[w7 _ _ e];simp only[Sig.del,e,if_false]
theorem FrV.new{O S1:Sig}{r:RW}{l:List MVal}{k:Nat}(h:FrV O r l S1)(hk:S1 k=none)(o:DObj):FrV O r l (S1.set k o):=by
 obtain⟨h1,h2,h3⟩:=h
 exact⟨h1.keep fun j o hj aJ=>by rw[w7 _ _ fun e=>by rw[e,hk]at hj;cases hj];exact hj,fun j o hj _=>by
  have:=h2 j o hj id
  exact⟨by rw[w7 _ _ fun e=>by rw[e,hk]at this;cases this.1];exact this.1,this.2⟩,h3⟩
theorem Mj(p:BProg)(c:Int):((A2 p).fresh c).length=(hasP p c).length:=by unfold A2;simp
theorem Ie(p:BProg)(i1 i2:Nat)(c:Int)(S0 O:Sig)(hp:p.wt<=1073741824)(hK:KnwS p i1 i2 S0 O)(hc:ownF p c=true)(hn:(hasP p c).length<=1000000):DCall prog 243 [cKnw p i1 i2,dI c] O fun y U'=> ∃r,y=.ret (.agg [dI c,r.d ((A2 p).fresh c).length])/\FrV O r ((A2 p).fresh c) U':=by
 obtain⟨hS,ap,hm2⟩:=hK
 unfold ownF at hc
 simp only[Bool.and_eq_true,decide_eq_true_eq]at hc
 obtain⟨j,hj⟩:∃j:Nat,c=(j:Int)+3:=⟨(c-3).toNat,by omega⟩
 obtain⟨g1,g2⟩:=Pl p j p.classes.length (by omega)
 rw[<-hj]at g1 g2
 have aa:=hitIT c (mp2 p p.classes.length) g1
 rw[g2]at aa
 have hl:=Mj p c
 unfold cKnw
 refine en func243 ntmps243 ?_
 refine gz ?_ [] [4]
 refine newV (fun i4 aQ=>?_)
 have n2:i2≠i4:=fun e=>by rw[<-e,hm2]at aQ;cases aQ
 refine gf (gi hm2 aa) ?_ [] [4]
 refine A3 (L8 ((A2 p).fresh c) .no _ (by omega)) (fun d S1 hr=>?_) (fun d S1 hr=>by obtain⟨_,h,_⟩:=hr;cases h)
 obtain⟨r,hd,hF⟩:=hr
 have aD:=(hF.2.1 i4 _ (w6 ..) id).1
 have ah:=hF.set aQ
 cases hd
 rcases r with _|es|⟨i,c',cs⟩
 ·refine gf aD ?_ [] [4]
  exact finC (U':=S1.set i4 (.cells [dI c,.nils])) ⟨.nil,rfl,ah _⟩
 ·refine gf aD ?_ [] [4]
  exact finC (U':=S1.set i4 (.cells [dI c,.slice es .clip])) ⟨.full es,rfl,ah _⟩
 ·refine gf aD ?_ [] [4]
  exact finC (U':=S1.set i4 (.cells [dI c,.sref i 0 ((A2 p).fresh c).length c'])) ⟨.row i c' cs,rfl,ah _⟩
theorem QR(p:BProg)(c:Int)(O:Sig)(hp:p.wt<=1073741824)(hk:okP p=true)(hc:ownF p c=true)(hn:(hasP p c).length<=1000000):DCall prog 179 [.agg (Ag p),dI c] O fun y U'=> ∃r,y=.ret (.tup [.agg [dI c,r.d ((A2 p).fresh c).length],dI 0])/\FrV O r ((A2 p).fresh c) U':=by
 have ai:(ownF p c&&okP p)=true:=by rw[hc,hk];rfl
 refine en func179 ntmps179 ?_
 refine gz ?_ [] [4]
 refine newV (fun i4 aQ=>?_)
 refine gf ai ?_ [] [4]
 refine A3 (Lb p _ hp hk) (fun d S1 hr=>?_) (fun d S1 hr=>by obtain⟨_,_,h,_⟩:=hr;cases h)
 obtain⟨i1,i2,hd,hK⟩:=hr
 cases hd
 refine gz ?_ [] [4]
 refine A3 (Ie p i1 i2 c _ S1 hp hK hc hn) (fun d U2 hr=>?_) (fun d U2 hr=>by obtain⟨_,h,_⟩:=hr;cases h)
 obtain⟨r,hd,hF⟩:=hr
 have o4:=hK.1 i4 _ (w6 ..)
 have aD:=(hF.2.1 i4 _ o4 id).1
 have bd:FrV (O.set i4 (.cells [.int .i64 0,.nils])) r ((A2 p).fresh c) U2:=⟨hF.1,fun j o hj _=>hF.2.1 j o (hK.1 j o hj) id,hF.2.2⟩
 have ah:=bd.set aQ
 cases hd
 rcases r with _|es|⟨i,c',cs⟩
 ·refine gf aD ?_ [] [4]
  exact finC (U':=U2.set i4 (.cells [dI c,.nils])) ⟨.nil,rfl,ah _⟩
 ·refine gf aD ?_ [] [4]
  exact finC (U':=U2.set i4 (.cells [dI c,.slice es .clip])) ⟨.full es,rfl,ah _⟩
 ·refine gf aD ?_ [] [4]
  exact finC (U':=U2.set i4 (.cells [dI c,.sref i 0 ((A2 p).fresh c).length c'])) ⟨.row i c' cs,rfl,ah _⟩
section
variable {ir:Nat}{p:BProg}{R:Nat->RW}{s:GoS}{O:Sig}
theorem RunS.fresh(h:RunS ir p R s O){S1:Sig}{r:RW}{l:List MVal}(hF:FrV O r l S1):S1 ir=some (.cells (AM p R s)) /\ ¬r.is ir/\RWAt S1 2 (R 3) (tCells (fun k=>R (k+4)) s.objs):=
 ⟨(hF.2.1 ir _ h.obj id).1,(hF.2.1 ir _ h.obj id).2,(h.rows.ok 3).keep fun j o hj _=>(hF.2.1 j o hj id).1⟩
theorem RunS.obj_add(h:RunS ir p R s O){S1 U2:Sig}{r:RW}{x:MThing}(hF:FrV O r x.slots S1){i c:Nat}{cs:List D}(hr:RWAt U2 2 (.row i c cs) (tCells (fun k=>R (k+4)) s.objs++[[dI x.cls,r.d x.slots.length]]))(hk:RWK S1 (R 3) U2 (.row i c cs)){ds:List D}
  (hd:ds=AM p (updF (updF R (s.objs.length+4) r) 3 (.row i c cs)) { s with objs:=s.objs++[x] }) :
  RunS ir p (updF (updF R (s.objs.length+4) r) 3 (.row i c cs)) { s with objs:=s.objs++[x] } (U2.set ir (.cells ds))/\RunK ir R O (updF (updF R (s.objs.length+4) r) 3 (.row i c cs)) (U2.set ir (.cells ds)):=by
 obtain⟨f1,f2,f3⟩:=hF
 have e2:rSz (s.objs.length+4)=2:=by unfold rSz;rw[if_neg (by omega)]
 have u1:=h.rows.upd (a:=s.objs.length+4) (r':=r) (by rw[e2];exact f1) (fun j o hj _=>f2 j o hj id)
 have u2:=u1.upd (a:=3) (r':=.row i c cs) hr (by rw[A7 _ _ (by omega)];exact hk)
 have bU:∀a,rCt (updF (updF R (s.objs.length+4) r) 3 (.row i c cs)) { s with objs:=s.objs++[x] } a=updF (updF (rCt R s) (s.objs.length+4) (x.slots.map cVal)) 3 (tCells (fun k=>R (k+4)) s.objs++[[dI x.cls,r.d x.slots.length]]) a:=fun a=>by
  match a with
  |0=>rw[A7 _ _ (by omega),A7 _ _ (by omega)];rfl
  |1=>rw[A7 _ _ (by omega),A7 _ _ (by omega)];rfl
  |2=>rw[A7 _ _ (by omega),A7 _ _ (by omega)];rfl
  |3=>
   rw[Ah]
   show tCells (fun k=>updF (updF R (s.objs.length+4) r) 3 (.row i c cs) (k+4)) (s.objs++[x])=_
   rw[IT (fun k=>R (k+4)) _ s.objs x fun k hk=>by rw[A7 _ _ (by omega),A7 _ _ (by omega)]]
   simp only[A7 (updF R (s.objs.length+4) r) (RW.row i c cs) (show s.objs.length+4≠3 by omega),Ah]
  | k+4 =>
   rw[A7 _ _ (by omega)]
   show(((s.objs++[x])[k]?).getD ⟨0,[]⟩).slots.map cVal=_
   by_cases e:k=s.objs.length
   ·subst e;rw[Ah];simp
   ·rw[A7 _ _ (by omega)]
    show _=((s.objs[k]?).getD ⟨0,[]⟩).slots.map cVal
    by_cases hk:k<s.objs.length
    ·rw[List.getElem?_append_left hk]
    ·rw[List.getElem?_eq_none (by simp;omega),List.getElem?_eq_none (by omega)]
 have hR:=u2.retell bU
 obtain⟨a1,a2⟩:=f2 ir _ h.obj id
 obtain⟨b1,b2⟩:=hk ir _ a1 (h.ni 3)
 have a8:∀a, ¬(updF (updF R (s.objs.length+4) r) 3 (.row i c cs) a).is ir:=fun a ha=>by
  by_cases e3:a=3
  ·subst e3;rw[Ah]at ha;exact b2 ha
  ·rw[A7 _ _ e3]at ha
   by_cases e4:a=s.objs.length+4
   ·subst e4;rw[Ah]at ha;exact a2 ha
   ·rw[A7 _ _ e4]at ha;exact h.ni a ha
 refine⟨⟨by rw[w6,hd],hR.keep fun j o hj ⟨b,hb⟩=>by rw[w7 _ _ fun e=>a8 b (by rw[<-e];exact hb)];exact hj,a8,fun a es he=>?_⟩,fun j o hj ba hn=>?_⟩
 ·by_cases e3:a=3
  ·subst e3;rw[Ah]at he;cases he
  ·rw[A7 _ _ e3]at he
   by_cases e4:a=s.objs.length+4
   ·subst e4;rw[Ah]at he;exact f3 es he
   ·rw[A7 _ _ e4]at he;exact h.nf a es he
 ·obtain⟨k3,k4⟩:=f2 j o hj id
  obtain⟨k5,k6⟩:=hk j o k3 (hn 3)
  refine⟨by rw[w7 _ _ ba];exact k5,fun a ha=>?_⟩
  by_cases e3:a=3
  ·subst e3;rw[Ah]at ha;exact k6 ha
  ·rw[A7 _ _ e3]at ha
   by_cases e4:a=s.objs.length+4
   ·subst e4;rw[Ah]at ha;exact k4 ha
   ·rw[A7 _ _ e4]at ha;exact hn a ha
theorem Sx{O:Sig}{sz:Nat}{r:RW}{es:List (List D)}{n:Nat}(h:RWAt O sz r es)(hn:es.length=n)(e:Nat):lenD (.slice e) (r.d n)=some (.int .i64 n):=by
 subst hn
 cases r with
 |nil=>obtain rfl:es=[]:=h;rfl
 |full es0=>obtain⟨rfl,_⟩:=h;rfl
 |row i c cs=>rfl
theorem Rg(x:CIns)(hp:p.wt<=1073741824)(hk:okP p=true)(hc:ownF p x.a=true)(hn:(hasP p x.a).length<=1000000)(hR:RunS ir p R s O)(hs:s.stk.length<=1000000)(ho:s.objs.length<=1000):DCall prog 108 [.ptr ir 0,.agg (cIns x)] O fun y U'=> ∃R',RunK ir R O R' U' /\
  if 40<=s.objs.length then y=.ret (.bool true)/\HaltS ir p R' s .nils false (Fz s 8 s.stk.dropLast) U' else y=.ret (.bool false)/\RunS ir p R' { s with objs:=s.objs++[⟨x.a,(A2 p).fresh x.a⟩],stk:=s.stk++[vObj s.objs.length] } U':=by
 have q1:=hR.obj
 have q3:RWAt O 2 (R 3) (tCells (fun k=>R (k+4)) s.objs):=hR.rows.ok 3
 have bz:=Sx q3 (A5 _ _) 131
 by_cases aG:40<=s.objs.length
 ·refine en func108 ntmps108 ?_
  refine gf (gi q1 bz) ?_ o108
  refine A3 (Gf 8 s.stk.dropLast hR) (fun d S3 hr=>?_) (fun d S3 hr=>by cases hr.1)
  obtain⟨hd,h1,h2⟩:=hr
  cases hd
  refine gz ?_ o108
  exact fin1 (U':=S3) ⟨R,h2,by rw[if_pos aG];exact⟨rfl,h1⟩⟩
 ·refine en func108 ntmps108 ?_
  refine gf (gi q1 bz) ?_ (delO 3 o108)
  refine mixU (id:=3) [0,1,2,3,4,5,6,7,8,9,10,11,12] [11] [6] ?_
  refine u3R (.ptr ir 0) ?_
  refine u3R (.ptr ir 0) ?_
  refine u3R (.ptr ir 11) ?_
  refine u3R (.agg (Ag p)) ?_ (hd:=by simp[q1])
  refine u3R (.cptr (cIns x) 1) ?_
  refine u3R (dI x.a) ?_
  refine u3C (fun τ d X'=> ∃r,d=.tup [.agg [dI x.a,r.d ((A2 p).fresh x.a).length],dI 0]/\FrV τ r ((A2 p).fresh x.a) X') (fun τ=>(QR p x.a τ hp hk hc hn).mono fun y X' ⟨r,h1,h2⟩=>⟨_,h1,r,rfl,h2⟩) (fun τ k z d X' hk ⟨r,h1,h2⟩=>by
   obtain⟨X2,h3,h4,h5⟩:=h2.out hk
   exact⟨X2,⟨r,h1,h3⟩,h4,h5⟩) (fun d S1 ⟨r,hd,hF⟩=>⟨fun j o hj=>(hF.2.1 j o hj id).1,?_⟩)
  have hS:Sub O S1:=fun j o hj=>(hF.2.1 j o hj id).1
  subst hd
  rcases r with _|es|⟨i,c',cs⟩
  ·refine u3R (.tup [.agg [dI x.a,.nils],dI 0]) ?_
   refine u3R (.agg [dI x.a,.nils]) ?_
   refine u3R (dI 0) ?_
   refine u3A [.int .i64 0,.nils] (fun i5 ag=>?_)
   have aN:Sub O ((S1.set i5 (.cells [.int .i64 0,.nils])).set i5 (.cells [dI x.a,.nils])):=(hS.set (hS.none ag)).set (hS.none ag)
   have o5:(S1.set i5 (.cells [.int .i64 0,.nils])) i5=_:=w6 ..
   refine u3M ?_
   simp only[List.map]
   refine Fv Ab tdR (by simp;rfl) aN ?_
   simp only[w8]
   have ah:=hF.new ag (.cells [dI x.a,.nils])
   have o6:(S1.set i5 (.cells [dI x.a,.nils])) i5=_:=w6 ..
   have n5:¬(R 3).is i5:=fun h=>by
    obtain⟨z,hz⟩:=q3.cells h
    rw[hS _ _ hz]at ag;cases ag
   obtain⟨a1,a2,a3⟩:=hR.fresh ah
   generalize S1.set i5 (.cells [dI x.a,.nils])=U2 at*
   have u1:=Da a1 (hR.ni 3)
   have u5:=Da o6 n5
   refine gz ?_ (delO 4 o108)
   refine Fg (id:=4) [0,1,2,3,4,5,6,7,8,9,10,11] [8] (U2.out (R 3).is) (Cm _ _) ?_
   refine gf (gi u1 u5) ?_ o108
   refine FW (new:=[[dI x.a,.nils]]) (es:=tCells (fun k=>R (k+4)) s.objs) (fun j c2 cs2 S3 aO ax=>?_) (fun j o h=>Cn h) (hm:=a3) (h1:=by rw[A5];with_unfolding_all rfl) (hb:=by rw[A5];simp;omega) (hm2:=by rw[A5];simp;omega)
   obtain⟨v1,v2⟩:=ax ir _ a1 (hR.ni 3)
   rw[show(tCells (fun k=>R (k+4)) s.objs).length+[[dI x.a,.nils]].length=s.objs.length+1 by rw[A5];rfl]
   refine gf v1 ?_ o108
   obtain⟨p1,p2⟩:=hR.obj_add (x:=⟨x.a,(A2 p).fresh x.a⟩) (r:=.nil) ah aO ax rfl
   refine drp (S3.set ir (.cells (AM p (updF (updF R (s.objs.length+4) .nil) 3 (.row j c2 cs2)) { s with objs:=s.objs++[⟨x.a,(A2 p).fresh x.a⟩] }))) ?_ (by simp[AM,Ag];exact Sub.refl _)
   refine A3 (Bh (vObj s.objs.length) p1 hs) (fun d S4 hr=>?_) (fun d S4 hr=>by cases hr.1)
   obtain⟨hd,R4,aW,aX⟩:=hr
   cases hd
   refine gz ?_ o108
   exact fin1 (U':=S4) ⟨R4,p2.trans aX,by rw[if_neg aG];exact⟨rfl,aW⟩⟩
  ·refine u3R (.tup [.agg [dI x.a,.slice es .clip],dI 0]) ?_
   refine u3R (.agg [dI x.a,.slice es .clip]) ?_
   refine u3R (dI 0) ?_
   refine u3A [.int .i64 0,.nils] (fun i5 ag=>?_)
   have aN:Sub O ((S1.set i5 (.cells [.int .i64 0,.nils])).set i5 (.cells [dI x.a,.slice es .clip])):=(hS.set (hS.none ag)).set (hS.none ag)
   have o5:(S1.set i5 (.cells [.int .i64 0,.nils])) i5=_:=w6 ..
   refine u3M ?_
   simp only[List.map]
   refine Fv Ab tdR (by simp;rfl) aN ?_
   simp only[w8]
   have ah:=hF.new ag (.cells [dI x.a,.slice es .clip])
   have o6:(S1.set i5 (.cells [dI x.a,.slice es .clip])) i5=_:=w6 ..
   have n5:¬(R 3).is i5:=fun h=>by
    obtain⟨z,hz⟩:=q3.cells h
    rw[hS _ _ hz]at ag;cases ag
   obtain⟨a1,a2,a3⟩:=hR.fresh ah
   generalize S1.set i5 (.cells [dI x.a,.slice es .clip])=U2 at*
   have u1:=Da a1 (hR.ni 3)
   have u5:=Da o6 n5
   refine gz ?_ (delO 4 o108)
   refine Fg (id:=4) [0,1,2,3,4,5,6,7,8,9,10,11] [8] (U2.out (R 3).is) (Cm _ _) ?_
   refine gf (gi u1 u5) ?_ o108
   refine FW (new:=[[dI x.a,.slice es .clip]]) (es:=tCells (fun k=>R (k+4)) s.objs) (fun j c2 cs2 S3 aO ax=>?_) (fun j o h=>Cn h) (hm:=a3) (h1:=by rw[A5];with_unfolding_all rfl) (hb:=by rw[A5];simp;omega) (hm2:=by rw[A5];simp;omega)
   obtain⟨v1,v2⟩:=ax ir _ a1 (hR.ni 3)
   rw[show(tCells (fun k=>R (k+4)) s.objs).length+[[dI x.a,.slice es .clip]].length=s.objs.length+1 by rw[A5];rfl]
   refine gf v1 ?_ o108
   obtain⟨p1,p2⟩:=hR.obj_add (x:=⟨x.a,(A2 p).fresh x.a⟩) (r:=(.full es)) ah aO ax rfl
   refine drp (S3.set ir (.cells (AM p (updF (updF R (s.objs.length+4) (.full es)) 3 (.row j c2 cs2)) { s with objs:=s.objs++[⟨x.a,(A2 p).fresh x.a⟩] }))) ?_ (by simp[AM,Ag];exact Sub.refl _)
   refine A3 (Bh (vObj s.objs.length) p1 hs) (fun d S4 hr=>?_) (fun d S4 hr=>by cases hr.1)
   obtain⟨hd,R4,aW,aX⟩:=hr
   cases hd
   refine gz ?_ o108
   exact fin1 (U':=S4) ⟨R4,p2.trans aX,by rw[if_neg aG];exact⟨rfl,aW⟩⟩
  ·refine u3R (.tup [.agg [dI x.a,.sref i 0 ((A2 p).fresh x.a).length c'],dI 0]) ?_
   refine u3R (.agg [dI x.a,.sref i 0 ((A2 p).fresh x.a).length c']) ?_
   refine u3R (dI 0) ?_
   refine u3A [.int .i64 0,.nils] (fun i5 ag=>?_)
   have aN:Sub O ((S1.set i5 (.cells [.int .i64 0,.nils])).set i5 (.cells [dI x.a,.sref i 0 ((A2 p).fresh x.a).length c'])):=(hS.set (hS.none ag)).set (hS.none ag)
   have o5:(S1.set i5 (.cells [.int .i64 0,.nils])) i5=_:=w6 ..
   refine u3M ?_
   simp only[List.map]
   refine Fv Ab tdR (by simp;rfl) aN ?_
   simp only[w8]
   have ah:=hF.new ag (.cells [dI x.a,.sref i 0 ((A2 p).fresh x.a).length c'])
   have o6:(S1.set i5 (.cells [dI x.a,.sref i 0 ((A2 p).fresh x.a).length c'])) i5=_:=w6 ..
   have n5:¬(R 3).is i5:=fun h=>by
    obtain⟨z,hz⟩:=q3.cells h
    rw[hS _ _ hz]at ag;cases ag
   obtain⟨a1,a2,a3⟩:=hR.fresh ah
   generalize S1.set i5 (.cells [dI x.a,.sref i 0 ((A2 p).fresh x.a).length c'])=U2 at*
   have u1:=Da a1 (hR.ni 3)
   have u5:=Da o6 n5
   refine gz ?_ (delO 4 o108)
   refine Fg (id:=4) [0,1,2,3,4,5,6,7,8,9,10,11] [8] (U2.out (R 3).is) (Cm _ _) ?_
   refine gf (gi u1 u5) ?_ o108
   refine FW (new:=[[dI x.a,.sref i 0 ((A2 p).fresh x.a).length c']]) (es:=tCells (fun k=>R (k+4)) s.objs) (fun j c2 cs2 S3 aO ax=>?_) (fun j o h=>Cn h) (hm:=a3) (h1:=by rw[A5];with_unfolding_all rfl) (hb:=by rw[A5];simp;omega) (hm2:=by rw[A5];simp;omega)
   obtain⟨v1,v2⟩:=ax ir _ a1 (hR.ni 3)
   rw[show(tCells (fun k=>R (k+4)) s.objs).length+[[dI x.a,.sref i 0 ((A2 p).fresh x.a).length c']].length=s.objs.length+1 by rw[A5];rfl]
   refine gf v1 ?_ o108
   obtain⟨p1,p2⟩:=hR.obj_add (x:=⟨x.a,(A2 p).fresh x.a⟩) (r:=(.row i c' cs)) ah aO ax rfl
   refine drp (S3.set ir (.cells (AM p (updF (updF R (s.objs.length+4) (.row i c' cs)) 3 (.row j c2 cs2)) { s with objs:=s.objs++[⟨x.a,(A2 p).fresh x.a⟩] }))) ?_ (by simp[AM,Ag];exact Sub.refl _)
   refine A3 (Bh (vObj s.objs.length) p1 hs) (fun d S4 hr=>?_) (fun d S4 hr=>by cases hr.1)
   obtain⟨hd,R4,aW,aX⟩:=hr
   cases hd
   refine gz ?_ o108
   exact fin1 (U':=S4) ⟨R4,p2.trans aX,by rw[if_neg aG];exact⟨rfl,aW⟩⟩
end
theorem Kb(p:BProg)(l:List MThing)(o:Own)(O:Sig)(hp:p.wt<=1073741824)(hl:l.length<=1073741824)(hs:∀x∈l,x.slots.length<=1073741824):DCall prog 45 [.agg (Ag p),.slice (l.map cTh) o] O (rS (dI (if okP p&&B8 (A2 p) l then 0 else 2)) O):=by
 refine en func45 ntmps45 ?_
 cases hk:okP p with
 |false=>
  refine gf hk ?_
  exact fin1 (U':=O) ⟨rfl,rfl⟩
 | true =>
  by_cases aG:l.length<=40
  rotate_left
  ·have aP:B8 (A2 p) l=false:=by unfold B8;simp[aG]
   refine gf hk ?_
   exact fin1 (U':=O) ⟨by rw[aP],rfl⟩
  ·refine gf hk ?_
   refine CJ [1,2,17,18] (fun (k:Nat)=>k<=l.length /\ ∀x∈l.take k,(A2 p).own x.cls=true/\x.slots.length=((A2 p).slots x.cls).length/\okVs l.length x.slots=true) (fun k=>[(19,dI k)]) (fun _=>O) (fun k=>l.length-k) (0) (by exact⟨Nat.zero_le _,by simp⟩) (fun k hI=>?_)
   obtain⟨bM,hI⟩:=hI
   by_cases aq:k<l.length
   ·have b8:=hs _ (List.getElem_mem aq)
    have bl:=C8 p (l[k]).cls
    have bt:=E1 p
    have aP:¬((A2 p).own (l[k]).cls=true/\(l[k]).slots.length=((A2 p).slots (l[k]).cls).length/\okVs l.length (l[k]).slots=true)->B8 (A2 p) l=false:=fun h=>by
     cases hb:B8 (A2 p) l with
     |false=>rfl
     |true=>exact absurd ((By.1 hb).2 _ (List.getElem_mem aq)) h
    cases ho:ownF p (l[k]).cls with
    |false=>
     have hb:=aP fun h=>by have:=h.1;rw[show(A2 p).own (l[k]).cls=(ownF p (l[k]).cls&&okP p) from rfl,ho]at this;cases this
     refine gf (gi hk ho) ?_
     exact fin1 (U':=O) ⟨by rw[hb],rfl⟩
    | true =>
     have bJ:(A2 p).own (l[k]).cls=true:=by show(ownF p (l[k]).cls&&okP p)=true;rw[ho,hk];rfl
     by_cases aH:(l[k]).slots.length=(hasP p (l[k]).cls).length
     ·cases hv:okVs l.length (l[k]).slots with
      |false=>
       have hb:=aP fun h=>by have:=h.2.2;rw[hv]at this;cases this
       refine gf (gi hk (gi ho (gi hv aH))) ?_
       exact fin1 (U':=O) ⟨by rw[hb],rfl⟩
      |true=>
       refine gf (gi hk (gi ho (gi hv aH))) ?_
       exact⟨k+1,⟨by omega,fun x hx=>by rw[List.take_succ_eq_append_getElem aq,List.mem_append,List.mem_singleton]at hx;exact hx.elim (hI x) (fun e=>by rw[e];exact⟨bJ,aH,hv⟩)⟩,td1,wkR⟩
     ·have hb:=aP fun h=>aH h.2.1
      have bi:¬(hasP p (l[k]).cls).length=(l[k]).slots.length:=fun e=>aH e.symm
      refine gf (gi hk (gi ho (gi aH bi))) ?_
      exact fin1 (U':=O) ⟨by rw[hb],rfl⟩
   ·have hb:B8 (A2 p) l=true:=By.2 ⟨aG,by rw[List.take_of_length_le (by omega)]at hI;exact hI⟩
    refine gz ?_
    exact fin1 (U':=O) ⟨by rw[hb],rfl⟩
def curT(w:CWorld)(x:MThing)(c:Int)(q:Nat):List MVal:=(Ce w x c).slots.take q++(w.fresh c).drop q
theorem Cj(w:CWorld)(x:MThing)(c:Int)(h:(w.fresh c).length=(w.slots c).length):(Ce w x c).slots.length=(w.slots c).length:=by unfold Ce;simp[h]
theorem Nt(w:CWorld)(x:MThing)(c:Int)(h:(w.fresh c).length=(w.slots c).length)(q:Nat)(hq:q<=(w.slots c).length):(curT w x c q).length=(w.slots c).length:=by
 unfold curT;rw[List.length_append,List.length_take,List.length_drop,Cj w x c h,h];omega
theorem OR(w:CWorld)(x:MThing)(c:Int)(h:(w.fresh c).length=(w.slots c).length)(q:Nat)(hq:q<(w.slots c).length):(Ce w x c).slots[q]'(by rw[Cj w x c h];exact hq)=(if 0<=idxG ((w.slots c)[q]) (w.slots x.cls) 0 then(x.slots[(idxG ((w.slots c)[q]) (w.slots x.cls) 0).toNat]?).getD vZ else(w.fresh c)[q]'(by rw[h];exact hq)):=by
 unfold Ce;simp
theorem RJ(w:CWorld)(x:MThing)(c:Int)(h:(w.fresh c).length=(w.slots c).length)(q:Nat)(hq:q<(w.slots c).length):curT w x c (q+1)=(curT w x c q).set q ((Ce w x c).slots[q]'(by rw[Cj w x c h];exact hq)):=by
 unfold curT
 have ht:q<(Ce w x c).slots.length:=by rw[Cj w x c h];exact hq
 rw[List.take_succ_eq_append_getElem ht,List.set_append_right _ _ (by rw[List.length_take];omega),List.append_assoc]
 congr 1
 rw[show(w.fresh c).drop q=(w.fresh c)[q]'(by rw[h];exact hq)::(w.fresh c).drop (q+1) from Ac (by rw[h];exact hq),List.length_take_of_le (by omega),Nat.sub_self]
 rfl
theorem TF(w:CWorld)(x:MThing)(c:Int)(h:(w.fresh c).length=(w.slots c).length)(q:Nat)(hq:q<(w.slots c).length):(curT w x c q)[q]? = some ((w.fresh c)[q]'(by rw[h];exact hq)):=by
 unfold curT
 have ht:q<(Ce w x c).slots.length:=by rw[Cj w x c h];exact hq
 rw[List.getElem?_append_right (by rw[List.length_take];omega),List.length_take_of_le (by omega),Nat.sub_self,Ac (l:=w.fresh c) (by rw[h];exact hq)]
 rfl
theorem curT_0(w:CWorld)(x:MThing)(c:Int):curT w x c 0=w.fresh c:=by unfold curT;simp
theorem TG(w:CWorld)(x:MThing)(c:Int)(h:(w.fresh c).length=(w.slots c).length):curT w x c (w.slots c).length=(Ce w x c).slots:=by
 unfold curT;rw[<-h,List.drop_length,List.append_nil,List.take_of_length_le (by rw[Cj w x c h,h];exact Nat.le_refl _)]
theorem Qy(p:BProg)(i1 i2:Nat)(x:MThing)(c:Int)(rx:RW)(S0 O:Sig)(hp:p.wt<=1073741824)(hK:KnwS p i1 i2 S0 O)(hc:ownF p c=true)(bc:ownF p x.cls=true)(hn:(hasP p c).length<=1000000)(hx:RWAt O 2 rx (x.slots.map cVal))(bF:∀es,rx=.full es->es=[])(bZ:x.slots.length=(hasP p x.cls).length):
  DCall prog 246 [cKnw p i1 i2,.agg [dI x.cls,rx.d x.slots.length],dI c] O fun y U'=> ∃r,y=.ret (.agg [dI c,r.d (Ce (A2 p) x c).slots.length])/\FrV O r (Ce (A2 p) x c).slots U':=by
 obtain⟨hS,ap,hm2⟩:=hK
 have aR:=Mj p c
 have ai:=hc
 unfold ownF at ai bc
 simp only[Bool.and_eq_true,decide_eq_true_eq]at ai bc
 obtain⟨j,hj⟩:∃j:Nat,c=(j:Int)+3:=⟨(c-3).toNat,by omega⟩
 obtain⟨jx,bN⟩:∃j:Nat,x.cls=(j:Int)+3:=⟨(x.cls-3).toNat,by omega⟩
 obtain⟨g1,g2⟩:=K1 p j p.classes.length (by omega)
 obtain⟨g3,g4⟩:=K1 p jx p.classes.length (by omega)
 rw[<-hj]at g1 g2
 rw[<-bN]at g3 g4
 have aa:hitD tab 23 false (C9 (.int .i64) (.int .i64 c) (eIO (mp1 p p.classes.length)) 0)=some (sl (cI (hasP p c))):=by rw[SW,g1,g2];rfl
 have ay:hitD tab 23 false (C9 (.int .i64) (.int .i64 x.cls) (eIO (mp1 p p.classes.length)) 0)=some (sl (cI (hasP p x.cls))):=by rw[SW,g3,g4];rfl
 have bl:=C8 p x.cls
 have bt:=E1 p
 by_cases he:hasP p c=[]
 ·have bA:(A2 p).fresh c=[]:=List.length_eq_zero_iff.1 (by rw[aR,he];rfl)
  have aZ:(Ce (A2 p) x c).slots=[]:=List.length_eq_zero_iff.1 (by rw[Cj _ x c aR];show(hasP p c).length=0;rw[he];rfl)
  rw[he]at aa
  unfold cKnw
  refine en func246 ntmps246 ?_
  refine gz ?_ o246 [6]
  refine newV (fun i6 ak=>?_)
  have n1:i1≠i6:=fun e=>by rw[<-e,ap]at ak;cases ak
  have ar:KnwS p i1 i2 S0 (O.set i6 (.cells [.int .i64 0,.nils])):=⟨fun j o hj=>(hS.set (hS.none ak)) j o hj,by rw[w7 _ _ n1];exact ap,by rw[w7 _ _ fun e=>by rw[e,ak]at hm2;cases hm2];exact hm2⟩
  refine gz ?_ o246 [6]
  refine A3 (Ie p i1 i2 c S0 _ hp ar hc hn) (fun d S1 hr=>?_) (fun d S1 hr=>by obtain⟨_,h,_⟩:=hr;cases h)
  obtain⟨r,hd,hF⟩:=hr
  have aj:=(hF.2.1 i1 _ ((w7 _ _ n1).trans ap) id)
  have o6:=(hF.2.1 i6 _ (w6 ..) id)
  have br:FrV (O.set i6 (.cells [.int .i64 0,.nils])) r (Ce (A2 p) x c).slots S1:=by rw[aZ,<-bA];exact hF
  have aY:=br.set ak
  cases hd
  rw[bA]
  rcases r with _|es|⟨i,c',cs⟩
  ·refine gf (gi aj.1 aa) ?_ o246 [6]
   refine CJ [0,4,6,7,19,20,47] (fun (q:Nat)=>True) (fun _=>[(21,dI 0)]) (fun _=>S1) (fun _=>1) (0) (by trivial) (fun q hI=>?_)
   refine gf o6.1 ?_ o246 [6]
   exact finC (U':=S1.set i6 (.cells [dI c,.nils])) ⟨.nil,by rw[aZ],aY _⟩
  ·refine gf (gi aj.1 aa) ?_ o246 [6]
   refine CJ [0,4,6,7,19,20,47] (fun (q:Nat)=>True) (fun _=>[(21,dI 0)]) (fun _=>S1) (fun _=>1) (0) (by trivial) (fun q hI=>?_)
   refine gf o6.1 ?_ o246 [6]
   exact finC (U':=S1.set i6 (.cells [dI c,.slice es .clip])) ⟨.full es,by rw[aZ],aY _⟩
  ·refine gf (gi aj.1 aa) ?_ o246 [6]
   refine CJ [0,4,6,7,19,20,47] (fun (q:Nat)=>True) (fun _=>[(21,dI 0)]) (fun _=>S1) (fun _=>1) (0) (by trivial) (fun q hI=>?_)
   refine gf o6.1 ?_ o246 [6]
   exact finC (U':=S1.set i6 (.cells [dI c,.sref i 0 0 c'])) ⟨.row i c' cs,by rw[aZ],aY _⟩
 ·unfold cKnw
  refine en func246 ntmps246 ?_
  refine gz ?_ o246 [6]
  refine newV (fun i6 ak=>?_)
  have n1:i1≠i6:=fun e=>by rw[<-e,ap]at ak;cases ak
  have ar:KnwS p i1 i2 S0 (O.set i6 (.cells [.int .i64 0,.nils])):=⟨fun j o hj=>(hS.set (hS.none ak)) j o hj,by rw[w7 _ _ n1];exact ap,by rw[w7 _ _ fun e=>by rw[e,ak]at hm2;cases hm2];exact hm2⟩
  refine gz ?_ o246 [6]
  refine A3 (Ie p i1 i2 c S0 _ hp ar hc hn) (fun d S1 hr=>?_) (fun d S1 hr=>by obtain⟨_,h,_⟩:=hr;cases h)
  obtain⟨r,hd,hF⟩:=hr
  cases hd
  have bI:∃i c' cs,r=.row i c' cs:=by
   rcases r with _|es|⟨i,c',cs⟩
   ·have:=hF.1;exact absurd (show((A2 p).fresh c).map cVal=[] from this) (by intro h;have:=congrArg List.length h;rw[List.length_map,aR]at this;exact he (List.length_eq_zero_iff.1 this))
   ·have:=hF.1.1;rw[hF.2.2 es rfl]at this;exact absurd this (by intro h;have:=congrArg List.length h;rw[List.length_map,aR]at this;exact he (List.length_eq_zero_iff.1 this))
   ·exact⟨i,c',cs,rfl⟩
  obtain⟨i,c',cs,rfl⟩:=bI
  have aj:=(hF.2.1 i1 _ ((w7 _ _ n1).trans ap) id)
  have o6:=(hF.2.1 i6 _ (w6 ..) id)
  refine gf (gi aj.1 aa) ?_ o246 [6]
  have hw:((A2 p).fresh c).length=((A2 p).slots c).length:=aR
  have b9:(hasP p x.cls).length<=1073741824:=by omega
  refine Db [0,4,6,7,19,20,47] (fun (q:Nat) (S4:Sig)=>q<=(hasP p c).length/\RWAt S4 2 (.row i c' cs) ((curT (A2 p) x c q).map cVal) /\ ∀j o,S1 j=some o->j≠i->S4 j=some o) (fun q _=>[(21,dI q)]) (fun _ S4=>S4) (fun q _=>(hasP p c).length-q) (0) (S1) (by exact⟨Nat.zero_le _,by rw[curT_0];exact hF.1,fun _ _ h _=>h⟩) (fun q S4 hI=>?_)
  obtain⟨bw,hR,aI⟩:=hI
  have aw:=aI i1 _ aj.1 (fun e=>aj.2 e)
  by_cases au:q<(hasP p c).length
  ·have bu:q<(Ce (A2 p) x c).slots.length:=by rw[Cj _ x c hw];exact au
   have aA:=OR (A2 p) x c hw q au
   have bC:=Nt (A2 p) x c hw q bw
   have bB:=RJ (A2 p) x c hw q au
   have bD:=TF (A2 p) x c hw q au
   change (Ce (A2 p) x c).slots[q]=(if 0<=idxG ((hasP p c)[q]) (hasP p x.cls) 0 then(x.slots[(idxG ((hasP p c)[q]) (hasP p x.cls) 0).toNat]?).getD vZ else _)at aA
   change (curT (A2 p) x c q).length=(hasP p c).length at bC
   by_cases aB:0<=idxG ((hasP p c)[q]) (hasP p x.cls) 0
   ·rw[if_pos aB]at aA
    obtain⟨k,hk⟩:∃k:Nat,idxG ((hasP p c)[q]) (hasP p x.cls) 0=k:=⟨(idxG ((hasP p c)[q]) (hasP p x.cls) 0).toNat,by omega⟩
    obtain⟨m1,m2⟩:=GN (s:=(hasP p c)[q]) (hasP p x.cls) 0 aB
    have aq:k<x.slots.length:=by omega
    rw[hk,Int.toNat_natCast,List.getElem?_eq_getElem aq,Option.getD_some]at aA
    obtain⟨ix,cx,csx,bH,Lx,y1,y2,y3⟩:=rowV (R:=fun _=>rx) (a:=0) hx (fun e=>by
     have e':rx=.nil:=e
     rw[e']at hx
     have:=congrArg List.length (show x.slots.map cVal=[] from hx)
     simp at this;rw[this]at aq;simp at aq) bF aq
    have be:rx=.row ix cx csx:=bH
    subst be
    obtain⟨y4,y5⟩:=hF.2.1 ix _ ((w7 _ _ fun e=>by rw[e,ak]at y1;cases y1).trans y1) id
    have y6:=aI ix _ y4 (fun e=>y5 e)
    obtain⟨L,hL⟩:∃L,L=((curT (A2 p) x c q).map cVal).flatten++cs:=⟨_,rfl⟩
    have z1:S4 i=some (.cells L):=by rw[hL];exact hR.1
    have bq:L.length=(curT (A2 p) x c q).length*2+cs.length:=by rw[hL,Fo]
    have hf:¬L.length<q*2+2:=by omega
    have aL:=OO (curT (A2 p) x c q) q (by omega) (x.slots[k]) cs
    rw[<-hL,<-aA,<-bB,aA,List.append_assoc]at aL
    have aT:=Nt (A2 p) x c hw (q+1) au
    change (curT (A2 p) x c (q+1)).length=(hasP p c).length at aT
    have bX:RWAt (S4.set i (.cells (List.take (q*2) L++(cVal (x.slots[k])++List.drop (q*2+2) L)))) 2 (.row i c' cs) ((curT (A2 p) x c (q+1)).map cVal):=by
     obtain⟨b1,b2,b3,b4⟩:=hR
     refine⟨by rw[w6,aL],?_,by rw[List.length_map,aT];rw[List.length_map,bC]at b3;exact b3,Bi⟩
     rw[Fo]at b2⊢
     omega
    refine gf (gi aw (gi ay (gi hk (gi y6 (gi y2 (gi y3 (gi z1 hf))))))) ?_ o246 [6]
    exact⟨q+1,S4.set i (.cells (List.take (q*2) L++(cVal (x.slots[k])++List.drop (q*2+2) L))),⟨by omega,bX,fun j o hj ba=>by rw[w7 _ _ ba];exact aI j o hj ba⟩,td1,wkR⟩
   ·rw[if_neg aB]at aA
    have aM:curT (A2 p) x c (q+1)=curT (A2 p) x c q:=by
     rw[bB,aA]
     rw[List.getElem?_eq_getElem (by omega)]at bD
     rw[<-Option.some.inj bD,List.set_getElem_self]
    refine gf (gi aw ay) ?_ o246 [6]
    exact⟨q+1,S4,⟨by omega,by rw[aM];exact hR,aI⟩,td1,wkR⟩
  ·obtain rfl:q=(hasP p c).length:=by omega
   have bn:=TG (A2 p) x c hw
   rw[show curT (A2 p) x c (hasP p c).length=(Ce (A2 p) x c).slots from bn]at hR
   have o7:=aI i6 _ o6.1 (fun e=>o6.2 e)
   have br:FrV (O.set i6 (.cells [.int .i64 0,.nils])) (.row i c' cs) (Ce (A2 p) x c).slots S4:=⟨hR,fun j o hj _=>by
    obtain⟨b1,b2⟩:=hF.2.1 j o hj id
    exact⟨aI j o b1 (fun e=>b2 e),b2⟩,fun es h=>by cases h⟩
   have aY:=br.set ak
   have bu:(Ce (A2 p) x c).slots.length=((A2 p).fresh c).length:=by rw[Cj _ x c hw,hw]
   refine gf o7 ?_ o246 [6]
   exact finC (U':=S4.set i6 (.cells [dI c,.sref i 0 ((A2 p).fresh c).length c'])) ⟨.row i c' cs,by rw[bu],aY _⟩
theorem SY(es:List (List D))(h2:∀c∈es,c.length=2)(k:Nat)(hk:k<es.length)(e:List D)(cs:List D):List.take (k*2) (es.flatten++cs)++e++List.drop (k*2+2) (es.flatten++cs)=(es.set k e).flatten++cs:=by
 have e0:es=es.take k++es[k]::es.drop (k+1):=by rw[<-Ac hk,List.take_append_drop]
 have h:(es.take k).flatten.length=k*2:=by rw[Au fun c hc=>h2 c (List.mem_of_mem_take hc),List.length_take_of_le (by omega)]
 have hl:(es[k]).length=2:=h2 _ (List.getElem_mem hk)
 have hs:es.set k e=es.take k++e::es.drop (k+1):=by rw[List.set_eq_take_append_cons_drop,if_pos hk]
 have e2:es.flatten++cs=(es.take k).flatten++(es[k]++((es.drop (k+1)).flatten++cs)):=by
  calc _=(es.take k++es[k]::es.drop (k+1)).flatten++cs:=by rw[<-e0]
   _=_:=by rw[List.flatten_append,List.flatten_cons];simp only[List.append_assoc]
 have e3:(es.set k e).flatten++cs=(es.take k).flatten++(e++((es.drop (k+1)).flatten++cs)):=by
  rw[hs,List.flatten_append,List.flatten_cons];simp only[List.append_assoc]
 rw[e2,e3,<-h,List.take_left,<-List.drop_drop,List.drop_left,List.append_assoc,<-hl,List.drop_left]
theorem LZ(S S':Nat->RW)(l:List MThing)(m:Nat)(hm:m<l.length)(x:MThing)(h:∀k,k≠m->S' k=S k):tCells S' (l.set m x)=(tCells S l).set m [dI x.cls,(S' m).d x.slots.length]:=by
 refine List.ext_getElem? fun k=>?_
 by_cases hk:k<l.length
 ·rw[Bx S' (l.set m x) k (by simpa using hk)]
  by_cases e:k=m
  ·subst e;rw[List.getElem_set_self,List.getElem?_set_self (by rw[A5];exact hk)]
  ·rw[List.getElem_set_ne (fun h=>e h.symm),List.getElem?_set_ne (fun h=>e h.symm),Bx S l k hk,h k e]
 ·rw[List.getElem?_eq_none (by rw[A5];simp;omega),List.getElem?_eq_none (by simp[A5];omega)]
theorem ThS.row{R:Nat->RW}{l:List MThing}{S0 O:Sig}(h:ThS R l S0 O)(hl:0<l.length): ∃i c cs,R 3=.row i c cs:=by
 have hk:=h.row3
 cases hR:R 3 with
 |nil=>rw[hR]at hk;have:=congrArg List.length (show tCells (fun k=>R (k+4)) l=[] from hk);rw[A5]at this;simp at this;rw[this]at hl;simp at hl
 |full es=>rw[hR]at hk;have:=congrArg List.length hk.1;rw[A5,h.nf 3 es hR]at this;simp at this;rw[this]at hl;simp at hl
 |row i c cs=>exact⟨i,c,cs,rfl⟩
theorem ThS.turn{R:Nat->RW}{l:List MThing}{S0 O S3:Sig}(h:ThS R l S0 O){m:Nat}(hm:m<l.length){x:MThing}{r:RW}(hF:FrV O r x.slots S3){i c:Nat}{cs:List D}(hi:R 3=.row i c cs){L:List D}(hL:L=(tCells (fun k=>R (k+4)) l).flatten++cs):
  ThS (updF R (m+4) r) (l.set m x) S0 (S3.set i (.cells (L.take (m*2)++[dI x.cls,r.d x.slots.length]++L.drop (m*2+2)))):=by
 obtain⟨f1,f2,f3⟩:=hF
 have e2:rSz (m+4)=2:=by unfold rSz;rw[if_neg (by omega)]
 have u1:=h.rows.upd (a:=m+4) (r':=r) (by rw[e2];exact f1) (fun j o hj _=>f2 j o hj id)
 have h3:updF R (m+4) r 3=.row i c cs:=by rw[A7 _ _ (by omega),hi]
 have bQ:(updF R (m+4) r 3).is i:=by rw[h3];rfl
 have q3:=h.row3
 rw[hi]at q3
 obtain⟨z1,z2,z3,z4⟩:=q3
 have ht:tCells (fun k=>updF R (m+4) r (k+4)) (l.set m x)=(tCells (fun k=>R (k+4)) l).set m [dI x.cls,r.d x.slots.length]:=by
  rw[LZ (fun k=>R (k+4)) _ l m hm x fun k hk=>A7 _ _ (by omega)]
  simp only[Ah]
 have bS:=SY (tCells (fun k=>R (k+4)) l) CD m (by rw[A5];exact hm) [dI x.cls,r.d x.slots.length] cs
 subst hL
 rw[bS]
 have bL:(((tCells (fun k=>R (k+4)) l).set m [dI x.cls,r.d x.slots.length]).flatten++cs).length=((tCells (fun k=>R (k+4)) l).flatten++cs).length:=by
  rw[<-ht,List.length_append,List.length_append,Au CD,Au CD,A5,A5,List.length_set]
 refine⟨⟨fun a=>?_,u1.dj⟩,fun a ha=>by rw[A7 _ _ (by omega)];exact h.lo a ha,fun a es he=>?_,fun j o hj=>?_⟩
 ·by_cases ea:a=3
  ·subst ea
   rw[h3]
   show RWAt _ 2 _ (tCells (fun k=>updF R (m+4) r (k+4)) (l.set m x))
   refine⟨by rw[w6,ht],by rw[ht,bL];exact z2,by rw[A5,List.length_set];rw[A5]at z3;exact z3,CD⟩
  ·have e:rCt (updF R (m+4) r) ⟨l.set m x,[],0,[],[]⟩ a=updF (rCt R ⟨l,[],0,[],[]⟩) (m+4) (x.slots.map cVal) a:=by
    match a with
    |0=>rw[A7 _ _ (by omega)];rfl
    |1=>rw[A7 _ _ (by omega)];rfl
    |2=>rw[A7 _ _ (by omega)];rfl
    |3=>exact absurd rfl ea
    |k+4=>
     show(((l.set m x)[k]?).getD ⟨0,[]⟩).slots.map cVal=_
     by_cases ek:k=m
     ·subst ek;rw[Ah,List.getElem?_set_self hm];rfl
     ·rw[A7 _ _ (by omega),List.getElem?_set_ne (fun h=>ek h.symm)];rfl
   rw[e]
   exact(u1.ok a).keep fun j o hj bO=>by rw[w7 _ _ fun e2=>ea (u1.dj a 3 j bO (by rw[e2];exact bQ))];exact hj
 ·by_cases e4:a=m+4
  ·subst e4;rw[Ah]at he;exact f3 es he
  ·rw[A7 _ _ e4]at he;exact h.nf a es he
 ·obtain⟨k1,k2⟩:=h.keep j o hj
  obtain⟨k3,k4⟩:=f2 j o k1 id
  refine⟨by rw[w7 _ _ fun e=>k2 3 (by rw[hi,e];rfl)];exact k3,fun a ha=>?_⟩
  by_cases e4:a=m+4
  ·subst e4;rw[Ah]at ha;exact k4 ha
  ·rw[A7 _ _ e4]at ha;exact k2 a ha
theorem storeTh{ir:Nat}{O:Sig}{ro:Ro}{n:Nat}{ops:Array Oper}{Q:DX->St->Prop}{df:List DDf}{rest:List Oper}{γ Sr:Fr}{ty:TypeId}{pos:String}{after:Array Edge}{x y:Operand}{ds:List D}{r1:RW}{a:Int}{m k:Nat}(hc:O ir=some (.cells ds))(h:DOps prog ro n ops Q rest ⟨γ,O.set ir (.cells (ds.take k++[dI a,r1.d m]++ds.drop (k+2))),df⟩)
  (hl:A0 γ (A4 [x,y])=some Sr:=by exact tdR) (h1:ev Sr x=.ptr ir k:=by exact tdR) (h2:ev Sr y=.agg [dI a,r1.d m]:=by exact tdR) (hlen:k+2<=ds.length:=by simp) :
  DOps prog ro n ops Q (⟨none,.store 131 x y,ty,pos,after,none⟩::rest) ⟨γ,O,df⟩:=
 DH Ab (d:=.any) hl (by show DG tab O 131 (ev Sr x) (ev Sr y)=_;rw[h1,h2];exact So hc hlen) h
theorem QQ(p:BProg)(l:List MThing)(o:Own)(m:Nat)(c:Int)(O:Sig)(hp:p.wt<=1073741824)(hk:okP p=true)(hh:∀c,(hasP p c).length<=1000000)(hm:m<l.length)(bf:B8 (A2 p) l=true)(hc:ownF p c=true):DCall prog 182 [.agg (Ag p),.slice (l.map cTh) o,dI m,dI c] O fun y U'=> ∃R,y=.ret (.tup [(R 3).d l.length,dI 0])/\ThS R (l.set m (Ce (A2 p) l[m] c)) O U':=by
 obtain⟨o1,o2⟩:=By.1 bf
 have hs:∀x∈l,x.slots.length<=1000000:=fun x hx=>by
  rw[(o2 x hx).2.1];exact hh x.cls
 obtain⟨u1,u2,u3⟩:=o2 _ (List.getElem_mem hm)
 have bc:ownF p (l[m]).cls=true:=by have:(ownF p (l[m]).cls&&okP p)=true:=u1;simp only[Bool.and_eq_true]at this;exact this.1
 refine en func182 ntmps182 ?_
 repeat' first|refine gf (gi hc (gi hk bf)) ?_|refine CP (Kb p l o O (by omega) (by omega) (fun x hx=>by have:=hs x hx;omega)) ?_|refine callPG (Kb p l o O (by omega) (by omega) (fun x hx=>by have:=hs x hx;omega)) ?_|refine gf (gi hc (gi hk bf)) ?_ o182|apply gy<;>intro hh
 refine A3 (Qz l o O (by omega) hs) (fun d S1 hr=>?_) (fun d S1 hr=>by obtain⟨_,h,_⟩:=hr;cases h)
 obtain⟨R1,hd,hT⟩:=hr
 obtain⟨i,c1,cs,h3⟩:=hT.row (by omega)
 cases hd
 have q3:=hT.row3
 rw[h3]at q3
 obtain⟨y1,y2⟩:=Nb (CD (S:=fun k=>R1 (k+4)) (l:=l)) (Bx _ _ m hm) cs
 obtain⟨L,hL⟩:∃L,L=(tCells (fun k=>R1 (k+4)) l).flatten++cs:=⟨_,rfl⟩
 have z1:S1 i=some (.cells L):=by rw[hL];exact q3.1
 rw[<-hL]at y1 y2
 have bq:m*2+2<=L.length:=by
  rw[hL,List.length_append,Au CD,A5];omega
 have bG:List.take 2 (List.drop (m*2) L)=[dI (l[m]).cls,(R1 (m+4)).d (l[m]).slots.length]:=by
  refine List.ext_getElem? fun k=>?_
  match k with
  |0=>rw[List.getElem?_take_of_lt (by omega),List.getElem?_drop,Nat.add_zero];exact y1
  |1=>rw[List.getElem?_take_of_lt (by omega),List.getElem?_drop];exact y2
  |k+2=>rw[List.getElem?_eq_none (by simp;omega),List.getElem?_eq_none (by simp)]
 rw[h3]
 refine gz ?_
 refine Fg (id:=5) [0,1,2,4,5,6,7,8,3,9,10] [3,9] S1 (Sub.refl _) ?_
 refine gf (gi z1 (gi bq bG)) ?_ o182
 refine Bt (Lb p S1 hp hk) (fun d U2 hr=>?_) (fun d U2 hr=>by obtain⟨_,_,h,_⟩:=hr;cases h)
 obtain⟨i1,i2,hd,hK⟩:=hr
 cases hd
 refine⟨hK.1,?_⟩
 have hx:RWAt U2 2 (R1 (m+4)) ((l[m]).slots.map cVal):=by
  have q:=hT.rows.ok (m+4)
  rw[show rSz (m+4)=2 by unfold rSz;rw[if_neg (by omega)],show rCt R1 ⟨l,[],0,[],[]⟩ (m+4)=(l[m]).slots.map cVal by show((l[m]?).getD ⟨0,[]⟩).slots.map cVal=_;rw[List.getElem?_eq_getElem hm];rfl]at q
  exact q.keep fun j o hj _=>hK.1 j o hj
 refine Bt (Qy p i1 i2 l[m] c (R1 (m+4)) S1 U2 hp hK hc bc (hh c) hx (hT.nf _) u2) (fun d S3 hr=>?_) (fun d S3 hr=>by obtain⟨_,h,_⟩:=hr;cases h)
 obtain⟨r,hd,hF⟩:=hr
 cases hd
 refine⟨fun j o hj=>(hF.2.1 j o (hK.1 j o hj) id).1,?_⟩
 refine gz ?_ o182
 have bd:FrV S1 r (Ce (A2 p) l[m] c).slots S3:=⟨hF.1,fun j o hj _=>hF.2.1 j o (hK.1 j o hj) id,hF.2.2⟩
 have z3:S3 i=some (.cells L):=(bd.2.1 i _ z1 id).1
 have bV:=hT.turn hm (x:=Ce (A2 p) l[m] c) bd h3 hL
 refine storeTh (r1:=r) z3 ?_ (hlen:=bq)
 refine gz ?_ o182
 exact fin2 (U':=_) ⟨_,by rw[A7 _ _ (by omega),h3,Et],bV⟩
end Go.DL
