/- A part of the proof. -/
import Derived.Test.YteldimffglchkaaGreatDoorN19
import Derived.Test.YteldimffglchkaaGreatDoorN11
set_option linter.all false
namespace Go.DL
open Go.Proofs.Tryz
open Go Go.Proofs
set_option maxHeartbeats 8000000
def cTh(x:MThing):List D:=[dI x.cls,sl (x.slots.map cVal)]
@[simp] theorem cTh_mem(x:MThing)(d:D):(d∈cTh x)=(d=dI x.cls\/d=sl (x.slots.map cVal)):=by simp[cTh]
@[simp] theorem cTh_len(x:MThing):(cTh x).length=2:=rfl
@[simp] theorem cTh_tk(x:MThing):List.take 2 (cTh x)=cTh x:=rfl
@[simp] theorem rwd_nil(n:Nat):RW.nil.d n=.nils:=rfl
@[simp] theorem U5(es:List (List D))(n:Nat):(RW.full es).d n=.slice es .clip:=rfl
def FrV(O:Sig)(r:RW)(l:List MVal)(U':Sig):Prop:=RWAt U' 2 r (l.map cVal)/\RWK O .nil U' r /\ ∀es,r=.full es->es=[]
theorem RK(v:MVal)(O:Sig):DCall prog 339 [.agg (cVal v)] O (rS (.agg (cVal v)) O):=by
 refine en func339 ntmps339 ?_
 refine gz ?_ [] [2]
 refine newV (fun i2 aL=>?_)
 refine gz ?_ [] [2]
 exact finC (U':=O) ⟨rfl,rfl⟩
@[reducible,instance] def a339:=fun v O=>ah0 (@RK v O)
theorem RE(i n c:Nat)(O:Sig)(hn:n<=c)(hb:n<=1000000):DCall prog 367 [.sref i 0 n c] O (rS (.sref i 0 n n) O):=by
 refine en func367 ntmps367 ?_
 refine gz ?_
 refine K5 Ad (off:=0) (m:=n) (cap:=c) ?_ (by decide) (by simp<;>rfl) (by simp) rfl rfl rfl (Nat.le_refl _) hn
 refine gz ?_
 exact fin1 (U':=O) ⟨rfl,rfl⟩
@[reducible,instance] def a367:=fun i n c O=>ah2 (@RE i n c O)
theorem Pm(O:Sig):DCall prog 367 [.nils] O (rS (.slice [] .clip) O):=by
 refine en func367 ntmps367 ?_
 refine gz ?_
 exact fin1 (U':=O) ⟨rfl,rfl⟩
@[reducible,instance] def a367n:=fun O=>ah0 (@Pm O)
theorem RL(l:List MVal)(o:Own)(O:Sig)(hl:l.length<=1000000):DCall prog 338 [.slice (l.map cVal) o,.func (.func 339) [] []] O fun x U'=> ∃r,x=.ret (r.d l.length)/\FrV O r l U':=by
 refine en func338 ntmps338 ?_
 refine gz ?_
 refine Ft [1,4,8,9,21,22] (fun (k:Nat) (r:RW) (U2:Sig)=>k<=l.length/\RWAt U2 2 r ((l.take k).map cVal)/\RWK O .nil U2 r/\(k=0/\r=.nil \/ ∃i c cs,r=.row i c cs)) (fun k r _=>[(10,dI k),(5,r.d k)]) (fun _ _ U2=>U2) (fun k _ _=>l.length-k) (0) (.nil) (O) (by exact⟨Nat.zero_le _,rfl,RWK.refl _ _,.inl ⟨rfl,rfl⟩⟩) (fun k r U2 hI=>?_)
 obtain⟨be,hR,hK,hF⟩:=hI
 by_cases hk:k<l.length
 ·have aa:((l.take k).map cVal).length=k:=by simp;omega
  refine gz ?_
  refine xapp (new:=[cVal l[k]]) (fun i c cs S3 bI bV=>?_) hR (h1:=by rw[aa];with_unfolding_all rfl) (hb:=by rw[aa];simp;omega) (hm2:=by rw[aa];simp;omega)
  rw[show(l.take k).map cVal++[cVal l[k]]=(l.take (k+1)).map cVal by rw[List.take_succ_eq_append_getElem hk,List.map_append];rfl]at bI
  rw[show((l.take k).map cVal).length+[cVal l[k]].length=k+1 by simp;omega]
  refine gz ?_
  exact⟨k+1,.row i c cs,S3,⟨by omega,bI,hK.trans bV,.inr ⟨_,_,_,rfl⟩⟩,td1,wkR⟩
 ·obtain rfl:k=l.length:=by omega
  rw[List.take_length]at hR
  rcases hF with⟨h0,rfl⟩|⟨i,c,cs,rfl⟩
  ·have aI:l=[]:=List.length_eq_zero_iff.1 h0
   subst aI
   refine gz ?_
   exact fin1 (U':=U2) ⟨.full [],rfl,⟨rfl,by simp⟩,hK,fun es h=>by cases h;rfl⟩
  ·have hc:=hR.2.2.1
   rw[List.length_map]at hc
   refine gz ?_
   refine fin1 (U':=U2) ⟨.row i l.length cs,rfl,⟨hR.1,?_,by simp,Bm⟩,hK,fun es h=>by cases h⟩
   rw[List.length_append,Aw Bm,List.length_map];omega
theorem M3(l:List MVal)(o:Own)(O:Sig)(hl:l.length<=1000000):DCall prog 293 [.slice (l.map cVal) o] O fun x U'=> ∃r,x=.ret (r.d l.length)/\FrV O r l U':=by
 refine en func293 ntmps293 ?_
 refine gz ?_
 refine A7 (RL l o O hl) (fun d U1 hr=>?_) (fun d U1 hr=>by obtain⟨_,h,_⟩:=hr;cases h)
 obtain⟨r,hd,hF⟩:=hr
 cases hd
 refine gz ?_
 exact fin1 (U':=U1) ⟨r,rfl,hF⟩
theorem TV{ir:Nat}{O:Sig}{ds:List D}{r1:RW}{a:Int}{m k:Nat}(h:O ir=some (.cells ds))(hl:k+2<=ds.length):DO tab O 131 (.ptr ir k) (.agg [dI a,r1.d m])=some (.any,O.set ir (.cells (ds.take k++[dI a,r1.d m]++ds.drop (k+2)))):=by
 have hf:¬ds.length<k+2:=by omega
 cases r1<;>simp[DO,h,RW.d,hf]
theorem RS(x:MThing)(O:Sig)(hl:x.slots.length<=1000000):DCall prog 295 [.agg (cTh x)] O fun y U'=> ∃r,y=.ret (.agg [dI x.cls,r.d x.slots.length])/\FrV O r x.slots U':=by
 refine en func295 ntmps295 ?_
 refine gz ?_ o295 [2]
 refine newV (fun i2 aL=>?_)
 refine gz ?_ [] [2]
 refine Ij (id:=1) [0,1,2,3,4,5,6] [4,6] O ((Sub.refl _).set aL) ?_
 refine gz ?_ o295 [2]
 refine BG (M3 x.slots .no _ hl) (fun d U1 hr=>?_) (fun d U1 hr=>by obtain⟨_,h,_⟩:=hr;cases h)
 obtain⟨r,hd,h1,h2,h3⟩:=hr
 have ay:=(h2 i2 _ (w6 ..) id).1
 have bm:=(h2 i2 _ (w6 ..) id).2
 have hS:Sub O U1:=fun j o hj=>(h2 j o (by rw[w7 _ _ fun e=>by rw[e,aL]at hj;cases hj];exact hj) id).1
 have hF:∀ds,FrV O r x.slots (U1.set i2 (.cells ds)):=fun ds=>⟨h1.keep fun j o hj aq=>by rw[w7 _ _ fun e=>bm (by rw[<-e];exact aq)];exact hj,fun j o hj _=>by
  have hne:j≠i2:=fun e=>by rw[e,aL]at hj;cases hj
  have:=h2 j o (by rw[w7 _ _ hne];exact hj) id
  exact⟨by rw[w7 _ _ hne];exact this.1,this.2⟩,h3⟩
 have bt:∀ds,Sub O (U1.set i2 (.cells ds)):=fun ds j o hj=>by rw[w7 _ _ fun e=>by rw[e,aL]at hj;cases hj];exact hS j o hj
 cases hd
 refine⟨hS,?_⟩
 rcases r with _|es|⟨i,c,cs⟩
 ·have aC:Sub O (U1.set i2 (.cells [dI x.cls,.nils])):=bt _
  refine gf ay ?_ o295 [2]
  exact finC (U':=U1.set i2 (.cells [dI x.cls,.nils])) ⟨.nil,rfl,hF _⟩
 ·have aC:Sub O (U1.set i2 (.cells [dI x.cls,.slice es .clip])):=bt _
  refine gf ay ?_ o295 [2]
  exact finC (U':=U1.set i2 (.cells [dI x.cls,.slice es .clip])) ⟨.full es,rfl,hF _⟩
 ·have aC:Sub O (U1.set i2 (.cells [dI x.cls,.sref i 0 x.slots.length c])):=bt _
  refine gf ay ?_ o295 [2]
  exact finC (U':=U1.set i2 (.cells [dI x.cls,.sref i 0 x.slots.length c])) ⟨.row i c cs,rfl,hF _⟩
structure ThS(R:Nat->RW)(l:List MThing)(S0 O:Sig):Prop where
 rows:Rows O R rSz (rCt R ⟨l,[],0,[],[]⟩)
 lo:∀a,a<3->R a=.nil
 nf:∀a es,R a=.full es->es=[]
 keep:∀j o,S0 j=some o->O j=some o /\ ∀a, ¬(R a).is j
theorem ThS.nil(O:Sig):ThS (fun _=>.nil) [] O O:=
 ⟨⟨fun a=>by
  match a with
  |0=>rfl
  |1=>rfl
  |2=>rfl
  |3=>rfl
  |k+4=>rfl,fun _ _ _ h=>h.elim⟩,fun _ _=>rfl,(fun _ _ h=>by cases h),fun _ _ h=>⟨h,fun _ h=>h⟩⟩
theorem ThS.row3{R:Nat->RW}{l:List MThing}{S0 O:Sig}(h:ThS R l S0 O):RWAt O 2 (R 3) (tCells (fun k=>R (k+4)) l):=h.rows.ok 3
theorem Jw(S S':Nat->RW)(l:List MThing)(x:MThing)(h:∀k,k<l.length->S' k=S k):tCells S' (l++[x])=tCells S l++[[dI x.cls,(S' l.length).d x.slots.length]]:=by
 refine List.ext_getElem? fun k=>?_
 by_cases hk:k<l.length
 ·rw[Bz _ _ k (by simp;omega),List.getElem?_append_left (by rw[A3];exact hk),Bz _ _ k hk,List.getElem_append_left hk,h k hk]
 ·by_cases e:k=l.length
  ·subst e
   rw[Bz _ _ _ (by simp),List.getElem?_append_right (by rw[A3];omega),A3,Nat.sub_self]
   simp
  ·rw[List.getElem?_eq_none (by rw[A3];simp;omega),List.getElem?_eq_none (by simp[A3];omega)]
theorem ThS.add{R:Nat->RW}{l:List MThing}{S0 O U1 U2:Sig}(h:ThS R l S0 O){x:MThing}{r:RW}(hF:FrV O r x.slots U1){i c:Nat}{cs:List D}(hr:RWAt U2 2 (.row i c cs) (tCells (fun k=>R (k+4)) l++[[dI x.cls,r.d x.slots.length]]))(hk:RWK U1 (R 3) U2 (.row i c cs)):
  ThS (updF (updF R (l.length+4) r) 3 (.row i c cs)) (l++[x]) S0 U2:=by
 obtain⟨f1,f2,f3⟩:=hF
 have e2:rSz (l.length+4)=2:=by unfold rSz;rw[if_neg (by omega)]
 have u1:=h.rows.upd (a:=l.length+4) (r':=r) (by rw[e2];exact f1) (fun j o hj _=>f2 j o hj id)
 have u2:=u1.upd (a:=3) (r':=.row i c cs) hr (by rw[A6 _ _ (by omega)];exact hk)
 refine⟨u2.retell fun a=>?_,fun a ha=>?_,fun a es he=>?_,fun j o hj=>?_⟩
 ·match a with
  |0=>rw[A6 _ _ (by omega),A6 _ _ (by omega)];rfl
  |1=>rw[A6 _ _ (by omega),A6 _ _ (by omega)];rfl
  |2=>rw[A6 _ _ (by omega),A6 _ _ (by omega)];rfl
  |3=>
   rw[Ak]
   show tCells (fun k=>updF (updF R (l.length+4) r) 3 (.row i c cs) (k+4)) (l++[x])=_
   rw[Jw (fun k=>R (k+4)) _ l x fun k hk=>by rw[A6 _ _ (by omega),A6 _ _ (by omega)]]
   simp only[A6 (updF R (l.length+4) r) (RW.row i c cs) (show l.length+4≠3 by omega),Ak]
  | k+4 =>
   rw[A6 _ _ (by omega)]
   show(((l++[x])[k]?).getD ⟨0,[]⟩).slots.map cVal=_
   by_cases e:k=l.length
   ·subst e;rw[Ak];simp
   ·rw[A6 _ _ (by omega)]
    show _=((l[k]?).getD ⟨0,[]⟩).slots.map cVal
    by_cases hk:k<l.length
    ·rw[List.getElem?_append_left hk]
    ·rw[List.getElem?_eq_none (by simp;omega),List.getElem?_eq_none (by omega)]
 ·rw[A6 _ _ (by omega),A6 _ _ (by omega)];exact h.lo a ha
 ·by_cases e3:a=3
  ·subst e3;rw[Ak]at he;cases he
  ·rw[A6 _ _ e3]at he
   by_cases e4:a=l.length+4
   ·subst e4;rw[Ak]at he;exact f3 es he
   ·rw[A6 _ _ e4]at he;exact h.nf a es he
 ·obtain⟨k1,k2⟩:=h.keep j o hj
  obtain⟨k3,k4⟩:=f2 j o k1 id
  obtain⟨k5,k6⟩:=hk j o k3 (k2 3)
  refine⟨k5,fun a ha=>?_⟩
  by_cases e3:a=3
  ·subst e3;rw[Ak]at ha;exact k6 ha
  ·rw[A6 _ _ e3]at ha
   by_cases e4:a=l.length+4
   ·subst e4;rw[Ak]at ha;exact k4 ha
   ·rw[A6 _ _ e4]at ha;exact k2 a ha
theorem ThS.re{R:Nat->RW}{l:List MThing}{S0 O:Sig}(h:ThS R l S0 O){r':RW}(hr:RWAt O 2 r' (tCells (fun k=>R (k+4)) l))(hi:∀j,r'.is j->(R 3).is j)(hf:∀es,r'=.full es->es=[]):ThS (updF R 3 r') l S0 O:=by
 have u:=h.rows.re (a:=3) (r':=r') hr hi
 refine⟨u.retell fun a=>?_,fun a ha=>by rw[A6 _ _ (by omega)];exact h.lo a ha,fun a es he=>?_,fun j o hj=>⟨(h.keep j o hj).1,fun a ha=>?_⟩⟩
 ·match a with
  |0=>rw[A6 _ _ (by omega)];rfl
  |1=>rw[A6 _ _ (by omega)];rfl
  |2=>rw[A6 _ _ (by omega)];rfl
  |3=>
   rw[Ak]
   show tCells (fun k=>updF R 3 r' (k+4)) l=_
   rw[Fb R 3 r' (by omega)]
  |k+4=>rw[A6 _ _ (by omega)];rfl
 ·by_cases e3:a=3
  ·subst e3;rw[Ak]at he;exact hf es he
  ·rw[A6 _ _ e3]at he;exact h.nf a es he
 ·by_cases e3:a=3
  ·subst e3;rw[Ak]at ha;exact(h.keep j o hj).2 3 (hi j ha)
  ·rw[A6 _ _ e3]at ha;exact(h.keep j o hj).2 a ha
theorem RJ(i n c:Nat)(O:Sig)(hn:n<=c)(hb:n<=1000000):DCall prog 340 [.sref i 0 n c] O (rS (.sref i 0 n n) O):=by
 refine en func340 ntmps340 ?_
 refine gz ?_
 refine K5 Ad (off:=0) (m:=n) (cap:=c) ?_ (by decide) (by simp<;>rfl) (by simp) rfl rfl rfl (Nat.le_refl _) hn
 refine gz ?_
 exact fin1 (U':=O) ⟨rfl,rfl⟩
@[reducible,instance] def a340:=fun i n c O=>ah2 (@RJ i n c O)
theorem Pq(O:Sig):DCall prog 340 [.nils] O (rS (.slice [] .clip) O):=by
 refine en func340 ntmps340 ?_
 refine gz ?_
 exact fin1 (U':=O) ⟨rfl,rfl⟩
@[reducible,instance] def a340n:=fun O=>ah0 (@Pq O)
theorem RT(l:List MThing)(o:Own)(O:Sig)(hl:l.length<=1000000)(hs:∀x∈l,x.slots.length<=1000000):DCall prog 294 [.slice (l.map cTh) o,.func (.func 295) [] []] O fun x U'=> ∃R,x=.ret ((R 3).d l.length)/\ThS R l O U':=by
 refine en func294 ntmps294 ?_
 refine gz ?_
 refine Ft [1,4,8,9,21,22] (fun (k:Nat) (R:Nat->RW) (U2:Sig)=>k<=l.length/\ThS R (l.take k) O U2/\(k=0/\R 3=.nil \/ ∃i c cs,R 3=.row i c cs)) (fun k R _=>[(10,dI k),(5,(R 3).d k)]) (fun _ _ U2=>U2) (fun k _ _=>l.length-k) (0) (fun _=>.nil) (O) (by exact⟨Nat.zero_le _,ThS.nil O,.inl ⟨rfl,rfl⟩⟩) (fun k R U2 hI=>?_)
 obtain⟨be,hT,bJ⟩:=hI
 by_cases hk:k<l.length
 ·refine gz ?_
  refine A7 (RS l[k] U2 (hs _ (List.getElem_mem hk))) (fun d S3 hr=>?_) (fun d S3 hr=>by obtain⟨_,h,_⟩:=hr;cases h)
  obtain⟨r,hd,hF⟩:=hr
  cases hd
  rcases r with _|es|⟨j,c',cs'⟩
  ·refine gz ?_
   have aa:(tCells (fun k=>R (k+4)) (l.take k)).length=k:=by rw[A3];simp;omega
   refine xapp (new:=[[dI (l[k]).cls,D.nils]]) (es:=tCells (fun k=>R (k+4)) (l.take k)) (fun i c cs S4 aj ak=>?_) (hT.row3.keep fun j o hj aq=>(hF.2.1 j o hj id).1) (h1:=by rw[aa];with_unfolding_all rfl) (hb:=by rw[aa];simp;omega) (hm2:=by rw[aa];simp;omega)
   have ai:=hT.add hF aj ak
   rw[<-List.take_succ_eq_append_getElem hk]at ai
   rw[show(tCells (fun k=>R (k+4)) (l.take k)).length+[[dI (l[k]).cls,D.nils]].length=k+1 by rw[aa];rfl]
   refine gz ?_
   exact⟨k+1,updF (updF R ((l.take k).length+4) .nil) 3 (.row i c cs),S4,⟨by omega,ai,.inr ⟨_,_,_,Ak ..⟩⟩,td1,wkR⟩
  ·refine gz ?_
   have aa:(tCells (fun k=>R (k+4)) (l.take k)).length=k:=by rw[A3];simp;omega
   refine xapp (new:=[[dI (l[k]).cls,D.slice es .clip]]) (es:=tCells (fun k=>R (k+4)) (l.take k)) (fun i c cs S4 aj ak=>?_) (hT.row3.keep fun j o hj aq=>(hF.2.1 j o hj id).1) (h1:=by rw[aa];with_unfolding_all rfl) (hb:=by rw[aa];simp;omega) (hm2:=by rw[aa];simp;omega)
   have ai:=hT.add hF aj ak
   rw[<-List.take_succ_eq_append_getElem hk]at ai
   rw[show(tCells (fun k=>R (k+4)) (l.take k)).length+[[dI (l[k]).cls,D.slice es .clip]].length=k+1 by rw[aa];rfl]
   refine gz ?_
   exact⟨k+1,updF (updF R ((l.take k).length+4) (.full es)) 3 (.row i c cs),S4,⟨by omega,ai,.inr ⟨_,_,_,Ak ..⟩⟩,td1,wkR⟩
  ·refine gz ?_
   have aa:(tCells (fun k=>R (k+4)) (l.take k)).length=k:=by rw[A3];simp;omega
   refine xapp (new:=[[dI (l[k]).cls,D.sref j 0 (l[k]).slots.length c']]) (es:=tCells (fun k=>R (k+4)) (l.take k)) (fun i c cs S4 aj ak=>?_) (hT.row3.keep fun j o hj aq=>(hF.2.1 j o hj id).1) (h1:=by rw[aa];with_unfolding_all rfl) (hb:=by rw[aa];simp;omega) (hm2:=by rw[aa];simp;omega)
   have ai:=hT.add hF aj ak
   rw[<-List.take_succ_eq_append_getElem hk]at ai
   rw[show(tCells (fun k=>R (k+4)) (l.take k)).length+[[dI (l[k]).cls,D.sref j 0 (l[k]).slots.length c']].length=k+1 by rw[aa];rfl]
   refine gz ?_
   exact⟨k+1,updF (updF R ((l.take k).length+4) (.row j c' cs')) 3 (.row i c cs),S4,⟨by omega,ai,.inr ⟨_,_,_,Ak ..⟩⟩,td1,wkR⟩
 ·obtain rfl:k=l.length:=by omega
  rw[List.take_length]at hT
  rcases bJ with⟨h0,h3⟩|⟨i,c,cs,h3⟩
  ·have aI:l=[]:=List.length_eq_zero_iff.1 h0
   subst aI
   rw[h3]
   refine gz ?_
   refine fin1 (U':=U2) ⟨updF R 3 (.full []),by rw[Ak,U5],hT.re ⟨rfl,fun e he=>by cases he⟩ (fun _ h=>h.elim) (fun es h=>by cases h;rfl)⟩
  ·have q:=hT.row3
   rw[h3]at q
   have hc:=q.2.2.1
   rw[A3]at hc
   rw[h3]
   refine gz ?_
   refine fin1 (U':=U2) ⟨updF R 3 (.row i l.length cs),by rw[Ak,EC],hT.re ⟨q.1,?_,by rw[A3];exact Nat.le_refl _,CP⟩ (fun j hj=>by rw[h3];exact hj) (fun es h=>by cases h)⟩
   rw[List.length_append,Aw CP,A3];omega
theorem Si(l:List MThing)(o:Own)(O:Sig)(hl:l.length<=1000000)(hs:∀x∈l,x.slots.length<=1000000):DCall prog 245 [.slice (l.map cTh) o] O fun x U'=> ∃R,x=.ret ((R 3).d l.length)/\ThS R l O U':=by
 refine en func245 ntmps245 ?_
 refine gz ?_
 refine A7 (RT l o O hl hs) (fun d U1 hr=>?_) (fun d U1 hr=>by obtain⟨_,h,_⟩:=hr;cases h)
 obtain⟨r,hd,hF⟩:=hr
 cases hd
 refine gz ?_
 exact fin1 (U':=U1) ⟨r,rfl,hF⟩
theorem US(l:List MThing)(o:Own)(O:Sig)(hl:l.length<=1000000)(hs:∀x∈l,x.slots.length<=1000000):DCall prog 48 [.slice (l.map cTh) o] O fun x U'=> ∃R,x=.ret ((R 3).d l.length)/\ThS R l O U':=by
 refine en func48 ntmps48 ?_
 refine gz ?_ o48
 refine Ft [2,6,7,22] (fun (k:Nat) (R:Nat->RW) (U2:Sig)=>k<=l.length/\ThS R (l.take k) O U2/\(k=0/\R 3=.nil \/ ∃i c cs,R 3=.row i c cs)) (fun k R _=>[(8,dI k),(3,(R 3).d k)]) (fun _ _ U2=>U2) (fun k _ _=>l.length-k) (0) (fun _=>.nil) (O) (by exact⟨Nat.zero_le _,ThS.nil O,.inl ⟨rfl,rfl⟩⟩) (fun k R U2 hI=>?_)
 obtain⟨be,hT,bJ⟩:=hI
 by_cases hk:k<l.length
 ·refine gz ?_
  refine Ij (id:=5) [0,1,2,3,4,5,6,7,8,9] [5,8] (fun _=>none) (fun _ _ h=>by cases h) ?_
  refine gz ?_ o48
  refine BG (IC (l[k]).slots .no U2 (hs _ (List.getElem_mem hk))) (fun d S3 hr=>?_) (fun d S3 hr=>by obtain⟨_,h,_⟩:=hr;cases h)
  obtain⟨r,hd,hF⟩:=hr
  replace hF:FrV U2 r (l[k]).slots S3:=hF
  cases hd
  refine⟨(fun _ _ h=>by cases h),?_⟩
  rcases r with _|es|⟨j,c',cs'⟩
  ·refine gz ?_ o48
   have aa:(tCells (fun k=>R (k+4)) (l.take k)).length=k:=by rw[A3];simp;omega
   refine Gb (new:=[[dI (l[k]).cls,D.nils]]) (es:=tCells (fun k=>R (k+4)) (l.take k)) (fun i c cs S4 aj ak=>?_) (fun j o h=>by cases h) (hm:=hT.row3.keep fun j o hj aq=>(hF.2.1 j o hj id).1) (h1:=by rw[aa];with_unfolding_all rfl) (hb:=by rw[aa];simp;omega) (hm2:=by rw[aa];simp;omega)
   have ai:=hT.add hF aj ak
   rw[<-List.take_succ_eq_append_getElem hk]at ai
   rw[show(tCells (fun k=>R (k+4)) (l.take k)).length+[[dI (l[k]).cls,D.nils]].length=k+1 by rw[aa];rfl]
   refine gz ?_ o48
   exact⟨k+1,updF (updF R ((l.take k).length+4) .nil) 3 (.row i c cs),S4,⟨by omega,ai,.inr ⟨_,_,_,Ak ..⟩⟩,td1,wkR⟩
  ·refine gz ?_ o48
   have aa:(tCells (fun k=>R (k+4)) (l.take k)).length=k:=by rw[A3];simp;omega
   refine Gb (new:=[[dI (l[k]).cls,D.slice es .clip]]) (es:=tCells (fun k=>R (k+4)) (l.take k)) (fun i c cs S4 aj ak=>?_) (fun j o h=>by cases h) (hm:=hT.row3.keep fun j o hj aq=>(hF.2.1 j o hj id).1) (h1:=by rw[aa];with_unfolding_all rfl) (hb:=by rw[aa];simp;omega) (hm2:=by rw[aa];simp;omega)
   have ai:=hT.add hF aj ak
   rw[<-List.take_succ_eq_append_getElem hk]at ai
   rw[show(tCells (fun k=>R (k+4)) (l.take k)).length+[[dI (l[k]).cls,D.slice es .clip]].length=k+1 by rw[aa];rfl]
   refine gz ?_ o48
   exact⟨k+1,updF (updF R ((l.take k).length+4) (.full es)) 3 (.row i c cs),S4,⟨by omega,ai,.inr ⟨_,_,_,Ak ..⟩⟩,td1,wkR⟩
  ·refine gz ?_ o48
   have aa:(tCells (fun k=>R (k+4)) (l.take k)).length=k:=by rw[A3];simp;omega
   refine Gb (new:=[[dI (l[k]).cls,D.sref j 0 (l[k]).slots.length c']]) (es:=tCells (fun k=>R (k+4)) (l.take k)) (fun i c cs S4 aj ak=>?_) (fun j o h=>by cases h) (hm:=hT.row3.keep fun j o hj aq=>(hF.2.1 j o hj id).1) (h1:=by rw[aa];with_unfolding_all rfl) (hb:=by rw[aa];simp;omega) (hm2:=by rw[aa];simp;omega)
   have ai:=hT.add hF aj ak
   rw[<-List.take_succ_eq_append_getElem hk]at ai
   rw[show(tCells (fun k=>R (k+4)) (l.take k)).length+[[dI (l[k]).cls,D.sref j 0 (l[k]).slots.length c']].length=k+1 by rw[aa];rfl]
   refine gz ?_ o48
   exact⟨k+1,updF (updF R ((l.take k).length+4) (.row j c' cs')) 3 (.row i c cs),S4,⟨by omega,ai,.inr ⟨_,_,_,Ak ..⟩⟩,td1,wkR⟩
 ·obtain rfl:k=l.length:=by omega
  rw[List.take_length]at hT
  refine gz ?_ o48
  exact fin1 (U':=U2) ⟨R,rfl,hT⟩
@[simp] theorem cInit_tk(x:Init):List.take 2 (IZ x)=IZ x:=rfl
theorem Gs(x:Init)(s:Int)(O:Sig):DCall prog 292 ([]++[.agg (IZ x)]++[.cptr [dI s] 0]) O (rS (.bool (decide (x.slot=s))) O):=by
 refine en func292 ntmps292 ?_
 refine gz ?_
 exact fe1 trivial
theorem Gt(l:List Init)(p:Init->Bool)(g:Nat)(cap:List D)(o:Own)(O:Sig)(hl:l.length<=1073741824)(hg:∀v∈l,DCall prog g ([]++[.agg (IZ v)]++cap) O (rS (.bool (p v)) O)):DCall prog 291 [.slice (l.map IZ) o,.func (.func g) [] cap] O (rS (dI (idxF p l 0)) O):=by
 refine en func291 ntmps291 ?_
 refine gz ?_
 refine Cg [0,1,7] (fun (k:Nat)=>k<=l.length/\idxF p l 0=idxF p (l.drop k) k) (fun k=>[(8,dI k)]) (fun _=>O) (fun k=>l.length-k) (0) (by simp) (fun k hI=>?_)
 obtain⟨hk,hR⟩:=hI
 by_cases h:k<l.length
 ·rw[Ab h,idxF]at hR
  repeat' first|refine Cb (hg (l[k]) (List.getElem_mem h)) ?_|refine callP (hg (l[k]) (List.getElem_mem h)) ?_|refine gz ?_|apply gy<;>intro hh
  ·rw[hh]at hR
   exact fe1 hR
  ·rw[hh]at hR
   exact⟨k+1,⟨by omega,hR⟩,td1,wkR⟩
 ·rw[Aj h,idxF]at hR
  refine gz ?_
  exact fe1 hR
theorem idxF_find{α:Type}(q:α->Bool): ∀(l:List α) (k:Nat),(idxF q l k = -1/\l.find? q=none) \/ ∃(j:Nat) (hj:j<l.length),idxF q l k=k+j/\l.find? q=some l[j]
 |[],_=>.inl ⟨rfl,rfl⟩
 | x::r,k=>by
  cases h:q x with
  |true=>exact .inr ⟨0,by simp,by rw[idxF,if_pos h];simp,by rw[List.find?_cons,h];rfl⟩
  |false=>
   rcases idxF_find q r (k+1)with⟨h1,h2⟩|⟨j,hj,h1,h2⟩
   ·exact .inl ⟨by rw[idxF,if_neg (by rw[h];simp)];exact h1,by rw[List.find?_cons,h];exact h2⟩
   ·exact .inr ⟨j+1,by simpa using hj,by rw[idxF,if_neg (by rw[h];simp),h1];push_cast;omega,by rw[List.find?_cons,h];exact h2⟩
theorem MG(m:List (Int×Int)): ∀l:List Int,(beginL m l).length<=l.length
 |[]=>Nat.le_refl _
 |s::r=>by
  have:=MG m r
  rw[beginL];split
  ·simp only[List.length_cons];omega
  ·simp only[List.length_cons];omega
def eIT(m:List (Int×MThing)):List (D×D):=eM dI (fun x=>.agg (cTh x)) m
@[simp] theorem putIT(k c:Int)(l:List MVal)(m:List (Int×MThing)):Cu (.int .i64) (.int .i64 k) (.agg [.int .i64 c,.slice (l.map cVal) .no]) (eIT m)=some (eIT (putM k ⟨c,l⟩ m)):=Lw keyI (fun x=>.agg (cTh x)) k ⟨c,l⟩ m
theorem hitIT(k:Int)(m:List (Int×MThing))(h:hasM k m=true):hitD tab 131 false (Ca (.int .i64) (.int .i64 k) (eIT m) 0)=some (.agg (cTh (getM ⟨0,[]⟩ k m))):=by
 have:=VF (tab:=tab) (e:=131) keyI (fun x:MThing=>.agg (cTh x)) (z:=⟨0,[]⟩) rfl k m
 rw[h]at this
 exact this
def mp1(p:BProg):Nat->List (Int×List Int)
 |0=>[]
 |i+1=>putM ((i:Int)+3) (hasP p ((i:Int)+3)) (mp1 p i)
def mp2(p:BProg):Nat->List (Int×MThing)
 |0=>[]
 |i+1=>putM ((i:Int)+3) ⟨(i:Int)+3,(A2 p).fresh ((i:Int)+3)⟩ (mp2 p i)
theorem KC(p:BProg)(j:Nat): ∀i,j<i->hasM ((j:Int)+3) (mp1 p i)=true/\getM [] ((j:Int)+3) (mp1 p i)=hasP p ((j:Int)+3)
 |0,h=>by omega
 | i+1,h=>by
  rw[mp1,Gl,En]
  by_cases e:j=i
  ·subst e;simp
  ·rw[if_neg (by omega)]
   obtain⟨h1,h2⟩:=KC p j i (by omega)
   exact⟨by rw[h1];simp,h2⟩
theorem QB(p:BProg)(j:Nat): ∀i,j<i->hasM ((j:Int)+3) (mp2 p i)=true/\getM ⟨0,[]⟩ ((j:Int)+3) (mp2 p i)=⟨(j:Int)+3,(A2 p).fresh ((j:Int)+3)⟩
 |0,h=>by omega
 | i+1,h=>by
  rw[mp2,Gl,En]
  by_cases e:j=i
  ·subst e;simp
  ·rw[if_neg (by omega)]
   obtain⟨h1,h2⟩:=QB p j i (by omega)
   exact⟨by rw[h1];simp,h2⟩
def cKnw(p:BProg)(i1 i2:Nat):D:=.cptr (Ai p++[.map i1,.map i2]) 0
def KnwS(p:BProg)(i1 i2:Nat)(S0 O:Sig):Prop:=Sub S0 O/\O i1=some (.map (eIO (mp1 p p.classes.length)))/\O i2=some (.map (eIT (mp2 p p.classes.length)))
theorem frzC{ro:Ro}{n:Nat}{Q:DX->St->Prop}{df:List DDf}{γ:Fr}{O:Sig}{c:Code}{i sz:Nat}{r:RW}{es:List (List D)}(a0 b0:List D)(hm:RWAt O sz r es)(hi:O i=some (.cells (a0++r.d es.length::b0)))(bd:¬r.is i)
  (h:∀U',U' i=some (.cells (a0 ++ .slice es .no::b0))->(∀j o,O j=some o->j≠i->¬r.is j->U' j=some o)->DWp prog ro n c Q ⟨γ,U',df⟩):DWp prog ro n c Q ⟨γ,O,df⟩:=by
 obtain⟨U2,h1,h2,h3⟩:=BE (P:=prog) (n:=n) (γ:=γ) (df:=df) hm hi bd
 exact Co h1 (h U2 h2 h3)
theorem M6(p:BProg)(O:Sig)(hp:p.wt<=1073741824)(hk:okP p=true):DCall prog 242 [.agg (Ai p)] O fun x U'=> ∃i1 i2,x=.ret (cKnw p i1 i2)/\KnwS p i1 i2 O U':=by
 obtain⟨p1,p2,p3,p4,p5,p6,p7⟩:=p.wt_le
 refine en func242 ntmps242 ?_
 refine gz ?_ o242 [6,11]
 refine newM (fun i1 h1=>?_)
 refine newM (fun i2 h2=>?_)
 have hne:i1≠i2:=fun e=>by rw[<-e,w6]at h2;cases h2
 have bK:O i2=none:=by rw[w7 _ _ fun e=>hne e.symm]at h2;exact h2
 refine gz ?_ o242 [6,11]
 refine D7 [1,2,3,20,82] (fun (k:Nat) (U2:Sig)=>k<=p.classes.length/\Sub O U2/\U2 i1=some (.map (eIO (mp1 p k)))/\U2 i2=some (.map (eIT (mp2 p k)))) (fun k _=>[(21,dI k)]) (fun _ U2=>U2) (fun k _=>p.classes.length-k) (0) ((O.set i1 (.map [])).set i2 (.map [])) (by exact⟨Nat.zero_le _,((Sub.refl _).set h1).set bK,by rw[w7 _ _ hne,w6];rfl,w6 ..⟩) (fun k U2 hI=>?_)
 obtain⟨be,hS,ax,hm2⟩:=hI
 by_cases aA:k<p.classes.length
 ·have ap:(ownF p ((k:Int)+3)&&okP p)=true:=by unfold ownF;rw[hk];simp;omega
  have aR:Sub (U2.out fun j=>j=i1) (U2.set i1 (.map (eIO (putM ((k:Int)+3) (hasP p ((k:Int)+3)) (mp1 p k))))):=fun j o hj=>by
   obtain⟨a,b⟩:=D4 hj
   rw[w7 _ _ b];exact a
  have hC:Sub (U2.out fun j=>j=i1) U2:=BS _ _
  refine gz ?_ (delO 6 o242) [6,11]
  refine Ij (id:=6) [0,1,2,3,4,5,6,7,8,9,10,11] [7,11] (U2.out fun j=>j=i1) (BS _ _) ?_
  refine gf (gi ax ap) ?_ o242 [6,11]
  obtain⟨S3,a8⟩:∃S3,S3=U2.set i1 (.map (eIO (putM ((k:Int)+3) (hasP p ((k:Int)+3)) (mp1 p k)))):=⟨_,rfl⟩
  rw[<-a8]
  have ar:S3 i1=some (.map (eIO (mp1 p (k+1)))):=by rw[a8,w6];rfl
  have aE:S3 i2=some (.map (eIT (mp2 p k))):=by rw[a8,w7 _ _ fun e=>hne e.symm];exact hm2
  have bu:Sub O S3:=fun j o hj=>by rw[a8,w7 _ _ fun e=>by rw[e,h1]at hj;cases hj];exact hS j o hj
  obtain⟨g1,g2⟩:=KC p k (k+1) (by omega)
  have ae:hitD tab 23 false (Ca (.int .i64) (.int .i64 ((k:Int)+3)) (eIO (mp1 p (k+1))) 0)=some (sl (cI (hasP p ((k:Int)+3)))):=by rw[Ut,g1,g2];rfl
  have bp:=Ci p ((k:Int)+3)
  have bx:=E6 p
  clear a8 ax hm2 aR hC
  refine newV (fun i6 h6=>?_)
  have n1:i1≠i6:=fun e=>by rw[<-e,ar]at h6;cases h6
  have n2:i2≠i6:=fun e=>by rw[<-e,aE]at h6;cases h6
  refine gf (gi ar (gi aE (gi ap ae))) ?_ o242 [6,11]
  obtain⟨hs,bn⟩:∃hs,hs=hasP p ((k:Int)+3):=⟨_,rfl⟩
  obtain⟨ini,aK⟩:∃ini,ini=E5 p ((k:Int)+3):=⟨_,rfl⟩
  have bh:ini.length<=1073741824:=by rw[aK];unfold E5;have:=MG (Hp p (linF (p.classes.map (·.parents)) ((k:Int)+3))) (hasP p ((k:Int)+3));omega
  rw[<-bn]at bp
  rw[<-bn,<-aK]
  refine Ft [1,2,3,4,5,6,7,8,20,21,22,23,24,25,26,27,28,29,30,31,32,33,34,35,36,37,38,39,40,41,42,43,44,45,46,47,48,49,50,51,75,76,77,78,79,80,81,82] (fun (q:Nat) (r:RW) (S4:Sig)=>q<=hs.length/\Sub S3 S4/\S4 i6=some (.cells [.int .i64 ((k:Int)+3),r.d q])/\RWAt S4 2 r ((hs.take q).map fun s=>cVal (frV ini s)) /\ ¬r.is i6 /\ ∀j,r.is j->S3 j=none) (fun q _ _=>[(52,dI q)]) (fun _ _ S4=>S4) (fun q _ _=>hs.length-q) (0) (.nil) (S3.set i6 (.cells [.int .i64 ((k:Int)+3),.nils])) (by exact⟨Nat.zero_le _,(Sub.refl _).set h6,w6 .., rfl,id,fun _ h=>h.elim⟩) (fun q r S4 hI=>?_)
  obtain⟨bA,aN,o6,hR,bj,aY⟩:=hI
  by_cases aD:q<hs.length
  ·have aa:((hs.take q).map fun s=>cVal (frV ini s)).length=q:=by simp;omega
   refine gf o6 ?_ o242 [6,11]
   refine newV (fun i11 bX=>?_)
   have aw:∀j o,S4 j=some o->j≠i11:=fun j o hj e=>by rw[e,bX]at hj;cases hj
   have n611:=aw _ _ o6
   rcases idxF_find (fun x:Init=>decide (x.slot=hs[q])) ini 0 with⟨hx,aM⟩|⟨m,hm,hx,aM⟩
   ·repeat' first|refine gf (gi o6 hx) ?_ [] [6,11]|refine Cb (Gt ini (fun x=>decide (x.slot=hs[q])) 292 [.cptr [dI hs[q]] 0] .no _ bh (fun v _=>Gs v hs[q] _)) ?_|refine callP (Gt ini (fun x=>decide (x.slot=hs[q])) 292 [.cptr [dI hs[q]] 0] .no _ bh (fun v _=>Gs v hs[q] _)) ?_|refine gf (gi o6 hx) ?_ o242 [6,11]|apply gy<;>intro hh
    refine xapp (new:=[cVal (E9)]) (es:=(hs.take q).map fun s=>cVal (frV ini s)) (fun j c cs S6 ba aB=>?_) (hR.keep fun j o hj aq=>by rw[w7 _ _ (aw j o hj)];exact hj) (hsz:=by simp) (h1:=by rw[aa];with_unfolding_all rfl) (hb:=by rw[aa];simp;omega) (hm2:=by rw[aa];simp;omega)
    rw[show((hs.take q).map fun s=>cVal (frV ini s))++[cVal (E9)]=(hs.take (q+1)).map fun s=>cVal (frV ini s) by rw[List.take_succ_eq_append_getElem aD,List.map_append];simp only[List.map_cons,List.map_nil];rw[show frV ini hs[q]=E9 by unfold frV;rw[aM]]]at ba
    rw[show((hs.take q).map fun s=>cVal (frV ini s)).length+[cVal (E9)].length=q+1 by rw[aa];rfl]
    obtain⟨k6,k7⟩:=aB i6 _ ((w7 _ _ n611).trans o6) bj
    have ag:∀x o,S3 x=some o->S6 x=some o /\ ¬(RW.row j c cs).is x:=fun x o hx=>aB x o (by rw[w7 _ _ (aw x o (aN x o hx))];exact aN x o hx) (fun h=>by rw[aY x h]at hx;cases hx)
    have bq:∀x,(RW.row j c cs).is x->S3 x=none:=fun x hx=>by
     cases h:S3 x
     ·rfl
     ·exact absurd hx (ag x _ h).2
    refine gf k6 ?_ o242 [6,11]
    exact⟨q+1,.row j c cs,S6.set i6 (.cells [.int .i64 ((k:Int)+3),.sref j 0 (q+1) c]),⟨by omega,fun x o hx=>by rw[w7 _ _ (fun e=>by rw[e,h6]at hx;cases hx)];exact(ag x o hx).1,w6 .., ba.keep fun x o hx hj=>by rw[w7 _ _ (fun e=>by subst e;exact k7 hj)];exact hx,k7,bq⟩,td1,wkR⟩
   ·repeat' first|refine gf (gi o6 hx) ?_ [] [6,11]|refine Cb (Gt ini (fun x=>decide (x.slot=hs[q])) 292 [.cptr [dI hs[q]] 0] .no _ bh (fun v _=>Gs v hs[q] _)) ?_|refine callP (Gt ini (fun x=>decide (x.slot=hs[q])) 292 [.cptr [dI hs[q]] 0] .no _ bh (fun v _=>Gs v hs[q] _)) ?_|refine gf (gi o6 hx) ?_ o242 [6,11]|apply gy<;>intro hh
    refine xapp (new:=[cVal (vInt (ini[m]).n)]) (es:=(hs.take q).map fun s=>cVal (frV ini s)) (fun j c cs S6 ba aB=>?_) (hR.keep fun j o hj aq=>by rw[w7 _ _ (aw j o hj)];exact hj) (hsz:=by simp) (h1:=by rw[aa];with_unfolding_all rfl) (hb:=by rw[aa];simp;omega) (hm2:=by rw[aa];simp;omega)
    rw[show((hs.take q).map fun s=>cVal (frV ini s))++[cVal (vInt (ini[m]).n)]=(hs.take (q+1)).map fun s=>cVal (frV ini s) by rw[List.take_succ_eq_append_getElem aD,List.map_append];simp only[List.map_cons,List.map_nil];rw[show frV ini hs[q]=vInt (ini[m]).n by unfold frV;rw[aM]]]at ba
    rw[show((hs.take q).map fun s=>cVal (frV ini s)).length+[cVal (vInt (ini[m]).n)].length=q+1 by rw[aa];rfl]
    obtain⟨k6,k7⟩:=aB i6 _ ((w7 _ _ n611).trans o6) bj
    have ag:∀x o,S3 x=some o->S6 x=some o /\ ¬(RW.row j c cs).is x:=fun x o hx=>aB x o (by rw[w7 _ _ (aw x o (aN x o hx))];exact aN x o hx) (fun h=>by rw[aY x h]at hx;cases hx)
    have bq:∀x,(RW.row j c cs).is x->S3 x=none:=fun x hx=>by
     cases h:S3 x
     ·rfl
     ·exact absurd hx (ag x _ h).2
    refine gf k6 ?_ o242 [6,11]
    exact⟨q+1,.row j c cs,S6.set i6 (.cells [.int .i64 ((k:Int)+3),.sref j 0 (q+1) c]),⟨by omega,fun x o hx=>by rw[w7 _ _ (fun e=>by rw[e,h6]at hx;cases hx)];exact(ag x o hx).1,w6 .., ba.keep fun x o hx hj=>by rw[w7 _ _ (fun e=>by subst e;exact k7 hj)];exact hx,k7,bq⟩,td1,wkR⟩
  ·obtain rfl:q=hs.length:=by omega
   rw[List.take_length]at hR
   have bR:(hs.map fun s=>cVal (frV ini s))=((A2 p).fresh ((k:Int)+3)).map cVal:=by unfold A2;simp only[List.map_map];rw[<-bn,<-aK];rfl
   have hlen:(hs.map fun s=>cVal (frV ini s)).length=hs.length:=by simp
   refine frzC [.int .i64 ((k:Int)+3)] [] hR (by rw[hlen];exact o6) bj (fun S5 o5 bl=>?_)
   rw[bR]at o5
   have bP:S5 i2=some (.map (eIT (mp2 p k))):=bl i2 _ (aN _ _ aE) n2 (fun h=>by rw[aY _ h]at aE;cases aE)
   have bB:S5 i1=some (.map (eIO (mp1 p (k+1)))):=bl i1 _ (aN _ _ ar) n1 (fun h=>by rw[aY _ h]at ar;cases ar)
   have aR:Sub (S5.out fun j=>j=i2) (S5.set i2 (.map (eIT (putM ((k:Int)+3) ⟨(k:Int)+3,(A2 p).fresh ((k:Int)+3)⟩ (mp2 p k))))):=fun j o hj=>by
    obtain⟨a,b⟩:=D4 hj
    rw[w7 _ _ b];exact a
   have o7:=D8 (touch:=fun j=>j=i2) o5 (fun e=>n2 e.symm)
   have m7:=D8 (touch:=fun j=>j=i2) bB hne
   have hC:Sub (S5.out fun j=>j=i2) S5:=BS _ _
   refine gf o7 ?_ (delO 18 o242) [6,11]
   refine Ij (id:=18) [0,1,2,3,4,5,6] [6] (S5.out fun j=>j=i2) (BS _ _) ?_
   refine gf (gi o7 bP) ?_ o242 [6,11]
   have bT:∀x o,O x=some o->S5 x=some o:=fun x o hx=>bl x o (aN x o (bu x o hx)) (fun e=>by have:=bu x o hx;rw[e,h6]at this;cases this) (fun h=>by have:=bu x o hx;rw[aY x h]at this;cases this)
   exact⟨k+1,S5.set i2 (.map (eIT (putM ((k:Int)+3) ⟨(k:Int)+3,(A2 p).fresh ((k:Int)+3)⟩ (mp2 p k)))),⟨by omega,fun x o hx=>by rw[w7 _ _ (fun e=>by rw[e,bK]at hx;cases hx)];exact bT x o hx,by rw[w7 _ _ hne];exact bB,w6 ..⟩,td1,wkR⟩
 ·obtain rfl:k=p.classes.length:=by omega
  refine gz ?_ o242 [6,11]
  exact fin1 (U':=U2) ⟨i1,i2,rfl,hS,ax,hm2⟩
theorem FrV.set{O U1:Sig}{r:RW}{l:List MVal}{i2:Nat}{ds:List D}(h:FrV (O.set i2 (.cells ds)) r l U1)(aL:O i2=none)(ds':List D):FrV O r l (U1.set i2 (.cells ds')):=by
 obtain⟨h1,h2,h3⟩:=h
 have bm:=(h2 i2 _ (w6 ..) id).2
 refine⟨h1.keep fun j o hj aq=>by rw[w7 _ _ fun e=>bm (by rw[<-e];exact aq)];exact hj,fun j o hj _=>?_,h3⟩
 have hne:j≠i2:=fun e=>by rw[e,aL]at hj;cases hj
 have:=h2 j o (by rw[w7 _ _ hne];exact hj) id
 exact⟨by rw[w7 _ _ hne];exact this.1,this.2⟩
theorem FrV.out{O X':Sig}{r:RW}{l:List MVal}{k:Nat}{x:DObj}(h:FrV (O.set k x) r l X')(hk:O k=none): ∃U',FrV O r l U'/\U' k=none/\X'=U'.set k x:=by
 obtain⟨h1,h2,h3⟩:=h
 obtain⟨g1,g2⟩:=h2 k _ (w6 ..) id
 refine⟨X'.del k,⟨h1.keep fun j o hj aq=>?_,fun j o hj _=>?_,h3⟩,by simp[Sig.del],?_⟩
 ·have hne:j≠k:=fun e=>g2 (e ▸ aq)
  simp only[Sig.del,hne,if_false];exact hj
 ·have hne:j≠k:=fun e=>by rw[e,hk]at hj;cases hj
  have:=h2 j o (by rw[w7 _ _ hne];exact hj) id
  refine⟨?_,this.2⟩
  simp only[Sig.del,hne,if_false];exact this.1
 ·funext j
  by_cases e:j=k
  ·subst e;rw[w6];exact g1
  ·rw[w7 _ _ e];simp only[Sig.del,e,if_false]
theorem FrV.new{O U1:Sig}{r:RW}{l:List MVal}{k:Nat}(h:FrV O r l U1)(hk:U1 k=none)(o:DObj):FrV O r l (U1.set k o):=by
 obtain⟨h1,h2,h3⟩:=h
 exact⟨h1.keep fun j o hj aq=>by rw[w7 _ _ fun e=>by rw[e,hk]at hj;cases hj];exact hj,fun j o hj _=>by
  have:=h2 j o hj id
  exact⟨by rw[w7 _ _ fun e=>by rw[e,hk]at this;cases this.1];exact this.1,this.2⟩,h3⟩
theorem Nj(p:BProg)(c:Int):((A2 p).fresh c).length=(hasP p c).length:=by unfold A2;simp
theorem IE(p:BProg)(i1 i2:Nat)(c:Int)(S0 O:Sig)(hp:p.wt<=1073741824)(hK:KnwS p i1 i2 S0 O)(hc:ownF p c=true)(hn:(hasP p c).length<=1000000):DCall prog 243 [cKnw p i1 i2,dI c] O fun y U'=> ∃r,y=.ret (.agg [dI c,r.d ((A2 p).fresh c).length])/\FrV O r ((A2 p).fresh c) U':=by
 obtain⟨hS,ax,hm2⟩:=hK
 unfold ownF at hc
 simp only[Bool.and_eq_true,decide_eq_true_eq]at hc
 obtain⟨j,hj⟩:∃j:Nat,c=(j:Int)+3:=⟨(c-3).toNat,by omega⟩
 obtain⟨g1,g2⟩:=QB p j p.classes.length (by omega)
 rw[<-hj]at g1 g2
 have ae:=hitIT c (mp2 p p.classes.length) g1
 rw[g2]at ae
 have hl:=Nj p c
 unfold cKnw
 refine en func243 ntmps243 ?_
 refine gz ?_ [] [4]
 refine newV (fun i4 aW=>?_)
 have n2:i2≠i4:=fun e=>by rw[<-e,hm2]at aW;cases aW
 refine gf (gi hm2 ae) ?_ [] [4]
 refine A7 (M3 ((A2 p).fresh c) .no _ (by omega)) (fun d U1 hr=>?_) (fun d U1 hr=>by obtain⟨_,h,_⟩:=hr;cases h)
 obtain⟨r,hd,hF⟩:=hr
 have ay:=(hF.2.1 i4 _ (w6 ..) id).1
 have am:=hF.set aW
 cases hd
 rcases r with _|es|⟨i,c',cs⟩
 ·refine gf ay ?_ [] [4]
  exact finC (U':=U1.set i4 (.cells [dI c,.nils])) ⟨.nil,rfl,am _⟩
 ·refine gf ay ?_ [] [4]
  exact finC (U':=U1.set i4 (.cells [dI c,.slice es .clip])) ⟨.full es,rfl,am _⟩
 ·refine gf ay ?_ [] [4]
  exact finC (U':=U1.set i4 (.cells [dI c,.sref i 0 ((A2 p).fresh c).length c'])) ⟨.row i c' cs,rfl,am _⟩
theorem SE(p:BProg)(c:Int)(O:Sig)(hp:p.wt<=1073741824)(hk:okP p=true)(hc:ownF p c=true)(hn:(hasP p c).length<=1000000):DCall prog 179 [.agg (Ai p),dI c] O fun y U'=> ∃r,y=.ret (.tup [.agg [dI c,r.d ((A2 p).fresh c).length],dI 0])/\FrV O r ((A2 p).fresh c) U':=by
 have ap:(ownF p c&&okP p)=true:=by rw[hc,hk];rfl
 refine en func179 ntmps179 ?_
 refine gz ?_ [] [4]
 refine newV (fun i4 aW=>?_)
 refine gf ap ?_ [] [4]
 refine A7 (M6 p _ hp hk) (fun d U1 hr=>?_) (fun d U1 hr=>by obtain⟨_,_,h,_⟩:=hr;cases h)
 obtain⟨i1,i2,hd,hK⟩:=hr
 cases hd
 refine gz ?_ [] [4]
 refine A7 (IE p i1 i2 c _ U1 hp hK hc hn) (fun d U2 hr=>?_) (fun d U2 hr=>by obtain⟨_,h,_⟩:=hr;cases h)
 obtain⟨r,hd,hF⟩:=hr
 have o4:=hK.1 i4 _ (w6 ..)
 have ay:=(hF.2.1 i4 _ o4 id).1
 have bW:FrV (O.set i4 (.cells [.int .i64 0,.nils])) r ((A2 p).fresh c) U2:=⟨hF.1,fun j o hj _=>hF.2.1 j o (hK.1 j o hj) id,hF.2.2⟩
 have am:=bW.set aW
 cases hd
 rcases r with _|es|⟨i,c',cs⟩
 ·refine gf ay ?_ [] [4]
  exact finC (U':=U2.set i4 (.cells [dI c,.nils])) ⟨.nil,rfl,am _⟩
 ·refine gf ay ?_ [] [4]
  exact finC (U':=U2.set i4 (.cells [dI c,.slice es .clip])) ⟨.full es,rfl,am _⟩
 ·refine gf ay ?_ [] [4]
  exact finC (U':=U2.set i4 (.cells [dI c,.sref i 0 ((A2 p).fresh c).length c'])) ⟨.row i c' cs,rfl,am _⟩
section
variable {ir:Nat}{p:BProg}{R:Nat->RW}{s:GoS}{O:Sig}
theorem RunS.fresh(h:RunS ir p R s O){U1:Sig}{r:RW}{l:List MVal}(hF:FrV O r l U1):U1 ir=some (.cells (AO p R s)) /\ ¬r.is ir/\RWAt U1 2 (R 3) (tCells (fun k=>R (k+4)) s.objs):=
 ⟨(hF.2.1 ir _ h.obj id).1,(hF.2.1 ir _ h.obj id).2,(h.rows.ok 3).keep fun j o hj _=>(hF.2.1 j o hj id).1⟩
theorem RunS.obj_add(h:RunS ir p R s O){U1 U2:Sig}{r:RW}{x:MThing}(hF:FrV O r x.slots U1){i c:Nat}{cs:List D}(hr:RWAt U2 2 (.row i c cs) (tCells (fun k=>R (k+4)) s.objs++[[dI x.cls,r.d x.slots.length]]))(hk:RWK U1 (R 3) U2 (.row i c cs)){ds:List D}
  (hd:ds=AO p (updF (updF R (s.objs.length+4) r) 3 (.row i c cs)) { s with objs:=s.objs++[x] }) :
  RunS ir p (updF (updF R (s.objs.length+4) r) 3 (.row i c cs)) { s with objs:=s.objs++[x] } (U2.set ir (.cells ds))/\RunK ir R O (updF (updF R (s.objs.length+4) r) 3 (.row i c cs)) (U2.set ir (.cells ds)):=by
 obtain⟨f1,f2,f3⟩:=hF
 have e2:rSz (s.objs.length+4)=2:=by unfold rSz;rw[if_neg (by omega)]
 have u1:=h.rows.upd (a:=s.objs.length+4) (r':=r) (by rw[e2];exact f1) (fun j o hj _=>f2 j o hj id)
 have u2:=u1.upd (a:=3) (r':=.row i c cs) hr (by rw[A6 _ _ (by omega)];exact hk)
 have bS:∀a,rCt (updF (updF R (s.objs.length+4) r) 3 (.row i c cs)) { s with objs:=s.objs++[x] } a=updF (updF (rCt R s) (s.objs.length+4) (x.slots.map cVal)) 3 (tCells (fun k=>R (k+4)) s.objs++[[dI x.cls,r.d x.slots.length]]) a:=fun a=>by
  match a with
  |0=>rw[A6 _ _ (by omega),A6 _ _ (by omega)];rfl
  |1=>rw[A6 _ _ (by omega),A6 _ _ (by omega)];rfl
  |2=>rw[A6 _ _ (by omega),A6 _ _ (by omega)];rfl
  |3=>
   rw[Ak]
   show tCells (fun k=>updF (updF R (s.objs.length+4) r) 3 (.row i c cs) (k+4)) (s.objs++[x])=_
   rw[Jw (fun k=>R (k+4)) _ s.objs x fun k hk=>by rw[A6 _ _ (by omega),A6 _ _ (by omega)]]
   simp only[A6 (updF R (s.objs.length+4) r) (RW.row i c cs) (show s.objs.length+4≠3 by omega),Ak]
  | k+4 =>
   rw[A6 _ _ (by omega)]
   show(((s.objs++[x])[k]?).getD ⟨0,[]⟩).slots.map cVal=_
   by_cases e:k=s.objs.length
   ·subst e;rw[Ak];simp
   ·rw[A6 _ _ (by omega)]
    show _=((s.objs[k]?).getD ⟨0,[]⟩).slots.map cVal
    by_cases hk:k<s.objs.length
    ·rw[List.getElem?_append_left hk]
    ·rw[List.getElem?_eq_none (by simp;omega),List.getElem?_eq_none (by omega)]
 have hR:=u2.retell bS
 obtain⟨a1,a2⟩:=f2 ir _ h.obj id
 obtain⟨b1,b2⟩:=hk ir _ a1 (h.ni 3)
 have bd:∀a, ¬(updF (updF R (s.objs.length+4) r) 3 (.row i c cs) a).is ir:=fun a ha=>by
  by_cases e3:a=3
  ·subst e3;rw[Ak]at ha;exact b2 ha
  ·rw[A6 _ _ e3]at ha
   by_cases e4:a=s.objs.length+4
   ·subst e4;rw[Ak]at ha;exact a2 ha
   ·rw[A6 _ _ e4]at ha;exact h.ni a ha
 refine⟨⟨by rw[w6,hd],hR.keep fun j o hj ⟨b,hb⟩=>by rw[w7 _ _ fun e=>bd b (by rw[<-e];exact hb)];exact hj,bd,fun a es he=>?_⟩,fun j o hj bf hn=>?_⟩
 ·by_cases e3:a=3
  ·subst e3;rw[Ak]at he;cases he
  ·rw[A6 _ _ e3]at he
   by_cases e4:a=s.objs.length+4
   ·subst e4;rw[Ak]at he;exact f3 es he
   ·rw[A6 _ _ e4]at he;exact h.nf a es he
 ·obtain⟨k3,k4⟩:=f2 j o hj id
  obtain⟨k5,k6⟩:=hk j o k3 (hn 3)
  refine⟨by rw[w7 _ _ bf];exact k5,fun a ha=>?_⟩
  by_cases e3:a=3
  ·subst e3;rw[Ak]at ha;exact k6 ha
  ·rw[A6 _ _ e3]at ha
   by_cases e4:a=s.objs.length+4
   ·subst e4;rw[Ak]at ha;exact k4 ha
   ·rw[A6 _ _ e4]at ha;exact hn a ha
theorem U4{O:Sig}{sz:Nat}{r:RW}{es:List (List D)}{n:Nat}(h:RWAt O sz r es)(hn:es.length=n)(e:Nat):lenD (.slice e) (r.d n)=some (.int .i64 n):=by
 subst hn
 cases r with
 |nil=>obtain rfl:es=[]:=h;rfl
 |full es0=>obtain⟨rfl,_⟩:=h;rfl
 |row i c cs=>rfl
theorem T0(x:CIns)(hp:p.wt<=1073741824)(hk:okP p=true)(hc:ownF p x.a=true)(hn:(hasP p x.a).length<=1000000)(hR:RunS ir p R s O)(hs:s.stk.length<=1000000)(ho:s.objs.length<=1000):DCall prog 108 [.ptr ir 0,.agg (cIns x)] O fun y U'=> ∃R',RunK ir R O R' U' /\
  if 40<=s.objs.length then y=.ret (.bool true)/\HaltS ir p R' s .nils false (FO s 8 s.stk.dropLast) U' else y=.ret (.bool false)/\RunS ir p R' { s with objs:=s.objs++[⟨x.a,(A2 p).fresh x.a⟩],stk:=s.stk++[vObj s.objs.length] } U':=by
 have q1:=hR.obj
 have q3:RWAt O 2 (R 3) (tCells (fun k=>R (k+4)) s.objs):=hR.rows.ok 3
 have bC:=U4 q3 (A3 _ _) 131
 by_cases aO:40<=s.objs.length
 ·refine en func108 ntmps108 ?_
  refine gf (gi q1 bC) ?_ o108
  refine A7 (Gu 8 s.stk.dropLast hR) (fun d S3 hr=>?_) (fun d S3 hr=>by cases hr.1)
  obtain⟨hd,h1,h2⟩:=hr
  cases hd
  refine gz ?_ o108
  exact fin1 (U':=S3) ⟨R,h2,by rw[if_pos aO];exact⟨rfl,h1⟩⟩
 ·refine en func108 ntmps108 ?_
  refine gf (gi q1 bC) ?_ (delO 3 o108)
  refine mixU (id:=3) [0,1,2,3,4,5,6,7,8,9,10,11,12] [11] [6] ?_
  refine u3R (.ptr ir 0) ?_
  refine u3R (.ptr ir 0) ?_
  refine u3R (.ptr ir 11) ?_
  refine u3R (.agg (Ai p)) ?_ (hd:=by simp[q1])
  refine u3R (.cptr (cIns x) 1) ?_
  refine u3R (dI x.a) ?_
  refine u3C (fun τ d X'=> ∃r,d=.tup [.agg [dI x.a,r.d ((A2 p).fresh x.a).length],dI 0]/\FrV τ r ((A2 p).fresh x.a) X') (fun τ=>(SE p x.a τ hp hk hc hn).mono fun y X' ⟨r,h1,h2⟩=>⟨_,h1,r,rfl,h2⟩) (fun τ k z d X' hk ⟨r,h1,h2⟩=>by
   obtain⟨X2,h3,h4,h5⟩:=h2.out hk
   exact⟨X2,⟨r,h1,h3⟩,h4,h5⟩) (fun d U1 ⟨r,hd,hF⟩=>⟨fun j o hj=>(hF.2.1 j o hj id).1,?_⟩)
  have hS:Sub O U1:=fun j o hj=>(hF.2.1 j o hj id).1
  subst hd
  rcases r with _|es|⟨i,c',cs⟩
  ·refine u3R (.tup [.agg [dI x.a,.nils],dI 0]) ?_
   refine u3R (.agg [dI x.a,.nils]) ?_
   refine u3R (dI 0) ?_
   refine u3A [.int .i64 0,.nils] (fun i5 ah=>?_)
   have aC:Sub O ((U1.set i5 (.cells [.int .i64 0,.nils])).set i5 (.cells [dI x.a,.nils])):=(hS.set (hS.none ah)).set (hS.none ah)
   have o5:(U1.set i5 (.cells [.int .i64 0,.nils])) i5=_:=w6 ..
   refine u3M ?_
   simp only[List.map]
   refine FK Ad tdR (by simp;rfl) aC ?_
   simp only[Sig.set_set]
   have am:=hF.new ah (.cells [dI x.a,.nils])
   have o6:(U1.set i5 (.cells [dI x.a,.nils])) i5=_:=w6 ..
   have n5:¬(R 3).is i5:=fun h=>by
    obtain⟨z,hz⟩:=q3.cells h
    rw[hS _ _ hz]at ah;cases ah
   obtain⟨a1,a2,a3⟩:=hR.fresh am
   generalize U1.set i5 (.cells [dI x.a,.nils])=U2 at*
   have u1:=D8 a1 (hR.ni 3)
   have u5:=D8 o6 n5
   refine gz ?_ (delO 4 o108)
   refine EO (id:=4) [0,1,2,3,4,5,6,7,8,9,10,11] [8] (U2.out (R 3).is) (BS _ _) ?_
   refine gf (gi u1 u5) ?_ o108
   refine Gb (new:=[[dI x.a,.nils]]) (es:=tCells (fun k=>R (k+4)) s.objs) (fun j c2 cs2 S3 aU aF=>?_) (fun j o h=>D4 h) (hm:=a3) (h1:=by rw[A3];with_unfolding_all rfl) (hb:=by rw[A3];simp;omega) (hm2:=by rw[A3];simp;omega)
   obtain⟨v1,v2⟩:=aF ir _ a1 (hR.ni 3)
   rw[show(tCells (fun k=>R (k+4)) s.objs).length+[[dI x.a,.nils]].length=s.objs.length+1 by rw[A3];rfl]
   refine gf v1 ?_ o108
   obtain⟨p1,p2⟩:=hR.obj_add (x:=⟨x.a,(A2 p).fresh x.a⟩) (r:=.nil) am aU aF rfl
   refine drp (S3.set ir (.cells (AO p (updF (updF R (s.objs.length+4) .nil) 3 (.row j c2 cs2)) { s with objs:=s.objs++[⟨x.a,(A2 p).fresh x.a⟩] }))) ?_ (by simp[AO,Ai];exact Sub.refl _)
   refine A7 (Bk (vObj s.objs.length) p1 hs) (fun d S4 hr=>?_) (fun d S4 hr=>by cases hr.1)
   obtain⟨hd,R4,aj,ak⟩:=hr
   cases hd
   refine gz ?_ o108
   exact fin1 (U':=S4) ⟨R4,p2.trans ak,by rw[if_neg aO];exact⟨rfl,aj⟩⟩
  ·refine u3R (.tup [.agg [dI x.a,.slice es .clip],dI 0]) ?_
   refine u3R (.agg [dI x.a,.slice es .clip]) ?_
   refine u3R (dI 0) ?_
   refine u3A [.int .i64 0,.nils] (fun i5 ah=>?_)
   have aC:Sub O ((U1.set i5 (.cells [.int .i64 0,.nils])).set i5 (.cells [dI x.a,.slice es .clip])):=(hS.set (hS.none ah)).set (hS.none ah)
   have o5:(U1.set i5 (.cells [.int .i64 0,.nils])) i5=_:=w6 ..
   refine u3M ?_
   simp only[List.map]
   refine FK Ad tdR (by simp;rfl) aC ?_
   simp only[Sig.set_set]
   have am:=hF.new ah (.cells [dI x.a,.slice es .clip])
   have o6:(U1.set i5 (.cells [dI x.a,.slice es .clip])) i5=_:=w6 ..
   have n5:¬(R 3).is i5:=fun h=>by
    obtain⟨z,hz⟩:=q3.cells h
    rw[hS _ _ hz]at ah;cases ah
   obtain⟨a1,a2,a3⟩:=hR.fresh am
   generalize U1.set i5 (.cells [dI x.a,.slice es .clip])=U2 at*
   have u1:=D8 a1 (hR.ni 3)
   have u5:=D8 o6 n5
   refine gz ?_ (delO 4 o108)
   refine EO (id:=4) [0,1,2,3,4,5,6,7,8,9,10,11] [8] (U2.out (R 3).is) (BS _ _) ?_
   refine gf (gi u1 u5) ?_ o108
   refine Gb (new:=[[dI x.a,.slice es .clip]]) (es:=tCells (fun k=>R (k+4)) s.objs) (fun j c2 cs2 S3 aU aF=>?_) (fun j o h=>D4 h) (hm:=a3) (h1:=by rw[A3];with_unfolding_all rfl) (hb:=by rw[A3];simp;omega) (hm2:=by rw[A3];simp;omega)
   obtain⟨v1,v2⟩:=aF ir _ a1 (hR.ni 3)
   rw[show(tCells (fun k=>R (k+4)) s.objs).length+[[dI x.a,.slice es .clip]].length=s.objs.length+1 by rw[A3];rfl]
   refine gf v1 ?_ o108
   obtain⟨p1,p2⟩:=hR.obj_add (x:=⟨x.a,(A2 p).fresh x.a⟩) (r:=(.full es)) am aU aF rfl
   refine drp (S3.set ir (.cells (AO p (updF (updF R (s.objs.length+4) (.full es)) 3 (.row j c2 cs2)) { s with objs:=s.objs++[⟨x.a,(A2 p).fresh x.a⟩] }))) ?_ (by simp[AO,Ai];exact Sub.refl _)
   refine A7 (Bk (vObj s.objs.length) p1 hs) (fun d S4 hr=>?_) (fun d S4 hr=>by cases hr.1)
   obtain⟨hd,R4,aj,ak⟩:=hr
   cases hd
   refine gz ?_ o108
   exact fin1 (U':=S4) ⟨R4,p2.trans ak,by rw[if_neg aO];exact⟨rfl,aj⟩⟩
  ·refine u3R (.tup [.agg [dI x.a,.sref i 0 ((A2 p).fresh x.a).length c'],dI 0]) ?_
   refine u3R (.agg [dI x.a,.sref i 0 ((A2 p).fresh x.a).length c']) ?_
   refine u3R (dI 0) ?_
   refine u3A [.int .i64 0,.nils] (fun i5 ah=>?_)
   have aC:Sub O ((U1.set i5 (.cells [.int .i64 0,.nils])).set i5 (.cells [dI x.a,.sref i 0 ((A2 p).fresh x.a).length c'])):=(hS.set (hS.none ah)).set (hS.none ah)
   have o5:(U1.set i5 (.cells [.int .i64 0,.nils])) i5=_:=w6 ..
   refine u3M ?_
   simp only[List.map]
   refine FK Ad tdR (by simp;rfl) aC ?_
   simp only[Sig.set_set]
   have am:=hF.new ah (.cells [dI x.a,.sref i 0 ((A2 p).fresh x.a).length c'])
   have o6:(U1.set i5 (.cells [dI x.a,.sref i 0 ((A2 p).fresh x.a).length c'])) i5=_:=w6 ..
   have n5:¬(R 3).is i5:=fun h=>by
    obtain⟨z,hz⟩:=q3.cells h
    rw[hS _ _ hz]at ah;cases ah
   obtain⟨a1,a2,a3⟩:=hR.fresh am
   generalize U1.set i5 (.cells [dI x.a,.sref i 0 ((A2 p).fresh x.a).length c'])=U2 at*
   have u1:=D8 a1 (hR.ni 3)
   have u5:=D8 o6 n5
   refine gz ?_ (delO 4 o108)
   refine EO (id:=4) [0,1,2,3,4,5,6,7,8,9,10,11] [8] (U2.out (R 3).is) (BS _ _) ?_
   refine gf (gi u1 u5) ?_ o108
   refine Gb (new:=[[dI x.a,.sref i 0 ((A2 p).fresh x.a).length c']]) (es:=tCells (fun k=>R (k+4)) s.objs) (fun j c2 cs2 S3 aU aF=>?_) (fun j o h=>D4 h) (hm:=a3) (h1:=by rw[A3];with_unfolding_all rfl) (hb:=by rw[A3];simp;omega) (hm2:=by rw[A3];simp;omega)
   obtain⟨v1,v2⟩:=aF ir _ a1 (hR.ni 3)
   rw[show(tCells (fun k=>R (k+4)) s.objs).length+[[dI x.a,.sref i 0 ((A2 p).fresh x.a).length c']].length=s.objs.length+1 by rw[A3];rfl]
   refine gf v1 ?_ o108
   obtain⟨p1,p2⟩:=hR.obj_add (x:=⟨x.a,(A2 p).fresh x.a⟩) (r:=(.row i c' cs)) am aU aF rfl
   refine drp (S3.set ir (.cells (AO p (updF (updF R (s.objs.length+4) (.row i c' cs)) 3 (.row j c2 cs2)) { s with objs:=s.objs++[⟨x.a,(A2 p).fresh x.a⟩] }))) ?_ (by simp[AO,Ai];exact Sub.refl _)
   refine A7 (Bk (vObj s.objs.length) p1 hs) (fun d S4 hr=>?_) (fun d S4 hr=>by cases hr.1)
   obtain⟨hd,R4,aj,ak⟩:=hr
   cases hd
   refine gz ?_ o108
   exact fin1 (U':=S4) ⟨R4,p2.trans ak,by rw[if_neg aO];exact⟨rfl,aj⟩⟩
end
theorem KS(p:BProg)(l:List MThing)(o:Own)(O:Sig)(hp:p.wt<=1073741824)(hl:l.length<=1073741824)(hs:∀x∈l,x.slots.length<=1073741824):DCall prog 45 [.agg (Ai p),.slice (l.map cTh) o] O (rS (dI (if okP p&&Bc (A2 p) l then 0 else 2)) O):=by
 refine en func45 ntmps45 ?_
 cases hk:okP p with
 |false=>
  refine gf hk ?_
  exact fin1 (U':=O) ⟨rfl,rfl⟩
 | true =>
  by_cases aO:l.length<=40
  rotate_left
  ·have aV:Bc (A2 p) l=false:=by unfold Bc;simp[aO]
   refine gf hk ?_
   exact fin1 (U':=O) ⟨by rw[aV],rfl⟩
  ·refine gf hk ?_
   refine Cg [1,2,17,18] (fun (k:Nat)=>k<=l.length /\ ∀x∈l.take k,(A2 p).own x.cls=true/\x.slots.length=((A2 p).slots x.cls).length/\okVs l.length x.slots=true) (fun k=>[(19,dI k)]) (fun _=>O) (fun k=>l.length-k) (0) (by exact⟨Nat.zero_le _,by simp⟩) (fun k hI=>?_)
   obtain⟨be,hI⟩:=hI
   by_cases aA:k<l.length
   ·have bZ:=hs _ (List.getElem_mem aA)
    have bp:=Ci p (l[k]).cls
    have bx:=E6 p
    have aV:¬((A2 p).own (l[k]).cls=true/\(l[k]).slots.length=((A2 p).slots (l[k]).cls).length/\okVs l.length (l[k]).slots=true)->Bc (A2 p) l=false:=fun h=>by
     cases hb:Bc (A2 p) l with
     |false=>rfl
     |true=>exact absurd ((BA.1 hb).2 _ (List.getElem_mem aA)) h
    cases ho:ownF p (l[k]).cls with
    |false=>
     have hb:=aV fun h=>by have:=h.1;rw[show(A2 p).own (l[k]).cls=(ownF p (l[k]).cls&&okP p) from rfl,ho]at this;cases this
     refine gf (gi hk ho) ?_
     exact fin1 (U':=O) ⟨by rw[hb],rfl⟩
    | true =>
     have bO:(A2 p).own (l[k]).cls=true:=by show(ownF p (l[k]).cls&&okP p)=true;rw[ho,hk];rfl
     by_cases aP:(l[k]).slots.length=(hasP p (l[k]).cls).length
     ·cases hv:okVs l.length (l[k]).slots with
      |false=>
       have hb:=aV fun h=>by have:=h.2.2;rw[hv]at this;cases this
       refine gf (gi hk (gi ho (gi hv aP))) ?_
       exact fin1 (U':=O) ⟨by rw[hb],rfl⟩
      |true=>
       refine gf (gi hk (gi ho (gi hv aP))) ?_
       exact⟨k+1,⟨by omega,fun x hx=>by rw[List.take_succ_eq_append_getElem aA,List.mem_append,List.mem_singleton]at hx;exact hx.elim (hI x) (fun e=>by rw[e];exact⟨bO,aP,hv⟩)⟩,td1,wkR⟩
     ·have hb:=aV fun h=>aP h.2.1
      have bk:¬(hasP p (l[k]).cls).length=(l[k]).slots.length:=fun e=>aP e.symm
      refine gf (gi hk (gi ho (gi aP bk))) ?_
      exact fin1 (U':=O) ⟨by rw[hb],rfl⟩
   ·have hb:Bc (A2 p) l=true:=BA.2 ⟨aO,by rw[List.take_of_length_le (by omega)]at hI;exact hI⟩
    refine gz ?_
    exact fin1 (U':=O) ⟨by rw[hb],rfl⟩
def curT(w:CWorld)(x:MThing)(c:Int)(q:Nat):List MVal:=(Cp w x c).slots.take q++(w.fresh c).drop q
theorem Cs(w:CWorld)(x:MThing)(c:Int)(h:(w.fresh c).length=(w.slots c).length):(Cp w x c).slots.length=(w.slots c).length:=by unfold Cp;simp[h]
theorem OE(w:CWorld)(x:MThing)(c:Int)(h:(w.fresh c).length=(w.slots c).length)(q:Nat)(hq:q<=(w.slots c).length):(curT w x c q).length=(w.slots c).length:=by
 unfold curT;rw[List.length_append,List.length_take,List.length_drop,Cs w x c h,h];omega
theorem Q0(w:CWorld)(x:MThing)(c:Int)(h:(w.fresh c).length=(w.slots c).length)(q:Nat)(hq:q<(w.slots c).length):(Cp w x c).slots[q]'(by rw[Cs w x c h];exact hq)=(if 0<=idxG ((w.slots c)[q]) (w.slots x.cls) 0 then(x.slots[(idxG ((w.slots c)[q]) (w.slots x.cls) 0).toNat]?).getD vZ else(w.fresh c)[q]'(by rw[h];exact hq)):=by
 unfold Cp;simp
theorem Ts(w:CWorld)(x:MThing)(c:Int)(h:(w.fresh c).length=(w.slots c).length)(q:Nat)(hq:q<(w.slots c).length):curT w x c (q+1)=(curT w x c q).set q ((Cp w x c).slots[q]'(by rw[Cs w x c h];exact hq)):=by
 unfold curT
 have ht:q<(Cp w x c).slots.length:=by rw[Cs w x c h];exact hq
 rw[List.take_succ_eq_append_getElem ht,List.set_append_right _ _ (by rw[List.length_take];omega),List.append_assoc]
 congr 1
 rw[show(w.fresh c).drop q=(w.fresh c)[q]'(by rw[h];exact hq)::(w.fresh c).drop (q+1) from Ab (by rw[h];exact hq),List.length_take_of_le (by omega),Nat.sub_self]
 rfl
theorem Vi(w:CWorld)(x:MThing)(c:Int)(h:(w.fresh c).length=(w.slots c).length)(q:Nat)(hq:q<(w.slots c).length):(curT w x c q)[q]? = some ((w.fresh c)[q]'(by rw[h];exact hq)):=by
 unfold curT
 have ht:q<(Cp w x c).slots.length:=by rw[Cs w x c h];exact hq
 rw[List.getElem?_append_right (by rw[List.length_take];omega),List.length_take_of_le (by omega),Nat.sub_self,Ab (l:=w.fresh c) (by rw[h];exact hq)]
 rfl
theorem curT_0(w:CWorld)(x:MThing)(c:Int):curT w x c 0=w.fresh c:=by unfold curT;simp
theorem Vj(w:CWorld)(x:MThing)(c:Int)(h:(w.fresh c).length=(w.slots c).length):curT w x c (w.slots c).length=(Cp w x c).slots:=by
 unfold curT;rw[<-h,List.drop_length,List.append_nil,List.take_of_length_le (by rw[Cs w x c h,h];exact Nat.le_refl _)]
theorem Sh(p:BProg)(i1 i2:Nat)(x:MThing)(c:Int)(rx:RW)(S0 O:Sig)(hp:p.wt<=1073741824)(hK:KnwS p i1 i2 S0 O)(hc:ownF p c=true)(bE:ownF p x.cls=true)(hn:(hasP p c).length<=1000000)(hx:RWAt O 2 rx (x.slots.map cVal))(bL:∀es,rx=.full es->es=[])(bY:x.slots.length=(hasP p x.cls).length):
  DCall prog 246 [cKnw p i1 i2,.agg [dI x.cls,rx.d x.slots.length],dI c] O fun y U'=> ∃r,y=.ret (.agg [dI c,r.d (Cp (A2 p) x c).slots.length])/\FrV O r (Cp (A2 p) x c).slots U':=by
 obtain⟨hS,ax,hm2⟩:=hK
 have aX:=Nj p c
 have ap:=hc
 unfold ownF at ap bE
 simp only[Bool.and_eq_true,decide_eq_true_eq]at ap bE
 obtain⟨j,hj⟩:∃j:Nat,c=(j:Int)+3:=⟨(c-3).toNat,by omega⟩
 obtain⟨jx,bQ⟩:∃j:Nat,x.cls=(j:Int)+3:=⟨(x.cls-3).toNat,by omega⟩
 obtain⟨g1,g2⟩:=KC p j p.classes.length (by omega)
 obtain⟨g3,g4⟩:=KC p jx p.classes.length (by omega)
 rw[<-hj]at g1 g2
 rw[<-bQ]at g3 g4
 have ae:hitD tab 23 false (Ca (.int .i64) (.int .i64 c) (eIO (mp1 p p.classes.length)) 0)=some (sl (cI (hasP p c))):=by rw[Ut,g1,g2];rfl
 have aG:hitD tab 23 false (Ca (.int .i64) (.int .i64 x.cls) (eIO (mp1 p p.classes.length)) 0)=some (sl (cI (hasP p x.cls))):=by rw[Ut,g3,g4];rfl
 have bp:=Ci p x.cls
 have bx:=E6 p
 by_cases he:hasP p c=[]
 ·have bD:(A2 p).fresh c=[]:=List.length_eq_zero_iff.1 (by rw[aX,he];rfl)
  have bc:(Cp (A2 p) x c).slots=[]:=List.length_eq_zero_iff.1 (by rw[Cs _ x c aX];show(hasP p c).length=0;rw[he];rfl)
  rw[he]at ae
  unfold cKnw
  refine en func246 ntmps246 ?_
  refine gz ?_ o246 [6]
  refine newV (fun i6 au=>?_)
  have n1:i1≠i6:=fun e=>by rw[<-e,ax]at au;cases au
  have aB:KnwS p i1 i2 S0 (O.set i6 (.cells [.int .i64 0,.nils])):=⟨fun j o hj=>(hS.set (hS.none au)) j o hj,by rw[w7 _ _ n1];exact ax,by rw[w7 _ _ fun e=>by rw[e,au]at hm2;cases hm2];exact hm2⟩
  refine gz ?_ o246 [6]
  refine A7 (IE p i1 i2 c S0 _ hp aB hc hn) (fun d U1 hr=>?_) (fun d U1 hr=>by obtain⟨_,h,_⟩:=hr;cases h)
  obtain⟨r,hd,hF⟩:=hr
  have ar:=(hF.2.1 i1 _ ((w7 _ _ n1).trans ax) id)
  have o6:=(hF.2.1 i6 _ (w6 ..) id)
  have bw:FrV (O.set i6 (.cells [.int .i64 0,.nils])) r (Cp (A2 p) x c).slots U1:=by rw[bc,<-bD];exact hF
  have bb:=bw.set au
  cases hd
  rw[bD]
  rcases r with _|es|⟨i,c',cs⟩
  ·refine gf (gi ar.1 ae) ?_ o246 [6]
   refine Cg [0,4,6,7,19,20,47] (fun (q:Nat)=>True) (fun _=>[(21,dI 0)]) (fun _=>U1) (fun _=>1) (0) (by trivial) (fun q hI=>?_)
   refine gf o6.1 ?_ o246 [6]
   exact finC (U':=U1.set i6 (.cells [dI c,.nils])) ⟨.nil,by rw[bc],bb _⟩
  ·refine gf (gi ar.1 ae) ?_ o246 [6]
   refine Cg [0,4,6,7,19,20,47] (fun (q:Nat)=>True) (fun _=>[(21,dI 0)]) (fun _=>U1) (fun _=>1) (0) (by trivial) (fun q hI=>?_)
   refine gf o6.1 ?_ o246 [6]
   exact finC (U':=U1.set i6 (.cells [dI c,.slice es .clip])) ⟨.full es,by rw[bc],bb _⟩
  ·refine gf (gi ar.1 ae) ?_ o246 [6]
   refine Cg [0,4,6,7,19,20,47] (fun (q:Nat)=>True) (fun _=>[(21,dI 0)]) (fun _=>U1) (fun _=>1) (0) (by trivial) (fun q hI=>?_)
   refine gf o6.1 ?_ o246 [6]
   exact finC (U':=U1.set i6 (.cells [dI c,.sref i 0 0 c'])) ⟨.row i c' cs,by rw[bc],bb _⟩
 ·unfold cKnw
  refine en func246 ntmps246 ?_
  refine gz ?_ o246 [6]
  refine newV (fun i6 au=>?_)
  have n1:i1≠i6:=fun e=>by rw[<-e,ax]at au;cases au
  have aB:KnwS p i1 i2 S0 (O.set i6 (.cells [.int .i64 0,.nils])):=⟨fun j o hj=>(hS.set (hS.none au)) j o hj,by rw[w7 _ _ n1];exact ax,by rw[w7 _ _ fun e=>by rw[e,au]at hm2;cases hm2];exact hm2⟩
  refine gz ?_ o246 [6]
  refine A7 (IE p i1 i2 c S0 _ hp aB hc hn) (fun d U1 hr=>?_) (fun d U1 hr=>by obtain⟨_,h,_⟩:=hr;cases h)
  obtain⟨r,hd,hF⟩:=hr
  cases hd
  have bN:∃i c' cs,r=.row i c' cs:=by
   rcases r with _|es|⟨i,c',cs⟩
   ·have:=hF.1;exact absurd (show((A2 p).fresh c).map cVal=[] from this) (by intro h;have:=congrArg List.length h;rw[List.length_map,aX]at this;exact he (List.length_eq_zero_iff.1 this))
   ·have:=hF.1.1;rw[hF.2.2 es rfl]at this;exact absurd this (by intro h;have:=congrArg List.length h;rw[List.length_map,aX]at this;exact he (List.length_eq_zero_iff.1 this))
   ·exact⟨i,c',cs,rfl⟩
  obtain⟨i,c',cs,rfl⟩:=bN
  have ar:=(hF.2.1 i1 _ ((w7 _ _ n1).trans ax) id)
  have o6:=(hF.2.1 i6 _ (w6 ..) id)
  refine gf (gi ar.1 ae) ?_ o246 [6]
  have hw:((A2 p).fresh c).length=((A2 p).slots c).length:=aX
  have b6:(hasP p x.cls).length<=1073741824:=by omega
  refine D7 [0,4,6,7,19,20,47] (fun (q:Nat) (S4:Sig)=>q<=(hasP p c).length/\RWAt S4 2 (.row i c' cs) ((curT (A2 p) x c q).map cVal) /\ ∀j o,U1 j=some o->j≠i->S4 j=some o) (fun q _=>[(21,dI q)]) (fun _ S4=>S4) (fun q _=>(hasP p c).length-q) (0) (U1) (by exact⟨Nat.zero_le _,by rw[curT_0];exact hF.1,fun _ _ h _=>h⟩) (fun q S4 hI=>?_)
  obtain⟨bA,hR,aQ⟩:=hI
  have aE:=aQ i1 _ ar.1 (fun e=>ar.2 e)
  by_cases aD:q<(hasP p c).length
  ·have bz:q<(Cp (A2 p) x c).slots.length:=by rw[Cs _ x c hw];exact aD
   have aH:=Q0 (A2 p) x c hw q aD
   have bG:=OE (A2 p) x c hw q bA
   have bF:=Ts (A2 p) x c hw q aD
   have bH:=Vi (A2 p) x c hw q aD
   change (Cp (A2 p) x c).slots[q]=(if 0<=idxG ((hasP p c)[q]) (hasP p x.cls) 0 then(x.slots[(idxG ((hasP p c)[q]) (hasP p x.cls) 0).toNat]?).getD vZ else _)at aH
   change (curT (A2 p) x c q).length=(hasP p c).length at bG
   by_cases aJ:0<=idxG ((hasP p c)[q]) (hasP p x.cls) 0
   ·rw[if_pos aJ]at aH
    obtain⟨k,hk⟩:∃k:Nat,idxG ((hasP p c)[q]) (hasP p x.cls) 0=k:=⟨(idxG ((hasP p c)[q]) (hasP p x.cls) 0).toNat,by omega⟩
    obtain⟨m1,m2⟩:=H4 (s:=(hasP p c)[q]) (hasP p x.cls) 0 aJ
    have aA:k<x.slots.length:=by omega
    rw[hk,Int.toNat_natCast,List.getElem?_eq_getElem aA,Option.getD_some]at aH
    obtain⟨ix,cx,csx,bM,Lx,y1,y2,y3⟩:=rowV (R:=fun _=>rx) (a:=0) hx (fun e=>by
     have e':rx=.nil:=e
     rw[e']at hx
     have:=congrArg List.length (show x.slots.map cVal=[] from hx)
     simp at this;rw[this]at aA;simp at aA) bL aA
    have bi:rx=.row ix cx csx:=bM
    subst bi
    obtain⟨y4,y5⟩:=hF.2.1 ix _ ((w7 _ _ fun e=>by rw[e,au]at y1;cases y1).trans y1) id
    have y6:=aQ ix _ y4 (fun e=>y5 e)
    obtain⟨L,hL⟩:∃L,L=((curT (A2 p) x c q).map cVal).flatten++cs:=⟨_,rfl⟩
    have z1:S4 i=some (.cells L):=by rw[hL];exact hR.1
    have b7:L.length=(curT (A2 p) x c q).length*2+cs.length:=by rw[hL,FE]
    have hf:¬L.length<q*2+2:=by omega
    have aS:=PY (curT (A2 p) x c q) q (by omega) (x.slots[k]) cs
    rw[<-hL,<-aH,<-bF,aH,List.append_assoc]at aS
    have aZ:=OE (A2 p) x c hw (q+1) aD
    change (curT (A2 p) x c (q+1)).length=(hasP p c).length at aZ
    have bU:RWAt (S4.set i (.cells (List.take (q*2) L++(cVal (x.slots[k])++List.drop (q*2+2) L)))) 2 (.row i c' cs) ((curT (A2 p) x c (q+1)).map cVal):=by
     obtain⟨b1,b2,b3,b4⟩:=hR
     refine⟨by rw[w6,aS],?_,by rw[List.length_map,aZ];rw[List.length_map,bG]at b3;exact b3,Bm⟩
     rw[FE]at b2⊢
     omega
    refine gf (gi aE (gi aG (gi hk (gi y6 (gi y2 (gi y3 (gi z1 hf))))))) ?_ o246 [6]
    exact⟨q+1,S4.set i (.cells (List.take (q*2) L++(cVal (x.slots[k])++List.drop (q*2+2) L))),⟨by omega,bU,fun j o hj bf=>by rw[w7 _ _ bf];exact aQ j o hj bf⟩,td1,wkR⟩
   ·rw[if_neg aJ]at aH
    have aT:curT (A2 p) x c (q+1)=curT (A2 p) x c q:=by
     rw[bF,aH]
     rw[List.getElem?_eq_getElem (by omega)]at bH
     rw[<-Option.some.inj bH,List.set_getElem_self]
    refine gf (gi aE aG) ?_ o246 [6]
    exact⟨q+1,S4,⟨by omega,by rw[aT];exact hR,aQ⟩,td1,wkR⟩
  ·obtain rfl:q=(hasP p c).length:=by omega
   have br:=Vj (A2 p) x c hw
   rw[show curT (A2 p) x c (hasP p c).length=(Cp (A2 p) x c).slots from br]at hR
   have o7:=aQ i6 _ o6.1 (fun e=>o6.2 e)
   have bw:FrV (O.set i6 (.cells [.int .i64 0,.nils])) (.row i c' cs) (Cp (A2 p) x c).slots S4:=⟨hR,fun j o hj _=>by
    obtain⟨b1,b2⟩:=hF.2.1 j o hj id
    exact⟨aQ j o b1 (fun e=>b2 e),b2⟩,fun es h=>by cases h⟩
   have bb:=bw.set au
   have bz:(Cp (A2 p) x c).slots.length=((A2 p).fresh c).length:=by rw[Cs _ x c hw,hw]
   refine gf o7 ?_ o246 [6]
   exact finC (U':=S4.set i6 (.cells [dI c,.sref i 0 ((A2 p).fresh c).length c'])) ⟨.row i c' cs,by rw[bz],bb _⟩
end Go.DL
