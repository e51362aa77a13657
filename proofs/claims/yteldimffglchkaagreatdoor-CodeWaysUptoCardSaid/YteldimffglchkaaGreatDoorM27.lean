/- A part of the proof. -/
import Derived.Test.YteldimffglchkaaGreatDoorM26
import Derived.Test.YteldimffglchkaaGreatDoorM14
set_option linter.all false
namespace Go.DL
open Go.Proofs.Tryz
open Go Go.Proofs
set_option maxHeartbeats 8000000
structure ThS(R:Nat->RW)(l:List MThing)(S0 O:Sig):Prop where
 rows:Rows O R rSz (rCt R ⟨l,[],0,[],[]⟩)
 lo:∀a,a<3->R a=.nil
 nf:∀a es,R a=.full es->es=[]
 keep:∀j o,S0 j=some o->O j=some o /\ ∀a, ¬(R a).is j
theorem ThS.nil(O:Sig):ThS (fun _=>.nil) [] O O:=
 ⟨⟨fun a=>by
  match a with
  |0=>rfl
  |1=>rfl
  |2=>rfl
  |3=>rfl
  |k+4=>rfl,fun _ _ _ h=>h.elim⟩,fun _ _=>rfl,(fun _ _ h=>by cases h),fun _ _ h=>⟨h,fun _ h=>h⟩⟩
theorem ThS.row3{R:Nat->RW}{l:List MThing}{S0 O:Sig}(h:ThS R l S0 O):RWAt O 2 (R 3) (tCells (fun k=>R (k+4)) l):=h.rows.ok 3
theorem JB(S S':Nat->RW)(l:List MThing)(x:MThing)(h:∀k,k<l.length->S' k=S k):tCells S' (l++[x])=tCells S l++[[dI x.cls,(S' l.length).d x.slots.length]]:=by
 refine List.ext_getElem? fun k=>?_
 by_cases hk:k<l.length
 ·rw[BA _ _ k (by simp;omega),List.getElem?_append_left (by rw[A4];exact hk),BA _ _ k hk,List.getElem_append_left hk,h k hk]
 ·by_cases e:k=l.length
  ·subst e
   rw[BA _ _ _ (by simp),List.getElem?_append_right (by rw[A4];omega),A4,Nat.sub_self]
   simp
  ·rw[List.getElem?_eq_none (by rw[A4];simp;omega),List.getElem?_eq_none (by simp[A4];omega)]
theorem ThS.add{R:Nat->RW}{l:List MThing}{S0 O S1 S2:Sig}(h:ThS R l S0 O){x:MThing}{r:RW}(hF:FrV O r x.slots S1){i c:Nat}{cs:List D}(hr:RWAt S2 2 (.row i c cs) (tCells (fun k=>R (k+4)) l++[[dI x.cls,r.d x.slots.length]]))(hk:RWK S1 (R 3) S2 (.row i c cs)):
  ThS (updF (updF R (l.length+4) r) 3 (.row i c cs)) (l++[x]) S0 S2:=by
 obtain⟨f1,f2,f3⟩:=hF
 have e2:rSz (l.length+4)=2:=by unfold rSz;rw[if_neg (by omega)]
 have u1:=h.rows.upd (a:=l.length+4) (r':=r) (by rw[e2];exact f1) (fun j o hj _=>f2 j o hj id)
 have u2:=u1.upd (a:=3) (r':=.row i c cs) hr (by rw[A7 _ _ (by omega)];exact hk)
 refine⟨u2.retell fun a=>?_,fun a ha=>?_,fun a es he=>?_,fun j o hj=>?_⟩
 ·match a with
  |0=>rw[A7 _ _ (by omega),A7 _ _ (by omega)];rfl
  |1=>rw[A7 _ _ (by omega),A7 _ _ (by omega)];rfl
  |2=>rw[A7 _ _ (by omega),A7 _ _ (by omega)];rfl
  |3=>
   rw[Ah]
   show tCells (fun k=>updF (updF R (l.length+4) r) 3 (.row i c cs) (k+4)) (l++[x])=_
   rw[JB (fun k=>R (k+4)) _ l x fun k hk=>by rw[A7 _ _ (by omega),A7 _ _ (by omega)]]
   simp only[A7 (updF R (l.length+4) r) (RW.row i c cs) (show l.length+4≠3 by omega),Ah]
  | k+4 =>
   rw[A7 _ _ (by omega)]
   show(((l++[x])[k]?).getD ⟨0,[]⟩).slots.map cVal=_
   by_cases e:k=l.length
   ·subst e;rw[Ah];simp
   ·rw[A7 _ _ (by omega)]
    show _=((l[k]?).getD ⟨0,[]⟩).slots.map cVal
    by_cases hk:k<l.length
    ·rw[List.getElem?_append_left hk]
    ·rw[List.getElem?_eq_none (by simp;omega),List.getElem?_eq_none (by omega)]
 ·rw[A7 _ _ (by omega),A7 _ _ (by omega)];exact h.lo a ha
 ·by_cases e3:a=3
  ·subst e3;rw[Ah]at he;cases he
  ·rw[A7 _ _ e3]at he
   by_cases e4:a=l.length+4
   ·subst e4;rw[Ah]at he;exact f3 es he
   ·rw[A7 _ _ e4]at he;exact h.nf a es he
 ·obtain⟨k1,k2⟩:=h.keep j o hj
  obtain⟨k3,k4⟩:=f2 j o k1 id
  obtain⟨k5,k6⟩:=hk j o k3 (k2 3)
  refine⟨k5,fun a ha=>?_⟩
  by_cases e3:a=3
  ·subst e3;rw[Ah]at ha;exact k6 ha
  ·rw[A7 _ _ e3]at ha
   by_cases e4:a=l.length+4
   ·subst e4;rw[Ah]at ha;exact k4 ha
   ·rw[A7 _ _ e4]at ha;exact k2 a ha
theorem ThS.re{R:Nat->RW}{l:List MThing}{S0 O:Sig}(h:ThS R l S0 O){r':RW}(hr:RWAt O 2 r' (tCells (fun k=>R (k+4)) l))(hi:∀j,r'.is j->(R 3).is j)(hf:∀es,r'=.full es->es=[]):ThS (updF R 3 r') l S0 O:=by
 have u:=h.rows.re (a:=3) (r':=r') hr hi
 refine⟨u.retell fun a=>?_,fun a ha=>by rw[A7 _ _ (by omega)];exact h.lo a ha,fun a es he=>?_,fun j o hj=>⟨(h.keep j o hj).1,fun a ha=>?_⟩⟩
 ·match a with
  |0=>rw[A7 _ _ (by omega)];rfl
  |1=>rw[A7 _ _ (by omega)];rfl
  |2=>rw[A7 _ _ (by omega)];rfl
  |3=>
   rw[Ah]
   show tCells (fun k=>updF R 3 r' (k+4)) l=_
   rw[Fe R 3 r' (by omega)]
  |k+4=>rw[A7 _ _ (by omega)];rfl
 ·by_cases e3:a=3
  ·subst e3;rw[Ah]at he;exact hf es he
  ·rw[A7 _ _ e3]at he;exact h.nf a es he
 ·by_cases e3:a=3
  ·subst e3;rw[Ah]at ha;exact(h.keep j o hj).2 3 (hi j ha)
  ·rw[A7 _ _ e3]at ha;exact(h.keep j o hj).2 a ha
theorem RO(i n c:Nat)(O:Sig)(hn:n<=c)(hb:n<=1000000):DCall prog 340 [.sref i 0 n c] O (rS (.sref i 0 n n) O):=by
 refine en func340 ntmps340 ?_
 refine gz ?_
 refine Ka Ac (off:=0) (m:=n) (cap:=c) ?_ (by decide) (by simp<;>rfl) (by simp) rfl rfl rfl (Nat.le_refl _) hn
 refine gz ?_
 exact fin1 (U':=O) ⟨rfl,rfl⟩
@[reducible,instance] def a340:=fun i n c O=>ah2 (@RO i n c O)
theorem Pu(O:Sig):DCall prog 340 [.nils] O (rS (.slice [] .clip) O):=by
 refine en func340 ntmps340 ?_
 refine gz ?_
 exact fin1 (U':=O) ⟨rfl,rfl⟩
@[reducible,instance] def a340n:=fun O=>ah0 (@Pu O)
theorem RZ(l:List MThing)(o:Own)(O:Sig)(hl:l.length<=1000000)(hs:∀x∈l,x.slots.length<=1000000):DCall prog 294 [.slice (l.map cTh) o,.func (.func 295) [] []] O fun x U'=> ∃R,x=.ret ((R 3).d l.length)/\ThS R l O U':=by
 refine en func294 ntmps294 ?_
 refine gz ?_
 refine ET [1,4,8,9,21,22] (fun (k:Nat) (R:Nat->RW) (S2:Sig)=>k<=l.length/\ThS R (l.take k) O S2/\(k=0/\R 3=.nil \/ ∃i c cs,R 3=.row i c cs)) (fun k R _=>[(10,dI k),(5,(R 3).d k)]) (fun _ _ S2=>S2) (fun k _ _=>l.length-k) (0) (fun _=>.nil) (O) (by exact⟨Nat.zero_le _,ThS.nil O,.inl ⟨rfl,rfl⟩⟩) (fun k R S2 hI=>?_)
 obtain⟨aV,hT,bd⟩:=hI
 by_cases hk:k<l.length
 ·refine gz ?_
  refine A3 (RY l[k] S2 (hs _ (List.getElem_mem hk))) (fun d S3 hr=>?_) (fun d S3 hr=>by obtain⟨_,h,_⟩:=hr;cases h)
  obtain⟨r,hd,hF⟩:=hr
  cases hd
  rcases r with _|es|⟨j,c',cs'⟩
  ·refine gz ?_
   have aa:(tCells (fun k=>R (k+4)) (l.take k)).length=k:=by rw[A4];simp;omega
   refine xapp (new:=[[dI (l[k]).cls,D.nils]]) (es:=tCells (fun k=>R (k+4)) (l.take k)) (fun i c cs S4 ai aj=>?_) (hT.row3.keep fun j o hj am=>(hF.2.1 j o hj id).1) (h1:=by rw[aa];with_unfolding_all rfl) (hb:=by rw[aa];simp;omega) (hm2:=by rw[aa];simp;omega)
   have ah:=hT.add hF ai aj
   rw[<-List.take_succ_eq_append_getElem hk]at ah
   rw[show(tCells (fun k=>R (k+4)) (l.take k)).length+[[dI (l[k]).cls,D.nils]].length=k+1 by rw[aa];rfl]
   refine gz ?_
   exact⟨k+1,updF (updF R ((l.take k).length+4) .nil) 3 (.row i c cs),S4,⟨by omega,ah,.inr ⟨_,_,_,Ah ..⟩⟩,td1,wkR⟩
  ·refine gz ?_
   have aa:(tCells (fun k=>R (k+4)) (l.take k)).length=k:=by rw[A4];simp;omega
   refine xapp (new:=[[dI (l[k]).cls,D.slice es .clip]]) (es:=tCells (fun k=>R (k+4)) (l.take k)) (fun i c cs S4 ai aj=>?_) (hT.row3.keep fun j o hj am=>(hF.2.1 j o hj id).1) (h1:=by rw[aa];with_unfolding_all rfl) (hb:=by rw[aa];simp;omega) (hm2:=by rw[aa];simp;omega)
   have ah:=hT.add hF ai aj
   rw[<-List.take_succ_eq_append_getElem hk]at ah
   rw[show(tCells (fun k=>R (k+4)) (l.take k)).length+[[dI (l[k]).cls,D.slice es .clip]].length=k+1 by rw[aa];rfl]
   refine gz ?_
   exact⟨k+1,updF (updF R ((l.take k).length+4) (.full es)) 3 (.row i c cs),S4,⟨by omega,ah,.inr ⟨_,_,_,Ah ..⟩⟩,td1,wkR⟩
  ·refine gz ?_
   have aa:(tCells (fun k=>R (k+4)) (l.take k)).length=k:=by rw[A4];simp;omega
   refine xapp (new:=[[dI (l[k]).cls,D.sref j 0 (l[k]).slots.length c']]) (es:=tCells (fun k=>R (k+4)) (l.take k)) (fun i c cs S4 ai aj=>?_) (hT.row3.keep fun j o hj am=>(hF.2.1 j o hj id).1) (h1:=by rw[aa];with_unfolding_all rfl) (hb:=by rw[aa];simp;omega) (hm2:=by rw[aa];simp;omega)
   have ah:=hT.add hF ai aj
   rw[<-List.take_succ_eq_append_getElem hk]at ah
   rw[show(tCells (fun k=>R (k+4)) (l.take k)).length+[[dI (l[k]).cls,D.sref j 0 (l[k]).slots.length c']].length=k+1 by rw[aa];rfl]
   refine gz ?_
   exact⟨k+1,updF (updF R ((l.take k).length+4) (.row j c' cs')) 3 (.row i c cs),S4,⟨by omega,ah,.inr ⟨_,_,_,Ah ..⟩⟩,td1,wkR⟩
 ·obtain rfl:k=l.length:=by omega
  rw[List.take_length]at hT
  rcases bd with⟨h0,h3⟩|⟨i,c,cs,h3⟩
  ·have aS:l=[]:=List.length_eq_zero_iff.1 h0
   subst aS
   rw[h3]
   refine gz ?_
   refine fin1 (U':=S2) ⟨updF R 3 (.full []),by rw[Ah,U5],hT.re ⟨rfl,fun e he=>by cases he⟩ (fun _ h=>h.elim) (fun es h=>by cases h;rfl)⟩
  ·have q:=hT.row3
   rw[h3]at q
   have hc:=q.2.2.1
   rw[A4]at hc
   rw[h3]
   refine gz ?_
   refine fin1 (U':=S2) ⟨updF R 3 (.row i l.length cs),by rw[Ah,EE],hT.re ⟨q.1,?_,by rw[A4];exact Nat.le_refl _,CM⟩ (fun j hj=>by rw[h3];exact hj) (fun es h=>by cases h)⟩
   rw[List.length_append,Av CM,A4];omega
theorem Sp(l:List MThing)(o:Own)(O:Sig)(hl:l.length<=1000000)(hs:∀x∈l,x.slots.length<=1000000):DCall prog 245 [.slice (l.map cTh) o] O fun x U'=> ∃R,x=.ret ((R 3).d l.length)/\ThS R l O U':=by
 refine en func245 ntmps245 ?_
 refine gz ?_
 refine A3 (RZ l o O hl hs) (fun d S1 hr=>?_) (fun d S1 hr=>by obtain⟨_,h,_⟩:=hr;cases h)
 obtain⟨r,hd,hF⟩:=hr
 cases hd
 refine gz ?_
 exact fin1 (U':=S1) ⟨r,rfl,hF⟩
theorem UP(l:List MThing)(o:Own)(O:Sig)(hl:l.length<=1000000)(hs:∀x∈l,x.slots.length<=1000000):DCall prog 48 [.slice (l.map cTh) o] O fun x U'=> ∃R,x=.ret ((R 3).d l.length)/\ThS R l O U':=by
 refine en func48 ntmps48 ?_
 refine gz ?_ o48
 refine ET [2,6,7,22] (fun (k:Nat) (R:Nat->RW) (S2:Sig)=>k<=l.length/\ThS R (l.take k) O S2/\(k=0/\R 3=.nil \/ ∃i c cs,R 3=.row i c cs)) (fun k R _=>[(8,dI k),(3,(R 3).d k)]) (fun _ _ S2=>S2) (fun k _ _=>l.length-k) (0) (fun _=>.nil) (O) (by exact⟨Nat.zero_le _,ThS.nil O,.inl ⟨rfl,rfl⟩⟩) (fun k R S2 hI=>?_)
 obtain⟨aV,hT,bd⟩:=hI
 by_cases hk:k<l.length
 ·refine gz ?_
  refine Hy (id:=5) [0,1,2,3,4,5,6,7,8,9] [5,8] (fun _=>none) (fun _ _ h=>by cases h) ?_
  refine gz ?_ o48
  refine Bx (IH (l[k]).slots .no S2 (hs _ (List.getElem_mem hk))) (fun d S3 hr=>?_) (fun d S3 hr=>by obtain⟨_,h,_⟩:=hr;cases h)
  obtain⟨r,hd,hF⟩:=hr
  replace hF:FrV S2 r (l[k]).slots S3:=hF
  cases hd
  refine⟨(fun _ _ h=>by cases h),?_⟩
  rcases r with _|es|⟨j,c',cs'⟩
  ·refine gz ?_ o48
   have aa:(tCells (fun k=>R (k+4)) (l.take k)).length=k:=by rw[A4];simp;omega
   refine Gb (new:=[[dI (l[k]).cls,D.nils]]) (es:=tCells (fun k=>R (k+4)) (l.take k)) (fun i c cs S4 ai aj=>?_) (fun j o h=>by cases h) (hm:=hT.row3.keep fun j o hj am=>(hF.2.1 j o hj id).1) (h1:=by rw[aa];with_unfolding_all rfl) (hb:=by rw[aa];simp;omega) (hm2:=by rw[aa];simp;omega)
   have ah:=hT.add hF ai aj
   rw[<-List.take_succ_eq_append_getElem hk]at ah
   rw[show(tCells (fun k=>R (k+4)) (l.take k)).length+[[dI (l[k]).cls,D.nils]].length=k+1 by rw[aa];rfl]
   refine gz ?_ o48
   exact⟨k+1,updF (updF R ((l.take k).length+4) .nil) 3 (.row i c cs),S4,⟨by omega,ah,.inr ⟨_,_,_,Ah ..⟩⟩,td1,wkR⟩
  ·refine gz ?_ o48
   have aa:(tCells (fun k=>R (k+4)) (l.take k)).length=k:=by rw[A4];simp;omega
   refine Gb (new:=[[dI (l[k]).cls,D.slice es .clip]]) (es:=tCells (fun k=>R (k+4)) (l.take k)) (fun i c cs S4 ai aj=>?_) (fun j o h=>by cases h) (hm:=hT.row3.keep fun j o hj am=>(hF.2.1 j o hj id).1) (h1:=by rw[aa];with_unfolding_all rfl) (hb:=by rw[aa];simp;omega) (hm2:=by rw[aa];simp;omega)
   have ah:=hT.add hF ai aj
   rw[<-List.take_succ_eq_append_getElem hk]at ah
   rw[show(tCells (fun k=>R (k+4)) (l.take k)).length+[[dI (l[k]).cls,D.slice es .clip]].length=k+1 by rw[aa];rfl]
   refine gz ?_ o48
   exact⟨k+1,updF (updF R ((l.take k).length+4) (.full es)) 3 (.row i c cs),S4,⟨by omega,ah,.inr ⟨_,_,_,Ah ..⟩⟩,td1,wkR⟩
  ·refine gz ?_ o48
   have aa:(tCells (fun k=>R (k+4)) (l.take k)).length=k:=by rw[A4];simp;omega
   refine Gb (new:=[[dI (l[k]).cls,D.sref j 0 (l[k]).slots.length c']]) (es:=tCells (fun k=>R (k+4)) (l.take k)) (fun i c cs S4 ai aj=>?_) (fun j o h=>by cases h) (hm:=hT.row3.keep fun j o hj am=>(hF.2.1 j o hj id).1) (h1:=by rw[aa];with_unfolding_all rfl) (hb:=by rw[aa];simp;omega) (hm2:=by rw[aa];simp;omega)
   have ah:=hT.add hF ai aj
   rw[<-List.take_succ_eq_append_getElem hk]at ah
   rw[show(tCells (fun k=>R (k+4)) (l.take k)).length+[[dI (l[k]).cls,D.sref j 0 (l[k]).slots.length c']].length=k+1 by rw[aa];rfl]
   refine gz ?_ o48
   exact⟨k+1,updF (updF R ((l.take k).length+4) (.row j c' cs')) 3 (.row i c cs),S4,⟨by omega,ah,.inr ⟨_,_,_,Ah ..⟩⟩,td1,wkR⟩
 ·obtain rfl:k=l.length:=by omega
  rw[List.take_length]at hT
  refine gz ?_ o48
  exact fin1 (U':=S2) ⟨R,rfl,hT⟩
@[simp] theorem cInit_tk(x:Init):List.take 2 (J2 x)=J2 x:=rfl
theorem Gu(x:Init)(s:Int)(O:Sig):DCall prog 292 ([]++[.agg (J2 x)]++[.cptr [dI s] 0]) O (rS (.bool (decide (x.slot=s))) O):=by
 refine en func292 ntmps292 ?_
 refine gz ?_
 exact fe1 trivial
theorem Gv(l:List Init)(p:Init->Bool)(g:Nat)(cap:List D)(o:Own)(O:Sig)(hl:l.length<=1073741824)(hg:∀v∈l,DCall prog g ([]++[.agg (J2 v)]++cap) O (rS (.bool (p v)) O)):DCall prog 291 [.slice (l.map J2) o,.func (.func g) [] cap] O (rS (dI (idxF p l 0)) O):=by
 refine en func291 ntmps291 ?_
 refine gz ?_
 refine CG [0,1,7] (fun (k:Nat)=>k<=l.length/\idxF p l 0=idxF p (l.drop k) k) (fun k=>[(8,dI k)]) (fun _=>O) (fun k=>l.length-k) (0) (by simp) (fun k hI=>?_)
 obtain⟨hk,hR⟩:=hI
 by_cases h:k<l.length
 ·rw[Ad h,idxF]at hR
  repeat' first|refine Ca (hg (l[k]) (List.getElem_mem h)) ?_|refine callP (hg (l[k]) (List.getElem_mem h)) ?_|refine gz ?_|apply gy<;>intro hh
  ·rw[hh]at hR
   exact fe1 hR
  ·rw[hh]at hR
   exact⟨k+1,⟨by omega,hR⟩,td1,wkR⟩
 ·rw[Aj h,idxF]at hR
  refine gz ?_
  exact fe1 hR
theorem idxF_find{α:Type}(q:α->Bool): ∀(l:List α) (k:Nat),(idxF q l k = -1/\l.find? q=none) \/ ∃(j:Nat) (hj:j<l.length),idxF q l k=k+j/\l.find? q=some l[j]
 |[],_=>.inl ⟨rfl,rfl⟩
 | x::r,k=>by
  cases h:q x with
  |true=>exact .inr ⟨0,by simp,by rw[idxF,if_pos h];simp,by rw[List.find?_cons,h];rfl⟩
  |false=>
   rcases idxF_find q r (k+1)with⟨h1,h2⟩|⟨j,hj,h1,h2⟩
   ·exact .inl ⟨by rw[idxF,if_neg (by rw[h];simp)];exact h1,by rw[List.find?_cons,h];exact h2⟩
   ·exact .inr ⟨j+1,by simpa using hj,by rw[idxF,if_neg (by rw[h];simp),h1];push_cast;omega,by rw[List.find?_cons,h];exact h2⟩
theorem MN(m:List (Int×Int)): ∀l:List Int,(beginL m l).length<=l.length
 |[]=>Nat.le_refl _
 |s::r=>by
  have:=MN m r
  rw[beginL];split
  ·simp only[List.length_cons];omega
  ·simp only[List.length_cons];omega
def eIT(m:List (Int×MThing)):List (D×D):=eM dI (fun x=>.agg (cTh x)) m
@[simp] theorem putIT(k c:Int)(l:List MVal)(m:List (Int×MThing)):Cu (.int .i64) (.int .i64 k) (.agg [.int .i64 c,.slice (l.map cVal) .no]) (eIT m)=some (eIT (putM k ⟨c,l⟩ m)):=LE keyI (fun x=>.agg (cTh x)) k ⟨c,l⟩ m
theorem hitIT(k:Int)(m:List (Int×MThing))(h:hasM k m=true):hitD tab 131 false (C9 (.int .i64) (.int .i64 k) (eIT m) 0)=some (.agg (cTh (getM ⟨0,[]⟩ k m))):=by
 have:=Vx (tab:=tab) (e:=131) keyI (fun x:MThing=>.agg (cTh x)) (z:=⟨0,[]⟩) rfl k m
 rw[h]at this
 exact this
def mp1(p:BProg):Nat->List (Int×List Int)
 |0=>[]
 |i+1=>putM ((i:Int)+3) (hasP p ((i:Int)+3)) (mp1 p i)
def mp2(p:BProg):Nat->List (Int×MThing)
 |0=>[]
 |i+1=>putM ((i:Int)+3) ⟨(i:Int)+3,(A2 p).fresh ((i:Int)+3)⟩ (mp2 p i)
theorem KI(p:BProg)(j:Nat): ∀i,j<i->hasM ((j:Int)+3) (mp1 p i)=true/\getM [] ((j:Int)+3) (mp1 p i)=hasP p ((j:Int)+3)
 |0,h=>by omega
 | i+1,h=>by
  rw[mp1,Gl,Em]
  by_cases e:j=i
  ·subst e;simp
  ·rw[if_neg (by omega)]
   obtain⟨h1,h2⟩:=KI p j i (by omega)
   exact⟨by rw[h1];simp,h2⟩
theorem QG(p:BProg)(j:Nat): ∀i,j<i->hasM ((j:Int)+3) (mp2 p i)=true/\getM ⟨0,[]⟩ ((j:Int)+3) (mp2 p i)=⟨(j:Int)+3,(A2 p).fresh ((j:Int)+3)⟩
 |0,h=>by omega
 | i+1,h=>by
  rw[mp2,Gl,Em]
  by_cases e:j=i
  ·subst e;simp
  ·rw[if_neg (by omega)]
   obtain⟨h1,h2⟩:=QG p j i (by omega)
   exact⟨by rw[h1];simp,h2⟩
def cKnw(p:BProg)(i1 i2:Nat):D:=.cptr (Ag p++[.map i1,.map i2]) 0
def KnwS(p:BProg)(i1 i2:Nat)(S0 O:Sig):Prop:=Sub S0 O/\O i1=some (.map (eIO (mp1 p p.classes.length)))/\O i2=some (.map (eIT (mp2 p p.classes.length)))
theorem frzC{ro:Ro}{n:Nat}{Q:DX->St->Prop}{df:List DDf}{γ:Fr}{O:Sig}{c:Code}{i sz:Nat}{r:RW}{es:List (List D)}(a0 b0:List D)(hm:RWAt O sz r es)(hi:O i=some (.cells (a0++r.d es.length::b0)))(aO:¬r.is i)
  (h:∀U',U' i=some (.cells (a0 ++ .slice es .no::b0))->(∀j o,O j=some o->j≠i->¬r.is j->U' j=some o)->DWp prog ro n c Q ⟨γ,U',df⟩):DWp prog ro n c Q ⟨γ,O,df⟩:=by
 obtain⟨S2,h1,h2,h3⟩:=BE (P:=prog) (n:=n) (γ:=γ) (df:=df) hm hi aO
 exact Fz h1 (h S2 h2 h3)
theorem Md(p:BProg)(O:Sig)(hp:p.wt<=1073741824)(hk:okP p=true):DCall prog 242 [.agg (Ag p)] O fun x U'=> ∃i1 i2,x=.ret (cKnw p i1 i2)/\KnwS p i1 i2 O U':=by
 obtain⟨p1,p2,p3,p4,p5,p6,p7⟩:=p.wt_le
 refine en func242 ntmps242 ?_
 refine gz ?_ o242 [6,11]
 refine newM (fun i1 h1=>?_)
 refine newM (fun i2 h2=>?_)
 have hne:i1≠i2:=fun e=>by rw[<-e,w6]at h2;cases h2
 have be:O i2=none:=by rw[w7 _ _ fun e=>hne e.symm]at h2;exact h2
 refine gz ?_ o242 [6,11]
 refine Di [1,2,3,20,82] (fun (k:Nat) (S2:Sig)=>k<=p.classes.length/\Sub O S2/\S2 i1=some (.map (eIO (mp1 p k)))/\S2 i2=some (.map (eIT (mp2 p k)))) (fun k _=>[(21,dI k)]) (fun _ S2=>S2) (fun k _=>p.classes.length-k) (0) ((O.set i1 (.map [])).set i2 (.map [])) (by exact⟨Nat.zero_le _,((Sub.refl _).set h1).set be,by rw[w7 _ _ hne,w6];rfl,w6 ..⟩) (fun k S2 hI=>?_)
 obtain⟨aV,hS,aP,hm2⟩:=hI
 by_cases aQ:k<p.classes.length
 ·have aq:(ownF p ((k:Int)+3)&&okP p)=true:=by unfold ownF;rw[hk];simp;omega
  have aD:Sub (S2.out fun j=>j=i1) (S2.set i1 (.map (eIO (putM ((k:Int)+3) (hasP p ((k:Int)+3)) (mp1 p k))))):=fun j o hj=>by
   obtain⟨a,b⟩:=Cf hj
   rw[w7 _ _ b];exact a
  have hC:Sub (S2.out fun j=>j=i1) S2:=C1 _ _
  refine gz ?_ (delO 6 o242) [6,11]
  refine Hy (id:=6) [0,1,2,3,4,5,6,7,8,9,10,11] [7,11] (S2.out fun j=>j=i1) (C1 _ _) ?_
  refine gf (gi aP aq) ?_ o242 [6,11]
  obtain⟨S3,aL⟩:∃S3,S3=S2.set i1 (.map (eIO (putM ((k:Int)+3) (hasP p ((k:Int)+3)) (mp1 p k)))):=⟨_,rfl⟩
  rw[<-aL]
  have aI:S3 i1=some (.map (eIO (mp1 p (k+1)))):=by rw[aL,w6];rfl
  have aH:S3 i2=some (.map (eIT (mp2 p k))):=by rw[aL,w7 _ _ fun e=>hne e.symm];exact hm2
  have aZ:Sub O S3:=fun j o hj=>by rw[aL,w7 _ _ fun e=>by rw[e,h1]at hj;cases hj];exact hS j o hj
  obtain⟨g1,g2⟩:=KI p k (k+1) (by omega)
  have ar:hitD tab 23 false (C9 (.int .i64) (.int .i64 ((k:Int)+3)) (eIO (mp1 p (k+1))) 0)=some (sl (cI (hasP p ((k:Int)+3)))):=by rw[Us,g1,g2];rfl
  have bc:=Ch p ((k:Int)+3)
  have bf:=E4 p
  clear aL aP hm2 aD hC
  refine newV (fun i6 h6=>?_)
  have n1:i1≠i6:=fun e=>by rw[<-e,aI]at h6;cases h6
  have n2:i2≠i6:=fun e=>by rw[<-e,aH]at h6;cases h6
  refine gf (gi aI (gi aH (gi aq ar))) ?_ o242 [6,11]
  obtain⟨hs,aX⟩:∃hs,hs=hasP p ((k:Int)+3):=⟨_,rfl⟩
  obtain⟨ini,aw⟩:∃ini,ini=E3 p ((k:Int)+3):=⟨_,rfl⟩
  have aR:ini.length<=1073741824:=by rw[aw];unfold E3;have:=MN (Hs p (linF (p.classes.map (·.parents)) ((k:Int)+3))) (hasP p ((k:Int)+3));omega
  rw[<-aX]at bc
  rw[<-aX,<-aw]
  refine ET [1,2,3,4,5,6,7,8,20,21,22,23,24,25,26,27,28,29,30,31,32,33,34,35,36,37,38,39,40,41,42,43,44,45,46,47,48,49,50,51,75,76,77,78,79,80,81,82] (fun (q:Nat) (r:RW) (S4:Sig)=>q<=hs.length/\Sub S3 S4/\S4 i6=some (.cells [.int .i64 ((k:Int)+3),r.d q])/\RWAt S4 2 r ((hs.take q).map fun s=>cVal (frV ini s)) /\ ¬r.is i6 /\ ∀j,r.is j->S3 j=none) (fun q _ _=>[(52,dI q)]) (fun _ _ S4=>S4) (fun q _ _=>hs.length-q) (0) (.nil) (S3.set i6 (.cells [.int .i64 ((k:Int)+3),.nils])) (by exact⟨Nat.zero_le _,(Sub.refl _).set h6,w6 .., rfl,id,fun _ h=>h.elim⟩) (fun q r S4 hI=>?_)
  obtain⟨bu,aA,o6,hR,aT,aK⟩:=hI
  by_cases a8:q<hs.length
  ·have aa:((hs.take q).map fun s=>cVal (frV ini s)).length=q:=by simp;omega
   refine gf o6 ?_ o242 [6,11]
   refine newV (fun i11 br=>?_)
   have ap:∀j o,S4 j=some o->j≠i11:=fun j o hj e=>by rw[e,br]at hj;cases hj
   have n611:=ap _ _ o6
   rcases idxF_find (fun x:Init=>decide (x.slot=hs[q])) ini 0 with⟨hx,ay⟩|⟨m,hm,hx,ay⟩
   ·repeat' first|refine gf (gi o6 hx) ?_ [] [6,11]|refine Ca (Gv ini (fun x=>decide (x.slot=hs[q])) 292 [.cptr [dI hs[q]] 0] .no _ aR (fun v _=>Gu v hs[q] _)) ?_|refine callP (Gv ini (fun x=>decide (x.slot=hs[q])) 292 [.cptr [dI hs[q]] 0] .no _ aR (fun v _=>Gu v hs[q] _)) ?_|refine gf (gi o6 hx) ?_ o242 [6,11]|apply gy<;>intro hh
    refine xapp (new:=[cVal (E8)]) (es:=(hs.take q).map fun s=>cVal (frV ini s)) (fun j c cs S6 aM aN=>?_) (hR.keep fun j o hj am=>by rw[w7 _ _ (ap j o hj)];exact hj) (hsz:=by simp) (h1:=by rw[aa];with_unfolding_all rfl) (hb:=by rw[aa];simp;omega) (hm2:=by rw[aa];simp;omega)
    rw[show((hs.take q).map fun s=>cVal (frV ini s))++[cVal (E8)]=(hs.take (q+1)).map fun s=>cVal (frV ini s) by rw[List.take_succ_eq_append_getElem a8,List.map_append];simp only[List.map_cons,List.map_nil];rw[show frV ini hs[q]=E8 by unfold frV;rw[ay]]]at aM
    rw[show((hs.take q).map fun s=>cVal (frV ini s)).length+[cVal (E8)].length=q+1 by rw[aa];rfl]
    obtain⟨k6,k7⟩:=aN i6 _ ((w7 _ _ n611).trans o6) aT
    have ae:∀x o,S3 x=some o->S6 x=some o /\ ¬(RW.row j c cs).is x:=fun x o hx=>aN x o (by rw[w7 _ _ (ap x o (aA x o hx))];exact aA x o hx) (fun h=>by rw[aK x h]at hx;cases hx)
    have aY:∀x,(RW.row j c cs).is x->S3 x=none:=fun x hx=>by
     cases h:S3 x
     ·rfl
     ·exact absurd hx (ae x _ h).2
    refine gf k6 ?_ o242 [6,11]
    exact⟨q+1,.row j c cs,S6.set i6 (.cells [.int .i64 ((k:Int)+3),.sref j 0 (q+1) c]),⟨by omega,fun x o hx=>by rw[w7 _ _ (fun e=>by rw[e,h6]at hx;cases hx)];exact(ae x o hx).1,w6 .., aM.keep fun x o hx hj=>by rw[w7 _ _ (fun e=>by subst e;exact k7 hj)];exact hx,k7,aY⟩,td1,wkR⟩
   ·repeat' first|refine gf (gi o6 hx) ?_ [] [6,11]|refine Ca (Gv ini (fun x=>decide (x.slot=hs[q])) 292 [.cptr [dI hs[q]] 0] .no _ aR (fun v _=>Gu v hs[q] _)) ?_|refine callP (Gv ini (fun x=>decide (x.slot=hs[q])) 292 [.cptr [dI hs[q]] 0] .no _ aR (fun v _=>Gu v hs[q] _)) ?_|refine gf (gi o6 hx) ?_ o242 [6,11]|apply gy<;>intro hh
    refine xapp (new:=[cVal (vInt (ini[m]).n)]) (es:=(hs.take q).map fun s=>cVal (frV ini s)) (fun j c cs S6 aM aN=>?_) (hR.keep fun j o hj am=>by rw[w7 _ _ (ap j o hj)];exact hj) (hsz:=by simp) (h1:=by rw[aa];with_unfolding_all rfl) (hb:=by rw[aa];simp;omega) (hm2:=by rw[aa];simp;omega)
    rw[show((hs.take q).map fun s=>cVal (frV ini s))++[cVal (vInt (ini[m]).n)]=(hs.take (q+1)).map fun s=>cVal (frV ini s) by rw[List.take_succ_eq_append_getElem a8,List.map_append];simp only[List.map_cons,List.map_nil];rw[show frV ini hs[q]=vInt (ini[m]).n by unfold frV;rw[ay]]]at aM
    rw[show((hs.take q).map fun s=>cVal (frV ini s)).length+[cVal (vInt (ini[m]).n)].length=q+1 by rw[aa];rfl]
    obtain⟨k6,k7⟩:=aN i6 _ ((w7 _ _ n611).trans o6) aT
    have ae:∀x o,S3 x=some o->S6 x=some o /\ ¬(RW.row j c cs).is x:=fun x o hx=>aN x o (by rw[w7 _ _ (ap x o (aA x o hx))];exact aA x o hx) (fun h=>by rw[aK x h]at hx;cases hx)
    have aY:∀x,(RW.row j c cs).is x->S3 x=none:=fun x hx=>by
     cases h:S3 x
     ·rfl
     ·exact absurd hx (ae x _ h).2
    refine gf k6 ?_ o242 [6,11]
    exact⟨q+1,.row j c cs,S6.set i6 (.cells [.int .i64 ((k:Int)+3),.sref j 0 (q+1) c]),⟨by omega,fun x o hx=>by rw[w7 _ _ (fun e=>by rw[e,h6]at hx;cases hx)];exact(ae x o hx).1,w6 .., aM.keep fun x o hx hj=>by rw[w7 _ _ (fun e=>by subst e;exact k7 hj)];exact hx,k7,aY⟩,td1,wkR⟩
  ·obtain rfl:q=hs.length:=by omega
   rw[List.take_length]at hR
   have bm:(hs.map fun s=>cVal (frV ini s))=((A2 p).fresh ((k:Int)+3)).map cVal:=by unfold A2;simp only[List.map_map];rw[<-aX,<-aw];rfl
   have hlen:(hs.map fun s=>cVal (frV ini s)).length=hs.length:=by simp
   refine frzC [.int .i64 ((k:Int)+3)] [] hR (by rw[hlen];exact o6) aT (fun S5 o5 aW=>?_)
   rw[bm]at o5
   have bi:S5 i2=some (.map (eIT (mp2 p k))):=aW i2 _ (aA _ _ aH) n2 (fun h=>by rw[aK _ h]at aH;cases aH)
   have ba:S5 i1=some (.map (eIO (mp1 p (k+1)))):=aW i1 _ (aA _ _ aI) n1 (fun h=>by rw[aK _ h]at aI;cases aI)
   have aD:Sub (S5.out fun j=>j=i2) (S5.set i2 (.map (eIT (putM ((k:Int)+3) ⟨(k:Int)+3,(A2 p).fresh ((k:Int)+3)⟩ (mp2 p k))))):=fun j o hj=>by
    obtain⟨a,b⟩:=Cf hj
    rw[w7 _ _ b];exact a
   have o7:=D2 (touch:=fun j=>j=i2) o5 (fun e=>n2 e.symm)
   have m7:=D2 (touch:=fun j=>j=i2) ba hne
   have hC:Sub (S5.out fun j=>j=i2) S5:=C1 _ _
   refine gf o7 ?_ (delO 18 o242) [6,11]
   refine Hy (id:=18) [0,1,2,3,4,5,6] [6] (S5.out fun j=>j=i2) (C1 _ _) ?_
   refine gf (gi o7 bi) ?_ o242 [6,11]
   have bp:∀x o,O x=some o->S5 x=some o:=fun x o hx=>aW x o (aA x o (aZ x o hx)) (fun e=>by have:=aZ x o hx;rw[e,h6]at this;cases this) (fun h=>by have:=aZ x o hx;rw[aK x h]at this;cases this)
   exact⟨k+1,S5.set i2 (.map (eIT (putM ((k:Int)+3) ⟨(k:Int)+3,(A2 p).fresh ((k:Int)+3)⟩ (mp2 p k)))),⟨by omega,fun x o hx=>by rw[w7 _ _ (fun e=>by rw[e,be]at hx;cases hx)];exact bp x o hx,by rw[w7 _ _ hne];exact ba,w6 ..⟩,td1,wkR⟩
 ·obtain rfl:k=p.classes.length:=by omega
  refine gz ?_ o242 [6,11]
  exact fin1 (U':=S2) ⟨i1,i2,rfl,hS,aP,hm2⟩
theorem FrV.set{O S1:Sig}{r:RW}{l:List MVal}{i2:Nat}{ds:List D}(h:FrV (O.set i2 (.cells ds)) r l S1)(bl:O i2=none)(ds':List D):FrV O r l (S1.set i2 (.cells ds')):=by
 obtain⟨h1,h2,h3⟩:=h
 have bk:=(h2 i2 _ (w6 ..) id).2
 refine⟨h1.keep fun j o hj am=>by rw[w7 _ _ fun e=>bk (by rw[<-e];exact am)];exact hj,fun j o hj _=>?_,h3⟩
 have hne:j≠i2:=fun e=>by rw[e,bl]at hj;cases hj
 have:=h2 j o (by rw[w7 _ _ hne];exact hj) id
 exact⟨by rw[w7 _ _ hne];exact this.1,this.2⟩
theorem FrV.out{O X':Sig}{r:RW}{l:List MVal}{k:Nat}{x:DObj}(h:FrV (O.set k x) r l X')(hk:O k=none): ∃U',FrV O r l U'/\U' k=none/\X'=U'.set k x:=by
 obtain⟨h1,h2,h3⟩:=h
 obtain⟨g1,g2⟩:=h2 k _ (w6 ..) id
 refine⟨X'.del k,⟨h1.keep fun j o hj am=>?_,fun j o hj _=>?_,h3⟩,by simp[Sig.del],?_⟩
 ·have hne:j≠k:=fun e=>g2 (e ▸ am)
  simp only[Sig.del,hne,if_false];exact hj
 ·have hne:j≠k:=fun e=>by rw[e,hk]at hj;cases hj
  have:=h2 j o (by rw[w7 _ _ hne];exact hj) id
  refine⟨?_,this.2⟩
  simp only[Sig.del,hne,if_false];exact this.1
 ·funext j
  by_cases e:j=k
  ·subst e;rw[w6];exact g1
  ·rw[w7 _ _ e];simp only[Sig.del,e,if_false]
theorem FrV.new{O S1:Sig}{r:RW}{l:List MVal}{k:Nat}(h:FrV O r l S1)(hk:S1 k=none)(o:DObj):FrV O r l (S1.set k o):=by
 obtain⟨h1,h2,h3⟩:=h
 exact⟨h1.keep fun j o hj am=>by rw[w7 _ _ fun e=>by rw[e,hk]at hj;cases hj];exact hj,fun j o hj _=>by
  have:=h2 j o hj id
  exact⟨by rw[w7 _ _ fun e=>by rw[e,hk]at this;cases this.1];exact this.1,this.2⟩,h3⟩
theorem No(p:BProg)(c:Int):((A2 p).fresh c).length=(hasP p c).length:=by unfold A2;simp
theorem IJ(p:BProg)(i1 i2:Nat)(c:Int)(S0 O:Sig)(hp:p.wt<=1073741824)(hK:KnwS p i1 i2 S0 O)(hc:ownF p c=true)(hn:(hasP p c).length<=1000000):DCall prog 243 [cKnw p i1 i2,dI c] O fun y U'=> ∃r,y=.ret (.agg [dI c,r.d ((A2 p).fresh c).length])/\FrV O r ((A2 p).fresh c) U':=by
 obtain⟨hS,aP,hm2⟩:=hK
 unfold ownF at hc
 simp only[Bool.and_eq_true,decide_eq_true_eq]at hc
 obtain⟨j,hj⟩:∃j:Nat,c=(j:Int)+3:=⟨(c-3).toNat,by omega⟩
 obtain⟨g1,g2⟩:=QG p j p.classes.length (by omega)
 rw[<-hj]at g1 g2
 have ar:=hitIT c (mp2 p p.classes.length) g1
 rw[g2]at ar
 have hl:=No p c
 unfold cKnw
 refine en func243 ntmps243 ?_
 refine gz ?_ [] [4]
 refine newV (fun i4 aJ=>?_)
 have n2:i2≠i4:=fun e=>by rw[<-e,hm2]at aJ;cases aJ
 refine gf (gi hm2 ar) ?_ [] [4]
 refine A3 (Ma ((A2 p).fresh c) .no _ (by omega)) (fun d S1 hr=>?_) (fun d S1 hr=>by obtain⟨_,h,_⟩:=hr;cases h)
 obtain⟨r,hd,hF⟩:=hr
 have ax:=(hF.2.1 i4 _ (w6 ..) id).1
 have ak:=hF.set aJ
 cases hd
 rcases r with _|es|⟨i,c',cs⟩
 ·refine gf ax ?_ [] [4]
  exact finC (U':=S1.set i4 (.cells [dI c,.nils])) ⟨.nil,rfl,ak _⟩
 ·refine gf ax ?_ [] [4]
  exact finC (U':=S1.set i4 (.cells [dI c,.slice es .clip])) ⟨.full es,rfl,ak _⟩
 ·refine gf ax ?_ [] [4]
  exact finC (U':=S1.set i4 (.cells [dI c,.sref i 0 ((A2 p).fresh c).length c'])) ⟨.row i c' cs,rfl,ak _⟩
theorem SJ(p:BProg)(c:Int)(O:Sig)(hp:p.wt<=1073741824)(hk:okP p=true)(hc:ownF p c=true)(hn:(hasP p c).length<=1000000):DCall prog 179 [.agg (Ag p),dI c] O fun y U'=> ∃r,y=.ret (.tup [.agg [dI c,r.d ((A2 p).fresh c).length],dI 0])/\FrV O r ((A2 p).fresh c) U':=by
 have aq:(ownF p c&&okP p)=true:=by rw[hc,hk];rfl
 refine en func179 ntmps179 ?_
 refine gz ?_ [] [4]
 refine newV (fun i4 aJ=>?_)
 refine gf aq ?_ [] [4]
 refine A3 (Md p _ hp hk) (fun d S1 hr=>?_) (fun d S1 hr=>by obtain⟨_,_,h,_⟩:=hr;cases h)
 obtain⟨i1,i2,hd,hK⟩:=hr
 cases hd
 refine gz ?_ [] [4]
 refine A3 (IJ p i1 i2 c _ S1 hp hK hc hn) (fun d S2 hr=>?_) (fun d S2 hr=>by obtain⟨_,h,_⟩:=hr;cases h)
 obtain⟨r,hd,hF⟩:=hr
 have o4:=hK.1 i4 _ (w6 ..)
 have ax:=(hF.2.1 i4 _ o4 id).1
 have bq:FrV (O.set i4 (.cells [.int .i64 0,.nils])) r ((A2 p).fresh c) S2:=⟨hF.1,fun j o hj _=>hF.2.1 j o (hK.1 j o hj) id,hF.2.2⟩
 have ak:=bq.set aJ
 cases hd
 rcases r with _|es|⟨i,c',cs⟩
 ·refine gf ax ?_ [] [4]
  exact finC (U':=S2.set i4 (.cells [dI c,.nils])) ⟨.nil,rfl,ak _⟩
 ·refine gf ax ?_ [] [4]
  exact finC (U':=S2.set i4 (.cells [dI c,.slice es .clip])) ⟨.full es,rfl,ak _⟩
 ·refine gf ax ?_ [] [4]
  exact finC (U':=S2.set i4 (.cells [dI c,.sref i 0 ((A2 p).fresh c).length c'])) ⟨.row i c' cs,rfl,ak _⟩
section
variable {ir:Nat}{p:BProg}{R:Nat->RW}{s:GoS}{O:Sig}
theorem RunS.fresh(h:RunS ir p R s O){S1:Sig}{r:RW}{l:List MVal}(hF:FrV O r l S1):S1 ir=some (.cells (AO p R s)) /\ ¬r.is ir/\RWAt S1 2 (R 3) (tCells (fun k=>R (k+4)) s.objs):=
 ⟨(hF.2.1 ir _ h.obj id).1,(hF.2.1 ir _ h.obj id).2,(h.rows.ok 3).keep fun j o hj _=>(hF.2.1 j o hj id).1⟩
theorem RunS.obj_add(h:RunS ir p R s O){S1 S2:Sig}{r:RW}{x:MThing}(hF:FrV O r x.slots S1){i c:Nat}{cs:List D}(hr:RWAt S2 2 (.row i c cs) (tCells (fun k=>R (k+4)) s.objs++[[dI x.cls,r.d x.slots.length]]))(hk:RWK S1 (R 3) S2 (.row i c cs)){ds:List D}
  (hd:ds=AO p (updF (updF R (s.objs.length+4) r) 3 (.row i c cs)) { s with objs:=s.objs++[x] }) :
  RunS ir p (updF (updF R (s.objs.length+4) r) 3 (.row i c cs)) { s with objs:=s.objs++[x] } (S2.set ir (.cells ds))/\RunK ir R O (updF (updF R (s.objs.length+4) r) 3 (.row i c cs)) (S2.set ir (.cells ds)):=by
 obtain⟨f1,f2,f3⟩:=hF
 have e2:rSz (s.objs.length+4)=2:=by unfold rSz;rw[if_neg (by omega)]
 have u1:=h.rows.upd (a:=s.objs.length+4) (r':=r) (by rw[e2];exact f1) (fun j o hj _=>f2 j o hj id)
 have u2:=u1.upd (a:=3) (r':=.row i c cs) hr (by rw[A7 _ _ (by omega)];exact hk)
 have bn:∀a,rCt (updF (updF R (s.objs.length+4) r) 3 (.row i c cs)) { s with objs:=s.objs++[x] } a=updF (updF (rCt R s) (s.objs.length+4) (x.slots.map cVal)) 3 (tCells (fun k=>R (k+4)) s.objs++[[dI x.cls,r.d x.slots.length]]) a:=fun a=>by
  match a with
  |0=>rw[A7 _ _ (by omega),A7 _ _ (by omega)];rfl
  |1=>rw[A7 _ _ (by omega),A7 _ _ (by omega)];rfl
  |2=>rw[A7 _ _ (by omega),A7 _ _ (by omega)];rfl
  |3=>
   rw[Ah]
   show tCells (fun k=>updF (updF R (s.objs.length+4) r) 3 (.row i c cs) (k+4)) (s.objs++[x])=_
   rw[JB (fun k=>R (k+4)) _ s.objs x fun k hk=>by rw[A7 _ _ (by omega),A7 _ _ (by omega)]]
   simp only[A7 (updF R (s.objs.length+4) r) (RW.row i c cs) (show s.objs.length+4≠3 by omega),Ah]
  | k+4 =>
   rw[A7 _ _ (by omega)]
   show(((s.objs++[x])[k]?).getD ⟨0,[]⟩).slots.map cVal=_
   by_cases e:k=s.objs.length
   ·subst e;rw[Ah];simp
   ·rw[A7 _ _ (by omega)]
    show _=((s.objs[k]?).getD ⟨0,[]⟩).slots.map cVal
    by_cases hk:k<s.objs.length
    ·rw[List.getElem?_append_left hk]
    ·rw[List.getElem?_eq_none (by simp;omega),List.getElem?_eq_none (by omega)]
 have hR:=u2.retell bn
 obtain⟨a1,a2⟩:=f2 ir _ h.obj id
 obtain⟨b1,b2⟩:=hk ir _ a1 (h.ni 3)
 have aO:∀a, ¬(updF (updF R (s.objs.length+4) r) 3 (.row i c cs) a).is ir:=fun a ha=>by
  by_cases e3:a=3
  ·subst e3;rw[Ah]at ha;exact b2 ha
  ·rw[A7 _ _ e3]at ha
   by_cases e4:a=s.objs.length+4
   ·subst e4;rw[Ah]at ha;exact a2 ha
   ·rw[A7 _ _ e4]at ha;exact h.ni a ha
 refine⟨⟨by rw[w6,hd],hR.keep fun j o hj ⟨b,hb⟩=>by rw[w7 _ _ fun e=>aO b (by rw[<-e];exact hb)];exact hj,aO,fun a es he=>?_⟩,fun j o hj bj hn=>?_⟩
 ·by_cases e3:a=3
  ·subst e3;rw[Ah]at he;cases he
  ·rw[A7 _ _ e3]at he
   by_cases e4:a=s.objs.length+4
   ·subst e4;rw[Ah]at he;exact f3 es he
   ·rw[A7 _ _ e4]at he;exact h.nf a es he
 ·obtain⟨k3,k4⟩:=f2 j o hj id
  obtain⟨k5,k6⟩:=hk j o k3 (hn 3)
  refine⟨by rw[w7 _ _ bj];exact k5,fun a ha=>?_⟩
  by_cases e3:a=3
  ·subst e3;rw[Ah]at ha;exact k6 ha
  ·rw[A7 _ _ e3]at ha
   by_cases e4:a=s.objs.length+4
   ·subst e4;rw[Ah]at ha;exact k4 ha
   ·rw[A7 _ _ e4]at ha;exact hn a ha
theorem U4{O:Sig}{sz:Nat}{r:RW}{es:List (List D)}{n:Nat}(h:RWAt O sz r es)(hn:es.length=n)(e:Nat):lenD (.slice e) (r.d n)=some (.int .i64 n):=by
 subst hn
 cases r with
 |nil=>obtain rfl:es=[]:=h;rfl
 |full es0=>obtain⟨rfl,_⟩:=h;rfl
 |row i c cs=>rfl
theorem T5(x:CIns)(hp:p.wt<=1073741824)(hk:okP p=true)(hc:ownF p x.a=true)(hn:(hasP p x.a).length<=1000000)(hR:RunS ir p R s O)(hs:s.stk.length<=1000000)(ho:s.objs.length<=1000):DCall prog 108 [.ptr ir 0,.agg (cIns x)] O fun y U'=> ∃R',RunK ir R O R' U' /\
  if 40<=s.objs.length then y=.ret (.bool true)/\HaltS ir p R' s .nils false (FO s 8 s.stk.dropLast) U' else y=.ret (.bool false)/\RunS ir p R' { s with objs:=s.objs++[⟨x.a,(A2 p).fresh x.a⟩],stk:=s.stk++[vObj s.objs.length] } U':=by
 have q1:=hR.obj
 have q3:RWAt O 2 (R 3) (tCells (fun k=>R (k+4)) s.objs):=hR.rows.ok 3
 have bb:=U4 q3 (A4 _ _) 131
 by_cases aB:40<=s.objs.length
 ·refine en func108 ntmps108 ?_
  refine gf (gi q1 bb) ?_ o108
  refine A3 (Gw 8 s.stk.dropLast hR) (fun d S3 hr=>?_) (fun d S3 hr=>by cases hr.1)
  obtain⟨hd,h1,h2⟩:=hr
  cases hd
  refine gz ?_ o108
  exact fin1 (U':=S3) ⟨R,h2,by rw[if_pos aB];exact⟨rfl,h1⟩⟩
 ·refine en func108 ntmps108 ?_
  refine gf (gi q1 bb) ?_ (delO 3 o108)
  refine mixU (id:=3) [0,1,2,3,4,5,6,7,8,9,10,11,12] [11] [6] ?_
  refine u3R (.ptr ir 0) ?_
  refine u3R (.ptr ir 0) ?_
  refine u3R (.ptr ir 11) ?_
  refine u3R (.agg (Ag p)) ?_ (hd:=by simp[q1])
  refine u3R (.cptr (cIns x) 1) ?_
  refine u3R (dI x.a) ?_
  refine u3C (fun τ d X'=> ∃r,d=.tup [.agg [dI x.a,r.d ((A2 p).fresh x.a).length],dI 0]/\FrV τ r ((A2 p).fresh x.a) X') (fun τ=>(SJ p x.a τ hp hk hc hn).mono fun y X' ⟨r,h1,h2⟩=>⟨_,h1,r,rfl,h2⟩) (fun τ k z d X' hk ⟨r,h1,h2⟩=>by
   obtain⟨V2,h3,h4,h5⟩:=h2.out hk
   exact⟨V2,⟨r,h1,h3⟩,h4,h5⟩) (fun d S1 ⟨r,hd,hF⟩=>⟨fun j o hj=>(hF.2.1 j o hj id).1,?_⟩)
  have hS:Sub O S1:=fun j o hj=>(hF.2.1 j o hj id).1
  subst hd
  rcases r with _|es|⟨i,c',cs⟩
  ·refine u3R (.tup [.agg [dI x.a,.nils],dI 0]) ?_
   refine u3R (.agg [dI x.a,.nils]) ?_
   refine u3R (dI 0) ?_
   refine u3A [.int .i64 0,.nils] (fun i5 ag=>?_)
   have aE:Sub O ((S1.set i5 (.cells [.int .i64 0,.nils])).set i5 (.cells [dI x.a,.nils])):=(hS.set (hS.none ag)).set (hS.none ag)
   have o5:(S1.set i5 (.cells [.int .i64 0,.nils])) i5=_:=w6 ..
   refine u3M ?_
   simp only[List.map]
   refine FL Ac tdR (by simp;rfl) aE ?_
   simp only[w8]
   have ak:=hF.new ag (.cells [dI x.a,.nils])
   have o6:(S1.set i5 (.cells [dI x.a,.nils])) i5=_:=w6 ..
   have n5:¬(R 3).is i5:=fun h=>by
    obtain⟨z,hz⟩:=q3.cells h
    rw[hS _ _ hz]at ag;cases ag
   obtain⟨a1,a2,a3⟩:=hR.fresh ak
   generalize S1.set i5 (.cells [dI x.a,.nils])=S2 at*
   have u1:=D2 a1 (hR.ni 3)
   have u5:=D2 o6 n5
   refine gz ?_ (delO 4 o108)
   refine EP (id:=4) [0,1,2,3,4,5,6,7,8,9,10,11] [8] (S2.out (R 3).is) (C1 _ _) ?_
   refine gf (gi u1 u5) ?_ o108
   refine Gb (new:=[[dI x.a,.nils]]) (es:=tCells (fun k=>R (k+4)) s.objs) (fun j c2 cs2 S3 aF au=>?_) (fun j o h=>Cf h) (hm:=a3) (h1:=by rw[A4];with_unfolding_all rfl) (hb:=by rw[A4];simp;omega) (hm2:=by rw[A4];simp;omega)
   obtain⟨v1,v2⟩:=au ir _ a1 (hR.ni 3)
   rw[show(tCells (fun k=>R (k+4)) s.objs).length+[[dI x.a,.nils]].length=s.objs.length+1 by rw[A4];rfl]
   refine gf v1 ?_ o108
   obtain⟨p1,p2⟩:=hR.obj_add (x:=⟨x.a,(A2 p).fresh x.a⟩) (r:=.nil) ak aF au rfl
   refine drp (S3.set ir (.cells (AO p (updF (updF R (s.objs.length+4) .nil) 3 (.row j c2 cs2)) { s with objs:=s.objs++[⟨x.a,(A2 p).fresh x.a⟩] }))) ?_ (by simp[AO,Ag];exact Sub.refl _)
   refine A3 (Bl (vObj s.objs.length) p1 hs) (fun d S4 hr=>?_) (fun d S4 hr=>by cases hr.1)
   obtain⟨hd,R4,ai,aj⟩:=hr
   cases hd
   refine gz ?_ o108
   exact fin1 (U':=S4) ⟨R4,p2.trans aj,by rw[if_neg aB];exact⟨rfl,ai⟩⟩
  ·refine u3R (.tup [.agg [dI x.a,.slice es .clip],dI 0]) ?_
   refine u3R (.agg [dI x.a,.slice es .clip]) ?_
   refine u3R (dI 0) ?_
   refine u3A [.int .i64 0,.nils] (fun i5 ag=>?_)
   have aE:Sub O ((S1.set i5 (.cells [.int .i64 0,.nils])).set i5 (.cells [dI x.a,.slice es .clip])):=(hS.set (hS.none ag)).set (hS.none ag)
   have o5:(S1.set i5 (.cells [.int .i64 0,.nils])) i5=_:=w6 ..
   refine u3M ?_
   simp only[List.map]
   refine FL Ac tdR (by simp;rfl) aE ?_
   simp only[w8]
   have ak:=hF.new ag (.cells [dI x.a,.slice es .clip])
   have o6:(S1.set i5 (.cells [dI x.a,.slice es .clip])) i5=_:=w6 ..
   have n5:¬(R 3).is i5:=fun h=>by
    obtain⟨z,hz⟩:=q3.cells h
    rw[hS _ _ hz]at ag;cases ag
   obtain⟨a1,a2,a3⟩:=hR.fresh ak
   generalize S1.set i5 (.cells [dI x.a,.slice es .clip])=S2 at*
   have u1:=D2 a1 (hR.ni 3)
   have u5:=D2 o6 n5
   refine gz ?_ (delO 4 o108)
   refine EP (id:=4) [0,1,2,3,4,5,6,7,8,9,10,11] [8] (S2.out (R 3).is) (C1 _ _) ?_
   refine gf (gi u1 u5) ?_ o108
   refine Gb (new:=[[dI x.a,.slice es .clip]]) (es:=tCells (fun k=>R (k+4)) s.objs) (fun j c2 cs2 S3 aF au=>?_) (fun j o h=>Cf h) (hm:=a3) (h1:=by rw[A4];with_unfolding_all rfl) (hb:=by rw[A4];simp;omega) (hm2:=by rw[A4];simp;omega)
   obtain⟨v1,v2⟩:=au ir _ a1 (hR.ni 3)
   rw[show(tCells (fun k=>R (k+4)) s.objs).length+[[dI x.a,.slice es .clip]].length=s.objs.length+1 by rw[A4];rfl]
   refine gf v1 ?_ o108
   obtain⟨p1,p2⟩:=hR.obj_add (x:=⟨x.a,(A2 p).fresh x.a⟩) (r:=(.full es)) ak aF au rfl
   refine drp (S3.set ir (.cells (AO p (updF (updF R (s.objs.length+4) (.full es)) 3 (.row j c2 cs2)) { s with objs:=s.objs++[⟨x.a,(A2 p).fresh x.a⟩] }))) ?_ (by simp[AO,Ag];exact Sub.refl _)
   refine A3 (Bl (vObj s.objs.length) p1 hs) (fun d S4 hr=>?_) (fun d S4 hr=>by cases hr.1)
   obtain⟨hd,R4,ai,aj⟩:=hr
   cases hd
   refine gz ?_ o108
   exact fin1 (U':=S4) ⟨R4,p2.trans aj,by rw[if_neg aB];exact⟨rfl,ai⟩⟩
  ·refine u3R (.tup [.agg [dI x.a,.sref i 0 ((A2 p).fresh x.a).length c'],dI 0]) ?_
   refine u3R (.agg [dI x.a,.sref i 0 ((A2 p).fresh x.a).length c']) ?_
   refine u3R (dI 0) ?_
   refine u3A [.int .i64 0,.nils] (fun i5 ag=>?_)
   have aE:Sub O ((S1.set i5 (.cells [.int .i64 0,.nils])).set i5 (.cells [dI x.a,.sref i 0 ((A2 p).fresh x.a).length c'])):=(hS.set (hS.none ag)).set (hS.none ag)
   have o5:(S1.set i5 (.cells [.int .i64 0,.nils])) i5=_:=w6 ..
   refine u3M ?_
   simp only[List.map]
   refine FL Ac tdR (by simp;rfl) aE ?_
   simp only[w8]
   have ak:=hF.new ag (.cells [dI x.a,.sref i 0 ((A2 p).fresh x.a).length c'])
   have o6:(S1.set i5 (.cells [dI x.a,.sref i 0 ((A2 p).fresh x.a).length c'])) i5=_:=w6 ..
   have n5:¬(R 3).is i5:=fun h=>by
    obtain⟨z,hz⟩:=q3.cells h
    rw[hS _ _ hz]at ag;cases ag
   obtain⟨a1,a2,a3⟩:=hR.fresh ak
   generalize S1.set i5 (.cells [dI x.a,.sref i 0 ((A2 p).fresh x.a).length c'])=S2 at*
   have u1:=D2 a1 (hR.ni 3)
   have u5:=D2 o6 n5
   refine gz ?_ (delO 4 o108)
   refine EP (id:=4) [0,1,2,3,4,5,6,7,8,9,10,11] [8] (S2.out (R 3).is) (C1 _ _) ?_
   refine gf (gi u1 u5) ?_ o108
   refine Gb (new:=[[dI x.a,.sref i 0 ((A2 p).fresh x.a).length c']]) (es:=tCells (fun k=>R (k+4)) s.objs) (fun j c2 cs2 S3 aF au=>?_) (fun j o h=>Cf h) (hm:=a3) (h1:=by rw[A4];with_unfolding_all rfl) (hb:=by rw[A4];simp;omega) (hm2:=by rw[A4];simp;omega)
   obtain⟨v1,v2⟩:=au ir _ a1 (hR.ni 3)
   rw[show(tCells (fun k=>R (k+4)) s.objs).length+[[dI x.a,.sref i 0 ((A2 p).fresh x.a).length c']].length=s.objs.length+1 by rw[A4];rfl]
   refine gf v1 ?_ o108
   obtain⟨p1,p2⟩:=hR.obj_add (x:=⟨x.a,(A2 p).fresh x.a⟩) (r:=(.row i c' cs)) ak aF au rfl
   refine drp (S3.set ir (.cells (AO p (updF (updF R (s.objs.length+4) (.row i c' cs)) 3 (.row j c2 cs2)) { s with objs:=s.objs++[⟨x.a,(A2 p).fresh x.a⟩] }))) ?_ (by simp[AO,Ag];exact Sub.refl _)
   refine A3 (Bl (vObj s.objs.length) p1 hs) (fun d S4 hr=>?_) (fun d S4 hr=>by cases hr.1)
   obtain⟨hd,R4,ai,aj⟩:=hr
   cases hd
   refine gz ?_ o108
   exact fin1 (U':=S4) ⟨R4,p2.trans aj,by rw[if_neg aB];exact⟨rfl,ai⟩⟩
end
theorem KY(p:BProg)(l:List MThing)(o:Own)(O:Sig)(hp:p.wt<=1073741824)(hl:l.length<=1073741824)(hs:∀x∈l,x.slots.length<=1073741824):DCall prog 45 [.agg (Ag p),.slice (l.map cTh) o] O (rS (dI (if okP p&&Bc (A2 p) l then 0 else 2)) O):=by
 refine en func45 ntmps45 ?_
 cases hk:okP p with
 |false=>
  refine gf hk ?_
  exact fin1 (U':=O) ⟨rfl,rfl⟩
 | true =>
  by_cases aB:l.length<=40
  rotate_left
  ·have aG:Bc (A2 p) l=false:=by unfold Bc;simp[aB]
   refine gf hk ?_
   exact fin1 (U':=O) ⟨by rw[aG],rfl⟩
  ·refine gf hk ?_
   refine CG [1,2,17,18] (fun (k:Nat)=>k<=l.length /\ ∀x∈l.take k,(A2 p).own x.cls=true/\x.slots.length=((A2 p).slots x.cls).length/\okVs l.length x.slots=true) (fun k=>[(19,dI k)]) (fun _=>O) (fun k=>l.length-k) (0) (by exact⟨Nat.zero_le _,by simp⟩) (fun k hI=>?_)
   obtain⟨aV,hI⟩:=hI
   by_cases aQ:k<l.length
   ·have bt:=hs _ (List.getElem_mem aQ)
    have bc:=Ch p (l[k]).cls
    have bf:=E4 p
    have aG:¬((A2 p).own (l[k]).cls=true/\(l[k]).slots.length=((A2 p).slots (l[k]).cls).length/\okVs l.length (l[k]).slots=true)->Bc (A2 p) l=false:=fun h=>by
     cases hb:Bc (A2 p) l with
     |false=>rfl
     |true=>exact absurd ((BB.1 hb).2 _ (List.getElem_mem aQ)) h
    cases ho:ownF p (l[k]).cls with
    |false=>
     have hb:=aG fun h=>by have:=h.1;rw[show(A2 p).own (l[k]).cls=(ownF p (l[k]).cls&&okP p) from rfl,ho]at this;cases this
     refine gf (gi hk ho) ?_
     exact fin1 (U':=O) ⟨by rw[hb],rfl⟩
    | true =>
     have bh:(A2 p).own (l[k]).cls=true:=by show(ownF p (l[k]).cls&&okP p)=true;rw[ho,hk];rfl
     by_cases aC:(l[k]).slots.length=(hasP p (l[k]).cls).length
     ·cases hv:okVs l.length (l[k]).slots with
      |false=>
       have hb:=aG fun h=>by have:=h.2.2;rw[hv]at this;cases this
       refine gf (gi hk (gi ho (gi hv aC))) ?_
       exact fin1 (U':=O) ⟨by rw[hb],rfl⟩
      |true=>
       refine gf (gi hk (gi ho (gi hv aC))) ?_
       exact⟨k+1,⟨by omega,fun x hx=>by rw[List.take_succ_eq_append_getElem aQ,List.mem_append,List.mem_singleton]at hx;exact hx.elim (hI x) (fun e=>by rw[e];exact⟨bh,aC,hv⟩)⟩,td1,wkR⟩
     ·have hb:=aG fun h=>aC h.2.1
      have aU:¬(hasP p (l[k]).cls).length=(l[k]).slots.length:=fun e=>aC e.symm
      refine gf (gi hk (gi ho (gi aC aU))) ?_
      exact fin1 (U':=O) ⟨by rw[hb],rfl⟩
   ·have hb:Bc (A2 p) l=true:=BB.2 ⟨aB,by rw[List.take_of_length_le (by omega)]at hI;exact hI⟩
    refine gz ?_
    exact fin1 (U':=O) ⟨by rw[hb],rfl⟩
end Go.DL
