/- A part of the proof. -/
import Derived.Test.YteldimffglchkaaGreatDoorR22
import Derived.Test.YteldimffglchkaaGreatDoorR19
import Derived.Test.YteldimffglchkaaGreatDoorR18
set_option linter.all false
namespace Go.DL
open Go.Proofs.Tryz
open Go Go.Proofs
set_option maxHeartbeats 8000000
def frV(l:List Init)(s:Int):MVal:=match l.find? (fun i=>decide (i.slot=s))with
 |some i=>vInt i.n
 |none=>EL
def A2(p:BProg):CWorld:=⟨fun c=>ownF p c&&okP p,hasP p,fun c=>(hasP p c).map (frV (EG p c))⟩
theorem A6(S:Nat->RW)(l:List MThing):(tCells S l).length=l.length:=by unfold tCells;simp
theorem BM(S:Nat->RW)(l:List MThing)(k:Nat)(h:k<l.length):(tCells S l)[k]? = some [dI (l[k]).cls,(S k).d (l[k]).slots.length]:=by
 unfold tCells;rw[List.getElem?_mapIdx,List.getElem?_eq_getElem h];rfl
theorem D8{S:Nat->RW}{l:List MThing}: ∀c∈tCells S l,c.length=2:=fun c h=>by
 obtain⟨k,hk⟩:=List.getElem?_of_mem h
 have hl:=(List.getElem?_eq_some_iff.1 hk).1
 rw[A6]at hl
 rw[BM S l k hl]at hk
 cases hk;rfl
theorem Ow{es:List (List D)}(h2:∀c∈es,c.length=2){k:Nat}{a b:D}(hk:es[k]? = some [a,b])(cs:List D):(es.flatten++cs)[k*2]? = some a/\(es.flatten++cs)[k*2+1]? = some b:=by
 have hl:=(List.getElem?_eq_some_iff.1 hk).1
 have e:es=es.take k++[a,b]::es.drop (k+1):=by
  have:=(List.getElem?_eq_some_iff.1 hk).2
  rw[<-this,<-A5 hl,List.take_append_drop]
 have hf:(es.take k).flatten.length=k*2:=by rw[Ap fun c hc=>h2 c (List.mem_of_mem_take hc),List.length_take_of_le (by omega)]
 rw[e,List.flatten_append,List.flatten_cons]
 simp only[List.append_assoc]
 constructor
 ·rw[List.getElem?_append_right (by omega),hf,Nat.sub_self];rfl
 ·rw[List.getElem?_append_right (by omega),hf,show k*2+1-k*2=1 by omega];rfl
section
variable {ir:Nat}{p:BProg}{R:Nat->RW}{s:GoS}{O:Sig}{v:MVal}
theorem Mx(v:MVal)(x:Int)(hp:p.wt<=1073741824)(hR:RunS ir p R s O)(hv:okV s.objs.length v=true)(ho:Bn (A2 p) s.objs=true):
  DCall prog 180 [.ptr ir 0,.agg (cVal v),dI x] O fun y U'=>U'=O/\((Bq (A2 p) s.objs v x<0/\y=.ret .nilp)\/(0<=Bq (A2 p) s.objs v x/\v.kind=3 /\ ∃i c cs,R (v.n.toNat+4)=.row i c cs/\y=.ret (.ptr i ((Bq (A2 p) s.objs v x).toNat*2)))):=by
 have q1:=hR.obj
 by_cases h3:v.kind=3
 rotate_left
 ·have hn:Bq (A2 p) s.objs v x<0:=by unfold Bq;rw[if_neg h3];omega
  refine en func180 ntmps180 ?_
  refine gf h3 ?_ o180
  exact fin1 (U':=O) ⟨rfl,.inl ⟨hn,rfl⟩⟩
 obtain⟨w1,w2,w3⟩:=FR ho hv h3
 obtain⟨u1,u2,u3⟩:=(BO.1 ho).2 _ w1
 obtain⟨n,hn⟩:∃n:Nat,v.n=n:=⟨v.n.toNat,by omega⟩
 have ac:n<s.objs.length:=by omega
 have ay:Dd s.objs v.n=s.objs[n]:=by unfold Dd;rw[hn,Int.toNat_natCast,List.getElem?_eq_getElem ac];rfl
 rw[ay]at u1 u2 u3
 have aD:Bq (A2 p) s.objs v x=idxG x (hasP p (s.objs[n]).cls) 0:=by unfold Bq;rw[if_pos h3,ay];rfl
 rw[aD]
 obtain⟨i,c,cs,h0⟩:=hR.row 3 (fun e=>by rw[rCt]at e;have:=congrArg List.length e;rw[A6]at this;simp at this;rw[this]at ac;simp at ac)
 have q0:=hR.rows.ok 3
 rw[h0]at q0
 obtain⟨z1,z2,z3,z4⟩:=q0
 obtain⟨y1,y2⟩:=Ow (D8 (S:=fun k=>R (k+4)) (l:=s.objs)) (BM _ _ n ac) cs
 rw[show rCt R s 3=tCells (fun k=>R (k+4)) s.objs from rfl]at z1
 generalize (tCells (fun k=>R (k+4)) s.objs).flatten++cs=L at*
 unfold AO at q1
 rw[h0]at q1
 simp only[Fj]at q1
 have aA:(ownF p (s.objs[n]).cls&&okP p)=true:=u1
 have be:(hasP p (s.objs[n]).cls).length<=1073741824:=by have a:=CD p (s.objs[n]).cls;have b:=Dr p;omega
 have aG:(s.objs[n]).slots.length=(hasP p (s.objs[n]).cls).length:=u2
 by_cases aH:idxG x (hasP p (s.objs[n]).cls) 0<0
 ·refine en func180 ntmps180 ?_
  refine gf (gi q1 (gi z1 (gi hn (gi y1 (gi y2 aA))))) ?_ o180
  exact fin1 (U':=O) ⟨rfl,.inl ⟨aH,rfl⟩⟩
 ·obtain⟨m1,m2⟩:=HN (s:=x) (hasP p (s.objs[n]).cls) 0 (by omega)
  obtain⟨k,hk⟩:∃k:Nat,idxG x (hasP p (s.objs[n]).cls) 0=k:=⟨(idxG x (hasP p (s.objs[n]).cls) 0).toNat,by omega⟩
  have aC:rCt R s (n+4)=(s.objs[n]).slots.map cVal:=by show(((s.objs[n]?).getD ⟨0,[]⟩).slots.map cVal)=_;rw[List.getElem?_eq_getElem ac];rfl
  obtain⟨j,cj,csj,hj⟩:=hR.row (n+4) (fun e=>by rw[aC]at e;have:=congrArg List.length e;simp at this;rw[this]at aG;simp at aG;omega)
  rw[hj]at y2
  simp only[Fj]at y2
  rw[hk]at m2
  refine en func180 ntmps180 ?_
  refine gf (gi q1 (gi z1 (gi hn (gi y1 (gi y2 (gi aA hk)))))) ?_ o180
  refine fin1 (U':=O) ⟨rfl,.inr ⟨by omega,h3,j,cj,csj,by rw[hn];exact hj,?_⟩⟩
  rw[hk];rfl
theorem Qm(hR:RunS ir p R s O)(hv:okV s.objs.length v=true)(ho:Bn (A2 p) s.objs=true){x:Int}(h0:0<=Bq (A2 p) s.objs v x)(h3:v.kind=3){i c:Nat}{cs:List D}(hi:R (v.n.toNat+4)=.row i c cs):
  ∃n k:Nat,v.n=n/\Bq (A2 p) s.objs v x=k /\ ∃(hn:n<s.objs.length) (hk:k<(s.objs[n]).slots.length),Dd s.objs v.n=s.objs[n] /\ ∃L,L=((s.objs[n]).slots.map cVal).flatten++cs/\O i=some (.cells L)/\k*2+2<=L.length/\List.take 2 (List.drop (k*2) L)=cVal ((s.objs[n]).slots[k]):=by
 obtain⟨w1,w2,w3⟩:=FR ho hv h3
 obtain⟨u1,u2,u3⟩:=(BO.1 ho).2 _ w1
 obtain⟨n,hn⟩:∃n:Nat,v.n=n:=⟨v.n.toNat,by omega⟩
 have ac:n<s.objs.length:=by omega
 have ay:Dd s.objs v.n=s.objs[n]:=by unfold Dd;rw[hn,Int.toNat_natCast,List.getElem?_eq_getElem ac];rfl
 rw[ay]at u1 u2 u3
 have aD:Bq (A2 p) s.objs v x=idxG x (hasP p (s.objs[n]).cls) 0:=by unfold Bq;rw[if_pos h3,ay];rfl
 have aG:(s.objs[n]).slots.length=(hasP p (s.objs[n]).cls).length:=u2
 obtain⟨m1,m2⟩:=HN (s:=x) (hasP p (s.objs[n]).cls) 0 (by omega)
 obtain⟨k,hk⟩:∃k:Nat,idxG x (hasP p (s.objs[n]).cls) 0=k:=⟨(idxG x (hasP p (s.objs[n]).cls) 0).toNat,by omega⟩
 rw[hk]at m2 aD
 have am:k<(s.objs[n]).slots.length:=by omega
 have aC:rCt R s (n+4)=(s.objs[n]).slots.map cVal:=by show(((s.objs[n]?).getD ⟨0,[]⟩).slots.map cVal)=_;rw[List.getElem?_eq_getElem ac];rfl
 have q:=hR.rows.ok (n+4)
 rw[show n=v.n.toNat by omega,hi]at q
 have z:=q.1
 rw[show v.n.toNat=n by omega,aC]at z
 refine⟨n,k,hn,aD,ac,am,ay,_,rfl,z,by rw[Gm];omega,?_⟩
 have e:(s.objs[n]).slots=(s.objs[n]).slots.take k++(s.objs[n]).slots[k]::(s.objs[n]).slots.drop (k+1):=by rw[<-A5 am,List.take_append_drop]
 have hv:=KX ((s.objs[n]).slots.take k) (s.objs[n]).slots[k] ((s.objs[n]).slots.drop (k+1)) cs
 rw[<-e,List.length_take_of_le (by omega)]at hv
 exact hv
theorem To(x:CIns)(r:List MVal)(v:MVal)(hp:p.wt<=1073741824)(hR:RunS ir p R s O)(hs:s.stk=r++[v])(hn:s.stk.length<=1000000)(hv:okV s.objs.length v=true)(ho:Bn (A2 p) s.objs=true):DCall prog 109 [.ptr ir 0,.agg (cIns x)] O fun y U'=> ∃R',RunK ir R O R' U' /\
  if Bq (A2 p) s.objs v x.a<0 then y=.ret (.bool true)/\HaltS ir p R' { s with stk:=r } .nils false (GB s 5 r) U' else y=.ret (.bool false)/\RunS ir p R' { s with stk:=r++[((Dd s.objs v.n).slots[(Bq (A2 p) s.objs v x.a).toNat]?).getD vZ] } U':=by
 have hl:s.stk.length=r.length+1:=by rw[hs];simp
 refine en func109 ntmps109 ?_
 refine gz ?_
 refine Fx (id:=1) [0,1,3,4,2,5,6] [2,5] (fun _=>none) (fun _ _ h=>by cases h) ?_
 refine gz ?_ o109
 refine Bd (Cm r v hR hs hn) (fun d S1 hr=>?_) (fun d S1 hr=>by cases hr.1)
 obtain⟨hd,R1,ag,ax⟩:=hr
 cases hd
 refine⟨(fun _ _ h=>by cases h),?_⟩
 refine Bd (Mx v x.a hp ag hv ho) (fun d S2 hr=>?_) (fun d S2 hr=>by rcases hr.2 with⟨_,h⟩|⟨_,_,_,_,_,_,h⟩<;>cases h)
 obtain⟨rfl,hr⟩:=hr
 refine⟨(fun _ _ h=>by cases h),?_⟩
 rcases hr with⟨h0,hd⟩|⟨h0,h3,i,c,cs,hi,hd⟩
 ·cases hd
  refine gz ?_ o109
  refine A4 (He 5 r ag) (fun d S3 hr=>?_) (fun d S3 hr=>by cases hr.1)
  obtain⟨hd,h1,h2⟩:=hr
  cases hd
  refine gz ?_ o109
  exact fin1 (U':=S3) ⟨R1,ax.trans h2,by rw[if_pos h0];exact⟨rfl,h1⟩⟩
 ·obtain⟨n,k,e1,e2,ac,am,e3,L,hL,z1,z2,z3⟩:=Qm ag hv ho h0 h3 hi
  have e4:Bq (A2 p) s.objs v x.a=k:=e2
  obtain rfl:d=.ptr i (k*2):=by cases hd;show D.ptr i ((Bq (A2 p) s.objs v x.a).toNat*2)=_;rw[e4];rfl
  have e5:((Dd s.objs v.n).slots[(Bq (A2 p) s.objs v x.a).toNat]?).getD vZ=(s.objs[n]'ac).slots[k]'am:=by
   rw[e4,show Dd s.objs v.n=s.objs[n]'ac from e3,Int.toNat_natCast,List.getElem?_eq_getElem am];rfl
  refine gf (gi z1 (gi z2 z3)) ?_ o109
  refine A4 (Bv ((s.objs[n]'ac).slots[k]'am) ag (by simp;omega)) (fun d S3 hr=>?_) (fun d S3 hr=>by cases hr.1)
  obtain⟨hd,R3,ap,aw⟩:=hr
  cases hd
  refine gz ?_ o109
  exact fin1 (U':=S3) ⟨R3,ax.trans aw,by rw[if_neg (by omega),e5];exact⟨rfl,ap⟩⟩
end
theorem Qc(l:List MVal)(k:Nat)(hk:k<l.length)(v:MVal)(cs:List D):List.take (k*2) ((l.map cVal).flatten++cs)++cVal v++List.drop (k*2+2) ((l.map cVal).flatten++cs)=((l.set k v).map cVal).flatten++cs:=by
 have e:l=l.take k++l[k]::l.drop (k+1):=by rw[<-A5 hk,List.take_append_drop]
 have h:((l.take k).map cVal).flatten.length=k*2:=by rw[Ap Bw];simp;omega
 have hs:l.set k v=l.take k++v::l.drop (k+1):=by rw[List.set_eq_take_append_cons_drop,if_pos hk]
 have e2:(l.map cVal).flatten++cs=((l.take k).map cVal).flatten++(cVal l[k]++(((l.drop (k+1)).map cVal).flatten++cs)):=by
  calc _=((l.take k++l[k]::l.drop (k+1)).map cVal).flatten++cs:=by rw[<-e]
   _=_:=by rw[List.map_append,List.map_cons,List.flatten_append,List.flatten_cons];simp only[List.append_assoc]
 have e3:((l.set k v).map cVal).flatten++cs=((l.take k).map cVal).flatten++(cVal v++(((l.drop (k+1)).map cVal).flatten++cs)):=by
  rw[hs,List.map_append,List.map_cons,List.flatten_append,List.flatten_cons];simp only[List.append_assoc]
 rw[e2,e3,<-h,List.take_left,<-List.drop_drop,List.drop_left,List.append_assoc]
 rfl
section
variable {ir:Nat}{p:BProg}{R:Nat->RW}{s:GoS}{O:Sig}
theorem P3(S:Nat->RW)(l:List MThing)(n:Nat)(hn:n<l.length)(x:MThing)(hc:x.cls=(l[n]).cls)(hl:x.slots.length=(l[n]).slots.length):tCells S (l.set n x)=tCells S l:=by
 refine List.ext_getElem? fun k=>?_
 by_cases hk:k<l.length
 ·rw[BM S (l.set n x) k (by simpa using hk),BM S l k hk]
  by_cases e:k=n
  ·subst e;rw[List.getElem_set_self,hc,hl]
  ·rw[List.getElem_set_ne (fun h=>e h.symm)]
 ·rw[List.getElem?_eq_none (by rw[A6];simp;omega),List.getElem?_eq_none (by rw[A6];omega)]
theorem RunS.slot(h:RunS ir p R s O){n k:Nat}(hn:n<s.objs.length)(hk:k<(s.objs[n]).slots.length){i c:Nat}{cs:List D}(hi:R (n+4)=.row i c cs)(v:MVal){L:List D}(hL:L=((s.objs[n]).slots.map cVal).flatten++cs):
  RunS ir p R { s with objs:=s.objs.set n ⟨(s.objs[n]).cls,(s.objs[n]).slots.set k v⟩ } (O.set i (.cells (L.take (k*2)++cVal v++L.drop (k*2+2))))/\RunK ir R O R (O.set i (.cells (L.take (k*2)++cVal v++L.drop (k*2+2)))):=by
 subst hL
 rw[Qc _ k hk v cs]
 have aJ:(R (n+4)).is i:=by rw[hi];rfl
 have aW:ir≠i:=fun e=>h.ni (n+4) (e ▸ aJ)
 have aC:rCt R s (n+4)=(s.objs[n]).slots.map cVal:=by show(((s.objs[n]?).getD ⟨0,[]⟩).slots.map cVal)=_;rw[List.getElem?_eq_getElem hn];rfl
 have q:=h.rows.ok (n+4)
 rw[hi,aC]at q
 obtain⟨z1,z2,z3,z4⟩:=q
 refine⟨⟨?_,⟨fun a=>?_,h.rows.dj⟩,h.ni,h.nf⟩,fun j o hj _ aQ=>⟨by rw[w7 _ _ fun e=>aQ (n+4) (by rw[e];exact aJ)];exact hj,aQ⟩⟩
 ·rw[w7 _ _ aW,h.obj]
  simp[AO]
 ·by_cases ea:a=n+4
  ·subst ea
   have e:rCt R { s with objs:=s.objs.set n ⟨(s.objs[n]).cls,(s.objs[n]).slots.set k v⟩ } (n+4)=((s.objs[n]).slots.set k v).map cVal:=by
    show((((s.objs.set n _)[n]?).getD ⟨0,[]⟩).slots.map cVal)=_
    rw[List.getElem?_set_self hn];rfl
   rw[hi,e]
   refine⟨by rw[w6],?_,by simpa using z3,Bw⟩
   have a1:=Gm (s.objs[n]).slots cs
   have a2:=Gm ((s.objs[n]).slots.set k v) cs
   rw[List.length_set]at a2
   exact le_of_le_of_eq z2 (a1.trans a2.symm)
  ·have e:rCt R { s with objs:=s.objs.set n ⟨(s.objs[n]).cls,(s.objs[n]).slots.set k v⟩ } a=rCt R s a:=by
    match a with
    |0=>rfl
    |1=>rfl
    |2=>rfl
    |3=>exact P3 _ _ n hn _ rfl (by simp)
    |m+4=>
     show((((s.objs.set n _)[m]?).getD ⟨0,[]⟩).slots.map cVal)=((((s.objs)[m]?).getD ⟨0,[]⟩).slots.map cVal)
     rw[List.getElem?_set_ne (by omega)]
   rw[e]
   exact(h.rows.ok a).keep fun j o hj aY=>by rw[w7 _ _ fun e2=>ea (h.rows.dj a (n+4) j aY (by rw[e2];exact aJ))];exact hj
theorem Tl(x:CIns)(r:List MVal)(w v:MVal)(hp:p.wt<=1073741824)(hR:RunS ir p R s O)(hs:s.stk=r++[w,v])(hn:s.stk.length<=1000000)(hv:okV s.objs.length w=true)(ho:Bn (A2 p) s.objs=true):DCall prog 112 [.ptr ir 0,.agg (cIns x)] O fun y U'=> ∃R',RunK ir R O R' U' /\
  if Bq (A2 p) s.objs w x.a<0 then y=.ret (.bool true)/\HaltS ir p R' { s with stk:=r } .nils false (GB s 5 (r++[w])) U' else
   y=.ret (.bool false)/\RunS ir p R' { s with objs:=setObj s.objs w.n ⟨(Dd s.objs w.n).cls,(Dd s.objs w.n).slots.set (Bq (A2 p) s.objs w x.a).toNat v⟩,stk:=r++[v] } U':=by
 have hl:s.stk.length=r.length+2:=by rw[hs];simp
 refine en func112 ntmps112 ?_
 refine gz ?_ o112
 refine A4 (Cm (r++[w]) v hR (by rw[hs];simp) hn) (fun d S0 hr=>?_) (fun d S0 hr=>by cases hr.1)
 obtain⟨hd,R0,bc,aT⟩:=hr
 cases hd
 refine gz ?_
 refine Fx (id:=2) [0,1,3,4,2,5,6] [2,5] (fun _=>none) (fun _ _ h=>by cases h) ?_
 refine gz ?_ o112
 refine Bd (Cm r w bc rfl (by simp;omega)) (fun d S1 hr=>?_) (fun d S1 hr=>by cases hr.1)
 obtain⟨hd,R1,ag,ax⟩:=hr
 cases hd
 refine⟨(fun _ _ h=>by cases h),?_⟩
 refine Bd (Mx w x.a hp ag hv ho) (fun d S2 hr=>?_) (fun d S2 hr=>by rcases hr.2 with⟨_,h⟩|⟨_,_,_,_,_,_,h⟩<;>cases h)
 obtain⟨rfl,hr⟩:=hr
 refine⟨(fun _ _ h=>by cases h),?_⟩
 rcases hr with⟨h0,hd⟩|⟨h0,h3,i,c,cs,hi,hd⟩
 ·cases hd
  refine gz ?_ o112
  refine A4 (He 5 (r++[w]) ag) (fun d S3 hr=>?_) (fun d S3 hr=>by cases hr.1)
  obtain⟨hd,h1,h2⟩:=hr
  cases hd
  refine gz ?_ o112
  exact fin1 (U':=S3) ⟨R1,(aT.trans ax).trans h2,by rw[if_pos h0];exact⟨rfl,h1⟩⟩
 ·obtain⟨n,k,e1,e2,ac,am,e3,L,hL,z1,z2,z3⟩:=Qm ag hv ho h0 h3 hi
  have e4:Bq (A2 p) s.objs w x.a=k:=e2
  obtain rfl:d=.ptr i (k*2):=by cases hd;show D.ptr i ((Bq (A2 p) s.objs w x.a).toNat*2)=_;rw[e4];rfl
  have ba:R1 (n+4)=.row i c cs:=by rw[<-hi,e1];rfl
  obtain⟨p1,p2⟩:=ag.slot ac am ba v hL
  have hf:¬L.length<k*2+2:=by omega
  rw[List.append_assoc]at p1 p2
  have e5:setObj s.objs w.n ⟨(Dd s.objs w.n).cls,(Dd s.objs w.n).slots.set (Bq (A2 p) s.objs w x.a).toNat v⟩=s.objs.set n ⟨(s.objs[n]'ac).cls,(s.objs[n]'ac).slots.set k v⟩:=by
   unfold setObj
   rw[e4,show Dd s.objs w.n=s.objs[n]'ac from e3,e1];rfl
  refine gf (gi z1 hf) ?_ o112
  refine A4 (Bv v p1 (by simp;omega)) (fun d S3 hr=>?_) (fun d S3 hr=>by cases hr.1)
  obtain⟨hd,R3,ap,aw⟩:=hr
  cases hd
  refine gz ?_ o112
  exact fin1 (U':=S3) ⟨R3,((aT.trans ax).trans p2).trans aw,by rw[if_neg (by omega),e5];exact⟨rfl,ap⟩⟩
theorem Tm(x:CIns)(r:List MVal)(v:MVal)(hR:RunS ir p R s O)(hs:s.stk=r++[v])(hn:s.stk.length<=1000000)(he:s.evs.length<=1000000):DCall prog 111 [.ptr ir 0,.agg (cIns x)] O fun y U'=>y=.ret (.bool false) /\ ∃R',RunS ir p R' { s with evs:=s.evs++[⟨2,0,[v]⟩],stk:=r++[v] } U'/\RunK ir R O R' U':=by
 have hl:s.stk.length=r.length+1:=by rw[hs];simp
 refine en func111 ntmps111 ?_
 refine gz ?_ o111
 refine A4 (Cm r v hR hs hn) (fun d S1 hr=>?_) (fun d S1 hr=>by cases hr.1)
 obtain⟨hd,R1,ag,ax⟩:=hr
 cases hd
 have q1:=ag.obj
 have q0:RWAt S1 3 (R1 2) (s.evs.map cEv):=ag.rows.ok 2
 have u1:=E9 q1 (ag.ni 2)
 refine gz ?_
 refine Fu (id:=2) [0,1,2,3,4,5,6,7,8,9,10,11,12,13] [10] (S1.out (R1 2).is) (D2 _ _) ?_
 refine gf u1 ?_ o111
 refine GZ (es:=s.evs.map cEv) (fun i c cs S2 aP aS=>?_) (fun j o h=>Ej h) (hm:=q0)
 obtain⟨v1,v2⟩:=aS _ _ q1 (ag.ni 2)
 refine gf v1 ?_ o111
 rw[show s.evs.map cEv++[[D.int .i64 2,D.int .i64 0,.slice [cVal v] .clip]]=(s.evs++[(⟨2,0,[v]⟩:MEv)]).map cEv by simp[cEv]]at aP
 obtain⟨p1,p2⟩:=ag.put (a:=2) (s':={ s with stk:=r,evs:=s.evs++[⟨2,0,[v]⟩] }) aP aS (rCt_2 R1 _ { s with stk:=r } _) rfl
 refine drp (S2.set ir (.cells (AO p (updF R1 2 (.row i c cs)) { s with stk:=r,evs:=s.evs++[⟨2,0,[v]⟩] }))) ?_ (by simp[AO,Ad];exact Sub.refl _)
 refine A4 (Bv v p1 (by simp;omega)) (fun d S3 hr=>?_) (fun d S3 hr=>by cases hr.1)
 obtain⟨hd,R3,ap,aw⟩:=hr
 cases hd
 refine gz ?_ o111
 exact fin1 (U':=S3) ⟨rfl,R3,ap,(ax.trans p2).trans aw⟩
end
section
variable {ro:Ro}{n:Nat}{ops:Array Oper}{N:Nat}{B:Sig->Prop}{Q:DX->St->Prop}{df:List DDf}{rest:List Oper}{γ Sr:List (Nat×D)}{O:Sig}{t:Nat}{ty:TypeId}{pos:String}{after:Array Edge}{e1 c1 k1:Bool}{l:List (Bool×Bool×Bool×Oper)}
theorem Qp{g:G}{w:Go.World}{T e i off len cap:Nat}{k:IntKind}{v u:Value}(hk:(tab T).k=.slice e)(he:A0 (tab e).k=false)(hv:Rep g (.sref i off len cap) v)(hu:Rep g (.int k cap) u)(aI:cap<=len):
  ∃r,(Instr.sliceAt T v (some u) none none).run prog w=.ok r w/\Rep g (.sref i off (len-cap) 0) r:=by
 obtain⟨b,hb,rfl⟩:=hv
 obtain rfl:=Bf hu
 refine⟨_,?_,La (len:=len-cap) (cap:=0) (off:=off) hb⟩
 have hu:=AJ tabOK hk
 have c1:(0:Int)<=(cap:Int):=by omega
 have c2:(cap:Int)<=(len:Int):=by omega
 simp only[Option.map_some,Instr.sliceAt,Instr.slice,Instr.sliceBounds,Instr.sliceBound,asIntOf,Sem.run_bind,Sem.run_pure,Result.andThen_ok,run_underlying hu,c1,c2,and_self,if_true,AD (tabOK e) (Af he),Int.toNat_natCast,Nat.sub_self]
theorem iCutL{T e i off len cap lo:Nat}{k:IntKind}{x y:Operand}(h:∀off',(cap=lo/\off'=off\/lo<cap/\off'=off+lo*(tab e).size)->MOI prog ro n ops N Q df l B ((t,.sref i off' (len-lo) (cap-lo))::γ) O)(hB:B O)(aI:lo<=len)(bd:len<=cap)
  (hl:A1 γ (A7 [x,y])=some Sr:=by exact tdR) (h1:ev Sr x=.sref i off len cap:=by exact tdR) (h2:ev Sr y=.int k lo:=by exact tdR) (hk:(tab T).k=.slice e:=by(simp<;>rfl)) (he:A0 (tab e).k=false:=by simp) (ak:decide (t<n)=true:=by exact tdR) :
  MOI prog ro n ops N Q df ((true,c1,k1,⟨some t,.slice T x (some y) none none,ty,pos,after,none⟩)::l) B γ O:=by
 refine moI_1 B (fun _=>rfl) (fun U2 hx=>?_) ak (by rw[Ak];rfl)
 obtain⟨e1,e2⟩:=evs hl
 have g1:ev U2 x=.sref i off len cap:=by rw[hx x (by simp[Op.operands]),<-e1,h1]
 have g2:ev U2 y=.int k lo:=by rw[hx y (by simp[Op.operands]),<-e2,h2]
 refine Cb (fun d U'=>(∃off',(cap=lo/\off'=off\/lo<cap/\off'=off+lo*(tab e).size)/\d=.sref i off' (len-lo) (cap-lo))/\U'=O) rfl (fun c e=>by cases e) (Ae fun c e=>by cases e) (by simp only[At];exact ak) ?_
  (fun d U' ⟨⟨o,a1,a2⟩,a3⟩=>by
   subst a2 a3
   refine Aw ⟨rfl,?_⟩
   exact⟨hB,by simp only[putD,A3,if_true];exact h o a1⟩)
 intro g w a hs hT
 have hx:=Aq hT x
 have hy:=Aq hT y
 rw[g1]at hx
 rw[g2]at hy
 by_cases hc:lo<cap
 ·obtain⟨r,h4,h5⟩:=O4 (w:=w) tabOK hk he hx hy aI hc
  exact⟨g,w,r,_,O,by simp only[execOp,Option.map_some,Option.map_none,Sem.run_bind,h4,Result.andThen_ok,Sem.run_pure],.refl g,hs,h5,⟨_,.inr ⟨hc,rfl⟩,rfl⟩,rfl⟩
 ·obtain rfl:lo=cap:=by omega
  obtain⟨r,h4,h5⟩:=Qp (w:=w) hk he hx hy aI
  exact⟨g,w,r,_,O,by simp only[execOp,Option.map_some,Option.map_none,Sem.run_bind,h4,Result.andThen_ok,Sem.run_pure],.refl g,hs,h5,⟨_,.inl ⟨rfl,rfl⟩,by rw[Nat.sub_self]⟩,rfl⟩
theorem frzT{ops':List Oper}{sz:Nat}{r:RW}{es:List (List D)}(tt:Nat)(hm:RWAt O sz r es)(h:∀U',(∀j o,O j=some o->¬r.is j->U' j=some o)->DOps prog ro n ops Q ops' ⟨(tt,.slice es .no)::γ,U',df⟩)(hg:getD γ tt=r.d es.length:=by simp[getD,List.lookup]):DOps prog ro n ops Q ops' ⟨γ,O,df⟩:=by
 obtain⟨S2,h3,h4⟩:=Gk (P:=prog) (n:=n) (γ:=γ) (df:=df) (t:=tt) hm hg
 exact C7 h3 (h S2 h4)
theorem cutN{T e:Nat}{k:IntKind}{x y:Operand}(h:DOps prog ro n ops Q rest ⟨(t,.nils)::γ,O,df⟩)
  (hl:A1 γ (A7 [x,y])=some Sr:=by exact tdR) (h1:ev Sr x=.nils:=by exact tdR) (h2:ev Sr y=.int k 0:=by exact tdR) (hk:(tab T).k=.slice e:=by(simp<;>rfl)) (he:A0 (tab e).k=false:=by simp) (ak:decide (t<n)=true:=by exact tdR) :
  DOps prog ro n ops Q (⟨some t,.slice T x none (some y) none,ty,pos,after,none⟩::rest) ⟨γ,O,df⟩:=by
 obtain⟨e1,e2⟩:=evs hl
 refine Cb (fun d U'=>d=.nils/\U'=O) rfl (fun c e=>by cases e) (Ae fun c e=>by cases e) (by simp only[At];exact ak) ?_
  (fun d U' ⟨a2,a3⟩=>by subst a2 a3;exact h)
 intro g w a hs hT
 have hx:=Aq hT x
 have hy:=Aq hT y
 rw[<-e1,h1]at hx
 rw[<-e2,h2]at hy
 have aE:=Bf hy
 have hu:=AJ tabOK hk
 have aF:a.eval x=.slice none 0 0:=hx
 refine⟨g,w,.slice none 0 0,.nils,O,?_,.refl g,hs,rfl,rfl,rfl⟩
 simp only[execOp,Option.map_some,Option.map_none,aF,aE,Instr.sliceAt,Instr.slice,Instr.sliceBounds,Instr.sliceBound,asIntOf,Sem.run_bind,Sem.run_pure,Result.andThen_ok,run_underlying hu,AD (tabOK e) (Af he)]
 rfl
theorem cutF{T e:Nat}{k:IntKind}{x y:Operand}(h:DOps prog ro n ops Q rest ⟨(t,.slice [] .clip)::γ,O,df⟩)
  (hl:A1 γ (A7 [x,y])=some Sr:=by exact tdR) (h1:ev Sr x=.slice [] .clip:=by exact tdR) (h2:ev Sr y=.int k 0:=by exact tdR) (hk:(tab T).k=.slice e:=by(simp<;>rfl)) (he:A0 (tab e).k=false:=by simp) (ak:decide (t<n)=true:=by exact tdR) :
  DOps prog ro n ops Q (⟨some t,.slice T x none (some y) none,ty,pos,after,none⟩::rest) ⟨γ,O,df⟩:=by
 obtain⟨e1,e2⟩:=evs hl
 refine Cb (fun d U'=>d=.slice [] .clip/\U'=O) rfl (fun c e=>by cases e) (Ae fun c e=>by cases e) (by simp only[At];exact ak) ?_
  (fun d U' ⟨a2,a3⟩=>by subst a2 a3;exact h)
 intro g w a hs hT
 have hx:=Aq hT x
 have hy:=Aq hT y
 rw[<-e1,h1]at hx
 rw[<-e2,h2]at hy
 have aE:=Bf hy
 have hu:=AJ tabOK hk
 have aV:=hx
 obtain⟨b,cap,h1,h2,h3,h4⟩:=hx
 obtain rfl:cap=0:=h4
 have aF:a.eval x=.slice b 0 0:=h1
 refine⟨g,w,a.eval x,.slice [] .clip,O,?_,.refl g,hs,aV,rfl,rfl⟩
 simp only[execOp,Option.map_some,Option.map_none,aF,aE,Instr.sliceAt,Instr.slice,Instr.sliceBounds,Instr.sliceBound,asIntOf,Sem.run_bind,Sem.run_pure,Result.andThen_ok,run_underlying hu,AD (tabOK e) (Af he)]
 rfl
theorem xappB{T T' e e' sz:Nat}{s x:Operand}{es new:List (List D)}{r:RW}(h:∀r' U',RWAt U' sz r' (es++new)->RWK O r U' r'->(new=[] \/ ∃i c cs,r'=.row i c cs)->DOps prog ro n ops Q rest ⟨(t,r'.d (es.length+new.length))::γ,U',df⟩)(hm:RWAt O sz r es)(h2:JX prog O sz (ev Sr x) new)(bb:∀c∈new,BS c=true)
  (hlen':∀c∈new,c.length=sz)
  (hl:A1 γ (A7 [s,x])=some Sr:=by exact tdR) (hk:(tab T).k=.slice e:=by(simp<;>rfl)) (aX:(tab T').k=.slice e':=by(simp<;>rfl)) (he:A0 (tab e).k=false:=by simp) (hsz:(tab e).size=sz:=by simp)
  (h1:ev Sr s=r.d es.length:=by first|with_unfolding_all rfl|(simp[ev,getD,List.lookup];done))
  (hb:(es.length+new.length)*(tab e).bytes<=140737488355328:=by first|(simp;done)|(simp;omega)) (hm2:es.length+new.length<=9223372036854775807:=by first|(simp;done)|(simp;omega)) (ak:decide (t<n)=true:=by exact tdR) :
  DOps prog ro n ops Q (⟨some t,(cA s x T T'),ty,pos,after,none⟩::rest) ⟨γ,O,df⟩:=by
 obtain⟨e1,e2⟩:=evs hl
 exact ED tabOK (by simpa using ak) hk aX he hsz (by rw[<-e1];exact h1) hm (by rw[<-e2];exact h2) hlen' bb hb hm2 fun r' U' h1 h2 h3=>h r' U' h1 h2 (h3.imp (·.1) id)
theorem isR{x:Operand}{i off len cap T T' e:Nat}(h:DOps prog ro n ops Q rest ⟨(t,.bool false)::γ,O,df⟩)(hl:A1 γ (A7 [x])=some Sr:=by exact tdR)(hx:ev Sr x=.sref i off len cap:=by exact tdR)(hk:(tab T).k=.slice e:=by(simp<;>rfl))(ak:decide (t<n)=true:=by exact tdR):
  DOps prog ro n ops Q (⟨some t,.binOp .eql T x (.const (.slice none 0 0)) T',ty,pos,after,none⟩::rest) ⟨γ,O,df⟩:=by
 refine Cb (fun d U'=>d=.bool false/\U'=O) rfl (fun c e=>by cases e) (Ae fun c e=>by cases e) (by simp only[At];exact ak) ?_
  (fun d U' ⟨a2,a3⟩=>by subst a2 a3;exact h)
 intro g w a hs hT
 have hv:=Aq hT x
 rw[<-Cu hl,hx]at hv
 obtain⟨b,hb,h1⟩:=hv
 have:=run_equal_slice_nil (P:=prog) w T e (some ⟨b,off,none⟩) len cap (AJ tabOK hk)
 refine⟨g,w,.bool false,.bool false,O,?_,.refl g,hs,rfl,rfl,rfl⟩
 have hg:(eqGuard .eql T x (.const (.slice none 0 0)) (a.eval x) (.slice none 0 0)).run prog w=.ok () w:=by rw[h1];rfl
 simp only[execOp,Sem.run_bind,show a.eval (.const (.slice none 0 0))=.slice none 0 0 from rfl,hg,Result.andThen_ok]
 simp only[binOp,Sem.run_bind,h1,this,Result.andThen_ok]
 rfl
end
section
variable {ir:Nat}{p:BProg}{R:Nat->RW}{s:GoS}{O:Sig}
theorem RA(i off cap:Nat)(new:List MVal)(O:Sig)(hn:new.length<=1000000)(aq:JX prog O 2 (.sref i off new.length cap) (new.map cVal)):DCall prog 47 [.sref i off new.length cap] O (rS (.slice (new.map cVal) .no) O):=by
 refine en func47 ntmps47 ?_
 refine gz ?_
 refine isR ?_
 refine gz ?_
 refine xappR (r:=.full []) (es:=[]) (new:=new.map cVal) (fun r' S1 h1 h2=>?_) ⟨rfl,by simp⟩ aq (fun c hc=>by obtain⟨v,_,rfl⟩:=List.mem_map.1 hc;rfl) Bw
 refine frzT 7 h1 (fun S2 h4=>?_)
 have hS:Sub O S2:=fun j o hj=>by
  obtain⟨k1,k2⟩:=h2 j o hj id
  exact h4 j o k1 k2
 refine gz ?_
 exact fin1 (U':=O) ⟨rfl,rfl⟩
theorem Jf(new:List MVal)(o:Own)(O:Sig)(hn:new.length<=1000000):DCall prog 47 [.slice (new.map cVal) o] O fun x U'=> ∃r':RW,x=.ret (r'.d new.length)/\RWAt U' 2 r' (new.map cVal)/\RWK O .nil U' r' /\ ∀es,r'=.full es->es=[]:=by
 refine en func47 ntmps47 ?_
 refine gz ?_
 refine isN (fun b hb=>?_)
 cases b with
 |true=>
  have ah:new=[]:=by simpa using hb rfl
  subst ah
  refine gz ?_
  exact fin1 (U':=O) ⟨.nil,rfl,rfl,RWK.refl _ _,fun es h=>by cases h⟩
 | false =>
  refine gz ?_
  refine xappB (r:=.full []) (es:=[]) (new:=new.map cVal) (fun r' S1 h1 h2 h3=>?_) ⟨rfl,by simp⟩ (I2 rfl Bw) (fun c hc=>by obtain⟨v,_,rfl⟩:=List.mem_map.1 hc;rfl) Bw
  rw[show([]:List (List D)).length+(new.map cVal).length=new.length by simp]
  refine gz ?_
  refine fin1 (U':=S1) ⟨r',rfl,h1,fun j o hj _=>h2 j o hj id,fun es h=>?_⟩
  rcases h3 with h3|⟨i,c,cs,h3⟩
  ·subst h
   have:=h1.1
   rw[h3]at this
   exact this.symm
  ·rw[h3]at h;cases h
theorem Mj(O:Sig):DCall prog 47 [.slice [] .no] O (rS (.slice [] .no) O):=by
 refine en func47 ntmps47 ?_
 refine gz ?_
 refine isN (fun b hb=>?_)
 cases b with
 |true=>
  refine gz ?_
  exact fin1 (U':=O) ⟨rfl,rfl⟩
 | false =>
  refine gz ?_
  refine xappR (sz:=2) (r:=.full []) (es:=[]) (new:=[]) (fun r' S1 h1 h2=>?_) ⟨rfl,by simp⟩ (I2 rfl (by simp)) (by simp) (by simp)
  refine frzT 7 h1 (fun S2 h4=>?_)
  have hS:Sub O S2:=fun j o hj=>by
   obtain⟨k1,k2⟩:=h2 j o hj id
   exact h4 j o k1 k2
  refine gz ?_
  exact fin1 (U':=O) ⟨rfl,rfl⟩
abbrev Jy(p:BProg)(R:Nat->RW)(s:GoS)(d0:D)(k g:Int)(a:D):List D:=[dI k,dI 0,dI 0,dI g,a,dI 0,dI 0,.nils,.nils,(R 3).d s.objs.length,(R 2).d s.evs.length]++Ad p++[dI s.pos,d0,(R 1).d s.env.length]
theorem Te(x:CIns)(r args:List MVal)(k:Nat)(hp:p.wt<=1073741824)(hx:x.a=k)(hk:k<p.gens.length)(hg:p.gens[k]=args.length)(hR:RunS ir p R s O)(hs:s.stk=r++args)(hn:s.stk.length<=1000000):DCall prog 119 [.ptr ir 0,.agg (cIns x)] O fun y U'=>y=.ret (.bool true) /\ ∃R' av,HaltS ir p R' { s with stk:=r } av true ⟨2,vZ,x.a,args,0,s.pos,r,s.env,s.objs,s.evs⟩ U'/\RunK ir R O R' U':=by
 have q1:=hR.obj
 have hl:s.stk.length=r.length+args.length:=by rw[hs];simp
 have q0:RWAt O 2 (R 0) (s.stk.map cVal):=hR.rows.ok 0
 have bf:p.gens.length<=1073741824:=by obtain⟨a1,a2,a3,a4,a5,a6,a7⟩:=p.wt_le;omega
 cases h0:R 0 with
 |nil=>
  rw[h0,hs]at q0
  have q00:(r++args).map cVal=[]:=q0
  simp at q00
  obtain⟨rfl,rfl⟩:=q00
  unfold AO at q1
  rw[h0,hl]at q1
  rw[show RW.nil.d (([]:List MVal).length+([]:List MVal).length)=.nils from rfl]at q1
  refine en func119 ntmps119 ?_
  refine gf (gi q1 (gi hx hg)) ?_ (delO 2 o119)
  have q2:O ir=some (.cells (Jy p R s .nils 0 0 .nils)):=q1
  refine mixI (id:=2) [0,1,2,3,4,5,6,7,8,9,10,11,12,13,14,15,16,17,18,19,20,21,22,23,24] [12,16,20,24] [9] [16,20,24] (fun s=>s=O) rfl ?_
  refine iP _ ?_
  refine iP _ ?_
  refine iP _ ?_
  refine iP _ ?_
  refine iP (dI x.a) ?_
  refine iP _ ?_
  refine iP _ ?_
  refine iP _ ?_
  refine iP _ ?_
  refine iR .nils (fun s hs=>?_) ?_
  ·rw[hs];simp[q1]
  refine iP (dI 0) ?_
  refine iP (.slice [] .no) ?_
  refine iW (fun s=>s=O) (Mj O) (fun d S1 hr=>?_) (fun d S1 hr=>by cases hr.1)
  obtain⟨hd,rfl⟩:=hr
  cases hd
  refine⟨rfl,?_⟩
  refine iP _ ?_
  refine iP _ ?_
  refine iP (.ptr ir 0) ?_
  refine iS (d:=.any) (U':=S1.set ir (.cells (Jy p R s .nils 2 0 .nils))) (fun _=>True) trivial ?_ (he:=by simp[q2])
  refine iP _ ?_
  refine iP _ ?_
  refine iP (.ptr ir 3) ?_
  refine iS (d:=.any) (U':=S1.set ir (.cells (Jy p R s .nils 2 x.a .nils))) (fun _=>True) trivial ?_ (he:=by simp)
  refine iP _ ?_
  refine iP _ ?_
  refine iP (.ptr ir 4) ?_
  refine iS (d:=.any) (U':=S1.set ir (.cells (Jy p R s .nils 2 x.a (.slice [] .no)))) (fun _=>True) trivial ?_ (he:=by simp)
  refine iN ?_
  repeat ((fail_if_success refine cutN ?_);(refine go1 trivial ?_))
  refine cutN ?_
  refine gz ?_ o119
  refine L3 (r0:=.nil) (r1:=R 1) (m:=0) (m':=s.env.length) (w6 ..) ?_
  refine gz ?_ o119
  have ar:s.stk=[]:=hs
  obtain⟨p3,p4⟩:=hR.halt (av:=.slice [] .no) (b:=true) (k:=⟨2,vZ,x.a,[],0,s.pos,[],s.env,s.objs,s.evs⟩) rfl (Ab _) rfl rfl ⟨rfl,ar.symm,rfl⟩
  have es:s={ s with stk:=[] }:=by rw[<-ar]
  rw[<-es]
  refine fin1 (U':=_) ⟨rfl,_,_,p3,p4⟩ (hZ:=?_)
  simp only[w8]
  unfold Ou
  rw[h0,ar]
  exact Sub.refl _
 |full es=>
  obtain rfl:=hR.nf 0 es h0
  rw[h0,hs]at q0
  have q00:(r++args).map cVal=[]:=q0.1
  simp at q00
  obtain⟨rfl,rfl⟩:=q00
  unfold AO at q1
  rw[h0,hl]at q1
  rw[show(RW.full []).d (([]:List MVal).length+([]:List MVal).length)=.slice [] .clip from rfl]at q1
  refine en func119 ntmps119 ?_
  refine gf (gi q1 (gi hx hg)) ?_ (delO 2 o119)
  have q2:O ir=some (.cells (Jy p R s (.slice [] .clip) 0 0 .nils)):=q1
  refine mixI (id:=2) [0,1,2,3,4,5,6,7,8,9,10,11,12,13,14,15,16,17,18,19,20,21,22,23,24] [12,16,20,24] [9] [16,20,24] (fun s=>s=O) rfl ?_
  refine iP _ ?_
  refine iP _ ?_
  refine iP _ ?_
  refine iP _ ?_
  refine iP (dI x.a) ?_
  refine iP _ ?_
  refine iP _ ?_
  refine iP _ ?_
  refine iP _ ?_
  refine iR (.slice [] .clip) (fun s hs=>?_) ?_
  ·rw[hs];simp[q1]
  refine iP (dI 0) ?_
  refine iP (.slice [] .no) ?_
  refine iW (fun s=>s=O) (Mj O) (fun d S1 hr=>?_) (fun d S1 hr=>by cases hr.1)
  obtain⟨hd,rfl⟩:=hr
  cases hd
  refine⟨rfl,?_⟩
  refine iP _ ?_
  refine iP _ ?_
  refine iP (.ptr ir 0) ?_
  refine iS (d:=.any) (U':=S1.set ir (.cells (Jy p R s (.slice [] .clip) 2 0 .nils))) (fun _=>True) trivial ?_ (he:=by simp[q2])
  refine iP _ ?_
  refine iP _ ?_
  refine iP (.ptr ir 3) ?_
  refine iS (d:=.any) (U':=S1.set ir (.cells (Jy p R s (.slice [] .clip) 2 x.a .nils))) (fun _=>True) trivial ?_ (he:=by simp)
  refine iP _ ?_
  refine iP _ ?_
  refine iP (.ptr ir 4) ?_
  refine iS (d:=.any) (U':=S1.set ir (.cells (Jy p R s (.slice [] .clip) 2 x.a (.slice [] .no)))) (fun _=>True) trivial ?_ (he:=by simp)
  refine iN ?_
  repeat ((fail_if_success refine cutF ?_);(refine go1 trivial ?_))
  refine cutF ?_
  refine gz ?_ o119
  refine L3 (r0:=.full []) (r1:=R 1) (m:=0) (m':=s.env.length) (w6 ..) ?_
  refine gz ?_ o119
  have ar:s.stk=[]:=hs
  obtain⟨p3,p4⟩:=hR.halt (av:=.slice [] .no) (b:=true) (k:=⟨2,vZ,x.a,[],0,s.pos,[],s.env,s.objs,s.evs⟩) rfl (Ab _) rfl rfl ⟨rfl,ar.symm,rfl⟩
  have es:s={ s with stk:=[] }:=by rw[<-ar]
  rw[<-es]
  refine fin1 (U':=_) ⟨rfl,_,_,p3,p4⟩ (hZ:=?_)
  simp only[w8]
  unfold Ou
  rw[h0,ar]
  exact Sub.refl _
 | row i c cs =>
  rw[h0,hs]at q0
  unfold AO at q1
  rw[h0,hl]at q1
  simp only[Fj]at q1
  obtain⟨z1,z2,z3,z4⟩:=q0
  simp only[List.length_map,List.length_append]at z3
  refine en func119 ntmps119 ?_
  refine gf (gi q1 (gi hx hg)) ?_ (delO 2 o119)
  refine mixI (id:=2) [0,1,2,3,4,5,6,7,8,9,10,11,12,13,14,15,16,17,18,19,20,21,22,23,24] [11,12,16,20,24] [9] [16,20,24] (fun s=>s=O) rfl ?_
  refine iP _ ?_
  refine iP _ ?_
  refine iP _ ?_
  refine iP _ ?_
  refine iP (dI x.a) ?_
  refine iP _ ?_
  refine iP _ ?_
  refine iP _ ?_
  refine iP _ ?_
  refine iR (.sref i 0 (r.length+args.length) c) (fun s hs=>?_) ?_
  ·rw[hs];simp[q1]
  refine iP (dI r.length) ?_
  refine iCutL (lo:=r.length) (len:=r.length+args.length) (cap:=c) (i:=i) (off:=0) (fun off' ho=>?_) rfl (by omega) z3
  rw[Nat.add_sub_cancel_left]
  have aq:JX prog O 2 (.sref i off' args.length (c-r.length)) (args.map cVal):=by
   have e:args.length=(args.map cVal).length:=by simp
   rcases ho with⟨rfl,rfl⟩|⟨h1,h2⟩
   ·obtain rfl:args=[]:=List.length_eq_zero_iff.1 (by omega)
    exact L6 (pre:=[]) (es:=[]) (rest:=((List.map cVal (r++[])).flatten++cs)) (by simpa using z1) rfl (by simp) (by simp)
   ·rw[e]
    refine L6 (pre:=(r.map cVal).flatten) (rest:=cs) (by rw[z1];simp) (by rw[Ap Bw,List.length_map,h2];simp) Bw (by simp;omega)
  refine iW (fun s=>s=O) (RA i off' (c-r.length) args O (by omega) aq) (fun d S1 hr=>?_) (fun d S1 hr=>by cases hr.1)
  obtain⟨hd,rfl⟩:=hr
  cases hd
  refine⟨rfl,?_⟩
  refine iP _ ?_
  refine iP _ ?_
  refine iP (.ptr ir 0) ?_
  refine iS (d:=.any) (U':=S1.set ir (.cells (Jy p R s (.sref i 0 (r.length+args.length) c) 2 0 .nils))) (fun _=>True) trivial ?_ (he:=by simp[q1])
  refine iP _ ?_
  refine iP _ ?_
  refine iP (.ptr ir 3) ?_
  refine iS (d:=.any) (U':=S1.set ir (.cells (Jy p R s (.sref i 0 (r.length+args.length) c) 2 x.a .nils))) (fun _=>True) trivial ?_ (he:=by simp)
  refine iP _ ?_
  refine iP _ ?_
  refine iP (.ptr ir 4) ?_
  refine iS (d:=.any) (U':=S1.set ir (.cells (Jy p R s (.sref i 0 (r.length+args.length) c) 2 x.a (.slice (args.map cVal) .no)))) (fun _=>True) trivial ?_ (he:=by simp)
  refine iN ?_
  refine gz ?_ o119
  refine cutH (i:=i) (off:=0) (len:=r.length+args.length) (cap:=c) (hi:=r.length) ?_ (by omega)
  refine gz ?_ o119
  refine L3 (r0:=.row i c []) (r1:=R 1) (w6 ..) ?_
  refine gz ?_ o119
  have hr:RWAt S1 2 (.row i c ((args.map cVal).flatten++cs)) (r.map cVal):=⟨by rw[z1];simp,by rw[<-List.append_assoc];simpa using z2,by simp;omega,Bw⟩
  obtain⟨p1,p2⟩:=hR.re (a:=0) (s':={ s with stk:=r }) hr (by rw[h0];exact fun j h=>h) (rCt_0 R _ s _) rfl
  obtain⟨p3,p4⟩:=p1.halt (av:=.slice (args.map cVal) .no) (b:=true) (k:=⟨2,vZ,x.a,args,0,s.pos,r,s.env,s.objs,s.evs⟩) rfl (Ab _) rfl rfl ⟨rfl,rfl,rfl⟩
  refine fin1 (U':=_) ⟨rfl,_,_,p3,p2.trans p4⟩ (hZ:=?_)
  simp only[w8]
  exact Sub.refl _
end
def cTh(x:MThing):List D:=[dI x.cls,sl (x.slots.map cVal)]
@[simp] theorem cTh_mem(x:MThing)(d:D):(d∈cTh x)=(d=dI x.cls\/d=sl (x.slots.map cVal)):=by simp[cTh]
@[simp] theorem cTh_len(x:MThing):(cTh x).length=2:=rfl
@[simp] theorem cTh_tk(x:MThing):List.take 2 (cTh x)=cTh x:=rfl
@[simp] theorem rwd_nil(n:Nat):RW.nil.d n=.nils:=rfl
@[simp] theorem Uv(es:List (List D))(n:Nat):(RW.full es).d n=.slice es .clip:=rfl
def FrV(O:Sig)(r:RW)(l:List MVal)(U':Sig):Prop:=RWAt U' 2 r (l.map cVal)/\RWK O .nil U' r /\ ∀es,r=.full es->es=[]
theorem RR(v:MVal)(O:Sig):DCall prog 339 [.agg (cVal v)] O (rS (.agg (cVal v)) O):=by
 refine en func339 ntmps339 ?_
 refine gz ?_ [] [2]
 refine newV (fun i2 aB=>?_)
 refine gz ?_ [] [2]
 exact finC (U':=O) ⟨rfl,rfl⟩
@[reducible,instance] def a339:=fun v O=>ah0 (@RR v O)
theorem RJ(i n c:Nat)(O:Sig)(hn:n<=c)(hb:n<=1000000):DCall prog 367 [.sref i 0 n c] O (rS (.sref i 0 n n) O):=by
 refine en func367 ntmps367 ?_
 refine gz ?_
 refine KI tabOK (off:=0) (m:=n) (cap:=c) ?_ (by decide) (by simp<;>rfl) (by simp) rfl rfl rfl (Nat.le_refl _) hn
 refine gz ?_
 exact fin1 (U':=O) ⟨rfl,rfl⟩
@[reducible,instance] def a367:=fun i n c O=>ah2 (@RJ i n c O)
theorem Pv(O:Sig):DCall prog 367 [.nils] O (rS (.slice [] .clip) O):=by
 refine en func367 ntmps367 ?_
 refine gz ?_
 exact fin1 (U':=O) ⟨rfl,rfl⟩
@[reducible,instance] def a367n:=fun O=>ah0 (@Pv O)
theorem RS(l:List MVal)(o:Own)(O:Sig)(hl:l.length<=1000000):DCall prog 338 [.slice (l.map cVal) o,.func (.func 339) [] []] O fun x U'=> ∃r,x=.ret (r.d l.length)/\FrV O r l U':=by
 refine en func338 ntmps338 ?_
 refine gz ?_
 refine Gb [1,4,8,9,21,22] (fun (k:Nat) (r:RW) (S2:Sig)=>k<=l.length/\RWAt S2 2 r ((l.take k).map cVal)/\RWK O .nil S2 r/\(k=0/\r=.nil \/ ∃i c cs,r=.row i c cs)) (fun k r _=>[(10,dI k),(5,r.d k)]) (fun _ _ S2=>S2) (fun k _ _=>l.length-k) (0) (.nil) (O) (by exact⟨Nat.zero_le _,rfl,RWK.refl _ _,.inl ⟨rfl,rfl⟩⟩) (fun k r S2 hI=>?_)
 obtain⟨aR,hR,hK,hF⟩:=hI
 by_cases hk:k<l.length
 ·have aa:((l.take k).map cVal).length=k:=by simp;omega
  refine gz ?_
  refine xapp (new:=[cVal l[k]]) (fun i c cs S3 ap aw=>?_) hR (h1:=by rw[aa];with_unfolding_all rfl) (hb:=by rw[aa];simp;omega) (hm2:=by rw[aa];simp;omega)
  rw[show(l.take k).map cVal++[cVal l[k]]=(l.take (k+1)).map cVal by rw[List.take_succ_eq_append_getElem hk,List.map_append];rfl]at ap
  rw[show((l.take k).map cVal).length+[cVal l[k]].length=k+1 by simp;omega]
  refine gz ?_
  exact⟨k+1,.row i c cs,S3,⟨by omega,ap,hK.trans aw,.inr ⟨_,_,_,rfl⟩⟩,td1,wkR⟩
 ·obtain rfl:k=l.length:=by omega
  rw[List.take_length]at hR
  rcases hF with⟨h0,rfl⟩|⟨i,c,cs,rfl⟩
  ·have ah:l=[]:=List.length_eq_zero_iff.1 h0
   subst ah
   refine gz ?_
   exact fin1 (U':=S2) ⟨.full [],rfl,⟨rfl,by simp⟩,hK,fun es h=>by cases h;rfl⟩
  ·have hc:=hR.2.2.1
   rw[List.length_map]at hc
   refine gz ?_
   refine fin1 (U':=S2) ⟨.row i l.length cs,rfl,⟨hR.1,?_,by simp,Bw⟩,hK,fun es h=>by cases h⟩
   rw[List.length_append,Ap Bw,List.length_map];omega
theorem Mo(l:List MVal)(o:Own)(O:Sig)(hl:l.length<=1000000):DCall prog 293 [.slice (l.map cVal) o] O fun x U'=> ∃r,x=.ret (r.d l.length)/\FrV O r l U':=by
 refine en func293 ntmps293 ?_
 refine gz ?_
 refine A4 (RS l o O hl) (fun d S1 hr=>?_) (fun d S1 hr=>by obtain⟨_,h,_⟩:=hr;cases h)
 obtain⟨r,hd,hF⟩:=hr
 cases hd
 refine gz ?_
 exact fin1 (U':=S1) ⟨r,rfl,hF⟩
theorem Un{ir:Nat}{O:Sig}{ds:List D}{r1:RW}{a:Int}{m k:Nat}(h:O ir=some (.cells ds))(hl:k+2<=ds.length):En tab O 131 (.ptr ir k) (.agg [dI a,r1.d m])=some (.any,O.set ir (.cells (ds.take k++[dI a,r1.d m]++ds.drop (k+2)))):=by
 have hf:¬ds.length<k+2:=by omega
 cases r1<;>simp[En,h,RW.d,hf]
theorem Sf(x:MThing)(O:Sig)(hl:x.slots.length<=1000000):DCall prog 295 [.agg (cTh x)] O fun y U'=> ∃r,y=.ret (.agg [dI x.cls,r.d x.slots.length])/\FrV O r x.slots U':=by
 refine en func295 ntmps295 ?_
 refine gz ?_ o295 [2]
 refine newV (fun i2 aB=>?_)
 refine gz ?_ [] [2]
 refine Fx (id:=1) [0,1,2,3,4,5,6] [4,6] O ((Sub.refl _).set aB) ?_
 refine gz ?_ o295 [2]
 refine Bd (Mo x.slots .no _ hl) (fun d S1 hr=>?_) (fun d S1 hr=>by obtain⟨_,h,_⟩:=hr;cases h)
 obtain⟨r,hd,h1,h2,h3⟩:=hr
 have aK:=(h2 i2 _ (w6 ..) id).1
 have aZ:=(h2 i2 _ (w6 ..) id).2
 have hS:Sub O S1:=fun j o hj=>(h2 j o (by rw[w7 _ _ fun e=>by rw[e,aB]at hj;cases hj];exact hj) id).1
 have hF:∀ds,FrV O r x.slots (S1.set i2 (.cells ds)):=fun ds=>⟨h1.keep fun j o hj au=>by rw[w7 _ _ fun e=>aZ (by rw[<-e];exact au)];exact hj,fun j o hj _=>by
  have hne:j≠i2:=fun e=>by rw[e,aB]at hj;cases hj
  have:=h2 j o (by rw[w7 _ _ hne];exact hj) id
  exact⟨by rw[w7 _ _ hne];exact this.1,this.2⟩,h3⟩
 have aN:∀ds,Sub O (S1.set i2 (.cells ds)):=fun ds j o hj=>by rw[w7 _ _ fun e=>by rw[e,aB]at hj;cases hj];exact hS j o hj
 cases hd
 refine⟨hS,?_⟩
 rcases r with _|es|⟨i,c,cs⟩
 ·have aO:Sub O (S1.set i2 (.cells [dI x.cls,.nils])):=aN _
  refine gf aK ?_ o295 [2]
  exact finC (U':=S1.set i2 (.cells [dI x.cls,.nils])) ⟨.nil,rfl,hF _⟩
 ·have aO:Sub O (S1.set i2 (.cells [dI x.cls,.slice es .clip])):=aN _
  refine gf aK ?_ o295 [2]
  exact finC (U':=S1.set i2 (.cells [dI x.cls,.slice es .clip])) ⟨.full es,rfl,hF _⟩
 ·have aO:Sub O (S1.set i2 (.cells [dI x.cls,.sref i 0 x.slots.length c])):=aN _
  refine gf aK ?_ o295 [2]
  exact finC (U':=S1.set i2 (.cells [dI x.cls,.sref i 0 x.slots.length c])) ⟨.row i c cs,rfl,hF _⟩
structure ThS(R:Nat->RW)(l:List MThing)(S0 O:Sig):Prop where
 rows:Rows O R rSz (rCt R ⟨l,[],0,[],[]⟩)
 lo:∀a,a<3->R a=.nil
 nf:∀a es,R a=.full es->es=[]
 keep:∀j o,S0 j=some o->O j=some o /\ ∀a, ¬(R a).is j
theorem ThS.nil(O:Sig):ThS (fun _=>.nil) [] O O:=
 ⟨⟨fun a=>by
  match a with
  |0=>rfl
  |1=>rfl
  |2=>rfl
  |3=>rfl
  |k+4=>rfl,fun _ _ _ h=>h.elim⟩,fun _ _=>rfl,(fun _ _ h=>by cases h),fun _ _ h=>⟨h,fun _ h=>h⟩⟩
theorem ThS.row3{R:Nat->RW}{l:List MThing}{S0 O:Sig}(h:ThS R l S0 O):RWAt O 2 (R 3) (tCells (fun k=>R (k+4)) l):=h.rows.ok 3
theorem K5(S S':Nat->RW)(l:List MThing)(x:MThing)(h:∀k,k<l.length->S' k=S k):tCells S' (l++[x])=tCells S l++[[dI x.cls,(S' l.length).d x.slots.length]]:=by
 refine List.ext_getElem? fun k=>?_
 by_cases hk:k<l.length
 ·rw[BM _ _ k (by simp;omega),List.getElem?_append_left (by rw[A6];exact hk),BM _ _ k hk,List.getElem_append_left hk,h k hk]
 ·by_cases e:k=l.length
  ·subst e
   rw[BM _ _ _ (by simp),List.getElem?_append_right (by rw[A6];omega),A6,Nat.sub_self]
   simp
  ·rw[List.getElem?_eq_none (by rw[A6];simp;omega),List.getElem?_eq_none (by simp[A6];omega)]
theorem ThS.add{R:Nat->RW}{l:List MThing}{S0 O S1 S2:Sig}(h:ThS R l S0 O){x:MThing}{r:RW}(hF:FrV O r x.slots S1){i c:Nat}{cs:List D}(hr:RWAt S2 2 (.row i c cs) (tCells (fun k=>R (k+4)) l++[[dI x.cls,r.d x.slots.length]]))(hk:RWK S1 (R 3) S2 (.row i c cs)):
  ThS (updF (updF R (l.length+4) r) 3 (.row i c cs)) (l++[x]) S0 S2:=by
 obtain⟨f1,f2,f3⟩:=hF
 have e2:rSz (l.length+4)=2:=by unfold rSz;rw[if_neg (by omega)]
 have u1:=h.rows.upd (a:=l.length+4) (r':=r) (by rw[e2];exact f1) (fun j o hj _=>f2 j o hj id)
 have u2:=u1.upd (a:=3) (r':=.row i c cs) hr (by rw[A8 _ _ (by omega)];exact hk)
 refine⟨u2.retell fun a=>?_,fun a ha=>?_,fun a es he=>?_,fun j o hj=>?_⟩
 ·match a with
  |0=>rw[A8 _ _ (by omega),A8 _ _ (by omega)];rfl
  |1=>rw[A8 _ _ (by omega),A8 _ _ (by omega)];rfl
  |2=>rw[A8 _ _ (by omega),A8 _ _ (by omega)];rfl
  |3=>
   rw[Aj]
   show tCells (fun k=>updF (updF R (l.length+4) r) 3 (.row i c cs) (k+4)) (l++[x])=_
   rw[K5 (fun k=>R (k+4)) _ l x fun k hk=>by rw[A8 _ _ (by omega),A8 _ _ (by omega)]]
   simp only[A8 (updF R (l.length+4) r) (RW.row i c cs) (show l.length+4≠3 by omega),Aj]
  | k+4 =>
   rw[A8 _ _ (by omega)]
   show(((l++[x])[k]?).getD ⟨0,[]⟩).slots.map cVal=_
   by_cases e:k=l.length
   ·subst e;rw[Aj];simp
   ·rw[A8 _ _ (by omega)]
    show _=((l[k]?).getD ⟨0,[]⟩).slots.map cVal
    by_cases hk:k<l.length
    ·rw[List.getElem?_append_left hk]
    ·rw[List.getElem?_eq_none (by simp;omega),List.getElem?_eq_none (by omega)]
 ·rw[A8 _ _ (by omega),A8 _ _ (by omega)];exact h.lo a ha
 ·by_cases e3:a=3
  ·subst e3;rw[Aj]at he;cases he
  ·rw[A8 _ _ e3]at he
   by_cases e4:a=l.length+4
   ·subst e4;rw[Aj]at he;exact f3 es he
   ·rw[A8 _ _ e4]at he;exact h.nf a es he
 ·obtain⟨k1,k2⟩:=h.keep j o hj
  obtain⟨k3,k4⟩:=f2 j o k1 id
  obtain⟨k5,k6⟩:=hk j o k3 (k2 3)
  refine⟨k5,fun a ha=>?_⟩
  by_cases e3:a=3
  ·subst e3;rw[Aj]at ha;exact k6 ha
  ·rw[A8 _ _ e3]at ha
   by_cases e4:a=l.length+4
   ·subst e4;rw[Aj]at ha;exact k4 ha
   ·rw[A8 _ _ e4]at ha;exact k2 a ha
theorem ThS.re{R:Nat->RW}{l:List MThing}{S0 O:Sig}(h:ThS R l S0 O){r':RW}(hr:RWAt O 2 r' (tCells (fun k=>R (k+4)) l))(hi:∀j,r'.is j->(R 3).is j)(hf:∀es,r'=.full es->es=[]):ThS (updF R 3 r') l S0 O:=by
 have u:=h.rows.re (a:=3) (r':=r') hr hi
 refine⟨u.retell fun a=>?_,fun a ha=>by rw[A8 _ _ (by omega)];exact h.lo a ha,fun a es he=>?_,fun j o hj=>⟨(h.keep j o hj).1,fun a ha=>?_⟩⟩
 ·match a with
  |0=>rw[A8 _ _ (by omega)];rfl
  |1=>rw[A8 _ _ (by omega)];rfl
  |2=>rw[A8 _ _ (by omega)];rfl
  |3=>
   rw[Aj]
   show tCells (fun k=>updF R 3 r' (k+4)) l=_
   rw[FO R 3 r' (by omega)]
  |k+4=>rw[A8 _ _ (by omega)];rfl
 ·by_cases e3:a=3
  ·subst e3;rw[Aj]at he;exact hf es he
  ·rw[A8 _ _ e3]at he;exact h.nf a es he
 ·by_cases e3:a=3
  ·subst e3;rw[Aj]at ha;exact(h.keep j o hj).2 3 (hi j ha)
  ·rw[A8 _ _ e3]at ha;exact(h.keep j o hj).2 a ha
theorem RQ(i n c:Nat)(O:Sig)(hn:n<=c)(hb:n<=1000000):DCall prog 340 [.sref i 0 n c] O (rS (.sref i 0 n n) O):=by
 refine en func340 ntmps340 ?_
 refine gz ?_
 refine KI tabOK (off:=0) (m:=n) (cap:=c) ?_ (by decide) (by simp<;>rfl) (by simp) rfl rfl rfl (Nat.le_refl _) hn
 refine gz ?_
 exact fin1 (U':=O) ⟨rfl,rfl⟩
@[reducible,instance] def a340:=fun i n c O=>ah2 (@RQ i n c O)
theorem Pz(O:Sig):DCall prog 340 [.nils] O (rS (.slice [] .clip) O):=by
 refine en func340 ntmps340 ?_
 refine gz ?_
 exact fin1 (U':=O) ⟨rfl,rfl⟩
@[reducible,instance] def a340n:=fun O=>ah0 (@Pz O)
theorem Sg(l:List MThing)(o:Own)(O:Sig)(hl:l.length<=1000000)(hs:∀x∈l,x.slots.length<=1000000):DCall prog 294 [.slice (l.map cTh) o,.func (.func 295) [] []] O fun x U'=> ∃R,x=.ret ((R 3).d l.length)/\ThS R l O U':=by
 refine en func294 ntmps294 ?_
 refine gz ?_
 refine Gb [1,4,8,9,21,22] (fun (k:Nat) (R:Nat->RW) (S2:Sig)=>k<=l.length/\ThS R (l.take k) O S2/\(k=0/\R 3=.nil \/ ∃i c cs,R 3=.row i c cs)) (fun k R _=>[(10,dI k),(5,(R 3).d k)]) (fun _ _ S2=>S2) (fun k _ _=>l.length-k) (0) (fun _=>.nil) (O) (by exact⟨Nat.zero_le _,ThS.nil O,.inl ⟨rfl,rfl⟩⟩) (fun k R S2 hI=>?_)
 obtain⟨aR,hT,aU⟩:=hI
 by_cases hk:k<l.length
 ·refine gz ?_
  refine A4 (Sf l[k] S2 (hs _ (List.getElem_mem hk))) (fun d S3 hr=>?_) (fun d S3 hr=>by obtain⟨_,h,_⟩:=hr;cases h)
  obtain⟨r,hd,hF⟩:=hr
  cases hd
  rcases r with _|es|⟨j,c',cs'⟩
  ·refine gz ?_
   have aa:(tCells (fun k=>R (k+4)) (l.take k)).length=k:=by rw[A6];simp;omega
   refine xapp (new:=[[dI (l[k]).cls,D.nils]]) (es:=tCells (fun k=>R (k+4)) (l.take k)) (fun i c cs S4 ai aj=>?_) (hT.row3.keep fun j o hj au=>(hF.2.1 j o hj id).1) (h1:=by rw[aa];with_unfolding_all rfl) (hb:=by rw[aa];simp;omega) (hm2:=by rw[aa];simp;omega)
   have ae:=hT.add hF ai aj
   rw[<-List.take_succ_eq_append_getElem hk]at ae
   rw[show(tCells (fun k=>R (k+4)) (l.take k)).length+[[dI (l[k]).cls,D.nils]].length=k+1 by rw[aa];rfl]
   refine gz ?_
   exact⟨k+1,updF (updF R ((l.take k).length+4) .nil) 3 (.row i c cs),S4,⟨by omega,ae,.inr ⟨_,_,_,Aj ..⟩⟩,td1,wkR⟩
  ·refine gz ?_
   have aa:(tCells (fun k=>R (k+4)) (l.take k)).length=k:=by rw[A6];simp;omega
   refine xapp (new:=[[dI (l[k]).cls,D.slice es .clip]]) (es:=tCells (fun k=>R (k+4)) (l.take k)) (fun i c cs S4 ai aj=>?_) (hT.row3.keep fun j o hj au=>(hF.2.1 j o hj id).1) (h1:=by rw[aa];with_unfolding_all rfl) (hb:=by rw[aa];simp;omega) (hm2:=by rw[aa];simp;omega)
   have ae:=hT.add hF ai aj
   rw[<-List.take_succ_eq_append_getElem hk]at ae
   rw[show(tCells (fun k=>R (k+4)) (l.take k)).length+[[dI (l[k]).cls,D.slice es .clip]].length=k+1 by rw[aa];rfl]
   refine gz ?_
   exact⟨k+1,updF (updF R ((l.take k).length+4) (.full es)) 3 (.row i c cs),S4,⟨by omega,ae,.inr ⟨_,_,_,Aj ..⟩⟩,td1,wkR⟩
  ·refine gz ?_
   have aa:(tCells (fun k=>R (k+4)) (l.take k)).length=k:=by rw[A6];simp;omega
   refine xapp (new:=[[dI (l[k]).cls,D.sref j 0 (l[k]).slots.length c']]) (es:=tCells (fun k=>R (k+4)) (l.take k)) (fun i c cs S4 ai aj=>?_) (hT.row3.keep fun j o hj au=>(hF.2.1 j o hj id).1) (h1:=by rw[aa];with_unfolding_all rfl) (hb:=by rw[aa];simp;omega) (hm2:=by rw[aa];simp;omega)
   have ae:=hT.add hF ai aj
   rw[<-List.take_succ_eq_append_getElem hk]at ae
   rw[show(tCells (fun k=>R (k+4)) (l.take k)).length+[[dI (l[k]).cls,D.sref j 0 (l[k]).slots.length c']].length=k+1 by rw[aa];rfl]
   refine gz ?_
   exact⟨k+1,updF (updF R ((l.take k).length+4) (.row j c' cs')) 3 (.row i c cs),S4,⟨by omega,ae,.inr ⟨_,_,_,Aj ..⟩⟩,td1,wkR⟩
 ·obtain rfl:k=l.length:=by omega
  rw[List.take_length]at hT
  rcases aU with⟨h0,h3⟩|⟨i,c,cs,h3⟩
  ·have ah:l=[]:=List.length_eq_zero_iff.1 h0
   subst ah
   rw[h3]
   refine gz ?_
   refine fin1 (U':=S2) ⟨updF R 3 (.full []),by rw[Aj,Uv],hT.re ⟨rfl,fun e he=>by cases he⟩ (fun _ h=>h.elim) (fun es h=>by cases h;rfl)⟩
  ·have q:=hT.row3
   rw[h3]at q
   have hc:=q.2.2.1
   rw[A6]at hc
   rw[h3]
   refine gz ?_
   refine fin1 (U':=S2) ⟨updF R 3 (.row i l.length cs),by rw[Aj,Fj],hT.re ⟨q.1,?_,by rw[A6];exact Nat.le_refl _,D8⟩ (fun j hj=>by rw[h3];exact hj) (fun es h=>by cases h)⟩
   rw[List.length_append,Ap D8,A6];omega
theorem Sy(l:List MThing)(o:Own)(O:Sig)(hl:l.length<=1000000)(hs:∀x∈l,x.slots.length<=1000000):DCall prog 245 [.slice (l.map cTh) o] O fun x U'=> ∃R,x=.ret ((R 3).d l.length)/\ThS R l O U':=by
 refine en func245 ntmps245 ?_
 refine gz ?_
 refine A4 (Sg l o O hl hs) (fun d S1 hr=>?_) (fun d S1 hr=>by obtain⟨_,h,_⟩:=hr;cases h)
 obtain⟨r,hd,hF⟩:=hr
 cases hd
 refine gz ?_
 exact fin1 (U':=S1) ⟨r,rfl,hF⟩
theorem Vo(l:List MThing)(o:Own)(O:Sig)(hl:l.length<=1000000)(hs:∀x∈l,x.slots.length<=1000000):DCall prog 48 [.slice (l.map cTh) o] O fun x U'=> ∃R,x=.ret ((R 3).d l.length)/\ThS R l O U':=by
 refine en func48 ntmps48 ?_
 refine gz ?_ o48
 refine Gb [2,6,7,22] (fun (k:Nat) (R:Nat->RW) (S2:Sig)=>k<=l.length/\ThS R (l.take k) O S2/\(k=0/\R 3=.nil \/ ∃i c cs,R 3=.row i c cs)) (fun k R _=>[(8,dI k),(3,(R 3).d k)]) (fun _ _ S2=>S2) (fun k _ _=>l.length-k) (0) (fun _=>.nil) (O) (by exact⟨Nat.zero_le _,ThS.nil O,.inl ⟨rfl,rfl⟩⟩) (fun k R S2 hI=>?_)
 obtain⟨aR,hT,aU⟩:=hI
 by_cases hk:k<l.length
 ·refine gz ?_
  refine Fx (id:=5) [0,1,2,3,4,5,6,7,8,9] [5,8] (fun _=>none) (fun _ _ h=>by cases h) ?_
  refine gz ?_ o48
  refine Bd (Jf (l[k]).slots .no S2 (hs _ (List.getElem_mem hk))) (fun d S3 hr=>?_) (fun d S3 hr=>by obtain⟨_,h,_⟩:=hr;cases h)
  obtain⟨r,hd,hF⟩:=hr
  replace hF:FrV S2 r (l[k]).slots S3:=hF
  cases hd
  refine⟨(fun _ _ h=>by cases h),?_⟩
  rcases r with _|es|⟨j,c',cs'⟩
  ·refine gz ?_ o48
   have aa:(tCells (fun k=>R (k+4)) (l.take k)).length=k:=by rw[A6];simp;omega
   refine GZ (new:=[[dI (l[k]).cls,D.nils]]) (es:=tCells (fun k=>R (k+4)) (l.take k)) (fun i c cs S4 ai aj=>?_) (fun j o h=>by cases h) (hm:=hT.row3.keep fun j o hj au=>(hF.2.1 j o hj id).1) (h1:=by rw[aa];with_unfolding_all rfl) (hb:=by rw[aa];simp;omega) (hm2:=by rw[aa];simp;omega)
   have ae:=hT.add hF ai aj
   rw[<-List.take_succ_eq_append_getElem hk]at ae
   rw[show(tCells (fun k=>R (k+4)) (l.take k)).length+[[dI (l[k]).cls,D.nils]].length=k+1 by rw[aa];rfl]
   refine gz ?_ o48
   exact⟨k+1,updF (updF R ((l.take k).length+4) .nil) 3 (.row i c cs),S4,⟨by omega,ae,.inr ⟨_,_,_,Aj ..⟩⟩,td1,wkR⟩
  ·refine gz ?_ o48
   have aa:(tCells (fun k=>R (k+4)) (l.take k)).length=k:=by rw[A6];simp;omega
   refine GZ (new:=[[dI (l[k]).cls,D.slice es .clip]]) (es:=tCells (fun k=>R (k+4)) (l.take k)) (fun i c cs S4 ai aj=>?_) (fun j o h=>by cases h) (hm:=hT.row3.keep fun j o hj au=>(hF.2.1 j o hj id).1) (h1:=by rw[aa];with_unfolding_all rfl) (hb:=by rw[aa];simp;omega) (hm2:=by rw[aa];simp;omega)
   have ae:=hT.add hF ai aj
   rw[<-List.take_succ_eq_append_getElem hk]at ae
   rw[show(tCells (fun k=>R (k+4)) (l.take k)).length+[[dI (l[k]).cls,D.slice es .clip]].length=k+1 by rw[aa];rfl]
   refine gz ?_ o48
   exact⟨k+1,updF (updF R ((l.take k).length+4) (.full es)) 3 (.row i c cs),S4,⟨by omega,ae,.inr ⟨_,_,_,Aj ..⟩⟩,td1,wkR⟩
  ·refine gz ?_ o48
   have aa:(tCells (fun k=>R (k+4)) (l.take k)).length=k:=by rw[A6];simp;omega
   refine GZ (new:=[[dI (l[k]).cls,D.sref j 0 (l[k]).slots.length c']]) (es:=tCells (fun k=>R (k+4)) (l.take k)) (fun i c cs S4 ai aj=>?_) (fun j o h=>by cases h) (hm:=hT.row3.keep fun j o hj au=>(hF.2.1 j o hj id).1) (h1:=by rw[aa];with_unfolding_all rfl) (hb:=by rw[aa];simp;omega) (hm2:=by rw[aa];simp;omega)
   have ae:=hT.add hF ai aj
   rw[<-List.take_succ_eq_append_getElem hk]at ae
   rw[show(tCells (fun k=>R (k+4)) (l.take k)).length+[[dI (l[k]).cls,D.sref j 0 (l[k]).slots.length c']].length=k+1 by rw[aa];rfl]
   refine gz ?_ o48
   exact⟨k+1,updF (updF R ((l.take k).length+4) (.row j c' cs')) 3 (.row i c cs),S4,⟨by omega,ae,.inr ⟨_,_,_,Aj ..⟩⟩,td1,wkR⟩
 ·obtain rfl:k=l.length:=by omega
  rw[List.take_length]at hT
  refine gz ?_ o48
  exact fin1 (U':=S2) ⟨R,rfl,hT⟩
end Go.DL
