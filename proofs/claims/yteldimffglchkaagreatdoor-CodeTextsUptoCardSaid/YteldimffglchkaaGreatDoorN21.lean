/- A part of the proof. -/
import Derived.Test.YteldimffglchkaaGreatDoorN20
import Derived.Test.YteldimffglchkaaGreatDoorN16
set_option linter.all false
namespace Go.DL
open Go.Proofs.Tryz
open Go Go.Proofs
set_option maxHeartbeats 8000000
theorem Uv(es:List (List D))(h2:∀c∈es,c.length=2)(k:Nat)(hk:k<es.length)(e:List D)(cs:List D):List.take (k*2) (es.flatten++cs)++e++List.drop (k*2+2) (es.flatten++cs)=(es.set k e).flatten++cs:=by
 have e0:es=es.take k++es[k]::es.drop (k+1):=by rw[<-Ab hk,List.take_append_drop]
 have h:(es.take k).flatten.length=k*2:=by rw[Aw fun c hc=>h2 c (List.mem_of_mem_take hc),List.length_take_of_le (by omega)]
 have hl:(es[k]).length=2:=h2 _ (List.getElem_mem hk)
 have hs:es.set k e=es.take k++e::es.drop (k+1):=by rw[List.set_eq_take_append_cons_drop,if_pos hk]
 have e2:es.flatten++cs=(es.take k).flatten++(es[k]++((es.drop (k+1)).flatten++cs)):=by
  calc _=(es.take k++es[k]::es.drop (k+1)).flatten++cs:=by rw[<-e0]
   _=_:=by rw[List.flatten_append,List.flatten_cons];simp only[List.append_assoc]
 have e3:(es.set k e).flatten++cs=(es.take k).flatten++(e++((es.drop (k+1)).flatten++cs)):=by
  rw[hs,List.flatten_append,List.flatten_cons];simp only[List.append_assoc]
 rw[e2,e3,<-h,List.take_left,<-List.drop_drop,List.drop_left,List.append_assoc,<-hl,List.drop_left]
theorem MY(S S':Nat->RW)(l:List MThing)(m:Nat)(hm:m<l.length)(x:MThing)(h:∀k,k≠m->S' k=S k):tCells S' (l.set m x)=(tCells S l).set m [dI x.cls,(S' m).d x.slots.length]:=by
 refine List.ext_getElem? fun k=>?_
 by_cases hk:k<l.length
 ·rw[Bz S' (l.set m x) k (by simpa using hk)]
  by_cases e:k=m
  ·subst e;rw[List.getElem_set_self,List.getElem?_set_self (by rw[A3];exact hk)]
  ·rw[List.getElem_set_ne (fun h=>e h.symm),List.getElem?_set_ne (fun h=>e h.symm),Bz S l k hk,h k e]
 ·rw[List.getElem?_eq_none (by rw[A3];simp;omega),List.getElem?_eq_none (by simp[A3];omega)]
theorem ThS.row{R:Nat->RW}{l:List MThing}{S0 O:Sig}(h:ThS R l S0 O)(hl:0<l.length): ∃i c cs,R 3=.row i c cs:=by
 have hk:=h.row3
 cases hR:R 3 with
 |nil=>rw[hR]at hk;have:=congrArg List.length (show tCells (fun k=>R (k+4)) l=[] from hk);rw[A3]at this;simp at this;rw[this]at hl;simp at hl
 |full es=>rw[hR]at hk;have:=congrArg List.length hk.1;rw[A3,h.nf 3 es hR]at this;simp at this;rw[this]at hl;simp at hl
 |row i c cs=>exact⟨i,c,cs,rfl⟩
theorem ThS.turn{R:Nat->RW}{l:List MThing}{S0 O S3:Sig}(h:ThS R l S0 O){m:Nat}(hm:m<l.length){x:MThing}{r:RW}(hF:FrV O r x.slots S3){i c:Nat}{cs:List D}(hi:R 3=.row i c cs){L:List D}(hL:L=(tCells (fun k=>R (k+4)) l).flatten++cs):
  ThS (updF R (m+4) r) (l.set m x) S0 (S3.set i (.cells (L.take (m*2)++[dI x.cls,r.d x.slots.length]++L.drop (m*2+2)))):=by
 obtain⟨f1,f2,f3⟩:=hF
 have e2:rSz (m+4)=2:=by unfold rSz;rw[if_neg (by omega)]
 have u1:=h.rows.upd (a:=m+4) (r':=r) (by rw[e2];exact f1) (fun j o hj _=>f2 j o hj id)
 have h3:updF R (m+4) r 3=.row i c cs:=by rw[A6 _ _ (by omega),hi]
 have aw:(updF R (m+4) r 3).is i:=by rw[h3];rfl
 have q3:=h.row3
 rw[hi]at q3
 obtain⟨z1,z2,z3,z4⟩:=q3
 have ht:tCells (fun k=>updF R (m+4) r (k+4)) (l.set m x)=(tCells (fun k=>R (k+4)) l).set m [dI x.cls,r.d x.slots.length]:=by
  rw[MY (fun k=>R (k+4)) _ l m hm x fun k hk=>A6 _ _ (by omega)]
  simp only[Ak]
 have aZ:=Uv (tCells (fun k=>R (k+4)) l) CP m (by rw[A3];exact hm) [dI x.cls,r.d x.slots.length] cs
 subst hL
 rw[aZ]
 have aB:(((tCells (fun k=>R (k+4)) l).set m [dI x.cls,r.d x.slots.length]).flatten++cs).length=((tCells (fun k=>R (k+4)) l).flatten++cs).length:=by
  rw[<-ht,List.length_append,List.length_append,Aw CP,Aw CP,A3,A3,List.length_set]
 refine⟨⟨fun a=>?_,u1.dj⟩,fun a ha=>by rw[A6 _ _ (by omega)];exact h.lo a ha,fun a es he=>?_,fun j o hj=>?_⟩
 ·by_cases ea:a=3
  ·subst ea
   rw[h3]
   show RWAt _ 2 _ (tCells (fun k=>updF R (m+4) r (k+4)) (l.set m x))
   refine⟨by rw[w6,ht],by rw[ht,aB];exact z2,by rw[A3,List.length_set];rw[A3]at z3;exact z3,CP⟩
  ·have e:rCt (updF R (m+4) r) ⟨l.set m x,[],0,[],[]⟩ a=updF (rCt R ⟨l,[],0,[],[]⟩) (m+4) (x.slots.map cVal) a:=by
    match a with
    |0=>rw[A6 _ _ (by omega)];rfl
    |1=>rw[A6 _ _ (by omega)];rfl
    |2=>rw[A6 _ _ (by omega)];rfl
    |3=>exact absurd rfl ea
    |k+4=>
     show(((l.set m x)[k]?).getD ⟨0,[]⟩).slots.map cVal=_
     by_cases ek:k=m
     ·subst ek;rw[Ak,List.getElem?_set_self hm];rfl
     ·rw[A6 _ _ (by omega),List.getElem?_set_ne (fun h=>ek h.symm)];rfl
   rw[e]
   exact(u1.ok a).keep fun j o hj ai=>by rw[w7 _ _ fun e2=>ea (u1.dj a 3 j ai (by rw[e2];exact aw))];exact hj
 ·by_cases e4:a=m+4
  ·subst e4;rw[Ak]at he;exact f3 es he
  ·rw[A6 _ _ e4]at he;exact h.nf a es he
 ·obtain⟨k1,k2⟩:=h.keep j o hj
  obtain⟨k3,k4⟩:=f2 j o k1 id
  refine⟨by rw[w7 _ _ fun e=>k2 3 (by rw[hi,e];rfl)];exact k3,fun a ha=>?_⟩
  by_cases e4:a=m+4
  ·subst e4;rw[Ak]at ha;exact k4 ha
  ·rw[A6 _ _ e4]at ha;exact k2 a ha
theorem storeTh{ir:Nat}{O:Sig}{ro:Ro}{n:Nat}{ops:Array Oper}{Q:DX->St->Prop}{df:List DDf}{rest:List Oper}{γ Sr:Fr}{ty:TypeId}{pos:String}{after:Array Edge}{x y:Operand}{ds:List D}{r1:RW}{a:Int}{m k:Nat}(hc:O ir=some (.cells ds))(h:DOps prog ro n ops Q rest ⟨γ,O.set ir (.cells (ds.take k++[dI a,r1.d m]++ds.drop (k+2))),df⟩)
  (hl:A0 γ (A5 [x,y])=some Sr:=by exact tdR) (h1:ev Sr x=.ptr ir k:=by exact tdR) (h2:ev Sr y=.agg [dI a,r1.d m]:=by exact tdR) (hlen:k+2<=ds.length:=by simp) :
  DOps prog ro n ops Q (⟨none,.store 131 x y,ty,pos,after,none⟩::rest) ⟨γ,O,df⟩:=
 DP Ad (d:=.any) hl (by show DO tab O 131 (ev Sr x) (ev Sr y)=_;rw[h1,h2];exact TV hc hlen) h
theorem SD(p:BProg)(l:List MThing)(o:Own)(m:Nat)(c:Int)(O:Sig)(hp:p.wt<=1073741824)(hk:okP p=true)(hh:∀c,(hasP p c).length<=1000000)(hm:m<l.length)(ar:Bc (A2 p) l=true)(hc:ownF p c=true):DCall prog 182 [.agg (Ai p),.slice (l.map cTh) o,dI m,dI c] O fun y U'=> ∃R,y=.ret (.tup [(R 3).d l.length,dI 0])/\ThS R (l.set m (Cp (A2 p) l[m] c)) O U':=by
 obtain⟨o1,o2⟩:=BA.1 ar
 have hs:∀x∈l,x.slots.length<=1000000:=fun x hx=>by
  rw[(o2 x hx).2.1];exact hh x.cls
 obtain⟨u1,u2,u3⟩:=o2 _ (List.getElem_mem hm)
 have ba:ownF p (l[m]).cls=true:=by have:(ownF p (l[m]).cls&&okP p)=true:=u1;simp only[Bool.and_eq_true]at this;exact this.1
 refine en func182 ntmps182 ?_
 repeat' first|refine gf (gi hc (gi hk ar)) ?_|refine D2 (KS p l o O (by omega) (by omega) (fun x hx=>by have:=hs x hx;omega)) ?_|refine callPG (KS p l o O (by omega) (by omega) (fun x hx=>by have:=hs x hx;omega)) ?_|refine gf (gi hc (gi hk ar)) ?_ o182|apply gy<;>intro hh
 refine A7 (Si l o O (by omega) hs) (fun d U1 hr=>?_) (fun d U1 hr=>by obtain⟨_,h,_⟩:=hr;cases h)
 obtain⟨R1,hd,hT⟩:=hr
 obtain⟨i,c1,cs,h3⟩:=hT.row (by omega)
 cases hd
 have q3:=hT.row3
 rw[h3]at q3
 obtain⟨y1,y2⟩:=Oc (CP (S:=fun k=>R1 (k+4)) (l:=l)) (Bz _ _ m hm) cs
 obtain⟨L,hL⟩:∃L,L=(tCells (fun k=>R1 (k+4)) l).flatten++cs:=⟨_,rfl⟩
 have z1:U1 i=some (.cells L):=by rw[hL];exact q3.1
 rw[<-hL]at y1 y2
 have aO:m*2+2<=L.length:=by
  rw[hL,List.length_append,Aw CP,A3];omega
 have aS:List.take 2 (List.drop (m*2) L)=[dI (l[m]).cls,(R1 (m+4)).d (l[m]).slots.length]:=by
  refine List.ext_getElem? fun k=>?_
  match k with
  |0=>rw[List.getElem?_take_of_lt (by omega),List.getElem?_drop,Nat.add_zero];exact y1
  |1=>rw[List.getElem?_take_of_lt (by omega),List.getElem?_drop];exact y2
  |k+2=>rw[List.getElem?_eq_none (by simp;omega),List.getElem?_eq_none (by simp)]
 rw[h3]
 refine gz ?_
 refine EO (id:=5) [0,1,2,4,5,6,7,8,3,9,10] [3,9] U1 (Sub.refl _) ?_
 refine gf (gi z1 (gi aO aS)) ?_ o182
 refine BG (M6 p U1 hp hk) (fun d U2 hr=>?_) (fun d U2 hr=>by obtain⟨_,_,h,_⟩:=hr;cases h)
 obtain⟨i1,i2,hd,hK⟩:=hr
 cases hd
 refine⟨hK.1,?_⟩
 have hx:RWAt U2 2 (R1 (m+4)) ((l[m]).slots.map cVal):=by
  have q:=hT.rows.ok (m+4)
  rw[show rSz (m+4)=2 by unfold rSz;rw[if_neg (by omega)],show rCt R1 ⟨l,[],0,[],[]⟩ (m+4)=(l[m]).slots.map cVal by show((l[m]?).getD ⟨0,[]⟩).slots.map cVal=_;rw[List.getElem?_eq_getElem hm];rfl]at q
  exact q.keep fun j o hj _=>hK.1 j o hj
 refine BG (Sh p i1 i2 l[m] c (R1 (m+4)) U1 U2 hp hK hc ba (hh c) hx (hT.nf _) u2) (fun d S3 hr=>?_) (fun d S3 hr=>by obtain⟨_,h,_⟩:=hr;cases h)
 obtain⟨r,hd,hF⟩:=hr
 cases hd
 refine⟨fun j o hj=>(hF.2.1 j o (hK.1 j o hj) id).1,?_⟩
 refine gz ?_ o182
 have aQ:FrV U1 r (Cp (A2 p) l[m] c).slots S3:=⟨hF.1,fun j o hj _=>hF.2.1 j o (hK.1 j o hj) id,hF.2.2⟩
 have z3:S3 i=some (.cells L):=(aQ.2.1 i _ z1 id).1
 have bc:=hT.turn hm (x:=Cp (A2 p) l[m] c) aQ h3 hL
 refine storeTh (r1:=r) z3 ?_ (hlen:=aO)
 refine gz ?_ o182
 exact fin2 (U':=_) ⟨_,by rw[A6 _ _ (by omega),h3,EC],bc⟩
def mixC(S:Nat->RW)(l:List MThing)(k:Nat):List (List D):=(l.take k).map cTh++(tCells S l).drop k
theorem Rh{n:Nat}{γ:Fr}{df:List DDf}{O:Sig}{S:Nat->RW}{l:List MThing}{i:Nat}{cs:List D}(hi:O i=some (.cells ((tCells S l).flatten++cs)))(hS:∀k (h:k<l.length),RWAt O 2 (S k) ((l[k]).slots.map cVal))(ag:∀k, ¬(S k).is i)(aM:∀a b j,(S a).is j->(S b).is j->a=b):
  ∀k,k<=l.length->∃U',Wk prog n ⟨γ,O,df⟩ ⟨γ,U',df⟩/\U' i=some (.cells ((mixC S l k).flatten++cs)) /\ ∀j o,O j=some o->j≠i->(∀q,q<k->¬(S q).is j)->U' j=some o
 |0,_=>⟨O,Wk.refl _ _ _,by unfold mixC;simpa using hi,fun j o h _ _=>h⟩
 | k+1,hk=>by
  obtain⟨U1,w1,o1,k1⟩:=Rh hi hS ag aM k (by omega)
  have ak:k<l.length:=by omega
  have hr:RWAt U1 2 (S k) ((l[k]).slots.map cVal):=(hS k ak).keep fun j o hj aL=>k1 j o hj (fun e=>ag k (e ▸ aL)) (fun q hq aH=>by have:=aM q k j aH aL;omega)
  have ax:(tCells S l).drop k=[dI (l[k]).cls,(S k).d (l[k]).slots.length]::(tCells S l).drop (k+1):=by
   have aB:k<(tCells S l).length:=by rw[A3];exact ak
   rw[Ab aB]
   have:=Bz S l k ak
   rw[List.getElem?_eq_getElem aB]at this
   rw[Option.some.inj this]
  have e1:(mixC S l k).flatten++cs=(((l.take k).map cTh).flatten++[dI (l[k]).cls])++(S k).d ((l[k]).slots.map cVal).length::(((tCells S l).drop (k+1)).flatten++cs):=by
   unfold mixC
   rw[ax,List.flatten_append,List.flatten_cons,List.length_map]
   simp only[List.append_assoc,List.cons_append,List.nil_append]
  have e2:(mixC S l (k+1)).flatten++cs=(((l.take k).map cTh).flatten++[dI (l[k]).cls]) ++ .slice ((l[k]).slots.map cVal) .no::(((tCells S l).drop (k+1)).flatten++cs):=by
   unfold mixC
   rw[List.take_succ_eq_append_getElem ak,List.map_append,List.flatten_append,List.flatten_append]
   simp only[List.map_cons,List.map_nil,List.flatten_cons,List.flatten_nil,List.append_nil,List.append_assoc,List.cons_append,List.nil_append,cTh]
  rw[e1]at o1
  obtain⟨U2,w2,o2,k2⟩:=BE (P:=prog) (n:=n) (γ:=γ) (df:=df) hr o1 (ag k)
  refine⟨U2,w1.trans w2,by rw[e2];exact o2,fun j o hj ah hq=>k2 j o (k1 j o hj ah fun q bi=>hq q (by omega)) ah (hq k (by omega))⟩
theorem Uj(S:Nat->RW)(l:List MThing):mixC S l l.length=l.map cTh:=by
 unfold mixC;rw[List.take_length,List.drop_of_length_le (by rw[A3];exact Nat.le_refl _),List.append_nil]
theorem Ni{n:Nat}{γ:Fr}{df:List DDf}{O:Sig}{R:Nat->RW}{s:GoS}{ir:Nat}{a0 b0:List D}(hR:Rows O R rSz (rCt R s))(ag:∀a, ¬(R a).is ir)(aF:∀es,R 3=.full es->es=[])(hi:O ir=some (.cells (a0++(R 3).d s.objs.length::b0))):
  ∃U',Wk prog n ⟨γ,O,df⟩ ⟨γ,U',df⟩/\U' ir=some (.cells (a0 ++ .slice (s.objs.map cTh) .no::b0)) /\ ∀j o,O j=some o->j≠ir->(∀q,3<=q->¬(R q).is j)->U' j=some o:=by
 have q3:RWAt O 2 (R 3) (tCells (fun k=>R (k+4)) s.objs):=hR.ok 3
 have bd:∀k (h:k<s.objs.length),RWAt O 2 (R (k+4)) ((s.objs[k]).slots.map cVal):=fun k h=>by
  have q:=hR.ok (k+4)
  rw[show rSz (k+4)=2 by unfold rSz;rw[if_neg (by omega)],show rCt R s (k+4)=(s.objs[k]).slots.map cVal by show((s.objs[k]?).getD ⟨0,[]⟩).slots.map cVal=_;rw[List.getElem?_eq_getElem h];rfl]at q
  exact q
 by_cases h0:s.objs=[]
 ·rw[h0]at q3 hi⊢
  obtain⟨U2,w2,o2,k2⟩:=BE (P:=prog) (n:=n) (γ:=γ) (df:=df) (es:=[]) (r:=R 3) (i:=ir) q3 hi (ag 3)
  exact⟨U2,w2,o2,fun j o hj ah hq=>k2 j o hj ah (hq 3 (by omega))⟩
 ·have aU:0<s.objs.length:=List.length_pos_iff.2 h0
  cases h3:R 3 with
  |nil=>rw[h3]at q3;have:=congrArg List.length (show tCells (fun k=>R (k+4)) s.objs=[] from q3);rw[A3]at this;simp at this;exact absurd this h0
  |full es=>rw[h3]at q3;have:=congrArg List.length q3.1;rw[A3,aF es h3]at this;simp at this;exact absurd this h0
  | row i c cs =>
   rw[h3]at q3 hi
   obtain⟨z1,z2,z3,z4⟩:=q3
   have aw:(R 3).is i:=by rw[h3];rfl
   have hne:ir≠i:=fun e=>ag 3 (e ▸ aw)
   obtain⟨U1,w1,o1,k1⟩:=Rh (n:=n) (γ:=γ) (df:=df) (S:=fun k=>R (k+4)) z1 bd (fun k h=>by have:=hR.dj _ _ _ h aw;omega) (fun a b j ha hb=>by have:=hR.dj _ _ _ ha hb;omega) s.objs.length (Nat.le_refl _)
   have aX:=k1 ir _ hi hne (fun q _=>ag (q+4))
   rw[Uj]at o1
   have aJ:∀c∈s.objs.map cTh,c.length=2:=fun c hc=>by obtain⟨x,_,rfl⟩:=List.mem_map.1 hc;rfl
   have hr:RWAt U1 2 (.row i c cs) (s.objs.map cTh):=⟨o1,by
    rw[List.length_append,Aw aJ,List.length_map]
    rw[List.length_append,Aw CP,A3]at z2
    exact z2,by rw[List.length_map];rw[A3]at z3;exact z3,aJ⟩
   obtain⟨U2,w2,o2,k2⟩:=BE (P:=prog) (n:=n) (γ:=γ) (df:=df) (i:=ir) hr (by rw[List.length_map];exact aX) (fun h=>hne h)
   exact⟨U2,w1.trans w2,o2,fun j o hj ah hq=>k2 j o (k1 j o hj (fun e=>hq 3 (by omega) (by rw[e];exact aw)) fun q _=>hq (q+4) (by omega)) ah (fun h=>hq 3 (by omega) (by rw[h3];exact h))⟩
def Ez(R R':Nat->RW):Nat->RW:=fun a=>if a<3 then R a else R' a
theorem Dw{R R':Nat->RW}{a:Nat}(h:a<3):Ez R R' a=R a:=by unfold Ez;rw[if_pos h]
theorem Dx{R R':Nat->RW}{a:Nat}(h:3<=a):Ez R R' a=R' a:=by unfold Ez;rw[if_neg (by omega)]
section
variable {ir:Nat}{p:BProg}{R:Nat->RW}{s:GoS}{O:Sig}
theorem RunS.swap(h:RunS ir p R s O){R':Nat->RW}{l:List MThing}{U2 S3:Sig}{X ds:List D}(h2:∀j o,O j=some o->j≠ir->(∀q,3<=q->¬(R q).is j)->U2 j=some o)(aW:U2 ir=some (.cells X))(hT:ThS R' l U2 S3)(hd:ds=AO p (Ez R R') { s with objs:=l }):
  RunS ir p (Ez R R') { s with objs:=l } (S3.set ir (.cells ds))/\RunK ir R O (Ez R R') (S3.set ir (.cells ds)):=by
 have aG:∀a,a<3->∀j o,O j=some o->(R a).is j->U2 j=some o:=fun a ha j o hj ai=>h2 j o hj (fun e=>h.ni a (e ▸ ai)) (fun q hq aH=>by have:=h.rows.dj a q j ai aH;omega)
 have au:=(hT.keep ir _ aW).2
 have ag:∀a, ¬(Ez R R' a).is ir:=fun a=>by
  by_cases ha:a<3
  ·rw[Dw ha];exact h.ni a
  ·rw[Dx (by omega)];exact au a
 refine⟨⟨by rw[w6,hd],⟨fun a=>?_,fun a b j ha hb=>?_⟩,ag,fun a es he=>?_⟩,fun j o hj ah hn=>?_⟩
 ·by_cases ha:a<3
  ·have e:rCt (Ez R R') { s with objs:=l } a=rCt R s a:=by
    match a with
    |0=>rfl
    |1=>rfl
    |2=>rfl
    |k+3=>omega
   rw[e,Dw ha]
   exact(h.rows.ok a).keep fun j o hj ai=>by rw[w7 _ _ fun e2=>h.ni a (by rw[<-e2];exact ai)];exact(hT.keep j o (aG a ha j o hj ai)).1
  ·have e:rCt (Ez R R') { s with objs:=l } a=rCt R' ⟨l,[],0,[],[]⟩ a:=by
    match a with
    |0=>omega
    |1=>omega
    |2=>omega
    |3=>
     show tCells (fun k=>Ez R R' (k+4)) l=tCells (fun k=>R' (k+4)) l
     congr 1
    |k+4=>rfl
   rw[e,Dx (by omega)]
   exact(hT.rows.ok a).keep fun j o hj ai=>by rw[w7 _ _ fun e2=>au a (by rw[<-e2];exact ai)];exact hj
 ·by_cases h1:a<3<;>by_cases h3:b<3
  ·rw[Dw h1]at ha;rw[Dw h3]at hb;exact h.rows.dj a b j ha hb
  ·rw[Dw h1]at ha;rw[Dx (by omega)]at hb
   obtain⟨z,hz⟩:=(h.rows.ok a).cells ha
   exact absurd hb ((hT.keep j _ (aG a h1 j _ hz ha)).2 b)
  ·rw[Dx (by omega)]at ha;rw[Dw h3]at hb
   obtain⟨z,hz⟩:=(h.rows.ok b).cells hb
   exact absurd ha ((hT.keep j _ (aG b h3 j _ hz hb)).2 a)
  ·rw[Dx (by omega)]at ha;rw[Dx (by omega)]at hb;exact hT.rows.dj a b j ha hb
 ·by_cases ha:a<3
  ·rw[Dw ha]at he;exact h.nf a es he
  ·rw[Dx (by omega)]at he;exact hT.nf a es he
 ·have k2:=h2 j o hj ah fun q _=>hn q
  obtain⟨k3,k4⟩:=hT.keep j o k2
  refine⟨by rw[w7 _ _ ah];exact k3,fun a ha=>?_⟩
  by_cases h1:a<3
  ·rw[Dw h1]at ha;exact hn a ha
  ·rw[Dx (by omega)]at ha;exact k4 a ha
theorem freezeD{ro:Ro}{n:Nat}{Q:DX->St->Prop}{c:Code}{γ:Fr}{df:List DDf}(a0 b0:List D)(hR:Rows O R rSz (rCt R s))(ag:∀a, ¬(R a).is ir)(aF:∀es,R 3=.full es->es=[])(hi:O ir=some (.cells (a0++(R 3).d s.objs.length::b0)))
  (h:∀U',U' ir=some (.cells (a0 ++ .slice (s.objs.map cTh) .no::b0))->(∀j o,O j=some o->j≠ir->(∀q,3<=q->¬(R q).is j)->U' j=some o)->DWp prog ro n c Q ⟨γ,U',df⟩):DWp prog ro n c Q ⟨γ,O,df⟩:=by
 obtain⟨U2,w,a,b⟩:=Ni (n:=n) (γ:=γ) (df:=df) hR ag aF hi
 exact Co w (h U2 a b)
theorem SY(x:CIns)(r:List MVal)(v:MVal)(hp:p.wt<=1073741824)(hk:okP p=true)(hh:∀c,(hasP p c).length<=1000000)(hc:ownF p x.a=true)(hR:RunS ir p R s O)(hs:s.stk=r++[v])(hn:s.stk.length<=1000000)(hv:okV s.objs.length v=true)(ho:Bc (A2 p) s.objs=true):DCall prog 110 [.ptr ir 0,.agg (cIns x)] O fun y U'=> ∃R',RunK ir R O R' U' /\
  if v.kind=3 then y=.ret (.bool false)/\RunS ir p R' { s with objs:=setObj s.objs v.n (Cp (A2 p) (CV s.objs v.n) x.a),stk:=r++[v] } U' else y=.ret (.bool true)/\HaltS ir p R' { s with stk:=r } .nils false (FO s 6 r) U':=by
 have hl:s.stk.length=r.length+1:=by rw[hs];simp
 refine en func110 ntmps110 ?_
 refine gz ?_ o110
 refine A7 (BX r v hR hs hn) (fun d U1 hr=>?_) (fun d U1 hr=>by cases hr.1)
 obtain⟨hd,R1,am,aP⟩:=hr
 cases hd
 by_cases h3:v.kind=3
 rotate_left
 ·refine gf h3 ?_ o110
  refine A7 (Gu 6 r am) (fun d S3 hr=>?_) (fun d S3 hr=>by cases hr.1)
  obtain⟨hd,h1,h2⟩:=hr
  cases hd
  refine gz ?_ o110
  exact fin1 (U':=S3) ⟨R1,aP.trans h2,by rw[if_neg h3];exact⟨rfl,h1⟩⟩
 ·obtain⟨w1,w2,w3⟩:=Fe ho hv h3
  obtain⟨m,hm⟩:∃m:Nat,v.n=m:=⟨v.n.toNat,by omega⟩
  have aK:m<s.objs.length:=by omega
  have ar:CV s.objs v.n=s.objs[m]:=by unfold CV;rw[hm,Int.toNat_natCast,List.getElem?_eq_getElem aK];rfl
  refine gf h3 ?_
  have q1:=am.obj
  refine freezeD (R:=R1) (s:={ s with stk:=r }) (ir:=ir) [dI 0,dI 0,dI 0,dI 0,.nils,dI 0,dI 0,.nils,.nils] ((R1 2).d s.evs.length::(Ai p++[dI s.pos,(R1 0).d r.length,(R1 1).d s.env.length])) am.rows am.ni (am.nf 3) (by rw[q1];simp[AO]) (fun U2 o2 k2=>?_)
  refine mixI (id:=4) [0,1,2,3,4,5,6,7,8,9,10,11,12,13,14,15,16,17,18,19,20,21] [14,21] [4,9] [14,21] (fun z=>z=U2) rfl ?_
  refine iP (.ptr ir 0) ?_
  refine iP (.ptr ir 0) ?_
  refine iP (.ptr ir 0) ?_
  refine iP (.ptr ir 11) ?_
  refine iR (.agg (Ai p)) (fun z hz=>?_) ?_
  ·rw[hz];simp[o2]
  refine iP (.ptr ir 0) ?_
  refine iP (.ptr ir 0) ?_
  refine iP (.ptr ir 0) ?_
  refine iP (.ptr ir 9) ?_
  refine iR (.slice (s.objs.map cTh) .no) (fun z hz=>?_) ?_
  ·rw[hz];simp[o2]
  refine iP (.cptr (cVal v) 1) ?_
  refine iP (dI v.n) ?_
  refine iP (.cptr (cIns x) 1) ?_
  refine iP (dI x.a) ?_
  have aj:=SD p s.objs .no m x.a U2 hp hk hh aK ho hc
  rw[<-hm]at aj
  refine iW (fun _=>True) aj (fun d S3 hr=>?_) (fun d S3 hr=>by obtain⟨_,h,_⟩:=hr;cases h)
  obtain⟨R2,hd,hT⟩:=hr
  obtain⟨i,c,cs,h4⟩:=hT.row (by rw[List.length_set];omega)
  cases hd
  refine⟨trivial,?_⟩
  rw[h4]
  have o3:=(hT.keep ir _ o2).1
  refine iP (.tup [.sref i 0 s.objs.length c,dI 0]) ?_
  refine iP (.sref i 0 s.objs.length c) ?_
  refine iP (dI 0) ?_
  refine iP (.ptr ir 0) ?_
  refine iP (.ptr ir 0) ?_
  refine iP (.ptr ir 9) ?_
  refine iS (d:=.any) (U':=S3.set ir (.cells ([dI 0,dI 0,dI 0,dI 0,.nils,dI 0,dI 0,.nils,.nils,.sref i 0 s.objs.length c,(R1 2).d s.evs.length]++Ai p++[dI s.pos,(R1 0).d r.length,(R1 1).d s.env.length]))) (fun _=>True) trivial ?_ (he:=by simp[o3])
  refine iN ?_
  refine gz ?_ o110
  obtain⟨p1,p2⟩:=am.swap k2 o2 hT rfl
  refine drp (S3.set ir (.cells (AO p (Ez R1 R2) { s with stk:=r,objs:=s.objs.set m (Cp (A2 p) s.objs[m] x.a) }))) ?_ (by unfold AO;rw[show Ez R1 R2 3=R2 3 from rfl,h4,List.length_set];exact Sub.refl _)
  refine A7 (Bk v p1 (by simp;omega)) (fun d S4 hr=>?_) (fun d S4 hr=>by cases hr.1)
  obtain⟨hd,R4,be,bf⟩:=hr
  cases hd
  have e5:setObj s.objs v.n (Cp (A2 p) (CV s.objs v.n) x.a)=s.objs.set m (Cp (A2 p) s.objs[m] x.a):=by unfold setObj;rw[ar,hm];rfl
  refine gz ?_ o110
  exact fin1 (U':=S4) ⟨R4,(aP.trans p2).trans bf,by rw[if_pos h3,e5];exact⟨rfl,be⟩⟩
end
theorem JQ{f g:Nat->Option (Nat×Nat)}: ∀(ps:List (Nat×Value)) (cs:Array Value),(∀p∈ps,f p.1=g p.1)->Instr.fill f cs ps=Instr.fill g cs ps
 |[],cs,_=>rfl
 | (i,v)::ps,cs,h=>by
  rw[Instr.fill,Instr.fill,h (i,v) (by simp)]
  cases g i with
  |none=>rfl
  |some q=>
   obtain⟨o,z⟩:=q
   simp only
   split
   ·rfl
   ·exact JQ ps _ fun p hp=>h p (by simp[hp])
section
variable {ro:Ro}{n:Nat}{ops:Array Oper}{Q:DX->St->Prop}{df:List DDf}{rest:List Oper}{γ:List (Nat×D)}{O:Sig}{t:Nat}{ty:TypeId}{pos:String}{after:Array Edge}
theorem bldA{T len e:Nat}{parts:Array (Nat×Operand)}{out:List D}(h:DOps prog ro n ops Q rest ⟨(t,.agg out)::γ,O,df⟩)(hk:(tab T).k=.array len e:=by(simp<;>rfl))(he:A1 (tab e).k=false:=by simp)(hp:parts.all (fun p=>decide (p.1<len))=true:=by rfl)
  (ho:Pk tab ((List.range len).map fun i=>(i*(tab e).size,e)) (tab T).zero (parts.toList.map fun p=>(p.1,ev γ p.2))=some out) (aR:decide (t<n)=true:=by exact tdR):DOps prog ro n ops Q (⟨some t,.build T parts,ty,pos,after,none⟩::rest) ⟨γ,O,df⟩:=by
 refine Bx (fun d U'=>d=.agg out/\U'=O) rfl (fun c e=>by cases e) (Aa fun c e=>by cases e) (by simp only[Ar];exact aR) ?_ (fun d U' ⟨a,b⟩=>by subst a b;exact h)
 intro g w a hs hT
 obtain⟨inf,desc,z,h1,h2,h3,h4,h5,h6,h7,h8,h9,bn⟩:=BO (Ad T) (by rw[hk];simp)
 obtain⟨inf',desc',z',g1,g2,g3,g4,g5,g6,g7,g8,g9,g10⟩:=BO (Ad e) (Ae he)
 have hz:RepL g (tab T).zero z.cells.toList:=by
  rw[h9]
  exact AE (by simp) fun j x v e1 e2=>by
   rw[List.getElem?_map,e2]at e1
   cases e1;exact Dk g v
 have aD:∀l:List (Nat×Operand),RepL g ((l.map fun p=>(p.1,ev γ p.2)).map (·.2)) ((l.map fun p=>(p.1,a.eval p.2)).map (·.2)):=fun l=>by
  induction l with
  |nil=>rfl
  |cons p l ih=>exact⟨_,_,rfl,Ah hT p.2,ih⟩
 obtain⟨r,aE,aT⟩:=IB (P:=prog) (tab:=tab) (g:=g) (fs:=(List.range len).map fun i=>(i*(tab e).size,e)) (places:=((List.range len).map fun i=>(i*(tab e).size,e)).map fun p=>(p.1,(tab p.2).size)) rfl (ps:=parts.toList.map fun p=>(p.1,a.eval p.2)) (cs:=z.cells) ho (by simp) (aD _) hz
 have hsz:inf'.size=(tab e).size:=by first|exact g4|exact g5|exact g6|exact g3|omega
 have hb:prog.built T (parts.toList.map fun p=>(p.1,a.eval p.2))=some r:=by
  unfold Program.built
  rw[h1,FU Ad hk]
  simp only[h7,g1]
  rw[<-aE]
  refine JQ _ _ fun q hq=>?_
  obtain⟨p,aV,rfl⟩:=List.mem_map.1 hq
  have aA:p.1<len:=by
   have:=Array.all_eq_true_iff_forall_mem.1 hp p (by simpa using aV)
   simpa using this
  simp[aA,hsz]
 have:=run_build (P:=prog) w T (parts.map fun p=>(p.1,a.eval p.2)) r (by simpa using hb)
 refine⟨g,w,.agg r,.agg out,O,?_,.refl g,hs,⟨r.toList,by simp,aT⟩,rfl,rfl⟩
 simp only[execOp,Sem.run_bind]
 rw[this]
 rfl
end
def cActs:List D:=.nilf::(([105,106,107,108,109,110,111,112,113,113,113,113,113,114,115,116,117,118,119,120,121]:List Nat).map fun f=>D.func (.func f) [] [])
theorem UR(O:Sig):DCall prog 49 [] O (rS (.agg cActs) O):=by
 refine en func49 ntmps49 ?_
 refine gz ?_ [] [0]
 refine newV (fun i0 bj=>?_)
 refine gz ?_ [] [0]
 refine bldA (len:=22) (e:=108) (out:=cActs) ?_ (hp:=by simp) (ho:=by kernel_rfl)
 simp only[cActs,List.map_cons,List.map_nil]
 refine gz ?_ [] [0]
 exact finC (U':=O) ⟨rfl,rfl⟩
@[reducible,instance] def a49:=fun O=>ah0 (@UR O)
theorem JP(aN:List Int): ∀(l:List Init) (seen:List Int),DY aN seen l=true->∀x∈l,inB x.n=true
 |[],_,_,_,h=>by cases h
 |y::r,seen,h,x,hx=>by
  rw[DY]at h
  simp only[Bool.and_eq_true]at h
  rcases List.mem_cons.1 hx with rfl|hx
  ·exact h.1.2
  ·exact JP aN r _ h.2 x hx
theorem LN(p:BProg): ∀(l:List BClass) (i:Nat),Bg p i l=true->∀c∈l, ∀x∈c.inits,inB x.n=true
 |[],_,_,_,h=>by cases h
 |y::r,i,h,c,hc=>by
  rw[Bg]at h
  simp only[Bool.and_eq_true]at h
  rcases List.mem_cons.1 hc with rfl|hc
  ·exact JP _ _ _ h.1.2
  ·exact LN p r _ h.2 c hc
def OQ(m:List (Int×Int)):Prop:= ∀k,hasM k m=true->inB (getM 0 k m)=true
theorem PX{m:List (Int×Int)}(h:OQ m)(s n:Int)(hn:inB n=true):OQ (putM s n m):=fun k hk=>by
 rw[En]
 by_cases e:k=s
 ·rw[if_pos e];exact hn
 ·rw[if_neg e]
  rw[Gl]at hk
  simp only[e,decide_false,Bool.false_or]at hk
  exact h k hk
theorem Jv: ∀(l:List Init) (m:List (Int×Int)),OQ m->(∀x∈l,inB x.n=true)->OQ (Dz l m)
 |[],_,h,_=>h
 |x::r,_,h,hl=>Jv r _ (PX h x.slot x.n (hl x (by simp))) fun y hy=>hl y (by simp[hy])
theorem MP{p:BProg}(hk:okP p=true)(order:List Int):OQ (Hp p order):=by
 have hc:∀c∈p.classes, ∀x∈c.inits,inB x.n=true:=by
  have h2:=Eh hk
  unfold AA at h2
  simp only[Bool.and_eq_true]at h2
  obtain⟨_,h4⟩:=h2
  split at h4
  ·cases h4
  ·simp only[Bool.and_eq_true]at h4
   exact LN p _ _ h4.2
 unfold Hp
 induction order with
 |nil=>intro k hk;simp[hasM]at hk
 | cons c r ih =>
  rw[List.foldr_cons,Dn]
  split
  ·refine Jv _ _ ih fun x hx=>?_
   cases hg:p.classes[(c-3).toNat]? with
   |none=>rw[hg]at hx;simp at hx
   |some cl=>rw[hg]at hx;exact hc cl (List.mem_of_getElem? hg) x hx
  ·exact ih
theorem Hc{m:List (Int×Int)}(h:OQ m): ∀l:List Int, ∀x∈beginL m l,inB x.n=true
 |[],_,hx=>by cases hx
 | s::r,x,hx=>by
  rw[beginL]at hx
  split at hx
  ·rename_i hs
   rcases List.mem_cons.1 hx with rfl|hx
   ·exact h s hs
   ·exact Hc h r x hx
  ·exact Hc h r x hx
theorem LQ{p:BProg}(hk:okP p=true)(c:Int):(hasP p c).length<=40:=by
 have h1:=Ci p c
 have h2:=Eh hk
 unfold AA at h2
 simp only[Bool.and_eq_true,decide_eq_true_eq]at h2
 obtain⟨h3,h4⟩:=h2
 have key:∀(l:List BClass) (n m:Int),C6 n l=some m->wtL (fun c:BClass=>c.slots.length) l<=4*l.length:=fun l=>by
  induction l with
  |nil=>intro n m _;exact Nat.le_refl _
  | cons c r ih =>
   intro n m h
   rw[C6]at h
   split at h
   ·cases h
   ·split at h
    ·cases h
    ·have:=ih _ _ h
     simp only[wtL,List.length_cons];omega
 split at h4
 ·cases h4
 ·rename_i n hn
  have:=key _ _ _ hn
  omega
theorem TK{p:BProg}(hk:okP p=true):WldOK p (A2 p):=by
 refine⟨fun c h1 h2=>?_,fun c _=>Nj p c,fun c _=>B7.2 fun v hv=>?_⟩
 ·show(ownF p c&&okP p)=true
  unfold ownF;rw[hk];simp;omega
 ·unfold A2 at hv
  obtain⟨s,_,rfl⟩:=List.mem_map.1 hv
  unfold frV
  split
  ·rename_i i hi
   have:=Hc (MP hk _) _ i (List.mem_of_find?_eq_some hi)
   unfold inB at this
   unfold okV vInt
   simp only[Bool.and_eq_true,decide_eq_true_eq]at this
   simp[this]
  ·simp[okV,E9]
theorem stk1{l:List MVal}(h:1<=l.length): ∃r v,l=r++[v]/\Ds l=v/\l.dropLast=r:=by
 have hne:l≠[]:=fun e=>by rw[e]at h;simp at h
 refine⟨l.dropLast,l.getLast hne,(List.dropLast_concat_getLast hne).symm,?_,rfl⟩
 unfold Ds;rw[List.getLast?_eq_some_getLast hne];rfl
theorem stk2{l:List MVal}(h:2<=l.length): ∃r w v,l=r++[w,v]/\Ds l=v/\Ds l.dropLast=w/\l.dropLast.dropLast=r/\l.dropLast=r++[w]:=by
 obtain⟨r,v,h1,h2,h3⟩:=stk1 (l:=l) (by omega)
 obtain⟨q,w,g1,g2,g3⟩:=stk1 (l:=l.dropLast) (by rw[List.length_dropLast];omega)
 refine⟨q,w,v,?_,h2,g2,g3,g1⟩
 rw[h1,<-h3,g1];simp
theorem OF{N:Int}{v:MVal}(h:okV N v=true): -1000000000<=AL v/\AL v<=1000000000:=by
 unfold AL
 split
 ·rename_i h1
  unfold okV at h
  rw[if_pos h1]at h
  simpa using h
 ·omega
def actF(op:Int):Nat:=if op<=8 then 104+op.toNat else if op<=13 then 113 else 100+op.toNat
def ActR(ir:Nat)(p:BProg)(R:Nat->RW)(O:Sig)(r:GoS ⊕ GoH)(y:DE)(U':Sig):Prop:= ∃R',RunK ir R O R' U'/\match r with
 |.inl t=>y=.ret (.bool false)/\RunS ir p R' t U'
 |.inr h=>y=.ret (.bool true) /\ ∃s' av b,HaltS ir p R' s' av b h U'
theorem Vq{ir:Nat}{p:BProg}{R:Nat->RW}{t:GoS}{O:Sig}{N k q:Nat}{x:CIns}{l:CLev}{m:Met}{env:Int}{next:Bool}(hp:p.wt<=1073741824)(hk:okP p=true)(hI:InsOK p N k x l m env next)(aa:fitsC p N q x=true)(a8:0<=env)
  (bh:(t.stk.length:Int)=l.st) (bl:(t.env.length:Int)=l.env) (aq:okVs t.objs.length t.stk=true) (ay:Bc (A2 p) t.objs=true) (ae:t.stk.length<=1000000) (aI:t.env.length<=1000000) (bb:t.evs.length<=1000000) (hR:RunS ir p R t O) :
  DCall prog (actF x.op) [.ptr ir 0,.agg (cIns x)] O (ActR ir p R O (Im p (A2 p) x t)):=by
 have ht:=hI.take
 have bm:=(BA.1 ay).1
 unfold fitsC at aa
 have f3:x.op=3->0<=x.a:=fun h=>by rw[if_neg (by omega),if_pos h]at aa;simpa using aa
 have f46:x.op=4\/x.op=6->ownF p x.a=true:=fun h=>by
  rw[if_neg (by omega),if_neg (by omega),if_pos h]at aa
  unfold ownF;simp at aa⊢; omega
 have f19:x.op=19->0<=x.a/\x.a<p.gens.length:=fun h=>by
  rw[if_neg (by omega),if_neg (by omega),if_neg (by omega),if_neg (by omega),if_neg (by omega),if_pos h]at aa
  simpa using aa
 have frg:1<=x.op/\x.op<=21:=by
  refine Classical.byContradiction fun h=>?_
  rw[if_neg (by omega),if_neg (by omega),if_neg (by omega),if_neg (by omega),if_neg (by omega),if_neg (by omega)]at aa
  simp at aa
  omega
 clear aa
 rw[Im]
 by_cases e1:x.op=1
 ·rw[if_pos e1,show actF x.op=105 by rw[e1];rfl]
  exact(T4 x hR ae).mono fun y U' ⟨h1,R',h2,h3⟩=>⟨R',h3,h1,h2⟩
 rw[if_neg e1]
 by_cases e2:x.op=2
 ·rw[if_pos e2,show actF x.op=106 by rw[e2];rfl]
  exact(T3 x hR ae).mono fun y U' ⟨h1,R',h2,h3⟩=>⟨R',h3,h1,h2⟩
 rw[if_neg e2]
 by_cases e3:x.op=3
 ·have hn:=hI.name e3
  have h0:=f3 e3
  have aA:x.a.toNat<t.env.length:=by omega
  rw[if_pos e3,show actF x.op=107 by rw[e3];rfl,List.getElem?_eq_getElem aA,Option.getD_some]
  exact(T1 x x.a.toNat (by omega) aA hR ae aI).mono fun y U' ⟨h1,R',h2,h3⟩=>⟨R',h3,h1,h2⟩
 rw[if_neg e3]
 by_cases e4:x.op=4
 ·rw[if_pos e4,show actF x.op=108 by rw[e4];rfl]
  refine(T0 x hp hk (f46 (.inl e4)) (by have:=LQ hk x.a;omega) hR ae (by omega)).mono fun y U' ⟨R',h1,h2⟩=>⟨R',h1,?_⟩
  by_cases hn:40<=t.objs.length
  ·rw[if_pos hn]at h2⊢; exact⟨h2.1,_,_,_,h2.2⟩
  ·rw[if_neg hn]at h2⊢; exact h2
 rw[if_neg e4]
 by_cases e5:x.op=5
 ·have u:Ao p x=(1,1):=by unfold Ao;rw[if_neg (by omega),if_pos (by omega)]
  rw[u]at ht;simp only at ht
  obtain⟨r,v,hs,hv,hr⟩:=stk1 (l:=t.stk) (by omega)
  have ap:okV t.objs.length v=true:=hv ▸ Ek aq (by omega)
  rw[if_pos e5,show actF x.op=109 by rw[e5];rfl,hv,hr]
  refine(SZ x r v hp hR hs ae ap ay).mono fun y U' ⟨R',h1,h2⟩=>⟨R',h1,?_⟩
  by_cases hn:Be (A2 p) t.objs v x.a<0
  ·rw[if_pos hn]at h2⊢; exact⟨h2.1,_,_,_,h2.2⟩
  ·rw[if_neg hn]at h2⊢; exact h2
 rw[if_neg e5]
 by_cases e6:x.op=6
 ·have u:Ao p x=(1,1):=by unfold Ao;rw[if_neg (by omega),if_pos (by omega)]
  rw[u]at ht;simp only at ht
  obtain⟨r,v,hs,hv,hr⟩:=stk1 (l:=t.stk) (by omega)
  have ap:okV t.objs.length v=true:=hv ▸ Ek aq (by omega)
  rw[if_pos e6,show actF x.op=110 by rw[e6];rfl,hv,hr]
  refine(SY x r v hp hk (fun c=>by have:=LQ hk c;omega) (f46 (.inr e6)) hR hs ae ap ay).mono fun y U' ⟨R',h1,h2⟩=>⟨R',h1,?_⟩
  by_cases hn:v.kind=3
  ·rw[if_pos hn]at h2⊢; exact h2
  ·rw[if_neg hn]at h2⊢; exact⟨h2.1,_,_,_,h2.2⟩
 rw[if_neg e6]
 by_cases e7:x.op=7
 ·have u:Ao p x=(1,1):=by unfold Ao;rw[if_neg (by omega),if_pos (by omega)]
  rw[u]at ht;simp only at ht
  obtain⟨r,v,hs,hv,hr⟩:=stk1 (l:=t.stk) (by omega)
  rw[if_pos e7,show actF x.op=111 by rw[e7];rfl,hv,hr]
  exact(SX x r v hR hs ae bb).mono fun y U' ⟨h1,R',h2,h3⟩=>⟨R',h3,h1,h2⟩
 rw[if_neg e7]
 by_cases e8:x.op=8
 ·have u:Ao p x=(2,1):=by unfold Ao;rw[if_neg (by omega),if_neg (by omega),if_neg (by omega),if_neg (by omega),if_neg (by omega),if_neg (by omega)]
  rw[u]at ht;simp only at ht
  obtain⟨r,w,v,hs,hv,hw,hr,aE⟩:=stk2 (l:=t.stk) (by omega)
  have aC:okV t.objs.length w=true:=hw ▸ Ek (Cv aq) (by rw[List.length_dropLast];omega)
  rw[if_pos e8,show actF x.op=112 by rw[e8];rfl,hw,hv,hr]
  refine(SW x r w v hp hR hs ae aC ay).mono fun y U' ⟨R',h1,h2⟩=>⟨R',h1,?_⟩
  by_cases hn:Be (A2 p) t.objs w x.a<0
  ·rw[if_pos hn]at h2⊢; exact⟨h2.1,_,_,_,h2.2⟩
  ·rw[if_neg hn]at h2⊢; exact h2
 rw[if_neg e8]
 by_cases e14:x.op=14
 ·have u:Ao p x=(1,0):=by unfold Ao;rw[if_neg (by omega),if_neg (by omega),if_pos (by omega)]
  rw[u]at ht;simp only at ht
  obtain⟨r,v,hs,hv,hr⟩:=stk1 (l:=t.stk) (by omega)
  rw[if_pos e14,show actF x.op=114 by rw[e14];rfl,hv,hr]
  exact(SU x r v hR hs ae aI).mono fun y U' ⟨h1,R',h2,h3⟩=>⟨R',h3,h1,h2⟩
 rw[if_neg e14]
 by_cases e15:x.op=15
 ·have hd:=hI.drop e15
  obtain⟨r,v,hs,hv,hr⟩:=stk1 (l:=t.env) (by omega)
  rw[if_pos e15,show actF x.op=115 by rw[e15];rfl,hr]
  exact(ST x r v hR hs aI).mono fun y U' ⟨h1,R',h2,h3⟩=>⟨R',h3,h1,h2⟩
 rw[if_neg e15]
 by_cases e16:x.op=16
 ·have u:Ao p x=(1,0):=by unfold Ao;rw[if_neg (by omega),if_neg (by omega),if_pos (by omega)]
  rw[u]at ht;simp only at ht
  obtain⟨r,v,hs,hv,hr⟩:=stk1 (l:=t.stk) (by omega)
  rw[if_pos e16,show actF x.op=116 by rw[e16];rfl,hr]
  exact(SS x r v hR hs ae).mono fun y U' ⟨h1,R',h2,h3⟩=>⟨R',h3,h1,h2⟩
 rw[if_neg e16]
 by_cases e17:x.op=17
 ·have u:Ao p x=(1,0):=by unfold Ao;rw[if_neg (by omega),if_neg (by omega),if_pos (by omega)]
  rw[u]at ht;simp only at ht
  obtain⟨r,v,hs,hv,hr⟩:=stk1 (l:=t.stk) (by omega)
  rw[if_pos e17,show actF x.op=117 by rw[e17];rfl,hv,hr]
  exact(SR x r v hR hs ae).mono fun y U' ⟨h1,R',h2,h3⟩=>⟨R',h3,h1,h2⟩
 rw[if_neg e17]
 by_cases e18:x.op=18
 ·rw[if_pos e18,show actF x.op=118 by rw[e18];rfl]
  exact(SQ x hR).mono fun y U' ⟨h1,R',h2,h3⟩=>⟨R',h3,h1,h2⟩
 rw[if_neg e18]
 by_cases e19:x.op=19
 ·obtain⟨a1,a2⟩:=f19 e19
  have u:Ao p x=(p.gens.getD x.a.toNat 0,1):=by unfold Ao;rw[if_neg (by omega),if_neg (by omega),if_neg (by omega),if_pos e19]
  rw[u]at ht;simp only at ht
  have bk:=(H6 hk x.a.toNat).1
  have ak:x.a.toNat<p.gens.length:=by omega
  have aY:p.gens.getD x.a.toNat 0=p.gens[x.a.toNat]:=by rw[List.getD_eq_getElem?_getD,List.getElem?_eq_getElem ak];rfl
  rw[if_pos e19,show actF x.op=119 by rw[e19];rfl]
  refine(SP x (t.stk.take (t.stk.length-(p.gens.getD x.a.toNat 0).toNat)) (t.stk.drop (t.stk.length-(p.gens.getD x.a.toNat 0).toNat)) x.a.toNat hp (by omega) ak ?_ hR (List.take_append_drop _ _).symm ae).mono fun y U' ⟨h1,R',av,h2,h3⟩=>⟨R',h3,h1,_,_,_,h2⟩
  rw[<-aY,List.length_drop];omega
 rw[if_neg e19]
 by_cases e20:x.op=20
 ·rw[if_pos e20,show actF x.op=120 by rw[e20];rfl]
  exact(SO x hR).mono fun y U' ⟨h1,h2,h3⟩=>⟨R,h3,h1,_,_,_,h2⟩
 rw[if_neg e20]
 by_cases e21:x.op=21
 ·have hf:=hI.fin e21
  obtain⟨r,v,hs,hv,hr⟩:=stk1 (l:=t.stk) (by omega)
  rw[if_pos e21,show actF x.op=121 by rw[e21];rfl,hv]
  exact(SN x r v hR hs ae).mono fun y U' ⟨h1,R',h2,h3⟩=>⟨R',h3,h1,_,_,_,h2⟩
 rw[if_neg e21]
 have u:Ao p x=(2,1):=by unfold Ao;rw[if_neg (by omega),if_neg (by omega),if_neg (by omega),if_neg (by omega),if_neg (by omega),if_neg (by omega)]
 rw[u]at ht;simp only at ht
 obtain⟨r,w,v,hs,hv,hw,hr,aE⟩:=stk2 (l:=t.stk) (by omega)
 have ap:okV t.objs.length v=true:=hv ▸ Ek aq (by omega)
 have aC:okV t.objs.length w=true:=hw ▸ Ek (Cv aq) (by rw[List.length_dropLast];omega)
 rw[show actF x.op=113 by unfold actF;rw[if_neg (by omega),if_pos (by omega)],hw,hv,hr]
 exact(SV x r w v (by omega) hR hs ae (OF aC) (OF ap)).mono fun y U' ⟨h1,R',h2,h3⟩=>⟨R',h3,h1,h2⟩
end Go.DL
