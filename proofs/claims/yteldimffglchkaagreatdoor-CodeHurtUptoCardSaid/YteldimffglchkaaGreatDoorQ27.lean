/- A part of the proof. -/
import Derived.Test.YteldimffglchkaaGreatDoorQ26
import Derived.Test.YteldimffglchkaaGreatDoorQ20
set_option linter.all false
namespace Go.DL
open Go.Proofs.Tryz
open Go Go.Proofs
set_option maxHeartbeats 8000000
def mixC(S:Nat->RW)(l:List MThing)(k:Nat):List (List D):=(l.take k).map cTh++(tCells S l).drop k
theorem PT{n:Nat}{γ:Fr}{df:List DDf}{O:Sig}{S:Nat->RW}{l:List MThing}{i:Nat}{cs:List D}(hi:O i=some (.cells ((tCells S l).flatten++cs)))(hS:∀k (h:k<l.length),RWAt O 2 (S k) ((l[k]).slots.map cVal))(ae:∀k, ¬(S k).is i)(aK:∀a b j,(S a).is j->(S b).is j->a=b):
  ∀k,k<=l.length->∃U',Wk prog n ⟨γ,O,df⟩ ⟨γ,U',df⟩/\U' i=some (.cells ((mixC S l k).flatten++cs)) /\ ∀j o,O j=some o->j≠i->(∀q,q<k->¬(S q).is j)->U' j=some o
 |0,_=>⟨O,Wk.refl _ _ _,by unfold mixC;simpa using hi,fun j o h _ _=>h⟩
 | k+1,hk=>by
  obtain⟨S1,w1,o1,k1⟩:=PT hi hS ae aK k (by omega)
  have ai:k<l.length:=by omega
  have hr:RWAt S1 2 (S k) ((l[k]).slots.map cVal):=(hS k ai).keep fun j o hj aJ=>k1 j o hj (fun e=>ae k (e ▸ aJ)) (fun q hq aD=>by have:=aK q k j aD aJ;omega)
  have ar:(tCells S l).drop k=[dI (l[k]).cls,(S k).d (l[k]).slots.length]::(tCells S l).drop (k+1):=by
   have aI:k<(tCells S l).length:=by rw[A5];exact ai
   rw[Ac aI]
   have:=Bx S l k ai
   rw[List.getElem?_eq_getElem aI]at this
   rw[Option.some.inj this]
  have e1:(mixC S l k).flatten++cs=(((l.take k).map cTh).flatten++[dI (l[k]).cls])++(S k).d ((l[k]).slots.map cVal).length::(((tCells S l).drop (k+1)).flatten++cs):=by
   unfold mixC
   rw[ar,List.flatten_append,List.flatten_cons,List.length_map]
   simp only[List.append_assoc,List.cons_append,List.nil_append]
  have e2:(mixC S l (k+1)).flatten++cs=(((l.take k).map cTh).flatten++[dI (l[k]).cls]) ++ .slice ((l[k]).slots.map cVal) .no::(((tCells S l).drop (k+1)).flatten++cs):=by
   unfold mixC
   rw[List.take_succ_eq_append_getElem ai,List.map_append,List.flatten_append,List.flatten_append]
   simp only[List.map_cons,List.map_nil,List.flatten_cons,List.flatten_nil,List.append_nil,List.append_assoc,List.cons_append,List.nil_append,cTh]
  rw[e1]at o1
  obtain⟨U2,w2,o2,k2⟩:=BC (P:=prog) (n:=n) (γ:=γ) (df:=df) hr o1 (ae k)
  refine⟨U2,w1.trans w2,by rw[e2];exact o2,fun j o hj ag hq=>k2 j o (k1 j o hj ag fun q a8=>hq q (by omega)) ag (hq k (by omega))⟩
theorem SN(S:Nat->RW)(l:List MThing):mixC S l l.length=l.map cTh:=by
 unfold mixC;rw[List.take_length,List.drop_of_length_le (by rw[A5];exact Nat.le_refl _),List.append_nil]
theorem Mi{n:Nat}{γ:Fr}{df:List DDf}{O:Sig}{R:Nat->RW}{s:GoS}{ir:Nat}{a0 b0:List D}(hR:Rows O R rSz (rCt R s))(ae:∀a, ¬(R a).is ir)(aB:∀es,R 3=.full es->es=[])(hi:O ir=some (.cells (a0++(R 3).d s.objs.length::b0))):
  ∃U',Wk prog n ⟨γ,O,df⟩ ⟨γ,U',df⟩/\U' ir=some (.cells (a0 ++ .slice (s.objs.map cTh) .no::b0)) /\ ∀j o,O j=some o->j≠ir->(∀q,3<=q->¬(R q).is j)->U' j=some o:=by
 have q3:RWAt O 2 (R 3) (tCells (fun k=>R (k+4)) s.objs):=hR.ok 3
 have aW:∀k (h:k<s.objs.length),RWAt O 2 (R (k+4)) ((s.objs[k]).slots.map cVal):=fun k h=>by
  have q:=hR.ok (k+4)
  rw[show rSz (k+4)=2 by unfold rSz;rw[if_neg (by omega)],show rCt R s (k+4)=(s.objs[k]).slots.map cVal by show((s.objs[k]?).getD ⟨0,[]⟩).slots.map cVal=_;rw[List.getElem?_eq_getElem h];rfl]at q
  exact q
 by_cases h0:s.objs=[]
 ·rw[h0]at q3 hi⊢
  obtain⟨U2,w2,o2,k2⟩:=BC (P:=prog) (n:=n) (γ:=γ) (df:=df) (es:=[]) (r:=R 3) (i:=ir) q3 hi (ae 3)
  exact⟨U2,w2,o2,fun j o hj ag hq=>k2 j o hj ag (hq 3 (by omega))⟩
 ·have aO:0<s.objs.length:=List.length_pos_iff.2 h0
  cases h3:R 3 with
  |nil=>rw[h3]at q3;have:=congrArg List.length (show tCells (fun k=>R (k+4)) s.objs=[] from q3);rw[A5]at this;simp at this;exact absurd this h0
  |full es=>rw[h3]at q3;have:=congrArg List.length q3.1;rw[A5,aB es h3]at this;simp at this;exact absurd this h0
  | row i c cs =>
   rw[h3]at q3 hi
   obtain⟨z1,z2,z3,z4⟩:=q3
   have aE:(R 3).is i:=by rw[h3];rfl
   have hne:ir≠i:=fun e=>ae 3 (e ▸ aE)
   obtain⟨S1,w1,o1,k1⟩:=PT (n:=n) (γ:=γ) (df:=df) (S:=fun k=>R (k+4)) z1 aW (fun k h=>by have:=hR.dj _ _ _ h aE;omega) (fun a b j ha hb=>by have:=hR.dj _ _ _ ha hb;omega) s.objs.length (Nat.le_refl _)
   have aS:=k1 ir _ hi hne (fun q _=>ae (q+4))
   rw[SN]at o1
   have aG:∀c∈s.objs.map cTh,c.length=2:=fun c hc=>by obtain⟨x,_,rfl⟩:=List.mem_map.1 hc;rfl
   have hr:RWAt S1 2 (.row i c cs) (s.objs.map cTh):=⟨o1,by
    rw[List.length_append,Au aG,List.length_map]
    rw[List.length_append,Au CD,A5]at z2
    exact z2,by rw[List.length_map];rw[A5]at z3;exact z3,aG⟩
   obtain⟨U2,w2,o2,k2⟩:=BC (P:=prog) (n:=n) (γ:=γ) (df:=df) (i:=ir) hr (by rw[List.length_map];exact aS) (fun h=>hne h)
   exact⟨U2,w1.trans w2,o2,fun j o hj ag hq=>k2 j o (k1 j o hj (fun e=>hq 3 (by omega) (by rw[e];exact aE)) fun q _=>hq (q+4) (by omega)) ag (fun h=>hq 3 (by omega) (by rw[h3];exact h))⟩
def Ep(R R':Nat->RW):Nat->RW:=fun a=>if a<3 then R a else R' a
theorem Dp{R R':Nat->RW}{a:Nat}(h:a<3):Ep R R' a=R a:=by unfold Ep;rw[if_pos h]
theorem Dq{R R':Nat->RW}{a:Nat}(h:3<=a):Ep R R' a=R' a:=by unfold Ep;rw[if_neg (by omega)]
section
variable {ir:Nat}{p:BProg}{R:Nat->RW}{s:GoS}{O:Sig}
theorem RunS.swap(h:RunS ir p R s O){R':Nat->RW}{l:List MThing}{U2 S3:Sig}{X ds:List D}(h2:∀j o,O j=some o->j≠ir->(∀q,3<=q->¬(R q).is j)->U2 j=some o)(aR:U2 ir=some (.cells X))(hT:ThS R' l U2 S3)(hd:ds=AM p (Ep R R') { s with objs:=l }):
  RunS ir p (Ep R R') { s with objs:=l } (S3.set ir (.cells ds))/\RunK ir R O (Ep R R') (S3.set ir (.cells ds)):=by
 have aC:∀a,a<3->∀j o,O j=some o->(R a).is j->U2 j=some o:=fun a ha j o hj aj=>h2 j o hj (fun e=>h.ni a (e ▸ aj)) (fun q hq aD=>by have:=h.rows.dj a q j aj aD;omega)
 have aq:=(hT.keep ir _ aR).2
 have ae:∀a, ¬(Ep R R' a).is ir:=fun a=>by
  by_cases ha:a<3
  ·rw[Dp ha];exact h.ni a
  ·rw[Dq (by omega)];exact aq a
 refine⟨⟨by rw[w6,hd],⟨fun a=>?_,fun a b j ha hb=>?_⟩,ae,fun a es he=>?_⟩,fun j o hj ag hn=>?_⟩
 ·by_cases ha:a<3
  ·have e:rCt (Ep R R') { s with objs:=l } a=rCt R s a:=by
    match a with
    |0=>rfl
    |1=>rfl
    |2=>rfl
    |k+3=>omega
   rw[e,Dp ha]
   exact(h.rows.ok a).keep fun j o hj aj=>by rw[w7 _ _ fun e2=>h.ni a (by rw[<-e2];exact aj)];exact(hT.keep j o (aC a ha j o hj aj)).1
  ·have e:rCt (Ep R R') { s with objs:=l } a=rCt R' ⟨l,[],0,[],[]⟩ a:=by
    match a with
    |0=>omega
    |1=>omega
    |2=>omega
    |3=>
     show tCells (fun k=>Ep R R' (k+4)) l=tCells (fun k=>R' (k+4)) l
     congr 1
    |k+4=>rfl
   rw[e,Dq (by omega)]
   exact(hT.rows.ok a).keep fun j o hj aj=>by rw[w7 _ _ fun e2=>aq a (by rw[<-e2];exact aj)];exact hj
 ·by_cases h1:a<3<;>by_cases h3:b<3
  ·rw[Dp h1]at ha;rw[Dp h3]at hb;exact h.rows.dj a b j ha hb
  ·rw[Dp h1]at ha;rw[Dq (by omega)]at hb
   obtain⟨z,hz⟩:=(h.rows.ok a).cells ha
   exact absurd hb ((hT.keep j _ (aC a h1 j _ hz ha)).2 b)
  ·rw[Dq (by omega)]at ha;rw[Dp h3]at hb
   obtain⟨z,hz⟩:=(h.rows.ok b).cells hb
   exact absurd ha ((hT.keep j _ (aC b h3 j _ hz hb)).2 a)
  ·rw[Dq (by omega)]at ha;rw[Dq (by omega)]at hb;exact hT.rows.dj a b j ha hb
 ·by_cases ha:a<3
  ·rw[Dp ha]at he;exact h.nf a es he
  ·rw[Dq (by omega)]at he;exact hT.nf a es he
 ·have k2:=h2 j o hj ag fun q _=>hn q
  obtain⟨k3,k4⟩:=hT.keep j o k2
  refine⟨by rw[w7 _ _ ag];exact k3,fun a ha=>?_⟩
  by_cases h1:a<3
  ·rw[Dp h1]at ha;exact hn a ha
  ·rw[Dq (by omega)]at ha;exact k4 a ha
theorem freezeD{ro:Ro}{n:Nat}{Q:DX->St->Prop}{c:Code}{γ:Fr}{df:List DDf}(a0 b0:List D)(hR:Rows O R rSz (rCt R s))(ae:∀a, ¬(R a).is ir)(aB:∀es,R 3=.full es->es=[])(hi:O ir=some (.cells (a0++(R 3).d s.objs.length::b0)))
  (h:∀U',U' ir=some (.cells (a0 ++ .slice (s.objs.map cTh) .no::b0))->(∀j o,O j=some o->j≠ir->(∀q,3<=q->¬(R q).is j)->U' j=some o)->DWp prog ro n c Q ⟨γ,U',df⟩):DWp prog ro n c Q ⟨γ,O,df⟩:=by
 obtain⟨U2,w,a,b⟩:=Mi (n:=n) (γ:=γ) (df:=df) hR ae aB hi
 exact Jp w (h U2 a b)
theorem Re(x:CIns)(r:List MVal)(v:MVal)(hp:p.wt<=1073741824)(hk:okP p=true)(hh:∀c,(hasP p c).length<=1000000)(hc:ownF p x.a=true)(hR:RunS ir p R s O)(hs:s.stk=r++[v])(hn:s.stk.length<=1000000)(hv:okV s.objs.length v=true)(ho:B8 (A2 p) s.objs=true):DCall prog 110 [.ptr ir 0,.agg (cIns x)] O fun y U'=> ∃R',RunK ir R O R' U' /\
  if v.kind=3 then y=.ret (.bool false)/\RunS ir p R' { s with objs:=setObj s.objs v.n (Ce (A2 p) (CH s.objs v.n) x.a),stk:=r++[v] } U' else y=.ret (.bool true)/\HaltS ir p R' { s with stk:=r } .nils false (Fz s 6 r) U':=by
 have hl:s.stk.length=r.length+1:=by rw[hs];simp
 refine en func110 ntmps110 ?_
 refine gz ?_ o110
 refine A3 (BO r v hR hs hn) (fun d S1 hr=>?_) (fun d S1 hr=>by cases hr.1)
 obtain⟨hd,R1,ak,aL⟩:=hr
 cases hd
 by_cases h3:v.kind=3
 rotate_left
 ·refine gf h3 ?_ o110
  refine A3 (Gf 6 r ak) (fun d S3 hr=>?_) (fun d S3 hr=>by cases hr.1)
  obtain⟨hd,h1,h2⟩:=hr
  cases hd
  refine gz ?_ o110
  exact fin1 (U':=S3) ⟨R1,aL.trans h2,by rw[if_neg h3];exact⟨rfl,h1⟩⟩
 ·obtain⟨w1,w2,w3⟩:=EZ ho hv h3
  obtain⟨m,hm⟩:∃m:Nat,v.n=m:=⟨v.n.toNat,by omega⟩
  have aH:m<s.objs.length:=by omega
  have aQ:CH s.objs v.n=s.objs[m]:=by unfold CH;rw[hm,Int.toNat_natCast,List.getElem?_eq_getElem aH];rfl
  refine gf h3 ?_
  have q1:=ak.obj
  refine freezeD (R:=R1) (s:={ s with stk:=r }) (ir:=ir) [dI 0,dI 0,dI 0,dI 0,.nils,dI 0,dI 0,.nils,.nils] ((R1 2).d s.evs.length::(Ag p++[dI s.pos,(R1 0).d r.length,(R1 1).d s.env.length])) ak.rows ak.ni (ak.nf 3) (by rw[q1];simp[AM]) (fun U2 o2 k2=>?_)
  refine mixI (id:=4) [0,1,2,3,4,5,6,7,8,9,10,11,12,13,14,15,16,17,18,19,20,21] [14,21] [4,9] [14,21] (fun z=>z=U2) rfl ?_
  refine iP (.ptr ir 0) ?_
  refine iP (.ptr ir 0) ?_
  refine iP (.ptr ir 0) ?_
  refine iP (.ptr ir 11) ?_
  refine iR (.agg (Ag p)) (fun z hz=>?_) ?_
  ·rw[hz];simp[o2]
  refine iP (.ptr ir 0) ?_
  refine iP (.ptr ir 0) ?_
  refine iP (.ptr ir 0) ?_
  refine iP (.ptr ir 9) ?_
  refine iR (.slice (s.objs.map cTh) .no) (fun z hz=>?_) ?_
  ·rw[hz];simp[o2]
  refine iP (.cptr (cVal v) 1) ?_
  refine iP (dI v.n) ?_
  refine iP (.cptr (cIns x) 1) ?_
  refine iP (dI x.a) ?_
  have ah:=QQ p s.objs .no m x.a U2 hp hk hh aH ho hc
  rw[<-hm]at ah
  refine iW (fun _=>True) ah (fun d S3 hr=>?_) (fun d S3 hr=>by obtain⟨_,h,_⟩:=hr;cases h)
  obtain⟨R2,hd,hT⟩:=hr
  obtain⟨i,c,cs,h4⟩:=hT.row (by rw[List.length_set];omega)
  cases hd
  refine⟨trivial,?_⟩
  rw[h4]
  have o3:=(hT.keep ir _ o2).1
  refine iP (.tup [.sref i 0 s.objs.length c,dI 0]) ?_
  refine iP (.sref i 0 s.objs.length c) ?_
  refine iP (dI 0) ?_
  refine iP (.ptr ir 0) ?_
  refine iP (.ptr ir 0) ?_
  refine iP (.ptr ir 9) ?_
  refine iS (d:=.any) (U':=S3.set ir (.cells ([dI 0,dI 0,dI 0,dI 0,.nils,dI 0,dI 0,.nils,.nils,.sref i 0 s.objs.length c,(R1 2).d s.evs.length]++Ag p++[dI s.pos,(R1 0).d r.length,(R1 1).d s.env.length]))) (fun _=>True) trivial ?_ (he:=by simp[o3])
  refine iN ?_
  refine gz ?_ o110
  obtain⟨p1,p2⟩:=ak.swap k2 o2 hT rfl
  refine drp (S3.set ir (.cells (AM p (Ep R1 R2) { s with stk:=r,objs:=s.objs.set m (Ce (A2 p) s.objs[m] x.a) }))) ?_ (by unfold AM;rw[show Ep R1 R2 3=R2 3 from rfl,h4,List.length_set];exact Sub.refl _)
  refine A3 (Bh v p1 (by simp;omega)) (fun d S4 hr=>?_) (fun d S4 hr=>by cases hr.1)
  obtain⟨hd,R4,aX,aY⟩:=hr
  cases hd
  have e5:setObj s.objs v.n (Ce (A2 p) (CH s.objs v.n) x.a)=s.objs.set m (Ce (A2 p) s.objs[m] x.a):=by unfold setObj;rw[aQ,hm];rfl
  refine gz ?_ o110
  exact fin1 (U':=S4) ⟨R4,(aL.trans p2).trans aY,by rw[if_pos h3,e5];exact⟨rfl,aX⟩⟩
end
theorem Je{f g:Nat->Option (Nat×Nat)}: ∀(ps:List (Nat×Value)) (cs:Array Value),(∀p∈ps,f p.1=g p.1)->Instr.fill f cs ps=Instr.fill g cs ps
 |[],cs,_=>rfl
 | (i,v)::ps,cs,h=>by
  rw[Instr.fill,Instr.fill,h (i,v) (by simp)]
  cases g i with
  |none=>rfl
  |some q=>
   obtain⟨o,z⟩:=q
   simp only
   split
   ·rfl
   ·exact Je ps _ fun p hp=>h p (by simp[hp])
section
variable {ro:Ro}{n:Nat}{ops:Array Oper}{Q:DX->St->Prop}{df:List DDf}{rest:List Oper}{γ:List (Nat×D)}{O:Sig}{t:Nat}{ty:TypeId}{pos:String}{after:Array Edge}
theorem bldA{T len e:Nat}{parts:Array (Nat×Operand)}{out:List D}(h:DOps prog ro n ops Q rest ⟨(t,.agg out)::γ,O,df⟩)(hk:(tab T).k=.array len e:=by(simp<;>rfl))(he:A1 (tab e).k=false:=by simp)(hp:parts.all (fun p=>decide (p.1<len))=true:=by rfl)
  (ho:O9 tab ((List.range len).map fun i=>(i*(tab e).size,e)) (tab T).zero (parts.toList.map fun p=>(p.1,ev γ p.2))=some out) (aM:decide (t<n)=true:=by exact tdR):DOps prog ro n ops Q (⟨some t,.build T parts,ty,pos,after,none⟩::rest) ⟨γ,O,df⟩:=by
 refine B5 (fun d U'=>d=.agg out/\U'=O) rfl (fun c e=>by cases e) (A9 fun c e=>by cases e) (by simp only[Ap];exact aM) ?_ (fun d U' ⟨a,b⟩=>by subst a b;exact h)
 intro g w a hs hT
 obtain⟨inf,desc,z,h1,h2,h3,h4,h5,h6,h7,h8,h9,be⟩:=BG (Ab T) (by rw[hk];simp)
 obtain⟨inf',desc',z',g1,g2,g3,g4,g5,g6,g7,g8,g9,g10⟩:=BG (Ab e) (Ad he)
 have hz:RepL g (tab T).zero z.cells.toList:=by
  rw[h9]
  exact Az (by simp) fun j x v e1 e2=>by
   rw[List.getElem?_map,e2]at e1
   cases e1;exact D9 g v
 have ay:∀l:List (Nat×Operand),RepL g ((l.map fun p=>(p.1,ev γ p.2)).map (·.2)) ((l.map fun p=>(p.1,a.eval p.2)).map (·.2)):=fun l=>by
  induction l with
  |nil=>rfl
  |cons p l ih=>exact⟨_,_,rfl,Ae hT p.2,ih⟩
 obtain⟨r,aA,aN⟩:=Ib (P:=prog) (tab:=tab) (g:=g) (fs:=(List.range len).map fun i=>(i*(tab e).size,e)) (places:=((List.range len).map fun i=>(i*(tab e).size,e)).map fun p=>(p.1,(tab p.2).size)) rfl (ps:=parts.toList.map fun p=>(p.1,a.eval p.2)) (cs:=z.cells) ho (by simp) (ay _) hz
 have hsz:inf'.size=(tab e).size:=by first|exact g4|exact g5|exact g6|exact g3|omega
 have hb:prog.built T (parts.toList.map fun p=>(p.1,a.eval p.2))=some r:=by
  unfold Program.built
  rw[h1,FD Ab hk]
  simp only[h7,g1]
  rw[<-aA]
  refine Je _ _ fun q hq=>?_
  obtain⟨p,aP,rfl⟩:=List.mem_map.1 hq
  have aw:p.1<len:=by
   have:=Array.all_eq_true_iff_forall_mem.1 hp p (by simpa using aP)
   simpa using this
  simp[aw,hsz]
 have:=run_build (P:=prog) w T (parts.map fun p=>(p.1,a.eval p.2)) r (by simpa using hb)
 refine⟨g,w,.agg r,.agg out,O,?_,.refl g,hs,⟨r.toList,by simp,aN⟩,rfl,rfl⟩
 simp only[execOp,Sem.run_bind]
 rw[this]
 rfl
end
def cActs:List D:=.nilf::(([105,106,107,108,109,110,111,112,113,113,113,113,113,114,115,116,117,118,119,120,121]:List Nat).map fun f=>D.func (.func f) [] [])
theorem Ti(O:Sig):DCall prog 49 [] O (rS (.agg cActs) O):=by
 refine en func49 ntmps49 ?_
 refine gz ?_ [] [0]
 refine newV (fun i0 ba=>?_)
 refine gz ?_ [] [0]
 refine bldA (len:=22) (e:=108) (out:=cActs) ?_ (hp:=by simp) (ho:=by kernel_rfl)
 simp only[cActs,List.map_cons,List.map_nil]
 refine gz ?_ [] [0]
 exact finC (U':=O) ⟨rfl,rfl⟩
@[reducible,instance] def a49:=fun O=>ah0 (@Ti O)
theorem Jc(has:List Int): ∀(l:List Init) (seen:List Int),DR has seen l=true->∀x∈l,inB x.n=true
 |[],_,_,_,h=>by cases h
 |y::r,seen,h,x,hx=>by
  rw[DR]at h
  simp only[Bool.and_eq_true]at h
  rcases List.mem_cons.1 hx with rfl|hx
  ·exact h.1.2
  ·exact Jc has r _ h.2 x hx
theorem KU(p:BProg): ∀(l:List BClass) (i:Nat),Bd p i l=true->∀c∈l, ∀x∈c.inits,inB x.n=true
 |[],_,_,_,h=>by cases h
 |y::r,i,h,c,hc=>by
  rw[Bd]at h
  simp only[Bool.and_eq_true]at h
  rcases List.mem_cons.1 hc with rfl|hc
  ·exact Jc _ _ _ h.1.2
  ·exact KU p r _ h.2 c hc
def NH(m:List (Int×Int)):Prop:= ∀k,hasM k m=true->inB (getM 0 k m)=true
theorem ON{m:List (Int×Int)}(h:NH m)(s n:Int)(hn:inB n=true):NH (putM s n m):=fun k hk=>by
 rw[Eg]
 by_cases e:k=s
 ·rw[if_pos e];exact hn
 ·rw[if_neg e]
  rw[G5]at hk
  simp only[e,decide_false,Bool.false_or]at hk
  exact h k hk
theorem IS: ∀(l:List Init) (m:List (Int×Int)),NH m->(∀x∈l,inB x.n=true)->NH (Ds l m)
 |[],_,h,_=>h
 |x::r,_,h,hl=>IS r _ (ON h x.slot x.n (hl x (by simp))) fun y hy=>hl y (by simp[hy])
theorem LV{p:BProg}(hk:okP p=true)(order:List Int):NH (H9 p order):=by
 have hc:∀c∈p.classes, ∀x∈c.inits,inB x.n=true:=by
  have h2:=Eb hk
  unfold AC at h2
  simp only[Bool.and_eq_true]at h2
  obtain⟨_,h4⟩:=h2
  split at h4
  ·cases h4
  ·simp only[Bool.and_eq_true]at h4
   exact KU p _ _ h4.2
 unfold H9
 induction order with
 |nil=>intro k hk;simp[hasM]at hk
 | cons c r ih =>
  rw[List.foldr_cons,Dd]
  split
  ·refine IS _ _ ih fun x hx=>?_
   cases hg:p.classes[(c-3).toNat]? with
   |none=>rw[hg]at hx;simp at hx
   |some cl=>rw[hg]at hx;exact hc cl (List.mem_of_getElem? hg) x hx
  ·exact ih
theorem GV{m:List (Int×Int)}(h:NH m): ∀l:List Int, ∀x∈beginL m l,inB x.n=true
 |[],_,hx=>by cases hx
 | s::r,x,hx=>by
  rw[beginL]at hx
  split at hx
  ·rename_i hs
   rcases List.mem_cons.1 hx with rfl|hx
   ·exact h s hs
   ·exact GV h r x hx
  ·exact GV h r x hx
theorem KW{p:BProg}(hk:okP p=true)(c:Int):(hasP p c).length<=40:=by
 have h1:=C8 p c
 have h2:=Eb hk
 unfold AC at h2
 simp only[Bool.and_eq_true,decide_eq_true_eq]at h2
 obtain⟨h3,h4⟩:=h2
 have key:∀(l:List BClass) (n m:Int),BZ n l=some m->wtL (fun c:BClass=>c.slots.length) l<=4*l.length:=fun l=>by
  induction l with
  |nil=>intro n m _;exact Nat.le_refl _
  | cons c r ih =>
   intro n m h
   rw[BZ]at h
   split at h
   ·cases h
   ·split at h
    ·cases h
    ·have:=ih _ _ h
     simp only[wtL,List.length_cons];omega
 split at h4
 ·cases h4
 ·rename_i n hn
  have:=key _ _ _ hn
  omega
theorem RZ{p:BProg}(hk:okP p=true):WldOK p (A2 p):=by
 refine⟨fun c h1 h2=>?_,fun c _=>Mj p c,fun c _=>AY.2 fun v hv=>?_⟩
 ·show(ownF p c&&okP p)=true
  unfold ownF;rw[hk];simp;omega
 ·unfold A2 at hv
  obtain⟨s,_,rfl⟩:=List.mem_map.1 hv
  unfold frV
  split
  ·rename_i i hi
   have:=GV (LV hk _) _ i (List.mem_of_find?_eq_some hi)
   unfold inB at this
   unfold okV vInt
   simp only[Bool.and_eq_true,decide_eq_true_eq]at this
   simp[this]
  ·simp[okV,E4]
theorem stk1{l:List MVal}(h:1<=l.length): ∃r v,l=r++[v]/\Dj l=v/\l.dropLast=r:=by
 have hne:l≠[]:=fun e=>by rw[e]at h;simp at h
 refine⟨l.dropLast,l.getLast hne,(List.dropLast_concat_getLast hne).symm,?_,rfl⟩
 unfold Dj;rw[List.getLast?_eq_some_getLast hne];rfl
theorem stk2{l:List MVal}(h:2<=l.length): ∃r w v,l=r++[w,v]/\Dj l=v/\Dj l.dropLast=w/\l.dropLast.dropLast=r/\l.dropLast=r++[w]:=by
 obtain⟨r,v,h1,h2,h3⟩:=stk1 (l:=l) (by omega)
 obtain⟨q,w,g1,g2,g3⟩:=stk1 (l:=l.dropLast) (by rw[List.length_dropLast];omega)
 refine⟨q,w,v,?_,h2,g2,g3,g1⟩
 rw[h1,<-h3,g1];simp
theorem Nu{N:Int}{v:MVal}(h:okV N v=true): -1000000000<=AI v/\AI v<=1000000000:=by
 unfold AI
 split
 ·rename_i h1
  unfold okV at h
  rw[if_pos h1]at h
  simpa using h
 ·omega
def actF(op:Int):Nat:=if op<=8 then 104+op.toNat else if op<=13 then 113 else 100+op.toNat
def ActR(ir:Nat)(p:BProg)(R:Nat->RW)(O:Sig)(r:GoS ⊕ GoH)(y:DE)(U':Sig):Prop:= ∃R',RunK ir R O R' U'/\match r with
 |.inl t=>y=.ret (.bool false)/\RunS ir p R' t U'
 |.inr h=>y=.ret (.bool true) /\ ∃s' av b,HaltS ir p R' s' av b h U'
theorem TM{ir:Nat}{p:BProg}{R:Nat->RW}{t:GoS}{O:Sig}{N k q:Nat}{x:CIns}{l:CLev}{m:Met}{env:Int}{next:Bool}(hp:p.wt<=1073741824)(hk:okP p=true)(hI:InsOK p N k x l m env next)(aa:fitsC p N q x=true)(aU:0<=env)
  (aZ:(t.stk.length:Int)=l.st) (bc:(t.env.length:Int)=l.env) (ap:okVs t.objs.length t.stk=true) (au:B8 (A2 p) t.objs=true) (ac:t.stk.length<=1000000) (aF:t.env.length<=1000000) (aV:t.evs.length<=1000000) (hR:RunS ir p R t O) :
  DCall prog (actF x.op) [.ptr ir 0,.agg (cIns x)] O (ActR ir p R O (HY p (A2 p) x t)):=by
 have ht:=hI.take
 have bd:=(By.1 au).1
 unfold fitsC at aa
 have f3:x.op=3->0<=x.a:=fun h=>by rw[if_neg (by omega),if_pos h]at aa;simpa using aa
 have f46:x.op=4\/x.op=6->ownF p x.a=true:=fun h=>by
  rw[if_neg (by omega),if_neg (by omega),if_pos h]at aa
  unfold ownF;simp at aa⊢; omega
 have f19:x.op=19->0<=x.a/\x.a<p.gens.length:=fun h=>by
  rw[if_neg (by omega),if_neg (by omega),if_neg (by omega),if_neg (by omega),if_neg (by omega),if_pos h]at aa
  simpa using aa
 have frg:1<=x.op/\x.op<=21:=by
  refine Classical.byContradiction fun h=>?_
  rw[if_neg (by omega),if_neg (by omega),if_neg (by omega),if_neg (by omega),if_neg (by omega),if_neg (by omega)]at aa
  simp at aa
  omega
 clear aa
 rw[HY]
 by_cases e1:x.op=1
 ·rw[if_pos e1,show actF x.op=105 by rw[e1];rfl]
  exact(Rj x hR ac).mono fun y U' ⟨h1,R',h2,h3⟩=>⟨R',h3,h1,h2⟩
 rw[if_neg e1]
 by_cases e2:x.op=2
 ·rw[if_pos e2,show actF x.op=106 by rw[e2];rfl]
  exact(Ri x hR ac).mono fun y U' ⟨h1,R',h2,h3⟩=>⟨R',h3,h1,h2⟩
 rw[if_neg e2]
 by_cases e3:x.op=3
 ·have hn:=hI.name e3
  have h0:=f3 e3
  have aw:x.a.toNat<t.env.length:=by omega
  rw[if_pos e3,show actF x.op=107 by rw[e3];rfl,List.getElem?_eq_getElem aw,Option.getD_some]
  exact(Rh x x.a.toNat (by omega) aw hR ac aF).mono fun y U' ⟨h1,R',h2,h3⟩=>⟨R',h3,h1,h2⟩
 rw[if_neg e3]
 by_cases e4:x.op=4
 ·rw[if_pos e4,show actF x.op=108 by rw[e4];rfl]
  refine(Rg x hp hk (f46 (.inl e4)) (by have:=KW hk x.a;omega) hR ac (by omega)).mono fun y U' ⟨R',h1,h2⟩=>⟨R',h1,?_⟩
  by_cases hn:40<=t.objs.length
  ·rw[if_pos hn]at h2⊢; exact⟨h2.1,_,_,_,h2.2⟩
  ·rw[if_neg hn]at h2⊢; exact h2
 rw[if_neg e4]
 by_cases e5:x.op=5
 ·have u:Ao p x=(1,1):=by unfold Ao;rw[if_neg (by omega),if_pos (by omega)]
  rw[u]at ht;simp only at ht
  obtain⟨r,v,hs,hv,hr⟩:=stk1 (l:=t.stk) (by omega)
  have am:okV t.objs.length v=true:=hv ▸ Ed ap (by omega)
  rw[if_pos e5,show actF x.op=109 by rw[e5];rfl,hv,hr]
  refine(Rf x r v hp hR hs ac am au).mono fun y U' ⟨R',h1,h2⟩=>⟨R',h1,?_⟩
  by_cases hn:Bb (A2 p) t.objs v x.a<0
  ·rw[if_pos hn]at h2⊢; exact⟨h2.1,_,_,_,h2.2⟩
  ·rw[if_neg hn]at h2⊢; exact h2
 rw[if_neg e5]
 by_cases e6:x.op=6
 ·have u:Ao p x=(1,1):=by unfold Ao;rw[if_neg (by omega),if_pos (by omega)]
  rw[u]at ht;simp only at ht
  obtain⟨r,v,hs,hv,hr⟩:=stk1 (l:=t.stk) (by omega)
  have am:okV t.objs.length v=true:=hv ▸ Ed ap (by omega)
  rw[if_pos e6,show actF x.op=110 by rw[e6];rfl,hv,hr]
  refine(Re x r v hp hk (fun c=>by have:=KW hk c;omega) (f46 (.inr e6)) hR hs ac am au).mono fun y U' ⟨R',h1,h2⟩=>⟨R',h1,?_⟩
  by_cases hn:v.kind=3
  ·rw[if_pos hn]at h2⊢; exact h2
  ·rw[if_neg hn]at h2⊢; exact⟨h2.1,_,_,_,h2.2⟩
 rw[if_neg e6]
 by_cases e7:x.op=7
 ·have u:Ao p x=(1,1):=by unfold Ao;rw[if_neg (by omega),if_pos (by omega)]
  rw[u]at ht;simp only at ht
  obtain⟨r,v,hs,hv,hr⟩:=stk1 (l:=t.stk) (by omega)
  rw[if_pos e7,show actF x.op=111 by rw[e7];rfl,hv,hr]
  exact(Rd x r v hR hs ac aV).mono fun y U' ⟨h1,R',h2,h3⟩=>⟨R',h3,h1,h2⟩
 rw[if_neg e7]
 by_cases e8:x.op=8
 ·have u:Ao p x=(2,1):=by unfold Ao;rw[if_neg (by omega),if_neg (by omega),if_neg (by omega),if_neg (by omega),if_neg (by omega),if_neg (by omega)]
  rw[u]at ht;simp only at ht
  obtain⟨r,w,v,hs,hv,hw,hr,aA⟩:=stk2 (l:=t.stk) (by omega)
  have ax:okV t.objs.length w=true:=hw ▸ Ed (Co ap) (by rw[List.length_dropLast];omega)
  rw[if_pos e8,show actF x.op=112 by rw[e8];rfl,hw,hv,hr]
  refine(Rc x r w v hp hR hs ac ax au).mono fun y U' ⟨R',h1,h2⟩=>⟨R',h1,?_⟩
  by_cases hn:Bb (A2 p) t.objs w x.a<0
  ·rw[if_pos hn]at h2⊢; exact⟨h2.1,_,_,_,h2.2⟩
  ·rw[if_neg hn]at h2⊢; exact h2
 rw[if_neg e8]
 by_cases e14:x.op=14
 ·have u:Ao p x=(1,0):=by unfold Ao;rw[if_neg (by omega),if_neg (by omega),if_pos (by omega)]
  rw[u]at ht;simp only at ht
  obtain⟨r,v,hs,hv,hr⟩:=stk1 (l:=t.stk) (by omega)
  rw[if_pos e14,show actF x.op=114 by rw[e14];rfl,hv,hr]
  exact(Ra x r v hR hs ac aF).mono fun y U' ⟨h1,R',h2,h3⟩=>⟨R',h3,h1,h2⟩
 rw[if_neg e14]
 by_cases e15:x.op=15
 ·have hd:=hI.drop e15
  obtain⟨r,v,hs,hv,hr⟩:=stk1 (l:=t.env) (by omega)
  rw[if_pos e15,show actF x.op=115 by rw[e15];rfl,hr]
  exact(R9 x r v hR hs aF).mono fun y U' ⟨h1,R',h2,h3⟩=>⟨R',h3,h1,h2⟩
 rw[if_neg e15]
 by_cases e16:x.op=16
 ·have u:Ao p x=(1,0):=by unfold Ao;rw[if_neg (by omega),if_neg (by omega),if_pos (by omega)]
  rw[u]at ht;simp only at ht
  obtain⟨r,v,hs,hv,hr⟩:=stk1 (l:=t.stk) (by omega)
  rw[if_pos e16,show actF x.op=116 by rw[e16];rfl,hr]
  exact(R8 x r v hR hs ac).mono fun y U' ⟨h1,R',h2,h3⟩=>⟨R',h3,h1,h2⟩
 rw[if_neg e16]
 by_cases e17:x.op=17
 ·have u:Ao p x=(1,0):=by unfold Ao;rw[if_neg (by omega),if_neg (by omega),if_pos (by omega)]
  rw[u]at ht;simp only at ht
  obtain⟨r,v,hs,hv,hr⟩:=stk1 (l:=t.stk) (by omega)
  rw[if_pos e17,show actF x.op=117 by rw[e17];rfl,hv,hr]
  exact(R7 x r v hR hs ac).mono fun y U' ⟨h1,R',h2,h3⟩=>⟨R',h3,h1,h2⟩
 rw[if_neg e17]
 by_cases e18:x.op=18
 ·rw[if_pos e18,show actF x.op=118 by rw[e18];rfl]
  exact(R6 x hR).mono fun y U' ⟨h1,R',h2,h3⟩=>⟨R',h3,h1,h2⟩
 rw[if_neg e18]
 by_cases e19:x.op=19
 ·obtain⟨a1,a2⟩:=f19 e19
  have u:Ao p x=(p.gens.getD x.a.toNat 0,1):=by unfold Ao;rw[if_neg (by omega),if_neg (by omega),if_neg (by omega),if_pos e19]
  rw[u]at ht;simp only at ht
  have bb:=(GP hk x.a.toNat).1
  have ai:x.a.toNat<p.gens.length:=by omega
  have aT:p.gens.getD x.a.toNat 0=p.gens[x.a.toNat]:=by rw[List.getD_eq_getElem?_getD,List.getElem?_eq_getElem ai];rfl
  rw[if_pos e19,show actF x.op=119 by rw[e19];rfl]
  refine(QZ x (t.stk.take (t.stk.length-(p.gens.getD x.a.toNat 0).toNat)) (t.stk.drop (t.stk.length-(p.gens.getD x.a.toNat 0).toNat)) x.a.toNat hp (by omega) ai ?_ hR (List.take_append_drop _ _).symm ac).mono fun y U' ⟨h1,R',av,h2,h3⟩=>⟨R',h3,h1,_,_,_,h2⟩
  rw[<-aT,List.length_drop];omega
 rw[if_neg e19]
 by_cases e20:x.op=20
 ·rw[if_pos e20,show actF x.op=120 by rw[e20];rfl]
  exact(QY x hR).mono fun y U' ⟨h1,h2,h3⟩=>⟨R,h3,h1,_,_,_,h2⟩
 rw[if_neg e20]
 by_cases e21:x.op=21
 ·have hf:=hI.fin e21
  obtain⟨r,v,hs,hv,hr⟩:=stk1 (l:=t.stk) (by omega)
  rw[if_pos e21,show actF x.op=121 by rw[e21];rfl,hv]
  exact(QX x r v hR hs ac).mono fun y U' ⟨h1,R',h2,h3⟩=>⟨R',h3,h1,_,_,_,h2⟩
 rw[if_neg e21]
 have u:Ao p x=(2,1):=by unfold Ao;rw[if_neg (by omega),if_neg (by omega),if_neg (by omega),if_neg (by omega),if_neg (by omega),if_neg (by omega)]
 rw[u]at ht;simp only at ht
 obtain⟨r,w,v,hs,hv,hw,hr,aA⟩:=stk2 (l:=t.stk) (by omega)
 have am:okV t.objs.length v=true:=hv ▸ Ed ap (by omega)
 have ax:okV t.objs.length w=true:=hw ▸ Ed (Co ap) (by rw[List.length_dropLast];omega)
 rw[show actF x.op=113 by unfold actF;rw[if_neg (by omega),if_pos (by omega)],hw,hv,hr]
 exact(Rb x r w v (by omega) hR hs ac (Nu ax) (Nu am)).mono fun y U' ⟨h1,R',h2,h3⟩=>⟨R',h3,h1,h2⟩
end Go.DL
