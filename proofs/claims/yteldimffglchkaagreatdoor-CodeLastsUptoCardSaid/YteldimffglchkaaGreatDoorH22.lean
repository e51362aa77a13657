/- A part of the proof. -/
import Derived.Test.YteldimffglchkaaGreatDoorH21
import Derived.Test.YteldimffglchkaaGreatDoorH18
import Derived.Test.YteldimffglchkaaGreatDoorH19
import Derived.Test.YteldimffglchkaaGreatDoorH17
set_option linter.all false
namespace Go.DL
open Go.Proofs.Tryz
open Go Go.Proofs
set_option maxHeartbeats 8000000
def F7(R R':Nat->RW):Nat->RW:=fun a=>if a<3 then R a else R' a
theorem DY{R R':Nat->RW}{a:Nat}(h:a<3):F7 R R' a=R a:=by unfold F7;rw[if_pos h]
theorem DZ{R R':Nat->RW}{a:Nat}(h:3<=a):F7 R R' a=R' a:=by unfold F7;rw[if_neg (by omega)]
section
variable {ir:Nat}{p:BProg}{R:Nat->RW}{s:GoS}{O:Sig}
theorem RunS.swap(h:RunS ir p R s O){R':Nat->RW}{l:List MThing}{S2 S3:Sig}{X ds:List D}(h2:∀j o,O j=some o->j≠ir->(∀q,3<=q->¬(R q).is j)->S2 j=some o)(bF:S2 ir=some (.cells X))(hT:ThS R' l S2 S3)(hd:ds=AN p (F7 R R') { s with objs:=l }):
  RunS ir p (F7 R R') { s with objs:=l } (S3.set ir (.cells ds))/\RunK ir R O (F7 R R') (S3.set ir (.cells ds)):=by
 have bk:∀a,a<3->∀j o,O j=some o->(R a).is j->S2 j=some o:=fun a ha j o hj aQ=>h2 j o hj (fun e=>h.ni a (e ▸ aQ)) (fun q hq bE=>by have:=h.rows.dj a q j aQ bE;omega)
 have aX:=(hT.keep ir _ bF).2
 have bj:∀a, ¬(F7 R R' a).is ir:=fun a=>by
  by_cases ha:a<3
  ·rw[DY ha];exact h.ni a
  ·rw[DZ (by omega)];exact aX a
 refine⟨⟨by rw[w6,hd],⟨fun a=>?_,fun a b j ha hb=>?_⟩,bj,fun a es he=>?_⟩,fun j o hj bw hn=>?_⟩
 ·by_cases ha:a<3
  ·have e:rCt (F7 R R') { s with objs:=l } a=rCt R s a:=by
    match a with
    |0=>rfl
    |1=>rfl
    |2=>rfl
    |k+3=>omega
   rw[e,DY ha]
   exact(h.rows.ok a).keep fun j o hj aQ=>by rw[w7 _ _ fun e2=>h.ni a (by rw[<-e2];exact aQ)];exact(hT.keep j o (bk a ha j o hj aQ)).1
  ·have e:rCt (F7 R R') { s with objs:=l } a=rCt R' ⟨l,[],0,[],[]⟩ a:=by
    match a with
    |0=>omega
    |1=>omega
    |2=>omega
    |3=>
     show tCells (fun k=>F7 R R' (k+4)) l=tCells (fun k=>R' (k+4)) l
     congr 1
    |k+4=>rfl
   rw[e,DZ (by omega)]
   exact(hT.rows.ok a).keep fun j o hj aQ=>by rw[w7 _ _ fun e2=>aX a (by rw[<-e2];exact aQ)];exact hj
 ·by_cases h1:a<3<;>by_cases h3:b<3
  ·rw[DY h1]at ha;rw[DY h3]at hb;exact h.rows.dj a b j ha hb
  ·rw[DY h1]at ha;rw[DZ (by omega)]at hb
   obtain⟨z,hz⟩:=(h.rows.ok a).cells ha
   exact absurd hb ((hT.keep j _ (bk a h1 j _ hz ha)).2 b)
  ·rw[DZ (by omega)]at ha;rw[DY h3]at hb
   obtain⟨z,hz⟩:=(h.rows.ok b).cells hb
   exact absurd ha ((hT.keep j _ (bk b h3 j _ hz hb)).2 a)
  ·rw[DZ (by omega)]at ha;rw[DZ (by omega)]at hb;exact hT.rows.dj a b j ha hb
 ·by_cases ha:a<3
  ·rw[DY ha]at he;exact h.nf a es he
  ·rw[DZ (by omega)]at he;exact hT.nf a es he
 ·have k2:=h2 j o hj bw fun q _=>hn q
  obtain⟨k3,k4⟩:=hT.keep j o k2
  refine⟨by rw[w7 _ _ bw];exact k3,fun a ha=>?_⟩
  by_cases h1:a<3
  ·rw[DY h1]at ha;exact hn a ha
  ·rw[DZ (by omega)]at ha;exact k4 a ha
theorem freezeD{ro:Ro}{n:Nat}{Q:DX->St->Prop}{c:Code}{γ:Fr}{df:List DDf}(a0 b0:List D)(hR:Rows O R rSz (rCt R s))(bj:∀a, ¬(R a).is ir)(bD:∀es,R 3=.full es->es=[])(hi:O ir=some (.cells (a0++(R 3).d s.objs.length::b0)))
  (h:∀U',U' ir=some (.cells (a0 ++ .slice (s.objs.map cTh) .no::b0))->(∀j o,O j=some o->j≠ir->(∀q,3<=q->¬(R q).is j)->U' j=some o)->DWp prog ro n c Q ⟨γ,U',df⟩):DWp prog ro n c Q ⟨γ,O,df⟩:=by
 obtain⟨S2,w,a,b⟩:=NA (n:=n) (γ:=γ) (df:=df) hR bj bD hi
 exact Hh w (h S2 a b)
theorem T8(x:CIns)(r:List MVal)(v:MVal)(hp:p.wt<=1073741824)(hk:okP p=true)(hh:∀c,(hasP p c).length<=1000000)(hc:ownF p x.a=true)(hR:RunS ir p R s O)(hs:s.stk=r++[v])(hn:s.stk.length<=1000000)(hv:okV s.objs.length v=true)(ho:Bh (A3 p) s.objs=true):DCall prog 110 [.ptr ir 0,.agg (cIns x)] O fun y U'=> ∃R',RunK ir R O R' U' /\
  if v.kind=3 then y=.ret (.bool false)/\RunS ir p R' { s with objs:=setObj s.objs v.n (CF (A3 p) (D4 s.objs v.n) x.a),stk:=r++[v] } U' else y=.ret (.bool true)/\HaltS ir p R' { s with stk:=r } .nils false (Gz s 6 r) U':=by
 have hl:s.stk.length=r.length+1:=by rw[hs];simp
 refine en func110 ntmps110 ?_
 refine gz ?_ o110
 refine A7 (Cg r v hR hs hn) (fun d S1 hr=>?_) (fun d S1 hr=>by cases hr.1)
 obtain⟨hd,R1,aT,aw⟩:=hr
 cases hd
 by_cases h3:v.kind=3
 rotate_left
 ·refine gf h3 ?_ o110
  refine A7 (Hb 6 r aT) (fun d S3 hr=>?_) (fun d S3 hr=>by cases hr.1)
  obtain⟨hd,h1,h2⟩:=hr
  cases hd
  refine gz ?_ o110
  exact fin1 (U':=S3) ⟨R1,aw.trans h2,by rw[if_neg h3];exact⟨rfl,h1⟩⟩
 ·obtain⟨w1,w2,w3⟩:=FP ho hv h3
  obtain⟨m,hm⟩:∃m:Nat,v.n=m:=⟨v.n.toNat,by omega⟩
  have br:m<s.objs.length:=by omega
  have bC:D4 s.objs v.n=s.objs[m]:=by unfold D4;rw[hm,Int.toNat_natCast,List.getElem?_eq_getElem br];rfl
  refine gf h3 ?_
  have q1:=aT.obj
  refine freezeD (R:=R1) (s:={ s with stk:=r }) (ir:=ir) [dI 0,dI 0,dI 0,dI 0,.nils,dI 0,dI 0,.nils,.nils] ((R1 2).d s.evs.length::(Ae p++[dI s.pos,(R1 0).d r.length,(R1 1).d s.env.length])) aT.rows aT.ni (aT.nf 3) (by rw[q1];simp[AN]) (fun S2 o2 k2=>?_)
  refine mixI (id:=4) [0,1,2,3,4,5,6,7,8,9,10,11,12,13,14,15,16,17,18,19,20,21] [14,21] [4,9] [14,21] (fun z=>z=S2) rfl ?_
  refine iP (.ptr ir 0) ?_
  refine iP (.ptr ir 0) ?_
  refine iP (.ptr ir 0) ?_
  refine iP (.ptr ir 11) ?_
  refine iR (.agg (Ae p)) (fun z hz=>?_) ?_
  ·rw[hz];simp[o2]
  refine iP (.ptr ir 0) ?_
  refine iP (.ptr ir 0) ?_
  refine iP (.ptr ir 0) ?_
  refine iP (.ptr ir 9) ?_
  refine iR (.slice (s.objs.map cTh) .no) (fun z hz=>?_) ?_
  ·rw[hz];simp[o2]
  refine iP (.cptr (cVal v) 1) ?_
  refine iP (dI v.n) ?_
  refine iP (.cptr (cIns x) 1) ?_
  refine iP (dI x.a) ?_
  have aK:=SM p s.objs .no m x.a S2 hp hk hh br ho hc
  rw[<-hm]at aK
  refine iW (fun _=>True) aK (fun d S3 hr=>?_) (fun d S3 hr=>by obtain⟨_,h,_⟩:=hr;cases h)
  obtain⟨R2,hd,hT⟩:=hr
  obtain⟨i,c,cs,h4⟩:=hT.row (by rw[List.length_set];omega)
  cases hd
  refine⟨trivial,?_⟩
  rw[h4]
  have o3:=(hT.keep ir _ o2).1
  refine iP (.tup [.sref i 0 s.objs.length c,dI 0]) ?_
  refine iP (.sref i 0 s.objs.length c) ?_
  refine iP (dI 0) ?_
  refine iP (.ptr ir 0) ?_
  refine iP (.ptr ir 0) ?_
  refine iP (.ptr ir 9) ?_
  refine iS (d:=.any) (U':=S3.set ir (.cells ([dI 0,dI 0,dI 0,dI 0,.nils,dI 0,dI 0,.nils,.nils,.sref i 0 s.objs.length c,(R1 2).d s.evs.length]++Ae p++[dI s.pos,(R1 0).d r.length,(R1 1).d s.env.length]))) (fun _=>True) trivial ?_ (he:=by simp[o3])
  refine iN ?_
  refine gz ?_ o110
  obtain⟨p1,p2⟩:=aT.swap k2 o2 hT rfl
  refine drp (S3.set ir (.cells (AN p (F7 R1 R2) { s with stk:=r,objs:=s.objs.set m (CF (A3 p) s.objs[m] x.a) }))) ?_ (by unfold AN;rw[show F7 R1 R2 3=R2 3 from rfl,h4,List.length_set];exact Sub.refl _)
  refine A7 (Bp v p1 (by simp;omega)) (fun d S4 hr=>?_) (fun d S4 hr=>by cases hr.1)
  obtain⟨hd,R4,bM,bN⟩:=hr
  cases hd
  have e5:setObj s.objs v.n (CF (A3 p) (D4 s.objs v.n) x.a)=s.objs.set m (CF (A3 p) s.objs[m] x.a):=by unfold setObj;rw[bC,hm];rfl
  refine gz ?_ o110
  exact fin1 (U':=S4) ⟨R4,(aw.trans p2).trans bN,by rw[if_pos h3,e5];exact⟨rfl,bM⟩⟩
end
theorem Kq{f g:Nat->Option (Nat×Nat)}: ∀(ps:List (Nat×Value)) (cs:Array Value),(∀p∈ps,f p.1=g p.1)->Instr.fill f cs ps=Instr.fill g cs ps
 |[],cs,_=>rfl
 | (i,v)::ps,cs,h=>by
  rw[Instr.fill,Instr.fill,h (i,v) (by simp)]
  cases g i with
  |none=>rfl
  |some q=>
   obtain⟨o,z⟩:=q
   simp only
   split
   ·rfl
   ·exact Kq ps _ fun p hp=>h p (by simp[hp])
section
variable {ro:Ro}{n:Nat}{ops:Array Oper}{Q:DX->St->Prop}{df:List DDf}{rest:List Oper}{γ:List (Nat×D)}{O:Sig}{t:Nat}{ty:TypeId}{pos:String}{after:Array Edge}
theorem bldA{T len e:Nat}{parts:Array (Nat×Operand)}{out:List D}(h:DOps prog ro n ops Q rest ⟨(t,.agg out)::γ,O,df⟩)(hk:(tab T).k=.array len e:=by(simp<;>rfl))(he:A1 (tab e).k=false:=by simp)(hp:parts.all (fun p=>decide (p.1<len))=true:=by rfl)
  (ho:Po tab ((List.range len).map fun i=>(i*(tab e).size,e)) (tab T).zero (parts.toList.map fun p=>(p.1,ev γ p.2))=some out) (bf:decide (t<n)=true:=by exact tdR):DOps prog ro n ops Q (⟨some t,.build T parts,ty,pos,after,none⟩::rest) ⟨γ,O,df⟩:=by
 refine C4 (fun d U'=>d=.agg out/\U'=O) rfl (fun c e=>by cases e) (Ac fun c e=>by cases e) (by simp only[Aq];exact bf) ?_ (fun d U' ⟨a,b⟩=>by subst a b;exact h)
 intro g w a hs hT
 obtain⟨inf,desc,z,h1,h2,h3,h4,h5,h6,h7,h8,h9,bZ⟩:=C9 (Af T) (by rw[hk];simp)
 obtain⟨inf',desc',z',g1,g2,g3,g4,g5,g6,g7,g8,g9,g10⟩:=C9 (Af e) (Ag he)
 have hz:RepL g (tab T).zero z.cells.toList:=by
  rw[h9]
  exact AF (by simp) fun j x v e1 e2=>by
   rw[List.getElem?_map,e2]at e1
   cases e1;exact DG g v
 have bh:∀l:List (Nat×Operand),RepL g ((l.map fun p=>(p.1,ev γ p.2)).map (·.2)) ((l.map fun p=>(p.1,a.eval p.2)).map (·.2)):=fun l=>by
  induction l with
  |nil=>rfl
  |cons p l ih=>exact⟨_,_,rfl,Am hT p.2,ih⟩
 obtain⟨r,bc,bi⟩:=Jc (P:=prog) (tab:=tab) (g:=g) (fs:=(List.range len).map fun i=>(i*(tab e).size,e)) (places:=((List.range len).map fun i=>(i*(tab e).size,e)).map fun p=>(p.1,(tab p.2).size)) rfl (ps:=parts.toList.map fun p=>(p.1,a.eval p.2)) (cs:=z.cells) ho (by simp) (bh _) hz
 have hsz:inf'.size=(tab e).size:=by first|exact g4|exact g5|exact g6|exact g3|omega
 have hb:prog.built T (parts.toList.map fun p=>(p.1,a.eval p.2))=some r:=by
  unfold Program.built
  rw[h1,GH Af hk]
  simp only[h7,g1]
  rw[<-bc]
  refine Kq _ _ fun q hq=>?_
  obtain⟨p,bB,rfl⟩:=List.mem_map.1 hq
  have bd:p.1<len:=by
   have:=Array.all_eq_true_iff_forall_mem.1 hp p (by simpa using bB)
   simpa using this
  simp[bd,hsz]
 have:=run_build (P:=prog) w T (parts.map fun p=>(p.1,a.eval p.2)) r (by simpa using hb)
 refine⟨g,w,.agg r,.agg out,O,?_,.refl g,hs,⟨r.toList,by simp,bi⟩,rfl,rfl⟩
 simp only[execOp,Sem.run_bind]
 rw[this]
 rfl
end
def cActs:List D:=.nilf::(([105,106,107,108,109,110,111,112,113,113,113,113,113,114,115,116,117,118,119,120,121]:List Nat).map fun f=>D.func (.func f) [] [])
theorem UZ(O:Sig):DCall prog 49 [] O (rS (.agg cActs) O):=by
 refine en func49 ntmps49 ?_
 refine gz ?_ [] [0]
 refine newV (fun i0 bV=>?_)
 refine gz ?_ [] [0]
 refine bldA (len:=22) (e:=108) (out:=cActs) ?_ (hp:=by simp) (ho:=by kernel_rfl)
 simp only[cActs,List.map_cons,List.map_nil]
 refine gz ?_ [] [0]
 exact finC (U':=O) ⟨rfl,rfl⟩
@[reducible,instance] def a49:=fun O=>ah0 (@UZ O)
theorem Kn(bx:List Int): ∀(l:List Init) (seen:List Int),DM bx seen l=true->∀x∈l,inB x.n=true
 |[],_,_,_,h=>by cases h
 |y::r,seen,h,x,hx=>by
  rw[DM]at h
  simp only[Bool.and_eq_true]at h
  rcases List.mem_cons.1 hx with rfl|hx
  ·exact h.1.2
  ·exact Kn bx r _ h.2 x hx
theorem Md(p:BProg): ∀(l:List BClass) (i:Nat),B4 p i l=true->∀c∈l, ∀x∈c.inits,inB x.n=true
 |[],_,_,_,h=>by cases h
 |y::r,i,h,c,hc=>by
  rw[B4]at h
  simp only[Bool.and_eq_true]at h
  rcases List.mem_cons.1 hc with rfl|hc
  ·exact Kn _ _ _ h.1.2
  ·exact Md p r _ h.2 c hc
def OZ(m:List (Int×Int)):Prop:= ∀k,hasM k m=true->inB (getM 0 k m)=true
theorem Q4{m:List (Int×Int)}(h:OZ m)(s n:Int)(hn:inB n=true):OZ (putM s n m):=fun k hk=>by
 rw[EM]
 by_cases e:k=s
 ·rw[if_pos e];exact hn
 ·rw[if_neg e]
  rw[H4]at hk
  simp only[e,decide_false,Bool.false_or]at hk
  exact h k hk
theorem JY: ∀(l:List Init) (m:List (Int×Int)),OZ m->(∀x∈l,inB x.n=true)->OZ (E2 l m)
 |[],_,h,_=>h
 |x::r,_,h,hl=>JY r _ (Q4 h x.slot x.n (hl x (by simp))) fun y hy=>hl y (by simp[hy])
theorem Nf{p:BProg}(hk:okP p=true)(order:List Int):OZ (I7 p order):=by
 have hc:∀c∈p.classes, ∀x∈c.inits,inB x.n=true:=by
  have h2:=EG hk
  unfold Ap at h2
  simp only[Bool.and_eq_true]at h2
  obtain⟨_,h4⟩:=h2
  split at h4
  ·cases h4
  ·simp only[Bool.and_eq_true]at h4
   exact Md p _ _ h4.2
 unfold I7
 induction order with
 |nil=>intro k hk;simp[hasM]at hk
 | cons c r ih =>
  rw[List.foldr_cons,DP]
  split
  ·refine JY _ _ ih fun x hx=>?_
   cases hg:p.classes[(c-3).toNat]? with
   |none=>rw[hg]at hx;simp at hx
   |some cl=>rw[hg]at hx;exact hc cl (List.mem_of_getElem? hg) x hx
  ·exact ih
theorem HS{m:List (Int×Int)}(h:OZ m): ∀l:List Int, ∀x∈beginL m l,inB x.n=true
 |[],_,hx=>by cases hx
 | s::r,x,hx=>by
  rw[beginL]at hx
  split at hx
  ·rename_i hs
   rcases List.mem_cons.1 hx with rfl|hx
   ·exact h s hs
   ·exact HS h r x hx
  ·exact HS h r x hx
theorem Me{p:BProg}(hk:okP p=true)(c:Int):(hasP p c).length<=40:=by
 have h1:=Cz p c
 have h2:=EG hk
 unfold Ap at h2
 simp only[Bool.and_eq_true,decide_eq_true_eq]at h2
 obtain⟨h3,h4⟩:=h2
 have key:∀(l:List BClass) (n m:Int),AW n l=some m->wtL (fun c:BClass=>c.slots.length) l<=4*l.length:=fun l=>by
  induction l with
  |nil=>intro n m _;exact Nat.le_refl _
  | cons c r ih =>
   intro n m h
   rw[AW]at h
   split at h
   ·cases h
   ·split at h
    ·cases h
    ·have:=ih _ _ h
     simp only[wtL,List.length_cons];omega
 split at h4
 ·cases h4
 ·rename_i n hn
  have:=key _ _ _ hn
  omega
theorem TQ{p:BProg}(hk:okP p=true):WldOK p (A3 p):=by
 refine⟨fun c h1 h2=>?_,fun c _=>NB p c,fun c _=>Ba.2 fun v hv=>?_⟩
 ·show(ownF p c&&okP p)=true
  unfold ownF;rw[hk];simp;omega
 ·unfold A3 at hv
  obtain⟨s,_,rfl⟩:=List.mem_map.1 hv
  unfold frV
  split
  ·rename_i i hi
   have:=HS (Nf hk _) _ i (List.mem_of_find?_eq_some hi)
   unfold inB at this
   unfold okV vInt
   simp only[Bool.and_eq_true,decide_eq_true_eq]at this
   simp[this]
  ·simp[okV,EB]
theorem stk1{l:List MVal}(h:1<=l.length): ∃r v,l=r++[v]/\DS l=v/\l.dropLast=r:=by
 have hne:l≠[]:=fun e=>by rw[e]at h;simp at h
 refine⟨l.dropLast,l.getLast hne,(List.dropLast_concat_getLast hne).symm,?_,rfl⟩
 unfold DS;rw[List.getLast?_eq_some_getLast hne];rfl
theorem stk2{l:List MVal}(h:2<=l.length): ∃r w v,l=r++[w,v]/\DS l=v/\DS l.dropLast=w/\l.dropLast.dropLast=r/\l.dropLast=r++[w]:=by
 obtain⟨r,v,h1,h2,h3⟩:=stk1 (l:=l) (by omega)
 obtain⟨q,w,g1,g2,g3⟩:=stk1 (l:=l.dropLast) (by rw[List.length_dropLast];omega)
 refine⟨q,w,v,?_,h2,g2,g3,g1⟩
 rw[h1,<-h3,g1];simp
theorem OL{N:Int}{v:MVal}(h:okV N v=true): -1000000000<=AJ v/\AJ v<=1000000000:=by
 unfold AJ
 split
 ·rename_i h1
  unfold okV at h
  rw[if_pos h1]at h
  simpa using h
 ·omega
def actF(op:Int):Nat:=if op<=8 then 104+op.toNat else if op<=13 then 113 else 100+op.toNat
def ActR(ir:Nat)(p:BProg)(R:Nat->RW)(O:Sig)(r:GoS ⊕ GoH)(y:DE)(U':Sig):Prop:= ∃R',RunK ir R O R' U'/\match r with
 |.inl t=>y=.ret (.bool false)/\RunS ir p R' t U'
 |.inr h=>y=.ret (.bool true) /\ ∃s' av b,HaltS ir p R' s' av b h U'
theorem Vq{ir:Nat}{p:BProg}{R:Nat->RW}{t:GoS}{O:Sig}{N k q:Nat}{x:CIns}{l:CLev}{m:Met}{env:Int}{next:Bool}(hp:p.wt<=1073741824)(hk:okP p=true)(hI:InsOK p N k x l m env next)(am:fitsC p N q x=true)(bI:0<=env)
  (bQ:(t.stk.length:Int)=l.st) (bX:(t.env.length:Int)=l.env) (aW:okVs t.objs.length t.stk=true) (ba:Bh (A3 p) t.objs=true) (ay:t.stk.length<=1000000) (bl:t.env.length<=1000000) (bL:t.evs.length<=1000000) (hR:RunS ir p R t O) :
  DCall prog (actF x.op) [.ptr ir 0,.agg (cIns x)] O (ActR ir p R O (IX p (A3 p) x t)):=by
 have ht:=hI.take
 have bY:=(BL.1 ba).1
 unfold fitsC at am
 have f3:x.op=3->0<=x.a:=fun h=>by rw[if_neg (by omega),if_pos h]at am;simpa using am
 have f46:x.op=4\/x.op=6->ownF p x.a=true:=fun h=>by
  rw[if_neg (by omega),if_neg (by omega),if_pos h]at am
  unfold ownF;simp at am⊢; omega
 have f19:x.op=19->0<=x.a/\x.a<p.gens.length:=fun h=>by
  rw[if_neg (by omega),if_neg (by omega),if_neg (by omega),if_neg (by omega),if_neg (by omega),if_pos h]at am
  simpa using am
 have frg:1<=x.op/\x.op<=21:=by
  refine Classical.byContradiction fun h=>?_
  rw[if_neg (by omega),if_neg (by omega),if_neg (by omega),if_neg (by omega),if_neg (by omega),if_neg (by omega)]at am
  simp at am
  omega
 clear am
 rw[IX]
 by_cases e1:x.op=1
 ·rw[if_pos e1,show actF x.op=105 by rw[e1];rfl]
  exact(Td x hR ay).mono fun y U' ⟨h1,R',h2,h3⟩=>⟨R',h3,h1,h2⟩
 rw[if_neg e1]
 by_cases e2:x.op=2
 ·rw[if_pos e2,show actF x.op=106 by rw[e2];rfl]
  exact(Tc x hR ay).mono fun y U' ⟨h1,R',h2,h3⟩=>⟨R',h3,h1,h2⟩
 rw[if_neg e2]
 by_cases e3:x.op=3
 ·have hn:=hI.name e3
  have h0:=f3 e3
  have bd:x.a.toNat<t.env.length:=by omega
  rw[if_pos e3,show actF x.op=107 by rw[e3];rfl,List.getElem?_eq_getElem bd,Option.getD_some]
  exact(Tb x x.a.toNat (by omega) bd hR ay bl).mono fun y U' ⟨h1,R',h2,h3⟩=>⟨R',h3,h1,h2⟩
 rw[if_neg e3]
 by_cases e4:x.op=4
 ·rw[if_pos e4,show actF x.op=108 by rw[e4];rfl]
  refine(Ta x hp hk (f46 (.inl e4)) (by have:=Me hk x.a;omega) hR ay (by omega)).mono fun y U' ⟨R',h1,h2⟩=>⟨R',h1,?_⟩
  by_cases hn:40<=t.objs.length
  ·rw[if_pos hn]at h2⊢; exact⟨h2.1,_,_,_,h2.2⟩
  ·rw[if_neg hn]at h2⊢; exact h2
 rw[if_neg e4]
 by_cases e5:x.op=5
 ·have u:Ah p x=(1,1):=by unfold Ah;rw[if_neg (by omega),if_pos (by omega)]
  rw[u]at ht;simp only at ht
  obtain⟨r,v,hs,hv,hr⟩:=stk1 (l:=t.stk) (by omega)
  have aU:okV t.objs.length v=true:=hv ▸ EJ aW (by omega)
  rw[if_pos e5,show actF x.op=109 by rw[e5];rfl,hv,hr]
  refine(T9 x r v hp hR hs ay aU ba).mono fun y U' ⟨R',h1,h2⟩=>⟨R',h1,?_⟩
  by_cases hn:Bk (A3 p) t.objs v x.a<0
  ·rw[if_pos hn]at h2⊢; exact⟨h2.1,_,_,_,h2.2⟩
  ·rw[if_neg hn]at h2⊢; exact h2
 rw[if_neg e5]
 by_cases e6:x.op=6
 ·have u:Ah p x=(1,1):=by unfold Ah;rw[if_neg (by omega),if_pos (by omega)]
  rw[u]at ht;simp only at ht
  obtain⟨r,v,hs,hv,hr⟩:=stk1 (l:=t.stk) (by omega)
  have aU:okV t.objs.length v=true:=hv ▸ EJ aW (by omega)
  rw[if_pos e6,show actF x.op=110 by rw[e6];rfl,hv,hr]
  refine(T8 x r v hp hk (fun c=>by have:=Me hk c;omega) (f46 (.inr e6)) hR hs ay aU ba).mono fun y U' ⟨R',h1,h2⟩=>⟨R',h1,?_⟩
  by_cases hn:v.kind=3
  ·rw[if_pos hn]at h2⊢; exact h2
  ·rw[if_neg hn]at h2⊢; exact⟨h2.1,_,_,_,h2.2⟩
 rw[if_neg e6]
 by_cases e7:x.op=7
 ·have u:Ah p x=(1,1):=by unfold Ah;rw[if_neg (by omega),if_pos (by omega)]
  rw[u]at ht;simp only at ht
  obtain⟨r,v,hs,hv,hr⟩:=stk1 (l:=t.stk) (by omega)
  rw[if_pos e7,show actF x.op=111 by rw[e7];rfl,hv,hr]
  exact(T7 x r v hR hs ay bL).mono fun y U' ⟨h1,R',h2,h3⟩=>⟨R',h3,h1,h2⟩
 rw[if_neg e7]
 by_cases e8:x.op=8
 ·have u:Ah p x=(2,1):=by unfold Ah;rw[if_neg (by omega),if_neg (by omega),if_neg (by omega),if_neg (by omega),if_neg (by omega),if_neg (by omega)]
  rw[u]at ht;simp only at ht
  obtain⟨r,w,v,hs,hv,hw,hr,bc⟩:=stk2 (l:=t.stk) (by omega)
  have be:okV t.objs.length w=true:=hw ▸ EJ (CK aW) (by rw[List.length_dropLast];omega)
  rw[if_pos e8,show actF x.op=112 by rw[e8];rfl,hw,hv,hr]
  refine(T6 x r w v hp hR hs ay be ba).mono fun y U' ⟨R',h1,h2⟩=>⟨R',h1,?_⟩
  by_cases hn:Bk (A3 p) t.objs w x.a<0
  ·rw[if_pos hn]at h2⊢; exact⟨h2.1,_,_,_,h2.2⟩
  ·rw[if_neg hn]at h2⊢; exact h2
 rw[if_neg e8]
 by_cases e14:x.op=14
 ·have u:Ah p x=(1,0):=by unfold Ah;rw[if_neg (by omega),if_neg (by omega),if_pos (by omega)]
  rw[u]at ht;simp only at ht
  obtain⟨r,v,hs,hv,hr⟩:=stk1 (l:=t.stk) (by omega)
  rw[if_pos e14,show actF x.op=114 by rw[e14];rfl,hv,hr]
  exact(T4 x r v hR hs ay bl).mono fun y U' ⟨h1,R',h2,h3⟩=>⟨R',h3,h1,h2⟩
 rw[if_neg e14]
 by_cases e15:x.op=15
 ·have hd:=hI.drop e15
  obtain⟨r,v,hs,hv,hr⟩:=stk1 (l:=t.env) (by omega)
  rw[if_pos e15,show actF x.op=115 by rw[e15];rfl,hr]
  exact(T3 x r v hR hs bl).mono fun y U' ⟨h1,R',h2,h3⟩=>⟨R',h3,h1,h2⟩
 rw[if_neg e15]
 by_cases e16:x.op=16
 ·have u:Ah p x=(1,0):=by unfold Ah;rw[if_neg (by omega),if_neg (by omega),if_pos (by omega)]
  rw[u]at ht;simp only at ht
  obtain⟨r,v,hs,hv,hr⟩:=stk1 (l:=t.stk) (by omega)
  rw[if_pos e16,show actF x.op=116 by rw[e16];rfl,hr]
  exact(T1 x r v hR hs ay).mono fun y U' ⟨h1,R',h2,h3⟩=>⟨R',h3,h1,h2⟩
 rw[if_neg e16]
 by_cases e17:x.op=17
 ·have u:Ah p x=(1,0):=by unfold Ah;rw[if_neg (by omega),if_neg (by omega),if_pos (by omega)]
  rw[u]at ht;simp only at ht
  obtain⟨r,v,hs,hv,hr⟩:=stk1 (l:=t.stk) (by omega)
  rw[if_pos e17,show actF x.op=117 by rw[e17];rfl,hv,hr]
  exact(T0 x r v hR hs ay).mono fun y U' ⟨h1,R',h2,h3⟩=>⟨R',h3,h1,h2⟩
 rw[if_neg e17]
 by_cases e18:x.op=18
 ·rw[if_pos e18,show actF x.op=118 by rw[e18];rfl]
  exact(SZ x hR).mono fun y U' ⟨h1,R',h2,h3⟩=>⟨R',h3,h1,h2⟩
 rw[if_neg e18]
 by_cases e19:x.op=19
 ·obtain⟨a1,a2⟩:=f19 e19
  have u:Ah p x=(p.gens.getD x.a.toNat 0,1):=by unfold Ah;rw[if_neg (by omega),if_neg (by omega),if_neg (by omega),if_pos e19]
  rw[u]at ht;simp only at ht
  have bW:=(GA hk x.a.toNat).1
  have bt:x.a.toNat<p.gens.length:=by omega
  have bG:p.gens.getD x.a.toNat 0=p.gens[x.a.toNat]:=by rw[List.getD_eq_getElem?_getD,List.getElem?_eq_getElem bt];rfl
  rw[if_pos e19,show actF x.op=119 by rw[e19];rfl]
  refine(SY x (t.stk.take (t.stk.length-(p.gens.getD x.a.toNat 0).toNat)) (t.stk.drop (t.stk.length-(p.gens.getD x.a.toNat 0).toNat)) x.a.toNat hp (by omega) bt ?_ hR (List.take_append_drop _ _).symm ay).mono fun y U' ⟨h1,R',av,h2,h3⟩=>⟨R',h3,h1,_,_,_,h2⟩
  rw[<-bG,List.length_drop];omega
 rw[if_neg e19]
 by_cases e20:x.op=20
 ·rw[if_pos e20,show actF x.op=120 by rw[e20];rfl]
  exact(SX x hR).mono fun y U' ⟨h1,h2,h3⟩=>⟨R,h3,h1,_,_,_,h2⟩
 rw[if_neg e20]
 by_cases e21:x.op=21
 ·have hf:=hI.fin e21
  obtain⟨r,v,hs,hv,hr⟩:=stk1 (l:=t.stk) (by omega)
  rw[if_pos e21,show actF x.op=121 by rw[e21];rfl,hv]
  exact(SW x r v hR hs ay).mono fun y U' ⟨h1,R',h2,h3⟩=>⟨R',h3,h1,_,_,_,h2⟩
 rw[if_neg e21]
 have u:Ah p x=(2,1):=by unfold Ah;rw[if_neg (by omega),if_neg (by omega),if_neg (by omega),if_neg (by omega),if_neg (by omega),if_neg (by omega)]
 rw[u]at ht;simp only at ht
 obtain⟨r,w,v,hs,hv,hw,hr,bc⟩:=stk2 (l:=t.stk) (by omega)
 have aU:okV t.objs.length v=true:=hv ▸ EJ aW (by omega)
 have be:okV t.objs.length w=true:=hw ▸ EJ (CK aW) (by rw[List.length_dropLast];omega)
 rw[show actF x.op=113 by unfold actF;rw[if_neg (by omega),if_pos (by omega)],hw,hv,hr]
 exact(T5 x r w v (by omega) hR hs ay (OL be) (OL aU)).mono fun y U' ⟨h1,R',h2,h3⟩=>⟨R',h3,h1,h2⟩
end Go.DL
namespace Go.DL
open Go.Proofs.Tryz
open Go Go.Proofs
set_option maxHeartbeats 80000000
@[simp] theorem cIns_take(x:CIns):List.take 2 (cIns x)=cIns x:=rfl
@[simp] theorem mem_cIns(y:D)(x:CIns):y∈cIns x ↔ y=dI x.op\/y=dI x.a:=by simp[cIns]
def eIL(m:MetL):List (D×D):=eM dI (fun l=>.agg (cLev l)) m
@[simp] theorem hitILok(k:Int)(m:MetL):hitD tab 79 true (CA (.int .i64) (.int .i64 k) (eIL m) 0)=some (.tup [.agg [.int .i64 (getM ⟨0,0⟩ k m).st,.int .i64 (getM ⟨0,0⟩ k m).env],.bool (hasM k m)]):=Ol keyI (fun l=>.agg (cLev l)) rfl k m
@[simp] theorem hitIL(k:Int)(m:MetL):hitD tab 79 false (CA (.int .i64) (.int .i64 k) (eIL m) 0)=some (.agg [.int .i64 (getM ⟨0,0⟩ k m).st,.int .i64 (getM ⟨0,0⟩ k m).env]):=Rb keyI (fun l=>.agg (cLev l)) rfl k m
@[simp] theorem putIL(k a b:Int)(m:MetL):CV (.int .i64) (.int .i64 k) (.agg [.int .i64 a,.int .i64 b]) (eIL m)=some (eIL (putM k ⟨a,b⟩ m)):=O5 keyI (fun l=>.agg (cLev l)) k ⟨a,b⟩ m
def ReR(p:BProg)(c:CProg)(im2:Nat)(m:MetL)(n:Int)(l:CLev)(O:Sig)(x:DE)(U':Sig):Prop:=
 if n<0\/(c.ins.length:Int)<=n\/(hasM n m=true/\getM ⟨0,0⟩ n m≠l) then x=.panic unfC/\U'=O else x=.ret (.tup [])/\U'=O.set im2 (.map (eIL (putM n l m)))
theorem CM(p:BProg)(c:CProg)(im im2:Nat)(m:MetL)(n:Int)(l:CLev)(O:Sig)(hc:c.ins.length<=300)(hm:O im2=some (.map (eIL m))):DCall prog 170 [dI n,.agg (cLev l),.cptr [.map im2] 0,.cptr [cChk p c im] 0] O (ReR p c im2 m n l O):=by
 obtain⟨st,env⟩:=l
 refine en func170 ntmps170 ?_
 by_cases h1:n<0
 ·refine gf hm ?_
  exact finP (U':=O) (by unfold ReR;rw[if_pos (.inl h1)];exact⟨rfl,rfl⟩)
 by_cases h2:(c.ins.length:Int)<=n
 ·refine gf hm ?_
  exact finP (U':=O) (by unfold ReR;rw[if_pos (.inr (.inl h2))];exact⟨rfl,rfl⟩)
 cases hh:hasM n m with
 |false=>
  refine gf (gi hm hh) ?_
  exact EO (U':=O.set im2 (.map (eIL (putM n ⟨st,env⟩ m)))) (by unfold ReR;rw[if_neg (by rintro(h|h|h);exact h1 h;exact h2 h;rw[hh]at h;cases h.1)];exact⟨rfl,rfl⟩)
 | true =>
  refine gf (gi hm hh) ?_
  refine eqlS _ (decide (getM ⟨0,0⟩ n m=(⟨st,env⟩:CLev))) Tm R7 (eqLev _ _) ?_
  by_cases he:getM ⟨0,0⟩ n m=(⟨st,env⟩:CLev)
  ·refine gf (gi he hm) ?_
   exact EO (U':=O.set im2 (.map (eIL (putM n ⟨st,env⟩ m)))) (by unfold ReR;rw[if_neg (by rintro(h|h|h);exact h1 h;exact h2 h;exact h.2 he)];exact⟨rfl,rfl⟩)
  ·refine gf he ?_
   exact finP (U':=O) (by unfold ReR;rw[if_pos (.inr (.inr ⟨hh,he⟩))];exact⟨rfl,rfl⟩)
theorem ReR.met{p:BProg}{c:CProg}{im2:Nat}{m:MetL}{n:Int}{l:CLev}{O:Sig}{x:DE}{U':Sig}(h:ReR p c im2 m n l O x U'):(BJ c.ins.length (metOf m) n l=none/\x=.panic unfC/\U'=O)\/(BJ c.ins.length (metOf m) n l=some (metOf (putM n l m))/\x=.ret (.tup [])/\U'=O.set im2 (.map (eIL (putM n l m)))/\0<=n/\n<c.ins.length):=by
 unfold ReR at h
 unfold BJ
 have e:(n<0\/(c.ins.length:Int)<=n\/(hasM n m=true/\getM ⟨0,0⟩ n m≠l)) ↔ (n<0\/(c.ins.length:Int)<=n\/(metOf m n.toNat≠none/\metOf m n.toNat≠some l)):=by
  by_cases h1:n<0
  ·simp[h1]
  ·have hn:((n.toNat:Nat):Int)=n:=by omega
   unfold metOf
   rw[hn]
   cases hh:hasM n m<;>simp
 split at h
 ·rename_i hc
  rw[if_pos (e.1 hc)]
  exact .inl ⟨rfl,h⟩
 ·rename_i hc
  rw[if_neg fun k=>hc (e.2 k)]
  have hn:n=((n.toNat:Nat):Int):=by
   have:¬n<0:=fun k=>hc (.inl k)
   omega
  refine .inr ⟨?_,h.1,h.2,by omega,?_⟩
  ·have h3:=D5 m n.toNat l
   rw[<-hn]at h3
   rw[h3]
  ·have:¬(c.ins.length:Int)<=n:=fun k=>hc (.inr (.inl k))
   omega
theorem newIL{ro:Ro}{n:Nat}{ops:Array Oper}{Q:DX->St->Prop}{df:List DDf}{rest:List Oper}{γ:Fr}{O:Sig}{t:Nat}{ty:TypeId}{pos:String}{after:Array Edge}{T:Nat}(h:∀i,O i=none->DOps prog ro n ops Q rest ⟨(t,.map i)::γ,O.set i (.map (eIL [])),df⟩)(bf:decide (t<n)=true:=by exact tdR):DOps prog ro n ops Q (⟨some t,.makeMap T none,ty,pos,after,none⟩::rest) ⟨γ,O,df⟩:=newM h bf
def cSt(s:CSt):List D:=[dI s.pos,dI s.env,.bool s.next]
theorem UA{c:CProg}{q:Nat}(h:q<c.ins.length):AC c q=c.ins[q]:=by unfold AC;rw[List.getElem?_eq_getElem h];rfl
theorem KR{m:MetL}{n:Nat}{lv:CLev}{env:Int}{q:Nat}(hb:∀j l,metOf m j=some l->0<=l.st/\l.st<=q/\env<=l.env/\l.env<=env+q)(h:0<=lv.st/\lv.st<=q+1/\env<=lv.env/\lv.env<=env+q+1){z:Int}(hz:z=(n:Int)): ∀j l,metOf (putM z lv m) j=some l->0<=l.st/\l.st<=((q+1:Nat):Int)/\env<=l.env/\l.env<=env+((q+1:Nat):Int):=fun j l hj=>by
 rw[hz,D5]at hj
 unfold updM at hj
 split at hj
 ·cases hj;omega
 ·have:=hb j l hj;omega
theorem bd_put2{m:MetL}{n k:Nat}{lv:CLev}{env:Int}{q:Nat}(hb:∀j l,metOf m j=some l->0<=l.st/\l.st<=q/\env<=l.env/\l.env<=env+q)(h:0<=lv.st/\lv.st<=q+1/\env<=lv.env/\lv.env<=env+q+1){z y:Int}(hz:z=(n:Int))(hy:y=(k:Int)): ∀j l,metOf (putM z lv (putM y lv m)) j=some l->0<=l.st/\l.st<=((q+1:Nat):Int)/\env<=l.env/\l.env<=env+((q+1:Nat):Int):=fun j l hj=>by
 rw[hz,D5,hy,D5]at hj
 unfold updM at hj
 split at hj
 ·cases hj;omega
 ·split at hj
  ·cases hj;omega
  ·have:=hb j l hj;omega
theorem SR {S:Type} (p:BProg) (c:CProg) (im:Nat) (s:CSt) (lb:Nat) (Good:Sig->S->Prop) (Bad:Sig->Prop) (touch:Nat->Prop) (step:Nat->CLev->S->Option S) (hp:p.wt<=1073741824) (hc:c.ins.length<=300) (am:Cl p c.ins.length c.ins 0=true) (bH : ∀ n:Nat,0<=p.gens.getD n 0/\p.gens.getD n 0<=3) (he:0<=s.env/\s.env<=1000)
  (hy:∀k l O s,k<c.ins.length->Good O s->DYield prog lb [dI k,.agg (cLev l)] O (OutO unfC (.bool true) Good Bad touch O (step k l s))) (O:Sig) (s0:S) (hG:Good O s0)
  (hI:∀a,O a=none->∀S1 s o,Good S1 s->Good (S1.set a o) s) (ht:∀a,O a=none->¬touch a) (hB:∀S1 s,Good S1 s->Bad S1) :
  DCall prog 169 [.yld lb,.cptr [cChk p c im] 0,.cptr (cSt s) 0] O (OutO unfC (.tup []) Good Bad touch O (BH p c s step s0)):=by
 obtain⟨p1,p2,p3,p4,p5,p6,p7⟩:=p.wt_le
 obtain⟨bK,bJ⟩:=he
 obtain⟨pos,env,next⟩:=s
 simp only at bK bJ
 refine en func169 ntmps169 ?_
 refine gz ?_ [] [12]
 refine newIL (fun im2 aq=>?_)
 refine gz ?_ [] [12]
 refine A7 (CM p c im im2 [] pos ⟨0,env⟩ _ hc (w6 ..)) (fun d U' hr=>?_) (fun d U' hr=>?_)
 ·rcases hr.met with ⟨_,h,_⟩ | ⟨bc,bi,bA,bS,bR⟩
  ·cases h
  cases bi
  subst bA
  obtain⟨q0,rfl⟩:∃q0:Nat,pos=(q0:Int):=⟨pos.toNat,by omega⟩
  refine gz ?_ [] [12]
  have nim:∀j o,O j=some o->j≠im2:=fun j o h e=>by rw[e,aq]at h;cases h
  refine QR [0,1,2,4,5] (fun (q:Nat) (m:MetL) (s1:S) (S1:Sig)=>q0<=q/\q<=c.ins.length/\Good S1 s1/\S1 im2=some (.map (eIL m))/\(∀j o,O j=some o->¬touch j->S1 j=some o)/\BH p c ⟨(q0:Int),env,next⟩ step s0=Gg p c env next step (c.ins.length-q) q (metOf m) s1 /\ ∀j l,metOf m j=some l->0<=l.st/\l.st<=q/\env<=l.env/\l.env<=env+q) (fun q _ _ _=>[(6,dI q)]) (fun _ _ _ S1=>S1) (fun q _ _ _=>c.ins.length-q) (q0) (putM (q0:Int) ⟨0,env⟩ []) (s0) ((O.set im2 (.map (eIL []))).set im2 (.map (eIL (putM (q0:Int) ⟨0,env⟩ [])))) (by exact⟨Nat.le_refl _,by omega,hI im2 aq _ _ _ (hI im2 aq _ _ _ hG),w6 .., fun j o h _=>by rw[w7 _ _ (nim j o h),w7 _ _ (nim j o h)];exact h,by unfold BH;rw[if_neg (by simp only;omega),D5];rfl,fun j l h=>by rw[D5]at h;unfold updM at h;split at h;(cases h;simp only;omega);cases h⟩) (fun q m s1 S1 hI=>?_)
  obtain⟨bU,bT,ax,ak,aw,hR,aH⟩:=hI
  by_cases hq:q<c.ins.length
  ·have aV:c.ins.length-q=(c.ins.length-(q+1))+1:=by omega
   rw[aV,Gg,UA hq]at hR
   have aF:=HU _ _ am q _ (List.getElem?_eq_getElem hq)
   rw[Nat.zero_add]at aF
   cases aG:metOf m q with
   | none =>
    have hh:hasM (q:Int) m=false:=by
     unfold metOf at aG
     split at aG
     ·cases aG
     ·rename_i h;simpa using h
    rw[aG]at hR
    simp only at hR
    refine gf (gi ak hh) ?_ [] [12]
    exact⟨q+1,m,s1,S1,⟨by omega,by omega,ax,ak,aw,hR,fun j l h=>by have:=aH j l h;omega⟩,td1,wkR⟩
   | some l =>
    have hh:hasM (q:Int) m=true/\getM ⟨0,0⟩ (q:Int) m=l:=by
     unfold metOf at aG
     split at aG
     ·rename_i h;exact⟨h,by simpa using aG⟩
     ·cases aG
    obtain⟨aC,aB⟩:=hh
    obtain⟨b1,b2,b3,b4⟩:=aH q l aG
    rw[aG]at hR
    simp only at hR
    have hu:=fun bP:(c.ins[q]).op=19=>(show 0<=(c.ins[q]).a/\(c.ins[q]).a<p.gens.length by unfold fitsQ at aF;rw[bP]at aF;simpa using aF)
    have bp:0<=(Ah p c.ins[q]).1/\(Ah p c.ins[q]).1<=3/\0<=(Ah p c.ins[q]).2/\(Ah p c.ins[q]).2<=1:=by
     have:=bH (c.ins[q]).a.toNat
     unfold Ah
     repeat' split
     all_goals simp only;omega
    obtain⟨x,hx⟩:∃x,x=c.ins[q]:=⟨_,rfl⟩
    rw[<-hx]at hR aF hu bp
    have ac:=hx.symm
    have i171:∀O,Ans 171 [cChk p c im,.agg (cIns x)] O True (.tup [dI (Ah p x).1,dI (Ah p x).2]):=fun O=>ah0 (SQ p c im x O hp hu)
    generalize bn:Ah p x=us at*
    obtain⟨take,give⟩:=us
    obtain⟨st,en⟩:=l
    simp only at bp b1 b2 b3 b4
    by_cases aE:¬(take<=st/\(x.op=3->x.a<en)/\(x.op=20->next=true))
    ·have ap:BH p c ⟨(q0:Int),env,next⟩ step s0=none:=by
      rw[hR]
      have:CG p c env next q x ⟨st,en⟩ (metOf m)=none:=by
       unfold CG;rw[bn]
       refine if_pos ?_
       by_cases k1:take<=st
       ·by_cases k2:x.op=3->x.a<en
        ·by_cases k3:x.op=20->next=true
         ·exact absurd ⟨k1,k2,k3⟩ aE
         ·rw[Classical.not_imp]at k3
          exact .inr (.inr (.inr ⟨k3.1,by simpa using k3.2⟩))
        ·rw[Classical.not_imp]at k2
         exact .inr (.inl ⟨k2.1,by have:=k2.2;show en<=x.a;omega⟩)
       ·exact .inl (by show st<take;omega)
      rw[this]
     have aY:st<take\/(x.op=3/\en<=x.a)\/(x.op=20/\next=false):=by
      by_cases k1:take<=st
      ·by_cases k2:x.op=3->x.a<en
       ·by_cases k3:x.op=20->next=true
        ·exact absurd ⟨k1,k2,k3⟩ aE
        ·rw[Classical.not_imp]at k3
         exact .inr (.inr ⟨k3.1,by simpa using k3.2⟩)
       ·rw[Classical.not_imp]at k2
        exact .inr (.inl ⟨k2.1,by have:=k2.2;omega⟩)
      ·exact .inl (by omega)
     clear aE hR
     rcases aY with k1|⟨k1,k2⟩|⟨k1,k2⟩
     ·repeat' first|refine gf (gi ak (gi aC (gi aB ac))) ?_ [] [12]|apply gy<;>intro hh
      all_goals exact finP (U':=S1) (by rw[ap];exact⟨rfl,hB _ _ ax⟩)
     ·repeat' first|refine gf (gi ak (gi aC (gi aB (gi ac k1)))) ?_ [] [12]|apply gy<;>intro hh
      all_goals exact finP (U':=S1) (by rw[ap];exact⟨rfl,hB _ _ ax⟩)
     ·repeat' first|refine gf (gi ak (gi aC (gi aB (gi ac (gi k1 k2))))) ?_ [] [12]|apply gy<;>intro hh
      all_goals exact finP (U':=S1) (by rw[ap];exact⟨rfl,hB _ _ ax⟩)
    ·rw [Classical.not_not] at aE
     obtain⟨e1,e2,e3⟩:=aE
     have bb:¬(st<take\/(x.op=3/\en<=x.a)\/(x.op=15/\en<=env)\/(x.op=20/\next=false)) ↔ ¬(x.op=15/\en<=env):=by
      constructor
      ·intro h k;exact h (.inr (.inr (.inl k)))
      ·rintro h (k|⟨k,k2⟩|k|⟨k,k2⟩)
       ·omega
       ·have:=e2 k;omega
       ·exact h k
       ·rw[e3 k]at k2;cases k2
     have aD:∀l:CLev,CG p c env next q x ⟨st,en⟩ (metOf m)=if(st<take\/(x.op=3/\en<=x.a)\/(x.op=15/\en<=env)\/(x.op=20/\next=false)) then none
      else if x.op=21 then(if st=1/\en=env then some (metOf m) else none)
      else if x.op=14 then BJ c.ins.length (metOf m) ((q:Int)+1) ⟨st-take+give,en+1⟩
      else if x.op=15 then BJ c.ins.length (metOf m) ((q:Int)+1) ⟨st-take+give,en-1⟩
      else if x.op=18 then BJ c.ins.length (metOf m) x.a ⟨st-take+give,en⟩
      else if x.op=17 then(match BJ c.ins.length (metOf m) x.a ⟨st-take+give,en⟩with
       |none=>none
       |some m=>BJ c.ins.length m ((q:Int)+1) ⟨st-take+give,en⟩)
      else BJ c.ins.length (metOf m) ((q:Int)+1) ⟨st-take+give,en⟩:=fun _=>by unfold CG;rw[bn];rfl
     rw[aD ⟨0,0⟩]at hR
     clear aD
     by_cases aI:x.op=21
     ·rw[if_neg (bb.2 (by omega)),if_pos aI]at hR
      by_cases aN:st=1/\en=env
      ·rw[if_pos aN]at hR
       obtain⟨g1,g2⟩:=aN
       simp only at hR
       refine gf (gi ak (gi aC (gi aB (gi ac aI)))) ?_ [] [12]
       refine yldW (hy q ⟨st,en⟩ S1 s1 hq ax) (fun d S2 hr=>?_) (fun d S2 hr=>?_)
       rotate_left
       ·obtain⟨hn,rfl,hb⟩:=hr.pan
        rw[hn]at hR
        have ap:BH p c ⟨(q0:Int),env,next⟩ step s0=none:=by first|exact hR|(rw[hR];split<;>rfl)
        exact finP (U':=S2) (by rw[ap];exact⟨rfl,hb⟩)
       obtain⟨s2,ar,rfl,ai,ah⟩:=hr.ret
       rw[ar]at hR
       have hm2:=ah im2 _ ak (ht im2 aq)
       have au:∀j o,O j=some o->¬touch j->S2 j=some o:=fun j o h1 h2=>ah j o (aw j o h1 h2) h2
       refine gf (gi ac aI) ?_ [] [12]
       refine newV (fun i12 aa=>?_)
       have n12:im2≠i12:=fun e=>by rw[<-e,hm2]at aa;cases aa
       refine gf (gi ac aI) ?_ [] [12]
       exact⟨q+1,m,s2,S2,⟨by omega,by omega,ai,hm2,au,hR,fun j l h=>by have:=aH j l h;omega⟩,td1,wkR⟩
      ·rw[if_neg aN]at hR
       simp only at hR
       refine gf (gi ak (gi aC (gi aB (gi ac aI)))) ?_ [] [12]
       refine yldW (hy q ⟨st,en⟩ S1 s1 hq ax) (fun d S2 hr=>?_) (fun d S2 hr=>?_)
       rotate_left
       ·obtain⟨hn,rfl,hb⟩:=hr.pan
        have ap:BH p c ⟨(q0:Int),env,next⟩ step s0=none:=hR
        exact finP (U':=S2) (by rw[ap];exact⟨rfl,hb⟩)
       obtain⟨s2,ar,rfl,ai,ah⟩:=hr.ret
       have hm2:=ah im2 _ ak (ht im2 aq)
       have au:∀j o,O j=some o->¬touch j->S2 j=some o:=fun j o h1 h2=>ah j o (aw j o h1 h2) h2
       refine gf (gi ac aI) ?_ [] [12]
       refine newV (fun i12 aa=>?_)
       have n12:im2≠i12:=fun e=>by rw[<-e,hm2]at aa;cases aa
       repeat' first|refine gf (gi ac aI) ?_ [] [12]|apply gy<;>intro hh
       all_goals exact finP (U':=S2) (by rw[hR];exact⟨rfl,hB _ _ ai⟩)
     have aj:∀(i12:Nat) (o o':DObj),im2≠i12->S1=S1->∀S2:Sig,S2 i12=none->Sub (S2.set im2 o) ((S2.set i12 o').set im2 o):=fun i12 o o' hn _ S2 aa k y hk=>by
      by_cases bu:k=im2
      ·subst bu;rw[w6]at hk⊢; exact hk
      ·rw[w7 _ _ bu]at hk⊢
       rw[w7 _ _ (fun e=>by rw[e,aa]at hk;cases hk)];exact hk
     ·by_cases aS:x.op=14
      ·rw[if_neg (bb.2 (by omega)),if_neg aI,if_pos aS]at hR
       refine gf (gi ak (gi aC (gi aB (gi ac aS)))) ?_ [] [12]
       refine yldW (hy q ⟨st,en⟩ S1 s1 hq ax) (fun d S2 hr=>?_) (fun d S2 hr=>?_)
       rotate_left
       ·obtain⟨hn,rfl,hb⟩:=hr.pan
        rw[hn]at hR
        have ap:BH p c ⟨(q0:Int),env,next⟩ step s0=none:=by first|exact hR|(rw[hR];split<;>rfl)
        exact finP (U':=S2) (by rw[ap];exact⟨rfl,hb⟩)
       obtain⟨s2,ar,rfl,ai,ah⟩:=hr.ret
       rw[ar]at hR
       have hm2:=ah im2 _ ak (ht im2 aq)
       have au:∀j o,O j=some o->¬touch j->S2 j=some o:=fun j o h1 h2=>ah j o (aw j o h1 h2) h2
       refine gf (gi ac aS) ?_ [] [12]
       refine newV (fun i12 aa=>?_)
       have n12:im2≠i12:=fun e=>by rw[<-e,hm2]at aa;cases aa
       refine gf (gi ac aS) ?_ [] [12]
       refine A7 (CM p c im im2 (m) ((q:Int)+1) ⟨st-take+give,en+1⟩ _ hc (by rw[w7 _ _ n12];exact hm2)) (fun d S3 hr=>?_) (fun d S3 hr=>?_)
       rotate_left
       ·rcases hr.met with⟨hn,ag,ae⟩|⟨_,h5,_⟩
        ·cases ag
         subst ae
         rw[hn]at hR
         exact finP (U':=S2) (by rw[hR];exact⟨rfl,hB _ _ ai⟩)
        ·cases h5
       rcases hr.met with⟨_,h5,_⟩|⟨hn,ag,ae,aP,aO⟩
       ·cases h5
       cases ag
       subst ae
       rw[hn]at hR
       simp only at hR
       have aA:=aj i12 (.map (eIL (putM ((q:Int)+1) ⟨st-take+give,en+1⟩ m))) (.cells [dI (st-take+give),dI (en+1)]) n12 rfl S2 aa
       refine gf aS ?_ [] [12]
       exact⟨q+1,putM ((q:Int)+1) ⟨st-take+give,en+1⟩ m,s2,S2.set im2 (.map (eIL (putM ((q:Int)+1) ⟨st-take+give,en+1⟩ m))),⟨by omega,by omega,hI im2 aq _ _ _ ai,w6 .., fun j o h1 h2=>by rw[w7 _ _ (nim j o h1)];exact au j o h1 h2,hR,KR (n:=q+1) aH (by simp only;omega) (by omega)⟩,td1,wkR⟩
      ·by_cases aJ:x.op=15
       ·by_cases bm:en<=env
        ·rw[if_pos (.inr (.inr (.inl ⟨aJ,bm⟩)))]at hR
         simp only at hR
         refine gf (gi ak (gi aC (gi aB (gi ac aJ)))) ?_ [] [12]
         refine yldW (hy q ⟨st,en⟩ S1 s1 hq ax) (fun d S2 hr=>?_) (fun d S2 hr=>?_)
         rotate_left
         ·obtain⟨hn,rfl,hb⟩:=hr.pan
          have ap:BH p c ⟨(q0:Int),env,next⟩ step s0=none:=hR
          exact finP (U':=S2) (by rw[ap];exact⟨rfl,hb⟩)
         obtain⟨s2,ar,rfl,ai,ah⟩:=hr.ret
         have hm2:=ah im2 _ ak (ht im2 aq)
         have au:∀j o,O j=some o->¬touch j->S2 j=some o:=fun j o h1 h2=>ah j o (aw j o h1 h2) h2
         refine gf (gi ac aJ) ?_ [] [12]
         refine newV (fun i12 aa=>?_)
         have n12:im2≠i12:=fun e=>by rw[<-e,hm2]at aa;cases aa
         repeat' first|refine gf (gi ac aJ) ?_ [] [12]|apply gy<;>intro hh
         all_goals exact finP (U':=S2) (by rw[hR];exact⟨rfl,hB _ _ ai⟩)
        ·rw[if_neg (bb.2 (by omega)),if_neg aI,if_neg aS,if_pos aJ]at hR
         refine gf (gi ak (gi aC (gi aB (gi ac aJ)))) ?_ [] [12]
         refine yldW (hy q ⟨st,en⟩ S1 s1 hq ax) (fun d S2 hr=>?_) (fun d S2 hr=>?_)
         rotate_left
         ·obtain⟨hn,rfl,hb⟩:=hr.pan
          rw[hn]at hR
          have ap:BH p c ⟨(q0:Int),env,next⟩ step s0=none:=by first|exact hR|(rw[hR];split<;>rfl)
          exact finP (U':=S2) (by rw[ap];exact⟨rfl,hb⟩)
         obtain⟨s2,ar,rfl,ai,ah⟩:=hr.ret
         rw[ar]at hR
         have hm2:=ah im2 _ ak (ht im2 aq)
         have au:∀j o,O j=some o->¬touch j->S2 j=some o:=fun j o h1 h2=>ah j o (aw j o h1 h2) h2
         refine gf (gi ac aJ) ?_ [] [12]
         refine newV (fun i12 aa=>?_)
         have n12:im2≠i12:=fun e=>by rw[<-e,hm2]at aa;cases aa
         refine gf (gi ac aJ) ?_ [] [12]
         refine A7 (CM p c im im2 (m) ((q:Int)+1) ⟨st-take+give,en-1⟩ _ hc (by rw[w7 _ _ n12];exact hm2)) (fun d S3 hr=>?_) (fun d S3 hr=>?_)
         rotate_left
         ·rcases hr.met with⟨hn,ag,ae⟩|⟨_,h5,_⟩
          ·cases ag
           subst ae
           rw[hn]at hR
           exact finP (U':=S2) (by rw[hR];exact⟨rfl,hB _ _ ai⟩)
          ·cases h5
         rcases hr.met with⟨_,h5,_⟩|⟨hn,ag,ae,aP,aO⟩
         ·cases h5
         cases ag
         subst ae
         rw[hn]at hR
         simp only at hR
         have aA:=aj i12 (.map (eIL (putM ((q:Int)+1) ⟨st-take+give,en-1⟩ m))) (.cells [dI (st-take+give),dI (en-1)]) n12 rfl S2 aa
         refine gf aJ ?_ [] [12]
         exact⟨q+1,putM ((q:Int)+1) ⟨st-take+give,en-1⟩ m,s2,S2.set im2 (.map (eIL (putM ((q:Int)+1) ⟨st-take+give,en-1⟩ m))),⟨by omega,by omega,hI im2 aq _ _ _ ai,w6 .., fun j o h1 h2=>by rw[w7 _ _ (nim j o h1)];exact au j o h1 h2,hR,KR (n:=q+1) aH (by simp only;omega) (by omega)⟩,td1,wkR⟩
       ·rw [if_neg (bb.2 (by omega)),if_neg aI,if_neg aS,if_neg aJ] at hR
        by_cases aR:x.op=18
        ·rw[if_pos aR]at hR
         have bz:(q:Int)<x.a/\x.a<c.ins.length:=by unfold fitsQ at aF;rw[aR]at aF;simpa using aF
         obtain⟨xa,aM⟩:∃xa:Nat,x.a=(xa:Int):=⟨x.a.toNat,by omega⟩
         refine gf (gi ak (gi aC (gi aB (gi ac aR)))) ?_ [] [12]
         refine yldW (hy q ⟨st,en⟩ S1 s1 hq ax) (fun d S2 hr=>?_) (fun d S2 hr=>?_)
         rotate_left
         ·obtain⟨hn,rfl,hb⟩:=hr.pan
          rw[hn]at hR
          have ap:BH p c ⟨(q0:Int),env,next⟩ step s0=none:=by first|exact hR|(rw[hR];split<;>rfl)
          exact finP (U':=S2) (by rw[ap];exact⟨rfl,hb⟩)
         obtain⟨s2,ar,rfl,ai,ah⟩:=hr.ret
         rw[ar]at hR
         have hm2:=ah im2 _ ak (ht im2 aq)
         have au:∀j o,O j=some o->¬touch j->S2 j=some o:=fun j o h1 h2=>ah j o (aw j o h1 h2) h2
         refine gf (gi ac aR) ?_ [] [12]
         refine newV (fun i12 aa=>?_)
         have n12:im2≠i12:=fun e=>by rw[<-e,hm2]at aa;cases aa
         refine gf (gi ac aR) ?_ [] [12]
         refine A7 (CM p c im im2 (m) (x.a) ⟨st-take+give,en⟩ _ hc (by rw[w7 _ _ n12];exact hm2)) (fun d S3 hr=>?_) (fun d S3 hr=>?_)
         rotate_left
         ·rcases hr.met with⟨hn,ag,ae⟩|⟨_,h5,_⟩
          ·cases ag
           subst ae
           rw[hn]at hR
           exact finP (U':=S2) (by rw[hR];exact⟨rfl,hB _ _ ai⟩)
          ·cases h5
         rcases hr.met with⟨_,h5,_⟩|⟨hn,ag,ae,aP,aO⟩
         ·cases h5
         cases ag
         subst ae
         rw[hn]at hR
         simp only at hR
         have aA:=aj i12 (.map (eIL (putM x.a ⟨st-take+give,en⟩ m))) (.cells [dI (st-take+give),dI en]) n12 rfl S2 aa
         refine gf aR ?_ [] [12]
         exact⟨q+1,putM x.a ⟨st-take+give,en⟩ m,s2,S2.set im2 (.map (eIL (putM x.a ⟨st-take+give,en⟩ m))),⟨by omega,by omega,hI im2 aq _ _ _ ai,w6 .., fun j o h1 h2=>by rw[w7 _ _ (nim j o h1)];exact au j o h1 h2,hR,KR (n:=xa) aH (by simp only;omega) aM⟩,td1,wkR⟩
        ·rw [if_neg aR] at hR
         by_cases aL:x.op=17
         ·rw[if_pos aL]at hR
          have bz:(q:Int)<x.a/\x.a<c.ins.length:=by unfold fitsQ at aF;rw[aL]at aF;simpa using aF
          obtain⟨xa,aM⟩:∃xa:Nat,x.a=(xa:Int):=⟨x.a.toNat,by omega⟩
          refine gf (gi ak (gi aC (gi aB (gi ac aL)))) ?_ [] [12]
          refine yldW (hy q ⟨st,en⟩ S1 s1 hq ax) (fun d S2 hr=>?_) (fun d S2 hr=>?_)
          rotate_left
          ·obtain⟨hn,rfl,hb⟩:=hr.pan
           rw[hn]at hR
           have ap:BH p c ⟨(q0:Int),env,next⟩ step s0=none:=by first|exact hR|(rw[hR];split<;>rfl)
           exact finP (U':=S2) (by rw[ap];exact⟨rfl,hb⟩)
          obtain⟨s2,ar,rfl,ai,ah⟩:=hr.ret
          rw[ar]at hR
          have hm2:=ah im2 _ ak (ht im2 aq)
          have au:∀j o,O j=some o->¬touch j->S2 j=some o:=fun j o h1 h2=>ah j o (aw j o h1 h2) h2
          refine gf (gi ac aL) ?_ [] [12]
          refine newV (fun i12 aa=>?_)
          have n12:im2≠i12:=fun e=>by rw[<-e,hm2]at aa;cases aa
          refine gf (gi ac aL) ?_ [] [12]
          refine A7 (CM p c im im2 (m) (x.a) ⟨st-take+give,en⟩ _ hc (by rw[w7 _ _ n12];exact hm2)) (fun d S3 hr=>?_) (fun d S3 hr=>?_)
          rotate_left
          ·rcases hr.met with⟨hn,ag,ae⟩|⟨_,h5,_⟩
           ·cases ag
            subst ae
            rw[hn]at hR
            exact finP (U':=S2) (by rw[hR];exact⟨rfl,hB _ _ ai⟩)
           ·cases h5
          rcases hr.met with⟨_,h5,_⟩|⟨hn,ag,ae,aP,aO⟩
          ·cases h5
          cases ag
          subst ae
          rw[hn]at hR
          simp only at hR
          have bq:=aj i12 (.map (eIL (putM x.a ⟨st-take+give,en⟩ m))) (.cells [dI (st-take+give),dI en]) n12 rfl S2 aa
          have bO:=hI im2 aq S2 s2 (.map (eIL (putM x.a ⟨st-take+give,en⟩ m))) ai
          refine gf aL ?_ [] [12]
          refine A7 (CM p c im im2 (putM x.a ⟨st-take+give,en⟩ m) ((q:Int)+1) ⟨st-take+give,en⟩ _ hc (w6 ..)) (fun d S3 hr=>?_) (fun d S3 hr=>?_)
          rotate_left
          ·rcases hr.met with⟨hn,ag,ae⟩|⟨_,h5,_⟩
           ·cases ag
            subst ae
            rw[hn]at hR
            exact finP (U':=S2.set im2 (.map (eIL (putM x.a ⟨st-take+give,en⟩ m)))) (by rw[hR];exact⟨rfl,hB _ _ bO⟩)
           ·cases h5
          rcases hr.met with⟨_,h5,_⟩|⟨hn,ag,ae,aP,aO⟩
          ·cases h5
          cases ag
          subst ae
          rw[hn]at hR
          simp only at hR
          rw[w8]
          have aA:=aj i12 (.map (eIL (putM ((q:Int)+1) ⟨st-take+give,en⟩ (putM x.a ⟨st-take+give,en⟩ m)))) (.cells [dI (st-take+give),dI en]) n12 rfl S2 aa
          refine gf aL ?_ [] [12]
          exact⟨q+1,putM ((q:Int)+1) ⟨st-take+give,en⟩ (putM x.a ⟨st-take+give,en⟩ m),s2,S2.set im2 (.map (eIL (putM ((q:Int)+1) ⟨st-take+give,en⟩ (putM x.a ⟨st-take+give,en⟩ m)))),⟨by omega,by omega,hI im2 aq _ _ _ ai,w6 .., fun j o h1 h2=>by rw[w7 _ _ (nim j o h1)];exact au j o h1 h2,hR,bd_put2 (n:=q+1) (k:=xa) aH (by simp only;omega) (by omega) aM⟩,td1,wkR⟩
         ·rw [if_neg aL] at hR
          by_cases h3:x.op=3
          ·have e2':=e2 h3
           refine gf (gi ak (gi aC (gi aB (gi ac h3)))) ?_ [] [12]
           refine yldW (hy q ⟨st,en⟩ S1 s1 hq ax) (fun d S2 hr=>?_) (fun d S2 hr=>?_)
           rotate_left
           ·obtain⟨hn,rfl,hb⟩:=hr.pan
            rw[hn]at hR
            have ap:BH p c ⟨(q0:Int),env,next⟩ step s0=none:=by first|exact hR|(rw[hR];split<;>rfl)
            exact finP (U':=S2) (by rw[ap];exact⟨rfl,hb⟩)
           obtain⟨s2,ar,rfl,ai,ah⟩:=hr.ret
           rw[ar]at hR
           have hm2:=ah im2 _ ak (ht im2 aq)
           have au:∀j o,O j=some o->¬touch j->S2 j=some o:=fun j o h1 h2=>ah j o (aw j o h1 h2) h2
           refine gf (gi ac h3) ?_ [] [12]
           refine newV (fun i12 aa=>?_)
           have n12:im2≠i12:=fun e=>by rw[<-e,hm2]at aa;cases aa
           refine gf (gi ac h3) ?_ [] [12]
           refine A7 (CM p c im im2 (m) ((q:Int)+1) ⟨st-take+give,en⟩ _ hc (by rw[w7 _ _ n12];exact hm2)) (fun d S3 hr=>?_) (fun d S3 hr=>?_)
           rotate_left
           ·rcases hr.met with⟨hn,ag,ae⟩|⟨_,h5,_⟩
            ·cases ag
             subst ae
             rw[hn]at hR
             exact finP (U':=S2) (by rw[hR];exact⟨rfl,hB _ _ ai⟩)
            ·cases h5
           rcases hr.met with⟨_,h5,_⟩|⟨hn,ag,ae,aP,aO⟩
           ·cases h5
           cases ag
           subst ae
           rw[hn]at hR
           simp only at hR
           have aA:=aj i12 (.map (eIL (putM ((q:Int)+1) ⟨st-take+give,en⟩ m))) (.cells [dI (st-take+give),dI (en)]) n12 rfl S2 aa
           refine gf h3 ?_ [] [12]
           exact⟨q+1,putM ((q:Int)+1) ⟨st-take+give,en⟩ m,s2,S2.set im2 (.map (eIL (putM ((q:Int)+1) ⟨st-take+give,en⟩ m))),⟨by omega,by omega,hI im2 aq _ _ _ ai,w6 .., fun j o h1 h2=>by rw[w7 _ _ (nim j o h1)];exact au j o h1 h2,hR,KR (n:=q+1) aH (by simp only;omega) (by omega)⟩,td1,wkR⟩
          ·by_cases aZ:x.op=20
           ·have e3':=e3 aZ
            refine gf (gi ak (gi aC (gi aB (gi ac (gi aZ e3'))))) ?_ [] [12]
            refine yldW (hy q ⟨st,en⟩ S1 s1 hq ax) (fun d S2 hr=>?_) (fun d S2 hr=>?_)
            rotate_left
            ·obtain⟨hn,rfl,hb⟩:=hr.pan
             rw[hn]at hR
             have ap:BH p c ⟨(q0:Int),env,next⟩ step s0=none:=by first|exact hR|(rw[hR];split<;>rfl)
             exact finP (U':=S2) (by rw[ap];exact⟨rfl,hb⟩)
            obtain⟨s2,ar,rfl,ai,ah⟩:=hr.ret
            rw[ar]at hR
            have hm2:=ah im2 _ ak (ht im2 aq)
            have au:∀j o,O j=some o->¬touch j->S2 j=some o:=fun j o h1 h2=>ah j o (aw j o h1 h2) h2
            refine gf (gi ac (gi aZ e3')) ?_ [] [12]
            refine newV (fun i12 aa=>?_)
            have n12:im2≠i12:=fun e=>by rw[<-e,hm2]at aa;cases aa
            refine gf (gi ac (gi aZ e3')) ?_ [] [12]
            refine A7 (CM p c im im2 (m) ((q:Int)+1) ⟨st-take+give,en⟩ _ hc (by rw[w7 _ _ n12];exact hm2)) (fun d S3 hr=>?_) (fun d S3 hr=>?_)
            rotate_left
            ·rcases hr.met with⟨hn,ag,ae⟩|⟨_,h5,_⟩
             ·cases ag
              subst ae
              rw[hn]at hR
              exact finP (U':=S2) (by rw[hR];exact⟨rfl,hB _ _ ai⟩)
             ·cases h5
            rcases hr.met with⟨_,h5,_⟩|⟨hn,ag,ae,aP,aO⟩
            ·cases h5
            cases ag
            subst ae
            rw[hn]at hR
            simp only at hR
            have aA:=aj i12 (.map (eIL (putM ((q:Int)+1) ⟨st-take+give,en⟩ m))) (.cells [dI (st-take+give),dI (en)]) n12 rfl S2 aa
            refine gf (gi aZ e3') ?_ [] [12]
            exact⟨q+1,putM ((q:Int)+1) ⟨st-take+give,en⟩ m,s2,S2.set im2 (.map (eIL (putM ((q:Int)+1) ⟨st-take+give,en⟩ m))),⟨by omega,by omega,hI im2 aq _ _ _ ai,w6 .., fun j o h1 h2=>by rw[w7 _ _ (nim j o h1)];exact au j o h1 h2,hR,KR (n:=q+1) aH (by simp only;omega) (by omega)⟩,td1,wkR⟩
           ·skip
            refine gf (gi ak (gi aC (gi aB ac))) ?_ [] [12]
            refine yldW (hy q ⟨st,en⟩ S1 s1 hq ax) (fun d S2 hr=>?_) (fun d S2 hr=>?_)
            rotate_left
            ·obtain⟨hn,rfl,hb⟩:=hr.pan
             rw[hn]at hR
             have ap:BH p c ⟨(q0:Int),env,next⟩ step s0=none:=by first|exact hR|(rw[hR];split<;>rfl)
             exact finP (U':=S2) (by rw[ap];exact⟨rfl,hb⟩)
            obtain⟨s2,ar,rfl,ai,ah⟩:=hr.ret
            rw[ar]at hR
            have hm2:=ah im2 _ ak (ht im2 aq)
            have au:∀j o,O j=some o->¬touch j->S2 j=some o:=fun j o h1 h2=>ah j o (aw j o h1 h2) h2
            refine gf ac ?_ [] [12]
            refine newV (fun i12 aa=>?_)
            have n12:im2≠i12:=fun e=>by rw[<-e,hm2]at aa;cases aa
            refine gf ac ?_ [] [12]
            refine A7 (CM p c im im2 (m) ((q:Int)+1) ⟨st-take+give,en⟩ _ hc (by rw[w7 _ _ n12];exact hm2)) (fun d S3 hr=>?_) (fun d S3 hr=>?_)
            rotate_left
            ·rcases hr.met with⟨hn,ag,ae⟩|⟨_,h5,_⟩
             ·cases ag
              subst ae
              rw[hn]at hR
              exact finP (U':=S2) (by rw[hR];exact⟨rfl,hB _ _ ai⟩)
             ·cases h5
            rcases hr.met with⟨_,h5,_⟩|⟨hn,ag,ae,aP,aO⟩
            ·cases h5
            cases ag
            subst ae
            rw[hn]at hR
            simp only at hR
            have aA:=aj i12 (.map (eIL (putM ((q:Int)+1) ⟨st-take+give,en⟩ m))) (.cells [dI (st-take+give),dI (en)]) n12 rfl S2 aa
            refine gz ?_ [] [12]
            exact⟨q+1,putM ((q:Int)+1) ⟨st-take+give,en⟩ m,s2,S2.set im2 (.map (eIL (putM ((q:Int)+1) ⟨st-take+give,en⟩ m))),⟨by omega,by omega,hI im2 aq _ _ _ ai,w6 .., fun j o h1 h2=>by rw[w7 _ _ (nim j o h1)];exact au j o h1 h2,hR,KR (n:=q+1) aH (by simp only;omega) (by omega)⟩,td1,wkR⟩
  ·
   have e0:c.ins.length-q=0:=by omega
   rw[e0,Gg]at hR
   refine gz ?_ [] [12]
   exact EO (U':=S1) (by rw[hR];exact⟨rfl,ax,aw⟩)
 ·rcases hr.met with⟨hn,ag,ae⟩|⟨_,h5,_⟩
  ·cases ag
   subst ae
   have ap:BH p c ⟨pos,env,next⟩ step s0=none:=by
    unfold BH
    refine if_pos ?_
    unfold BJ at hn
    split at hn
    ·rename_i h
     rcases h with h|h|h
     ·exact .inl h
     ·exact .inr h
     ·exact absurd rfl h.1
    ·cases hn
   exact finP (U':=O) (by rw[ap];exact⟨rfl,hB _ _ hG⟩) ((Sub.refl _).set aq)
  ·cases h5
end Go.DL
