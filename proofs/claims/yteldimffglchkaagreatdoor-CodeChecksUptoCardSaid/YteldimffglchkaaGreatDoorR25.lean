/- A part of the proof. -/
import Derived.Test.YteldimffglchkaaGreatDoorR24
import Derived.Test.YteldimffglchkaaGreatDoorR19
import Derived.Test.YteldimffglchkaaGreatDoorR21
import Derived.Test.YteldimffglchkaaGreatDoorR23
import Derived.Test.YteldimffglchkaaGreatDoorR22
import Derived.Shelf.Strings.Builder1
import Derived.Test.YteldimffglchkaaGreatDoorProg
import Derived.Shelf.LaysM
import Derived.Shelf.Strconv.Itoa3
set_option linter.all false
namespace Go.DL
open Go.Proofs.Tryz
open Go Go.Proofs
set_option maxHeartbeats 8000000
theorem Kt{f g:Nat->Option (Nat×Nat)}: ∀(ps:List (Nat×Value)) (cs:Array Value),(∀p∈ps,f p.1=g p.1)->Instr.fill f cs ps=Instr.fill g cs ps
 |[],cs,_=>rfl
 | (i,v)::ps,cs,h=>by
  rw[Instr.fill,Instr.fill,h (i,v) (by simp)]
  cases g i with
  |none=>rfl
  |some q=>
   obtain⟨o,z⟩:=q
   simp only
   split
   ·rfl
   ·exact Kt ps _ fun p hp=>h p (by simp[hp])
section
variable {ro:Ro}{n:Nat}{ops:Array Oper}{Q:DX->St->Prop}{df:List DDf}{rest:List Oper}{γ:List (Nat×D)}{O:Sig}{t:Nat}{ty:TypeId}{pos:String}{after:Array Edge}
theorem bldA{T len e:Nat}{parts:Array (Nat×Operand)}{out:List D}(h:DOps prog ro n ops Q rest ⟨(t,.agg out)::γ,O,df⟩)(hk:(tab T).k=.array len e:=by(simp<;>rfl))(he:A0 (tab e).k=false:=by simp)(hp:parts.all (fun p=>decide (p.1<len))=true:=by rfl)
  (ho:Pt tab ((List.range len).map fun i=>(i*(tab e).size,e)) (tab T).zero (parts.toList.map fun p=>(p.1,ev γ p.2))=some out) (aB:decide (t<n)=true:=by exact tdR):DOps prog ro n ops Q (⟨some t,.build T parts,ty,pos,after,none⟩::rest) ⟨γ,O,df⟩:=by
 refine Cb (fun d U'=>d=.agg out/\U'=O) rfl (fun c e=>by cases e) (Ae fun c e=>by cases e) (by simp only[At];exact aB) ?_ (fun d U' ⟨a,b⟩=>by subst a b;exact h)
 intro g w a hs hT
 obtain⟨inf,desc,z,h1,h2,h3,h4,h5,h6,h7,h8,h9,cg⟩:=Cf (tabOK T) (by rw[hk];simp)
 obtain⟨inf',desc',z',g1,g2,g3,g4,g5,g6,g7,g8,g9,g10⟩:=Cf (tabOK e) (Af he)
 have hz:RepL g (tab T).zero z.cells.toList:=by
  rw[h9]
  exact AH (by simp) fun j x v e1 e2=>by
   rw[List.getElem?_map,e2]at e1
   cases e1;exact DJ g v
 have aZ:∀l:List (Nat×Operand),RepL g ((l.map fun p=>(p.1,ev γ p.2)).map (·.2)) ((l.map fun p=>(p.1,a.eval p.2)).map (·.2)):=fun l=>by
  induction l with
  |nil=>rfl
  |cons p l ih=>exact⟨_,_,rfl,Aq hT p.2,ih⟩
 obtain⟨r,ba,bD⟩:=Jd (P:=prog) (tab:=tab) (g:=g) (fs:=(List.range len).map fun i=>(i*(tab e).size,e)) (places:=((List.range len).map fun i=>(i*(tab e).size,e)).map fun p=>(p.1,(tab p.2).size)) rfl (ps:=parts.toList.map fun p=>(p.1,a.eval p.2)) (cs:=z.cells) ho (by simp) (aZ _) hz
 have hsz:inf'.size=(tab e).size:=by first|exact g4|exact g5|exact g6|exact g3|omega
 have hb:prog.built T (parts.toList.map fun p=>(p.1,a.eval p.2))=some r:=by
  unfold Program.built
  rw[h1,GK tabOK hk]
  simp only[h7,g1]
  rw[<-ba]
  refine Kt _ _ fun q hq=>?_
  obtain⟨p,bE,rfl⟩:=List.mem_map.1 hq
  have aT:p.1<len:=by
   have:=Array.all_eq_true_iff_forall_mem.1 hp p (by simpa using bE)
   simpa using this
  simp[aT,hsz]
 have:=run_build (P:=prog) w T (parts.map fun p=>(p.1,a.eval p.2)) r (by simpa using hb)
 refine⟨g,w,.agg r,.agg out,O,?_,.refl g,hs,⟨r.toList,by simp,bD⟩,rfl,rfl⟩
 simp only[execOp,Sem.run_bind]
 rw[this]
 rfl
end
def cActs:List D:=.nilf::(([105,106,107,108,109,110,111,112,113,113,113,113,113,114,115,116,117,118,119,120,121]:List Nat).map fun f=>D.func (.func f) [] [])
theorem Vn(O:Sig):DCall prog 49 [] O (rS (.agg cActs) O):=by
 refine en func49 ntmps49 ?_
 refine gz ?_ [] [0]
 refine newV (fun i0 b8=>?_)
 refine gz ?_ [] [0]
 refine bldA (len:=22) (e:=108) (out:=cActs) ?_ (hp:=by simp) (ho:=by kernel_rfl)
 simp only[cActs,List.map_cons,List.map_nil]
 refine gz ?_ [] [0]
 exact finC (U':=O) ⟨rfl,rfl⟩
@[reducible,instance] def a49:=fun O=>ah0 (@Vn O)
theorem Kr(bz:List Int): ∀(l:List Init) (seen:List Int),DO bz seen l=true->∀x∈l,inB x.n=true
 |[],_,_,_,h=>by cases h
 |y::r,seen,h,x,hx=>by
  rw[DO]at h
  simp only[Bool.and_eq_true]at h
  rcases List.mem_cons.1 hx with rfl|hx
  ·exact h.1.2
  ·exact Kr bz r _ h.2 x hx
theorem Md(p:BProg): ∀(l:List BClass) (i:Nat),Ba p i l=true->∀c∈l, ∀x∈c.inits,inB x.n=true
 |[],_,_,_,h=>by cases h
 |y::r,i,h,c,hc=>by
  rw[Ba]at h
  simp only[Bool.and_eq_true]at h
  rcases List.mem_cons.1 hc with rfl|hc
  ·exact Kr _ _ _ h.1.2
  ·exact Md p r _ h.2 c hc
def P0(m:List (Int×Int)):Prop:= ∀k,hasM k m=true->inB (getM 0 k m)=true
theorem Qb{m:List (Int×Int)}(h:P0 m)(s n:Int)(hn:inB n=true):P0 (putM s n m):=fun k hk=>by
 rw[EV]
 by_cases e:k=s
 ·rw[if_pos e];exact hn
 ·rw[if_neg e]
  rw[H7]at hk
  simp only[e,decide_false,Bool.false_or]at hk
  exact h k hk
theorem K3: ∀(l:List Init) (m:List (Int×Int)),P0 m->(∀x∈l,inB x.n=true)->P0 (E8 l m)
 |[],_,h,_=>h
 |x::r,_,h,hl=>K3 r _ (Qb h x.slot x.n (hl x (by simp))) fun y hy=>hl y (by simp[hy])
theorem Nj{p:BProg}(hk:okP p=true)(order:List Int):P0 (Ib p order):=by
 have hc:∀c∈p.classes, ∀x∈c.inits,inB x.n=true:=by
  have h2:=ER hk
  unfold Ax at h2
  simp only[Bool.and_eq_true]at h2
  obtain⟨_,h4⟩:=h2
  split at h4
  ·cases h4
  ·simp only[Bool.and_eq_true]at h4
   exact Md p _ _ h4.2
 unfold Ib
 induction order with
 |nil=>intro k hk;simp[hasM]at hk
 | cons c r ih =>
  rw[List.foldr_cons,DR]
  split
  ·refine K3 _ _ ih fun x hx=>?_
   cases hg:p.classes[(c-3).toNat]? with
   |none=>rw[hg]at hx;simp at hx
   |some cl=>rw[hg]at hx;exact hc cl (List.mem_of_getElem? hg) x hx
  ·exact ih
theorem HW{m:List (Int×Int)}(h:P0 m): ∀l:List Int, ∀x∈beginL m l,inB x.n=true
 |[],_,hx=>by cases hx
 | s::r,x,hx=>by
  rw[beginL]at hx
  split at hx
  ·rename_i hs
   rcases List.mem_cons.1 hx with rfl|hx
   ·exact h s hs
   ·exact HW h r x hx
  ·exact HW h r x hx
theorem Me{p:BProg}(hk:okP p=true)(c:Int):(hasP p c).length<=40:=by
 have h1:=CD p c
 have h2:=ER hk
 unfold Ax at h2
 simp only[Bool.and_eq_true,decide_eq_true_eq]at h2
 obtain⟨h3,h4⟩:=h2
 have key:∀(l:List BClass) (n m:Int),B4 n l=some m->wtL (fun c:BClass=>c.slots.length) l<=4*l.length:=fun l=>by
  induction l with
  |nil=>intro n m _;exact Nat.le_refl _
  | cons c r ih =>
   intro n m h
   rw[B4]at h
   split at h
   ·cases h
   ·split at h
    ·cases h
    ·have:=ih _ _ h
     simp only[wtL,List.length_cons];omega
 split at h4
 ·cases h4
 ·rename_i n hn
  have:=key _ _ _ hn
  omega
theorem Uc{p:BProg}(hk:okP p=true):WldOK p (A2 p):=by
 refine⟨fun c h1 h2=>?_,fun c _=>NA p c,fun c _=>Bh.2 fun v hv=>?_⟩
 ·show(ownF p c&&okP p)=true
  unfold ownF;rw[hk];simp;omega
 ·unfold A2 at hv
  obtain⟨s,_,rfl⟩:=List.mem_map.1 hv
  unfold frV
  split
  ·rename_i i hi
   have:=HW (Nj hk _) _ i (List.mem_of_find?_eq_some hi)
   unfold inB at this
   unfold okV vInt
   simp only[Bool.and_eq_true,decide_eq_true_eq]at this
   simp[this]
  ·simp[okV,EL]
theorem stk1{l:List MVal}(h:1<=l.length): ∃r v,l=r++[v]/\E0 l=v/\l.dropLast=r:=by
 have hne:l≠[]:=fun e=>by rw[e]at h;simp at h
 refine⟨l.dropLast,l.getLast hne,(List.dropLast_concat_getLast hne).symm,?_,rfl⟩
 unfold E0;rw[List.getLast?_eq_some_getLast hne];rfl
theorem stk2{l:List MVal}(h:2<=l.length): ∃r w v,l=r++[w,v]/\E0 l=v/\E0 l.dropLast=w/\l.dropLast.dropLast=r/\l.dropLast=r++[w]:=by
 obtain⟨r,v,h1,h2,h3⟩:=stk1 (l:=l) (by omega)
 obtain⟨q,w,g1,g2,g3⟩:=stk1 (l:=l.dropLast) (by rw[List.length_dropLast];omega)
 refine⟨q,w,v,?_,h2,g2,g3,g1⟩
 rw[h1,<-h3,g1];simp
theorem OM{N:Int}{v:MVal}(h:okV N v=true): -1000000000<=AK v/\AK v<=1000000000:=by
 unfold AK
 split
 ·rename_i h1
  unfold okV at h
  rw[if_pos h1]at h
  simpa using h
 ·omega
def actF(op:Int):Nat:=if op<=8 then 104+op.toNat else if op<=13 then 113 else 100+op.toNat
def ActR(ir:Nat)(p:BProg)(R:Nat->RW)(O:Sig)(r:GoS ⊕ GoH)(y:DE)(U':Sig):Prop:= ∃R',RunK ir R O R' U'/\match r with
 |.inl t=>y=.ret (.bool false)/\RunS ir p R' t U'
 |.inr h=>y=.ret (.bool true) /\ ∃s' av b,HaltS ir p R' s' av b h U'
theorem W0{ir:Nat}{p:BProg}{R:Nat->RW}{t:GoS}{O:Sig}{N k q:Nat}{x:CIns}{l:CLev}{m:Met}{env:Int}{next:Bool}(hp:p.wt<=1073741824)(hk:okP p=true)(hI:InsOK p N k x l m env next)(aa:fitsC p N q x=true)(bK:0<=env)
  (aF:(t.stk.length:Int)=l.st) (bx:(t.env.length:Int)=l.env) (aA:okVs t.objs.length t.stk=true) (aC:Bn (A2 p) t.objs=true) (am:t.stk.length<=1000000) (bi:t.env.length<=1000000) (bQ:t.evs.length<=1000000) (hR:RunS ir p R t O) :
  DCall prog (actF x.op) [.ptr ir 0,.agg (cIns x)] O (ActR ir p R O (J1 p (A2 p) x t)):=by
 have ht:=hI.take
 have cf:=(BO.1 aC).1
 unfold fitsC at aa
 have f3:x.op=3->0<=x.a:=fun h=>by rw[if_neg (by omega),if_pos h]at aa;simpa using aa
 have f46:x.op=4\/x.op=6->ownF p x.a=true:=fun h=>by
  rw[if_neg (by omega),if_neg (by omega),if_pos h]at aa
  unfold ownF;simp at aa⊢; omega
 have f19:x.op=19->0<=x.a/\x.a<p.gens.length:=fun h=>by
  rw[if_neg (by omega),if_neg (by omega),if_neg (by omega),if_neg (by omega),if_neg (by omega),if_pos h]at aa
  simpa using aa
 have frg:1<=x.op/\x.op<=21:=by
  refine Classical.byContradiction fun h=>?_
  rw[if_neg (by omega),if_neg (by omega),if_neg (by omega),if_neg (by omega),if_neg (by omega),if_neg (by omega)]at aa
  simp at aa
  omega
 clear aa
 rw[J1]
 by_cases e1:x.op=1
 ·rw[if_pos e1,show actF x.op=105 by rw[e1];rfl]
  exact(Ts x hR am).mono fun y U' ⟨h1,R',h2,h3⟩=>⟨R',h3,h1,h2⟩
 rw[if_neg e1]
 by_cases e2:x.op=2
 ·rw[if_pos e2,show actF x.op=106 by rw[e2];rfl]
  exact(Tr x hR am).mono fun y U' ⟨h1,R',h2,h3⟩=>⟨R',h3,h1,h2⟩
 rw[if_neg e2]
 by_cases e3:x.op=3
 ·have hn:=hI.name e3
  have h0:=f3 e3
  have aT:x.a.toNat<t.env.length:=by omega
  rw[if_pos e3,show actF x.op=107 by rw[e3];rfl,List.getElem?_eq_getElem aT,Option.getD_some]
  exact(Tq x x.a.toNat (by omega) aT hR am bi).mono fun y U' ⟨h1,R',h2,h3⟩=>⟨R',h3,h1,h2⟩
 rw[if_neg e3]
 by_cases e4:x.op=4
 ·rw[if_pos e4,show actF x.op=108 by rw[e4];rfl]
  refine(Tp x hp hk (f46 (.inl e4)) (by have:=Me hk x.a;omega) hR am (by omega)).mono fun y U' ⟨R',h1,h2⟩=>⟨R',h1,?_⟩
  by_cases hn:40<=t.objs.length
  ·rw[if_pos hn]at h2⊢; exact⟨h2.1,_,_,_,h2.2⟩
  ·rw[if_neg hn]at h2⊢; exact h2
 rw[if_neg e4]
 by_cases e5:x.op=5
 ·have u:Ag p x=(1,1):=by unfold Ag;rw[if_neg (by omega),if_pos (by omega)]
  rw[u]at ht;simp only at ht
  obtain⟨r,v,hs,hv,hr⟩:=stk1 (l:=t.stk) (by omega)
  have aE:okV t.objs.length v=true:=hv ▸ ES aA (by omega)
  rw[if_pos e5,show actF x.op=109 by rw[e5];rfl,hv,hr]
  refine(To x r v hp hR hs am aE aC).mono fun y U' ⟨R',h1,h2⟩=>⟨R',h1,?_⟩
  by_cases hn:Bq (A2 p) t.objs v x.a<0
  ·rw[if_pos hn]at h2⊢; exact⟨h2.1,_,_,_,h2.2⟩
  ·rw[if_neg hn]at h2⊢; exact h2
 rw[if_neg e5]
 by_cases e6:x.op=6
 ·have u:Ag p x=(1,1):=by unfold Ag;rw[if_neg (by omega),if_pos (by omega)]
  rw[u]at ht;simp only at ht
  obtain⟨r,v,hs,hv,hr⟩:=stk1 (l:=t.stk) (by omega)
  have aE:okV t.objs.length v=true:=hv ▸ ES aA (by omega)
  rw[if_pos e6,show actF x.op=110 by rw[e6];rfl,hv,hr]
  refine(Tn x r v hp hk (fun c=>by have:=Me hk c;omega) (f46 (.inr e6)) hR hs am aE aC).mono fun y U' ⟨R',h1,h2⟩=>⟨R',h1,?_⟩
  by_cases hn:v.kind=3
  ·rw[if_pos hn]at h2⊢; exact h2
  ·rw[if_neg hn]at h2⊢; exact⟨h2.1,_,_,_,h2.2⟩
 rw[if_neg e6]
 by_cases e7:x.op=7
 ·have u:Ag p x=(1,1):=by unfold Ag;rw[if_neg (by omega),if_pos (by omega)]
  rw[u]at ht;simp only at ht
  obtain⟨r,v,hs,hv,hr⟩:=stk1 (l:=t.stk) (by omega)
  rw[if_pos e7,show actF x.op=111 by rw[e7];rfl,hv,hr]
  exact(Tm x r v hR hs am bQ).mono fun y U' ⟨h1,R',h2,h3⟩=>⟨R',h3,h1,h2⟩
 rw[if_neg e7]
 by_cases e8:x.op=8
 ·have u:Ag p x=(2,1):=by unfold Ag;rw[if_neg (by omega),if_neg (by omega),if_neg (by omega),if_neg (by omega),if_neg (by omega),if_neg (by omega)]
  rw[u]at ht;simp only at ht
  obtain⟨r,w,v,hs,hv,hw,hr,ba⟩:=stk2 (l:=t.stk) (by omega)
  have aX:okV t.objs.length w=true:=hw ▸ ES (CP aA) (by rw[List.length_dropLast];omega)
  rw[if_pos e8,show actF x.op=112 by rw[e8];rfl,hw,hv,hr]
  refine(Tl x r w v hp hR hs am aX aC).mono fun y U' ⟨R',h1,h2⟩=>⟨R',h1,?_⟩
  by_cases hn:Bq (A2 p) t.objs w x.a<0
  ·rw[if_pos hn]at h2⊢; exact⟨h2.1,_,_,_,h2.2⟩
  ·rw[if_neg hn]at h2⊢; exact h2
 rw[if_neg e8]
 by_cases e14:x.op=14
 ·have u:Ag p x=(1,0):=by unfold Ag;rw[if_neg (by omega),if_neg (by omega),if_pos (by omega)]
  rw[u]at ht;simp only at ht
  obtain⟨r,v,hs,hv,hr⟩:=stk1 (l:=t.stk) (by omega)
  rw[if_pos e14,show actF x.op=114 by rw[e14];rfl,hv,hr]
  exact(Tj x r v hR hs am bi).mono fun y U' ⟨h1,R',h2,h3⟩=>⟨R',h3,h1,h2⟩
 rw[if_neg e14]
 by_cases e15:x.op=15
 ·have hd:=hI.drop e15
  obtain⟨r,v,hs,hv,hr⟩:=stk1 (l:=t.env) (by omega)
  rw[if_pos e15,show actF x.op=115 by rw[e15];rfl,hr]
  exact(Ti x r v hR hs bi).mono fun y U' ⟨h1,R',h2,h3⟩=>⟨R',h3,h1,h2⟩
 rw[if_neg e15]
 by_cases e16:x.op=16
 ·have u:Ag p x=(1,0):=by unfold Ag;rw[if_neg (by omega),if_neg (by omega),if_pos (by omega)]
  rw[u]at ht;simp only at ht
  obtain⟨r,v,hs,hv,hr⟩:=stk1 (l:=t.stk) (by omega)
  rw[if_pos e16,show actF x.op=116 by rw[e16];rfl,hr]
  exact(Th x r v hR hs am).mono fun y U' ⟨h1,R',h2,h3⟩=>⟨R',h3,h1,h2⟩
 rw[if_neg e16]
 by_cases e17:x.op=17
 ·have u:Ag p x=(1,0):=by unfold Ag;rw[if_neg (by omega),if_neg (by omega),if_pos (by omega)]
  rw[u]at ht;simp only at ht
  obtain⟨r,v,hs,hv,hr⟩:=stk1 (l:=t.stk) (by omega)
  rw[if_pos e17,show actF x.op=117 by rw[e17];rfl,hv,hr]
  exact(Tg x r v hR hs am).mono fun y U' ⟨h1,R',h2,h3⟩=>⟨R',h3,h1,h2⟩
 rw[if_neg e17]
 by_cases e18:x.op=18
 ·rw[if_pos e18,show actF x.op=118 by rw[e18];rfl]
  exact(Tf x hR).mono fun y U' ⟨h1,R',h2,h3⟩=>⟨R',h3,h1,h2⟩
 rw[if_neg e18]
 by_cases e19:x.op=19
 ·obtain⟨a1,a2⟩:=f19 e19
  have u:Ag p x=(p.gens.getD x.a.toNat 0,1):=by unfold Ag;rw[if_neg (by omega),if_neg (by omega),if_neg (by omega),if_pos e19]
  rw[u]at ht;simp only at ht
  have b9:=(GC hk x.a.toNat).1
  have aw:x.a.toNat<p.gens.length:=by omega
  have bI:p.gens.getD x.a.toNat 0=p.gens[x.a.toNat]:=by rw[List.getD_eq_getElem?_getD,List.getElem?_eq_getElem aw];rfl
  rw[if_pos e19,show actF x.op=119 by rw[e19];rfl]
  refine(Te x (t.stk.take (t.stk.length-(p.gens.getD x.a.toNat 0).toNat)) (t.stk.drop (t.stk.length-(p.gens.getD x.a.toNat 0).toNat)) x.a.toNat hp (by omega) aw ?_ hR (List.take_append_drop _ _).symm am).mono fun y U' ⟨h1,R',av,h2,h3⟩=>⟨R',h3,h1,_,_,_,h2⟩
  rw[<-bI,List.length_drop];omega
 rw[if_neg e19]
 by_cases e20:x.op=20
 ·rw[if_pos e20,show actF x.op=120 by rw[e20];rfl]
  exact(Td x hR).mono fun y U' ⟨h1,h2,h3⟩=>⟨R,h3,h1,_,_,_,h2⟩
 rw[if_neg e20]
 by_cases e21:x.op=21
 ·have hf:=hI.fin e21
  obtain⟨r,v,hs,hv,hr⟩:=stk1 (l:=t.stk) (by omega)
  rw[if_pos e21,show actF x.op=121 by rw[e21];rfl,hv]
  exact(Tc x r v hR hs am).mono fun y U' ⟨h1,R',h2,h3⟩=>⟨R',h3,h1,_,_,_,h2⟩
 rw[if_neg e21]
 have u:Ag p x=(2,1):=by unfold Ag;rw[if_neg (by omega),if_neg (by omega),if_neg (by omega),if_neg (by omega),if_neg (by omega),if_neg (by omega)]
 rw[u]at ht;simp only at ht
 obtain⟨r,w,v,hs,hv,hw,hr,ba⟩:=stk2 (l:=t.stk) (by omega)
 have aE:okV t.objs.length v=true:=hv ▸ ES aA (by omega)
 have aX:okV t.objs.length w=true:=hw ▸ ES (CP aA) (by rw[List.length_dropLast];omega)
 rw[show actF x.op=113 by unfold actF;rw[if_neg (by omega),if_pos (by omega)],hw,hv,hr]
 exact(Tk x r w v (by omega) hR hs am (OM aX) (OM aE)).mono fun y U' ⟨h1,R',h2,h3⟩=>⟨R',h3,h1,h2⟩
def F3(h:GoH):List D:=[dI h.kind,dI h.val.kind,dI h.val.n,dI h.gen,sl (h.args.map cVal),dI h.fin,dI h.pos,sl (h.stk.map cVal),sl (h.env.map cVal),sl (h.objs.map cTh),sl (h.evs.map cEv)]
def JP:GoH:=⟨0,vZ,0,[],0,0,[],[],[],[]⟩
abbrev cFr(pos:Int)(stk env:List MVal):List D:=[dI pos,sl (stk.map cVal),sl (env.map cVal)]
theorem E2:WkD (.agg [dI 0,dI 0,dI 0,dI 0,.nils,dI 0,dI 0,.nils,.nils,.nils,.nils]) (.agg (F3 JP)):=
 FN ⟨Ab _,Ab _,Ab _,Ab _,An _ (.inl rfl),Ab _,Ab _,An _ (.inl rfl),An _ (.inl rfl),An _ (.inl rfl),An _ (.inl rfl),trivial⟩
theorem KV{n:Nat}{γ:Fr}{df:List DDf}{O:Sig}{i:Nat}{xs ys:List D}{d d':D}(hi:O i=some (.cells (xs++d::ys)))(h:WkD d d'): ∃U',Wk prog n ⟨γ,O,df⟩ ⟨γ,U',df⟩/\U' i=some (.cells (xs++d'::ys)) /\ ∀j o,O j=some o->j≠i->U' j=some o:=
 ⟨_,Hs hi h,w6 .., fun j o hj ai=>by rw[w7 _ _ ai];exact hj⟩
section
variable {ir:Nat}{p:BProg}{R:Nat->RW}{s:GoS}{O:Sig}
theorem haltFz{n:Nat}{γ:Fr}{df:List DDf}{av:D}{b:Bool}{h:GoH}(hH:HaltS ir p R s av b h O): ∃U' tl,Wk prog n ⟨γ,O,df⟩ ⟨γ,U',df⟩/\U' ir=some (.cells (F3 h++tl)) /\ ∀j o,O j=some o->j≠ir->(∀a, ¬(R a).is j)->U' j=some o:=by
 obtain⟨aI,ae,ar,bq,ay,ax,aO,aF⟩:=hH
 have dj:∀{a b:Nat},a≠b->∀{j:Nat},(R a).is j->¬(R b).is j:=fun {a b} bR {j} ha hb=>bR (ae.dj a b j ha hb)
 have nir:∀{a j:Nat},(R a).is j->j≠ir:=fun {a j} h e=>ar a (e ▸ h)
 cases b with
 |false=>
  obtain⟨e1,e2,e3⟩:=aF
  obtain⟨S1,w1,o1,k1⟩:=Nz (n:=n) (γ:=γ) (df:=df) (a0:=[dI h.kind,dI h.val.kind,dI h.val.n,dI h.gen,av,dI h.fin,dI 0,.nils,.nils]) (b0:=(R 2).d s.evs.length::(Ad p++[dI s.pos,(R 0).d s.stk.length,(R 1).d s.env.length])) ae ar (bq 3) (by rw[aI];rfl)
  have q2:RWAt S1 3 (R 2) (s.evs.map cEv):=(ae.ok 2).keep fun j o hj ah=>k1 j o hj (nir ah) fun q hq=>dj (by omega) ah
  obtain⟨S2,w2,o2,k2⟩:=BW (P:=prog) (n:=n) (γ:=γ) (df:=df) (i:=ir) (az:=[dI h.kind,dI h.val.kind,dI h.val.n,dI h.gen,av,dI h.fin,dI 0,.nils,.nils,.slice (s.objs.map cTh) .no]) (bs:=Ad p++[dI s.pos,(R 0).d s.stk.length,(R 1).d s.env.length]) q2 (by rw[o1,List.length_map];rfl) (ar 2)
  obtain⟨S3,w3,o3,k3⟩:=KV (n:=n) (γ:=γ) (df:=df) (xs:=[dI h.kind,dI h.val.kind,dI h.val.n,dI h.gen]) (ys:=[dI h.fin,dI 0,.nils,.nils,.slice (s.objs.map cTh) .no,.slice (s.evs.map cEv) .no]++(Ad p++[dI s.pos,(R 0).d s.stk.length,(R 1).d s.env.length])) o2 ay
  obtain⟨S4,w4,o4,k4⟩:=KV (n:=n) (γ:=γ) (df:=df) (xs:=[dI h.kind,dI h.val.kind,dI h.val.n,dI h.gen,sl (h.args.map cVal),dI h.fin,dI 0]) (ys:=[.nils,.slice (s.objs.map cTh) .no,.slice (s.evs.map cEv) .no]++(Ad p++[dI s.pos,(R 0).d s.stk.length,(R 1).d s.env.length])) o3 (An .no (.inl rfl))
  obtain⟨S5,w5,o5,k5⟩:=KV (n:=n) (γ:=γ) (df:=df) (xs:=[dI h.kind,dI h.val.kind,dI h.val.n,dI h.gen,sl (h.args.map cVal),dI h.fin,dI 0,sl []]) (ys:=[.slice (s.objs.map cTh) .no,.slice (s.evs.map cEv) .no]++(Ad p++[dI s.pos,(R 0).d s.stk.length,(R 1).d s.env.length])) o4 (An .no (.inl rfl))
  refine⟨S5,Ad p++[dI s.pos,(R 0).d s.stk.length,(R 1).d s.env.length],(((w1.trans w2).trans w3).trans w4).trans w5,?_,fun j o hj ai hn=>k5 j o (k4 j o (k3 j o (k2 j o (k1 j o hj ai fun q _=>hn q) ai (hn 2)) ai) ai) ai⟩
  rw[o5,F3,e1,e2,e3,ax,aO];rfl
 | true =>
  obtain⟨e1,e2,e3⟩:=aF
  obtain⟨S1,w1,o1,k1⟩:=Nz (n:=n) (γ:=γ) (df:=df) (a0:=[dI h.kind,dI h.val.kind,dI h.val.n,dI h.gen,av,dI h.fin,dI s.pos,(R 0).d s.stk.length,(R 1).d s.env.length]) (b0:=(R 2).d s.evs.length::(Ad p++[dI s.pos,(R 0).d s.stk.length,(R 1).d s.env.length])) ae ar (bq 3) (by rw[aI];rfl)
  have q2:RWAt S1 3 (R 2) (s.evs.map cEv):=(ae.ok 2).keep fun j o hj ah=>k1 j o hj (nir ah) fun q hq=>dj (by omega) ah
  obtain⟨S2,w2,o2,k2⟩:=BW (P:=prog) (n:=n) (γ:=γ) (df:=df) (i:=ir) (az:=[dI h.kind,dI h.val.kind,dI h.val.n,dI h.gen,av,dI h.fin,dI s.pos,(R 0).d s.stk.length,(R 1).d s.env.length,.slice (s.objs.map cTh) .no]) (bs:=Ad p++[dI s.pos,(R 0).d s.stk.length,(R 1).d s.env.length]) q2 (by rw[o1,List.length_map];rfl) (ar 2)
  have q0:RWAt S2 2 (R 0) (s.stk.map cVal):=(ae.ok 0).keep fun j o hj ah=>k2 j o (k1 j o hj (nir ah) fun q hq=>dj (by omega) ah) (nir ah) (dj (by decide) ah)
  obtain⟨S3,w3,o3,k3⟩:=BW (P:=prog) (n:=n) (γ:=γ) (df:=df) (i:=ir) (az:=[dI h.kind,dI h.val.kind,dI h.val.n,dI h.gen,av,dI h.fin,dI s.pos]) (bs:=[(R 1).d s.env.length,.slice (s.objs.map cTh) .no,.slice (s.evs.map cEv) .no]++(Ad p++[dI s.pos,(R 0).d s.stk.length,(R 1).d s.env.length])) q0 (by rw[o2,List.length_map];rfl) (ar 0)
  have q1:RWAt S3 2 (R 1) (s.env.map cVal):=(ae.ok 1).keep fun j o hj ah=>k3 j o (k2 j o (k1 j o hj (nir ah) fun q hq=>dj (by omega) ah) (nir ah) (dj (by decide) ah)) (nir ah) (dj (by decide) ah)
  obtain⟨S4,w4,o4,k4⟩:=BW (P:=prog) (n:=n) (γ:=γ) (df:=df) (i:=ir) (az:=[dI h.kind,dI h.val.kind,dI h.val.n,dI h.gen,av,dI h.fin,dI s.pos,.slice (s.stk.map cVal) .no]) (bs:=[.slice (s.objs.map cTh) .no,.slice (s.evs.map cEv) .no]++(Ad p++[dI s.pos,(R 0).d s.stk.length,(R 1).d s.env.length])) q1 (by rw[o3,List.length_map];rfl) (ar 1)
  have w5:=Hs (P:=prog) (n:=n) (γ:=γ) (df:=df) (az:=[dI h.kind,dI h.val.kind,dI h.val.n,dI h.gen]) (bs:=[dI h.fin,dI s.pos,.slice (s.stk.map cVal) .no,.slice (s.env.map cVal) .no,.slice (s.objs.map cTh) .no,.slice (s.evs.map cEv) .no]++(Ad p++[dI s.pos,(R 0).d s.stk.length,(R 1).d s.env.length])) (d:=av) o4 ay
  refine⟨_,Ad p++[dI s.pos,(R 0).d s.stk.length,(R 1).d s.env.length],(((w1.trans w2).trans w3).trans w4).trans w5,?_,fun j o hj ai hn=>?_⟩
  ·rw[w6,F3,e1,e2,e3,ax,aO];rfl
  ·rw[w7 _ _ ai]
   exact k4 j o (k3 j o (k2 j o (k1 j o hj ai fun q _=>hn q) ai (hn 2)) ai (hn 0)) ai (hn 1)
theorem haltD{ro:Ro}{n:Nat}{Q:DX->St->Prop}{c:Code}{γ:Fr}{df:List DDf}{av:D}{b:Bool}{h:GoH}(hH:HaltS ir p R s av b h O)
  (k:∀U' tl,U' ir=some (.cells (F3 h++tl))->(∀j o,O j=some o->j≠ir->(∀a, ¬(R a).is j)->U' j=some o)->DWp prog ro n c Q ⟨γ,U',df⟩):DWp prog ro n c Q ⟨γ,O,df⟩:=by
 obtain⟨S2,tl,w,a,b⟩:=haltFz (n:=n) (γ:=γ) (df:=df) hH
 exact FL w (k S2 tl a b)
def R01(r0 r1:RW):Nat->RW:=updF (updF (fun _=>.nil) 0 r0) 1 r1
theorem RunS.init{S1 S2:Sig}{r0 r1:RW}{stk env:List MVal}{pos:Int}(h0:FrV O r0 stk S1)(h1:FrV S1 r1 env S2)(hi:S2 ir=none):RunS ir p (R01 r0 r1) ⟨[],[],pos,stk,env⟩ (S2.set ir (.cells (AO p (R01 r0 r1) ⟨[],[],pos,stk,env⟩))):=by
 have a:Rows O (fun _=>RW.nil) rSz (fun _=>[]):=⟨fun _=>rfl,fun _ _ _ h=>h.elim⟩
 have b:Rows S1 (updF (fun _=>RW.nil) 0 r0) rSz (updF (fun _=>[]) 0 (stk.map cVal)):=a.upd (a:=0) h0.1 h0.2.1
 have c:=b.upd (a:=1) (r':=r1) (es':=env.map cVal) (U':=S2) h1.1 (by rw[A8 _ _ (by omega)];exact h1.2.1)
 have d:=c.retell (ct':=rCt (R01 r0 r1) ⟨[],[],pos,stk,env⟩) fun a=>by
  match a with
  |0=>rw[A8 _ _ (by omega),Aj];rfl
  |1=>rw[Aj];rfl
  |2=>rw[A8 _ _ (by omega),A8 _ _ (by omega)];rfl
  |3=>rw[A8 _ _ (by omega),A8 _ _ (by omega)];rfl
  |k+4=>rw[A8 _ _ (by omega),A8 _ _ (by omega)];simp[rCt]
 have ar:∀a, ¬(R01 r0 r1 a).is ir:=fun a ha=>by
  obtain⟨z,hz⟩:=(d.ok a).cells ha
  rw[hi]at hz;cases hz
 refine⟨w6 .., d.keep fun j o hj ⟨b,hb⟩=>by rw[w7 _ _ fun e=>ar b (by rw[<-e];exact hb)];exact hj,ar,fun a es ha=>?_⟩
 unfold R01 at ha
 by_cases e1:a=1
 ·subst e1;rw[Aj]at ha;exact h1.2.2 es ha
 ·rw[A8 _ _ e1]at ha
  by_cases e0:a=0
  ·subst e0;rw[Aj]at ha;exact h0.2.2 es ha
  ·rw[A8 _ _ e0]at ha;cases ha
theorem Uo{ds:List D}{r:RW}{n k:Nat}(h:O ir=some (.cells ds))(hl:k<ds.length):En tab O 31 (.ptr ir k) (r.d n)=some (.any,O.set ir (.cells (ds.take k++[r.d n]++ds.drop (k+1)))):=by
 have hf:¬ds.length<k+1:=by omega
 cases r<;>simp[En,h,RW.d,hf]
theorem storeRw{ro:Ro}{n:Nat}{ops:Array Oper}{Q:DX->St->Prop}{df:List DDf}{rest:List Oper}{γ Sr:Fr}{ty:TypeId}{pos:String}{after:Array Edge}{x y:Operand}{ds:List D}{r:RW}{m k:Nat}(hc:O ir=some (.cells ds))(h:DOps prog ro n ops Q rest ⟨γ,O.set ir (.cells (ds.take k++[r.d m]++ds.drop (k+1))),df⟩)
  (hl:A1 γ (A7 [x,y])=some Sr:=by exact tdR) (h1:ev Sr x=.ptr ir k:=by exact tdR) (h2:ev Sr y=r.d m:=by exact tdR) (hlen:k<ds.length:=by simp) :
  DOps prog ro n ops Q (⟨none,.store 31 x y,ty,pos,after,none⟩::rest) ⟨γ,O,df⟩:=
 Eo tabOK (d:=.any) hl (by show En tab O 31 (ev Sr x) (ev Sr y)=_;rw[h1,h2];exact Uo hc hlen) h
end
section
variable {ro:Ro}{n:Nat}{ops:Array Oper}{N:Nat}{S0:Sig}{Q:DX->St->Prop}{df:List DDf}{γ Sr:List (Nat×D)}{O:Sig}{t:Nat}{ty:TypeId}{pos:String}{after:Array Edge}{e1:Bool}{l:List (Bool×Oper)}
theorem moRr(d:D){op:Op}(h:MO prog ro n ops N S0 Q df l ((t,d)::γ) O)(hr:Db op=true:=by rfl)(aB:decide (t<n)=true:=by exact tdR)(hl:A1 γ (A7 op.operands.toList)=some Sr:=by exact tdR)(hd:dopX tab Sr S0 op=some d:=by first|with_unfolding_all rfl|(simp;done)|(simp;rfl)):MO prog ro n ops N S0 Q df ((e1,⟨some t,op,ty,pos,after,none⟩)::l) γ O:=
 Lh tabOK hr aB hl hd h
theorem moBox{T:Nat}{x:Operand}(cs:List D)(h:∀i,O i=none->MO prog ro n ops N S0 Q df l ((t,.ptr i 0)::γ) (O.set i (.cells cs)))(hl:A1 γ (A7 [x])=some Sr:=by exact tdR)(hc:(ev Sr x).cells=cs:=by exact tdR)(ht:(ev Sr x).told=true:=by exact tdR)(aB:decide (t<n)=true:=by exact tdR)(hC:Sub S0 O:=by first|exact Sub.refl _|assumption):
  MO prog ro n ops N S0 Q df ((true,⟨some t,.box T x,ty,pos,after,none⟩)::l) γ O:=
 mo1 (fun U2 hx=>by
  have e:ev U2 x=ev Sr x:=by rw[hx x (by simp[Op.operands]),Cu hl]
  exact dops_box (by rw[e];exact ht) (by simpa using aB) (fun i hi=>Aw ⟨rfl,by simp only[A3,if_true];rw[e,hc];exact⟨hC.set (hC.none hi),h i hi⟩⟩)) aB
end
def US(s:GoS)(r:GoS ⊕ GoH):Prop:= ∀t,r=.inl t->t.stk.length<=s.stk.length+1/\t.env.length<=s.env.length+1/\t.evs.length<=s.evs.length+1
theorem len_ite{s:GoS}{c:Prop}[Decidable c]{a b:GoS ⊕ GoH}(h1:US s a)(h2:US s b):US s (if c then a else b):=by split<;>assumption
theorem QB{p:BProg}{w:CWorld}{x:CIns}{s t:GoS}(h:J1 p w x s=.inl t):t.stk.length<=s.stk.length+1/\t.env.length<=s.env.length+1/\t.evs.length<=s.evs.length+1:=by
 have key:US s (J1 p w x s):=by
  rw[J1]
  repeat' (refine len_ite ?_ ?_)
  all_goals
   intro t h
   first|(cases h;done)|(cases h;simp only[List.length_append,List.length_dropLast,List.length_singleton];omega)
 exact key t h
theorem actAt{j:Nat}(h1:1<=j)(h2:j<=21):cActs[j]? = some (.func (.func (actF j)) [] []):=by
 have h:j=1\/j=2\/j=3\/j=4\/j=5\/j=6\/j=7\/j=8\/j=9\/j=10\/j=11\/j=12\/j=13\/j=14\/j=15\/j=16\/j=17\/j=18\/j=19\/j=20\/j=21:=by omega
 rcases h with rfl|rfl|rfl|rfl|rfl|rfl|rfl|rfl|rfl|rfl|rfl|rfl|rfl|rfl|rfl|rfl|rfl|rfl|rfl|rfl|rfl<;>rfl
theorem Oj(c:CProg)(W:MetL){k:Nat}(hk:k<c.ins.length):(Ea c W)[k]? = some (getM ⟨0,0⟩ (k:Int) W):=by
 unfold Ea;rw[List.getElem?_map,List.getElem?_range hk];rfl
theorem Oi(c:CProg)(W:MetL):(Ea c W).length=c.ins.length:=by unfold Ea;simp
theorem Gz(p:BProg)(c:CProg):AQ p c=(By p c).map (Ea c):=by rw[<-Rc,Pi];rfl
theorem fits_rg{p:BProg}{N q:Nat}{x:CIns}(aa:fitsC p N q x=true):1<=x.op/\x.op<=21:=by
 unfold fitsC at aa
 refine Classical.byContradiction fun h=>?_
 rw[if_neg (by omega),if_neg (by omega),if_neg (by omega),if_neg (by omega),if_neg (by omega),if_neg (by omega)]at aa
 simp at aa
 omega
theorem QC{p:BProg}{w:CWorld}{c:CProg}{m:Met}{nx:Bool}(hg:∀n:Nat,0<=p.gens.getD n 0)(hw:WldOK p w)(hL:LevOK p c m nx){s:GoS}(hs:GInv w m s):mRun p w c c.ins.length s=match J1 p w (Am c s.pos.toNat) { s with pos:=s.pos+1 } with
  |.inl t=>mRun p w c c.ins.length t
  |.inr h=>h:=by
 rw[M1 hg hw hL c.ins.length (c.ins.length+1) s hs (by omega) (by omega),mRun]
 rfl
@[simp] theorem cActs_len:cActs.length=22:=rfl
@[simp] theorem cActs_all:cActs.all D.flat=true:=rfl
@[simp] theorem cActs_tk:List.take 22 cActs=cActs:=rfl
theorem RunS.newO{ir:Nat}{p:BProg}{R:Nat->RW}{s:GoS}{O:Sig}(h:RunS ir p R s O){i:Nat}(hi:O i=none)(o:DObj):RunS ir p R s (O.set i o):=by
 have hn:∀j x,O j=some x->j≠i:=fun j x hj e=>by rw[e,hi]at hj;cases hj
 exact⟨by rw[w7 _ _ (hn _ _ h.obj)];exact h.obj,h.rows.keep fun j x hj _=>by rw[w7 _ _ (hn j x hj)];exact hj,h.ni,h.nf⟩
theorem Jr (p:BProg) (c:CProg) (objs:List MThing) (pos:Int) (stk env:List MVal) (o1:Own) (O:Sig) (hp:p.wt<=1073741824) (bO:c.ins.length<=1073741824) (bN:c.starts.length<=1073741824) (bF:objs.length<=1000000) (bn : ∀ x ∈ objs,x.slots.length<=1000000) (bX:stk.length<=900000) (cb:env.length<=900000) :
  DCall prog 13 [.agg (Ad p),.agg (cCPg c),.slice (objs.map cTh) o1,.agg (cFr pos stk env)] O (rS (.tup [.agg (F3 ((goC p (A2 p) c objs pos stk env).getD JP)),dI (if(goC p (A2 p) c objs pos stk env).isSome then 0 else 2)]) O):=by
 have bt:=Gz p c
 have aj:=fun O:Sig=>Lt p objs o1 O hp (by omega) (fun x hx=>by have:=bn x hx;omega)
 obtain⟨H,hH⟩:∃H,H=goC p (A2 p) c objs pos stk env:=⟨_,rfl⟩
 rw[<-hH]
 refine en func13 ntmps13 ?_
 refine gz ?_ o13 [8]
 refine newV (fun i8 aN=>?_)
 have o8:(O.set i8 (.cells [dI 0,dI 0,dI 0,dI 0,.nils,dI 0,dI 0,.nils,.nils,.nils,.nils])) i8=_:=w6 ..
 have aU:Sub O (O.set i8 (.cells [dI 0,dI 0,dI 0,dI 0,.nils,dI 0,dI 0,.nils,.nils,.nils,.nils])):=(Sub.refl _).set aN
 generalize O.set i8 (.cells [dI 0,dI 0,dI 0,dI 0,.nils,dI 0,dI 0,.nils,.nils,.nils,.nils])=Sa at*
 refine gz ?_ o13 [8]
 refine A4 (Jg p c Sa hp bO bN) (fun d U' hr=>?_) (fun d U' hr=>?_)
 rotate_left
 ·unfold LokR at hr
  split at hr
  ·cases hr.1
  ·obtain⟨_,_,h,_⟩:=hr;cases h
 unfold LokR at hr
 cases hL:By p c with
 |none=>
  rw[hL]at hr
  obtain⟨e,rfl⟩:=hr
  cases e
  have hn:H=none:=by rw[hH];unfold goC;rw[bt,hL];rfl
  refine gf o8 ?_ o13 [8]
  refine finC (U':=O) (d:=.tup [.agg (F3 JP),dI 2]) ⟨by rw[hn];rfl,rfl⟩ (hw:=?_) (hZ:=?_)
  ·exact Dm ⟨E2,Ab _,trivial⟩
  ·exact fun j o hj=>by rw[w7 _ _ (B9 hj aN)];exact aU j o hj
 | some W =>
  rw[hL]at hr
  obtain⟨im,bd,e,rfl⟩:=hr
  cases e
  have n8m:i8≠im:=B9 o8 bd
  have om:(Sa.set im (.map (eIL W))) im=some (.map (eIL W)):=w6 ..
  have o8':=(w7 Sa (.map (eIL W)) n8m).trans o8
  have aP:Sub O (Sa.set im (.map (eIL W))):=aU.set (aU.none bd)
  generalize Sa.set im (.map (eIL W))=S0 at*
  clear o8 aU bd
  have br:AQ p c=some (Ea c W):=by rw[bt,hL];rfl
  obtain⟨aH,hlen,aq⟩:=Rb br
  have bW:c.ins.length<=300:=by
   unfold By at hL
   split at hL
   ·rename_i h;simp only[Bool.and_eq_true,decide_eq_true_eq]at h;exact h.2.1
   ·cases hL
  have be:H=if Bn (A2 p) objs&&GD (Ea c W) objs.length pos stk env then some (mRun p (A2 p) c c.ins.length ⟨objs,[],pos,stk,env⟩) else none:=by rw[hH];unfold goC;rw[br]
  by_cases hg:(Bn (A2 p) objs&&GD (Ea c W) objs.length pos stk env)=true
  rotate_left
  ·have hn:H=none:=by rw [be,if_neg hg]
   have fin0:∀z,Sub O (S0.set i8 z):=fun z j o hj=>by rw[w7 _ _ (B9 hj aN)];exact aP j o hj
   have fin1:∀i z1 z2,S0 i=none->Sub O ((S0.set i z1).set i8 z2):=fun i z1 z2 hi j o hj=>by rw[w7 _ _ (B9 hj aN),w7 _ _ (B9 (aP j o hj) hi)];exact aP j o hj
   have bh:Bn (A2 p) objs=false\/(Bn (A2 p) objs=true/\(pos < 0\/(c.ins.length:Int)<=pos))\/(Bn (A2 p) objs=true /\ ∃ k:Nat,pos=k/\k < c.ins.length/\((stk.length:Int) ≠ (getM ⟨0,0⟩ (k:Int) W).st\/((stk.length:Int)=(getM ⟨0,0⟩ (k:Int) W).st/\(env.length:Int) ≠ (getM ⟨0,0⟩ (k:Int) W).env)\/((stk.length:Int)=(getM ⟨0,0⟩ (k:Int) W).st/\(env.length:Int)=(getM ⟨0,0⟩ (k:Int) W).env/\(okVs objs.length stk=false\/(okVs objs.length stk=true/\okVs objs.length env=false))))):=by
    cases hO:Bn (A2 p) objs with
    |false=>exact .inl rfl
    | true =>
     refine .inr ?_
     rw[hO,Bool.true_and]at hg
     by_cases h0:pos<0\/(c.ins.length:Int)<=pos
     ·exact .inl ⟨rfl,h0⟩
     obtain⟨k,hk⟩:∃k:Nat,pos=k:=⟨pos.toNat,by omega⟩
     have aw:k<c.ins.length:=by omega
     refine .inr ⟨rfl,k,hk,aw,?_⟩
     subst hk
     unfold GD at hg
     rw[Oi,Int.toNat_natCast,Oj c W aw,Option.getD_some]at hg
     by_cases a1:(stk.length:Int)=(getM ⟨0,0⟩ (k:Int) W).st
     ·refine .inr ?_
      by_cases a2:(env.length:Int)=(getM ⟨0,0⟩ (k:Int) W).env
      ·refine .inr ⟨a1,a2,?_⟩
       cases a3:okVs objs.length stk with
       |false=>exact .inl rfl
       |true=>
        cases a4:okVs objs.length env with
        |false=>exact .inr ⟨rfl,rfl⟩
        |true=>exact absurd (by rw[a3,a4,decide_eq_true (by omega)];rfl) hg
      ·exact .inl ⟨a1,a2⟩
     ·exact .inl a1
   rcases bh with hO|⟨hO,h0|h0⟩|⟨hO,k,rfl,aw,a|⟨a1,a2⟩|⟨a1,a2,a3|⟨a3,a4⟩⟩⟩
   ·have ag:(okP p&&Bn (A2 p) objs)=false:=by rw[hO];simp
    repeat' first|refine gf (gi ag o8') ?_ [] [8]|refine CR (aj _) ?_|refine callPG (aj _) ?_|refine gf (gi ag o8') ?_ o13 [8]|apply gy<;>intro hh
    refine finC (U':=O) (d:=.tup [.agg (F3 JP),dI 2]) ⟨by rw[hn];rfl,rfl⟩ (hw:=?_) (hZ:=fin0 _)
    exact Dm ⟨E2,Ab _,trivial⟩
   all_goals have ag:(okP p&&Bn (A2 p) objs)=true:=by rw[hO,aH];rfl
   ·repeat' first|refine gf (gi ag o8') ?_ [] [8]|refine CR (aj _) ?_|refine callPG (aj _) ?_|refine gf (gi ag o8') ?_ o13 [8]|apply gy<;>intro hh
    refine finC (U':=O) (d:=.tup [.agg (F3 JP),dI 2]) ⟨by rw[hn];rfl,rfl⟩ (hw:=?_) (hZ:=fin0 _)
    exact Dm ⟨E2,Ab _,trivial⟩
   ·repeat' first|refine gf (gi ag o8') ?_ [] [8]|refine CR (aj _) ?_|refine callPG (aj _) ?_|refine gf (gi ag o8') ?_ o13 [8]|apply gy<;>intro hh
    refine finC (U':=O) (d:=.tup [.agg (F3 JP),dI 2]) ⟨by rw[hn];rfl,rfl⟩ (hw:=?_) (hZ:=fin0 _)
    exact Dm ⟨E2,Ab _,trivial⟩
   ·repeat' first|refine gf (gi ag (gi o8' om)) ?_ [] [8]|refine CR (aj _) ?_|refine callPG (aj _) ?_|refine gf (gi ag (gi o8' om)) ?_ o13 [8]|apply gy<;>intro hh
    refine IX (fun i11 ac=>?_)
    have n11:=B9 o8' ac
    refine gf (gi o8' (gi n11 a)) ?_ o13 [8]
    refine finC (U':=O) (d:=.tup [.agg (F3 JP),dI 2]) ⟨by rw[hn];rfl,rfl⟩ (hw:=?_) (hZ:=fin1 i11 _ _ ac)
    exact Dm ⟨E2,Ab _,trivial⟩
   ·repeat' first|refine gf (gi ag (gi o8' om)) ?_ [] [8]|refine CR (aj _) ?_|refine callPG (aj _) ?_|refine gf (gi ag (gi o8' om)) ?_ o13 [8]|apply gy<;>intro hh
    refine IX (fun i11 ac=>?_)
    have n11:=B9 o8' ac
    refine gf (gi o8' (gi n11 (gi a1 a2))) ?_ o13 [8]
    refine finC (U':=O) (d:=.tup [.agg (F3 JP),dI 2]) ⟨by rw[hn];rfl,rfl⟩ (hw:=?_) (hZ:=fin1 i11 _ _ ac)
    exact Dm ⟨E2,Ab _,trivial⟩
   ·repeat' first|refine gf (gi ag (gi o8' om)) ?_ [] [8]|refine CR (aj _) ?_|refine callPG (aj _) ?_|refine gf (gi ag (gi o8' om)) ?_ o13 [8]|apply gy<;>intro hh
    refine IX (fun i11 ac=>?_)
    have n11:=B9 o8' ac
    refine gf (gi o8' (gi n11 (gi a1 (gi a2 a3)))) ?_ o13 [8]
    refine finC (U':=O) (d:=.tup [.agg (F3 JP),dI 2]) ⟨by rw[hn];rfl,rfl⟩ (hw:=?_) (hZ:=fin1 i11 _ _ ac)
    exact Dm ⟨E2,Ab _,trivial⟩
   ·repeat' first|refine gf (gi ag (gi o8' om)) ?_ [] [8]|refine CR (aj _) ?_|refine callPG (aj _) ?_|refine gf (gi ag (gi o8' om)) ?_ o13 [8]|apply gy<;>intro hh
    refine IX (fun i11 ac=>?_)
    have n11:=B9 o8' ac
    refine gf (gi o8' (gi n11 (gi a1 (gi a2 (gi a3 a4))))) ?_ o13 [8]
    refine finC (U':=O) (d:=.tup [.agg (F3 JP),dI 2]) ⟨by rw[hn];rfl,rfl⟩ (hw:=?_) (hZ:=fin1 i11 _ _ ac)
    exact Dm ⟨E2,Ab _,trivial⟩
  rw[if_pos hg]at be
  simp only[Bool.and_eq_true]at hg
  obtain⟨hO,hF⟩:=hg
  have bU:=(Rs (evs:=[]) hO).1 hF
  have ag:(okP p&&Bn (A2 p) objs)=true:=by rw[hO,aH];rfl
  unfold GD at hF
  simp only[Bool.and_eq_true,decide_eq_true_eq]at hF
  obtain⟨⟨f1,f2,f3,f4⟩,f5,f6⟩:=hF
  rw[Oi]at f2
  obtain⟨k,rfl⟩:∃k:Nat,pos=k:=⟨pos.toNat,by omega⟩
  have aw:k<c.ins.length:=by omega
  rw[Int.toNat_natCast,Oj c W aw,Option.getD_some]at f3 f4
  repeat' first|refine gf (gi ag (gi o8' om)) ?_ [] [8]|refine CR (aj _) ?_|refine callPG (aj _) ?_|refine gf (gi ag (gi o8' om)) ?_ o13 [8]|apply gy<;>intro hh
  refine IX (fun i11 ac=>?_)
  have n11:=B9 o8' ac
  refine gf (gi f3 (gi f4 (gi f5 f6))) ?_ (delO 7 o13) [8]
  have o8:=(w7 S0 (.cells [D.int .i64 (getM ⟨0,0⟩ (k:Int) W).st,D.int .i64 (getM ⟨0,0⟩ (k:Int) W).env]) n11).trans o8'
  have hS:Sub O (S0.set i11 (.cells [D.int .i64 (getM ⟨0,0⟩ (k:Int) W).st,D.int .i64 (getM ⟨0,0⟩ (k:Int) W).env])):=fun j o hj=>by
   rw[w7 _ _ (B9 (aP j o hj) ac)];exact aP j o hj
  generalize S0.set i11 (.cells [D.int .i64 (getM ⟨0,0⟩ (k:Int) W).st,D.int .i64 (getM ⟨0,0⟩ (k:Int) W).env])=Sb at*
  refine Fx (id:=7) [0,1,2,3,4,6,7,5,8,9,10,11,12] [5,8,11] (fun _=>none) (fun _ _ h=>by cases h) ?_
  refine gz ?_ o13 [8]
  refine Bd (Jf stk .no Sb (by omega)) (fun d S1 hr=>?_) (fun d S1 hr=>by obtain⟨_,h,_⟩:=hr;cases h)
  obtain⟨r0,hd,aS⟩:=hr
  replace aS:FrV Sb r0 stk S1:=aS
  cases hd
  refine⟨(fun _ _ h=>by cases h),?_⟩
  refine Bd (Jf env .no S1 (by omega)) (fun d S2 hr=>?_) (fun d S2 hr=>by obtain⟨_,h,_⟩:=hr;cases h)
  obtain⟨r1,hd,aD⟩:=hr
  replace aD:FrV S1 r1 env S2:=aD
  cases hd
  refine⟨(fun _ _ h=>by cases h),?_⟩
  refine moRr (.agg [dI k,r0.d stk.length,r1.d env.length]) ?_ (hd:=by cases r0<;>cases r1<;>simp)
  refine moRr (.agg ([dI 0,dI 0,dI 0,dI 0,.nils,dI 0,dI 0,.nils,.nils,.nils,.nils]++Ad p++[dI k,r0.d stk.length,r1.d env.length])) ?_ (hd:=by cases r0<;>cases r1<;>simp)
  refine moBox (AO p (R01 r0 r1) ⟨[],[],k,stk,env⟩) (fun ir bu=>?_) (hC:=fun _ _ h=>by cases h)
  have ak:=RunS.init (p:=p) (pos:=(k:Int)) aS aD bu
  have bB:∀j o,Sb j=some o->(S2.set ir (.cells (AO p (R01 r0 r1) ⟨[],[],k,stk,env⟩))) j=some o/\j≠ir /\ ∀a, ¬(R01 r0 r1 a).is j:=fun j o hj=>by
   have a1:=aS.2.1 j o hj id
   have a2:=aD.2.1 j o a1.1 id
   have ai:=B9 a2.1 bu
   refine⟨by rw[w7 _ _ ai];exact a2.1,ai,fun a ha=>?_⟩
   unfold R01 at ha
   by_cases e1:a=1
   ·subst e1;rw[Aj]at ha;exact a2.2 ha
   ·rw[A8 _ _ e1]at ha
    by_cases e0:a=0
    ·subst e0;rw[Aj]at ha;exact(aD.2.1 j o a1.1 id).2 (absurd ha a1.2)
    ·rw[A8 _ _ e0]at ha;exact ha
  generalize S2.set ir (.cells (AO p (R01 r0 r1) ⟨[],[],k,stk,env⟩))=S3 at*
  refine gz ?_ o13 [8]
  refine A4 (Vo objs o1 S3 bF bn) (fun d S4 hr=>?_) (fun d S4 hr=>by obtain⟨_,h,_⟩:=hr;cases h)
  obtain⟨R',hd,hT⟩:=hr
  cases hd
  have o4:=(hT.keep ir _ ak.obj).1
  refine gz ?_ o13 [8]
  refine storeRw (r:=R' 3) (k:=9) o4 ?_
  obtain⟨p1,p2⟩:=ak.swap (R':=R') (l:=objs) (fun j o h _ _=>h) ak.obj hT rfl
  have bl:∀j o,Sb j=some o->(S4.set ir (.cells (AO p (Fc (R01 r0 r1) R') ⟨objs,[],k,stk,env⟩))) j=some o/\j≠ir /\ ∀a, ¬(Fc (R01 r0 r1) R' a).is j:=fun j o hj=>by
   obtain⟨a1,a2,a3⟩:=bB j o hj
   exact⟨(p2 j o a1 a2 a3).1,a2,(p2 j o a1 a2 a3).2⟩
  refine drp (S4.set ir (.cells (AO p (Fc (R01 r0 r1) R') ⟨objs,[],k,stk,env⟩))) ?_ (by exact Sub.refl _)
  generalize S4.set ir (.cells (AO p (Fc (R01 r0 r1) R') ⟨objs,[],k,stk,env⟩))=S5 at p1 bl⊢
  generalize Fc (R01 r0 r1) R'=R5 at p1 bl
  clear p2 bB ak aS aD hT o4
  have hW:=Uc aH
  have bw:∀n:Nat,0<=p.gens.getD n 0:=fun n=>(GC aH n).1
  refine gz ?_ o13 [8]
  refine Gb [5,8,9,12,13,122,123,124,125] (fun (s:GoS) (R:Nat->RW) (S1:Sig)=>GInv (A2 p) (fun j=>(Ea c W)[j]?) s/\RunS ir p R s S1/\(∀j o,Sb j=some o->S1 j=some o/\j≠ir /\ ∀a, ¬(R a).is j)/\H=some (mRun p (A2 p) c c.ins.length s)/\(s.stk.length:Int)<=900000+s.pos/\(s.env.length:Int)<=900000+s.pos/\(s.evs.length:Int)<=s.pos) (fun _ _ _=>[]) (fun _ _ S1=>S1) (fun s _ _=>c.ins.length-s.pos.toNat) (⟨objs,[],k,stk,env⟩) (R5) (S5) (by exact⟨bU,p1,bl,be,by simp only;omega,by simp only;omega,by simp only[List.length_nil];omega⟩) (fun s R S1 hI=>?_)
  obtain⟨hG,hR,hK,aG,b1,b2,b3⟩:=hI
  obtain⟨h0,⟨l,hl,aF,bx⟩,aA,bY,aC⟩:=id hG
  have bc:=aq.dom _ _ hl
  obtain⟨env',next,aV,g1,g2,g3,g4⟩:=aq.ok _ _ hl
  have aK:=Kg bw hW aq hG
  have au:=QC bw hW aq hG
  obtain⟨q,hq⟩:∃q:Nat,s.pos=q:=⟨s.pos.toNat,by omega⟩
  have hx:Am c s.pos.toNat=c.ins[s.pos.toNat]:=by unfold Am;rw[List.getElem?_eq_getElem bc];rfl
  rw[hx]at aV aK au
  have aa:=aq.fits _ _ (List.getElem?_eq_getElem bc)
  simp only[hq,Int.toNat_natCast]at bc aV aK au aa b1 b2 b3
  obtain⟨x,aW⟩:∃x,x=c.ins[q]:=⟨_,rfl⟩
  rw[<-aW]at aV aK au aa
  obtain⟨u1,u2⟩:=fits_rg aa
  obtain⟨j,hj⟩:∃j:Nat,x.op=j:=⟨x.op.toNat,by omega⟩
  have bj:=actAt (j:=j) (by omega) (by omega)
  have q1:=hR.obj
  refine gf (gi q1 (gi hq aW.symm)) ?_ o13 [8]
  refine IX (fun i14 ap=>?_)
  have n14:=B9 q1 ap
  refine gf (gi q1 (gi hq aW.symm)) ?_ (delO 12 o13) [8]
  have aQ:=hR.newO ap (.cells (cIns x))
  obtain⟨p3,p4⟩:=aQ.at ((q:Int)+1) rfl
  have o14:((S1.set i14 (.cells (cIns x))).set ir (.cells (AO p R { s with pos:=(q:Int)+1 }))) i14=some (.cells (cIns x)):=by rw[w7 _ _ n14.symm,w6]
  refine FL (W2 (U':=(S1.set i14 (.cells (cIns x))).set ir (.cells (AO p R { s with pos:=(q:Int)+1 }))) (by exact Sub.refl _)) ?_
  have bA:∀j o,Sb j=some o->((S1.set i14 (.cells (cIns x))).set ir (.cells (AO p R { s with pos:=(q:Int)+1 }))) j=some o/\j≠ir /\ ∀a, ¬(R a).is j:=fun j o hj=>by
   obtain⟨a1,a2,a3⟩:=hK j o hj
   exact⟨by rw[w7 _ _ a2,w7 _ _ (B9 a1 ap)];exact a1,a2,a3⟩
  have nr14:∀a, ¬(R a).is i14:=fun a ha=>by
   obtain⟨z,hz⟩:=(hR.rows.ok a).cells ha
   rw[ap]at hz;cases hz
  have n14':i14≠ir:=n14.symm
  generalize (S1.set i14 (.cells (cIns x))).set ir (.cells (AO p R { s with pos:=(q:Int)+1 }))=S6 at p3 o14 bA⊢
  clear p4 aQ q1 n14 ap
  refine Fx (id:=12) [0,1,2,3,4,5,6] [6] (S6.out fun j=>j≠i14) (D2 _ _) ?_
  have u14:=E9 (touch:=fun j=>j≠i14) o14 (by simp)
  have bm:=W0 (t:={ s with pos:=(q:Int)+1 }) hp aH aV aa g3 aF bx aA aC (by simp only;omega) (by simp only;omega) (by simp only;omega) p3
  refine gf (gi hj (gi bj u14)) ?_ o13 [8]
  rw[hj]at bm
  refine Bd bm (fun d S7 hr=>?_) (fun d S7 hr=>?_)
  rotate_left
  ·obtain⟨_,_,h⟩:=hr
   split at h<;>cases h.1
  obtain⟨R2,bk,h⟩:=hr
  refine⟨fun y o hy=>?_,?_⟩
  ·obtain⟨y1,y2⟩:=Ej hy
   obtain rfl:y=i14:=Classical.byContradiction y2
   exact(bk _ _ y1 n14' nr14).1
  have aR:∀j o,Sb j=some o->S7 j=some o/\j≠ir /\ ∀a, ¬(R2 a).is j:=fun j o hj=>by
   obtain⟨a1,a2,a3⟩:=bA j o hj
   exact⟨(bk j o a1 a2 a3).1,a2,(bk j o a1 a2 a3).2⟩
  cases bb:J1 p (A2 p) x { s with pos:=(q:Int)+1 } with
  |inl t'=>
   have bG:=QB bb
   rw[bb]at h aK au
   obtain⟨hd,bT⟩:=h
   obtain⟨k1,k2⟩:=aK
   have k3:=k1.lo
   cases hd
   simp only at bG au
   refine gz ?_ o13 [8]
   exact⟨t',R2,S7,⟨k1,bT,aR,by rw[aG,au],by omega,by omega,by omega⟩,td1,wkR⟩
  | inr h' =>
   rw[bb]at h au
   obtain⟨hd,s',av,b,bC⟩:=h
   cases hd
   simp only at au
   repeat ((fail_if_success (first|(refine haltD bC (fun S8 tl o9 k9=>?_))|fail));(refine goX1 trivial ?_))
   refine haltD bC (fun S8 tl o9 k9=>?_)
   have o8b:S8 i8=_:=k9 i8 _ (aR i8 _ o8).1 (aR i8 _ o8).2.1 (aR i8 _ o8).2.2
   have bS:Sub O S8:=fun j o hj=>by
    obtain⟨a1,a2,a3⟩:=aR j o (hS j o hj)
    exact k9 j o a1 a2 a3
   simp only[F3,List.cons_append,List.nil_append]at o9
   refine gf (gi o9 o8b) ?_ o13 [8]
   refine finC (U':=O) (d:=.tup [.agg (F3 h'),dI 0]) ⟨by rw[aG,au];rfl,rfl⟩ (hw:=?_) (hZ:=fun j o hj=>by rw[w7 _ _ (B9 hj aN)];exact bS j o hj)
   exact Ab _
def exB:BProg:=⟨[⟨[],[0],[⟨0,7⟩]⟩,⟨[3],[1],[]⟩,⟨[4,3],[],[⟨0,1⟩]⟩],2,[1],[⟨1,0,.mk 2 0 [] 3 0 [],0⟩,⟨2,0,.mk 3 0 [0] 0 5 [],3⟩],
 [⟨17,0,[1]⟩,⟨4,0,[2]⟩,⟨3,0,[]⟩,⟨9,0,[4,5]⟩,⟨3,0,[]⟩,⟨3,1,[]⟩,⟨5,0,[7]⟩,⟨6,5,[]⟩],6⟩
def exC:CProg:=⟨[⟨3,0⟩,⟨5,0⟩,⟨7,0⟩,⟨21,0⟩,⟨3,0⟩,⟨14,0⟩,⟨3,1⟩,⟨15,0⟩,⟨21,0⟩,⟨4,5⟩,⟨19,0⟩,⟨21,0⟩],[0,4],9⟩
def exL:List CLev:=[⟨0,1⟩,⟨1,1⟩,⟨1,1⟩,⟨1,1⟩,⟨0,1⟩,⟨1,1⟩,⟨0,2⟩,⟨1,2⟩,⟨1,1⟩,⟨0,0⟩,⟨1,0⟩,⟨1,0⟩]
theorem Kq{l m:List Int}(h:∀x,x∈l ↔ x∈m): ∀(a:List Init) (seen:List Int),DO l seen a=DO m seen a
 |[],_=>rfl
 |x::r,seen=>by rw[DO,DO,Kq h r,decide_eq_decide.2 (h x.slot)]
def J7(p:BProg):Nat->List BClass->Bool
 |_,[]=>true
 |i,c::r=>decide (linE (p.classes.map (·.parents)) ((i:Int)+3)=0)&&DO (hasG p.classes (((i:Int)+3)-2).toNat [((i:Int)+3)] []) [] c.inits&&J7 p (i+1) r
theorem Ia(p:BProg): ∀(l:List BClass) (i:Nat),Ba p i l=J7 p i l
 |[],_=>rfl
 |c::r,i=>by
  rw[Ba,J7,Ia p r]
  congr 2
  exact Kq (fun x=>by unfold hasP EN;exact List.mem_mergeSort) _ _
theorem VB:Ba exB 0 exB.classes=true:=by rw[Ia];decide +kernel
theorem PJ:Ax exB=true:=by
 unfold Ax
 have h1:B4 0 exB.classes=some 2:=by decide +kernel
 have h2:Bb (exB.classes.map (·.parents))=true:=by decide +kernel
 have h3:decide (exB.classes.length<=10)=true:=by decide +kernel
 have h4:decide ((2:Int)=exB.slots)=true:=by decide +kernel
 rw[h1,h3]
 simp only[h2,h4,VB,Bool.and_self,Bool.and_true]
theorem VA:okP exB=true:=by
 unfold okP Df
 rw[PJ]
 decide +kernel
theorem W6:EN [1,0]=[0,1]:=by simp[EN,List.mergeSort,List.MergeSort.Internal.splitInTwo,List.merge]
theorem ex_has5:hasP exB 5=[0,1]:=by
 unfold hasP
 rw[show hasG exB.classes ((5:Int)-2).toNat [5] []=[1,0] by decide +kernel,W6]
theorem ex_has4:hasP exB 4=[0,1]:=by
 unfold hasP
 rw[show hasG exB.classes ((4:Int)-2).toNat [4] []=[1,0] by decide +kernel,W6]
theorem ex_has3:hasP exB 3=[0]:=by
 unfold hasP
 rw[show hasG exB.classes ((3:Int)-2).toNat [3] []=[0] by decide +kernel]
 simp[EN]
theorem Tz:EG exB 5=[⟨0,1⟩]:=by unfold EG;rw[ex_has5];decide +kernel
theorem TA:EG exB 4=[⟨0,7⟩]:=by unfold EG;rw[ex_has4];decide +kernel
theorem TB:EG exB 3=[⟨0,7⟩]:=by unfold EG;rw[ex_has3];decide +kernel
def exW:CWorld:=⟨fun c=>decide (3<=c)&&decide (c<6),fun c=>if c=3 then [0] else if c=4 then [0,1] else if c=5 then [0,1] else hasP exB c,
 fun c=>if c=3 then [vInt 7] else if c=4 then [vInt 7,EL] else if c=5 then [vInt 1,EL] else(hasP exB c).map (frV (EG exB c))⟩
theorem Lu:A2 exB=exW:=by
 unfold A2 exW
 rw[VA]
 congr 1
 ·funext c
  unfold ownF
  simp[exB]
 ·funext c
  split
  ·rename_i e;subst e;exact ex_has3
  split
  ·rename_i e;subst e;exact ex_has4
  split
  ·rename_i e;subst e;exact ex_has5
  rfl
 ·funext c
  split
  ·rename_i e;subst e;rw[ex_has3,TB];rfl
  split
  ·rename_i e;subst e;rw[ex_has4,TA];rfl
  split
  ·rename_i e;subst e;rw[ex_has5,Tz];rfl
  rfl
theorem ex_code:NM exB=exC:=by unfold NM;rw[if_pos VA];kernel_rfl
theorem Hh:AQ exB exC=some exL:=by
 unfold AQ
 rw[VA]
 kernel_rfl
theorem Tx:(By exB exC).map (Ea exC)=some exL:=by rw[<-Gz,Hh]
def exH1:GoH:=⟨2,vZ,0,[vObj 0],0,11,[],[],[⟨5,[vInt 1,EL]⟩],[]⟩
def exH2:GoH:=⟨1,vInt 1,0,[],0,0,[],[],[⟨5,[vInt 1,EL]⟩],[⟨2,0,[vInt 1]⟩]⟩
def exH3:GoH:=⟨4,vZ,0,[],5,0,[],[],[],[]⟩
theorem ex_go1:goC exB (A2 exB) exC [] 9 [] []=some exH1:=by
 unfold goC
 rw[Hh,Lu]
 kernel_rfl
theorem ex_go2:goC exB (A2 exB) exC [⟨5,[vInt 1,EL]⟩] 0 [] [vObj 0]=some exH2:=by
 unfold goC
 rw[Hh,Lu]
 kernel_rfl
theorem ex_go3:goC exB (A2 exB) exC [] 0 [] [vInt 3]=some exH3:=by
 unfold goC
 rw[Hh,Lu]
 kernel_rfl
theorem Vz:Ew exC=true:=by decide +kernel
theorem Tw:LQ exC=[48,32,52,32,58,32,57,10,110,97,109,101,32,48,10,115,108,111,116,32,48,10,111,117,116,10,101,110,100,10,110,97,109,101,32,48,10,108,101,116,10,110,97,109,101,32,49,10,100,114,111,112,10,101,110,100,10,110,101,119,32,53,10,99,97,108,108,32,48,10,101,110,100,10]:=by decide +kernel
theorem Wg:exL.length=12:=rfl
theorem OD:(JE exC).length=25:=by decide +kernel
theorem OA(n:Int)(O:Sig):DCall prog 19 [dI n] O (rS (.agg (cVal (vInt n))) O):=by
 refine en func19 ntmps19 ?_
 refine gz ?_ [] [2]
 refine newV (fun i hi=>?_)
 refine gz ?_ [] [2]
 exact finC (U':=O) ⟨rfl,rfl⟩
@[reducible,instance] def a19:=fun n O=>ah0 (@OA n O)
theorem Vm(a b:List MVal)(o o':Own)(O:Sig)(h1:a.length<=1073741824:=by exact sd)(h2:b.length<=1073741824:=by exact sd):DCall prog 53 [.slice (a.map cVal) o,.slice (b.map cVal) o'] O (rS (.bool (decide (a=b))) O):=by
 refine en func53 ntmps53 ?_
 by_cases hc:a.length=b.length
 ·refine gf hc ?_ o53
  refine BV [0,1] (fun (k:Nat)=>k<=a.length /\ ∀j (h1:j<a.length) (h2:j<b.length),j<k->a[j]=b[j]) (fun k=>[(5,dI k)]) (fun _=>O) (fun k=>a.length-k) (0) (by exact⟨by omega,fun j _ _ h=>by omega⟩) (fun k hI=>?_)
  obtain⟨hk,hE⟩:=hI
  by_cases aw:k<a.length
  ·have b7:k<b.length:=by omega
   refine gf hc ?_ o53
   refine IW (r:=decide (a[k]=b[k])) (xs:=cVal a[k]) (ys:=cVal b[k]) tabOK OE rfl rfl rfl rfl Ok (VC _ _) ?_
   by_cases hx:a[k]=b[k]
   ·refine gf hx ?_ o53
    exact⟨k+1,⟨by omega,fun j h1 h2 h3=>by by_cases e:j=k;(subst e;exact hx);exact hE j h1 h2 (by omega)⟩,td1,wkR⟩
   ·have hne:¬a=b:=fun e=>hx (by simp[e])
    refine gf hx ?_ o53
    exact fe1 hne
  ·have bL:a=b:=List.ext_getElem hc fun j h1 h2=>hE j h1 h2 (by omega)
   refine gz ?_ o53
   exact fin1 (U':=O) ⟨by rw[decide_eq_true bL],rfl⟩
 ·have hne:¬a=b:=fun e=>hc (by rw[e])
  refine gz ?_ o53
  exact fe1 hne
end Go.DL
set_option linter.unusedVariables false
namespace Go.Proofs
open Go.Proofs.Tryz
open Go.RowKit Go.Shelf
theorem sizeB:(prog.info? 159).map (·.size)=some 2:=by kernel_rfl
set_option maxHeartbeats 1000000 in
set_option maxRecDepth 100000 in
theorem JU(b:Nat)(w:World)(h0:w.cell? ⟨b,0,none⟩=some (.pointer (some ⟨b,0,none⟩))):
  Calls prog 161 #[.pointer (some ⟨b,0,none⟩)] w fun e w'=>e=.returned (.tuple #[])/\w'=w:=by
 obtain⟨j,hj,_⟩:=Option.map_eq_some_iff.1 sizeB
 have mixed:prog.follows .mixedOrders=true:=by kernel_rfl
 have t72:=underlying159;have a72:=isAgg159;have z72:=sizeOf159;have v72:=zeroValue159;have u72:=run_underlying underlying159
 have t70:=underlying157;have a70:=isAgg157;have z70:=sizeOf157;have v70:=zeroValue157;have u70:=run_underlying underlying157
 have t4:=underlying4;have a4:=isAgg4;have z4:=sizeOf4;have v4:=zeroValue4;have u4:=run_underlying underlying4
 go_enter func161,ntmps161
 go_wp2
 rw[Lib.run_neq_ptr_same w _ underlying157 hj]
 go_wp2
 go_end0
 exact⟨rfl,rfl⟩
set_option maxHeartbeats 1000000 in
set_option maxRecDepth 100000 in
theorem Jw(b:Nat)(w:World)(h0:w.cell? ⟨b,0,none⟩=some (.pointer none))(bp:w.shape? b=some (159,2))(ca:w.frozen? ⟨b,0,none⟩=false):
  Calls prog 161 #[.pointer (some ⟨b,0,none⟩)] w fun e w'=>e=.returned (.tuple #[])/\w'=w.setCell ⟨b,0,none⟩ (.pointer (some ⟨b,0,none⟩)):=by
 obtain⟨j,hj,bH⟩:=Option.map_eq_some_iff.1 sizeB
 have mixed:prog.follows .mixedOrders=true:=by kernel_rfl
 have t72:=underlying159;have a72:=isAgg159;have z72:=sizeOf159;have v72:=zeroValue159;have u72:=run_underlying underlying159
 have t70:=underlying157;have a70:=isAgg157;have z70:=sizeOf157;have v70:=zeroValue157;have u70:=run_underlying underlying157
 have t4:=underlying4;have a4:=isAgg4;have z4:=sizeOf4;have v4:=zeroValue4;have u4:=run_underlying underlying4
 have t301:=underlying301;have a301:=isAgg301;have z301:=sizeOf301;have v301:=zeroValue301;have u301:=run_underlying underlying301
 have aJ:liesAt prog prog.depth 159 (2 / prog.cellsOf 159) 0 159 1=true:=by kernel_rfl
 go_enter func161,ntmps161
 go_wp2
 rw[Lib.run_to_unsafe w ⟨b,0,none⟩ underlying157 underlying301 hj (by rw[bH];decide) bp (Nat.zero_lt_succ 1)]
 simp only[Result.andThen]
 rw[Oper.upon_value]
 go_wp2
 rw[run_callFunc_extern func232 (by kernel_rfl) (by kernel_rfl) (by kernel_rfl) (e:=Extern.AbiNoEscape.same) (by kernel_rfl)]
 rw[Lib.run_noEscape]
 simp only[Result.andThen]
 rw[Oper.upon_value]
 go_wp2
 rw[Lib.run_from_unsafe w ⟨b,0,none⟩ underlying301 underlying157 hj bp aJ]
 simp only[Result.andThen]
 rw[Oper.upon_value]
 go_wp2
 go_end0
 exact⟨rfl,rfl⟩
set_option maxHeartbeats 1000000 in
set_option maxRecDepth 100000 in
theorem JW(b g cap:Nat)(p:Value)(ty:TypeId)(l:List UInt8)(cur:Array Value)(w:World)(h0:l≠[])(bP:w.heap[b]? = some (.cells #[p,.slice (some ⟨g,0,none⟩) l.length cap] ty (0,0)))(hg:w.heap[g]? = some (.cells cur 5 (0,0)))(bZ:l.length<=cap)(bM:l.length<=cur.size)(bV:l.length<=9223372036854775807)(bf:∀j x,l[j]? = some x->w.cell? ⟨g,j,none⟩=some (.int .u8 x.toNat)):
  Calls prog 86 #[.pointer (some ⟨b,0,none⟩)] w fun e w'=>e=.returned (.string ⟨l.toArray⟩)/\w'=w.drew.freeze ⟨g,0,none⟩ l.length:=by
 have b6:l.length≠0:=by simpa using h0
 have c1:w.drew.cell? ⟨b,1,none⟩=some (.slice (some ⟨g,0,none⟩) l.length cap):=by
  have:w.drew.heap[b]? = some (.cells #[p,.slice (some ⟨g,0,none⟩) l.length cap] ty (0,0)):=bP
  rw[Lib.cell_of_heap this];rfl
 have ce:(Builtin.unsafeSliceData_ #[96] 246 #[.slice (some ⟨g,0,none⟩) l.length cap]).run prog w.drew=.ok (.pointer (some ⟨g,0,none⟩)) w.drew:=
  Lib.run_unsafeSliceData_row _ _ _ _ _ _ (by omega)
 have cd:(Builtin.unsafeString_ #[246,3] 9 #[.pointer (some ⟨g,0,none⟩),.int .i64 l.length]).run prog w.drew=.ok (.string ⟨l.toArray⟩) (w.drew.freeze ⟨g,0,none⟩ l.length):=by
  refine Lib.run_unsafeString_row w.drew 246 3 9 5 underlying246 (by kernel_rfl) g cur.size (by have bJ:w.drew.heap[g]? = some (.cells cur 5 (0,0)):=hg;simp[World.shape?, bJ]) l h0 bM bV ?_
  intro j x hj
  have e:((⟨g,0,none⟩:Addr).add j)=⟨g,j,none⟩:=by unfold Addr.add;split<;>simp_all
  rw[e];exact bf j x hj
 have mixed:prog.follows .mixedOrders=true:=by kernel_rfl
 have t72:=underlying159;have a72:=isAgg159;have z72:=sizeOf159;have v72:=zeroValue159;have u72:=run_underlying underlying159
 have t70:=underlying157;have a70:=isAgg157;have z70:=sizeOf157;have v70:=zeroValue157;have u70:=run_underlying underlying157
 have t37:=underlying96;have a37:=isAgg96;have z37:=sizeOf96;have v37:=zeroValue96;have u37:=run_underlying underlying96
 have t127:=underlying246;have a127:=isAgg246;have z127:=sizeOf246;have v127:=zeroValue246;have u127:=run_underlying underlying246
 have t3:=underlying3;have a3:=isAgg3;have z3:=sizeOf3;have v3:=zeroValue3;have u3:=run_underlying underlying3
 have t9:=underlying9;have a9:=isAgg9;have z9:=sizeOf9;have v9:=zeroValue9;have u9:=run_underlying underlying9
 have t5:=underlying5;have a5:=isAgg5;have z5:=sizeOf5;have v5:=zeroValue5;have u5:=run_underlying underlying5
 go_enter func86,ntmps86
 go_wp2
 go_region_o
 all_goals (go_wp2;go_ret;exact⟨rfl,rfl⟩)
end Go.Proofs
namespace Go.Proofs
open Go.Proofs.Tryz
open Go.Shelf
def laysM171_ren:Go.Shelf.Ren:=⟨fun|171=>84|243=>162|246=>233|283=>272|284=>273|285=>274|286=>275|129=>316|317=>315|318=>317|319=>318|320=>319|337=>356|338=>357|n=>n,fun|3=>3|9=>9|2=>2|4=>4|171=>337|0=>0|53=>338|37=>96|5=>5|173=>341|212=>389|51=>373|20=>20|213=>390|46=>320|232=>452|233=>453|n=>n,fun|17=>1|18=>6|19=>7|n=>n⟩
theorem laysM171:Go.Proofs.LaysM.n171 prog laysM171_ren:={
 mixed:=by kernel_rfl
 f129:=func316.trans (congrArg some (by kernel_rfl))
 f171:=func84.trans (congrArg some (by kernel_rfl))
 f243:=func162.trans (congrArg some (by kernel_rfl))
 f246:=func233.trans (congrArg some (by kernel_rfl))
 f283:=func272.trans (congrArg some (by kernel_rfl))
 f284:=func273.trans (congrArg some (by kernel_rfl))
 f285:=func274.trans (congrArg some (by kernel_rfl))
 f286:=func275.trans (congrArg some (by kernel_rfl))
 f317:=func315.trans (congrArg some (by kernel_rfl))
 f318:=func317.trans (congrArg some (by kernel_rfl))
 f319:=func318.trans (congrArg some (by kernel_rfl))
 f320:=func319.trans (congrArg some (by kernel_rfl))
 f337:=func356.trans (congrArg some (by kernel_rfl))
 f338:=func357.trans (congrArg some (by kernel_rfl))
 t0:=underlying0
 a0:=isAgg0
 z0:=sizeOf0
 v0:=zeroValue0
 t2:=underlying2
 a2:=isAgg2
 z2:=sizeOf2
 v2:=zeroValue2
 t3:=underlying3
 a3:=isAgg3
 z3:=sizeOf3
 v3:=zeroValue3
 t4:=underlying4
 a4:=isAgg4
 z4:=sizeOf4
 v4:=zeroValue4
 t5:=underlying5
 a5:=isAgg5
 z5:=sizeOf5
 v5:=zeroValue5
 t9:=underlying9
 a9:=isAgg9
 z9:=sizeOf9
 v9:=zeroValue9
 t20:=underlying20
 a20:=isAgg20
 z20:=sizeOf20
 v20:=zeroValue20
 t37:=underlying96
 a37:=isAgg96
 z37:=sizeOf96
 v37:=zeroValue96
 t46:=underlying320
 a46:=isAgg320
 z46:=sizeOf320
 v46:=zeroValue320
 t51:=underlying373
 a51:=isAgg373
 z51:=sizeOf373
 v51:=zeroValue373
 t53:=underlying338
 a53:=isAgg338
 z53:=sizeOf338
 v53:=zeroValue338
 t171:=underlying337
 a171:=isAgg337
 z171:=sizeOf337
 v171:=zeroValue337
 t173:=underlying341
 a173:=isAgg341
 z173:=sizeOf341
 v173:=zeroValue341
 t212:=underlying389
 a212:=isAgg389
 z212:=sizeOf389
 v212:=zeroValue389
 t213:=underlying390
 a213:=isAgg390
 z213:=sizeOf390
 t232:=underlying452
 a232:=isAgg452
 z232:=sizeOf452
 v232:=zeroValue452
 t233:=underlying453
 a233:=isAgg453
 z233:=sizeOf453
 v233:=zeroValue453
 g17:=by kernel_rfl
 g18:=by kernel_rfl
 g19:=by kernel_rfl
 i0:=by kernel_rfl
 i2:=by kernel_rfl
 i3:=by kernel_rfl
 i4:=by kernel_rfl
 i5:=by kernel_rfl
 i9:=by kernel_rfl
 i20:=by kernel_rfl
 i37:=by kernel_rfl
 i46:=by kernel_rfl
 i51:=by kernel_rfl
 i53:=by kernel_rfl
 i171:=by kernel_rfl
 i173:=by kernel_rfl
 i212:=by kernel_rfl
 i232:=by kernel_rfl
 i233:=by kernel_rfl
 m17:=by kernel_rfl
 m18:=by kernel_rfl
 m19:=by kernel_rfl }
open Go.RowKit Go.Sort Go.Lib in
theorem strconv_Itoa (n : Int) (h0 : -9223372036854775808 <= n) (h1 : n <= 9223372036854775807) (w : World) (aY : Lib.TabIs prog w "internal/strconv.uint64pow10" .u64 Lib.pow10Tab) :
  Calls prog 84 #[.int .i64 n] w fun e w'=>e=.returned (.string ⟨(Lib.itoa n).toArray⟩) /\ ∃k os,w'=grow (w.drewN k) os:=Any.strconv_Itoa laysM171 n h0 h1 w aY
end Go.Proofs
