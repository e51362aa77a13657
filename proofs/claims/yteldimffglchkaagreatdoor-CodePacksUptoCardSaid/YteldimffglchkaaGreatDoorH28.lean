/- A part of the proof. -/
import Derived.Test.YteldimffglchkaaGreatDoorH27
import Derived.Test.YteldimffglchkaaGreatDoorH21
import Derived.Test.YteldimffglchkaaGreatDoorH20
import Derived.Test.YteldimffglchkaaGreatDoorH19
set_option linter.all false
namespace Go.DL
open Go.Proofs.Tryz
open Go Go.Proofs
set_option maxHeartbeats 8000000
theorem Jr{f g:Nat->Option (Nat×Nat)}: ∀(ps:List (Nat×Value)) (cs:Array Value),(∀p∈ps,f p.1=g p.1)->Instr.fill f cs ps=Instr.fill g cs ps
 |[],cs,_=>rfl
 | (i,v)::ps,cs,h=>by
  rw[Instr.fill,Instr.fill,h (i,v) (by simp)]
  cases g i with
  |none=>rfl
  |some q=>
   obtain⟨o,z⟩:=q
   simp only
   split
   ·rfl
   ·exact Jr ps _ fun p hp=>h p (by simp[hp])
section
variable {ro:Ro}{n:Nat}{ops:Array Oper}{Q:DX->St->Prop}{df:List DDf}{rest:List Oper}{γ:List (Nat×D)}{O:Sig}{t:Nat}{ty:TypeId}{pos:String}{after:Array Edge}
theorem bldA{T len e:Nat}{parts:Array (Nat×Operand)}{out:List D}(h:DOps prog ro n ops Q rest ⟨(t,.agg out)::γ,O,df⟩)(hk:(tab T).k=.array len e:=by(simp<;>rfl))(he:A1 (tab e).k=false:=by simp)(hp:parts.all (fun p=>decide (p.1<len))=true:=by rfl)
  (ho:Oz tab ((List.range len).map fun i=>(i*(tab e).size,e)) (tab T).zero (parts.toList.map fun p=>(p.1,ev γ p.2))=some out) (ba:decide (t<n)=true:=by exact tdR):DOps prog ro n ops Q (⟨some t,.build T parts,ty,pos,after,none⟩::rest) ⟨γ,O,df⟩:=by
 refine Bs (fun d U'=>d=.agg out/\U'=O) rfl (fun c e=>by cases e) (Aa fun c e=>by cases e) (by simp only[Ar];exact ba) ?_ (fun d U' ⟨a,b⟩=>by subst a b;exact h)
 intro g w a hs hT
 obtain⟨inf,desc,z,h1,h2,h3,h4,h5,h6,h7,h8,h9,bK⟩:=BM (Ac T) (by rw[hk];simp)
 obtain⟨inf',desc',z',g1,g2,g3,g4,g5,g6,g7,g8,g9,g10⟩:=BM (Ac e) (Ad he)
 have hz:RepL g (tab T).zero z.cells.toList:=by
  rw[h9]
  exact AF (by simp) fun j x v e1 e2=>by
   rw[List.getElem?_map,e2]at e1
   cases e1;exact De g v
 have bb:∀l:List (Nat×Operand),RepL g ((l.map fun p=>(p.1,ev γ p.2)).map (·.2)) ((l.map fun p=>(p.1,a.eval p.2)).map (·.2)):=fun l=>by
  induction l with
  |nil=>rfl
  |cons p l ih=>exact⟨_,_,rfl,Al hT p.2,ih⟩
 obtain⟨r,aY,bc⟩:=Im (P:=prog) (tab:=tab) (g:=g) (fs:=(List.range len).map fun i=>(i*(tab e).size,e)) (places:=((List.range len).map fun i=>(i*(tab e).size,e)).map fun p=>(p.1,(tab p.2).size)) rfl (ps:=parts.toList.map fun p=>(p.1,a.eval p.2)) (cs:=z.cells) ho (by simp) (bb _) hz
 have hsz:inf'.size=(tab e).size:=by first|exact g4|exact g5|exact g6|exact g3|omega
 have hb:prog.built T (parts.toList.map fun p=>(p.1,a.eval p.2))=some r:=by
  unfold Program.built
  rw[h1,FP Ac hk]
  simp only[h7,g1]
  rw[<-aY]
  refine Jr _ _ fun q hq=>?_
  obtain⟨p,bp,rfl⟩:=List.mem_map.1 hq
  have aZ:p.1<len:=by
   have:=Array.all_eq_true_iff_forall_mem.1 hp p (by simpa using bp)
   simpa using this
  simp[aZ,hsz]
 have:=run_build (P:=prog) w T (parts.map fun p=>(p.1,a.eval p.2)) r (by simpa using hb)
 refine⟨g,w,.agg r,.agg out,O,?_,.refl g,hs,⟨r.toList,by simp,bc⟩,rfl,rfl⟩
 simp only[execOp,Sem.run_bind]
 rw[this]
 rfl
end
def cActs:List D:=.nilf::(([105,106,107,108,109,110,111,112,113,113,113,113,113,114,115,116,117,118,119,120,121]:List Nat).map fun f=>D.func (.func f) [] [])
theorem TY(O:Sig):DCall prog 49 [] O (rS (.agg cActs) O):=by
 refine en func49 ntmps49 ?_
 refine gz ?_ [] [0]
 refine newV (fun i0 bG=>?_)
 refine gz ?_ [] [0]
 refine bldA (len:=22) (e:=108) (out:=cActs) ?_ (hp:=by simp) (ho:=by kernel_rfl)
 simp only[cActs,List.map_cons,List.map_nil]
 refine gz ?_ [] [0]
 exact finC (U':=O) ⟨rfl,rfl⟩
@[reducible,instance] def a49:=fun O=>ah0 (@TY O)
theorem Jq(bl:List Int): ∀(l:List Init) (seen:List Int),DW bl seen l=true->∀x∈l,inB x.n=true
 |[],_,_,_,h=>by cases h
 |y::r,seen,h,x,hx=>by
  rw[DW]at h
  simp only[Bool.and_eq_true]at h
  rcases List.mem_cons.1 hx with rfl|hx
  ·exact h.1.2
  ·exact Jq bl r _ h.2 x hx
theorem Le(p:BProg): ∀(l:List BClass) (i:Nat),Bf p i l=true->∀c∈l, ∀x∈c.inits,inB x.n=true
 |[],_,_,_,h=>by cases h
 |y::r,i,h,c,hc=>by
  rw[Bf]at h
  simp only[Bool.and_eq_true]at h
  rcases List.mem_cons.1 hc with rfl|hc
  ·exact Jq _ _ _ h.1.2
  ·exact Le p r _ h.2 c hc
def O4(m:List (Int×Int)):Prop:= ∀k,hasM k m=true->inB (getM 0 k m)=true
theorem Pc{m:List (Int×Int)}(h:O4 m)(s n:Int)(hn:inB n=true):O4 (putM s n m):=fun k hk=>by
 rw[Em]
 by_cases e:k=s
 ·rw[if_pos e];exact hn
 ·rw[if_neg e]
  rw[Gf]at hk
  simp only[e,decide_false,Bool.false_or]at hk
  exact h k hk
theorem J5: ∀(l:List Init) (m:List (Int×Int)),O4 m->(∀x∈l,inB x.n=true)->O4 (Dw l m)
 |[],_,h,_=>h
 |x::r,_,h,hl=>J5 r _ (Pc h x.slot x.n (hl x (by simp))) fun y hy=>hl y (by simp[hy])
theorem Mf{p:BProg}(hk:okP p=true)(order:List Int):O4 (Hi p order):=by
 have hc:∀c∈p.classes, ∀x∈c.inits,inB x.n=true:=by
  have h2:=Eh hk
  unfold AA at h2
  simp only[Bool.and_eq_true]at h2
  obtain⟨_,h4⟩:=h2
  split at h4
  ·cases h4
  ·simp only[Bool.and_eq_true]at h4
   exact Le p _ _ h4.2
 unfold Hi
 induction order with
 |nil=>intro k hk;simp[hasM]at hk
 | cons c r ih =>
  rw[List.foldr_cons,Di]
  split
  ·refine J5 _ _ ih fun x hx=>?_
   cases hg:p.classes[(c-3).toNat]? with
   |none=>rw[hg]at hx;simp at hx
   |some cl=>rw[hg]at hx;exact hc cl (List.mem_of_getElem? hg) x hx
  ·exact ih
theorem H5{m:List (Int×Int)}(h:O4 m): ∀l:List Int, ∀x∈beginL m l,inB x.n=true
 |[],_,hx=>by cases hx
 | s::r,x,hx=>by
  rw[beginL]at hx
  split at hx
  ·rename_i hs
   rcases List.mem_cons.1 hx with rfl|hx
   ·exact h s hs
   ·exact H5 h r x hx
  ·exact H5 h r x hx
theorem Lg{p:BProg}(hk:okP p=true)(c:Int):(hasP p c).length<=40:=by
 have h1:=Cc p c
 have h2:=Eh hk
 unfold AA at h2
 simp only[Bool.and_eq_true,decide_eq_true_eq]at h2
 obtain⟨h3,h4⟩:=h2
 have key:∀(l:List BClass) (n m:Int),C5 n l=some m->wtL (fun c:BClass=>c.slots.length) l<=4*l.length:=fun l=>by
  induction l with
  |nil=>intro n m _;exact Nat.le_refl _
  | cons c r ih =>
   intro n m h
   rw[C5]at h
   split at h
   ·cases h
   ·split at h
    ·cases h
    ·have:=ih _ _ h
     simp only[wtL,List.length_cons];omega
 split at h4
 ·cases h4
 ·rename_i n hn
  have:=key _ _ _ hn
  omega
theorem SM{p:BProg}(hk:okP p=true):WldOK p (A2 p):=by
 refine⟨fun c h1 h2=>?_,fun c _=>MG p c,fun c _=>B5.2 fun v hv=>?_⟩
 ·show(ownF p c&&okP p)=true
  unfold ownF;rw[hk];simp;omega
 ·unfold A2 at hv
  obtain⟨s,_,rfl⟩:=List.mem_map.1 hv
  unfold frV
  split
  ·rename_i i hi
   have:=H5 (Mf hk _) _ i (List.mem_of_find?_eq_some hi)
   unfold inB at this
   unfold okV vInt
   simp only[Bool.and_eq_true,decide_eq_true_eq]at this
   simp[this]
  ·simp[okV,Eb]
theorem stk1{l:List MVal}(h:1<=l.length): ∃r v,l=r++[v]/\Dn l=v/\l.dropLast=r:=by
 have hne:l≠[]:=fun e=>by rw[e]at h;simp at h
 refine⟨l.dropLast,l.getLast hne,(List.dropLast_concat_getLast hne).symm,?_,rfl⟩
 unfold Dn;rw[List.getLast?_eq_some_getLast hne];rfl
theorem stk2{l:List MVal}(h:2<=l.length): ∃r w v,l=r++[w,v]/\Dn l=v/\Dn l.dropLast=w/\l.dropLast.dropLast=r/\l.dropLast=r++[w]:=by
 obtain⟨r,v,h1,h2,h3⟩:=stk1 (l:=l) (by omega)
 obtain⟨q,w,g1,g2,g3⟩:=stk1 (l:=l.dropLast) (by rw[List.length_dropLast];omega)
 refine⟨q,w,v,?_,h2,g2,g3,g1⟩
 rw[h1,<-h3,g1];simp
theorem NQ{N:Int}{v:MVal}(h:okV N v=true): -1000000000<=AI v/\AI v<=1000000000:=by
 unfold AI
 split
 ·rename_i h1
  unfold okV at h
  rw[if_pos h1]at h
  simpa using h
 ·omega
def actF(op:Int):Nat:=if op<=8 then 104+op.toNat else if op<=13 then 113 else 100+op.toNat
def ActR(ir:Nat)(p:BProg)(R:Nat->RW)(O:Sig)(r:GoS ⊕ GoH)(y:DE)(U':Sig):Prop:= ∃R',RunK ir R O R' U'/\match r with
 |.inl t=>y=.ret (.bool false)/\RunS ir p R' t U'
 |.inr h=>y=.ret (.bool true) /\ ∃s' av b,HaltS ir p R' s' av b h U'
theorem Ut{ir:Nat}{p:BProg}{R:Nat->RW}{t:GoS}{O:Sig}{N k q:Nat}{x:CIns}{l:CLev}{m:Met}{env:Int}{next:Bool}(hp:p.wt<=1073741824)(hk:okP p=true)(hI:InsOK p N k x l m env next)(am:fitsC p N q x=true)(bt:0<=env)
  (bB:(t.stk.length:Int)=l.st) (bI:(t.env.length:Int)=l.env) (aT:okVs t.objs.length t.stk=true) (aW:Ba (A2 p) t.objs=true) (ax:t.stk.length<=1000000) (bd:t.env.length<=1000000) (bx:t.evs.length<=1000000) (hR:RunS ir p R t O) :
  DCall prog (actF x.op) [.ptr ir 0,.agg (cIns x)] O (ActR ir p R O (I9 p (A2 p) x t)):=by
 have ht:=hI.take
 have bJ:=(BB.1 aW).1
 unfold fitsC at am
 have f3:x.op=3->0<=x.a:=fun h=>by rw[if_neg (by omega),if_pos h]at am;simpa using am
 have f46:x.op=4\/x.op=6->ownF p x.a=true:=fun h=>by
  rw[if_neg (by omega),if_neg (by omega),if_pos h]at am
  unfold ownF;simp at am⊢; omega
 have f19:x.op=19->0<=x.a/\x.a<p.gens.length:=fun h=>by
  rw[if_neg (by omega),if_neg (by omega),if_neg (by omega),if_neg (by omega),if_neg (by omega),if_pos h]at am
  simpa using am
 have frg:1<=x.op/\x.op<=21:=by
  refine Classical.byContradiction fun h=>?_
  rw[if_neg (by omega),if_neg (by omega),if_neg (by omega),if_neg (by omega),if_neg (by omega),if_neg (by omega)]at am
  simp at am
  omega
 clear am
 rw[I9]
 by_cases e1:x.op=1
 ·rw[if_pos e1,show actF x.op=105 by rw[e1];rfl]
  exact(RR x hR ax).mono fun y U' ⟨h1,R',h2,h3⟩=>⟨R',h3,h1,h2⟩
 rw[if_neg e1]
 by_cases e2:x.op=2
 ·rw[if_pos e2,show actF x.op=106 by rw[e2];rfl]
  exact(RQ x hR ax).mono fun y U' ⟨h1,R',h2,h3⟩=>⟨R',h3,h1,h2⟩
 rw[if_neg e2]
 by_cases e3:x.op=3
 ·have hn:=hI.name e3
  have h0:=f3 e3
  have aZ:x.a.toNat<t.env.length:=by omega
  rw[if_pos e3,show actF x.op=107 by rw[e3];rfl,List.getElem?_eq_getElem aZ,Option.getD_some]
  exact(RP x x.a.toNat (by omega) aZ hR ax bd).mono fun y U' ⟨h1,R',h2,h3⟩=>⟨R',h3,h1,h2⟩
 rw[if_neg e3]
 by_cases e4:x.op=4
 ·rw[if_pos e4,show actF x.op=108 by rw[e4];rfl]
  refine(RO x hp hk (f46 (.inl e4)) (by have:=Lg hk x.a;omega) hR ax (by omega)).mono fun y U' ⟨R',h1,h2⟩=>⟨R',h1,?_⟩
  by_cases hn:40<=t.objs.length
  ·rw[if_pos hn]at h2⊢; exact⟨h2.1,_,_,_,h2.2⟩
  ·rw[if_neg hn]at h2⊢; exact h2
 rw[if_neg e4]
 by_cases e5:x.op=5
 ·have u:Ap p x=(1,1):=by unfold Ap;rw[if_neg (by omega),if_pos (by omega)]
  rw[u]at ht;simp only at ht
  obtain⟨r,v,hs,hv,hr⟩:=stk1 (l:=t.stk) (by omega)
  have aR:okV t.objs.length v=true:=hv ▸ Ej aT (by omega)
  rw[if_pos e5,show actF x.op=109 by rw[e5];rfl,hv,hr]
  refine(RN x r v hp hR hs ax aR aW).mono fun y U' ⟨R',h1,h2⟩=>⟨R',h1,?_⟩
  by_cases hn:Bd (A2 p) t.objs v x.a<0
  ·rw[if_pos hn]at h2⊢; exact⟨h2.1,_,_,_,h2.2⟩
  ·rw[if_neg hn]at h2⊢; exact h2
 rw[if_neg e5]
 by_cases e6:x.op=6
 ·have u:Ap p x=(1,1):=by unfold Ap;rw[if_neg (by omega),if_pos (by omega)]
  rw[u]at ht;simp only at ht
  obtain⟨r,v,hs,hv,hr⟩:=stk1 (l:=t.stk) (by omega)
  have aR:okV t.objs.length v=true:=hv ▸ Ej aT (by omega)
  rw[if_pos e6,show actF x.op=110 by rw[e6];rfl,hv,hr]
  refine(RM x r v hp hk (fun c=>by have:=Lg hk c;omega) (f46 (.inr e6)) hR hs ax aR aW).mono fun y U' ⟨R',h1,h2⟩=>⟨R',h1,?_⟩
  by_cases hn:v.kind=3
  ·rw[if_pos hn]at h2⊢; exact h2
  ·rw[if_neg hn]at h2⊢; exact⟨h2.1,_,_,_,h2.2⟩
 rw[if_neg e6]
 by_cases e7:x.op=7
 ·have u:Ap p x=(1,1):=by unfold Ap;rw[if_neg (by omega),if_pos (by omega)]
  rw[u]at ht;simp only at ht
  obtain⟨r,v,hs,hv,hr⟩:=stk1 (l:=t.stk) (by omega)
  rw[if_pos e7,show actF x.op=111 by rw[e7];rfl,hv,hr]
  exact(RL x r v hR hs ax bx).mono fun y U' ⟨h1,R',h2,h3⟩=>⟨R',h3,h1,h2⟩
 rw[if_neg e7]
 by_cases e8:x.op=8
 ·have u:Ap p x=(2,1):=by unfold Ap;rw[if_neg (by omega),if_neg (by omega),if_neg (by omega),if_neg (by omega),if_neg (by omega),if_neg (by omega)]
  rw[u]at ht;simp only at ht
  obtain⟨r,w,v,hs,hv,hw,hr,aY⟩:=stk2 (l:=t.stk) (by omega)
  have a8:okV t.objs.length w=true:=hw ▸ Ej (Ct aT) (by rw[List.length_dropLast];omega)
  rw[if_pos e8,show actF x.op=112 by rw[e8];rfl,hw,hv,hr]
  refine(RK x r w v hp hR hs ax a8 aW).mono fun y U' ⟨R',h1,h2⟩=>⟨R',h1,?_⟩
  by_cases hn:Bd (A2 p) t.objs w x.a<0
  ·rw[if_pos hn]at h2⊢; exact⟨h2.1,_,_,_,h2.2⟩
  ·rw[if_neg hn]at h2⊢; exact h2
 rw[if_neg e8]
 by_cases e14:x.op=14
 ·have u:Ap p x=(1,0):=by unfold Ap;rw[if_neg (by omega),if_neg (by omega),if_pos (by omega)]
  rw[u]at ht;simp only at ht
  obtain⟨r,v,hs,hv,hr⟩:=stk1 (l:=t.stk) (by omega)
  rw[if_pos e14,show actF x.op=114 by rw[e14];rfl,hv,hr]
  exact(RI x r v hR hs ax bd).mono fun y U' ⟨h1,R',h2,h3⟩=>⟨R',h3,h1,h2⟩
 rw[if_neg e14]
 by_cases e15:x.op=15
 ·have hd:=hI.drop e15
  obtain⟨r,v,hs,hv,hr⟩:=stk1 (l:=t.env) (by omega)
  rw[if_pos e15,show actF x.op=115 by rw[e15];rfl,hr]
  exact(RH x r v hR hs bd).mono fun y U' ⟨h1,R',h2,h3⟩=>⟨R',h3,h1,h2⟩
 rw[if_neg e15]
 by_cases e16:x.op=16
 ·have u:Ap p x=(1,0):=by unfold Ap;rw[if_neg (by omega),if_neg (by omega),if_pos (by omega)]
  rw[u]at ht;simp only at ht
  obtain⟨r,v,hs,hv,hr⟩:=stk1 (l:=t.stk) (by omega)
  rw[if_pos e16,show actF x.op=116 by rw[e16];rfl,hr]
  exact(RG x r v hR hs ax).mono fun y U' ⟨h1,R',h2,h3⟩=>⟨R',h3,h1,h2⟩
 rw[if_neg e16]
 by_cases e17:x.op=17
 ·have u:Ap p x=(1,0):=by unfold Ap;rw[if_neg (by omega),if_neg (by omega),if_pos (by omega)]
  rw[u]at ht;simp only at ht
  obtain⟨r,v,hs,hv,hr⟩:=stk1 (l:=t.stk) (by omega)
  rw[if_pos e17,show actF x.op=117 by rw[e17];rfl,hv,hr]
  exact(RF x r v hR hs ax).mono fun y U' ⟨h1,R',h2,h3⟩=>⟨R',h3,h1,h2⟩
 rw[if_neg e17]
 by_cases e18:x.op=18
 ·rw[if_pos e18,show actF x.op=118 by rw[e18];rfl]
  exact(RE x hR).mono fun y U' ⟨h1,R',h2,h3⟩=>⟨R',h3,h1,h2⟩
 rw[if_neg e18]
 by_cases e19:x.op=19
 ·obtain⟨a1,a2⟩:=f19 e19
  have u:Ap p x=(p.gens.getD x.a.toNat 0,1):=by unfold Ap;rw[if_neg (by omega),if_neg (by omega),if_neg (by omega),if_pos e19]
  rw[u]at ht;simp only at ht
  have bH:=(GX hk x.a.toNat).1
  have bj:x.a.toNat<p.gens.length:=by omega
  have bq:p.gens.getD x.a.toNat 0=p.gens[x.a.toNat]:=by rw[List.getD_eq_getElem?_getD,List.getElem?_eq_getElem bj];rfl
  rw[if_pos e19,show actF x.op=119 by rw[e19];rfl]
  refine(RD x (t.stk.take (t.stk.length-(p.gens.getD x.a.toNat 0).toNat)) (t.stk.drop (t.stk.length-(p.gens.getD x.a.toNat 0).toNat)) x.a.toNat hp (by omega) bj ?_ hR (List.take_append_drop _ _).symm ax).mono fun y U' ⟨h1,R',av,h2,h3⟩=>⟨R',h3,h1,_,_,_,h2⟩
  rw[<-bq,List.length_drop];omega
 rw[if_neg e19]
 by_cases e20:x.op=20
 ·rw[if_pos e20,show actF x.op=120 by rw[e20];rfl]
  exact(RC x hR).mono fun y U' ⟨h1,h2,h3⟩=>⟨R,h3,h1,_,_,_,h2⟩
 rw[if_neg e20]
 by_cases e21:x.op=21
 ·have hf:=hI.fin e21
  obtain⟨r,v,hs,hv,hr⟩:=stk1 (l:=t.stk) (by omega)
  rw[if_pos e21,show actF x.op=121 by rw[e21];rfl,hv]
  exact(RB x r v hR hs ax).mono fun y U' ⟨h1,R',h2,h3⟩=>⟨R',h3,h1,_,_,_,h2⟩
 rw[if_neg e21]
 have u:Ap p x=(2,1):=by unfold Ap;rw[if_neg (by omega),if_neg (by omega),if_neg (by omega),if_neg (by omega),if_neg (by omega),if_neg (by omega)]
 rw[u]at ht;simp only at ht
 obtain⟨r,w,v,hs,hv,hw,hr,aY⟩:=stk2 (l:=t.stk) (by omega)
 have aR:okV t.objs.length v=true:=hv ▸ Ej aT (by omega)
 have a8:okV t.objs.length w=true:=hw ▸ Ej (Ct aT) (by rw[List.length_dropLast];omega)
 rw[show actF x.op=113 by unfold actF;rw[if_neg (by omega),if_pos (by omega)],hw,hv,hr]
 exact(RJ x r w v (by omega) hR hs ax (NQ a8) (NQ aR)).mono fun y U' ⟨h1,R',h2,h3⟩=>⟨R',h3,h1,h2⟩
end Go.DL
namespace Go.DL
open Go.Proofs.Tryz
open Go Go.Proofs
set_option maxHeartbeats 80000000
@[simp] theorem cIns_take(x:CIns):List.take 2 (cIns x)=cIns x:=rfl
@[simp] theorem mem_cIns(y:D)(x:CIns):y∈cIns x ↔ y=dI x.op\/y=dI x.a:=by simp[cIns]
def eIL(m:MetL):List (D×D):=eM dI (fun l=>.agg (cLev l)) m
@[simp] theorem hitILok(k:Int)(m:MetL):hitD tab 79 true (Cd (.int .i64) (.int .i64 k) (eIL m) 0)=some (.tup [.agg [.int .i64 (getM ⟨0,0⟩ k m).st,.int .i64 (getM ⟨0,0⟩ k m).env],.bool (hasM k m)]):=Nt keyI (fun l=>.agg (cLev l)) rfl k m
@[simp] theorem hitIL(k:Int)(m:MetL):hitD tab 79 false (Cd (.int .i64) (.int .i64 k) (eIL m) 0)=some (.agg [.int .i64 (getM ⟨0,0⟩ k m).st,.int .i64 (getM ⟨0,0⟩ k m).env]):=Qe keyI (fun l=>.agg (cLev l)) rfl k m
@[simp] theorem putIL(k a b:Int)(m:MetL):CE (.int .i64) (.int .i64 k) (.agg [.int .i64 a,.int .i64 b]) (eIL m)=some (eIL (putM k ⟨a,b⟩ m)):=Nh keyI (fun l=>.agg (cLev l)) k ⟨a,b⟩ m
def ReR(p:BProg)(c:CProg)(im2:Nat)(m:MetL)(n:Int)(l:CLev)(O:Sig)(x:DE)(U':Sig):Prop:=
 if n<0\/(c.ins.length:Int)<=n\/(hasM n m=true/\getM ⟨0,0⟩ n m≠l) then x=.panic unfC/\U'=O else x=.ret (.tup [])/\U'=O.set im2 (.map (eIL (putM n l m)))
theorem Cv(p:BProg)(c:CProg)(im im2:Nat)(m:MetL)(n:Int)(l:CLev)(O:Sig)(hc:c.ins.length<=300)(hm:O im2=some (.map (eIL m))):DCall prog 170 [dI n,.agg (cLev l),.cptr [.map im2] 0,.cptr [cChk p c im] 0] O (ReR p c im2 m n l O):=by
 obtain⟨st,env⟩:=l
 refine en func170 ntmps170 ?_
 by_cases h1:n<0
 ·refine gf hm ?_
  exact finP (U':=O) (by unfold ReR;rw[if_pos (.inl h1)];exact⟨rfl,rfl⟩)
 by_cases h2:(c.ins.length:Int)<=n
 ·refine gf hm ?_
  exact finP (U':=O) (by unfold ReR;rw[if_pos (.inr (.inl h2))];exact⟨rfl,rfl⟩)
 cases hh:hasM n m with
 |false=>
  refine gf (gi hm hh) ?_
  exact DZ (U':=O.set im2 (.map (eIL (putM n ⟨st,env⟩ m)))) (by unfold ReR;rw[if_neg (by rintro(h|h|h);exact h1 h;exact h2 h;rw[hh]at h;cases h.1)];exact⟨rfl,rfl⟩)
 | true =>
  refine gf (gi hm hh) ?_
  refine eqlS _ (decide (getM ⟨0,0⟩ n m=(⟨st,env⟩:CLev))) Se Qb (eqLev _ _) ?_
  by_cases he:getM ⟨0,0⟩ n m=(⟨st,env⟩:CLev)
  ·refine gf (gi he hm) ?_
   exact DZ (U':=O.set im2 (.map (eIL (putM n ⟨st,env⟩ m)))) (by unfold ReR;rw[if_neg (by rintro(h|h|h);exact h1 h;exact h2 h;exact h.2 he)];exact⟨rfl,rfl⟩)
  ·refine gf he ?_
   exact finP (U':=O) (by unfold ReR;rw[if_pos (.inr (.inr ⟨hh,he⟩))];exact⟨rfl,rfl⟩)
theorem ReR.met{p:BProg}{c:CProg}{im2:Nat}{m:MetL}{n:Int}{l:CLev}{O:Sig}{x:DE}{U':Sig}(h:ReR p c im2 m n l O x U'):(BI c.ins.length (metOf m) n l=none/\x=.panic unfC/\U'=O)\/(BI c.ins.length (metOf m) n l=some (metOf (putM n l m))/\x=.ret (.tup [])/\U'=O.set im2 (.map (eIL (putM n l m)))/\0<=n/\n<c.ins.length):=by
 unfold ReR at h
 unfold BI
 have e:(n<0\/(c.ins.length:Int)<=n\/(hasM n m=true/\getM ⟨0,0⟩ n m≠l)) ↔ (n<0\/(c.ins.length:Int)<=n\/(metOf m n.toNat≠none/\metOf m n.toNat≠some l)):=by
  by_cases h1:n<0
  ·simp[h1]
  ·have hn:((n.toNat:Nat):Int)=n:=by omega
   unfold metOf
   rw[hn]
   cases hh:hasM n m<;>simp
 split at h
 ·rename_i hc
  rw[if_pos (e.1 hc)]
  exact .inl ⟨rfl,h⟩
 ·rename_i hc
  rw[if_neg fun k=>hc (e.2 k)]
  have hn:n=((n.toNat:Nat):Int):=by
   have:¬n<0:=fun k=>hc (.inl k)
   omega
  refine .inr ⟨?_,h.1,h.2,by omega,?_⟩
  ·have h3:=CO m n.toNat l
   rw[<-hn]at h3
   rw[h3]
  ·have:¬(c.ins.length:Int)<=n:=fun k=>hc (.inr (.inl k))
   omega
theorem newIL{ro:Ro}{n:Nat}{ops:Array Oper}{Q:DX->St->Prop}{df:List DDf}{rest:List Oper}{γ:Fr}{O:Sig}{t:Nat}{ty:TypeId}{pos:String}{after:Array Edge}{T:Nat}(h:∀i,O i=none->DOps prog ro n ops Q rest ⟨(t,.map i)::γ,O.set i (.map (eIL [])),df⟩)(ba:decide (t<n)=true:=by exact tdR):DOps prog ro n ops Q (⟨some t,.makeMap T none,ty,pos,after,none⟩::rest) ⟨γ,O,df⟩:=newM h ba
def cSt(s:CSt):List D:=[dI s.pos,dI s.env,.bool s.next]
theorem TA{c:CProg}{q:Nat}(h:q<c.ins.length):AC c q=c.ins[q]:=by unfold AC;rw[List.getElem?_eq_getElem h];rfl
theorem JR{m:MetL}{n:Nat}{lv:CLev}{env:Int}{q:Nat}(hb:∀j l,metOf m j=some l->0<=l.st/\l.st<=q/\env<=l.env/\l.env<=env+q)(h:0<=lv.st/\lv.st<=q+1/\env<=lv.env/\lv.env<=env+q+1){z:Int}(hz:z=(n:Int)): ∀j l,metOf (putM z lv m) j=some l->0<=l.st/\l.st<=((q+1:Nat):Int)/\env<=l.env/\l.env<=env+((q+1:Nat):Int):=fun j l hj=>by
 rw[hz,CO]at hj
 unfold updM at hj
 split at hj
 ·cases hj;omega
 ·have:=hb j l hj;omega
theorem bd_put2{m:MetL}{n k:Nat}{lv:CLev}{env:Int}{q:Nat}(hb:∀j l,metOf m j=some l->0<=l.st/\l.st<=q/\env<=l.env/\l.env<=env+q)(h:0<=lv.st/\lv.st<=q+1/\env<=lv.env/\lv.env<=env+q+1){z y:Int}(hz:z=(n:Int))(hy:y=(k:Int)): ∀j l,metOf (putM z lv (putM y lv m)) j=some l->0<=l.st/\l.st<=((q+1:Nat):Int)/\env<=l.env/\l.env<=env+((q+1:Nat):Int):=fun j l hj=>by
 rw[hz,CO,hy,CO]at hj
 unfold updM at hj
 split at hj
 ·cases hj;omega
 ·split at hj
  ·cases hj;omega
  ·have:=hb j l hj;omega
theorem Ru {S:Type} (p:BProg) (c:CProg) (im:Nat) (s:CSt) (lb:Nat) (Good:Sig->S->Prop) (Bad:Sig->Prop) (touch:Nat->Prop) (step:Nat->CLev->S->Option S) (hp:p.wt<=1073741824) (hc:c.ins.length<=300) (am:BZ p c.ins.length c.ins 0=true) (br : ∀ n:Nat,0<=p.gens.getD n 0/\p.gens.getD n 0<=3) (he:0<=s.env/\s.env<=1000)
  (hy:∀k l O s,k<c.ins.length->Good O s->DYield prog lb [dI k,.agg (cLev l)] O (OutO unfC (.bool true) Good Bad touch O (step k l s))) (O:Sig) (s0:S) (hG:Good O s0)
  (hI:∀a,O a=none->∀S1 s o,Good S1 s->Good (S1.set a o) s) (ht:∀a,O a=none->¬touch a) (hB:∀S1 s,Good S1 s->Bad S1) :
  DCall prog 169 [.yld lb,.cptr [cChk p c im] 0,.cptr (cSt s) 0] O (OutO unfC (.tup []) Good Bad touch O (Bz p c s step s0)):=by
 obtain⟨p1,p2,p3,p4,p5,p6,p7⟩:=p.wt_le
 obtain⟨bw,bu⟩:=he
 obtain⟨pos,env,next⟩:=s
 simp only at bw bu
 refine en func169 ntmps169 ?_
 refine gz ?_ [] [12]
 refine newIL (fun im2 aq=>?_)
 refine gz ?_ [] [12]
 refine A4 (Cv p c im im2 [] pos ⟨0,env⟩ _ hc (w6 ..)) (fun d U' hr=>?_) (fun d U' hr=>?_)
 ·rcases hr.met with ⟨_,h,_⟩ | ⟨aY,bc,bn,bD,bC⟩
  ·cases h
  cases bc
  subst bn
  obtain⟨q0,rfl⟩:∃q0:Nat,pos=(q0:Int):=⟨pos.toNat,by omega⟩
  refine gz ?_ [] [12]
  have nim:∀j o,O j=some o->j≠im2:=fun j o h e=>by rw[e,aq]at h;cases h
  refine Kk [0,1,2,4,5] (fun (q:Nat) (m:MetL) (s1:S) (S1:Sig)=>q0<=q/\q<=c.ins.length/\Good S1 s1/\S1 im2=some (.map (eIL m))/\(∀j o,O j=some o->¬touch j->S1 j=some o)/\Bz p c ⟨(q0:Int),env,next⟩ step s0=Fz p c env next step (c.ins.length-q) q (metOf m) s1 /\ ∀j l,metOf m j=some l->0<=l.st/\l.st<=q/\env<=l.env/\l.env<=env+q) (fun q _ _ _=>[(6,dI q)]) (fun _ _ _ S1=>S1) (fun q _ _ _=>c.ins.length-q) (q0) (putM (q0:Int) ⟨0,env⟩ []) (s0) ((O.set im2 (.map (eIL []))).set im2 (.map (eIL (putM (q0:Int) ⟨0,env⟩ [])))) (by exact⟨Nat.le_refl _,by omega,hI im2 aq _ _ _ (hI im2 aq _ _ _ hG),w6 .., fun j o h _=>by rw[w7 _ _ (nim j o h),w7 _ _ (nim j o h)];exact h,by unfold Bz;rw[if_neg (by simp only;omega),CO];rfl,fun j l h=>by rw[CO]at h;unfold updM at h;split at h;(cases h;simp only;omega);cases h⟩) (fun q m s1 S1 hI=>?_)
  obtain⟨bF,bE,aw,ak,aC,hR,aH⟩:=hI
  by_cases hq:q<c.ins.length
  ·have aS:c.ins.length-q=(c.ins.length-(q+1))+1:=by omega
   rw[aS,Fz,TA hq]at hR
   have aF:=H7 _ _ am q _ (List.getElem?_eq_getElem hq)
   rw[Nat.zero_add]at aF
   cases aG:metOf m q with
   | none =>
    have hh:hasM (q:Int) m=false:=by
     unfold metOf at aG
     split at aG
     ·cases aG
     ·rename_i h;simpa using h
    rw[aG]at hR
    simp only at hR
    refine gf (gi ak hh) ?_ [] [12]
    exact⟨q+1,m,s1,S1,⟨by omega,by omega,aw,ak,aC,hR,fun j l h=>by have:=aH j l h;omega⟩,td1,wkR⟩
   | some l =>
    have hh:hasM (q:Int) m=true/\getM ⟨0,0⟩ (q:Int) m=l:=by
     unfold metOf at aG
     split at aG
     ·rename_i h;exact⟨h,by simpa using aG⟩
     ·cases aG
    obtain⟨aB,aA⟩:=hh
    obtain⟨b1,b2,b3,b4⟩:=aH q l aG
    rw[aG]at hR
    simp only at hR
    have hu:=fun bA:(c.ins[q]).op=19=>(show 0<=(c.ins[q]).a/\(c.ins[q]).a<p.gens.length by unfold fitsQ at aF;rw[bA]at aF;simpa using aF)
    have bh:0<=(Ap p c.ins[q]).1/\(Ap p c.ins[q]).1<=3/\0<=(Ap p c.ins[q]).2/\(Ap p c.ins[q]).2<=1:=by
     have:=br (c.ins[q]).a.toNat
     unfold Ap
     repeat' split
     all_goals simp only;omega
    obtain⟨x,hx⟩:∃x,x=c.ins[q]:=⟨_,rfl⟩
    rw[<-hx]at hR aF hu bh
    have ac:=hx.symm
    have i171:∀O,Ans 171 [cChk p c im,.agg (cIns x)] O True (.tup [dI (Ap p x).1,dI (Ap p x).2]):=fun O=>ah0 (Rt p c im x O hp hu)
    generalize bf:Ap p x=us at*
    obtain⟨take,give⟩:=us
    obtain⟨st,en⟩:=l
    simp only at bh b1 b2 b3 b4
    by_cases aE:¬(take<=st/\(x.op=3->x.a<en)/\(x.op=20->next=true))
    ·have ap:Bz p c ⟨(q0:Int),env,next⟩ step s0=none:=by
      rw[hR]
      have:Ed p c env next q x ⟨st,en⟩ (metOf m)=none:=by
       unfold Ed;rw[bf]
       refine if_pos ?_
       by_cases k1:take<=st
       ·by_cases k2:x.op=3->x.a<en
        ·by_cases k3:x.op=20->next=true
         ·exact absurd ⟨k1,k2,k3⟩ aE
         ·rw[Classical.not_imp]at k3
          exact .inr (.inr (.inr ⟨k3.1,by simpa using k3.2⟩))
        ·rw[Classical.not_imp]at k2
         exact .inr (.inl ⟨k2.1,by have:=k2.2;show en<=x.a;omega⟩)
       ·exact .inl (by show st<take;omega)
      rw[this]
     have aU:st<take\/(x.op=3/\en<=x.a)\/(x.op=20/\next=false):=by
      by_cases k1:take<=st
      ·by_cases k2:x.op=3->x.a<en
       ·by_cases k3:x.op=20->next=true
        ·exact absurd ⟨k1,k2,k3⟩ aE
        ·rw[Classical.not_imp]at k3
         exact .inr (.inr ⟨k3.1,by simpa using k3.2⟩)
       ·rw[Classical.not_imp]at k2
        exact .inr (.inl ⟨k2.1,by have:=k2.2;omega⟩)
      ·exact .inl (by omega)
     clear aE hR
     rcases aU with k1|⟨k1,k2⟩|⟨k1,k2⟩
     ·repeat' first|refine gf (gi ak (gi aB (gi aA ac))) ?_ [] [12]|apply gy<;>intro hh
      all_goals exact finP (U':=S1) (by rw[ap];exact⟨rfl,hB _ _ aw⟩)
     ·repeat' first|refine gf (gi ak (gi aB (gi aA (gi ac k1)))) ?_ [] [12]|apply gy<;>intro hh
      all_goals exact finP (U':=S1) (by rw[ap];exact⟨rfl,hB _ _ aw⟩)
     ·repeat' first|refine gf (gi ak (gi aB (gi aA (gi ac (gi k1 k2))))) ?_ [] [12]|apply gy<;>intro hh
      all_goals exact finP (U':=S1) (by rw[ap];exact⟨rfl,hB _ _ aw⟩)
    ·rw [Classical.not_not] at aE
     obtain⟨e1,e2,e3⟩:=aE
     have aX:¬(st<take\/(x.op=3/\en<=x.a)\/(x.op=15/\en<=env)\/(x.op=20/\next=false)) ↔ ¬(x.op=15/\en<=env):=by
      constructor
      ·intro h k;exact h (.inr (.inr (.inl k)))
      ·rintro h (k|⟨k,k2⟩|k|⟨k,k2⟩)
       ·omega
       ·have:=e2 k;omega
       ·exact h k
       ·rw[e3 k]at k2;cases k2
     have aD:∀l:CLev,Ed p c env next q x ⟨st,en⟩ (metOf m)=if(st<take\/(x.op=3/\en<=x.a)\/(x.op=15/\en<=env)\/(x.op=20/\next=false)) then none
      else if x.op=21 then(if st=1/\en=env then some (metOf m) else none)
      else if x.op=14 then BI c.ins.length (metOf m) ((q:Int)+1) ⟨st-take+give,en+1⟩
      else if x.op=15 then BI c.ins.length (metOf m) ((q:Int)+1) ⟨st-take+give,en-1⟩
      else if x.op=18 then BI c.ins.length (metOf m) x.a ⟨st-take+give,en⟩
      else if x.op=17 then(match BI c.ins.length (metOf m) x.a ⟨st-take+give,en⟩with
       |none=>none
       |some m=>BI c.ins.length m ((q:Int)+1) ⟨st-take+give,en⟩)
      else BI c.ins.length (metOf m) ((q:Int)+1) ⟨st-take+give,en⟩:=fun _=>by unfold Ed;rw[bf];rfl
     rw[aD ⟨0,0⟩]at hR
     clear aD
     by_cases aI:x.op=21
     ·rw[if_neg (aX.2 (by omega)),if_pos aI]at hR
      by_cases aM:st=1/\en=env
      ·rw[if_pos aM]at hR
       obtain⟨g1,g2⟩:=aM
       simp only at hR
       refine gf (gi ak (gi aB (gi aA (gi ac aI)))) ?_ [] [12]
       refine yldW (hy q ⟨st,en⟩ S1 s1 hq aw) (fun d S2 hr=>?_) (fun d S2 hr=>?_)
       rotate_left
       ·obtain⟨hn,rfl,hb⟩:=hr.pan
        rw[hn]at hR
        have ap:Bz p c ⟨(q0:Int),env,next⟩ step s0=none:=by first|exact hR|(rw[hR];split<;>rfl)
        exact finP (U':=S2) (by rw[ap];exact⟨rfl,hb⟩)
       obtain⟨s2,ar,rfl,ai,ah⟩:=hr.ret
       rw[ar]at hR
       have hm2:=ah im2 _ ak (ht im2 aq)
       have au:∀j o,O j=some o->¬touch j->S2 j=some o:=fun j o h1 h2=>ah j o (aC j o h1 h2) h2
       refine gf (gi ac aI) ?_ [] [12]
       refine newV (fun i12 aa=>?_)
       have n12:im2≠i12:=fun e=>by rw[<-e,hm2]at aa;cases aa
       refine gf (gi ac aI) ?_ [] [12]
       exact⟨q+1,m,s2,S2,⟨by omega,by omega,ai,hm2,au,hR,fun j l h=>by have:=aH j l h;omega⟩,td1,wkR⟩
      ·rw[if_neg aM]at hR
       simp only at hR
       refine gf (gi ak (gi aB (gi aA (gi ac aI)))) ?_ [] [12]
       refine yldW (hy q ⟨st,en⟩ S1 s1 hq aw) (fun d S2 hr=>?_) (fun d S2 hr=>?_)
       rotate_left
       ·obtain⟨hn,rfl,hb⟩:=hr.pan
        have ap:Bz p c ⟨(q0:Int),env,next⟩ step s0=none:=hR
        exact finP (U':=S2) (by rw[ap];exact⟨rfl,hb⟩)
       obtain⟨s2,ar,rfl,ai,ah⟩:=hr.ret
       have hm2:=ah im2 _ ak (ht im2 aq)
       have au:∀j o,O j=some o->¬touch j->S2 j=some o:=fun j o h1 h2=>ah j o (aC j o h1 h2) h2
       refine gf (gi ac aI) ?_ [] [12]
       refine newV (fun i12 aa=>?_)
       have n12:im2≠i12:=fun e=>by rw[<-e,hm2]at aa;cases aa
       repeat' first|refine gf (gi ac aI) ?_ [] [12]|apply gy<;>intro hh
       all_goals exact finP (U':=S2) (by rw[hR];exact⟨rfl,hB _ _ ai⟩)
     have aj:∀(i12:Nat) (o o':DObj),im2≠i12->S1=S1->∀S2:Sig,S2 i12=none->Sub (S2.set im2 o) ((S2.set i12 o').set im2 o):=fun i12 o o' hn _ S2 aa k y hk=>by
      by_cases bk:k=im2
      ·subst bk;rw[w6]at hk⊢; exact hk
      ·rw[w7 _ _ bk]at hk⊢
       rw[w7 _ _ (fun e=>by rw[e,aa]at hk;cases hk)];exact hk
     ·by_cases aQ:x.op=14
      ·rw[if_neg (aX.2 (by omega)),if_neg aI,if_pos aQ]at hR
       refine gf (gi ak (gi aB (gi aA (gi ac aQ)))) ?_ [] [12]
       refine yldW (hy q ⟨st,en⟩ S1 s1 hq aw) (fun d S2 hr=>?_) (fun d S2 hr=>?_)
       rotate_left
       ·obtain⟨hn,rfl,hb⟩:=hr.pan
        rw[hn]at hR
        have ap:Bz p c ⟨(q0:Int),env,next⟩ step s0=none:=by first|exact hR|(rw[hR];split<;>rfl)
        exact finP (U':=S2) (by rw[ap];exact⟨rfl,hb⟩)
       obtain⟨s2,ar,rfl,ai,ah⟩:=hr.ret
       rw[ar]at hR
       have hm2:=ah im2 _ ak (ht im2 aq)
       have au:∀j o,O j=some o->¬touch j->S2 j=some o:=fun j o h1 h2=>ah j o (aC j o h1 h2) h2
       refine gf (gi ac aQ) ?_ [] [12]
       refine newV (fun i12 aa=>?_)
       have n12:im2≠i12:=fun e=>by rw[<-e,hm2]at aa;cases aa
       refine gf (gi ac aQ) ?_ [] [12]
       refine A4 (Cv p c im im2 (m) ((q:Int)+1) ⟨st-take+give,en+1⟩ _ hc (by rw[w7 _ _ n12];exact hm2)) (fun d S3 hr=>?_) (fun d S3 hr=>?_)
       rotate_left
       ·rcases hr.met with⟨hn,ag,ae⟩|⟨_,h5,_⟩
        ·cases ag
         subst ae
         rw[hn]at hR
         exact finP (U':=S2) (by rw[hR];exact⟨rfl,hB _ _ ai⟩)
        ·cases h5
       rcases hr.met with⟨_,h5,_⟩|⟨hn,ag,ae,aO,aN⟩
       ·cases h5
       cases ag
       subst ae
       rw[hn]at hR
       simp only at hR
       have ay:=aj i12 (.map (eIL (putM ((q:Int)+1) ⟨st-take+give,en+1⟩ m))) (.cells [dI (st-take+give),dI (en+1)]) n12 rfl S2 aa
       refine gf aQ ?_ [] [12]
       exact⟨q+1,putM ((q:Int)+1) ⟨st-take+give,en+1⟩ m,s2,S2.set im2 (.map (eIL (putM ((q:Int)+1) ⟨st-take+give,en+1⟩ m))),⟨by omega,by omega,hI im2 aq _ _ _ ai,w6 .., fun j o h1 h2=>by rw[w7 _ _ (nim j o h1)];exact au j o h1 h2,hR,JR (n:=q+1) aH (by simp only;omega) (by omega)⟩,td1,wkR⟩
      ·by_cases aJ:x.op=15
       ·by_cases be:en<=env
        ·rw[if_pos (.inr (.inr (.inl ⟨aJ,be⟩)))]at hR
         simp only at hR
         refine gf (gi ak (gi aB (gi aA (gi ac aJ)))) ?_ [] [12]
         refine yldW (hy q ⟨st,en⟩ S1 s1 hq aw) (fun d S2 hr=>?_) (fun d S2 hr=>?_)
         rotate_left
         ·obtain⟨hn,rfl,hb⟩:=hr.pan
          have ap:Bz p c ⟨(q0:Int),env,next⟩ step s0=none:=hR
          exact finP (U':=S2) (by rw[ap];exact⟨rfl,hb⟩)
         obtain⟨s2,ar,rfl,ai,ah⟩:=hr.ret
         have hm2:=ah im2 _ ak (ht im2 aq)
         have au:∀j o,O j=some o->¬touch j->S2 j=some o:=fun j o h1 h2=>ah j o (aC j o h1 h2) h2
         refine gf (gi ac aJ) ?_ [] [12]
         refine newV (fun i12 aa=>?_)
         have n12:im2≠i12:=fun e=>by rw[<-e,hm2]at aa;cases aa
         repeat' first|refine gf (gi ac aJ) ?_ [] [12]|apply gy<;>intro hh
         all_goals exact finP (U':=S2) (by rw[hR];exact⟨rfl,hB _ _ ai⟩)
        ·rw[if_neg (aX.2 (by omega)),if_neg aI,if_neg aQ,if_pos aJ]at hR
         refine gf (gi ak (gi aB (gi aA (gi ac aJ)))) ?_ [] [12]
         refine yldW (hy q ⟨st,en⟩ S1 s1 hq aw) (fun d S2 hr=>?_) (fun d S2 hr=>?_)
         rotate_left
         ·obtain⟨hn,rfl,hb⟩:=hr.pan
          rw[hn]at hR
          have ap:Bz p c ⟨(q0:Int),env,next⟩ step s0=none:=by first|exact hR|(rw[hR];split<;>rfl)
          exact finP (U':=S2) (by rw[ap];exact⟨rfl,hb⟩)
         obtain⟨s2,ar,rfl,ai,ah⟩:=hr.ret
         rw[ar]at hR
         have hm2:=ah im2 _ ak (ht im2 aq)
         have au:∀j o,O j=some o->¬touch j->S2 j=some o:=fun j o h1 h2=>ah j o (aC j o h1 h2) h2
         refine gf (gi ac aJ) ?_ [] [12]
         refine newV (fun i12 aa=>?_)
         have n12:im2≠i12:=fun e=>by rw[<-e,hm2]at aa;cases aa
         refine gf (gi ac aJ) ?_ [] [12]
         refine A4 (Cv p c im im2 (m) ((q:Int)+1) ⟨st-take+give,en-1⟩ _ hc (by rw[w7 _ _ n12];exact hm2)) (fun d S3 hr=>?_) (fun d S3 hr=>?_)
         rotate_left
         ·rcases hr.met with⟨hn,ag,ae⟩|⟨_,h5,_⟩
          ·cases ag
           subst ae
           rw[hn]at hR
           exact finP (U':=S2) (by rw[hR];exact⟨rfl,hB _ _ ai⟩)
          ·cases h5
         rcases hr.met with⟨_,h5,_⟩|⟨hn,ag,ae,aO,aN⟩
         ·cases h5
         cases ag
         subst ae
         rw[hn]at hR
         simp only at hR
         have ay:=aj i12 (.map (eIL (putM ((q:Int)+1) ⟨st-take+give,en-1⟩ m))) (.cells [dI (st-take+give),dI (en-1)]) n12 rfl S2 aa
         refine gf aJ ?_ [] [12]
         exact⟨q+1,putM ((q:Int)+1) ⟨st-take+give,en-1⟩ m,s2,S2.set im2 (.map (eIL (putM ((q:Int)+1) ⟨st-take+give,en-1⟩ m))),⟨by omega,by omega,hI im2 aq _ _ _ ai,w6 .., fun j o h1 h2=>by rw[w7 _ _ (nim j o h1)];exact au j o h1 h2,hR,JR (n:=q+1) aH (by simp only;omega) (by omega)⟩,td1,wkR⟩
       ·rw [if_neg (aX.2 (by omega)),if_neg aI,if_neg aQ,if_neg aJ] at hR
        by_cases aP:x.op=18
        ·rw[if_pos aP]at hR
         have bm:(q:Int)<x.a/\x.a<c.ins.length:=by unfold fitsQ at aF;rw[aP]at aF;simpa using aF
         obtain⟨xa,aL⟩:∃xa:Nat,x.a=(xa:Int):=⟨x.a.toNat,by omega⟩
         refine gf (gi ak (gi aB (gi aA (gi ac aP)))) ?_ [] [12]
         refine yldW (hy q ⟨st,en⟩ S1 s1 hq aw) (fun d S2 hr=>?_) (fun d S2 hr=>?_)
         rotate_left
         ·obtain⟨hn,rfl,hb⟩:=hr.pan
          rw[hn]at hR
          have ap:Bz p c ⟨(q0:Int),env,next⟩ step s0=none:=by first|exact hR|(rw[hR];split<;>rfl)
          exact finP (U':=S2) (by rw[ap];exact⟨rfl,hb⟩)
         obtain⟨s2,ar,rfl,ai,ah⟩:=hr.ret
         rw[ar]at hR
         have hm2:=ah im2 _ ak (ht im2 aq)
         have au:∀j o,O j=some o->¬touch j->S2 j=some o:=fun j o h1 h2=>ah j o (aC j o h1 h2) h2
         refine gf (gi ac aP) ?_ [] [12]
         refine newV (fun i12 aa=>?_)
         have n12:im2≠i12:=fun e=>by rw[<-e,hm2]at aa;cases aa
         refine gf (gi ac aP) ?_ [] [12]
         refine A4 (Cv p c im im2 (m) (x.a) ⟨st-take+give,en⟩ _ hc (by rw[w7 _ _ n12];exact hm2)) (fun d S3 hr=>?_) (fun d S3 hr=>?_)
         rotate_left
         ·rcases hr.met with⟨hn,ag,ae⟩|⟨_,h5,_⟩
          ·cases ag
           subst ae
           rw[hn]at hR
           exact finP (U':=S2) (by rw[hR];exact⟨rfl,hB _ _ ai⟩)
          ·cases h5
         rcases hr.met with⟨_,h5,_⟩|⟨hn,ag,ae,aO,aN⟩
         ·cases h5
         cases ag
         subst ae
         rw[hn]at hR
         simp only at hR
         have ay:=aj i12 (.map (eIL (putM x.a ⟨st-take+give,en⟩ m))) (.cells [dI (st-take+give),dI en]) n12 rfl S2 aa
         refine gf aP ?_ [] [12]
         exact⟨q+1,putM x.a ⟨st-take+give,en⟩ m,s2,S2.set im2 (.map (eIL (putM x.a ⟨st-take+give,en⟩ m))),⟨by omega,by omega,hI im2 aq _ _ _ ai,w6 .., fun j o h1 h2=>by rw[w7 _ _ (nim j o h1)];exact au j o h1 h2,hR,JR (n:=xa) aH (by simp only;omega) aL⟩,td1,wkR⟩
        ·rw [if_neg aP] at hR
         by_cases aK:x.op=17
         ·rw[if_pos aK]at hR
          have bm:(q:Int)<x.a/\x.a<c.ins.length:=by unfold fitsQ at aF;rw[aK]at aF;simpa using aF
          obtain⟨xa,aL⟩:∃xa:Nat,x.a=(xa:Int):=⟨x.a.toNat,by omega⟩
          refine gf (gi ak (gi aB (gi aA (gi ac aK)))) ?_ [] [12]
          refine yldW (hy q ⟨st,en⟩ S1 s1 hq aw) (fun d S2 hr=>?_) (fun d S2 hr=>?_)
          rotate_left
          ·obtain⟨hn,rfl,hb⟩:=hr.pan
           rw[hn]at hR
           have ap:Bz p c ⟨(q0:Int),env,next⟩ step s0=none:=by first|exact hR|(rw[hR];split<;>rfl)
           exact finP (U':=S2) (by rw[ap];exact⟨rfl,hb⟩)
          obtain⟨s2,ar,rfl,ai,ah⟩:=hr.ret
          rw[ar]at hR
          have hm2:=ah im2 _ ak (ht im2 aq)
          have au:∀j o,O j=some o->¬touch j->S2 j=some o:=fun j o h1 h2=>ah j o (aC j o h1 h2) h2
          refine gf (gi ac aK) ?_ [] [12]
          refine newV (fun i12 aa=>?_)
          have n12:im2≠i12:=fun e=>by rw[<-e,hm2]at aa;cases aa
          refine gf (gi ac aK) ?_ [] [12]
          refine A4 (Cv p c im im2 (m) (x.a) ⟨st-take+give,en⟩ _ hc (by rw[w7 _ _ n12];exact hm2)) (fun d S3 hr=>?_) (fun d S3 hr=>?_)
          rotate_left
          ·rcases hr.met with⟨hn,ag,ae⟩|⟨_,h5,_⟩
           ·cases ag
            subst ae
            rw[hn]at hR
            exact finP (U':=S2) (by rw[hR];exact⟨rfl,hB _ _ ai⟩)
           ·cases h5
          rcases hr.met with⟨_,h5,_⟩|⟨hn,ag,ae,aO,aN⟩
          ·cases h5
          cases ag
          subst ae
          rw[hn]at hR
          simp only at hR
          have bi:=aj i12 (.map (eIL (putM x.a ⟨st-take+give,en⟩ m))) (.cells [dI (st-take+give),dI en]) n12 rfl S2 aa
          have bz:=hI im2 aq S2 s2 (.map (eIL (putM x.a ⟨st-take+give,en⟩ m))) ai
          refine gf aK ?_ [] [12]
          refine A4 (Cv p c im im2 (putM x.a ⟨st-take+give,en⟩ m) ((q:Int)+1) ⟨st-take+give,en⟩ _ hc (w6 ..)) (fun d S3 hr=>?_) (fun d S3 hr=>?_)
          rotate_left
          ·rcases hr.met with⟨hn,ag,ae⟩|⟨_,h5,_⟩
           ·cases ag
            subst ae
            rw[hn]at hR
            exact finP (U':=S2.set im2 (.map (eIL (putM x.a ⟨st-take+give,en⟩ m)))) (by rw[hR];exact⟨rfl,hB _ _ bz⟩)
           ·cases h5
          rcases hr.met with⟨_,h5,_⟩|⟨hn,ag,ae,aO,aN⟩
          ·cases h5
          cases ag
          subst ae
          rw[hn]at hR
          simp only at hR
          rw[w8]
          have ay:=aj i12 (.map (eIL (putM ((q:Int)+1) ⟨st-take+give,en⟩ (putM x.a ⟨st-take+give,en⟩ m)))) (.cells [dI (st-take+give),dI en]) n12 rfl S2 aa
          refine gf aK ?_ [] [12]
          exact⟨q+1,putM ((q:Int)+1) ⟨st-take+give,en⟩ (putM x.a ⟨st-take+give,en⟩ m),s2,S2.set im2 (.map (eIL (putM ((q:Int)+1) ⟨st-take+give,en⟩ (putM x.a ⟨st-take+give,en⟩ m)))),⟨by omega,by omega,hI im2 aq _ _ _ ai,w6 .., fun j o h1 h2=>by rw[w7 _ _ (nim j o h1)];exact au j o h1 h2,hR,bd_put2 (n:=q+1) (k:=xa) aH (by simp only;omega) (by omega) aL⟩,td1,wkR⟩
         ·rw [if_neg aK] at hR
          by_cases h3:x.op=3
          ·have e2':=e2 h3
           refine gf (gi ak (gi aB (gi aA (gi ac h3)))) ?_ [] [12]
           refine yldW (hy q ⟨st,en⟩ S1 s1 hq aw) (fun d S2 hr=>?_) (fun d S2 hr=>?_)
           rotate_left
           ·obtain⟨hn,rfl,hb⟩:=hr.pan
            rw[hn]at hR
            have ap:Bz p c ⟨(q0:Int),env,next⟩ step s0=none:=by first|exact hR|(rw[hR];split<;>rfl)
            exact finP (U':=S2) (by rw[ap];exact⟨rfl,hb⟩)
           obtain⟨s2,ar,rfl,ai,ah⟩:=hr.ret
           rw[ar]at hR
           have hm2:=ah im2 _ ak (ht im2 aq)
           have au:∀j o,O j=some o->¬touch j->S2 j=some o:=fun j o h1 h2=>ah j o (aC j o h1 h2) h2
           refine gf (gi ac h3) ?_ [] [12]
           refine newV (fun i12 aa=>?_)
           have n12:im2≠i12:=fun e=>by rw[<-e,hm2]at aa;cases aa
           refine gf (gi ac h3) ?_ [] [12]
           refine A4 (Cv p c im im2 (m) ((q:Int)+1) ⟨st-take+give,en⟩ _ hc (by rw[w7 _ _ n12];exact hm2)) (fun d S3 hr=>?_) (fun d S3 hr=>?_)
           rotate_left
           ·rcases hr.met with⟨hn,ag,ae⟩|⟨_,h5,_⟩
            ·cases ag
             subst ae
             rw[hn]at hR
             exact finP (U':=S2) (by rw[hR];exact⟨rfl,hB _ _ ai⟩)
            ·cases h5
           rcases hr.met with⟨_,h5,_⟩|⟨hn,ag,ae,aO,aN⟩
           ·cases h5
           cases ag
           subst ae
           rw[hn]at hR
           simp only at hR
           have ay:=aj i12 (.map (eIL (putM ((q:Int)+1) ⟨st-take+give,en⟩ m))) (.cells [dI (st-take+give),dI (en)]) n12 rfl S2 aa
           refine gf h3 ?_ [] [12]
           exact⟨q+1,putM ((q:Int)+1) ⟨st-take+give,en⟩ m,s2,S2.set im2 (.map (eIL (putM ((q:Int)+1) ⟨st-take+give,en⟩ m))),⟨by omega,by omega,hI im2 aq _ _ _ ai,w6 .., fun j o h1 h2=>by rw[w7 _ _ (nim j o h1)];exact au j o h1 h2,hR,JR (n:=q+1) aH (by simp only;omega) (by omega)⟩,td1,wkR⟩
          ·by_cases aV:x.op=20
           ·have e3':=e3 aV
            refine gf (gi ak (gi aB (gi aA (gi ac (gi aV e3'))))) ?_ [] [12]
            refine yldW (hy q ⟨st,en⟩ S1 s1 hq aw) (fun d S2 hr=>?_) (fun d S2 hr=>?_)
            rotate_left
            ·obtain⟨hn,rfl,hb⟩:=hr.pan
             rw[hn]at hR
             have ap:Bz p c ⟨(q0:Int),env,next⟩ step s0=none:=by first|exact hR|(rw[hR];split<;>rfl)
             exact finP (U':=S2) (by rw[ap];exact⟨rfl,hb⟩)
            obtain⟨s2,ar,rfl,ai,ah⟩:=hr.ret
            rw[ar]at hR
            have hm2:=ah im2 _ ak (ht im2 aq)
            have au:∀j o,O j=some o->¬touch j->S2 j=some o:=fun j o h1 h2=>ah j o (aC j o h1 h2) h2
            refine gf (gi ac (gi aV e3')) ?_ [] [12]
            refine newV (fun i12 aa=>?_)
            have n12:im2≠i12:=fun e=>by rw[<-e,hm2]at aa;cases aa
            refine gf (gi ac (gi aV e3')) ?_ [] [12]
            refine A4 (Cv p c im im2 (m) ((q:Int)+1) ⟨st-take+give,en⟩ _ hc (by rw[w7 _ _ n12];exact hm2)) (fun d S3 hr=>?_) (fun d S3 hr=>?_)
            rotate_left
            ·rcases hr.met with⟨hn,ag,ae⟩|⟨_,h5,_⟩
             ·cases ag
              subst ae
              rw[hn]at hR
              exact finP (U':=S2) (by rw[hR];exact⟨rfl,hB _ _ ai⟩)
             ·cases h5
            rcases hr.met with⟨_,h5,_⟩|⟨hn,ag,ae,aO,aN⟩
            ·cases h5
            cases ag
            subst ae
            rw[hn]at hR
            simp only at hR
            have ay:=aj i12 (.map (eIL (putM ((q:Int)+1) ⟨st-take+give,en⟩ m))) (.cells [dI (st-take+give),dI (en)]) n12 rfl S2 aa
            refine gf (gi aV e3') ?_ [] [12]
            exact⟨q+1,putM ((q:Int)+1) ⟨st-take+give,en⟩ m,s2,S2.set im2 (.map (eIL (putM ((q:Int)+1) ⟨st-take+give,en⟩ m))),⟨by omega,by omega,hI im2 aq _ _ _ ai,w6 .., fun j o h1 h2=>by rw[w7 _ _ (nim j o h1)];exact au j o h1 h2,hR,JR (n:=q+1) aH (by simp only;omega) (by omega)⟩,td1,wkR⟩
           ·skip
            refine gf (gi ak (gi aB (gi aA ac))) ?_ [] [12]
            refine yldW (hy q ⟨st,en⟩ S1 s1 hq aw) (fun d S2 hr=>?_) (fun d S2 hr=>?_)
            rotate_left
            ·obtain⟨hn,rfl,hb⟩:=hr.pan
             rw[hn]at hR
             have ap:Bz p c ⟨(q0:Int),env,next⟩ step s0=none:=by first|exact hR|(rw[hR];split<;>rfl)
             exact finP (U':=S2) (by rw[ap];exact⟨rfl,hb⟩)
            obtain⟨s2,ar,rfl,ai,ah⟩:=hr.ret
            rw[ar]at hR
            have hm2:=ah im2 _ ak (ht im2 aq)
            have au:∀j o,O j=some o->¬touch j->S2 j=some o:=fun j o h1 h2=>ah j o (aC j o h1 h2) h2
            refine gf ac ?_ [] [12]
            refine newV (fun i12 aa=>?_)
            have n12:im2≠i12:=fun e=>by rw[<-e,hm2]at aa;cases aa
            refine gf ac ?_ [] [12]
            refine A4 (Cv p c im im2 (m) ((q:Int)+1) ⟨st-take+give,en⟩ _ hc (by rw[w7 _ _ n12];exact hm2)) (fun d S3 hr=>?_) (fun d S3 hr=>?_)
            rotate_left
            ·rcases hr.met with⟨hn,ag,ae⟩|⟨_,h5,_⟩
             ·cases ag
              subst ae
              rw[hn]at hR
              exact finP (U':=S2) (by rw[hR];exact⟨rfl,hB _ _ ai⟩)
             ·cases h5
            rcases hr.met with⟨_,h5,_⟩|⟨hn,ag,ae,aO,aN⟩
            ·cases h5
            cases ag
            subst ae
            rw[hn]at hR
            simp only at hR
            have ay:=aj i12 (.map (eIL (putM ((q:Int)+1) ⟨st-take+give,en⟩ m))) (.cells [dI (st-take+give),dI (en)]) n12 rfl S2 aa
            refine gz ?_ [] [12]
            exact⟨q+1,putM ((q:Int)+1) ⟨st-take+give,en⟩ m,s2,S2.set im2 (.map (eIL (putM ((q:Int)+1) ⟨st-take+give,en⟩ m))),⟨by omega,by omega,hI im2 aq _ _ _ ai,w6 .., fun j o h1 h2=>by rw[w7 _ _ (nim j o h1)];exact au j o h1 h2,hR,JR (n:=q+1) aH (by simp only;omega) (by omega)⟩,td1,wkR⟩
  ·
   have e0:c.ins.length-q=0:=by omega
   rw[e0,Fz]at hR
   refine gz ?_ [] [12]
   exact DZ (U':=S1) (by rw[hR];exact⟨rfl,aw,aC⟩)
 ·rcases hr.met with⟨hn,ag,ae⟩|⟨_,h5,_⟩
  ·cases ag
   subst ae
   have ap:Bz p c ⟨pos,env,next⟩ step s0=none:=by
    unfold Bz
    refine if_pos ?_
    unfold BI at hn
    split at hn
    ·rename_i h
     rcases h with h|h|h
     ·exact .inl h
     ·exact .inr h
     ·exact absurd rfl h.1
    ·cases hn
   exact finP (U':=O) (by rw[ap];exact⟨rfl,hB _ _ hG⟩) ((Sub.refl _).set aq)
  ·cases h5
end Go.DL
