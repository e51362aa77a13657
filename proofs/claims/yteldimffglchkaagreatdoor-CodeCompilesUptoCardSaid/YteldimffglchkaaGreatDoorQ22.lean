/- A part of the proof. -/
import Derived.Test.YteldimffglchkaaGreatDoorQ21
import Derived.Test.YteldimffglchkaaGreatDoorQ17
import Derived.Test.YteldimffglchkaaGreatDoorQ19
import Derived.Test.YteldimffglchkaaGreatDoorQ18
import Derived.Test.YteldimffglchkaaGreatDoorQ16
set_option linter.all false
namespace Go.DL
open Go.Proofs.Tryz
open Go Go.Proofs
set_option maxHeartbeats 8000000
theorem Kz{f g:Nat->Option (Nat×Nat)}: ∀(ps:List (Nat×Value)) (cs:Array Value),(∀p∈ps,f p.1=g p.1)->Instr.fill f cs ps=Instr.fill g cs ps
 |[],cs,_=>rfl
 | (i,v)::ps,cs,h=>by
  rw[Instr.fill,Instr.fill,h (i,v) (by simp)]
  cases g i with
  |none=>rfl
  |some q=>
   obtain⟨o,z⟩:=q
   simp only
   split
   ·rfl
   ·exact Kz ps _ fun p hp=>h p (by simp[hp])
section
variable {ro:Ro}{n:Nat}{ops:Array Oper}{Q:DX->St->Prop}{df:List DDf}{rest:List Oper}{γ:List (Nat×D)}{O:Sig}{t:Nat}{ty:TypeId}{pos:String}{after:Array Edge}
theorem bldA{T len e:Nat}{parts:Array (Nat×Operand)}{out:List D}(h:DOps prog ro n ops Q rest ⟨(t,.agg out)::γ,O,df⟩)(hk:(tab T).k=.array len e:=by(simp<;>rfl))(he:A0 (tab e).k=false:=by simp)(hp:parts.all (fun p=>decide (p.1<len))=true:=by rfl)
  (ho:Pz tab ((List.range len).map fun i=>(i*(tab e).size,e)) (tab T).zero (parts.toList.map fun p=>(p.1,ev γ p.2))=some out) (bl:decide (t<n)=true:=by exact tdR):DOps prog ro n ops Q (⟨some t,.build T parts,ty,pos,after,none⟩::rest) ⟨γ,O,df⟩:=by
 refine C9 (fun d U'=>d=.agg out/\U'=O) rfl (fun c e=>by cases e) (Ae fun c e=>by cases e) (by simp only[Aq];exact bl) ?_ (fun d U' ⟨a,b⟩=>by subst a b;exact h)
 intro g w a hs hT
 obtain⟨inf,desc,z,h1,h2,h3,h4,h5,h6,h7,h8,h9,aW⟩:=Cd (Af T) (by rw[hk];simp)
 obtain⟨inf',desc',z',g1,g2,g3,g4,g5,g6,g7,g8,g9,g10⟩:=Cd (Af e) (Ag he)
 have hz:RepL g (tab T).zero z.cells.toList:=by
  rw[h9]
  exact AG (by simp) fun j x v e1 e2=>by
   rw[List.getElem?_map,e2]at e1
   cases e1;exact DK g v
 have bn:∀l:List (Nat×Operand),RepL g ((l.map fun p=>(p.1,ev γ p.2)).map (·.2)) ((l.map fun p=>(p.1,a.eval p.2)).map (·.2)):=fun l=>by
  induction l with
  |nil=>rfl
  |cons p l ih=>exact⟨_,_,rfl,Am hT p.2,ih⟩
 obtain⟨r,bi,bp⟩:=Jf (P:=prog) (tab:=tab) (g:=g) (fs:=(List.range len).map fun i=>(i*(tab e).size,e)) (places:=((List.range len).map fun i=>(i*(tab e).size,e)).map fun p=>(p.1,(tab p.2).size)) rfl (ps:=parts.toList.map fun p=>(p.1,a.eval p.2)) (cs:=z.cells) ho (by simp) (bn _) hz
 have hsz:inf'.size=(tab e).size:=by first|exact g4|exact g5|exact g6|exact g3|omega
 have hb:prog.built T (parts.toList.map fun p=>(p.1,a.eval p.2))=some r:=by
  unfold Program.built
  rw[h1,GN Af hk]
  simp only[h7,g1]
  rw[<-bi]
  refine Kz _ _ fun q hq=>?_
  obtain⟨p,bQ,rfl⟩:=List.mem_map.1 hq
  have bj:p.1<len:=by
   have:=Array.all_eq_true_iff_forall_mem.1 hp p (by simpa using bQ)
   simpa using this
  simp[bj,hsz]
 have:=run_build (P:=prog) w T (parts.map fun p=>(p.1,a.eval p.2)) r (by simpa using hb)
 refine⟨g,w,.agg r,.agg out,O,?_,.refl g,hs,⟨r.toList,by simp,bp⟩,rfl,rfl⟩
 simp only[execOp,Sem.run_bind]
 rw[this]
 rfl
end
def cActs:List D:=.nilf::(([105,106,107,108,109,110,111,112,113,113,113,113,113,114,115,116,117,118,119,120,121]:List Nat).map fun f=>D.func (.func f) [] [])
theorem Vd(O:Sig):DCall prog 49 [] O (rS (.agg cActs) O):=by
 refine en func49 ntmps49 ?_
 refine gz ?_ [] [0]
 refine newV (fun i0 cn=>?_)
 refine gz ?_ [] [0]
 refine bldA (len:=22) (e:=108) (out:=cActs) ?_ (hp:=by simp) (ho:=by kernel_rfl)
 simp only[cActs,List.map_cons,List.map_nil]
 refine gz ?_ [] [0]
 exact finC (U':=O) ⟨rfl,rfl⟩
@[reducible,instance] def a49:=fun O=>ah0 (@Vd O)
theorem Kw(bH:List Int): ∀(l:List Init) (seen:List Int),DQ bH seen l=true->∀x∈l,inB x.n=true
 |[],_,_,_,h=>by cases h
 |y::r,seen,h,x,hx=>by
  rw[DQ]at h
  simp only[Bool.and_eq_true]at h
  rcases List.mem_cons.1 hx with rfl|hx
  ·exact h.1.2
  ·exact Kw bH r _ h.2 x hx
theorem Mm(p:BProg): ∀(l:List BClass) (i:Nat),B8 p i l=true->∀c∈l, ∀x∈c.inits,inB x.n=true
 |[],_,_,_,h=>by cases h
 |y::r,i,h,c,hc=>by
  rw[B8]at h
  simp only[Bool.and_eq_true]at h
  rcases List.mem_cons.1 hc with rfl|hc
  ·exact Kw _ _ _ h.1.2
  ·exact Mm p r _ h.2 c hc
def Pb(m:List (Int×Int)):Prop:= ∀k,hasM k m=true->inB (getM 0 k m)=true
theorem Qh{m:List (Int×Int)}(h:Pb m)(s n:Int)(hn:inB n=true):Pb (putM s n m):=fun k hk=>by
 rw[EU]
 by_cases e:k=s
 ·rw[if_pos e];exact hn
 ·rw[if_neg e]
  rw[Ha]at hk
  simp only[e,decide_false,Bool.false_or]at hk
  exact h k hk
theorem K7: ∀(l:List Init) (m:List (Int×Int)),Pb m->(∀x∈l,inB x.n=true)->Pb (E7 l m)
 |[],_,h,_=>h
 |x::r,_,h,hl=>K7 r _ (Qh h x.slot x.n (hl x (by simp))) fun y hy=>hl y (by simp[hy])
theorem No{p:BProg}(hk:okP p=true)(order:List Int):Pb (Ia p order):=by
 have hc:∀c∈p.classes, ∀x∈c.inits,inB x.n=true:=by
  have h2:=EO hk
  unfold Ap at h2
  simp only[Bool.and_eq_true]at h2
  obtain⟨_,h4⟩:=h2
  split at h4
  ·cases h4
  ·simp only[Bool.and_eq_true]at h4
   exact Mm p _ _ h4.2
 unfold Ia
 induction order with
 |nil=>intro k hk;simp[hasM]at hk
 | cons c r ih =>
  rw[List.foldr_cons,DT]
  split
  ·refine K7 _ _ ih fun x hx=>?_
   cases hg:p.classes[(c-3).toNat]? with
   |none=>rw[hg]at hx;simp at hx
   |some cl=>rw[hg]at hx;exact hc cl (List.mem_of_getElem? hg) x hx
  ·exact ih
theorem HW{m:List (Int×Int)}(h:Pb m): ∀l:List Int, ∀x∈beginL m l,inB x.n=true
 |[],_,hx=>by cases hx
 | s::r,x,hx=>by
  rw[beginL]at hx
  split at hx
  ·rename_i hs
   rcases List.mem_cons.1 hx with rfl|hx
   ·exact h s hs
   ·exact HW h r x hx
  ·exact HW h r x hx
theorem Mn{p:BProg}(hk:okP p=true)(c:Int):(hasP p c).length<=40:=by
 have h1:=CD p c
 have h2:=EO hk
 unfold Ap at h2
 simp only[Bool.and_eq_true,decide_eq_true_eq]at h2
 obtain⟨h3,h4⟩:=h2
 have key:∀(l:List BClass) (n m:Int),B4 n l=some m->wtL (fun c:BClass=>c.slots.length) l<=4*l.length:=fun l=>by
  induction l with
  |nil=>intro n m _;exact Nat.le_refl _
  | cons c r ih =>
   intro n m h
   rw[B4]at h
   split at h
   ·cases h
   ·split at h
    ·cases h
    ·have:=ih _ _ h
     simp only[wtL,List.length_cons];omega
 split at h4
 ·cases h4
 ·rename_i n hn
  have:=key _ _ _ hn
  omega
theorem U5{p:BProg}(hk:okP p=true):WldOK p (A3 p):=by
 refine⟨fun c h1 h2=>?_,fun c _=>NJ p c,fun c _=>Bi.2 fun v hv=>?_⟩
 ·show(ownF p c&&okP p)=true
  unfold ownF;rw[hk];simp;omega
 ·unfold A3 at hv
  obtain⟨s,_,rfl⟩:=List.mem_map.1 hv
  unfold frV
  split
  ·rename_i i hi
   have:=HW (No hk _) _ i (List.mem_of_find?_eq_some hi)
   unfold inB at this
   unfold okV vInt
   simp only[Bool.and_eq_true,decide_eq_true_eq]at this
   simp[this]
  ·simp[okV,EJ]
theorem stk1{l:List MVal}(h:1<=l.length): ∃r v,l=r++[v]/\DW l=v/\l.dropLast=r:=by
 have hne:l≠[]:=fun e=>by rw[e]at h;simp at h
 refine⟨l.dropLast,l.getLast hne,(List.dropLast_concat_getLast hne).symm,?_,rfl⟩
 unfold DW;rw[List.getLast?_eq_some_getLast hne];rfl
theorem stk2{l:List MVal}(h:2<=l.length): ∃r w v,l=r++[w,v]/\DW l=v/\DW l.dropLast=w/\l.dropLast.dropLast=r/\l.dropLast=r++[w]:=by
 obtain⟨r,v,h1,h2,h3⟩:=stk1 (l:=l) (by omega)
 obtain⟨q,w,g1,g2,g3⟩:=stk1 (l:=l.dropLast) (by rw[List.length_dropLast];omega)
 refine⟨q,w,v,?_,h2,g2,g3,g1⟩
 rw[h1,<-h3,g1];simp
theorem OY{N:Int}{v:MVal}(h:okV N v=true): -1000000000<=AM v/\AM v<=1000000000:=by
 unfold AM
 split
 ·rename_i h1
  unfold okV at h
  rw[if_pos h1]at h
  simpa using h
 ·omega
def actF(op:Int):Nat:=if op<=8 then 104+op.toNat else if op<=13 then 113 else 100+op.toNat
def ActR(ir:Nat)(p:BProg)(R:Nat->RW)(O:Sig)(r:GoS ⊕ GoH)(y:DE)(U':Sig):Prop:= ∃R',RunK ir R O R' U'/\match r with
 |.inl t=>y=.ret (.bool false)/\RunS ir p R' t U'
 |.inr h=>y=.ret (.bool true) /\ ∃s' av b,HaltS ir p R' s' av b h U'
theorem VF{ir:Nat}{p:BProg}{R:Nat->RW}{t:GoS}{O:Sig}{N k q:Nat}{x:CIns}{l:CLev}{m:Met}{env:Int}{next:Bool}(hp:p.wt<=1073741824)(hk:okP p=true)(hI:InsOK p N k x l m env next)(am:fitsC p N q x=true)(bY:0<=env)
  (bm:(t.stk.length:Int)=l.st) (cp:(t.env.length:Int)=l.env) (ba:okVs t.objs.length t.stk=true) (bf:Bo (A3 p) t.objs=true) (aA:t.stk.length<=1000000) (bu:t.env.length<=1000000) (b8:t.evs.length<=1000000) (hR:RunS ir p R t O) :
  DCall prog (actF x.op) [.ptr ir 0,.agg (cIns x)] O (ActR ir p R O (J1 p (A3 p) x t)):=by
 have ht:=hI.take
 have cr:=(BQ.1 bf).1
 unfold fitsC at am
 have f3:x.op=3->0<=x.a:=fun h=>by rw[if_neg (by omega),if_pos h]at am;simpa using am
 have f46:x.op=4\/x.op=6->ownF p x.a=true:=fun h=>by
  rw[if_neg (by omega),if_neg (by omega),if_pos h]at am
  unfold ownF;simp at am⊢; omega
 have f19:x.op=19->0<=x.a/\x.a<p.gens.length:=fun h=>by
  rw[if_neg (by omega),if_neg (by omega),if_neg (by omega),if_neg (by omega),if_neg (by omega),if_pos h]at am
  simpa using am
 have frg:1<=x.op/\x.op<=21:=by
  refine Classical.byContradiction fun h=>?_
  rw[if_neg (by omega),if_neg (by omega),if_neg (by omega),if_neg (by omega),if_neg (by omega),if_neg (by omega)]at am
  simp at am
  omega
 clear am
 rw[J1]
 by_cases e1:x.op=1
 ·rw[if_pos e1,show actF x.op=105 by rw[e1];rfl]
  exact(Tr x hR aA).mono fun y U' ⟨h1,R',h2,h3⟩=>⟨R',h3,h1,h2⟩
 rw[if_neg e1]
 by_cases e2:x.op=2
 ·rw[if_pos e2,show actF x.op=106 by rw[e2];rfl]
  exact(Tq x hR aA).mono fun y U' ⟨h1,R',h2,h3⟩=>⟨R',h3,h1,h2⟩
 rw[if_neg e2]
 by_cases e3:x.op=3
 ·have hn:=hI.name e3
  have h0:=f3 e3
  have bj:x.a.toNat<t.env.length:=by omega
  rw[if_pos e3,show actF x.op=107 by rw[e3];rfl,List.getElem?_eq_getElem bj,Option.getD_some]
  exact(Tp x x.a.toNat (by omega) bj hR aA bu).mono fun y U' ⟨h1,R',h2,h3⟩=>⟨R',h3,h1,h2⟩
 rw[if_neg e3]
 by_cases e4:x.op=4
 ·rw[if_pos e4,show actF x.op=108 by rw[e4];rfl]
  refine(To x hp hk (f46 (.inl e4)) (by have:=Mn hk x.a;omega) hR aA (by omega)).mono fun y U' ⟨R',h1,h2⟩=>⟨R',h1,?_⟩
  by_cases hn:40<=t.objs.length
  ·rw[if_pos hn]at h2⊢; exact⟨h2.1,_,_,_,h2.2⟩
  ·rw[if_neg hn]at h2⊢; exact h2
 rw[if_neg e4]
 by_cases e5:x.op=5
 ·have u:Ah p x=(1,1):=by unfold Ah;rw[if_neg (by omega),if_pos (by omega)]
  rw[u]at ht;simp only at ht
  obtain⟨r,v,hs,hv,hr⟩:=stk1 (l:=t.stk) (by omega)
  have aY:okV t.objs.length v=true:=hv ▸ ES ba (by omega)
  rw[if_pos e5,show actF x.op=109 by rw[e5];rfl,hv,hr]
  refine(Tn x r v hp hR hs aA aY bf).mono fun y U' ⟨R',h1,h2⟩=>⟨R',h1,?_⟩
  by_cases hn:Br (A3 p) t.objs v x.a<0
  ·rw[if_pos hn]at h2⊢; exact⟨h2.1,_,_,_,h2.2⟩
  ·rw[if_neg hn]at h2⊢; exact h2
 rw[if_neg e5]
 by_cases e6:x.op=6
 ·have u:Ah p x=(1,1):=by unfold Ah;rw[if_neg (by omega),if_pos (by omega)]
  rw[u]at ht;simp only at ht
  obtain⟨r,v,hs,hv,hr⟩:=stk1 (l:=t.stk) (by omega)
  have aY:okV t.objs.length v=true:=hv ▸ ES ba (by omega)
  rw[if_pos e6,show actF x.op=110 by rw[e6];rfl,hv,hr]
  refine(Tm x r v hp hk (fun c=>by have:=Mn hk c;omega) (f46 (.inr e6)) hR hs aA aY bf).mono fun y U' ⟨R',h1,h2⟩=>⟨R',h1,?_⟩
  by_cases hn:v.kind=3
  ·rw[if_pos hn]at h2⊢; exact h2
  ·rw[if_neg hn]at h2⊢; exact⟨h2.1,_,_,_,h2.2⟩
 rw[if_neg e6]
 by_cases e7:x.op=7
 ·have u:Ah p x=(1,1):=by unfold Ah;rw[if_neg (by omega),if_pos (by omega)]
  rw[u]at ht;simp only at ht
  obtain⟨r,v,hs,hv,hr⟩:=stk1 (l:=t.stk) (by omega)
  rw[if_pos e7,show actF x.op=111 by rw[e7];rfl,hv,hr]
  exact(Tl x r v hR hs aA b8).mono fun y U' ⟨h1,R',h2,h3⟩=>⟨R',h3,h1,h2⟩
 rw[if_neg e7]
 by_cases e8:x.op=8
 ·have u:Ah p x=(2,1):=by unfold Ah;rw[if_neg (by omega),if_neg (by omega),if_neg (by omega),if_neg (by omega),if_neg (by omega),if_neg (by omega)]
  rw[u]at ht;simp only at ht
  obtain⟨r,w,v,hs,hv,hw,hr,bi⟩:=stk2 (l:=t.stk) (by omega)
  have bk:okV t.objs.length w=true:=hw ▸ ES (CP ba) (by rw[List.length_dropLast];omega)
  rw[if_pos e8,show actF x.op=112 by rw[e8];rfl,hw,hv,hr]
  refine(Tk x r w v hp hR hs aA bk bf).mono fun y U' ⟨R',h1,h2⟩=>⟨R',h1,?_⟩
  by_cases hn:Br (A3 p) t.objs w x.a<0
  ·rw[if_pos hn]at h2⊢; exact⟨h2.1,_,_,_,h2.2⟩
  ·rw[if_neg hn]at h2⊢; exact h2
 rw[if_neg e8]
 by_cases e14:x.op=14
 ·have u:Ah p x=(1,0):=by unfold Ah;rw[if_neg (by omega),if_neg (by omega),if_pos (by omega)]
  rw[u]at ht;simp only at ht
  obtain⟨r,v,hs,hv,hr⟩:=stk1 (l:=t.stk) (by omega)
  rw[if_pos e14,show actF x.op=114 by rw[e14];rfl,hv,hr]
  exact(Ti x r v hR hs aA bu).mono fun y U' ⟨h1,R',h2,h3⟩=>⟨R',h3,h1,h2⟩
 rw[if_neg e14]
 by_cases e15:x.op=15
 ·have hd:=hI.drop e15
  obtain⟨r,v,hs,hv,hr⟩:=stk1 (l:=t.env) (by omega)
  rw[if_pos e15,show actF x.op=115 by rw[e15];rfl,hr]
  exact(Th x r v hR hs bu).mono fun y U' ⟨h1,R',h2,h3⟩=>⟨R',h3,h1,h2⟩
 rw[if_neg e15]
 by_cases e16:x.op=16
 ·have u:Ah p x=(1,0):=by unfold Ah;rw[if_neg (by omega),if_neg (by omega),if_pos (by omega)]
  rw[u]at ht;simp only at ht
  obtain⟨r,v,hs,hv,hr⟩:=stk1 (l:=t.stk) (by omega)
  rw[if_pos e16,show actF x.op=116 by rw[e16];rfl,hr]
  exact(Tg x r v hR hs aA).mono fun y U' ⟨h1,R',h2,h3⟩=>⟨R',h3,h1,h2⟩
 rw[if_neg e16]
 by_cases e17:x.op=17
 ·have u:Ah p x=(1,0):=by unfold Ah;rw[if_neg (by omega),if_neg (by omega),if_pos (by omega)]
  rw[u]at ht;simp only at ht
  obtain⟨r,v,hs,hv,hr⟩:=stk1 (l:=t.stk) (by omega)
  rw[if_pos e17,show actF x.op=117 by rw[e17];rfl,hv,hr]
  exact(Tf x r v hR hs aA).mono fun y U' ⟨h1,R',h2,h3⟩=>⟨R',h3,h1,h2⟩
 rw[if_neg e17]
 by_cases e18:x.op=18
 ·rw[if_pos e18,show actF x.op=118 by rw[e18];rfl]
  exact(Te x hR).mono fun y U' ⟨h1,R',h2,h3⟩=>⟨R',h3,h1,h2⟩
 rw[if_neg e18]
 by_cases e19:x.op=19
 ·obtain⟨a1,a2⟩:=f19 e19
  have u:Ah p x=(p.gens.getD x.a.toNat 0,1):=by unfold Ah;rw[if_neg (by omega),if_neg (by omega),if_neg (by omega),if_pos e19]
  rw[u]at ht;simp only at ht
  have co:=(GG hk x.a.toNat).1
  have aT:x.a.toNat<p.gens.length:=by omega
  have bW:p.gens.getD x.a.toNat 0=p.gens[x.a.toNat]:=by rw[List.getD_eq_getElem?_getD,List.getElem?_eq_getElem aT];rfl
  rw[if_pos e19,show actF x.op=119 by rw[e19];rfl]
  refine(Td x (t.stk.take (t.stk.length-(p.gens.getD x.a.toNat 0).toNat)) (t.stk.drop (t.stk.length-(p.gens.getD x.a.toNat 0).toNat)) x.a.toNat hp (by omega) aT ?_ hR (List.take_append_drop _ _).symm aA).mono fun y U' ⟨h1,R',av,h2,h3⟩=>⟨R',h3,h1,_,_,_,h2⟩
  rw[<-bW,List.length_drop];omega
 rw[if_neg e19]
 by_cases e20:x.op=20
 ·rw[if_pos e20,show actF x.op=120 by rw[e20];rfl]
  exact(Tc x hR).mono fun y U' ⟨h1,h2,h3⟩=>⟨R,h3,h1,_,_,_,h2⟩
 rw[if_neg e20]
 by_cases e21:x.op=21
 ·have hf:=hI.fin e21
  obtain⟨r,v,hs,hv,hr⟩:=stk1 (l:=t.stk) (by omega)
  rw[if_pos e21,show actF x.op=121 by rw[e21];rfl,hv]
  exact(Tb x r v hR hs aA).mono fun y U' ⟨h1,R',h2,h3⟩=>⟨R',h3,h1,_,_,_,h2⟩
 rw[if_neg e21]
 have u:Ah p x=(2,1):=by unfold Ah;rw[if_neg (by omega),if_neg (by omega),if_neg (by omega),if_neg (by omega),if_neg (by omega),if_neg (by omega)]
 rw[u]at ht;simp only at ht
 obtain⟨r,w,v,hs,hv,hw,hr,bi⟩:=stk2 (l:=t.stk) (by omega)
 have aY:okV t.objs.length v=true:=hv ▸ ES ba (by omega)
 have bk:okV t.objs.length w=true:=hw ▸ ES (CP ba) (by rw[List.length_dropLast];omega)
 rw[show actF x.op=113 by unfold actF;rw[if_neg (by omega),if_pos (by omega)],hw,hv,hr]
 exact(Tj x r w v (by omega) hR hs aA (OY bk) (OY aY)).mono fun y U' ⟨h1,R',h2,h3⟩=>⟨R',h3,h1,h2⟩
end Go.DL
namespace Go.DL
open Go.Proofs.Tryz
open Go Go.Proofs
set_option maxHeartbeats 80000000
@[simp] theorem cIns_take(x:CIns):List.take 2 (cIns x)=cIns x:=rfl
@[simp] theorem mem_cIns(y:D)(x:CIns):y∈cIns x ↔ y=dI x.op\/y=dI x.a:=by simp[cIns]
def eIL(m:MetL):List (D×D):=eM dI (fun l=>.agg (cLev l)) m
@[simp] theorem hitILok(k:Int)(m:MetL):hitD tab 79 true (CE (.int .i64) (.int .i64 k) (eIL m) 0)=some (.tup [.agg [.int .i64 (getM ⟨0,0⟩ k m).st,.int .i64 (getM ⟨0,0⟩ k m).env],.bool (hasM k m)]):=Oz keyI (fun l=>.agg (cLev l)) rfl k m
@[simp] theorem hitIL(k:Int)(m:MetL):hitD tab 79 false (CE (.int .i64) (.int .i64 k) (eIL m) 0)=some (.agg [.int .i64 (getM ⟨0,0⟩ k m).st,.int .i64 (getM ⟨0,0⟩ k m).env]):=Rq keyI (fun l=>.agg (cLev l)) rfl k m
@[simp] theorem putIL(k a b:Int)(m:MetL):CZ (.int .i64) (.int .i64 k) (.agg [.int .i64 a,.int .i64 b]) (eIL m)=some (eIL (putM k ⟨a,b⟩ m)):=Og keyI (fun l=>.agg (cLev l)) k ⟨a,b⟩ m
def ReR(p:BProg)(c:CProg)(im2:Nat)(m:MetL)(n:Int)(l:CLev)(O:Sig)(x:DE)(U':Sig):Prop:=
 if n<0\/(c.ins.length:Int)<=n\/(hasM n m=true/\getM ⟨0,0⟩ n m≠l) then x=.panic unfC/\U'=O else x=.ret (.tup [])/\U'=O.set im2 (.map (eIL (putM n l m)))
theorem CQ(p:BProg)(c:CProg)(im im2:Nat)(m:MetL)(n:Int)(l:CLev)(O:Sig)(hc:c.ins.length<=300)(hm:O im2=some (.map (eIL m))):DCall prog 170 [dI n,.agg (cLev l),.cptr [.map im2] 0,.cptr [cChk p c im] 0] O (ReR p c im2 m n l O):=by
 obtain⟨st,env⟩:=l
 refine en func170 ntmps170 ?_
 by_cases h1:n<0
 ·refine gf hm ?_
  exact finP (U':=O) (by unfold ReR;rw[if_pos (.inl h1)];exact⟨rfl,rfl⟩)
 by_cases h2:(c.ins.length:Int)<=n
 ·refine gf hm ?_
  exact finP (U':=O) (by unfold ReR;rw[if_pos (.inr (.inl h2))];exact⟨rfl,rfl⟩)
 cases hh:hasM n m with
 |false=>
  refine gf (gi hm hh) ?_
  exact EW (U':=O.set im2 (.map (eIL (putM n ⟨st,env⟩ m)))) (by unfold ReR;rw[if_neg (by rintro(h|h|h);exact h1 h;exact h2 h;rw[hh]at h;cases h.1)];exact⟨rfl,rfl⟩)
 | true =>
  refine gf (gi hm hh) ?_
  refine eqlS _ (decide (getM ⟨0,0⟩ n m=(⟨st,env⟩:CLev))) TB Rk (eqLev _ _) ?_
  by_cases he:getM ⟨0,0⟩ n m=(⟨st,env⟩:CLev)
  ·refine gf (gi he hm) ?_
   exact EW (U':=O.set im2 (.map (eIL (putM n ⟨st,env⟩ m)))) (by unfold ReR;rw[if_neg (by rintro(h|h|h);exact h1 h;exact h2 h;exact h.2 he)];exact⟨rfl,rfl⟩)
  ·refine gf he ?_
   exact finP (U':=O) (by unfold ReR;rw[if_pos (.inr (.inr ⟨hh,he⟩))];exact⟨rfl,rfl⟩)
theorem ReR.met{p:BProg}{c:CProg}{im2:Nat}{m:MetL}{n:Int}{l:CLev}{O:Sig}{x:DE}{U':Sig}(h:ReR p c im2 m n l O x U'):(BP c.ins.length (metOf m) n l=none/\x=.panic unfC/\U'=O)\/(BP c.ins.length (metOf m) n l=some (metOf (putM n l m))/\x=.ret (.tup [])/\U'=O.set im2 (.map (eIL (putM n l m)))/\0<=n/\n<c.ins.length):=by
 unfold ReR at h
 unfold BP
 have e:(n<0\/(c.ins.length:Int)<=n\/(hasM n m=true/\getM ⟨0,0⟩ n m≠l)) ↔ (n<0\/(c.ins.length:Int)<=n\/(metOf m n.toNat≠none/\metOf m n.toNat≠some l)):=by
  by_cases h1:n<0
  ·simp[h1]
  ·have hn:((n.toNat:Nat):Int)=n:=by omega
   unfold metOf
   rw[hn]
   cases hh:hasM n m<;>simp
 split at h
 ·rename_i hc
  rw[if_pos (e.1 hc)]
  exact .inl ⟨rfl,h⟩
 ·rename_i hc
  rw[if_neg fun k=>hc (e.2 k)]
  have hn:n=((n.toNat:Nat):Int):=by
   have:¬n<0:=fun k=>hc (.inl k)
   omega
  refine .inr ⟨?_,h.1,h.2,by omega,?_⟩
  ·have h3:=Da m n.toNat l
   rw[<-hn]at h3
   rw[h3]
  ·have:¬(c.ins.length:Int)<=n:=fun k=>hc (.inr (.inl k))
   omega
theorem newIL{ro:Ro}{n:Nat}{ops:Array Oper}{Q:DX->St->Prop}{df:List DDf}{rest:List Oper}{γ:Fr}{O:Sig}{t:Nat}{ty:TypeId}{pos:String}{after:Array Edge}{T:Nat}(h:∀i,O i=none->DOps prog ro n ops Q rest ⟨(t,.map i)::γ,O.set i (.map (eIL [])),df⟩)(bl:decide (t<n)=true:=by exact tdR):DOps prog ro n ops Q (⟨some t,.makeMap T none,ty,pos,after,none⟩::rest) ⟨γ,O,df⟩:=newM h bl
def cSt(s:CSt):List D:=[dI s.pos,dI s.env,.bool s.next]
theorem UK{c:CProg}{q:Nat}(h:q<c.ins.length):AD c q=c.ins[q]:=by unfold AD;rw[List.getElem?_eq_getElem h];rfl
theorem L0{m:MetL}{n:Nat}{lv:CLev}{env:Int}{q:Nat}(hb:∀j l,metOf m j=some l->0<=l.st/\l.st<=q/\env<=l.env/\l.env<=env+q)(h:0<=lv.st/\lv.st<=q+1/\env<=lv.env/\lv.env<=env+q+1){z:Int}(hz:z=(n:Int)): ∀j l,metOf (putM z lv m) j=some l->0<=l.st/\l.st<=((q+1:Nat):Int)/\env<=l.env/\l.env<=env+((q+1:Nat):Int):=fun j l hj=>by
 rw[hz,Da]at hj
 unfold updM at hj
 split at hj
 ·cases hj;omega
 ·have:=hb j l hj;omega
theorem bd_put2{m:MetL}{n k:Nat}{lv:CLev}{env:Int}{q:Nat}(hb:∀j l,metOf m j=some l->0<=l.st/\l.st<=q/\env<=l.env/\l.env<=env+q)(h:0<=lv.st/\lv.st<=q+1/\env<=lv.env/\lv.env<=env+q+1){z y:Int}(hz:z=(n:Int))(hy:y=(k:Int)): ∀j l,metOf (putM z lv (putM y lv m)) j=some l->0<=l.st/\l.st<=((q+1:Nat):Int)/\env<=l.env/\l.env<=env+((q+1:Nat):Int):=fun j l hj=>by
 rw[hz,Da,hy,Da]at hj
 unfold updM at hj
 split at hj
 ·cases hj;omega
 ·split at hj
  ·cases hj;omega
  ·have:=hb j l hj;omega
theorem T5 {S:Type} (p:BProg) (c:CProg) (im:Nat) (s:CSt) (lb:Nat) (Good:Sig->S->Prop) (Bad:Sig->Prop) (touch:Nat->Prop) (step:Nat->CLev->S->Option S) (hp:p.wt<=1073741824) (hc:c.ins.length<=300) (am:Co p c.ins.length c.ins 0=true) (bX : ∀ n:Nat,0<=p.gens.getD n 0/\p.gens.getD n 0<=3) (he:0<=s.env/\s.env<=1000)
  (hy:∀k l O s,k<c.ins.length->Good O s->DYield prog lb [dI k,.agg (cLev l)] O (OutO unfC (.bool true) Good Bad touch O (step k l s))) (O:Sig) (s0:S) (hG:Good O s0)
  (hI:∀a,O a=none->∀S1 s o,Good S1 s->Good (S1.set a o) s) (ht:∀a,O a=none->¬touch a) (hB:∀S1 s,Good S1 s->Bad S1) :
  DCall prog 169 [.yld lb,.cptr [cChk p c im] 0,.cptr (cSt s) 0] O (OutO unfC (.tup []) Good Bad touch O (BN p c s step s0)):=by
 obtain⟨p1,p2,p3,p4,p5,p6,p7⟩:=p.wt_le
 obtain⟨b6,bZ⟩:=he
 obtain⟨pos,env,next⟩:=s
 simp only at b6 bZ
 refine en func169 ntmps169 ?_
 refine gz ?_ [] [12]
 refine newIL (fun im2 ar=>?_)
 refine gz ?_ [] [12]
 refine A7 (CQ p c im im2 [] pos ⟨0,env⟩ _ hc (w6 ..)) (fun d U' hr=>?_) (fun d U' hr=>?_)
 ·rcases hr.met with ⟨_,h,_⟩ | ⟨bi,bp,bO,cg,cf⟩
  ·cases h
  cases bp
  subst bO
  obtain⟨q0,rfl⟩:∃q0:Nat,pos=(q0:Int):=⟨pos.toNat,by omega⟩
  refine gz ?_ [] [12]
  have nim:∀j o,O j=some o->j≠im2:=fun j o h e=>by rw[e,ar]at h;cases h
  refine Pq [0,1,2,4,5] (fun (q:Nat) (m:MetL) (s1:S) (S1:Sig)=>q0<=q/\q<=c.ins.length/\Good S1 s1/\S1 im2=some (.map (eIL m))/\(∀j o,O j=some o->¬touch j->S1 j=some o)/\BN p c ⟨(q0:Int),env,next⟩ step s0=Gn p c env next step (c.ins.length-q) q (metOf m) s1 /\ ∀j l,metOf m j=some l->0<=l.st/\l.st<=q/\env<=l.env/\l.env<=env+q) (fun q _ _ _=>[(6,dI q)]) (fun _ _ _ S1=>S1) (fun q _ _ _=>c.ins.length-q) (q0) (putM (q0:Int) ⟨0,env⟩ []) (s0) ((O.set im2 (.map (eIL []))).set im2 (.map (eIL (putM (q0:Int) ⟨0,env⟩ [])))) (by exact⟨Nat.le_refl _,by omega,hI im2 ar _ _ _ (hI im2 ar _ _ _ hG),w6 .., fun j o h _=>by rw[w7 _ _ (nim j o h),w7 _ _ (nim j o h)];exact h,by unfold BN;rw[if_neg (by simp only;omega),Da];rfl,fun j l h=>by rw[Da]at h;unfold updM at h;split at h;(cases h;simp only;omega);cases h⟩) (fun q m s1 S1 hI=>?_)
  obtain⟨ck,ci,ay,ak,aq,hR,aK⟩:=hI
  by_cases hq:q<c.ins.length
  ·have aZ:c.ins.length-q=(c.ins.length-(q+1))+1:=by omega
   rw[aZ,Gn,UK hq]at hR
   have aI:=HX _ _ am q _ (List.getElem?_eq_getElem hq)
   rw[Nat.zero_add]at aI
   cases aJ:metOf m q with
   | none =>
    have hh:hasM (q:Int) m=false:=by
     unfold metOf at aJ
     split at aJ
     ·cases aJ
     ·rename_i h;simpa using h
    rw[aJ]at hR
    simp only at hR
    refine gf (gi ak hh) ?_ [] [12]
    exact⟨q+1,m,s1,S1,⟨by omega,by omega,ay,ak,aq,hR,fun j l h=>by have:=aK j l h;omega⟩,td1,wkR⟩
   | some l =>
    have hh:hasM (q:Int) m=true/\getM ⟨0,0⟩ (q:Int) m=l:=by
     unfold metOf at aJ
     split at aJ
     ·rename_i h;exact⟨h,by simpa using aJ⟩
     ·cases aJ
    obtain⟨aE,aD⟩:=hh
    obtain⟨b1,b2,b3,b4⟩:=aK q l aJ
    rw[aJ]at hR
    simp only at hR
    have hu:=fun ce:(c.ins[q]).op=19=>(show 0<=(c.ins[q]).a/\(c.ins[q]).a<p.gens.length by unfold fitsQ at aI;rw[ce]at aI;simpa using aI)
    have bB:0<=(Ah p c.ins[q]).1/\(Ah p c.ins[q]).1<=3/\0<=(Ah p c.ins[q]).2/\(Ah p c.ins[q]).2<=1:=by
     have:=bX (c.ins[q]).a.toNat
     unfold Ah
     repeat' split
     all_goals simp only;omega
    obtain⟨x,hx⟩:∃x,x=c.ins[q]:=⟨_,rfl⟩
    rw[<-hx]at hR aI hu bB
    have ag:=hx.symm
    have i171:∀O,Ans 171 [cChk p c im,.agg (cIns x)] O True (.tup [dI (Ah p x).1,dI (Ah p x).2]):=fun O=>ah0 (T4 p c im x O hp hu)
    generalize bA:Ah p x=us at*
    obtain⟨take,give⟩:=us
    obtain⟨st,en⟩:=l
    simp only at bB b1 b2 b3 b4
    by_cases aH:¬(take<=st/\(x.op=3->x.a<en)/\(x.op=20->next=true))
    ·have ap:BN p c ⟨(q0:Int),env,next⟩ step s0=none:=by
      rw[hR]
      have:CL p c env next q x ⟨st,en⟩ (metOf m)=none:=by
       unfold CL;rw[bA]
       refine if_pos ?_
       by_cases k1:take<=st
       ·by_cases k2:x.op=3->x.a<en
        ·by_cases k3:x.op=20->next=true
         ·exact absurd ⟨k1,k2,k3⟩ aH
         ·rw[Classical.not_imp]at k3
          exact .inr (.inr (.inr ⟨k3.1,by simpa using k3.2⟩))
        ·rw[Classical.not_imp]at k2
         exact .inr (.inl ⟨k2.1,by have:=k2.2;show en<=x.a;omega⟩)
       ·exact .inl (by show st<take;omega)
      rw[this]
     have bb:st<take\/(x.op=3/\en<=x.a)\/(x.op=20/\next=false):=by
      by_cases k1:take<=st
      ·by_cases k2:x.op=3->x.a<en
       ·by_cases k3:x.op=20->next=true
        ·exact absurd ⟨k1,k2,k3⟩ aH
        ·rw[Classical.not_imp]at k3
         exact .inr (.inr ⟨k3.1,by simpa using k3.2⟩)
       ·rw[Classical.not_imp]at k2
        exact .inr (.inl ⟨k2.1,by have:=k2.2;omega⟩)
      ·exact .inl (by omega)
     clear aH hR
     rcases bb with k1|⟨k1,k2⟩|⟨k1,k2⟩
     ·repeat' first|refine gf (gi ak (gi aE (gi aD ag))) ?_ [] [12]|apply gy<;>intro hh
      all_goals exact finP (U':=S1) (by rw[ap];exact⟨rfl,hB _ _ ay⟩)
     ·repeat' first|refine gf (gi ak (gi aE (gi aD (gi ag k1)))) ?_ [] [12]|apply gy<;>intro hh
      all_goals exact finP (U':=S1) (by rw[ap];exact⟨rfl,hB _ _ ay⟩)
     ·repeat' first|refine gf (gi ak (gi aE (gi aD (gi ag (gi k1 k2))))) ?_ [] [12]|apply gy<;>intro hh
      all_goals exact finP (U':=S1) (by rw[ap];exact⟨rfl,hB _ _ ay⟩)
    ·rw [Classical.not_not] at aH
     obtain⟨e1,e2,e3⟩:=aH
     have bh:¬(st<take\/(x.op=3/\en<=x.a)\/(x.op=15/\en<=env)\/(x.op=20/\next=false)) ↔ ¬(x.op=15/\en<=env):=by
      constructor
      ·intro h k;exact h (.inr (.inr (.inl k)))
      ·rintro h (k|⟨k,k2⟩|k|⟨k,k2⟩)
       ·omega
       ·have:=e2 k;omega
       ·exact h k
       ·rw[e3 k]at k2;cases k2
     have aG:∀l:CLev,CL p c env next q x ⟨st,en⟩ (metOf m)=if(st<take\/(x.op=3/\en<=x.a)\/(x.op=15/\en<=env)\/(x.op=20/\next=false)) then none
      else if x.op=21 then(if st=1/\en=env then some (metOf m) else none)
      else if x.op=14 then BP c.ins.length (metOf m) ((q:Int)+1) ⟨st-take+give,en+1⟩
      else if x.op=15 then BP c.ins.length (metOf m) ((q:Int)+1) ⟨st-take+give,en-1⟩
      else if x.op=18 then BP c.ins.length (metOf m) x.a ⟨st-take+give,en⟩
      else if x.op=17 then(match BP c.ins.length (metOf m) x.a ⟨st-take+give,en⟩with
       |none=>none
       |some m=>BP c.ins.length m ((q:Int)+1) ⟨st-take+give,en⟩)
      else BP c.ins.length (metOf m) ((q:Int)+1) ⟨st-take+give,en⟩:=fun _=>by unfold CL;rw[bA];rfl
     rw[aG ⟨0,0⟩]at hR
     clear aG
     by_cases aL:x.op=21
     ·rw[if_neg (bh.2 (by omega)),if_pos aL]at hR
      by_cases aQ:st=1/\en=env
      ·rw[if_pos aQ]at hR
       obtain⟨g1,g2⟩:=aQ
       simp only at hR
       refine gf (gi ak (gi aE (gi aD (gi ag aL)))) ?_ [] [12]
       refine yldW (hy q ⟨st,en⟩ S1 s1 hq ay) (fun d S2 hr=>?_) (fun d S2 hr=>?_)
       rotate_left
       ·obtain⟨hn,rfl,hb⟩:=hr.pan
        rw[hn]at hR
        have ap:BN p c ⟨(q0:Int),env,next⟩ step s0=none:=by first|exact hR|(rw[hR];split<;>rfl)
        exact finP (U':=S2) (by rw[ap];exact⟨rfl,hb⟩)
       obtain⟨s2,ax,rfl,ai,ac⟩:=hr.ret
       rw[ax]at hR
       have hm2:=ac im2 _ ak (ht im2 ar)
       have aw:∀j o,O j=some o->¬touch j->S2 j=some o:=fun j o h1 h2=>ac j o (aq j o h1 h2) h2
       refine gf (gi ag aL) ?_ [] [12]
       refine newV (fun i12 aa=>?_)
       have n12:im2≠i12:=fun e=>by rw[<-e,hm2]at aa;cases aa
       refine gf (gi ag aL) ?_ [] [12]
       exact⟨q+1,m,s2,S2,⟨by omega,by omega,ai,hm2,aw,hR,fun j l h=>by have:=aK j l h;omega⟩,td1,wkR⟩
      ·rw[if_neg aQ]at hR
       simp only at hR
       refine gf (gi ak (gi aE (gi aD (gi ag aL)))) ?_ [] [12]
       refine yldW (hy q ⟨st,en⟩ S1 s1 hq ay) (fun d S2 hr=>?_) (fun d S2 hr=>?_)
       rotate_left
       ·obtain⟨hn,rfl,hb⟩:=hr.pan
        have ap:BN p c ⟨(q0:Int),env,next⟩ step s0=none:=hR
        exact finP (U':=S2) (by rw[ap];exact⟨rfl,hb⟩)
       obtain⟨s2,ax,rfl,ai,ac⟩:=hr.ret
       have hm2:=ac im2 _ ak (ht im2 ar)
       have aw:∀j o,O j=some o->¬touch j->S2 j=some o:=fun j o h1 h2=>ac j o (aq j o h1 h2) h2
       refine gf (gi ag aL) ?_ [] [12]
       refine newV (fun i12 aa=>?_)
       have n12:im2≠i12:=fun e=>by rw[<-e,hm2]at aa;cases aa
       repeat' first|refine gf (gi ag aL) ?_ [] [12]|apply gy<;>intro hh
       all_goals exact finP (U':=S2) (by rw[hR];exact⟨rfl,hB _ _ ai⟩)
     have aj:∀(i12:Nat) (o o':DObj),im2≠i12->S1=S1->∀S2:Sig,S2 i12=none->Sub (S2.set im2 o) ((S2.set i12 o').set im2 o):=fun i12 o o' hn _ S2 aa k y hk=>by
      by_cases bE:k=im2
      ·subst bE;rw[w6]at hk⊢; exact hk
      ·rw[w7 _ _ bE]at hk⊢
       rw[w7 _ _ (fun e=>by rw[e,aa]at hk;cases hk)];exact hk
     ·by_cases aV:x.op=14
      ·rw[if_neg (bh.2 (by omega)),if_neg aL,if_pos aV]at hR
       refine gf (gi ak (gi aE (gi aD (gi ag aV)))) ?_ [] [12]
       refine yldW (hy q ⟨st,en⟩ S1 s1 hq ay) (fun d S2 hr=>?_) (fun d S2 hr=>?_)
       rotate_left
       ·obtain⟨hn,rfl,hb⟩:=hr.pan
        rw[hn]at hR
        have ap:BN p c ⟨(q0:Int),env,next⟩ step s0=none:=by first|exact hR|(rw[hR];split<;>rfl)
        exact finP (U':=S2) (by rw[ap];exact⟨rfl,hb⟩)
       obtain⟨s2,ax,rfl,ai,ac⟩:=hr.ret
       rw[ax]at hR
       have hm2:=ac im2 _ ak (ht im2 ar)
       have aw:∀j o,O j=some o->¬touch j->S2 j=some o:=fun j o h1 h2=>ac j o (aq j o h1 h2) h2
       refine gf (gi ag aV) ?_ [] [12]
       refine newV (fun i12 aa=>?_)
       have n12:im2≠i12:=fun e=>by rw[<-e,hm2]at aa;cases aa
       refine gf (gi ag aV) ?_ [] [12]
       refine A7 (CQ p c im im2 (m) ((q:Int)+1) ⟨st-take+give,en+1⟩ _ hc (by rw[w7 _ _ n12];exact hm2)) (fun d S3 hr=>?_) (fun d S3 hr=>?_)
       rotate_left
       ·rcases hr.met with⟨hn,ah,ae⟩|⟨_,h5,_⟩
        ·cases ah
         subst ae
         rw[hn]at hR
         exact finP (U':=S2) (by rw[hR];exact⟨rfl,hB _ _ ai⟩)
        ·cases h5
       rcases hr.met with⟨_,h5,_⟩|⟨hn,ah,ae,aS,aR⟩
       ·cases h5
       cases ah
       subst ae
       rw[hn]at hR
       simp only at hR
       have aC:=aj i12 (.map (eIL (putM ((q:Int)+1) ⟨st-take+give,en+1⟩ m))) (.cells [dI (st-take+give),dI (en+1)]) n12 rfl S2 aa
       refine gf aV ?_ [] [12]
       exact⟨q+1,putM ((q:Int)+1) ⟨st-take+give,en+1⟩ m,s2,S2.set im2 (.map (eIL (putM ((q:Int)+1) ⟨st-take+give,en+1⟩ m))),⟨by omega,by omega,hI im2 ar _ _ _ ai,w6 .., fun j o h1 h2=>by rw[w7 _ _ (nim j o h1)];exact aw j o h1 h2,hR,L0 (n:=q+1) aK (by simp only;omega) (by omega)⟩,td1,wkR⟩
      ·by_cases aM:x.op=15
       ·by_cases bz:en<=env
        ·rw[if_pos (.inr (.inr (.inl ⟨aM,bz⟩)))]at hR
         simp only at hR
         refine gf (gi ak (gi aE (gi aD (gi ag aM)))) ?_ [] [12]
         refine yldW (hy q ⟨st,en⟩ S1 s1 hq ay) (fun d S2 hr=>?_) (fun d S2 hr=>?_)
         rotate_left
         ·obtain⟨hn,rfl,hb⟩:=hr.pan
          have ap:BN p c ⟨(q0:Int),env,next⟩ step s0=none:=hR
          exact finP (U':=S2) (by rw[ap];exact⟨rfl,hb⟩)
         obtain⟨s2,ax,rfl,ai,ac⟩:=hr.ret
         have hm2:=ac im2 _ ak (ht im2 ar)
         have aw:∀j o,O j=some o->¬touch j->S2 j=some o:=fun j o h1 h2=>ac j o (aq j o h1 h2) h2
         refine gf (gi ag aM) ?_ [] [12]
         refine newV (fun i12 aa=>?_)
         have n12:im2≠i12:=fun e=>by rw[<-e,hm2]at aa;cases aa
         repeat' first|refine gf (gi ag aM) ?_ [] [12]|apply gy<;>intro hh
         all_goals exact finP (U':=S2) (by rw[hR];exact⟨rfl,hB _ _ ai⟩)
        ·rw[if_neg (bh.2 (by omega)),if_neg aL,if_neg aV,if_pos aM]at hR
         refine gf (gi ak (gi aE (gi aD (gi ag aM)))) ?_ [] [12]
         refine yldW (hy q ⟨st,en⟩ S1 s1 hq ay) (fun d S2 hr=>?_) (fun d S2 hr=>?_)
         rotate_left
         ·obtain⟨hn,rfl,hb⟩:=hr.pan
          rw[hn]at hR
          have ap:BN p c ⟨(q0:Int),env,next⟩ step s0=none:=by first|exact hR|(rw[hR];split<;>rfl)
          exact finP (U':=S2) (by rw[ap];exact⟨rfl,hb⟩)
         obtain⟨s2,ax,rfl,ai,ac⟩:=hr.ret
         rw[ax]at hR
         have hm2:=ac im2 _ ak (ht im2 ar)
         have aw:∀j o,O j=some o->¬touch j->S2 j=some o:=fun j o h1 h2=>ac j o (aq j o h1 h2) h2
         refine gf (gi ag aM) ?_ [] [12]
         refine newV (fun i12 aa=>?_)
         have n12:im2≠i12:=fun e=>by rw[<-e,hm2]at aa;cases aa
         refine gf (gi ag aM) ?_ [] [12]
         refine A7 (CQ p c im im2 (m) ((q:Int)+1) ⟨st-take+give,en-1⟩ _ hc (by rw[w7 _ _ n12];exact hm2)) (fun d S3 hr=>?_) (fun d S3 hr=>?_)
         rotate_left
         ·rcases hr.met with⟨hn,ah,ae⟩|⟨_,h5,_⟩
          ·cases ah
           subst ae
           rw[hn]at hR
           exact finP (U':=S2) (by rw[hR];exact⟨rfl,hB _ _ ai⟩)
          ·cases h5
         rcases hr.met with⟨_,h5,_⟩|⟨hn,ah,ae,aS,aR⟩
         ·cases h5
         cases ah
         subst ae
         rw[hn]at hR
         simp only at hR
         have aC:=aj i12 (.map (eIL (putM ((q:Int)+1) ⟨st-take+give,en-1⟩ m))) (.cells [dI (st-take+give),dI (en-1)]) n12 rfl S2 aa
         refine gf aM ?_ [] [12]
         exact⟨q+1,putM ((q:Int)+1) ⟨st-take+give,en-1⟩ m,s2,S2.set im2 (.map (eIL (putM ((q:Int)+1) ⟨st-take+give,en-1⟩ m))),⟨by omega,by omega,hI im2 ar _ _ _ ai,w6 .., fun j o h1 h2=>by rw[w7 _ _ (nim j o h1)];exact aw j o h1 h2,hR,L0 (n:=q+1) aK (by simp only;omega) (by omega)⟩,td1,wkR⟩
       ·rw [if_neg (bh.2 (by omega)),if_neg aL,if_neg aV,if_neg aM] at hR
        by_cases aU:x.op=18
        ·rw[if_pos aU]at hR
         have bL:(q:Int)<x.a/\x.a<c.ins.length:=by unfold fitsQ at aI;rw[aU]at aI;simpa using aI
         obtain⟨xa,aP⟩:∃xa:Nat,x.a=(xa:Int):=⟨x.a.toNat,by omega⟩
         refine gf (gi ak (gi aE (gi aD (gi ag aU)))) ?_ [] [12]
         refine yldW (hy q ⟨st,en⟩ S1 s1 hq ay) (fun d S2 hr=>?_) (fun d S2 hr=>?_)
         rotate_left
         ·obtain⟨hn,rfl,hb⟩:=hr.pan
          rw[hn]at hR
          have ap:BN p c ⟨(q0:Int),env,next⟩ step s0=none:=by first|exact hR|(rw[hR];split<;>rfl)
          exact finP (U':=S2) (by rw[ap];exact⟨rfl,hb⟩)
         obtain⟨s2,ax,rfl,ai,ac⟩:=hr.ret
         rw[ax]at hR
         have hm2:=ac im2 _ ak (ht im2 ar)
         have aw:∀j o,O j=some o->¬touch j->S2 j=some o:=fun j o h1 h2=>ac j o (aq j o h1 h2) h2
         refine gf (gi ag aU) ?_ [] [12]
         refine newV (fun i12 aa=>?_)
         have n12:im2≠i12:=fun e=>by rw[<-e,hm2]at aa;cases aa
         refine gf (gi ag aU) ?_ [] [12]
         refine A7 (CQ p c im im2 (m) (x.a) ⟨st-take+give,en⟩ _ hc (by rw[w7 _ _ n12];exact hm2)) (fun d S3 hr=>?_) (fun d S3 hr=>?_)
         rotate_left
         ·rcases hr.met with⟨hn,ah,ae⟩|⟨_,h5,_⟩
          ·cases ah
           subst ae
           rw[hn]at hR
           exact finP (U':=S2) (by rw[hR];exact⟨rfl,hB _ _ ai⟩)
          ·cases h5
         rcases hr.met with⟨_,h5,_⟩|⟨hn,ah,ae,aS,aR⟩
         ·cases h5
         cases ah
         subst ae
         rw[hn]at hR
         simp only at hR
         have aC:=aj i12 (.map (eIL (putM x.a ⟨st-take+give,en⟩ m))) (.cells [dI (st-take+give),dI en]) n12 rfl S2 aa
         refine gf aU ?_ [] [12]
         exact⟨q+1,putM x.a ⟨st-take+give,en⟩ m,s2,S2.set im2 (.map (eIL (putM x.a ⟨st-take+give,en⟩ m))),⟨by omega,by omega,hI im2 ar _ _ _ ai,w6 .., fun j o h1 h2=>by rw[w7 _ _ (nim j o h1)];exact aw j o h1 h2,hR,L0 (n:=xa) aK (by simp only;omega) aP⟩,td1,wkR⟩
        ·rw [if_neg aU] at hR
         by_cases aO:x.op=17
         ·rw[if_pos aO]at hR
          have bL:(q:Int)<x.a/\x.a<c.ins.length:=by unfold fitsQ at aI;rw[aO]at aI;simpa using aI
          obtain⟨xa,aP⟩:∃xa:Nat,x.a=(xa:Int):=⟨x.a.toNat,by omega⟩
          refine gf (gi ak (gi aE (gi aD (gi ag aO)))) ?_ [] [12]
          refine yldW (hy q ⟨st,en⟩ S1 s1 hq ay) (fun d S2 hr=>?_) (fun d S2 hr=>?_)
          rotate_left
          ·obtain⟨hn,rfl,hb⟩:=hr.pan
           rw[hn]at hR
           have ap:BN p c ⟨(q0:Int),env,next⟩ step s0=none:=by first|exact hR|(rw[hR];split<;>rfl)
           exact finP (U':=S2) (by rw[ap];exact⟨rfl,hb⟩)
          obtain⟨s2,ax,rfl,ai,ac⟩:=hr.ret
          rw[ax]at hR
          have hm2:=ac im2 _ ak (ht im2 ar)
          have aw:∀j o,O j=some o->¬touch j->S2 j=some o:=fun j o h1 h2=>ac j o (aq j o h1 h2) h2
          refine gf (gi ag aO) ?_ [] [12]
          refine newV (fun i12 aa=>?_)
          have n12:im2≠i12:=fun e=>by rw[<-e,hm2]at aa;cases aa
          refine gf (gi ag aO) ?_ [] [12]
          refine A7 (CQ p c im im2 (m) (x.a) ⟨st-take+give,en⟩ _ hc (by rw[w7 _ _ n12];exact hm2)) (fun d S3 hr=>?_) (fun d S3 hr=>?_)
          rotate_left
          ·rcases hr.met with⟨hn,ah,ae⟩|⟨_,h5,_⟩
           ·cases ah
            subst ae
            rw[hn]at hR
            exact finP (U':=S2) (by rw[hR];exact⟨rfl,hB _ _ ai⟩)
           ·cases h5
          rcases hr.met with⟨_,h5,_⟩|⟨hn,ah,ae,aS,aR⟩
          ·cases h5
          cases ah
          subst ae
          rw[hn]at hR
          simp only at hR
          have bC:=aj i12 (.map (eIL (putM x.a ⟨st-take+give,en⟩ m))) (.cells [dI (st-take+give),dI en]) n12 rfl S2 aa
          have cd:=hI im2 ar S2 s2 (.map (eIL (putM x.a ⟨st-take+give,en⟩ m))) ai
          refine gf aO ?_ [] [12]
          refine A7 (CQ p c im im2 (putM x.a ⟨st-take+give,en⟩ m) ((q:Int)+1) ⟨st-take+give,en⟩ _ hc (w6 ..)) (fun d S3 hr=>?_) (fun d S3 hr=>?_)
          rotate_left
          ·rcases hr.met with⟨hn,ah,ae⟩|⟨_,h5,_⟩
           ·cases ah
            subst ae
            rw[hn]at hR
            exact finP (U':=S2.set im2 (.map (eIL (putM x.a ⟨st-take+give,en⟩ m)))) (by rw[hR];exact⟨rfl,hB _ _ cd⟩)
           ·cases h5
          rcases hr.met with⟨_,h5,_⟩|⟨hn,ah,ae,aS,aR⟩
          ·cases h5
          cases ah
          subst ae
          rw[hn]at hR
          simp only at hR
          rw[w8]
          have aC:=aj i12 (.map (eIL (putM ((q:Int)+1) ⟨st-take+give,en⟩ (putM x.a ⟨st-take+give,en⟩ m)))) (.cells [dI (st-take+give),dI en]) n12 rfl S2 aa
          refine gf aO ?_ [] [12]
          exact⟨q+1,putM ((q:Int)+1) ⟨st-take+give,en⟩ (putM x.a ⟨st-take+give,en⟩ m),s2,S2.set im2 (.map (eIL (putM ((q:Int)+1) ⟨st-take+give,en⟩ (putM x.a ⟨st-take+give,en⟩ m)))),⟨by omega,by omega,hI im2 ar _ _ _ ai,w6 .., fun j o h1 h2=>by rw[w7 _ _ (nim j o h1)];exact aw j o h1 h2,hR,bd_put2 (n:=q+1) (k:=xa) aK (by simp only;omega) (by omega) aP⟩,td1,wkR⟩
         ·rw [if_neg aO] at hR
          by_cases h3:x.op=3
          ·have e2':=e2 h3
           refine gf (gi ak (gi aE (gi aD (gi ag h3)))) ?_ [] [12]
           refine yldW (hy q ⟨st,en⟩ S1 s1 hq ay) (fun d S2 hr=>?_) (fun d S2 hr=>?_)
           rotate_left
           ·obtain⟨hn,rfl,hb⟩:=hr.pan
            rw[hn]at hR
            have ap:BN p c ⟨(q0:Int),env,next⟩ step s0=none:=by first|exact hR|(rw[hR];split<;>rfl)
            exact finP (U':=S2) (by rw[ap];exact⟨rfl,hb⟩)
           obtain⟨s2,ax,rfl,ai,ac⟩:=hr.ret
           rw[ax]at hR
           have hm2:=ac im2 _ ak (ht im2 ar)
           have aw:∀j o,O j=some o->¬touch j->S2 j=some o:=fun j o h1 h2=>ac j o (aq j o h1 h2) h2
           refine gf (gi ag h3) ?_ [] [12]
           refine newV (fun i12 aa=>?_)
           have n12:im2≠i12:=fun e=>by rw[<-e,hm2]at aa;cases aa
           refine gf (gi ag h3) ?_ [] [12]
           refine A7 (CQ p c im im2 (m) ((q:Int)+1) ⟨st-take+give,en⟩ _ hc (by rw[w7 _ _ n12];exact hm2)) (fun d S3 hr=>?_) (fun d S3 hr=>?_)
           rotate_left
           ·rcases hr.met with⟨hn,ah,ae⟩|⟨_,h5,_⟩
            ·cases ah
             subst ae
             rw[hn]at hR
             exact finP (U':=S2) (by rw[hR];exact⟨rfl,hB _ _ ai⟩)
            ·cases h5
           rcases hr.met with⟨_,h5,_⟩|⟨hn,ah,ae,aS,aR⟩
           ·cases h5
           cases ah
           subst ae
           rw[hn]at hR
           simp only at hR
           have aC:=aj i12 (.map (eIL (putM ((q:Int)+1) ⟨st-take+give,en⟩ m))) (.cells [dI (st-take+give),dI (en)]) n12 rfl S2 aa
           refine gf h3 ?_ [] [12]
           exact⟨q+1,putM ((q:Int)+1) ⟨st-take+give,en⟩ m,s2,S2.set im2 (.map (eIL (putM ((q:Int)+1) ⟨st-take+give,en⟩ m))),⟨by omega,by omega,hI im2 ar _ _ _ ai,w6 .., fun j o h1 h2=>by rw[w7 _ _ (nim j o h1)];exact aw j o h1 h2,hR,L0 (n:=q+1) aK (by simp only;omega) (by omega)⟩,td1,wkR⟩
          ·by_cases be:x.op=20
           ·have e3':=e3 be
            refine gf (gi ak (gi aE (gi aD (gi ag (gi be e3'))))) ?_ [] [12]
            refine yldW (hy q ⟨st,en⟩ S1 s1 hq ay) (fun d S2 hr=>?_) (fun d S2 hr=>?_)
            rotate_left
            ·obtain⟨hn,rfl,hb⟩:=hr.pan
             rw[hn]at hR
             have ap:BN p c ⟨(q0:Int),env,next⟩ step s0=none:=by first|exact hR|(rw[hR];split<;>rfl)
             exact finP (U':=S2) (by rw[ap];exact⟨rfl,hb⟩)
            obtain⟨s2,ax,rfl,ai,ac⟩:=hr.ret
            rw[ax]at hR
            have hm2:=ac im2 _ ak (ht im2 ar)
            have aw:∀j o,O j=some o->¬touch j->S2 j=some o:=fun j o h1 h2=>ac j o (aq j o h1 h2) h2
            refine gf (gi ag (gi be e3')) ?_ [] [12]
            refine newV (fun i12 aa=>?_)
            have n12:im2≠i12:=fun e=>by rw[<-e,hm2]at aa;cases aa
            refine gf (gi ag (gi be e3')) ?_ [] [12]
            refine A7 (CQ p c im im2 (m) ((q:Int)+1) ⟨st-take+give,en⟩ _ hc (by rw[w7 _ _ n12];exact hm2)) (fun d S3 hr=>?_) (fun d S3 hr=>?_)
            rotate_left
            ·rcases hr.met with⟨hn,ah,ae⟩|⟨_,h5,_⟩
             ·cases ah
              subst ae
              rw[hn]at hR
              exact finP (U':=S2) (by rw[hR];exact⟨rfl,hB _ _ ai⟩)
             ·cases h5
            rcases hr.met with⟨_,h5,_⟩|⟨hn,ah,ae,aS,aR⟩
            ·cases h5
            cases ah
            subst ae
            rw[hn]at hR
            simp only at hR
            have aC:=aj i12 (.map (eIL (putM ((q:Int)+1) ⟨st-take+give,en⟩ m))) (.cells [dI (st-take+give),dI (en)]) n12 rfl S2 aa
            refine gf (gi be e3') ?_ [] [12]
            exact⟨q+1,putM ((q:Int)+1) ⟨st-take+give,en⟩ m,s2,S2.set im2 (.map (eIL (putM ((q:Int)+1) ⟨st-take+give,en⟩ m))),⟨by omega,by omega,hI im2 ar _ _ _ ai,w6 .., fun j o h1 h2=>by rw[w7 _ _ (nim j o h1)];exact aw j o h1 h2,hR,L0 (n:=q+1) aK (by simp only;omega) (by omega)⟩,td1,wkR⟩
           ·skip
            refine gf (gi ak (gi aE (gi aD ag))) ?_ [] [12]
            refine yldW (hy q ⟨st,en⟩ S1 s1 hq ay) (fun d S2 hr=>?_) (fun d S2 hr=>?_)
            rotate_left
            ·obtain⟨hn,rfl,hb⟩:=hr.pan
             rw[hn]at hR
             have ap:BN p c ⟨(q0:Int),env,next⟩ step s0=none:=by first|exact hR|(rw[hR];split<;>rfl)
             exact finP (U':=S2) (by rw[ap];exact⟨rfl,hb⟩)
            obtain⟨s2,ax,rfl,ai,ac⟩:=hr.ret
            rw[ax]at hR
            have hm2:=ac im2 _ ak (ht im2 ar)
            have aw:∀j o,O j=some o->¬touch j->S2 j=some o:=fun j o h1 h2=>ac j o (aq j o h1 h2) h2
            refine gf ag ?_ [] [12]
            refine newV (fun i12 aa=>?_)
            have n12:im2≠i12:=fun e=>by rw[<-e,hm2]at aa;cases aa
            refine gf ag ?_ [] [12]
            refine A7 (CQ p c im im2 (m) ((q:Int)+1) ⟨st-take+give,en⟩ _ hc (by rw[w7 _ _ n12];exact hm2)) (fun d S3 hr=>?_) (fun d S3 hr=>?_)
            rotate_left
            ·rcases hr.met with⟨hn,ah,ae⟩|⟨_,h5,_⟩
             ·cases ah
              subst ae
              rw[hn]at hR
              exact finP (U':=S2) (by rw[hR];exact⟨rfl,hB _ _ ai⟩)
             ·cases h5
            rcases hr.met with⟨_,h5,_⟩|⟨hn,ah,ae,aS,aR⟩
            ·cases h5
            cases ah
            subst ae
            rw[hn]at hR
            simp only at hR
            have aC:=aj i12 (.map (eIL (putM ((q:Int)+1) ⟨st-take+give,en⟩ m))) (.cells [dI (st-take+give),dI (en)]) n12 rfl S2 aa
            refine gz ?_ [] [12]
            exact⟨q+1,putM ((q:Int)+1) ⟨st-take+give,en⟩ m,s2,S2.set im2 (.map (eIL (putM ((q:Int)+1) ⟨st-take+give,en⟩ m))),⟨by omega,by omega,hI im2 ar _ _ _ ai,w6 .., fun j o h1 h2=>by rw[w7 _ _ (nim j o h1)];exact aw j o h1 h2,hR,L0 (n:=q+1) aK (by simp only;omega) (by omega)⟩,td1,wkR⟩
  ·
   have e0:c.ins.length-q=0:=by omega
   rw[e0,Gn]at hR
   refine gz ?_ [] [12]
   exact EW (U':=S1) (by rw[hR];exact⟨rfl,ay,aq⟩)
 ·rcases hr.met with⟨hn,ah,ae⟩|⟨_,h5,_⟩
  ·cases ah
   subst ae
   have ap:BN p c ⟨pos,env,next⟩ step s0=none:=by
    unfold BN
    refine if_pos ?_
    unfold BP at hn
    split at hn
    ·rename_i h
     rcases h with h|h|h
     ·exact .inl h
     ·exact .inr h
     ·exact absurd rfl h.1
    ·cases hn
   exact finP (U':=O) (by rw[ap];exact⟨rfl,hB _ _ hG⟩) ((Sub.refl _).set ar)
  ·cases h5
end Go.DL
namespace Go.DL
open Go.Proofs.Tryz
open Go Go.Proofs
set_option maxHeartbeats 8000000
def I3:List (Int×Int):=[(1,1),(2,2),(3,3),(4,5),(5,19),(6,4),(7,8),(8,6),(12,9),(13,10),(14,11),(15,12),(16,13),(17,7),(18,20)]
def pK:List D:=(eIN I3).map (·.1)
def pV:List D:=(eIN I3).map (·.2)
theorem pKV:pK.zip pV=eIN I3:=rfl
@[simp] theorem hitIN85(k:Int)(m:List (Int×Int)):hitD tab 85 false (CE (.int .i64) (.int .i64 k) (eIN m) 0)=some (.int .i64 (getM 0 k m)):=Rq keyI dI rfl k m
theorem Pn{o:Int}(h:1<=o/\o<=18)(h9:o≠9)(aW:o≠10)(aX:o≠11):getM 0 o I3=BZ o:=by
 have:o=1\/o=2\/o=3\/o=4\/o=5\/o=6\/o=7\/o=8\/o=12\/o=13\/o=14\/o=15\/o=16\/o=17\/o=18:=by omega
 rcases this with e|e|e|e|e|e|e|e|e|e|e|e|e|e|e<;>rw[e]<;>rfl
theorem SK(O:Sig):DCall prog 208 [] O (rS (.cmap pK pV) O):=by
 refine en func208 ntmps208 ?_
 refine gz ?_
 refine newIN (fun im ar=>?_)
 repeat ((fail_if_success (first|(refine cfr 1 (i:=im) (m:=eIN I3) (w6 ..) ?_)|fail));(refine goX1 trivial ?_))
 refine cfr 1 (i:=im) (m:=eIN I3) (w6 ..) ?_
 rw[show(eIN I3).map (·.1)=pK from rfl,show(eIN I3).map (·.2)=pV from rfl]
 rw[Sig.set_del _ _ ar]
 refine gz ?_
 exact fe1 trivial
@[reducible,instance] def a208:=fun O=>ah0 (@SK O)
theorem O8(l r:List CIns)(op a b:Int):setA (l++⟨op,a⟩::r) l.length b=l++⟨op,b⟩::r:=by
 unfold setA
 rw[List.take_left,List.getElem?_append_right (Nat.le_refl _),Nat.sub_self,List.drop_append]
 simp
theorem KK(p:BProg)(inM:Bool)(hp:p.wt<=1073741824): ∀(k:Nat) (n:Int) (size:Nat),trE p inM k n size->∀(ib:Nat) (s m:D) (st:MR) (ins:List CIns) (O:Sig),ins.length+cL p k n<=1000000->BlkS ib s m st ins O->
  DCall prog 131 [.ptr ib 0,.agg (Ac p),dI n] O fun x U'=>x=.ret (.tup []) /\ ∃st',BlkS ib s m st' (ins++cN p k n ins.length) U'/\BK ib O st U' st':=by
 obtain⟨p1,p2,p3,p4,p5,p6,p7⟩:=p.wt_le
 intro k
 induction k with
 |zero=>intro n size h;exact h.elim
 | succ k ih =>
  intro n size h ib s m st ins O hq hB
  have bD:=Ql h
  have aT:=fun m hm=>DG h (m:=m) hm
  obtain⟨⟨h0,h1⟩,bU,bS,bR,hk⟩:=h
  obtain⟨i,rfl⟩:∃i:Nat,n=(i:Int):=⟨n.toNat,by omega⟩
  have hi:i<p.nodes.length:=by omega
  have bq:A1 p i=p.nodes[i]:=by unfold A1;rw[show((i:Int)).toNat=i by omega,List.getElem?_eq_getElem hi];rfl
  have bM:=p7 i hi
  have hN:=EC p k
  rw[cL,bq]at hq
  rw[cN,bq]
  rw[bq]at bD aT bU bS bR hk
  generalize hx:p.nodes[i]=x at*
  have cm:x.kids.length<=1073741824:=by unfold BNode.wt at bM;omega
  have bV:∀c∈x.kids, ∃z:Nat,trE p inM k c z:=fun c hc=>by
   obtain⟨j,hj,rfl⟩:=List.getElem_of_mem hc
   have:=hk j hj
   split at this
   ·exact⟨size+1,this⟩
   ·exact⟨size,this⟩
  have hS:∀c∈x.kids, ∀(st:MR) (l:List CIns) (O:Sig),l.length+cL p k c<=1000000->BlkS ib s m st l O->DCall prog 131 [.ptr ib 0,.agg (Ac p),dI c] O fun x U'=>x=.ret (.tup []) /\ ∃st',BlkS ib s m st' (l++cN p k c l.length) U'/\BK ib O st U' st':=fun c hc st l O hl hB=>by
   obtain⟨z,hz⟩:=bV c hc;exact ih c z hz ib s m st l O hl hB
  by_cases h9:x.op=9
  ·rw[if_pos h9]at hq⊢
   obtain⟨a,b,au⟩:∃a b,x.kids=[a,b]:=by
    have hl:x.kids.length=2:=aT 2 (by rw[h9];rfl)
    match hx:x.kids,hl with
    |[a,b],_=>exact⟨a,b,rfl⟩
   have bd:kidN x 0=a:=by unfold kidN;rw[au];rfl
   have bc:kidN x 1=b:=by unfold kidN;rw[au];rfl
   rw[bd,bc]at hq⊢
   have e1:(ins++cN p k a ins.length).length=ins.length+cL p k a:=by rw[List.length_append,hN]
   have e2:(ins++cN p k a ins.length++[(⟨14,0⟩:CIns)]).length=ins.length+cL p k a+1:=by rw[List.length_append,e1];rfl
   refine en func131 ntmps131 ?_
   refine gf (gi hx (gi h9 au)) ?_ o131
   refine A7 (hS a (by rw[au];simp) st ins O (by omega) hB) (fun d S1 hr=>?_) (fun d S1 hr=>by cases hr.1)
   obtain⟨q1,st1,aF,aq⟩:=hr
   cases q1
   refine gz ?_ o131
   refine A7 (Dc 14 0 (by omega) aF) (fun d S2 hr=>?_) (fun d S2 hr=>by cases hr.1)
   obtain⟨q2,st2,aB,ac⟩:=hr
   cases q2
   refine gf au ?_ o131
   refine A7 (hS b (by rw[au];simp) st2 _ S2 (by omega) aB) (fun d S3 hr=>?_) (fun d S3 hr=>by cases hr.1)
   obtain⟨q3,st3,aN,aw⟩:=hr
   cases q3
   rw[e2]at aN
   have e3:(ins++cN p k a ins.length++[(⟨14,0⟩:CIns)]++cN p k b (ins.length+cL p k a+1)).length=ins.length+cL p k a+1+cL p k b:=by rw[List.length_append,e2,hN]
   refine gz ?_ o131
   refine A7 (Dc 15 0 (by omega) aN) (fun d S4 hr=>?_) (fun d S4 hr=>by cases hr.1)
   obtain⟨q4,st4,bx,bw⟩:=hr
   cases q4
   refine gz ?_ o131
   refine EW (U':=S4) ⟨rfl,st4,?_,((aq.trans ac).trans aw).trans bw⟩
   simpa[List.append_assoc] using bx
  ·rw [if_neg h9] at hq ⊢
   by_cases aX:x.op=11
   ·rw[if_pos aX]at hq⊢
    obtain⟨a,b,au⟩:∃a b,x.kids=[a,b]:=by
     have hl:x.kids.length=2:=aT 2 (by rw[aX];rfl)
     match hx:x.kids,hl with
     |[a,b],_=>exact⟨a,b,rfl⟩
    have bd:kidN x 0=a:=by unfold kidN;rw[au];rfl
    have bc:kidN x 1=b:=by unfold kidN;rw[au];rfl
    rw[bd,bc]at hq⊢
    have e1:(ins++cN p k a ins.length).length=ins.length+cL p k a:=by rw[List.length_append,hN]
    have e2:(ins++cN p k a ins.length++[(⟨16,0⟩:CIns)]).length=ins.length+cL p k a+1:=by rw[List.length_append,e1];rfl
    refine en func131 ntmps131 ?_
    refine gf (gi hx (gi aX au)) ?_ o131
    refine A7 (hS a (by rw[au];simp) st ins O (by omega) hB) (fun d S1 hr=>?_) (fun d S1 hr=>by cases hr.1)
    obtain⟨q1,st1,aF,aq⟩:=hr
    cases q1
    refine gz ?_ o131
    refine A7 (Dc 16 0 (by omega) aF) (fun d S2 hr=>?_) (fun d S2 hr=>by cases hr.1)
    obtain⟨q2,st2,aB,ac⟩:=hr
    cases q2
    refine gf au ?_ o131
    refine A7 (hS b (by rw[au];simp) st2 _ S2 (by omega) aB) (fun d S3 hr=>?_) (fun d S3 hr=>by cases hr.1)
    obtain⟨q3,st3,aN,aw⟩:=hr
    cases q3
    rw[e2]at aN
    refine gz ?_ o131
    refine EW (U':=S3) ⟨rfl,st3,?_,(aq.trans ac).trans aw⟩
    simpa[List.append_assoc] using aN
   ·rw [if_neg aX] at hq ⊢
    by_cases aW:x.op=10
    ·rw[if_pos aW]at hq⊢
     obtain⟨a,b,c,au⟩:∃a b c,x.kids=[a,b,c]:=by
      have hl:x.kids.length=3:=aT 3 (by rw[aW];rfl)
      match hx:x.kids,hl with
      |[a,b,c],_=>exact⟨a,b,c,rfl⟩
     have bd:kidN x 0=a:=by unfold kidN;rw[au];rfl
     have bc:kidN x 1=b:=by unfold kidN;rw[au];rfl
     have b7:kidN x 2=c:=by unfold kidN;rw[au];rfl
     rw[bd,bc,b7]at hq⊢
     have e1:(ins++cN p k a ins.length).length=ins.length+cL p k a:=by rw[List.length_append,hN]
     have e2:(ins++cN p k a ins.length++[(⟨17,0⟩:CIns)]).length=ins.length+cL p k a+1:=by rw[List.length_append,e1];rfl
     refine en func131 ntmps131 ?_
     refine gf (gi hx (gi aW au)) ?_ o131
     refine A7 (hS a (by rw[au];simp) st ins O (by omega) hB) (fun d S1 hr=>?_) (fun d S1 hr=>by cases hr.1)
     obtain⟨q1,st1,aF,aq⟩:=hr
     cases q1
     refine gz ?_ o131
     refine A7 (MF 17 (by omega) aF) (fun d S2 hr=>?_) (fun d S2 hr=>by cases hr.1)
     obtain⟨q2,st2,aB,ac⟩:=hr
     obtain⟨k1,bG⟩:∃k1,k1=(ins++cN p k a ins.length).length:=⟨_,rfl⟩
     rw[<-bG]at q2
     cases q2
     refine gf au ?_ o131
     refine A7 (hS b (by rw[au];simp) st2 _ S2 (by omega) aB) (fun d S3 hr=>?_) (fun d S3 hr=>by cases hr.1)
     obtain⟨q3,st3,aN,aw⟩:=hr
     cases q3
     rw[e2]at aN
     have e3:(ins++cN p k a ins.length++[(⟨17,0⟩:CIns)]++cN p k b (ins.length+cL p k a+1)).length=ins.length+cL p k a+1+cL p k b:=by rw[List.length_append,e2,hN]
     refine gz ?_ o131
     refine A7 (MF 18 (by omega) aN) (fun d S4 hr=>?_) (fun d S4 hr=>by cases hr.1)
     obtain⟨q4,st4,bx,bw⟩:=hr
     obtain⟨k2,bF⟩:∃k2,k2=(ins++cN p k a ins.length++[(⟨17,0⟩:CIns)]++cN p k b (ins.length+cL p k a+1)).length:=⟨_,rfl⟩
     rw[<-bF]at q4
     cases q4
     have e4:(ins++cN p k a ins.length++[(⟨17,0⟩:CIns)]++cN p k b (ins.length+cL p k a+1)++[(⟨18,0⟩:CIns)]).length=ins.length+cL p k a+1+cL p k b+1:=by rw[List.length_append,e3];rfl
     refine gz ?_ o131
     refine A7 (My k1 (by omega) (by omega) bx) (fun d S5 hr=>?_) (fun d S5 hr=>by cases hr.1)
     obtain⟨q5,st5,bK,cb⟩:=hr
     cases q5
     have ae:ins++cN p k a ins.length++[(⟨17,0⟩:CIns)]++cN p k b (ins.length+cL p k a+1)++[(⟨18,0⟩:CIns)]=(ins++cN p k a ins.length)++⟨17,0⟩::(cN p k b (ins.length+cL p k a+1)++[(⟨18,0⟩:CIns)]):=by simp
     rw[e4,ae,bG,O8]at bK
     have e5:(ins++cN p k a ins.length++(⟨17,((ins.length+cL p k a+1+cL p k b+1:Nat):Int)⟩:CIns)::(cN p k b (ins.length+cL p k a+1)++[(⟨18,0⟩:CIns)])).length=ins.length+cL p k a+1+cL p k b+1:=by rw[List.length_append,e1,List.length_cons,List.length_append,hN];simp only[List.length_cons,List.length_nil];omega
     refine gf au ?_ o131
     refine A7 (hS c (by rw[au];simp) st5 _ S5 (by omega) bK) (fun d S6 hr=>?_) (fun d S6 hr=>by cases hr.1)
     obtain⟨q6,st6,bJ,ca⟩:=hr
     cases q6
     rw[e5]at bJ
     have e6:(ins++cN p k a ins.length++(⟨17,((ins.length+cL p k a+1+cL p k b+1:Nat):Int)⟩:CIns)::(cN p k b (ins.length+cL p k a+1)++[(⟨18,0⟩:CIns)])++cN p k c (ins.length+cL p k a+1+cL p k b+1)).length=ins.length+cL p k a+1+cL p k b+1+cL p k c:=by rw[List.length_append,e5,hN]
     refine gz ?_ o131
     refine A7 (My k2 (by omega) (by omega) bJ) (fun d S7 hr=>?_) (fun d S7 hr=>by cases hr.1)
     obtain⟨q7,st7,bI,b9⟩:=hr
     cases q7
     have bN:(ins++cN p k a ins.length++(⟨17,((ins.length+cL p k a+1+cL p k b+1:Nat):Int)⟩:CIns)::(cN p k b (ins.length+cL p k a+1)++[(⟨18,0⟩:CIns)])++cN p k c (ins.length+cL p k a+1+cL p k b+1)) =
       (ins++cN p k a ins.length++(⟨17,((ins.length+cL p k a+1+cL p k b+1:Nat):Int)⟩:CIns)::cN p k b (ins.length+cL p k a+1))++⟨18,0⟩::cN p k c (ins.length+cL p k a+1+cL p k b+1):=by simp
     have br:k2=(ins++cN p k a ins.length++(⟨17,((ins.length+cL p k a+1+cL p k b+1:Nat):Int)⟩:CIns)::cN p k b (ins.length+cL p k a+1)).length:=by rw[bF];simp
     rw[e6,bN,br,O8]at bI
     refine gz ?_ o131
     refine EW (U':=S7) ⟨rfl,st7,?_,(((((aq.trans ac).trans aw).trans bw).trans cb).trans ca).trans b9⟩
     simpa[List.append_assoc] using bI
    ·rw[if_neg aW]at hq⊢
     have bP:=Pn bD h9 aW aX
     have cq:(Cr (cN p k) x.kids ins.length).length=wtL (cL p k) x.kids:=FO hN _ _
     refine en func131 ntmps131 ?_
     refine gf hx ?_ o131
     refine Pq [0,4,6,19,20,30,31,32,33,34,35,36,37] (fun (j:Nat) (out:List CIns) (st1:MR) (S1:Sig)=>j<=x.kids.length/\out++Cr (cN p k) (x.kids.drop j) (ins.length+out.length)=Cr (cN p k) x.kids ins.length/\BlkS ib s m st1 (ins++out) S1/\BK ib O st S1 st1) (fun j _ _ _=>[(21,dI j)]) (fun _ _ _ S1=>S1) (fun j _ _ _=>x.kids.length-j) (0) ([]) (st) (O) (by exact⟨by omega,rfl,by rw[List.append_nil];exact hB,BK.refl _ _ _⟩) (fun j out st1 S1 hI=>?_)
     obtain⟨hj,hR,aF,aq⟩:=hI
     by_cases bt:j<x.kids.length
     ·rw[A4 bt,Cr]at hR
      have bT:=congrArg List.length hR
      simp only[List.length_append,hN]at bT
      refine gf hx ?_ o131
      refine A7 (hS x.kids[j] (List.getElem_mem bt) st1 _ S1 (by rw[List.length_append];omega) aF) (fun d S2 hr=>?_) (fun d S2 hr=>by cases hr.1)
      obtain⟨q2,st2,aB,ac⟩:=hr
      cases q2
      rw[List.append_assoc,List.length_append]at aB
      refine gz ?_ o131
      exact⟨j+1,out++cN p k x.kids[j] (ins.length+out.length),st2,S2,⟨by omega,by rw[List.append_assoc,List.length_append,<-Nat.add_assoc];exact hR,aB,aq.trans ac⟩,td1,wkR⟩
     ·rw[A9 bt,Cr,List.append_nil]at hR
      subst hR
      refine gf (gi hx (gi pKV bP)) ?_ o131
      refine A7 (Dc (BZ x.op) x.n (by rw[List.length_append];omega) aF) (fun d S2 hr=>?_) (fun d S2 hr=>by cases hr.1)
      obtain⟨q2,st2,aB,ac⟩:=hr
      cases q2
      refine gz ?_ o131
      refine EW (U':=S2) ⟨rfl,st2,?_,aq.trans ac⟩
      simpa[List.append_assoc] using aB
theorem Mr(p:BProg)(inM:Bool)(hp:p.wt<=1073741824)(k:Nat)(n:Int)(size:Nat)(h:trE p inM k n size)(ib:Nat)(s m:D)(st:MR)(ins:List CIns)(O:Sig)(hq:ins.length+cL p k n<=1000000)(hB:BlkS ib s m st ins O):
  DCall prog 60 [.ptr ib 0,.agg (Ac p),dI n] O fun x U'=>x=.ret (dI ins.length) /\ ∃st',BlkS ib s m st' (ins++bodyC p k n ins.length) U'/\BK ib O st U' st':=by
 have hN:=EC p k
 obtain⟨q1,q2,q3⟩:=hB
 have hB:BlkS ib s m st ins O:=⟨q1,q2,q3⟩
 have fin:∀(S2:Sig) (st2:MR),BlkS ib s m st2 (ins++cN p k n ins.length++[(⟨21,0⟩:CIns)]) S2->BlkS ib s m st2 (ins++bodyC p k n ins.length) S2:=fun S2 st2 h=>by unfold bodyC;simpa[List.append_assoc] using h
 refine en func60 ntmps60 ?_
 cases bm:st with
 |none=>
  subst bm
  have h0:ins=[]:=by have:ins.map cIns=[]:=q2;simpa using this
  subst h0
  simp only[mD]at q1
  refine gf q1 ?_
  refine A7 (KK p inM hp k n size h ib s m none [] O hq hB) (fun d S1 hr=>?_) (fun d S1 hr=>by cases hr.1)
  obtain⟨e1,st1,aF,aq⟩:=hr
  cases e1
  refine gz ?_
  refine A7 (Dc 21 0 (by rw[List.length_append,hN];omega) aF) (fun d S2 hr=>?_) (fun d S2 hr=>by cases hr.1)
  obtain⟨e2,st2,aB,ac⟩:=hr
  cases e2
  refine gz ?_
  exact fin1 (U':=S2) ⟨rfl,st2,fin _ _ aB,aq.trans ac⟩
 |some x=>
  obtain⟨rr,rc,rest⟩:=x
  subst bm
  simp only[mD]at q1
  refine gf q1 ?_
  refine A7 (KK p inM hp k n size h ib s m _ ins O hq hB) (fun d S1 hr=>?_) (fun d S1 hr=>by cases hr.1)
  obtain⟨e1,st1,aF,aq⟩:=hr
  cases e1
  refine gz ?_
  refine A7 (Dc 21 0 (by rw[List.length_append,hN];omega) aF) (fun d S2 hr=>?_) (fun d S2 hr=>by cases hr.1)
  obtain⟨e2,st2,aB,ac⟩:=hr
  cases e2
  refine gz ?_
  exact fin1 (U':=S2) ⟨rfl,st2,fin _ _ aB,aq.trans ac⟩
end Go.DL
