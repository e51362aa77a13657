/- A part of the proof. -/
import Derived.Test.YtlfimpogphmbdaaGreatM19
import Derived.Test.YtlfimpogphmbdaaGreatM11
import Derived.Test.YtlfimpogphmbdaaGreatM15
import Derived.Test.YtlfimpogphmbdaaGreatM14
import Derived.Test.YtlfimpogphmbdaaGreatM17
set_option linter.all false
namespace Go.DL
open Go.Proofs.Tryz
open Go Go.Proofs
def isLD:DObj->Bool
 |.loop .. |.defs=>true
 |_=>false
theorem Iu{LO:DObj}{ps:Array Tmp}{asg body:Code}{n:Nat}{Sl:Fr}{did:Nat}(h:LO=.loop .ready none ps asg body n Sl did):isLD LO=true/\isLD (BG LO)=true:=by subst h;exact⟨rfl,rfl⟩
def MonoG{S:Type}(G:Sig->S->Prop):Prop:= ∀V S' s,G V s->(∀j x,V j=some x->isLD x=false->S' j=some x)->G S' s
def Indep{S:Type}(G:Sig->S->Prop)(S0:Sig):Prop:= ∀l,S0 l=none->∀S1 S2 s,G S1 s->(∃x,S1 l=some x/\isLD x=true)->(∀j,j≠l->S2 j=S1 j)->G S2 s
def O6{S:Type}(G:Sig->S->Prop):Prop:= ∀V s a o,G V s->V a=none->G (V.set a o) s
theorem MonoG.indep{S:Type}{G:Sig->S->Prop}(h:MonoG G)(S0:Sig):Indep G S0:=fun l _ S1 S2 s hG ⟨x,hx,hl⟩ hj=>h _ _ _ hG fun j y hy hd=>by
 rw[hj j fun e=>by rw[e,hx]at hy;cases hy;rw[hl]at hd;cases hd];exact hy
theorem MonoG.fresh{S:Type}{G:Sig->S->Prop}(h:MonoG G):O6 G:=fun V s a o hG ha=>h _ _ _ hG fun j y hy _=>by
 rw[w8 _ _ fun e=>by rw[e,ha]at hy;cases hy];exact hy
theorem Indep.older{S:Type}{G:Sig->S->Prop}{S0 S1:Sig}(h:Indep G S0)(hs:∀j,S1 j=none->S0 j=none):Indep G S1:=fun l hl=>h l (hs l hl)
def GoodG{S:Type}(l:Nat)(LO:DObj)(G:Sig->S->Prop)(touch:Nat->Prop)(base:Sig):Sig->S->Prop:=fun S' s=>S' l=some LO/\G S' s/\Keep touch base S'
theorem GoodG.new{S:Type}{l:Nat}{LO:DObj}{G:Sig->S->Prop}{touch:Nat->Prop}{base V:Sig}{s:S}{a:Nat}{o:DObj}(hm:O6 G)(h:GoodG l LO G touch base V s)(ha:V a=none):GoodG l LO G touch base (V.set a o) s:=by
 have ne:∀j x,V j=some x->j≠a:=fun j x hj e=>by rw[e,ha]at hj;cases hj
 obtain⟨h1,h2,h3⟩:=h
 exact⟨by rw[w8 _ _ (ne _ _ h1)];exact h1,hm _ _ _ _ h2 ha,fun j x hj ht=>by
  have:=h3 j x hj ht
  rw[w8 _ _ (ne _ _ this)];exact this⟩
theorem GoodG.indep{S:Type}{l:Nat}{LO:DObj}{G:Sig->S->Prop}{touch:Nat->Prop}{base S0:Sig}{s0:S}(h0:GoodG l LO G touch base S0 s0)(hi:Indep G S0):Indep (GoodG l LO G touch base) S0:=fun k hk S1 S2 s hG hx hj=>by
 have hlk:l≠k:=fun e=>by have:=h0.1;rw[e,hk]at this;cases this
 refine⟨by rw[hj l hlk];exact hG.1,hi k hk _ _ _ hG.2.1 hx hj,fun j x hb hn=>?_⟩;rw[hj j fun e=>by have:=h0.2.2 j x hb hn;rw[e,hk]at this;cases this];exact hG.2.2 j x hb hn
theorem I8{P:Program}{n:Nat}{Q:DX->St->Prop}{γ:Fr}{V:Sig}{df:List DDf}{gop:Operand}{ps:Array Tmp}{asg body:Code}{f:Nat}{first cap:List D}{S:Type}(u:D)(G:Sig->S->Prop)(touch tp:Nat->Prop)(o:Option S)(s0:S)
  (hm:Indep G V) (hf':O6 G) (h0:G V s0) (ht:∀j,touch j->V j≠none) (htp:∀j,tp j->V j≠none) (hf:ev γ gop=.func (.func f) first cap)
  (hcall : ∀ l did LO SL,LO=DObj.loop .ready none ps asg body n γ did->V did=none->(V.set did .defs) l=none -> ¬ touch l->SL=(V.set did .defs).set l LO->GoodG l LO G touch (V.set did .defs) SL s0->(∀ a,SL a=none -> ¬ touch a) ->
   DCall P f (first++[.yld l]++cap) SL (OutO u (.tup []) (GoodG l LO G touch (V.set did .defs)) (Keep tp (V.set did .defs)) touch SL o))
  (hret:∀did s S',o=some s->V did=none->S' did=some .defs->G S' s->(∀j x,V j=some x->¬touch j->S' j=some x/\j≠did)->Q .normal ⟨γ,S',.coll did::df⟩)
  (hpan:∀did S',o=none->V did=none->S' did=some .defs->(∀j x,V j=some x->¬tp j->S' j=some x/\j≠did)->Q (.panic u) ⟨γ,S',.coll did::df⟩) :
  DWp P none n (.rangeFunc gop ps asg body) Q ⟨γ,V,df⟩:=by
 have dne:∀{did:Nat},V did=none->∀j x,V j=some x->j≠did:=fun hd j x hj e=>by rw[e,hd]at hj;cases hj
 refine Ed (R:=fun l did=>OutO u (.tup []) (GoodG l (DObj.loop .ready none ps asg body n γ did) G touch (V.set did .defs)) (Keep tp (V.set did .defs)) touch ((V.set did .defs).set l (DObj.loop .ready none ps asg body n γ did)) o) hf (fun l did hd hl hld=>?_) (fun l did d S' hd hl hld hr=>?_) (fun l did d S' hd hl hld hr=>?_)
 ·have hl':(V.set did .defs) l=none:=by first|exact hl|(rw[w8 _ _ hld];exact hl)
  have hl0:V l=none:=by rw[w8 _ _ hld]at hl';exact hl'
  refine hcall l did _ _ rfl hd hl' (fun h=>ht _ h hl0) rfl ⟨w7 .., hf' _ _ _ _ (hf' _ _ _ _ h0 hd) hl',fun j x hj hn=>?_⟩ fun a ha h=>ht a h ?_
  ·rw[w8 _ _ fun e=>by rw[e,hl']at hj;cases hj];exact hj
  ·by_cases e1:a=l
   ·rw[e1,w7]at ha;cases ha
   ·rw[w8 _ _ e1]at ha
    by_cases e2:a=did
    ·rw[e2,w7]at ha;cases ha
    ·rw[w8 _ _ e2]at ha;exact ha
 ·have hl':(V.set did .defs) l=none:=by first|exact hl|(rw[w8 _ _ hld];exact hl)
  have hl0:V l=none:=by rw[w8 _ _ hld]at hl';exact hl'
  obtain⟨s,hs,rfl,⟨hl2,hG1,hK⟩,_⟩:=hr.ret;have hdt:¬touch did:=fun h=>ht _ h hd;have dl:∀j,j≠l->(S'.del l) j=S' j:=fun j h=>by simp only[Sig.del,h,if_false]
  refine⟨_,_,hl2,by simp,hret did s _ hs hd ?_ ?_ fun j x hj hn=>⟨?_,dne hd j x hj⟩⟩
  ·rw[dl _ (Ne.symm hld)];exact hK did _ (w7 ..) hdt
  ·exact hm l hl0 _ _ _ hG1 ⟨_,hl2,rfl⟩ fun j hj=>dl j hj
  ·rw[dl _ (dne hl0 j x hj)];exact hK j x (by rw[w8 _ _ (dne hd j x hj)];exact hj) hn
 ·obtain⟨hn,rfl,hb⟩:=hr.pan;exact hpan did S' hn hd (hb did _ (w7 ..) fun h=>htp _ h hd) fun j x hj hn=>⟨hb j x (by rw[w8 _ _ (dne hd j x hj)];exact hj) hn,dne hd j x hj⟩
section
variable {S:Type}{l:Nat}{LO:DObj}{G:Sig->S->Prop}{touch:Nat->Prop}{base S1 S2:Sig}{s s':S}{u:D}{step:Option S}{γ:List (Nat×D)}{df:List DDf}{ps:Array Tmp}{asg body:Code}{n:Nat}{Sl:List (Nat×D)}{did:Nat}{Good:Sig->S->Prop}{Bad:Sig->Prop}
theorem GZ(hst:step=some s')(hLO:LO=.loop .ready none ps asg body n Sl did)(hm:Indep G base)(hG:GoodG l LO G touch base S1 s)(hl:¬touch l)(hbl:base l=none)(hG2:G S2 s')(hK:Keep touch (S1.set l (BG LO)) S2):
  Ps l LO (OutO u (.bool true) (GoodG l LO G touch base) Bad touch S1 step) .normal ⟨γ,S2,df⟩:=by
 subst hst;have h2:S2 l=some (BG LO):=hK l _ (w7 ..) hl
 have hk1:Keep touch S1 (S2.set l LO):=fun j x hj hn=>by
  by_cases e:j=l
  ·rw[e,hG.1]at hj;rw[e,w7];exact hj
  ·rw[w8 _ _ e];exact hK j x (by rw[w8 _ _ e];exact hj) hn
 exact⟨h2,rfl,⟨w7 .., hm l hbl _ _ _ hG2 ⟨_,h2,(Iu hLO).2⟩ fun j hj=>w8 _ _ hj,hG.2.2.trans hk1⟩,hk1⟩
theorem Jk(hst:step=none)(hB:Bad S2):Ps l LO (OutO u (.bool true) Good Bad touch S1 step) (.panic u) ⟨γ,S2,[]⟩:=by
 subst hst;exact⟨rfl,rfl,hB⟩
theorem GoodG.bad{tp:Nat->Prop}(hG:GoodG l LO G touch base S1 s)(hbl:base l=none)(ht:∀j,touch j->tp j)(hK:Keep tp (S1.set l (BG LO)) S2):Keep tp base S2:=fun j x hj hn=>
 hK j x (by rw[w8 _ _ fun e=>by rw[e,hbl]at hj;cases hj];exact hG.2.2 j x hj fun h=>hn (ht j h)) hn
theorem Rv{tp:Nat->Prop}{o:DObj}(hK:Keep tp (S1.set l o) S2):Keep (fun j=>tp j\/j=l) S1 S2:=fun j x hj hn=>
 hK j x (by rw[w8 _ _ fun e=>hn (.inr e)];exact hj) fun h=>hn (.inl h)
theorem OutO.bad{r:D}{Good:Sig->S->Prop}{Bad Bad':Sig->Prop}{V S':Sig}{o:Option S}{x:DE}(h:OutO u r Good Bad touch V o x S')(hb:Bad S'->Bad' S'):OutO u r Good Bad' touch V o x S':=by
 cases o with
 |none=>exact⟨h.1,hb h.2⟩
 |some s=>exact h
theorem GoodG.busy(hLO:LO=.loop .ready none ps asg body n Sl did)(hm:Indep G base)(hbl:base l=none)(hG:GoodG l LO G touch base S1 s):G (S1.set l (BG LO)) s:=
 hm l hbl _ _ _ hG.2.1 ⟨_,hG.1,(Iu hLO).1⟩ fun j hj=>w8 _ _ hj
end
section
variable {P:Program}{ro:Option Nat}{n:Nat}{ops:Array Oper}{N:Nat}{S0:Sig}{Q:DX->St->Prop}{df:List DDf}{rest:List Oper}{γ Sr:List (Nat×D)}{V:Sig}{t:Nat}{ty:TypeId}{pos:String}{after:Array Edge}{l:List (Bool×Oper)}{d:D}
theorem yldWG{j:Nat}{want:Bool}{k:Nat}{fop:Operand}{args:Array Operand}{ats:Array TypeId}{l:Nat}{us:List D}{R:DE->Sig->Prop}{dst:Option Tmp}(h:DYield P l us V R)(hret:∀d S',R (.ret d) S'->DOps P ro n ops Q rest ⟨putD dst d γ,S',df⟩)(hpan:∀d S',R (.panic d) S'->Q (.panic d) ⟨γ,S',df⟩)
  (hk:(ops[j]?).bind (·.dst)=some k:=by exact tdR) (hb:γ.lookup k=some (.bool want):=by exact tdR) (hl:A4 γ (A6 (fop::args.toList))=some Sr:=by exact tdR) (hf:ev Sr fop=.yld l:=by exact tdR) (ha:args.toList.map (ev Sr)=us:=by(simp(disch:=first|omega|assumption) [An,big1,big2,w8]<;>(try simp only[B1,B2,AJ,B0,Ay,AM,AL,AK,AI,Ax,AH,AG,AF])<;>with_unfolding_all rfl))
  (ho:As n ⟨dst,(cv fop args ats),ty,pos,after,some (j,want)⟩=true:=by exact tdR) :
  DOps P ro n ops Q (⟨dst,(cv fop args ats),ty,pos,after,some (j,want)⟩::rest) ⟨γ,V,df⟩:=by
 have hx:∀x∈fop::args.toList,ev Sr x=ev γ x:=fun x hx=>Bv fun t ht=>AD hl t (AU (by rw[<-ht];exact hx))
 refine Kc (by simp only[AB,BB hk hb];simp) (by rw[<-hx fop (by simp)];exact hf) ?_ ho hret hpan;rw[show args.toList.map (ev γ)=args.toList.map (ev Sr) from List.map_congr_left fun x h=>(hx x (by simp[h])).symm,ha];exact h
end
theorem IJ{P:Program}{n:Nat}{fn:Func}{R:DE->Sig->Prop}{γ:Fr}{V S':Sig}{d:D}(js:List Nat)(hR:R (.panic d) S')(hU:Sub S' (dels js V))(hn:js.Nodup:=by simp)(hd:∀j∈js,V j=some .defs:=by simp): ∃s',Wk P n ⟨γ,V,js.map .coll⟩ s'/\QG P n fn (Weak R) (.panic d) s':=
 ⟨_,Wk.refl _ _ _,js,rfl,hn,hd,.panic d,S',A7 _,hU,hR⟩
theorem F1{V S':Sig}{did:Nat}(h:∀j x,V j=some x->S' j=some x/\j≠did):Sub V (dels [did] S'):=fun j x hj=>by
 obtain⟨h1,h2⟩:=h j x hj;simp only[dels,List.foldl_cons,List.foldl_nil,Sig.del,h2,if_false];exact h1
section
variable {P:Program}{ro:Option Nat}{n:Nat}{Q:DX->St->Prop}{df:List DDf}{γ:List (Nat×D)}{V:Sig}
theorem loopD4{Sk:Fr}{α β δ ε:Type}{c:Code}(keep:List Nat)(I:α->β->δ->ε->Prop)(ov:α->β->δ->ε->Fr)(sg:α->β->δ->ε->Sig)(dg:α->β->δ->ε->List DDf)(μ:α->β->δ->ε->Nat)(x0:α)(y0:β)(z0:δ)(u0:ε)(h0:I x0 y0 z0 u0)
  (round:∀x y z u,I x y z u->DWp P ro n c (Then (fun s'=> ∃x' y' z' u',I x' y' z' u'/\μ x' y' z' u'<μ x y z u/\Wk P n s' ⟨ov x' y' z' u'++Sk,sg x' y' z' u',dg x' y' z' u'⟩) Q) ⟨ov x y z u++Sk,sg x y z u,dg x y z u⟩) (hk:Dg γ keep=some Sk:=by exact tdR) (h1:TellsR γ (ov x0 y0 z0 u0++Sk):=by(first|refine FW ?_ ?_|skip)<;>(repeat' first|exact FV|refine F0 tdR ?_ ?_|(first|exact A7 _|exact Bc _ _|exact Aq _ (.inl rfl)|exact Dv _|(refine HM _ ?_;first|omega|(simp;done)|(simp;omega))|(refine Bd ?_;(simp;done))|(refine Bd ?_;(simp[cI,cS,cII,D8,C5,Ee];done))|(refine DI _ ?_;(simp[cI,cS,cII];done))|(refine Bd ?_;(simp_all;done))|assumption))) (h2:Sub (sg x0 y0 z0 u0) V:=by first|exact Sub.refl _|(refine BY ?_;simp;done)|assumption|exact(Sub.refl _).set (by assumption)) (h3:dg x0 y0 z0 u0=df:=by rfl):DWp P ro n (.loop c) Q ⟨γ,V,df⟩:=by
 subst h3;refine Pd (fun x:{x:α×β×δ×ε // I x.1 x.2.1 x.2.2.1 x.2.2.2}=>⟨ov x.1.1 x.1.2.1 x.1.2.2.1 x.1.2.2.2++Sk,sg x.1.1 x.1.2.1 x.1.2.2.1 x.1.2.2.2,dg x.1.1 x.1.2.1 x.1.2.2.1 x.1.2.2.2⟩) (fun x=>μ x.1.1 x.1.2.1 x.1.2.2.1 x.1.2.2.2) ⟨(x0,y0,z0,u0),h0⟩ (Ky h1 h2) fun x=>Ff (round x.1.1 x.1.2.1 x.1.2.2.1 x.1.2.2.2 x.2) ?_;intro e s h;cases e with
 |normal=>obtain⟨x',y',z',u',h3,h4,h5⟩:=h;exact⟨⟨(x',y',z',u'),h3⟩,h4,h5⟩
 |_=>exact h
end
theorem IZ: ∀(js:List Nat) (V:Sig) (j:Nat),j∉js->dels js V j=V j
 |[],_,_,_=>rfl
 |i::r,V,j,h=>by
  simp only[List.mem_cons,not_or]at h;simp only[dels,List.foldl_cons];rw[show List.foldl Sig.del (V.del i) r=dels r (V.del i) from rfl,IZ r _ j h.2];simp only[Sig.del,h.1,if_false]
theorem TP{V S':Sig}{js:List Nat}(h:Sub V S')(hj:∀j∈js,V j=none):Sub V (dels js S'):=fun j x hx=>by
 rw[IZ js S' j fun hm=>by rw[hj j hm]at hx;cases hx];exact h j x hx
def RowAt(V:Sig)(sz:Nat):MR->List (List D)->Prop
 |none,es=>es=[]
 |some (i,cap,rest),es=>V i=some (.cells (es.flatten++rest))/\(es.flatten++rest).length=cap*sz/\es.length<=cap /\ ∀e∈es,e.length=sz
def Bq:MR->Nat->Prop
 |none,_=>False
 |some (i,_,_),j=>j=i
theorem RowAt.cells{V:Sig}{sz:Nat}{st:MR}{es:List (List D)}(h:RowAt V sz st es){j:Nat}(hj:Bq st j): ∃cs,V j=some (.cells cs):=by
 cases st with
 |none=>exact hj.elim
 |some x=>cases hj;exact⟨_,h.1⟩
theorem RowAt.keep{V S':Sig}{sz:Nat}{st:MR}{es:List (List D)}(h:RowAt V sz st es)(hk:∀j o,V j=some o->Bq st j->S' j=some o):RowAt S' sz st es:=by
 cases st with
 |none=>exact h
 |some x=>exact⟨hk _ _ h.1 rfl,h.2⟩
theorem RowAt.mS{V:Sig}{sz:Nat}{st:MR}{es:List (List D)}(h:RowAt V sz st es): ∃S',V=mS S' st es/\mOK S' sz st es/\(∀j o,V j=some o->¬Bq st j->S' j=some o) /\ ∀j o,S' j=some o->V j=some o /\ ¬Bq st j:=by
 cases st with
 |none=>exact⟨V,rfl,h,fun j o h _=>h,fun j o h=>⟨h,id⟩⟩
 | some x =>
  obtain⟨i,cap,rest⟩:=x;obtain⟨h1,h2,h3,h4⟩:=h;refine⟨V.del i,?_,⟨by simp[Sig.del],h2,h3,h4⟩,fun j o hj hn=>?_,fun j o hj=>?_⟩
  ·funext j
   simp only[DL.mS,Sig.set,Sig.del]
   by_cases e:j=i
   ·subst e;simp[h1]
   ·simp[e]
  ·have:j≠i:=hn;simp only[Sig.del,this,if_false];exact hj
  ·by_cases e:j=i
   ·simp[Sig.del,e]at hj
   ·simp only[Sig.del,e,if_false]at hj;exact⟨hj,e⟩
theorem Om{V:Sig}{sz:Nat}{st:MR}{es:List (List D)}(h:mOK V sz st es):RowAt (mS V st es) sz st es:=by
 cases st with
 |none=>exact h
 |some x=>obtain⟨i,cap,rest⟩:=x;exact⟨w7 .., h.2⟩
def RowK(V:Sig)(st:MR)(S':Sig)(st':MR):Prop:= ∀j o,V j=some o->¬Bq st j->S' j=some o /\ ¬Bq st' j
theorem RowK.refl(V:Sig)(st:MR):RowK V st V st:=fun j o h hn=>⟨h,hn⟩
theorem RowK.trans{V S1 S2:Sig}{st st1 st2:MR}(h:RowK V st S1 st1)(k:RowK S1 st1 S2 st2):RowK V st S2 st2:=fun j o hj hn=>k _ _ (h j o hj hn).1 (h j o hj hn).2
theorem R0{V:Sig}{sz:Nat}{st st':MR}{es es':List (List D)}(h:RowAt V sz st es){S1:Sig}(h1:mOK S1 sz st' es')(hk:∀j o,V j=some o->¬Bq st j->S1 j=some o):RowK V st (mS S1 st' es') st':=fun j o hj hn=>by
 have hj1:=hk j o hj hn
 have hr:¬Bq st' j:=by
  cases st' with
  |none=>exact id
  |some x=>
   obtain⟨i,cap,rest⟩:=x;intro e;have e:j=i:=e;rw[e,h1.1]at hj1;cases hj1
 exact⟨Rq h1 hj1,hr⟩
section
variable {ro:Option Nat}{n:Nat}{ops:Array Oper}{N:Nat}{S0:Sig}{Q:DX->St->Prop}{df:List DDf}{rest:List Oper}{γ Sr:List (Nat×D)}{V:Sig}{t:Nat}{ty:TypeId}{pos:String}{after:Array Edge}{d:D}
theorem rapp{T T' e e' sz:Nat}{s x:Operand}{es new:List (List D)}{st:MR}(h:∀st' S',RowAt S' sz st' (es++new)->RowK V st S' st'->DOps prog ro n ops Q rest ⟨(t,mD st' (es.length+new.length))::γ,S',df⟩)(hm:RowAt V sz st es:=by assumption)
  (hl:A4 γ (A6 [s,x])=some Sr:=by exact tdR) (hk:(tab T).k=.slice e:=by(simp<;>rfl)) (hk':(tab T').k=.slice e':=by(simp<;>rfl)) (he:A5 (tab e).k=false:=by simp) (hsz:(tab e).size=sz:=by simp)
  (h1:ev Sr s=mD st es.length:=by first|with_unfolding_all rfl|(simp[ev,getD,List.lookup];done)) (h2:esOf (ev Sr x)=some new:=by(simp<;>with_unfolding_all rfl))
  (hlen':∀c∈new,c.length=sz:=by first|exact C4 _|exact Eo _|exact CW _|simp) (hfl:∀c∈new,Cp c=true:=by simp[cI,cS,cII,Cp,D.flat])
  (hb:(es.length+new.length)*(tab e).bytes<=140737488355328:=by first|(simp;done)|(simp;omega)) (hm2:es.length+new.length<=9223372036854775807:=by first|(simp;done)|(simp;omega)) (htn:decide (t<n)=true:=by exact tdR) :
  DOps prog ro n ops Q (⟨some t,(cA s x T T'),ty,pos,after,none⟩::rest) ⟨γ,V,df⟩:=by
 obtain⟨e1,e2⟩:=evs hl;obtain⟨S1,rfl,hm1,hk1,hk2⟩:=hm.mS;exact IV Ad (by simpa using htn) hk hk' he hsz (by rw[<-e1];exact h1) hm1 (by rw[<-e2];exact h2) hlen' hfl hb hm2 (fun st' h'=>by rw[List.length_append];exact h st' _ (Om h') (R0 hm h' hk1))
theorem moRapp{T T' e e' sz:Nat}{s x:Operand}{es new:List (List D)}{st:MR}{l:List (Bool×Oper)}(h:∀st' S',RowAt S' sz st' (es++new)->RowK V st S' st'->MO prog ro n ops N S0 Q df l ((t,mD st' (es.length+new.length))::γ) S')(hC:∀j o,S0 j=some o->V j=some o /\ ¬Bq st j)(hm:RowAt V sz st es:=by assumption)
  (hl:A4 γ (A6 [s,x])=some Sr:=by exact tdR) (hk:(tab T).k=.slice e:=by(simp<;>rfl)) (hk':(tab T').k=.slice e':=by(simp<;>rfl)) (he:A5 (tab e).k=false:=by simp) (hsz:(tab e).size=sz:=by simp)
  (h1:ev Sr s=mD st es.length:=by first|with_unfolding_all rfl|(simp[ev,getD,List.lookup];done)) (h2:esOf (ev Sr x)=some new:=by(simp<;>with_unfolding_all rfl))
  (hlen':∀c∈new,c.length=sz:=by first|exact C4 _|exact Eo _|exact CW _|simp) (hfl:∀c∈new,Cp c=true:=by simp[cI,cS,cII,Cp,D.flat])
  (hb:(es.length+new.length)*(tab e).bytes<=140737488355328:=by first|(simp;done)|(simp;omega)) (hm2:es.length+new.length<=9223372036854775807:=by first|(simp;done)|(simp;omega)) (htn:decide (t<n)=true:=by exact tdR) :
  MO prog ro n ops N S0 Q df ((true,⟨some t,(cA s x T T'),ty,pos,after,none⟩)::l) γ V:=
 mo1 (fun U2 hx=>by
  obtain⟨e1,e2⟩:=Ll hl hx
  obtain⟨S1,rfl,hm1,hk1,hk2⟩:=hm.mS
  refine IV Ad (by simpa using htn) hk hk' he hsz (by rw[e1];exact h1) hm1 (by rw[e2];exact h2) hlen' hfl hb hm2 (fun st' h'=>?_)
  have hK:=R0 hm h' hk1
  refine B6 ⟨rfl,?_⟩
  simp only[A8,if_true]
  exact⟨fun j o hj=>(hK j o (hC j o hj).1 (hC j o hj).2).1,by rw[List.length_append];exact h st' _ (Om h') hK⟩) htn
end
noncomputable def Sig.out(V:Sig)(touch:Nat->Prop):Sig:=open Classical in fun j=>if touch j then none else V j
theorem CS(V:Sig)(touch:Nat->Prop):Sub (V.out touch) V:=fun j o h=>by
 unfold Sig.out at h;split at h
 ·cases h
 ·exact h
theorem EF{V:Sig}{touch:Nat->Prop}{j:Nat}{o:DObj}(h:(V.out touch) j=some o):V j=some o /\ ¬touch j:=by
 unfold Sig.out at h;split at h
 ·cases h
 ·exact⟨h,by assumption⟩
theorem Hb{V:Sig}{touch:Nat->Prop}{j:Nat}{o:DObj}(h:V j=some o)(ht:¬touch j):(V.out touch) j=some o:=by
 unfold Sig.out;rw[if_neg ht];exact h
section
variable {P:Program}{ro:Option Nat}{n:Nat}{Q:DX->St->Prop}{γ:List (Nat×D)}{V:Sig}{df:List DDf}
theorem dwp_cut1{x1 b:Code}(ov:Fr)(S':Sig)(h2:DWp P ro n b Q ⟨ov++γ,S',df⟩)(h1:∀b,DWp P ro n b Q ⟨ov++γ,S',df⟩->DWp P ro n (.seq x1 b) Q ⟨γ,V,df⟩):DWp P ro n (.seq x1 b) Q ⟨γ,V,df⟩:=h1 b h2
theorem Bt{U':Fr}{S':Sig}(h:TellsS γ [] U')(hU:Sub S' V):Wk P n ⟨γ,V,df⟩ ⟨U',S',df⟩:=(wk_join h hU).2
end
section
variable {P:Program}{ro:Option Nat}{n:Nat}{ops:Array Oper}{Q:DX->St->Prop}{df:List DDf}{rest:List Oper}{γ:List (Nat×D)}{V:Sig}
theorem mixT{lo:List Oper}{id:Nat}(k:Nat)(ord E:List Nat){lp:List (Bool×Oper)}{ls:List Oper}(h:MO prog ro n lo.toArray 334 V (Then (fun s=>DOps prog ro n lo.toArray Q ls s) Q) df lp γ V)(hB:NF lo.toArray E ord k=true:=by kernel_rfl)(hls:lo.drop k=ls:=by exact tdR)(hl:FF lo E ord=some lp:=by exact tdR):DWp prog ro n (.region id lo.toArray true) Q ⟨γ,V,df⟩:=by
 subst hls;exact UM Al mixed k ord E V hB (Sub.refl _) hl h
theorem ent3{t1 t2 T id:Nat}{x:Operand}{s:ByteArray}{v:Int}{ty1 ty2 ty3:TypeId}{p1 p2 p3:String}{f1 f2 f3:Array Edge}{m:List (Str×Int)}
  (h:DOps prog ro n ops Q rest ⟨(t2,.any)::(t1,.any)::γ,V.set id (.map (eSN (putM s.data.toList v m))),df⟩) (hU:V id=some (.map (eSN m)):=by first|assumption|exact w7 ..) (hm:ev γ x=.map id:=by exact tdR) (hT:T=158:=by rfl) (ht1:decide (t1<n)=true:=by exact tdR) (ht2:decide (t2<n)=true:=by exact tdR) (hx1:x≠.tmp t1:=by simp) (hx2:x≠.tmp t2:=by simp) :
  DOps prog ro n ops Q (⟨some t1,.mapEntry T x (.const (.string s)),ty1,p1,f1,none⟩::⟨some t2,.extract (.tmp t1) 1,ty2,p2,f2,none⟩::⟨none,.entryStore T x (.tmp t2) (.const (.int .i64 v)),ty3,p3,f3,none⟩::rest) ⟨γ,V,df⟩:=by
 subst hT;exact NV (tab:=tab) (kt:=9) (et:=3) (l:=eSN m) (zd:=dI 0) Ad rfl rfl rfl rfl hm hU (putSN _ _ _) (by simpa using ht1) (by simpa using ht2) hx1 hx2 (by simp) (by simp) h
end
section
variable {ro:Option Nat}{n:Nat}{ops:Array Oper}{N:Nat}{S0:Sig}{Q:DX->St->Prop}{df:List DDf}{rest:List Oper}{γ Sr:List (Nat×D)}{V:Sig}{t:Nat}{ty:TypeId}{pos:String}{after:Array Edge}{l:List (Bool×Oper)}{d:D}{ef:Bool}
theorem moQAppC{s x:Operand}{T T' e e':Nat}{es new:List (List D)}(k1:MO prog ro n ops N S0 Q df l ((t,.slice (es++new) .no)::γ) V)(hl:A4 γ (A6 [s,x])=some Sr:=by exact tdR)(hk:(tab T).k=.slice e:=by(simp<;>rfl))(hk':(tab T').k=.slice e':=by(simp<;>rfl))(he:A5 (tab e).k=false:=by simp)
  (h1:ev Sr s=.slice es .clip:=by exact tdR) (h2:esOf (ev Sr x)=some new:=by(simp<;>with_unfolding_all rfl))
  (hlen:∀c∈es,c.length=(tab e).size:=by first|exact C4 _|exact Eo _|exact CW _|simp) (hlen':∀c∈new,c.length=(tab e).size:=by first|exact C4 _|exact Eo _|exact CW _|simp)
  (hb:(es.length+new.length)*(tab e).bytes<=140737488355328:=by first|(simp;done)|(simp;omega)) (hm:es.length+new.length<=9223372036854775807:=by first|(simp;done)|(simp;omega)) (htn:decide (t<n)=true:=by exact tdR) :
  MO prog ro n ops N S0 Q df ((ef,⟨some t,(cA s x T T'),ty,pos,after,none⟩)::l) γ V:=by
 have hop:∀y∈((cA s x T T')).operands,ev (only (Oper.looksAt ops ⟨some t,(cA s x T T'),ty,pos,after,none⟩) γ) y=ev γ y:=fun y hy=>CA (o:=⟨some t,(cA s x T T'),ty,pos,after,none⟩) hy;have hx:∀y∈[s,x],ev Sr y=ev γ y:=fun y hy=>Bv fun t ht=>AD hl t (AU (by rw[<-ht];exact hy))
 refine Oz (.slice (es++new) .no) htn rfl (by rw[Bf];rfl) (fun S' hS' ro' df'=>?_) k1;have a1:ev (only (Oper.looksAt ops ⟨some t,(cA s x T T'),ty,pos,after,none⟩) γ) s=.slice es .clip:=by rw[hop s (by simp[Op.operands,Call.operands]),<-hx s (by simp)];exact h1
 have a2:esOf (ev (only (Oper.looksAt ops ⟨some t,(cA s x T T'),ty,pos,after,none⟩) γ) x)=some new:=by rw[hop x (by simp[Op.operands,Call.operands]),<-hx x (by simp)];exact h2
 by_cases hne:new=[]
 ·subst hne;refine CV Ad (es:=es) (by rw[Bf];rfl) (by simpa using htn) hk hk' he (by rw[a1];rfl) a2 ?_;rw[a1];exact BX (Bz (t:=t) (d:=.slice (es++[]) .no) (by simp only[A8,if_true,List.append_nil];exact Bc _ _)) (B6 ⟨rfl,by simp only[A8,if_true],Sub.refl _⟩)
 ·exact C7 Ad (by rw[Bf];rfl) (by simpa using htn) hk hk' he a1 a2 hne hlen hlen' hb hm fun i hi=>BX (Bz (t:=t) (d:=.slice (es++new) .no) (by simp only[A8,if_true];exact Bc _ _)) (B6 ⟨rfl,by simp only[A8,if_true],(Sub.refl _).set hi⟩)
end
theorem dwp_cutE3{P:Program}{ro:Option Nat}{n:Nat}{Q:DX->St->Prop}{γ:Fr}{V:Sig}{df:List DDf}{x1 x2 x3 b:Code}(C:Nat->Prop)(ov:Nat->Fr)(S':Nat->Sig)(h2:∀i,C i->DWp P ro n b Q ⟨ov i,S' i,df⟩)(h1:∀b,(∀i,C i->DWp P ro n b Q ⟨ov i,S' i,df⟩)->DWp P ro n (.seq x1 (.seq x2 (.seq x3 b))) Q ⟨γ,V,df⟩):DWp P ro n (.seq x1 (.seq x2 (.seq x3 b))) Q ⟨γ,V,df⟩:=h1 b h2
def cB8(s:Str):List (List D):=s.map fun b=>[D.int .u8 (b.toNat:Int)]
@[simp] theorem cB8_len(l:Str):(cB8 l).length=l.length:=by simp[cB8]
@[simp] theorem cB8_mem(l:Str): ∀c∈cB8 l,c.length=1:=by simp[cB8]
section
variable {ro:Option Nat}{n:Nat}{ops:Array Oper}{Q:DX->St->Prop}{df:List DDf}{rest:List Oper}{γ Sr:List (Nat×D)}{V:Sig}{t:Nat}{ty:TypeId}{pos:String}{after:Array Edge}{gd:Option (Nat×Bool)}
theorem strR{T T' e:Nat}{x:Operand}(s:Str)(h:DOps prog ro n ops Q rest ⟨(t,.str s)::γ,V,df⟩)(hl:A4 γ (A6 [x])=some Sr:=by exact tdR)(hx:esOf (ev Sr x)=some (cB8 s):=by exact tdR)(hw:AB ops γ ⟨some t,.convert T T' x,ty,pos,after,gd⟩=some true:=by exact tdR)(htn:decide (t<n)=true:=by exact tdR)
  (hk:(tab T).k=.slice e:=by(simp<;>rfl)) (hk':(tab T').k=.str:=by(simp<;>rfl)) (hke:(tab e).k=.int .u8:=by(simp<;>rfl)) :
  DOps prog ro n ops Q (⟨some t,.convert T T' x,ty,pos,after,gd⟩::rest) ⟨γ,V,df⟩:=UO Ad h hw (by simpa using htn) hk hk' hke (by rw[<-Bu hl];exact hx)
theorem skpV{P:Program}{j:Nat}{want:Bool}{k:Nat}{fop:Operand}{args:Array Operand}{ats:Array TypeId}(h:DOps P ro n ops Q rest ⟨(t,.tup [])::γ,V,df⟩)(hk:(ops[j]?).bind (·.dst)=some k:=by exact tdR)(hb:γ.lookup k=some (.bool (!want)):=by exact tdR)(hl:A4 γ (A6 [fop])=some Sr:=by exact tdR)(hf:ev Sr fop=.tup []:=by exact tdR)(htn:decide (t<n)=true:=by exact tdR):
  DOps P ro n ops Q (⟨some t,(cv fop args ats),ty,pos,after,some (j,want)⟩::rest) ⟨γ,V,df⟩:=by
 intro g w a r hr hs';have hw':AB ops γ ⟨some t,(cv fop args ats),ty,pos,after,some (j,want)⟩=some false:=by simp only[AB,BB hk hb];simp
 have he:=Ao hs'.tmps fop;rw[Bu hl]at hf;rw[hf]at he;obtain⟨vs,hv,hr0⟩:=he;obtain rfl:vs=[]:=hr0;unfold wpListIn;rw[Az hs'.tmps hw',if_neg (by simp)];refine⟨fun f hf=>?_,h g w _ r hr ?_⟩
 ·unfold Oper.about at hf;simp[resolve,hv,Deferred.ofValue,stuck,Sem.run]at hf
 ·exact hs'.put (g':=g) (o:=⟨some t,(cv fop args ats),ty,pos,after,some (j,want)⟩) (d:=.tup []) (.refl g) hs'.sim ⟨[],rfl,rfl⟩ htn
end
end Go.DL
namespace Go.DL
open Go.Proofs.Tryz
open Go Go.Proofs
set_option maxHeartbeats 8000000
theorem bytesR{ro:Option Nat}{n:Nat}{ops:Array Oper}{Q:DX->St->Prop}{df:List DDf}{rest:List Oper}{γ Sr:Fr}{V:Sig}{t:Nat}{ty:TypeId}{pos:String}{after:Array Edge}{T T' e:Nat}{x:Operand}{s:Str}
  (h:DOps prog ro n ops Q rest ⟨(t,.slice (s.map fun b=>[D.int .u8 (b.toNat:Int)]) .no)::γ,V,df⟩) (hl:A4 γ (A6 [x])=some Sr:=by exact tdR) (hx:ev Sr x=.str s:=by exact tdR) (htn:decide (t<n)=true:=by exact tdR)
  (hk:(tab T).k=.str:=by(simp<;>rfl)) (hk':(tab T').k=.slice e:=by(simp<;>rfl)) (hke:(tab e).k=.int .u8:=by(simp<;>rfl)) :
  DOps prog ro n ops Q (⟨some t,.convert T T' x,ty,pos,after,none⟩::rest) ⟨γ,V,df⟩:=Qz Ad h (by simpa using htn) hk hk' hke (by rw[<-Bu hl];exact hx)
theorem PF{l:List Str}(h:l.Nodup){k:Nat}(hk:k<l.length): ¬l[k]∈l.take k:=fun hm=>by
 obtain⟨j,hj,e⟩:=List.getElem_of_mem hm;rw[List.length_take]at hj;rw[List.getElem_take]at e;have:=(List.pairwise_iff_getElem.1 h) j k (by omega) hk (by omega);exact this e
theorem K0(V:Sig):DCall prog 240 [] V fun x S'=> ∃im,V im=none/\x=.ret (.map im)/\S'=V.set im (.map (eSS kwds)):=by
 have hkw:kwds.length=24:=rfl;have hnd:kwds.Nodup:=by decide
 refine en func240 ntmps240 ?_;refine gz ?_;refine KP (fun im him=>?_);refine gz ?_;refine rtw 5 (sl (cS kwds)) ?_ (hw:=Bc _ _);refine Bj [0,1,5,6,14] (fun (k:Nat)=>k<=kwds.length) (fun k=>[(7,dI k)]) (fun k=>V.set im (.map (eSS (kwds.take k)))) (fun k=>kwds.length-k) (0) (by simp) (fun k hI=>?_)
 by_cases h:k<kwds.length
 ·have hq:ins kwds[k] (kwds.take k)=kwds.take (k+1):=by unfold ins;rw[if_neg (PF hnd h),AR h]
  refine gf hq ?_;exact⟨k+1,by omega,td1,wkR⟩
 ·refine gz ?_;refine fin1 (S':=V.set im (.map (eSS kwds))) ?_ (hU:=by rw[List.take_of_length_le (by omega)];exact Sub.refl _);exact⟨im,him,rfl,rfl⟩
theorem K1(s:Str)(im:Nat)(V:Sig)(hm:V im=some (.map (eSS kwds)))(hl:s.length<=1073741824):DCall prog 239 [.str s,.map im] V (rS (.bool (B7 s)) V):=by
 refine en func239 ntmps239 ?_
 repeat' first|refine gf hm ?_|apply gy<;>intro hh
 ·(refine fin1 (S':=V) ?_;exact⟨by first|rfl|(simp[B7,hh];done)|(simp_all [B7,hh];done)|(rw[Ae,Bool.eq_iff_iff];simp_all [B7,hh]<;>omega),rfl⟩)
 ·any_goals (first|(refine fin1 (S':=V) ?_;exact⟨by first|rfl|(simp[B7];done)|(simp_all [B7];done)|(rw[Ae,Bool.eq_iff_iff];simp_all [B7]<;>omega),rfl⟩)|fail)
 ·any_goals (first|(refine fin1 (S':=V) ?_;exact⟨by first|rfl|(simp[B7];done)|(simp_all [B7];done)|(rw[Ae,Bool.eq_iff_iff];simp_all [B7]<;>omega),rfl⟩)|fail)
 ·rename_i e1 e2;have hk:¬s∈kwds:=hh;refine bytesR ?_;refine gz ?_;refine Bj [20,21] (fun (k:Nat)=>k<=s.length/\s.all Gg=(s.drop k).all Gg) (fun k=>[(22,dI k)]) (fun _=>V) (fun k=>s.length-k) (0) (by simp) (fun k hI=>?_);obtain⟨hkl,hR⟩:=hI
  by_cases h:k<s.length
  ·rw[A3 h,List.all_cons]at hR
   repeat' first|refine gz ?_|apply gy<;>intro hh
   ·have hn:Gg s[k]=false:=by unfold Gg;simp;omega
    rw[hn]at hR
    (refine fin1 (S':=V) ?_;exact⟨by first|rfl|(simp[B7,hR];done)|(simp_all [B7,hR];done)|(rw[Ae,Bool.eq_iff_iff];simp_all [B7,hR]<;>omega),rfl⟩)
   ·have hn:Gg s[k]=false:=by unfold Gg;simp;omega
    rw[hn]at hR
    (refine fin1 (S':=V) ?_;exact⟨by first|rfl|(simp[B7,hR];done)|(simp_all [B7,hR];done)|(rw[Ae,Bool.eq_iff_iff];simp_all [B7,hR]<;>omega),rfl⟩)
   ·have hn:Gg s[k]=true:=by unfold Gg;simp;omega
    exact⟨k+1,⟨by omega,by rw[hR,hn];rfl⟩,td1,wkR⟩
  ·rw[A2 h]at hR;have h1:1<=s.length:=by cases s with|nil=>exact absurd rfl e1|cons _ _=>simp
   have hN:B7 s=true:=by unfold B7;rw[hR,decide_eq_true (by omega),decide_eq_false (by assumption)];rfl
   repeat' first|refine gz ?_|apply gy<;>intro hh
   any_goals (first|exact fe1 hN|fail)
theorem SH(s:Str)(V:Sig)(hl:s.length<=1073741824):DCall prog 188 [.str s] V (rS (.bool (B7 s)) V):=by
 refine en func188 ntmps188 ?_;refine gz ?_;refine Ab (K0 V) (fun d S' hr=>?_) (fun d S' hr=>by obtain⟨_,_,h,_⟩:=hr;cases h);obtain⟨im,him,h1,rfl⟩:=hr;simp only[DE.ret.injEq]at h1;subst h1
 repeat' first|refine gz ?_|refine AE (K1 s im _ (w7 ..) hl) ?_|refine callP (K1 s im _ (w7 ..) hl) ?_|refine gz ?_|apply gy<;>intro hh
 exact fe1 trivial
@[reducible,instance] def a188:=fun s V=>ah1 (@SH s V)
theorem DS(s:Str)(im:Nat)(t:List Str)(V:Sig)(hm:V im=some (.map (eSS t)))(hl:s.length<=1073741824):
  DCall prog 189 [.str s,.map im] V fun x S'=>(B7 s&&!decide (s∈t))=true/\x=.ret (.tup [])/\S'=V.set im (.map (eSS (t++[s])))\/(B7 s&&!decide (s∈t))=false/\x=.panic unf2/\S'=V:=by
 refine en func189 ntmps189 ?_
 by_cases hs:s∈t
 ·have hc:(B7 s&&!decide (s∈t))=false:=by simp[hs]
  rw[hc]
  repeat' first|refine gf (gi hm hs) ?_|apply gy<;>intro hh
  all_goals
   refine finP (S':=V) ?_;exact .inr ⟨rfl,rfl,rfl⟩
 ·cases hn:B7 s
  ·refine gf (gi hm (gi hs hn)) ?_;refine finP (S':=V) ?_;exact .inr ⟨rfl,rfl,rfl⟩
  ·have hq:ins s t=t++[s]:=by unfold ins;rw[if_neg hs]
   refine gf (gi hm (gi hs (gi hn hq))) ?_;refine Dl (S':=V.set im (.map (eSS (t++[s])))) ?_;exact .inl ⟨by simp[hs],rfl,rfl⟩
end Go.DL
