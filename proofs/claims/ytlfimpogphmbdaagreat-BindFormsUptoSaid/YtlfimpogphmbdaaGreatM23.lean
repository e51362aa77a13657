/- Part of the proof that the last text ends. -/
import Derived.Test.YtlfimpogphmbdaaGreatM22
import Derived.Test.YtlfimpogphmbdaaGreatM12
import Derived.Test.YtlfimpogphmbdaaGreatM17
import Derived.Test.YtlfimpogphmbdaaGreatM16
import Derived.Test.YtlfimpogphmbdaaGreatM11
import Derived.Test.YtlfimpogphmbdaaGreatM20
import Derived.Test.YtlfimpogphmbdaaGreatM21
set_option linter.all false
namespace Go.DL
open Go.Proofs.Tryz
open Go Go.Proofs
set_option maxHeartbeats 8000000
theorem R5{S:Type}(l:List Int)(lb:Nat)(u:D)(Good:Sig->S->Prop)(Bad:Sig->Prop)(touch:Nat->Prop)(step:Int->S->S)(hl:l.length<=1073741824)
  (hy:∀(k:Nat) (hk:k<l.length) V s,Good V s->DYield prog lb [dI k,dI l[k]] V (OutO u (.bool true) Good Bad touch V (some (step l[k] s)))) (V:Sig) (s:S) (hG:Good V s) :
  DCall prog 152 [.yld lb,.cptr [sl (cI l)] 0] V (OutO u (.tup []) Good Bad touch V (some (l.foldr step s))):=by
 refine en func152 ntmps152 ?_
 try refine gz ?_
 refine D6 [0,1] (fun (k:Nat) (s1:S) (S1:Sig)=>k<=l.length/\Good S1 s1/\l.foldr step s=(l.take k).foldr step s1/\(∀j o,V j=some o->¬touch j->S1 j=some o)) (fun k _ _=>[(3,dI ((k:Int)-1))]) (fun _ _ S1=>S1) (fun k _ _=>k) (l.length) (s) (V) (by exact⟨by omega,hG,by simp,fun _ _ h _=>h⟩) (fun k s1 S1 hI =>?_)
 obtain⟨hk,hG1,hR,hK⟩:=hI
 cases k with
 |zero =>
  try refine gz ?_
  refine Eb (S':=S1) ?_
  exact⟨rfl,by rw[hR];exact hG1,hK⟩
 |succ k =>
  have hkl:k<l.length:=by omega
  have e:((k+1:Nat):Int)-1=k:=by omega
  rw[List.take_succ_eq_append_getElem hkl,List.foldr_append]at hR
  try refine gf e ?_
  refine yldW (hy k hkl S1 s1 hG1) (fun d S' hr =>?_) (fun d S' hr=>by obtain⟨h,_⟩:=hr.pan;cases h)
  obtain⟨s2,hs2,rfl,hG2,hK2⟩:=hr.ret
  cases hs2
  try refine gf e ?_
  exact⟨k,_,S',⟨by omega,hG2,hR,fun j o h1 h2=>hK2 j o (hK j o h1 h2) h2⟩,td1,wkR⟩
theorem W4(l:List Int)(V:Sig):DCall prog 64 [sl (cI l)] V (rS (.func (.func 152) [] [.cptr [sl (cI l)] 0]) V):=by
 refine en func64 ntmps64 ?_
 try refine gz ?_
 exact fe1 trivial
@[reducible,instance] def a64:=fun l V=>ah0 (@W4 l V)
def EU:List Init->List (Int×Int)->List (Int×Int)
 |[],m=>m
 |x::r,m=>EU r (putM x.slot x.n m)
def EF(p:BProg)(c:Int)(m:List (Int×Int)):List (Int×Int):=if 3<=c then EU (((p.classes[(c-3).toNat]?).map (·.inits)).getD []) m else m
def Nf(p:BProg)(order:List Int):List (Int×Int):=order.foldr (EF p) []
def Ic(m:List (Int×Int)):List Int->List Init
 |[]=>[]
 |s::r=>if hasM s m then⟨s,getM 0 s m⟩::Ic m r else Ic m r
def JU(p:BProg)(c:Int):List Init:=Ic (Nf p (linF (p.classes.map (·.parents)) c)) (hasP p c)
theorem Hj{p:BProg}: ∀{cs:List BClass} {i:Nat},Bl p i cs=true->∀k,k<cs.length->linE (p.classes.map (·.parents)) (((i+k:Nat):Int)+3)=0
 |c::r,i,h,0,_=>by rw[Bl]at h;simp only[Bool.and_eq_true,decide_eq_true_eq]at h;exact h.1.1
 |c::r,i,h,k+1,hk=>by
  rw[Bl]at h;simp only[Bool.and_eq_true,decide_eq_true_eq]at h
  have:=Hj h.2 k (by simpa using hk)
  rw[show i+(k+1)=i+1+k by omega];exact this
theorem okP_lin{p:BProg}(h:okP p=true){c:Int}(h1:3<=c)(h2:c<3+p.classes.length):linE (p.classes.map (·.parents)) c=0/\Bq (p.classes.map (·.parents))=true:=by
 have h:=GF h
 unfold Ar at h
 simp only[Bool.and_eq_true,decide_eq_true_eq]at h
 obtain⟨_,h⟩:=h
 split at h
 ·cases h
 ·simp only[Bool.and_eq_true,decide_eq_true_eq]at h
  have:=Hj h.2 (c-3).toNat (by omega)
  rw[show(((0+(c-3).toNat:Nat):Int)+3)=c by omega]at this
  exact⟨this,h.1.2⟩
theorem Ng{P:Program}{n:Nat}{fn:Func}{R:DE->Sig->Prop}{O:Fr}{V S':Sig}{d d':D}(js:List Nat)(hR:R (.ret d') S')(hZ:Sub S' (dels js V))(hn:js.Nodup:=by simp)(hd:∀j∈js,V j=some .defs:=by simp)(h:resD fn O=some d:=by exact tdR)(hw:WkD d d'): ∃s',Wk P n ⟨O,V,js.map .coll⟩ s'/\Rx P n fn (Weak R) .ret s' :=
 ⟨_,Wk.refl _ _ _,js,rfl,hn,hd,d,Ed h,.ret d',S',hw,hZ,hR⟩
theorem M3(p:BProg)(c:Int)(V:Sig)(hp:p.wt<=1073741824:=by exact sd):DCall prog 25 [.agg (Am p),dI c] V (rS (.tup [sl ((if ownF p c&&okP p then JU p c else []).map F8),dI (if ownF p c&&okP p then 0 else 2)]) V):=by
 obtain⟨p1,p2,p3,p4,p5,p6,p7⟩:=p.wt_le
 have hwc:∀c∈p.classes,c.parents.length<=1073741824/\c.slots.length<=1073741824/\c.inits.length<=1073741824:=fun c hc=>by
  obtain⟨k,hk,rfl⟩:=List.getElem_of_mem hc
  have:=p5 k hk
  unfold BClass.wt at this;omega
 have hwp:∀c∈p.classes,c.parents.length<=1073741824:=fun c hc=>(hwc c hc).1
 have hwg:∀x∈p.classes.map (·.parents),x.length<=1073741824:=fun x hx=>by obtain⟨c,hc,rfl⟩:=List.mem_map.1 hx;exact(hwc c hc).1
 refine Bh func25 rfl (by decide) ntmps25 (by simp) ?_
 cases hk:ownF p c&&okP p
 ·try refine gf hk ?_
  refine Ng [] (S':=V) ⟨rfl,rfl⟩ (Sub.refl _) (hw := ?_)
  exact Gs ⟨Al _ (.inl rfl),A8 _,trivial⟩
 ·have ho:3<=c/\c<3+p.classes.length:=by simp only[ownF,Bool.and_eq_true,decide_eq_true_eq]at hk;exact hk.1
  have hok:okP p=true:=by simp only[Bool.and_eq_true]at hk;exact hk.2
  obtain⟨h1,h2⟩:=ho
  obtain⟨hlin,hgood⟩:=okP_lin hok h1 h2
  have hlm:linF (p.classes.map (·.parents)) c=FE (p.classes.map (·.parents)) c:=by
   unfold linF;rw[if_pos ⟨hgood,by omega,by rw[List.length_map];omega⟩]
  have hmem:∀y∈linF (p.classes.map (·.parents)) c,0<=y/\y<3+p.classes.length:=fun y hy=>by
   rw[hlm]at hy
   obtain⟨x,hx,hy⟩:=GE hy
   have:=GD hgood _ x hx y hy
   rw[List.length_map]at this;omega
  have hll:(linF (p.classes.map (·.parents)) c).length<=80000000:=by rw[hlm];exact CW hgood (Nat.le_refl _) (by omega)
  have hhl:=Jo p c
  have ws:=GP p
  try refine gf (gi hk hlin) ?_
  refine newIN (fun im him =>?_)
  try refine gf (gi hk hlin) ?_
  refine L6 (u:=unf) (fun did S' m=>S' im=some (.map (eIN m))/\Keep (· = im) ((V.set im (.map (eIN []))).set did .defs) S') (fun did S'=>False) (· = im) (some (Nf p (linF (p.classes.map (·.parents)) c))) rfl (fun l did hd hl hld LO hLO =>?_) (fun l did m S' ho hd hl hld hG =>?_) (fun did S' ho hd hb=>hb.elim)
  ·refine R5 (linF (p.classes.map (·.parents)) c) l unf _ _ _ (EF p) (by omega) (fun k hk S1 m1 hG =>?_) _ [] ?_
   ·obtain⟨hl1,hm1,hK1⟩:=hG
    refine Eu hLO hl1 ?_
    clear hLO
    try refine gz ?_
    refine⟨hl1,?_⟩
    have hy:=hmem _ (List.getElem_mem hk)
    generalize (linF (p.classes.map (·.parents)) c)[k]=y at *
    have hli:l≠im:=fun e=>by rw[e,w7]at hl;cases hl
    have hmi:(S1.set l (Ce LO)) im=some (.map (eIN m1)):=by rw[w8 _ _ (Ne.symm hli)];exact hm1
    have hfin:∀m,(((S1.set l (Ce LO)).set im (.map (eIN m))) l=some (Ce LO))/\((((S1.set l (Ce LO)).set im (.map (eIN m))).set l LO) l=some LO/\(((S1.set l (Ce LO)).set im (.map (eIN m))).set l LO) im=some (.map (eIN m))/\Keep (· = im) ((V.set im (.map (eIN []))).set did .defs) (((S1.set l (Ce LO)).set im (.map (eIN m))).set l LO))/\Keep (· = im) S1 (((S1.set l (Ce LO)).set im (.map (eIN m))).set l LO):=fun m=>by
     have hK2:Keep (· = im) S1 (((S1.set l (Ce LO)).set im (.map (eIN m))).set l LO):=fun j o h1 h2=>by
      by_cases hj:j=l
      ·rw[hj]at h1⊢; rw[w7, <-h1,hl1]
      ·rw[w8 _ _ hj,w8 _ _ h2,w8 _ _ hj];exact h1
     exact⟨by rw[w8 _ _ hli,w7],⟨w7 .., by rw[w8 _ _ (Ne.symm hli),w7],hK1.trans hK2⟩,hK2⟩
    rw[<-Sig.set_self _ hmi]
    by_cases hy3:3<=y
    ·obtain⟨q,rfl⟩:∃q:Nat,y=3+(q:Int):=⟨(y-3).toNat,by omega⟩
     have hq:q<p.classes.length:=by omega
     have hst:EF p (3+q) m1=EU (p.classes[q]).inits m1:=by
      unfold EF;rw[if_pos (by omega),show(3+(q:Int)-3).toNat=q by omega,List.getElem?_eq_getElem hq];rfl
     rw[hst]
     have hinl:=(hwc _ (List.getElem_mem hq)).2.2
     generalize hin:(p.classes[q]).inits=ins' at *
     have hq3:3+(q:Int)-3=q:=by omega
     try refine gf (gi hq3 hin) ?_
     refine AA [1,2,4,5,8,13,15,16,17,45,46,57,58,59,60,61,62,63,64,65,66,67,68,69,70,71,72,73,74,75,76,77,78,79,80] (fun (j:Nat) (m:List (Int×Int))=>j<=ins'.length/\EU ins' m1=EU (ins'.drop j) m) (fun j _=>[(47,dI j)]) (fun _ m=>(S1.set l (Ce LO)).set im (.map (eIN m))) (fun j _=>ins'.length-j) (0) (m1) (by simp) (fun j m hI =>?_)
     obtain⟨hj,hJ⟩:=hI
     by_cases hjl:j<ins'.length
     ·rw[A0 hjl,EU]at hJ
      try refine gf hin ?_
      exact⟨j+1,_,⟨by omega,hJ⟩,td1,wkR⟩
     ·rw[A1 hjl,EU]at hJ
      try refine gf hin ?_
      rw[hJ]
      exact⟨(hfin m).1,rfl,(hfin m).2⟩
    ·have hst:EF p y m1=m1:=by unfold EF;rw[if_neg hy3]
     rw[hst]
     try refine gz ?_
     exact⟨(hfin m1).1,rfl,(hfin m1).2⟩
   ·have hli:im≠l:=fun e=>by rw[<-e,w7]at hl;cases hl
    have hdi:im≠did:=fun e=>by rw[<-e,w7]at hd;cases hd
    exact⟨w7 .., by rw[w8 _ _ hli,w8 _ _ hdi,w7],(Keep.refl _ _).fresh (by rw[w8 _ _ hld];exact hl)⟩
  ·cases ho
   have hli:im≠l:=fun e=>by rw[<-e,w7]at hl;cases hl
   have hdi:im≠did:=fun e=>by rw[<-e,w7]at hd;cases hd
   have hmd:(S'.del l) im=some (.map (eIN (Nf p (linF (p.classes.map (·.parents)) c)))):=by simp only[Sig.del,hli,if_false];exact hG.1
   have hdd:(S'.del l) did=some .defs:=by simp only[Sig.del,Ne.symm hld,if_false];exact hG.2 did _ (w7 ..) (Ne.symm hdi)
   have hbeg:JU p c=Ic (Nf p (linF (p.classes.map (·.parents)) c)) (hasP p c):=rfl
   have hfr:∀j o,V j=some o->(S'.del l) j=some o/\j≠did:=fun j o h=>by
    have e1:j≠im:=fun e=>by rw[e,him]at h;cases h
    have e2:j≠did:=fun e=>by rw[e]at h;rw[w8 _ _ (Ne.symm hdi),h]at hd;cases hd
    have e3:j≠l:=fun e=>by rw[e]at h;rw[w8 _ _ (Ne.symm hli),h]at hl;cases hl
    refine⟨?_,e2⟩
    simp only[Sig.del,e3,if_false]
    exact hG.2 j o (by rw[w8 _ _ e2,w8 _ _ e1];exact h) e1
   generalize Nf p (linF (p.classes.map (·.parents)) c)=m at *
   generalize hhe:hasP p c=hs' at *
   try refine gf hhe ?_
   refine Bz 13 2 (fun ix hix =>?_)
   have hxi:im≠ix:=fun e=>by rw[<-e,hmd]at hix;cases hix
   have hxd:did≠ix:=fun e=>by rw[<-e,hdd]at hix;cases hix
   refine AA [4,5,8,59,60,79,80] (fun (k:Nat) (out:List Init)=>k<=hs'.length/\out.length<=k/\Ic m hs'=out++Ic m (hs'.drop k)) (fun k out=>[(61,dI k),(13,.slice (out.map F8) (.tag ix))]) (fun _ out=>(S'.del l).set ix (.tail 2 out.length)) (fun k _=>hs'.length-k) (0) ([]) (by simp) (fun k out hI =>?_)
   obtain⟨hk,hlen,hR⟩:=hI
   by_cases hkl:k<hs'.length
   ·rw[A0 hkl,Ic]at hR
    repeat' first|refine gf (gi hmd (gi hxi hhe)) ?_|apply gy<;>intro hh
    ·rw[hh,if_pos rfl]at hR
     exact⟨k+1,out++[⟨hs'[k],getM 0 hs'[k] m⟩],⟨by omega,by simp;omega,by rw[hR];simp⟩,td1,wkR⟩
    ·rw[hh,if_neg (by simp)]at hR
     exact⟨k+1,out,⟨by omega,by omega,hR⟩,td1,wkR⟩
   ·rw[A1 hkl,Ic,List.append_nil]at hR
    try refine gf (gi hmd (gi hxi hhe)) ?_
    refine Ng [did] (S':=V) (d' := .tup [sl ((JU p c).map F8),dI 0]) ⟨by rw[if_pos rfl,if_pos rfl],rfl⟩ (fun j o h =>?_) (hd := ?_) (hw := ?_)
    ·obtain⟨h1,h2⟩:=hfr j o h
     simp only[dels,List.foldl_cons,List.foldl_nil,Sig.del,h2,if_false]
     rw[w8 _ _ fun e=>by rw[e,hix]at h1;cases h1]
     exact h1
    ·simp only[List.mem_singleton,forall_eq]
     rw[w8 _ _ hxd];exact hdd
    ·rw[hbeg,hR]
     exact Gs ⟨AE _ _,A8 _,trivial⟩
@[reducible,instance] def a25:=fun p c V=>ah1 (@M3 p c V)
def isLD:DObj->Bool
 |.loop .. | .defs=>true
 |_=>false
theorem Ji{LO:DObj}{ps:Array Tmp}{asg body:Code}{n:Nat}{Sl:Fr}{did:Nat}(h:LO=.loop .ready none ps asg body n Sl did):isLD LO=true/\isLD (Ce LO)=true:=by subst h;exact⟨rfl,rfl⟩
def MonoG{S:Type}(G:Sig->S->Prop):Prop := ∀V S' s,G V s->(∀j x,V j=some x->isLD x=false->S' j=some x)->G S' s
def Indep{S:Type}(G:Sig->S->Prop)(S0:Sig):Prop := ∀l,S0 l=none->∀S1 S2 s,G S1 s->(∃x,S1 l=some x/\isLD x=true)->(∀j,j≠l->S2 j=S1 j)->G S2 s
def OS{S:Type}(G:Sig->S->Prop):Prop := ∀V s a o,G V s->V a=none->G (V.set a o) s
theorem MonoG.indep{S:Type}{G:Sig->S->Prop}(h:MonoG G)(S0:Sig):Indep G S0:=fun l _ S1 S2 s hG ⟨x,hx,hl⟩ hj=>h _ _ _ hG fun j y hy hd=>by
 rw[hj j fun e=>by rw[e,hx]at hy;cases hy;rw[hl]at hd;cases hd];exact hy
theorem MonoG.fresh{S:Type}{G:Sig->S->Prop}(h:MonoG G):OS G:=fun V s a o hG ha=>h _ _ _ hG fun j y hy _=>by
 rw[w8 _ _ fun e=>by rw[e,ha]at hy;cases hy];exact hy
theorem Indep.older{S:Type}{G:Sig->S->Prop}{S0 S1:Sig}(h:Indep G S0)(hs:∀j,S1 j=none->S0 j=none):Indep G S1:=fun l hl=>h l (hs l hl)
def GoodG{S:Type}(l:Nat)(LO:DObj)(G:Sig->S->Prop)(touch:Nat->Prop)(base:Sig):Sig->S->Prop:=fun S' s=>S' l=some LO/\G S' s/\Keep touch base S'
theorem GoodG.new{S:Type}{l:Nat}{LO:DObj}{G:Sig->S->Prop}{touch:Nat->Prop}{base V:Sig}{s:S}{a:Nat}{o:DObj}(hm:OS G)(h:GoodG l LO G touch base V s)(ha:V a=none):GoodG l LO G touch base (V.set a o) s:=by
 have ne:∀j x,V j=some x->j≠a:=fun j x hj e=>by rw[e,ha]at hj;cases hj
 obtain⟨h1,h2,h3⟩:=h
 exact⟨by rw[w8 _ _ (ne _ _ h1)];exact h1,hm _ _ _ _ h2 ha,fun j x hj ht=>by
  have:=h3 j x hj ht
  rw[w8 _ _ (ne _ _ this)];exact this⟩
theorem GoodG.indep{S:Type}{l:Nat}{LO:DObj}{G:Sig->S->Prop}{touch:Nat->Prop}{base S0:Sig}{s0:S}(h0:GoodG l LO G touch base S0 s0)(hi:Indep G S0):Indep (GoodG l LO G touch base) S0:=fun k hk S1 S2 s hG hx hj=>by
 have hlk:l≠k:=fun e=>by have:=h0.1;rw[e,hk]at this;cases this
 refine⟨by rw[hj l hlk];exact hG.1,hi k hk _ _ _ hG.2.1 hx hj,fun j x hb hn =>?_⟩
 rw[hj j fun e=>by have:=h0.2.2 j x hb hn;rw[e,hk]at this;cases this]
 exact hG.2.2 j x hb hn
theorem IX{P:Program}{n:Nat}{Q:DX->St->Prop}{O:Fr}{V:Sig}{df:List DDf}{gop:Operand}{ps:Array Tmp}{asg body:Code}{f:Nat}{first cap:List D}{S:Type}(u:D)(G:Sig->S->Prop)(touch tp:Nat->Prop)(o:Option S)(s0:S)
  (hm:Indep G V) (hf':OS G) (h0:G V s0) (ht:∀j,touch j->V j≠none) (htp:∀j,tp j->V j≠none) (hf:ev O gop=.func (.func f) first cap)
  (hcall : ∀ l did LO SL,LO=DObj.loop .ready none ps asg body n O did->V did=none->(V.set did .defs) l=none -> ¬ touch l->SL=(V.set did .defs).set l LO->GoodG l LO G touch (V.set did .defs) SL s0->(∀ a,SL a=none -> ¬ touch a) ->
   DCall P f (first++[.yld l]++cap) SL (OutO u (.tup []) (GoodG l LO G touch (V.set did .defs)) (Keep tp (V.set did .defs)) touch SL o))
  (hret:∀did s S',o=some s->V did=none->S' did=some .defs->G S' s->(∀j x,V j=some x->¬touch j->S' j=some x/\j≠did)->Q .normal ⟨O,S',.coll did::df⟩)
  (hpan:∀did S',o=none->V did=none->S' did=some .defs->(∀j x,V j=some x->¬tp j->S' j=some x/\j≠did)->Q (.panic u) ⟨O,S',.coll did::df⟩) :
  DWp P none n (.rangeFunc gop ps asg body) Q ⟨O,V,df⟩:=by
 have dne:∀{did:Nat},V did=none->∀j x,V j=some x->j≠did:=fun hd j x hj e=>by rw[e,hd]at hj;cases hj
 refine F4 (R:=fun l did=>OutO u (.tup []) (GoodG l (DObj.loop .ready none ps asg body n O did) G touch (V.set did .defs)) (Keep tp (V.set did .defs)) touch ((V.set did .defs).set l (DObj.loop .ready none ps asg body n O did)) o) hf (fun l did hd hl hld =>?_) (fun l did d S' hd hl hld hr =>?_) (fun l did d S' hd hl hld hr =>?_)
 ·have hl':(V.set did .defs) l=none:=by first|exact hl|(rw[w8 _ _ hld];exact hl)
  have hl0:V l=none:=by rw[w8 _ _ hld]at hl';exact hl'
  refine hcall l did _ _ rfl hd hl' (fun h=>ht _ h hl0) rfl ⟨w7 .., hf' _ _ _ _ (hf' _ _ _ _ h0 hd) hl',fun j x hj hn =>?_⟩ fun a ha h=>ht a h ?_
  ·rw[w8 _ _ fun e=>by rw[e,hl']at hj;cases hj];exact hj
  ·by_cases e1:a=l
   ·rw[e1,w7]at ha;cases ha
   ·rw[w8 _ _ e1]at ha
    by_cases e2:a=did
    ·rw[e2,w7]at ha;cases ha
    ·rw[w8 _ _ e2]at ha;exact ha
 ·have hl':(V.set did .defs) l=none:=by first|exact hl|(rw[w8 _ _ hld];exact hl)
  have hl0:V l=none:=by rw[w8 _ _ hld]at hl';exact hl'
  obtain⟨s,hs,rfl,⟨hl2,hG1,hK⟩,_⟩:=hr.ret
  have hdt:¬touch did:=fun h=>ht _ h hd
  have dl:∀j,j≠l->(S'.del l) j=S' j:=fun j h=>by simp only[Sig.del,h,if_false]
  refine⟨_,_,hl2,by simp,hret did s _ hs hd ?_ ?_ fun j x hj hn=>⟨?_,dne hd j x hj⟩⟩
  ·rw[dl _ (Ne.symm hld)];exact hK did _ (w7 ..) hdt
  ·exact hm l hl0 _ _ _ hG1 ⟨_,hl2,rfl⟩ fun j hj=>dl j hj
  ·rw[dl _ (dne hl0 j x hj)];exact hK j x (by rw[w8 _ _ (dne hd j x hj)];exact hj) hn
 ·obtain⟨hn,rfl,hb⟩:=hr.pan
  exact hpan did S' hn hd (hb did _ (w7 ..) fun h=>htp _ h hd) fun j x hj hn=>⟨hb j x (by rw[w8 _ _ (dne hd j x hj)];exact hj) hn,dne hd j x hj⟩
section
variable {S:Type}{l:Nat}{LO:DObj}{G:Sig->S->Prop}{touch:Nat->Prop}{base S1 S2:Sig}{s s':S}{u:D}{step:Option S}{O:List (Nat×D)}{df:List DDf}{ps:Array Tmp}{asg body:Code}{n:Nat}{Sl:List (Nat×D)}{did:Nat}{Good:Sig->S->Prop}{Bad:Sig->Prop}
theorem HU(hst:step=some s')(hLO:LO=.loop .ready none ps asg body n Sl did)(hm:Indep G base)(hG:GoodG l LO G touch base S1 s)(hl:¬touch l)(hbl:base l=none)(hG2:G S2 s')(hK:Keep touch (S1.set l (Ce LO)) S2):
  Qc l LO (OutO u (.bool true) (GoodG l LO G touch base) Bad touch S1 step) .normal ⟨O,S2,df⟩:=by
 subst hst
 have h2:S2 l=some (Ce LO):=hK l _ (w7 ..) hl
 have hk1:Keep touch S1 (S2.set l LO):=fun j x hj hn=>by
  by_cases e:j=l
  ·rw[e,hG.1]at hj;rw[e,w7];exact hj
  ·rw[w8 _ _ e];exact hK j x (by rw[w8 _ _ e];exact hj) hn
 exact⟨h2,rfl,⟨w7 .., hm l hbl _ _ _ hG2 ⟨_,h2,(Ji hLO).2⟩ fun j hj=>w8 _ _ hj,hG.2.2.trans hk1⟩,hk1⟩
theorem Kb(hst:step=none)(hB:Bad S2):Qc l LO (OutO u (.bool true) Good Bad touch S1 step) (.panic u) ⟨O,S2,[]⟩:=by
 subst hst
 exact⟨rfl,rfl,hB⟩
theorem GoodG.bad{tp:Nat->Prop}(hG:GoodG l LO G touch base S1 s)(hbl:base l=none)(ht:∀j,touch j->tp j)(hK:Keep tp (S1.set l (Ce LO)) S2):Keep tp base S2:=fun j x hj hn =>
 hK j x (by rw[w8 _ _ fun e=>by rw[e,hbl]at hj;cases hj];exact hG.2.2 j x hj fun h=>hn (ht j h)) hn
theorem SM{tp:Nat->Prop}{o:DObj}(hK:Keep tp (S1.set l o) S2):Keep (fun j=>tp j\/j=l) S1 S2:=fun j x hj hn =>
 hK j x (by rw[w8 _ _ fun e=>hn (.inr e)];exact hj) fun h=>hn (.inl h)
theorem OutO.bad{r:D}{Good:Sig->S->Prop}{Bad Bad':Sig->Prop}{V S':Sig}{o:Option S}{x:DE}(h:OutO u r Good Bad touch V o x S')(hb:Bad S'->Bad' S'):OutO u r Good Bad' touch V o x S':=by
 cases o with
 |none=>exact⟨h.1,hb h.2⟩
 |some s=>exact h
theorem GoodG.busy(hLO:LO=.loop .ready none ps asg body n Sl did)(hm:Indep G base)(hbl:base l=none)(hG:GoodG l LO G touch base S1 s):G (S1.set l (Ce LO)) s :=
 hm l hbl _ _ _ hG.2.1 ⟨_,hG.1,(Ji hLO).1⟩ fun j hj=>w8 _ _ hj
end
section
variable {P:Program}{ro:Option Nat}{n:Nat}{ops:Array Oper}{N:Nat}{S0:Sig}{Q:DX->St->Prop}{df:List DDf}{rest:List Oper}{O Sr:List (Nat×D)}{V:Sig}{t:Nat}{ty:TypeId}{pos:String}{after:Array Edge}{l:List (Bool×Oper)}{d:D}
theorem yldWG{j:Nat}{want:Bool}{k:Nat}{fop:Operand}{args:Array Operand}{ats:Array TypeId}{l:Nat}{us:List D}{R:DE->Sig->Prop}{dst:Option Tmp}(h:DYield P l us V R)(hret:∀d S',R (.ret d) S'->DOps P ro n ops Q rest ⟨putD dst d O,S',df⟩)(hpan:∀d S',R (.panic d) S'->Q (.panic d) ⟨O,S',df⟩)
  (hk:(ops[j]?).bind (·.dst)=some k:=by exact tdR) (hb:O.lookup k=some (.bool want):=by exact tdR) (hl:A5 O (A9 (fop::args.toList))=some Sr:=by exact tdR) (hf:ev Sr fop=.yld l:=by exact tdR) (ha:args.toList.map (ev Sr)=us:=by(simp(disch:=first|omega|assumption) [Ao,big1,big2,w8]<;>(try simp only[Bn,Bo,AX,Bm,AC,B0,AZ,AY,AW,AB,AV,AU,AT])<;>with_unfolding_all rfl))
  (ho:At n ⟨dst,(cv fop args ats),ty,pos,after,some (j,want)⟩=true:=by exact tdR) :
  DOps P ro n ops Q (⟨dst,(cv fop args ats),ty,pos,after,some (j,want)⟩::rest) ⟨O,V,df⟩:=by
 have hx:∀x∈fop::args.toList,ev Sr x=ev O x:=fun x hx=>C4 fun t ht=>AQ hl t (Bc (by rw[<-ht];exact hx))
 refine L7 (by simp only[AJ,C8 hk hb];simp) (by rw[<-hx fop (by simp)];exact hf) ?_ ho hret hpan
 rw[show args.toList.map (ev O)=args.toList.map (ev Sr) from List.map_congr_left fun x h=>(hx x (by simp[h])).symm,ha]
 exact h
end
theorem Ju{P:Program}{n:Nat}{fn:Func}{R:DE->Sig->Prop}{O:Fr}{V S':Sig}{d:D}(js:List Nat)(hR:R (.panic d) S')(hZ:Sub S' (dels js V))(hn:js.Nodup:=by simp)(hd:∀j∈js,V j=some .defs:=by simp): ∃s',Wk P n ⟨O,V,js.map .coll⟩ s'/\Rx P n fn (Weak R) (.panic d) s' :=
 ⟨_,Wk.refl _ _ _,js,rfl,hn,hd,.panic d,S',A8 _,hZ,hR⟩
theorem FV{V S':Sig}{did:Nat}(h:∀j x,V j=some x->S' j=some x/\j≠did):Sub V (dels [did] S'):=fun j x hj=>by
 obtain⟨h1,h2⟩:=h j x hj
 simp only[dels,List.foldl_cons,List.foldl_nil,Sig.del,h2,if_false];exact h1
section
variable {P:Program}{ro:Option Nat}{n:Nat}{Q:DX->St->Prop}{df:List DDf}{O:List (Nat×D)}{V:Sig}
theorem loopD4{Sk:Fr}{α β δ ε:Type}{c:Code}(keep:List Nat)(I:α->β->δ->ε->Prop)(ov:α->β->δ->ε->Fr)(sg:α->β->δ->ε->Sig)(dg:α->β->δ->ε->List DDf)(μ:α->β->δ->ε->Nat)(x0:α)(y0:β)(z0:δ)(u0:ε)(h0:I x0 y0 z0 u0)
  (round:∀x y z u,I x y z u->DWp P ro n c (Then (fun s' => ∃x' y' z' u',I x' y' z' u'/\μ x' y' z' u'<μ x y z u/\Wk P n s' ⟨ov x' y' z' u'++Sk,sg x' y' z' u',dg x' y' z' u'⟩) Q) ⟨ov x y z u++Sk,sg x y z u,dg x y z u⟩) (hk:E6 O keep=some Sk:=by exact tdR) (h1:TellsR O (ov x0 y0 z0 u0++Sk):=by(first|refine GY ?_ ?_|skip)<;>(repeat' first|exact GX|refine FU tdR ?_ ?_|(first|exact A8 _|exact AE _ _|exact Al _ (.inl rfl)|exact Em _|(refine IB _ ?_;first|omega|(simp;done)|(simp;omega))|(refine AS ?_;(simp;done))|(refine AS ?_;(simp[cI,cS,cII,DR,Cv,Cz];done))|(refine Cj _ ?_;(simp[cI,cS,cII];done))|(refine AS ?_;(simp_all;done))|assumption))) (h2:Sub (sg x0 y0 z0 u0) V:=by first|exact Sub.refl _|(refine B3 ?_;simp;done)|assumption|exact(Sub.refl _).set (by assumption)) (h3:dg x0 y0 z0 u0=df:=by rfl):DWp P ro n (.loop c) Q ⟨O,V,df⟩:=by
 subst h3
 refine PZ (fun x:{x:α×β×δ×ε // I x.1 x.2.1 x.2.2.1 x.2.2.2}=>⟨ov x.1.1 x.1.2.1 x.1.2.2.1 x.1.2.2.2++Sk,sg x.1.1 x.1.2.1 x.1.2.2.1 x.1.2.2.2,dg x.1.1 x.1.2.1 x.1.2.2.1 x.1.2.2.2⟩) (fun x=>μ x.1.1 x.1.2.1 x.1.2.2.1 x.1.2.2.2) ⟨(x0,y0,z0,u0),h0⟩ (Lq h1 h2) fun x=>F5 (round x.1.1 x.1.2.1 x.1.2.2.1 x.1.2.2.2 x.2) ?_
 intro e s h
 cases e with
 |normal=>obtain⟨x',y',z',u',h3,h4,h5⟩:=h;exact⟨⟨(x',y',z',u'),h3⟩,h4,h5⟩
 |_=>exact h
end
theorem JL: ∀(js:List Nat) (V:Sig) (j:Nat),j∉js->dels js V j=V j
 |[],_,_,_=>rfl
 |i::r,V,j,h=>by
  simp only[List.mem_cons,not_or]at h
  simp only[dels,List.foldl_cons]
  rw[show List.foldl Sig.del (V.del i) r=dels r (V.del i) from rfl,JL r _ j h.2]
  simp only[Sig.del,h.1,if_false]
theorem Vk{V S':Sig}{js:List Nat}(h:Sub V S')(hj:∀j∈js,V j=none):Sub V (dels js S'):=fun j x hx=>by
 rw[JL js S' j fun hm=>by rw[hj j hm]at hx;cases hx];exact h j x hx
def RowAt(V:Sig)(sz:Nat):MR->List (List D)->Prop
 |none,es=>es=[]
 |some (i,cap,rest),es=>V i=some (.cells (es.flatten++rest))/\(es.flatten++rest).length=cap*sz/\es.length<=cap /\ ∀e∈es,e.length=sz
def Cm:MR->Nat->Prop
 |none,_=>False
 |some (i,_,_),j=>j=i
theorem RowAt.cells{V:Sig}{sz:Nat}{st:MR}{es:List (List D)}(h:RowAt V sz st es){j:Nat}(hj:Cm st j): ∃cs,V j=some (.cells cs):=by
 cases st with
 |none=>exact hj.elim
 |some x=>cases hj;exact⟨_,h.1⟩
theorem RowAt.keep{V S':Sig}{sz:Nat}{st:MR}{es:List (List D)}(h:RowAt V sz st es)(hk:∀j o,V j=some o->Cm st j->S' j=some o):RowAt S' sz st es:=by
 cases st with
 |none=>exact h
 |some x=>exact⟨hk _ _ h.1 rfl,h.2⟩
theorem RowAt.mS{V:Sig}{sz:Nat}{st:MR}{es:List (List D)}(h:RowAt V sz st es): ∃S',V=mS S' st es/\mOK S' sz st es/\(∀j o,V j=some o->¬Cm st j->S' j=some o) /\ ∀j o,S' j=some o->V j=some o /\ ¬Cm st j:=by
 cases st with
 |none=>exact⟨V,rfl,h,fun j o h _=>h,fun j o h=>⟨h,id⟩⟩
 | some x =>
  obtain⟨i,cap,rest⟩:=x
  obtain⟨h1,h2,h3,h4⟩:=h
  refine⟨V.del i,?_,⟨by simp[Sig.del],h2,h3,h4⟩,fun j o hj hn =>?_,fun j o hj =>?_⟩
  ·funext j
   simp only[DL.mS,Sig.set,Sig.del]
   by_cases e:j=i
   ·subst e;simp[h1]
   ·simp[e]
  ·have:j≠i:=hn
   simp only[Sig.del,this,if_false];exact hj
  ·by_cases e:j=i
   ·simp[Sig.del,e]at hj
   ·simp only[Sig.del,e,if_false]at hj;exact⟨hj,e⟩
theorem P4{V:Sig}{sz:Nat}{st:MR}{es:List (List D)}(h:mOK V sz st es):RowAt (mS V st es) sz st es:=by
 cases st with
 |none=>exact h
 |some x=>obtain⟨i,cap,rest⟩:=x;exact⟨w7 .., h.2⟩
def RowK(V:Sig)(st:MR)(S':Sig)(st':MR):Prop := ∀j o,V j=some o->¬Cm st j->S' j=some o /\ ¬Cm st' j
theorem RowK.refl(V:Sig)(st:MR):RowK V st V st:=fun j o h hn=>⟨h,hn⟩
theorem RowK.trans{V S1 S2:Sig}{st st1 st2:MR}(h:RowK V st S1 st1)(k:RowK S1 st1 S2 st2):RowK V st S2 st2:=fun j o hj hn=>k _ _ (h j o hj hn).1 (h j o hj hn).2
theorem RP{V:Sig}{sz:Nat}{st st':MR}{es es':List (List D)}(h:RowAt V sz st es){S1:Sig}(h1:mOK S1 sz st' es')(hk:∀j o,V j=some o->¬Cm st j->S1 j=some o):RowK V st (mS S1 st' es') st':=fun j o hj hn=>by
 have hj1:=hk j o hj hn
 have hr:¬Cm st' j:=by
  cases st' with
  |none=>exact id
  |some x =>
   obtain⟨i,cap,rest⟩:=x
   intro e
   have e:j=i:=e
   rw[e,h1.1]at hj1;cases hj1
 exact⟨SG h1 hj1,hr⟩
section
variable {ro:Option Nat}{n:Nat}{ops:Array Oper}{N:Nat}{S0:Sig}{Q:DX->St->Prop}{df:List DDf}{rest:List Oper}{O Sr:List (Nat×D)}{V:Sig}{t:Nat}{ty:TypeId}{pos:String}{after:Array Edge}{d:D}
theorem rapp{T T' e e' sz:Nat}{s x:Operand}{es new:List (List D)}{st:MR}(h:∀st' S',RowAt S' sz st' (es++new)->RowK V st S' st'->DOps prog ro n ops Q rest ⟨(t,mD st' (es.length+new.length))::O,S',df⟩)(hm:RowAt V sz st es:=by assumption)
  (hl:A5 O (A9 [s,x])=some Sr:=by exact tdR) (hk:(tab T).k=.slice e:=by(simp<;>rfl)) (hk':(tab T').k=.slice e':=by(simp<;>rfl)) (he:A6 (tab e).k=false:=by simp) (hsz:(tab e).size=sz:=by simp)
  (h1:ev Sr s=mD st es.length:=by first|with_unfolding_all rfl|(simp[ev,getD,List.lookup];done)) (h2:esOf (ev Sr x)=some new:=by(simp<;>with_unfolding_all rfl))
  (hlen':∀c∈new,c.length=sz:=by first|exact BQ _|exact Db _|exact BJ _|simp) (hfl:∀c∈new,D1 c=true:=by simp[cI,cS,cII,D1,D.flat])
  (hb:(es.length+new.length)*(tab e).bytes<=140737488355328:=by first|(simp;done)|(simp;omega)) (hm2:es.length+new.length<=9223372036854775807:=by first|(simp;done)|(simp;omega)) (htn:decide (t<n)=true:=by exact tdR) :
  DOps prog ro n ops Q (⟨some t,(cA s x T T'),ty,pos,after,none⟩::rest) ⟨O,V,df⟩:=by
 obtain⟨e1,e2⟩:=evs hl
 obtain⟨S1,rfl,hm1,hk1,hk2⟩:=hm.mS
 exact JJ Ad (by simpa using htn) hk hk' he hsz (by rw[<-e1];exact h1) hm1 (by rw[<-e2];exact h2) hlen' hfl hb hm2 (fun st' h'=>by rw[List.length_append];exact h st' _ (P4 h') (RP hm h' hk1))
theorem moRapp{T T' e e' sz:Nat}{s x:Operand}{es new:List (List D)}{st:MR}{l:List (Bool×Oper)}(h:∀st' S',RowAt S' sz st' (es++new)->RowK V st S' st'->MO prog ro n ops N S0 Q df l ((t,mD st' (es.length+new.length))::O) S')(hC:∀j o,S0 j=some o->V j=some o /\ ¬Cm st j)(hm:RowAt V sz st es:=by assumption)
  (hl:A5 O (A9 [s,x])=some Sr:=by exact tdR) (hk:(tab T).k=.slice e:=by(simp<;>rfl)) (hk':(tab T').k=.slice e':=by(simp<;>rfl)) (he:A6 (tab e).k=false:=by simp) (hsz:(tab e).size=sz:=by simp)
  (h1:ev Sr s=mD st es.length:=by first|with_unfolding_all rfl|(simp[ev,getD,List.lookup];done)) (h2:esOf (ev Sr x)=some new:=by(simp<;>with_unfolding_all rfl))
  (hlen':∀c∈new,c.length=sz:=by first|exact BQ _|exact Db _|exact BJ _|simp) (hfl:∀c∈new,D1 c=true:=by simp[cI,cS,cII,D1,D.flat])
  (hb:(es.length+new.length)*(tab e).bytes<=140737488355328:=by first|(simp;done)|(simp;omega)) (hm2:es.length+new.length<=9223372036854775807:=by first|(simp;done)|(simp;omega)) (htn:decide (t<n)=true:=by exact tdR) :
  MO prog ro n ops N S0 Q df ((true,⟨some t,(cA s x T T'),ty,pos,after,none⟩)::l) O V :=
 mo1 (fun U2 hx=>by
  obtain⟨e1,e2⟩:=HY hl hx
  obtain⟨S1,rfl,hm1,hk1,hk2⟩:=hm.mS
  refine JJ Ad (by simpa using htn) hk hk' he hsz (by rw[e1];exact h1) hm1 (by rw[e2];exact h2) hlen' hfl hb hm2 (fun st' h' =>?_)
  have hK:=RP hm h' hk1
  refine AL ⟨rfl,?_⟩
  simp only[Aa,if_true]
  exact⟨fun j o hj=>(hK j o (hC j o hj).1 (hC j o hj).2).1,by rw[List.length_append];exact h st' _ (P4 h') hK⟩) htn
end
noncomputable def Sig.out(V:Sig)(touch:Nat->Prop):Sig:=open Classical in fun j=>if touch j then none else V j
theorem Bv(V:Sig)(touch:Nat->Prop):Sub (V.out touch) V:=fun j o h=>by
 unfold Sig.out at h;split at h
 ·cases h
 ·exact h
theorem C1{V:Sig}{touch:Nat->Prop}{j:Nat}{o:DObj}(h:(V.out touch) j=some o):V j=some o /\ ¬touch j:=by
 unfold Sig.out at h;split at h
 ·cases h
 ·exact⟨h,by assumption⟩
theorem DG{V:Sig}{touch:Nat->Prop}{j:Nat}{o:DObj}(h:V j=some o)(ht:¬touch j):(V.out touch) j=some o:=by
 unfold Sig.out;rw[if_neg ht];exact h
section
variable {P:Program}{ro:Option Nat}{n:Nat}{Q:DX->St->Prop}{O:List (Nat×D)}{V:Sig}{df:List DDf}
theorem dwp_cut1{x1 b:Code}(ov:Fr)(S':Sig)(h2:DWp P ro n b Q ⟨ov++O,S',df⟩)(h1:∀b,DWp P ro n b Q ⟨ov++O,S',df⟩->DWp P ro n (.seq x1 b) Q ⟨O,V,df⟩):DWp P ro n (.seq x1 b) Q ⟨O,V,df⟩:=h1 b h2
theorem dwp_cut3{x1 x2 x3 b:Code}(ov:Fr)(S':Sig)(h2:DWp P ro n b Q ⟨ov++O,S',df⟩)(h1:∀b,DWp P ro n b Q ⟨ov++O,S',df⟩->DWp P ro n (.seq x1 (.seq x2 (.seq x3 b))) Q ⟨O,V,df⟩):DWp P ro n (.seq x1 (.seq x2 (.seq x3 b))) Q ⟨O,V,df⟩:=h1 b h2
theorem Wr{x1 x2 x3 x4 x5 x6 b:Code}(ov:Fr)(S':Sig)(h2:DWp P ro n b Q ⟨ov++O,S',df⟩)(h1:∀b,DWp P ro n b Q ⟨ov++O,S',df⟩->DWp P ro n (.seq x1 (.seq x2 (.seq x3 (.seq x4 (.seq x5 (.seq x6 b)))))) Q ⟨O,V,df⟩):DWp P ro n (.seq x1 (.seq x2 (.seq x3 (.seq x4 (.seq x5 (.seq x6 b)))))) Q ⟨O,V,df⟩:=h1 b h2
theorem Ag{U':Fr}{S':Sig}(h:TellsS O [] U')(hZ:Sub S' V):Wk P n ⟨O,V,df⟩ ⟨U',S',df⟩:=(Fo h hZ).2
end
section
variable {P:Program}{ro:Option Nat}{n:Nat}{ops:Array Oper}{Q:DX->St->Prop}{df:List DDf}{rest:List Oper}{O:List (Nat×D)}{V:Sig}
theorem mixT{lo:List Oper}{id:Nat}(k:Nat)(ord E:List Nat){lp:List (Bool×Oper)}{ls:List Oper}(h:MO prog ro n lo.toArray 334 V (Then (fun s=>DOps prog ro n lo.toArray Q ls s) Q) df lp O V)(hB:Oy lo.toArray E ord k=true:=by kernel_rfl)(hls:lo.drop k=ls:=by exact tdR)(hl:GB lo E ord=some lp:=by exact tdR):DWp prog ro n (.region id lo.toArray true) Q ⟨O,V,df⟩:=by
 subst hls;exact Wo Ak mixed k ord E V hB (Sub.refl _) hl h
theorem ent3{t1 t2 T id:Nat}{x:Operand}{s:ByteArray}{v:Int}{ty1 ty2 ty3:TypeId}{p1 p2 p3:String}{f1 f2 f3:Array Edge}{m:List (Str×Int)}
  (h:DOps prog ro n ops Q rest ⟨(t2,.any)::(t1,.any)::O,V.set id (.map (eSN (putM s.data.toList v m))),df⟩) (hZ:V id=some (.map (eSN m)):=by first|assumption|exact w7 ..) (hm:ev O x=.map id:=by exact tdR) (hT:T=158:=by rfl) (ht1:decide (t1<n)=true:=by exact tdR) (ht2:decide (t2<n)=true:=by exact tdR) (hx1:x≠.tmp t1:=by simp) (hx2:x≠.tmp t2:=by simp) :
  DOps prog ro n ops Q (⟨some t1,.mapEntry T x (.const (.string s)),ty1,p1,f1,none⟩::⟨some t2,.extract (.tmp t1) 1,ty2,p2,f2,none⟩::⟨none,.entryStore T x (.tmp t2) (.const (.int .i64 v)),ty3,p3,f3,none⟩::rest) ⟨O,V,df⟩:=by
 subst hT
 exact OL (tab:=tab) (kt:=9) (et:=3) (l:=eSN m) (zd:=dI 0) Ad rfl rfl rfl rfl hm hZ (putSN _ _ _) (by simpa using ht1) (by simpa using ht2) hx1 hx2 (by simp) (by simp) h
end
def cB8(s:Str):List (List D):=s.map fun b=>[D.int .u8 (b.toNat:Int)]
@[simp] theorem cB8_len(l:Str):(cB8 l).length=l.length:=by simp[cB8]
@[simp] theorem cB8_mem(l:Str): ∀c∈cB8 l,c.length=1:=by simp[cB8]
section
variable {ro:Option Nat}{n:Nat}{ops:Array Oper}{Q:DX->St->Prop}{df:List DDf}{rest:List Oper}{O Sr:List (Nat×D)}{V:Sig}{t:Nat}{ty:TypeId}{pos:String}{after:Array Edge}{gd:Option (Nat×Bool)}
theorem strR{T T' e:Nat}{x:Operand}(s:Str)(h:DOps prog ro n ops Q rest ⟨(t,.str s)::O,V,df⟩)(hl:A5 O (A9 [x])=some Sr:=by exact tdR)(hx:esOf (ev Sr x)=some (cB8 s):=by exact tdR)(hw:AJ ops O ⟨some t,.convert T T' x,ty,pos,after,gd⟩=some true:=by exact tdR)(htn:decide (t<n)=true:=by exact tdR)
  (hk:(tab T).k=.slice e:=by(simp<;>rfl)) (hk':(tab T').k=.str:=by(simp<;>rfl)) (hke:(tab e).k=.int .u8:=by(simp<;>rfl)) :
  DOps prog ro n ops Q (⟨some t,.convert T T' x,ty,pos,after,gd⟩::rest) ⟨O,V,df⟩:=Ws Ad h hw (by simpa using htn) hk hk' hke (by rw[<-C2 hl];exact hx)
theorem skpV{P:Program}{j:Nat}{want:Bool}{k:Nat}{fop:Operand}{args:Array Operand}{ats:Array TypeId}(h:DOps P ro n ops Q rest ⟨(t,.tup [])::O,V,df⟩)(hk:(ops[j]?).bind (·.dst)=some k:=by exact tdR)(hb:O.lookup k=some (.bool (!want)):=by exact tdR)(hl:A5 O (A9 [fop])=some Sr:=by exact tdR)(hf:ev Sr fop=.tup []:=by exact tdR)(htn:decide (t<n)=true:=by exact tdR):
  DOps P ro n ops Q (⟨some t,(cv fop args ats),ty,pos,after,some (j,want)⟩::rest) ⟨O,V,df⟩:=by
 intro g w a r hr hs'
 have hw':AJ ops O ⟨some t,(cv fop args ats),ty,pos,after,some (j,want)⟩=some false:=by simp only[AJ,C8 hk hb];simp
 have he:=As hs'.tmps fop
 rw[C2 hl]at hf
 rw[hf]at he
 obtain⟨vs,hv,hr0⟩:=he
 obtain rfl:vs=[]:=hr0
 unfold wpListIn
 rw[AF hs'.tmps hw',if_neg (by simp)]
 refine⟨fun f hf =>?_,h g w _ r hr ?_⟩
 ·unfold Oper.about at hf
  simp[resolve,hv,Deferred.ofValue,stuck,Sem.run]at hf
 ·exact hs'.put (g':=g) (o:=⟨some t,(cv fop args ats),ty,pos,after,some (j,want)⟩) (d := .tup []) (.refl g) hs'.sim ⟨[],rfl,rfl⟩ htn
end
section
variable {ro:Option Nat}{n:Nat}{ops:Array Oper}{N:Nat}{S0:Sig}{Q:DX->St->Prop}{df:List DDf}{rest:List Oper}{O Sr:List (Nat×D)}{V:Sig}{t:Nat}{ty:TypeId}{pos:String}{after:Array Edge}{l:List (Bool×Oper)}{d:D}{ef:Bool}
theorem moQAppC{s x:Operand}{T T' e e':Nat}{es new:List (List D)}(k1:MO prog ro n ops N S0 Q df l ((t,.slice (es++new) .no)::O) V)(hl:A5 O (A9 [s,x])=some Sr:=by exact tdR)(hk:(tab T).k=.slice e:=by(simp<;>rfl))(hk':(tab T').k=.slice e':=by(simp<;>rfl))(he:A6 (tab e).k=false:=by simp)
  (h1:ev Sr s=.slice es .clip:=by exact tdR) (h2:esOf (ev Sr x)=some new:=by(simp<;>with_unfolding_all rfl))
  (hlen:∀c∈es,c.length=(tab e).size:=by first|exact BQ _|exact Db _|exact BJ _|simp) (hlen':∀c∈new,c.length=(tab e).size:=by first|exact BQ _|exact Db _|exact BJ _|simp)
  (hb:(es.length+new.length)*(tab e).bytes<=140737488355328:=by first|(simp;done)|(simp;omega)) (hm:es.length+new.length<=9223372036854775807:=by first|(simp;done)|(simp;omega)) (htn:decide (t<n)=true:=by exact tdR) :
  MO prog ro n ops N S0 Q df ((ef,⟨some t,(cA s x T T'),ty,pos,after,none⟩)::l) O V:=by
 have hop:∀y∈((cA s x T T')).operands,ev (only (Oper.looksAt ops ⟨some t,(cA s x T T'),ty,pos,after,none⟩) O) y=ev O y:=fun y hy=>Cd (o:=⟨some t,(cA s x T T'),ty,pos,after,none⟩) hy
 have hx:∀y∈[s,x],ev Sr y=ev O y:=fun y hy=>C4 fun t ht=>AQ hl t (Bc (by rw[<-ht];exact hy))
 refine Ph (.slice (es++new) .no) htn rfl (by rw[B5];rfl) (fun S' hS' ro' df' =>?_) k1
 have a1:ev (only (Oper.looksAt ops ⟨some t,(cA s x T T'),ty,pos,after,none⟩) O) s=.slice es .clip:=by rw[hop s (by simp[Op.operands,Call.operands]), <-hx s (by simp)];exact h1
 have a2:esOf (ev (only (Oper.looksAt ops ⟨some t,(cA s x T T'),ty,pos,after,none⟩) O) x)=some new:=by rw[hop x (by simp[Op.operands,Call.operands]), <-hx x (by simp)];exact h2
 by_cases hne:new=[]
 ·subst hne
  refine DD Ad (es:=es) (by rw[B5];rfl) (by simpa using htn) hk hk' he (by rw[a1];rfl) a2 ?_
  rw[a1]
  exact BE (BT (t:=t) (d := .slice (es++[]) .no) (by simp only[Aa,if_true,List.append_nil];exact AE _ _)) (AL ⟨rfl,by simp only[Aa,if_true],Sub.refl _⟩)
 ·exact C7 Ad (by rw[B5];rfl) (by simpa using htn) hk hk' he a1 a2 hne hlen hlen' hb hm fun i hi=>BE (BT (t:=t) (d := .slice (es++new) .no) (by simp only[Aa,if_true];exact AE _ _)) (AL ⟨rfl,by simp only[Aa,if_true],(Sub.refl _).set hi⟩)
end
theorem dwp_cutE3{P:Program}{ro:Option Nat}{n:Nat}{Q:DX->St->Prop}{O:Fr}{V:Sig}{df:List DDf}{x1 x2 x3 b:Code}(C:Nat->Prop)(ov:Nat->Fr)(S':Nat->Sig)(h2:∀i,C i->DWp P ro n b Q ⟨ov i,S' i,df⟩)(h1:∀b,(∀i,C i->DWp P ro n b Q ⟨ov i,S' i,df⟩)->DWp P ro n (.seq x1 (.seq x2 (.seq x3 b))) Q ⟨O,V,df⟩):DWp P ro n (.seq x1 (.seq x2 (.seq x3 b))) Q ⟨O,V,df⟩:=h1 b h2
theorem bytesR{ro:Option Nat}{n:Nat}{ops:Array Oper}{Q:DX->St->Prop}{df:List DDf}{rest:List Oper}{O Sr:Fr}{V:Sig}{t:Nat}{ty:TypeId}{pos:String}{after:Array Edge}{T T' e:Nat}{x:Operand}{s:Str}
  (h:DOps prog ro n ops Q rest ⟨(t,.slice (s.map fun b=>[D.int .u8 (b.toNat:Int)]) .no)::O,V,df⟩) (hl:A5 O (A9 [x])=some Sr:=by exact tdR) (hx:ev Sr x=.str s:=by exact tdR) (htn:decide (t<n)=true:=by exact tdR)
  (hk:(tab T).k=.str:=by(simp<;>rfl)) (hk':(tab T').k=.slice e:=by(simp<;>rfl)) (hke:(tab e).k=.int .u8:=by(simp<;>rfl)) :
  DOps prog ro n ops Q (⟨some t,.convert T T' x,ty,pos,after,none⟩::rest) ⟨O,V,df⟩:=Ro Ad h (by simpa using htn) hk hk' hke (by rw[<-C2 hl];exact hx)
theorem Qr{l:List Str}(h:l.Nodup){k:Nat}(hk:k<l.length): ¬l[k]∈l.take k:=fun hm=>by
 obtain⟨j,hj,e⟩:=List.getElem_of_mem hm
 rw[List.length_take]at hj
 rw[List.getElem_take]at e
 have:=(List.pairwise_iff_getElem.1 h) j k (by omega) hk (by omega)
 exact this e
theorem KU(V:Sig):DCall prog 240 [] V fun x S' => ∃im,V im=none/\x=.ret (.map im)/\S'=V.set im (.map (eSS kwds)):=by
 have hkw:kwds.length=24:=rfl
 have hnd:kwds.Nodup:=by decide
 refine en func240 ntmps240 ?_
 refine gz ?_
 refine LF (fun im him =>?_)
 refine gz ?_
 refine rtw 5 (sl (cS kwds)) ?_ (hw:=AE _ _)
 refine B2 [0,1,5,6,14] (fun (k:Nat)=>k<=kwds.length) (fun k=>[(7,dI k)]) (fun k=>V.set im (.map (eSS (kwds.take k)))) (fun k=>kwds.length-k) (0) (by simp) (fun k hI =>?_)
 by_cases h:k<kwds.length
 ·have hq:ins kwds[k] (kwds.take k)=kwds.take (k+1):=by unfold ins;rw[if_neg (Qr hnd h),AH h]
  refine gf hq ?_
  exact⟨k+1,by omega,td1,wkR⟩
 ·refine gz ?_
  refine fin1 (S':=V.set im (.map (eSS kwds))) ?_ (hZ:=by rw[List.take_of_length_le (by omega)];exact Sub.refl _)
  exact⟨im,him,rfl,rfl⟩
theorem KV(s:Str)(im:Nat)(V:Sig)(hm:V im=some (.map (eSS kwds)))(hl:s.length<=1073741824):DCall prog 239 [.str s,.map im] V (rS (.bool (AP s)) V):=by
 refine en func239 ntmps239 ?_
 repeat' first|refine gf hm ?_|apply gy<;>intro hh
 ·(refine fin1 (S':=V) ?_;exact⟨by first|rfl|(simp[AP,hh];done)|(simp_all [AP,hh];done)|(rw[A7,Bool.eq_iff_iff];simp_all [AP,hh]<;>omega),rfl⟩)
 ·any_goals (first|(refine fin1 (S':=V) ?_;exact⟨by first|rfl|(simp[AP];done)|(simp_all [AP];done)|(rw[A7,Bool.eq_iff_iff];simp_all [AP]<;>omega),rfl⟩)|fail)
 ·any_goals (first|(refine fin1 (S':=V) ?_;exact⟨by first|rfl|(simp[AP];done)|(simp_all [AP];done)|(rw[A7,Bool.eq_iff_iff];simp_all [AP]<;>omega),rfl⟩)|fail)
 ·rename_i e1 e2
  have hk:¬s∈kwds:=hh
  refine bytesR ?_
  refine gz ?_
  refine B2 [20,21] (fun (k:Nat)=>k<=s.length/\s.all Dq=(s.drop k).all Dq) (fun k=>[(22,dI k)]) (fun _=>V) (fun k=>s.length-k) (0) (by simp) (fun k hI =>?_)
  obtain⟨hkl,hR⟩:=hI
  by_cases h:k<s.length
  ·rw[A0 h,List.all_cons]at hR
   repeat' first|refine gz ?_|apply gy<;>intro hh
   ·have hn:Dq s[k]=false:=by unfold Dq;simp;omega
    rw[hn]at hR
    (refine fin1 (S':=V) ?_;exact⟨by first|rfl|(simp[AP,hR];done)|(simp_all [AP,hR];done)|(rw[A7,Bool.eq_iff_iff];simp_all [AP,hR]<;>omega),rfl⟩)
   ·have hn:Dq s[k]=false:=by unfold Dq;simp;omega
    rw[hn]at hR
    (refine fin1 (S':=V) ?_;exact⟨by first|rfl|(simp[AP,hR];done)|(simp_all [AP,hR];done)|(rw[A7,Bool.eq_iff_iff];simp_all [AP,hR]<;>omega),rfl⟩)
   ·have hn:Dq s[k]=true:=by unfold Dq;simp;omega
    exact⟨k+1,⟨by omega,by rw[hR,hn];rfl⟩,td1,wkR⟩
  ·rw[A1 h]at hR
   have h1:1<=s.length:=by cases s with|nil=>exact absurd rfl e1|cons _ _=>simp
   have hN:AP s=true:=by unfold AP;rw[hR,decide_eq_true (by omega),decide_eq_false (by assumption)];rfl
   repeat' first|refine gz ?_|apply gy<;>intro hh
   any_goals (first|exact fe1 hN|fail)
theorem U1(s:Str)(V:Sig)(hl:s.length<=1073741824):DCall prog 188 [.str s] V (rS (.bool (AP s)) V):=by
 refine en func188 ntmps188 ?_
 refine gz ?_
 refine Ab (KU V) (fun d S' hr =>?_) (fun d S' hr=>by obtain⟨_,_,h,_⟩:=hr;cases h)
 obtain⟨im,him,h1,rfl⟩:=hr
 simp only[DE.ret.injEq]at h1
 subst h1
 repeat' first|refine gz ?_|refine Ax (KV s im _ (w7 ..) hl) ?_|refine callP (KV s im _ (w7 ..) hl) ?_|refine gz ?_|apply gy<;>intro hh
 exact fe1 trivial
@[reducible,instance] def a188:=fun s V=>ah1 (@U1 s V)
theorem EH(s:Str)(im:Nat)(t:List Str)(V:Sig)(hm:V im=some (.map (eSS t)))(hl:s.length<=1073741824):
  DCall prog 189 [.str s,.map im] V fun x S'=>(AP s&&!decide (s∈t))=true/\x=.ret (.tup [])/\S'=V.set im (.map (eSS (t++[s])))\/(AP s&&!decide (s∈t))=false/\x=.panic unf2/\S'=V:=by
 refine en func189 ntmps189 ?_
 by_cases hs:s∈t
 ·have hc:(AP s&&!decide (s∈t))=false:=by simp[hs]
  rw[hc]
  repeat' first|refine gf (gi hm hs) ?_|apply gy<;>intro hh
  all_goals
   refine finP (S':=V) ?_
   exact .inr ⟨rfl,rfl,rfl⟩
 ·cases hn:AP s
  ·refine gf (gi hm (gi hs hn)) ?_
   refine finP (S':=V) ?_
   exact .inr ⟨rfl,rfl,rfl⟩
  ·have hq:ins s t=t++[s]:=by unfold ins;rw[if_neg hs]
   refine gf (gi hm (gi hs (gi hn hq))) ?_
   refine Eb (S':=V.set im (.map (eSS (t++[s])))) ?_
   exact .inl ⟨by simp[hs],rfl,rfl⟩
end Go.DL
