/- A part of the proof. -/
import Derived.Test.YteldimffglchkaaGreatDoorR16
import Derived.Test.YteldimffglchkaaGreatDoorR09
import Derived.Test.YteldimffglchkaaGreatDoorR15
import Derived.Test.YteldimffglchkaaGreatDoorR17
set_option linter.all false
namespace Go.DL
open Go.Proofs.Tryz
open Go Go.Proofs
set_option maxHeartbeats 8000000
theorem Pw{S:Type}(l:List Int)(lb:Nat)(u:D)(Good:Sig->S->Prop)(Bad:Sig->Prop)(touch:Nat->Prop)(step:Int->S->S)(hl:l.length<=1073741824)
  (hy:∀(k:Nat) (hk:k<l.length) O s,Good O s->DYield prog lb [dI k,dI l[k]] O (OutO u (.bool true) Good Bad touch O (some (step l[k] s)))) (O:Sig) (s:S) (hG:Good O s) :
  DCall prog 366 [.yld lb,.cptr [sl (cI l)] 0] O (OutO u (.tup []) Good Bad touch O (some (l.foldr step s))):=by
 refine en func366 ntmps366 ?_
 try refine gz ?_
 refine Gb [0,1] (fun (k:Nat) (s1:S) (S1:Sig)=>k<=l.length/\Good S1 s1/\l.foldr step s=(l.take k).foldr step s1/\(∀j o,O j=some o->¬touch j->S1 j=some o)) (fun k _ _=>[(3,dI ((k:Int)-1))]) (fun _ _ S1=>S1) (fun k _ _=>k) (l.length) (s) (O) (by exact⟨by omega,hG,by simp,fun _ _ h _=>h⟩) (fun k s1 S1 hI=>?_)
 obtain⟨hk,aP,hR,hK⟩:=hI
 cases k with
 |zero=>
  try refine gz ?_
  refine EW (U':=S1) ?_
  exact⟨rfl,by rw[hR];exact aP,hK⟩
 |succ k=>
  have ap:k<l.length:=by omega
  have e:((k+1:Nat):Int)-1=k:=by omega
  rw[List.take_succ_eq_append_getElem ap,List.foldr_append]at hR
  try refine gf e ?_
  refine yldW (hy k ap S1 s1 aP) (fun d U' hr=>?_) (fun d U' hr=>by obtain⟨h,_⟩:=hr.pan;cases h)
  obtain⟨s2,bF,rfl,bk,aO⟩:=hr.ret
  cases bF
  try refine gf e ?_
  exact⟨k,_,U',⟨by omega,bk,hR,fun j o h1 h2=>aO j o (hK j o h1 h2) h2⟩,td1,wkR⟩
theorem RU(l:List Int)(O:Sig):DCall prog 336 [sl (cI l)] O (rS (.func (.func 366) [] [.cptr [sl (cI l)] 0]) O):=by
 refine en func336 ntmps336 ?_
 try refine gz ?_
 exact fe1 trivial
@[reducible,instance] def a336:=fun l O=>ah0 (@RU l O)
def E8:List Init->List (Int×Int)->List (Int×Int)
 |[],m=>m
 |x::r,m=>E8 r (putM x.slot x.n m)
def DR(p:BProg)(c:Int)(m:List (Int×Int)):List (Int×Int):=if 3<=c then E8 (((p.classes[(c-3).toNat]?).map (·.inits)).getD []) m else m
def Ib(p:BProg)(order:List Int):List (Int×Int):=order.foldr (DR p) []
def beginL(m:List (Int×Int)):List Int->List Init
 |[]=>[]
 |s::r=>if hasM s m then⟨s,getM 0 s m⟩::beginL m r else beginL m r
def EG(p:BProg)(c:Int):List Init:=beginL (Ib p (linF (p.classes.map (·.parents)) c)) (hasP p c)
theorem H6{p:BProg}: ∀{cs:List BClass}{i:Nat},Ba p i cs=true->∀k,k<cs.length->linE (p.classes.map (·.parents)) (((i+k:Nat):Int)+3)=0
 |c::r,i,h,0,_=>by rw[Ba]at h;simp only[Bool.and_eq_true,decide_eq_true_eq]at h;exact h.1.1
 |c::r,i,h,k+1,hk=>by
  rw[Ba]at h;simp only[Bool.and_eq_true,decide_eq_true_eq]at h
  have:=H6 h.2 k (by simpa using hk)
  rw[show i+(k+1)=i+1+k by omega];exact this
theorem okP_lin{p:BProg}(h:okP p=true){c:Int}(h1:3<=c)(h2:c<3+p.classes.length):linE (p.classes.map (·.parents)) c=0/\Bb (p.classes.map (·.parents))=true:=by
 have h:=ER h
 unfold Ax at h
 simp only[Bool.and_eq_true,decide_eq_true_eq]at h
 obtain⟨_,h⟩:=h
 split at h
 ·cases h
 ·simp only[Bool.and_eq_true,decide_eq_true_eq]at h
  have:=H6 h.2 (c-3).toNat (by omega)
  rw[show(((0+(c-3).toNat:Nat):Int)+3)=c by omega]at this
  exact⟨this,h.1.2⟩
theorem finMR{P:Program}{n:Nat}{fn:Func}{R:DE->Sig->Prop}{γ:Fr}{O U':Sig}{d d':D}(js:List Nat)(hR:R (.ret d') U')(hZ:Sub U' (dels js O))(hn:js.Nodup:=by simp)(hd:∀j∈js,O j=some .defs:=by simp)(h:resD fn γ=some d:=by exact tdR)(hw:WkD d d'): ∃s',Wk P n ⟨γ,O,js.map .coll⟩ s'/\Q3 P n fn (Weak R) .ret s':=
 ⟨_,Wk.refl _ _ _,js,rfl,hn,hd,d,Ds h,.ret d',U',hw,hZ,hR⟩
theorem Sh(p:BProg)(c:Int)(O:Sig)(hp:p.wt<=1073741824:=by exact sd):DCall prog 290 [.agg (Ad p),dI c] O (rS (.tup [sl ((if ownF p c&&okP p then EG p c else []).map HT),dI (if ownF p c&&okP p then 0 else 2)]) O):=by
 obtain⟨p1,p2,p3,p4,p5,p6,p7⟩:=p.wt_le
 have aQ:∀c∈p.classes,c.parents.length<=1073741824/\c.slots.length<=1073741824/\c.inits.length<=1073741824:=fun c hc=>by
  obtain⟨k,hk,rfl⟩:=List.getElem_of_mem hc
  have:=p5 k hk
  unfold BClass.wt at this;omega
 have bT:∀c∈p.classes,c.parents.length<=1073741824:=fun c hc=>(aQ c hc).1
 have bU:∀x∈p.classes.map (·.parents),x.length<=1073741824:=fun x hx=>by obtain⟨c,hc,rfl⟩:=List.mem_map.1 hx;exact(aQ c hc).1
 refine F2 func290 rfl (by decide) ntmps290 (by simp) ?_
 cases hk:ownF p c&&okP p
 ·try refine gf hk ?_
  refine finMR [] (U':=O) ⟨rfl,rfl⟩ (Sub.refl _) (hw:=?_)
  exact Dm ⟨An _ (.inl rfl),Ab _,trivial⟩
 ·have ho:3<=c/\c<3+p.classes.length:=by simp only[ownF,Bool.and_eq_true,decide_eq_true_eq]at hk;exact hk.1
  have bp:okP p=true:=by simp only[Bool.and_eq_true]at hk;exact hk.2
  obtain⟨h1,h2⟩:=ho
  obtain⟨aD,ag⟩:=okP_lin bp h1 h2
  have br:linF (p.classes.map (·.parents)) c=FA (p.classes.map (·.parents)) c:=by
   unfold linF;rw[if_pos ⟨ag,by omega,by rw[List.length_map];omega⟩]
  have aW:∀y∈linF (p.classes.map (·.parents)) c,0<=y/\y<3+p.classes.length:=fun y hy=>by
   rw[br]at hy
   obtain⟨x,hx,hy⟩:=Gw hy
   have:=Gv ag _ x hx y hy
   rw[List.length_map]at this;omega
  have bX:(linF (p.classes.map (·.parents)) c).length<=80000000:=by rw[br];exact CO ag (Nat.le_refl _) (by omega)
  have bZ:=CD p c
  have ws:=Dr p
  try refine gf (gi hk aD) ?_
  refine newIN (fun im bM=>?_)
  try refine gf (gi hk aD) ?_
  refine KE (u:=unf) (fun did U' m=>U' im=some (.map (eIN m))/\Keep (· = im) ((O.set im (.map (eIN []))).set did .defs) U') (fun did U'=>False) (· = im) (some (Ib p (linF (p.classes.map (·.parents)) c))) rfl (fun l did hd hl ae LO aA=>?_) (fun l did m U' ho hd hl ae hG=>?_) (fun did U' ho hd hb=>hb.elim)
  ·refine Pw (linF (p.classes.map (·.parents)) c) l unf _ _ _ (DR p) (by omega) (fun k hk S1 m1 hG=>?_) _ [] ?_
   ·obtain⟨ba,aY,bS⟩:=hG
    refine NE aA ba ?_
    clear aA
    try refine gz ?_
    refine⟨ba,?_⟩
    have hy:=aW _ (List.getElem_mem hk)
    generalize (linF (p.classes.map (·.parents)) c)[k]=y at*
    have ak:l≠im:=fun e=>by rw[e,w6]at hl;cases hl
    have bJ:(S1.set l (CU LO)) im=some (.map (eIN m1)):=by rw[w7 _ _ (Ne.symm ak)];exact aY
    have ah:∀m,(((S1.set l (CU LO)).set im (.map (eIN m))) l=some (CU LO))/\((((S1.set l (CU LO)).set im (.map (eIN m))).set l LO) l=some LO/\(((S1.set l (CU LO)).set im (.map (eIN m))).set l LO) im=some (.map (eIN m))/\Keep (· = im) ((O.set im (.map (eIN []))).set did .defs) (((S1.set l (CU LO)).set im (.map (eIN m))).set l LO))/\Keep (· = im) S1 (((S1.set l (CU LO)).set im (.map (eIN m))).set l LO):=fun m=>by
     have aO:Keep (· = im) S1 (((S1.set l (CU LO)).set im (.map (eIN m))).set l LO):=fun j o h1 h2=>by
      by_cases hj:j=l
      ·rw[hj]at h1⊢; rw[w6,<-h1,ba]
      ·rw[w7 _ _ hj,w7 _ _ h2,w7 _ _ hj];exact h1
     exact⟨by rw[w7 _ _ ak,w6],⟨w6 .., by rw[w7 _ _ (Ne.symm ak),w6],bS.trans aO⟩,aO⟩
    rw[<-Sig.set_self _ bJ]
    by_cases bz:3<=y
    ·obtain⟨q,rfl⟩:∃q:Nat,y=3+(q:Int):=⟨(y-3).toNat,by omega⟩
     have hq:q<p.classes.length:=by omega
     have ar:DR p (3+q) m1=E8 (p.classes[q]).inits m1:=by
      unfold DR;rw[if_pos (by omega),show(3+(q:Int)-3).toNat=q by omega,List.getElem?_eq_getElem hq];rfl
     rw[ar]
     have bL:=(aQ _ (List.getElem_mem hq)).2.2
     generalize be:(p.classes[q]).inits=ins' at*
     have bG:3+(q:Int)-3=q:=by omega
     try refine gf (gi bG be) ?_
     refine BZ [1,2,4,5,8,13,15,16,17,45,46,57,58,59,60,61,62,63,64,65,66,67,68,69,70,71,72,73,74,75,76,77,78,79,80] (fun (j:Nat) (m:List (Int×Int))=>j<=ins'.length/\E8 ins' m1=E8 (ins'.drop j) m) (fun j _=>[(47,dI j)]) (fun _ m=>(S1.set l (CU LO)).set im (.map (eIN m))) (fun j _=>ins'.length-j) (0) (m1) (by simp) (fun j m hI=>?_)
     obtain⟨hj,hJ⟩:=hI
     by_cases bu:j<ins'.length
     ·rw[A5 bu,E8]at hJ
      try refine gf be ?_
      exact⟨j+1,_,⟨by omega,hJ⟩,td1,wkR⟩
     ·rw[A9 bu,E8]at hJ
      try refine gf be ?_
      rw[hJ]
      exact⟨(ah m).1,rfl,(ah m).2⟩
    ·have ar:DR p y m1=m1:=by unfold DR;rw[if_neg bz]
     rw[ar]
     try refine gz ?_
     exact⟨(ah m1).1,rfl,(ah m1).2⟩
   ·have ak:im≠l:=fun e=>by rw[<-e,w6]at hl;cases hl
    have aN:im≠did:=fun e=>by rw[<-e,w6]at hd;cases hd
    exact⟨w6 .., by rw[w7 _ _ ak,w7 _ _ aN,w6],(Keep.refl _ _).fresh (by rw[w7 _ _ ae];exact hl)⟩
  ·cases ho
   have ak:im≠l:=fun e=>by rw[<-e,w6]at hl;cases hl
   have aN:im≠did:=fun e=>by rw[<-e,w6]at hd;cases hd
   have aX:(U'.del l) im=some (.map (eIN (Ib p (linF (p.classes.map (·.parents)) c)))):=by simp only[Sig.del,ak,if_false];exact hG.1
   have bx:(U'.del l) did=some .defs:=by simp only[Sig.del,Ne.symm ae,if_false];exact hG.2 did _ (w6 ..) (Ne.symm aN)
   have bh:EG p c=beginL (Ib p (linF (p.classes.map (·.parents)) c)) (hasP p c):=rfl
   have bO:∀j o,O j=some o->(U'.del l) j=some o/\j≠did:=fun j o h=>by
    have e1:j≠im:=fun e=>by rw[e,bM]at h;cases h
    have e2:j≠did:=fun e=>by rw[e]at h;rw[w7 _ _ (Ne.symm aN),h]at hd;cases hd
    have e3:j≠l:=fun e=>by rw[e]at h;rw[w7 _ _ (Ne.symm ak),h]at hl;cases hl
    refine⟨?_,e2⟩
    simp only[Sig.del,e3,if_false]
    exact hG.2 j o (by rw[w7 _ _ e2,w7 _ _ e1];exact h) e1
   generalize Ib p (linF (p.classes.map (·.parents)) c)=m at*
   generalize bf:hasP p c=au at*
   try refine gf bf ?_
   refine F4 13 2 (fun ix aE=>?_)
   have bl:im≠ix:=fun e=>by rw[<-e,aX]at aE;cases aE
   have bA:did≠ix:=fun e=>by rw[<-e,bx]at aE;cases aE
   refine BZ [4,5,8,59,60,79,80] (fun (k:Nat) (out:List Init)=>k<=au.length/\out.length<=k/\beginL m au=out++beginL m (au.drop k)) (fun k out=>[(61,dI k),(13,.slice (out.map HT) (.tag ix))]) (fun _ out=>(U'.del l).set ix (.tail 2 out.length)) (fun k _=>au.length-k) (0) ([]) (by simp) (fun k out hI=>?_)
   obtain⟨hk,hlen,hR⟩:=hI
   by_cases ap:k<au.length
   ·rw[A5 ap,beginL]at hR
    repeat' first|refine gf (gi aX (gi bl bf)) ?_|apply gy<;>intro hh
    ·rw[hh,if_pos rfl]at hR
     exact⟨k+1,out++[⟨au[k],getM 0 au[k] m⟩],⟨by omega,by simp;omega,by rw[hR];simp⟩,td1,wkR⟩
    ·rw[hh,if_neg (by simp)]at hR
     exact⟨k+1,out,⟨by omega,by omega,hR⟩,td1,wkR⟩
   ·rw[A9 ap,beginL,List.append_nil]at hR
    try refine gf (gi aX (gi bl bf)) ?_
    refine finMR [did] (U':=O) (d':=.tup [sl ((EG p c).map HT),dI 0]) ⟨by rw[if_pos rfl,if_pos rfl],rfl⟩ (fun j o h=>?_) (hd:=?_) (hw:=?_)
    ·obtain⟨h1,h2⟩:=bO j o h
     simp only[dels,List.foldl_cons,List.foldl_nil,Sig.del,h2,if_false]
     rw[w7 _ _ fun e=>by rw[e,aE]at h1;cases h1]
     exact h1
    ·simp only[List.mem_singleton,forall_eq]
     rw[w7 _ _ bA];exact bx
    ·rw[bh,hR]
     exact Dm ⟨BY _ _,Ab _,trivial⟩
@[reducible,instance] def a290:=fun p c O=>ah1 (@Sh p c O)
def isLD:DObj->Bool
 |.loop .. |.defs=>true
 |_=>false
theorem Mc{LO:DObj}{ps:Array Tmp}{asg body:Code}{n:Nat}{Sl:Fr}{did:Nat}(h:LO=.loop .ready none ps asg body n Sl did):isLD LO=true/\isLD (CU LO)=true:=by subst h;exact⟨rfl,rfl⟩
def MonoG{S:Type}(G:Sig->S->Prop):Prop:= ∀O U' s,G O s->(∀j x,O j=some x->isLD x=false->U' j=some x)->G U' s
def Q2{S:Type}(G:Sig->S->Prop)(S0:Sig):Prop:= ∀l,S0 l=none->∀S1 S2 s,G S1 s->(∃x,S1 l=some x/\isLD x=true)->(∀j,j≠l->S2 j=S1 j)->G S2 s
def Fresh{S:Type}(G:Sig->S->Prop):Prop:= ∀O s a o,G O s->O a=none->G (O.set a o) s
theorem MonoG.indep{S:Type}{G:Sig->S->Prop}(h:MonoG G)(S0:Sig):Q2 G S0:=fun l _ S1 S2 s hG ⟨x,hx,hl⟩ hj=>h _ _ _ hG fun j y hy hd=>by
 rw[hj j fun e=>by rw[e,hx]at hy;cases hy;rw[hl]at hd;cases hd];exact hy
theorem MonoG.fresh{S:Type}{G:Sig->S->Prop}(h:MonoG G):Fresh G:=fun O s a o hG ha=>h _ _ _ hG fun j y hy _=>by
 rw[w7 _ _ fun e=>by rw[e,ha]at hy;cases hy];exact hy
def GoodG{S:Type}(l:Nat)(LO:DObj)(G:Sig->S->Prop)(touch:Nat->Prop)(base:Sig):Sig->S->Prop:=fun U' s=>U' l=some LO/\G U' s/\Keep touch base U'
theorem GoodG.new{S:Type}{l:Nat}{LO:DObj}{G:Sig->S->Prop}{touch:Nat->Prop}{base O:Sig}{s:S}{a:Nat}{o:DObj}(hm:Fresh G)(h:GoodG l LO G touch base O s)(ha:O a=none):GoodG l LO G touch base (O.set a o) s:=by
 have ne:∀j x,O j=some x->j≠a:=fun j x hj e=>by rw[e,ha]at hj;cases hj
 obtain⟨h1,h2,h3⟩:=h
 exact⟨by rw[w7 _ _ (ne _ _ h1)];exact h1,hm _ _ _ _ h2 ha,fun j x hj ht=>by
  have:=h3 j x hj ht
  rw[w7 _ _ (ne _ _ this)];exact this⟩
theorem GoodG.indep{S:Type}{l:Nat}{LO:DObj}{G:Sig->S->Prop}{touch:Nat->Prop}{base S0:Sig}{s0:S}(h0:GoodG l LO G touch base S0 s0)(hi:Q2 G S0):Q2 (GoodG l LO G touch base) S0:=fun k hk S1 S2 s hG hx hj=>by
 have bK:l≠k:=fun e=>by have:=h0.1;rw[e,hk]at this;cases this
 refine⟨by rw[hj l bK];exact hG.1,hi k hk _ _ _ hG.2.1 hx hj,fun j x hb hn=>?_⟩
 rw[hj j fun e=>by have:=h0.2.2 j x hb hn;rw[e,hk]at this;cases this]
 exact hG.2.2 j x hb hn
theorem rangeG{P:Program}{n:Nat}{Q:DX->St->Prop}{γ:Fr}{O:Sig}{df:List DDf}{gop:Operand}{ps:Array Tmp}{asg body:Code}{f:Nat}{first cap:List D}{S:Type}(u:D)(G:Sig->S->Prop)(touch tp:Nat->Prop)(o:Option S)(s0:S)
  (hm:Q2 G O) (bw:Fresh G) (h0:G O s0) (ht:∀j,touch j->O j≠none) (bD:∀j,tp j->O j≠none) (hf:ev γ gop=.func (.func f) first cap)
  (aH : ∀ l did LO SL,LO=DObj.loop .ready none ps asg body n γ did->O did=none->(O.set did .defs) l=none -> ¬ touch l->SL=(O.set did .defs).set l LO->GoodG l LO G touch (O.set did .defs) SL s0->(∀ a,SL a=none -> ¬ touch a) ->
   DCall P f (first++[.yld l]++cap) SL (OutO u (.tup []) (GoodG l LO G touch (O.set did .defs)) (Keep tp (O.set did .defs)) touch SL o))
  (aS:∀did s U',o=some s->O did=none->U' did=some .defs->G U' s->(∀j x,O j=some x->¬touch j->U' j=some x/\j≠did)->Q .normal ⟨γ,U',.coll did::df⟩)
  (aU:∀did U',o=none->O did=none->U' did=some .defs->(∀j x,O j=some x->¬tp j->U' j=some x/\j≠did)->Q (.panic u) ⟨γ,U',.coll did::df⟩) :
  DWp P .none n (.rangeFunc gop ps asg body) Q ⟨γ,O,df⟩:=by
 have dne:∀{did:Nat},O did=none->∀j x,O j=some x->j≠did:=fun hd j x hj e=>by rw[e,hd]at hj;cases hj
 refine Hm (R:=fun l did=>OutO u (.tup []) (GoodG l (DObj.loop .ready none ps asg body n γ did) G touch (O.set did .defs)) (Keep tp (O.set did .defs)) touch ((O.set did .defs).set l (DObj.loop .ready none ps asg body n γ did)) o) hf (fun l did hd hl ae=>?_) (fun l did d U' hd hl ae hr=>?_) (fun l did d U' hd hl ae hr=>?_)
 ·have am:(O.set did .defs) l=none:=by first|exact hl|(rw[w7 _ _ ae];exact hl)
  have aJ:O l=none:=by rw[w7 _ _ ae]at am;exact am
  refine aH l did _ _ rfl hd am (fun h=>ht _ h aJ) rfl ⟨w6 .., bw _ _ _ _ (bw _ _ _ _ h0 hd) am,fun j x hj hn=>?_⟩ fun a ha h=>ht a h ?_
  ·rw[w7 _ _ fun e=>by rw[e,am]at hj;cases hj];exact hj
  ·by_cases e1:a=l
   ·rw[e1,w6]at ha;cases ha
   ·rw[w7 _ _ e1]at ha
    by_cases e2:a=did
    ·rw[e2,w6]at ha;cases ha
    ·rw[w7 _ _ e2]at ha;exact ha
 ·have am:(O.set did .defs) l=none:=by first|exact hl|(rw[w7 _ _ ae];exact hl)
  have aJ:O l=none:=by rw[w7 _ _ ae]at am;exact am
  obtain⟨s,hs,rfl,⟨bt,aP,hK⟩,_⟩:=hr.ret
  have bP:¬touch did:=fun h=>ht _ h hd
  have dl:∀j,j≠l->(U'.del l) j=U' j:=fun j h=>by simp only[Sig.del,h,if_false]
  refine⟨_,_,bt,by simp,aS did s _ hs hd ?_ ?_ fun j x hj hn=>⟨?_,dne hd j x hj⟩⟩
  ·rw[dl _ (Ne.symm ae)];exact hK did _ (w6 ..) bP
  ·exact hm l aJ _ _ _ aP ⟨_,bt,rfl⟩ fun j hj=>dl j hj
  ·rw[dl _ (dne aJ j x hj)];exact hK j x (by rw[w7 _ _ (dne hd j x hj)];exact hj) hn
 ·obtain⟨hn,rfl,hb⟩:=hr.pan
  exact aU did U' hn hd (hb did _ (w6 ..) fun h=>bD _ h hd) fun j x hj hn=>⟨hb j x (by rw[w7 _ _ (dne hd j x hj)];exact hj) hn,dne hd j x hj⟩
section
variable {S:Type}{l:Nat}{LO:DObj}{G:Sig->S->Prop}{touch:Nat->Prop}{base S1 S2:Sig}{s s':S}{u:D}{step:Option S}{γ:List (Nat×D)}{df:List DDf}{ps:Array Tmp}{asg body:Code}{n:Nat}{Sl:List (Nat×D)}{did:Nat}{Good:Sig->S->Prop}{Bad:Sig->Prop}
theorem endRN(ar:step=some s')(aA:LO=.loop .ready none ps asg body n Sl did)(hm:Q2 G base)(hG:GoodG l LO G touch base S1 s)(hl:¬touch l)(ai:base l=none)(bk:G S2 s')(hK:Keep touch (S1.set l (CU LO)) S2):
  OV l LO (OutO u (.bool true) (GoodG l LO G touch base) Bad touch S1 step) .normal ⟨γ,S2,df⟩:=by
 subst ar
 have h2:S2 l=some (CU LO):=hK l _ (w6 ..) hl
 have aK:Keep touch S1 (S2.set l LO):=fun j x hj hn=>by
  by_cases e:j=l
  ·rw[e,hG.1]at hj;rw[e,w6];exact hj
  ·rw[w7 _ _ e];exact hK j x (by rw[w7 _ _ e];exact hj) hn
 exact⟨h2,rfl,⟨w6 .., hm l ai _ _ _ bk ⟨_,h2,(Mc aA).2⟩ fun j hj=>w7 _ _ hj,hG.2.2.trans aK⟩,aK⟩
theorem endRP(ar:step=none)(hB:Bad S2):OV l LO (OutO u (.bool true) Good Bad touch S1 step) (.panic u) ⟨γ,S2,[]⟩:=by
 subst ar
 exact⟨rfl,rfl,hB⟩
theorem GoodG.bad{tp:Nat->Prop}(hG:GoodG l LO G touch base S1 s)(ai:base l=none)(ht:∀j,touch j->tp j)(hK:Keep tp (S1.set l (CU LO)) S2):Keep tp base S2:=fun j x hj hn=>
 hK j x (by rw[w7 _ _ fun e=>by rw[e,ai]at hj;cases hj];exact hG.2.2 j x hj fun h=>hn (ht j h)) hn
theorem OutO.bad{r:D}{Good:Sig->S->Prop}{Bad Bad':Sig->Prop}{O U':Sig}{o:Option S}{x:DE}(h:OutO u r Good Bad touch O o x U')(hb:Bad U'->Bad' U'):OutO u r Good Bad' touch O o x U':=by
 cases o with
 |none=>exact⟨h.1,hb h.2⟩
 |some s=>exact h
theorem GoodG.busy(aA:LO=.loop .ready none ps asg body n Sl did)(hm:Q2 G base)(ai:base l=none)(hG:GoodG l LO G touch base S1 s):G (S1.set l (CU LO)) s:=
 hm l ai _ _ _ hG.2.1 ⟨_,hG.1,(Mc aA).1⟩ fun j hj=>w7 _ _ hj
end
theorem finMP{P:Program}{n:Nat}{fn:Func}{R:DE->Sig->Prop}{γ:Fr}{O U':Sig}{d:D}(js:List Nat)(hR:R (.panic d) U')(hZ:Sub U' (dels js O))(hn:js.Nodup:=by simp)(hd:∀j∈js,O j=some .defs:=by simp): ∃s',Wk P n ⟨γ,O,js.map .coll⟩ s'/\Q3 P n fn (Weak R) (.panic d) s':=
 ⟨_,Wk.refl _ _ _,js,rfl,hn,hd,.panic d,U',Ab _,hZ,hR⟩
section
variable {P:Program}{ro:Ro}{n:Nat}{Q:DX->St->Prop}{df:List DDf}{γ:List (Nat×D)}{O:Sig}
theorem loopD4{Sk:Fr}{α β δ ε:Type}{c:Code}(keep:List Nat)(I:α->β->δ->ε->Prop)(ov:α->β->δ->ε->Fr)(sg:α->β->δ->ε->Sig)(dg:α->β->δ->ε->List DDf)(μ:α->β->δ->ε->Nat)(x0:α)(y0:β)(z0:δ)(u0:ε)(h0:I x0 y0 z0 u0)
  (round:∀x y z u,I x y z u->DWp P ro n c (Then (fun s'=> ∃x' y' z' u',I x' y' z' u'/\μ x' y' z' u'<μ x y z u/\Wk P n s' ⟨ov x' y' z' u'++Sk,sg x' y' z' u',dg x' y' z' u'⟩) Q) ⟨ov x y z u++Sk,sg x y z u,dg x y z u⟩) (hk:Do γ keep=some Sk:=by exact tdR) (h1:TellsR γ (ov x0 y0 z0 u0++Sk):=by(first|refine Fi ?_ ?_|skip)<;>(repeat' first|exact Fh|refine Em tdR ?_ ?_|(first|exact Ab _|exact BY _ _|exact An _ (.inl rfl)|exact Ei _|(refine Ht _ ?_;first|omega|(simp;done)|(simp;omega))|(refine BX ?_;(simp;done))|(refine BX ?_;(simp[cI,cS,cII,Ef,EE,G5];done))|(refine D9 _ ?_;(simp[cI,cS,cII];done))|(refine BX ?_;(simp_all;done))|assumption))) (h2:Sub (sg x0 y0 z0 u0) O:=by first|exact Sub.refl _|(refine BN ?_;simp;done)|assumption|exact(Sub.refl _).set (by assumption)) (h3:dg x0 y0 z0 u0=df:=by rfl):DWp P ro n (.loop c) Q ⟨γ,O,df⟩:=by
 subst h3
 refine OI (fun x:{x:α×β×δ×ε // I x.1 x.2.1 x.2.2.1 x.2.2.2}=>⟨ov x.1.1 x.1.2.1 x.1.2.2.1 x.1.2.2.2++Sk,sg x.1.1 x.1.2.1 x.1.2.2.1 x.1.2.2.2,dg x.1.1 x.1.2.1 x.1.2.2.1 x.1.2.2.2⟩) (fun x=>μ x.1.1 x.1.2.1 x.1.2.2.1 x.1.2.2.2) ⟨(x0,y0,z0,u0),h0⟩ (KU h1 h2) fun x=>Ec (round x.1.1 x.1.2.1 x.1.2.2.1 x.1.2.2.2 x.2) ?_
 intro e s h
 cases e with
 |normal=>obtain⟨x',y',z',u',h3,h4,h5⟩:=h;exact⟨⟨(x',y',z',u'),h3⟩,h4,h5⟩
 |_=>exact h
end
theorem Lz: ∀(js:List Nat) (O:Sig) (j:Nat),j∉js->dels js O j=O j
 |[],_,_,_=>rfl
 |i::r,O,j,h=>by
  simp only[List.mem_cons,not_or]at h
  simp only[dels,List.foldl_cons]
  rw[show List.foldl Sig.del (O.del i) r=dels r (O.del i) from rfl,Lz r _ j h.2]
  simp only[Sig.del,h.1,if_false]
def RowAt(O:Sig)(sz:Nat):MR->List (List D)->Prop
 |none,es=>es=[]
 |some (i,cap,rest),es=>O i=some (.cells (es.flatten++rest))/\(es.flatten++rest).length=cap*sz/\es.length<=cap /\ ∀e∈es,e.length=sz
def G9:MR->Nat->Prop
 |none,_=>False
 |some (i,_,_),j=>j=i
theorem RowAt.cells{O:Sig}{sz:Nat}{st:MR}{es:List (List D)}(h:RowAt O sz st es){j:Nat}(hj:G9 st j): ∃cs,O j=some (.cells cs):=by
 cases st with
 |none=>exact hj.elim
 |some x=>cases hj;exact⟨_,h.1⟩
theorem RowAt.keep{O U':Sig}{sz:Nat}{st:MR}{es:List (List D)}(h:RowAt O sz st es)(hk:∀j o,O j=some o->G9 st j->U' j=some o):RowAt U' sz st es:=by
 cases st with
 |none=>exact h
 |some x=>exact⟨hk _ _ h.1 rfl,h.2⟩
theorem RowAt.mS{O:Sig}{sz:Nat}{st:MR}{es:List (List D)}(h:RowAt O sz st es): ∃U',O=mS U' st es/\mOK U' sz st es/\(∀j o,O j=some o->¬G9 st j->U' j=some o) /\ ∀j o,U' j=some o->O j=some o /\ ¬G9 st j:=by
 cases st with
 |none=>exact⟨O,rfl,h,fun j o h _=>h,fun j o h=>⟨h,id⟩⟩
 | some x =>
  obtain⟨i,cap,rest⟩:=x
  obtain⟨h1,h2,h3,h4⟩:=h
  refine⟨O.del i,?_,⟨by simp[Sig.del],h2,h3,h4⟩,fun j o hj hn=>?_,fun j o hj=>?_⟩
  ·funext j
   simp only[DL.mS,Sig.set,Sig.del]
   by_cases e:j=i
   ·subst e;simp[h1]
   ·simp[e]
  ·have:j≠i:=hn
   simp only[Sig.del,this,if_false];exact hj
  ·by_cases e:j=i
   ·simp[Sig.del,e]at hj
   ·simp only[Sig.del,e,if_false]at hj;exact⟨hj,e⟩
theorem Uw{O:Sig}{sz:Nat}{st:MR}{es:List (List D)}(h:mOK O sz st es):RowAt (mS O st es) sz st es:=by
 cases st with
 |none=>exact h
 |some x=>obtain⟨i,cap,rest⟩:=x;exact⟨w6 .., h.2⟩
def RowK(O:Sig)(st:MR)(U':Sig)(st':MR):Prop:= ∀j o,O j=some o->¬G9 st j->U' j=some o /\ ¬G9 st' j
theorem RowK.refl(O:Sig)(st:MR):RowK O st O st:=fun j o h hn=>⟨h,hn⟩
theorem RowK.trans{O S1 S2:Sig}{st st1 st2:MR}(h:RowK O st S1 st1)(k:RowK S1 st1 S2 st2):RowK O st S2 st2:=fun j o hj hn=>k _ _ (h j o hj hn).1 (h j o hj hn).2
theorem rowK_mS{O:Sig}{sz:Nat}{st st':MR}{es es':List (List D)}(h:RowAt O sz st es){S1:Sig}(h1:mOK S1 sz st' es')(hk:∀j o,O j=some o->¬G9 st j->S1 j=some o):RowK O st (mS S1 st' es') st':=fun j o hj hn=>by
 have bd:=hk j o hj hn
 have hr:¬G9 st' j:=by
  cases st' with
  |none=>exact id
  |some x=>
   obtain⟨i,cap,rest⟩:=x
   intro e
   have e:j=i:=e
   rw[e,h1.1]at bd;cases bd
 exact⟨R7 h1 bd,hr⟩
section
variable {ro:Ro}{n:Nat}{ops:Array Oper}{N:Nat}{S0:Sig}{Q:DX->St->Prop}{df:List DDf}{rest:List Oper}{γ Sr:List (Nat×D)}{O:Sig}{t:Nat}{ty:TypeId}{pos:String}{after:Array Edge}{d:D}
theorem rapp{T T' e e' sz:Nat}{s x:Operand}{es new:List (List D)}{st:MR}(h:∀st' U',RowAt U' sz st' (es++new)->RowK O st U' st'->DOps prog ro n ops Q rest ⟨(t,mD st' (es.length+new.length))::γ,U',df⟩)(hm:RowAt O sz st es:=by assumption)
  (hl:A1 γ (A7 [s,x])=some Sr:=by exact tdR) (hk:(tab T).k=.slice e:=by(simp<;>rfl)) (aw:(tab T').k=.slice e':=by(simp<;>rfl)) (he:A0 (tab e).k=false:=by simp) (hsz:(tab e).size=sz:=by simp)
  (h1:ev Sr s=mD st es.length:=by first|with_unfolding_all rfl|(simp[ev,getD,List.lookup];done)) (h2:esOf (ev Sr x)=some new:=by(simp<;>with_unfolding_all rfl))
  (hlen':∀c∈new,c.length=sz:=by first|exact C2 _|exact Dq _|exact BJ _|simp) (ay:∀c∈new,BS c=true:=by simp[cI,cS,cII,BS,D.flat])
  (hb:(es.length+new.length)*(tab e).bytes<=140737488355328:=by first|(simp;done)|(simp;omega)) (hm2:es.length+new.length<=9223372036854775807:=by first|(simp;done)|(simp;omega)) (aj:decide (t<n)=true:=by exact tdR) :
  DOps prog ro n ops Q (⟨some t,(cA s x T T'),ty,pos,after,none⟩::rest) ⟨γ,O,df⟩:=by
 obtain⟨e1,e2⟩:=evs hl
 obtain⟨S1,rfl,aY,aK,bY⟩:=hm.mS
 exact MT tabOK (by simpa using aj) hk aw he hsz (by rw[<-e1];exact h1) aY (by rw[<-e2];exact h2) hlen' ay hb hm2 (fun st' h'=>by rw[List.length_append];exact h st' _ (Uw h') (rowK_mS hm h' aK))
end
noncomputable def Sig.out(O:Sig)(touch:Nat->Prop):Sig:=open Classical in fun j=>if touch j then none else O j
theorem D2(O:Sig)(touch:Nat->Prop):Sub (O.out touch) O:=fun j o h=>by
 unfold Sig.out at h;split at h
 ·cases h
 ·exact h
theorem Ej{O:Sig}{touch:Nat->Prop}{j:Nat}{o:DObj}(h:(O.out touch) j=some o):O j=some o /\ ¬touch j:=by
 unfold Sig.out at h;split at h
 ·cases h
 ·exact⟨h,by assumption⟩
theorem E9{O:Sig}{touch:Nat->Prop}{j:Nat}{o:DObj}(h:O j=some o)(ht:¬touch j):(O.out touch) j=some o:=by
 unfold Sig.out;rw[if_neg ht];exact h
section
variable {P:Program}{ro:Ro}{n:Nat}{Q:DX->St->Prop}{γ:List (Nat×D)}{O:Sig}{df:List DDf}
theorem dwp_cut1{x1 b:Code}(ov:Fr)(U':Sig)(h2:DWp P ro n b Q ⟨ov++γ,U',df⟩)(h1:∀b,DWp P ro n b Q ⟨ov++γ,U',df⟩->DWp P ro n (.seq x1 b) Q ⟨γ,O,df⟩):DWp P ro n (.seq x1 b) Q ⟨γ,O,df⟩:=h1 b h2
theorem NU{V':Fr}{U':Sig}(h:TellsS γ [] V')(hZ:Sub U' O):Wk P n ⟨γ,O,df⟩ ⟨V',U',df⟩:=(Fe h hZ).2
end
section
variable {ro:Ro}{n:Nat}{ops:Array Oper}{N:Nat}{S0:Sig}{Q:DX->St->Prop}{df:List DDf}{rest:List Oper}{γ Sr:List (Nat×D)}{O:Sig}{t:Nat}{ty:TypeId}{pos:String}{after:Array Edge}{d:D}
def RWK(O:Sig)(r:RW)(U':Sig)(r':RW):Prop:= ∀j o,O j=some o->¬r.is j->U' j=some o /\ ¬r'.is j
theorem RWK.refl(O:Sig)(r:RW):RWK O r O r:=fun _ _ h k=>⟨h,k⟩
theorem RWK.trans{O S1 S2:Sig}{r r1 r2:RW}(h:RWK O r S1 r1)(k:RWK S1 r1 S2 r2):RWK O r S2 r2:=fun j o hj hn=>k j o (h j o hj hn).1 (h j o hj hn).2
theorem xapp{T T' e e' sz:Nat}{s x:Operand}{es new:List (List D)}{r:RW}(h:∀i c cs U',RWAt U' sz (.row i c cs) (es++new)->RWK O r U' (.row i c cs)->DOps prog ro n ops Q rest ⟨(t,.sref i 0 (es.length+new.length) c)::γ,U',df⟩)(hm:RWAt O sz r es:=by assumption)
  (hl:A1 γ (A7 [s,x])=some Sr:=by exact tdR) (hk:(tab T).k=.slice e:=by(simp<;>rfl)) (aw:(tab T').k=.slice e':=by(simp<;>rfl)) (he:A0 (tab e).k=false:=by simp) (hsz:(tab e).size=sz:=by simp)
  (h1:ev Sr s=r.d es.length:=by first|with_unfolding_all rfl|(simp[ev,getD,List.lookup];done)) (h2:esOf (ev Sr x)=some new:=by(simp<;>with_unfolding_all rfl))
  (hne:new≠[]:=by simp) (hlen':∀c∈new,c.length=sz:=by first|exact C2 _|exact Dq _|exact BJ _|simp) (ay:∀c∈new,BS c=true:=by simp[cI,cS,cII,BS,D.flat])
  (hb:(es.length+new.length)*(tab e).bytes<=140737488355328:=by first|(simp;done)|(simp;omega)) (hm2:es.length+new.length<=9223372036854775807:=by first|(simp;done)|(simp;omega)) (aj:decide (t<n)=true:=by exact tdR) :
  DOps prog ro n ops Q (⟨some t,(cA s x T T'),ty,pos,after,none⟩::rest) ⟨γ,O,df⟩:=by
 obtain⟨e1,e2⟩:=evs hl
 exact ED tabOK (by simpa using aj) hk aw he hsz (by rw[<-e1];exact h1) hm (by rw[<-e2];exact I2 h2 hlen') hlen' ay hb hm2 fun r' U' h1 h2 h3=>by
  rcases h3 with⟨h3,_⟩|⟨i,c,cs,rfl⟩
  ·exact absurd h3 hne
  ·exact h i c cs U' h1 h2
theorem xappR{T T' e e' sz:Nat}{s x:Operand}{es new:List (List D)}{r:RW}(h:∀r' U',RWAt U' sz r' (es++new)->RWK O r U' r'->DOps prog ro n ops Q rest ⟨(t,r'.d (es.length+new.length))::γ,U',df⟩)(hm:RWAt O sz r es)(h2:JX prog O sz (ev Sr x) new)(ay:∀c∈new,BS c=true)
  (hlen':∀c∈new,c.length=sz)
  (hl:A1 γ (A7 [s,x])=some Sr:=by exact tdR) (hk:(tab T).k=.slice e:=by(simp<;>rfl)) (aw:(tab T').k=.slice e':=by(simp<;>rfl)) (he:A0 (tab e).k=false:=by simp) (hsz:(tab e).size=sz:=by simp)
  (h1:ev Sr s=r.d es.length:=by first|with_unfolding_all rfl|(simp[ev,getD,List.lookup];done))
  (hb:(es.length+new.length)*(tab e).bytes<=140737488355328:=by first|(simp;done)|(simp;omega)) (hm2:es.length+new.length<=9223372036854775807:=by first|(simp;done)|(simp;omega)) (aj:decide (t<n)=true:=by exact tdR) :
  DOps prog ro n ops Q (⟨some t,(cA s x T T'),ty,pos,after,none⟩::rest) ⟨γ,O,df⟩:=by
 obtain⟨e1,e2⟩:=evs hl
 exact ED tabOK (by simpa using aj) hk aw he hsz (by rw[<-e1];exact h1) hm (by rw[<-e2];exact h2) hlen' ay hb hm2 fun r' U' h1 h2 _=>h r' U' h1 h2
theorem GZ{T T' e e' sz:Nat}{s x:Operand}{es new:List (List D)}{r:RW}{l:List (Bool×Oper)}(h:∀i c cs U',RWAt U' sz (.row i c cs) (es++new)->RWK O r U' (.row i c cs)->MO prog ro n ops N S0 Q df l ((t,.sref i 0 (es.length+new.length) c)::γ) U')(hC:∀j o,S0 j=some o->O j=some o /\ ¬r.is j)(hm:RWAt O sz r es:=by assumption)
  (hl:A1 γ (A7 [s,x])=some Sr:=by exact tdR) (hk:(tab T).k=.slice e:=by(simp<;>rfl)) (aw:(tab T').k=.slice e':=by(simp<;>rfl)) (he:A0 (tab e).k=false:=by simp) (hsz:(tab e).size=sz:=by simp)
  (h1:ev Sr s=r.d es.length:=by first|with_unfolding_all rfl|(simp[ev,getD,List.lookup];done)) (h2:esOf (ev Sr x)=some new:=by(simp<;>with_unfolding_all rfl))
  (hne:new≠[]:=by simp) (hlen':∀c∈new,c.length=sz:=by first|exact C2 _|exact Dq _|exact BJ _|simp) (ay:∀c∈new,BS c=true:=by simp[cI,cS,cII,BS,D.flat])
  (hb:(es.length+new.length)*(tab e).bytes<=140737488355328:=by first|(simp;done)|(simp;omega)) (hm2:es.length+new.length<=9223372036854775807:=by first|(simp;done)|(simp;omega)) (aj:decide (t<n)=true:=by exact tdR) :
  MO prog ro n ops N S0 Q df ((true,⟨some t,(cA s x T T'),ty,pos,after,none⟩)::l) γ O:=
 mo1 (fun U2 hx=>by
  obtain⟨e1,e2⟩:=HX hl hx
  refine ED tabOK (by simpa using aj) hk aw he hsz (by rw[e1];exact h1) hm (by rw[e2];exact I2 h2 hlen') hlen' ay hb hm2 (fun r' U' h' hK h3=>?_)
  rcases h3 with⟨h3,_⟩|⟨i,c,cs,rfl⟩
  ·exact absurd h3 hne
  refine Aw ⟨rfl,?_⟩
  simp only[A3,if_true]
  exact⟨fun j o hj=>(hK j o (hC j o hj).1 (hC j o hj).2).1,h i c cs U' h' hK⟩) aj
end
structure Rows(O:Sig)(R:Nat->RW)(sz:Nat->Nat)(ct:Nat->List (List D)):Prop where
 ok:∀a,RWAt O (sz a) (R a) (ct a)
 dj:∀a b j,(R a).is j->(R b).is j->a=b
def updF{α:Type}(f:Nat->α)(k:Nat)(x:α):Nat->α:=fun j=>if j=k then x else f j
@[simp] theorem Aj{α:Type}(f:Nat->α)(k:Nat)(x:α):updF f k x k=x:=by unfold updF;rw[if_pos rfl]
theorem A8{α:Type}(f:Nat->α){k j:Nat}(x:α)(h:j≠k):updF f k x j=f j:=by unfold updF;rw[if_neg h]
section
variable {O U':Sig}{R:Nat->RW}{sz:Nat->Nat}{ct:Nat->List (List D)}
theorem Rows.upd(h:Rows O R sz ct){a:Nat}{r':RW}{es':List (List D)}(hr:RWAt U' (sz a) r' es')(hk:RWK O (R a) U' r'):Rows U' (updF R a r') sz (updF ct a es'):=by
 have hne:∀b,b≠a->∀j,(R b).is j->∃o,O j=some o /\ ¬(R a).is j:=fun b hb j hj=>by
  obtain⟨cs,hc⟩:=(h.ok b).cells hj
  exact⟨_,hc,fun ha=>hb (h.dj b a j hj ha)⟩
 refine⟨fun b=>?_,fun b c j hb hc=>?_⟩
 ·by_cases e:b=a
  ·subst e;rw[Aj,Aj];exact hr
  ·rw[A8 _ _ e,A8 _ _ e]
   exact(h.ok b).keep fun j o hj hb=>by
    obtain⟨o',bW,hn⟩:=hne b e j hb
    exact(hk j o hj hn).1
 ·by_cases e:b=a
  ·subst e
   by_cases e2:c=b
   ·exact e2.symm
   ·rw[Aj]at hb
    rw[A8 _ _ e2]at hc
    obtain⟨o,ho,hn⟩:=hne c e2 j hc
    exact absurd hb (hk j o ho hn).2
  ·rw[A8 _ _ e]at hb
   by_cases e2:c=a
   ·subst e2
    rw[Aj]at hc
    obtain⟨o,ho,hn⟩:=hne b e j hb
    exact absurd hc (hk j o ho hn).2
   ·rw[A8 _ _ e2]at hc
    exact h.dj b c j hb hc
theorem Rows.keep(h:Rows O R sz ct)(hk:∀j o,O j=some o->(∃a,(R a).is j)->U' j=some o):Rows U' R sz ct:=
 ⟨fun a=>(h.ok a).keep fun j o hj ha=>hk j o hj ⟨a,ha⟩,h.dj⟩
theorem Rows.retell{ct':Nat->List (List D)}(h:Rows O R sz ct)(he:∀a,ct' a=ct a):Rows O R sz ct':=by
 obtain rfl:ct'=ct:=funext he
 exact h
theorem Rows.re(h:Rows O R sz ct){a:Nat}{r':RW}{es':List (List D)}(hr:RWAt O (sz a) r' es')(hi:∀j,r'.is j->(R a).is j):Rows O (updF R a r') sz (updF ct a es'):=by
 refine⟨fun b=>?_,fun b c j hb hc=>?_⟩
 ·by_cases e:b=a
  ·subst e;rw[Aj,Aj];exact hr
  ·rw[A8 _ _ e,A8 _ _ e];exact h.ok b
 ·have bR:(R b).is j:=by
   by_cases e:b=a
   ·subst e;rw[Aj]at hb;exact hi j hb
   ·rwa [A8 _ _ e]at hb
  have bQ:(R c).is j:=by
   by_cases e:c=a
   ·subst e;rw[Aj]at hc;exact hi j hc
   ·rwa [A8 _ _ e]at hc
  exact h.dj b c j bR bQ
end
theorem KK: ∀(l:List Fact) (n d:Int),Fact.depths l n<=d ↔ n<=d /\ ∀x∈l,x.depth<=d
 |[],n,d=>by rw[Fact.depths];simp
 |f::l,n,d=>by
  rw[Fact.depths,KK l]
  have:mx n f.depth<=d ↔ n<=d/\f.depth<=d:=by unfold mx;split<;>omega
  rw[this]
  simp only[List.mem_cons,forall_eq_or_imp]
  exact and_assoc
def locP(w:World)(f:Fact):Prop:=1<=f.op/\f.op<=7/\f.kids.length=C9 f.op/\(if Cx f.op then J4 w f=true else f.arg=0/\f.path.length=0/\f.cls=0/\f.n=0)
theorem loc_iff(w:World)(f:Fact):(Je w f&&EX w f)=true ↔ locP w f:=by
 unfold locP Je EX J4 Uy Pd Cx inB Gl C9
 rcases Decidable.em (f.op=2)with h2|h2
 ·simp[h2];grind
 ·rcases Decidable.em (f.op=3)with h3|h3
  ·simp[h3];grind
  ·rcases Decidable.em (f.op=4)with h4|h4
   ·simp[h4];grind
   ·simp[h2,h3,h4]
    grind
theorem GX(w:World): ∀(d:Nat) (f:Fact) (s s':Int),0<=s->s<=1000->(Ga w d f s=(true,s') ↔ (s'=s-f.size/\(f.size:Int)<=s/\f.depth<=d/\IR w f=true))
 |0,f,s,s',_,_=>by
  have:=(Fact.depth_le f).1
  simp[Ga];omega
 | d+1,f,s,s',h0,h1=>by
  have hw:IntKind.i64.wrap (s-1)=s-1:=Ay (by omega) (by omega)
  have bj:∀(l:List Fact) (t t':Int),0<=t->t<=1000->(allS (Ga w d) l t=(true,t') ↔ (t'=t-Fact.sizes l/\(Fact.sizes l:Int)<=t/\(∀x∈l,x.depth<=d)/\DK w l=true)):=fun l=>by
   induction l with
   |nil=>intro t t' h0 h1;rw[allS,Fact.sizes,DK];simp;omega
   | cons x r ih =>
    intro t t' h0 h1
    rw[allS,Fact.sizes,DK]
    cases hy:Ga w d x t with
    | mk b t1 =>
     cases b with
     |false=>
      have hx:=GX w d x t (t-x.size) h0 h1
      rw[hy]at hx
      simp only[Prod.mk.injEq,Bool.false_eq_true,false_and,false_iff,List.mem_cons,forall_eq_or_imp,Bool.and_eq_true]at hx⊢
      rintro⟨a1,a2,⟨a3,a4⟩,a5,a6⟩
      exact hx ⟨trivial,by omega,a3,a5⟩
     |true=>
      obtain⟨b1,b2,b3,b4⟩:=(GX w d x t t1 h0 h1).1 hy
      simp only[List.mem_cons,forall_eq_or_imp,Bool.and_eq_true]
      rw[ih t1 t' (by omega) (by omega)]
      constructor
      ·rintro⟨a1,a2,a3,a4⟩;exact⟨by omega,by omega,⟨b3,a3⟩,b4,a4⟩
      ·rintro⟨a1,a2,⟨_,a3⟩,_,a4⟩;exact⟨by omega,by omega,a3,a4⟩
  have aZ:=loc_iff w f
  rw[Ga,hw,Fact.depth_eq,Fact.size_eq,Oa,Bool.and_eq_true,aZ]
  have hd:Fact.depths f.kids 0+1<=((d+1:Nat):Int) ↔ ∀x∈f.kids,x.depth<=d:=by
   have:=KK f.kids 0 d
   constructor
   ·intro h;exact(this.1 (by omega)).2
   ·intro h;have:=this.2 ⟨by omega,h⟩;omega
  rw[hd]
  unfold locP
  split
  ·rename_i hc
   simp only[Prod.mk.injEq,Bool.false_eq_true,false_and,false_iff]
   rintro⟨a1,a2,a3,⟨a4,a5,a6,a7⟩,a8⟩
   rcases hc with hc|hc|hc|hc<;>omega
  ·rename_i hc
   have c1:¬s-1<0:=fun h=>hc (.inl h)
   have c2:¬f.op<1:=fun h=>hc (.inr (.inl h))
   have c3:¬7<f.op:=fun h=>hc (.inr (.inr (.inl h)))
   have c4:f.kids.length=C9 f.op:=Classical.byContradiction fun h=>hc (.inr (.inr (.inr h)))
   split
   ·rename_i hl
    have hk:f.kids=[]:=by
     have:C9 f.op=0:=by
      unfold Cx at hl
      simp only[Bool.or_eq_true,decide_eq_true_eq]at hl
      unfold C9
      rw[if_neg (by omega),if_neg (by omega)]
     exact List.eq_nil_of_length_eq_zero (by omega)
    rw[hk]at c4⊢
    rw[Fact.sizes,DK]
    simp only[Prod.mk.injEq]
    constructor
    ·rintro⟨a1,a2⟩;exact⟨by omega,by omega,by simp,⟨by omega,by omega,c4,a1⟩,trivial⟩
    ·rintro⟨a1,a2,a3,⟨a4,a5,a6,a7⟩,a8⟩;exact⟨a7,by omega⟩
   ·rename_i hl
    split
    ·rename_i hz
     rw[bj _ _ _ (by omega) (by omega)]
     constructor
     ·rintro⟨a1,a2,a3,a4⟩;exact⟨by omega,by omega,a3,⟨by omega,by omega,c4,hz⟩,a4⟩
     ·rintro⟨a1,a2,a3,_,a4⟩;exact⟨by omega,by omega,a3,a4⟩
    ·rename_i hz
     simp only[Prod.mk.injEq,Bool.false_eq_true,false_and,false_iff]
     rintro⟨a1,a2,a3,⟨a4,a5,a6,a7⟩,a8⟩
     exact hz a7
mutual
theorem TV: ∀(f:Fact) (most:Int),((f.size:Int)<=most->f.cnt most=f.size)/\(most<f.size->most<f.cnt most)
 |.mk o a p c n k,most=>by
  have:=ON k most 1
  rw[Fact.cnt,Fact.size]
  omega
theorem ON: ∀(l:List Fact) (most n:Int),(n+(Fact.sizes l:Int)<=most->Fact.cnts l most n=n+Fact.sizes l)/\(most<n+Fact.sizes l->most<Fact.cnts l most n)
 |[],most,n=>by rw[Fact.cnts,Fact.sizes];omega
 | f::l,most,n=>by
  rw[Fact.cnts,Fact.sizes]
  have h1:=TV f (most-n)
  have h2:=Fact.cnts_le l most (n+f.cnt (most-n))
  have h3:=ON l most (n+f.cnt (most-n))
  split
  ·by_cases hs:(f.size:Int)<=most-n
   ·rw[h1.1 hs]at h2 h3⊢
    omega
   ·have:=h1.2 (by omega)
    omega
  ·omega
end
theorem Rt(w:World)(f:Fact):DP w f=DQ w f:=by
 have h:=GX w 12 f 24 (24-f.size) (by omega) (by omega)
 have hc:=TV f 24
 have e1:DP w f=true ↔ ((f.size:Int)<=24/\f.depth<=12/\IR w f=true):=by
  unfold DP
  constructor
  ·intro hb
   cases hn:Ga w 12 f 24 with
   |mk b s'=>
    rw[hn]at hb
    cases b with
    |false=>simp at hb
    |true=>exact((GX w 12 f 24 s' (by omega) (by omega)).1 hn).2
  ·intro hb
   rw[h.2 ⟨rfl,hb⟩]
 have e2:DQ w f=true ↔ ((f.size:Int)<=24/\f.depth<=12/\IR w f=true):=by
  unfold DQ
  simp only[Bool.and_eq_true,decide_eq_true_eq]
  constructor
  ·rintro⟨⟨a,b⟩,c⟩;exact⟨by omega,b,c⟩
  ·rintro⟨a,b,c⟩;exact⟨⟨by omega,b⟩,c⟩
 rw[Bool.eq_iff_iff,e1,e2]
theorem UP(p:BProg)(hC:Ax p=AE p):Df p=Fd p:=look_eq p hC fun f=>Rt _ f
theorem Ov{p:BProg}(hg:Bb (p.classes.map (·.parents))=true){k:Nat}(hk:k<p.classes.length):(p.classes[k]).parents.length<=3 /\ ∀x∈(p.classes[k]).parents,3<=x/\x<(k:Int)+3:=by
 have h:=BE hg (k+3)
 have e:parentsF (p.classes.map (·.parents)) ((k+3:Nat):Int)=(p.classes[k]).parents:=by
  unfold parentsF
  rw[if_neg (by omega),show(((k+3:Nat):Int)-3).toNat=k by omega,List.getElem?_eq_getElem (by simpa using hk)]
  simp
 rw[e]at h
 exact⟨h.1,fun x hx=>by have:=h.2 x hx;omega⟩
theorem OO: ∀(cs:List BClass) (n:Int),(∀c∈cs,c.parents.length<=3)->Fb n cs=B4 n cs
 |[],_,_=>rfl
 | c::r,n,h=>by
  have h3:=h c (by simp)
  rw[Fb,B4]
  by_cases h4:4<c.slots.length
  ·rw[if_pos (.inl h4),if_pos h4]
  ·rw[if_neg (by omega),if_neg h4]
   cases Cy n c.slots with
   |none=>rfl
   |some m=>exact OO r m fun x hx=>h x (by simp[hx])
theorem UR{g:List (List Int)}(hg:Bb g=true){c:Int}(hc:0<=c/\c<3+g.length):decide (linE g c=0)=decide (0<(FA g c).length):=by
 unfold linE
 rw[if_pos ⟨hg,hc⟩]
 by_cases h:FA g c=[]
 ·rw[if_pos h,h];rfl
 ·rw[if_neg h]
  have:=List.length_pos_iff.2 h
  simp[this]
theorem Lq(bs:List Bool)(i j:Nat)(v:Bool):(bs.set i v).getD j false=if i=j/\i<bs.length then v else bs.getD j false:=by
 rw[List.getD_eq_getElem?_getD,List.getD_eq_getElem?_getD,List.getElem?_set]
 by_cases h:i=j
 ·subst h
  by_cases hl:i<bs.length
  ·simp[hl]
  ·simp[hl]
 ·simp[h]
theorem GJ(k:Nat): ∀(ps:List Int) (bs:List Bool) (j:Nat),(∀x∈ps,0<=x/\x<k/\x<bs.length)->(G8 k ps bs).getD j false=(bs.getD j false||(bs.getD k false&&decide ((j:Int)∈ps)))
 |[],bs,j,_=>by rw[G8];simp
 | p::r,bs,j,h=>by
  obtain⟨h0,h1,h2⟩:=h p (by simp)
  rw[G8,GJ k r _ j (fun x hx=>by rw[List.length_set];exact h x (by simp[hx]))]
  rw[Lq,Lq]
  have hk:¬(p.toNat=k/\p.toNat<bs.length):=by omega
  rw[if_neg hk]
  by_cases hj:p.toNat=j
  ·have bc:(j:Int)=p:=by omega
   rw[if_pos ⟨hj,by omega⟩,hj]
   simp[bc]
   cases bs.getD j false<;>cases bs.getD k false<;>simp_all
  ·have bc:¬(j:Int)=p:=by omega
   rw[if_neg (by rintro⟨a,_⟩;exact hj a)]
   simp[bc]
theorem Il(g:List (List Int))(hg:Bb g=true): ∀(j:Nat) (bs:List Bool) (k:Nat),j+2<k->bs.length=3+g.length->j<=g.length->(upD g j bs).getD k false=bs.getD k false
 |0,_,_,_,_,_=>rfl
 | j+1,bs,k,h,hl,hj=>by
  have hp:=(BE hg (j+3)).2
  rw[upD,Il g hg j _ k (by omega) (by rw[Da];exact hl) (by omega),GJ _ _ _ _ (fun x hx=>by have:=hp x hx;omega)]
  have:decide ((k:Int)∈parentsF g ((j+3:Nat):Int))=false:=by
   rw[decide_eq_false_iff_not];intro hx
   have:=hp k hx;omega
  rw[this];simp
theorem Kj{α:Type}[DecidableEq α]{x:α}: ∀(l s:List α),x∈Gh l s ↔ x∈l\/x∈s
 |[],s=>by unfold Gh;simp
 |y::r,s=>by
  have:=Kj (x:=x) r (ins y s)
  unfold Gh at this⊢
  rw[List.foldl_cons,this,mem_ins,List.mem_cons]
  grind
theorem Lp{p:BProg}(hg:Bb (p.classes.map (·.parents))=true){s:Int}: ∀(n:Nat) (up out:List Int) (bs:List Bool),n<=p.classes.length->bs.length=3+p.classes.length->(∀k:Nat,3<=k->k<n+3->((k:Int)∈up ↔ bs.getD k false=true))->
  (s∈hasG p.classes n up out ↔ s∈out \/ ∃k, ∃h:k<p.classes.length,k<n/\(upD (p.classes.map (·.parents)) n bs).getD (k+3) false=true/\s∈(p.classes[k]).slots)
 |0,up,out,bs,_,_,_=>by rw[hasG];simp
 | n+1,up,out,bs,hn,hl,hR=>by
  have aI:n<p.classes.length:=by omega
  have aB:=(Ov hg aI).2
  have aT:parentsF (p.classes.map (·.parents)) ((n+3:Nat):Int)=(p.classes[n]).parents:=by
   unfold parentsF
   rw[if_neg (by omega),show(((n+3:Nat):Int)-3).toNat=n by omega,List.getElem?_eq_getElem (by simpa using aI)]
   simp
  have ax:=fun (j:Nat)=>GJ (n+3) (p.classes[n]).parents bs j (fun x hx=>by have:=aB x hx;omega)
  have hlen:(G8 (n+3) (p.classes[n]).parents bs).length=3+p.classes.length:=by rw[Da];exact hl
  have aq:=Il _ hg n (G8 (n+3) (p.classes[n]).parents bs) (n+3) (by omega) (by rw[hlen,List.length_map]) (by rw[List.length_map];omega)
  have aa:(G8 (n+3) (p.classes[n]).parents bs).getD (n+3) false=bs.getD (n+3) false:=by
   rw[ax]
   have:decide (((n+3:Nat):Int)∈(p.classes[n]).parents)=false:=by rw[decide_eq_false_iff_not];intro hx;have:=aB _ hx;omega
   rw[this];simp
  have ac:=hR (n+3) (by omega) (by omega)
  rw[hasG,List.getElem?_eq_getElem aI,upD,aT]
  simp only
  have aG:((n+3:Nat):Int)=(n:Int)+3:=by omega
  rw[aG]at ac
  by_cases hu:(n:Int)+3∈up
  ·have hb:=ac.1 hu
   rw[if_pos hu,Lp hg n _ _ (G8 (n+3) (p.classes[n]).parents bs) (by omega) hlen (fun k h3 hk=>by
    rw[Kj,hR k h3 (by omega),ax k,hb]
    simp;grind),List.mem_append]
   constructor
   ·rintro((h|h)|⟨k,hk,h1,h2,h3⟩)
    ·exact .inl h
    ·exact .inr ⟨n,aI,by omega,by rw[aq,aa];exact hb,h⟩
    ·exact .inr ⟨k,hk,by omega,h2,h3⟩
   ·rintro(h|⟨k,hk,h1,h2,h3⟩)
    ·exact .inl (.inl h)
    ·by_cases bb:k=n
     ·subst bb;exact .inl (.inr h3)
     ·exact .inr ⟨k,hk,by omega,h2,h3⟩
  ·have hb:bs.getD (n+3) false=false:=by
    cases h:bs.getD (n+3) false
    ·rfl
    ·exact absurd (ac.2 h) hu
   rw[if_neg hu,Lp hg n _ _ (G8 (n+3) (p.classes[n]).parents bs) (by omega) hlen (fun k h3 hk=>by
    rw[hR k h3 (by omega),ax k,hb]
    simp)]
   constructor
   ·rintro(h|⟨k,hk,h1,h2,h3⟩)
    ·exact .inl h
    ·exact .inr ⟨k,hk,by omega,h2,h3⟩
   ·rintro(h|⟨k,hk,h1,h2,h3⟩)
    ·exact .inl h
    ·by_cases bb:k=n
     ·subst bb;rw[aq,aa,hb]at h2;cases h2
     ·exact .inr ⟨k,hk,by omega,h2,h3⟩
theorem GR: ∀(l:List Int) (n m:Int),Cy n l=some m->m=n+l.length /\ ∀x∈l,n<=x/\x<m
 |[],n,m,h=>by rw[Cy]at h;cases h;simp
 | s::r,n,m,h=>by
  rw[Cy]at h
  split at h
  ·rename_i hs
   obtain⟨h1,h2⟩:=GR r _ _ h
   refine⟨by rw[h1,List.length_cons];omega,fun x hx=>?_⟩
   rcases List.mem_cons.1 hx with rfl|hx
   ·omega
   ·have:=h2 x hx;omega
  ·cases h
theorem HS: ∀(cs:List BClass) (n m:Int),B4 n cs=some m->m=n+wtL (fun c:BClass=>c.slots.length) cs/\(∀c∈cs, ∀x∈c.slots,n<=x/\x<m)/\wtL (fun c:BClass=>c.slots.length) cs<=4*cs.length
 |[],n,m,h=>by rw[B4]at h;cases h;simp[wtL]
 | c::r,n,m,h=>by
  rw[B4]at h
  split at h
  ·cases h
  ·rename_i h4
   split at h
   ·cases h
   ·rename_i m1 hm
    obtain⟨h1,h2⟩:=GR _ _ _ hm
    obtain⟨h5,h6,h7⟩:=HS r _ _ h
    refine⟨by rw[wtL];omega,fun x hx y hy=>?_,by rw[wtL,List.length_cons];omega⟩
    rcases List.mem_cons.1 hx with rfl|hx
    ·have:=h2 y hy;omega
    ·have:=h6 x hx y hy;omega
theorem Gu: ∀(cs:List BClass) (i:Nat),(ownersF cs i).length=wtL (fun c:BClass=>c.slots.length) cs
 |[],_=>by rw[ownersF,wtL];rfl
 |c::r,i=>by rw[ownersF,wtL,List.length_append,List.length_replicate,Gu r]
theorem K9: ∀(l:List Int) (n m:Int),Cy n l=some m->∀s,s∈l ↔ n<=s/\s<m
 |[],n,m,h,s=>by rw[Cy]at h;cases h;simp
 | x::r,n,m,h,s=>by
  rw[Cy]at h
  split at h
  ·rename_i hx
   have h1:=K9 r _ _ h s
   have h2:=(GR r _ _ h).1
   rw[List.mem_cons,h1]
   omega
  ·cases h
theorem Ke: ∀(cs:List BClass) (i:Nat), ∀x∈ownersF cs i,(i:Int)+3<=x
 |[],_,x,hx=>by simp[ownersF]at hx
 |c::r,i,x,hx=>by
  rw[ownersF]at hx
  rcases List.mem_append.1 hx with hx|hx
  ·have:=List.eq_of_mem_replicate hx;omega
  ·have:=Ke r (i+1) x hx;omega
theorem LZ: ∀(cs:List BClass) (i:Nat) (n m:Int),B4 n cs=some m->∀(s:Int) (k:Nat) (h:k<cs.length),s∈(cs[k]).slots ↔ n<=s/\s<m/\((ownersF cs i)[(s-n).toNat]?).getD 0=(i:Int)+k+3
 |[],_,_,_,_,_,k,h=>by simp at h
 | c::r,i,n,m,hc,s,k,h=>by
  rw[B4]at hc
  split at hc
  ·cases hc
  ·split at hc
   ·cases hc
   ·rename_i m1 hm
    have h1:=K9 _ _ _ hm s
    have h2:=(GR _ _ _ hm).1
    obtain⟨h3,_,_⟩:=HS r _ _ hc
    have hlen:=Gu r (i+1)
    rw[ownersF]
    have bq:n<=s->s<m1->((List.replicate c.slots.length ((i:Int)+3)++ownersF r (i+1))[(s-n).toNat]?).getD 0=(i:Int)+3:=fun a b=>by
     rw[List.getElem?_append_left (by rw[List.length_replicate];omega),List.getElem?_replicate,if_pos (by omega)];rfl
    have aV:m1<=s->((List.replicate c.slots.length ((i:Int)+3)++ownersF r (i+1))[(s-n).toNat]?).getD 0=((ownersF r (i+1))[(s-m1).toNat]?).getD 0:=fun a=>by
     rw[List.getElem?_append_right (by rw[List.length_replicate];omega),List.length_replicate,show(s-n).toNat-c.slots.length=(s-m1).toNat by omega]
    cases k with
    | zero =>
     simp only[List.getElem_cons_zero]
     rw[h1]
     constructor
     ·rintro⟨a,b⟩;exact⟨a,by omega,by rw[bq a b];simp⟩
     ·rintro⟨a,b,d⟩
      refine⟨a,Classical.byContradiction fun hn=>?_⟩
      rw[aV (by omega)]at d
      have hl:(s-m1).toNat<(ownersF r (i+1)).length:=by omega
      rw[List.getElem?_eq_getElem hl]at d
      have:=Ke r (i+1) _ (List.getElem_mem hl)
      simp at d;omega
    | succ k =>
     simp only[List.getElem_cons_succ]
     rw[LZ r (i+1) m1 m hc s k (by simpa using h)]
     constructor
     ·rintro⟨a,b,d⟩;exact⟨by omega,b,by rw[aV a,d];omega⟩
     ·rintro⟨a,b,d⟩
      by_cases hs:s<m1
      ·rw[bq a hs]at d;omega
      ·rw[aV (by omega)]at d;exact⟨by omega,b,by rw[d];omega⟩
theorem QY{x:Int}{l:List Int}:x∈EN l ↔ x∈l:=by unfold EN;exact List.mem_mergeSort
theorem Ug(g:List (List Int))(hg:Bb g=true)(i:Nat)(bs:List Bool)(hl:bs.length=3+g.length)(hi:i<g.length):(upD g (i+1) bs).getD (i+3) false=bs.getD (i+3) false:=by
 have hp:=(BE hg (i+3)).2
 rw[upD,Il g hg i _ (i+3) (by omega) (by rw[Da];exact hl) (by omega),GJ _ _ _ _ (fun x hx=>by have:=hp x hx;omega)]
 have:decide (((i+3:Nat):Int)∈parentsF g ((i+3:Nat):Int))=false:=by
  rw[decide_eq_false_iff_not];intro hx
  have:=hp _ hx;omega
 rw[this];simp
theorem UX{p:BProg}{N:Int}(hg:Bb (p.classes.map (·.parents))=true)(hc:B4 0 p.classes=some N){i:Nat}(hi:i<p.classes.length)(s:Int):s∈hasP p ((i:Int)+3) ↔ (0<=s/\s<N)/\hasW (Bp p) ((i:Int)+3) s=true:=by
 have aF:(p.classes.map (·.parents)).length=p.classes.length:=List.length_map _
 have bE:((i:Int)+3-2).toNat=i+1:=by omega
 have aR:((i:Int)+3).toNat=i+3:=by omega
 have ai:((List.replicate (3+p.classes.length) false).set (i+3) true).length=3+p.classes.length:=by rw[List.length_set,List.length_replicate]
 have hb:∀k:Nat,((List.replicate (3+p.classes.length) false).set (i+3) true).getD k false=decide (i+3=k):=fun k=>by
  rw[Lq]
  by_cases h:i+3=k
  ·rw[if_pos ⟨h,by rw[List.length_replicate];omega⟩,decide_eq_true h]
  ·rw[if_neg (fun hh=>h hh.1),decide_eq_false h,List.getD_eq_getElem?_getD,List.getElem?_replicate]
   split<;>rfl
 unfold hasP
 rw[QY,bE,Lp hg (i+1) [(i:Int)+3] [] _ (by omega) ai (fun k _ _=>by
  rw[hb];simp only[List.mem_singleton,decide_eq_true_eq];omega)]
 have bC:upF (Bp p).parents ((i:Int)+3)=upD (p.classes.map (·.parents)) (i+1) ((List.replicate (3+p.classes.length) false).set (i+3) true):=by
  unfold upF Bp
  simp only[aF,aR]
  rfl
 obtain⟨hN,_,_⟩:=HS _ _ _ hc
 have bV:=Gu p.classes 0
 have aC:=fun k (h:k<p.classes.length)=>LZ p.classes 0 0 N hc s k h
 simp only[Int.sub_zero]at aC
 have aa:=Ug _ hg i _ (by rw[ai,aF]) (by rw[aF];exact hi)
 rw[hb]at aa
 have bN:∀k:Nat,i<k->(upD (p.classes.map (·.parents)) (i+1) ((List.replicate (3+p.classes.length) false).set (i+3) true)).getD (k+3) false=false:=fun k hk=>by
  rw[Il _ hg (i+1) _ (k+3) (by omega) (by rw[ai,aF]) (by rw[aF];omega),hb]
  exact decide_eq_false (by omega)
 unfold hasW Ie
 rw[bC]
 simp only[List.not_mem_nil,false_or,Bool.and_eq_true,Bool.or_eq_true,decide_eq_true_eq]
 have bB:(Bp p).owner=ownersF p.classes 0:=rfl
 rw[bB]
 constructor
 ·rintro⟨k,hk,h1,h2,h3⟩
  obtain⟨a,b,d⟩:=(aC k hk).1 h3
  refine⟨⟨a,b⟩,by omega,.inr ⟨by omega,?_⟩⟩
  rw[d,show(((0:Nat):Int)+k+3).toNat=k+3 by omega]
  exact h2
 ·rintro⟨⟨a,b⟩, -, h⟩
  have bn:s.toNat<(ownersF p.classes 0).length:=by omega
  have bH:=Gt (List.getElem_mem bn)
  rw[List.getElem?_eq_getElem bn]at h aC
  simp only[Option.getD_some]at h aC
  obtain⟨o1,o2⟩:=bH
  generalize (ownersF p.classes 0)[s.toNat]=o at*
  have bp:o=((o-3).toNat:Int)+3:=by omega
  have ap:(o-3).toNat<p.classes.length:=by omega
  refine⟨(o-3).toNat,ap,?_⟩
  have bm:=(aC _ ap).2 ⟨a,b,by omega⟩
  have bI:o.toNat=(o-3).toNat+3:=by omega
  rcases h with(h|h)|⟨-, h⟩
  ·have hk:(o-3).toNat=i:=by omega
   exact⟨by omega,by rw[hk,aa];simp,bm⟩
  ·omega
  ·rw[bI]at h
   refine⟨Nat.lt_of_not_le fun hh=>?_,h,bm⟩
   rw[bN _ (by omega)]at h
   cases h
theorem On{w:World}{N c:Int}{bi:List Int}(hh:∀s,s∈bi ↔ (0<=s/\s<N)/\hasW w c s=true): ∀(l:List Init) (seen:List Init),DO bi (seen.map (·.slot)) l=FD w N c seen l
 |[],_=>rfl
 | x::r,seen=>by
  rw[DO,FD,<-On hh r (seen++[x]),List.map_append,List.map_singleton]
  have h1:decide (x.slot∈bi)=(decide (0<=x.slot/\x.slot<N)&&hasW w c x.slot):=by
   rw[Bool.eq_iff_iff,decide_eq_true_eq,Bool.and_eq_true,decide_eq_true_eq,hh]
  have h2:(!decide (x.slot∈seen.map (·.slot)))=seen.all fun y=> !decide (y.slot=x.slot):=by
   rw[Bool.eq_iff_iff,List.all_eq_true]
   simp only[Bool.not_eq_true',decide_eq_false_iff_not,List.mem_map,not_exists,not_and]
  rw[h1,h2]
  unfold F9
  generalize (decide (0<=x.slot/\x.slot<N)&&hasW w c x.slot)=a
  generalize (seen.all fun y=> !decide (y.slot=x.slot))=b
  cases a<;>cases b<;>cases inB x.n<;>rfl
theorem J6{p:BProg}{N:Int}(hg:Bb (p.classes.map (·.parents))=true)(hc:B4 0 p.classes=some N): ∀(l:List BClass) (i:Nat),i+l.length=p.classes.length->Ba p i l=Dv (Bp p) N i l
 |[],_,_=>rfl
 |c::r,i,hl=>by
  rw[List.length_cons]at hl
  rw[Ba,Dv,J6 hg hc r (i+1) (by omega)]
  have h1:=UR hg (c:=(i:Int)+3) ⟨by omega,by rw[List.length_map];omega⟩
  have h2:=On (UX hg hc (i:=i) (by omega)) c.inits []
  rw[List.map_nil]at h2
  rw[h1,h2]
  rfl
theorem PU(p:BProg):Ax p=AE p:=by
 unfold Ax AE
 cases hg:Bb (p.classes.map (·.parents))with
 | true =>
  have h3:∀c∈p.classes,c.parents.length<=3:=fun c hc=>by
   obtain⟨k,hk,rfl⟩:=List.getElem_of_mem hc
   exact(Ov hg hk).1
  rw[OO p.classes 0 h3]
  cases hc:B4 0 p.classes with
  |none=>rfl
  |some n=>simp only[J6 hg hc p.classes 0 (by omega)]
 |false=>
  congr 1
  cases B4 0 p.classes<;>cases Fb 0 p.classes<;>simp
theorem UO(p:BProg):Df p=Fd p:=UP p (PU p)
def BdM(e0:Int)(q:Nat)(met:Met):Prop:= ∀j l,met j=some l->0<=l.st/\l.st<=q/\e0<=l.env/\l.env<=e0+q
theorem BdM.mono{e0:Int}{q r:Nat}{met:Met}(h:BdM e0 q met)(hr:q<=r):BdM e0 r met:=fun j l hj=>by obtain⟨a,b,c,d⟩:=h j l hj;omega
theorem BdM.reach{N:Nat}{e0:Int}{q:Nat}{met m:Met}{n:Int}{l:CLev}(h:BdM e0 q met)(hr:AI N met n l=some m)(hl:0<=l.st/\l.st<=q/\e0<=l.env/\l.env<=e0+q):BdM e0 q m:=by
 unfold AI at hr
 split at hr
 ·cases hr
 ·cases hr
  intro j x hj
  unfold updM at hj
  split at hj
  ·cases hj;exact hl
  ·exact h j x hj
theorem step_bd {p:BProg} {c:CProg} {env:Int} {next:Bool} {q:Nat} {x:CIns} {l:CLev} {met m:Met} (hg:0<=(Ag p x).1/\0<=(Ag p x).2/\(Ag p x).2<=1) (h:CT p c env next q x l met=some m) (hb:BdM env q met) (hl:met q=some l):BdM env (q+1) m:=by
 have b:=hb q l hl
 have b2:=hb.mono (Nat.le_succ q)
 unfold CT at h
 split at h
 ·cases h
 ·rename_i hn
  have e1:¬l.st<(Ag p x).1:=fun k=>hn (.inl k)
  have e3:x.op=15->¬l.env<=env:=fun k1 k2=>hn (.inr (.inr (.inl ⟨k1,k2⟩)))
  clear hn
  split at h
  ·split at h
   ·cases h;exact b2
   ·cases h
  ·split at h
   ·exact b2.reach h (by simp only;omega)
   ·split at h
    ·exact b2.reach h (by simp only;omega)
    ·split at h
     ·exact b2.reach h (by simp only;omega)
     ·split at h
      ·split at h
       ·cases h
       ·rename_i h1
        exact(b2.reach h1 (by simp only;omega)).reach h (by simp only;omega)
      ·exact b2.reach h (by simp only;omega)
theorem VY(e0:Int)(q:Nat)(n:Nat):BdM e0 q (updM (fun _=>none) n ⟨0,e0⟩):=fun j l h=>by
 unfold updM at h
 split at h
 ·cases h;simp only;omega
 ·cases h
theorem Kc{N q:Nat}(W:Met)(l:CLev)(h:q<N):AI N W (q:Int) l=Dy q l W:=by
 unfold AI Dy
 rw[show((q:Int)).toNat=q by omega]
 by_cases e:W q≠none/\W q≠some l
 ·rw[if_pos e,if_pos (.inr (.inr e))]
 ·rw[if_neg e,if_neg]
  rintro(h1|h1|h1)
  ·omega
  ·omega
  ·exact e h1
def allM(p:BProg)(c:CProg):List CSt->Met->Option Met
 |[],W=>some W
 |s::r,W=>match B5 p c s Dy W with
  |none=>none
  |some V=>allM p c r V
theorem N8{p:BProg}{c:CProg}(hf:∀q:Nat,(Am c q).op=17\/(Am c q).op=18->(q:Int)<(Am c q).a): ∀(l:List CSt) (W:Met),DN p c l W=allM p c l W
 |[],_=>rfl
 | s::r,W=>by
  rw[DN,allM,NY hf]
  cases wayM p c s with
  |none=>rfl
  |some w=>
   simp only
   cases mrgM c.ins.length W w with
   |none=>rfl
   |some V=>exact N8 hf r V
theorem Nb{p:BProg}{N:Nat}: ∀(l:List CIns) (q:Nat),CW p N l q=true->∀(i:Nat) (x:CIns),l[i]? = some x->fitsC p N (q+i) x=true:=fun l q h i x hx=>(EH l q).1 h i x hx
theorem Ps{p:BProg}{c:CProg}(h:CW p c.ins.length c.ins 0=true)(q:Nat):(Am c q).op=17\/(Am c q).op=18->(q:Int)<(Am c q).a:=by
 intro ho
 cases hq:c.ins[q]? with
 |none=>unfold Am at ho;rw[hq]at ho;simp at ho
 |some x=>
  have e:Am c q=x:=by unfold Am;rw[hq];rfl
  rw[e]at ho⊢
  have:=Nb _ _ h q x hq
  rw[Nat.zero_add]at this
  unfold fitsC at this
  rcases ho with ho|ho<;>rw[ho]at this<;>simp at this<;>omega
section
variable {p:BProg}{c:CProg}
theorem Uj{s:CSt}(W:Met)(h:AI c.ins.length (fun _=>none) s.pos ⟨0,s.env⟩=none):B5 p c s Dy W=none:=by
 unfold AI at h
 split at h
 ·rename_i hc
  unfold B5
  refine if_pos ?_
  rcases hc with hc|hc|⟨hc,_⟩
  ·exact .inl hc
  ·exact .inr hc
  ·exact absurd rfl hc
 ·cases h
theorem Ui{s:CSt}{m:Met}(W:Met)(h:AI c.ins.length (fun _=>none) s.pos ⟨0,s.env⟩=some m):0<=s.pos/\s.pos<c.ins.length/\m=updM (fun _=>none) s.pos.toNat ⟨0,s.env⟩/\B5 p c s Dy W=CZ p c s.env s.next Dy (c.ins.length-s.pos.toNat) s.pos.toNat m W:=by
 unfold AI at h
 split at h
 ·cases h
 ·rename_i hc
  cases h
  have h1:¬s.pos<0:=fun k=>hc (.inl k)
  have h2:¬(c.ins.length:Int)<=s.pos:=fun k=>hc (.inr (.inl k))
  refine⟨by omega,by omega,rfl,?_⟩
  unfold B5
  exact if_neg (by omega)
theorem go_skip{env:Int}{next:Bool}{q:Nat}{met W:Met}(hq:q<c.ins.length)(h:met q=none):CZ p c env next Dy (c.ins.length-q) q met W=CZ p c env next Dy (c.ins.length-(q+1)) (q+1) met W:=by
 rw[show c.ins.length-q=(c.ins.length-(q+1))+1 by omega,CZ,h]
theorem go_none{env:Int}{next:Bool}{q:Nat}{met W:Met}{l:CLev}(hq:q<c.ins.length)(h:met q=some l)(hs:CT p c env next q (Am c q) l met=none):CZ p c env next Dy (c.ins.length-q) q met W=none:=by
 rw[show c.ins.length-q=(c.ins.length-(q+1))+1 by omega,CZ,h]
 simp only[hs]
theorem UY{env:Int}{next:Bool}{q:Nat}{met W m:Met}{l:CLev}(hq:q<c.ins.length)(h:met q=some l)(hs:CT p c env next q (Am c q) l met=some m)(hg:AI c.ins.length W (q:Int) l=none):CZ p c env next Dy (c.ins.length-q) q met W=none:=by
 rw[Kc _ _ hq]at hg
 rw[show c.ins.length-q=(c.ins.length-(q+1))+1 by omega,CZ,h]
 simp only[hs,hg]
theorem go_some{env:Int}{next:Bool}{q:Nat}{met W m V:Met}{l:CLev}(hq:q<c.ins.length)(h:met q=some l)(hs:CT p c env next q (Am c q) l met=some m)(hg:AI c.ins.length W (q:Int) l=some V):CZ p c env next Dy (c.ins.length-q) q met W=CZ p c env next Dy (c.ins.length-(q+1)) (q+1) m V:=by
 rw[Kc _ _ hq]at hg
 rw[show c.ins.length-q=(c.ins.length-(q+1))+1 by omega,CZ,h]
 simp only[hs,hg]
theorem VZ{s:CSt}{r:List CSt}{W V:Met}(h:B5 p c s Dy W=some V):allM p c (s::r) W=allM p c r V:=by rw[allM,h]
theorem LH{s:CSt}{r:List CSt}{W:Met}(h:B5 p c s Dy W=none):allM p c (s::r) W=none:=by rw[allM,h]
theorem HJ{l:List CSt}(h:DN p c l (fun _=>none)=none):DZ p c l=none:=by unfold DZ;rw[h]
theorem Qh(p:BProg)(c:CProg)(h:c.starts.length=p.methods.length):(stsP p c).length=c.starts.length+1:=by unfold stsP;simp[h]
theorem sts_at(p:BProg)(c:CProg)(h:c.starts.length=p.methods.length)(i:Nat)(hi:i<c.starts.length):(stsP p c).drop i=CV p (p.methods[i]'(by omega)) c.starts[i]::(stsP p c).drop (i+1):=by
 have hl:=Qh p c h
 rw[List.drop_eq_getElem_cons (by omega)]
 congr 1
 unfold stsP
 rw[List.getElem_append_left (by simp;omega),List.getElem_zipWith]
theorem sts_end(p:BProg)(c:CProg)(h:c.starts.length=p.methods.length):(stsP p c).drop c.starts.length=[⟨c.main,0,false⟩]:=by
 unfold stsP
 rw[List.drop_append,List.drop_eq_nil_of_le (by simp;omega)]
 simp[h]
end
end Go.DL
