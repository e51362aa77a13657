/- A part of the proof. -/
import Derived.Test.YteldimffglchkaaGreatDoorH18
import Derived.Test.YteldimffglchkaaGreatDoorH10
import Derived.Test.YteldimffglchkaaGreatDoorH17
import Derived.Test.YteldimffglchkaaGreatDoorH16
import Derived.Test.YteldimffglchkaaGreatDoorH19
set_option linter.all false
namespace Go.DL
open Go.Proofs.Tryz
open Go Go.Proofs
set_option maxHeartbeats 8000000
theorem OC{S:Type}(l:List Int)(lb:Nat)(u:D)(Good:Sig->S->Prop)(Bad:Sig->Prop)(touch:Nat->Prop)(step:Int->S->S)(hl:l.length<=1073741824)
  (hy:∀(k:Nat) (hk:k<l.length) O s,Good O s->DYield prog lb [dI k,dI l[k]] O (OutO u (.bool true) Good Bad touch O (some (step l[k] s)))) (O:Sig) (s:S) (hG:Good O s) :
  DCall prog 366 [.yld lb,.cptr [sl (cI l)] 0] O (OutO u (.tup []) Good Bad touch O (some (l.foldr step s))):=by
 refine en func366 ntmps366 ?_
 try refine gz ?_
 refine FH [0,1] (fun (k:Nat) (s1:S) (S1:Sig)=>k<=l.length/\Good S1 s1/\l.foldr step s=(l.take k).foldr step s1/\(∀j o,O j=some o->¬touch j->S1 j=some o)) (fun k _ _=>[(3,dI ((k:Int)-1))]) (fun _ _ S1=>S1) (fun k _ _=>k) (l.length) (s) (O) (by exact⟨by omega,hG,by simp,fun _ _ h _=>h⟩) (fun k s1 S1 hI=>?_)
 obtain⟨hk,aK,hR,hK⟩:=hI
 cases k with
 |zero=>
  try refine gz ?_
  refine DZ (U':=S1) ?_
  exact⟨rfl,by rw[hR];exact aK,hK⟩
 |succ k=>
  have aA:k<l.length:=by omega
  have e:((k+1:Nat):Int)-1=k:=by omega
  rw[List.take_succ_eq_append_getElem aA,List.foldr_append]at hR
  try refine gf e ?_
  refine yldW (hy k aA S1 s1 aK) (fun d U' hr=>?_) (fun d U' hr=>by obtain⟨h,_⟩:=hr.pan;cases h)
  obtain⟨s2,bk,rfl,aY,aJ⟩:=hr.ret
  cases bk
  try refine gf e ?_
  exact⟨k,_,U',⟨by omega,aY,hR,fun j o h1 h2=>aJ j o (hK j o h1 h2) h2⟩,td1,wkR⟩
theorem QI(l:List Int)(O:Sig):DCall prog 336 [sl (cI l)] O (rS (.func (.func 366) [] [.cptr [sl (cI l)] 0]) O):=by
 refine en func336 ntmps336 ?_
 try refine gz ?_
 exact fe1 trivial
@[reducible,instance] def a336:=fun l O=>ah0 (@QI l O)
def Dw:List Init->List (Int×Int)->List (Int×Int)
 |[],m=>m
 |x::r,m=>Dw r (putM x.slot x.n m)
def Di(p:BProg)(c:Int)(m:List (Int×Int)):List (Int×Int):=if 3<=c then Dw (((p.classes[(c-3).toNat]?).map (·.inits)).getD []) m else m
def Hi(p:BProg)(order:List Int):List (Int×Int):=order.foldr (Di p) []
def beginL(m:List (Int×Int)):List Int->List Init
 |[]=>[]
 |s::r=>if hasM s m then⟨s,getM 0 s m⟩::beginL m r else beginL m r
def E4(p:BProg)(c:Int):List Init:=beginL (Hi p (linF (p.classes.map (·.parents)) c)) (hasP p c)
theorem Ge{p:BProg}: ∀{cs:List BClass}{i:Nat},Bf p i cs=true->∀k,k<cs.length->linE (p.classes.map (·.parents)) (((i+k:Nat):Int)+3)=0
 |c::r,i,h,0,_=>by rw[Bf]at h;simp only[Bool.and_eq_true,decide_eq_true_eq]at h;exact h.1.1
 |c::r,i,h,k+1,hk=>by
  rw[Bf]at h;simp only[Bool.and_eq_true,decide_eq_true_eq]at h
  have:=Ge h.2 k (by simpa using hk)
  rw[show i+(k+1)=i+1+k by omega];exact this
theorem okP_lin{p:BProg}(h:okP p=true){c:Int}(h1:3<=c)(h2:c<3+p.classes.length):linE (p.classes.map (·.parents)) c=0/\Cu (p.classes.map (·.parents))=true:=by
 have h:=Eh h
 unfold AA at h
 simp only[Bool.and_eq_true,decide_eq_true_eq]at h
 obtain⟨_,h⟩:=h
 split at h
 ·cases h
 ·simp only[Bool.and_eq_true,decide_eq_true_eq]at h
  have:=Ge h.2 (c-3).toNat (by omega)
  rw[show(((0+(c-3).toNat:Nat):Int)+3)=c by omega]at this
  exact⟨this,h.1.2⟩
theorem finMR{P:Program}{n:Nat}{fn:Func}{R:DE->Sig->Prop}{γ:Fr}{O U':Sig}{d d':D}(js:List Nat)(hR:R (.ret d') U')(hU:Sub U' (dels js O))(hn:js.Nodup:=by simp)(hd:∀j∈js,O j=some .defs:=by simp)(h:resD fn γ=some d:=by exact tdR)(hw:WkD d d'): ∃s',Wk P n ⟨γ,O,js.map .coll⟩ s'/\P5 P n fn (Weak R) .ret s':=
 ⟨_,Wk.refl _ _ _,js,rfl,hn,hd,d,D1 h,.ret d',U',hw,hU,hR⟩
theorem QP(p:BProg)(c:Int)(O:Sig)(hp:p.wt<=1073741824:=by exact sd):DCall prog 290 [.agg (Aj p),dI c] O (rS (.tup [sl ((if ownF p c&&okP p then E4 p c else []).map IB),dI (if ownF p c&&okP p then 0 else 2)]) O):=by
 obtain⟨p1,p2,p3,p4,p5,p6,p7⟩:=p.wt_le
 have aL:∀c∈p.classes,c.parents.length<=1073741824/\c.slots.length<=1073741824/\c.inits.length<=1073741824:=fun c hc=>by
  obtain⟨k,hk,rfl⟩:=List.getElem_of_mem hc
  have:=p5 k hk
  unfold BClass.wt at this;omega
 have bA:∀c∈p.classes,c.parents.length<=1073741824:=fun c hc=>(aL c hc).1
 have bB:∀x∈p.classes.map (·.parents),x.length<=1073741824:=fun x hx=>by obtain⟨c,hc,rfl⟩:=List.mem_map.1 hx;exact(aL c hc).1
 refine Er func290 rfl (by decide) ntmps290 (by simp) ?_
 cases hk:ownF p c&&okP p
 ·try refine gf hk ?_
  refine finMR [] (U':=O) ⟨rfl,rfl⟩ (Sub.refl _) (hw:=?_)
  exact CA ⟨Ao _ (.inl rfl),A8 _,trivial⟩
 ·have ho:3<=c/\c<3+p.classes.length:=by simp only[ownF,Bool.and_eq_true,decide_eq_true_eq]at hk;exact hk.1
  have aF:okP p=true:=by simp only[Bool.and_eq_true]at hk;exact hk.2
  obtain⟨h1,h2⟩:=ho
  obtain⟨ay,ac⟩:=okP_lin aF h1 h2
  have ba:linF (p.classes.map (·.parents)) c=Lb (p.classes.map (·.parents)) c:=by
   unfold linF;rw[if_pos ⟨ac,by omega,by rw[List.length_map];omega⟩]
  have aP:∀y∈linF (p.classes.map (·.parents)) c,0<=y/\y<3+p.classes.length:=fun y hy=>by
   rw[ba]at hy
   obtain⟨x,hx,hy⟩:=HZ hy
   have:=HY ac _ x hx y hy
   rw[List.length_map]at this;omega
  have bD:(linF (p.classes.map (·.parents)) c).length<=80000000:=by rw[ba];exact Eg ac (Nat.le_refl _) (by omega)
  have bG:=Cc p c
  have ws:=E6 p
  try refine gf (gi hk ay) ?_
  refine newIN (fun im bq=>?_)
  try refine gf (gi hk ay) ?_
  refine JC (u:=unf) (fun did U' m=>U' im=some (.map (eIN m))/\Keep (· = im) ((O.set im (.map (eIN []))).set did .defs) U') (fun did U'=>False) (· = im) (some (Hi p (linF (p.classes.map (·.parents)) c))) rfl (fun l did hd hl aa LO ax=>?_) (fun l did m U' ho hd hl aa hG=>?_) (fun did U' ho hd hb=>hb.elim)
  ·refine OC (linF (p.classes.map (·.parents)) c) l unf _ _ _ (Di p) (by omega) (fun k hk S1 m1 hG=>?_) _ [] ?_
   ·obtain⟨aS,aR,bx⟩:=hG
    refine MM ax aS ?_
    clear ax
    try refine gz ?_
    refine⟨aS,?_⟩
    have hy:=aP _ (List.getElem_mem hk)
    generalize (linF (p.classes.map (·.parents)) c)[k]=y at*
    have aj:l≠im:=fun e=>by rw[e,w6]at hl;cases hl
    have bm:(S1.set l (Cy LO)) im=some (.map (eIN m1)):=by rw[w7 _ _ (Ne.symm aj)];exact aR
    have ae:∀m,(((S1.set l (Cy LO)).set im (.map (eIN m))) l=some (Cy LO))/\((((S1.set l (Cy LO)).set im (.map (eIN m))).set l LO) l=some LO/\(((S1.set l (Cy LO)).set im (.map (eIN m))).set l LO) im=some (.map (eIN m))/\Keep (· = im) ((O.set im (.map (eIN []))).set did .defs) (((S1.set l (Cy LO)).set im (.map (eIN m))).set l LO))/\Keep (· = im) S1 (((S1.set l (Cy LO)).set im (.map (eIN m))).set l LO):=fun m=>by
     have aJ:Keep (· = im) S1 (((S1.set l (Cy LO)).set im (.map (eIN m))).set l LO):=fun j o h1 h2=>by
      by_cases hj:j=l
      ·rw[hj]at h1⊢; rw[w6,<-h1,aS]
      ·rw[w7 _ _ hj,w7 _ _ h2,w7 _ _ hj];exact h1
     exact⟨by rw[w7 _ _ aj,w6],⟨w6 .., by rw[w7 _ _ (Ne.symm aj),w6],bx.trans aJ⟩,aJ⟩
    rw[<-Sig.set_self _ bm]
    by_cases bh:3<=y
    ·obtain⟨q,rfl⟩:∃q:Nat,y=3+(q:Int):=⟨(y-3).toNat,by omega⟩
     have hq:q<p.classes.length:=by omega
     have am:Di p (3+q) m1=Dw (p.classes[q]).inits m1:=by
      unfold Di;rw[if_pos (by omega),show(3+(q:Int)-3).toNat=q by omega,List.getElem?_eq_getElem hq];rfl
     rw[am]
     have bp:=(aL _ (List.getElem_mem hq)).2.2
     generalize aU:(p.classes[q]).inits=ins' at*
     have bl:3+(q:Int)-3=q:=by omega
     try refine gf (gi bl aU) ?_
     refine Cw [1,2,4,5,8,13,15,16,17,45,46,57,58,59,60,61,62,63,64,65,66,67,68,69,70,71,72,73,74,75,76,77,78,79,80] (fun (j:Nat) (m:List (Int×Int))=>j<=ins'.length/\Dw ins' m1=Dw (ins'.drop j) m) (fun j _=>[(47,dI j)]) (fun _ m=>(S1.set l (Cy LO)).set im (.map (eIN m))) (fun j _=>ins'.length-j) (0) (m1) (by simp) (fun j m hI=>?_)
     obtain⟨hj,hJ⟩:=hI
     by_cases bc:j<ins'.length
     ·rw[Ab bc,Dw]at hJ
      try refine gf aU ?_
      exact⟨j+1,_,⟨by omega,hJ⟩,td1,wkR⟩
     ·rw[Af bc,Dw]at hJ
      try refine gf aU ?_
      rw[hJ]
      exact⟨(ae m).1,rfl,(ae m).2⟩
    ·have am:Di p y m1=m1:=by unfold Di;rw[if_neg bh]
     rw[am]
     try refine gz ?_
     exact⟨(ae m1).1,rfl,(ae m1).2⟩
   ·have aj:im≠l:=fun e=>by rw[<-e,w6]at hl;cases hl
    have aI:im≠did:=fun e=>by rw[<-e,w6]at hd;cases hd
    exact⟨w6 .., by rw[w7 _ _ aj,w7 _ _ aI,w6],(Keep.refl _ _).fresh (by rw[w7 _ _ aa];exact hl)⟩
  ·cases ho
   have aj:im≠l:=fun e=>by rw[<-e,w6]at hl;cases hl
   have aI:im≠did:=fun e=>by rw[<-e,w6]at hd;cases hd
   have aQ:(U'.del l) im=some (.map (eIN (Hi p (linF (p.classes.map (·.parents)) c)))):=by simp only[Sig.del,aj,if_false];exact hG.1
   have be:(U'.del l) did=some .defs:=by simp only[Sig.del,Ne.symm aa,if_false];exact hG.2 did _ (w6 ..) (Ne.symm aI)
   have aW:E4 p c=beginL (Hi p (linF (p.classes.map (·.parents)) c)) (hasP p c):=rfl
   have br:∀j o,O j=some o->(U'.del l) j=some o/\j≠did:=fun j o h=>by
    have e1:j≠im:=fun e=>by rw[e,bq]at h;cases h
    have e2:j≠did:=fun e=>by rw[e]at h;rw[w7 _ _ (Ne.symm aI),h]at hd;cases hd
    have e3:j≠l:=fun e=>by rw[e]at h;rw[w7 _ _ (Ne.symm aj),h]at hl;cases hl
    refine⟨?_,e2⟩
    simp only[Sig.del,e3,if_false]
    exact hG.2 j o (by rw[w7 _ _ e2,w7 _ _ e1];exact h) e1
   generalize Hi p (linF (p.classes.map (·.parents)) c)=m at*
   generalize aV:hasP p c=ap at*
   try refine gf aV ?_
   refine HK 13 2 (fun ix aB=>?_)
   have aZ:im≠ix:=fun e=>by rw[<-e,aQ]at aB;cases aB
   have bi:did≠ix:=fun e=>by rw[<-e,be]at aB;cases aB
   refine Cw [4,5,8,59,60,79,80] (fun (k:Nat) (out:List Init)=>k<=ap.length/\out.length<=k/\beginL m ap=out++beginL m (ap.drop k)) (fun k out=>[(61,dI k),(13,.slice (out.map IB) (.tag ix))]) (fun _ out=>(U'.del l).set ix (.tail 2 out.length)) (fun k _=>ap.length-k) (0) ([]) (by simp) (fun k out hI=>?_)
   obtain⟨hk,hlen,hR⟩:=hI
   by_cases aA:k<ap.length
   ·rw[Ab aA,beginL]at hR
    repeat' first|refine gf (gi aQ (gi aZ aV)) ?_|apply gy<;>intro hh
    ·rw[hh,if_pos rfl]at hR
     exact⟨k+1,out++[⟨ap[k],getM 0 ap[k] m⟩],⟨by omega,by simp;omega,by rw[hR];simp⟩,td1,wkR⟩
    ·rw[hh,if_neg (by simp)]at hR
     exact⟨k+1,out,⟨by omega,by omega,hR⟩,td1,wkR⟩
   ·rw[Af aA,beginL,List.append_nil]at hR
    try refine gf (gi aQ (gi aZ aV)) ?_
    refine finMR [did] (U':=O) (d':=.tup [sl ((E4 p c).map IB),dI 0]) ⟨by rw[if_pos rfl,if_pos rfl],rfl⟩ (fun j o h=>?_) (hd:=?_) (hw:=?_)
    ·obtain⟨h1,h2⟩:=br j o h
     simp only[dels,List.foldl_cons,List.foldl_nil,Sig.del,h2,if_false]
     rw[w7 _ _ fun e=>by rw[e,aB]at h1;cases h1]
     exact h1
    ·simp only[List.mem_singleton,forall_eq]
     rw[w7 _ _ bi];exact be
    ·rw[aW,hR]
     exact CA ⟨Bm _ _,A8 _,trivial⟩
@[reducible,instance] def a290:=fun p c O=>ah1 (@QP p c O)
def isLD:DObj->Bool
 |.loop .. |.defs=>true
 |_=>false
theorem Ld{LO:DObj}{ps:Array Tmp}{asg body:Code}{n:Nat}{Sl:Fr}{did:Nat}(h:LO=.loop .ready none ps asg body n Sl did):isLD LO=true/\isLD (Cy LO)=true:=by subst h;exact⟨rfl,rfl⟩
def MonoG{S:Type}(G:Sig->S->Prop):Prop:= ∀O U' s,G O s->(∀j x,O j=some x->isLD x=false->U' j=some x)->G U' s
def P4{S:Type}(G:Sig->S->Prop)(S0:Sig):Prop:= ∀l,S0 l=none->∀S1 S2 s,G S1 s->(∃x,S1 l=some x/\isLD x=true)->(∀j,j≠l->S2 j=S1 j)->G S2 s
def Fresh{S:Type}(G:Sig->S->Prop):Prop:= ∀O s a o,G O s->O a=none->G (O.set a o) s
theorem MonoG.indep{S:Type}{G:Sig->S->Prop}(h:MonoG G)(S0:Sig):P4 G S0:=fun l _ S1 S2 s hG ⟨x,hx,hl⟩ hj=>h _ _ _ hG fun j y hy hd=>by
 rw[hj j fun e=>by rw[e,hx]at hy;cases hy;rw[hl]at hd;cases hd];exact hy
theorem MonoG.fresh{S:Type}{G:Sig->S->Prop}(h:MonoG G):Fresh G:=fun O s a o hG ha=>h _ _ _ hG fun j y hy _=>by
 rw[w7 _ _ fun e=>by rw[e,ha]at hy;cases hy];exact hy
def GoodG{S:Type}(l:Nat)(LO:DObj)(G:Sig->S->Prop)(touch:Nat->Prop)(base:Sig):Sig->S->Prop:=fun U' s=>U' l=some LO/\G U' s/\Keep touch base U'
theorem GoodG.new{S:Type}{l:Nat}{LO:DObj}{G:Sig->S->Prop}{touch:Nat->Prop}{base O:Sig}{s:S}{a:Nat}{o:DObj}(hm:Fresh G)(h:GoodG l LO G touch base O s)(ha:O a=none):GoodG l LO G touch base (O.set a o) s:=by
 have ne:∀j x,O j=some x->j≠a:=fun j x hj e=>by rw[e,ha]at hj;cases hj
 obtain⟨h1,h2,h3⟩:=h
 exact⟨by rw[w7 _ _ (ne _ _ h1)];exact h1,hm _ _ _ _ h2 ha,fun j x hj ht=>by
  have:=h3 j x hj ht
  rw[w7 _ _ (ne _ _ this)];exact this⟩
theorem GoodG.indep{S:Type}{l:Nat}{LO:DObj}{G:Sig->S->Prop}{touch:Nat->Prop}{base S0:Sig}{s0:S}(h0:GoodG l LO G touch base S0 s0)(hi:P4 G S0):P4 (GoodG l LO G touch base) S0:=fun k hk S1 S2 s hG hx hj=>by
 have bn:l≠k:=fun e=>by have:=h0.1;rw[e,hk]at this;cases this
 refine⟨by rw[hj l bn];exact hG.1,hi k hk _ _ _ hG.2.1 hx hj,fun j x hb hn=>?_⟩
 rw[hj j fun e=>by have:=h0.2.2 j x hb hn;rw[e,hk]at this;cases this]
 exact hG.2.2 j x hb hn
theorem rangeG{P:Program}{n:Nat}{Q:DX->St->Prop}{γ:Fr}{O:Sig}{df:List DDf}{gop:Operand}{ps:Array Tmp}{asg body:Code}{f:Nat}{first cap:List D}{S:Type}(u:D)(G:Sig->S->Prop)(touch tp:Nat->Prop)(o:Option S)(s0:S)
  (hm:P4 G O) (bd:Fresh G) (h0:G O s0) (ht:∀j,touch j->O j≠none) (bj:∀j,tp j->O j≠none) (hf:ev γ gop=.func (.func f) first cap)
  (aC : ∀ l did LO SL,LO=DObj.loop .ready none ps asg body n γ did->O did=none->(O.set did .defs) l=none -> ¬ touch l->SL=(O.set did .defs).set l LO->GoodG l LO G touch (O.set did .defs) SL s0->(∀ a,SL a=none -> ¬ touch a) ->
   DCall P f (first++[.yld l]++cap) SL (OutO u (.tup []) (GoodG l LO G touch (O.set did .defs)) (Keep tp (O.set did .defs)) touch SL o))
  (aN:∀did s U',o=some s->O did=none->U' did=some .defs->G U' s->(∀j x,O j=some x->¬touch j->U' j=some x/\j≠did)->Q .normal ⟨γ,U',.coll did::df⟩)
  (aO:∀did U',o=none->O did=none->U' did=some .defs->(∀j x,O j=some x->¬tp j->U' j=some x/\j≠did)->Q (.panic u) ⟨γ,U',.coll did::df⟩) :
  DWp P .none n (.rangeFunc gop ps asg body) Q ⟨γ,O,df⟩:=by
 have dne:∀{did:Nat},O did=none->∀j x,O j=some x->j≠did:=fun hd j x hj e=>by rw[e,hd]at hj;cases hj
 refine Gx (R:=fun l did=>OutO u (.tup []) (GoodG l (DObj.loop .ready none ps asg body n γ did) G touch (O.set did .defs)) (Keep tp (O.set did .defs)) touch ((O.set did .defs).set l (DObj.loop .ready none ps asg body n γ did)) o) hf (fun l did hd hl aa=>?_) (fun l did d U' hd hl aa hr=>?_) (fun l did d U' hd hl aa hr=>?_)
 ·have ak:(O.set did .defs) l=none:=by first|exact hl|(rw[w7 _ _ aa];exact hl)
  have aG:O l=none:=by rw[w7 _ _ aa]at ak;exact ak
  refine aC l did _ _ rfl hd ak (fun h=>ht _ h aG) rfl ⟨w6 .., bd _ _ _ _ (bd _ _ _ _ h0 hd) ak,fun j x hj hn=>?_⟩ fun a ha h=>ht a h ?_
  ·rw[w7 _ _ fun e=>by rw[e,ak]at hj;cases hj];exact hj
  ·by_cases e1:a=l
   ·rw[e1,w6]at ha;cases ha
   ·rw[w7 _ _ e1]at ha
    by_cases e2:a=did
    ·rw[e2,w6]at ha;cases ha
    ·rw[w7 _ _ e2]at ha;exact ha
 ·have ak:(O.set did .defs) l=none:=by first|exact hl|(rw[w7 _ _ aa];exact hl)
  have aG:O l=none:=by rw[w7 _ _ aa]at ak;exact ak
  obtain⟨s,hs,rfl,⟨bb,aK,hK⟩,_⟩:=hr.ret
  have bt:¬touch did:=fun h=>ht _ h hd
  have dl:∀j,j≠l->(U'.del l) j=U' j:=fun j h=>by simp only[Sig.del,h,if_false]
  refine⟨_,_,bb,by simp,aN did s _ hs hd ?_ ?_ fun j x hj hn=>⟨?_,dne hd j x hj⟩⟩
  ·rw[dl _ (Ne.symm aa)];exact hK did _ (w6 ..) bt
  ·exact hm l aG _ _ _ aK ⟨_,bb,rfl⟩ fun j hj=>dl j hj
  ·rw[dl _ (dne aG j x hj)];exact hK j x (by rw[w7 _ _ (dne hd j x hj)];exact hj) hn
 ·obtain⟨hn,rfl,hb⟩:=hr.pan
  exact aO did U' hn hd (hb did _ (w6 ..) fun h=>bj _ h hd) fun j x hj hn=>⟨hb j x (by rw[w7 _ _ (dne hd j x hj)];exact hj) hn,dne hd j x hj⟩
section
variable {S:Type}{l:Nat}{LO:DObj}{G:Sig->S->Prop}{touch:Nat->Prop}{base S1 S2:Sig}{s s':S}{u:D}{step:Option S}{γ:List (Nat×D)}{df:List DDf}{ps:Array Tmp}{asg body:Code}{n:Nat}{Sl:List (Nat×D)}{did:Nat}{Good:Sig->S->Prop}{Bad:Sig->Prop}
theorem endRN(am:step=some s')(ax:LO=.loop .ready none ps asg body n Sl did)(hm:P4 G base)(hG:GoodG l LO G touch base S1 s)(hl:¬touch l)(aD:base l=none)(aY:G S2 s')(hK:Keep touch (S1.set l (Cy LO)) S2):
  NW l LO (OutO u (.bool true) (GoodG l LO G touch base) Bad touch S1 step) .normal ⟨γ,S2,df⟩:=by
 subst am
 have h2:S2 l=some (Cy LO):=hK l _ (w6 ..) hl
 have aH:Keep touch S1 (S2.set l LO):=fun j x hj hn=>by
  by_cases e:j=l
  ·rw[e,hG.1]at hj;rw[e,w6];exact hj
  ·rw[w7 _ _ e];exact hK j x (by rw[w7 _ _ e];exact hj) hn
 exact⟨h2,rfl,⟨w6 .., hm l aD _ _ _ aY ⟨_,h2,(Ld ax).2⟩ fun j hj=>w7 _ _ hj,hG.2.2.trans aH⟩,aH⟩
theorem endRP(am:step=none)(hB:Bad S2):NW l LO (OutO u (.bool true) Good Bad touch S1 step) (.panic u) ⟨γ,S2,[]⟩:=by
 subst am
 exact⟨rfl,rfl,hB⟩
theorem GoodG.bad{tp:Nat->Prop}(hG:GoodG l LO G touch base S1 s)(aD:base l=none)(ht:∀j,touch j->tp j)(hK:Keep tp (S1.set l (Cy LO)) S2):Keep tp base S2:=fun j x hj hn=>
 hK j x (by rw[w7 _ _ fun e=>by rw[e,aD]at hj;cases hj];exact hG.2.2 j x hj fun h=>hn (ht j h)) hn
theorem OutO.bad{r:D}{Good:Sig->S->Prop}{Bad Bad':Sig->Prop}{O U':Sig}{o:Option S}{x:DE}(h:OutO u r Good Bad touch O o x U')(hb:Bad U'->Bad' U'):OutO u r Good Bad' touch O o x U':=by
 cases o with
 |none=>exact⟨h.1,hb h.2⟩
 |some s=>exact h
theorem GoodG.busy(ax:LO=.loop .ready none ps asg body n Sl did)(hm:P4 G base)(aD:base l=none)(hG:GoodG l LO G touch base S1 s):G (S1.set l (Cy LO)) s:=
 hm l aD _ _ _ hG.2.1 ⟨_,hG.1,(Ld ax).1⟩ fun j hj=>w7 _ _ hj
end
theorem finMP{P:Program}{n:Nat}{fn:Func}{R:DE->Sig->Prop}{γ:Fr}{O U':Sig}{d:D}(js:List Nat)(hR:R (.panic d) U')(hU:Sub U' (dels js O))(hn:js.Nodup:=by simp)(hd:∀j∈js,O j=some .defs:=by simp): ∃s',Wk P n ⟨γ,O,js.map .coll⟩ s'/\P5 P n fn (Weak R) (.panic d) s':=
 ⟨_,Wk.refl _ _ _,js,rfl,hn,hd,.panic d,U',A8 _,hU,hR⟩
section
variable {P:Program}{ro:Ro}{n:Nat}{Q:DX->St->Prop}{df:List DDf}{γ:List (Nat×D)}{O:Sig}
theorem loopD4{Sk:Fr}{α β δ ε:Type}{c:Code}(keep:List Nat)(I:α->β->δ->ε->Prop)(ov:α->β->δ->ε->Fr)(sg:α->β->δ->ε->Sig)(dg:α->β->δ->ε->List DDf)(μ:α->β->δ->ε->Nat)(x0:α)(y0:β)(z0:δ)(u0:ε)(h0:I x0 y0 z0 u0)
  (round:∀x y z u,I x y z u->DWp P ro n c (Then (fun s'=> ∃x' y' z' u',I x' y' z' u'/\μ x' y' z' u'<μ x y z u/\Wk P n s' ⟨ov x' y' z' u'++Sk,sg x' y' z' u',dg x' y' z' u'⟩) Q) ⟨ov x y z u++Sk,sg x y z u,dg x y z u⟩) (hk:Dg γ keep=some Sk:=by exact tdR) (h1:TellsR γ (ov x0 y0 z0 u0++Sk):=by(first|refine FT ?_ ?_|skip)<;>(repeat' first|exact FR|refine F6 tdR ?_ ?_|(first|exact A8 _|exact Bm _ _|exact Ao _ (.inl rfl)|exact E8 _|(refine Hx _ ?_;first|omega|(simp;done)|(simp;omega))|(refine Cm ?_;(simp;done))|(refine Cm ?_;(simp[cI,cS,cII,Fi,F1,GE];done))|(refine DK _ ?_;(simp[cI,cS,cII];done))|(refine Cm ?_;(simp_all;done))|assumption))) (h2:Sub (sg x0 y0 z0 u0) O:=by first|exact Sub.refl _|(refine Db ?_;simp;done)|assumption|exact(Sub.refl _).set (by assumption)) (h3:dg x0 y0 z0 u0=df:=by rfl):DWp P ro n (.loop c) Q ⟨γ,O,df⟩:=by
 subst h3
 refine NL (fun x:{x:α×β×δ×ε // I x.1 x.2.1 x.2.2.1 x.2.2.2}=>⟨ov x.1.1 x.1.2.1 x.1.2.2.1 x.1.2.2.2++Sk,sg x.1.1 x.1.2.1 x.1.2.2.1 x.1.2.2.2,dg x.1.1 x.1.2.1 x.1.2.2.1 x.1.2.2.2⟩) (fun x=>μ x.1.1 x.1.2.1 x.1.2.2.1 x.1.2.2.2) ⟨(x0,y0,z0,u0),h0⟩ (JU h1 h2) fun x=>Fg (round x.1.1 x.1.2.1 x.1.2.2.1 x.1.2.2.2 x.2) ?_
 intro e s h
 cases e with
 |normal=>obtain⟨x',y',z',u',h3,h4,h5⟩:=h;exact⟨⟨(x',y',z',u'),h3⟩,h4,h5⟩
 |_=>exact h
end
theorem Kx: ∀(js:List Nat) (O:Sig) (j:Nat),j∉js->dels js O j=O j
 |[],_,_,_=>rfl
 |i::r,O,j,h=>by
  simp only[List.mem_cons,not_or]at h
  simp only[dels,List.foldl_cons]
  rw[show List.foldl Sig.del (O.del i) r=dels r (O.del i) from rfl,Kx r _ j h.2]
  simp only[Sig.del,h.1,if_false]
def RowAt(O:Sig)(sz:Nat):MR->List (List D)->Prop
 |none,es=>es=[]
 |some (i,cap,rest),es=>O i=some (.cells (es.flatten++rest))/\(es.flatten++rest).length=cap*sz/\es.length<=cap /\ ∀e∈es,e.length=sz
def Fm:MR->Nat->Prop
 |none,_=>False
 |some (i,_,_),j=>j=i
theorem RowAt.cells{O:Sig}{sz:Nat}{st:MR}{es:List (List D)}(h:RowAt O sz st es){j:Nat}(hj:Fm st j): ∃cs,O j=some (.cells cs):=by
 cases st with
 |none=>exact hj.elim
 |some x=>cases hj;exact⟨_,h.1⟩
theorem RowAt.keep{O U':Sig}{sz:Nat}{st:MR}{es:List (List D)}(h:RowAt O sz st es)(hk:∀j o,O j=some o->Fm st j->U' j=some o):RowAt U' sz st es:=by
 cases st with
 |none=>exact h
 |some x=>exact⟨hk _ _ h.1 rfl,h.2⟩
theorem RowAt.mS{O:Sig}{sz:Nat}{st:MR}{es:List (List D)}(h:RowAt O sz st es): ∃U',O=mS U' st es/\mOK U' sz st es/\(∀j o,O j=some o->¬Fm st j->U' j=some o) /\ ∀j o,U' j=some o->O j=some o /\ ¬Fm st j:=by
 cases st with
 |none=>exact⟨O,rfl,h,fun j o h _=>h,fun j o h=>⟨h,id⟩⟩
 | some x =>
  obtain⟨i,cap,rest⟩:=x
  obtain⟨h1,h2,h3,h4⟩:=h
  refine⟨O.del i,?_,⟨by simp[Sig.del],h2,h3,h4⟩,fun j o hj hn=>?_,fun j o hj=>?_⟩
  ·funext j
   simp only[DL.mS,Sig.set,Sig.del]
   by_cases e:j=i
   ·subst e;simp[h1]
   ·simp[e]
  ·have:j≠i:=hn
   simp only[Sig.del,this,if_false];exact hj
  ·by_cases e:j=i
   ·simp[Sig.del,e]at hj
   ·simp only[Sig.del,e,if_false]at hj;exact⟨hj,e⟩
theorem Ta{O:Sig}{sz:Nat}{st:MR}{es:List (List D)}(h:mOK O sz st es):RowAt (mS O st es) sz st es:=by
 cases st with
 |none=>exact h
 |some x=>obtain⟨i,cap,rest⟩:=x;exact⟨w6 .., h.2⟩
def RowK(O:Sig)(st:MR)(U':Sig)(st':MR):Prop:= ∀j o,O j=some o->¬Fm st j->U' j=some o /\ ¬Fm st' j
theorem RowK.refl(O:Sig)(st:MR):RowK O st O st:=fun j o h hn=>⟨h,hn⟩
theorem RowK.trans{O S1 S2:Sig}{st st1 st2:MR}(h:RowK O st S1 st1)(k:RowK S1 st1 S2 st2):RowK O st S2 st2:=fun j o hj hn=>k _ _ (h j o hj hn).1 (h j o hj hn).2
theorem rowK_mS{O:Sig}{sz:Nat}{st st':MR}{es es':List (List D)}(h:RowAt O sz st es){S1:Sig}(h1:mOK S1 sz st' es')(hk:∀j o,O j=some o->¬Fm st j->S1 j=some o):RowK O st (mS S1 st' es') st':=fun j o hj hn=>by
 have aT:=hk j o hj hn
 have hr:¬Fm st' j:=by
  cases st' with
  |none=>exact id
  |some x=>
   obtain⟨i,cap,rest⟩:=x
   intro e
   have e:j=i:=e
   rw[e,h1.1]at aT;cases aT
 exact⟨Q2 h1 aT,hr⟩
section
variable {ro:Ro}{n:Nat}{ops:Array Oper}{N:Nat}{S0:Sig}{Q:DX->St->Prop}{df:List DDf}{rest:List Oper}{γ Sr:List (Nat×D)}{O:Sig}{t:Nat}{ty:TypeId}{pos:String}{after:Array Edge}{d:D}
theorem rapp{T T' e e' sz:Nat}{s x:Operand}{es new:List (List D)}{st:MR}(h:∀st' U',RowAt U' sz st' (es++new)->RowK O st U' st'->DOps prog ro n ops Q rest ⟨(t,mD st' (es.length+new.length))::γ,U',df⟩)(hm:RowAt O sz st es:=by assumption)
  (hl:A0 γ (A5 [s,x])=some Sr:=by exact tdR) (hk:(tab T).k=.slice e:=by(simp<;>rfl)) (aq:(tab T').k=.slice e':=by(simp<;>rfl)) (he:A1 (tab e).k=false:=by simp) (hsz:(tab e).size=sz:=by simp)
  (h1:ev Sr s=mD st es.length:=by first|with_unfolding_all rfl|(simp[ev,getD,List.lookup];done)) (h2:esOf (ev Sr x)=some new:=by(simp<;>with_unfolding_all rfl))
  (hlen':∀c∈new,c.length=sz:=by first|exact BY _|exact Dk _|exact Ce _|simp) (ar:∀c∈new,Bw c=true:=by simp[cI,cS,cII,Bw,D.flat])
  (hb:(es.length+new.length)*(tab e).bytes<=140737488355328:=by first|(simp;done)|(simp;omega)) (hm2:es.length+new.length<=9223372036854775807:=by first|(simp;done)|(simp;omega)) (ai:decide (t<n)=true:=by exact tdR) :
  DOps prog ro n ops Q (⟨some t,(cA s x T T'),ty,pos,after,none⟩::rest) ⟨γ,O,df⟩:=by
 obtain⟨e1,e2⟩:=evs hl
 obtain⟨S1,rfl,aR,aH,bE⟩:=hm.mS
 exact LS Ac (by simpa using ai) hk aq he hsz (by rw[<-e1];exact h1) aR (by rw[<-e2];exact h2) hlen' ar hb hm2 (fun st' h'=>by rw[List.length_append];exact h st' _ (Ta h') (rowK_mS hm h' aH))
end
noncomputable def Sig.out(O:Sig)(touch:Nat->Prop):Sig:=open Classical in fun j=>if touch j then none else O j
theorem Cr(O:Sig)(touch:Nat->Prop):Sub (O.out touch) O:=fun j o h=>by
 unfold Sig.out at h;split at h
 ·cases h
 ·exact h
theorem Cs{O:Sig}{touch:Nat->Prop}{j:Nat}{o:DObj}(h:(O.out touch) j=some o):O j=some o /\ ¬touch j:=by
 unfold Sig.out at h;split at h
 ·cases h
 ·exact⟨h,by assumption⟩
theorem Df{O:Sig}{touch:Nat->Prop}{j:Nat}{o:DObj}(h:O j=some o)(ht:¬touch j):(O.out touch) j=some o:=by
 unfold Sig.out;rw[if_neg ht];exact h
section
variable {P:Program}{ro:Ro}{n:Nat}{Q:DX->St->Prop}{γ:List (Nat×D)}{O:Sig}{df:List DDf}
theorem dwp_cut1{x1 b:Code}(ov:Fr)(U':Sig)(h2:DWp P ro n b Q ⟨ov++γ,U',df⟩)(h1:∀b,DWp P ro n b Q ⟨ov++γ,U',df⟩->DWp P ro n (.seq x1 b) Q ⟨γ,O,df⟩):DWp P ro n (.seq x1 b) Q ⟨γ,O,df⟩:=h1 b h2
theorem F5{V':Fr}{U':Sig}(h:TellsS γ [] V')(hU:Sub U' O):Wk P n ⟨γ,O,df⟩ ⟨V',U',df⟩:=(wk_join h hU).2
end
section
variable {ro:Ro}{n:Nat}{ops:Array Oper}{N:Nat}{S0:Sig}{Q:DX->St->Prop}{df:List DDf}{rest:List Oper}{γ Sr:List (Nat×D)}{O:Sig}{t:Nat}{ty:TypeId}{pos:String}{after:Array Edge}{d:D}
def RWK(O:Sig)(r:RW)(U':Sig)(r':RW):Prop:= ∀j o,O j=some o->¬r.is j->U' j=some o /\ ¬r'.is j
theorem RWK.refl(O:Sig)(r:RW):RWK O r O r:=fun _ _ h k=>⟨h,k⟩
theorem RWK.trans{O S1 S2:Sig}{r r1 r2:RW}(h:RWK O r S1 r1)(k:RWK S1 r1 S2 r2):RWK O r S2 r2:=fun j o hj hn=>k j o (h j o hj hn).1 (h j o hj hn).2
theorem xapp{T T' e e' sz:Nat}{s x:Operand}{es new:List (List D)}{r:RW}(h:∀i c cs U',RWAt U' sz (.row i c cs) (es++new)->RWK O r U' (.row i c cs)->DOps prog ro n ops Q rest ⟨(t,.sref i 0 (es.length+new.length) c)::γ,U',df⟩)(hm:RWAt O sz r es:=by assumption)
  (hl:A0 γ (A5 [s,x])=some Sr:=by exact tdR) (hk:(tab T).k=.slice e:=by(simp<;>rfl)) (aq:(tab T').k=.slice e':=by(simp<;>rfl)) (he:A1 (tab e).k=false:=by simp) (hsz:(tab e).size=sz:=by simp)
  (h1:ev Sr s=r.d es.length:=by first|with_unfolding_all rfl|(simp[ev,getD,List.lookup];done)) (h2:esOf (ev Sr x)=some new:=by(simp<;>with_unfolding_all rfl))
  (hne:new≠[]:=by simp) (hlen':∀c∈new,c.length=sz:=by first|exact BY _|exact Dk _|exact Ce _|simp) (ar:∀c∈new,Bw c=true:=by simp[cI,cS,cII,Bw,D.flat])
  (hb:(es.length+new.length)*(tab e).bytes<=140737488355328:=by first|(simp;done)|(simp;omega)) (hm2:es.length+new.length<=9223372036854775807:=by first|(simp;done)|(simp;omega)) (ai:decide (t<n)=true:=by exact tdR) :
  DOps prog ro n ops Q (⟨some t,(cA s x T T'),ty,pos,after,none⟩::rest) ⟨γ,O,df⟩:=by
 obtain⟨e1,e2⟩:=evs hl
 exact E1 Ac (by simpa using ai) hk aq he hsz (by rw[<-e1];exact h1) hm (by rw[<-e2];exact Hb h2 hlen') hlen' ar hb hm2 fun r' U' h1 h2 h3=>by
  rcases h3 with⟨h3,_⟩|⟨i,c,cs,rfl⟩
  ·exact absurd h3 hne
  ·exact h i c cs U' h1 h2
theorem xappR{T T' e e' sz:Nat}{s x:Operand}{es new:List (List D)}{r:RW}(h:∀r' U',RWAt U' sz r' (es++new)->RWK O r U' r'->DOps prog ro n ops Q rest ⟨(t,r'.d (es.length+new.length))::γ,U',df⟩)(hm:RWAt O sz r es)(h2:J1 prog O sz (ev Sr x) new)(ar:∀c∈new,Bw c=true)
  (hlen':∀c∈new,c.length=sz)
  (hl:A0 γ (A5 [s,x])=some Sr:=by exact tdR) (hk:(tab T).k=.slice e:=by(simp<;>rfl)) (aq:(tab T').k=.slice e':=by(simp<;>rfl)) (he:A1 (tab e).k=false:=by simp) (hsz:(tab e).size=sz:=by simp)
  (h1:ev Sr s=r.d es.length:=by first|with_unfolding_all rfl|(simp[ev,getD,List.lookup];done))
  (hb:(es.length+new.length)*(tab e).bytes<=140737488355328:=by first|(simp;done)|(simp;omega)) (hm2:es.length+new.length<=9223372036854775807:=by first|(simp;done)|(simp;omega)) (ai:decide (t<n)=true:=by exact tdR) :
  DOps prog ro n ops Q (⟨some t,(cA s x T T'),ty,pos,after,none⟩::rest) ⟨γ,O,df⟩:=by
 obtain⟨e1,e2⟩:=evs hl
 exact E1 Ac (by simpa using ai) hk aq he hsz (by rw[<-e1];exact h1) hm (by rw[<-e2];exact h2) hlen' ar hb hm2 fun r' U' h1 h2 _=>h r' U' h1 h2
theorem G7{T T' e e' sz:Nat}{s x:Operand}{es new:List (List D)}{r:RW}{l:List (Bool×Oper)}(h:∀i c cs U',RWAt U' sz (.row i c cs) (es++new)->RWK O r U' (.row i c cs)->MO prog ro n ops N S0 Q df l ((t,.sref i 0 (es.length+new.length) c)::γ) U')(hC:∀j o,S0 j=some o->O j=some o /\ ¬r.is j)(hm:RWAt O sz r es:=by assumption)
  (hl:A0 γ (A5 [s,x])=some Sr:=by exact tdR) (hk:(tab T).k=.slice e:=by(simp<;>rfl)) (aq:(tab T').k=.slice e':=by(simp<;>rfl)) (he:A1 (tab e).k=false:=by simp) (hsz:(tab e).size=sz:=by simp)
  (h1:ev Sr s=r.d es.length:=by first|with_unfolding_all rfl|(simp[ev,getD,List.lookup];done)) (h2:esOf (ev Sr x)=some new:=by(simp<;>with_unfolding_all rfl))
  (hne:new≠[]:=by simp) (hlen':∀c∈new,c.length=sz:=by first|exact BY _|exact Dk _|exact Ce _|simp) (ar:∀c∈new,Bw c=true:=by simp[cI,cS,cII,Bw,D.flat])
  (hb:(es.length+new.length)*(tab e).bytes<=140737488355328:=by first|(simp;done)|(simp;omega)) (hm2:es.length+new.length<=9223372036854775807:=by first|(simp;done)|(simp;omega)) (ai:decide (t<n)=true:=by exact tdR) :
  MO prog ro n ops N S0 Q df ((true,⟨some t,(cA s x T T'),ty,pos,after,none⟩)::l) γ O:=
 mo1 (fun U2 hx=>by
  obtain⟨e1,e2⟩:=H6 hl hx
  refine E1 Ac (by simpa using ai) hk aq he hsz (by rw[e1];exact h1) hm (by rw[e2];exact Hb h2 hlen') hlen' ar hb hm2 (fun r' U' h' hK h3=>?_)
  rcases h3 with⟨h3,_⟩|⟨i,c,cs,rfl⟩
  ·exact absurd h3 hne
  refine Au ⟨rfl,?_⟩
  simp only[A3,if_true]
  exact⟨fun j o hj=>(hK j o (hC j o hj).1 (hC j o hj).2).1,h i c cs U' h' hK⟩) ai
end
structure Rows(O:Sig)(R:Nat->RW)(sz:Nat->Nat)(ct:Nat->List (List D)):Prop where
 ok:∀a,RWAt O (sz a) (R a) (ct a)
 dj:∀a b j,(R a).is j->(R b).is j->a=b
def updF{α:Type}(f:Nat->α)(k:Nat)(x:α):Nat->α:=fun j=>if j=k then x else f j
@[simp] theorem Ak{α:Type}(f:Nat->α)(k:Nat)(x:α):updF f k x k=x:=by unfold updF;rw[if_pos rfl]
theorem A7{α:Type}(f:Nat->α){k j:Nat}(x:α)(h:j≠k):updF f k x j=f j:=by unfold updF;rw[if_neg h]
section
variable {O U':Sig}{R:Nat->RW}{sz:Nat->Nat}{ct:Nat->List (List D)}
theorem Rows.upd(h:Rows O R sz ct){a:Nat}{r':RW}{es':List (List D)}(hr:RWAt U' (sz a) r' es')(hk:RWK O (R a) U' r'):Rows U' (updF R a r') sz (updF ct a es'):=by
 have hne:∀b,b≠a->∀j,(R b).is j->∃o,O j=some o /\ ¬(R a).is j:=fun b hb j hj=>by
  obtain⟨cs,hc⟩:=(h.ok b).cells hj
  exact⟨_,hc,fun ha=>hb (h.dj b a j hj ha)⟩
 refine⟨fun b=>?_,fun b c j hb hc=>?_⟩
 ·by_cases e:b=a
  ·subst e;rw[Ak,Ak];exact hr
  ·rw[A7 _ _ e,A7 _ _ e]
   exact(h.ok b).keep fun j o hj hb=>by
    obtain⟨o',bC,hn⟩:=hne b e j hb
    exact(hk j o hj hn).1
 ·by_cases e:b=a
  ·subst e
   by_cases e2:c=b
   ·exact e2.symm
   ·rw[Ak]at hb
    rw[A7 _ _ e2]at hc
    obtain⟨o,ho,hn⟩:=hne c e2 j hc
    exact absurd hb (hk j o ho hn).2
  ·rw[A7 _ _ e]at hb
   by_cases e2:c=a
   ·subst e2
    rw[Ak]at hc
    obtain⟨o,ho,hn⟩:=hne b e j hb
    exact absurd hc (hk j o ho hn).2
   ·rw[A7 _ _ e2]at hc
    exact h.dj b c j hb hc
theorem Rows.keep(h:Rows O R sz ct)(hk:∀j o,O j=some o->(∃a,(R a).is j)->U' j=some o):Rows U' R sz ct:=
 ⟨fun a=>(h.ok a).keep fun j o hj ha=>hk j o hj ⟨a,ha⟩,h.dj⟩
theorem Rows.retell{ct':Nat->List (List D)}(h:Rows O R sz ct)(he:∀a,ct' a=ct a):Rows O R sz ct':=by
 obtain rfl:ct'=ct:=funext he
 exact h
theorem Rows.re(h:Rows O R sz ct){a:Nat}{r':RW}{es':List (List D)}(hr:RWAt O (sz a) r' es')(hi:∀j,r'.is j->(R a).is j):Rows O (updF R a r') sz (updF ct a es'):=by
 refine⟨fun b=>?_,fun b c j hb hc=>?_⟩
 ·by_cases e:b=a
  ·subst e;rw[Ak,Ak];exact hr
  ·rw[A7 _ _ e,A7 _ _ e];exact h.ok b
 ·have bw:(R b).is j:=by
   by_cases e:b=a
   ·subst e;rw[Ak]at hb;exact hi j hb
   ·rwa [A7 _ _ e]at hb
  have bu:(R c).is j:=by
   by_cases e:c=a
   ·subst e;rw[Ak]at hc;exact hi j hc
   ·rwa [A7 _ _ e]at hc
  exact h.dj b c j bw bu
end
def toC(p:BProg)(x:CIns)(l:CLev):CLev:=
 ⟨l.st-(Ap p x).1+(Ap p x).2,if x.op=14 then l.env+1 else if x.op=15 then l.env-1 else l.env⟩
structure InsOK(p:BProg)(N k:Nat)(x:CIns)(l:CLev)(m:Met)(env:Int)(next:Bool):Prop where
 take:(Ap p x).1<=l.st
 name:x.op=3->x.a<l.env
 drop:x.op=15->env<l.env
 nexts:x.op=20->next=true
 fin:x.op=21->l.st=1/\l.env=env
 on:x.op≠21->x.op≠18->k+1<N/\m (k+1)=some (toC p x l)
 jump:x.op=17\/x.op=18->0<=x.a/\x.a<N/\m x.a.toNat=some (toC p x l)
theorem DT{N:Nat}{met m:Met}{n:Int}{l:CLev}(h:BI N met n l=some m):0<=n/\n<N/\m n.toNat=some l /\ ∀j x,met j=some x->m j=some x:=by
 unfold BI at h
 split at h
 ·cases h
 ·rename_i e
  cases h
  refine⟨by omega,by omega,by unfold updM;rw[if_pos rfl],fun j x hx=>?_⟩
  unfold updM
  by_cases ej:j=n.toNat
  ·rw[if_pos ej]
   subst ej
   rw[hx]at e
   by_cases el:x=l
   ·rw[el]
   ·exact absurd (.inr (.inr ⟨by simp,by simpa using el⟩)) e
  ·rw[if_neg ej];exact hx
theorem InsOK.mono{p:BProg}{N k:Nat}{x:CIns}{l:CLev}{m m':Met}{env:Int}{next:Bool}(h:InsOK p N k x l m env next)(hm:∀j x,m j=some x->m' j=some x):InsOK p N k x l m' env next:=
 ⟨h.take,h.name,h.drop,h.nexts,h.fin,fun a b=>⟨(h.on a b).1,hm _ _ (h.on a b).2⟩,fun a=>⟨(h.jump a).1,(h.jump a).2.1,hm _ _ (h.jump a).2.2⟩⟩
section
variable {p:BProg}{c:CProg}{env:Int}{next:Bool}
theorem Pj {q:Nat} {x:CIns} {l:CLev} {met m:Met} (h:Ed p c env next q x l met=some m):InsOK p c.ins.length q x l m env next /\ ∀ j x,met j=some x->m j=some x:=by
 unfold Ed at h
 split at h
 ·cases h
 ·rename_i e0
  have t:(Ap p x).1<=l.st:=by omega
  have nm:x.op=3->x.a<l.env:=fun h3=>by omega
  have dr:x.op=15->env<l.env:=fun h3=>by omega
  have nx:x.op=20->next=true:=fun bz=>by
   cases next with
   |true=>rfl
   |false=>exact absurd (.inr (.inr (.inr ⟨bz,rfl⟩))) e0
  split at h
  ·rename_i au
   split at h
   ·rename_i e
    cases h
    exact⟨⟨t,nm,dr,nx,fun _=>e,fun a=>absurd au a,fun a=>by omega⟩,fun _ _ h=>h⟩
   ·cases h
  ·rename_i au
   split at h
   ·rename_i ah
    obtain⟨r1,r2,r3,r4⟩:=DT h
    rw[show((q:Int)+1).toNat=q+1 by omega]at r3
    exact⟨⟨t,nm,dr,nx,fun a=>absurd a au,fun _ _=>⟨by omega,by unfold toC;rw[if_pos ah];exact r3⟩,fun a=>by omega⟩,r4⟩
   ·rename_i ah
    split at h
    ·rename_i ag
     obtain⟨r1,r2,r3,r4⟩:=DT h
     rw[show((q:Int)+1).toNat=q+1 by omega]at r3
     exact⟨⟨t,nm,dr,nx,fun a=>absurd a au,fun _ _=>⟨by omega,by unfold toC;rw[if_neg ah,if_pos ag];exact r3⟩,fun a=>by omega⟩,r4⟩
    ·rename_i ag
     have eto:toC p x l=⟨l.st-(Ap p x).1+(Ap p x).2,l.env⟩:=by unfold toC;rw[if_neg ah,if_neg ag]
     split at h
     ·rename_i bf
      obtain⟨r1,r2,r3,r4⟩:=DT h
      exact⟨⟨t,nm,dr,nx,fun a=>absurd a au,fun _ a=>absurd bf a,fun _=>⟨r1,r2,by rw[eto];exact r3⟩⟩,r4⟩
     ·rename_i bf
      split at h
      ·split at h
       ·cases h
       ·rename_i m1 e1
        obtain⟨s1,s2,s3,s4⟩:=DT e1
        obtain⟨r1,r2,r3,r4⟩:=DT h
        rw[show((q:Int)+1).toNat=q+1 by omega]at r3
        exact⟨⟨t,nm,dr,nx,fun a=>absurd a au,fun _ _=>⟨by omega,by rw[eto];exact r3⟩,fun _=>⟨s1,s2,by rw[eto];exact r4 _ _ s3⟩⟩,fun j x hx=>r4 j x (s4 j x hx)⟩
      ·rename_i bH
       obtain⟨r1,r2,r3,r4⟩:=DT h
       rw[show((q:Int)+1).toNat=q+1 by omega]at r3
       exact⟨⟨t,nm,dr,nx,fun a=>absurd a au,fun _ _=>⟨by omega,by rw[eto];exact r3⟩,fun a=>absurd a (by omega)⟩,r4⟩
theorem step_to {q:Nat} {x:CIns} {l:CLev} {met m:Met} (h:Ed p c env next q x l met=some m) (j:Nat):m j=met j\/m j=some (toC p x l):=by
 unfold Ed at h
 split at h
 ·cases h
 ·split at h
  ·split at h
   ·cases h;exact .inl rfl
   ·cases h
  ·split at h
   ·rename_i ah
    refine(reach_at h j).imp id fun e=>?_
    unfold toC;rw[if_pos ah];exact e.2
   ·rename_i ah
    split at h
    ·rename_i ag
     refine(reach_at h j).imp id fun e=>?_
     unfold toC;rw[if_neg ah,if_pos ag];exact e.2
    ·rename_i ag
     have eto:toC p x l=⟨l.st-(Ap p x).1+(Ap p x).2,l.env⟩:=by unfold toC;rw[if_neg ah,if_neg ag]
     rw[eto]
     split at h
     ·exact(reach_at h j).imp id fun e=>e.2
     ·split at h
      ·split at h
       ·cases h
       ·rename_i e0
        rcases reach_at h j with e|e
        ·exact(reach_at e0 j).imp e.trans fun e2=>e.trans e2.2
        ·exact .inr e.2
      ·exact(reach_at h j).imp id fun e=>e.2
theorem HR: ∀(f q:Nat) (met m:Met),Dl p c env next f q met=some m->∀j x,met j=some x->m j=some x
 |0,_,_,_,h,_,_,hx=>by cases h;exact hx
 | f+1,q,met,m,h,j,x,hx=>by
  rw[Dl]at h
  split at h
  ·exact HR f _ _ _ h j x hx
  ·split at h
   ·cases h
   ·rename_i e
    exact HR f _ _ _ h j x ((Pj e).2 j x hx)
theorem Pe(p:BProg)(x:CIns):0<=(Ap p x).2:=by
 unfold Ap
 split;simp
 split;simp
 split;simp
 split;simp
 split;simp
 split;simp
 simp
theorem Mm (hf : ∀ q:Nat,(AC c q).op=17\/(AC c q).op=18->(q:Int) < (AC c q).a) : ∀ (f q:Nat) (met m:Met),Dl p c env next f q met=some m->(∀ j l,met j=some l->q<=j/\j < q+f/\0<=l.st/\env<=l.env\/InsOK p c.ins.length j (AC c j) l met env next/\0<=l.st/\env<=l.env) ->
  q+f=c.ins.length->∀j l,m j=some l->InsOK p c.ins.length j (AC c j) l m env next/\0<=l.st/\env<=l.env
 |0,q,met,m,h,hI,_,j,l,hl=>by
  cases h
  rcases hI j l hl with h|h
  ·omega
  ·exact h
 | f+1,q,met,m,h,hI,hN,j,l,hl=>by
  rw[Dl]at h
  split at h
  ·rename_i hq
   refine Mm hf f _ _ _ h (fun i l' hi=>?_) (by omega) j l hl
   rcases hI i l' hi with h'|h'
   ·by_cases e:i=q
    ·subst e;rw[hq]at hi;cases hi
    ·exact .inl (by omega)
   ·exact .inr h'
  ·rename_i l0 hq
   split at h
   ·cases h
   ·rename_i m0 e
    obtain⟨o1,o2⟩:=Pj e
    have h0:0<=l0.st/\env<=l0.env:=by
     rcases hI q l0 hq with h'|h'
     ·exact⟨h'.2.2.1,h'.2.2.2⟩
     ·exact h'.2
    refine Mm hf f _ _ _ h (fun i l' hi=>?_) (by omega) j l hl
    by_cases eq:i=q
    ·subst eq
     have:=o2 i l0 hq
     rw[this]at hi;cases hi
     exact .inr ⟨o1,h0⟩
    ·rcases K5 e (hf q) i with e2|⟨e2,_⟩
     ·rw[e2]at hi
      rcases hI i l' hi with h'|h'
      ·exact .inl (by omega)
      ·exact .inr ⟨h'.1.mono o2,h'.2⟩
     ·have bF:i<c.ins.length:=Classical.byContradiction fun hn=>by
       have hd:=N7 e (fun j hj=>by
        cases hm:met j with
        |none=>rfl
        | some y =>
         rcases hI j y hm with h'|h'
         ·omega
         ·exfalso
          have:c.ins[j]? = none:=List.getElem?_eq_none (by omega)
          have hz:AC c j=⟨0,0⟩:=by unfold AC;rw[this];rfl
          rw[hz]at h'
          have:=(h'.1.on (by simp) (by simp)).1
          omega) i (by omega)
       rw[hd]at hi;cases hi
      have g:m0 i=met i\/l'=toC p (AC c q) l0:=(step_to e i).imp id fun e3=>by rw[hi]at e3;exact Option.some.inj e3
      rcases g with g|g
      ·rw[g]at hi
       rcases hI i l' hi with h'|h'
       ·exact .inl (by omega)
       ·exact .inr ⟨h'.1.mono o2,h'.2⟩
      ·refine .inl ⟨by omega,by omega,?_,?_⟩
       ·rw[g];unfold toC;simp only
        have:(Ap p (AC c q)).1<=l0.st:=o1.take
        have:=Pe p (AC c q)
        omega
       ·rw[g];unfold toC;simp only
        split
        ·omega
        ·split
         ·rename_i _ ag
          have:=o1.drop ag
          omega
         ·omega
end
theorem Qn{p:BProg}{c:CProg}(h:F4 p c.ins.length c.ins 0=true)(q:Nat)(aw:(AC c q).op=17\/(AC c q).op=18):(q:Int)<(AC c q).a:=by
 have ha:AC c q=((c.ins[q]?).getD ⟨0,0⟩):=rfl
 rw[ha]at aw⊢
 cases hc:c.ins[q]? with
 |none=>rw[hc]at aw;simp at aw
 |some y=>
  rw[hc]at aw
  simp only[Option.getD_some]at aw⊢
  have:=(Fl _ _).1 h q y hc
  unfold fitsC at this
  rw[if_neg (by omega),if_neg (by omega),if_neg (by omega),if_neg (by omega),if_pos aw]at this
  simp only[decide_eq_true_eq]at this
  omega
theorem way_ok{p:BProg}{c:CProg}(hf:∀q:Nat,(AC c q).op=17\/(AC c q).op=18->(q:Int)<(AC c q).a){s:CSt}{w:Met}(h:wayM p c s=some w):
  0<=s.pos/\s.pos<c.ins.length/\w s.pos.toNat=some ⟨0,s.env⟩ /\ ∀j l,w j=some l->InsOK p c.ins.length j (AC c j) l w s.env s.next/\0<=l.st/\s.env<=l.env:=by
 unfold wayM at h
 split at h
 ·cases h
 ·refine⟨by omega,by omega,HR _ _ _ _ h _ _ (by unfold updM;rw[if_pos rfl]),?_⟩
  refine Mm hf _ _ _ _ h (fun j l hl=>?_) (by omega)
  unfold updM at hl
  split at hl
  ·cases hl;exact .inl ⟨by omega,by omega,by simp,by simp⟩
  ·cases hl
structure LevOK(p:BProg)(c:CProg)(m:Met)(nx:Bool):Prop where
 dom:∀(k:Nat) (l:CLev),m k=some l->k<c.ins.length
 ok:∀(k:Nat) (l:CLev),m k=some l->∃(env:Int) (next:Bool),InsOK p c.ins.length k (AC c k) l m env next/\0<=l.st/\env<=l.env/\0<=env/\(next=true->nx=true)
 fits:∀(k:Nat) (x:CIns),c.ins[k]? = some x->fitsC p c.ins.length k x=true
theorem Q9{p:BProg}{c:CProg}{l:List CSt}{lv:List CLev}(h:Gb p c l=some lv): ∃W,Fo p c l (fun _=>none)=some W/\lv.length=c.ins.length /\ ∀k x,lv[k]? = some x ↔ W k=some x:=by
 unfold Gb at h
 cases hL:Fo p c l (fun _=>none)with
 |none=>rw[hL]at h;cases h
 | some W =>
  rw[hL]at h
  simp only at h
  split at h
  ·rename_i aX
   cases h
   refine⟨W,rfl,by rw[List.length_map,List.length_range],fun k x=>?_⟩
   by_cases hk:k<c.ins.length
   ·have:=List.all_eq_true.1 aX k (List.mem_range.2 hk)
    obtain⟨y,hy⟩:=Option.isSome_iff_exists.1 this
    rw[List.getElem?_map,List.getElem?_range hk,hy]
    simp[hy]
   ·rw[List.getElem?_eq_none (by rw[List.length_map,List.length_range];omega)]
    constructor
    ·intro e;cases e
    ·intro e
     rcases((Fc _ _ _).1 hL).2.2 k x e with h|⟨s,_,w,hw,aE⟩
     ·cases h
     ·rw[Me hw k (by omega)]at aE;cases aE
  ·cases h
theorem Q6{p:BProg}{c:CProg}{lv:List CLev}(h:Ei p c=some lv):okP p=true/\lv.length=c.ins.length/\LevOK p c (fun j=>lv[j]?) true:=by
 unfold Ei at h
 split at h
 ·rename_i hc
  simp only[Bool.and_eq_true,decide_eq_true_eq]at hc
  obtain⟨aF,h1,h2,h3⟩:=hc
  have hf:=Qn h3
  obtain⟨W,hW,hl,hx⟩:=Q9 h
  have hI:=(Fc _ _ _).1 hW
  refine⟨aF,hl,fun k l hk=>by rw[<-hl];exact(List.getElem?_eq_some_iff.1 hk).1,fun k l hk=>?_,fun k x hk=>by have:=(Fl _ _).1 h3 k x hk;rwa [Nat.zero_add]at this⟩
  rcases hI.2.2 k l ((hx k l).1 hk)with h|⟨s,hs,w,hw,aE⟩
  ·cases h
  ·obtain⟨w1,a8,aM⟩:=hI.2.1 s hs
   rw[hw]at a8;cases a8
   obtain⟨i1,i2,i3⟩:=(way_ok hf hw).2.2.2 k l aE
   refine⟨s.env,s.next,i1.mono fun j x hj=>(hx j x).2 (aM j x hj),i2,i3,?_,fun _=>rfl⟩
   unfold stsP at hs
   rcases List.mem_append.1 hs with hs|hs
   ·rw[<-List.map_uncurry_zip_eq_zipWith]at hs
    obtain⟨⟨m,n⟩,_,rfl⟩:=List.mem_map.1 hs
    exact(GX aF m.gen.toNat).1
   ·rw[List.mem_singleton]at hs;rw[hs];exact Int.le_refl 0
 ·cases h
structure MVal where
 kind:Int
 n:Int
 deriving DecidableEq
structure MThing where
 cls:Int
 slots:List MVal
 deriving DecidableEq
structure MEv where
 deed:Int
 n:Int
 vals:List MVal
 deriving DecidableEq
structure GoS where
 objs:List MThing
 evs:List MEv
 pos:Int
 stk:List MVal
 env:List MVal
structure GoH where
 kind:Int
 val:MVal
 gen:Int
 args:List MVal
 fin:Int
 pos:Int
 stk:List MVal
 env:List MVal
 objs:List MThing
 evs:List MEv
structure CWorld where
 own:Int->Bool
 slots:Int->List Int
 fresh:Int->List MVal
def Eb:MVal:=⟨2,0⟩
def vInt(n:Int):MVal:=⟨1,n⟩
def vObj(n:Int):MVal:=⟨3,n⟩
def vZ:MVal:=⟨0,0⟩
def AI(v:MVal):Int:=if v.kind=1 then v.n else 0
def Dr(b:Bool):Int:=if b then 1 else 0
def DB(n:Int):Int:=min (max n (-1000000000)) 1000000000
def GC(op:Int)(v w:MVal):MVal:=
 if op=9 then vInt (DB (AI v+AI w)) else if op=10 then vInt (DB (AI v-AI w)) else if op=11 then vInt (DB (AI v*AI w)) else
 if op=12 then vInt (Dr (decide (AI v<AI w))) else vInt (Dr (decide (v=w)))
def okV(objs:Int)(v:MVal):Bool:=if v.kind=1 then decide (-1000000000<=v.n/\v.n<=1000000000) else if v.kind=2 then decide (v.n=0) else if v.kind=3 then decide (0<=v.n/\v.n<objs) else false
def okVs(objs:Int)(l:List MVal):Bool:=l.all (okV objs)
def Ba(w:CWorld)(l:List MThing):Bool:=decide (l.length<=40)&&l.all fun o=>w.own o.cls&&(decide (o.slots.length=(w.slots o.cls).length)&&okVs l.length o.slots)
def CN(l:List MThing)(n:Int):MThing:=(l[n.toNat]?).getD ⟨0,[]⟩
def Bd(w:CWorld)(objs:List MThing)(v:MVal)(s:Int):Int:=if v.kind=3 then idxG s (w.slots (CN objs v.n).cls) 0 else -1
def Cj(w:CWorld)(x:MThing)(c:Int):MThing:=
 ⟨c,List.zipWith (fun s v=>if 0<=idxG s (w.slots x.cls) 0 then(x.slots[(idxG s (w.slots x.cls) 0).toNat]?).getD vZ else v) (w.slots c) (w.fresh c)⟩
def Dn(l:List MVal):MVal:=(l.getLast?).getD vZ
def setObj(l:List MThing)(n:Int)(x:MThing):List MThing:=l.set n.toNat x
def FK(s:GoS)(e:Int)(stk:List MVal):GoH:=⟨4,vZ,0,[],e,0,[],[],s.objs,s.evs⟩
def I9(p:BProg)(w:CWorld)(x:CIns)(s:GoS):GoS ⊕ GoH:=
 let v:=Dn s.stk
 let r:=s.stk.dropLast
 if x.op=1 then .inl { s with stk:=s.stk++[vInt x.a] }
 else if x.op=2 then .inl { s with stk:=s.stk++[Eb] }
 else if x.op=3 then .inl { s with stk:=s.stk++[(s.env[x.a.toNat]?).getD vZ] }
 else if x.op=4 then(if 40<=s.objs.length then .inr (FK s 8 r) else .inl { s with objs:=s.objs++[⟨x.a,w.fresh x.a⟩],stk:=s.stk++[vObj s.objs.length] })
 else if x.op=5 then(if Bd w s.objs v x.a<0 then .inr (FK s 5 r) else .inl { s with stk:=r++[((CN s.objs v.n).slots[(Bd w s.objs v x.a).toNat]?).getD vZ] })
 else if x.op=6 then(if v.kind=3 then .inl { s with objs:=setObj s.objs v.n (Cj w (CN s.objs v.n) x.a),stk:=r++[v] } else .inr (FK s 6 r))
 else if x.op=7 then .inl { s with evs:=s.evs++[⟨2,0,[v]⟩],stk:=r++[v] }
 else if x.op=8 then(if Bd w s.objs (Dn r) x.a<0 then .inr (FK s 5 r) else
  .inl { s with objs:=setObj s.objs (Dn r).n ⟨(CN s.objs (Dn r).n).cls,(CN s.objs (Dn r).n).slots.set (Bd w s.objs (Dn r) x.a).toNat v⟩,stk:=r.dropLast++[v] })
 else if x.op=14 then .inl { s with env:=s.env++[v],stk:=r }
 else if x.op=15 then .inl { s with env:=s.env.dropLast }
 else if x.op=16 then .inl { s with stk:=r }
 else if x.op=17 then .inl { s with stk:=r,pos:=if AI v=0 then x.a else s.pos }
 else if x.op=18 then .inl { s with pos:=x.a }
 else if x.op=19 then .inr ⟨2,vZ,x.a,s.stk.drop (s.stk.length-(p.gens.getD x.a.toNat 0).toNat),0,s.pos,s.stk.take (s.stk.length-(p.gens.getD x.a.toNat 0).toNat),s.env,s.objs,s.evs⟩
 else if x.op=20 then .inr ⟨3,vZ,0,[],0,s.pos,s.stk,s.env,s.objs,s.evs⟩
 else if x.op=21 then .inr ⟨1,v,0,[],0,0,[],[],s.objs,s.evs⟩
 else .inl { s with stk:=r.dropLast++[GC x.op (Dn r) v] }
def mRun(p:BProg)(w:CWorld)(c:CProg):Nat->GoS->GoH
 |0,s=>FK s 0 []
 |f+1,s=>match I9 p w (AC c s.pos.toNat) { s with pos:=s.pos+1 } with
  |.inl t=>mRun p w c f t
  |.inr h=>h
end Go.DL
