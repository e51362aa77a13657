/- A part of the proof. -/
import Derived.Test.YteldimffglchkaaGreatDoorQ16
set_option linter.all false
namespace Go.DL
open Go.Proofs.Tryz
open Go Go.Proofs
set_option maxHeartbeats 8000000
def QI{S:Type}(l:eP)(lb:Nat)(u:D)(Good:Sig->S->Prop)(Bad:Sig->Prop)(touch:Nat->Prop)(step:Int->S->S)(hl:l.length<=1073741824)
  (hy:∀(k:Nat) (hk:k<l.length) O s,Good O s->kn prog lb [dI k,dI l[k]] O (OutO u (.bool true) Good Bad touch O (some (step l[k] s)))) (O:Sig) (s:S) (hG:Good O s) :
  ar prog 366 [.yld lb,.ak [sl (cI l)] 0] O (OutO u (.tup []) Good Bad touch O (some (l.foldr step s))):=by
 refine en func366 ntmps366 ?_
 try refine gz ?_
 refine F1 [0,1] (fun (k:Nat) (s1:S) (S1:Sig)=>k<=l.length/\Good S1 s1/\l.foldr step s=(l.take k).foldr step s1/\(∀j o,O j=some o->¬touch j->S1 j=some o)) (fun k _ _=>[(3,dI ((k:Int)-1))]) (fun _ _ S1=>S1) (fun k _ _=>k) (l.length) (s) (O) (by exact⟨j0,hG,j1,fun _ _ h _=>h⟩) (fun k s1 S1 hI=>?_);obtain⟨hk,fq,hR,hK⟩:=hI;cases k with
 |zero=>
  try refine gz ?_
  refine F3 (U':=S1) ?_;exact⟨rfl,by rw[hR];exact fq,hK⟩
 |succ k=>
  have d9:k<l.length:=by omega
  have e:((k+1:Nat):Int)-1=k:=by omega
  rw[aU d9,List.foldr_append]at hR
  try refine gf e ?_
  refine yldW (hy k d9 S1 s1 fq) (fun d U' hr=>?_) (fun d U' hr=>by obtain⟨h,_⟩:=hr.pan;cases h);obtain⟨s2,gg,rfl,fP,fp⟩:=hr.ret;cases gg
  try refine gf e ?_
  exact⟨k,_,U',⟨j0,fP,hR,fun j o h1 h2=>fp j o (hK j o h1 h2) h2⟩,td1,wkR⟩
def Tq(l:eP)(O:Sig):ar prog 336 [sl (cI l)] O (rS (.func (.func 366) [] [.ak [sl (cI l)] 0]) O):=by
 refine en func336 ntmps336 ?_
 try refine gz ?_
 exact fe1 trivial
@[reducible,instance] def a336:=fun l O=>ah0 (@Tq l O)
def BE:List jv->List (Int×Int)->List (Int×Int)
 |[],m=>m
 |x::r,m=>BE r (jS x.slot x.n m)
def Df(p:aw)(c:Int)(m:List (Int×Int)):List (Int×Int):=if 3<=c then BE (((p.aa[(c-3).toNat]?).map (·.ah)).getD []) m else m
def DK(p:aw)(order:eP):List (Int×Int):=order.foldr (Df p) []
def beginL(m:List (Int×Int)):eP->List jv
 |[]=>[]
 |s::r=>if hasM s m then⟨s,getM 0 s m⟩::beginL m r else beginL m r
def D9(p:aw)(c:Int):List jv:=beginL (DK p (kY (p.aa.map (·.ae)) c)) (hasP p c)
def HA{p:aw}: ∀{cs:List ax}{i:Nat},AS p i cs=true->∀k,k<cs.length->linE (p.aa.map (·.ae)) (((i+k:Nat):Int)+3)=0
 |c::r,i,h,0,_=>by rw[AS]at h;simp only[aF,aH]at h;exact h.1.1
 |c::r,i,h,k+1,hk=>by
  rw[AS]at h;simp only[aF,aH]at h;have:=HA h.2 k (by simpa using hk);rw[show i+(k+1)=i+1+k by omega];exact this
def okP_lin{p:aw}(h:okP p=true){c:Int}(h1:3<=c)(h2:c<3+p.aa.length):linE (p.aa.map (·.ae)) c=0/\Bk (p.aa.map (·.ae))=true:=by
 have h:=BT h;unfold Am at h;simp only[aF,aH]at h;obtain⟨_,h⟩:=h;split at h
 ·cases h
 ·simp only[aF,aH]at h;have:=HA h.2 (c-3).toNat j0;rw[show(((0+(c-3).toNat:Nat):Int)+3)=c by omega]at this;exact⟨this,h.1.2⟩
def finMR{P:Program}{n:Nat}{fn:Func}{R:DE->Sig->Prop}{γ:Fr}{O U':Sig}{d d':D}(js:eQ)(hR:R (.ret d') U')(hZ:Sub U' (dels js O))(hn:js.Nodup:=by simp)(hd:∀j∈js,O j=some .defs:=by simp)(h:resD fn γ=some d:=by exact tdR)(hw:WkD d d'): ∃s',Wk P n ⟨γ,O,js.map .coll⟩ s'/\Rm P n fn (Weak R) .ret s':=
 ⟨_,Wk.refl _ _ _,js,rfl,hn,hd,d,E3 h,.ret d',U',hw,hZ,hR⟩
def TB(p:aw)(c:Int)(O:Sig)(hp:p.wt<=1073741824:=by exact sd):ar prog 290 [.agg (A7 p),dI c] O (rS (.tup [sl ((if jT p c&&okP p then D9 p c else []).map FB),dI (if jT p c&&okP p then 0 else 2)]) O):=by
 obtain⟨p1,p2,p3,p4,p5,p6,p7⟩:=p.wt_le
 have fu:∀c∈p.aa,c.ae.length<=1073741824/\c.ac.length<=1073741824/\c.ah.length<=1073741824:=fun c hc=>by
  obtain⟨k,hk,rfl⟩:=bT hc;have:=p5 k hk;unfold ax.wt at this;omega
 have gB:∀c∈p.aa,c.ae.length<=1073741824:=fun c hc=>(fu c hc).1;have gC:∀x∈p.aa.map (·.ae),x.length<=1073741824:=fun x hx=>by obtain⟨c,hc,rfl⟩:=aZ.1 hx;exact(fu c hc).1
 refine FA func290 rfl (by decide) ntmps290 j1 ?_;cases hk:jT p c&&okP p
 ·try refine gf hk ?_
  refine finMR [] (U':=O) ⟨rfl,rfl⟩ (Sub.refl _) (hw:=?_);exact Ff ⟨Ak _ (.inl rfl),Ac _,trivial⟩
 ·have ho:3<=c/\c<3+p.aa.length:=by simp only[jT,aF,aH]at hk;exact hk.1
  have fU:okP p=true:=by simp only[aF]at hk;exact hk.2
  obtain⟨h1,h2⟩:=ho;obtain⟨fe,b9⟩:=okP_lin fU h1 h2
  have fW:kY (p.aa.map (·.ae)) c=lineF (p.aa.map (·.ae)) c:=by
   unfold kY;rw[aG ⟨b9,j0,by rw[aN];omega⟩]
  have fC:∀y∈kY (p.aa.map (·.ae)) c,0<=y/\y<3+p.aa.length:=fun y hy=>by
   rw[fW]at hy;obtain⟨x,hx,hy⟩:=Es hy;have:=Er b9 _ x hx y hy;rw[aN]at this;omega
  have gF:(kY (p.aa.map (·.ae)) c).length<=80000000:=by rw[fW];exact CQ b9 (bU _) j0
  have gH:=Ce p c;have ws:=Db p
  try refine gf (gi hk fe) ?_
  refine newIN (fun im gq=>?_)
  try refine gf (gi hk fe) ?_
  refine Lk (u:=unf) (fun did U' m=>U' im=some (.map (eIN m))/\jd (· = im) ((O.set im (.map (eIN []))).set did .defs) U') (fun did U'=>False) (· = im) (some (DK p (kY (p.aa.map (·.ae)) c))) rfl (fun l did hd hl b8 LO fa=>?_) (fun l did m U' ho hd hl b8 hG=>?_) (fun did U' ho hd hb=>hb.elim)
  ·refine QI (kY (p.aa.map (·.ae)) c) l unf _ _ _ (Df p) j0 (fun k hk S1 m1 hG=>?_) _ [] ?_
   ·obtain⟨fG,fE,gA⟩:=hG;refine Ox fa fG ?_;clear fa
    try refine gz ?_
    refine⟨fG,?_⟩;have hy:=fC _ (aK hk);generalize (kY (p.aa.map (·.ae)) c)[k]=y at*;have d7:l≠im:=fun e=>by rw[e,w6]at hl;cases hl
    have gm:(S1.set l (Dj LO)) im=some (.map (eIN m1)):=by rw[w7 _ _ (cg d7)];exact fE
    have c9:∀m,(((S1.set l (Dj LO)).set im (.map (eIN m))) l=some (Dj LO))/\((((S1.set l (Dj LO)).set im (.map (eIN m))).set l LO) l=some LO/\(((S1.set l (Dj LO)).set im (.map (eIN m))).set l LO) im=some (.map (eIN m))/\jd (· = im) ((O.set im (.map (eIN []))).set did .defs) (((S1.set l (Dj LO)).set im (.map (eIN m))).set l LO))/\jd (· = im) S1 (((S1.set l (Dj LO)).set im (.map (eIN m))).set l LO):=fun m=>by
     have fp:jd (· = im) S1 (((S1.set l (Dj LO)).set im (.map (eIN m))).set l LO):=fun j o h1 h2=>by
      by_cases hj:j=l
      ·rw[hj]at h1⊢; rw[w6,<-h1,fG]
      ·rw[w7 _ _ hj,w7 _ _ h2,w7 _ _ hj];exact h1
     exact⟨by rw[w7 _ _ d7,w6],⟨w6 .., by rw[w7 _ _ (cg d7),w6],gA.trans fp⟩,fp⟩
    rw[<-Sig.set_self _ gm]
    by_cases f7:3<=y
    ·obtain⟨q,rfl⟩:∃q:Nat,y=3+(q:Int):=⟨(y-3).toNat,j0⟩;have hq:q<p.aa.length:=by omega
     have eV:Df p (3+q) m1=BE (p.aa[q]).ah m1:=by
      unfold Df;rw[aG j0,show(3+(q:Int)-3).toNat=q by omega,aD hq];rfl
     rw[eV];have go:=(fu _ (aK hq)).2.2;generalize fK:(p.aa[q]).ah=ins' at*;have gh:3+(q:Int)-3=q:=by omega
     try refine gf (gi gh fK) ?_
     refine BO ([1,2,4,5,8,13,15,16,17,45,46]++List.range' 57 24) (fun (j:Nat) (m:List (Int×Int))=>j<=ins'.length/\BE ins' m1=BE (ins'.drop j) m) (fun j _=>[(47,dI j)]) (fun _ m=>(S1.set l (Dj LO)).set im (.map (eIN m))) (fun j _=>ins'.length-j) (0) (m1) j1 (fun j m hI=>?_);obtain⟨hj,hJ⟩:=hI
     by_cases fY:j<ins'.length
     ·rw[A6 fY,BE]at hJ
      try refine gf fK ?_
      exact⟨j+1,_,⟨j0,hJ⟩,td1,wkR⟩
     ·rw[A9 fY,BE]at hJ
      try refine gf fK ?_
      rw[hJ];exact⟨(c9 m).1,rfl,(c9 m).2⟩
    ·have eV:Df p y m1=m1:=by unfold Df;rw[aE f7]
     rw[eV]
     try refine gz ?_
     exact⟨(c9 m1).1,rfl,(c9 m1).2⟩
   ·have d7:im≠l:=fun e=>by rw[<-e,w6]at hl;cases hl
    have fo:im≠did:=fun e=>by rw[<-e,w6]at hd;cases hd
    exact⟨w6 .., by rw[w7 _ _ d7,w7 _ _ fo,w6],(jd.refl _ _).fresh (j2 b8 hl)⟩
  ·cases ho;have d7:im≠l:=fun e=>by rw[<-e,w6]at hl;cases hl
   have fo:im≠did:=fun e=>by rw[<-e,w6]at hd;cases hd
   have fD:(U'.del l) im=some (.map (eIN (DK p (kY (p.aa.map (·.ae)) c)))):=by simp only[Sig.del,d7,bc];exact hG.1
   have f0:(U'.del l) did=some .defs:=by simp only[Sig.del,cg b8,bc];exact hG.2 did _ (w6 ..) (cg fo)
   have fM:D9 p c=beginL (DK p (kY (p.aa.map (·.ae)) c)) (hasP p c):=rfl
   have gu:∀j o,O j=some o->(U'.del l) j=some o/\j≠did:=fun j o h=>by
    have e1:j≠im:=fun e=>by rw[e,gq]at h;cases h
    have e2:j≠did:=fun e=>by rw[e]at h;rw[w7 _ _ (cg fo),h]at hd;cases hd
    have e3:j≠l:=fun e=>by rw[e]at h;rw[w7 _ _ (cg d7),h]at hl;cases hl
    refine⟨?_,e2⟩;simp only[Sig.del,e3,bc];exact hG.2 j o (j2 e2 (j2 e1 h)) e1
   generalize DK p (kY (p.aa.map (·.ae)) c)=m at*;generalize fL:hasP p c=eW at*
   try refine gf fL ?_
   refine ED 13 2 (fun ix ff=>?_);have fQ:im≠ix:=fun e=>by rw[<-e,fD]at ff;cases ff
   have f8:did≠ix:=fun e=>by rw[<-e,f0]at ff;cases ff
   refine BO [4,5,8,59,60,79,80] (fun (k:Nat) (out:List jv)=>k<=eW.length/\out.length<=k/\beginL m eW=out++beginL m (eW.drop k)) (fun k out=>[(61,dI k),(13,.slice (out.map FB) (.tag ix))]) (fun _ out=>(U'.del l).set ix (.tail 2 out.length)) (fun k _=>eW.length-k) (0) ([]) j1 (fun k out hI=>?_);obtain⟨hk,hlen,hR⟩:=hI
   by_cases d9:k<eW.length
   ·rw[A6 d9,beginL]at hR
    repeat' first|refine gf (gi fD (gi fQ fL)) ?_|apply gy<;>intro hh
    ·rw[hh,aG rfl]at hR;exact⟨k+1,out++[⟨eW[k],getM 0 eW[k] m⟩],⟨j0,by simp;omega,by rw[hR];simp⟩,td1,wkR⟩
    ·rw[hh,aE j1]at hR;exact⟨k+1,out,⟨j0,j0,hR⟩,td1,wkR⟩
   ·rw[A9 d9,beginL,bl]at hR
    try refine gf (gi fD (gi fQ fL)) ?_
    refine finMR [did] (U':=O) (d':=.tup [sl ((D9 p c).map FB),dI 0]) ⟨by rw[aG rfl,aG rfl],rfl⟩ (fun j o h=>?_) (hd:=?_) (hw:=?_)
    ·obtain⟨h1,h2⟩:=gu j o h;simp only[dels,eb,List.foldl_nil,Sig.del,h2,bc];rw[w7 _ _ fun e=>by rw[e,ff]at h1;cases h1];exact h1
    ·simp only[bC,forall_eq];rw[w7 _ _ f8];exact f0
    ·rw[fM,hR];exact Ff ⟨Cc _ _,Ac _,trivial⟩
@[reducible,instance] def a290:=fun p c O=>ah1 (@TB p c O)
def isLD:jP->Bool
 |.loop .. |.defs=>true
 |_=>false
def MW{LO:jP}{ps:Array Tmp}{asg body:Code}{n:Nat}{Sl:Fr}{did:Nat}(h:LO=.loop .ready none ps asg body n Sl did):isLD LO=true/\isLD (Dj LO)=true:=by subst h;exact⟨rfl,rfl⟩
def MonoG{S:Type}(G:Sig->S->Prop):Prop:= ∀O U' s,G O s->(∀j x,O j=some x->isLD x=false->U' j=some x)->G U' s
def Rl{S:Type}(G:Sig->S->Prop)(S0:Sig):Prop:= ∀l,S0 l=none->∀S1 S2 s,G S1 s->(∃x,S1 l=some x/\isLD x=true)->(∀j,j≠l->S2 j=S1 j)->G S2 s
def Fresh{S:Type}(G:Sig->S->Prop):Prop:= ∀O s a o,G O s->O a=none->G (O.set a o) s
def MonoG.indep{S:Type}{G:Sig->S->Prop}(h:MonoG G)(S0:Sig):Rl G S0:=fun l _ S1 S2 s hG ⟨x,hx,hl⟩ hj=>h _ _ _ hG fun j y hy hd=>by
 rw[hj j fun e=>by rw[e,hx]at hy;cases hy;rw[hl]at hd;cases hd];exact hy
def MonoG.fresh{S:Type}{G:Sig->S->Prop}(h:MonoG G):Fresh G:=fun O s a o hG ha=>h _ _ _ hG fun j y hy _=>by
 rw[w7 _ _ fun e=>by rw[e,ha]at hy;cases hy];exact hy
def kp{S:Type}(l:Nat)(LO:jP)(G:Sig->S->Prop)(touch:Nat->Prop)(base:Sig):Sig->S->Prop:=fun U' s=>U' l=some LO/\G U' s/\jd touch base U'
def kp.new{S:Type}{l:Nat}{LO:jP}{G:Sig->S->Prop}{touch:Nat->Prop}{base O:Sig}{s:S}{a:Nat}{o:jP}(hm:Fresh G)(h:kp l LO G touch base O s)(ha:O a=none):kp l LO G touch base (O.set a o) s:=by
 have ne:∀j x,O j=some x->j≠a:=fun j x hj e=>by rw[e,ha]at hj;cases hj
 obtain⟨h1,h2,h3⟩:=h
 exact⟨j2 (ne _ _ h1) h1,hm _ _ _ _ h2 ha,fun j x hj ht=>by
  have:=h3 j x hj ht
  rw[w7 _ _ (ne _ _ this)];exact this⟩
def kp.indep{S:Type}{l:Nat}{LO:jP}{G:Sig->S->Prop}{touch:Nat->Prop}{base S0:Sig}{s0:S}(h0:kp l LO G touch base S0 s0)(hi:Rl G S0):Rl (kp l LO G touch base) S0:=fun k hk S1 S2 s hG hx hj=>by
 have gn:l≠k:=fun e=>by have:=h0.1;rw[e,hk]at this;cases this
 refine⟨by rw[hj l gn];exact hG.1,hi k hk _ _ _ hG.2.1 hx hj,fun j x hb hn=>?_⟩;rw[hj j fun e=>by have:=h0.2.2 j x hb hn;rw[e,hk]at this;cases this];exact hG.2.2 j x hb hn
def rangeG{P:Program}{n:Nat}{Q:DX->St->Prop}{γ:Fr}{O:Sig}{df:List DDf}{gop:Operand}{ps:Array Tmp}{asg body:Code}{f:Nat}{first cap:eO}{S:Type}(u:D)(G:Sig->S->Prop)(touch tp:Nat->Prop)(o:Option S)(s0:S)
  (hm:Rl G O) (fZ:Fresh G) (h0:G O s0) (ht:∀j,touch j->O j≠none) (gb:∀j,tp j->O j≠none) (hf:ev γ gop=.func (.func f) first cap)
  (fi : ∀ l did LO SL,LO=jP.loop .ready none ps asg body n γ did->O did=none->(O.set did .defs) l=none -> ¬ touch l->SL=(O.set did .defs).set l LO->kp l LO G touch (O.set did .defs) SL s0->(∀ a,SL a=none -> ¬ touch a) ->
   ar P f (first++[.yld l]++cap) SL (OutO u (.tup []) (kp l LO G touch (O.set did .defs)) (jd tp (O.set did .defs)) touch SL o))
  (fw:∀did s U',o=some s->O did=none->U' did=some .defs->G U' s->(∀j x,O j=some x->¬touch j->U' j=some x/\j≠did)->Q .normal ⟨γ,U',.coll did::df⟩)
  (fA:∀did U',o=none->O did=none->U' did=some .defs->(∀j x,O j=some x->¬tp j->U' j=some x/\j≠did)->Q (.panic u) ⟨γ,U',.coll did::df⟩) :
  DWp P .none n (.rangeFunc gop ps asg body) Q ⟨γ,O,df⟩:=by
 have dne:∀{did:Nat},O did=none->∀j x,O j=some x->j≠did:=fun hd j x hj e=>by rw[e,hd]at hj;cases hj
 refine HR (R:=fun l did=>OutO u (.tup []) (kp l (jP.loop .ready none ps asg body n γ did) G touch (O.set did .defs)) (jd tp (O.set did .defs)) touch ((O.set did .defs).set l (jP.loop .ready none ps asg body n γ did)) o) hf (fun l did hd hl b8=>?_) (fun l did d U' hd hl b8 hr=>?_) (fun l did d U' hd hl b8 hr=>?_)
 ·have d8:(O.set did .defs) l=none:=by first|exact hl|(rw[w7 _ _ b8];exact hl)
  have fk:O l=none:=by rw[w7 _ _ b8]at d8;exact d8
  refine fi l did _ _ rfl hd d8 (fun h=>ht _ h fk) rfl ⟨w6 .., fZ _ _ _ _ (fZ _ _ _ _ h0 hd) d8,fun j x hj hn=>?_⟩ fun a ha h=>ht a h ?_
  ·rw[w7 _ _ fun e=>by rw[e,d8]at hj;cases hj];exact hj
  ·by_cases e1:a=l
   ·rw[e1,w6]at ha;cases ha
   ·rw[w7 _ _ e1]at ha
    by_cases e2:a=did
    ·rw[e2,w6]at ha;cases ha
    ·rw[w7 _ _ e2]at ha;exact ha
 ·have d8:(O.set did .defs) l=none:=by first|exact hl|(rw[w7 _ _ b8];exact hl)
  have fk:O l=none:=by rw[w7 _ _ b8]at d8;exact d8
  obtain⟨s,hs,rfl,⟨fX,fq,hK⟩,_⟩:=hr.ret;have gv:¬touch did:=fun h=>ht _ h hd;have dl:∀j,j≠l->(U'.del l) j=U' j:=fun j h=>by simp only[Sig.del,h,bc]
  refine⟨_,_,fX,j1,fw did s _ hs hd ?_ ?_ fun j x hj hn=>⟨?_,dne hd j x hj⟩⟩
  ·rw[dl _ (cg b8)];exact hK did _ (w6 ..) gv
  ·exact hm l fk _ _ _ fq ⟨_,fX,rfl⟩ fun j hj=>dl j hj
  ·rw[dl _ (dne fk j x hj)];exact hK j x (j2 (dne hd j x hj) hj) hn
 ·obtain⟨hn,rfl,hb⟩:=hr.pan;exact fA did U' hn hd (hb did _ (w6 ..) fun h=>gb _ h hd) fun j x hj hn=>⟨hb j x (j2 (dne hd j x hj) hj) hn,dne hd j x hj⟩
section
variable {S:Type}{l:Nat}{LO:jP}{G:Sig->S->Prop}{touch:Nat->Prop}{base S1 S2:Sig}{s s':S}{u:D}{step:Option S}{γ:List (Nat×D)}{df:List DDf}{ps:Array Tmp}{asg body:Code}{n:Nat}{Sl:List (Nat×D)}{did:Nat}{Good:Sig->S->Prop}{Bad:Sig->Prop}
theorem endRN(eV:step=some s')(fa:LO=.loop .ready none ps asg body n Sl did)(hm:Rl G base)(hG:kp l LO G touch base S1 s)(hl:¬touch l)(d5:base l=none)(fP:G S2 s')(hK:jd touch (S1.set l (Dj LO)) S2):
  Q2 l LO (OutO u (.bool true) (kp l LO G touch base) Bad touch S1 step) .normal ⟨γ,S2,df⟩:=by
 subst eV;have h2:S2 l=some (Dj LO):=hK l _ (w6 ..) hl
 have fm:jd touch S1 (S2.set l LO):=fun j x hj hn=>by
  by_cases e:j=l
  ·rw[e,hG.1]at hj;rw[e,w6];exact hj
  ·rw[w7 _ _ e];exact hK j x (j2 e hj) hn
 exact⟨h2,rfl,⟨w6 .., hm l d5 _ _ _ fP ⟨_,h2,(MW fa).2⟩ fun j hj=>w7 _ _ hj,hG.2.2.trans fm⟩,fm⟩
theorem endRP(eV:step=none)(hB:Bad S2):Q2 l LO (OutO u (.bool true) Good Bad touch S1 step) (.panic u) ⟨γ,S2,[]⟩:=by
 subst eV;exact⟨rfl,rfl,hB⟩
theorem kp.bad{tp:Nat->Prop}(hG:kp l LO G touch base S1 s)(d5:base l=none)(ht:∀j,touch j->tp j)(hK:jd tp (S1.set l (Dj LO)) S2):jd tp base S2:=fun j x hj hn=>
 hK j x (by rw[w7 _ _ fun e=>by rw[e,d5]at hj;cases hj];exact hG.2.2 j x hj fun h=>hn (ht j h)) hn
theorem OutO.bad{r:D}{Good:Sig->S->Prop}{Bad Bad':Sig->Prop}{O U':Sig}{o:Option S}{x:DE}(h:OutO u r Good Bad touch O o x U')(hb:Bad U'->Bad' U'):OutO u r Good Bad' touch O o x U':=by
 cases o with
 |none=>exact⟨h.1,hb h.2⟩
 |some s=>exact h
theorem kp.busy(fa:LO=.loop .ready none ps asg body n Sl did)(hm:Rl G base)(d5:base l=none)(hG:kp l LO G touch base S1 s):G (S1.set l (Dj LO)) s:=
 hm l d5 _ _ _ hG.2.1 ⟨_,hG.1,(MW fa).1⟩ fun j hj=>w7 _ _ hj
end
def finMP{P:Program}{n:Nat}{fn:Func}{R:DE->Sig->Prop}{γ:Fr}{O U':Sig}{d:D}(js:eQ)(hR:R (.panic d) U')(hZ:Sub U' (dels js O))(hn:js.Nodup:=by simp)(hd:∀j∈js,O j=some .defs:=by simp): ∃s',Wk P n ⟨γ,O,js.map .coll⟩ s'/\Rm P n fn (Weak R) (.panic d) s':=
 ⟨_,Wk.refl _ _ _,js,rfl,hn,hd,.panic d,U',Ac _,hZ,hR⟩
section
variable {P:Program}{ro:Ro}{n:Nat}{Q:DX->St->Prop}{df:List DDf}{γ:List (Nat×D)}{O:Sig}
theorem loopD4{Sk:Fr}{α β δ ε:Type}{c:Code}(keep:eQ)(I:α->β->δ->ε->Prop)(ov:α->β->δ->ε->Fr)(sg:α->β->δ->ε->Sig)(dg:α->β->δ->ε->List DDf)(μ:α->β->δ->ε->Nat)(x0:α)(y0:β)(z0:δ)(u0:ε)(h0:I x0 y0 z0 u0)
  (round:∀x y z u,I x y z u->DWp P ro n c (ka (fun s'=> ∃x' y' z' u',I x' y' z' u'/\μ x' y' z' u'<μ x y z u/\Wk P n s' ⟨ov x' y' z' u'++Sk,sg x' y' z' u',dg x' y' z' u'⟩) Q) ⟨ov x y z u++Sk,sg x y z u,dg x y z u⟩) (hk:DV γ keep=some Sk:=by exact tdR) (h1:jr γ (ov x0 y0 z0 u0++Sk):=by(first|refine FQ ?_ ?_|skip)<;>(repeat' first|exact FP|refine EO tdR ?_ ?_|(first|exact Ac _|exact Cc _ _|exact Ak _ (.inl rfl)|exact EK _|(refine HY _ ?_;first|omega|(simp;done)|(simp;omega))|(refine Cb ?_;(simp;done))|(refine Cb ?_;(simp[cI,cS,cII,EJ,Fa,GD];done))|(refine DC _ ?_;(simp[cI,cS,cII];done))|(refine Cb ?_;(simp_all;done))|assumption))) (h2:Sub (sg x0 y0 z0 u0) O:=by first|exact Sub.refl _|(refine C1 ?_;simp;done)|assumption|exact(Sub.refl _).set (by assumption)) (h3:dg x0 y0 z0 u0=df:=by rfl):DWp P ro n (.loop c) Q ⟨γ,O,df⟩:=by
 subst h3;refine PI (fun x:{x:α×β×δ×ε // I x.1 x.2.1 x.2.2.1 x.2.2.2}=>⟨ov x.1.1 x.1.2.1 x.1.2.2.1 x.1.2.2.2++Sk,sg x.1.1 x.1.2.1 x.1.2.2.1 x.1.2.2.2,dg x.1.1 x.1.2.1 x.1.2.2.1 x.1.2.2.2⟩) (fun x=>μ x.1.1 x.1.2.1 x.1.2.2.1 x.1.2.2.2) ⟨(x0,y0,z0,u0),h0⟩ (LE h1 h2) fun x=>EH (round x.1.1 x.1.2.1 x.1.2.2.1 x.1.2.2.2 x.2) ?_;intro e s h;cases e with
 |normal=>obtain⟨x',y',z',u',h3,h4,h5⟩:=h;exact⟨⟨(x',y',z',u'),h3⟩,h4,h5⟩
 |_=>exact h
end
def M9: ∀(js:eQ) (O:Sig) (j:Nat),j∉js->dels js O j=O j
 |[],_,_,_=>rfl
 |i::r,O,j,h=>by
  simp only[aY,eh]at h;simp only[dels,eb];rw[show List.foldl Sig.del (O.del i) r=dels r (O.del i) from rfl,M9 r _ j h.2];simp only[Sig.del,h.1,bc]
def ku(O:Sig)(sz:Nat):MR->eR->Prop
 |none,es=>es=[]
 |some (i,cap,rest),es=>O i=some (.cells (es.flatten++rest))/\(es.flatten++rest).length=cap*sz/\es.length<=cap /\ ∀e∈es,e.length=sz
def GH:MR->Nat->Prop
 |none,_=>False
 |some (i,_,_),j=>j=i
def ku.cells{O:Sig}{sz:Nat}{st:MR}{es:eR}(h:ku O sz st es){j:Nat}(hj:GH st j): ∃cs,O j=some (.cells cs):=by
 cases st with
 |none=>exact hj.elim
 |some x=>cases hj;exact⟨_,h.1⟩
def ku.keep{O U':Sig}{sz:Nat}{st:MR}{es:eR}(h:ku O sz st es)(hk:∀j o,O j=some o->GH st j->U' j=some o):ku U' sz st es:=by
 cases st with
 |none=>exact h
 |some x=>exact⟨hk _ _ h.1 rfl,h.2⟩
def ku.mS{O:Sig}{sz:Nat}{st:MR}{es:eR}(h:ku O sz st es): ∃U',O=mS U' st es/\mOK U' sz st es/\(∀j o,O j=some o->¬GH st j->U' j=some o) /\ ∀j o,U' j=some o->O j=some o /\ ¬GH st j:=by
 cases st with
 |none=>exact⟨O,rfl,h,fun j o h _=>h,fun j o h=>⟨h,id⟩⟩
 | some x =>
  obtain⟨i,cap,rest⟩:=x;obtain⟨h1,h2,h3,h4⟩:=h;refine⟨O.del i,?_,⟨by simp[Sig.del],h2,h3,h4⟩,fun j o hj hn=>?_,fun j o hj=>?_⟩
  ·funext j
   simp only[DL.mS,Sig.set,Sig.del]
   by_cases e:j=i
   ·subst e;simp[h1]
   ·simp[e]
  ·have:j≠i:=hn;simp only[Sig.del,this,bc];exact hj
  ·by_cases e:j=i
   ·simp[Sig.del,e]at hj
   ·simp only[Sig.del,e,bc]at hj;exact⟨hj,e⟩
def W4{O:Sig}{sz:Nat}{st:MR}{es:eR}(h:mOK O sz st es):ku (mS O st es) sz st es:=by
 cases st with
 |none=>exact h
 |some x=>obtain⟨i,cap,rest⟩:=x;exact⟨w6 .., h.2⟩
def RowK(O:Sig)(st:MR)(U':Sig)(st':MR):Prop:= ∀j o,O j=some o->¬GH st j->U' j=some o /\ ¬GH st' j
def RowK.refl(O:Sig)(st:MR):RowK O st O st:=fun j o h hn=>⟨h,hn⟩
def RowK.trans{O S1 S2:Sig}{st st1 st2:MR}(h:RowK O st S1 st1)(k:RowK S1 st1 S2 st2):RowK O st S2 st2:=fun j o hj hn=>k _ _ (h j o hj hn).1 (h j o hj hn).2
def rowK_mS{O:Sig}{sz:Nat}{st st':MR}{es es':eR}(h:ku O sz st es){S1:Sig}(h1:mOK S1 sz st' es')(hk:∀j o,O j=some o->¬GH st j->S1 j=some o):RowK O st (mS S1 st' es') st':=fun j o hj hn=>by
 have fJ:=hk j o hj hn
 have hr:¬GH st' j:=by
  cases st' with
  |none=>exact id
  |some x=>
   obtain⟨i,cap,rest⟩:=x;intro e;have e:j=i:=e;rw[e,h1.1]at fJ;cases fJ
 exact⟨SE h1 fJ,hr⟩
section
variable {ro:Ro}{n:Nat}{ops:Array Oper}{N:Nat}{S0:Sig}{Q:DX->St->Prop}{df:List DDf}{rest:List Oper}{γ Sr:List (Nat×D)}{O:Sig}{t:Nat}{ty:TypeId}{pos:String}{after:Array Edge}{d:D}
theorem rapp{T T' e e' sz:Nat}{s x:Operand}{es new:eR}{st:MR}(h:∀st' U',ku U' sz st' (es++new)->RowK O st U' st'->au prog ro n ops Q rest ⟨(t,mD st' (es.length+new.length))::γ,U',df⟩)(hm:ku O sz st es:=by assumption)
  (hl:A5 γ (Aa [s,x])=some Sr:=by exact tdR) (hk:(tab T).k=.slice e:=by(simp<;>rfl)) (eX:(tab T').k=.slice e':=by(simp<;>rfl)) (he:A2 (tab e).k=false:=by simp) (hsz:(tab e).size=sz:=by simp)
  (h1:ev Sr s=mD st es.length:=by first|with_unfolding_all rfl|(simp[ev,getD,List.lookup];done)) (h2:k8 (ev Sr x)=some new:=by(simp<;>with_unfolding_all rfl))
  (hlen':∀c∈new,c.length=sz:=by first|exact Ck _|exact E0 _|exact BX _|simp) (eZ:∀c∈new,C6 c=true:=by simp[cI,cS,cII,C6,D.flat])
  (hb:(es.length+new.length)*(tab e).bytes<=140737488355328:=by first|(simp;done)|(simp;omega)) (hm2:es.length+new.length<=9223372036854775807:=by first|(simp;done)|(simp;omega)) (d6:decide (t<n)=true:=by exact tdR) :
  au prog ro n ops Q (⟨some t,(cA s x T T'),ty,pos,after,none⟩::rest) ⟨γ,O,df⟩:=by
 obtain⟨e1,e2⟩:=jW hl;obtain⟨S1,rfl,fE,fm,gG⟩:=hm.mS;exact NH jB (by simpa using d6) hk eX he hsz (by rw[<-e1];exact h1) fE (by rw[<-e2];exact h2) hlen' eZ hb hm2 (fun st' h'=>by rw[aC];exact h st' _ (W4 h') (rowK_mS hm h' fm))
end
noncomputable def Sig.out(O:Sig)(touch:Nat->Prop):Sig:=open Classical in fun j=>if touch j then none else O j
def CC(O:Sig)(touch:Nat->Prop):Sub (O.out touch) O:=fun j o h=>by
 unfold Sig.out at h;split at h
 ·cases h
 ·exact h
def C2{O:Sig}{touch:Nat->Prop}{j:Nat}{o:jP}(h:(O.out touch) j=some o):O j=some o /\ ¬touch j:=by
 unfold Sig.out at h;split at h
 ·cases h
 ·exact⟨h,by assumption⟩
def Dk{O:Sig}{touch:Nat->Prop}{j:Nat}{o:jP}(h:O j=some o)(ht:¬touch j):(O.out touch) j=some o:=by
 unfold Sig.out;rw[aE ht];exact h
section
variable {P:Program}{ro:Ro}{n:Nat}{Q:DX->St->Prop}{γ:List (Nat×D)}{O:Sig}{df:List DDf}
theorem dwp_cut1{x1 b:Code}(ov:Fr)(U':Sig)(h2:DWp P ro n b Q ⟨ov++γ,U',df⟩)(h1:∀b,DWp P ro n b Q ⟨ov++γ,U',df⟩->DWp P ro n (.seq x1 b) Q ⟨γ,O,df⟩):DWp P ro n (.seq x1 b) Q ⟨γ,O,df⟩:=h1 b h2
theorem OM{V':Fr}{U':Sig}(h:TellsS γ [] V')(hZ:Sub U' O):Wk P n ⟨γ,O,df⟩ ⟨V',U',df⟩:=(FM h hZ).2
end
section
variable {ro:Ro}{n:Nat}{ops:Array Oper}{N:Nat}{S0:Sig}{Q:DX->St->Prop}{df:List DDf}{rest:List Oper}{γ Sr:List (Nat×D)}{O:Sig}{t:Nat}{ty:TypeId}{pos:String}{after:Array Edge}{d:D}
def RWK(O:Sig)(r:RW)(U':Sig)(r':RW):Prop:= ∀j o,O j=some o->¬r.is j->U' j=some o /\ ¬r'.is j
theorem RWK.refl(O:Sig)(r:RW):RWK O r O r:=fun _ _ h k=>⟨h,k⟩
theorem RWK.trans{O S1 S2:Sig}{r r1 r2:RW}(h:RWK O r S1 r1)(k:RWK S1 r1 S2 r2):RWK O r S2 r2:=fun j o hj hn=>k j o (h j o hj hn).1 (h j o hj hn).2
theorem xapp{T T' e e' sz:Nat}{s x:Operand}{es new:eR}{r:RW}(h:∀i c cs U',jN U' sz (.row i c cs) (es++new)->RWK O r U' (.row i c cs)->au prog ro n ops Q rest ⟨(t,.am i 0 (es.length+new.length) c)::γ,U',df⟩)(hm:jN O sz r es:=by assumption)
  (hl:A5 γ (Aa [s,x])=some Sr:=by exact tdR) (hk:(tab T).k=.slice e:=by(simp<;>rfl)) (eX:(tab T').k=.slice e':=by(simp<;>rfl)) (he:A2 (tab e).k=false:=by simp) (hsz:(tab e).size=sz:=by simp)
  (h1:ev Sr s=r.d es.length:=by first|with_unfolding_all rfl|(simp[ev,getD,List.lookup];done)) (h2:k8 (ev Sr x)=some new:=by(simp<;>with_unfolding_all rfl))
  (hne:new≠[]:=by simp) (hlen':∀c∈new,c.length=sz:=by first|exact Ck _|exact E0 _|exact BX _|simp) (eZ:∀c∈new,C6 c=true:=by simp[cI,cS,cII,C6,D.flat])
  (hb:(es.length+new.length)*(tab e).bytes<=140737488355328:=by first|(simp;done)|(simp;omega)) (hm2:es.length+new.length<=9223372036854775807:=by first|(simp;done)|(simp;omega)) (d6:decide (t<n)=true:=by exact tdR) :
  au prog ro n ops Q (⟨some t,(cA s x T T'),ty,pos,after,none⟩::rest) ⟨γ,O,df⟩:=by
 obtain⟨e1,e2⟩:=jW hl
 exact F9 jB (by simpa using d6) hk eX he hsz (by rw[<-e1];exact h1) hm (by rw[<-e2];exact GL h2 hlen') hlen' eZ hb hm2 fun r' U' h1 h2 h3=>by
  rcases h3 with⟨h3,_⟩|⟨i,c,cs,rfl⟩
  ·exact absurd h3 hne
  ·exact h i c cs U' h1 h2
theorem xappR{T T' e e' sz:Nat}{s x:Operand}{es new:eR}{r:RW}(h:∀r' U',jN U' sz r' (es++new)->RWK O r U' r'->au prog ro n ops Q rest ⟨(t,r'.d (es.length+new.length))::γ,U',df⟩)(hm:jN O sz r es)(h2:IK prog O sz (ev Sr x) new)(eZ:∀c∈new,C6 c=true)
  (hlen':∀c∈new,c.length=sz)
  (hl:A5 γ (Aa [s,x])=some Sr:=by exact tdR) (hk:(tab T).k=.slice e:=by(simp<;>rfl)) (eX:(tab T').k=.slice e':=by(simp<;>rfl)) (he:A2 (tab e).k=false:=by simp) (hsz:(tab e).size=sz:=by simp)
  (h1:ev Sr s=r.d es.length:=by first|with_unfolding_all rfl|(simp[ev,getD,List.lookup];done))
  (hb:(es.length+new.length)*(tab e).bytes<=140737488355328:=by first|(simp;done)|(simp;omega)) (hm2:es.length+new.length<=9223372036854775807:=by first|(simp;done)|(simp;omega)) (d6:decide (t<n)=true:=by exact tdR) :
  au prog ro n ops Q (⟨some t,(cA s x T T'),ty,pos,after,none⟩::rest) ⟨γ,O,df⟩:=by
 obtain⟨e1,e2⟩:=jW hl;exact F9 jB (by simpa using d6) hk eX he hsz (by rw[<-e1];exact h1) hm (by rw[<-e2];exact h2) hlen' eZ hb hm2 fun r' U' h1 h2 _=>h r' U' h1 h2
theorem Dl{T T' e e' sz:Nat}{s x:Operand}{es new:eR}{r:RW}{l:List (Bool×Oper)}(h:∀i c cs U',jN U' sz (.row i c cs) (es++new)->RWK O r U' (.row i c cs)->MO prog ro n ops N S0 Q df l ((t,.am i 0 (es.length+new.length) c)::γ) U')(hC:∀j o,S0 j=some o->O j=some o /\ ¬r.is j)(hm:jN O sz r es:=by assumption)
  (hl:A5 γ (Aa [s,x])=some Sr:=by exact tdR) (hk:(tab T).k=.slice e:=by(simp<;>rfl)) (eX:(tab T').k=.slice e':=by(simp<;>rfl)) (he:A2 (tab e).k=false:=by simp) (hsz:(tab e).size=sz:=by simp)
  (h1:ev Sr s=r.d es.length:=by first|with_unfolding_all rfl|(simp[ev,getD,List.lookup];done)) (h2:k8 (ev Sr x)=some new:=by(simp<;>with_unfolding_all rfl))
  (hne:new≠[]:=by simp) (hlen':∀c∈new,c.length=sz:=by first|exact Ck _|exact E0 _|exact BX _|simp) (eZ:∀c∈new,C6 c=true:=by simp[cI,cS,cII,C6,D.flat])
  (hb:(es.length+new.length)*(tab e).bytes<=140737488355328:=by first|(simp;done)|(simp;omega)) (hm2:es.length+new.length<=9223372036854775807:=by first|(simp;done)|(simp;omega)) (d6:decide (t<n)=true:=by exact tdR) :
  MO prog ro n ops N S0 Q df ((true,⟨some t,(cA s x T T'),ty,pos,after,none⟩)::l) γ O:=
 mo1 (fun U2 hx=>by
  obtain⟨e1,e2⟩:=In hl hx
  refine F9 jB (by simpa using d6) hk eX he hsz (by rw[e1];exact h1) hm (by rw[e2];exact GL h2 hlen') hlen' eZ hb hm2 (fun r' U' h' hK h3=>?_)
  rcases h3 with⟨h3,_⟩|⟨i,c,cs,rfl⟩
  ·exact absurd h3 hne
  refine AD ⟨rfl,?_⟩
  simp only[A8,bu]
  exact⟨fun j o hj=>(hK j o (hC j o hj).1 (hC j o hj).2).1,h i c cs U' h' hK⟩) d6
end
structure Rows(O:Sig)(R:Nat->RW)(sz:Nat->Nat)(ct:Nat->eR):Prop where
 ok:∀a,jN O (sz a) (R a) (ct a)
 dj:∀a b j,(R a).is j->(R b).is j->a=b
def jK{α:Type}(f:Nat->α)(k:Nat)(x:α):Nat->α:=fun j=>if j=k then x else f j
@[simp] theorem Ab{α:Type}(f:Nat->α)(k:Nat)(x:α):jK f k x k=x:=by unfold jK;rw[aG rfl]
def A1{α:Type}(f:Nat->α){k j:Nat}(x:α)(h:j≠k):jK f k x j=f j:=by unfold jK;rw[aE h]
section
variable {O U':Sig}{R:Nat->RW}{sz:Nat->Nat}{ct:Nat->eR}
theorem Rows.upd(h:Rows O R sz ct){a:Nat}{r':RW}{es':eR}(hr:jN U' (sz a) r' es')(hk:RWK O (R a) U' r'):Rows U' (jK R a r') sz (jK ct a es'):=by
 have hne:∀b,b≠a->∀j,(R b).is j->∃o,O j=some o /\ ¬(R a).is j:=fun b hb j hj=>by
  obtain⟨cs,hc⟩:=(h.ok b).cells hj;exact⟨_,hc,fun ha=>hb (h.dj b a j hj ha)⟩
 refine⟨fun b=>?_,fun b c j hb hc=>?_⟩
 ·by_cases e:b=a
  ·subst e;rw[Ab,Ab];exact hr
  ·rw[A1 _ _ e,A1 _ _ e]
   exact(h.ok b).keep fun j o hj hb=>by
    obtain⟨o',gE,hn⟩:=hne b e j hb;exact(hk j o hj hn).1
 ·by_cases e:b=a
  ·subst e
   by_cases e2:c=b
   ·exact e2.symm
   ·rw[Ab]at hb;rw[A1 _ _ e2]at hc;obtain⟨o,ho,hn⟩:=hne c e2 j hc;exact absurd hb (hk j o ho hn).2
  ·rw[A1 _ _ e]at hb
   by_cases e2:c=a
   ·subst e2;rw[Ab]at hc;obtain⟨o,ho,hn⟩:=hne b e j hb;exact absurd hc (hk j o ho hn).2
   ·rw[A1 _ _ e2]at hc;exact h.dj b c j hb hc
theorem Rows.keep(h:Rows O R sz ct)(hk:∀j o,O j=some o->(∃a,(R a).is j)->U' j=some o):Rows U' R sz ct:=
 ⟨fun a=>(h.ok a).keep fun j o hj ha=>hk j o hj ⟨a,ha⟩,h.dj⟩
theorem Rows.retell{ct':Nat->eR}(h:Rows O R sz ct)(he:∀a,ct' a=ct a):Rows O R sz ct':=by
 obtain rfl:ct'=ct:=funext he;exact h
theorem Rows.re(h:Rows O R sz ct){a:Nat}{r':RW}{es':eR}(hr:jN O (sz a) r' es')(hi:∀j,r'.is j->(R a).is j):Rows O (jK R a r') sz (jK ct a es'):=by
 refine⟨fun b=>?_,fun b c j hb hc=>?_⟩
 ·by_cases e:b=a
  ·subst e;rw[Ab,Ab];exact hr
  ·rw[A1 _ _ e,A1 _ _ e];exact h.ok b
 ·have gx:(R b).is j:=by
   by_cases e:b=a
   ·subst e;rw[Ab]at hb;exact hi j hb
   ·rwa [A1 _ _ e]at hb
  have gw:(R c).is j:=by
   by_cases e:c=a
   ·subst e;rw[Ab]at hc;exact hi j hc
   ·rwa [A1 _ _ e]at hc
  exact h.dj b c j gx gw
end
def Lr: ∀(l:List j8) (n d:Int),j8.depths l n<=d ↔ n<=d /\ ∀x∈l,x.depth<=d
 |[],n,d=>by rw[j8.depths];simp
 |f::l,n,d=>by
  rw[j8.depths,Lr l];have:mx n f.depth<=d ↔ n<=d/\f.depth<=d:=by unfold mx;split<;>omega
  rw[this];simp only[aY,ez];exact and_assoc
def locP(w:World)(f:j8):Prop:=1<=f.op/\f.op<=7/\f.ag.length=Cr f.op/\(if CU f.op then JA w f=true else f.arg=0/\f.path.length=0/\f.jM=0/\f.n=0)
def loc_iff(w:World)(f:j8):(JM w f&&Fv w f)=true ↔ locP w f:=by
 unfold locP JM Fv JA W7 Qo CU inB GV Cr;rcases eK (f.op=2)with h2|h2
 ·simp[h2];grind
 ·rcases eK (f.op=3)with h3|h3
  ·simp[h3];grind
  ·rcases eK (f.op=4)with h4|h4
   ·simp[h4];grind
   ·simp[h2,h3,h4]
    grind
def Hs(w:World): ∀(d:Nat) (f:j8) (s s':Int),0<=s->s<=1000->(GI w d f s=(true,s') ↔ (s'=s-f.size/\(f.size:Int)<=s/\f.depth<=d/\Jq w f=true))
 |0,f,s,s',_,_=>by
  have:=(j8.depth_le f).1;simp[GI];omega
 | d+1,f,s,s',h0,h1=>by
  have hw:IntKind.i64.wrap (s-1)=s-1:=AA j0 j0
  have fO:∀(l:List j8) (t t':Int),0<=t->t<=1000->(allS (GI w d) l t=(true,t') ↔ (t'=t-j8.sizes l/\(j8.sizes l:Int)<=t/\(∀x∈l,x.depth<=d)/\Et w l=true)):=fun l=>by
   induction l with
   |nil=>intro t t' h0 h1;rw[allS,j8.sizes,Et];simp;omega
   | cons x r ih =>
    intro t t' h0 h1;rw[allS,j8.sizes,Et];cases hy:GI w d x t with
    | mk b t1 =>
     cases b with
     |false=>
      have hx:=Hs w d x t (t-x.size) h0 h1;rw[hy]at hx;simp only[dK,bm,dw,false_iff,aY,ez,aF]at hx⊢
      rintro⟨a1,a2,⟨a3,a4⟩,a5,a6⟩
      exact hx ⟨trivial,j0,a3,a5⟩
     |true=>
      obtain⟨b1,b2,b3,b4⟩:=(Hs w d x t t1 h0 h1).1 hy;simp only[aY,ez,aF];rw[ih t1 t' j0 j0];constructor
      ·rintro⟨a1,a2,a3,a4⟩;exact⟨j0,j0,⟨b3,a3⟩,b4,a4⟩
      ·rintro⟨a1,a2,⟨_,a3⟩,_,a4⟩;exact⟨j0,j0,a3,a4⟩
  have fF:=loc_iff w f;rw[GI,hw,j8.depth_eq,j8.size_eq,P6,aF,fF]
  have hd:j8.depths f.ag 0+1<=((d+1:Nat):Int) ↔ ∀x∈f.ag,x.depth<=d:=by
   have:=Lr f.ag 0 d;constructor
   ·intro h;exact(this.1 j0).2
   ·intro h;have:=this.2 ⟨j0,h⟩;omega
  rw[hd];unfold locP;split
  ·rename_i hc;simp only[dK,bm,dw,false_iff]
   rintro⟨a1,a2,a3,⟨a4,a5,a6,a7⟩,a8⟩
   rcases hc with hc|hc|hc|hc<;>omega
  ·rename_i hc;have c1:¬s-1<0:=fun h=>hc (.inl h);have c2:¬f.op<1:=fun h=>hc (.inr (.inl h));have c3:¬7<f.op:=fun h=>hc (.inr (.inr (.inl h)));have c4:f.ag.length=Cr f.op:=bN fun h=>hc (.inr (.inr (.inr h)));split
   ·rename_i hl
    have hk:f.ag=[]:=by
     have:Cr f.op=0:=by
      unfold CU at hl;simp only[bR,aH]at hl;unfold Cr;rw[aE j0,aE j0]
     exact List.eq_nil_of_length_eq_zero j0
    rw[hk]at c4⊢;rw[j8.sizes,Et];simp only[dK];constructor
    ·rintro⟨a1,a2⟩;exact⟨j0,j0,j1,⟨j0,j0,c4,a1⟩,trivial⟩
    ·rintro⟨a1,a2,a3,⟨a4,a5,a6,a7⟩,a8⟩;exact⟨a7,j0⟩
   ·rename_i hl;split
    ·rename_i hz;rw[fO _ _ _ j0 j0];constructor
     ·rintro⟨a1,a2,a3,a4⟩;exact⟨j0,j0,a3,⟨j0,j0,c4,hz⟩,a4⟩
     ·rintro⟨a1,a2,a3,_,a4⟩;exact⟨j0,j0,a3,a4⟩
    ·rename_i hz;simp only[dK,bm,dw,false_iff]
     rintro⟨a1,a2,a3,⟨a4,a5,a6,a7⟩,a8⟩
     exact hz a7
mutual
def Vs: ∀(f:j8) (most:Int),((f.size:Int)<=most->f.cnt most=f.size)/\(most<f.size->most<f.cnt most)
 |.mk o a p c n k,most=>by
  have:=PQ k most 1;rw[j8.cnt,j8.size];omega
def PQ: ∀(l:List j8) (most n:Int),(n+(j8.sizes l:Int)<=most->j8.cnts l most n=n+j8.sizes l)/\(most<n+j8.sizes l->most<j8.cnts l most n)
 |[],most,n=>by rw[j8.cnts,j8.sizes];omega
 | f::l,most,n=>by
  rw[j8.cnts,j8.sizes];have h1:=Vs f (most-n);have h2:=j8.cnts_le l most (n+f.cnt (most-n));have h3:=PQ l most (n+f.cnt (most-n));split
  ·by_cases hs:(f.size:Int)<=most-n
   ·rw[h1.1 hs]at h2 h3⊢;omega
   ·have:=h1.2 j0;omega
  ·omega
end
def SY(w:World)(f:j8):Eu w f=Ev w f:=by
 have h:=Hs w 12 f 24 (24-f.size) j0 j0;have hc:=Vs f 24
 have e1:Eu w f=true ↔ ((f.size:Int)<=24/\f.depth<=12/\Jq w f=true):=by
  unfold Eu;constructor
  ·intro hb;cases hn:GI w 12 f 24 with
   |mk b s'=>
    rw[hn]at hb;cases b with
    |false=>simp at hb
    |true=>exact((Hs w 12 f 24 s' j0 j0).1 hn).2
  ·intro hb;rw[h.2 ⟨rfl,hb⟩]
 have e2:Ev w f=true ↔ ((f.size:Int)<=24/\f.depth<=12/\Jq w f=true):=by
  unfold Ev;simp only[aF,aH];constructor
  ·rintro⟨⟨a,b⟩,c⟩;exact⟨j0,b,c⟩
  ·rintro⟨a,b,c⟩;exact⟨⟨j0,b⟩,c⟩
 rw[aR,e1,e2]
def Wn(p:aw)(hC:Am p=AM p):DH p=Fo p:=look_eq p hC fun f=>SY _ f
def Pv{p:aw}(hg:Bk (p.aa.map (·.ae))=true){k:Nat}(hk:k<p.aa.length):(p.aa[k]).ae.length<=3 /\ ∀x∈(p.aa[k]).ae,3<=x/\x<(k:Int)+3:=by
 have h:=BP hg (k+3)
 have e:parentsF (p.aa.map (·.ae)) ((k+3:Nat):Int)=(p.aa[k]).ae:=by
  unfold parentsF;rw[aE j0,show(((k+3:Nat):Int)-3).toNat=k by omega,aD (by simpa using hk)];simp
 rw[e]at h;exact⟨h.1,fun x hx=>by have:=h.2 x hx;omega⟩
def PR: ∀(cs:List ax) (n:Int),(∀c∈cs,c.ae.length<=3)->FJ n cs=AT n cs
 |[],_,_=>rfl
 | c::r,n,h=>by
  have h3:=h c j1;rw[FJ,AT]
  by_cases h4:4<c.ac.length
  ·rw[aG (.inl h4),aG h4]
  ·rw[aE j0,aE h4];cases CA n c.ac with
   |none=>rfl
   |some m=>exact PR r m fun x hx=>h x (by simp[hx])
def Wp{g:eT}(hg:Bk g=true){c:Int}(hc:0<=c/\c<3+g.length):decide (linE g c=0)=decide (0<(lineF g c).length):=by
 unfold linE;rw[aG ⟨hg,hc⟩]
 by_cases h:lineF g c=[]
 ·rw[aG h,h];rfl
 ·rw[aE h];have:=de.2 h;simp[this]
def M2(bs:List Bool)(i j:Nat)(v:Bool):(bs.set i v).getD j false=if i=j/\i<bs.length then v else bs.getD j false:=by
 rw[aQ,aQ,dP]
 by_cases h:i=j
 ·subst h
  by_cases hl:i<bs.length
  ·simp[hl]
  ·simp[hl]
 ·simp[h]
def Hc(k:Nat): ∀(ps:eP) (bs:List Bool) (j:Nat),(∀x∈ps,0<=x/\x<k/\x<bs.length)->(GG k ps bs).getD j false=(bs.getD j false||(bs.getD k false&&decide ((j:Int)∈ps)))
 |[],bs,j,_=>by rw[GG];simp
 | p::r,bs,j,h=>by
  obtain⟨h0,h1,h2⟩:=h p j1;rw[GG,Hc k r _ j (fun x hx=>by rw[bP];exact h x (by simp[hx]))];rw[M2,M2];have hk:¬(p.toNat=k/\p.toNat<bs.length):=by omega
  rw[aE hk]
  by_cases hj:p.toNat=j
  ·have fI:(j:Int)=p:=by omega
   rw[aG ⟨hj,j0⟩,hj];simp[fI];cases bs.getD j false<;>cases bs.getD k false<;>simp_all
  ·have fI:¬(j:Int)=p:=by omega
   rw[aE (by rintro⟨a,_⟩;exact hj a)];simp[fI]
def IM(g:eT)(hg:Bk g=true): ∀(j:Nat) (bs:List Bool) (k:Nat),j+2<k->bs.length=3+g.length->j<=g.length->(upD g j bs).getD k false=bs.getD k false
 |0,_,_,_,_,_=>rfl
 | j+1,bs,k,h,hl,hj=>by
  have hp:=(BP hg (j+3)).2;rw[upD,IM g hg j _ k j0 (by rw[DD];exact hl) j0,Hc _ _ _ _ (fun x hx=>by have:=hp x hx;omega)]
  have:decide ((k:Int)∈parentsF g ((j+3:Nat):Int))=false:=by
   rw[bh];intro hx;have:=hp k hx;omega
  rw[this];simp
def KT{α:Type}[DecidableEq α]{x:α}: ∀(l s:List α),x∈GQ l s ↔ x∈l\/x∈s
 |[],s=>by unfold GQ;simp
 |y::r,s=>by
  have:=KT (x:=x) r (j6 y s);unfold GQ at this⊢;rw[eb,this,mem_ins,aY]
  grind
def M1{p:aw}(hg:Bk (p.aa.map (·.ae))=true){s:Int}: ∀(n:Nat) (up out:eP) (bs:List Bool),n<=p.aa.length->bs.length=3+p.aa.length->(∀k:Nat,3<=k->k<n+3->((k:Int)∈up ↔ bs.getD k false=true))->
  (s∈hasG p.aa n up out ↔ s∈out \/ ∃k, ∃h:k<p.aa.length,k<n/\(upD (p.aa.map (·.ae)) n bs).getD (k+3) false=true/\s∈(p.aa[k]).ac)
 |0,up,out,bs,_,_,_=>by rw[hasG];simp
 | n+1,up,out,bs,hn,hl,hR=>by
  have fj:n<p.aa.length:=by omega
  have fb:=(Pv hg fj).2
  have fy:parentsF (p.aa.map (·.ae)) ((n+3:Nat):Int)=(p.aa[n]).ae:=by
   unfold parentsF;rw[aE j0,show(((n+3:Nat):Int)-3).toNat=n by omega,aD (by simpa using fj)];simp
  have eY:=fun (j:Nat)=>Hc (n+3) (p.aa[n]).ae bs j (fun x hx=>by have:=fb x hx;omega)
  have hlen:(GG (n+3) (p.aa[n]).ae bs).length=3+p.aa.length:=by rw[DD];exact hl
  have eU:=IM _ hg n (GG (n+3) (p.aa[n]).ae bs) (n+3) j0 (by rw[hlen,aN]) (by rw[aN];omega)
  have b6:(GG (n+3) (p.aa[n]).ae bs).getD (n+3) false=bs.getD (n+3) false:=by
   rw[eY];have:decide (((n+3:Nat):Int)∈(p.aa[n]).ae)=false:=by rw[bh];intro hx;have:=fb _ hx;omega
   rw[this];simp
  have b7:=hR (n+3) j0 j0;rw[hasG,aD fj,upD,fy];simp only;have fh:((n+3:Nat):Int)=(n:Int)+3:=by omega
  rw[fh]at b7
  by_cases hu:(n:Int)+3∈up
  ·have hb:=b7.1 hu
   rw[aG hu,M1 hg n _ _ (GG (n+3) (p.aa[n]).ae bs) j0 hlen (fun k h3 hk=>by
    rw[KT,hR k h3 j0,eY k,hb]
    simp;grind),bJ]
   constructor
   ·rintro((h|h)|⟨k,hk,h1,h2,h3⟩)
    ·exact .inl h
    ·exact .inr ⟨n,fj,j0,by rw[eU,b6];exact hb,h⟩
    ·exact .inr ⟨k,hk,j0,h2,h3⟩
   ·rintro(h|⟨k,hk,h1,h2,h3⟩)
    ·exact .inl (.inl h)
    ·by_cases fH:k=n
     ·subst fH;exact .inl (.inr h3)
     ·exact .inr ⟨k,hk,j0,h2,h3⟩
  ·have hb:bs.getD (n+3) false=false:=by
    cases h:bs.getD (n+3) false
    ·rfl
    ·exact absurd (b7.2 h) hu
   rw[aE hu,M1 hg n _ _ (GG (n+3) (p.aa[n]).ae bs) j0 hlen (fun k h3 hk=>by
    rw[hR k h3 j0,eY k,hb]
    simp)]
   constructor
   ·rintro(h|⟨k,hk,h1,h2,h3⟩)
    ·exact .inl h
    ·exact .inr ⟨k,hk,j0,h2,h3⟩
   ·rintro(h|⟨k,hk,h1,h2,h3⟩)
    ·exact .inl h
    ·by_cases fH:k=n
     ·subst fH;rw[eU,b6,hb]at h2;cases h2
     ·exact .inr ⟨k,hk,j0,h2,h3⟩
def Hk: ∀(l:eP) (n m:Int),CA n l=some m->m=n+l.length /\ ∀x∈l,n<=x/\x<m
 |[],n,m,h=>by rw[CA]at h;cases h;simp
 | s::r,n,m,h=>by
  rw[CA]at h;split at h
  ·rename_i hs;obtain⟨h1,h2⟩:=Hk r _ _ h;refine⟨by rw[h1,aS];omega,fun x hx=>?_⟩;rcases aY.1 hx with rfl|hx
   ·omega
   ·have:=h2 x hx;omega
  ·cases h
def GB: ∀(cs:List ax) (n m:Int),AT n cs=some m->m=n+wtL (fun c:ax=>c.ac.length) cs/\(∀c∈cs, ∀x∈c.ac,n<=x/\x<m)/\wtL (fun c:ax=>c.ac.length) cs<=4*cs.length
 |[],n,m,h=>by rw[AT]at h;cases h;simp[wtL]
 | c::r,n,m,h=>by
  rw[AT]at h;split at h
  ·cases h
  ·rename_i h4;split at h
   ·cases h
   ·rename_i m1 hm;obtain⟨h1,h2⟩:=Hk _ _ _ hm;obtain⟨h5,h6,h7⟩:=GB r _ _ h;refine⟨by rw[wtL];omega,fun x hx y hy=>?_,by rw[wtL,aS];omega⟩;rcases aY.1 hx with rfl|hx
    ·have:=h2 y hy;omega
    ·have:=h6 x hx y hy;omega
def Fm: ∀(cs:List ax) (i:Nat),(ownersF cs i).length=wtL (fun c:ax=>c.ac.length) cs
 |[],_=>by rw[ownersF,wtL];rfl
 |c::r,i=>by rw[ownersF,wtL,aC,bY,Fm r]
def I6: ∀(l:eP) (n m:Int),CA n l=some m->∀s,s∈l ↔ n<=s/\s<m
 |[],n,m,h,s=>by rw[CA]at h;cases h;simp
 | x::r,n,m,h,s=>by
  rw[CA]at h;split at h
  ·rename_i hx;have h1:=I6 r _ _ h s;have h2:=(Hk r _ _ h).1;rw[aY,h1];omega
  ·cases h
def KP: ∀(cs:List ax) (i:Nat), ∀x∈ownersF cs i,(i:Int)+3<=x
 |[],_,x,hx=>by simp[ownersF]at hx
 |c::r,i,x,hx=>by
  rw[ownersF]at hx;rcases bJ.1 hx with hx|hx
  ·have:=cV hx;omega
  ·have:=KP r (i+1) x hx;omega
def Hn: ∀(cs:List ax) (i:Nat) (n m:Int),AT n cs=some m->∀(s:Int) (k:Nat) (h:k<cs.length),s∈(cs[k]).ac ↔ n<=s/\s<m/\((ownersF cs i)[(s-n).toNat]?).getD 0=(i:Int)+k+3
 |[],_,_,_,_,_,k,h=>by simp at h
 | c::r,i,n,m,hc,s,k,h=>by
  rw[AT]at hc;split at hc
  ·cases hc
  ·split at hc
   ·cases hc
   ·rename_i m1 hm;have h1:=I6 _ _ _ hm s;have h2:=(Hk _ _ _ hm).1;obtain⟨h3,_,_⟩:=GB r _ _ hc;have hlen:=Fm r (i+1);rw[ownersF]
    have fV:n<=s->s<m1->((List.replicate c.ac.length ((i:Int)+3)++ownersF r (i+1))[(s-n).toNat]?).getD 0=(i:Int)+3:=fun a b=>by
     rw[bj (by rw[bY];omega),dV,aG j0];rfl
    have fB:m1<=s->((List.replicate c.ac.length ((i:Int)+3)++ownersF r (i+1))[(s-n).toNat]?).getD 0=((ownersF r (i+1))[(s-m1).toNat]?).getD 0:=fun a=>by
     rw[bK (by rw[bY];omega),bY,show(s-n).toNat-c.ac.length=(s-m1).toNat by omega]
    cases k with
    | zero =>
     simp only[dY];rw[h1];constructor
     ·rintro⟨a,b⟩;exact⟨a,j0,by rw[fV a b];simp⟩
     ·rintro⟨a,b,d⟩
      refine⟨a,bN fun hn=>?_⟩;rw[fB j0]at d;have hl:(s-m1).toNat<(ownersF r (i+1)).length:=by omega
      rw[aD hl]at d;have:=KP r (i+1) _ (aK hl);simp at d;omega
    | succ k =>
     simp only[eI];rw[Hn r (i+1) m1 m hc s k (by simpa using h)];constructor
     ·rintro⟨a,b,d⟩;exact⟨j0,b,by rw[fB a,d];omega⟩
     ·rintro⟨a,b,d⟩
      by_cases hs:s<m1
      ·rw[fV a hs]at d;omega
      ·rw[fB j0]at d;exact⟨j0,b,by rw[d];omega⟩
def SB{x:Int}{l:eP}:x∈Fi l ↔ x∈l:=by unfold Fi;exact List.mem_mergeSort
def VJ(g:eT)(hg:Bk g=true)(i:Nat)(bs:List Bool)(hl:bs.length=3+g.length)(hi:i<g.length):(upD g (i+1) bs).getD (i+3) false=bs.getD (i+3) false:=by
 have hp:=(BP hg (i+3)).2;rw[upD,IM g hg i _ (i+3) j0 (by rw[DD];exact hl) j0,Hc _ _ _ _ (fun x hx=>by have:=hp x hx;omega)]
 have:decide (((i+3:Nat):Int)∈parentsF g ((i+3:Nat):Int))=false:=by
  rw[bh];intro hx;have:=hp _ hx;omega
 rw[this];simp
def Pt{p:aw}{N:Int}(hg:Bk (p.aa.map (·.ae))=true)(hc:AT 0 p.aa=some N){i:Nat}(hi:i<p.aa.length)(s:Int):s∈hasP p ((i:Int)+3) ↔ (0<=s/\s<N)/\hasW (AG p) ((i:Int)+3) s=true:=by
 have fg:(p.aa.map (·.ae)).length=p.aa.length:=aN _;have gc:((i:Int)+3-2).toNat=i+1:=by omega
 have fv:((i:Int)+3).toNat=i+3:=by omega
 have d5:((List.replicate (3+p.aa.length) false).set (i+3) true).length=3+p.aa.length:=by rw[bP,bY]
 have hb:∀k:Nat,((List.replicate (3+p.aa.length) false).set (i+3) true).getD k false=decide (i+3=k):=fun k=>by
  rw[M2]
  by_cases h:i+3=k
  ·rw[aG ⟨h,by rw[bY];omega⟩,be h]
  ·rw[aE (fun hh=>h hh.1),bk h,aQ,dV];split<;>rfl
 unfold hasP
 rw[SB,gc,M1 hg (i+1) [(i:Int)+3] [] _ j0 d5 (fun k _ _=>by
  rw[hb];simp only[bC,aH];omega)]
 have ga:upF (AG p).ae ((i:Int)+3)=upD (p.aa.map (·.ae)) (i+1) ((List.replicate (3+p.aa.length) false).set (i+3) true):=by
  unfold upF AG;simp only[fg,fv];rfl
 obtain⟨hN,_,_⟩:=GB _ _ _ hc;have gD:=Fm p.aa 0;have fc:=fun k (h:k<p.aa.length)=>Hn p.aa 0 0 N hc s k h;simp only[Int.sub_zero]at fc;have b6:=VJ _ hg i _ (by rw[d5,fg]) (by rw[fg];exact hi);rw[hb]at b6
 have gr:∀k:Nat,i<k->(upD (p.aa.map (·.ae)) (i+1) ((List.replicate (3+p.aa.length) false).set (i+3) true)).getD (k+3) false=false:=fun k hk=>by
  rw[IM _ hg (i+1) _ (k+3) j0 (by rw[d5,fg]) (by rw[fg];omega),hb];exact bk j0
 unfold hasW IE;rw[ga];simp only[dT,false_or,aF,bR,aH];have f9:(AG p).jQ=ownersF p.aa 0:=rfl;rw[f9];constructor
 ·rintro⟨k,hk,h1,h2,h3⟩
  obtain⟨a,b,d⟩:=(fc k hk).1 h3;refine⟨⟨a,b⟩,j0,.inr ⟨j0,?_⟩⟩;rw[d,show(((0:Nat):Int)+k+3).toNat=k+3 by omega];exact h2
 ·rintro⟨⟨a,b⟩, -, h⟩
  have fS:s.toNat<(ownersF p.aa 0).length:=by omega
  have gj:=Ep (aK fS);rw[aD fS]at h fc;simp only[ba]at h fc;obtain⟨o1,o2⟩:=gj;generalize (ownersF p.aa 0)[s.toNat]=o at*;have fU:o=((o-3).toNat:Int)+3:=by omega
  have d9:(o-3).toNat<p.aa.length:=by omega
  refine⟨(o-3).toNat,d9,?_⟩;have fR:=(fc _ d9).2 ⟨a,b,j0⟩;have gk:o.toNat=(o-3).toNat+3:=by omega
  rcases h with(h|h)|⟨-, h⟩
  ·have hk:(o-3).toNat=i:=by omega
   exact⟨j0,by rw[hk,b6];simp,fR⟩
  ·omega
  ·rw[gk]at h;refine⟨Nat.lt_of_not_le fun hh=>?_,h,fR⟩;rw[gr _ j0]at h;cases h
def Po{w:World}{N c:Int}{fN:eP}(hh:∀s,s∈fN ↔ (0<=s/\s<N)/\hasW w c s=true): ∀(l:List jv) (seen:List jv),Dm fN (seen.map (·.slot)) l=Ga w N c seen l
 |[],_=>rfl
 | x::r,seen=>by
  rw[Dm,Ga,<-Po hh r (seen++[x]),bz,List.map_singleton]
  have h1:decide (x.slot∈fN)=(decide (0<=x.slot/\x.slot<N)&&hasW w c x.slot):=by
   rw[aR,aH,aF,aH,hh]
  have h2:(!decide (x.slot∈seen.map (·.slot)))=seen.all fun y=> !decide (y.slot=x.slot):=by
   rw[aR,aW];simp only[bp,bh,aZ,not_exists,not_and]
  rw[h1,h2];unfold FG;generalize (decide (0<=x.slot/\x.slot<N)&&hasW w c x.slot)=a;generalize (seen.all fun y=> !decide (y.slot=x.slot))=b;cases a<;>cases b<;>cases inB x.n<;>rfl
def JC{p:aw}{N:Int}(hg:Bk (p.aa.map (·.ae))=true)(hc:AT 0 p.aa=some N): ∀(l:List ax) (i:Nat),i+l.length=p.aa.length->AS p i l=E7 (AG p) N i l
 |[],_,_=>rfl
 |c::r,i,hl=>by
  rw[aS]at hl;rw[AS,E7,JC hg hc r (i+1) j0];have h1:=Wp hg (c:=(i:Int)+3) ⟨j0,by rw[aN];omega⟩;have h2:=Po (Pt hg hc (i:=i) j0) c.ah [];rw[bX]at h2;rw[h1,h2];rfl
def Rf(p:aw):Am p=AM p:=by
 unfold Am AM;cases hg:Bk (p.aa.map (·.ae))with
 | true =>
  have h3:∀c∈p.aa,c.ae.length<=3:=fun c hc=>by
   obtain⟨k,hk,rfl⟩:=bT hc;exact(Pv hg hk).1
  rw[PR p.aa 0 h3];cases hc:AT 0 p.aa with
  |none=>rfl
  |some n=>simp only[JC hg hc p.aa 0 j0]
 |false=>
  congr 1
  cases AT 0 p.aa<;>cases FJ 0 p.aa<;>simp
def Pi(p:aw):DH p=Fo p:=Wn p (Rf p)
end Go.DL
