/- A part of the proof. -/
import Derived.Test.YtlfimpogphmbdaaGreatQ06
import Derived.Laws.StructEq
import Derived.RangeFuncLeaves
set_option linter.all false
namespace Go.DL
open Go
def eqD1:TyK->D->D->Option Bool
 |.int _,.int k a,.int k' b=>if k=k' then some (decide (a=b)) else none
 |.str,.str a,.str b=>some (decide (a=b))
 |.bool,.bool a,.bool b=>some (decide (a=b))
 |_,_,_=>none
@[simp] theorem eqD1_i(q k:IntKind)(a b:Int):eqD1 (.int q) (.int k a) (.int k b)=some (decide (a=b)):=by simp[eqD1]
@[simp] theorem eqD1_s(a b:List UInt8):eqD1 .str (.str a) (.str b)=some (decide (a=b)):=rfl
@[simp] theorem eqD1_b(a b:Bool):eqD1 .bool (.bool a) (.bool b)=some (decide (a=b)):=rfl
@[simp] def eqFs (tab:Nat->Ty) (xs ys:fE):List (Nat × Nat)->Option Bool
 |[]=>some true
 | (off,ft)::fs=>match A6 (tab ft).k || (tab ft).agg with
  |true=>none
  | false=>match Mh (tab ft) xs off,Mh (tab ft) ys off with
   |some a,some b=>match eqD1 (tab ft).k a b,eqFs tab xs ys fs with
    |some r,some q=>some (r&&q)
    |_,_=>none
   |_,_=>none
def EqTy (P : Program) (t : Nat) : Prop := P.eqGuardType P.depth t = false /\ P.stoodInHeld t = false /\ (P.fieldsOf t).toList.all (fun f => !(f.name == "_")) = true
section
variable {P:Program}{tab:Nat->Ty}(ht:Bs P tab){g:G}{w:World}
include ht
theorem VO{t d:Nat}{a b:D}{r:Bool}{u v:Value}(hk:A6 (tab t).k=false)(h:eqD1 (tab t).k a b=some r)(hu:Rep g a u)(hv:Rep g b v):(Op.equalIn (d+1) t u v).run P w=.ok r w:=by
 have e9:=ht t
 unfold eqD1 at h
 split at h<;>(try (cases h;done))
 ·rename_i q k x k' y hq
  split at h<;>(try (cases h;done))
  rename_i gC
  cases h;subst gC
  rw[BP hu,BP hv]
  unfold TyOK at e9
  rw[hq]at e9
  obtain⟨_,desc,_,_,h2,h3,_⟩:=e9
  cases desc<;>simp only[KOK]at h3<;>(try (exact h3.elim))
  rw[run_equalIn_int w d t k _ x y h2,EA]
 ·rename_i x y hq
  cases h
  rw[FF hu,FF hv]
  unfold TyOK at e9
  rw[hq]at e9
  obtain⟨_,desc,_,_,h2,h3,_⟩:=e9
  cases desc<;>simp only[KOK]at h3<;>(try (exact h3.elim))
  rw[run_equalIn_string w d t _ _ h2]
  simp[ByteArray.toList_eq,EA]
 ·rename_i x y hq
  cases h
  rw[Ho hu,Ho hv]
  unfold TyOK at e9
  rw[hq]at e9
  obtain⟨_,desc,_,_,h2,h3,_⟩:=e9
  cases desc<;>simp only[KOK]at h3<;>(try (exact h3.elim))
  rw[run_equalIn_bool' w d t x y h2,EA]
theorem Js{t:Nat}{cs:fE}{off:Nat}{d:D}{vs:List Value}(hk:A6 (tab t).k=false)(ha:(tab t).agg=false)(h:Mh (tab t) cs off=some d)(hr:RepL g cs vs):
  ∃v,(part t vs.toArray off).run P w=.ok v w/\Rep g d v:=by
 unfold Mh at h
 rw[ha]at h
 simp only[bj,bd]at h
 have hl:=RepL.length hr
 have gR:off<cs.length:=by
  rcases cg off cs.length with h'|h'
  ·exact h'
  ·rw[bQ h']at h;cases h
 have hv:vs[off]? = some vs[off]:=aM (by omega)
 refine⟨vs[off],?_,?_⟩
 ·unfold part
  simp only[aU,Jo (ht t) (Aj hk),aK,ha,bj,bd,cV,hv,bf]
 ·have:=RepL.get hr off
  rw[h,hv]at this
  exact this
theorem OE {d : Nat} {xs ys : fE} {us vs : List Value} (hx : RepL g xs us) (hy : RepL g ys vs) : ∀ {fs : List Field} {r : Bool}, fs.all (fun f => !(f.name == "_")) = true -> eqFs tab xs ys (fs.map fun f => (f.offset, f.type)) = some r ->
  (Op.eqFields (d+1) us.toArray vs.toArray fs).run P w=.ok r w
 |[],r,_,h=>by simp only[bJ,eqFs]at h;cases h;simp[Op.eqFields]
 | f::fs,r,hn,h=>by
  simp only[bV,aI]at hn
  simp only[ba,eqFs]at h
  split at h<;>(try (cases h;done))
  rename_i gC
  simp only[dD]at gC
  obtain⟨hk,g8⟩:=gC
  split at h<;>(try (cases h;done))
  rename_i a b ha hb
  split at h<;>(try (cases h;done))
  rename_i r1 q h1 h2
  cases h
  obtain⟨u,iE,iD⟩:=Js ht (w:=w) hk g8 ha hx
  obtain⟨v,iC,iB⟩:=Js ht (w:=w) hk g8 hb hy
  have iK : f.name ≠ "_" := by simpa using hn.1
  simp only[Op.eqFields,iK,ne_eq,not_false_eq_true,bp,aU,iE,iC,aK,VO ht hk h1 iD iB]
  cases r1
  ·simp
  ·simp only[cw,bj,bd,aW]
   exact OE hx hy hn.2 h2
theorem eqS_run{T:Nat}{fs:List (Nat×Nat)}{xs ys:fE}{r:Bool}{us vs:List Value}(hE:EqTy P T)(hk:(tab T).k=.struct fs)(h:eqFs tab xs ys fs=some r)(hx:RepL g xs us)(hy:RepL g ys vs):
  (Op.equalIn 10000 T (.agg us.toArray) (.agg vs.toArray)).run P w=.ok r w:=by
 obtain⟨h1,h2,h3⟩:=hE
 have e9:=ht T
 unfold TyOK at e9
 rw[hk]at e9
 obtain⟨_,desc,_,_,h4,h5,_⟩:=e9
 cases desc<;>simp only[KOK]at h5<;>(try (exact h5.elim))
 rename_i fl _
 have hf:P.fieldsOf T=fl:=by unfold Program.fieldsOf;rw[h4]
 rw[run_equalIn_agg w 9999 T us.toArray vs.toArray (by rw[h4,hf]) h2,hf]
 rw[hf]at h3
 rw[<-h5]at h
 exact OE (d:=9998) ht hx hy h3 h
theorem Xt{V:Sig}(hs:Sim P g V w){T u:Nat}{fs:List (Nat×Nat)}{xs ys:fE}{r:Bool}{x y:Operand}{dst:Option Tmp}{ty:TypeId}{pos:String}{after:Array Edge}{guard:Option (Nat×Bool)}{γ:Fr}{n:Nat}{a:Act}(hT:RepT g γ n a.tmps)
  (hE:EqTy P T) (hk:(tab T).k=.struct fs) (hx:ev γ x=.agg xs) (hy:ev γ y=.agg ys) (h:eqFs tab xs ys fs=some r) (neg:Bool) :
  ORun P g V (.bool (neg != r)) (execOp a.eval ⟨dst,.binOp (match neg with|true=>.neq|false=>.eql) T x y u,ty,pos,after,guard⟩) w:=by
 have h1:=Au hT x
 have h2:=Au hT y
 rw[hx]at h1;rw[hy]at h2
 obtain⟨us,e1,r1⟩:=h1
 obtain⟨vs,e2,r2⟩:=h2
 have d6:=eqS_run ht (w:=w) hE hk h r1 r2
 refine⟨g,w,.bool (neg != r),?_,.refl g,hs,rfl⟩
 have hg:∀o,(eqGuard o T x y (.agg us.toArray) (.agg vs.toArray)).run P w=.ok () w:=fun o=>run_eqGuard_agg w o T x y _ _ hE.1
 simp only[execOp,aU,e1,e2,hg,aK]
 cases neg
 ·simp only[run_eql_struct,d6,aK]
  cases r<;>rfl
 ·simp only[run_neq_struct,d6,aK]
  cases r<;>rfl
end
section
variable {P:Program}{ro:Option Nat}{n:Nat}{ops:Array Oper}{N:Nat}{S0:Sig}{Q:DX->St->Prop}{df:List DDf}{rest:List Oper}{γ Sr:List (Nat×D)}{V:Sig}{t:Nat}{ty:TypeId}{pos:String}{after:Array Edge}{l:List (Bool×Oper)}{e:Bool}
theorem Pl{tab:Nat->Ty}(ht:Bs P tab){T u:Nat}{x y:Operand}{fs:List (Nat×Nat)}{xs ys:fE}{r:Bool}(hE:EqTy P T)(ga:decide (t<n)=true)(hl:A8 γ (Ad [x,y])=some Sr)(hx:ev Sr x=.agg xs)(hy:ev Sr y=.agg ys)(hk:(tab T).k=.struct fs)(hd:eqFs tab xs ys fs=some r)
  (h:MO P ro n ops N S0 Q df l ((t,.bool (!r))::γ) V):MO P ro n ops N S0 Q df ((e,⟨some t,.binOp .neq T x y u,ty,pos,after,none⟩)::l) γ V:=by
 have hc:∀z∈[x,y],ev Sr z=ev γ z:=fun z hz=>Co fun t ht=>B7 hl t (Bw (by rw[<-ht];exact hz))
 have gW:∀z∈[x,y],ev (only (Oper.looksAt ops ⟨some t,.binOp .neq T x y u,ty,pos,after,none⟩) γ) z=ev γ z:=fun z hz=>Cj (o:=⟨some t,.binOp .neq T x y u,ty,pos,after,none⟩) (by simp at hz;rcases hz with rfl|rfl<;>simp[Op.operands])
 refine .inl ⟨.bool (!r),⟨ga,.inl ⟨rfl,(fun c e=>by cases e),Ah (fun c e=>by cases e),fun S' hZ g w a hs hT=>?_⟩⟩,h⟩
 have:=Xt (dst:=some t) (ty:=ty) (pos:=pos) (after:=after) (guard:=none) (u:=u) ht hs hT hE hk (by rw[gW x (by simp),<-hc x (by simp)];exact hx) (by rw[gW y (by simp),<-hc y (by simp)];exact hy) hd true
 simpa using this
end
abbrev MR:=Option (Nat×Nat×fE)
def mD:MR->Nat->D
 |none,_=>.ak
 |some (i,cap,_),n=>.ap i 0 n cap
def mS(V:Sig):MR->fH->Sig
 |none,_=>V
 |some (i,_,rest),es=>V.set i (.cells (es.flatten++rest))
def mOK(V:Sig)(sz:Nat):MR->fH->Prop
 |none,es=>es=[]
 |some (i,cap,rest),es=>V i=none/\(es.flatten++rest).length=cap*sz/\es.length<=cap /\ ∀e∈es,e.length=sz
theorem mOK.len{V:Sig}{sz:Nat}{st:MR}{es:fH}(h:mOK V sz st es): ∀e∈es,e.length=sz:=by
 cases st with
 |none=>obtain rfl:es=[]:=h;simp
 |some x=>exact h.2.2.2
theorem Dc{sz:Nat}: ∀{es:fH},(∀e∈es,e.length=sz)->es.flatten.length=es.length*sz
 |[],_=>by simp
 |e::es,h=>by
  have:=Dc (es:=es) fun x hx=>h x (by simp[hx])
  simp only[cy,aH,aP,co,this,h e (by simp)];omega
theorem Sub.setD{a b:Sig}{i j:Nat}{o x:DObj}(h:Sub a b)(hi:a i=Option.none)(jh:i≠j):Sub (a.set j o) ((b.set i x).set j o):=fun k y hk=>by
 by_cases h1:k=j
 ·subst h1;rw[w7]at hk⊢; exact hk
 ·rw[w8 _ _ h1]at hk⊢
  rw[w8 _ _ fun e=>by rw[e,hi]at hk;cases hk]
  exact h k y hk
section
variable {P:Program}{ro:Option Nat}{n:Nat}{ops:Array Oper}{Q:DX->St->Prop}{rest:List Oper}{tab:Nat->Ty}{γ:List (Nat×D)}{V:Sig}{df:List DDf}
theorem Eo{o:Oper}(R:D->Sig->Prop)(hw:AT ops γ o=some true)(iO:∀c,o.op≠.defer c)(jc:∀(w:World) (ρ:Operand->Value) f,o.about P w ρ=some f->False)(ho:AD n o=true)
  (hr:∀g w (a:Act),Sim P g V w->RepT g γ n a.tmps->∃g' w' v d S',(execOp a.eval o).run P w=.ok (.value v) w'/\g.le g'/\Sim P g' S' w'/\Rep g' d v/\R d S')
  (h:∀d S',R d S'->av P ro n ops Q rest ⟨putD o.dst d γ,S',df⟩):av P ro n ops Q (o::rest) ⟨γ,V,df⟩:=by
 intro g w a r iF hs
 unfold wpListIn
 rw[AV hs.tmps hw,aS rfl]
 refine⟨fun f hf=>(jc _ _ f hf).elim,?_⟩
 obtain⟨g',w',v,d,S',h1,h2,h3,h4,h5⟩:=hr g w a hs.sim hs.tmps
 rw[cE _ _ _ iO,h1]
 exact AA h2 _ (h d S' h5 _ _ _ r (iF.mono h2) (hs.put h2 h3 h4 ho))
theorem Sim.drew{g:G}{w:World}(hs:Sim P g V w):Sim P g V w.drew:=
 ⟨hs.imm,hs.keep,fun i o h=>by have:=hs.obj i o h;cases o<;>exact this,hs.inj,hs.free,hs.htop,hs.hdom,hs.fin,hs.io⟩
theorem Q0{g:G}{i b len cap:Nat}(h:g.rho i=some b):Rep g (.ap i 0 len cap) (.slice (some ⟨b,0,none⟩) len cap):=⟨b,h,rfl⟩
theorem Pi{g:G}{w:World}{sz:Nat}{st:MR}{es:fH}{v:Value}(hs:Sim P g (mS V st es) w)(hm:mOK V sz st es)(hv:Rep g (mD st es.length) v):
  ∃a cap,v=.slice a es.length cap/\es.length<=cap /\ ∃us,RepL g es.flatten us/\us.length=es.length*sz/\(es.length=0 \/ ∃b o,a=some ⟨b,o,none⟩ /\ ∀j v,us[j]? = some v->w.cell? ⟨b,o+j,none⟩=some v):=by
 cases st with
 |none=>
  obtain rfl:es=[]:=hm
  exact⟨none,0,hv,by simp,[],rfl,by simp,.inl rfl⟩
 |some x=>
  obtain⟨i,cap,rest⟩:=x
  obtain⟨h1,h2,h3,h4⟩:=hm
  obtain⟨b,hb,hv⟩:=hv
  obtain⟨b',vs,ty,fN,d7,hr⟩:=hs.obj i _ (w7 ..)
  obtain rfl:b'=b:=by rw[hb]at fN;cases fN;rfl
  obtain⟨u,v',e1,e2,e3⟩:=hr.split
  refine⟨_,cap,hv,h3,u,e2,by rw[RepL.length e2,Dc h4],.inr ⟨b',0,rfl,fun j x hx=>?_⟩⟩
  have:j<u.length:=(bn.1 hx).1
  simp only[World.cell?, d7,ck]
  have:vs.toList[j]? = some x:=by rw[e1,bx this];exact hx
  simpa using this
variable (ht:Bs P tab)
include ht
theorem Ke{t T T' ty e e' sz:Nat}{s x:Operand}{pos:String}{after:Array Edge}{es new:fH}{st:MR}
  (ga:t<n) (hk:(tab T).k=.slice e) (iV:(tab T').k=.slice e') (he:A6 (tab e).k=false) (gb:(tab e).size=sz) (h1:ev γ s=mD st es.length) (hm:mOK V sz st es) (h2:esOf (ev γ x)=some new)
  (hlen':∀c∈new,c.length=sz) (gF:∀c∈new,Db c=true)
  (hb:(es.length+new.length)*(tab e).bytes<=140737488355328) (iR:es.length+new.length<=9223372036854775807)
  (h:∀st',mOK V sz st' (es++new)->av P ro n ops Q rest ⟨(t,mD st' (es++new).length)::γ,mS V st' (es++new),df⟩) :
  av P ro n ops Q (⟨some t,(cA s x T T'),ty,pos,after,none⟩::rest) ⟨γ,mS V st es,df⟩:=by
 subst gb
 refine Eo (fun d S'=> ∃st',mOK V (tab e).size st' (es++new)/\d=mD st' (es++new).length/\S'=mS V st' (es++new)) rfl (fun c e=>by cases e) (Cd rfl rfl) (by simp[AD,ga]) ?_
  (fun d S' ⟨st',a1,a2,a3⟩=>by subst a2 a3;exact h st' a1)
 intro g w a hs hT
 have gA:=Au hT s
 have iv:=Au hT x
 rw[h1]at gA
 obtain⟨base,cap,r1,r2,us,r3,r4,r5⟩:=Pi hs hm gA
 obtain⟨xa,xc,q1,q2,q3⟩:=CU h2 iv
 obtain⟨news,v1,v2,v3⟩:=CZ hs hlen' q3
 obtain⟨inf,z,t1,t2,t3,t4,t5,t6,t7⟩:=Ca ht hk iV he
 have gk:=hm.len
 have fP:∀c∈es++new,c.length=(tab e).size:=fun c hc=>(bk.1 hc).elim (gk c) (hlen' c)
 by_cases d9:es.length+new.length<=cap
 ·
  cases st with
  | none =>
   obtain rfl:es=[]:=hm
   obtain⟨rfl,rfl⟩:base=none/\cap=0:=by
    have e1:a.eval s=.slice none 0 0:=gA
    rw[e1]at r1;injection r1 with f1 f2 f3;exact⟨f1.symm,f3.symm⟩
   have iQ:new.length=0:=by simpa using d9
   have iP:new=[]:=bC.1 iQ
   subst iP
   have iM:news=[]:=bC.1 (by rw[v2];simp)
   refine⟨g,w,.slice none 0 0,.ak,V,Bl ?_,.refl g,hs,rfl,none,rfl,rfl,rfl⟩
   rw[r1,q1]
   have:=Cg (ty:=ty) t1 t2 t3 (w:=w) (w2:=w) (base:=none) (xa:=xa) (n:=0) (cap:=0) (m:=0) (xc:=xc) (news:=[]) (AR (by simp) (.inl rfl)) (by omega) (fun b hb=>by cases hb) (fun _=>rfl)
   simpa using this
  | some y =>
   obtain⟨i,cap',rest'⟩:=y
   obtain⟨m1,m2,m3,m4⟩:=hm
   obtain⟨b,fN,hv⟩:=gA
   rw[hv]at r1;injection r1 with f1 f2 f3
   subst f3
   subst f1
   obtain⟨b2,vs,ty',g7,d7,hr⟩:=hs.obj i _ (w7 ..)
   obtain rfl:b2=b:=by rw[fN]at g7;cases g7;rfl
   have gj:=RepL.length hr
   simp only[bN]at gj
   have ji:=Dc m4
   have gE:=Dc hlen'
   have iM:=RepL.length v1
   simp only[aH]at m2 gj
   have gP:(es.length+new.length)*(tab e).size<=cap'*(tab e).size:=di _ d9
   rw[co]at gP
   have gc:=CN (P:=P) news 0 w vs d7 (Ec v1 (Is gF)) (o:=es.length*(tab e).size) (by omega)
   have d6:=Cg (ty:=ty) t1 t2 t3 (w:=w) (base:=some ⟨b2,0,none⟩) (xa:=xa) (n:=es.length) (cap:=cap') (m:=new.length) (xc:=xc) (news:=news) (w2:=if news=[] then w else setB w b2 (.cells (Cl vs (0+es.length*(tab e).size) news) ty' (0,0)))
    (AR (by rw[t5];exact v2) v3) d9 (fun a ha=>by cases ha;rw[Cc,t5];simpa using gc) (fun h=>by cases h)
   have gN:RepL g (es.flatten++(new.flatten++rest'.drop (new.length*(tab e).size))) (Cl vs (0+es.length*(tab e).size) news).toList:=by
    refine Bf (by simp only[aH,dY,bN,E5];omega) fun j d v h1 h2=>?_
    have fM:(Cl vs (0+es.length*(tab e).size) news)[j]? = some v:=by simpa using h2
    rw[EB _ _ _ _ (by omega)]at fM
    simp only[cL]at h1
    have hg:=RepL.get hr j
    by_cases c1:j<es.flatten.length
    ·rw[aN (by omega)]at fM
     rw[aS c1]at h1
     rw[bx c1,h1]at hg
     simp only[cc,fM,bP]at hg
     exact hg
    ·rw[aN c1]at h1
     by_cases c2:j-es.flatten.length<new.flatten.length
     ·rw[aS (by omega)]at fM
      rw[aS c2]at h1
      have:=RepL.get v1 (j-es.flatten.length)
      rw[h1,show j-es.flatten.length=j-(0+es.length*(tab e).size) by omega,fM]at this
      exact this
     ·rw[aN (by omega)]at fM
      rw[aN c2,cH]at h1
      rw[bR (by omega),show j-es.flatten.length=new.length*(tab e).size+(j-es.flatten.length-new.flatten.length) by omega,h1]at hg
      simp only[cc,fM,bP]at hg
      exact hg
   refine⟨g,_,.slice (some ⟨b2,0,none⟩) (es.length+new.length) cap',mD (some (i,cap',rest'.drop (new.length*(tab e).size))) (es++new).length,_,Bl (by rw[hv,q1];exact d6),.refl g,?_,?_,some (i,cap',rest'.drop (new.length*(tab e).size)),⟨m1,?_,by simpa using d9,fP⟩,rfl,rfl⟩
   ·have fO:=hs.setObj (i:=i) (b:=b2) (ds':=es.flatten++(new.flatten++rest'.drop (new.length*(tab e).size))) (vs':=Cl vs (0+es.length*(tab e).size) news) (ty:=ty') (w7 ..) fN gN ⟨vs,d7⟩
    simp only[mS,w9]at fO
    have e1:es.flatten++(new.flatten++rest'.drop (new.length*(tab e).size))=(es++new).flatten++rest'.drop (new.length*(tab e).size):=by simp
    rw[e1]at fO
    by_cases hne:news=[]
    ·rw[aS hne]
     subst hne
     have iz:setB w b2 (.cells (Cl vs (0+es.length*(tab e).size) []) ty' (0,0))=w:=by
      obtain⟨gR,iX⟩:=aR.1 d7
      have e:w.heap.setIfInBounds b2 (.cells vs ty' (0,0))=w.heap:=by
       apply Array.ext (by simp);intro k h1 h2;by_cases hk:b2=k
       ·subst hk;simp[iX]
       ·rw[fo _ hk]
      show { w with heap:=w.heap.setIfInBounds b2 (.cells vs ty' (0,0)) }=w
      rw[e]
     rw[iz]at fO;exact fO
    ·rw[aN hne];exact fO
   ·rw[mD,aH];exact Q0 fN
   ·simp only[dJ,aH,dY];omega
 ·
  obtain⟨c,hc,d6⟩:=FE (ty:=ty) t1 t2 t3 t4 (w:=w) (base:=base) (xa:=xa) (n:=es.length) (cap:=cap) (m:=new.length) (xc:=xc) (olds:=us) (news:=news)
   (AR (by rw[t5];exact r4) r5) (AR (by rw[t5];exact v2) v3) (by omega) iR (by rw[t6];exact hb)
  obtain⟨i',gD,f9⟩:=hs.fresh
  let zs:=(Builtin.zeroCells z.cells (c-(es.length+new.length))).toList
  have gI:RepL (g.bind i' w.heap.size) ((es++new).flatten++zs.map Ci) (us++news++zs):=by
   rw[dJ]
   exact((RepL.mono (G.bind_le gD) _ r3).append (RepL.mono (G.bind_le gD) _ v1)).append (Ek _ _)
  have gL:ObjRep P (g.bind i' w.drew.heap.size) { w.drew with heap:=w.drew.heap.push (.cells (us++news++zs).toArray e (0,0)) } i' (.cells ((es++new).flatten++zs.map Ci)):=
   ⟨w.drew.heap.size,(us++news++zs).toArray,e,by simp[G.bind],by exact dn,by simpa using gI⟩
  have fW:=hs.drew.newObj gD f9 rfl gL
  have jd:V i'=none:=by
   cases st with
   |none=>exact f9
   |some y=>
    obtain⟨i,cap',rest'⟩:=y
    simp only[mS]at f9
    exact(set_none' f9).2
  refine⟨_,_,_,mD (some (i',c,zs.map Ci)) (es++new).length,_,Bl (by rw[r1,q1];exact d6),G.bind_le gD,fW.sub (S':=mS V (some (i',c,zs.map Ci)) (es++new)) ?_,?_,some (i',c,zs.map Ci),⟨jd,?_,by simpa using hc,fP⟩,rfl,rfl⟩
  ·cases st with
   |none=>exact Sub.refl _
   |some y=>
    obtain⟨i,cap',rest'⟩:=y
    simp only[mS]at f9⊢
    exact(Sub.refl V).setD hm.1 fun e=>(set_none' f9).1 e.symm
  ·rw[mD,aH];exact Q0 (by simp[G.bind])
  ·have hz:zs.length=(c-(es.length+new.length))*(tab e).size:=by simp[zs,size_zeroCells,t7]
   simp only[aH,aZ,hz,Dc fP,<-co]
   congr 1;omega
where
 set_none' {V:Sig}{i j:Nat}{o:DObj} (h:V.set i o j=none):j≠i/\V j=none:=by
  by_cases hj:j=i
  ·subst hj;rw[w7]at h;cases h
  ·rw[w8 _ _ hj]at h;exact⟨hj,h⟩
omit ht in
theorem NF{zs:Array Value}{sz:Nat}(hz:zs.size=sz)(h0:0<sz): ∀k:Nat,((List.range (k*sz)).map fun j=>zs[j % zs.size]!)=(List.replicate k zs.toList).flatten
 |0=>by simp
 |k+1=>by
  rw[List.replicate_succ',dJ,<-NF hz h0 k,co,ew,List.range_add,bI]
  congr 1
  simp only[dk,cy,eB,bb]
  apply List.ext_getElem (by simp[hz])
  intro j h1 h2
  have hj:j<sz:=by simpa using h1
  simp only[List.getElem_map,Function.comp,List.getElem_range,hz,Array.getElem_toList]
  rw[Nat.mul_comm,Nat.mul_add_mod,ey hj,getElem!_pos zs j (by omega)]
theorem Sw{t T ty e k sz c:Nat}{l m:Operand}{pos:String}{after:Array Edge}{z:fE}
  (ga:t<n) (hk:(tab T).k=.slice e) (he:A6 (tab e).k=false) (gb:(tab e).size=sz) (h0:0<sz) (hz:(tab e).zero=z)
  (h1:ev γ l=.int .i64 k) (h2:ev γ m=.int .i64 c) (iU:k<=c) (hb:c*(tab e).bytes<=140737488355328) (hm:c<=9223372036854775807)
  (h:∀i,V i=none->mOK V sz (some (i,c,(List.replicate (c-k) z).flatten)) (List.replicate k z)->av P ro n ops Q rest ⟨(t,.ap i 0 k c)::γ,mS V (some (i,c,(List.replicate (c-k) z).flatten)) (List.replicate k z),df⟩) :
  av P ro n ops Q (⟨some t,.makeSlice T l m,ty,pos,after,none⟩::rest) ⟨γ,V,df⟩:=by
 subst gb hz
 obtain⟨inf,z,t1,t2,t3,t4,t5,t6,t7⟩:=Ca ht hk hk he
 obtain⟨z',hz,jg,jf⟩:=DP (ht e) (Aj he) (default:World)
 have ij:(tab e).zero.length=(tab e).size:=by
  obtain⟨_,_,_,_,_,_,_,_,_,_,h8,_⟩:=CV (ht e) (Aj he)
  exact h8
 have gF:(List.replicate k (tab e).zero).flatten++(List.replicate (c-k) (tab e).zero).flatten=(List.replicate c (tab e).zero).flatten:=by
  rw[<-dJ,fi];congr 2;omega
 have gK:∀i,V i=none->mOK V (tab e).size (some (i,c,(List.replicate (c-k) (tab e).zero).flatten)) (List.replicate k (tab e).zero):=by
  intro i hi
  have hl:∀(m:Nat), ∀x∈List.replicate m (tab e).zero,x.length=(tab e).size:=fun m x hx=>by rw[dm hx,ij]
  refine⟨hi,?_,by simpa using iU,hl k⟩
  rw[gF,Dc (hl c),bu]
 refine HJ (mk:=fun i=>.ap i 0 k c) (d:=.cells ((List.replicate k (tab e).zero).flatten++(List.replicate (c-k) (tab e).zero).flatten)) rfl (fun c e=>by cases e) (Ah fun c e=>by cases e) (by simp[AD,ga]) rfl ?_
  (fun i hi=>h i hi (gK i hi))
 intro g w a hs hT
 have gj:=Au hT l
 have gX:=Au hT m
 rw[h1]at gj
 rw[h2]at gX
 have gQ:a.eval l=.int .i64 (k:Int):=gj
 have gO:a.eval m=.int .i64 (c:Int):=gX
 obtain⟨z'',iq,gH,gG⟩:=DP (ht e) (Aj he) w
 let cs:Array Value:=(Array.range (c*(tab e).size)).map (z''.cells[· % z''.cells.size]!)
 refine⟨.cells cs e,.slice (some ⟨w.heap.size,0,none⟩) k c,?_,fun i hi=>⟨⟨w.heap.size,cs,e,by simp[G.bind],by simp,?_⟩,w.heap.size,by simp[G.bind],rfl⟩⟩
 ·have w1:IntKind.i64.wrap (k:Int)=k:=Ar (by omega) (by omega)
  have w2:IntKind.i64.wrap (c:Int)=c:=Ar (by omega) (by omega)
  have jk:((tab e).bytes:Int)*(c:Int)<=140737488355328:=by rw[Int.mul_comm,<-Int.natCast_mul];omega
  have c1:¬(281474976710656<((tab e).bytes:Int)*(c:Int)):=by omega
  have c2:¬((c:Int)<0):=by omega
  have c3:¬((k:Int)<0):=by omega
  have c4:¬((c:Int)<(k:Int)):=by omega
  unfold execOp Instr.makeSlice
  simp only[gQ,gO,aU,A3 t1,aK,asInt,asIntOf,bf,run_program,typeInfo,t3,w1,w2,t6]
  have d1:decide ((c:Int)<0)=false:=by simp
  have d2:decide ((tab e).bytes*(c:Int)>2 ^ 48)=false:=by simp;omega
  have d3:decide ((k:Int)<0)=false:=by simp
  have d4:decide ((k:Int)>c)=false:=by simp;omega
  simp only[d1,d2,d3,d4,Bool.or_false,bj,bd,run_askRoom,aU,aK,B9 (ht e) (Aj he),dP]
  by_cases gT:c*(tab e).size=0
  ·have iZ:cs=#[]:=by simp[cs,gT]
   have iJ:Array.map (fun (x:Nat)=>(default:Value)) (Array.range 0)=#[]:=by simp
   simp[gT,Dn,iZ]
   exact bF (fun (z:Array Value)=>w.alloc (Obj.cells z e)) iJ
  ·simp[gT,iq,Dn,cs]
 ·rw[gF]
  have e1:cs.toList=(List.replicate c z''.cells.toList).flatten:=by
   simp only[cs,Array.toList_map,Array.toList_range]
   exact NF gG h0 c
  rw[e1,gH]
  have:(List.replicate c (z''.cells.toList.map Ci)).flatten=((List.replicate c z''.cells.toList).flatten).map Ci:=by
   rw[List.map_flatten,List.map_replicate]
  rw[this]
  exact Ek _ _
omit ht in
theorem Sim.freeze{g:G}{w:World}(fK:Sim P g V w){i b:Nat}{ds:fE}(hi:V i=some (.cells ds))(hb:g.rho i=some b): ∃g',g.le g'/\Sim P g' (V.del i) w/\RepI g' b 0 ds:=by
 obtain⟨b',vs,ty,fN,d7,hr⟩:=fK.obj i _ hi
 obtain rfl:b'=b:=by rw[hb]at fN;cases fN;rfl
 have fL:blk g V i=some b':=by simp[blk,hi,hb]
 have e7:=fK.free i b' fL
 have gM:∀o,g.imm b' o=none:=e7.2 fun o ho=>by rw[hi]at ho;cases ho;rfl
 have d8:g.le (g.addImm b' vs.toList):=
  {imm:=fun c o v h=>by
    simp only[G.addImm]
    by_cases hc:c=b'
    ·rw[hc,gM o]at h;cases h
    ·rw[aN hc];exact h
   rho:=fun _ _ h=>h,hist:=fun _ _ _ h=>h,keep:=fun _ _ h=>h,io:=rfl }
 have fR:∀j c,blk (g.addImm b' vs.toList) (V.del i) j=some c->j≠i/\blk g V j=some c:=by
  intro j c h
  by_cases hj:j=i
  ·subst hj;simp[blk,Sig.del]at h
  ·refine⟨hj,?_⟩
   unfold blk at h⊢
   simp only[Sig.del,hj,bd]at h
   exact h
 refine⟨g.addImm b' vs.toList,d8,?_,GS hr d8⟩
 exact {
   imm:=fun c o v h=>by
    simp only[G.addImm]at h
    by_cases hc:c=b'
    ·rw[aS hc]at h
     subst hc
     simp only[World.cell?, d7]
     simpa using h
    ·rw[aN hc]at h;exact fK.imm c o v h
   keep:=fK.keep
   obj:=fun j o h=>by
    have hj:j≠i:=fun e=>by rw[e]at h;simp[Sig.del]at h
    simp only[Sig.del,hj,bd]at h
    refine(fK.obj j o h).mono d8 ?_
    intro sz m c o' cap e1 e2 e3 k _ hk
    simp only[G.addImm]
    by_cases hc:c=b'
    ·exfalso
     subst hc
     exact hj (fK.inj j i c (by rw[e1]at h;simp[blk,h,e2]) fL)
    ·rw[aN hc];exact hk
   inj:=fun j k c h1 h2=>fK.inj j k c (fR j c h1).2 (fR k c h2).2
   free:=fun j c h=>by
    obtain⟨hj,h'⟩:=fR j c h
    obtain⟨h1,h2⟩:=fK.free j c h'
    refine⟨h1,fun hh o=>?_⟩
    have hc:c≠b':=fun e=>hj (fK.inj j i b' (e ▸ h') fL)
    simp only[G.addImm];rw[aN hc]
    exact h2 (fun x hx=>hh x (by simp only[Sig.del,hj,bd];exact hx)) o
   htop:=fun j sz n k h hk=>by
    have hj:j≠i:=fun e=>by rw[e]at h;simp[Sig.del]at h
    simp only[Sig.del,hj,bd]at h
    exact fK.htop j sz n k h hk
   hdom:=fK.hdom
   io:=fK.io
   fin:=fK.fin }
omit ht in
theorem Nq{g:G}{b:Nat}: ∀{a c:fE}{o:Nat},RepI g b o (a++c)->RepI g b o a
 |[],_,_,_=>trivial
 |_::_,_,_,⟨h1,h2⟩=>⟨h1,Nq h2⟩
omit ht in
theorem KV{g:G}{b:Nat}: ∀{a c:fE}{o:Nat},RepI g b o (a++c)->RepI g b (o+a.length) c
 |[],_,_,h=>by simpa using h
 |x::a,_,o,⟨_,h2⟩=>by have:=KV h2;rwa [aP,fg a.length 1,<-ci]
omit ht in
theorem Ge{g:G}{b sz:Nat}: ∀{es:fH}{o:Nat}{r:fE},(∀e∈es,e.length=sz)->RepI g b o (es.flatten++r)->RepE g b sz o es
 |[],_,_,_,_=>trivial
 |e::es,o,r,h,h2=>by
  rw[cy,aT]at h2
  refine⟨⟨h e (by simp),Nq h2⟩,?_⟩
  have:=KV h2
  rw[h e (by simp)]at this
  exact Ge (fun x hx=>h x (by simp[hx])) this
omit ht in
theorem KJ{t sz:Nat}{st:MR}{es:fH}(hm:mOK V sz st es)(hg:getD γ t=mD st es.length):Wk P n ⟨γ,mS V st es,df⟩ ⟨(t,.slice es .no)::γ,V,df⟩:=by
 cases st with
 |none=>
  obtain rfl:es=[]:=hm
  exact C2 (by rw[hg];exact Am _ (.inl rfl))
 | some x =>
  obtain⟨i,cap,rest⟩:=x
  obtain⟨m1,m2,m3,m4⟩:=hm
  intro g w a hs
  have gZ:=hs.tmps.2 t
  rw[hg]at gZ
  obtain⟨b,hb,hv⟩:=gZ
  obtain⟨g',d8,hs',iH⟩:=hs.sim.freeze (i:=i) (w7 V i _) hb
  refine⟨g',d8,⟨?_,⟨hs.tmps.1,fun k=>?_⟩,hs.df.mono d8⟩⟩
  ·have:(mS V (some (i,cap,rest)) es).del i=V:=Sig.set_del _ _ m1
   simp only at hs'
   rw[this]at hs';exact hs'
  ·rw[Aa]
   by_cases hk:k=t
   ·rw[aS hk,hk]
    exact⟨_,cap,hv,m3,.inr ⟨sz,b,0,rfl,Ge m4 iH⟩,trivial⟩
   ·rw[aN hk];exact Rep.mono d8 _ (hs.tmps.2 k)
end
theorem Sim.later{P:Program}{g:G}{V:Sig}{w w':World}(hs:Sim P g V w)(h:∀(k:Nat) x,w.heap[k]? = some x->w'.heap[k]? = some x)(iW:(w'.os,w'.output)=(w.os,w.output)):Sim P g V w' where
 imm:=fun b o v hb=>by
  have:=hs.imm b o v hb
  unfold Go.World.cell? at this⊢
  simp only at this⊢
  cases hx:w.heap[b]? with
  |none=>rw[hx]at this;simp at this
  |some x=>rw[hx]at this;rw[h _ _ hx];exact this
 keep:=fun k o hk=>h _ _ (hs.keep k o hk)
 obj:=fun i o ho=>by
  have:=hs.obj i o ho
  cases o with
  |cells ds=>obtain⟨b,vs,ty,h1,h2,h3⟩:=this;exact⟨b,vs,ty,h1,h _ _ h2,h3⟩
  |map l=>obtain⟨b,es,c,h1,h2,h3⟩:=this;exact⟨b,es,c,h1,h _ _ h2,h3⟩
  |tail sz n=>
   rcases this with h1|⟨b,o,cap,vs,ty,h1,h2,h3,h4⟩
   ·exact .inl h1
   ·exact .inr ⟨b,o,cap,vs,ty,h1,h2,h _ _ h3,h4⟩
  |loop st pe ps asg bo n γ did=>obtain⟨b,db,fn,tmps,h1,h2,h3,h4,h5⟩:=this;exact⟨b,db,fn,tmps,h1,h2,h3,h4,h _ _ h5⟩
  |defs=>obtain⟨b,h1,h2⟩:=this;exact⟨b,h1,h _ _ h2⟩
  |iter l la=>obtain⟨b,h1,h2⟩:=this;exact⟨b,h1,h2.imp (fun ⟨a,c,d⟩=>⟨a,c,h _ _ d⟩) (fun ⟨mb,es,c,seen,e1,r⟩=>⟨mb,es,c,seen,h _ _ e1,r⟩)⟩
 inj:=hs.inj
 free:=hs.free
 htop:=hs.htop
 hdom:=hs.hdom
 io:=iW.trans hs.io
 fin:=hs.fin
theorem LR{P:Program}{L:List FuncId}{n f:Nat}{args:Array Value}{w:World}{R:Ending->World->Prop}(h:∀D,CallsIn (Fence.list L (some D)) n P f args w R)(hL:∀f∈L,f<P.funcs.size)(r:Option Nat):
  CallsIn (FX P r) 0 P f args w R:=by
 refine⟨hL f (h 0).1,fun cs _=>?_⟩
 obtain⟨e,w',fr,h1,h2,h3,h4⟩:=(h (cs.length+1+n)).2 cs (fun d hd=>by cases hd;omega)
 refine⟨e,w',fr,h1,?_,h3,h4⟩
 have key:∀m m',StepsIn (Machine.fenced P (Fence.list L (some (cs.length+1+n)))) P m m'->StepsIn (Machine.fenced P (FX P r)) P m m':=fun m m' hs=>by
  refine StepsIn.mono (fun m hm g hg=>?_) hs
  obtain⟨a1,a2,a3,a4⟩:=hm g hg
  exact⟨(fun e=>by cases e),a2.imp (hL _) id,fun f hf=>hL _ (a3 f hf),room_FX P r _⟩
 cases e with
 |returned v=>exact key _ _ h2
 |panicked c=>exact key _ _ h2
 |outgrown=>exact h2
def Rh(P:Program)(l:Nat)(R:Ending->World->Prop):Exit->Act->World->Prop
 |.normal,_,w=> ∃v w',(Instr.endRound l none).run P w=.ok v w'/\R (.returned v) w'
 |.ret,_,w=> ∃v w',(Instr.endRound l (some .ret)).run P w=.ok v w'/\R (.returned v) w'
 |.exit id,_,w=> ∃v w',(Instr.endRound l (some (.exit id))).run P w=.ok v w'/\R (.returned v) w'
 |.panic chain,a,w=>a.defers=[]/\R (.panicked chain) w
 |_,_,_=>False
theorem IA{F:Fence}{n:Nat}{P:Program}{l:Nat}{f:FuncId}{tmps:Array Value}{assign body:Code}{w:World}{R:Ending->World->Prop}(hF:F.fn f)(gR:f<P.funcs.size)
  (h:assign.wpIn (F.inRound l) n P (Exit.then (fun a₁ w₁ => ∃ w₂,(Instr.beginRound l).run P w₁ = .ok () w₂/\body.wpIn (F.inRound l) n P (Rh P l R) a₁ w₂) (fun _ _ _=>False))
   {tmps:=tmps,defers:=[] } w) :
  RoundIn F n P l f tmps assign body w R:=by
 refine⟨hF,fun c cs hr=>?_⟩
 let b:Frame:={ (default:Frame)with fn:=f,kind:=.normal,roundOf:=some l }
 have jb:Frame.round l f tmps assign body .normal=b.atR { tmps:=tmps,defers:=[] } [.code assign,.beginRound,.code body]:=by
  simp[Frame.round,Frame.atR,b]
 have fZ:(F.inRound l).room ((c::cs).length+1+n):=hr
 have f6:(F.inRound l).fn b.fn:=hF
 obtain⟨e,a₁,w₁,hq,fU⟩:=h b [.beginRound,.code body] (c::cs) rfl f6 fZ
 rw[<-jb]at fU
 cases e with
 | normal =>
  obtain⟨w₂,ja,gw⟩:=hq
  have s1:StepsIn (Machine.fenced P (F.inRound l)) P (lone (b.atR a₁ [.beginRound,.code body]) (c::cs) w₁) (lone (b.atR a₁ [.code body]) (c::cs) w₂):=
   .one (ex (fr:=b.atR a₁ [.beginRound,.code body]) f6 fZ rfl) (stepR_beginRound rfl ja)
  obtain⟨e₂,a₂,w₃,f7,e8⟩:=gw b [] (c::cs) rfl f6 fZ
  cases e₂ with
  |normal=>
   obtain⟨v,w₄,fQ,hR⟩:=f7
   exact⟨.returned v,w₄,hR,(dp fU s1).trans (dp e8 (.one (ex (fr:=b.atR a₂ []) f6 fZ rfl) (stepR_round_end rfl rfl fQ)))⟩
  |ret=>
   obtain⟨v,w₄,fQ,hR⟩:=f7
   obtain⟨k₁,hs⟩:=e8.2 rfl
   exact⟨.returned v,w₄,hR,(dp fU s1).trans (dp hs (.one (ex (fr:=b.atR a₂ (.code .ret::k₁)) f6 fZ rfl) (stepR_round_ret rfl rfl fQ)))⟩
  |exit id=>
   obtain⟨v,w₄,fQ,hR⟩:=f7
   obtain⟨k₁,hk,hs⟩:=e8.2 rfl rfl
   exact⟨.returned v,w₄,hR,(dp fU s1).trans (dp hs (.one (ex (fr:=b.atR a₂ (.code (.exit id)::k₁)) f6 fZ rfl) (stepR_round_exit rfl rfl hk fQ)))⟩
  |panic chain=>
   obtain⟨hd,hR⟩:=f7
   obtain⟨todo,hs⟩:=e8
   have hl:({ b.atR a₂ todo with mode:=.panicking chain }:Frame).leaving P w₃ (.panicked chain):=⟨rfl,hd,_,bz gR⟩
   exact⟨.panicked chain,w₃,hR,(dp fU s1).trans (dp hs (.one (fenced_leaving (n:=n) f6 fZ hl) (step_leave_panicked hl)))⟩
  |goto t=>exact f7.elim
  |outgrown=>exact f7.elim
 |exit id=>exact hq.elim
 |goto t=>exact hq.elim
 |ret=>exact hq.elim
 |panic chain=>exact hq.elim
 |outgrown=>exact hq.elim
structure DYield(P:Program)(l:Nat)(args:fE)(V:Sig)(R:DE->Sig->Prop):Prop where
 run:∀g w vs,Sim P g V w->RepL g args vs->∃b fn tmps asg body,g.rho l=some b/\(Instr.yield b vs.toArray).run P w=.ok (.round b fn tmps asg body) w /\ ∀r,RoundIn (FX P r) 0 P b fn tmps asg body w (PJ P g R)
theorem DYield.mono{P:Program}{l:Nat}{args:fE}{V:Sig}{R R':DE->Sig->Prop}(h:DYield P l args V R)(hr:∀x S',R x S'->R' x S'):DYield P l args V R':=
 ⟨fun g w vs hs ha=>let ⟨b,fn,t,a,c,h1,h2,h3⟩:=h.run g w vs hs ha;⟨b,fn,t,a,c,h1,h2,fun r=>(h3 r).mono fun _ _ ⟨g',x,S',k1,k2,k3,k4⟩=>⟨g',x,S',k1,k2,k3,hr _ _ k4⟩⟩⟩
def R2:fG->fE->Fr->Fr
 |p::ps,d::ds,γ=>R2 ps ds ((p,d)::γ)
 |_,_,γ=>γ
theorem No{g:G}{n:Nat}: ∀{ps:fG}{ds:fE}{vs:List Value}{γ:Fr}{tmps:Array Value},RepT g γ n tmps->RepL g ds vs->ps.length=ds.length->(∀p∈ps,p<n)->
  RepT g (R2 ps ds γ) n ((ps.zip vs).foldl (fun t (x:Nat×Value)=>t.setIfInBounds x.1 x.2) tmps)
 |[],[],_,_,_,h,_,_,_=>h
 |[],_::_,_,_,_,_,_,hl,_=>by simp at hl
 |_::_,[],_,_,_,_,_,hl,_=>by simp at hl
 |p::ps,d::ds,_,γ,tmps,h,⟨v,r,e,h1,h2⟩,hl,hp=>by
  subst e
  have : RepT g ((p, d) :: γ) n (tmps.setIfInBounds p v) := RepT.put (o := ⟨some p, .move (.tmp 0), 0, "", #[], none⟩) (a := { tmps := tmps, defers := [] }) h h1 (by simp [AD, hp p (by simp)])
  exact No (ps:=ps) (ds:=ds) (γ:=(p,d)::γ) (tmps:=tmps.setIfInBounds p v) this h2 (by simpa using hl) (fun q hq=>hp q (by simp[hq]))
section
variable {P:Program}{ro:Option Nat}{n:Nat}{ops:Array Oper}{Q:DX->St->Prop}{rest:List Oper}{γ:List (Nat×D)}{V:Sig}{df:List DDf}
theorem LH{fop:Operand}{args:Array Operand}{ats:Array TypeId}{dst:Option Tmp}{ty:TypeId}{pos:String}{after:Array Edge}{guard:Option (Nat×Bool)}{l:Nat}{R:DE->Sig->Prop}
  (hw:AT ops γ ⟨dst,(cv fop args ats),ty,pos,after,guard⟩=some true)
  (hf:ev γ fop=.yld l) (h:DYield P l (args.toList.map (ev γ)) V R)
  (ho:AD n ⟨dst,(cv fop args ats),ty,pos,after,guard⟩=true)
  (fX:∀d S',R (.ret d) S'->av P ro n ops Q rest ⟨putD dst d γ,S',df⟩)
  (f0:∀d S',R (.panic d) S'->Q (.panic d) ⟨γ,S',df⟩) :
  av P ro n ops Q (⟨dst,(cv fop args ats),ty,pos,after,guard⟩::rest) ⟨γ,V,df⟩:=by
 intro g w a r hr hs
 unfold wpListIn
 rw[AV hs.tmps hw,aS rfl]
 have fV:=Au hs.tmps fop
 rw[hf]at fV
 obtain⟨b,hb,fV⟩:=fV
 have gh:(resolve a.eval { callee:=.value fop,args,argTypes:=ats } ty).run P w=.ok { target:=.fn (.yield b) #[],args:=args.map a.eval } w:=by
  simp[resolve,fV,Deferred.ofValue,Sem.run]
 refine⟨fun f' go=>?_,?_⟩
 ·simp only[Oper.about,gh,Target.leads]at go
  cases go
 ·rw[cE _ _ _ (fun c e=>by cases e)]
  obtain⟨b',fn,tmps,asg,body,h1,h2,h3⟩:=h.run g w _ hs.sim (DQ hs.tmps args.toList)
  obtain rfl:b'=b:=by rw[hb]at h1;cases h1;rfl
  have d6:(execOp a.eval ⟨dst,(cv fop args ats),ty,pos,after,guard⟩).run P w=.ok (.round b' fn tmps asg body) w:=by
   have e:(args.toList.map a.eval).toArray=args.map a.eval:=dE (by simp)
   rw[e]at h2
   simp only[execOp,aU,gh,aK,invoke,h2]
  rw[d6]
  refine⟨fun h=>(by cases h),?_⟩
  refine(h3 r).mono ?_
  rintro e w' ⟨g',x,S',k1,k2,k3,k4⟩
  cases x with
  |ret d=>
   obtain⟨v,rfl,h5⟩:=k3
   exact AA k1 _ (fX d S' k4 g' w' _ r (hr.mono k1) (hs.put (o:=⟨dst,(cv fop args ats),ty,pos,after,guard⟩) k1 k2 h5 ho))
  |panic d=>
   obtain⟨v,rfl,h5⟩:=k3
   exact⟨g',⟨γ,S',df⟩,.panic d,k1,⟨k2,hs.tmps.mono k1,hs.df.mono k1⟩,⟨v,rfl,h5⟩,f0 d S' k4⟩
end
theorem Sim.setLoop{P:Program}{g:G}{V:Sig}{w:World}(hs:Sim P g V w){l:Nat}{st st':LoopState}{pe pe':Option Code}{ps:Array Tmp}{asg body:Code}{n:Nat}{γ:Fr}{did:Nat}(hZ:V l=some (.loop st pe ps asg body n γ did)):
  ∃b r,g.rho l=some b/\(Instr.getLoop b).run P w=.ok r w/\r.state=st/\r.pending=pe/\r.params=ps/\r.assign=asg/\r.body=body/\RepT g γ n r.tmps/\r.fn<P.funcs.size /\
   ∃w',(Go.setObj b (.loop { r with state:=st',pending:=pe' })).run P w=.ok () w'/\Sim P g (V.set l (.loop st' pe' ps asg body n γ did)) w':=by
 obtain⟨b,db,fn,tmps,h1,h2,h3,h4,h5⟩:=hs.obj _ _ hZ
 refine⟨b,{ state:=st,pending:=pe,fn,tmps,params:=ps,assign:=asg,body,defers:=db },h1,?_,rfl,rfl,rfl,rfl,rfl,h4,h3,setB w b (.loop { state:=st',pending:=pe',fn,tmps,params:=ps,assign:=asg,body,defers:=db }),?_,?_⟩
 ·simp[Instr.getLoop,getObj,Sem.run,h5]
 ·simp[Go.setObj,Sem.run,h5,setB]
 ·exact hs.setAny hZ rfl rfl h1 h5 ⟨b,db,fn,tmps,h1,h2,h3,h4,Dm h5⟩
def Yg(l:Nat)(ps:Array Tmp)(asg body:Code)(n:Nat)(Sl:Fr)(did:Nat)(R:DE->Sig->Prop):DX->St->Prop
 |.normal,s=>s.V l=some (.loop .busy none ps asg body n Sl did)/\R (.ret (.bool true)) (s.V.set l (.loop .ready none ps asg body n Sl did))
 |.ret,s=>s.V l=some (.loop .busy none ps asg body n Sl did)/\R (.ret (.bool false)) (s.V.set l (.loop .done (some .ret) ps asg body n Sl did))
 |.exit id,s=>s.V l=some (.loop .busy none ps asg body n Sl did)/\R (.ret (.bool false)) (s.V.set l (.loop .done (some (.exit id)) ps asg body n Sl did))
 |.panic d,s=>s.df=[]/\R (.panic d) s.V
theorem MP{P:Program}{l:Nat}{args:fE}{V:Sig}{R:DE->Sig->Prop}{ps:Array Tmp}{asg body:Code}{n:Nat}{Sl:Fr}{did:Nat}(hZ:V l=some (.loop .ready none ps asg body n Sl did))
  (hl:ps.toList.length=args.length) (hp:∀p∈ps.toList,p<n)
  (h:DWp P (some l) n asg (Then (fun s=>s.V l=some (.loop .ready none ps asg body n Sl did)/\DWp P (some l) n body (Yg l ps asg body n Sl did R) { s with V:=s.V.set l (.loop .busy none ps asg body n Sl did) }) (fun _ _=>False)) ⟨R2 ps.toList args Sl,V,[]⟩) :
  DYield P l args V R:=by
 refine⟨fun g w vs hs ha=>?_⟩
 obtain⟨b,r,h1,h2,e1,e2,e3,e4,e5,h3,h4,_⟩:=hs.setLoop (st':=.busy) (pe':=none) hZ
 have gb:vs.length=ps.toList.length:=by rw[RepL.length ha,hl]
 refine⟨b,r.fn,(ps.toList.zip vs).foldl (fun t (x:Nat×Value)=>t.setIfInBounds x.1 x.2) r.tmps,asg,body,h1,?_,fun rr=>?_⟩
 ·unfold Instr.yield
  rw[aU,h2,aK]
  have hne:¬vs.toArray.size≠r.params.size:=by rw[e3];simpa using gb
  rw[aN hne,e3,e4,e5]
  rw[bf]
  congr 2
  rw[<-fb]
  simp
 ·refine IA (F:=FX P rr) h4 h4 ?_
  have hT:=No (ps:=ps.toList) h3 ha hl hp
  refine de (h g w { tmps:=_,defers:=[] } (some b) ⟨b,rfl,h1⟩ ⟨hs,hT,rfl⟩) ?_
  rintro e a w1 ⟨g1,s1,x,l1,l2,l3,l4⟩
  cases x with
  | normal =>
   obtain rfl:=l3
   obtain⟨m1,m2⟩:=l4
   obtain⟨b',r',k1,k2,f1,f2,f3,f4,f5,_,_,w2,k3,k4⟩:=l2.sim.setLoop (st':=.busy) (pe':=none) m1
   obtain rfl:b'=b:=by rw[l1.rho _ _ h1]at k1;cases k1;rfl
   refine⟨w2,?_,?_⟩
   ·unfold Instr.beginRound
    rw[aU,k2,aK,aU]
    have er:({ r' with state:=.busy }:Loop)={ r' with state:=.busy,pending:=none }:=by rw[<-f2]
    rw[er,k3,aK,f1]
    rfl
   ·refine de (m2 g1 w2 a (some b') ⟨b',rfl,k1⟩ ⟨k4,l2.tmps,l2.df⟩) ?_
    rintro e a' w3 ⟨g2,s2,x,n1,n2,n3,n4⟩
    have fin:∀(jump:Option Code) (st':LoopState) (bv:Bool),st'=(if jump.isNone then .ready else .done)->jump.isNone=bv->s2.V l=some (.loop .busy none ps asg body n Sl did)->R (.ret (.bool bv)) (s2.V.set l (.loop st' jump ps asg body n Sl did))->
      ∃v w',(Instr.endRound b' jump).run P w3=.ok v w'/\PJ P g R (.returned v) w':=by
     intro jump st' bv gc i0 m1 m2
     obtain⟨b2,r2,q1,q2,_,_,_,_,_,_,_,w4,q3,q4⟩:=n2.sim.setLoop (st':=st') (pe':=jump) m1
     obtain rfl:b2=b':=by rw[n1.rho _ _ k1]at q1;cases q1;rfl
     refine⟨.bool jump.isNone,w4,?_,g2,.ret (.bool bv),_,(l1.trans n1),q4,⟨_,rfl,by rw[i0];rfl⟩,m2⟩
     unfold Instr.endRound
     rw[aU,q2,aK,aU,<-gc,q3,aK]
     rfl
    cases x with
    |normal=>obtain rfl:=n3;exact fin none .ready true rfl rfl n4.1 n4.2
    |ret=>obtain rfl:=n3;exact fin (some .ret) .done false rfl rfl n4.1 n4.2
    |exit id=>obtain rfl:=n3;exact fin (some (.exit id)) .done false rfl rfl n4.1 n4.2
    |panic d=>
     obtain⟨v,rfl,hv⟩:=n3
     exact⟨FH n2.df n4.1,g2,.panic d,s2.V,l1.trans n1,n2.sim,⟨v,rfl,hv⟩,n4.2⟩
  |exit id=>exact l4.elim
  |ret=>exact l4.elim
  |panic d=>exact l4.elim
section
variable {P:Program}{n:Nat}{Q:DX->St->Prop}{γ:List (Nat×D)}{V:Sig}{df:List DDf}
theorem I0{P:Program}(o:Obj)(w:World):(newObj o).run P w=.ok w.heap.size { w with heap:=w.heap.push o }:=by
 simp[newObj,Sem.run]
theorem Sim.newObj2{g:G}{w:World}(hs:Sim P g V w){ps:Array Tmp}{asg body:Code}{fn:Nat}{tmps:Array Value}(gE:fn<P.funcs.size)(hT:RepT g γ n tmps):
  ∃did l,V did=none/\V l=none/\l≠did /\ ∃g',g.le g'/\g'.rho l=some (w.heap.size+1)/\g'.rho did=some w.heap.size /\
   Sim P g' ((V.set did .defs).set l (.loop .ready none ps asg body n γ did)) { w with heap:=(w.heap.push (.deferred (some []))).push (.loop { state:=.ready,pending:=none,fn,tmps,params:=ps,assign:=asg,body,defers:=w.heap.size }) }:=by
 obtain⟨did,hd,g6⟩:=hs.fresh
 have h1:=hs.newObj (o:=.deferred (some [])) hd g6 (d:=.defs) rfl ⟨w.heap.size,by simp[G.bind],by simp⟩
 obtain⟨l,hl,gY⟩:=h1.fresh
 have hne:l≠did:=fun e=>by rw[e]at hl;simp[G.bind]at hl
 have je:=hT.mono (G.bind_le (b:=w.heap.size) hd)
 have h2:=h1.newObj (o:=.loop { state:=.ready,pending:=none,fn,tmps,params:=ps,assign:=asg,body,defers:=w.heap.size }) hl gY (d:=.loop .ready none ps asg body n γ did) rfl
  ⟨w.heap.size+1,w.heap.size,fn,tmps,by simp[G.bind],by simp[G.bind,aQ hne],gE,je.mono (G.bind_le (b:=(w.heap.push (.deferred (some []))).size) hl),by rw[show w.heap.size+1=(w.heap.push (.deferred (some []))).size by simp];exact dn⟩
 have gJ:((g.bind did w.heap.size).bind l (w.heap.push (.deferred (some []))).size).rho l=some (w.heap.size+1):=by simp[G.bind]
 refine⟨did,l,g6,?_,hne,_,(G.bind_le hd).trans (G.bind_le hl),gJ,by simp[G.bind,aQ hne],h2⟩
 rwa [w8 _ _ hne]at gY
theorem Fj{gop:Operand}{ps:Array Tmp}{asg body:Code}{f:Nat}{first cap:fE}{R:Nat->Nat->DE->Sig->Prop}
  (hf:ev γ gop=.func (.func f) first cap)
  (gv:∀l did,V did=none->V l=none->l≠did->au P f (first++[.yld l]++cap) ((V.set did .defs).set l (.loop .ready none ps asg body n γ did)) (R l did))
  (fX : ∀ l did d S',V did=none->V l=none->l ≠ did->R l did (.ret d) S' -> ∃ st pend,S' l=some (.loop st pend ps asg body n γ did)/\st ≠ .busy /\
   (match pend with|none=>Q .normal ⟨γ,S'.del l,.coll did::df⟩|some c=>DWp P none n c Q ⟨γ,S'.del l,.coll did::df⟩))
  (f0:∀l did d S',V did=none->V l=none->l≠did->R l did (.panic d) S'->Q (.panic d) ⟨γ,S',.coll did::df⟩) :
  DWp P none n (.rangeFunc gop ps asg body) Q ⟨γ,V,df⟩:=by
 intro g w a r hr hs
 obtain rfl:r=none:=hr
 refine wpIn_rangeFunc fun fn gE=>?_
 obtain⟨did,l,hd,hl,hne,g',d8,gU,gV,fW⟩:=hs.sim.newObj2 (ps:=ps) (asg:=asg) (body:=body) (fn:=fn) gE hs.tmps
 have hc:=gv l did hd hl hne
 have fV:=Au hs.tmps gop
 rw[show ev (St.mk γ V df).γ gop=.func (.func f) first cap from hf]at fV
 obtain⟨fs,cs,fV,gJ,iI⟩:=fV
 let w1:World:={ w with heap:=(w.heap.push (.deferred (some []))).push (.loop { state:=.ready,pending:=none,fn,tmps:=a.tmps,params:=ps,assign:=asg,body,defers:=w.heap.size }) }
 refine⟨w.heap.size+1,[{ target:=.collected w.heap.size,args:= #[] }],w1,{ target:=.fn (.func f) cs.toArray,args:=fs.toArray ++ #[.func (.yield (w.heap.size+1)) #[] #[]] },w1,f,fs.toArray ++ #[.func (.yield (w.heap.size+1)) #[] #[]]++cs.toArray,w1,?_,?_,?_,?_,(fun h=>by cases h),?_⟩
 ·unfold Instr.enterLoop
  simp only[FX,aU,I0,aK,bf]
  simp only[Array.size_push]
  rfl
 ·simp only[resolve,rangeCall];rw[fV];simp only[Deferred.ofValue];rw[bf];simp[Act.eval]
 ·intro f' go
  simp only[Target.leads,bq]at go
  subst go;exact hc.lt
 ·exact hc.ent _ _
 ·have gx:RepL g' (first++[.yld l]++cap) (fs++[Value.func (.yield (w.heap.size+1)) #[] #[]]++cs):=
   ((RepL.mono d8 _ gJ).append (show RepL g' [.yld l] [.func (.yield (w.heap.size+1)) #[] #[]] from⟨_,_,rfl,⟨_,gU,rfl⟩,rfl⟩)).append (RepL.mono d8 _ iI)
  have d6:=hc.run g' w1 _ fW gx
  have e:(fs++[Value.func (.yield (w.heap.size+1)) #[] #[]]++cs).toArray=fs.toArray ++ #[Value.func (.yield (w.heap.size+1)) #[] #[]]++cs.toArray:=by simp
  rw[e]at d6
  refine CallsIn.mono d6 ?_
  rintro en w3 ⟨g3,x,S',l1,l2,l3,l4⟩
  cases x with
  |panic d=>
   obtain⟨v,rfl,hv⟩:=l3
   exact⟨g3,⟨γ,S',.coll did::df⟩,.panic d,d8.trans l1,⟨l2,(hs.tmps.mono d8).mono l1,⟨_,_,rfl,l1.rho _ _ gV,(hs.df.mono d8).mono l1⟩⟩,⟨v,rfl,hv⟩,f0 l did d S' hd hl hne l4⟩
  | ret d =>
   obtain⟨v,rfl,hv⟩:=l3
   obtain⟨st,pend,k1,k2,k3⟩:=fX l did d S' hd hl hne l4
   obtain⟨b,rr,q1,q2,q3,q4,q5,q6,q7,_,_,w4,q8,q9⟩:=l2.setLoop (st':=.exhausted) (pe':=pend) k1
   obtain rfl:b=w.heap.size+1:=by rw[l1.rho _ _ gU]at q1;cases q1;rfl
   have hS:SimS P g3 n ⟨γ,S'.del l,.coll did::df⟩ { a with defers:=[{ target:=.collected w.heap.size,args:= #[] }]++a.defers } w4:=
    ⟨q9.sub (fun j o hj=>by
     by_cases gS:j=l
     ·subst gS;simp[Sig.del]at hj
     ·rw[w8 _ _ gS];simpa[Sig.del,gS] using hj),(hs.tmps.mono d8).mono l1,⟨_,_,rfl,l1.rho _ _ gV,(hs.df.mono d8).mono l1⟩⟩
   refine⟨pend,w4,?_,?_⟩
   ·unfold Instr.endLoop
    rw[aU,q2,aK]
    have gc:(rr.state==LoopState.busy)=false:=by rw[q3];cases st<;>first|rfl|exact absurd rfl k2
    simp only[gc,bj,bd]
    rw[aU]
    have er:({ rr with state:=.exhausted }:Loop)={ rr with state:=.exhausted,pending:=pend }:=by rw[<-q4]
    rw[er,q8,aK,q4]
    rfl
   ·cases pend with
    |none=>exact⟨g3,_,.normal,d8.trans l1,hS,rfl,k3⟩
    |some c=>exact de (k3 g3 w4 _ none rfl hS) fun _ _ _ p=>p.le (d8.trans l1)
end
theorem Sim.kill{P:Program}{g:G}{V:Sig}{w:World}(hs:Sim P g V w){i b:Nat}{d:DObj}{o x:Obj}(hi:V i=some d)(ht:d.isTail=false)(hb:g.rho i=some b)(hx:w.heap[b]? = some x):Sim P g (V.del i) (setB w b o):=by
 have fL:blk g V i=some b:=by unfold blk;rw[hi];cases d<;>first|exact hb|(cases ht;done)
 have e7:=hs.free i b fL
 have gM:∀o,g.imm b o=none:=e7.2 fun o ho=>by rw[hi]at ho;cases ho;exact ht
 have gu:∀j o,V.del i j=some o->j≠i/\V j=some o:=fun j o h=>by
  by_cases hj:j=i
  ·subst hj;simp[Sig.del]at h
  ·exact⟨hj,by simpa[Sig.del,hj] using h⟩
 have fJ:=hs.sub (S':=V.del i) fun j o h=>(gu j o h).2
 exact {
  imm:=fun c o v h=>by
   have hc:c≠b:=fun e=>by rw[e,gM o]at h;cases h
   have:=hs.imm c o v h
   unfold World.cell? at this⊢
   simp only at this⊢
   rw[F3 hc];exact this
  keep:=fun k o h=>by
   have hc:k≠b:=fun e=>by rw[e,e7.1]at h;cases h
   rw[F3 hc];exact hs.keep k o h
  obj:=fun j o h=>by
   obtain⟨hj,h'⟩:=gu j o h
   exact(hs.obj j o h').setB h' fun e=>hj (hs.inj j i b e fL)
  inj:=fJ.inj,free:=fJ.free,htop:=fJ.htop,hdom:=fJ.hdom,fin:=fJ.fin,io:=fJ.io }
def dels(js:fG)(V:Sig):Sig:=js.foldl Sig.del V
theorem FP{P:Program}{r:Option Nat}{fn:Func}{tmps:Array Value}{R:Ending->World->Prop}{u:FrameMode}(hu:u≠.run): ∀(js:fG) {g:G}{V:Sig}{w:World}{ds:List Deferred},Sim P g V w->RepDf g (js.map .coll) ds->js.Nodup->(∀j∈js,V j=some .defs)->
  (∀w',Sim P g (dels js V) w'->LeavesIn (FX P r) 0 P fn tmps R [] u w')->LeavesInM (FX P r) 0 P fn tmps R ds u w
 |[],g,V,w,ds,hs,hd,_,_,h=>by
  obtain rfl:ds=[]:=hd
  exact h w hs
 | j::js,g,V,w,ds,hs,⟨b,rest,iY,hb,gg⟩,hn,hj,h=>by
  subst iY
  obtain⟨b',fN,hh⟩:=hs.obj j _ (hj j (by simp))
  obtain rfl:b'=b:=by rw[hb]at fN;cases fN;rfl
  refine⟨hu,.inl ⟨b',setB w b' (.deferred none),rfl,?_,FP hu js (hs.kill (hj j (by simp)) rfl hb hh) gg (cP.1 hn).2 (fun k hk=>?_) h⟩⟩
  ·simp[Instr.takeDeferred,getObj,setObj,Sem.run,hh,setB]
  ·have:k≠j:=fun e=>(cP.1 hn).1 (e ▸ hk)
   simp only[Sig.del,this,bd]
   exact hj k (by simp[hk])
def SK(P:Program)(n:Nat)(fn:Func)(R:DE->Sig->Prop):DX->St->Prop
 |.normal,s|.ret,s=> ∃js,s.df=js.map .coll/\js.Nodup/\(∀j∈js,s.V j=some .defs) /\ ∃d,P5 P n fn ⟨s.γ,dels js s.V,[]⟩ d/\R (.ret d) (dels js s.V)
 |.panic d,s=> ∃js,s.df=js.map .coll/\js.Nodup/\(∀j∈js,s.V j=some .defs)/\R (.panic d) (dels js s.V)
 |.exit _,_=>False
theorem Bj{P:Program}{f:Nat}{fn:Func}{c:Code}{args:fE}{V:Sig}{R:DE->Sig->Prop}(hf:P.funcs[f]? = some fn)(hb:fn.body=some c)
  (iL : (fn.name == "runtime.NumGoroutine") = false) {m : Nat} (hm : fn.ntmps = m) (hn : args.length <= m) (h : DWp P none m c (fun x s => ∃ s', Wk P m s s' /\ SK P m fn (Weak R) x s') { γ := CX 0 args, V }) : au P f args V R := by
 refine Ie ⟨(aR.1 hf).1,E0 hf iL (by rw[hb];rfl),fun g w vs hs ha=>?_⟩
 refine callsIn_of_wp_marks hf hb (by obtain⟨h1,_⟩:=aR.1 hf;exact h1) ?_ rfl
 subst hm
 refine de (h g w _ none rfl ⟨hs,Gd ha hn,rfl⟩) ?_
 rintro e a w' ⟨g',s1,x,h1,h2,h3,s2,iy,h4⟩
 obtain⟨g2,gn,fM⟩:=iy _ _ _ h2
 have g9:=h1.trans gn
 have ret:∀(js:fG),s2.df=js.map .coll->js.Nodup->(∀j∈js,s2.V j=some .defs)->(∃d,P5 P fn.ntmps fn ⟨s2.γ,dels js s2.V,[]⟩ d/\Weak R (.ret d) (dels js s2.V))->
   LeavesInM (FX P none) 0 P fn a.tmps (PJ P g (Weak R)) a.defers .returning w':=by
  intro js e1 e2 e3 ⟨d,hr,hR⟩
  have gr:=fM.df
  rw[e1]at gr
  refine FP (by simp) js fM.sim gr e2 e3 fun w3 gB=>?_
  obtain⟨v,hv,fY⟩:=hr g2 { a with defers:=[] } w3 ⟨gB,fM.tmps,rfl⟩
  exact⟨v,hv,g2,.ret d,_,g9,gB,⟨v,rfl,fY⟩,hR⟩
 cases x with
 |normal=>
  obtain rfl:=h3
  obtain⟨js,e1,e2,e3,e4⟩:=h4
  exact ret js e1 e2 e3 e4
 |ret=>
  obtain rfl:=h3
  obtain⟨js,e1,e2,e3,e4⟩:=h4
  exact ret js e1 e2 e3 e4
 |panic d=>
  obtain⟨v,rfl,fY⟩:=h3
  obtain⟨js,e1,e2,e3,hR⟩:=h4
  have gr:=fM.df
  rw[e1]at gr
  refine FP (by simp) js fM.sim gr e2 e3 fun w3 gB=>?_
  exact⟨g2,.panic d,_,g9,gB,⟨v,rfl,Rep.mono gn _ fY⟩,hR⟩
 |exit i=>exact h4.elim
end Go.DL
