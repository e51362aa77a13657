/- A part of the proof. -/
import Derived.Test.YtlfimpogphmbdaaGreatH06
import Derived.Laws.StructEq
import Derived.Laws.IdiomCopy
import Derived.Laws.IdiomStrings
import Derived.RangeFuncLeaves
set_option linter.all false
namespace Go.DL
open Go
def eqD1:TyK->D->D->Option Bool
 |.int _,.int k a,.int k' b=>if k=k' then some (decide (a=b)) else none
 |.str,.str a,.str b=>some (decide (a=b))
 |.bool,.bool a,.bool b=>some (decide (a=b))
 |_,_,_=>none
@[simp] theorem eqD1_i(q k:IntKind)(a b:Int):eqD1 (.int q) (.int k a) (.int k b)=some (decide (a=b)):=by simp[eqD1]
@[simp] theorem eqD1_s(a b:List UInt8):eqD1 .str (.str a) (.str b)=some (decide (a=b)):=rfl
@[simp] theorem eqD1_b(a b:Bool):eqD1 .bool (.bool a) (.bool b)=some (decide (a=b)):=rfl
@[simp] def eqFs (tab:Nat->Ty) (xs ys:fQ):List (Nat × Nat)->Option Bool
 |[]=>some true
 | (off,ft)::fs=>match A5 (tab ft).k || (tab ft).agg with
  |true=>none
  | false=>match Nd (tab ft) xs off,Nd (tab ft) ys off with
   |some a,some b=>match eqD1 (tab ft).k a b,eqFs tab xs ys fs with
    |some r,some q=>some (r&&q)
    |_,_=>none
   |_,_=>none
def EqTy (P : Program) (t : Nat) : Prop := P.eqGuardType P.depth t = false /\ P.stoodInHeld t = false /\ (P.fieldsOf t).toList.all (fun f => !(f.name == "_")) = true
section
variable {P:Program}{tab:Nat->Ty}(ht:BC P tab){g:G}{w:World}
include ht
theorem Xe{t d:Nat}{a b:D}{r:Bool}{u v:Value}(hk:A5 (tab t).k=false)(h:eqD1 (tab t).k a b=some r)(hu:Rep g a u)(hv:Rep g b v):(Op.equalIn (d+1) t u v).run P w=.ok r w:=by
 have f0:=ht t;unfold eqD1 at h;split at h<;>(try (cases h;done))
 ·rename_i q k x k' y hq;split at h<;>(try (cases h;done));rename_i gY;cases h;subst gY;rw[BU hu,BU hv];unfold TyOK at f0;rw[hq]at f0;obtain⟨_,desc,_,_,h2,h3,_⟩:=f0;cases desc<;>simp only[KOK]at h3<;>(try (exact h3.elim));rw[run_equalIn_int w d t k _ x y h2,EX]
 ·rename_i x y hq;cases h;rw[Gf hu,Gf hv];unfold TyOK at f0;rw[hq]at f0;obtain⟨_,desc,_,_,h2,h3,_⟩:=f0;cases desc<;>simp only[KOK]at h3<;>(try (exact h3.elim));rw[run_equalIn_string w d t _ _ h2];simp[ByteArray.toList_eq,EX]
 ·rename_i x y hq;cases h;rw[HW hu,HW hv];unfold TyOK at f0;rw[hq]at f0;obtain⟨_,desc,_,_,h2,h3,_⟩:=f0;cases desc<;>simp only[KOK]at h3<;>(try (exact h3.elim));rw[run_equalIn_bool' w d t x y h2,EX]
theorem Kb{t:Nat}{cs:fQ}{off:Nat}{d:D}{vs:List Value}(hk:A5 (tab t).k=false)(ha:(tab t).agg=false)(h:Nd (tab t) cs off=some d)(hr:kI g cs vs):
  ∃v,(part t vs.toArray off).run P w=.ok v w/\Rep g d v:=by
 unfold Nd at h;rw[ha]at h;simp only[bz,bl]at h;have hl:=kI.length hr
 have iG:off<cs.length:=by
  rcases cF off cs.length with h'|h'
  ·exact h'
  ·rw[bW h']at h;cases h
 have hv:vs[off]? = some vs[off]:=aT k0;refine⟨vs[off],?_,?_⟩
 ·unfold part;simp only[bb,K7 (ht t) (Aj hk),aU,ha,bz,bl,du,hv,bp]
 ·have:=kI.get hr off;rw[h,hv]at this;exact this
theorem PC {d : Nat} {xs ys : fQ} {us vs : List Value} (hx : kI g xs us) (hy : kI g ys vs) : ∀ {fs : List Field} {r : Bool}, fs.all (fun f => !(f.name == "_")) = true -> eqFs tab xs ys (fs.map fun f => (f.offset, f.type)) = some r ->
  (Op.eqFields (d+1) us.toArray vs.toArray fs).run P w=.ok r w
 |[],r,_,h=>by simp only[cq,eqFs]at h;cases h;simp[Op.eqFields]
 | f::fs,r,hn,h=>by
  simp only[bU,aN]at hn;simp only[bg,eqFs]at h;split at h<;>(try (cases h;done));rename_i gY;simp only[dZ]at gY;obtain⟨hk,iZ⟩:=gY;split at h<;>(try (cases h;done));rename_i a b ha hb;split at h<;>(try (cases h;done));rename_i r1 q h1 h2;cases h;obtain⟨u,jh,jg⟩:=Kb ht (w:=w) hk iZ ha hx;obtain⟨v,jf,je⟩:=Kb ht (w:=w) hk iZ hb hy;have jn : f.name ≠ "_" := by simpa using hn.1
  simp only[Op.eqFields,jn,ne_eq,not_false_eq_true,bI,bb,jh,jf,aU,Xe ht hk h1 jg je];cases r1
  ·simp
  ·simp only[cQ,bz,bl,bd];exact PC hx hy hn.2 h2
theorem eqS_run{T:Nat}{fs:List (Nat×Nat)}{xs ys:fQ}{r:Bool}{us vs:List Value}(hE:EqTy P T)(hk:(tab T).k=.struct fs)(h:eqFs tab xs ys fs=some r)(hx:kI g xs us)(hy:kI g ys vs):
  (Op.equalIn 10000 T (.agg us.toArray) (.agg vs.toArray)).run P w=.ok r w:=by
 obtain⟨h1,h2,h3⟩:=hE;have f0:=ht T;unfold TyOK at f0;rw[hk]at f0;obtain⟨_,desc,_,_,h4,h5,_⟩:=f0;cases desc<;>simp only[KOK]at h5<;>(try (exact h5.elim));rename_i fl _;have hf:P.fieldsOf T=fl:=by unfold Program.fieldsOf;rw[h4]
 rw[run_equalIn_agg w 9999 T us.toArray vs.toArray (by rw[h4,hf]) h2,hf];rw[hf]at h3;rw[<-h5]at h;exact PC (d:=9998) ht hx hy h3 h
theorem Zk{V:Sig}(hs:Sim P g V w){T u:Nat}{fs:List (Nat×Nat)}{xs ys:fQ}{r:Bool}{x y:Operand}{dst:Option Tmp}{ty:TypeId}{pos:String}{after:Array Edge}{guard:Option (Nat×Bool)}{γ:Fr}{n:Nat}{a:Act}(hT:lF g γ n a.tmps)
  (hE:EqTy P T) (hk:(tab T).k=.struct fs) (hx:ev γ x=.agg xs) (hy:ev γ y=.agg ys) (h:eqFs tab xs ys fs=some r) (neg:Bool) :
  ORun P g V (.bool (neg != r)) (execOp a.eval ⟨dst,.binOp (match neg with|true=>.neq|false=>.eql) T x y u,ty,pos,after,guard⟩) w:=by
 have h1:=Az hT x;have h2:=Az hT y;rw[hx]at h1;rw[hy]at h2;obtain⟨us,e1,r1⟩:=h1;obtain⟨vs,e2,r2⟩:=h2;have d7:=eqS_run ht (w:=w) hE hk h r1 r2;refine⟨g,w,.bool (neg != r),?_,.refl g,hs,rfl⟩;have hg:∀o,(eqGuard o T x y (.agg us.toArray) (.agg vs.toArray)).run P w=.ok () w:=fun o=>run_eqGuard_agg w o T x y _ _ hE.1;simp only[execOp,bb,e1,e2,hg,aU];cases neg
 ·simp only[run_eql_struct,d7,aU];cases r<;>rfl
 ·simp only[run_neq_struct,d7,aU];cases r<;>rfl
end
section
variable {P:Program}{ro:Option Nat}{n:Nat}{ops:Array Oper}{N:Nat}{S0:Sig}{Q:DX->St->Prop}{df:List DDf}{rest:List Oper}{γ Sr:List (Nat×D)}{V:Sig}{t:Nat}{ty:TypeId}{pos:String}{after:Array Edge}{l:List (Bool×Oper)}{e:Bool}
theorem Qp{tab:Nat->Ty}(ht:BC P tab){T u:Nat}{x y:Operand}{fs:List (Nat×Nat)}{xs ys:fQ}{r:Bool}(hE:EqTy P T)(f8:decide (t<n)=true)(hl:A7 γ (Ac [x,y])=some Sr)(hx:ev Sr x=.agg xs)(hy:ev Sr y=.agg ys)(hk:(tab T).k=.struct fs)(hd:eqFs tab xs ys fs=some r)
  (h:MO P ro n ops N S0 Q df l ((t,.bool (!r))::γ) V):MO P ro n ops N S0 Q df ((e,⟨some t,.binOp .neq T x y u,ty,pos,after,none⟩)::l) γ V:=by
 have hc:∀z∈[x,y],ev Sr z=ev γ z:=fun z hz=>CA fun t ht=>Be hl t (BE (by rw[<-ht];exact hz))
 have iQ:∀z∈[x,y],ev (only (Oper.looksAt ops ⟨some t,.binOp .neq T x y u,ty,pos,after,none⟩) γ) z=ev γ z:=fun z hz=>Cw (o:=⟨some t,.binOp .neq T x y u,ty,pos,after,none⟩) (by simp at hz;rcases hz with rfl|rfl<;>simp[Op.operands])
 refine .inl ⟨.bool (!r),⟨f8,.inl ⟨rfl,(fun c e=>by cases e),Ah (fun c e=>by cases e),fun U' hZ g w a hs hT=>?_⟩⟩,h⟩;have:=Zk (dst:=some t) (ty:=ty) (pos:=pos) (after:=after) (guard:=none) (u:=u) ht hs hT hE hk (by rw[iQ x k7,<-hc x k7];exact hx) (by rw[iQ y k7,<-hc y k7];exact hy) hd true;simpa using this
end
abbrev MR:=Option (Nat×Nat×fQ)
def mD:MR->Nat->D
 |none,_=>.av
 |some (i,cap,_),n=>.ax i 0 n cap
def mS(V:Sig):MR->fV->Sig
 |none,_=>V
 |some (i,_,rest),es=>V.set i (.cells (es.flatten++rest))
def mOK(V:Sig)(sz:Nat):MR->fV->Prop
 |none,es=>es=[]
 |some (i,cap,rest),es=>V i=none/\(es.flatten++rest).length=cap*sz/\es.length<=cap /\ ∀e∈es,e.length=sz
def mOK.len{V:Sig}{sz:Nat}{st:MR}{es:fV}(h:mOK V sz st es): ∀e∈es,e.length=sz:=by
 cases st with
 |none=>obtain rfl:es=[]:=h;simp
 |some x=>exact h.2.2.2
def DT{sz:Nat}: ∀{es:fV},(∀e∈es,e.length=sz)->es.flatten.length=es.length*sz
 |[],_=>by simp
 |e::es,h=>by
  have:=DT (es:=es) fun x hx=>h x (by simp[hx])
  simp only[cT,aO,aV,cK,this,h e k7];omega
def Sub.setD{a b:Sig}{i j:Nat}{o x:kM}(h:Sub a b)(hi:a i=Option.none)(jM:i≠j):Sub (a.set j o) ((b.set i x).set j o):=fun k y hk=>by
 by_cases h1:k=j
 ·subst h1;rw[w7]at hk⊢; exact hk
 ·rw[w8 _ _ h1]at hk⊢;rw[w8 _ _ fun e=>by rw[e,hi]at hk;cases hk];exact h k y hk
section
variable {P:Program}{ro:Option Nat}{n:Nat}{ops:Array Oper}{Q:DX->St->Prop}{rest:List Oper}{tab:Nat->Ty}{γ:List (Nat×D)}{V:Sig}{df:List DDf}
theorem EL{o:Oper}(R:D->Sig->Prop)(hw:AY ops γ o=some true)(jq:∀c,o.op≠.defer c)(jG:∀(w:World) (ρ:Operand->Value) f,o.about P w ρ=some f->False)(ho:AJ n o=true)
  (hr:∀g w (a:Act),Sim P g V w->lF g γ n a.tmps->∃g' w' v d U',(execOp a.eval o).run P w=.ok (.value v) w'/\g.le g'/\Sim P g' U' w'/\Rep g' d v/\R d U')
  (h:∀d U',R d U'->aC P ro n ops Q rest ⟨putD o.dst d γ,U',df⟩):aC P ro n ops Q (o::rest) ⟨γ,V,df⟩:=by
 intro g w a r ji hs;unfold wpListIn;rw[B0 hs.tmps hw,aS rfl];refine⟨fun f hf=>(jG _ _ f hf).elim,?_⟩;obtain⟨g',w',v,d,U',h1,h2,h3,h4,h5⟩:=hr g w a hs.sim hs.tmps;rw[cW _ _ _ jq,h1];exact AF h2 _ (h d U' h5 _ _ _ r (ji.mono h2) (hs.put h2 h3 h4 ho))
theorem Sim.drew{g:G}{w:World}(hs:Sim P g V w):Sim P g V w.drew:=
 ⟨hs.imm,hs.keep,fun i o h=>by have:=hs.obj i o h;cases o<;>exact this,hs.inj,hs.free,hs.htop,hs.hdom,hs.fin,hs.io⟩
theorem R8{g:G}{i b len cap:Nat}(h:g.rho i=some b):Rep g (.ax i 0 len cap) (.slice (some ⟨b,0,none⟩) len cap):=⟨b,h,rfl⟩
theorem Qm{g:G}{w:World}{sz:Nat}{st:MR}{es:fV}{v:Value}(hs:Sim P g (mS V st es) w)(hm:mOK V sz st es)(hv:Rep g (mD st es.length) v):
  ∃a cap,v=.slice a es.length cap/\es.length<=cap /\ ∃us,kI g es.flatten us/\us.length=es.length*sz/\(es.length=0 \/ ∃b o,a=some ⟨b,o,none⟩ /\ ∀j v,us[j]? = some v->w.cell? ⟨b,o+j,none⟩=some v):=by
 cases st with
 |none=>
  obtain rfl:es=[]:=hm;exact⟨none,0,hv,k7,[],rfl,k7,.inl rfl⟩
 |some x=>
  obtain⟨i,cap,rest⟩:=x;obtain⟨h1,h2,h3,h4⟩:=hm;obtain⟨b,hb,hv⟩:=hv;obtain⟨b',vs,ty,e8,d6,hr⟩:=hs.obj i _ (w7 ..);obtain rfl:b'=b:=by rw[hb]at e8;cases e8;rfl
  obtain⟨u,v',e1,e2,e3⟩:=hr.split;refine⟨_,cap,hv,h3,u,e2,by rw[kI.length e2,DT h4],.inr ⟨b',0,rfl,fun j x hx=>?_⟩⟩;have:j<u.length:=(bC.1 hx).1;simp only[World.cell?, d6,bZ];have:vs.toList[j]? = some x:=by rw[e1,bK this];exact hx
  simpa using this
variable (ht:BC P tab)
include ht
theorem KX{t T T' ty e e' sz:Nat}{s x:Operand}{pos:String}{after:Array Edge}{es new:fV}{st:MR}
  (f8:t<n) (hk:(tab T).k=.slice e) (iH:(tab T').k=.slice e') (he:A5 (tab e).k=false) (gr:(tab e).size=sz) (h1:ev γ s=mD st es.length) (hm:mOK V sz st es) (h2:kz (ev γ x)=some new)
  (hlen':∀c∈new,c.length=sz) (gI:∀c∈new,Dq c=true)
  (hb:(es.length+new.length)*(tab e).bytes<=140737488355328) (ju:es.length+new.length<=9223372036854775807)
  (h:∀st',mOK V sz st' (es++new)->aC P ro n ops Q rest ⟨(t,mD st' (es++new).length)::γ,mS V st' (es++new),df⟩) :
  aC P ro n ops Q (⟨some t,(cA s x T T'),ty,pos,after,none⟩::rest) ⟨γ,mS V st es,df⟩:=by
 subst gr
 refine EL (fun d U'=> ∃st',mOK V (tab e).size st' (es++new)/\d=mD st' (es++new).length/\U'=mS V st' (es++new)) rfl (fun c e=>by cases e) (Cn rfl rfl) (by simp[AJ,f8]) ?_
  (fun d U' ⟨st',a1,a2,a3⟩=>by subst a2 a3;exact h st' a1)
 intro g w a hs hT;have gu:=Az hT s;have gG:=Az hT x;rw[h1]at gu;obtain⟨base,cap,r1,r2,us,r3,r4,r5⟩:=Qm hs hm gu;obtain⟨xa,xc,q1,q2,q3⟩:=D8 h2 gG;obtain⟨news,v1,v2,v3⟩:=Df hs hlen' q3;obtain⟨inf,z,t1,t2,t3,t4,t5,t6,t7⟩:=Ch ht hk iH he;have gM:=hm.len;have gh:∀c∈es++new,c.length=(tab e).size:=fun c hc=>(bi.1 hc).elim (gM c) (hlen' c)
 by_cases fX:es.length+new.length<=cap
 ·
  cases st with
  | none =>
   obtain rfl:es=[]:=hm
   obtain⟨rfl,rfl⟩:base=none/\cap=0:=by
    have e1:a.eval s=.slice none 0 0:=gu;rw[e1]at r1;injection r1 with f1 f2 f3;exact⟨f1.symm,f3.symm⟩
   have jt:new.length=0:=by simpa using fX
   have jr:new=[]:=bH.1 jt;subst jr;have jp:news=[]:=bH.1 (by rw[v2];simp);refine⟨g,w,.slice none 0 0,.av,V,By ?_,.refl g,hs,rfl,none,rfl,rfl,rfl⟩;rw[r1,q1];have:=Cr (ty:=ty) t1 t2 t3 (w:=w) (w2:=w) (base:=none) (xa:=xa) (n:=0) (cap:=0) (m:=0) (xc:=xc) (news:=[]) (AX k7 (.inl rfl)) k0 (fun b hb=>by cases hb) (fun _=>rfl);simpa using this
  | some y =>
   obtain⟨i,cap',rest'⟩:=y;obtain⟨m1,m2,m3,m4⟩:=hm;obtain⟨b,e8,hv⟩:=gu;rw[hv]at r1;injection r1 with f1 f2 f3;subst f3;subst f1;obtain⟨b2,vs,ty',gV,d6,hr⟩:=hs.obj i _ (w7 ..);obtain rfl:b2=b:=by rw[e8]at gV;cases gV;rfl
   have gE:=kI.length hr;simp only[bY]at gE;have jO:=DT m4;have g7:=DT hlen';have jp:=kI.length v1;simp only[aO]at m2 gE;have iD:(es.length+new.length)*(tab e).size<=cap'*(tab e).size:=dG _ fX;rw[cK]at iD;have gv:=D1 (P:=P) news 0 w vs d6 (Ex v1 (Jd gI)) (o:=es.length*(tab e).size) k0
   have d7:=Cr (ty:=ty) t1 t2 t3 (w:=w) (base:=some ⟨b2,0,none⟩) (xa:=xa) (n:=es.length) (cap:=cap') (m:=new.length) (xc:=xc) (news:=news) (w2:=if news=[] then w else setB w b2 (.cells (Cy vs (0+es.length*(tab e).size) news) ty' (0,0)))
    (AX (by rw[t5];exact v2) v3) fX (fun a ha=>by cases ha;rw[Cm,t5];simpa using gv) (fun h=>by cases h)
   have iB:kI g (es.flatten++(new.flatten++rest'.drop (new.length*(tab e).size))) (Cy vs (0+es.length*(tab e).size) news).toList:=by
    refine Bs (by simp only[aO,ey,bY,Eo];omega) fun j d v h1 h2=>?_
    have d8:(Cy vs (0+es.length*(tab e).size) news)[j]? = some v:=by simpa using h2
    rw[EZ _ _ _ _ k0]at d8;simp only[di]at h1;have hg:=kI.get hr j
    by_cases c1:j<es.flatten.length
    ·rw[aQ k0]at d8;rw[aS c1]at h1;rw[bK c1,h1]at hg;simp only[cD,d8,ca]at hg;exact hg
    ·rw[aQ c1]at h1
     by_cases c2:j-es.flatten.length<new.flatten.length
     ·rw[aS k0]at d8;rw[aS c2]at h1;have:=kI.get v1 (j-es.flatten.length);rw[h1,show j-es.flatten.length=j-(0+es.length*(tab e).size) by omega,d8]at this;exact this
     ·rw[aQ k0]at d8;rw[aQ c2,dc]at h1;rw[bP k0,show j-es.flatten.length=new.length*(tab e).size+(j-es.flatten.length-new.flatten.length) by omega,h1]at hg;simp only[cD,d8,ca]at hg;exact hg
   refine⟨g,_,.slice (some ⟨b2,0,none⟩) (es.length+new.length) cap',mD (some (i,cap',rest'.drop (new.length*(tab e).size))) (es++new).length,_,By (by rw[hv,q1];exact d7),.refl g,?_,?_,some (i,cap',rest'.drop (new.length*(tab e).size)),⟨m1,?_,by simpa using fX,gh⟩,rfl,rfl⟩
   ·have gg:=hs.setObj (i:=i) (b:=b2) (ds':=es.flatten++(new.flatten++rest'.drop (new.length*(tab e).size))) (vs':=Cy vs (0+es.length*(tab e).size) news) (ty:=ty') (w7 ..) e8 iB ⟨vs,d6⟩;simp only[mS,w9]at gg;have e1:es.flatten++(new.flatten++rest'.drop (new.length*(tab e).size))=(es++new).flatten++rest'.drop (new.length*(tab e).size):=by simp
    rw[e1]at gg
    by_cases hne:news=[]
    ·rw[aS hne];subst hne
     have jd:setB w b2 (.cells (Cy vs (0+es.length*(tab e).size) []) ty' (0,0))=w:=by
      obtain⟨iG,iK⟩:=aX.1 d6
      have e:w.heap.setIfInBounds b2 (.cells vs ty' (0,0))=w.heap:=by
       apply Array.ext k7;intro k h1 h2;by_cases hk:b2=k
       ·subst hk;simp[iK]
       ·rw[fG _ hk]
      show { w with heap:=w.heap.setIfInBounds b2 (.cells vs ty' (0,0)) }=w;rw[e]
     rw[jd]at gg;exact gg
    ·rw[aQ hne];exact gg
   ·rw[mD,aO];exact R8 e8
   ·simp only[ee,aO,ey];omega
 ·
  obtain⟨c,hc,d7⟩:=Ge (ty:=ty) t1 t2 t3 t4 (w:=w) (base:=base) (xa:=xa) (n:=es.length) (cap:=cap) (m:=new.length) (xc:=xc) (olds:=us) (news:=news)
   (AX (by rw[t5];exact r4) r5) (AX (by rw[t5];exact v2) v3) k0 ju (by rw[t6];exact hb)
  obtain⟨i',gZ,gJ⟩:=hs.fresh
  let zs:=(Builtin.zeroCells z.cells (c-(es.length+new.length))).toList
  have iq:kI (g.bind i' w.heap.size) ((es++new).flatten++zs.map Cu) (us++news++zs):=by
   rw[ee];exact((kI.mono (G.bind_le gZ) _ r3).append (kI.mono (G.bind_le gZ) _ v1)).append (EG _ _)
  have iz:lM P (g.bind i' w.drew.heap.size) { w.drew with heap:=w.drew.heap.push (.cells (us++news++zs).toArray e (0,0)) } i' (.cells ((es++new).flatten++zs.map Cu)):=
   ⟨w.drew.heap.size,(us++news++zs).toArray,e,by simp[G.bind],by exact dL,by simpa using iq⟩
  have e7:=hs.drew.newObj gZ gJ rfl iz
  have jH:V i'=none:=by
   cases st with
   |none=>exact gJ
   |some y=>
    obtain⟨i,cap',rest'⟩:=y;simp only[mS]at gJ;exact(set_none' gJ).2
  refine⟨_,_,_,mD (some (i',c,zs.map Cu)) (es++new).length,_,By (by rw[r1,q1];exact d7),G.bind_le gZ,e7.sub (U':=mS V (some (i',c,zs.map Cu)) (es++new)) ?_,?_,some (i',c,zs.map Cu),⟨jH,?_,by simpa using hc,gh⟩,rfl,rfl⟩
  ·cases st with
   |none=>exact Sub.refl _
   |some y=>
    obtain⟨i,cap',rest'⟩:=y;simp only[mS]at gJ⊢;exact(Sub.refl V).setD hm.1 fun e=>(set_none' gJ).1 e.symm
  ·rw[mD,aO];exact R8 (by simp[G.bind])
  ·have hz:zs.length=(c-(es.length+new.length))*(tab e).size:=by simp[zs,size_zeroCells,t7]
   simp only[aO,aY,hz,DT gh,<-cK]
   congr 1;omega
where
 set_none' {V:Sig}{i j:Nat}{o:kM} (h:V.set i o j=none):j≠i/\V j=none:=by
  by_cases hj:j=i
  ·subst hj;rw[w7]at h;cases h
  ·rw[w8 _ _ hj]at h;exact⟨hj,h⟩
omit ht in
theorem OB{zs:Array Value}{sz:Nat}(hz:zs.size=sz)(h0:0<sz): ∀k:Nat,((List.range (k*sz)).map fun j=>zs[j % zs.size]!)=(List.replicate k zs.toList).flatten
 |0=>by simp
 |k+1=>by
  rw[List.replicate_succ',ee,<-OB hz h0 k,cK,eK,List.range_add,bL]
  congr 1
  simp only[cr,cT,eU,br];apply List.ext_getElem (by simp[hz]);intro j h1 h2;have hj:j<sz:=by simpa using h1
  simp only[dh,Function.comp,List.getElem_range,hz,Array.getElem_toList];rw[Nat.mul_comm,Nat.mul_add_mod,eO hj,getElem!_pos zs j k0]
theorem TV{t T ty e k sz c:Nat}{l m:Operand}{pos:String}{after:Array Edge}{z:fQ}
  (f8:t<n) (hk:(tab T).k=.slice e) (he:A5 (tab e).k=false) (gr:(tab e).size=sz) (h0:0<sz) (hz:(tab e).zero=z)
  (h1:ev γ l=.int .i64 k) (h2:ev γ m=.int .i64 c) (jw:k<=c) (hb:c*(tab e).bytes<=140737488355328) (hm:c<=9223372036854775807)
  (h:∀i,V i=none->mOK V sz (some (i,c,(List.replicate (c-k) z).flatten)) (List.replicate k z)->aC P ro n ops Q rest ⟨(t,.ax i 0 k c)::γ,mS V (some (i,c,(List.replicate (c-k) z).flatten)) (List.replicate k z),df⟩) :
  aC P ro n ops Q (⟨some t,.makeSlice T l m,ty,pos,after,none⟩::rest) ⟨γ,V,df⟩:=by
 subst gr hz;obtain⟨inf,z,t1,t2,t3,t4,t5,t6,t7⟩:=Ch ht hk hk he;obtain⟨z',hz,jK,jJ⟩:=E8 (ht e) (Aj he) (default:World)
 have ja:(tab e).zero.length=(tab e).size:=by
  obtain⟨_,_,_,_,_,_,_,_,_,_,h8,_⟩:=Db (ht e) (Aj he);exact h8
 have gI:(List.replicate k (tab e).zero).flatten++(List.replicate (c-k) (tab e).zero).flatten=(List.replicate c (tab e).zero).flatten:=by
  rw[<-ee,fD];congr 2;omega
 have iy:∀i,V i=none->mOK V (tab e).size (some (i,c,(List.replicate (c-k) (tab e).zero).flatten)) (List.replicate k (tab e).zero):=by
  intro i hi;have hl:∀(m:Nat), ∀x∈List.replicate m (tab e).zero,x.length=(tab e).size:=fun m x hx=>by rw[dK hx,ja]
  refine⟨hi,?_,by simpa using jw,hl k⟩;rw[gI,DT (hl c),bB]
 refine In (mk:=fun i=>.ax i 0 k c) (d:=.cells ((List.replicate k (tab e).zero).flatten++(List.replicate (c-k) (tab e).zero).flatten)) rfl (fun c e=>by cases e) (Ah fun c e=>by cases e) (by simp[AJ,f8]) rfl ?_
  (fun i hi=>h i hi (iy i hi))
 intro g w a hs hT;have gE:=Az hT l;have iR:=Az hT m;rw[h1]at gE;rw[h2]at iR;have iF:a.eval l=.int .i64 (k:Int):=gE;have iC:a.eval m=.int .i64 (c:Int):=iR;obtain⟨z'',jb,ij,g8⟩:=E8 (ht e) (Aj he) w
 let cs:Array Value:=(Array.range (c*(tab e).size)).map (z''.cells[· % z''.cells.size]!)
 refine⟨.cells cs e,.slice (some ⟨w.heap.size,0,none⟩) k c,?_,fun i hi=>⟨⟨w.heap.size,cs,e,by simp[G.bind],k7,?_⟩,w.heap.size,by simp[G.bind],rfl⟩⟩
 ·have w1:IntKind.i64.wrap (k:Int)=k:=Aq k0 k0;have w2:IntKind.i64.wrap (c:Int)=c:=Aq k0 k0;have jQ:((tab e).bytes:Int)*(c:Int)<=140737488355328:=by rw[Int.mul_comm,<-Int.natCast_mul];omega
  have c1:¬(281474976710656<((tab e).bytes:Int)*(c:Int)):=by omega
  have c2:¬((c:Int)<0):=by omega
  have c3:¬((k:Int)<0):=by omega
  have c4:¬((c:Int)<(k:Int)):=by omega
  unfold execOp Instr.makeSlice;simp only[iF,iC,bb,A2 t1,aU,asInt,asIntOf,bp,run_program,typeInfo,t3,w1,w2,t6];have d1:decide ((c:Int)<0)=false:=by simp
  have d2:decide ((tab e).bytes*(c:Int)>2 ^ 48)=false:=by simp;omega
  have d3:decide ((k:Int)<0)=false:=by simp
  have d4:decide ((k:Int)>c)=false:=by simp;omega
  simp only[d1,d2,d3,d4,Bool.or_false,bz,bl,run_askRoom,bb,aU,Bh (ht e) (Aj he),el]
  by_cases iL:c*(tab e).size=0
  ·have jB:cs=#[]:=by simp[cs,iL]
   have jm:Array.map (fun (x:Nat)=>(default:Value)) (Array.range 0)=#[]:=by simp
   simp[iL,DF,jB];exact cf (fun (z:Array Value)=>w.alloc (Obj.cells z e)) jm
  ·simp[iL,jb,DF,cs]
 ·rw[gI]
  have e1:cs.toList=(List.replicate c z''.cells.toList).flatten:=by
   simp only[cs,Array.toList_map,Array.toList_range];exact OB g8 h0 c
  rw[e1,ij]
  have:(List.replicate c (z''.cells.toList.map Cu)).flatten=((List.replicate c z''.cells.toList).flatten).map Cu:=by
   rw[List.map_flatten,List.map_replicate]
  rw[this];exact EG _ _
omit ht in
theorem Sim.freeze{g:G}{w:World}(gb:Sim P g V w){i b:Nat}{ds:fQ}(hi:V i=some (.cells ds))(hb:g.rho i=some b): ∃g',g.le g'/\Sim P g' (V.del i) w/\kx g' b 0 ds:=by
 obtain⟨b',vs,ty,e8,d6,hr⟩:=gb.obj i _ hi;obtain rfl:b'=b:=by rw[hb]at e8;cases e8;rfl
 have gc:blk g V i=some b':=by simp[blk,hi,hb]
 have fY:=gb.free i b' gc;have iA:∀o,g.imm b' o=none:=fY.2 fun o ho=>by rw[hi]at ho;cases ho;rfl
 have d9:g.le (g.addImm b' vs.toList):=
  {imm:=fun c o v h=>by
    simp only[G.addImm]
    by_cases hc:c=b'
    ·rw[hc,iA o]at h;cases h
    ·rw[aQ hc];exact h
   rho:=fun _ _ h=>h,hist:=fun _ _ _ h=>h,keep:=fun _ _ h=>h,io:=rfl }
 have gk:∀j c,blk (g.addImm b' vs.toList) (V.del i) j=some c->j≠i/\blk g V j=some c:=by
  intro j c h
  by_cases hj:j=i
  ·subst hj;simp[blk,Sig.del]at h
  ·refine⟨hj,?_⟩;unfold blk at h⊢;simp only[Sig.del,hj,bl]at h;exact h
 refine⟨g.addImm b' vs.toList,d9,?_,Hm hr d9⟩
 exact {
   imm:=fun c o v h=>by
    simp only[G.addImm]at h
    by_cases hc:c=b'
    ·rw[aS hc]at h
     subst hc
     simp only[World.cell?, d6]
     simpa using h
    ·rw[aQ hc]at h;exact gb.imm c o v h
   keep:=gb.keep
   obj:=fun j o h=>by
    have hj:j≠i:=fun e=>by rw[e]at h;simp[Sig.del]at h
    simp only[Sig.del,hj,bl]at h
    refine(gb.obj j o h).mono d9 ?_
    intro sz m c o' cap e1 e2 e3 k _ hk
    simp only[G.addImm]
    by_cases hc:c=b'
    ·exfalso
     subst hc
     exact hj (gb.inj j i c (by rw[e1]at h;simp[blk,h,e2]) gc)
    ·rw[aQ hc];exact hk
   inj:=fun j k c h1 h2=>gb.inj j k c (gk j c h1).2 (gk k c h2).2
   free:=fun j c h=>by
    obtain⟨hj,h'⟩:=gk j c h
    obtain⟨h1,h2⟩:=gb.free j c h'
    refine⟨h1,fun hh o=>?_⟩
    have hc:c≠b':=fun e=>hj (gb.inj j i b' (e ▸ h') gc)
    simp only[G.addImm];rw[aQ hc]
    exact h2 (fun x hx=>hh x (by simp only[Sig.del,hj,bl];exact hx)) o
   htop:=fun j sz n k h hk=>by
    have hj:j≠i:=fun e=>by rw[e]at h;simp[Sig.del]at h
    simp only[Sig.del,hj,bl]at h
    exact gb.htop j sz n k h hk
   hdom:=gb.hdom
   io:=gb.io
   fin:=gb.fin }
omit ht in
theorem Ol{g:G}{b:Nat}: ∀{a c:fQ}{o:Nat},kx g b o (a++c)->kx g b o a
 |[],_,_,_=>trivial
 |_::_,_,_,⟨h1,h2⟩=>⟨h1,Ol h2⟩
omit ht in
theorem LG{g:G}{b:Nat}: ∀{a c:fQ}{o:Nat},kx g b o (a++c)->kx g b (o+a.length) c
 |[],_,_,h=>by simpa using h
 |x::a,_,o,⟨_,h2⟩=>by have:=LG h2;rwa [aV,fB a.length 1,<-cZ]
omit ht in
theorem GJ{g:G}{b sz:Nat}: ∀{es:fV}{o:Nat}{r:fQ},(∀e∈es,e.length=sz)->kx g b o (es.flatten++r)->kl g b sz o es
 |[],_,_,_,_=>trivial
 |e::es,o,r,h,h2=>by
  rw[cT,bc]at h2;refine⟨⟨h e k7,Ol h2⟩,?_⟩;have:=LG h2;rw[h e k7]at this;exact GJ (fun x hx=>h x (by simp[hx])) this
omit ht in
theorem Lt{t sz:Nat}{st:MR}{es:fV}(hm:mOK V sz st es)(hg:getD γ t=mD st es.length):Wk P n ⟨γ,mS V st es,df⟩ ⟨(t,.slice es .no)::γ,V,df⟩:=by
 cases st with
 |none=>
  obtain rfl:es=[]:=hm;exact C9 (by rw[hg];exact An _ (.inl rfl))
 | some x =>
  obtain⟨i,cap,rest⟩:=x;obtain⟨m1,m2,m3,m4⟩:=hm;intro g w a hs;have iX:=hs.tmps.2 t;rw[hg]at iX;obtain⟨b,hb,hv⟩:=iX;obtain⟨g',d9,hs',jk⟩:=hs.sim.freeze (i:=i) (w7 V i _) hb;refine⟨g',d9,⟨?_,⟨hs.tmps.1,fun k=>?_⟩,hs.df.mono d9⟩⟩
  ·have:(mS V (some (i,cap,rest)) es).del i=V:=Sig.set_del _ _ m1;simp only at hs';rw[this]at hs';exact hs'
  ·rw[Aa]
   by_cases hk:k=t
   ·rw[aS hk,hk];exact⟨_,cap,hv,m3,.inr ⟨sz,b,0,rfl,GJ m4 jk⟩,trivial⟩
   ·rw[aQ hk];exact Rep.mono d9 _ (hs.tmps.2 k)
end
def Sim.later{P:Program}{g:G}{V:Sig}{w w':World}(hs:Sim P g V w)(h:∀(k:Nat) x,w.heap[k]? = some x->w'.heap[k]? = some x)(jx:(w'.os,w'.output)=(w.os,w.output)):Sim P g V w' where
 imm:=fun b o v hb=>by
  have:=hs.imm b o v hb;unfold Go.World.cell? at this⊢;simp only at this⊢;cases hx:w.heap[b]? with
  |none=>rw[hx]at this;simp at this
  |some x=>rw[hx]at this;rw[h _ _ hx];exact this
 keep:=fun k o hk=>h _ _ (hs.keep k o hk)
 obj:=fun i o ho=>by
  have:=hs.obj i o ho;cases o with
  |cells ds=>obtain⟨b,vs,ty,h1,h2,h3⟩:=this;exact⟨b,vs,ty,h1,h _ _ h2,h3⟩
  |map l=>obtain⟨b,es,c,h1,h2,h3⟩:=this;exact⟨b,es,c,h1,h _ _ h2,h3⟩
  |tail sz n=>
   rcases this with h1|⟨b,o,cap,vs,ty,h1,h2,h3,h4⟩
   ·exact .inl h1
   ·exact .inr ⟨b,o,cap,vs,ty,h1,h2,h _ _ h3,h4⟩
  |loop st pe ps asg bo n γ did=>obtain⟨b,db,fn,tmps,h1,h2,h3,h4,h5⟩:=this;exact⟨b,db,fn,tmps,h1,h2,h3,h4,h _ _ h5⟩
  |defs=>obtain⟨b,h1,h2⟩:=this;exact⟨b,h1,h _ _ h2⟩
  |iter l la=>obtain⟨b,h1,h2⟩:=this;exact⟨b,h1,h2.imp (fun ⟨a,c,d⟩=>⟨a,c,h _ _ d⟩) (fun ⟨mb,es,c,seen,e1,r⟩=>⟨mb,es,c,seen,h _ _ e1,r⟩)⟩
 inj:=hs.inj
 free:=hs.free
 htop:=hs.htop
 hdom:=hs.hdom
 io:=jx.trans hs.io
 fin:=hs.fin
def MD{P:Program}{L:List FuncId}{n f:Nat}{args:Array Value}{w:World}{R:Ending->World->Prop}(h:∀D,CallsIn (Fence.list L (some D)) n P f args w R)(hL:∀f∈L,f<P.funcs.size)(r:Option Nat):
  CallsIn (FX P r) 0 P f args w R:=by
 refine⟨hL f (h 0).1,fun cs _=>?_⟩;obtain⟨e,w',fr,h1,h2,h3,h4⟩:=(h (cs.length+1+n)).2 cs (fun d hd=>by cases hd;omega);refine⟨e,w',fr,h1,?_,h3,h4⟩
 have key:∀m m',StepsIn (Machine.fenced P (Fence.list L (some (cs.length+1+n)))) P m m'->StepsIn (Machine.fenced P (FX P r)) P m m':=fun m m' hs=>by
  refine StepsIn.mono (fun m hm g hg=>?_) hs;obtain⟨a1,a2,a3,a4⟩:=hm g hg;exact⟨(fun e=>by cases e),a2.imp (hL _) id,fun f hf=>hL _ (a3 f hf),room_FX P r _⟩
 cases e with
 |returned v=>exact key _ _ h2
 |panicked c=>exact key _ _ h2
 |outgrown=>exact h2
section
variable {P:Program}{ro:Option Nat}{n:Nat}{ops:Array Oper}{Q:DX->St->Prop}{rest:List Oper}{tab:Nat->Ty}{γ:List (Nat×D)}{V:Sig}{df:List DDf}
def SrcOK(P:Program)(V:Sig)(d:D)(m:Nat)(cs:fQ):Prop:=
 ∀g w v,Sim P g V w->Rep g d v->∃a cap us,v=.slice a m cap/\kI g cs us/\us.length=m/\(m=0 \/ ∃b o,a=some ⟨b,o,none⟩ /\ ∀j v,us[j]? = some v->w.cell? ⟨b,o+j,none⟩=some v)
theorem Yd{i off m cap:Nat}{ds:fQ}(hi:V i=some (.cells ds))(h:off+m<=ds.length):SrcOK P V (.ax i off m cap) m ((ds.drop off).take m):=by
 intro g w v hs hr;obtain⟨b,hb,rfl⟩:=hr;obtain⟨b',vs,ty,e8,d6,hr⟩:=hs.obj i _ hi;obtain rfl:b'=b:=by rw[hb]at e8;cases e8;rfl
 have hlen:=kI.length hr;simp only[bY]at hlen;refine⟨_,_,(vs.toList.drop off).take m,rfl,Bs (by simp;omega) fun j d v h1 h2=>?_,by simp;omega,.inr ⟨b',off,rfl,fun j v hj=>?_⟩⟩
 ·have hj:j<m:=by have:=(bC.1 h1).1;simp at this;omega
  rw[dz hj,dc]at h1 h2;have:=kI.get hr (off+j);rw[h1,h2]at this;exact this
 ·have iI:j<m:=by have:=(bC.1 hj).1;simp at this;omega
  rw[dz iI,dc,cD]at hj;simp[World.cell?, d6,hj]
theorem Uo{d:D}{es:fV}(h:kz d=some es)(hl:∀c∈es,c.length=1):SrcOK P V d es.length es.flatten:=by
 intro g w v hs hr;obtain⟨xa,xc,q1,q2,q3⟩:=D8 h hr;obtain⟨news,v1,v2,v3⟩:=Df hs hl q3;exact⟨xa,xc,news,q1,v1,k0,v3⟩
variable (ht:BC P tab)
include ht
theorem Mw{t T T' ty e i off len cap m:Nat}{s x:Operand}{pos:String}{after:Array Edge}{ds cs:fQ}
  (f8:t<n) (hk:(tab T).k=.slice e) (he:A5 (tab e).k=false) (gr:(tab e).size=1) (h1:ev γ s=.ax i off len cap) (hi:V i=some (.cells ds)) (hlen:off+len<=ds.length)
  (h2:SrcOK P V (ev γ x) m cs) (jA:Dq cs=true)
  (h:aC P ro n ops Q rest ⟨(t,.int .i64 ((min m len:Nat):Int))::γ,V.set i (.cells (ds.take off++(cs.take (min m len)++ds.drop (off+min m len)))),df⟩) :
  aC P ro n ops Q (⟨some t,.call { callee:=.builtin .copy,args:= #[s,x],argTypes:= #[T,T'] },ty,pos,after,none⟩::rest) ⟨γ,V,df⟩:=by
 refine EL (fun d U'=>d=.int .i64 ((min m len:Nat):Int)/\U'=V.set i (.cells (ds.take off++(cs.take (min m len)++ds.drop (off+min m len))))) rfl (fun c e=>by cases e) (Cn rfl rfl) (by simp[AJ,f8]) ?_
  (fun d U' ⟨a2,a3⟩=>by subst a2 a3;exact h)
 intro g w a hs hT;have gu:=Az hT s;have gG:=Az hT x;rw[h1]at gu;obtain⟨b,hb,gu⟩:=gu;obtain⟨xa,xc,us,hx,hr,jL,gS⟩:=h2 g w _ hs gG;obtain⟨b2,vs,ty',gV,d6,iM⟩:=hs.obj i _ hi;obtain rfl:b2=b:=by rw[hb]at gV;cases gV;rfl
 have gE:=kI.length iM;simp only[bY]at gE;have jP:=kI.length hr;obtain⟨inf,z,t1,t2,t3,t4,t5,t6,t7⟩:=Ch ht hk hk he;have hu:P.underlying T=some (.slice e):=t1;have hq:(P.info? e).map (·.size)=some 1:=by rw[t3];simp[t5,gr]
 have jN:goInt ((min m len:Nat):Int)=.int .i64 ((min m len:Nat):Int):=rfl
 have d7 : ∃ w',(Builtin.copy_ #[T,T'] ty #[a.eval s,a.eval x]).run P w = .ok (goInt ((min m len:Nat):Int)) w'/\Sim P g (V.set i (.cells (ds.take off++(cs.take (min m len)++ds.drop (off+min m len))))) w':=by
  rw[gu,hx]
  by_cases h0:min m len=0
  ·refine⟨w,?_,?_⟩
   ·rw[h0];exact run_copy_none w T T' ty e _ _ len cap m xc hu hq (by show min m len=0;exact h0)
   ·rw[h0];simp only[List.take_zero,bG,eY,dt];rw[show V.set i (.cells ds)=V from funext fun j=>by by_cases hj:j=i<;>simp[Sig.set,hj,hi]];exact hs
  ·obtain⟨b3,o3,rfl,jC⟩:=gS.resolve_left k0;have gx:(us.take (min m len)).length=min m len:=by simp;omega
   have hne:us.take (min m len)≠[]:=fun e=>by rw[e]at gx;simp at gx;omega
   have hl:=run_loadCells_list (P:=P) w ⟨b3,o3,none⟩ (us.take (min m len)) (fun j v hj=>by
    rw[Cm]
    have iI:j<min m len:=by have:=(bC.1 hj).1;simp at this;omega
    rw[dz iI]at hj
    exact jC j v hj)
   have gI:=Ex hr jA;have gv:=D1 (P:=P) (us.take (min m len)) 0 w vs d6 (fun v hv=>gI v (List.mem_of_mem_take hv)) (o:=off) (by rw[gx];omega);rw[aQ hne]at gv;refine⟨_,?_,hs.setObj (ty:=ty') (vs':=Cy vs (off+0) (us.take (min m len))) hi hb ?_ ⟨vs,d6⟩⟩
   ·have jy:inf.size=1:=by omega
    have iE:Nat.min m len=min m len:=rfl;simp only[Builtin.copy_];simp[A2 hu,Builtin.lenOf,Builtin.firstCells,sizeOf,typeInfo,t3,jy,iE,hl,gv,gx];rw[gx]at hl;simp[hl,gv]
   ·refine Bs (by simp only[aO,ck,ey,bY,Eo];omega) fun j d v h1 h2=>?_
    have d8:(Cy vs (off+0) (us.take (min m len)))[j]? = some v:=by simpa using h2
    rw[EZ _ _ _ _ (by rw[gx];omega),gx]at d8;have hg:=kI.get iM j;rw[di]at h1;simp only[ck]at h1
    by_cases c1:j<off
    ·rw[aQ k0]at d8;rw[aS k0,dz c1]at h1;rw[h1]at hg;simp only[cD,d8,ca]at hg;exact hg
    ·rw[aQ k0,di]at h1;simp only[ck]at h1;have eo:min off ds.length=off:=by omega
     rw[eo]at h1
     by_cases c2:j-off<min m len
     ·rw[aS k0,dz k0]at d8;rw[aS k0,dz k0]at h1;have:=kI.get hr (j-off);rw[h1,show j-off=j-(off+0) by omega,d8]at this;exact this
     ·rw[aQ k0]at d8;rw[aQ k0,dc,show off+min m len+(j-off-min (min m len) cs.length)=j by omega]at h1;rw[h1]at hg;simp only[cD,d8,ca]at hg;exact hg
 obtain⟨w',d7,e7⟩:=d7;refine⟨g,w',goInt ((min m len:Nat):Int),.int .i64 ((min m len:Nat):Int),_,?_,.refl g,e7,rfl,rfl,rfl⟩;simp[execOp,resolve,invoke,builtin,d7]
omit ht in
theorem Qh{g:G}{i b off len cap:Nat}(h:g.rho i=some b):Rep g (.ax i off len cap) (.slice (some ⟨b,off,none⟩) len cap):=⟨b,h,rfl⟩
theorem Yg{g:G}{w:World}{T e i off len cap:Nat}{k:IntKind}{v u:Value}{lo:Nat}(hk:(tab T).k=.slice e)(he:A5 (tab e).k=false)(hv:Rep g (.ax i off len cap) v)(hu:Rep g (.int k lo) u)(iS:lo<=len)(iU:lo<cap):
  ∃r,(Instr.sliceAt T v (some u) none none).run P w=.ok r w/\Rep g (.ax i (off+lo*(tab e).size) (len-lo) (cap-lo)) r:=by
 obtain⟨b,hb,rfl⟩:=hv;obtain rfl:=BU hu;refine⟨_,?_,Qh (len:=len-lo) (cap:=cap-lo) (off:=off+lo*(tab e).size) hb⟩;have hu:=Bm ht hk;have c1:(0:Int)<=(lo:Int):=by omega
 have c2:(lo:Int)<=(len:Int):=by omega
 have c3:¬cap=lo:=by omega
 simp only[bT,Instr.sliceAt,Instr.slice,Instr.sliceBounds,Instr.sliceBound,asIntOf,bb,bp,aU,A2 hu,c1,c2,dV,bI,Bh (ht e) (Aj he),el,c3,bl,Cm]
theorem Yh{g:G}{w:World}{T e i off len cap:Nat}{k:IntKind}{v u:Value}{hi:Nat}(hk:(tab T).k=.slice e)(he:A5 (tab e).k=false)(hv:Rep g (.ax i off len cap) v)(hu:Rep g (.int k hi) u)(iW:hi<=cap):
  ∃r,(Instr.sliceAt T v none (some u) none).run P w=.ok r w/\Rep g (.ax i off hi cap) r:=by
 obtain⟨b,hb,rfl⟩:=hv;obtain rfl:=BU hu;refine⟨_,?_,Qh (len:=hi) (cap:=cap) (off:=off) hb⟩;have hu:=Bm ht hk;have c1:(0:Int)<=(hi:Int):=by omega
 have c2:(hi:Int)<=(cap:Int):=by omega
 simp only[Instr.sliceAt,Instr.slice,Instr.sliceBounds,Instr.sliceBound,asIntOf,bb,bp,aU,A2 hu,c1,c2,dV,bI,Bh (ht e) (Aj he),el,dQ,fA]
 congr 1
 split<;>simp[Addr.add]
variable {N:Nat}{S0:Sig}
theorem mo_cutL{t T ty e i off len cap:Nat}{k:IntKind}{x y:Operand}{lo:Nat}{pos:String}{after:Array Edge}{f:Bool}{l:List (Bool×Oper)}
  (h:MO P ro n ops N S0 Q df l ((t,.ax i (off+lo*(tab e).size) (len-lo) (cap-lo))::γ) V)
  (f8:t<n) (hk:(tab T).k=.slice e) (he:A5 (tab e).k=false) (h1:ev γ x=.ax i off len cap) (h2:ev γ y=.int k lo) (iS:lo<=len) (iU:lo<cap) :
  MO P ro n ops N S0 Q df ((f,⟨some t,.slice T x (some y) none none,ty,pos,after,none⟩)::l) γ V:=by
 refine .inl ⟨_,⟨by simp[AJ,f8],.inl ⟨rfl,(fun c e=>by cases e),Ah (fun c e=>by cases e),fun U' hZ g w a hs hT=>?_⟩⟩,h⟩;have hx:=Az hT x;have hy:=Az hT y;rw[Cw (o:=⟨some t,.slice T x (some y) none none,ty,pos,after,none⟩) (by simp[Op.operands]),h1]at hx;rw[Cw (o:=⟨some t,.slice T x (some y) none none,ty,pos,after,none⟩) (by simp[Op.operands]),h2]at hy;obtain⟨r,h3,h4⟩:=Yg (w:=w) ht hk he hx hy iS iU;exact⟨g,w,r,by simp only[execOp,bT,fa,bb,h3,aU,bp],.refl g,hs,h4⟩
theorem mo_cutH{t T ty e i off len cap:Nat}{k:IntKind}{x y:Operand}{hi:Nat}{pos:String}{after:Array Edge}{f:Bool}{l:List (Bool×Oper)}
  (h:MO P ro n ops N S0 Q df l ((t,.ax i off hi cap)::γ) V)
  (f8:t<n) (hk:(tab T).k=.slice e) (he:A5 (tab e).k=false) (h1:ev γ x=.ax i off len cap) (h2:ev γ y=.int k hi) (iW:hi<=cap) :
  MO P ro n ops N S0 Q df ((f,⟨some t,.slice T x none (some y) none,ty,pos,after,none⟩)::l) γ V:=by
 refine .inl ⟨_,⟨by simp[AJ,f8],.inl ⟨rfl,(fun c e=>by cases e),Ah (fun c e=>by cases e),fun U' hZ g w a hs hT=>?_⟩⟩,h⟩;have hx:=Az hT x;have hy:=Az hT y;rw[Cw (o:=⟨some t,.slice T x none (some y) none,ty,pos,after,none⟩) (by simp[Op.operands]),h1]at hx;rw[Cw (o:=⟨some t,.slice T x none (some y) none,ty,pos,after,none⟩) (by simp[Op.operands]),h2]at hy;obtain⟨r,h3,h4⟩:=Yh (w:=w) ht hk he hx hy iW;exact⟨g,w,r,by simp only[execOp,bT,fa,bb,h3,aU,bp],.refl g,hs,h4⟩
omit ht in
theorem LH{g:G}{b:Nat}{vs:List Value}: ∀(l:List UInt8) (k:Nat),(∀j x,l[j]? = some x->vs[k+j]? = some (.int .u8 (x.toNat:Int)))->kl (g.addImm b vs) b 1 k (l.map fun x=>[D.int .u8 (x.toNat:Int)])
 |[],_,_=>trivial
 | x::l,k,h=>by
  refine⟨⟨rfl,⟨_,?_,rfl⟩,trivial⟩,LH l (k+1) fun j y hj=>?_⟩
  ·simp only[G.addImm,bI];have:=h 0 x rfl;simpa using this
  ·have:=h (j+1) y (by simpa using hj);rw[show k+1+j=k+(j+1) by omega];exact this
theorem U0{t T T' ty e:Nat}{x:Operand}{s:List UInt8}{pos:String}{after:Array Edge}
  (h:aC P ro n ops Q rest ⟨(t,.slice (s.map fun b=>[D.int .u8 (b.toNat:Int)]) .no)::γ,V,df⟩) (f8:t<n) (hk:(tab T).k=.str) (iH:(tab T').k=.slice e) (jv:(tab e).k=.int .u8) (h1:ev γ x=.str s) :
  aC P ro n ops Q (⟨some t,.convert T T' x,ty,pos,after,none⟩::rest) ⟨γ,V,df⟩:=by
 refine EL (fun d U'=>d=.slice (s.map fun b=>[D.int .u8 (b.toNat:Int)]) .no/\U'=V) rfl (fun c e=>by cases e) (Ah fun c e=>by cases e) (by simp[AJ,f8]) ?_
  (fun d U' ⟨a2,a3⟩=>by subst a2 a3;exact h)
 intro g w a hs hT;have gG:=Az hT x;rw[h1]at gG;have hv:a.eval x=.string ⟨s.toArray⟩:=gG;have d7:=run_bytes_of_string (P:=P) w T T' e ⟨s.toArray⟩ (JX ht hk) (Bm ht iH) (MX ht jv);have iK:=grownCap_ge w (ByteArray.size ⟨s.toArray⟩) 0 e;generalize grownCap w (ByteArray.size ⟨s.toArray⟩) 0 e=cap at d7 iK;have gr:(ByteArray.size ⟨s.toArray⟩)=s.length:=by simp[ByteArray.size]
 have e7:=hs.drew.addImm (bytesRow ⟨s.toArray⟩ cap).toList e ((bytesRow ⟨s.toArray⟩ cap).size,(bytesRow ⟨s.toArray⟩ cap).size+1);have d9:=G.addImm_le hs.drew (bytesRow ⟨s.toArray⟩ cap).toList;rw[Array.toArray_toList]at e7
 have iJ:∀j x,s[j]? = some x->(bytesRow ⟨s.toArray⟩ cap).toList[0+j]? = some (.int .u8 (x.toNat:Int)):=fun j x hj=>by
  have gO:j<s.length:=(bC.1 hj).1;simp only[bytesRow,bZ,Array.toList_append,Array.toList_map];rw[bK (by simpa using gO),bN,hj];rfl
 refine⟨_,_,.slice (some ⟨w.heap.size,0,none⟩) s.length cap,_,V,?_,d9,e7,?_,rfl,rfl⟩
 ·simp only[execOp,hv];rw[bb,d7,gr];rfl
 ·refine⟨some ⟨w.heap.size,0,none⟩,cap,k7,by rw[aY];omega,.inr ⟨1,w.heap.size,0,rfl,LH s 0 iJ⟩,trivial⟩
end
def SY(P:Program)(l:Nat)(R:Ending->World->Prop):Exit->Act->World->Prop
 |.normal,_,w=> ∃v w',(Instr.endRound l none).run P w=.ok v w'/\R (.returned v) w'
 |.ret,_,w=> ∃v w',(Instr.endRound l (some .ret)).run P w=.ok v w'/\R (.returned v) w'
 |.exit id,_,w=> ∃v w',(Instr.endRound l (some (.exit id))).run P w=.ok v w'/\R (.returned v) w'
 |.panic chain,a,w=>a.defers=[]/\R (.panicked chain) w
 |_,_,_=>False
def Jk{F:Fence}{n:Nat}{P:Program}{l:Nat}{f:FuncId}{tmps:Array Value}{assign body:Code}{w:World}{R:Ending->World->Prop}(hF:F.fn f)(iG:f<P.funcs.size)
  (h:assign.wpIn (F.inRound l) n P (Exit.then (fun a₁ w₁ => ∃ w₂,(Instr.beginRound l).run P w₁ = .ok () w₂/\body.wpIn (F.inRound l) n P (SY P l R) a₁ w₂) (fun _ _ _=>False))
   {tmps:=tmps,defers:=[] } w) :
  RoundIn F n P l f tmps assign body w R:=by
 refine⟨hF,fun c cs hr=>?_⟩
 let b:Frame:={ (default:Frame)with fn:=f,kind:=.normal,roundOf:=some l }
 have jF:Frame.round l f tmps assign body .normal=b.atR { tmps:=tmps,defers:=[] } [.code assign,.beginRound,.code body]:=by
  simp[Frame.round,Frame.atR,b]
 have gC:(F.inRound l).room ((c::cs).length+1+n):=hr;have gF:(F.inRound l).fn b.fn:=hF;obtain⟨e,a₁,w₁,hq,go⟩:=h b [.beginRound,.code body] (c::cs) rfl gF gC;rw[<-jF]at go;cases e with
 | normal =>
  obtain⟨w₂,jE,gU⟩:=hq
  have s1:StepsIn (Machine.fenced P (F.inRound l)) P (lone (b.atR a₁ [.beginRound,.code body]) (c::cs) w₁) (lone (b.atR a₁ [.code body]) (c::cs) w₂):=
   .one (eL (fr:=b.atR a₁ [.beginRound,.code body]) gF gC rfl) (stepR_beginRound rfl jE)
  obtain⟨e₂,a₂,w₃,gH,fZ⟩:=gU b [] (c::cs) rfl gF gC;cases e₂ with
  |normal=>
   obtain⟨v,w₄,gj,hR⟩:=gH;exact⟨.returned v,w₄,hR,(dM go s1).trans (dM fZ (.one (eL (fr:=b.atR a₂ []) gF gC rfl) (stepR_round_end rfl rfl gj)))⟩
  |ret=>
   obtain⟨v,w₄,gj,hR⟩:=gH;obtain⟨k₁,hs⟩:=fZ.2 rfl;exact⟨.returned v,w₄,hR,(dM go s1).trans (dM hs (.one (eL (fr:=b.atR a₂ (.code .ret::k₁)) gF gC rfl) (stepR_round_ret rfl rfl gj)))⟩
  |exit id=>
   obtain⟨v,w₄,gj,hR⟩:=gH;obtain⟨k₁,hk,hs⟩:=fZ.2 rfl rfl;exact⟨.returned v,w₄,hR,(dM go s1).trans (dM hs (.one (eL (fr:=b.atR a₂ (.code (.exit id)::k₁)) gF gC rfl) (stepR_round_exit rfl rfl hk gj)))⟩
  |panic chain=>
   obtain⟨hd,hR⟩:=gH;obtain⟨todo,hs⟩:=fZ;have hl:({ b.atR a₂ todo with mode:=.panicking chain }:Frame).leaving P w₃ (.panicked chain):=⟨rfl,hd,_,bO iG⟩;exact⟨.panicked chain,w₃,hR,(dM go s1).trans (dM hs (.one (fenced_leaving (n:=n) gF gC hl) (step_leave_panicked hl)))⟩
  |goto t=>exact gH.elim
  |outgrown=>exact gH.elim
 |exit id=>exact hq.elim
 |goto t=>exact hq.elim
 |ret=>exact hq.elim
 |panic chain=>exact hq.elim
 |outgrown=>exact hq.elim
structure ku(P:Program)(l:Nat)(args:fQ)(V:Sig)(R:DE->Sig->Prop):Prop where
 run:∀g w vs,Sim P g V w->kI g args vs->∃b fn tmps asg body,g.rho l=some b/\(Instr.yield b vs.toArray).run P w=.ok (.round b fn tmps asg body) w /\ ∀r,RoundIn (FX P r) 0 P b fn tmps asg body w (QS P g R)
def ku.mono{P:Program}{l:Nat}{args:fQ}{V:Sig}{R R':DE->Sig->Prop}(h:ku P l args V R)(hr:∀x U',R x U'->R' x U'):ku P l args V R':=
 ⟨fun g w vs hs ha=>let ⟨b,fn,t,a,c,h1,h2,h3⟩:=h.run g w vs hs ha;⟨b,fn,t,a,c,h1,h2,fun r=>(h3 r).mono fun _ _ ⟨g',x,U',k1,k2,k3,k4⟩=>⟨g',x,U',k1,k2,k3,hr _ _ k4⟩⟩⟩
def SD:fU->fQ->Fr->Fr
 |p::ps,d::ds,γ=>SD ps ds ((p,d)::γ)
 |_,_,γ=>γ
def Oj{g:G}{n:Nat}: ∀{ps:fU}{ds:fQ}{vs:List Value}{γ:Fr}{tmps:Array Value},lF g γ n tmps->kI g ds vs->ps.length=ds.length->(∀p∈ps,p<n)->
  lF g (SD ps ds γ) n ((ps.zip vs).foldl (fun t (x:Nat×Value)=>t.setIfInBounds x.1 x.2) tmps)
 |[],[],_,_,_,h,_,_,_=>h
 |[],_::_,_,_,_,_,_,hl,_=>by simp at hl
 |_::_,[],_,_,_,_,_,hl,_=>by simp at hl
 |p::ps,d::ds,_,γ,tmps,h,⟨v,r,e,h1,h2⟩,hl,hp=>by
  subst e;have : lF g ((p, d) :: γ) n (tmps.setIfInBounds p v) := lF.put (o := ⟨some p, .move (.tmp 0), 0, "", #[], none⟩) (a := { tmps := tmps, defers := [] }) h h1 (by simp [AJ, hp p k7]);exact Oj (ps:=ps) (ds:=ds) (γ:=(p,d)::γ) (tmps:=tmps.setIfInBounds p v) this h2 (by simpa using hl) (fun q hq=>hp q (by simp[hq]))
section
variable {P:Program}{ro:Option Nat}{n:Nat}{ops:Array Oper}{Q:DX->St->Prop}{rest:List Oper}{γ:List (Nat×D)}{V:Sig}{df:List DDf}
theorem Mt{fop:Operand}{args:Array Operand}{ats:Array TypeId}{dst:Option Tmp}{ty:TypeId}{pos:String}{after:Array Edge}{guard:Option (Nat×Bool)}{l:Nat}{R:DE->Sig->Prop}
  (hw:AY ops γ ⟨dst,(cv fop args ats),ty,pos,after,guard⟩=some true)
  (hf:ev γ fop=.yld l) (h:ku P l (args.toList.map (ev γ)) V R)
  (ho:AJ n ⟨dst,(cv fop args ats),ty,pos,after,guard⟩=true)
  (gA:∀d U',R (.ret d) U'->aC P ro n ops Q rest ⟨putD dst d γ,U',df⟩)
  (gD:∀d U',R (.panic d) U'->Q (.panic d) ⟨γ,U',df⟩) :
  aC P ro n ops Q (⟨dst,(cv fop args ats),ty,pos,after,guard⟩::rest) ⟨γ,V,df⟩:=by
 intro g w a r hr hs;unfold wpListIn;rw[B0 hs.tmps hw,aS rfl];have gw:=Az hs.tmps fop;rw[hf]at gw;obtain⟨b,hb,gw⟩:=gw
 have gL:(resolve a.eval { callee:=.value fop,args,argTypes:=ats } ty).run P w=.ok { target:=.fn (.yield b) #[],args:=args.map a.eval } w:=by
  simp[resolve,gw,Deferred.ofValue,Sem.run]
 refine⟨fun f' gP=>?_,?_⟩
 ·simp only[Oper.about,gL,Target.leads]at gP;cases gP
 ·rw[cW _ _ _ (fun c e=>by cases e)];obtain⟨b',fn,tmps,asg,body,h1,h2,h3⟩:=h.run g w _ hs.sim (E9 hs.tmps args.toList);obtain rfl:b'=b:=by rw[hb]at h1;cases h1;rfl
  have d7:(execOp a.eval ⟨dst,(cv fop args ats),ty,pos,after,guard⟩).run P w=.ok (.round b' fn tmps asg body) w:=by
   have e:(args.toList.map a.eval).toArray=args.map a.eval:=eb k7;rw[e]at h2;simp only[execOp,bb,gL,aU,invoke,h2]
  rw[d7];refine⟨fun h=>(by cases h),?_⟩;refine(h3 r).mono ?_
  rintro e w' ⟨g',x,U',k1,k2,k3,k4⟩
  cases x with
  |ret d=>
   obtain⟨v,rfl,h5⟩:=k3;exact AF k1 _ (gA d U' k4 g' w' _ r (hr.mono k1) (hs.put (o:=⟨dst,(cv fop args ats),ty,pos,after,guard⟩) k1 k2 h5 ho))
  |panic d=>
   obtain⟨v,rfl,h5⟩:=k3;exact⟨g',⟨γ,U',df⟩,.panic d,k1,⟨k2,hs.tmps.mono k1,hs.df.mono k1⟩,⟨v,rfl,h5⟩,gD d U' k4⟩
end
def Sim.setLoop{P:Program}{g:G}{V:Sig}{w:World}(hs:Sim P g V w){l:Nat}{st st':LoopState}{pe pe':Option Code}{ps:Array Tmp}{asg body:Code}{n:Nat}{γ:Fr}{did:Nat}(hZ:V l=some (.loop st pe ps asg body n γ did)):
  ∃b r,g.rho l=some b/\(Instr.getLoop b).run P w=.ok r w/\r.state=st/\r.pending=pe/\r.params=ps/\r.assign=asg/\r.body=body/\lF g γ n r.tmps/\r.fn<P.funcs.size /\
   ∃w',(Go.setObj b (.loop { r with state:=st',pending:=pe' })).run P w=.ok () w'/\Sim P g (V.set l (.loop st' pe' ps asg body n γ did)) w':=by
 obtain⟨b,db,fn,tmps,h1,h2,h3,h4,h5⟩:=hs.obj _ _ hZ;refine⟨b,{ state:=st,pending:=pe,fn,tmps,params:=ps,assign:=asg,body,defers:=db },h1,?_,rfl,rfl,rfl,rfl,rfl,h4,h3,setB w b (.loop { state:=st',pending:=pe',fn,tmps,params:=ps,assign:=asg,body,defers:=db }),?_,?_⟩
 ·simp[Instr.getLoop,getObj,Sem.run,h5]
 ·simp[Go.setObj,Sem.run,h5,setB]
 ·exact hs.setAny hZ rfl rfl h1 h5 ⟨b,db,fn,tmps,h1,h2,h3,h4,DC h5⟩
def aj(l:Nat)(ps:Array Tmp)(asg body:Code)(n:Nat)(Sl:Fr)(did:Nat)(R:DE->Sig->Prop):DX->St->Prop
 |.normal,s=>s.V l=some (.loop .busy none ps asg body n Sl did)/\R (.ret (.bool true)) (s.V.set l (.loop .ready none ps asg body n Sl did))
 |.ret,s=>s.V l=some (.loop .busy none ps asg body n Sl did)/\R (.ret (.bool false)) (s.V.set l (.loop .done (some .ret) ps asg body n Sl did))
 |.exit id,s=>s.V l=some (.loop .busy none ps asg body n Sl did)/\R (.ret (.bool false)) (s.V.set l (.loop .done (some (.exit id)) ps asg body n Sl did))
 |.panic d,s=>s.df=[]/\R (.panic d) s.V
def NK{P:Program}{l:Nat}{args:fQ}{V:Sig}{R:DE->Sig->Prop}{ps:Array Tmp}{asg body:Code}{n:Nat}{Sl:Fr}{did:Nat}(hZ:V l=some (.loop .ready none ps asg body n Sl did))
  (hl:ps.toList.length=args.length) (hp:∀p∈ps.toList,p<n)
  (h:DWp P (some l) n asg (lW (fun s=>s.V l=some (.loop .ready none ps asg body n Sl did)/\DWp P (some l) n body (aj l ps asg body n Sl did R) { s with V:=s.V.set l (.loop .busy none ps asg body n Sl did) }) (fun _ _=>False)) ⟨SD ps.toList args Sl,V,[]⟩) :
  ku P l args V R:=by
 refine⟨fun g w vs hs ha=>?_⟩;obtain⟨b,r,h1,h2,e1,e2,e3,e4,e5,h3,h4,_⟩:=hs.setLoop (st':=.busy) (pe':=none) hZ;have gr:vs.length=ps.toList.length:=by rw[kI.length ha,hl]
 refine⟨b,r.fn,(ps.toList.zip vs).foldl (fun t (x:Nat×Value)=>t.setIfInBounds x.1 x.2) r.tmps,asg,body,h1,?_,fun rr=>?_⟩
 ·unfold Instr.yield;rw[bb,h2,aU];have hne:¬vs.toArray.size≠r.params.size:=by rw[e3];simpa using gr
  rw[aQ hne,e3,e4,e5];rw[bp]
  congr 2
  rw[<-fw];simp
 ·refine Jk (F:=FX P rr) h4 h4 ?_;have hT:=Oj (ps:=ps.toList) h3 ha hl hp;refine dF (h g w { tmps:=_,defers:=[] } (some b) ⟨b,rfl,h1⟩ ⟨hs,hT,rfl⟩) ?_
  rintro e a w1 ⟨g1,s1,x,l1,l2,l3,l4⟩
  cases x with
  | normal =>
   obtain rfl:=l3;obtain⟨m1,m2⟩:=l4;obtain⟨b',r',k1,k2,f1,f2,f3,f4,f5,_,_,w2,k3,k4⟩:=l2.sim.setLoop (st':=.busy) (pe':=none) m1;obtain rfl:b'=b:=by rw[l1.rho _ _ h1]at k1;cases k1;rfl
   refine⟨w2,?_,?_⟩
   ·unfold Instr.beginRound;rw[bb,k2,aU,bb];have er:({ r' with state:=.busy }:Loop)={ r' with state:=.busy,pending:=none }:=by rw[<-f2]
    rw[er,k3,aU,f1];rfl
   ·refine dF (m2 g1 w2 a (some b') ⟨b',rfl,k1⟩ ⟨k4,l2.tmps,l2.df⟩) ?_
    rintro e a' w3 ⟨g2,s2,x,n1,n2,n3,n4⟩
    have fin:∀(jump:Option Code) (st':LoopState) (bv:Bool),st'=(if jump.isNone then .ready else .done)->jump.isNone=bv->s2.V l=some (.loop .busy none ps asg body n Sl did)->R (.ret (.bool bv)) (s2.V.set l (.loop st' jump ps asg body n Sl did))->
      ∃v w',(Instr.endRound b' jump).run P w3=.ok v w'/\QS P g R (.returned v) w':=by
     intro jump st' bv gv jD m1 m2;obtain⟨b2,r2,q1,q2,_,_,_,_,_,_,_,w4,q3,q4⟩:=n2.sim.setLoop (st':=st') (pe':=jump) m1;obtain rfl:b2=b':=by rw[n1.rho _ _ k1]at q1;cases q1;rfl
     refine⟨.bool jump.isNone,w4,?_,g2,.ret (.bool bv),_,(l1.trans n1),q4,⟨_,rfl,by rw[jD];rfl⟩,m2⟩;unfold Instr.endRound;rw[bb,q2,aU,bb,<-gv,q3,aU];rfl
    cases x with
    |normal=>obtain rfl:=n3;exact fin none .ready true rfl rfl n4.1 n4.2
    |ret=>obtain rfl:=n3;exact fin (some .ret) .done false rfl rfl n4.1 n4.2
    |exit id=>obtain rfl:=n3;exact fin (some (.exit id)) .done false rfl rfl n4.1 n4.2
    |panic d=>
     obtain⟨v,rfl,hv⟩:=n3;exact⟨Gh n2.df n4.1,g2,.panic d,s2.V,l1.trans n1,n2.sim,⟨v,rfl,hv⟩,n4.2⟩
  |exit id=>exact l4.elim
  |ret=>exact l4.elim
  |panic d=>exact l4.elim
section
variable {P:Program}{n:Nat}{Q:DX->St->Prop}{γ:List (Nat×D)}{V:Sig}{df:List DDf}
theorem IG{P:Program}(o:Obj)(w:World):(newObj o).run P w=.ok w.heap.size { w with heap:=w.heap.push o }:=by
 simp[newObj,Sem.run]
theorem Sim.newObj2{g:G}{w:World}(hs:Sim P g V w){ps:Array Tmp}{asg body:Code}{fn:Nat}{tmps:Array Value}(g7:fn<P.funcs.size)(hT:lF g γ n tmps):
  ∃did l,V did=none/\V l=none/\l≠did /\ ∃g',g.le g'/\g'.rho l=some (w.heap.size+1)/\g'.rho did=some w.heap.size /\
   Sim P g' ((V.set did .defs).set l (.loop .ready none ps asg body n γ did)) { w with heap:=(w.heap.push (.deferred (some []))).push (.loop { state:=.ready,pending:=none,fn,tmps,params:=ps,assign:=asg,body,defers:=w.heap.size }) }:=by
 obtain⟨did,hd,iY⟩:=hs.fresh;have h1:=hs.newObj (o:=.deferred (some [])) hd iY (d:=.defs) rfl ⟨w.heap.size,by simp[G.bind],k7⟩;obtain⟨l,hl,iV⟩:=h1.fresh;have hne:l≠did:=fun e=>by rw[e]at hl;simp[G.bind]at hl
 have jI:=hT.mono (G.bind_le (b:=w.heap.size) hd)
 have h2:=h1.newObj (o:=.loop { state:=.ready,pending:=none,fn,tmps,params:=ps,assign:=asg,body,defers:=w.heap.size }) hl iV (d:=.loop .ready none ps asg body n γ did) rfl
  ⟨w.heap.size+1,w.heap.size,fn,tmps,by simp[G.bind],by simp[G.bind,aZ hne],g7,jI.mono (G.bind_le (b:=(w.heap.push (.deferred (some []))).size) hl),by rw[show w.heap.size+1=(w.heap.push (.deferred (some []))).size by simp];exact dL⟩
 have iv:((g.bind did w.heap.size).bind l (w.heap.push (.deferred (some []))).size).rho l=some (w.heap.size+1):=by simp[G.bind]
 refine⟨did,l,iY,?_,hne,_,(G.bind_le hd).trans (G.bind_le hl),iv,by simp[G.bind,aZ hne],h2⟩
 rwa [w8 _ _ hne]at iV
theorem FK{gop:Operand}{ps:Array Tmp}{asg body:Code}{f:Nat}{first cap:fQ}{R:Nat->Nat->DE->Sig->Prop}
  (hf:ev γ gop=.func (.func f) first cap)
  (gT:∀l did,V did=none->V l=none->l≠did->aB P f (first++[.yld l]++cap) ((V.set did .defs).set l (.loop .ready none ps asg body n γ did)) (R l did))
  (gA : ∀ l did d U',V did=none->V l=none->l ≠ did->R l did (.ret d) U' -> ∃ st pend,U' l=some (.loop st pend ps asg body n γ did)/\st ≠ .busy /\
   (match pend with|none=>Q .normal ⟨γ,U'.del l,.coll did::df⟩|some c=>DWp P none n c Q ⟨γ,U'.del l,.coll did::df⟩))
  (gD:∀l did d U',V did=none->V l=none->l≠did->R l did (.panic d) U'->Q (.panic d) ⟨γ,U',.coll did::df⟩) :
  DWp P none n (.rangeFunc gop ps asg body) Q ⟨γ,V,df⟩:=by
 intro g w a r hr hs;obtain rfl:r=none:=hr;refine wpIn_rangeFunc fun fn g7=>?_;obtain⟨did,l,hd,hl,hne,g',d9,iO,iP,e7⟩:=hs.sim.newObj2 (ps:=ps) (asg:=asg) (body:=body) (fn:=fn) g7 hs.tmps;have hc:=gT l did hd hl hne;have gw:=Az hs.tmps gop;rw[show ev (St.mk γ V df).γ gop=.func (.func f) first cap from hf]at gw;obtain⟨fs,cs,gw,iv,jl⟩:=gw
 let w1:World:={ w with heap:=(w.heap.push (.deferred (some []))).push (.loop { state:=.ready,pending:=none,fn,tmps:=a.tmps,params:=ps,assign:=asg,body,defers:=w.heap.size }) }
 refine⟨w.heap.size+1,[{ target:=.collected w.heap.size,args:= #[] }],w1,{ target:=.fn (.func f) cs.toArray,args:=fs.toArray ++ #[.func (.yield (w.heap.size+1)) #[] #[]] },w1,f,fs.toArray ++ #[.func (.yield (w.heap.size+1)) #[] #[]]++cs.toArray,w1,?_,?_,?_,?_,(fun h=>by cases h),?_⟩
 ·unfold Instr.enterLoop;simp only[FX,bb,IG,aU,bp];simp only[Array.size_push];rfl
 ·simp only[resolve,rangeCall];rw[gw];simp only[Deferred.ofValue];rw[bp];simp[Act.eval]
 ·intro f' gP;simp only[Target.leads,bJ]at gP;subst gP;exact hc.lt
 ·exact hc.ent _ _
 ·have gW:kI g' (first++[.yld l]++cap) (fs++[Value.func (.yield (w.heap.size+1)) #[] #[]]++cs):=
   ((kI.mono d9 _ iv).append (show kI g' [.yld l] [.func (.yield (w.heap.size+1)) #[] #[]] from⟨_,_,rfl,⟨_,iO,rfl⟩,rfl⟩)).append (kI.mono d9 _ jl)
  have d7:=hc.run g' w1 _ e7 gW;have e:(fs++[Value.func (.yield (w.heap.size+1)) #[] #[]]++cs).toArray=fs.toArray ++ #[Value.func (.yield (w.heap.size+1)) #[] #[]]++cs.toArray:=by simp
  rw[e]at d7;refine CallsIn.mono d7 ?_
  rintro en w3 ⟨g3,x,U',l1,l2,l3,l4⟩
  cases x with
  |panic d=>
   obtain⟨v,rfl,hv⟩:=l3;exact⟨g3,⟨γ,U',.coll did::df⟩,.panic d,d9.trans l1,⟨l2,(hs.tmps.mono d9).mono l1,⟨_,_,rfl,l1.rho _ _ iP,(hs.df.mono d9).mono l1⟩⟩,⟨v,rfl,hv⟩,gD l did d U' hd hl hne l4⟩
  | ret d =>
   obtain⟨v,rfl,hv⟩:=l3;obtain⟨st,pend,k1,k2,k3⟩:=gA l did d U' hd hl hne l4;obtain⟨b,rr,q1,q2,q3,q4,q5,q6,q7,_,_,w4,q8,q9⟩:=l2.setLoop (st':=.exhausted) (pe':=pend) k1;obtain rfl:b=w.heap.size+1:=by rw[l1.rho _ _ iO]at q1;cases q1;rfl
   have hS:lP P g3 n ⟨γ,U'.del l,.coll did::df⟩ { a with defers:=[{ target:=.collected w.heap.size,args:= #[] }]++a.defers } w4:=
    ⟨q9.sub (fun j o hj=>by
     by_cases gO:j=l
     ·subst gO;simp[Sig.del]at hj
     ·rw[w8 _ _ gO];simpa[Sig.del,gO] using hj),(hs.tmps.mono d9).mono l1,⟨_,_,rfl,l1.rho _ _ iP,(hs.df.mono d9).mono l1⟩⟩
   refine⟨pend,w4,?_,?_⟩
   ·unfold Instr.endLoop;rw[bb,q2,aU];have gv:(rr.state==LoopState.busy)=false:=by rw[q3];cases st<;>first|rfl|exact absurd rfl k2
    simp only[gv,bz,bl];rw[bb];have er:({ rr with state:=.exhausted }:Loop)={ rr with state:=.exhausted,pending:=pend }:=by rw[<-q4]
    rw[er,q8,aU,q4];rfl
   ·cases pend with
    |none=>exact⟨g3,_,.normal,d9.trans l1,hS,rfl,k3⟩
    |some c=>exact dF (k3 g3 w4 _ none rfl hS) fun _ _ _ p=>p.le (d9.trans l1)
end
def Sim.kill{P:Program}{g:G}{V:Sig}{w:World}(hs:Sim P g V w){i b:Nat}{d:kM}{o x:Obj}(hi:V i=some d)(ht:d.isTail=false)(hb:g.rho i=some b)(hx:w.heap[b]? = some x):Sim P g (V.del i) (setB w b o):=by
 have gc:blk g V i=some b:=by unfold blk;rw[hi];cases d<;>first|exact hb|(cases ht;done)
 have fY:=hs.free i b gc;have iA:∀o,g.imm b o=none:=fY.2 fun o ho=>by rw[hi]at ho;cases ho;exact ht
 have gR:∀j o,V.del i j=some o->j≠i/\V j=some o:=fun j o h=>by
  by_cases hj:j=i
  ·subst hj;simp[Sig.del]at h
  ·exact⟨hj,by simpa[Sig.del,hj] using h⟩
 have ga:=hs.sub (U':=V.del i) fun j o h=>(gR j o h).2
 exact {
  imm:=fun c o v h=>by
   have hc:c≠b:=fun e=>by rw[e,iA o]at h;cases h
   have:=hs.imm c o v h
   unfold World.cell? at this⊢
   simp only at this⊢
   rw[Fx hc];exact this
  keep:=fun k o h=>by
   have hc:k≠b:=fun e=>by rw[e,fY.1]at h;cases h
   rw[Fx hc];exact hs.keep k o h
  obj:=fun j o h=>by
   obtain⟨hj,h'⟩:=gR j o h
   exact(hs.obj j o h').setB h' fun e=>hj (hs.inj j i b e gc)
  inj:=ga.inj,free:=ga.free,htop:=ga.htop,hdom:=ga.hdom,fin:=ga.fin,io:=ga.io }
def dels(js:fU)(V:Sig):Sig:=js.foldl Sig.del V
def Gq{P:Program}{r:Option Nat}{fn:Func}{tmps:Array Value}{R:Ending->World->Prop}{u:FrameMode}(hu:u≠.run): ∀(js:fU) {g:G}{V:Sig}{w:World}{ds:List Deferred},Sim P g V w->RepDf g (js.map .coll) ds->js.Nodup->(∀j∈js,V j=some .defs)->
  (∀w',Sim P g (dels js V) w'->LeavesIn (FX P r) 0 P fn tmps R [] u w')->LeavesInM (FX P r) 0 P fn tmps R ds u w
 |[],g,V,w,ds,hs,hd,_,_,h=>by
  obtain rfl:ds=[]:=hd;exact h w hs
 | j::js,g,V,w,ds,hs,⟨b,rest,jz,hb,gK⟩,hn,hj,h=>by
  subst jz;obtain⟨b',e8,hh⟩:=hs.obj j _ (hj j k7);obtain rfl:b'=b:=by rw[hb]at e8;cases e8;rfl
  refine⟨hu,.inl ⟨b',setB w b' (.deferred none),rfl,?_,Gq hu js (hs.kill (hj j k7) rfl hb hh) gK (cE.1 hn).2 (fun k hk=>?_) h⟩⟩
  ·simp[Instr.takeDeferred,getObj,setObj,Sem.run,hh,setB]
  ·have:k≠j:=fun e=>(cE.1 hn).1 (e ▸ hk);simp only[Sig.del,this,bl];exact hj k (by simp[hk])
def Ub(P:Program)(n:Nat)(fn:Func)(R:DE->Sig->Prop):DX->St->Prop
 |.normal,s|.ret,s=> ∃js,s.df=js.map .coll/\js.Nodup/\(∀j∈js,s.V j=some .defs) /\ ∃d,Q8 P n fn ⟨s.γ,dels js s.V,[]⟩ d/\R (.ret d) (dels js s.V)
 |.panic d,s=> ∃js,s.df=js.map .coll/\js.Nodup/\(∀j∈js,s.V j=some .defs)/\R (.panic d) (dels js s.V)
 |.exit _,_=>False
def Bw{P:Program}{f:Nat}{fn:Func}{c:Code}{args:fQ}{V:Sig}{R:DE->Sig->Prop}(hf:P.funcs[f]? = some fn)(hb:fn.body=some c)
  (jo : (fn.name == "runtime.NumGoroutine") = false) {m : Nat} (hm : fn.ntmps = m) (hn : args.length <= m) (h : DWp P none m c (fun x s => ∃ s', Wk P m s s' /\ Ub P m fn (Weak R) x s') { γ := Dc 0 args, V }) : aB P f args V R := by
 refine IY ⟨(aX.1 hf).1,Ek hf jo (by rw[hb];rfl),fun g w vs hs ha=>?_⟩;refine callsIn_of_wp_marks hf hb (by obtain⟨h1,_⟩:=aX.1 hf;exact h1) ?_ rfl;subst hm;refine dF (h g w _ none rfl ⟨hs,GI ha hn,rfl⟩) ?_
 rintro e a w' ⟨g',s1,x,h1,h2,h3,s2,jc,h4⟩
 obtain⟨g2,gN,d8⟩:=jc _ _ _ h2;have i0:=h1.trans gN
 have ret:∀(js:fU),s2.df=js.map .coll->js.Nodup->(∀j∈js,s2.V j=some .defs)->(∃d,Q8 P fn.ntmps fn ⟨s2.γ,dels js s2.V,[]⟩ d/\Weak R (.ret d) (dels js s2.V))->
   LeavesInM (FX P none) 0 P fn a.tmps (QS P g (Weak R)) a.defers .returning w':=by
  intro js e1 e2 e3 ⟨d,hr,hR⟩;have gQ:=d8.df;rw[e1]at gQ;refine Gq k7 js d8.sim gQ e2 e3 fun w3 gX=>?_;obtain⟨v,hv,gB⟩:=hr g2 { a with defers:=[] } w3 ⟨gX,d8.tmps,rfl⟩;exact⟨v,hv,g2,.ret d,_,i0,gX,⟨v,rfl,gB⟩,hR⟩
 cases x with
 |normal=>
  obtain rfl:=h3;obtain⟨js,e1,e2,e3,e4⟩:=h4;exact ret js e1 e2 e3 e4
 |ret=>
  obtain rfl:=h3;obtain⟨js,e1,e2,e3,e4⟩:=h4;exact ret js e1 e2 e3 e4
 |panic d=>
  obtain⟨v,rfl,gB⟩:=h3;obtain⟨js,e1,e2,e3,hR⟩:=h4;have gQ:=d8.df;rw[e1]at gQ;refine Gq k7 js d8.sim gQ e2 e3 fun w3 gX=>?_;exact⟨g2,.panic d,_,i0,gX,⟨v,rfl,Rep.mono gN _ gB⟩,hR⟩
 |exit i=>exact h4.elim
end Go.DL
