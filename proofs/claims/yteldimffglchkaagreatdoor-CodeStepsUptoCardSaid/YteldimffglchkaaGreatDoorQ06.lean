/- A part of the proof. -/
import Derived.Test.YteldimffglchkaaGreatDoorQ05
import Derived.Laws.StructEq
import Derived.RangeFuncLeaves
set_option linter.all false
namespace Go.DL
open Go
def eqD1:TyK->D->D->Option Bool
 |.int _,.int k a,.int k' b=>if k=k' then some (decide (a=b)) else none
 |.str,.str a,.str b=>some (decide (a=b))
 |.bool,.bool a,.bool b=>some (decide (a=b))
 |_,_,_=>none
@[simp] theorem eqD1_i(q k:IntKind)(a b:Int):eqD1 (.int q) (.int k a) (.int k b)=some (decide (a=b)):=by simp[eqD1]
@[simp] theorem eqD1_s(a b:List UInt8):eqD1 .str (.str a) (.str b)=some (decide (a=b)):=rfl
@[simp] theorem eqD1_b(a b:Bool):eqD1 .bool (.bool a) (.bool b)=some (decide (a=b)):=rfl
@[simp] def eqFs (tab:Nat->Ty) (xs ys:eO):List (Nat × Nat)->Option Bool
 |[]=>some true
 | (off,ft)::fs=>match A2 (tab ft).k || (tab ft).agg with
  |true=>none
  | false=>match LS (tab ft) xs off,LS (tab ft) ys off with
   |some a,some b=>match eqD1 (tab ft).k a b,eqFs tab xs ys fs with
    |some r,some q=>some (r&&q)
    |_,_=>none
   |_,_=>none
def EqTy (P : Program) (t : Nat) : Prop := P.eqGuardType P.depth t = false /\ P.stoodInHeld t = false /\ (P.fieldsOf t).toList.all (fun f => !(f.name == "_")) = true
section
variable {P:Program}{tab:Nat->Ty}(ht:AZ P tab){g:G}{w:World}
include ht
theorem V7{t d:Nat}{a b:D}{r:Bool}{u v:Value}(hk:A2 (tab t).k=false)(h:eqD1 (tab t).k a b=some r)(hu:Rep g a u)(hv:Rep g b v):(Op.equalIn (d+1) t u v).run P w=.ok r w:=by
 have d8:=ht t;unfold eqD1 at h;split at h<;>(try (cases h;done))
 ·rename_i q k x k' y hq;split at h<;>(try (cases h;done));rename_i fH;cases h;subst fH;rw[Bo hu,Bo hv];unfold TyOK at d8;rw[hq]at d8;obtain⟨_,desc,_,_,h2,h3,_⟩:=d8;cases desc<;>simp only[KOK]at h3<;>(try (exact h3.elim));rw[run_equalIn_int w d t k _ x y h2,H4]
 ·rename_i x y hq;cases h;rw[FU hu,FU hv];unfold TyOK at d8;rw[hq]at d8;obtain⟨_,desc,_,_,h2,h3,_⟩:=d8;cases desc<;>simp only[KOK]at h3<;>(try (exact h3.elim));rw[run_equalIn_string w d t _ _ h2];simp[ByteArray.toList_eq,H4]
 ·rename_i x y hq;cases h;rw[Hl hu,Hl hv];unfold TyOK at d8;rw[hq]at d8;obtain⟨_,desc,_,_,h2,h3,_⟩:=d8;cases desc<;>simp only[KOK]at h3<;>(try (exact h3.elim));rw[run_equalIn_bool' w d t x y h2,H4]
theorem Jo{t:Nat}{cs:eO}{off:Nat}{d:D}{vs:List Value}(hk:A2 (tab t).k=false)(ha:(tab t).agg=false)(h:LS (tab t) cs off=some d)(hr:jE g cs vs):
  ∃v,(part t vs.toArray off).run P w=.ok v w/\Rep g d v:=by
 unfold LS at h;rw[ha]at h;simp only[bm,bc]at h;have hl:=jE.length hr
 have fY:off<cs.length:=by
  rcases ce off cs.length with h'|h'
  ·exact h'
  ·rw[aX h']at h;cases h
 have hv:vs[off]? = some vs[off]:=aD j0;refine⟨vs[off],?_,?_⟩
 ·unfold part;simp only[aP,Jk (ht t) (Ai hk),aJ,ha,bm,bc,dn,hv,bi]
 ·have:=jE.get hr off;rw[h,hv]at this;exact this
theorem NC {d : Nat} {xs ys : eO} {us vs : List Value} (hx : jE g xs us) (hy : jE g ys vs) : ∀ {fs : List Field} {r : Bool}, fs.all (fun f => !(f.name == "_")) = true -> eqFs tab xs ys (fs.map fun f => (f.offset, f.type)) = some r ->
  (Op.eqFields (d+1) us.toArray vs.toArray fs).run P w=.ok r w
 |[],r,_,h=>by simp only[bX,eqFs]at h;cases h;simp[Op.eqFields]
 | f::fs,r,hn,h=>by
  simp only[cM,aF]at hn;simp only[bd,eqFs]at h;split at h<;>(try (cases h;done));rename_i fH;simp only[eg]at fH;obtain⟨hk,gj⟩:=fH;split at h<;>(try (cases h;done));rename_i a b ha hb;split at h<;>(try (cases h;done));rename_i r1 q h1 h2;cases h;obtain⟨u,gx,gw⟩:=Jo ht (w:=w) hk gj ha hx;obtain⟨v,gv,gu⟩:=Jo ht (w:=w) hk gj hb hy;have gE : f.name ≠ "_" := by simpa using hn.1
  simp only[Op.eqFields,gE,ne_eq,not_false_eq_true,bu,aP,gx,gv,aJ,V7 ht hk h1 gw gu];cases r1
  ·simp
  ·simp only[cr,bm,bc,bq];exact NC hx hy hn.2 h2
theorem eqS_run{T:Nat}{fs:List (Nat×Nat)}{xs ys:eO}{r:Bool}{us vs:List Value}(hE:EqTy P T)(hk:(tab T).k=.struct fs)(h:eqFs tab xs ys fs=some r)(hx:jE g xs us)(hy:jE g ys vs):
  (Op.equalIn 10000 T (.agg us.toArray) (.agg vs.toArray)).run P w=.ok r w:=by
 obtain⟨h1,h2,h3⟩:=hE;have d8:=ht T;unfold TyOK at d8;rw[hk]at d8;obtain⟨_,desc,_,_,h4,h5,_⟩:=d8;cases desc<;>simp only[KOK]at h5<;>(try (exact h5.elim));rename_i fl _;have hf:P.fieldsOf T=fl:=by unfold Program.fieldsOf;rw[h4]
 rw[run_equalIn_agg w 9999 T us.toArray vs.toArray (by rw[h4,hf]) h2,hf];rw[hf]at h3;rw[<-h5]at h;exact NC (d:=9998) ht hx hy h3 h
theorem HO{O:Sig}(hs:Sim P g O w){T u:Nat}{fs:List (Nat×Nat)}{xs ys:eO}{r:Bool}{x y:Operand}{dst:Option Tmp}{ty:TypeId}{pos:String}{after:Array Edge}{guard:Option (Nat×Bool)}{γ:Fr}{n:Nat}{a:Act}(hT:kA g γ n a.tmps)
  (hE:EqTy P T) (hk:(tab T).k=.struct fs) (hx:ev γ x=.agg xs) (hy:ev γ y=.agg ys) (h:eqFs tab xs ys fs=some r) (neg:Bool) :
  ORun P g O (.bool (neg != r)) (execOp a.eval ⟨dst,.binOp (match neg with|true=>.neq|false=>.eql) T x y u,ty,pos,after,guard⟩) w:=by
 have h1:=As hT x;have h2:=As hT y;rw[hx]at h1;rw[hy]at h2;obtain⟨us,e1,r1⟩:=h1;obtain⟨vs,e2,r2⟩:=h2;have b6:=eqS_run ht (w:=w) hE hk h r1 r2;refine⟨g,w,.bool (neg != r),?_,.refl g,hs,rfl⟩;have hg:∀o,(eqGuard o T x y (.agg us.toArray) (.agg vs.toArray)).run P w=.ok () w:=fun o=>run_eqGuard_agg w o T x y _ _ hE.1;simp only[execOp,aP,e1,e2,hg,aJ];cases neg
 ·simp only[run_eql_struct,b6,aJ];cases r<;>rfl
 ·simp only[run_neq_struct,b6,aJ];cases r<;>rfl
end
section
variable {P:Program}{ro:Ro}{n:Nat}{ops:Array Oper}{N:Nat}{S0:Sig}{Q:DX->St->Prop}{df:List DDf}{rest:List Oper}{γ Sr:List (Nat×D)}{O:Sig}{t:Nat}{ty:TypeId}{pos:String}{after:Array Edge}{l:List (Bool×Oper)}{e:Bool}
theorem Ol{tab:Nat->Ty}(ht:AZ P tab){T u:Nat}{x y:Operand}{fs:List (Nat×Nat)}{xs ys:eO}{r:Bool}(hE:EqTy P T)(fm:decide (t<n)=true)(hl:A5 γ (Aa [x,y])=some Sr)(hx:ev Sr x=.agg xs)(hy:ev Sr y=.agg ys)(hk:(tab T).k=.struct fs)(hd:eqFs tab xs ys fs=some r)
  (h:MO P ro n ops N S0 Q df l ((t,.bool (!r))::γ) O):MO P ro n ops N S0 Q df ((e,⟨some t,.binOp .neq T x y u,ty,pos,after,none⟩)::l) γ O:=by
 have hc:∀z∈[x,y],ev Sr z=ev γ z:=fun z hz=>Bs fun t ht=>AB hl t (AL (by rw[<-ht];exact hz))
 have f9:∀z∈[x,y],ev (only (Oper.looksAt ops ⟨some t,.binOp .neq T x y u,ty,pos,after,none⟩) γ) z=ev γ z:=fun z hz=>Bf (o:=⟨some t,.binOp .neq T x y u,ty,pos,after,none⟩) (by simp at hz;rcases hz with rfl|rfl<;>simp[Op.operands])
 refine .inl ⟨.bool (!r),⟨fm,.inl ⟨rfl,(fun c e=>by cases e),Ag (fun c e=>by cases e),fun U' hZ g w a hs hT=>?_⟩⟩,h⟩;have:=HO (dst:=some t) (ty:=ty) (pos:=pos) (after:=after) (guard:=none) (u:=u) ht hs hT hE hk (by rw[f9 x j1,<-hc x j1];exact hx) (by rw[f9 y j1,<-hc y j1];exact hy) hd true;simpa using this
end
abbrev MR:=Option (Nat×Nat×eO)
def mD:MR->Nat->D
 |none,_=>.aj
 |some (i,cap,_),n=>.am i 0 n cap
def mS(O:Sig):MR->eR->Sig
 |none,_=>O
 |some (i,_,rest),es=>O.set i (.cells (es.flatten++rest))
def mOK(O:Sig)(sz:Nat):MR->eR->Prop
 |none,es=>es=[]
 |some (i,cap,rest),es=>O i=none/\(es.flatten++rest).length=cap*sz/\es.length<=cap /\ ∀e∈es,e.length=sz
def mOK.len{O:Sig}{sz:Nat}{st:MR}{es:eR}(h:mOK O sz st es): ∀e∈es,e.length=sz:=by
 cases st with
 |none=>obtain rfl:es=[]:=h;simp
 |some x=>exact h.2.2.2
def Aj{sz:Nat}: ∀{es:eR},(∀e∈es,e.length=sz)->es.flatten.length=es.length*sz
 |[],_=>by simp
 |e::es,h=>by
  have:=Aj (es:=es) fun x hx=>h x (by simp[hx])
  simp only[br,aC,aS,cp,this,h e j1];omega
def Sub.setD{a b:Sig}{i j:Nat}{o x:jP}(h:Sub a b)(hi:a i=Option.none)(gY:i≠j):Sub (a.set j o) ((b.set i x).set j o):=fun k y hk=>by
 by_cases h1:k=j
 ·subst h1;rw[w6]at hk⊢; exact hk
 ·rw[w7 _ _ h1]at hk⊢;rw[w7 _ _ fun e=>by rw[e,hi]at hk;cases hk];exact h k y hk
section
variable {P:Program}{ro:Ro}{n:Nat}{ops:Array Oper}{Q:DX->St->Prop}{rest:List Oper}{tab:Nat->Ty}{γ:List (Nat×D)}{O:Sig}{df:List DDf}
theorem Ct{o:Oper}(R:D->Sig->Prop)(hw:AJ ops γ o=some true)(gH:∀c,o.op≠.defer c)(gT:∀(w:World) (ρ:Operand->Value) f,o.about P w ρ=some f->False)(ho:Ax n o=true)
  (hr:∀g w (a:Act),Sim P g O w->kA g γ n a.tmps->∃g' w' v d U',(execOp a.eval o).run P w=.ok (.value v) w'/\g.le g'/\Sim P g' U' w'/\Rep g' d v/\R d U')
  (h:∀d U',R d U'->au P ro n ops Q rest ⟨putD o.dst d γ,U',df⟩):au P ro n ops Q (o::rest) ⟨γ,O,df⟩:=by
 intro g w a r gA hs;unfold wpListIn;rw[AW hs.tmps hw,aG rfl];refine⟨fun f hf=>(gT _ _ f hf).elim,?_⟩;obtain⟨g',w',v,d,U',h1,h2,h3,h4,h5⟩:=hr g w a hs.sim hs.tmps;rw[cX _ _ _ gH,h1];exact AO h2 _ (h d U' h5 _ _ _ r (gA.mono h2) (hs.put h2 h3 h4 ho))
theorem Sim.drew{g:G}{w:World}(hs:Sim P g O w):Sim P g O w.drew:=
 ⟨hs.imm,hs.keep,fun i o h=>by have:=hs.obj i o h;cases o<;>exact this,hs.inj,hs.free,hs.htop,hs.hdom,hs.fin,hs.io,hs.tab⟩
theorem Gn{g:G}{i b len cap:Nat}(h:g.rho i=some b):Rep g (.am i 0 len cap) (.slice (some ⟨b,0,none⟩) len cap):=⟨b,h,rfl⟩
theorem Oj{g:G}{w:World}{sz:Nat}{st:MR}{es:eR}{v:Value}(hs:Sim P g (mS O st es) w)(hm:mOK O sz st es)(hv:Rep g (mD st es.length) v):
  ∃a cap,v=.slice a es.length cap/\es.length<=cap /\ ∃us,jE g es.flatten us/\us.length=es.length*sz/\(es.length=0 \/ ∃b o,a=some ⟨b,o,none⟩ /\ ∀j v,us[j]? = some v->w.cell? ⟨b,o+j,none⟩=some v):=by
 cases st with
 |none=>
  obtain rfl:es=[]:=hm;exact⟨none,0,hv,j1,[],rfl,j1,.inl rfl⟩
 |some x=>
  obtain⟨i,cap,rest⟩:=x;obtain⟨h1,h2,h3,h4⟩:=hm;obtain⟨b,hb,hv⟩:=hv;obtain⟨b',vs,ty,eV,b7,hr⟩:=hs.obj i _ (w6 ..);obtain rfl:b'=b:=by rw[hb]at eV;cases eV;rfl
  obtain⟨u,v',e1,e2,e3⟩:=hr.split;refine⟨_,cap,hv,h3,u,e2,by rw[jE.length e2,Aj h4],.inr ⟨b',0,rfl,fun j x hx=>?_⟩⟩;have:j<u.length:=(aV.1 hx).1;simp only[World.cell?, b7,co];have:vs.toList[j]? = some x:=by rw[e1,bj this];exact hx
  simpa using this
variable (ht:AZ P tab)
include ht
theorem NH{t T T' ty e e' sz:Nat}{s x:Operand}{pos:String}{after:Array Edge}{es new:eR}{st:MR}
  (fm:t<n) (hk:(tab T).k=.slice e) (gL:(tab T').k=.slice e') (he:A2 (tab e).k=false) (hsz:(tab e).size=sz) (h1:ev γ s=mD st es.length) (hm:mOK O sz st es) (h2:k8 (ev γ x)=some new)
  (hlen':∀c∈new,c.length=sz) (fK:∀c∈new,C6 c=true)
  (hb:(es.length+new.length)*(tab e).bytes<=140737488355328) (hm2:es.length+new.length<=9223372036854775807)
  (h:∀st',mOK O sz st' (es++new)->au P ro n ops Q rest ⟨(t,mD st' (es++new).length)::γ,mS O st' (es++new),df⟩) :
  au P ro n ops Q (⟨some t,(cA s x T T'),ty,pos,after,none⟩::rest) ⟨γ,mS O st es,df⟩:=by
 subst hsz
 refine Ct (fun d U'=> ∃st',mOK O (tab e).size st' (es++new)/\d=mD st' (es++new).length/\U'=mS O st' (es++new)) rfl (fun c e=>by cases e) (Bl rfl rfl) (by simp[Ax,fm]) ?_
  (fun d U' ⟨st',a1,a2,a3⟩=>by subst a2 a3;exact h st' a1)
 intro g w a hs hT;have fF:=As hT s;have go:=As hT x;rw[h1]at fF;obtain⟨base,cap,r1,r2,us,r3,r4,r5⟩:=Oj hs hm fF;obtain⟨xa,xc,q1,q2,q3⟩:=CL h2 go;obtain⟨news,v1,v2,v3⟩:=Cy hs hlen' q3;obtain⟨inf,z,t1,t2,t3,t4,t5,t6,t7⟩:=Bx ht hk gL he;have fv:=hm.len;have eX:∀c∈es++new,c.length=(tab e).size:=fun c hc=>(bJ.1 hc).elim (fv c) (hlen' c)
 by_cases d5:es.length+new.length<=cap
 ·
  cases st with
  | none =>
   obtain rfl:es=[]:=hm
   obtain⟨rfl,rfl⟩:base=none/\cap=0:=by
    have e1:a.eval s=.slice none 0 0:=fF;rw[e1]at r1;injection r1 with f1 f2 f3;exact⟨f1.symm,f3.symm⟩
   have gJ:new.length=0:=by simpa using d5
   have gI:new=[]:=bf.1 gJ;subst gI;have gG:news=[]:=bf.1 (by rw[v2];simp);refine⟨g,w,.slice none 0 0,.aj,O,At ?_,.refl g,hs,rfl,none,rfl,rfl,rfl⟩;rw[r1,q1];have:=Bu (ty:=ty) t1 t2 t3 (w:=w) (w2:=w) (base:=none) (xa:=xa) (n:=0) (cap:=0) (m:=0) (xc:=xc) (news:=[]) (Aq j1 (.inl rfl)) j0 (fun b hb=>by cases hb) (fun _=>rfl);simpa using this
  | some y =>
   obtain⟨i,cap',rest'⟩:=y;obtain⟨m1,m2,m3,m4⟩:=hm;obtain⟨b,eV,hv⟩:=fF;rw[hv]at r1;injection r1 with f1 f2 f3;subst f3;subst f1;obtain⟨b2,vs,ty',gh,b7,hr⟩:=hs.obj i _ (w6 ..);obtain rfl:b2=b:=by rw[eV]at gh;cases gh;rfl
   have fu:=jE.length hr;simp only[bB]at fu;have gZ:=Aj m4;have fJ:=Aj hlen';have gG:=jE.length v1;simp only[aC]at m2 fu;have fW:(es.length+new.length)*(tab e).size<=cap'*(tab e).size:=cW _ d5;rw[cp]at fW;have fo:=BS (P:=P) news 0 w vs b7 (Dw v1 (Ge fK)) (o:=es.length*(tab e).size) j0
   have b6:=Bu (ty:=ty) t1 t2 t3 (w:=w) (base:=some ⟨b2,0,none⟩) (xa:=xa) (n:=es.length) (cap:=cap') (m:=new.length) (xc:=xc) (news:=news) (w2:=if news=[] then w else setB w b2 (.cells (Bt vs (0+es.length*(tab e).size) news) ty' (0,0)))
    (Aq (by rw[t5];exact v2) v3) d5 (fun a ha=>by cases ha;rw[BQ,t5];simpa using fo) (fun h=>by cases h)
   have fU:jE g (es.flatten++(new.flatten++rest'.drop (new.length*(tab e).size))) (Bt vs (0+es.length*(tab e).size) news).toList:=by
    refine AP (by simp only[aC,cn,bB,D2];omega) fun j d v h1 h2=>?_
    have eU:(Bt vs (0+es.length*(tab e).size) news)[j]? = some v:=by simpa using h2
    rw[Dp _ _ _ _ j0]at eU;simp only[cz]at h1;have hg:=jE.get hr j
    by_cases c1:j<es.flatten.length
    ·rw[aE j0]at eU;rw[aG c1]at h1;rw[bj c1,h1]at hg;simp only[bO,eU,ba]at hg;exact hg
    ·rw[aE c1]at h1
     by_cases c2:j-es.flatten.length<new.flatten.length
     ·rw[aG j0]at eU;rw[aG c2]at h1;have:=jE.get v1 (j-es.flatten.length);rw[h1,show j-es.flatten.length=j-(0+es.length*(tab e).size) by omega,eU]at this;exact this
     ·rw[aE j0]at eU;rw[aE c2,cm]at h1;rw[bK j0,show j-es.flatten.length=new.length*(tab e).size+(j-es.flatten.length-new.flatten.length) by omega,h1]at hg;simp only[bO,eU,ba]at hg;exact hg
   refine⟨g,_,.slice (some ⟨b2,0,none⟩) (es.length+new.length) cap',mD (some (i,cap',rest'.drop (new.length*(tab e).size))) (es++new).length,_,At (by rw[hv,q1];exact b6),.refl g,?_,?_,some (i,cap',rest'.drop (new.length*(tab e).size)),⟨m1,?_,by simpa using d5,eX⟩,rfl,rfl⟩
   ·have eW:=hs.setObj (i:=i) (b:=b2) (ds':=es.flatten++(new.flatten++rest'.drop (new.length*(tab e).size))) (vs':=Bt vs (0+es.length*(tab e).size) news) (ty:=ty') (w6 ..) eV fU ⟨vs,b7⟩;simp only[mS,w8]at eW;have e1:es.flatten++(new.flatten++rest'.drop (new.length*(tab e).size))=(es++new).flatten++rest'.drop (new.length*(tab e).size):=by simp
    rw[e1]at eW
    by_cases hne:news=[]
    ·rw[aG hne];subst hne
     have gr:setB w b2 (.cells (Bt vs (0+es.length*(tab e).size) []) ty' (0,0))=w:=by
      obtain⟨fY,gN⟩:=aI.1 b7
      have e:w.heap.setIfInBounds b2 (.cells vs ty' (0,0))=w.heap:=by
       apply Array.ext j1;intro k h1 h2;by_cases hk:b2=k
       ·subst hk;simp[gN]
       ·rw[dJ _ hk]
      show { w with heap:=w.heap.setIfInBounds b2 (.cells vs ty' (0,0)) }=w;rw[e]
     rw[gr]at eW;exact eW
    ·rw[aE hne];exact eW
   ·rw[mD,aC];exact Gn eV
   ·simp only[bt,aC,cn];omega
 ·
  obtain⟨c,hc,b6⟩:=Em (ty:=ty) t1 t2 t3 t4 (w:=w) (base:=base) (xa:=xa) (n:=es.length) (cap:=cap) (m:=new.length) (xc:=xc) (olds:=us) (news:=news)
   (Aq (by rw[t5];exact r4) r5) (Aq (by rw[t5];exact v2) v3) j0 hm2 (by rw[t6];exact hb)
  obtain⟨i',fI,fk⟩:=hs.fresh
  let zs:=(Builtin.zeroCells z.cells (c-(es.length+new.length))).toList
  have fO:jE (g.bind i' w.heap.size) ((es++new).flatten++zs.map Bq) (us++news++zs):=by
   rw[bt];exact((jE.mono (G.bind_le fI) _ r3).append (jE.mono (G.bind_le fI) _ v1)).append (CB _ _)
  have fR:kB P (g.bind i' w.drew.heap.size) { w.drew with heap:=w.drew.heap.push (.cells (us++news++zs).toArray e (0,0)) } i' (.cells ((es++new).flatten++zs.map Bq)):=
   ⟨w.drew.heap.size,(us++news++zs).toArray,e,by simp[G.bind],by exact dp,by simpa using fO⟩
  have fc:=hs.drew.newObj fI fk rfl fR
  have gU:O i'=none:=by
   cases st with
   |none=>exact fk
   |some y=>
    obtain⟨i,cap',rest'⟩:=y;simp only[mS]at fk;exact(set_none' fk).2
  refine⟨_,_,_,mD (some (i',c,zs.map Bq)) (es++new).length,_,At (by rw[r1,q1];exact b6),G.bind_le fI,fc.sub (U':=mS O (some (i',c,zs.map Bq)) (es++new)) ?_,?_,some (i',c,zs.map Bq),⟨gU,?_,by simpa using hc,eX⟩,rfl,rfl⟩
  ·cases st with
   |none=>exact Sub.refl _
   |some y=>
    obtain⟨i,cap',rest'⟩:=y;simp only[mS]at fk⊢;exact(Sub.refl O).setD hm.1 fun e=>(set_none' fk).1 e.symm
  ·rw[mD,aC];exact Gn (by simp[G.bind])
  ·have hz:zs.length=(c-(es.length+new.length))*(tab e).size:=by simp[zs,size_zeroCells,t7]
   simp only[aC,aN,hz,Aj eX,<-cp]
   congr 1;omega
where
 set_none' {O:Sig}{i j:Nat}{o:jP} (h:O.set i o j=none):j≠i/\O j=none:=by
  by_cases hj:j=i
  ·subst hj;rw[w6]at h;cases h
  ·rw[w7 _ _ hj]at h;exact⟨hj,h⟩
omit ht in
theorem MP{zs:Array Value}{sz:Nat}(hz:zs.size=sz)(h0:0<sz): ∀k:Nat,((List.range (k*sz)).map fun j=>zs[j % zs.size]!)=(List.replicate k zs.toList).flatten
 |0=>by simp
 |k+1=>by
  rw[List.replicate_succ',bt,<-MP hz h0 k,cp,dO,List.range_add,bz]
  congr 1
  simp only[dh,br,eC,bl];apply List.ext_getElem (by simp[hz]);intro j h1 h2;have hj:j<sz:=by simpa using h1
  simp only[eB,Function.comp,List.getElem_range,hz,Array.getElem_toList];rw[Nat.mul_comm,Nat.mul_add_mod,dS hj,getElem!_pos zs j j0]
theorem Lm{t T ty e k sz c:Nat}{l m:Operand}{pos:String}{after:Array Edge}{z:eO}
  (fm:t<n) (hk:(tab T).k=.slice e) (he:A2 (tab e).k=false) (hsz:(tab e).size=sz) (h0:0<sz) (hz:(tab e).zero=z)
  (h1:ev γ l=.int .i64 k) (h2:ev γ m=.int .i64 c) (gK:k<=c) (hb:c*(tab e).bytes<=140737488355328) (hm:c<=9223372036854775807)
  (h:∀i,O i=none->mOK O sz (some (i,c,(List.replicate (c-k) z).flatten)) (List.replicate k z)->au P ro n ops Q rest ⟨(t,.am i 0 k c)::γ,mS O (some (i,c,(List.replicate (c-k) z).flatten)) (List.replicate k z),df⟩) :
  au P ro n ops Q (⟨some t,.makeSlice T l m,ty,pos,after,none⟩::rest) ⟨γ,O,df⟩:=by
 subst hsz hz;obtain⟨inf,z,t1,t2,t3,t4,t5,t6,t7⟩:=Bx ht hk hk he;obtain⟨z',hz,gX,gW⟩:=Dd (ht e) (Ai he) (default:World)
 have gm:(tab e).zero.length=(tab e).size:=by
  obtain⟨_,_,_,_,_,_,_,_,_,_,h8,_⟩:=Cx (ht e) (Ai he);exact h8
 have fK:(List.replicate k (tab e).zero).flatten++(List.replicate (c-k) (tab e).zero).flatten=(List.replicate c (tab e).zero).flatten:=by
  rw[<-bt,ey];congr 2;omega
 have fQ:∀i,O i=none->mOK O (tab e).size (some (i,c,(List.replicate (c-k) (tab e).zero).flatten)) (List.replicate k (tab e).zero):=by
  intro i hi;have hl:∀(m:Nat), ∀x∈List.replicate m (tab e).zero,x.length=(tab e).size:=fun m x hx=>by rw[cV hx,gm]
  refine⟨hi,?_,by simpa using gK,hl k⟩;rw[fK,Aj (hl c),bY]
 refine HS (mk:=fun i=>.am i 0 k c) (d:=.cells ((List.replicate k (tab e).zero).flatten++(List.replicate (c-k) (tab e).zero).flatten)) rfl (fun c e=>by cases e) (Ag fun c e=>by cases e) (by simp[Ax,fm]) rfl ?_
  (fun i hi=>h i hi (fQ i hi))
 intro g w a hs hT;have fu:=As hT l;have ga:=As hT m;rw[h1]at fu;rw[h2]at ga;have fX:a.eval l=.int .i64 (k:Int):=fu;have fV:a.eval m=.int .i64 (c:Int):=ga;obtain⟨z'',gn,fM,fL⟩:=Dd (ht e) (Ai he) w
 let cs:Array Value:=(Array.range (c*(tab e).size)).map (z''.cells[· % z''.cells.size]!)
 refine⟨.cells cs e,.slice (some ⟨w.heap.size,0,none⟩) k c,?_,fun i hi=>⟨⟨w.heap.size,cs,e,by simp[G.bind],j1,?_⟩,w.heap.size,by simp[G.bind],rfl⟩⟩
 ·have w1:IntKind.i64.wrap (k:Int)=k:=AA j0 j0;have w2:IntKind.i64.wrap (c:Int)=c:=AA j0 j0;have ic:((tab e).bytes:Int)*(c:Int)<=140737488355328:=by rw[Int.mul_comm,<-Int.natCast_mul];omega
  have c1:¬(281474976710656<((tab e).bytes:Int)*(c:Int)):=by omega
  have c2:¬((c:Int)<0):=by omega
  have c3:¬((k:Int)<0):=by omega
  have c4:¬((c:Int)<(k:Int)):=by omega
  unfold execOp Instr.makeSlice;simp only[fX,fV,aP,j4 t1,aJ,asInt,asIntOf,bi,run_program,typeInfo,t3,w1,w2,t6];have d1:decide ((c:Int)<0)=false:=by simp
  have d2:decide ((tab e).bytes*(c:Int)>2 ^ 48)=false:=by simp;omega
  have d3:decide ((k:Int)<0)=false:=by simp
  have d4:decide ((k:Int)>c)=false:=by simp;omega
  simp only[d1,d2,d3,d4,Bool.or_false,bm,bc,run_askRoom,aP,aJ,AK (ht e) (Ai he),bF]
  by_cases f0:c*(tab e).size=0
  ·have gP:cs=#[]:=by simp[cs,f0]
   have gD:Array.map (fun (x:Nat)=>(default:Value)) (Array.range 0)=#[]:=by simp
   simp[f0,D5,gP];exact bn (fun (z:Array Value)=>w.alloc (Obj.cells z e)) gD
  ·simp[f0,gn,D5,cs]
 ·rw[fK]
  have e1:cs.toList=(List.replicate c z''.cells.toList).flatten:=by
   simp only[cs,Array.toList_map,Array.toList_range];exact MP fL h0 c
  rw[e1,fM]
  have:(List.replicate c (z''.cells.toList.map Bq)).flatten=((List.replicate c z''.cells.toList).flatten).map Bq:=by
   rw[List.map_flatten,List.map_replicate]
  rw[this];exact CB _ _
omit ht in
theorem Sim.freeze{g:G}{w:World}(c9:Sim P g O w){i b:Nat}{ds:eO}(hi:O i=some (.cells ds))(hb:g.rho i=some b): ∃g',g.le g'/\Sim P g' (O.del i) w/\ju g' b 0 ds:=by
 obtain⟨b',vs,ty,eV,b7,hr⟩:=c9.obj i _ hi;obtain rfl:b'=b:=by rw[hb]at eV;cases eV;rfl
 have d9:blk g O i=some b':=by simp[blk,hi,hb]
 have d6:=c9.free i b' d9;have fS:∀o,g.imm b' o=none:=d6.2 fun o ho=>by rw[hi]at ho;cases ho;rfl
 have b8:g.le (g.addImm b' vs.toList):=
  {imm:=fun c o v h=>by
    simp only[G.addImm]
    by_cases hc:c=b'
    ·rw[hc,fS o]at h;cases h
    ·rw[aE hc];exact h
   rho:=fun _ _ h=>h,hist:=fun _ _ _ h=>h,keep:=fun _ _ h=>h,io:=rfl }
 have eZ:∀j c,blk (g.addImm b' vs.toList) (O.del i) j=some c->j≠i/\blk g O j=some c:=by
  intro j c h
  by_cases hj:j=i
  ·subst hj;simp[blk,Sig.del]at h
  ·refine⟨hj,?_⟩;unfold blk at h⊢;simp only[Sig.del,hj,bc]at h;exact h
 refine⟨g.addImm b' vs.toList,b8,?_,GY hr b8⟩
 exact {
   imm:=fun c o v h=>by
    simp only[G.addImm]at h
    by_cases hc:c=b'
    ·rw[aG hc]at h
     subst hc
     simp only[World.cell?, b7]
     simpa using h
    ·rw[aE hc]at h;exact c9.imm c o v h
   keep:=c9.keep
   obj:=fun j o h=>by
    have hj:j≠i:=fun e=>by rw[e]at h;simp[Sig.del]at h
    simp only[Sig.del,hj,bc]at h
    refine(c9.obj j o h).mono b8 ?_
    intro sz m c o' cap e1 e2 e3 k _ hk
    simp only[G.addImm]
    by_cases hc:c=b'
    ·exfalso
     subst hc
     exact hj (c9.inj j i c (by rw[e1]at h;simp[blk,h,e2]) d9)
    ·rw[aE hc];exact hk
   inj:=fun j k c h1 h2=>c9.inj j k c (eZ j c h1).2 (eZ k c h2).2
   free:=fun j c h=>by
    obtain⟨hj,h'⟩:=eZ j c h
    obtain⟨h1,h2⟩:=c9.free j c h'
    refine⟨h1,fun hh o=>?_⟩
    have hc:c≠b':=fun e=>hj (c9.inj j i b' (e ▸ h') d9)
    simp only[G.addImm];rw[aE hc]
    exact h2 (fun x hx=>hh x (by simp only[Sig.del,hj,bc];exact hx)) o
   htop:=fun j sz n k h hk=>by
    have hj:j≠i:=fun e=>by rw[e]at h;simp[Sig.del]at h
    simp only[Sig.del,hj,bc]at h
    exact c9.htop j sz n k h hk
   hdom:=c9.hdom
   io:=c9.io
   tab:=c9.tab
   fin:=c9.fin }
omit ht in
theorem MC{g:G}{b:Nat}: ∀{a c:eO}{o:Nat},ju g b o (a++c)->ju g b o a
 |[],_,_,_=>trivial
 |_::_,_,_,⟨h1,h2⟩=>⟨h1,MC h2⟩
omit ht in
theorem KM{g:G}{b:Nat}: ∀{a c:eO}{o:Nat},ju g b o (a++c)->ju g b (o+a.length) c
 |[],_,_,h=>by simpa using h
 |x::a,_,o,⟨_,h2⟩=>by have:=KM h2;rwa [aS,ew a.length 1,<-cT]
omit ht in
theorem ET{g:G}{b sz:Nat}: ∀{es:eR}{o:Nat}{r:eO},(∀e∈es,e.length=sz)->ju g b o (es.flatten++r)->jn g b sz o es
 |[],_,_,_,_=>trivial
 |e::es,o,r,h,h2=>by
  rw[br,aO]at h2;refine⟨⟨h e j1,MC h2⟩,?_⟩;have:=KM h2;rw[h e j1]at this;exact ET (fun x hx=>h x (by simp[hx])) this
omit ht in
theorem Ku{t sz:Nat}{st:MR}{es:eR}(hm:mOK O sz st es)(hg:getD γ t=mD st es.length):Wk P n ⟨γ,mS O st es,df⟩ ⟨(t,.slice es .no)::γ,O,df⟩:=by
 cases st with
 |none=>
  obtain rfl:es=[]:=hm;exact C0 (by rw[hg];exact Ak _ (.inl rfl))
 | some x =>
  obtain⟨i,cap,rest⟩:=x;obtain⟨m1,m2,m3,m4⟩:=hm;intro g w a hs;have gc:=hs.tmps.2 t;rw[hg]at gc;obtain⟨b,hb,hv⟩:=gc;obtain⟨g',b8,fN,gB⟩:=hs.sim.freeze (i:=i) (w6 O i _) hb;refine⟨g',b8,⟨?_,⟨hs.tmps.1,fun k=>?_⟩,hs.df.mono b8⟩⟩
  ·have:(mS O (some (i,cap,rest)) es).del i=O:=Sig.set_del _ _ m1;simp only at fN;rw[this]at fN;exact fN
  ·rw[A8]
   by_cases hk:k=t
   ·rw[aG hk,hk];exact⟨_,cap,hv,m3,.inr ⟨sz,b,0,rfl,ET m4 gB⟩,trivial⟩
   ·rw[aE hk];exact Rep.mono b8 _ (hs.tmps.2 k)
end
def Sim.later{P:Program}{g:G}{O:Sig}{w w':World}(hs:Sim P g O w)(h:∀(k:Nat) x,w.heap[k]? = some x->w'.heap[k]? = some x)(gM:(w'.os,w'.output)=(w.os,w.output)):Sim P g O w' where
 imm:=fun b o v hb=>by
  have:=hs.imm b o v hb;unfold Go.World.cell? at this⊢;simp only at this⊢;cases hx:w.heap[b]? with
  |none=>rw[hx]at this;simp at this
  |some x=>rw[hx]at this;rw[h _ _ hx];exact this
 keep:=fun k o hk=>h _ _ (hs.keep k o hk)
 obj:=fun i o ho=>by
  have:=hs.obj i o ho;cases o with
  |cells ds=>obtain⟨b,vs,ty,h1,h2,h3⟩:=this;exact⟨b,vs,ty,h1,h _ _ h2,h3⟩
  |tcells ty ds=>obtain⟨b,vs,h1,h2,h3⟩:=this;exact⟨b,vs,h1,h _ _ h2,h3⟩
  |mcells ds=>obtain⟨b,vs,ty,h1,h2,h3⟩:=this;exact⟨b,vs,ty,h1,h _ _ h2,h3⟩
  |map l=>obtain⟨b,es,c,h1,h2,h3⟩:=this;exact⟨b,es,c,h1,h _ _ h2,h3⟩
  |tail sz n=>
   rcases this with h1|⟨b,o,cap,vs,ty,h1,h2,h3,h4⟩
   ·exact .inl h1
   ·exact .inr ⟨b,o,cap,vs,ty,h1,h2,h _ _ h3,h4⟩
  |loop st pe ps asg bo n γ did=>obtain⟨b,db,fn,tmps,h1,h2,h3,h4,h5⟩:=this;exact⟨b,db,fn,tmps,h1,h2,h3,h4,h _ _ h5⟩
  |defs=>obtain⟨b,h1,h2⟩:=this;exact⟨b,h1,h _ _ h2⟩
  |iter l la=>obtain⟨b,h1,h2⟩:=this;exact⟨b,h1,h2.imp (fun ⟨a,c,d⟩=>⟨a,c,h _ _ d⟩) (fun ⟨mb,es,c,seen,e1,r⟩=>⟨mb,es,c,seen,h _ _ e1,r⟩)⟩
 inj:=hs.inj
 free:=hs.free
 htop:=hs.htop
 hdom:=hs.hdom
 io:=gM.trans hs.io
 tab:=hs.tab
 fin:=hs.fin
def Lv{P:Program}{L:List FuncId}{n f:Nat}{args:Array Value}{w:World}{R:Ending->World->Prop}(h:∀D,CallsIn (Fence.list L (some D)) n P f args w R)(hL:∀f∈L,f<P.funcs.size)(r:Rx):
  CallsIn (FX P r) 0 P f args w R:=by
 refine⟨GK (hL f (h 0).1) _,fun cs _=>?_⟩;obtain⟨e,w',fr,h1,h2,h3,h4⟩:=(h (cs.length+1+n)).2 cs (fun d hd=>by cases hd;omega);refine⟨e,w',fr,h1,?_,h3,h4⟩
 have key:∀m m',StepsIn (Machine.fenced P (Fence.list L (some (cs.length+1+n)))) P m m'->StepsIn (Machine.fenced P (FX P r)) P m m':=fun m m' hs=>by
  refine StepsIn.mono (fun m hm g hg=>?_) hs;obtain⟨a1,a2,a3,a4⟩:=hm g hg;exact⟨(fun e=>by cases e),a2.imp (fun h=>GK (hL _ h) _) id,fun f hf=>GK (hL _ (a3 f hf)) _,GX P r _⟩
 cases e with
 |returned v=>exact key _ _ h2
 |panicked c=>exact key _ _ h2
 |outgrown=>exact h2
def Qg(P:Program)(l:Nat)(R:Ending->World->Prop):Exit->Act->World->Prop
 |.normal,_,w=> ∃v w',(Instr.endRound l none).run P w=.ok v w'/\R (.returned v) w'
 |.ret,_,w=> ∃v w',(Instr.endRound l (some .ret)).run P w=.ok v w'/\R (.returned v) w'
 |.exit id,_,w=> ∃v w',(Instr.endRound l (some (.exit id))).run P w=.ok v w'/\R (.returned v) w'
 |.panic chain,a,w=>a.defers=[]/\R (.panicked chain) w
 |_,_,_=>False
def II{F:Fence}{n:Nat}{P:Program}{l:Nat}{f:FuncId}{tmps:Array Value}{assign body:Code}{w:World}{R:Ending->World->Prop}(hF:F.fn f)(fY:f<P.funcs.size)
  (h:assign.wpIn (F.inRound l) n P (Exit.then (fun a₁ w₁ => ∃ w₂,(Instr.beginRound l).run P w₁ = .ok () w₂/\body.wpIn (F.inRound l) n P (Qg P l R) a₁ w₂) (fun _ _ _=>False))
   {tmps:=tmps,defers:=[] } w) :
  RoundIn F n P l f tmps assign body w R:=by
 refine⟨hF,fun c cs hr=>?_⟩
 let b:Frame:={ (default:Frame)with fn:=f,kind:=.normal,roundOf:=some l }
 have gS:Frame.round l f tmps assign body .normal=b.atR { tmps:=tmps,defers:=[] } [.code assign,.beginRound,.code body]:=by
  simp[Frame.round,Frame.atR,b]
 have fg:(F.inRound l).room ((c::cs).length+1+n):=hr;have fi:(F.inRound l).fn b.fn:=hF;obtain⟨e,a₁,w₁,hq,fa⟩:=h b [.beginRound,.code body] (c::cs) rfl fi fg;rw[<-gS]at fa;cases e with
 | normal =>
  obtain⟨w₂,gR,fD⟩:=hq
  have s1:StepsIn (Machine.fenced P (F.inRound l)) P (lone (b.atR a₁ [.beginRound,.code body]) (c::cs) w₁) (lone (b.atR a₁ [.code body]) (c::cs) w₂):=
   .one (dR (fr:=b.atR a₁ [.beginRound,.code body]) fi fg rfl) (stepR_beginRound rfl gR)
  obtain⟨e₂,a₂,w₃,fj,d7⟩:=fD b [] (c::cs) rfl fi fg;cases e₂ with
  |normal=>
   obtain⟨v,w₄,eY,hR⟩:=fj;exact⟨.returned v,w₄,hR,(dq fa s1).trans (dq d7 (.one (dR (fr:=b.atR a₂ []) fi fg rfl) (stepR_round_end rfl rfl eY)))⟩
  |ret=>
   obtain⟨v,w₄,eY,hR⟩:=fj;obtain⟨k₁,hs⟩:=d7.2 rfl;exact⟨.returned v,w₄,hR,(dq fa s1).trans (dq hs (.one (dR (fr:=b.atR a₂ (.code .ret::k₁)) fi fg rfl) (stepR_round_ret rfl rfl eY)))⟩
  |exit id=>
   obtain⟨v,w₄,eY,hR⟩:=fj;obtain⟨k₁,hk,hs⟩:=d7.2 rfl rfl;exact⟨.returned v,w₄,hR,(dq fa s1).trans (dq hs (.one (dR (fr:=b.atR a₂ (.code (.exit id)::k₁)) fi fg rfl) (stepR_round_exit rfl rfl hk eY)))⟩
  |panic chain=>
   obtain⟨hd,hR⟩:=fj;obtain⟨todo,hs⟩:=d7;have hl:({ b.atR a₂ todo with mode:=.panicking chain }:Frame).leaving P w₃ (.panicked chain):=⟨rfl,hd,_,bw fY⟩;exact⟨.panicked chain,w₃,hR,(dq fa s1).trans (dq hs (.one (fenced_leaving (n:=n) fi fg hl) (step_leave_panicked hl)))⟩
  |goto t=>exact fj.elim
  |outgrown=>exact fj.elim
 |exit id=>exact hq.elim
 |goto t=>exact hq.elim
 |ret=>exact hq.elim
 |panic chain=>exact hq.elim
 |outgrown=>exact hq.elim
def Qh{P:Program}{n l f:Nat}{tmps:Array Value}{assign body:Code}{w:World}{R:Ending->World->Prop}(r:Rx)(h:RoundIn (FX P {}) n P l f tmps assign body w R):RoundIn (FX P r) n P l f tmps assign body w R:=by
 refine⟨fun _=>h.1 rfl,fun c cs _=>?_⟩;obtain⟨e,w',h1,h2⟩:=h.2 c cs (GX P _ _);refine⟨e,w',h1,?_⟩
 have key:∀m m',StepsIn (Machine.fenced P (FX P {})) P m m'->StepsIn (Machine.fenced P (FX P r)) P m m':=fun m m' hs=>by
  refine StepsIn.mono (fun m hm g hg=>?_) hs;obtain⟨a1,a2,a3,a4⟩:=hm g hg;exact⟨(fun e=>by cases e),a2.imp (fun h _=>h rfl) id,(fun f hf _=>a3 f hf rfl),GX P r _⟩
 cases e with
 |returned v=>exact key _ _ h2
 |panicked c=>exact key _ _ h2
 |outgrown=>exact h2
structure kn(P:Program)(l:Nat)(args:eO)(O:Sig)(R:DE->Sig->Prop):Prop where
 run:∀g w vs,Sim P g O w->jE g args vs->∃b fn tmps asg body,g.rho l=some b/\(Instr.yield b vs.toArray).run P w=.ok (.round b fn tmps asg body) w /\ ∀r,RoundIn (FX P r) 0 P b fn tmps asg body w (Mi P g R)
def kn.mono{P:Program}{l:Nat}{args:eO}{O:Sig}{R R':DE->Sig->Prop}(h:kn P l args O R)(hr:∀x U',R x U'->R' x U'):kn P l args O R':=
 ⟨fun g w vs hs ha=>let ⟨b,fn,t,a,c,h1,h2,h3⟩:=h.run g w vs hs ha;⟨b,fn,t,a,c,h1,h2,fun r=>(h3 r).mono fun _ _ ⟨g',x,U',k1,k2,k3,k4⟩=>⟨g',x,U',k1,k2,k3,hr _ _ k4⟩⟩⟩
def PU:eQ->eO->Fr->Fr
 |p::ps,d::ds,γ=>PU ps ds ((p,d)::γ)
 |_,_,γ=>γ
def MA{g:G}{n:Nat}: ∀{ps:eQ}{ds:eO}{vs:List Value}{γ:Fr}{tmps:Array Value},kA g γ n tmps->jE g ds vs->ps.length=ds.length->(∀p∈ps,p<n)->
  kA g (PU ps ds γ) n ((ps.zip vs).foldl (fun t (x:Nat×Value)=>t.setIfInBounds x.1 x.2) tmps)
 |[],[],_,_,_,h,_,_,_=>h
 |[],_::_,_,_,_,_,_,hl,_=>by simp at hl
 |_::_,[],_,_,_,_,_,hl,_=>by simp at hl
 |p::ps,d::ds,_,γ,tmps,h,⟨v,r,e,h1,h2⟩,hl,hp=>by
  subst e;have : kA g ((p, d) :: γ) n (tmps.setIfInBounds p v) := kA.put (o := ⟨some p, .move (.tmp 0), 0, "", #[], none⟩) (a := { tmps := tmps, defers := [] }) h h1 (by simp [Ax, hp p j1]);exact MA (ps:=ps) (ds:=ds) (γ:=(p,d)::γ) (tmps:=tmps.setIfInBounds p v) this h2 (by simpa using hl) (fun q hq=>hp q (by simp[hq]))
section
variable {P:Program}{ro:Ro}{n:Nat}{ops:Array Oper}{Q:DX->St->Prop}{rest:List Oper}{γ:List (Nat×D)}{O:Sig}{df:List DDf}
theorem R7{fop:Operand}{args:Array Operand}{ats:Array TypeId}{dst:Option Tmp}{ty:TypeId}{pos:String}{after:Array Edge}{guard:Option (Nat×Bool)}{l:Nat}{R:DE->Sig->Prop}
  (hw:AJ ops γ ⟨dst,(cv fop args ats),ty,pos,after,guard⟩=some true)
  (hf:ev γ fop=.yld l) (h:kn P l (args.toList.map (ev γ)) O R)
  (ho:Ax n ⟨dst,(cv fop args ats),ty,pos,after,guard⟩=true)
  (fe:∀d U',R (.ret d) U'->au P ro n ops Q rest ⟨putD dst d γ,U',df⟩)
  (fh:∀d U',R (.panic d) U'->Q (.panic d) ⟨γ,U',df⟩) :
  au P ro n ops Q (⟨dst,(cv fop args ats),ty,pos,after,guard⟩::rest) ⟨γ,O,df⟩:=by
 intro g w a r hr hs;unfold wpListIn;rw[AW hs.tmps hw,aG rfl];have fb:=As hs.tmps fop;rw[hf]at fb;obtain⟨b,hb,fb⟩:=fb
 have fq:(resolve a.eval { callee:=.value fop,args,argTypes:=ats } ty).run P w=.ok { target:=.fn (.yield b) #[],args:=args.map a.eval } w:=by
  simp[resolve,fb,Deferred.ofValue,Sem.run]
 refine⟨fun f' fy=>?_,?_⟩
 ·simp only[Oper.about,fq,Target.leads]at fy;cases fy
 ·rw[cX _ _ _ (fun c e=>by cases e)];obtain⟨b',fn,tmps,asg,body,h1,h2,h3⟩:=h.run g w _ hs.sim (E4 hs.tmps args.toList);obtain rfl:b'=b:=by rw[hb]at h1;cases h1;rfl
  have b6:(execOp a.eval ⟨dst,(cv fop args ats),ty,pos,after,guard⟩).run P w=.ok (.round b' fn tmps asg body) w:=by
   have e:(args.toList.map a.eval).toArray=args.map a.eval:=da j1;rw[e]at h2;simp only[execOp,aP,fq,aJ,invoke,h2]
  rw[b6];refine⟨fun h=>(by cases h),?_⟩;refine(h3 r).mono ?_
  rintro e w' ⟨g',x,U',k1,k2,k3,k4⟩
  cases x with
  |ret d=>
   obtain⟨v,rfl,h5⟩:=k3;exact AO k1 _ (fe d U' k4 g' w' _ r (hr.mono k1) (hs.put (o:=⟨dst,(cv fop args ats),ty,pos,after,guard⟩) k1 k2 h5 ho))
  |panic d=>
   obtain⟨v,rfl,h5⟩:=k3;exact⟨g',⟨γ,U',df⟩,.panic d,k1,⟨k2,hs.tmps.mono k1,hs.df.mono k1⟩,⟨v,rfl,h5⟩,fh d U' k4⟩
end
def Sim.setLoop{P:Program}{g:G}{O:Sig}{w:World}(hs:Sim P g O w){l:Nat}{st st':LoopState}{pe pe':Option Code}{ps:Array Tmp}{asg body:Code}{n:Nat}{γ:Fr}{did:Nat}(hZ:O l=some (.loop st pe ps asg body n γ did)):
  ∃b r,g.rho l=some b/\(Instr.getLoop b).run P w=.ok r w/\r.state=st/\r.pending=pe/\r.params=ps/\r.assign=asg/\r.body=body/\kA g γ n r.tmps/\r.fn<P.funcs.size /\
   ∃w',(Go.setObj b (.loop { r with state:=st',pending:=pe' })).run P w=.ok () w'/\Sim P g (O.set l (.loop st' pe' ps asg body n γ did)) w':=by
 obtain⟨b,db,fn,tmps,h1,h2,h3,h4,h5⟩:=hs.obj _ _ hZ;refine⟨b,{ state:=st,pending:=pe,fn,tmps,params:=ps,assign:=asg,body,defers:=db },h1,?_,rfl,rfl,rfl,rfl,rfl,h4,h3,setB w b (.loop { state:=st',pending:=pe',fn,tmps,params:=ps,assign:=asg,body,defers:=db }),?_,?_⟩
 ·simp[Instr.getLoop,getObj,Sem.run,h5]
 ·simp[Go.setObj,Sem.run,h5,setB]
 ·exact hs.setAny hZ rfl rfl h1 h5 ⟨b,db,fn,tmps,h1,h2,h3,h4,Fl h5⟩
def Y3(l:Nat)(ps:Array Tmp)(asg body:Code)(n:Nat)(Sl:Fr)(did:Nat)(R:DE->Sig->Prop):DX->St->Prop
 |.normal,s=>s.O l=some (.loop .busy none ps asg body n Sl did)/\R (.ret (.bool true)) (s.O.set l (.loop .ready none ps asg body n Sl did))
 |.ret,s=>s.O l=some (.loop .busy none ps asg body n Sl did)/\R (.ret (.bool false)) (s.O.set l (.loop .done (some .ret) ps asg body n Sl did))
 |.exit id,s=>s.O l=some (.loop .busy none ps asg body n Sl did)/\R (.ret (.bool false)) (s.O.set l (.loop .done (some (.exit id)) ps asg body n Sl did))
 |.panic d,s=>s.df=[]/\R (.panic d) s.O
def M7{P:Program}{l:Nat}{args:eO}{O:Sig}{R:DE->Sig->Prop}{ps:Array Tmp}{asg body:Code}{n:Nat}{Sl:Fr}{did:Nat}(hZ:O l=some (.loop .ready none ps asg body n Sl did))
  (hl:ps.toList.length=args.length) (hp:∀p∈ps.toList,p<n)
  (h:DWp P (.some l) n asg (ka (fun s=>s.O l=some (.loop .ready none ps asg body n Sl did)/\DWp P (.some l) n body (Y3 l ps asg body n Sl did R) { s with O:=s.O.set l (.loop .busy none ps asg body n Sl did) }) (fun _ _=>False)) ⟨PU ps.toList args Sl,O,[]⟩) :
  kn P l args O R:=by
 refine⟨fun g w vs hs ha=>?_⟩;obtain⟨b,r,h1,h2,e1,e2,e3,e4,e5,h3,h4,_⟩:=hs.setLoop (st':=.busy) (pe':=none) hZ;have hsz:vs.length=ps.toList.length:=by rw[jE.length ha,hl]
 refine⟨b,r.fn,(ps.toList.zip vs).foldl (fun t (x:Nat×Value)=>t.setIfInBounds x.1 x.2) r.tmps,asg,body,h1,?_,fun rr=>?_⟩
 ·unfold Instr.yield;rw[aP,h2,aJ];have hne:¬vs.toArray.size≠r.params.size:=by rw[e3];simpa using hsz
  rw[aE hne,e3,e4,e5];rw[bi]
  congr 2
  rw[<-ei];simp
 ·refine Qh rr (II (F:=FX P {}) (GK h4 _) h4 ?_);have hT:=MA (ps:=ps.toList) h3 ha hl hp;refine dc (h g w { tmps:=_,defers:=[] } { rd:=some b } ⟨b,rfl,h1⟩ ⟨hs,hT,rfl⟩) ?_
  rintro e a w1 ⟨g1,s1,x,l1,l2,l3,l4⟩
  cases x with
  | normal =>
   obtain rfl:=l3;obtain⟨m1,m2⟩:=l4;obtain⟨b',r',k1,k2,f1,f2,f3,f4,f5,_,_,w2,k3,k4⟩:=l2.sim.setLoop (st':=.busy) (pe':=none) m1;obtain rfl:b'=b:=by rw[l1.rho _ _ h1]at k1;cases k1;rfl
   refine⟨w2,?_,?_⟩
   ·unfold Instr.beginRound;rw[aP,k2,aJ,aP];have er:({ r' with state:=.busy }:Loop)={ r' with state:=.busy,pending:=none }:=by rw[<-f2]
    rw[er,k3,aJ,f1];rfl
   ·refine dc (m2 g1 w2 a { rd:=some b' } ⟨b',rfl,k1⟩ ⟨k4,l2.tmps,l2.df⟩) ?_
    rintro e a' w3 ⟨g2,s2,x,n1,n2,n3,n4⟩
    have fin:∀(jump:Option Code) (st':LoopState) (bv:Bool),st'=(if jump.isNone then .ready else .done)->jump.isNone=bv->s2.O l=some (.loop .busy none ps asg body n Sl did)->R (.ret (.bool bv)) (s2.O.set l (.loop st' jump ps asg body n Sl did))->
      ∃v w',(Instr.endRound b' jump).run P w3=.ok v w'/\Mi P g R (.returned v) w':=by
     intro jump st' bv fo gQ m1 m2;obtain⟨b2,r2,q1,q2,_,_,_,_,_,_,_,w4,q3,q4⟩:=n2.sim.setLoop (st':=st') (pe':=jump) m1;obtain rfl:b2=b':=by rw[n1.rho _ _ k1]at q1;cases q1;rfl
     refine⟨.bool jump.isNone,w4,?_,g2,.ret (.bool bv),_,(l1.trans n1),q4,⟨_,rfl,by rw[gQ];rfl⟩,m2⟩;unfold Instr.endRound;rw[aP,q2,aJ,aP,<-fo,q3,aJ];rfl
    cases x with
    |normal=>obtain rfl:=n3;exact fin none .ready true rfl rfl n4.1 n4.2
    |ret=>obtain rfl:=n3;exact fin (some .ret) .done false rfl rfl n4.1 n4.2
    |exit id=>obtain rfl:=n3;exact fin (some (.exit id)) .done false rfl rfl n4.1 n4.2
    |panic d=>
     obtain⟨v,rfl,hv⟩:=n3;exact⟨EU n2.df n4.1,g2,.panic d,s2.O,l1.trans n1,n2.sim,⟨v,rfl,hv⟩,n4.2⟩
  |exit id=>exact l4.elim
  |ret=>exact l4.elim
  |panic d=>exact l4.elim
section
variable {P:Program}{n:Nat}{Q:DX->St->Prop}{γ:List (Nat×D)}{O:Sig}{df:List DDf}
theorem Qf{P:Program}(o:Obj)(w:World):(newObj o).run P w=.ok w.heap.size { w with heap:=w.heap.push o }:=by
 simp[newObj,Sem.run]
theorem Sim.newObj2{g:G}{w:World}(hs:Sim P g O w){ps:Array Tmp}{asg body:Code}{fn:Nat}{tmps:Array Value}(fJ:fn<P.funcs.size)(hT:kA g γ n tmps):
  ∃did l,O did=none/\O l=none/\l≠did /\ ∃g',g.le g'/\g'.rho l=some (w.heap.size+1)/\g'.rho did=some w.heap.size /\
   Sim P g' ((O.set did .defs).set l (.loop .ready none ps asg body n γ did)) { w with heap:=(w.heap.push (.deferred (some []))).push (.loop { state:=.ready,pending:=none,fn,tmps,params:=ps,assign:=asg,body,defers:=w.heap.size }) }:=by
 obtain⟨did,hd,gg⟩:=hs.fresh;have h1:=hs.newObj (o:=.deferred (some [])) hd gg (d:=.defs) rfl ⟨w.heap.size,by simp[G.bind],j1⟩;obtain⟨l,hl,gb⟩:=h1.fresh;have hne:l≠did:=fun e=>by rw[e]at hl;simp[G.bind]at hl
 have gV:=hT.mono (G.bind_le (b:=w.heap.size) hd)
 have h2:=h1.newObj (o:=.loop { state:=.ready,pending:=none,fn,tmps,params:=ps,assign:=asg,body,defers:=w.heap.size }) hl gb (d:=.loop .ready none ps asg body n γ did) rfl
  ⟨w.heap.size+1,w.heap.size,fn,tmps,by simp[G.bind],by simp[G.bind,cg hne],fJ,gV.mono (G.bind_le (b:=(w.heap.push (.deferred (some []))).size) hl),by rw[show w.heap.size+1=(w.heap.push (.deferred (some []))).size by simp];exact dp⟩
 have fP:((g.bind did w.heap.size).bind l (w.heap.push (.deferred (some []))).size).rho l=some (w.heap.size+1):=by simp[G.bind]
 refine⟨did,l,gg,?_,hne,_,(G.bind_le hd).trans (G.bind_le hl),fP,by simp[G.bind,cg hne],h2⟩
 rwa [w7 _ _ hne]at gb
theorem HR{gop:Operand}{ps:Array Tmp}{asg body:Code}{f:Nat}{first cap:eO}{R:Nat->Nat->DE->Sig->Prop}
  (hf:ev γ gop=.func (.func f) first cap)
  (fC:∀l did,O did=none->O l=none->l≠did->ar P f (first++[.yld l]++cap) ((O.set did .defs).set l (.loop .ready none ps asg body n γ did)) (R l did))
  (fe : ∀ l did d U',O did=none->O l=none->l ≠ did->R l did (.ret d) U' -> ∃ st pend,U' l=some (.loop st pend ps asg body n γ did)/\st ≠ .busy /\
   (match pend with|none=>Q .normal ⟨γ,U'.del l,.coll did::df⟩|some c=>DWp P .none n c Q ⟨γ,U'.del l,.coll did::df⟩))
  (fh:∀l did d U',O did=none->O l=none->l≠did->R l did (.panic d) U'->Q (.panic d) ⟨γ,U',.coll did::df⟩) :
  DWp P .none n (.rangeFunc gop ps asg body) Q ⟨γ,O,df⟩:=by
 intro g w a r hr hs;obtain rfl:r={}:=hr;refine wpIn_rangeFunc fun fn fJ=>?_;obtain⟨did,l,hd,hl,hne,g',b8,f7,f8,fc⟩:=hs.sim.newObj2 (ps:=ps) (asg:=asg) (body:=body) (fn:=fn) (fJ rfl) hs.tmps;have hc:=fC l did hd hl hne;have fb:=As hs.tmps gop;rw[show ev (St.mk γ O df).γ gop=.func (.func f) first cap from hf]at fb;obtain⟨fs,cs,fb,fP,gC⟩:=fb
 let w1:World:={ w with heap:=(w.heap.push (.deferred (some []))).push (.loop { state:=.ready,pending:=none,fn,tmps:=a.tmps,params:=ps,assign:=asg,body,defers:=w.heap.size }) }
 refine⟨w.heap.size+1,[{ target:=.collected w.heap.size,args:= #[] }],w1,{ target:=.fn (.func f) cs.toArray,args:=fs.toArray ++ #[.func (.yield (w.heap.size+1)) #[] #[]] },w1,f,fs.toArray ++ #[.func (.yield (w.heap.size+1)) #[] #[]]++cs.toArray,w1,?_,?_,?_,?_,(fun h=>by cases h),?_⟩
 ·unfold Instr.enterLoop;simp only[FX,aP,Qf,aJ,bi];simp only[Array.size_push];rfl
 ·simp only[resolve,rangeCall];rw[fb];simp only[Deferred.ofValue];rw[bi];simp[Act.eval]
 ·intro f' fy;simp only[Target.leads,bE]at fy;subst fy;exact GK hc.lt _
 ·exact hc.ent _ _
 ·have fE:jE g' (first++[.yld l]++cap) (fs++[Value.func (.yield (w.heap.size+1)) #[] #[]]++cs):=
   ((jE.mono b8 _ fP).append (show jE g' [.yld l] [.func (.yield (w.heap.size+1)) #[] #[]] from⟨_,_,rfl,⟨_,f7,rfl⟩,rfl⟩)).append (jE.mono b8 _ gC)
  have b6:=hc.run g' w1 _ fc fE;have e:(fs++[Value.func (.yield (w.heap.size+1)) #[] #[]]++cs).toArray=fs.toArray ++ #[Value.func (.yield (w.heap.size+1)) #[] #[]]++cs.toArray:=by simp
  rw[e]at b6;refine CallsIn.mono b6 ?_
  rintro en w3 ⟨g3,x,U',l1,l2,l3,l4⟩
  cases x with
  |panic d=>
   obtain⟨v,rfl,hv⟩:=l3;exact⟨g3,⟨γ,U',.coll did::df⟩,.panic d,b8.trans l1,⟨l2,(hs.tmps.mono b8).mono l1,⟨_,_,rfl,l1.rho _ _ f8,(hs.df.mono b8).mono l1⟩⟩,⟨v,rfl,hv⟩,fh l did d U' hd hl hne l4⟩
  | ret d =>
   obtain⟨v,rfl,hv⟩:=l3;obtain⟨st,pend,k1,k2,k3⟩:=fe l did d U' hd hl hne l4;obtain⟨b,rr,q1,q2,q3,q4,q5,q6,q7,_,_,w4,q8,q9⟩:=l2.setLoop (st':=.exhausted) (pe':=pend) k1;obtain rfl:b=w.heap.size+1:=by rw[l1.rho _ _ f7]at q1;cases q1;rfl
   have hS:kI P g3 n ⟨γ,U'.del l,.coll did::df⟩ { a with defers:=[{ target:=.collected w.heap.size,args:= #[] }]++a.defers } w4:=
    ⟨q9.sub (fun j o hj=>by
     by_cases fZ:j=l
     ·subst fZ;simp[Sig.del]at hj
     ·rw[w7 _ _ fZ];simpa[Sig.del,fZ] using hj),(hs.tmps.mono b8).mono l1,⟨_,_,rfl,l1.rho _ _ f8,(hs.df.mono b8).mono l1⟩⟩
   refine⟨pend,w4,?_,?_⟩
   ·unfold Instr.endLoop;rw[aP,q2,aJ];have fo:(rr.state==LoopState.busy)=false:=by rw[q3];cases st<;>first|rfl|exact absurd rfl k2
    simp only[fo,bm,bc];rw[aP];have er:({ rr with state:=.exhausted }:Loop)={ rr with state:=.exhausted,pending:=pend }:=by rw[<-q4]
    rw[er,q8,aJ,q4];rfl
   ·cases pend with
    |none=>exact⟨g3,_,.normal,b8.trans l1,hS,rfl,k3⟩
    |some c=>exact dc (k3 g3 w4 _ {} rfl hS) fun _ _ _ p=>p.le (b8.trans l1)
end
def Sim.kill{P:Program}{g:G}{O:Sig}{w:World}(hs:Sim P g O w){i b:Nat}{d:jP}{o x:Obj}(hi:O i=some d)(ht:d.isTail=false)(hb:g.rho i=some b)(hx:w.heap[b]? = some x):Sim P g (O.del i) (setB w b o):=by
 have d9:blk g O i=some b:=by unfold blk;rw[hi];cases d<;>first|exact hb|(cases ht;done)
 have d6:=hs.free i b d9;have fS:∀o,g.imm b o=none:=d6.2 fun o ho=>by rw[hi]at ho;cases ho;exact ht
 have fB:∀j o,O.del i j=some o->j≠i/\O j=some o:=fun j o h=>by
  by_cases hj:j=i
  ·subst hj;simp[Sig.del]at h
  ·exact⟨hj,by simpa[Sig.del,hj] using h⟩
 have b9:=hs.sub (U':=O.del i) fun j o h=>(fB j o h).2
 exact {
  imm:=fun c o v h=>by
   have hc:c≠b:=fun e=>by rw[e,fS o]at h;cases h
   have:=hs.imm c o v h
   unfold World.cell? at this⊢
   simp only at this⊢
   rw[Fk hc];exact this
  keep:=fun k o h=>by
   have hc:k≠b:=fun e=>by rw[e,d6.1]at h;cases h
   rw[Fk hc];exact hs.keep k o h
  obj:=fun j o h=>by
   obtain⟨hj,h'⟩:=fB j o h
   exact(hs.obj j o h').setB h' fun e=>hj (hs.inj j i b e d9)
  inj:=b9.inj,free:=b9.free,htop:=b9.htop,hdom:=b9.hdom,fin:=b9.fin,io:=b9.io,tab:=b9.tab }
def dels(js:eQ)(O:Sig):Sig:=js.foldl Sig.del O
def G8{P:Program}{r:Rx}{fn:Func}{tmps:Array Value}{R:Ending->World->Prop}{u:FrameMode}(hu:u≠.run): ∀(js:eQ) {g:G}{O:Sig}{w:World}{ds:List Deferred},Sim P g O w->RepDf g (js.map .coll) ds->js.Nodup->(∀j∈js,O j=some .defs)->
  (∀w',Sim P g (dels js O) w'->LeavesIn (FX P r) 0 P fn tmps R [] u w')->LeavesInM (FX P r) 0 P fn tmps R ds u w
 |[],g,O,w,ds,hs,hd,_,_,h=>by
  obtain rfl:ds=[]:=hd;exact h w hs
 | j::js,g,O,w,ds,hs,⟨b,rest,gO,hb,fp⟩,hn,hj,h=>by
  subst gO;obtain⟨b',eV,hh⟩:=hs.obj j _ (hj j j1);obtain rfl:b'=b:=by rw[hb]at eV;cases eV;rfl
  refine⟨hu,.inl ⟨b',setB w b' (.deferred none),rfl,?_,G8 hu js (hs.kill (hj j j1) rfl hb hh) fp (dZ.1 hn).2 (fun k hk=>?_) h⟩⟩
  ·simp[Instr.takeDeferred,getObj,setObj,Sem.run,hh,setB]
  ·have:k≠j:=fun e=>(dZ.1 hn).1 (e ▸ hk);simp only[Sig.del,this,bc];exact hj k (by simp[hk])
def Rm(P:Program)(n:Nat)(fn:Func)(R:DE->Sig->Prop):DX->St->Prop
 |.normal,s|.ret,s=> ∃js,s.df=js.map .coll/\js.Nodup/\(∀j∈js,s.O j=some .defs) /\ ∃d,NZ P n fn ⟨s.γ,dels js s.O,[]⟩ d/\R (.ret d) (dels js s.O)
 |.panic d,s=> ∃js,s.df=js.map .coll/\js.Nodup/\(∀j∈js,s.O j=some .defs)/\R (.panic d) (dels js s.O)
 |.exit _,_=>False
def FA{P:Program}{f:Nat}{fn:Func}{c:Code}{args:eO}{O:Sig}{R:DE->Sig->Prop}(hf:P.funcs[f]? = some fn)(hb:fn.body=some c)
  (gF : (fn.name == "runtime.NumGoroutine") = false) {m : Nat} (hm : fn.ntmps = m) (hn : args.length <= m) (h : DWp P .none m c (fun x s => ∃ s', Wk P m s s' /\ Rm P m fn (Weak R) x s') { γ := BV 0 args, O }) : ar P f args O R := by
 refine Ii ⟨(aI.1 hf).1,C8 hf gF (by rw[hb];rfl),fun g w vs hs ha=>?_⟩;refine callsIn_of_wp_marks hf hb (by obtain⟨h1,_⟩:=aI.1 hf;exact GK h1 _) ?_ rfl;subst hm;refine dc (h g w _ {} rfl ⟨hs,ES ha hn,rfl⟩) ?_
 rintro e a w' ⟨g',s1,x,h1,h2,h3,s2,gq,h4⟩
 obtain⟨g2,fw,eU⟩:=gq _ _ _ h2;have gk:=h1.trans fw
 have ret:∀(js:eQ),s2.df=js.map .coll->js.Nodup->(∀j∈js,s2.O j=some .defs)->(∃d,NZ P fn.ntmps fn ⟨s2.γ,dels js s2.O,[]⟩ d/\Weak R (.ret d) (dels js s2.O))->
   LeavesInM (FX P {}) 0 P fn a.tmps (Mi P g (Weak R)) a.defers .returning w':=by
  intro js e1 e2 e3 ⟨d,hr,hR⟩;have fA:=eU.df;rw[e1]at fA;refine G8 j1 js eU.sim fA e2 e3 fun w3 fG=>?_;obtain⟨v,hv,ff⟩:=hr g2 { a with defers:=[] } w3 ⟨fG,eU.tmps,rfl⟩;exact⟨v,hv,g2,.ret d,_,gk,fG,⟨v,rfl,ff⟩,hR⟩
 cases x with
 |normal=>
  obtain rfl:=h3;obtain⟨js,e1,e2,e3,e4⟩:=h4;exact ret js e1 e2 e3 e4
 |ret=>
  obtain rfl:=h3;obtain⟨js,e1,e2,e3,e4⟩:=h4;exact ret js e1 e2 e3 e4
 |panic d=>
  obtain⟨v,rfl,ff⟩:=h3;obtain⟨js,e1,e2,e3,hR⟩:=h4;have fA:=eU.df;rw[e1]at fA;refine G8 j1 js eU.sim fA e2 e3 fun w3 fG=>?_;exact⟨g2,.panic d,_,gk,fG,⟨v,rfl,Rep.mono fw _ ff⟩,hR⟩
 |exit i=>exact h4.elim
end Go.DL
