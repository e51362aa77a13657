/- A part of the proof. -/
import Derived.Test.YteldimffglchkaaGreatDoorN05
import Derived.Laws.StructEq
import Derived.RangeFuncLeaves
set_option linter.all false
namespace Go.DL
open Go
def eqD1:TyK->D->D->Option Bool
 |.int _,.int k a,.int k' b=>if k=k' then some (decide (a=b)) else none
 |.str,.str a,.str b=>some (decide (a=b))
 |.bool,.bool a,.bool b=>some (decide (a=b))
 |_,_,_=>none
@[simp] theorem eqD1_i(q k:IntKind)(a b:Int):eqD1 (.int q) (.int k a) (.int k b)=some (decide (a=b)):=by simp[eqD1]
@[simp] theorem eqD1_s(a b:List UInt8):eqD1 .str (.str a) (.str b)=some (decide (a=b)):=rfl
@[simp] theorem eqD1_b(a b:Bool):eqD1 .bool (.bool a) (.bool b)=some (decide (a=b)):=rfl
@[simp] def eqFs (tab:Nat->Ty) (xs ys:List D):List (Nat × Nat)->Option Bool
 |[]=>some true
 | (off,ft)::fs=>match A1 (tab ft).k || (tab ft).agg with
  |true=>none
  | false=>match KB (tab ft) xs off,KB (tab ft) ys off with
   |some a,some b=>match eqD1 (tab ft).k a b,eqFs tab xs ys fs with
    |some r,some q=>some (r&&q)
    |_,_=>none
   |_,_=>none
def EqTy (P : Program) (t : Nat) : Prop := P.eqGuardType P.depth t = false /\ P.stoodInHeld t = false /\ (P.fieldsOf t).toList.all (fun f => !(f.name == "_")) = true
section
variable {P:Program}{tab:Nat->Ty}(ht:AZ P tab){g:G}{w:World}
include ht
theorem Tf{t d:Nat}{a b:D}{r:Bool}{u v:Value}(hk:A1 (tab t).k=false)(h:eqD1 (tab t).k a b=some r)(hu:Rep g a u)(hv:Rep g b v):(Op.equalIn (d+1) t u v).run P w=.ok r w:=by
 have ap:=ht t
 unfold eqD1 at h
 split at h<;>(try (cases h;done))
 ·rename_i q k x k' y hq
  split at h<;>(try (cases h;done))
  rename_i a8
  cases h;subst a8
  rw[AQ hu,AQ hv]
  unfold TyOK at ap
  rw[hq]at ap
  obtain⟨_,desc,_,_,h2,h3,_⟩:=ap
  cases desc<;>simp only[KOK]at h3<;>(try (exact h3.elim))
  rw[run_equalIn_int w d t k _ x y h2,Eu]
 ·rename_i x y hq
  cases h
  rw[EE hu,EE hv]
  unfold TyOK at ap
  rw[hq]at ap
  obtain⟨_,desc,_,_,h2,h3,_⟩:=ap
  cases desc<;>simp only[KOK]at h3<;>(try (exact h3.elim))
  rw[run_equalIn_string w d t _ _ h2]
  simp[ByteArray.toList_eq,Eu]
 ·rename_i x y hq
  cases h
  rw[G5 hu,G5 hv]
  unfold TyOK at ap
  rw[hq]at ap
  obtain⟨_,desc,_,_,h2,h3,_⟩:=ap
  cases desc<;>simp only[KOK]at h3<;>(try (exact h3.elim))
  rw[run_equalIn_bool' w d t x y h2,Eu]
theorem I8{t:Nat}{cs:List D}{off:Nat}{d:D}{vs:List Value}(hk:A1 (tab t).k=false)(ha:(tab t).agg=false)(h:KB (tab t) cs off=some d)(hr:RepL g cs vs):
  ∃v,(part t vs.toArray off).run P w=.ok v w/\Rep g d v:=by
 unfold KB at h
 rw[ha]at h
 simp only[Bool.false_eq_true,if_false]at h
 have hl:=RepL.length hr
 have br:off<cs.length:=by
  rcases Nat.lt_or_ge off cs.length with h'|h'
  ·exact h'
  ·rw[List.getElem?_eq_none h']at h;cases h
 have hv:vs[off]? = some vs[off]:=List.getElem?_eq_getElem (by omega)
 refine⟨vs[off],?_,?_⟩
 ·unfold part
  simp only[Sem.run_bind,I4 (ht t) (Ae hk),Result.andThen_ok,ha,Bool.false_eq_true,if_false,List.getElem?_toArray,hv,Sem.run_pure]
 ·have:=RepL.get hr off
  rw[h,hv]at this
  exact this
theorem Ml {d : Nat} {xs ys : List D} {us vs : List Value} (hx : RepL g xs us) (hy : RepL g ys vs) : ∀ {fs : List Field} {r : Bool}, fs.all (fun f => !(f.name == "_")) = true -> eqFs tab xs ys (fs.map fun f => (f.offset, f.type)) = some r ->
  (Op.eqFields (d+1) us.toArray vs.toArray fs).run P w=.ok r w
 |[],r,_,h=>by simp only[List.map_nil,eqFs]at h;cases h;simp[Op.eqFields]
 | f::fs,r,hn,h=>by
  simp only[List.all_cons,Bool.and_eq_true]at hn
  simp only[List.map_cons,eqFs]at h
  split at h<;>(try (cases h;done))
  rename_i a8
  simp only[Bool.or_eq_false_iff]at a8
  obtain⟨hk,bF⟩:=a8
  split at h<;>(try (cases h;done))
  rename_i a b ha hb
  split at h<;>(try (cases h;done))
  rename_i r1 q h1 h2
  cases h
  obtain⟨u,bP,bO⟩:=I8 ht (w:=w) hk bF ha hx
  obtain⟨v,bN,bM⟩:=I8 ht (w:=w) hk bF hb hy
  have bU : f.name ≠ "_" := by simpa using hn.1
  simp only[Op.eqFields,bU,ne_eq,not_false_eq_true,if_true,Sem.run_bind,bP,bN,Result.andThen_ok,Tf ht hk h1 bO bM]
  cases r1
  ·simp
  ·simp only[Bool.not_true,Bool.false_eq_true,if_false,Bool.true_and]
   exact Ml hx hy hn.2 h2
theorem eqS_run{T:Nat}{fs:List (Nat×Nat)}{xs ys:List D}{r:Bool}{us vs:List Value}(hE:EqTy P T)(hk:(tab T).k=.struct fs)(h:eqFs tab xs ys fs=some r)(hx:RepL g xs us)(hy:RepL g ys vs):
  (Op.equalIn 10000 T (.agg us.toArray) (.agg vs.toArray)).run P w=.ok r w:=by
 obtain⟨h1,h2,h3⟩:=hE
 have ap:=ht T
 unfold TyOK at ap
 rw[hk]at ap
 obtain⟨_,desc,_,_,h4,h5,_⟩:=ap
 cases desc<;>simp only[KOK]at h5<;>(try (exact h5.elim))
 rename_i fl _
 have hf:P.fieldsOf T=fl:=by unfold Program.fieldsOf;rw[h4]
 rw[run_equalIn_agg w 9999 T us.toArray vs.toArray (by rw[h4,hf]) h2,hf]
 rw[hf]at h3
 rw[<-h5]at h
 exact Ml (d:=9998) ht hx hy h3 h
theorem HC{O:Sig}(hs:Sim P g O w){T u:Nat}{fs:List (Nat×Nat)}{xs ys:List D}{r:Bool}{x y:Operand}{dst:Option Tmp}{ty:TypeId}{pos:String}{after:Array Edge}{guard:Option (Nat×Bool)}{γ:Fr}{n:Nat}{a:Act}(hT:RepT g γ n a.tmps)
  (hE:EqTy P T) (hk:(tab T).k=.struct fs) (hx:ev γ x=.agg xs) (hy:ev γ y=.agg ys) (h:eqFs tab xs ys fs=some r) (neg:Bool) :
  ORun P g O (.bool (neg != r)) (execOp a.eval ⟨dst,.binOp (match neg with|true=>.neq|false=>.eql) T x y u,ty,pos,after,guard⟩) w:=by
 have h1:=Ah hT x
 have h2:=Ah hT y
 rw[hx]at h1;rw[hy]at h2
 obtain⟨us,e1,r1⟩:=h1
 obtain⟨vs,e2,r2⟩:=h2
 have aa:=eqS_run ht (w:=w) hE hk h r1 r2
 refine⟨g,w,.bool (neg != r),?_,.refl g,hs,rfl⟩
 have hg:∀o,(eqGuard o T x y (.agg us.toArray) (.agg vs.toArray)).run P w=.ok () w:=fun o=>run_eqGuard_agg w o T x y _ _ hE.1
 simp only[execOp,Sem.run_bind,e1,e2,hg,Result.andThen_ok]
 cases neg
 ·simp only[run_eql_struct,aa,Result.andThen_ok]
  cases r<;>rfl
 ·simp only[run_neq_struct,aa,Result.andThen_ok]
  cases r<;>rfl
end
section
variable {P:Program}{ro:Ro}{n:Nat}{ops:Array Oper}{N:Nat}{S0:Sig}{Q:DX->St->Prop}{df:List DDf}{rest:List Oper}{γ Sr:List (Nat×D)}{O:Sig}{t:Nat}{ty:TypeId}{pos:String}{after:Array Edge}{l:List (Bool×Oper)}{e:Bool}
theorem If{tab:Nat->Ty}(ht:AZ P tab){T u:Nat}{x y:Operand}{fs:List (Nat×Nat)}{xs ys:List D}{r:Bool}(hE:EqTy P T)(aL:decide (t<n)=true)(hl:A0 γ (A5 [x,y])=some Sr)(hx:ev Sr x=.agg xs)(hy:ev Sr y=.agg ys)(hk:(tab T).k=.struct fs)(hd:eqFs tab xs ys fs=some r)
  (h:MO P ro n ops N S0 Q df l ((t,.bool (!r))::γ) O):MO P ro n ops N S0 Q df ((e,⟨some t,.binOp .neq T x y u,ty,pos,after,none⟩)::l) γ O:=by
 have hc:∀z∈[x,y],ev Sr z=ev γ z:=fun z hz=>B2 fun t ht=>Aq hl t (Ax (by rw[<-ht];exact hz))
 have bz:∀z∈[x,y],ev (only (Oper.looksAt ops ⟨some t,.binOp .neq T x y u,ty,pos,after,none⟩) γ) z=ev γ z:=fun z hz=>Bl (o:=⟨some t,.binOp .neq T x y u,ty,pos,after,none⟩) (by simp at hz;rcases hz with rfl|rfl<;>simp[Op.operands])
 refine .inl ⟨.bool (!r),⟨aL,.inl ⟨rfl,(fun c e=>by cases e),Aa (fun c e=>by cases e),fun U' hU g w a hs hT=>?_⟩⟩,h⟩
 have:=HC (dst:=some t) (ty:=ty) (pos:=pos) (after:=after) (guard:=none) (u:=u) ht hs hT hE hk (by rw[bz x (by simp),<-hc x (by simp)];exact hx) (by rw[bz y (by simp),<-hc y (by simp)];exact hy) hd true
 simpa using this
end
abbrev MR:=Option (Nat×Nat×List D)
def mD:MR->Nat->D
 |none,_=>.nils
 |some (i,cap,_),n=>.sref i 0 n cap
def mS(O:Sig):MR->List (List D)->Sig
 |none,_=>O
 |some (i,_,rest),es=>O.set i (.cells (es.flatten++rest))
def mOK(O:Sig)(sz:Nat):MR->List (List D)->Prop
 |none,es=>es=[]
 |some (i,cap,rest),es=>O i=none/\(es.flatten++rest).length=cap*sz/\es.length<=cap /\ ∀e∈es,e.length=sz
theorem mOK.len{O:Sig}{sz:Nat}{st:MR}{es:List (List D)}(h:mOK O sz st es): ∀e∈es,e.length=sz:=by
 cases st with
 |none=>obtain rfl:es=[]:=h;simp
 |some x=>exact h.2.2.2
theorem Aw{sz:Nat}: ∀{es:List (List D)},(∀e∈es,e.length=sz)->es.flatten.length=es.length*sz
 |[],_=>by simp
 |e::es,h=>by
  have:=Aw (es:=es) fun x hx=>h x (by simp[hx])
  simp only[List.flatten_cons,List.length_append,List.length_cons,Nat.add_mul,this,h e (by simp)];omega
theorem Sub.setD{a b:Sig}{i j:Nat}{o x:DObj}(h:Sub a b)(hi:a i=Option.none)(co:i≠j):Sub (a.set j o) ((b.set i x).set j o):=fun k y hk=>by
 by_cases h1:k=j
 ·subst h1;rw[w6]at hk⊢; exact hk
 ·rw[w7 _ _ h1]at hk⊢
  rw[w7 _ _ fun e=>by rw[e,hi]at hk;cases hk]
  exact h k y hk
section
variable {P:Program}{ro:Ro}{n:Nat}{ops:Array Oper}{Q:DX->St->Prop}{rest:List Oper}{tab:Nat->Ty}{γ:List (Nat×D)}{O:Sig}{df:List DDf}
theorem Bx{o:Oper}(R:D->Sig->Prop)(hw:Ay ops γ o=some true)(bX:∀c,o.op≠.defer c)(cg:∀(w:World) (ρ:Operand->Value) f,o.about P w ρ=some f->False)(ho:Ar n o=true)
  (hr:∀g w (a:Act),Sim P g O w->RepT g γ n a.tmps->∃g' w' v d U',(execOp a.eval o).run P w=.ok (.value v) w'/\g.le g'/\Sim P g' U' w'/\Rep g' d v/\R d U')
  (h:∀d U',R d U'->DOps P ro n ops Q rest ⟨putD o.dst d γ,U',df⟩):DOps P ro n ops Q (o::rest) ⟨γ,O,df⟩:=by
 intro g w a r bQ hs
 unfold wpListIn
 rw[AH hs.tmps hw,if_pos rfl]
 refine⟨fun f hf=>(cg _ _ f hf).elim,?_⟩
 obtain⟨g',w',v,d,U',h1,h2,h3,h4,h5⟩:=hr g w a hs.sim hs.tmps
 rw[Oper.semAt_eq _ _ _ bX,h1]
 exact AD h2 _ (h d U' h5 _ _ _ r (bQ.mono h2) (hs.put h2 h3 h4 ho))
theorem Sim.drew{g:G}{w:World}(hs:Sim P g O w):Sim P g O w.drew:=
 ⟨hs.imm,hs.keep,fun i o h=>by have:=hs.obj i o h;cases o<;>exact this,hs.inj,hs.free,hs.htop,hs.hdom,hs.fin,hs.io,hs.tab⟩
theorem Fc{g:G}{i b len cap:Nat}(h:g.rho i=some b):Rep g (.sref i 0 len cap) (.slice (some ⟨b,0,none⟩) len cap):=⟨b,h,rfl⟩
theorem N7{g:G}{w:World}{sz:Nat}{st:MR}{es:List (List D)}{v:Value}(hs:Sim P g (mS O st es) w)(hm:mOK O sz st es)(hv:Rep g (mD st es.length) v):
  ∃a cap,v=.slice a es.length cap/\es.length<=cap /\ ∃us,RepL g es.flatten us/\us.length=es.length*sz/\(es.length=0 \/ ∃b o,a=some ⟨b,o,none⟩ /\ ∀j v,us[j]? = some v->w.cell? ⟨b,o+j,none⟩=some v):=by
 cases st with
 |none=>
  obtain rfl:es=[]:=hm
  exact⟨none,0,hv,by simp,[],rfl,by simp,.inl rfl⟩
 |some x=>
  obtain⟨i,cap,rest⟩:=x
  obtain⟨h1,h2,h3,h4⟩:=hm
  obtain⟨b,hb,hv⟩:=hv
  obtain⟨b',vs,ty,au,ae,hr⟩:=hs.obj i _ (w6 ..)
  obtain rfl:b'=b:=by rw[hb]at au;cases au;rfl
  obtain⟨u,v',e1,e2,e3⟩:=hr.split
  refine⟨_,cap,hv,h3,u,e2,by rw[RepL.length e2,Aw h4],.inr ⟨b',0,rfl,fun j x hx=>?_⟩⟩
  have:j<u.length:=(List.getElem?_eq_some_iff.1 hx).1
  simp only[World.cell?, ae,Nat.zero_add]
  have:vs.toList[j]? = some x:=by rw[e1,List.getElem?_append_left this];exact hx
  simpa using this
variable (ht:AZ P tab)
include ht
theorem Mr{t T T' ty e e' sz:Nat}{s x:Operand}{pos:String}{after:Array Edge}{es new:List (List D)}{st:MR}
  (aL:t<n) (hk:(tab T).k=.slice e) (b7:(tab T').k=.slice e') (he:A1 (tab e).k=false) (hsz:(tab e).size=sz) (h1:ev γ s=mD st es.length) (hm:mOK O sz st es) (h2:esOf (ev γ x)=some new)
  (hlen':∀c∈new,c.length=sz) (bc:∀c∈new,BB c=true)
  (hb:(es.length+new.length)*(tab e).bytes<=140737488355328) (hm2:es.length+new.length<=9223372036854775807)
  (h:∀st',mOK O sz st' (es++new)->DOps P ro n ops Q rest ⟨(t,mD st' (es++new).length)::γ,mS O st' (es++new),df⟩) :
  DOps P ro n ops Q (⟨some t,(cA s x T T'),ty,pos,after,none⟩::rest) ⟨γ,mS O st es,df⟩:=by
 subst hsz
 refine Bx (fun d U'=> ∃st',mOK O (tab e).size st' (es++new)/\d=mD st' (es++new).length/\U'=mS O st' (es++new)) rfl (fun c e=>by cases e) (B4 rfl rfl) (by simp[Ar,aL]) ?_
  (fun d U' ⟨st',a1,a2,a3⟩=>by subst a2 a3;exact h st' a1)
 intro g w a hs hT
 have aY:=Ah hT s
 have bJ:=Ah hT x
 rw[h1]at aY
 obtain⟨base,cap,r1,r2,us,r3,r4,r5⟩:=N7 hs hm aY
 obtain⟨xa,xc,q1,q2,q3⟩:=BY h2 bJ
 obtain⟨news,v1,v2,v3⟩:=BP hs hlen' q3
 obtain⟨inf,z,t1,t2,t3,t4,t5,t6,t7⟩:=Bd ht hk b7 he
 have aQ:=hm.len
 have ax:∀c∈es++new,c.length=(tab e).size:=fun c hc=>(List.mem_append.1 hc).elim (aQ c) (hlen' c)
 by_cases aj:es.length+new.length<=cap
 ·
  cases st with
  | none =>
   obtain rfl:es=[]:=hm
   obtain⟨rfl,rfl⟩:base=none/\cap=0:=by
    have e1:a.eval s=.slice none 0 0:=aY
    rw[e1]at r1;injection r1 with f1 f2 f3;exact⟨f1.symm,f3.symm⟩
   have bZ:new.length=0:=by simpa using aj
   have bY:new=[]:=List.length_eq_zero_iff.1 bZ
   subst bY
   have bW:news=[]:=List.length_eq_zero_iff.1 (by rw[v2];simp)
   refine⟨g,w,.slice none 0 0,.nils,O,Ap ?_,.refl g,hs,rfl,none,rfl,rfl,rfl⟩
   rw[r1,q1]
   have:=Bb (ty:=ty) t1 t2 t3 (w:=w) (w2:=w) (base:=none) (xa:=xa) (n:=0) (cap:=0) (m:=0) (xc:=xc) (news:=[]) (Al (by simp) (.inl rfl)) (by omega) (fun b hb=>by cases hb) (fun _=>rfl)
   simpa using this
  | some y =>
   obtain⟨i,cap',rest'⟩:=y
   obtain⟨m1,m2,m3,m4⟩:=hm
   obtain⟨b,au,hv⟩:=aY
   rw[hv]at r1;injection r1 with f1 f2 f3
   subst f3
   subst f1
   obtain⟨b2,vs,ty',bE,ae,hr⟩:=hs.obj i _ (w6 ..)
   obtain rfl:b2=b:=by rw[au]at bE;cases bE;rfl
   have aP:=RepL.length hr
   simp only[Array.length_toList]at aP
   have cp:=Aw m4
   have bb:=Aw hlen'
   have bW:=RepL.length v1
   simp only[List.length_append]at m2 aP
   have bp:(es.length+new.length)*(tab e).size<=cap'*(tab e).size:=Nat.mul_le_mul_right _ aj
   rw[Nat.add_mul]at bp
   have aM:=Bv (P:=P) news 0 w vs ae (CK v1 (EY bc)) (o:=es.length*(tab e).size) (by omega)
   have aa:=Bb (ty:=ty) t1 t2 t3 (w:=w) (base:=some ⟨b2,0,none⟩) (xa:=xa) (n:=es.length) (cap:=cap') (m:=new.length) (xc:=xc) (news:=news) (w2:=if news=[] then w else setB w b2 (.cells (Ba vs (0+es.length*(tab e).size) news) ty' (0,0)))
    (Al (by rw[t5];exact v2) v3) aj (fun a ha=>by cases ha;rw[Bu,t5];simpa using aM) (fun h=>by cases h)
   have bm:RepL g (es.flatten++(new.flatten++rest'.drop (new.length*(tab e).size))) (Ba vs (0+es.length*(tab e).size) news).toList:=by
    refine AE (by simp only[List.length_append,List.length_drop,Array.length_toList,Ce];omega) fun j d v h1 h2=>?_
    have ar:(Ba vs (0+es.length*(tab e).size) news)[j]? = some v:=by simpa using h2
    rw[CD _ _ _ _ (by omega)]at ar
    simp only[List.getElem?_append]at h1
    have hg:=RepL.get hr j
    by_cases c1:j<es.flatten.length
    ·rw[if_neg (by omega)]at ar
     rw[if_pos c1]at h1
     rw[List.getElem?_append_left c1,h1]at hg
     simp only[Array.getElem?_toList,ar,Option.getD_some]at hg
     exact hg
    ·rw[if_neg c1]at h1
     by_cases c2:j-es.flatten.length<new.flatten.length
     ·rw[if_pos (by omega)]at ar
      rw[if_pos c2]at h1
      have:=RepL.get v1 (j-es.flatten.length)
      rw[h1,show j-es.flatten.length=j-(0+es.length*(tab e).size) by omega,ar]at this
      exact this
     ·rw[if_neg (by omega)]at ar
      rw[if_neg c2,List.getElem?_drop]at h1
      rw[List.getElem?_append_right (by omega),show j-es.flatten.length=new.length*(tab e).size+(j-es.flatten.length-new.flatten.length) by omega,h1]at hg
      simp only[Array.getElem?_toList,ar,Option.getD_some]at hg
      exact hg
   refine⟨g,_,.slice (some ⟨b2,0,none⟩) (es.length+new.length) cap',mD (some (i,cap',rest'.drop (new.length*(tab e).size))) (es++new).length,_,Ap (by rw[hv,q1];exact aa),.refl g,?_,?_,some (i,cap',rest'.drop (new.length*(tab e).size)),⟨m1,?_,by simpa using aj,ax⟩,rfl,rfl⟩
   ·have aw:=hs.setObj (i:=i) (b:=b2) (ds':=es.flatten++(new.flatten++rest'.drop (new.length*(tab e).size))) (vs':=Ba vs (0+es.length*(tab e).size) news) (ty:=ty') (w6 ..) au bm ⟨vs,ae⟩
    simp only[mS,Sig.set_set]at aw
    have e1:es.flatten++(new.flatten++rest'.drop (new.length*(tab e).size))=(es++new).flatten++rest'.drop (new.length*(tab e).size):=by simp
    rw[e1]at aw
    by_cases hne:news=[]
    ·rw[if_pos hne]
     subst hne
     have bL:setB w b2 (.cells (Ba vs (0+es.length*(tab e).size) []) ty' (0,0))=w:=by
      obtain⟨br,b9⟩:=Array.getElem?_eq_some_iff.1 ae
      have e:w.heap.setIfInBounds b2 (.cells vs ty' (0,0))=w.heap:=by
       apply Array.ext (by simp);intro k h1 h2;by_cases hk:b2=k
       ·subst hk;simp[b9]
       ·rw[Array.getElem_setIfInBounds_ne _ hk]
      show { w with heap:=w.heap.setIfInBounds b2 (.cells vs ty' (0,0)) }=w
      rw[e]
     rw[bL]at aw;exact aw
    ·rw[if_neg hne];exact aw
   ·rw[mD,List.length_append];exact Fc au
   ·simp only[List.flatten_append,List.length_append,List.length_drop];omega
 ·
  obtain⟨c,hc,aa⟩:=Dj (ty:=ty) t1 t2 t3 t4 (w:=w) (base:=base) (xa:=xa) (n:=es.length) (cap:=cap) (m:=new.length) (xc:=xc) (olds:=us) (news:=news)
   (Al (by rw[t5];exact r4) r5) (Al (by rw[t5];exact v2) v3) (by omega) hm2 (by rw[t6];exact hb)
  obtain⟨i',ba,aK⟩:=hs.fresh
  let zs:=(Builtin.zeroCells z.cells (c-(es.length+new.length))).toList
  have bh:RepL (g.bind i' w.heap.size) ((es++new).flatten++zs.map B8) (us++news++zs):=by
   rw[List.flatten_append]
   exact((RepL.mono (G.bind_le ba) _ r3).append (RepL.mono (G.bind_le ba) _ v1)).append (BQ _ _)
  have bk:ObjRep P (g.bind i' w.drew.heap.size) { w.drew with heap:=w.drew.heap.push (.cells (us++news++zs).toArray e (0,0)) } i' (.cells ((es++new).flatten++zs.map B8)):=
   ⟨w.drew.heap.size,(us++news++zs).toArray,e,by simp[G.bind],by exact Array.getElem?_push_size,by simpa using bh⟩
  have aD:=hs.drew.newObj ba aK rfl bk
  have ci:O i'=none:=by
   cases st with
   |none=>exact aK
   |some y=>
    obtain⟨i,cap',rest'⟩:=y
    simp only[mS]at aK
    exact(set_none' aK).2
  refine⟨_,_,_,mD (some (i',c,zs.map B8)) (es++new).length,_,Ap (by rw[r1,q1];exact aa),G.bind_le ba,aD.sub (U':=mS O (some (i',c,zs.map B8)) (es++new)) ?_,?_,some (i',c,zs.map B8),⟨ci,?_,by simpa using hc,ax⟩,rfl,rfl⟩
  ·cases st with
   |none=>exact Sub.refl _
   |some y=>
    obtain⟨i,cap',rest'⟩:=y
    simp only[mS]at aK⊢
    exact(Sub.refl O).setD hm.1 fun e=>(set_none' aK).1 e.symm
  ·rw[mD,List.length_append];exact Fc (by simp[G.bind])
  ·have hz:zs.length=(c-(es.length+new.length))*(tab e).size:=by simp[zs,size_zeroCells,t7]
   simp only[List.length_append,List.length_map,hz,Aw ax,<-Nat.add_mul]
   congr 1;omega
where
 set_none' {O:Sig}{i j:Nat}{o:DObj} (h:O.set i o j=none):j≠i/\O j=none:=by
  by_cases hj:j=i
  ·subst hj;rw[w6]at h;cases h
  ·rw[w7 _ _ hj]at h;exact⟨hj,h⟩
omit ht in
theorem LF{zs:Array Value}{sz:Nat}(hz:zs.size=sz)(h0:0<sz): ∀k:Nat,((List.range (k*sz)).map fun j=>zs[j % zs.size]!)=(List.replicate k zs.toList).flatten
 |0=>by simp
 |k+1=>by
  rw[List.replicate_succ',List.flatten_append,<-LF hz h0 k,Nat.add_mul,Nat.one_mul,List.range_add,List.map_append]
  congr 1
  simp only[List.map_map,List.flatten_cons,List.flatten_nil,List.append_nil]
  apply List.ext_getElem (by simp[hz])
  intro j h1 h2
  have hj:j<sz:=by simpa using h1
  simp only[List.getElem_map,Function.comp,List.getElem_range,hz,Array.getElem_toList]
  rw[Nat.mul_comm,Nat.mul_add_mod,Nat.mod_eq_of_lt hj,getElem!_pos zs j (by omega)]
theorem PG{t T ty e k sz c:Nat}{l m:Operand}{pos:String}{after:Array Edge}{z:List D}
  (aL:t<n) (hk:(tab T).k=.slice e) (he:A1 (tab e).k=false) (hsz:(tab e).size=sz) (h0:0<sz) (hz:(tab e).zero=z)
  (h1:ev γ l=.int .i64 k) (h2:ev γ m=.int .i64 c) (b6:k<=c) (hb:c*(tab e).bytes<=140737488355328) (hm:c<=9223372036854775807)
  (h:∀i,O i=none->mOK O sz (some (i,c,(List.replicate (c-k) z).flatten)) (List.replicate k z)->DOps P ro n ops Q rest ⟨(t,.sref i 0 k c)::γ,mS O (some (i,c,(List.replicate (c-k) z).flatten)) (List.replicate k z),df⟩) :
  DOps P ro n ops Q (⟨some t,.makeSlice T l m,ty,pos,after,none⟩::rest) ⟨γ,O,df⟩:=by
 subst hsz hz
 obtain⟨inf,z,t1,t2,t3,t4,t5,t6,t7⟩:=Bd ht hk hk he
 obtain⟨z',hz,cn,cm⟩:=Ct (ht e) (Ae he) (default:World)
 have bH:(tab e).zero.length=(tab e).size:=by
  obtain⟨_,_,_,_,_,_,_,_,_,_,h8,_⟩:=BO (ht e) (Ae he)
  exact h8
 have bc:(List.replicate k (tab e).zero).flatten++(List.replicate (c-k) (tab e).zero).flatten=(List.replicate c (tab e).zero).flatten:=by
  rw[<-List.flatten_append,List.replicate_append_replicate];congr 2;omega
 have bj:∀i,O i=none->mOK O (tab e).size (some (i,c,(List.replicate (c-k) (tab e).zero).flatten)) (List.replicate k (tab e).zero):=by
  intro i hi
  have hl:∀(m:Nat), ∀x∈List.replicate m (tab e).zero,x.length=(tab e).size:=fun m x hx=>by rw[List.eq_of_mem_replicate hx,bH]
  refine⟨hi,?_,by simpa using b6,hl k⟩
  rw[bc,Aw (hl c),List.length_replicate]
 refine GD (mk:=fun i=>.sref i 0 k c) (d:=.cells ((List.replicate k (tab e).zero).flatten++(List.replicate (c-k) (tab e).zero).flatten)) rfl (fun c e=>by cases e) (Aa fun c e=>by cases e) (by simp[Ar,aL]) rfl ?_
  (fun i hi=>h i hi (bj i hi))
 intro g w a hs hT
 have aP:=Ah hT l
 have bA:=Ah hT m
 rw[h1]at aP
 rw[h2]at bA
 have bq:a.eval l=.int .i64 (k:Int):=aP
 have bn:a.eval m=.int .i64 (c:Int):=bA
 obtain⟨z'',bI,be,bd⟩:=Ct (ht e) (Ae he) w
 let cs:Array Value:=(Array.range (c*(tab e).size)).map (z''.cells[· % z''.cells.size]!)
 refine⟨.cells cs e,.slice (some ⟨w.heap.size,0,none⟩) k c,?_,fun i hi=>⟨⟨w.heap.size,cs,e,by simp[G.bind],by simp,?_⟩,w.heap.size,by simp[G.bind],rfl⟩⟩
 ·have w1:IntKind.i64.wrap (k:Int)=k:=At (by omega) (by omega)
  have w2:IntKind.i64.wrap (c:Int)=c:=At (by omega) (by omega)
  have cq:((tab e).bytes:Int)*(c:Int)<=140737488355328:=by rw[Int.mul_comm,<-Int.natCast_mul];omega
  have c1:¬(281474976710656<((tab e).bytes:Int)*(c:Int)):=by omega
  have c2:¬((c:Int)<0):=by omega
  have c3:¬((k:Int)<0):=by omega
  have c4:¬((c:Int)<(k:Int)):=by omega
  unfold execOp Instr.makeSlice
  simp only[bq,bn,Sem.run_bind,run_underlying t1,Result.andThen_ok,asInt,asIntOf,Sem.run_pure,run_program,typeInfo,t3,w1,w2,t6]
  have d1:decide ((c:Int)<0)=false:=by simp
  have d2:decide ((tab e).bytes*(c:Int)>2 ^ 48)=false:=by simp;omega
  have d3:decide ((k:Int)<0)=false:=by simp
  have d4:decide ((k:Int)>c)=false:=by simp;omega
  simp only[d1,d2,d3,d4,Bool.or_false,Bool.false_eq_true,if_false,run_askRoom,Sem.run_bind,Result.andThen_ok,Az (ht e) (Ae he),Int.toNat_natCast]
  by_cases bu:c*(tab e).size=0
  ·have cb:cs=#[]:=by simp[cs,bu]
   have bT:Array.map (fun (x:Nat)=>(default:Value)) (Array.range 0)=#[]:=by simp
   simp[bu,Cl,cb]
   exact congrArg (fun (z:Array Value)=>w.alloc (Obj.cells z e)) bT
  ·simp[bu,bI,Cl,cs]
 ·rw[bc]
  have e1:cs.toList=(List.replicate c z''.cells.toList).flatten:=by
   simp only[cs,Array.toList_map,Array.toList_range]
   exact LF bd h0 c
  rw[e1,be]
  have:(List.replicate c (z''.cells.toList.map B8)).flatten=((List.replicate c z''.cells.toList).flatten).map B8:=by
   rw[List.map_flatten,List.map_replicate]
  rw[this]
  exact BQ _ _
omit ht in
theorem Sim.freeze{g:G}{w:World}(ai:Sim P g O w){i b:Nat}{ds:List D}(hi:O i=some (.cells ds))(hb:g.rho i=some b): ∃g',g.le g'/\Sim P g' (O.del i) w/\RepI g' b 0 ds:=by
 obtain⟨b',vs,ty,au,ae,hr⟩:=ai.obj i _ hi
 obtain rfl:b'=b:=by rw[hb]at au;cases au;rfl
 have aq:blk g O i=some b':=by simp[blk,hi,hb]
 have ak:=ai.free i b' aq
 have bl:∀o,g.imm b' o=none:=ak.2 fun o ho=>by rw[hi]at ho;cases ho;rfl
 have ag:g.le (g.addImm b' vs.toList):=
  {imm:=fun c o v h=>by
    simp only[G.addImm]
    by_cases hc:c=b'
    ·rw[hc,bl o]at h;cases h
    ·rw[if_neg hc];exact h
   rho:=fun _ _ h=>h,hist:=fun _ _ _ h=>h,keep:=fun _ _ h=>h,io:=rfl }
 have aA:∀j c,blk (g.addImm b' vs.toList) (O.del i) j=some c->j≠i/\blk g O j=some c:=by
  intro j c h
  by_cases hj:j=i
  ·subst hj;simp[blk,Sig.del]at h
  ·refine⟨hj,?_⟩
   unfold blk at h⊢
   simp only[Sig.del,hj,if_false]at h
   exact h
 refine⟨g.addImm b' vs.toList,ag,?_,FI hr ag⟩
 exact {
   imm:=fun c o v h=>by
    simp only[G.addImm]at h
    by_cases hc:c=b'
    ·rw[if_pos hc]at h
     subst hc
     simp only[World.cell?, ae]
     simpa using h
    ·rw[if_neg hc]at h;exact ai.imm c o v h
   keep:=ai.keep
   obj:=fun j o h=>by
    have hj:j≠i:=fun e=>by rw[e]at h;simp[Sig.del]at h
    simp only[Sig.del,hj,if_false]at h
    refine(ai.obj j o h).mono ag ?_
    intro sz m c o' cap e1 e2 e3 k _ hk
    simp only[G.addImm]
    by_cases hc:c=b'
    ·exfalso
     subst hc
     exact hj (ai.inj j i c (by rw[e1]at h;simp[blk,h,e2]) aq)
    ·rw[if_neg hc];exact hk
   inj:=fun j k c h1 h2=>ai.inj j k c (aA j c h1).2 (aA k c h2).2
   free:=fun j c h=>by
    obtain⟨hj,h'⟩:=aA j c h
    obtain⟨h1,h2⟩:=ai.free j c h'
    refine⟨h1,fun hh o=>?_⟩
    have hc:c≠b':=fun e=>hj (ai.inj j i b' (e ▸ h') aq)
    simp only[G.addImm];rw[if_neg hc]
    exact h2 (fun x hx=>hh x (by simp only[Sig.del,hj,if_false];exact hx)) o
   htop:=fun j sz n k h hk=>by
    have hj:j≠i:=fun e=>by rw[e]at h;simp[Sig.del]at h
    simp only[Sig.del,hj,if_false]at h
    exact ai.htop j sz n k h hk
   hdom:=ai.hdom
   io:=ai.io
   tab:=ai.tab
   fin:=ai.fin }
omit ht in
theorem Lr{g:G}{b:Nat}: ∀{a c:List D}{o:Nat},RepI g b o (a++c)->RepI g b o a
 |[],_,_,_=>trivial
 |_::_,_,_,⟨h1,h2⟩=>⟨h1,Lr h2⟩
omit ht in
theorem JA{g:G}{b:Nat}: ∀{a c:List D}{o:Nat},RepI g b o (a++c)->RepI g b (o+a.length) c
 |[],_,_,h=>by simpa using h
 |x::a,_,o,⟨_,h2⟩=>by have:=JA h2;rwa [List.length_cons,Nat.add_comm a.length 1,<-Nat.add_assoc]
omit ht in
theorem DS{g:G}{b sz:Nat}: ∀{es:List (List D)}{o:Nat}{r:List D},(∀e∈es,e.length=sz)->RepI g b o (es.flatten++r)->RepE g b sz o es
 |[],_,_,_,_=>trivial
 |e::es,o,r,h,h2=>by
  rw[List.flatten_cons,List.append_assoc]at h2
  refine⟨⟨h e (by simp),Lr h2⟩,?_⟩
  have:=JA h2
  rw[h e (by simp)]at this
  exact DS (fun x hx=>h x (by simp[hx])) this
omit ht in
theorem ON{t sz:Nat}{st:MR}{es:List (List D)}(hm:mOK O sz st es)(hg:getD γ t=mD st es.length):Wk P n ⟨γ,mS O st es,df⟩ ⟨(t,.slice es .no)::γ,O,df⟩:=by
 cases st with
 |none=>
  obtain rfl:es=[]:=hm
  exact BN (by rw[hg];exact Am _ (.inl rfl))
 | some x =>
  obtain⟨i,cap,rest⟩:=x
  obtain⟨m1,m2,m3,m4⟩:=hm
  intro g w a hs
  have bC:=hs.tmps.2 t
  rw[hg]at bC
  obtain⟨b,hb,hv⟩:=bC
  obtain⟨g',ag,bf,bR⟩:=hs.sim.freeze (i:=i) (w6 O i _) hb
  refine⟨g',ag,⟨?_,⟨hs.tmps.1,fun k=>?_⟩,hs.df.mono ag⟩⟩
  ·have:(mS O (some (i,cap,rest)) es).del i=O:=Sig.set_del _ _ m1
   simp only at bf
   rw[this]at bf;exact bf
  ·rw[A4]
   by_cases hk:k=t
   ·rw[if_pos hk,hk]
    exact⟨_,cap,hv,m3,.inr ⟨sz,b,0,rfl,DS m4 bR⟩,trivial⟩
   ·rw[if_neg hk];exact Rep.mono ag _ (hs.tmps.2 k)
end
theorem Sim.later{P:Program}{g:G}{O:Sig}{w w':World}(hs:Sim P g O w)(h:∀(k:Nat) x,w.heap[k]? = some x->w'.heap[k]? = some x)(b8:(w'.os,w'.output)=(w.os,w.output)):Sim P g O w' where
 imm:=fun b o v hb=>by
  have:=hs.imm b o v hb
  unfold Go.World.cell? at this⊢
  simp only at this⊢
  cases hx:w.heap[b]? with
  |none=>rw[hx]at this;simp at this
  |some x=>rw[hx]at this;rw[h _ _ hx];exact this
 keep:=fun k o hk=>h _ _ (hs.keep k o hk)
 obj:=fun i o ho=>by
  have:=hs.obj i o ho
  cases o with
  |cells ds=>obtain⟨b,vs,ty,h1,h2,h3⟩:=this;exact⟨b,vs,ty,h1,h _ _ h2,h3⟩
  |tcells ty ds=>obtain⟨b,vs,h1,h2,h3⟩:=this;exact⟨b,vs,h1,h _ _ h2,h3⟩
  |mcells ds=>obtain⟨b,vs,ty,h1,h2,h3⟩:=this;exact⟨b,vs,ty,h1,h _ _ h2,h3⟩
  |map l=>obtain⟨b,es,c,h1,h2,h3⟩:=this;exact⟨b,es,c,h1,h _ _ h2,h3⟩
  |tail sz n=>
   rcases this with h1|⟨b,o,cap,vs,ty,h1,h2,h3,h4⟩
   ·exact .inl h1
   ·exact .inr ⟨b,o,cap,vs,ty,h1,h2,h _ _ h3,h4⟩
  |loop st pe ps asg bo n γ did=>obtain⟨b,db,fn,tmps,h1,h2,h3,h4,h5⟩:=this;exact⟨b,db,fn,tmps,h1,h2,h3,h4,h _ _ h5⟩
  |defs=>obtain⟨b,h1,h2⟩:=this;exact⟨b,h1,h _ _ h2⟩
  |iter l la=>obtain⟨b,h1,h2⟩:=this;exact⟨b,h1,h2.imp (fun ⟨a,c,d⟩=>⟨a,c,h _ _ d⟩) (fun ⟨mb,es,c,seen,e1,r⟩=>⟨mb,es,c,seen,h _ _ e1,r⟩)⟩
 inj:=hs.inj
 free:=hs.free
 htop:=hs.htop
 hdom:=hs.hdom
 io:=b8.trans hs.io
 tab:=hs.tab
 fin:=hs.fin
theorem Ka{P:Program}{L:List FuncId}{n f:Nat}{args:Array Value}{w:World}{R:Ending->World->Prop}(h:∀D,CallsIn (Fence.list L (some D)) n P f args w R)(hL:∀f∈L,f<P.funcs.size)(r:Rx):
  CallsIn (FX P r) 0 P f args w R:=by
 refine⟨EA (hL f (h 0).1) _,fun cs _=>?_⟩
 obtain⟨e,w',fr,h1,h2,h3,h4⟩:=(h (cs.length+1+n)).2 cs (fun d hd=>by cases hd;omega)
 refine⟨e,w',fr,h1,?_,h3,h4⟩
 have key:∀m m',StepsIn (Machine.fenced P (Fence.list L (some (cs.length+1+n)))) P m m'->StepsIn (Machine.fenced P (FX P r)) P m m':=fun m m' hs=>by
  refine StepsIn.mono (fun m hm g hg=>?_) hs
  obtain⟨a1,a2,a3,a4⟩:=hm g hg
  exact⟨(fun e=>by cases e),a2.imp (fun h=>EA (hL _ h) _) id,fun f hf=>EA (hL _ (a3 f hf)) _,Ef P r _⟩
 cases e with
 |returned v=>exact key _ _ h2
 |panicked c=>exact key _ _ h2
 |outgrown=>exact h2
def P1(P:Program)(l:Nat)(R:Ending->World->Prop):Exit->Act->World->Prop
 |.normal,_,w=> ∃v w',(Instr.endRound l none).run P w=.ok v w'/\R (.returned v) w'
 |.ret,_,w=> ∃v w',(Instr.endRound l (some .ret)).run P w=.ok v w'/\R (.returned v) w'
 |.exit id,_,w=> ∃v w',(Instr.endRound l (some (.exit id))).run P w=.ok v w'/\R (.returned v) w'
 |.panic chain,a,w=>a.defers=[]/\R (.panicked chain) w
 |_,_,_=>False
theorem Hu{F:Fence}{n:Nat}{P:Program}{l:Nat}{f:FuncId}{tmps:Array Value}{assign body:Code}{w:World}{R:Ending->World->Prop}(hF:F.fn f)(br:f<P.funcs.size)
  (h:assign.wpIn (F.inRound l) n P (Exit.then (fun a₁ w₁ => ∃ w₂,(Instr.beginRound l).run P w₁ = .ok () w₂/\body.wpIn (F.inRound l) n P (P1 P l R) a₁ w₂) (fun _ _ _=>False))
   {tmps:=tmps,defers:=[] } w) :
  RoundIn F n P l f tmps assign body w R:=by
 refine⟨hF,fun c cs hr=>?_⟩
 let b:Frame:={ (default:Frame)with fn:=f,kind:=.normal,roundOf:=some l }
 have cf:Frame.round l f tmps assign body .normal=b.atR { tmps:=tmps,defers:=[] } [.code assign,.beginRound,.code body]:=by
  simp[Frame.round,Frame.atR,b]
 have aG:(F.inRound l).room ((c::cs).length+1+n):=hr
 have aI:(F.inRound l).fn b.fn:=hF
 obtain⟨e,a₁,w₁,hq,aB⟩:=h b [.beginRound,.code body] (c::cs) rfl aI aG
 rw[<-cf]at aB
 cases e with
 | normal =>
  obtain⟨w₂,ce,aW⟩:=hq
  have s1:StepsIn (Machine.fenced P (F.inRound l)) P (lone (b.atR a₁ [.beginRound,.code body]) (c::cs) w₁) (lone (b.atR a₁ [.code body]) (c::cs) w₂):=
   .one (fenced_calm (fr:=b.atR a₁ [.beginRound,.code body]) aI aG rfl) (stepR_beginRound rfl ce)
  obtain⟨e₂,a₂,w₃,aJ,am⟩:=aW b [] (c::cs) rfl aI aG
  cases e₂ with
  |normal=>
   obtain⟨v,w₄,ay,hR⟩:=aJ
   exact⟨.returned v,w₄,hR,(StepsIn.trans aB s1).trans (StepsIn.trans am (.one (fenced_calm (fr:=b.atR a₂ []) aI aG rfl) (stepR_round_end rfl rfl ay)))⟩
  |ret=>
   obtain⟨v,w₄,ay,hR⟩:=aJ
   obtain⟨k₁,hs⟩:=am.2 rfl
   exact⟨.returned v,w₄,hR,(StepsIn.trans aB s1).trans (StepsIn.trans hs (.one (fenced_calm (fr:=b.atR a₂ (.code .ret::k₁)) aI aG rfl) (stepR_round_ret rfl rfl ay)))⟩
  |exit id=>
   obtain⟨v,w₄,ay,hR⟩:=aJ
   obtain⟨k₁,hk,hs⟩:=am.2 rfl rfl
   exact⟨.returned v,w₄,hR,(StepsIn.trans aB s1).trans (StepsIn.trans hs (.one (fenced_calm (fr:=b.atR a₂ (.code (.exit id)::k₁)) aI aG rfl) (stepR_round_exit rfl rfl hk ay)))⟩
  |panic chain=>
   obtain⟨hd,hR⟩:=aJ
   obtain⟨todo,hs⟩:=am
   have hl:({ b.atR a₂ todo with mode:=.panicking chain }:Frame).leaving P w₃ (.panicked chain):=⟨rfl,hd,_,Array.getElem?_eq_getElem br⟩
   exact⟨.panicked chain,w₃,hR,(StepsIn.trans aB s1).trans (StepsIn.trans hs (.one (fenced_leaving (n:=n) aI aG hl) (step_leave_panicked hl)))⟩
  |goto t=>exact aJ.elim
  |outgrown=>exact aJ.elim
 |exit id=>exact hq.elim
 |goto t=>exact hq.elim
 |ret=>exact hq.elim
 |panic chain=>exact hq.elim
 |outgrown=>exact hq.elim
theorem P2{P:Program}{n l f:Nat}{tmps:Array Value}{assign body:Code}{w:World}{R:Ending->World->Prop}(r:Rx)(h:RoundIn (FX P {}) n P l f tmps assign body w R):RoundIn (FX P r) n P l f tmps assign body w R:=by
 refine⟨fun _=>h.1 rfl,fun c cs _=>?_⟩
 obtain⟨e,w',h1,h2⟩:=h.2 c cs (Ef P _ _)
 refine⟨e,w',h1,?_⟩
 have key:∀m m',StepsIn (Machine.fenced P (FX P {})) P m m'->StepsIn (Machine.fenced P (FX P r)) P m m':=fun m m' hs=>by
  refine StepsIn.mono (fun m hm g hg=>?_) hs
  obtain⟨a1,a2,a3,a4⟩:=hm g hg
  exact⟨(fun e=>by cases e),a2.imp (fun h _=>h rfl) id,(fun f hf _=>a3 f hf rfl),Ef P r _⟩
 cases e with
 |returned v=>exact key _ _ h2
 |panicked c=>exact key _ _ h2
 |outgrown=>exact h2
structure DYield(P:Program)(l:Nat)(args:List D)(O:Sig)(R:DE->Sig->Prop):Prop where
 run:∀g w vs,Sim P g O w->RepL g args vs->∃b fn tmps asg body,g.rho l=some b/\(Instr.yield b vs.toArray).run P w=.ok (.round b fn tmps asg body) w /\ ∀r,RoundIn (FX P r) 0 P b fn tmps asg body w (Jr P g R)
theorem DYield.mono{P:Program}{l:Nat}{args:List D}{O:Sig}{R R':DE->Sig->Prop}(h:DYield P l args O R)(hr:∀x U',R x U'->R' x U'):DYield P l args O R':=
 ⟨fun g w vs hs ha=>let ⟨b,fn,t,a,c,h1,h2,h3⟩:=h.run g w vs hs ha;⟨b,fn,t,a,c,h1,h2,fun r=>(h3 r).mono fun _ _ ⟨g',x,U',k1,k2,k3,k4⟩=>⟨g',x,U',k1,k2,k3,hr _ _ k4⟩⟩⟩
def OI:List Nat->List D->Fr->Fr
 |p::ps,d::ds,γ=>OI ps ds ((p,d)::γ)
 |_,_,γ=>γ
theorem Lp{g:G}{n:Nat}: ∀{ps:List Nat}{ds:List D}{vs:List Value}{γ:Fr}{tmps:Array Value},RepT g γ n tmps->RepL g ds vs->ps.length=ds.length->(∀p∈ps,p<n)->
  RepT g (OI ps ds γ) n ((ps.zip vs).foldl (fun t (x:Nat×Value)=>t.setIfInBounds x.1 x.2) tmps)
 |[],[],_,_,_,h,_,_,_=>h
 |[],_::_,_,_,_,_,_,hl,_=>by simp at hl
 |_::_,[],_,_,_,_,_,hl,_=>by simp at hl
 |p::ps,d::ds,_,γ,tmps,h,⟨v,r,e,h1,h2⟩,hl,hp=>by
  subst e
  have : RepT g ((p, d) :: γ) n (tmps.setIfInBounds p v) := RepT.put (o := ⟨some p, .move (.tmp 0), 0, "", #[], none⟩) (a := { tmps := tmps, defers := [] }) h h1 (by simp [Ar, hp p (by simp)])
  exact Lp (ps:=ps) (ds:=ds) (γ:=(p,d)::γ) (tmps:=tmps.setIfInBounds p v) this h2 (by simpa using hl) (fun q hq=>hp q (by simp[hq]))
section
variable {P:Program}{ro:Ro}{n:Nat}{ops:Array Oper}{Q:DX->St->Prop}{rest:List Oper}{γ:List (Nat×D)}{O:Sig}{df:List DDf}
theorem PE{fop:Operand}{args:Array Operand}{ats:Array TypeId}{dst:Option Tmp}{ty:TypeId}{pos:String}{after:Array Edge}{guard:Option (Nat×Bool)}{l:Nat}{R:DE->Sig->Prop}
  (hw:Ay ops γ ⟨dst,(cv fop args ats),ty,pos,after,guard⟩=some true)
  (hf:ev γ fop=.yld l) (h:DYield P l (args.toList.map (ev γ)) O R)
  (ho:Ar n ⟨dst,(cv fop args ats),ty,pos,after,guard⟩=true)
  (aE:∀d U',R (.ret d) U'->DOps P ro n ops Q rest ⟨putD dst d γ,U',df⟩)
  (aH:∀d U',R (.panic d) U'->Q (.panic d) ⟨γ,U',df⟩) :
  DOps P ro n ops Q (⟨dst,(cv fop args ats),ty,pos,after,guard⟩::rest) ⟨γ,O,df⟩:=by
 intro g w a r hr hs
 unfold wpListIn
 rw[AH hs.tmps hw,if_pos rfl]
 have aC:=Ah hs.tmps fop
 rw[hf]at aC
 obtain⟨b,hb,aC⟩:=aC
 have aO:(resolve a.eval { callee:=.value fop,args,argTypes:=ats } ty).run P w=.ok { target:=.fn (.yield b) #[],args:=args.map a.eval } w:=by
  simp[resolve,aC,Deferred.ofValue,Sem.run]
 refine⟨fun f' aS=>?_,?_⟩
 ·simp only[Oper.about,aO,Target.leads]at aS
  cases aS
 ·rw[Oper.semAt_eq _ _ _ (fun c e=>by cases e)]
  obtain⟨b',fn,tmps,asg,body,h1,h2,h3⟩:=h.run g w _ hs.sim (CR hs.tmps args.toList)
  obtain rfl:b'=b:=by rw[hb]at h1;cases h1;rfl
  have aa:(execOp a.eval ⟨dst,(cv fop args ats),ty,pos,after,guard⟩).run P w=.ok (.round b' fn tmps asg body) w:=by
   have e:(args.toList.map a.eval).toArray=args.map a.eval:=Array.ext' (by simp)
   rw[e]at h2
   simp only[execOp,Sem.run_bind,aO,Result.andThen_ok,invoke,h2]
  rw[aa]
  refine⟨fun h=>(by cases h),?_⟩
  refine(h3 r).mono ?_
  rintro e w' ⟨g',x,U',k1,k2,k3,k4⟩
  cases x with
  |ret d=>
   obtain⟨v,rfl,h5⟩:=k3
   exact AD k1 _ (aE d U' k4 g' w' _ r (hr.mono k1) (hs.put (o:=⟨dst,(cv fop args ats),ty,pos,after,guard⟩) k1 k2 h5 ho))
  |panic d=>
   obtain⟨v,rfl,h5⟩:=k3
   exact⟨g',⟨γ,U',df⟩,.panic d,k1,⟨k2,hs.tmps.mono k1,hs.df.mono k1⟩,⟨v,rfl,h5⟩,aH d U' k4⟩
end
theorem Sim.setLoop{P:Program}{g:G}{O:Sig}{w:World}(hs:Sim P g O w){l:Nat}{st st':LoopState}{pe pe':Option Code}{ps:Array Tmp}{asg body:Code}{n:Nat}{γ:Fr}{did:Nat}(hU:O l=some (.loop st pe ps asg body n γ did)):
  ∃b r,g.rho l=some b/\(Instr.getLoop b).run P w=.ok r w/\r.state=st/\r.pending=pe/\r.params=ps/\r.assign=asg/\r.body=body/\RepT g γ n r.tmps/\r.fn<P.funcs.size /\
   ∃w',(Go.setObj b (.loop { r with state:=st',pending:=pe' })).run P w=.ok () w'/\Sim P g (O.set l (.loop st' pe' ps asg body n γ did)) w':=by
 obtain⟨b,db,fn,tmps,h1,h2,h3,h4,h5⟩:=hs.obj _ _ hU
 refine⟨b,{ state:=st,pending:=pe,fn,tmps,params:=ps,assign:=asg,body,defers:=db },h1,?_,rfl,rfl,rfl,rfl,rfl,h4,h3,setB w b (.loop { state:=st',pending:=pe',fn,tmps,params:=ps,assign:=asg,body,defers:=db }),?_,?_⟩
 ·simp[Instr.getLoop,getObj,Sem.run,h5]
 ·simp[Go.setObj,Sem.run,h5,setB]
 ·exact hs.setAny hU rfl rfl h1 h5 ⟨b,db,fn,tmps,h1,h2,h3,h4,Ee h5⟩
def VN(l:Nat)(ps:Array Tmp)(asg body:Code)(n:Nat)(Sl:Fr)(did:Nat)(R:DE->Sig->Prop):DX->St->Prop
 |.normal,s=>s.O l=some (.loop .busy none ps asg body n Sl did)/\R (.ret (.bool true)) (s.O.set l (.loop .ready none ps asg body n Sl did))
 |.ret,s=>s.O l=some (.loop .busy none ps asg body n Sl did)/\R (.ret (.bool false)) (s.O.set l (.loop .done (some .ret) ps asg body n Sl did))
 |.exit id,s=>s.O l=some (.loop .busy none ps asg body n Sl did)/\R (.ret (.bool false)) (s.O.set l (.loop .done (some (.exit id)) ps asg body n Sl did))
 |.panic d,s=>s.df=[]/\R (.panic d) s.O
theorem KU{P:Program}{l:Nat}{args:List D}{O:Sig}{R:DE->Sig->Prop}{ps:Array Tmp}{asg body:Code}{n:Nat}{Sl:Fr}{did:Nat}(hU:O l=some (.loop .ready none ps asg body n Sl did))
  (hl:ps.toList.length=args.length) (hp:∀p∈ps.toList,p<n)
  (h:DWp P (.some l) n asg (Then (fun s=>s.O l=some (.loop .ready none ps asg body n Sl did)/\DWp P (.some l) n body (VN l ps asg body n Sl did R) { s with O:=s.O.set l (.loop .busy none ps asg body n Sl did) }) (fun _ _=>False)) ⟨OI ps.toList args Sl,O,[]⟩) :
  DYield P l args O R:=by
 refine⟨fun g w vs hs ha=>?_⟩
 obtain⟨b,r,h1,h2,e1,e2,e3,e4,e5,h3,h4,_⟩:=hs.setLoop (st':=.busy) (pe':=none) hU
 have hsz:vs.length=ps.toList.length:=by rw[RepL.length ha,hl]
 refine⟨b,r.fn,(ps.toList.zip vs).foldl (fun t (x:Nat×Value)=>t.setIfInBounds x.1 x.2) r.tmps,asg,body,h1,?_,fun rr=>?_⟩
 ·unfold Instr.yield
  rw[Sem.run_bind,h2,Result.andThen_ok]
  have hne:¬vs.toArray.size≠r.params.size:=by rw[e3];simpa using hsz
  rw[if_neg hne,e3,e4,e5]
  rw[Sem.run_pure]
  congr 2
  rw[<-Array.foldl_toList]
  simp
 ·refine P2 rr (Hu (F:=FX P {}) (EA h4 _) h4 ?_)
  have hT:=Lp (ps:=ps.toList) h3 ha hl hp
  refine wpIn_mono (h g w { tmps:=_,defers:=[] } { rd:=some b } ⟨b,rfl,h1⟩ ⟨hs,hT,rfl⟩) ?_
  rintro e a w1 ⟨g1,s1,x,l1,l2,l3,l4⟩
  cases x with
  | normal =>
   obtain rfl:=l3
   obtain⟨m1,m2⟩:=l4
   obtain⟨b',r',k1,k2,f1,f2,f3,f4,f5,_,_,w2,k3,k4⟩:=l2.sim.setLoop (st':=.busy) (pe':=none) m1
   obtain rfl:b'=b:=by rw[l1.rho _ _ h1]at k1;cases k1;rfl
   refine⟨w2,?_,?_⟩
   ·unfold Instr.beginRound
    rw[Sem.run_bind,k2,Result.andThen_ok,Sem.run_bind]
    have er:({ r' with state:=.busy }:Loop)={ r' with state:=.busy,pending:=none }:=by rw[<-f2]
    rw[er,k3,Result.andThen_ok,f1]
    rfl
   ·refine wpIn_mono (m2 g1 w2 a { rd:=some b' } ⟨b',rfl,k1⟩ ⟨k4,l2.tmps,l2.df⟩) ?_
    rintro e a' w3 ⟨g2,s2,x,n1,n2,n3,n4⟩
    have fin:∀(jump:Option Code) (st':LoopState) (bv:Bool),st'=(if jump.isNone then .ready else .done)->jump.isNone=bv->s2.O l=some (.loop .busy none ps asg body n Sl did)->R (.ret (.bool bv)) (s2.O.set l (.loop st' jump ps asg body n Sl did))->
      ∃v w',(Instr.endRound b' jump).run P w3=.ok v w'/\Jr P g R (.returned v) w':=by
     intro jump st' bv aM cd m1 m2
     obtain⟨b2,r2,q1,q2,_,_,_,_,_,_,_,w4,q3,q4⟩:=n2.sim.setLoop (st':=st') (pe':=jump) m1
     obtain rfl:b2=b':=by rw[n1.rho _ _ k1]at q1;cases q1;rfl
     refine⟨.bool jump.isNone,w4,?_,g2,.ret (.bool bv),_,(l1.trans n1),q4,⟨_,rfl,by rw[cd];rfl⟩,m2⟩
     unfold Instr.endRound
     rw[Sem.run_bind,q2,Result.andThen_ok,Sem.run_bind,<-aM,q3,Result.andThen_ok]
     rfl
    cases x with
    |normal=>obtain rfl:=n3;exact fin none .ready true rfl rfl n4.1 n4.2
    |ret=>obtain rfl:=n3;exact fin (some .ret) .done false rfl rfl n4.1 n4.2
    |exit id=>obtain rfl:=n3;exact fin (some (.exit id)) .done false rfl rfl n4.1 n4.2
    |panic d=>
     obtain⟨v,rfl,hv⟩:=n3
     exact⟨DT n2.df n4.1,g2,.panic d,s2.O,l1.trans n1,n2.sim,⟨v,rfl,hv⟩,n4.2⟩
  |exit id=>exact l4.elim
  |ret=>exact l4.elim
  |panic d=>exact l4.elim
section
variable {P:Program}{n:Nat}{Q:DX->St->Prop}{γ:List (Nat×D)}{O:Sig}{df:List DDf}
theorem P0{P:Program}(o:Obj)(w:World):(newObj o).run P w=.ok w.heap.size { w with heap:=w.heap.push o }:=by
 simp[newObj,Sem.run]
theorem Sim.newObj2{g:G}{w:World}(hs:Sim P g O w){ps:Array Tmp}{asg body:Code}{fn:Nat}{tmps:Array Value}(bb:fn<P.funcs.size)(hT:RepT g γ n tmps):
  ∃did l,O did=none/\O l=none/\l≠did /\ ∃g',g.le g'/\g'.rho l=some (w.heap.size+1)/\g'.rho did=some w.heap.size /\
   Sim P g' ((O.set did .defs).set l (.loop .ready none ps asg body n γ did)) { w with heap:=(w.heap.push (.deferred (some []))).push (.loop { state:=.ready,pending:=none,fn,tmps,params:=ps,assign:=asg,body,defers:=w.heap.size }) }:=by
 obtain⟨did,hd,bD⟩:=hs.fresh
 have h1:=hs.newObj (o:=.deferred (some [])) hd bD (d:=.defs) rfl ⟨w.heap.size,by simp[G.bind],by simp⟩
 obtain⟨l,hl,bB⟩:=h1.fresh
 have hne:l≠did:=fun e=>by rw[e]at hl;simp[G.bind]at hl
 have ck:=hT.mono (G.bind_le (b:=w.heap.size) hd)
 have h2:=h1.newObj (o:=.loop { state:=.ready,pending:=none,fn,tmps,params:=ps,assign:=asg,body,defers:=w.heap.size }) hl bB (d:=.loop .ready none ps asg body n γ did) rfl
  ⟨w.heap.size+1,w.heap.size,fn,tmps,by simp[G.bind],by simp[G.bind,Ne.symm hne],bb,ck.mono (G.bind_le (b:=(w.heap.push (.deferred (some []))).size) hl),by rw[show w.heap.size+1=(w.heap.push (.deferred (some []))).size by simp];exact Array.getElem?_push_size⟩
 have bi:((g.bind did w.heap.size).bind l (w.heap.push (.deferred (some []))).size).rho l=some (w.heap.size+1):=by simp[G.bind]
 refine⟨did,l,bD,?_,hne,_,(G.bind_le hd).trans (G.bind_le hl),bi,by simp[G.bind,Ne.symm hne],h2⟩
 rwa [w7 _ _ hne]at bB
theorem GB{gop:Operand}{ps:Array Tmp}{asg body:Code}{f:Nat}{first cap:List D}{R:Nat->Nat->DE->Sig->Prop}
  (hf:ev γ gop=.func (.func f) first cap)
  (aV:∀l did,O did=none->O l=none->l≠did->DCall P f (first++[.yld l]++cap) ((O.set did .defs).set l (.loop .ready none ps asg body n γ did)) (R l did))
  (aE : ∀ l did d U',O did=none->O l=none->l ≠ did->R l did (.ret d) U' -> ∃ st pend,U' l=some (.loop st pend ps asg body n γ did)/\st ≠ .busy /\
   (match pend with|none=>Q .normal ⟨γ,U'.del l,.coll did::df⟩|some c=>DWp P .none n c Q ⟨γ,U'.del l,.coll did::df⟩))
  (aH:∀l did d U',O did=none->O l=none->l≠did->R l did (.panic d) U'->Q (.panic d) ⟨γ,U',.coll did::df⟩) :
  DWp P .none n (.rangeFunc gop ps asg body) Q ⟨γ,O,df⟩:=by
 intro g w a r hr hs
 obtain rfl:r={}:=hr
 refine wpIn_rangeFunc fun fn bb=>?_
 obtain⟨did,l,hd,hl,hne,g',ag,bw,bx,aD⟩:=hs.sim.newObj2 (ps:=ps) (asg:=asg) (body:=body) (fn:=fn) (bb rfl) hs.tmps
 have hc:=aV l did hd hl hne
 have aC:=Ah hs.tmps gop
 rw[show ev (St.mk γ O df).γ gop=.func (.func f) first cap from hf]at aC
 obtain⟨fs,cs,aC,bi,bS⟩:=aC
 let w1:World:={ w with heap:=(w.heap.push (.deferred (some []))).push (.loop { state:=.ready,pending:=none,fn,tmps:=a.tmps,params:=ps,assign:=asg,body,defers:=w.heap.size }) }
 refine⟨w.heap.size+1,[{ target:=.collected w.heap.size,args:= #[] }],w1,{ target:=.fn (.func f) cs.toArray,args:=fs.toArray ++ #[.func (.yield (w.heap.size+1)) #[] #[]] },w1,f,fs.toArray ++ #[.func (.yield (w.heap.size+1)) #[] #[]]++cs.toArray,w1,?_,?_,?_,?_,(fun h=>by cases h),?_⟩
 ·unfold Instr.enterLoop
  simp only[FX,Sem.run_bind,P0,Result.andThen_ok,Sem.run_pure]
  simp only[Array.size_push]
  rfl
 ·simp only[resolve,rangeCall];rw[aC];simp only[Deferred.ofValue];rw[Sem.run_pure];simp[Act.eval]
 ·intro f' aS
  simp only[Target.leads,Option.some.injEq]at aS
  subst aS;exact EA hc.lt _
 ·exact hc.ent _ _
 ·have aX:RepL g' (first++[.yld l]++cap) (fs++[Value.func (.yield (w.heap.size+1)) #[] #[]]++cs):=
   ((RepL.mono ag _ bi).append (show RepL g' [.yld l] [.func (.yield (w.heap.size+1)) #[] #[]] from⟨_,_,rfl,⟨_,bw,rfl⟩,rfl⟩)).append (RepL.mono ag _ bS)
  have aa:=hc.run g' w1 _ aD aX
  have e:(fs++[Value.func (.yield (w.heap.size+1)) #[] #[]]++cs).toArray=fs.toArray ++ #[Value.func (.yield (w.heap.size+1)) #[] #[]]++cs.toArray:=by simp
  rw[e]at aa
  refine CallsIn.mono aa ?_
  rintro en w3 ⟨g3,x,U',l1,l2,l3,l4⟩
  cases x with
  |panic d=>
   obtain⟨v,rfl,hv⟩:=l3
   exact⟨g3,⟨γ,U',.coll did::df⟩,.panic d,ag.trans l1,⟨l2,(hs.tmps.mono ag).mono l1,⟨_,_,rfl,l1.rho _ _ bx,(hs.df.mono ag).mono l1⟩⟩,⟨v,rfl,hv⟩,aH l did d U' hd hl hne l4⟩
  | ret d =>
   obtain⟨v,rfl,hv⟩:=l3
   obtain⟨st,pend,k1,k2,k3⟩:=aE l did d U' hd hl hne l4
   obtain⟨b,rr,q1,q2,q3,q4,q5,q6,q7,_,_,w4,q8,q9⟩:=l2.setLoop (st':=.exhausted) (pe':=pend) k1
   obtain rfl:b=w.heap.size+1:=by rw[l1.rho _ _ bw]at q1;cases q1;rfl
   have hS:SimS P g3 n ⟨γ,U'.del l,.coll did::df⟩ { a with defers:=[{ target:=.collected w.heap.size,args:= #[] }]++a.defers } w4:=
    ⟨q9.sub (fun j o hj=>by
     by_cases bt:j=l
     ·subst bt;simp[Sig.del]at hj
     ·rw[w7 _ _ bt];simpa[Sig.del,bt] using hj),(hs.tmps.mono ag).mono l1,⟨_,_,rfl,l1.rho _ _ bx,(hs.df.mono ag).mono l1⟩⟩
   refine⟨pend,w4,?_,?_⟩
   ·unfold Instr.endLoop
    rw[Sem.run_bind,q2,Result.andThen_ok]
    have aM:(rr.state==LoopState.busy)=false:=by rw[q3];cases st<;>first|rfl|exact absurd rfl k2
    simp only[aM,Bool.false_eq_true,if_false]
    rw[Sem.run_bind]
    have er:({ rr with state:=.exhausted }:Loop)={ rr with state:=.exhausted,pending:=pend }:=by rw[<-q4]
    rw[er,q8,Result.andThen_ok,q4]
    rfl
   ·cases pend with
    |none=>exact⟨g3,_,.normal,ag.trans l1,hS,rfl,k3⟩
    |some c=>exact wpIn_mono (k3 g3 w4 _ {} rfl hS) fun _ _ _ p=>p.le (ag.trans l1)
end
theorem Sim.kill{P:Program}{g:G}{O:Sig}{w:World}(hs:Sim P g O w){i b:Nat}{d:DObj}{o x:Obj}(hi:O i=some d)(ht:d.isTail=false)(hb:g.rho i=some b)(hx:w.heap[b]? = some x):Sim P g (O.del i) (setB w b o):=by
 have aq:blk g O i=some b:=by unfold blk;rw[hi];cases d<;>first|exact hb|(cases ht;done)
 have ak:=hs.free i b aq
 have bl:∀o,g.imm b o=none:=ak.2 fun o ho=>by rw[hi]at ho;cases ho;exact ht
 have aU:∀j o,O.del i j=some o->j≠i/\O j=some o:=fun j o h=>by
  by_cases hj:j=i
  ·subst hj;simp[Sig.del]at h
  ·exact⟨hj,by simpa[Sig.del,hj] using h⟩
 have ah:=hs.sub (U':=O.del i) fun j o h=>(aU j o h).2
 exact {
  imm:=fun c o v h=>by
   have hc:c≠b:=fun e=>by rw[e,bl o]at h;cases h
   have:=hs.imm c o v h
   unfold World.cell? at this⊢
   simp only at this⊢
   rw[Ed hc];exact this
  keep:=fun k o h=>by
   have hc:k≠b:=fun e=>by rw[e,ak.1]at h;cases h
   rw[Ed hc];exact hs.keep k o h
  obj:=fun j o h=>by
   obtain⟨hj,h'⟩:=aU j o h
   exact(hs.obj j o h').setB h' fun e=>hj (hs.inj j i b e aq)
  inj:=ah.inj,free:=ah.free,htop:=ah.htop,hdom:=ah.hdom,fin:=ah.fin,io:=ah.io,tab:=ah.tab }
def dels(js:List Nat)(O:Sig):Sig:=js.foldl Sig.del O
theorem ET{P:Program}{r:Rx}{fn:Func}{tmps:Array Value}{R:Ending->World->Prop}{u:FrameMode}(hu:u≠.run): ∀(js:List Nat) {g:G}{O:Sig}{w:World}{ds:List Deferred},Sim P g O w->RepDf g (js.map .coll) ds->js.Nodup->(∀j∈js,O j=some .defs)->
  (∀w',Sim P g (dels js O) w'->LeavesIn (FX P r) 0 P fn tmps R [] u w')->LeavesInM (FX P r) 0 P fn tmps R ds u w
 |[],g,O,w,ds,hs,hd,_,_,h=>by
  obtain rfl:ds=[]:=hd
  exact h w hs
 | j::js,g,O,w,ds,hs,⟨b,rest,ca,hb,aN⟩,hn,hj,h=>by
  subst ca
  obtain⟨b',au,hh⟩:=hs.obj j _ (hj j (by simp))
  obtain rfl:b'=b:=by rw[hb]at au;cases au;rfl
  refine⟨hu,.inl ⟨b',setB w b' (.deferred none),rfl,?_,ET hu js (hs.kill (hj j (by simp)) rfl hb hh) aN (List.nodup_cons.1 hn).2 (fun k hk=>?_) h⟩⟩
  ·simp[Instr.takeDeferred,getObj,setObj,Sem.run,hh,setB]
  ·have:k≠j:=fun e=>(List.nodup_cons.1 hn).1 (e ▸ hk)
   simp only[Sig.del,this,if_false]
   exact hj k (by simp[hk])
def PP(P:Program)(n:Nat)(fn:Func)(R:DE->Sig->Prop):DX->St->Prop
 |.normal,s|.ret,s=> ∃js,s.df=js.map .coll/\js.Nodup/\(∀j∈js,s.O j=some .defs) /\ ∃d,L8 P n fn ⟨s.γ,dels js s.O,[]⟩ d/\R (.ret d) (dels js s.O)
 |.panic d,s=> ∃js,s.df=js.map .coll/\js.Nodup/\(∀j∈js,s.O j=some .defs)/\R (.panic d) (dels js s.O)
 |.exit _,_=>False
theorem Es{P:Program}{f:Nat}{fn:Func}{c:Code}{args:List D}{O:Sig}{R:DE->Sig->Prop}(hf:P.funcs[f]? = some fn)(hb:fn.body=some c)
  (bV : (fn.name == "runtime.NumGoroutine") = false) {m : Nat} (hm : fn.ntmps = m) (hn : args.length <= m) (h : DWp P .none m c (fun x s => ∃ s', Wk P m s s' /\ PP P m fn (Weak R) x s') { γ := Bo 0 args, O }) : DCall P f args O R := by
 refine H9 ⟨(Array.getElem?_eq_some_iff.1 hf).1,AI hf bV (by rw[hb];rfl),fun g w vs hs ha=>?_⟩
 refine callsIn_of_wp_marks hf hb (by obtain⟨h1,_⟩:=Array.getElem?_eq_some_iff.1 hf;exact EA h1 _) ?_ rfl
 subst hm
 refine wpIn_mono (h g w _ {} rfl ⟨hs,De ha hn,rfl⟩) ?_
 rintro e a w' ⟨g',s1,x,h1,h2,h3,s2,bK,h4⟩
 obtain⟨g2,aR,ar⟩:=bK _ _ _ h2
 have bG:=h1.trans aR
 have ret:∀(js:List Nat),s2.df=js.map .coll->js.Nodup->(∀j∈js,s2.O j=some .defs)->(∃d,L8 P fn.ntmps fn ⟨s2.γ,dels js s2.O,[]⟩ d/\Weak R (.ret d) (dels js s2.O))->
   LeavesInM (FX P {}) 0 P fn a.tmps (Jr P g (Weak R)) a.defers .returning w':=by
  intro js e1 e2 e3 ⟨d,hr,hR⟩
  have aT:=ar.df
  rw[e1]at aT
  refine ET (by simp) js ar.sim aT e2 e3 fun w3 aZ=>?_
  obtain⟨v,hv,aF⟩:=hr g2 { a with defers:=[] } w3 ⟨aZ,ar.tmps,rfl⟩
  exact⟨v,hv,g2,.ret d,_,bG,aZ,⟨v,rfl,aF⟩,hR⟩
 cases x with
 |normal=>
  obtain rfl:=h3
  obtain⟨js,e1,e2,e3,e4⟩:=h4
  exact ret js e1 e2 e3 e4
 |ret=>
  obtain rfl:=h3
  obtain⟨js,e1,e2,e3,e4⟩:=h4
  exact ret js e1 e2 e3 e4
 |panic d=>
  obtain⟨v,rfl,aF⟩:=h3
  obtain⟨js,e1,e2,e3,hR⟩:=h4
  have aT:=ar.df
  rw[e1]at aT
  refine ET (by simp) js ar.sim aT e2 e3 fun w3 aZ=>?_
  exact⟨g2,.panic d,_,bG,aZ,⟨v,rfl,Rep.mono aR _ aF⟩,hR⟩
 |exit i=>exact h4.elim
end Go.DL
