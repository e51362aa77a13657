/- A part of the proof. -/
import Derived.Test.YteldimffglchkaaGreatDoorH09
import Derived.Test.YteldimffglchkaaGreatDoorH08
set_option linter.all false
namespace Go.DL
open Go
def byteC(b:UInt8):D:=.int .u8 (b.toNat:Int)
theorem J9{g:G}: ∀l:List UInt8,RepL g (l.map byteC) (l.map fun b=>Value.int .u8 (b.toNat:Int))
 |[]=>rfl
 |x::l=>⟨_,_,rfl,rfl,J9 l⟩
abbrev BR:=Option (Nat×Nat×List D)
def BR.d:BR->Nat->D
 |none,_=>.nils
 |some (i,cap,_),n=>.sref i 0 n cap
def BR.is:BR->Nat->Prop
 |none,_=>False
 |some (i,_,_),j=>j=i
def BRAt(e:Nat)(O:Sig):BR->List UInt8->Prop
 |none,bs=>bs=[]
 |some (i,cap,rest),bs=>O i=some (.tcells e (bs.map byteC++rest))/\bs.length+rest.length=cap
section
variable {P:Program}{ro:Ro}{n:Nat}{ops:Array Oper}{Q:DX->St->Prop}{rest:List Oper}{tab:Nat->Ty}{γ:List (Nat×D)}{O:Sig}{df:List DDf}
variable (ht:AZ P tab)
include ht
theorem Sn{t T T' ty e:Nat}{s x:Operand}{pos:String}{after:Array Edge}{bs str:List UInt8}{r:BR}
  (aF:t<n) (hk:(tab T).k=.slice e) (aX:(tab T').k=.str) (he:A1 (tab e).k=false) (hsz:(tab e).size=1) (bW:(tab e).bytes=1) (h1:ev γ s=r.d bs.length) (hm:BRAt e O r bs) (h2:ev γ x=.str str)
  (hb:bs.length+str.length<=140737488355328)
  (h:∀r' U',BRAt e U' r' (bs++str)->(∀j o,O j=some o->¬r.is j->U' j=some o /\ ¬r'.is j)->DOps P ro n ops Q rest ⟨(t,r'.d (bs++str).length)::γ,U',df⟩) :
  DOps P ro n ops Q (⟨some t,(cA s x T T'),ty,pos,after,none⟩::rest) ⟨γ,O,df⟩:=by
 refine Bs (fun d U'=> ∃r',BRAt e U' r' (bs++str)/\(∀j o,O j=some o->¬r.is j->U' j=some o /\ ¬r'.is j)/\d=r'.d (bs++str).length) rfl (fun c e=>by cases e) (AY rfl rfl) (by simp[Ar,aF]) ?_
  (fun d U' ⟨r',a1,a2,a3⟩=>by subst a3;exact h r' U' a1 a2)
 intro g w a hs hT
 have aO:=Al hT s
 have bx:=Al hT x
 rw[h1]at aO
 rw[h2]at bx
 have q1:a.eval x=.string ⟨str.toArray⟩:=bx
 have aH:=P1 str
 obtain⟨inf,z,t1,_,t3,t4,t5,t6,t7⟩:=Bb ht hk hk he
 have t2:=Ey ht aX
 have bF:=HL str
 have v1:=J9 (g:=g) str
 have bB:(str.map fun b=>Value.int .u8 (b.toNat:Int)).length=str.length:=by simp
 have ba:∀u∈(str.map fun b=>Value.int .u8 (b.toNat:Int)),u.oneCell'=true:=fun u hu=>by obtain⟨b,_,rfl⟩:=List.mem_map.1 hu;rfl
 generalize bZ:(str.map fun b=>Value.int .u8 (b.toNat:Int))=us at*
 obtain⟨base,cap,olds,r1,r2,r3,r4,r5⟩:∃base cap olds,a.eval s=.slice base bs.length cap/\bs.length<=cap/\RepL g (bs.map byteC) olds/\olds.length=bs.length/\(bs.length=0 \/ ∃b o,base=some ⟨b,o,none⟩ /\ ∀j v,olds[j]? = some v->w.cell? ⟨b,o+j,none⟩=some v):=by
  cases r with
  |none=>
   obtain rfl:bs=[]:=hm
   exact⟨none,0,[],aO,Nat.le_refl _,rfl,rfl,.inl rfl⟩
  |some y=>
   obtain⟨i,cap,rest'⟩:=y
   obtain⟨m1,m2⟩:=hm
   obtain⟨b,aG,hv⟩:=aO
   obtain⟨b2,vs,bb,aj,hr⟩:=hs.obj i _ m1
   obtain rfl:b2=b:=by rw[aG]at bb;cases bb;rfl
   obtain⟨u,v',e1,e2,e3⟩:=hr.split
   refine⟨_,cap,u,hv,by omega,e2,by rw[RepL.length e2];simp,.inr ⟨b2,0,rfl,fun j x hx=>?_⟩⟩
   have hj:j<u.length:=(List.getElem?_eq_some_iff.1 hx).1
   simp only[World.cell?, aj,Nat.zero_add]
   have:vs.toList[j]? = some x:=by rw[e1,List.getElem?_append_left hj];exact hx
   simpa using this
 by_cases aW:str=[]
 ·subst aW
  refine⟨g,w,a.eval s,_,O,Aq ?_,.refl g,hs,aO,r,by rw[List.append_nil];exact hm,fun j o hj hn=>⟨hj,hn⟩,by rw[List.append_nil]⟩
  rw[r1,q1]
  have:=EC (ty:=ty) t1 t2 t3 (w:=w) (w2:=w) (base:=base) (n:=bs.length) (cap:=cap) (s:=⟨[].toArray⟩) (by rw[aH];simpa using r2) (fun b _=>by rw[HL];simp[storeCells,Sem.run]) (fun _=>rfl)
  rw[aH]at this
  simpa using this
 have bM:0<str.length:=List.length_pos_iff.2 aW
 by_cases aS:bs.length+str.length<=cap
 ·cases r with
  |none=>
   have e1:a.eval s=.slice none 0 0:=aO
   rw[e1]at r1;injection r1 with f1 f2 f3
   omega
  | some y =>
   obtain⟨i,cap',rest'⟩:=y
   obtain⟨m1,m2⟩:=hm
   obtain⟨b,aG,hv⟩:=aO
   rw[hv]at r1;injection r1 with f1 f2 f3
   subst f3
   subst f1
   obtain⟨b2,vs,bb,aj,hr⟩:=hs.obj i _ m1
   obtain rfl:b2=b:=by rw[aG]at bb;cases bb;rfl
   have bO:=RepL.length hr
   simp only[Array.length_toList,List.length_append,List.length_map]at bO
   have bL:=Bu (P:=P) us 0 w vs aj ba (o:=bs.length) (by omega)
   have hne:us≠[]:=fun e=>by rw[e]at bB;simp at bB;omega
   have aC:=EC (ty:=ty) t1 t2 t3 (w:=w) (base:=some ⟨b2,0,none⟩) (n:=bs.length) (cap:=cap') (s:=⟨str.toArray⟩) (w2:=if us=[] then w else setB w b2 (.cells (B8 vs bs.length us) e (0,0)))
    (by rw[aH];exact aS) (fun a ha=>by cases ha;rw[Bt,t5,hsz,bF];simpa using bL) (fun h=>by cases h)
   rw[aH,if_neg hne]at aC
   have aV:RepL g ((bs++str).map byteC++rest'.drop str.length) (B8 vs bs.length us).toList:=by
    refine AF (by simp only[List.length_append,List.length_drop,List.length_map,Array.length_toList,Ca];omega) fun j d v h1 h2=>?_
    have aN:(B8 vs bs.length us)[j]? = some v:=by simpa using h2
    rw[Cz _ _ _ _ (by omega)]at aN
    rw[List.map_append,List.append_assoc]at h1
    simp only[List.getElem?_append,List.length_map]at h1
    have hg:=RepL.get hr j
    by_cases c1:j<bs.length
    ·rw[if_neg (by omega)]at aN
     rw[if_pos c1]at h1
     rw[List.getElem?_append_left (by simpa using c1),h1]at hg
     simp only[Array.getElem?_toList,aN,Option.getD_some]at hg
     exact hg
    ·rw[if_neg c1]at h1
     by_cases c2:j-bs.length<str.length
     ·rw[if_pos (by omega)]at aN
      rw[if_pos c2]at h1
      have:=RepL.get v1 (j-bs.length)
      rw[h1,aN]at this
      exact this
     ·rw[if_neg (by omega)]at aN
      rw[if_neg c2,List.getElem?_drop]at h1
      rw[List.getElem?_append_right (by simp;omega),List.length_map,show j-bs.length=str.length+(j-bs.length-str.length) by omega,h1]at hg
      simp only[Array.getElem?_toList,aN,Option.getD_some]at hg
      exact hg
   refine⟨g,_,.slice (some ⟨b2,0,none⟩) (bs.length+str.length) cap',.sref i 0 (bs.length+str.length) cap',O.set i (.tcells e ((bs++str).map byteC++rest'.drop str.length)),Aq (by rw[hv,q1];exact aC),.refl g,?_,F8 aG,some (i,cap',rest'.drop str.length),⟨w6 ..,?_⟩,fun j o hj hn=>⟨by rw[w7 _ _ hn];exact hj,hn⟩,by rw[List.length_append];rfl⟩
   ·exact hs.setAny m1 rfl rfl aG aj ⟨b2,_,aG,Ef aj,aV⟩
   ·simp only[List.length_append,List.length_drop];omega
 ·obtain⟨c,hc,aC⟩:=Hm (ty:=ty) t1 t2 t3 t4 (w:=w) (base:=base) (n:=bs.length) (cap:=cap) (s:=⟨str.toArray⟩) (olds:=olds)
   (Am (by rw[t5,hsz,Nat.mul_one];exact r4) r5) (by rw[aH];omega) (by rw[aH];omega) (by rw[t6,bW,aH,Nat.mul_one];exact hb)
  rw[bF,aH]at aC
  rw[aH]at hc
  obtain⟨i',aP,bG⟩:=hs.fresh
  let zs:=(Builtin.zeroCells z.cells (c-(bs.length+str.length))).toList
  have bh:RepL (g.bind i' w.heap.size) ((bs++str).map byteC++zs.map B6) (olds++us++zs):=by
   rw[List.map_append]
   exact((RepL.mono (G.bind_le aP) _ r3).append (RepL.mono (G.bind_le aP) _ v1)).append (BO _ _)
  have bj:ObjRep P (g.bind i' w.drew.heap.size) { w.drew with heap:=w.drew.heap.push (.cells (olds++us++zs).toArray e (0,0)) } i' (.tcells e ((bs++str).map byteC++zs.map B6)):=
   ⟨w.drew.heap.size,(olds++us++zs).toArray,by simp[G.bind],by exact Array.getElem?_push_size,by simpa using bh⟩
  have bf:=hs.drew.newObj aP bG rfl bj
  refine⟨_,_,_,.sref i' 0 (bs.length+str.length) c,_,Aq (by rw[r1,q1];exact aC),G.bind_le aP,bf,F8 (by simp[G.bind]),some (i',c,zs.map B6),⟨w6 ..,?_⟩,fun j o hj _=>?_,by rw[List.length_append];rfl⟩
  ·have hz:zs.length=c-(bs.length+str.length):=by simp[zs,size_zeroCells,t7,hsz]
   simp only[List.length_append,List.length_map,hz];omega
  ·have hne:j≠i':=fun e=>by rw[e,bG]at hj;cases hj
   exact⟨by rw[w7 _ _ hne];exact hj,hne⟩
theorem MU{t T:Nat}{ty:TypeId}{pos:String}{after:Array Edge}(hk:A1 (tab T).k=false)(aF:t<n)
  (h:∀i,O i=none->DOps P ro n ops Q rest ⟨(t,.ptr i 0)::γ,O.set i (.tcells T (tab T).zero),df⟩) :
  DOps P ro n ops Q (⟨some t,.alloc T,ty,pos,after,none⟩::rest) ⟨γ,O,df⟩:=by
 refine Gz (mk:=fun i=>.ptr i 0) (d:=.tcells T (tab T).zero) rfl (fun c e=>by cases e) (Aa fun c e=>by cases e) (by simp[Ar,aF]) rfl ?_ h
 intro g w a hs hT
 obtain⟨z,hz,bH,bY⟩:=Cp (ht T) (Ad hk) w
 refine⟨.cells z.cells T,.pointer (some ⟨w.heap.size,0,none⟩),?_,fun i hi=>⟨⟨w.heap.size,z.cells,by simp[G.bind],by simp,?_⟩,w.heap.size,by simp[G.bind],rfl⟩⟩
 ·simp only[execOp,Instr.alloc,Sem.run_bind,hz,Result.andThen_ok,newVar,Cg]
  rfl
 ·rw[bH];exact BO _ _
end
section
variable {P:Program}{tab:Nat->Ty}(ht:AZ P tab){ro:Ro}{n:Nat}{ops:Array Oper}{Q:DX->St->Prop}{df:List DDf}{rest:List Oper}{γ:List (Nat×D)}{O:Sig}
include ht
theorem Ps{g:G}{w:World}{T e i off len cap:Nat}{k k':IntKind}{v u u':Value}{hi m:Nat}(hk:(tab T).k=.slice e)(he:A1 (tab e).k=false)(hv:Rep g (.sref i off len cap) v)(hu:Rep g (.int k hi) u)(bK:Rep g (.int k' m) u')(bC:hi<=m)(hm:m<=cap):
  ∃r,(Instr.sliceAt T v none (some u) (some u')).run P w=.ok r w/\Rep g (.sref i off hi m) r:=by
 obtain⟨b,hb,rfl⟩:=hv
 obtain rfl:=AO hu
 obtain rfl:=AO bK
 refine⟨_,?_,Kb (len:=hi) (cap:=m) (off:=off) hb⟩
 have hu:=AB ht hk
 have c1:(0:Int)<=(hi:Int):=by omega
 have c2:(hi:Int)<=(m:Int):=by omega
 have c3:(0:Int)<=(m:Int):=by omega
 have c4:(m:Int)<=(cap:Int):=by omega
 simp only[Option.map_some,Instr.sliceAt,Instr.slice,Instr.sliceBounds,Instr.sliceBound,asIntOf,Sem.run_bind,Sem.run_pure,Result.andThen_ok,run_underlying hu,c1,c2,c3,c4,and_self,if_true,Az (ht e) (Ad he),Int.toNat_natCast,Nat.sub_zero,Nat.zero_mul]
 congr 1
 split<;>simp[Addr.add]
theorem JG{t T ty e i off len cap:Nat}{k k':IntKind}{x y z:Operand}{hi m:Nat}{pos:String}{after:Array Edge}
  (h:DOps P ro n ops Q rest ⟨(t,.sref i off hi m)::γ,O,df⟩)
  (aF:t<n) (hk:(tab T).k=.slice e) (he:A1 (tab e).k=false) (h1:ev γ x=.sref i off len cap) (h2:ev γ y=.int k hi) (h3:ev γ z=.int k' m) (bC:hi<=m) (hm:m<=cap) :
  DOps P ro n ops Q (⟨some t,.slice T x none (some y) (some z),ty,pos,after,none⟩::rest) ⟨γ,O,df⟩:=by
 refine Bs (fun d U'=>d=.sref i off hi m/\U'=O) rfl (fun c e=>by cases e) (Aa fun c e=>by cases e) (by simp[Ar,aF]) ?_
  (fun d U' ⟨a2,a3⟩=>by subst a2 a3;exact h)
 intro g w a hs hT
 have hx:=Al hT x
 have hy:=Al hT y
 have hz:=Al hT z
 rw[h1]at hx
 rw[h2]at hy
 rw[h3]at hz
 obtain⟨r,h4,h5⟩:=Ps (w:=w) ht hk he hx hy hz bC hm
 exact⟨g,w,r,_,O,by simp only[execOp,Option.map_some,Option.map_none,Sem.run_bind,h4,Result.andThen_ok,Sem.run_pure],.refl g,hs,h5,rfl,rfl⟩
omit ht in
theorem KI{i j c sz:Nat}{es:List (List D)}{r az bs:List D}(hj:O j=some (.cells (es.flatten++r)))(hi:O i=some (.cells (az ++ .sref j 0 es.length c::bs)))(bU:i≠j)(m3:es.length<=c)(m4:∀e∈es,e.length=sz):Wk P n ⟨γ,O,df⟩ ⟨γ,(O.del j).set i (.cells (az ++ .slice es .no::bs)),df⟩:=by
 intro g w a hs
 obtain⟨b,_,_,hb,_,_⟩:=hs.sim.obj j _ hj
 obtain⟨g',aI,ag,bi⟩:=hs.sim.freeze (i:=j) hj hb
 have aP:(O.del j) i=some (.cells (az ++ .sref j 0 es.length c::bs)):=by simp only[Sig.del,bU,if_false];exact hi
 simp only at ag
 refine⟨g',aI,⟨ag.retell aP fun vs=>Hp fun v hv=>?_,hs.tmps.mono aI,hs.df.mono aI⟩⟩
 obtain⟨b',aG,hv⟩:=hv
 obtain rfl:b'=b:=by have:=aI.rho _ _ hb;rw[this]at aG;cases aG;rfl
 exact⟨_,c,hv,m3,.inr ⟨sz,b',0,rfl,DR m4 bi⟩,trivial⟩
end
section
variable {P:Program}{n:Nat}{γ:List (Nat×D)}{O:Sig}{df:List DDf}
theorem BF{i sz:Nat}{r:RW}{es:List (List D)}{az bs:List D}(hm:RWAt O sz r es)(hi:O i=some (.cells (az++r.d es.length::bs)))(bN:¬r.is i):
  ∃U',Wk P n ⟨γ,O,df⟩ ⟨γ,U',df⟩/\U' i=some (.cells (az ++ .slice es .no::bs)) /\ ∀j o,O j=some o->j≠i->¬r.is j->U' j=some o:=by
 cases r with
 |nil=>
  obtain rfl:es=[]:=hm
  exact⟨_,Ex hi (Ao _ (.inl rfl)),w6 .., fun j o hj aY _=>by rw[w7 _ _ aY];exact hj⟩
 |full es0=>
  obtain⟨rfl,_⟩:=hm
  exact⟨_,Ex hi (Bm _ _),w6 .., fun j o hj aY _=>by rw[w7 _ _ aY];exact hj⟩
 | row k cap rest =>
  obtain⟨m1,m2,m3,m4⟩:=hm
  have bT:i≠k:=bN
  exact⟨_,KI m1 hi bT m3 m4,w6 .., fun j o hj aY bn=>by
   rw[w7 _ _ aY]
   have:j≠k:=bn
   simp only[Sig.del,this,if_false];exact hj⟩
theorem Hw{t sz:Nat}{r:RW}{es:List (List D)}(hm:RWAt O sz r es)(hg:getD γ t=r.d es.length):
  ∃U',Wk P n ⟨γ,O,df⟩ ⟨(t,.slice es .no)::γ,U',df⟩ /\ ∀j o,O j=some o->¬r.is j->U' j=some o:=by
 cases r with
 |nil=>
  obtain rfl:es=[]:=hm
  exact⟨O,By (by rw[hg];exact Ao _ (.inl rfl)),fun j o h _=>h⟩
 |full es0=>
  obtain⟨rfl,_⟩:=hm
  exact⟨O,By (by rw[hg];exact Bm _ _),fun j o h _=>h⟩
 | row k cap rest =>
  obtain⟨m1,m2,m3,m4⟩:=hm
  refine⟨O.del k,fun g w a hs=>?_,fun j o hj bn=>by
   have:j≠k:=bn
   simp only[Sig.del,this,if_false];exact hj⟩
  have bD:=hs.tmps.2 t
  rw[hg]at bD
  obtain⟨b,hb,hv⟩:=bD
  obtain⟨g',aI,ag,bi⟩:=hs.sim.freeze (i:=k) m1 hb
  refine⟨g',aI,⟨ag,⟨hs.tmps.1,fun q=>?_⟩,hs.df.mono aI⟩⟩
  rw[A3]
  by_cases hq:q=t
  ·rw[if_pos hq,hq]
   exact⟨_,cap,hv,m3,.inr ⟨sz,b,0,rfl,DR m4 bi⟩,trivial⟩
  ·rw[if_neg hq];exact Rep.mono aI _ (hs.tmps.2 q)
end
section
variable (P:Program)(ro:Ro)(n:Nat)(ops:Array Oper)(N:Nat)(S0:Sig)(Q:DX->St->Prop)(df:List DDf)(tab:Nat->Ty)
def USt(o:Oper)(γ:Fr)(O:Sig)(K:Fr->Sig->Prop):Prop:=
 (∃(dj:Nat->D) (x:DObj),(∀τ,Eff P ro n ops df γ τ o (fun d' X'=> ∃j,τ j=none/\d'=dj j/\X'=τ.set j x) (fun _ _=>False)) /\ ∀j,O j=none->K (putD o.dst (dj j) γ) (O.set j x)) \/
 (∃(j:Nat) (y x:DObj) (d:D),O j=some y/\S0 j=none/\(∀τ,τ j=some y->Eff P ro n ops df γ τ o (fun d' X'=>d'=d/\X'=τ.set j x) (fun _ _=>False))/\K (putD o.dst d γ) (O.set j x)) \/
 (∃Rr:Sig->D->Sig->Prop,(∀τ,Eff P ro n ops df γ τ o (Rr τ) (fun _ _=>False))/\(∀τ k x d X',τ k=none->Rr (τ.set k x) d X'->∃U',Rr τ d U'/\U' k=none/\X'=U'.set k x) /\ ∀d U',Rr O d U'->Sub S0 U'/\K (putD o.dst d γ) U')
def Step3(e u:Bool)(o:Oper)(γ:Fr)(O:Sig)(K:Fr->Sig->Prop):Prop:=
 match isAl o with
 |some (t,T)=> ∀k,O k=none->K ((t,.ptr k 0)::γ) (O.set k (.cells (tab T).zero))
 |none=>(∃d,Calm P n ops N S0 γ o d/\K (putD o.dst d γ) O) \/
  (e=true/\Eff P ro n ops df γ O o (fun d U'=>Sub S0 U'/\K (putD o.dst d γ) U') (fun d U'=> ∀V',Q (.panic d) ⟨V',U',df⟩)) \/
  (u=true/\USt P ro n ops S0 df o γ O K)
def MOps3(E U:List Nat):List Nat->Fr->Sig->Prop
 |[],γ,O=>DOps P ro n ops Q [] ⟨γ,O,df⟩
 |i::r,γ,O=> ∃o,ops[i]? = some o/\Step3 P ro n ops N S0 Q df tab (E.contains i) (U.contains i) o γ O (MOps3 E U r)
def MO3:List (Bool×Bool×Oper)->Fr->Sig->Prop
 |[],γ,O=>DOps P ro n ops Q [] ⟨γ,O,df⟩
 |(e,u,o)::r,γ,O=>Step3 P ro n ops N S0 Q df tab e u o γ O (MO3 r)
end
section
variable {P:Program}{ro:Ro}{n:Nat}{ops:Array Oper}{N:Nat}{S0:Sig}{Q:DX->St->Prop}{df:List DDf}{E U:List Nat}{tab:Nat->Ty}
theorem USt.congr{o:Oper}{γ V':Fr}{O:Sig}{K K':Fr->Sig->Prop}(h:USt P ro n ops S0 df o γ O K)(ap:∀t∈o.looksAt ops,getD γ t=getD V' t)(hK:∀d U',K (putD o.dst d γ) U'->K' (putD o.dst d V') U'):USt P ro n ops S0 df o V' O K':=by
 rcases h with⟨dj,x,hE,h⟩|⟨j,y,x,d,hj,h0,hE,h⟩|⟨Rr,hE,hn,h⟩
 rotate_left 2
 ·exact .inr (.inr ⟨Rr,fun τ=>(hE τ).congr ap fun _ _ h=>h,hn,fun d U' hR=>⟨(h d U' hR).1,hK _ _ (h d U' hR).2⟩⟩)
 ·exact .inl ⟨dj,x,fun τ=>(hE τ).congr ap fun _ _ h=>h,fun j hj=>hK _ _ (h j hj)⟩
 ·refine .inr (.inl ?_)
  exact⟨j,y,x,d,hj,h0,fun τ hD=>(hE τ hD).congr ap fun _ _ h=>h,hK _ _ h⟩
theorem Step3.mono{e u:Bool}{o:Oper}{γ V':Fr}{O:Sig}{K K':Fr->Sig->Prop}(h:Step3 P ro n ops N S0 Q df tab e u o γ O K)(ap:Alike γ V')(hK:∀γ V' O,Alike γ V'->K γ O->K' V' O):Step3 P ro n ops N S0 Q df tab e u o V' O K':=by
 unfold Step3 at h⊢
 split at h
 ·exact fun k hk=>hK _ _ _ (ap.put (some _) _) (h k hk)
 ·rcases h with⟨d,h2,h3⟩|⟨h1,h2⟩|⟨h1,h2⟩
  ·exact .inl ⟨d,h2.congr fun t _=>ap t,hK _ _ _ (ap.put _ _) h3⟩
  ·exact .inr (.inl ⟨h1,h2.congr (fun t _=>ap t) fun d U' ⟨h3,h4⟩=>⟨h3,hK _ _ _ (ap.put _ _) h4⟩⟩)
  ·exact .inr (.inr ⟨h1,h2.congr (fun t _=>ap t) fun d U' h4=>hK _ _ _ (ap.put _ _) h4⟩)
theorem MOps3.alike: ∀(l:List Nat) {γ V':Fr}{O:Sig},Alike γ V'->MOps3 P ro n ops N S0 Q df tab E U l γ O->MOps3 P ro n ops N S0 Q df tab E U l V' O
 |[],_,_,_,h,k=>C2 h k
 |i::r,_,_,_,h,⟨o,ho,k⟩=>⟨o,ho,k.mono h fun _ _ _ h' k'=>MOps3.alike r h' k'⟩
theorem I3{i:Nat}{oi:Oper}(hi:ops[i]? = some oi)(post:List Nat): ∀(pre:List Nat) (γ:Fr) (O:Sig),
  (∀x∈pre,E.contains x=false/\(U.contains x=true->(isAl oi).isSome=true) /\ ∃ox,ops[x]? = some ox/\oi.apart ops ox=true/\((isAl ox).isSome=true->(isAl oi).isSome=true))->MOps3 P ro n ops N S0 Q df tab E U (pre++i::post) γ O->MOps3 P ro n ops N S0 Q df tab E U (i::(pre++post)) γ O
 |[],_,_,_,h=>h
 | x::pre,γ,O,hp,h=>by
  obtain⟨bd,bz,ox,ar,bw,ap⟩:=hp x (by simp)
  obtain⟨a1,a2,a3⟩:=Oper.apart_spec bw
  obtain⟨ox',aD,hx⟩:=h
  obtain rfl:ox'=ox:=by rw[ar]at aD;cases aD;rfl
  have ih:∀γ O,MOps3 P ro n ops N S0 Q df tab E U (pre++i::post) γ O->MOps3 P ro n ops N S0 Q df tab E U (i::(pre++post)) γ O:=fun γ O=>I3 hi post pre γ O fun y hy=>hp y (by simp[hy])
  refine⟨oi,hi,?_⟩
  cases aJ:isAl ox' with
  | some p =>
   obtain⟨t,T⟩:=p
   cases aB:isAl oi with
   |none=>rw[aJ,aB]at ap;simp at ap
   | some q =>
    obtain⟨t',T'⟩:=q
    obtain⟨_,_,_,rfl⟩:=Id aJ
    obtain⟨_,_,_,rfl⟩:=Id aB
    simp only[Step3,isAl]at hx⊢
    intro k' aX
    refine⟨_,ar,?_⟩
    simp only[Step3,isAl]
    intro k hk
    have hne:k≠k':=by
     rintro rfl
     simp[Sig.set]at hk
    have bQ:O k=none:=by rw[w7 _ _ hne]at hk;exact hk
    obtain⟨oi',ac,hh⟩:=ih _ _ (hx k bQ)
    rw[hi]at ac;cases ac
    simp only[Step3,isAl]at hh
    have h3:=hh k' (by rw[w7 _ _ (Ne.symm hne)];exact aX)
    rw[set_comm O hne]at h3
    exact MOps3.alike _ (Bo (a:=some t') (b:=some t) _ _ _ fun t p q=>a2 t p q) h3
  | none =>
   simp only[Step3,aJ]at hx
   rcases hx with⟨d,hy,h⟩|⟨hE,_⟩|⟨bE,hu⟩
   ·obtain⟨oi',ac,hh⟩:=ih _ O h
    rw[hi]at ac;cases ac
    cases aB:isAl oi with
    |some q=>
     obtain⟨t',T'⟩:=q
     obtain⟨_,_,_,rfl⟩:=Id aB
     simp only[Step3,isAl]at hh⊢
     intro k' aX
     refine⟨ox',ar,?_⟩
     simp only[Step3,aJ]
     refine .inl ⟨d,hy.congr fun t ht=>(AD (dst:=some t') fun hd=>a1 t hd ht).symm,?_⟩
     exact MOps3.alike _ (Bo _ _ _ fun t p q=>a2 t p q) (hh k' aX)
    | none =>
     simp only[Step3,aB]at hh⊢
     rcases hh with⟨e,h2,h3⟩|⟨h1,h2⟩|⟨h1,h2⟩
     ·refine .inl ⟨e,h2.congr fun t ht=>AD fun hd=>a3 t hd ht,ox',ar,?_⟩
      simp only[Step3,aJ]
      refine .inl ⟨d,hy.congr fun t ht=>(AD fun hd=>a1 t hd ht).symm,?_⟩
      exact MOps3.alike _ (Bo _ _ _ fun t p q=>a2 t p q) h3
     ·refine .inr (.inl ⟨h1,h2.congr (fun t ht=>AD fun hd=>a3 t hd ht) fun e U' ⟨h3,h4⟩=>⟨h3,ox',ar,?_⟩⟩)
      simp only[Step3,aJ]
      refine .inl ⟨d,hy.congr fun t ht=>(AD fun hd=>a1 t hd ht).symm,?_⟩
      exact MOps3.alike _ (Bo _ _ _ fun t p q=>a2 t p q) h4
     ·refine .inr (.inr ⟨h1,h2.congr (fun t ht=>AD fun hd=>a3 t hd ht) fun e U' h4=>⟨ox',ar,?_⟩⟩)
      simp only[Step3,aJ]
      refine .inl ⟨d,hy.congr fun t ht=>(AD fun hd=>a1 t hd ht).symm,?_⟩
      exact MOps3.alike _ (Bo _ _ _ fun t p q=>a2 t p q) h4
   ·rw[bd]at hE;cases hE
   ·cases aB:isAl oi with
    |none=>rw[aB]at bz;exact absurd (bz bE) (by simp)
    | some q =>
     obtain⟨t',T'⟩:=q
     obtain⟨_,_,_,rfl⟩:=Id aB
     simp only[Step3,isAl]
     intro k hk
     refine⟨ox',ar,?_⟩
     simp only[Step3,aJ]
     refine .inr (.inr ⟨bE,?_⟩)
     rcases hu with⟨dj,xo,hE,hK⟩|⟨j,y,xo,d,hj,h0,hE,hK⟩|⟨Rr,hE,hn,hK⟩
     rotate_left 2
     ·refine .inr (.inr ⟨Rr,fun τ=>(hE τ).congr (fun t ht=>(AD (dst:=some t') fun hd=>a1 t hd ht).symm) fun _ _ h=>h,hn,fun d X' hR=>?_⟩)
      obtain⟨U',h1,h2,rfl⟩:=hn O k _ d X' hk hR
      obtain⟨hs,bX⟩:=hK d U' h1
      refine⟨hs.set (hs.none h2),?_⟩
      obtain⟨oi',ac,hh⟩:=ih _ _ bX
      rw[hi]at ac;cases ac
      simp only[Step3,isAl]at hh
      exact MOps3.alike _ (Bo (a:=some t') (b:=ox'.dst) _ _ _ fun t p q=>a2 t p q) (hh k h2)
     ·refine .inl ⟨dj,xo,fun τ=>(hE τ).congr (fun t ht=>(AD (dst:=some t') fun hd=>a1 t hd ht).symm) fun _ _ h=>h,fun j hj=>?_⟩
      have hne:j≠k:=by
       rintro rfl
       simp[Sig.set]at hj
      have bR:O j=none:=by rw[w7 _ _ hne]at hj;exact hj
      obtain⟨oi',ac,hh⟩:=ih _ _ (hK j bR)
      rw[hi]at ac;cases ac
      simp only[Step3,isAl]at hh
      have h3:=hh k (by rw[w7 _ _ (Ne.symm hne)];exact hk)
      rw[set_comm O hne]at h3
      exact MOps3.alike _ (Bo (a:=some t') (b:=ox'.dst) _ _ _ fun t p q=>a2 t p q) h3
     ·have hne:j≠k:=fun e=>by rw[e,hk]at hj;cases hj
      refine .inr (.inl ?_)
      refine⟨j,y,xo,d,by rw[w7 _ _ hne];exact hj,h0,fun τ hD=>(hE τ hD).congr (fun t ht=>(AD (dst:=some t') fun hd=>a1 t hd ht).symm) fun _ _ h=>h,?_⟩
      obtain⟨oi',ac,hh⟩:=ih _ _ hK
      rw[hi]at ac;cases ac
      simp only[Step3,isAl]at hh
      have h3:=hh k (by rw[w7 _ _ (Ne.symm hne)];exact hk)
      rw[set_comm O hne]at h3
      exact MOps3.alike _ (Bo (a:=some t') (b:=ox'.dst) _ _ _ fun t p q=>a2 t p q) h3
def IP(ops:Array Oper)(E U:List Nat):List Nat->List Nat->Bool
 |_,[]=>true
 | done,i::r => !done.contains i && (match ops[i]? with
  |some o=>(o.after.all fun e=> !Region.binds .any e||done.contains e.on)&&done.all fun x=>(!E.contains x&&(!U.contains x||(isAl o).isSome)&&match ops[x]? with
   |some ox=>o.apart ops ox&&(!(isAl ox).isSome||(isAl o).isSome)
   |none=>false)||FF ops ops.size i x
  |none=>false)&&IP ops E U (i::done) r
theorem G8 {i:Nat} {l2:List Nat} : ∀ (l1 done:List Nat),IP ops E U done (l1++i::l2)=true->i ∉ l1/\i ∉ done/\i ∉ l2 /\ ∃ o,ops[i]? = some o/\(∀ e ∈ o.after,Region.binds .any e=true->e.on ∈ l1\/e.on ∈ done) /\
   ∀x,x∈l1->FF ops ops.size i x=true\/(E.contains x=false/\(U.contains x=true->(isAl o).isSome=true) /\ ∃ox,ops[x]? = some ox/\o.apart ops ox=true/\((isAl ox).isSome=true->(isAl o).isSome=true))
 | [],done,h=>by
  simp only[List.nil_append,IP,Bool.and_eq_true,Bool.not_eq_true',List.contains_eq_mem,decide_eq_false_iff_not]at h
  obtain⟨⟨h1,h2⟩,h3⟩:=h
  have later:∀(l d:List Nat),i∈d->IP ops E U d l=true->i∉l:=by
   intro l
   induction l with
   |nil=>intro _ _ _ h;cases h
   |cons y l ih=>
    intro d hd hm aa
    simp only[IP,Bool.and_eq_true,Bool.not_eq_true',List.contains_eq_mem,decide_eq_false_iff_not]at hm
    obtain⟨⟨m1,_⟩,m3⟩:=hm
    rcases List.mem_cons.1 aa with rfl|aa
    ·exact m1 hd
    ·exact ih (y::d) (by simp[hd]) m3 aa
  refine⟨by simp,h1,later l2 _ (by simp) h3,?_⟩
  split at h2
  ·rename_i o ho
   simp only[Bool.and_eq_true]at h2
   refine⟨o,ho,fun e he hb=>?_,fun x hx=>by cases hx⟩
   have:=Array.all_eq_true_iff_forall_mem.1 h2.1 e he
   simp only[hb,Bool.not_true,Bool.false_or,List.contains_eq_mem,decide_eq_true_eq]at this
   exact .inr this
  ·cases h2
 | y::l1,done,h=>by
  simp only[List.cons_append,IP,Bool.and_eq_true]at h
  obtain⟨h1,h2,h3,o,ho,he,hx⟩:=G8 l1 (y::done) h.2
  have bp:i≠y:=fun e=>h2 (by simp[e])
  refine⟨by simp[bp,h1],fun hd=>h2 (by simp[hd]),h3,o,ho,fun e hm hb=>?_,?_⟩
  ·rcases he e hm hb with h4|h4
   ·exact .inl (by simp[h4])
   ·rcases List.mem_cons.1 h4 with h5|h5
    ·exact .inl (by simp[h5])
    ·exact .inr h5
  ·intro x aa
   rcases List.mem_cons.1 aa with rfl|aa
   ·have back:∀(l d:List Nat),x∈d->IP ops E U d (l++i::l2)=true->FF ops ops.size i x=true\/(E.contains x=false/\(U.contains x=true->(isAl o).isSome=true) /\ ∃ox,ops[x]? = some ox/\o.apart ops ox=true/\((isAl ox).isSome=true->(isAl o).isSome=true)):=by
     intro l
     induction l with
     | nil =>
      intro d hd hm
      simp only[List.nil_append,IP,Bool.and_eq_true,ho]at hm
      have:=List.all_eq_true.1 hm.1.2.2 x hd
      simp only[Bool.or_eq_true,Bool.and_eq_true,Bool.not_eq_true']at this
      rcases this.symm with h4|⟨⟨h4,hu⟩,h5⟩
      ·exact .inl h4
      ·refine .inr ⟨h4,(fun bJ=>hu.resolve_left fun h=>by rw[bJ]at h;cases h),?_⟩
       split at h5
       ·rename_i ox ar
        simp only[Bool.and_eq_true,Bool.or_eq_true,Bool.not_eq_true']at h5
        exact⟨ox,ar,h5.1,fun hs=>by rcases h5.2 with h6|h6;rw[h6]at hs;cases hs;exact h6⟩
       ·cases h5
     |cons z l ih=>
      intro d hd hm
      simp only[List.cons_append,IP,Bool.and_eq_true]at hm
      exact ih (z::d) (by simp[hd]) hm.2
    exact back l1 _ (by simp) h.2
   ·exact hx x aa
def GR(ops:Array Oper)(E U ord:List Nat):Bool:=IP ops E U [] ord&&(List.range ops.size).all ord.contains&&ord.length==ops.size
theorem PO(ht:AZ P tab)(hN:P.funcs.size=N){ord:List Nat}(hB:GR ops E U ord=true)(hA:allOK tab n ops=true){g0:G}{rr:Rx}(hr:RoRep g0 ro rr): ∀(m:Nat) (r:List Nat) (listed:Array Bool) (γ:Fr) (O:Sig),r.length=m->listed.size=ops.size->
  r=ord.filter (fun i=> !listed.getD i true)->Closed ops listed->MOps3 P ro n ops N S0 Q df tab E U r γ O->Sub S0 O->
   ∀(g:G) (w:World) (a:Act),g0.le g->SimS P g n ⟨γ,O,df⟩ a w->wpAnyIn (FX P rr) 0 P .any ops (Post P g0 n Q) m listed a w:=by
 unfold GR at hB
 simp only[Bool.and_eq_true]at hB
 obtain⟨⟨ah,aM⟩,_⟩:=hB
 have aa:∀(r:List Nat) (listed:Array Bool),r=ord.filter (fun i=> !listed.getD i true)->∀i∈Region.ready .any ops listed,i∈r:=by
  intro r listed hf i hi
  obtain⟨h1,o,ho,_⟩:=mem_ready.1 hi
  have:=List.all_eq_true.1 aM i (by simpa using(Array.getElem?_eq_some_iff.1 ho).1)
  rw[hf,List.mem_filter]
  exact⟨by simpa using this,by rw[h1];rfl⟩
 intro m
 induction m with
 |zero=>
  intro r listed γ O hl hsz hf ak h hC g w a hg hs
  obtain rfl:r=[]:=List.length_eq_zero_iff.1 hl
  refine⟨List.eq_nil_iff_forall_not_mem.2 fun i hi=>?_,?_⟩
  ·have:=aa [] listed hf i hi;cases this
  ·exact Post.le hg (h g w a rr (hr.mono hg) hs)
 | succ m ih =>
  intro r listed γ O hl hsz hf ak h hC g w a hg hs
  obtain⟨y,t,rfl⟩:∃y t,r=y::t:=by cases r with|nil=>cases hl|cons y t=>exact⟨y,t,rfl⟩
  refine⟨fun he=>?_,fun i hi=>?_⟩
  ·exfalso
   obtain⟨l1,l2,au,bm,hy,bP⟩:=List.filter_eq_cons_iff.1 hf.symm
   subst au
   obtain⟨h1,_,_,o,ho,aZ,_⟩:=G8 l1 [] ah
   have:y∈Region.ready .any ops listed:=by
    refine mem_ready.2 ⟨by simpa using hy,o,ho,fun e hm hb=>?_⟩
    rcases aZ e hm hb with h4|h4
    ·have h5:=bm _ h4
     simp only[Bool.not_eq_true,Bool.not_eq_false']at h5
     have aw:e.on<listed.size:=by
      have:e.on∈l1++y::l2:=by simp[h4]
      obtain⟨p1,p2,hp⟩:=List.append_of_mem this
      rw[hp]at ah
      obtain⟨_,_,_,o',aA,_⟩:=G8 p1 [] ah
      rw[hsz];exact(Array.getElem?_eq_some_iff.1 aA).1
     simpa[aw] using h5
    ·cases h4
   rw[he]at this;cases this
  ·obtain⟨pre,post,aq⟩:=List.append_of_mem (aa _ listed hf i hi)
   rw[aq]at hf h hl
   obtain⟨l1',l2',au,aL,bu⟩:=List.filter_eq_append_iff.1 hf.symm
   obtain⟨m1,m2,aK,bk,bS,bt⟩:=List.filter_eq_cons_iff.1 bu
   have ai:ord=(l1'++m1)++i::m2:=by rw[au,aK];simp
   rw[ai]at ah
   obtain⟨n1,_,n3,o,ho,aZ,hx⟩:=G8 (l1'++m1) [] ah
   obtain⟨bq,o',aA,aE⟩:=mem_ready.1 hi
   obtain rfl:o'=o:=by rw[ho]at aA;cases aA;rfl
   have ay:=I3 ho post pre γ O (fun x aR=>by
    have be:x∈l1'++m1:=by
     have:x∈l1'.filter (fun i=> !listed.getD i true):=by rw[aL];exact aR
     simp[(List.mem_filter.1 this).1]
    have aQ:listed.getD x true=false:=by
     have:x∈l1'.filter (fun i=> !listed.getD i true):=by rw[aL];exact aR
     simpa using(List.mem_filter.1 this).2
    rcases hx x be with h4|h4
    ·exfalso
     have:=CD ak ops.size i x o' ho aE h4
     rcases Nat.lt_or_ge x listed.size with aw|aw
     ·simp[aw]at this aQ;rw[aQ]at this;cases this
     ·simp[Array.getElem?_eq_none aw]at this
    ·exact h4) h
   have ae:pre++post=ord.filter (fun j=> !(listed.setIfInBounds i true).getD j true):=by
    have br:i<listed.size:=by
     rw[hsz];exact(Array.getElem?_eq_some_iff.1 ho).1
    rw[ai,List.filter_append,List.filter_cons]
    have e1:(listed.setIfInBounds i true).getD i true=true:=by simp[br]
    rw[e1,AH n1,AH n3]
    simp only[Bool.not_true,Bool.false_eq_true,if_false,List.filter_append,aL,bt]
    rw[List.filter_eq_nil_iff.2 (fun x hx=>by simpa using bk x hx),List.append_nil]
   have hlen:(pre++post).length=m:=by simp at hl⊢; omega
   obtain⟨o2,aU,hh⟩:=ay
   obtain rfl:o2=o':=by rw[ho]at aU;cases aU;rfl
   have aT:=Array.all_eq_true_iff_forall_mem.1 hA o2 (Array.mem_of_getElem? ho)
   unfold wpOpIn
   simp only[ho]
   cases aB:isAl o2 with
   | some p =>
    obtain⟨t,T⟩:=p
    rw[aB]at aT
    simp only[Bool.and_eq_true,decide_eq_true_eq,Bool.not_eq_true']at aT
    obtain⟨_,_,_,rfl⟩:=Id aB
    simp only[Step3,isAl]at hh
    refine CM (Q:=Q) (R:=fun d U'=> ∃k,O k=none/\d=.ptr k 0/\U'=O.set k (.cells (tab T).zero)) (Rp:=fun _ _=>False) (hr.mono hg) hg hs ⟨by simp[Ar,aT.1],rfl,?_⟩ (fun g' w' a' d U' ax hR ag=>?_) fun _ _ h=>h.elim
    ·exact E2 ht aT.2 aT.1 fun k hk=>Au ⟨rfl,k,hk,by simp[A3],rfl⟩
    ·obtain⟨k,hk,rfl,rfl⟩:=hR
     exact ih _ _ _ _ hlen (by simpa using hsz) ae (ak.set hi) (hh k hk) (fun i o h=>(Sub.refl _).set hk i o (hC i o h)) g' w' a' (hg.trans ax) ag
   | none =>
    simp only[Step3,aB]at hh
    rcases hh with⟨d,hy,hM⟩|⟨_,hE⟩|⟨_,hu⟩
    ·exact F0 (Q:=Q) hN (hr.mono hg) hg hs hC hy fun g' w' a' ax ag=>ih _ _ _ _ hlen (by simpa using hsz) ae (ak.set hi) hM hC g' w' a' (hg.trans ax) ag
    ·exact CM (Q:=Q) (hr.mono hg) hg hs hE (fun g' w' a' d U' ax hR ag=>ih _ _ _ _ hlen (by simpa using hsz) ae (ak.set hi) hR.2 hR.1 g' w' a' (hg.trans ax) ag) fun d U' hp=>hp
    ·rcases hu with⟨dj,x,hE,hK⟩|⟨j,y,x,d,hj,h0,hE,hK⟩|⟨Rr,hE,hn,hK⟩
     rotate_left 2
     ·refine CM (Q:=Q) (hr.mono hg) hg hs (hE O) (fun g' w' a' d U' ax hR ag=>?_) fun _ _ h=>h.elim
      exact ih _ _ _ _ hlen (by simpa using hsz) ae (ak.set hi) (hK d U' hR).2 (hK d U' hR).1 g' w' a' (hg.trans ax) ag
     ·refine CM (Q:=Q) (hr.mono hg) hg hs (hE O) (fun g' w' a' d U' ax hR ag=>?_) fun _ _ h=>h.elim
      obtain⟨j,hj,rfl,rfl⟩:=hR
      exact ih _ _ _ _ hlen (by simpa using hsz) ae (ak.set hi) (hK j hj) (fun i o h=>(Sub.refl _).set hj i o (hC i o h)) g' w' a' (hg.trans ax) ag
     ·refine CM (Q:=Q) (hr.mono hg) hg hs (hE O hj) (fun g' w' a' d' U' ax hR ag=>?_) fun _ _ h=>h.elim
      obtain⟨rfl,rfl⟩:=hR
      exact ih _ _ _ _ hlen (by simpa using hsz) ae (ak.set hi) hK (fun i o h=>by rw[w7 _ _ fun e=>by rw[e,h0]at h;cases h];exact hC i o h) g' w' a' (hg.trans ax) ag
def PB(ops:List Oper)(E U:List Nat):List Nat->Option (List (Bool×Bool×Oper))
 |[]=>some []
 | i::r=>match nthO ops i with
  |some o=>match PB ops E U r with
   |some l=>some ((E.contains i,U.contains i,o)::l)
   |none=>none
  |none=>none
theorem Hf{lo:List Oper}: ∀{ord:List Nat}{lp:List (Bool×Bool×Oper)}{γ:Fr}{O:Sig},PB lo E U ord=some lp->MO3 P ro n lo.toArray N S0 Q df tab lp γ O->MOps3 P ro n lo.toArray N S0 Q df tab E U ord γ O
 |[],_,_,_,hp,h=>by cases hp;exact h
 |i::r,lp,γ,O,hp,h=>by
  simp only[PB]at hp
  split at hp<;>(try (cases hp;done))
  rename_i o ho
  split at hp<;>(try (cases hp;done))
  rename_i l hl
  cases hp
  refine⟨o,by rw[GP]at ho;simpa using ho,?_⟩
  exact Step3.mono h (fun _=>rfl) fun γ V' O ap h=>MOps3.alike _ ap (Hf hl h)
theorem Uf(ht:AZ P tab)(hN:P.funcs.size=N)(hm:P.follows .mixedOrders=true){l:List Oper}{id:Nat}{γ:Fr}{O:Sig}(ord E U:List Nat)(S0:Sig)(hB:GR l.toArray E U ord=true)(hA:allOK tab n l.toArray=true)(hC:Sub S0 O)
  {lp:List (Bool×Bool×Oper)} (bl:PB l E U ord=some lp) (h:MO3 P ro n l.toArray N S0 Q df tab lp γ O):DWp P ro n (.region id l.toArray true) Q ⟨γ,O,df⟩:=by
 intro g w a r hr hs
 refine wpIn_region_any hm ?_
 have ak:Closed l.toArray (Array.replicate l.toArray.size false):=by
  intro q o _ hq
  rcases Nat.lt_or_ge q l.length with h'|h'
  ·simp[h']at hq
  ·simp[h']at hq
 have ag:SimS P g n ⟨γ,O,df⟩ a { w with drawn:=w.drawn+1 }:=
  ⟨⟨fun b o v h=>hs.sim.imm b o v h,hs.sim.keep,fun i o h=>by
   have:=hs.sim.obj i o h
   cases o<;>exact this,hs.sim.inj,hs.sim.free,hs.sim.htop,hs.sim.hdom,hs.sim.fin,hs.sim.io,hs.sim.tab⟩,hs.tmps,hs.df⟩
 have aw:∀i∈ord,i<l.toArray.size:=by
  intro i hi
  obtain⟨p1,p2,hp⟩:=List.append_of_mem hi
  have am:=hB
  unfold GR at am
  simp only[Bool.and_eq_true]at am
  rw[hp]at am
  obtain⟨_,_,_,o',aA,_⟩:=G8 p1 [] am.1.1
  exact(Array.getElem?_eq_some_iff.1 aA).1
 have hlen:ord.length=l.toArray.size:=by
  have am:=hB
  unfold GR at am
  simp only[Bool.and_eq_true,beq_iff_eq]at am
  exact am.2
 have:=PO ht hN hB hA hr ord.length ord (Array.replicate l.toArray.size false) γ O rfl (by simp) (Dj aw).symm ak (Hf bl h) hC g _ a (.refl g) ag
 rw[hlen]at this
 exact this
theorem I6: ∀{l:List (Bool×Bool×Oper)}{γ:Fr}{O:Sig},(l.all fun p=> !(isAl p.2.2).isSome)=true->MO P ro n ops N S0 Q df (l.map fun p=>(p.1,p.2.2)) γ O->MO3 P ro n ops N S0 Q df tab l γ O
 |[],_,_,_,h=>h
 |(e,u,o)::l,γ,O,hl,h=>by
  simp only[List.all_cons,Bool.and_eq_true,Bool.not_eq_true']at hl
  have hn:isAl o=none:=by cases h:isAl o with|none=>rfl|some _=>rw[h]at hl;simp at hl
  show Step3 P ro n ops N S0 Q df tab e u o γ O _
  simp only[Step3,hn]
  rcases h with⟨d,h2,h3⟩|⟨h1,h2⟩
  ·exact .inl ⟨d,h2,I6 hl.2 h3⟩
  ·exact .inr (.inl ⟨h1,h2.congr (fun _ _=>rfl) fun d U' ⟨h3,h4⟩=>⟨h3,I6 hl.2 h4⟩⟩)
theorem PX{e u:Bool}{t T:Nat}{ty:TypeId}{pos:String}{after:Array Edge}{l:List (Bool×Bool×Oper)}{γ:Fr}{O:Sig}(h:∀k,O k=none->MO3 P ro n ops N S0 Q df tab l ((t,.ptr k 0)::γ) (O.set k (.cells (tab T).zero))):
  MO3 P ro n ops N S0 Q df tab ((e,u,⟨some t,.alloc T,ty,pos,after,none⟩)::l) γ O:=h
theorem Tr(ht:AZ P tab){e u:Bool}{t:Nat}{op:Op}{ty:TypeId}{pos:String}{after:Array Edge}{d:D}{l:List (Bool×Bool×Oper)}{γ Sr:Fr}{O:Sig}(hr:CY op=true)(aF:decide (t<n)=true)(hl:A0 γ (A5 op.operands.toList)=some Sr)(hd:dopX tab Sr S0 op=some d)
  (h:MO3 P ro n ops N S0 Q df tab l ((t,d)::γ) O):MO3 P ro n ops N S0 Q df tab ((e,u,⟨some t,op,ty,pos,after,none⟩)::l) γ O:=by
 have a8:=(Bc (C4 hl)) ▸ hd
 have ha:isAl ⟨some t,op,ty,pos,after,none⟩=none:=by
  unfold isAl;split
  ·rename_i bV;cases bV;cases hr
  ·rfl
 show Step3 P ro n ops N S0 Q df tab e u _ γ O _
 simp only[Step3,ha]
 refine .inl ⟨d,⟨aF,.inl ⟨by rw[Ag];rfl,C8 hr,IL ht a8,fun U' hU g w a hs hT=>?_⟩⟩,h⟩
 refine EY ht hs hT (?_:dopX tab (only _ γ) U' op=some d)
 rw[Bc (V':=γ) fun x hx=>Bk (o:=⟨some t,op,ty,pos,after,none⟩) hx]
 exact EZ hU a8
theorem mo3_u{e:Bool}{o:Oper}{l:List (Bool×Bool×Oper)}{γ:Fr}{O:Sig}(ha:isAl o=none)(h:USt P ro n ops S0 df o γ O (MO3 P ro n ops N S0 Q df tab l)):MO3 P ro n ops N S0 Q df tab ((e,true,o)::l) γ O:=by
 show Step3 P ro n ops N S0 Q df tab e true o γ O _
 simp only[Step3,ha]
 exact .inr (.inr ⟨trivial,h⟩)
end
section
variable (P:Program)(ro:Ro)(n:Nat)(ops:Array Oper)(N:Nat)(Q:DX->St->Prop)(df:List DDf)
def MOps4 (E C K:List Nat):List Nat->Sig->Fr->Sig->Prop
  |[],_,γ,O=>DOps P ro n ops Q [] ⟨γ,O,df⟩
  | i::r,S0,γ,O => ∃ o,ops[i]? = some o /\
    ((∃ d,Calm P n ops N (if C.contains i=true then S0 else fun _=>none) γ o d/\MOps4 E C K r S0 (putD o.dst d γ) O) \/
     (E.contains i=true/\Eff P ro n ops df γ O o (fun d U'=> ∃S1,Sub S1 U'/\(K.contains i=false->S1=S0)/\MOps4 E C K r S1 (putD o.dst d γ) U') (fun d U'=> ∀V',Q (.panic d) ⟨V',U',df⟩)))
def MO4:List (Bool × Bool × Bool × Oper)->Sig->Fr->Sig->Prop
  |[],_,γ,O=>DOps P ro n ops Q [] ⟨γ,O,df⟩
  | (e,c,k,o)::r,S0,γ,O =>
    (∃ d,Calm P n ops N (if c=true then S0 else fun _=>none) γ o d/\MO4 r S0 (putD o.dst d γ) O) \/
     (e=true/\Eff P ro n ops df γ O o (fun d U'=> ∃S1,Sub S1 U'/\(k=false->S1=S0)/\MO4 r S1 (putD o.dst d γ) U') (fun d U'=> ∀V',Q (.panic d) ⟨V',U',df⟩))
end
section
variable {P:Program}{ro:Ro}{n:Nat}{ops:Array Oper}{N:Nat}{S0:Sig}{Q:DX->St->Prop}{df:List DDf}{E C K:List Nat}{tab:Nat->Ty}
theorem MOps4.alike: ∀(l:List Nat) {S0:Sig}{γ V':Fr}{O:Sig},Alike γ V'->MOps4 P ro n ops N Q df E C K l S0 γ O->MOps4 P ro n ops N Q df E C K l S0 V' O
 |[],_,_,_,_,h,k=>C2 h k
 |i::r,_,_,_,_,h,⟨o,ho,k⟩=>⟨o,ho,(match k with
  |.inl ⟨d,h2,h3⟩=>.inl ⟨d,h2.congr fun t _=>h t,MOps4.alike r (h.put _ _) h3⟩
  |.inr ⟨h1,h2⟩=>.inr ⟨h1,h2.congr (fun t _=>h t) fun d U' ⟨S1,h3,h5,h4⟩=>⟨S1,h3,h5,MOps4.alike r (h.put _ _) h4⟩⟩)⟩
theorem Calm.base{S0 S1:Sig}{γ:Fr}{o:Oper}{d:D}(h:Calm P n ops N S0 γ o d)(hs:Sub S0 S1):Calm P n ops N S1 γ o d:=
 ⟨h.ok,by
  rcases h.run with⟨a,b,c,e⟩|h|⟨a,e⟩
  ·exact .inl ⟨a,b,c,fun O hU=>e O (hs.trans hU)⟩
  ·exact .inr (.inl h)
  ·exact .inr (.inr ⟨a,fun O hU=>e O (hs.trans hU)⟩)⟩
theorem I2{i:Nat}{oi:Oper}(hi:ops[i]? = some oi)(post:List Nat): ∀(pre:List Nat) (γ:Fr) (O:Sig),
  (∀x∈pre,E.contains x=false/\(K.contains i&&C.contains x)=false /\ ∃ox,ops[x]? = some ox/\oi.apart ops ox=true)->MOps4 P ro n ops N Q df E C K (pre++i::post) S0 γ O->MOps4 P ro n ops N Q df E C K (i::(pre++post)) S0 γ O
 |[],_,_,_,h=>h
 | x::pre,γ,O,hp,h=>by
  obtain⟨bd,bA,ox,ar,bw⟩:=hp x (by simp)
  obtain⟨a1,a2,a3⟩:=Oper.apart_spec bw
  obtain⟨ox',aD,hx⟩:=h
  obtain rfl:ox'=ox:=by rw[ar]at aD;cases aD;rfl
  rcases hx with⟨d,hy,h⟩|⟨hE,_⟩
  ·obtain⟨oi',ac,hh⟩:=I2 hi post pre _ O (fun y hy=>hp y (by simp[hy])) h
   obtain rfl:oi'=oi:=by rw[hi]at ac;cases ac;rfl
   refine⟨oi',hi,?_⟩
   rcases hh with⟨e,h2,h3⟩|⟨h1,h2⟩
   ·refine .inl ⟨e,h2.congr fun t ht=>AD fun hd=>a3 t hd ht,ox',ar,.inl ⟨d,hy.congr fun t ht=>(AD fun hd=>a1 t hd ht).symm,?_⟩⟩
    exact MOps4.alike _ (Bo _ _ _ fun t p q=>a2 t p q) h3
   ·refine .inr ⟨h1,h2.congr (fun t ht=>AD fun hd=>a3 t hd ht) fun e U' ⟨S1,h3,h5,h4⟩=>⟨S1,h3,h5,ox',ar,.inl ⟨d,?_,MOps4.alike _ (Bo _ _ _ fun t p q=>a2 t p q) h4⟩⟩⟩
    have bc:=hy.congr (V':=putD oi'.dst e γ) fun t ht=>(AD fun hd=>a1 t hd ht).symm
    cases hk:K.contains i with
    |false=>rw[h5 hk];exact bc
    |true=>
     rw[hk,Bool.true_and]at bA
     rw[bA]at bc⊢
     exact bc
  ·rw[bd]at hE;cases hE
def IN(ops:Array Oper)(E C K:List Nat):List Nat->List Nat->Bool
 |_,[]=>true
 | done,i::r => !done.contains i && (match ops[i]? with
  |some o=>(o.after.all fun e=> !Region.binds .any e||done.contains e.on)&&done.all fun x=>(!E.contains x&&!(K.contains i&&C.contains x)&&match ops[x]? with
   |some ox=>o.apart ops ox
   |none=>false)||FF ops ops.size i x
  |none=>false)&&IN ops E C K (i::done) r
theorem D3{i:Nat}{l2:List Nat}: ∀(l1 done:List Nat),IN ops E C K done (l1++i::l2)=true->i∉l1/\i∉done/\i∉l2 /\ ∃o,ops[i]? = some o/\(∀e∈o.after,Region.binds .any e=true->e.on∈l1\/e.on∈done) /\
   ∀x,x∈l1->FF ops ops.size i x=true\/(E.contains x=false/\(K.contains i&&C.contains x)=false /\ ∃ox,ops[x]? = some ox/\o.apart ops ox=true)
 | [],done,h=>by
  simp only[List.nil_append,IN,Bool.and_eq_true,Bool.not_eq_true',List.contains_eq_mem,decide_eq_false_iff_not]at h
  obtain⟨⟨h1,h2⟩,h3⟩:=h
  have later:∀(l d:List Nat),i∈d->IN ops E C K d l=true->i∉l:=by
   intro l
   induction l with
   |nil=>intro _ _ _ h;cases h
   |cons y l ih=>
    intro d hd hm aa
    simp only[IN,Bool.and_eq_true,Bool.not_eq_true',List.contains_eq_mem,decide_eq_false_iff_not]at hm
    obtain⟨⟨m1,_⟩,m3⟩:=hm
    rcases List.mem_cons.1 aa with rfl|aa
    ·exact m1 hd
    ·exact ih (y::d) (by simp[hd]) m3 aa
  refine⟨by simp,h1,later l2 _ (by simp) h3,?_⟩
  split at h2
  ·rename_i o ho
   simp only[Bool.and_eq_true]at h2
   refine⟨o,ho,fun e he hb=>?_,fun x hx=>by cases hx⟩
   have:=Array.all_eq_true_iff_forall_mem.1 h2.1 e he
   simp only[hb,Bool.not_true,Bool.false_or,List.contains_eq_mem,decide_eq_true_eq]at this
   exact .inr this
  ·cases h2
 | y::l1,done,h=>by
  simp only[List.cons_append,IN,Bool.and_eq_true]at h
  obtain⟨h1,h2,h3,o,ho,he,hx⟩:=D3 l1 (y::done) h.2
  have bp:i≠y:=fun e=>h2 (by simp[e])
  refine⟨by simp[bp,h1],fun hd=>h2 (by simp[hd]),h3,o,ho,fun e hm hb=>?_,?_⟩
  ·rcases he e hm hb with h4|h4
   ·exact .inl (by simp[h4])
   ·rcases List.mem_cons.1 h4 with h5|h5
    ·exact .inl (by simp[h5])
    ·exact .inr h5
  ·intro x aa
   rcases List.mem_cons.1 aa with rfl|aa
   ·
    have back:∀(l d:List Nat),x∈d->IN ops E C K d (l++i::l2)=true->FF ops ops.size i x=true\/(E.contains x=false/\(K.contains i&&C.contains x)=false /\ ∃ox,ops[x]? = some ox/\o.apart ops ox=true):=by
     intro l
     induction l with
     | nil =>
      intro d hd hm
      simp only[List.nil_append,IN,Bool.and_eq_true,ho]at hm
      have:=List.all_eq_true.1 hm.1.2.2 x hd
      simp only[Bool.or_eq_true,Bool.and_eq_true,Bool.not_eq_true']at this
      rcases this.symm with h4|⟨⟨h4,h6⟩,h5⟩
      ·exact .inl h4
      ·refine .inr ⟨h4,h6,?_⟩
       split at h5
       ·rename_i ox ar;exact⟨ox,ar,h5⟩
       ·cases h5
     |cons z l ih=>
      intro d hd hm
      simp only[List.cons_append,IN,Bool.and_eq_true]at hm
      exact ih (z::d) (by simp[hd]) hm.2
    exact back l1 _ (by simp) h.2
   ·exact hx x aa
def CW(ops:Array Oper)(E C K ord:List Nat):Bool:=IN ops E C K [] ord&&(List.range ops.size).all ord.contains&&ord.length==ops.size
theorem PN(hN:P.funcs.size=N){ord:List Nat}(hB:CW ops E C K ord=true){g0:G}{rr:Rx}(hr:RoRep g0 ro rr): ∀(m:Nat) (r:List Nat) (listed:Array Bool) (S0:Sig) (γ:Fr) (O:Sig),r.length=m->listed.size=ops.size->
  r=ord.filter (fun i=> !listed.getD i true)->Closed ops listed->MOps4 P ro n ops N Q df E C K r S0 γ O->Sub S0 O->
   ∀(g:G) (w:World) (a:Act),g0.le g->SimS P g n ⟨γ,O,df⟩ a w->wpAnyIn (FX P rr) 0 P .any ops (Post P g0 n Q) m listed a w:=by
 unfold CW at hB
 simp only[Bool.and_eq_true]at hB
 obtain⟨⟨ah,aM⟩,_⟩:=hB
 have aa:∀(r:List Nat) (listed:Array Bool),r=ord.filter (fun i=> !listed.getD i true)->∀i∈Region.ready .any ops listed,i∈r:=by
  intro r listed hf i hi
  obtain⟨h1,o,ho,_⟩:=mem_ready.1 hi
  have:=List.all_eq_true.1 aM i (by simpa using(Array.getElem?_eq_some_iff.1 ho).1)
  rw[hf,List.mem_filter]
  exact⟨by simpa using this,by rw[h1];rfl⟩
 intro m
 induction m with
 |zero=>
  intro r listed S0 γ O hl hsz hf ak h hC g w a hg hs
  obtain rfl:r=[]:=List.length_eq_zero_iff.1 hl
  refine⟨List.eq_nil_iff_forall_not_mem.2 fun i hi=>?_,?_⟩
  ·have:=aa [] listed hf i hi;cases this
  ·exact Post.le hg (h g w a rr (hr.mono hg) hs)
 | succ m ih =>
  intro r listed S0 γ O hl hsz hf ak h hC g w a hg hs
  obtain⟨y,t,rfl⟩:∃y t,r=y::t:=by cases r with|nil=>cases hl|cons y t=>exact⟨y,t,rfl⟩
  refine⟨fun he=>?_,fun i hi=>?_⟩
  ·exfalso
   obtain⟨l1,l2,au,bm,hy,bP⟩:=List.filter_eq_cons_iff.1 hf.symm
   subst au
   obtain⟨h1,_,_,o,ho,aZ,_⟩:=D3 l1 [] ah
   have:y∈Region.ready .any ops listed:=by
    refine mem_ready.2 ⟨by simpa using hy,o,ho,fun e hm hb=>?_⟩
    rcases aZ e hm hb with h4|h4
    ·have h5:=bm _ h4
     simp only[Bool.not_eq_true,Bool.not_eq_false']at h5
     have aw:e.on<listed.size:=by
      have:e.on∈l1++y::l2:=by simp[h4]
      obtain⟨p1,p2,hp⟩:=List.append_of_mem this
      rw[hp]at ah
      obtain⟨_,_,_,o',aA,_⟩:=D3 p1 [] ah
      rw[hsz];exact(Array.getElem?_eq_some_iff.1 aA).1
     simpa[aw] using h5
    ·cases h4
   rw[he]at this;cases this
  ·obtain⟨pre,post,aq⟩:=List.append_of_mem (aa _ listed hf i hi)
   rw[aq]at hf h hl
   obtain⟨l1',l2',au,aL,bu⟩:=List.filter_eq_append_iff.1 hf.symm
   obtain⟨m1,m2,aK,bk,bS,bt⟩:=List.filter_eq_cons_iff.1 bu
   have ai:ord=(l1'++m1)++i::m2:=by rw[au,aK];simp
   rw[ai]at ah
   obtain⟨n1,_,n3,o,ho,aZ,hx⟩:=D3 (l1'++m1) [] ah
   obtain⟨bq,o',aA,aE⟩:=mem_ready.1 hi
   obtain rfl:o'=o:=by rw[ho]at aA;cases aA;rfl
   have ay:=I2 ho post pre γ O (fun x aR=>by
    have be:x∈l1'++m1:=by
     have:x∈l1'.filter (fun i=> !listed.getD i true):=by rw[aL];exact aR
     simp[(List.mem_filter.1 this).1]
    have aQ:listed.getD x true=false:=by
     have:x∈l1'.filter (fun i=> !listed.getD i true):=by rw[aL];exact aR
     simpa using(List.mem_filter.1 this).2
    rcases hx x be with h4|h4
    ·exfalso
     have:=CD ak ops.size i x o' ho aE h4
     rcases Nat.lt_or_ge x listed.size with aw|aw
     ·simp[aw]at this aQ;rw[aQ]at this;cases this
     ·simp[Array.getElem?_eq_none aw]at this
    ·exact h4) h
   have ae:pre++post=ord.filter (fun j=> !(listed.setIfInBounds i true).getD j true):=by
    have br:i<listed.size:=by
     rw[hsz];exact(Array.getElem?_eq_some_iff.1 ho).1
    rw[ai,List.filter_append,List.filter_cons]
    have e1:(listed.setIfInBounds i true).getD i true=true:=by simp[br]
    rw[e1,AH n1,AH n3]
    simp only[Bool.not_true,Bool.false_eq_true,if_false,List.filter_append,aL,bt]
    rw[List.filter_eq_nil_iff.2 (fun x hx=>by simpa using bk x hx),List.append_nil]
   have hlen:(pre++post).length=m:=by simp at hl⊢; omega
   obtain⟨o2,aU,hh⟩:=ay
   obtain rfl:o2=o':=by rw[ho]at aU;cases aU;rfl
   unfold wpOpIn
   simp only[ho]
   rcases hh with⟨d,hy,hM⟩|⟨_,hE⟩
   ·have bI:Calm P n ops N S0 γ o2 d:=hy.base (by split;exact Sub.refl _;exact fun _ _ h=>by cases h)
    exact F0 hN (hr.mono hg) hg hs hC bI fun g' w' a' ax ag=>ih _ _ _ _ _ hlen (by simpa using hsz) ae (ak.set hi) hM hC g' w' a' (hg.trans ax) ag
   ·exact CM (hr.mono hg) hg hs hE (fun g' w' a' d U' ax hR ag=>by obtain⟨S1,h3,_,h4⟩:=hR;exact ih _ _ _ _ _ hlen (by simpa using hsz) ae (ak.set hi) h4 h3 g' w' a' (hg.trans ax) ag) fun d U' hp=>hp
def Kd(ops:List Oper)(E C K:List Nat):List Nat->Option (List (Bool×Bool×Bool×Oper))
 |[]=>some []
 | i::r=>match nthO ops i with
  |some o=>match Kd ops E C K r with
   |some l=>some ((E.contains i,C.contains i,K.contains i,o)::l)
   |none=>none
  |none=>none
theorem EJ{lo:List Oper}: ∀{ord:List Nat}{lp:List (Bool×Bool×Bool×Oper)}{S0:Sig}{γ:Fr}{O:Sig},Kd lo E C K ord=some lp->MO4 P ro n lo.toArray N Q df lp S0 γ O->MOps4 P ro n lo.toArray N Q df E C K ord S0 γ O
 |[],_,_,_,_,hp,h=>by cases hp;exact h
 |i::r,lp,S0,γ,O,hp,h=>by
  simp only[Kd]at hp
  split at hp<;>(try (cases hp;done))
  rename_i o ho
  split at hp<;>(try (cases hp;done))
  rename_i l hl
  cases hp
  refine⟨o,by rw[GP]at ho;simpa using ho,?_⟩
  rcases h with⟨d,h2,h3⟩|⟨h1,h2⟩
  ·exact .inl ⟨d,h2,EJ hl h3⟩
  ·exact .inr ⟨h1,h2.congr (fun _ _=>rfl) fun d U' ⟨S1,h3,h5,h4⟩=>⟨S1,h3,h5,EJ hl h4⟩⟩
theorem Ug(hN:P.funcs.size=N)(hm:P.follows .mixedOrders=true){l:List Oper}{id:Nat}{γ:Fr}{O:Sig}(ord E C K:List Nat)(S0:Sig)(hB:CW l.toArray E C K ord=true)(hC:Sub S0 O)
  {lp:List (Bool×Bool×Bool×Oper)} (bl:Kd l E C K ord=some lp) (h0:MO4 P ro n l.toArray N Q df lp S0 γ O):DWp P ro n (.region id l.toArray true) Q ⟨γ,O,df⟩:=by
 intro g w a r hr hs
 refine wpIn_region_any hm ?_
 have ak:Closed l.toArray (Array.replicate l.toArray.size false):=by
  intro q o _ hq
  rcases Nat.lt_or_ge q l.length with h'|h'
  ·simp[h']at hq
  ·simp[h']at hq
 have ag:SimS P g n ⟨γ,O,df⟩ a { w with drawn:=w.drawn+1 }:=
  ⟨⟨fun b o v h=>hs.sim.imm b o v h,hs.sim.keep,fun i o h=>by
   have:=hs.sim.obj i o h
   cases o<;>exact this,hs.sim.inj,hs.sim.free,hs.sim.htop,hs.sim.hdom,hs.sim.fin,hs.sim.io,hs.sim.tab⟩,hs.tmps,hs.df⟩
 have aw:∀i∈ord,i<l.toArray.size:=by
  intro i hi
  obtain⟨p1,p2,hp⟩:=List.append_of_mem hi
  have am:=hB
  unfold CW at am
  simp only[Bool.and_eq_true]at am
  rw[hp]at am
  obtain⟨_,_,_,o',aA,_⟩:=D3 p1 [] am.1.1
  exact(Array.getElem?_eq_some_iff.1 aA).1
 have hlen:ord.length=l.toArray.size:=by
  have am:=hB
  unfold CW at am
  simp only[Bool.and_eq_true,beq_iff_eq]at am
  exact am.2
 have:=PN hN hB hr ord.length ord (Array.replicate l.toArray.size false) S0 γ O rfl (by simp) (Dj aw).symm ak (EJ bl h0) hC g _ a (.refl g) ag
 rw[hlen]at this
 exact this
theorem Tq(ht:AZ P tab){e c k:Bool}{t:Nat}{op:Op}{ty:TypeId}{pos:String}{after:Array Edge}{d:D}{l:List (Bool×Bool×Bool×Oper)}{γ Sr:Fr}{O:Sig}(hr:CY op=true)(aF:decide (t<n)=true)(hl:A0 γ (A5 op.operands.toList)=some Sr)(hd:dopX tab Sr (if c=true then S0 else fun _=>none) op=some d)
  (h:MO4 P ro n ops N Q df l S0 ((t,d)::γ) O):MO4 P ro n ops N Q df ((e,c,k,⟨some t,op,ty,pos,after,none⟩)::l) S0 γ O:=by
 have a8:=(Bc (C4 hl)) ▸ hd
 refine .inl ⟨d,⟨aF,.inl ⟨by rw[Ag];rfl,C8 hr,IL ht a8,fun U' hU g w a hs hT=>?_⟩⟩,h⟩
 refine EY ht hs hT (?_:dopX tab (only _ γ) U' op=some d)
 rw[Bc (V':=γ) fun x hx=>Bk (o:=⟨some t,op,ty,pos,after,none⟩) hx]
 exact EZ hU a8
theorem mo4_eff(ht:AZ P tab){c k:Bool}{o:Oper}{d:D}{U':Sig}{l:List (Bool×Bool×Bool×Oper)}{γ:Fr}{O:Sig}(S1:Sig)(ho:Ar n o=true)(hw:Ay ops γ o=some true)(he:eopD tab γ O o.op=some (d,U'))(hC:Sub S1 U')(hk:k=false->S1=S0)
  (h:MO4 P ro n ops N Q df l S1 (putD o.dst d γ) U'):MO4 P ro n ops N Q df ((true,c,k,o)::l) S0 γ O:=by
 refine .inr ⟨rfl,ho,by rw[Ag];exact hw,?_⟩
 refine Fh ht (by rw[Ag];exact hw) (by rw[Bn (V':=γ) fun x hx=>Bk hx];exact he) ho (Au ⟨rfl,?_⟩)
 cases hd:o.dst with
 |none=>rw[hd]at h;exact⟨S1,hC,hk,h⟩
 |some t=>
  rw[hd]at h
  simp only[putD,A3,if_true]
  exact⟨S1,hC,hk,h⟩
end
end Go.DL
