/- A part of the proof. -/
import Derived.Test.YteldimffglchkaaGreatDoorM09
import Derived.Test.YteldimffglchkaaGreatDoorM08
set_option linter.all false
namespace Go.DL
open Go
def byteC(b:UInt8):D:=.int .u8 (b.toNat:Int)
theorem JE{g:G}: ∀l:List UInt8,RepL g (l.map byteC) (l.map fun b=>Value.int .u8 (b.toNat:Int))
 |[]=>rfl
 |x::l=>⟨_,_,rfl,rfl,JE l⟩
abbrev BR:=Option (Nat×Nat×List D)
def BR.d:BR->Nat->D
 |none,_=>.nils
 |some (i,cap,_),n=>.sref i 0 n cap
def BR.is:BR->Nat->Prop
 |none,_=>False
 |some (i,_,_),j=>j=i
def BRAt(e:Nat)(O:Sig):BR->List UInt8->Prop
 |none,bs=>bs=[]
 |some (i,cap,rest),bs=>O i=some (.tcells e (bs.map byteC++rest))/\bs.length+rest.length=cap
section
variable {P:Program}{ro:Ro}{n:Nat}{ops:Array Oper}{Q:DX->St->Prop}{rest:List Oper}{tab:Nat->Ty}{γ:List (Nat×D)}{O:Sig}{df:List DDf}
variable (ht:B2 P tab)
include ht
theorem Tp{t T T' ty e:Nat}{s x:Operand}{pos:String}{after:Array Edge}{bs str:List UInt8}{r:BR}
  (aF:t<n) (hk:(tab T).k=.slice e) (aV:(tab T').k=.str) (he:A1 (tab e).k=false) (hsz:(tab e).size=1) (ci:(tab e).bytes=1) (h1:ev γ s=r.d bs.length) (hm:BRAt e O r bs) (h2:ev γ x=.str str)
  (hb:bs.length+str.length<=140737488355328)
  (h:∀r' U',BRAt e U' r' (bs++str)->(∀j o,O j=some o->¬r.is j->U' j=some o /\ ¬r'.is j)->DOps P ro n ops Q rest ⟨(t,r'.d (bs++str).length)::γ,U',df⟩) :
  DOps P ro n ops Q (⟨some t,(cA s x T T'),ty,pos,after,none⟩::rest) ⟨γ,O,df⟩:=by
 refine By (fun d U'=> ∃r',BRAt e U' r' (bs++str)/\(∀j o,O j=some o->¬r.is j->U' j=some o /\ ¬r'.is j)/\d=r'.d (bs++str).length) rfl (fun c e=>by cases e) (AZ rfl rfl) (by simp[Ap,aF]) ?_
  (fun d U' ⟨r',a1,a2,a3⟩=>by subst a3;exact h r' U' a1 a2)
 intro g w a hs hT
 have aK:=Ai hT s
 have bl:=Ai hT x
 rw[h1]at aK
 rw[h2]at bl
 have q1:a.eval x=.string ⟨str.toArray⟩:=bl
 have ay:=PR str
 obtain⟨inf,z,t1,_,t3,t4,t5,t6,t7⟩:=Bd ht hk hk he
 have t2:=FG ht aV
 have bC:=HZ str
 have v1:=JE (g:=g) str
 have bq:(str.map fun b=>Value.int .u8 (b.toNat:Int)).length=str.length:=by simp
 have aY:∀u∈(str.map fun b=>Value.int .u8 (b.toNat:Int)),u.oneCell'=true:=fun u hu=>by obtain⟨b,_,rfl⟩:=List.mem_map.1 hu;rfl
 generalize cp:(str.map fun b=>Value.int .u8 (b.toNat:Int))=us at*
 obtain⟨base,cap,olds,r1,r2,r3,r4,r5⟩:∃base cap olds,a.eval s=.slice base bs.length cap/\bs.length<=cap/\RepL g (bs.map byteC) olds/\olds.length=bs.length/\(bs.length=0 \/ ∃b o,base=some ⟨b,o,none⟩ /\ ∀j v,olds[j]? = some v->w.cell? ⟨b,o+j,none⟩=some v):=by
  cases r with
  |none=>
   obtain rfl:bs=[]:=hm
   exact⟨none,0,[],aK,Nat.le_refl _,rfl,rfl,.inl rfl⟩
  |some y=>
   obtain⟨i,cap,rest'⟩:=y
   obtain⟨m1,m2⟩:=hm
   obtain⟨b,ax,hv⟩:=aK
   obtain⟨b2,vs,aZ,ai,hr⟩:=hs.obj i _ m1
   obtain rfl:b2=b:=by rw[ax]at aZ;cases aZ;rfl
   obtain⟨u,v',e1,e2,e3⟩:=hr.split
   refine⟨_,cap,u,hv,by omega,e2,by rw[RepL.length e2];simp,.inr ⟨b2,0,rfl,fun j x hx=>?_⟩⟩
   have hj:j<u.length:=(List.getElem?_eq_some_iff.1 hx).1
   simp only[World.cell?, ai,Nat.zero_add]
   have:vs.toList[j]? = some x:=by rw[e1,List.getElem?_append_left hj];exact hx
   simpa using this
 by_cases aT:str=[]
 ·subst aT
  refine⟨g,w,a.eval s,_,O,Aq ?_,.refl g,hs,aK,r,by rw[List.append_nil];exact hm,fun j o hj hn=>⟨hj,hn⟩,by rw[List.append_nil]⟩
  rw[r1,q1]
  have:=EF (ty:=ty) t1 t2 t3 (w:=w) (w2:=w) (base:=base) (n:=bs.length) (cap:=cap) (s:=⟨[].toArray⟩) (by rw[ay];simpa using r2) (fun b _=>by rw[HZ];simp[storeCells,Sem.run]) (fun _=>rfl)
  rw[ay]at this
  simpa using this
 have bO:0<str.length:=List.length_pos_iff.2 aT
 by_cases aN:bs.length+str.length<=cap
 ·cases r with
  |none=>
   have e1:a.eval s=.slice none 0 0:=aK
   rw[e1]at r1;injection r1 with f1 f2 f3
   omega
  | some y =>
   obtain⟨i,cap',rest'⟩:=y
   obtain⟨m1,m2⟩:=hm
   obtain⟨b,ax,hv⟩:=aK
   rw[hv]at r1;injection r1 with f1 f2 f3
   subst f3
   subst f1
   obtain⟨b2,vs,aZ,ai,hr⟩:=hs.obj i _ m1
   obtain rfl:b2=b:=by rw[ax]at aZ;cases aZ;rfl
   have bS:=RepL.length hr
   simp only[Array.length_toList,List.length_append,List.length_map]at bS
   have bK:=Bw (P:=P) us 0 w vs ai aY (o:=bs.length) (by omega)
   have hne:us≠[]:=fun e=>by rw[e]at bq;simp at bq;omega
   have ak:=EF (ty:=ty) t1 t2 t3 (w:=w) (base:=some ⟨b2,0,none⟩) (n:=bs.length) (cap:=cap') (s:=⟨str.toArray⟩) (w2:=if us=[] then w else setB w b2 (.cells (Ba vs bs.length us) e (0,0)))
    (by rw[ay];exact aN) (fun a ha=>by cases ha;rw[Bu,t5,hsz,bC];simpa using bK) (fun h=>by cases h)
   rw[ay,if_neg hne]at ak
   have aS:RepL g ((bs++str).map byteC++rest'.drop str.length) (Ba vs bs.length us).toList:=by
    refine AF (by simp only[List.length_append,List.length_drop,List.length_map,Array.length_toList,Cd];omega) fun j d v h1 h2=>?_
    have ar:(Ba vs bs.length us)[j]? = some v:=by simpa using h2
    rw[CB _ _ _ _ (by omega)]at ar
    rw[List.map_append,List.append_assoc]at h1
    simp only[List.getElem?_append,List.length_map]at h1
    have hg:=RepL.get hr j
    by_cases c1:j<bs.length
    ·rw[if_neg (by omega)]at ar
     rw[if_pos c1]at h1
     rw[List.getElem?_append_left (by simpa using c1),h1]at hg
     simp only[Array.getElem?_toList,ar,Option.getD_some]at hg
     exact hg
    ·rw[if_neg c1]at h1
     by_cases c2:j-bs.length<str.length
     ·rw[if_pos (by omega)]at ar
      rw[if_pos c2]at h1
      have:=RepL.get v1 (j-bs.length)
      rw[h1,ar]at this
      exact this
     ·rw[if_neg (by omega)]at ar
      rw[if_neg c2,List.getElem?_drop]at h1
      rw[List.getElem?_append_right (by simp;omega),List.length_map,show j-bs.length=str.length+(j-bs.length-str.length) by omega,h1]at hg
      simp only[Array.getElem?_toList,ar,Option.getD_some]at hg
      exact hg
   refine⟨g,_,.slice (some ⟨b2,0,none⟩) (bs.length+str.length) cap',.sref i 0 (bs.length+str.length) cap',O.set i (.tcells e ((bs++str).map byteC++rest'.drop str.length)),Aq (by rw[hv,q1];exact ak),.refl g,?_,Ff ax,some (i,cap',rest'.drop str.length),⟨w6 ..,?_⟩,fun j o hj hn=>⟨by rw[w7 _ _ hn];exact hj,hn⟩,by rw[List.length_append];rfl⟩
   ·exact hs.setAny m1 rfl rfl ax ai ⟨b2,_,ax,Ed ai,aS⟩
   ·simp only[List.length_append,List.length_drop];omega
 ·obtain⟨c,hc,ak⟩:=Hw (ty:=ty) t1 t2 t3 t4 (w:=w) (base:=base) (n:=bs.length) (cap:=cap) (s:=⟨str.toArray⟩) (olds:=olds)
   (Al (by rw[t5,hsz,Nat.mul_one];exact r4) r5) (by rw[ay];omega) (by rw[ay];omega) (by rw[t6,ci,ay,Nat.mul_one];exact hb)
  rw[bC,ay]at ak
  rw[ay]at hc
  obtain⟨i',aM,bD⟩:=hs.fresh
  let zs:=(Builtin.zeroCells z.cells (c-(bs.length+str.length))).toList
  have bc:RepL (g.bind i' w.heap.size) ((bs++str).map byteC++zs.map B7) (olds++us++zs):=by
   rw[List.map_append]
   exact((RepL.mono (G.bind_le aM) _ r3).append (RepL.mono (G.bind_le aM) _ v1)).append (BM _ _)
  have bf:ObjRep P (g.bind i' w.drew.heap.size) { w.drew with heap:=w.drew.heap.push (.cells (olds++us++zs).toArray e (0,0)) } i' (.tcells e ((bs++str).map byteC++zs.map B7)):=
   ⟨w.drew.heap.size,(olds++us++zs).toArray,by simp[G.bind],by exact Array.getElem?_push_size,by simpa using bc⟩
  have ba:=hs.drew.newObj aM bD rfl bf
  refine⟨_,_,_,.sref i' 0 (bs.length+str.length) c,_,Aq (by rw[r1,q1];exact ak),G.bind_le aM,ba,Ff (by simp[G.bind]),some (i',c,zs.map B7),⟨w6 ..,?_⟩,fun j o hj _=>?_,by rw[List.length_append];rfl⟩
  ·have hz:zs.length=c-(bs.length+str.length):=by simp[zs,size_zeroCells,t7,hsz]
   simp only[List.length_append,List.length_map,hz];omega
  ·have hne:j≠i':=fun e=>by rw[e,bD]at hj;cases hj
   exact⟨by rw[w7 _ _ hne];exact hj,hne⟩
theorem NB{t T:Nat}{ty:TypeId}{pos:String}{after:Array Edge}(hk:A1 (tab T).k=false)(aF:t<n)
  (h:∀i,O i=none->DOps P ro n ops Q rest ⟨(t,.ptr i 0)::γ,O.set i (.tcells T (tab T).zero),df⟩) :
  DOps P ro n ops Q (⟨some t,.alloc T,ty,pos,after,none⟩::rest) ⟨γ,O,df⟩:=by
 refine GG (mk:=fun i=>.ptr i 0) (d:=.tcells T (tab T).zero) rfl (fun c e=>by cases e) (Aa fun c e=>by cases e) (by simp[Ap,aF]) rfl ?_ h
 intro g w a hs hT
 obtain⟨z,hz,bE,co⟩:=Ct (ht T) (Ae hk) w
 refine⟨.cells z.cells T,.pointer (some ⟨w.heap.size,0,none⟩),?_,fun i hi=>⟨⟨w.heap.size,z.cells,by simp[G.bind],by simp,?_⟩,w.heap.size,by simp[G.bind],rfl⟩⟩
 ·simp only[execOp,Instr.alloc,Sem.run_bind,hz,Result.andThen_ok,newVar,Ck]
  rfl
 ·rw[bE];exact BM _ _
end
theorem PP{P:Program}(r:Rx){m m':Machine}{e:Ending}(h:ComesIn (Machine.fenced P (FX P {})) P m m' e):ComesIn (Machine.fenced P (FX P r)) P m m' e:=by
 have key:∀m m',StepsIn (Machine.fenced P (FX P {})) P m m'->StepsIn (Machine.fenced P (FX P r)) P m m':=fun m m' hs=>by
  refine StepsIn.mono (fun m hm g hg=>?_) hs
  obtain⟨a1,a2,a3,a4⟩:=hm g hg
  exact⟨(fun e=>by cases e),a2.imp (fun h _=>h rfl) id,fun f hf _=>a3 f hf rfl,Ee P r _⟩
 cases e with
 |returned v=>exact key _ _ h
 |panicked c=>exact key _ _ h
 |outgrown=>exact h
theorem ND{P:Program}{n f:Nat}{args:Array Value}{u:FrameMode}{w:World}{R:Ending->FrameMode->World->Prop}(r:Rx)(h:CallsDIn (FX P {}) n P f args u w R):CallsDIn (FX P r) n P f args u w R:=by
 refine⟨fun _=>h.1 rfl,fun c cs hc _=>?_⟩
 obtain⟨e,u',w',fr,h1,h2,h3⟩:=h.2 c cs hc (Ee P _ _)
 exact⟨e,u',w',fr,h1,PP r h2,h3⟩
theorem Jo{P:Program}{f fd:Nat}{fn:Func}{c:Code}{args:List D}{O:Sig}{R:DE->Sig->Prop}(hf:P.funcs[f]? = some fn)(hb:fn.body=some c)(cb:MS P fd)(ca:fd<P.funcs.size)
  (bP : (fn.name == "runtime.NumGoroutine") = false) {m : Nat} (hm : fn.ntmps = m) (hn : args.length <= m) (h : DWp P .wide m c (fun x s => ∃ s', Wk P m s s' /\ BodyD P m fn fd (Weak R) x s') { γ := Bn 0 args, O }) : BH P f args O R := by
 refine IU ⟨(Array.getElem?_eq_some_iff.1 hf).1,AI hf bP (by rw[hb];rfl),fun g w vs r bL hs ha=>?_⟩
 obtain rfl:r=_:=bL
 refine callsIn_of_wp_defers hf hb (by obtain⟨h1,_⟩:=Array.getElem?_eq_some_iff.1 hf;exact EA h1 _) ?_ rfl
 subst hm
 refine wpIn_mono (h g w _ _ rfl ⟨hs,Db ha hn,rfl⟩) ?_
 rintro e a w' ⟨g',s1,x,h1,h2,h3,s2,bH,h4⟩
 obtain⟨g2,aU,ar⟩:=bH _ _ _ h2
 have cn:=h1.trans aU
 have key:∀(u:FrameMode) (pan:Option D) (cap:List D) (U':Sig) (d:D),u≠.run->(match pan with|none=>u=.returning|some d=> ∃v,u=.panicking [{ v,recovered:=false }]/\Rep g2 d v)->
   s2.df=[.fn fd [] cap]->Ju P fd cap s2.O pan U'->Lf P fn.ntmps fn ⟨s2.γ,U',[]⟩ d->Weak R (.ret d) U'->LeavesIn (FX P { wide:=true }) 0 P fn a.tmps (Jv P g (Weak R)) a.defers u w':=by
  intro u pan cap U' d hu hp e1 e2 e3 e4
  have bz:=ar.df
  rw[e1]at bz
  obtain⟨az,cs,rest,hd,ra,rc,aO⟩:=bz
  obtain rfl:az=[]:=ra
  obtain rfl:rest=[]:=aO
  rw[hd]
  refine leavesIn_cons hu (fun h=>by cases h) (f:=fd) (args:=cs.toArray) ?_ ?_ ?_
  ·simp only[invoke]
   have:=cb (#[]++cs.toArray) w'
   simpa using this
  ·intro g hg
   simp only[Target.leads,Option.some.injEq]at hg
   subst hg;exact(EA ca _)
  ·refine(ND _ (e2 g2 w' cs u ar.sim rc hp)).mono ?_
   rintro e u' w3 ⟨⟨v,rfl⟩,bb,g3,l3,br⟩
   simp only[bb]
   obtain⟨v,hv,aH⟩:=e3 g3 { a with defers:=[] } w3 ⟨br,ar.tmps.mono l3,rfl⟩
   exact⟨v,hv,g3,.ret d,U',cn.trans l3,br,⟨v,rfl,aH⟩,e4⟩
 cases x with
 |normal=>
  obtain rfl:=h3
  obtain⟨cap,U',d,e1,e2,e3,e4⟩:=h4
  exact key .returning none cap U' d (by simp) rfl e1 e2 e3 e4
 |ret=>
  obtain rfl:=h3
  obtain⟨cap,U',d,e1,e2,e3,e4⟩:=h4
  exact key .returning none cap U' d (by simp) rfl e1 e2 e3 e4
 |panic p=>
  obtain⟨v,rfl,aH⟩:=h3
  obtain⟨cap,U',d,e1,e2,e3,e4⟩:=h4
  exact key _ (some p) cap U' d (by simp) ⟨v,rfl,Rep.mono aU _ aH⟩ e1 e2 e3 e4
 |exit i=>exact h4.elim
section
variable {P:Program}{n:Nat}{ops:Array Oper}{Q:DX->St->Prop}{rest:List Oper}{γ:List (Nat×D)}{O:Sig}{df:List DDf}
theorem Ny{fop:Operand}{args:Array Operand}{ats:Array TypeId}{dst:Option Tmp}{ty:TypeId}{pos:String}{after:Array Edge}{f:Nat}{first cap:List D}(aB:f<P.funcs.size)
  (hf:ev γ fop=.func (.func f) first cap) (ho:Ap n ⟨dst,.defer { callee:=.value fop,args,argTypes:=ats },ty,pos,after,none⟩=true)
  (h:DOps P .wide n ops Q rest ⟨putD dst .any γ,O,.fn f (first++args.toList.map (ev γ)) cap::df⟩) :
  DOps P .wide n ops Q (⟨dst,.defer { callee:=.value fop,args,argTypes:=ats },ty,pos,after,none⟩::rest) ⟨γ,O,df⟩:=by
 intro g w a r hr hs
 obtain rfl:r={ wide:=true }:=hr
 unfold wpListIn
 rw[AH (o:=⟨dst,.defer { callee:=.value fop,args,argTypes:=ats },ty,pos,after,none⟩) (b:=true) hs.tmps rfl,if_pos rfl]
 have a8:=Ai hs.tmps fop
 rw[show ev (St.mk γ O df).γ fop=.func (.func f) first cap from hf]at a8
 obtain⟨fs,cs,a8,bN,bM⟩:=a8
 have be:(resolve a.eval { callee:=.value fop,args,argTypes:=ats } ty).run P w=.ok { target:=.fn (.func f) cs.toArray,args:=fs.toArray++args.map a.eval } w:=by
  simp[resolve,a8,Deferred.ofValue,Sem.run]
 refine⟨fun f' cf=>(Aa (fun c e=>by cases e) _ _ _ cf).elim,?_⟩
 have ak:(Oper.semAt (FX P { wide:=true }).round a.eval ⟨dst,.defer { callee:=.value fop,args,argTypes:=ats },ty,pos,after,none⟩).run P w=.ok (.defer { target:=.fn (.func f) cs.toArray,args:=fs.toArray++args.map a.eval }) w:=by
  simp only[FX,Oper.semAt,execOp,Sem.run_bind,be,Result.andThen_ok,Sem.run_pure]
 rw[ak]
 have aP:=hs.put (d:=.any) (v:=undef) (U':=O) (w':=w) (.refl g) hs.sim trivial ho
 refine h g w _ _ rfl ⟨aP.sim,?_,?_⟩
 ·have e:({ a with defers:={ target:=.fn (.func f) cs.toArray,args:=fs.toArray++args.map a.eval }::a.defers }:Act).put dst undef={ (a.put dst undef)with defers:={ target:=.fn (.func f) cs.toArray,args:=fs.toArray++args.map a.eval }::a.defers }:=by cases dst<;>rfl
  show RepT g _ n (({ a with defers:={ target:=.fn (.func f) cs.toArray,args:=fs.toArray++args.map a.eval }::a.defers }:Act).put dst undef).tmps
  rw[e];exact aP.tmps
 ·have e:(({ a with defers:={ target:=.fn (.func f) cs.toArray,args:=fs.toArray++args.map a.eval }::a.defers }:Act).put dst undef).defers={ target:=.fn (.func f) cs.toArray,args:=fs.toArray++args.map a.eval }::a.defers:=by cases dst<;>rfl
  show RepDf g _ (({ a with defers:={ target:=.fn (.func f) cs.toArray,args:=fs.toArray++args.map a.eval }::a.defers }:Act).put dst undef).defers
  rw[e]
  exact⟨fs++args.toList.map a.eval,cs,a.defers,by simp,bN.append (CN hs.tmps _),bM,hs.df⟩
end
section
variable {P:Program}{tab:Nat->Ty}(ht:B2 P tab){ro:Ro}{n:Nat}{ops:Array Oper}{Q:DX->St->Prop}{df:List DDf}{rest:List Oper}{γ:List (Nat×D)}{O:Sig}
include ht
theorem Ql{g:G}{w:World}{T e i off len cap:Nat}{k k':IntKind}{v u u':Value}{hi m:Nat}(hk:(tab T).k=.slice e)(he:A1 (tab e).k=false)(hv:Rep g (.sref i off len cap) v)(hu:Rep g (.int k hi) u)(bJ:Rep g (.int k' m) u')(bu:hi<=m)(hm:m<=cap):
  ∃r,(Instr.sliceAt T v none (some u) (some u')).run P w=.ok r w/\Rep g (.sref i off hi m) r:=by
 obtain⟨b,hb,rfl⟩:=hv
 obtain rfl:=B4 hu
 obtain rfl:=B4 bJ
 refine⟨_,?_,KE (len:=hi) (cap:=m) (off:=off) hb⟩
 have hu:=AB ht hk
 have c1:(0:Int)<=(hi:Int):=by omega
 have c2:(hi:Int)<=(m:Int):=by omega
 have c3:(0:Int)<=(m:Int):=by omega
 have c4:(m:Int)<=(cap:Int):=by omega
 simp only[Option.map_some,Instr.sliceAt,Instr.slice,Instr.sliceBounds,Instr.sliceBound,asIntOf,Sem.run_bind,Sem.run_pure,Result.andThen_ok,run_underlying hu,c1,c2,c3,c4,and_self,if_true,Ay (ht e) (Ae he),Int.toNat_natCast,Nat.sub_zero,Nat.zero_mul]
 congr 1
 split<;>simp[Addr.add]
theorem Ka{t T ty e i off len cap:Nat}{k k':IntKind}{x y z:Operand}{hi m:Nat}{pos:String}{after:Array Edge}
  (h:DOps P ro n ops Q rest ⟨(t,.sref i off hi m)::γ,O,df⟩)
  (aF:t<n) (hk:(tab T).k=.slice e) (he:A1 (tab e).k=false) (h1:ev γ x=.sref i off len cap) (h2:ev γ y=.int k hi) (h3:ev γ z=.int k' m) (bu:hi<=m) (hm:m<=cap) :
  DOps P ro n ops Q (⟨some t,.slice T x none (some y) (some z),ty,pos,after,none⟩::rest) ⟨γ,O,df⟩:=by
 refine By (fun d U'=>d=.sref i off hi m/\U'=O) rfl (fun c e=>by cases e) (Aa fun c e=>by cases e) (by simp[Ap,aF]) ?_
  (fun d U' ⟨a2,a3⟩=>by subst a2 a3;exact h)
 intro g w a hs hT
 have hx:=Ai hT x
 have hy:=Ai hT y
 have hz:=Ai hT z
 rw[h1]at hx
 rw[h2]at hy
 rw[h3]at hz
 obtain⟨r,h4,h5⟩:=Ql (w:=w) ht hk he hx hy hz bu hm
 exact⟨g,w,r,_,O,by simp only[execOp,Option.map_some,Option.map_none,Sem.run_bind,h4,Result.andThen_ok,Sem.run_pure],.refl g,hs,h5,rfl,rfl⟩
omit ht in
theorem Lj{i j c sz:Nat}{es:List (List D)}{r az bs:List D}(hj:O j=some (.cells (es.flatten++r)))(hi:O i=some (.cells (az ++ .sref j 0 es.length c::bs)))(b9:i≠j)(m3:es.length<=c)(m4:∀e∈es,e.length=sz):Wk P n ⟨γ,O,df⟩ ⟨γ,(O.del j).set i (.cells (az ++ .slice es .no::bs)),df⟩:=by
 intro g w a hs
 obtain⟨b,_,_,hb,_,_⟩:=hs.sim.obj j _ hj
 obtain⟨g',aC,ah,bd⟩:=hs.sim.freeze (i:=j) hj hb
 have aM:(O.del j) i=some (.cells (az ++ .sref j 0 es.length c::bs)):=by simp only[Sig.del,b9,if_false];exact hi
 simp only at ah
 refine⟨g',aC,⟨ah.retell aM fun vs=>HB fun v hv=>?_,hs.tmps.mono aC,hs.df.mono aC⟩⟩
 obtain⟨b',ax,hv⟩:=hv
 obtain rfl:b'=b:=by have:=aC.rho _ _ hb;rw[this]at ax;cases ax;rfl
 exact⟨_,c,hv,m3,.inr ⟨sz,b',0,rfl,DR m4 bd⟩,trivial⟩
end
section
variable {P:Program}{n:Nat}{γ:List (Nat×D)}{O:Sig}{df:List DDf}
theorem BE{i sz:Nat}{r:RW}{es:List (List D)}{az bs:List D}(hm:RWAt O sz r es)(hi:O i=some (.cells (az++r.d es.length::bs)))(bQ:¬r.is i):
  ∃U',Wk P n ⟨γ,O,df⟩ ⟨γ,U',df⟩/\U' i=some (.cells (az ++ .slice es .no::bs)) /\ ∀j o,O j=some o->j≠i->¬r.is j->U' j=some o:=by
 cases r with
 |nil=>
  obtain rfl:es=[]:=hm
  exact⟨_,EB hi (An _ (.inl rfl)),w6 .., fun j o hj aW _=>by rw[w7 _ _ aW];exact hj⟩
 |full es0=>
  obtain⟨rfl,_⟩:=hm
  exact⟨_,EB hi (Bv _ _),w6 .., fun j o hj aW _=>by rw[w7 _ _ aW];exact hj⟩
 | row k cap rest =>
  obtain⟨m1,m2,m3,m4⟩:=hm
  have b8:i≠k:=bQ
  exact⟨_,Lj m1 hi b8 m3 m4,w6 .., fun j o hj aW bi=>by
   rw[w7 _ _ aW]
   have:j≠k:=bi
   simp only[Sig.del,this,if_false];exact hj⟩
theorem HL{t sz:Nat}{r:RW}{es:List (List D)}(hm:RWAt O sz r es)(hg:getD γ t=r.d es.length):
  ∃U',Wk P n ⟨γ,O,df⟩ ⟨(t,.slice es .no)::γ,U',df⟩ /\ ∀j o,O j=some o->¬r.is j->U' j=some o:=by
 cases r with
 |nil=>
  obtain rfl:es=[]:=hm
  exact⟨O,BF (by rw[hg];exact An _ (.inl rfl)),fun j o h _=>h⟩
 |full es0=>
  obtain⟨rfl,_⟩:=hm
  exact⟨O,BF (by rw[hg];exact Bv _ _),fun j o h _=>h⟩
 | row k cap rest =>
  obtain⟨m1,m2,m3,m4⟩:=hm
  refine⟨O.del k,fun g w a hs=>?_,fun j o hj bi=>by
   have:j≠k:=bi
   simp only[Sig.del,this,if_false];exact hj⟩
  have bw:=hs.tmps.2 t
  rw[hg]at bw
  obtain⟨b,hb,hv⟩:=bw
  obtain⟨g',aC,ah,bd⟩:=hs.sim.freeze (i:=k) m1 hb
  refine⟨g',aC,⟨ah,⟨hs.tmps.1,fun q=>?_⟩,hs.df.mono aC⟩⟩
  rw[A6]
  by_cases hq:q=t
  ·rw[if_pos hq,hq]
   exact⟨_,cap,hv,m3,.inr ⟨sz,b,0,rfl,DR m4 bd⟩,trivial⟩
  ·rw[if_neg hq];exact Rep.mono aC _ (hs.tmps.2 q)
end
section
variable (P:Program)(ro:Ro)(n:Nat)(ops:Array Oper)(N:Nat)(S0:Sig)(Q:DX->St->Prop)(df:List DDf)(tab:Nat->Ty)
def USt(o:Oper)(γ:Fr)(O:Sig)(K:Fr->Sig->Prop):Prop:=
 (∃(dj:Nat->D) (x:DObj),(∀τ,Eff P ro n ops df γ τ o (fun d' X'=> ∃j,τ j=none/\d'=dj j/\X'=τ.set j x) (fun _ _=>False)) /\ ∀j,O j=none->K (putD o.dst (dj j) γ) (O.set j x)) \/
 (∃(j:Nat) (y x:DObj) (d:D),O j=some y/\S0 j=none/\(∀τ,τ j=some y->Eff P ro n ops df γ τ o (fun d' X'=>d'=d/\X'=τ.set j x) (fun _ _=>False))/\K (putD o.dst d γ) (O.set j x)) \/
 (∃Rr:Sig->D->Sig->Prop,(∀τ,Eff P ro n ops df γ τ o (Rr τ) (fun _ _=>False))/\(∀τ k x d X',τ k=none->Rr (τ.set k x) d X'->∃U',Rr τ d U'/\U' k=none/\X'=U'.set k x) /\ ∀d U',Rr O d U'->Sub S0 U'/\K (putD o.dst d γ) U')
def Step3(e u:Bool)(o:Oper)(γ:Fr)(O:Sig)(K:Fr->Sig->Prop):Prop:=
 match isAl o with
 |some (t,T)=> ∀k,O k=none->K ((t,.ptr k 0)::γ) (O.set k (.cells (tab T).zero))
 |none=>(∃d,Calm P n ops N S0 γ o d/\K (putD o.dst d γ) O) \/
  (e=true/\Eff P ro n ops df γ O o (fun d U'=>Sub S0 U'/\K (putD o.dst d γ) U') (fun d U'=> ∀V',Q (.panic d) ⟨V',U',df⟩)) \/
  (u=true/\USt P ro n ops S0 df o γ O K)
def MOps3(E U:List Nat):List Nat->Fr->Sig->Prop
 |[],γ,O=>DOps P ro n ops Q [] ⟨γ,O,df⟩
 |i::r,γ,O=> ∃o,ops[i]? = some o/\Step3 P ro n ops N S0 Q df tab (E.contains i) (U.contains i) o γ O (MOps3 E U r)
def MO3:List (Bool×Bool×Oper)->Fr->Sig->Prop
 |[],γ,O=>DOps P ro n ops Q [] ⟨γ,O,df⟩
 |(e,u,o)::r,γ,O=>Step3 P ro n ops N S0 Q df tab e u o γ O (MO3 r)
end
section
variable {P:Program}{ro:Ro}{n:Nat}{ops:Array Oper}{N:Nat}{S0:Sig}{Q:DX->St->Prop}{df:List DDf}{E U:List Nat}{tab:Nat->Ty}
theorem USt.congr{o:Oper}{γ V':Fr}{O:Sig}{K K':Fr->Sig->Prop}(h:USt P ro n ops S0 df o γ O K)(aj:∀t∈o.looksAt ops,getD γ t=getD V' t)(hK:∀d U',K (putD o.dst d γ) U'->K' (putD o.dst d V') U'):USt P ro n ops S0 df o V' O K':=by
 rcases h with⟨dj,x,hE,h⟩|⟨j,y,x,d,hj,h0,hE,h⟩|⟨Rr,hE,hn,h⟩
 rotate_left 2
 ·exact .inr (.inr ⟨Rr,fun τ=>(hE τ).congr aj fun _ _ h=>h,hn,fun d U' hR=>⟨(h d U' hR).1,hK _ _ (h d U' hR).2⟩⟩)
 ·exact .inl ⟨dj,x,fun τ=>(hE τ).congr aj fun _ _ h=>h,fun j hj=>hK _ _ (h j hj)⟩
 ·refine .inr (.inl ?_)
  exact⟨j,y,x,d,hj,h0,fun τ hD=>(hE τ hD).congr aj fun _ _ h=>h,hK _ _ h⟩
theorem Step3.mono{e u:Bool}{o:Oper}{γ V':Fr}{O:Sig}{K K':Fr->Sig->Prop}(h:Step3 P ro n ops N S0 Q df tab e u o γ O K)(aj:Alike γ V')(hK:∀γ V' O,Alike γ V'->K γ O->K' V' O):Step3 P ro n ops N S0 Q df tab e u o V' O K':=by
 unfold Step3 at h⊢
 split at h
 ·exact fun k hk=>hK _ _ _ (aj.put (some _) _) (h k hk)
 ·rcases h with⟨d,h2,h3⟩|⟨h1,h2⟩|⟨h1,h2⟩
  ·exact .inl ⟨d,h2.congr fun t _=>aj t,hK _ _ _ (aj.put _ _) h3⟩
  ·exact .inr (.inl ⟨h1,h2.congr (fun t _=>aj t) fun d U' ⟨h3,h4⟩=>⟨h3,hK _ _ _ (aj.put _ _) h4⟩⟩)
  ·exact .inr (.inr ⟨h1,h2.congr (fun t _=>aj t) fun d U' h4=>hK _ _ _ (aj.put _ _) h4⟩)
theorem MOps3.alike: ∀(l:List Nat) {γ V':Fr}{O:Sig},Alike γ V'->MOps3 P ro n ops N S0 Q df tab E U l γ O->MOps3 P ro n ops N S0 Q df tab E U l V' O
 |[],_,_,_,h,k=>C0 h k
 |i::r,_,_,_,h,⟨o,ho,k⟩=>⟨o,ho,k.mono h fun _ _ _ h' k'=>MOps3.alike r h' k'⟩
theorem Im{i:Nat}{oi:Oper}(hi:ops[i]? = some oi)(post:List Nat): ∀(pre:List Nat) (γ:Fr) (O:Sig),
  (∀x∈pre,E.contains x=false/\(U.contains x=true->(isAl oi).isSome=true) /\ ∃ox,ops[x]? = some ox/\oi.apart ops ox=true/\((isAl ox).isSome=true->(isAl oi).isSome=true))->MOps3 P ro n ops N S0 Q df tab E U (pre++i::post) γ O->MOps3 P ro n ops N S0 Q df tab E U (i::(pre++post)) γ O
 |[],_,_,_,h=>h
 | x::pre,γ,O,hp,h=>by
  obtain⟨bF,bp,ox,aw,ck,aj⟩:=hp x (by simp)
  obtain⟨a1,a2,a3⟩:=Oper.apart_spec ck
  obtain⟨ox',aQ,hx⟩:=h
  obtain rfl:ox'=ox:=by rw[aw]at aQ;cases aQ;rfl
  have ih:∀γ O,MOps3 P ro n ops N S0 Q df tab E U (pre++i::post) γ O->MOps3 P ro n ops N S0 Q df tab E U (i::(pre++post)) γ O:=fun γ O=>Im hi post pre γ O fun y hy=>hp y (by simp[hy])
  refine⟨oi,hi,?_⟩
  cases aD:isAl ox' with
  | some p =>
   obtain⟨t,T⟩:=p
   cases am:isAl oi with
   |none=>rw[aD,am]at aj;simp at aj
   | some q =>
    obtain⟨t',T'⟩:=q
    obtain⟨_,_,_,rfl⟩:=Iw aD
    obtain⟨_,_,_,rfl⟩:=Iw am
    simp only[Step3,isAl]at hx⊢
    intro k' aV
    refine⟨_,aw,?_⟩
    simp only[Step3,isAl]
    intro k hk
    have hne:k≠k':=by
     rintro rfl
     simp[Sig.set]at hk
    have bV:O k=none:=by rw[w7 _ _ hne]at hk;exact hk
    obtain⟨oi',aa,hh⟩:=ih _ _ (hx k bV)
    rw[hi]at aa;cases aa
    simp only[Step3,isAl]at hh
    have h3:=hh k' (by rw[w7 _ _ (Ne.symm hne)];exact aV)
    rw[set_comm O hne]at h3
    exact MOps3.alike _ (Bq (a:=some t') (b:=some t) _ _ _ fun t p q=>a2 t p q) h3
  | none =>
   simp only[Step3,aD]at hx
   rcases hx with⟨d,hy,h⟩|⟨hE,_⟩|⟨bB,hu⟩
   ·obtain⟨oi',aa,hh⟩:=ih _ O h
    rw[hi]at aa;cases aa
    cases am:isAl oi with
    |some q=>
     obtain⟨t',T'⟩:=q
     obtain⟨_,_,_,rfl⟩:=Iw am
     simp only[Step3,isAl]at hh⊢
     intro k' aV
     refine⟨ox',aw,?_⟩
     simp only[Step3,aD]
     refine .inl ⟨d,hy.congr fun t ht=>(AD (dst:=some t') fun hd=>a1 t hd ht).symm,?_⟩
     exact MOps3.alike _ (Bq _ _ _ fun t p q=>a2 t p q) (hh k' aV)
    | none =>
     simp only[Step3,am]at hh⊢
     rcases hh with⟨e,h2,h3⟩|⟨h1,h2⟩|⟨h1,h2⟩
     ·refine .inl ⟨e,h2.congr fun t ht=>AD fun hd=>a3 t hd ht,ox',aw,?_⟩
      simp only[Step3,aD]
      refine .inl ⟨d,hy.congr fun t ht=>(AD fun hd=>a1 t hd ht).symm,?_⟩
      exact MOps3.alike _ (Bq _ _ _ fun t p q=>a2 t p q) h3
     ·refine .inr (.inl ⟨h1,h2.congr (fun t ht=>AD fun hd=>a3 t hd ht) fun e U' ⟨h3,h4⟩=>⟨h3,ox',aw,?_⟩⟩)
      simp only[Step3,aD]
      refine .inl ⟨d,hy.congr fun t ht=>(AD fun hd=>a1 t hd ht).symm,?_⟩
      exact MOps3.alike _ (Bq _ _ _ fun t p q=>a2 t p q) h4
     ·refine .inr (.inr ⟨h1,h2.congr (fun t ht=>AD fun hd=>a3 t hd ht) fun e U' h4=>⟨ox',aw,?_⟩⟩)
      simp only[Step3,aD]
      refine .inl ⟨d,hy.congr fun t ht=>(AD fun hd=>a1 t hd ht).symm,?_⟩
      exact MOps3.alike _ (Bq _ _ _ fun t p q=>a2 t p q) h4
   ·rw[bF]at hE;cases hE
   ·cases am:isAl oi with
    |none=>rw[am]at bp;exact absurd (bp bB) (by simp)
    | some q =>
     obtain⟨t',T'⟩:=q
     obtain⟨_,_,_,rfl⟩:=Iw am
     simp only[Step3,isAl]
     intro k hk
     refine⟨ox',aw,?_⟩
     simp only[Step3,aD]
     refine .inr (.inr ⟨bB,?_⟩)
     rcases hu with⟨dj,xo,hE,hK⟩|⟨j,y,xo,d,hj,h0,hE,hK⟩|⟨Rr,hE,hn,hK⟩
     rotate_left 2
     ·refine .inr (.inr ⟨Rr,fun τ=>(hE τ).congr (fun t ht=>(AD (dst:=some t') fun hd=>a1 t hd ht).symm) fun _ _ h=>h,hn,fun d X' hR=>?_⟩)
      obtain⟨U',h1,h2,rfl⟩:=hn O k _ d X' hk hR
      obtain⟨hs,cm⟩:=hK d U' h1
      refine⟨hs.set (hs.none h2),?_⟩
      obtain⟨oi',aa,hh⟩:=ih _ _ cm
      rw[hi]at aa;cases aa
      simp only[Step3,isAl]at hh
      exact MOps3.alike _ (Bq (a:=some t') (b:=ox'.dst) _ _ _ fun t p q=>a2 t p q) (hh k h2)
     ·refine .inl ⟨dj,xo,fun τ=>(hE τ).congr (fun t ht=>(AD (dst:=some t') fun hd=>a1 t hd ht).symm) fun _ _ h=>h,fun j hj=>?_⟩
      have hne:j≠k:=by
       rintro rfl
       simp[Sig.set]at hj
      have bW:O j=none:=by rw[w7 _ _ hne]at hj;exact hj
      obtain⟨oi',aa,hh⟩:=ih _ _ (hK j bW)
      rw[hi]at aa;cases aa
      simp only[Step3,isAl]at hh
      have h3:=hh k (by rw[w7 _ _ (Ne.symm hne)];exact hk)
      rw[set_comm O hne]at h3
      exact MOps3.alike _ (Bq (a:=some t') (b:=ox'.dst) _ _ _ fun t p q=>a2 t p q) h3
     ·have hne:j≠k:=fun e=>by rw[e,hk]at hj;cases hj
      refine .inr (.inl ?_)
      refine⟨j,y,xo,d,by rw[w7 _ _ hne];exact hj,h0,fun τ hD=>(hE τ hD).congr (fun t ht=>(AD (dst:=some t') fun hd=>a1 t hd ht).symm) fun _ _ h=>h,?_⟩
      obtain⟨oi',aa,hh⟩:=ih _ _ hK
      rw[hi]at aa;cases aa
      simp only[Step3,isAl]at hh
      have h3:=hh k (by rw[w7 _ _ (Ne.symm hne)];exact hk)
      rw[set_comm O hne]at h3
      exact MOps3.alike _ (Bq (a:=some t') (b:=ox'.dst) _ _ _ fun t p q=>a2 t p q) h3
def Jg(ops:Array Oper)(E U:List Nat):List Nat->List Nat->Bool
 |_,[]=>true
 | done,i::r => !done.contains i && (match ops[i]? with
  |some o=>(o.after.all fun e=> !Region.binds .any e||done.contains e.on)&&done.all fun x=>(!E.contains x&&(!U.contains x||(isAl o).isSome)&&match ops[x]? with
   |some ox=>o.apart ops ox&&(!(isAl ox).isSome||(isAl o).isSome)
   |none=>false)||FK ops ops.size i x
  |none=>false)&&Jg ops E U (i::done) r
theorem Gc {i:Nat} {l2:List Nat} : ∀ (l1 done:List Nat),Jg ops E U done (l1++i::l2)=true->i ∉ l1/\i ∉ done/\i ∉ l2 /\ ∃ o,ops[i]? = some o/\(∀ e ∈ o.after,Region.binds .any e=true->e.on ∈ l1\/e.on ∈ done) /\
   ∀x,x∈l1->FK ops ops.size i x=true\/(E.contains x=false/\(U.contains x=true->(isAl o).isSome=true) /\ ∃ox,ops[x]? = some ox/\o.apart ops ox=true/\((isAl ox).isSome=true->(isAl o).isSome=true))
 | [],done,h=>by
  simp only[List.nil_append,Jg,Bool.and_eq_true,Bool.not_eq_true',List.contains_eq_mem,decide_eq_false_iff_not]at h
  obtain⟨⟨h1,h2⟩,h3⟩:=h
  have later:∀(l d:List Nat),i∈d->Jg ops E U d l=true->i∉l:=by
   intro l
   induction l with
   |nil=>intro _ _ _ h;cases h
   |cons y l ih=>
    intro d hd hm ae
    simp only[Jg,Bool.and_eq_true,Bool.not_eq_true',List.contains_eq_mem,decide_eq_false_iff_not]at hm
    obtain⟨⟨m1,_⟩,m3⟩:=hm
    rcases List.mem_cons.1 ae with rfl|ae
    ·exact m1 hd
    ·exact ih (y::d) (by simp[hd]) m3 ae
  refine⟨by simp,h1,later l2 _ (by simp) h3,?_⟩
  split at h2
  ·rename_i o ho
   simp only[Bool.and_eq_true]at h2
   refine⟨o,ho,fun e he hb=>?_,fun x hx=>by cases hx⟩
   have:=Array.all_eq_true_iff_forall_mem.1 h2.1 e he
   simp only[hb,Bool.not_true,Bool.false_or,List.contains_eq_mem,decide_eq_true_eq]at this
   exact .inr this
  ·cases h2
 | y::l1,done,h=>by
  simp only[List.cons_append,Jg,Bool.and_eq_true]at h
  obtain⟨h1,h2,h3,o,ho,he,hx⟩:=Gc l1 (y::done) h.2
  have bX:i≠y:=fun e=>h2 (by simp[e])
  refine⟨by simp[bX,h1],fun hd=>h2 (by simp[hd]),h3,o,ho,fun e hm hb=>?_,?_⟩
  ·rcases he e hm hb with h4|h4
   ·exact .inl (by simp[h4])
   ·rcases List.mem_cons.1 h4 with h5|h5
    ·exact .inl (by simp[h5])
    ·exact .inr h5
  ·intro x ae
   rcases List.mem_cons.1 ae with rfl|ae
   ·have back:∀(l d:List Nat),x∈d->Jg ops E U d (l++i::l2)=true->FK ops ops.size i x=true\/(E.contains x=false/\(U.contains x=true->(isAl o).isSome=true) /\ ∃ox,ops[x]? = some ox/\o.apart ops ox=true/\((isAl ox).isSome=true->(isAl o).isSome=true)):=by
     intro l
     induction l with
     | nil =>
      intro d hd hm
      simp only[List.nil_append,Jg,Bool.and_eq_true,ho]at hm
      have:=List.all_eq_true.1 hm.1.2.2 x hd
      simp only[Bool.or_eq_true,Bool.and_eq_true,Bool.not_eq_true']at this
      rcases this.symm with h4|⟨⟨h4,hu⟩,h5⟩
      ·exact .inl h4
      ·refine .inr ⟨h4,(fun bI=>hu.resolve_left fun h=>by rw[bI]at h;cases h),?_⟩
       split at h5
       ·rename_i ox aw
        simp only[Bool.and_eq_true,Bool.or_eq_true,Bool.not_eq_true']at h5
        exact⟨ox,aw,h5.1,fun hs=>by rcases h5.2 with h6|h6;rw[h6]at hs;cases hs;exact h6⟩
       ·cases h5
     |cons z l ih=>
      intro d hd hm
      simp only[List.cons_append,Jg,Bool.and_eq_true]at hm
      exact ih (z::d) (by simp[hd]) hm.2
    exact back l1 _ (by simp) h.2
   ·exact hx x ae
def GZ(ops:Array Oper)(E U ord:List Nat):Bool:=Jg ops E U [] ord&&(List.range ops.size).all ord.contains&&ord.length==ops.size
theorem QK(ht:B2 P tab)(hN:P.funcs.size=N){ord:List Nat}(hB:GZ ops E U ord=true)(hA:allOK tab n ops=true){g0:G}{rr:Rx}(hr:RoRep g0 ro rr): ∀(m:Nat) (r:List Nat) (listed:Array Bool) (γ:Fr) (O:Sig),r.length=m->listed.size=ops.size->
  r=ord.filter (fun i=> !listed.getD i true)->Closed ops listed->MOps3 P ro n ops N S0 Q df tab E U r γ O->Sub S0 O->
   ∀(g:G) (w:World) (a:Act),g0.le g->SimS P g n ⟨γ,O,df⟩ a w->wpAnyIn (FX P rr) 0 P .any ops (Post P g0 n Q) m listed a w:=by
 unfold GZ at hB
 simp only[Bool.and_eq_true]at hB
 obtain⟨⟨ap,bk⟩,_⟩:=hB
 have ae:∀(r:List Nat) (listed:Array Bool),r=ord.filter (fun i=> !listed.getD i true)->∀i∈Region.ready .any ops listed,i∈r:=by
  intro r listed hf i hi
  obtain⟨h1,o,ho,_⟩:=mem_ready.1 hi
  have:=List.all_eq_true.1 bk i (by simpa using(Array.getElem?_eq_some_iff.1 ho).1)
  rw[hf,List.mem_filter]
  exact⟨by simpa using this,by rw[h1];rfl⟩
 intro m
 induction m with
 |zero=>
  intro r listed γ O hl hsz hf au h hC g w a hg hs
  obtain rfl:r=[]:=List.length_eq_zero_iff.1 hl
  refine⟨List.eq_nil_iff_forall_not_mem.2 fun i hi=>?_,?_⟩
  ·have:=ae [] listed hf i hi;cases this
  ·exact Post.le hg (h g w a rr (hr.mono hg) hs)
 | succ m ih =>
  intro r listed γ O hl hsz hf au h hC g w a hg hs
  obtain⟨y,t,rfl⟩:∃y t,r=y::t:=by cases r with|nil=>cases hl|cons y t=>exact⟨y,t,rfl⟩
  refine⟨fun he=>?_,fun i hi=>?_⟩
  ·exfalso
   obtain⟨l1,l2,aI,bU,hy,cq⟩:=List.filter_eq_cons_iff.1 hf.symm
   subst aI
   obtain⟨h1,_,_,o,ho,bx,_⟩:=Gc l1 [] ap
   have:y∈Region.ready .any ops listed:=by
    refine mem_ready.2 ⟨by simpa using hy,o,ho,fun e hm hb=>?_⟩
    rcases bx e hm hb with h4|h4
    ·have h5:=bU _ h4
     simp only[Bool.not_eq_true,Bool.not_eq_false']at h5
     have aB:e.on<listed.size:=by
      have:e.on∈l1++y::l2:=by simp[h4]
      obtain⟨p1,p2,hp⟩:=List.append_of_mem this
      rw[hp]at ap
      obtain⟨_,_,_,o',aL,_⟩:=Gc p1 [] ap
      rw[hsz];exact(Array.getElem?_eq_some_iff.1 aL).1
     simpa[aB] using h5
    ·cases h4
   rw[he]at this;cases this
  ·obtain⟨pre,post,aG⟩:=List.append_of_mem (ae _ listed hf i hi)
   rw[aG]at hf h hl
   obtain⟨l1',l2',aI,bj,ce⟩:=List.filter_eq_append_iff.1 hf.symm
   obtain⟨m1,m2,bh,bR,cr,cd⟩:=List.filter_eq_cons_iff.1 ce
   have aA:ord=(l1'++m1)++i::m2:=by rw[aI,bh];simp
   rw[aA]at ap
   obtain⟨n1,_,n3,o,ho,bx,hx⟩:=Gc (l1'++m1) [] ap
   obtain⟨bY,o',aL,aX⟩:=mem_ready.1 hi
   obtain rfl:o'=o:=by rw[ho]at aL;cases aL;rfl
   have aJ:=Im ho post pre γ O (fun x bn=>by
    have bG:x∈l1'++m1:=by
     have:x∈l1'.filter (fun i=> !listed.getD i true):=by rw[bj];exact bn
     simp[(List.mem_filter.1 this).1]
    have bm:listed.getD x true=false:=by
     have:x∈l1'.filter (fun i=> !listed.getD i true):=by rw[bj];exact bn
     simpa using(List.mem_filter.1 this).2
    rcases hx x bG with h4|h4
    ·exfalso
     have:=CE au ops.size i x o' ho aX h4
     rcases Nat.lt_or_ge x listed.size with aB|aB
     ·simp[aB]at this bm;rw[bm]at this;cases this
     ·simp[Array.getElem?_eq_none aB]at this
    ·exact h4) h
   have ag:pre++post=ord.filter (fun j=> !(listed.setIfInBounds i true).getD j true):=by
    have bZ:i<listed.size:=by
     rw[hsz];exact(Array.getElem?_eq_some_iff.1 ho).1
    rw[aA,List.filter_append,List.filter_cons]
    have e1:(listed.setIfInBounds i true).getD i true=true:=by simp[bZ]
    rw[e1,AJ n1,AJ n3]
    simp only[Bool.not_true,Bool.false_eq_true,if_false,List.filter_append,bj,cd]
    rw[List.filter_eq_nil_iff.2 (fun x hx=>by simpa using bR x hx),List.append_nil]
   have hlen:(pre++post).length=m:=by simp at hl⊢; omega
   obtain⟨o2,bt,hh⟩:=aJ
   obtain rfl:o2=o':=by rw[ho]at bt;cases bt;rfl
   have aR:=Array.all_eq_true_iff_forall_mem.1 hA o2 (Array.mem_of_getElem? ho)
   unfold wpOpIn
   simp only[ho]
   cases am:isAl o2 with
   | some p =>
    obtain⟨t,T⟩:=p
    rw[am]at aR
    simp only[Bool.and_eq_true,decide_eq_true_eq,Bool.not_eq_true']at aR
    obtain⟨_,_,_,rfl⟩:=Iw am
    simp only[Step3,isAl]at hh
    refine CP (Q:=Q) (R:=fun d U'=> ∃k,O k=none/\d=.ptr k 0/\U'=O.set k (.cells (tab T).zero)) (Rp:=fun _ _=>False) (hr.mono hg) hg hs ⟨by simp[Ap,aR.1],rfl,?_⟩ (fun g' w' a' d U' aq hR ah=>?_) fun _ _ h=>h.elim
    ·exact E0 ht aR.2 aR.1 fun k hk=>Aw ⟨rfl,k,hk,by simp[A6],rfl⟩
    ·obtain⟨k,hk,rfl,rfl⟩:=hR
     exact ih _ _ _ _ hlen (by simpa using hsz) ag (au.set hi) (hh k hk) (fun i o h=>(Sub.refl _).set hk i o (hC i o h)) g' w' a' (hg.trans aq) ah
   | none =>
    simp only[Step3,am]at hh
    rcases hh with⟨d,hy,hM⟩|⟨_,hE⟩|⟨_,hu⟩
    ·exact Fa (Q:=Q) hN (hr.mono hg) hg hs hC hy fun g' w' a' aq ah=>ih _ _ _ _ hlen (by simpa using hsz) ag (au.set hi) hM hC g' w' a' (hg.trans aq) ah
    ·exact CP (Q:=Q) (hr.mono hg) hg hs hE (fun g' w' a' d U' aq hR ah=>ih _ _ _ _ hlen (by simpa using hsz) ag (au.set hi) hR.2 hR.1 g' w' a' (hg.trans aq) ah) fun d U' hp=>hp
    ·rcases hu with⟨dj,x,hE,hK⟩|⟨j,y,x,d,hj,h0,hE,hK⟩|⟨Rr,hE,hn,hK⟩
     rotate_left 2
     ·refine CP (Q:=Q) (hr.mono hg) hg hs (hE O) (fun g' w' a' d U' aq hR ah=>?_) fun _ _ h=>h.elim
      exact ih _ _ _ _ hlen (by simpa using hsz) ag (au.set hi) (hK d U' hR).2 (hK d U' hR).1 g' w' a' (hg.trans aq) ah
     ·refine CP (Q:=Q) (hr.mono hg) hg hs (hE O) (fun g' w' a' d U' aq hR ah=>?_) fun _ _ h=>h.elim
      obtain⟨j,hj,rfl,rfl⟩:=hR
      exact ih _ _ _ _ hlen (by simpa using hsz) ag (au.set hi) (hK j hj) (fun i o h=>(Sub.refl _).set hj i o (hC i o h)) g' w' a' (hg.trans aq) ah
     ·refine CP (Q:=Q) (hr.mono hg) hg hs (hE O hj) (fun g' w' a' d' U' aq hR ah=>?_) fun _ _ h=>h.elim
      obtain⟨rfl,rfl⟩:=hR
      exact ih _ _ _ _ hlen (by simpa using hsz) ag (au.set hi) hK (fun i o h=>by rw[w7 _ _ fun e=>by rw[e,h0]at h;cases h];exact hC i o h) g' w' a' (hg.trans aq) ah
def Qx(ops:List Oper)(E U:List Nat):List Nat->Option (List (Bool×Bool×Oper))
 |[]=>some []
 | i::r=>match nthO ops i with
  |some o=>match Qx ops E U r with
   |some l=>some ((E.contains i,U.contains i,o)::l)
   |none=>none
  |none=>none
theorem Hp{lo:List Oper}: ∀{ord:List Nat}{lp:List (Bool×Bool×Oper)}{γ:Fr}{O:Sig},Qx lo E U ord=some lp->MO3 P ro n lo.toArray N S0 Q df tab lp γ O->MOps3 P ro n lo.toArray N S0 Q df tab E U ord γ O
 |[],_,_,_,hp,h=>by cases hp;exact h
 |i::r,lp,γ,O,hp,h=>by
  simp only[Qx]at hp
  split at hp<;>(try (cases hp;done))
  rename_i o ho
  split at hp<;>(try (cases hp;done))
  rename_i l hl
  cases hp
  refine⟨o,by rw[GX]at ho;simpa using ho,?_⟩
  exact Step3.mono h (fun _=>rfl) fun γ V' O aj h=>MOps3.alike _ aj (Hp hl h)
theorem V0(ht:B2 P tab)(hN:P.funcs.size=N)(hm:P.follows .mixedOrders=true){l:List Oper}{id:Nat}{γ:Fr}{O:Sig}(ord E U:List Nat)(S0:Sig)(hB:GZ l.toArray E U ord=true)(hA:allOK tab n l.toArray=true)(hC:Sub S0 O)
  {lp:List (Bool×Bool×Oper)} (bT:Qx l E U ord=some lp) (h:MO3 P ro n l.toArray N S0 Q df tab lp γ O):DWp P ro n (.region id l.toArray true) Q ⟨γ,O,df⟩:=by
 intro g w a r hr hs
 refine wpIn_region_any hm ?_
 have au:Closed l.toArray (Array.replicate l.toArray.size false):=by
  intro q o _ hq
  rcases Nat.lt_or_ge q l.length with h'|h'
  ·simp[h']at hq
  ·simp[h']at hq
 have ah:SimS P g n ⟨γ,O,df⟩ a { w with drawn:=w.drawn+1 }:=
  ⟨⟨fun b o v h=>hs.sim.imm b o v h,hs.sim.keep,fun i o h=>by
   have:=hs.sim.obj i o h
   cases o<;>exact this,hs.sim.inj,hs.sim.free,hs.sim.htop,hs.sim.hdom,hs.sim.fin,hs.sim.io,hs.sim.tab⟩,hs.tmps,hs.df⟩
 have aB:∀i∈ord,i<l.toArray.size:=by
  intro i hi
  obtain⟨p1,p2,hp⟩:=List.append_of_mem hi
  have aE:=hB
  unfold GZ at aE
  simp only[Bool.and_eq_true]at aE
  rw[hp]at aE
  obtain⟨_,_,_,o',aL,_⟩:=Gc p1 [] aE.1.1
  exact(Array.getElem?_eq_some_iff.1 aL).1
 have hlen:ord.length=l.toArray.size:=by
  have aE:=hB
  unfold GZ at aE
  simp only[Bool.and_eq_true,beq_iff_eq]at aE
  exact aE.2
 have:=QK ht hN hB hA hr ord.length ord (Array.replicate l.toArray.size false) γ O rfl (by simp) (Dl aB).symm au (Hp bT h) hC g _ a (.refl g) ah
 rw[hlen]at this
 exact this
theorem Ip: ∀{l:List (Bool×Bool×Oper)}{γ:Fr}{O:Sig},(l.all fun p=> !(isAl p.2.2).isSome)=true->MO P ro n ops N S0 Q df (l.map fun p=>(p.1,p.2.2)) γ O->MO3 P ro n ops N S0 Q df tab l γ O
 |[],_,_,_,h=>h
 |(e,u,o)::l,γ,O,hl,h=>by
  simp only[List.all_cons,Bool.and_eq_true,Bool.not_eq_true']at hl
  have hn:isAl o=none:=by cases h:isAl o with|none=>rfl|some _=>rw[h]at hl;simp at hl
  show Step3 P ro n ops N S0 Q df tab e u o γ O _
  simp only[Step3,hn]
  rcases h with⟨d,h2,h3⟩|⟨h1,h2⟩
  ·exact .inl ⟨d,h2,Ip hl.2 h3⟩
  ·exact .inr (.inl ⟨h1,h2.congr (fun _ _=>rfl) fun d U' ⟨h3,h4⟩=>⟨h3,Ip hl.2 h4⟩⟩)
theorem QT{e u:Bool}{t T:Nat}{ty:TypeId}{pos:String}{after:Array Edge}{l:List (Bool×Bool×Oper)}{γ:Fr}{O:Sig}(h:∀k,O k=none->MO3 P ro n ops N S0 Q df tab l ((t,.ptr k 0)::γ) (O.set k (.cells (tab T).zero))):
  MO3 P ro n ops N S0 Q df tab ((e,u,⟨some t,.alloc T,ty,pos,after,none⟩)::l) γ O:=h
theorem Ui(ht:B2 P tab){e u:Bool}{t:Nat}{op:Op}{ty:TypeId}{pos:String}{after:Array Edge}{d:D}{l:List (Bool×Bool×Oper)}{γ Sr:Fr}{O:Sig}(hr:D1 op=true)(aF:decide (t<n)=true)(hl:A0 γ (A5 op.operands.toList)=some Sr)(hd:dopX tab Sr S0 op=some d)
  (h:MO3 P ro n ops N S0 Q df tab l ((t,d)::γ) O):MO3 P ro n ops N S0 Q df tab ((e,u,⟨some t,op,ty,pos,after,none⟩)::l) γ O:=by
 have bA:=(Be (C3 hl)) ▸ hd
 have ha:isAl ⟨some t,op,ty,pos,after,none⟩=none:=by
  unfold isAl;split
  ·rename_i cg;cases cg;cases hr
  ·rfl
 show Step3 P ro n ops N S0 Q df tab e u _ γ O _
 simp only[Step3,ha]
 refine .inl ⟨d,⟨aF,.inl ⟨by rw[Ak];rfl,C8 hr,Jc ht bA,fun U' hU g w a hs hT=>?_⟩⟩,h⟩
 refine F7 ht hs hT (?_:dopX tab (only _ γ) U' op=some d)
 rw[Be (V':=γ) fun x hx=>Bo (o:=⟨some t,op,ty,pos,after,none⟩) hx]
 exact F8 hU bA
theorem mo3_u{e:Bool}{o:Oper}{l:List (Bool×Bool×Oper)}{γ:Fr}{O:Sig}(ha:isAl o=none)(h:USt P ro n ops S0 df o γ O (MO3 P ro n ops N S0 Q df tab l)):MO3 P ro n ops N S0 Q df tab ((e,true,o)::l) γ O:=by
 show Step3 P ro n ops N S0 Q df tab e true o γ O _
 simp only[Step3,ha]
 exact .inr (.inr ⟨trivial,h⟩)
end
end Go.DL
