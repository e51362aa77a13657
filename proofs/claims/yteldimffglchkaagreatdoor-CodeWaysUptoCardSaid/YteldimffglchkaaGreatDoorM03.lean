/- A part of the proof. -/
import Derived.Test.YteldimffglchkaaGreatDoorM02
import Derived.OrdersIn
import Derived.Still
import Derived.Laws.AppendOwn
set_option linter.all false
namespace Go.DL
open Go
theorem B9{γ V':Fr}{x:Operand}(h:∀t,x=.tmp t->getD γ t=getD V' t):ev γ x=ev V' x:=by
 cases x with
 |tmp t=>exact h t rfl
 |_=>rfl
theorem ES{γ V':Fr}{l:List Operand}(h:∀x∈l,ev γ x=ev V' x):l.map (ev γ)=l.map (ev V'):=List.map_congr_left h
theorem MA{tab:Nat->Ty}{γ V':Fr}{O:Sig}{op:Op}(h:∀x∈op.operands,ev γ x=ev V' x):dop tab γ O op=dop tab V' O op:=by
 cases op<;>simp only[Op.operands]at h<;>simp only[dop]
 case move x=>rw[h x (by simp)]
 case assign x=>rw[h x (by simp)]
 case pick c a b=>rw[h c (by simp),h a (by simp),h b (by simp)]
 case box t x=>rw[h x (by simp)]
 case load t x=>rw[h x (by simp)]
 case nilCheck x=>rw[h x (by simp)]
 case binOp o t x y u=>rw[h x (by simp),h y (by simp)]
 case unOp o t x=>rw[h x (by simp)]
 case convert s t x=>rw[h x (by simp)]
 case makeInterface t x=>rw[h x (by simp)]
 case makeFunc fn first cap=>rw[ES (fun x hx=>h x (by simp at hx;simp[hx])),ES (l:=cap.toList) (fun x hx=>h x (by simp at hx;simp[hx]))]
 case fieldAddr s x f=>rw[h x (by simp)]
 case field s x f=>rw[h x (by simp)]
 case indexAddr t x i=>rw[h x (by simp),h i (by simp)]
 case index t x i=>rw[h x (by simp),h i (by simp)]
 case extract x i=>rw[h x (by simp)]
 case buildSlice t len parts=>
  have hp:∀p∈parts.toList,ev γ p.2=ev V' p.2:=fun p hp=>h p.2 (by simp;exact⟨p.1,by simpa using hp⟩)
  unfold He
  split
  ·rename_i e _
   have e1:(parts.toList.map fun p=>(ev γ p.2).cells)=parts.toList.map fun p=>(ev V' p.2).cells:=List.map_congr_left fun p aE=>by rw[hp p aE]
   have e2:(parts.toList.all fun p=>(ev γ p.2).told&&(ev γ p.2).cells.length==(tab e).size)=parts.toList.all fun p=>(ev V' p.2).told&&(ev V' p.2).cells.length==(tab e).size:=by
    rw[Bool.eq_iff_iff,List.all_eq_true,List.all_eq_true]
    constructor<;>intro hh p aE<;>have:=hh p aE<;>rw[hp p aE]at* <;> exact this
   rw[e1,e2]
  ·rfl
 case call c=>
  obtain⟨callee,args,ats⟩:=c
  cases callee<;>try rfl
  rename_i b
  cases b<;>try rfl
  obtain⟨args⟩:=args
  obtain⟨ats⟩:=ats
  simp only[dop,lenC]
  split
  ·rename_i t x
   rw[h x (by simp[Call.operands])]
  ·rfl
section
variable {P:Program}{ro:Ro}{n:Nat}{ops:Array Oper}{tab:Nat->Ty}(N:Nat){C:Sig->Prop}
def Yld (P:Program) (n:Nat) (ops:Array Oper) (tab:Nat->Ty) (N:Nat) (C:Sig->Prop) (γ:Fr) (o:Oper) (d:D):Prop :=
  Ap n o=true /\
  ((Ax ops γ o=some true /\
      ((isEff o.op=false /\ ∀ O,C O->dop tab γ O o.op=some d) \/
       ∃fop args ats f first cap,o.op=(cv fop args ats)/\ev γ fop=.func (.func f) first cap /\
        ∀O,C O->DCall P f (first++args.toList.map (ev γ)++cap) O fun x U'=>x=.ret d/\C U')) \/
   (Ax ops γ o=some false/\DP N o.op=true/\d=.any))
theorem G8{o:Oper}{t:Nat}(h:Operand.tmp t∈o.op.operands):t∈o.looksAt ops:=
 List.mem_append_left _ (List.mem_filterMap.2 ⟨.tmp t,by simpa using h,rfl⟩)
theorem HP{γ V':Fr}{o:Oper}(h:∀t∈o.looksAt ops,getD γ t=getD V' t):Ax ops γ o=Ax ops V' o:=by
 unfold Ax
 cases hg:o.guard with
 |none=>rfl
 | some p =>
  obtain⟨j,want⟩:=p
  have:CL ops γ j=CL ops V' j:=by
   unfold CL
   cases hd:(ops[j]?).bind (·.dst)with
   |none=>rfl
   |some t=>
    have:=h t (List.mem_append_right _ (by simp[hg,hd]))
    simp[this]
  have hu:HT ops γ j=HT ops V' j:=by
   unfold HT
   cases hd:(ops[j]?).bind (·.dst)with
   |none=>rfl
   |some t=>
    have:=h t (List.mem_append_right _ (by simp[hg,hd]))
    simp[this]
  simp only[this,hu]
theorem Yld.congr{γ V':Fr}{o:Oper}{d:D}(h:∀t∈o.looksAt ops,getD γ t=getD V' t)(hy:Yld P n ops tab N C γ o d):Yld P n ops tab N C V' o d:=by
 have aF:∀x∈o.op.operands,ev γ x=ev V' x:=fun x hx=>B9 fun t ht=>h t (G8 (ht ▸ hx))
 refine⟨hy.1,?_⟩
 rw[<-HP h]
 rcases hy.2 with⟨hw,⟨he,hd⟩|⟨fop,args,ats,f,first,cap,ho,hf,hc⟩⟩|hs
 ·exact .inl ⟨hw,.inl ⟨he,fun O hU=>by rw[<-MA aF];exact hd O hU⟩⟩
 ·rw[ho]at aF
  refine .inl ⟨hw,.inr ⟨fop,args,ats,f,first,cap,ho,by rw[<-aF fop (by simp[Op.operands,Call.operands])];exact hf,fun O hU=>?_⟩⟩
  rw[<-ES (γ:=γ) fun x hx=>aF x (by simp at hx;simp[Op.operands,Call.operands,hx])]
  exact hc O hU
 ·exact .inr hs
theorem AD{dst:Option Tmp}{d:D}{γ:Fr}{t:Nat}(h:dst≠some t):getD (putD dst d γ) t=getD γ t:=by
 cases dst with
 |none=>rfl
 |some k=>
  simp only[putD,A6]
  rw[if_neg fun e=>h (by rw[e])]
def Alike(γ V':Fr):Prop:= ∀t,getD γ t=getD V' t
theorem Bq{a b:Option Tmp}(d e:D)(γ:Fr)(h:∀t,a=some t->b≠some t):Alike (putD a d (putD b e γ)) (putD b e (putD a d γ)):=by
 intro t
 cases a with
 |none=>rfl
 | some i =>
  cases b with
  |none=>rfl
  | some j =>
   have a8:i≠j:=fun e=>h i rfl (by rw[e])
   simp only[putD,A6]
   by_cases h1:t=i
   ·subst h1;simp[a8]
   ·by_cases h2:t=j
    ·subst h2;simp[h1,Ne.symm h1]
    ·simp[h1,h2]
theorem Alike.put{γ V':Fr}(h:Alike γ V')(dst:Option Tmp)(d:D):Alike (putD dst d γ) (putD dst d V'):=by
 intro t
 cases dst with
 |none=>exact h t
 |some k=>simp only[putD,A6];rw[h t]
def AnyD(P:Program)(n:Nat)(ops:Array Oper)(tab:Nat->Ty)(N:Nat)(C:Sig->Prop)(T:Fr->Prop):Nat->Array Bool->Fr->Prop
 |0,_,γ=>T γ
 |m+1,listed,γ=>Region.ready .any ops listed≠[] /\ ∀i∈Region.ready .any ops listed, ∃o d,ops[i]? = some o/\Yld P n ops tab N C γ o d/\AnyD P n ops tab N C T m (listed.setIfInBounds i true) (putD o.dst d γ)
theorem AnyD.alike{T:Fr->Prop}(hT:∀γ V',Alike γ V'->T γ->T V'): ∀(m:Nat) (listed:Array Bool) (γ V':Fr),Alike γ V'->AnyD P n ops tab N C T m listed γ->AnyD P n ops tab N C T m listed V'
 |0,_,_,_,h,k=>hT _ _ h k
 |m+1,_,_,_,h,k=>⟨k.1,fun i hi=>
  let ⟨o,d,h1,h2,h3⟩:=k.2 i hi
  ⟨o,d,h1,h2.congr N fun t _=>h t,AnyD.alike hT m _ _ _ (h.put _ _) h3⟩⟩
def Closed(ops:Array Oper)(listed:Array Bool):Prop:=
 ∀(q:Nat) o,ops[q]? = some o->listed.getD q false=true->∀e∈o.after,Region.binds .any e=true->listed.getD e.on false=true
theorem Closed.set{listed:Array Bool}(h:Closed ops listed){i:Nat}(hi:i∈Region.ready .any ops listed):Closed ops (listed.setIfInBounds i true):=by
 intro q o ho hq e he hb
 obtain⟨_,oi,aO,am⟩:=mem_ready.1 hi
 by_cases aN:q=i
 ·subst aN
  rw[ho]at aO;cases aO
  exact getD_set_true (am e he hb)
 ·rw[getD_set_ne false (Ne.symm aN)]at hq
  exact getD_set_true (h q o ho hq e he hb)
end
def FK(ops:Array Oper):Nat->Nat->Nat->Bool
 |0,_,_=>false
 |fuel+1,k,p=>match ops[k]? with
  |some o=>(o.after.any fun e=>Region.binds .any e&&e.on==p)||(o.after.any fun e=>Region.binds .any e&&(decide (p<e.on)&&FK ops fuel e.on p))
  |none=>false
theorem CE{ops:Array Oper}{listed:Array Bool}(hc:Closed ops listed): ∀(fuel k p:Nat) (o:Oper),ops[k]? = some o->
  (∀e∈o.after,Region.binds .any e=true->listed.getD e.on false=true)->FK ops fuel k p=true->listed.getD p false=true
 |0,_,_,_,_,_,h=>by cases h
 | fuel+1,k,p,o,ho,am,h=>by
  simp only[FK,ho,Bool.or_eq_true]at h
  rcases h with h|h
  ·rw[Array.any_eq_true']at h
   obtain⟨e,he,h⟩:=h
   simp only[Bool.and_eq_true,beq_iff_eq]at h
   obtain⟨hb,rfl⟩:=h
   exact am e he hb
  ·rw[Array.any_eq_true']at h
   obtain⟨e,he,h⟩:=h
   simp only[Bool.and_eq_true]at h
   obtain⟨hb,_,h⟩:=h
   have h1:=am e he hb
   cases hq:ops[e.on]? with
   |none=>cases fuel<;>simp[FK,hq]at h
   |some q=>exact CE hc fuel e.on p q hq (fun e' bd ax=>hc e.on q hq h1 e' bd ax) h
section
variable {P:Program}{ro:Ro}{n:Nat}{ops:Array Oper}{tab:Nat->Ty}{N:Nat}{C:Sig->Prop}{Q:DX->St->Prop}{df:List DDf}
theorem C0{l:List Oper}{γ V':Fr}{O:Sig}(h:Alike γ V')(k:DOps P ro n ops Q l ⟨γ,O,df⟩):DOps P ro n ops Q l ⟨V',O,df⟩:=
 fun g w a r hr hs=>k g w a r hr ⟨hs.sim,⟨hs.tmps.1,fun t=>by rw[h t];exact hs.tmps.2 t⟩,hs.df⟩
end
def Ba(cs:Array Value)(k:Nat):List Value->Array Value
 |[]=>cs
 |v::vs=>Ba (cs.setIfInBounds k v) (k+1) vs
theorem Cd: ∀(vs:List Value) (cs:Array Value) (k:Nat),(Ba cs k vs).size=cs.size
 |[],_,_=>rfl
 |v::vs,cs,k=>by rw[Ba,Cd vs];simp
theorem CB: ∀(vs:List Value) (cs:Array Value) (k i:Nat),k+vs.length<=cs.size->(Ba cs k vs)[i]? = if k<=i/\i<k+vs.length then vs[i-k]? else cs[i]?
 |[],cs,k,i,_=>by simp only[Ba,List.length_nil];rw[if_neg (by omega)]
 | v::vs,cs,k,i,h=>by
  simp only[List.length_cons]at h
  rw[Ba,CB vs _ (k+1) i (by simp;omega)]
  simp only[List.length_cons]
  by_cases aP:i=k
  ·subst aP
   rw[if_neg (by omega),if_pos (by omega)]
   have:i<cs.size:=by omega
   simp[this]
  ·by_cases h2:k+1<=i/\i<k+1+vs.length
   ·rw[if_pos h2,if_pos (by omega)]
    rw[show i-k=(i-(k+1))+1 by omega];simp
   ·rw[if_neg h2,if_neg (by omega),Array.getElem?_setIfInBounds_ne (Ne.symm aP)]
def Oe:Value->Bool
 |.agg _|.tuple _=>false
 |_=>true
def setB(w:World)(b:Nat)(o:Obj):World:={ w with heap:=w.heap.setIfInBounds b o }
theorem Ec{w:World}{b k:Nat}{o:Obj}(h:k≠b):(setB w b o).heap[k]? = w.heap[k]? :=by simp[setB,Array.getElem?_setIfInBounds_ne (Ne.symm h)]
theorem Ed{w:World}{b:Nat}{o x:Obj}(h:w.heap[b]? = some x):(setB w b o).heap[b]? = some o:=by
 have:=(Array.getElem?_eq_some_iff.1 h).1
 simp[setB,this]
theorem Ls{w:World}{b o:Nat}{cs:Array Value}{ty:TypeId}{fz:Nat×Nat}(v:Value)(h:w.heap[b]? = some (.cells cs ty fz)):
  w.setCell ⟨b,o,none⟩ v=setB w b (.cells (cs.setIfInBounds o v) ty fz):=by
 have aX:=(Array.getElem?_eq_some_iff.1 h).1
 have he:=(Array.getElem?_eq_some_iff.1 h).2
 unfold World.setCell setB
 congr 1
 apply Array.ext
 ·simp
 ·intro i h1 h2
  simp only[Array.size_modify]at h1
  rw[Array.getElem_modify]
  by_cases hi:b=i
  ·subst hi;simp[he]
  ·have h3:(w.heap.setIfInBounds b (Obj.cells (cs.setIfInBounds o v) ty fz))[i]? = w.heap[i]? :=Array.getElem?_setIfInBounds_ne hi
   rw[Array.getElem?_eq_getElem h2,Array.getElem?_eq_getElem h1]at h3
   rw[if_neg hi];exact(Option.some.inj h3).symm
theorem Qi(w:World)(b:Nat)(o o':Obj):setB (setB w b o) b o'=setB w b o':=by simp[setB]
theorem Bw{P:Program}{b o:Nat}{ty:TypeId}: ∀(vs:List Value) (i:Nat) (w:World) (cs:Array Value),w.heap[b]? = some (.cells cs ty (0,0))->(∀v∈vs,Oe v=true)->o+i+vs.length<=cs.size->
  (storeCells ⟨b,o,none⟩ vs i).run P w=.ok () (if vs=[] then w else setB w b (.cells (Ba cs (o+i) vs) ty (0,0)))
 |[],i,w,cs,_,_,_=>by simp[storeCells,Sem.run]
 | v::vs,i,w,cs,h,hf,hsz=>by
  simp only[List.length_cons]at hsz
  have aC:w.cell? ⟨b,o+i,none⟩=some (cs[o+i]'(by omega)):=by
   simp[World.cell?, h,show o+i<cs.size by omega]
  have bb:w.frozen? ⟨b,o+i,none⟩=false:=by simp[World.frozen?, h]
  have hv:=hf v (by simp)
  have aJ:(store ((⟨b,o,none⟩:Addr).add i) v).run P w=.ok () (setB w b (.cells (cs.setIfInBounds (o+i) v) ty (0,0))):=by
   rw[Bu,<-Ls v h]
   unfold store
   cases v<;>simp[Oe]at hv<;>simp[Sem.run,aC,bb]
  simp only[storeCells,Sem.run_bind,aJ,Result.andThen_ok]
  have h2:(setB w b (.cells (cs.setIfInBounds (o+i) v) ty (0,0))).heap[b]? = some (.cells (cs.setIfInBounds (o+i) v) ty (0,0)):=Ed h
  rw[Bw vs (i+1) _ _ h2 (fun x hx=>hf x (by simp[hx])) (by simp;omega)]
  by_cases aM:vs=[]
  ·subst aM;simp[Ba]
  ·simp[aM,Ba,Qi,Nat.add_assoc]
def D.flat:D->Bool
 |.any|.agg _|.tup _=>false
 |_=>true
theorem Rt{g:G}{d:D}{v:Value}(h:Rep g d v)(hf:d.flat=true):Oe v=true:=by
 cases d<;>simp only[D.flat]at hf<;>(try cases hf)
 case bool=>cases h;rfl
 case int=>cases h;rfl
 case str=>cases h;rfl
 case nilp=>cases h;rfl
 case cptr=>obtain⟨b,o,rfl,hr⟩:=h;rfl
 case ptr=>obtain⟨b,hb,rfl⟩:=h;rfl
 case nils=>cases h;rfl
 case slice=>obtain⟨a,cap,rfl,hr⟩:=h;rfl
 case sref=>obtain⟨b,hb,rfl⟩:=h;rfl
 case map=>obtain⟨b,hb,rfl⟩:=h;rfl
 case nilmap=>cases h;rfl
 case cmap=>obtain⟨b,es,c,rfl,hr⟩:=h;rfl
 case func=>obtain⟨fs,cs,rfl,hr⟩:=h;rfl
 case yld=>obtain⟨b,hb,rfl⟩:=h;rfl
 case nilf=>cases h;rfl
 case iface=>obtain⟨x,rfl,hr⟩:=h;rfl
 case niliface=>cases h;rfl
 case obj=>obtain⟨b,hb,rfl⟩:=h;rfl
def BC(ds:List D):Bool:=ds.all D.flat
theorem CJ{g:G}: ∀{ds:List D}{vs:List Value},RepL g ds vs->BC ds=true->∀v∈vs,Oe v=true
 |[],_,h,_,v,hv=>by cases h;simp at hv
 |d::ds,_,⟨v0,r,e,h1,h2⟩,hf,v,hv=>by
  subst e
  simp only[BC,List.all_cons,Bool.and_eq_true]at hf
  rcases List.mem_cons.1 hv with rfl|hv
  ·exact Rt h1 hf.1
  ·exact CJ h2 hf.2 v hv
theorem ObjRep.setB{P:Program}{g:G}{O:Sig}{w:World}{i b:Nat}{d:DObj}{o:Obj}(hU:O i=some d)(hne:blk g O i≠some b)(h:ObjRep P g w i d):ObjRep P g (DL.setB w b o) i d:=by
 have key:∀k x,w.heap[k]? = some x->k≠b->(DL.setB w b o).heap[k]? = some x:=fun k x h hk=>by rw[Ec hk];exact h
 cases d with
 |cells ds=>
  obtain⟨k,vs,ty,h1,h2,h3⟩:=h
  exact⟨k,vs,ty,h1,key k _ h2 (fun e=>hne (by simp[blk,hU,h1,e])),h3⟩
 |tcells ty ds=>
  obtain⟨k,vs,h1,h2,h3⟩:=h
  exact⟨k,vs,h1,key k _ h2 (fun e=>hne (by simp[blk,hU,h1,e])),h3⟩
 |mcells ds=>
  obtain⟨k,vs,ty,h1,h2,h3⟩:=h
  exact⟨k,vs,ty,h1,key k _ h2 (fun e=>hne (by simp[blk,hU,h1,e])),h3⟩
 |map l=>
  obtain⟨k,vs,ty,h1,h2,h3⟩:=h
  exact⟨k,vs,ty,h1,key k _ h2 (fun e=>hne (by simp[blk,hU,h1,e])),h3⟩
 |tail sz n=>
  rcases h with h|⟨k,o',cap,vs,ty,h1,h2,h3,h4,h5⟩
  ·exact .inl h
  ·exact .inr ⟨k,o',cap,vs,ty,h1,h2,key k _ h3 (fun e=>hne (by simp[blk,hU,h1,e])),h4,h5⟩
 |loop st pe ps az bo n γ did=>
  obtain⟨k,db,fn,tmps,h1,h2,h3,h4,h5⟩:=h
  exact⟨k,db,fn,tmps,h1,h2,h3,h4,key k _ h5 (fun e=>hne (by simp[blk,hU,h1,e]))⟩
 |defs=>
  obtain⟨k,h1,h2⟩:=h
  exact⟨k,h1,key k _ h2 (fun e=>hne (by simp[blk,hU,h1,e]))⟩
 |iter l la=>
  obtain⟨k,h1,h2⟩:=h
  exact⟨k,h1,h2.imp (fun ⟨a,c,d⟩=>⟨a,c,key k _ d (fun e=>hne (by simp[blk,hU,h1,e]))⟩) (fun ⟨mb,es,c,seen,e1,r⟩=>⟨mb,es,c,seen,key k _ e1 (fun e=>hne (by simp[blk,hU,h1,e])),r⟩)⟩
def G.bind(g:G)(i b:Nat):G:={ g with rho:=fun j=>if j=i then some b else g.rho j }
theorem G.bind_le{g:G}{i b:Nat}(h:g.rho i=none):g.le (g.bind i b):=
 {imm:=fun _ _ _ x=>x,hist:=fun _ _ _ x=>x,keep:=fun _ _ x=>x,io:=rfl
  rho:=fun j c x=>by
   simp only[G.bind]
   by_cases hj:j=i
   ·subst hj;rw[h]at x;cases x
   ·rw[if_neg hj];exact x }
theorem Sim.taken{P:Program}{g:G}{O:Sig}{w:World}(hs:Sim P g O w){i:Nat}{d:DObj}(h:O i=some d):(g.rho i).isSome=true:=by
 have:=hs.obj i d h
 cases d with
 |tail sz n=>
  rcases this with h|⟨k,o',cap,vs,ty,h1,_⟩
  ·exact hs.hdom _ _ _ h.1
  ·exact hs.hdom _ _ _ h1
 |cells ds=>obtain⟨k,_,_,h1,_⟩:=this;rw[h1];rfl
 |tcells ty ds=>obtain⟨k,_,h1,_⟩:=this;rw[h1];rfl
 |mcells ds=>obtain⟨k,_,_,h1,_⟩:=this;rw[h1];rfl
 |map l=>obtain⟨k,_,_,h1,_⟩:=this;rw[h1];rfl
 |loop=>obtain⟨k,_,_,_,h1,_⟩:=this;rw[h1];rfl
 |defs=>obtain⟨k,h1,_⟩:=this;rw[h1];rfl
 |iter=>obtain⟨k,h1,_⟩:=this;rw[h1];rfl
theorem Sim.fresh{P:Program}{g:G}{O:Sig}{w:World}(hs:Sim P g O w): ∃i,g.rho i=none/\O i=none:=by
 obtain⟨m,hm⟩:=hs.fin
 refine⟨m,hm m (Nat.le_refl _),?_⟩
 cases h:O m with
 |none=>rfl
 |some d=>have:=hs.taken h;rw[hm m (Nat.le_refl _)]at this;cases this
theorem OI{g:G}{O:Sig}{i b j:Nat}(hU:O i=none):blk (g.bind i b) O j=blk g O j:=by
 unfold blk G.bind
 by_cases hj:j=i
 ·subst hj;rw[hU]
 ·cases O j with
  |none=>rfl
  |some d=>cases d<;>simp[hj]
theorem Sim.newObj{P:Program}{g:G}{O:Sig}{w:World}(hs:Sim P g O w){i:Nat}{d:DObj}{o:Obj}(hi:g.rho i=none)(hU:O i=none)(ht:d.isTail=false)
  (hd:ObjRep P (g.bind i w.heap.size) { w with heap:=w.heap.push o } i d):Sim P (g.bind i w.heap.size) (O.set i d) { w with heap:=w.heap.push o } where
 imm:=fun b o v h=>MG (hs.imm b o v h)
 keep:=fun k o h=>heap_push (hs.keep k o h)
 obj:=fun j x h=>by
  by_cases hj:j=i
  ·subst hj;simp only[Sig.set,if_true,Option.some.injEq]at h;subst h;exact hd
  ·simp only[Sig.set,hj,if_false]at h
   exact((hs.obj j x h).mono (G.bind_le hi) (fun _ _ _ _ _ _ _ _ _ _ h=>h)).push _
 inj:=by
  have key:∀j b,blk (g.bind i w.heap.size) (O.set i d) j=some b->(j=i/\b=w.heap.size)\/(j≠i/\blk g O j=some b):=by
   intro j b h
   by_cases hj:j=i
   ·subst hj
    left
    refine⟨rfl,?_⟩
    simp only[blk,Sig.set,if_true]at h
    cases d<;>simp[DObj.isTail]at ht<;>simp[G.bind]at h<;>exact h.symm
   ·right
    refine⟨hj,?_⟩
    rw[<-OI (b:=w.heap.size) hU]
    unfold blk at h⊢
    simp only[Sig.set,hj,if_false]at h
    exact h
  intro j k b h1 h2
  rcases key j b h1 with⟨a1,a2⟩|⟨a1,a2⟩<;>rcases key k b h2 with⟨b1,b2⟩|⟨b1,b2⟩
  ·rw[a1,b1]
  ·have:=hs.blk_lt b2;omega
  ·have:=hs.blk_lt a2;omega
  ·exact hs.inj j k b a2 b2
 free:=fun j b h=>by
  by_cases hj:j=i
  ·subst hj
   have hb:b=w.heap.size:=by
    simp only[blk,Sig.set,if_true]at h
    cases d<;>simp[DObj.isTail]at ht<;>simp[G.bind]at h<;>exact h.symm
   subst hb
   refine⟨?_,fun _ o=>?_⟩
   ·cases hk:g.keep w.heap.size with
    |none=>exact hk
    |some x=>have:=(Array.getElem?_eq_some_iff.1 (hs.keep _ _ hk)).1;omega
   ·cases hk:g.imm w.heap.size o with
    |none=>exact hk
    |some x=>have:=Lc (hs.imm _ _ _ hk);omega
  ·have h':blk g O j=some b:=by
    rw[<-OI (b:=w.heap.size) hU]
    unfold blk at h⊢
    simp only[Sig.set,hj,if_false]at h
    exact h
   obtain⟨h1,h2⟩:=hs.free j b h'
   exact⟨h1,fun ht o=>h2 (fun x hx=>ht x (by simp only[Sig.set,hj,if_false];exact hx)) o⟩
 htop:=fun j sz n k h hk=>by
  by_cases hj:j=i
  ·subst hj;simp only[Sig.set,if_true,Option.some.injEq]at h;subst h;cases ht
  ·simp only[Sig.set,hj,if_false]at h;exact hs.htop j sz n k h hk
 hdom:=fun j n v h=>by
  simp only[G.bind]
  by_cases hj:j=i
  ·rw[if_pos hj];rfl
  ·rw[if_neg hj];exact hs.hdom j n v h
 io:=hs.io
 tab:=hs.tab
 fin:=by
  obtain⟨m,hm⟩:=hs.fin
  refine⟨max m (i+1),fun k hk=>?_⟩
  simp only[G.bind]
  rw[if_neg (by omega)]
  exact hm k (by omega)
theorem w6(O:Sig)(i:Nat)(o:DObj):O.set i o i=some o:=by simp[Sig.set]
theorem w7(O:Sig){i j:Nat}(o:DObj)(h:j≠i):O.set i o j=O j:=by simp[Sig.set,h]
theorem w8(O:Sig)(i:Nat)(o o':DObj):(O.set i o).set i o'=O.set i o':=by
 funext j;by_cases h:j=i<;>simp[Sig.set,h]
theorem Sig.set_del(O:Sig){i:Nat}(o:DObj)(h:O i=none):(O.set i o).del i=O:=by
 funext j;by_cases hj:j=i
 ·subst hj;simp[Sig.del,h]
 ·simp[Sig.set,Sig.del,hj]
theorem BM(g:G): ∀(l:List Value),RepL g (l.map B7) l
 |[]=>rfl
 |v::l=>⟨_,_,rfl,Dh g v,BM g l⟩
section
variable {P:Program}{ro:Ro}{n:Nat}{ops:Array Oper}{Q:DX->St->Prop}{rest:List Oper}{tab:Nat->Ty}{γ:List (Nat×D)}{O:Sig}{df:List DDf}
theorem GG{o:Oper}{mk:Nat->D}{d:DObj}(hw:Ax ops γ o=some true)(aU:∀c,o.op≠.defer c)(be:∀(w:World) (ρ:Operand->Value) f,o.about P w ρ=some f->False)(ho:Ap n o=true)(hd:d.isTail=false)
  (hr : ∀ g w (a:Act),Sim P g O w->RepT g γ n a.tmps -> ∃ ob v,(execOp a.eval o).run P w = .ok (.value v) { w with heap:=w.heap.push ob } /\
   ∀i,g.rho i=none->ObjRep P (g.bind i w.heap.size) { w with heap:=w.heap.push ob } i d/\Rep (g.bind i w.heap.size) (mk i) v)
  (h:∀i,O i=none->DOps P ro n ops Q rest ⟨putD o.dst (mk i) γ,O.set i d,df⟩):DOps P ro n ops Q (o::rest) ⟨γ,O,df⟩:=by
 intro g w a r aT hs
 unfold wpListIn
 rw[AH hs.tmps hw,if_pos rfl]
 refine⟨fun f hf=>(be _ _ f hf).elim,?_⟩
 obtain⟨ob,v,h1,h2⟩:=hr g w a hs.sim hs.tmps
 rw[Oper.semAt_eq _ _ _ aU,h1]
 obtain⟨i,hi,hU⟩:=hs.sim.fresh
 obtain⟨h3,h4⟩:=h2 i hi
 exact AE (G.bind_le hi) _ (h i hU _ _ _ r (aT.mono (G.bind_le hi)) (hs.put (G.bind_le hi) (hs.sim.newObj hi hU hd h3) h4 ho))
variable (ht:B2 P tab)
include ht
theorem E0{t T:Nat}{ty:TypeId}{pos:String}{after:Array Edge}(hk:A1 (tab T).k=false)(ay:t<n)
  (h:∀i,O i=none->DOps P ro n ops Q rest ⟨(t,.ptr i 0)::γ,O.set i (.cells (tab T).zero),df⟩) :
  DOps P ro n ops Q (⟨some t,.alloc T,ty,pos,after,none⟩::rest) ⟨γ,O,df⟩:=by
 refine GG (mk:=fun i=>.ptr i 0) (d:=.cells (tab T).zero) rfl (fun c e=>by cases e) (Aa fun c e=>by cases e) (by simp[Ap,ay]) rfl ?_ h
 intro g w a hs hT
 obtain⟨z,hz,aQ,bf⟩:=Ct (ht T) (Ae hk) w
 refine⟨.cells z.cells T,.pointer (some ⟨w.heap.size,0,none⟩),?_,fun i hi=>⟨⟨w.heap.size,z.cells,T,by simp[G.bind],by simp,?_⟩,w.heap.size,by simp[G.bind],rfl⟩⟩
 ·simp only[execOp,Instr.alloc,Sem.run_bind,hz,Result.andThen_ok,newVar,Ck]
  rfl
 ·rw[aQ];exact BM _ _
omit ht in
theorem dops_box{t T:Nat}{x:Operand}{ty:TypeId}{pos:String}{after:Array Edge}(aa:(ev γ x).told=true)(ay:t<n)
  (h:∀i,O i=none->DOps P ro n ops Q rest ⟨(t,.ptr i 0)::γ,O.set i (.cells (ev γ x).cells),df⟩) :
  DOps P ro n ops Q (⟨some t,.box T x,ty,pos,after,none⟩::rest) ⟨γ,O,df⟩:=by
 refine GG (mk:=fun i=>.ptr i 0) (d:=.cells (ev γ x).cells) rfl (fun c e=>by cases e) (Aa fun c e=>by cases e) (by simp[Ap,ay]) rfl ?_ h
 intro g w a hs hT
 refine⟨.cells (a.eval x).cells T,.pointer (some ⟨w.heap.size,0,none⟩),?_,fun i hi=>⟨⟨w.heap.size,(a.eval x).cells,T,by simp[G.bind],by simp,?_⟩,w.heap.size,by simp[G.bind],rfl⟩⟩
 ·simp[execOp,Instr.box,newVar,Ck]
 ·exact RepL.mono (G.bind_le hi) _ (EH (Ai hT x) aa)
omit ht in
theorem Sim.setObj{g:G}{w:World}(hs:Sim P g O w){i b:Nat}{ds ds':List D}{vs':Array Value}{ty:TypeId}(hi:O i=some (.cells ds))(hb:g.rho i=some b)(hr:RepL g ds' vs'.toList)
  (hx:∃vs,w.heap[b]? = some (.cells vs ty (0,0))):Sim P g (O.set i (.cells ds')) (setB w b (.cells vs' ty (0,0))):=by
 obtain⟨vs,hx⟩:=hx
 have ag:blk g O i=some b:=by simp[blk,hi,hb]
 have ai:=hs.free i b ag
 have aG:∀o,g.imm b o=none:=ai.2 fun o ho=>by rw[hi]at ho;cases ho;rfl
 have ae:∀j,blk g (O.set i (.cells ds')) j=blk g O j:=by
  intro j
  by_cases hj:j=i
  ·subst hj;simp[blk,Sig.set,hi]
  ·simp[blk,Sig.set,hj]
 exact {
  imm:=fun c o v h=>by
   have hc:c≠b:=fun e=>by rw[e,aG o]at h;cases h
   have:=hs.imm c o v h
   unfold World.cell? at this⊢
   simp only at this⊢
   rw[Ec hc];exact this
  keep:=fun k o h=>by
   have hc:k≠b:=fun e=>by rw[e,ai.1]at h;cases h
   rw[Ec hc];exact hs.keep k o h
  obj:=fun j o h=>by
   by_cases hj:j=i
   ·subst hj
    rw[w6]at h;cases h
    exact⟨b,vs',ty,hb,Ed hx,hr⟩
   ·rw[w7 _ _ hj]at h
    exact(hs.obj j o h).setB h fun e=>hj (hs.inj j i b e ag)
  inj:=fun j k c h1 h2=>hs.inj j k c (by rw[<-ae];exact h1) (by rw[<-ae];exact h2)
  free:=fun j c h=>by
   rw[ae]at h
   obtain⟨h1,h2⟩:=hs.free j c h
   refine⟨h1,fun hh o=>?_⟩
   by_cases hj:j=i
   ·subst hj
    rw[ag]at h;cases h
    exact aG o
   ·exact h2 (fun x hx=>hh x (by rw[w7 _ _ hj];exact hx)) o
  htop:=fun j sz n k h hk=>by
   by_cases hj:j=i
   ·subst hj;rw[w6]at h;cases h
   ·rw[w7 _ _ hj]at h;exact hs.htop j sz n k h hk
  hdom:=hs.hdom
  io:=hs.io
  tab:=hs.tab
  fin:=hs.fin }
theorem Lo{g:G}{w:World}{a:Act}(hs:Sim P g O w)(hT:RepT g γ n a.tmps){T i off:Nat}{x y:Operand}{ds:List D}(hk:A1 (tab T).k=false)(hx:ev γ x=.ptr i off)(hi:O i=some (.cells ds))
  (aa:(ev γ y).told=true) (hl:(ev γ y).cells.length=(tab T).size) (hf:BC (ev γ y).cells=true) (aA:off+(ev γ y).cells.length<=ds.length) :
  ∃w',(Instr.storeAt T (a.eval x) (a.eval y)).run P w=.ok () w'/\Sim P g (O.set i (.cells (ds.take off++(ev γ y).cells++ds.drop (off+(ev γ y).cells.length)))) w':=by
 have aD:=Ai hT x
 rw[hx]at aD
 obtain⟨b,hb,aD⟩:=aD
 have hy:=Ai hT y
 have aH:=EH hy aa
 obtain⟨b',vs,ty',ax,ah,hr⟩:=hs.obj i _ hi
 obtain rfl:b'=b:=by rw[hb]at ax;cases ax;rfl
 have aW:=RepL.length aH
 have aY:=RepL.length hr
 simp only[Array.length_toList]at aW aY
 let w':=setB w b' (.cells (Ba vs off (a.eval y).cells.toList) ty' (0,0))
 have ar:RepL g (ds.take off++(ev γ y).cells++ds.drop (off+(ev γ y).cells.length)) (Ba vs off (a.eval y).cells.toList).toList:=by
  refine AF (by simp only[List.length_append,List.length_take,List.length_drop,Array.length_toList,Cd];omega) fun j d v h1 h2=>?_
  have aq:(Ba vs off (a.eval y).cells.toList)[j]? = some v:=by simpa using h2
  rw[CB _ _ _ _ (by simp;omega)]at aq
  simp only[Array.length_toList]at aq
  simp only[List.getElem?_append,List.length_append,List.length_take,List.getElem?_take,List.getElem?_drop]at h1
  have e1:min off ds.length=off:=by omega
  rw[e1]at h1
  by_cases c1:j<off
  ·rw[if_neg (by omega)]at aq
   rw[if_pos (by omega),if_pos c1,if_pos c1]at h1
   have:=RepL.get hr j
   rw[h1]at this
   simp only[Array.getElem?_toList,aq,Option.getD_some]at this
   exact this
  ·by_cases c2:j<off+(ev γ y).cells.length
   ·rw[if_pos (by omega)]at aq
    rw[if_pos (by omega),if_neg c1]at h1
    have:=RepL.get aH (j-off)
    rw[h1,aq]at this
    exact this
   ·rw[if_neg (by omega)]at aq
    rw[if_neg (by omega)]at h1
    have:=RepL.get hr j
    rw[show off+(ev γ y).cells.length+(j-(off+(ev γ y).cells.length))=j by omega]at h1
    rw[h1]at this
    simp only[Array.getElem?_toList,aq,Option.getD_some]at this
    exact this
 refine⟨w',?_,hs.setObj hi hb ar ⟨vs,ah⟩⟩
 simp only[aD,Instr.storeAt,Instr.sureAddr,storeVar,Sem.run_bind,Sem.run_pure,Result.andThen_ok,Ay (ht T) (Ae hk)]
 rw[if_neg (by omega)]
 have aJ:=Bw (P:=P) (a.eval y).cells.toList 0 w vs ah (CJ aH hf) (by simp;omega) (o:=off)
 rw[aJ]
 simp only[Result.andThen_ok,Nat.add_zero]
 by_cases he:(a.eval y).cells.toList=[]
 ·rw[if_pos he]
  have aR:w'=w:=by
   show setB w b' (.cells (Ba vs off (a.eval y).cells.toList) ty' (0,0))=w
   rw[he]
   obtain⟨aX,ba⟩:=Array.getElem?_eq_some_iff.1 ah
   have e:w.heap.setIfInBounds b' (.cells vs ty' (0,0))=w.heap:=by
    apply Array.ext (by simp);intro k h1 h2;by_cases hk:b'=k
    ·subst hk;simp[ba]
    ·rw[Array.getElem_setIfInBounds_ne _ hk]
   show { w with heap:=w.heap.setIfInBounds b' (.cells vs ty' (0,0)) }=w
   rw[e]
  rw[aR]
 ·rw[if_neg he]
theorem K8{T i off:Nat}{x y:Operand}{ds:List D}{ty:TypeId}{pos:String}{after:Array Edge}{guard:Option (Nat×Bool)}(hw:Ax ops γ ⟨none,.store T x y,ty,pos,after,guard⟩=some true)(hk:A1 (tab T).k=false)(hx:ev γ x=.ptr i off)(hi:O i=some (.cells ds))
  (aa:(ev γ y).told=true) (hl:(ev γ y).cells.length=(tab T).size) (hf:BC (ev γ y).cells=true) (aA:off+(ev γ y).cells.length<=ds.length)
  (h:DOps P ro n ops Q rest ⟨γ,O.set i (.cells (ds.take off++(ev γ y).cells++ds.drop (off+(ev γ y).cells.length))),df⟩) :
  DOps P ro n ops Q (⟨none,.store T x y,ty,pos,after,guard⟩::rest) ⟨γ,O,df⟩:=by
 refine Ep (d:=.any) (U':=O.set i (.cells (ds.take off++(ev γ y).cells++ds.drop (off+(ev γ y).cells.length)))) hw (fun c e=>by cases e) (Aa fun c e=>by cases e) ?_ rfl h
 intro g w a hs hT
 obtain⟨w',h1,h2⟩:=Lo ht hs hT hk hx hi aa hl hf aA
 exact⟨g,w',undef,.inr ⟨by simp only[execOp,Sem.run_bind,h1,Result.andThen_ok];rfl,rfl⟩,.refl g,h2,trivial⟩
omit ht in
theorem Li{i t:Nat}{ds:List D}(hi:O i=some (.cells ds))(hg:getD γ t=.ptr i 0):Wk P n ⟨γ,O,df⟩ ⟨(t,.cptr ds 0)::γ,O.del i,df⟩:=by
 intro g w a hs
 have ak:=hs.sim
 obtain⟨b,vs,ty,hb,ah,hr⟩:=hs.sim.obj i _ hi
 have ag:blk g O i=some b:=by simp[blk,hi,hb]
 have ai:=hs.sim.free i b ag
 have aG:∀o,g.imm b o=none:=ai.2 fun o ho=>by change O i=some o at ho;rw[hi]at ho;cases ho;rfl
 have au:g.le (g.addImm b vs.toList):=
  {imm:=fun c o v h=>by
    simp only[G.addImm]
    by_cases hc:c=b
    ·rw[hc,aG o]at h;cases h
    ·rw[if_neg hc];exact h
   rho:=fun _ _ h=>h,hist:=fun _ _ _ h=>h,keep:=fun _ _ h=>h,io:=rfl }
 have ae:∀j c,blk (g.addImm b vs.toList) (O.del i) j=some c->j≠i/\blk g O j=some c:=by
  intro j c h
  by_cases hj:j=i
  ·subst hj;simp[blk,Sig.del]at h
  ·refine⟨hj,?_⟩
   unfold blk at h⊢
   simp only[Sig.del,hj,if_false]at h
   exact h
 refine⟨g.addImm b vs.toList,au,⟨?_,⟨hs.tmps.1,fun k=>?_⟩,hs.df.mono au⟩⟩
 ·exact {
   imm:=fun c o v h=>by
    simp only[G.addImm]at h
    by_cases hc:c=b
    ·rw[if_pos hc]at h
     subst hc
     simp only[World.cell?, ah]
     simpa using h
    ·rw[if_neg hc]at h;exact ak.imm c o v h
   keep:=ak.keep
   obj:=fun j o h=>by
    have hj:j≠i:=fun e=>by rw[e]at h;simp[Sig.del]at h
    simp only[Sig.del,hj,if_false]at h
    refine(ak.obj j o h).mono au ?_
    intro sz m c o' cap e1 e2 e3 k _ hk
    simp only[G.addImm]
    by_cases hc:c=b
    ·exfalso
     subst hc
     exact hj (ak.inj j i c (by rw[e1]at h;simp[blk,h,e2]) ag)
    ·rw[if_neg hc];exact hk
   inj:=fun j k c h1 h2=>ak.inj j k c (ae j c h1).2 (ae k c h2).2
   free:=fun j c h=>by
    obtain⟨hj,h'⟩:=ae j c h
    obtain⟨h1,h2⟩:=ak.free j c h'
    refine⟨h1,fun hh o=>?_⟩
    have hc:c≠b:=fun e=>hj (ak.inj j i b (e ▸ h') ag)
    simp only[G.addImm];rw[if_neg hc]
    exact h2 (fun x hx=>hh x (by simp only[Sig.del,hj,if_false];exact hx)) o
   htop:=fun j sz n k h hk=>by
    have hj:j≠i:=fun e=>by rw[e]at h;simp[Sig.del]at h
    simp only[Sig.del,hj,if_false]at h
    exact ak.htop j sz n k h hk
   hdom:=ak.hdom
   io:=ak.io
   tab:=ak.tab
   fin:=ak.fin }
 ·rw[A6]
  by_cases hk:k=t
  ·rw[if_pos hk,hk]
   have:=hs.tmps.2 t
   rw[hg]at this
   obtain⟨b',ax,hv⟩:=this
   obtain rfl:b'=b:=by rw[hb]at ax;cases ax;rfl
   exact⟨b',0,by simpa using hv,FJ hr au⟩
  ·rw[if_neg hk];exact Rep.mono au _ (hs.tmps.2 k)
omit ht in
theorem C4{l:List Oper}{s s':St}(h:Wk P n s s')(k:DOps P ro n ops Q l s'):DOps P ro n ops Q l s:=fun g w a r hr hs=>
 let ⟨g',l',aS⟩:=h g w a hs
 AE l' _ (k g' w a r (hr.mono l') aS)
theorem Nw{t T:Nat}{x:Operand}{ty ty':TypeId}{pos pos':String}{after after':Array Edge}(hk:A1 (tab T).k=false)(ay:t<n)(hx:x≠.tmp t)
  (aa:(ev γ x).told=true) (hl:(ev γ x).cells.length=(tab T).size) (hf:BC (ev γ x).cells=true)
  (h:DOps P ro n ops Q rest ⟨(t,.cptr (ev γ x).cells 0)::γ,O,df⟩) :
  DOps P ro n ops Q (⟨some t,.alloc T,ty,pos,after,none⟩::⟨none,.store T (.tmp t) x,ty',pos',after',none⟩::rest) ⟨γ,O,df⟩:=by
 refine E0 ht hk ay fun i hi=>?_
 have aB:ev ((t,.ptr i 0)::γ) x=ev γ x:=by
  cases x with
  |tmp k=>simp only[ev,A6];rw[if_neg fun e=>hx (by rw[e])]
  |_=>rfl
 have hz:(tab T).zero.length=(tab T).size:=by
  obtain⟨_,_,_,_,_,_,_,_,_,_,h8,_⟩:=BJ (ht T) (Ae hk)
  exact h8
 refine K8 ht rfl hk (x:=.tmp t) (i:=i) (off:=0) (by simp[ev,A6]) (w6 ..) (by rw[aB];exact aa) (by rw[aB];exact hl) (by rw[aB];exact hf) (by rw[aB];omega) ?_
 rw[aB]
 refine C4 (Li (i:=i) (t:=t) (w6 ..) (by simp[A6])) ?_
 have e1:(tab T).zero.take 0++(ev γ x).cells++(tab T).zero.drop (0+(ev γ x).cells.length)=(ev γ x).cells:=by
  rw[List.drop_of_length_le (by omega)];simp
 rw[w8,Sig.set_del _ _ hi,e1]
 refine C0 (γ:=(t,.cptr (ev γ x).cells 0)::γ) (fun k=>?_) h
 simp only[A6]
 split<;>rfl
end
theorem RepL.split{g:G}: ∀{a b:List D}{vs:List Value},RepL g (a++b) vs->∃u v,vs=u++v/\RepL g a u/\RepL g b v
 |[],b,vs,h=>⟨[],vs,rfl,rfl,h⟩
 |d::a,b,vs,⟨v,r,e,h1,h2⟩=>by
  obtain⟨u,t,e2,h3,h4⟩:=RepL.split h2
  exact⟨v::u,t,by rw[e,e2];rfl,⟨v,u,rfl,h1,h3⟩,h4⟩
theorem RepL.append{g:G}: ∀{a b:List D}{u v:List Value},RepL g a u->RepL g b v->RepL g (a++b) (u++v)
 |[],b,u,v,h1,h2=>by cases h1;exact h2
 |d::a,b,_,v,⟨x,r,e,h1,h3⟩,h2=>⟨x,r++v,by rw[e];rfl,h1,RepL.append h3 h2⟩
theorem RepE.values{g:G}{b sz:Nat}: ∀{es:List (List D)}{o:Nat},RepE g b sz o es->∃vs,RepL g es.flatten vs/\vs.length=es.length*sz /\ ∀j v,vs[j]? = some v->g.imm b (o+j)=some v
 |[],_,_=>⟨[],rfl,by simp,fun j v h=>by simp at h⟩
 | e::es,o,⟨⟨h1,h2⟩,h3⟩=>by
  obtain⟨us,r1,hu⟩:=h2.values
  obtain⟨vs,r2,hl,hv⟩:=RepE.values h3
  have aI:=RepL.length r1
  refine⟨us++vs,by simpa using r1.append r2,by simp[hl,aI,h1,Nat.add_mul,Nat.add_comm],fun j v h=>?_⟩
  rw[List.getElem?_append]at h
  split at h
  ·exact hu j v h
  ·rename_i hj
   have:=hv _ _ h
   rw[aI,h1]at this hj
   rwa [show o+sz+(j-sz)=o+j by omega]at this
theorem Ic{g:G}{b sz:Nat}: ∀{es:List (List D)}{o:Nat}{vs:List Value},(∀e∈es,e.length=sz)->RepL g es.flatten vs->(∀j v,vs[j]? = some v->g.imm b (o+j)=some v)->RepE g b sz o es
 |[],_,_,_,_,_=>trivial
 | e::es,o,vs,hl,hr,hv=>by
  rw[List.flatten_cons]at hr
  obtain⟨u,v,rfl,h1,h2⟩:=hr.split
  have aI:=RepL.length h1
  have bc:=hl e (by simp)
  refine⟨⟨bc,N9 h1 fun j x hx=>hv j x ?_⟩,Ic (fun e he=>hl e (by simp[he])) h2 fun j x hx=>?_⟩
  ·have:j<u.length:=(List.getElem?_eq_some_iff.1 hx).1
   rw[List.getElem?_append_left this];exact hx
  ·have:=hv (sz+j) x (by rw[List.getElem?_append_right (by omega)];rwa [show sz+j-u.length=j by omega])
   rwa [show o+sz+j=o+(sz+j) by omega]
theorem RepE.append{g:G}{b sz:Nat}: ∀{es fs:List (List D)}{o:Nat},RepE g b sz o es->RepE g b sz (o+es.length*sz) fs->RepE g b sz o (es++fs)
 |[],fs,o,_,h=>by simpa using h
 |e::es,fs,o,⟨h1,h2⟩,h=>by
  refine⟨h1,RepE.append h2 ?_⟩
  rwa [show o+sz+es.length*sz=o+(e::es).length*sz by simp[Nat.add_mul];omega]
theorem RepE.size{g:G}{b sz sz':Nat}{es:List (List D)}{o:Nat}(h:RepE g b sz o es)(hne:es≠[])(hl:∀e∈es,e.length=sz'):sz=sz':=by
 cases es with
 |nil=>exact absurd rfl hne
 |cons e es=>rw[<-h.1.1];exact hl e (by simp)
theorem ObjRep.other{P:Program}{g:G}{O:Sig}{w w':World}{i b:Nat}{d:DObj}(hU:O i=some d)(hne:blk g O i≠some b)(key:∀k x,w.heap[k]? = some x->k≠b->w'.heap[k]? = some x)(h:ObjRep P g w i d):ObjRep P g w' i d:=by
 cases d with
 |cells ds=>
  obtain⟨k,vs,ty,h1,h2,h3⟩:=h
  exact⟨k,vs,ty,h1,key k _ h2 (fun e=>hne (by simp[blk,hU,h1,e])),h3⟩
 |tcells ty ds=>
  obtain⟨k,vs,h1,h2,h3⟩:=h
  exact⟨k,vs,h1,key k _ h2 (fun e=>hne (by simp[blk,hU,h1,e])),h3⟩
 |mcells ds=>
  obtain⟨k,vs,ty,h1,h2,h3⟩:=h
  exact⟨k,vs,ty,h1,key k _ h2 (fun e=>hne (by simp[blk,hU,h1,e])),h3⟩
 |map l=>
  obtain⟨k,vs,ty,h1,h2,h3⟩:=h
  exact⟨k,vs,ty,h1,key k _ h2 (fun e=>hne (by simp[blk,hU,h1,e])),h3⟩
 |tail sz n=>
  rcases h with h|⟨k,o',cap,vs,ty,h1,h2,h3,h4,h5⟩
  ·exact .inl h
  ·exact .inr ⟨k,o',cap,vs,ty,h1,h2,key k _ h3 (fun e=>hne (by simp[blk,hU,h1,e])),h4,h5⟩
 |loop st pe ps az bo n γ did=>
  obtain⟨k,db,fn,tmps,h1,h2,h3,h4,h5⟩:=h
  exact⟨k,db,fn,tmps,h1,h2,h3,h4,key k _ h5 (fun e=>hne (by simp[blk,hU,h1,e]))⟩
 |defs=>
  obtain⟨k,h1,h2⟩:=h
  exact⟨k,h1,key k _ h2 (fun e=>hne (by simp[blk,hU,h1,e]))⟩
 |iter l la=>
  obtain⟨k,h1,h2⟩:=h
  exact⟨k,h1,h2.imp (fun ⟨a,c,d⟩=>⟨a,c,key k _ d (fun e=>hne (by simp[blk,hU,h1,e]))⟩) (fun ⟨mb,es,c,seen,e1,r⟩=>⟨mb,es,c,seen,key k _ e1 (fun e=>hne (by simp[blk,hU,h1,e])),r⟩)⟩
def G.put(g:G)(i b start k:Nat)(vs:List Value)(v:Value):G where
 imm b' o:=if b'=b/\start<=o/\o<start+vs.length then vs[o-start]? else g.imm b' o
 rho j:=if j=i then some ((g.rho i).getD 0) else g.rho j
 hist j m:=if j=i/\m=k then some v else g.hist j m
 keep:=g.keep
 io:=g.io
def Grows(g:G)(O:Sig)(i k:Nat):Prop:=(g.rho i=none/\O i=none) \/ ∃sz n,O i=some (.tail sz n)/\n<k
section
variable {P:Program}{g:G}{O:Sig}{w w':World}{i b start k:Nat}{vs:List Value}{v:Value}
theorem Grows.none(hs:Sim P g O w)(h:Grows g O i k): ∀m,k<=m->g.hist i m=none:=by
 intro m hm
 rcases h with⟨h,_⟩|⟨sz,n,h,hn⟩
 ·cases hh:g.hist i m with
  |none=>rfl
  |some x=>have:=hs.hdom i m x hh;rw[h]at this;cases this
 ·exact hs.htop i sz n m h (by omega)
theorem G.put_le(hs:Sim P g O w)(hg:Grows g O i k)(h0:∀j,start<=j->g.imm b j=none):g.le (g.put i b start k vs v) where
 imm:=fun c o x h=>by
  simp only[G.put]
  rw[if_neg];exact h
  rintro⟨rfl,h1,_⟩
  rw[h0 o h1]at h;cases h
 rho:=fun j c h=>by
  simp only[G.put]
  by_cases hj:j=i
  ·subst hj;rw[if_pos rfl,h];rfl
  ·rw[if_neg hj];exact h
 hist:=fun j m x h=>by
  simp only[G.put]
  rw[if_neg];exact h
  rintro⟨rfl,rfl⟩
  rw[hg.none hs _ (Nat.le_refl _)]at h;cases h
 keep:=fun _ _ h=>h
 io:=rfl
theorem MF{w w':World}{a:Addr}{x:Value}{b:Nat}(hn:a.block≠b)(key:∀k x,w.heap[k]? = some x->k≠b->w'.heap[k]? = some x)(h:w.cell? a=some x):w'.cell? a=some x:=by
 unfold World.cell? at h⊢
 cases hh:w.heap[a.block]? with
 |none=>rw[hh]at h;cases h
 |some o=>rw[hh]at h;rw[key _ _ hh hn];exact h
theorem Sim.put{sz o cap:Nat}{cs:Array Value}{ty:TypeId}(hs:Sim P g O w)(hg:Grows g O i k)(h0:∀j,start<=j->g.imm b j=none)
  (key:∀c x,w.heap[c]? = some x->c≠b->w'.heap[c]? = some x) (hb:w'.heap[b]? = some (.cells cs ty (0,0)))
  (aK:∀o x,g.imm b o=some x->cs[o]? = some x) (ar:∀j x,vs[j]? = some x->cs[start+j]? = some x) (hlen:start+vs.length=o+k*sz) (hsz:o+cap*sz<=cs.size)
  (ap:g.keep b=none) (aj:∀j,blk g O j=some b->j=i) (hv:v=.slice (some ⟨b,o,none⟩) k cap) (aL:k<=cap) (aZ:(w'.os,w'.output)=(w.os,w.output)) :
  Sim P (g.put i b start k vs v) (O.set i (.tail sz k)) w':=by
 have au:=G.put_le (vs:=vs) (v:=v) hs hg h0
 have ag:∀j c,blk (g.put i b start k vs v) (O.set i (.tail sz k)) j=some c->(j=i/\c=b)\/(j≠i/\blk g O j=some c):=by
  intro j c h
  by_cases hj:j=i
  ·subst hj
   simp only[blk,w6,G.put,and_self,if_true,hv,Option.some.injEq]at h
   exact .inl ⟨rfl,h.symm⟩
  ·refine .inr ⟨hj,?_⟩
   unfold blk at h⊢
   rw[w7 _ _ hj]at h
   simp only[G.put,hj,false_and,if_false]at h
   exact h
 have aw:∀c o,c≠b->(g.put i b start k vs v).imm c o=g.imm c o:=by
  intro c o hc
  simp only[G.put,hc,false_and,if_false]
 exact {
  imm:=fun c o x h=>by
   by_cases hc:c=b
   ·subst hc
    unfold World.cell?
    simp only[hb]
    simp only[G.put,true_and]at h
    split at h
    ·rename_i hr
     have:=ar _ _ h
     rw[show start+(o-start)=o by omega]at this
     simpa using this
    ·simpa using aK _ _ h
   ·rw[aw c o hc]at h
    exact MF (by simpa using hc) key (hs.imm c o x h)
  keep:=fun c x h=>key c x (hs.keep c x h) (fun e=>by rw[e]at h;simp only[G.put]at h;rw[ap]at h;cases h)
  obj:=fun j d h=>by
   by_cases hj:j=i
   ·subst hj
    rw[w6]at h;cases h
    refine .inr ⟨b,o,cap,cs,ty,?_,aL,hb,hsz,fun j hj=>?_⟩
    ·simp only[G.put,and_self,if_true,hv]
    ·simp only[G.put]
     rw[if_neg (by omega)]
     exact h0 j (by
      have:=Nat.le_add_right start vs.length
      omega)
   ·rw[w7 _ _ hj]at h
    have hne:blk g O j≠some b:=fun e=>hj (aj j e)
    refine((hs.obj j d h).mono au ?_).other (O:=O) (b:=b) h ?_ key
    ·intro sz' n' b' o' cap' e1 e2 _ j' _ aV
     rw[aw];exact aV
     rintro rfl
     exact hne (by simp[blk,h,e1,e2])
    ·have e:blk (g.put i b start k vs v) O j=blk g O j:=by
      unfold blk
      simp only[G.put,hj,false_and,if_false]
     rw[e];exact hne
  inj:=fun j l c h1 h2=>by
   rcases ag j c h1 with⟨a1,a2⟩|⟨a1,a2⟩<;>rcases ag l c h2 with⟨b1,b2⟩|⟨b1,b2⟩
   ·rw[a1,b1]
   ·exact absurd (aj l (a2 ▸ b2)) b1
   ·exact absurd (aj j (b2 ▸ a2)) a1
   ·exact hs.inj j l c a2 b2
  free:=fun j c h=>by
   rcases ag j c h with⟨rfl,rfl⟩|⟨hj,h'⟩
   ·exact⟨ap,fun hh=>by have:=hh _ (w6 ..);cases this⟩
   ·obtain⟨h1,h2⟩:=hs.free j c h'
    refine⟨h1,fun hh o=>?_⟩
    rw[aw c o (fun e=>hj (aj j (e ▸ h')))]
    exact h2 (fun x hx=>hh x (by rw[w7 _ _ hj];exact hx)) o
  htop:=fun j sz' n m h hm=>by
   simp only[G.put]
   by_cases hj:j=i
   ·subst hj
    rw[w6]at h;cases h
    rw[if_neg (by omega)]
    exact hg.none hs m (by omega)
   ·rw[w7 _ _ hj]at h
    simp only[hj,false_and,if_false]
    exact hs.htop j sz' n m h hm
  hdom:=fun j m x h=>by
   simp only[G.put]at h⊢
   by_cases hj:j=i
   ·subst hj;simp
   ·simp only[hj,false_and,if_false]at h⊢
    exact hs.hdom j m x h
  io:=aZ.trans hs.io
  tab:=hs.tab
  fin:=by
   obtain⟨m,hm⟩:=hs.fin
   refine⟨max m (i+1),fun j hj=>?_⟩
   simp only[G.put]
   rw[if_neg (by omega)]
   exact hm j (by omega) }
end
end Go.DL
