/- A part of the proof. -/
import Derived.Test.YtlfimpogphmbdaaGreatM08
import Derived.RangeFuncLeaves
set_option linter.all false
namespace Go.DL
open Go
def PB(P:Program)(l:Nat)(R:Ending->World->Prop):Exit->Act->World->Prop
 |.normal,_,w=> ∃v w',(Instr.endRound l none).run P w=.ok v w'/\R (.returned v) w'
 |.ret,_,w=> ∃v w',(Instr.endRound l (some .ret)).run P w=.ok v w'/\R (.returned v) w'
 |.exit id,_,w=> ∃v w',(Instr.endRound l (some (.exit id))).run P w=.ok v w'/\R (.returned v) w'
 |.panic chain,a,w=>a.defers=[]/\R (.panicked chain) w
 |_,_,_=>False
theorem Ho{F:Fence}{n:Nat}{P:Program}{l:Nat}{f:FuncId}{tmps:Array Value}{assign body:Code}{w:World}{R:Ending->World->Prop}(hF:F.fn f)(hlt:f<P.funcs.size)
  (h:assign.wpIn (F.inRound l) n P (Exit.then (fun a₁ w₁ => ∃ w₂,(Instr.beginRound l).run P w₁ = .ok () w₂/\body.wpIn (F.inRound l) n P (PB P l R) a₁ w₂) (fun _ _ _=>False))
   {tmps:=tmps,defers:=[] } w) :
  RoundIn F n P l f tmps assign body w R:=by
 refine⟨hF,fun c cs hr=>?_⟩
 let b:Frame:={ (default:Frame)with fn:=f,kind:=.normal,roundOf:=some l }
 have hb0:Frame.round l f tmps assign body .normal=b.atR { tmps:=tmps,defers:=[] } [.code assign,.beginRound,.code body]:=by
  simp[Frame.round,Frame.atR,b]
 have hr':(F.inRound l).room ((c::cs).length+1+n):=hr;have hF':(F.inRound l).fn b.fn:=hF;obtain⟨e,a₁,w₁,hq,harr⟩:=h b [.beginRound,.code body] (c::cs) rfl hF' hr';rw[<-hb0]at harr;cases e with
 | normal =>
  obtain⟨w₂,hbr,hbody⟩:=hq
  have s1:StepsIn (Machine.fenced P (F.inRound l)) P (lone (b.atR a₁ [.beginRound,.code body]) (c::cs) w₁) (lone (b.atR a₁ [.code body]) (c::cs) w₂):=
   .one (fenced_calm (fr:=b.atR a₁ [.beginRound,.code body]) hF' hr' rfl) (stepR_beginRound rfl hbr)
  obtain⟨e₂,a₂,w₃,hq₂,harr₂⟩:=hbody b [] (c::cs) rfl hF' hr';cases e₂ with
  |normal=>
   obtain⟨v,w₄,hend,hR⟩:=hq₂;exact⟨.returned v,w₄,hR,(StepsIn.trans harr s1).trans (StepsIn.trans harr₂ (.one (fenced_calm (fr:=b.atR a₂ []) hF' hr' rfl) (stepR_round_end rfl rfl hend)))⟩
  |ret=>
   obtain⟨v,w₄,hend,hR⟩:=hq₂;obtain⟨k₁,hs⟩:=harr₂.2 rfl;exact⟨.returned v,w₄,hR,(StepsIn.trans harr s1).trans (StepsIn.trans hs (.one (fenced_calm (fr:=b.atR a₂ (.code .ret::k₁)) hF' hr' rfl) (stepR_round_ret rfl rfl hend)))⟩
  |exit id=>
   obtain⟨v,w₄,hend,hR⟩:=hq₂;obtain⟨k₁,hk,hs⟩:=harr₂.2 rfl rfl;exact⟨.returned v,w₄,hR,(StepsIn.trans harr s1).trans (StepsIn.trans hs (.one (fenced_calm (fr:=b.atR a₂ (.code (.exit id)::k₁)) hF' hr' rfl) (stepR_round_exit rfl rfl hk hend)))⟩
  |panic chain=>
   obtain⟨hd,hR⟩:=hq₂;obtain⟨todo,hs⟩:=harr₂;have hl:({ b.atR a₂ todo with mode:=.panicking chain }:Frame).leaving P w₃ (.panicked chain):=⟨rfl,hd,_,Array.getElem?_eq_getElem hlt⟩;exact⟨.panicked chain,w₃,hR,(StepsIn.trans harr s1).trans (StepsIn.trans hs (.one (fenced_leaving (n:=n) hF' hr' hl) (step_leave_panicked hl)))⟩
  |goto t=>exact hq₂.elim
  |outgrown=>exact hq₂.elim
 |exit id=>exact hq.elim
 |goto t=>exact hq.elim
 |ret=>exact hq.elim
 |panic chain=>exact hq.elim
 |outgrown=>exact hq.elim
structure DYield(P:Program)(l:Nat)(args:List D)(V:Sig)(R:DE->Sig->Prop):Prop where
 run:∀g w vs,Sim P g V w->RepL g args vs->∃b fn tmps asg body,g.rho l=some b/\(Instr.yield b vs.toArray).run P w=.ok (.round b fn tmps asg body) w /\ ∀r,RoundIn (FX P r) 0 P b fn tmps asg body w (O7 P g R)
theorem DYield.mono{P:Program}{l:Nat}{args:List D}{V:Sig}{R R':DE->Sig->Prop}(h:DYield P l args V R)(hr:∀x S',R x S'->R' x S'):DYield P l args V R':=
 ⟨fun g w vs hs ha=>let ⟨b,fn,t,a,c,h1,h2,h3⟩:=h.run g w vs hs ha;⟨b,fn,t,a,c,h1,h2,fun r=>(h3 r).mono fun _ _ ⟨g',x,S',k1,k2,k3,k4⟩=>⟨g',x,S',k1,k2,k3,hr _ _ k4⟩⟩⟩
def Pm:List Nat->List D->Fr->Fr
 |p::ps,d::ds,γ=>Pm ps ds ((p,d)::γ)
 |_,_,γ=>γ
theorem LI{g:G}{n:Nat}: ∀{ps:List Nat}{ds:List D}{vs:List Value}{γ:Fr}{tmps:Array Value},RepT g γ n tmps->RepL g ds vs->ps.length=ds.length->(∀p∈ps,p<n)->
  RepT g (Pm ps ds γ) n ((ps.zip vs).foldl (fun t (x:Nat×Value)=>t.setIfInBounds x.1 x.2) tmps)
 |[],[],_,_,_,h,_,_,_=>h
 |[],_::_,_,_,_,_,_,hl,_=>by simp at hl
 |_::_,[],_,_,_,_,_,hl,_=>by simp at hl
 |p::ps,d::ds,_,γ,tmps,h,⟨v,r,e,h1,h2⟩,hl,hp=>by
  subst e;have : RepT g ((p, d) :: γ) n (tmps.setIfInBounds p v) := RepT.put (o := ⟨some p, .move (.tmp 0), 0, "", #[], none⟩) (a := { tmps := tmps, defers := [] }) h h1 (by simp [As, hp p (by simp)]);exact LI (ps:=ps) (ds:=ds) (γ:=(p,d)::γ) (tmps:=tmps.setIfInBounds p v) this h2 (by simpa using hl) (fun q hq=>hp q (by simp[hq]))
section
variable {P:Program}{ro:Option Nat}{n:Nat}{ops:Array Oper}{Q:DX->St->Prop}{rest:List Oper}{γ:List (Nat×D)}{V:Sig}{df:List DDf}
theorem Kc{fop:Operand}{args:Array Operand}{ats:Array TypeId}{dst:Option Tmp}{ty:TypeId}{pos:String}{after:Array Edge}{guard:Option (Nat×Bool)}{l:Nat}{R:DE->Sig->Prop}
  (hw:AB ops γ ⟨dst,(cv fop args ats),ty,pos,after,guard⟩=some true)
  (hf:ev γ fop=.yld l) (h:DYield P l (args.toList.map (ev γ)) V R)
  (ho:As n ⟨dst,(cv fop args ats),ty,pos,after,guard⟩=true)
  (hret:∀d S',R (.ret d) S'->DOps P ro n ops Q rest ⟨putD dst d γ,S',df⟩)
  (hpan:∀d S',R (.panic d) S'->Q (.panic d) ⟨γ,S',df⟩) :
  DOps P ro n ops Q (⟨dst,(cv fop args ats),ty,pos,after,guard⟩::rest) ⟨γ,V,df⟩:=by
 intro g w a r hr hs;unfold wpListIn;rw[Az hs.tmps hw,if_pos rfl];have hfv:=Ao hs.tmps fop;rw[hf]at hfv;obtain⟨b,hb,hfv⟩:=hfv
 have hres:(resolve a.eval { callee:=.value fop,args,argTypes:=ats } ty).run P w=.ok { target:=.fn (.yield b) #[],args:=args.map a.eval } w:=by
  simp[resolve,hfv,Deferred.ofValue,Sem.run]
 refine⟨fun f' hf'=>?_,?_⟩
 ·simp only[Oper.about,hres,Target.leads]at hf';cases hf'
 ·rw[Oper.semAt_eq _ _ _ (fun c e=>by cases e)];obtain⟨b',fn,tmps,asg,body,h1,h2,h3⟩:=h.run g w _ hs.sim (D4 hs.tmps args.toList);obtain rfl:b'=b:=by rw[hb]at h1;cases h1;rfl
  have hrun:(execOp a.eval ⟨dst,(cv fop args ats),ty,pos,after,guard⟩).run P w=.ok (.round b' fn tmps asg body) w:=by
   have e:(args.toList.map a.eval).toArray=args.map a.eval:=Array.ext' (by simp);rw[e]at h2;simp only[execOp,Sem.run_bind,hres,Result.andThen_ok,invoke,h2]
  rw[hrun];refine⟨fun h=>(by cases h),?_⟩;refine(h3 r).mono ?_
  rintro e w' ⟨g',x,S',k1,k2,k3,k4⟩
  cases x with
  |ret d=>
   obtain⟨v,rfl,h5⟩:=k3;exact At k1 _ (hret d S' k4 g' w' _ r (hr.mono k1) (hs.put (o:=⟨dst,(cv fop args ats),ty,pos,after,guard⟩) k1 k2 h5 ho))
  |panic d=>
   obtain⟨v,rfl,h5⟩:=k3;exact⟨g',⟨γ,S',df⟩,.panic d,k1,⟨k2,hs.tmps.mono k1,hs.df.mono k1⟩,⟨v,rfl,h5⟩,hpan d S' k4⟩
end
theorem Sim.setLoop{P:Program}{g:G}{V:Sig}{w:World}(hs:Sim P g V w){l:Nat}{st st':LoopState}{pe pe':Option Code}{ps:Array Tmp}{asg body:Code}{n:Nat}{γ:Fr}{did:Nat}(hU:V l=some (.loop st pe ps asg body n γ did)):
  ∃b r,g.rho l=some b/\(Instr.getLoop b).run P w=.ok r w/\r.state=st/\r.pending=pe/\r.params=ps/\r.assign=asg/\r.body=body/\RepT g γ n r.tmps/\r.fn<P.funcs.size /\
   ∃w',(Go.setObj b (.loop { r with state:=st',pending:=pe' })).run P w=.ok () w'/\Sim P g (V.set l (.loop st' pe' ps asg body n γ did)) w':=by
 obtain⟨b,db,fn,tmps,h1,h2,h3,h4,h5⟩:=hs.obj _ _ hU;refine⟨b,{ state:=st,pending:=pe,fn,tmps,params:=ps,assign:=asg,body,defers:=db },h1,?_,rfl,rfl,rfl,rfl,rfl,h4,h3,setB w b (.loop { state:=st',pending:=pe',fn,tmps,params:=ps,assign:=asg,body,defers:=db }),?_,?_⟩
 ·simp[Instr.getLoop,getObj,Sem.run,h5]
 ·simp[Go.setObj,Sem.run,h5,setB]
 ·exact hs.setAny hU rfl rfl h1 h5 ⟨b,db,fn,tmps,h1,h2,h3,h4,Cw h5⟩
def Vl(l:Nat)(ps:Array Tmp)(asg body:Code)(n:Nat)(Sl:Fr)(did:Nat)(R:DE->Sig->Prop):DX->St->Prop
 |.normal,s=>s.V l=some (.loop .busy none ps asg body n Sl did)/\R (.ret (.bool true)) (s.V.set l (.loop .ready none ps asg body n Sl did))
 |.ret,s=>s.V l=some (.loop .busy none ps asg body n Sl did)/\R (.ret (.bool false)) (s.V.set l (.loop .done (some .ret) ps asg body n Sl did))
 |.exit id,s=>s.V l=some (.loop .busy none ps asg body n Sl did)/\R (.ret (.bool false)) (s.V.set l (.loop .done (some (.exit id)) ps asg body n Sl did))
 |.panic d,s=>s.df=[]/\R (.panic d) s.V
theorem Le{P:Program}{l:Nat}{args:List D}{V:Sig}{R:DE->Sig->Prop}{ps:Array Tmp}{asg body:Code}{n:Nat}{Sl:Fr}{did:Nat}(hU:V l=some (.loop .ready none ps asg body n Sl did))
  (hl:ps.toList.length=args.length) (hp:∀p∈ps.toList,p<n)
  (h:DWp P (some l) n asg (Then (fun s=>s.V l=some (.loop .ready none ps asg body n Sl did)/\DWp P (some l) n body (Vl l ps asg body n Sl did R) { s with V:=s.V.set l (.loop .busy none ps asg body n Sl did) }) (fun _ _=>False)) ⟨Pm ps.toList args Sl,V,[]⟩) :
  DYield P l args V R:=by
 refine⟨fun g w vs hs ha=>?_⟩;obtain⟨b,r,h1,h2,e1,e2,e3,e4,e5,h3,h4,_⟩:=hs.setLoop (st':=.busy) (pe':=none) hU;have hsz:vs.length=ps.toList.length:=by rw[RepL.length ha,hl]
 refine⟨b,r.fn,(ps.toList.zip vs).foldl (fun t (x:Nat×Value)=>t.setIfInBounds x.1 x.2) r.tmps,asg,body,h1,?_,fun rr=>?_⟩
 ·unfold Instr.yield;rw[Sem.run_bind,h2,Result.andThen_ok];have hne:¬vs.toArray.size≠r.params.size:=by rw[e3];simpa using hsz
  rw[if_neg hne,e3,e4,e5];rw[Sem.run_pure]
  congr 2
  rw[<-Array.foldl_toList];simp
 ·refine Ho (F:=FX P rr) h4 h4 ?_;have hT:=LI (ps:=ps.toList) h3 ha hl hp;refine wpIn_mono (h g w { tmps:=_,defers:=[] } (some b) ⟨b,rfl,h1⟩ ⟨hs,hT,rfl⟩) ?_
  rintro e a w1 ⟨g1,s1,x,l1,l2,l3,l4⟩
  cases x with
  | normal =>
   obtain rfl:=l3;obtain⟨m1,m2⟩:=l4;obtain⟨b',r',k1,k2,f1,f2,f3,f4,f5,_,_,w2,k3,k4⟩:=l2.sim.setLoop (st':=.busy) (pe':=none) m1;obtain rfl:b'=b:=by rw[l1.rho _ _ h1]at k1;cases k1;rfl
   refine⟨w2,?_,?_⟩
   ·unfold Instr.beginRound;rw[Sem.run_bind,k2,Result.andThen_ok,Sem.run_bind];have er:({ r' with state:=.busy }:Loop)={ r' with state:=.busy,pending:=none }:=by rw[<-f2]
    rw[er,k3,Result.andThen_ok,f1];rfl
   ·refine wpIn_mono (m2 g1 w2 a (some b') ⟨b',rfl,k1⟩ ⟨k4,l2.tmps,l2.df⟩) ?_
    rintro e a' w3 ⟨g2,s2,x,n1,n2,n3,n4⟩
    have fin:∀(jump:Option Code) (st':LoopState) (bv:Bool),st'=(if jump.isNone then .ready else .done)->jump.isNone=bv->s2.V l=some (.loop .busy none ps asg body n Sl did)->R (.ret (.bool bv)) (s2.V.set l (.loop st' jump ps asg body n Sl did))->
      ∃v w',(Instr.endRound b' jump).run P w3=.ok v w'/\O7 P g R (.returned v) w':=by
     intro jump st' bv hst hbv m1 m2;obtain⟨b2,r2,q1,q2,_,_,_,_,_,_,_,w4,q3,q4⟩:=n2.sim.setLoop (st':=st') (pe':=jump) m1;obtain rfl:b2=b':=by rw[n1.rho _ _ k1]at q1;cases q1;rfl
     refine⟨.bool jump.isNone,w4,?_,g2,.ret (.bool bv),_,(l1.trans n1),q4,⟨_,rfl,by rw[hbv];rfl⟩,m2⟩;unfold Instr.endRound;rw[Sem.run_bind,q2,Result.andThen_ok,Sem.run_bind,<-hst,q3,Result.andThen_ok];rfl
    cases x with
    |normal=>obtain rfl:=n3;exact fin none .ready true rfl rfl n4.1 n4.2
    |ret=>obtain rfl:=n3;exact fin (some .ret) .done false rfl rfl n4.1 n4.2
    |exit id=>obtain rfl:=n3;exact fin (some (.exit id)) .done false rfl rfl n4.1 n4.2
    |panic d=>
     obtain⟨v,rfl,hv⟩:=n3;exact⟨ED n2.df n4.1,g2,.panic d,s2.V,l1.trans n1,n2.sim,⟨v,rfl,hv⟩,n4.2⟩
  |exit id=>exact l4.elim
  |ret=>exact l4.elim
  |panic d=>exact l4.elim
section
variable {P:Program}{n:Nat}{Q:DX->St->Prop}{γ:List (Nat×D)}{V:Sig}{df:List DDf}
theorem GN{P:Program}(o:Obj)(w:World):(newObj o).run P w=.ok w.heap.size { w with heap:=w.heap.push o }:=by
 simp[newObj,Sem.run]
theorem Sim.newObj2{g:G}{w:World}(hs:Sim P g V w){ps:Array Tmp}{asg body:Code}{fn:Nat}{tmps:Array Value}(hfn:fn<P.funcs.size)(hT:RepT g γ n tmps):
  ∃did l,V did=none/\V l=none/\l≠did /\ ∃g',g.le g'/\g'.rho l=some (w.heap.size+1)/\g'.rho did=some w.heap.size /\
   Sim P g' ((V.set did .defs).set l (.loop .ready none ps asg body n γ did)) { w with heap:=(w.heap.push (.deferred (some []))).push (.loop { state:=.ready,pending:=none,fn,tmps,params:=ps,assign:=asg,body,defers:=w.heap.size }) }:=by
 obtain⟨did,hd,hd2⟩:=hs.fresh;have h1:=hs.newObj (o:=.deferred (some [])) hd hd2 (d:=.defs) rfl ⟨w.heap.size,by simp[G.bind],by simp⟩;obtain⟨l,hl,hl2⟩:=h1.fresh;have hne:l≠did:=fun e=>by rw[e]at hl;simp[G.bind]at hl
 have hT1:=hT.mono (G.bind_le (b:=w.heap.size) hd)
 have h2:=h1.newObj (o:=.loop { state:=.ready,pending:=none,fn,tmps,params:=ps,assign:=asg,body,defers:=w.heap.size }) hl hl2 (d:=.loop .ready none ps asg body n γ did) rfl
  ⟨w.heap.size+1,w.heap.size,fn,tmps,by simp[G.bind],by simp[G.bind,Ne.symm hne],hfn,hT1.mono (G.bind_le (b:=(w.heap.push (.deferred (some []))).size) hl),by rw[show w.heap.size+1=(w.heap.push (.deferred (some []))).size by simp];exact Array.getElem?_push_size⟩
 have hr1:((g.bind did w.heap.size).bind l (w.heap.push (.deferred (some []))).size).rho l=some (w.heap.size+1):=by simp[G.bind]
 refine⟨did,l,hd2,?_,hne,_,(G.bind_le hd).trans (G.bind_le hl),hr1,by simp[G.bind,Ne.symm hne],h2⟩
 rwa [w8 _ _ hne]at hl2
theorem Ed{gop:Operand}{ps:Array Tmp}{asg body:Code}{f:Nat}{first cap:List D}{R:Nat->Nat->DE->Sig->Prop}
  (hf:ev γ gop=.func (.func f) first cap)
  (hcall:∀l did,V did=none->V l=none->l≠did->DCall P f (first++[.yld l]++cap) ((V.set did .defs).set l (.loop .ready none ps asg body n γ did)) (R l did))
  (hret : ∀ l did d S',V did=none->V l=none->l ≠ did->R l did (.ret d) S' -> ∃ st pend,S' l=some (.loop st pend ps asg body n γ did)/\st ≠ .busy /\
   (match pend with|none=>Q .normal ⟨γ,S'.del l,.coll did::df⟩|some c=>DWp P none n c Q ⟨γ,S'.del l,.coll did::df⟩))
  (hpan:∀l did d S',V did=none->V l=none->l≠did->R l did (.panic d) S'->Q (.panic d) ⟨γ,S',.coll did::df⟩) :
  DWp P none n (.rangeFunc gop ps asg body) Q ⟨γ,V,df⟩:=by
 intro g w a r hr hs;obtain rfl:r=none:=hr;refine wpIn_rangeFunc fun fn hfn=>?_;obtain⟨did,l,hd,hl,hne,g',hle,hrl,hrd,hsim⟩:=hs.sim.newObj2 (ps:=ps) (asg:=asg) (body:=body) (fn:=fn) hfn hs.tmps;have hc:=hcall l did hd hl hne;have hfv:=Ao hs.tmps gop;rw[show ev (St.mk γ V df).γ gop=.func (.func f) first cap from hf]at hfv;obtain⟨fs,cs,hfv,hr1,hr2⟩:=hfv
 let w1:World:={ w with heap:=(w.heap.push (.deferred (some []))).push (.loop { state:=.ready,pending:=none,fn,tmps:=a.tmps,params:=ps,assign:=asg,body,defers:=w.heap.size }) }
 refine⟨w.heap.size+1,[{ target:=.collected w.heap.size,args:= #[] }],w1,{ target:=.fn (.func f) cs.toArray,args:=fs.toArray ++ #[.func (.yield (w.heap.size+1)) #[] #[]] },w1,f,fs.toArray ++ #[.func (.yield (w.heap.size+1)) #[] #[]]++cs.toArray,w1,?_,?_,?_,?_,(fun h=>by cases h),?_⟩
 ·unfold Instr.enterLoop;simp only[FX,Sem.run_bind,GN,Result.andThen_ok,Sem.run_pure];simp only[Array.size_push];rfl
 ·simp only[resolve,rangeCall];rw[hfv];simp only[Deferred.ofValue];rw[Sem.run_pure];simp[Act.eval]
 ·intro f' hf';simp only[Target.leads,Option.some.injEq]at hf';subst hf';exact hc.lt
 ·exact hc.ent _ _
 ·have hargs:RepL g' (first++[.yld l]++cap) (fs++[Value.func (.yield (w.heap.size+1)) #[] #[]]++cs):=
   ((RepL.mono hle _ hr1).append (show RepL g' [.yld l] [.func (.yield (w.heap.size+1)) #[] #[]] from⟨_,_,rfl,⟨_,hrl,rfl⟩,rfl⟩)).append (RepL.mono hle _ hr2)
  have hrun:=hc.run g' w1 _ hsim hargs;have e:(fs++[Value.func (.yield (w.heap.size+1)) #[] #[]]++cs).toArray=fs.toArray ++ #[Value.func (.yield (w.heap.size+1)) #[] #[]]++cs.toArray:=by simp
  rw[e]at hrun;refine CallsIn.mono hrun ?_
  rintro en w3 ⟨g3,x,S',l1,l2,l3,l4⟩
  cases x with
  |panic d=>
   obtain⟨v,rfl,hv⟩:=l3;exact⟨g3,⟨γ,S',.coll did::df⟩,.panic d,hle.trans l1,⟨l2,(hs.tmps.mono hle).mono l1,⟨_,_,rfl,l1.rho _ _ hrd,(hs.df.mono hle).mono l1⟩⟩,⟨v,rfl,hv⟩,hpan l did d S' hd hl hne l4⟩
  | ret d =>
   obtain⟨v,rfl,hv⟩:=l3;obtain⟨st,pend,k1,k2,k3⟩:=hret l did d S' hd hl hne l4;obtain⟨b,rr,q1,q2,q3,q4,q5,q6,q7,_,_,w4,q8,q9⟩:=l2.setLoop (st':=.exhausted) (pe':=pend) k1;obtain rfl:b=w.heap.size+1:=by rw[l1.rho _ _ hrl]at q1;cases q1;rfl
   have hS:SimS P g3 n ⟨γ,S'.del l,.coll did::df⟩ { a with defers:=[{ target:=.collected w.heap.size,args:= #[] }]++a.defers } w4:=
    ⟨q9.sub (fun j o hj=>by
     by_cases hjl:j=l
     ·subst hjl;simp[Sig.del]at hj
     ·rw[w8 _ _ hjl];simpa[Sig.del,hjl] using hj),(hs.tmps.mono hle).mono l1,⟨_,_,rfl,l1.rho _ _ hrd,(hs.df.mono hle).mono l1⟩⟩
   refine⟨pend,w4,?_,?_⟩
   ·unfold Instr.endLoop;rw[Sem.run_bind,q2,Result.andThen_ok];have hst:(rr.state==LoopState.busy)=false:=by rw[q3];cases st<;>first|rfl|exact absurd rfl k2
    simp only[hst,Bool.false_eq_true,if_false];rw[Sem.run_bind];have er:({ rr with state:=.exhausted }:Loop)={ rr with state:=.exhausted,pending:=pend }:=by rw[<-q4]
    rw[er,q8,Result.andThen_ok,q4];rfl
   ·cases pend with
    |none=>exact⟨g3,_,.normal,hle.trans l1,hS,rfl,k3⟩
    |some c=>exact wpIn_mono (k3 g3 w4 _ none rfl hS) fun _ _ _ p=>p.le (hle.trans l1)
end
theorem Sim.kill{P:Program}{g:G}{V:Sig}{w:World}(hs:Sim P g V w){i b:Nat}{d:DObj}{o x:Obj}(hi:V i=some d)(ht:d.isTail=false)(hb:g.rho i=some b)(hx:w.heap[b]? = some x):Sim P g (V.del i) (setB w b o):=by
 have hblk:blk g V i=some b:=by unfold blk;rw[hi];cases d<;>first|exact hb|(cases ht;done)
 have hfree:=hs.free i b hblk;have hni:∀o,g.imm b o=none:=hfree.2 fun o ho=>by rw[hi]at ho;cases ho;exact ht
 have hdel:∀j o,V.del i j=some o->j≠i/\V j=some o:=fun j o h=>by
  by_cases hj:j=i
  ·subst hj;simp[Sig.del]at h
  ·exact⟨hj,by simpa[Sig.del,hj] using h⟩
 have hsub:=hs.sub (S':=V.del i) fun j o h=>(hdel j o h).2
 exact {
  imm:=fun c o v h=>by
   have hc:c≠b:=fun e=>by rw[e,hni o]at h;cases h
   have:=hs.imm c o v h
   unfold World.cell? at this⊢
   simp only at this⊢
   rw[E0 hc];exact this
  keep:=fun k o h=>by
   have hc:k≠b:=fun e=>by rw[e,hfree.1]at h;cases h
   rw[E0 hc];exact hs.keep k o h
  obj:=fun j o h=>by
   obtain⟨hj,h'⟩:=hdel j o h
   exact(hs.obj j o h').setB h' fun e=>hj (hs.inj j i b e hblk)
  inj:=hsub.inj,free:=hsub.free,htop:=hsub.htop,hdom:=hsub.hdom,fin:=hsub.fin,io:=hsub.io }
def dels(js:List Nat)(V:Sig):Sig:=js.foldl Sig.del V
theorem EL{P:Program}{r:Option Nat}{fn:Func}{tmps:Array Value}{R:Ending->World->Prop}{u:FrameMode}(hu:u≠.run): ∀(js:List Nat) {g:G}{V:Sig}{w:World}{ds:List Deferred},Sim P g V w->RepDf g (js.map .coll) ds->js.Nodup->(∀j∈js,V j=some .defs)->
  (∀w',Sim P g (dels js V) w'->LeavesIn (FX P r) 0 P fn tmps R [] u w')->LeavesInM (FX P r) 0 P fn tmps R ds u w
 |[],g,V,w,ds,hs,hd,_,_,h=>by
  obtain rfl:ds=[]:=hd;exact h w hs
 | j::js,g,V,w,ds,hs,⟨b,rest,hds,hb,hrest⟩,hn,hj,h=>by
  subst hds;obtain⟨b',hb',hh⟩:=hs.obj j _ (hj j (by simp));obtain rfl:b'=b:=by rw[hb]at hb';cases hb';rfl
  refine⟨hu,.inl ⟨b',setB w b' (.deferred none),rfl,?_,EL hu js (hs.kill (hj j (by simp)) rfl hb hh) hrest (List.nodup_cons.1 hn).2 (fun k hk=>?_) h⟩⟩
  ·simp[Instr.takeDeferred,getObj,setObj,Sem.run,hh,setB]
  ·have:k≠j:=fun e=>(List.nodup_cons.1 hn).1 (e ▸ hk);simp only[Sig.del,this,if_false];exact hj k (by simp[hk])
def QG(P:Program)(n:Nat)(fn:Func)(R:DE->Sig->Prop):DX->St->Prop
 |.normal,s|.ret,s=> ∃js,s.df=js.map .coll/\js.Nodup/\(∀j∈js,s.V j=some .defs) /\ ∃d,Ng P n fn ⟨s.γ,dels js s.V,[]⟩ d/\R (.ret d) (dels js s.V)
 |.panic d,s=> ∃js,s.df=js.map .coll/\js.Nodup/\(∀j∈js,s.V j=some .defs)/\R (.panic d) (dels js s.V)
 |.exit _,_=>False
theorem AX{P:Program}{f:Nat}{fn:Func}{c:Code}{args:List D}{V:Sig}{R:DE->Sig->Prop}(hf:P.funcs[f]? = some fn)(hb:fn.body=some c)
  (hnm : (fn.name == "runtime.NumGoroutine") = false) {m : Nat} (hm : fn.ntmps = m) (hn : args.length <= m) (h : DWp P none m c (fun x s => ∃ s', Wk P m s s' /\ QG P m fn (Weak R) x s') { γ := Cb 0 args, V }) : DCall P f args V R := by
 refine H0 ⟨(Array.getElem?_eq_some_iff.1 hf).1,Db hf hnm (by rw[hb];rfl),fun g w vs hs ha=>?_⟩;refine callsIn_of_wp_marks hf hb (by obtain⟨h1,_⟩:=Array.getElem?_eq_some_iff.1 hf;exact h1) ?_ rfl;subst hm;refine wpIn_mono (h g w _ none rfl ⟨hs,F4 ha hn,rfl⟩) ?_
 rintro e a w' ⟨g',s1,x,h1,h2,h3,s2,hwk,h4⟩
 obtain⟨g2,hle2,h2'⟩:=hwk _ _ _ h2;have h1':=h1.trans hle2
 have ret:∀(js:List Nat),s2.df=js.map .coll->js.Nodup->(∀j∈js,s2.V j=some .defs)->(∃d,Ng P fn.ntmps fn ⟨s2.γ,dels js s2.V,[]⟩ d/\Weak R (.ret d) (dels js s2.V))->
   LeavesInM (FX P none) 0 P fn a.tmps (O7 P g (Weak R)) a.defers .returning w':=by
  intro js e1 e2 e3 ⟨d,hr,hR⟩;have hdf:=h2'.df;rw[e1]at hdf;refine EL (by simp) js h2'.sim hdf e2 e3 fun w3 hs3=>?_
  obtain⟨v,hv,hrep⟩:=hr g2 { a with defers:=[] } w3 ⟨hs3,h2'.tmps,rfl⟩;exact⟨v,hv,g2,.ret d,_,h1',hs3,⟨v,rfl,hrep⟩,hR⟩
 cases x with
 |normal=>
  obtain rfl:=h3;obtain⟨js,e1,e2,e3,e4⟩:=h4;exact ret js e1 e2 e3 e4
 |ret=>
  obtain rfl:=h3;obtain⟨js,e1,e2,e3,e4⟩:=h4;exact ret js e1 e2 e3 e4
 |panic d=>
  obtain⟨v,rfl,hrep⟩:=h3;obtain⟨js,e1,e2,e3,hR⟩:=h4;have hdf:=h2'.df;rw[e1]at hdf;refine EL (by simp) js h2'.sim hdf e2 e3 fun w3 hs3=>?_
  exact⟨g2,.panic d,_,h1',hs3,⟨v,rfl,Rep.mono hle2 _ hrep⟩,hR⟩
 |exit i=>exact h4.elim
end Go.DL
