/- A part of the proof. -/
import Derived.Test.YteldimffglchkaaGreatDoorM07
import Derived.RangeFuncLeaves
import Derived.Maps.RangeRun
import Derived.RecoverIn
set_option linter.all false
namespace Go.DL
open Go
def P4(P:Program)(l:Nat)(R:Ending->World->Prop):Exit->Act->World->Prop
 |.normal,_,w=> ∃v w',(Instr.endRound l none).run P w=.ok v w'/\R (.returned v) w'
 |.ret,_,w=> ∃v w',(Instr.endRound l (some .ret)).run P w=.ok v w'/\R (.returned v) w'
 |.exit id,_,w=> ∃v w',(Instr.endRound l (some (.exit id))).run P w=.ok v w'/\R (.returned v) w'
 |.panic chain,a,w=>a.defers=[]/\R (.panicked chain) w
 |_,_,_=>False
theorem Hx{F:Fence}{n:Nat}{P:Program}{l:Nat}{f:FuncId}{tmps:Array Value}{assign body:Code}{w:World}{R:Ending->World->Prop}(hF:F.fn f)(bb:f<P.funcs.size)
  (h:assign.wpIn (F.inRound l) n P (Exit.then (fun a₁ w₁ => ∃ w₂,(Instr.beginRound l).run P w₁ = .ok () w₂/\body.wpIn (F.inRound l) n P (P4 P l R) a₁ w₂) (fun _ _ _=>False))
   {tmps:=tmps,defers:=[] } w) :
  RoundIn F n P l f tmps assign body w R:=by
 refine⟨hF,fun c cs hr=>?_⟩
 let b:Frame:={ (default:Frame)with fn:=f,kind:=.normal,roundOf:=some l }
 have bK:Frame.round l f tmps assign body .normal=b.atR { tmps:=tmps,defers:=[] } [.code assign,.beginRound,.code body]:=by
  simp[Frame.round,Frame.atR,b]
 have aI:(F.inRound l).room ((c::cs).length+1+n):=hr
 have aO:(F.inRound l).fn b.fn:=hF
 obtain⟨e,a₁,w₁,hq,ae⟩:=h b [.beginRound,.code body] (c::cs) rfl aO aI
 rw[<-bK]at ae
 cases e with
 | normal =>
  obtain⟨w₂,bJ,a8⟩:=hq
  have s1:StepsIn (Machine.fenced P (F.inRound l)) P (lone (b.atR a₁ [.beginRound,.code body]) (c::cs) w₁) (lone (b.atR a₁ [.code body]) (c::cs) w₂):=
   .one (fenced_calm (fr:=b.atR a₁ [.beginRound,.code body]) aO aI rfl) (stepR_beginRound rfl bJ)
  obtain⟨e₂,a₂,w₃,aQ,aq⟩:=a8 b [] (c::cs) rfl aO aI
  cases e₂ with
  |normal=>
   obtain⟨v,w₄,aB,hR⟩:=aQ
   exact⟨.returned v,w₄,hR,(StepsIn.trans ae s1).trans (StepsIn.trans aq (.one (fenced_calm (fr:=b.atR a₂ []) aO aI rfl) (stepR_round_end rfl rfl aB)))⟩
  |ret=>
   obtain⟨v,w₄,aB,hR⟩:=aQ
   obtain⟨k₁,hs⟩:=aq.2 rfl
   exact⟨.returned v,w₄,hR,(StepsIn.trans ae s1).trans (StepsIn.trans hs (.one (fenced_calm (fr:=b.atR a₂ (.code .ret::k₁)) aO aI rfl) (stepR_round_ret rfl rfl aB)))⟩
  |exit id=>
   obtain⟨v,w₄,aB,hR⟩:=aQ
   obtain⟨k₁,hk,hs⟩:=aq.2 rfl rfl
   exact⟨.returned v,w₄,hR,(StepsIn.trans ae s1).trans (StepsIn.trans hs (.one (fenced_calm (fr:=b.atR a₂ (.code (.exit id)::k₁)) aO aI rfl) (stepR_round_exit rfl rfl hk aB)))⟩
  |panic chain=>
   obtain⟨hd,hR⟩:=aQ
   obtain⟨todo,hs⟩:=aq
   have hl:({ b.atR a₂ todo with mode:=.panicking chain }:Frame).leaving P w₃ (.panicked chain):=⟨rfl,hd,_,Array.getElem?_eq_getElem bb⟩
   exact⟨.panicked chain,w₃,hR,(StepsIn.trans ae s1).trans (StepsIn.trans hs (.one (fenced_leaving (n:=n) aO aI hl) (step_leave_panicked hl)))⟩
  |goto t=>exact aQ.elim
  |outgrown=>exact aQ.elim
 |exit id=>exact hq.elim
 |goto t=>exact hq.elim
 |ret=>exact hq.elim
 |panic chain=>exact hq.elim
 |outgrown=>exact hq.elim
theorem P5{P:Program}{n l f:Nat}{tmps:Array Value}{assign body:Code}{w:World}{R:Ending->World->Prop}(r:Rx)(h:RoundIn (FX P {}) n P l f tmps assign body w R):RoundIn (FX P r) n P l f tmps assign body w R:=by
 refine⟨fun _=>h.1 rfl,fun c cs _=>?_⟩
 obtain⟨e,w',h1,h2⟩:=h.2 c cs (Ee P _ _)
 refine⟨e,w',h1,?_⟩
 have key:∀m m',StepsIn (Machine.fenced P (FX P {})) P m m'->StepsIn (Machine.fenced P (FX P r)) P m m':=fun m m' hs=>by
  refine StepsIn.mono (fun m hm g hg=>?_) hs
  obtain⟨a1,a2,a3,a4⟩:=hm g hg
  exact⟨(fun e=>by cases e),a2.imp (fun h _=>h rfl) id,(fun f hf _=>a3 f hf rfl),Ee P r _⟩
 cases e with
 |returned v=>exact key _ _ h2
 |panicked c=>exact key _ _ h2
 |outgrown=>exact h2
structure DYield(P:Program)(l:Nat)(args:List D)(O:Sig)(R:DE->Sig->Prop):Prop where
 run:∀g w vs,Sim P g O w->RepL g args vs->∃b fn tmps asg body,g.rho l=some b/\(Instr.yield b vs.toArray).run P w=.ok (.round b fn tmps asg body) w /\ ∀r,RoundIn (FX P r) 0 P b fn tmps asg body w (Jv P g R)
theorem DYield.mono{P:Program}{l:Nat}{args:List D}{O:Sig}{R R':DE->Sig->Prop}(h:DYield P l args O R)(hr:∀x U',R x U'->R' x U'):DYield P l args O R':=
 ⟨fun g w vs hs ha=>let ⟨b,fn,t,a,c,h1,h2,h3⟩:=h.run g w vs hs ha;⟨b,fn,t,a,c,h1,h2,fun r=>(h3 r).mono fun _ _ ⟨g',x,U',k1,k2,k3,k4⟩=>⟨g',x,U',k1,k2,k3,hr _ _ k4⟩⟩⟩
def OJ:List Nat->List D->Fr->Fr
 |p::ps,d::ds,γ=>OJ ps ds ((p,d)::γ)
 |_,_,γ=>γ
theorem Lw{g:G}{n:Nat}: ∀{ps:List Nat}{ds:List D}{vs:List Value}{γ:Fr}{tmps:Array Value},RepT g γ n tmps->RepL g ds vs->ps.length=ds.length->(∀p∈ps,p<n)->
  RepT g (OJ ps ds γ) n ((ps.zip vs).foldl (fun t (x:Nat×Value)=>t.setIfInBounds x.1 x.2) tmps)
 |[],[],_,_,_,h,_,_,_=>h
 |[],_::_,_,_,_,_,_,hl,_=>by simp at hl
 |_::_,[],_,_,_,_,_,hl,_=>by simp at hl
 |p::ps,d::ds,_,γ,tmps,h,⟨v,r,e,h1,h2⟩,hl,hp=>by
  subst e
  have : RepT g ((p, d) :: γ) n (tmps.setIfInBounds p v) := RepT.put (o := ⟨some p, .move (.tmp 0), 0, "", #[], none⟩) (a := { tmps := tmps, defers := [] }) h h1 (by simp [Ap, hp p (by simp)])
  exact Lw (ps:=ps) (ds:=ds) (γ:=(p,d)::γ) (tmps:=tmps.setIfInBounds p v) this h2 (by simpa using hl) (fun q hq=>hp q (by simp[hq]))
section
variable {P:Program}{ro:Ro}{n:Nat}{ops:Array Oper}{Q:DX->St->Prop}{rest:List Oper}{γ:List (Nat×D)}{O:Sig}{df:List DDf}
theorem PI{fop:Operand}{args:Array Operand}{ats:Array TypeId}{dst:Option Tmp}{ty:TypeId}{pos:String}{after:Array Edge}{guard:Option (Nat×Bool)}{l:Nat}{R:DE->Sig->Prop}
  (hw:Ax ops γ ⟨dst,(cv fop args ats),ty,pos,after,guard⟩=some true)
  (hf:ev γ fop=.yld l) (h:DYield P l (args.toList.map (ev γ)) O R)
  (ho:Ap n ⟨dst,(cv fop args ats),ty,pos,after,guard⟩=true)
  (aw:∀d U',R (.ret d) U'->DOps P ro n ops Q rest ⟨putD dst d γ,U',df⟩)
  (ay:∀d U',R (.panic d) U'->Q (.panic d) ⟨γ,U',df⟩) :
  DOps P ro n ops Q (⟨dst,(cv fop args ats),ty,pos,after,guard⟩::rest) ⟨γ,O,df⟩:=by
 intro g w a r hr hs
 unfold wpListIn
 rw[AH hs.tmps hw,if_pos rfl]
 have am:=Ai hs.tmps fop
 rw[hf]at am
 obtain⟨b,hb,am⟩:=am
 have ah:(resolve a.eval { callee:=.value fop,args,argTypes:=ats } ty).run P w=.ok { target:=.fn (.yield b) #[],args:=args.map a.eval } w:=by
  simp[resolve,am,Deferred.ofValue,Sem.run]
 refine⟨fun f' au=>?_,?_⟩
 ·simp only[Oper.about,ah,Target.leads]at au
  cases au
 ·rw[Oper.semAt_eq _ _ _ (fun c e=>by cases e)]
  obtain⟨b',fn,tmps,asg,body,h1,h2,h3⟩:=h.run g w _ hs.sim (CN hs.tmps args.toList)
  obtain rfl:b'=b:=by rw[hb]at h1;cases h1;rfl
  have aa:(execOp a.eval ⟨dst,(cv fop args ats),ty,pos,after,guard⟩).run P w=.ok (.round b' fn tmps asg body) w:=by
   have e:(args.toList.map a.eval).toArray=args.map a.eval:=Array.ext' (by simp)
   rw[e]at h2
   simp only[execOp,Sem.run_bind,ah,Result.andThen_ok,invoke,h2]
  rw[aa]
  refine⟨fun h=>(by cases h),?_⟩
  refine(h3 r).mono ?_
  rintro e w' ⟨g',x,U',k1,k2,k3,k4⟩
  cases x with
  |ret d=>
   obtain⟨v,rfl,h5⟩:=k3
   exact AE k1 _ (aw d U' k4 g' w' _ r (hr.mono k1) (hs.put (o:=⟨dst,(cv fop args ats),ty,pos,after,guard⟩) k1 k2 h5 ho))
  |panic d=>
   obtain⟨v,rfl,h5⟩:=k3
   exact⟨g',⟨γ,U',df⟩,.panic d,k1,⟨k2,hs.tmps.mono k1,hs.df.mono k1⟩,⟨v,rfl,h5⟩,ay d U' k4⟩
end
theorem Sim.setLoop{P:Program}{g:G}{O:Sig}{w:World}(hs:Sim P g O w){l:Nat}{st st':LoopState}{pe pe':Option Code}{ps:Array Tmp}{asg body:Code}{n:Nat}{γ:Fr}{did:Nat}(hU:O l=some (.loop st pe ps asg body n γ did)):
  ∃b r,g.rho l=some b/\(Instr.getLoop b).run P w=.ok r w/\r.state=st/\r.pending=pe/\r.params=ps/\r.assign=asg/\r.body=body/\RepT g γ n r.tmps/\r.fn<P.funcs.size /\
   ∃w',(Go.setObj b (.loop { r with state:=st',pending:=pe' })).run P w=.ok () w'/\Sim P g (O.set l (.loop st' pe' ps asg body n γ did)) w':=by
 obtain⟨b,db,fn,tmps,h1,h2,h3,h4,h5⟩:=hs.obj _ _ hU
 refine⟨b,{ state:=st,pending:=pe,fn,tmps,params:=ps,assign:=asg,body,defers:=db },h1,?_,rfl,rfl,rfl,rfl,rfl,h4,h3,setB w b (.loop { state:=st',pending:=pe',fn,tmps,params:=ps,assign:=asg,body,defers:=db }),?_,?_⟩
 ·simp[Instr.getLoop,getObj,Sem.run,h5]
 ·simp[Go.setObj,Sem.run,h5,setB]
 ·exact hs.setAny hU rfl rfl h1 h5 ⟨b,db,fn,tmps,h1,h2,h3,h4,Ed h5⟩
def VI(l:Nat)(ps:Array Tmp)(asg body:Code)(n:Nat)(Sl:Fr)(did:Nat)(R:DE->Sig->Prop):DX->St->Prop
 |.normal,s=>s.O l=some (.loop .busy none ps asg body n Sl did)/\R (.ret (.bool true)) (s.O.set l (.loop .ready none ps asg body n Sl did))
 |.ret,s=>s.O l=some (.loop .busy none ps asg body n Sl did)/\R (.ret (.bool false)) (s.O.set l (.loop .done (some .ret) ps asg body n Sl did))
 |.exit id,s=>s.O l=some (.loop .busy none ps asg body n Sl did)/\R (.ret (.bool false)) (s.O.set l (.loop .done (some (.exit id)) ps asg body n Sl did))
 |.panic d,s=>s.df=[]/\R (.panic d) s.O
theorem L2{P:Program}{l:Nat}{args:List D}{O:Sig}{R:DE->Sig->Prop}{ps:Array Tmp}{asg body:Code}{n:Nat}{Sl:Fr}{did:Nat}(hU:O l=some (.loop .ready none ps asg body n Sl did))
  (hl:ps.toList.length=args.length) (hp:∀p∈ps.toList,p<n)
  (h:DWp P (.some l) n asg (Then (fun s=>s.O l=some (.loop .ready none ps asg body n Sl did)/\DWp P (.some l) n body (VI l ps asg body n Sl did R) { s with O:=s.O.set l (.loop .busy none ps asg body n Sl did) }) (fun _ _=>False)) ⟨OJ ps.toList args Sl,O,[]⟩) :
  DYield P l args O R:=by
 refine⟨fun g w vs hs ha=>?_⟩
 obtain⟨b,r,h1,h2,e1,e2,e3,e4,e5,h3,h4,_⟩:=hs.setLoop (st':=.busy) (pe':=none) hU
 have hsz:vs.length=ps.toList.length:=by rw[RepL.length ha,hl]
 refine⟨b,r.fn,(ps.toList.zip vs).foldl (fun t (x:Nat×Value)=>t.setIfInBounds x.1 x.2) r.tmps,asg,body,h1,?_,fun rr=>?_⟩
 ·unfold Instr.yield
  rw[Sem.run_bind,h2,Result.andThen_ok]
  have hne:¬vs.toArray.size≠r.params.size:=by rw[e3];simpa using hsz
  rw[if_neg hne,e3,e4,e5]
  rw[Sem.run_pure]
  congr 2
  rw[<-Array.foldl_toList]
  simp
 ·refine P5 rr (Hx (F:=FX P {}) (EA h4 _) h4 ?_)
  have hT:=Lw (ps:=ps.toList) h3 ha hl hp
  refine wpIn_mono (h g w { tmps:=_,defers:=[] } { rd:=some b } ⟨b,rfl,h1⟩ ⟨hs,hT,rfl⟩) ?_
  rintro e a w1 ⟨g1,s1,x,l1,l2,l3,l4⟩
  cases x with
  | normal =>
   obtain rfl:=l3
   obtain⟨m1,m2⟩:=l4
   obtain⟨b',r',k1,k2,f1,f2,f3,f4,f5,_,_,w2,k3,k4⟩:=l2.sim.setLoop (st':=.busy) (pe':=none) m1
   obtain rfl:b'=b:=by rw[l1.rho _ _ h1]at k1;cases k1;rfl
   refine⟨w2,?_,?_⟩
   ·unfold Instr.beginRound
    rw[Sem.run_bind,k2,Result.andThen_ok,Sem.run_bind]
    have er:({ r' with state:=.busy }:Loop)={ r' with state:=.busy,pending:=none }:=by rw[<-f2]
    rw[er,k3,Result.andThen_ok,f1]
    rfl
   ·refine wpIn_mono (m2 g1 w2 a { rd:=some b' } ⟨b',rfl,k1⟩ ⟨k4,l2.tmps,l2.df⟩) ?_
    rintro e a' w3 ⟨g2,s2,x,n1,n2,n3,n4⟩
    have fin:∀(jump:Option Code) (st':LoopState) (bv:Bool),st'=(if jump.isNone then .ready else .done)->jump.isNone=bv->s2.O l=some (.loop .busy none ps asg body n Sl did)->R (.ret (.bool bv)) (s2.O.set l (.loop st' jump ps asg body n Sl did))->
      ∃v w',(Instr.endRound b' jump).run P w3=.ok v w'/\Jv P g R (.returned v) w':=by
     intro jump st' bv aP bI m1 m2
     obtain⟨b2,r2,q1,q2,_,_,_,_,_,_,_,w4,q3,q4⟩:=n2.sim.setLoop (st':=st') (pe':=jump) m1
     obtain rfl:b2=b':=by rw[n1.rho _ _ k1]at q1;cases q1;rfl
     refine⟨.bool jump.isNone,w4,?_,g2,.ret (.bool bv),_,(l1.trans n1),q4,⟨_,rfl,by rw[bI];rfl⟩,m2⟩
     unfold Instr.endRound
     rw[Sem.run_bind,q2,Result.andThen_ok,Sem.run_bind,<-aP,q3,Result.andThen_ok]
     rfl
    cases x with
    |normal=>obtain rfl:=n3;exact fin none .ready true rfl rfl n4.1 n4.2
    |ret=>obtain rfl:=n3;exact fin (some .ret) .done false rfl rfl n4.1 n4.2
    |exit id=>obtain rfl:=n3;exact fin (some (.exit id)) .done false rfl rfl n4.1 n4.2
    |panic d=>
     obtain⟨v,rfl,hv⟩:=n3
     exact⟨DS n2.df n4.1,g2,.panic d,s2.O,l1.trans n1,n2.sim,⟨v,rfl,hv⟩,n4.2⟩
  |exit id=>exact l4.elim
  |ret=>exact l4.elim
  |panic d=>exact l4.elim
section
variable {P:Program}{n:Nat}{Q:DX->St->Prop}{γ:List (Nat×D)}{O:Sig}{df:List DDf}
theorem P3{P:Program}(o:Obj)(w:World):(newObj o).run P w=.ok w.heap.size { w with heap:=w.heap.push o }:=by
 simp[newObj,Sem.run]
theorem Sim.newObj2{g:G}{w:World}(hs:Sim P g O w){ps:Array Tmp}{asg body:Code}{fn:Nat}{tmps:Array Value}(bm:fn<P.funcs.size)(hT:RepT g γ n tmps):
  ∃did l,O did=none/\O l=none/\l≠did /\ ∃g',g.le g'/\g'.rho l=some (w.heap.size+1)/\g'.rho did=some w.heap.size /\
   Sim P g' ((O.set did .defs).set l (.loop .ready none ps asg body n γ did)) { w with heap:=(w.heap.push (.deferred (some []))).push (.loop { state:=.ready,pending:=none,fn,tmps,params:=ps,assign:=asg,body,defers:=w.heap.size }) }:=by
 obtain⟨did,hd,aK⟩:=hs.fresh
 have h1:=hs.newObj (o:=.deferred (some [])) hd aK (d:=.defs) rfl ⟨w.heap.size,by simp[G.bind],by simp⟩
 obtain⟨l,hl,br⟩:=h1.fresh
 have hne:l≠did:=fun e=>by rw[e]at hl;simp[G.bind]at hl
 have bM:=hT.mono (G.bind_le (b:=w.heap.size) hd)
 have h2:=h1.newObj (o:=.loop { state:=.ready,pending:=none,fn,tmps,params:=ps,assign:=asg,body,defers:=w.heap.size }) hl br (d:=.loop .ready none ps asg body n γ did) rfl
  ⟨w.heap.size+1,w.heap.size,fn,tmps,by simp[G.bind],by simp[G.bind,Ne.symm hne],bm,bM.mono (G.bind_le (b:=(w.heap.push (.deferred (some []))).size) hl),by rw[show w.heap.size+1=(w.heap.push (.deferred (some []))).size by simp];exact Array.getElem?_push_size⟩
 have aS:((g.bind did w.heap.size).bind l (w.heap.push (.deferred (some []))).size).rho l=some (w.heap.size+1):=by simp[G.bind]
 refine⟨did,l,aK,?_,hne,_,(G.bind_le hd).trans (G.bind_le hl),aS,by simp[G.bind,Ne.symm hne],h2⟩
 rwa [w7 _ _ hne]at br
theorem GD{gop:Operand}{ps:Array Tmp}{asg body:Code}{f:Nat}{first cap:List D}{R:Nat->Nat->DE->Sig->Prop}
  (hf:ev γ gop=.func (.func f) first cap)
  (aZ:∀l did,O did=none->O l=none->l≠did->DCall P f (first++[.yld l]++cap) ((O.set did .defs).set l (.loop .ready none ps asg body n γ did)) (R l did))
  (aw : ∀ l did d U',O did=none->O l=none->l ≠ did->R l did (.ret d) U' -> ∃ st pend,U' l=some (.loop st pend ps asg body n γ did)/\st ≠ .busy /\
   (match pend with|none=>Q .normal ⟨γ,U'.del l,.coll did::df⟩|some c=>DWp P .none n c Q ⟨γ,U'.del l,.coll did::df⟩))
  (ay:∀l did d U',O did=none->O l=none->l≠did->R l did (.panic d) U'->Q (.panic d) ⟨γ,U',.coll did::df⟩) :
  DWp P .none n (.rangeFunc gop ps asg body) Q ⟨γ,O,df⟩:=by
 intro g w a r hr hs
 obtain rfl:r={}:=hr
 refine wpIn_rangeFunc fun fn bm=>?_
 obtain⟨did,l,hd,hl,hne,g',ai,bp,bq,bf⟩:=hs.sim.newObj2 (ps:=ps) (asg:=asg) (body:=body) (fn:=fn) (bm rfl) hs.tmps
 have hc:=aZ l did hd hl hne
 have am:=Ai hs.tmps gop
 rw[show ev (St.mk γ O df).γ gop=.func (.func f) first cap from hf]at am
 obtain⟨fs,cs,am,aS,bi⟩:=am
 let w1:World:={ w with heap:=(w.heap.push (.deferred (some []))).push (.loop { state:=.ready,pending:=none,fn,tmps:=a.tmps,params:=ps,assign:=asg,body,defers:=w.heap.size }) }
 refine⟨w.heap.size+1,[{ target:=.collected w.heap.size,args:= #[] }],w1,{ target:=.fn (.func f) cs.toArray,args:=fs.toArray ++ #[.func (.yield (w.heap.size+1)) #[] #[]] },w1,f,fs.toArray ++ #[.func (.yield (w.heap.size+1)) #[] #[]]++cs.toArray,w1,?_,?_,?_,?_,(fun h=>by cases h),?_⟩
 ·unfold Instr.enterLoop
  simp only[FX,Sem.run_bind,P3,Result.andThen_ok,Sem.run_pure]
  simp only[Array.size_push]
  rfl
 ·simp only[resolve,rangeCall];rw[am];simp only[Deferred.ofValue];rw[Sem.run_pure];simp[Act.eval]
 ·intro f' au
  simp only[Target.leads,Option.some.injEq]at au
  subst au;exact EA hc.lt _
 ·exact hc.ent _ _
 ·have aF:RepL g' (first++[.yld l]++cap) (fs++[Value.func (.yield (w.heap.size+1)) #[] #[]]++cs):=
   ((RepL.mono ai _ aS).append (show RepL g' [.yld l] [.func (.yield (w.heap.size+1)) #[] #[]] from⟨_,_,rfl,⟨_,bp,rfl⟩,rfl⟩)).append (RepL.mono ai _ bi)
  have aa:=hc.run g' w1 _ bf aF
  have e:(fs++[Value.func (.yield (w.heap.size+1)) #[] #[]]++cs).toArray=fs.toArray ++ #[Value.func (.yield (w.heap.size+1)) #[] #[]]++cs.toArray:=by simp
  rw[e]at aa
  refine CallsIn.mono aa ?_
  rintro en w3 ⟨g3,x,U',l1,l2,l3,l4⟩
  cases x with
  |panic d=>
   obtain⟨v,rfl,hv⟩:=l3
   exact⟨g3,⟨γ,U',.coll did::df⟩,.panic d,ai.trans l1,⟨l2,(hs.tmps.mono ai).mono l1,⟨_,_,rfl,l1.rho _ _ bq,(hs.df.mono ai).mono l1⟩⟩,⟨v,rfl,hv⟩,ay l did d U' hd hl hne l4⟩
  | ret d =>
   obtain⟨v,rfl,hv⟩:=l3
   obtain⟨st,pend,k1,k2,k3⟩:=aw l did d U' hd hl hne l4
   obtain⟨b,rr,q1,q2,q3,q4,q5,q6,q7,_,_,w4,q8,q9⟩:=l2.setLoop (st':=.exhausted) (pe':=pend) k1
   obtain rfl:b=w.heap.size+1:=by rw[l1.rho _ _ bp]at q1;cases q1;rfl
   have hS:SimS P g3 n ⟨γ,U'.del l,.coll did::df⟩ { a with defers:=[{ target:=.collected w.heap.size,args:= #[] }]++a.defers } w4:=
    ⟨q9.sub (fun j o hj=>by
     by_cases bk:j=l
     ·subst bk;simp[Sig.del]at hj
     ·rw[w7 _ _ bk];simpa[Sig.del,bk] using hj),(hs.tmps.mono ai).mono l1,⟨_,_,rfl,l1.rho _ _ bq,(hs.df.mono ai).mono l1⟩⟩
   refine⟨pend,w4,?_,?_⟩
   ·unfold Instr.endLoop
    rw[Sem.run_bind,q2,Result.andThen_ok]
    have aP:(rr.state==LoopState.busy)=false:=by rw[q3];cases st<;>first|rfl|exact absurd rfl k2
    simp only[aP,Bool.false_eq_true,if_false]
    rw[Sem.run_bind]
    have er:({ rr with state:=.exhausted }:Loop)={ rr with state:=.exhausted,pending:=pend }:=by rw[<-q4]
    rw[er,q8,Result.andThen_ok,q4]
    rfl
   ·cases pend with
    |none=>exact⟨g3,_,.normal,ai.trans l1,hS,rfl,k3⟩
    |some c=>exact wpIn_mono (k3 g3 w4 _ {} rfl hS) fun _ _ _ p=>p.le (ai.trans l1)
end
theorem Sim.kill{P:Program}{g:G}{O:Sig}{w:World}(hs:Sim P g O w){i b:Nat}{d:DObj}{o x:Obj}(hi:O i=some d)(ht:d.isTail=false)(hb:g.rho i=some b)(hx:w.heap[b]? = some x):Sim P g (O.del i) (setB w b o):=by
 have aE:blk g O i=some b:=by unfold blk;rw[hi];cases d<;>first|exact hb|(cases ht;done)
 have ap:=hs.free i b aE
 have bC:∀o,g.imm b o=none:=ap.2 fun o ho=>by rw[hi]at ho;cases ho;exact ht
 have aC:∀j o,O.del i j=some o->j≠i/\O j=some o:=fun j o h=>by
  by_cases hj:j=i
  ·subst hj;simp[Sig.del]at h
  ·exact⟨hj,by simpa[Sig.del,hj] using h⟩
 have ag:=hs.sub (U':=O.del i) fun j o h=>(aC j o h).2
 exact {
  imm:=fun c o v h=>by
   have hc:c≠b:=fun e=>by rw[e,bC o]at h;cases h
   have:=hs.imm c o v h
   unfold World.cell? at this⊢
   simp only at this⊢
   rw[Ec hc];exact this
  keep:=fun k o h=>by
   have hc:k≠b:=fun e=>by rw[e,ap.1]at h;cases h
   rw[Ec hc];exact hs.keep k o h
  obj:=fun j o h=>by
   obtain⟨hj,h'⟩:=aC j o h
   exact(hs.obj j o h').setB h' fun e=>hj (hs.inj j i b e aE)
  inj:=ag.inj,free:=ag.free,htop:=ag.htop,hdom:=ag.hdom,fin:=ag.fin,io:=ag.io,tab:=ag.tab }
def dels(js:List Nat)(O:Sig):Sig:=js.foldl Sig.del O
theorem EV{P:Program}{r:Rx}{fn:Func}{tmps:Array Value}{R:Ending->World->Prop}{u:FrameMode}(hu:u≠.run): ∀(js:List Nat) {g:G}{O:Sig}{w:World}{ds:List Deferred},Sim P g O w->RepDf g (js.map .coll) ds->js.Nodup->(∀j∈js,O j=some .defs)->
  (∀w',Sim P g (dels js O) w'->LeavesIn (FX P r) 0 P fn tmps R [] u w')->LeavesInM (FX P r) 0 P fn tmps R ds u w
 |[],g,O,w,ds,hs,hd,_,_,h=>by
  obtain rfl:ds=[]:=hd
  exact h w hs
 | j::js,g,O,w,ds,hs,⟨b,rest,bG,hb,ax⟩,hn,hj,h=>by
  subst bG
  obtain⟨b',aM,hh⟩:=hs.obj j _ (hj j (by simp))
  obtain rfl:b'=b:=by rw[hb]at aM;cases aM;rfl
  refine⟨hu,.inl ⟨b',setB w b' (.deferred none),rfl,?_,EV hu js (hs.kill (hj j (by simp)) rfl hb hh) ax (List.nodup_cons.1 hn).2 (fun k hk=>?_) h⟩⟩
  ·simp[Instr.takeDeferred,getObj,setObj,Sem.run,hh,setB]
  ·have:k≠j:=fun e=>(List.nodup_cons.1 hn).1 (e ▸ hk)
   simp only[Sig.del,this,if_false]
   exact hj k (by simp[hk])
def PU(P:Program)(n:Nat)(fn:Func)(R:DE->Sig->Prop):DX->St->Prop
 |.normal,s|.ret,s=> ∃js,s.df=js.map .coll/\js.Nodup/\(∀j∈js,s.O j=some .defs) /\ ∃d,Lf P n fn ⟨s.γ,dels js s.O,[]⟩ d/\R (.ret d) (dels js s.O)
 |.panic d,s=> ∃js,s.df=js.map .coll/\js.Nodup/\(∀j∈js,s.O j=some .defs)/\R (.panic d) (dels js s.O)
 |.exit _,_=>False
theorem Er{P:Program}{f:Nat}{fn:Func}{c:Code}{args:List D}{O:Sig}{R:DE->Sig->Prop}(hf:P.funcs[f]? = some fn)(hb:fn.body=some c)
  (bj : (fn.name == "runtime.NumGoroutine") = false) {m : Nat} (hm : fn.ntmps = m) (hn : args.length <= m) (h : DWp P .none m c (fun x s => ∃ s', Wk P m s s' /\ PU P m fn (Weak R) x s') { γ := Bn 0 args, O }) : DCall P f args O R := by
 refine Hb ⟨(Array.getElem?_eq_some_iff.1 hf).1,AI hf bj (by rw[hb];rfl),fun g w vs hs ha=>?_⟩
 refine callsIn_of_wp_marks hf hb (by obtain⟨h1,_⟩:=Array.getElem?_eq_some_iff.1 hf;exact EA h1 _) ?_ rfl
 subst hm
 refine wpIn_mono (h g w _ {} rfl ⟨hs,Db ha hn,rfl⟩) ?_
 rintro e a w' ⟨g',s1,x,h1,h2,h3,s2,be,h4⟩
 obtain⟨g2,aA,aL⟩:=be _ _ _ h2
 have bd:=h1.trans aA
 have ret:∀(js:List Nat),s2.df=js.map .coll->js.Nodup->(∀j∈js,s2.O j=some .defs)->(∃d,Lf P fn.ntmps fn ⟨s2.γ,dels js s2.O,[]⟩ d/\Weak R (.ret d) (dels js s2.O))->
   LeavesInM (FX P {}) 0 P fn a.tmps (Jv P g (Weak R)) a.defers .returning w':=by
  intro js e1 e2 e3 ⟨d,hr,hR⟩
  have aG:=aL.df
  rw[e1]at aG
  refine EV (by simp) js aL.sim aG e2 e3 fun w3 aN=>?_
  obtain⟨v,hv,aj⟩:=hr g2 { a with defers:=[] } w3 ⟨aN,aL.tmps,rfl⟩
  exact⟨v,hv,g2,.ret d,_,bd,aN,⟨v,rfl,aj⟩,hR⟩
 cases x with
 |normal=>
  obtain rfl:=h3
  obtain⟨js,e1,e2,e3,e4⟩:=h4
  exact ret js e1 e2 e3 e4
 |ret=>
  obtain rfl:=h3
  obtain⟨js,e1,e2,e3,e4⟩:=h4
  exact ret js e1 e2 e3 e4
 |panic d=>
  obtain⟨v,rfl,aj⟩:=h3
  obtain⟨js,e1,e2,e3,hR⟩:=h4
  have aG:=aL.df
  rw[e1]at aG
  refine EV (by simp) js aL.sim aG e2 e3 fun w3 aN=>?_
  exact⟨g2,.panic d,_,bd,aN,⟨v,rfl,Rep.mono aA _ aj⟩,hR⟩
 |exit i=>exact h4.elim
theorem Ly{g:G}: ∀{l:List (D×D)}{es:List MapEntry},RepM g l es->RepL g (l.map (·.1)) (es.map (·.key))/\RepL g (l.map (·.2)) (es.map (·.val))
 |[],es,h=>by rw[show es=[] from h];exact⟨rfl,rfl⟩
 |(k,d)::l,es,⟨e,r,he,h1,h2,h3⟩=>by
  subst he
  obtain⟨a,b⟩:=Ly h3
  exact⟨⟨_,_,rfl,h1,a⟩,⟨_,_,rfl,h2,b⟩⟩
theorem RepM.get{g:G}: ∀{l:List (D×D)}{es:List MapEntry},RepM g l es->∀{j:Nat}{e:MapEntry},es[j]? = some e->∃k v,l[j]? = some (k,v)/\Rep g k e.key/\Rep g v e.val
 |[],es,h,j,e,he=>by rw[show es=[] from h]at he;simp at he
 |(k,d)::l,es,⟨e',r,aW,h1,h2,h3⟩,j,e,he=>by
  subst aW
  cases j with
  |zero=>simp at he;subst he;exact⟨k,d,rfl,h1,h2⟩
  |succ j=>simpa using h3.get (by simpa using he)
theorem RepM.len{g:G}: ∀{l:List (D×D)}{es:List MapEntry},RepM g l es->es.length=l.length
 |[],es,h=>by rw[show es=[] from h];rfl
 |(k,d)::l,es,⟨e',r,aW,h1,h2,h3⟩=>by subst aW;simp[h3.len]
theorem RepM.erase{g:G}: ∀{l:List (D×D)}{es:List MapEntry},RepM g l es->∀(j:Nat),RepM g (l.eraseIdx j) (es.eraseIdx j)
 |[],es,h,j=>by rw[show es=[] from h];exact rfl
 |(k,d)::l,es,⟨e',r,aW,h1,h2,h3⟩,j=>by
  subst aW
  cases j with
  |zero=>exact h3
  |succ j=>exact⟨e',_,rfl,h1,h2,h3.erase j⟩
def G.addKeep(g:G)(b:Nat)(o:Obj):G:={ g with keep:=fun k=>if k=b then some o else g.keep k }
section
variable {P:Program}{ro:Ro}{n:Nat}{ops:Array Oper}{Q:DX->St->Prop}{rest:List Oper}{tab:Nat->Ty}{γ:List (Nat×D)}{O:Sig}{df:List DDf}
theorem Sim.mapStays{g:G}{w:World}(ar:Sim P g O w){i b:Nat}{l:List (D×D)}(hi:O i=some (.map l))(hb:g.rho i=some b):
  ∃g',g.le g'/\Sim P g' (O.del i) w/\Rep g' (.cmap (l.map (·.1)) (l.map (·.2))) (.map (some b)):=by
 obtain⟨b',es,clock,aM,aV,hr,aP⟩:=ar.obj i _ hi
 obtain rfl:b'=b:=by rw[hb]at aM;cases aM;rfl
 have aE:blk g O i=some b':=by simp[blk,hi,hb]
 have ap:=ar.free i b' aE
 have ai:g.le (g.addKeep b' (.map es clock)):=
  {imm:=fun _ _ _ h=>h,rho:=fun _ _ h=>h,hist:=fun _ _ _ h=>h,io:=rfl
   keep:=fun k o h=>by
    simp only[G.addKeep]
    by_cases hk:k=b'
    ·rw[hk,ap.1]at h;cases h
    ·rw[if_neg hk];exact h }
 have aC:∀j o,O.del i j=some o->j≠i/\O j=some o:=fun j o h=>by
  by_cases hj:j=i
  ·subst hj;simp[Sig.del]at h
  ·exact⟨hj,by simpa[Sig.del,hj] using h⟩
 have aD:∀j c,blk (g.addKeep b' (.map es clock)) (O.del i) j=some c->j≠i/\blk g O j=some c:=by
  intro j c h
  by_cases hj:j=i
  ·subst hj;simp[blk,Sig.del]at h
  ·refine⟨hj,?_⟩
   unfold blk at h⊢
   simp only[Sig.del,hj,if_false]at h
   exact h
 refine⟨_,ai,?_,?_⟩
 ·exact {
   imm:=ar.imm
   keep:=fun k o h=>by
    simp only[G.addKeep]at h
    by_cases hk:k=b'
    ·rw[if_pos hk]at h;cases h;rw[hk];exact aV
    ·rw[if_neg hk]at h;exact ar.keep k o h
   obj:=fun j o h=>(ar.obj j o (aC j o h).2).mono ai fun _ _ _ _ _ _ _ _ _ _ h=>h
   inj:=fun j k c h1 h2=>ar.inj j k c (aD j c h1).2 (aD k c h2).2
   free:=fun j c h=>by
    obtain⟨hj,h'⟩:=aD j c h
    obtain⟨h1,h2⟩:=ar.free j c h'
    have hc:c≠b':=fun e=>hj (ar.inj j i b' (e ▸ h') aE)
    refine⟨by simp only[G.addKeep];rw[if_neg hc];exact h1,fun hh o=>h2 (fun x hx=>hh x (by simp only[Sig.del,hj,if_false];exact hx)) o⟩
   htop:=fun j sz n k h hk=>ar.htop j sz n k (aC j _ h).2 hk
   hdom:=ar.hdom
   io:=ar.io
   tab:=ar.tab.mono ai
   fin:=ar.fin }
 ·obtain⟨a1,a2⟩:=Ly hr
  exact⟨b',es,clock,rfl,by simp[G.addKeep],aP,RepL.mono ai _ a1,RepL.mono ai _ a2⟩
theorem MV{t i:Nat}{l:List (D×D)}(hi:O i=some (.map l))(hg:getD γ t=.map i):Wk P n ⟨γ,O,df⟩ ⟨(t,.cmap (l.map (·.1)) (l.map (·.2)))::γ,O.del i,df⟩:=by
 intro g w a hs
 have bt:=hs.tmps.2 t
 rw[hg]at bt
 obtain⟨b,hb,hv⟩:=bt
 obtain⟨g',ai,h1,h2⟩:=hs.sim.mapStays hi hb
 refine⟨g',ai,⟨h1,⟨hs.tmps.1,fun k=>?_⟩,hs.df.mono ai⟩⟩
 rw[A6]
 by_cases hk:k=t
 ·rw[if_pos hk,hk,hv];exact h2
 ·rw[if_neg hk];exact Rep.mono ai _ (hs.tmps.2 k)
variable (ht:B2 P tab)
include ht
omit ht in
omit ht in
theorem PM{t i:Nat}{x:Operand}{ty:TypeId}{pos:String}{after:Array Edge}{left:List (D×D)}{k v:D}(aR:t<n)(hx:ev γ x=.obj i)(hi:O i=some (.iter left (some (k,v))))
  (h:DOps P ro n ops Q rest ⟨(t,.tup [k,v])::γ,O,df⟩) :
  DOps P ro n ops Q (⟨some t,.entry x,ty,pos,after,none⟩::rest) ⟨γ,O,df⟩:=by
 refine By (fun d U'=>d=.tup [k,v]/\U'=O) rfl (fun c e=>by cases e) (Aa fun c e=>by cases e) (by simp[Ap,aR]) ?_ (fun d U' ⟨a,b⟩=>by subst a b;exact h)
 intro g w a hs hT
 have bn:=Ai hT x
 rw[hx]at bn
 obtain⟨b,hb,hv⟩:=bn
 obtain⟨b',aM,aY⟩:=hs.obj _ _ hi
 obtain rfl:b'=b:=by rw[hb]at aM;cases aM;rfl
 rcases aY with⟨_,hl,_⟩|⟨mb,es,clock,seen,hh,aU,aP,hr,aT⟩
 ·cases hl
 ·obtain⟨e,st,f1,f2,f3,f4⟩:=aT k v rfl
  have bD:=hs.keep _ _ aU
  refine⟨g,w,.tuple #[e.key,e.val],.tup [k,v],O,?_,.refl g,hs,⟨_,rfl,_,_,rfl,f3,_,_,rfl,f4,rfl⟩,rfl,rfl⟩
  simp[execOp,hv,Instr.entry,getObj,Sem.run,hh,bD,f1,f2]
omit ht in
theorem K9{fop:Operand}{args:Array Operand}{ats:Array TypeId}{dst:Option Tmp}{ty:TypeId}{pos:String}{after:Array Edge}{f:Nat}{first cap:List D}(bb:f<P.funcs.size)
  (hf:ev γ fop=.func (.func f) first cap) (ho:Ap n ⟨dst,.defer { callee:=.value fop,args,argTypes:=ats },ty,pos,after,none⟩=true)
  (h:DOps P .none n ops Q rest ⟨putD dst .any γ,O,.fn f (first++args.toList.map (ev γ)) cap::df⟩) :
  DOps P .none n ops Q (⟨dst,.defer { callee:=.value fop,args,argTypes:=ats },ty,pos,after,none⟩::rest) ⟨γ,O,df⟩:=by
 intro g w a r hr hs
 obtain rfl:r={}:=hr
 unfold wpListIn
 rw[AH (o:=⟨dst,.defer { callee:=.value fop,args,argTypes:=ats },ty,pos,after,none⟩) (b:=true) hs.tmps rfl,if_pos rfl]
 have am:=Ai hs.tmps fop
 rw[show ev (St.mk γ O df).γ fop=.func (.func f) first cap from hf]at am
 obtain⟨fs,cs,am,aS,bi⟩:=am
 have ah:(resolve a.eval { callee:=.value fop,args,argTypes:=ats } ty).run P w=.ok { target:=.fn (.func f) cs.toArray,args:=fs.toArray++args.map a.eval } w:=by
  simp[resolve,am,Deferred.ofValue,Sem.run]
 refine⟨fun f' au=>(Aa (fun c e=>by cases e) _ _ _ au).elim,?_⟩
 have aa:(Oper.semAt (FX P {}).round a.eval ⟨dst,.defer { callee:=.value fop,args,argTypes:=ats },ty,pos,after,none⟩).run P w=.ok (.defer { target:=.fn (.func f) cs.toArray,args:=fs.toArray++args.map a.eval }) w:=by
  simp only[FX,Oper.semAt,execOp,Sem.run_bind,ah,Result.andThen_ok,Sem.run_pure]
 rw[aa]
 have aJ:=hs.put (d:=.any) (v:=undef) (U':=O) (w':=w) (.refl g) hs.sim trivial ho
 refine h g w _ {} rfl ⟨aJ.sim,?_,?_⟩
 ·have e:({ a with defers:={ target:=.fn (.func f) cs.toArray,args:=fs.toArray++args.map a.eval }::a.defers }:Act).put dst undef={ (a.put dst undef)with defers:={ target:=.fn (.func f) cs.toArray,args:=fs.toArray++args.map a.eval }::a.defers }:=by cases dst<;>rfl
  show RepT g _ n (({ a with defers:={ target:=.fn (.func f) cs.toArray,args:=fs.toArray++args.map a.eval }::a.defers }:Act).put dst undef).tmps
  rw[e];exact aJ.tmps
 ·have e:(({ a with defers:={ target:=.fn (.func f) cs.toArray,args:=fs.toArray++args.map a.eval }::a.defers }:Act).put dst undef).defers={ target:=.fn (.func f) cs.toArray,args:=fs.toArray++args.map a.eval }::a.defers:=by cases dst<;>rfl
  show RepDf g _ (({ a with defers:={ target:=.fn (.func f) cs.toArray,args:=fs.toArray++args.map a.eval }::a.defers }:Act).put dst undef).defers
  rw[e]
  exact⟨fs++args.toList.map a.eval,cs,a.defers,by simp,aS.append (CN hs.tmps _),bi,hs.df⟩
end
def Ju(P:Program)(f:Nat)(args:List D)(O:Sig)(pan:Option D)(U':Sig):Prop:=
 ∀g w vs u,Sim P g O w->RepL g args vs->(match pan with|none=>u=.returning|some d=> ∃v,u=.panicking [{ v,recovered:=false }]/\Rep g d v)->
  CallsDIn (FX P {}) 0 P f vs.toArray u w fun e u' w'=>(∃v,e=.returned v)/\settle u'=.returning /\ ∃g',g.le g'/\Sim P g' U' w'
def BodyD(P:Program)(n:Nat)(fn:Func)(fd:Nat)(R:DE->Sig->Prop):DX->St->Prop
 |.normal,s|.ret,s=> ∃cap U' d,s.df=[.fn fd [] cap]/\Ju P fd cap s.O none U'/\Lf P n fn ⟨s.γ,U',[]⟩ d/\R (.ret d) U'
 |.panic p,s=> ∃cap U' d,s.df=[.fn fd [] cap]/\Ju P fd cap s.O (some p) U'/\Lf P n fn ⟨s.γ,U',[]⟩ d/\R (.ret d) U'
 |.exit _,_=>False
theorem GH{P:Program}{f fd:Nat}{fn:Func}{c:Code}{args:List D}{O:Sig}{R:DE->Sig->Prop}(hf:P.funcs[f]? = some fn)(hb:fn.body=some c)(bF:MS P fd)(bE:fd<P.funcs.size)
  (bj : (fn.name == "runtime.NumGoroutine") = false) {m : Nat} (hm : fn.ntmps = m) (hn : args.length <= m) (h : DWp P .none m c (fun x s => ∃ s', Wk P m s s' /\ BodyD P m fn fd (Weak R) x s') { γ := Bn 0 args, O }) : DCall P f args O R := by
 refine Hb ⟨(Array.getElem?_eq_some_iff.1 hf).1,AI hf bj (by rw[hb];rfl),fun g w vs hs ha=>?_⟩
 refine callsIn_of_wp_defers hf hb (by obtain⟨h1,_⟩:=Array.getElem?_eq_some_iff.1 hf;exact EA h1 _) ?_ rfl
 subst hm
 refine wpIn_mono (h g w _ {} rfl ⟨hs,Db ha hn,rfl⟩) ?_
 rintro e a w' ⟨g',s1,x,h1,h2,h3,s2,be,h4⟩
 obtain⟨g2,aA,aL⟩:=be _ _ _ h2
 have bd:=h1.trans aA
 have key:∀(u:FrameMode) (pan:Option D) (cap:List D) (U':Sig) (d:D),u≠.run->(match pan with|none=>u=.returning|some d=> ∃v,u=.panicking [{ v,recovered:=false }]/\Rep g2 d v)->
   s2.df=[.fn fd [] cap]->Ju P fd cap s2.O pan U'->Lf P fn.ntmps fn ⟨s2.γ,U',[]⟩ d->Weak R (.ret d) U'->LeavesIn (FX P {}) 0 P fn a.tmps (Jv P g (Weak R)) a.defers u w':=by
  intro u pan cap U' d hu hp e1 e2 e3 e4
  have aG:=aL.df
  rw[e1]at aG
  obtain⟨az,cs,rest,hd,ra,rc,ax⟩:=aG
  obtain rfl:az=[]:=ra
  obtain rfl:rest=[]:=ax
  rw[hd]
  refine leavesIn_cons hu (fun h=>by cases h) (f:=fd) (args:=cs.toArray) ?_ ?_ ?_
  ·simp only[invoke]
   have:=bF (#[]++cs.toArray) w'
   simpa using this
  ·intro g hg
   simp only[Target.leads,Option.some.injEq]at hg
   subst hg;exact(EA bE _)
  ·refine(e2 g2 w' cs u aL.sim rc hp).mono ?_
   rintro e u' w3 ⟨⟨v,rfl⟩,aH,g3,l3,aN⟩
   simp only[aH]
   obtain⟨v,hv,aj⟩:=e3 g3 { a with defers:=[] } w3 ⟨aN,aL.tmps.mono l3,rfl⟩
   exact⟨v,hv,g3,.ret d,U',bd.trans l3,aN,⟨v,rfl,aj⟩,e4⟩
 cases x with
 |normal=>
  obtain rfl:=h3
  obtain⟨cap,U',d,e1,e2,e3,e4⟩:=h4
  exact key .returning none cap U' d (by simp) rfl e1 e2 e3 e4
 |ret=>
  obtain rfl:=h3
  obtain⟨cap,U',d,e1,e2,e3,e4⟩:=h4
  exact key .returning none cap U' d (by simp) rfl e1 e2 e3 e4
 |panic p=>
  obtain⟨v,rfl,aj⟩:=h3
  obtain⟨cap,U',d,e1,e2,e3,e4⟩:=h4
  exact key _ (some p) cap U' d (by simp) ⟨v,rfl,Rep.mono aA _ aj⟩ e1 e2 e3 e4
 |exit i=>exact h4.elim
theorem Pd{P:Program}{F:Fence}{n:Nat}{ops:Array Oper}{Q:Exit->Act->List Frame->World->Prop}{a:Act}{cs:List Frame}{w:World}{i:Nat}{l:List Nat}{o:Oper}{v:Value}(ho:ops[i]? = some o)(hg:o.guard=none)
  (bc:∀f,o.about P w a.eval=some f->F.fn f) (aa:(execOp a.eval o).run P w=.ok (.value v) w) (h:wpOpsSIn F n P ops Q l (a.put o.dst v) cs w):wpOpsSIn F n P ops Q (i::l) a cs w:=by
 have hw:Region.wanted o (yielded ops a.tmps)=true:=by simp[Region.wanted,hg]
 simp only[wpOpsSIn,ho,hw,if_true,aa]
 exact⟨bc,h⟩
theorem Ho{P:Program}{F:Fence}{n:Nat}{ops:Array Oper}{Q:Exit->Act->List Frame->World->Prop}{a:Act}{cs cs':List Frame}{w:World}{i:Nat}{l:List Nat}{o:Oper}{v:Value}(ho:ops[i]? = some o)(hg:o.guard=none)
  (bc:∀f,o.about P w a.eval=some f->F.fn f) (aa:(execOp a.eval o).run P w=.ok .recover w) (ak:recoverD cs=some (v,cs')\/(recoverD cs=none/\v=.nilIface/\cs'=cs)) (h:wpOpsSIn F n P ops Q l (a.put o.dst v) cs' w):wpOpsSIn F n P ops Q (i::l) a cs w:=by
 have hw:Region.wanted o (yielded ops a.tmps)=true:=by simp[Region.wanted,hg]
 rcases ak with ak|⟨ak,rfl,rfl⟩
 ·simp only[wpOpsSIn,ho,hw,if_true,aa,ak]
  exact⟨bc,h⟩
 ·simp only[wpOpsSIn,ho,hw,if_true,aa,ak]
  exact⟨bc,h⟩
theorem HK{P:Program}{F:Fence}{n:Nat}{Q:Exit->Act->List Frame->World->Prop}{a:Act}{cs cs':List Frame}{w:World}{id t4 t1 ty1 ty2:Nat}{p1 p2:String}{a1 a2:Array Edge}{rest:Code}{v:Value}
  (ak:recoverD cs=some (v,cs')\/(recoverD cs=none/\v=.nilIface/\cs'=cs)) (ba:t4<a.tmps.size)
  (h:rest.wpSIn F n P Q ((a.put (some t4) v).put (some t1) v) cs' w) :
  (Code.seq (.region id #[⟨some t4,.call { callee:=.builtin .recover,args:= #[],argTypes:= #[] },ty1,p1,a1,none⟩,⟨some t1,.assign (.tmp t4),ty2,p2,a2,none⟩] false) rest).wpSIn F n P Q a cs w:=by
 refine wpSIn_seq (wpSIn_region ?_)
 have hr:List.range (#[(⟨some t4,.call { callee:=.builtin .recover,args:= #[],argTypes:= #[] },ty1,p1,a1,none⟩:Oper),⟨some t1,.assign (.tmp t4),ty2,p2,a2,none⟩]:Array Oper).size=[0,1]:=rfl
 rw[hr]
 have bl:(a.put (some t4) v).eval (.tmp t4)=v:=by simp[Act.put,Act.eval,ba]
 refine Ho (o:=⟨some t4,.call { callee:=.builtin .recover,args:= #[],argTypes:= #[] },ty1,p1,a1,none⟩) rfl rfl (fun f h=>by cases h) rfl ak ?_
 refine Pd (o:=⟨some t1,.assign (.tmp t4),ty2,p2,a2,none⟩) (v:=v) rfl rfl (fun f h=>by cases h) ?_ h
 show(Sem.run P (pure (Next.value ((a.put (some t4) v).eval (.tmp t4)))) w)=_
 rw[bl];rfl
theorem OD{P:Program}{f:Nat}{fn:Func}{id t4 t1 ty1 ty2:Nat}{p1 p2:String}{a1 a2:Array Edge}{rest:Code}{args:List D}{O U':Sig}{pan:Option D}{m:Nat}
  (hf:P.funcs[f]? = some fn) (hb:fn.body=some (Code.seq (.region id #[⟨some t4,.call { callee:=.builtin .recover,args:= #[],argTypes:= #[] },ty1,p1,a1,none⟩,⟨some t1,.assign (.tmp t4),ty2,p2,a2,none⟩] false) rest))
  (hm:fn.ntmps=m) (hn:args.length<=m) (ba:t4<m) (bA:t1<m) (ah:fn.results=#[])
  (h:DWp P .none m rest (fun x s=>(x=.normal\/x=.ret)/\s.df=[]/\Sub U' s.O) ⟨(t1,pan.getD .niliface)::(t4,pan.getD .niliface)::Bn 0 args,O,[]⟩):Ju P f args O pan U':=by
 intro g w vs u hs ha hu
 subst hm
 have bb:f<P.funcs.size:=(Array.getElem?_eq_some_iff.1 hf).1
 refine callsDIn_of_wpSIn hf hb (EA bb _) fun c₀ cs hc=>?_
 have hT:=Db ha hn
 have aJ:∀(d:D) (v:Value),Rep g d v->RepT g ((t1,d)::(t4,d)::Bn 0 args) fn.ntmps (((({ tmps:=vs.toArray++Array.replicate (fn.ntmps-vs.toArray.size) undef,defers:=[] }:Act).put (some t4) v).put (some t1) v).tmps):=by
  intro d v hv
  have h1 := RepT.put (o := ⟨some t4, .move (.tmp 0), 0, "", #[], none⟩) (a := { tmps := vs.toArray ++ Array.replicate (fn.ntmps - vs.toArray.size) undef, defers := [] }) hT hv (by simp [Ap, ba])
  exact RepT.put (o := ⟨some t1, .move (.tmp 0), 0, "", #[], none⟩) (a := ({ tmps := vs.toArray ++ Array.replicate (fn.ntmps - vs.toArray.size) undef, defers := [] } : Act).put (some t4) v) h1 hv (by simp [Ap, bA])
 have hsz:t4<(vs.toArray++Array.replicate (fn.ntmps-vs.toArray.size) undef).size:=by rw[hT.1];exact ba
 have fin:∀(d:D) (v:Value) (u':FrameMode) (cs':List Frame),pan.getD .niliface=d->Rep g d v->settle u'=.returning->cs'={ c₀ with mode:=u' }::cs->
   rest.wpSIn (FX P {}) 0 P (bodyPostS P fn c₀ cs fun e u' w'=>(∃v,e=.returned v)/\settle u'=.returning /\ ∃g',g.le g'/\Sim P g' U' w')
    (((({ tmps:=vs.toArray++Array.replicate (fn.ntmps-vs.toArray.size) undef,defers:=[] }:Act).put (some t4) v).put (some t1) v)) cs' w:=by
  intro d v u' cs' hd hv aH bu
  refine wpSIn_of_wpIn rfl ?_
  subst hd
  refine wpIn_mono (h g w _ {} rfl ⟨hs,aJ _ v hv,rfl⟩) ?_
  rintro e a w' ⟨g',s',x,l1,l2,l3,hx,aG,ag⟩
  have hd:a.defers=[]:=DS l2.df aG
  have hr:(results fn a.tmps).run P w'=.ok (.tuple #[]) w':=by simp[results,ah]
  rcases hx with rfl|rfl
  ·obtain rfl:=l3
   exact⟨hd,u',bu,_,hr,⟨_,rfl⟩,aH,g',l1,l2.sim.sub ag⟩
  ·obtain rfl:=l3
   exact⟨hd,u',bu,_,hr,⟨_,rfl⟩,aH,g',l1,l2.sim.sub ag⟩
 cases pan with
 |none=>
  have hu:u=.returning:=hu
  subst hu
  refine HK (v:=.nilIface) (cs':=c₀::cs) (.inr ⟨?_,rfl,rfl⟩) hsz (fin .niliface .nilIface .returning _ rfl rfl rfl ?_)
  ·simp[recoverD,hc]
  ·rw[<-hc]
 |some d=>
  obtain⟨v,rfl,hv⟩:=hu
  refine HK (v:=v) (cs':={ c₀ with mode:=.panicking [{ v,recovered:=true }] }::cs) (.inl ?_) hsz (fin d v (.panicking [{ v,recovered:=true }]) _ rfl hv rfl rfl)
  simp[recoverD,hc]
def nilB:TyK->Value->D->Option Bool
 |.iface,.nilIface,.niliface=>some true
 |.iface,.nilIface,.iface _ _=>some false
 |.ptr _,.pointer none,.nilp=>some true
 |.ptr _,.pointer none,.cptr _ _=>some false
 |.ptr _,.pointer none,.ptr _ _=>some false
 |.ptr _,.pointer none,.obj _=>some false
 |_,_,_=>none
theorem Jn{P:Program}{w:Go.World}(d:Nat)(t:TypeId){i}(h:P.underlying t=some (.interface i)):(Op.equalIn (d+1) t .nilIface .nilIface).run P w=.ok true w:=by
 simp[Op.equalIn,run_underlying h]
theorem Jm{P:Program}{w:Go.World}(d:Nat)(t:TypeId){i}(h:P.underlying t=some (.interface i))(u:TypeId)(x:Value):(Op.equalIn (d+1) t (.iface u x) .nilIface).run P w=.ok false w:=by
 simp[Op.equalIn,run_underlying h]
theorem Eo{P:Program}{w:Go.World}(d:Nat)(t:TypeId){e}(h:P.underlying t=some (.pointer e))(p:Option Addr):(Op.equalIn (d+1) t (.pointer p) (.pointer none)).run P w=.ok p.isNone w:=by
 cases p<;>simp[Op.equalIn,run_underlying h]
theorem Mw{P:Program}{tab:Nat->Ty}(ht:B2 P tab){ro:Ro}{n:Nat}{ops:Array Oper}{Q:DX->St->Prop}{rest:List Oper}{γ:Fr}{O:Sig}{df:List DDf}{t T T' ty:Nat}{x:Operand}{z:Value}{pos:String}{after:Array Edge}{guard:Option (Nat×Bool)}{b:Bool}(neg:Bool)
  (hw:Ax ops γ ⟨some t,.binOp (if neg then .neq else .eql) T x (.const z) T',ty,pos,after,guard⟩=some true) (hb:nilB (tab T).k z (ev γ x)=some b) (aR:t<n)
  (h:DOps P ro n ops Q rest ⟨(t,.bool (b != neg))::γ,O,df⟩) :
  DOps P ro n ops Q (⟨some t,.binOp (if neg then .neq else .eql) T x (.const z) T',ty,pos,after,guard⟩::rest) ⟨γ,O,df⟩:=by
 refine GE hw (fun c e=>by cases e) (Aa fun c e=>by cases e) (d:=.bool (b != neg)) ?_ (by simp[Ap,aR]) h
 intro g w a hs hT
 have hv:=Ai hT x
 refine ORun.of (Au (v:=.bool (b != neg)) hs ?_ rfl)
 have fin:∀(v:Value) (c:Bool),a.eval x=v->(Op.equal T v z).run P w=.ok c w->(∀op,(eqGuard op T x (.const z) v z).run P w=.ok () w)->
   (binOp .eql T v z=do pure (.bool (<-Op.equal T v z)))->(binOp .neq T v z=do pure (.bool (!(<-Op.equal T v z))))->
   (do eqGuard (if neg then .neq else .eql) T x (.const z) (a.eval x) (a.eval (.const z));binOp (if neg then .neq else .eql) T (a.eval x) (a.eval (.const z)):Sem Value).run P w=.ok (.bool (c != neg)) w:=by
  intro v c e1 e2 e3 e4 e5
  rw[e1,show a.eval (.const z)=z from rfl]
  cases neg
  ·simp only[Bool.false_eq_true,if_false]
   rw[Sem.run_bind,e3,Result.andThen_ok,e4,Sem.run_bind,e2,Result.andThen_ok,Sem.run_pure]
   cases c<;>rfl
  ·simp only[if_true]
   rw[Sem.run_bind,e3,Result.andThen_ok,e5,Sem.run_bind,e2,Result.andThen_ok,Sem.run_pure]
   cases c<;>rfl
 have iface:(tab T).k=.iface->∃i,P.underlying T=some (.interface i):=fun hk=>by
  obtain⟨desc,aX,aK⟩:=Eu ht hk (by simp)
  cases desc<;>simp[KOK]at aK
  exact⟨_,aX⟩
 have ptr:∀e,(tab T).k=.ptr e->P.underlying T=some (.pointer e):=fun e hk=>by
  obtain⟨desc,aX,aK⟩:=Eu ht hk (by simp)
  cases desc<;>simp[KOK]at aK
  rw[aX,aK]
 have gp:∀(p q:Option Addr) op,(eqGuard op T x (.const (.pointer q)) (.pointer p) (.pointer q)).run P w=.ok () w:=fun p q op=>by cases op<;>rfl
 unfold nilB at hb
 split at hb<;>(try (cases hb;done))<;>cases hb<;>rename_i hk he
 ·obtain⟨i,hd⟩:=iface hk
  rw[show ev (St.mk γ O df).γ x=.niliface from he]at hv
  exact fin .nilIface true hv (Jn (P:=P) (w:=w) 9999 T hd) (fun op=>by cases op<;>cases x<;>rfl) rfl rfl
 ·obtain⟨i,hd⟩:=iface hk
  rw[show ev (St.mk γ O df).γ x=.iface _ _ from he]at hv
  obtain⟨y,hv,_⟩:=hv
  exact fin _ false hv (Jm (P:=P) (w:=w) 9999 T hd _ _) (fun op=>by cases op<;>rfl) rfl rfl
 ·rw[show ev (St.mk γ O df).γ x=.nilp from he]at hv
  exact fin (.pointer none) true hv (Eo (P:=P) (w:=w) 9999 T (ptr _ hk) none) (gp _ _) rfl rfl
 ·rw[show ev (St.mk γ O df).γ x=.cptr _ _ from he]at hv
  obtain⟨b,o,hv,_⟩:=hv
  exact fin _ false hv (Eo (P:=P) (w:=w) 9999 T (ptr _ hk) (some _)) (gp _ _) rfl rfl
 ·rw[show ev (St.mk γ O df).γ x=.ptr _ _ from he]at hv
  obtain⟨b,_,hv⟩:=hv
  exact fin _ false hv (Eo (P:=P) (w:=w) 9999 T (ptr _ hk) (some _)) (gp _ _) rfl rfl
 ·rw[show ev (St.mk γ O df).γ x=.obj _ from he]at hv
  obtain⟨b,_,hv⟩:=hv
  exact fin _ false hv (Eo (P:=P) (w:=w) 9999 T (ptr _ hk) (some _)) (gp _ _) rfl rfl
theorem Mr{P:Program}{w:Go.World}(d:Nat)(t:TypeId)(h:P.underlying t=some .bool)(a b:Bool):(Op.equalIn (d+1) t (.bool a) (.bool b)).run P w=.ok (a==b) w:=by
 simp[Op.equalIn,run_underlying h]
theorem V6{P:Program}{tab:Nat->Ty}(ht:B2 P tab){ro:Ro}{n:Nat}{ops:Array Oper}{Q:DX->St->Prop}{rest:List Oper}{γ:Fr}{O:Sig}{df:List DDf}{t T T' ty:Nat}{x y:Operand}{pos:String}{after:Array Edge}{guard:Option (Nat×Bool)}{a b:Bool}(neg:Bool)
  (hw:Ax ops γ ⟨some t,.binOp (if neg then .neq else .eql) T x y T',ty,pos,after,guard⟩=some true) (hk:(tab T).k=.bool) (hx:ev γ x=.bool a) (hy:ev γ y=.bool b) (aR:t<n)
  (h:DOps P ro n ops Q rest ⟨(t,.bool ((a==b) != neg))::γ,O,df⟩) :
  DOps P ro n ops Q (⟨some t,.binOp (if neg then .neq else .eql) T x y T',ty,pos,after,guard⟩::rest) ⟨γ,O,df⟩:=by
 refine GE hw (fun c e=>by cases e) (Aa fun c e=>by cases e) (d:=.bool ((a==b) != neg)) ?_ (by simp[Ap,aR]) h
 intro g w ac hs hT
 have hv:=Ai hT x
 have hu:=Ai hT y
 rw[show ev (St.mk γ O df).γ x=.bool a from hx]at hv
 rw[show ev (St.mk γ O df).γ y=.bool b from hy]at hu
 have bx:ac.eval x=.bool a:=hv
 have bz:ac.eval y=.bool b:=hu
 refine ORun.of (Au (v:=.bool ((a==b) != neg)) hs ?_ rfl)
 obtain⟨desc,aX,aK⟩:=Eu ht hk (by simp)
 have hd:P.underlying T=some .bool:=by cases desc<;>simp[KOK]at aK;exact aX
 have e2:(Op.equal T (.bool a) (.bool b)).run P w=.ok (a==b) w:=Mr (P:=P) (w:=w) 9999 T hd a b
 have e3:∀op,(eqGuard op T x y (.bool a) (.bool b)).run P w=.ok () w:=fun op=>by cases op<;>rfl
 rw[bx,bz]
 cases neg
 ·simp only[Bool.false_eq_true,if_false]
  rw[Sem.run_bind,e3,Result.andThen_ok,show binOp .eql T (.bool a) (.bool b)=(do pure (.bool (<-Op.equal T (.bool a) (.bool b))):Sem Value) from rfl,Sem.run_bind,e2,Result.andThen_ok,Sem.run_pure]
  cases (a==b)<;>rfl
 ·simp only[if_true]
  rw[Sem.run_bind,e3,Result.andThen_ok,show binOp .neq T (.bool a) (.bool b)=(do pure (.bool (!(<-Op.equal T (.bool a) (.bool b)))):Sem Value) from rfl,Sem.run_bind,e2,Result.andThen_ok,Sem.run_pure]
  cases (a==b)<;>rfl
def ON(P:Program)(T:Nat)(name:String)(f:Nat):Prop:= ∀(v:Value) (w:Go.World),(method (P.types.size+Made.depth) T v name).run P w=.ok (f,v) w
theorem Nx{P:Program}{ro:Ro}{n:Nat}{ops:Array Oper}{Q:DX->St->Prop}{rest:List Oper}{γ:Fr}{O:Sig}{df:List DDf}{rv:Operand}{name:String}{args:Array Operand}{ats:Array TypeId}{dst:Option Tmp}{ty:TypeId}{pos:String}{after:Array Edge}{guard:Option (Nat×Bool)}{f T:Nat}{d:D}{az:List D}{R:DE->Sig->Prop}
  (hw:Ax ops γ ⟨dst,.call { callee:=.invoke rv name,args,argTypes:=ats },ty,pos,after,guard⟩=some true)
  (hx:ev γ rv=.iface T d) (hM:ON P T name f) (h:DCall P f az O R) (bL:WkL (d::args.toList.map (ev γ)) az)
  (ho:Ap n ⟨dst,.call { callee:=.invoke rv name,args,argTypes:=ats },ty,pos,after,guard⟩=true)
  (aw:∀d U',R (.ret d) U'->DOps P ro n ops Q rest ⟨putD dst d γ,U',df⟩)
  (ay:∀d U',R (.panic d) U'->Q (.panic d) ⟨γ,U',df⟩) :
  DOps P ro n ops Q (⟨dst,.call { callee:=.invoke rv name,args,argTypes:=ats },ty,pos,after,guard⟩::rest) ⟨γ,O,df⟩:=by
 intro g w a r hr hs
 unfold wpListIn
 rw[AH hs.tmps hw,if_pos rfl]
 have hv:=Ai hs.tmps rv
 rw[show ev (St.mk γ O df).γ rv=.iface T d from hx]at hv
 obtain⟨x,hv,bw⟩:=hv
 have ah:(resolve a.eval { callee:=.invoke rv name,args,argTypes:=ats } ty).run P w=.ok { target:=.fn (.method name) #[],args:= #[.iface T x]++args.map a.eval } w:=by
  simp only[resolve,hv];rfl
 refine⟨fun f' au=>?_,?_⟩
 ·simp only[Oper.about,ah,Target.leads]at au
  have h0:(#[Value.iface T x]++args.map a.eval)[0]? = some (.iface T x):=by rw[Array.getElem?_append_left (Nat.zero_lt_one)];rfl
  rw[h0]at au
  simp only[hM x w]at au
  cases au
  exact EA h.lt _
 ·rw[Oper.semAt_eq _ _ _ (fun c e=>by cases e)]
  have aa:(execOp a.eval ⟨dst,.call { callee:=.invoke rv name,args,argTypes:=ats },ty,pos,after,guard⟩).run P w=.ok (.enter f (#[x]++args.map a.eval)) w:=by
   simp only[execOp,Sem.run_bind,ah,Result.andThen_ok,invoke]
   have h0:(#[Value.iface T x]++args.map a.eval)[0]? = some (.iface T x):=by rw[Array.getElem?_append_left (Nat.zero_lt_one)];rfl
   have h1:(#[Value.iface T x]++args.map a.eval).extract 1 (#[Value.iface T x]++args.map a.eval).size=args.map a.eval:=by
    apply Array.ext';simp;exact List.take_of_length_le (by simp)
   simp only[h0,h1,callMethod,program,Sem.run_bind]
   show(((method (P.types.size+Made.depth) T x name).run P w).andThen fun q w'=>(callFunc q.1 (#[q.2]++args.map a.eval)).run P w')=_
   rw[hM x w,Result.andThen_ok]
   exact h.ent _ w
  rw[aa]
  refine⟨fun h=>(by cases h),?_⟩
  have aF:RepL g (d::args.toList.map (ev γ)) (x::args.toList.map a.eval):=⟨x,_,rfl,bw,CN hs.tmps _⟩
  have hc:=Ke r (h.run g w _ hs.sim (bL.rep aF))
  have bH:CallsIn (FX P r) 0 P f (#[x]++args.map a.eval) w (Jv P g R):=by
   have e:(x::args.toList.map a.eval).toArray=#[x]++args.map a.eval:=by apply Array.ext';simp
   rw[<-e];exact hc
  refine bH.mono ?_
  rintro e w' ⟨g',y,U',h1,h2,h3,h4⟩
  cases y with
  |ret d=>
   obtain⟨v,rfl,h5⟩:=h3
   exact AE h1 _ (aw d U' h4 g' w' _ r (hr.mono h1) (hs.put (o:=⟨dst,.call { callee:=.invoke rv name,args,argTypes:=ats },ty,pos,after,guard⟩) h1 h2 h5 ho))
  |panic d=>
   obtain⟨v,rfl,h5⟩:=h3
   exact⟨g',⟨γ,U',df⟩,.panic d,h1,⟨h2,hs.tmps.mono h1,hs.df.mono h1⟩,⟨v,rfl,h5⟩,ay d U' h4⟩
section
variable {P:Program}{ro:Ro}{n:Nat}{Q:DX->St->Prop}{s:St}
theorem CD{b:Frame}{a:Act}{k:List Item}{cs:List Frame}{w:Go.World}{c:Code}:step P (lone (b.atR a (.code (.scope c)::k)) cs w)=.next (lone (b.atR a (.code c :: .inScope c::k)) cs w):=
 step_lone_go (by simp[stepG,stepG.exec,Frame.atR])
theorem Kz{b:Frame}{a:Act}{k:List Item}{cs:List Frame}{w:Go.World}{c:Code}:step P (lone (b.atR a (.inScope c::k)) cs w)=.next (lone (b.atR a k) cs w):=
 step_lone_go (by simp[stepG,stepG.exec,Frame.atR])
theorem Mt{c:Code}(h:DWp P ro n c Q s):DWp P ro n (.scope c) Q s:=by
 intro g w a r hr hs
 intro b k cs bB hb bh
 have h0:(lone (b.atR a (.code (.scope c)::k)) cs w).fenced P (FX P r):=fenced_calm hb bh rfl
 obtain⟨e,a₁,w₁,⟨g',s',x,l1,l2,l3,l4⟩,ae⟩:=h g w a r hr hs b (.inScope c::k) cs bB hb bh
 have hp:Post P g n Q e a₁ w₁:=⟨g',s',x,l1,l2,l3,l4⟩
 cases e with
 |normal=>exact⟨.normal,a₁,w₁,hp,.head h0 CD (StepsIn.trans ae (.one (fenced_calm hb bh rfl) Kz))⟩
 | exit id =>
  have hx:exitTo id (.inScope c::k)=exitTo id k:=by simp[exitTo]
  exact⟨.exit id,a₁,w₁,hp,fun k' hk=>.head h0 CD (ae.1 k' (by rw[hx];exact hk)),
   fun aI hk=>let ⟨k₁,h1,h2⟩:=ae.2 aI (by rw[hx];exact hk);⟨k₁,h1,.head h0 CD h2⟩⟩
 |goto l=>cases x<;>first|(cases l3;done)|(obtain⟨v,l3,_⟩:=l3;cases l3)
 |ret=>exact⟨_,a₁,w₁,hp,.of_steps (.one h0 CD) ae⟩
 |panic ch=>exact⟨_,a₁,w₁,hp,.of_steps (.one h0 CD) ae⟩
 |outgrown=>exact⟨_,a₁,w₁,hp,.of_steps (.one h0 CD) ae⟩
end
end Go.DL
