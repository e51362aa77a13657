/- A part of the proof. -/
import Derived.Test.YteldimffglchkaaGreatDoorM24
set_option linter.all false
namespace Go.DL
open Go.Proofs.Tryz
open Go Go.Proofs
set_option maxHeartbeats 8000000
def V3(s:GoS)(r:GoS ⊕ GoH):Prop:= ∀h,r=.inr h->h.stk.length<=s.stk.length/\h.env.length<=s.env.length
theorem hlt_ite{s:GoS}{c:Prop}[Decidable c]{a b:GoS ⊕ GoH}(h1:V3 s a)(h2:V3 s b):V3 s (if c then a else b):=by split<;>assumption
theorem QU{p:BProg}{w:CWorld}{x:CIns}{s:GoS}{h:GoH}(e:Gd p w x s=.inr h):h.stk.length<=s.stk.length/\h.env.length<=s.env.length:=by
 have key:V3 s (Gd p w x s):=by
  rw[Gd]
  repeat' (refine hlt_ite ?_ ?_)
  all_goals
   intro h e
   first|(cases e;done)|(cases e;simp[FB];done)|(cases e;simp only[List.length_take];omega)
 exact key h e
theorem Oy(p:BProg)(w:CWorld)(c:CProg): ∀(f:Nat) (s:GoS),(mRun p w c f s).stk.length<=s.stk.length+f/\(mRun p w c f s).env.length<=s.env.length+f
 |0,s=>by simp[mRun,FB]
 | f+1,s=>by
  rw[mRun]
  cases e:Gd p w (Ay c s.pos.toNat) { s with pos:=s.pos+1 } with
  |inl t=>
   have h1:=Mi e
   have h2:=Oy p w c f t
   simp only at h1⊢
   omega
  |inr h=>
   have h1:=QU e
   simp only at h1⊢
   omega
theorem f5_spec(p:BProg)(objs0:List MThing)(n:Int)(o:Own)(O:Sig)(hp:p.wt<=1073741824)(hl:objs0.length<=1073741824)(hs:∀x∈objs0,x.slots.length<=1073741824):EC prog 5 [.agg (Ae p),.slice (objs0.map cTh) o,dI n] O fun x _=>x=.ret (.bool true):=by
 have ag:=fun O:Sig=>LF p objs0 o O hp hl hs
 refine enW func5 ntmps5 ?_
 cases hg:okP p&&AQ (A2 p) objs0 with
 |false=>
  rw[hg]at ag
  repeat' first|refine gf hg ?_ [] [11]|refine AR (ag _) ?_|refine callP (ag _) ?_|refine BX (ag _) ?_|refine callPG (ag _) ?_|refine gf hg ?_ o5 [11]|apply gy<;>intro hh
  refine DW (LG O) (fun d S1 hr=>?_) (fun d S1 hr=>by cases hr.1)
  obtain⟨hd,rfl⟩:=hr
  cases hd
  refine gz ?_ o5 [11]
  exact fin1 (U':=S1) rfl
 | true =>
  rw[hg]at ag
  rw[Bool.and_eq_true]at hg
  obtain⟨hk,hO⟩:=hg
  obtain⟨l1,l2⟩:=U1 p
  have aj:=fun O:Sig=>OW p (Gg p) O hp (by omega) (by omega)
  have au:=Rs hk
  have aq:=EP p (Gg p)
  obtain⟨y1,y2,y3,y4,y5⟩:=Dz hk
  rw[IA hk]at au aq aj l1 l2
  rw[GE hk]at aq
  rw[<-aq,au]at aj
  have am:=fun O:Sig=>OY p O hp
  rw[IA hk,hk]at am
  have ar:=GE hk
  obtain⟨_,ay,_⟩:=Mp ar
  simp only[Option.map_some,Option.getD_some,if_true]at aj am
  have aB:(⟨(D2 p).main,0,false⟩:CSt)∈stsP p (D2 p):=by unfold stsP;simp
  obtain⟨m,hw,ap,aC,ax,ae,ai⟩:=way_lev ar aB
  simp only at ap aC ax ae
  obtain⟨lv,ak⟩:∃lv,lv=EO p 12 (bodsP p):=⟨_,rfl⟩
  obtain⟨c,hc⟩:∃c,c=D2 p:=⟨_,rfl⟩
  simp only[<-ak,<-hc]at am aj ay ar l1 l2 ap aC ax ae ai
  have i18:∀O,Ans 18 [.agg (Ae p)] O True (.tup [.agg (cCPg c),dI 0]):=fun O=>ah0 (am O)
  have i25:∀O,Ans 25 [.agg (Ae p),.agg (cCPg c)] O True (.tup [sl (lv.map cLev),dI 0]):=fun O=>ah0 (aj O)
  clear aq au ak hw aB am aj
  have hW:=Oc hk
  have aM:∀n:Nat,0<=p.gens.getD n 0:=fun n=>(Eg hk n).1
  have aA:∀l:List MThing,AQ (A2 p) l=true->l.length<=40 /\ ∀x∈l,x.slots.length<=40:=fun l hl=>by
   obtain⟨a,b⟩:=Bu.1 hl
   refine⟨a,fun x hx=>?_⟩
   have b2:=(b x hx).2.1
   have:=Hd hk x.cls
   have e:((A2 p).slots x.cls).length=(hasP p x.cls).length:=rfl
   omega
  repeat' first|refine gf (gi hk (gi hO ay)) ?_ [] [11]|refine AR (ag _) ?_|refine callP (ag _) ?_|refine BX (ag _) ?_|refine callPG (ag _) ?_|refine gf (gi hk (gi hO ay)) ?_ o5 [11]|apply gy<;>intro hh
  refine newV (fun i11 aL=>?_)
  refine gz ?_ o5 [11]
  refine FJ (Fe (az:=[dI c.main]) (bs:=[.nils]) (w6 ..) (Ak .no (.inl rfl))) ?_
  refine FJ (Fe (az:=[dI c.main,sl []]) (bs:=[]) (w6 ..) (Ak .no (.inl rfl))) ?_
  simp only[w8,List.cons_append,List.nil_append]
  obtain⟨q0,aH⟩:∃q0:Nat,c.main=q0:=⟨c.main.toNat,by omega⟩
  rw[aH]at ap ax⊢
  have aQ:GInv (A2 p) m ⟨objs0,[],(q0:Int),[],[]⟩:=⟨by simp,⟨⟨0,0⟩,ap,rfl,rfl⟩,rfl,rfl,hO⟩
  refine loop5 [2,3,7,9,11] (fun (i:Nat) (objs:List MThing) (q:Nat) (stk:List MVal) (env:List MVal)=>i<=q/\GInv (A2 p) m ⟨objs,[],(q:Int),stk,env⟩/\stk.length<=301*i/\env.length<=301*i) (fun i objs _ _ _=>[(12,dI i),(1,.slice (objs.map cTh) .no)]) (fun _ _ q stk env=>O.set i11 (.cells [dI q,sl (stk.map cVal),sl (env.map cVal)])) (fun i _ _ _ _=>c.ins.length+1-i) (0) (objs0) (q0) ([]) ([]) (by exact⟨Nat.zero_le _,aQ,by simp,by simp⟩) (fun i objs q stk env hI=>?_)
  obtain⟨aT,hG,aV,aU⟩:=hI
  obtain⟨l,hl,_⟩:=hG.lev
  simp only[Int.toNat_natCast]at hl
  have aS:=ae.dom _ _ hl
  have aN:goC p (A2 p) c objs q stk env=some (mRun p (A2 p) c c.ins.length ⟨objs,[],q,stk,env⟩):=by
   unfold goC
   rw[ar]
   refine if_pos ?_
   rw[Bool.and_eq_true]
   exact⟨hG.objs,(Mw hG.objs).2 (hG.sub ai)⟩
  have ah:=Mj aM hW ae c.ins.length _ hG (by simp only;omega)
  obtain⟨n1,n2⟩:=Oy p (A2 p) c c.ins.length ⟨objs,[],q,stk,env⟩
  have ho:=aA objs hG.objs
  simp only at ah n1 n2
  have ac:=fun O:Sig=>Hm p c objs q stk env .no O hp (by omega) (by omega) (by omega) (fun x hx=>by have:=ho.2 x hx;omega) (by omega) (by omega)
  rw[aN]at ac
  simp only[Option.getD_some,Option.isSome_some,if_true,EA]at ac
  generalize mRun p (A2 p) c c.ins.length ⟨objs,[],q,stk,env⟩=h at ah n1 n2 ac
  have aI:=aA h.objs ah.objs
  have aJ:(okP p&&AQ (A2 p) h.objs)=true:=by rw[hk,ah.objs];rfl
  have aa:=fun O:Sig=>LF p h.objs .no O hp (by omega) (fun x hx=>by have:=aI.2 x hx;omega)
  rw[aJ]at aa
  refine gz ?_ o5 [11]
  refine A7 (ac _) (fun d S1 hr=>?_) (fun d S1 hr=>by cases hr.1)
  obtain⟨hd,rfl⟩:=hr
  cases hd
  by_cases h2:h.kind=2
  rotate_left
  ·have aR:h.kind=1\/h.kind=4:=by
    rcases ah.kind with e|e|e|e
    ·exact .inl e
    ·exact absurd e h2
    ·exact absurd (ah.goes e) (by simp)
    ·exact .inr e
   rcases aR with e|e
   ·repeat' first|refine gf e ?_ [] [11]|refine AR (aa _) ?_|refine callP (aa _) ?_|refine BX (aa _) ?_|refine callPG (aa _) ?_|refine gf e ?_ o5 [11]|apply gy<;>intro hh
    refine U5 (LG _) (fun d S1 hr=>?_) (fun d S1 hr=>by cases hr.1)
    obtain⟨hd,rfl⟩:=hr
    cases hd
    refine gz ?_ o5 [11]
    exact fin1 (U':=_) rfl
   ·repeat' first|refine gf e ?_ [] [11]|refine AR (aa _) ?_|refine callP (aa _) ?_|refine BX (aa _) ?_|refine callPG (aa _) ?_|refine gf e ?_ o5 [11]|apply gy<;>intro hh
    refine U5 (LG _) (fun d S1 hr=>?_) (fun d S1 hr=>by cases hr.1)
    obtain⟨hd,rfl⟩:=hr
    cases hd
    refine gz ?_ o5 [11]
    exact fin1 (U':=_) rfl
  obtain⟨f1,⟨l',f2,f3,f4⟩,f5,f6⟩:=ah.frame (.inl h2)
  obtain⟨a1,a2,a3,a4⟩:=ah.asks h2
  have e2:=ai _ _ f2
  obtain⟨q',aw⟩:∃q':Nat,h.pos=q':=⟨h.pos.toNat,by omega⟩
  rw[aw]at f1 f2 e2
  simp only[Int.toNat_natCast]at f2 e2
  have aG:=ae.dom _ _ f2
  have aD:lv[q']'(by omega)=l':=(List.getElem?_eq_some_iff.1 e2).2
  have aW:h.args.length<=1073741824:=by
   have:=(Eg hk h.gen.toNat).2
   omega
  repeat' first|refine gf (gi h2 (gi aw (gi aD (gi f3 (gi f4 a4))))) ?_ [] [11]|refine AR (aa _) ?_|refine callP (aa _) ?_|refine BX (aa _) ?_|refine callPG (aa _) ?_|refine gf (gi h2 (gi aw (gi aD (gi f3 (gi f4 a4))))) ?_ o5 [11]|apply gy<;>intro hh
  refine A7 (Sx h.stk .no _ (by omega)) (fun d S2 hr=>?_) (fun d S2 hr=>by obtain⟨_,h,_⟩:=hr;cases h)
  obtain⟨r,hd,hF⟩:=hr
  cases hd
  have u2:=hF.2.1 i11 _ (w6 ..) id
  refine gz ?_ o5 [11]
  refine xapp (new:=[cVal (vInt (Ct n))]) (es:=h.stk.map cVal) (fun j2 cc cs S3 aO aF=>?_) hF.1 (h1:=by rw[List.length_map];with_unfolding_all rfl) (hb:=by simp;omega) (hm2:=by simp;omega)
  have u3:=aF i11 _ u2.1 u2.2
  have aE:RWAt (S3.set i11 (.cells [dI q',.sref j2 0 (h.stk.length+1) cc,sl (h.env.map cVal)])) 2 (.row j2 cc cs) (h.stk.map cVal++[cVal (vInt (Ct n))]):=aO.keep fun j o hj aK=>by rw[w7 _ _ fun e=>u3.2 (by rw[<-e];exact aK)];exact hj
  have o4:(S3.set i11 (.cells [dI q',.sref j2 0 (h.stk.length+1) cc,sl (h.env.map cVal)])) i11=some (.cells ([dI q']++(RW.row j2 cc cs).d (h.stk.map cVal++[cVal (vInt (Ct n))]).length::[sl (h.env.map cVal)])):=by rw[w6];simp
  repeat ((fail_if_success (first|(refine frzC (i:=i11) (r:=.row j2 cc cs) [dI q'] [sl (h.env.map cVal)] aE o4 u3.2 (fun S55 o55 k55=>?_))|fail));(refine goX1 u3.1 ?_))
  refine frzC (i:=i11) (r:=.row j2 cc cs) [dI q'] [sl (h.env.map cVal)] aE o4 u3.2 (fun S55 o55 k55=>?_)
  have aX:Sub (O.set i11 (.cells [dI q',sl ((h.stk++[vInt (Ct n)]).map cVal),sl (h.env.map cVal)])) S55:=fun j o hj=>by
   by_cases e:j=i11
   ·subst e
    rw[w6]at hj
    rw[o55,<-hj,List.map_append];rfl
   ·rw[w7 _ _ e]at hj
    obtain⟨b1,b2⟩:=hF.2.1 j o (by rw[w7 _ _ e];exact hj) id
    obtain⟨b3,b4⟩:=aF j o b1 b2
    exact k55 j o (by rw[w7 _ _ e];exact b3) e b4
  have aP:GInv (A2 p) m ⟨h.objs,[],(q':Int),h.stk++[vInt (Ct n)],h.env⟩:=⟨by simp,⟨l',by simpa using f2,by simp only[List.length_append,List.length_singleton];omega,f4⟩,Ce f5 (by unfold okV vInt Ct;simp only[if_true,decide_eq_true_eq];omega),f6,ah.objs⟩
  refine gz ?_ o5 [11]
  exact⟨i+1,h.objs,q',h.stk++[vInt (Ct n)],h.env,⟨by omega,aP,by simp only[List.length_append,List.length_singleton];omega,by omega⟩,td1,wkR⟩
end Go.DL
