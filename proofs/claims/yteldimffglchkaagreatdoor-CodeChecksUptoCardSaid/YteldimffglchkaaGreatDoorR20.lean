/- A part of the proof. -/
import Derived.Test.YteldimffglchkaaGreatDoorR19
import Derived.Test.YteldimffglchkaaGreatDoorR18
import Derived.Test.YteldimffglchkaaGreatDoorR17
import Derived.Test.YteldimffglchkaaGreatDoorR12
set_option linter.all false
namespace Go.DL
open Go.Proofs.Tryz
open Go Go.Proofs Go.ChangeShapes Go.WideShapes Go.ChangeAt Go.RowKit
open Go.Proofs.YteldimffglchkaaGreatDoor
open Go.Proofs.YteldimffglchkaaGreatDoor.Rows (uptoBulk uptoBulkAll)
set_option maxRecDepth 100000
section
variable {H:Type}{enc:TypeId×Value->H}{W:Go.World}{base:Nat}
theorem VO(n:Nat):Dec enc W n 87 cIns (fun _=>1):=fun cs x h=>by
 obtain⟨xs,m,hm,hb,hl,hx,hf⟩:=Dc underlying87 h
 rw[show prog.cellsOf 87=2 by kernel_rfl]at hl
 match cs,hl with
 | [v0,v1],_ =>
  match xs,hx with
  |[x0,x1],_=>
   obtain⟨a0,r0,w0⟩:=Cr underlying85 [v0] x0 (CN (hf 0 _ rfl) (show prog.cellsOf 85=1 by kernel_rfl) rfl)
   obtain⟨a1,r1,w1⟩:=Cr underlying3 [v1] x1 (CN (hf 1 _ rfl) cellsI rfl)
   refine⟨⟨a0,a1⟩,r0.append r1,?_⟩
   rw[hb];simp only[uptoBulkAll,List.map_cons,List.map_nil];omega
def CProg.wt(c:CProg):Nat:=c.ins.length+c.starts.length
theorem TM(n:Nat):Dec enc W n 30 cCPg CProg.wt:=fun cs x h=>by
 obtain⟨xs,m,hm,hb,hl,hx,hf⟩:=Dc underlying30 h
 rw[show prog.cellsOf 30=3 by kernel_rfl]at hl
 match cs,hl with
 | [v0,v1,v2],_ =>
  match xs,hx with
  |[x0,x1,x2],_=>
   obtain⟨a0,r0,w0⟩:=DU underlying28 (by kernel_rfl:prog.cellsOf 87=2) (by omega) (fun _=>rfl) (fun _ _=>VO _) [v0] x0 (CN (hf 0 _ rfl) (show prog.cellsOf 28=1 by kernel_rfl) rfl)
   obtain⟨a1,r1,w1⟩:=G3 _ [v1] x1 (CN (hf 1 _ rfl) (show prog.cellsOf 23=1 by kernel_rfl) rfl)
   obtain⟨a2,r2,w2⟩:=Cr underlying3 [v2] x2 (CN (hf 2 _ rfl) cellsI rfl)
   refine⟨⟨a0,a1,a2⟩,r0.append (r1.append r2),?_⟩
   rw[hb];clear hf hx hl;simp only[JY]at*; simp only[CProg.wt,uptoBulkAll,List.map_cons,List.map_nil];omega
theorem Qv{v:Value}{d:DataW H}{ps:List MemPlace}(aE:Value.okWide prog W .any base 30 v)(h:DataW.Trod enc prog W 0 (fun _=>true) true 30 v d ps): ∃c:CProg,Rep (g0 W) (.agg (cCPg c)) v/\c.wt<=Rows.uptoBulk d:=by
 obtain⟨cs,rfl,_⟩:=okWide_struct underlying30 aE
 obtain⟨n,hn⟩:=h
 obtain⟨c,h1,h2⟩:=TM n _ _ hn
 exact⟨c,⟨cs.toList,by simp,h1⟩,h2⟩
theorem Pa:prog.readableRec 30=true:=by kernel_rfl
theorem LN:30<prog.types.size:=of_decide_eq_true (by kernel_rfl)
theorem law2c{N:Nat}{f:Func}(hf:f.params=#[27,30])(bx:f.resultTypes=#[4])(hN:∀(p:BProg) (c:CProg),p.wt<=1048576->c.wt<=1048576->EI prog N [.agg (Ad p),.agg (cCPg c)] (fun _=>none) fun x _=>x=.ret (.bool true))
  {s:ChangeSpec} (hv:s.vars=[]) (cH:∀d e,s.fn H [d,e]={ results:=[.lit (.bool true)],args:=[d,e] }) {args:Array Value}{ds gs:List (DataW H)}{before:List MemPlace}
  (aE:∀(j:Nat) t v,f.params[j]? = some t->args[j]? = some v->Value.okWide prog W .any base t v)
  (hW:DataW.Whole enc prog f.params.toList s.vars false W args.toList ds gs before) (hk:Rows.uptoSmall H (ds++gs)=true) (hP:Q1 W) :
  Calls prog N args W fun e W'=> ∃v,e=.returned v/\s.post enc prog f false true false false W args v W':=by
 have cT:=hW
 obtain⟨p,q,hA,hV,rfl,dp,bW⟩:=hW
 rw[hv]at hV
 obtain⟨rfl,rfl⟩:=trodVars_none hV
 rw[hf]at hA aE
 obtain⟨v0,vs0,d0,ds0,p0,q0,ca,rfl,rfl,h0,r0⟩:=trodAll_cons hA
 obtain⟨v1,vs1,d1,ds1,p1,q1,bL,rfl,rfl,h1,r1⟩:=trodAll_cons r0
 obtain⟨rfl,rfl,rfl⟩:=trodAll_nil r1
 obtain rfl:args=#[v0,v1]:=by cases args;simp_all
 have hb:Rows.uptoBulk d0+(Rows.uptoBulk d1+0)<=1048576:=of_decide_eq_true hk
 obtain⟨pr,hr,hw⟩:=Qy (aE 0 27 v0 rfl rfl) h0
 obtain⟨c,hc,dt⟩:=Qv (aE 1 30 v1 rfl rfl) h1
 refine(Rg (hN pr c (by omega) (by omega)) W hP (vs:=[v0,v1]) ⟨v0,[v1],rfl,hr,v1,[],rfl,hc,rfl⟩).mono fun e W' ⟨he,bB,cw,bA⟩=>?_
 refine⟨_,he,UT hv bx (fun t ht=>?_) cT (cH d0 d1) bB cw bA⟩
 rw[hf]at ht
 have ht:t=27\/t=30:=by simpa using ht
 rcases ht with rfl|rfl
 ·exact⟨Pb,P2⟩
 ·exact⟨Pa,LN⟩
end
end Go.DL
namespace Go.DL
open Go.Proofs.Tryz
open Go Go.Proofs
set_option maxHeartbeats 80000000
@[simp] theorem cIns_take(x:CIns):List.take 2 (cIns x)=cIns x:=rfl
@[simp] theorem mem_cIns(y:D)(x:CIns):y∈cIns x ↔ y=dI x.op\/y=dI x.a:=by simp[cIns]
def eIL(m:MetL):List (D×D):=eM dI (fun l=>.agg (cLev l)) m
@[simp] theorem hitILok(k:Int)(m:MetL):hitD tab 79 true (CE (.int .i64) (.int .i64 k) (eIL m) 0)=some (.tup [.agg [.int .i64 (getM ⟨0,0⟩ k m).st,.int .i64 (getM ⟨0,0⟩ k m).env],.bool (hasM k m)]):=Oq keyI (fun l=>.agg (cLev l)) rfl k m
@[simp] theorem hitIL(k:Int)(m:MetL):hitD tab 79 false (CE (.int .i64) (.int .i64 k) (eIL m) 0)=some (.agg [.int .i64 (getM ⟨0,0⟩ k m).st,.int .i64 (getM ⟨0,0⟩ k m).env]):=Rl keyI (fun l=>.agg (cLev l)) rfl k m
@[simp] theorem putIL(k a b:Int)(m:MetL):D1 (.int .i64) (.int .i64 k) (.agg [.int .i64 a,.int .i64 b]) (eIL m)=some (eIL (putM k ⟨a,b⟩ m)):=O9 keyI (fun l=>.agg (cLev l)) k ⟨a,b⟩ m
def ReR(p:BProg)(c:CProg)(im2:Nat)(m:MetL)(n:Int)(l:CLev)(O:Sig)(x:DE)(U':Sig):Prop:=
 if n<0\/(c.ins.length:Int)<=n\/(hasM n m=true/\getM ⟨0,0⟩ n m≠l) then x=.panic unfC/\U'=O else x=.ret (.tup [])/\U'=O.set im2 (.map (eIL (putM n l m)))
theorem CQ(p:BProg)(c:CProg)(im im2:Nat)(m:MetL)(n:Int)(l:CLev)(O:Sig)(hc:c.ins.length<=300)(hm:O im2=some (.map (eIL m))):DCall prog 170 [dI n,.agg (cLev l),.cptr [.map im2] 0,.cptr [cChk p c im] 0] O (ReR p c im2 m n l O):=by
 obtain⟨st,env⟩:=l
 refine en func170 ntmps170 ?_
 by_cases h1:n<0
 ·refine gf hm ?_
  exact finP (U':=O) (by unfold ReR;rw[if_pos (.inl h1)];exact⟨rfl,rfl⟩)
 by_cases h2:(c.ins.length:Int)<=n
 ·refine gf hm ?_
  exact finP (U':=O) (by unfold ReR;rw[if_pos (.inr (.inl h2))];exact⟨rfl,rfl⟩)
 cases hh:hasM n m with
 |false=>
  refine gf (gi hm hh) ?_
  exact EW (U':=O.set im2 (.map (eIL (putM n ⟨st,env⟩ m)))) (by unfold ReR;rw[if_neg (by rintro(h|h|h);exact h1 h;exact h2 h;rw[hh]at h;cases h.1)];exact⟨rfl,rfl⟩)
 | true =>
  refine gf (gi hm hh) ?_
  refine eqlS _ (decide (getM ⟨0,0⟩ n m=(⟨st,env⟩:CLev))) MK Ma (TC _ _) ?_
  by_cases he:getM ⟨0,0⟩ n m=(⟨st,env⟩:CLev)
  ·refine gf (gi he hm) ?_
   exact EW (U':=O.set im2 (.map (eIL (putM n ⟨st,env⟩ m)))) (by unfold ReR;rw[if_neg (by rintro(h|h|h);exact h1 h;exact h2 h;exact h.2 he)];exact⟨rfl,rfl⟩)
  ·refine gf he ?_
   exact finP (U':=O) (by unfold ReR;rw[if_pos (.inr (.inr ⟨hh,he⟩))];exact⟨rfl,rfl⟩)
theorem ReR.met{p:BProg}{c:CProg}{im2:Nat}{m:MetL}{n:Int}{l:CLev}{O:Sig}{x:DE}{U':Sig}(h:ReR p c im2 m n l O x U'):(AI c.ins.length (metOf m) n l=none/\x=.panic unfC/\U'=O)\/(AI c.ins.length (metOf m) n l=some (metOf (putM n l m))/\x=.ret (.tup [])/\U'=O.set im2 (.map (eIL (putM n l m)))/\0<=n/\n<c.ins.length):=by
 unfold ReR at h
 unfold AI
 have e:(n<0\/(c.ins.length:Int)<=n\/(hasM n m=true/\getM ⟨0,0⟩ n m≠l)) ↔ (n<0\/(c.ins.length:Int)<=n\/(metOf m n.toNat≠none/\metOf m n.toNat≠some l)):=by
  by_cases h1:n<0
  ·simp[h1]
  ·have hn:((n.toNat:Nat):Int)=n:=by omega
   unfold metOf
   rw[hn]
   cases hh:hasM n m<;>simp
 split at h
 ·rename_i hc
  rw[if_pos (e.1 hc)]
  exact .inl ⟨rfl,h⟩
 ·rename_i hc
  rw[if_neg fun k=>hc (e.2 k)]
  have hn:n=((n.toNat:Nat):Int):=by
   have:¬n<0:=fun k=>hc (.inl k)
   omega
  refine .inr ⟨?_,h.1,h.2,by omega,?_⟩
  ·have h3:=De m n.toNat l
   rw[<-hn]at h3
   rw[h3]
  ·have:¬(c.ins.length:Int)<=n:=fun k=>hc (.inr (.inl k))
   omega
theorem newIL{ro:Ro}{n:Nat}{ops:Array Oper}{Q:DX->St->Prop}{df:List DDf}{rest:List Oper}{γ:Fr}{O:Sig}{t:Nat}{ty:TypeId}{pos:String}{after:Array Edge}{T:Nat}(h:∀i,O i=none->DOps prog ro n ops Q rest ⟨(t,.map i)::γ,O.set i (.map (eIL [])),df⟩)(ck:decide (t<n)=true:=by exact tdR):DOps prog ro n ops Q (⟨some t,.makeMap T none,ty,pos,after,none⟩::rest) ⟨γ,O,df⟩:=newM h ck
def cSt(s:CSt):List D:=[dI s.pos,dI s.env,.bool s.next]
theorem Ln{c:CProg}{q:Nat}(h:q<c.ins.length):Am c q=c.ins[q]:=by unfold Am;rw[List.getElem?_eq_getElem h];rfl
theorem KS{m:MetL}{n:Nat}{lv:CLev}{env:Int}{q:Nat}(hb:∀j l,metOf m j=some l->0<=l.st/\l.st<=q/\env<=l.env/\l.env<=env+q)(h:0<=lv.st/\lv.st<=q+1/\env<=lv.env/\lv.env<=env+q+1){z:Int}(hz:z=(n:Int)): ∀j l,metOf (putM z lv m) j=some l->0<=l.st/\l.st<=((q+1:Nat):Int)/\env<=l.env/\l.env<=env+((q+1:Nat):Int):=fun j l hj=>by
 rw[hz,De]at hj
 unfold updM at hj
 split at hj
 ·cases hj;omega
 ·have:=hb j l hj;omega
theorem bd_put2{m:MetL}{n k:Nat}{lv:CLev}{env:Int}{q:Nat}(hb:∀j l,metOf m j=some l->0<=l.st/\l.st<=q/\env<=l.env/\l.env<=env+q)(h:0<=lv.st/\lv.st<=q+1/\env<=lv.env/\lv.env<=env+q+1){z y:Int}(hz:z=(n:Int))(hy:y=(k:Int)): ∀j l,metOf (putM z lv (putM y lv m)) j=some l->0<=l.st/\l.st<=((q+1:Nat):Int)/\env<=l.env/\l.env<=env+((q+1:Nat):Int):=fun j l hj=>by
 rw[hz,De,hy,De]at hj
 unfold updM at hj
 split at hj
 ·cases hj;omega
 ·split at hj
  ·cases hj;omega
  ·have:=hb j l hj;omega
theorem T5 {S:Type} (p:BProg) (c:CProg) (im:Nat) (s:CSt) (lb:Nat) (Good:Sig->S->Prop) (Bad:Sig->Prop) (touch:Nat->Prop) (step:Nat->CLev->S->Option S) (hp:p.wt<=1073741824) (hc:c.ins.length<=300) (bH:Cs p c.ins.length c.ins 0=true) (cG : ∀ n:Nat,0<=p.gens.getD n 0/\p.gens.getD n 0<=3) (he:0<=s.env/\s.env<=1000)
  (hy:∀k l O s,k<c.ins.length->Good O s->DYield prog lb [dI k,.agg (cLev l)] O (OutO unfC (.bool true) Good Bad touch O (step k l s))) (O:Sig) (s0:S) (hG:Good O s0)
  (hI:∀a,O a=none->∀S1 s o,Good S1 s->Good (S1.set a o) s) (ht:∀a,O a=none->¬touch a) (hB:∀S1 s,Good S1 s->Bad S1) :
  DCall prog 169 [.yld lb,.cptr [cChk p c im] 0,.cptr (cSt s) 0] O (OutO unfC (.tup []) Good Bad touch O (B5 p c s step s0)):=by
 obtain⟨p1,p2,p3,p4,p5,p6,p7⟩:=p.wt_le
 obtain⟨cK,cJ⟩:=he
 obtain⟨pos,env,next⟩:=s
 simp only at cK cJ
 refine en func169 ntmps169 ?_
 refine gz ?_ [] [12]
 refine newIL (fun im2 ar=>?_)
 refine gz ?_ [] [12]
 refine A4 (CQ p c im im2 [] pos ⟨0,env⟩ _ hc (w6 ..)) (fun d U' hr=>?_) (fun d U' hr=>?_)
 ·rcases hr.met with ⟨_,h,_⟩ | ⟨dc,aT,bf,da,c9⟩
  ·cases h
  cases aT
  subst bf
  obtain⟨q0,rfl⟩:∃q0:Nat,pos=(q0:Int):=⟨pos.toNat,by omega⟩
  refine gz ?_ [] [12]
  have nim:∀j o,O j=some o->j≠im2:=fun j o h e=>by rw[e,ar]at h;cases h
  refine Ph [0,1,2,4,5] (fun (q:Nat) (m:MetL) (s1:S) (S1:Sig)=>q0<=q/\q<=c.ins.length/\Good S1 s1/\S1 im2=some (.map (eIL m))/\(∀j o,O j=some o->¬touch j->S1 j=some o)/\B5 p c ⟨(q0:Int),env,next⟩ step s0=CZ p c env next step (c.ins.length-q) q (metOf m) s1 /\ ∀j l,metOf m j=some l->0<=l.st/\l.st<=q/\env<=l.env/\l.env<=env+q) (fun q _ _ _=>[(6,dI q)]) (fun _ _ _ S1=>S1) (fun q _ _ _=>c.ins.length-q) (q0) (putM (q0:Int) ⟨0,env⟩ []) (s0) ((O.set im2 (.map (eIL []))).set im2 (.map (eIL (putM (q0:Int) ⟨0,env⟩ [])))) (by exact⟨Nat.le_refl _,by omega,hI im2 ar _ _ _ (hI im2 ar _ _ _ hG),w6 .., fun j o h _=>by rw[w7 _ _ (nim j o h),w7 _ _ (nim j o h)];exact h,by unfold B5;rw[if_neg (by simp only;omega),De];rfl,fun j l h=>by rw[De]at h;unfold updM at h;split at h;(cases h;simp only;omega);cases h⟩) (fun q m s1 S1 hI=>?_)
  obtain⟨dh,de,ay,ak,ap,hR,aJ⟩:=hI
  by_cases hq:q<c.ins.length
  ·have bd:c.ins.length-q=(c.ins.length-(q+1))+1:=by omega
   rw[bd,CZ,Ln hq]at hR
   have aH:=HY _ _ bH q _ (List.getElem?_eq_getElem hq)
   rw[Nat.zero_add]at aH
   cases aI:metOf m q with
   | none =>
    have hh:hasM (q:Int) m=false:=by
     unfold metOf at aI
     split at aI
     ·cases aI
     ·rename_i h;simpa using h
    rw[aI]at hR
    simp only at hR
    refine gf (gi ak hh) ?_ [] [12]
    exact⟨q+1,m,s1,S1,⟨by omega,by omega,ay,ak,ap,hR,fun j l h=>by have:=aJ j l h;omega⟩,td1,wkR⟩
   | some l =>
    have hh:hasM (q:Int) m=true/\getM ⟨0,0⟩ (q:Int) m=l:=by
     unfold metOf at aI
     split at aI
     ·rename_i h;exact⟨h,by simpa using aI⟩
     ·cases aI
    obtain⟨aC,aB⟩:=hh
    obtain⟨b1,b2,b3,b4⟩:=aJ q l aI
    rw[aI]at hR
    simp only at hR
    have hu:=fun cZ:(c.ins[q]).op=19=>(show 0<=(c.ins[q]).a/\(c.ins[q]).a<p.gens.length by unfold fitsQ at aH;rw[cZ]at aH;simpa using aH)
    have bT:0<=(Ag p c.ins[q]).1/\(Ag p c.ins[q]).1<=3/\0<=(Ag p c.ins[q]).2/\(Ag p c.ins[q]).2<=1:=by
     have:=cG (c.ins[q]).a.toNat
     unfold Ag
     repeat' split
     all_goals simp only;omega
    obtain⟨x,hx⟩:∃x,x=c.ins[q]:=⟨_,rfl⟩
    rw[<-hx]at hR aH hu bT
    have ag:=hx.symm
    have i171:∀O,Ans 171 [cChk p c im,.agg (cIns x)] O True (.tup [dI (Ag p x).1,dI (Ag p x).2]):=fun O=>ah0 (T4 p c im x O hp hu)
    generalize bR:Ag p x=us at*
    obtain⟨take,give⟩:=us
    obtain⟨st,en⟩:=l
    simp only at bT b1 b2 b3 b4
    by_cases aG:¬(take<=st/\(x.op=3->x.a<en)/\(x.op=20->next=true))
    ·have am:B5 p c ⟨(q0:Int),env,next⟩ step s0=none:=by
      rw[hR]
      have:CT p c env next q x ⟨st,en⟩ (metOf m)=none:=by
       unfold CT;rw[bR]
       refine if_pos ?_
       by_cases k1:take<=st
       ·by_cases k2:x.op=3->x.a<en
        ·by_cases k3:x.op=20->next=true
         ·exact absurd ⟨k1,k2,k3⟩ aG
         ·rw[Classical.not_imp]at k3
          exact .inr (.inr (.inr ⟨k3.1,by simpa using k3.2⟩))
        ·rw[Classical.not_imp]at k2
         exact .inr (.inl ⟨k2.1,by have:=k2.2;show en<=x.a;omega⟩)
       ·exact .inl (by show st<take;omega)
      rw[this]
     have bj:st<take\/(x.op=3/\en<=x.a)\/(x.op=20/\next=false):=by
      by_cases k1:take<=st
      ·by_cases k2:x.op=3->x.a<en
       ·by_cases k3:x.op=20->next=true
        ·exact absurd ⟨k1,k2,k3⟩ aG
        ·rw[Classical.not_imp]at k3
         exact .inr (.inr ⟨k3.1,by simpa using k3.2⟩)
       ·rw[Classical.not_imp]at k2
        exact .inr (.inl ⟨k2.1,by have:=k2.2;omega⟩)
      ·exact .inl (by omega)
     clear aG hR
     rcases bj with k1|⟨k1,k2⟩|⟨k1,k2⟩
     ·repeat' first|refine gf (gi ak (gi aC (gi aB ag))) ?_ [] [12]|apply gy<;>intro hh
      all_goals exact finP (U':=S1) (by rw[am];exact⟨rfl,hB _ _ ay⟩)
     ·repeat' first|refine gf (gi ak (gi aC (gi aB (gi ag k1)))) ?_ [] [12]|apply gy<;>intro hh
      all_goals exact finP (U':=S1) (by rw[am];exact⟨rfl,hB _ _ ay⟩)
     ·repeat' first|refine gf (gi ak (gi aC (gi aB (gi ag (gi k1 k2))))) ?_ [] [12]|apply gy<;>intro hh
      all_goals exact finP (U':=S1) (by rw[am];exact⟨rfl,hB _ _ ay⟩)
    ·rw [Classical.not_not] at aG
     obtain⟨e1,e2,e3⟩:=aG
     have bt:¬(st<take\/(x.op=3/\en<=x.a)\/(x.op=15/\en<=env)\/(x.op=20/\next=false)) ↔ ¬(x.op=15/\en<=env):=by
      constructor
      ·intro h k;exact h (.inr (.inr (.inl k)))
      ·rintro h (k|⟨k,k2⟩|k|⟨k,k2⟩)
       ·omega
       ·have:=e2 k;omega
       ·exact h k
       ·rw[e3 k]at k2;cases k2
     have aF:∀l:CLev,CT p c env next q x ⟨st,en⟩ (metOf m)=if(st<take\/(x.op=3/\en<=x.a)\/(x.op=15/\en<=env)\/(x.op=20/\next=false)) then none
      else if x.op=21 then(if st=1/\en=env then some (metOf m) else none)
      else if x.op=14 then AI c.ins.length (metOf m) ((q:Int)+1) ⟨st-take+give,en+1⟩
      else if x.op=15 then AI c.ins.length (metOf m) ((q:Int)+1) ⟨st-take+give,en-1⟩
      else if x.op=18 then AI c.ins.length (metOf m) x.a ⟨st-take+give,en⟩
      else if x.op=17 then(match AI c.ins.length (metOf m) x.a ⟨st-take+give,en⟩with
       |none=>none
       |some m=>AI c.ins.length m ((q:Int)+1) ⟨st-take+give,en⟩)
      else AI c.ins.length (metOf m) ((q:Int)+1) ⟨st-take+give,en⟩:=fun _=>by unfold CT;rw[bR];rfl
     rw[aF ⟨0,0⟩]at hR
     clear aF
     by_cases aK:x.op=21
     ·rw[if_neg (bt.2 (by omega)),if_pos aK]at hR
      by_cases aU:st=1/\en=env
      ·rw[if_pos aU]at hR
       obtain⟨g1,g2⟩:=aU
       simp only at hR
       refine gf (gi ak (gi aC (gi aB (gi ag aK)))) ?_ [] [12]
       refine yldW (hy q ⟨st,en⟩ S1 s1 hq ay) (fun d S2 hr=>?_) (fun d S2 hr=>?_)
       rotate_left
       ·obtain⟨hn,rfl,hb⟩:=hr.pan
        rw[hn]at hR
        have am:B5 p c ⟨(q0:Int),env,next⟩ step s0=none:=by first|exact hR|(rw[hR];split<;>rfl)
        exact finP (U':=S2) (by rw[am];exact⟨rfl,hb⟩)
       obtain⟨s2,ax,rfl,ai,ac⟩:=hr.ret
       rw[ax]at hR
       have hm2:=ac im2 _ ak (ht im2 ar)
       have aw:∀j o,O j=some o->¬touch j->S2 j=some o:=fun j o h1 h2=>ac j o (ap j o h1 h2) h2
       refine gf (gi ag aK) ?_ [] [12]
       refine newV (fun i12 aa=>?_)
       have n12:im2≠i12:=fun e=>by rw[<-e,hm2]at aa;cases aa
       refine gf (gi ag aK) ?_ [] [12]
       exact⟨q+1,m,s2,S2,⟨by omega,by omega,ai,hm2,aw,hR,fun j l h=>by have:=aJ j l h;omega⟩,td1,wkR⟩
      ·rw[if_neg aU]at hR
       simp only at hR
       refine gf (gi ak (gi aC (gi aB (gi ag aK)))) ?_ [] [12]
       refine yldW (hy q ⟨st,en⟩ S1 s1 hq ay) (fun d S2 hr=>?_) (fun d S2 hr=>?_)
       rotate_left
       ·obtain⟨hn,rfl,hb⟩:=hr.pan
        have am:B5 p c ⟨(q0:Int),env,next⟩ step s0=none:=hR
        exact finP (U':=S2) (by rw[am];exact⟨rfl,hb⟩)
       obtain⟨s2,ax,rfl,ai,ac⟩:=hr.ret
       have hm2:=ac im2 _ ak (ht im2 ar)
       have aw:∀j o,O j=some o->¬touch j->S2 j=some o:=fun j o h1 h2=>ac j o (ap j o h1 h2) h2
       refine gf (gi ag aK) ?_ [] [12]
       refine newV (fun i12 aa=>?_)
       have n12:im2≠i12:=fun e=>by rw[<-e,hm2]at aa;cases aa
       repeat' first|refine gf (gi ag aK) ?_ [] [12]|apply gy<;>intro hh
       all_goals exact finP (U':=S2) (by rw[hR];exact⟨rfl,hB _ _ ai⟩)
     have aj:∀(i12:Nat) (o o':DObj),im2≠i12->S1=S1->∀S2:Sig,S2 i12=none->Sub (S2.set im2 o) ((S2.set i12 o').set im2 o):=fun i12 o o' hn _ S2 aa k y hk=>by
      by_cases bZ:k=im2
      ·subst bZ;rw[w6]at hk⊢; exact hk
      ·rw[w7 _ _ bZ]at hk⊢
       rw[w7 _ _ (fun e=>by rw[e,aa]at hk;cases hk)];exact hk
     ·by_cases aY:x.op=14
      ·rw[if_neg (bt.2 (by omega)),if_neg aK,if_pos aY]at hR
       refine gf (gi ak (gi aC (gi aB (gi ag aY)))) ?_ [] [12]
       refine yldW (hy q ⟨st,en⟩ S1 s1 hq ay) (fun d S2 hr=>?_) (fun d S2 hr=>?_)
       rotate_left
       ·obtain⟨hn,rfl,hb⟩:=hr.pan
        rw[hn]at hR
        have am:B5 p c ⟨(q0:Int),env,next⟩ step s0=none:=by first|exact hR|(rw[hR];split<;>rfl)
        exact finP (U':=S2) (by rw[am];exact⟨rfl,hb⟩)
       obtain⟨s2,ax,rfl,ai,ac⟩:=hr.ret
       rw[ax]at hR
       have hm2:=ac im2 _ ak (ht im2 ar)
       have aw:∀j o,O j=some o->¬touch j->S2 j=some o:=fun j o h1 h2=>ac j o (ap j o h1 h2) h2
       refine gf (gi ag aY) ?_ [] [12]
       refine newV (fun i12 aa=>?_)
       have n12:im2≠i12:=fun e=>by rw[<-e,hm2]at aa;cases aa
       refine gf (gi ag aY) ?_ [] [12]
       refine A4 (CQ p c im im2 (m) ((q:Int)+1) ⟨st-take+give,en+1⟩ _ hc (by rw[w7 _ _ n12];exact hm2)) (fun d S3 hr=>?_) (fun d S3 hr=>?_)
       rotate_left
       ·rcases hr.met with⟨hn,ah,ae⟩|⟨_,h5,_⟩
        ·cases ah
         subst ae
         rw[hn]at hR
         exact finP (U':=S2) (by rw[hR];exact⟨rfl,hB _ _ ai⟩)
        ·cases h5
       rcases hr.met with⟨_,h5,_⟩|⟨hn,ah,ae,aW,aV⟩
       ·cases h5
       cases ah
       subst ae
       rw[hn]at hR
       simp only at hR
       have aA:=aj i12 (.map (eIL (putM ((q:Int)+1) ⟨st-take+give,en+1⟩ m))) (.cells [dI (st-take+give),dI (en+1)]) n12 rfl S2 aa
       refine gf aY ?_ [] [12]
       exact⟨q+1,putM ((q:Int)+1) ⟨st-take+give,en+1⟩ m,s2,S2.set im2 (.map (eIL (putM ((q:Int)+1) ⟨st-take+give,en+1⟩ m))),⟨by omega,by omega,hI im2 ar _ _ _ ai,w6 .., fun j o h1 h2=>by rw[w7 _ _ (nim j o h1)];exact aw j o h1 h2,hR,KS (n:=q+1) aJ (by simp only;omega) (by omega)⟩,td1,wkR⟩
      ·by_cases aN:x.op=15
       ·by_cases bQ:en<=env
        ·rw[if_pos (.inr (.inr (.inl ⟨aN,bQ⟩)))]at hR
         simp only at hR
         refine gf (gi ak (gi aC (gi aB (gi ag aN)))) ?_ [] [12]
         refine yldW (hy q ⟨st,en⟩ S1 s1 hq ay) (fun d S2 hr=>?_) (fun d S2 hr=>?_)
         rotate_left
         ·obtain⟨hn,rfl,hb⟩:=hr.pan
          have am:B5 p c ⟨(q0:Int),env,next⟩ step s0=none:=hR
          exact finP (U':=S2) (by rw[am];exact⟨rfl,hb⟩)
         obtain⟨s2,ax,rfl,ai,ac⟩:=hr.ret
         have hm2:=ac im2 _ ak (ht im2 ar)
         have aw:∀j o,O j=some o->¬touch j->S2 j=some o:=fun j o h1 h2=>ac j o (ap j o h1 h2) h2
         refine gf (gi ag aN) ?_ [] [12]
         refine newV (fun i12 aa=>?_)
         have n12:im2≠i12:=fun e=>by rw[<-e,hm2]at aa;cases aa
         repeat' first|refine gf (gi ag aN) ?_ [] [12]|apply gy<;>intro hh
         all_goals exact finP (U':=S2) (by rw[hR];exact⟨rfl,hB _ _ ai⟩)
        ·rw[if_neg (bt.2 (by omega)),if_neg aK,if_neg aY,if_pos aN]at hR
         refine gf (gi ak (gi aC (gi aB (gi ag aN)))) ?_ [] [12]
         refine yldW (hy q ⟨st,en⟩ S1 s1 hq ay) (fun d S2 hr=>?_) (fun d S2 hr=>?_)
         rotate_left
         ·obtain⟨hn,rfl,hb⟩:=hr.pan
          rw[hn]at hR
          have am:B5 p c ⟨(q0:Int),env,next⟩ step s0=none:=by first|exact hR|(rw[hR];split<;>rfl)
          exact finP (U':=S2) (by rw[am];exact⟨rfl,hb⟩)
         obtain⟨s2,ax,rfl,ai,ac⟩:=hr.ret
         rw[ax]at hR
         have hm2:=ac im2 _ ak (ht im2 ar)
         have aw:∀j o,O j=some o->¬touch j->S2 j=some o:=fun j o h1 h2=>ac j o (ap j o h1 h2) h2
         refine gf (gi ag aN) ?_ [] [12]
         refine newV (fun i12 aa=>?_)
         have n12:im2≠i12:=fun e=>by rw[<-e,hm2]at aa;cases aa
         refine gf (gi ag aN) ?_ [] [12]
         refine A4 (CQ p c im im2 (m) ((q:Int)+1) ⟨st-take+give,en-1⟩ _ hc (by rw[w7 _ _ n12];exact hm2)) (fun d S3 hr=>?_) (fun d S3 hr=>?_)
         rotate_left
         ·rcases hr.met with⟨hn,ah,ae⟩|⟨_,h5,_⟩
          ·cases ah
           subst ae
           rw[hn]at hR
           exact finP (U':=S2) (by rw[hR];exact⟨rfl,hB _ _ ai⟩)
          ·cases h5
         rcases hr.met with⟨_,h5,_⟩|⟨hn,ah,ae,aW,aV⟩
         ·cases h5
         cases ah
         subst ae
         rw[hn]at hR
         simp only at hR
         have aA:=aj i12 (.map (eIL (putM ((q:Int)+1) ⟨st-take+give,en-1⟩ m))) (.cells [dI (st-take+give),dI (en-1)]) n12 rfl S2 aa
         refine gf aN ?_ [] [12]
         exact⟨q+1,putM ((q:Int)+1) ⟨st-take+give,en-1⟩ m,s2,S2.set im2 (.map (eIL (putM ((q:Int)+1) ⟨st-take+give,en-1⟩ m))),⟨by omega,by omega,hI im2 ar _ _ _ ai,w6 .., fun j o h1 h2=>by rw[w7 _ _ (nim j o h1)];exact aw j o h1 h2,hR,KS (n:=q+1) aJ (by simp only;omega) (by omega)⟩,td1,wkR⟩
       ·rw [if_neg (bt.2 (by omega)),if_neg aK,if_neg aY,if_neg aN] at hR
        by_cases aX:x.op=18
        ·rw[if_pos aX]at hR
         have cg:(q:Int)<x.a/\x.a<c.ins.length:=by unfold fitsQ at aH;rw[aX]at aH;simpa using aH
         obtain⟨xa,aS⟩:∃xa:Nat,x.a=(xa:Int):=⟨x.a.toNat,by omega⟩
         refine gf (gi ak (gi aC (gi aB (gi ag aX)))) ?_ [] [12]
         refine yldW (hy q ⟨st,en⟩ S1 s1 hq ay) (fun d S2 hr=>?_) (fun d S2 hr=>?_)
         rotate_left
         ·obtain⟨hn,rfl,hb⟩:=hr.pan
          rw[hn]at hR
          have am:B5 p c ⟨(q0:Int),env,next⟩ step s0=none:=by first|exact hR|(rw[hR];split<;>rfl)
          exact finP (U':=S2) (by rw[am];exact⟨rfl,hb⟩)
         obtain⟨s2,ax,rfl,ai,ac⟩:=hr.ret
         rw[ax]at hR
         have hm2:=ac im2 _ ak (ht im2 ar)
         have aw:∀j o,O j=some o->¬touch j->S2 j=some o:=fun j o h1 h2=>ac j o (ap j o h1 h2) h2
         refine gf (gi ag aX) ?_ [] [12]
         refine newV (fun i12 aa=>?_)
         have n12:im2≠i12:=fun e=>by rw[<-e,hm2]at aa;cases aa
         refine gf (gi ag aX) ?_ [] [12]
         refine A4 (CQ p c im im2 (m) (x.a) ⟨st-take+give,en⟩ _ hc (by rw[w7 _ _ n12];exact hm2)) (fun d S3 hr=>?_) (fun d S3 hr=>?_)
         rotate_left
         ·rcases hr.met with⟨hn,ah,ae⟩|⟨_,h5,_⟩
          ·cases ah
           subst ae
           rw[hn]at hR
           exact finP (U':=S2) (by rw[hR];exact⟨rfl,hB _ _ ai⟩)
          ·cases h5
         rcases hr.met with⟨_,h5,_⟩|⟨hn,ah,ae,aW,aV⟩
         ·cases h5
         cases ah
         subst ae
         rw[hn]at hR
         simp only at hR
         have aA:=aj i12 (.map (eIL (putM x.a ⟨st-take+give,en⟩ m))) (.cells [dI (st-take+give),dI en]) n12 rfl S2 aa
         refine gf aX ?_ [] [12]
         exact⟨q+1,putM x.a ⟨st-take+give,en⟩ m,s2,S2.set im2 (.map (eIL (putM x.a ⟨st-take+give,en⟩ m))),⟨by omega,by omega,hI im2 ar _ _ _ ai,w6 .., fun j o h1 h2=>by rw[w7 _ _ (nim j o h1)];exact aw j o h1 h2,hR,KS (n:=xa) aJ (by simp only;omega) aS⟩,td1,wkR⟩
        ·rw [if_neg aX] at hR
         by_cases aR:x.op=17
         ·rw[if_pos aR]at hR
          have cg:(q:Int)<x.a/\x.a<c.ins.length:=by unfold fitsQ at aH;rw[aR]at aH;simpa using aH
          obtain⟨xa,aS⟩:∃xa:Nat,x.a=(xa:Int):=⟨x.a.toNat,by omega⟩
          refine gf (gi ak (gi aC (gi aB (gi ag aR)))) ?_ [] [12]
          refine yldW (hy q ⟨st,en⟩ S1 s1 hq ay) (fun d S2 hr=>?_) (fun d S2 hr=>?_)
          rotate_left
          ·obtain⟨hn,rfl,hb⟩:=hr.pan
           rw[hn]at hR
           have am:B5 p c ⟨(q0:Int),env,next⟩ step s0=none:=by first|exact hR|(rw[hR];split<;>rfl)
           exact finP (U':=S2) (by rw[am];exact⟨rfl,hb⟩)
          obtain⟨s2,ax,rfl,ai,ac⟩:=hr.ret
          rw[ax]at hR
          have hm2:=ac im2 _ ak (ht im2 ar)
          have aw:∀j o,O j=some o->¬touch j->S2 j=some o:=fun j o h1 h2=>ac j o (ap j o h1 h2) h2
          refine gf (gi ag aR) ?_ [] [12]
          refine newV (fun i12 aa=>?_)
          have n12:im2≠i12:=fun e=>by rw[<-e,hm2]at aa;cases aa
          refine gf (gi ag aR) ?_ [] [12]
          refine A4 (CQ p c im im2 (m) (x.a) ⟨st-take+give,en⟩ _ hc (by rw[w7 _ _ n12];exact hm2)) (fun d S3 hr=>?_) (fun d S3 hr=>?_)
          rotate_left
          ·rcases hr.met with⟨hn,ah,ae⟩|⟨_,h5,_⟩
           ·cases ah
            subst ae
            rw[hn]at hR
            exact finP (U':=S2) (by rw[hR];exact⟨rfl,hB _ _ ai⟩)
           ·cases h5
          rcases hr.met with⟨_,h5,_⟩|⟨hn,ah,ae,aW,aV⟩
          ·cases h5
          cases ah
          subst ae
          rw[hn]at hR
          simp only at hR
          have bU:=aj i12 (.map (eIL (putM x.a ⟨st-take+give,en⟩ m))) (.cells [dI (st-take+give),dI en]) n12 rfl S2 aa
          have cY:=hI im2 ar S2 s2 (.map (eIL (putM x.a ⟨st-take+give,en⟩ m))) ai
          refine gf aR ?_ [] [12]
          refine A4 (CQ p c im im2 (putM x.a ⟨st-take+give,en⟩ m) ((q:Int)+1) ⟨st-take+give,en⟩ _ hc (w6 ..)) (fun d S3 hr=>?_) (fun d S3 hr=>?_)
          rotate_left
          ·rcases hr.met with⟨hn,ah,ae⟩|⟨_,h5,_⟩
           ·cases ah
            subst ae
            rw[hn]at hR
            exact finP (U':=S2.set im2 (.map (eIL (putM x.a ⟨st-take+give,en⟩ m)))) (by rw[hR];exact⟨rfl,hB _ _ cY⟩)
           ·cases h5
          rcases hr.met with⟨_,h5,_⟩|⟨hn,ah,ae,aW,aV⟩
          ·cases h5
          cases ah
          subst ae
          rw[hn]at hR
          simp only at hR
          rw[w8]
          have aA:=aj i12 (.map (eIL (putM ((q:Int)+1) ⟨st-take+give,en⟩ (putM x.a ⟨st-take+give,en⟩ m)))) (.cells [dI (st-take+give),dI en]) n12 rfl S2 aa
          refine gf aR ?_ [] [12]
          exact⟨q+1,putM ((q:Int)+1) ⟨st-take+give,en⟩ (putM x.a ⟨st-take+give,en⟩ m),s2,S2.set im2 (.map (eIL (putM ((q:Int)+1) ⟨st-take+give,en⟩ (putM x.a ⟨st-take+give,en⟩ m)))),⟨by omega,by omega,hI im2 ar _ _ _ ai,w6 .., fun j o h1 h2=>by rw[w7 _ _ (nim j o h1)];exact aw j o h1 h2,hR,bd_put2 (n:=q+1) (k:=xa) aJ (by simp only;omega) (by omega) aS⟩,td1,wkR⟩
         ·rw [if_neg aR] at hR
          by_cases h3:x.op=3
          ·have e2':=e2 h3
           refine gf (gi ak (gi aC (gi aB (gi ag h3)))) ?_ [] [12]
           refine yldW (hy q ⟨st,en⟩ S1 s1 hq ay) (fun d S2 hr=>?_) (fun d S2 hr=>?_)
           rotate_left
           ·obtain⟨hn,rfl,hb⟩:=hr.pan
            rw[hn]at hR
            have am:B5 p c ⟨(q0:Int),env,next⟩ step s0=none:=by first|exact hR|(rw[hR];split<;>rfl)
            exact finP (U':=S2) (by rw[am];exact⟨rfl,hb⟩)
           obtain⟨s2,ax,rfl,ai,ac⟩:=hr.ret
           rw[ax]at hR
           have hm2:=ac im2 _ ak (ht im2 ar)
           have aw:∀j o,O j=some o->¬touch j->S2 j=some o:=fun j o h1 h2=>ac j o (ap j o h1 h2) h2
           refine gf (gi ag h3) ?_ [] [12]
           refine newV (fun i12 aa=>?_)
           have n12:im2≠i12:=fun e=>by rw[<-e,hm2]at aa;cases aa
           refine gf (gi ag h3) ?_ [] [12]
           refine A4 (CQ p c im im2 (m) ((q:Int)+1) ⟨st-take+give,en⟩ _ hc (by rw[w7 _ _ n12];exact hm2)) (fun d S3 hr=>?_) (fun d S3 hr=>?_)
           rotate_left
           ·rcases hr.met with⟨hn,ah,ae⟩|⟨_,h5,_⟩
            ·cases ah
             subst ae
             rw[hn]at hR
             exact finP (U':=S2) (by rw[hR];exact⟨rfl,hB _ _ ai⟩)
            ·cases h5
           rcases hr.met with⟨_,h5,_⟩|⟨hn,ah,ae,aW,aV⟩
           ·cases h5
           cases ah
           subst ae
           rw[hn]at hR
           simp only at hR
           have aA:=aj i12 (.map (eIL (putM ((q:Int)+1) ⟨st-take+give,en⟩ m))) (.cells [dI (st-take+give),dI (en)]) n12 rfl S2 aa
           refine gf h3 ?_ [] [12]
           exact⟨q+1,putM ((q:Int)+1) ⟨st-take+give,en⟩ m,s2,S2.set im2 (.map (eIL (putM ((q:Int)+1) ⟨st-take+give,en⟩ m))),⟨by omega,by omega,hI im2 ar _ _ _ ai,w6 .., fun j o h1 h2=>by rw[w7 _ _ (nim j o h1)];exact aw j o h1 h2,hR,KS (n:=q+1) aJ (by simp only;omega) (by omega)⟩,td1,wkR⟩
          ·by_cases br:x.op=20
           ·have e3':=e3 br
            refine gf (gi ak (gi aC (gi aB (gi ag (gi br e3'))))) ?_ [] [12]
            refine yldW (hy q ⟨st,en⟩ S1 s1 hq ay) (fun d S2 hr=>?_) (fun d S2 hr=>?_)
            rotate_left
            ·obtain⟨hn,rfl,hb⟩:=hr.pan
             rw[hn]at hR
             have am:B5 p c ⟨(q0:Int),env,next⟩ step s0=none:=by first|exact hR|(rw[hR];split<;>rfl)
             exact finP (U':=S2) (by rw[am];exact⟨rfl,hb⟩)
            obtain⟨s2,ax,rfl,ai,ac⟩:=hr.ret
            rw[ax]at hR
            have hm2:=ac im2 _ ak (ht im2 ar)
            have aw:∀j o,O j=some o->¬touch j->S2 j=some o:=fun j o h1 h2=>ac j o (ap j o h1 h2) h2
            refine gf (gi ag (gi br e3')) ?_ [] [12]
            refine newV (fun i12 aa=>?_)
            have n12:im2≠i12:=fun e=>by rw[<-e,hm2]at aa;cases aa
            refine gf (gi ag (gi br e3')) ?_ [] [12]
            refine A4 (CQ p c im im2 (m) ((q:Int)+1) ⟨st-take+give,en⟩ _ hc (by rw[w7 _ _ n12];exact hm2)) (fun d S3 hr=>?_) (fun d S3 hr=>?_)
            rotate_left
            ·rcases hr.met with⟨hn,ah,ae⟩|⟨_,h5,_⟩
             ·cases ah
              subst ae
              rw[hn]at hR
              exact finP (U':=S2) (by rw[hR];exact⟨rfl,hB _ _ ai⟩)
             ·cases h5
            rcases hr.met with⟨_,h5,_⟩|⟨hn,ah,ae,aW,aV⟩
            ·cases h5
            cases ah
            subst ae
            rw[hn]at hR
            simp only at hR
            have aA:=aj i12 (.map (eIL (putM ((q:Int)+1) ⟨st-take+give,en⟩ m))) (.cells [dI (st-take+give),dI (en)]) n12 rfl S2 aa
            refine gf (gi br e3') ?_ [] [12]
            exact⟨q+1,putM ((q:Int)+1) ⟨st-take+give,en⟩ m,s2,S2.set im2 (.map (eIL (putM ((q:Int)+1) ⟨st-take+give,en⟩ m))),⟨by omega,by omega,hI im2 ar _ _ _ ai,w6 .., fun j o h1 h2=>by rw[w7 _ _ (nim j o h1)];exact aw j o h1 h2,hR,KS (n:=q+1) aJ (by simp only;omega) (by omega)⟩,td1,wkR⟩
           ·skip
            refine gf (gi ak (gi aC (gi aB ag))) ?_ [] [12]
            refine yldW (hy q ⟨st,en⟩ S1 s1 hq ay) (fun d S2 hr=>?_) (fun d S2 hr=>?_)
            rotate_left
            ·obtain⟨hn,rfl,hb⟩:=hr.pan
             rw[hn]at hR
             have am:B5 p c ⟨(q0:Int),env,next⟩ step s0=none:=by first|exact hR|(rw[hR];split<;>rfl)
             exact finP (U':=S2) (by rw[am];exact⟨rfl,hb⟩)
            obtain⟨s2,ax,rfl,ai,ac⟩:=hr.ret
            rw[ax]at hR
            have hm2:=ac im2 _ ak (ht im2 ar)
            have aw:∀j o,O j=some o->¬touch j->S2 j=some o:=fun j o h1 h2=>ac j o (ap j o h1 h2) h2
            refine gf ag ?_ [] [12]
            refine newV (fun i12 aa=>?_)
            have n12:im2≠i12:=fun e=>by rw[<-e,hm2]at aa;cases aa
            refine gf ag ?_ [] [12]
            refine A4 (CQ p c im im2 (m) ((q:Int)+1) ⟨st-take+give,en⟩ _ hc (by rw[w7 _ _ n12];exact hm2)) (fun d S3 hr=>?_) (fun d S3 hr=>?_)
            rotate_left
            ·rcases hr.met with⟨hn,ah,ae⟩|⟨_,h5,_⟩
             ·cases ah
              subst ae
              rw[hn]at hR
              exact finP (U':=S2) (by rw[hR];exact⟨rfl,hB _ _ ai⟩)
             ·cases h5
            rcases hr.met with⟨_,h5,_⟩|⟨hn,ah,ae,aW,aV⟩
            ·cases h5
            cases ah
            subst ae
            rw[hn]at hR
            simp only at hR
            have aA:=aj i12 (.map (eIL (putM ((q:Int)+1) ⟨st-take+give,en⟩ m))) (.cells [dI (st-take+give),dI (en)]) n12 rfl S2 aa
            refine gz ?_ [] [12]
            exact⟨q+1,putM ((q:Int)+1) ⟨st-take+give,en⟩ m,s2,S2.set im2 (.map (eIL (putM ((q:Int)+1) ⟨st-take+give,en⟩ m))),⟨by omega,by omega,hI im2 ar _ _ _ ai,w6 .., fun j o h1 h2=>by rw[w7 _ _ (nim j o h1)];exact aw j o h1 h2,hR,KS (n:=q+1) aJ (by simp only;omega) (by omega)⟩,td1,wkR⟩
  ·
   have e0:c.ins.length-q=0:=by omega
   rw[e0,CZ]at hR
   refine gz ?_ [] [12]
   exact EW (U':=S1) (by rw[hR];exact⟨rfl,ay,ap⟩)
 ·rcases hr.met with⟨hn,ah,ae⟩|⟨_,h5,_⟩
  ·cases ah
   subst ae
   have am:B5 p c ⟨pos,env,next⟩ step s0=none:=by
    unfold B5
    refine if_pos ?_
    unfold AI at hn
    split at hn
    ·rename_i h
     rcases h with h|h|h
     ·exact .inl h
     ·exact .inr h
     ·exact absurd rfl h.1
    ·cases hn
   exact finP (U':=O) (by rw[am];exact⟨rfl,hB _ _ hG⟩) ((Sub.refl _).set ar)
  ·cases h5
end Go.DL
namespace Go.DL
open Go.Proofs.Tryz
open Go Go.Proofs
set_option maxHeartbeats 8000000
theorem B9{O:Sig}{a b:Nat}{o:DObj}(h:O a=some o)(k:O b=none):a≠b:=fun e=>by rw[e,k]at h;cases h
theorem RowAt.sref{O:Sig}{sz:Nat}{st:MR}{es:List (List D)}(h:RowAt O sz st es)(hne:es≠[]): ∃r c, ∀n,mD st n=.sref r 0 n c:=by
 rcases st with _|⟨i,cap,rest⟩
 ·exact absurd h hne
 ·exact⟨i,cap,fun _=>rfl⟩
def BK(ib:Nat)(O:Sig)(st:MR)(U':Sig)(st':MR):Prop:= ∀j o,O j=some o->j≠ib->¬G9 st j->U' j=some o /\ ¬G9 st' j
theorem BK.trans{ib:Nat}{O S1 S2:Sig}{st st1 st2:MR}(h:BK ib O st S1 st1)(k:BK ib S1 st1 S2 st2):BK ib O st S2 st2:=fun j o hj hi hn=>k j o (h j o hj hi hn).1 hi (h j o hj hi hn).2
theorem BK.refl(ib:Nat)(O:Sig)(st:MR):BK ib O st O st:=fun j o h _ hn=>⟨h,hn⟩
theorem BK.fresh{ib:Nat}{O S1:Sig}{st st1:MR}{k:Nat}{o:DObj}(h:BK ib O st S1 st1)(hk:S1 k=none):BK ib O st (S1.set k o) st1:=fun j x hj hi hn=>by
 obtain⟨h1,h2⟩:=h j x hj hi hn
 exact⟨by rw[w7 _ _ (B9 h1 hk)];exact h1,h2⟩
structure BlkS(ib:Nat)(s m:D)(st:MR)(ins:List CIns)(O:Sig):Prop where
 env:O ib=some (.cells [mD st ins.length,s,m])
 row:RowAt O 2 st (ins.map cIns)
 nr:¬G9 st ib
section
variable {ib:Nat}{s m:D}{st:MR}{ins:List CIns}{O:Sig}
theorem BlkS.notrow(h:BlkS ib s m st ins O){k:Nat}(hk:O k=none): ¬G9 st k:=fun hr=>by
 obtain⟨cs,hc⟩:=h.row.cells hr;rw[hk]at hc;cases hc
theorem BlkS.fresh(h:BlkS ib s m st ins O){k:Nat}{o:DObj}(hk:O k=none):BlkS ib s m st ins (O.set k o):=
 ⟨by rw[w7 _ _ (B9 h.env hk)];exact h.env,h.row.keep fun j x hj hr=>by rw[w7 _ _ fun e=>h.notrow hk (by rw[<-e];exact hr)];exact hj,h.nr⟩
theorem Dg(op a:Int)(hn:ins.length<=1000000)(hB:BlkS ib s m st ins O):DCall prog 132 [.ptr ib 0,dI op,dI a] O fun x U'=>x=.ret (.tup []) /\ ∃st',BlkS ib s m st' (ins++[⟨op,a⟩]) U'/\BK ib O st U' st':=by
 obtain⟨q1,q2,q3⟩:=hB
 refine en func132 ntmps132 ?_
 refine gf q1 ?_
 refine rapp (es:=ins.map cIns) (fun st2 S2 aT aZ=>?_) (hm:=q2)
 obtain⟨v1,v2⟩:=aZ _ _ q1 q3
 obtain⟨rr,rc,bX⟩:=aT.sref (by simp)
 have bD:=bX (ins.length+1)
 refine gf (gi v1 bD) ?_
 have bW:(ins++[(⟨op,a⟩:CIns)]).map cIns=ins.map cIns++[[dI op,dI a]]:=by simp[cIns]
 refine EW (U':=S2.set ib (.cells [.sref rr 0 (ins.length+1) rc,s,m])) ?_
 refine⟨rfl,st2,⟨by rw[w6,bX];simp,?_,v2⟩,fun j o hj b6 hr=>?_⟩
 ·rw[bW]
  exact aT.keep fun j x hj hr=>by rw[w7 _ _ fun e=>v2 (by rw[<-e];exact hr)];exact hj
 ·obtain⟨h3,h4⟩:=aZ j o hj hr
  exact⟨by rw[w7 _ _ b6];exact h3,h4⟩
abbrev cLater(ib k:Nat):D:=.func (.func 259) [] [.cptr [.ptr ib 0] 0,.cptr [dI k] 0]
theorem Mw(op:Int)(hn:ins.length<=1000000)(hB:BlkS ib s m st ins O):DCall prog 207 [.ptr ib 0,dI op] O fun x U'=>x=.ret (cLater ib ins.length) /\ ∃st',BlkS ib s m st' (ins++[⟨op,0⟩]) U'/\BK ib O st U' st':=by
 have cf:=hB
 obtain⟨q1,q2,q3⟩:=hB
 refine en func207 ntmps207 ?_
 cases aP:st with
 |none=>
  subst aP
  have h0:ins=[]:=by have:ins.map cIns=[]:=q2;simpa using this
  subst h0
  simp only[mD]at q1
  refine gf q1 ?_
  refine A4 (Dg op 0 hn cf) (fun d U' hr=>?_) (fun d U' hr=>by cases hr.1)
  obtain⟨h1,st',bO,hK⟩:=hr
  cases h1
  refine gz ?_
  refine fin1 (U':=U') ⟨rfl,st',bO,hK⟩
 |some x=>
  obtain⟨rr,rc,rest⟩:=x
  subst aP
  simp only[mD]at q1
  refine gf q1 ?_
  refine A4 (Dg op 0 hn cf) (fun d U' hr=>?_) (fun d U' hr=>by cases hr.1)
  obtain⟨h1,st',bO,hK⟩:=hr
  cases h1
  refine gz ?_
  refine fin1 (U':=U') ⟨rfl,st',bO,hK⟩
def setA(l:List CIns)(k:Nat)(a:Int):List CIns:=l.take k++((l[k]?).map fun x=>(⟨x.op,a⟩:CIns)).toList++l.drop (k+1)
theorem Mp(k:Nat)(hk:k<ins.length)(hn:ins.length<=1000000)(hB:BlkS ib s m st ins O):DCall prog 259 [.cptr [.ptr ib 0] 0,.cptr [dI k] 0] O fun x U'=>x=.ret (.tup []) /\ ∃st',BlkS ib s m st' (setA ins k ins.length) U'/\BK ib O st U' st':=by
 obtain⟨q1,q2,q3⟩:=hB
 rcases st with _|⟨r,rc,rest⟩
 ·have:ins.map cIns=[]:=q2
  simp at this;subst this;simp at hk
 have hx:ins=ins.take k++ins[k]::ins.drop (k+1):=by simp
 have bw:setA ins k ins.length=ins.take k++(⟨(ins[k]).op,ins.length⟩:CIns)::ins.drop (k+1):=by unfold setA;rw[List.getElem?_eq_getElem hk];simp
 have bz:O r=some (.cells ((ins.map cIns).flatten++rest))/\((ins.map cIns).flatten++rest).length=rc*2/\(ins.map cIns).length<=rc/\_:=q2
 obtain⟨w1,w2,w3,w4⟩:=bz
 have bP:((ins.take k).map cIns).flatten.length=k*2:=by rw[Ap (sz:=2) (fun e he=>by obtain⟨x,_,rfl⟩:=List.mem_map.1 he;rfl)];simp;omega
 have cO:(ins.map cIns).flatten++rest=((ins.take k).map cIns).flatten++dI (ins[k]).op::dI (ins[k]).a::(((ins.drop (k+1)).map cIns).flatten++rest):=by
  have h0:ins.map cIns=(ins.take k).map cIns++cIns ins[k]::(ins.drop (k+1)).map cIns:=by rw[<-List.map_cons,<-List.map_append,<-hx]
  rw[h0];simp only[List.flatten_append,List.flatten_cons,List.append_assoc,cIns,List.cons_append,List.nil_append]
 have bk:((setA ins k ins.length).map cIns).flatten++rest=((ins.take k).map cIns).flatten++dI (ins[k]).op::dI (ins.length:Int)::(((ins.drop (k+1)).map cIns).flatten++rest):=by
  rw[bw];simp only[List.map_append,List.map_cons,List.flatten_append,List.flatten_cons,List.append_assoc,cIns,List.cons_append,List.nil_append]
 have hlen:(setA ins k ins.length).length=ins.length:=by rw[bw];simp;omega
 rw[cO]at w1 w2
 generalize hA:((ins.take k).map cIns).flatten=A at*
 generalize hM:((ins.drop (k+1)).map cIns).flatten++rest=M at*
 have cP:A.length+(2+M.length)=rc*2:=by simp only[List.length_append,List.length_cons]at w2;omega
 have bY:k<rc:=by rw[List.length_map]at w3;omega
 have cR:ib≠r:=fun h=>q3 h
 have q1':O ib=some (.cells [.sref r 0 ins.length rc,s,m]):=q1
 have aP:(A++dI (ins[k]).op::dI (ins[k]).a::M).set (k*2+1) (dI (ins.length:Int))=A++dI (ins[k]).op::dI (ins.length:Int)::M:=by
  rw[<-bP,List.set_append_right _ _ (by omega)];simp
 have co:List.take (k*2+1) (A++dI ins[k].op::dI ins[k].a::M)=A++[dI ins[k].op]:=by rw[<-bP,List.take_length_add_append];rfl
 have cM:List.drop (k*2+1+1) (A++dI ins[k].op::dI ins[k].a::M)=M:=by rw[<-bP,Nat.add_assoc,List.drop_length_add_append];rfl
 have dq:(setA ins k ins.length).map cIns=(ins.take k).map cIns++cIns ⟨(ins[k]).op,ins.length⟩::(ins.drop (k+1)).map cIns:=by rw[bw];simp
 refine en func259 ntmps259 ?_
 refine gf (gi q1' w1) ?_ o259
 rw[co,cM]
 refine EW (U':=O.set r (.cells (A++[dI ins[k].op]++dI (ins.length:Int)::M))) ⟨rfl,some (r,rc,rest),⟨?_,⟨?_,?_,?_,?_⟩,q3⟩,fun j o hj b6 hr=>⟨by rw[w7 _ _ fun e=>hr e];exact hj,hr⟩⟩
 ·rw[w7 _ _ cR,q1',hlen];rfl
 ·rw[w6,bk,List.append_assoc];rfl
 ·rw[bk];simp only[List.length_append,List.length_cons];omega
 ·rw[List.length_map,hlen];rw[List.length_map]at w3;exact w3
 ·intro z hz;obtain⟨x,_,rfl⟩:=List.mem_map.1 hz;rfl
end
def I4:List (Int×Int):=[(1,1),(2,2),(3,3),(4,5),(5,19),(6,4),(7,8),(8,6),(12,9),(13,10),(14,11),(15,12),(16,13),(17,7),(18,20)]
def pK:List D:=(eIN I4).map (·.1)
def pV:List D:=(eIN I4).map (·.2)
theorem pKV:pK.zip pV=eIN I4:=rfl
@[simp] theorem hitIN85(k:Int)(m:List (Int×Int)):hitD tab 85 false (CE (.int .i64) (.int .i64 k) (eIN m) 0)=some (.int .i64 (getM 0 k m)):=Rl keyI dI rfl k m
theorem Pc{o:Int}(h:1<=o/\o<=18)(h9:o≠9)(bc:o≠10)(bb:o≠11):getM 0 o I4=TU o:=by
 have:o=1\/o=2\/o=3\/o=4\/o=5\/o=6\/o=7\/o=8\/o=12\/o=13\/o=14\/o=15\/o=16\/o=17\/o=18:=by omega
 rcases this with e|e|e|e|e|e|e|e|e|e|e|e|e|e|e<;>rw[e]<;>rfl
theorem SI(O:Sig):DCall prog 208 [] O (rS (.cmap pK pV) O):=by
 refine en func208 ntmps208 ?_
 refine gz ?_
 refine newIN (fun im ar=>?_)
 repeat ((fail_if_success (first|(refine cfr 1 (i:=im) (m:=eIN I4) (w6 ..) ?_)|fail));(refine goX1 trivial ?_))
 refine cfr 1 (i:=im) (m:=eIN I4) (w6 ..) ?_
 rw[show(eIN I4).map (·.1)=pK from rfl,show(eIN I4).map (·.2)=pV from rfl]
 rw[Sig.set_del _ _ ar]
 refine gz ?_
 exact fe1 trivial
@[reducible,instance] def a208:=fun O=>ah0 (@SI O)
theorem O2(l r:List CIns)(op a b:Int):setA (l++⟨op,a⟩::r) l.length b=l++⟨op,b⟩::r:=by
 unfold setA
 rw[List.take_left,List.getElem?_append_right (Nat.le_refl _),Nat.sub_self,List.drop_append]
 simp
theorem KD(p:BProg)(inM:Bool)(hp:p.wt<=1073741824): ∀(k:Nat) (n:Int) (size:Nat),trE p inM k n size->∀(ib:Nat) (s m:D) (st:MR) (ins:List CIns) (O:Sig),ins.length+cL p k n<=1000000->BlkS ib s m st ins O->
  DCall prog 131 [.ptr ib 0,.agg (Ad p),dI n] O fun x U'=>x=.ret (.tup []) /\ ∃st',BlkS ib s m st' (ins++cN p k n ins.length) U'/\BK ib O st U' st':=by
 obtain⟨p1,p2,p3,p4,p5,p6,p7⟩:=p.wt_le
 intro k
 induction k with
 |zero=>intro n size h;exact h.elim
 | succ k ih =>
  intro n size h ib s m st ins O hq hB
  have bV:=tr_op h
  have bu:=fun m hm=>KY h (m:=m) hm
  obtain⟨⟨h0,h1⟩,bY,cz,cy,hk⟩:=h
  obtain⟨i,rfl⟩:∃i:Nat,n=(i:Int):=⟨n.toNat,by omega⟩
  have hi:i<p.nodes.length:=by omega
  have bC:Aa p i=p.nodes[i]:=by unfold Aa;rw[show((i:Int)).toNat=i by omega,List.getElem?_eq_getElem hi];rfl
  have ci:=p7 i hi
  have hN:=OP p k
  rw[cL,bC]at hq
  rw[cN,bC]
  rw[bC]at bV bu bY cz cy hk
  generalize hx:p.nodes[i]=x at*
  have dm:x.kids.length<=1073741824:=by unfold BNode.wt at ci;omega
  have cE:∀c∈x.kids, ∃z:Nat,trE p inM k c z:=fun c hc=>by
   obtain⟨j,hj,rfl⟩:=List.getElem_of_mem hc
   have:=hk j hj
   split at this
   ·exact⟨size+1,this⟩
   ·exact⟨size,this⟩
  have hS:∀c∈x.kids, ∀(st:MR) (l:List CIns) (O:Sig),l.length+cL p k c<=1000000->BlkS ib s m st l O->DCall prog 131 [.ptr ib 0,.agg (Ad p),dI c] O fun x U'=>x=.ret (.tup []) /\ ∃st',BlkS ib s m st' (l++cN p k c l.length) U'/\BK ib O st U' st':=fun c hc st l O hl hB=>by
   obtain⟨z,hz⟩:=cE c hc;exact ih c z hz ib s m st l O hl hB
  by_cases h9:x.op=9
  ·rw[if_pos h9]at hq⊢
   obtain⟨a,b,au⟩:∃a b,x.kids=[a,b]:=by
    have hl:x.kids.length=2:=bu 2 (by rw[h9];rfl)
    match hx:x.kids,hl with
    |[a,b],_=>exact⟨a,b,rfl⟩
   have bm:kidN x 0=a:=by unfold kidN;rw[au];rfl
   have bl:kidN x 1=b:=by unfold kidN;rw[au];rfl
   rw[bm,bl]at hq⊢
   have e1:(ins++cN p k a ins.length).length=ins.length+cL p k a:=by rw[List.length_append,hN]
   have e2:(ins++cN p k a ins.length++[(⟨14,0⟩:CIns)]).length=ins.length+cL p k a+1:=by rw[List.length_append,e1];rfl
   refine en func131 ntmps131 ?_
   refine gf (gi hx (gi h9 au)) ?_ o131
   refine A4 (hS a (by rw[au];simp) st ins O (by omega) hB) (fun d S1 hr=>?_) (fun d S1 hr=>by cases hr.1)
   obtain⟨q1,st1,aD,ap⟩:=hr
   cases q1
   refine gz ?_ o131
   refine A4 (Dg 14 0 (by omega) aD) (fun d S2 hr=>?_) (fun d S2 hr=>by cases hr.1)
   obtain⟨q2,st2,aq,ac⟩:=hr
   cases q2
   refine gf au ?_ o131
   refine A4 (hS b (by rw[au];simp) st2 _ S2 (by omega) aq) (fun d S3 hr=>?_) (fun d S3 hr=>by cases hr.1)
   obtain⟨q3,st3,aQ,aw⟩:=hr
   cases q3
   rw[e2]at aQ
   have e3:(ins++cN p k a ins.length++[(⟨14,0⟩:CIns)]++cN p k b (ins.length+cL p k a+1)).length=ins.length+cL p k a+1+cL p k b:=by rw[List.length_append,e2,hN]
   refine gz ?_ o131
   refine A4 (Dg 15 0 (by omega) aQ) (fun d S4 hr=>?_) (fun d S4 hr=>by cases hr.1)
   obtain⟨q4,st4,bN,bM⟩:=hr
   cases q4
   refine gz ?_ o131
   refine EW (U':=S4) ⟨rfl,st4,?_,((ap.trans ac).trans aw).trans bM⟩
   simpa[List.append_assoc] using bN
  ·rw [if_neg h9] at hq ⊢
   by_cases bb:x.op=11
   ·rw[if_pos bb]at hq⊢
    obtain⟨a,b,au⟩:∃a b,x.kids=[a,b]:=by
     have hl:x.kids.length=2:=bu 2 (by rw[bb];rfl)
     match hx:x.kids,hl with
     |[a,b],_=>exact⟨a,b,rfl⟩
    have bm:kidN x 0=a:=by unfold kidN;rw[au];rfl
    have bl:kidN x 1=b:=by unfold kidN;rw[au];rfl
    rw[bm,bl]at hq⊢
    have e1:(ins++cN p k a ins.length).length=ins.length+cL p k a:=by rw[List.length_append,hN]
    have e2:(ins++cN p k a ins.length++[(⟨16,0⟩:CIns)]).length=ins.length+cL p k a+1:=by rw[List.length_append,e1];rfl
    refine en func131 ntmps131 ?_
    refine gf (gi hx (gi bb au)) ?_ o131
    refine A4 (hS a (by rw[au];simp) st ins O (by omega) hB) (fun d S1 hr=>?_) (fun d S1 hr=>by cases hr.1)
    obtain⟨q1,st1,aD,ap⟩:=hr
    cases q1
    refine gz ?_ o131
    refine A4 (Dg 16 0 (by omega) aD) (fun d S2 hr=>?_) (fun d S2 hr=>by cases hr.1)
    obtain⟨q2,st2,aq,ac⟩:=hr
    cases q2
    refine gf au ?_ o131
    refine A4 (hS b (by rw[au];simp) st2 _ S2 (by omega) aq) (fun d S3 hr=>?_) (fun d S3 hr=>by cases hr.1)
    obtain⟨q3,st3,aQ,aw⟩:=hr
    cases q3
    rw[e2]at aQ
    refine gz ?_ o131
    refine EW (U':=S3) ⟨rfl,st3,?_,(ap.trans ac).trans aw⟩
    simpa[List.append_assoc] using aQ
   ·rw [if_neg bb] at hq ⊢
    by_cases bc:x.op=10
    ·rw[if_pos bc]at hq⊢
     obtain⟨a,b,c,au⟩:∃a b c,x.kids=[a,b,c]:=by
      have hl:x.kids.length=3:=bu 3 (by rw[bc];rfl)
      match hx:x.kids,hl with
      |[a,b,c],_=>exact⟨a,b,c,rfl⟩
     have bm:kidN x 0=a:=by unfold kidN;rw[au];rfl
     have bl:kidN x 1=b:=by unfold kidN;rw[au];rfl
     have cQ:kidN x 2=c:=by unfold kidN;rw[au];rfl
     rw[bm,bl,cQ]at hq⊢
     have e1:(ins++cN p k a ins.length).length=ins.length+cL p k a:=by rw[List.length_append,hN]
     have e2:(ins++cN p k a ins.length++[(⟨17,0⟩:CIns)]).length=ins.length+cL p k a+1:=by rw[List.length_append,e1];rfl
     refine en func131 ntmps131 ?_
     refine gf (gi hx (gi bc au)) ?_ o131
     refine A4 (hS a (by rw[au];simp) st ins O (by omega) hB) (fun d S1 hr=>?_) (fun d S1 hr=>by cases hr.1)
     obtain⟨q1,st1,aD,ap⟩:=hr
     cases q1
     refine gz ?_ o131
     refine A4 (Mw 17 (by omega) aD) (fun d S2 hr=>?_) (fun d S2 hr=>by cases hr.1)
     obtain⟨q2,st2,aq,ac⟩:=hr
     obtain⟨k1,ba⟩:∃k1,k1=(ins++cN p k a ins.length).length:=⟨_,rfl⟩
     rw[<-ba]at q2
     cases q2
     refine gf au ?_ o131
     refine A4 (hS b (by rw[au];simp) st2 _ S2 (by omega) aq) (fun d S3 hr=>?_) (fun d S3 hr=>by cases hr.1)
     obtain⟨q3,st3,aQ,aw⟩:=hr
     cases q3
     rw[e2]at aQ
     have e3:(ins++cN p k a ins.length++[(⟨17,0⟩:CIns)]++cN p k b (ins.length+cL p k a+1)).length=ins.length+cL p k a+1+cL p k b:=by rw[List.length_append,e2,hN]
     refine gz ?_ o131
     refine A4 (Mw 18 (by omega) aQ) (fun d S4 hr=>?_) (fun d S4 hr=>by cases hr.1)
     obtain⟨q4,st4,bN,bM⟩:=hr
     obtain⟨k2,aZ⟩:∃k2,k2=(ins++cN p k a ins.length++[(⟨17,0⟩:CIns)]++cN p k b (ins.length+cL p k a+1)).length:=⟨_,rfl⟩
     rw[<-aZ]at q4
     cases q4
     have e4:(ins++cN p k a ins.length++[(⟨17,0⟩:CIns)]++cN p k b (ins.length+cL p k a+1)++[(⟨18,0⟩:CIns)]).length=ins.length+cL p k a+1+cL p k b+1:=by rw[List.length_append,e3];rfl
     refine gz ?_ o131
     refine A4 (Mp k1 (by omega) (by omega) bN) (fun d S5 hr=>?_) (fun d S5 hr=>by cases hr.1)
     obtain⟨q5,st5,ce,cX⟩:=hr
     cases q5
     have ae:ins++cN p k a ins.length++[(⟨17,0⟩:CIns)]++cN p k b (ins.length+cL p k a+1)++[(⟨18,0⟩:CIns)]=(ins++cN p k a ins.length)++⟨17,0⟩::(cN p k b (ins.length+cL p k a+1)++[(⟨18,0⟩:CIns)]):=by simp
     rw[e4,ae,ba,O2]at ce
     have e5:(ins++cN p k a ins.length++(⟨17,((ins.length+cL p k a+1+cL p k b+1:Nat):Int)⟩:CIns)::(cN p k b (ins.length+cL p k a+1)++[(⟨18,0⟩:CIns)])).length=ins.length+cL p k a+1+cL p k b+1:=by rw[List.length_append,e1,List.length_cons,List.length_append,hN];simp only[List.length_cons,List.length_nil];omega
     refine gf au ?_ o131
     refine A4 (hS c (by rw[au];simp) st5 _ S5 (by omega) ce) (fun d S6 hr=>?_) (fun d S6 hr=>by cases hr.1)
     obtain⟨q6,st6,cd,cW⟩:=hr
     cases q6
     rw[e5]at cd
     have e6:(ins++cN p k a ins.length++(⟨17,((ins.length+cL p k a+1+cL p k b+1:Nat):Int)⟩:CIns)::(cN p k b (ins.length+cL p k a+1)++[(⟨18,0⟩:CIns)])++cN p k c (ins.length+cL p k a+1+cL p k b+1)).length=ins.length+cL p k a+1+cL p k b+1+cL p k c:=by rw[List.length_append,e5,hN]
     refine gz ?_ o131
     refine A4 (Mp k2 (by omega) (by omega) cd) (fun d S7 hr=>?_) (fun d S7 hr=>by cases hr.1)
     obtain⟨q7,st7,cb,cV⟩:=hr
     cases q7
     have cr:(ins++cN p k a ins.length++(⟨17,((ins.length+cL p k a+1+cL p k b+1:Nat):Int)⟩:CIns)::(cN p k b (ins.length+cL p k a+1)++[(⟨18,0⟩:CIns)])++cN p k c (ins.length+cL p k a+1+cL p k b+1)) =
       (ins++cN p k a ins.length++(⟨17,((ins.length+cL p k a+1+cL p k b+1:Nat):Int)⟩:CIns)::cN p k b (ins.length+cL p k a+1))++⟨18,0⟩::cN p k c (ins.length+cL p k a+1+cL p k b+1):=by simp
     have bF:k2=(ins++cN p k a ins.length++(⟨17,((ins.length+cL p k a+1+cL p k b+1:Nat):Int)⟩:CIns)::cN p k b (ins.length+cL p k a+1)).length:=by rw[aZ];simp
     rw[e6,cr,bF,O2]at cb
     refine gz ?_ o131
     refine EW (U':=S7) ⟨rfl,st7,?_,(((((ap.trans ac).trans aw).trans bM).trans cX).trans cW).trans cV⟩
     simpa[List.append_assoc] using cb
    ·rw[if_neg bc]at hq⊢
     have cu:=Pc bV h9 bc bb
     have du:(JV (cN p k) x.kids ins.length).length=wtL (cL p k) x.kids:=Jz hN _ _
     refine en func131 ntmps131 ?_
     refine gf hx ?_ o131
     refine Ph [0,4,6,19,20,30,31,32,33,34,35,36,37] (fun (j:Nat) (out:List CIns) (st1:MR) (S1:Sig)=>j<=x.kids.length/\out++JV (cN p k) (x.kids.drop j) (ins.length+out.length)=JV (cN p k) x.kids ins.length/\BlkS ib s m st1 (ins++out) S1/\BK ib O st S1 st1) (fun j _ _ _=>[(21,dI j)]) (fun _ _ _ S1=>S1) (fun j _ _ _=>x.kids.length-j) (0) ([]) (st) (O) (by exact⟨by omega,rfl,by rw[List.append_nil];exact hB,BK.refl _ _ _⟩) (fun j out st1 S1 hI=>?_)
     obtain⟨hj,hR,aD,ap⟩:=hI
     by_cases bh:j<x.kids.length
     ·rw[A5 bh,JV]at hR
      have bE:=congrArg List.length hR
      simp only[List.length_append,hN]at bE
      refine gf hx ?_ o131
      refine A4 (hS x.kids[j] (List.getElem_mem bh) st1 _ S1 (by rw[List.length_append];omega) aD) (fun d S2 hr=>?_) (fun d S2 hr=>by cases hr.1)
      obtain⟨q2,st2,aq,ac⟩:=hr
      cases q2
      rw[List.append_assoc,List.length_append]at aq
      refine gz ?_ o131
      exact⟨j+1,out++cN p k x.kids[j] (ins.length+out.length),st2,S2,⟨by omega,by rw[List.append_assoc,List.length_append,<-Nat.add_assoc];exact hR,aq,ap.trans ac⟩,td1,wkR⟩
     ·rw[A9 bh,JV,List.append_nil]at hR
      subst hR
      refine gf (gi hx (gi pKV cu)) ?_ o131
      refine A4 (Dg (TU x.op) x.n (by rw[List.length_append];omega) aD) (fun d S2 hr=>?_) (fun d S2 hr=>by cases hr.1)
      obtain⟨q2,st2,aq,ac⟩:=hr
      cases q2
      refine gz ?_ o131
      refine EW (U':=S2) ⟨rfl,st2,?_,ap.trans ac⟩
      simpa[List.append_assoc] using aq
theorem Mi(p:BProg)(inM:Bool)(hp:p.wt<=1073741824)(k:Nat)(n:Int)(size:Nat)(h:trE p inM k n size)(ib:Nat)(s m:D)(st:MR)(ins:List CIns)(O:Sig)(hq:ins.length+cL p k n<=1000000)(hB:BlkS ib s m st ins O):
  DCall prog 60 [.ptr ib 0,.agg (Ad p),dI n] O fun x U'=>x=.ret (dI ins.length) /\ ∃st',BlkS ib s m st' (ins++bodyC p k n ins.length) U'/\BK ib O st U' st':=by
 have hN:=OP p k
 obtain⟨q1,q2,q3⟩:=hB
 have hB:BlkS ib s m st ins O:=⟨q1,q2,q3⟩
 have fin:∀(S2:Sig) (st2:MR),BlkS ib s m st2 (ins++cN p k n ins.length++[(⟨21,0⟩:CIns)]) S2->BlkS ib s m st2 (ins++bodyC p k n ins.length) S2:=fun S2 st2 h=>by unfold bodyC;simpa[List.append_assoc] using h
 refine en func60 ntmps60 ?_
 cases aP:st with
 |none=>
  subst aP
  have h0:ins=[]:=by have:ins.map cIns=[]:=q2;simpa using this
  subst h0
  simp only[mD]at q1
  refine gf q1 ?_
  refine A4 (KD p inM hp k n size h ib s m none [] O hq hB) (fun d S1 hr=>?_) (fun d S1 hr=>by cases hr.1)
  obtain⟨e1,st1,aD,ap⟩:=hr
  cases e1
  refine gz ?_
  refine A4 (Dg 21 0 (by rw[List.length_append,hN];omega) aD) (fun d S2 hr=>?_) (fun d S2 hr=>by cases hr.1)
  obtain⟨e2,st2,aq,ac⟩:=hr
  cases e2
  refine gz ?_
  exact fin1 (U':=S2) ⟨rfl,st2,fin _ _ aq,ap.trans ac⟩
 |some x=>
  obtain⟨rr,rc,rest⟩:=x
  subst aP
  simp only[mD]at q1
  refine gf q1 ?_
  refine A4 (KD p inM hp k n size h ib s m _ ins O hq hB) (fun d S1 hr=>?_) (fun d S1 hr=>by cases hr.1)
  obtain⟨e1,st1,aD,ap⟩:=hr
  cases e1
  refine gz ?_
  refine A4 (Dg 21 0 (by rw[List.length_append,hN];omega) aD) (fun d S2 hr=>?_) (fun d S2 hr=>by cases hr.1)
  obtain⟨e2,st2,aq,ac⟩:=hr
  cases e2
  refine gz ?_
  exact fin1 (U':=S2) ⟨rfl,st2,fin _ _ aq,ap.trans ac⟩
def NM(p:BProg):CProg:=if okP p then HR p else⟨[],[],0⟩
theorem Vx(p:BProg)(O:Sig)(hp:p.wt<=1073741824):DCall prog 18 [.agg (Ad p)] O (rS (.tup [.agg (cCPg (NM p)),dI (if okP p then 0 else 2)]) O):=by
 obtain⟨p1,p2,p3,p4,p5,p6,p7⟩:=p.wt_le
 refine en func18 ntmps18 ?_
 cases hk:okP p with
 |false=>
  have hc:NM p=⟨[],[],0⟩:=by unfold NM;rw[hk];rfl
  rw[hc]
  refine gz ?_ o18 [2,15]
  refine newV (fun i hi=>?_)
  refine gf hk ?_ o18 [2,15]
  refine finC (U':=O) (d:=.tup [.agg (cCPg ⟨[],[],0⟩),dI 2]) ⟨rfl,rfl⟩ (hw:=?_)
  exact Dm ⟨FN ⟨An _ (.inl rfl),An _ (.inl rfl),Ab _,trivial⟩,Ab _,trivial⟩
 | true =>
  have hc:NM p=HR p:=by unfold NM;rw[hk];rfl
  rw[hc]
  have bS:=U9 hk
  have cP:=VR hk
  have dn:=FZ hk
  refine gz ?_ o18 [2,15]
  refine newV (fun i2 b8=>?_)
  repeat ((fail_if_success (first|(refine boxV (T:=127) (fun ib b7=>?_))|fail));(refine goX1 hk ?_))
  refine boxV (T:=127) (fun ib b7=>?_)
  obtain⟨n2b,aO⟩:=Bc b7
  refine gz ?_ o18 [2,15]
  refine F0 ib 1 1 (ds:=[.nils,.nils,dI 0]) (w6 ..) rfl (fun it cF=>?_)
  obtain⟨nbt,bG⟩:=Bc cF
  obtain⟨n2t,bi⟩:=Bc bG
  simp only[List.set_cons_succ,List.set_cons_zero]
  generalize bp:Sig.set (Sig.set (Sig.set (Sig.set O i2 _) ib _) it _) ib _=S0
  have o0:S0 ib=some (.cells [mD none ([]:List CIns).length,.slice (cI []) (.tag it),dI 0]):=by rw[<-bp,w6];rfl
  have t0:S0 it=some (.tail 1 ([]:List Int).length):=by rw[<-bp,w7 _ _ nbt,w6];rfl
  have c0:S0 i2=some (.cells [.nils,.nils,dI 0]):=by rw[<-bp,w7 _ _ n2b.symm,w7 _ _ n2t.symm,w7 _ _ n2b.symm,w6]
  have s0:Sub O S0:=fun j x hj=>by
   have k1:=B9 hj b8
   have k2:=B9 hj aO
   have k3:=B9 hj bi
   rw[<-bp,w7 _ _ k2,w7 _ _ k3,w7 _ _ k2,w7 _ _ k1];exact hj
  have B0:BlkS ib (.slice (cI []) (.tag it)) (dI 0) none [] S0:=⟨o0,rfl,id⟩
  clear bp
  have dk:(BD p).length=p.methods.length:=by unfold BD;simp
  refine loop5 [1,2,3,5,17,18,40,41,42,43,44,45,46,47,48,49,50,51,52] (fun (j:Nat) (out:List CIns) (l:List Int) (st:MR) (S1:Sig)=>j<=p.methods.length/\l.length=j/\out++BU p 12 ((BD p).drop j) out.length=BU p 12 (BD p) 0/\l++(HB p 12 ((BD p).drop j) out.length).map (·.pos)=(HB p 12 (BD p) 0).map (·.pos)/\BlkS ib (.slice (cI l) (.tag it)) (dI 0) st out S1/\S1 it=some (.tail 1 l.length) /\ ¬G9 st it/\S1 i2=some (.cells [.nils,.nils,dI 0]) /\ ¬G9 st i2/\(∀k x,O k=some x->S1 k=some x /\ ¬G9 st k)) (fun j _ _ _ _=>[(19,dI j)]) (fun _ _ _ _ S1=>S1) (fun j _ _ _ _=>p.methods.length-j) (0) ([]) ([]) (none) (S0) (by exact⟨by omega,rfl,rfl,rfl,B0,t0,id,c0,id,fun k x hk=>⟨s0 _ _ hk,id⟩⟩) (fun j out l st S1 hI=>?_)
  obtain⟨hj,cD,hR,bq,hB,cq,bx,b9,aT,hS⟩:=hI
  by_cases bh:j<p.methods.length
  ·have cC:(BD p).drop j=⟨(p.methods[j]).node,(p.gens.getD (p.methods[j]).gen.toNat 0).toNat,JI p.methods[j]⟩::(BD p).drop (j+1):=by
    rw[List.drop_eq_getElem_cons (by omega)];unfold BD;simp
   have cn:=bS ⟨(p.methods[j]).node,(p.gens.getD (p.methods[j]).gen.toNat 0).toNat,JI p.methods[j]⟩ (by unfold bodsP;rw[List.mem_append];left;exact List.mem_map.2 ⟨p.methods[j],List.getElem_mem bh,rfl⟩)
   rw[cC]at hR bq
   have q1:=hB.env
   refine gz ?_ [] [2,15]
   refine mixI (id:=8) [0,1,2,3,4,5,6,7,8,9,10,11,12,13,14,15,16] [10,12,16] [5] [16] (fun s=> ∃a,s ib=some (.cells [a,.slice (cI l) (.tag it),dI 0])) ⟨_,q1⟩ ?_
   refine iP (.ptr ib 0) ?_
   refine iP (.ptr ib 0) ?_
   refine iP (.ptr ib 0) ?_
   refine iP (.ptr ib 0) ?_
   refine iP (.ptr ib 1) ?_
   refine iR (.slice (cI l) (.tag it)) (fun s ⟨a,hs⟩=>?_) ?_
   ·simp[hs]
   refine iP (.ptr ib 0) ?_
   refine iP (.agg (Ad p)) ?_
   refine iP _ ?_
   refine iP (dI (p.methods[j]).node) ?_
   have bE:=congrArg List.length hR
   simp only[BU,List.length_append,EF]at bE
   refine iW (fun s=> ∃a,s ib=some (.cells [a,.slice (cI l) (.tag it),dI 0])) (Mi p _ hp 12 _ _ cn ib _ _ st out S1 ?_ hB) (fun d S2 hr=>?_) (fun d S2 hr=>by cases hr.1)
   ·have bI:(HR p).ins.length=(BU p 12 (BD p) 0).length+(bodyC p 12 p.main (M5 p)).length:=by unfold HR;rw[List.length_append]
    show out.length+cL p 12 (p.methods[j]).node<=1000000
    omega
   obtain⟨e2,st2,aq,ac⟩:=hr
   cases e2
   have nbt':ib≠it:=fun e=>nbt e.symm
   obtain⟨cp,be⟩:=ac _ _ cq (fun e=>nbt e) bx
   obtain⟨bK,bf⟩:=ac _ _ b9 (fun e=>n2b e.symm) aT
   refine⟨⟨_,aq.env⟩,?_⟩
   refine iP (.slice [[dI out.length]] .clip) ?_
   refine iE (d:=.slice (cI l++[[dI out.length]]) (.tag it)) (U':=S2.set it (.tail 1 (l.length+1))) (fun s=> ∃a,s ib=some (.cells [a,.slice (cI l) (.tag it),dI 0])) ⟨_,by rw[w7 _ _ nbt'];exact aq.env⟩ ?_ (he:=?_)
   rotate_left
   ·simp[cp];omega
   refine iP (.ptr ib 0) ?_
   refine iP (.ptr ib 0) ?_
   refine iP (.ptr ib 1) ?_
   refine iS (d:=.any) (U':=(S2.set it (.tail 1 (l.length+1))).set ib (.cells [mD st2 (out++bodyC p 12 (p.methods[j]).node out.length).length,.slice (cI l++[[dI out.length]]) (.tag it),dI 0])) (fun _=>True) trivial ?_ (he:=?_)
   rotate_left
   ·simp[aq.env,w7 _ _ nbt']
   refine iN ?_
   refine gz ?_ o18 [2,15]
   rw[BU]at hR
   rw[HB]at bq
   generalize bn:Sig.set (Sig.set S2 it _) ib _=S3
   have o3:S3 ib=some (.cells [mD st2 (out++bodyC p 12 (p.methods[j]).node out.length).length,.slice (cI (l++[(out.length:Int)])) (.tag it),dI 0]):=by rw[<-bn,w6];simp[cI]
   have t3:S3 it=some (.tail 1 (l++[(out.length:Int)]).length):=by rw[<-bn,w7 _ _ nbt,w6,List.length_append];rfl
   have c3:S3 i2=some (.cells [.nils,.nils,dI 0]):=by rw[<-bn,w7 _ _ n2b.symm,w7 _ _ n2t.symm];exact bK
   have B3:BlkS ib (.slice (cI (l++[(out.length:Int)])) (.tag it)) (dI 0) st2 (out++bodyC p 12 (p.methods[j]).node out.length) S3:=⟨o3,aq.row.keep fun k x hk hr=>by
    rw[<-bn,w7 _ _ fun e=>aq.nr (by rw[<-e];exact hr),w7 _ _ fun e=>be (by rw[<-e];exact hr)];exact hk,aq.nr⟩
   have s3:∀k x,O k=some x->S3 k=some x /\ ¬G9 st2 k:=fun k x hk=>by
    have k2:=B9 hk aO
    have k3:=B9 hk bi
    obtain⟨h1,h2⟩:=hS _ _ hk
    obtain⟨h3,h4⟩:=ac k x h1 k2 h2
    exact⟨by rw[<-bn,w7 _ _ k2,w7 _ _ k3];exact h3,h4⟩
   exact⟨j+1,out++bodyC p 12 (p.methods[j]).node out.length,l++[(out.length:Int)],st2,S3,⟨by omega,by rw[List.length_append,cD];rfl,by rw[List.append_assoc,List.length_append,EF];exact hR,by rw[List.append_assoc,List.length_append,EF];exact bq,B3,t3,be,c3,bf,s3⟩,td1,wkR⟩
  ·rw[List.drop_eq_nil_of_le (by omega),BU,List.append_nil]at hR
   rw[List.drop_eq_nil_of_le (by omega),HB,List.map_nil,List.append_nil]at bq
   have cm:=bS ⟨p.main,0,false⟩ (by unfold bodsP;simp)
   have bI:(HR p).ins=out++bodyC p 12 p.main out.length:=by unfold HR M5;rw[<-hR]
   have bJ:=congrArg List.length bI
   rw[List.length_append,EF]at bJ
   have q1:=hB.env
   refine gz ?_ o18 [2,15]
   refine A4 (Mi p _ hp 12 _ _ cm ib _ _ st out S1 (show out.length+cL p 12 p.main<=1000000 by omega) hB) (fun d S2 hr=>?_) (fun d S2 hr=>by cases hr.1)
   obtain⟨e2,st2,aq,ac⟩:=hr
   cases e2
   obtain⟨τ,hτ,hm,ba,aZ⟩:=aq.row.mS
   obtain⟨bK,bf⟩:=ac _ _ b9 (fun e=>n2b e.symm) aT
   have k2:τ i2=some (.cells [.nils,.nils,dI 0]):=ba _ _ bK bf
   have kb:τ ib=some (.cells [mD st2 (out++bodyC p 12 p.main out.length).length,.slice (cI l) (.tag it),dI 0]):=ba _ _ aq.env aq.nr
   have kS:Sub O τ:=fun k x hk=>by
    have e1:=B9 hk aO
    obtain⟨h1,h2⟩:=hS _ _ hk
    obtain⟨h3,h4⟩:=ac k x h1 e1 h2
    exact ba _ _ h3 h4
   rw[hτ]
   refine mfrC (i:=ib) [] [.slice (cI l) (.tag it),dI 0] ?_ (by rw[kb,List.length_map];rfl) hm
   simp only[List.nil_append]
   rw[<-bI]
   have n2b':=n2b.symm
   refine gf k2 ?_ o18 [2,15]
   have aP:(HR p).starts=l:=bq.symm
   have cB:(HR p).main=out.length:=by unfold HR M5;rw[<-hR]
   refine finC (U':=O) (d:=.tup [.agg (cCPg (HR p)),dI 0]) ⟨rfl,rfl⟩ (hZ:=(kS.set aO).set b8) (hw:=?_)
   unfold cCPg
   rw[aP,cB]
   exact Dm ⟨FN ⟨Ab _,BY _ _,Ab _,trivial⟩,Ab _,trivial⟩
end Go.DL
