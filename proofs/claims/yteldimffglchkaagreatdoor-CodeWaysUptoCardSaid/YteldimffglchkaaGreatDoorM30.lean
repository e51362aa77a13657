/- A part of the proof. -/
import Derived.Test.YteldimffglchkaaGreatDoorM28
import Derived.Test.YteldimffglchkaaGreatDoorM29
import Derived.Test.YteldimffglchkaaGreatDoorM26
import Derived.Test.YteldimffglchkaaGreatDoorM24
import Derived.Test.YteldimffglchkaaGreatDoorM25
import Derived.Test.YteldimffglchkaaGreatDoorM14
import Derived.Test.YteldimffglchkaaGreatDoorM11
set_option linter.all false
namespace Go.DL
open Go.Proofs.Tryz
open Go Go.Proofs
set_option maxHeartbeats 8000000
def Es(h:GoH):List D:=[dI h.kind,dI h.val.kind,dI h.val.n,dI h.gen,sl (h.args.map cVal),dI h.fin,dI h.pos,sl (h.stk.map cVal),sl (h.env.map cVal),sl (h.objs.map cTh),sl (h.evs.map cEv)]
def Jk:GoH:=⟨0,vZ,0,[],0,0,[],[],[],[]⟩
abbrev cFr(pos:Int)(stk env:List MVal):List D:=[dI pos,sl (stk.map cVal),sl (env.map cVal)]
theorem Ds:WkD (.agg [dI 0,dI 0,dI 0,dI 0,.nils,dI 0,dI 0,.nils,.nils,.nils,.nils]) (.agg (Es Jk)):=
 E6 ⟨A8 _,A8 _,A8 _,A8 _,An _ (.inl rfl),A8 _,A8 _,An _ (.inl rfl),An _ (.inl rfl),An _ (.inl rfl),An _ (.inl rfl),trivial⟩
theorem Kp{n:Nat}{γ:Fr}{df:List DDf}{O:Sig}{i:Nat}{xs ys:List D}{d d':D}(hi:O i=some (.cells (xs++d::ys)))(h:WkD d d'): ∃U',Wk prog n ⟨γ,O,df⟩ ⟨γ,U',df⟩/\U' i=some (.cells (xs++d'::ys)) /\ ∀j o,O j=some o->j≠i->U' j=some o:=
 ⟨_,EB hi h,w6 .., fun j o hj aj=>by rw[w7 _ _ aj];exact hj⟩
section
variable {ir:Nat}{p:BProg}{R:Nat->RW}{s:GoS}{O:Sig}
theorem haltFz{n:Nat}{γ:Fr}{df:List DDf}{av:D}{b:Bool}{h:GoH}(hH:HaltS ir p R s av b h O): ∃U' tl,Wk prog n ⟨γ,O,df⟩ ⟨γ,U',df⟩/\U' ir=some (.cells (Es h++tl)) /\ ∀j o,O j=some o->j≠ir->(∀a, ¬(R a).is j)->U' j=some o:=by
 obtain⟨aG,ae,am,bj,ax,aw,aK,aR⟩:=hH
 have dj:∀{a b:Nat},a≠b->∀{j:Nat},(R a).is j->¬(R b).is j:=fun {a b} bI {j} ha hb=>bI (ae.dj a b j ha hb)
 have nir:∀{a j:Nat},(R a).is j->j≠ir:=fun {a j} h e=>am a (e ▸ h)
 cases b with
 |false=>
  obtain⟨e1,e2,e3⟩:=aR
  obtain⟨S1,w1,o1,k1⟩:=Nn (n:=n) (γ:=γ) (df:=df) (a0:=[dI h.kind,dI h.val.kind,dI h.val.n,dI h.gen,av,dI h.fin,dI 0,.nils,.nils]) (b0:=(R 2).d s.evs.length::(Ag p++[dI s.pos,(R 0).d s.stk.length,(R 1).d s.env.length])) ae am (bj 3) (by rw[aG];rfl)
  have q2:RWAt S1 3 (R 2) (s.evs.map cEv):=(ae.ok 2).keep fun j o hj ah=>k1 j o hj (nir ah) fun q hq=>dj (by omega) ah
  obtain⟨S2,w2,o2,k2⟩:=BE (P:=prog) (n:=n) (γ:=γ) (df:=df) (i:=ir) (az:=[dI h.kind,dI h.val.kind,dI h.val.n,dI h.gen,av,dI h.fin,dI 0,.nils,.nils,.slice (s.objs.map cTh) .no]) (bs:=Ag p++[dI s.pos,(R 0).d s.stk.length,(R 1).d s.env.length]) q2 (by rw[o1,List.length_map];rfl) (am 2)
  obtain⟨S3,w3,o3,k3⟩:=Kp (n:=n) (γ:=γ) (df:=df) (xs:=[dI h.kind,dI h.val.kind,dI h.val.n,dI h.gen]) (ys:=[dI h.fin,dI 0,.nils,.nils,.slice (s.objs.map cTh) .no,.slice (s.evs.map cEv) .no]++(Ag p++[dI s.pos,(R 0).d s.stk.length,(R 1).d s.env.length])) o2 ax
  obtain⟨S4,w4,o4,k4⟩:=Kp (n:=n) (γ:=γ) (df:=df) (xs:=[dI h.kind,dI h.val.kind,dI h.val.n,dI h.gen,sl (h.args.map cVal),dI h.fin,dI 0]) (ys:=[.nils,.slice (s.objs.map cTh) .no,.slice (s.evs.map cEv) .no]++(Ag p++[dI s.pos,(R 0).d s.stk.length,(R 1).d s.env.length])) o3 (An .no (.inl rfl))
  obtain⟨S5,w5,o5,k5⟩:=Kp (n:=n) (γ:=γ) (df:=df) (xs:=[dI h.kind,dI h.val.kind,dI h.val.n,dI h.gen,sl (h.args.map cVal),dI h.fin,dI 0,sl []]) (ys:=[.slice (s.objs.map cTh) .no,.slice (s.evs.map cEv) .no]++(Ag p++[dI s.pos,(R 0).d s.stk.length,(R 1).d s.env.length])) o4 (An .no (.inl rfl))
  refine⟨S5,Ag p++[dI s.pos,(R 0).d s.stk.length,(R 1).d s.env.length],(((w1.trans w2).trans w3).trans w4).trans w5,?_,fun j o hj aj hn=>k5 j o (k4 j o (k3 j o (k2 j o (k1 j o hj aj fun q _=>hn q) aj (hn 2)) aj) aj) aj⟩
  rw[o5,Es,e1,e2,e3,aw,aK];rfl
 | true =>
  obtain⟨e1,e2,e3⟩:=aR
  obtain⟨S1,w1,o1,k1⟩:=Nn (n:=n) (γ:=γ) (df:=df) (a0:=[dI h.kind,dI h.val.kind,dI h.val.n,dI h.gen,av,dI h.fin,dI s.pos,(R 0).d s.stk.length,(R 1).d s.env.length]) (b0:=(R 2).d s.evs.length::(Ag p++[dI s.pos,(R 0).d s.stk.length,(R 1).d s.env.length])) ae am (bj 3) (by rw[aG];rfl)
  have q2:RWAt S1 3 (R 2) (s.evs.map cEv):=(ae.ok 2).keep fun j o hj ah=>k1 j o hj (nir ah) fun q hq=>dj (by omega) ah
  obtain⟨S2,w2,o2,k2⟩:=BE (P:=prog) (n:=n) (γ:=γ) (df:=df) (i:=ir) (az:=[dI h.kind,dI h.val.kind,dI h.val.n,dI h.gen,av,dI h.fin,dI s.pos,(R 0).d s.stk.length,(R 1).d s.env.length,.slice (s.objs.map cTh) .no]) (bs:=Ag p++[dI s.pos,(R 0).d s.stk.length,(R 1).d s.env.length]) q2 (by rw[o1,List.length_map];rfl) (am 2)
  have q0:RWAt S2 2 (R 0) (s.stk.map cVal):=(ae.ok 0).keep fun j o hj ah=>k2 j o (k1 j o hj (nir ah) fun q hq=>dj (by omega) ah) (nir ah) (dj (by decide) ah)
  obtain⟨S3,w3,o3,k3⟩:=BE (P:=prog) (n:=n) (γ:=γ) (df:=df) (i:=ir) (az:=[dI h.kind,dI h.val.kind,dI h.val.n,dI h.gen,av,dI h.fin,dI s.pos]) (bs:=[(R 1).d s.env.length,.slice (s.objs.map cTh) .no,.slice (s.evs.map cEv) .no]++(Ag p++[dI s.pos,(R 0).d s.stk.length,(R 1).d s.env.length])) q0 (by rw[o2,List.length_map];rfl) (am 0)
  have q1:RWAt S3 2 (R 1) (s.env.map cVal):=(ae.ok 1).keep fun j o hj ah=>k3 j o (k2 j o (k1 j o hj (nir ah) fun q hq=>dj (by omega) ah) (nir ah) (dj (by decide) ah)) (nir ah) (dj (by decide) ah)
  obtain⟨S4,w4,o4,k4⟩:=BE (P:=prog) (n:=n) (γ:=γ) (df:=df) (i:=ir) (az:=[dI h.kind,dI h.val.kind,dI h.val.n,dI h.gen,av,dI h.fin,dI s.pos,.slice (s.stk.map cVal) .no]) (bs:=[.slice (s.objs.map cTh) .no,.slice (s.evs.map cEv) .no]++(Ag p++[dI s.pos,(R 0).d s.stk.length,(R 1).d s.env.length])) q1 (by rw[o3,List.length_map];rfl) (am 1)
  have w5:=EB (P:=prog) (n:=n) (γ:=γ) (df:=df) (az:=[dI h.kind,dI h.val.kind,dI h.val.n,dI h.gen]) (bs:=[dI h.fin,dI s.pos,.slice (s.stk.map cVal) .no,.slice (s.env.map cVal) .no,.slice (s.objs.map cTh) .no,.slice (s.evs.map cEv) .no]++(Ag p++[dI s.pos,(R 0).d s.stk.length,(R 1).d s.env.length])) (d:=av) o4 ax
  refine⟨_,Ag p++[dI s.pos,(R 0).d s.stk.length,(R 1).d s.env.length],(((w1.trans w2).trans w3).trans w4).trans w5,?_,fun j o hj aj hn=>?_⟩
  ·rw[w6,Es,e1,e2,e3,aw,aK];rfl
  ·rw[w7 _ _ aj]
   exact k4 j o (k3 j o (k2 j o (k1 j o hj aj fun q _=>hn q) aj (hn 2)) aj (hn 0)) aj (hn 1)
theorem haltD{ro:Ro}{n:Nat}{Q:DX->St->Prop}{c:Code}{γ:Fr}{df:List DDf}{av:D}{b:Bool}{h:GoH}(hH:HaltS ir p R s av b h O)
  (k:∀U' tl,U' ir=some (.cells (Es h++tl))->(∀j o,O j=some o->j≠ir->(∀a, ¬(R a).is j)->U' j=some o)->DWp prog ro n c Q ⟨γ,U',df⟩):DWp prog ro n c Q ⟨γ,O,df⟩:=by
 obtain⟨S2,tl,w,a,b⟩:=haltFz (n:=n) (γ:=γ) (df:=df) hH
 exact Fz w (k S2 tl a b)
def R01(r0 r1:RW):Nat->RW:=updF (updF (fun _=>.nil) 0 r0) 1 r1
theorem RunS.init{S1 S2:Sig}{r0 r1:RW}{stk env:List MVal}{pos:Int}(h0:FrV O r0 stk S1)(h1:FrV S1 r1 env S2)(hi:S2 ir=none):RunS ir p (R01 r0 r1) ⟨[],[],pos,stk,env⟩ (S2.set ir (.cells (AO p (R01 r0 r1) ⟨[],[],pos,stk,env⟩))):=by
 have a:Rows O (fun _=>RW.nil) rSz (fun _=>[]):=⟨fun _=>rfl,fun _ _ _ h=>h.elim⟩
 have b:Rows S1 (updF (fun _=>RW.nil) 0 r0) rSz (updF (fun _=>[]) 0 (stk.map cVal)):=a.upd (a:=0) h0.1 h0.2.1
 have c:=b.upd (a:=1) (r':=r1) (es':=env.map cVal) (U':=S2) h1.1 (by rw[A7 _ _ (by omega)];exact h1.2.1)
 have d:=c.retell (ct':=rCt (R01 r0 r1) ⟨[],[],pos,stk,env⟩) fun a=>by
  match a with
  |0=>rw[A7 _ _ (by omega),Ah];rfl
  |1=>rw[Ah];rfl
  |2=>rw[A7 _ _ (by omega),A7 _ _ (by omega)];rfl
  |3=>rw[A7 _ _ (by omega),A7 _ _ (by omega)];rfl
  |k+4=>rw[A7 _ _ (by omega),A7 _ _ (by omega)];simp[rCt]
 have am:∀a, ¬(R01 r0 r1 a).is ir:=fun a ha=>by
  obtain⟨z,hz⟩:=(d.ok a).cells ha
  rw[hi]at hz;cases hz
 refine⟨w6 .., d.keep fun j o hj ⟨b,hb⟩=>by rw[w7 _ _ fun e=>am b (by rw[<-e];exact hb)];exact hj,am,fun a es ha=>?_⟩
 unfold R01 at ha
 by_cases e1:a=1
 ·subst e1;rw[Ah]at ha;exact h1.2.2 es ha
 ·rw[A7 _ _ e1]at ha
  by_cases e0:a=0
  ·subst e0;rw[Ah]at ha;exact h0.2.2 es ha
  ·rw[A7 _ _ e0]at ha;cases ha
theorem TX{ds:List D}{r:RW}{n k:Nat}(h:O ir=some (.cells ds))(hl:k<ds.length):DN tab O 31 (.ptr ir k) (r.d n)=some (.any,O.set ir (.cells (ds.take k++[r.d n]++ds.drop (k+1)))):=by
 have hf:¬ds.length<k+1:=by omega
 cases r<;>simp[DN,h,RW.d,hf]
theorem storeRw{ro:Ro}{n:Nat}{ops:Array Oper}{Q:DX->St->Prop}{df:List DDf}{rest:List Oper}{γ Sr:Fr}{ty:TypeId}{pos:String}{after:Array Edge}{x y:Operand}{ds:List D}{r:RW}{m k:Nat}(hc:O ir=some (.cells ds))(h:DOps prog ro n ops Q rest ⟨γ,O.set ir (.cells (ds.take k++[r.d m]++ds.drop (k+1))),df⟩)
  (hl:A0 γ (A5 [x,y])=some Sr:=by exact tdR) (h1:ev Sr x=.ptr ir k:=by exact tdR) (h2:ev Sr y=r.d m:=by exact tdR) (hlen:k<ds.length:=by simp) :
  DOps prog ro n ops Q (⟨none,.store 31 x y,ty,pos,after,none⟩::rest) ⟨γ,O,df⟩:=
 DO Ac (d:=.any) hl (by show DN tab O 31 (ev Sr x) (ev Sr y)=_;rw[h1,h2];exact TX hc hlen) h
end
section
variable {ro:Ro}{n:Nat}{ops:Array Oper}{N:Nat}{S0:Sig}{Q:DX->St->Prop}{df:List DDf}{γ Sr:List (Nat×D)}{O:Sig}{t:Nat}{ty:TypeId}{pos:String}{after:Array Edge}{e1:Bool}{l:List (Bool×Oper)}
theorem moRr(d:D){op:Op}(h:MO prog ro n ops N S0 Q df l ((t,d)::γ) O)(hr:D1 op=true:=by rfl)(aB:decide (t<n)=true:=by exact tdR)(hl:A0 γ (A5 op.operands.toList)=some Sr:=by exact tdR)(hd:dopX tab Sr S0 op=some d:=by first|with_unfolding_all rfl|(simp;done)|(simp;rfl)):MO prog ro n ops N S0 Q df ((e1,⟨some t,op,ty,pos,after,none⟩)::l) γ O:=
 KL Ac hr aB hl hd h
theorem moBox{T:Nat}{x:Operand}(cs:List D)(h:∀i,O i=none->MO prog ro n ops N S0 Q df l ((t,.ptr i 0)::γ) (O.set i (.cells cs)))(hl:A0 γ (A5 [x])=some Sr:=by exact tdR)(hc:(ev Sr x).cells=cs:=by exact tdR)(ht:(ev Sr x).told=true:=by exact tdR)(aB:decide (t<n)=true:=by exact tdR)(hC:Sub S0 O:=by first|exact Sub.refl _|assumption):
  MO prog ro n ops N S0 Q df ((true,⟨some t,.box T x,ty,pos,after,none⟩)::l) γ O:=
 mo1 (fun U2 hx=>by
  have e:ev U2 x=ev Sr x:=by rw[hx x (by simp[Op.operands]),BY hl]
  exact dops_box (by rw[e];exact ht) (by simpa using aB) (fun i hi=>Aw ⟨rfl,by simp only[A6,if_true];rw[e,hc];exact⟨hC.set (hC.none hi),h i hi⟩⟩)) aB
end
def Um(s:GoS)(r:GoS ⊕ GoH):Prop:= ∀t,r=.inl t->t.stk.length<=s.stk.length+1/\t.env.length<=s.env.length+1/\t.evs.length<=s.evs.length+1
theorem len_ite{s:GoS}{c:Prop}[Decidable c]{a b:GoS ⊕ GoH}(h1:Um s a)(h2:Um s b):Um s (if c then a else b):=by split<;>assumption
theorem QD{p:BProg}{w:CWorld}{x:CIns}{s t:GoS}(h:It p w x s=.inl t):t.stk.length<=s.stk.length+1/\t.env.length<=s.env.length+1/\t.evs.length<=s.evs.length+1:=by
 have key:Um s (It p w x s):=by
  rw[It]
  repeat' (refine len_ite ?_ ?_)
  all_goals
   intro t h
   first|(cases h;done)|(cases h;simp only[List.length_append,List.length_dropLast,List.length_singleton];omega)
 exact key t h
theorem actAt{j:Nat}(h1:1<=j)(h2:j<=21):cActs[j]? = some (.func (.func (actF j)) [] []):=by
 have h:j=1\/j=2\/j=3\/j=4\/j=5\/j=6\/j=7\/j=8\/j=9\/j=10\/j=11\/j=12\/j=13\/j=14\/j=15\/j=16\/j=17\/j=18\/j=19\/j=20\/j=21:=by omega
 rcases h with rfl|rfl|rfl|rfl|rfl|rfl|rfl|rfl|rfl|rfl|rfl|rfl|rfl|rfl|rfl|rfl|rfl|rfl|rfl|rfl|rfl<;>rfl
theorem Ob(c:CProg)(W:MetL){k:Nat}(hk:k<c.ins.length):(DV c W)[k]? = some (getM ⟨0,0⟩ (k:Int) W):=by
 unfold DV;rw[List.getElem?_map,List.getElem?_range hk];rfl
theorem Oa(c:CProg)(W:MetL):(DV c W).length=c.ins.length:=by unfold DV;simp
theorem Iu(p:BProg)(c:CProg):Ei p c=(C2 p c).map (DV c):=by rw[<-Ra,Pg];rfl
theorem fits_rg{p:BProg}{N q:Nat}{x:CIns}(ai:fitsC p N q x=true):1<=x.op/\x.op<=21:=by
 unfold fitsC at ai
 refine Classical.byContradiction fun h=>?_
 rw[if_neg (by omega),if_neg (by omega),if_neg (by omega),if_neg (by omega),if_neg (by omega),if_neg (by omega)]at ai
 simp at ai
 omega
theorem QE{p:BProg}{w:CWorld}{c:CProg}{m:Met}{nx:Bool}(hg:∀n:Nat,0<=p.gens.getD n 0)(hw:WldOK p w)(hL:LevOK p c m nx){s:GoS}(hs:GInv w m s):mRun p w c c.ins.length s=match It p w (AC c s.pos.toNat) { s with pos:=s.pos+1 } with
  |.inl t=>mRun p w c c.ins.length t
  |.inr h=>h:=by
 rw[LI hg hw hL c.ins.length (c.ins.length+1) s hs (by omega) (by omega),mRun]
 rfl
@[simp] theorem cActs_len:cActs.length=22:=rfl
@[simp] theorem cActs_all:cActs.all D.flat=true:=rfl
@[simp] theorem cActs_tk:List.take 22 cActs=cActs:=rfl
theorem RunS.newO{ir:Nat}{p:BProg}{R:Nat->RW}{s:GoS}{O:Sig}(h:RunS ir p R s O){i:Nat}(hi:O i=none)(o:DObj):RunS ir p R s (O.set i o):=by
 have hn:∀j x,O j=some x->j≠i:=fun j x hj e=>by rw[e,hi]at hj;cases hj
 exact⟨by rw[w7 _ _ (hn _ _ h.obj)];exact h.obj,h.rows.keep fun j x hj _=>by rw[w7 _ _ (hn j x hj)];exact hj,h.ni,h.nf⟩
theorem IM (p:BProg) (c:CProg) (objs:List MThing) (pos:Int) (stk env:List MVal) (o1:Own) (O:Sig) (hp:p.wt<=1073741824) (bH:c.ins.length<=1073741824) (bG:c.starts.length<=1073741824) (bB:objs.length<=1000000) (bh : ∀ x ∈ objs,x.slots.length<=1000000) (bO:stk.length<=900000) (bR:env.length<=900000) :
  DCall prog 13 [.agg (Ag p),.agg (cCPg c),.slice (objs.map cTh) o1,.agg (cFr pos stk env)] O (rS (.tup [.agg (Es ((goC p (A2 p) c objs pos stk env).getD Jk)),dI (if(goC p (A2 p) c objs pos stk env).isSome then 0 else 2)]) O):=by
 have bl:=Iu p c
 have ak:=fun O:Sig=>KY p objs o1 O hp (by omega) (fun x hx=>by have:=bh x hx;omega)
 obtain⟨H,hH⟩:∃H,H=goC p (A2 p) c objs pos stk env:=⟨_,rfl⟩
 rw[<-hH]
 refine en func13 ntmps13 ?_
 refine gz ?_ o13 [8]
 refine newV (fun i8 aJ=>?_)
 have o8:(O.set i8 (.cells [dI 0,dI 0,dI 0,dI 0,.nils,dI 0,dI 0,.nils,.nils,.nils,.nils])) i8=_:=w6 ..
 have aS:Sub O (O.set i8 (.cells [dI 0,dI 0,dI 0,dI 0,.nils,dI 0,dI 0,.nils,.nils,.nils,.nils])):=(Sub.refl _).set aJ
 generalize O.set i8 (.cells [dI 0,dI 0,dI 0,dI 0,.nils,dI 0,dI 0,.nils,.nils,.nils,.nils])=Sa at*
 refine gz ?_ o13 [8]
 refine A3 (M5 p c Sa hp bH bG) (fun d U' hr=>?_) (fun d U' hr=>?_)
 rotate_left
 ·unfold LokR at hr
  split at hr
  ·cases hr.1
  ·obtain⟨_,_,h,_⟩:=hr;cases h
 unfold LokR at hr
 cases hL:C2 p c with
 |none=>
  rw[hL]at hr
  obtain⟨e,rfl⟩:=hr
  cases e
  have hn:H=none:=by rw[hH];unfold goC;rw[bl,hL];rfl
  refine gf o8 ?_ o13 [8]
  refine finC (U':=O) (d:=.tup [.agg (Es Jk),dI 2]) ⟨by rw[hn];rfl,rfl⟩ (hw:=?_) (hU:=?_)
  ·exact CC ⟨Ds,A8 _,trivial⟩
  ·exact fun j o hj=>by rw[w7 _ _ (Af hj aJ)];exact aS j o hj
 | some W =>
  rw[hL]at hr
  obtain⟨im,aY,e,rfl⟩:=hr
  cases e
  have n8m:i8≠im:=Af o8 aY
  have om:(Sa.set im (.map (eIL W))) im=some (.map (eIL W)):=w6 ..
  have o8':=(w7 Sa (.map (eIL W)) n8m).trans o8
  have aM:Sub O (Sa.set im (.map (eIL W))):=aS.set (aS.none aY)
  generalize Sa.set im (.map (eIL W))=S0 at*
  clear o8 aS aY
  have bk:Ei p c=some (DV c W):=by rw[bl,hL];rfl
  obtain⟨aF,hlen,ar⟩:=R9 bk
  have bN:c.ins.length<=300:=by
   unfold C2 at hL
   split at hL
   ·rename_i h;simp only[Bool.and_eq_true,decide_eq_true_eq]at h;exact h.2.1
   ·cases hL
  have ba:H=if Bc (A2 p) objs&&FP (DV c W) objs.length pos stk env then some (mRun p (A2 p) c c.ins.length ⟨objs,[],pos,stk,env⟩) else none:=by rw[hH];unfold goC;rw[bk]
  by_cases hg:(Bc (A2 p) objs&&FP (DV c W) objs.length pos stk env)=true
  rotate_left
  ·have hn:H=none:=by rw [ba,if_neg hg]
   have fin0:∀z,Sub O (S0.set i8 z):=fun z j o hj=>by rw[w7 _ _ (Af hj aJ)];exact aM j o hj
   have fin1:∀i z1 z2,S0 i=none->Sub O ((S0.set i z1).set i8 z2):=fun i z1 z2 hi j o hj=>by rw[w7 _ _ (Af hj aJ),w7 _ _ (Af (aM j o hj) hi)];exact aM j o hj
   have bb:Bc (A2 p) objs=false\/(Bc (A2 p) objs=true/\(pos < 0\/(c.ins.length:Int)<=pos))\/(Bc (A2 p) objs=true /\ ∃ k:Nat,pos=k/\k < c.ins.length/\((stk.length:Int) ≠ (getM ⟨0,0⟩ (k:Int) W).st\/((stk.length:Int)=(getM ⟨0,0⟩ (k:Int) W).st/\(env.length:Int) ≠ (getM ⟨0,0⟩ (k:Int) W).env)\/((stk.length:Int)=(getM ⟨0,0⟩ (k:Int) W).st/\(env.length:Int)=(getM ⟨0,0⟩ (k:Int) W).env/\(okVs objs.length stk=false\/(okVs objs.length stk=true/\okVs objs.length env=false))))):=by
    cases hO:Bc (A2 p) objs with
    |false=>exact .inl rfl
    | true =>
     refine .inr ?_
     rw[hO,Bool.true_and]at hg
     by_cases h0:pos<0\/(c.ins.length:Int)<=pos
     ·exact .inl ⟨rfl,h0⟩
     obtain⟨k,hk⟩:∃k:Nat,pos=k:=⟨pos.toNat,by omega⟩
     have aC:k<c.ins.length:=by omega
     refine .inr ⟨rfl,k,hk,aC,?_⟩
     subst hk
     unfold FP at hg
     rw[Oa,Int.toNat_natCast,Ob c W aC,Option.getD_some]at hg
     by_cases a1:(stk.length:Int)=(getM ⟨0,0⟩ (k:Int) W).st
     ·refine .inr ?_
      by_cases a2:(env.length:Int)=(getM ⟨0,0⟩ (k:Int) W).env
      ·refine .inr ⟨a1,a2,?_⟩
       cases a3:okVs objs.length stk with
       |false=>exact .inl rfl
       |true=>
        cases a4:okVs objs.length env with
        |false=>exact .inr ⟨rfl,rfl⟩
        |true=>exact absurd (by rw[a3,a4,decide_eq_true (by omega)];rfl) hg
      ·exact .inl ⟨a1,a2⟩
     ·exact .inl a1
   rcases bb with hO|⟨hO,h0|h0⟩|⟨hO,k,rfl,aC,a|⟨a1,a2⟩|⟨a1,a2,a3|⟨a3,a4⟩⟩⟩
   ·have ag:(okP p&&Bc (A2 p) objs)=false:=by rw[hO];simp
    repeat' first|refine gf (gi ag o8') ?_ [] [8]|refine CX (ak _) ?_|refine callPG (ak _) ?_|refine gf (gi ag o8') ?_ o13 [8]|apply gy<;>intro hh
    refine finC (U':=O) (d:=.tup [.agg (Es Jk),dI 2]) ⟨by rw[hn];rfl,rfl⟩ (hw:=?_) (hU:=fin0 _)
    exact CC ⟨Ds,A8 _,trivial⟩
   all_goals have ag:(okP p&&Bc (A2 p) objs)=true:=by rw[hO,aF];rfl
   ·repeat' first|refine gf (gi ag o8') ?_ [] [8]|refine CX (ak _) ?_|refine callPG (ak _) ?_|refine gf (gi ag o8') ?_ o13 [8]|apply gy<;>intro hh
    refine finC (U':=O) (d:=.tup [.agg (Es Jk),dI 2]) ⟨by rw[hn];rfl,rfl⟩ (hw:=?_) (hU:=fin0 _)
    exact CC ⟨Ds,A8 _,trivial⟩
   ·repeat' first|refine gf (gi ag o8') ?_ [] [8]|refine CX (ak _) ?_|refine callPG (ak _) ?_|refine gf (gi ag o8') ?_ o13 [8]|apply gy<;>intro hh
    refine finC (U':=O) (d:=.tup [.agg (Es Jk),dI 2]) ⟨by rw[hn];rfl,rfl⟩ (hw:=?_) (hU:=fin0 _)
    exact CC ⟨Ds,A8 _,trivial⟩
   ·repeat' first|refine gf (gi ag (gi o8' om)) ?_ [] [8]|refine CX (ak _) ?_|refine callPG (ak _) ?_|refine gf (gi ag (gi o8' om)) ?_ o13 [8]|apply gy<;>intro hh
    refine Io (fun i11 aa=>?_)
    have n11:=Af o8' aa
    refine gf (gi o8' (gi n11 a)) ?_ o13 [8]
    refine finC (U':=O) (d:=.tup [.agg (Es Jk),dI 2]) ⟨by rw[hn];rfl,rfl⟩ (hw:=?_) (hU:=fin1 i11 _ _ aa)
    exact CC ⟨Ds,A8 _,trivial⟩
   ·repeat' first|refine gf (gi ag (gi o8' om)) ?_ [] [8]|refine CX (ak _) ?_|refine callPG (ak _) ?_|refine gf (gi ag (gi o8' om)) ?_ o13 [8]|apply gy<;>intro hh
    refine Io (fun i11 aa=>?_)
    have n11:=Af o8' aa
    refine gf (gi o8' (gi n11 (gi a1 a2))) ?_ o13 [8]
    refine finC (U':=O) (d:=.tup [.agg (Es Jk),dI 2]) ⟨by rw[hn];rfl,rfl⟩ (hw:=?_) (hU:=fin1 i11 _ _ aa)
    exact CC ⟨Ds,A8 _,trivial⟩
   ·repeat' first|refine gf (gi ag (gi o8' om)) ?_ [] [8]|refine CX (ak _) ?_|refine callPG (ak _) ?_|refine gf (gi ag (gi o8' om)) ?_ o13 [8]|apply gy<;>intro hh
    refine Io (fun i11 aa=>?_)
    have n11:=Af o8' aa
    refine gf (gi o8' (gi n11 (gi a1 (gi a2 a3)))) ?_ o13 [8]
    refine finC (U':=O) (d:=.tup [.agg (Es Jk),dI 2]) ⟨by rw[hn];rfl,rfl⟩ (hw:=?_) (hU:=fin1 i11 _ _ aa)
    exact CC ⟨Ds,A8 _,trivial⟩
   ·repeat' first|refine gf (gi ag (gi o8' om)) ?_ [] [8]|refine CX (ak _) ?_|refine callPG (ak _) ?_|refine gf (gi ag (gi o8' om)) ?_ o13 [8]|apply gy<;>intro hh
    refine Io (fun i11 aa=>?_)
    have n11:=Af o8' aa
    refine gf (gi o8' (gi n11 (gi a1 (gi a2 (gi a3 a4))))) ?_ o13 [8]
    refine finC (U':=O) (d:=.tup [.agg (Es Jk),dI 2]) ⟨by rw[hn];rfl,rfl⟩ (hw:=?_) (hU:=fin1 i11 _ _ aa)
    exact CC ⟨Ds,A8 _,trivial⟩
  rw[if_pos hg]at ba
  simp only[Bool.and_eq_true]at hg
  obtain⟨hO,hF⟩:=hg
  have bL:=(Rs (evs:=[]) hO).1 hF
  have ag:(okP p&&Bc (A2 p) objs)=true:=by rw[hO,aF];rfl
  unfold FP at hF
  simp only[Bool.and_eq_true,decide_eq_true_eq]at hF
  obtain⟨⟨f1,f2,f3,f4⟩,f5,f6⟩:=hF
  rw[Oa]at f2
  obtain⟨k,rfl⟩:∃k:Nat,pos=k:=⟨pos.toNat,by omega⟩
  have aC:k<c.ins.length:=by omega
  rw[Int.toNat_natCast,Ob c W aC,Option.getD_some]at f3 f4
  repeat' first|refine gf (gi ag (gi o8' om)) ?_ [] [8]|refine CX (ak _) ?_|refine callPG (ak _) ?_|refine gf (gi ag (gi o8' om)) ?_ o13 [8]|apply gy<;>intro hh
  refine Io (fun i11 aa=>?_)
  have n11:=Af o8' aa
  refine gf (gi f3 (gi f4 (gi f5 f6))) ?_ (delO 7 o13) [8]
  have o8:=(w7 S0 (.cells [D.int .i64 (getM ⟨0,0⟩ (k:Int) W).st,D.int .i64 (getM ⟨0,0⟩ (k:Int) W).env]) n11).trans o8'
  have hS:Sub O (S0.set i11 (.cells [D.int .i64 (getM ⟨0,0⟩ (k:Int) W).st,D.int .i64 (getM ⟨0,0⟩ (k:Int) W).env])):=fun j o hj=>by
   rw[w7 _ _ (Af (aM j o hj) aa)];exact aM j o hj
  generalize S0.set i11 (.cells [D.int .i64 (getM ⟨0,0⟩ (k:Int) W).st,D.int .i64 (getM ⟨0,0⟩ (k:Int) W).env])=Sb at*
  refine Hy (id:=7) [0,1,2,3,4,6,7,5,8,9,10,11,12] [5,8,11] (fun _=>none) (fun _ _ h=>by cases h) ?_
  refine gz ?_ o13 [8]
  refine Bx (IH stk .no Sb (by omega)) (fun d S1 hr=>?_) (fun d S1 hr=>by obtain⟨_,h,_⟩:=hr;cases h)
  obtain⟨r0,hd,aP⟩:=hr
  replace aP:FrV Sb r0 stk S1:=aP
  cases hd
  refine⟨(fun _ _ h=>by cases h),?_⟩
  refine Bx (IH env .no S1 (by omega)) (fun d S2 hr=>?_) (fun d S2 hr=>by obtain⟨_,h,_⟩:=hr;cases h)
  obtain⟨r1,hd,aD⟩:=hr
  replace aD:FrV S1 r1 env S2:=aD
  cases hd
  refine⟨(fun _ _ h=>by cases h),?_⟩
  refine moRr (.agg [dI k,r0.d stk.length,r1.d env.length]) ?_ (hd:=by cases r0<;>cases r1<;>simp)
  refine moRr (.agg ([dI 0,dI 0,dI 0,dI 0,.nils,dI 0,dI 0,.nils,.nils,.nils,.nils]++Ag p++[dI k,r0.d stk.length,r1.d env.length])) ?_ (hd:=by cases r0<;>cases r1<;>simp)
  refine moBox (AO p (R01 r0 r1) ⟨[],[],k,stk,env⟩) (fun ir bm=>?_) (hC:=fun _ _ h=>by cases h)
  have ap:=RunS.init (p:=p) (pos:=(k:Int)) aP aD bm
  have bq:∀j o,Sb j=some o->(S2.set ir (.cells (AO p (R01 r0 r1) ⟨[],[],k,stk,env⟩))) j=some o/\j≠ir /\ ∀a, ¬(R01 r0 r1 a).is j:=fun j o hj=>by
   have a1:=aP.2.1 j o hj id
   have a2:=aD.2.1 j o a1.1 id
   have aj:=Af a2.1 bm
   refine⟨by rw[w7 _ _ aj];exact a2.1,aj,fun a ha=>?_⟩
   unfold R01 at ha
   by_cases e1:a=1
   ·subst e1;rw[Ah]at ha;exact a2.2 ha
   ·rw[A7 _ _ e1]at ha
    by_cases e0:a=0
    ·subst e0;rw[Ah]at ha;exact(aD.2.1 j o a1.1 id).2 (absurd ha a1.2)
    ·rw[A7 _ _ e0]at ha;exact ha
  generalize S2.set ir (.cells (AO p (R01 r0 r1) ⟨[],[],k,stk,env⟩))=S3 at*
  refine gz ?_ o13 [8]
  refine A3 (UP objs o1 S3 bB bh) (fun d S4 hr=>?_) (fun d S4 hr=>by obtain⟨_,h,_⟩:=hr;cases h)
  obtain⟨R',hd,hT⟩:=hr
  cases hd
  have o4:=(hT.keep ir _ ap.obj).1
  refine gz ?_ o13 [8]
  refine storeRw (r:=R' 3) (k:=9) o4 ?_
  obtain⟨p1,p2⟩:=ap.swap (R':=R') (l:=objs) (fun j o h _ _=>h) ap.obj hT rfl
  have be:∀j o,Sb j=some o->(S4.set ir (.cells (AO p (Ey (R01 r0 r1) R') ⟨objs,[],k,stk,env⟩))) j=some o/\j≠ir /\ ∀a, ¬(Ey (R01 r0 r1) R' a).is j:=fun j o hj=>by
   obtain⟨a1,a2,a3⟩:=bq j o hj
   exact⟨(p2 j o a1 a2 a3).1,a2,(p2 j o a1 a2 a3).2⟩
  refine drp (S4.set ir (.cells (AO p (Ey (R01 r0 r1) R') ⟨objs,[],k,stk,env⟩))) ?_ (by exact Sub.refl _)
  generalize S4.set ir (.cells (AO p (Ey (R01 r0 r1) R') ⟨objs,[],k,stk,env⟩))=S5 at p1 be⊢
  generalize Ey (R01 r0 r1) R'=R5 at p1 be
  clear p2 bq ap aP aD hT o4
  have hW:=TM aF
  have bn:∀n:Nat,0<=p.gens.getD n 0:=fun n=>(H8 aF n).1
  refine gz ?_ o13 [8]
  refine ET [5,8,9,12,13,122,123,124,125] (fun (s:GoS) (R:Nat->RW) (S1:Sig)=>GInv (A2 p) (fun j=>(DV c W)[j]?) s/\RunS ir p R s S1/\(∀j o,Sb j=some o->S1 j=some o/\j≠ir /\ ∀a, ¬(R a).is j)/\H=some (mRun p (A2 p) c c.ins.length s)/\(s.stk.length:Int)<=900000+s.pos/\(s.env.length:Int)<=900000+s.pos/\(s.evs.length:Int)<=s.pos) (fun _ _ _=>[]) (fun _ _ S1=>S1) (fun s _ _=>c.ins.length-s.pos.toNat) (⟨objs,[],k,stk,env⟩) (R5) (S5) (by exact⟨bL,p1,be,ba,by simp only;omega,by simp only;omega,by simp only[List.length_nil];omega⟩) (fun s R S1 hI=>?_)
  obtain⟨hG,hR,hK,aE,b1,b2,b3⟩:=hI
  obtain⟨h0,⟨l,hl,aR,bE⟩,aV,bP,bA⟩:=id hG
  have aX:=ar.dom _ _ hl
  obtain⟨env',next,aT,g1,g2,g3,g4⟩:=ar.ok _ _ hl
  have aH:=JL bn hW ar hG
  have au:=QE bn hW ar hG
  obtain⟨q,hq⟩:∃q:Nat,s.pos=q:=⟨s.pos.toNat,by omega⟩
  have hx:AC c s.pos.toNat=c.ins[s.pos.toNat]:=by unfold AC;rw[List.getElem?_eq_getElem aX];rfl
  rw[hx]at aT aH au
  have ai:=ar.fits _ _ (List.getElem?_eq_getElem aX)
  simp only[hq,Int.toNat_natCast]at aX aT aH au ai b1 b2 b3
  obtain⟨x,aU⟩:∃x,x=c.ins[q]:=⟨_,rfl⟩
  rw[<-aU]at aT aH au ai
  obtain⟨u1,u2⟩:=fits_rg ai
  obtain⟨j,hj⟩:∃j:Nat,x.op=j:=⟨x.op.toNat,by omega⟩
  have bc:=actAt (j:=j) (by omega) (by omega)
  have q1:=hR.obj
  refine gf (gi q1 (gi hq aU.symm)) ?_ o13 [8]
  refine Io (fun i14 aq=>?_)
  have n14:=Af q1 aq
  refine gf (gi q1 (gi hq aU.symm)) ?_ (delO 12 o13) [8]
  have aN:=hR.newO aq (.cells (cIns x))
  obtain⟨p3,p4⟩:=aN.at ((q:Int)+1) rfl
  have o14:((S1.set i14 (.cells (cIns x))).set ir (.cells (AO p R { s with pos:=(q:Int)+1 }))) i14=some (.cells (cIns x)):=by rw[w7 _ _ n14.symm,w6]
  refine Fz (Vm (U':=(S1.set i14 (.cells (cIns x))).set ir (.cells (AO p R { s with pos:=(q:Int)+1 }))) (by exact Sub.refl _)) ?_
  have bp:∀j o,Sb j=some o->((S1.set i14 (.cells (cIns x))).set ir (.cells (AO p R { s with pos:=(q:Int)+1 }))) j=some o/\j≠ir /\ ∀a, ¬(R a).is j:=fun j o hj=>by
   obtain⟨a1,a2,a3⟩:=hK j o hj
   exact⟨by rw[w7 _ _ a2,w7 _ _ (Af a1 aq)];exact a1,a2,a3⟩
  have nr14:∀a, ¬(R a).is i14:=fun a ha=>by
   obtain⟨z,hz⟩:=(hR.rows.ok a).cells ha
   rw[aq]at hz;cases hz
  have n14':i14≠ir:=n14.symm
  generalize (S1.set i14 (.cells (cIns x))).set ir (.cells (AO p R { s with pos:=(q:Int)+1 }))=S6 at p3 o14 bp⊢
  clear p4 aN q1 n14 aq
  refine Hy (id:=12) [0,1,2,3,4,5,6] [6] (S6.out fun j=>j≠i14) (C1 _ _) ?_
  have u14:=D2 (touch:=fun j=>j≠i14) o14 (by simp)
  have bf:=Vj (t:={ s with pos:=(q:Int)+1 }) hp aF aT ai g3 aR bE aV bA (by simp only;omega) (by simp only;omega) (by simp only;omega) p3
  refine gf (gi hj (gi bc u14)) ?_ o13 [8]
  rw[hj]at bf
  refine Bx bf (fun d S7 hr=>?_) (fun d S7 hr=>?_)
  rotate_left
  ·obtain⟨_,_,h⟩:=hr
   split at h<;>cases h.1
  obtain⟨R2,bd,h⟩:=hr
  refine⟨fun y o hy=>?_,?_⟩
  ·obtain⟨y1,y2⟩:=Cf hy
   obtain rfl:y=i14:=Classical.byContradiction y2
   exact(bd _ _ y1 n14' nr14).1
  have aO:∀j o,Sb j=some o->S7 j=some o/\j≠ir /\ ∀a, ¬(R2 a).is j:=fun j o hj=>by
   obtain⟨a1,a2,a3⟩:=bp j o hj
   exact⟨(bd j o a1 a2 a3).1,a2,(bd j o a1 a2 a3).2⟩
  cases aW:It p (A2 p) x { s with pos:=(q:Int)+1 } with
  |inl t'=>
   have bC:=QD aW
   rw[aW]at h aH au
   obtain⟨hd,bK⟩:=h
   obtain⟨k1,k2⟩:=aH
   have k3:=k1.lo
   cases hd
   simp only at bC au
   refine gz ?_ o13 [8]
   exact⟨t',R2,S7,⟨k1,bK,aO,by rw[aE,au],by omega,by omega,by omega⟩,td1,wkR⟩
  | inr h' =>
   rw[aW]at h au
   obtain⟨hd,s',av,b,br⟩:=h
   cases hd
   simp only at au
   repeat ((fail_if_success (first|(refine haltD br (fun S8 tl o9 k9=>?_))|fail));(refine goX1 trivial ?_))
   refine haltD br (fun S8 tl o9 k9=>?_)
   have o8b:S8 i8=_:=k9 i8 _ (aO i8 _ o8).1 (aO i8 _ o8).2.1 (aO i8 _ o8).2.2
   have bJ:Sub O S8:=fun j o hj=>by
    obtain⟨a1,a2,a3⟩:=aO j o (hS j o hj)
    exact k9 j o a1 a2 a3
   simp only[Es,List.cons_append,List.nil_append]at o9
   refine gf (gi o9 o8b) ?_ o13 [8]
   refine finC (U':=O) (d:=.tup [.agg (Es h'),dI 0]) ⟨by rw[aE,au];rfl,rfl⟩ (hw:=?_) (hU:=fun j o hj=>by rw[w7 _ _ (Af hj aJ)];exact bJ j o hj)
   exact A8 _
def exB:BProg:=⟨[⟨[],[0],[⟨0,7⟩]⟩,⟨[3],[1],[]⟩,⟨[4,3],[],[⟨0,1⟩]⟩],2,[1],[⟨1,0,.mk 2 0 [] 3 0 [],0⟩,⟨2,0,.mk 3 0 [0] 0 5 [],3⟩],
 [⟨17,0,[1]⟩,⟨4,0,[2]⟩,⟨3,0,[]⟩,⟨9,0,[4,5]⟩,⟨3,0,[]⟩,⟨3,1,[]⟩,⟨5,0,[7]⟩,⟨6,5,[]⟩],6⟩
def exC:CProg:=⟨[⟨3,0⟩,⟨5,0⟩,⟨7,0⟩,⟨21,0⟩,⟨3,0⟩,⟨14,0⟩,⟨3,1⟩,⟨15,0⟩,⟨21,0⟩,⟨4,5⟩,⟨19,0⟩,⟨21,0⟩],[0,4],9⟩
def exL:List CLev:=[⟨0,1⟩,⟨1,1⟩,⟨1,1⟩,⟨1,1⟩,⟨0,1⟩,⟨1,1⟩,⟨0,2⟩,⟨1,2⟩,⟨1,1⟩,⟨0,0⟩,⟨1,0⟩,⟨1,0⟩]
theorem JU{l m:List Int}(h:∀x,x∈l ↔ x∈m): ∀(a:List Init) (seen:List Int),DW l seen a=DW m seen a
 |[],_=>rfl
 |x::r,seen=>by rw[DW,DW,JU h r,decide_eq_decide.2 (h x.slot)]
def Iy(p:BProg):Nat->List BClass->Bool
 |_,[]=>true
 |i,c::r=>decide (linE (p.classes.map (·.parents)) ((i:Int)+3)=0)&&DW (hasG p.classes (((i:Int)+3)-2).toNat [((i:Int)+3)] []) [] c.inits&&Iy p (i+1) r
theorem Hr(p:BProg): ∀(l:List BClass) (i:Nat),Bh p i l=Iy p i l
 |[],_=>rfl
 |c::r,i=>by
  rw[Bh,Iy,Hr p r]
  congr 2
  exact JU (fun x=>by unfold hasP ED;exact List.mem_mergeSort) _ _
theorem UX:Bh exB 0 exB.classes=true:=by rw[Hr];decide +kernel
theorem PD:AA exB=true:=by
 unfold AA
 have h1:C5 0 exB.classes=some 2:=by decide +kernel
 have h2:Cw (exB.classes.map (·.parents))=true:=by decide +kernel
 have h3:decide (exB.classes.length<=10)=true:=by decide +kernel
 have h4:decide ((2:Int)=exB.slots)=true:=by decide +kernel
 rw[h1,h3]
 simp only[h2,h4,UX,Bool.and_self,Bool.and_true]
theorem UW:okP exB=true:=by
 unfold okP Dn
 rw[PD]
 decide +kernel
theorem Vo:ED [1,0]=[0,1]:=by simp[ED,List.mergeSort,List.MergeSort.Internal.splitInTwo,List.merge]
theorem ex_has5:hasP exB 5=[0,1]:=by
 unfold hasP
 rw[show hasG exB.classes ((5:Int)-2).toNat [5] []=[1,0] by decide +kernel,Vo]
theorem ex_has4:hasP exB 4=[0,1]:=by
 unfold hasP
 rw[show hasG exB.classes ((4:Int)-2).toNat [4] []=[1,0] by decide +kernel,Vo]
theorem ex_has3:hasP exB 3=[0]:=by
 unfold hasP
 rw[show hasG exB.classes ((3:Int)-2).toNat [3] []=[0] by decide +kernel]
 simp[ED]
theorem Te:E3 exB 5=[⟨0,1⟩]:=by unfold E3;rw[ex_has5];decide +kernel
theorem Tf:E3 exB 4=[⟨0,7⟩]:=by unfold E3;rw[ex_has4];decide +kernel
theorem Tg:E3 exB 3=[⟨0,7⟩]:=by unfold E3;rw[ex_has3];decide +kernel
def exW:CWorld:=⟨fun c=>decide (3<=c)&&decide (c<6),fun c=>if c=3 then [0] else if c=4 then [0,1] else if c=5 then [0,1] else hasP exB c,
 fun c=>if c=3 then [vInt 7] else if c=4 then [vInt 7,E8] else if c=5 then [vInt 1,E8] else(hasP exB c).map (frV (E3 exB c))⟩
theorem L1:A2 exB=exW:=by
 unfold A2 exW
 rw[UW]
 congr 1
 ·funext c
  unfold ownF
  simp[exB]
 ·funext c
  split
  ·rename_i e;subst e;exact ex_has3
  split
  ·rename_i e;subst e;exact ex_has4
  split
  ·rename_i e;subst e;exact ex_has5
  rfl
 ·funext c
  split
  ·rename_i e;subst e;rw[ex_has3,Tg];rfl
  split
  ·rename_i e;subst e;rw[ex_has4,Tf];rfl
  split
  ·rename_i e;subst e;rw[ex_has5,Te];rfl
  rfl
theorem ex_code:NC exB=exC:=by unfold NC;rw[if_pos UW];kernel_rfl
theorem GA:Ei exB exC=some exL:=by
 unfold Ei
 rw[UW]
 kernel_rfl
theorem Td:(C2 exB exC).map (DV exC)=some exL:=by rw[<-Iu,GA]
def exH1:GoH:=⟨2,vZ,0,[vObj 0],0,11,[],[],[⟨5,[vInt 1,E8]⟩],[]⟩
def exH2:GoH:=⟨1,vInt 1,0,[],0,0,[],[],[⟨5,[vInt 1,E8]⟩],[⟨2,0,[vInt 1]⟩]⟩
def exH3:GoH:=⟨4,vZ,0,[],5,0,[],[],[],[]⟩
theorem ex_go1:goC exB (A2 exB) exC [] 9 [] []=some exH1:=by
 unfold goC
 rw[GA,L1]
 kernel_rfl
theorem ex_go2:goC exB (A2 exB) exC [⟨5,[vInt 1,E8]⟩] 0 [] [vObj 0]=some exH2:=by
 unfold goC
 rw[GA,L1]
 kernel_rfl
theorem ex_go3:goC exB (A2 exB) exC [] 0 [] [vInt 3]=some exH3:=by
 unfold goC
 rw[GA,L1]
 kernel_rfl
theorem UV:AP exC=true:=by decide +kernel
theorem Tc:EC exC=[48,32,52,32,58,32,57,10,110,97,109,101,32,48,10,115,108,111,116,32,48,10,111,117,116,10,101,110,100,10,110,97,109,101,32,48,10,108,101,116,10,110,97,109,101,32,49,10,100,114,111,112,10,101,110,100,10,110,101,119,32,53,10,99,97,108,108,32,48,10,101,110,100,10]:=by decide +kernel
theorem VC:exL.length=12:=rfl
theorem Ow:(CA exC).length=25:=by decide +kernel
theorem Ot(n:Int)(O:Sig):DCall prog 19 [dI n] O (rS (.agg (cVal (vInt n))) O):=by
 refine en func19 ntmps19 ?_
 refine gz ?_ [] [2]
 refine newV (fun i hi=>?_)
 refine gz ?_ [] [2]
 exact finC (U':=O) ⟨rfl,rfl⟩
@[reducible,instance] def a19:=fun n O=>ah0 (@Ot n O)
theorem UN(a b:List MVal)(o o':Own)(O:Sig)(h1:a.length<=1073741824:=by exact sd)(h2:b.length<=1073741824:=by exact sd):DCall prog 53 [.slice (a.map cVal) o,.slice (b.map cVal) o'] O (rS (.bool (decide (a=b))) O):=by
 refine en func53 ntmps53 ?_
 by_cases hc:a.length=b.length
 ·refine gf hc ?_ o53
  refine CG [0,1] (fun (k:Nat)=>k<=a.length /\ ∀j (h1:j<a.length) (h2:j<b.length),j<k->a[j]=b[j]) (fun k=>[(5,dI k)]) (fun _=>O) (fun k=>a.length-k) (0) (by exact⟨by omega,fun j _ _ h=>by omega⟩) (fun k hI=>?_)
  obtain⟨hk,hE⟩:=hI
  by_cases aC:k<a.length
  ·have bQ:k<b.length:=by omega
   refine gf hc ?_ o53
   refine In (r:=decide (a[k]=b[k])) (xs:=cVal a[k]) (ys:=cVal b[k]) Ac Ox rfl rfl rfl rfl Oc (UY _ _) ?_
   by_cases hx:a[k]=b[k]
   ·refine gf hx ?_ o53
    exact⟨k+1,⟨by omega,fun j h1 h2 h3=>by by_cases e:j=k;(subst e;exact hx);exact hE j h1 h2 (by omega)⟩,td1,wkR⟩
   ·have hne:¬a=b:=fun e=>hx (by simp[e])
    refine gf hx ?_ o53
    exact fe1 hne
  ·have bF:a=b:=List.ext_getElem hc fun j h1 h2=>hE j h1 h2 (by omega)
   refine gz ?_ o53
   exact fin1 (U':=O) ⟨by rw[decide_eq_true bF],rfl⟩
 ·have hne:¬a=b:=fun e=>hc (by rw[e])
  refine gz ?_ o53
  exact fe1 hne
section
variable {P:Program}{ro:Ro}{n:Nat}{ops:Array Oper}{N:Nat}{S0:Sig}{Q:DX->St->Prop}{df:List DDf}{γ Sr:List (Nat×D)}{O:Sig}{t:Nat}{ty:TypeId}{pos:String}{after:Array Edge}{l:List (Bool×Oper)}{e:Bool}
theorem mo_eqlG{tab:Nat->Ty}(ht:B2 P tab){T u:Nat}{x y:Operand}{xs ys:List D}{gd:Option (Nat×Bool)}(fs:List (Nat×Nat))(r:Bool)(hE:EqTy P T)(hk:(tab T).k=.struct fs)(hd:eqFs tab xs ys fs=some r)
  (h:MO P ro n ops N S0 Q df l ((t,.bool r)::γ) O) (hw:Ax ops γ ⟨some t,.binOp .eql T x y u,ty,pos,after,gd⟩=some true) (aB:decide (t<n)=true) (hl:A0 γ (A5 [x,y])=some Sr) (hx:ev Sr x=.agg xs) (hy:ev Sr y=.agg ys):MO P ro n ops N S0 Q df ((e,⟨some t,.binOp .eql T x y u,ty,pos,after,gd⟩)::l) γ O:=by
 have hc:∀z∈[x,y],ev Sr z=ev γ z:=fun z hz=>B9 fun t ht=>At hl t (Az (by rw[<-ht];exact hz))
 have bi:∀z∈[x,y],ev (only (Oper.looksAt ops ⟨some t,.binOp .eql T x y u,ty,pos,after,gd⟩) γ) z=ev γ z:=fun z hz=>Bo (o:=⟨some t,.binOp .eql T x y u,ty,pos,after,gd⟩) (by simp at hz;rcases hz with rfl|rfl<;>simp[Op.operands])
 refine .inl ⟨.bool r,⟨aB,.inl ⟨by rw[Ak];exact hw,(fun c e=>by cases e),Aa (fun c e=>by cases e),fun U' hU g w a hs hT=>?_⟩⟩,h⟩
 have:=HH (dst:=some t) (ty:=ty) (pos:=pos) (after:=after) (guard:=gd) (u:=u) ht hs hT hE hk (by rw[bi x (by simp),<-hc x (by simp)];exact hx) (by rw[bi y (by simp),<-hc y (by simp)];exact hy) hd false
 simpa using this
end
theorem UM(O:Sig):DCall prog 56 [] O (rS (.agg (Ag exB)) O):=by
 refine en func56 ntmps56 ?_
 refine gz ?_ [] [0]
 refine newV (fun i hi=>?_)
 refine gz ?_ [] [0]
 have e:Ag exB=[sl [[sl [],sl [[dI 0]],sl [[dI 0,dI 7]]],[sl [[dI 3]],sl [[dI 1]],sl []],[sl [[dI 4],[dI 3]],sl [],sl [[dI 0,dI 1]]]],dI 2,sl [[dI 1]],sl [[dI 1,dI 0,dI 2,dI 0,sl [],dI 3,dI 0,sl [],dI 0],[dI 2,dI 0,dI 3,dI 0,sl [[dI 0]],dI 0,dI 5,sl [],dI 3]],sl [[dI 17,dI 0,sl [[dI 1]]],[dI 4,dI 0,sl [[dI 2]]],[dI 3,dI 0,sl []],[dI 9,dI 0,sl [[dI 4],[dI 5]]],[dI 3,dI 0,sl []],[dI 3,dI 1,sl []],[dI 5,dI 0,sl [[dI 7]]],[dI 6,dI 5,sl []]],dI 6]:=by
  simp[exB,cI,Fp,Fact.op,Fact.arg,Fact.path,Fact.cls,Fact.n,Fact.kids]
 refine finC (U':=O) ⟨rfl,rfl⟩ (hw:=?_)
 rw[e]
 refine PZ ?_
 repeat' (first|exact A8 _|exact An _ (.inl rfl)|exact trivial|refine Jx _ ?_|refine⟨?_,?_⟩)
@[reducible,instance] def a56:=fun O=>ah0 (@UM O)
theorem DC(O:Sig):BH prog 16 [] O (rS (.bool true) O):=by
 have w3:exB.wt<=1073741824:=by decide +kernel
 have bz:(C2 exB exC).isSome=true:=by
  have h:=Td
  cases e:C2 exB exC with
  |none=>rw[e]at h;cases h
  |some W=>rfl
 have bx:=fun O:Sig=>UT exB O w3
 have bw:=fun O:Sig=>US exB exC O w3 (by decide) (by decide)
 have bu:=fun O:Sig=>L0 exC O (by decide) (by decide)
 have bt:=fun O:Sig=>KZ exC O (by decide) (by decide)
 rw[ex_code,UW]at bx
 rw[Td,bz]at bw
 rw[UV]at bu bt
 have i18:∀O,Ans 18 [.agg (Ag exB)] O True (.tup [.agg (cCPg exC),dI 0]):=fun O=>ah0 (bx O)
 have i25:∀O,Ans 25 [.agg (Ag exB),.agg (cCPg exC)] O True (.tup [sl (exL.map cLev),dI 0]):=fun O=>ah0 (bw O)
 have i36:∀O,Ans 36 [.agg (cCPg exC)] O True (.tup [.str (CA exC),dI 0]):=fun O=>ah0 (bu O)
 refine enW func16 ntmps16 ?_
 refine gz ?_ o16
 refine AL (bt O) (fun d S1 hr=>?_) (fun d S1 hr=>by cases hr.1)
 obtain⟨hd,rfl⟩:=hr
 cases hd
 refine gf (gi Tc (gi Ow VC)) ?_ o16
 refine neqS _ (decide ((⟨0,2⟩:CLev)=⟨0,2⟩)) Ti Re (eqLev ⟨0,2⟩ ⟨0,2⟩) ?_
 refine gf (gi Tc (gi Ow VC)) ?_ o16
 have g1:=fun O:Sig=>IM exB exC [] 9 [] [] .no O w3 (by decide) (by decide) (by decide) (by simp) (by decide) (by decide)
 have g2:=fun (o:Own) (O:Sig)=>IM exB exC [⟨5,[vInt 1,E8]⟩] 0 [] [vObj 0] o O w3 (by decide) (by decide) (by decide) (by simp) (by decide) (by decide)
 have g3:=fun O:Sig=>IM exB exC [] 0 [] [vInt 3] .no O w3 (by decide) (by decide) (by decide) (by simp) (by decide) (by decide)
 rw[ex_go1]at g1
 rw[ex_go2]at g2
 rw[ex_go3]at g3
 have e1:Es exH1=[dI 2,dI 0,dI 0,dI 0,sl [[dI 3,dI 0]],dI 0,dI 11,sl [],sl [],sl [[dI 5,sl [[dI 1,dI 1],[dI 2,dI 0]]]],sl []]:=rfl
 have e2:Es exH2=[dI 1,dI 1,dI 1,dI 0,sl [],dI 0,dI 0,sl [],sl [],sl [[dI 5,sl [[dI 1,dI 1],[dI 2,dI 0]]]],sl [[dI 2,dI 0,.slice [[dI 1,dI 1]] .clip]]]:=rfl
 have e3:Es exH3=[dI 4,dI 0,dI 0,dI 0,sl [],dI 5,dI 0,sl [],sl [],sl [],sl []]:=rfl
 simp only[Option.getD_some,Option.isSome_some,if_true,e1]at g1
 simp only[Option.getD_some,Option.isSome_some,if_true,e2]at g2
 simp only[Option.getD_some,Option.isSome_some,if_true,e3]at g3
 have bM:=fun (O:Sig)=>UN [vObj 0] [vObj 0] .no .clip O (by decide) (by decide)
 have aQ:∀O,DCall prog 53 [sl [[dI 3,dI 0]],.slice [[dI 3,dI 0]] .clip] O (rS (.bool true) O):=fun O=>(bM O).mono fun x U' ⟨h1,h2⟩=>⟨by rw[h1];simp,h2⟩
 refine rtl 73 (.agg (cFr 9 [] [])) ?_ (hw:=E6 ⟨A8 _,An _ (.inl rfl),An _ (.inl rfl),trivial⟩)
 refine TA (g1 S1) (fun d S2 hr=>?_) (fun d S2 hr=>by cases hr.1)
 obtain⟨hd,rfl⟩:=hr
 cases hd
 repeat' first|refine gz ?_|refine CX (aQ _) ?_|refine callPG (aQ _) ?_|refine gz ?_ o16|apply gy<;>intro hh
 refine rtl 111 (.agg (cFr 0 [] [vObj 0])) ?_ (hw:=E6 ⟨A8 _,An _ (.inl rfl),A8 _,trivial⟩)
 refine TA (g2 .no S2) (fun d S3 hr=>?_) (fun d S3 hr=>by cases hr.1)
 obtain⟨hd,rfl⟩:=hr
 cases hd
 have g3':∀O,DCall prog 13 [.agg (Ag exB),.agg (cCPg exC),.nils,.agg [dI 0,.nils,.slice [[dI 1,dI 3]] .clip]] O (rS (.tup [.agg [dI 4,dI 0,dI 0,dI 0,sl [],dI 5,dI 0,sl [],sl [],sl [],sl []],dI 0]) O):=fun O=>(g3 O).wk ⟨A8 _,A8 _,An _ (.inl rfl),E6 ⟨A8 _,An _ (.inl rfl),Bv _ _,trivial⟩,trivial⟩
 refine gz ?_ (delO 12 o16)
 refine mix (id:=12) [0,1,2,3,4,5,6,7,8,9,10,11] [9,10] ?_
 refine gz ?_ o16
 refine moQWR (fun U' _=>(Ot 3 U').mono fun x S'' hx=>⟨hx.1,hx.2 ▸ Sub.refl _⟩) ?_
 refine gz ?_ o16
 refine moQWR (fun U' _=>(g3' U').mono fun x S'' hx=>⟨hx.1,hx.2 ▸ Sub.refl _⟩) ?_
 refine gz ?_ o16
 refine Io (fun i12 a8=>?_)
 have aV:Sub S3 ((S3.set i12 (.cells [.int .i64 0,.int .i64 0,.int .i64 0,.int .i64 0,.nils,.int .i64 0,.int .i64 0,.nils,.nils,.nils,.nils])).set i12 (.cells [dI 4,dI 0,dI 0,dI 0,sl [],dI 5,dI 0,sl [],sl [],sl [],sl []])):=fun j o hj=>by
  have:=Af hj a8
  rw[w7 _ _ this,w7 _ _ this];exact hj
 refine FL Ac tdR (by simp;rfl) aV ?_
 simp only[w8]
 refine gz ?_ o16
 refine mo_eqlG Ac _ (decide (vInt 1=vInt 1)) Ox Oc (UY (vInt 1) (vInt 1)) ?_ tdR tdR tdR tdR tdR
 refine gz ?_ o16
 exact fin1 (U':=S3) ⟨rfl,rfl⟩
def zC:CProg:=⟨[],[],0⟩
def rdC(s:Str):CProg×Int:=if s.length<=5000 then(match Ez s with
 |none=>(zC,4)
 |some c=>(c,0)) else(zC,3)
theorem TO(e:D):WkD (.tup [.agg [.nils,.nils,dI 0],e]) (.tup [.agg (cCPg zC),e]):=
 CC ⟨E6 ⟨An _ (.inl rfl),An _ (.inl rfl),A8 _,trivial⟩,A8 _,trivial⟩
theorem Oq(s:Str)(O:Sig)(hs:s.length<=1073741824):DCall prog 38 [.str s] O (rS (.tup [.agg (cCPg (rdC s).1),dI (rdC s).2]) O):=by
 refine en func38 ntmps38 ?_
 by_cases hl:s.length<=5000
 rotate_left
 ·have hr:rdC s=(zC,3):=by unfold rdC;rw[if_neg hl]
  rw[hr]
  refine gz ?_ [] [2,4]
  refine newV (fun i hi=>?_)
  refine gf hl ?_ [] [2,4]
  refine finC (U':=O) (d:=.tup [.agg (cCPg zC),dI 3]) ⟨rfl,rfl⟩ (hw:=?_)
  exact TO _
 ·refine gz ?_ [] [2,4]
  refine newV (fun i2 aZ=>?_)
  refine gf hl ?_ [] [2,4]
  refine newV (fun i4 bD=>?_)
  refine gz ?_ [] [2,4]
  obtain⟨n24,aA⟩:=B5 bD
  have o4:((O.set i2 (.cells [.nils,.nils,dI 0])).set i4 (.cells [.nils,.nils,dI 0])) i4=some (.cells [.nils,.nils,dI 0]):=w6 ..
  have o2:((O.set i2 (.cells [.nils,.nils,dI 0])).set i4 (.cells [.nils,.nils,dI 0])) i2=some (.cells [.nils,.nils,dI 0]):=by rw[w7 _ _ n24.symm,w6]
  have hS:Sub O ((O.set i2 (.cells [.nils,.nils,dI 0])).set i4 (.cells [.nils,.nils,dI 0])):=((Sub.refl _).set aZ).set aA
  have hr:rdC s=match Ez s with
   |none=>(zC,4)
   |some c=>(c,0):=by unfold rdC;rw[if_pos hl]
  change DOps _ _ _ _ _ _ ⟨_,(O.set i2 (.cells [.nils,.nils,dI 0])).set i4 (.cells [.nils,.nils,dI 0]),_⟩
  generalize (O.set i2 (.cells [.nils,.nils,dI 0])).set i4 (.cells [.nils,.nils,dI 0])=S0 at*
  have am:∀i,S0 i=none->i≠i4:=fun i hi e=>by rw[e,o4]at hi;cases hi
  refine A3 (On 77 [.cptr [.str s] 0,.ptr i4 0] S0 (fun S1=>RdR s i4 S1) (fun i hi=>UH s i4 _ hl (by rw[w7 _ _ (am i hi).symm];exact o4)) (fun S1 d S2 h=>?_) (fun i S2 x hi h=>h.1 i _ (w6 ..) (am i hi))) (fun d U' ay=>?_) (fun d U' ay=>?_)
  ·obtain⟨_,h⟩:=h
   split at h
   ·simpa using h
   ·exact absurd h.1 (by simp)
  ·obtain⟨i,S2,hi,rfl,ay⟩:=ay
   have aL:∀j o,S0 j=some o->j≠i4->(S0.set i (.cells [.bool false])) j=some o/\j≠i:=fun j o hj e=>by
    have e2:j≠i:=fun e2=>by rw[e2,hi]at hj;cases hj
    exact⟨by rw[w7 _ _ e2];exact hj,e2⟩
   rcases ay with⟨e,⟨hK,h⟩,h2⟩|⟨⟨hK,h⟩,h2⟩
   ·cases h2
    split at h
    ·cases h
    ·rename_i c hc
     obtain⟨_,ho⟩:=h
     rw[hc]at hr
     have aI:∀j o,S0 j=some o->j≠i4->(S2.del i) j=some o:=fun j o hj e=>by
      obtain⟨q1,q2⟩:=aL j o hj e
      simp only[Sig.del,q2,if_false];exact hK j o q1 e
     have p2:=aI _ _ o2 n24.symm
     have p4:(S2.del i) i4=some (.cells (cCPg c)):=by simp only[Sig.del,(am i hi).symm,if_false];exact ho
     have pS:∀j o,O j=some o->j≠i4->(S2.del i) j=some o:=fun j o hj e=>aI j o (hS j o hj) e
     generalize S2.del i=S3 at*
     refine gf (gi p2 p4) ?_ [] [2,4]
     refine finC (U':=O) (d:=.tup [.agg (cCPg (rdC s).1),dI (rdC s).2]) ⟨rfl,rfl⟩ (hw:=?_) (hU:=fun j o hj=>?_)
     ·rw[hr];exact A8 _
     ·have e2:=Af hj aZ
      have e4:=Af hj aA
      rw[w7 _ _ e2];exact pS j o hj e4
   ·cases h2
    split at h
    ·rename_i hc
     rw[hc]at hr
     have aI:∀j o,S0 j=some o->j≠i4->(S2.del i) j=some o:=fun j o hj e=>by
      obtain⟨q1,q2⟩:=aL j o hj e
      simp only[Sig.del,q2,if_false];exact hK j o q1 e
     have p2:=aI _ _ o2 n24.symm
     have pS:∀j o,O j=some o->j≠i4->(S2.del i) j=some o:=fun j o hj e=>aI j o (hS j o hj) e
     generalize S2.del i=S3 at*
     refine gf p2 ?_ [] [2,4]
     refine finC (U':=O) (d:=.tup [.agg (cCPg (rdC s).1),dI (rdC s).2]) ⟨rfl,rfl⟩ (hw:=?_) (hU:=fun j o hj=>?_)
     ·rw[hr];exact TO _
     ·have e2:=Af hj aZ
      have e4:=Af hj aA
      rw[w7 _ _ e2];exact pS j o hj e4
    ·exact absurd h.1 (by simp)
  ·obtain⟨i,S2,hi,rfl,ay⟩:=ay
   rcases ay with⟨e,_,h2⟩|⟨_,h2⟩<;>cases h2
theorem RdS.st_push{ic i1 i2:Nat}{ins:List CIns}{st:List Int}{m:Int}{S0 O:Sig}(h:RdS ic i1 i2 ins st m S0 O)(h2:S0 i2=none)(n:Int):RdS ic i1 i2 ins (st++[n]) m S0 ((O.set i2 (.tail 1 (st.length+1))).set ic (.cells [.slice (ins.map cIns) (.tag i1),.slice (cI st++[[dI n]]) (.tag i2),dI m])):=by
 have n1:ic≠i1:=ne_some h.oc h.o1 (by simp)
 have n2:ic≠i2:=ne_some h.oc h.o2 (by simp)
 have ea:cI (st++[n])=cI st++[[dI n]]:=by simp[cI]
 exact⟨by rw[w6,ea],by rw[w7 _ _ n1.symm,w7 _ _ h.ne];exact h.o1,by rw[w7 _ _ n2.symm,w6,List.length_append];rfl,h.ne,fun j o hj e=>by rw[w7 _ _ e,w7 _ _ (Af hj h2)];exact h.keep j o hj e⟩
theorem RdS.ins_push{ic i1 i2:Nat}{ins:List CIns}{st:List Int}{m:Int}{S0 O:Sig}(h:RdS ic i1 i2 ins st m S0 O)(h1:S0 i1=none)(x:CIns):RdS ic i1 i2 (ins++[x]) st m S0 ((O.set i1 (.tail 2 (ins.length+1))).set ic (.cells [.slice (ins.map cIns++[cIns x]) (.tag i1),.slice (cI st) (.tag i2),dI m])):=by
 have n1:ic≠i1:=ne_some h.oc h.o1 (by simp)
 have n2:ic≠i2:=ne_some h.oc h.o2 (by simp)
 have ea:(ins++[x]).map cIns=ins.map cIns++[cIns x]:=by simp
 exact⟨by rw[w6,ea],by rw[w7 _ _ n1.symm,w6,List.length_append];rfl,by rw[w7 _ _ n2.symm,w7 _ _ h.ne.symm];exact h.o2,h.ne,fun j o hj e=>by rw[w7 _ _ e,w7 _ _ (Af hj h1)];exact h.keep j o hj e⟩
def rdB(ic i1 i2:Nat)(ins:List CIns)(st:List Int)(m:Int)(S0:Sig):Sig:=((S0.set i1 (.tail 2 ins.length)).set i2 (.tail 1 st.length)).set ic (.cells [.slice (ins.map cIns) (.tag i1),.slice (cI st) (.tag i2),dI m])
theorem RdS.sub{ic i1 i2:Nat}{ins:List CIns}{st:List Int}{m:Int}{S0 O:Sig}(h:RdS ic i1 i2 ins st m S0 O):Sub (rdB ic i1 i2 ins st m S0) O:=fun j o hj=>by
 unfold rdB at hj
 by_cases e:j=ic
 ·subst e;rw[w6]at hj;rw[h.oc];exact hj
 ·rw[w7 _ _ e]at hj
  by_cases e2:j=i2
  ·subst e2;rw[w6]at hj;rw[h.o2];exact hj
  ·rw[w7 _ _ e2]at hj
   by_cases e1:j=i1
   ·subst e1;rw[w6]at hj;rw[h.o1];exact hj
   ·rw[w7 _ _ e1]at hj;exact h.keep j o hj e
theorem RdS.of_rdB{ic i1 i2:Nat}{ins:List CIns}{st:List Int}{m:Int}{S0 O:Sig}(h:RdS ic i1 i2 ins st m S0 O){ins':List CIns}{st':List Int}{m':Int}(h1:S0 i1=none)(h2:S0 i2=none):RdS ic i1 i2 ins' st' m' S0 (rdB ic i1 i2 ins' st' m' S0):=by
 have n1:ic≠i1:=ne_some h.oc h.o1 (by simp)
 have n2:ic≠i2:=ne_some h.oc h.o2 (by simp)
 exact⟨w6 .., by unfold rdB;rw[w7 _ _ n1.symm,w7 _ _ h.ne,w6],by unfold rdB;rw[w7 _ _ n2.symm,w6],h.ne,fun j o hj e=>by unfold rdB;rw[w7 _ _ e,w7 _ _ (Af hj h2),w7 _ _ (Af hj h1)];exact hj⟩
theorem rdC_len(s:Str):(rdC s).1.ins.length<=300/\(rdC s).1.starts.length<=16:=by
 unfold rdC
 split
 ·split
  ·simp[zC]
  ·rename_i c h
   obtain⟨h1,h2,_⟩:=(JH c).1 ((Id s c).1 h).1
   exact⟨h1,h2⟩
 ·simp[zC]
end Go.DL
